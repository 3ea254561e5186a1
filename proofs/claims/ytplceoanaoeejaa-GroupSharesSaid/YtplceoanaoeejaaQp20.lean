/- A text of a proof over this seat: walks over the program's functions and the plain laws that they need. -/
import Derived.Test.YtplceoanaoeejaaQp19
import Derived.Test.YtplceoanaoeejaaGpA
import Derived.Test.YtplceoanaoeejaaFwC
import Derived.Test.YtplceoanaoeejaaFwB
set_option linter.all false
namespace Go.Proofs.Ytplceoanaoeejaa
open Go.Fw
theorem fn23 : FnOk Try.prog 23 := ⟨_, Try.func23, rfl, by kernel_rfl⟩

set_option maxRecDepth 4000 in
set_option maxHeartbeats 2000000 in
theorem lawS_ct (v : Value) (l : List Int) (v2 : Value) (m : List Int) (h : Int) (hh9 : -9223372036854775808 ≤ h ∧ h ≤ 9223372036854775807) (b : Int) (hb9 : -9223372036854775808 ≤ b ∧ b ≤ 9223372036854775807) (n : Int) (hn9 : -9223372036854775808 ≤ n ∧ n ≤ 9223372036854775807) (d : Int) (hd9 : -9223372036854775808 ≤ d ∧ d ≤ 9223372036854775807) (v7 : Value) (mo : List Int) (hmo8 : mo.length * 8 ≤ 140737488355328) (w : World) (hl : Sl encI (ph w) v l) (hm : Sl encI (ph w) v2 m) (hmo : Sl encI (ph w) v7 mo) : Ct Try.prog 4 [v, v2, vi h, vi b, vi n, vi d, v7] w (fun r _ _ => r = .bool true) := by
 refine fn_enter Try.func4 rfl Try.ntmps4 (Nat.le_of_ble_eq_true rfl) fun a hF hS => ?_
 have hd11 := Gu.arnd_range (n := d) (m := 11) (by decide)
 have hmor := sl_rng hmo
 refine wp_seq_k ?_; intro K1 hK1
 refine reg hF hS (sq rfl (q_assign rfl) <|
   sq_end) ?_
 clear hF hS; intro a w hF hS
 refine hK1 _ _ ?_
 clear hK1
 refine wp_seq_k ?_; intro K2 hK2
 refine wp_seq_k ?_; intro K3 hK3
 refine reg hF hS (sq rfl (q_assign rfl) <|
   sq_end) ?_
 clear hF hS; intro a w hF hS
 refine hK3 _ _ ?_
 clear hK3
 refine wp_block ?_
 obtain ⟨hs0, hhs0, hS⟩ : ∃ h, h = _ ∧ St _ _ h _ := ⟨_, rfl, hS⟩
 refine wp_loopx (γ := Int) (-1) (fun (i0 : Int) => [(15, vi i0)]) [(0, _), (1, _), (2, _), (3, _), (4, _), (5, _), (6, _)] (fun (i0 : Int) => hs0) (fun (i0 : Int) => -1 ≤ i0 ∧ i0 ≤ 10) (fun (i0 : Int) => (10 - i0).toNat) (hF.sub ⟨rfl, rfl, rfl, rfl, rfl, rfl, rfl, rfl, trivial⟩) (by subst hhs0; exact hS) (by exact ⟨Int.le_refl _, by omega⟩) ?_
 clear hF hS; rintro i0 a w hfact hF hS
 subst hhs0; (try dsimp only at hfact); (try dsimp only at hF); (try dsimp only at hS)
 obtain ⟨hi00, hi01⟩ := hfact
 replace hS : St _ [] [] _ := hS
 refine wp_seq_k ?_; intro K4 hK4
 refine wp_seq_k ?_; intro K5 hK5
 refine reg hF hS (sq rfl (q_move rfl) <|
   sq rfl (q_lei rfl rfl) <|
   sq_end) ?_
 clear hF hS; intro a w hF hS
 refine hK5 _ _ ?_
 clear hK5
 refine wp_ifd hF rfl (fun hc1 => ?_) (fun hc1 => ?_)
 ·refine wp_skip ?_
  refine hK4 _ _ ?_
  clear hK4
  refine wp_seq_k ?_; intro K6 hK6
  refine wp_block ?_
  refine wp_seq_k ?_; intro K7 hK7
  refine reg hF hS (sq rfl (q_move rfl) <|
    sq rfl (q_move rfl) <|
    sq rfl (q_call fn20 rfl (fun w hS => arnd_ct _ _ (by omega) (by omega) w ) (fun _ _ _ h => h)) <|
    sq rfl (q_subi rfl rfl (by omega)) <|
    sq rfl (q_call fn19 rfl (fun w hS => most_ct _ _ w ) (fun _ _ _ h => h)) <|
    sq rfl (q_move rfl) <|
    sq rfl (q_extract rfl rfl) <|
    sq rfl (q_extract rfl rfl) <|
    sq rfl (q_assign rfl) <|
    sq rfl (q_assign rfl) <|
    sq_end) ?_
  clear hF hS; intro a w hF hS
  refine hK7 _ _ ?_
  clear hK7
  refine wp_seq_k ?_; intro K8 hK8
  refine reg hF hS (sq rfl (q_move rfl) <|
    sq rfl (q_move rfl) <|
    sq rfl (q_call fn20 rfl (fun w hS => arnd_ct _ _ (by omega) (by omega) w ) (fun _ _ _ h => h)) <|
    sq rfl (q_subi rfl rfl (by omega)) <|
    sq rfl (q_call fn21 rfl (fun w hS => rmost_ct _ _ w ) (fun _ _ _ h => h)) <|
    sq rfl (q_move rfl) <|
    sq rfl (q_extract rfl rfl) <|
    sq rfl (q_extract rfl rfl) <|
    sq rfl (q_assign rfl) <|
    sq rfl (q_assign rfl) <|
    sq_end) ?_
  clear hF hS; intro a w hF hS
  refine hK8 _ _ ?_
  clear hK8
  refine wp_seq_k ?_; intro K9 hK9
  refine reg hF hS (sq rfl (q_move rfl) <|
    sq rfl (q_move rfl) <|
    sq rfl (q_nf (q_nei rfl rfl) (rfl)) <|
    sq rfl (q_move rfl) <|
    sq_go 63 rfl rfl rfl (q_move rfl) <|
    sq_go 63 rfl rfl rfl (q_move rfl) <|
    sq_go 63 rfl rfl rfl (q_nf (q_nei rfl rfl) (rfl)) <|
    sq rfl (q_pick_f rfl rfl) <|
    sq_end) ?_
  clear hF hS; intro a w hF hS
  refine hK9 _ _ ?_
  clear hK9
  refine wp_if hF rfl (fun h => absurd h (by simp)) (fun _ => ?_)
  refine wp_skip ?_
  refine hK6 _ _ ?_
  clear hK6
  refine reg hF hS (sq rfl (q_move rfl) <|
    sq rfl (q_addi rfl rfl (by omega)) <|
    sq rfl (q_assign rfl) <|
    sq_end) ?_
  clear hF hS; intro a w hF hS
  refine ⟨(i0 + 1), ?_, ?_, hF.sub ⟨rfl, rfl, rfl, rfl, rfl, rfl, rfl, rfl, trivial⟩, ?_⟩
  ·(try dsimp only); omega
  ·(try dsimp only); omega
  ·exact hS
 ·refine wp_exit ?_
  refine hK2 _ _ ?_
  clear hK2
  refine wp_seq_k ?_; intro K10 hK10
  refine reg hF hS (sq rfl (q_move rfl) <|
    sq rfl (q_move rfl) <|
    sq rfl (q_call fn19 rfl (fun w hS => most_ct _ _ w ) (fun _ _ _ h => h)) <|
    sq rfl (q_move rfl) <|
    sq rfl (q_extract rfl rfl) <|
    sq rfl (q_extract rfl rfl) <|
    sq rfl (q_assign rfl) <|
    sq rfl (q_assign rfl) <|
    sq_end) ?_
  clear hF hS; intro a w hF hS
  refine hK10 _ _ ?_
  clear hK10
  refine wp_seq_k ?_; intro K11 hK11
  refine reg hF hS (sq rfl (q_move rfl) <|
    sq rfl (q_move rfl) <|
    sq rfl (q_call fn21 rfl (fun w hS => rmost_ct _ _ w ) (fun _ _ _ h => h)) <|
    sq rfl (q_move rfl) <|
    sq rfl (q_extract rfl rfl) <|
    sq rfl (q_extract rfl rfl) <|
    sq rfl (q_assign rfl) <|
    sq rfl (q_assign rfl) <|
    sq_end) ?_
  clear hF hS; intro a w hF hS
  refine hK11 _ _ ?_
  clear hK11
  refine wp_seq_k ?_; intro K12 hK12
  refine regl ?_
  refine wpl_sq hF hS (sq rfl (q_move rfl) <|
    sq rfl (q_move rfl) <|
    sq rfl (q_move rfl) <|
    sq rfl (q_move rfl) <|
    sq_end) ?_
  clear hF hS; intro a w hF hS
  refine wpl_ef hF hS rfl (ef_call fn8 rfl (fun w hS => cases_ct _ _ _ _ _ _ (by omega) (by omega) w (Sl.mono (hS.le zin0) hl) (Sl.mono (hS.le zin0) hm))) ?_
  clear hF hS; rintro _ _ _ a w ⟨_, _, rfl, rfl, ⟨vx, vq, vm, ls, qs, ms, zC, rfl, hsL, hsq, hsm, ⟨hl5, hq5, hm5⟩, hlL, hlq, hlm, rfl, rfl⟩⟩ hF hS
  replace hS : St _ [_] [] _ := hS
  refine wpl_sq hF hS (sq rfl (q_move rfl) <|
    sq rfl (q_extract rfl rfl) <|
    sq rfl (q_extract rfl rfl) <|
    sq rfl (q_extract rfl rfl) <|
    sq rfl (q_assign rfl) <|
    sq rfl (q_assign rfl) <|
    sq rfl (q_assign rfl) <|
    sq_end) ?_
  clear hF hS; intro a w hF hS
  refine wpList_nil ?_
  refine hK12 _ _ ?_
  clear hK12
  refine wp_seq_k ?_; intro K13 hK13
  refine wp_seq_k ?_; intro K14 hK14
  refine reg hF hS (sq rfl (q_assign rfl) <|
    sq_end) ?_
  clear hF hS; intro a w hF hS
  refine hK14 _ _ ?_
  clear hK14
  refine wp_block ?_
  obtain ⟨hs0, hhs0, hS⟩ : ∃ h, h = _ ∧ St _ _ h _ := ⟨_, rfl, hS⟩
  refine wp_loopx (γ := Int) (0) (fun (i : Int) => [(27, vi i)]) [(2, _), (3, _), (6, _), (21, _), (23, _), (24, _), (25, _), (26, _)] (fun (i : Int) => hs0) (fun (i : Int) => 0 ≤ i ∧ i ≤ 5) (fun (i : Int) => (5 - i).toNat) (hF.sub ⟨rfl, rfl, rfl, rfl, rfl, rfl, rfl, rfl, rfl, trivial⟩) (by subst hhs0; exact hS) (by exact ⟨Int.le_refl _, by omega⟩) ?_
  clear hF hS; rintro i a w hfact hF hS
  subst hhs0; (try dsimp only at hfact); (try dsimp only at hF); (try dsimp only at hS)
  obtain ⟨hi0, hi1⟩ := hfact
  replace hS : St _ [_] [] _ := hS
  refine wp_seq_k ?_; intro K15 hK15
  refine wp_seq_k ?_; intro K16 hK16
  refine reg hF hS (sq rfl (q_move rfl) <|
    sq rfl (q_move rfl) <|
    sq rfl (q_len_sl ty23 hsL rfl) <|
    sq rfl (q_lti rfl rfl) <|
    sq_end) ?_
  clear hF hS; intro a w hF hS
  refine hK16 _ _ ?_
  clear hK16
  refine wp_ifd hF rfl (fun hc3 => ?_) (fun hc3 => ?_)
  ·obtain ⟨nv, sv, bv, ns, is, bs, hxi, hcel, hn9, hs9, hb99⟩ := lat_at hsL (k := i.toNat) (by omega)
   obtain ⟨qB, qu, qC, hqi, hqcel, hqB, hqC⟩ := que_at hsq (k := i.toNat) (by omega)
   obtain ⟨hln1, hln2, hln3⟩ : ns.length ≤ 40 ∧ is.length ≤ 40 ∧ bs.length ≤ 40 := hlL _ (List.mem_of_getElem? hxi)
   have hlq9 : qC.length ≤ 9 := hlq _ (List.mem_of_getElem? hqi)
   have hlm9 : (ms.getD i.toNat []).length ≤ 40 := hlm _ (by rw [List.getD_eq_getElem?_getD, List.getElem?_eq_getElem (by omega)]; exact List.getElem_mem _)
   refine wp_skip ?_
   refine hK15 _ _ ?_
   clear hK15
   refine wp_seq_k ?_; intro K17 hK17
   refine wp_block ?_
   refine wp_seq_k ?_; intro K18 hK18
   revert hS; revert hF; apply regJ (J := J3 (α0 := Value) (α1 := Value) (α2 := PH) 231 _ _ _ _ _) #[false, false, false, false, false, false, false, false, false, false, false, false, false, false, false, false, false, false, false, false] 20 mixed rfl rfl
   ·intro w hF hS
    refine goW_take 0 _ rfl kQ rfl hF (hS.keep sQ zQ) (q_move rfl) ?_
    clear hF; intro a hF
    refine goW_take 1 _ rfl kQ rfl hF (hS.keep sQ zQ) (q_move rfl) ?_
    clear hF; intro a hF
    refine goW_take 2 _ rfl kQ rfl hF (hS.keep sQ zQ) (q_idx_sl ty23 ty33 hsL rfl rfl (by omega)) ?_
    clear hF; intro a hF
    refine goW_take 3 _ rfl kQ rfl hF (hS.keep sQ zQ) (q_ld_lat ty33 hsL (.inr (by simp)) hcel rfl rfl (by omega)) ?_
    clear hF; intro a hF
    refine goW_take 4 _ rfl kQ rfl hF (hS.keep sQ zQ) (q_move rfl) ?_
    clear hF; intro a hF
    refine goW_take 5 _ rfl kQ rfl hF (hS.keep sQ zQ) (q_move rfl) ?_
    clear hF; intro a hF
    refine goW_take 6 _ rfl kQ rfl hF (hS.keep sQ zQ) (q_idx_sl ty24 ty37 hsq rfl rfl (by omega)) ?_
    clear hF; intro a hF
    refine goW_take 7 _ rfl kQ rfl hF (hS.keep sQ zQ) (q_ld_que ty37 hsq (.inr (by simp)) hqcel rfl rfl (by omega)) ?_
    clear hF; intro a hF
    refine goW_take 8 _ rfl kQ rfl hF (hS.keep sQ zQ) (q_move rfl) ?_
    clear hF; intro a hF
    refine goW_take 9 _ rfl kQ rfl hF (hS.keep sQ zQ) (q_move rfl) ?_
    clear hF; intro a hF
    refine goW_take 10 _ rfl kQ rfl hF (hS.keep sQ zQ) (q_idx_sl ty25 ty29 hsm rfl rfl (by omega)) ?_
    clear hF; intro a hF
    refine goW_take 11 _ rfl kQ rfl hF (hS.keep sQ zQ) (q_ld_Sl ty29 hsm (.inr (by simp)) rfl rfl (by omega)) ?_
    clear hF; intro a hF
    refine gQ 12 rfl rfl hF hS rfl (ef_call fn14 rfl (fun w hS => rhalved_ct _ _ _ _ _ _ _ _ _ _ w (sl_one' hn9) (Sl.mono (hS.le (.inr (by simp))) hs9) (Sl.mono (hS.le (.inr (by simp))) hb99) (Sl.mono (hS.le (.inr (by simp))) hqC) (Sl.mono (hS.le (.inr (by simp))) (elemV_sl hsm (by omega))))) ?_
    clear hF hS; rintro _ _ _ a w ⟨_, _, rfl, rfl, ⟨vT, vK, zT, hzT, hzK, rfl, rfl, rfl⟩⟩ hF hS
    refine ⟨⟨iQ, iQ, .inr (hS.keep (sQ.n) zQ), .inr (hS.keep (sQ.n) zQ), iQ, iQ, .inr (hS.keep (sQ.n) zQ), .inr (hS.keep (sQ.n) zQ), iQ, iQ, .inr (hS.keep (sQ.n) zQ), .inr (hS.keep (sQ.n) zQ), trivial⟩, ?_⟩
    refine goW_take 13 _ rfl kQ rfl hF (hS.keep sQ zQ) (q_move rfl) ?_
    clear hF; intro a hF
    refine goW_take 14 _ rfl kQ rfl hF (hS.keep sQ zQ) (q_extract rfl rfl) ?_
    clear hF; intro a hF
    refine goW_take 15 _ rfl kQ rfl hF (hS.keep sQ zQ) (q_extract rfl rfl) ?_
    clear hF; intro a hF
    refine goW_take 16 _ rfl kQ rfl hF (hS.keep sQ zQ) (q_extract rfl rfl) ?_
    clear hF; intro a hF
    refine goW_take 17 _ rfl kQ rfl hF (hS.keep sQ zQ) (q_assign rfl) ?_
    clear hF; intro a hF
    refine goW_take 18 _ rfl kQ rfl hF (hS.keep sQ zQ) (q_assign rfl) ?_
    clear hF; intro a hF
    refine goW_take 19 _ rfl kQ rfl hF (hS.keep sQ zQ) (q_assign rfl) ?_
    clear hF; intro a hF
    exact goW_done kQ (j3_mk vT vK zT ((And.intro hzT (And.intro hzK trivial))) (hF.sub (L' := [(2, _), (3, _), (6, _), (21, _), (23, _), (24, _), (25, _), (26, _), (27, _), (29, _)]) ⟨rfl, rfl, rfl, rfl, rfl, rfl, rfl, rfl, rfl, rfl, trivial⟩) hS)
   rintro a w ⟨vT, vK, zT, ⟨hzT, hzK, -⟩, hF, hS⟩
   (try dsimp only at hF); (try dsimp only at hS)
   obtain ⟨hTl, hAl, hTr, hAr⟩ := Gp.hAT_len is bs (ms.getD i.toNat []) qB qC
   obtain ⟨T, hTq⟩ : ∃ T, T = Gp.hT is bs (ms.getD i.toNat []) qB qC := ⟨_, rfl⟩
   obtain ⟨A9, hAq⟩ : ∃ A, A = Gp.hA is bs (ms.getD i.toNat []) qB qC := ⟨_, rfl⟩
   rw [← hTq] at hzT hTl hTr
   rw [← hAq] at hzK hAl hAr
   refine hK18 _ _ ?_
   clear hK18
   refine wp_seq_k ?_; intro K19 hK19
   revert hS; revert hF; apply regJ (J := J3 (α0 := Value) (α1 := Value) (α2 := Value) 231 _ _ _ _ _) #[false, false, false, false, false, false, false, false, false, false] 10 mixed rfl rfl
   ·intro w hF hS
    refine goW_take 1 _ rfl kQ rfl hF (hS.keep sQ zQ) (q_move rfl) ?_
    clear hF; intro a hF
    refine goW_take 3 _ rfl kQ rfl hF (hS.keep sQ zQ) (q_move rfl) ?_
    clear hF; intro a hF
    refine goW_take 4 _ rfl kQ rfl hF (hS.keep sQ zQ) (q_move rfl) ?_
    clear hF; intro a hF
    refine goW_take 5 _ rfl kQ rfl hF (hS.keep sQ zQ) (q_len_sl ty22 hzK rfl) ?_
    clear hF; intro a hF
    refine goW_take 6 _ rfl kQ rfl hF (hS.keep sQ zQ) (q_quoi rfl rfl (by omega)) ?_
    clear hF; intro a hF
    refine goW_take 7 _ rfl kQ rfl hF (hS.keep sQ zQ) (q_slsl_hi ty22 ty3 hzK rfl rfl (by omega)) ?_
    clear hF; intro a hF
    refine gQ 0 rfl rfl hF hS rfl (ef_bslice0 ty22 ty3) ?_
    clear hF hS; rintro v_15_0 _ _ a w ⟨rfl, rfl⟩ hF hS
    refine ⟨⟨.inr (hS.keep sQ zQ), .inr (hS.keep sQ zQ), .inr (hS.keep sQ zQ), .inr (hS.keep sQ zQ), .inr (hS.keep sQ zQ), .inr (hS.keep sQ zQ), trivial⟩, ?_⟩
    refine gQ 2 rfl rfl hF hS rfl (ef_append ty22 ty3 0 rfl rfl rfl (src_slV ty22 hzK (.inr (by simp))) bQ rfl (by decide)) ?_
    clear hF hS; rintro v_15_2 _ _ a w ⟨rfl, rfl⟩ hF hS
    refine ⟨⟨.inr (hS.keep sQ zQ), .inr (hS.keep sQ zQ), .inr (hS.keep sQ zQ), .inr (hS.keep sQ zQ), .inr (hS.keep sQ zQ), iQ, trivial⟩, ?_⟩
    refine gQ 8 rfl rfl hF hS rfl (ef_append ty22 ty3 0 rfl rfl rfl (src_slV ty22 (Sl.cut hzK (by omega)) (.inr (by simp))) bQ rfl (by decide)) ?_
    clear hF hS; rintro v_15_8 _ _ a w ⟨rfl, rfl⟩ hF hS
    refine ⟨⟨iQ, iQ, .inr (hS.keep sQ zQ), .inr (hS.keep sQ zQ), iQ, iQ, trivial⟩, ?_⟩
    refine goW_take 9 _ rfl kQ rfl hF (hS.keep sQ zQ) (q_assign rfl) ?_
    clear hF; intro a hF
    exact goW_done kQ (j3_mk v_15_0 v_15_2 v_15_8 (trivial) (hF.sub (L' := [(2, _), (3, _), (6, _), (21, _), (23, _), (24, _), (25, _), (26, _), (27, _), (29, _)]) ⟨rfl, rfl, rfl, rfl, rfl, rfl, rfl, rfl, rfl, rfl, trivial⟩) hS)
   rintro a w ⟨v_15_0, v_15_2, v_15_8, -, hF, hS⟩
   (try dsimp only at hF); (try dsimp only at hS)
   replace hS := hS.rowEq (m' := List.length (A9 ++ (A9.take ((A9.length : Int) / 2).toNat).drop 0)) (cs' := List.map vi (A9 ++ (A9.take ((A9.length : Int) / 2).toNat).drop 0)) (by simp) (by simp)
   obtain ⟨zW, hzW, hS⟩ := St.freezeV (h0 := fun _ => rfl) (f := vi) (p := fun x => -9223372036854775808 ≤ x ∧ x ≤ 9223372036854775807) (xs := A9 ++ (A9.take ((A9.length : Int) / 2).toNat).drop 0) hS rfl (by simp; omega) (fun x hx => by rcases List.mem_append.1 hx with h | h; exact hAr x h; exact hAr x (List.mem_of_mem_take (List.mem_of_mem_drop h)))
   replace hS : St _ [_, _, _] [] _ := hS
   obtain ⟨AS, hAS⟩ : ∃ AS, AS = A9 ++ (A9.take ((A9.length : Int) / 2).toNat).drop 0 := ⟨_, rfl⟩
   rw [← hAS] at hzW
   have hASl : AS.length ≤ 24 := by rw [hAS, List.length_append, List.length_drop, List.length_take]; omega
   have har := Gu.arnd_range (n := b) (m := (AS.length : Int) + 1) (by omega)
   refine hK19 _ _ ?_
   clear hK19
   refine wp_seq_k ?_; intro K20 hK20
   refine regl ?_
   refine wpl_ef hF hS rfl (ef_bslice0 ty22 ty3) ?_
   clear hF hS; rintro v2 _ _ a w ⟨rfl, rfl⟩ hF hS
   replace hS : St _ [_, _, _] [_] _ := hS
   refine wpl_sq hF hS (sq rfl (q_move rfl) <|
     sq rfl (q_move rfl) <|
     sq rfl (q_move rfl) <|
     sq rfl (q_len_sl ty22 hzW rfl) <|
     sq rfl (q_addi rfl rfl (by omega)) <|
     sq rfl (q_call fn20 rfl (fun w hS => arnd_ct _ _ (by omega) (by omega) w ) (fun _ _ _ h => h)) <|
     sq rfl (q_slsl_hi ty22 ty3 hzW rfl rfl (by omega)) <|
     sq_end) ?_
   clear hF hS; intro a w hF hS
   refine wpl_ef hF hS rfl (ef_append ty22 ty3 0 rfl rfl rfl (src_slV ty22 (Sl.cut hzW (by omega)) (.inr (by simp))) bQ rfl (by decide)) ?_
   clear hF hS; rintro v4 _ _ a w ⟨rfl, rfl⟩ hF hS
   replace hS : St _ [_, _, _] [_] _ := hS
   refine wpl_sq hF hS (sq rfl (q_assign rfl) <|
     sq_end) ?_
   clear hF hS; intro a w hF hS
   refine wpList_nil ?_
   obtain ⟨k9, hk9⟩ : ∃ k, k = Gu.arnd b ((AS.length : Int) + 1) := ⟨_, rfl⟩
   rw [← hk9] at har hF hS
   replace hS := hS.rowEq (m' := List.length ((AS.take k9.toNat).drop 0)) (cs' := List.map vi ((AS.take k9.toNat).drop 0)) (by simp) (by simp)
   replace hS : St _ [_, _, _] [_] _ := hS
   obtain ⟨KN, hKN⟩ : ∃ KN, KN = (AS.take k9.toNat).drop 0 := ⟨_, rfl⟩
   rw [← hKN] at hS
   have hKNl : KN.length ≤ 24 := by rw [hKN, List.length_drop, List.length_take]; omega
   have hKNr : ∀ y ∈ KN, -9223372036854775808 ≤ y ∧ y ≤ 9223372036854775807 := fun y hy => sl_rng hzW y (by rw [hKN] at hy; exact List.mem_of_mem_take (List.mem_of_mem_drop hy))
   refine hK20 _ _ ?_
   clear hK20
   obtain ⟨hs0, hhs0, hS⟩ : ∃ h, h = _ ∧ St _ _ h _ := ⟨_, rfl, hS⟩
   refine wp_cutx (γ := Value × List Int) (fun (gg : Value × List Int) => match gg with | (u, KL) => [(31, u)]) [(2, _), (3, _), (6, _), (21, _), (23, _), (24, _), (25, _), (26, _), (27, _), (29, _)] (fun (gg : Value × List Int) => match gg with | (u, KL) => (hs0.set 0 (.row u 3 1 KL.length (KL.map vi)))) (fun (gg : Value × List Int) => match gg with | (u, KL) => KL.length ≤ 17592186044500 ∧ ∀ y ∈ KL, -9223372036854775808 ≤ y ∧ y ≤ 9223372036854775807) (hF.sub ⟨rfl, rfl, rfl, rfl, rfl, rfl, rfl, rfl, rfl, rfl, trivial⟩) hS ?_ ?_
   ·subst hhs0
    refine wp_seq_k ?_; intro K21 hK21
    refine reg hF hS (sq rfl (q_move rfl) <|
      sq rfl (q_remi' rfl rfl (by decide)) <|
      sq rfl (q_eqi rfl rfl) <|
      sq_end) ?_
    clear hF hS; intro a w hF hS
    refine hK21 _ _ ?_
    clear hK21
    refine wp_ifd hF rfl (fun hc4 => ?_) (fun hc4 => ?_)
    ·refine regl ?_
     refine wpl_sq hF hS (sq rfl (q_move rfl) <|
       sq rfl (q_move rfl) <|
       sq_end) ?_
     clear hF hS; intro a w hF hS
     refine wpl_ef hF hS rfl (ef_appendW ty22 ty3 0 rfl rfl rfl (src_slV ty22 hmo zin0) bQ rfl (by decide)) ?_
     clear hF hS; rintro v5 _ _ a w ⟨rfl, rfl⟩ hF hS
     replace hS : St _ [_, _, _] [_] _ := hS
     refine wpl_sq hF hS (sq rfl (q_assign rfl) <|
       sq_end) ?_
     clear hF hS; intro a w hF hS
     refine wpList_nil ?_
     refine ⟨(v5, (KN ++ mo)), ?_, hF.sub ⟨rfl, rfl, rfl, rfl, rfl, rfl, rfl, rfl, rfl, rfl, rfl, trivial⟩, ?_⟩
     ·exact ⟨by rw [List.length_append]; omega, fun y hy => by rcases List.mem_append.1 hy with hy | hy; exact hKNr y hy; exact hmor y hy⟩
     ·dsimp only; rw [List.length_append, List.map_append]; exact hS
    ·refine wp_skip ?_
     refine ⟨(v4, KN), ?_, hF.sub ⟨rfl, rfl, rfl, rfl, rfl, rfl, rfl, rfl, rfl, rfl, rfl, trivial⟩, ?_⟩
     ·exact ⟨by omega, hKNr⟩
     ·exact hS
   clear hF hS; rintro ⟨u, KL⟩ a w hfact hF hS
   subst hhs0; (try dsimp only at hfact); (try dsimp only at hF); (try dsimp only at hS)
   obtain ⟨hKl, hKr⟩ := hfact
   replace hS : St _ [_, _, _] [_] _ := hS
   refine wp_seq_k ?_; intro K22 hK22
   revert hS; revert hF; apply regJ (J := J2 (α0 := Value) (α1 := PH) 231 _ _ _ _ _) #[false, false, false, false, false, false, false, false, false, false, false, false, false, false, false, false, false, false] 18 mixed rfl rfl
   ·intro w hF hS
    refine goW_take 0 _ rfl kQ rfl hF (hS.keep sQ zQ) (q_move rfl) ?_
    clear hF; intro a hF
    refine goW_take 1 _ rfl kQ rfl hF (hS.keep sQ zQ) (q_move rfl) ?_
    clear hF; intro a hF
    refine goW_take 2 _ rfl kQ rfl hF (hS.keep sQ zQ) (q_idx_sl ty23 ty33 hsL rfl rfl (by omega)) ?_
    clear hF; intro a hF
    refine goW_take 3 _ rfl kQ rfl hF (hS.keep sQ zQ) (q_ld_lat ty33 hsL (.inr (by simp)) hcel rfl rfl (by omega)) ?_
    clear hF; intro a hF
    refine goW_take 5 _ rfl kQ rfl hF (hS.keep sQ zQ) (q_move rfl) ?_
    clear hF; intro a hF
    refine goW_take 6 _ rfl kQ rfl hF (hS.keep sQ zQ) (q_move rfl) ?_
    clear hF; intro a hF
    refine goW_take 7 _ rfl kQ rfl hF (hS.keep sQ zQ) (q_idx_sl ty24 ty37 hsq rfl rfl (by omega)) ?_
    clear hF; intro a hF
    refine goW_take 8 _ rfl kQ rfl hF (hS.keep sQ zQ) (q_ld_que ty37 hsq (.inr (by simp)) hqcel rfl rfl (by omega)) ?_
    clear hF; intro a hF
    refine goW_take 10 _ rfl kQ rfl hF (hS.keep sQ zQ) (q_move rfl) ?_
    clear hF; intro a hF
    refine goW_take 11 _ rfl kQ rfl hF (hS.keep sQ zQ) (q_move rfl) ?_
    clear hF; intro a hF
    refine gQ 4 rfl rfl hF hS rfl (ef_qt (q_call fn9 rfl (fun w hS => family9_ct _ _ _ _ _ w (sl_one' hn9) (Sl.mono (hS.le (.inr (by simp))) hs9) (Sl.mono (hS.le (.inr (by simp))) hb99)) (fun _ _ _ h => h))) ?_
    clear hF hS; rintro _ _ _ a w ⟨rfl, rfl, rfl⟩ hF hS
    refine ⟨⟨.inr (hS.keep sQ zQ), .inr (hS.keep sQ zQ), .inr (hS.keep sQ zQ), .inr (hS.keep sQ zQ), .inr (hS.keep sQ zQ), .inr (hS.keep sQ zQ), iQ, iQ, .inr (hS.keep sQ zQ), .inr (hS.keep sQ zQ), trivial⟩, ?_⟩
    refine gQ 9 rfl rfl hF hS rfl (ef_qt (q_call fn10 rfl (fun w hS => queue_ct _ _ _ w (Sl.mono (hS.le (.inr (by simp))) hqC)) (fun _ _ _ h => h))) ?_
    clear hF hS; rintro _ _ _ a w ⟨rfl, rfl, rfl⟩ hF hS
    refine ⟨⟨.inr (hS.keep sQ zQ), .inr (hS.keep sQ zQ), iQ, iQ, .inr (hS.keep sQ zQ), .inr (hS.keep sQ zQ), iQ, iQ, .inr (hS.keep sQ zQ), .inr (hS.keep sQ zQ), trivial⟩, ?_⟩
    refine gQ 12 rfl rfl hF hS rfl (ef_call fn22 rfl (fun w hS => shares_ct _ _ _ _ _ _ _ _ _ _ _ _ (by omega) w (sl_one' hn9) (Sl.mono (hS.le (.inr (by simp))) hs9) (Sl.mono (hS.le (.inr (by simp))) hb99) (Sl.mono (hS.le (.inr (by simp))) hqC) (Sl.mono (hS.le (.inr (by simp))) hzW) (own_slV (hS.own _ (List.mem_of_getElem? (i := 0) rfl)).1 (by first | assumption | (simp; done)) (by first | rfl | (simp; done) | (simp; omega) | omega) (by first | omega | (simp; omega))))) ?_
    clear hF hS; rintro _ _ _ a w ⟨_, _, rfl, rfl, ⟨vR, zR, hzR, rfl, rfl, rfl⟩⟩ hF hS
    refine ⟨⟨iQ, iQ, iQ, iQ, .inr (hS.keep (sQ.n) zQ), .inr (hS.keep (sQ.n) zQ), iQ, iQ, .inr (hS.keep (sQ.n) zQ), .inr (hS.keep (sQ.n) zQ), trivial⟩, ?_⟩
    refine goW_take 13 _ rfl kQ rfl hF (hS.keep sQ zQ) (q_move rfl) ?_
    clear hF; intro a hF
    refine goW_take 14 _ rfl kQ rfl hF (hS.keep sQ zQ) (q_extract rfl rfl) ?_
    clear hF; intro a hF
    refine goW_take 15 _ rfl kQ rfl hF (hS.keep sQ zQ) (q_extract rfl rfl) ?_
    clear hF; intro a hF
    refine goW_take 16 _ rfl kQ rfl hF (hS.keep sQ zQ) (q_assign rfl) ?_
    clear hF; intro a hF
    refine goW_take 17 _ rfl kQ rfl hF (hS.keep sQ zQ) (q_assign rfl) ?_
    clear hF; intro a hF
    exact goW_done kQ (j2_mk vR zR ((And.intro hzR trivial)) (hF.sub (L' := [(2, _), (3, _), (6, _), (21, _), (23, _), (24, _), (25, _), (26, _), (27, _), (29, _), (31, _), (32, _), (33, _)]) ⟨rfl, rfl, rfl, rfl, rfl, rfl, rfl, rfl, rfl, rfl, rfl, rfl, rfl, trivial⟩) hS)
   rintro a w ⟨vR, zR, ⟨hzR, -⟩, hF, hS⟩
   (try dsimp only at hF); (try dsimp only at hS)
   obtain ⟨SA, hSA⟩ : ∃ SA, SA = Gp.sL is bs qB qC AS KL := ⟨_, rfl⟩
   rw [← hSA] at hzR
   have hSAl := hzR.1
   refine hK22 _ _ ?_
   clear hK22
   refine wp_seq_k ?_; intro K23 hK23
   revert hS; revert hF; apply regJ (J := J2 (α0 := Value) (α1 := PH) 231 _ _ _ _ _) #[false, false, false, false, false, false, false, false, false, false, false, false, false, false, false, false] 16 mixed rfl rfl
   ·intro w hF hS
    refine goW_take 0 _ rfl kQ rfl hF (hS.keep sQ zQ) (q_move rfl) ?_
    clear hF; intro a hF
    refine goW_take 1 _ rfl kQ rfl hF (hS.keep sQ zQ) (q_move rfl) ?_
    clear hF; intro a hF
    refine goW_take 2 _ rfl kQ rfl hF (hS.keep sQ zQ) (q_idx_sl ty23 ty33 hsL rfl rfl (by omega)) ?_
    clear hF; intro a hF
    refine goW_take 3 _ rfl kQ rfl hF (hS.keep sQ zQ) (q_ld_lat ty33 hsL (.inr (by simp)) hcel rfl rfl (by omega)) ?_
    clear hF; intro a hF
    refine goW_take 4 _ rfl kQ rfl hF (hS.keep sQ zQ) (q_move rfl) ?_
    clear hF; intro a hF
    refine goW_take 5 _ rfl kQ rfl hF (hS.keep sQ zQ) (q_move rfl) ?_
    clear hF; intro a hF
    refine goW_take 6 _ rfl kQ rfl hF (hS.keep sQ zQ) (q_idx_sl ty24 ty37 hsq rfl rfl (by omega)) ?_
    clear hF; intro a hF
    refine goW_take 7 _ rfl kQ rfl hF (hS.keep sQ zQ) (q_ld_que ty37 hsq (.inr (by simp)) hqcel rfl rfl (by omega)) ?_
    clear hF; intro a hF
    refine goW_take 8 _ rfl kQ rfl hF (hS.keep sQ zQ) (q_move rfl) ?_
    clear hF; intro a hF
    refine goW_take 9 _ rfl kQ rfl hF (hS.keep sQ zQ) (q_move rfl) ?_
    clear hF; intro a hF
    refine gQ 10 rfl rfl hF hS rfl (ef_call fn23 rfl (fun w hS => rshares_ct _ _ _ _ _ _ _ _ _ _ _ _ (by omega) (by omega) w (sl_one' hn9) (Sl.mono (hS.le (.inr (by simp))) hs9) (Sl.mono (hS.le (.inr (by simp))) hb99) (Sl.mono (hS.le (.inr (by simp))) hqC) (Sl.mono (hS.le (.inr (by simp))) hzW) (own_slV (hS.own _ (List.mem_of_getElem? (i := 0) rfl)).1 (by first | assumption | (simp; done)) (by first | rfl | (simp; done) | (simp; omega) | omega) (by first | omega | (simp; omega))))) ?_
    clear hF hS; rintro _ _ _ a w ⟨_, _, rfl, rfl, ⟨vR2, zR2, hzR2, rfl, rfl, rfl⟩⟩ hF hS
    refine ⟨⟨iQ, iQ, iQ, iQ, .inr (hS.keep (sQ.n) zQ), .inr (hS.keep (sQ.n) zQ), iQ, iQ, .inr (hS.keep (sQ.n) zQ), .inr (hS.keep (sQ.n) zQ), trivial⟩, ?_⟩
    refine goW_take 11 _ rfl kQ rfl hF (hS.keep sQ zQ) (q_move rfl) ?_
    clear hF; intro a hF
    refine goW_take 12 _ rfl kQ rfl hF (hS.keep sQ zQ) (q_extract rfl rfl) ?_
    clear hF; intro a hF
    refine goW_take 13 _ rfl kQ rfl hF (hS.keep sQ zQ) (q_extract rfl rfl) ?_
    clear hF; intro a hF
    refine goW_take 14 _ rfl kQ rfl hF (hS.keep sQ zQ) (q_assign rfl) ?_
    clear hF; intro a hF
    refine goW_take 15 _ rfl kQ rfl hF (hS.keep sQ zQ) (q_assign rfl) ?_
    clear hF; intro a hF
    exact goW_done kQ (j2_mk vR2 zR2 ((And.intro hzR2 trivial)) (hF.sub (L' := [(2, _), (3, _), (6, _), (21, _), (23, _), (24, _), (25, _), (26, _), (27, _), (29, _), (31, _), (32, _), (33, _), (34, _), (35, _)]) ⟨rfl, rfl, rfl, rfl, rfl, rfl, rfl, rfl, rfl, rfl, rfl, rfl, rfl, rfl, rfl, trivial⟩) hS)
   rintro a w ⟨vR2, zR2, ⟨hzR2, -⟩, hF, hS⟩
   (try dsimp only at hF); (try dsimp only at hS)
   rw [← hSA] at hzR2
   refine hK23 _ _ ?_
   clear hK23
   refine wp_seq_k ?_; intro K24 hK24
   refine wp_seq_k ?_; intro K25 hK25
   refine reg hF hS (sq rfl (q_move rfl) <|
     sq rfl (q_move rfl) <|
     sq rfl (q_nf (q_nei rfl rfl) (rfl)) <|
     sq rfl (q_move rfl) <|
     sq_go 169 rfl rfl rfl (q_move rfl) <|
     sq_go 169 rfl rfl rfl (q_move rfl) <|
     sq_go 169 rfl rfl rfl (q_dt (q_call fn17 rfl (fun w hS => samei_ct _ _ _ _ w (Sl.mono (hS.le (.inr (by simp))) hzR) (Sl.mono (hS.le (.inr (by simp))) hzR2)) (fun _ _ _ h => h)) (rfl)) <|
     sq_go 169 rfl rfl rfl (q_not rfl) <|
     sq rfl (q_pick_f rfl rfl) <|
     sq_end) ?_
   clear hF hS; intro a w hF hS
   have hmm : ∀ x ∈ ((AS.take ((AS.length : Int) / 3).toNat).drop 0), x ∈ AS := fun x hx => List.mem_of_mem_take (List.mem_of_mem_drop hx)
   have hcl9 : (((AS.take ((AS.length : Int) / 3).toNat).drop 0)).length ≤ 24 := by rw [List.length_drop, List.length_take]; omega
   have hKE : ∀ y ∈ KL ++ ((AS.take ((AS.length : Int) / 3).toNat).drop 0), -9223372036854775808 ≤ y ∧ y ≤ 9223372036854775807 := fun y hy => by rcases List.mem_append.1 hy with hy | hy; exact hKr y hy; exact sl_rng hzW y (hmm y hy)
   refine hK25 _ _ ?_
   clear hK25
   refine wp_if hF rfl (fun h => absurd h (by simp)) (fun _ => ?_)
   refine wp_skip ?_
   refine hK24 _ _ ?_
   clear hK24
   refine wp_seq_k ?_; intro K26 hK26
   refine wp_seq_k ?_; intro K27 hK27
   refine reg hF hS (sq rfl (q_assign rfl) <|
     sq_end) ?_
   clear hF hS; intro a w hF hS
   refine hK27 _ _ ?_
   clear hK27
   refine wp_block ?_
   obtain ⟨hs0, hhs0, hS⟩ : ∃ h, h = _ ∧ St _ _ h _ := ⟨_, rfl, hS⟩
   refine wp_loopx (γ := Int) (0) (fun (k : Int) => [(36, vi k)]) [(2, _), (3, _), (6, _), (21, _), (23, _), (24, _), (25, _), (26, _), (27, _), (29, _), (31, _), (32, _), (33, _)] (fun (k : Int) => hs0) (fun (k : Int) => 0 ≤ k ∧ k ≤ SA.length) (fun (k : Int) => (SA.length - k).toNat) (hF.sub ⟨rfl, rfl, rfl, rfl, rfl, rfl, rfl, rfl, rfl, rfl, rfl, rfl, rfl, rfl, trivial⟩) (by subst hhs0; exact hS) (by exact ⟨Int.le_refl _, by omega⟩) ?_
   clear hF hS; rintro k a w hfact hF hS
   subst hhs0; (try dsimp only at hfact); (try dsimp only at hF); (try dsimp only at hS)
   obtain ⟨hk0, hk1⟩ := hfact
   replace hS : St _ [_, _, _, _, _] [_] _ := hS
   refine wp_seq_k ?_; intro K28 hK28
   refine wp_seq_k ?_; intro K29 hK29
   refine reg hF hS (sq rfl (q_move rfl) <|
     sq rfl (q_move rfl) <|
     sq rfl (q_len_sl ty22 hzR rfl) <|
     sq rfl (q_lti rfl rfl) <|
     sq_end) ?_
   clear hF hS; intro a w hF hS
   refine hK29 _ _ ?_
   clear hK29
   refine wp_ifd hF rfl (fun hc6 => ?_) (fun hc6 => ?_)
   ·refine wp_skip ?_
    refine hK28 _ _ ?_
    clear hK28
    refine wp_seq_k ?_; intro K30 hK30
    refine wp_block ?_
    refine wp_seq_k ?_; intro K31 hK31
    refine reg hF hS (sq rfl (q_move rfl) <|
      sq rfl (q_move rfl) <|
      sq rfl (q_move rfl) <|
      sq rfl (q_idx_sl ty22 ty3 hzR rfl rfl (by omega)) <|
      sq rfl (q_ld_I ty3 hzR (.inr (by simp)) rfl rfl (by omega)) <|
      sq rfl (q_call fn24 rfl (fun w hS => rin_ct _ _ _ w (own_slV (hS.own _ (List.mem_of_getElem? (i := 0) rfl)).1 (by first | assumption | (simp; done)) (by first | rfl | (simp; done) | (simp; omega) | omega) (by first | omega | (simp; omega)))) (fun _ _ _ h => h)) <|
      sq_end) ?_
    clear hF hS; intro a w hF hS
    refine hK31 _ _ ?_
    clear hK31
    refine wp_ifd hF rfl (fun hc7 => ?_) (fun hc7 => ?_)
    ·have h9 : SA.getD k.toNat 0 ∈ SA := getD_mem (by omega)
     have h8 : SA.getD k.toNat 0 ∈ Gp.sL is bs qB qC AS KL := by rw [← hSA]; exact h9
     exact (Gp.sL_known h8 hc7).elim
    ·refine wp_skip ?_
     refine hK30 _ _ ?_
     clear hK30
     refine reg hF hS (sq rfl (q_move rfl) <|
       sq rfl (q_addi rfl rfl (by omega)) <|
       sq rfl (q_assign rfl) <|
       sq_end) ?_
     clear hF hS; intro a w hF hS
     refine ⟨(k + 1), ?_, ?_, hF.sub ⟨rfl, rfl, rfl, rfl, rfl, rfl, rfl, rfl, rfl, rfl, rfl, rfl, rfl, rfl, trivial⟩, ?_⟩
     ·(try dsimp only); omega
     ·(try dsimp only); omega
     ·exact hS
   ·refine wp_exit ?_
    refine hK26 _ _ ?_
    clear hK26
    refine wp_seq_k ?_; intro K32 hK32
    revert hS; revert hF; apply regJ (J := J3 (α0 := Value) (α1 := Value) (α2 := PH) 231 _ _ _ _ _) #[false, false, false, false, false, false, false, false, false, false, false, false, false, false, false, false, false, false, false, false, false, false, false, false] 24 mixed rfl rfl
    ·intro w hF hS
     refine goW_take 0 _ rfl kQ rfl hF (hS.keep sQ zQ) (q_move rfl) ?_
     clear hF; intro a hF
     refine goW_take 1 _ rfl kQ rfl hF (hS.keep sQ zQ) (q_move rfl) ?_
     clear hF; intro a hF
     refine goW_take 2 _ rfl kQ rfl hF (hS.keep sQ zQ) (q_idx_sl ty23 ty33 hsL rfl rfl (by omega)) ?_
     clear hF; intro a hF
     refine goW_take 3 _ rfl kQ rfl hF (hS.keep sQ zQ) (q_ld_lat ty33 hsL (.inr (by simp)) hcel rfl rfl (by omega)) ?_
     clear hF; intro a hF
     refine goW_take 5 _ rfl kQ rfl hF (hS.keep sQ zQ) (q_move rfl) ?_
     clear hF; intro a hF
     refine goW_take 6 _ rfl kQ rfl hF (hS.keep sQ zQ) (q_move rfl) ?_
     clear hF; intro a hF
     refine goW_take 7 _ rfl kQ rfl hF (hS.keep sQ zQ) (q_idx_sl ty24 ty37 hsq rfl rfl (by omega)) ?_
     clear hF; intro a hF
     refine goW_take 8 _ rfl kQ rfl hF (hS.keep sQ zQ) (q_ld_que ty37 hsq (.inr (by simp)) hqcel rfl rfl (by omega)) ?_
     clear hF; intro a hF
     refine goW_take 10 _ rfl kQ rfl hF (hS.keep sQ zQ) (q_move rfl) ?_
     clear hF; intro a hF
     refine goW_take 11 _ rfl kQ rfl hF (hS.keep sQ zQ) (q_move rfl) ?_
     clear hF; intro a hF
     refine goW_take 12 _ rfl kQ rfl hF (hS.keep sQ zQ) (q_move rfl) ?_
     clear hF; intro a hF
     refine goW_take 13 _ rfl kQ rfl hF (hS.keep sQ zQ) (q_move rfl) ?_
     clear hF; intro a hF
     refine goW_take 14 _ rfl kQ rfl hF (hS.keep sQ zQ) (q_len_sl ty22 hzW rfl) ?_
     clear hF; intro a hF
     refine goW_take 15 _ rfl kQ rfl hF (hS.keep sQ zQ) (q_quoi rfl rfl (by omega)) ?_
     clear hF; intro a hF
     refine goW_take 16 _ rfl kQ rfl hF (hS.keep sQ zQ) (q_slsl_hi ty22 ty3 hzW rfl rfl (by omega)) ?_
     clear hF; intro a hF
     refine gQ 4 rfl rfl hF hS rfl (ef_qt (q_call fn9 rfl (fun w hS => family9_ct _ _ _ _ _ w (sl_one' hn9) (Sl.mono (hS.le (.inr (by simp))) hs9) (Sl.mono (hS.le (.inr (by simp))) hb99)) (fun _ _ _ h => h))) ?_
     clear hF hS; rintro _ _ _ a w ⟨rfl, rfl, rfl⟩ hF hS
     refine ⟨⟨.inr (hS.keep sQ zQ), .inr (hS.keep sQ zQ), .inr (hS.keep sQ zQ), .inr (hS.keep sQ zQ), .inr (hS.keep sQ zQ), .inr (hS.keep sQ zQ), .inr (hS.keep sQ zQ), .inr (hS.keep sQ zQ), .inr (hS.keep sQ zQ), .inr (hS.keep sQ zQ), .inr (hS.keep sQ zQ), iQ, iQ, .inr (hS.keep sQ zQ), .inr (hS.keep sQ zQ), trivial⟩, ?_⟩
     refine gQ 9 rfl rfl hF hS rfl (ef_qt (q_call fn10 rfl (fun w hS => queue_ct _ _ _ w (Sl.mono (hS.le (.inr (by simp))) hqC)) (fun _ _ _ h => h))) ?_
     clear hF hS; rintro _ _ _ a w ⟨rfl, rfl, rfl⟩ hF hS
     refine ⟨⟨.inr (hS.keep sQ zQ), .inr (hS.keep sQ zQ), .inr (hS.keep sQ zQ), .inr (hS.keep sQ zQ), .inr (hS.keep sQ zQ), .inr (hS.keep sQ zQ), .inr (hS.keep sQ zQ), iQ, iQ, .inr (hS.keep sQ zQ), .inr (hS.keep sQ zQ), iQ, iQ, .inr (hS.keep sQ zQ), .inr (hS.keep sQ zQ), trivial⟩, ?_⟩
     refine gQ 17 rfl rfl hF hS rfl (ef_appendWV ty22 ty3 0 rfl rfl rfl (src_slV ty22 (Sl.cut hzW (by omega)) (.inr (by simp))) bQ rfl) ?_
     clear hF hS; rintro v28 _ _ a w ⟨rfl, rfl⟩ hF hS
     refine ⟨⟨iQ, iQ, .inr (hS.keep sQ zQ), .inr (hS.keep sQ zQ), iQ, iQ, .inr (hS.keep sQ zQ), iQ, iQ, .inr (hS.keep sQ zQ), .inr (hS.keep sQ zQ), iQ, iQ, .inr (hS.keep sQ zQ), .inr (hS.keep sQ zQ), trivial⟩, ?_⟩
     refine gQ 18 rfl rfl hF hS rfl (ef_call fn22 rfl (fun w hS => shares_ct _ _ _ _ _ _ _ _ _ _ _ _ (by omega) w (sl_one' hn9) (Sl.mono (hS.le (.inr (by simp))) hs9) (Sl.mono (hS.le (.inr (by simp))) hb99) (Sl.mono (hS.le (.inr (by simp))) hqC) (Sl.mono (hS.le (.inr (by simp))) hzW) (own_slV (hS.own _ (List.mem_of_getElem? (i := 0) rfl)).1 (by first | assumption | (simp; done)) (by first | rfl | (simp; done) | (simp; omega) | omega) (by first | omega | (simp; omega))))) ?_
     clear hF hS; rintro _ _ _ a w ⟨_, _, rfl, rfl, ⟨vR3, zR3, hzR3, rfl, rfl, rfl⟩⟩ hF hS
     refine ⟨⟨iQ, iQ, .inr (hS.keep (sQ.n) zQ), .inr (hS.keep (sQ.n) zQ), iQ, iQ, iQ, iQ, iQ, .inr (hS.keep (sQ.n) zQ), .inr (hS.keep (sQ.n) zQ), iQ, iQ, .inr (hS.keep (sQ.n) zQ), .inr (hS.keep (sQ.n) zQ), trivial⟩, ?_⟩
     refine goW_take 19 _ rfl kQ rfl hF (hS.keep sQ zQ) (q_move rfl) ?_
     clear hF; intro a hF
     refine goW_take 20 _ rfl kQ rfl hF (hS.keep sQ zQ) (q_extract rfl rfl) ?_
     clear hF; intro a hF
     refine goW_take 21 _ rfl kQ rfl hF (hS.keep sQ zQ) (q_extract rfl rfl) ?_
     clear hF; intro a hF
     refine goW_take 22 _ rfl kQ rfl hF (hS.keep sQ zQ) (q_assign rfl) ?_
     clear hF; intro a hF
     refine goW_take 23 _ rfl kQ rfl hF (hS.keep sQ zQ) (q_assign rfl) ?_
     clear hF; intro a hF
     exact goW_done kQ (j3_mk v28 vR3 zR3 ((And.intro hzR3 trivial)) (hF.sub (L' := [(2, _), (3, _), (6, _), (21, _), (23, _), (24, _), (25, _), (26, _), (27, _), (32, _), (33, _), (37, _), (38, _)]) ⟨rfl, rfl, rfl, rfl, rfl, rfl, rfl, rfl, rfl, rfl, rfl, rfl, rfl, trivial⟩) hS)
    rintro a w ⟨v28, vR3, zR3, ⟨hzR3, -⟩, hF, hS⟩
    (try dsimp only at hF); (try dsimp only at hS)
    obtain ⟨SC, hSC⟩ : ∃ SC, SC = Gp.sL is bs qB qC AS (KL ++ ((AS.take ((AS.length : Int) / 3).toNat).drop 0)) := ⟨_, rfl⟩
    rw [← hSC] at hzR3
    have hSCl := hzR3.1
    refine hK32 _ _ ?_
    clear hK32
    refine wp_seq_k ?_; intro K33 hK33
    refine wp_seq_k ?_; intro K34 hK34
    refine reg hF hS (sq rfl (q_move rfl) <|
      sq rfl (q_move rfl) <|
      sq rfl (q_nf (q_nei rfl rfl) (Gp.sE_more hmm)) <|
      sq_end) ?_
    clear hF hS; intro a w hF hS
    refine hK34 _ _ ?_
    clear hK34
    refine wp_if hF rfl (fun h => absurd h (by simp)) (fun _ => ?_)
    refine wp_skip ?_
    refine hK33 _ _ ?_
    clear hK33
    refine wp_seq_k ?_; intro K35 hK35
    refine reg hF hS (sq rfl (q_assign rfl) <|
      sq_end) ?_
    clear hF hS; intro a w hF hS
    refine hK35 _ _ ?_
    clear hK35
    refine wp_block ?_
    obtain ⟨hs0, hhs0, hS⟩ : ∃ h, h = _ ∧ St _ _ h _ := ⟨_, rfl, hS⟩
    refine wp_loopx (γ := Int) (0) (fun (j : Int) => [(39, vi j)]) [(2, _), (3, _), (6, _), (21, _), (23, _), (24, _), (25, _), (26, _), (27, _), (32, _), (37, _)] (fun (j : Int) => hs0) (fun (j : Int) => 0 ≤ j ∧ j ≤ SC.length) (fun (j : Int) => (SC.length - j).toNat) (hF.sub ⟨rfl, rfl, rfl, rfl, rfl, rfl, rfl, rfl, rfl, rfl, rfl, rfl, trivial⟩) (by subst hhs0; exact hS) (by exact ⟨Int.le_refl _, by omega⟩) ?_
    clear hF hS; rintro j a w hfact hF hS
    subst hhs0; (try dsimp only at hfact); (try dsimp only at hF); (try dsimp only at hS)
    obtain ⟨hj0, hj1⟩ := hfact
    replace hS : St _ [_, _, _, _, _, _] [_] _ := hS
    refine wp_seq_k ?_; intro K36 hK36
    refine wp_seq_k ?_; intro K37 hK37
    refine reg hF hS (sq rfl (q_move rfl) <|
      sq rfl (q_move rfl) <|
      sq rfl (q_len_sl ty22 hzR3 rfl) <|
      sq rfl (q_lti rfl rfl) <|
      sq_end) ?_
    clear hF hS; intro a w hF hS
    refine hK37 _ _ ?_
    clear hK37
    refine wp_ifd hF rfl (fun hc9 => ?_) (fun hc9 => ?_)
    ·refine wp_skip ?_
     refine hK36 _ _ ?_
     clear hK36
     refine wp_seq_k ?_; intro K38 hK38
     refine wp_block ?_
     refine wp_seq_k ?_; intro K39 hK39
     refine reg hF hS (sq rfl (q_move rfl) <|
       sq rfl (q_move rfl) <|
       sq rfl (q_move rfl) <|
       sq rfl (q_idx_sl ty22 ty3 hzR3 rfl rfl (by omega)) <|
       sq rfl (q_ld_I ty3 hzR3 (.inr (by simp)) rfl rfl (by omega)) <|
       sq rfl (q_call fn24 rfl (fun w hS => rin_ct _ _ _ w (Sl.mono (hS.le (.inr (by simp))) hzR)) (fun _ _ _ h => h)) <|
       sq rfl (q_not rfl) <|
       sq_end) ?_
     clear hF hS; intro a w hF hS
     refine hK39 _ _ ?_
     clear hK39
     refine wp_ifn hF rfl (fun hc10 => ?_) (fun hc10 => ?_)
     ·have h9 : SC.getD j.toNat 0 ∈ SC := getD_mem (by omega)
      have h8 := Gp.sL_more (xs := is) (xb := bs) (base := qB) (ch := qC) (known := KL) hmm (x := SC.getD j.toNat 0) (by rw [← hSC]; exact h9)
      rw [← hSA] at h8
      exact absurd h8 (by simpa using hc10)
     ·refine wp_skip ?_
      refine hK38 _ _ ?_
      clear hK38
      refine reg hF hS (sq rfl (q_move rfl) <|
        sq rfl (q_addi rfl rfl (by omega)) <|
        sq rfl (q_assign rfl) <|
        sq_end) ?_
      clear hF hS; intro a w hF hS
      refine ⟨(j + 1), ?_, ?_, hF.sub ⟨rfl, rfl, rfl, rfl, rfl, rfl, rfl, rfl, rfl, rfl, rfl, rfl, trivial⟩, ?_⟩
      ·(try dsimp only); omega
      ·(try dsimp only); omega
      ·exact hS
    ·refine wp_exit ?_
     refine hK17 _ _ ?_
     clear hK17
     refine reg hF hS (sq rfl (q_move rfl) <|
       sq rfl (q_addi rfl rfl (by omega)) <|
       sq rfl (q_assign rfl) <|
       sq_end) ?_
     clear hF hS; intro a w hF hS
     replace hS := hS.keep (sQ.n.n.n.n.n) zQ
     refine ⟨(i + 1), ?_, ?_, hF.sub ⟨rfl, rfl, rfl, rfl, rfl, rfl, rfl, rfl, rfl, trivial⟩, ?_⟩
     ·(try dsimp only); omega
     ·(try dsimp only); omega
     ·exact hS
  ·refine wp_exit ?_
   refine hK13 _ _ ?_
   clear hK13
   refine wp_seq_k ?_; intro K40 hK40
   refine reg hF hS (sq rfl (q_move rfl) <|
     sq rfl (q_move rfl) <|
     sq rfl (q_dt (q_eqi rfl rfl) (rfl)) <|
     sq rfl (q_move rfl) <|
     sq_go 228 rfl rfl rfl (q_call fn18 rfl (fun w hS => lives_ct w ) (fun _ _ _ h => h)) <|
     sq rfl (q_pick_t rfl rfl) <|
     sq rfl (q_assign rfl) <|
     sq_end) ?_
   clear hF hS; intro a w hF hS
   refine hK40 _ _ ?_
   clear hK40
   refine wp_ret ?_
   exact fn_ret (rs := [.tmp 14]) rfl hF hS (vs := [_]) ⟨rfl, trivial⟩ zQ zQ (rfl)
end Go.Proofs.Ytplceoanaoeejaa
