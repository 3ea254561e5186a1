/- A text of a proof over this seat: walks over the program's functions and the plain laws that they need. -/
import Derived.Test.YtplceoanaoeejaaQp16
import Derived.Test.YtplceoanaoeejaaGpA
import Derived.Test.YtplceoanaoeejaaFwC
import Derived.Test.YtplceoanaoeejaaFwB
set_option linter.all false
namespace Go.Proofs.Ytplceoanaoeejaa
open Go.Fw
theorem ty58 : Tf Try.prog 58 (.slice 22) 1 24 (Value.slice none 0 0) := ⟨Try.underlying58, by kernel_rfl⟩
theorem fn26 : FnOk Try.prog 26 := ⟨_, Try.func26, rfl, by kernel_rfl⟩

set_option maxRecDepth 4000 in
set_option maxHeartbeats 2000000 in
theorem lawC_ct (v : Value) (l : List Int) (v2 : Value) (m : List Int) (h : Int) (hh9 : -9223372036854775808 ≤ h ∧ h ≤ 9223372036854775807) (b : Int) (hb9 : -9223372036854775808 ≤ b ∧ b ≤ 9223372036854775807) (v5 : Value) (tk : List Int) (v6 : Value) (ak : List Int) (hak8 : ak.length * 8 ≤ 140737488355328) (w : World) (hl : Sl encI (ph w) v l) (hm : Sl encI (ph w) v2 m) (hta : Sl encI (ph w) v5 tk) (has : Sl encI (ph w) v6 ak) : Ct Try.prog 5 [v, v2, vi h, vi b, v5, v6] w (fun r _ _ => r = .bool true) := by
 refine fn_enter Try.func5 rfl Try.ntmps5 (Nat.le_of_ble_eq_true rfl) fun a hF hS => ?_
 refine wp_seq_k ?_; intro K1 hK1
 refine reg hF hS (sq rfl (q_assign rfl) <|
   sq_end) ?_
 clear hF hS; intro a w hF hS
 refine hK1 _ _ ?_
 clear hK1
 refine wp_seq_k ?_; intro K2 hK2
 refine regl ?_
 refine wpl_sq hF hS (sq rfl (q_move rfl) <|
   sq rfl (q_move rfl) <|
   sq rfl (q_move rfl) <|
   sq rfl (q_move rfl) <|
   sq_end) ?_
 clear hF hS; intro a w hF hS
 refine wpl_ef hF hS rfl (ef_call fn8 rfl (fun w hS => cases_ct _ _ _ _ _ _ (by omega) (by omega) w (Sl.mono (hS.le zin0) hl) (Sl.mono (hS.le zin0) hm))) ?_
 clear hF hS; rintro _ _ _ a w ⟨_, _, rfl, rfl, ⟨vx, vq, vm, ls, qs, ms, zC, rfl, hsL, hsq, hsm, ⟨hl5, hq5, hm5⟩, hlL, hlq, hlm, rfl, rfl⟩⟩ hF hS
 replace hS : St _ [_] [] _ := hS
 refine wpl_sq hF hS (sq rfl (q_move rfl) <|
   sq rfl (q_extract rfl rfl) <|
   sq rfl (q_extract rfl rfl) <|
   sq rfl (q_extract rfl rfl) <|
   sq rfl (q_assign rfl) <|
   sq rfl (q_assign rfl) <|
   sq rfl (q_assign rfl) <|
   sq_end) ?_
 clear hF hS; intro a w hF hS
 refine wpList_nil ?_
 refine hK2 _ _ ?_
 clear hK2
 refine wp_seq_k ?_; intro K3 hK3
 refine wp_seq_k ?_; intro K4 hK4
 refine reg hF hS (sq rfl (q_assign rfl) <|
   sq_end) ?_
 clear hF hS; intro a w hF hS
 refine hK4 _ _ ?_
 clear hK4
 refine wp_block ?_
 obtain ⟨hs0, hhs0, hS⟩ : ∃ h, h = _ ∧ St _ _ h _ := ⟨_, rfl, hS⟩
 refine wp_loopx (γ := Int) (0) (fun (i : Int) => [(16, vi i)]) [(3, _), (4, _), (5, _), (13, _), (14, _), (15, _)] (fun (i : Int) => hs0) (fun (i : Int) => 0 ≤ i ∧ i ≤ 5) (fun (i : Int) => (5 - i).toNat) (hF.sub ⟨rfl, rfl, rfl, rfl, rfl, rfl, rfl, trivial⟩) (by subst hhs0; exact hS) (by exact ⟨Int.le_refl _, by omega⟩) ?_
 clear hF hS; rintro i a w hfact hF hS
 subst hhs0; (try dsimp only at hfact); (try dsimp only at hF); (try dsimp only at hS)
 obtain ⟨hi0, hi1⟩ := hfact
 replace hS : St _ [_] [] _ := hS
 refine wp_seq_k ?_; intro K5 hK5
 refine wp_seq_k ?_; intro K6 hK6
 refine reg hF hS (sq rfl (q_move rfl) <|
   sq rfl (q_move rfl) <|
   sq rfl (q_len_sl ty23 hsL rfl) <|
   sq rfl (q_lti rfl rfl) <|
   sq_end) ?_
 clear hF hS; intro a w hF hS
 refine hK6 _ _ ?_
 clear hK6
 refine wp_ifd hF rfl (fun hc1 => ?_) (fun hc1 => ?_)
 ·obtain ⟨nv, sv, bv, ns, is, bs, hxi, hcel, hn9, hs9, hb99⟩ := lat_at hsL (k := i.toNat) (by omega)
  obtain ⟨qB, qu, qC, hqi, hqcel, hqB, hqC⟩ := que_at hsq (k := i.toNat) (by omega)
  obtain ⟨hln1, hln2, hln3⟩ : ns.length ≤ 40 ∧ is.length ≤ 40 ∧ bs.length ≤ 40 := hlL _ (List.mem_of_getElem? hxi)
  have hlq9 : qC.length ≤ 9 := hlq _ (List.mem_of_getElem? hqi)
  have hlm9 : (ms.getD i.toNat []).length ≤ 40 := hlm _ (by rw [List.getD_eq_getElem?_getD, List.getElem?_eq_getElem (by omega)]; exact List.getElem_mem _)
  refine wp_skip ?_
  refine hK5 _ _ ?_
  clear hK5
  refine wp_seq_k ?_; intro K7 hK7
  refine wp_block ?_
  refine wp_seq_k ?_; intro K8 hK8
  revert hS; revert hF; apply regJ (J := J3 (α0 := Value) (α1 := Value) (α2 := PH) 151 _ _ _ _ _) #[false, false, false, false, false, false, false, false, false, false, false, false, false, false, false, false, false, false, false, false] 20 mixed rfl rfl
  ·intro w hF hS
   refine goW_take 0 _ rfl kQ rfl hF (hS.keep sQ zQ) (q_move rfl) ?_
   clear hF; intro a hF
   refine goW_take 1 _ rfl kQ rfl hF (hS.keep sQ zQ) (q_move rfl) ?_
   clear hF; intro a hF
   refine goW_take 2 _ rfl kQ rfl hF (hS.keep sQ zQ) (q_idx_sl ty23 ty33 hsL rfl rfl (by omega)) ?_
   clear hF; intro a hF
   refine goW_take 3 _ rfl kQ rfl hF (hS.keep sQ zQ) (q_ld_lat ty33 hsL (.inr (by simp)) hcel rfl rfl (by omega)) ?_
   clear hF; intro a hF
   refine goW_take 4 _ rfl kQ rfl hF (hS.keep sQ zQ) (q_move rfl) ?_
   clear hF; intro a hF
   refine goW_take 5 _ rfl kQ rfl hF (hS.keep sQ zQ) (q_move rfl) ?_
   clear hF; intro a hF
   refine goW_take 6 _ rfl kQ rfl hF (hS.keep sQ zQ) (q_idx_sl ty24 ty37 hsq rfl rfl (by omega)) ?_
   clear hF; intro a hF
   refine goW_take 7 _ rfl kQ rfl hF (hS.keep sQ zQ) (q_ld_que ty37 hsq (.inr (by simp)) hqcel rfl rfl (by omega)) ?_
   clear hF; intro a hF
   refine goW_take 8 _ rfl kQ rfl hF (hS.keep sQ zQ) (q_move rfl) ?_
   clear hF; intro a hF
   refine goW_take 9 _ rfl kQ rfl hF (hS.keep sQ zQ) (q_move rfl) ?_
   clear hF; intro a hF
   refine goW_take 10 _ rfl kQ rfl hF (hS.keep sQ zQ) (q_idx_sl ty25 ty29 hsm rfl rfl (by omega)) ?_
   clear hF; intro a hF
   refine goW_take 11 _ rfl kQ rfl hF (hS.keep sQ zQ) (q_ld_Sl ty29 hsm (.inr (by simp)) rfl rfl (by omega)) ?_
   clear hF; intro a hF
   refine gQ 12 rfl rfl hF hS rfl (ef_call fn14 rfl (fun w hS => rhalved_ct _ _ _ _ _ _ _ _ _ _ w (sl_one' hn9) (Sl.mono (hS.le (.inr (by simp))) hs9) (Sl.mono (hS.le (.inr (by simp))) hb99) (Sl.mono (hS.le (.inr (by simp))) hqC) (Sl.mono (hS.le (.inr (by simp))) (elemV_sl hsm (by omega))))) ?_
   clear hF hS; rintro _ _ _ a w ⟨_, _, rfl, rfl, ⟨vT, vK, zT, hzT, hzK, rfl, rfl, rfl⟩⟩ hF hS
   refine ⟨⟨iQ, iQ, .inr (hS.keep (sQ.n) zQ), .inr (hS.keep (sQ.n) zQ), iQ, iQ, .inr (hS.keep (sQ.n) zQ), .inr (hS.keep (sQ.n) zQ), iQ, iQ, .inr (hS.keep (sQ.n) zQ), .inr (hS.keep (sQ.n) zQ), trivial⟩, ?_⟩
   refine goW_take 13 _ rfl kQ rfl hF (hS.keep sQ zQ) (q_move rfl) ?_
   clear hF; intro a hF
   refine goW_take 14 _ rfl kQ rfl hF (hS.keep sQ zQ) (q_extract rfl rfl) ?_
   clear hF; intro a hF
   refine goW_take 15 _ rfl kQ rfl hF (hS.keep sQ zQ) (q_extract rfl rfl) ?_
   clear hF; intro a hF
   refine goW_take 16 _ rfl kQ rfl hF (hS.keep sQ zQ) (q_extract rfl rfl) ?_
   clear hF; intro a hF
   refine goW_take 17 _ rfl kQ rfl hF (hS.keep sQ zQ) (q_assign rfl) ?_
   clear hF; intro a hF
   refine goW_take 18 _ rfl kQ rfl hF (hS.keep sQ zQ) (q_assign rfl) ?_
   clear hF; intro a hF
   refine goW_take 19 _ rfl kQ rfl hF (hS.keep sQ zQ) (q_assign rfl) ?_
   clear hF; intro a hF
   exact goW_done kQ (j3_mk vT vK zT ((And.intro hzT (And.intro hzK trivial))) (hF.sub (L' := [(3, _), (4, _), (5, _), (13, _), (14, _), (15, _), (16, _), (17, _), (18, _)]) ⟨rfl, rfl, rfl, rfl, rfl, rfl, rfl, rfl, rfl, trivial⟩) hS)
  rintro a w ⟨vT, vK, zT, ⟨hzT, hzK, -⟩, hF, hS⟩
  (try dsimp only at hF); (try dsimp only at hS)
  obtain ⟨hTl, hAl, hTr, hAr⟩ := Gp.hAT_len is bs (ms.getD i.toNat []) qB qC
  obtain ⟨T, hTq⟩ : ∃ T, T = Gp.hT is bs (ms.getD i.toNat []) qB qC := ⟨_, rfl⟩
  obtain ⟨A9, hAq⟩ : ∃ A, A = Gp.hA is bs (ms.getD i.toNat []) qB qC := ⟨_, rfl⟩
  rw [← hTq] at hzT hTl hTr
  rw [← hAq] at hzK hAl hAr
  refine hK8 _ _ ?_
  clear hK8
  refine wp_seq_k ?_; intro K9 hK9
  refine reg hF hS (sq rfl (q_move rfl) <|
    sq rfl (q_move rfl) <|
    sq rfl (q_len_sl ty22 hzK rfl) <|
    sq rfl (q_addi rfl rfl (by omega)) <|
    sq rfl (q_call fn20 rfl (fun w hS => arnd_ct _ _ (by omega) (by omega) w ) (fun _ _ _ h => h)) <|
    sq rfl (q_assign rfl) <|
    sq_end) ?_
  clear hF hS; intro a w hF hS
  have har := Gu.arnd_range (n := b) (m := (A9.length : Int) + 1) (by omega)
  obtain ⟨k9, hk9⟩ : ∃ k, k = Gu.arnd b ((A9.length : Int) + 1) := ⟨_, rfl⟩
  rw [← hk9] at har hF
  refine hK9 _ _ ?_
  clear hK9
  refine wp_seq_k ?_; intro K10 hK10
  revert hS; revert hF; apply regJ (J := J3 (α0 := Value) (α1 := Value) (α2 := Value) 151 _ _ _ _ _) #[false, false, false, false, false, false, false, false, false, false, false, false, false, false] 14 mixed rfl rfl
  ·intro w hF hS
   refine goW_take 1 _ rfl kQ rfl hF (hS.keep sQ zQ) (q_move rfl) ?_
   clear hF; intro a hF
   refine goW_take 2 _ rfl kQ rfl hF (hS.keep sQ zQ) (q_move rfl) ?_
   clear hF; intro a hF
   refine goW_take 3 _ rfl kQ rfl hF (hS.keep sQ zQ) (q_slsl_hi ty22 ty3 hzK rfl rfl (by omega)) ?_
   clear hF; intro a hF
   refine goW_take 5 _ rfl kQ rfl hF (hS.keep sQ zQ) (q_move rfl) ?_
   clear hF; intro a hF
   refine goW_take 6 _ rfl kQ rfl hF (hS.keep sQ zQ) (q_move rfl) ?_
   clear hF; intro a hF
   refine goW_take 7 _ rfl kQ rfl hF (hS.keep sQ zQ) (q_addi rfl rfl (by omega)) ?_
   clear hF; intro a hF
   refine goW_take 8 _ rfl kQ rfl hF (hS.keep sQ zQ) (q_move rfl) ?_
   clear hF; intro a hF
   refine goW_take 9 _ rfl kQ rfl hF (hS.keep sQ zQ) (q_len_sl ty22 hzK rfl) ?_
   clear hF; intro a hF
   refine goW_take 10 _ rfl kQ rfl hF (hS.keep sQ zQ) (q_min rfl rfl) ?_
   clear hF; intro a hF
   refine goW_take 11 _ rfl kQ rfl hF (hS.keep sQ zQ) (q_slsl_lo ty22 ty3 hzK rfl rfl (by omega)) ?_
   clear hF; intro a hF
   refine gQ 0 rfl rfl hF hS rfl (ef_bslice0 ty22 ty3) ?_
   clear hF hS; rintro v_7_0 _ _ a w ⟨rfl, rfl⟩ hF hS
   refine ⟨⟨.inr (hS.keep sQ zQ), .inr (hS.keep sQ zQ), .inr (hS.keep sQ zQ), .inr (hS.keep sQ zQ), .inr (hS.keep sQ zQ), .inr (hS.keep sQ zQ), .inr (hS.keep sQ zQ), .inr (hS.keep sQ zQ), .inr (hS.keep sQ zQ), .inr (hS.keep sQ zQ), trivial⟩, ?_⟩
   refine gQ 4 rfl rfl hF hS rfl (ef_append ty22 ty3 0 rfl rfl rfl (src_slV ty22 (Sl.cut hzK (by omega)) (.inr (by simp))) bQ rfl (by decide)) ?_
   clear hF hS; rintro v_7_4 _ _ a w ⟨rfl, rfl⟩ hF hS
   refine ⟨⟨.inr (hS.keep sQ zQ), .inr (hS.keep sQ zQ), .inr (hS.keep sQ zQ), .inr (hS.keep sQ zQ), .inr (hS.keep sQ zQ), .inr (hS.keep sQ zQ), .inr (hS.keep sQ zQ), iQ, iQ, iQ, trivial⟩, ?_⟩
   refine gQ 12 rfl rfl hF hS rfl (ef_append ty22 ty3 0 rfl rfl rfl (src_slV ty22 (Sl.cut hzK (by omega)) (.inr (by simp))) bQ rfl (by decide)) ?_
   clear hF hS; rintro v_7_12 _ _ a w ⟨rfl, rfl⟩ hF hS
   refine ⟨⟨iQ, iQ, .inr (hS.keep sQ zQ), .inr (hS.keep sQ zQ), .inr (hS.keep sQ zQ), .inr (hS.keep sQ zQ), iQ, iQ, iQ, iQ, trivial⟩, ?_⟩
   refine goW_take 13 _ rfl kQ rfl hF (hS.keep sQ zQ) (q_assign rfl) ?_
   clear hF; intro a hF
   exact goW_done kQ (j3_mk v_7_0 v_7_4 v_7_12 (trivial) (hF.sub (L' := [(3, _), (4, _), (5, _), (13, _), (14, _), (15, _), (16, _), (17, _), (18, _), (21, _)]) ⟨rfl, rfl, rfl, rfl, rfl, rfl, rfl, rfl, rfl, rfl, trivial⟩) hS)
  rintro a w ⟨v_7_0, v_7_4, v_7_12, -, hF, hS⟩
  (try dsimp only at hF); (try dsimp only at hS)
  have hal9 := Gu.arnd_range (n := b) (m := (T.length : Int) + 1) (by omega)
  obtain ⟨l9, hl9⟩ : ∃ k, k = Gu.arnd b ((T.length : Int) + 1) := ⟨_, rfl⟩
  have hal8 := hal9
  rw [← hl9] at hal8
  replace hS := hS.rowEq (m' := List.length ((A9.take k9.toNat).drop 0 ++ (A9.take A9.length).drop (min (k9 + 1) (A9.length : Int)).toNat)) (cs' := List.map vi ((A9.take k9.toNat).drop 0 ++ (A9.take A9.length).drop (min (k9 + 1) (A9.length : Int)).toNat)) (by simp) (by simp)
  obtain ⟨zW, hzW, hS⟩ := St.freezeV (h0 := fun _ => rfl) (f := vi) (p := fun x => -9223372036854775808 ≤ x ∧ x ≤ 9223372036854775807) (xs := (A9.take k9.toNat).drop 0 ++ (A9.take A9.length).drop (min (k9 + 1) (A9.length : Int)).toNat) hS rfl (by simp; omega) (fun x hx => by rcases List.mem_append.1 hx with h | h; exact hAr x (List.mem_of_mem_take (List.mem_of_mem_drop h)); exact hAr x (List.mem_of_mem_take (List.mem_of_mem_drop h)))
  replace hS : St _ [_, _, _] [] _ := hS
  refine hK10 _ _ ?_
  clear hK10
  refine wp_seq_k ?_; intro K11 hK11
  refine reg hF hS (sq rfl (q_move rfl) <|
    sq rfl (q_move rfl) <|
    sq rfl (q_move rfl) <|
    sq rfl (q_len_sl ty22 hzT rfl) <|
    sq rfl (q_addi rfl rfl (by omega)) <|
    sq rfl (q_call fn20 rfl (fun w hS => arnd_ct _ _ (by omega) (by omega) w ) (fun _ _ _ h => h)) <|
    sq rfl (q_slsl_hi ty22 ty3 hzT rfl rfl (by omega)) <|
    sq rfl (q_assign rfl) <|
    sq_end) ?_
  clear hF hS; intro a w hF hS
  rw [← hl9] at hF
  refine hK11 _ _ ?_
  clear hK11
  refine wp_seq_k ?_; intro K12 hK12
  refine regl ?_
  refine wpl_sq hF hS (sq rfl (q_move rfl) <|
    sq rfl (q_move rfl) <|
    sq rfl (q_move rfl) <|
    sq rfl (q_move rfl) <|
    sq rfl (q_move rfl) <|
    sq_end) ?_
  clear hF hS; intro a w hF hS
  refine wpl_ef hF hS rfl (ef_bsliceA ty58 ty22 rfl rfl (oc_cons (sl_one' hzT) (oc_cons (sl_one' hzT) (oc_cons (sl_one' (Sl.cut hzT (by omega))) (oc_cons (sl_one' hta) (oc_cons (sl_one' hzT) oc_nil))))) (by decide) rfl rfl) ?_
  clear hF hS; rintro v2 _ _ a w ⟨rfl, rfl⟩ hF hS
  replace hS : St _ [_, _, _] [_] _ := hS
  refine wpl_sq hF hS (sq rfl (q_assign rfl) <|
    sq_end) ?_
  clear hF hS; intro a w hF hS
  refine wpList_nil ?_
  refine hK12 _ _ ?_
  clear hK12
  refine wp_seq_k ?_; intro K13 hK13
  refine regl ?_
  refine wpl_sq hF hS (sq rfl (q_move rfl) <|
    sq rfl (q_move rfl) <|
    sq rfl (q_move rfl) <|
    sq rfl (q_move rfl) <|
    sq_end) ?_
  clear hF hS; intro a w hF hS
  refine wpl_ef hF hS rfl (ef_bslice0 ty22 ty3) ?_
  clear hF hS; rintro v4 _ _ a w ⟨rfl, rfl⟩ hF hS
  replace hS : St _ [_, _, _] [_, _] _ := hS
  refine wpl_sq hF hS (sq rfl (q_move rfl) <|
    sq_end) ?_
  clear hF hS; intro a w hF hS
  refine wpl_ef hF hS rfl (ef_append ty22 ty3 0 rfl rfl rfl (src_slV ty22 has zin0) bQ rfl (by decide)) ?_
  clear hF hS; rintro v6 _ _ a w ⟨rfl, rfl⟩ hF hS
  replace hS : St _ [_, _, _] [_, _] _ := hS
  refine wpl_sq hF hS (sq rfl (q_move rfl) <|
    sq_end) ?_
  clear hF hS; intro a w hF hS
  refine wpl_ef hF hS rfl (ef_appendW ty22 ty3 0 rfl rfl rfl (src_slV ty22 hzK (.inr (by simp))) bQ rfl (by decide)) ?_
  clear hF hS; rintro v7 _ _ a w ⟨rfl, rfl⟩ hF hS
  replace hS : St _ [_, _, _] [_, _] _ := hS
  have hoc10 := (oc_cons (sl_one' hzK) (oc_cons (sl_one' hzW) (oc_cons (sl_one' hzK) (oc_cons (sl_one' hzK) (oc_cons (row_one (hS.own _ (List.mem_of_getElem? (i := 0) rfl)).1) oc_nil)))))
  refine wpl_ef hF hS rfl (ef_bsliceA ty58 ty22 rfl rfl (oc_cons (sl_one' hzK) (oc_cons (sl_one' hzW) (oc_cons (sl_one' hzK) (oc_cons (sl_one' hzK) (oc_cons (row_one (hS.own _ (List.mem_of_getElem? (i := 0) rfl)).1) oc_nil))))) (by decide) rfl rfl) ?_
  clear hF hS; rintro v8 _ _ a w ⟨rfl, rfl⟩ hF hS
  replace hS : St _ [_, _, _] [_, _, _] _ := hS
  refine wpl_sq hF hS (sq rfl (q_assign rfl) <|
    sq_end) ?_
  clear hF hS; intro a w hF hS
  refine wpList_nil ?_
  replace hS := hS.perm (.swap _ _ _)
  replace hS := hS.rowEq (m' := List.length (ak ++ A9)) (cs' := List.map vi (ak ++ A9)) (by simp) (by simp)
  obtain ⟨zX, hzX, hS⟩ := St.freezeV (h0 := fun _ => rfl) (f := vi) (p := fun x => -9223372036854775808 ≤ x ∧ x ≤ 9223372036854775807) (xs := ak ++ A9) hS rfl (by simp; omega) (fun x hx => by rcases List.mem_append.1 hx with h | h; exact sl_rng has x h; exact hAr x h)
  replace hS : St _ [_, _, _, _] [_, _] _ := hS
  obtain ⟨zu, hzu, hS⟩ := hS.union
  replace hS : St _ [_, _, _, _, _] [_, _] _ := hS
  have hT9 := Sl.mono (hzu _ (by simp)) hzT
  have hK9 := Sl.mono (hzu _ (by simp)) hzK
  have hW9 := Sl.mono (hzu _ (by simp)) hzW
  have hX9 := Sl.mono (hzu _ (by simp)) hzX
  have hL9 := Sl.mono (hzu _ (by simp)) (Sl.cut (lo := 0) (hi := l9.toNat) hzT (by omega))
  refine hK13 _ _ ?_
  clear hK13
  refine wp_seq_k ?_; intro K14 hK14
  refine reg hF hS (sq rfl (q_assign rfl) <|
    sq_end) ?_
  clear hF hS; intro a w hF hS
  refine hK14 _ _ ?_
  clear hK14
  refine wp_block ?_
  obtain ⟨hs0, hhs0, hS⟩ : ∃ h, h = _ ∧ St _ _ h _ := ⟨_, rfl, hS⟩
  refine wp_loopx (γ := Int) (0) (fun (j : Int) => [(25, vi j)]) [(3, _), (4, _), (5, _), (13, _), (14, _), (15, _), (16, _), (23, _), (24, _)] (fun (j : Int) => hs0) (fun (j : Int) => 0 ≤ j ∧ j ≤ 5) (fun (j : Int) => (5 - j).toNat) (hF.sub ⟨rfl, rfl, rfl, rfl, rfl, rfl, rfl, rfl, rfl, rfl, trivial⟩) (by subst hhs0; exact hS) (by exact ⟨Int.le_refl _, by omega⟩) ?_
  clear hF hS; rintro j a w hfact hF hS
  subst hhs0; (try dsimp only at hfact); (try dsimp only at hF); (try dsimp only at hS)
  obtain ⟨hj0, hj1⟩ := hfact
  replace hS : St _ [_, _, _, _, _] [_, _] _ := hS
  refine wp_seq_k ?_; intro K15 hK15
  refine wp_seq_k ?_; intro K16 hK16
  refine reg hF hS (sq rfl (q_move rfl) <|
    sq rfl (q_move rfl) <|
    sq rfl (q_len_row ty58 1 rfl rfl) <|
    sq rfl (q_lti rfl rfl) <|
    sq_end) ?_
  clear hF hS; intro a w hF hS
  refine hK16 _ _ ?_
  clear hK16
  refine wp_ifd hF rfl (fun hc2 => ?_) (fun hc2 => ?_)
  ·obtain ⟨zp, mp, hzp, hmp⟩ := pickL5 hT9 hT9 hL9 hta hT9 (k := j.toNat) (by omega)
   obtain ⟨mq, hmq⟩ := pickU5 hK9 hW9 hK9 hK9 hX9 (k := j.toNat) (by omega)
   have hk9 : ∀ {a b c d e : Value}, j.toNat < [a, b, c, d, e].length := fun {a b c d e} => by show j.toNat < 5; omega
   refine wp_skip ?_
   refine hK15 _ _ ?_
   clear hK15
   refine wp_seq_k ?_; intro K17 hK17
   refine wp_block ?_
   refine wp_seq_k ?_; intro K18 hK18
   refine regd mixed kQ hF hS (sq rfl (q_move rfl) <|
     sq rfl (q_move rfl) <|
     sq rfl (q_idx_sl ty23 ty33 hsL rfl rfl (by omega)) <|
     sq rfl (q_ld_lat ty33 hsL (.inr (by simp)) hcel rfl rfl (by omega)) <|
     sq rfl (q_call fn9 rfl (fun w hS => family9_ct _ _ _ _ _ w (sl_one' hn9) (Sl.mono (hS.le (.inr (by simp))) hs9) (Sl.mono (hS.le (.inr (by simp))) hb99)) (fun _ _ _ h => h)) <|
     sq rfl (q_move rfl) <|
     sq rfl (q_move rfl) <|
     sq rfl (q_idx_sl ty24 ty37 hsq rfl rfl (by omega)) <|
     sq rfl (q_ld_que ty37 hsq (.inr (by simp)) hqcel rfl rfl (by omega)) <|
     sq rfl (q_call fn10 rfl (fun w hS => queue_ct _ _ _ w (Sl.mono (hS.le (.inr (by simp))) hqC)) (fun _ _ _ h => h)) <|
     sq rfl (q_move rfl) <|
     sq rfl (q_move rfl) <|
     sq rfl (q_idx_sl ty25 ty29 hsm rfl rfl (by omega)) <|
     sq rfl (q_ld_Sl ty29 hsm (.inr (by simp)) rfl rfl (by omega)) <|
     sq rfl (q_move rfl) <|
     sq rfl (q_move rfl) <|
     sq rfl (q_idx_row ty58 ty22 1 rfl rfl rfl (by omega)) <|
     sq rfl (q_ld_rowV ty22 1 rfl rfl hk9 rfl) <|
     sq rfl (q_move rfl) <|
     sq rfl (q_move rfl) <|
     sq rfl (q_idx_row ty58 ty22 0 rfl rfl rfl (by omega)) <|
     sq rfl (q_ld_rowV ty22 0 rfl rfl hk9 rfl) <|
     sq rfl (q_call fn25 rfl (fun w hS => gcheck_ct _ _ _ _ _ _ _ _ _ _ _ _ _ _ w (sl_one' hn9) (Sl.mono (hS.le (.inr (by simp))) hs9) (Sl.mono (hS.le (.inr (by simp))) hb99) (Sl.mono (hS.le (.inr (by simp))) hqC) (Sl.mono (hS.le (.inr (by simp))) (elemV_sl hsm (by omega))) (Sl.mono (hS.le (hzp.imp id (fun e => by simp [e]))) hmp) (Sl.mono (hS.le (.inr (by simp))) hmq)) (fun _ _ _ h => h)) <|
     sq rfl (q_move rfl) <|
     sq rfl (q_move rfl) <|
     sq rfl (q_idx_sl ty23 ty33 hsL rfl rfl (by omega)) <|
     sq rfl (q_ld_lat ty33 hsL (.inr (by simp)) hcel rfl rfl (by omega)) <|
     sq rfl (q_move rfl) <|
     sq rfl (q_move rfl) <|
     sq rfl (q_idx_sl ty24 ty37 hsq rfl rfl (by omega)) <|
     sq rfl (q_ld_que ty37 hsq (.inr (by simp)) hqcel rfl rfl (by omega)) <|
     sq rfl (q_move rfl) <|
     sq rfl (q_move rfl) <|
     sq rfl (q_idx_sl ty25 ty29 hsm rfl rfl (by omega)) <|
     sq rfl (q_ld_Sl ty29 hsm (.inr (by simp)) rfl rfl (by omega)) <|
     sq rfl (q_move rfl) <|
     sq rfl (q_move rfl) <|
     sq rfl (q_idx_row ty58 ty22 1 rfl rfl rfl (by omega)) <|
     sq rfl (q_ld_rowV ty22 1 rfl rfl hk9 rfl) <|
     sq rfl (q_move rfl) <|
     sq rfl (q_move rfl) <|
     sq rfl (q_idx_row ty58 ty22 0 rfl rfl rfl (by omega)) <|
     sq rfl (q_ld_rowV ty22 0 rfl rfl hk9 rfl) <|
     sq rfl (q_call fn26 rfl (fun w hS => rgcheck_ct _ _ _ _ _ _ _ _ _ _ _ _ _ _ w (sl_one' hn9) (Sl.mono (hS.le (.inr (by simp))) hs9) (Sl.mono (hS.le (.inr (by simp))) hb99) (Sl.mono (hS.le (.inr (by simp))) hqC) (Sl.mono (hS.le (.inr (by simp))) (elemV_sl hsm (by omega))) (Sl.mono (hS.le (hzp.imp id (fun e => by simp [e]))) hmp) (Sl.mono (hS.le (.inr (by simp))) hmq)) (fun _ _ _ h => h)) <|
     sq rfl (q_nf (q_nei rfl rfl) (rfl)) <|
     sq_end) ?_
   clear hF hS; intro a w hF hS
   refine hK18 _ _ ?_
   clear hK18
   refine wp_if hF rfl (fun h => absurd h (by simp)) (fun _ => ?_)
   refine wp_skip ?_
   refine hK17 _ _ ?_
   clear hK17
   refine reg hF hS (sq rfl (q_move rfl) <|
     sq rfl (q_addi rfl rfl (by omega)) <|
     sq rfl (q_assign rfl) <|
     sq_end) ?_
   clear hF hS; intro a w hF hS
   refine ⟨(j + 1), ?_, ?_, hF.sub ⟨rfl, rfl, rfl, rfl, rfl, rfl, rfl, rfl, rfl, rfl, trivial⟩, ?_⟩
   ·(try dsimp only); omega
   ·(try dsimp only); omega
   ·exact hS
  ·refine wp_exit ?_
   refine hK7 _ _ ?_
   clear hK7
   refine reg hF hS (sq rfl (q_move rfl) <|
     sq rfl (q_addi rfl rfl (by omega)) <|
     sq rfl (q_assign rfl) <|
     sq_end) ?_
   clear hF hS; intro a w hF hS
   replace hS := hS.keep (sQ.n.n.n.n) zQ
   refine ⟨(i + 1), ?_, ?_, hF.sub ⟨rfl, rfl, rfl, rfl, rfl, rfl, rfl, trivial⟩, ?_⟩
   ·(try dsimp only); omega
   ·(try dsimp only); omega
   ·exact hS
 ·refine wp_exit ?_
  refine hK3 _ _ ?_
  clear hK3
  refine wp_seq_k ?_; intro K19 hK19
  refine reg hF hS (sq rfl (q_call fn18 rfl (fun w hS => lives_ct w ) (fun _ _ _ h => h)) <|
    sq rfl (q_assign rfl) <|
    sq_end) ?_
  clear hF hS; intro a w hF hS
  refine hK19 _ _ ?_
  clear hK19
  refine wp_ret ?_
  exact fn_ret (rs := [.tmp 12]) rfl hF hS (vs := [_]) ⟨rfl, trivial⟩ zQ zQ (rfl)
end Go.Proofs.Ytplceoanaoeejaa
