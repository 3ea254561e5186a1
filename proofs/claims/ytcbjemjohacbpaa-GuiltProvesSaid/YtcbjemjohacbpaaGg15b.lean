/- A text of a proof over this seat: walks over the program's functions and the plain laws that they need. -/
import Derived.Test.YtcbjemjohacbpaaGg14
import Derived.Test.YtcbjemjohacbpaaGuA
import Derived.Test.YtcbjemjohacbpaaFwB
set_option linter.all false
namespace Go.Proofs.Ytcbjemjohacbpaa
open Go.Fw
theorem ty24 : Tf Try.prog 24 (.slice 29) 1 24 (Value.slice none 0 0) := ⟨Try.underlying24, by kernel_rfl⟩
theorem fn28 : FnOk Try.prog 28 := ⟨_, Try.func28, rfl, by kernel_rfl⟩
theorem fn46 : FnOk Try.prog 46 := ⟨_, Try.func46, rfl, by kernel_rfl⟩

set_option maxRecDepth 4000 in
set_option maxHeartbeats 2000000 in
theorem some_ct (v : Value) (l : List Int) (h b : Int) (hb9 : -9223372036854775808 ≤ b ∧ b ≤ 9223372036854775807) (hh9 : -9223372036854775808 ≤ h ∧ h ≤ 9223372036854775807) (w : World) (hb : Sl encI (ph w) v l) : Ct Try.prog 11 [v, vi h, vi b] w (LatsR) := by
 refine fn_enter Try.func11 rfl Try.ntmps11 (Nat.le_of_ble_eq_true rfl) fun a hF hS => ?_
 refine wp_seq_k ?_; intro K1 hK1
 refine reg hF hS (sq rfl (q_assign rfl) <|
   sq_end) ?_
 clear hF hS; intro a w hF hS
 refine hK1 _ _ ?_
 clear hK1
 refine wp_seq_k ?_; intro K2 hK2
 refine regl ?_
 refine wpl_sq hF hS (sq rfl (q_move rfl) <|
   sq_end) ?_
 clear hF hS; intro a w hF hS
 refine wpl_ef hF hS rfl (ef_call fn28 rfl (fun w hS => family_ct _ _ w (Sl.mono (hS.le zin0) hb))) ?_
 clear hF hS; rintro _ _ _ a w ⟨_, _, rfl, rfl, ⟨nv2, sv3, bv4, ns5, xs6, xb7, z8, rfl, hn9, hs10, hb11, ln12, ls13, lb14, leq15, rfl, rfl⟩⟩ hF hS
 replace hS : St _ [_] [] _ := hS
 refine wpl_ef hF hS rfl (ef_allocA ty29) ?_
 clear hF hS; rintro _ _ _ a w ⟨b16, rfl, rfl, rfl⟩ hF hS
 refine wpl_ef hF hS rfl (ef_storeW ty29 0 rfl rfl rfl rfl bQ (oc_cons (sl_one' hn9) (oc_cons (sl_one' hs10) (oc_cons (sl_one' hb11) oc_nil))) bQ) ?_
 clear hF hS; rintro _ _ _ a w ⟨rfl, rfl, rfl⟩ hF hS
 replace hS : St _ [_] [_] _ := hS
 refine wpList_nil ?_
 refine hK2 _ _ ?_
 clear hK2
 refine wp_seq_k ?_; intro K3 hK3
 refine regl ?_
 refine wpl_sq hF hS (sq rfl (q_ld_blkW ty29 0 rfl rfl bQ rfl) <|
   sq rfl (q_move rfl) <|
   sq rfl (q_move rfl) <|
   sq_end) ?_
 clear hF hS; intro a w hF hS
 refine wpl_ef hF hS rfl (ef_call fn46 rfl (fun w hS => odd_ct _ _ _ _ _ _ _ _ (by omega) (by omega) 32 (by omega) w (Sl.mono (hS.le (.inr (by simp))) hn9) (Sl.mono (hS.le (.inr (by simp))) hs10) (Sl.mono (hS.le (.inr (by simp))) hb11))) ?_
 clear hF hS; rintro _ _ _ a w ⟨_, _, rfl, rfl, ⟨nv18, sv19, bv20, ns21, xs22, xb23, z24, rfl, hn25, hs26, hb27, ln28, ls29, lb30, leq31, rfl, rfl⟩⟩ hF hS
 replace hS : St _ [_, _] [_] _ := hS
 refine wpl_ef hF hS rfl (ef_allocA ty29) ?_
 clear hF hS; rintro _ _ _ a w ⟨b32, rfl, rfl, rfl⟩ hF hS
 refine wpl_ef hF hS rfl (ef_storeW ty29 0 rfl rfl rfl rfl bQ (oc_cons (sl_one' hn25) (oc_cons (sl_one' hs26) (oc_cons (sl_one' hb27) oc_nil))) bQ) ?_
 clear hF hS; rintro _ _ _ a w ⟨rfl, rfl, rfl⟩ hF hS
 replace hS : St _ [_, _] [_, _] _ := hS
 refine wpList_nil ?_
 refine hK3 _ _ ?_
 clear hK3
 refine wp_seq_k ?_; intro K4 hK4
 revert hF hS; apply regJ (J := J8 (α0 := Value) (α1 := Value) (α2 := Value) (α3 := List (List Value)) (α4 := List Int) (α5 := List Bool) (α6 := PH) (α7 := Value) 23 _ _ _ _ _) #[false, false, false, false, false, false, false, false, false] 9 mixed rfl rfl
 ·intro w hF hS
  refine goW_take 0 _ rfl kQ rfl hF (hS.keep sQ (sQ.n)) (q_ld_blkW ty29 0 rfl rfl bQ rfl) ?_
  clear hF; intro a hF
  refine goW_take 1 _ rfl kQ rfl hF (hS.keep sQ (zQ.k)) (q_ld_blkW ty29 0 rfl rfl bQ rfl) ?_
  clear hF; intro a hF
  refine goW_take 2 _ rfl kQ rfl hF (hS.keep sQ (zQ.k)) (q_ld_blkW ty29 0 rfl rfl bQ rfl) ?_
  clear hF; intro a hF
  refine goW_take 3 _ rfl kQ rfl hF (hS.keep sQ zQ) (q_move rfl) ?_
  clear hF; intro a hF
  refine goW_take 4 _ rfl kQ rfl hF (hS.keep sQ zQ) (q_move rfl) ?_
  clear hF; intro a hF
  refine goW_take 6 _ rfl kQ rfl hF (hS.keep sQ zQ) (q_buildP (places := [(0, 1), (1, 1), (2, 1)]) (cells := [.slice none 0 0, .slice none 0 0, .slice none 0 0]) ty29 kQ rfl (by rfl)) ?_
  clear hF; intro a hF
  refine gQ 5 rfl rfl hF hS rfl (ef_call fn46 rfl (fun w hS => odd_ct _ _ _ _ _ _ _ _ (by omega) (by omega) 33 (by omega) w (Sl.mono (hS.le (.inr (by simp))) hn25) (Sl.mono (hS.le (.inr (by simp))) hs26) (Sl.mono (hS.le (.inr (by simp))) hb27))) ?_
  clear hF hS; rintro _ _ _ a w ⟨_, _, rfl, rfl, ⟨nv_3_5, sv_3_5, bv_3_5, ns_3_5, xs_3_5, xb_3_5, z_3_5, rfl, hn_3_5, hs_3_5, hb_3_5, ln_3_5, ls_3_5, lb_3_5, leq_3_5, rfl, rfl⟩⟩ hF hS
  refine ⟨⟨.inr (hS.keep (sQ.n) zQ), iQ, iQ, iQ, .inr (hS.keep (sQ.n) (zQ.k)), .inr (hS.keep (sQ.n) (sQ.n)), trivial⟩, ?_⟩
  refine gQ 7 rfl rfl hF hS rfl (ef_bsliceC ty24 ty29 [[_, _, _], [_, _, _], [_, _, _], [_, _, _]] rfl rfl (by simp) (oc2_cons (oc_cons (sl_one' hn9) (oc_cons (sl_one' hs10) (oc_cons (sl_one' hb11) oc_nil))) (oc2_cons (oc_cons (sl_one' hn25) (oc_cons (sl_one' hs26) (oc_cons (sl_one' hb27) oc_nil))) (oc2_cons (oc_cons (sl_one' hn_3_5) (oc_cons (sl_one' hs_3_5) (oc_cons (sl_one' hb_3_5) oc_nil))) (oc2_cons (oc_cons rfl (oc_cons rfl (oc_cons rfl oc_nil))) oc2_nil)))) (by decide) rfl rfl) ?_
  clear hF hS; rintro v_3_7 _ _ a w ⟨rfl, rfl⟩ hF hS
  refine ⟨⟨iQ, iQ, iQ, iQ, iQ, iQ, trivial⟩, ?_⟩
  refine goW_take 8 _ rfl kQ rfl hF (hS.keep sQ zQ) (q_assign rfl) ?_
  clear hF; intro a hF
  exact goW_done kQ (j8_mk nv_3_5 sv_3_5 bv_3_5 ns_3_5 xs_3_5 xb_3_5 z_3_5 v_3_7 ((And.intro hn_3_5 (And.intro hs_3_5 (And.intro hb_3_5 (And.intro ln_3_5 (And.intro ls_3_5 (And.intro lb_3_5 (And.intro leq_3_5 trivial)))))))) (hF.sub (L' := [(6, _)]) ⟨rfl, trivial⟩) hS)
 rintro a w ⟨nv_3_5, sv_3_5, bv_3_5, ns_3_5, xs_3_5, xb_3_5, z_3_5, v_3_7, ⟨hn_3_5, hs_3_5, hb_3_5, ln_3_5, ls_3_5, lb_3_5, leq_3_5, -⟩, hF, hS⟩
 (try dsimp only at hF); (try dsimp only at hS)
 refine hK4 _ _ ?_
 clear hK4
 refine wp_ret ?_
 obtain ⟨zu, hzu, hS⟩ := hS.union
 obtain ⟨zr, hzr, hS⟩ := St.freezeL (l := [[_, _, _], [_, _, _], [_, _, _], [_, _, _]]) (xs := [(ns5, xs6, xb7), (ns21, xs22, xb23), (ns_3_5, xs_3_5, xb_3_5), ([], [], [])]) hS (z' := zu) (by simp) rfl (by decide) ⟨⟨_, _, _, rfl, Sl.mono (hzu _ (by simp)) hn9, Sl.mono (hzu _ (by simp)) hs10, Sl.mono (hzu _ (by simp)) hb11⟩, ⟨_, _, _, rfl, Sl.mono (hzu _ (by simp)) hn25, Sl.mono (hzu _ (by simp)) hs26, Sl.mono (hzu _ (by simp)) hb27⟩, ⟨_, _, _, rfl, Sl.mono (hzu _ (by simp)) hn_3_5, Sl.mono (hzu _ (by simp)) hs_3_5, Sl.mono (hzu _ (by simp)) hb_3_5⟩, ⟨_, _, _, rfl, sl_nil, sl_nil, sl_nil⟩, trivial⟩
 exact fn_ret (rs := [.tmp 6]) rfl hF hS (vs := [_]) ⟨rfl, trivial⟩ (zs' := [zr]) (hs' := []) (List.singleton_sublist.2 (by simp)) zQ ⟨_, zr, hzr, rfl, (by intro x hx; simp only [List.mem_cons, List.not_mem_nil, or_false] at hx; rcases hx with rfl | rfl | rfl | rfl <;> simp <;> omega), rfl, rfl⟩
end Go.Proofs.Ytcbjemjohacbpaa
