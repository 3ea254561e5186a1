/- A text of a proof over this seat: walks over the program's functions and the plain laws that they need. -/
import Derived.Test.YtcbjemjohacbpaaGg8
import Derived.Test.YtcbjemjohacbpaaGuA
import Derived.Test.YtcbjemjohacbpaaFwB
set_option linter.all false
namespace Go.Proofs.Ytcbjemjohacbpaa
open Go.Fw
theorem ty27 : Tf Try.prog 27 (.slice 94) 1 24 (Value.slice none 0 0) := ⟨Try.underlying27, by kernel_rfl⟩
theorem fn47 : FnOk Try.prog 47 := ⟨_, Try.func47, rfl, by kernel_rfl⟩

set_option maxRecDepth 4000 in
set_option maxHeartbeats 2000000 in
theorem each_ct (xN xS xB : Value) (xs : List Int) (xb : List Bool) (v : Value) (m : List Int) (hl : xs.length < 1048576) (w : World) (hxn : xN.oneCell' = true) (hxs : Sl encI (ph w) xS xs) (hxb : Sl encT (ph w) xB xb) (hm : Sl encI (ph w) v m) : Ct Try.prog 12 [.agg [xN, xS, xB].toArray, v] w (SlR encT (Gu.eac xb m (min xs.length xb.length))) := by
 refine fn_enter Try.func12 rfl Try.ntmps12 (Nat.le_of_ble_eq_true rfl) fun a hF hS => ?_
 have hsl := hxs.1
 have htl := hxb.1
 have hml := hm.1
 refine wp_seq_k ?_; intro K1 hK1
 refine regl ?_
 refine wpl_ef hF hS rfl (ef_boxA rfl) ?_
 clear hF hS; rintro _ _ _ a w ⟨b1, rfl, rfl, rfl⟩ hF hS
 refine wpl_sq hF hS (sq rfl (q_assign rfl) <|
   sq_end) ?_
 clear hF hS; intro a w hF hS
 refine wpList_nil ?_
 refine hK1 _ _ ?_
 clear hK1
 refine wp_seq_k ?_; intro K2 hK2
 refine reg hF hS (sq rfl (q_assign rfl) <|
   sq_end) ?_
 clear hF hS; intro a w hF hS
 replace hS := hS.nilRow 4 1
 refine hK2 _ _ ?_
 clear hK2
 refine wp_seq_k ?_; intro K3 hK3
 refine wp_seq_k ?_; intro K4 hK4
 refine reg hF hS (sq rfl (q_assign rfl) <|
   sq_end) ?_
 clear hF hS; intro a w hF hS
 refine hK4 _ _ ?_
 clear hK4
 refine wp_block ?_
 obtain ⟨hs0, hhs0, hS⟩ : ∃ h, h = _ ∧ St _ _ h _ := ⟨_, rfl, hS⟩
 refine wp_loopx (γ := Value × Int) ((Value.slice none 0 0), 0) (fun (gg : Value × Int) => match gg with | (u, k) => [(5, u), (6, vi k)]) [(1, _), (2, _)] (fun (gg : Value × Int) => match gg with | (u, k) => (hs0.set 0 (.row u 4 1 (Gu.eac xb m k.toNat).length ((Gu.eac xb m k.toNat).map vt)))) (fun (gg : Value × Int) => match gg with | (u, k) => 0 ≤ k ∧ k ≤ xs.length ∧ k ≤ xb.length) (fun (gg : Value × Int) => match gg with | (u, k) => (xs.length - k).toNat) (hF.sub ⟨rfl, rfl, rfl, rfl, trivial⟩) (by subst hhs0; exact hS) (by exact ⟨Int.le_refl _, by omega, by omega⟩) ?_
 clear hF hS; rintro ⟨u, k⟩ a w hfact hF hS
 subst hhs0; (try dsimp only at hfact); (try dsimp only at hF); (try dsimp only at hS)
 obtain ⟨hk0, hk1, hk2⟩ := hfact
 replace hS : St _ [] [_, _] _ := hS
 have hel := Gu.eac_len xb m k.toNat
 refine wp_seq_k ?_; intro K5 hK5
 refine wp_seq_k ?_; intro K6 hK6
 refine regl ?_
 refine wpl_sq hF hS (sq rfl (q_move rfl) <|
   sq rfl (q_fieldAddr ty29 rfl rfl (s' := 0) kQ) <|
   sq rfl (q_ld_blk1 ty22 1 rfl rfl rfl rfl) <|
   sq rfl (q_len_sl ty22 hxs rfl) <|
   sq rfl (q_lti rfl rfl) <|
   sq rfl (q_move rfl) <|
   sq_end) ?_
 clear hF hS; intro a w hF hS
 refine wpl_and 5 12 5 hF hS rfl rfl rfl rfl rfl (fun hg => have hg := (by first | exact of_decide_eq_true hg | exact hg); sq_go 12 rfl rfl rfl (q_move rfl) <|
   sq_go 12 rfl rfl rfl (q_fieldAddr ty29 rfl rfl (s' := 0) kQ) <|
   sq_go 12 rfl rfl rfl (q_ld_blk1 ty23 1 rfl rfl rfl rfl) <|
   sq_go 12 rfl rfl rfl (q_len_sl ty23 hxb rfl) <|
   sq_go 12 rfl rfl rfl (q_lti rfl rfl) <|
   sq_end) rfl rfl ?_
 clear hF hS; intro a w hF hS
 refine wpList_nil ?_
 refine hK6 _ _ ?_
 clear hK6
 refine wp_if hF rfl (fun hc1 => ?_) (fun hc1 => ?_)
 ·(try simp only [Bool.or_eq_true, Bool.and_eq_true, Bool.or_eq_false_iff, Bool.and_eq_false_iff, decide_eq_true_eq, decide_eq_false_iff_not, Bool.not_eq_true', Bool.not_eq_false'] at hc1)
  refine wp_skip ?_
  refine hK5 _ _ ?_
  clear hK5
  refine wp_seq_k ?_; intro K7 hK7
  refine wp_block ?_
  refine regl ?_
  refine wpl_sq hF hS (sq rfl (q_move rfl) <|
    sq rfl (q_fieldAddr ty29 rfl rfl (s' := 0) kQ) <|
    sq rfl (q_ld_blk1 ty23 1 rfl rfl rfl rfl) <|
    sq rfl (q_move rfl) <|
    sq rfl (q_idx_sl ty23 ty4 hxb rfl rfl (by omega)) <|
    sq rfl (q_ld_T ty4 hxb zin0 rfl rfl (by omega)) <|
    sq rfl (q_move rfl) <|
    sq_end) ?_
  clear hF hS; intro a w hF hS
  refine wpl_and 6 27 4 hF hS rfl rfl rfl rfl rfl (fun hg => have hg := hg; sq_go 27 rfl rfl rfl (q_move rfl) <|
    sq_go 27 rfl rfl rfl (q_move rfl) <|
    sq_go 27 rfl rfl rfl (q_call fn47 rfl (fun w hS => at_ct _ _ _ _ (by omega) w (Sl.mono (hS.le zin0) hm)) (fun _ _ _ h => h)) <|
    sq_go 27 rfl rfl rfl (q_eqi rfl rfl) <|
    sq_end) rfl rfl ?_
  clear hF hS; intro a w hF hS
  refine wpl_ef hF hS rfl (ef_bsliceA ty23 ty4 rfl rfl oQ (by decide) rfl rfl) ?_
  clear hF hS; rintro v3 _ _ a w ⟨rfl, rfl⟩ hF hS
  replace hS : St _ [] [_, _, _] _ := hS
  refine wpl_ef hF hS rfl (ef_append ty23 ty4 1 rfl rfl rfl (src_row ty23 (k := 0) rfl oQ) bQ rfl (by decide)) ?_
  clear hF hS; rintro v5 _ _ a w ⟨rfl, rfl⟩ hF hS
  replace hS : St _ [] [_, _, _] _ := hS
  refine wpl_sq hF hS (sq rfl (q_assign rfl) <|
    sq_end) ?_
  clear hF hS; intro a w hF hS
  refine wpList_nil ?_
  refine hK7 _ _ ?_
  clear hK7
  refine reg hF hS (sq rfl (q_move rfl) <|
    sq rfl (q_addi rfl rfl (by omega)) <|
    sq rfl (q_assign rfl) <|
    sq_end) ?_
  clear hF hS; intro a w hF hS
  replace hS := hS.keep zQ (sQ.n)
  refine ⟨(v5, k + 1), ?_, ?_, hF.sub ⟨rfl, rfl, rfl, rfl, trivial⟩, ?_⟩
  ·(try dsimp only); omega
  ·(try dsimp only); omega
  ·dsimp only; rw [show (k + 1).toNat = k.toNat + 1 by omega, Gu.eac_len, Gu.eac_step, List.map_append, show ((k.toNat : Nat) : Int) = k by omega]; rw [Gu.eac_len] at hS; exact hS
 ·(try simp only [Bool.or_eq_true, Bool.and_eq_true, Bool.or_eq_false_iff, Bool.and_eq_false_iff, decide_eq_true_eq, decide_eq_false_iff_not, Bool.not_eq_true', Bool.not_eq_false'] at hc1)
  obtain rfl : k = (min xs.length xb.length : Nat) := by omega
  rw [Int.toNat_natCast] at hS hel
  refine wp_exit ?_
  refine hK3 _ _ ?_
  clear hK3
  refine wp_seq_k ?_; intro K8 hK8
  refine reg hF hS (sq rfl (q_move rfl) <|
    sq rfl (q_assign rfl) <|
    sq_end) ?_
  clear hF hS; intro a w hF hS
  refine hK8 _ _ ?_
  clear hK8
  refine wp_ret ?_
  obtain ⟨zr, hzr, hS⟩ := St.freezeV (f := vt) (p := fun _ => True) hS rfl (by first | omega | (simp; omega)) (fun _ _ => trivial)
  exact fn_ret (rs := [.tmp 4]) rfl hF hS (vs := [_]) ⟨rfl, trivial⟩ (zs' := [_]) (hs' := []) (List.singleton_sublist.2 (by simp)) zQ (sr_of ⟨_, hzr, rfl, rfl⟩ (rfl))

set_option maxRecDepth 4000 in
set_option maxHeartbeats 2000000 in
theorem own_ct (xN xS xB : Value) (xs : List Int) (xb : List Bool) (w : World) (hxn : xN.oneCell' = true) (hxs : Sl encI (ph w) xS xs) (hxb : Sl encT (ph w) xB xb) : Ct Try.prog 14 [.agg [xN, xS, xB].toArray] w (fun r _ _ => r = .agg [xN, xS, xB].toArray) := by
 refine fn_enter Try.func14 rfl Try.ntmps14 (Nat.le_of_ble_eq_true rfl) fun a hF hS => ?_
 refine wp_seq_k ?_; intro K1 hK1
 refine regl ?_
 refine wpl_ef hF hS rfl (ef_boxA rfl) ?_
 clear hF hS; rintro _ _ _ a w ⟨b1, rfl, rfl, rfl⟩ hF hS
 refine wpl_ef hF hS rfl (ef_allocA ty34) ?_
 clear hF hS; rintro _ _ _ a w ⟨b2, rfl, rfl, rfl⟩ hF hS
 refine wpList_nil ?_
 refine hK1 _ _ ?_
 clear hK1
 refine wp_seq_k ?_; intro K2 hK2
 refine regl ?_
 refine wpl_sq hF hS (sq rfl (q_fieldAddr ty29 rfl rfl (s' := 0) kQ) <|
   sq rfl (q_ld_blk1 ty27 1 rfl rfl rfl rfl) <|
   sq rfl (q_fieldAddr ty29 rfl rfl (s' := 0) kQ) <|
   sq rfl (q_ld_blk1 ty22 1 rfl rfl rfl rfl) <|
   sq rfl (q_fieldAddr ty29 rfl rfl (s' := 0) kQ) <|
   sq rfl (q_ld_blk1 ty23 1 rfl rfl rfl rfl) <|
   sq rfl (q_buildS1 ty34 3 kQ rfl rfl (oc_cons hxn (oc_cons (sl_one' hxs) (oc_cons (sl_one' hxb) oc_nil))) rfl rfl) <|
   sq_end) ?_
 clear hF hS; intro a w hF hS
 refine wpl_ef hF hS rfl (ef_storeW ty34 0 rfl rfl rfl rfl bQ (oc_cons hxn (oc_cons (sl_one' hxs) (oc_cons (sl_one' hxb) oc_nil))) bQ) ?_
 clear hF hS; rintro _ _ _ a w ⟨rfl, rfl, rfl⟩ hF hS
 replace hS : St _ [] [_, _] _ := hS
 refine wpList_nil ?_
 refine hK2 _ _ ?_
 clear hK2
 refine wp_ret ?_
 exact fn_ret (rs := [.cell 2 34]) rfl hF hS (vs := [_]) ⟨⟨_, _, _, _, _, _, _, rfl, List.mem_of_getElem? (i := 0) rfl, ty34, .inl ⟨rfl, bQ, rfl⟩⟩, trivial⟩ zQ zQ (rfl)
end Go.Proofs.Ytcbjemjohacbpaa
