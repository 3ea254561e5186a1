/- A text of a proof over this seat: walks over the program's functions and the plain laws that they need. -/
import Derived.Test.YtplceoanaoeejaaQg12
import Derived.Test.YtplceoanaoeejaaGpA
import Derived.Test.YtplceoanaoeejaaFwC
import Derived.Test.YtplceoanaoeejaaFwB
set_option linter.all false
namespace Go.Proofs.Ytplceoanaoeejaa
open Go.Fw
theorem ty4 : Tf Try.prog 4 .bool 1 1 (Value.bool false) := ⟨Try.underlying4, by kernel_rfl⟩
theorem ty28 : Tf Try.prog 28 (.slice 82) 1 24 (Value.slice none 0 0) := ⟨Try.underlying28, by kernel_rfl⟩
theorem ty29 : Tf Try.prog 29 (.slice 4) 1 24 (Value.slice none 0 0) := ⟨Try.underlying29, by kernel_rfl⟩
theorem ty35 : Tf Try.prog 35 (.struct #[⟨ "Base", 3, 0, false, "", "", 0⟩, ⟨ "Changes", 22, 1, false, "", "", 8⟩]) 2 32 (.agg ([Value.int .i64 0] ++ [Value.slice none 0 0]).toArray) := ⟨Try.underlying35, by kernel_rfl⟩
theorem ty37 : Tf Try.prog 37 (.struct #[⟨ "Base", 3, 0, false, "", "", 0⟩, ⟨ "Changes", 22, 1, false, "", "", 8⟩]) 2 32 (.agg ([Value.int .i64 0] ++ [Value.slice none 0 0]).toArray) := ⟨Try.underlying37, by kernel_rfl⟩
theorem ty68 : Tf Try.prog 68 (.struct #[⟨ "x", 31, 0, false, "", "culprit/group", 0⟩, ⟨ "bad", 29, 3, false, "", "culprit/group", 72⟩]) 4 96 (.agg ([Value.slice none 0 0, Value.slice none 0 0, Value.slice none 0 0, Value.slice none 0 0]).toArray) := ⟨Try.underlying68, by kernel_rfl⟩
theorem fn30 : FnOk Try.prog 30 := ⟨_, Try.func30, rfl, by kernel_rfl⟩
theorem fn39 : FnOk Try.prog 39 := ⟨_, Try.func39, rfl, by kernel_rfl⟩
theorem fn40 : FnOk Try.prog 40 := ⟨_, Try.func40, rfl, by kernel_rfl⟩
theorem fn41 : FnOk Try.prog 41 := ⟨_, Try.func41, rfl, by kernel_rfl⟩

set_option maxRecDepth 4000 in
set_option maxHeartbeats 2000000 in
theorem family9_ct (xN xS xB : Value) (xs : List Int) (xb : List Bool) (w : World) (hxn : xN.oneCell' = true) (hxs : Sl encI (ph w) xS xs) (hxb : Sl encT (ph w) xB xb) : Ct Try.prog 9 [.agg [xN, xS, xB].toArray] w (fun r _ _ => r = .agg [xN, xS, xB].toArray) := by
 refine fn_enter Try.func9 rfl Try.ntmps9 (Nat.le_of_ble_eq_true rfl) fun a hF hS => ?_
 refine wp_seq_k ?_; intro K1 hK1
 refine regl ?_
 refine wpl_ef hF hS rfl (ef_boxA rfl) ?_
 clear hF hS; rintro _ _ _ a w ⟨b1, rfl, rfl, rfl⟩ hF hS
 refine wpl_ef hF hS rfl (ef_allocA ty31) ?_
 clear hF hS; rintro _ _ _ a w ⟨b2, rfl, rfl, rfl⟩ hF hS
 refine wpList_nil ?_
 refine hK1 _ _ ?_
 clear hK1
 refine wp_seq_k ?_; intro K2 hK2
 refine regl ?_
 refine wpl_sq hF hS (sq rfl (q_fieldAddr ty33 rfl rfl (s' := 0) kQ) <|
   sq rfl (q_ld_blk1 ty28 1 rfl rfl rfl rfl) <|
   sq rfl (q_fieldAddr ty33 rfl rfl (s' := 0) kQ) <|
   sq rfl (q_ld_blk1 ty22 1 rfl rfl rfl rfl) <|
   sq rfl (q_fieldAddr ty33 rfl rfl (s' := 0) kQ) <|
   sq rfl (q_ld_blk1 ty29 1 rfl rfl rfl rfl) <|
   sq rfl (q_buildS1 ty31 3 kQ rfl rfl (oc_cons hxn (oc_cons (sl_one' hxs) (oc_cons (sl_one' hxb) oc_nil))) rfl rfl) <|
   sq_end) ?_
 clear hF hS; intro a w hF hS
 refine wpl_ef hF hS rfl (ef_storeW ty31 0 rfl rfl rfl rfl bQ (oc_cons hxn (oc_cons (sl_one' hxs) (oc_cons (sl_one' hxb) oc_nil))) bQ) ?_
 clear hF hS; rintro _ _ _ a w ⟨rfl, rfl, rfl⟩ hF hS
 replace hS : St _ [] [_, _] _ := hS
 refine wpList_nil ?_
 refine hK2 _ _ ?_
 clear hK2
 refine wp_ret ?_
 exact fn_ret (rs := [.cell 2 31]) rfl hF hS (vs := [_]) ⟨⟨_, _, _, _, _, _, _, rfl, List.mem_of_getElem? (i := 0) rfl, ty31, .inl ⟨rfl, bQ, rfl⟩⟩, trivial⟩ zQ zQ (rfl)

set_option maxRecDepth 4000 in
set_option maxHeartbeats 2000000 in
theorem queue_ct (base : Int) (cV : Value) (ch : List Int) (w : World) (hc : Sl encI (ph w) cV ch) : Ct Try.prog 10 [.agg [vi base, cV].toArray] w (fun r _ _ => r = .agg [vi base, cV].toArray) := by
 refine fn_enter Try.func10 rfl Try.ntmps10 (Nat.le_of_ble_eq_true rfl) fun a hF hS => ?_
 refine wp_seq_k ?_; intro K1 hK1
 refine regl ?_
 refine wpl_ef hF hS rfl (ef_boxA rfl) ?_
 clear hF hS; rintro _ _ _ a w ⟨b1, rfl, rfl, rfl⟩ hF hS
 refine wpl_ef hF hS rfl (ef_allocA ty35) ?_
 clear hF hS; rintro _ _ _ a w ⟨b2, rfl, rfl, rfl⟩ hF hS
 refine wpList_nil ?_
 refine hK1 _ _ ?_
 clear hK1
 refine wp_seq_k ?_; intro K2 hK2
 refine regl ?_
 refine wpl_sq hF hS (sq rfl (q_fieldAddr ty37 rfl rfl (s' := 0) kQ) <|
   sq rfl (q_ld_blk1 ty3 1 rfl rfl rfl rfl) <|
   sq rfl (q_fieldAddr ty37 rfl rfl (s' := 0) kQ) <|
   sq rfl (q_ld_blk1 ty22 1 rfl rfl rfl rfl) <|
   sq rfl (q_buildS1 ty35 2 kQ rfl rfl (oc_cons rfl (oc_cons (sl_one' hc) oc_nil)) rfl rfl) <|
   sq_end) ?_
 clear hF hS; intro a w hF hS
 refine wpl_ef hF hS rfl (ef_storeW ty35 0 rfl rfl rfl rfl bQ (oc_cons rfl (oc_cons (sl_one' hc) oc_nil)) bQ) ?_
 clear hF hS; rintro _ _ _ a w ⟨rfl, rfl, rfl⟩ hF hS
 replace hS : St _ [] [_, _] _ := hS
 refine wpList_nil ?_
 refine hK2 _ _ ?_
 clear hK2
 refine wp_ret ?_
 exact fn_ret (rs := [.cell 2 35]) rfl hF hS (vs := [_]) ⟨⟨_, _, _, _, _, _, _, rfl, List.mem_of_getElem? (i := 0) rfl, ty35, .inl ⟨rfl, bQ, rfl⟩⟩, trivial⟩ zQ zQ (rfl)

set_option maxRecDepth 4000 in
set_option maxHeartbeats 2000000 in
theorem rin_ct (v : Value) (l : List Int) (n : Int) (w : World) (hl : Sl encI (ph w) v l) : Ct Try.prog 24 [v, vi n] w (fun r _ _ => r = .bool (decide (n ∈ l))) := by
 refine fn_enter Try.func24 rfl Try.ntmps24 (Nat.le_of_ble_eq_true rfl) fun a hF hS => ?_
 have hll := hl.1
 refine wp_seq_k ?_; intro K1 hK1
 refine reg hF hS (sq rfl (q_assign rfl) <|
   sq_end) ?_
 clear hF hS; intro a w hF hS
 refine hK1 _ _ ?_
 clear hK1
 refine wp_seq_k ?_; intro K2 hK2
 refine wp_seq_k ?_; intro K3 hK3
 refine reg hF hS (sq rfl (q_assign rfl) <|
   sq_end) ?_
 clear hF hS; intro a w hF hS
 refine hK3 _ _ ?_
 clear hK3
 refine wp_block ?_
 obtain ⟨hs0, hhs0, hS⟩ : ∃ h, h = _ ∧ St _ _ h _ := ⟨_, rfl, hS⟩
 refine wp_loopx (γ := Int) (0) (fun (i : Int) => [(5, vi i)]) [(0, _), (1, _)] (fun (i : Int) => hs0) (fun (i : Int) => 0 ≤ i ∧ i ≤ l.length ∧ n ∉ l.take i.toNat) (fun (i : Int) => (l.length - i).toNat) (hF.sub ⟨rfl, rfl, rfl, trivial⟩) (by subst hhs0; exact hS) (by exact ⟨Int.le_refl _, by omega, by simp⟩) ?_
 clear hF hS; rintro i a w hfact hF hS
 subst hhs0; (try dsimp only at hfact); (try dsimp only at hF); (try dsimp only at hS)
 obtain ⟨hi0, hi1, hno⟩ := hfact
 replace hS : St _ [] [] _ := hS
 refine wp_seq_k ?_; intro K4 hK4
 refine wp_seq_k ?_; intro K5 hK5
 refine reg hF hS (sq rfl (q_move rfl) <|
   sq rfl (q_move rfl) <|
   sq rfl (q_len_sl ty22 hl rfl) <|
   sq rfl (q_lti rfl rfl) <|
   sq_end) ?_
 clear hF hS; intro a w hF hS
 refine hK5 _ _ ?_
 clear hK5
 refine wp_ifd hF rfl (fun hc1 => ?_) (fun hc1 => ?_)
 ·refine wp_skip ?_
  refine hK4 _ _ ?_
  clear hK4
  refine wp_seq_k ?_; intro K6 hK6
  refine wp_block ?_
  refine wp_seq_k ?_; intro K7 hK7
  refine reg hF hS (sq rfl (q_move rfl) <|
    sq rfl (q_move rfl) <|
    sq rfl (q_idx_sl ty22 ty3 hl rfl rfl (by omega)) <|
    sq rfl (q_ld_I ty3 hl zin0 rfl rfl (by omega)) <|
    sq rfl (q_move rfl) <|
    sq rfl (q_eqi rfl rfl) <|
    sq_end) ?_
  clear hF hS; intro a w hF hS
  refine hK7 _ _ ?_
  clear hK7
  refine wp_ifd hF rfl (fun hc2 => ?_) (fun hc2 => ?_)
  ·refine wp_seq_k ?_; intro K8 hK8
   refine reg hF hS (sq rfl (q_assign rfl) <|
     sq_end) ?_
   clear hF hS; intro a w hF hS
   refine hK8 _ _ ?_
   clear hK8
   refine wp_ret ?_
   exact fn_ret (rs := [.tmp 4]) rfl hF hS (vs := [_]) ⟨rfl, trivial⟩ zQ zQ (by rw [decide_eq_true]; rw [← hc2]; exact getD_mem (by omega))
  ·refine wp_skip ?_
   refine hK6 _ _ ?_
   clear hK6
   refine reg hF hS (sq rfl (q_move rfl) <|
     sq rfl (q_addi rfl rfl (by omega)) <|
     sq rfl (q_assign rfl) <|
     sq_end) ?_
   clear hF hS; intro a w hF hS
   refine ⟨(i + 1), ?_, ?_, hF.sub ⟨rfl, rfl, rfl, trivial⟩, ?_⟩
   ·(try dsimp only); omega
   ·exact ⟨by omega, by omega, by rw [show (i + 1).toNat = i.toNat + 1 by omega, Gu.take_snoc' (by omega), List.mem_append, List.mem_singleton]; rintro (h | h); exact hno h; exact hc2 h.symm⟩
   ·exact hS
 ·refine wp_exit ?_
  refine hK2 _ _ ?_
  clear hK2
  refine wp_seq_k ?_; intro K9 hK9
  refine reg hF hS (sq rfl (q_assign rfl) <|
    sq_end) ?_
  clear hF hS; intro a w hF hS
  refine hK9 _ _ ?_
  clear hK9
  refine wp_ret ?_
  exact fn_ret (rs := [.tmp 4]) rfl hF hS (vs := [_]) ⟨rfl, trivial⟩ zQ zQ (by rw [decide_eq_false]; rw [List.take_of_length_le (by omega)] at hno; exact hno)

set_option maxRecDepth 4000 in
set_option maxHeartbeats 2000000 in
theorem valid1_ct (s : Int) (e1 : Nat) (xN xS xB : Value) (xs : List Int) (xb : List Bool) (w : World) (hb1 : w.heap[e1]? = some (.cells [xN, xS, xB].toArray 31 (0, 0))) (hxn : xN.oneCell' = true) (hxs : Sl encI (ph w) xS xs) (hxb : Sl encT (ph w) xB xb) : Ct Try.prog 39 [vi s, .pointer (some ⟨e1, 0, none⟩)] w (fun r _ _ => r = .bool (decide (Gp.ix xs s < 0))) := by
 refine fn_enter Try.func39 rfl Try.ntmps39 (Nat.le_of_ble_eq_true rfl) fun a hF hS => ?_
 refine wp_seq_k ?_; intro K1 hK1
 refine reg hF hS (sq rfl (q_assign rfl) <|
   sq_end) ?_
 clear hF hS; intro a w hF hS
 refine hK1 _ _ ?_
 clear hK1
 refine wp_seq_k ?_; intro K2 hK2
 refine reg hF hS (sq rfl (q_ld_oldW ty31 rfl hb1 bQ rfl) <|
   sq rfl (q_move rfl) <|
   sq rfl (q_call fn30 rfl (fun w hS => lix_ct _ _ _ _ _ _ w hxn (Sl.mono (hS.le zin0) hxs) (Sl.mono (hS.le zin0) hxb)) (fun _ _ _ h => h)) <|
   sq rfl (q_lti rfl rfl) <|
   sq rfl (q_assign rfl) <|
   sq_end) ?_
 clear hF hS; intro a w hF hS
 refine hK2 _ _ ?_
 clear hK2
 refine wp_ret ?_
 exact fn_ret (rs := [.tmp 3]) rfl hF hS (vs := [_]) ⟨rfl, trivial⟩ zQ zQ (rfl)

set_option maxRecDepth 4000 in
set_option maxHeartbeats 2000000 in
theorem valid_ct (xN xS xB : Value) (xs : List Int) (xb : List Bool) (base : Int) (cV : Value) (ch : List Int) (w : World) (hxn : xN.oneCell' = true) (hxs : Sl encI (ph w) xS xs) (hxb : Sl encT (ph w) xB xb) (hc : Sl encI (ph w) cV ch) : Ct Try.prog 15 [.agg [xN, xS, xB].toArray, .agg [vi base, cV].toArray] w (fun r _ _ => r = vi (Gp.vl xs xb base ch)) := by
 refine fn_enter Try.func15 rfl Try.ntmps15 (Nat.le_of_ble_eq_true rfl) fun a hF hS => ?_
 have hsl := hxs.1
 have htl := hxb.1
 have hcl := hc.1
 refine wp_seq_k ?_; intro K1 hK1
 refine regl ?_
 refine wpl_ef hF hS rfl (ef_boxA rfl) ?_
 clear hF hS; rintro _ _ _ a w ⟨b1, rfl, rfl, rfl⟩ hF hS
 refine wpl_ef hF hS rfl (ef_boxA rfl) ?_
 clear hF hS; rintro _ _ _ a w ⟨b2, rfl, rfl, rfl⟩ hF hS
 refine wpl_sq hF hS (sq rfl (q_assign rfl) <|
   sq_end) ?_
 clear hF hS; intro a w hF hS
 refine wpList_nil ?_
 refine hK1 _ _ ?_
 clear hK1
 refine wp_seq_k ?_; intro K2 hK2
 refine reg hF hS (sq rfl (q_mkf rfl rfl) <|
   sq rfl (q_assign rfl) <|
   sq_end) ?_
 clear hF hS; intro a w hF hS
 refine hK2 _ _ ?_
 clear hK2
 refine wp_seq_k ?_; intro K3 hK3
 refine wp_block ?_
 refine wp_seq_k ?_; intro K4 hK4
 refine reg hF hS (sq rfl (q_fieldAddr ty31 rfl rfl (s' := 0) kQ) <|
   sq rfl (q_ld_blk1 ty29 1 rfl rfl rfl rfl) <|
   sq rfl (q_len_sl ty29 hxb rfl) <|
   sq rfl (q_fieldAddr ty31 rfl rfl (s' := 0) kQ) <|
   sq rfl (q_ld_blk1 ty22 1 rfl rfl rfl rfl) <|
   sq rfl (q_len_sl ty22 hxs rfl) <|
   sq rfl (q_nei rfl rfl) <|
   sq rfl (q_assign rfl) <|
   sq_end) ?_
 clear hF hS; intro a w hF hS
 refine hK4 _ _ ?_
 clear hK4
 refine wp_ifn hF rfl (fun hc1 => ?_) (fun hc1 => ?_)
 ·refine wp_seq_k ?_; intro K5 hK5
  refine reg hF hS (sq rfl (q_assign rfl) <|
    sq_end) ?_
  clear hF hS; intro a w hF hS
  refine hK5 _ _ ?_
  clear hK5
  refine wp_ret ?_
  exact fn_ret (rs := [.tmp 4]) rfl hF hS (vs := [_]) ⟨rfl, trivial⟩ zQ zQ (by unfold Gp.vl; rw [if_pos hc1])
 ·refine wp_seq_k ?_; intro K6 hK6
  refine reg hF hS (sq rfl (q_fieldAddr ty35 rfl rfl (s' := 0) kQ) <|
    sq rfl (q_ld_blk1 ty22 0 rfl rfl rfl rfl) <|
    sq rfl (q_len_sl ty22 hc rfl) <|
    sq rfl (q_gti rfl rfl) <|
    sq rfl (q_assign rfl) <|
    sq_end) ?_
  clear hF hS; intro a w hF hS
  refine hK6 _ _ ?_
  clear hK6
  refine wp_ifd hF rfl (fun hc2 => ?_) (fun hc2 => ?_)
  ·refine wp_seq_k ?_; intro K7 hK7
   refine reg hF hS (sq rfl (q_assign rfl) <|
     sq_end) ?_
   clear hF hS; intro a w hF hS
   refine hK7 _ _ ?_
   clear hK7
   refine wp_ret ?_
   exact fn_ret (rs := [.tmp 4]) rfl hF hS (vs := [_]) ⟨rfl, trivial⟩ zQ zQ (by unfold Gp.vl; rw [if_neg (by simpa using hc1), if_pos hc2])
  ·refine wp_seq_k ?_; intro K8 hK8
   refine regl ?_
   refine wpl_sq hF hS (sq rfl (q_move rfl) <|
     sq rfl (q_fieldAddr ty35 rfl rfl (s' := 0) kQ) <|
     sq rfl (q_ld_blk1 ty3 0 rfl rfl rfl rfl) <|
     sq rfl (q_callv fn39 rfl rfl (by exact fun w hS => valid1_ct _ _ _ _ _ _ _ w (own_box hS 1 rfl) hxn (Sl.mono (hS.le zin0) hxs) (Sl.mono (hS.le zin0) hxb)) (fun _ _ _ h => h)) <|
     sq rfl (q_move rfl) <|
     sq_end) ?_
   clear hF hS; intro a w hF hS
   refine wpl_or 4 25 4 hF hS rfl rfl rfl rfl rfl (fun hg => have hg := (by first | exact of_decide_eq_false hg | exact hg); sq_go 25 rfl rfl rfl (q_fieldAddr ty35 rfl rfl (s' := 0) kQ) <|
     sq_go 25 rfl rfl rfl (q_ld_blk1 ty22 0 rfl rfl rfl rfl) <|
     sq_go 25 rfl rfl rfl (q_move rfl) <|
     sq_go 25 rfl rfl rfl (q_call fn40 rfl (fun w hS => contf_ct _ _ _ (fun _ => True) (fun s => decide (Gp.ix xs s < 0)) (fun _ _ => trivial) w (Sl.mono (hS.le zin0) hc) ⟨39, [], [_], rfl, fn39, fun w' hle x0 hq => valid1_ct _ _ _ _ _ _ _ w' (hle _ _ (own_box hS 1 rfl)) hxn (Sl.mono (PH.le_tr (hS.le zin0) hle) hxs) (Sl.mono (PH.le_tr (hS.le zin0) hle) hxb)⟩) (fun _ _ _ h => h)) <|
     sq_end) rfl rfl ?_
   clear hF hS; intro a w hF hS
   refine wpl_sq hF hS (sq rfl (q_assign rfl) <|
     sq_end) ?_
   clear hF hS; intro a w hF hS
   refine wpList_nil ?_
   refine hK8 _ _ ?_
   clear hK8
   refine wp_if hF rfl (fun hc3 => ?_) (fun hc3 => ?_)
   ·(try simp only [Bool.or_eq_true, Bool.and_eq_true, Bool.or_eq_false_iff, Bool.and_eq_false_iff, decide_eq_true_eq, decide_eq_false_iff_not, Bool.not_eq_true', Bool.not_eq_false'] at hc3)
    refine wp_seq_k ?_; intro K9 hK9
    refine reg hF hS (sq rfl (q_assign rfl) <|
      sq_end) ?_
    clear hF hS; intro a w hF hS
    refine hK9 _ _ ?_
    clear hK9
    refine wp_ret ?_
    exact fn_ret (rs := [.tmp 4]) rfl hF hS (vs := [_]) ⟨rfl, trivial⟩ zQ zQ (by unfold Gp.vl; rw [if_neg (by simpa using hc1), if_neg (by omega), if_pos hc3])
   ·(try simp only [Bool.or_eq_true, Bool.and_eq_true, Bool.or_eq_false_iff, Bool.and_eq_false_iff, decide_eq_true_eq, decide_eq_false_iff_not, Bool.not_eq_true', Bool.not_eq_false'] at hc3)
    refine wp_skip ?_
    refine hK3 _ _ ?_
    clear hK3
    refine wp_seq_k ?_; intro K10 hK10
    refine reg hF hS (sq rfl (q_assign rfl) <|
      sq_end) ?_
    clear hF hS; intro a w hF hS
    refine hK10 _ _ ?_
    clear hK10
    refine wp_ret ?_
    exact fn_ret (rs := [.tmp 4]) rfl hF hS (vs := [_]) ⟨rfl, trivial⟩ zQ zQ (by unfold Gp.vl; rw [if_neg (by simpa using hc1), if_neg (by omega), if_neg (by intro h; rcases h with h | h; exact absurd h (by omega); rw [h] at hc3; exact absurd hc3.2 (by decide))])

set_option maxRecDepth 4000 in
set_option maxHeartbeats 2000000 in
theorem rvalid_ct (xN xS xB : Value) (xs : List Int) (xb : List Bool) (base : Int) (cV : Value) (ch : List Int) (w : World) (hxn : xN.oneCell' = true) (hxs : Sl encI (ph w) xS xs) (hxb : Sl encT (ph w) xB xb) (hc : Sl encI (ph w) cV ch) : Ct Try.prog 16 [.agg [xN, xS, xB].toArray, .agg [vi base, cV].toArray] w (fun r _ _ => r = vi (Gp.vl xs xb base ch)) := by
 refine fn_enter Try.func16 rfl Try.ntmps16 (Nat.le_of_ble_eq_true rfl) fun a hF hS => ?_
 have hsl := hxs.1
 have htl := hxb.1
 have hcl := hc.1
 refine wp_seq_k ?_; intro K1 hK1
 refine regl ?_
 refine wpl_ef hF hS rfl (ef_boxA rfl) ?_
 clear hF hS; rintro _ _ _ a w ⟨b1, rfl, rfl, rfl⟩ hF hS
 refine wpl_ef hF hS rfl (ef_boxA rfl) ?_
 clear hF hS; rintro _ _ _ a w ⟨b2, rfl, rfl, rfl⟩ hF hS
 refine wpl_sq hF hS (sq rfl (q_assign rfl) <|
   sq_end) ?_
 clear hF hS; intro a w hF hS
 refine wpList_nil ?_
 refine hK1 _ _ ?_
 clear hK1
 refine wp_seq_k ?_; intro K2 hK2
 refine wp_seq_k ?_; intro K3 hK3
 refine reg hF hS (sq rfl (q_fieldAddr ty33 rfl rfl (s' := 0) kQ) <|
   sq rfl (q_ld_blk1 ty29 1 rfl rfl rfl rfl) <|
   sq rfl (q_len_sl ty29 hxb rfl) <|
   sq rfl (q_fieldAddr ty33 rfl rfl (s' := 0) kQ) <|
   sq rfl (q_ld_blk1 ty22 1 rfl rfl rfl rfl) <|
   sq rfl (q_len_sl ty22 hxs rfl) <|
   sq rfl (q_nei rfl rfl) <|
   sq_end) ?_
 clear hF hS; intro a w hF hS
 refine hK3 _ _ ?_
 clear hK3
 refine wp_ifn hF rfl (fun hc1 => ?_) (fun hc1 => ?_)
 ·refine wp_seq_k ?_; intro K4 hK4
  refine reg hF hS (sq rfl (q_assign rfl) <|
    sq_end) ?_
  clear hF hS; intro a w hF hS
  refine hK4 _ _ ?_
  clear hK4
  refine wp_ret ?_
  exact fn_ret (rs := [.tmp 4]) rfl hF hS (vs := [_]) ⟨rfl, trivial⟩ zQ zQ (by unfold Gp.vl; rw [if_pos hc1])
 ·refine wp_skip ?_
  refine hK2 _ _ ?_
  clear hK2
  refine wp_seq_k ?_; intro K5 hK5
  refine wp_seq_k ?_; intro K6 hK6
  refine reg hF hS (sq rfl (q_fieldAddr ty37 rfl rfl (s' := 0) kQ) <|
    sq rfl (q_ld_blk1 ty22 0 rfl rfl rfl rfl) <|
    sq rfl (q_len_sl ty22 hc rfl) <|
    sq rfl (q_gti rfl rfl) <|
    sq_end) ?_
  clear hF hS; intro a w hF hS
  refine hK6 _ _ ?_
  clear hK6
  refine wp_ifd hF rfl (fun hc2 => ?_) (fun hc2 => ?_)
  ·refine wp_seq_k ?_; intro K7 hK7
   refine reg hF hS (sq rfl (q_assign rfl) <|
     sq_end) ?_
   clear hF hS; intro a w hF hS
   refine hK7 _ _ ?_
   clear hK7
   refine wp_ret ?_
   exact fn_ret (rs := [.tmp 4]) rfl hF hS (vs := [_]) ⟨rfl, trivial⟩ zQ zQ (by unfold Gp.vl; rw [if_neg (by simpa using hc1), if_pos hc2])
  ·refine wp_skip ?_
   refine hK5 _ _ ?_
   clear hK5
   refine wp_seq_k ?_; intro K8 hK8
   refine wp_seq_k ?_; intro K9 hK9
   refine reg hF hS (sq rfl (q_ld_blkW ty33 1 rfl rfl bQ rfl) <|
     sq rfl (q_fieldAddr ty37 rfl rfl (s' := 0) kQ) <|
     sq rfl (q_ld_blk1 ty3 0 rfl rfl rfl rfl) <|
     sq rfl (q_call fn41 rfl (fun w hS => rix_ct _ _ _ _ _ _ w hxn (Sl.mono (hS.le zin0) hxs) (Sl.mono (hS.le zin0) hxb)) (fun _ _ _ h => h)) <|
     sq rfl (q_lti rfl rfl) <|
     sq_end) ?_
   clear hF hS; intro a w hF hS
   refine hK9 _ _ ?_
   clear hK9
   refine wp_ifd hF rfl (fun hc3 => ?_) (fun hc3 => ?_)
   ·refine wp_seq_k ?_; intro K10 hK10
    refine reg hF hS (sq rfl (q_assign rfl) <|
      sq_end) ?_
    clear hF hS; intro a w hF hS
    refine hK10 _ _ ?_
    clear hK10
    refine wp_ret ?_
    exact fn_ret (rs := [.tmp 4]) rfl hF hS (vs := [_]) ⟨rfl, trivial⟩ zQ zQ (by unfold Gp.vl; rw [if_neg (by simpa using hc1), if_neg (by omega), if_pos (.inl hc3)])
   ·refine wp_skip ?_
    refine hK8 _ _ ?_
    clear hK8
    refine wp_seq_k ?_; intro K11 hK11
    refine wp_seq_k ?_; intro K12 hK12
    refine reg hF hS (sq rfl (q_assign rfl) <|
      sq_end) ?_
    clear hF hS; intro a w hF hS
    refine hK12 _ _ ?_
    clear hK12
    refine wp_block ?_
    obtain ⟨hs0, hhs0, hS⟩ : ∃ h, h = _ ∧ St _ _ h _ := ⟨_, rfl, hS⟩
    refine wp_loopx (γ := Int) (0) (fun (i : Int) => [(5, vi i)]) [(2, _), (3, _)] (fun (i : Int) => hs0) (fun (i : Int) => 0 ≤ i ∧ i ≤ ch.length ∧ (ch.take i.toNat).any (fun s => decide (Gp.ix xs s < 0)) = false) (fun (i : Int) => (ch.length - i).toNat) (hF.sub ⟨rfl, rfl, rfl, trivial⟩) (by subst hhs0; exact hS) (by exact ⟨Int.le_refl _, by omega, by simp⟩) ?_
    clear hF hS; rintro i a w hfact hF hS
    subst hhs0; (try dsimp only at hfact); (try dsimp only at hF); (try dsimp only at hS)
    obtain ⟨hi0, hi1, hno⟩ := hfact
    replace hS : St _ [] [_, _] _ := hS
    refine wp_seq_k ?_; intro K13 hK13
    refine wp_seq_k ?_; intro K14 hK14
    refine reg hF hS (sq rfl (q_move rfl) <|
      sq rfl (q_fieldAddr ty37 rfl rfl (s' := 0) kQ) <|
      sq rfl (q_ld_blk1 ty22 0 rfl rfl rfl rfl) <|
      sq rfl (q_len_sl ty22 hc rfl) <|
      sq rfl (q_lti rfl rfl) <|
      sq_end) ?_
    clear hF hS; intro a w hF hS
    refine hK14 _ _ ?_
    clear hK14
    refine wp_ifd hF rfl (fun hc4 => ?_) (fun hc4 => ?_)
    ·refine wp_skip ?_
     refine hK13 _ _ ?_
     clear hK13
     refine wp_seq_k ?_; intro K15 hK15
     refine wp_block ?_
     refine wp_seq_k ?_; intro K16 hK16
     refine regd mixed kQ hF hS (sq rfl (q_ld_blkW ty33 1 rfl rfl bQ rfl) <|
       sq rfl (q_fieldAddr ty37 rfl rfl (s' := 0) kQ) <|
       sq rfl (q_ld_blk1 ty22 0 rfl rfl rfl rfl) <|
       sq rfl (q_move rfl) <|
       sq rfl (q_idx_sl ty22 ty3 hc rfl rfl (by omega)) <|
       sq rfl (q_ld_I ty3 hc zin0 rfl rfl (by omega)) <|
       sq rfl (q_call fn41 rfl (fun w hS => rix_ct _ _ _ _ _ _ w hxn (Sl.mono (hS.le zin0) hxs) (Sl.mono (hS.le zin0) hxb)) (fun _ _ _ h => h)) <|
       sq rfl (q_lti rfl rfl) <|
       sq_end) ?_
     clear hF hS; intro a w hF hS
     refine hK16 _ _ ?_
     clear hK16
     refine wp_ifd hF rfl (fun hc5 => ?_) (fun hc5 => ?_)
     ·refine wp_seq_k ?_; intro K17 hK17
      refine reg hF hS (sq rfl (q_assign rfl) <|
        sq_end) ?_
      clear hF hS; intro a w hF hS
      refine hK17 _ _ ?_
      clear hK17
      refine wp_ret ?_
      exact fn_ret (rs := [.tmp 4]) rfl hF hS (vs := [_]) ⟨rfl, trivial⟩ zQ zQ (by unfold Gp.vl; rw [if_neg (by simpa using hc1), if_neg (by omega), if_pos (.inr (List.any_eq_true.2 ⟨_, getD_mem (k := i.toNat) (by omega), decide_eq_true hc5⟩))])
     ·refine wp_skip ?_
      refine hK15 _ _ ?_
      clear hK15
      refine reg hF hS (sq rfl (q_move rfl) <|
        sq rfl (q_addi rfl rfl (by omega)) <|
        sq rfl (q_assign rfl) <|
        sq_end) ?_
      clear hF hS; intro a w hF hS
      refine ⟨(i + 1), ?_, ?_, hF.sub ⟨rfl, rfl, rfl, trivial⟩, ?_⟩
      ·(try dsimp only); omega
      ·exact ⟨by omega, by omega, by rw [show (i + 1).toNat = i.toNat + 1 by omega, Gu.any_take (by omega), hno, decide_eq_false (by omega)]; rfl⟩
      ·exact hS
    ·refine wp_exit ?_
     refine hK11 _ _ ?_
     clear hK11
     refine wp_seq_k ?_; intro K18 hK18
     refine reg hF hS (sq rfl (q_assign rfl) <|
       sq_end) ?_
     clear hF hS; intro a w hF hS
     refine hK18 _ _ ?_
     clear hK18
     refine wp_ret ?_
     exact fn_ret (rs := [.tmp 4]) rfl hF hS (vs := [_]) ⟨rfl, trivial⟩ zQ zQ (by unfold Gp.vl; rw [if_neg (by simpa using hc1), if_neg (by omega), if_neg (by intro h; rcases h with h | h; exact hc3 h; rw [List.take_of_length_le (by omega)] at hno; rw [hno] at h; cases h)])

set_option maxRecDepth 4000 in
set_option maxHeartbeats 2000000 in
theorem good_ct (xN xS xB : Value) (xs : List Int) (xb : List Bool) (xD : Value) (bs : List Bool) (s : Int) (hq1 : xb.length = xs.length) (hq2 : bs.length = xs.length) (w : World) (hxn : xN.oneCell' = true) (hxs : Sl encI (ph w) xS xs) (hxb : Sl encT (ph w) xB xb) (hbs : Sl encT (ph w) xD bs) : Ct Try.prog 33 [.agg [xN, xS, xB, xD].toArray, vi s] w (fun r _ _ => r = .bool (Gp.gd xs xb bs s)) := by
 refine fn_enter Try.func33 rfl Try.ntmps33 (Nat.le_of_ble_eq_true rfl) fun a hF hS => ?_
 have hsl := hxs.1
 have hir := Gu.ixF_range (fun y => decide (s = y)) xs
 refine wp_seq_k ?_; intro K1 hK1
 refine regl ?_
 refine wpl_ef hF hS rfl (ef_boxA rfl) ?_
 clear hF hS; rintro _ _ _ a w ⟨b1, rfl, rfl, rfl⟩ hF hS
 refine wpl_sq hF hS (sq rfl (q_assign rfl) <|
   sq_end) ?_
 clear hF hS; intro a w hF hS
 refine wpList_nil ?_
 refine hK1 _ _ ?_
 clear hK1
 refine wp_seq_k ?_; intro K2 hK2
 refine reg hF hS (sq rfl (q_fieldAddr ty68 rfl rfl (s' := 2) kQ) <|
   sq rfl (q_ld_blkA (c := [_, _, _]) ty31 0 rfl rfl rfl (Nat.le_of_ble_eq_true rfl) rfl) <|
   sq rfl (q_move rfl) <|
   sq rfl (q_call fn30 rfl (fun w hS => lix_ct _ _ _ _ _ _ w hxn (Sl.mono (hS.le zin0) hxs) (Sl.mono (hS.le zin0) hxb)) (fun _ _ _ h => h)) <|
   sq rfl (q_assign rfl) <|
   sq_end) ?_
 clear hF hS; intro a w hF hS
 refine hK2 _ _ ?_
 clear hK2
 refine wp_seq_k ?_; intro K3 hK3
 refine regl ?_
 refine wpl_sq hF hS (sq rfl (q_move rfl) <|
   sq rfl (q_gei rfl rfl) <|
   sq rfl (q_move rfl) <|
   sq_end) ?_
 clear hF hS; intro a w hF hS
 refine wpl_and 2 12 6 hF hS rfl rfl rfl rfl rfl (fun hg => have hg := (by first | exact of_decide_eq_true hg | exact hg); sq_go 12 rfl rfl rfl (q_fieldAddr ty68 rfl rfl (s' := 2) kQ) <|
   sq_go 12 rfl rfl rfl (q_fieldAddr ty31 rfl rfl (s' := 0) kQ) <|
   sq_go 12 rfl rfl rfl (q_ld_blk1 ty29 0 rfl rfl rfl rfl) <|
   sq_go 12 rfl rfl rfl (q_move rfl) <|
   sq_go 12 rfl rfl rfl (q_idx_sl ty29 ty4 hxb rfl rfl (by omega)) <|
   sq_go 12 rfl rfl rfl (q_ld_T ty4 hxb zin0 rfl rfl (by omega)) <|
   sq_end) rfl rfl ?_
 clear hF hS; intro a w hF hS
 refine wpl_sq hF hS (sq rfl (q_move rfl) <|
   sq_end) ?_
 clear hF hS; intro a w hF hS
 refine wpl_and 10 20 6 hF hS rfl rfl rfl rfl rfl (fun hg => have hg := hg; sq_go 20 rfl rfl rfl (q_fieldAddr ty68 rfl rfl (s' := 0) kQ) <|
   sq_go 20 rfl rfl rfl (q_ld_blk1 ty29 0 rfl rfl rfl rfl) <|
   sq_go 20 rfl rfl rfl (q_move rfl) <|
   sq_go 20 rfl rfl rfl (q_idx_sl ty29 ty4 hbs rfl rfl (by simp at hg; omega)) <|
   sq_go 20 rfl rfl rfl (q_ld_T ty4 hbs zin0 rfl rfl (by simp at hg; omega)) <|
   sq_go 20 rfl rfl rfl (q_not rfl) <|
   sq_end) rfl rfl ?_
 clear hF hS; intro a w hF hS
 refine wpl_sq hF hS (sq rfl (q_assign rfl) <|
   sq_end) ?_
 clear hF hS; intro a w hF hS
 refine wpList_nil ?_
 refine hK3 _ _ ?_
 clear hK3
 refine wp_ret ?_
 exact fn_ret (rs := [.tmp 4]) rfl hF hS (vs := [_]) ⟨rfl, trivial⟩ zQ zQ (rfl)

theorem good_max {xs : List Int} {xb bs : List Bool} {s : Int} : ((decide (0 ≤ Gp.ix xs s) && xb.getD (max (Gp.ix xs s) 0).toNat false) && !bs.getD (max (Gp.ix xs s) 0).toNat false) = Gp.gd xs xb bs s := by
 unfold Gp.gd
 by_cases h : 0 ≤ Gp.ix xs s
 ·rw [Int.max_eq_left h]
 ·rw [decide_eq_false h]; rfl

set_option maxRecDepth 4000 in
set_option maxHeartbeats 2000000 in
theorem rgood_ct (xN xS xB : Value) (xs : List Int) (xb : List Bool) (v : Value) (bs : List Bool) (s : Int) (hq1 : xb.length = xs.length) (hq2 : bs.length = xs.length) (w : World) (hxn : xN.oneCell' = true) (hxs : Sl encI (ph w) xS xs) (hxb : Sl encT (ph w) xB xb) (hbs : Sl encT (ph w) v bs) : Ct Try.prog 35 [.agg [xN, xS, xB].toArray, v, vi s] w (fun r _ _ => r = .bool (Gp.gd xs xb bs s)) := by
 refine fn_enter Try.func35 rfl Try.ntmps35 (Nat.le_of_ble_eq_true rfl) fun a hF hS => ?_
 have hsl := hxs.1
 have hir := Gu.ixF_range (fun y => decide (s = y)) xs
 refine wp_seq_k ?_; intro K1 hK1
 refine regl ?_
 refine wpl_ef hF hS rfl (ef_boxA rfl) ?_
 clear hF hS; rintro _ _ _ a w ⟨b1, rfl, rfl, rfl⟩ hF hS
 refine wpl_sq hF hS (sq rfl (q_assign rfl) <|
   sq_end) ?_
 clear hF hS; intro a w hF hS
 refine wpList_nil ?_
 refine hK1 _ _ ?_
 clear hK1
 refine wp_seq_k ?_; intro K2 hK2
 refine reg hF hS (sq rfl (q_ld_blkW ty33 0 rfl rfl bQ rfl) <|
   sq rfl (q_move rfl) <|
   sq rfl (q_call fn41 rfl (fun w hS => rix_ct _ _ _ _ _ _ w hxn (Sl.mono (hS.le zin0) hxs) (Sl.mono (hS.le zin0) hxb)) (fun _ _ _ h => h)) <|
   sq rfl (q_assign rfl) <|
   sq_end) ?_
 clear hF hS; intro a w hF hS
 refine hK2 _ _ ?_
 clear hK2
 refine wp_seq_k ?_; intro K3 hK3
 refine regl ?_
 refine wpl_sq hF hS (sq rfl (q_move rfl) <|
   sq rfl (q_gei rfl rfl) <|
   sq rfl (q_move rfl) <|
   sq_end) ?_
 clear hF hS; intro a w hF hS
 refine wpl_and 2 13 6 hF hS rfl rfl rfl rfl rfl (fun hg => have hg := (by first | exact of_decide_eq_true hg | exact hg); sq_go 13 rfl rfl rfl (q_fieldAddr ty33 rfl rfl (s' := 0) kQ) <|
   sq_go 13 rfl rfl rfl (q_ld_blk1 ty29 0 rfl rfl rfl rfl) <|
   sq_go 13 rfl rfl rfl (q_move rfl) <|
   sq_go 13 rfl rfl rfl (q_max rfl rfl) <|
   sq_go 13 rfl rfl rfl (q_idx_sl ty29 ty4 hxb rfl rfl (by omega)) <|
   sq_go 13 rfl rfl rfl (q_ld_T ty4 hxb zin0 rfl rfl (by omega)) <|
   sq_end) rfl rfl ?_
 clear hF hS; intro a w hF hS
 refine wpl_sq hF hS (sq rfl (q_move rfl) <|
   sq_end) ?_
 clear hF hS; intro a w hF hS
 refine wpl_and 10 21 6 hF hS rfl rfl rfl rfl rfl (fun hg => have hg := hg; sq_go 21 rfl rfl rfl (q_move rfl) <|
   sq_go 21 rfl rfl rfl (q_move rfl) <|
   sq_go 21 rfl rfl rfl (q_max rfl rfl) <|
   sq_go 21 rfl rfl rfl (q_idx_sl ty29 ty4 hbs rfl rfl (by simp at hg; omega)) <|
   sq_go 21 rfl rfl rfl (q_ld_T ty4 hbs zin0 rfl rfl (by simp at hg; omega)) <|
   sq_go 21 rfl rfl rfl (q_not rfl) <|
   sq_end) rfl rfl ?_
 clear hF hS; intro a w hF hS
 refine wpl_sq hF hS (sq rfl (q_assign rfl) <|
   sq_end) ?_
 clear hF hS; intro a w hF hS
 refine wpList_nil ?_
 refine hK3 _ _ ?_
 clear hK3
 refine wp_ret ?_
 exact fn_ret (rs := [.tmp 6]) rfl hF hS (vs := [_]) ⟨rfl, trivial⟩ zQ zQ (by rw [good_max])
end Go.Proofs.Ytplceoanaoeejaa
