/- A text of a proof over this seat: walks over the program's functions and the plain laws that they need. -/
import Derived.Test.YtcbjemjohacbpaaGg31
import Derived.Test.YtcbjemjohacbpaaGuA
import Derived.Test.YtcbjemjohacbpaaFwC
import Derived.Test.YtcbjemjohacbpaaFwB
set_option linter.all false
namespace Go.Proofs.Ytcbjemjohacbpaa
open Go.Fw
theorem ty67 : Tf Try.prog 67 (.struct #[⟨ "Sets", 22, 0, false, "", "", 0⟩, ⟨ "First", 22, 1, false, "", "", 24⟩, ⟨ "Bad", 23, 2, false, "", "", 48⟩]) 3 72 (.agg ([Value.slice none 0 0, Value.slice none 0 0, Value.slice none 0 0]).toArray) := ⟨Try.underlying67, by kernel_rfl⟩

set_option maxRecDepth 4000 in
set_option maxHeartbeats 2000000 in
theorem marks_ct (xN xS xB : Value) (xs : List Int) (xb : List Bool) (v : Value) (ks : List (List UInt8)) (b : Int) (hl : xs.length < 1048576) (hq1 : xb.length = xs.length) (hq2 : ks.length = xs.length) (w : World) (hxn : xN.oneCell' = true) (hxs : Sl encI (ph w) xS xs) (hxb : Sl encT (ph w) xB xb) (hk : Sl (encA 16) (ph w) v ks) : Ct Try.prog 36 [.agg [xN, xS, xB].toArray, v, vi b] w (SlR encT (Gu.mrk xb ks b xs.length)) := by
 refine fn_enter Try.func36 rfl Try.ntmps36 (Nat.le_of_ble_eq_true rfl) fun a hF hS => ?_
 have hsl := hxs.1
 have htl := hxb.1
 have hkl := hk.1
 refine wp_seq_k ?_; intro K1 hK1
 refine regl ?_
 refine wpl_ef hF hS rfl (ef_boxA rfl) ?_
 clear hF hS; rintro _ _ _ a w ⟨b1, rfl, rfl, rfl⟩ hF hS
 refine wpl_sq hF hS (sq rfl (q_assign rfl) <|
   sq_end) ?_
 clear hF hS; intro a w hF hS
 refine wpList_nil ?_
 refine hK1 _ _ ?_
 clear hK1
 refine wp_seq_k ?_; intro K2 hK2
 refine reg hF hS (sq rfl (q_assign rfl) <|
   sq_end) ?_
 clear hF hS; intro a w hF hS
 replace hS := hS.nilRow 4 1
 refine hK2 _ _ ?_
 clear hK2
 refine wp_seq_k ?_; intro K3 hK3
 refine wp_seq_k ?_; intro K4 hK4
 refine reg hF hS (sq rfl (q_assign rfl) <|
   sq_end) ?_
 clear hF hS; intro a w hF hS
 refine hK4 _ _ ?_
 clear hK4
 refine wp_block ?_
 obtain ⟨hs0, hhs0, hS⟩ : ∃ h, h = _ ∧ St _ _ h _ := ⟨_, rfl, hS⟩
 refine wp_loopx (γ := Value × Int) ((Value.slice none 0 0), 0) (fun (gg : Value × Int) => match gg with | (u, i) => [(7, u), (8, vi i)]) [(1, _), (2, _), (3, _)] (fun (gg : Value × Int) => match gg with | (u, i) => (hs0.set 0 (.row u 4 1 i.toNat ((Gu.mrk xb ks b i.toNat).map vt)))) (fun (gg : Value × Int) => match gg with | (u, i) => 0 ≤ i ∧ i ≤ xs.length) (fun (gg : Value × Int) => match gg with | (u, i) => (xs.length - i).toNat) (hF.sub ⟨rfl, rfl, rfl, rfl, rfl, trivial⟩) (by subst hhs0; exact hS) (by exact ⟨Int.le_refl _, by omega⟩) ?_
 clear hF hS; rintro ⟨u, i⟩ a w hfact hF hS
 subst hhs0; (try dsimp only at hfact); (try dsimp only at hF); (try dsimp only at hS)
 obtain ⟨hi0, hi1⟩ := hfact
 replace hS : St _ [] [_, _] _ := hS
 refine wp_seq_k ?_; intro K5 hK5
 refine wp_seq_k ?_; intro K6 hK6
 refine reg hF hS (sq rfl (q_move rfl) <|
   sq rfl (q_fieldAddr ty29 rfl rfl (s' := 0) kQ) <|
   sq rfl (q_ld_blk1 ty22 1 rfl rfl rfl rfl) <|
   sq rfl (q_len_sl ty22 hxs rfl) <|
   sq rfl (q_lti rfl rfl) <|
   sq_end) ?_
 clear hF hS; intro a w hF hS
 refine hK6 _ _ ?_
 clear hK6
 refine wp_ifd hF rfl (fun hc1 => ?_) (fun hc1 => ?_)
 ·refine wp_skip ?_
  refine hK5 _ _ ?_
  clear hK5
  refine wp_seq_k ?_; intro K7 hK7
  refine wp_block ?_
  refine wp_seq_k ?_; intro K8 hK8
  refine reg hF hS (sq rfl (q_move rfl) <|
    sq rfl (q_move rfl) <|
    sq rfl (q_idx_sl ty62 ty71 hk rfl rfl (by omega)) <|
    sq rfl (q_idx_AB ty71 ty5 hk rfl rfl (by omega) (by omega)) <|
    sq rfl (q_ld_AB1 ty5 hk zin0 rfl rfl (by omega) (by omega)) <|
    sq rfl (q_cv_bi ty5 ty3 rfl) <|
    sq rfl (q_assign rfl) <|
    sq_end) ?_
  clear hF hS; intro a w hF hS
  refine hK8 _ _ ?_
  clear hK8
  refine regl ?_
  refine wpl_sq hF hS (sq rfl (q_move rfl) <|
    sq rfl (q_fieldAddr ty29 rfl rfl (s' := 0) kQ) <|
    sq rfl (q_ld_blk1 ty23 1 rfl rfl rfl rfl) <|
    sq rfl (q_move rfl) <|
    sq rfl (q_idx_sl ty23 ty4 hxb rfl rfl (by omega)) <|
    sq rfl (q_ld_T ty4 hxb zin0 rfl rfl (by omega)) <|
    sq rfl (q_move rfl) <|
    sq_end) ?_
  clear hF hS; intro a w hF hS
  refine wpl_and 6 29 6 hF hS rfl rfl rfl rfl rfl (fun hg => have hg := hg; sq_go 29 rfl rfl rfl (q_move rfl) <|
    sq_go 29 rfl rfl rfl (q_move rfl) <|
    sq_go 29 rfl rfl rfl (q_cv_iq ty3 ty95 rfl) <|
    sq_go 29 rfl rfl rfl (q_shri rfl rfl (by omega)) <|
    sq_go 29 rfl rfl rfl (q_remi' rfl rfl (by decide)) <|
    sq_go 29 rfl rfl rfl (q_nei rfl rfl) <|
    sq_end) rfl rfl ?_
  clear hF hS; intro a w hF hS
  refine wpl_ef hF hS rfl (ef_bsliceA ty23 ty4 rfl rfl oQ (by decide) rfl rfl) ?_
  clear hF hS; rintro v3 _ _ a w ⟨rfl, rfl⟩ hF hS
  replace hS : St _ [] [_, _, _] _ := hS
  refine wpl_ef hF hS rfl (ef_append ty23 ty4 1 rfl rfl rfl (src_row ty23 (k := 0) rfl oQ) bQ rfl (by decide)) ?_
  clear hF hS; rintro v5 _ _ a w ⟨rfl, rfl⟩ hF hS
  replace hS : St _ [] [_, _, _] _ := hS
  refine wpl_sq hF hS (sq rfl (q_assign rfl) <|
    sq_end) ?_
  clear hF hS; intro a w hF hS
  refine wpList_nil ?_
  refine hK7 _ _ ?_
  clear hK7
  refine reg hF hS (sq rfl (q_move rfl) <|
    sq rfl (q_addi rfl rfl (by omega)) <|
    sq rfl (q_assign rfl) <|
    sq_end) ?_
  clear hF hS; intro a w hF hS
  replace hS := hS.keep zQ (sQ.n)
  refine ⟨(v5, i + 1), ?_, ?_, hF.sub ⟨rfl, rfl, rfl, rfl, rfl, trivial⟩, ?_⟩
  ·(try dsimp only); omega
  ·(try dsimp only); omega
  ·exact hS.rowEq (by omega) (by rw [show (i + 1).toNat = i.toNat + 1 by omega, Gu.mrk, List.map_append]; rfl)
 ·obtain rfl : i = xs.length := by omega
  rw [Int.toNat_natCast] at hS
  replace hS := hS.rowEq (Gu.mrk_len xb ks b xs.length).symm rfl
  have hml := Gu.mrk_len xb ks b xs.length
  refine wp_exit ?_
  refine hK3 _ _ ?_
  clear hK3
  refine wp_seq_k ?_; intro K9 hK9
  refine reg hF hS (sq rfl (q_move rfl) <|
    sq rfl (q_assign rfl) <|
    sq_end) ?_
  clear hF hS; intro a w hF hS
  refine hK9 _ _ ?_
  clear hK9
  refine wp_ret ?_
  obtain ⟨zr, hzr, hS⟩ := St.freezeV (f := vt) (p := fun _ => True) hS rfl (by first | omega | (simp; omega)) (fun _ _ => trivial)
  exact fn_ret (rs := [.tmp 6]) rfl hF hS (vs := [_]) ⟨rfl, trivial⟩ (zs' := [_]) (hs' := []) (List.singleton_sublist.2 (by simp)) zQ (sr_of ⟨_, hzr, rfl, rfl⟩ (rfl))

set_option maxRecDepth 4000 in
set_option maxHeartbeats 2000000 in
theorem known_ct (v : Value) (F : List Int) (v2 : Value) (B : List Bool) (hl : F.length < 1048576) (hq : B.length = F.length) (w : World) (hf : Sl encI (ph w) v F) (hb : Sl encT (ph w) v2 B) : Ct Try.prog 42 [v, v2] w (SlR encI (Gu.kn F B)) := by
 refine fn_enter Try.func42 rfl Try.ntmps42 (Nat.le_of_ble_eq_true rfl) fun a hF hS => ?_
 have hfl := hf.1
 have hbl := hb.1
 refine wp_seq_k ?_; intro K1 hK1
 refine reg hF hS (sq rfl (q_assign rfl) <|
   sq_end) ?_
 clear hF hS; intro a w hF hS
 refine hK1 _ _ ?_
 clear hK1
 refine wp_seq_k ?_; intro K2 hK2
 refine regl ?_
 refine wpl_sq hF hS (sq rfl (q_move rfl) <|
   sq rfl (q_len_sl ty22 hf rfl) <|
   sq_end) ?_
 clear hF hS; intro a w hF hS
 refine wpl_ef hF hS rfl (ef_mks ty22 ty3 rfl rfl bQ bQ rfl) ?_
 clear hF hS; rintro v1 _ _ a w ⟨rfl, rfl⟩ hF hS
 replace hS : St _ [] [_] _ := hS
 refine wpl_sq hF hS (sq rfl (q_assign rfl) <|
   sq_end) ?_
 clear hF hS; intro a w hF hS
 refine wpList_nil ?_
 rw [show List.replicate F.length (Value.int .i64 0) = (Gu.pm (Gu.knAt F B) F.length 0).map vi from by rw [← Gu.pm_0, List.map_replicate]] at hS
 refine hK2 _ _ ?_
 clear hK2
 refine wp_seq_k ?_; intro K3 hK3
 refine wp_seq_k ?_; intro K4 hK4
 refine reg hF hS (sq rfl (q_assign rfl) <|
   sq_end) ?_
 clear hF hS; intro a w hF hS
 refine hK4 _ _ ?_
 clear hK4
 refine wp_block ?_
 obtain ⟨hs0, hhs0, hS⟩ : ∃ h, h = _ ∧ St _ _ h _ := ⟨_, rfl, hS⟩
 refine wp_loopx (γ := Int) (0) (fun (i : Int) => [(6, vi i)]) [(0, _), (1, _), (5, _)] (fun (i : Int) => (hs0.set 0 (.row v1 3 1 F.length ((Gu.pm (Gu.knAt F B) F.length i.toNat).map vi)))) (fun (i : Int) => 0 ≤ i ∧ i ≤ F.length) (fun (i : Int) => (F.length - i).toNat) (hF.sub ⟨rfl, rfl, rfl, rfl, trivial⟩) (by subst hhs0; exact hS) (by exact ⟨Int.le_refl _, by omega⟩) ?_
 clear hF hS; rintro i a w hfact hF hS
 subst hhs0; (try dsimp only at hfact); (try dsimp only at hF); (try dsimp only at hS)
 obtain ⟨hi0, hi1⟩ := hfact
 replace hS : St _ [] [_] _ := hS
 refine wp_seq_k ?_; intro K5 hK5
 refine wp_seq_k ?_; intro K6 hK6
 refine reg hF hS (sq rfl (q_move rfl) <|
   sq rfl (q_move rfl) <|
   sq rfl (q_len_sl ty22 hf rfl) <|
   sq rfl (q_lti rfl rfl) <|
   sq_end) ?_
 clear hF hS; intro a w hF hS
 refine hK6 _ _ ?_
 clear hK6
 refine wp_ifd hF rfl (fun hc1 => ?_) (fun hc1 => ?_)
 ·refine wp_skip ?_
  refine hK5 _ _ ?_
  clear hK5
  refine wp_seq_k ?_; intro K7 hK7
  refine wp_block ?_
  refine wp_seq_k ?_; intro K8 hK8
  refine wp_seq_k ?_; intro K9 hK9
  refine regl ?_
  refine wpl_sq hF hS (sq rfl (q_move rfl) <|
    sq rfl (q_move rfl) <|
    sq rfl (q_idx_sl ty22 ty3 hf rfl rfl (by omega)) <|
    sq rfl (q_ld_I ty3 hf zin0 rfl rfl (by omega)) <|
    sq rfl (q_move rfl) <|
    sq rfl (q_eqi rfl rfl) <|
    sq rfl (q_move rfl) <|
    sq_end) ?_
  clear hF hS; intro a w hF hS
  refine wpl_and 6 22 4 hF hS rfl rfl rfl rfl rfl (fun hg => have hg := (by first | exact of_decide_eq_true hg | exact hg); sq_go 22 rfl rfl rfl (q_move rfl) <|
    sq_go 22 rfl rfl rfl (q_move rfl) <|
    sq_go 22 rfl rfl rfl (q_idx_sl ty23 ty4 hb rfl rfl (by omega)) <|
    sq_go 22 rfl rfl rfl (q_ld_T ty4 hb zin0 rfl rfl (by omega)) <|
    sq_end) rfl rfl ?_
  clear hF hS; intro a w hF hS
  refine wpList_nil ?_
  refine hK9 _ _ ?_
  clear hK9
  refine wp_if hF rfl (fun hc2 => ?_) (fun hc2 => ?_)
  ·(try simp only [Bool.or_eq_true, Bool.and_eq_true, Bool.or_eq_false_iff, Bool.and_eq_false_iff, decide_eq_true_eq, decide_eq_false_iff_not, Bool.not_eq_true', Bool.not_eq_false'] at hc2)
   refine regl ?_
   refine wpl_sq hF hS (sq rfl (q_move rfl) <|
     sq rfl (q_move rfl) <|
     sq rfl (q_idx_row ty22 ty3 0 rfl rfl rfl (by omega)) <|
     sq_end) ?_
   clear hF hS; intro a w hF hS
   refine wpl_ef hF hS rfl (ef_st_row ty3 0 rfl rfl rfl (by omega) rfl) ?_
   clear hF hS; rintro _ _ _ a w ⟨rfl, rfl, rfl⟩ hF hS
   replace hS : St _ [] [_] _ := hS
   refine wpList_nil ?_
   refine hK8 _ _ ?_
   clear hK8
   refine wp_seq_k ?_; intro K10 hK10
   refine regl ?_
   refine wpl_sq hF hS (sq rfl (q_move rfl) <|
     sq rfl (q_move rfl) <|
     sq rfl (q_idx_sl ty22 ty3 hf rfl rfl (by omega)) <|
     sq rfl (q_ld_I ty3 hf zin0 rfl rfl (by omega)) <|
     sq rfl (q_move rfl) <|
     sq rfl (q_eqi rfl rfl) <|
     sq rfl (q_move rfl) <|
     sq_end) ?_
   clear hF hS; intro a w hF hS
   refine wpl_and 6 37 5 hF hS rfl rfl rfl rfl rfl (fun hg => have hg := (by first | exact of_decide_eq_true hg | exact hg); sq_go 37 rfl rfl rfl (q_move rfl) <|
     sq_go 37 rfl rfl rfl (q_move rfl) <|
     sq_go 37 rfl rfl rfl (q_idx_sl ty23 ty4 hb rfl rfl (by omega)) <|
     sq_go 37 rfl rfl rfl (q_ld_T ty4 hb zin0 rfl rfl (by omega)) <|
     sq_go 37 rfl rfl rfl (q_not rfl) <|
     sq_end) rfl rfl ?_
   clear hF hS; intro a w hF hS
   refine wpList_nil ?_
   refine hK10 _ _ ?_
   clear hK10
   refine wp_if hF rfl (fun hc3 => ?_) (fun hc3 => ?_)
   ·(try simp only [Bool.or_eq_true, Bool.and_eq_true, Bool.or_eq_false_iff, Bool.and_eq_false_iff, decide_eq_true_eq, decide_eq_false_iff_not, Bool.not_eq_true', Bool.not_eq_false'] at hc3)
    exact absurd hc3.2 (by rw [hc2.2]; decide)
   ·(try simp only [Bool.or_eq_true, Bool.and_eq_true, Bool.or_eq_false_iff, Bool.and_eq_false_iff, decide_eq_true_eq, decide_eq_false_iff_not, Bool.not_eq_true', Bool.not_eq_false'] at hc3)
    refine wp_skip ?_
    refine hK7 _ _ ?_
    clear hK7
    refine reg hF hS (sq rfl (q_move rfl) <|
      sq rfl (q_addi rfl rfl (by omega)) <|
      sq rfl (q_assign rfl) <|
      sq_end) ?_
    clear hF hS; intro a w hF hS
    refine ⟨(i + 1), ?_, ?_, hF.sub ⟨rfl, rfl, rfl, rfl, trivial⟩, ?_⟩
    ·(try dsimp only); omega
    ·(try dsimp only); omega
    ·exact hS.rowEq rfl (by rw [show (i + 1).toNat = i.toNat + 1 by omega, ← Gu.pm_set, Gu.knAt_2 hi0 hc2, List.map_set])
  ·(try simp only [Bool.or_eq_true, Bool.and_eq_true, Bool.or_eq_false_iff, Bool.and_eq_false_iff, decide_eq_true_eq, decide_eq_false_iff_not, Bool.not_eq_true', Bool.not_eq_false'] at hc2)
   refine wp_skip ?_
   refine hK8 _ _ ?_
   clear hK8
   refine wp_seq_k ?_; intro K11 hK11
   refine regl ?_
   refine wpl_sq hF hS (sq rfl (q_move rfl) <|
     sq rfl (q_move rfl) <|
     sq rfl (q_idx_sl ty22 ty3 hf rfl rfl (by omega)) <|
     sq rfl (q_ld_I ty3 hf zin0 rfl rfl (by omega)) <|
     sq rfl (q_move rfl) <|
     sq rfl (q_eqi rfl rfl) <|
     sq rfl (q_move rfl) <|
     sq_end) ?_
   clear hF hS; intro a w hF hS
   refine wpl_and 6 37 5 hF hS rfl rfl rfl rfl rfl (fun hg => have hg := (by first | exact of_decide_eq_true hg | exact hg); sq_go 37 rfl rfl rfl (q_move rfl) <|
     sq_go 37 rfl rfl rfl (q_move rfl) <|
     sq_go 37 rfl rfl rfl (q_idx_sl ty23 ty4 hb rfl rfl (by omega)) <|
     sq_go 37 rfl rfl rfl (q_ld_T ty4 hb zin0 rfl rfl (by omega)) <|
     sq_go 37 rfl rfl rfl (q_not rfl) <|
     sq_end) rfl rfl ?_
   clear hF hS; intro a w hF hS
   refine wpList_nil ?_
   refine hK11 _ _ ?_
   clear hK11
   refine wp_if hF rfl (fun hc4 => ?_) (fun hc4 => ?_)
   ·(try simp only [Bool.or_eq_true, Bool.and_eq_true, Bool.or_eq_false_iff, Bool.and_eq_false_iff, decide_eq_true_eq, decide_eq_false_iff_not, Bool.not_eq_true', Bool.not_eq_false'] at hc4)
    refine regl ?_
    refine wpl_sq hF hS (sq rfl (q_move rfl) <|
      sq rfl (q_move rfl) <|
      sq rfl (q_idx_row ty22 ty3 0 rfl rfl rfl (by omega)) <|
      sq_end) ?_
    clear hF hS; intro a w hF hS
    refine wpl_ef hF hS rfl (ef_st_row ty3 0 rfl rfl rfl (by omega) rfl) ?_
    clear hF hS; rintro _ _ _ a w ⟨rfl, rfl, rfl⟩ hF hS
    replace hS : St _ [] [_] _ := hS
    refine wpList_nil ?_
    refine hK7 _ _ ?_
    clear hK7
    refine reg hF hS (sq rfl (q_move rfl) <|
      sq rfl (q_addi rfl rfl (by omega)) <|
      sq rfl (q_assign rfl) <|
      sq_end) ?_
    clear hF hS; intro a w hF hS
    refine ⟨(i + 1), ?_, ?_, hF.sub ⟨rfl, rfl, rfl, rfl, trivial⟩, ?_⟩
    ·(try dsimp only); omega
    ·(try dsimp only); omega
    ·exact hS.rowEq rfl (by rw [show (i + 1).toNat = i.toNat + 1 by omega, ← Gu.pm_set, Gu.knAt_1 hi0 hc4, List.map_set])
   ·(try simp only [Bool.or_eq_true, Bool.and_eq_true, Bool.or_eq_false_iff, Bool.and_eq_false_iff, decide_eq_true_eq, decide_eq_false_iff_not, Bool.not_eq_true', Bool.not_eq_false'] at hc4)
    refine wp_skip ?_
    refine hK7 _ _ ?_
    clear hK7
    refine reg hF hS (sq rfl (q_move rfl) <|
      sq rfl (q_addi rfl rfl (by omega)) <|
      sq rfl (q_assign rfl) <|
      sq_end) ?_
    clear hF hS; intro a w hF hS
    refine ⟨(i + 1), ?_, ?_, hF.sub ⟨rfl, rfl, rfl, rfl, trivial⟩, ?_⟩
    ·(try dsimp only); omega
    ·(try dsimp only); omega
    ·exact hS.rowEq rfl (by rw [show (i + 1).toNat = i.toNat + 1 by omega, ← Gu.pm_stay (Gu.knAt_0 hi0 hc2 hc4)])
 ·obtain rfl : i = F.length := by omega
  rw [Int.toNat_natCast] at hS
  replace hS := hS.rowEq (Gu.pm_len (Gu.knAt F B) F.length F.length).symm rfl
  have hml := Gu.pm_len (Gu.knAt F B) F.length F.length
  refine wp_exit ?_
  refine hK3 _ _ ?_
  clear hK3
  refine wp_seq_k ?_; intro K12 hK12
  refine reg hF hS (sq rfl (q_move rfl) <|
    sq rfl (q_assign rfl) <|
    sq_end) ?_
  clear hF hS; intro a w hF hS
  refine hK12 _ _ ?_
  clear hK12
  refine wp_ret ?_
  obtain ⟨zr, hzr, hS⟩ := St.freezeV (f := vi) (p := fun x => -9223372036854775808 ≤ x ∧ x ≤ 9223372036854775807) hS rfl (by first | omega | (simp; omega)) (fun x hx => by have := Gu.kn_rng x hx; omega)
  exact fn_ret (rs := [.tmp 4]) rfl hF hS (vs := [_]) ⟨rfl, trivial⟩ (zs' := [_]) (hs' := []) (List.singleton_sublist.2 (by simp)) zQ (sr_of ⟨_, hzr, rfl, rfl⟩ (rfl))

set_option maxRecDepth 4000 in
set_option maxHeartbeats 2000000 in
theorem equali_ct (v1 v2 : Value) (xs ys : List Int) (w : World) (h1 : Sl encI (ph w) v1 xs) (h2 : Sl encI (ph w) v2 ys) : Ct Try.prog 74 [v1, v2] w (fun r _ _ => r = .bool (decide (xs = ys))) := by
 refine fn_enter Try.func74 rfl Try.ntmps74 (Nat.le_of_ble_eq_true rfl) fun a hF hS => ?_
 have hla := h1.1
 have hlb := h2.1
 refine wp_seq_k ?_; intro K1 hK1
 refine reg hF hS (sq rfl (q_assign rfl) <|
   sq_end) ?_
 clear hF hS; intro a w hF hS
 refine hK1 _ _ ?_
 clear hK1
 refine wp_seq_k ?_; intro K2 hK2
 refine wp_seq_k ?_; intro K3 hK3
 refine reg hF hS (sq rfl (q_move rfl) <|
   sq rfl (q_len_sl ty22 h1 rfl) <|
   sq rfl (q_move rfl) <|
   sq rfl (q_len_sl ty22 h2 rfl) <|
   sq rfl (q_nei rfl rfl) <|
   sq_end) ?_
 clear hF hS; intro a w hF hS
 refine hK3 _ _ ?_
 clear hK3
 refine wp_ifn hF rfl (fun hc1 => ?_) (fun hc1 => ?_)
 ·refine wp_seq_k ?_; intro K4 hK4
  refine reg hF hS (sq rfl (q_assign rfl) <|
    sq_end) ?_
  clear hF hS; intro a w hF hS
  refine hK4 _ _ ?_
  clear hK4
  refine wp_ret ?_
  exact fn_ret (rs := [.tmp 4]) rfl hF hS (vs := [_]) ⟨rfl, trivial⟩ zQ zQ (Ls.same_len hc1)
 ·refine wp_skip ?_
  refine hK2 _ _ ?_
  clear hK2
  refine wp_seq_k ?_; intro K5 hK5
  refine wp_seq_k ?_; intro K6 hK6
  refine reg hF hS (sq rfl (q_move rfl) <|
    sq rfl (q_len_sl ty22 h1 rfl) <|
    sq rfl (q_move rfl) <|
    sq_end) ?_
  clear hF hS; intro a w hF hS
  refine hK6 _ _ ?_
  clear hK6
  refine wp_block ?_
  obtain ⟨hs0, hhs0, hS⟩ : ∃ h, h = _ ∧ St _ _ h _ := ⟨_, rfl, hS⟩
  refine wp_loopx (γ := Int) (0) (fun (i : Int) => [(13, vi i)]) [(0, _), (1, _), (12, _)] (fun (i : Int) => hs0) (fun (i : Int) => 0 ≤ i ∧ i ≤ xs.length ∧ xs.take i.toNat = ys.take i.toNat) (fun (i : Int) => (xs.length - i).toNat) (hF.sub ⟨rfl, rfl, rfl, rfl, trivial⟩) (by subst hhs0; exact hS) (by exact ⟨Int.le_refl _, by omega, by simp⟩) ?_
  clear hF hS; rintro i a w hfact hF hS
  subst hhs0; (try dsimp only at hfact); (try dsimp only at hF); (try dsimp only at hS)
  obtain ⟨hi0, hi1, htk⟩ := hfact
  replace hS : St _ [] [] _ := hS
  refine wp_seq_k ?_; intro K7 hK7
  refine reg hF hS (sq rfl (q_lti rfl rfl) <|
    sq_end) ?_
  clear hF hS; intro a w hF hS
  refine hK7 _ _ ?_
  clear hK7
  refine wp_seq_k ?_; intro K8 hK8
  refine wp_ifd hF rfl (fun hc2 => ?_) (fun hc2 => ?_)
  ·refine wp_skip ?_
   refine hK8 _ _ ?_
   clear hK8
   refine wp_seq_k ?_; intro K9 hK9
   refine wp_block ?_
   refine wp_seq_k ?_; intro K10 hK10
   refine reg hF hS (sq rfl (q_move rfl) <|
     sq rfl (q_assign rfl) <|
     sq_end) ?_
   clear hF hS; intro a w hF hS
   refine hK10 _ _ ?_
   clear hK10
   refine wp_seq_k ?_; intro K11 hK11
   refine regd mixed kQ hF hS (sq rfl (q_move rfl) <|
     sq rfl (q_move rfl) <|
     sq rfl (q_idx_sl ty22 ty3 h1 rfl rfl (by omega)) <|
     sq rfl (q_ld_I ty3 h1 zin0 rfl rfl (by omega)) <|
     sq rfl (q_move rfl) <|
     sq rfl (q_move rfl) <|
     sq rfl (q_idx_sl ty22 ty3 h2 rfl rfl (by omega)) <|
     sq rfl (q_ld_I ty3 h2 zin0 rfl rfl (by omega)) <|
     sq rfl (q_nei rfl rfl) <|
     sq_end) ?_
   clear hF hS; intro a w hF hS
   refine hK11 _ _ ?_
   clear hK11
   refine wp_ifn hF rfl (fun hc3 => ?_) (fun hc3 => ?_)
   ·refine wp_seq_k ?_; intro K12 hK12
    refine reg hF hS (sq rfl (q_assign rfl) <|
      sq_end) ?_
    clear hF hS; intro a w hF hS
    refine hK12 _ _ ?_
    clear hK12
    refine wp_ret ?_
    exact fn_ret (rs := [.tmp 4]) rfl hF hS (vs := [_]) ⟨rfl, trivial⟩ zQ zQ (Ls.same_ne 0 (by simpa using hc3))
   ·refine wp_skip ?_
    refine hK9 _ _ ?_
    clear hK9
    refine reg hF hS (sq rfl (q_addi rfl rfl (by omega)) <|
      sq rfl (q_move rfl) <|
      sq_end) ?_
    clear hF hS; intro a w hF hS
    refine ⟨(i + 1), ?_, ?_, hF.sub ⟨rfl, rfl, rfl, rfl, trivial⟩, ?_⟩
    ·(try dsimp only); omega
    ·exact ⟨by omega, by omega, Ls.same_step 0 hi0 (by omega) hc1 (by simpa using hc3) htk⟩
    ·exact hS
  ·refine wp_exit ?_
   refine hK5 _ _ ?_
   clear hK5
   refine wp_seq_k ?_; intro K13 hK13
   refine reg hF hS (sq rfl (q_assign rfl) <|
     sq_end) ?_
   clear hF hS; intro a w hF hS
   refine hK13 _ _ ?_
   clear hK13
   refine wp_ret ?_
   exact fn_ret (rs := [.tmp 4]) rfl hF hS (vs := [_]) ⟨rfl, trivial⟩ zQ zQ (Ls.same_eq hc1 hc2 htk)

set_option maxRecDepth 4000 in
set_option maxHeartbeats 2000000 in
theorem check1_ct (k : Int) (w : World) : Ct Try.prog 73 [vi k] w (fun r _ _ => r = .bool (Gu.ckm k)) := by
 refine fn_enter Try.func73 rfl Try.ntmps73 (Nat.le_of_ble_eq_true rfl) fun a hF hS => ?_
 refine wp_seq_k ?_; intro K1 hK1
 refine reg hF hS (sq rfl (q_assign rfl) <|
   sq_end) ?_
 clear hF hS; intro a w hF hS
 refine hK1 _ _ ?_
 clear hK1
 refine wp_seq_k ?_; intro K2 hK2
 refine regl ?_
 refine wpl_sq hF hS (sq rfl (q_move rfl) <|
   sq rfl (q_lti rfl rfl) <|
   sq rfl (q_move rfl) <|
   sq_end) ?_
 clear hF hS; intro a w hF hS
 refine wpl_or 2 5 2 hF hS rfl rfl rfl rfl rfl (fun hg => have hg := (by first | exact of_decide_eq_false hg | exact hg); sq_go 5 rfl rfl rfl (q_move rfl) <|
   sq_go 5 rfl rfl rfl (q_gti rfl rfl) <|
   sq_end) rfl rfl ?_
 clear hF hS; intro a w hF hS
 refine wpl_sq hF hS (sq rfl (q_assign rfl) <|
   sq_end) ?_
 clear hF hS; intro a w hF hS
 refine wpList_nil ?_
 refine hK2 _ _ ?_
 clear hK2
 refine wp_ret ?_
 exact fn_ret (rs := [.tmp 2]) rfl hF hS (vs := [_]) ⟨rfl, trivial⟩ zQ zQ (rfl)

set_option maxRecDepth 4000 in
set_option maxHeartbeats 2000000 in
theorem model_ct (a b c : Value) (S F : List Int) (B : List Bool) (w : World) (hs : Sl encI (ph w) a S) (hf : Sl encI (ph w) b F) (hb : Sl encT (ph w) c B) : Ct Try.prog 40 [.agg [a, b, c].toArray] w (fun r _ _ => r = .agg [a, b, c].toArray) := by
 refine fn_enter Try.func40 rfl Try.ntmps40 (Nat.le_of_ble_eq_true rfl) fun a hF hS => ?_
 refine wp_seq_k ?_; intro K1 hK1
 refine regl ?_
 refine wpl_ef hF hS rfl (ef_boxA rfl) ?_
 clear hF hS; rintro _ _ _ a w ⟨b1, rfl, rfl, rfl⟩ hF hS
 refine wpl_ef hF hS rfl (ef_allocA ty67) ?_
 clear hF hS; rintro _ _ _ a w ⟨b2, rfl, rfl, rfl⟩ hF hS
 refine wpList_nil ?_
 refine hK1 _ _ ?_
 clear hK1
 refine wp_seq_k ?_; intro K2 hK2
 refine regl ?_
 refine wpl_sq hF hS (sq rfl (q_fieldAddr ty61 rfl rfl (s' := 0) kQ) <|
   sq rfl (q_ld_blk1 ty22 1 rfl rfl rfl rfl) <|
   sq rfl (q_fieldAddr ty61 rfl rfl (s' := 0) kQ) <|
   sq rfl (q_ld_blk1 ty22 1 rfl rfl rfl rfl) <|
   sq rfl (q_fieldAddr ty61 rfl rfl (s' := 0) kQ) <|
   sq rfl (q_ld_blk1 ty23 1 rfl rfl rfl rfl) <|
   sq rfl (q_buildS1 ty67 3 kQ rfl rfl (oc_cons (sl_one' hs) (oc_cons (sl_one' hf) (oc_cons (sl_one' hb) oc_nil))) rfl rfl) <|
   sq_end) ?_
 clear hF hS; intro a w hF hS
 refine wpl_ef hF hS rfl (ef_storeW ty67 0 rfl rfl rfl rfl bQ (oc_cons (sl_one' hs) (oc_cons (sl_one' hf) (oc_cons (sl_one' hb) oc_nil))) bQ) ?_
 clear hF hS; rintro _ _ _ a w ⟨rfl, rfl, rfl⟩ hF hS
 replace hS : St _ [] [_, _] _ := hS
 refine wpList_nil ?_
 refine hK2 _ _ ?_
 clear hK2
 refine wp_ret ?_
 exact fn_ret (rs := [.cell 2 67]) rfl hF hS (vs := [_]) ⟨⟨_, _, _, _, _, _, _, rfl, List.mem_of_getElem? (i := 0) rfl, ty67, .inl ⟨rfl, bQ, rfl⟩⟩, trivial⟩ zQ zQ (rfl)

set_option maxRecDepth 4000 in
set_option maxHeartbeats 2000000 in
theorem given_ct (a b c : Value) (S F : List Int) (B : List Bool) (w : World) (hs : Sl encI (ph w) a S) (hf : Sl encI (ph w) b F) (hb : Sl encT (ph w) c B) : Ct Try.prog 44 [.agg [a, b, c].toArray] w (fun r _ _ => r = .agg [a, b, c].toArray) := by
 refine fn_enter Try.func44 rfl Try.ntmps44 (Nat.le_of_ble_eq_true rfl) fun a hF hS => ?_
 refine wp_seq_k ?_; intro K1 hK1
 refine regl ?_
 refine wpl_ef hF hS rfl (ef_boxA rfl) ?_
 clear hF hS; rintro _ _ _ a w ⟨b1, rfl, rfl, rfl⟩ hF hS
 refine wpl_ef hF hS rfl (ef_allocA ty61) ?_
 clear hF hS; rintro _ _ _ a w ⟨b2, rfl, rfl, rfl⟩ hF hS
 refine wpList_nil ?_
 refine hK1 _ _ ?_
 clear hK1
 refine wp_seq_k ?_; intro K2 hK2
 refine regl ?_
 refine wpl_sq hF hS (sq rfl (q_fieldAddr ty67 rfl rfl (s' := 0) kQ) <|
   sq rfl (q_ld_blk1 ty22 1 rfl rfl rfl rfl) <|
   sq rfl (q_fieldAddr ty67 rfl rfl (s' := 0) kQ) <|
   sq rfl (q_ld_blk1 ty22 1 rfl rfl rfl rfl) <|
   sq rfl (q_fieldAddr ty67 rfl rfl (s' := 0) kQ) <|
   sq rfl (q_ld_blk1 ty23 1 rfl rfl rfl rfl) <|
   sq rfl (q_buildS1 ty61 3 kQ rfl rfl (oc_cons (sl_one' hs) (oc_cons (sl_one' hf) (oc_cons (sl_one' hb) oc_nil))) rfl rfl) <|
   sq_end) ?_
 clear hF hS; intro a w hF hS
 refine wpl_ef hF hS rfl (ef_storeW ty61 0 rfl rfl rfl rfl bQ (oc_cons (sl_one' hs) (oc_cons (sl_one' hf) (oc_cons (sl_one' hb) oc_nil))) bQ) ?_
 clear hF hS; rintro _ _ _ a w ⟨rfl, rfl, rfl⟩ hF hS
 replace hS : St _ [] [_, _] _ := hS
 refine wpList_nil ?_
 refine hK2 _ _ ?_
 clear hK2
 refine wp_ret ?_
 exact fn_ret (rs := [.cell 2 61]) rfl hF hS (vs := [_]) ⟨⟨_, _, _, _, _, _, _, rfl, List.mem_of_getElem? (i := 0) rfl, ty61, .inl ⟨rfl, bQ, rfl⟩⟩, trivial⟩ zQ zQ (rfl)
end Go.Proofs.Ytcbjemjohacbpaa
