/- A text of a proof over this seat: walks over the program's functions and the plain laws that they need. -/
import Derived.Test.YtefjpigmgmbghaaHg12
import Derived.Test.YtefjpigmgmbghaaHpA
import Derived.Test.YtefjpigmgmbghaaFwD
import Derived.Test.YtefjpigmgmbghaaFwB
set_option linter.all false
namespace Go.Proofs.Ytefjpigmgmbghaa
open Go.Fw
theorem ty23 : Tf Try.prog 23 (.slice 83) 1 24 (Value.slice none 0 0) := ⟨Try.underlying23, by kernel_rfl⟩
theorem ty24 : Tf Try.prog 24 (.slice 4) 1 24 (Value.slice none 0 0) := ⟨Try.underlying24, by kernel_rfl⟩
theorem ty28 : Tf Try.prog 28 (.slice 66) 1 24 (Value.slice none 0 0) := ⟨Try.underlying28, by kernel_rfl⟩
theorem ty38 : Tf Try.prog 38 (.struct #[⟨ "Keys", 28, 0, false, "", "", 0⟩, ⟨ "Marks", 22, 1, false, "", "", 24⟩]) 2 48 (.agg ([Value.slice none 0 0, Value.slice none 0 0]).toArray) := ⟨Try.underlying38, by kernel_rfl⟩
theorem ty108 : Tf Try.prog 108 (.map 3 4) 1 8 (Value.map none) := ⟨Try.underlying108, by kernel_rfl⟩

set_option maxRecDepth 4000 in
set_option maxHeartbeats 2000000 in
theorem below_ct (a b : Int) (w : World) : Ct Try.prog 66 [vi a, vi b] w (fun r _ _ => r = .bool (Hu.blw a b)) := by
 refine fn_enter Try.func66 rfl Try.ntmps66 (Nat.le_of_ble_eq_true rfl) fun a hF hS => ?_
 refine wp_seq_k ?_; intro K1 hK1
 refine reg hF hS (sq rfl (q_assign rfl) <|
   sq_end) ?_
 clear hF hS; intro a w hF hS
 refine hK1 _ _ ?_
 clear hK1
 refine wp_seq_k ?_; intro K2 hK2
 refine regl ?_
 refine wpl_sq hF hS (sq rfl (q_move rfl) <|
   sq rfl (q_move rfl) <|
   sq rfl (q_nei rfl rfl) <|
   sq rfl (q_move rfl) <|
   sq_end) ?_
 clear hF hS; intro a w hF hS
 refine wpl_and 3 8 5 hF hS rfl rfl rfl rfl rfl (fun hg => have hg := (nd_true hg); sq_go 8 rfl rfl rfl (q_move rfl) <|
   sq_go 8 rfl rfl rfl (q_move rfl) <|
   sq_go 8 rfl rfl rfl (q_andi rfl rfl) <|
   sq_go 8 rfl rfl rfl (q_move rfl) <|
   sq_go 8 rfl rfl rfl (q_eqi rfl rfl) <|
   sq_end) rfl rfl ?_
 clear hF hS; intro a w hF hS
 refine wpl_sq hF hS (sq rfl (q_assign rfl) <|
   sq_end) ?_
 clear hF hS; intro a w hF hS
 refine wpList_nil ?_
 refine hK2 _ _ ?_
 clear hK2
 refine wp_ret ?_
 exact fn_ret (rs := [.tmp 4]) rfl hF hS (vs := [_]) ⟨rfl, trivial⟩ zQ zQ (rfl)

set_option maxRecDepth 4000 in
set_option maxHeartbeats 2000000 in
theorem own_ct (xN xS xB : Value) (xs : List Int) (xb : List Bool) (w : World) (hxn : xN.oneCell' = true) (hxs : Sl encI (ph w) xS xs) (hxb : Sl encT (ph w) xB xb) : Ct Try.prog 17 [.agg [xN, xS, xB].toArray] w (fun r _ _ => r = .agg [xN, xS, xB].toArray) := by
 refine fn_enter Try.func17 rfl Try.ntmps17 (Nat.le_of_ble_eq_true rfl) fun a hF hS => ?_
 refine wp_seq_k ?_; intro K1 hK1
 refine regl ?_
 refine wpl_ef hF hS rfl (ef_boxA rfl) ?_
 clear hF hS; rintro _ _ _ a w ⟨b1, rfl, rfl, rfl⟩ hF hS
 refine wpl_ef hF hS rfl (ef_allocA ty42) ?_
 clear hF hS; rintro _ _ _ a w ⟨b2, rfl, rfl, rfl⟩ hF hS
 refine wpList_nil ?_
 refine hK1 _ _ ?_
 clear hK1
 refine wp_seq_k ?_; intro K2 hK2
 refine regl ?_
 refine wpl_sq hF hS (sq rfl (q_fieldAddr ty26 rfl rfl (s' := 0) kQ) <|
   sq rfl (q_ld_blk1 ty23 1 rfl rfl rfl rfl) <|
   sq rfl (q_fieldAddr ty26 rfl rfl (s' := 0) kQ) <|
   sq rfl (q_ld_blk1 ty22 1 rfl rfl rfl rfl) <|
   sq rfl (q_fieldAddr ty26 rfl rfl (s' := 0) kQ) <|
   sq rfl (q_ld_blk1 ty24 1 rfl rfl rfl rfl) <|
   sq rfl (q_buildS1 ty42 3 kQ rfl rfl (oc_cons hxn (oc_cons (sl_one' hxs) (oc_cons (sl_one' hxb) oc_nil))) rfl rfl) <|
   sq_end) ?_
 clear hF hS; intro a w hF hS
 refine wpl_ef hF hS rfl (ef_storeW ty42 0 rfl rfl rfl rfl bQ (oc_cons hxn (oc_cons (sl_one' hxs) (oc_cons (sl_one' hxb) oc_nil))) bQ) ?_
 clear hF hS; rintro _ _ _ a w ⟨rfl, rfl, rfl⟩ hF hS
 replace hS : St _ [] [_, _] _ := hS
 refine wpList_nil ?_
 refine hK2 _ _ ?_
 clear hK2
 refine wp_ret ?_
 exact fn_ret (rs := [.cell 2 42]) rfl hF hS (vs := [_]) ⟨⟨_, _, _, _, _, _, _, rfl, List.mem_of_getElem? (i := 0) rfl, ty42, .inl ⟨rfl, bQ, rfl⟩⟩, trivial⟩ zQ zQ (rfl)

set_option maxRecDepth 4000 in
set_option maxHeartbeats 2000000 in
theorem ordered_ct (xN xS xB : Value) (xs : List Int) (xb : List Bool) (w : World) (hxn : xN.oneCell' = true) (hxs : Sl encI (ph w) xS xs) (hxb : Sl encT (ph w) xB xb) : Ct Try.prog 50 [.agg [xN, xS, xB].toArray] w (fun r _ _ => r = .bool (Hu.ordB xs xb)) := by
 refine fn_enter Try.func50 rfl Try.ntmps50 (Nat.le_of_ble_eq_true rfl) fun a hF hS => ?_
 have hsl := hxs.1
 have hbl := hxb.1
 refine wp_seq_k ?_; intro K1 hK1
 refine regl ?_
 refine wpl_ef hF hS rfl (ef_boxA rfl) ?_
 clear hF hS; rintro _ _ _ a w ⟨b1, rfl, rfl, rfl⟩ hF hS
 refine wpl_sq hF hS (sq rfl (q_assign rfl) <|
   sq_end) ?_
 clear hF hS; intro a w hF hS
 refine wpList_nil ?_
 refine hK1 _ _ ?_
 clear hK1
 refine wp_seq_k ?_; intro K2 hK2
 refine regl ?_
 refine wpl_ef hF hS rfl (ef_mkmap) ?_
 clear hF hS; rintro _ _ _ a w ⟨b2, rfl, rfl, rfl⟩ hF hS
 replace hS : St _ [] [_, _] _ := hS
 refine wpl_sq hF hS (sq rfl (q_assign rfl) <|
   sq_end) ?_
 clear hF hS; intro a w hF hS
 refine wpList_nil ?_
 refine hK2 _ _ ?_
 clear hK2
 refine wp_seq_k ?_; intro K3 hK3
 refine wp_seq_k ?_; intro K4 hK4
 refine reg hF hS (sq rfl (q_fieldAddr ty42 rfl rfl (s' := 0) kQ) <|
   sq rfl (q_ld_blk1 ty22 1 rfl rfl rfl rfl) <|
   sq rfl (q_len_sl ty22 hxs rfl) <|
   sq rfl (q_move rfl) <|
   sq_end) ?_
 clear hF hS; intro a w hF hS
 refine hK4 _ _ ?_
 clear hK4
 refine wp_block ?_
 obtain ⟨hs0, hhs0, hS⟩ : ∃ h, h = _ ∧ St _ _ h _ := ⟨_, rfl, hS⟩
 refine wp_loopx (γ := List MapEntry × Nat × List (Int × Value) × Int) ([], 0, [], 0) (fun (gg : List MapEntry × Nat × List (Int × Value) × Int) => match gg with | (es, ec, ml, i) => [(10, vi i)]) [(1, _), (3, _), (8, _), (9, _)] (fun (gg : List MapEntry × Nat × List (Int × Value) × Int) => match gg with | (es, ec, ml, i) => (hs0.set 0 (.mp b2 es ec))) (fun (gg : List MapEntry × Nat × List (Int × Value) × Int) => match gg with | (es, ec, ml, i) => 0 ≤ i ∧ i ≤ xs.length ∧ MpR vi ml es ∧ Hu.MetM xs i.toNat ml) (fun (gg : List MapEntry × Nat × List (Int × Value) × Int) => match gg with | (es, ec, ml, i) => (xs.length - i).toNat) (hF.sub ⟨rfl, rfl, rfl, rfl, rfl, trivial⟩) (by subst hhs0; exact hS) (by exact ⟨Int.le_refl _, by omega, rfl, Hu.MetM.start xs⟩) ?_
 clear hF hS; rintro ⟨es, ec, ml, i⟩ a w hfact hF hS
 subst hhs0; (try dsimp only at hfact); (try dsimp only at hF); (try dsimp only at hS)
 obtain ⟨hi0, hi1, hMm, hMt⟩ := hfact
 replace hS : St _ [] [_, _] _ := hS
 refine wp_seq_k ?_; intro K5 hK5
 refine reg hF hS (sq rfl (q_lti rfl rfl) <|
   sq_end) ?_
 clear hF hS; intro a w hF hS
 refine hK5 _ _ ?_
 clear hK5
 refine wp_seq_k ?_; intro K6 hK6
 refine wp_ifd hF rfl (fun hc1 => ?_) (fun hc1 => ?_)
 ·refine wp_skip ?_
  refine hK6 _ _ ?_
  clear hK6
  refine wp_seq_k ?_; intro K7 hK7
  refine wp_block ?_
  refine wp_seq_k ?_; intro K8 hK8
  refine reg hF hS (sq rfl (q_idx_sl ty22 ty3 hxs rfl rfl (by omega)) <|
    sq rfl (q_ld_I ty3 hxs zin0 rfl rfl (by omega)) <|
    sq rfl (q_assign rfl) <|
    sq_end) ?_
  clear hF hS; intro a w hF hS
  refine hK8 _ _ ?_
  clear hK8
  refine regl ?_
  refine wpl_sq hF hS (sq rfl (q_move rfl) <|
    sq rfl (q_move rfl) <|
    sq_end) ?_
  clear hF hS; intro a w hF hS
  refine wpl_ef hF hS rfl (ef_mapset ty108 (key_I ty3) 0 rfl rfl rfl rfl hMm (fun _ _ => trivial) trivial) ?_
  clear hF hS; rintro _ _ _ a w ⟨es1, ec1, hM1, rfl, rfl, rfl⟩ hF hS
  replace hS : St _ [] [_, _] _ := hS
  refine wpList_nil ?_
  refine hK7 _ _ ?_
  clear hK7
  refine reg hF hS (sq rfl (q_addi rfl rfl (by omega)) <|
    sq rfl (q_move rfl) <|
    sq_end) ?_
  clear hF hS; intro a w hF hS
  refine ⟨(es1, ec1, aset (xs.getD i.toNat 0) (.bool true) ml, i + 1), ?_, ?_, hF.sub ⟨rfl, rfl, rfl, rfl, rfl, trivial⟩, ?_⟩
  ·(try dsimp only); omega
  ·exact ⟨by omega, by omega, hM1, hMt.step (by omega)⟩
  ·exact hS
 ·obtain rfl : i = xs.length := by omega
  rw [Int.toNat_natCast] at hMt
  have hml := hMt.len
  refine wp_exit ?_
  refine hK3 _ _ ?_
  clear hK3
  refine wp_seq_k ?_; intro K9 hK9
  refine regl ?_
  refine wpl_sq hF hS (sq rfl (q_move rfl) <|
    sq rfl (q_lenM ty108 0 rfl rfl hMm) <|
    sq rfl (q_fieldAddr ty42 rfl rfl (s' := 0) kQ) <|
    sq rfl (q_ld_blk1 ty22 1 rfl rfl rfl rfl) <|
    sq rfl (q_len_sl ty22 hxs rfl) <|
    sq rfl (q_eqi rfl rfl) <|
    sq rfl (q_move rfl) <|
    sq_end) ?_
  clear hF hS; intro a w hF hS
  refine wpl_and 6 23 7 hF hS rfl rfl rfl rfl rfl (fun hg => have hg := (by first | exact of_decide_eq_true hg | exact hg); sq_go 23 rfl rfl rfl (q_fieldAddr ty42 rfl rfl (s' := 0) kQ) <|
    sq_go 23 rfl rfl rfl (q_ld_blk1 ty24 1 rfl rfl rfl rfl) <|
    sq_go 23 rfl rfl rfl (q_len_sl ty24 hxb rfl) <|
    sq_go 23 rfl rfl rfl (q_fieldAddr ty42 rfl rfl (s' := 0) kQ) <|
    sq_go 23 rfl rfl rfl (q_ld_blk1 ty22 1 rfl rfl rfl rfl) <|
    sq_go 23 rfl rfl rfl (q_len_sl ty22 hxs rfl) <|
    sq_go 23 rfl rfl rfl (q_eqi rfl rfl) <|
    sq_end) rfl rfl ?_
  clear hF hS; intro a w hF hS
  refine wpl_sq hF hS (sq rfl (q_assign rfl) <|
    sq_end) ?_
  clear hF hS; intro a w hF hS
  refine wpList_nil ?_
  refine hK9 _ _ ?_
  clear hK9
  refine wp_ret ?_
  exact fn_ret (rs := [.tmp 2]) rfl hF hS (vs := [_]) ⟨rfl, trivial⟩ zQ zQ (by unfold Hu.ordB; rw [← hml, ← Hu.dec_nat xb.length])

end Go.Proofs.Ytefjpigmgmbghaa
