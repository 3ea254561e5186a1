/- A text of a proof over this seat: walks over the program's functions and the plain laws that they need. -/
import Derived.Test.YtcbjemjohacbpaaGg16
import Derived.Test.YtcbjemjohacbpaaGuA
import Derived.Test.YtcbjemjohacbpaaFwC
import Derived.Test.YtcbjemjohacbpaaFwB
set_option linter.all false
namespace Go.Proofs.Ytcbjemjohacbpaa
open Go.Fw
theorem ty5 : Tf Try.prog 5 (.int .u8) 1 1 (Value.int .u8 0) := ⟨Try.underlying5, by kernel_rfl⟩
theorem ty62 : Tf Try.prog 62 (.slice 71) 1 24 (Value.slice none 0 0) := ⟨Try.underlying62, by kernel_rfl⟩
theorem ty71 : Tf Try.prog 71 (.array 16 5) 16 16 (.agg (List.replicate 16 (Value.int .u8 0)).toArray) := ⟨Try.underlying71, by kernel_rfl⟩
theorem ty104 : Tf Try.prog 104 (.map 71 3) 1 8 (Value.map none) := ⟨Try.underlying104, by kernel_rfl⟩

set_option maxRecDepth 4000 in
set_option maxHeartbeats 2000000 in
theorem cloneb_ct (v : Value) (bs : List Bool) (hl : bs.length < 1048576) (w : World) (hb : Sl encT (ph w) v bs) : Ct Try.prog 71 [v] w (SlR encT bs) := by
 refine fn_enter Try.func71 rfl Try.ntmps71 (Nat.le_of_ble_eq_true rfl) fun a hF hS => ?_
 have hbl := hb.1
 refine wp_seq_k ?_; intro K1 hK1
 refine reg hF hS (sq rfl (q_assign rfl) <|
   sq_end) ?_
 clear hF hS; intro a w hF hS
 refine hK1 _ _ ?_
 clear hK1
 refine wp_seq_k ?_; intro K2 hK2
 refine wp_seq_k ?_; intro K3 hK3
 refine reg hF hS (sq rfl (q_move rfl) <|
   sq rfl (q_eqnil ty23 hb rfl rfl) <|
   sq_end) ?_
 clear hF hS; intro a w hF hS
 refine hK3 _ _ ?_
 clear hK3
 refine wp_if hF rfl (fun hc1 => ?_) (fun hc1 => ?_)
 ·refine wp_seq_k ?_; intro K4 hK4
  refine reg hF hS (sq rfl (q_assign rfl) <|
    sq_end) ?_
  clear hF hS; intro a w hF hS
  refine hK4 _ _ ?_
  clear hK4
  refine wp_ret ?_
  replace hS := hS.zone00
  exact fn_ret (rs := [.tmp 2]) rfl hF hS (vs := [_]) ⟨rfl, trivial⟩ (zs' := [_]) (hs' := []) (List.singleton_sublist.2 (by simp)) zQ (sr_of ⟨_, (sl_nil (z := fun _ => none)), rfl, rfl⟩ ((nilS_nil hb hc1).symm))
 ·refine wp_skip ?_
  refine hK2 _ _ ?_
  clear hK2
  refine wp_seq_k ?_; intro K5 hK5
  refine regl ?_
  refine wpl_ef hF hS rfl (ef_bslice0 ty23 ty4) ?_
  clear hF hS; rintro v1 _ _ a w ⟨rfl, rfl⟩ hF hS
  replace hS : St _ [] [_] _ := hS
  refine wpl_sq hF hS (sq rfl (q_move rfl) <|
    sq_end) ?_
  clear hF hS; intro a w hF hS
  refine wpl_ef hF hS rfl (ef_append ty23 ty4 0 rfl rfl rfl (src_slV ty23 hb zin0) bQ rfl (by decide)) ?_
  clear hF hS; rintro v3 _ _ a w ⟨rfl, rfl⟩ hF hS
  replace hS : St _ [] [_] _ := hS
  refine wpl_sq hF hS (sq rfl (q_assign rfl) <|
    sq_end) ?_
  clear hF hS; intro a w hF hS
  refine wpList_nil ?_
  replace hS := hS.rowEq (Nat.zero_add _) (List.nil_append _)
  refine hK5 _ _ ?_
  clear hK5
  refine wp_ret ?_
  obtain ⟨zr, hzr, hS⟩ := St.freezeV (f := vt) (p := fun _ => True) hS rfl (by first | omega | (simp; omega)) (fun _ _ => trivial)
  exact fn_ret (rs := [.tmp 2]) rfl hF hS (vs := [_]) ⟨rfl, trivial⟩ (zs' := [_]) (hs' := []) (List.singleton_sublist.2 (by simp)) zQ (sr_of ⟨_, hzr, rfl, rfl⟩ (rfl))

set_option maxRecDepth 4000 in
set_option maxHeartbeats 2000000 in
theorem classes_ct (xN xS xB : Value) (xs : List Int) (xb : List Bool) (v : Value) (ks : List (List UInt8)) (hl : xs.length < 1048576) (hq1 : xb.length = xs.length) (hq2 : ks.length = xs.length) (w : World) (hxn : xN.oneCell' = true) (hxs : Sl encI (ph w) xS xs) (hxb : Sl encT (ph w) xB xb) (hk : Sl (encA 16) (ph w) v ks) : Ct Try.prog 70 [.agg [xN, xS, xB].toArray, v] w (SlR encI (Gu.cls xb ks)) := by
 refine fn_enter Try.func70 rfl Try.ntmps70 (Nat.le_of_ble_eq_true rfl) fun a hF hS => ?_
 have hsl := hxs.1
 have hkl := hk.1
 have hk16 : ∀ j, j < ks.length → (ks.getD j []).length = 16 := fun j hj => by have := hk.rep (i := j) (x := ks[j]) (by simp [hj]); rw [List.getD_eq_getElem?_getD, List.getElem?_eq_getElem hj]; exact this.1
 refine wp_seq_k ?_; intro K1 hK1
 refine regl ?_
 refine wpl_ef hF hS rfl (ef_boxA rfl) ?_
 clear hF hS; rintro _ _ _ a w ⟨b1, rfl, rfl, rfl⟩ hF hS
 refine wpl_sq hF hS (sq rfl (q_assign rfl) <|
   sq_end) ?_
 clear hF hS; intro a w hF hS
 refine wpList_nil ?_
 refine hK1 _ _ ?_
 clear hK1
 refine wp_seq_k ?_; intro K2 hK2
 refine regl ?_
 refine wpl_ef hF hS rfl (ef_mkmap) ?_
 clear hF hS; rintro _ _ _ a w ⟨b2, rfl, rfl, rfl⟩ hF hS
 replace hS : St _ [] [_, _] _ := hS
 refine wpl_sq hF hS (sq rfl (q_assign rfl) <|
   sq_end) ?_
 clear hF hS; intro a w hF hS
 refine wpList_nil ?_
 refine hK2 _ _ ?_
 clear hK2
 refine wp_seq_k ?_; intro K3 hK3
 refine regl ?_
 refine wpl_sq hF hS (sq rfl (q_move rfl) <|
   sq rfl (q_len_sl ty62 hk rfl) <|
   sq_end) ?_
 clear hF hS; intro a w hF hS
 refine wpl_ef hF hS rfl (ef_mks ty22 ty3 rfl rfl bQ bQ rfl) ?_
 clear hF hS; rintro v4 _ _ a w ⟨rfl, rfl⟩ hF hS
 replace hS : St _ [] [_, _, _] _ := hS
 refine wpl_sq hF hS (sq rfl (q_assign rfl) <|
   sq_end) ?_
 clear hF hS; intro a w hF hS
 refine wpList_nil ?_
 rw [show List.replicate ks.length (Value.int .i64 0) = (Gu.pm (Gu.clsAt xb ks) ks.length 0).map vi from by rw [← Gu.pm_0, List.map_replicate]] at hS
 refine hK3 _ _ ?_
 clear hK3
 refine wp_seq_k ?_; intro K4 hK4
 refine wp_seq_k ?_; intro K5 hK5
 refine reg hF hS (sq rfl (q_move rfl) <|
   sq rfl (q_len_sl ty62 hk rfl) <|
   sq rfl (q_move rfl) <|
   sq_end) ?_
 clear hF hS; intro a w hF hS
 refine hK5 _ _ ?_
 clear hK5
 refine wp_block ?_
 obtain ⟨hs0, hhs0, hS⟩ : ∃ h, h = _ ∧ St _ _ h _ := ⟨_, rfl, hS⟩
 refine wp_loopx (γ := List MapEntry × Nat × List (List UInt8 × Value) × Int) ([], 0, [], 0) (fun (gg : List MapEntry × Nat × List (List UInt8 × Value) × Int) => match gg with | (es, ec, ml, i) => [(17, vi i)]) [(2, _), (5, _), (6, _), (15, _), (16, _)] (fun (gg : List MapEntry × Nat × List (List UInt8 × Value) × Int) => match gg with | (es, ec, ml, i) => ((hs0.set 0 (.row v4 3 1 ks.length ((Gu.pm (Gu.clsAt xb ks) ks.length i.toNat).map vi))).set 1 (.mp b2 es ec))) (fun (gg : List MapEntry × Nat × List (List UInt8 × Value) × Int) => match gg with | (es, ec, ml, i) => 0 ≤ i ∧ i ≤ ks.length ∧ MpR abv ml es ∧ Gu.FstM xb ks i.toNat ml) (fun (gg : List MapEntry × Nat × List (List UInt8 × Value) × Int) => match gg with | (es, ec, ml, i) => (ks.length - i).toNat) (hF.sub ⟨rfl, rfl, rfl, rfl, rfl, rfl, trivial⟩) (by subst hhs0; exact hS) (by exact ⟨Int.le_refl _, by omega, rfl, Gu.FstM.start xb ks⟩) ?_
 clear hF hS; rintro ⟨es, ec, ml, i⟩ a w hfact hF hS
 subst hhs0; (try dsimp only at hfact); (try dsimp only at hF); (try dsimp only at hS)
 obtain ⟨hi0, hi1, hMm, hFm⟩ := hfact
 replace hS : St _ [] [_, _, _] _ := hS
 refine wp_seq_k ?_; intro K6 hK6
 refine reg hF hS (sq rfl (q_lti rfl rfl) <|
   sq_end) ?_
 clear hF hS; intro a w hF hS
 refine hK6 _ _ ?_
 clear hK6
 refine wp_seq_k ?_; intro K7 hK7
 refine wp_ifd hF rfl (fun hc1 => ?_) (fun hc1 => ?_)
 ·have hki := hk16 i.toNat (by omega)
  refine wp_skip ?_
  refine hK7 _ _ ?_
  clear hK7
  refine wp_seq_k ?_; intro K8 hK8
  refine wp_block ?_
  refine wp_seq_k ?_; intro K9 hK9
  refine regl ?_
  refine wpl_sq hF hS (sq rfl (q_move rfl) <|
    sq rfl (q_idx_sl ty62 ty71 hk rfl rfl (by omega)) <|
    sq rfl (q_ld_AB ty71 hk zin0 rfl rfl (by decide) (by omega)) <|
    sq_end) ?_
  clear hF hS; intro a w hF hS
  refine wpl_ef hF hS rfl (ef_allocA ty71) ?_
  clear hF hS; rintro _ _ _ a w ⟨b6, rfl, rfl, rfl⟩ hF hS
  rw [show List.replicate 16 (Value.int .u8 0) = (List.replicate 16 (0 : UInt8)).map vb from by rw [List.map_replicate]; rfl] at hS
  refine wpl_sq hF hS (sq rfl (q_assign rfl) <|
    sq_end) ?_
  clear hF hS; intro a w hF hS
  refine wpl_ef hF hS rfl (ef_storeW ty71 0 rfl rfl rfl rfl bQ oQ bQ) ?_
  clear hF hS; rintro _ _ _ a w ⟨rfl, rfl, rfl⟩ hF hS
  replace hS : St _ [] [_, _, _, _] _ := hS
  refine wpList_nil ?_
  refine hK9 _ _ ?_
  clear hK9
  refine wp_seq_k ?_; intro K10 hK10
  refine regl ?_
  refine wpl_sq hF hS (sq rfl (q_move rfl) <|
    sq rfl (q_move rfl) <|
    sq rfl (q_idx_row ty22 ty3 1 rfl rfl rfl (by omega)) <|
    sq_end) ?_
  clear hF hS; intro a w hF hS
  refine wpl_ef hF hS rfl (ef_st_row ty3 1 rfl rfl rfl (by omega) rfl) ?_
  clear hF hS; rintro _ _ _ a w ⟨rfl, rfl, rfl⟩ hF hS
  replace hS : St _ [] [_, _, _, _] _ := hS
  refine wpList_nil ?_
  refine hK10 _ _ ?_
  clear hK10
  refine wp_seq_k ?_; intro K11 hK11
  refine wp_seq_k ?_; intro K12 hK12
  refine reg hF hS (sq rfl (q_fieldAddr ty34 rfl rfl (s' := 0) kQ) <|
    sq rfl (q_ld_blk1 ty23 3 rfl rfl rfl rfl) <|
    sq rfl (q_move rfl) <|
    sq rfl (q_idx_sl ty23 ty4 hxb rfl rfl (by omega)) <|
    sq rfl (q_ld_T ty4 hxb zin0 rfl rfl (by omega)) <|
    sq rfl (q_not rfl) <|
    sq_end) ?_
  clear hF hS; intro a w hF hS
  refine hK12 _ _ ?_
  clear hK12
  refine wp_if hF rfl (fun hc2 => ?_) (fun hc2 => ?_)
  ·have hb9 : xb.getD i.toNat false = false := by simpa using hc2
   refine wp_exit ?_
   refine hK8 _ _ ?_
   clear hK8
   refine reg hF hS (sq rfl (q_addi rfl rfl (by omega)) <|
     sq rfl (q_move rfl) <|
     sq_end) ?_
   clear hF hS; intro a w hF hS
   replace hS := hS.keep zQ (sQ.n)
   refine ⟨(es, ec, ml, i + 1), ?_, ?_, hF.sub ⟨rfl, rfl, rfl, rfl, rfl, rfl, trivial⟩, ?_⟩
   ·(try dsimp only); omega
   ·exact ⟨by omega, by omega, hMm, by rw [show (i + 1).toNat = i.toNat + 1 by omega]; exact hFm.no hb9⟩
   ·exact hS.rowEq rfl (by rw [show (i + 1).toNat = i.toNat + 1 by omega, ← Gu.pm_set, Gu.clsAt_no hb9, List.map_set])
  ·have hb9 : xb.getD i.toNat false = true := by simpa using hc2
   refine wp_skip ?_
   refine hK11 _ _ ?_
   clear hK11
   refine wp_seq_k ?_; intro K13 hK13
   refine wp_seq_k ?_; intro K14 hK14
   refine reg hF hS (sq rfl (q_move rfl) <|
     sq rfl (q_ld_blkW ty71 0 rfl rfl bQ rfl) <|
     sq rfl (q_lookupk ty104 ty3 (key_AB ty71 ty5) 2 rfl rfl rfl hMm hFm.1 (by assumption)) <|
     sq rfl (q_move rfl) <|
     sq rfl (q_extract rfl rfl) <|
     sq rfl (q_extract rfl rfl) <|
     sq rfl (q_assign rfl) <|
     sq rfl (q_assign rfl) <|
     sq_end) ?_
   clear hF hS; intro a w hF hS
   refine hK14 _ _ ?_
   clear hK14
   refine wp_seq_k ?_; intro K15 hK15
   refine reg hF hS (sq rfl (q_move rfl) <|
     sq rfl (q_not rfl) <|
     sq_end) ?_
   clear hF hS; intro a w hF hS
   refine hK15 _ _ ?_
   clear hK15
   refine wp_if hF rfl (fun hc3 => ?_) (fun hc3 => ?_)
   ·have hs9 : (aget ml (ks.getD i.toNat [])).isSome = false := by simpa using hc3
    refine regl ?_
    refine wpl_sq hF hS (sq rfl (q_move rfl) <|
      sq rfl (q_ld_blkW ty71 0 rfl rfl bQ rfl) <|
      sq rfl (q_move rfl) <|
      sq_end) ?_
    clear hF hS; intro a w hF hS
    refine wpl_ef hF hS rfl (ef_mapset ty104 (key_AB ty71 ty5) 2 rfl rfl rfl rfl hMm hFm.1 (by assumption)) ?_
    clear hF hS; rintro _ _ _ a w ⟨es1, ec1, hM1, rfl, rfl, rfl⟩ hF hS
    replace hS : St _ [] [_, _, _, _] _ := hS
    refine wpList_nil ?_
    obtain ⟨hFm2, hcl, hag⟩ := Gu.FstM.new hFm hki hb9 hs9
    rw [show ((i.toNat : Nat) : Int) = i by omega] at hFm2 hcl hag
    refine hK13 _ _ ?_
    clear hK13
    refine regl ?_
    refine wpl_sq hF hS (sq rfl (q_move rfl) <|
      sq rfl (q_move rfl) <|
      sq rfl (q_move rfl) <|
      sq rfl (q_ld_blkW ty71 0 rfl rfl bQ rfl) <|
      sq rfl (q_lookup1 ty104 ty3 (key_AB ty71 ty5) 2 rfl rfl rfl hM1 hFm2.1 (by assumption) hag) <|
      sq rfl (q_idx_row ty22 ty3 1 rfl rfl rfl (by omega)) <|
      sq_end) ?_
    clear hF hS; intro a w hF hS
    refine wpl_ef hF hS rfl (ef_st_row ty3 1 rfl rfl rfl (by omega) rfl) ?_
    clear hF hS; rintro _ _ _ a w ⟨rfl, rfl, rfl⟩ hF hS
    replace hS : St _ [] [_, _, _, _] _ := hS
    refine wpList_nil ?_
    refine hK8 _ _ ?_
    clear hK8
    refine reg hF hS (sq rfl (q_addi rfl rfl (by omega)) <|
      sq rfl (q_move rfl) <|
      sq_end) ?_
    clear hF hS; intro a w hF hS
    replace hS := hS.keep zQ (sQ.n)
    refine ⟨(es1, ec1, aset (ks.getD i.toNat []) (vi i) ml, i + 1), ?_, ?_, hF.sub ⟨rfl, rfl, rfl, rfl, rfl, rfl, trivial⟩, ?_⟩
    ·(try dsimp only); omega
    ·exact ⟨by omega, by omega, hM1, by rw [show (i + 1).toNat = i.toNat + 1 by omega]; exact hFm2⟩
    ·exact hS.rowEq rfl (by rw [List.set_set, show (i + 1).toNat = i.toNat + 1 by omega, ← Gu.pm_set, hcl, List.map_set])
   ·obtain ⟨hFm2, hag⟩ := Gu.FstM.old hFm hb9 (by simpa using hc3)
    refine wp_skip ?_
    refine hK13 _ _ ?_
    clear hK13
    refine regl ?_
    refine wpl_sq hF hS (sq rfl (q_move rfl) <|
      sq rfl (q_move rfl) <|
      sq rfl (q_move rfl) <|
      sq rfl (q_ld_blkW ty71 0 rfl rfl bQ rfl) <|
      sq rfl (q_lookup1 ty104 ty3 (key_AB ty71 ty5) 2 rfl rfl rfl hMm hFm.1 (by assumption) hag) <|
      sq rfl (q_idx_row ty22 ty3 1 rfl rfl rfl (by omega)) <|
      sq_end) ?_
    clear hF hS; intro a w hF hS
    refine wpl_ef hF hS rfl (ef_st_row ty3 1 rfl rfl rfl (by omega) rfl) ?_
    clear hF hS; rintro _ _ _ a w ⟨rfl, rfl, rfl⟩ hF hS
    replace hS : St _ [] [_, _, _, _] _ := hS
    refine wpList_nil ?_
    refine hK8 _ _ ?_
    clear hK8
    refine reg hF hS (sq rfl (q_addi rfl rfl (by omega)) <|
      sq rfl (q_move rfl) <|
      sq_end) ?_
    clear hF hS; intro a w hF hS
    replace hS := hS.keep zQ (sQ.n)
    refine ⟨(es, ec, ml, i + 1), ?_, ?_, hF.sub ⟨rfl, rfl, rfl, rfl, rfl, rfl, trivial⟩, ?_⟩
    ·(try dsimp only); omega
    ·exact ⟨by omega, by omega, hMm, by rw [show (i + 1).toNat = i.toNat + 1 by omega]; exact hFm2⟩
    ·exact hS.rowEq rfl (by rw [List.set_set, show (i + 1).toNat = i.toNat + 1 by omega, ← Gu.pm_set, List.map_set])
 ·obtain rfl : i = ks.length := by omega
  rw [Int.toNat_natCast] at hS
  replace hS := hS.rowEq (Gu.pm_len (Gu.clsAt xb ks) ks.length ks.length).symm rfl
  refine wp_exit ?_
  refine hK4 _ _ ?_
  clear hK4
  refine wp_seq_k ?_; intro K16 hK16
  refine reg hF hS (sq rfl (q_move rfl) <|
    sq rfl (q_assign rfl) <|
    sq_end) ?_
  clear hF hS; intro a w hF hS
  refine hK16 _ _ ?_
  clear hK16
  refine wp_ret ?_
  obtain ⟨zr, hzr, hS⟩ := St.freezeV (h0 := fun _ => rfl) (f := vi) (p := fun x => -9223372036854775808 ≤ x ∧ x ≤ 9223372036854775807) (xs := Gu.cls xb ks) hS rfl (by rw [Gu.pm_len]; omega) (fun x hx => Gu.cls_rng (by omega) x hx)
  exact fn_ret (rs := [.tmp 4]) rfl hF hS (vs := [_]) ⟨rfl, trivial⟩ (zs' := [zr]) (hs' := []) (List.singleton_sublist.2 (by simp)) zQ ⟨zr, hzr, rfl, rfl⟩
end Go.Proofs.Ytcbjemjohacbpaa
