/- A text of a proof over this seat: walks over the program's functions and the plain laws that they need. -/
import Derived.Test.YtngcjojijaknnaaGreatDoorLl10
import Derived.Test.YtngcjojijaknnaaGreatDoorLgA
import Derived.Test.YtngcjojijaknnaaGreatDoorFwB
set_option linter.all false
namespace Go.Proofs.YtngcjojijaknnaaGreatDoor
open Go.Fw


set_option maxRecDepth 4000 in
set_option maxHeartbeats 2000000 in
theorem bent_ct (v : Value) (xs : List UInt8) (how by9 : Int) (hh : -9223372036854775808 ≤ how ∧ how ≤ 9223372036854775807) (hy : -9223372036854775808 ≤ by9 ∧ by9 ≤ 9223372036854775807) (hl : xs.length < 1099511627776) (w : World) (hb : Sl encB (ph w) v xs) : Ct Tryz.prog 17 [v, vi how, vi by9] w (fun r zs hs => ∃ (q : List UInt8) (z : PH), zs = [z] ∧ hs = [] ∧ Sl encB z r q ∧ q.length ≤ xs.length + 1) := by
 refine fn_enter Tryz.func17 rfl Tryz.ntmps17 (Nat.le_of_ble_eq_true rfl) fun a hF hS => ?_
 have hbl := hb.1
 have hah := Gu.arnd_range (n := how) (m := 4) (by decide)
 refine wp_seq_k ?_; intro K1 hK1
 refine reg hF hS (sq rfl (q_assign rfl) <|
   sq_end) ?_
 clear hF hS; intro a w hF hS
 refine hK1 _ _ ?_
 clear hK1
 refine wp_seq_k ?_; intro K2 hK2
 refine regl ?_
 refine wpl_ef hF hS rfl (ef_bslice0 ty25 ty5) ?_
 clear hF hS; rintro v1 _ _ a w ⟨rfl, rfl⟩ hF hS
 replace hS : St _ [] [_] _ := hS
 refine wpl_sq hF hS (sq rfl (q_move rfl) <|
   sq_end) ?_
 clear hF hS; intro a w hF hS
 refine wpl_ef hF hS rfl (ef_append ty25 ty5 0 rfl rfl rfl (src_slV ty25 hb zin0) bQ rfl (by decide)) ?_
 clear hF hS; rintro v3 _ _ a w ⟨rfl, rfl⟩ hF hS
 replace hS : St _ [] [_] _ := hS
 refine wpl_sq hF hS (sq rfl (q_assign rfl) <|
   sq_end) ?_
 clear hF hS; intro a w hF hS
 refine wpList_nil ?_
 replace hS := hS.rowEq (m' := xs.length) (cs' := xs.map vb) (Nat.zero_add _) (List.nil_append _)
 refine hK2 _ _ ?_
 clear hK2
 refine wp_seq_k ?_; intro K3 hK3
 refine wp_seq_k ?_; intro K4 hK4
 refine reg hF hS (sq rfl (q_move rfl) <|
   sq rfl (q_len_row ty25 0 rfl rfl) <|
   sq rfl (q_eqi rfl rfl) <|
   sq_end) ?_
 clear hF hS; intro a w hF hS
 refine hK4 _ _ ?_
 clear hK4
 refine wp_ifd hF rfl (fun hc1 => ?_) (fun hc1 => ?_)
 ·refine wp_seq_k ?_; intro K5 hK5
  refine regl ?_
  refine wpl_sq hF hS (sq rfl (q_move rfl) <|
    sq rfl (q_cv_ib ty3 ty5 rfl) <|
    sq_end) ?_
  clear hF hS; intro a w hF hS
  refine wpl_ef hF hS rfl (ef_bsliceA ty25 ty5 rfl rfl oQ (by decide) rfl rfl) ?_
  clear hF hS; rintro v4 _ _ a w ⟨rfl, rfl⟩ hF hS
  replace hS : St _ [] [_, _] _ := hS
  refine wpl_sq hF hS (sq rfl (q_assign rfl) <|
    sq_end) ?_
  clear hF hS; intro a w hF hS
  refine wpList_nil ?_
  refine hK5 _ _ ?_
  clear hK5
  refine wp_ret ?_
  obtain ⟨zr, hzr, hS⟩ := St.freezeB (xs := [ofb by9]) hS rfl (by decide)
  exact fn_ret (rs := [.tmp 6]) rfl hF hS (vs := [_]) ⟨rfl, trivial⟩ (zs' := [zr]) (hs' := []) (List.singleton_sublist.2 (by simp)) zQ ⟨_, zr, rfl, rfl, hzr, (by simp)⟩
 ·have har := Gu.arnd_range (n := by9) (m := (xs.length : Int)) (by omega)
  refine wp_skip ?_
  refine hK3 _ _ ?_
  clear hK3
  refine wp_seq_k ?_; intro K6 hK6
  refine reg hF hS (sq rfl (q_move rfl) <|
    sq rfl (q_move rfl) <|
    sq rfl (q_len_row ty25 0 rfl rfl) <|
    sq rfl (q_call fn11 rfl (fun w hS => arnd_ct _ _ (by omega) (by omega) w ) (fun _ _ _ h => h)) <|
    sq rfl (q_assign rfl) <|
    sq_end) ?_
  clear hF hS; intro a w hF hS
  refine hK6 _ _ ?_
  clear hK6
  refine wp_seq_k ?_; intro K7 hK7
  refine wp_seq_k ?_; intro K8 hK8
  refine reg hF hS (sq rfl (q_move rfl) <|
    sq rfl (q_call fn11 rfl (fun w hS => arnd_ct _ _ (by omega) (by omega) w ) (fun _ _ _ h => h)) <|
    sq_end) ?_
  clear hF hS; intro a w hF hS
  refine hK8 _ _ ?_
  clear hK8
  refine wp_block ?_
  refine wp_seq_k ?_; intro K9 hK9
  refine reg hF hS (sq rfl (q_eqi rfl rfl) <|
    sq rfl (q_assign rfl) <|
    sq_end) ?_
  clear hF hS; intro a w hF hS
  refine hK9 _ _ ?_
  clear hK9
  refine wp_ifd hF rfl (fun hc2 => ?_) (fun hc2 => ?_)
  ·refine regl ?_
   refine wpl_sq hF hS (sq rfl (q_move rfl) <|
     sq rfl (q_move rfl) <|
     sq rfl (q_move rfl) <|
     sq rfl (q_quoi' rfl rfl (by omega)) <|
     sq rfl (q_cv_ib ty3 ty5 rfl) <|
     sq rfl (q_idx_row ty25 ty5 0 rfl rfl rfl (by omega)) <|
     sq_end) ?_
   clear hF hS; intro a w hF hS
   refine wpl_ef hF hS rfl (ef_st_row ty5 0 rfl rfl rfl (by omega) rfl) ?_
   clear hF hS; rintro _ _ _ a w ⟨rfl, rfl, rfl⟩ hF hS
   replace hS : St _ [] [_] _ := hS
   refine wpList_nil ?_
   refine hK7 _ _ ?_
   clear hK7
   refine wp_seq_k ?_; intro K10 hK10
   refine reg hF hS (sq rfl (q_move rfl) <|
     sq rfl (q_assign rfl) <|
     sq_end) ?_
   clear hF hS; intro a w hF hS
   refine hK10 _ _ ?_
   clear hK10
   refine wp_ret ?_
   rw [← List.map_set] at hS
   obtain ⟨zr, hzr, hS⟩ := St.freezeB hS (by rw [List.length_set]) (by omega)
   exact fn_ret (rs := [.tmp 6]) rfl hF hS (vs := [_]) ⟨rfl, trivial⟩ (zs' := [zr]) (hs' := []) (List.singleton_sublist.2 (by simp)) zQ ⟨_, zr, rfl, rfl, hzr, (by rw [List.length_set]; omega)⟩
  ·refine wp_seq_k ?_; intro K11 hK11
   refine reg hF hS (sq rfl (q_eqi rfl rfl) <|
     sq rfl (q_assign rfl) <|
     sq_end) ?_
   clear hF hS; intro a w hF hS
   refine hK11 _ _ ?_
   clear hK11
   refine wp_ifd hF rfl (fun hc3 => ?_) (fun hc3 => ?_)
   ·obtain ⟨z6, hz7, hS⟩ := St.freezeB hS (by first | rfl | (simp; done) | (simp; omega)) bQ
    replace hS : St _ [_] [] _ := hS
    refine wp_seq_k ?_; intro K12 hK12
    refine reg hF hS (sq rfl (q_move rfl) <|
      sq rfl (q_move rfl) <|
      sq rfl (q_slsl_hi ty25 ty5 hz7 rfl rfl (by omega)) <|
      sq rfl (q_assign rfl) <|
      sq_end) ?_
    clear hF hS; intro a w hF hS
    refine hK12 _ _ ?_
    clear hK12
    refine wp_ret ?_
    exact fn_ret (rs := [.tmp 6]) rfl hF hS (vs := [_]) ⟨rfl, trivial⟩ (zs' := [z6]) (hs' := []) (List.singleton_sublist.2 (by simp)) zQ ⟨_, z6, rfl, rfl, (Sl.cut hz7 (by omega)), (by simp; omega)⟩
   ·refine wp_seq_k ?_; intro K13 hK13
    refine reg hF hS (sq rfl (q_eqi rfl rfl) <|
      sq rfl (q_assign rfl) <|
      sq_end) ?_
    clear hF hS; intro a w hF hS
    refine hK13 _ _ ?_
    clear hK13
    refine wp_ifd hF rfl (fun hc4 => ?_) (fun hc4 => ?_)
    ·refine wp_seq_k ?_; intro K14 hK14
     refine regl ?_
     refine wpl_sq hF hS (sq rfl (q_move rfl) <|
       sq rfl (q_move rfl) <|
       sq rfl (q_cv_ib ty3 ty5 rfl) <|
       sq_end) ?_
     clear hF hS; intro a w hF hS
     refine wpl_ef hF hS rfl (ef_bsliceA ty25 ty5 rfl rfl oQ (by decide) rfl rfl) ?_
     clear hF hS; rintro v8 _ _ a w ⟨rfl, rfl⟩ hF hS
     replace hS : St _ [] [_, _] _ := hS
     refine wpl_ef hF hS rfl (ef_append ty25 ty5 1 rfl rfl rfl (src_row ty25 (k := 0) rfl oQ) bQ rfl (by decide)) ?_
     clear hF hS; rintro v10 _ _ a w ⟨rfl, rfl⟩ hF hS
     replace hS : St _ [] [_, _] _ := hS
     refine wpl_sq hF hS (sq rfl (q_assign rfl) <|
       sq_end) ?_
     clear hF hS; intro a w hF hS
     refine wpList_nil ?_
     refine hK14 _ _ ?_
     clear hK14
     refine wp_ret ?_
     replace hS := hS.perm (.swap _ _ _)
     rw [show xs.map vb ++ [vb (ofb by9)] = (xs ++ [ofb by9]).map vb by simp] at hS
     obtain ⟨zr, hzr, hS⟩ := St.freezeB hS (by simp) (by omega)
     exact fn_ret (rs := [.tmp 6]) rfl hF hS (vs := [_]) ⟨rfl, trivial⟩ (zs' := [zr]) (hs' := []) (List.singleton_sublist.2 (by simp)) zQ ⟨_, zr, rfl, rfl, hzr, (by simp)⟩
    ·refine regl ?_
     refine wpl_sq hF hS (sq rfl (q_move rfl) <|
       sq rfl (q_move rfl) <|
       sq rfl (q_cv_ib ty3 ty5 rfl) <|
       sq rfl (q_idx_row ty25 ty5 0 rfl rfl rfl (by omega)) <|
       sq_end) ?_
     clear hF hS; intro a w hF hS
     refine wpl_ef hF hS rfl (ef_st_row ty5 0 rfl rfl rfl (by omega) rfl) ?_
     clear hF hS; rintro _ _ _ a w ⟨rfl, rfl, rfl⟩ hF hS
     replace hS : St _ [] [_] _ := hS
     refine wpList_nil ?_
     refine hK7 _ _ ?_
     clear hK7
     refine wp_seq_k ?_; intro K15 hK15
     refine reg hF hS (sq rfl (q_move rfl) <|
       sq rfl (q_assign rfl) <|
       sq_end) ?_
     clear hF hS; intro a w hF hS
     refine hK15 _ _ ?_
     clear hK15
     refine wp_ret ?_
     rw [← List.map_set] at hS
     obtain ⟨zr, hzr, hS⟩ := St.freezeB hS (by rw [List.length_set]) (by omega)
     exact fn_ret (rs := [.tmp 6]) rfl hF hS (vs := [_]) ⟨rfl, trivial⟩ (zs' := [zr]) (hs' := []) (List.singleton_sublist.2 (by simp)) zQ ⟨_, zr, rfl, rfl, hzr, (by rw [List.length_set]; omega)⟩
end Go.Proofs.YtngcjojijaknnaaGreatDoor
