/- A text of a proof over this seat: walks over the program's functions and the plain laws that they need. -/
import Derived.Test.YtngcjojijaknnaaGreatDoorLl1
import Derived.Test.YtngcjojijaknnaaGreatDoorFwB
set_option linter.all false
namespace Go.Proofs.YtngcjojijaknnaaGreatDoor
open Go.Fw
theorem ty107 : Tf Tryz.prog 107 (.pointer 9) 1 8 (Value.pointer none) := ⟨Tryz.underlying107, by kernel_rfl⟩
theorem ty108 : Tf Tryz.prog 108 (.slice 107) 1 24 (Value.slice none 0 0) := ⟨Tryz.underlying108, by kernel_rfl⟩
theorem fn13 : FnOk Tryz.prog 13 := ⟨_, Tryz.func13, rfl, by kernel_rfl⟩
theorem fn56 : FnOk Tryz.prog 56 := ⟨_, Tryz.func56, rfl, by kernel_rfl⟩
theorem fn60 : FnOk Tryz.prog 60 := ⟨_, Tryz.func60, rfl, by kernel_rfl⟩
attribute [local irreducible] Wi.int Wi.bytes Wi.getInt Wi.getBytes

set_option maxRecDepth 4000 in
set_option maxHeartbeats 2000000 in
theorem enc_ct (f : Lg.Fct) (hf : Lg.FcOk f) (hs : f.ky.length ≤ 1048576 ∧ f.vl.length ≤ 1048576) (w : World) : Ct Tryz.prog 16 [.agg [vi f.tk, vs f.ky, vs f.vl].toArray] w (fun v zs hs => zs = [] ∧ hs = [.row v 5 1 (Lg.enc f).length ((Lg.enc f).map vb)]) := by
 refine fn_enter Tryz.func16 rfl Tryz.ntmps16 (Nat.le_of_ble_eq_true rfl) fun a hF hS => ?_
 have hf1 := hf.1
 have hil := Wi.int_len9 f.tk
 have hkl := Wi.bytes_len f.ky
 have hvl := Wi.bytes_len f.vl
 have hxl : ∀ x ∈ [Wi.int f.tk, Wi.bytes f.ky, Wi.bytes f.vl], x.length ≤ 1099511627776 := fun x hx => by
  simp only [List.mem_cons, List.not_mem_nil, or_false] at hx
  rcases hx with rfl | rfl | rfl <;> omega
 refine wp_seq_k ?_; intro K1 hK1
 refine regl ?_
 refine wpl_ef hF hS rfl (ef_boxA rfl) ?_
 clear hF hS; rintro _ _ _ a w ⟨b1, rfl, rfl, rfl⟩ hF hS
 refine wpl_sq hF hS (sq rfl (q_assign rfl) <|
   sq_end) ?_
 clear hF hS; intro a w hF hS
 refine wpList_nil ?_
 refine hK1 _ _ ?_
 clear hK1
 refine wp_seq_k ?_; intro K2 hK2
 revert hS; revert hF; apply regJ (J := J5 (α0 := Value) (α1 := Value) (α2 := Value) (α3 := Value) (α4 := Value) 14 _ _ _ _ _) #[false, false, false, false, false, false, false, false, false, false, false, false] 12 mixed rfl rfl
 ·intro w hF hS
  refine goW_take 0 _ rfl kQ rfl hF (hS.keep sQ zQ) (q_fieldAddr ty24 rfl rfl (s' := 0) kQ) ?_
  clear hF; intro a hF
  refine goW_take 1 _ rfl kQ rfl hF (hS.keep sQ sQ) (q_ld_blk1 ty3 0 rfl rfl rfl rfl) ?_
  clear hF; intro a hF
  refine goW_take 3 _ rfl kQ rfl hF (hS.keep sQ zQ) (q_fieldAddr ty24 rfl rfl (s' := 0) kQ) ?_
  clear hF; intro a hF
  refine goW_take 4 _ rfl kQ rfl hF (hS.keep sQ sQ) (q_ld_blk1 ty9 0 rfl rfl rfl rfl) ?_
  clear hF; intro a hF
  refine goW_take 6 _ rfl kQ rfl hF (hS.keep sQ zQ) (q_fieldAddr ty24 rfl rfl (s' := 0) kQ) ?_
  clear hF; intro a hF
  refine goW_take 7 _ rfl kQ rfl hF (hS.keep sQ sQ) (q_ld_blk1 ty9 0 rfl rfl rfl rfl) ?_
  clear hF; intro a hF
  refine gQ 2 rfl rfl hF hS rfl (ef_call fn57 rfl (fun w hS => wint_ct _ w )) ?_
  clear hF hS; rintro v_1_2 _ _ a w ⟨_, _, rfl, rfl, rfl, rfl⟩ hF hS
  refine ⟨⟨.inr (hS.k1 (sQ.n)), .inr hS.k0, .inr (hS.k1 (sQ.n)), .inr hS.k0, iQ, iQ, trivial⟩, ?_⟩
  refine gQ 5 rfl rfl hF hS rfl (ef_call fn58 rfl (fun w hS => wbytes_ct _ (by first | assumption | omega) w )) ?_
  clear hF hS; rintro v_1_5 _ _ a w ⟨_, _, rfl, rfl, rfl, rfl⟩ hF hS
  refine ⟨⟨.inr (hS.k1 (sQ.n.n)), .inr hS.k0, iQ, iQ, iQ, iQ, trivial⟩, ?_⟩
  refine gQ 8 rfl rfl hF hS rfl (ef_call fn58 rfl (fun w hS => wbytes_ct _ (by first | assumption | omega) w )) ?_
  clear hF hS; rintro v_1_8 _ _ a w ⟨_, _, rfl, rfl, rfl, rfl⟩ hF hS
  refine ⟨⟨iQ, iQ, iQ, iQ, iQ, iQ, trivial⟩, ?_⟩
  refine goW_fork [9] kQ rfl ⟨?_, trivial⟩
  have hoc_1_9 := (oc_cons (row_one (hS.own _ (List.mem_of_getElem? (i := 2) rfl)).1) (oc_cons (row_one (hS.own _ (List.mem_of_getElem? (i := 1) rfl)).1) (oc_cons (row_one (hS.own _ (List.mem_of_getElem? (i := 0) rfl)).1) oc_nil)))
  refine stepW_ef _ rfl rfl hF hS rfl (ef_bsliceA ty29 ty25 rfl rfl (oc_cons (row_one (hS.own _ (List.mem_of_getElem? (i := 2) rfl)).1) (oc_cons (row_one (hS.own _ (List.mem_of_getElem? (i := 1) rfl)).1) (oc_cons (row_one (hS.own _ (List.mem_of_getElem? (i := 0) rfl)).1) oc_nil))) (by decide) rfl rfl) ?_
  clear hF hS; rintro v_1_9 _ _ a w ⟨rfl, rfl⟩ hF hS
  refine ⟨⟨iQ, iQ, iQ, iQ, iQ, iQ, trivial⟩, ?_⟩
  refine gQ 10 rfl rfl hF hS rfl (ef_call fn56 rfl (fun w hS => concatB_ct _ [Wi.int f.tk, Wi.bytes f.ky, Wi.bytes f.vl] (by simp) hxl w (own_slsl3 (hS.own _ (List.mem_of_getElem? (i := 0) rfl)).1 (own_slV (hS.own _ (List.mem_of_getElem? (i := 3) rfl)).1 (fun _ _ => trivial) rfl (by omega)) (own_slV (hS.own _ (List.mem_of_getElem? (i := 2) rfl)).1 (fun _ _ => trivial) rfl (by omega)) (own_slV (hS.own _ (List.mem_of_getElem? (i := 1) rfl)).1 (fun _ _ => trivial) rfl (by omega))))) ?_
  clear hF hS; rintro v_1_10 _ _ a w ⟨_, _, rfl, rfl, rfl, rfl⟩ hF hS
  refine ⟨⟨iQ, iQ, iQ, iQ, iQ, iQ, trivial⟩, ?_⟩
  refine goW_take 11 _ rfl kQ rfl hF (hS.keep sQ zQ) (q_assign rfl) ?_
  clear hF; intro a hF
  exact goW_done kQ (j5_mk v_1_2 v_1_5 v_1_8 v_1_9 v_1_10 (trivial) (hF.sub (L' := [(2, _)]) ⟨rfl, trivial⟩) hS)
 rintro a w ⟨v_1_2, v_1_5, v_1_8, v_1_9, v_1_10, -, hF, hS⟩
 (try dsimp only at hF); (try dsimp only at hS)
 refine hK2 _ _ ?_
 clear hK2
 refine wp_ret ?_
 rw [Lg.enc_cat] at hS
 exact fn_ret (rs := [.tmp 2]) rfl hF hS (vs := [_]) ⟨rfl, trivial⟩ zQ ((zQ.k)) ⟨rfl, rfl⟩

set_option maxRecDepth 4000 in
set_option maxHeartbeats 2000000 in
theorem dec_ct (v : Value) (xs : List UInt8) (w : World) (hb : Sl encB (ph w) v xs) : Ct Tryz.prog 18 [v] w (fun r _ _ => r = .tuple [.agg [vi (Lg.dec xs).1.tk, vs (Lg.dec xs).1.ky, vs (Lg.dec xs).1.vl].toArray, vi (Lg.dec xs).2].toArray) := by
 refine fn_enter Tryz.func18 rfl Tryz.ntmps18 (Nat.le_of_ble_eq_true rfl) fun a hF hS => ?_
 have hbl := hb.1
 have hgb := Wi.getInt_bd xs
 have hok := Lg.dx_ok hbl
 refine wp_seq_k ?_; intro K1 hK1
 refine regl ?_
 refine wpl_ef hF hS rfl (ef_allocA ty24) ?_
 clear hF hS; rintro _ _ _ a w ⟨b1, rfl, rfl, rfl⟩ hF hS
 refine wpl_sq hF hS (sq rfl (q_assign rfl) <|
   sq_end) ?_
 clear hF hS; intro a w hF hS
 refine wpList_nil ?_
 refine hK1 _ _ ?_
 clear hK1
 refine wp_seq_k ?_; intro K2 hK2
 refine reg hF hS (sq rfl (q_move rfl) <|
   sq rfl (q_call fn59 rfl (fun w hS => wgi_ct _ _ w (Sl.mono (hS.le zin0) hb)) (fun _ _ _ h => h)) <|
   sq rfl (q_move rfl) <|
   sq rfl (q_extract rfl rfl) <|
   sq rfl (q_extract rfl rfl) <|
   sq rfl (q_extract rfl rfl) <|
   sq rfl (q_assign rfl) <|
   sq rfl (q_assign rfl) <|
   sq rfl (q_assign rfl) <|
   sq_end) ?_
 clear hF hS; intro a w hF hS
 refine hK2 _ _ ?_
 clear hK2
 refine wp_seq_k ?_; intro K3 hK3
 refine wp_seq_k ?_; intro K4 hK4
 refine reg hF hS (sq rfl (q_move rfl) <|
   sq rfl (q_nei rfl rfl) <|
   sq_end) ?_
 clear hF hS; intro a w hF hS
 refine hK4 _ _ ?_
 clear hK4
 refine wp_ifn hF rfl (fun hc1 => ?_) (fun hc1 => ?_)
 ·refine wp_seq_k ?_; intro K5 hK5
  refine regl ?_
  refine wpl_sq hF hS (sq rfl (q_buildP (places := [(0, 1), (1, 1), (2, 1)]) (cells := [.int .i64 0, .string ⟨(List.nil : List UInt8).toArray⟩, .string ⟨(List.nil : List UInt8).toArray⟩]) ty24 kQ rfl (by rfl)) <|
    sq rfl (q_move rfl) <|
    sq_end) ?_
  clear hF hS; intro a w hF hS
  refine wpl_ef hF hS rfl (ef_storeW ty24 0 rfl rfl rfl rfl bQ (oc_cons rfl (oc_cons rfl (oc_cons rfl oc_nil))) bQ) ?_
  clear hF hS; rintro _ _ _ a w ⟨rfl, rfl, rfl⟩ hF hS
  replace hS : St _ [] [_] _ := hS
  refine wpl_sq hF hS (sq rfl (q_assign rfl) <|
    sq_end) ?_
  clear hF hS; intro a w hF hS
  refine wpList_nil ?_
  refine hK5 _ _ ?_
  clear hK5
  refine wp_ret ?_
  exact fn_ret (rs := [.cell 2 24, .tmp 3]) rfl hF hS (vs := [_, _]) ⟨⟨_, _, _, _, _, _, _, rfl, List.mem_of_getElem? (i := 0) rfl, ty24, .inl ⟨rfl, bQ, rfl⟩⟩, rfl, trivial⟩ zQ zQ (by rw [Lg.dec_1 hc1]; rfl)
 ·refine wp_skip ?_
  refine hK3 _ _ ?_
  clear hK3
  refine wp_seq_k ?_; intro K6 hK6
  refine regl ?_
  refine wpl_sq hF hS (sq rfl (q_move rfl) <|
    sq rfl (q_build1 ty24 3 kQ rfl rfl rfl (by decide)) <|
    sq_end) ?_
  clear hF hS; intro a w hF hS
  refine wpl_ef hF hS rfl (ef_allocA ty24) ?_
  clear hF hS; rintro _ _ _ a w ⟨b2, rfl, rfl, rfl⟩ hF hS
  refine wpl_ef hF hS rfl (ef_storeW ty24 0 rfl rfl rfl rfl bQ (oc_cons rfl (oc_cons rfl (oc_cons rfl oc_nil))) bQ) ?_
  clear hF hS; rintro _ _ _ a w ⟨rfl, rfl, rfl⟩ hF hS
  replace hS : St _ [] [_, _] _ := hS
  refine wpList_nil ?_
  refine hK6 _ _ ?_
  clear hK6
  refine wp_seq_k ?_; intro K7 hK7
  refine wp_seq_k ?_; intro K8 hK8
  refine regl ?_
  refine wpl_sq hF hS (sq rfl (q_fieldAddr ty24 rfl rfl (s' := 0) kQ) <|
    sq rfl (q_fieldAddr ty24 rfl rfl (s' := 0) kQ) <|
    sq_end) ?_
  clear hF hS; intro a w hF hS
  refine wpl_ef hF hS rfl (ef_bsliceA ty108 ty107 rfl rfl oQ (by decide) rfl rfl) ?_
  clear hF hS; rintro v3 _ _ a w ⟨rfl, rfl⟩ hF hS
  replace hS : St _ [] [_, _, _] _ := hS
  refine wpl_sq hF hS (sq rfl (q_len_row ty108 0 rfl rfl) <|
    sq rfl (q_move rfl) <|
    sq_end) ?_
  clear hF hS; intro a w hF hS
  refine wpList_nil ?_
  refine hK8 _ _ ?_
  clear hK8
  refine wp_block ?_
  obtain ⟨hs0, hhs0, hS⟩ : ∃ h, h = _ ∧ St _ _ h _ := ⟨_, rfl, hS⟩
  refine wp_loopx (γ := Nat) (0) (fun (k : Nat) => [(5, vi (Lg.at_ xs k)), (29, vi (k : Int))]) [(0, _), (2, _), (7, _), (27, _), (28, _)] (fun (k : Nat) => (hs0.set 1 (.blk b2 24 [vi (Lg.fk xs k).tk, vs (Lg.fk xs k).ky, vs (Lg.fk xs k).vl]))) (fun (k : Nat) => k ≤ 2 ∧ (0 < k → (Lg.d1 xs).2.2 = 0) ∧ (1 < k → (Lg.d2 xs).2.2 = 0)) (fun (k : Nat) => 2 - k) (hF.sub ⟨rfl, rfl, rfl, rfl, rfl, rfl, rfl, trivial⟩) (by subst hhs0; exact hS) (by exact ⟨Nat.zero_le _, fun h => absurd h (by omega), fun h => absurd h (by omega)⟩) ?_
  clear hF hS; rintro k a w hfact hF hS
  subst hhs0; (try dsimp only at hfact); (try dsimp only at hF); (try dsimp only at hS)
  obtain ⟨hk0, hd1, hd2⟩ := hfact
  replace hS : St _ [] [_, _, _] _ := hS
  have hab := Lg.at_bd hd1 hd2
  refine wp_seq_k ?_; intro K9 hK9
  refine reg hF hS (sq rfl (q_lti rfl rfl) <|
    sq_end) ?_
  clear hF hS; intro a w hF hS
  refine hK9 _ _ ?_
  clear hK9
  refine wp_seq_k ?_; intro K10 hK10
  refine wp_ifd hF rfl (fun hc2 => ?_) (fun hc2 => ?_)
  ·refine wp_skip ?_
   refine hK10 _ _ ?_
   clear hK10
   refine wp_seq_k ?_; intro K11 hK11
   refine wp_block ?_
   refine wp_seq_k ?_; intro K12 hK12
   rcases (show k = 0 ∨ k = 1 by omega) with rfl | rfl
   ·skip
    refine reg hF hS (sq rfl (q_idx_row ty108 ty107 0 rfl rfl rfl (by omega)) <|
      sq rfl (q_ld_row ty107 0 rfl rfl rfl rfl) <|
      sq rfl (q_assign rfl) <|
      sq_end) ?_
    clear hF hS; intro a w hF hS
    refine hK12 _ _ ?_
    clear hK12
    refine wp_seq_k ?_; intro K13 hK13
    refine reg hF hS (sq rfl (q_move rfl) <|
      sq rfl (q_move rfl) <|
      sq rfl (q_slsl_lo ty25 ty5 hb rfl rfl (by omega)) <|
      sq rfl (q_call fn60 rfl (fun w hS => wgb_ct _ _ w (Sl.mono (hS.le zin0) (Sl.cut hb (by omega)))) (fun _ _ _ h => h)) <|
      sq rfl (q_move rfl) <|
      sq rfl (q_extract rfl rfl) <|
      sq rfl (q_extract rfl rfl) <|
      sq rfl (q_extract rfl rfl) <|
      sq rfl (q_assign rfl) <|
      sq rfl (q_assign rfl) <|
      sq rfl (q_assign rfl) <|
      sq_end) ?_
    clear hF hS; intro a w hF hS
    rw [List.take_length] at hF
    refine hK13 _ _ ?_
    clear hK13
    refine wp_seq_k ?_; intro K14 hK14
    refine wp_seq_k ?_; intro K15 hK15
    refine reg hF hS (sq rfl (q_move rfl) <|
      sq rfl (q_nei rfl rfl) <|
      sq_end) ?_
    clear hF hS; intro a w hF hS
    refine hK15 _ _ ?_
    clear hK15
    refine wp_ifn hF rfl (fun hc3 => ?_) (fun hc3 => ?_)
    ·refine wp_seq_k ?_; intro K16 hK16
     refine regl ?_
     refine wpl_sq hF hS (sq rfl (q_buildP (places := [(0, 1), (1, 1), (2, 1)]) (cells := [.int .i64 0, .string ⟨(List.nil : List UInt8).toArray⟩, .string ⟨(List.nil : List UInt8).toArray⟩]) ty24 kQ rfl (by rfl)) <|
       sq rfl (q_move rfl) <|
       sq_end) ?_
     clear hF hS; intro a w hF hS
     refine wpl_ef hF hS rfl (ef_storeW ty24 2 rfl rfl rfl rfl bQ (oc_cons rfl (oc_cons rfl (oc_cons rfl oc_nil))) bQ) ?_
     clear hF hS; rintro _ _ _ a w ⟨rfl, rfl, rfl⟩ hF hS
     replace hS : St _ [] [_, _, _] _ := hS
     refine wpl_sq hF hS (sq rfl (q_assign rfl) <|
       sq_end) ?_
     clear hF hS; intro a w hF hS
     refine wpList_nil ?_
     refine hK16 _ _ ?_
     clear hK16
     refine wp_ret ?_
     exact fn_ret (rs := [.cell 2 24, .tmp 3]) rfl hF hS (vs := [_, _]) ⟨⟨_, _, _, _, _, _, _, rfl, List.mem_of_getElem? (i := 2) rfl, ty24, .inl ⟨rfl, bQ, rfl⟩⟩, rfl, trivial⟩ zQ zQ (by rw [Lg.dec_2 (by omega) hc3]; rfl)
    ·have hp1 := Lg.at_n0 (b := xs) hc3
     refine wp_skip ?_
     refine hK14 _ _ ?_
     clear hK14
     refine regl ?_
     refine wpl_sq hF hS (sq rfl (q_move rfl) <|
       sq rfl (q_move rfl) <|
       sq rfl (q_move rfl) <|
       sq rfl (q_move rfl) <|
       sq rfl (q_addi rfl rfl (by omega)) <|
       sq rfl (q_nilCheck rfl) <|
       sq_end) ?_
     clear hF hS; intro a w hF hS
     refine wpl_ef hF hS rfl (ef_store1 ty9 1 rfl rfl rfl rfl (by simp)) ?_
     clear hF hS; rintro _ _ _ a w ⟨rfl, rfl, rfl⟩ hF hS
     replace hS : St _ [] [_, .blk _ _ ([_, _, _].set 1 _), _] _ := hS
     simp only [List.set_cons_zero, List.set_cons_succ] at hS
     replace hS : St _ [] [_, _, _] _ := hS
     refine wpl_sq hF hS (sq rfl (q_assign rfl) <|
       sq_end) ?_
     clear hF hS; intro a w hF hS
     refine wpList_nil ?_
     refine hK11 _ _ ?_
     clear hK11
     refine reg hF hS (sq rfl (q_addi rfl rfl (by omega)) <|
       sq rfl (q_move rfl) <|
       sq_end) ?_
     clear hF hS; intro a w hF hS
     refine ⟨(1), ?_, ?_, hF.sub ⟨rfl, rfl, rfl, rfl, rfl, rfl, rfl, trivial⟩, ?_⟩
     ·(try dsimp only); omega
     ·first | exact ⟨by omega, fun _ => hc3, fun h => absurd h (by omega)⟩ | exact ⟨by omega, fun _ => hd1 (by omega), fun _ => hc4⟩
     ·exact hS
   ·skip
    refine reg hF hS (sq rfl (q_idx_row ty108 ty107 0 rfl rfl rfl (by omega)) <|
      sq rfl (q_ld_row ty107 0 rfl rfl rfl rfl) <|
      sq rfl (q_assign rfl) <|
      sq_end) ?_
    clear hF hS; intro a w hF hS
    refine hK12 _ _ ?_
    clear hK12
    refine wp_seq_k ?_; intro K17 hK17
    refine reg hF hS (sq rfl (q_move rfl) <|
      sq rfl (q_move rfl) <|
      sq rfl (q_slsl_lo ty25 ty5 hb rfl rfl (by omega)) <|
      sq rfl (q_call fn60 rfl (fun w hS => wgb_ct _ _ w (Sl.mono (hS.le zin0) (Sl.cut hb (by omega)))) (fun _ _ _ h => h)) <|
      sq rfl (q_move rfl) <|
      sq rfl (q_extract rfl rfl) <|
      sq rfl (q_extract rfl rfl) <|
      sq rfl (q_extract rfl rfl) <|
      sq rfl (q_assign rfl) <|
      sq rfl (q_assign rfl) <|
      sq rfl (q_assign rfl) <|
      sq_end) ?_
    clear hF hS; intro a w hF hS
    rw [List.take_length] at hF
    refine hK17 _ _ ?_
    clear hK17
    refine wp_seq_k ?_; intro K18 hK18
    refine wp_seq_k ?_; intro K19 hK19
    refine reg hF hS (sq rfl (q_move rfl) <|
      sq rfl (q_nei rfl rfl) <|
      sq_end) ?_
    clear hF hS; intro a w hF hS
    refine hK19 _ _ ?_
    clear hK19
    refine wp_ifn hF rfl (fun hc4 => ?_) (fun hc4 => ?_)
    ·refine wp_seq_k ?_; intro K20 hK20
     refine regl ?_
     refine wpl_sq hF hS (sq rfl (q_buildP (places := [(0, 1), (1, 1), (2, 1)]) (cells := [.int .i64 0, .string ⟨(List.nil : List UInt8).toArray⟩, .string ⟨(List.nil : List UInt8).toArray⟩]) ty24 kQ rfl (by rfl)) <|
       sq rfl (q_move rfl) <|
       sq_end) ?_
     clear hF hS; intro a w hF hS
     refine wpl_ef hF hS rfl (ef_storeW ty24 2 rfl rfl rfl rfl bQ (oc_cons rfl (oc_cons rfl (oc_cons rfl oc_nil))) bQ) ?_
     clear hF hS; rintro _ _ _ a w ⟨rfl, rfl, rfl⟩ hF hS
     replace hS : St _ [] [_, _, _] _ := hS
     refine wpl_sq hF hS (sq rfl (q_assign rfl) <|
       sq_end) ?_
     clear hF hS; intro a w hF hS
     refine wpList_nil ?_
     refine hK20 _ _ ?_
     clear hK20
     refine wp_ret ?_
     exact fn_ret (rs := [.cell 2 24, .tmp 3]) rfl hF hS (vs := [_, _]) ⟨⟨_, _, _, _, _, _, _, rfl, List.mem_of_getElem? (i := 2) rfl, ty24, .inl ⟨rfl, bQ, rfl⟩⟩, rfl, trivial⟩ zQ zQ (by rw [Lg.dec_3 (by omega) (hd1 (by omega)) hc4]; rfl)
    ·have hp2 := Lg.at_n1 (b := xs) (hd1 (by omega)) hc4
     refine wp_skip ?_
     refine hK18 _ _ ?_
     clear hK18
     refine regl ?_
     refine wpl_sq hF hS (sq rfl (q_move rfl) <|
       sq rfl (q_move rfl) <|
       sq rfl (q_move rfl) <|
       sq rfl (q_move rfl) <|
       sq rfl (q_addi rfl rfl (by omega)) <|
       sq rfl (q_nilCheck rfl) <|
       sq_end) ?_
     clear hF hS; intro a w hF hS
     refine wpl_ef hF hS rfl (ef_store1 ty9 1 rfl rfl rfl rfl (by simp)) ?_
     clear hF hS; rintro _ _ _ a w ⟨rfl, rfl, rfl⟩ hF hS
     replace hS : St _ [] [_, .blk _ _ ([_, _, _].set 2 _), _] _ := hS
     simp only [List.set_cons_zero, List.set_cons_succ] at hS
     replace hS : St _ [] [_, _, _] _ := hS
     refine wpl_sq hF hS (sq rfl (q_assign rfl) <|
       sq_end) ?_
     clear hF hS; intro a w hF hS
     refine wpList_nil ?_
     refine hK11 _ _ ?_
     clear hK11
     refine reg hF hS (sq rfl (q_addi rfl rfl (by omega)) <|
       sq rfl (q_move rfl) <|
       sq_end) ?_
     clear hF hS; intro a w hF hS
     refine ⟨(2), ?_, ?_, hF.sub ⟨rfl, rfl, rfl, rfl, rfl, rfl, rfl, trivial⟩, ?_⟩
     ·(try dsimp only); omega
     ·first | exact ⟨by omega, fun _ => hc3, fun h => absurd h (by omega)⟩ | exact ⟨by omega, fun _ => hd1 (by omega), fun _ => hc4⟩
     ·exact hS
  ·obtain rfl : k = 2 := by omega
   have hab2 : Lg.at_ xs 2 = (Wi.getInt xs).2.1 + (Lg.d1 xs).2.1 + (Lg.d2 xs).2.1 := rfl
   refine wp_exit ?_
   refine hK7 _ _ ?_
   clear hK7
   refine wp_seq_k ?_; intro K21 hK21
   refine wp_seq_k ?_; intro K22 hK22
   refine regl ?_
   refine wpl_sq hF hS (sq rfl (q_move rfl) <|
     sq rfl (q_move rfl) <|
     sq rfl (q_len_sl ty25 hb rfl) <|
     sq rfl (q_nei rfl rfl) <|
     sq rfl (q_move rfl) <|
     sq_end) ?_
   clear hF hS; intro a w hF hS
   refine wpl_or 4 56 3 hF hS rfl rfl rfl rfl rfl (fun hg => have hg := (nd_false hg); sq_go 56 rfl rfl rfl (q_ld_blkW ty24 1 rfl rfl bQ rfl) <|
     sq_go 56 rfl rfl rfl (q_call fn13 rfl (fun w hS => fval_ct (Lg.fk xs 2) hok w ) (fun _ _ _ h => h)) <|
     sq_go 56 rfl rfl rfl (q_nei rfl rfl) <|
     sq_end) rfl rfl ?_
   clear hF hS; intro a w hF hS
   refine wpList_nil ?_
   refine hK22 _ _ ?_
   clear hK22
   refine wp_if hF rfl (fun hc5 => ?_) (fun hc5 => ?_)
   ·(try simp only [Bool.or_eq_true, Bool.and_eq_true, Bool.or_eq_false_iff, Bool.and_eq_false_iff, decide_eq_true_eq, decide_eq_false_iff_not, Bool.not_eq_true', Bool.not_eq_false'] at hc5)
    refine wp_seq_k ?_; intro K23 hK23
    refine regl ?_
    refine wpl_sq hF hS (sq rfl (q_buildP (places := [(0, 1), (1, 1), (2, 1)]) (cells := [.int .i64 0, .string ⟨(List.nil : List UInt8).toArray⟩, .string ⟨(List.nil : List UInt8).toArray⟩]) ty24 kQ rfl (by rfl)) <|
      sq_end) ?_
    clear hF hS; intro a w hF hS
    refine wpl_ef hF hS rfl (ef_storeW ty24 2 rfl rfl rfl rfl bQ (oc_cons rfl (oc_cons rfl (oc_cons rfl oc_nil))) bQ) ?_
    clear hF hS; rintro _ _ _ a w ⟨rfl, rfl, rfl⟩ hF hS
    replace hS : St _ [] [_, _, _] _ := hS
    refine wpl_sq hF hS (sq rfl (q_assign rfl) <|
      sq_end) ?_
    clear hF hS; intro a w hF hS
    refine wpList_nil ?_
    refine hK23 _ _ ?_
    clear hK23
    refine wp_ret ?_
    exact fn_ret (rs := [.cell 2 24, .tmp 3]) rfl hF hS (vs := [_, _]) ⟨⟨_, _, _, _, _, _, _, rfl, List.mem_of_getElem? (i := 2) rfl, ty24, .inl ⟨rfl, bQ, rfl⟩⟩, rfl, trivial⟩ zQ zQ (by rw [Lg.dec_4 (by omega) (hd1 (by omega)) (hd2 (by omega)) (by rcases hc5 with h | h; exact .inl (by omega); exact .inr h)]; rfl)
   ·(try simp only [Bool.or_eq_true, Bool.and_eq_true, Bool.or_eq_false_iff, Bool.and_eq_false_iff, decide_eq_true_eq, decide_eq_false_iff_not, Bool.not_eq_true', Bool.not_eq_false'] at hc5)
    refine wp_skip ?_
    refine hK21 _ _ ?_
    clear hK21
    refine wp_seq_k ?_; intro K24 hK24
    refine regl ?_
    refine wpl_sq hF hS (sq rfl (q_ld_blkW ty24 1 rfl rfl bQ rfl) <|
      sq_end) ?_
    clear hF hS; intro a w hF hS
    refine wpl_ef hF hS rfl (ef_storeW ty24 2 rfl rfl rfl rfl bQ (oc_cons rfl (oc_cons rfl (oc_cons rfl oc_nil))) bQ) ?_
    clear hF hS; rintro _ _ _ a w ⟨rfl, rfl, rfl⟩ hF hS
    replace hS : St _ [] [_, _, _] _ := hS
    refine wpl_sq hF hS (sq rfl (q_assign rfl) <|
      sq_end) ?_
    clear hF hS; intro a w hF hS
    refine wpList_nil ?_
    refine hK24 _ _ ?_
    clear hK24
    refine wp_ret ?_
    exact fn_ret (rs := [.cell 2 24, .tmp 3]) rfl hF hS (vs := [_, _]) ⟨⟨_, _, _, _, _, _, _, rfl, List.mem_of_getElem? (i := 2) rfl, ty24, .inl ⟨rfl, bQ, rfl⟩⟩, rfl, trivial⟩ zQ zQ (by rw [Lg.dec_5 (by omega) (hd1 (by omega)) (hd2 (by omega)) (fun h => by rcases h with h | h; exact h hc5.1; exact h hc5.2)]; rfl)
end Go.Proofs.YtngcjojijaknnaaGreatDoor
