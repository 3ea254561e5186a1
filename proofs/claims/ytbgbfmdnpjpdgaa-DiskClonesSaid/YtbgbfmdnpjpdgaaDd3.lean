/- A text of a proof over this seat: walks over the program's functions and the plain laws that they need. -/
import Derived.Test.YtbgbfmdnpjpdgaaDd2
import Derived.Test.YtbgbfmdnpjpdgaaFwB
set_option linter.all false
namespace Go.Proofs.Ytbgbfmdnpjpdgaa
open Go.Fw
theorem ty69 : Tf Try.prog 69 (.map 3 4) 1 8 (Value.map none) := ⟨Try.underlying69, by kernel_rfl⟩

set_option maxRecDepth 4000 in
set_option maxHeartbeats 2000000 in
theorem dsettle_ct (h : Dk.Hd) (S : Dk.Dsk) (i p : Int) (hi : 0 ≤ i ∧ i < S.s.length) (hd : (S.at i).dt = true) (hp : -9223372036854775808 ≤ p ∧ p ≤ 9223372036854775807) (w0 : World) (zsr : List PH) {r1 r2 r3 r4 : Res} (hD : DD h S r1 r2 r3 r4) : Cx Try.prog 51 [.pointer (some ⟨h.b, 0, none⟩), vi i, vi p] w0 zsr [r1, r2, r3, r4] (DDR h (S.put i (Dk.settle1 (S.at i) p)) (.tuple ([] : List Value).toArray)) := by
 refine fn_enterx Try.func51 rfl Try.ntmps51 (Nat.le_of_ble_eq_true rfl) fun hsr a w hF hS => ?_
 replace hS : St _ (_) (_ :: _ :: _ :: _ :: _) _ := hS
 obtain ⟨l, e1, c1, m1, e2, c2, m2, hO, hl, hlr, hM1, hM2, hP, hW, rfl, rfl, rfl, rfl⟩ := hD
 have hlo := hO.lo
 have hhi := hO.hi
 have hlf := hO.lf
 have hlg := hO.lf2
 have hbl := Dk.bl_len S
 have hbs := Dk.bl_64 hO
 replace hS : St _ (_) (_ :: _ :: _ :: _ :: _) _ := hS
 have hpg := Dk.pget_len hO hi
 have hbg : ((Dk.bl S).getD i.toNat []).length = 64 := by rw [Dk.bl_at hi]; exact (hO.at hi).1
 refine wp_seq_k ?_; intro K1 hK1
 refine regl ?_
 refine wpl_sq hF hS (sq rfl (q_move rfl) <|
   sq rfl (q_nilCheck rfl) <|
   sq rfl (q_fieldAddr ty71 rfl rfl (s' := 0) kQ) <|
   sq rfl (q_ld_blk1 ty68 0 rfl rfl rfl rfl) <|
   sq rfl (q_move rfl) <|
   sq rfl (q_lookupD ty68 ty74 (key_I ty3) 2 rfl rfl rfl hM1.1 (fun _ _ => trivial) trivial (Dk.pend_get hP hi)) <|
   sq_end) ?_
 clear hF hS; intro a w hF hS
 refine wpl_ef hF hS rfl (ef_allocA ty74) ?_
 clear hF hS; rintro _ _ _ a w ⟨b1, rfl, rfl, rfl⟩ hF hS
 rw [show List.replicate 64 (Value.int .u8 0) = (List.replicate 64 (0 : UInt8)).map vb from by rw [List.map_replicate] <;> rfl] at hS
 refine wpl_ef hF hS rfl (ef_storeW ty74 0 rfl rfl rfl rfl bQ oQ bQ) ?_
 clear hF hS; rintro _ _ _ a w ⟨rfl, rfl, rfl⟩ hF hS
 replace hS : St _ (_) (_ :: _ :: _ :: _ :: _ :: _) _ := hS
 refine wpList_nil ?_
 refine hK1 _ _ ?_
 clear hK1
 refine wp_seq_k ?_; intro K2 hK2
 refine regl ?_
 refine wpl_sq hF hS (sq rfl (q_move rfl) <|
   sq rfl (q_nilCheck rfl) <|
   sq rfl (q_fieldAddr ty71 rfl rfl (s' := 0) kQ) <|
   sq rfl (q_ld_blk1 ty68 1 rfl rfl rfl rfl) <|
   sq rfl (q_move rfl) <|
   sq_end) ?_
 clear hF hS; intro a w hF hS
 refine wpl_ef hF hS rfl (ef_mapdelT ty68 (key_I ty3) 3 rfl rfl rfl hM1 (fun _ _ => trivial) trivial) ?_
 clear hF hS; rintro _ _ _ a w ⟨es9, c9, hM9, rfl, rfl⟩ hF hS
 replace hS : St _ (_) (_ :: _ :: _ :: _ :: _ :: _) _ := hS
 refine wpList_nil ?_
 refine hK2 _ _ ?_
 clear hK2
 refine wp_seq_k ?_; intro K3 hK3
 refine regq mixed kQ hS ?_
 refine wpq_seg hF (sq rfl (q_move rfl) <|
   sq rfl (q_nilCheck rfl) <|
   sq rfl (q_fieldAddr ty71 rfl rfl (s' := 0) kQ) <|
   sq rfl (q_ld_blk1 ty69 1 rfl rfl rfl rfl) <|
   sq rfl (q_move rfl) <|
   sq rfl (q_lookupD ty69 ty4 (key_I ty3) 4 rfl rfl rfl hM2.1 (fun _ _ => trivial) trivial (Dk.wrn_get hW hi)) <|
   sq rfl (q_not rfl) <|
   sq rfl (q_move rfl) <|
   sq_end) ?_
 clear hF; intro a hF
 refine wpq_and 7 25 9 hF rfl rfl rfl rfl rfl (fun hg => have hg := hg; sq_go 25 rfl rfl rfl (q_ld_blkW ty74 0 rfl rfl bQ rfl) <|
   sq_go 25 rfl rfl rfl (q_move rfl) <|
   sq_go 25 rfl rfl rfl (q_nilCheck rfl) <|
   sq_go 25 rfl rfl rfl (q_fieldAddr ty71 rfl rfl (s' := 0) kQ) <|
   sq_go 25 rfl rfl rfl (q_ld_blk1 ty67 1 rfl rfl rfl rfl) <|
   sq_go 25 rfl rfl rfl (q_move rfl) <|
   sq_go 25 rfl rfl rfl (q_idx_row ty67 ty74 2 rfl rfl rfl (by omega)) <|
   sq_go 25 rfl rfl rfl (q_ld_rowA ty74 2 rfl (Dk.bl_64 hO) rfl (by omega) (by decide) rfl) <|
   sq_go 25 rfl rfl rfl (q_neAB ty74 ty5 kQ rfl rfl bQ bQ) <|
   sq_end) rfl rfl ?_
 clear hF; intro a hF
 refine wpq_nil ?_
 clear hS; intro w hS
 refine hK3 _ _ ?_
 clear hK3
 refine wp_if hF rfl (fun hc1 => ?_) (fun hc1 => ?_)
 ·(try simp only [Bool.or_eq_true, Bool.and_eq_true, Bool.or_eq_false_iff, Bool.and_eq_false_iff, decide_eq_true_eq, decide_eq_false_iff_not, Bool.not_eq_true', Bool.not_eq_false'] at hc1)
  refine regt 11 mixed kQ hF hS (sq rfl (q_move rfl) <|
    sq rfl (q_nilCheck rfl) <|
    sq rfl (q_fieldAddr ty71 rfl rfl (s' := 0) kQ) <|
    sq rfl (q_ld_blk1 ty67 1 rfl rfl rfl rfl) <|
    sq rfl (q_move rfl) <|
    sq rfl (q_idx_row ty67 ty74 2 rfl rfl rfl (by omega)) <|
    sq rfl (q_move rfl) <|
    sq rfl (q_min rfl rfl) <|
    sq rfl (q_max rfl rfl) <|
    sq rfl (q_slE_hi ty74 ty5 2 rfl rfl rfl (by omega) (by omega)) <|
    sq rfl (q_sla ty74 ty5 rfl) <|
    sq_end) ?_
  clear hF hS; intro a w hF hS
  refine wpl_ef hF hS rfl (ef_copy_rowSl ty72 ty5 2 0 rfl rfl hbs hbl.symm rfl rfl (by omega) (by omega) hpg) ?_
  clear hF hS; rintro _ _ _ a w ⟨rfl, rfl, rfl⟩ hF hS
  replace hS : St _ (_) (_ :: _ :: _ :: _ :: _ :: _) _ := hS
  refine wpList_nil ?_
  -- falls off the end
  replace hS := hS.perm (.swap _ _ _)
  replace hS := hS.perm (.cons _ (.swap _ _ _))
  replace hS := hS.perm (.cons _ (.cons _ (.swap _ _ _)))
  replace hS := hS.perm (.cons _ (.cons _ (.cons _ (.swap _ _ _))))
  exact fn_retx (rs := []) rfl hF hS (vs := []) trivial [] [_, _, _, _] sQ (sQ.n.k.k.k.k) (Dk.dr_of (S := S.put i (Dk.settle1 (S.at i) p)) ⟨rfl, rfl, _, _, _, _, rfl, ⟨l, _, _, _, e2, c2, m2, (hO.put (Dk.settle_ok (hO.at hi) hd p)), hl, hlr, hM9, hM2, (hP.del (Dk.pend_settle hi rfl)), (hW.eq (Dk.wrn_put hi rfl)), rfl, (by rw [Dk.settle_len, ← Dk.settle_bl1 hi hd (by simpa using hc1.1)]; try rfl), rfl, rfl⟩⟩ (rfl) (rfl))
 ·(try simp only [Bool.or_eq_true, Bool.and_eq_true, Bool.or_eq_false_iff, Bool.and_eq_false_iff, decide_eq_true_eq, decide_eq_false_iff_not, Bool.not_eq_true', Bool.not_eq_false'] at hc1)
  refine wp_skip ?_
  -- falls off the end
  replace hS := hS.perm (.swap _ _ _)
  replace hS := hS.perm (.cons _ (.swap _ _ _))
  replace hS := hS.perm (.cons _ (.cons _ (.swap _ _ _)))
  replace hS := hS.perm (.cons _ (.cons _ (.cons _ (.swap _ _ _))))
  exact fn_retx (rs := []) rfl hF hS (vs := []) trivial [] [_, _, _, _] sQ (sQ.n.k.k.k.k) (Dk.dr_of (S := S.put i (Dk.settle1 (S.at i) p)) ⟨rfl, rfl, _, _, _, _, rfl, ⟨l, _, _, _, e2, c2, m2, (hO.put (Dk.settle_ok (hO.at hi) hd p)), hl, hlr, hM9, hM2, (hP.del (Dk.pend_settle hi rfl)), (hW.eq (Dk.wrn_put hi rfl)), rfl, (by rw [Dk.settle_len, ← Dk.settle_bl2 hO hi hd (hc1.imp (fun h9 => by simpa using h9) (fun h9 => by simpa using h9))]), rfl, rfl⟩⟩ (rfl) (rfl))

set_option maxRecDepth 4000 in
set_option maxHeartbeats 2000000 in
theorem drot_ct (h : Dk.Hd) (S : Dk.Dsk) (i b : Int) (hi : -9223372036854775808 ≤ i ∧ i ≤ 9223372036854775807) (hb : -9223372036854775808 ≤ b ∧ b ≤ 9223372036854775807) (w0 : World) (zsr : List PH) {r1 r2 r3 r4 : Res} (hD : DD h S r1 r2 r3 r4) : Cx Try.prog 19 [.pointer (some ⟨h.b, 0, none⟩), vi i, vi b] w0 zsr [r1, r2, r3, r4] (DDR h ((Dk.rot S i b).1) (vi (Dk.rot S i b).2)) := by
 refine fn_enterx Try.func19 rfl Try.ntmps19 (Nat.le_of_ble_eq_true rfl) fun hsr a w hF hS => ?_
 replace hS : St _ (_) (_ :: _ :: _ :: _ :: _) _ := hS
 obtain ⟨l, e1, c1, m1, e2, c2, m2, hO, hl, hlr, hM1, hM2, hP, hW, rfl, rfl, rfl, rfl⟩ := hD
 have hlo := hO.lo
 have hhi := hO.hi
 have hlf := hO.lf
 have hlg := hO.lf2
 have hbl := Dk.bl_len S
 have hbs := Dk.bl_64 hO
 replace hS : St _ (_) (_ :: _ :: _ :: _ :: _) _ := hS
 refine wp_seq_k ?_; intro K1 hK1
 refine reg hF hS (sq rfl (q_assign rfl) <|
   sq_end) ?_
 clear hF hS; intro a w hF hS
 refine hK1 _ _ ?_
 clear hK1
 refine wp_seq_k ?_; intro K2 hK2
 refine wp_seq_k ?_; intro K3 hK3
 refine regl ?_
 refine wpl_sq hF hS (sq rfl (q_move rfl) <|
   sq rfl (q_lti rfl rfl) <|
   sq rfl (q_move rfl) <|
   sq_end) ?_
 clear hF hS; intro a w hF hS
 refine wpl_or 2 9 7 hF hS rfl rfl rfl rfl rfl (fun hg => have hg := (by first | exact of_decide_eq_false hg | exact hg); sq_go 9 rfl rfl rfl (q_move rfl) <|
   sq_go 9 rfl rfl rfl (q_move rfl) <|
   sq_go 9 rfl rfl rfl (q_nilCheck rfl) <|
   sq_go 9 rfl rfl rfl (q_fieldAddr ty71 rfl rfl (s' := 0) kQ) <|
   sq_go 9 rfl rfl rfl (q_ld_blk1 ty67 0 rfl rfl rfl rfl) <|
   sq_go 9 rfl rfl rfl (q_len_row ty67 1 rfl rfl) <|
   sq_go 9 rfl rfl rfl (q_gei rfl rfl) <|
   sq_end) rfl rfl ?_
 clear hF hS; intro a w hF hS
 refine wpl_sq hF hS (sq rfl (q_move rfl) <|
   sq_end) ?_
 clear hF hS; intro a w hF hS
 refine wpl_or 11 18 2 hF hS rfl rfl rfl rfl rfl (fun hg => have hg := hg; sq_go 18 rfl rfl rfl (q_move rfl) <|
   sq_go 18 rfl rfl rfl (q_lti rfl rfl) <|
   sq_end) rfl rfl ?_
 clear hF hS; intro a w hF hS
 refine wpl_sq hF hS (sq rfl (q_move rfl) <|
   sq_end) ?_
 clear hF hS; intro a w hF hS
 refine wpl_or 15 22 2 hF hS rfl rfl rfl rfl rfl (fun hg => have hg := hg; sq_go 22 rfl rfl rfl (q_move rfl) <|
   sq_go 22 rfl rfl rfl (q_gei rfl rfl) <|
   sq_end) rfl rfl ?_
 clear hF hS; intro a w hF hS
 refine wpList_nil ?_
 refine hK3 _ _ ?_
 clear hK3
 refine wp_if hF rfl (fun hc1 => ?_) (fun hc1 => ?_)
 ·(try simp only [Bool.or_eq_true, Bool.and_eq_true, Bool.or_eq_false_iff, Bool.and_eq_false_iff, decide_eq_true_eq, decide_eq_false_iff_not, Bool.not_eq_true', Bool.not_eq_false'] at hc1)
  refine wp_seq_k ?_; intro K4 hK4
  refine reg hF hS (sq rfl (q_assign rfl) <|
    sq_end) ?_
  clear hF hS; intro a w hF hS
  refine hK4 _ _ ?_
  clear hK4
  refine wp_ret ?_
  exact fn_retx (rs := [.tmp 6]) rfl hF hS (vs := [_]) ⟨rfl, trivial⟩ [] [_, _, _, _] sQ sQ (Dk.dr_of (S := S) ⟨rfl, rfl, _, _, _, _, rfl, ⟨l, e1, c1, m1, e2, c2, m2, hO, hl, hlr, hM1, hM2, hP, hW, rfl, rfl, rfl, rfl⟩⟩ (by rw [Dk.rot_no (by omega)]) (by rw [Dk.rot_no (by omega)]))
 ·(try simp only [Bool.or_eq_true, Bool.and_eq_true, Bool.or_eq_false_iff, Bool.and_eq_false_iff, decide_eq_true_eq, decide_eq_false_iff_not, Bool.not_eq_true', Bool.not_eq_false'] at hc1)
  have hir : 0 ≤ i ∧ i < S.s.length := by omega
  have hbr : 0 ≤ b ∧ b < 512 := by omega
  refine wp_skip ?_
  refine hK2 _ _ ?_
  clear hK2
  refine wp_seq_k ?_; intro K5 hK5
  refine regt 16 mixed kQ hF hS (sq rfl (q_move rfl) <|
    sq rfl (q_nilCheck rfl) <|
    sq rfl (q_fieldAddr ty71 rfl rfl (s' := 0) kQ) <|
    sq rfl (q_ld_blk1 ty67 0 rfl rfl rfl rfl) <|
    sq rfl (q_move rfl) <|
    sq rfl (q_move rfl) <|
    sq rfl (q_quoi rfl rfl (by omega)) <|
    sq rfl (q_idx_row ty67 ty74 1 rfl rfl rfl (by omega)) <|
    sq rfl (q_idx_rowE ty74 ty5 1 rfl rfl rfl (by omega) (by omega)) <|
    sq rfl (q_ld_row ty5 1 rfl rfl (flat_at hbs (k := i.toNat) (i := (b / 8).toNat) (by omega) (by omega)) rfl) <|
    sq rfl (q_move rfl) <|
    sq rfl (q_remi rfl rfl (by omega)) <|
    sq rfl (q_shlb (p := 1) rfl rfl (by omega)) <|
    sq rfl (q_xorb rfl rfl) <|
    sq rfl (q_idx_row ty67 ty74 1 rfl rfl rfl (by omega)) <|
    sq rfl (q_idx_rowE ty74 ty5 1 rfl rfl rfl (by omega) (by omega)) <|
    sq_end) ?_
  clear hF hS; intro a w hF hS
  refine wpl_ef hF hS rfl (ef_st_cell ty5 1 rfl rfl rfl (by omega) rfl) ?_
  clear hF hS; rintro _ _ _ a w ⟨rfl, rfl, rfl⟩ hF hS
  replace hS : St _ (_) (_ :: _ :: _ :: _ :: _) _ := hS
  refine wpList_nil ?_
  rw [flat_set1 hbs (by omega) (by omega)] at hS
  refine hK5 _ _ ?_
  clear hK5
  refine wp_seq_k ?_; intro K6 hK6
  refine reg hF hS (sq rfl (q_assign rfl) <|
    sq_end) ?_
  clear hF hS; intro a w hF hS
  refine hK6 _ _ ?_
  clear hK6
  refine wp_ret ?_
  exact fn_retx (rs := [.tmp 6]) rfl hF hS (vs := [_]) ⟨rfl, trivial⟩ [] [_, _, _, _] sQ sQ (Dk.dr_of (S := S.put i ⟨Dk.flip (S.at i).tx b, (S.at i).nx, (S.at i).dt, (S.at i).wn⟩) ⟨rfl, rfl, _, _, _, _, rfl, ⟨l, e1, c1, m1, e2, c2, m2, (hO.put ⟨by rw [Dk.flip_len]; exact (hO.at hir).1, (hO.at hir).2⟩), hl, hlr, hM1, hM2, (hP.eq (Dk.pend_put hir rfl rfl)), (hW.eq (Dk.wrn_put hir rfl)), rfl, (by rw [Dk.put_len, ← Dk.rot_bl hir]; rfl), rfl, rfl⟩⟩ (by rw [Dk.rot_ok hir hbr]) (by rw [Dk.rot_ok hir hbr]))

set_option maxRecDepth 4000 in
set_option maxHeartbeats 2000000 in
theorem dwear_ct (h : Dk.Hd) (S : Dk.Dsk) (i : Int) (hi : -9223372036854775808 ≤ i ∧ i ≤ 9223372036854775807) (w0 : World) (zsr : List PH) {r1 r2 r3 r4 : Res} (hD : DD h S r1 r2 r3 r4) : Cx Try.prog 20 [.pointer (some ⟨h.b, 0, none⟩), vi i] w0 zsr [r1, r2, r3, r4] (DDR h ((Dk.wear S i).1) (vi (Dk.wear S i).2)) := by
 refine fn_enterx Try.func20 rfl Try.ntmps20 (Nat.le_of_ble_eq_true rfl) fun hsr a w hF hS => ?_
 replace hS : St _ (_) (_ :: _ :: _ :: _ :: _) _ := hS
 obtain ⟨l, e1, c1, m1, e2, c2, m2, hO, hl, hlr, hM1, hM2, hP, hW, rfl, rfl, rfl, rfl⟩ := hD
 have hlo := hO.lo
 have hhi := hO.hi
 have hlf := hO.lf
 have hlg := hO.lf2
 have hbl := Dk.bl_len S
 have hbs := Dk.bl_64 hO
 replace hS : St _ (_) (_ :: _ :: _ :: _ :: _) _ := hS
 refine wp_seq_k ?_; intro K1 hK1
 refine reg hF hS (sq rfl (q_assign rfl) <|
   sq_end) ?_
 clear hF hS; intro a w hF hS
 refine hK1 _ _ ?_
 clear hK1
 refine wp_seq_k ?_; intro K2 hK2
 refine wp_seq_k ?_; intro K3 hK3
 refine regl ?_
 refine wpl_sq hF hS (sq rfl (q_move rfl) <|
   sq rfl (q_lti rfl rfl) <|
   sq rfl (q_move rfl) <|
   sq_end) ?_
 clear hF hS; intro a w hF hS
 refine wpl_or 2 7 7 hF hS rfl rfl rfl rfl rfl (fun hg => have hg := (by first | exact of_decide_eq_false hg | exact hg); sq_go 7 rfl rfl rfl (q_move rfl) <|
   sq_go 7 rfl rfl rfl (q_move rfl) <|
   sq_go 7 rfl rfl rfl (q_nilCheck rfl) <|
   sq_go 7 rfl rfl rfl (q_fieldAddr ty71 rfl rfl (s' := 0) kQ) <|
   sq_go 7 rfl rfl rfl (q_ld_blk1 ty67 0 rfl rfl rfl rfl) <|
   sq_go 7 rfl rfl rfl (q_len_row ty67 1 rfl rfl) <|
   sq_go 7 rfl rfl rfl (q_gei rfl rfl) <|
   sq_end) rfl rfl ?_
 clear hF hS; intro a w hF hS
 refine wpList_nil ?_
 refine hK3 _ _ ?_
 clear hK3
 refine wp_if hF rfl (fun hc1 => ?_) (fun hc1 => ?_)
 ·(try simp only [Bool.or_eq_true, Bool.and_eq_true, Bool.or_eq_false_iff, Bool.and_eq_false_iff, decide_eq_true_eq, decide_eq_false_iff_not, Bool.not_eq_true', Bool.not_eq_false'] at hc1)
  refine wp_seq_k ?_; intro K4 hK4
  refine reg hF hS (sq rfl (q_assign rfl) <|
    sq_end) ?_
  clear hF hS; intro a w hF hS
  refine hK4 _ _ ?_
  clear hK4
  refine wp_ret ?_
  exact fn_retx (rs := [.tmp 4]) rfl hF hS (vs := [_]) ⟨rfl, trivial⟩ [] [_, _, _, _] sQ sQ (Dk.dr_of (S := S) ⟨rfl, rfl, _, _, _, _, rfl, ⟨l, e1, c1, m1, e2, c2, m2, hO, hl, hlr, hM1, hM2, hP, hW, rfl, rfl, rfl, rfl⟩⟩ (by rw [Dk.wear_no (by omega)]) (by rw [Dk.wear_no (by omega)]))
 ·(try simp only [Bool.or_eq_true, Bool.and_eq_true, Bool.or_eq_false_iff, Bool.and_eq_false_iff, decide_eq_true_eq, decide_eq_false_iff_not, Bool.not_eq_true', Bool.not_eq_false'] at hc1)
  have hir : 0 ≤ i ∧ i < S.s.length := by omega
  refine wp_skip ?_
  refine hK2 _ _ ?_
  clear hK2
  refine wp_seq_k ?_; intro K5 hK5
  refine regl ?_
  refine wpl_sq hF hS (sq rfl (q_move rfl) <|
    sq rfl (q_nilCheck rfl) <|
    sq rfl (q_fieldAddr ty71 rfl rfl (s' := 0) kQ) <|
    sq rfl (q_ld_blk1 ty69 0 rfl rfl rfl rfl) <|
    sq rfl (q_move rfl) <|
    sq_end) ?_
  clear hF hS; intro a w hF hS
  refine wpl_ef hF hS rfl (ef_mapsetT ty69 (key_I ty3) 3 rfl rfl rfl rfl hM2 (fun _ _ => trivial) trivial) ?_
  clear hF hS; rintro _ _ _ a w ⟨es9, c9, hM9, rfl, rfl, rfl⟩ hF hS
  replace hS : St _ (_) (_ :: _ :: _ :: _ :: _) _ := hS
  refine wpList_nil ?_
  refine hK5 _ _ ?_
  clear hK5
  refine wp_seq_k ?_; intro K6 hK6
  refine reg hF hS (sq rfl (q_assign rfl) <|
    sq_end) ?_
  clear hF hS; intro a w hF hS
  refine hK6 _ _ ?_
  clear hK6
  refine wp_ret ?_
  exact fn_retx (rs := [.tmp 4]) rfl hF hS (vs := [_]) ⟨rfl, trivial⟩ [] [_, _, _, _] sQ sQ (Dk.dr_of (S := S.put i ⟨(S.at i).tx, (S.at i).nx, (S.at i).dt, true⟩) ⟨rfl, rfl, _, _, _, _, rfl, ⟨l, e1, c1, m1, _, _, _, (hO.put (hO.at hir)), hl, hlr, hM1, hM9, (hP.eq (Dk.pend_put hir rfl rfl)), (hW.put (Dk.wrn_wear hir rfl)), rfl, (by rw [Dk.put_len, Dk.wear_bl hir]), rfl, rfl⟩⟩ (by rw [Dk.wear_ok hir]) (by rw [Dk.wear_ok hir]))
end Go.Proofs.Ytbgbfmdnpjpdgaa
