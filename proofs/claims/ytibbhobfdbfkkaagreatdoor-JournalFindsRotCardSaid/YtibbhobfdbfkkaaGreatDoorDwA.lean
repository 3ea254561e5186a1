/- A text of a proof over this seat: walks over the program's functions and the plain laws that they need. -/
import Derived.Test.YtibbhobfdbfkkaaGreatDoorHwA
import Derived.Test.YtibbhobfdbfkkaaGreatDoorDkA
import Derived.Shelf.SortM.Plain
import Derived.Shelf.SortM.SortNone
import Derived.Test.YtibbhobfdbfkkaaGreatDoorFwD
set_option linter.all false
section
namespace Go.Proofs.YtibbhobfdbfkkaaGreatDoor
open Go.Fw
theorem ty4 : Tf Tryz.prog 4 .bool 1 1 (Value.bool false) := ⟨Tryz.underlying4, by kernel_rfl⟩
theorem ty74 : Tf Tryz.prog 74 (.slice 86) 1 24 (Value.slice none 0 0) := ⟨Tryz.underlying74, by kernel_rfl⟩
theorem ty77 : Tf Tryz.prog 77 (.struct #[⟨ "blocks", 74, 0, false, "", "culprit/disk", 0⟩, ⟨ "pending", 75, 1, false, "", "culprit/disk", 24⟩, ⟨ "worn", 45, 2, false, "", "culprit/disk", 32⟩, ⟨ "off", 4, 3, false, "", "culprit/disk", 40⟩, ⟨ "left", 3, 4, false, "", "culprit/disk", 48⟩]) 5 56 (.agg ([Value.slice none 0 0] ++ [Value.map none, Value.map none] ++ [Value.bool false] ++ [Value.int .i64 0]).toArray) := ⟨Tryz.underlying77, by kernel_rfl⟩

abbrev DD := Dk.DOk 77 86
abbrev DDR := Dk.DR 77 86

set_option maxRecDepth 4000 in
set_option maxHeartbeats 2000000 in
theorem dcheck_ct (h : Dk.Hd) (S : Dk.Dsk) (i : Int) (w0 : World) (zsr : List PH) {r1 r2 r3 r4 : Res} (hD : DD h S r1 r2 r3 r4) : Cx Tryz.prog 43 [.pointer (some ⟨h.b, 0, none⟩), vi i] w0 zsr [r1, r2, r3, r4] (DDR h (S) (vi (Dk.check S i))) := by
 refine fn_enterx Tryz.func43 rfl Tryz.ntmps43 (Nat.le_of_ble_eq_true rfl) fun hsr a w hF hS => ?_
 replace hS : St _ (_) (_ :: _ :: _ :: _ :: _) _ := hS
 obtain ⟨l, e1, c1, m1, e2, c2, m2, hO, hl, hlr, hM1, hM2, hP, hW, rfl, rfl, rfl, rfl⟩ := hD
 have hlo := hO.lo
 have hhi := hO.hi
 have hlf := hO.lf
 have hlg := hO.lf2
 have hbl := Dk.bl_len S
 have hbs := Dk.bl_64 hO
 replace hS : St _ (_) (_ :: _ :: _ :: _ :: _) _ := hS
 refine wp_seq_k ?_; intro K1 hK1
 refine reg hF hS (sq rfl (q_assign rfl) <|
   sq_end) ?_
 clear hF hS; intro a w hF hS
 refine hK1 _ _ ?_
 clear hK1
 refine wp_seq_k ?_; intro K2 hK2
 refine wp_block ?_
 refine wp_seq_k ?_; intro K3 hK3
 refine reg hF hS (sq rfl (q_move rfl) <|
   sq rfl (q_nilCheck rfl) <|
   sq rfl (q_fieldAddr ty77 rfl rfl (s' := 0) kQ) <|
   sq rfl (q_ld_blk1 ty4 0 rfl rfl rfl rfl) <|
   sq rfl (q_assign rfl) <|
   sq_end) ?_
 clear hF hS; intro a w hF hS
 refine hK3 _ _ ?_
 clear hK3
 refine wp_if hF rfl (fun hc1 => ?_) (fun hc1 => ?_)
 ·refine wp_seq_k ?_; intro K4 hK4
  refine reg hF hS (sq rfl (q_assign rfl) <|
    sq_end) ?_
  clear hF hS; intro a w hF hS
  refine hK4 _ _ ?_
  clear hK4
  refine wp_ret ?_
  exact fn_retx (rs := [.tmp 4]) rfl hF hS (vs := [_]) ⟨rfl, trivial⟩ [] [_, _, _, _] sQ sQ (Dk.dr_of (S := S) ⟨rfl, rfl, _, _, _, _, rfl, ⟨l, e1, c1, m1, e2, c2, m2, hO, hl, hlr, hM1, hM2, hP, hW, rfl, rfl, rfl, rfl⟩⟩ (rfl) (by rw [Dk.check_off (by simpa using hc1)]))
 ·refine wp_seq_k ?_; intro K5 hK5
  refine regl ?_
  refine wpl_sq hF hS (sq rfl (q_move rfl) <|
    sq rfl (q_lti rfl rfl) <|
    sq rfl (q_move rfl) <|
    sq_end) ?_
  clear hF hS; intro a w hF hS
  refine wpl_or 2 13 7 hF hS rfl rfl rfl rfl rfl (fun hg => have hg := (by first | exact of_decide_eq_false hg | exact hg); sq_go 13 rfl rfl rfl (q_move rfl) <|
    sq_go 13 rfl rfl rfl (q_move rfl) <|
    sq_go 13 rfl rfl rfl (q_nilCheck rfl) <|
    sq_go 13 rfl rfl rfl (q_fieldAddr ty77 rfl rfl (s' := 0) kQ) <|
    sq_go 13 rfl rfl rfl (q_ld_blk1 ty74 0 rfl rfl rfl rfl) <|
    sq_go 13 rfl rfl rfl (q_len_row ty74 1 rfl rfl) <|
    sq_go 13 rfl rfl rfl (q_gei rfl rfl) <|
    sq_end) rfl rfl ?_
  clear hF hS; intro a w hF hS
  refine wpl_sq hF hS (sq rfl (q_assign rfl) <|
    sq_end) ?_
  clear hF hS; intro a w hF hS
  refine wpList_nil ?_
  refine hK5 _ _ ?_
  clear hK5
  refine wp_if hF rfl (fun hc2 => ?_) (fun hc2 => ?_)
  ·(try simp only [Bool.or_eq_true, Bool.and_eq_true, Bool.or_eq_false_iff, Bool.and_eq_false_iff, decide_eq_true_eq, decide_eq_false_iff_not, Bool.not_eq_true', Bool.not_eq_false'] at hc2)
   refine wp_seq_k ?_; intro K6 hK6
   refine reg hF hS (sq rfl (q_assign rfl) <|
     sq_end) ?_
   clear hF hS; intro a w hF hS
   refine hK6 _ _ ?_
   clear hK6
   refine wp_ret ?_
   exact fn_retx (rs := [.tmp 4]) rfl hF hS (vs := [_]) ⟨rfl, trivial⟩ [] [_, _, _, _] sQ sQ (Dk.dr_of (S := S) ⟨rfl, rfl, _, _, _, _, rfl, ⟨l, e1, c1, m1, e2, c2, m2, hO, hl, hlr, hM1, hM2, hP, hW, rfl, rfl, rfl, rfl⟩⟩ (rfl) (by rw [Dk.check_out (by rw [hc1]; simp) (by omega)]))
  ·(try simp only [Bool.or_eq_true, Bool.and_eq_true, Bool.or_eq_false_iff, Bool.and_eq_false_iff, decide_eq_true_eq, decide_eq_false_iff_not, Bool.not_eq_true', Bool.not_eq_false'] at hc2)
   refine wp_skip ?_
   refine hK2 _ _ ?_
   clear hK2
   refine wp_seq_k ?_; intro K7 hK7
   refine reg hF hS (sq rfl (q_assign rfl) <|
     sq_end) ?_
   clear hF hS; intro a w hF hS
   refine hK7 _ _ ?_
   clear hK7
   refine wp_ret ?_
   exact fn_retx (rs := [.tmp 4]) rfl hF hS (vs := [_]) ⟨rfl, trivial⟩ [] [_, _, _, _] sQ sQ (Dk.dr_of (S := S) ⟨rfl, rfl, _, _, _, _, rfl, ⟨l, e1, c1, m1, e2, c2, m2, hO, hl, hlr, hM1, hM2, hP, hW, rfl, rfl, rfl, rfl⟩⟩ (rfl) (by rw [Dk.check_in (by rw [hc1]; simp) (by omega)]))

set_option maxRecDepth 4000 in
set_option maxHeartbeats 2000000 in
theorem dstep_ct (h : Dk.Hd) (S : Dk.Dsk) (w0 : World) (zsr : List PH) {r1 r2 r3 r4 : Res} (hD : DD h S r1 r2 r3 r4) : Cx Tryz.prog 44 [.pointer (some ⟨h.b, 0, none⟩)] w0 zsr [r1, r2, r3, r4] (DDR h ((Dk.step S).1) (vi (Dk.step S).2)) := by
 refine fn_enterx Tryz.func44 rfl Tryz.ntmps44 (Nat.le_of_ble_eq_true rfl) fun hsr a w hF hS => ?_
 replace hS : St _ (_) (_ :: _ :: _ :: _ :: _) _ := hS
 obtain ⟨l, e1, c1, m1, e2, c2, m2, hO, hl, hlr, hM1, hM2, hP, hW, rfl, rfl, rfl, rfl⟩ := hD
 have hlo := hO.lo
 have hhi := hO.hi
 have hlf := hO.lf
 have hlg := hO.lf2
 have hbl := Dk.bl_len S
 have hbs := Dk.bl_64 hO
 replace hS : St _ (_) (_ :: _ :: _ :: _ :: _) _ := hS
 refine wp_seq_k ?_; intro K1 hK1
 refine reg hF hS (sq rfl (q_assign rfl) <|
   sq_end) ?_
 clear hF hS; intro a w hF hS
 refine hK1 _ _ ?_
 clear hK1
 refine wp_seq_k ?_; intro K2 hK2
 refine wp_block ?_
 refine wp_seq_k ?_; intro K3 hK3
 refine reg hF hS (sq rfl (q_move rfl) <|
   sq rfl (q_nilCheck rfl) <|
   sq rfl (q_fieldAddr ty77 rfl rfl (s' := 0) kQ) <|
   sq rfl (q_ld_blk1 ty3 0 rfl rfl rfl rfl) <|
   sq rfl (q_eqi rfl rfl) <|
   sq rfl (q_assign rfl) <|
   sq_end) ?_
 clear hF hS; intro a w hF hS
 refine hK3 _ _ ?_
 clear hK3
 refine wp_ifd hF rfl (fun hc1 => ?_) (fun hc1 => ?_)
 ·refine wp_seq_k ?_; intro K4 hK4
  refine regl ?_
  refine wpl_sq hF hS (sq rfl (q_move rfl) <|
    sq rfl (q_nilCheck rfl) <|
    sq rfl (q_fieldAddr ty77 rfl rfl (s' := 0) kQ) <|
    sq_end) ?_
  clear hF hS; intro a w hF hS
  refine wpl_ef hF hS rfl (ef_store1 ty4 0 rfl rfl rfl rfl (by simp)) ?_
  clear hF hS; rintro _ _ _ a w ⟨rfl, rfl, rfl⟩ hF hS
  replace hS : St _ (_) (.blk _ _ ([_, _, _, _, _].set 3 _) :: _ :: _ :: _ :: _) _ := hS
  simp only [List.set_cons_zero, List.set_cons_succ] at hS
  replace hS : St _ (_) (_ :: _ :: _ :: _ :: _) _ := hS
  refine wpList_nil ?_
  refine hK4 _ _ ?_
  clear hK4
  refine wp_seq_k ?_; intro K5 hK5
  refine reg hF hS (sq rfl (q_assign rfl) <|
    sq_end) ?_
  clear hF hS; intro a w hF hS
  refine hK5 _ _ ?_
  clear hK5
  refine wp_ret ?_
  exact fn_retx (rs := [.tmp 2]) rfl hF hS (vs := [_]) ⟨rfl, trivial⟩ [] [_, _, _, _] sQ sQ (Dk.dr_of (S := ⟨S.s, true, S.left⟩) ⟨rfl, rfl, _, _, _, _, rfl, ⟨l, e1, c1, m1, e2, c2, m2, ⟨hO.sec, hO.lo, hO.hi, hO.lf, hO.lf2⟩, hl, hlr, hM1, hM2, hP, hW, rfl, rfl, rfl, rfl⟩⟩ (by rw [Dk.step_0 (by omega)]) (by rw [Dk.step_0 (by omega)]))
 ·refine wp_seq_k ?_; intro K6 hK6
  refine reg hF hS (sq rfl (q_move rfl) <|
    sq rfl (q_nilCheck rfl) <|
    sq rfl (q_fieldAddr ty77 rfl rfl (s' := 0) kQ) <|
    sq rfl (q_ld_blk1 ty3 0 rfl rfl rfl rfl) <|
    sq rfl (q_gti rfl rfl) <|
    sq rfl (q_assign rfl) <|
    sq_end) ?_
  clear hF hS; intro a w hF hS
  refine hK6 _ _ ?_
  clear hK6
  refine wp_ifd hF rfl (fun hc2 => ?_) (fun hc2 => ?_)
  ·refine regl ?_
   refine wpl_sq hF hS (sq rfl (q_move rfl) <|
     sq rfl (q_nilCheck rfl) <|
     sq rfl (q_fieldAddr ty77 rfl rfl (s' := 0) kQ) <|
     sq rfl (q_ld_blk1 ty3 0 rfl rfl rfl rfl) <|
     sq rfl (q_subi rfl rfl (by omega)) <|
     sq rfl (q_nilCheck rfl) <|
     sq rfl (q_fieldAddr ty77 rfl rfl (s' := 0) kQ) <|
     sq_end) ?_
   clear hF hS; intro a w hF hS
   refine wpl_ef hF hS rfl (ef_store1 ty3 0 rfl rfl rfl rfl (by simp)) ?_
   clear hF hS; rintro _ _ _ a w ⟨rfl, rfl, rfl⟩ hF hS
   replace hS : St _ (_) (.blk _ _ ([_, _, _, _, _].set 4 _) :: _ :: _ :: _ :: _) _ := hS
   simp only [List.set_cons_zero, List.set_cons_succ] at hS
   replace hS : St _ (_) (_ :: _ :: _ :: _ :: _) _ := hS
   refine wpList_nil ?_
   refine hK2 _ _ ?_
   clear hK2
   refine wp_seq_k ?_; intro K7 hK7
   refine reg hF hS (sq rfl (q_assign rfl) <|
     sq_end) ?_
   clear hF hS; intro a w hF hS
   refine hK7 _ _ ?_
   clear hK7
   refine wp_ret ?_
   exact fn_retx (rs := [.tmp 2]) rfl hF hS (vs := [_]) ⟨rfl, trivial⟩ [] [_, _, _, _] sQ sQ (Dk.dr_of (S := ⟨S.s, S.off, S.left - 1⟩) ⟨rfl, rfl, _, _, _, _, rfl, ⟨(l - 1), e1, c1, m1, e2, c2, m2, ⟨hO.sec, hO.lo, hO.hi, (by dsimp only; omega), (by dsimp only; omega)⟩, (by dsimp only; omega), (by omega), hM1, hM2, hP, hW, rfl, rfl, rfl, rfl⟩⟩ (by rw [Dk.step_1 (by omega)]) (by rw [Dk.step_1 (by omega)]))
  ·refine wp_skip ?_
   refine hK2 _ _ ?_
   clear hK2
   refine wp_seq_k ?_; intro K8 hK8
   refine reg hF hS (sq rfl (q_assign rfl) <|
     sq_end) ?_
   clear hF hS; intro a w hF hS
   refine hK8 _ _ ?_
   clear hK8
   refine wp_ret ?_
   exact fn_retx (rs := [.tmp 2]) rfl hF hS (vs := [_]) ⟨rfl, trivial⟩ [] [_, _, _, _] sQ sQ (Dk.dr_of (S := S) ⟨rfl, rfl, _, _, _, _, rfl, ⟨l, e1, c1, m1, e2, c2, m2, hO, hl, hlr, hM1, hM2, hP, hW, rfl, rfl, rfl, rfl⟩⟩ (by rw [Dk.step_2 (by omega)]) (by rw [Dk.step_2 (by omega)]))

set_option maxRecDepth 4000 in
set_option maxHeartbeats 2000000 in
theorem dlen_ct (h : Dk.Hd) (S : Dk.Dsk) (w0 : World) (zsr : List PH) {r1 r2 r3 r4 : Res} (hD : DD h S r1 r2 r3 r4) : Cx Tryz.prog 47 [.pointer (some ⟨h.b, 0, none⟩)] w0 zsr [r1, r2, r3, r4] (DDR h (S) (vi (S.s.length : Int))) := by
 refine fn_enterx Tryz.func47 rfl Tryz.ntmps47 (Nat.le_of_ble_eq_true rfl) fun hsr a w hF hS => ?_
 replace hS : St _ (_) (_ :: _ :: _ :: _ :: _) _ := hS
 obtain ⟨l, e1, c1, m1, e2, c2, m2, hO, hl, hlr, hM1, hM2, hP, hW, rfl, rfl, rfl, rfl⟩ := hD
 have hlo := hO.lo
 have hhi := hO.hi
 have hlf := hO.lf
 have hlg := hO.lf2
 have hbl := Dk.bl_len S
 have hbs := Dk.bl_64 hO
 replace hS : St _ (_) (_ :: _ :: _ :: _ :: _) _ := hS
 refine wp_seq_k ?_; intro K1 hK1
 refine reg hF hS (sq rfl (q_assign rfl) <|
   sq_end) ?_
 clear hF hS; intro a w hF hS
 refine hK1 _ _ ?_
 clear hK1
 refine wp_seq_k ?_; intro K2 hK2
 refine reg hF hS (sq rfl (q_move rfl) <|
   sq rfl (q_nilCheck rfl) <|
   sq rfl (q_fieldAddr ty77 rfl rfl (s' := 0) kQ) <|
   sq rfl (q_ld_blk1 ty74 0 rfl rfl rfl rfl) <|
   sq rfl (q_len_row ty74 1 rfl rfl) <|
   sq rfl (q_assign rfl) <|
   sq_end) ?_
 clear hF hS; intro a w hF hS
 refine hK2 _ _ ?_
 clear hK2
 refine wp_ret ?_
 exact fn_retx (rs := [.tmp 2]) rfl hF hS (vs := [_]) ⟨rfl, trivial⟩ [] [_, _, _, _] sQ sQ (Dk.dr_of (S := S) ⟨rfl, rfl, _, _, _, _, rfl, ⟨l, e1, c1, m1, e2, c2, m2, hO, hl, hlr, hM1, hM2, hP, hW, rfl, rfl, rfl, rfl⟩⟩ (rfl) (rfl))

end Go.Proofs.YtibbhobfdbfkkaaGreatDoor
end

section
namespace Go.Proofs.YtibbhobfdbfkkaaGreatDoor
open Go.Fw
theorem ty75 : Tf Tryz.prog 75 (.map 3 86) 1 8 (Value.map none) := ⟨Tryz.underlying75, by kernel_rfl⟩
theorem ty86 : Tf Tryz.prog 86 (.array 64 5) 64 64 (.agg (List.replicate 64 (Value.int .u8 0)).toArray) := ⟨Tryz.underlying86, by kernel_rfl⟩
theorem fn43 : FnOk Tryz.prog 43 := ⟨_, Tryz.func43, rfl, by kernel_rfl⟩
theorem fn44 : FnOk Tryz.prog 44 := ⟨_, Tryz.func44, rfl, by kernel_rfl⟩

set_option maxRecDepth 4000 in
set_option maxHeartbeats 2000000 in
theorem dread_ct (h : Dk.Hd) (S : Dk.Dsk) (i : Int) (hi : -9223372036854775808 ≤ i ∧ i ≤ 9223372036854775807) (w0 : World) (zsr : List PH) {r1 r2 r3 r4 : Res} (hD : DD h S r1 r2 r3 r4) : Cx Tryz.prog 48 [.pointer (some ⟨h.b, 0, none⟩), vi i] w0 zsr [r1, r2, r3, r4] (DDR h (S) (.tuple [vs (Dk.read S i).1, vi (Dk.read S i).2].toArray)) := by
 refine fn_enterx Tryz.func48 rfl Tryz.ntmps48 (Nat.le_of_ble_eq_true rfl) fun hsr a w hF hS => ?_
 replace hS : St _ (_) (_ :: _ :: _ :: _ :: _) _ := hS
 refine wp_seq_k ?_; intro K1 hK1
 refine reg hF hS (sq rfl (q_assign rfl) <|
   sq rfl (q_assign rfl) <|
   sq_end) ?_
 clear hF hS; intro a w hF hS
 refine hK1 _ _ ?_
 clear hK1
 refine wp_seq_k ?_; intro K2 hK2
 refine wp_seq_k ?_; intro K3 hK3
 refine regl ?_
 refine wpl_sq hF hS (sq rfl (q_move rfl) <|
   sq rfl (q_move rfl) <|
   sq_end) ?_
 clear hF hS; intro a w hF hS
 refine wpl_ef hF hS rfl (ef_callx fn43 rfl (List.Perm.refl _) (by exact (dcheck_ct _ _ _ _ _  hD))) ?_
 clear hF hS; rintro _ _ _ a w ⟨_, _, rfl, rfl, ⟨rfl, rfl, qa2, qb3, qc4, qd5, rfl, hD6⟩⟩ hF hS
 replace hS : St _ (_) (_ :: _ :: _ :: _ :: _) _ := hS
 refine wpl_sq hF hS (sq rfl (q_assign rfl) <|
   sq_end) ?_
 clear hF hS; intro a w hF hS
 refine wpList_nil ?_
 refine hK3 _ _ ?_
 clear hK3
 refine wp_seq_k ?_; intro K4 hK4
 refine reg hF hS (sq rfl (q_move rfl) <|
   sq rfl (q_nei rfl rfl) <|
   sq_end) ?_
 clear hF hS; intro a w hF hS
 refine hK4 _ _ ?_
 clear hK4
 refine wp_ifn hF rfl (fun hc1 => ?_) (fun hc1 => ?_)
 ·refine wp_seq_k ?_; intro K5 hK5
  refine reg hF hS (sq rfl (q_move rfl) <|
    sq rfl (q_assign rfl) <|
    sq rfl (q_assign rfl) <|
    sq_end) ?_
  clear hF hS; intro a w hF hS
  refine hK5 _ _ ?_
  clear hK5
  refine wp_ret ?_
  exact fn_retx (rs := [.tmp 4, .tmp 5]) rfl hF hS (vs := [_, _]) ⟨rfl, rfl, trivial⟩ [] [_, _, _, _] sQ sQ (Dk.dr_of (S := S) ⟨rfl, rfl, _, _, _, _, rfl, hD6⟩ (rfl) (by rw [Dk.read_bad hc1]))
 ·have hc0 : Dk.check S i = 0 := by omega
  obtain ⟨hof, hir⟩ := Dk.check_0 hc0
  obtain ⟨l, e1, c1, m1, e2, c2, m2, hO, hl, hlr, hM1, hM2, hP, hW, rfl, rfl, rfl, rfl⟩ := hD6
  have hlo := hO.lo
  have hhi := hO.hi
  have hlf := hO.lf
  have hlg := hO.lf2
  have hbl := Dk.bl_len S
  have hbs := Dk.bl_64 hO
  replace hS : St _ (_) (_ :: _ :: _ :: _ :: _) _ := hS
  have hpg := Dk.pget_len hO hir
  refine wp_skip ?_
  refine hK2 _ _ ?_
  clear hK2
  refine wp_seq_k ?_; intro K6 hK6
  refine wp_seq_k ?_; intro K7 hK7
  refine regl ?_
  refine wpl_sq hF hS (sq rfl (q_move rfl) <|
    sq rfl (q_nilCheck rfl) <|
    sq rfl (q_fieldAddr ty77 rfl rfl (s' := 0) kQ) <|
    sq rfl (q_ld_blk1 ty75 0 rfl rfl rfl rfl) <|
    sq rfl (q_move rfl) <|
    sq rfl (q_lookupk2 ty75 ty86 (key_I ty3) 2 rfl rfl rfl hM1.1 (fun _ _ => trivial) trivial (Dk.pend_get hP hir) (Dk.pend_is hP hir)) <|
    sq rfl (q_move rfl) <|
    sq rfl (q_extract rfl rfl) <|
    sq rfl (q_extract rfl rfl) <|
    sq_end) ?_
  clear hF hS; intro a w hF hS
  refine wpl_ef hF hS rfl (ef_allocA ty86) ?_
  clear hF hS; rintro _ _ _ a w ⟨b7, rfl, rfl, rfl⟩ hF hS
  rw [show List.replicate 64 (Value.int .u8 0) = (List.replicate 64 (0 : UInt8)).map vb from by rw [List.map_replicate] <;> rfl] at hS
  refine wpl_ef hF hS rfl (ef_storeW ty86 0 rfl rfl rfl rfl bQ oQ bQ) ?_
  clear hF hS; rintro _ _ _ a w ⟨rfl, rfl, rfl⟩ hF hS
  replace hS : St _ (_) (_ :: _ :: _ :: _ :: _ :: _) _ := hS
  refine wpl_sq hF hS (sq rfl (q_assign rfl) <|
    sq_end) ?_
  clear hF hS; intro a w hF hS
  refine wpList_nil ?_
  refine hK7 _ _ ?_
  clear hK7
  refine wp_seq_k ?_; intro K8 hK8
  refine reg hF hS (sq rfl (q_move rfl) <|
    sq_end) ?_
  clear hF hS; intro a w hF hS
  refine hK8 _ _ ?_
  clear hK8
  refine wp_if hF rfl (fun hc2 => ?_) (fun hc2 => ?_)
  ·refine wp_seq_k ?_; intro K9 hK9
   refine reg hF hS (sq rfl (q_sla ty86 ty5 rfl) <|
     sq rfl (q_b2s_blkM ty81 ty9 ty5 0 rfl rfl bQ) <|
     sq rfl (q_assign rfl) <|
     sq rfl (q_assign rfl) <|
     sq_end) ?_
   clear hF hS; intro a w hF hS
   refine hK9 _ _ ?_
   clear hK9
   refine wp_ret ?_
   replace hS := hS.perm (.swap _ _ _)
   replace hS := hS.perm (.cons _ (.swap _ _ _))
   replace hS := hS.perm (.cons _ (.cons _ (.swap _ _ _)))
   replace hS := hS.perm (.cons _ (.cons _ (.cons _ (.swap _ _ _))))
   exact fn_retx (rs := [.tmp 4, .tmp 5]) rfl hF hS (vs := [_, _]) ⟨rfl, rfl, trivial⟩ [] [_, _, _, _] sQ (sQ.n.k.k.k.k) (Dk.dr_of (S := S) ⟨rfl, rfl, _, _, _, _, rfl, ⟨l, e1, c1, m1, e2, c2, m2, hO, hl, hlr, hM1, hM2, hP, hW, rfl, rfl, rfl, rfl⟩⟩ (rfl) (by rw [Dk.read_nx hc0 hc2, Dk.pget_t hc2]))
  ·refine wp_skip ?_
   refine hK6 _ _ ?_
   clear hK6
   refine wp_seq_k ?_; intro K10 hK10
   refine reg hF hS (sq rfl (q_move rfl) <|
     sq rfl (q_nilCheck rfl) <|
     sq rfl (q_fieldAddr ty77 rfl rfl (s' := 0) kQ) <|
     sq rfl (q_ld_blk1 ty74 1 rfl rfl rfl rfl) <|
     sq rfl (q_move rfl) <|
     sq rfl (q_idx_row ty74 ty86 2 rfl rfl rfl (by omega)) <|
     sq rfl (q_slE ty86 ty5 2 rfl rfl (by omega)) <|
     sq rfl (q_b2s_rowSl ty81 ty9 ty5 2 rfl (Dk.bl_len S).symm (Dk.bl_64 hO) rfl (by omega)) <|
     sq rfl (q_assign rfl) <|
     sq rfl (q_assign rfl) <|
     sq_end) ?_
   clear hF hS; intro a w hF hS
   refine hK10 _ _ ?_
   clear hK10
   refine wp_ret ?_
   replace hS := hS.perm (.swap _ _ _)
   replace hS := hS.perm (.cons _ (.swap _ _ _))
   replace hS := hS.perm (.cons _ (.cons _ (.swap _ _ _)))
   replace hS := hS.perm (.cons _ (.cons _ (.cons _ (.swap _ _ _))))
   exact fn_retx (rs := [.tmp 4, .tmp 5]) rfl hF hS (vs := [_, _]) ⟨rfl, rfl, trivial⟩ [] [_, _, _, _] sQ (sQ.n.k.k.k.k) (Dk.dr_of (S := S) ⟨rfl, rfl, _, _, _, _, rfl, ⟨l, e1, c1, m1, e2, c2, m2, hO, hl, hlr, hM1, hM2, hP, hW, rfl, rfl, rfl, rfl⟩⟩ (rfl) (by rw [Dk.read_tx hc0 (by rw [hc2]; simp), Dk.bl_at hir]))

set_option maxRecDepth 4000 in
set_option maxHeartbeats 2000000 in
theorem dwrite_ct (h : Dk.Hd) (S : Dk.Dsk) (i : Int) (hi : -9223372036854775808 ≤ i ∧ i ≤ 9223372036854775807) (t : List UInt8) (w0 : World) (zsr : List PH) {r1 r2 r3 r4 : Res} (hD : DD h S r1 r2 r3 r4) : Cx Tryz.prog 10 [.pointer (some ⟨h.b, 0, none⟩), vi i, vs t] w0 zsr [r1, r2, r3, r4] (DDR h ((Dk.write S i t).1) (vi (Dk.write S i t).2)) := by
 refine fn_enterx Tryz.func10 rfl Tryz.ntmps10 (Nat.le_of_ble_eq_true rfl) fun hsr a w hF hS => ?_
 replace hS : St _ (_) (_ :: _ :: _ :: _ :: _) _ := hS
 refine wp_seq_k ?_; intro K1 hK1
 refine reg hF hS (sq rfl (q_assign rfl) <|
   sq_end) ?_
 clear hF hS; intro a w hF hS
 refine hK1 _ _ ?_
 clear hK1
 refine wp_seq_k ?_; intro K2 hK2
 refine wp_seq_k ?_; intro K3 hK3
 refine regl ?_
 refine wpl_sq hF hS (sq rfl (q_move rfl) <|
   sq rfl (q_move rfl) <|
   sq_end) ?_
 clear hF hS; intro a w hF hS
 refine wpl_ef hF hS rfl (ef_callx fn43 rfl (List.Perm.refl _) (by exact (dcheck_ct _ _ _ _ _  hD))) ?_
 clear hF hS; rintro _ _ _ a w ⟨_, _, rfl, rfl, ⟨rfl, rfl, qa2, qb3, qc4, qd5, rfl, hD6⟩⟩ hF hS
 replace hS : St _ (_) (_ :: _ :: _ :: _ :: _) _ := hS
 refine wpl_sq hF hS (sq rfl (q_assign rfl) <|
   sq_end) ?_
 clear hF hS; intro a w hF hS
 refine wpList_nil ?_
 refine hK3 _ _ ?_
 clear hK3
 refine wp_seq_k ?_; intro K4 hK4
 refine reg hF hS (sq rfl (q_move rfl) <|
   sq rfl (q_nei rfl rfl) <|
   sq_end) ?_
 clear hF hS; intro a w hF hS
 refine hK4 _ _ ?_
 clear hK4
 refine wp_ifn hF rfl (fun hc1 => ?_) (fun hc1 => ?_)
 ·refine wp_seq_k ?_; intro K5 hK5
  refine reg hF hS (sq rfl (q_move rfl) <|
    sq rfl (q_assign rfl) <|
    sq_end) ?_
  clear hF hS; intro a w hF hS
  refine hK5 _ _ ?_
  clear hK5
  refine wp_ret ?_
  exact fn_retx (rs := [.tmp 6]) rfl hF hS (vs := [_]) ⟨rfl, trivial⟩ [] [_, _, _, _] sQ sQ (Dk.dr_of (S := S) ⟨rfl, rfl, _, _, _, _, rfl, hD6⟩ (by rw [Dk.write_1 hc1]) (by rw [Dk.write_1 hc1]))
 ·have hc0 : Dk.check S i = 0 := by omega
  obtain ⟨hof, hir⟩ := Dk.check_0 hc0
  refine wp_skip ?_
  refine hK2 _ _ ?_
  clear hK2
  refine wp_seq_k ?_; intro K6 hK6
  refine wp_seq_k ?_; intro K7 hK7
  refine reg hF hS (sq rfl (q_move rfl) <|
    sq rfl (q_len_s ty9 rfl) <|
    sq rfl (q_nei rfl rfl) <|
    sq_end) ?_
  clear hF hS; intro a w hF hS
  refine hK7 _ _ ?_
  clear hK7
  refine wp_ifn hF rfl (fun hc2 => ?_) (fun hc2 => ?_)
  ·refine wp_seq_k ?_; intro K8 hK8
   refine reg hF hS (sq rfl (q_assign rfl) <|
     sq_end) ?_
   clear hF hS; intro a w hF hS
   refine hK8 _ _ ?_
   clear hK8
   refine wp_ret ?_
   exact fn_retx (rs := [.tmp 6]) rfl hF hS (vs := [_]) ⟨rfl, trivial⟩ [] [_, _, _, _] sQ sQ (Dk.dr_of (S := S) ⟨rfl, rfl, _, _, _, _, rfl, hD6⟩ (by rw [Dk.write_2 hc0 (by omega)]) (by rw [Dk.write_2 hc0 (by omega)]))
  ·have h64 : t.length = 64 := by omega
   refine wp_skip ?_
   refine hK6 _ _ ?_
   clear hK6
   refine wp_seq_k ?_; intro K9 hK9
   refine wp_seq_k ?_; intro K10 hK10
   refine regl ?_
   refine wpl_sq hF hS (sq rfl (q_move rfl) <|
     sq_end) ?_
   clear hF hS; intro a w hF hS
   refine wpl_ef hF hS rfl (ef_callx fn44 rfl (List.Perm.refl _) (by exact (dstep_ct _ _ _ _  hD6))) ?_
   clear hF hS; rintro _ _ _ a w ⟨_, _, rfl, rfl, ⟨rfl, rfl, qa8, qb9, qc10, qd11, rfl, hD12⟩⟩ hF hS
   replace hS : St _ (_) (_ :: _ :: _ :: _ :: _) _ := hS
   refine wpl_sq hF hS (sq rfl (q_assign rfl) <|
     sq_end) ?_
   clear hF hS; intro a w hF hS
   refine wpList_nil ?_
   refine hK10 _ _ ?_
   clear hK10
   refine wp_seq_k ?_; intro K11 hK11
   refine reg hF hS (sq rfl (q_move rfl) <|
     sq rfl (q_nei rfl rfl) <|
     sq_end) ?_
   clear hF hS; intro a w hF hS
   refine hK11 _ _ ?_
   clear hK11
   refine wp_ifn hF rfl (fun hc3 => ?_) (fun hc3 => ?_)
   ·refine wp_seq_k ?_; intro K12 hK12
    refine reg hF hS (sq rfl (q_move rfl) <|
      sq rfl (q_assign rfl) <|
      sq_end) ?_
    clear hF hS; intro a w hF hS
    refine hK12 _ _ ?_
    clear hK12
    refine wp_ret ?_
    exact fn_retx (rs := [.tmp 6]) rfl hF hS (vs := [_]) ⟨rfl, trivial⟩ [] [_, _, _, _] sQ sQ (Dk.dr_of (S := (Dk.step S).1) ⟨rfl, rfl, _, _, _, _, rfl, hD12⟩ (by rw [Dk.write_3 hc0 h64 hc3]) (by rw [Dk.write_3 hc0 h64 hc3]))
   ·have hs0 : (Dk.step S).2 = 0 := by omega
    have hir2 : 0 ≤ i ∧ i < (Dk.step S).1.s.length := by rw [Dk.step_s]; exact hir
    obtain ⟨l, e1, c1, m1, e2, c2, m2, hO, hl, hlr, hM1, hM2, hP, hW, rfl, rfl, rfl, rfl⟩ := hD12
    have hlo := hO.lo
    have hhi := hO.hi
    have hlf := hO.lf
    have hlg := hO.lf2
    have hbl := Dk.bl_len (Dk.step S).1
    have hbs := Dk.bl_64 hO
    replace hS : St _ (_) (_ :: _ :: _ :: _ :: _) _ := hS
    refine wp_skip ?_
    refine hK9 _ _ ?_
    clear hK9
    refine wp_seq_k ?_; intro K13 hK13
    revert hS; revert hF; apply regJ (J := J4 (α0 := Value) (α1 := PH) (α2 := List MapEntry) (α3 := Nat) 32 _ _ _ _ _) #[false, false, false, false, false, false, false, false, false, false] 10 mixed rfl rfl
    ·intro w hF hS
     refine goW_take 0 _ rfl kQ rfl hF (hS.keep sQ (sQ.n.n.n.n)) (q_move rfl) ?_
     clear hF; intro a hF
     refine goW_take 1 _ rfl kQ rfl hF (hS.keep sQ (sQ.n.n.n.n)) (q_nilCheck rfl) ?_
     clear hF; intro a hF
     refine goW_take 2 _ rfl kQ rfl hF (hS.keep sQ (sQ.n.n.n.n)) (q_fieldAddr ty77 rfl rfl (s' := 0) kQ) ?_
     clear hF; intro a hF
     refine goW_take 3 _ rfl kQ rfl hF (hS.keep sQ (sQ.n.n.n.k)) (q_ld_blk1 ty75 0 rfl rfl rfl rfl) ?_
     clear hF; intro a hF
     refine goW_take 4 _ rfl kQ rfl hF (hS.keep sQ (sQ.n.n.n.n)) (q_move rfl) ?_
     clear hF; intro a hF
     refine goW_take 5 _ rfl kQ rfl hF (hS.keep sQ (sQ.n.n.n.n)) (q_move rfl) ?_
     clear hF; intro a hF
     refine gQ 6 rfl rfl hF hS rfl (ef_s2b ty9 ty81 ty5 rfl (by omega)) ?_
     clear hF hS; rintro v_9_6 _ _ a w ⟨z_9_6, rfl, rfl, hz_9_6⟩ hF hS
     refine ⟨⟨iQ, .inr (hS.keep (sQ.n) (sQ.n.n.n.n)), .inr (hS.keep (sQ.n) (sQ.n.n.n.k)), .inr (hS.keep (sQ.n) (sQ.n.n.n.n)), .inr (hS.keep (sQ.n) (sQ.n.n.n.n)), .inr (hS.keep (sQ.n) (sQ.n.n.n.n)), trivial⟩, ?_⟩
     refine goW_take 7 _ rfl kQ rfl hF (hS.keep sQ (sQ.n.n.n.n)) (q_s2ap_sl ty86 hz_9_6 rfl bQ (by decide)) ?_
     clear hF; intro a hF
     refine goW_take 8 _ rfl kQ rfl hF (hS.keep sQ (sQ.n.n.n.n)) (q_ld_B16 ty86 hz_9_6 (.inr (by simp)) rfl rfl bQ (by decide)) ?_
     clear hF; intro a hF
     refine gQ 9 rfl rfl hF hS rfl (ef_mapsetT ty75 (key_I ty3) 2 rfl rfl rfl rfl hM1 (fun _ _ => trivial) trivial) ?_
     clear hF hS; rintro _ _ _ a w ⟨es9, c9, hM9, rfl, rfl, rfl⟩ hF hS
     replace hS : St _ (_ :: _) (_ :: _ :: _ :: _ :: _) _ := hS
     refine ⟨⟨iQ, iQ, iQ, iQ, iQ, iQ, iQ, iQ, trivial⟩, ?_⟩
     exact goW_done kQ (j4_mk v_9_6 z_9_6 es9 c9 ((And.intro hz_9_6 (And.intro hM9 trivial))) (hF.sub (L' := []) trivial) hS)
    rintro a w ⟨v_9_6, z_9_6, es9, c9, ⟨hz_9_6, hM9, -⟩, hF, hS⟩
    (try dsimp only at hF); (try dsimp only at hS)
    refine hK13 _ _ ?_
    clear hK13
    refine wp_seq_k ?_; intro K14 hK14
    refine reg hF hS (sq rfl (q_assign rfl) <|
      sq_end) ?_
    clear hF hS; intro a w hF hS
    refine hK14 _ _ ?_
    clear hK14
    refine wp_ret ?_
    exact fn_retx (rs := [.tmp 6]) rfl hF hS (vs := [_]) ⟨rfl, trivial⟩ [] [_, _, _, _] (sQ.n) sQ (Dk.dr_of (S := Dk.mark (Dk.step S).1 i t) ⟨rfl, rfl, _, _, _, _, rfl, ⟨l, _, _, _, e2, c2, m2, (Dk.ok_mark hO hir2 h64), hl, hlr, hM9, hM2, (hP.put (Dk.pend_mark hir2 t)), (hW.eq (Dk.wrn_put hir2 rfl)), rfl, (by rw [Dk.mark_bl hir2, Dk.mark_len]), rfl, rfl⟩⟩ (by rw [Dk.write_4 hc0 h64 hs0]) (by rw [Dk.write_4 hc0 h64 hs0]))
end Go.Proofs.YtibbhobfdbfkkaaGreatDoor
end

section
namespace Go.Proofs.YtibbhobfdbfkkaaGreatDoor
open Go.Fw
theorem ty45 : Tf Tryz.prog 45 (.map 3 4) 1 8 (Value.map none) := ⟨Tryz.underlying45, by kernel_rfl⟩

set_option maxRecDepth 4000 in
set_option maxHeartbeats 2000000 in
theorem dsettle_ct (h : Dk.Hd) (S : Dk.Dsk) (i p : Int) (hi : 0 ≤ i ∧ i < S.s.length) (hd : (S.at i).dt = true) (hp : -9223372036854775808 ≤ p ∧ p ≤ 9223372036854775807) (w0 : World) (zsr : List PH) {r1 r2 r3 r4 : Res} (hD : DD h S r1 r2 r3 r4) : Cx Tryz.prog 65 [.pointer (some ⟨h.b, 0, none⟩), vi i, vi p] w0 zsr [r1, r2, r3, r4] (DDR h (S.put i (Dk.settle1 (S.at i) p)) (.tuple ([] : List Value).toArray)) := by
 refine fn_enterx Tryz.func65 rfl Tryz.ntmps65 (Nat.le_of_ble_eq_true rfl) fun hsr a w hF hS => ?_
 replace hS : St _ (_) (_ :: _ :: _ :: _ :: _) _ := hS
 obtain ⟨l, e1, c1, m1, e2, c2, m2, hO, hl, hlr, hM1, hM2, hP, hW, rfl, rfl, rfl, rfl⟩ := hD
 have hlo := hO.lo
 have hhi := hO.hi
 have hlf := hO.lf
 have hlg := hO.lf2
 have hbl := Dk.bl_len S
 have hbs := Dk.bl_64 hO
 replace hS : St _ (_) (_ :: _ :: _ :: _ :: _) _ := hS
 have hpg := Dk.pget_len hO hi
 have hbg : ((Dk.bl S).getD i.toNat []).length = 64 := by rw [Dk.bl_at hi]; exact (hO.at hi).1
 refine wp_seq_k ?_; intro K1 hK1
 refine regl ?_
 refine wpl_sq hF hS (sq rfl (q_move rfl) <|
   sq rfl (q_nilCheck rfl) <|
   sq rfl (q_fieldAddr ty77 rfl rfl (s' := 0) kQ) <|
   sq rfl (q_ld_blk1 ty75 0 rfl rfl rfl rfl) <|
   sq rfl (q_move rfl) <|
   sq rfl (q_lookupD ty75 ty86 (key_I ty3) 2 rfl rfl rfl hM1.1 (fun _ _ => trivial) trivial (Dk.pend_get hP hi)) <|
   sq_end) ?_
 clear hF hS; intro a w hF hS
 refine wpl_ef hF hS rfl (ef_allocA ty86) ?_
 clear hF hS; rintro _ _ _ a w ⟨b1, rfl, rfl, rfl⟩ hF hS
 rw [show List.replicate 64 (Value.int .u8 0) = (List.replicate 64 (0 : UInt8)).map vb from by rw [List.map_replicate] <;> rfl] at hS
 refine wpl_ef hF hS rfl (ef_storeW ty86 0 rfl rfl rfl rfl bQ oQ bQ) ?_
 clear hF hS; rintro _ _ _ a w ⟨rfl, rfl, rfl⟩ hF hS
 replace hS : St _ (_) (_ :: _ :: _ :: _ :: _ :: _) _ := hS
 refine wpList_nil ?_
 refine hK1 _ _ ?_
 clear hK1
 refine wp_seq_k ?_; intro K2 hK2
 refine regl ?_
 refine wpl_sq hF hS (sq rfl (q_move rfl) <|
   sq rfl (q_nilCheck rfl) <|
   sq rfl (q_fieldAddr ty77 rfl rfl (s' := 0) kQ) <|
   sq rfl (q_ld_blk1 ty75 1 rfl rfl rfl rfl) <|
   sq rfl (q_move rfl) <|
   sq_end) ?_
 clear hF hS; intro a w hF hS
 refine wpl_ef hF hS rfl (ef_mapdelT ty75 (key_I ty3) 3 rfl rfl rfl hM1 (fun _ _ => trivial) trivial) ?_
 clear hF hS; rintro _ _ _ a w ⟨es9, c9, hM9, rfl, rfl⟩ hF hS
 replace hS : St _ (_) (_ :: _ :: _ :: _ :: _ :: _) _ := hS
 refine wpList_nil ?_
 refine hK2 _ _ ?_
 clear hK2
 refine wp_seq_k ?_; intro K3 hK3
 refine regq mixed kQ hS ?_
 refine wpq_seg hF (sq rfl (q_move rfl) <|
   sq rfl (q_nilCheck rfl) <|
   sq rfl (q_fieldAddr ty77 rfl rfl (s' := 0) kQ) <|
   sq rfl (q_ld_blk1 ty45 1 rfl rfl rfl rfl) <|
   sq rfl (q_move rfl) <|
   sq rfl (q_lookupD ty45 ty4 (key_I ty3) 4 rfl rfl rfl hM2.1 (fun _ _ => trivial) trivial (Dk.wrn_get hW hi)) <|
   sq rfl (q_not rfl) <|
   sq rfl (q_move rfl) <|
   sq_end) ?_
 clear hF; intro a hF
 refine wpq_and 7 25 9 hF rfl rfl rfl rfl rfl (fun hg => have hg := hg; sq_go 25 rfl rfl rfl (q_ld_blkW ty86 0 rfl rfl bQ rfl) <|
   sq_go 25 rfl rfl rfl (q_move rfl) <|
   sq_go 25 rfl rfl rfl (q_nilCheck rfl) <|
   sq_go 25 rfl rfl rfl (q_fieldAddr ty77 rfl rfl (s' := 0) kQ) <|
   sq_go 25 rfl rfl rfl (q_ld_blk1 ty74 1 rfl rfl rfl rfl) <|
   sq_go 25 rfl rfl rfl (q_move rfl) <|
   sq_go 25 rfl rfl rfl (q_idx_row ty74 ty86 2 rfl rfl rfl (by omega)) <|
   sq_go 25 rfl rfl rfl (q_ld_rowA ty86 2 rfl (Dk.bl_64 hO) rfl (by omega) (by decide) rfl) <|
   sq_go 25 rfl rfl rfl (q_neAB ty86 ty5 kQ rfl rfl bQ bQ) <|
   sq_end) rfl rfl ?_
 clear hF; intro a hF
 refine wpq_nil ?_
 clear hS; intro w hS
 refine hK3 _ _ ?_
 clear hK3
 refine wp_if hF rfl (fun hc1 => ?_) (fun hc1 => ?_)
 ·(try simp only [Bool.or_eq_true, Bool.and_eq_true, Bool.or_eq_false_iff, Bool.and_eq_false_iff, decide_eq_true_eq, decide_eq_false_iff_not, Bool.not_eq_true', Bool.not_eq_false'] at hc1)
  refine regt 11 mixed kQ hF hS (sq rfl (q_move rfl) <|
    sq rfl (q_nilCheck rfl) <|
    sq rfl (q_fieldAddr ty77 rfl rfl (s' := 0) kQ) <|
    sq rfl (q_ld_blk1 ty74 1 rfl rfl rfl rfl) <|
    sq rfl (q_move rfl) <|
    sq rfl (q_idx_row ty74 ty86 2 rfl rfl rfl (by omega)) <|
    sq rfl (q_move rfl) <|
    sq rfl (q_min rfl rfl) <|
    sq rfl (q_max rfl rfl) <|
    sq rfl (q_slE_hi ty86 ty5 2 rfl rfl rfl (by omega) (by omega)) <|
    sq rfl (q_sla ty86 ty5 rfl) <|
    sq_end) ?_
  clear hF hS; intro a w hF hS
  refine wpl_ef hF hS rfl (ef_copy_rowSl ty81 ty5 2 0 rfl rfl hbs hbl.symm rfl rfl (by omega) (by omega) hpg) ?_
  clear hF hS; rintro _ _ _ a w ⟨rfl, rfl, rfl⟩ hF hS
  replace hS : St _ (_) (_ :: _ :: _ :: _ :: _ :: _) _ := hS
  refine wpList_nil ?_
  -- falls off the end
  replace hS := hS.perm (.swap _ _ _)
  replace hS := hS.perm (.cons _ (.swap _ _ _))
  replace hS := hS.perm (.cons _ (.cons _ (.swap _ _ _)))
  replace hS := hS.perm (.cons _ (.cons _ (.cons _ (.swap _ _ _))))
  exact fn_retx (rs := []) rfl hF hS (vs := []) trivial [] [_, _, _, _] sQ (sQ.n.k.k.k.k) (Dk.dr_of (S := S.put i (Dk.settle1 (S.at i) p)) ⟨rfl, rfl, _, _, _, _, rfl, ⟨l, _, _, _, e2, c2, m2, (hO.put (Dk.settle_ok (hO.at hi) hd p)), hl, hlr, hM9, hM2, (hP.del (Dk.pend_settle hi rfl)), (hW.eq (Dk.wrn_put hi rfl)), rfl, (by rw [Dk.settle_len, ← Dk.settle_bl1 hi hd (by simpa using hc1.1)]; try rfl), rfl, rfl⟩⟩ (rfl) (rfl))
 ·(try simp only [Bool.or_eq_true, Bool.and_eq_true, Bool.or_eq_false_iff, Bool.and_eq_false_iff, decide_eq_true_eq, decide_eq_false_iff_not, Bool.not_eq_true', Bool.not_eq_false'] at hc1)
  refine wp_skip ?_
  -- falls off the end
  replace hS := hS.perm (.swap _ _ _)
  replace hS := hS.perm (.cons _ (.swap _ _ _))
  replace hS := hS.perm (.cons _ (.cons _ (.swap _ _ _)))
  replace hS := hS.perm (.cons _ (.cons _ (.cons _ (.swap _ _ _))))
  exact fn_retx (rs := []) rfl hF hS (vs := []) trivial [] [_, _, _, _] sQ (sQ.n.k.k.k.k) (Dk.dr_of (S := S.put i (Dk.settle1 (S.at i) p)) ⟨rfl, rfl, _, _, _, _, rfl, ⟨l, _, _, _, e2, c2, m2, (hO.put (Dk.settle_ok (hO.at hi) hd p)), hl, hlr, hM9, hM2, (hP.del (Dk.pend_settle hi rfl)), (hW.eq (Dk.wrn_put hi rfl)), rfl, (by rw [Dk.settle_len, ← Dk.settle_bl2 hO hi hd (hc1.imp (fun h9 => by simpa using h9) (fun h9 => by simpa using h9))]), rfl, rfl⟩⟩ (rfl) (rfl))

set_option maxRecDepth 4000 in
set_option maxHeartbeats 2000000 in
theorem drot_ct (h : Dk.Hd) (S : Dk.Dsk) (i b : Int) (hi : -9223372036854775808 ≤ i ∧ i ≤ 9223372036854775807) (hb : -9223372036854775808 ≤ b ∧ b ≤ 9223372036854775807) (w0 : World) (zsr : List PH) {r1 r2 r3 r4 : Res} (hD : DD h S r1 r2 r3 r4) : Cx Tryz.prog 17 [.pointer (some ⟨h.b, 0, none⟩), vi i, vi b] w0 zsr [r1, r2, r3, r4] (DDR h ((Dk.rot S i b).1) (vi (Dk.rot S i b).2)) := by
 refine fn_enterx Tryz.func17 rfl Tryz.ntmps17 (Nat.le_of_ble_eq_true rfl) fun hsr a w hF hS => ?_
 replace hS : St _ (_) (_ :: _ :: _ :: _ :: _) _ := hS
 obtain ⟨l, e1, c1, m1, e2, c2, m2, hO, hl, hlr, hM1, hM2, hP, hW, rfl, rfl, rfl, rfl⟩ := hD
 have hlo := hO.lo
 have hhi := hO.hi
 have hlf := hO.lf
 have hlg := hO.lf2
 have hbl := Dk.bl_len S
 have hbs := Dk.bl_64 hO
 replace hS : St _ (_) (_ :: _ :: _ :: _ :: _) _ := hS
 refine wp_seq_k ?_; intro K1 hK1
 refine reg hF hS (sq rfl (q_assign rfl) <|
   sq_end) ?_
 clear hF hS; intro a w hF hS
 refine hK1 _ _ ?_
 clear hK1
 refine wp_seq_k ?_; intro K2 hK2
 refine wp_seq_k ?_; intro K3 hK3
 refine regl ?_
 refine wpl_sq hF hS (sq rfl (q_move rfl) <|
   sq rfl (q_lti rfl rfl) <|
   sq rfl (q_move rfl) <|
   sq_end) ?_
 clear hF hS; intro a w hF hS
 refine wpl_or 2 9 7 hF hS rfl rfl rfl rfl rfl (fun hg => have hg := (by first | exact of_decide_eq_false hg | exact hg); sq_go 9 rfl rfl rfl (q_move rfl) <|
   sq_go 9 rfl rfl rfl (q_move rfl) <|
   sq_go 9 rfl rfl rfl (q_nilCheck rfl) <|
   sq_go 9 rfl rfl rfl (q_fieldAddr ty77 rfl rfl (s' := 0) kQ) <|
   sq_go 9 rfl rfl rfl (q_ld_blk1 ty74 0 rfl rfl rfl rfl) <|
   sq_go 9 rfl rfl rfl (q_len_row ty74 1 rfl rfl) <|
   sq_go 9 rfl rfl rfl (q_gei rfl rfl) <|
   sq_end) rfl rfl ?_
 clear hF hS; intro a w hF hS
 refine wpl_sq hF hS (sq rfl (q_move rfl) <|
   sq_end) ?_
 clear hF hS; intro a w hF hS
 refine wpl_or 11 18 2 hF hS rfl rfl rfl rfl rfl (fun hg => have hg := hg; sq_go 18 rfl rfl rfl (q_move rfl) <|
   sq_go 18 rfl rfl rfl (q_lti rfl rfl) <|
   sq_end) rfl rfl ?_
 clear hF hS; intro a w hF hS
 refine wpl_sq hF hS (sq rfl (q_move rfl) <|
   sq_end) ?_
 clear hF hS; intro a w hF hS
 refine wpl_or 15 22 2 hF hS rfl rfl rfl rfl rfl (fun hg => have hg := hg; sq_go 22 rfl rfl rfl (q_move rfl) <|
   sq_go 22 rfl rfl rfl (q_gei rfl rfl) <|
   sq_end) rfl rfl ?_
 clear hF hS; intro a w hF hS
 refine wpList_nil ?_
 refine hK3 _ _ ?_
 clear hK3
 refine wp_if hF rfl (fun hc1 => ?_) (fun hc1 => ?_)
 ·(try simp only [Bool.or_eq_true, Bool.and_eq_true, Bool.or_eq_false_iff, Bool.and_eq_false_iff, decide_eq_true_eq, decide_eq_false_iff_not, Bool.not_eq_true', Bool.not_eq_false'] at hc1)
  refine wp_seq_k ?_; intro K4 hK4
  refine reg hF hS (sq rfl (q_assign rfl) <|
    sq_end) ?_
  clear hF hS; intro a w hF hS
  refine hK4 _ _ ?_
  clear hK4
  refine wp_ret ?_
  exact fn_retx (rs := [.tmp 6]) rfl hF hS (vs := [_]) ⟨rfl, trivial⟩ [] [_, _, _, _] sQ sQ (Dk.dr_of (S := S) ⟨rfl, rfl, _, _, _, _, rfl, ⟨l, e1, c1, m1, e2, c2, m2, hO, hl, hlr, hM1, hM2, hP, hW, rfl, rfl, rfl, rfl⟩⟩ (by rw [Dk.rot_no (by omega)]) (by rw [Dk.rot_no (by omega)]))
 ·(try simp only [Bool.or_eq_true, Bool.and_eq_true, Bool.or_eq_false_iff, Bool.and_eq_false_iff, decide_eq_true_eq, decide_eq_false_iff_not, Bool.not_eq_true', Bool.not_eq_false'] at hc1)
  have hir : 0 ≤ i ∧ i < S.s.length := by omega
  have hbr : 0 ≤ b ∧ b < 512 := by omega
  refine wp_skip ?_
  refine hK2 _ _ ?_
  clear hK2
  refine wp_seq_k ?_; intro K5 hK5
  refine regt 16 mixed kQ hF hS (sq rfl (q_move rfl) <|
    sq rfl (q_nilCheck rfl) <|
    sq rfl (q_fieldAddr ty77 rfl rfl (s' := 0) kQ) <|
    sq rfl (q_ld_blk1 ty74 0 rfl rfl rfl rfl) <|
    sq rfl (q_move rfl) <|
    sq rfl (q_move rfl) <|
    sq rfl (q_quoi rfl rfl (by omega)) <|
    sq rfl (q_idx_row ty74 ty86 1 rfl rfl rfl (by omega)) <|
    sq rfl (q_idx_rowE ty86 ty5 1 rfl rfl rfl (by omega) (by omega)) <|
    sq rfl (q_ld_row ty5 1 rfl rfl (flat_at hbs (k := i.toNat) (i := (b / 8).toNat) (by omega) (by omega)) rfl) <|
    sq rfl (q_move rfl) <|
    sq rfl (q_remi rfl rfl (by omega)) <|
    sq rfl (q_shlb (p := 1) rfl rfl (by omega)) <|
    sq rfl (q_xorb rfl rfl) <|
    sq rfl (q_idx_row ty74 ty86 1 rfl rfl rfl (by omega)) <|
    sq rfl (q_idx_rowE ty86 ty5 1 rfl rfl rfl (by omega) (by omega)) <|
    sq_end) ?_
  clear hF hS; intro a w hF hS
  refine wpl_ef hF hS rfl (ef_st_cell ty5 1 rfl rfl rfl (by omega) rfl) ?_
  clear hF hS; rintro _ _ _ a w ⟨rfl, rfl, rfl⟩ hF hS
  replace hS : St _ (_) (_ :: _ :: _ :: _ :: _) _ := hS
  refine wpList_nil ?_
  rw [flat_set1 hbs (by omega) (by omega)] at hS
  refine hK5 _ _ ?_
  clear hK5
  refine wp_seq_k ?_; intro K6 hK6
  refine reg hF hS (sq rfl (q_assign rfl) <|
    sq_end) ?_
  clear hF hS; intro a w hF hS
  refine hK6 _ _ ?_
  clear hK6
  refine wp_ret ?_
  exact fn_retx (rs := [.tmp 6]) rfl hF hS (vs := [_]) ⟨rfl, trivial⟩ [] [_, _, _, _] sQ sQ (Dk.dr_of (S := S.put i ⟨Dk.flip (S.at i).tx b, (S.at i).nx, (S.at i).dt, (S.at i).wn⟩) ⟨rfl, rfl, _, _, _, _, rfl, ⟨l, e1, c1, m1, e2, c2, m2, (hO.put ⟨by rw [Dk.flip_len]; exact (hO.at hir).1, (hO.at hir).2⟩), hl, hlr, hM1, hM2, (hP.eq (Dk.pend_put hir rfl rfl)), (hW.eq (Dk.wrn_put hir rfl)), rfl, (by rw [Dk.put_len, ← Dk.rot_bl hir]; rfl), rfl, rfl⟩⟩ (by rw [Dk.rot_ok hir hbr]) (by rw [Dk.rot_ok hir hbr]))

end Go.Proofs.YtibbhobfdbfkkaaGreatDoor
end

section
namespace Go.Proofs.YtibbhobfdbfkkaaGreatDoor
open Go.Fw
theorem ty22 : Tf Tryz.prog 22 (.slice 9) 1 24 (Value.slice none 0 0) := ⟨Tryz.underlying22, by kernel_rfl⟩
theorem fn83 : FnOk Tryz.prog 83 := ⟨_, Tryz.func83, rfl, by kernel_rfl⟩
theorem fn84 : FnOk Tryz.prog 84 := ⟨_, Tryz.func84, rfl, by kernel_rfl⟩

abbrev DDWi := Dk.DRw 77 86 3
abbrev DDWs := Dk.DRw 77 86 9
abbrev DDN := Dk.DRn 77 86
abbrev DDC := Dk.DRc 77 86

theorem sortsin : Go.Proofs.AnyZI.SortsIn Tryz.prog lsA_ren Fence.wide 4 := ⟨fun blk off cap ss W hH hblk hsz => callsIn_wide.2 (Go.Proofs.AnyM.slices_Sort_int lsS blk off cap ss W hH hblk hsz), fun p cap W => callsIn_wide.2 (Go.Proofs.AnyM.slices_Sort_int_none lsS p cap W)⟩

set_option maxRecDepth 4000 in
set_option maxHeartbeats 2000000 in
theorem keysP_ct (b : Nat) (w : World) : Ct Tryz.prog 84 [.map (some b)] w (fun r zs hs => ∃ e, r = .func (.func 99) (List.nil : List Value).toArray [Value.pointer (some ⟨e, 0, none⟩)].toArray ∧ zs = [] ∧ hs = [.blk e 75 [.map (some b)]]) := by
 refine fn_enter Tryz.func84 rfl Tryz.ntmps84 (Nat.le_of_ble_eq_true rfl) fun a hF hS => ?_
 refine wp_seq_k ?_; intro K1 hK1
 refine regl ?_
 refine wpl_ef hF hS rfl (ef_box1 rfl rfl) ?_
 clear hF hS; rintro _ _ _ a w ⟨b1, rfl, rfl, rfl⟩ hF hS
 refine wpl_sq hF hS (sq rfl (q_assign rfl) <|
   sq_end) ?_
 clear hF hS; intro a w hF hS
 refine wpList_nil ?_
 refine hK1 _ _ ?_
 clear hK1
 refine wp_seq_k ?_; intro K2 hK2
 refine reg hF hS (sq rfl (q_mkf rfl rfl) <|
   sq rfl (q_assign rfl) <|
   sq_end) ?_
 clear hF hS; intro a w hF hS
 refine hK2 _ _ ?_
 clear hK2
 refine wp_ret ?_
 exact fn_ret (rs := [.tmp 2]) rfl hF hS (vs := [_]) ⟨rfl, trivial⟩ sQ sQ ⟨_, rfl, rfl, rfl⟩

theorem sortedP_ct {l : List (Int × Value)} {es : List MapEntry} {c e b : Nat} (hM : MpT vi l es c) (hn : (l.map (·.1)).Nodup) (hk : ∀ i ∈ l.map (·.1), -9223372036854775808 ≤ i ∧ i ≤ 9223372036854775807) (hl : l.length ≤ 4096) (w0 : World) (zsr : List PH) : Cx Tryz.prog 83 [.func (.func 99) (List.nil : List Value).toArray [Value.pointer (some ⟨e, 0, none⟩)].toArray] w0 zsr [.blk e 75 [.map (some b)], .mp b es c] (fun v zs1 hs1 => zs1 = [] ∧ hs1 = [.row v 3 1 ((l.map (·.1)).mergeSort (fun x y => decide (x ≤ y))).length (((l.map (·.1)).mergeSort (fun x y => decide (x ≤ y))).map vi), .blk e 75 [.map (some b)], .mp b es c]) := sorted_cx lkP lsA sortsin 3 rfl rfl Tryz.underlying3 (Go.Proofs.enters_of Tryz.func98 kQ rfl) (Go.Proofs.enters_of Tryz.func99 kQ rfl) hM hn hk hl w0 zsr

set_option maxRecDepth 4000 in
set_option maxHeartbeats 2000000 in
theorem dpending_ct (h : Dk.Hd) (S : Dk.Dsk) (w0 : World) (zsr : List PH) {r1 r2 r3 r4 : Res} (hD : DD h S r1 r2 r3 r4) : Cx Tryz.prog 64 [.pointer (some ⟨h.b, 0, none⟩)] w0 zsr [r1, r2, r3, r4] (DDWi h S (Dk.dix S).length ((Dk.dix S).map vi)) := by
 refine fn_enterx Tryz.func64 rfl Tryz.ntmps64 (Nat.le_of_ble_eq_true rfl) fun hsr a w hF hS => ?_
 replace hS : St _ (_) (_ :: _ :: _ :: _ :: _) _ := hS
 obtain ⟨l, e1, c1, m1, e2, c2, m2, hO, hl, hlr, hM1, hM2, hP, hW, rfl, rfl, rfl, rfl⟩ := hD
 have hlo := hO.lo
 have hhi := hO.hi
 have hlf := hO.lf
 have hlg := hO.lf2
 have hbl := Dk.bl_len S
 have hbs := Dk.bl_64 hO
 replace hS : St _ (_) (_ :: _ :: _ :: _ :: _) _ := hS
 refine wp_seq_k ?_; intro K1 hK1
 refine reg hF hS (sq rfl (q_assign rfl) <|
   sq_end) ?_
 clear hF hS; intro a w hF hS
 refine hK1 _ _ ?_
 clear hK1
 refine wp_seq_k ?_; intro K2 hK2
 refine regl ?_
 refine wpl_sq hF hS (sq rfl (q_move rfl) <|
   sq rfl (q_nilCheck rfl) <|
   sq rfl (q_fieldAddr ty77 rfl rfl (s' := 0) kQ) <|
   sq rfl (q_ld_blk1 ty75 0 rfl rfl rfl rfl) <|
   sq_end) ?_
 clear hF hS; intro a w hF hS
 refine wpl_ef hF hS rfl (ef_call fn84 rfl (fun w hS => keysP_ct _ w )) ?_
 clear hF hS; rintro _ _ _ a w ⟨_, _, rfl, rfl, ⟨bx2, rfl, rfl, rfl⟩⟩ hF hS
 replace hS : St _ (_) (_ :: _ :: _ :: _ :: _ :: _) _ := hS
 replace hS := hS.perm (.cons _ (.cons _ (.swap _ _ _)))
 replace hS := hS.perm (.cons _ (.swap _ _ _))
 replace hS : St _ (_) (_ :: _ :: _ :: _ :: _ :: _) _ := hS
 refine wpl_ef hF hS rfl (ef_callx fn83 rfl (List.Perm.refl _) (by exact (sortedP_ct hM1 hP.1 (Dk.mok_rng Dk.pend_some hO hP) (Dk.len_d hO hP) _ _ (b := h.p) ))) ?_
 clear hF hS; rintro v3 _ _ a w ⟨_, _, rfl, rfl, ⟨rfl, rfl⟩⟩ hF hS
 replace hS : St _ (_) (_ :: _ :: _ :: _ :: _ :: _ :: _) _ := hS
 refine wpl_sq hF hS (sq rfl (q_assign rfl) <|
   sq_end) ?_
 clear hF hS; intro a w hF hS
 refine wpList_nil ?_
 rw [Dk.keys_d hP] at hS
 refine hK2 _ _ ?_
 clear hK2
 refine wp_ret ?_
 replace hS := hS.perm (.cons _ (.cons _ (.swap _ _ _)))
 replace hS := hS.perm (.cons _ (.swap _ _ _))
 replace hS := hS.perm (.cons _ (.cons _ (.cons _ (.swap _ _ _))))
 replace hS := hS.perm (.cons _ (.cons _ (.swap _ _ _)))
 replace hS := hS.perm (.cons _ (.cons _ (.cons _ (.swap _ _ _))))
 replace hS := hS.perm (.cons _ (.cons _ (.cons _ (.cons _ (.swap _ _ _)))))
 exact fn_retx (rs := [.tmp 2]) rfl hF hS (vs := [_]) ⟨rfl, trivial⟩ [] [_, _, _, _, _] sQ (sQ.n.k.k.k.k.k) (Dk.drw_of ⟨rfl, _, _, _, _, rfl, ⟨l, e1, c1, m1, e2, c2, m2, hO, hl, hlr, hM1, hM2, hP, hW, rfl, rfl, rfl, rfl⟩⟩ (rfl) (rfl))

set_option maxRecDepth 4000 in
set_option maxHeartbeats 2000000 in
theorem dimage_ct (h : Dk.Hd) (S : Dk.Dsk) (w0 : World) (zsr : List PH) {r1 r2 r3 r4 : Res} (hD : DD h S r1 r2 r3 r4) : Cx Tryz.prog 19 [.pointer (some ⟨h.b, 0, none⟩)] w0 zsr [r1, r2, r3, r4] (DDWs h S (Dk.image S).length ((Dk.image S).map vs)) := by
 refine fn_enterx Tryz.func19 rfl Tryz.ntmps19 (Nat.le_of_ble_eq_true rfl) fun hsr a w hF hS => ?_
 replace hS : St _ (_) (_ :: _ :: _ :: _ :: _) _ := hS
 obtain ⟨l, e1, c1, m1, e2, c2, m2, hO, hl, hlr, hM1, hM2, hP, hW, rfl, rfl, rfl, rfl⟩ := hD
 have hlo := hO.lo
 have hhi := hO.hi
 have hlf := hO.lf
 have hlg := hO.lf2
 have hbl := Dk.bl_len S
 have hbs := Dk.bl_64 hO
 replace hS : St _ (_) (_ :: _ :: _ :: _ :: _) _ := hS
 refine wp_seq_k ?_; intro K1 hK1
 refine reg hF hS (sq rfl (q_assign rfl) <|
   sq_end) ?_
 clear hF hS; intro a w hF hS
 refine hK1 _ _ ?_
 clear hK1
 refine wp_seq_k ?_; intro K2 hK2
 refine regl ?_
 refine wpl_sq hF hS (sq rfl (q_move rfl) <|
   sq rfl (q_nilCheck rfl) <|
   sq rfl (q_fieldAddr ty77 rfl rfl (s' := 0) kQ) <|
   sq rfl (q_ld_blk1 ty74 0 rfl rfl rfl rfl) <|
   sq rfl (q_len_row ty74 1 rfl rfl) <|
   sq_end) ?_
 clear hF hS; intro a w hF hS
 refine wpl_ef hF hS rfl (ef_mks ty22 ty9 rfl rfl bQ bQ rfl) ?_
 clear hF hS; rintro v1 _ _ a w ⟨rfl, rfl⟩ hF hS
 replace hS : St _ (_) (_ :: _ :: _ :: _ :: _ :: _) _ := hS
 refine wpl_sq hF hS (sq rfl (q_assign rfl) <|
   sq_end) ?_
 clear hF hS; intro a w hF hS
 refine wpList_nil ?_
 refine hK2 _ _ ?_
 clear hK2
 refine wp_seq_k ?_; intro K3 hK3
 refine wp_seq_k ?_; intro K4 hK4
 refine reg hF hS (sq rfl (q_move rfl) <|
   sq rfl (q_nilCheck rfl) <|
   sq rfl (q_fieldAddr ty77 rfl rfl (s' := 0) kQ) <|
   sq rfl (q_ld_blk1 ty74 1 rfl rfl rfl rfl) <|
   sq rfl (q_len_row ty74 2 rfl rfl) <|
   sq rfl (q_move rfl) <|
   sq_end) ?_
 clear hF hS; intro a w hF hS
 refine hK4 _ _ ?_
 clear hK4
 refine wp_block ?_
 obtain ⟨hs0, hhs0, hS⟩ : ∃ h, h = _ ∧ St _ _ h _ := ⟨_, rfl, hS⟩
 refine wp_loopx (γ := Nat) (0) (fun (k : Nat) => [(16, vi (k : Int))]) [(0, _), (3, _), (15, _)] (fun (k : Nat) => (hs0.set 0 (.row v1 9 1 S.s.length ((Dk.im S k).map vs)))) (fun (k : Nat) => k ≤ S.s.length) (fun (k : Nat) => S.s.length - k) (hF.sub ⟨rfl, rfl, rfl, rfl, trivial⟩) (by subst hhs0; (try dsimp only); rw [Dk.im_0, List.map_replicate]; exact hS) (by exact Nat.zero_le _) ?_
 clear hF hS; rintro k a w hfact hF hS
 subst hhs0; (try dsimp only at hfact); (try dsimp only at hF); (try dsimp only at hS)
 have hk0 := hfact
 replace hS : St _ (_) (_ :: _ :: _ :: _ :: _ :: _) _ := hS
 have hil := Dk.im_len S hk0
 refine wp_seq_k ?_; intro K5 hK5
 refine reg hF hS (sq rfl (q_lti rfl rfl) <|
   sq_end) ?_
 clear hF hS; intro a w hF hS
 refine hK5 _ _ ?_
 clear hK5
 refine wp_seq_k ?_; intro K6 hK6
 refine wp_ifd hF rfl (fun hc1 => ?_) (fun hc1 => ?_)
 ·refine wp_skip ?_
  refine hK6 _ _ ?_
  clear hK6
  refine wp_seq_k ?_; intro K7 hK7
  refine wp_block ?_
  refine wp_seq_k ?_; intro K8 hK8
  refine reg hF hS (sq rfl (q_move rfl) <|
    sq rfl (q_assign rfl) <|
    sq_end) ?_
  clear hF hS; intro a w hF hS
  refine hK8 _ _ ?_
  clear hK8
  refine regl ?_
  refine wpl_sq hF hS (sq rfl (q_move rfl) <|
    sq rfl (q_move rfl) <|
    sq rfl (q_move rfl) <|
    sq rfl (q_nilCheck rfl) <|
    sq rfl (q_fieldAddr ty77 rfl rfl (s' := 0) kQ) <|
    sq rfl (q_ld_blk1 ty74 1 rfl rfl rfl rfl) <|
    sq rfl (q_move rfl) <|
    sq rfl (q_idx_row ty74 ty86 2 rfl rfl rfl (by omega)) <|
    sq rfl (q_slE ty86 ty5 2 rfl rfl (by omega)) <|
    sq rfl (q_b2s_rowSl ty81 ty9 ty5 2 rfl (Dk.bl_len S).symm (Dk.bl_64 hO) rfl (by omega)) <|
    sq rfl (q_idx_row ty22 ty9 0 rfl rfl rfl (by omega)) <|
    sq_end) ?_
  clear hF hS; intro a w hF hS
  refine wpl_ef hF hS rfl (ef_st_row ty9 0 rfl rfl rfl (by omega) rfl) ?_
  clear hF hS; rintro _ _ _ a w ⟨rfl, rfl, rfl⟩ hF hS
  replace hS : St _ (_) (_ :: _ :: _ :: _ :: _ :: _) _ := hS
  refine wpList_nil ?_
  refine hK7 _ _ ?_
  clear hK7
  refine reg hF hS (sq rfl (q_addi rfl rfl (by omega)) <|
    sq rfl (q_move rfl) <|
    sq_end) ?_
  clear hF hS; intro a w hF hS
  refine ⟨(k + 1), ?_, ?_, hF.sub ⟨rfl, rfl, rfl, rfl, trivial⟩, ?_⟩
  ·(try dsimp only); omega
  ·omega
  ·rw [show ((k : Int)).toNat = k from Int.toNat_natCast k, ← List.map_set, Dk.im_step S (by omega)] at hS
   exact hS
 ·refine wp_exit ?_
  refine hK3 _ _ ?_
  clear hK3
  refine wp_seq_k ?_; intro K9 hK9
  refine reg hF hS (sq rfl (q_move rfl) <|
    sq rfl (q_assign rfl) <|
    sq_end) ?_
  clear hF hS; intro a w hF hS
  refine hK9 _ _ ?_
  clear hK9
  refine wp_ret ?_
  exact fn_retx (rs := [.tmp 2]) rfl hF hS (vs := [_]) ⟨rfl, trivial⟩ [] [_, _, _, _, _] sQ sQ (Dk.drw_of ⟨rfl, _, _, _, _, rfl, ⟨l, e1, c1, m1, e2, c2, m2, hO, hl, hlr, hM1, hM2, hP, hW, rfl, rfl, rfl, rfl⟩⟩ (by simp [Dk.image]) (by rw [Dk.im_end S (by omega)]))
end Go.Proofs.YtibbhobfdbfkkaaGreatDoor
end

section
namespace Go.Proofs.YtibbhobfdbfkkaaGreatDoor
open Go.Fw
theorem ty51 : Tf Tryz.prog 51 (.slice 3) 1 24 (Value.slice none 0 0) := ⟨Tryz.underlying51, by kernel_rfl⟩
theorem fn64 : FnOk Tryz.prog 64 := ⟨_, Tryz.func64, rfl, by kernel_rfl⟩
theorem fn65 : FnOk Tryz.prog 65 := ⟨_, Tryz.func65, rfl, by kernel_rfl⟩

set_option maxRecDepth 4000 in
set_option maxHeartbeats 2000000 in
theorem dflush_ct (h : Dk.Hd) (S : Dk.Dsk) (w0 : World) (zsr : List PH) {r1 r2 r3 r4 : Res} (hD : DD h S r1 r2 r3 r4) : Cx Tryz.prog 82 [.pointer (some ⟨h.b, 0, none⟩)] w0 zsr [r1, r2, r3, r4] (DDR h ((Dk.flush S).1) (vi (Dk.flush S).2)) := by
 refine fn_enterx Tryz.func82 rfl Tryz.ntmps82 (Nat.le_of_ble_eq_true rfl) fun hsr a w hF hS => ?_
 replace hS : St _ (_) (_ :: _ :: _ :: _ :: _) _ := hS
 have hO := Dk.DOk.ok hD
 refine wp_seq_k ?_; intro K1 hK1
 refine reg hF hS (sq rfl (q_assign rfl) <|
   sq_end) ?_
 clear hF hS; intro a w hF hS
 refine hK1 _ _ ?_
 clear hK1
 refine wp_seq_k ?_; intro K2 hK2
 refine wp_seq_k ?_; intro K3 hK3
 refine regl ?_
 refine wpl_sq hF hS (sq rfl (q_move rfl) <|
   sq_end) ?_
 clear hF hS; intro a w hF hS
 refine wpl_ef hF hS rfl (ef_callx fn43 rfl (List.Perm.refl _) (by exact (dcheck_ct _ _ _ _ _  hD))) ?_
 clear hF hS; rintro _ _ _ a w ⟨_, _, rfl, rfl, ⟨rfl, rfl, qa2, qb3, qc4, qd5, rfl, hD6⟩⟩ hF hS
 replace hS : St _ (_) (_ :: _ :: _ :: _ :: _) _ := hS
 refine wpl_sq hF hS (sq rfl (q_assign rfl) <|
   sq_end) ?_
 clear hF hS; intro a w hF hS
 refine wpList_nil ?_
 refine hK3 _ _ ?_
 clear hK3
 refine wp_seq_k ?_; intro K4 hK4
 refine reg hF hS (sq rfl (q_move rfl) <|
   sq rfl (q_nei rfl rfl) <|
   sq_end) ?_
 clear hF hS; intro a w hF hS
 refine hK4 _ _ ?_
 clear hK4
 refine wp_ifn hF rfl (fun hc1 => ?_) (fun hc1 => ?_)
 ·refine wp_seq_k ?_; intro K5 hK5
  refine reg hF hS (sq rfl (q_move rfl) <|
    sq rfl (q_assign rfl) <|
    sq_end) ?_
  clear hF hS; intro a w hF hS
  refine hK5 _ _ ?_
  clear hK5
  refine wp_ret ?_
  exact fn_retx (rs := [.tmp 2]) rfl hF hS (vs := [_]) ⟨rfl, trivial⟩ [] [_, _, _, _] sQ sQ (Dk.dr_of (S := S) ⟨rfl, rfl, _, _, _, _, rfl, hD6⟩ (by rw [Dk.flush_1 (Dk.off_of hO hc1).1]) (by rw [Dk.flush_1 (Dk.off_of hO hc1).1, (Dk.off_of hO hc1).2]))
 ·have hc0 : Dk.check S 0 = 0 := by omega
  have hof := (Dk.check_0 hc0).1
  refine wp_skip ?_
  refine hK2 _ _ ?_
  clear hK2
  refine wp_seq_k ?_; intro K6 hK6
  refine wp_seq_k ?_; intro K7 hK7
  refine regl ?_
  refine wpl_sq hF hS (sq rfl (q_move rfl) <|
    sq_end) ?_
  clear hF hS; intro a w hF hS
  refine wpl_ef hF hS rfl (ef_callx fn44 rfl (List.Perm.refl _) (by exact (dstep_ct _ _ _ _  hD6))) ?_
  clear hF hS; rintro _ _ _ a w ⟨_, _, rfl, rfl, ⟨rfl, rfl, qa8, qb9, qc10, qd11, rfl, hD12⟩⟩ hF hS
  replace hS : St _ (_) (_ :: _ :: _ :: _ :: _) _ := hS
  refine wpl_sq hF hS (sq rfl (q_assign rfl) <|
    sq_end) ?_
  clear hF hS; intro a w hF hS
  refine wpList_nil ?_
  refine hK7 _ _ ?_
  clear hK7
  refine wp_seq_k ?_; intro K8 hK8
  refine reg hF hS (sq rfl (q_move rfl) <|
    sq rfl (q_nei rfl rfl) <|
    sq_end) ?_
  clear hF hS; intro a w hF hS
  refine hK8 _ _ ?_
  clear hK8
  refine wp_ifn hF rfl (fun hc2 => ?_) (fun hc2 => ?_)
  ·refine wp_seq_k ?_; intro K9 hK9
   refine reg hF hS (sq rfl (q_move rfl) <|
     sq rfl (q_assign rfl) <|
     sq_end) ?_
   clear hF hS; intro a w hF hS
   refine hK9 _ _ ?_
   clear hK9
   refine wp_ret ?_
   exact fn_retx (rs := [.tmp 2]) rfl hF hS (vs := [_]) ⟨rfl, trivial⟩ [] [_, _, _, _] sQ sQ (Dk.dr_of (S := (Dk.step S).1) ⟨rfl, rfl, _, _, _, _, rfl, hD12⟩ (by rw [Dk.flush_2 hof hc2]) (by rw [Dk.flush_2 hof hc2]))
  ·have hs0 : (Dk.step S).2 = 0 := by omega
   have hO1 := Dk.ok_step hO
   refine wp_skip ?_
   refine hK6 _ _ ?_
   clear hK6
   refine wp_seq_k ?_; intro K10 hK10
   refine wp_seq_k ?_; intro K11 hK11
   refine regl ?_
   refine wpl_sq hF hS (sq rfl (q_move rfl) <|
     sq_end) ?_
   clear hF hS; intro a w hF hS
   refine wpl_ef hF hS rfl (ef_callx fn64 rfl (List.Perm.refl _) (by exact (dpending_ct _ _ _ _  hD12))) ?_
   clear hF hS; rintro v13 _ _ a w ⟨_, _, rfl, rfl, ⟨rfl, qa14, qb15, qc16, qd17, rfl, hD18⟩⟩ hF hS
   replace hS : St _ (_) (_ :: _ :: _ :: _ :: _ :: _) _ := hS
   refine wpl_sq hF hS (sq rfl (q_len_row ty51 0 rfl rfl) <|
     sq rfl (q_move rfl) <|
     sq_end) ?_
   clear hF hS; intro a w hF hS
   refine wpList_nil ?_
   refine hK11 _ _ ?_
   clear hK11
   refine wp_block ?_
   obtain ⟨hs0, hhs0, hS⟩ : ∃ h, h = _ ∧ St _ _ h _ := ⟨_, rfl, hS⟩
   refine wp_loopx (γ := Res × Res × Res × Res × Nat) (qa14, qb15, qc16, qd17, 0) (fun (gg : Res × Res × Res × Res × Nat) => match gg with | (q1, q2, q3, q4, j) => [(20, vi (j : Int))]) [(0, _), (18, _), (19, _)] (fun (gg : Res × Res × Res × Res × Nat) => match gg with | (q1, q2, q3, q4, j) => ((((hs0.set 1 (q1)).set 2 (q2)).set 3 (q3)).set 4 (q4))) (fun (gg : Res × Res × Res × Res × Nat) => match gg with | (q1, q2, q3, q4, j) => j ≤ (Dk.dix (Dk.step S).1).length ∧ DD h (Dk.mst (Dk.step S).1 [] j) q1 q2 q3 q4) (fun (gg : Res × Res × Res × Res × Nat) => match gg with | (q1, q2, q3, q4, j) => (Dk.dix (Dk.step S).1).length - j) (hF.sub ⟨rfl, rfl, rfl, rfl, trivial⟩) (by subst hhs0; exact hS) (by exact ⟨Nat.zero_le _, by rw [Dk.mst_0]; exact hD18⟩) ?_
   clear hF hS; rintro ⟨q1, q2, q3, q4, j⟩ a w hfact hF hS
   subst hhs0; (try dsimp only at hfact); (try dsimp only at hF); (try dsimp only at hS)
   obtain ⟨hj0, hDq⟩ := hfact
   replace hS : St _ (_) (_ :: _ :: _ :: _ :: _ :: _) _ := hS
   refine wp_seq_k ?_; intro K12 hK12
   refine reg hF hS (sq rfl (q_lti rfl rfl) <|
     sq_end) ?_
   clear hF hS; intro a w hF hS
   refine hK12 _ _ ?_
   clear hK12
   refine wp_seq_k ?_; intro K13 hK13
   refine wp_ifd hF rfl (fun hc3 => ?_) (fun hc3 => ?_)
   ·obtain ⟨hsx, hsy, hsz⟩ := Dk.mst_step (Dk.step S).1 [] (j := j) (by omega)
    have hdl := Dk.dix_len (Dk.step S).1
    have hdh := hO1.hi
    have hdr := Dk.dix_rng hO1 (Dk.getD_mem (l := Dk.dix (Dk.step S).1) (j := j) (d := 0) (by omega))
    refine wp_skip ?_
    refine hK13 _ _ ?_
    clear hK13
    refine wp_seq_k ?_; intro K14 hK14
    refine wp_block ?_
    refine wp_seq_k ?_; intro K15 hK15
    refine reg hF hS (sq rfl (q_idx_row ty51 ty3 0 rfl rfl rfl (by omega)) <|
      sq rfl (q_ld_rowM ty3 0 (0 : Int) rfl rfl bQ rfl) <|
      sq rfl (q_assign rfl) <|
      sq_end) ?_
    clear hF hS; intro a w hF hS
    rw [Int.toNat_natCast] at hF
    refine hK15 _ _ ?_
    clear hK15
    refine regl ?_
    refine wpl_sq hF hS (sq rfl (q_move rfl) <|
      sq rfl (q_move rfl) <|
      sq_end) ?_
    clear hF hS; intro a w hF hS
    replace hS := hS.perm (.swap _ _ _)
    replace hS := hS.perm (.cons _ (.swap _ _ _))
    replace hS := hS.perm (.cons _ (.cons _ (.swap _ _ _)))
    replace hS := hS.perm (.cons _ (.cons _ (.cons _ (.swap _ _ _))))
    replace hS : St _ (_) (_ :: _ :: _ :: _ :: _ :: _) _ := hS
    refine wpl_ef hF hS rfl (ef_callx fn65 rfl (List.Perm.refl _) (by exact (dsettle_ct _ _ _ _ (by first | assumption | omega) (by assumption) (by omega) _ _  hDq))) ?_
    clear hF hS; rintro _ _ _ a w ⟨_, _, rfl, rfl, ⟨rfl, rfl, qa21, qb22, qc23, qd24, rfl, hD25⟩⟩ hF hS
    replace hS : St _ (_) (_ :: _ :: _ :: _ :: _ :: _) _ := hS
    refine wpList_nil ?_
    refine hK14 _ _ ?_
    clear hK14
    refine reg hF hS (sq rfl (q_addi rfl rfl (by omega)) <|
      sq rfl (q_move rfl) <|
      sq_end) ?_
    clear hF hS; intro a w hF hS
    replace hS := hS.perm (.cons _ (.cons _ (.cons _ (.swap _ _ _))))
    replace hS := hS.perm (.cons _ (.cons _ (.swap _ _ _)))
    replace hS := hS.perm (.cons _ (.swap _ _ _))
    replace hS := hS.perm (.swap _ _ _)
    replace hS := hS.keep sQ sQ
    refine ⟨(qa21, qb22, qc23, qd24, j + 1), ?_, ?_, hF.sub ⟨rfl, rfl, rfl, rfl, trivial⟩, ?_⟩
    ·(try dsimp only); omega
    ·exact ⟨by omega, hsz ▸ hD25⟩
    ·exact hS
   ·refine wp_exit ?_
    refine hK10 _ _ ?_
    clear hK10
    refine wp_seq_k ?_; intro K16 hK16
    refine reg hF hS (sq rfl (q_assign rfl) <|
      sq_end) ?_
    clear hF hS; intro a w hF hS
    refine hK16 _ _ ?_
    clear hK16
    refine wp_ret ?_
    replace hS := hS.perm (.swap _ _ _)
    replace hS := hS.perm (.cons _ (.swap _ _ _))
    replace hS := hS.perm (.cons _ (.cons _ (.swap _ _ _)))
    replace hS := hS.perm (.cons _ (.cons _ (.cons _ (.swap _ _ _))))
    exact fn_retx (rs := [.tmp 2]) rfl hF hS (vs := [_]) ⟨rfl, trivial⟩ [] [_, _, _, _] sQ (sQ.n.k.k.k.k) (Dk.dr_of (S := Dk.mst (Dk.step S).1 [] j) ⟨rfl, rfl, _, _, _, _, rfl, hDq⟩ (by rw [Dk.flush_3 hof hs0, show j = (Dk.dix (Dk.step S).1).length by omega]) (by rw [Dk.flush_3 hof hs0]))

set_option maxRecDepth 4000 in
set_option maxHeartbeats 2000000 in
theorem dnew_ct (n : Nat) (hn : 1 ≤ n ∧ n ≤ 4096) (w : World) : Ct Tryz.prog 8 [vi (n : Int)] w (DDN (Dk.new n) (fun p => .tuple [p, vi 0].toArray)) := by
 refine fn_enter Tryz.func8 rfl Tryz.ntmps8 (Nat.le_of_ble_eq_true rfl) fun a hF hS => ?_
 refine wp_seq_k ?_; intro K1 hK1
 refine reg hF hS (sq rfl (q_assign rfl) <|
   sq rfl (q_assign rfl) <|
   sq_end) ?_
 clear hF hS; intro a w hF hS
 refine hK1 _ _ ?_
 clear hK1
 refine wp_seq_k ?_; intro K2 hK2
 refine wp_seq_k ?_; intro K3 hK3
 refine regl ?_
 refine wpl_sq hF hS (sq rfl (q_move rfl) <|
   sq rfl (q_lti rfl rfl) <|
   sq rfl (q_move rfl) <|
   sq_end) ?_
 clear hF hS; intro a w hF hS
 refine wpl_or 2 6 2 hF hS rfl rfl rfl rfl rfl (fun hg => have hg := (by first | exact of_decide_eq_false hg | exact hg); sq_go 6 rfl rfl rfl (q_move rfl) <|
   sq_go 6 rfl rfl rfl (q_gti rfl rfl) <|
   sq_end) rfl rfl ?_
 clear hF hS; intro a w hF hS
 refine wpList_nil ?_
 refine hK3 _ _ ?_
 clear hK3
 refine wp_if hF rfl (fun hc1 => ?_) (fun hc1 => ?_)
 ·(try simp only [Bool.or_eq_true, Bool.and_eq_true, Bool.or_eq_false_iff, Bool.and_eq_false_iff, decide_eq_true_eq, decide_eq_false_iff_not, Bool.not_eq_true', Bool.not_eq_false'] at hc1)
  exfalso; omega
 ·(try simp only [Bool.or_eq_true, Bool.and_eq_true, Bool.or_eq_false_iff, Bool.and_eq_false_iff, decide_eq_true_eq, decide_eq_false_iff_not, Bool.not_eq_true', Bool.not_eq_false'] at hc1)
  refine wp_skip ?_
  refine hK2 _ _ ?_
  clear hK2
  refine wp_seq_k ?_; intro K4 hK4
  refine regl ?_
  refine wpl_sq hF hS (sq rfl (q_move rfl) <|
    sq_end) ?_
  clear hF hS; intro a w hF hS
  refine wpl_ef hF hS rfl (ef_mksS ty74 ty86 rfl rfl (by omega) (by omega) rfl (by decide) (by omega)) ?_
  clear hF hS; rintro v1 _ _ a w ⟨rfl, rfl⟩ hF hS
  replace hS : St _ [] [_] _ := hS
  refine wpl_ef hF hS rfl (ef_mkmap) ?_
  clear hF hS; rintro _ _ _ a w ⟨b3, rfl, rfl, rfl⟩ hF hS
  replace hS : St _ [] [_, _] _ := hS
  refine wpl_ef hF hS rfl (ef_mkmap) ?_
  clear hF hS; rintro _ _ _ a w ⟨b5, rfl, rfl, rfl⟩ hF hS
  replace hS : St _ [] [_, _, _] _ := hS
  refine wpl_sq hF hS (sq rfl (q_buildP (places := [(0, 1), (1, 1), (2, 1), (3, 1), (4, 1)]) (cells := [_, _, _, .bool false, _]) ty77 kQ rfl (fill_stepL (c := [_]) (l := [_, _, _, _, _]) (l' := [_, _, _, _, _]) rfl (cells_one (row_one (hS.own _ (List.mem_of_getElem? (i := 2) rfl)).1)) rfl (Nat.le_of_ble_eq_true rfl) rfl (fill_stepL (c := [_]) (l := [_, _, _, _, _]) (l' := [_, _, _, _, _]) rfl (cells_one rfl) rfl (Nat.le_of_ble_eq_true rfl) rfl (fill_stepL (c := [_]) (l := [_, _, _, _, _]) (l' := [_, _, _, _, _]) rfl (cells_one rfl) rfl (Nat.le_of_ble_eq_true rfl) rfl (fill_stepL (c := [_]) (l := [_, _, _, _, _]) (l' := [_, _, _, _, _]) rfl (cells_one rfl) rfl (Nat.le_of_ble_eq_true rfl) rfl (fill_endL rfl)))))) <|
    sq_end) ?_
  clear hF hS; intro a w hF hS
  refine wpl_ef hF hS rfl (ef_boxA rfl) ?_
  clear hF hS; rintro _ _ _ a w ⟨b7, rfl, rfl, rfl⟩ hF hS
  refine wpl_sq hF hS (sq rfl (q_assign rfl) <|
    sq rfl (q_assign rfl) <|
    sq_end) ?_
  clear hF hS; intro a w hF hS
  refine wpList_nil ?_
  rw [Dk.new_cells] at hS
  refine hK4 _ _ ?_
  clear hK4
  refine wp_ret ?_
  replace hS := hS.perm (.cons _ (.cons _ (.swap _ _ _)))
  replace hS := hS.perm (.cons _ (.swap _ _ _))
  replace hS := hS.perm (.cons _ (.cons _ (.swap _ _ _)))
  exact fn_ret (rs := [.tmp 2, .tmp 3]) rfl hF hS (vs := [_, _]) ⟨rfl, rfl, trivial⟩ sQ sQ ⟨rfl, ⟨b7, v1, b3, b5⟩, _, _, _, _, rfl, rfl, ⟨-1, [], 0, [], [], 0, [], Dk.ok_new hn.1 hn.2, rfl, by decide, MpT.nil, MpT.nil, Dk.MOk.nil (Dk.new_pend n), Dk.MOk.nil (Dk.new_wrn n), rfl, by rw [Dk.new_len], rfl, rfl⟩⟩

set_option maxRecDepth 4000 in
set_option maxHeartbeats 2000000 in
theorem dnewx_ct (n : Int) (hn : ¬ (1 ≤ n ∧ n ≤ 4096)) (w : World) : Ct Tryz.prog 8 [vi n] w (fun r zs hs => r = .tuple [.pointer none, vi 1].toArray) := by
 refine fn_enter Tryz.func8 rfl Tryz.ntmps8 (Nat.le_of_ble_eq_true rfl) fun a hF hS => ?_
 refine wp_seq_k ?_; intro K1 hK1
 refine reg hF hS (sq rfl (q_assign rfl) <|
   sq rfl (q_assign rfl) <|
   sq_end) ?_
 clear hF hS; intro a w hF hS
 refine hK1 _ _ ?_
 clear hK1
 refine wp_seq_k ?_; intro K2 hK2
 refine wp_seq_k ?_; intro K3 hK3
 refine regl ?_
 refine wpl_sq hF hS (sq rfl (q_move rfl) <|
   sq rfl (q_lti rfl rfl) <|
   sq rfl (q_move rfl) <|
   sq_end) ?_
 clear hF hS; intro a w hF hS
 refine wpl_or 2 6 2 hF hS rfl rfl rfl rfl rfl (fun hg => have hg := (by first | exact of_decide_eq_false hg | exact hg); sq_go 6 rfl rfl rfl (q_move rfl) <|
   sq_go 6 rfl rfl rfl (q_gti rfl rfl) <|
   sq_end) rfl rfl ?_
 clear hF hS; intro a w hF hS
 refine wpList_nil ?_
 refine hK3 _ _ ?_
 clear hK3
 refine wp_if hF rfl (fun hc1 => ?_) (fun hc1 => ?_)
 ·(try simp only [Bool.or_eq_true, Bool.and_eq_true, Bool.or_eq_false_iff, Bool.and_eq_false_iff, decide_eq_true_eq, decide_eq_false_iff_not, Bool.not_eq_true', Bool.not_eq_false'] at hc1)
  refine wp_seq_k ?_; intro K4 hK4
  refine reg hF hS (sq rfl (q_assign rfl) <|
    sq rfl (q_assign rfl) <|
    sq_end) ?_
  clear hF hS; intro a w hF hS
  refine hK4 _ _ ?_
  clear hK4
  refine wp_ret ?_
  exact fn_ret (rs := [.tmp 2, .tmp 3]) rfl hF hS (vs := [_, _]) ⟨rfl, rfl, trivial⟩ zQ zQ (rfl)
 ·(try simp only [Bool.or_eq_true, Bool.and_eq_true, Bool.or_eq_false_iff, Bool.and_eq_false_iff, decide_eq_true_eq, decide_eq_false_iff_not, Bool.not_eq_true', Bool.not_eq_false'] at hc1)
  exfalso; omega
end Go.Proofs.YtibbhobfdbfkkaaGreatDoor
end

section
namespace Go.Proofs.YtibbhobfdbfkkaaGreatDoor
open Go.Fw
abbrev RRB := Dk.RB 80
abbrev RRW := Dk.RW 83
abbrev RRD := Dk.RDR 80 83
abbrev RRDi := Dk.RDRw 80 83 3
abbrev RRDs := Dk.RDRw 80 83 9

end Go.Proofs.YtibbhobfdbfkkaaGreatDoor
end

section
namespace Go.Proofs.YtibbhobfdbfkkaaGreatDoor
open Go.Fw
end Go.Proofs.YtibbhobfdbfkkaaGreatDoor
end

section
namespace Go.Proofs.YtibbhobfdbfkkaaGreatDoor
open Go.Fw
end Go.Proofs.YtibbhobfdbfkkaaGreatDoor
end

section
namespace Go.Proofs.YtibbhobfdbfkkaaGreatDoor
open Go.Fw


end Go.Proofs.YtibbhobfdbfkkaaGreatDoor
end

section
namespace Go.Proofs.YtibbhobfdbfkkaaGreatDoor
open Go.Fw



end Go.Proofs.YtibbhobfdbfkkaaGreatDoor
end
