/- A text of a proof over this seat: walks over the program's functions and the plain laws that they need. -/
import Derived.Test.YtibbhobfdbfkkaaGreatDoorHwA
import Derived.Test.YtibbhobfdbfkkaaGreatDoorDkA
import Derived.Shelf.SortM.Plain
import Derived.Shelf.SortM.SortNone
import Derived.Test.YtibbhobfdbfkkaaGreatDoorFwD
set_option linter.all false
section
namespace Go.Proofs.YtibbhobfdbfkkaaGreatDoor
open Go.Fw
theorem ty4 : Tf Tryz.prog 4 .bool 1 1 (Value.bool false) := ⟨Tryz.underlying4, by kernel_rfl⟩
theorem ty74 : Tf Tryz.prog 74 (.slice 86) 1 24 (Value.slice none 0 0) := ⟨Tryz.underlying74, by kernel_rfl⟩
theorem ty77 : Tf Tryz.prog 77 (.struct #[⟨ "blocks", 74, 0, false, "", "culprit/disk", 0⟩, ⟨ "pending", 75, 1, false, "", "culprit/disk", 24⟩, ⟨ "worn", 45, 2, false, "", "culprit/disk", 32⟩, ⟨ "off", 4, 3, false, "", "culprit/disk", 40⟩, ⟨ "left", 3, 4, false, "", "culprit/disk", 48⟩]) 5 56 (.agg ([Value.slice none 0 0] ++ [Value.map none, Value.map none] ++ [Value.bool false] ++ [Value.int .i64 0]).toArray) := ⟨Tryz.underlying77, by kernel_rfl⟩

abbrev DD := Dk.DOk 77 86
abbrev DDR := Dk.DR 77 86

set_option maxRecDepth 4000 in
set_option maxHeartbeats 2000000 in
theorem dcheck_ct (h : Dk.Hd) (S : Dk.Dsk) (i : Int) (w0 : World) (zsr : List PH) {r1 r2 r3 r4 : Res} (hD : DD h S r1 r2 r3 r4) : Cx Tryz.prog 43 [.pointer (some ⟨h.b, 0, none⟩), vi i] w0 zsr [r1, r2, r3, r4] (DDR h (S) (vi (Dk.check S i))) := by
 refine fn_enterx Tryz.func43 rfl Tryz.ntmps43 (Nat.le_of_ble_eq_true rfl) fun hsr a w hF hS => ?_
 replace hS : St _ (_) (_ :: _ :: _ :: _ :: _) _ := hS
 obtain ⟨l, e1, c1, m1, e2, c2, m2, hO, hl, hlr, hM1, hM2, hP, hW, rfl, rfl, rfl, rfl⟩ := hD
 have hlo := hO.lo
 have hhi := hO.hi
 have hlf := hO.lf
 have hlg := hO.lf2
 have hbl := Dk.bl_len S
 have hbs := Dk.bl_64 hO
 replace hS : St _ (_) (_ :: _ :: _ :: _ :: _) _ := hS
 refine wp_seq_k ?_; intro K1 hK1
 refine reg hF hS (sq rfl (q_assign rfl) <|
   sq_end) ?_
 clear hF hS; intro a w hF hS
 refine hK1 _ _ ?_
 clear hK1
 refine wp_seq_k ?_; intro K2 hK2
 refine wp_block ?_
 refine wp_seq_k ?_; intro K3 hK3
 refine reg hF hS (sq rfl (q_move rfl) <|
   sq rfl (q_nilCheck rfl) <|
   sq rfl (q_fieldAddr ty77 rfl rfl (s' := 0) kQ) <|
   sq rfl (q_ld_blk1 ty4 0 rfl rfl rfl rfl) <|
   sq rfl (q_assign rfl) <|
   sq_end) ?_
 clear hF hS; intro a w hF hS
 refine hK3 _ _ ?_
 clear hK3
 refine wp_if hF rfl (fun hc1 => ?_) (fun hc1 => ?_)
 ·refine wp_seq_k ?_; intro K4 hK4
  refine reg hF hS (sq rfl (q_assign rfl) <|
    sq_end) ?_
  clear hF hS; intro a w hF hS
  refine hK4 _ _ ?_
  clear hK4
  refine wp_ret ?_
  exact fn_retx (rs := [.tmp 4]) rfl hF hS (vs := [_]) ⟨rfl, trivial⟩ [] [_, _, _, _] sQ sQ (Dk.dr_of (S := S) ⟨rfl, rfl, _, _, _, _, rfl, ⟨l, e1, c1, m1, e2, c2, m2, hO, hl, hlr, hM1, hM2, hP, hW, rfl, rfl, rfl, rfl⟩⟩ (rfl) (by rw [Dk.check_off (by simpa using hc1)]))
 ·refine wp_seq_k ?_; intro K5 hK5
  refine regl ?_
  refine wpl_sq hF hS (sq rfl (q_move rfl) <|
    sq rfl (q_lti rfl rfl) <|
    sq rfl (q_move rfl) <|
    sq_end) ?_
  clear hF hS; intro a w hF hS
  refine wpl_or 2 13 7 hF hS rfl rfl rfl rfl rfl (fun hg => have hg := (by first | exact of_decide_eq_false hg | exact hg); sq_go 13 rfl rfl rfl (q_move rfl) <|
    sq_go 13 rfl rfl rfl (q_move rfl) <|
    sq_go 13 rfl rfl rfl (q_nilCheck rfl) <|
    sq_go 13 rfl rfl rfl (q_fieldAddr ty77 rfl rfl (s' := 0) kQ) <|
    sq_go 13 rfl rfl rfl (q_ld_blk1 ty74 0 rfl rfl rfl rfl) <|
    sq_go 13 rfl rfl rfl (q_len_row ty74 1 rfl rfl) <|
    sq_go 13 rfl rfl rfl (q_gei rfl rfl) <|
    sq_end) rfl rfl ?_
  clear hF hS; intro a w hF hS
  refine wpl_sq hF hS (sq rfl (q_assign rfl) <|
    sq_end) ?_
  clear hF hS; intro a w hF hS
  refine wpList_nil ?_
  refine hK5 _ _ ?_
  clear hK5
  refine wp_if hF rfl (fun hc2 => ?_) (fun hc2 => ?_)
  ·(try simp only [Bool.or_eq_true, Bool.and_eq_true, Bool.or_eq_false_iff, Bool.and_eq_false_iff, decide_eq_true_eq, decide_eq_false_iff_not, Bool.not_eq_true', Bool.not_eq_false'] at hc2)
   refine wp_seq_k ?_; intro K6 hK6
   refine reg hF hS (sq rfl (q_assign rfl) <|
     sq_end) ?_
   clear hF hS; intro a w hF hS
   refine hK6 _ _ ?_
   clear hK6
   refine wp_ret ?_
   exact fn_retx (rs := [.tmp 4]) rfl hF hS (vs := [_]) ⟨rfl, trivial⟩ [] [_, _, _, _] sQ sQ (Dk.dr_of (S := S) ⟨rfl, rfl, _, _, _, _, rfl, ⟨l, e1, c1, m1, e2, c2, m2, hO, hl, hlr, hM1, hM2, hP, hW, rfl, rfl, rfl, rfl⟩⟩ (rfl) (by rw [Dk.check_out (by rw [hc1]; simp) (by omega)]))
  ·(try simp only [Bool.or_eq_true, Bool.and_eq_true, Bool.or_eq_false_iff, Bool.and_eq_false_iff, decide_eq_true_eq, decide_eq_false_iff_not, Bool.not_eq_true', Bool.not_eq_false'] at hc2)
   refine wp_skip ?_
   refine hK2 _ _ ?_
   clear hK2
   refine wp_seq_k ?_; intro K7 hK7
   refine reg hF hS (sq rfl (q_assign rfl) <|
     sq_end) ?_
   clear hF hS; intro a w hF hS
   refine hK7 _ _ ?_
   clear hK7
   refine wp_ret ?_
   exact fn_retx (rs := [.tmp 4]) rfl hF hS (vs := [_]) ⟨rfl, trivial⟩ [] [_, _, _, _] sQ sQ (Dk.dr_of (S := S) ⟨rfl, rfl, _, _, _, _, rfl, ⟨l, e1, c1, m1, e2, c2, m2, hO, hl, hlr, hM1, hM2, hP, hW, rfl, rfl, rfl, rfl⟩⟩ (rfl) (by rw [Dk.check_in (by rw [hc1]; simp) (by omega)]))

set_option maxRecDepth 4000 in
set_option maxHeartbeats 2000000 in
theorem dstep_ct (h : Dk.Hd) (S : Dk.Dsk) (w0 : World) (zsr : List PH) {r1 r2 r3 r4 : Res} (hD : DD h S r1 r2 r3 r4) : Cx Tryz.prog 44 [.pointer (some ⟨h.b, 0, none⟩)] w0 zsr [r1, r2, r3, r4] (DDR h ((Dk.step S).1) (vi (Dk.step S).2)) := by
 refine fn_enterx Tryz.func44 rfl Tryz.ntmps44 (Nat.le_of_ble_eq_true rfl) fun hsr a w hF hS => ?_
 replace hS : St _ (_) (_ :: _ :: _ :: _ :: _) _ := hS
 obtain ⟨l, e1, c1, m1, e2, c2, m2, hO, hl, hlr, hM1, hM2, hP, hW, rfl, rfl, rfl, rfl⟩ := hD
 have hlo := hO.lo
 have hhi := hO.hi
 have hlf := hO.lf
 have hlg := hO.lf2
 have hbl := Dk.bl_len S
 have hbs := Dk.bl_64 hO
 replace hS : St _ (_) (_ :: _ :: _ :: _ :: _) _ := hS
 refine wp_seq_k ?_; intro K1 hK1
 refine reg hF hS (sq rfl (q_assign rfl) <|
   sq_end) ?_
 clear hF hS; intro a w hF hS
 refine hK1 _ _ ?_
 clear hK1
 refine wp_seq_k ?_; intro K2 hK2
 refine wp_block ?_
 refine wp_seq_k ?_; intro K3 hK3
 refine reg hF hS (sq rfl (q_move rfl) <|
   sq rfl (q_nilCheck rfl) <|
   sq rfl (q_fieldAddr ty77 rfl rfl (s' := 0) kQ) <|
   sq rfl (q_ld_blk1 ty3 0 rfl rfl rfl rfl) <|
   sq rfl (q_eqi rfl rfl) <|
   sq rfl (q_assign rfl) <|
   sq_end) ?_
 clear hF hS; intro a w hF hS
 refine hK3 _ _ ?_
 clear hK3
 refine wp_ifd hF rfl (fun hc1 => ?_) (fun hc1 => ?_)
 ·refine wp_seq_k ?_; intro K4 hK4
  refine regl ?_
  refine wpl_sq hF hS (sq rfl (q_move rfl) <|
    sq rfl (q_nilCheck rfl) <|
    sq rfl (q_fieldAddr ty77 rfl rfl (s' := 0) kQ) <|
    sq_end) ?_
  clear hF hS; intro a w hF hS
  refine wpl_ef hF hS rfl (ef_store1 ty4 0 rfl rfl rfl rfl (by simp)) ?_
  clear hF hS; rintro _ _ _ a w ⟨rfl, rfl, rfl⟩ hF hS
  replace hS : St _ (_) (.blk _ _ ([_, _, _, _, _].set 3 _) :: _ :: _ :: _ :: _) _ := hS
  simp only [List.set_cons_zero, List.set_cons_succ] at hS
  replace hS : St _ (_) (_ :: _ :: _ :: _ :: _) _ := hS
  refine wpList_nil ?_
  refine hK4 _ _ ?_
  clear hK4
  refine wp_seq_k ?_; intro K5 hK5
  refine reg hF hS (sq rfl (q_assign rfl) <|
    sq_end) ?_
  clear hF hS; intro a w hF hS
  refine hK5 _ _ ?_
  clear hK5
  refine wp_ret ?_
  exact fn_retx (rs := [.tmp 2]) rfl hF hS (vs := [_]) ⟨rfl, trivial⟩ [] [_, _, _, _] sQ sQ (Dk.dr_of (S := ⟨S.s, true, S.left⟩) ⟨rfl, rfl, _, _, _, _, rfl, ⟨l, e1, c1, m1, e2, c2, m2, ⟨hO.sec, hO.lo, hO.hi, hO.lf, hO.lf2⟩, hl, hlr, hM1, hM2, hP, hW, rfl, rfl, rfl, rfl⟩⟩ (by rw [Dk.step_0 (by omega)]) (by rw [Dk.step_0 (by omega)]))
 ·refine wp_seq_k ?_; intro K6 hK6
  refine reg hF hS (sq rfl (q_move rfl) <|
    sq rfl (q_nilCheck rfl) <|
    sq rfl (q_fieldAddr ty77 rfl rfl (s' := 0) kQ) <|
    sq rfl (q_ld_blk1 ty3 0 rfl rfl rfl rfl) <|
    sq rfl (q_gti rfl rfl) <|
    sq rfl (q_assign rfl) <|
    sq_end) ?_
  clear hF hS; intro a w hF hS
  refine hK6 _ _ ?_
  clear hK6
  refine wp_ifd hF rfl (fun hc2 => ?_) (fun hc2 => ?_)
  ·refine regl ?_
   refine wpl_sq hF hS (sq rfl (q_move rfl) <|
     sq rfl (q_nilCheck rfl) <|
     sq rfl (q_fieldAddr ty77 rfl rfl (s' := 0) kQ) <|
     sq rfl (q_ld_blk1 ty3 0 rfl rfl rfl rfl) <|
     sq rfl (q_subi rfl rfl (by omega)) <|
     sq rfl (q_nilCheck rfl) <|
     sq rfl (q_fieldAddr ty77 rfl rfl (s' := 0) kQ) <|
     sq_end) ?_
   clear hF hS; intro a w hF hS
   refine wpl_ef hF hS rfl (ef_store1 ty3 0 rfl rfl rfl rfl (by simp)) ?_
   clear hF hS; rintro _ _ _ a w ⟨rfl, rfl, rfl⟩ hF hS
   replace hS : St _ (_) (.blk _ _ ([_, _, _, _, _].set 4 _) :: _ :: _ :: _ :: _) _ := hS
   simp only [List.set_cons_zero, List.set_cons_succ] at hS
   replace hS : St _ (_) (_ :: _ :: _ :: _ :: _) _ := hS
   refine wpList_nil ?_
   refine hK2 _ _ ?_
   clear hK2
   refine wp_seq_k ?_; intro K7 hK7
   refine reg hF hS (sq rfl (q_assign rfl) <|
     sq_end) ?_
   clear hF hS; intro a w hF hS
   refine hK7 _ _ ?_
   clear hK7
   refine wp_ret ?_
   exact fn_retx (rs := [.tmp 2]) rfl hF hS (vs := [_]) ⟨rfl, trivial⟩ [] [_, _, _, _] sQ sQ (Dk.dr_of (S := ⟨S.s, S.off, S.left - 1⟩) ⟨rfl, rfl, _, _, _, _, rfl, ⟨(l - 1), e1, c1, m1, e2, c2, m2, ⟨hO.sec, hO.lo, hO.hi, (by dsimp only; omega), (by dsimp only; omega)⟩, (by dsimp only; omega), (by omega), hM1, hM2, hP, hW, rfl, rfl, rfl, rfl⟩⟩ (by rw [Dk.step_1 (by omega)]) (by rw [Dk.step_1 (by omega)]))
  ·refine wp_skip ?_
   refine hK2 _ _ ?_
   clear hK2
   refine wp_seq_k ?_; intro K8 hK8
   refine reg hF hS (sq rfl (q_assign rfl) <|
     sq_end) ?_
   clear hF hS; intro a w hF hS
   refine hK8 _ _ ?_
   clear hK8
   refine wp_ret ?_
   exact fn_retx (rs := [.tmp 2]) rfl hF hS (vs := [_]) ⟨rfl, trivial⟩ [] [_, _, _, _] sQ sQ (Dk.dr_of (S := S) ⟨rfl, rfl, _, _, _, _, rfl, ⟨l, e1, c1, m1, e2, c2, m2, hO, hl, hlr, hM1, hM2, hP, hW, rfl, rfl, rfl, rfl⟩⟩ (by rw [Dk.step_2 (by omega)]) (by rw [Dk.step_2 (by omega)]))

set_option maxRecDepth 4000 in
set_option maxHeartbeats 2000000 in
theorem dlen_ct (h : Dk.Hd) (S : Dk.Dsk) (w0 : World) (zsr : List PH) {r1 r2 r3 r4 : Res} (hD : DD h S r1 r2 r3 r4) : Cx Tryz.prog 47 [.pointer (some ⟨h.b, 0, none⟩)] w0 zsr [r1, r2, r3, r4] (DDR h (S) (vi (S.s.length : Int))) := by
 refine fn_enterx Tryz.func47 rfl Tryz.ntmps47 (Nat.le_of_ble_eq_true rfl) fun hsr a w hF hS => ?_
 replace hS : St _ (_) (_ :: _ :: _ :: _ :: _) _ := hS
 obtain ⟨l, e1, c1, m1, e2, c2, m2, hO, hl, hlr, hM1, hM2, hP, hW, rfl, rfl, rfl, rfl⟩ := hD
 have hlo := hO.lo
 have hhi := hO.hi
 have hlf := hO.lf
 have hlg := hO.lf2
 have hbl := Dk.bl_len S
 have hbs := Dk.bl_64 hO
 replace hS : St _ (_) (_ :: _ :: _ :: _ :: _) _ := hS
 refine wp_seq_k ?_; intro K1 hK1
 refine reg hF hS (sq rfl (q_assign rfl) <|
   sq_end) ?_
 clear hF hS; intro a w hF hS
 refine hK1 _ _ ?_
 clear hK1
 refine wp_seq_k ?_; intro K2 hK2
 refine reg hF hS (sq rfl (q_move rfl) <|
   sq rfl (q_nilCheck rfl) <|
   sq rfl (q_fieldAddr ty77 rfl rfl (s' := 0) kQ) <|
   sq rfl (q_ld_blk1 ty74 0 rfl rfl rfl rfl) <|
   sq rfl (q_len_row ty74 1 rfl rfl) <|
   sq rfl (q_assign rfl) <|
   sq_end) ?_
 clear hF hS; intro a w hF hS
 refine hK2 _ _ ?_
 clear hK2
 refine wp_ret ?_
 exact fn_retx (rs := [.tmp 2]) rfl hF hS (vs := [_]) ⟨rfl, trivial⟩ [] [_, _, _, _] sQ sQ (Dk.dr_of (S := S) ⟨rfl, rfl, _, _, _, _, rfl, ⟨l, e1, c1, m1, e2, c2, m2, hO, hl, hlr, hM1, hM2, hP, hW, rfl, rfl, rfl, rfl⟩⟩ (rfl) (rfl))

set_option maxRecDepth 4000 in
set_option maxHeartbeats 2000000 in
theorem dtrip_ct (h : Dk.Hd) (S : Dk.Dsk) (n : Int) (hn : -9223372036854775808 ≤ n ∧ n ≤ 9223372036854775807) (w0 : World) (zsr : List PH) {r1 r2 r3 r4 : Res} (hD : DD h S r1 r2 r3 r4) : Cx Tryz.prog 25 [.pointer (some ⟨h.b, 0, none⟩), vi n] w0 zsr [r1, r2, r3, r4] (DDR h (Dk.trip S n) (.tuple ([] : List Value).toArray)) := by
 refine fn_enterx Tryz.func25 rfl Tryz.ntmps25 (Nat.le_of_ble_eq_true rfl) fun hsr a w hF hS => ?_
 replace hS : St _ (_) (_ :: _ :: _ :: _ :: _) _ := hS
 obtain ⟨l, e1, c1, m1, e2, c2, m2, hO, hl, hlr, hM1, hM2, hP, hW, rfl, rfl, rfl, rfl⟩ := hD
 have hlo := hO.lo
 have hhi := hO.hi
 have hlf := hO.lf
 have hlg := hO.lf2
 have hbl := Dk.bl_len S
 have hbs := Dk.bl_64 hO
 replace hS : St _ (_) (_ :: _ :: _ :: _ :: _) _ := hS
 refine regl ?_
 refine wpl_sq hF hS (sq rfl (q_move rfl) <|
   sq rfl (q_move rfl) <|
   sq rfl (q_nilCheck rfl) <|
   sq rfl (q_fieldAddr ty77 rfl rfl (s' := 0) kQ) <|
   sq_end) ?_
 clear hF hS; intro a w hF hS
 refine wpl_ef hF hS rfl (ef_store1 ty3 0 rfl rfl rfl rfl (by simp)) ?_
 clear hF hS; rintro _ _ _ a w ⟨rfl, rfl, rfl⟩ hF hS
 replace hS : St _ (_) (.blk _ _ ([_, _, _, _, _].set 4 _) :: _ :: _ :: _ :: _) _ := hS
 simp only [List.set_cons_zero, List.set_cons_succ] at hS
 replace hS : St _ (_) (_ :: _ :: _ :: _ :: _) _ := hS
 refine wpList_nil ?_
 -- falls off the end
 exact fn_retx (rs := []) rfl hF hS (vs := []) trivial [] [_, _, _, _] sQ sQ (Dk.dr_of (S := Dk.trip S n) ⟨rfl, rfl, _, _, _, _, rfl, ⟨n, e1, c1, m1, e2, c2, m2, (Dk.ok_trip hO hn.2), rfl, hn.1, hM1, hM2, hP, hW, rfl, rfl, rfl, rfl⟩⟩ (rfl) (rfl))
end Go.Proofs.YtibbhobfdbfkkaaGreatDoor
end

section
namespace Go.Proofs.YtibbhobfdbfkkaaGreatDoor
open Go.Fw
theorem ty75 : Tf Tryz.prog 75 (.map 3 86) 1 8 (Value.map none) := ⟨Tryz.underlying75, by kernel_rfl⟩
theorem ty86 : Tf Tryz.prog 86 (.array 64 5) 64 64 (.agg (List.replicate 64 (Value.int .u8 0)).toArray) := ⟨Tryz.underlying86, by kernel_rfl⟩
theorem fn43 : FnOk Tryz.prog 43 := ⟨_, Tryz.func43, rfl, by kernel_rfl⟩
theorem fn44 : FnOk Tryz.prog 44 := ⟨_, Tryz.func44, rfl, by kernel_rfl⟩

set_option maxRecDepth 4000 in
set_option maxHeartbeats 2000000 in
theorem dread_ct (h : Dk.Hd) (S : Dk.Dsk) (i : Int) (hi : -9223372036854775808 ≤ i ∧ i ≤ 9223372036854775807) (w0 : World) (zsr : List PH) {r1 r2 r3 r4 : Res} (hD : DD h S r1 r2 r3 r4) : Cx Tryz.prog 48 [.pointer (some ⟨h.b, 0, none⟩), vi i] w0 zsr [r1, r2, r3, r4] (DDR h (S) (.tuple [vs (Dk.read S i).1, vi (Dk.read S i).2].toArray)) := by
 refine fn_enterx Tryz.func48 rfl Tryz.ntmps48 (Nat.le_of_ble_eq_true rfl) fun hsr a w hF hS => ?_
 replace hS : St _ (_) (_ :: _ :: _ :: _ :: _) _ := hS
 refine wp_seq_k ?_; intro K1 hK1
 refine reg hF hS (sq rfl (q_assign rfl) <|
   sq rfl (q_assign rfl) <|
   sq_end) ?_
 clear hF hS; intro a w hF hS
 refine hK1 _ _ ?_
 clear hK1
 refine wp_seq_k ?_; intro K2 hK2
 refine wp_seq_k ?_; intro K3 hK3
 refine regl ?_
 refine wpl_sq hF hS (sq rfl (q_move rfl) <|
   sq rfl (q_move rfl) <|
   sq_end) ?_
 clear hF hS; intro a w hF hS
 refine wpl_ef hF hS rfl (ef_callx fn43 rfl (List.Perm.refl _) (by exact (dcheck_ct _ _ _ _ _  hD))) ?_
 clear hF hS; rintro _ _ _ a w ⟨_, _, rfl, rfl, ⟨rfl, rfl, qa2, qb3, qc4, qd5, rfl, hD6⟩⟩ hF hS
 replace hS : St _ (_) (_ :: _ :: _ :: _ :: _) _ := hS
 refine wpl_sq hF hS (sq rfl (q_assign rfl) <|
   sq_end) ?_
 clear hF hS; intro a w hF hS
 refine wpList_nil ?_
 refine hK3 _ _ ?_
 clear hK3
 refine wp_seq_k ?_; intro K4 hK4
 refine reg hF hS (sq rfl (q_move rfl) <|
   sq rfl (q_nei rfl rfl) <|
   sq_end) ?_
 clear hF hS; intro a w hF hS
 refine hK4 _ _ ?_
 clear hK4
 refine wp_ifn hF rfl (fun hc1 => ?_) (fun hc1 => ?_)
 ·refine wp_seq_k ?_; intro K5 hK5
  refine reg hF hS (sq rfl (q_move rfl) <|
    sq rfl (q_assign rfl) <|
    sq rfl (q_assign rfl) <|
    sq_end) ?_
  clear hF hS; intro a w hF hS
  refine hK5 _ _ ?_
  clear hK5
  refine wp_ret ?_
  exact fn_retx (rs := [.tmp 4, .tmp 5]) rfl hF hS (vs := [_, _]) ⟨rfl, rfl, trivial⟩ [] [_, _, _, _] sQ sQ (Dk.dr_of (S := S) ⟨rfl, rfl, _, _, _, _, rfl, hD6⟩ (rfl) (by rw [Dk.read_bad hc1]))
 ·have hc0 : Dk.check S i = 0 := by omega
  obtain ⟨hof, hir⟩ := Dk.check_0 hc0
  obtain ⟨l, e1, c1, m1, e2, c2, m2, hO, hl, hlr, hM1, hM2, hP, hW, rfl, rfl, rfl, rfl⟩ := hD6
  have hlo := hO.lo
  have hhi := hO.hi
  have hlf := hO.lf
  have hlg := hO.lf2
  have hbl := Dk.bl_len S
  have hbs := Dk.bl_64 hO
  replace hS : St _ (_) (_ :: _ :: _ :: _ :: _) _ := hS
  have hpg := Dk.pget_len hO hir
  refine wp_skip ?_
  refine hK2 _ _ ?_
  clear hK2
  refine wp_seq_k ?_; intro K6 hK6
  refine wp_seq_k ?_; intro K7 hK7
  refine regl ?_
  refine wpl_sq hF hS (sq rfl (q_move rfl) <|
    sq rfl (q_nilCheck rfl) <|
    sq rfl (q_fieldAddr ty77 rfl rfl (s' := 0) kQ) <|
    sq rfl (q_ld_blk1 ty75 0 rfl rfl rfl rfl) <|
    sq rfl (q_move rfl) <|
    sq rfl (q_lookupk2 ty75 ty86 (key_I ty3) 2 rfl rfl rfl hM1.1 (fun _ _ => trivial) trivial (Dk.pend_get hP hir) (Dk.pend_is hP hir)) <|
    sq rfl (q_move rfl) <|
    sq rfl (q_extract rfl rfl) <|
    sq rfl (q_extract rfl rfl) <|
    sq_end) ?_
  clear hF hS; intro a w hF hS
  refine wpl_ef hF hS rfl (ef_allocA ty86) ?_
  clear hF hS; rintro _ _ _ a w ⟨b7, rfl, rfl, rfl⟩ hF hS
  rw [show List.replicate 64 (Value.int .u8 0) = (List.replicate 64 (0 : UInt8)).map vb from by rw [List.map_replicate] <;> rfl] at hS
  refine wpl_ef hF hS rfl (ef_storeW ty86 0 rfl rfl rfl rfl bQ oQ bQ) ?_
  clear hF hS; rintro _ _ _ a w ⟨rfl, rfl, rfl⟩ hF hS
  replace hS : St _ (_) (_ :: _ :: _ :: _ :: _ :: _) _ := hS
  refine wpl_sq hF hS (sq rfl (q_assign rfl) <|
    sq_end) ?_
  clear hF hS; intro a w hF hS
  refine wpList_nil ?_
  refine hK7 _ _ ?_
  clear hK7
  refine wp_seq_k ?_; intro K8 hK8
  refine reg hF hS (sq rfl (q_move rfl) <|
    sq_end) ?_
  clear hF hS; intro a w hF hS
  refine hK8 _ _ ?_
  clear hK8
  refine wp_if hF rfl (fun hc2 => ?_) (fun hc2 => ?_)
  ·refine wp_seq_k ?_; intro K9 hK9
   refine reg hF hS (sq rfl (q_sla ty86 ty5 rfl) <|
     sq rfl (q_b2s_blkM ty81 ty9 ty5 0 rfl rfl bQ) <|
     sq rfl (q_assign rfl) <|
     sq rfl (q_assign rfl) <|
     sq_end) ?_
   clear hF hS; intro a w hF hS
   refine hK9 _ _ ?_
   clear hK9
   refine wp_ret ?_
   replace hS := hS.perm (.swap _ _ _)
   replace hS := hS.perm (.cons _ (.swap _ _ _))
   replace hS := hS.perm (.cons _ (.cons _ (.swap _ _ _)))
   replace hS := hS.perm (.cons _ (.cons _ (.cons _ (.swap _ _ _))))
   exact fn_retx (rs := [.tmp 4, .tmp 5]) rfl hF hS (vs := [_, _]) ⟨rfl, rfl, trivial⟩ [] [_, _, _, _] sQ (sQ.n.k.k.k.k) (Dk.dr_of (S := S) ⟨rfl, rfl, _, _, _, _, rfl, ⟨l, e1, c1, m1, e2, c2, m2, hO, hl, hlr, hM1, hM2, hP, hW, rfl, rfl, rfl, rfl⟩⟩ (rfl) (by rw [Dk.read_nx hc0 hc2, Dk.pget_t hc2]))
  ·refine wp_skip ?_
   refine hK6 _ _ ?_
   clear hK6
   refine wp_seq_k ?_; intro K10 hK10
   refine reg hF hS (sq rfl (q_move rfl) <|
     sq rfl (q_nilCheck rfl) <|
     sq rfl (q_fieldAddr ty77 rfl rfl (s' := 0) kQ) <|
     sq rfl (q_ld_blk1 ty74 1 rfl rfl rfl rfl) <|
     sq rfl (q_move rfl) <|
     sq rfl (q_idx_row ty74 ty86 2 rfl rfl rfl (by omega)) <|
     sq rfl (q_slE ty86 ty5 2 rfl rfl (by omega)) <|
     sq rfl (q_b2s_rowSl ty81 ty9 ty5 2 rfl (Dk.bl_len S).symm (Dk.bl_64 hO) rfl (by omega)) <|
     sq rfl (q_assign rfl) <|
     sq rfl (q_assign rfl) <|
     sq_end) ?_
   clear hF hS; intro a w hF hS
   refine hK10 _ _ ?_
   clear hK10
   refine wp_ret ?_
   replace hS := hS.perm (.swap _ _ _)
   replace hS := hS.perm (.cons _ (.swap _ _ _))
   replace hS := hS.perm (.cons _ (.cons _ (.swap _ _ _)))
   replace hS := hS.perm (.cons _ (.cons _ (.cons _ (.swap _ _ _))))
   exact fn_retx (rs := [.tmp 4, .tmp 5]) rfl hF hS (vs := [_, _]) ⟨rfl, rfl, trivial⟩ [] [_, _, _, _] sQ (sQ.n.k.k.k.k) (Dk.dr_of (S := S) ⟨rfl, rfl, _, _, _, _, rfl, ⟨l, e1, c1, m1, e2, c2, m2, hO, hl, hlr, hM1, hM2, hP, hW, rfl, rfl, rfl, rfl⟩⟩ (rfl) (by rw [Dk.read_tx hc0 (by rw [hc2]; simp), Dk.bl_at hir]))

set_option maxRecDepth 4000 in
set_option maxHeartbeats 2000000 in
theorem dwrite_ct (h : Dk.Hd) (S : Dk.Dsk) (i : Int) (hi : -9223372036854775808 ≤ i ∧ i ≤ 9223372036854775807) (t : List UInt8) (w0 : World) (zsr : List PH) {r1 r2 r3 r4 : Res} (hD : DD h S r1 r2 r3 r4) : Cx Tryz.prog 10 [.pointer (some ⟨h.b, 0, none⟩), vi i, vs t] w0 zsr [r1, r2, r3, r4] (DDR h ((Dk.write S i t).1) (vi (Dk.write S i t).2)) := by
 refine fn_enterx Tryz.func10 rfl Tryz.ntmps10 (Nat.le_of_ble_eq_true rfl) fun hsr a w hF hS => ?_
 replace hS : St _ (_) (_ :: _ :: _ :: _ :: _) _ := hS
 refine wp_seq_k ?_; intro K1 hK1
 refine reg hF hS (sq rfl (q_assign rfl) <|
   sq_end) ?_
 clear hF hS; intro a w hF hS
 refine hK1 _ _ ?_
 clear hK1
 refine wp_seq_k ?_; intro K2 hK2
 refine wp_seq_k ?_; intro K3 hK3
 refine regl ?_
 refine wpl_sq hF hS (sq rfl (q_move rfl) <|
   sq rfl (q_move rfl) <|
   sq_end) ?_
 clear hF hS; intro a w hF hS
 refine wpl_ef hF hS rfl (ef_callx fn43 rfl (List.Perm.refl _) (by exact (dcheck_ct _ _ _ _ _  hD))) ?_
 clear hF hS; rintro _ _ _ a w ⟨_, _, rfl, rfl, ⟨rfl, rfl, qa2, qb3, qc4, qd5, rfl, hD6⟩⟩ hF hS
 replace hS : St _ (_) (_ :: _ :: _ :: _ :: _) _ := hS
 refine wpl_sq hF hS (sq rfl (q_assign rfl) <|
   sq_end) ?_
 clear hF hS; intro a w hF hS
 refine wpList_nil ?_
 refine hK3 _ _ ?_
 clear hK3
 refine wp_seq_k ?_; intro K4 hK4
 refine reg hF hS (sq rfl (q_move rfl) <|
   sq rfl (q_nei rfl rfl) <|
   sq_end) ?_
 clear hF hS; intro a w hF hS
 refine hK4 _ _ ?_
 clear hK4
 refine wp_ifn hF rfl (fun hc1 => ?_) (fun hc1 => ?_)
 ·refine wp_seq_k ?_; intro K5 hK5
  refine reg hF hS (sq rfl (q_move rfl) <|
    sq rfl (q_assign rfl) <|
    sq_end) ?_
  clear hF hS; intro a w hF hS
  refine hK5 _ _ ?_
  clear hK5
  refine wp_ret ?_
  exact fn_retx (rs := [.tmp 6]) rfl hF hS (vs := [_]) ⟨rfl, trivial⟩ [] [_, _, _, _] sQ sQ (Dk.dr_of (S := S) ⟨rfl, rfl, _, _, _, _, rfl, hD6⟩ (by rw [Dk.write_1 hc1]) (by rw [Dk.write_1 hc1]))
 ·have hc0 : Dk.check S i = 0 := by omega
  obtain ⟨hof, hir⟩ := Dk.check_0 hc0
  refine wp_skip ?_
  refine hK2 _ _ ?_
  clear hK2
  refine wp_seq_k ?_; intro K6 hK6
  refine wp_seq_k ?_; intro K7 hK7
  refine reg hF hS (sq rfl (q_move rfl) <|
    sq rfl (q_len_s ty9 rfl) <|
    sq rfl (q_nei rfl rfl) <|
    sq_end) ?_
  clear hF hS; intro a w hF hS
  refine hK7 _ _ ?_
  clear hK7
  refine wp_ifn hF rfl (fun hc2 => ?_) (fun hc2 => ?_)
  ·refine wp_seq_k ?_; intro K8 hK8
   refine reg hF hS (sq rfl (q_assign rfl) <|
     sq_end) ?_
   clear hF hS; intro a w hF hS
   refine hK8 _ _ ?_
   clear hK8
   refine wp_ret ?_
   exact fn_retx (rs := [.tmp 6]) rfl hF hS (vs := [_]) ⟨rfl, trivial⟩ [] [_, _, _, _] sQ sQ (Dk.dr_of (S := S) ⟨rfl, rfl, _, _, _, _, rfl, hD6⟩ (by rw [Dk.write_2 hc0 (by omega)]) (by rw [Dk.write_2 hc0 (by omega)]))
  ·have h64 : t.length = 64 := by omega
   refine wp_skip ?_
   refine hK6 _ _ ?_
   clear hK6
   refine wp_seq_k ?_; intro K9 hK9
   refine wp_seq_k ?_; intro K10 hK10
   refine regl ?_
   refine wpl_sq hF hS (sq rfl (q_move rfl) <|
     sq_end) ?_
   clear hF hS; intro a w hF hS
   refine wpl_ef hF hS rfl (ef_callx fn44 rfl (List.Perm.refl _) (by exact (dstep_ct _ _ _ _  hD6))) ?_
   clear hF hS; rintro _ _ _ a w ⟨_, _, rfl, rfl, ⟨rfl, rfl, qa8, qb9, qc10, qd11, rfl, hD12⟩⟩ hF hS
   replace hS : St _ (_) (_ :: _ :: _ :: _ :: _) _ := hS
   refine wpl_sq hF hS (sq rfl (q_assign rfl) <|
     sq_end) ?_
   clear hF hS; intro a w hF hS
   refine wpList_nil ?_
   refine hK10 _ _ ?_
   clear hK10
   refine wp_seq_k ?_; intro K11 hK11
   refine reg hF hS (sq rfl (q_move rfl) <|
     sq rfl (q_nei rfl rfl) <|
     sq_end) ?_
   clear hF hS; intro a w hF hS
   refine hK11 _ _ ?_
   clear hK11
   refine wp_ifn hF rfl (fun hc3 => ?_) (fun hc3 => ?_)
   ·refine wp_seq_k ?_; intro K12 hK12
    refine reg hF hS (sq rfl (q_move rfl) <|
      sq rfl (q_assign rfl) <|
      sq_end) ?_
    clear hF hS; intro a w hF hS
    refine hK12 _ _ ?_
    clear hK12
    refine wp_ret ?_
    exact fn_retx (rs := [.tmp 6]) rfl hF hS (vs := [_]) ⟨rfl, trivial⟩ [] [_, _, _, _] sQ sQ (Dk.dr_of (S := (Dk.step S).1) ⟨rfl, rfl, _, _, _, _, rfl, hD12⟩ (by rw [Dk.write_3 hc0 h64 hc3]) (by rw [Dk.write_3 hc0 h64 hc3]))
   ·have hs0 : (Dk.step S).2 = 0 := by omega
    have hir2 : 0 ≤ i ∧ i < (Dk.step S).1.s.length := by rw [Dk.step_s]; exact hir
    obtain ⟨l, e1, c1, m1, e2, c2, m2, hO, hl, hlr, hM1, hM2, hP, hW, rfl, rfl, rfl, rfl⟩ := hD12
    have hlo := hO.lo
    have hhi := hO.hi
    have hlf := hO.lf
    have hlg := hO.lf2
    have hbl := Dk.bl_len (Dk.step S).1
    have hbs := Dk.bl_64 hO
    replace hS : St _ (_) (_ :: _ :: _ :: _ :: _) _ := hS
    refine wp_skip ?_
    refine hK9 _ _ ?_
    clear hK9
    refine wp_seq_k ?_; intro K13 hK13
    revert hS; revert hF; apply regJ (J := J4 (α0 := Value) (α1 := PH) (α2 := List MapEntry) (α3 := Nat) 32 _ _ _ _ _) #[false, false, false, false, false, false, false, false, false, false] 10 mixed rfl rfl
    ·intro w hF hS
     refine goW_take 0 _ rfl kQ rfl hF (hS.keep sQ (sQ.n.n.n.n)) (q_move rfl) ?_
     clear hF; intro a hF
     refine goW_take 1 _ rfl kQ rfl hF (hS.keep sQ (sQ.n.n.n.n)) (q_nilCheck rfl) ?_
     clear hF; intro a hF
     refine goW_take 2 _ rfl kQ rfl hF (hS.keep sQ (sQ.n.n.n.n)) (q_fieldAddr ty77 rfl rfl (s' := 0) kQ) ?_
     clear hF; intro a hF
     refine goW_take 3 _ rfl kQ rfl hF (hS.keep sQ (sQ.n.n.n.k)) (q_ld_blk1 ty75 0 rfl rfl rfl rfl) ?_
     clear hF; intro a hF
     refine goW_take 4 _ rfl kQ rfl hF (hS.keep sQ (sQ.n.n.n.n)) (q_move rfl) ?_
     clear hF; intro a hF
     refine goW_take 5 _ rfl kQ rfl hF (hS.keep sQ (sQ.n.n.n.n)) (q_move rfl) ?_
     clear hF; intro a hF
     refine gQ 6 rfl rfl hF hS rfl (ef_s2b ty9 ty81 ty5 rfl (by omega)) ?_
     clear hF hS; rintro v_9_6 _ _ a w ⟨z_9_6, rfl, rfl, hz_9_6⟩ hF hS
     refine ⟨⟨iQ, .inr (hS.keep (sQ.n) (sQ.n.n.n.n)), .inr (hS.keep (sQ.n) (sQ.n.n.n.k)), .inr (hS.keep (sQ.n) (sQ.n.n.n.n)), .inr (hS.keep (sQ.n) (sQ.n.n.n.n)), .inr (hS.keep (sQ.n) (sQ.n.n.n.n)), trivial⟩, ?_⟩
     refine goW_take 7 _ rfl kQ rfl hF (hS.keep sQ (sQ.n.n.n.n)) (q_s2ap_sl ty86 hz_9_6 rfl bQ (by decide)) ?_
     clear hF; intro a hF
     refine goW_take 8 _ rfl kQ rfl hF (hS.keep sQ (sQ.n.n.n.n)) (q_ld_B16 ty86 hz_9_6 (.inr (by simp)) rfl rfl bQ (by decide)) ?_
     clear hF; intro a hF
     refine gQ 9 rfl rfl hF hS rfl (ef_mapsetT ty75 (key_I ty3) 2 rfl rfl rfl rfl hM1 (fun _ _ => trivial) trivial) ?_
     clear hF hS; rintro _ _ _ a w ⟨es9, c9, hM9, rfl, rfl, rfl⟩ hF hS
     replace hS : St _ (_ :: _) (_ :: _ :: _ :: _ :: _) _ := hS
     refine ⟨⟨iQ, iQ, iQ, iQ, iQ, iQ, iQ, iQ, trivial⟩, ?_⟩
     exact goW_done kQ (j4_mk v_9_6 z_9_6 es9 c9 ((And.intro hz_9_6 (And.intro hM9 trivial))) (hF.sub (L' := []) trivial) hS)
    rintro a w ⟨v_9_6, z_9_6, es9, c9, ⟨hz_9_6, hM9, -⟩, hF, hS⟩
    (try dsimp only at hF); (try dsimp only at hS)
    refine hK13 _ _ ?_
    clear hK13
    refine wp_seq_k ?_; intro K14 hK14
    refine reg hF hS (sq rfl (q_assign rfl) <|
      sq_end) ?_
    clear hF hS; intro a w hF hS
    refine hK14 _ _ ?_
    clear hK14
    refine wp_ret ?_
    exact fn_retx (rs := [.tmp 6]) rfl hF hS (vs := [_]) ⟨rfl, trivial⟩ [] [_, _, _, _] (sQ.n) sQ (Dk.dr_of (S := Dk.mark (Dk.step S).1 i t) ⟨rfl, rfl, _, _, _, _, rfl, ⟨l, _, _, _, e2, c2, m2, (Dk.ok_mark hO hir2 h64), hl, hlr, hM9, hM2, (hP.put (Dk.pend_mark hir2 t)), (hW.eq (Dk.wrn_put hir2 rfl)), rfl, (by rw [Dk.mark_bl hir2, Dk.mark_len]), rfl, rfl⟩⟩ (by rw [Dk.write_4 hc0 h64 hs0]) (by rw [Dk.write_4 hc0 h64 hs0]))
end Go.Proofs.YtibbhobfdbfkkaaGreatDoor
end

section
namespace Go.Proofs.YtibbhobfdbfkkaaGreatDoor
open Go.Fw
theorem ty45 : Tf Tryz.prog 45 (.map 3 4) 1 8 (Value.map none) := ⟨Tryz.underlying45, by kernel_rfl⟩

set_option maxRecDepth 4000 in
set_option maxHeartbeats 2000000 in
theorem dsettle_ct (h : Dk.Hd) (S : Dk.Dsk) (i p : Int) (hi : 0 ≤ i ∧ i < S.s.length) (hd : (S.at i).dt = true) (hp : -9223372036854775808 ≤ p ∧ p ≤ 9223372036854775807) (w0 : World) (zsr : List PH) {r1 r2 r3 r4 : Res} (hD : DD h S r1 r2 r3 r4) : Cx Tryz.prog 65 [.pointer (some ⟨h.b, 0, none⟩), vi i, vi p] w0 zsr [r1, r2, r3, r4] (DDR h (S.put i (Dk.settle1 (S.at i) p)) (.tuple ([] : List Value).toArray)) := by
 refine fn_enterx Tryz.func65 rfl Tryz.ntmps65 (Nat.le_of_ble_eq_true rfl) fun hsr a w hF hS => ?_
 replace hS : St _ (_) (_ :: _ :: _ :: _ :: _) _ := hS
 obtain ⟨l, e1, c1, m1, e2, c2, m2, hO, hl, hlr, hM1, hM2, hP, hW, rfl, rfl, rfl, rfl⟩ := hD
 have hlo := hO.lo
 have hhi := hO.hi
 have hlf := hO.lf
 have hlg := hO.lf2
 have hbl := Dk.bl_len S
 have hbs := Dk.bl_64 hO
 replace hS : St _ (_) (_ :: _ :: _ :: _ :: _) _ := hS
 have hpg := Dk.pget_len hO hi
 have hbg : ((Dk.bl S).getD i.toNat []).length = 64 := by rw [Dk.bl_at hi]; exact (hO.at hi).1
 refine wp_seq_k ?_; intro K1 hK1
 refine regl ?_
 refine wpl_sq hF hS (sq rfl (q_move rfl) <|
   sq rfl (q_nilCheck rfl) <|
   sq rfl (q_fieldAddr ty77 rfl rfl (s' := 0) kQ) <|
   sq rfl (q_ld_blk1 ty75 0 rfl rfl rfl rfl) <|
   sq rfl (q_move rfl) <|
   sq rfl (q_lookupD ty75 ty86 (key_I ty3) 2 rfl rfl rfl hM1.1 (fun _ _ => trivial) trivial (Dk.pend_get hP hi)) <|
   sq_end) ?_
 clear hF hS; intro a w hF hS
 refine wpl_ef hF hS rfl (ef_allocA ty86) ?_
 clear hF hS; rintro _ _ _ a w ⟨b1, rfl, rfl, rfl⟩ hF hS
 rw [show List.replicate 64 (Value.int .u8 0) = (List.replicate 64 (0 : UInt8)).map vb from by rw [List.map_replicate] <;> rfl] at hS
 refine wpl_ef hF hS rfl (ef_storeW ty86 0 rfl rfl rfl rfl bQ oQ bQ) ?_
 clear hF hS; rintro _ _ _ a w ⟨rfl, rfl, rfl⟩ hF hS
 replace hS : St _ (_) (_ :: _ :: _ :: _ :: _ :: _) _ := hS
 refine wpList_nil ?_
 refine hK1 _ _ ?_
 clear hK1
 refine wp_seq_k ?_; intro K2 hK2
 refine regl ?_
 refine wpl_sq hF hS (sq rfl (q_move rfl) <|
   sq rfl (q_nilCheck rfl) <|
   sq rfl (q_fieldAddr ty77 rfl rfl (s' := 0) kQ) <|
   sq rfl (q_ld_blk1 ty75 1 rfl rfl rfl rfl) <|
   sq rfl (q_move rfl) <|
   sq_end) ?_
 clear hF hS; intro a w hF hS
 refine wpl_ef hF hS rfl (ef_mapdelT ty75 (key_I ty3) 3 rfl rfl rfl hM1 (fun _ _ => trivial) trivial) ?_
 clear hF hS; rintro _ _ _ a w ⟨es9, c9, hM9, rfl, rfl⟩ hF hS
 replace hS : St _ (_) (_ :: _ :: _ :: _ :: _ :: _) _ := hS
 refine wpList_nil ?_
 refine hK2 _ _ ?_
 clear hK2
 refine wp_seq_k ?_; intro K3 hK3
 refine regq mixed kQ hS ?_
 refine wpq_seg hF (sq rfl (q_move rfl) <|
   sq rfl (q_nilCheck rfl) <|
   sq rfl (q_fieldAddr ty77 rfl rfl (s' := 0) kQ) <|
   sq rfl (q_ld_blk1 ty45 1 rfl rfl rfl rfl) <|
   sq rfl (q_move rfl) <|
   sq rfl (q_lookupD ty45 ty4 (key_I ty3) 4 rfl rfl rfl hM2.1 (fun _ _ => trivial) trivial (Dk.wrn_get hW hi)) <|
   sq rfl (q_not rfl) <|
   sq rfl (q_move rfl) <|
   sq_end) ?_
 clear hF; intro a hF
 refine wpq_and 7 25 9 hF rfl rfl rfl rfl rfl (fun hg => have hg := hg; sq_go 25 rfl rfl rfl (q_ld_blkW ty86 0 rfl rfl bQ rfl) <|
   sq_go 25 rfl rfl rfl (q_move rfl) <|
   sq_go 25 rfl rfl rfl (q_nilCheck rfl) <|
   sq_go 25 rfl rfl rfl (q_fieldAddr ty77 rfl rfl (s' := 0) kQ) <|
   sq_go 25 rfl rfl rfl (q_ld_blk1 ty74 1 rfl rfl rfl rfl) <|
   sq_go 25 rfl rfl rfl (q_move rfl) <|
   sq_go 25 rfl rfl rfl (q_idx_row ty74 ty86 2 rfl rfl rfl (by omega)) <|
   sq_go 25 rfl rfl rfl (q_ld_rowA ty86 2 rfl (Dk.bl_64 hO) rfl (by omega) (by decide) rfl) <|
   sq_go 25 rfl rfl rfl (q_neAB ty86 ty5 kQ rfl rfl bQ bQ) <|
   sq_end) rfl rfl ?_
 clear hF; intro a hF
 refine wpq_nil ?_
 clear hS; intro w hS
 refine hK3 _ _ ?_
 clear hK3
 refine wp_if hF rfl (fun hc1 => ?_) (fun hc1 => ?_)
 ·(try simp only [Bool.or_eq_true, Bool.and_eq_true, Bool.or_eq_false_iff, Bool.and_eq_false_iff, decide_eq_true_eq, decide_eq_false_iff_not, Bool.not_eq_true', Bool.not_eq_false'] at hc1)
  refine regt 11 mixed kQ hF hS (sq rfl (q_move rfl) <|
    sq rfl (q_nilCheck rfl) <|
    sq rfl (q_fieldAddr ty77 rfl rfl (s' := 0) kQ) <|
    sq rfl (q_ld_blk1 ty74 1 rfl rfl rfl rfl) <|
    sq rfl (q_move rfl) <|
    sq rfl (q_idx_row ty74 ty86 2 rfl rfl rfl (by omega)) <|
    sq rfl (q_move rfl) <|
    sq rfl (q_min rfl rfl) <|
    sq rfl (q_max rfl rfl) <|
    sq rfl (q_slE_hi ty86 ty5 2 rfl rfl rfl (by omega) (by omega)) <|
    sq rfl (q_sla ty86 ty5 rfl) <|
    sq_end) ?_
  clear hF hS; intro a w hF hS
  refine wpl_ef hF hS rfl (ef_copy_rowSl ty81 ty5 2 0 rfl rfl hbs hbl.symm rfl rfl (by omega) (by omega) hpg) ?_
  clear hF hS; rintro _ _ _ a w ⟨rfl, rfl, rfl⟩ hF hS
  replace hS : St _ (_) (_ :: _ :: _ :: _ :: _ :: _) _ := hS
  refine wpList_nil ?_
  -- falls off the end
  replace hS := hS.perm (.swap _ _ _)
  replace hS := hS.perm (.cons _ (.swap _ _ _))
  replace hS := hS.perm (.cons _ (.cons _ (.swap _ _ _)))
  replace hS := hS.perm (.cons _ (.cons _ (.cons _ (.swap _ _ _))))
  exact fn_retx (rs := []) rfl hF hS (vs := []) trivial [] [_, _, _, _] sQ (sQ.n.k.k.k.k) (Dk.dr_of (S := S.put i (Dk.settle1 (S.at i) p)) ⟨rfl, rfl, _, _, _, _, rfl, ⟨l, _, _, _, e2, c2, m2, (hO.put (Dk.settle_ok (hO.at hi) hd p)), hl, hlr, hM9, hM2, (hP.del (Dk.pend_settle hi rfl)), (hW.eq (Dk.wrn_put hi rfl)), rfl, (by rw [Dk.settle_len, ← Dk.settle_bl1 hi hd (by simpa using hc1.1)]; try rfl), rfl, rfl⟩⟩ (rfl) (rfl))
 ·(try simp only [Bool.or_eq_true, Bool.and_eq_true, Bool.or_eq_false_iff, Bool.and_eq_false_iff, decide_eq_true_eq, decide_eq_false_iff_not, Bool.not_eq_true', Bool.not_eq_false'] at hc1)
  refine wp_skip ?_
  -- falls off the end
  replace hS := hS.perm (.swap _ _ _)
  replace hS := hS.perm (.cons _ (.swap _ _ _))
  replace hS := hS.perm (.cons _ (.cons _ (.swap _ _ _)))
  replace hS := hS.perm (.cons _ (.cons _ (.cons _ (.swap _ _ _))))
  exact fn_retx (rs := []) rfl hF hS (vs := []) trivial [] [_, _, _, _] sQ (sQ.n.k.k.k.k) (Dk.dr_of (S := S.put i (Dk.settle1 (S.at i) p)) ⟨rfl, rfl, _, _, _, _, rfl, ⟨l, _, _, _, e2, c2, m2, (hO.put (Dk.settle_ok (hO.at hi) hd p)), hl, hlr, hM9, hM2, (hP.del (Dk.pend_settle hi rfl)), (hW.eq (Dk.wrn_put hi rfl)), rfl, (by rw [Dk.settle_len, ← Dk.settle_bl2 hO hi hd (hc1.imp (fun h9 => by simpa using h9) (fun h9 => by simpa using h9))]), rfl, rfl⟩⟩ (rfl) (rfl))

set_option maxRecDepth 4000 in
set_option maxHeartbeats 2000000 in
theorem drot_ct (h : Dk.Hd) (S : Dk.Dsk) (i b : Int) (hi : -9223372036854775808 ≤ i ∧ i ≤ 9223372036854775807) (hb : -9223372036854775808 ≤ b ∧ b ≤ 9223372036854775807) (w0 : World) (zsr : List PH) {r1 r2 r3 r4 : Res} (hD : DD h S r1 r2 r3 r4) : Cx Tryz.prog 17 [.pointer (some ⟨h.b, 0, none⟩), vi i, vi b] w0 zsr [r1, r2, r3, r4] (DDR h ((Dk.rot S i b).1) (vi (Dk.rot S i b).2)) := by
 refine fn_enterx Tryz.func17 rfl Tryz.ntmps17 (Nat.le_of_ble_eq_true rfl) fun hsr a w hF hS => ?_
 replace hS : St _ (_) (_ :: _ :: _ :: _ :: _) _ := hS
 obtain ⟨l, e1, c1, m1, e2, c2, m2, hO, hl, hlr, hM1, hM2, hP, hW, rfl, rfl, rfl, rfl⟩ := hD
 have hlo := hO.lo
 have hhi := hO.hi
 have hlf := hO.lf
 have hlg := hO.lf2
 have hbl := Dk.bl_len S
 have hbs := Dk.bl_64 hO
 replace hS : St _ (_) (_ :: _ :: _ :: _ :: _) _ := hS
 refine wp_seq_k ?_; intro K1 hK1
 refine reg hF hS (sq rfl (q_assign rfl) <|
   sq_end) ?_
 clear hF hS; intro a w hF hS
 refine hK1 _ _ ?_
 clear hK1
 refine wp_seq_k ?_; intro K2 hK2
 refine wp_seq_k ?_; intro K3 hK3
 refine regl ?_
 refine wpl_sq hF hS (sq rfl (q_move rfl) <|
   sq rfl (q_lti rfl rfl) <|
   sq rfl (q_move rfl) <|
   sq_end) ?_
 clear hF hS; intro a w hF hS
 refine wpl_or 2 9 7 hF hS rfl rfl rfl rfl rfl (fun hg => have hg := (by first | exact of_decide_eq_false hg | exact hg); sq_go 9 rfl rfl rfl (q_move rfl) <|
   sq_go 9 rfl rfl rfl (q_move rfl) <|
   sq_go 9 rfl rfl rfl (q_nilCheck rfl) <|
   sq_go 9 rfl rfl rfl (q_fieldAddr ty77 rfl rfl (s' := 0) kQ) <|
   sq_go 9 rfl rfl rfl (q_ld_blk1 ty74 0 rfl rfl rfl rfl) <|
   sq_go 9 rfl rfl rfl (q_len_row ty74 1 rfl rfl) <|
   sq_go 9 rfl rfl rfl (q_gei rfl rfl) <|
   sq_end) rfl rfl ?_
 clear hF hS; intro a w hF hS
 refine wpl_sq hF hS (sq rfl (q_move rfl) <|
   sq_end) ?_
 clear hF hS; intro a w hF hS
 refine wpl_or 11 18 2 hF hS rfl rfl rfl rfl rfl (fun hg => have hg := hg; sq_go 18 rfl rfl rfl (q_move rfl) <|
   sq_go 18 rfl rfl rfl (q_lti rfl rfl) <|
   sq_end) rfl rfl ?_
 clear hF hS; intro a w hF hS
 refine wpl_sq hF hS (sq rfl (q_move rfl) <|
   sq_end) ?_
 clear hF hS; intro a w hF hS
 refine wpl_or 15 22 2 hF hS rfl rfl rfl rfl rfl (fun hg => have hg := hg; sq_go 22 rfl rfl rfl (q_move rfl) <|
   sq_go 22 rfl rfl rfl (q_gei rfl rfl) <|
   sq_end) rfl rfl ?_
 clear hF hS; intro a w hF hS
 refine wpList_nil ?_
 refine hK3 _ _ ?_
 clear hK3
 refine wp_if hF rfl (fun hc1 => ?_) (fun hc1 => ?_)
 ·(try simp only [Bool.or_eq_true, Bool.and_eq_true, Bool.or_eq_false_iff, Bool.and_eq_false_iff, decide_eq_true_eq, decide_eq_false_iff_not, Bool.not_eq_true', Bool.not_eq_false'] at hc1)
  refine wp_seq_k ?_; intro K4 hK4
  refine reg hF hS (sq rfl (q_assign rfl) <|
    sq_end) ?_
  clear hF hS; intro a w hF hS
  refine hK4 _ _ ?_
  clear hK4
  refine wp_ret ?_
  exact fn_retx (rs := [.tmp 6]) rfl hF hS (vs := [_]) ⟨rfl, trivial⟩ [] [_, _, _, _] sQ sQ (Dk.dr_of (S := S) ⟨rfl, rfl, _, _, _, _, rfl, ⟨l, e1, c1, m1, e2, c2, m2, hO, hl, hlr, hM1, hM2, hP, hW, rfl, rfl, rfl, rfl⟩⟩ (by rw [Dk.rot_no (by omega)]) (by rw [Dk.rot_no (by omega)]))
 ·(try simp only [Bool.or_eq_true, Bool.and_eq_true, Bool.or_eq_false_iff, Bool.and_eq_false_iff, decide_eq_true_eq, decide_eq_false_iff_not, Bool.not_eq_true', Bool.not_eq_false'] at hc1)
  have hir : 0 ≤ i ∧ i < S.s.length := by omega
  have hbr : 0 ≤ b ∧ b < 512 := by omega
  refine wp_skip ?_
  refine hK2 _ _ ?_
  clear hK2
  refine wp_seq_k ?_; intro K5 hK5
  refine regt 16 mixed kQ hF hS (sq rfl (q_move rfl) <|
    sq rfl (q_nilCheck rfl) <|
    sq rfl (q_fieldAddr ty77 rfl rfl (s' := 0) kQ) <|
    sq rfl (q_ld_blk1 ty74 0 rfl rfl rfl rfl) <|
    sq rfl (q_move rfl) <|
    sq rfl (q_move rfl) <|
    sq rfl (q_quoi rfl rfl (by omega)) <|
    sq rfl (q_idx_row ty74 ty86 1 rfl rfl rfl (by omega)) <|
    sq rfl (q_idx_rowE ty86 ty5 1 rfl rfl rfl (by omega) (by omega)) <|
    sq rfl (q_ld_row ty5 1 rfl rfl (flat_at hbs (k := i.toNat) (i := (b / 8).toNat) (by omega) (by omega)) rfl) <|
    sq rfl (q_move rfl) <|
    sq rfl (q_remi rfl rfl (by omega)) <|
    sq rfl (q_shlb (p := 1) rfl rfl (by omega)) <|
    sq rfl (q_xorb rfl rfl) <|
    sq rfl (q_idx_row ty74 ty86 1 rfl rfl rfl (by omega)) <|
    sq rfl (q_idx_rowE ty86 ty5 1 rfl rfl rfl (by omega) (by omega)) <|
    sq_end) ?_
  clear hF hS; intro a w hF hS
  refine wpl_ef hF hS rfl (ef_st_cell ty5 1 rfl rfl rfl (by omega) rfl) ?_
  clear hF hS; rintro _ _ _ a w ⟨rfl, rfl, rfl⟩ hF hS
  replace hS : St _ (_) (_ :: _ :: _ :: _ :: _) _ := hS
  refine wpList_nil ?_
  rw [flat_set1 hbs (by omega) (by omega)] at hS
  refine hK5 _ _ ?_
  clear hK5
  refine wp_seq_k ?_; intro K6 hK6
  refine reg hF hS (sq rfl (q_assign rfl) <|
    sq_end) ?_
  clear hF hS; intro a w hF hS
  refine hK6 _ _ ?_
  clear hK6
  refine wp_ret ?_
  exact fn_retx (rs := [.tmp 6]) rfl hF hS (vs := [_]) ⟨rfl, trivial⟩ [] [_, _, _, _] sQ sQ (Dk.dr_of (S := S.put i ⟨Dk.flip (S.at i).tx b, (S.at i).nx, (S.at i).dt, (S.at i).wn⟩) ⟨rfl, rfl, _, _, _, _, rfl, ⟨l, e1, c1, m1, e2, c2, m2, (hO.put ⟨by rw [Dk.flip_len]; exact (hO.at hir).1, (hO.at hir).2⟩), hl, hlr, hM1, hM2, (hP.eq (Dk.pend_put hir rfl rfl)), (hW.eq (Dk.wrn_put hir rfl)), rfl, (by rw [Dk.put_len, ← Dk.rot_bl hir]; rfl), rfl, rfl⟩⟩ (by rw [Dk.rot_ok hir hbr]) (by rw [Dk.rot_ok hir hbr]))

set_option maxRecDepth 4000 in
set_option maxHeartbeats 2000000 in
theorem dwear_ct (h : Dk.Hd) (S : Dk.Dsk) (i : Int) (hi : -9223372036854775808 ≤ i ∧ i ≤ 9223372036854775807) (w0 : World) (zsr : List PH) {r1 r2 r3 r4 : Res} (hD : DD h S r1 r2 r3 r4) : Cx Tryz.prog 34 [.pointer (some ⟨h.b, 0, none⟩), vi i] w0 zsr [r1, r2, r3, r4] (DDR h ((Dk.wear S i).1) (vi (Dk.wear S i).2)) := by
 refine fn_enterx Tryz.func34 rfl Tryz.ntmps34 (Nat.le_of_ble_eq_true rfl) fun hsr a w hF hS => ?_
 replace hS : St _ (_) (_ :: _ :: _ :: _ :: _) _ := hS
 obtain ⟨l, e1, c1, m1, e2, c2, m2, hO, hl, hlr, hM1, hM2, hP, hW, rfl, rfl, rfl, rfl⟩ := hD
 have hlo := hO.lo
 have hhi := hO.hi
 have hlf := hO.lf
 have hlg := hO.lf2
 have hbl := Dk.bl_len S
 have hbs := Dk.bl_64 hO
 replace hS : St _ (_) (_ :: _ :: _ :: _ :: _) _ := hS
 refine wp_seq_k ?_; intro K1 hK1
 refine reg hF hS (sq rfl (q_assign rfl) <|
   sq_end) ?_
 clear hF hS; intro a w hF hS
 refine hK1 _ _ ?_
 clear hK1
 refine wp_seq_k ?_; intro K2 hK2
 refine wp_seq_k ?_; intro K3 hK3
 refine regl ?_
 refine wpl_sq hF hS (sq rfl (q_move rfl) <|
   sq rfl (q_lti rfl rfl) <|
   sq rfl (q_move rfl) <|
   sq_end) ?_
 clear hF hS; intro a w hF hS
 refine wpl_or 2 7 7 hF hS rfl rfl rfl rfl rfl (fun hg => have hg := (by first | exact of_decide_eq_false hg | exact hg); sq_go 7 rfl rfl rfl (q_move rfl) <|
   sq_go 7 rfl rfl rfl (q_move rfl) <|
   sq_go 7 rfl rfl rfl (q_nilCheck rfl) <|
   sq_go 7 rfl rfl rfl (q_fieldAddr ty77 rfl rfl (s' := 0) kQ) <|
   sq_go 7 rfl rfl rfl (q_ld_blk1 ty74 0 rfl rfl rfl rfl) <|
   sq_go 7 rfl rfl rfl (q_len_row ty74 1 rfl rfl) <|
   sq_go 7 rfl rfl rfl (q_gei rfl rfl) <|
   sq_end) rfl rfl ?_
 clear hF hS; intro a w hF hS
 refine wpList_nil ?_
 refine hK3 _ _ ?_
 clear hK3
 refine wp_if hF rfl (fun hc1 => ?_) (fun hc1 => ?_)
 ·(try simp only [Bool.or_eq_true, Bool.and_eq_true, Bool.or_eq_false_iff, Bool.and_eq_false_iff, decide_eq_true_eq, decide_eq_false_iff_not, Bool.not_eq_true', Bool.not_eq_false'] at hc1)
  refine wp_seq_k ?_; intro K4 hK4
  refine reg hF hS (sq rfl (q_assign rfl) <|
    sq_end) ?_
  clear hF hS; intro a w hF hS
  refine hK4 _ _ ?_
  clear hK4
  refine wp_ret ?_
  exact fn_retx (rs := [.tmp 4]) rfl hF hS (vs := [_]) ⟨rfl, trivial⟩ [] [_, _, _, _] sQ sQ (Dk.dr_of (S := S) ⟨rfl, rfl, _, _, _, _, rfl, ⟨l, e1, c1, m1, e2, c2, m2, hO, hl, hlr, hM1, hM2, hP, hW, rfl, rfl, rfl, rfl⟩⟩ (by rw [Dk.wear_no (by omega)]) (by rw [Dk.wear_no (by omega)]))
 ·(try simp only [Bool.or_eq_true, Bool.and_eq_true, Bool.or_eq_false_iff, Bool.and_eq_false_iff, decide_eq_true_eq, decide_eq_false_iff_not, Bool.not_eq_true', Bool.not_eq_false'] at hc1)
  have hir : 0 ≤ i ∧ i < S.s.length := by omega
  refine wp_skip ?_
  refine hK2 _ _ ?_
  clear hK2
  refine wp_seq_k ?_; intro K5 hK5
  refine regl ?_
  refine wpl_sq hF hS (sq rfl (q_move rfl) <|
    sq rfl (q_nilCheck rfl) <|
    sq rfl (q_fieldAddr ty77 rfl rfl (s' := 0) kQ) <|
    sq rfl (q_ld_blk1 ty45 0 rfl rfl rfl rfl) <|
    sq rfl (q_move rfl) <|
    sq_end) ?_
  clear hF hS; intro a w hF hS
  refine wpl_ef hF hS rfl (ef_mapsetT ty45 (key_I ty3) 3 rfl rfl rfl rfl hM2 (fun _ _ => trivial) trivial) ?_
  clear hF hS; rintro _ _ _ a w ⟨es9, c9, hM9, rfl, rfl, rfl⟩ hF hS
  replace hS : St _ (_) (_ :: _ :: _ :: _ :: _) _ := hS
  refine wpList_nil ?_
  refine hK5 _ _ ?_
  clear hK5
  refine wp_seq_k ?_; intro K6 hK6
  refine reg hF hS (sq rfl (q_assign rfl) <|
    sq_end) ?_
  clear hF hS; intro a w hF hS
  refine hK6 _ _ ?_
  clear hK6
  refine wp_ret ?_
  exact fn_retx (rs := [.tmp 4]) rfl hF hS (vs := [_]) ⟨rfl, trivial⟩ [] [_, _, _, _] sQ sQ (Dk.dr_of (S := S.put i ⟨(S.at i).tx, (S.at i).nx, (S.at i).dt, true⟩) ⟨rfl, rfl, _, _, _, _, rfl, ⟨l, e1, c1, m1, _, _, _, (hO.put (hO.at hir)), hl, hlr, hM1, hM9, (hP.eq (Dk.pend_put hir rfl rfl)), (hW.put (Dk.wrn_wear hir rfl)), rfl, (by rw [Dk.put_len, Dk.wear_bl hir]), rfl, rfl⟩⟩ (by rw [Dk.wear_ok hir]) (by rw [Dk.wear_ok hir]))
end Go.Proofs.YtibbhobfdbfkkaaGreatDoor
end

section
namespace Go.Proofs.YtibbhobfdbfkkaaGreatDoor
open Go.Fw
theorem ty22 : Tf Tryz.prog 22 (.slice 9) 1 24 (Value.slice none 0 0) := ⟨Tryz.underlying22, by kernel_rfl⟩
theorem fn83 : FnOk Tryz.prog 83 := ⟨_, Tryz.func83, rfl, by kernel_rfl⟩
theorem fn84 : FnOk Tryz.prog 84 := ⟨_, Tryz.func84, rfl, by kernel_rfl⟩

abbrev DDWi := Dk.DRw 77 86 3
abbrev DDWs := Dk.DRw 77 86 9
abbrev DDN := Dk.DRn 77 86
abbrev DDC := Dk.DRc 77 86

theorem sortsin : Go.Proofs.AnyZI.SortsIn Tryz.prog lsA_ren Fence.wide 4 := ⟨fun blk off cap ss W hH hblk hsz => callsIn_wide.2 (Go.Proofs.AnyM.slices_Sort_int lsS blk off cap ss W hH hblk hsz), fun p cap W => callsIn_wide.2 (Go.Proofs.AnyM.slices_Sort_int_none lsS p cap W)⟩

set_option maxRecDepth 4000 in
set_option maxHeartbeats 2000000 in
theorem keysP_ct (b : Nat) (w : World) : Ct Tryz.prog 84 [.map (some b)] w (fun r zs hs => ∃ e, r = .func (.func 99) (List.nil : List Value).toArray [Value.pointer (some ⟨e, 0, none⟩)].toArray ∧ zs = [] ∧ hs = [.blk e 75 [.map (some b)]]) := by
 refine fn_enter Tryz.func84 rfl Tryz.ntmps84 (Nat.le_of_ble_eq_true rfl) fun a hF hS => ?_
 refine wp_seq_k ?_; intro K1 hK1
 refine regl ?_
 refine wpl_ef hF hS rfl (ef_box1 rfl rfl) ?_
 clear hF hS; rintro _ _ _ a w ⟨b1, rfl, rfl, rfl⟩ hF hS
 refine wpl_sq hF hS (sq rfl (q_assign rfl) <|
   sq_end) ?_
 clear hF hS; intro a w hF hS
 refine wpList_nil ?_
 refine hK1 _ _ ?_
 clear hK1
 refine wp_seq_k ?_; intro K2 hK2
 refine reg hF hS (sq rfl (q_mkf rfl rfl) <|
   sq rfl (q_assign rfl) <|
   sq_end) ?_
 clear hF hS; intro a w hF hS
 refine hK2 _ _ ?_
 clear hK2
 refine wp_ret ?_
 exact fn_ret (rs := [.tmp 2]) rfl hF hS (vs := [_]) ⟨rfl, trivial⟩ sQ sQ ⟨_, rfl, rfl, rfl⟩

theorem sortedP_ct {l : List (Int × Value)} {es : List MapEntry} {c e b : Nat} (hM : MpT vi l es c) (hn : (l.map (·.1)).Nodup) (hk : ∀ i ∈ l.map (·.1), -9223372036854775808 ≤ i ∧ i ≤ 9223372036854775807) (hl : l.length ≤ 4096) (w0 : World) (zsr : List PH) : Cx Tryz.prog 83 [.func (.func 99) (List.nil : List Value).toArray [Value.pointer (some ⟨e, 0, none⟩)].toArray] w0 zsr [.blk e 75 [.map (some b)], .mp b es c] (fun v zs1 hs1 => zs1 = [] ∧ hs1 = [.row v 3 1 ((l.map (·.1)).mergeSort (fun x y => decide (x ≤ y))).length (((l.map (·.1)).mergeSort (fun x y => decide (x ≤ y))).map vi), .blk e 75 [.map (some b)], .mp b es c]) := sorted_cx lkP lsA sortsin 3 rfl rfl Tryz.underlying3 (Go.Proofs.enters_of Tryz.func98 kQ rfl) (Go.Proofs.enters_of Tryz.func99 kQ rfl) hM hn hk hl w0 zsr

set_option maxRecDepth 4000 in
set_option maxHeartbeats 2000000 in
theorem dpending_ct (h : Dk.Hd) (S : Dk.Dsk) (w0 : World) (zsr : List PH) {r1 r2 r3 r4 : Res} (hD : DD h S r1 r2 r3 r4) : Cx Tryz.prog 64 [.pointer (some ⟨h.b, 0, none⟩)] w0 zsr [r1, r2, r3, r4] (DDWi h S (Dk.dix S).length ((Dk.dix S).map vi)) := by
 refine fn_enterx Tryz.func64 rfl Tryz.ntmps64 (Nat.le_of_ble_eq_true rfl) fun hsr a w hF hS => ?_
 replace hS : St _ (_) (_ :: _ :: _ :: _ :: _) _ := hS
 obtain ⟨l, e1, c1, m1, e2, c2, m2, hO, hl, hlr, hM1, hM2, hP, hW, rfl, rfl, rfl, rfl⟩ := hD
 have hlo := hO.lo
 have hhi := hO.hi
 have hlf := hO.lf
 have hlg := hO.lf2
 have hbl := Dk.bl_len S
 have hbs := Dk.bl_64 hO
 replace hS : St _ (_) (_ :: _ :: _ :: _ :: _) _ := hS
 refine wp_seq_k ?_; intro K1 hK1
 refine reg hF hS (sq rfl (q_assign rfl) <|
   sq_end) ?_
 clear hF hS; intro a w hF hS
 refine hK1 _ _ ?_
 clear hK1
 refine wp_seq_k ?_; intro K2 hK2
 refine regl ?_
 refine wpl_sq hF hS (sq rfl (q_move rfl) <|
   sq rfl (q_nilCheck rfl) <|
   sq rfl (q_fieldAddr ty77 rfl rfl (s' := 0) kQ) <|
   sq rfl (q_ld_blk1 ty75 0 rfl rfl rfl rfl) <|
   sq_end) ?_
 clear hF hS; intro a w hF hS
 refine wpl_ef hF hS rfl (ef_call fn84 rfl (fun w hS => keysP_ct _ w )) ?_
 clear hF hS; rintro _ _ _ a w ⟨_, _, rfl, rfl, ⟨bx2, rfl, rfl, rfl⟩⟩ hF hS
 replace hS : St _ (_) (_ :: _ :: _ :: _ :: _ :: _) _ := hS
 replace hS := hS.perm (.cons _ (.cons _ (.swap _ _ _)))
 replace hS := hS.perm (.cons _ (.swap _ _ _))
 replace hS : St _ (_) (_ :: _ :: _ :: _ :: _ :: _) _ := hS
 refine wpl_ef hF hS rfl (ef_callx fn83 rfl (List.Perm.refl _) (by exact (sortedP_ct hM1 hP.1 (Dk.mok_rng Dk.pend_some hO hP) (Dk.len_d hO hP) _ _ (b := h.p) ))) ?_
 clear hF hS; rintro v3 _ _ a w ⟨_, _, rfl, rfl, ⟨rfl, rfl⟩⟩ hF hS
 replace hS : St _ (_) (_ :: _ :: _ :: _ :: _ :: _ :: _) _ := hS
 refine wpl_sq hF hS (sq rfl (q_assign rfl) <|
   sq_end) ?_
 clear hF hS; intro a w hF hS
 refine wpList_nil ?_
 rw [Dk.keys_d hP] at hS
 refine hK2 _ _ ?_
 clear hK2
 refine wp_ret ?_
 replace hS := hS.perm (.cons _ (.cons _ (.swap _ _ _)))
 replace hS := hS.perm (.cons _ (.swap _ _ _))
 replace hS := hS.perm (.cons _ (.cons _ (.cons _ (.swap _ _ _))))
 replace hS := hS.perm (.cons _ (.cons _ (.swap _ _ _)))
 replace hS := hS.perm (.cons _ (.cons _ (.cons _ (.swap _ _ _))))
 replace hS := hS.perm (.cons _ (.cons _ (.cons _ (.cons _ (.swap _ _ _)))))
 exact fn_retx (rs := [.tmp 2]) rfl hF hS (vs := [_]) ⟨rfl, trivial⟩ [] [_, _, _, _, _] sQ (sQ.n.k.k.k.k.k) (Dk.drw_of ⟨rfl, _, _, _, _, rfl, ⟨l, e1, c1, m1, e2, c2, m2, hO, hl, hlr, hM1, hM2, hP, hW, rfl, rfl, rfl, rfl⟩⟩ (rfl) (rfl))

set_option maxRecDepth 4000 in
set_option maxHeartbeats 2000000 in
theorem dimage_ct (h : Dk.Hd) (S : Dk.Dsk) (w0 : World) (zsr : List PH) {r1 r2 r3 r4 : Res} (hD : DD h S r1 r2 r3 r4) : Cx Tryz.prog 19 [.pointer (some ⟨h.b, 0, none⟩)] w0 zsr [r1, r2, r3, r4] (DDWs h S (Dk.image S).length ((Dk.image S).map vs)) := by
 refine fn_enterx Tryz.func19 rfl Tryz.ntmps19 (Nat.le_of_ble_eq_true rfl) fun hsr a w hF hS => ?_
 replace hS : St _ (_) (_ :: _ :: _ :: _ :: _) _ := hS
 obtain ⟨l, e1, c1, m1, e2, c2, m2, hO, hl, hlr, hM1, hM2, hP, hW, rfl, rfl, rfl, rfl⟩ := hD
 have hlo := hO.lo
 have hhi := hO.hi
 have hlf := hO.lf
 have hlg := hO.lf2
 have hbl := Dk.bl_len S
 have hbs := Dk.bl_64 hO
 replace hS : St _ (_) (_ :: _ :: _ :: _ :: _) _ := hS
 refine wp_seq_k ?_; intro K1 hK1
 refine reg hF hS (sq rfl (q_assign rfl) <|
   sq_end) ?_
 clear hF hS; intro a w hF hS
 refine hK1 _ _ ?_
 clear hK1
 refine wp_seq_k ?_; intro K2 hK2
 refine regl ?_
 refine wpl_sq hF hS (sq rfl (q_move rfl) <|
   sq rfl (q_nilCheck rfl) <|
   sq rfl (q_fieldAddr ty77 rfl rfl (s' := 0) kQ) <|
   sq rfl (q_ld_blk1 ty74 0 rfl rfl rfl rfl) <|
   sq rfl (q_len_row ty74 1 rfl rfl) <|
   sq_end) ?_
 clear hF hS; intro a w hF hS
 refine wpl_ef hF hS rfl (ef_mks ty22 ty9 rfl rfl bQ bQ rfl) ?_
 clear hF hS; rintro v1 _ _ a w ⟨rfl, rfl⟩ hF hS
 replace hS : St _ (_) (_ :: _ :: _ :: _ :: _ :: _) _ := hS
 refine wpl_sq hF hS (sq rfl (q_assign rfl) <|
   sq_end) ?_
 clear hF hS; intro a w hF hS
 refine wpList_nil ?_
 refine hK2 _ _ ?_
 clear hK2
 refine wp_seq_k ?_; intro K3 hK3
 refine wp_seq_k ?_; intro K4 hK4
 refine reg hF hS (sq rfl (q_move rfl) <|
   sq rfl (q_nilCheck rfl) <|
   sq rfl (q_fieldAddr ty77 rfl rfl (s' := 0) kQ) <|
   sq rfl (q_ld_blk1 ty74 1 rfl rfl rfl rfl) <|
   sq rfl (q_len_row ty74 2 rfl rfl) <|
   sq rfl (q_move rfl) <|
   sq_end) ?_
 clear hF hS; intro a w hF hS
 refine hK4 _ _ ?_
 clear hK4
 refine wp_block ?_
 obtain ⟨hs0, hhs0, hS⟩ : ∃ h, h = _ ∧ St _ _ h _ := ⟨_, rfl, hS⟩
 refine wp_loopx (γ := Nat) (0) (fun (k : Nat) => [(16, vi (k : Int))]) [(0, _), (3, _), (15, _)] (fun (k : Nat) => (hs0.set 0 (.row v1 9 1 S.s.length ((Dk.im S k).map vs)))) (fun (k : Nat) => k ≤ S.s.length) (fun (k : Nat) => S.s.length - k) (hF.sub ⟨rfl, rfl, rfl, rfl, trivial⟩) (by subst hhs0; (try dsimp only); rw [Dk.im_0, List.map_replicate]; exact hS) (by exact Nat.zero_le _) ?_
 clear hF hS; rintro k a w hfact hF hS
 subst hhs0; (try dsimp only at hfact); (try dsimp only at hF); (try dsimp only at hS)
 have hk0 := hfact
 replace hS : St _ (_) (_ :: _ :: _ :: _ :: _ :: _) _ := hS
 have hil := Dk.im_len S hk0
 refine wp_seq_k ?_; intro K5 hK5
 refine reg hF hS (sq rfl (q_lti rfl rfl) <|
   sq_end) ?_
 clear hF hS; intro a w hF hS
 refine hK5 _ _ ?_
 clear hK5
 refine wp_seq_k ?_; intro K6 hK6
 refine wp_ifd hF rfl (fun hc1 => ?_) (fun hc1 => ?_)
 ·refine wp_skip ?_
  refine hK6 _ _ ?_
  clear hK6
  refine wp_seq_k ?_; intro K7 hK7
  refine wp_block ?_
  refine wp_seq_k ?_; intro K8 hK8
  refine reg hF hS (sq rfl (q_move rfl) <|
    sq rfl (q_assign rfl) <|
    sq_end) ?_
  clear hF hS; intro a w hF hS
  refine hK8 _ _ ?_
  clear hK8
  refine regl ?_
  refine wpl_sq hF hS (sq rfl (q_move rfl) <|
    sq rfl (q_move rfl) <|
    sq rfl (q_move rfl) <|
    sq rfl (q_nilCheck rfl) <|
    sq rfl (q_fieldAddr ty77 rfl rfl (s' := 0) kQ) <|
    sq rfl (q_ld_blk1 ty74 1 rfl rfl rfl rfl) <|
    sq rfl (q_move rfl) <|
    sq rfl (q_idx_row ty74 ty86 2 rfl rfl rfl (by omega)) <|
    sq rfl (q_slE ty86 ty5 2 rfl rfl (by omega)) <|
    sq rfl (q_b2s_rowSl ty81 ty9 ty5 2 rfl (Dk.bl_len S).symm (Dk.bl_64 hO) rfl (by omega)) <|
    sq rfl (q_idx_row ty22 ty9 0 rfl rfl rfl (by omega)) <|
    sq_end) ?_
  clear hF hS; intro a w hF hS
  refine wpl_ef hF hS rfl (ef_st_row ty9 0 rfl rfl rfl (by omega) rfl) ?_
  clear hF hS; rintro _ _ _ a w ⟨rfl, rfl, rfl⟩ hF hS
  replace hS : St _ (_) (_ :: _ :: _ :: _ :: _ :: _) _ := hS
  refine wpList_nil ?_
  refine hK7 _ _ ?_
  clear hK7
  refine reg hF hS (sq rfl (q_addi rfl rfl (by omega)) <|
    sq rfl (q_move rfl) <|
    sq_end) ?_
  clear hF hS; intro a w hF hS
  refine ⟨(k + 1), ?_, ?_, hF.sub ⟨rfl, rfl, rfl, rfl, trivial⟩, ?_⟩
  ·(try dsimp only); omega
  ·omega
  ·rw [show ((k : Int)).toNat = k from Int.toNat_natCast k, ← List.map_set, Dk.im_step S (by omega)] at hS
   exact hS
 ·refine wp_exit ?_
  refine hK3 _ _ ?_
  clear hK3
  refine wp_seq_k ?_; intro K9 hK9
  refine reg hF hS (sq rfl (q_move rfl) <|
    sq rfl (q_assign rfl) <|
    sq_end) ?_
  clear hF hS; intro a w hF hS
  refine hK9 _ _ ?_
  clear hK9
  refine wp_ret ?_
  exact fn_retx (rs := [.tmp 2]) rfl hF hS (vs := [_]) ⟨rfl, trivial⟩ [] [_, _, _, _, _] sQ sQ (Dk.drw_of ⟨rfl, _, _, _, _, rfl, ⟨l, e1, c1, m1, e2, c2, m2, hO, hl, hlr, hM1, hM2, hP, hW, rfl, rfl, rfl, rfl⟩⟩ (by simp [Dk.image]) (by rw [Dk.im_end S (by omega)]))
end Go.Proofs.YtibbhobfdbfkkaaGreatDoor
end

section
namespace Go.Proofs.YtibbhobfdbfkkaaGreatDoor
open Go.Fw
theorem ty51 : Tf Tryz.prog 51 (.slice 3) 1 24 (Value.slice none 0 0) := ⟨Tryz.underlying51, by kernel_rfl⟩
theorem fn64 : FnOk Tryz.prog 64 := ⟨_, Tryz.func64, rfl, by kernel_rfl⟩
theorem fn65 : FnOk Tryz.prog 65 := ⟨_, Tryz.func65, rfl, by kernel_rfl⟩

set_option maxRecDepth 4000 in
set_option maxHeartbeats 2000000 in
theorem dflush_ct (h : Dk.Hd) (S : Dk.Dsk) (w0 : World) (zsr : List PH) {r1 r2 r3 r4 : Res} (hD : DD h S r1 r2 r3 r4) : Cx Tryz.prog 82 [.pointer (some ⟨h.b, 0, none⟩)] w0 zsr [r1, r2, r3, r4] (DDR h ((Dk.flush S).1) (vi (Dk.flush S).2)) := by
 refine fn_enterx Tryz.func82 rfl Tryz.ntmps82 (Nat.le_of_ble_eq_true rfl) fun hsr a w hF hS => ?_
 replace hS : St _ (_) (_ :: _ :: _ :: _ :: _) _ := hS
 have hO := Dk.DOk.ok hD
 refine wp_seq_k ?_; intro K1 hK1
 refine reg hF hS (sq rfl (q_assign rfl) <|
   sq_end) ?_
 clear hF hS; intro a w hF hS
 refine hK1 _ _ ?_
 clear hK1
 refine wp_seq_k ?_; intro K2 hK2
 refine wp_seq_k ?_; intro K3 hK3
 refine regl ?_
 refine wpl_sq hF hS (sq rfl (q_move rfl) <|
   sq_end) ?_
 clear hF hS; intro a w hF hS
 refine wpl_ef hF hS rfl (ef_callx fn43 rfl (List.Perm.refl _) (by exact (dcheck_ct _ _ _ _ _  hD))) ?_
 clear hF hS; rintro _ _ _ a w ⟨_, _, rfl, rfl, ⟨rfl, rfl, qa2, qb3, qc4, qd5, rfl, hD6⟩⟩ hF hS
 replace hS : St _ (_) (_ :: _ :: _ :: _ :: _) _ := hS
 refine wpl_sq hF hS (sq rfl (q_assign rfl) <|
   sq_end) ?_
 clear hF hS; intro a w hF hS
 refine wpList_nil ?_
 refine hK3 _ _ ?_
 clear hK3
 refine wp_seq_k ?_; intro K4 hK4
 refine reg hF hS (sq rfl (q_move rfl) <|
   sq rfl (q_nei rfl rfl) <|
   sq_end) ?_
 clear hF hS; intro a w hF hS
 refine hK4 _ _ ?_
 clear hK4
 refine wp_ifn hF rfl (fun hc1 => ?_) (fun hc1 => ?_)
 ·refine wp_seq_k ?_; intro K5 hK5
  refine reg hF hS (sq rfl (q_move rfl) <|
    sq rfl (q_assign rfl) <|
    sq_end) ?_
  clear hF hS; intro a w hF hS
  refine hK5 _ _ ?_
  clear hK5
  refine wp_ret ?_
  exact fn_retx (rs := [.tmp 2]) rfl hF hS (vs := [_]) ⟨rfl, trivial⟩ [] [_, _, _, _] sQ sQ (Dk.dr_of (S := S) ⟨rfl, rfl, _, _, _, _, rfl, hD6⟩ (by rw [Dk.flush_1 (Dk.off_of hO hc1).1]) (by rw [Dk.flush_1 (Dk.off_of hO hc1).1, (Dk.off_of hO hc1).2]))
 ·have hc0 : Dk.check S 0 = 0 := by omega
  have hof := (Dk.check_0 hc0).1
  refine wp_skip ?_
  refine hK2 _ _ ?_
  clear hK2
  refine wp_seq_k ?_; intro K6 hK6
  refine wp_seq_k ?_; intro K7 hK7
  refine regl ?_
  refine wpl_sq hF hS (sq rfl (q_move rfl) <|
    sq_end) ?_
  clear hF hS; intro a w hF hS
  refine wpl_ef hF hS rfl (ef_callx fn44 rfl (List.Perm.refl _) (by exact (dstep_ct _ _ _ _  hD6))) ?_
  clear hF hS; rintro _ _ _ a w ⟨_, _, rfl, rfl, ⟨rfl, rfl, qa8, qb9, qc10, qd11, rfl, hD12⟩⟩ hF hS
  replace hS : St _ (_) (_ :: _ :: _ :: _ :: _) _ := hS
  refine wpl_sq hF hS (sq rfl (q_assign rfl) <|
    sq_end) ?_
  clear hF hS; intro a w hF hS
  refine wpList_nil ?_
  refine hK7 _ _ ?_
  clear hK7
  refine wp_seq_k ?_; intro K8 hK8
  refine reg hF hS (sq rfl (q_move rfl) <|
    sq rfl (q_nei rfl rfl) <|
    sq_end) ?_
  clear hF hS; intro a w hF hS
  refine hK8 _ _ ?_
  clear hK8
  refine wp_ifn hF rfl (fun hc2 => ?_) (fun hc2 => ?_)
  ·refine wp_seq_k ?_; intro K9 hK9
   refine reg hF hS (sq rfl (q_move rfl) <|
     sq rfl (q_assign rfl) <|
     sq_end) ?_
   clear hF hS; intro a w hF hS
   refine hK9 _ _ ?_
   clear hK9
   refine wp_ret ?_
   exact fn_retx (rs := [.tmp 2]) rfl hF hS (vs := [_]) ⟨rfl, trivial⟩ [] [_, _, _, _] sQ sQ (Dk.dr_of (S := (Dk.step S).1) ⟨rfl, rfl, _, _, _, _, rfl, hD12⟩ (by rw [Dk.flush_2 hof hc2]) (by rw [Dk.flush_2 hof hc2]))
  ·have hs0 : (Dk.step S).2 = 0 := by omega
   have hO1 := Dk.ok_step hO
   refine wp_skip ?_
   refine hK6 _ _ ?_
   clear hK6
   refine wp_seq_k ?_; intro K10 hK10
   refine wp_seq_k ?_; intro K11 hK11
   refine regl ?_
   refine wpl_sq hF hS (sq rfl (q_move rfl) <|
     sq_end) ?_
   clear hF hS; intro a w hF hS
   refine wpl_ef hF hS rfl (ef_callx fn64 rfl (List.Perm.refl _) (by exact (dpending_ct _ _ _ _  hD12))) ?_
   clear hF hS; rintro v13 _ _ a w ⟨_, _, rfl, rfl, ⟨rfl, qa14, qb15, qc16, qd17, rfl, hD18⟩⟩ hF hS
   replace hS : St _ (_) (_ :: _ :: _ :: _ :: _ :: _) _ := hS
   refine wpl_sq hF hS (sq rfl (q_len_row ty51 0 rfl rfl) <|
     sq rfl (q_move rfl) <|
     sq_end) ?_
   clear hF hS; intro a w hF hS
   refine wpList_nil ?_
   refine hK11 _ _ ?_
   clear hK11
   refine wp_block ?_
   obtain ⟨hs0, hhs0, hS⟩ : ∃ h, h = _ ∧ St _ _ h _ := ⟨_, rfl, hS⟩
   refine wp_loopx (γ := Res × Res × Res × Res × Nat) (qa14, qb15, qc16, qd17, 0) (fun (gg : Res × Res × Res × Res × Nat) => match gg with | (q1, q2, q3, q4, j) => [(20, vi (j : Int))]) [(0, _), (18, _), (19, _)] (fun (gg : Res × Res × Res × Res × Nat) => match gg with | (q1, q2, q3, q4, j) => ((((hs0.set 1 (q1)).set 2 (q2)).set 3 (q3)).set 4 (q4))) (fun (gg : Res × Res × Res × Res × Nat) => match gg with | (q1, q2, q3, q4, j) => j ≤ (Dk.dix (Dk.step S).1).length ∧ DD h (Dk.mst (Dk.step S).1 [] j) q1 q2 q3 q4) (fun (gg : Res × Res × Res × Res × Nat) => match gg with | (q1, q2, q3, q4, j) => (Dk.dix (Dk.step S).1).length - j) (hF.sub ⟨rfl, rfl, rfl, rfl, trivial⟩) (by subst hhs0; exact hS) (by exact ⟨Nat.zero_le _, by rw [Dk.mst_0]; exact hD18⟩) ?_
   clear hF hS; rintro ⟨q1, q2, q3, q4, j⟩ a w hfact hF hS
   subst hhs0; (try dsimp only at hfact); (try dsimp only at hF); (try dsimp only at hS)
   obtain ⟨hj0, hDq⟩ := hfact
   replace hS : St _ (_) (_ :: _ :: _ :: _ :: _ :: _) _ := hS
   refine wp_seq_k ?_; intro K12 hK12
   refine reg hF hS (sq rfl (q_lti rfl rfl) <|
     sq_end) ?_
   clear hF hS; intro a w hF hS
   refine hK12 _ _ ?_
   clear hK12
   refine wp_seq_k ?_; intro K13 hK13
   refine wp_ifd hF rfl (fun hc3 => ?_) (fun hc3 => ?_)
   ·obtain ⟨hsx, hsy, hsz⟩ := Dk.mst_step (Dk.step S).1 [] (j := j) (by omega)
    have hdl := Dk.dix_len (Dk.step S).1
    have hdh := hO1.hi
    have hdr := Dk.dix_rng hO1 (Dk.getD_mem (l := Dk.dix (Dk.step S).1) (j := j) (d := 0) (by omega))
    refine wp_skip ?_
    refine hK13 _ _ ?_
    clear hK13
    refine wp_seq_k ?_; intro K14 hK14
    refine wp_block ?_
    refine wp_seq_k ?_; intro K15 hK15
    refine reg hF hS (sq rfl (q_idx_row ty51 ty3 0 rfl rfl rfl (by omega)) <|
      sq rfl (q_ld_rowM ty3 0 (0 : Int) rfl rfl bQ rfl) <|
      sq rfl (q_assign rfl) <|
      sq_end) ?_
    clear hF hS; intro a w hF hS
    rw [Int.toNat_natCast] at hF
    refine hK15 _ _ ?_
    clear hK15
    refine regl ?_
    refine wpl_sq hF hS (sq rfl (q_move rfl) <|
      sq rfl (q_move rfl) <|
      sq_end) ?_
    clear hF hS; intro a w hF hS
    replace hS := hS.perm (.swap _ _ _)
    replace hS := hS.perm (.cons _ (.swap _ _ _))
    replace hS := hS.perm (.cons _ (.cons _ (.swap _ _ _)))
    replace hS := hS.perm (.cons _ (.cons _ (.cons _ (.swap _ _ _))))
    replace hS : St _ (_) (_ :: _ :: _ :: _ :: _ :: _) _ := hS
    refine wpl_ef hF hS rfl (ef_callx fn65 rfl (List.Perm.refl _) (by exact (dsettle_ct _ _ _ _ (by first | assumption | omega) (by assumption) (by omega) _ _  hDq))) ?_
    clear hF hS; rintro _ _ _ a w ⟨_, _, rfl, rfl, ⟨rfl, rfl, qa21, qb22, qc23, qd24, rfl, hD25⟩⟩ hF hS
    replace hS : St _ (_) (_ :: _ :: _ :: _ :: _ :: _) _ := hS
    refine wpList_nil ?_
    refine hK14 _ _ ?_
    clear hK14
    refine reg hF hS (sq rfl (q_addi rfl rfl (by omega)) <|
      sq rfl (q_move rfl) <|
      sq_end) ?_
    clear hF hS; intro a w hF hS
    replace hS := hS.perm (.cons _ (.cons _ (.cons _ (.swap _ _ _))))
    replace hS := hS.perm (.cons _ (.cons _ (.swap _ _ _)))
    replace hS := hS.perm (.cons _ (.swap _ _ _))
    replace hS := hS.perm (.swap _ _ _)
    replace hS := hS.keep sQ sQ
    refine ⟨(qa21, qb22, qc23, qd24, j + 1), ?_, ?_, hF.sub ⟨rfl, rfl, rfl, rfl, trivial⟩, ?_⟩
    ·(try dsimp only); omega
    ·exact ⟨by omega, hsz ▸ hD25⟩
    ·exact hS
   ·refine wp_exit ?_
    refine hK10 _ _ ?_
    clear hK10
    refine wp_seq_k ?_; intro K16 hK16
    refine reg hF hS (sq rfl (q_assign rfl) <|
      sq_end) ?_
    clear hF hS; intro a w hF hS
    refine hK16 _ _ ?_
    clear hK16
    refine wp_ret ?_
    replace hS := hS.perm (.swap _ _ _)
    replace hS := hS.perm (.cons _ (.swap _ _ _))
    replace hS := hS.perm (.cons _ (.cons _ (.swap _ _ _)))
    replace hS := hS.perm (.cons _ (.cons _ (.cons _ (.swap _ _ _))))
    exact fn_retx (rs := [.tmp 2]) rfl hF hS (vs := [_]) ⟨rfl, trivial⟩ [] [_, _, _, _] sQ (sQ.n.k.k.k.k) (Dk.dr_of (S := Dk.mst (Dk.step S).1 [] j) ⟨rfl, rfl, _, _, _, _, rfl, hDq⟩ (by rw [Dk.flush_3 hof hs0, show j = (Dk.dix (Dk.step S).1).length by omega]) (by rw [Dk.flush_3 hof hs0]))

set_option maxRecDepth 4000 in
set_option maxHeartbeats 2000000 in
theorem dmount_ct (h : Dk.Hd) (S : Dk.Dsk) (pv : Value) (ps : List Int) (w0 : World) (zsr : List PH) (z : PH) (hps : Sl Go.Fw.encI z pv ps) (hz : ZIn w0 zsr z) {r1 r2 r3 r4 : Res} (hD : DD h S r1 r2 r3 r4) : Cx Tryz.prog 28 [.pointer (some ⟨h.b, 0, none⟩), pv] w0 zsr [r1, r2, r3, r4] (DDR h (Dk.mount S ps) (.tuple ([] : List Value).toArray)) := by
 refine fn_enterx Tryz.func28 rfl Tryz.ntmps28 (Nat.le_of_ble_eq_true rfl) fun hsr a w hF hS => ?_
 replace hS : St _ (_) (_ :: _ :: _ :: _ :: _) _ := hS
 have hO := Dk.DOk.ok hD
 have hpr := sl_rng hps
 have hpl := hps.1
 refine wp_seq_k ?_; intro K1 hK1
 refine wp_seq_k ?_; intro K2 hK2
 refine regl ?_
 refine wpl_sq hF hS (sq rfl (q_move rfl) <|
   sq_end) ?_
 clear hF hS; intro a w hF hS
 refine wpl_ef hF hS rfl (ef_callx fn64 rfl (List.Perm.refl _) (by exact (dpending_ct _ _ _ _  hD))) ?_
 clear hF hS; rintro v1 _ _ a w ⟨_, _, rfl, rfl, ⟨rfl, qa2, qb3, qc4, qd5, rfl, hD6⟩⟩ hF hS
 replace hS : St _ (_) (_ :: _ :: _ :: _ :: _ :: _) _ := hS
 refine wpl_sq hF hS (sq rfl (q_len_row ty51 0 rfl rfl) <|
   sq rfl (q_move rfl) <|
   sq_end) ?_
 clear hF hS; intro a w hF hS
 refine wpList_nil ?_
 refine hK2 _ _ ?_
 clear hK2
 refine wp_block ?_
 obtain ⟨hs0, hhs0, hS⟩ : ∃ h, h = _ ∧ St _ _ h _ := ⟨_, rfl, hS⟩
 refine wp_loopx (γ := Res × Res × Res × Res × Nat) (qa2, qb3, qc4, qd5, 0) (fun (gg : Res × Res × Res × Res × Nat) => match gg with | (q1, q2, q3, q4, j) => [(10, vi (j : Int))]) [(0, _), (1, _), (8, _), (9, _)] (fun (gg : Res × Res × Res × Res × Nat) => match gg with | (q1, q2, q3, q4, j) => ((((hs0.set 1 (q1)).set 2 (q2)).set 3 (q3)).set 4 (q4))) (fun (gg : Res × Res × Res × Res × Nat) => match gg with | (q1, q2, q3, q4, j) => j ≤ (Dk.dix S).length ∧ DD h (Dk.mst S ps j) q1 q2 q3 q4) (fun (gg : Res × Res × Res × Res × Nat) => match gg with | (q1, q2, q3, q4, j) => (Dk.dix S).length - j) (hF.sub ⟨rfl, rfl, rfl, rfl, rfl, trivial⟩) (by subst hhs0; exact hS) (by exact ⟨Nat.zero_le _, by rw [Dk.mst_0]; exact hD6⟩) ?_
 clear hF hS; rintro ⟨q1, q2, q3, q4, j⟩ a w hfact hF hS
 subst hhs0; (try dsimp only at hfact); (try dsimp only at hF); (try dsimp only at hS)
 obtain ⟨hj0, hDq⟩ := hfact
 replace hS : St _ (_) (_ :: _ :: _ :: _ :: _ :: _) _ := hS
 refine wp_seq_k ?_; intro K3 hK3
 refine reg hF hS (sq rfl (q_lti rfl rfl) <|
   sq_end) ?_
 clear hF hS; intro a w hF hS
 refine hK3 _ _ ?_
 clear hK3
 refine wp_seq_k ?_; intro K4 hK4
 refine wp_ifd hF rfl (fun hc1 => ?_) (fun hc1 => ?_)
 ·obtain ⟨hsx, hsy, hsz⟩ := Dk.mst_step S ps (j := j) (by omega)
  have hdl := Dk.dix_len S
  have hdh := hO.hi
  have hdr := Dk.dix_rng hO (Dk.getD_mem (l := Dk.dix S) (j := j) (d := 0) (by omega))
  have hpk9 := Dk.pk_rng hpr j
  refine wp_skip ?_
  refine hK4 _ _ ?_
  clear hK4
  refine wp_seq_k ?_; intro K5 hK5
  refine wp_block ?_
  refine wp_seq_k ?_; intro K6 hK6
  refine reg hF hS (sq rfl (q_move rfl) <|
    sq rfl (q_idx_row ty51 ty3 0 rfl rfl rfl (by omega)) <|
    sq rfl (q_ld_rowM ty3 0 (0 : Int) rfl rfl bQ rfl) <|
    sq rfl (q_assign rfl) <|
    sq rfl (q_assign rfl) <|
    sq_end) ?_
  clear hF hS; intro a w hF hS
  rw [Int.toNat_natCast] at hF
  refine hK6 _ _ ?_
  clear hK6
  refine wp_seq_k ?_; intro K7 hK7
  refine reg hF hS (sq rfl (q_assign rfl) <|
    sq_end) ?_
  clear hF hS; intro a w hF hS
  refine hK7 _ _ ?_
  clear hK7
  obtain ⟨hs0, hhs0, hS⟩ : ∃ h, h = _ ∧ St _ _ h _ := ⟨_, rfl, hS⟩
  refine wp_cutx (γ := Int) (fun (p : Int) => [(6, vi p)]) [(0, _), (1, _), (5, _), (8, _), (9, _), (10, _)] (fun (p : Int) => hs0) (fun (p : Int) => p = Dk.pk ps j) (hF.sub ⟨rfl, rfl, rfl, rfl, rfl, rfl, trivial⟩) hS ?_ ?_
  ·subst hhs0
   refine wp_seq_k ?_; intro K8 hK8
   refine reg hF hS (sq rfl (q_move rfl) <|
     sq rfl (q_move rfl) <|
     sq rfl (q_len_sl ty51 hps rfl) <|
     sq rfl (q_lti rfl rfl) <|
     sq_end) ?_
   clear hF hS; intro a w hF hS
   refine hK8 _ _ ?_
   clear hK8
   refine wp_ifd hF rfl (fun hc2 => ?_) (fun hc2 => ?_)
   ·refine reg hF hS (sq rfl (q_move rfl) <|
      sq rfl (q_move rfl) <|
      sq rfl (q_idx_sl ty51 ty3 hps rfl rfl (by omega)) <|
      sq rfl (q_ld_I ty3 hps hz rfl rfl (by omega)) <|
      sq rfl (q_assign rfl) <|
      sq_end) ?_
    clear hF hS; intro a w hF hS
    refine ⟨((ps.getD ((j : Int)).toNat 0)), ?_, hF.sub ⟨rfl, rfl, rfl, rfl, rfl, rfl, rfl, trivial⟩, ?_⟩
    ·rw [Int.toNat_natCast]; exact (Dk.pk_1 (by omega)).symm
    ·exact hS
   ·refine wp_skip ?_
    refine ⟨(64), ?_, hF.sub ⟨rfl, rfl, rfl, rfl, rfl, rfl, rfl, trivial⟩, ?_⟩
    ·exact (Dk.pk_2 (by omega)).symm
    ·exact hS
  clear hF hS; rintro p a w hfact hF hS
  subst hhs0; (try dsimp only at hfact); (try dsimp only at hF); (try dsimp only at hS)
  have hpk := hfact
  replace hS : St _ (_) (_ :: _ :: _ :: _ :: _ :: _) _ := hS
  subst hpk
  refine regl ?_
  refine wpl_sq hF hS (sq rfl (q_move rfl) <|
    sq rfl (q_move rfl) <|
    sq rfl (q_move rfl) <|
    sq_end) ?_
  clear hF hS; intro a w hF hS
  replace hS := hS.perm (.swap _ _ _)
  replace hS := hS.perm (.cons _ (.swap _ _ _))
  replace hS := hS.perm (.cons _ (.cons _ (.swap _ _ _)))
  replace hS := hS.perm (.cons _ (.cons _ (.cons _ (.swap _ _ _))))
  replace hS : St _ (_) (_ :: _ :: _ :: _ :: _ :: _) _ := hS
  refine wpl_ef hF hS rfl (ef_callx fn65 rfl (List.Perm.refl _) (by exact (dsettle_ct _ _ _ _ (by first | assumption | omega) (by assumption) (by omega) _ _  hDq))) ?_
  clear hF hS; rintro _ _ _ a w ⟨_, _, rfl, rfl, ⟨rfl, rfl, qa9, qb10, qc11, qd12, rfl, hD13⟩⟩ hF hS
  replace hS : St _ (_) (_ :: _ :: _ :: _ :: _ :: _) _ := hS
  refine wpList_nil ?_
  refine hK5 _ _ ?_
  clear hK5
  refine reg hF hS (sq rfl (q_addi rfl rfl (by omega)) <|
    sq rfl (q_move rfl) <|
    sq_end) ?_
  clear hF hS; intro a w hF hS
  replace hS := hS.perm (.cons _ (.cons _ (.cons _ (.swap _ _ _))))
  replace hS := hS.perm (.cons _ (.cons _ (.swap _ _ _)))
  replace hS := hS.perm (.cons _ (.swap _ _ _))
  replace hS := hS.perm (.swap _ _ _)
  replace hS := hS.keep sQ sQ
  refine ⟨(qa9, qb10, qc11, qd12, j + 1), ?_, ?_, hF.sub ⟨rfl, rfl, rfl, rfl, rfl, trivial⟩, ?_⟩
  ·(try dsimp only); omega
  ·exact ⟨by omega, hsz ▸ hD13⟩
  ·exact hS
 ·obtain ⟨lz, e1z, c1z, m1z, e2z, c2z, m2z, hOz, hlz, hlrz, hM1z, hM2z, hPz, hWz, rfl, rfl, rfl, rfl⟩ := hDq
  have hloz := hOz.lo
  have hhiz := hOz.hi
  have hlfz := hOz.lf
  have hlgz := hOz.lf2
  have hblz := Dk.bl_len (Dk.mst S ps j)
  have hbsz := Dk.bl_64 hOz
  replace hS : St _ (_) (_ :: _ :: _ :: _ :: _ :: _) _ := hS
  have hje : (Dk.dix S).length ≤ j := by omega
  refine wp_exit ?_
  refine hK1 _ _ ?_
  clear hK1
  refine regl ?_
  refine wpl_sq hF hS (sq rfl (q_move rfl) <|
    sq rfl (q_move rfl) <|
    sq rfl (q_nilCheck rfl) <|
    sq rfl (q_fieldAddr ty77 rfl rfl (s' := 0) kQ) <|
    sq_end) ?_
  clear hF hS; intro a w hF hS
  refine wpl_ef hF hS rfl (ef_store1 ty4 1 rfl rfl rfl rfl (by simp)) ?_
  clear hF hS; rintro _ _ _ a w ⟨rfl, rfl, rfl⟩ hF hS
  replace hS : St _ (_) (_ :: .blk _ _ ([_, _, _, _, _].set 3 _) :: _ :: _ :: _ :: _) _ := hS
  simp only [List.set_cons_zero, List.set_cons_succ] at hS
  replace hS : St _ (_) (_ :: _ :: _ :: _ :: _ :: _) _ := hS
  refine wpl_sq hF hS (sq rfl (q_nilCheck rfl) <|
    sq rfl (q_fieldAddr ty77 rfl rfl (s' := 0) kQ) <|
    sq_end) ?_
  clear hF hS; intro a w hF hS
  refine wpl_ef hF hS rfl (ef_store1 ty3 1 rfl rfl rfl rfl (by simp)) ?_
  clear hF hS; rintro _ _ _ a w ⟨rfl, rfl, rfl⟩ hF hS
  replace hS : St _ (_) (_ :: .blk _ _ ([_, _, _, _, _].set 4 _) :: _ :: _ :: _ :: _) _ := hS
  simp only [List.set_cons_zero, List.set_cons_succ] at hS
  replace hS : St _ (_) (_ :: _ :: _ :: _ :: _ :: _) _ := hS
  refine wpList_nil ?_
  -- falls off the end
  replace hS := hS.perm (.swap _ _ _)
  replace hS := hS.perm (.cons _ (.swap _ _ _))
  replace hS := hS.perm (.cons _ (.cons _ (.swap _ _ _)))
  replace hS := hS.perm (.cons _ (.cons _ (.cons _ (.swap _ _ _))))
  exact fn_retx (rs := []) rfl hF hS (vs := []) trivial [] [_, _, _, _] sQ (sQ.n.k.k.k.k) (Dk.dr_of (S := ⟨(Dk.mst S ps j).s, false, -1⟩) ⟨rfl, rfl, _, _, _, _, rfl, ⟨(-1), e1z, c1z, m1z, e2z, c2z, m2z, ⟨hOz.sec, hOz.lo, hOz.hi, by dsimp only; decide, by dsimp only; decide⟩, rfl, (by decide), hM1z, hM2z, hPz, hWz, rfl, rfl, rfl, rfl⟩⟩ (Dk.mount_eq S ps hje) (rfl))

set_option maxRecDepth 4000 in
set_option maxHeartbeats 2000000 in
theorem dnew_ct (n : Nat) (hn : 1 ≤ n ∧ n ≤ 4096) (w : World) : Ct Tryz.prog 8 [vi (n : Int)] w (DDN (Dk.new n) (fun p => .tuple [p, vi 0].toArray)) := by
 refine fn_enter Tryz.func8 rfl Tryz.ntmps8 (Nat.le_of_ble_eq_true rfl) fun a hF hS => ?_
 refine wp_seq_k ?_; intro K1 hK1
 refine reg hF hS (sq rfl (q_assign rfl) <|
   sq rfl (q_assign rfl) <|
   sq_end) ?_
 clear hF hS; intro a w hF hS
 refine hK1 _ _ ?_
 clear hK1
 refine wp_seq_k ?_; intro K2 hK2
 refine wp_seq_k ?_; intro K3 hK3
 refine regl ?_
 refine wpl_sq hF hS (sq rfl (q_move rfl) <|
   sq rfl (q_lti rfl rfl) <|
   sq rfl (q_move rfl) <|
   sq_end) ?_
 clear hF hS; intro a w hF hS
 refine wpl_or 2 6 2 hF hS rfl rfl rfl rfl rfl (fun hg => have hg := (by first | exact of_decide_eq_false hg | exact hg); sq_go 6 rfl rfl rfl (q_move rfl) <|
   sq_go 6 rfl rfl rfl (q_gti rfl rfl) <|
   sq_end) rfl rfl ?_
 clear hF hS; intro a w hF hS
 refine wpList_nil ?_
 refine hK3 _ _ ?_
 clear hK3
 refine wp_if hF rfl (fun hc1 => ?_) (fun hc1 => ?_)
 ·(try simp only [Bool.or_eq_true, Bool.and_eq_true, Bool.or_eq_false_iff, Bool.and_eq_false_iff, decide_eq_true_eq, decide_eq_false_iff_not, Bool.not_eq_true', Bool.not_eq_false'] at hc1)
  exfalso; omega
 ·(try simp only [Bool.or_eq_true, Bool.and_eq_true, Bool.or_eq_false_iff, Bool.and_eq_false_iff, decide_eq_true_eq, decide_eq_false_iff_not, Bool.not_eq_true', Bool.not_eq_false'] at hc1)
  refine wp_skip ?_
  refine hK2 _ _ ?_
  clear hK2
  refine wp_seq_k ?_; intro K4 hK4
  refine regl ?_
  refine wpl_sq hF hS (sq rfl (q_move rfl) <|
    sq_end) ?_
  clear hF hS; intro a w hF hS
  refine wpl_ef hF hS rfl (ef_mksS ty74 ty86 rfl rfl (by omega) (by omega) rfl (by decide) (by omega)) ?_
  clear hF hS; rintro v1 _ _ a w ⟨rfl, rfl⟩ hF hS
  replace hS : St _ [] [_] _ := hS
  refine wpl_ef hF hS rfl (ef_mkmap) ?_
  clear hF hS; rintro _ _ _ a w ⟨b3, rfl, rfl, rfl⟩ hF hS
  replace hS : St _ [] [_, _] _ := hS
  refine wpl_ef hF hS rfl (ef_mkmap) ?_
  clear hF hS; rintro _ _ _ a w ⟨b5, rfl, rfl, rfl⟩ hF hS
  replace hS : St _ [] [_, _, _] _ := hS
  refine wpl_sq hF hS (sq rfl (q_buildP (places := [(0, 1), (1, 1), (2, 1), (3, 1), (4, 1)]) (cells := [_, _, _, .bool false, _]) ty77 kQ rfl (fill_stepL (c := [_]) (l := [_, _, _, _, _]) (l' := [_, _, _, _, _]) rfl (cells_one (row_one (hS.own _ (List.mem_of_getElem? (i := 2) rfl)).1)) rfl (Nat.le_of_ble_eq_true rfl) rfl (fill_stepL (c := [_]) (l := [_, _, _, _, _]) (l' := [_, _, _, _, _]) rfl (cells_one rfl) rfl (Nat.le_of_ble_eq_true rfl) rfl (fill_stepL (c := [_]) (l := [_, _, _, _, _]) (l' := [_, _, _, _, _]) rfl (cells_one rfl) rfl (Nat.le_of_ble_eq_true rfl) rfl (fill_stepL (c := [_]) (l := [_, _, _, _, _]) (l' := [_, _, _, _, _]) rfl (cells_one rfl) rfl (Nat.le_of_ble_eq_true rfl) rfl (fill_endL rfl)))))) <|
    sq_end) ?_
  clear hF hS; intro a w hF hS
  refine wpl_ef hF hS rfl (ef_boxA rfl) ?_
  clear hF hS; rintro _ _ _ a w ⟨b7, rfl, rfl, rfl⟩ hF hS
  refine wpl_sq hF hS (sq rfl (q_assign rfl) <|
    sq rfl (q_assign rfl) <|
    sq_end) ?_
  clear hF hS; intro a w hF hS
  refine wpList_nil ?_
  rw [Dk.new_cells] at hS
  refine hK4 _ _ ?_
  clear hK4
  refine wp_ret ?_
  replace hS := hS.perm (.cons _ (.cons _ (.swap _ _ _)))
  replace hS := hS.perm (.cons _ (.swap _ _ _))
  replace hS := hS.perm (.cons _ (.cons _ (.swap _ _ _)))
  exact fn_ret (rs := [.tmp 2, .tmp 3]) rfl hF hS (vs := [_, _]) ⟨rfl, rfl, trivial⟩ sQ sQ ⟨rfl, ⟨b7, v1, b3, b5⟩, _, _, _, _, rfl, rfl, ⟨-1, [], 0, [], [], 0, [], Dk.ok_new hn.1 hn.2, rfl, by decide, MpT.nil, MpT.nil, Dk.MOk.nil (Dk.new_pend n), Dk.MOk.nil (Dk.new_wrn n), rfl, by rw [Dk.new_len], rfl, rfl⟩⟩

set_option maxRecDepth 4000 in
set_option maxHeartbeats 2000000 in
theorem dnewx_ct (n : Int) (hn : ¬ (1 ≤ n ∧ n ≤ 4096)) (w : World) : Ct Tryz.prog 8 [vi n] w (fun r zs hs => r = .tuple [.pointer none, vi 1].toArray) := by
 refine fn_enter Tryz.func8 rfl Tryz.ntmps8 (Nat.le_of_ble_eq_true rfl) fun a hF hS => ?_
 refine wp_seq_k ?_; intro K1 hK1
 refine reg hF hS (sq rfl (q_assign rfl) <|
   sq rfl (q_assign rfl) <|
   sq_end) ?_
 clear hF hS; intro a w hF hS
 refine hK1 _ _ ?_
 clear hK1
 refine wp_seq_k ?_; intro K2 hK2
 refine wp_seq_k ?_; intro K3 hK3
 refine regl ?_
 refine wpl_sq hF hS (sq rfl (q_move rfl) <|
   sq rfl (q_lti rfl rfl) <|
   sq rfl (q_move rfl) <|
   sq_end) ?_
 clear hF hS; intro a w hF hS
 refine wpl_or 2 6 2 hF hS rfl rfl rfl rfl rfl (fun hg => have hg := (by first | exact of_decide_eq_false hg | exact hg); sq_go 6 rfl rfl rfl (q_move rfl) <|
   sq_go 6 rfl rfl rfl (q_gti rfl rfl) <|
   sq_end) rfl rfl ?_
 clear hF hS; intro a w hF hS
 refine wpList_nil ?_
 refine hK3 _ _ ?_
 clear hK3
 refine wp_if hF rfl (fun hc1 => ?_) (fun hc1 => ?_)
 ·(try simp only [Bool.or_eq_true, Bool.and_eq_true, Bool.or_eq_false_iff, Bool.and_eq_false_iff, decide_eq_true_eq, decide_eq_false_iff_not, Bool.not_eq_true', Bool.not_eq_false'] at hc1)
  refine wp_seq_k ?_; intro K4 hK4
  refine reg hF hS (sq rfl (q_assign rfl) <|
    sq rfl (q_assign rfl) <|
    sq_end) ?_
  clear hF hS; intro a w hF hS
  refine hK4 _ _ ?_
  clear hK4
  refine wp_ret ?_
  exact fn_ret (rs := [.tmp 2, .tmp 3]) rfl hF hS (vs := [_, _]) ⟨rfl, rfl, trivial⟩ zQ zQ (rfl)
 ·(try simp only [Bool.or_eq_true, Bool.and_eq_true, Bool.or_eq_false_iff, Bool.and_eq_false_iff, decide_eq_true_eq, decide_eq_false_iff_not, Bool.not_eq_true', Bool.not_eq_false'] at hc1)
  exfalso; omega
end Go.Proofs.YtibbhobfdbfkkaaGreatDoor
end

section
namespace Go.Proofs.YtibbhobfdbfkkaaGreatDoor
open Go.Fw
theorem ty78 : Tf Tryz.prog 78 (.slice 83) 1 24 (Value.slice none 0 0) := ⟨Tryz.underlying78, by kernel_rfl⟩
theorem ty80 : Tf Tryz.prog 80 (.struct #[⟨ "S", 78, 0, false, "", "", 0⟩, ⟨ "Off", 4, 1, false, "", "", 24⟩, ⟨ "Left", 3, 2, false, "", "", 32⟩]) 3 40 (.agg ([Value.slice none 0 0] ++ [Value.bool false] ++ [Value.int .i64 0]).toArray) := ⟨Tryz.underlying80, by kernel_rfl⟩
theorem ty83 : Tf Tryz.prog 83 (.struct #[⟨ "Text", 9, 0, false, "", "", 0⟩, ⟨ "Next", 9, 1, false, "", "", 16⟩, ⟨ "Dirty", 4, 2, false, "", "", 32⟩, ⟨ "Worn", 4, 3, false, "", "", 33⟩]) 4 40 (.agg ([Value.string ⟨(List.nil : List UInt8).toArray⟩, Value.string ⟨(List.nil : List UInt8).toArray⟩] ++ [Value.bool false, Value.bool false]).toArray) := ⟨Tryz.underlying83, by kernel_rfl⟩
theorem fn45 : FnOk Tryz.prog 45 := ⟨_, Tryz.func45, rfl, by kernel_rfl⟩

abbrev RRB := Dk.RB 80
abbrev RRW := Dk.RW 83
abbrev RRD := Dk.RDR 80 83
abbrev RRDi := Dk.RDRw 80 83 3
abbrev RRDs := Dk.RDRw 80 83 9

set_option maxRecDepth 4000 in
set_option maxHeartbeats 2000000 in
theorem rlen_ct {b : Nat} {v : Value} {S : Dk.Dsk} (w0 : World) (zsr : List PH) (hO : Dk.Ok S) : Cx Tryz.prog 52 [.pointer (some ⟨b, 0, none⟩)] w0 zsr [RRB b v S, RRW v S] (RRD b v (S) (vi (S.s.length : Int))) := by
 refine fn_enterx Tryz.func52 rfl Tryz.ntmps52 (Nat.le_of_ble_eq_true rfl) fun hsr a w hF hS => ?_
 replace hS : St _ (_) (_ :: _ :: _) _ := hS
 have hlo := hO.lo
 have hhi := hO.hi
 have hlf := hO.lf
 have hlg := hO.lf2
 refine wp_seq_k ?_; intro K1 hK1
 refine reg hF hS (sq rfl (q_assign rfl) <|
   sq_end) ?_
 clear hF hS; intro a w hF hS
 refine hK1 _ _ ?_
 clear hK1
 refine wp_seq_k ?_; intro K2 hK2
 refine reg hF hS (sq rfl (q_move rfl) <|
   sq rfl (q_nilCheck rfl) <|
   sq rfl (q_fieldAddr ty80 rfl rfl (s' := 0) kQ) <|
   sq rfl (q_ld_blk1 ty78 0 rfl rfl rfl rfl) <|
   sq rfl (q_len_row ty78 1 rfl rfl) <|
   sq rfl (q_assign rfl) <|
   sq_end) ?_
 clear hF hS; intro a w hF hS
 refine hK2 _ _ ?_
 clear hK2
 refine wp_ret ?_
 exact fn_retx (rs := [.tmp 2]) rfl hF hS (vs := [_]) ⟨rfl, trivial⟩ [] [_, _] sQ sQ (Dk.rdr_of (S := S) ⟨rfl, rfl, rfl⟩ (rfl) (rfl))

set_option maxRecDepth 4000 in
set_option maxHeartbeats 2000000 in
theorem rtrip_ct {b : Nat} {v : Value} {S : Dk.Dsk} (n : Int) (w0 : World) (zsr : List PH) (hO : Dk.Ok S) : Cx Tryz.prog 31 [.pointer (some ⟨b, 0, none⟩), vi n] w0 zsr [RRB b v S, RRW v S] (RRD b v (Dk.trip S n) (.tuple ([] : List Value).toArray)) := by
 refine fn_enterx Tryz.func31 rfl Tryz.ntmps31 (Nat.le_of_ble_eq_true rfl) fun hsr a w hF hS => ?_
 replace hS : St _ (_) (_ :: _ :: _) _ := hS
 have hlo := hO.lo
 have hhi := hO.hi
 have hlf := hO.lf
 have hlg := hO.lf2
 refine regl ?_
 refine wpl_sq hF hS (sq rfl (q_move rfl) <|
   sq rfl (q_move rfl) <|
   sq rfl (q_max rfl rfl) <|
   sq rfl (q_nilCheck rfl) <|
   sq rfl (q_fieldAddr ty80 rfl rfl (s' := 0) kQ) <|
   sq_end) ?_
 clear hF hS; intro a w hF hS
 refine wpl_ef hF hS rfl (ef_store1 ty3 0 rfl rfl rfl rfl (by simp)) ?_
 clear hF hS; rintro _ _ _ a w ⟨rfl, rfl, rfl⟩ hF hS
 replace hS : St _ (_) (.blk _ _ ([_, _, _].set 2 _) :: _ :: _) _ := hS
 simp only [List.set_cons_zero, List.set_cons_succ] at hS
 replace hS : St _ (_) (_ :: _ :: _) _ := hS
 refine wpList_nil ?_
 -- falls off the end
 exact fn_retx (rs := []) rfl hF hS (vs := []) trivial [] [_, _] sQ sQ (Dk.rdr_of (S := Dk.trip S n) ⟨rfl, rfl, rfl⟩ (rfl) (rfl))

set_option maxRecDepth 4000 in
set_option maxHeartbeats 2000000 in
theorem ris_ct {b : Nat} {v : Value} {S : Dk.Dsk} (i : Int) (w0 : World) (zsr : List PH) (hO : Dk.Ok S) : Cx Tryz.prog 45 [.pointer (some ⟨b, 0, none⟩), vi i] w0 zsr [RRB b v S, RRW v S] (RRD b v (S) (.bool (decide (0 ≤ i ∧ i < S.s.length)))) := by
 refine fn_enterx Tryz.func45 rfl Tryz.ntmps45 (Nat.le_of_ble_eq_true rfl) fun hsr a w hF hS => ?_
 replace hS : St _ (_) (_ :: _ :: _) _ := hS
 have hlo := hO.lo
 have hhi := hO.hi
 have hlf := hO.lf
 have hlg := hO.lf2
 refine wp_seq_k ?_; intro K1 hK1
 refine reg hF hS (sq rfl (q_assign rfl) <|
   sq_end) ?_
 clear hF hS; intro a w hF hS
 refine hK1 _ _ ?_
 clear hK1
 refine wp_seq_k ?_; intro K2 hK2
 refine regl ?_
 refine wpl_sq hF hS (sq rfl (q_move rfl) <|
   sq rfl (q_gei rfl rfl) <|
   sq rfl (q_move rfl) <|
   sq_end) ?_
 clear hF hS; intro a w hF hS
 refine wpl_and 2 7 7 hF hS rfl rfl rfl rfl rfl (fun hg => have hg := (by first | exact of_decide_eq_true hg | exact hg); sq_go 7 rfl rfl rfl (q_move rfl) <|
   sq_go 7 rfl rfl rfl (q_move rfl) <|
   sq_go 7 rfl rfl rfl (q_nilCheck rfl) <|
   sq_go 7 rfl rfl rfl (q_fieldAddr ty80 rfl rfl (s' := 0) kQ) <|
   sq_go 7 rfl rfl rfl (q_ld_blk1 ty78 0 rfl rfl rfl rfl) <|
   sq_go 7 rfl rfl rfl (q_len_row ty78 1 rfl rfl) <|
   sq_go 7 rfl rfl rfl (q_lti rfl rfl) <|
   sq_end) rfl rfl ?_
 clear hF hS; intro a w hF hS
 refine wpl_sq hF hS (sq rfl (q_assign rfl) <|
   sq_end) ?_
 clear hF hS; intro a w hF hS
 refine wpList_nil ?_
 refine hK2 _ _ ?_
 clear hK2
 refine wp_ret ?_
 exact fn_retx (rs := [.tmp 4]) rfl hF hS (vs := [_]) ⟨rfl, trivial⟩ [] [_, _] sQ sQ (Dk.rdr_of (S := S) ⟨rfl, rfl, rfl⟩ (rfl) (by show Value.bool _ = _; congr 1; rw [Bool.eq_iff_iff]; simp))

set_option maxRecDepth 4000 in
set_option maxHeartbeats 2000000 in
theorem rstep_ct {b : Nat} {v : Value} {S : Dk.Dsk} (w0 : World) (zsr : List PH) (hO : Dk.Ok S) : Cx Tryz.prog 46 [.pointer (some ⟨b, 0, none⟩)] w0 zsr [RRB b v S, RRW v S] (RRD b v ((Dk.step S).1) (vi (Dk.step S).2)) := by
 refine fn_enterx Tryz.func46 rfl Tryz.ntmps46 (Nat.le_of_ble_eq_true rfl) fun hsr a w hF hS => ?_
 replace hS : St _ (_) (_ :: _ :: _) _ := hS
 have hlo := hO.lo
 have hhi := hO.hi
 have hlf := hO.lf
 have hlg := hO.lf2
 refine wp_seq_k ?_; intro K1 hK1
 refine reg hF hS (sq rfl (q_assign rfl) <|
   sq_end) ?_
 clear hF hS; intro a w hF hS
 refine hK1 _ _ ?_
 clear hK1
 refine wp_seq_k ?_; intro K2 hK2
 refine wp_seq_k ?_; intro K3 hK3
 refine reg hF hS (sq rfl (q_move rfl) <|
   sq rfl (q_nilCheck rfl) <|
   sq rfl (q_fieldAddr ty80 rfl rfl (s' := 0) kQ) <|
   sq rfl (q_ld_blk1 ty3 0 rfl rfl rfl rfl) <|
   sq rfl (q_eqi rfl rfl) <|
   sq_end) ?_
 clear hF hS; intro a w hF hS
 refine hK3 _ _ ?_
 clear hK3
 refine wp_ifd hF rfl (fun hc1 => ?_) (fun hc1 => ?_)
 ·refine wp_seq_k ?_; intro K4 hK4
  refine regl ?_
  refine wpl_sq hF hS (sq rfl (q_move rfl) <|
    sq rfl (q_nilCheck rfl) <|
    sq rfl (q_fieldAddr ty80 rfl rfl (s' := 0) kQ) <|
    sq_end) ?_
  clear hF hS; intro a w hF hS
  refine wpl_ef hF hS rfl (ef_store1 ty4 0 rfl rfl rfl rfl (by simp)) ?_
  clear hF hS; rintro _ _ _ a w ⟨rfl, rfl, rfl⟩ hF hS
  replace hS : St _ (_) (.blk _ _ ([_, _, _].set 1 _) :: _ :: _) _ := hS
  simp only [List.set_cons_zero, List.set_cons_succ] at hS
  replace hS : St _ (_) (_ :: _ :: _) _ := hS
  refine wpList_nil ?_
  refine hK4 _ _ ?_
  clear hK4
  refine wp_seq_k ?_; intro K5 hK5
  refine reg hF hS (sq rfl (q_assign rfl) <|
    sq_end) ?_
  clear hF hS; intro a w hF hS
  refine hK5 _ _ ?_
  clear hK5
  refine wp_ret ?_
  exact fn_retx (rs := [.tmp 2]) rfl hF hS (vs := [_]) ⟨rfl, trivial⟩ [] [_, _] sQ sQ (Dk.rdr_of (S := ⟨S.s, true, S.left⟩) ⟨rfl, rfl, rfl⟩ (by rw [Dk.step_0 (by omega)]) (by rw [Dk.step_0 (by omega)]))
 ·refine wp_skip ?_
  refine hK2 _ _ ?_
  clear hK2
  refine wp_seq_k ?_; intro K6 hK6
  refine wp_seq_k ?_; intro K7 hK7
  refine reg hF hS (sq rfl (q_move rfl) <|
    sq rfl (q_nilCheck rfl) <|
    sq rfl (q_fieldAddr ty80 rfl rfl (s' := 0) kQ) <|
    sq rfl (q_ld_blk1 ty3 0 rfl rfl rfl rfl) <|
    sq rfl (q_gti rfl rfl) <|
    sq_end) ?_
  clear hF hS; intro a w hF hS
  refine hK7 _ _ ?_
  clear hK7
  refine wp_ifd hF rfl (fun hc2 => ?_) (fun hc2 => ?_)
  ·refine regl ?_
   refine wpl_sq hF hS (sq rfl (q_move rfl) <|
     sq rfl (q_nilCheck rfl) <|
     sq rfl (q_fieldAddr ty80 rfl rfl (s' := 0) kQ) <|
     sq rfl (q_ld_blk1 ty3 0 rfl rfl rfl rfl) <|
     sq rfl (q_subi rfl rfl (by omega)) <|
     sq rfl (q_nilCheck rfl) <|
     sq rfl (q_fieldAddr ty80 rfl rfl (s' := 0) kQ) <|
     sq_end) ?_
   clear hF hS; intro a w hF hS
   refine wpl_ef hF hS rfl (ef_store1 ty3 0 rfl rfl rfl rfl (by simp)) ?_
   clear hF hS; rintro _ _ _ a w ⟨rfl, rfl, rfl⟩ hF hS
   replace hS : St _ (_) (.blk _ _ ([_, _, _].set 2 _) :: _ :: _) _ := hS
   simp only [List.set_cons_zero, List.set_cons_succ] at hS
   replace hS : St _ (_) (_ :: _ :: _) _ := hS
   refine wpList_nil ?_
   refine hK6 _ _ ?_
   clear hK6
   refine wp_seq_k ?_; intro K8 hK8
   refine reg hF hS (sq rfl (q_assign rfl) <|
     sq_end) ?_
   clear hF hS; intro a w hF hS
   refine hK8 _ _ ?_
   clear hK8
   refine wp_ret ?_
   exact fn_retx (rs := [.tmp 2]) rfl hF hS (vs := [_]) ⟨rfl, trivial⟩ [] [_, _] sQ sQ (Dk.rdr_of (S := ⟨S.s, S.off, S.left - 1⟩) ⟨rfl, rfl, rfl⟩ (by rw [Dk.step_1 (by omega)]) (by rw [Dk.step_1 (by omega)]))
  ·refine wp_skip ?_
   refine hK6 _ _ ?_
   clear hK6
   refine wp_seq_k ?_; intro K9 hK9
   refine reg hF hS (sq rfl (q_assign rfl) <|
     sq_end) ?_
   clear hF hS; intro a w hF hS
   refine hK9 _ _ ?_
   clear hK9
   refine wp_ret ?_
   exact fn_retx (rs := [.tmp 2]) rfl hF hS (vs := [_]) ⟨rfl, trivial⟩ [] [_, _] sQ sQ (Dk.rdr_of (S := S) ⟨rfl, rfl, rfl⟩ (by rw [Dk.step_2 (by omega)]) (by rw [Dk.step_2 (by omega)]))

set_option maxRecDepth 4000 in
set_option maxHeartbeats 2000000 in
theorem rread_ct {b : Nat} {v : Value} {S : Dk.Dsk} (i : Int) (w0 : World) (zsr : List PH) (hO : Dk.Ok S) : Cx Tryz.prog 53 [.pointer (some ⟨b, 0, none⟩), vi i] w0 zsr [RRB b v S, RRW v S] (RRD b v (S) (.tuple [vs (Dk.read S i).1, vi (Dk.read S i).2].toArray)) := by
 refine fn_enterx Tryz.func53 rfl Tryz.ntmps53 (Nat.le_of_ble_eq_true rfl) fun hsr a w hF hS => ?_
 replace hS : St _ (_) (_ :: _ :: _) _ := hS
 have hlo := hO.lo
 have hhi := hO.hi
 have hlf := hO.lf
 have hlg := hO.lf2
 refine wp_seq_k ?_; intro K1 hK1
 refine reg hF hS (sq rfl (q_assign rfl) <|
   sq rfl (q_assign rfl) <|
   sq_end) ?_
 clear hF hS; intro a w hF hS
 refine hK1 _ _ ?_
 clear hK1
 refine wp_seq_k ?_; intro K2 hK2
 refine wp_seq_k ?_; intro K3 hK3
 refine reg hF hS (sq rfl (q_move rfl) <|
   sq rfl (q_nilCheck rfl) <|
   sq rfl (q_fieldAddr ty80 rfl rfl (s' := 0) kQ) <|
   sq rfl (q_ld_blk1 ty4 0 rfl rfl rfl rfl) <|
   sq_end) ?_
 clear hF hS; intro a w hF hS
 refine hK3 _ _ ?_
 clear hK3
 refine wp_if hF rfl (fun hc1 => ?_) (fun hc1 => ?_)
 ·refine wp_seq_k ?_; intro K4 hK4
  refine reg hF hS (sq rfl (q_assign rfl) <|
    sq rfl (q_assign rfl) <|
    sq_end) ?_
  clear hF hS; intro a w hF hS
  refine hK4 _ _ ?_
  clear hK4
  refine wp_ret ?_
  exact fn_retx (rs := [.tmp 4, .tmp 5]) rfl hF hS (vs := [_, _]) ⟨rfl, rfl, trivial⟩ [] [_, _] sQ sQ (Dk.rdr_of (S := S) ⟨rfl, rfl, rfl⟩ (rfl) (by rw [Dk.read_bad (by rw [Dk.check_off hc1]; decide), Dk.check_off hc1]))
 ·refine wp_skip ?_
  refine hK2 _ _ ?_
  clear hK2
  refine wp_seq_k ?_; intro K5 hK5
  refine wp_seq_k ?_; intro K6 hK6
  refine regl ?_
  refine wpl_sq hF hS (sq rfl (q_move rfl) <|
    sq rfl (q_move rfl) <|
    sq_end) ?_
  clear hF hS; intro a w hF hS
  refine wpl_ef hF hS rfl (ef_callx fn45 rfl (List.Perm.refl _) (by exact (ris_ct _ _ _  (by first | assumption | exact Dk.ok_step (by assumption) | exact Dk.rst_ok (by assumption) _ _) (S := S) (v := v)))) ?_
  clear hF hS; rintro _ _ _ a w ⟨_, _, rfl, rfl, ⟨rfl, rfl, rfl⟩⟩ hF hS
  replace hS : St _ (_) (_ :: _ :: _) _ := hS
  refine wpl_sq hF hS (sq rfl (q_not rfl) <|
    sq_end) ?_
  clear hF hS; intro a w hF hS
  refine wpList_nil ?_
  refine hK6 _ _ ?_
  clear hK6
  refine wp_if hF rfl (fun hc2 => ?_) (fun hc2 => ?_)
  ·refine wp_seq_k ?_; intro K7 hK7
   refine reg hF hS (sq rfl (q_assign rfl) <|
     sq rfl (q_assign rfl) <|
     sq_end) ?_
   clear hF hS; intro a w hF hS
   refine hK7 _ _ ?_
   clear hK7
   refine wp_ret ?_
   exact fn_retx (rs := [.tmp 4, .tmp 5]) rfl hF hS (vs := [_, _]) ⟨rfl, rfl, trivial⟩ [] [_, _] sQ sQ (Dk.rdr_of (S := S) ⟨rfl, rfl, rfl⟩ (rfl) (by rw [Dk.read_bad (by rw [Dk.check_out (by rw [hc1]; simp) (by have := hc2; simp at this; omega)]; decide), Dk.check_out (by rw [hc1]; simp) (by have := hc2; simp at this; omega)]))
  ·have hir : 0 ≤ i ∧ i < S.s.length := by simpa using hc2
   have hc0 := Dk.check_in (S := S) (i := i) (by rw [hc1]; simp) hir
   refine wp_skip ?_
   refine hK5 _ _ ?_
   clear hK5
   refine wp_seq_k ?_; intro K8 hK8
   refine wp_seq_k ?_; intro K9 hK9
   refine reg hF hS (sq rfl (q_move rfl) <|
     sq rfl (q_nilCheck rfl) <|
     sq rfl (q_fieldAddr ty80 rfl rfl (s' := 0) kQ) <|
     sq rfl (q_ld_blk1 ty78 0 rfl rfl rfl rfl) <|
     sq rfl (q_move rfl) <|
     sq rfl (q_idx_row ty78 ty83 1 rfl rfl rfl (by omega)) <|
     sq rfl (q_fld_row ty83 1 rfl rfl (by omega) rfl (s' := 0) kQ) <|
     sq rfl (q_ld_rowK1 Dk.secC_len Dk.s0 ty4 1 rfl rfl rfl (by omega) (by decide) rfl) <|
     sq_end) ?_
   clear hF hS; intro a w hF hS
   refine hK9 _ _ ?_
   clear hK9
   refine wp_if hF rfl (fun hc3 => ?_) (fun hc3 => ?_)
   ·refine wp_seq_k ?_; intro K10 hK10
    refine reg hF hS (sq rfl (q_move rfl) <|
      sq rfl (q_nilCheck rfl) <|
      sq rfl (q_fieldAddr ty80 rfl rfl (s' := 0) kQ) <|
      sq rfl (q_ld_blk1 ty78 0 rfl rfl rfl rfl) <|
      sq rfl (q_move rfl) <|
      sq rfl (q_idx_row ty78 ty83 1 rfl rfl rfl (by omega)) <|
      sq rfl (q_fld_row ty83 1 rfl rfl (by omega) rfl (s' := 0) kQ) <|
      sq rfl (q_ld_rowK1 Dk.secC_len Dk.s0 ty9 1 rfl rfl rfl (by omega) (by decide) rfl) <|
      sq rfl (q_assign rfl) <|
      sq rfl (q_assign rfl) <|
      sq_end) ?_
    clear hF hS; intro a w hF hS
    refine hK10 _ _ ?_
    clear hK10
    refine wp_ret ?_
    exact fn_retx (rs := [.tmp 4, .tmp 5]) rfl hF hS (vs := [_, _]) ⟨rfl, rfl, trivial⟩ [] [_, _] sQ sQ (Dk.rdr_of (S := S) ⟨rfl, rfl, rfl⟩ (rfl) (by rw [Dk.read_nx hc0 hc3]; rfl))
   ·refine wp_skip ?_
    refine hK8 _ _ ?_
    clear hK8
    refine wp_seq_k ?_; intro K11 hK11
    refine reg hF hS (sq rfl (q_move rfl) <|
      sq rfl (q_nilCheck rfl) <|
      sq rfl (q_fieldAddr ty80 rfl rfl (s' := 0) kQ) <|
      sq rfl (q_ld_blk1 ty78 0 rfl rfl rfl rfl) <|
      sq rfl (q_move rfl) <|
      sq rfl (q_idx_row ty78 ty83 1 rfl rfl rfl (by omega)) <|
      sq rfl (q_fld_row ty83 1 rfl rfl (by omega) rfl (s' := 0) kQ) <|
      sq rfl (q_ld_rowK1 Dk.secC_len Dk.s0 ty9 1 rfl rfl rfl (by omega) (by decide) rfl) <|
      sq rfl (q_assign rfl) <|
      sq rfl (q_assign rfl) <|
      sq_end) ?_
    clear hF hS; intro a w hF hS
    refine hK11 _ _ ?_
    clear hK11
    refine wp_ret ?_
    exact fn_retx (rs := [.tmp 4, .tmp 5]) rfl hF hS (vs := [_, _]) ⟨rfl, rfl, trivial⟩ [] [_, _] sQ sQ (Dk.rdr_of (S := S) ⟨rfl, rfl, rfl⟩ (rfl) (by rw [Dk.read_tx hc0 (by show ¬ (S.s.getD i.toNat Dk.s0).dt = true; rw [hc3]; simp)]; rfl))
end Go.Proofs.YtibbhobfdbfkkaaGreatDoor
end

section
namespace Go.Proofs.YtibbhobfdbfkkaaGreatDoor
open Go.Fw
theorem fn46 : FnOk Tryz.prog 46 := ⟨_, Tryz.func46, rfl, by kernel_rfl⟩

set_option maxRecDepth 4000 in
set_option maxHeartbeats 2000000 in
theorem rwrite_ct {b : Nat} {v : Value} {S : Dk.Dsk} (i : Int) (t : List UInt8) (w0 : World) (zsr : List PH) (hO : Dk.Ok S) : Cx Tryz.prog 11 [.pointer (some ⟨b, 0, none⟩), vi i, vs t] w0 zsr [RRB b v S, RRW v S] (RRD b v ((Dk.write S i t).1) (vi (Dk.write S i t).2)) := by
 refine fn_enterx Tryz.func11 rfl Tryz.ntmps11 (Nat.le_of_ble_eq_true rfl) fun hsr a w hF hS => ?_
 replace hS : St _ (_) (_ :: _ :: _) _ := hS
 have hlo := hO.lo
 have hhi := hO.hi
 have hlf := hO.lf
 have hlg := hO.lf2
 refine wp_seq_k ?_; intro K1 hK1
 refine reg hF hS (sq rfl (q_assign rfl) <|
   sq_end) ?_
 clear hF hS; intro a w hF hS
 refine hK1 _ _ ?_
 clear hK1
 refine wp_seq_k ?_; intro K2 hK2
 refine wp_seq_k ?_; intro K3 hK3
 refine reg hF hS (sq rfl (q_move rfl) <|
   sq rfl (q_nilCheck rfl) <|
   sq rfl (q_fieldAddr ty80 rfl rfl (s' := 0) kQ) <|
   sq rfl (q_ld_blk1 ty4 0 rfl rfl rfl rfl) <|
   sq_end) ?_
 clear hF hS; intro a w hF hS
 refine hK3 _ _ ?_
 clear hK3
 refine wp_if hF rfl (fun hc1 => ?_) (fun hc1 => ?_)
 ·refine wp_seq_k ?_; intro K4 hK4
  refine reg hF hS (sq rfl (q_assign rfl) <|
    sq_end) ?_
  clear hF hS; intro a w hF hS
  refine hK4 _ _ ?_
  clear hK4
  refine wp_ret ?_
  exact fn_retx (rs := [.tmp 6]) rfl hF hS (vs := [_]) ⟨rfl, trivial⟩ [] [_, _] sQ sQ (Dk.rdr_of (S := S) ⟨rfl, rfl, rfl⟩ (by rw [Dk.write_1 (by rw [Dk.check_off hc1]; decide)]) (by rw [Dk.write_1 (by rw [Dk.check_off hc1]; decide), Dk.check_off hc1]))
 ·refine wp_skip ?_
  refine hK2 _ _ ?_
  clear hK2
  refine wp_seq_k ?_; intro K5 hK5
  refine wp_seq_k ?_; intro K6 hK6
  refine regl ?_
  refine wpl_sq hF hS (sq rfl (q_move rfl) <|
    sq rfl (q_move rfl) <|
    sq_end) ?_
  clear hF hS; intro a w hF hS
  refine wpl_ef hF hS rfl (ef_callx fn45 rfl (List.Perm.refl _) (by exact (ris_ct _ _ _  (by first | assumption | exact Dk.ok_step (by assumption) | exact Dk.rst_ok (by assumption) _ _) (S := S) (v := v)))) ?_
  clear hF hS; rintro _ _ _ a w ⟨_, _, rfl, rfl, ⟨rfl, rfl, rfl⟩⟩ hF hS
  replace hS : St _ (_) (_ :: _ :: _) _ := hS
  refine wpl_sq hF hS (sq rfl (q_not rfl) <|
    sq rfl (q_move rfl) <|
    sq_end) ?_
  clear hF hS; intro a w hF hS
  refine wpl_or 4 16 3 hF hS rfl rfl rfl rfl rfl (fun hg => have hg := hg; sq_go 16 rfl rfl rfl (q_move rfl) <|
    sq_go 16 rfl rfl rfl (q_len_s ty9 rfl) <|
    sq_go 16 rfl rfl rfl (q_nei rfl rfl) <|
    sq_end) rfl rfl ?_
  clear hF hS; intro a w hF hS
  refine wpList_nil ?_
  refine hK6 _ _ ?_
  clear hK6
  refine wp_if hF rfl (fun hc2 => ?_) (fun hc2 => ?_)
  ·(try simp only [Bool.or_eq_true, Bool.and_eq_true, Bool.or_eq_false_iff, Bool.and_eq_false_iff, decide_eq_true_eq, decide_eq_false_iff_not, Bool.not_eq_true', Bool.not_eq_false'] at hc2)
   refine wp_seq_k ?_; intro K7 hK7
   refine reg hF hS (sq rfl (q_assign rfl) <|
     sq_end) ?_
   clear hF hS; intro a w hF hS
   refine hK7 _ _ ?_
   clear hK7
   refine wp_ret ?_
   exact fn_retx (rs := [.tmp 6]) rfl hF hS (vs := [_]) ⟨rfl, trivial⟩ [] [_, _] sQ sQ (Dk.rdr_of (S := S) ⟨rfl, rfl, rfl⟩ ((Dk.wbad hc1 hc2).1) (congrArg vi (Dk.wbad hc1 hc2).2))
  ·(try simp only [Bool.or_eq_true, Bool.and_eq_true, Bool.or_eq_false_iff, Bool.and_eq_false_iff, decide_eq_true_eq, decide_eq_false_iff_not, Bool.not_eq_true', Bool.not_eq_false'] at hc2)
   have hir : 0 ≤ i ∧ i < S.s.length := by simpa using hc2.1
   have h64 : t.length = 64 := by have := hc2.2; omega
   have hc0 := Dk.check_in (S := S) (i := i) (by rw [hc1]; simp) hir
   refine wp_skip ?_
   refine hK5 _ _ ?_
   clear hK5
   refine wp_seq_k ?_; intro K8 hK8
   refine regl ?_
   refine wpl_sq hF hS (sq rfl (q_move rfl) <|
     sq_end) ?_
   clear hF hS; intro a w hF hS
   refine wpl_ef hF hS rfl (ef_callx fn46 rfl (List.Perm.refl _) (by exact (rstep_ct _ _  (by first | assumption | exact Dk.ok_step (by assumption) | exact Dk.rst_ok (by assumption) _ _) (S := S) (v := v)))) ?_
   clear hF hS; rintro _ _ _ a w ⟨_, _, rfl, rfl, ⟨rfl, rfl, rfl⟩⟩ hF hS
   replace hS : St _ (_) (_ :: _ :: _) _ := hS
   refine wpl_sq hF hS (sq rfl (q_assign rfl) <|
     sq_end) ?_
   clear hF hS; intro a w hF hS
   refine wpList_nil ?_
   refine hK8 _ _ ?_
   clear hK8
   refine wp_seq_k ?_; intro K9 hK9
   refine wp_seq_k ?_; intro K10 hK10
   refine reg hF hS (sq rfl (q_move rfl) <|
     sq rfl (q_nei rfl rfl) <|
     sq_end) ?_
   clear hF hS; intro a w hF hS
   refine hK10 _ _ ?_
   clear hK10
   refine wp_ifn hF rfl (fun hc3 => ?_) (fun hc3 => ?_)
   ·refine wp_seq_k ?_; intro K11 hK11
    refine reg hF hS (sq rfl (q_move rfl) <|
      sq rfl (q_assign rfl) <|
      sq_end) ?_
    clear hF hS; intro a w hF hS
    refine hK11 _ _ ?_
    clear hK11
    refine wp_ret ?_
    exact fn_retx (rs := [.tmp 6]) rfl hF hS (vs := [_]) ⟨rfl, trivial⟩ [] [_, _] sQ sQ (Dk.rdr_of (S := (Dk.step S).1) ⟨rfl, rfl, rfl⟩ (by rw [Dk.write_3 hc0 h64 hc3]) (by rw [Dk.write_3 hc0 h64 hc3]))
   ·have hs0 : (Dk.step S).2 = 0 := by omega
    have hO1 := Dk.ok_step hO
    have hir2 : 0 ≤ i ∧ i < (Dk.step S).1.s.length := by rw [Dk.step_s]; exact hir
    refine wp_skip ?_
    refine hK9 _ _ ?_
    clear hK9
    refine wp_seq_k ?_; intro K12 hK12
    refine regl ?_
    refine wpl_sq hF hS (sq rfl (q_move rfl) <|
      sq rfl (q_nilCheck rfl) <|
      sq rfl (q_fieldAddr ty80 rfl rfl (s' := 0) kQ) <|
      sq rfl (q_ld_blk1 ty78 0 rfl rfl rfl rfl) <|
      sq rfl (q_move rfl) <|
      sq rfl (q_move rfl) <|
      sq rfl (q_idx_row ty78 ty83 1 rfl rfl rfl (by omega)) <|
      sq rfl (q_fld_row ty83 1 rfl rfl (by omega) rfl (s' := 0) kQ) <|
      sq_end) ?_
    clear hF hS; intro a w hF hS
    refine wpl_ef hF hS rfl (ef_st_rowK (x' := ⟨(((Dk.step S).1).at i).tx, t, (((Dk.step S).1).at i).dt, (((Dk.step S).1).at i).wn⟩) Dk.secC_len ty9 1 rfl rfl rfl (Dk.at_some (S := (Dk.step S).1) hir2) (by decide) rfl rfl) ?_
    clear hF hS; rintro _ _ _ a w ⟨rfl, rfl, rfl⟩ hF hS
    replace hS : St _ (_) (_ :: _ :: _) _ := hS
    refine wpList_nil ?_
    refine hK12 _ _ ?_
    clear hK12
    refine wp_seq_k ?_; intro K13 hK13
    refine regl ?_
    refine wpl_sq hF hS (sq rfl (q_move rfl) <|
      sq rfl (q_nilCheck rfl) <|
      sq rfl (q_fieldAddr ty80 rfl rfl (s' := 0) kQ) <|
      sq rfl (q_ld_blk1 ty78 0 rfl rfl rfl rfl) <|
      sq rfl (q_move rfl) <|
      sq rfl (q_idx_row ty78 ty83 1 rfl rfl rfl (by omega)) <|
      sq rfl (q_fld_row ty83 1 rfl rfl (by omega) rfl (s' := 0) kQ) <|
      sq_end) ?_
    clear hF hS; intro a w hF hS
    refine wpl_ef hF hS rfl (ef_st_rowK (x' := ⟨(((Dk.step S).1).at i).tx, t, true, (((Dk.step S).1).at i).wn⟩) Dk.secC_len ty4 1 rfl rfl rfl (Dk.set_some (S := (Dk.step S).1) hir2) (by decide) rfl rfl) ?_
    clear hF hS; rintro _ _ _ a w ⟨rfl, rfl, rfl⟩ hF hS
    replace hS : St _ (_) (_ :: _ :: _) _ := hS
    refine wpList_nil ?_
    refine hK13 _ _ ?_
    clear hK13
    refine wp_seq_k ?_; intro K14 hK14
    refine reg hF hS (sq rfl (q_assign rfl) <|
      sq_end) ?_
    clear hF hS; intro a w hF hS
    refine hK14 _ _ ?_
    clear hK14
    refine wp_ret ?_
    exact fn_retx (rs := [.tmp 6]) rfl hF hS (vs := [_]) ⟨rfl, trivial⟩ [] [_, _] sQ sQ (Dk.rdr_of (S := Dk.mark ((Dk.step S).1) i t) ⟨rfl, rfl, by exact congrArg (fun r => [_, r]) Dk.rw_set2⟩ (by rw [Dk.write_4 hc0 h64 hs0]) (by rw [Dk.write_4 hc0 h64 hs0]))

set_option maxRecDepth 4000 in
set_option maxHeartbeats 2000000 in
theorem rsettle_ct {b : Nat} {v : Value} {S : Dk.Dsk} (i p : Int) (hi : 0 ≤ i ∧ i < S.s.length) (hd : (S.at i).dt = true) (w0 : World) (zsr : List PH) (hO : Dk.Ok S) : Cx Tryz.prog 67 [.pointer (some ⟨b, 0, none⟩), vi i, vi p] w0 zsr [RRB b v S, RRW v S] (RRD b v (S.put i (Dk.settle1 (S.at i) p)) (.tuple ([] : List Value).toArray)) := by
 refine fn_enterx Tryz.func67 rfl Tryz.ntmps67 (Nat.le_of_ble_eq_true rfl) fun hsr a w hF hS => ?_
 replace hS : St _ (_) (_ :: _ :: _) _ := hS
 have hlo := hO.lo
 have hhi := hO.hi
 have hlf := hO.lf
 have hlg := hO.lf2
 have hnx : (S.s.getD i.toNat Dk.s0).nx.length = 64 := (hO.at hi).2.1 hd
 have htx : (S.s.getD i.toNat Dk.s0).tx.length = 64 := (hO.at hi).1
 have hat : S.at i = S.s.getD i.toNat Dk.s0 := rfl
 have hsc : (Dk.secC (S.s.getD i.toNat Dk.s0)).length = 4 := rfl
 have hta : (List.take (max 0 (min p 64)).toNat (S.s.getD i.toNat Dk.s0).nx).length ≤ 64 := by rw [List.length_take]; omega
 have htb : (List.drop (max 0 (min p 64)).toNat (S.s.getD i.toNat Dk.s0).tx).length ≤ 64 := by rw [List.length_drop]; omega
 refine wp_seq_k ?_; intro K1 hK1
 refine regl ?_
 refine wpl_sq hF hS (sq rfl (q_move rfl) <|
   sq rfl (q_nilCheck rfl) <|
   sq rfl (q_fieldAddr ty80 rfl rfl (s' := 0) kQ) <|
   sq rfl (q_ld_blk1 ty78 0 rfl rfl rfl rfl) <|
   sq rfl (q_move rfl) <|
   sq rfl (q_idx_row ty78 ty83 1 rfl rfl rfl (by omega)) <|
   sq rfl (q_ld_rowKW Dk.secC_len Dk.s0 ty83 1 rfl rfl rfl (by decide) (by omega)) <|
   sq_end) ?_
 clear hF hS; intro a w hF hS
 refine wpl_ef hF hS rfl (ef_allocA ty83) ?_
 clear hF hS; rintro _ _ _ a w ⟨b1, rfl, rfl, rfl⟩ hF hS
 refine wpl_ef hF hS rfl (ef_storeW ty83 0 rfl rfl rfl rfl bQ (oc_cons rfl (oc_cons rfl (oc_cons rfl (oc_cons rfl oc_nil)))) bQ) ?_
 clear hF hS; rintro _ _ _ a w ⟨rfl, rfl, rfl⟩ hF hS
 replace hS : St _ (_) (_ :: _ :: _ :: _) _ := hS
 refine wpList_nil ?_
 rw [show Dk.secC (S.s.getD i.toNat Dk.s0) = [vs (S.s.getD i.toNat Dk.s0).tx, vs (S.s.getD i.toNat Dk.s0).nx, .bool (S.s.getD i.toNat Dk.s0).dt, .bool (S.s.getD i.toNat Dk.s0).wn] from rfl] at hS
 refine hK1 _ _ ?_
 clear hK1
 refine wp_seq_k ?_; intro K2 hK2
 refine reg hF hS (sq rfl (q_move rfl) <|
   sq rfl (q_min rfl rfl) <|
   sq rfl (q_max rfl rfl) <|
   sq rfl (q_assign rfl) <|
   sq_end) ?_
 clear hF hS; intro a w hF hS
 refine hK2 _ _ ?_
 clear hK2
 refine wp_seq_k ?_; intro K3 hK3
 refine wp_seq_k ?_; intro K4 hK4
 refine reg hF hS (sq rfl (q_fieldAddr ty83 rfl rfl (s' := 0) kQ) <|
   sq rfl (q_ld_blk1 ty4 0 rfl rfl rfl rfl) <|
   sq rfl (q_not rfl) <|
   sq_end) ?_
 clear hF hS; intro a w hF hS
 refine hK4 _ _ ?_
 clear hK4
 refine wp_if hF rfl (fun hc1 => ?_) (fun hc1 => ?_)
 ·refine regt 10 mixed kQ hF hS (sq rfl (q_fieldAddr ty83 rfl rfl (s' := 0) kQ) <|
    sq rfl (q_ld_blk1 ty9 0 rfl rfl rfl rfl) <|
    sq rfl (q_move rfl) <|
    sq rfl (q_sl_s_hi ty9 rfl rfl (by omega)) <|
    sq rfl (q_fieldAddr ty83 rfl rfl (s' := 0) kQ) <|
    sq rfl (q_ld_blk1 ty9 0 rfl rfl rfl rfl) <|
    sq rfl (q_move rfl) <|
    sq rfl (q_sl_s_lo ty9 rfl rfl (by omega)) <|
    sq rfl (q_adds rfl rfl bQ) <|
    sq rfl (q_fieldAddr ty83 rfl rfl (s' := 0) kQ) <|
    sq_end) ?_
  clear hF hS; intro a w hF hS
  refine wpl_ef hF hS rfl (ef_store1 ty9 0 rfl rfl rfl rfl (by simp)) ?_
  clear hF hS; rintro _ _ _ a w ⟨rfl, rfl, rfl⟩ hF hS
  replace hS : St _ (_) (.blk _ _ ([_, _, _, _].set 0 _) :: _ :: _ :: _) _ := hS
  simp only [List.set_cons_zero, List.set_cons_succ] at hS
  replace hS : St _ (_) (_ :: _ :: _ :: _) _ := hS
  refine wpList_nil ?_
  refine hK3 _ _ ?_
  clear hK3
  refine wp_seq_k ?_; intro K5 hK5
  refine regl ?_
  refine wpl_sq hF hS (sq rfl (q_fieldAddr ty83 rfl rfl (s' := 0) kQ) <|
    sq_end) ?_
  clear hF hS; intro a w hF hS
  refine wpl_ef hF hS rfl (ef_store1 ty9 0 rfl rfl rfl rfl (by simp)) ?_
  clear hF hS; rintro _ _ _ a w ⟨rfl, rfl, rfl⟩ hF hS
  replace hS : St _ (_) (.blk _ _ ([_, _, _, _].set 1 _) :: _ :: _ :: _) _ := hS
  simp only [List.set_cons_zero, List.set_cons_succ] at hS
  replace hS : St _ (_) (_ :: _ :: _ :: _) _ := hS
  refine wpList_nil ?_
  refine hK5 _ _ ?_
  clear hK5
  refine wp_seq_k ?_; intro K6 hK6
  refine regl ?_
  refine wpl_sq hF hS (sq rfl (q_fieldAddr ty83 rfl rfl (s' := 0) kQ) <|
    sq_end) ?_
  clear hF hS; intro a w hF hS
  refine wpl_ef hF hS rfl (ef_store1 ty4 0 rfl rfl rfl rfl (by simp)) ?_
  clear hF hS; rintro _ _ _ a w ⟨rfl, rfl, rfl⟩ hF hS
  replace hS : St _ (_) (.blk _ _ ([_, _, _, _].set 2 _) :: _ :: _ :: _) _ := hS
  simp only [List.set_cons_zero, List.set_cons_succ] at hS
  replace hS : St _ (_) (_ :: _ :: _ :: _) _ := hS
  refine wpList_nil ?_
  refine hK6 _ _ ?_
  clear hK6
  refine regt 7 mixed kQ hF hS (sq rfl (q_move rfl) <|
    sq rfl (q_nilCheck rfl) <|
    sq rfl (q_fieldAddr ty80 rfl rfl (s' := 0) kQ) <|
    sq rfl (q_ld_blk1 ty78 1 rfl rfl rfl rfl) <|
    sq rfl (q_move rfl) <|
    sq rfl (q_ld_blkW ty83 0 rfl rfl bQ rfl) <|
    sq rfl (q_idx_row ty78 ty83 2 rfl rfl rfl (by omega)) <|
    sq_end) ?_
  clear hF hS; intro a w hF hS
  refine wpl_ef hF hS rfl (ef_st_rowKW Dk.secC_len Dk.secC_one ty83 2 (a := ⟨(S.s.getD i.toNat Dk.s0).nx.take (max 0 (min p 64)).toNat ++ (S.s.getD i.toNat Dk.s0).tx.drop (max 0 (min p 64)).toNat, [], false, (S.s.getD i.toNat Dk.s0).wn⟩) rfl rfl rfl rfl rfl bQ) ?_
  clear hF hS; rintro _ _ _ a w ⟨rfl, rfl, rfl⟩ hF hS
  replace hS : St _ (_) (_ :: _ :: _ :: _) _ := hS
  refine wpList_nil ?_
  -- falls off the end
  replace hS := hS.perm (.swap _ _ _)
  replace hS := hS.perm (.cons _ (.swap _ _ _))
  exact fn_retx (rs := []) rfl hF hS (vs := []) trivial [] [_, _] sQ (sQ.n.k.k) (Dk.rdr_of (S := S.put i ⟨(S.s.getD i.toNat Dk.s0).nx.take (max 0 (min p 64)).toNat ++ (S.s.getD i.toNat Dk.s0).tx.drop (max 0 (min p 64)).toNat, [], false, (S.s.getD i.toNat Dk.s0).wn⟩) ⟨rfl, rfl, by exact congrArg (fun r => [_, r]) Dk.rw_set1⟩ (by rw [Dk.sect_settle, if_neg (by rw [hat]; simpa using hc1), hat]; rfl) (rfl))
 ·refine wp_skip ?_
  refine hK3 _ _ ?_
  clear hK3
  refine wp_seq_k ?_; intro K7 hK7
  refine regl ?_
  refine wpl_sq hF hS (sq rfl (q_fieldAddr ty83 rfl rfl (s' := 0) kQ) <|
    sq_end) ?_
  clear hF hS; intro a w hF hS
  refine wpl_ef hF hS rfl (ef_store1 ty9 0 rfl rfl rfl rfl (by simp)) ?_
  clear hF hS; rintro _ _ _ a w ⟨rfl, rfl, rfl⟩ hF hS
  replace hS : St _ (_) (.blk _ _ ([_, _, _, _].set 1 _) :: _ :: _ :: _) _ := hS
  simp only [List.set_cons_zero, List.set_cons_succ] at hS
  replace hS : St _ (_) (_ :: _ :: _ :: _) _ := hS
  refine wpList_nil ?_
  refine hK7 _ _ ?_
  clear hK7
  refine wp_seq_k ?_; intro K8 hK8
  refine regl ?_
  refine wpl_sq hF hS (sq rfl (q_fieldAddr ty83 rfl rfl (s' := 0) kQ) <|
    sq_end) ?_
  clear hF hS; intro a w hF hS
  refine wpl_ef hF hS rfl (ef_store1 ty4 0 rfl rfl rfl rfl (by simp)) ?_
  clear hF hS; rintro _ _ _ a w ⟨rfl, rfl, rfl⟩ hF hS
  replace hS : St _ (_) (.blk _ _ ([_, _, _, _].set 2 _) :: _ :: _ :: _) _ := hS
  simp only [List.set_cons_zero, List.set_cons_succ] at hS
  replace hS : St _ (_) (_ :: _ :: _ :: _) _ := hS
  refine wpList_nil ?_
  refine hK8 _ _ ?_
  clear hK8
  refine regt 7 mixed kQ hF hS (sq rfl (q_move rfl) <|
    sq rfl (q_nilCheck rfl) <|
    sq rfl (q_fieldAddr ty80 rfl rfl (s' := 0) kQ) <|
    sq rfl (q_ld_blk1 ty78 1 rfl rfl rfl rfl) <|
    sq rfl (q_move rfl) <|
    sq rfl (q_ld_blkW ty83 0 rfl rfl bQ rfl) <|
    sq rfl (q_idx_row ty78 ty83 2 rfl rfl rfl (by omega)) <|
    sq_end) ?_
  clear hF hS; intro a w hF hS
  refine wpl_ef hF hS rfl (ef_st_rowKW Dk.secC_len Dk.secC_one ty83 2 (a := ⟨(S.s.getD i.toNat Dk.s0).tx, [], false, (S.s.getD i.toNat Dk.s0).wn⟩) rfl rfl rfl rfl rfl bQ) ?_
  clear hF hS; rintro _ _ _ a w ⟨rfl, rfl, rfl⟩ hF hS
  replace hS : St _ (_) (_ :: _ :: _ :: _) _ := hS
  refine wpList_nil ?_
  -- falls off the end
  replace hS := hS.perm (.swap _ _ _)
  replace hS := hS.perm (.cons _ (.swap _ _ _))
  exact fn_retx (rs := []) rfl hF hS (vs := []) trivial [] [_, _] sQ (sQ.n.k.k) (Dk.rdr_of (S := S.put i ⟨(S.s.getD i.toNat Dk.s0).tx, [], false, (S.s.getD i.toNat Dk.s0).wn⟩) ⟨rfl, rfl, by exact congrArg (fun r => [_, r]) Dk.rw_set1⟩ (by rw [Dk.sect_settle, if_pos (by rw [hat]; simpa using hc1), hat]) (rfl))
end Go.Proofs.YtibbhobfdbfkkaaGreatDoor
end

section
namespace Go.Proofs.YtibbhobfdbfkkaaGreatDoor
open Go.Fw
theorem fn67 : FnOk Tryz.prog 67 := ⟨_, Tryz.func67, rfl, by kernel_rfl⟩

set_option maxRecDepth 4000 in
set_option maxHeartbeats 2000000 in
theorem rrot_ct {bk : Nat} {v : Value} {S : Dk.Dsk} (i b : Int) (hb : -9223372036854775808 ≤ b ∧ b ≤ 9223372036854775807) (w0 : World) (zsr : List PH) (hO : Dk.Ok S) : Cx Tryz.prog 33 [.pointer (some ⟨bk, 0, none⟩), vi i, vi b] w0 zsr [RRB bk v S, RRW v S] (RRD bk v ((Dk.rot S i b).1) (vi (Dk.rot S i b).2)) := by
 refine fn_enterx Tryz.func33 rfl Tryz.ntmps33 (Nat.le_of_ble_eq_true rfl) fun hsr a w hF hS => ?_
 replace hS : St _ (_) (_ :: _ :: _) _ := hS
 have hlo := hO.lo
 have hhi := hO.hi
 have hlf := hO.lf
 have hlg := hO.lf2
 refine wp_seq_k ?_; intro K1 hK1
 refine reg hF hS (sq rfl (q_assign rfl) <|
   sq_end) ?_
 clear hF hS; intro a w hF hS
 refine hK1 _ _ ?_
 clear hK1
 refine wp_seq_k ?_; intro K2 hK2
 refine wp_seq_k ?_; intro K3 hK3
 refine regl ?_
 refine wpl_sq hF hS (sq rfl (q_move rfl) <|
   sq rfl (q_move rfl) <|
   sq_end) ?_
 clear hF hS; intro a w hF hS
 refine wpl_ef hF hS rfl (ef_callx fn45 rfl (List.Perm.refl _) (by exact (ris_ct _ _ _  (by first | assumption | exact Dk.ok_step (by assumption) | exact Dk.rst_ok (by assumption) _ _) (S := S) (v := v)))) ?_
 clear hF hS; rintro _ _ _ a w ⟨_, _, rfl, rfl, ⟨rfl, rfl, rfl⟩⟩ hF hS
 replace hS : St _ (_) (_ :: _ :: _) _ := hS
 refine wpl_sq hF hS (sq rfl (q_not rfl) <|
   sq rfl (q_move rfl) <|
   sq_end) ?_
 clear hF hS; intro a w hF hS
 refine wpl_or 4 12 2 hF hS rfl rfl rfl rfl rfl (fun hg => have hg := hg; sq_go 12 rfl rfl rfl (q_move rfl) <|
   sq_go 12 rfl rfl rfl (q_lti rfl rfl) <|
   sq_end) rfl rfl ?_
 clear hF hS; intro a w hF hS
 refine wpl_sq hF hS (sq rfl (q_move rfl) <|
   sq_end) ?_
 clear hF hS; intro a w hF hS
 refine wpl_or 8 16 2 hF hS rfl rfl rfl rfl rfl (fun hg => have hg := hg; sq_go 16 rfl rfl rfl (q_move rfl) <|
   sq_go 16 rfl rfl rfl (q_gti rfl rfl) <|
   sq_end) rfl rfl ?_
 clear hF hS; intro a w hF hS
 refine wpList_nil ?_
 refine hK3 _ _ ?_
 clear hK3
 refine wp_if hF rfl (fun hc1 => ?_) (fun hc1 => ?_)
 ·(try simp only [Bool.or_eq_true, Bool.and_eq_true, Bool.or_eq_false_iff, Bool.and_eq_false_iff, decide_eq_true_eq, decide_eq_false_iff_not, Bool.not_eq_true', Bool.not_eq_false'] at hc1)
  refine wp_seq_k ?_; intro K4 hK4
  refine reg hF hS (sq rfl (q_assign rfl) <|
    sq_end) ?_
  clear hF hS; intro a w hF hS
  refine hK4 _ _ ?_
  clear hK4
  refine wp_ret ?_
  exact fn_retx (rs := [.tmp 6]) rfl hF hS (vs := [_]) ⟨rfl, trivial⟩ [] [_, _] sQ sQ (Dk.rdr_of (S := S) ⟨rfl, rfl, rfl⟩ (by rw [Dk.rot_no (Dk.rno hc1)]) (by rw [Dk.rot_no (Dk.rno hc1)]))
 ·(try simp only [Bool.or_eq_true, Bool.and_eq_true, Bool.or_eq_false_iff, Bool.and_eq_false_iff, decide_eq_true_eq, decide_eq_false_iff_not, Bool.not_eq_true', Bool.not_eq_false'] at hc1)
  have hir : 0 ≤ i ∧ i < S.s.length := by have := hc1.1.1; simpa using this
  have hbr : 0 ≤ b ∧ b < 512 := by omega
  have htx : (S.s.getD i.toNat Dk.s0).tx.length = 64 := (hO.at hir).1
  refine wp_skip ?_
  refine hK2 _ _ ?_
  clear hK2
  refine wp_seq_k ?_; intro K5 hK5
  refine regl ?_
  refine wpl_sq hF hS (sq rfl (q_move rfl) <|
    sq rfl (q_nilCheck rfl) <|
    sq rfl (q_fieldAddr ty80 rfl rfl (s' := 0) kQ) <|
    sq rfl (q_ld_blk1 ty78 0 rfl rfl rfl rfl) <|
    sq rfl (q_move rfl) <|
    sq rfl (q_idx_row ty78 ty83 1 rfl rfl rfl (by omega)) <|
    sq rfl (q_fld_row ty83 1 rfl rfl (by omega) rfl (s' := 0) kQ) <|
    sq rfl (q_ld_rowK1 Dk.secC_len Dk.s0 ty9 1 rfl rfl rfl (by omega) (by decide) rfl) <|
    sq_end) ?_
  clear hF hS; intro a w hF hS
  refine wpl_ef hF hS rfl (ef_s2bW ty9 ty81 ty5 rfl (by omega)) ?_
  clear hF hS; rintro _ _ _ a w ⟨bb, cp, rfl, rfl, rfl, hcp, hdz⟩ hF hS
  have hsl := bob_sl (e := 5) (b := bb) hcp (by omega)
  replace hS : St _ (_ :: _) (_ :: _ :: _) _ := hS
  refine wpl_sq hF hS (sq rfl (q_assign rfl) <|
    sq_end) ?_
  clear hF hS; intro a w hF hS
  refine wpList_nil ?_
  refine hK5 _ _ ?_
  clear hK5
  refine wp_seq_k ?_; intro K6 hK6
  refine regt 13 mixed kQ hF hS (sq rfl (q_move rfl) <|
    sq rfl (q_move rfl) <|
    sq rfl (q_quoi rfl rfl (by omega)) <|
    sq rfl (q_move rfl) <|
    sq rfl (q_move rfl) <|
    sq rfl (q_quoi rfl rfl (by omega)) <|
    sq rfl (q_idx_sl ty81 ty5 hsl rfl rfl (by omega)) <|
    sq rfl (q_ld_B ty5 hsl (.inr (by simp)) rfl rfl (by omega)) <|
    sq rfl (q_move rfl) <|
    sq rfl (q_remi rfl rfl (by omega)) <|
    sq rfl (q_shlb (p := 1) rfl rfl (by omega)) <|
    sq rfl (q_xorb rfl rfl) <|
    sq rfl (q_idx_sl ty81 ty5 hsl rfl rfl (by omega)) <|
    sq_end) ?_
  clear hF hS; intro a w hF hS
  refine wpl_ef hF hS rfl (ef_st_bob (ub := (S.s.getD i.toNat Dk.s0).tx.getD (b / 8).toNat 0 ^^^ Dk.bitv b) ty5 rfl rfl (by omega) hdz) ?_
  clear hF hS; rintro _ _ _ a w ⟨rfl, rfl, rfl⟩ hF hS
  have hsl2 : Sl Go.Fw.encB (ph1 bb (bob 5 (List.set (S.s.getD i.toNat Dk.s0).tx (b / 8).toNat ((S.s.getD i.toNat Dk.s0).tx.getD (b / 8).toNat 0 ^^^ Dk.bitv b)) cp)) (.slice (some ⟨bb, 0, none⟩) (S.s.getD i.toNat Dk.s0).tx.length cp) (List.set (S.s.getD i.toNat Dk.s0).tx (b / 8).toNat ((S.s.getD i.toNat Dk.s0).tx.getD (b / 8).toNat 0 ^^^ Dk.bitv b)) := by
   have h9 := bob_sl (e := 5) (b := bb) (cap := cp) (l := (List.set (S.s.getD i.toNat Dk.s0).tx (b / 8).toNat ((S.s.getD i.toNat Dk.s0).tx.getD (b / 8).toNat 0 ^^^ Dk.bitv b))) (by rw [List.length_set]; exact hcp) (by rw [List.length_set]; omega)
   rw [List.length_set] at h9
   exact h9
  replace hS : St _ (_ :: _) (_ :: _ :: _) _ := hS
  refine wpList_nil ?_
  refine hK6 _ _ ?_
  clear hK6
  refine wp_seq_k ?_; intro K7 hK7
  refine regt 9 mixed kQ hF hS (sq rfl (q_move rfl) <|
    sq rfl (q_nilCheck rfl) <|
    sq rfl (q_fieldAddr ty80 rfl rfl (s' := 0) kQ) <|
    sq rfl (q_ld_blk1 ty78 0 rfl rfl rfl rfl) <|
    sq rfl (q_move rfl) <|
    sq rfl (q_move rfl) <|
    sq rfl (q_b2s_sl ty81 ty9 ty5 hsl2 (.inr (by simp [Dk.bitv])) rfl) <|
    sq rfl (q_idx_row ty78 ty83 1 rfl rfl rfl (by omega)) <|
    sq rfl (q_fld_row ty83 1 rfl rfl (by omega) rfl (s' := 0) kQ) <|
    sq_end) ?_
  clear hF hS; intro a w hF hS
  refine wpl_ef hF hS rfl (ef_st_rowK (x' := ⟨Dk.flip (S.at i).tx b, (S.at i).nx, (S.at i).dt, (S.at i).wn⟩) Dk.secC_len ty9 1 rfl rfl rfl (Dk.at_some (S := S) hir) (by decide) rfl rfl) ?_
  clear hF hS; rintro _ _ _ a w ⟨rfl, rfl, rfl⟩ hF hS
  replace hS : St _ (_ :: _) (_ :: _ :: _) _ := hS
  refine wpList_nil ?_
  refine hK7 _ _ ?_
  clear hK7
  refine wp_seq_k ?_; intro K8 hK8
  refine reg hF hS (sq rfl (q_assign rfl) <|
    sq_end) ?_
  clear hF hS; intro a w hF hS
  refine hK8 _ _ ?_
  clear hK8
  refine wp_ret ?_
  exact fn_retx (rs := [.tmp 6]) rfl hF hS (vs := [_]) ⟨rfl, trivial⟩ [] [_, _] (sQ.n) sQ (Dk.rdr_of (S := S.put i ⟨Dk.flip (S.at i).tx b, (S.at i).nx, (S.at i).dt, (S.at i).wn⟩) ⟨rfl, rfl, by exact congrArg (fun r => [_, r]) Dk.rw_set1⟩ (by rw [Dk.rot_ok hir hbr]) (by rw [Dk.rot_ok hir hbr]))

set_option maxRecDepth 4000 in
set_option maxHeartbeats 2000000 in
theorem rwear_ct {b : Nat} {v : Value} {S : Dk.Dsk} (i : Int) (w0 : World) (zsr : List PH) (hO : Dk.Ok S) : Cx Tryz.prog 35 [.pointer (some ⟨b, 0, none⟩), vi i] w0 zsr [RRB b v S, RRW v S] (RRD b v ((Dk.wear S i).1) (vi (Dk.wear S i).2)) := by
 refine fn_enterx Tryz.func35 rfl Tryz.ntmps35 (Nat.le_of_ble_eq_true rfl) fun hsr a w hF hS => ?_
 replace hS : St _ (_) (_ :: _ :: _) _ := hS
 have hlo := hO.lo
 have hhi := hO.hi
 have hlf := hO.lf
 have hlg := hO.lf2
 refine wp_seq_k ?_; intro K1 hK1
 refine reg hF hS (sq rfl (q_assign rfl) <|
   sq_end) ?_
 clear hF hS; intro a w hF hS
 refine hK1 _ _ ?_
 clear hK1
 refine wp_seq_k ?_; intro K2 hK2
 refine wp_seq_k ?_; intro K3 hK3
 refine regl ?_
 refine wpl_sq hF hS (sq rfl (q_move rfl) <|
   sq rfl (q_move rfl) <|
   sq_end) ?_
 clear hF hS; intro a w hF hS
 refine wpl_ef hF hS rfl (ef_callx fn45 rfl (List.Perm.refl _) (by exact (ris_ct _ _ _  (by first | assumption | exact Dk.ok_step (by assumption) | exact Dk.rst_ok (by assumption) _ _) (S := S) (v := v)))) ?_
 clear hF hS; rintro _ _ _ a w ⟨_, _, rfl, rfl, ⟨rfl, rfl, rfl⟩⟩ hF hS
 replace hS : St _ (_) (_ :: _ :: _) _ := hS
 refine wpl_sq hF hS (sq rfl (q_not rfl) <|
   sq_end) ?_
 clear hF hS; intro a w hF hS
 refine wpList_nil ?_
 refine hK3 _ _ ?_
 clear hK3
 refine wp_if hF rfl (fun hc1 => ?_) (fun hc1 => ?_)
 ·refine wp_seq_k ?_; intro K4 hK4
  refine reg hF hS (sq rfl (q_assign rfl) <|
    sq_end) ?_
  clear hF hS; intro a w hF hS
  refine hK4 _ _ ?_
  clear hK4
  refine wp_ret ?_
  exact fn_retx (rs := [.tmp 4]) rfl hF hS (vs := [_]) ⟨rfl, trivial⟩ [] [_, _] sQ sQ (Dk.rdr_of (S := S) ⟨rfl, rfl, rfl⟩ (by rw [Dk.wear_no (by have := hc1; simp at this; omega)]) (by rw [Dk.wear_no (by have := hc1; simp at this; omega)]))
 ·have hir : 0 ≤ i ∧ i < S.s.length := by simpa using hc1
  refine wp_skip ?_
  refine hK2 _ _ ?_
  clear hK2
  refine wp_seq_k ?_; intro K5 hK5
  refine regl ?_
  refine wpl_sq hF hS (sq rfl (q_move rfl) <|
    sq rfl (q_nilCheck rfl) <|
    sq rfl (q_fieldAddr ty80 rfl rfl (s' := 0) kQ) <|
    sq rfl (q_ld_blk1 ty78 0 rfl rfl rfl rfl) <|
    sq rfl (q_move rfl) <|
    sq rfl (q_idx_row ty78 ty83 1 rfl rfl rfl (by omega)) <|
    sq rfl (q_fld_row ty83 1 rfl rfl (by omega) rfl (s' := 0) kQ) <|
    sq_end) ?_
  clear hF hS; intro a w hF hS
  refine wpl_ef hF hS rfl (ef_st_rowK (x' := ⟨(S.at i).tx, (S.at i).nx, (S.at i).dt, true⟩) Dk.secC_len ty4 1 rfl rfl rfl (Dk.at_some (S := S) hir) (by decide) rfl rfl) ?_
  clear hF hS; rintro _ _ _ a w ⟨rfl, rfl, rfl⟩ hF hS
  replace hS : St _ (_) (_ :: _ :: _) _ := hS
  refine wpList_nil ?_
  refine hK5 _ _ ?_
  clear hK5
  refine wp_seq_k ?_; intro K6 hK6
  refine reg hF hS (sq rfl (q_assign rfl) <|
    sq_end) ?_
  clear hF hS; intro a w hF hS
  refine hK6 _ _ ?_
  clear hK6
  refine wp_ret ?_
  exact fn_retx (rs := [.tmp 4]) rfl hF hS (vs := [_]) ⟨rfl, trivial⟩ [] [_, _] sQ sQ (Dk.rdr_of (S := S.put i ⟨(S.at i).tx, (S.at i).nx, (S.at i).dt, true⟩) ⟨rfl, rfl, by exact congrArg (fun r => [_, r]) Dk.rw_set1⟩ (by rw [Dk.wear_ok hir]) (by rw [Dk.wear_ok hir]))

set_option maxRecDepth 4000 in
set_option maxHeartbeats 2000000 in
theorem rflush_ct {b : Nat} {v : Value} {S : Dk.Dsk} (w0 : World) (zsr : List PH) (hO : Dk.Ok S) : Cx Tryz.prog 66 [.pointer (some ⟨b, 0, none⟩)] w0 zsr [RRB b v S, RRW v S] (RRD b v ((Dk.flush S).1) (vi (Dk.flush S).2)) := by
 refine fn_enterx Tryz.func66 rfl Tryz.ntmps66 (Nat.le_of_ble_eq_true rfl) fun hsr a w hF hS => ?_
 replace hS : St _ (_) (_ :: _ :: _) _ := hS
 have hlo := hO.lo
 have hhi := hO.hi
 have hlf := hO.lf
 have hlg := hO.lf2
 refine wp_seq_k ?_; intro K1 hK1
 refine reg hF hS (sq rfl (q_assign rfl) <|
   sq_end) ?_
 clear hF hS; intro a w hF hS
 refine hK1 _ _ ?_
 clear hK1
 refine wp_seq_k ?_; intro K2 hK2
 refine wp_seq_k ?_; intro K3 hK3
 refine reg hF hS (sq rfl (q_move rfl) <|
   sq rfl (q_nilCheck rfl) <|
   sq rfl (q_fieldAddr ty80 rfl rfl (s' := 0) kQ) <|
   sq rfl (q_ld_blk1 ty4 0 rfl rfl rfl rfl) <|
   sq_end) ?_
 clear hF hS; intro a w hF hS
 refine hK3 _ _ ?_
 clear hK3
 refine wp_if hF rfl (fun hc1 => ?_) (fun hc1 => ?_)
 ·refine wp_seq_k ?_; intro K4 hK4
  refine reg hF hS (sq rfl (q_assign rfl) <|
    sq_end) ?_
  clear hF hS; intro a w hF hS
  refine hK4 _ _ ?_
  clear hK4
  refine wp_ret ?_
  exact fn_retx (rs := [.tmp 2]) rfl hF hS (vs := [_]) ⟨rfl, trivial⟩ [] [_, _] sQ sQ (Dk.rdr_of (S := S) ⟨rfl, rfl, rfl⟩ (by rw [Dk.flush_1 hc1]) (by rw [Dk.flush_1 hc1]))
 ·refine wp_skip ?_
  refine hK2 _ _ ?_
  clear hK2
  refine wp_seq_k ?_; intro K5 hK5
  refine regl ?_
  refine wpl_sq hF hS (sq rfl (q_move rfl) <|
    sq_end) ?_
  clear hF hS; intro a w hF hS
  refine wpl_ef hF hS rfl (ef_callx fn46 rfl (List.Perm.refl _) (by exact (rstep_ct _ _  (by first | assumption | exact Dk.ok_step (by assumption) | exact Dk.rst_ok (by assumption) _ _) (S := S) (v := v)))) ?_
  clear hF hS; rintro _ _ _ a w ⟨_, _, rfl, rfl, ⟨rfl, rfl, rfl⟩⟩ hF hS
  replace hS : St _ (_) (_ :: _ :: _) _ := hS
  refine wpl_sq hF hS (sq rfl (q_assign rfl) <|
    sq_end) ?_
  clear hF hS; intro a w hF hS
  refine wpList_nil ?_
  refine hK5 _ _ ?_
  clear hK5
  refine wp_seq_k ?_; intro K6 hK6
  refine wp_seq_k ?_; intro K7 hK7
  refine reg hF hS (sq rfl (q_move rfl) <|
    sq rfl (q_nei rfl rfl) <|
    sq_end) ?_
  clear hF hS; intro a w hF hS
  refine hK7 _ _ ?_
  clear hK7
  refine wp_ifn hF rfl (fun hc2 => ?_) (fun hc2 => ?_)
  ·refine wp_seq_k ?_; intro K8 hK8
   refine reg hF hS (sq rfl (q_move rfl) <|
     sq rfl (q_assign rfl) <|
     sq_end) ?_
   clear hF hS; intro a w hF hS
   refine hK8 _ _ ?_
   clear hK8
   refine wp_ret ?_
   exact fn_retx (rs := [.tmp 2]) rfl hF hS (vs := [_]) ⟨rfl, trivial⟩ [] [_, _] sQ sQ (Dk.rdr_of (S := (Dk.step S).1) ⟨rfl, rfl, rfl⟩ (by rw [Dk.flush_2 hc1 hc2]) (by rw [Dk.flush_2 hc1 hc2]))
  ·have hs0 : (Dk.step S).2 = 0 := by omega
   have hO1 := Dk.ok_step hO
   refine wp_skip ?_
   refine hK6 _ _ ?_
   clear hK6
   refine wp_seq_k ?_; intro K9 hK9
   refine wp_seq_k ?_; intro K10 hK10
   refine reg hF hS (sq rfl (q_assign rfl) <|
     sq_end) ?_
   clear hF hS; intro a w hF hS
   refine hK10 _ _ ?_
   clear hK10
   refine wp_block ?_
   obtain ⟨hs0, hhs0, hS⟩ : ∃ h, h = _ ∧ St _ _ h _ := ⟨_, rfl, hS⟩
   refine wp_loopx (γ := Nat) (0) (fun (i : Nat) => [(4, vi (i : Int))]) [(0, _)] (fun (i : Nat) => ((hs0.set 0 (RRB b v (Dk.rst (Dk.step S).1 [] i))).set 1 (RRW v (Dk.rst (Dk.step S).1 [] i)))) (fun (i : Nat) => i ≤ (Dk.step S).1.s.length) (fun (i : Nat) => (Dk.step S).1.s.length - i) (hF.sub ⟨rfl, rfl, trivial⟩) (by subst hhs0; (try dsimp only); rw [Dk.rst_0]; exact hS) (by exact Nat.zero_le _) ?_
   clear hF hS; rintro i a w hfact hF hS
   subst hhs0; (try dsimp only at hfact); (try dsimp only at hF); (try dsimp only at hS)
   have hi0 := hfact
   have hrl := Dk.rst_len (Dk.step S).1 [] i
   have hO9 := Dk.rst_ok hO1 [] i
   have hhs := hO1.hi
   replace hS : St _ (_) (_ :: _ :: _) _ := hS
   refine wp_seq_k ?_; intro K11 hK11
   refine wp_seq_k ?_; intro K12 hK12
   refine reg hF hS (sq rfl (q_move rfl) <|
     sq rfl (q_move rfl) <|
     sq rfl (q_nilCheck rfl) <|
     sq rfl (q_fieldAddr ty80 rfl rfl (s' := 0) kQ) <|
     sq rfl (q_ld_blk1 ty78 0 rfl rfl rfl rfl) <|
     sq rfl (q_len_row ty78 1 rfl rfl) <|
     sq rfl (q_lti rfl rfl) <|
     sq_end) ?_
   clear hF hS; intro a w hF hS
   refine hK12 _ _ ?_
   clear hK12
   refine wp_ifd hF rfl (fun hc3 => ?_) (fun hc3 => ?_)
   ·refine wp_skip ?_
    refine hK11 _ _ ?_
    clear hK11
    refine wp_seq_k ?_; intro K13 hK13
    refine wp_block ?_
    refine wp_seq_k ?_; intro K14 hK14
    refine reg hF hS (sq rfl (q_move rfl) <|
      sq rfl (q_nilCheck rfl) <|
      sq rfl (q_fieldAddr ty80 rfl rfl (s' := 0) kQ) <|
      sq rfl (q_ld_blk1 ty78 0 rfl rfl rfl rfl) <|
      sq rfl (q_move rfl) <|
      sq rfl (q_idx_row ty78 ty83 1 rfl rfl rfl (by omega)) <|
      sq rfl (q_fld_row ty83 1 rfl rfl (by omega) rfl (s' := 0) kQ) <|
      sq rfl (q_ld_rowK1 Dk.secC_len Dk.s0 ty4 1 rfl rfl rfl (by omega) (by decide) rfl) <|
      sq_end) ?_
    clear hF hS; intro a w hF hS
    refine hK14 _ _ ?_
    clear hK14
    refine wp_if hF rfl (fun hc4 => ?_) (fun hc4 => ?_)
    ·have hd8 : ((Dk.rst (Dk.step S).1 [] i).at (i : Int)).dt = true := hc4
     have hd9 := hd8
     rw [Dk.rst_at _ _ (by omega)] at hd9
     have hry : (Dk.rst (Dk.step S).1 [] i).put (i : Int) (Dk.settle1 ((Dk.rst (Dk.step S).1 [] i).at (i : Int)) (64)) = Dk.rst (Dk.step S).1 [] (i + 1) := Dk.rst_yes (Dk.step S).1 [] (by omega) hd9
     refine regl ?_
     refine wpl_sq hF hS (sq rfl (q_move rfl) <|
       sq rfl (q_move rfl) <|
       sq_end) ?_
     clear hF hS; intro a w hF hS
     refine wpl_ef hF hS rfl (ef_callx fn67 rfl (List.Perm.refl _) (by exact (rsettle_ct _ _ (by first | assumption | omega) (by assumption) _ _  (by first | assumption | exact Dk.ok_step (by assumption) | exact Dk.rst_ok (by assumption) _ _) (S := (Dk.rst (Dk.step S).1 [] i)) (v := v)))) ?_
     clear hF hS; rintro _ _ _ a w ⟨_, _, rfl, rfl, ⟨rfl, rfl, rfl⟩⟩ hF hS
     replace hS : St _ (_) (_ :: _ :: _) _ := hS
     refine wpList_nil ?_
     refine hK13 _ _ ?_
     clear hK13
     refine reg hF hS (sq rfl (q_move rfl) <|
       sq rfl (q_addi rfl rfl (by omega)) <|
       sq rfl (q_assign rfl) <|
       sq_end) ?_
     clear hF hS; intro a w hF hS
     refine ⟨(i + 1), ?_, ?_, hF.sub ⟨rfl, rfl, trivial⟩, ?_⟩
     ·(try dsimp only); omega
     ·omega
     ·rw [hry] at hS
      exact hS
    ·have hd8 : ((Dk.rst (Dk.step S).1 [] i).at (i : Int)).dt = false := hc4
     have hd9 := hd8
     rw [Dk.rst_at _ _ (by omega)] at hd9
     have hrn := Dk.rst_no (Dk.step S).1 [] (by omega) hd9
     refine wp_skip ?_
     refine hK13 _ _ ?_
     clear hK13
     refine reg hF hS (sq rfl (q_move rfl) <|
       sq rfl (q_addi rfl rfl (by omega)) <|
       sq rfl (q_assign rfl) <|
       sq_end) ?_
     clear hF hS; intro a w hF hS
     refine ⟨(i + 1), ?_, ?_, hF.sub ⟨rfl, rfl, trivial⟩, ?_⟩
     ·(try dsimp only); omega
     ·omega
     ·rw [← hrn]; exact hS
   ·refine wp_exit ?_
    refine hK9 _ _ ?_
    clear hK9
    refine wp_seq_k ?_; intro K15 hK15
    refine reg hF hS (sq rfl (q_assign rfl) <|
      sq_end) ?_
    clear hF hS; intro a w hF hS
    refine hK15 _ _ ?_
    clear hK15
    refine wp_ret ?_
    exact fn_retx (rs := [.tmp 2]) rfl hF hS (vs := [_]) ⟨rfl, trivial⟩ [] [_, _] sQ sQ (Dk.rdr_of (S := Dk.rst (Dk.step S).1 [] i) ⟨rfl, rfl, rfl⟩ (by rw [Dk.flush_r hc1 hs0 (i := i) (by omega)]) (by rw [Dk.flush_r hc1 hs0 (i := i) (by omega)]))

set_option maxRecDepth 4000 in
set_option maxHeartbeats 2000000 in
theorem rmount_ct {b : Nat} {v : Value} {S : Dk.Dsk} (pv : Value) (ps : List Int) (w0 : World) (zsr : List PH) (z : PH) (hps : Sl Go.Fw.encI z pv ps) (hz : ZIn w0 zsr z) (hO : Dk.Ok S) : Cx Tryz.prog 32 [.pointer (some ⟨b, 0, none⟩), pv] w0 zsr [RRB b v S, RRW v S] (RRD b v (Dk.mount S ps) (.tuple ([] : List Value).toArray)) := by
 refine fn_enterx Tryz.func32 rfl Tryz.ntmps32 (Nat.le_of_ble_eq_true rfl) fun hsr a w hF hS => ?_
 replace hS : St _ (_) (_ :: _ :: _) _ := hS
 have hlo := hO.lo
 have hhi := hO.hi
 have hlf := hO.lf
 have hlg := hO.lf2
 have hpr := sl_rng hps
 have hpl := hps.1
 have hO1 := hO
 refine wp_seq_k ?_; intro K1 hK1
 refine reg hF hS (sq rfl (q_assign rfl) <|
   sq_end) ?_
 clear hF hS; intro a w hF hS
 refine hK1 _ _ ?_
 clear hK1
 refine wp_seq_k ?_; intro K2 hK2
 refine wp_seq_k ?_; intro K3 hK3
 refine reg hF hS (sq rfl (q_assign rfl) <|
   sq_end) ?_
 clear hF hS; intro a w hF hS
 refine hK3 _ _ ?_
 clear hK3
 refine wp_block ?_
 obtain ⟨hs0, hhs0, hS⟩ : ∃ h, h = _ ∧ St _ _ h _ := ⟨_, rfl, hS⟩
 refine wp_loopx (γ := Nat) (0) (fun (i : Nat) => [(4, vi (Dk.cnt S i : Int)), (5, vi (i : Int))]) [(0, _), (1, _)] (fun (i : Nat) => ((hs0.set 0 (RRB b v (Dk.rst S ps i))).set 1 (RRW v (Dk.rst S ps i)))) (fun (i : Nat) => i ≤ S.s.length) (fun (i : Nat) => S.s.length - i) (hF.sub ⟨rfl, rfl, rfl, rfl, trivial⟩) (by subst hhs0; (try dsimp only); rw [Dk.rst_0]; exact hS) (by exact Nat.zero_le _) ?_
 clear hF hS; rintro i a w hfact hF hS
 subst hhs0; (try dsimp only at hfact); (try dsimp only at hF); (try dsimp only at hS)
 have hi0 := hfact
 have hrl := Dk.rst_len S ps i
 have hO9 := Dk.rst_ok hO1 ps i
 have hhs := hO1.hi
 replace hS : St _ (_) (_ :: _ :: _) _ := hS
 have hcl := Dk.cnt_le S i
 refine wp_seq_k ?_; intro K4 hK4
 refine wp_seq_k ?_; intro K5 hK5
 refine reg hF hS (sq rfl (q_move rfl) <|
   sq rfl (q_move rfl) <|
   sq rfl (q_nilCheck rfl) <|
   sq rfl (q_fieldAddr ty80 rfl rfl (s' := 0) kQ) <|
   sq rfl (q_ld_blk1 ty78 0 rfl rfl rfl rfl) <|
   sq rfl (q_len_row ty78 1 rfl rfl) <|
   sq rfl (q_lti rfl rfl) <|
   sq_end) ?_
 clear hF hS; intro a w hF hS
 refine hK5 _ _ ?_
 clear hK5
 refine wp_ifd hF rfl (fun hc1 => ?_) (fun hc1 => ?_)
 ·refine wp_skip ?_
  refine hK4 _ _ ?_
  clear hK4
  refine wp_seq_k ?_; intro K6 hK6
  refine wp_block ?_
  refine wp_seq_k ?_; intro K7 hK7
  refine wp_seq_k ?_; intro K8 hK8
  refine reg hF hS (sq rfl (q_move rfl) <|
    sq rfl (q_nilCheck rfl) <|
    sq rfl (q_fieldAddr ty80 rfl rfl (s' := 0) kQ) <|
    sq rfl (q_ld_blk1 ty78 0 rfl rfl rfl rfl) <|
    sq rfl (q_move rfl) <|
    sq rfl (q_idx_row ty78 ty83 1 rfl rfl rfl (by omega)) <|
    sq rfl (q_fld_row ty83 1 rfl rfl (by omega) rfl (s' := 0) kQ) <|
    sq rfl (q_ld_rowK1 Dk.secC_len Dk.s0 ty4 1 rfl rfl rfl (by omega) (by decide) rfl) <|
    sq rfl (q_not rfl) <|
    sq_end) ?_
  clear hF hS; intro a w hF hS
  refine hK8 _ _ ?_
  clear hK8
  refine wp_if hF rfl (fun hc2 => ?_) (fun hc2 => ?_)
  ·have hd8 : ((Dk.rst S ps i).at (i : Int)).dt = false := Dk.notT hc2
   have hd9 := hd8
   rw [Dk.rst_at _ _ (by omega)] at hd9
   have hrn := Dk.rst_no S ps (by omega) hd9
   refine wp_exit ?_
   refine hK6 _ _ ?_
   clear hK6
   refine reg hF hS (sq rfl (q_move rfl) <|
     sq rfl (q_addi rfl rfl (by omega)) <|
     sq rfl (q_assign rfl) <|
     sq_end) ?_
   clear hF hS; intro a w hF hS
   refine ⟨(i + 1), ?_, ?_, hF.sub ⟨(by show some (vi _) = some (vi _); rw [Dk.cnt_1 S (by omega), if_neg (by rw [hd9]; simp)]), rfl, rfl, rfl, trivial⟩, ?_⟩
   ·(try dsimp only); omega
   ·omega
   ·rw [← hrn]; exact hS
  ·have hd8 : ((Dk.rst S ps i).at (i : Int)).dt = true := Dk.notF hc2
   have hd9 := hd8
   rw [Dk.rst_at _ _ (by omega)] at hd9
   have hry : (Dk.rst S ps i).put (i : Int) (Dk.settle1 ((Dk.rst S ps i).at (i : Int)) (Dk.pk ps (Dk.cnt S i))) = Dk.rst S ps (i + 1) := Dk.rst_yes S ps (by omega) hd9
   refine wp_skip ?_
   refine hK7 _ _ ?_
   clear hK7
   refine wp_seq_k ?_; intro K9 hK9
   refine reg hF hS (sq rfl (q_assign rfl) <|
     sq_end) ?_
   clear hF hS; intro a w hF hS
   refine hK9 _ _ ?_
   clear hK9
   obtain ⟨hs0, hhs0, hS⟩ : ∃ h, h = _ ∧ St _ _ h _ := ⟨_, rfl, hS⟩
   refine wp_cutx (γ := Int) (fun (p : Int) => [(6, vi p)]) [(0, _), (1, _), (4, _), (5, _)] (fun (p : Int) => hs0) (fun (p : Int) => p = Dk.pk ps (Dk.cnt S i)) (hF.sub ⟨rfl, rfl, rfl, rfl, trivial⟩) hS ?_ ?_
   ·subst hhs0
    refine wp_seq_k ?_; intro K10 hK10
    refine reg hF hS (sq rfl (q_move rfl) <|
      sq rfl (q_move rfl) <|
      sq rfl (q_len_sl ty51 hps rfl) <|
      sq rfl (q_lti rfl rfl) <|
      sq_end) ?_
    clear hF hS; intro a w hF hS
    refine hK10 _ _ ?_
    clear hK10
    refine wp_ifd hF rfl (fun hc3 => ?_) (fun hc3 => ?_)
    ·refine reg hF hS (sq rfl (q_move rfl) <|
       sq rfl (q_move rfl) <|
       sq rfl (q_idx_sl ty51 ty3 hps rfl rfl (by omega)) <|
       sq rfl (q_ld_I ty3 hps hz rfl rfl (by omega)) <|
       sq rfl (q_assign rfl) <|
       sq_end) ?_
     clear hF hS; intro a w hF hS
     refine ⟨((ps.getD ((Dk.cnt S i : Int)).toNat 0)), ?_, hF.sub ⟨rfl, rfl, rfl, rfl, rfl, trivial⟩, ?_⟩
     ·rw [Int.toNat_natCast]; exact (Dk.pk_1 (by omega)).symm
     ·exact hS
    ·refine wp_skip ?_
     refine ⟨(64), ?_, hF.sub ⟨rfl, rfl, rfl, rfl, rfl, trivial⟩, ?_⟩
     ·exact (Dk.pk_2 (by omega)).symm
     ·exact hS
   clear hF hS; rintro p a w hfact hF hS
   subst hhs0; (try dsimp only at hfact); (try dsimp only at hF); (try dsimp only at hS)
   have hpk := hfact
   replace hS : St _ (_) (_ :: _ :: _) _ := hS
   subst hpk
   refine wp_seq_k ?_; intro K11 hK11
   refine regl ?_
   refine wpl_sq hF hS (sq rfl (q_move rfl) <|
     sq rfl (q_move rfl) <|
     sq rfl (q_move rfl) <|
     sq_end) ?_
   clear hF hS; intro a w hF hS
   refine wpl_ef hF hS rfl (ef_callx fn67 rfl (List.Perm.refl _) (by exact (rsettle_ct _ _ (by first | assumption | omega) (by assumption) _ _  (by first | assumption | exact Dk.ok_step (by assumption) | exact Dk.rst_ok (by assumption) _ _) (S := (Dk.rst S ps i)) (v := v)))) ?_
   clear hF hS; rintro _ _ _ a w ⟨_, _, rfl, rfl, ⟨rfl, rfl, rfl⟩⟩ hF hS
   replace hS : St _ (_) (_ :: _ :: _) _ := hS
   refine wpList_nil ?_
   refine hK11 _ _ ?_
   clear hK11
   refine reg hF hS (sq rfl (q_move rfl) <|
     sq rfl (q_addi rfl rfl (by omega)) <|
     sq rfl (q_assign rfl) <|
     sq_end) ?_
   clear hF hS; intro a w hF hS
   refine hK6 _ _ ?_
   clear hK6
   refine reg hF hS (sq rfl (q_move rfl) <|
     sq rfl (q_addi rfl rfl (by omega)) <|
     sq rfl (q_assign rfl) <|
     sq_end) ?_
   clear hF hS; intro a w hF hS
   refine ⟨(i + 1), ?_, ?_, hF.sub ⟨(by show some (vi _) = some (vi _); rw [Dk.cnt_1 S (by omega), if_pos hd9]; rfl), rfl, rfl, rfl, trivial⟩, ?_⟩
   ·(try dsimp only); omega
   ·omega
   ·rw [hry] at hS
    exact hS
 ·refine wp_exit ?_
  refine hK2 _ _ ?_
  clear hK2
  refine wp_seq_k ?_; intro K12 hK12
  refine regl ?_
  refine wpl_sq hF hS (sq rfl (q_move rfl) <|
    sq rfl (q_nilCheck rfl) <|
    sq rfl (q_fieldAddr ty80 rfl rfl (s' := 0) kQ) <|
    sq_end) ?_
  clear hF hS; intro a w hF hS
  refine wpl_ef hF hS rfl (ef_store1 ty4 0 rfl rfl rfl rfl (by simp)) ?_
  clear hF hS; rintro _ _ _ a w ⟨rfl, rfl, rfl⟩ hF hS
  replace hS : St _ (_) (.blk _ _ ([_, _, _].set 1 _) :: _ :: _) _ := hS
  simp only [List.set_cons_zero, List.set_cons_succ] at hS
  replace hS : St _ (_) (_ :: _ :: _) _ := hS
  refine wpList_nil ?_
  refine hK12 _ _ ?_
  clear hK12
  refine regl ?_
  refine wpl_sq hF hS (sq rfl (q_move rfl) <|
    sq rfl (q_nilCheck rfl) <|
    sq rfl (q_fieldAddr ty80 rfl rfl (s' := 0) kQ) <|
    sq_end) ?_
  clear hF hS; intro a w hF hS
  refine wpl_ef hF hS rfl (ef_store1 ty3 0 rfl rfl rfl rfl (by simp)) ?_
  clear hF hS; rintro _ _ _ a w ⟨rfl, rfl, rfl⟩ hF hS
  replace hS : St _ (_) (.blk _ _ ([_, _, _].set 2 _) :: _ :: _) _ := hS
  simp only [List.set_cons_zero, List.set_cons_succ] at hS
  replace hS : St _ (_) (_ :: _ :: _) _ := hS
  refine wpList_nil ?_
  -- falls off the end
  exact fn_retx (rs := []) rfl hF hS (vs := []) trivial [] [_, _] sQ sQ (Dk.rdr_of (S := ⟨(Dk.rst S ps i).s, false, -1⟩) ⟨rfl, rfl, rfl⟩ (Dk.mount_r S ps (by omega)) (rfl))
end Go.Proofs.YtibbhobfdbfkkaaGreatDoor
end

section
namespace Go.Proofs.YtibbhobfdbfkkaaGreatDoor
open Go.Fw


set_option maxRecDepth 4000 in
set_option maxHeartbeats 2000000 in
theorem rimage_ct {b : Nat} {v : Value} {S : Dk.Dsk} (w0 : World) (zsr : List PH) (hO : Dk.Ok S) : Cx Tryz.prog 36 [.pointer (some ⟨b, 0, none⟩)] w0 zsr [RRB b v S, RRW v S] (RRDs b v S (Dk.image S).length ((Dk.image S).map vs)) := by
 refine fn_enterx Tryz.func36 rfl Tryz.ntmps36 (Nat.le_of_ble_eq_true rfl) fun hsr a w hF hS => ?_
 replace hS : St _ (_) (_ :: _ :: _) _ := hS
 have hlo := hO.lo
 have hhi := hO.hi
 have hlf := hO.lf
 have hlg := hO.lf2
 refine wp_seq_k ?_; intro K1 hK1
 refine reg hF hS (sq rfl (q_assign rfl) <|
   sq_end) ?_
 clear hF hS; intro a w hF hS
 refine hK1 _ _ ?_
 clear hK1
 refine wp_seq_k ?_; intro K2 hK2
 refine reg hF hS (sq rfl (q_assign rfl) <|
   sq_end) ?_
 clear hF hS; intro a w hF hS
 replace hS := hS.nilRow 9 1
 refine hK2 _ _ ?_
 clear hK2
 refine wp_seq_k ?_; intro K3 hK3
 refine wp_seq_k ?_; intro K4 hK4
 refine reg hF hS (sq rfl (q_assign rfl) <|
   sq_end) ?_
 clear hF hS; intro a w hF hS
 refine hK4 _ _ ?_
 clear hK4
 refine wp_block ?_
 obtain ⟨hs0, hhs0, hS⟩ : ∃ h, h = _ ∧ St _ _ h _ := ⟨_, rfl, hS⟩
 refine wp_loopx (γ := Value × Nat) ((Value.slice none 0 0), 0) (fun (gg : Value × Nat) => match gg with | (u, i) => [(3, u), (4, vi (i : Int))]) [(0, _)] (fun (gg : Value × Nat) => match gg with | (u, i) => (hs0.set 0 (.row u 9 1 i (((Dk.image S).take i).map vs)))) (fun (gg : Value × Nat) => match gg with | (u, i) => i ≤ S.s.length) (fun (gg : Value × Nat) => match gg with | (u, i) => S.s.length - i) (hF.sub ⟨rfl, rfl, rfl, trivial⟩) (by subst hhs0; exact hS) (by exact Nat.zero_le _) ?_
 clear hF hS; rintro ⟨u, i⟩ a w hfact hF hS
 subst hhs0; (try dsimp only at hfact); (try dsimp only at hF); (try dsimp only at hS)
 have hi0 := hfact
 replace hS : St _ (_) (_ :: _ :: _ :: _) _ := hS
 refine wp_seq_k ?_; intro K5 hK5
 refine wp_seq_k ?_; intro K6 hK6
 refine reg hF hS (sq rfl (q_move rfl) <|
   sq rfl (q_move rfl) <|
   sq rfl (q_nilCheck rfl) <|
   sq rfl (q_fieldAddr ty80 rfl rfl (s' := 0) kQ) <|
   sq rfl (q_ld_blk1 ty78 1 rfl rfl rfl rfl) <|
   sq rfl (q_len_row ty78 2 rfl rfl) <|
   sq rfl (q_lti rfl rfl) <|
   sq_end) ?_
 clear hF hS; intro a w hF hS
 refine hK6 _ _ ?_
 clear hK6
 refine wp_ifd hF rfl (fun hc1 => ?_) (fun hc1 => ?_)
 ·refine wp_skip ?_
  refine hK5 _ _ ?_
  clear hK5
  refine wp_seq_k ?_; intro K7 hK7
  refine wp_block ?_
  refine regl ?_
  refine wpl_sq hF hS (sq rfl (q_move rfl) <|
    sq rfl (q_move rfl) <|
    sq rfl (q_nilCheck rfl) <|
    sq rfl (q_fieldAddr ty80 rfl rfl (s' := 0) kQ) <|
    sq rfl (q_ld_blk1 ty78 1 rfl rfl rfl rfl) <|
    sq rfl (q_move rfl) <|
    sq rfl (q_idx_row ty78 ty83 2 rfl rfl rfl (by omega)) <|
    sq rfl (q_fld_row ty83 2 rfl rfl (by omega) rfl (s' := 0) kQ) <|
    sq rfl (q_ld_rowK1 Dk.secC_len Dk.s0 ty9 2 rfl rfl rfl (by omega) (by decide) rfl) <|
    sq_end) ?_
  clear hF hS; intro a w hF hS
  refine wpl_ef hF hS rfl (ef_bsliceA ty22 ty9 rfl rfl oQ (by decide) rfl rfl) ?_
  clear hF hS; rintro v2 _ _ a w ⟨rfl, rfl⟩ hF hS
  replace hS : St _ (_) (_ :: _ :: _ :: _ :: _) _ := hS
  refine wpl_ef hF hS rfl (ef_append ty22 ty9 1 rfl rfl rfl (src_row ty22 (k := 0) rfl oQ) bQ rfl (by decide)) ?_
  clear hF hS; rintro v4 _ _ a w ⟨rfl, rfl⟩ hF hS
  replace hS : St _ (_) (_ :: _ :: _ :: _ :: _) _ := hS
  refine wpl_sq hF hS (sq rfl (q_assign rfl) <|
    sq_end) ?_
  clear hF hS; intro a w hF hS
  refine wpList_nil ?_
  refine hK7 _ _ ?_
  clear hK7
  refine reg hF hS (sq rfl (q_move rfl) <|
    sq rfl (q_addi rfl rfl (by omega)) <|
    sq rfl (q_assign rfl) <|
    sq_end) ?_
  clear hF hS; intro a w hF hS
  replace hS := hS.keep sQ (sQ.n)
  refine ⟨(v4, i + 1), ?_, ?_, hF.sub ⟨rfl, rfl, rfl, trivial⟩, ?_⟩
  ·(try dsimp only); omega
  ·omega
  ·dsimp only [List.set_cons_zero]; rw [Dk.imt_1 S (i := i) (by omega), List.map_append]; exact hS
 ·have hil : (Dk.image S).length = S.s.length := by simp [Dk.image]
  refine wp_exit ?_
  refine hK3 _ _ ?_
  clear hK3
  refine wp_seq_k ?_; intro K8 hK8
  refine reg hF hS (sq rfl (q_move rfl) <|
    sq rfl (q_assign rfl) <|
    sq_end) ?_
  clear hF hS; intro a w hF hS
  refine hK8 _ _ ?_
  clear hK8
  refine wp_ret ?_
  exact fn_retx (rs := [.tmp 2]) rfl hF hS (vs := [_]) ⟨rfl, trivial⟩ [] [_, _, _] sQ sQ (Dk.rdrw_of ⟨rfl, rfl⟩ (by omega) (by rw [List.take_of_length_le (by omega)]))

set_option maxRecDepth 4000 in
set_option maxHeartbeats 2000000 in
theorem rnew_ct (n : Nat) (hn : 1 ≤ n ∧ n ≤ 4096) (w : World) : Ct Tryz.prog 9 [vi (n : Int)] w (fun r zs hs => zs = [] ∧ ∃ b v, r = .tuple [.pointer (some ⟨b, 0, none⟩), vi 0].toArray ∧ hs = [RRB b v (Dk.new n), RRW v (Dk.new n)]) := by
 refine fn_enter Tryz.func9 rfl Tryz.ntmps9 (Nat.le_of_ble_eq_true rfl) fun a hF hS => ?_
 refine wp_seq_k ?_; intro K1 hK1
 refine reg hF hS (sq rfl (q_assign rfl) <|
   sq rfl (q_assign rfl) <|
   sq_end) ?_
 clear hF hS; intro a w hF hS
 refine hK1 _ _ ?_
 clear hK1
 refine wp_seq_k ?_; intro K2 hK2
 refine wp_seq_k ?_; intro K3 hK3
 refine regl ?_
 refine wpl_sq hF hS (sq rfl (q_move rfl) <|
   sq rfl (q_lti rfl rfl) <|
   sq rfl (q_move rfl) <|
   sq_end) ?_
 clear hF hS; intro a w hF hS
 refine wpl_or 2 8 2 hF hS rfl rfl rfl rfl rfl (fun hg => have hg := (by first | exact of_decide_eq_false hg | exact hg); sq_go 8 rfl rfl rfl (q_move rfl) <|
   sq_go 8 rfl rfl rfl (q_gti rfl rfl) <|
   sq_end) rfl rfl ?_
 clear hF hS; intro a w hF hS
 refine wpList_nil ?_
 refine hK3 _ _ ?_
 clear hK3
 refine wp_if hF rfl (fun hc1 => ?_) (fun hc1 => ?_)
 ·(try simp only [Bool.or_eq_true, Bool.and_eq_true, Bool.or_eq_false_iff, Bool.and_eq_false_iff, decide_eq_true_eq, decide_eq_false_iff_not, Bool.not_eq_true', Bool.not_eq_false'] at hc1)
  exfalso; omega
 ·(try simp only [Bool.or_eq_true, Bool.and_eq_true, Bool.or_eq_false_iff, Bool.and_eq_false_iff, decide_eq_true_eq, decide_eq_false_iff_not, Bool.not_eq_true', Bool.not_eq_false'] at hc1)
  refine wp_skip ?_
  refine hK2 _ _ ?_
  clear hK2
  refine wp_seq_k ?_; intro K4 hK4
  refine regl ?_
  refine wpl_sq hF hS (sq rfl (q_buildP (places := [(0, 1), (1, 1), (2, 1)]) (cells := [.slice none 0 0, .bool false, _]) ty80 kQ rfl (by rfl)) <|
    sq_end) ?_
  clear hF hS; intro a w hF hS
  refine wpl_ef hF hS rfl (ef_boxA rfl) ?_
  clear hF hS; rintro _ _ _ a w ⟨b1, rfl, rfl, rfl⟩ hF hS
  refine wpl_sq hF hS (sq rfl (q_assign rfl) <|
    sq_end) ?_
  clear hF hS; intro a w hF hS
  refine wpList_nil ?_
  replace hS := hS.nilRow 83 4
  replace hS : St _ [] [_, _] _ := hS
  refine hK4 _ _ ?_
  clear hK4
  refine wp_seq_k ?_; intro K5 hK5
  refine wp_seq_k ?_; intro K6 hK6
  refine reg hF hS (sq rfl (q_assign rfl) <|
    sq_end) ?_
  clear hF hS; intro a w hF hS
  refine hK6 _ _ ?_
  clear hK6
  refine wp_block ?_
  obtain ⟨hs0, hhs0, hS⟩ : ∃ h, h = _ ∧ St _ _ h _ := ⟨_, rfl, hS⟩
  refine wp_loopx (γ := Value × Nat) ((Value.slice none 0 0), 0) (fun (gg : Value × Nat) => match gg with | (u, i) => [(5, vi (i : Int))]) [(0, _), (4, _)] (fun (gg : Value × Nat) => match gg with | (u, i) => ((hs0.set 1 (.blk b1 80 [u, .bool false, vi (-1)])).set 0 (.row u 83 4 i ((Dk.new i).s.flatMap Dk.secC)))) (fun (gg : Value × Nat) => match gg with | (u, i) => i ≤ n) (fun (gg : Value × Nat) => match gg with | (u, i) => n - i) (hF.sub ⟨rfl, rfl, rfl, trivial⟩) (by subst hhs0; exact hS) (by exact Nat.zero_le _) ?_
  clear hF hS; rintro ⟨u, i⟩ a w hfact hF hS
  subst hhs0; (try dsimp only at hfact); (try dsimp only at hF); (try dsimp only at hS)
  have hi0 := hfact
  replace hS : St _ [] [_, _] _ := hS
  refine wp_seq_k ?_; intro K7 hK7
  refine wp_seq_k ?_; intro K8 hK8
  refine reg hF hS (sq rfl (q_move rfl) <|
    sq rfl (q_move rfl) <|
    sq rfl (q_lti rfl rfl) <|
    sq_end) ?_
  clear hF hS; intro a w hF hS
  refine hK8 _ _ ?_
  clear hK8
  refine wp_ifd hF rfl (fun hc2 => ?_) (fun hc2 => ?_)
  ·refine wp_skip ?_
   refine hK7 _ _ ?_
   clear hK7
   refine wp_seq_k ?_; intro K9 hK9
   refine wp_block ?_
   revert hS; revert hF; apply regJ (J := J3 (α0 := Value) (α1 := Value) (α2 := Value) 32 _ _ _ _ _) #[false, false, false, false, false, false, false, false, false, false, false, false, false] 13 mixed rfl rfl
   ·intro w hF hS
    refine goW_take 0 _ rfl kQ rfl hF (hS.keep sQ zQ) (q_move rfl) ?_
    clear hF; intro a hF
    refine goW_take 1 _ rfl kQ rfl hF (hS.keep sQ zQ) (q_move rfl) ?_
    clear hF; intro a hF
    refine goW_take 2 _ rfl kQ rfl hF (hS.keep sQ zQ) (q_nilCheck rfl) ?_
    clear hF; intro a hF
    refine goW_take 3 _ rfl kQ rfl hF (hS.keep sQ zQ) (q_fieldAddr ty80 rfl rfl (s' := 0) kQ) ?_
    clear hF; intro a hF
    refine goW_take 4 _ rfl kQ rfl hF (hS.keep sQ (sQ.n)) (q_ld_blk1 ty78 0 rfl rfl rfl rfl) ?_
    clear hF; intro a hF
    refine gQ 5 rfl rfl hF hS rfl (ef_mks (m := 64) ty81 ty5 rfl rfl (by decide) (by decide) rfl) ?_
    clear hF hS; rintro v_7_5 _ _ a w ⟨rfl, rfl⟩ hF hS
    refine ⟨⟨.inr (hS.k1 (sQ.n.n)), .inr hS.k0, .inr hS.k0, .inr hS.k0, .inr hS.k0, trivial⟩, ?_⟩
    refine goW_take 6 _ rfl kQ rfl hF (hS.keep sQ (zQ.k)) (q_b2s_row (xs := Dk.z64) ty81 ty9 ty5 0 rfl rfl) ?_
    clear hF; intro a hF
    refine goW_take 7 _ rfl kQ rfl hF (hS.keep sQ zQ) (q_build1 ty83 4 kQ rfl rfl rfl (by decide)) ?_
    clear hF; intro a hF
    refine gQ 8 rfl rfl hF hS rfl (ef_bsliceW ty78 ty83 rfl bQ (by decide) oQ (by decide) (by decide)) ?_
    clear hF hS; rintro v_7_8 _ _ a w ⟨rfl, rfl⟩ hF hS
    refine ⟨⟨iQ, iQ, .inr (hS.k1 (sQ.n.n.n)), .inr hS.k0, .inr hS.k0, .inr hS.k0, .inr hS.k0, trivial⟩, ?_⟩
    refine gQ 9 rfl rfl hF hS rfl (ef_append ty78 ty83 2 rfl rfl rfl (src_row ty78 (k := 0) rfl oQ) bQ rfl (by decide)) ?_
    clear hF hS; rintro v_7_9 _ _ a w ⟨rfl, rfl⟩ hF hS
    refine ⟨⟨iQ, iQ, iQ, iQ, .inr hS.k0, .inr hS.k0, .inr hS.k0, trivial⟩, ?_⟩
    refine goW_take 10 _ rfl kQ rfl hF (hS.keep sQ zQ) (q_nilCheck rfl) ?_
    clear hF; intro a hF
    refine goW_take 11 _ rfl kQ rfl hF (hS.keep sQ zQ) (q_fieldAddr ty80 rfl rfl (s' := 0) kQ) ?_
    clear hF; intro a hF
    refine gQ 12 rfl rfl hF hS rfl (ef_store1 ty78 3 rfl rfl rfl (row_one (hS.own _ (List.mem_of_getElem? (i := 2) rfl)).1) (by simp)) ?_
    clear hF hS; rintro _ _ _ a w ⟨rfl, rfl, rfl⟩ hF hS
    replace hS : St _ [] [_, _, _, .blk _ _ ([_, _, _].set 0 _)] _ := hS
    simp only [List.set_cons_zero, List.set_cons_succ] at hS
    replace hS : St _ [] [_, _, _, _] _ := hS
    refine ⟨⟨iQ, iQ, iQ, iQ, iQ, iQ, iQ, iQ, iQ, trivial⟩, ?_⟩
    exact goW_done kQ (j3_mk v_7_5 v_7_8 v_7_9 (trivial) (hF.sub (L' := [(0, _), (4, _), (5, _)]) ⟨rfl, rfl, rfl, trivial⟩) hS)
   rintro a w ⟨v_7_5, v_7_8, v_7_9, -, hF, hS⟩
   (try dsimp only at hF); (try dsimp only at hS)
   refine hK9 _ _ ?_
   clear hK9
   refine reg hF hS (sq rfl (q_move rfl) <|
     sq rfl (q_addi rfl rfl (by omega)) <|
     sq rfl (q_assign rfl) <|
     sq_end) ?_
   clear hF hS; intro a w hF hS
   replace hS := hS.keep zQ (sQ.n.n)
   refine ⟨(v_7_9, i + 1), ?_, ?_, hF.sub ⟨rfl, rfl, rfl, trivial⟩, ?_⟩
   ·(try dsimp only); omega
   ·omega
   ·dsimp only [List.set_cons_zero, List.set_cons_succ]; rw [Dk.new_take i, List.flatMap_append]; exact hS
  ·refine wp_exit ?_
   refine hK5 _ _ ?_
   clear hK5
   refine wp_seq_k ?_; intro K10 hK10
   refine reg hF hS (sq rfl (q_move rfl) <|
     sq rfl (q_assign rfl) <|
     sq rfl (q_assign rfl) <|
     sq_end) ?_
   clear hF hS; intro a w hF hS
   refine hK10 _ _ ?_
   clear hK10
   refine wp_ret ?_
   replace hS := hS.perm (.swap _ _ _)
   exact fn_ret (rs := [.tmp 2, .tmp 3]) rfl hF hS (vs := [_, _]) ⟨rfl, rfl, trivial⟩ sQ sQ ⟨rfl, b1, u, rfl, by rw [show n = i by omega, Dk.new_rw]⟩
end Go.Proofs.YtibbhobfdbfkkaaGreatDoor
end

section
namespace Go.Proofs.YtibbhobfdbfkkaaGreatDoor
open Go.Fw



end Go.Proofs.YtibbhobfdbfkkaaGreatDoor
end
