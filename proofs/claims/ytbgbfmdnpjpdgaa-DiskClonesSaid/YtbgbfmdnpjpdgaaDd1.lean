/- A text of a proof over this seat: walks over the program's functions and the plain laws that they need. -/
import Derived.Test.YtbgbfmdnpjpdgaaFwB
import Derived.Test.YtbgbfmdnpjpdgaaDkA
import Derived.Test.YtbgbfmdnpjpdgaaDlay
import Derived.Test.YtbgbfmdnpjpdgaaChecked
set_option linter.all false
namespace Go.Proofs.Ytbgbfmdnpjpdgaa
open Go.Fw
theorem mixed : Try.prog.follows .mixedOrders = true := by kernel_rfl
theorem ty3 : Tf Try.prog 3 (.int .i64) 1 8 (Value.int .i64 0) := ⟨Try.underlying3, by kernel_rfl⟩
theorem ty4 : Tf Try.prog 4 .bool 1 1 (Value.bool false) := ⟨Try.underlying4, by kernel_rfl⟩
theorem ty67 : Tf Try.prog 67 (.slice 74) 1 24 (Value.slice none 0 0) := ⟨Try.underlying67, by kernel_rfl⟩
theorem ty71 : Tf Try.prog 71 (.struct #[⟨ "blocks", 67, 0, false, "", "culprit/disk", 0⟩, ⟨ "pending", 68, 1, false, "", "culprit/disk", 24⟩, ⟨ "worn", 69, 2, false, "", "culprit/disk", 32⟩, ⟨ "off", 4, 3, false, "", "culprit/disk", 40⟩, ⟨ "left", 3, 4, false, "", "culprit/disk", 48⟩]) 5 56 (.agg ([Value.slice none 0 0] ++ [Value.map none, Value.map none] ++ [Value.bool false] ++ [Value.int .i64 0]).toArray) := ⟨Try.underlying71, by kernel_rfl⟩

abbrev DD := Dk.DOk 71 74
abbrev DDR := Dk.DR 71 74

set_option maxRecDepth 4000 in
set_option maxHeartbeats 2000000 in
theorem dcheck_ct (h : Dk.Hd) (S : Dk.Dsk) (i : Int) (w0 : World) (zsr : List PH) {r1 r2 r3 r4 : Res} (hD : DD h S r1 r2 r3 r4) : Cx Try.prog 46 [.pointer (some ⟨h.b, 0, none⟩), vi i] w0 zsr [r1, r2, r3, r4] (DDR h (S) (vi (Dk.check S i))) := by
 refine fn_enterx Try.func46 rfl Try.ntmps46 (Nat.le_of_ble_eq_true rfl) fun hsr a w hF hS => ?_
 replace hS : St _ (_) (_ :: _ :: _ :: _ :: _) _ := hS
 obtain ⟨l, e1, c1, m1, e2, c2, m2, hO, hl, hlr, hM1, hM2, hP, hW, rfl, rfl, rfl, rfl⟩ := hD
 have hlo := hO.lo
 have hhi := hO.hi
 have hlf := hO.lf
 have hlg := hO.lf2
 have hbl := Dk.bl_len S
 have hbs := Dk.bl_64 hO
 replace hS : St _ (_) (_ :: _ :: _ :: _ :: _) _ := hS
 refine wp_seq_k ?_; intro K1 hK1
 refine reg hF hS (sq rfl (q_assign rfl) <|
   sq_end) ?_
 clear hF hS; intro a w hF hS
 refine hK1 _ _ ?_
 clear hK1
 refine wp_seq_k ?_; intro K2 hK2
 refine wp_block ?_
 refine wp_seq_k ?_; intro K3 hK3
 refine reg hF hS (sq rfl (q_move rfl) <|
   sq rfl (q_nilCheck rfl) <|
   sq rfl (q_fieldAddr ty71 rfl rfl (s' := 0) kQ) <|
   sq rfl (q_ld_blk1 ty4 0 rfl rfl rfl rfl) <|
   sq rfl (q_assign rfl) <|
   sq_end) ?_
 clear hF hS; intro a w hF hS
 refine hK3 _ _ ?_
 clear hK3
 refine wp_if hF rfl (fun hc1 => ?_) (fun hc1 => ?_)
 ·refine wp_seq_k ?_; intro K4 hK4
  refine reg hF hS (sq rfl (q_assign rfl) <|
    sq_end) ?_
  clear hF hS; intro a w hF hS
  refine hK4 _ _ ?_
  clear hK4
  refine wp_ret ?_
  exact fn_retx (rs := [.tmp 4]) rfl hF hS (vs := [_]) ⟨rfl, trivial⟩ [] [_, _, _, _] sQ sQ (Dk.dr_of (S := S) ⟨rfl, rfl, _, _, _, _, rfl, ⟨l, e1, c1, m1, e2, c2, m2, hO, hl, hlr, hM1, hM2, hP, hW, rfl, rfl, rfl, rfl⟩⟩ (rfl) (by rw [Dk.check_off (by simpa using hc1)]))
 ·refine wp_seq_k ?_; intro K5 hK5
  refine regl ?_
  refine wpl_sq hF hS (sq rfl (q_move rfl) <|
    sq rfl (q_lti rfl rfl) <|
    sq rfl (q_move rfl) <|
    sq_end) ?_
  clear hF hS; intro a w hF hS
  refine wpl_or 2 13 7 hF hS rfl rfl rfl rfl rfl (fun hg => have hg := (by first | exact of_decide_eq_false hg | exact hg); sq_go 13 rfl rfl rfl (q_move rfl) <|
    sq_go 13 rfl rfl rfl (q_move rfl) <|
    sq_go 13 rfl rfl rfl (q_nilCheck rfl) <|
    sq_go 13 rfl rfl rfl (q_fieldAddr ty71 rfl rfl (s' := 0) kQ) <|
    sq_go 13 rfl rfl rfl (q_ld_blk1 ty67 0 rfl rfl rfl rfl) <|
    sq_go 13 rfl rfl rfl (q_len_row ty67 1 rfl rfl) <|
    sq_go 13 rfl rfl rfl (q_gei rfl rfl) <|
    sq_end) rfl rfl ?_
  clear hF hS; intro a w hF hS
  refine wpl_sq hF hS (sq rfl (q_assign rfl) <|
    sq_end) ?_
  clear hF hS; intro a w hF hS
  refine wpList_nil ?_
  refine hK5 _ _ ?_
  clear hK5
  refine wp_if hF rfl (fun hc2 => ?_) (fun hc2 => ?_)
  ·(try simp only [Bool.or_eq_true, Bool.and_eq_true, Bool.or_eq_false_iff, Bool.and_eq_false_iff, decide_eq_true_eq, decide_eq_false_iff_not, Bool.not_eq_true', Bool.not_eq_false'] at hc2)
   refine wp_seq_k ?_; intro K6 hK6
   refine reg hF hS (sq rfl (q_assign rfl) <|
     sq_end) ?_
   clear hF hS; intro a w hF hS
   refine hK6 _ _ ?_
   clear hK6
   refine wp_ret ?_
   exact fn_retx (rs := [.tmp 4]) rfl hF hS (vs := [_]) ⟨rfl, trivial⟩ [] [_, _, _, _] sQ sQ (Dk.dr_of (S := S) ⟨rfl, rfl, _, _, _, _, rfl, ⟨l, e1, c1, m1, e2, c2, m2, hO, hl, hlr, hM1, hM2, hP, hW, rfl, rfl, rfl, rfl⟩⟩ (rfl) (by rw [Dk.check_out (by rw [hc1]; simp) (by omega)]))
  ·(try simp only [Bool.or_eq_true, Bool.and_eq_true, Bool.or_eq_false_iff, Bool.and_eq_false_iff, decide_eq_true_eq, decide_eq_false_iff_not, Bool.not_eq_true', Bool.not_eq_false'] at hc2)
   refine wp_skip ?_
   refine hK2 _ _ ?_
   clear hK2
   refine wp_seq_k ?_; intro K7 hK7
   refine reg hF hS (sq rfl (q_assign rfl) <|
     sq_end) ?_
   clear hF hS; intro a w hF hS
   refine hK7 _ _ ?_
   clear hK7
   refine wp_ret ?_
   exact fn_retx (rs := [.tmp 4]) rfl hF hS (vs := [_]) ⟨rfl, trivial⟩ [] [_, _, _, _] sQ sQ (Dk.dr_of (S := S) ⟨rfl, rfl, _, _, _, _, rfl, ⟨l, e1, c1, m1, e2, c2, m2, hO, hl, hlr, hM1, hM2, hP, hW, rfl, rfl, rfl, rfl⟩⟩ (rfl) (by rw [Dk.check_in (by rw [hc1]; simp) (by omega)]))

set_option maxRecDepth 4000 in
set_option maxHeartbeats 2000000 in
theorem dstep_ct (h : Dk.Hd) (S : Dk.Dsk) (w0 : World) (zsr : List PH) {r1 r2 r3 r4 : Res} (hD : DD h S r1 r2 r3 r4) : Cx Try.prog 47 [.pointer (some ⟨h.b, 0, none⟩)] w0 zsr [r1, r2, r3, r4] (DDR h ((Dk.step S).1) (vi (Dk.step S).2)) := by
 refine fn_enterx Try.func47 rfl Try.ntmps47 (Nat.le_of_ble_eq_true rfl) fun hsr a w hF hS => ?_
 replace hS : St _ (_) (_ :: _ :: _ :: _ :: _) _ := hS
 obtain ⟨l, e1, c1, m1, e2, c2, m2, hO, hl, hlr, hM1, hM2, hP, hW, rfl, rfl, rfl, rfl⟩ := hD
 have hlo := hO.lo
 have hhi := hO.hi
 have hlf := hO.lf
 have hlg := hO.lf2
 have hbl := Dk.bl_len S
 have hbs := Dk.bl_64 hO
 replace hS : St _ (_) (_ :: _ :: _ :: _ :: _) _ := hS
 refine wp_seq_k ?_; intro K1 hK1
 refine reg hF hS (sq rfl (q_assign rfl) <|
   sq_end) ?_
 clear hF hS; intro a w hF hS
 refine hK1 _ _ ?_
 clear hK1
 refine wp_seq_k ?_; intro K2 hK2
 refine wp_block ?_
 refine wp_seq_k ?_; intro K3 hK3
 refine reg hF hS (sq rfl (q_move rfl) <|
   sq rfl (q_nilCheck rfl) <|
   sq rfl (q_fieldAddr ty71 rfl rfl (s' := 0) kQ) <|
   sq rfl (q_ld_blk1 ty3 0 rfl rfl rfl rfl) <|
   sq rfl (q_eqi rfl rfl) <|
   sq rfl (q_assign rfl) <|
   sq_end) ?_
 clear hF hS; intro a w hF hS
 refine hK3 _ _ ?_
 clear hK3
 refine wp_ifd hF rfl (fun hc1 => ?_) (fun hc1 => ?_)
 ·refine wp_seq_k ?_; intro K4 hK4
  refine regl ?_
  refine wpl_sq hF hS (sq rfl (q_move rfl) <|
    sq rfl (q_nilCheck rfl) <|
    sq rfl (q_fieldAddr ty71 rfl rfl (s' := 0) kQ) <|
    sq_end) ?_
  clear hF hS; intro a w hF hS
  refine wpl_ef hF hS rfl (ef_store1 ty4 0 rfl rfl rfl rfl (by simp)) ?_
  clear hF hS; rintro _ _ _ a w ⟨rfl, rfl, rfl⟩ hF hS
  replace hS : St _ (_) (.blk _ _ ([_, _, _, _, _].set 3 _) :: _ :: _ :: _ :: _) _ := hS
  simp only [List.set_cons_zero, List.set_cons_succ] at hS
  replace hS : St _ (_) (_ :: _ :: _ :: _ :: _) _ := hS
  refine wpList_nil ?_
  refine hK4 _ _ ?_
  clear hK4
  refine wp_seq_k ?_; intro K5 hK5
  refine reg hF hS (sq rfl (q_assign rfl) <|
    sq_end) ?_
  clear hF hS; intro a w hF hS
  refine hK5 _ _ ?_
  clear hK5
  refine wp_ret ?_
  exact fn_retx (rs := [.tmp 2]) rfl hF hS (vs := [_]) ⟨rfl, trivial⟩ [] [_, _, _, _] sQ sQ (Dk.dr_of (S := ⟨S.s, true, S.left⟩) ⟨rfl, rfl, _, _, _, _, rfl, ⟨l, e1, c1, m1, e2, c2, m2, ⟨hO.sec, hO.lo, hO.hi, hO.lf, hO.lf2⟩, hl, hlr, hM1, hM2, hP, hW, rfl, rfl, rfl, rfl⟩⟩ (by rw [Dk.step_0 (by omega)]) (by rw [Dk.step_0 (by omega)]))
 ·refine wp_seq_k ?_; intro K6 hK6
  refine reg hF hS (sq rfl (q_move rfl) <|
    sq rfl (q_nilCheck rfl) <|
    sq rfl (q_fieldAddr ty71 rfl rfl (s' := 0) kQ) <|
    sq rfl (q_ld_blk1 ty3 0 rfl rfl rfl rfl) <|
    sq rfl (q_gti rfl rfl) <|
    sq rfl (q_assign rfl) <|
    sq_end) ?_
  clear hF hS; intro a w hF hS
  refine hK6 _ _ ?_
  clear hK6
  refine wp_ifd hF rfl (fun hc2 => ?_) (fun hc2 => ?_)
  ·refine regl ?_
   refine wpl_sq hF hS (sq rfl (q_move rfl) <|
     sq rfl (q_nilCheck rfl) <|
     sq rfl (q_fieldAddr ty71 rfl rfl (s' := 0) kQ) <|
     sq rfl (q_ld_blk1 ty3 0 rfl rfl rfl rfl) <|
     sq rfl (q_subi rfl rfl (by omega)) <|
     sq rfl (q_nilCheck rfl) <|
     sq rfl (q_fieldAddr ty71 rfl rfl (s' := 0) kQ) <|
     sq_end) ?_
   clear hF hS; intro a w hF hS
   refine wpl_ef hF hS rfl (ef_store1 ty3 0 rfl rfl rfl rfl (by simp)) ?_
   clear hF hS; rintro _ _ _ a w ⟨rfl, rfl, rfl⟩ hF hS
   replace hS : St _ (_) (.blk _ _ ([_, _, _, _, _].set 4 _) :: _ :: _ :: _ :: _) _ := hS
   simp only [List.set_cons_zero, List.set_cons_succ] at hS
   replace hS : St _ (_) (_ :: _ :: _ :: _ :: _) _ := hS
   refine wpList_nil ?_
   refine hK2 _ _ ?_
   clear hK2
   refine wp_seq_k ?_; intro K7 hK7
   refine reg hF hS (sq rfl (q_assign rfl) <|
     sq_end) ?_
   clear hF hS; intro a w hF hS
   refine hK7 _ _ ?_
   clear hK7
   refine wp_ret ?_
   exact fn_retx (rs := [.tmp 2]) rfl hF hS (vs := [_]) ⟨rfl, trivial⟩ [] [_, _, _, _] sQ sQ (Dk.dr_of (S := ⟨S.s, S.off, S.left - 1⟩) ⟨rfl, rfl, _, _, _, _, rfl, ⟨(l - 1), e1, c1, m1, e2, c2, m2, ⟨hO.sec, hO.lo, hO.hi, (by dsimp only; omega), (by dsimp only; omega)⟩, (by dsimp only; omega), (by omega), hM1, hM2, hP, hW, rfl, rfl, rfl, rfl⟩⟩ (by rw [Dk.step_1 (by omega)]) (by rw [Dk.step_1 (by omega)]))
  ·refine wp_skip ?_
   refine hK2 _ _ ?_
   clear hK2
   refine wp_seq_k ?_; intro K8 hK8
   refine reg hF hS (sq rfl (q_assign rfl) <|
     sq_end) ?_
   clear hF hS; intro a w hF hS
   refine hK8 _ _ ?_
   clear hK8
   refine wp_ret ?_
   exact fn_retx (rs := [.tmp 2]) rfl hF hS (vs := [_]) ⟨rfl, trivial⟩ [] [_, _, _, _] sQ sQ (Dk.dr_of (S := S) ⟨rfl, rfl, _, _, _, _, rfl, ⟨l, e1, c1, m1, e2, c2, m2, hO, hl, hlr, hM1, hM2, hP, hW, rfl, rfl, rfl, rfl⟩⟩ (by rw [Dk.step_2 (by omega)]) (by rw [Dk.step_2 (by omega)]))

set_option maxRecDepth 4000 in
set_option maxHeartbeats 2000000 in
theorem dup_ct (h : Dk.Hd) (S : Dk.Dsk) (w0 : World) (zsr : List PH) {r1 r2 r3 r4 : Res} (hD : DD h S r1 r2 r3 r4) : Cx Try.prog 27 [.pointer (some ⟨h.b, 0, none⟩)] w0 zsr [r1, r2, r3, r4] (DDR h (S) (.bool (!S.off))) := by
 refine fn_enterx Try.func27 rfl Try.ntmps27 (Nat.le_of_ble_eq_true rfl) fun hsr a w hF hS => ?_
 replace hS : St _ (_) (_ :: _ :: _ :: _ :: _) _ := hS
 obtain ⟨l, e1, c1, m1, e2, c2, m2, hO, hl, hlr, hM1, hM2, hP, hW, rfl, rfl, rfl, rfl⟩ := hD
 have hlo := hO.lo
 have hhi := hO.hi
 have hlf := hO.lf
 have hlg := hO.lf2
 have hbl := Dk.bl_len S
 have hbs := Dk.bl_64 hO
 replace hS : St _ (_) (_ :: _ :: _ :: _ :: _) _ := hS
 refine wp_seq_k ?_; intro K1 hK1
 refine reg hF hS (sq rfl (q_assign rfl) <|
   sq_end) ?_
 clear hF hS; intro a w hF hS
 refine hK1 _ _ ?_
 clear hK1
 refine wp_seq_k ?_; intro K2 hK2
 refine reg hF hS (sq rfl (q_move rfl) <|
   sq rfl (q_nilCheck rfl) <|
   sq rfl (q_fieldAddr ty71 rfl rfl (s' := 0) kQ) <|
   sq rfl (q_ld_blk1 ty4 0 rfl rfl rfl rfl) <|
   sq rfl (q_not rfl) <|
   sq rfl (q_assign rfl) <|
   sq_end) ?_
 clear hF hS; intro a w hF hS
 refine hK2 _ _ ?_
 clear hK2
 refine wp_ret ?_
 exact fn_retx (rs := [.tmp 2]) rfl hF hS (vs := [_]) ⟨rfl, trivial⟩ [] [_, _, _, _] sQ sQ (Dk.dr_of (S := S) ⟨rfl, rfl, _, _, _, _, rfl, ⟨l, e1, c1, m1, e2, c2, m2, hO, hl, hlr, hM1, hM2, hP, hW, rfl, rfl, rfl, rfl⟩⟩ (rfl) (rfl))

set_option maxRecDepth 4000 in
set_option maxHeartbeats 2000000 in
theorem dlen_ct (h : Dk.Hd) (S : Dk.Dsk) (w0 : World) (zsr : List PH) {r1 r2 r3 r4 : Res} (hD : DD h S r1 r2 r3 r4) : Cx Try.prog 31 [.pointer (some ⟨h.b, 0, none⟩)] w0 zsr [r1, r2, r3, r4] (DDR h (S) (vi (S.s.length : Int))) := by
 refine fn_enterx Try.func31 rfl Try.ntmps31 (Nat.le_of_ble_eq_true rfl) fun hsr a w hF hS => ?_
 replace hS : St _ (_) (_ :: _ :: _ :: _ :: _) _ := hS
 obtain ⟨l, e1, c1, m1, e2, c2, m2, hO, hl, hlr, hM1, hM2, hP, hW, rfl, rfl, rfl, rfl⟩ := hD
 have hlo := hO.lo
 have hhi := hO.hi
 have hlf := hO.lf
 have hlg := hO.lf2
 have hbl := Dk.bl_len S
 have hbs := Dk.bl_64 hO
 replace hS : St _ (_) (_ :: _ :: _ :: _ :: _) _ := hS
 refine wp_seq_k ?_; intro K1 hK1
 refine reg hF hS (sq rfl (q_assign rfl) <|
   sq_end) ?_
 clear hF hS; intro a w hF hS
 refine hK1 _ _ ?_
 clear hK1
 refine wp_seq_k ?_; intro K2 hK2
 refine reg hF hS (sq rfl (q_move rfl) <|
   sq rfl (q_nilCheck rfl) <|
   sq rfl (q_fieldAddr ty71 rfl rfl (s' := 0) kQ) <|
   sq rfl (q_ld_blk1 ty67 0 rfl rfl rfl rfl) <|
   sq rfl (q_len_row ty67 1 rfl rfl) <|
   sq rfl (q_assign rfl) <|
   sq_end) ?_
 clear hF hS; intro a w hF hS
 refine hK2 _ _ ?_
 clear hK2
 refine wp_ret ?_
 exact fn_retx (rs := [.tmp 2]) rfl hF hS (vs := [_]) ⟨rfl, trivial⟩ [] [_, _, _, _] sQ sQ (Dk.dr_of (S := S) ⟨rfl, rfl, _, _, _, _, rfl, ⟨l, e1, c1, m1, e2, c2, m2, hO, hl, hlr, hM1, hM2, hP, hW, rfl, rfl, rfl, rfl⟩⟩ (rfl) (rfl))

set_option maxRecDepth 4000 in
set_option maxHeartbeats 2000000 in
theorem dtrip_ct (h : Dk.Hd) (S : Dk.Dsk) (n : Int) (hn : -9223372036854775808 ≤ n ∧ n ≤ 9223372036854775807) (w0 : World) (zsr : List PH) {r1 r2 r3 r4 : Res} (hD : DD h S r1 r2 r3 r4) : Cx Try.prog 30 [.pointer (some ⟨h.b, 0, none⟩), vi n] w0 zsr [r1, r2, r3, r4] (DDR h (Dk.trip S n) (.tuple ([] : List Value).toArray)) := by
 refine fn_enterx Try.func30 rfl Try.ntmps30 (Nat.le_of_ble_eq_true rfl) fun hsr a w hF hS => ?_
 replace hS : St _ (_) (_ :: _ :: _ :: _ :: _) _ := hS
 obtain ⟨l, e1, c1, m1, e2, c2, m2, hO, hl, hlr, hM1, hM2, hP, hW, rfl, rfl, rfl, rfl⟩ := hD
 have hlo := hO.lo
 have hhi := hO.hi
 have hlf := hO.lf
 have hlg := hO.lf2
 have hbl := Dk.bl_len S
 have hbs := Dk.bl_64 hO
 replace hS : St _ (_) (_ :: _ :: _ :: _ :: _) _ := hS
 refine regl ?_
 refine wpl_sq hF hS (sq rfl (q_move rfl) <|
   sq rfl (q_move rfl) <|
   sq rfl (q_nilCheck rfl) <|
   sq rfl (q_fieldAddr ty71 rfl rfl (s' := 0) kQ) <|
   sq_end) ?_
 clear hF hS; intro a w hF hS
 refine wpl_ef hF hS rfl (ef_store1 ty3 0 rfl rfl rfl rfl (by simp)) ?_
 clear hF hS; rintro _ _ _ a w ⟨rfl, rfl, rfl⟩ hF hS
 replace hS : St _ (_) (.blk _ _ ([_, _, _, _, _].set 4 _) :: _ :: _ :: _ :: _) _ := hS
 simp only [List.set_cons_zero, List.set_cons_succ] at hS
 replace hS : St _ (_) (_ :: _ :: _ :: _ :: _) _ := hS
 refine wpList_nil ?_
 -- falls off the end
 exact fn_retx (rs := []) rfl hF hS (vs := []) trivial [] [_, _, _, _] sQ sQ (Dk.dr_of (S := Dk.trip S n) ⟨rfl, rfl, _, _, _, _, rfl, ⟨n, e1, c1, m1, e2, c2, m2, (Dk.ok_trip hO hn.2), rfl, hn.1, hM1, hM2, hP, hW, rfl, rfl, rfl, rfl⟩⟩ (rfl) (rfl))
end Go.Proofs.Ytbgbfmdnpjpdgaa
