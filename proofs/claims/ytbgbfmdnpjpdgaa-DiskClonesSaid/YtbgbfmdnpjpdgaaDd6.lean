/- A text of a proof over this seat: walks over the program's functions and the plain laws that they need. -/
import Derived.Test.YtbgbfmdnpjpdgaaDd5
import Derived.Test.YtbgbfmdnpjpdgaaDkA
import Derived.Test.YtbgbfmdnpjpdgaaFwB
set_option linter.all false
namespace Go.Proofs.Ytbgbfmdnpjpdgaa
open Go.Fw
theorem ty54 : Tf Try.prog 54 (.struct #[⟨ "Text", 9, 0, false, "", "", 0⟩, ⟨ "Next", 9, 1, false, "", "", 16⟩, ⟨ "Dirty", 4, 2, false, "", "", 32⟩, ⟨ "Worn", 4, 3, false, "", "", 33⟩]) 4 40 (.agg ([Value.string ⟨(List.nil : List UInt8).toArray⟩, Value.string ⟨(List.nil : List UInt8).toArray⟩] ++ [Value.bool false, Value.bool false]).toArray) := ⟨Try.underlying54, by kernel_rfl⟩
theorem ty55 : Tf Try.prog 55 (.slice 54) 1 24 (Value.slice none 0 0) := ⟨Try.underlying55, by kernel_rfl⟩
theorem ty57 : Tf Try.prog 57 (.struct #[⟨ "S", 55, 0, false, "", "", 0⟩, ⟨ "Off", 4, 1, false, "", "", 24⟩, ⟨ "Left", 3, 2, false, "", "", 32⟩]) 3 40 (.agg ([Value.slice none 0 0] ++ [Value.bool false] ++ [Value.int .i64 0]).toArray) := ⟨Try.underlying57, by kernel_rfl⟩
theorem fn55 : FnOk Try.prog 55 := ⟨_, Try.func55, rfl, by kernel_rfl⟩

abbrev RRB := Dk.RB 57
abbrev RRW := Dk.RW 54
abbrev RRD := Dk.RDR 57 54
abbrev RRDi := Dk.RDRw 57 54 3
abbrev RRDs := Dk.RDRw 57 54 9

set_option maxRecDepth 4000 in
set_option maxHeartbeats 2000000 in
theorem rlen_ct {b : Nat} {v : Value} {S : Dk.Dsk} (w0 : World) (zsr : List PH) (hO : Dk.Ok S) : Cx Try.prog 44 [.pointer (some ⟨b, 0, none⟩)] w0 zsr [RRB b v S, RRW v S] (RRD b v (S) (vi (S.s.length : Int))) := by
 refine fn_enterx Try.func44 rfl Try.ntmps44 (Nat.le_of_ble_eq_true rfl) fun hsr a w hF hS => ?_
 replace hS : St _ (_) (_ :: _ :: _) _ := hS
 have hlo := hO.lo
 have hhi := hO.hi
 have hlf := hO.lf
 have hlg := hO.lf2
 refine wp_seq_k ?_; intro K1 hK1
 refine reg hF hS (sq rfl (q_assign rfl) <|
   sq_end) ?_
 clear hF hS; intro a w hF hS
 refine hK1 _ _ ?_
 clear hK1
 refine wp_seq_k ?_; intro K2 hK2
 refine reg hF hS (sq rfl (q_move rfl) <|
   sq rfl (q_nilCheck rfl) <|
   sq rfl (q_fieldAddr ty57 rfl rfl (s' := 0) kQ) <|
   sq rfl (q_ld_blk1 ty55 0 rfl rfl rfl rfl) <|
   sq rfl (q_len_row ty55 1 rfl rfl) <|
   sq rfl (q_assign rfl) <|
   sq_end) ?_
 clear hF hS; intro a w hF hS
 refine hK2 _ _ ?_
 clear hK2
 refine wp_ret ?_
 exact fn_retx (rs := [.tmp 2]) rfl hF hS (vs := [_]) ⟨rfl, trivial⟩ [] [_, _] sQ sQ (Dk.rdr_of (S := S) ⟨rfl, rfl, rfl⟩ (rfl) (rfl))

set_option maxRecDepth 4000 in
set_option maxHeartbeats 2000000 in
theorem rup_ct {b : Nat} {v : Value} {S : Dk.Dsk} (w0 : World) (zsr : List PH) (hO : Dk.Ok S) : Cx Try.prog 45 [.pointer (some ⟨b, 0, none⟩)] w0 zsr [RRB b v S, RRW v S] (RRD b v (S) (.bool (!S.off))) := by
 refine fn_enterx Try.func45 rfl Try.ntmps45 (Nat.le_of_ble_eq_true rfl) fun hsr a w hF hS => ?_
 replace hS : St _ (_) (_ :: _ :: _) _ := hS
 have hlo := hO.lo
 have hhi := hO.hi
 have hlf := hO.lf
 have hlg := hO.lf2
 refine wp_seq_k ?_; intro K1 hK1
 refine reg hF hS (sq rfl (q_assign rfl) <|
   sq_end) ?_
 clear hF hS; intro a w hF hS
 refine hK1 _ _ ?_
 clear hK1
 refine wp_seq_k ?_; intro K2 hK2
 refine reg hF hS (sq rfl (q_move rfl) <|
   sq rfl (q_nilCheck rfl) <|
   sq rfl (q_fieldAddr ty57 rfl rfl (s' := 0) kQ) <|
   sq rfl (q_ld_blk1 ty4 0 rfl rfl rfl rfl) <|
   sq rfl (q_not rfl) <|
   sq rfl (q_assign rfl) <|
   sq_end) ?_
 clear hF hS; intro a w hF hS
 refine hK2 _ _ ?_
 clear hK2
 refine wp_ret ?_
 exact fn_retx (rs := [.tmp 2]) rfl hF hS (vs := [_]) ⟨rfl, trivial⟩ [] [_, _] sQ sQ (Dk.rdr_of (S := S) ⟨rfl, rfl, rfl⟩ (rfl) (rfl))

set_option maxRecDepth 4000 in
set_option maxHeartbeats 2000000 in
theorem rtrip_ct {b : Nat} {v : Value} {S : Dk.Dsk} (n : Int) (w0 : World) (zsr : List PH) (hO : Dk.Ok S) : Cx Try.prog 36 [.pointer (some ⟨b, 0, none⟩), vi n] w0 zsr [RRB b v S, RRW v S] (RRD b v (Dk.trip S n) (.tuple ([] : List Value).toArray)) := by
 refine fn_enterx Try.func36 rfl Try.ntmps36 (Nat.le_of_ble_eq_true rfl) fun hsr a w hF hS => ?_
 replace hS : St _ (_) (_ :: _ :: _) _ := hS
 have hlo := hO.lo
 have hhi := hO.hi
 have hlf := hO.lf
 have hlg := hO.lf2
 refine regl ?_
 refine wpl_sq hF hS (sq rfl (q_move rfl) <|
   sq rfl (q_move rfl) <|
   sq rfl (q_max rfl rfl) <|
   sq rfl (q_nilCheck rfl) <|
   sq rfl (q_fieldAddr ty57 rfl rfl (s' := 0) kQ) <|
   sq_end) ?_
 clear hF hS; intro a w hF hS
 refine wpl_ef hF hS rfl (ef_store1 ty3 0 rfl rfl rfl rfl (by simp)) ?_
 clear hF hS; rintro _ _ _ a w ⟨rfl, rfl, rfl⟩ hF hS
 replace hS : St _ (_) (.blk _ _ ([_, _, _].set 2 _) :: _ :: _) _ := hS
 simp only [List.set_cons_zero, List.set_cons_succ] at hS
 replace hS : St _ (_) (_ :: _ :: _) _ := hS
 refine wpList_nil ?_
 -- falls off the end
 exact fn_retx (rs := []) rfl hF hS (vs := []) trivial [] [_, _] sQ sQ (Dk.rdr_of (S := Dk.trip S n) ⟨rfl, rfl, rfl⟩ (rfl) (rfl))

set_option maxRecDepth 4000 in
set_option maxHeartbeats 2000000 in
theorem ris_ct {b : Nat} {v : Value} {S : Dk.Dsk} (i : Int) (w0 : World) (zsr : List PH) (hO : Dk.Ok S) : Cx Try.prog 55 [.pointer (some ⟨b, 0, none⟩), vi i] w0 zsr [RRB b v S, RRW v S] (RRD b v (S) (.bool (decide (0 ≤ i ∧ i < S.s.length)))) := by
 refine fn_enterx Try.func55 rfl Try.ntmps55 (Nat.le_of_ble_eq_true rfl) fun hsr a w hF hS => ?_
 replace hS : St _ (_) (_ :: _ :: _) _ := hS
 have hlo := hO.lo
 have hhi := hO.hi
 have hlf := hO.lf
 have hlg := hO.lf2
 refine wp_seq_k ?_; intro K1 hK1
 refine reg hF hS (sq rfl (q_assign rfl) <|
   sq_end) ?_
 clear hF hS; intro a w hF hS
 refine hK1 _ _ ?_
 clear hK1
 refine wp_seq_k ?_; intro K2 hK2
 refine regl ?_
 refine wpl_sq hF hS (sq rfl (q_move rfl) <|
   sq rfl (q_gei rfl rfl) <|
   sq rfl (q_move rfl) <|
   sq_end) ?_
 clear hF hS; intro a w hF hS
 refine wpl_and 2 7 7 hF hS rfl rfl rfl rfl rfl (fun hg => have hg := (by first | exact of_decide_eq_true hg | exact hg); sq_go 7 rfl rfl rfl (q_move rfl) <|
   sq_go 7 rfl rfl rfl (q_move rfl) <|
   sq_go 7 rfl rfl rfl (q_nilCheck rfl) <|
   sq_go 7 rfl rfl rfl (q_fieldAddr ty57 rfl rfl (s' := 0) kQ) <|
   sq_go 7 rfl rfl rfl (q_ld_blk1 ty55 0 rfl rfl rfl rfl) <|
   sq_go 7 rfl rfl rfl (q_len_row ty55 1 rfl rfl) <|
   sq_go 7 rfl rfl rfl (q_lti rfl rfl) <|
   sq_end) rfl rfl ?_
 clear hF hS; intro a w hF hS
 refine wpl_sq hF hS (sq rfl (q_assign rfl) <|
   sq_end) ?_
 clear hF hS; intro a w hF hS
 refine wpList_nil ?_
 refine hK2 _ _ ?_
 clear hK2
 refine wp_ret ?_
 exact fn_retx (rs := [.tmp 4]) rfl hF hS (vs := [_]) ⟨rfl, trivial⟩ [] [_, _] sQ sQ (Dk.rdr_of (S := S) ⟨rfl, rfl, rfl⟩ (rfl) (by show Value.bool _ = _; congr 1; rw [Bool.eq_iff_iff]; simp))

set_option maxRecDepth 4000 in
set_option maxHeartbeats 2000000 in
theorem rstep_ct {b : Nat} {v : Value} {S : Dk.Dsk} (w0 : World) (zsr : List PH) (hO : Dk.Ok S) : Cx Try.prog 56 [.pointer (some ⟨b, 0, none⟩)] w0 zsr [RRB b v S, RRW v S] (RRD b v ((Dk.step S).1) (vi (Dk.step S).2)) := by
 refine fn_enterx Try.func56 rfl Try.ntmps56 (Nat.le_of_ble_eq_true rfl) fun hsr a w hF hS => ?_
 replace hS : St _ (_) (_ :: _ :: _) _ := hS
 have hlo := hO.lo
 have hhi := hO.hi
 have hlf := hO.lf
 have hlg := hO.lf2
 refine wp_seq_k ?_; intro K1 hK1
 refine reg hF hS (sq rfl (q_assign rfl) <|
   sq_end) ?_
 clear hF hS; intro a w hF hS
 refine hK1 _ _ ?_
 clear hK1
 refine wp_seq_k ?_; intro K2 hK2
 refine wp_seq_k ?_; intro K3 hK3
 refine reg hF hS (sq rfl (q_move rfl) <|
   sq rfl (q_nilCheck rfl) <|
   sq rfl (q_fieldAddr ty57 rfl rfl (s' := 0) kQ) <|
   sq rfl (q_ld_blk1 ty3 0 rfl rfl rfl rfl) <|
   sq rfl (q_eqi rfl rfl) <|
   sq_end) ?_
 clear hF hS; intro a w hF hS
 refine hK3 _ _ ?_
 clear hK3
 refine wp_ifd hF rfl (fun hc1 => ?_) (fun hc1 => ?_)
 ·refine wp_seq_k ?_; intro K4 hK4
  refine regl ?_
  refine wpl_sq hF hS (sq rfl (q_move rfl) <|
    sq rfl (q_nilCheck rfl) <|
    sq rfl (q_fieldAddr ty57 rfl rfl (s' := 0) kQ) <|
    sq_end) ?_
  clear hF hS; intro a w hF hS
  refine wpl_ef hF hS rfl (ef_store1 ty4 0 rfl rfl rfl rfl (by simp)) ?_
  clear hF hS; rintro _ _ _ a w ⟨rfl, rfl, rfl⟩ hF hS
  replace hS : St _ (_) (.blk _ _ ([_, _, _].set 1 _) :: _ :: _) _ := hS
  simp only [List.set_cons_zero, List.set_cons_succ] at hS
  replace hS : St _ (_) (_ :: _ :: _) _ := hS
  refine wpList_nil ?_
  refine hK4 _ _ ?_
  clear hK4
  refine wp_seq_k ?_; intro K5 hK5
  refine reg hF hS (sq rfl (q_assign rfl) <|
    sq_end) ?_
  clear hF hS; intro a w hF hS
  refine hK5 _ _ ?_
  clear hK5
  refine wp_ret ?_
  exact fn_retx (rs := [.tmp 2]) rfl hF hS (vs := [_]) ⟨rfl, trivial⟩ [] [_, _] sQ sQ (Dk.rdr_of (S := ⟨S.s, true, S.left⟩) ⟨rfl, rfl, rfl⟩ (by rw [Dk.step_0 (by omega)]) (by rw [Dk.step_0 (by omega)]))
 ·refine wp_skip ?_
  refine hK2 _ _ ?_
  clear hK2
  refine wp_seq_k ?_; intro K6 hK6
  refine wp_seq_k ?_; intro K7 hK7
  refine reg hF hS (sq rfl (q_move rfl) <|
    sq rfl (q_nilCheck rfl) <|
    sq rfl (q_fieldAddr ty57 rfl rfl (s' := 0) kQ) <|
    sq rfl (q_ld_blk1 ty3 0 rfl rfl rfl rfl) <|
    sq rfl (q_gti rfl rfl) <|
    sq_end) ?_
  clear hF hS; intro a w hF hS
  refine hK7 _ _ ?_
  clear hK7
  refine wp_ifd hF rfl (fun hc2 => ?_) (fun hc2 => ?_)
  ·refine regl ?_
   refine wpl_sq hF hS (sq rfl (q_move rfl) <|
     sq rfl (q_nilCheck rfl) <|
     sq rfl (q_fieldAddr ty57 rfl rfl (s' := 0) kQ) <|
     sq rfl (q_ld_blk1 ty3 0 rfl rfl rfl rfl) <|
     sq rfl (q_subi rfl rfl (by omega)) <|
     sq rfl (q_nilCheck rfl) <|
     sq rfl (q_fieldAddr ty57 rfl rfl (s' := 0) kQ) <|
     sq_end) ?_
   clear hF hS; intro a w hF hS
   refine wpl_ef hF hS rfl (ef_store1 ty3 0 rfl rfl rfl rfl (by simp)) ?_
   clear hF hS; rintro _ _ _ a w ⟨rfl, rfl, rfl⟩ hF hS
   replace hS : St _ (_) (.blk _ _ ([_, _, _].set 2 _) :: _ :: _) _ := hS
   simp only [List.set_cons_zero, List.set_cons_succ] at hS
   replace hS : St _ (_) (_ :: _ :: _) _ := hS
   refine wpList_nil ?_
   refine hK6 _ _ ?_
   clear hK6
   refine wp_seq_k ?_; intro K8 hK8
   refine reg hF hS (sq rfl (q_assign rfl) <|
     sq_end) ?_
   clear hF hS; intro a w hF hS
   refine hK8 _ _ ?_
   clear hK8
   refine wp_ret ?_
   exact fn_retx (rs := [.tmp 2]) rfl hF hS (vs := [_]) ⟨rfl, trivial⟩ [] [_, _] sQ sQ (Dk.rdr_of (S := ⟨S.s, S.off, S.left - 1⟩) ⟨rfl, rfl, rfl⟩ (by rw [Dk.step_1 (by omega)]) (by rw [Dk.step_1 (by omega)]))
  ·refine wp_skip ?_
   refine hK6 _ _ ?_
   clear hK6
   refine wp_seq_k ?_; intro K9 hK9
   refine reg hF hS (sq rfl (q_assign rfl) <|
     sq_end) ?_
   clear hF hS; intro a w hF hS
   refine hK9 _ _ ?_
   clear hK9
   refine wp_ret ?_
   exact fn_retx (rs := [.tmp 2]) rfl hF hS (vs := [_]) ⟨rfl, trivial⟩ [] [_, _] sQ sQ (Dk.rdr_of (S := S) ⟨rfl, rfl, rfl⟩ (by rw [Dk.step_2 (by omega)]) (by rw [Dk.step_2 (by omega)]))

set_option maxRecDepth 4000 in
set_option maxHeartbeats 2000000 in
theorem rread_ct {b : Nat} {v : Value} {S : Dk.Dsk} (i : Int) (w0 : World) (zsr : List PH) (hO : Dk.Ok S) : Cx Try.prog 34 [.pointer (some ⟨b, 0, none⟩), vi i] w0 zsr [RRB b v S, RRW v S] (RRD b v (S) (.tuple [vs (Dk.read S i).1, vi (Dk.read S i).2].toArray)) := by
 refine fn_enterx Try.func34 rfl Try.ntmps34 (Nat.le_of_ble_eq_true rfl) fun hsr a w hF hS => ?_
 replace hS : St _ (_) (_ :: _ :: _) _ := hS
 have hlo := hO.lo
 have hhi := hO.hi
 have hlf := hO.lf
 have hlg := hO.lf2
 refine wp_seq_k ?_; intro K1 hK1
 refine reg hF hS (sq rfl (q_assign rfl) <|
   sq rfl (q_assign rfl) <|
   sq_end) ?_
 clear hF hS; intro a w hF hS
 refine hK1 _ _ ?_
 clear hK1
 refine wp_seq_k ?_; intro K2 hK2
 refine wp_seq_k ?_; intro K3 hK3
 refine reg hF hS (sq rfl (q_move rfl) <|
   sq rfl (q_nilCheck rfl) <|
   sq rfl (q_fieldAddr ty57 rfl rfl (s' := 0) kQ) <|
   sq rfl (q_ld_blk1 ty4 0 rfl rfl rfl rfl) <|
   sq_end) ?_
 clear hF hS; intro a w hF hS
 refine hK3 _ _ ?_
 clear hK3
 refine wp_if hF rfl (fun hc1 => ?_) (fun hc1 => ?_)
 ·refine wp_seq_k ?_; intro K4 hK4
  refine reg hF hS (sq rfl (q_assign rfl) <|
    sq rfl (q_assign rfl) <|
    sq_end) ?_
  clear hF hS; intro a w hF hS
  refine hK4 _ _ ?_
  clear hK4
  refine wp_ret ?_
  exact fn_retx (rs := [.tmp 4, .tmp 5]) rfl hF hS (vs := [_, _]) ⟨rfl, rfl, trivial⟩ [] [_, _] sQ sQ (Dk.rdr_of (S := S) ⟨rfl, rfl, rfl⟩ (rfl) (by rw [Dk.read_bad (by rw [Dk.check_off hc1]; decide), Dk.check_off hc1]))
 ·refine wp_skip ?_
  refine hK2 _ _ ?_
  clear hK2
  refine wp_seq_k ?_; intro K5 hK5
  refine wp_seq_k ?_; intro K6 hK6
  refine regl ?_
  refine wpl_sq hF hS (sq rfl (q_move rfl) <|
    sq rfl (q_move rfl) <|
    sq_end) ?_
  clear hF hS; intro a w hF hS
  refine wpl_ef hF hS rfl (ef_callx fn55 rfl (List.Perm.refl _) (by exact (ris_ct _ _ _  (by first | assumption | exact Dk.ok_step (by assumption) | exact Dk.rst_ok (by assumption) _ _) (S := S) (v := v)))) ?_
  clear hF hS; rintro _ _ _ a w ⟨_, _, rfl, rfl, ⟨rfl, rfl, rfl⟩⟩ hF hS
  replace hS : St _ (_) (_ :: _ :: _) _ := hS
  refine wpl_sq hF hS (sq rfl (q_not rfl) <|
    sq_end) ?_
  clear hF hS; intro a w hF hS
  refine wpList_nil ?_
  refine hK6 _ _ ?_
  clear hK6
  refine wp_if hF rfl (fun hc2 => ?_) (fun hc2 => ?_)
  ·refine wp_seq_k ?_; intro K7 hK7
   refine reg hF hS (sq rfl (q_assign rfl) <|
     sq rfl (q_assign rfl) <|
     sq_end) ?_
   clear hF hS; intro a w hF hS
   refine hK7 _ _ ?_
   clear hK7
   refine wp_ret ?_
   exact fn_retx (rs := [.tmp 4, .tmp 5]) rfl hF hS (vs := [_, _]) ⟨rfl, rfl, trivial⟩ [] [_, _] sQ sQ (Dk.rdr_of (S := S) ⟨rfl, rfl, rfl⟩ (rfl) (by rw [Dk.read_bad (by rw [Dk.check_out (by rw [hc1]; simp) (by have := hc2; simp at this; omega)]; decide), Dk.check_out (by rw [hc1]; simp) (by have := hc2; simp at this; omega)]))
  ·have hir : 0 ≤ i ∧ i < S.s.length := by simpa using hc2
   have hc0 := Dk.check_in (S := S) (i := i) (by rw [hc1]; simp) hir
   refine wp_skip ?_
   refine hK5 _ _ ?_
   clear hK5
   refine wp_seq_k ?_; intro K8 hK8
   refine wp_seq_k ?_; intro K9 hK9
   refine reg hF hS (sq rfl (q_move rfl) <|
     sq rfl (q_nilCheck rfl) <|
     sq rfl (q_fieldAddr ty57 rfl rfl (s' := 0) kQ) <|
     sq rfl (q_ld_blk1 ty55 0 rfl rfl rfl rfl) <|
     sq rfl (q_move rfl) <|
     sq rfl (q_idx_row ty55 ty54 1 rfl rfl rfl (by omega)) <|
     sq rfl (q_fld_row ty54 1 rfl rfl (by omega) rfl (s' := 0) kQ) <|
     sq rfl (q_ld_rowK1 Dk.secC_len Dk.s0 ty4 1 rfl rfl rfl (by omega) (by decide) rfl) <|
     sq_end) ?_
   clear hF hS; intro a w hF hS
   refine hK9 _ _ ?_
   clear hK9
   refine wp_if hF rfl (fun hc3 => ?_) (fun hc3 => ?_)
   ·refine wp_seq_k ?_; intro K10 hK10
    refine reg hF hS (sq rfl (q_move rfl) <|
      sq rfl (q_nilCheck rfl) <|
      sq rfl (q_fieldAddr ty57 rfl rfl (s' := 0) kQ) <|
      sq rfl (q_ld_blk1 ty55 0 rfl rfl rfl rfl) <|
      sq rfl (q_move rfl) <|
      sq rfl (q_idx_row ty55 ty54 1 rfl rfl rfl (by omega)) <|
      sq rfl (q_fld_row ty54 1 rfl rfl (by omega) rfl (s' := 0) kQ) <|
      sq rfl (q_ld_rowK1 Dk.secC_len Dk.s0 ty9 1 rfl rfl rfl (by omega) (by decide) rfl) <|
      sq rfl (q_assign rfl) <|
      sq rfl (q_assign rfl) <|
      sq_end) ?_
    clear hF hS; intro a w hF hS
    refine hK10 _ _ ?_
    clear hK10
    refine wp_ret ?_
    exact fn_retx (rs := [.tmp 4, .tmp 5]) rfl hF hS (vs := [_, _]) ⟨rfl, rfl, trivial⟩ [] [_, _] sQ sQ (Dk.rdr_of (S := S) ⟨rfl, rfl, rfl⟩ (rfl) (by rw [Dk.read_nx hc0 hc3]; rfl))
   ·refine wp_skip ?_
    refine hK8 _ _ ?_
    clear hK8
    refine wp_seq_k ?_; intro K11 hK11
    refine reg hF hS (sq rfl (q_move rfl) <|
      sq rfl (q_nilCheck rfl) <|
      sq rfl (q_fieldAddr ty57 rfl rfl (s' := 0) kQ) <|
      sq rfl (q_ld_blk1 ty55 0 rfl rfl rfl rfl) <|
      sq rfl (q_move rfl) <|
      sq rfl (q_idx_row ty55 ty54 1 rfl rfl rfl (by omega)) <|
      sq rfl (q_fld_row ty54 1 rfl rfl (by omega) rfl (s' := 0) kQ) <|
      sq rfl (q_ld_rowK1 Dk.secC_len Dk.s0 ty9 1 rfl rfl rfl (by omega) (by decide) rfl) <|
      sq rfl (q_assign rfl) <|
      sq rfl (q_assign rfl) <|
      sq_end) ?_
    clear hF hS; intro a w hF hS
    refine hK11 _ _ ?_
    clear hK11
    refine wp_ret ?_
    exact fn_retx (rs := [.tmp 4, .tmp 5]) rfl hF hS (vs := [_, _]) ⟨rfl, rfl, trivial⟩ [] [_, _] sQ sQ (Dk.rdr_of (S := S) ⟨rfl, rfl, rfl⟩ (rfl) (by rw [Dk.read_tx hc0 (by show ¬ (S.s.getD i.toNat Dk.s0).dt = true; rw [hc3]; simp)]; rfl))
end Go.Proofs.Ytbgbfmdnpjpdgaa
