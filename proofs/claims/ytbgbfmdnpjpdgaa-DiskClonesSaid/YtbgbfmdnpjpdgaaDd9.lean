/- A text of a proof over this seat: walks over the program's functions and the plain laws that they need. -/
import Derived.Test.YtbgbfmdnpjpdgaaDd8
import Derived.Test.YtbgbfmdnpjpdgaaDkA
import Derived.Test.YtbgbfmdnpjpdgaaFwD
import Derived.Test.YtbgbfmdnpjpdgaaFwB
set_option linter.all false
namespace Go.Proofs.Ytbgbfmdnpjpdgaa
open Go.Fw
theorem ty33 : Tf Try.prog 33 (.struct #[⟨ "Kind", 3, 0, false, "", "", 0⟩, ⟨ "I", 3, 1, false, "", "", 8⟩, ⟨ "Bit", 3, 2, false, "", "", 16⟩, ⟨ "Text", 9, 3, false, "", "", 24⟩, ⟨ "Picks", 31, 4, false, "", "", 40⟩]) 5 64 (.agg ([Value.int .i64 0, Value.int .i64 0, Value.int .i64 0] ++ [Value.string ⟨(List.nil : List UInt8).toArray⟩] ++ [Value.slice none 0 0]).toArray) := ⟨Try.underlying33, by kernel_rfl⟩

set_option maxRecDepth 4000 in
set_option maxHeartbeats 2000000 in
theorem rimage_ct {b : Nat} {v : Value} {S : Dk.Dsk} (w0 : World) (zsr : List PH) (hO : Dk.Ok S) : Cx Try.prog 40 [.pointer (some ⟨b, 0, none⟩)] w0 zsr [RRB b v S, RRW v S] (RRDs b v S (Dk.image S).length ((Dk.image S).map vs)) := by
 refine fn_enterx Try.func40 rfl Try.ntmps40 (Nat.le_of_ble_eq_true rfl) fun hsr a w hF hS => ?_
 replace hS : St _ (_) (_ :: _ :: _) _ := hS
 have hlo := hO.lo
 have hhi := hO.hi
 have hlf := hO.lf
 have hlg := hO.lf2
 refine wp_seq_k ?_; intro K1 hK1
 refine reg hF hS (sq rfl (q_assign rfl) <|
   sq_end) ?_
 clear hF hS; intro a w hF hS
 refine hK1 _ _ ?_
 clear hK1
 refine wp_seq_k ?_; intro K2 hK2
 refine reg hF hS (sq rfl (q_assign rfl) <|
   sq_end) ?_
 clear hF hS; intro a w hF hS
 replace hS := hS.nilRow 9 1
 refine hK2 _ _ ?_
 clear hK2
 refine wp_seq_k ?_; intro K3 hK3
 refine wp_seq_k ?_; intro K4 hK4
 refine reg hF hS (sq rfl (q_assign rfl) <|
   sq_end) ?_
 clear hF hS; intro a w hF hS
 refine hK4 _ _ ?_
 clear hK4
 refine wp_block ?_
 obtain ⟨hs0, hhs0, hS⟩ : ∃ h, h = _ ∧ St _ _ h _ := ⟨_, rfl, hS⟩
 refine wp_loopx (γ := Value × Nat) ((Value.slice none 0 0), 0) (fun (gg : Value × Nat) => match gg with | (u, i) => [(3, u), (4, vi (i : Int))]) [(0, _)] (fun (gg : Value × Nat) => match gg with | (u, i) => (hs0.set 0 (.row u 9 1 i (((Dk.image S).take i).map vs)))) (fun (gg : Value × Nat) => match gg with | (u, i) => i ≤ S.s.length) (fun (gg : Value × Nat) => match gg with | (u, i) => S.s.length - i) (hF.sub ⟨rfl, rfl, rfl, trivial⟩) (by subst hhs0; exact hS) (by exact Nat.zero_le _) ?_
 clear hF hS; rintro ⟨u, i⟩ a w hfact hF hS
 subst hhs0; (try dsimp only at hfact); (try dsimp only at hF); (try dsimp only at hS)
 have hi0 := hfact
 replace hS : St _ (_) (_ :: _ :: _ :: _) _ := hS
 refine wp_seq_k ?_; intro K5 hK5
 refine wp_seq_k ?_; intro K6 hK6
 refine reg hF hS (sq rfl (q_move rfl) <|
   sq rfl (q_move rfl) <|
   sq rfl (q_nilCheck rfl) <|
   sq rfl (q_fieldAddr ty57 rfl rfl (s' := 0) kQ) <|
   sq rfl (q_ld_blk1 ty55 1 rfl rfl rfl rfl) <|
   sq rfl (q_len_row ty55 2 rfl rfl) <|
   sq rfl (q_lti rfl rfl) <|
   sq_end) ?_
 clear hF hS; intro a w hF hS
 refine hK6 _ _ ?_
 clear hK6
 refine wp_ifd hF rfl (fun hc1 => ?_) (fun hc1 => ?_)
 ·refine wp_skip ?_
  refine hK5 _ _ ?_
  clear hK5
  refine wp_seq_k ?_; intro K7 hK7
  refine wp_block ?_
  refine regl ?_
  refine wpl_sq hF hS (sq rfl (q_move rfl) <|
    sq rfl (q_move rfl) <|
    sq rfl (q_nilCheck rfl) <|
    sq rfl (q_fieldAddr ty57 rfl rfl (s' := 0) kQ) <|
    sq rfl (q_ld_blk1 ty55 1 rfl rfl rfl rfl) <|
    sq rfl (q_move rfl) <|
    sq rfl (q_idx_row ty55 ty54 2 rfl rfl rfl (by omega)) <|
    sq rfl (q_fld_row ty54 2 rfl rfl (by omega) rfl (s' := 0) kQ) <|
    sq rfl (q_ld_rowK1 Dk.secC_len Dk.s0 ty9 2 rfl rfl rfl (by omega) (by decide) rfl) <|
    sq_end) ?_
  clear hF hS; intro a w hF hS
  refine wpl_ef hF hS rfl (ef_bsliceA ty39 ty9 rfl rfl oQ (by decide) rfl rfl) ?_
  clear hF hS; rintro v2 _ _ a w ⟨rfl, rfl⟩ hF hS
  replace hS : St _ (_) (_ :: _ :: _ :: _ :: _) _ := hS
  refine wpl_ef hF hS rfl (ef_append ty39 ty9 1 rfl rfl rfl (src_row ty39 (k := 0) rfl oQ) bQ rfl (by decide)) ?_
  clear hF hS; rintro v4 _ _ a w ⟨rfl, rfl⟩ hF hS
  replace hS : St _ (_) (_ :: _ :: _ :: _ :: _) _ := hS
  refine wpl_sq hF hS (sq rfl (q_assign rfl) <|
    sq_end) ?_
  clear hF hS; intro a w hF hS
  refine wpList_nil ?_
  refine hK7 _ _ ?_
  clear hK7
  refine reg hF hS (sq rfl (q_move rfl) <|
    sq rfl (q_addi rfl rfl (by omega)) <|
    sq rfl (q_assign rfl) <|
    sq_end) ?_
  clear hF hS; intro a w hF hS
  replace hS := hS.keep sQ (sQ.n)
  refine ⟨(v4, i + 1), ?_, ?_, hF.sub ⟨rfl, rfl, rfl, trivial⟩, ?_⟩
  ·(try dsimp only); omega
  ·omega
  ·dsimp only [List.set_cons_zero]; rw [Dk.imt_1 S (i := i) (by omega), List.map_append]; exact hS
 ·have hil : (Dk.image S).length = S.s.length := by simp [Dk.image]
  refine wp_exit ?_
  refine hK3 _ _ ?_
  clear hK3
  refine wp_seq_k ?_; intro K8 hK8
  refine reg hF hS (sq rfl (q_move rfl) <|
    sq rfl (q_assign rfl) <|
    sq_end) ?_
  clear hF hS; intro a w hF hS
  refine hK8 _ _ ?_
  clear hK8
  refine wp_ret ?_
  exact fn_retx (rs := [.tmp 2]) rfl hF hS (vs := [_]) ⟨rfl, trivial⟩ [] [_, _, _] sQ sQ (Dk.rdrw_of ⟨rfl, rfl⟩ (by omega) (by rw [List.take_of_length_le (by omega)]))

set_option maxRecDepth 4000 in
set_option maxHeartbeats 2000000 in
theorem rpending_ct {b : Nat} {v : Value} {S : Dk.Dsk} (w0 : World) (zsr : List PH) (hO : Dk.Ok S) : Cx Try.prog 42 [.pointer (some ⟨b, 0, none⟩)] w0 zsr [RRB b v S, RRW v S] (RRDi b v S (Dk.dix S).length ((Dk.dix S).map vi)) := by
 refine fn_enterx Try.func42 rfl Try.ntmps42 (Nat.le_of_ble_eq_true rfl) fun hsr a w hF hS => ?_
 replace hS : St _ (_) (_ :: _ :: _) _ := hS
 have hlo := hO.lo
 have hhi := hO.hi
 have hlf := hO.lf
 have hlg := hO.lf2
 refine wp_seq_k ?_; intro K1 hK1
 refine reg hF hS (sq rfl (q_assign rfl) <|
   sq_end) ?_
 clear hF hS; intro a w hF hS
 refine hK1 _ _ ?_
 clear hK1
 refine wp_seq_k ?_; intro K2 hK2
 refine reg hF hS (sq rfl (q_assign rfl) <|
   sq_end) ?_
 clear hF hS; intro a w hF hS
 replace hS := hS.nilRow 3 1
 refine hK2 _ _ ?_
 clear hK2
 refine wp_seq_k ?_; intro K3 hK3
 refine wp_seq_k ?_; intro K4 hK4
 refine reg hF hS (sq rfl (q_assign rfl) <|
   sq_end) ?_
 clear hF hS; intro a w hF hS
 refine hK4 _ _ ?_
 clear hK4
 refine wp_block ?_
 obtain ⟨hs0, hhs0, hS⟩ : ∃ h, h = _ ∧ St _ _ h _ := ⟨_, rfl, hS⟩
 refine wp_loopx (γ := Value × Nat) ((Value.slice none 0 0), 0) (fun (gg : Value × Nat) => match gg with | (u, i) => [(3, u), (4, vi (i : Int))]) [(0, _)] (fun (gg : Value × Nat) => match gg with | (u, i) => (hs0.set 0 (.row u 3 1 (Dk.ixt (·.dt) S i).length ((Dk.ixt (·.dt) S i).map vi)))) (fun (gg : Value × Nat) => match gg with | (u, i) => i ≤ S.s.length) (fun (gg : Value × Nat) => match gg with | (u, i) => S.s.length - i) (hF.sub ⟨rfl, rfl, rfl, trivial⟩) (by subst hhs0; exact hS) (by exact Nat.zero_le _) ?_
 clear hF hS; rintro ⟨u, i⟩ a w hfact hF hS
 subst hhs0; (try dsimp only at hfact); (try dsimp only at hF); (try dsimp only at hS)
 have hi0 := hfact
 replace hS : St _ (_) (_ :: _ :: _ :: _) _ := hS
 have hxl := Dk.ixt_len (·.dt) S i
 refine wp_seq_k ?_; intro K5 hK5
 refine wp_seq_k ?_; intro K6 hK6
 refine reg hF hS (sq rfl (q_move rfl) <|
   sq rfl (q_move rfl) <|
   sq rfl (q_nilCheck rfl) <|
   sq rfl (q_fieldAddr ty57 rfl rfl (s' := 0) kQ) <|
   sq rfl (q_ld_blk1 ty55 1 rfl rfl rfl rfl) <|
   sq rfl (q_len_row ty55 2 rfl rfl) <|
   sq rfl (q_lti rfl rfl) <|
   sq_end) ?_
 clear hF hS; intro a w hF hS
 refine hK6 _ _ ?_
 clear hK6
 refine wp_ifd hF rfl (fun hc1 => ?_) (fun hc1 => ?_)
 ·refine wp_skip ?_
  refine hK5 _ _ ?_
  clear hK5
  refine wp_seq_k ?_; intro K7 hK7
  refine wp_block ?_
  refine wp_seq_k ?_; intro K8 hK8
  refine reg hF hS (sq rfl (q_move rfl) <|
    sq rfl (q_nilCheck rfl) <|
    sq rfl (q_fieldAddr ty57 rfl rfl (s' := 0) kQ) <|
    sq rfl (q_ld_blk1 ty55 1 rfl rfl rfl rfl) <|
    sq rfl (q_move rfl) <|
    sq rfl (q_idx_row ty55 ty54 2 rfl rfl rfl (by omega)) <|
    sq rfl (q_fld_row ty54 2 rfl rfl (by omega) rfl (s' := 0) kQ) <|
    sq rfl (q_ld_rowK1 Dk.secC_len Dk.s0 ty4 2 rfl rfl rfl (by omega) (by decide) rfl) <|
    sq_end) ?_
  clear hF hS; intro a w hF hS
  refine hK8 _ _ ?_
  clear hK8
  refine wp_if hF rfl (fun hc2 => ?_) (fun hc2 => ?_)
  ·have hd9 : (S.at (i : Int)).dt = true := hc2
   refine regl ?_
   refine wpl_sq hF hS (sq rfl (q_move rfl) <|
     sq rfl (q_move rfl) <|
     sq_end) ?_
   clear hF hS; intro a w hF hS
   refine wpl_ef hF hS rfl (ef_bsliceA ty31 ty3 rfl rfl oQ (by decide) rfl rfl) ?_
   clear hF hS; rintro v2 _ _ a w ⟨rfl, rfl⟩ hF hS
   replace hS : St _ (_) (_ :: _ :: _ :: _ :: _) _ := hS
   refine wpl_ef hF hS rfl (ef_append ty31 ty3 1 rfl rfl rfl (src_row ty31 (k := 0) rfl oQ) bQ rfl (by decide)) ?_
   clear hF hS; rintro v4 _ _ a w ⟨rfl, rfl⟩ hF hS
   replace hS : St _ (_) (_ :: _ :: _ :: _ :: _) _ := hS
   refine wpl_sq hF hS (sq rfl (q_assign rfl) <|
     sq_end) ?_
   clear hF hS; intro a w hF hS
   refine wpList_nil ?_
   refine hK7 _ _ ?_
   clear hK7
   refine reg hF hS (sq rfl (q_move rfl) <|
     sq rfl (q_addi rfl rfl (by omega)) <|
     sq rfl (q_assign rfl) <|
     sq_end) ?_
   clear hF hS; intro a w hF hS
   replace hS := hS.keep sQ (sQ.n)
   refine ⟨(v4, i + 1), ?_, ?_, hF.sub ⟨rfl, rfl, rfl, trivial⟩, ?_⟩
   ·(try dsimp only); omega
   ·omega
   ·dsimp only [List.set_cons_zero]; rw [Dk.ixt_1 (·.dt) S (i := i) (by omega), if_pos hd9, List.length_append, List.map_append]; exact hS
  ·have hd9 : (S.at (i : Int)).dt = false := hc2
   refine wp_skip ?_
   refine hK7 _ _ ?_
   clear hK7
   refine reg hF hS (sq rfl (q_move rfl) <|
     sq rfl (q_addi rfl rfl (by omega)) <|
     sq rfl (q_assign rfl) <|
     sq_end) ?_
   clear hF hS; intro a w hF hS
   refine ⟨(u, i + 1), ?_, ?_, hF.sub ⟨rfl, rfl, rfl, trivial⟩, ?_⟩
   ·(try dsimp only); omega
   ·omega
   ·dsimp only [List.set_cons_zero]; rw [Dk.ixt_1 (·.dt) S (i := i) (by omega), if_neg (by rw [hd9]; simp)]; exact hS
 ·refine wp_exit ?_
  refine hK3 _ _ ?_
  clear hK3
  refine wp_seq_k ?_; intro K9 hK9
  refine reg hF hS (sq rfl (q_move rfl) <|
    sq rfl (q_assign rfl) <|
    sq_end) ?_
  clear hF hS; intro a w hF hS
  refine hK9 _ _ ?_
  clear hK9
  refine wp_ret ?_
  exact fn_retx (rs := [.tmp 2]) rfl hF hS (vs := [_]) ⟨rfl, trivial⟩ [] [_, _, _] sQ sQ (Dk.rdrw_of ⟨rfl, rfl⟩ (by rw [Dk.ixt_end _ S (by omega)]; rfl) (by rw [Dk.ixt_end _ S (by omega)]; rfl))

set_option maxRecDepth 4000 in
set_option maxHeartbeats 2000000 in
theorem rworn_ct {b : Nat} {v : Value} {S : Dk.Dsk} (w0 : World) (zsr : List PH) (hO : Dk.Ok S) : Cx Try.prog 43 [.pointer (some ⟨b, 0, none⟩)] w0 zsr [RRB b v S, RRW v S] (RRDi b v S (Dk.wix S).length ((Dk.wix S).map vi)) := by
 refine fn_enterx Try.func43 rfl Try.ntmps43 (Nat.le_of_ble_eq_true rfl) fun hsr a w hF hS => ?_
 replace hS : St _ (_) (_ :: _ :: _) _ := hS
 have hlo := hO.lo
 have hhi := hO.hi
 have hlf := hO.lf
 have hlg := hO.lf2
 refine wp_seq_k ?_; intro K1 hK1
 refine reg hF hS (sq rfl (q_assign rfl) <|
   sq_end) ?_
 clear hF hS; intro a w hF hS
 refine hK1 _ _ ?_
 clear hK1
 refine wp_seq_k ?_; intro K2 hK2
 refine reg hF hS (sq rfl (q_assign rfl) <|
   sq_end) ?_
 clear hF hS; intro a w hF hS
 replace hS := hS.nilRow 3 1
 refine hK2 _ _ ?_
 clear hK2
 refine wp_seq_k ?_; intro K3 hK3
 refine wp_seq_k ?_; intro K4 hK4
 refine reg hF hS (sq rfl (q_assign rfl) <|
   sq_end) ?_
 clear hF hS; intro a w hF hS
 refine hK4 _ _ ?_
 clear hK4
 refine wp_block ?_
 obtain ⟨hs0, hhs0, hS⟩ : ∃ h, h = _ ∧ St _ _ h _ := ⟨_, rfl, hS⟩
 refine wp_loopx (γ := Value × Nat) ((Value.slice none 0 0), 0) (fun (gg : Value × Nat) => match gg with | (u, i) => [(3, u), (4, vi (i : Int))]) [(0, _)] (fun (gg : Value × Nat) => match gg with | (u, i) => (hs0.set 0 (.row u 3 1 (Dk.ixt (·.wn) S i).length ((Dk.ixt (·.wn) S i).map vi)))) (fun (gg : Value × Nat) => match gg with | (u, i) => i ≤ S.s.length) (fun (gg : Value × Nat) => match gg with | (u, i) => S.s.length - i) (hF.sub ⟨rfl, rfl, rfl, trivial⟩) (by subst hhs0; exact hS) (by exact Nat.zero_le _) ?_
 clear hF hS; rintro ⟨u, i⟩ a w hfact hF hS
 subst hhs0; (try dsimp only at hfact); (try dsimp only at hF); (try dsimp only at hS)
 have hi0 := hfact
 replace hS : St _ (_) (_ :: _ :: _ :: _) _ := hS
 have hxl := Dk.ixt_len (·.wn) S i
 refine wp_seq_k ?_; intro K5 hK5
 refine wp_seq_k ?_; intro K6 hK6
 refine reg hF hS (sq rfl (q_move rfl) <|
   sq rfl (q_move rfl) <|
   sq rfl (q_nilCheck rfl) <|
   sq rfl (q_fieldAddr ty57 rfl rfl (s' := 0) kQ) <|
   sq rfl (q_ld_blk1 ty55 1 rfl rfl rfl rfl) <|
   sq rfl (q_len_row ty55 2 rfl rfl) <|
   sq rfl (q_lti rfl rfl) <|
   sq_end) ?_
 clear hF hS; intro a w hF hS
 refine hK6 _ _ ?_
 clear hK6
 refine wp_ifd hF rfl (fun hc1 => ?_) (fun hc1 => ?_)
 ·refine wp_skip ?_
  refine hK5 _ _ ?_
  clear hK5
  refine wp_seq_k ?_; intro K7 hK7
  refine wp_block ?_
  refine wp_seq_k ?_; intro K8 hK8
  refine reg hF hS (sq rfl (q_move rfl) <|
    sq rfl (q_nilCheck rfl) <|
    sq rfl (q_fieldAddr ty57 rfl rfl (s' := 0) kQ) <|
    sq rfl (q_ld_blk1 ty55 1 rfl rfl rfl rfl) <|
    sq rfl (q_move rfl) <|
    sq rfl (q_idx_row ty55 ty54 2 rfl rfl rfl (by omega)) <|
    sq rfl (q_fld_row ty54 2 rfl rfl (by omega) rfl (s' := 0) kQ) <|
    sq rfl (q_ld_rowK1 Dk.secC_len Dk.s0 ty4 2 rfl rfl rfl (by omega) (by decide) rfl) <|
    sq_end) ?_
  clear hF hS; intro a w hF hS
  refine hK8 _ _ ?_
  clear hK8
  refine wp_if hF rfl (fun hc2 => ?_) (fun hc2 => ?_)
  ·have hd9 : (S.at (i : Int)).wn = true := hc2
   refine regl ?_
   refine wpl_sq hF hS (sq rfl (q_move rfl) <|
     sq rfl (q_move rfl) <|
     sq_end) ?_
   clear hF hS; intro a w hF hS
   refine wpl_ef hF hS rfl (ef_bsliceA ty31 ty3 rfl rfl oQ (by decide) rfl rfl) ?_
   clear hF hS; rintro v2 _ _ a w ⟨rfl, rfl⟩ hF hS
   replace hS : St _ (_) (_ :: _ :: _ :: _ :: _) _ := hS
   refine wpl_ef hF hS rfl (ef_append ty31 ty3 1 rfl rfl rfl (src_row ty31 (k := 0) rfl oQ) bQ rfl (by decide)) ?_
   clear hF hS; rintro v4 _ _ a w ⟨rfl, rfl⟩ hF hS
   replace hS : St _ (_) (_ :: _ :: _ :: _ :: _) _ := hS
   refine wpl_sq hF hS (sq rfl (q_assign rfl) <|
     sq_end) ?_
   clear hF hS; intro a w hF hS
   refine wpList_nil ?_
   refine hK7 _ _ ?_
   clear hK7
   refine reg hF hS (sq rfl (q_move rfl) <|
     sq rfl (q_addi rfl rfl (by omega)) <|
     sq rfl (q_assign rfl) <|
     sq_end) ?_
   clear hF hS; intro a w hF hS
   replace hS := hS.keep sQ (sQ.n)
   refine ⟨(v4, i + 1), ?_, ?_, hF.sub ⟨rfl, rfl, rfl, trivial⟩, ?_⟩
   ·(try dsimp only); omega
   ·omega
   ·dsimp only [List.set_cons_zero]; rw [Dk.ixt_1 (·.wn) S (i := i) (by omega), if_pos hd9, List.length_append, List.map_append]; exact hS
  ·have hd9 : (S.at (i : Int)).wn = false := hc2
   refine wp_skip ?_
   refine hK7 _ _ ?_
   clear hK7
   refine reg hF hS (sq rfl (q_move rfl) <|
     sq rfl (q_addi rfl rfl (by omega)) <|
     sq rfl (q_assign rfl) <|
     sq_end) ?_
   clear hF hS; intro a w hF hS
   refine ⟨(u, i + 1), ?_, ?_, hF.sub ⟨rfl, rfl, rfl, trivial⟩, ?_⟩
   ·(try dsimp only); omega
   ·omega
   ·dsimp only [List.set_cons_zero]; rw [Dk.ixt_1 (·.wn) S (i := i) (by omega), if_neg (by rw [hd9]; simp)]; exact hS
 ·refine wp_exit ?_
  refine hK3 _ _ ?_
  clear hK3
  refine wp_seq_k ?_; intro K9 hK9
  refine reg hF hS (sq rfl (q_move rfl) <|
    sq rfl (q_assign rfl) <|
    sq_end) ?_
  clear hF hS; intro a w hF hS
  refine hK9 _ _ ?_
  clear hK9
  refine wp_ret ?_
  exact fn_retx (rs := [.tmp 2]) rfl hF hS (vs := [_]) ⟨rfl, trivial⟩ [] [_, _, _] sQ sQ (Dk.rdrw_of ⟨rfl, rfl⟩ (by rw [Dk.ixt_end _ S (by omega)]; rfl) (by rw [Dk.ixt_end _ S (by omega)]; rfl))

set_option maxRecDepth 4000 in
set_option maxHeartbeats 2000000 in
theorem rnew_ct (n : Nat) (hn : 1 ≤ n ∧ n ≤ 4096) (w : World) : Ct Try.prog 32 [vi (n : Int)] w (fun r zs hs => zs = [] ∧ ∃ b v, r = .tuple [.pointer (some ⟨b, 0, none⟩), vi 0].toArray ∧ hs = [RRB b v (Dk.new n), RRW v (Dk.new n)]) := by
 refine fn_enter Try.func32 rfl Try.ntmps32 (Nat.le_of_ble_eq_true rfl) fun a hF hS => ?_
 refine wp_seq_k ?_; intro K1 hK1
 refine reg hF hS (sq rfl (q_assign rfl) <|
   sq rfl (q_assign rfl) <|
   sq_end) ?_
 clear hF hS; intro a w hF hS
 refine hK1 _ _ ?_
 clear hK1
 refine wp_seq_k ?_; intro K2 hK2
 refine wp_seq_k ?_; intro K3 hK3
 refine regl ?_
 refine wpl_sq hF hS (sq rfl (q_move rfl) <|
   sq rfl (q_lti rfl rfl) <|
   sq rfl (q_move rfl) <|
   sq_end) ?_
 clear hF hS; intro a w hF hS
 refine wpl_or 2 8 2 hF hS rfl rfl rfl rfl rfl (fun hg => have hg := (by first | exact of_decide_eq_false hg | exact hg); sq_go 8 rfl rfl rfl (q_move rfl) <|
   sq_go 8 rfl rfl rfl (q_gti rfl rfl) <|
   sq_end) rfl rfl ?_
 clear hF hS; intro a w hF hS
 refine wpList_nil ?_
 refine hK3 _ _ ?_
 clear hK3
 refine wp_if hF rfl (fun hc1 => ?_) (fun hc1 => ?_)
 ·(try simp only [Bool.or_eq_true, Bool.and_eq_true, Bool.or_eq_false_iff, Bool.and_eq_false_iff, decide_eq_true_eq, decide_eq_false_iff_not, Bool.not_eq_true', Bool.not_eq_false'] at hc1)
  exfalso; omega
 ·(try simp only [Bool.or_eq_true, Bool.and_eq_true, Bool.or_eq_false_iff, Bool.and_eq_false_iff, decide_eq_true_eq, decide_eq_false_iff_not, Bool.not_eq_true', Bool.not_eq_false'] at hc1)
  refine wp_skip ?_
  refine hK2 _ _ ?_
  clear hK2
  refine wp_seq_k ?_; intro K4 hK4
  refine regl ?_
  refine wpl_sq hF hS (sq rfl (q_buildP (places := [(0, 1), (1, 1), (2, 1)]) (cells := [.slice none 0 0, .bool false, _]) ty57 kQ rfl (by rfl)) <|
    sq_end) ?_
  clear hF hS; intro a w hF hS
  refine wpl_ef hF hS rfl (ef_boxA rfl) ?_
  clear hF hS; rintro _ _ _ a w ⟨b1, rfl, rfl, rfl⟩ hF hS
  refine wpl_sq hF hS (sq rfl (q_assign rfl) <|
    sq_end) ?_
  clear hF hS; intro a w hF hS
  refine wpList_nil ?_
  replace hS := hS.nilRow 54 4
  replace hS : St _ [] [_, _] _ := hS
  refine hK4 _ _ ?_
  clear hK4
  refine wp_seq_k ?_; intro K5 hK5
  refine wp_seq_k ?_; intro K6 hK6
  refine reg hF hS (sq rfl (q_assign rfl) <|
    sq_end) ?_
  clear hF hS; intro a w hF hS
  refine hK6 _ _ ?_
  clear hK6
  refine wp_block ?_
  obtain ⟨hs0, hhs0, hS⟩ : ∃ h, h = _ ∧ St _ _ h _ := ⟨_, rfl, hS⟩
  refine wp_loopx (γ := Value × Nat) ((Value.slice none 0 0), 0) (fun (gg : Value × Nat) => match gg with | (u, i) => [(5, vi (i : Int))]) [(0, _), (4, _)] (fun (gg : Value × Nat) => match gg with | (u, i) => ((hs0.set 1 (.blk b1 57 [u, .bool false, vi (-1)])).set 0 (.row u 54 4 i ((Dk.new i).s.flatMap Dk.secC)))) (fun (gg : Value × Nat) => match gg with | (u, i) => i ≤ n) (fun (gg : Value × Nat) => match gg with | (u, i) => n - i) (hF.sub ⟨rfl, rfl, rfl, trivial⟩) (by subst hhs0; exact hS) (by exact Nat.zero_le _) ?_
  clear hF hS; rintro ⟨u, i⟩ a w hfact hF hS
  subst hhs0; (try dsimp only at hfact); (try dsimp only at hF); (try dsimp only at hS)
  have hi0 := hfact
  replace hS : St _ [] [_, _] _ := hS
  refine wp_seq_k ?_; intro K7 hK7
  refine wp_seq_k ?_; intro K8 hK8
  refine reg hF hS (sq rfl (q_move rfl) <|
    sq rfl (q_move rfl) <|
    sq rfl (q_lti rfl rfl) <|
    sq_end) ?_
  clear hF hS; intro a w hF hS
  refine hK8 _ _ ?_
  clear hK8
  refine wp_ifd hF rfl (fun hc2 => ?_) (fun hc2 => ?_)
  ·refine wp_skip ?_
   refine hK7 _ _ ?_
   clear hK7
   refine wp_seq_k ?_; intro K9 hK9
   refine wp_block ?_
   revert hS; revert hF; apply regJ (J := J3 (α0 := Value) (α1 := Value) (α2 := Value) 32 _ _ _ _ _) #[false, false, false, false, false, false, false, false, false, false, false, false, false] 13 mixed rfl rfl
   ·intro w hF hS
    refine goW_take 0 _ rfl kQ rfl hF (hS.keep sQ zQ) (q_move rfl) ?_
    clear hF; intro a hF
    refine goW_take 1 _ rfl kQ rfl hF (hS.keep sQ zQ) (q_move rfl) ?_
    clear hF; intro a hF
    refine goW_take 2 _ rfl kQ rfl hF (hS.keep sQ zQ) (q_nilCheck rfl) ?_
    clear hF; intro a hF
    refine goW_take 3 _ rfl kQ rfl hF (hS.keep sQ zQ) (q_fieldAddr ty57 rfl rfl (s' := 0) kQ) ?_
    clear hF; intro a hF
    refine goW_take 4 _ rfl kQ rfl hF (hS.keep sQ (sQ.n)) (q_ld_blk1 ty55 0 rfl rfl rfl rfl) ?_
    clear hF; intro a hF
    refine gQ 5 rfl rfl hF hS rfl (ef_mks (m := 64) ty72 ty5 rfl rfl (by decide) (by decide) rfl) ?_
    clear hF hS; rintro v_7_5 _ _ a w ⟨rfl, rfl⟩ hF hS
    refine ⟨⟨.inr (hS.k1 (sQ.n.n)), .inr hS.k0, .inr hS.k0, .inr hS.k0, .inr hS.k0, trivial⟩, ?_⟩
    refine goW_take 6 _ rfl kQ rfl hF (hS.keep sQ (zQ.k)) (q_b2s_row (xs := Dk.z64) ty72 ty9 ty5 0 rfl rfl) ?_
    clear hF; intro a hF
    refine goW_take 7 _ rfl kQ rfl hF (hS.keep sQ zQ) (q_build1 ty54 4 kQ rfl rfl rfl (by decide)) ?_
    clear hF; intro a hF
    refine gQ 8 rfl rfl hF hS rfl (ef_bsliceW ty55 ty54 rfl bQ (by decide) oQ (by decide) (by decide)) ?_
    clear hF hS; rintro v_7_8 _ _ a w ⟨rfl, rfl⟩ hF hS
    refine ⟨⟨iQ, iQ, .inr (hS.k1 (sQ.n.n.n)), .inr hS.k0, .inr hS.k0, .inr hS.k0, .inr hS.k0, trivial⟩, ?_⟩
    refine gQ 9 rfl rfl hF hS rfl (ef_append ty55 ty54 2 rfl rfl rfl (src_row ty55 (k := 0) rfl oQ) bQ rfl (by decide)) ?_
    clear hF hS; rintro v_7_9 _ _ a w ⟨rfl, rfl⟩ hF hS
    refine ⟨⟨iQ, iQ, iQ, iQ, .inr hS.k0, .inr hS.k0, .inr hS.k0, trivial⟩, ?_⟩
    refine goW_take 10 _ rfl kQ rfl hF (hS.keep sQ zQ) (q_nilCheck rfl) ?_
    clear hF; intro a hF
    refine goW_take 11 _ rfl kQ rfl hF (hS.keep sQ zQ) (q_fieldAddr ty57 rfl rfl (s' := 0) kQ) ?_
    clear hF; intro a hF
    refine gQ 12 rfl rfl hF hS rfl (ef_store1 ty55 3 rfl rfl rfl (row_one (hS.own _ (List.mem_of_getElem? (i := 2) rfl)).1) (by simp)) ?_
    clear hF hS; rintro _ _ _ a w ⟨rfl, rfl, rfl⟩ hF hS
    replace hS : St _ [] [_, _, _, .blk _ _ ([_, _, _].set 0 _)] _ := hS
    simp only [List.set_cons_zero, List.set_cons_succ] at hS
    replace hS : St _ [] [_, _, _, _] _ := hS
    refine ⟨⟨iQ, iQ, iQ, iQ, iQ, iQ, iQ, iQ, iQ, trivial⟩, ?_⟩
    exact goW_done kQ (j3_mk v_7_5 v_7_8 v_7_9 (trivial) (hF.sub (L' := [(0, _), (4, _), (5, _)]) ⟨rfl, rfl, rfl, trivial⟩) hS)
   rintro a w ⟨v_7_5, v_7_8, v_7_9, -, hF, hS⟩
   (try dsimp only at hF); (try dsimp only at hS)
   refine hK9 _ _ ?_
   clear hK9
   refine reg hF hS (sq rfl (q_move rfl) <|
     sq rfl (q_addi rfl rfl (by omega)) <|
     sq rfl (q_assign rfl) <|
     sq_end) ?_
   clear hF hS; intro a w hF hS
   replace hS := hS.keep zQ (sQ.n.n)
   refine ⟨(v_7_9, i + 1), ?_, ?_, hF.sub ⟨rfl, rfl, rfl, trivial⟩, ?_⟩
   ·(try dsimp only); omega
   ·omega
   ·dsimp only [List.set_cons_zero, List.set_cons_succ]; rw [Dk.new_take i, List.flatMap_append]; exact hS
  ·refine wp_exit ?_
   refine hK5 _ _ ?_
   clear hK5
   refine wp_seq_k ?_; intro K10 hK10
   refine reg hF hS (sq rfl (q_move rfl) <|
     sq rfl (q_assign rfl) <|
     sq rfl (q_assign rfl) <|
     sq_end) ?_
   clear hF hS; intro a w hF hS
   refine hK10 _ _ ?_
   clear hK10
   refine wp_ret ?_
   replace hS := hS.perm (.swap _ _ _)
   exact fn_ret (rs := [.tmp 2, .tmp 3]) rfl hF hS (vs := [_, _]) ⟨rfl, rfl, trivial⟩ sQ sQ ⟨rfl, b1, u, rfl, by rw [show n = i by omega, Dk.new_rw]⟩

set_option maxRecDepth 4000 in
set_option maxHeartbeats 2000000 in
theorem rclone_ct {b : Nat} {v : Value} {S : Dk.Dsk} (w0 : World) (zsr : List PH) (hO : Dk.Ok S) : Cx Try.prog 29 [.pointer (some ⟨b, 0, none⟩)] w0 zsr [RRB b v S, RRW v S] (fun r zs hs => zs = [] ∧ ∃ b2 v2, r = .pointer (some ⟨b2, 0, none⟩) ∧ hs = [RRB b2 v2 S, RRW v2 S, RRB b v S, RRW v S]) := by
 refine fn_enterx Try.func29 rfl Try.ntmps29 (Nat.le_of_ble_eq_true rfl) fun hsr a w hF hS => ?_
 replace hS : St _ (_) (_ :: _ :: _) _ := hS
 have hlo := hO.lo
 have hhi := hO.hi
 have hlf := hO.lf
 have hlg := hO.lf2
 refine wp_seq_k ?_; intro K1 hK1
 refine reg hF hS (sq rfl (q_assign rfl) <|
   sq_end) ?_
 clear hF hS; intro a w hF hS
 refine hK1 _ _ ?_
 clear hK1
 refine wp_seq_k ?_; intro K2 hK2
 revert hS; revert hF; apply regJ (J := J3 (α0 := Value) (α1 := Value) (α2 := Nat) 19 _ _ _ _ _) #[false, false, false, false, false, false, false, false, false, false, false, false, false, false, false, false, false] 17 mixed rfl rfl
 ·intro w hF hS
  refine goW_take 1 _ rfl kQ rfl hF (hS.keep sQ (sQ.n.n)) (q_move rfl) ?_
  clear hF; intro a hF
  refine goW_take 2 _ rfl kQ rfl hF (hS.keep sQ (sQ.n.n)) (q_nilCheck rfl) ?_
  clear hF; intro a hF
  refine goW_take 3 _ rfl kQ rfl hF (hS.keep sQ (sQ.n.n)) (q_fieldAddr ty57 rfl rfl (s' := 0) kQ) ?_
  clear hF; intro a hF
  refine goW_take 4 _ rfl kQ rfl hF (hS.keep sQ (sQ.n.k)) (q_ld_blk1 ty55 0 rfl rfl rfl rfl) ?_
  clear hF; intro a hF
  refine goW_take 6 _ rfl kQ rfl hF (hS.keep sQ (sQ.n.n)) (q_move rfl) ?_
  clear hF; intro a hF
  refine goW_take 7 _ rfl kQ rfl hF (hS.keep sQ (sQ.n.n)) (q_nilCheck rfl) ?_
  clear hF; intro a hF
  refine goW_take 8 _ rfl kQ rfl hF (hS.keep sQ (sQ.n.n)) (q_fieldAddr ty57 rfl rfl (s' := 0) kQ) ?_
  clear hF; intro a hF
  refine goW_take 9 _ rfl kQ rfl hF (hS.keep sQ (sQ.n.k)) (q_ld_blk1 ty4 0 rfl rfl rfl rfl) ?_
  clear hF; intro a hF
  refine goW_take 10 _ rfl kQ rfl hF (hS.keep sQ (sQ.n.n)) (q_move rfl) ?_
  clear hF; intro a hF
  refine goW_take 11 _ rfl kQ rfl hF (hS.keep sQ (sQ.n.n)) (q_nilCheck rfl) ?_
  clear hF; intro a hF
  refine goW_take 12 _ rfl kQ rfl hF (hS.keep sQ (sQ.n.n)) (q_fieldAddr ty57 rfl rfl (s' := 0) kQ) ?_
  clear hF; intro a hF
  refine goW_take 13 _ rfl kQ rfl hF (hS.keep sQ (sQ.n.k)) (q_ld_blk1 ty3 0 rfl rfl rfl rfl) ?_
  clear hF; intro a hF
  refine gQ 0 rfl rfl hF hS rfl (ef_bslice0 ty55 ty54) ?_
  clear hF hS; rintro v_1_0 _ _ a w ⟨rfl, rfl⟩ hF hS
  replace hS : St _ (_) (_ :: _ :: _ :: _) _ := hS
  refine ⟨⟨.inr (hS.keep sQ (sQ.n.k.n)), .inr (hS.keep sQ (sQ.n.n.n)), .inr (hS.keep sQ (sQ.n.n.n)), .inr (hS.keep sQ (sQ.n.n.n)), .inr (hS.keep sQ (sQ.n.k.n)), .inr (hS.keep sQ (sQ.n.n.n)), .inr (hS.keep sQ (sQ.n.n.n)), .inr (hS.keep sQ (sQ.n.n.n)), .inr (hS.keep sQ (sQ.n.k.n)), .inr (hS.keep sQ (sQ.n.n.n)), .inr (hS.keep sQ (sQ.n.n.n)), .inr (hS.keep sQ (sQ.n.n.n)), trivial⟩, ?_⟩
  refine gQ 5 rfl rfl hF hS rfl (ef_append ty55 ty54 0 rfl rfl rfl (src_row ty55 (k := 2) rfl (Dk.secs_one _)) bQ rfl (by decide)) ?_
  clear hF hS; rintro v_1_5 _ _ a w ⟨rfl, rfl⟩ hF hS
  replace hS : St _ (_) (_ :: _ :: _ :: _) _ := hS
  refine ⟨⟨.inr (hS.keep sQ (sQ.n.k.n)), .inr (hS.keep sQ (sQ.n.n.n)), .inr (hS.keep sQ (sQ.n.n.n)), .inr (hS.keep sQ (sQ.n.n.n)), .inr (hS.keep sQ (sQ.n.k.n)), .inr (hS.keep sQ (sQ.n.n.n)), .inr (hS.keep sQ (sQ.n.n.n)), .inr (hS.keep sQ (sQ.n.n.n)), iQ, iQ, .inr (hS.keep sQ (sQ.n.n.n)), .inr (hS.keep sQ (sQ.n.n.n)), trivial⟩, ?_⟩
  refine goW_take 14 _ rfl kQ rfl hF (hS.keep sQ (sQ.n.n.k)) (q_buildS1 ty57 3 kQ rfl rfl (oc_cons (row_one (hS.own _ (List.mem_of_getElem? (i := 0) rfl)).1) (oc_cons rfl (oc_cons rfl oc_nil))) rfl rfl) ?_
  clear hF; intro a hF
  refine gQ 15 rfl rfl hF hS rfl (ef_boxA rfl) ?_
  clear hF hS; rintro _ _ _ a w ⟨b_1_15, rfl, rfl, rfl⟩ hF hS
  refine ⟨⟨iQ, iQ, .inr (hS.keep sQ (sQ.n.n.n.n)), .inr (hS.keep sQ (sQ.n.n.n.n)), .inr (hS.keep sQ (sQ.n.n.n.n)), iQ, .inr (hS.keep sQ (sQ.n.n.n.n)), .inr (hS.keep sQ (sQ.n.n.n.n)), .inr (hS.keep sQ (sQ.n.n.n.n)), iQ, iQ, .inr (hS.keep sQ (sQ.n.n.n.n)), .inr (hS.keep sQ (sQ.n.n.n.n)), trivial⟩, ?_⟩
  refine goW_take 16 _ rfl kQ rfl hF (hS.keep sQ (sQ.n.n.n.n)) (q_assign rfl) ?_
  clear hF; intro a hF
  exact goW_done kQ (j3_mk v_1_0 v_1_5 b_1_15 (trivial) (hF.sub (L' := [(2, _)]) ⟨rfl, trivial⟩) hS)
 rintro a w ⟨v_1_0, v_1_5, b_1_15, -, hF, hS⟩
 (try dsimp only at hF); (try dsimp only at hS)
 rw [Nat.zero_add, List.nil_append] at hS
 refine hK2 _ _ ?_
 clear hK2
 refine wp_ret ?_
 exact fn_retx (rs := [.tmp 2]) rfl hF hS (vs := [_]) ⟨rfl, trivial⟩ [] [_, _, _, _] sQ sQ ⟨rfl, b_1_15, v_1_5, rfl, rfl⟩

set_option maxRecDepth 4000 in
set_option maxHeartbeats 2000000 in
theorem sametexts_ct (va vb9 : Value) (xs ys : List (List UInt8)) (w : World) (hb1 : Sl Go.Fw.encS (ph w) va xs) (hb2 : Sl Go.Fw.encS (ph w) vb9 ys) : Ct Try.prog 21 [va, vb9] w (fun r _ _ => r = .bool (decide (xs = ys))) := by
 refine fn_enter Try.func21 rfl Try.ntmps21 (Nat.le_of_ble_eq_true rfl) fun a hF hS => ?_
 have hl1 := hb1.1
 have hl2 := hb2.1
 refine wp_seq_k ?_; intro K1 hK1
 refine reg hF hS (sq rfl (q_assign rfl) <|
   sq_end) ?_
 clear hF hS; intro a w hF hS
 refine hK1 _ _ ?_
 clear hK1
 refine wp_seq_k ?_; intro K2 hK2
 refine wp_seq_k ?_; intro K3 hK3
 refine reg hF hS (sq rfl (q_move rfl) <|
   sq rfl (q_len_sl ty39 hb1 rfl) <|
   sq rfl (q_move rfl) <|
   sq rfl (q_len_sl ty39 hb2 rfl) <|
   sq rfl (q_nei rfl rfl) <|
   sq_end) ?_
 clear hF hS; intro a w hF hS
 refine hK3 _ _ ?_
 clear hK3
 refine wp_ifn hF rfl (fun hc1 => ?_) (fun hc1 => ?_)
 ·refine wp_seq_k ?_; intro K4 hK4
  refine reg hF hS (sq rfl (q_assign rfl) <|
    sq_end) ?_
  clear hF hS; intro a w hF hS
  refine hK4 _ _ ?_
  clear hK4
  refine wp_ret ?_
  exact fn_ret (rs := [.tmp 4]) rfl hF hS (vs := [_]) ⟨rfl, trivial⟩ zQ zQ (by rw [decide_eq_false (fun e => hc1 (by rw [e]))])
 ·have hle : xs.length = ys.length := by omega
  refine wp_skip ?_
  refine hK2 _ _ ?_
  clear hK2
  refine wp_seq_k ?_; intro K5 hK5
  refine wp_seq_k ?_; intro K6 hK6
  refine reg hF hS (sq rfl (q_assign rfl) <|
    sq_end) ?_
  clear hF hS; intro a w hF hS
  refine hK6 _ _ ?_
  clear hK6
  refine wp_block ?_
  obtain ⟨hs0, hhs0, hS⟩ : ∃ h, h = _ ∧ St _ _ h _ := ⟨_, rfl, hS⟩
  refine wp_loopx (γ := Nat) (0) (fun (i : Nat) => [(5, vi (i : Int))]) [(0, _), (1, _)] (fun (i : Nat) => hs0) (fun (i : Nat) => i ≤ xs.length ∧ Dk.sames ([] : List UInt8) xs ys i) (fun (i : Nat) => xs.length - i) (hF.sub ⟨rfl, rfl, rfl, trivial⟩) (by subst hhs0; exact hS) (by exact ⟨Nat.zero_le _, Dk.sames_0⟩) ?_
  clear hF hS; rintro i a w hfact hF hS
  subst hhs0; (try dsimp only at hfact); (try dsimp only at hF); (try dsimp only at hS)
  obtain ⟨hi0, hs0⟩ := hfact
  replace hS : St _ [] [] _ := hS
  refine wp_seq_k ?_; intro K7 hK7
  refine wp_seq_k ?_; intro K8 hK8
  refine reg hF hS (sq rfl (q_move rfl) <|
    sq rfl (q_move rfl) <|
    sq rfl (q_len_sl ty39 hb1 rfl) <|
    sq rfl (q_lti rfl rfl) <|
    sq_end) ?_
  clear hF hS; intro a w hF hS
  refine hK8 _ _ ?_
  clear hK8
  refine wp_ifd hF rfl (fun hc2 => ?_) (fun hc2 => ?_)
  ·refine wp_skip ?_
   refine hK7 _ _ ?_
   clear hK7
   refine wp_seq_k ?_; intro K9 hK9
   refine wp_block ?_
   refine wp_seq_k ?_; intro K10 hK10
   refine regd mixed kQ hF hS (sq rfl (q_move rfl) <|
     sq rfl (q_move rfl) <|
     sq rfl (q_idx_sl ty39 ty9 hb1 rfl rfl (by omega)) <|
     sq rfl (q_ld_S ty9 hb1 zin0 rfl rfl (by omega)) <|
     sq rfl (q_move rfl) <|
     sq rfl (q_move rfl) <|
     sq rfl (q_idx_sl ty39 ty9 hb2 rfl rfl (by omega)) <|
     sq rfl (q_ld_S ty9 hb2 zin0 rfl rfl (by omega)) <|
     sq rfl (q_nes rfl rfl) <|
     sq_end) ?_
   clear hF hS; intro a w hF hS
   refine hK10 _ _ ?_
   clear hK10
   refine wp_ifn hF rfl (fun hc3 => ?_) (fun hc3 => ?_)
   ·refine wp_seq_k ?_; intro K11 hK11
    refine reg hF hS (sq rfl (q_assign rfl) <|
      sq_end) ?_
    clear hF hS; intro a w hF hS
    refine hK11 _ _ ?_
    clear hK11
    refine wp_ret ?_
    exact fn_ret (rs := [.tmp 4]) rfl hF hS (vs := [_]) ⟨rfl, trivial⟩ zQ zQ (by rw [decide_eq_false (fun e => hc3 (by rw [e]))])
   ·refine wp_skip ?_
    refine hK9 _ _ ?_
    clear hK9
    refine reg hF hS (sq rfl (q_move rfl) <|
      sq rfl (q_addi rfl rfl (by omega)) <|
      sq rfl (q_assign rfl) <|
      sq_end) ?_
    clear hF hS; intro a w hF hS
    refine ⟨(i + 1), ?_, ?_, hF.sub ⟨rfl, rfl, rfl, trivial⟩, ?_⟩
    ·(try dsimp only); omega
    ·exact ⟨by omega, Dk.sames_1 hs0 (by simpa using hc3)⟩
    ·exact hS
  ·refine wp_exit ?_
   refine hK5 _ _ ?_
   clear hK5
   refine wp_seq_k ?_; intro K12 hK12
   refine reg hF hS (sq rfl (q_assign rfl) <|
     sq_end) ?_
   clear hF hS; intro a w hF hS
   refine hK12 _ _ ?_
   clear hK12
   refine wp_ret ?_
   exact fn_ret (rs := [.tmp 4]) rfl hF hS (vs := [_]) ⟨rfl, trivial⟩ zQ zQ (by rw [decide_eq_true (Dk.sames_end hs0 hle (by omega))])

set_option maxRecDepth 4000 in
set_option maxHeartbeats 2000000 in
theorem sameints_ct (va vb9 : Value) (xs ys : List (Int)) (w : World) (hb1 : Sl Go.Fw.encI (ph w) va xs) (hb2 : Sl Go.Fw.encI (ph w) vb9 ys) : Ct Try.prog 41 [va, vb9] w (fun r _ _ => r = .bool (decide (xs = ys))) := by
 refine fn_enter Try.func41 rfl Try.ntmps41 (Nat.le_of_ble_eq_true rfl) fun a hF hS => ?_
 have hl1 := hb1.1
 have hl2 := hb2.1
 refine wp_seq_k ?_; intro K1 hK1
 refine reg hF hS (sq rfl (q_assign rfl) <|
   sq_end) ?_
 clear hF hS; intro a w hF hS
 refine hK1 _ _ ?_
 clear hK1
 refine wp_seq_k ?_; intro K2 hK2
 refine wp_seq_k ?_; intro K3 hK3
 refine reg hF hS (sq rfl (q_move rfl) <|
   sq rfl (q_len_sl ty31 hb1 rfl) <|
   sq rfl (q_move rfl) <|
   sq rfl (q_len_sl ty31 hb2 rfl) <|
   sq rfl (q_nei rfl rfl) <|
   sq_end) ?_
 clear hF hS; intro a w hF hS
 refine hK3 _ _ ?_
 clear hK3
 refine wp_ifn hF rfl (fun hc1 => ?_) (fun hc1 => ?_)
 ·refine wp_seq_k ?_; intro K4 hK4
  refine reg hF hS (sq rfl (q_assign rfl) <|
    sq_end) ?_
  clear hF hS; intro a w hF hS
  refine hK4 _ _ ?_
  clear hK4
  refine wp_ret ?_
  exact fn_ret (rs := [.tmp 4]) rfl hF hS (vs := [_]) ⟨rfl, trivial⟩ zQ zQ (by rw [decide_eq_false (fun e => hc1 (by rw [e]))])
 ·have hle : xs.length = ys.length := by omega
  refine wp_skip ?_
  refine hK2 _ _ ?_
  clear hK2
  refine wp_seq_k ?_; intro K5 hK5
  refine wp_seq_k ?_; intro K6 hK6
  refine reg hF hS (sq rfl (q_assign rfl) <|
    sq_end) ?_
  clear hF hS; intro a w hF hS
  refine hK6 _ _ ?_
  clear hK6
  refine wp_block ?_
  obtain ⟨hs0, hhs0, hS⟩ : ∃ h, h = _ ∧ St _ _ h _ := ⟨_, rfl, hS⟩
  refine wp_loopx (γ := Nat) (0) (fun (i : Nat) => [(5, vi (i : Int))]) [(0, _), (1, _)] (fun (i : Nat) => hs0) (fun (i : Nat) => i ≤ xs.length ∧ Dk.sames (0 : Int) xs ys i) (fun (i : Nat) => xs.length - i) (hF.sub ⟨rfl, rfl, rfl, trivial⟩) (by subst hhs0; exact hS) (by exact ⟨Nat.zero_le _, Dk.sames_0⟩) ?_
  clear hF hS; rintro i a w hfact hF hS
  subst hhs0; (try dsimp only at hfact); (try dsimp only at hF); (try dsimp only at hS)
  obtain ⟨hi0, hs0⟩ := hfact
  replace hS : St _ [] [] _ := hS
  refine wp_seq_k ?_; intro K7 hK7
  refine wp_seq_k ?_; intro K8 hK8
  refine reg hF hS (sq rfl (q_move rfl) <|
    sq rfl (q_move rfl) <|
    sq rfl (q_len_sl ty31 hb1 rfl) <|
    sq rfl (q_lti rfl rfl) <|
    sq_end) ?_
  clear hF hS; intro a w hF hS
  refine hK8 _ _ ?_
  clear hK8
  refine wp_ifd hF rfl (fun hc2 => ?_) (fun hc2 => ?_)
  ·refine wp_skip ?_
   refine hK7 _ _ ?_
   clear hK7
   refine wp_seq_k ?_; intro K9 hK9
   refine wp_block ?_
   refine wp_seq_k ?_; intro K10 hK10
   refine regd mixed kQ hF hS (sq rfl (q_move rfl) <|
     sq rfl (q_move rfl) <|
     sq rfl (q_idx_sl ty31 ty3 hb1 rfl rfl (by omega)) <|
     sq rfl (q_ld_I ty3 hb1 zin0 rfl rfl (by omega)) <|
     sq rfl (q_move rfl) <|
     sq rfl (q_move rfl) <|
     sq rfl (q_idx_sl ty31 ty3 hb2 rfl rfl (by omega)) <|
     sq rfl (q_ld_I ty3 hb2 zin0 rfl rfl (by omega)) <|
     sq rfl (q_nei rfl rfl) <|
     sq_end) ?_
   clear hF hS; intro a w hF hS
   refine hK10 _ _ ?_
   clear hK10
   refine wp_ifn hF rfl (fun hc3 => ?_) (fun hc3 => ?_)
   ·refine wp_seq_k ?_; intro K11 hK11
    refine reg hF hS (sq rfl (q_assign rfl) <|
      sq_end) ?_
    clear hF hS; intro a w hF hS
    refine hK11 _ _ ?_
    clear hK11
    refine wp_ret ?_
    exact fn_ret (rs := [.tmp 4]) rfl hF hS (vs := [_]) ⟨rfl, trivial⟩ zQ zQ (by rw [decide_eq_false (fun e => hc3 (by rw [e]))])
   ·refine wp_skip ?_
    refine hK9 _ _ ?_
    clear hK9
    refine reg hF hS (sq rfl (q_move rfl) <|
      sq rfl (q_addi rfl rfl (by omega)) <|
      sq rfl (q_assign rfl) <|
      sq_end) ?_
    clear hF hS; intro a w hF hS
    refine ⟨(i + 1), ?_, ?_, hF.sub ⟨rfl, rfl, rfl, trivial⟩, ?_⟩
    ·(try dsimp only); omega
    ·exact ⟨by omega, Dk.sames_1 hs0 (by simpa using hc3)⟩
    ·exact hS
  ·refine wp_exit ?_
   refine hK5 _ _ ?_
   clear hK5
   refine wp_seq_k ?_; intro K12 hK12
   refine reg hF hS (sq rfl (q_assign rfl) <|
     sq_end) ?_
   clear hF hS; intro a w hF hS
   refine hK12 _ _ ?_
   clear hK12
   refine wp_ret ?_
   exact fn_ret (rs := [.tmp 4]) rfl hF hS (vs := [_]) ⟨rfl, trivial⟩ zQ zQ (by rw [decide_eq_true (Dk.sames_end hs0 hle (by omega))])

set_option maxRecDepth 4000 in
set_option maxHeartbeats 2000000 in
theorem text_ct (k i b : Int) (t : List UInt8) (pv : Value) (h1 : pv.oneCell' = true) (w : World) : Ct Try.prog 24 [.agg [vi k, vi i, vi b, vs t, pv].toArray] w (fun r _ _ => r = vs (Dk.txt t)) := by
 refine fn_enter Try.func24 rfl Try.ntmps24 (Nat.le_of_ble_eq_true rfl) fun a hF hS => ?_
 refine wp_seq_k ?_; intro K1 hK1
 refine regl ?_
 refine wpl_ef hF hS rfl (ef_boxA (cs := [vi k, vi i, vi b, vs t, pv]) rfl) ?_
 clear hF hS; rintro _ _ _ a w ⟨b1, rfl, rfl, rfl⟩ hF hS
 refine wpl_sq hF hS (sq rfl (q_assign rfl) <|
   sq_end) ?_
 clear hF hS; intro a w hF hS
 refine wpList_nil ?_
 refine hK1 _ _ ?_
 clear hK1
 refine wp_seq_k ?_; intro K2 hK2
 refine reg hF hS (sq rfl (q_fieldAddr ty33 rfl rfl (s' := 0) kQ) <|
   sq rfl (q_ld_blk1 ty9 0 rfl rfl rfl rfl) <|
   sq rfl (q_assign rfl) <|
   sq_end) ?_
 clear hF hS; intro a w hF hS
 refine hK2 _ _ ?_
 clear hK2
 refine wp_seq_k ?_; intro K3 hK3
 refine wp_block ?_
 obtain ⟨hs0, hhs0, hS⟩ : ∃ h, h = _ ∧ St _ _ h _ := ⟨_, rfl, hS⟩
 refine wp_loopx (γ := List UInt8 × Nat) (t, 64) (fun (gg : List UInt8 × Nat) => match gg with | (s, f) => [(3, vs s)]) [] (fun (gg : List UInt8 × Nat) => match gg with | (s, f) => hs0) (fun (gg : List UInt8 × Nat) => match gg with | (s, f) => Dk.txt t = Dk.fill f s ∧ 64 ≤ f + s.length) (fun (gg : List UInt8 × Nat) => match gg with | (s, f) => 64 - s.length) (hF.sub ⟨rfl, trivial⟩) (by subst hhs0; exact hS) (by exact ⟨rfl, by omega⟩) ?_
 clear hF hS; rintro ⟨s, f⟩ a w hfact hF hS
 subst hhs0; (try dsimp only at hfact); (try dsimp only at hF); (try dsimp only at hS)
 obtain ⟨hf1, hf2⟩ := hfact
 replace hS : St _ [] [_] _ := hS
 refine wp_seq_k ?_; intro K4 hK4
 refine wp_seq_k ?_; intro K5 hK5
 refine regl ?_
 refine wpl_sq hF hS (sq rfl (q_move rfl) <|
   sq rfl (q_len_s ty9 rfl) <|
   sq rfl (q_gti rfl rfl) <|
   sq rfl (q_move rfl) <|
   sq_end) ?_
 clear hF hS; intro a w hF hS
 refine wpl_and 3 9 3 hF hS rfl rfl rfl rfl rfl (fun hg => have hg := (by first | exact of_decide_eq_true hg | exact hg); sq_go 9 rfl rfl rfl (q_move rfl) <|
   sq_go 9 rfl rfl rfl (q_len_s ty9 rfl) <|
   sq_go 9 rfl rfl rfl (q_lti rfl rfl) <|
   sq_end) rfl rfl ?_
 clear hF hS; intro a w hF hS
 refine wpList_nil ?_
 refine hK5 _ _ ?_
 clear hK5
 refine wp_if hF rfl (fun hc1 => ?_) (fun hc1 => ?_)
 ·(try simp only [Bool.or_eq_true, Bool.and_eq_true, Bool.or_eq_false_iff, Bool.and_eq_false_iff, decide_eq_true_eq, decide_eq_false_iff_not, Bool.not_eq_true', Bool.not_eq_false'] at hc1)
  refine wp_skip ?_
  refine hK4 _ _ ?_
  clear hK4
  refine wp_block ?_
  refine reg hF hS (sq rfl (q_move rfl) <|
    sq rfl (q_move rfl) <|
    sq rfl (q_move rfl) <|
    sq rfl (q_len_s ty9 rfl) <|
    sq rfl (q_subi rfl rfl (by omega)) <|
    sq rfl (q_sl_s_lo ty9 rfl rfl (by omega)) <|
    sq rfl (q_adds rfl rfl bQ) <|
    sq rfl (q_assign rfl) <|
    sq_end) ?_
  clear hF hS; intro a w hF hS
  refine ⟨(s ++ s.drop (s.length - 1), f - 1), ?_, ?_, hF.sub ⟨(by show some (vs _) = some (vs _); rw [show ((s.length : Int) - 1).toNat = s.length - 1 by omega]), trivial⟩, ?_⟩
  ·dsimp only; rw [Dk.app_len (by omega)]; omega
  ·exact ⟨hf1.trans (Dk.fill_go (by omega) hf2), by rw [Dk.app_len (by omega)]; omega⟩
  ·exact hS
 ·(try simp only [Bool.or_eq_true, Bool.and_eq_true, Bool.or_eq_false_iff, Bool.and_eq_false_iff, decide_eq_true_eq, decide_eq_false_iff_not, Bool.not_eq_true', Bool.not_eq_false'] at hc1)
  refine wp_exit ?_
  refine hK3 _ _ ?_
  clear hK3
  refine wp_seq_k ?_; intro K6 hK6
  refine reg hF hS (sq rfl (q_move rfl) <|
    sq rfl (q_assign rfl) <|
    sq_end) ?_
  clear hF hS; intro a w hF hS
  refine hK6 _ _ ?_
  clear hK6
  refine wp_ret ?_
  exact fn_ret (rs := [.tmp 2]) rfl hF hS (vs := [_]) ⟨rfl, trivial⟩ zQ zQ (by rw [hf1, Dk.fill_stop (by omega)])

set_option maxRecDepth 4000 in
set_option maxHeartbeats 2000000 in
theorem full_ct (c : UInt8) (w : World) : Ct Try.prog 18 [vb c] w (fun r _ _ => r = vs (List.replicate 64 c)) := by
 refine fn_enter Try.func18 rfl Try.ntmps18 (Nat.le_of_ble_eq_true rfl) fun a hF hS => ?_
 refine wp_seq_k ?_; intro K1 hK1
 refine reg hF hS (sq rfl (q_assign rfl) <|
   sq_end) ?_
 clear hF hS; intro a w hF hS
 refine hK1 _ _ ?_
 clear hK1
 refine wp_seq_k ?_; intro K2 hK2
 refine regl ?_
 refine wpl_ef hF hS rfl (ef_mks (m := 64) ty72 ty5 rfl rfl (by decide) (by decide) rfl) ?_
 clear hF hS; rintro v1 _ _ a w ⟨rfl, rfl⟩ hF hS
 replace hS : St _ [] [_] _ := hS
 refine wpl_sq hF hS (sq rfl (q_assign rfl) <|
   sq_end) ?_
 clear hF hS; intro a w hF hS
 refine wpList_nil ?_
 rw [show List.replicate 64 (Value.int .u8 0) = (Dk.fu c 0).map vb from rfl] at hS
 refine hK2 _ _ ?_
 clear hK2
 refine wp_seq_k ?_; intro K3 hK3
 refine wp_seq_k ?_; intro K4 hK4
 refine reg hF hS (sq rfl (q_assign rfl) <|
   sq_end) ?_
 clear hF hS; intro a w hF hS
 refine hK4 _ _ ?_
 clear hK4
 refine wp_block ?_
 obtain ⟨hs0, hhs0, hS⟩ : ∃ h, h = _ ∧ St _ _ h _ := ⟨_, rfl, hS⟩
 refine wp_loopx (γ := Nat) (0) (fun (i : Nat) => [(4, vi (i : Int))]) [(0, _), (3, _)] (fun (i : Nat) => (hs0.set 0 (.row v1 5 1 64 ((Dk.fu c i).map vb)))) (fun (i : Nat) => i ≤ 64) (fun (i : Nat) => 64 - i) (hF.sub ⟨rfl, rfl, rfl, trivial⟩) (by subst hhs0; exact hS) (by exact Nat.zero_le _) ?_
 clear hF hS; rintro i a w hfact hF hS
 subst hhs0; (try dsimp only at hfact); (try dsimp only at hF); (try dsimp only at hS)
 have hi0 := hfact
 replace hS : St _ [] [_] _ := hS
 have hfl := Dk.fu_len c hi0
 refine wp_seq_k ?_; intro K5 hK5
 refine wp_seq_k ?_; intro K6 hK6
 refine reg hF hS (sq rfl (q_move rfl) <|
   sq rfl (q_lti rfl rfl) <|
   sq_end) ?_
 clear hF hS; intro a w hF hS
 refine hK6 _ _ ?_
 clear hK6
 refine wp_ifd hF rfl (fun hc1 => ?_) (fun hc1 => ?_)
 ·refine wp_skip ?_
  refine hK5 _ _ ?_
  clear hK5
  refine wp_seq_k ?_; intro K7 hK7
  refine wp_block ?_
  refine regl ?_
  refine wpl_sq hF hS (sq rfl (q_move rfl) <|
    sq rfl (q_move rfl) <|
    sq rfl (q_move rfl) <|
    sq rfl (q_idx_row ty72 ty5 0 rfl rfl rfl (by omega)) <|
    sq_end) ?_
  clear hF hS; intro a w hF hS
  refine wpl_ef hF hS rfl (ef_st_row ty5 0 rfl rfl rfl (by omega) rfl) ?_
  clear hF hS; rintro _ _ _ a w ⟨rfl, rfl, rfl⟩ hF hS
  replace hS : St _ [] [_] _ := hS
  refine wpList_nil ?_
  refine hK7 _ _ ?_
  clear hK7
  refine reg hF hS (sq rfl (q_move rfl) <|
    sq rfl (q_addi rfl rfl (by omega)) <|
    sq rfl (q_assign rfl) <|
    sq_end) ?_
  clear hF hS; intro a w hF hS
  refine ⟨(i + 1), ?_, ?_, hF.sub ⟨rfl, rfl, rfl, trivial⟩, ?_⟩
  ·(try dsimp only); omega
  ·omega
  ·rw [show ((i : Int)).toNat = i from Int.toNat_natCast i, ← List.map_set, Dk.fu_1 c (by omega)] at hS
   exact hS
 ·refine wp_exit ?_
  refine hK3 _ _ ?_
  clear hK3
  refine wp_seq_k ?_; intro K8 hK8
  refine reg hF hS (sq rfl (q_move rfl) <|
    sq rfl (q_b2s_row ty72 ty9 ty5 0 rfl rfl) <|
    sq rfl (q_assign rfl) <|
    sq_end) ?_
  clear hF hS; intro a w hF hS
  refine hK8 _ _ ?_
  clear hK8
  refine wp_ret ?_
  exact fn_ret (rs := [.tmp 2]) rfl hF hS (vs := [_]) ⟨rfl, trivial⟩ zQ zQ (by rw [show i = 64 by omega, Dk.fu_end])
end Go.Proofs.Ytbgbfmdnpjpdgaa
