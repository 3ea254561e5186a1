/- A text of a proof over this seat: walks over the program's functions and the plain laws that they need. -/
import Derived.Test.YtibbhobfdbfkkaaGreatDoorJj8
import Derived.Test.YtibbhobfdbfkkaaGreatDoorJnA
import Derived.Test.YtibbhobfdbfkkaaGreatDoorFwD
import Derived.Test.YtibbhobfdbfkkaaGreatDoorFwB
set_option linter.all false
namespace Go.Proofs.YtibbhobfdbfkkaaGreatDoor
open Go.Fw
theorem ty28 : Tf Tryz.prog 28 (.pointer 80) 1 8 (Value.pointer none) := ⟨Tryz.underlying28, by kernel_rfl⟩
theorem ty56 : Tf Tryz.prog 56 (.struct #[⟨ "Kind", 3, 0, false, "", "", 0⟩, ⟨ "I", 3, 1, false, "", "", 8⟩, ⟨ "Bit", 3, 2, false, "", "", 16⟩, ⟨ "Size", 3, 3, false, "", "", 24⟩, ⟨ "Fill", 5, 4, false, "", "", 32⟩, ⟨ "Picks", 51, 5, false, "", "", 40⟩]) 6 64 (.agg ([Value.int .i64 0, Value.int .i64 0, Value.int .i64 0, Value.int .i64 0] ++ [Value.int .u8 0] ++ [Value.slice none 0 0]).toArray) := ⟨Tryz.underlying56, by kernel_rfl⟩
theorem ty66 : Tf Tryz.prog 66 (.struct #[⟨ "D", 28, 0, false, "", "", 0⟩, ⟨ "Nums", 51, 1, false, "", "", 8⟩, ⟨ "L", 22, 2, false, "", "", 32⟩, ⟨ "BadOnes", 51, 3, false, "", "", 56⟩, ⟨ "Next", 3, 4, false, "", "", 80⟩, ⟨ "End", 3, 5, false, "", "", 88⟩, ⟨ "Closed", 4, 6, false, "", "", 96⟩]) 7 104 (.agg ([Value.pointer none] ++ [Value.slice none 0 0, Value.slice none 0 0, Value.slice none 0 0] ++ [Value.int .i64 0, Value.int .i64 0] ++ [Value.bool false]).toArray) := ⟨Tryz.underlying66, by kernel_rfl⟩
theorem fn52 : FnOk Tryz.prog 52 := ⟨_, Tryz.func52, rfl, by kernel_rfl⟩
theorem fn57 : FnOk Tryz.prog 57 := ⟨_, Tryz.func57, rfl, by kernel_rfl⟩

abbrev HJ := Jn.ROk 66 3 9

attribute [local irreducible] Sha.sum Jn.good Jn.hd Jn.lb Jn.cnt

set_option maxRecDepth 4000 in
set_option maxHeartbeats 2000000 in
theorem hroom_ct (b bd : Nat) (v : Value) (J : Jn.JS) (S : Dk.Dsk) (w0 : World) (zsr : List PH) {q1 q2 q3 q4 : Res} (hJ : HJ b bd J q1 q2 q3 q4) (hO : Dk.Ok S) : Cx Tryz.prog 59 [.pointer (some ⟨b, 0, none⟩)] w0 zsr [q1, q2, q3, q4, RRB bd v S, RRW v S] (Jn.RJR (HJ b bd) (RRB bd v) (RRW v) J S (vi (Jn.room J S))) := by
 refine fn_enterx Tryz.func59 rfl Tryz.ntmps59 (Nat.le_of_ble_eq_true rfl) fun hsr a w hF hS => ?_
 replace hS : St _ (_) (_ :: _ :: _ :: _ :: _ :: _ :: _) _ := hS
 obtain ⟨un, ubd, ut, hVf, rfl, rfl, rfl, rfl⟩ := hJ
 have hv1 := hVf.n1
 have hv2 := hVf.n2
 have hv3 := hVf.e1
 have hv4 := hVf.e2
 have hv5 := hVf.nl
 have hv6 := hVf.tl
 have hv7 := hVf.bl
 have hv8 := hVf.nr'
 have hv9 := hVf.br'
 have hv10 := hVf.tr'
 replace hS : St _ (_) (_ :: _ :: _ :: _ :: _ :: _ :: _) _ := hS
 have hlo := hO.lo
 have hhi := hO.hi
 refine wp_seq_k ?_; intro K1 hK1
 refine reg hF hS (sq rfl (q_assign rfl) <|
   sq_end) ?_
 clear hF hS; intro a w hF hS
 refine hK1 _ _ ?_
 clear hK1
 refine wp_seq_k ?_; intro K2 hK2
 revert hS; revert hF; apply regJ (J := J0 13 _ _ _ _ _) #[false, false, false, false, false, false, false, false, false, false, false] 11 mixed rfl rfl
 ·intro w hF hS
  refine goW_take 0 _ rfl kQ rfl hF (hS.keep sQ (sQ.n.n.n.n.n.n)) (q_move rfl) ?_
  clear hF; intro a hF
  refine goW_take 1 _ rfl kQ rfl hF (hS.keep sQ (sQ.n.n.n.n.n.n)) (q_nilCheck rfl) ?_
  clear hF; intro a hF
  refine goW_take 2 _ rfl kQ rfl hF (hS.keep sQ (sQ.n.n.n.n.n.n)) (q_fieldAddr ty66 rfl rfl (s' := 0) kQ) ?_
  clear hF; intro a hF
  refine goW_take 3 _ rfl kQ rfl hF (hS.keep sQ (sQ.n.n.n.n.n.k)) (q_ld_blk1 ty28 0 rfl rfl rfl rfl) ?_
  clear hF; intro a hF
  refine goW_take 5 _ rfl kQ rfl hF (hS.keep sQ (sQ.n.n.n.n.n.n)) (q_move rfl) ?_
  clear hF; intro a hF
  refine goW_take 6 _ rfl kQ rfl hF (hS.keep sQ (sQ.n.n.n.n.n.n)) (q_nilCheck rfl) ?_
  clear hF; intro a hF
  refine goW_take 7 _ rfl kQ rfl hF (hS.keep sQ (sQ.n.n.n.n.n.n)) (q_fieldAddr ty66 rfl rfl (s' := 0) kQ) ?_
  clear hF; intro a hF
  refine goW_take 8 _ rfl kQ rfl hF (hS.keep sQ (sQ.n.n.n.n.n.k)) (q_ld_blk1 ty3 0 rfl rfl rfl rfl) ?_
  clear hF; intro a hF
  refine goW_fork [4] kQ rfl ⟨?_, trivial⟩
  replace hS := hS.perm (.cons _ (.cons _ (.cons _ (.swap _ _ _))))
  replace hS := hS.perm (.cons _ (.cons _ (.swap _ _ _)))
  replace hS := hS.perm (.cons _ (.swap _ _ _))
  replace hS := hS.perm (.swap _ _ _)
  replace hS := hS.perm (.cons _ (.cons _ (.cons _ (.cons _ (.swap _ _ _)))))
  replace hS := hS.perm (.cons _ (.cons _ (.cons _ (.swap _ _ _))))
  replace hS := hS.perm (.cons _ (.cons _ (.swap _ _ _)))
  replace hS := hS.perm (.cons _ (.swap _ _ _))
  replace hS : St _ (_) (_ :: _ :: _ :: _ :: _ :: _ :: _) _ := hS
  refine stepW_ef _ rfl rfl hF hS rfl (ef_callx fn52 rfl (List.Perm.refl _) (by exact (rlen_ct _ _  (by first | assumption | exact Dk.ok_step (by assumption) | exact Dk.rst_ok (by assumption) _ _) (S := S) (v := v)))) ?_
  clear hF hS; rintro _ _ _ a w ⟨_, _, rfl, rfl, ⟨rfl, rfl, rfl⟩⟩ hF hS
  replace hS : St _ (_) (_ :: _ :: _ :: _ :: _ :: _ :: _) _ := hS
  refine ⟨⟨.inr (hS.keep sQ (sQ.n.n.n.k.n.n)), .inr (hS.keep sQ (sQ.n.n.n.n.n.n)), .inr (hS.keep sQ (sQ.n.n.n.n.n.n)), .inr (hS.keep sQ (sQ.n.n.n.n.n.n)), iQ, iQ, .inr (hS.keep sQ (sQ.n.n.n.n.n.n)), .inr (hS.keep sQ (sQ.n.n.n.n.n.n)), trivial⟩, ?_⟩
  refine goW_take 9 _ rfl kQ rfl hF (hS.keep sQ (sQ.n.n.n.n.n.n)) (q_subi rfl rfl (by omega)) ?_
  clear hF; intro a hF
  refine goW_take 10 _ rfl kQ rfl hF (hS.keep sQ (sQ.n.n.n.n.n.n)) (q_assign rfl) ?_
  clear hF; intro a hF
  exact goW_done kQ (j0_mk  (trivial) (hF.sub (L' := [(2, _)]) ⟨rfl, trivial⟩) hS)
 rintro a w ⟨-, hF, hS⟩
 (try dsimp only at hF); (try dsimp only at hS)
 refine hK2 _ _ ?_
 clear hK2
 refine wp_ret ?_
 replace hS := hS.perm (.cons _ (.swap _ _ _))
 replace hS := hS.perm (.swap _ _ _)
 replace hS := hS.perm (.cons _ (.cons _ (.swap _ _ _)))
 replace hS := hS.perm (.cons _ (.swap _ _ _))
 replace hS := hS.perm (.cons _ (.cons _ (.cons _ (.swap _ _ _))))
 replace hS := hS.perm (.cons _ (.cons _ (.swap _ _ _)))
 replace hS := hS.perm (.cons _ (.cons _ (.cons _ (.cons _ (.swap _ _ _)))))
 replace hS := hS.perm (.cons _ (.cons _ (.cons _ (.swap _ _ _))))
 exact fn_retx (rs := [.tmp 2]) rfl hF hS (vs := [_]) ⟨rfl, trivial⟩ [] [_, _, _, _, _, _] sQ sQ (Jn.rjr_of (B := RRB bd v) (W := RRW v) (J := J) (S := S) ⟨rfl, rfl, _, _, _, _, rfl, ⟨un, ubd, ut, hVf, rfl, rfl, rfl, rfl⟩⟩ (rfl) (rfl) (rfl))

set_option maxRecDepth 4000 in
set_option maxHeartbeats 2000000 in
theorem stext_ct (k i b n : Int) (f : UInt8) (pv : Value) (h1 : pv.oneCell' = true) (w : World) : Ct Tryz.prog 27 [.agg [vi k, vi i, vi b, vi n, vb f, pv].toArray] w (fun r _ _ => r = vs (Jn.txt n f)) := by
 refine fn_enter Tryz.func27 rfl Tryz.ntmps27 (Nat.le_of_ble_eq_true rfl) fun a hF hS => ?_
 refine wp_seq_k ?_; intro K1 hK1
 refine regl ?_
 refine wpl_ef hF hS rfl (ef_boxA (cs := [vi k, vi i, vi b, vi n, vb f, pv]) rfl) ?_
 clear hF hS; rintro _ _ _ a w ⟨b1, rfl, rfl, rfl⟩ hF hS
 refine wpl_sq hF hS (sq rfl (q_assign rfl) <|
   sq_end) ?_
 clear hF hS; intro a w hF hS
 refine wpList_nil ?_
 refine hK1 _ _ ?_
 clear hK1
 refine wp_seq_k ?_; intro K2 hK2
 refine reg hF hS (sq rfl (q_fieldAddr ty56 rfl rfl (s' := 0) kQ) <|
   sq rfl (q_ld_blk1 ty3 0 rfl rfl rfl rfl) <|
   sq rfl (q_max rfl rfl) <|
   sq rfl (q_min rfl rfl) <|
   sq rfl (q_assign rfl) <|
   sq_end) ?_
 clear hF hS; intro a w hF hS
 refine hK2 _ _ ?_
 clear hK2
 refine wp_seq_k ?_; intro K3 hK3
 refine reg hF hS (sq rfl (q_assign rfl) <|
   sq_end) ?_
 clear hF hS; intro a w hF hS
 replace hS := hS.nilRow 5 1
 refine hK3 _ _ ?_
 clear hK3
 refine wp_seq_k ?_; intro K4 hK4
 refine wp_seq_k ?_; intro K5 hK5
 refine reg hF hS (sq rfl (q_assign rfl) <|
   sq_end) ?_
 clear hF hS; intro a w hF hS
 refine hK5 _ _ ?_
 clear hK5
 refine wp_block ?_
 obtain ⟨hs0, hhs0, hS⟩ : ∃ h, h = _ ∧ St _ _ h _ := ⟨_, rfl, hS⟩
 refine wp_loopx (γ := Value × Nat) ((Value.slice none 0 0), 0) (fun (gg : Value × Nat) => match gg with | (u, j) => [(4, u), (5, vi (j : Int))]) [(1, _), (3, _)] (fun (gg : Value × Nat) => match gg with | (u, j) => (hs0.set 0 (.row u 5 1 j ((Jn.txtN f j).map vb)))) (fun (gg : Value × Nat) => match gg with | (u, j) => (j : Int) ≤ min (max n 0) 8100) (fun (gg : Value × Nat) => match gg with | (u, j) => (min (max n 0) 8100).toNat - j) (hF.sub ⟨rfl, rfl, rfl, rfl, trivial⟩) (by subst hhs0; exact hS) (by omega) ?_
 clear hF hS; rintro ⟨u, j⟩ a w hfact hF hS
 subst hhs0; (try dsimp only at hfact); (try dsimp only at hF); (try dsimp only at hS)
 have hj0 := hfact
 replace hS : St _ [] [_, _] _ := hS
 refine wp_seq_k ?_; intro K6 hK6
 refine wp_seq_k ?_; intro K7 hK7
 refine reg hF hS (sq rfl (q_move rfl) <|
   sq rfl (q_move rfl) <|
   sq rfl (q_lti rfl rfl) <|
   sq_end) ?_
 clear hF hS; intro a w hF hS
 refine hK7 _ _ ?_
 clear hK7
 refine wp_ifd hF rfl (fun hc1 => ?_) (fun hc1 => ?_)
 ·refine wp_skip ?_
  refine hK6 _ _ ?_
  clear hK6
  refine wp_seq_k ?_; intro K8 hK8
  refine wp_block ?_
  refine regl ?_
  refine wpl_sq hF hS (sq rfl (q_move rfl) <|
    sq rfl (q_fieldAddr ty56 rfl rfl (s' := 0) kQ) <|
    sq rfl (q_ld_blk1 ty5 1 rfl rfl rfl rfl) <|
    sq rfl (q_move rfl) <|
    sq rfl (q_cv_ib ty3 ty5 rfl) <|
    sq rfl (q_addb rfl rfl) <|
    sq_end) ?_
  clear hF hS; intro a w hF hS
  refine wpl_ef hF hS rfl (ef_bsliceA ty81 ty5 rfl rfl oQ (by decide) rfl rfl) ?_
  clear hF hS; rintro v3 _ _ a w ⟨rfl, rfl⟩ hF hS
  replace hS : St _ [] [_, _, _] _ := hS
  refine wpl_ef hF hS rfl (ef_append ty81 ty5 1 rfl rfl rfl (src_row ty81 (k := 0) rfl oQ) bQ rfl (by decide)) ?_
  clear hF hS; rintro v5 _ _ a w ⟨rfl, rfl⟩ hF hS
  replace hS : St _ [] [_, _, _] _ := hS
  refine wpl_sq hF hS (sq rfl (q_assign rfl) <|
    sq_end) ?_
  clear hF hS; intro a w hF hS
  refine wpList_nil ?_
  refine hK8 _ _ ?_
  clear hK8
  refine reg hF hS (sq rfl (q_move rfl) <|
    sq rfl (q_addi rfl rfl (by omega)) <|
    sq rfl (q_assign rfl) <|
    sq_end) ?_
  clear hF hS; intro a w hF hS
  replace hS := hS.keep zQ (sQ.n)
  refine ⟨(v5, j + 1), ?_, ?_, hF.sub ⟨rfl, rfl, rfl, rfl, trivial⟩, ?_⟩
  ·(try dsimp only); omega
  ·omega
  ·rw [Jn.txtN_step] at hS
   exact hS
 ·have hje : j = (min (max n 0) 8100).toNat := by omega
  have htl := Jn.txtN_len f j
  refine wp_exit ?_
  refine hK4 _ _ ?_
  clear hK4
  refine wp_seq_k ?_; intro K9 hK9
  refine reg hF hS (sq rfl (q_move rfl) <|
    sq rfl (q_b2s_row ty81 ty9 ty5 0 rfl rfl) <|
    sq rfl (q_assign rfl) <|
    sq_end) ?_
  clear hF hS; intro a w hF hS
  refine hK9 _ _ ?_
  clear hK9
  refine wp_ret ?_
  exact fn_ret (rs := [.tmp 2]) rfl hF hS (vs := [_]) ⟨rfl, trivial⟩ zQ zQ (by unfold Jn.txt; rw [← hje])
end Go.Proofs.YtibbhobfdbfkkaaGreatDoor
