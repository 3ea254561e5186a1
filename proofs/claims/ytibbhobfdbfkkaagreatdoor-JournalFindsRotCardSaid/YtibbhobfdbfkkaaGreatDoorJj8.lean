/- A text of a proof over this seat: walks over the program's functions and the plain laws that they need. -/
import Derived.Test.YtibbhobfdbfkkaaGreatDoorJwA
import Derived.Test.YtibbhobfdbfkkaaGreatDoorJnA
import Derived.Test.YtibbhobfdbfkkaaGreatDoorFwD
import Derived.Test.YtibbhobfdbfkkaaGreatDoorFwB
set_option linter.all false
namespace Go.Proofs.YtibbhobfdbfkkaaGreatDoor
open Go.Fw
theorem ty24 : Tf Tryz.prog 24 (.pointer 77) 1 8 (Value.pointer none) := ⟨Tryz.underlying24, by kernel_rfl⟩
theorem fn10 : FnOk Tryz.prog 10 := ⟨_, Tryz.func10, rfl, by kernel_rfl⟩
theorem fn38 : FnOk Tryz.prog 38 := ⟨_, Tryz.func38, rfl, by kernel_rfl⟩
theorem fn40 : FnOk Tryz.prog 40 := ⟨_, Tryz.func40, rfl, by kernel_rfl⟩
theorem fn47 : FnOk Tryz.prog 47 := ⟨_, Tryz.func47, rfl, by kernel_rfl⟩
theorem fn48 : FnOk Tryz.prog 48 := ⟨_, Tryz.func48, rfl, by kernel_rfl⟩
theorem fn63 : FnOk Tryz.prog 63 := ⟨_, Tryz.func63, rfl, by kernel_rfl⟩
theorem fn82 : FnOk Tryz.prog 82 := ⟨_, Tryz.func82, rfl, by kernel_rfl⟩

attribute [local irreducible] Sha.sum Jn.good Jn.hd Jn.lb Jn.cnt

set_option maxRecDepth 4000 in
set_option maxHeartbeats 2000000 in
theorem jdamaged_ct (b pd : Nat) (J : Jn.JS) (w0 : World) (zsr : List PH) {q1 q2 q3 q4 : Res} (hJ : JJ b pd J q1 q2 q3 q4) : Cx Tryz.prog 24 [.pointer (some ⟨b, 0, none⟩)] w0 zsr [q1, q2, q3, q4] (Jn.JRw (JJ b pd) 3 J (Jn.damaged J).length ((Jn.damaged J).map vi)) := by
 refine fn_enterx Tryz.func24 rfl Tryz.ntmps24 (Nat.le_of_ble_eq_true rfl) fun hsr a w hF hS => ?_
 replace hS : St _ (_) (_ :: _ :: _ :: _ :: _) _ := hS
 obtain ⟨vn, vbd, vt, hWf, rfl, rfl, rfl, rfl⟩ := hJ
 have hj1 := hWf.n1
 have hj2 := hWf.n2
 have hj3 := hWf.e1
 have hj4 := hWf.e2
 have hj5 := hWf.nl
 have hj6 := hWf.tl
 have hj7 := hWf.bl
 have hj8 := hWf.nr'
 have hj9 := hWf.br'
 have hj10 := hWf.tr'
 replace hS : St _ (_) (_ :: _ :: _ :: _ :: _) _ := hS
 refine wp_seq_k ?_; intro K1 hK1
 refine reg hF hS (sq rfl (q_assign rfl) <|
   sq_end) ?_
 clear hF hS; intro a w hF hS
 refine hK1 _ _ ?_
 clear hK1
 refine wp_seq_k ?_; intro K2 hK2
 refine regl ?_
 refine wpl_ef hF hS rfl (ef_mkmap) ?_
 clear hF hS; rintro _ _ _ a w ⟨b1, rfl, rfl, rfl⟩ hF hS
 replace hS : St _ (_) (_ :: _ :: _ :: _ :: _ :: _) _ := hS
 refine wpl_sq hF hS (sq rfl (q_assign rfl) <|
   sq_end) ?_
 clear hF hS; intro a w hF hS
 refine wpList_nil ?_
 refine hK2 _ _ ?_
 clear hK2
 refine wp_seq_k ?_; intro K3 hK3
 refine wp_seq_k ?_; intro K4 hK4
 refine reg hF hS (sq rfl (q_move rfl) <|
   sq rfl (q_nilCheck rfl) <|
   sq rfl (q_fieldAddr ty89 rfl rfl (s' := 0) kQ) <|
   sq rfl (q_ld_blk1 ty51 1 rfl rfl rfl rfl) <|
   sq rfl (q_len_row ty51 2 rfl rfl) <|
   sq rfl (q_move rfl) <|
   sq_end) ?_
 clear hF hS; intro a w hF hS
 refine hK4 _ _ ?_
 clear hK4
 refine wp_block ?_
 obtain ⟨hs0, hhs0, hS⟩ : ∃ h, h = _ ∧ St _ _ h _ := ⟨_, rfl, hS⟩
 refine wp_loopx (γ := List MapEntry × Nat × List (Int × Value) × Nat) ([], 0, [], 0) (fun (gg : List MapEntry × Nat × List (Int × Value) × Nat) => match gg with | (es, ec, ml, i) => [(14, vi (i : Int))]) [(0, _), (3, _), (12, _), (13, _)] (fun (gg : List MapEntry × Nat × List (Int × Value) × Nat) => match gg with | (es, ec, ml, i) => (hs0.set 0 (.mp b1 es ec))) (fun (gg : List MapEntry × Nat × List (Int × Value) × Nat) => match gg with | (es, ec, ml, i) => i ≤ J.nums.length ∧ MpR vi ml es ∧ Jn.MtM J.nums i ml) (fun (gg : List MapEntry × Nat × List (Int × Value) × Nat) => match gg with | (es, ec, ml, i) => J.nums.length - i) (hF.sub ⟨rfl, rfl, rfl, rfl, rfl, trivial⟩) (by subst hhs0; exact hS) (by exact ⟨Nat.zero_le _, rfl, Jn.MtM.start _⟩) ?_
 clear hF hS; rintro ⟨es, ec, ml, i⟩ a w hfact hF hS
 subst hhs0; (try dsimp only at hfact); (try dsimp only at hF); (try dsimp only at hS)
 obtain ⟨hi0, hMm, hMt⟩ := hfact
 replace hS : St _ (_) (_ :: _ :: _ :: _ :: _ :: _) _ := hS
 refine wp_seq_k ?_; intro K5 hK5
 refine reg hF hS (sq rfl (q_lti rfl rfl) <|
   sq_end) ?_
 clear hF hS; intro a w hF hS
 refine hK5 _ _ ?_
 clear hK5
 refine wp_seq_k ?_; intro K6 hK6
 refine wp_ifd hF rfl (fun hc1 => ?_) (fun hc1 => ?_)
 ·refine wp_skip ?_
  refine hK6 _ _ ?_
  clear hK6
  refine wp_seq_k ?_; intro K7 hK7
  refine wp_block ?_
  refine wp_seq_k ?_; intro K8 hK8
  refine reg hF hS (sq rfl (q_idx_row ty51 ty3 2 rfl rfl rfl (by omega)) <|
    sq rfl (q_ld_rowM ty3 2 (0 : Int) rfl rfl bQ rfl) <|
    sq rfl (q_assign rfl) <|
    sq_end) ?_
  clear hF hS; intro a w hF hS
  refine hK8 _ _ ?_
  clear hK8
  refine regl ?_
  refine wpl_sq hF hS (sq rfl (q_move rfl) <|
    sq rfl (q_move rfl) <|
    sq_end) ?_
  clear hF hS; intro a w hF hS
  refine wpl_ef hF hS rfl (ef_mapset ty45 (key_I ty3) 0 rfl rfl rfl rfl hMm (fun _ _ => trivial) trivial) ?_
  clear hF hS; rintro _ _ _ a w ⟨es1, ec1, hM1, rfl, rfl, rfl⟩ hF hS
  replace hS : St _ (_) (_ :: _ :: _ :: _ :: _ :: _) _ := hS
  refine wpList_nil ?_
  refine hK7 _ _ ?_
  clear hK7
  refine reg hF hS (sq rfl (q_addi rfl rfl (by omega)) <|
    sq rfl (q_move rfl) <|
    sq_end) ?_
  clear hF hS; intro a w hF hS
  refine ⟨(es1, ec1, aset (J.nums.getD i 0) (.bool true) ml, i + 1), ?_, ?_, hF.sub ⟨rfl, rfl, rfl, rfl, rfl, trivial⟩, ?_⟩
  ·(try dsimp only); omega
  ·exact ⟨by omega, hM1, hMt.step (by omega)⟩
  ·exact hS
 ·obtain rfl : i = J.nums.length := by omega
  refine wp_exit ?_
  refine hK3 _ _ ?_
  clear hK3
  refine wp_seq_k ?_; intro K9 hK9
  refine reg hF hS (sq rfl (q_assign rfl) <|
    sq_end) ?_
  clear hF hS; intro a w hF hS
  replace hS := hS.nilRow 3 1
  refine hK9 _ _ ?_
  clear hK9
  refine wp_seq_k ?_; intro K10 hK10
  refine wp_seq_k ?_; intro K11 hK11
  refine reg hF hS (sq rfl (q_assign rfl) <|
    sq_end) ?_
  clear hF hS; intro a w hF hS
  refine hK11 _ _ ?_
  clear hK11
  refine wp_block ?_
  obtain ⟨hs0, hhs0, hS⟩ : ∃ h, h = _ ∧ St _ _ h _ := ⟨_, rfl, hS⟩
  refine wp_loopx (γ := Value × Nat) ((Value.slice none 0 0), 0) (fun (gg : Value × Nat) => match gg with | (u, k) => [(6, u), (7, vi ((k : Int) + 1))]) [(0, _), (3, _)] (fun (gg : Value × Nat) => match gg with | (u, k) => (hs0.set 0 (.row u 3 1 (Jn.dmN J.nums k).length ((Jn.dmN J.nums k).map vi)))) (fun (gg : Value × Nat) => match gg with | (u, k) => k ≤ (J.next - 1).toNat) (fun (gg : Value × Nat) => match gg with | (u, k) => (J.next - 1).toNat - k) (hF.sub ⟨rfl, rfl, rfl, rfl, trivial⟩) (by subst hhs0; exact hS) (by exact Nat.zero_le _) ?_
  clear hF hS; rintro ⟨u, k⟩ a w hfact hF hS
  subst hhs0; (try dsimp only at hfact); (try dsimp only at hF); (try dsimp only at hS)
  have hk0 := hfact
  replace hS : St _ (_) (_ :: _ :: _ :: _ :: _ :: _ :: _) _ := hS
  have hdl := Jn.dm_len J.nums k
  refine wp_seq_k ?_; intro K12 hK12
  refine wp_seq_k ?_; intro K13 hK13
  refine reg hF hS (sq rfl (q_move rfl) <|
    sq rfl (q_move rfl) <|
    sq rfl (q_nilCheck rfl) <|
    sq rfl (q_fieldAddr ty89 rfl rfl (s' := 0) kQ) <|
    sq rfl (q_ld_blk1 ty3 2 rfl rfl rfl rfl) <|
    sq rfl (q_lti rfl rfl) <|
    sq_end) ?_
  clear hF hS; intro a w hF hS
  refine hK13 _ _ ?_
  clear hK13
  refine wp_ifd hF rfl (fun hc2 => ?_) (fun hc2 => ?_)
  ·refine wp_skip ?_
   refine hK12 _ _ ?_
   clear hK12
   refine wp_seq_k ?_; intro K14 hK14
   refine wp_block ?_
   refine wp_seq_k ?_; intro K15 hK15
   refine reg hF hS (sq rfl (q_move rfl) <|
     sq rfl (q_move rfl) <|
     sq rfl (q_lookupD ty45 ty4 (key_I ty3) 1 rfl rfl rfl hMm (fun _ _ => trivial) trivial (Jn.MtM.get hMt _)) <|
     sq rfl (q_not rfl) <|
     sq_end) ?_
   clear hF hS; intro a w hF hS
   refine hK15 _ _ ?_
   clear hK15
   refine wp_if hF rfl (fun hc3 => ?_) (fun hc3 => ?_)
   ·refine regl ?_
    refine wpl_sq hF hS (sq rfl (q_move rfl) <|
      sq rfl (q_move rfl) <|
      sq_end) ?_
    clear hF hS; intro a w hF hS
    refine wpl_ef hF hS rfl (ef_bsliceA ty51 ty3 rfl rfl oQ (by decide) rfl rfl) ?_
    clear hF hS; rintro v4 _ _ a w ⟨rfl, rfl⟩ hF hS
    replace hS : St _ (_) (_ :: _ :: _ :: _ :: _ :: _ :: _ :: _) _ := hS
    refine wpl_ef hF hS rfl (ef_append ty51 ty3 1 rfl rfl rfl (src_row ty51 (k := 0) rfl oQ) bQ rfl (by decide)) ?_
    clear hF hS; rintro v6 _ _ a w ⟨rfl, rfl⟩ hF hS
    replace hS : St _ (_) (_ :: _ :: _ :: _ :: _ :: _ :: _ :: _) _ := hS
    refine wpl_sq hF hS (sq rfl (q_assign rfl) <|
      sq_end) ?_
    clear hF hS; intro a w hF hS
    refine wpList_nil ?_
    refine hK14 _ _ ?_
    clear hK14
    refine reg hF hS (sq rfl (q_move rfl) <|
      sq rfl (q_addi rfl rfl (by omega)) <|
      sq rfl (q_assign rfl) <|
      sq_end) ?_
    clear hF hS; intro a w hF hS
    replace hS := hS.keep sQ (sQ.n)
    refine ⟨(v6, k + 1), ?_, ?_, hF.sub ⟨rfl, rfl, rfl, rfl, trivial⟩, ?_⟩
    ·(try dsimp only); omega
    ·omega
    ·(try dsimp only [List.set_cons_zero, List.set_cons_succ]); rw [Jn.dm_out (l := J.nums) (k := k) (by simpa using hc3), List.length_append, List.map_append]; exact hS
   ·refine wp_skip ?_
    refine hK14 _ _ ?_
    clear hK14
    refine reg hF hS (sq rfl (q_move rfl) <|
      sq rfl (q_addi rfl rfl (by omega)) <|
      sq rfl (q_assign rfl) <|
      sq_end) ?_
    clear hF hS; intro a w hF hS
    refine ⟨(u, k + 1), ?_, ?_, hF.sub ⟨rfl, rfl, rfl, rfl, trivial⟩, ?_⟩
    ·(try dsimp only); omega
    ·omega
    ·(try dsimp only [List.set_cons_zero, List.set_cons_succ]); rw [Jn.dm_in (l := J.nums) (k := k) (by simpa using hc3)]; exact hS
  ·refine wp_exit ?_
   refine hK10 _ _ ?_
   clear hK10
   refine wp_seq_k ?_; intro K16 hK16
   refine reg hF hS (sq rfl (q_move rfl) <|
     sq rfl (q_assign rfl) <|
     sq_end) ?_
   clear hF hS; intro a w hF hS
   refine hK16 _ _ ?_
   clear hK16
   refine wp_ret ?_
   replace hS := hS.perm (.cons _ (.swap _ _ _))
   replace hS := hS.perm (.cons _ (.cons _ (.swap _ _ _)))
   replace hS := hS.perm (.cons _ (.cons _ (.cons _ (.swap _ _ _))))
   replace hS := hS.perm (.cons _ (.cons _ (.cons _ (.cons _ (.swap _ _ _)))))
   obtain rfl : k = (J.next - 1).toNat := by omega
   exact fn_retx (rs := [.tmp 2]) rfl hF hS (vs := [_]) ⟨rfl, trivial⟩ [] [_, _, _, _, _] sQ (sQ.n.k.k.k.k.k) (Jn.jrw_of ⟨rfl, _, _, _, _, rfl, ⟨vn, vbd, vt, hWf, rfl, rfl, rfl, rfl⟩⟩ rfl rfl)

set_option maxRecDepth 4000 in
set_option maxHeartbeats 2000000 in
theorem jroom_ct (h : Dk.Hd) (b : Nat) (J : Jn.JS) (S : Dk.Dsk) (w0 : World) (zsr : List PH) {q1 q2 q3 q4 d1 d2 d3 d4 : Res} (hJ : JJ b h.b J q1 q2 q3 q4) (hD : DD h S d1 d2 d3 d4) : Cx Tryz.prog 38 [.pointer (some ⟨b, 0, none⟩)] w0 zsr [q1, q2, q3, q4, d1, d2, d3, d4] (Jn.JDR (JJ b h.b) (DD h) J S (vi (Jn.room J S))) := by
 refine fn_enterx Tryz.func38 rfl Tryz.ntmps38 (Nat.le_of_ble_eq_true rfl) fun hsr a w hF hS => ?_
 replace hS : St _ (_) (_ :: _ :: _ :: _ :: _ :: _ :: _ :: _ :: _) _ := hS
 obtain ⟨vn, vbd, vt, hWf, rfl, rfl, rfl, rfl⟩ := hJ
 have hj1 := hWf.n1
 have hj2 := hWf.n2
 have hj3 := hWf.e1
 have hj4 := hWf.e2
 have hj5 := hWf.nl
 have hj6 := hWf.tl
 have hj7 := hWf.bl
 have hj8 := hWf.nr'
 have hj9 := hWf.br'
 have hj10 := hWf.tr'
 replace hS : St _ (_) (_ :: _ :: _ :: _ :: _ :: _ :: _ :: _ :: _) _ := hS
 have hO := hD.ok
 have hlo := hO.lo
 have hhi := hO.hi
 refine wp_seq_k ?_; intro K1 hK1
 refine reg hF hS (sq rfl (q_assign rfl) <|
   sq_end) ?_
 clear hF hS; intro a w hF hS
 refine hK1 _ _ ?_
 clear hK1
 refine wp_seq_k ?_; intro K2 hK2
 revert hS; revert hF; apply regJ (J := J4 (α0 := Res) (α1 := Res) (α2 := Res) (α3 := Res) 13 _ _ _ _ _) #[false, false, false, false, false, false, false, false, false, false, false] 11 mixed rfl rfl
 ·intro w hF hS
  refine goW_take 0 _ rfl kQ rfl hF (hS.keep sQ (sQ.n.n.n.n.n.n.n.n)) (q_move rfl) ?_
  clear hF; intro a hF
  refine goW_take 1 _ rfl kQ rfl hF (hS.keep sQ (sQ.n.n.n.n.n.n.n.n)) (q_nilCheck rfl) ?_
  clear hF; intro a hF
  refine goW_take 2 _ rfl kQ rfl hF (hS.keep sQ (sQ.n.n.n.n.n.n.n.n)) (q_fieldAddr ty89 rfl rfl (s' := 0) kQ) ?_
  clear hF; intro a hF
  refine goW_take 3 _ rfl kQ rfl hF (hS.keep sQ (sQ.n.n.n.n.n.n.n.k)) (q_ld_blk1 ty24 0 rfl rfl rfl rfl) ?_
  clear hF; intro a hF
  refine goW_take 5 _ rfl kQ rfl hF (hS.keep sQ (sQ.n.n.n.n.n.n.n.n)) (q_move rfl) ?_
  clear hF; intro a hF
  refine goW_take 6 _ rfl kQ rfl hF (hS.keep sQ (sQ.n.n.n.n.n.n.n.n)) (q_nilCheck rfl) ?_
  clear hF; intro a hF
  refine goW_take 7 _ rfl kQ rfl hF (hS.keep sQ (sQ.n.n.n.n.n.n.n.n)) (q_fieldAddr ty89 rfl rfl (s' := 0) kQ) ?_
  clear hF; intro a hF
  refine goW_take 8 _ rfl kQ rfl hF (hS.keep sQ (sQ.n.n.n.n.n.n.n.k)) (q_ld_blk1 ty3 0 rfl rfl rfl rfl) ?_
  clear hF; intro a hF
  refine goW_fork [4] kQ rfl ⟨?_, trivial⟩
  replace hS := hS.perm (.cons _ (.cons _ (.cons _ (.swap _ _ _))))
  replace hS := hS.perm (.cons _ (.cons _ (.swap _ _ _)))
  replace hS := hS.perm (.cons _ (.swap _ _ _))
  replace hS := hS.perm (.swap _ _ _)
  replace hS := hS.perm (.cons _ (.cons _ (.cons _ (.cons _ (.swap _ _ _)))))
  replace hS := hS.perm (.cons _ (.cons _ (.cons _ (.swap _ _ _))))
  replace hS := hS.perm (.cons _ (.cons _ (.swap _ _ _)))
  replace hS := hS.perm (.cons _ (.swap _ _ _))
  replace hS := hS.perm (.cons _ (.cons _ (.cons _ (.cons _ (.cons _ (.swap _ _ _))))))
  replace hS := hS.perm (.cons _ (.cons _ (.cons _ (.cons _ (.swap _ _ _)))))
  replace hS := hS.perm (.cons _ (.cons _ (.cons _ (.swap _ _ _))))
  replace hS := hS.perm (.cons _ (.cons _ (.swap _ _ _)))
  replace hS := hS.perm (.cons _ (.cons _ (.cons _ (.cons _ (.cons _ (.cons _ (.swap _ _ _)))))))
  replace hS := hS.perm (.cons _ (.cons _ (.cons _ (.cons _ (.cons _ (.swap _ _ _))))))
  replace hS := hS.perm (.cons _ (.cons _ (.cons _ (.cons _ (.swap _ _ _)))))
  replace hS := hS.perm (.cons _ (.cons _ (.cons _ (.swap _ _ _))))
  replace hS : St _ (_) (_ :: _ :: _ :: _ :: _ :: _ :: _ :: _ :: _) _ := hS
  refine stepW_ef _ rfl rfl hF hS rfl (ef_callx fn47 rfl (List.Perm.refl _) (by exact (dlen_ct _ _ _ _  hD))) ?_
  clear hF hS; rintro _ _ _ a w ⟨_, _, rfl, rfl, ⟨rfl, rfl, qa_1_4, qb_1_4, qc_1_4, qd_1_4, rfl, hD_1_4⟩⟩ hF hS
  replace hS : St _ (_) (_ :: _ :: _ :: _ :: _ :: _ :: _ :: _ :: _) _ := hS
  refine ⟨⟨.inr (hS.keep sQ (sQ.n.n.n.k.n.n.n.n)), .inr (hS.keep sQ (sQ.n.n.n.n.n.n.n.n)), .inr (hS.keep sQ (sQ.n.n.n.n.n.n.n.n)), .inr (hS.keep sQ (sQ.n.n.n.n.n.n.n.n)), iQ, iQ, .inr (hS.keep sQ (sQ.n.n.n.n.n.n.n.n)), .inr (hS.keep sQ (sQ.n.n.n.n.n.n.n.n)), trivial⟩, ?_⟩
  refine goW_take 9 _ rfl kQ rfl hF (hS.keep sQ (sQ.n.n.n.n.n.n.n.n)) (q_subi rfl rfl (by omega)) ?_
  clear hF; intro a hF
  refine goW_take 10 _ rfl kQ rfl hF (hS.keep sQ (sQ.n.n.n.n.n.n.n.n)) (q_assign rfl) ?_
  clear hF; intro a hF
  exact goW_done kQ (j4_mk qa_1_4 qb_1_4 qc_1_4 qd_1_4 ((And.intro hD_1_4 trivial)) (hF.sub (L' := [(2, _)]) ⟨rfl, trivial⟩) hS)
 rintro a w ⟨qa_1_4, qb_1_4, qc_1_4, qd_1_4, ⟨hD_1_4, -⟩, hF, hS⟩
 (try dsimp only at hF); (try dsimp only at hS)
 refine hK2 _ _ ?_
 clear hK2
 refine wp_ret ?_
 replace hS := hS.perm (.cons _ (.cons _ (.cons _ (.swap _ _ _))))
 replace hS := hS.perm (.cons _ (.cons _ (.swap _ _ _)))
 replace hS := hS.perm (.cons _ (.swap _ _ _))
 replace hS := hS.perm (.swap _ _ _)
 replace hS := hS.perm (.cons _ (.cons _ (.cons _ (.cons _ (.swap _ _ _)))))
 replace hS := hS.perm (.cons _ (.cons _ (.cons _ (.swap _ _ _))))
 replace hS := hS.perm (.cons _ (.cons _ (.swap _ _ _)))
 replace hS := hS.perm (.cons _ (.swap _ _ _))
 replace hS := hS.perm (.cons _ (.cons _ (.cons _ (.cons _ (.cons _ (.swap _ _ _))))))
 replace hS := hS.perm (.cons _ (.cons _ (.cons _ (.cons _ (.swap _ _ _)))))
 replace hS := hS.perm (.cons _ (.cons _ (.cons _ (.swap _ _ _))))
 replace hS := hS.perm (.cons _ (.cons _ (.swap _ _ _)))
 replace hS := hS.perm (.cons _ (.cons _ (.cons _ (.cons _ (.cons _ (.cons _ (.swap _ _ _)))))))
 replace hS := hS.perm (.cons _ (.cons _ (.cons _ (.cons _ (.cons _ (.swap _ _ _))))))
 replace hS := hS.perm (.cons _ (.cons _ (.cons _ (.cons _ (.swap _ _ _)))))
 replace hS := hS.perm (.cons _ (.cons _ (.cons _ (.swap _ _ _))))
 exact fn_retx (rs := [.tmp 2]) rfl hF hS (vs := [_]) ⟨rfl, trivial⟩ [] [_, _, _, _, _, _, _, _] sQ sQ (Jn.jdr_of (J := J) (S := S) ⟨rfl, rfl, _, _, _, _, _, _, _, _, rfl, ⟨vn, vbd, vt, hWf, rfl, rfl, rfl, rfl⟩, hD_1_4⟩ (rfl) (rfl) (rfl))

set_option maxRecDepth 4000 in
set_option maxHeartbeats 2000000 in
theorem jwrite_ct (h : Dk.Hd) (b : Nat) (J : Jn.JS) (S : Dk.Dsk) (at9 : Int) (v : Value) (l : List (List UInt8)) (ha : 0 ≤ at9 ∧ at9 ≤ 4096) (hl : l.length ≤ 200) (w0 : World) (zsr : List PH) {q1 q2 q3 q4 d1 d2 d3 d4 : Res} (z : PH) (hb : Sl Go.Fw.encS z v l) (hz : ZIn w0 zsr z) (hJ : JJ b h.b J q1 q2 q3 q4) (hD : DD h S d1 d2 d3 d4) : Cx Tryz.prog 63 [.pointer (some ⟨b, 0, none⟩), vi at9, v] w0 zsr [q1, q2, q3, q4, d1, d2, d3, d4] (Jn.JDR (JJ b h.b) (DD h) J (Jn.wfr S at9 l).1 (.tuple [vi (Jn.wfr S at9 l).2.1, .bool (Jn.wfr S at9 l).2.2].toArray)) := by
 refine fn_enterx Tryz.func63 rfl Tryz.ntmps63 (Nat.le_of_ble_eq_true rfl) fun hsr a w hF hS => ?_
 replace hS : St _ (_) (_ :: _ :: _ :: _ :: _ :: _ :: _ :: _ :: _) _ := hS
 obtain ⟨vn, vbd, vt, hWf, rfl, rfl, rfl, rfl⟩ := hJ
 have hj1 := hWf.n1
 have hj2 := hWf.n2
 have hj3 := hWf.e1
 have hj4 := hWf.e2
 have hj5 := hWf.nl
 have hj6 := hWf.tl
 have hj7 := hWf.bl
 have hj8 := hWf.nr'
 have hj9 := hWf.br'
 have hj10 := hWf.tr'
 replace hS : St _ (_) (_ :: _ :: _ :: _ :: _ :: _ :: _ :: _ :: _) _ := hS
 have hO := hD.ok
 have hlo := hO.lo
 have hhi := hO.hi
 refine wp_seq_k ?_; intro K1 hK1
 refine reg hF hS (sq rfl (q_assign rfl) <|
   sq rfl (q_assign rfl) <|
   sq_end) ?_
 clear hF hS; intro a w hF hS
 refine hK1 _ _ ?_
 clear hK1
 refine wp_seq_k ?_; intro K2 hK2
 refine wp_seq_k ?_; intro K3 hK3
 refine reg hF hS (sq rfl (q_move rfl) <|
   sq rfl (q_len_sl ty22 hb rfl) <|
   sq rfl (q_move rfl) <|
   sq_end) ?_
 clear hF hS; intro a w hF hS
 refine hK3 _ _ ?_
 clear hK3
 refine wp_block ?_
 obtain ⟨hs0, hhs0, hS⟩ : ∃ h, h = _ ∧ St _ _ h _ := ⟨_, rfl, hS⟩
 refine wp_loopx (γ := Res × Res × Res × Res × Nat) (d1, d2, d3, d4, 0) (fun (gg : Res × Res × Res × Res × Nat) => match gg with | (q1, q2, q3, q4, i) => [(19, vi (i : Int))]) [(0, _), (1, _), (2, _), (17, _), (18, _)] (fun (gg : Res × Res × Res × Res × Nat) => match gg with | (q1, q2, q3, q4, i) => ((((hs0.set 4 (q1)).set 5 (q2)).set 6 (q3)).set 7 (q4))) (fun (gg : Res × Res × Res × Res × Nat) => match gg with | (q1, q2, q3, q4, i) => (i ≤ l.length ∧ (Jn.wrN S at9 l i).2 = 0) ∧ DD h ((Jn.wrN S at9 l i).1) q1 q2 q3 q4) (fun (gg : Res × Res × Res × Res × Nat) => match gg with | (q1, q2, q3, q4, i) => l.length - i) (hF.sub ⟨rfl, rfl, rfl, rfl, rfl, rfl, trivial⟩) (by subst hhs0; exact hS) (by exact ⟨⟨Nat.zero_le _, rfl⟩, hD⟩) ?_
 clear hF hS; rintro ⟨q1, q2, q3, q4, i⟩ a w hfact hF hS
 subst hhs0; (try dsimp only at hfact); (try dsimp only at hF); (try dsimp only at hS)
 obtain ⟨⟨hi0, hw0⟩, hDq⟩ := hfact
 replace hS : St _ (_) (_ :: _ :: _ :: _ :: _ :: _ :: _ :: _ :: _) _ := hS
 refine wp_seq_k ?_; intro K4 hK4
 refine reg hF hS (sq rfl (q_lti rfl rfl) <|
   sq_end) ?_
 clear hF hS; intro a w hF hS
 refine hK4 _ _ ?_
 clear hK4
 refine wp_seq_k ?_; intro K5 hK5
 refine wp_ifd hF rfl (fun hc1 => ?_) (fun hc1 => ?_)
 ·refine wp_skip ?_
  refine hK5 _ _ ?_
  clear hK5
  refine wp_seq_k ?_; intro K6 hK6
  refine wp_block ?_
  refine wp_seq_k ?_; intro K7 hK7
  refine reg hF hS (sq rfl (q_move rfl) <|
    sq rfl (q_idx_sl ty22 ty9 hb rfl rfl (by omega)) <|
    sq rfl (q_ld_S ty9 hb hz rfl rfl (by omega)) <|
    sq rfl (q_assign rfl) <|
    sq rfl (q_assign rfl) <|
    sq_end) ?_
  clear hF hS; intro a w hF hS
  rw [Int.toNat_natCast] at hF
  refine hK7 _ _ ?_
  clear hK7
  refine wp_seq_k ?_; intro K8 hK8
  refine regl ?_
  refine wpl_sq hF hS (sq rfl (q_move rfl) <|
    sq rfl (q_nilCheck rfl) <|
    sq rfl (q_fieldAddr ty89 rfl rfl (s' := 0) kQ) <|
    sq rfl (q_ld_blk1 ty24 0 rfl rfl rfl rfl) <|
    sq rfl (q_move rfl) <|
    sq rfl (q_move rfl) <|
    sq rfl (q_addi rfl rfl (by omega)) <|
    sq rfl (q_move rfl) <|
    sq_end) ?_
  clear hF hS; intro a w hF hS
  replace hS := hS.perm (.cons _ (.cons _ (.cons _ (.swap _ _ _))))
  replace hS := hS.perm (.cons _ (.cons _ (.swap _ _ _)))
  replace hS := hS.perm (.cons _ (.swap _ _ _))
  replace hS := hS.perm (.swap _ _ _)
  replace hS := hS.perm (.cons _ (.cons _ (.cons _ (.cons _ (.swap _ _ _)))))
  replace hS := hS.perm (.cons _ (.cons _ (.cons _ (.swap _ _ _))))
  replace hS := hS.perm (.cons _ (.cons _ (.swap _ _ _)))
  replace hS := hS.perm (.cons _ (.swap _ _ _))
  replace hS := hS.perm (.cons _ (.cons _ (.cons _ (.cons _ (.cons _ (.swap _ _ _))))))
  replace hS := hS.perm (.cons _ (.cons _ (.cons _ (.cons _ (.swap _ _ _)))))
  replace hS := hS.perm (.cons _ (.cons _ (.cons _ (.swap _ _ _))))
  replace hS := hS.perm (.cons _ (.cons _ (.swap _ _ _)))
  replace hS := hS.perm (.cons _ (.cons _ (.cons _ (.cons _ (.cons _ (.cons _ (.swap _ _ _)))))))
  replace hS := hS.perm (.cons _ (.cons _ (.cons _ (.cons _ (.cons _ (.swap _ _ _))))))
  replace hS := hS.perm (.cons _ (.cons _ (.cons _ (.cons _ (.swap _ _ _)))))
  replace hS := hS.perm (.cons _ (.cons _ (.cons _ (.swap _ _ _))))
  replace hS : St _ (_) (_ :: _ :: _ :: _ :: _ :: _ :: _ :: _ :: _) _ := hS
  refine wpl_ef hF hS rfl (ef_callx fn10 rfl (List.Perm.refl _) (by exact (dwrite_ct _ _ _ (by omega) _ _ _  hDq))) ?_
  clear hF hS; rintro _ _ _ a w ⟨_, _, rfl, rfl, ⟨rfl, rfl, qa2, qb3, qc4, qd5, rfl, hD6⟩⟩ hF hS
  replace hS : St _ (_) (_ :: _ :: _ :: _ :: _ :: _ :: _ :: _ :: _) _ := hS
  refine wpl_sq hF hS (sq rfl (q_assign rfl) <|
    sq_end) ?_
  clear hF hS; intro a w hF hS
  refine wpList_nil ?_
  refine hK8 _ _ ?_
  clear hK8
  refine wp_seq_k ?_; intro K9 hK9
  refine reg hF hS (sq rfl (q_move rfl) <|
    sq rfl (q_nei rfl rfl) <|
    sq_end) ?_
  clear hF hS; intro a w hF hS
  refine hK9 _ _ ?_
  clear hK9
  refine wp_ifn hF rfl (fun hc2 => ?_) (fun hc2 => ?_)
  ·refine wp_seq_k ?_; intro K10 hK10
   refine reg hF hS (sq rfl (q_move rfl) <|
     sq rfl (q_assign rfl) <|
     sq rfl (q_assign rfl) <|
     sq_end) ?_
   clear hF hS; intro a w hF hS
   refine hK10 _ _ ?_
   clear hK10
   refine wp_ret ?_
   replace hS := hS.perm (.cons _ (.cons _ (.cons _ (.swap _ _ _))))
   replace hS := hS.perm (.cons _ (.cons _ (.swap _ _ _)))
   replace hS := hS.perm (.cons _ (.swap _ _ _))
   replace hS := hS.perm (.swap _ _ _)
   replace hS := hS.perm (.cons _ (.cons _ (.cons _ (.cons _ (.swap _ _ _)))))
   replace hS := hS.perm (.cons _ (.cons _ (.cons _ (.swap _ _ _))))
   replace hS := hS.perm (.cons _ (.cons _ (.swap _ _ _)))
   replace hS := hS.perm (.cons _ (.swap _ _ _))
   replace hS := hS.perm (.cons _ (.cons _ (.cons _ (.cons _ (.cons _ (.swap _ _ _))))))
   replace hS := hS.perm (.cons _ (.cons _ (.cons _ (.cons _ (.swap _ _ _)))))
   replace hS := hS.perm (.cons _ (.cons _ (.cons _ (.swap _ _ _))))
   replace hS := hS.perm (.cons _ (.cons _ (.swap _ _ _)))
   replace hS := hS.perm (.cons _ (.cons _ (.cons _ (.cons _ (.cons _ (.cons _ (.swap _ _ _)))))))
   replace hS := hS.perm (.cons _ (.cons _ (.cons _ (.cons _ (.cons _ (.swap _ _ _))))))
   replace hS := hS.perm (.cons _ (.cons _ (.cons _ (.cons _ (.swap _ _ _)))))
   replace hS := hS.perm (.cons _ (.cons _ (.cons _ (.swap _ _ _))))
   exact fn_retx (rs := [.tmp 6, .tmp 7]) rfl hF hS (vs := [_, _]) ⟨rfl, rfl, trivial⟩ [] [_, _, _, _, _, _, _, _] sQ sQ (Jn.jdr_of (J := J) (S := (Dk.write (Jn.wrN S at9 l i).1 (at9 + i) (l.getD i [])).1) ⟨rfl, rfl, _, _, _, _, _, _, _, _, rfl, ⟨vn, vbd, vt, hWf, rfl, rfl, rfl, rfl⟩, hD6⟩ (rfl) (by rw [Jn.wfr_1 (by omega) hw0 hc2]) (by rw [Jn.wfr_1 (by omega) hw0 hc2]))
  ·refine wp_skip ?_
   refine hK6 _ _ ?_
   clear hK6
   refine reg hF hS (sq rfl (q_addi rfl rfl (by omega)) <|
     sq rfl (q_move rfl) <|
     sq_end) ?_
   clear hF hS; intro a w hF hS
   replace hS := hS.perm (.cons _ (.cons _ (.cons _ (.swap _ _ _))))
   replace hS := hS.perm (.cons _ (.cons _ (.swap _ _ _)))
   replace hS := hS.perm (.cons _ (.swap _ _ _))
   replace hS := hS.perm (.swap _ _ _)
   replace hS := hS.perm (.cons _ (.cons _ (.cons _ (.cons _ (.swap _ _ _)))))
   replace hS := hS.perm (.cons _ (.cons _ (.cons _ (.swap _ _ _))))
   replace hS := hS.perm (.cons _ (.cons _ (.swap _ _ _)))
   replace hS := hS.perm (.cons _ (.swap _ _ _))
   replace hS := hS.perm (.cons _ (.cons _ (.cons _ (.cons _ (.cons _ (.swap _ _ _))))))
   replace hS := hS.perm (.cons _ (.cons _ (.cons _ (.cons _ (.swap _ _ _)))))
   replace hS := hS.perm (.cons _ (.cons _ (.cons _ (.swap _ _ _))))
   replace hS := hS.perm (.cons _ (.cons _ (.swap _ _ _)))
   replace hS := hS.perm (.cons _ (.cons _ (.cons _ (.cons _ (.cons _ (.cons _ (.swap _ _ _)))))))
   replace hS := hS.perm (.cons _ (.cons _ (.cons _ (.cons _ (.cons _ (.swap _ _ _))))))
   replace hS := hS.perm (.cons _ (.cons _ (.cons _ (.cons _ (.swap _ _ _)))))
   replace hS := hS.perm (.cons _ (.cons _ (.cons _ (.swap _ _ _))))
   replace hS := hS.keep sQ sQ
   refine ⟨(qa2, qb3, qc4, qd5, i + 1), ?_, ?_, hF.sub ⟨rfl, rfl, rfl, rfl, rfl, rfl, trivial⟩, ?_⟩
   ·(try dsimp only); omega
   ·exact ⟨⟨by omega, by rw [Jn.wrN_succ hw0]; omega⟩, by rw [Jn.wrN_succ hw0]; exact hD6⟩
   ·exact hS
 ·obtain rfl : i = l.length := by omega
  refine wp_exit ?_
  refine hK2 _ _ ?_
  clear hK2
  refine wp_seq_k ?_; intro K11 hK11
  refine wp_seq_k ?_; intro K12 hK12
  refine regl ?_
  refine wpl_sq hF hS (sq rfl (q_move rfl) <|
    sq rfl (q_nilCheck rfl) <|
    sq rfl (q_fieldAddr ty89 rfl rfl (s' := 0) kQ) <|
    sq rfl (q_ld_blk1 ty24 0 rfl rfl rfl rfl) <|
    sq_end) ?_
  clear hF hS; intro a w hF hS
  replace hS := hS.perm (.cons _ (.cons _ (.cons _ (.swap _ _ _))))
  replace hS := hS.perm (.cons _ (.cons _ (.swap _ _ _)))
  replace hS := hS.perm (.cons _ (.swap _ _ _))
  replace hS := hS.perm (.swap _ _ _)
  replace hS := hS.perm (.cons _ (.cons _ (.cons _ (.cons _ (.swap _ _ _)))))
  replace hS := hS.perm (.cons _ (.cons _ (.cons _ (.swap _ _ _))))
  replace hS := hS.perm (.cons _ (.cons _ (.swap _ _ _)))
  replace hS := hS.perm (.cons _ (.swap _ _ _))
  replace hS := hS.perm (.cons _ (.cons _ (.cons _ (.cons _ (.cons _ (.swap _ _ _))))))
  replace hS := hS.perm (.cons _ (.cons _ (.cons _ (.cons _ (.swap _ _ _)))))
  replace hS := hS.perm (.cons _ (.cons _ (.cons _ (.swap _ _ _))))
  replace hS := hS.perm (.cons _ (.cons _ (.swap _ _ _)))
  replace hS := hS.perm (.cons _ (.cons _ (.cons _ (.cons _ (.cons _ (.cons _ (.swap _ _ _)))))))
  replace hS := hS.perm (.cons _ (.cons _ (.cons _ (.cons _ (.cons _ (.swap _ _ _))))))
  replace hS := hS.perm (.cons _ (.cons _ (.cons _ (.cons _ (.swap _ _ _)))))
  replace hS := hS.perm (.cons _ (.cons _ (.cons _ (.swap _ _ _))))
  replace hS : St _ (_) (_ :: _ :: _ :: _ :: _ :: _ :: _ :: _ :: _) _ := hS
  refine wpl_ef hF hS rfl (ef_callx fn82 rfl (List.Perm.refl _) (by exact (dflush_ct _ _ _ _  hDq))) ?_
  clear hF hS; rintro _ _ _ a w ⟨_, _, rfl, rfl, ⟨rfl, rfl, qa8, qb9, qc10, qd11, rfl, hD12⟩⟩ hF hS
  replace hS : St _ (_) (_ :: _ :: _ :: _ :: _ :: _ :: _ :: _ :: _) _ := hS
  refine wpl_sq hF hS (sq rfl (q_assign rfl) <|
    sq_end) ?_
  clear hF hS; intro a w hF hS
  refine wpList_nil ?_
  refine hK12 _ _ ?_
  clear hK12
  refine wp_seq_k ?_; intro K13 hK13
  refine reg hF hS (sq rfl (q_move rfl) <|
    sq rfl (q_nei rfl rfl) <|
    sq_end) ?_
  clear hF hS; intro a w hF hS
  refine hK13 _ _ ?_
  clear hK13
  refine wp_ifn hF rfl (fun hc3 => ?_) (fun hc3 => ?_)
  ·refine wp_seq_k ?_; intro K14 hK14
   refine reg hF hS (sq rfl (q_move rfl) <|
     sq rfl (q_assign rfl) <|
     sq rfl (q_assign rfl) <|
     sq_end) ?_
   clear hF hS; intro a w hF hS
   refine hK14 _ _ ?_
   clear hK14
   refine wp_ret ?_
   replace hS := hS.perm (.cons _ (.cons _ (.cons _ (.swap _ _ _))))
   replace hS := hS.perm (.cons _ (.cons _ (.swap _ _ _)))
   replace hS := hS.perm (.cons _ (.swap _ _ _))
   replace hS := hS.perm (.swap _ _ _)
   replace hS := hS.perm (.cons _ (.cons _ (.cons _ (.cons _ (.swap _ _ _)))))
   replace hS := hS.perm (.cons _ (.cons _ (.cons _ (.swap _ _ _))))
   replace hS := hS.perm (.cons _ (.cons _ (.swap _ _ _)))
   replace hS := hS.perm (.cons _ (.swap _ _ _))
   replace hS := hS.perm (.cons _ (.cons _ (.cons _ (.cons _ (.cons _ (.swap _ _ _))))))
   replace hS := hS.perm (.cons _ (.cons _ (.cons _ (.cons _ (.swap _ _ _)))))
   replace hS := hS.perm (.cons _ (.cons _ (.cons _ (.swap _ _ _))))
   replace hS := hS.perm (.cons _ (.cons _ (.swap _ _ _)))
   replace hS := hS.perm (.cons _ (.cons _ (.cons _ (.cons _ (.cons _ (.cons _ (.swap _ _ _)))))))
   replace hS := hS.perm (.cons _ (.cons _ (.cons _ (.cons _ (.cons _ (.swap _ _ _))))))
   replace hS := hS.perm (.cons _ (.cons _ (.cons _ (.cons _ (.swap _ _ _)))))
   replace hS := hS.perm (.cons _ (.cons _ (.cons _ (.swap _ _ _))))
   exact fn_retx (rs := [.tmp 6, .tmp 7]) rfl hF hS (vs := [_, _]) ⟨rfl, rfl, trivial⟩ [] [_, _, _, _, _, _, _, _] sQ sQ (Jn.jdr_of (J := J) (S := (Dk.flush (Jn.wrN S at9 l l.length).1).1) ⟨rfl, rfl, _, _, _, _, _, _, _, _, rfl, ⟨vn, vbd, vt, hWf, rfl, rfl, rfl, rfl⟩, hD12⟩ (rfl) (by rw [Jn.wfr_2 hw0 hc3]) (by rw [Jn.wfr_2 hw0 hc3]))
  ·refine wp_skip ?_
   refine hK11 _ _ ?_
   clear hK11
   refine wp_seq_k ?_; intro K15 hK15
   refine reg hF hS (sq rfl (q_assign rfl) <|
     sq_end) ?_
   clear hF hS; intro a w hF hS
   refine hK15 _ _ ?_
   clear hK15
   refine wp_seq_k ?_; intro K16 hK16
   refine wp_seq_k ?_; intro K17 hK17
   refine reg hF hS (sq rfl (q_move rfl) <|
     sq rfl (q_len_sl ty22 hb rfl) <|
     sq rfl (q_move rfl) <|
     sq_end) ?_
   clear hF hS; intro a w hF hS
   refine hK17 _ _ ?_
   clear hK17
   refine wp_block ?_
   obtain ⟨hs0, hhs0, hS⟩ : ∃ h, h = _ ∧ St _ _ h _ := ⟨_, rfl, hS⟩
   refine wp_loopx (γ := Res × Res × Res × Res × Nat) (qa8, qb9, qc10, qd11, 0) (fun (gg : Res × Res × Res × Res × Nat) => match gg with | (q1, q2, q3, q4, i) => [(47, vi (i : Int)), (12, .bool (Jn.rdN (Dk.flush (Jn.wrN S at9 l l.length).1).1 at9 l i).2)]) [(0, _), (1, _), (45, _), (46, _)] (fun (gg : Res × Res × Res × Res × Nat) => match gg with | (q1, q2, q3, q4, i) => ((((hs0.set 0 (q1)).set 1 (q2)).set 2 (q3)).set 3 (q4))) (fun (gg : Res × Res × Res × Res × Nat) => match gg with | (q1, q2, q3, q4, i) => (i ≤ l.length ∧ (Jn.rdN (Dk.flush (Jn.wrN S at9 l l.length).1).1 at9 l i).1 = 0) ∧ DD h ((Dk.flush (Jn.wrN S at9 l l.length).1).1) q1 q2 q3 q4) (fun (gg : Res × Res × Res × Res × Nat) => match gg with | (q1, q2, q3, q4, i) => l.length - i) (hF.sub ⟨rfl, rfl, rfl, rfl, rfl, rfl, trivial⟩) (by subst hhs0; exact hS) (by exact ⟨⟨Nat.zero_le _, rfl⟩, hD12⟩) ?_
   clear hF hS; rintro ⟨q1, q2, q3, q4, i⟩ a w hfact hF hS
   subst hhs0; (try dsimp only at hfact); (try dsimp only at hF); (try dsimp only at hS)
   obtain ⟨⟨hi0, hr0⟩, hDq⟩ := hfact
   replace hS : St _ (_) (_ :: _ :: _ :: _ :: _ :: _ :: _ :: _ :: _) _ := hS
   refine wp_seq_k ?_; intro K18 hK18
   refine reg hF hS (sq rfl (q_lti rfl rfl) <|
     sq_end) ?_
   clear hF hS; intro a w hF hS
   refine hK18 _ _ ?_
   clear hK18
   refine wp_seq_k ?_; intro K19 hK19
   refine wp_ifd hF rfl (fun hc4 => ?_) (fun hc4 => ?_)
   ·refine wp_skip ?_
    refine hK19 _ _ ?_
    clear hK19
    refine wp_seq_k ?_; intro K20 hK20
    refine wp_block ?_
    refine wp_seq_k ?_; intro K21 hK21
    refine reg hF hS (sq rfl (q_move rfl) <|
      sq rfl (q_idx_sl ty22 ty9 hb rfl rfl (by omega)) <|
      sq rfl (q_ld_S ty9 hb hz rfl rfl (by omega)) <|
      sq rfl (q_assign rfl) <|
      sq rfl (q_assign rfl) <|
      sq_end) ?_
    clear hF hS; intro a w hF hS
    rw [Int.toNat_natCast] at hF
    refine hK21 _ _ ?_
    clear hK21
    refine wp_seq_k ?_; intro K22 hK22
    refine regl ?_
    refine wpl_sq hF hS (sq rfl (q_move rfl) <|
      sq rfl (q_nilCheck rfl) <|
      sq rfl (q_fieldAddr ty89 rfl rfl (s' := 0) kQ) <|
      sq rfl (q_ld_blk1 ty24 4 rfl rfl rfl rfl) <|
      sq rfl (q_move rfl) <|
      sq rfl (q_move rfl) <|
      sq rfl (q_addi rfl rfl (by omega)) <|
      sq_end) ?_
    clear hF hS; intro a w hF hS
    refine wpl_ef hF hS rfl (ef_callx fn48 rfl (List.Perm.refl _) (by exact (dread_ct _ _ _ (by omega) _ _  hDq))) ?_
    clear hF hS; rintro _ _ _ a w ⟨_, _, rfl, rfl, ⟨rfl, rfl, qa14, qb15, qc16, qd17, rfl, hD18⟩⟩ hF hS
    replace hS : St _ (_) (_ :: _ :: _ :: _ :: _ :: _ :: _ :: _ :: _) _ := hS
    refine wpl_sq hF hS (sq rfl (q_move rfl) <|
      sq rfl (q_extract rfl rfl) <|
      sq rfl (q_extract rfl rfl) <|
      sq rfl (q_assign rfl) <|
      sq rfl (q_assign rfl) <|
      sq_end) ?_
    clear hF hS; intro a w hF hS
    refine wpList_nil ?_
    refine hK22 _ _ ?_
    clear hK22
    refine wp_seq_k ?_; intro K23 hK23
    refine wp_seq_k ?_; intro K24 hK24
    refine reg hF hS (sq rfl (q_move rfl) <|
      sq rfl (q_nei rfl rfl) <|
      sq_end) ?_
    clear hF hS; intro a w hF hS
    refine hK24 _ _ ?_
    clear hK24
    refine wp_ifn hF rfl (fun hc5 => ?_) (fun hc5 => ?_)
    ·refine wp_seq_k ?_; intro K25 hK25
     refine reg hF hS (sq rfl (q_move rfl) <|
       sq rfl (q_assign rfl) <|
       sq rfl (q_assign rfl) <|
       sq_end) ?_
     clear hF hS; intro a w hF hS
     refine hK25 _ _ ?_
     clear hK25
     refine wp_ret ?_
     replace hS := hS.perm (.cons _ (.cons _ (.cons _ (.swap _ _ _))))
     replace hS := hS.perm (.cons _ (.cons _ (.swap _ _ _)))
     replace hS := hS.perm (.cons _ (.swap _ _ _))
     replace hS := hS.perm (.swap _ _ _)
     replace hS := hS.perm (.cons _ (.cons _ (.cons _ (.cons _ (.swap _ _ _)))))
     replace hS := hS.perm (.cons _ (.cons _ (.cons _ (.swap _ _ _))))
     replace hS := hS.perm (.cons _ (.cons _ (.swap _ _ _)))
     replace hS := hS.perm (.cons _ (.swap _ _ _))
     replace hS := hS.perm (.cons _ (.cons _ (.cons _ (.cons _ (.cons _ (.swap _ _ _))))))
     replace hS := hS.perm (.cons _ (.cons _ (.cons _ (.cons _ (.swap _ _ _)))))
     replace hS := hS.perm (.cons _ (.cons _ (.cons _ (.swap _ _ _))))
     replace hS := hS.perm (.cons _ (.cons _ (.swap _ _ _)))
     replace hS := hS.perm (.cons _ (.cons _ (.cons _ (.cons _ (.cons _ (.cons _ (.swap _ _ _)))))))
     replace hS := hS.perm (.cons _ (.cons _ (.cons _ (.cons _ (.cons _ (.swap _ _ _))))))
     replace hS := hS.perm (.cons _ (.cons _ (.cons _ (.cons _ (.swap _ _ _)))))
     replace hS := hS.perm (.cons _ (.cons _ (.cons _ (.swap _ _ _))))
     exact fn_retx (rs := [.tmp 6, .tmp 7]) rfl hF hS (vs := [_, _]) ⟨rfl, rfl, trivial⟩ [] [_, _, _, _, _, _, _, _] sQ sQ (Jn.jdr_of (J := J) (S := (Dk.flush (Jn.wrN S at9 l l.length).1).1) ⟨rfl, rfl, _, _, _, _, _, _, _, _, rfl, ⟨vn, vbd, vt, hWf, rfl, rfl, rfl, rfl⟩, hD18⟩ (rfl) (by rw [Jn.wfr_3 rfl (by omega) hw0 (by omega) hr0 hc5]) (by rw [Jn.wfr_3 rfl (by omega) hw0 (by omega) hr0 hc5]))
    ·refine wp_skip ?_
     refine hK23 _ _ ?_
     clear hK23
     refine regl ?_
     refine wpl_sq hF hS (sq rfl (q_move rfl) <|
       sq rfl (q_move rfl) <|
       sq_end) ?_
     clear hF hS; intro a w hF hS
     refine wpl_and 1 67 3 hF hS rfl rfl rfl rfl rfl (fun hg => have hg := hg; sq_go 67 rfl rfl rfl (q_move rfl) <|
       sq_go 67 rfl rfl rfl (q_move rfl) <|
       sq_go 67 rfl rfl rfl (q_eqs rfl rfl) <|
       sq_end) rfl rfl ?_
     clear hF hS; intro a w hF hS
     refine wpl_sq hF hS (sq rfl (q_assign rfl) <|
       sq_end) ?_
     clear hF hS; intro a w hF hS
     refine wpList_nil ?_
     refine hK20 _ _ ?_
     clear hK20
     refine reg hF hS (sq rfl (q_addi rfl rfl (by omega)) <|
       sq rfl (q_move rfl) <|
       sq_end) ?_
     clear hF hS; intro a w hF hS
     refine ⟨(qa14, qb15, qc16, qd17, i + 1), ?_, ?_, hF.sub ⟨rfl, (by show some (Value.bool _) = some (Value.bool _); rw [Jn.rdN_succ hr0 (by omega)]), rfl, rfl, rfl, rfl, trivial⟩, ?_⟩
     ·(try dsimp only); omega
     ·exact ⟨⟨by omega, by rw [Jn.rdN_succ hr0 (by omega)]⟩, hD18⟩
     ·exact hS
   ·refine wp_exit ?_
    refine hK16 _ _ ?_
    clear hK16
    refine wp_seq_k ?_; intro K26 hK26
    refine reg hF hS (sq rfl (q_move rfl) <|
      sq rfl (q_assign rfl) <|
      sq rfl (q_assign rfl) <|
      sq_end) ?_
    clear hF hS; intro a w hF hS
    refine hK26 _ _ ?_
    clear hK26
    refine wp_ret ?_
    replace hS := hS.perm (.cons _ (.cons _ (.cons _ (.swap _ _ _))))
    replace hS := hS.perm (.cons _ (.cons _ (.swap _ _ _)))
    replace hS := hS.perm (.cons _ (.swap _ _ _))
    replace hS := hS.perm (.swap _ _ _)
    replace hS := hS.perm (.cons _ (.cons _ (.cons _ (.cons _ (.swap _ _ _)))))
    replace hS := hS.perm (.cons _ (.cons _ (.cons _ (.swap _ _ _))))
    replace hS := hS.perm (.cons _ (.cons _ (.swap _ _ _)))
    replace hS := hS.perm (.cons _ (.swap _ _ _))
    replace hS := hS.perm (.cons _ (.cons _ (.cons _ (.cons _ (.cons _ (.swap _ _ _))))))
    replace hS := hS.perm (.cons _ (.cons _ (.cons _ (.cons _ (.swap _ _ _)))))
    replace hS := hS.perm (.cons _ (.cons _ (.cons _ (.swap _ _ _))))
    replace hS := hS.perm (.cons _ (.cons _ (.swap _ _ _)))
    replace hS := hS.perm (.cons _ (.cons _ (.cons _ (.cons _ (.cons _ (.cons _ (.swap _ _ _)))))))
    replace hS := hS.perm (.cons _ (.cons _ (.cons _ (.cons _ (.cons _ (.swap _ _ _))))))
    replace hS := hS.perm (.cons _ (.cons _ (.cons _ (.cons _ (.swap _ _ _)))))
    replace hS := hS.perm (.cons _ (.cons _ (.cons _ (.swap _ _ _))))
    obtain rfl : i = l.length := by omega
    exact fn_retx (rs := [.tmp 6, .tmp 7]) rfl hF hS (vs := [_, _]) ⟨rfl, rfl, trivial⟩ [] [_, _, _, _, _, _, _, _] sQ sQ (Jn.jdr_of (J := J) (S := (Dk.flush (Jn.wrN S at9 l l.length).1).1) ⟨rfl, rfl, _, _, _, _, _, _, _, _, rfl, ⟨vn, vbd, vt, hWf, rfl, rfl, rfl, rfl⟩, hDq⟩ (rfl) (by rw [Jn.wfr_4 rfl hw0 (by omega) hr0]) (by rw [Jn.wfr_4 rfl hw0 (by omega) hr0]))

set_option maxRecDepth 4000 in
set_option maxHeartbeats 2000000 in
theorem jappend_ct (h : Dk.Hd) (b : Nat) (J : Jn.JS) (S : Dk.Dsk) (t : List UInt8) (w0 : World) (zsr : List PH) {q1 q2 q3 q4 d1 d2 d3 d4 : Res} {fz0 : Nat × Nat} {bt0 : TypeId} (hg0 : w0.heap[2]? = some (.cells (Sha.kc.map vw).toArray bt0 fz0)) (hJ : JJ b h.b J q1 q2 q3 q4) (hD : DD h S d1 d2 d3 d4) : Cx Tryz.prog 26 [.pointer (some ⟨b, 0, none⟩), vs t] w0 zsr [q1, q2, q3, q4, d1, d2, d3, d4] (Jn.JDR (JJ b h.b) (DD h) (Jn.app J S t).1 (Jn.app J S t).2.1 (.tuple [vi (Jn.app J S t).2.2.1, vi (Jn.app J S t).2.2.2].toArray)) := by
 refine fn_enterx Tryz.func26 rfl Tryz.ntmps26 (Nat.le_of_ble_eq_true rfl) fun hsr a w hF hS => ?_
 replace hS : St _ (_) (_ :: _ :: _ :: _ :: _ :: _ :: _ :: _ :: _) _ := hS
 obtain ⟨vn, vbd, vt, hWf, rfl, rfl, rfl, rfl⟩ := hJ
 have hj1 := hWf.n1
 have hj2 := hWf.n2
 have hj3 := hWf.e1
 have hj4 := hWf.e2
 have hj5 := hWf.nl
 have hj6 := hWf.tl
 have hj7 := hWf.bl
 have hj8 := hWf.nr'
 have hj9 := hWf.br'
 have hj10 := hWf.tr'
 replace hS : St _ (_) (_ :: _ :: _ :: _ :: _ :: _ :: _ :: _ :: _) _ := hS
 have hO := hD.ok
 have hlo := hO.lo
 have hhi := hO.hi
 refine wp_seq_k ?_; intro K1 hK1
 refine reg hF hS (sq rfl (q_assign rfl) <|
   sq rfl (q_assign rfl) <|
   sq_end) ?_
 clear hF hS; intro a w hF hS
 refine hK1 _ _ ?_
 clear hK1
 refine wp_seq_k ?_; intro K2 hK2
 refine wp_block ?_
 refine wp_seq_k ?_; intro K3 hK3
 refine reg hF hS (sq rfl (q_move rfl) <|
   sq rfl (q_nilCheck rfl) <|
   sq rfl (q_fieldAddr ty89 rfl rfl (s' := 0) kQ) <|
   sq rfl (q_ld_blk1 ty4 0 rfl rfl rfl rfl) <|
   sq rfl (q_assign rfl) <|
   sq_end) ?_
 clear hF hS; intro a w hF hS
 refine hK3 _ _ ?_
 clear hK3
 refine wp_if hF rfl (fun hc1 => ?_) (fun hc1 => ?_)
 ·refine wp_seq_k ?_; intro K4 hK4
  refine reg hF hS (sq rfl (q_assign rfl) <|
    sq rfl (q_assign rfl) <|
    sq_end) ?_
  clear hF hS; intro a w hF hS
  refine hK4 _ _ ?_
  clear hK4
  refine wp_ret ?_
  exact fn_retx (rs := [.tmp 4, .tmp 5]) rfl hF hS (vs := [_, _]) ⟨rfl, rfl, trivial⟩ [] [_, _, _, _, _, _, _, _] sQ sQ (Jn.jdr_of (J := J) (S := S) ⟨rfl, rfl, _, _, _, _, _, _, _, _, rfl, ⟨vn, vbd, vt, hWf, rfl, rfl, rfl, rfl⟩, hD⟩ (by rw [Jn.app_1 hc1]) (by rw [Jn.app_1 hc1]) (by rw [Jn.app_1 hc1]))
 ·skip
  refine wp_seq_k ?_; intro K5 hK5
  refine regl ?_
  refine wpl_sq hF hS (sq rfl (q_move rfl) <|
    sq rfl (q_len_s ty9 rfl) <|
    sq rfl (q_gti rfl rfl) <|
    sq rfl (q_move rfl) <|
    sq_end) ?_
  clear hF hS; intro a w hF hS
  refine wpl_or 3 21 5 hF hS rfl rfl rfl rfl rfl (fun hg => have hg := (by first | exact of_decide_eq_false hg | exact hg); sq_go 21 rfl rfl rfl (q_move rfl) <|
    sq_go 21 rfl rfl rfl (q_nilCheck rfl) <|
    sq_go 21 rfl rfl rfl (q_fieldAddr ty89 rfl rfl (s' := 0) kQ) <|
    sq_go 21 rfl rfl rfl (q_ld_blk1 ty3 0 rfl rfl rfl rfl) <|
    sq_go 21 rfl rfl rfl (q_gti rfl rfl) <|
    sq_end) rfl rfl ?_
  clear hF hS; intro a w hF hS
  refine wpl_sq hF hS (sq rfl (q_assign rfl) <|
    sq_end) ?_
  clear hF hS; intro a w hF hS
  refine wpList_nil ?_
  refine hK5 _ _ ?_
  clear hK5
  refine wp_if hF rfl (fun hc2 => ?_) (fun hc2 => ?_)
  ·(try simp only [Bool.or_eq_true, Bool.and_eq_true, Bool.or_eq_false_iff, Bool.and_eq_false_iff, decide_eq_true_eq, decide_eq_false_iff_not, Bool.not_eq_true', Bool.not_eq_false'] at hc2)
   refine wp_seq_k ?_; intro K6 hK6
   refine reg hF hS (sq rfl (q_assign rfl) <|
     sq rfl (q_assign rfl) <|
     sq_end) ?_
   clear hF hS; intro a w hF hS
   refine hK6 _ _ ?_
   clear hK6
   refine wp_ret ?_
   exact fn_retx (rs := [.tmp 4, .tmp 5]) rfl hF hS (vs := [_, _]) ⟨rfl, rfl, trivial⟩ [] [_, _, _, _, _, _, _, _] sQ sQ (Jn.jdr_of (J := J) (S := S) ⟨rfl, rfl, _, _, _, _, _, _, _, _, rfl, ⟨vn, vbd, vt, hWf, rfl, rfl, rfl, rfl⟩, hD⟩ (by rw [Jn.app_2 (by rw [hc1]; simp) (by omega)]) (by rw [Jn.app_2 (by rw [hc1]; simp) (by omega)]) (by rw [Jn.app_2 (by rw [hc1]; simp) (by omega)]))
  ·(try simp only [Bool.or_eq_true, Bool.and_eq_true, Bool.or_eq_false_iff, Bool.and_eq_false_iff, decide_eq_true_eq, decide_eq_false_iff_not, Bool.not_eq_true', Bool.not_eq_false'] at hc2)
   refine wp_seq_k ?_; intro K7 hK7
   refine regl ?_
   refine wpl_sq hF hS (sq rfl (q_move rfl) <|
     sq rfl (q_len_s ty9 rfl) <|
     sq rfl (q_call fn16 rfl (fun w hS => count_ct _ (by first | assumption | omega) w ) (fun _ _ _ h => h)) <|
     sq rfl (q_move rfl) <|
     sq_end) ?_
   clear hF hS; intro a w hF hS
   refine wpl_ef hF hS rfl (ef_callx fn38 rfl (List.Perm.refl _) (by exact (jroom_ct _ _ J S _ _  ⟨vn, vbd, vt, hWf, rfl, rfl, rfl, rfl⟩ hD))) ?_
   clear hF hS; rintro _ _ _ a w ⟨_, _, rfl, rfl, ⟨rfl, rfl, qa2, qb3, qc4, qd5, ua6, ub7, uc8, ud9, rfl, hJ10, hD11⟩⟩ hF hS
   replace hS : St _ (_) (_ :: _ :: _ :: _ :: _ :: _ :: _ :: _ :: _) _ := hS
   refine wpl_sq hF hS (sq rfl (q_gti rfl rfl) <|
     sq rfl (q_assign rfl) <|
     sq_end) ?_
   clear hF hS; intro a w hF hS
   refine wpList_nil ?_
   obtain ⟨vn1, vbd1, vt1, hWf1, rfl, rfl, rfl, rfl⟩ := hJ10
   have hj11 := hWf1.n1
   have hj21 := hWf1.n2
   have hj31 := hWf1.e1
   have hj41 := hWf1.e2
   have hj51 := hWf1.nl
   have hj61 := hWf1.tl
   have hj71 := hWf1.bl
   have hj81 := hWf1.nr'
   have hj91 := hWf1.br'
   have hj101 := hWf1.tr'
   replace hS : St _ (_) (_ :: _ :: _ :: _ :: _ :: _ :: _ :: _ :: _) _ := hS
   refine hK7 _ _ ?_
   clear hK7
   refine wp_ifd hF rfl (fun hc3 => ?_) (fun hc3 => ?_)
   ·refine wp_seq_k ?_; intro K8 hK8
    refine reg hF hS (sq rfl (q_assign rfl) <|
      sq rfl (q_assign rfl) <|
      sq_end) ?_
    clear hF hS; intro a w hF hS
    refine hK8 _ _ ?_
    clear hK8
    refine wp_ret ?_
    exact fn_retx (rs := [.tmp 4, .tmp 5]) rfl hF hS (vs := [_, _]) ⟨rfl, rfl, trivial⟩ [] [_, _, _, _, _, _, _, _] sQ sQ (Jn.jdr_of (J := J) (S := S) ⟨rfl, rfl, _, _, _, _, _, _, _, _, rfl, ⟨vn1, vbd1, vt1, hWf1, rfl, rfl, rfl, rfl⟩, hD11⟩ (by rw [Jn.app_3 (by rw [hc1]; simp) (by omega) (by omega)]) (by rw [Jn.app_3 (by rw [hc1]; simp) (by omega) (by omega)]) (by rw [Jn.app_3 (by rw [hc1]; simp) (by omega) (by omega)]))
   ·have hbl : ¬ J.cl = true := by rw [hc1]; simp
    have hln : t.length ≤ 8000 ∧ J.next ≤ 4096 := by omega
    have hrm : ¬ Jn.room J S < Jn.cnt t.length := by omega
    have hcr := Jn.cnt_rng t.length
    have hsl9 : ((Jn.secs J.next t).length : Int) = Jn.cnt t.length := by rw [Jn.secs_len, Int.toNat_of_nonneg hcr.1]
    have hrm2 := hrm
    unfold Jn.room at hrm2
    refine wp_skip ?_
    refine hK2 _ _ ?_
    clear hK2
    refine wp_seq_k ?_; intro K9 hK9
    refine regd mixed kQ hF hS (sq rfl (q_move rfl) <|
      sq rfl (q_nilCheck rfl) <|
      sq rfl (q_fieldAddr ty89 rfl rfl (s' := 0) kQ) <|
      sq rfl (q_ld_blk1 ty3 0 rfl rfl rfl rfl) <|
      sq rfl (q_move rfl) <|
      sq rfl (q_nilCheck rfl) <|
      sq rfl (q_fieldAddr ty89 rfl rfl (s' := 0) kQ) <|
      sq rfl (q_ld_blk1 ty3 0 rfl rfl rfl rfl) <|
      sq rfl (q_assign rfl) <|
      sq rfl (q_assign rfl) <|
      sq_end) ?_
    clear hF hS; intro a w hF hS
    refine hK9 _ _ ?_
    clear hK9
    refine wp_seq_k ?_; intro K10 hK10
    refine regl ?_
    refine wpl_sq hF hS (sq rfl (q_move rfl) <|
      sq rfl (q_move rfl) <|
      sq_end) ?_
    clear hF hS; intro a w hF hS
    refine wpl_ef hF hS rfl (ef_call fn40 rfl (fun w hS => pack_ct _ _ (by omega) w (hS.ext _ _ hg0))) ?_
    clear hF hS; rintro _ _ _ a w ⟨_, _, rfl, rfl, ⟨v13, rfl, rfl, rfl⟩⟩ hF hS
    replace hS : St _ (_) (_ :: _ :: _ :: _ :: _ :: _ :: _ :: _ :: _ :: _) _ := hS
    refine wpl_sq hF hS (sq rfl (q_move rfl) <|
      sq rfl (q_extract rfl rfl) <|
      sq rfl (q_extract rfl rfl) <|
      sq rfl (q_assign rfl) <|
      sq rfl (q_assign rfl) <|
      sq_end) ?_
    clear hF hS; intro a w hF hS
    refine wpList_nil ?_
    rw [Jn.pack_3 (by omega) (by omega)] at hS hF
    dsimp only at hS hF
    refine hK10 _ _ ?_
    clear hK10
    refine wp_seq_k ?_; intro K11 hK11
    refine regl ?_
    refine wpl_sq hF hS (sq rfl (q_move rfl) <|
      sq rfl (q_move rfl) <|
      sq rfl (q_move rfl) <|
      sq rfl (q_addi rfl rfl (by omega)) <|
      sq rfl (q_move rfl) <|
      sq rfl (q_move rfl) <|
      sq rfl (q_len_row ty22 0 rfl rfl) <|
      sq rfl (q_addi rfl rfl (by omega)) <|
      sq rfl (q_nilCheck rfl) <|
      sq rfl (q_fieldAddr ty89 rfl rfl (s' := 0) kQ) <|
      sq_end) ?_
    clear hF hS; intro a w hF hS
    refine wpl_ef hF hS rfl (ef_store1 ty3 1 rfl rfl rfl rfl (by simp)) ?_
    clear hF hS; rintro _ _ _ a w ⟨rfl, rfl, rfl⟩ hF hS
    replace hS : St _ (_) (_ :: .blk _ _ ([_, _, _, _, _, _, _].set 4 _) :: _ :: _ :: _ :: _ :: _ :: _ :: _ :: _) _ := hS
    simp only [List.set_cons_zero, List.set_cons_succ] at hS
    replace hS : St _ (_) (_ :: _ :: _ :: _ :: _ :: _ :: _ :: _ :: _ :: _) _ := hS
    refine wpl_sq hF hS (sq rfl (q_nilCheck rfl) <|
      sq rfl (q_fieldAddr ty89 rfl rfl (s' := 0) kQ) <|
      sq_end) ?_
    clear hF hS; intro a w hF hS
    refine wpl_ef hF hS rfl (ef_store1 ty3 1 rfl rfl rfl rfl (by simp)) ?_
    clear hF hS; rintro _ _ _ a w ⟨rfl, rfl, rfl⟩ hF hS
    replace hS : St _ (_) (_ :: .blk _ _ ([_, _, _, _, _, _, _].set 5 _) :: _ :: _ :: _ :: _ :: _ :: _ :: _ :: _) _ := hS
    simp only [List.set_cons_zero, List.set_cons_succ] at hS
    replace hS : St _ (_) (_ :: _ :: _ :: _ :: _ :: _ :: _ :: _ :: _ :: _) _ := hS
    refine wpList_nil ?_
    refine hK11 _ _ ?_
    clear hK11
    refine wp_seq_k ?_; intro K12 hK12
    refine wp_seq_k ?_; intro K13 hK13
    refine regl ?_
    refine wpl_sq hF hS (sq rfl (q_move rfl) <|
      sq rfl (q_move rfl) <|
      sq rfl (q_move rfl) <|
      sq_end) ?_
    clear hF hS; intro a w hF hS
    obtain ⟨z15, hz16, hS⟩ := St.freezeV (h0 := fun _ => rfl) (f := vs) (p := fun s => s.length ≤ 140737488355328) (xs := Jn.secs J.next t) hS (by first | rfl | (simp; done)) (by first | decide | omega | (simp; omega)) (Jn.secs_el)
    replace hS : St _ (_ :: _) (_ :: _ :: _ :: _ :: _ :: _ :: _ :: _ :: _) _ := hS
    refine wpl_ef hF hS rfl (ef_callx fn63 rfl (List.Perm.refl _) (by exact (jwrite_ct _ _ (Jn.J1 J t) _ _ _ (Jn.secs J.next t) (by omega) (by rw [Jn.secs_len]; omega) _ _ _ hz16 (.inr (by simp)) ⟨vn1, vbd1, vt1, Jn.wf_1 hWf (by omega) hln hrm, rfl, rfl, rfl, rfl⟩ hD11))) ?_
    clear hF hS; rintro _ _ _ a w ⟨_, _, rfl, rfl, ⟨rfl, rfl, qa18, qb19, qc20, qd21, ua22, ub23, uc24, ud25, rfl, hJ26, hD27⟩⟩ hF hS
    replace hS : St _ (_ :: _) (_ :: _ :: _ :: _ :: _ :: _ :: _ :: _ :: _) _ := hS
    refine wpl_sq hF hS (sq rfl (q_move rfl) <|
      sq rfl (q_extract rfl rfl) <|
      sq rfl (q_extract rfl rfl) <|
      sq rfl (q_assign rfl) <|
      sq rfl (q_assign rfl) <|
      sq_end) ?_
    clear hF hS; intro a w hF hS
    refine wpList_nil ?_
    obtain ⟨vn2, vbd2, vt2, hWf2, rfl, rfl, rfl, rfl⟩ := hJ26
    have hj12 := hWf2.n1
    have hj22 := hWf2.n2
    have hj32 := hWf2.e1
    have hj42 := hWf2.e2
    have hj52 := hWf2.nl
    have hj62 := hWf2.tl
    have hj72 := hWf2.bl
    have hj82 := hWf2.nr'
    have hj92 := hWf2.br'
    have hj102 := hWf2.tr'
    replace hS : St _ (_ :: _) (_ :: _ :: _ :: _ :: _ :: _ :: _ :: _ :: _) _ := hS
    refine hK13 _ _ ?_
    clear hK13
    refine wp_block ?_
    refine wp_seq_k ?_; intro K14 hK14
    refine reg hF hS (sq rfl (q_move rfl) <|
      sq rfl (q_nei rfl rfl) <|
      sq rfl (q_assign rfl) <|
      sq_end) ?_
    clear hF hS; intro a w hF hS
    refine hK14 _ _ ?_
    clear hK14
    refine wp_ifn hF rfl (fun hc4 => ?_) (fun hc4 => ?_)
    ·refine wp_seq_k ?_; intro K15 hK15
     refine regl ?_
     refine wpl_sq hF hS (sq rfl (q_move rfl) <|
       sq rfl (q_nilCheck rfl) <|
       sq rfl (q_fieldAddr ty89 rfl rfl (s' := 0) kQ) <|
       sq_end) ?_
     clear hF hS; intro a w hF hS
     refine wpl_ef hF hS rfl (ef_store1 ty4 0 rfl rfl rfl rfl (by simp)) ?_
     clear hF hS; rintro _ _ _ a w ⟨rfl, rfl, rfl⟩ hF hS
     replace hS : St _ (_ :: _) (.blk _ _ ([_, _, _, _, _, _, _].set 6 _) :: _ :: _ :: _ :: _ :: _ :: _ :: _ :: _) _ := hS
     simp only [List.set_cons_zero, List.set_cons_succ] at hS
     replace hS : St _ (_ :: _) (_ :: _ :: _ :: _ :: _ :: _ :: _ :: _ :: _) _ := hS
     refine wpList_nil ?_
     refine hK15 _ _ ?_
     clear hK15
     refine wp_seq_k ?_; intro K16 hK16
     refine reg hF hS (sq rfl (q_move rfl) <|
       sq rfl (q_assign rfl) <|
       sq rfl (q_assign rfl) <|
       sq_end) ?_
     clear hF hS; intro a w hF hS
     refine hK16 _ _ ?_
     clear hK16
     refine wp_ret ?_
     exact fn_retx (rs := [.tmp 4, .tmp 5]) rfl hF hS (vs := [_, _]) ⟨rfl, rfl, trivial⟩ [] [_, _, _, _, _, _, _, _] (sQ.n) sQ (Jn.jdr_of (J := Jn.J2 J t) (S := (Jn.wfr S J.en (Jn.secs J.next t)).1) ⟨rfl, rfl, _, _, _, _, _, _, _, _, rfl, ⟨_, _, _, Jn.wf_2 hWf2, rfl, rfl, rfl, rfl⟩, hD27⟩ (by rw [Jn.app_4 hbl hln hrm hc4]) (by rw [Jn.app_4 hbl hln hrm hc4]) (by rw [Jn.app_4 hbl hln hrm hc4]))
    ·refine wp_seq_k ?_; intro K17 hK17
     refine reg hF hS (sq rfl (q_move rfl) <|
       sq rfl (q_not rfl) <|
       sq rfl (q_assign rfl) <|
       sq_end) ?_
     clear hF hS; intro a w hF hS
     refine hK17 _ _ ?_
     clear hK17
     refine wp_if hF rfl (fun hc5 => ?_) (fun hc5 => ?_)
     ·refine wp_seq_k ?_; intro K18 hK18
      refine reg hF hS (sq rfl (q_assign rfl) <|
        sq rfl (q_assign rfl) <|
        sq_end) ?_
      clear hF hS; intro a w hF hS
      refine hK18 _ _ ?_
      clear hK18
      refine wp_ret ?_
      exact fn_retx (rs := [.tmp 4, .tmp 5]) rfl hF hS (vs := [_, _]) ⟨rfl, rfl, trivial⟩ [] [_, _, _, _, _, _, _, _] (sQ.n) sQ (Jn.jdr_of (J := Jn.J1 J t) (S := (Jn.wfr S J.en (Jn.secs J.next t)).1) ⟨rfl, rfl, _, _, _, _, _, _, _, _, rfl, ⟨_, _, _, hWf2, rfl, rfl, rfl, rfl⟩, hD27⟩ (by rw [Jn.app_5 hbl hln hrm (by omega) (by simpa using hc5)]) (by rw [Jn.app_5 hbl hln hrm (by omega) (by simpa using hc5)]) (by rw [Jn.app_5 hbl hln hrm (by omega) (by simpa using hc5)]))
     ·refine wp_skip ?_
      refine hK12 _ _ ?_
      clear hK12
      refine wp_seq_k ?_; intro K19 hK19
      revert hS; revert hF; apply regJ (J := J4 (α0 := Value) (α1 := Value) (α2 := Value) (α3 := Value) 99 _ _ _ _ _) #[false, false, false, false, false, false, false, false, false, false, false, false, false, false, false, false, false, false, false, false, false, false] 22 mixed rfl rfl
      ·intro w hF hS
       refine goW_take 0 _ rfl kQ rfl hF (hS.keep sQ (sQ.n.n.n.n.n.n.n.n)) (q_move rfl) ?_
       clear hF; intro a hF
       refine goW_take 1 _ rfl kQ rfl hF (hS.keep sQ (sQ.n.n.n.n.n.n.n.n)) (q_move rfl) ?_
       clear hF; intro a hF
       refine goW_take 2 _ rfl kQ rfl hF (hS.keep sQ (sQ.n.n.n.n.n.n.n.n)) (q_move rfl) ?_
       clear hF; intro a hF
       refine goW_take 3 _ rfl kQ rfl hF (hS.keep sQ (sQ.n.n.n.n.n.n.n.n)) (q_nilCheck rfl) ?_
       clear hF; intro a hF
       refine goW_take 4 _ rfl kQ rfl hF (hS.keep sQ (sQ.n.n.n.n.n.n.n.n)) (q_fieldAddr ty89 rfl rfl (s' := 0) kQ) ?_
       clear hF; intro a hF
       refine goW_take 5 _ rfl kQ rfl hF (hS.keep sQ (sQ.n.n.n.n.n.n.n.k)) (q_ld_blk1 ty51 0 rfl rfl rfl rfl) ?_
       clear hF; intro a hF
       refine goW_take 6 _ rfl kQ rfl hF (hS.keep sQ (sQ.n.n.n.n.n.n.n.n)) (q_move rfl) ?_
       clear hF; intro a hF
       refine goW_take 9 _ rfl kQ rfl hF (hS.keep sQ (sQ.n.n.n.n.n.n.n.n)) (q_move rfl) ?_
       clear hF; intro a hF
       refine goW_take 10 _ rfl kQ rfl hF (hS.keep sQ (sQ.n.n.n.n.n.n.n.n)) (q_nilCheck rfl) ?_
       clear hF; intro a hF
       refine goW_take 11 _ rfl kQ rfl hF (hS.keep sQ (sQ.n.n.n.n.n.n.n.n)) (q_fieldAddr ty89 rfl rfl (s' := 0) kQ) ?_
       clear hF; intro a hF
       refine goW_take 12 _ rfl kQ rfl hF (hS.keep sQ (sQ.n.n.n.n.n.n.n.k)) (q_ld_blk1 ty22 0 rfl rfl rfl rfl) ?_
       clear hF; intro a hF
       refine goW_take 13 _ rfl kQ rfl hF (hS.keep sQ (sQ.n.n.n.n.n.n.n.n)) (q_move rfl) ?_
       clear hF; intro a hF
       refine goW_fork [7, 14] kQ rfl ⟨?_, ?_, trivial⟩
       ·refine stepW_ef _ rfl rfl hF hS rfl (ef_bsliceA ty51 ty3 rfl rfl oQ (by decide) rfl rfl) ?_
        clear hF hS; rintro v_16_7 _ _ a w ⟨rfl, rfl⟩ hF hS
        replace hS : St _ (_ :: _) (_ :: _ :: _ :: _ :: _ :: _ :: _ :: _ :: _ :: _) _ := hS
        refine ⟨⟨.inr (hS.keep sQ (sQ.n.n.n.n.n.n.n.n.n)), .inr (hS.keep sQ (sQ.n.n.n.n.n.n.n.k.n)), .inr (hS.keep sQ (sQ.n.n.n.n.n.n.n.n.n)), .inr (hS.keep sQ (sQ.n.n.n.n.n.n.n.n.n)), .inr (hS.keep sQ (sQ.n.n.n.n.n.n.n.n.n)), iQ, .inr (hS.keep sQ (sQ.n.n.n.n.n.n.n.k.n)), .inr (hS.keep sQ (sQ.n.n.n.n.n.n.n.n.n)), .inr (hS.keep sQ (sQ.n.n.n.n.n.n.n.n.n)), .inr (hS.keep sQ (sQ.n.n.n.n.n.n.n.n.n)), .inr (hS.keep sQ (sQ.n.n.n.n.n.n.n.n.n)), .inr (hS.keep sQ (sQ.n.n.n.n.n.n.n.n.n)), trivial⟩, ?_⟩
        refine goW_fork [8, 14] kQ rfl ⟨?_, ?_, trivial⟩
        ·refine stepW_ef _ rfl rfl hF hS rfl (ef_append ty51 ty3 2 rfl rfl rfl (src_row ty51 (k := 0) rfl oQ) bQ rfl (by decide)) ?_
         clear hF hS; rintro v_16_8 _ _ a w ⟨rfl, rfl⟩ hF hS
         replace hS : St _ (_ :: _) (_ :: _ :: _ :: _ :: _ :: _ :: _ :: _ :: _ :: _) _ := hS
         refine ⟨⟨.inr (hS.keep sQ (sQ.n.n.n.n.n.n.n.n.n)), .inr (hS.keep sQ (sQ.n.n.n.n.n.n.n.k.n)), .inr (hS.keep sQ (sQ.n.n.n.n.n.n.n.n.n)), .inr (hS.keep sQ (sQ.n.n.n.n.n.n.n.n.n)), .inr (hS.keep sQ (sQ.n.n.n.n.n.n.n.n.n)), iQ, iQ, iQ, .inr (hS.keep sQ (sQ.n.n.n.n.n.n.n.n.n)), .inr (hS.keep sQ (sQ.n.n.n.n.n.n.n.n.n)), .inr (hS.keep sQ (sQ.n.n.n.n.n.n.n.n.n)), .inr (hS.keep sQ (sQ.n.n.n.n.n.n.n.n.n)), trivial⟩, ?_⟩
         refine gQ 14 rfl rfl hF hS rfl (ef_bsliceA ty22 ty9 rfl rfl oQ (by decide) rfl rfl) ?_
         clear hF hS; rintro v_16_14 _ _ a w ⟨rfl, rfl⟩ hF hS
         replace hS : St _ (_ :: _) (_ :: _ :: _ :: _ :: _ :: _ :: _ :: _ :: _ :: _ :: _) _ := hS
         refine ⟨⟨iQ, .inr (hS.keep sQ (sQ.n.n.n.n.n.n.n.k.n.n)), .inr (hS.keep sQ (sQ.n.n.n.n.n.n.n.n.n.n)), .inr (hS.keep sQ (sQ.n.n.n.n.n.n.n.n.n.n)), .inr (hS.keep sQ (sQ.n.n.n.n.n.n.n.n.n.n)), iQ, iQ, iQ, .inr (hS.keep sQ (sQ.n.n.n.n.n.n.n.n.n.n)), .inr (hS.keep sQ (sQ.n.n.n.n.n.n.n.n.n.n)), .inr (hS.keep sQ (sQ.n.n.n.n.n.n.n.n.n.n)), .inr (hS.keep sQ (sQ.n.n.n.n.n.n.n.n.n.n)), trivial⟩, ?_⟩
         refine gQ 15 rfl rfl hF hS rfl (ef_append ty22 ty9 5 rfl rfl rfl (src_row ty22 (k := 0) rfl oQ) bQ rfl (by decide)) ?_
         clear hF hS; rintro v_16_15 _ _ a w ⟨rfl, rfl⟩ hF hS
         replace hS : St _ (_ :: _) (_ :: _ :: _ :: _ :: _ :: _ :: _ :: _ :: _ :: _ :: _) _ := hS
         refine ⟨⟨iQ, iQ, iQ, .inr (hS.keep sQ (sQ.n.n.n.n.n.n.n.n.n.n)), .inr (hS.keep sQ (sQ.n.n.n.n.n.n.n.n.n.n)), iQ, iQ, iQ, .inr (hS.keep sQ (sQ.n.n.n.n.n.n.n.n.n.n)), .inr (hS.keep sQ (sQ.n.n.n.n.n.n.n.n.n.n)), .inr (hS.keep sQ (sQ.n.n.n.n.n.n.n.n.n.n)), .inr (hS.keep sQ (sQ.n.n.n.n.n.n.n.n.n.n)), trivial⟩, ?_⟩
         refine goW_take 16 _ rfl kQ rfl hF (hS.keep sQ (sQ.n.n.n.n.n.n.n.n.n.n)) (q_nilCheck rfl) ?_
         clear hF; intro a hF
         refine goW_take 17 _ rfl kQ rfl hF (hS.keep sQ (sQ.n.n.n.n.n.n.n.n.n.n)) (q_fieldAddr ty89 rfl rfl (s' := 0) kQ) ?_
         clear hF; intro a hF
         refine gQ 18 rfl rfl hF hS rfl (ef_store1 ty51 2 rfl rfl rfl (row_one (hS.own _ (List.mem_of_getElem? (i := 3) rfl)).1) (by simp)) ?_
         clear hF hS; rintro _ _ _ a w ⟨rfl, rfl, rfl⟩ hF hS
         replace hS : St _ (_ :: _) (_ :: _ :: .blk _ _ ([_, _, _, _, _, _, _].set 1 _) :: _ :: _ :: _ :: _ :: _ :: _ :: _ :: _) _ := hS
         simp only [List.set_cons_zero, List.set_cons_succ] at hS
         replace hS : St _ (_ :: _) (_ :: _ :: _ :: _ :: _ :: _ :: _ :: _ :: _ :: _ :: _) _ := hS
         refine ⟨⟨iQ, iQ, iQ, iQ, iQ, .inr (hS.keep sQ (sQ.n.n.n.n.n.n.n.n.n.n)), .inr (hS.keep sQ (sQ.n.n.n.n.n.n.n.n.n.n)), iQ, iQ, iQ, iQ, iQ, .inr (hS.keep sQ (sQ.n.n.n.n.n.n.n.n.n.n)), iQ, trivial⟩, ?_⟩
         refine goW_take 19 _ rfl kQ rfl hF (hS.keep sQ (sQ.n.n.n.n.n.n.n.n.n.n)) (q_nilCheck rfl) ?_
         clear hF; intro a hF
         refine goW_take 20 _ rfl kQ rfl hF (hS.keep sQ (sQ.n.n.n.n.n.n.n.n.n.n)) (q_fieldAddr ty89 rfl rfl (s' := 0) kQ) ?_
         clear hF; intro a hF
         refine gQ 21 rfl rfl hF hS rfl (ef_store1 ty22 2 rfl rfl rfl (row_one (hS.own _ (List.mem_of_getElem? (i := 5) rfl)).1) (by simp)) ?_
         clear hF hS; rintro _ _ _ a w ⟨rfl, rfl, rfl⟩ hF hS
         replace hS : St _ (_ :: _) (_ :: _ :: .blk _ _ ([_, _, _, _, _, _, _].set 3 _) :: _ :: _ :: _ :: _ :: _ :: _ :: _ :: _) _ := hS
         simp only [List.set_cons_zero, List.set_cons_succ] at hS
         replace hS : St _ (_ :: _) (_ :: _ :: _ :: _ :: _ :: _ :: _ :: _ :: _ :: _ :: _) _ := hS
         refine ⟨⟨iQ, iQ, iQ, iQ, iQ, iQ, iQ, iQ, iQ, iQ, iQ, iQ, iQ, iQ, iQ, iQ, trivial⟩, ?_⟩
         exact goW_done kQ (j4_mk v_16_7 v_16_8 v_16_14 v_16_15 (trivial) (hF.sub (L' := [(6, _)]) ⟨rfl, trivial⟩) hS)
        ·refine stepW_ef _ rfl rfl hF hS rfl (ef_bsliceA ty22 ty9 rfl rfl oQ (by decide) rfl rfl) ?_
         clear hF hS; rintro v_16_14 _ _ a w ⟨rfl, rfl⟩ hF hS
         replace hS : St _ (_ :: _) (_ :: _ :: _ :: _ :: _ :: _ :: _ :: _ :: _ :: _ :: _) _ := hS
         refine ⟨⟨iQ, .inr (hS.keep sQ (sQ.n.n.n.n.n.n.n.k.n.n)), .inr (hS.keep sQ (sQ.n.n.n.n.n.n.n.n.n.n)), .inr (hS.keep sQ (sQ.n.n.n.n.n.n.n.n.n.n)), .inr (hS.keep sQ (sQ.n.n.n.n.n.n.n.n.n.n)), iQ, .inr (hS.keep sQ (sQ.n.n.n.n.n.n.n.k.n.n)), .inr (hS.keep sQ (sQ.n.n.n.n.n.n.n.n.n.n)), .inr (hS.keep sQ (sQ.n.n.n.n.n.n.n.n.n.n)), .inr (hS.keep sQ (sQ.n.n.n.n.n.n.n.n.n.n)), .inr (hS.keep sQ (sQ.n.n.n.n.n.n.n.n.n.n)), .inr (hS.keep sQ (sQ.n.n.n.n.n.n.n.n.n.n)), trivial⟩, ?_⟩
         refine gQ 8 rfl rfl hF hS rfl (ef_append ty51 ty3 3 rfl rfl rfl (src_row ty51 (k := 1) rfl oQ) bQ rfl (by decide)) ?_
         clear hF hS; rintro v_16_8 _ _ a w ⟨rfl, rfl⟩ hF hS
         replace hS : St _ (_ :: _) (_ :: _ :: _ :: _ :: _ :: _ :: _ :: _ :: _ :: _ :: _) _ := hS
         refine ⟨⟨iQ, .inr (hS.keep sQ (sQ.n.n.n.n.n.n.n.k.n.n)), .inr (hS.keep sQ (sQ.n.n.n.n.n.n.n.n.n.n)), .inr (hS.keep sQ (sQ.n.n.n.n.n.n.n.n.n.n)), .inr (hS.keep sQ (sQ.n.n.n.n.n.n.n.n.n.n)), iQ, iQ, iQ, .inr (hS.keep sQ (sQ.n.n.n.n.n.n.n.n.n.n)), .inr (hS.keep sQ (sQ.n.n.n.n.n.n.n.n.n.n)), .inr (hS.keep sQ (sQ.n.n.n.n.n.n.n.n.n.n)), .inr (hS.keep sQ (sQ.n.n.n.n.n.n.n.n.n.n)), trivial⟩, ?_⟩
         refine gQ 15 rfl rfl hF hS rfl (ef_append ty22 ty9 5 rfl rfl rfl (src_row ty22 (k := 0) rfl oQ) bQ rfl (by decide)) ?_
         clear hF hS; rintro v_16_15 _ _ a w ⟨rfl, rfl⟩ hF hS
         replace hS : St _ (_ :: _) (_ :: _ :: _ :: _ :: _ :: _ :: _ :: _ :: _ :: _ :: _) _ := hS
         refine ⟨⟨iQ, iQ, iQ, .inr (hS.keep sQ (sQ.n.n.n.n.n.n.n.n.n.n)), .inr (hS.keep sQ (sQ.n.n.n.n.n.n.n.n.n.n)), iQ, iQ, iQ, .inr (hS.keep sQ (sQ.n.n.n.n.n.n.n.n.n.n)), .inr (hS.keep sQ (sQ.n.n.n.n.n.n.n.n.n.n)), .inr (hS.keep sQ (sQ.n.n.n.n.n.n.n.n.n.n)), .inr (hS.keep sQ (sQ.n.n.n.n.n.n.n.n.n.n)), trivial⟩, ?_⟩
         refine goW_take 16 _ rfl kQ rfl hF (hS.keep sQ (sQ.n.n.n.n.n.n.n.n.n.n)) (q_nilCheck rfl) ?_
         clear hF; intro a hF
         refine goW_take 17 _ rfl kQ rfl hF (hS.keep sQ (sQ.n.n.n.n.n.n.n.n.n.n)) (q_fieldAddr ty89 rfl rfl (s' := 0) kQ) ?_
         clear hF; intro a hF
         refine gQ 18 rfl rfl hF hS rfl (ef_store1 ty51 2 rfl rfl rfl (row_one (hS.own _ (List.mem_of_getElem? (i := 3) rfl)).1) (by simp)) ?_
         clear hF hS; rintro _ _ _ a w ⟨rfl, rfl, rfl⟩ hF hS
         replace hS : St _ (_ :: _) (_ :: _ :: .blk _ _ ([_, _, _, _, _, _, _].set 1 _) :: _ :: _ :: _ :: _ :: _ :: _ :: _ :: _) _ := hS
         simp only [List.set_cons_zero, List.set_cons_succ] at hS
         replace hS : St _ (_ :: _) (_ :: _ :: _ :: _ :: _ :: _ :: _ :: _ :: _ :: _ :: _) _ := hS
         refine ⟨⟨iQ, iQ, iQ, iQ, iQ, .inr (hS.keep sQ (sQ.n.n.n.n.n.n.n.n.n.n)), .inr (hS.keep sQ (sQ.n.n.n.n.n.n.n.n.n.n)), iQ, iQ, iQ, iQ, iQ, .inr (hS.keep sQ (sQ.n.n.n.n.n.n.n.n.n.n)), iQ, trivial⟩, ?_⟩
         refine goW_take 19 _ rfl kQ rfl hF (hS.keep sQ (sQ.n.n.n.n.n.n.n.n.n.n)) (q_nilCheck rfl) ?_
         clear hF; intro a hF
         refine goW_take 20 _ rfl kQ rfl hF (hS.keep sQ (sQ.n.n.n.n.n.n.n.n.n.n)) (q_fieldAddr ty89 rfl rfl (s' := 0) kQ) ?_
         clear hF; intro a hF
         refine gQ 21 rfl rfl hF hS rfl (ef_store1 ty22 2 rfl rfl rfl (row_one (hS.own _ (List.mem_of_getElem? (i := 5) rfl)).1) (by simp)) ?_
         clear hF hS; rintro _ _ _ a w ⟨rfl, rfl, rfl⟩ hF hS
         replace hS : St _ (_ :: _) (_ :: _ :: .blk _ _ ([_, _, _, _, _, _, _].set 3 _) :: _ :: _ :: _ :: _ :: _ :: _ :: _ :: _) _ := hS
         simp only [List.set_cons_zero, List.set_cons_succ] at hS
         replace hS : St _ (_ :: _) (_ :: _ :: _ :: _ :: _ :: _ :: _ :: _ :: _ :: _ :: _) _ := hS
         refine ⟨⟨iQ, iQ, iQ, iQ, iQ, iQ, iQ, iQ, iQ, iQ, iQ, iQ, iQ, iQ, iQ, iQ, trivial⟩, ?_⟩
         exact goW_done kQ (j4_mk v_16_7 v_16_8 v_16_14 v_16_15 (trivial) (hF.sub (L' := [(6, _)]) ⟨rfl, trivial⟩) hS)
       ·refine stepW_ef _ rfl rfl hF hS rfl (ef_bsliceA ty22 ty9 rfl rfl oQ (by decide) rfl rfl) ?_
        clear hF hS; rintro v_16_14 _ _ a w ⟨rfl, rfl⟩ hF hS
        replace hS : St _ (_ :: _) (_ :: _ :: _ :: _ :: _ :: _ :: _ :: _ :: _ :: _) _ := hS
        refine ⟨⟨iQ, .inr (hS.keep sQ (sQ.n.n.n.n.n.n.n.k.n)), .inr (hS.keep sQ (sQ.n.n.n.n.n.n.n.n.n)), .inr (hS.keep sQ (sQ.n.n.n.n.n.n.n.n.n)), .inr (hS.keep sQ (sQ.n.n.n.n.n.n.n.n.n)), .inr (hS.keep sQ (sQ.n.n.n.n.n.n.n.n.n)), .inr (hS.keep sQ (sQ.n.n.n.n.n.n.n.k.n)), .inr (hS.keep sQ (sQ.n.n.n.n.n.n.n.n.n)), .inr (hS.keep sQ (sQ.n.n.n.n.n.n.n.n.n)), .inr (hS.keep sQ (sQ.n.n.n.n.n.n.n.n.n)), .inr (hS.keep sQ (sQ.n.n.n.n.n.n.n.n.n)), .inr (hS.keep sQ (sQ.n.n.n.n.n.n.n.n.n)), trivial⟩, ?_⟩
        refine gQ 7 rfl rfl hF hS rfl (ef_bsliceA ty51 ty3 rfl rfl oQ (by decide) rfl rfl) ?_
        clear hF hS; rintro v_16_7 _ _ a w ⟨rfl, rfl⟩ hF hS
        replace hS : St _ (_ :: _) (_ :: _ :: _ :: _ :: _ :: _ :: _ :: _ :: _ :: _ :: _) _ := hS
        refine ⟨⟨iQ, .inr (hS.keep sQ (sQ.n.n.n.n.n.n.n.k.n.n)), .inr (hS.keep sQ (sQ.n.n.n.n.n.n.n.n.n.n)), .inr (hS.keep sQ (sQ.n.n.n.n.n.n.n.n.n.n)), .inr (hS.keep sQ (sQ.n.n.n.n.n.n.n.n.n.n)), iQ, .inr (hS.keep sQ (sQ.n.n.n.n.n.n.n.k.n.n)), .inr (hS.keep sQ (sQ.n.n.n.n.n.n.n.n.n.n)), .inr (hS.keep sQ (sQ.n.n.n.n.n.n.n.n.n.n)), .inr (hS.keep sQ (sQ.n.n.n.n.n.n.n.n.n.n)), .inr (hS.keep sQ (sQ.n.n.n.n.n.n.n.n.n.n)), .inr (hS.keep sQ (sQ.n.n.n.n.n.n.n.n.n.n)), trivial⟩, ?_⟩
        refine gQ 8 rfl rfl hF hS rfl (ef_append ty51 ty3 3 rfl rfl rfl (src_row ty51 (k := 0) rfl oQ) bQ rfl (by decide)) ?_
        clear hF hS; rintro v_16_8 _ _ a w ⟨rfl, rfl⟩ hF hS
        replace hS : St _ (_ :: _) (_ :: _ :: _ :: _ :: _ :: _ :: _ :: _ :: _ :: _ :: _) _ := hS
        refine ⟨⟨iQ, .inr (hS.keep sQ (sQ.n.n.n.n.n.n.n.k.n.n)), .inr (hS.keep sQ (sQ.n.n.n.n.n.n.n.n.n.n)), .inr (hS.keep sQ (sQ.n.n.n.n.n.n.n.n.n.n)), .inr (hS.keep sQ (sQ.n.n.n.n.n.n.n.n.n.n)), iQ, iQ, iQ, .inr (hS.keep sQ (sQ.n.n.n.n.n.n.n.n.n.n)), .inr (hS.keep sQ (sQ.n.n.n.n.n.n.n.n.n.n)), .inr (hS.keep sQ (sQ.n.n.n.n.n.n.n.n.n.n)), .inr (hS.keep sQ (sQ.n.n.n.n.n.n.n.n.n.n)), trivial⟩, ?_⟩
        refine gQ 15 rfl rfl hF hS rfl (ef_append ty22 ty9 5 rfl rfl rfl (src_row ty22 (k := 1) rfl oQ) bQ rfl (by decide)) ?_
        clear hF hS; rintro v_16_15 _ _ a w ⟨rfl, rfl⟩ hF hS
        replace hS : St _ (_ :: _) (_ :: _ :: _ :: _ :: _ :: _ :: _ :: _ :: _ :: _ :: _) _ := hS
        refine ⟨⟨iQ, iQ, iQ, .inr (hS.keep sQ (sQ.n.n.n.n.n.n.n.n.n.n)), .inr (hS.keep sQ (sQ.n.n.n.n.n.n.n.n.n.n)), iQ, iQ, iQ, .inr (hS.keep sQ (sQ.n.n.n.n.n.n.n.n.n.n)), .inr (hS.keep sQ (sQ.n.n.n.n.n.n.n.n.n.n)), .inr (hS.keep sQ (sQ.n.n.n.n.n.n.n.n.n.n)), .inr (hS.keep sQ (sQ.n.n.n.n.n.n.n.n.n.n)), trivial⟩, ?_⟩
        refine goW_take 16 _ rfl kQ rfl hF (hS.keep sQ (sQ.n.n.n.n.n.n.n.n.n.n)) (q_nilCheck rfl) ?_
        clear hF; intro a hF
        refine goW_take 17 _ rfl kQ rfl hF (hS.keep sQ (sQ.n.n.n.n.n.n.n.n.n.n)) (q_fieldAddr ty89 rfl rfl (s' := 0) kQ) ?_
        clear hF; intro a hF
        refine gQ 18 rfl rfl hF hS rfl (ef_store1 ty51 2 rfl rfl rfl (row_one (hS.own _ (List.mem_of_getElem? (i := 3) rfl)).1) (by simp)) ?_
        clear hF hS; rintro _ _ _ a w ⟨rfl, rfl, rfl⟩ hF hS
        replace hS : St _ (_ :: _) (_ :: _ :: .blk _ _ ([_, _, _, _, _, _, _].set 1 _) :: _ :: _ :: _ :: _ :: _ :: _ :: _ :: _) _ := hS
        simp only [List.set_cons_zero, List.set_cons_succ] at hS
        replace hS : St _ (_ :: _) (_ :: _ :: _ :: _ :: _ :: _ :: _ :: _ :: _ :: _ :: _) _ := hS
        refine ⟨⟨iQ, iQ, iQ, iQ, iQ, .inr (hS.keep sQ (sQ.n.n.n.n.n.n.n.n.n.n)), .inr (hS.keep sQ (sQ.n.n.n.n.n.n.n.n.n.n)), iQ, iQ, iQ, iQ, iQ, .inr (hS.keep sQ (sQ.n.n.n.n.n.n.n.n.n.n)), iQ, trivial⟩, ?_⟩
        refine goW_take 19 _ rfl kQ rfl hF (hS.keep sQ (sQ.n.n.n.n.n.n.n.n.n.n)) (q_nilCheck rfl) ?_
        clear hF; intro a hF
        refine goW_take 20 _ rfl kQ rfl hF (hS.keep sQ (sQ.n.n.n.n.n.n.n.n.n.n)) (q_fieldAddr ty89 rfl rfl (s' := 0) kQ) ?_
        clear hF; intro a hF
        refine gQ 21 rfl rfl hF hS rfl (ef_store1 ty22 2 rfl rfl rfl (row_one (hS.own _ (List.mem_of_getElem? (i := 5) rfl)).1) (by simp)) ?_
        clear hF hS; rintro _ _ _ a w ⟨rfl, rfl, rfl⟩ hF hS
        replace hS : St _ (_ :: _) (_ :: _ :: .blk _ _ ([_, _, _, _, _, _, _].set 3 _) :: _ :: _ :: _ :: _ :: _ :: _ :: _ :: _) _ := hS
        simp only [List.set_cons_zero, List.set_cons_succ] at hS
        replace hS : St _ (_ :: _) (_ :: _ :: _ :: _ :: _ :: _ :: _ :: _ :: _ :: _ :: _) _ := hS
        refine ⟨⟨iQ, iQ, iQ, iQ, iQ, iQ, iQ, iQ, iQ, iQ, iQ, iQ, iQ, iQ, iQ, iQ, trivial⟩, ?_⟩
        exact goW_done kQ (j4_mk v_16_7 v_16_8 v_16_14 v_16_15 (trivial) (hF.sub (L' := [(6, _)]) ⟨rfl, trivial⟩) (hS.perm (.swap _ _ _)))
      rintro a w ⟨v_16_7, v_16_8, v_16_14, v_16_15, -, hF, hS⟩
      (try dsimp only at hF); (try dsimp only at hS)
      refine hK19 _ _ ?_
      clear hK19
      refine wp_seq_k ?_; intro K20 hK20
      refine reg hF hS (sq rfl (q_move rfl) <|
        sq rfl (q_assign rfl) <|
        sq rfl (q_assign rfl) <|
        sq_end) ?_
      clear hF hS; intro a w hF hS
      refine hK20 _ _ ?_
      clear hK20
      refine wp_ret ?_
      replace hS := hS.perm (.cons _ (.swap _ _ _))
      replace hS := hS.perm (.swap _ _ _)
      replace hS := hS.perm (.cons _ (.cons _ (.swap _ _ _)))
      replace hS := hS.perm (.cons _ (.swap _ _ _))
      replace hS := hS.perm (.cons _ (.cons _ (.cons _ (.swap _ _ _))))
      replace hS := hS.perm (.cons _ (.cons _ (.swap _ _ _)))
      replace hS := hS.perm (.cons _ (.cons _ (.cons _ (.cons _ (.swap _ _ _)))))
      replace hS := hS.perm (.cons _ (.cons _ (.cons _ (.swap _ _ _))))
      replace hS := hS.perm (.cons _ (.cons _ (.cons _ (.cons _ (.cons _ (.swap _ _ _))))))
      replace hS := hS.perm (.cons _ (.cons _ (.cons _ (.cons _ (.swap _ _ _)))))
      replace hS := hS.perm (.cons _ (.cons _ (.cons _ (.cons _ (.cons _ (.cons _ (.swap _ _ _)))))))
      replace hS := hS.perm (.cons _ (.cons _ (.cons _ (.cons _ (.cons _ (.swap _ _ _))))))
      replace hS := hS.perm (.cons _ (.cons _ (.cons _ (.cons _ (.cons _ (.cons _ (.cons _ (.swap _ _ _))))))))
      replace hS := hS.perm (.cons _ (.cons _ (.cons _ (.cons _ (.cons _ (.cons _ (.swap _ _ _)))))))
      replace hS := hS.perm (.cons _ (.cons _ (.cons _ (.cons _ (.cons _ (.cons _ (.cons _ (.cons _ (.swap _ _ _)))))))))
      replace hS := hS.perm (.cons _ (.cons _ (.cons _ (.cons _ (.cons _ (.cons _ (.cons _ (.swap _ _ _))))))))
      exact fn_retx (rs := [.tmp 4, .tmp 5]) rfl hF hS (vs := [_, _]) ⟨rfl, rfl, trivial⟩ [] [_, _, _, _, _, _, _, _] (sQ.n) (sQ.n.n.k.k.k.k.k.k.k.k) (Jn.jdr_of (J := Jn.J3 J t) (S := (Jn.wfr S J.en (Jn.secs J.next t)).1) ⟨rfl, rfl, _, _, _, _, _, _, _, _, rfl, ⟨_, _, _, Jn.wf_3 hWf hWf2 hln, rfl, (by simp [Jn.J3, Jn.J1]), rfl, (by simp [Jn.J3, Jn.J1])⟩, hD27⟩ (by rw [Jn.app_6 hbl hln hrm (by omega) (by simpa using hc5)]) (by rw [Jn.app_6 hbl hln hrm (by omega) (by simpa using hc5)]) (by rw [Jn.app_6 hbl hln hrm (by omega) (by simpa using hc5)]))
end Go.Proofs.YtibbhobfdbfkkaaGreatDoor
