/- A text of a proof over this seat: walks over the program's functions and the plain laws that they need. -/
import Derived.Test.YtngcjojijaknnaaGreatDoorFwB
import Derived.Test.YtngcjojijaknnaaGreatDoorFwC
import Derived.Test.YtngcjojijaknnaaGreatDoorFwD
import Derived.Test.YtngcjojijaknnaaGreatDoorShW
import Derived.Test.YtngcjojijaknnaaGreatDoorJnA
import Derived.Test.YtngcjojijaknnaaGreatDoorFwG
import Derived.Test.YtngcjojijaknnaaGreatDoorMkA
import Derived.Test.YtngcjojijaknnaaGreatDoorLgA
import Derived.Test.YtngcjojijaknnaaGreatDoorC1
import Derived.Test.YtngcjojijaknnaaGreatDoorLlay2
set_option linter.all false
namespace Go.Proofs.YtngcjojijaknnaaGreatDoor
open Go.Fw
set_option maxRecDepth 4000
set_option maxHeartbeats 2000000
section
theorem ty46 : Tf Tryz.prog 46 (.pointer 124) 1 8 (Value.pointer none) := ⟨Tryz.underlying46, by kernel_rfl⟩
theorem fn29 : FnOk Tryz.prog 29 := fQ Tryz.func29
theorem fn93 : FnOk Tryz.prog 93 := fQ Tryz.func93
theorem fn108 : FnOk Tryz.prog 108 := fQ Tryz.func108
theorem fn109 : FnOk Tryz.prog 109 := fQ Tryz.func109
theorem fn110 : FnOk Tryz.prog 110 := fQ Tryz.func110
theorem fn150 : FnOk Tryz.prog 150 := fQ Tryz.func150
theorem fn151 : FnOk Tryz.prog 151 := fQ Tryz.func151
attribute [local irreducible] Sha.sum Jn.good Jn.hd Jn.lb Jn.cnt
theorem jroom_ct (h : Dk.Hd) (b : Nat) (J : Jn.JS) (S : Dk.Dsk) (w0 : World) (zsr : List PH) {q1 q2 q3 q4 d1 d2 d3 d4 : Res} (hJ : JJ b h.b J q1 q2 q3 q4) (hD : DD h S d1 d2 d3 d4) : Cx Tryz.prog 108 [.pointer (some ⟨b, 0, none⟩)] w0 zsr [q1, q2, q3, q4, d1, d2, d3, d4] (Jn.JDR (JJ b h.b) (DD h) J S (vi (Jn.room J S))) := by
 refine fn_enterx Tryz.func108 rfl Tryz.ntmps108 (Nat.le_of_ble_eq_true rfl) fun hsr a w hF hS => ?_
 replace hS := nt0_8 hS
 obtain ⟨vn, vbd, vt, hWf, rfl, rfl, rfl, rfl⟩ := hJ
 have hj1 := hWf.n1
 have hj2 := hWf.n2
 have hj3 := hWf.e1
 have hj4 := hWf.e2
 have hj5 := hWf.nl
 have hj6 := hWf.tl
 have hj7 := hWf.bl
 have hj8 := hWf.nr'
 have hj9 := hWf.br'
 have hj10 := hWf.tr'
 replace hS := nt0_8 hS
 have hO := hD.ok
 have hlo := hO.lo
 have hhi := hO.hi
 refine regS hF hS (aQ rfl <| sq_end) fun a w hF hS => ?_
 refine k0 ?_; intro K2 hK2
 revert hS; revert hF; apply regJ (J := J4 (α0 := Res) (α1 := Res) (α2 := Res) (α3 := Res) 13 _ _ _ _ _) #[false, false, false, false, false, false, false, false, false, false, false] 11 mixed rfl rfl
 ·intro w hF hS
  refine tQ 0 rfl hF (hS.keep sQ (sQ.n.n.n.n.n.n.n.n)) (q_move rfl) fun a hF => ?_
  refine tQ 1 rfl hF (hS.keep sQ (sQ.n.n.n.n.n.n.n.n)) (q_nilCheck rfl) fun a hF => ?_
  refine tQ 2 rfl hF (hS.keep sQ (sQ.n.n.n.n.n.n.n.n)) (q_fieldAddr ty172 rfl rfl (s' := 0) kQ) fun a hF => ?_
  refine tQ 3 rfl hF (hS.keep sQ (sQ.n.n.n.n.n.n.n.k)) (q_ld_blk1 ty46 0 rfl rfl rfl rfl) fun a hF => ?_
  refine tQ 5 rfl hF (hS.keep sQ (sQ.n.n.n.n.n.n.n.n)) (q_move rfl) fun a hF => ?_
  refine tQ 6 rfl hF (hS.keep sQ (sQ.n.n.n.n.n.n.n.n)) (q_nilCheck rfl) fun a hF => ?_
  refine tQ 7 rfl hF (hS.keep sQ (sQ.n.n.n.n.n.n.n.n)) (q_fieldAddr ty172 rfl rfl (s' := 0) kQ) fun a hF => ?_
  refine tQ 8 rfl hF (hS.keep sQ (sQ.n.n.n.n.n.n.n.k)) (q_ld_blk1 ty3 0 rfl rfl rfl rfl) fun a hF => ?_
  refine goW_fork [4] kQ rfl ⟨?_, trivial⟩
  replace hS := hS.perm P0_3
  replace hS := hS.perm P1_4
  replace hS := hS.perm P2_5
  replace hS := hS.perm P3_6
  replace hS := nt0_8 hS
  refine stepW_ef _ rfl rfl hF hS rfl (ef_callx fn93 rfl (List.Perm.refl _) (by exact (dlen_ct _ _ _ _  hD))) ?_
  rintro _ _ _ a w ⟨_, _, rfl, rfl, ⟨rfl, rfl, qa_1_4, qb_1_4, qc_1_4, qd_1_4, rfl, hD_1_4⟩⟩ hF hS
  replace hS := nt0_8 hS
  refine ⟨⟨.inr (hS.keep sQ (sQ.n.n.n.k.n.n.n.n)), .inr (hS.keep sQ (sQ.n.n.n.n.n.n.n.n)), .inr (hS.keep sQ (sQ.n.n.n.n.n.n.n.n)), .inr (hS.keep sQ (sQ.n.n.n.n.n.n.n.n)), iQ, iQ, .inr (hS.keep sQ (sQ.n.n.n.n.n.n.n.n)), .inr (hS.keep sQ (sQ.n.n.n.n.n.n.n.n)), trivial⟩, ?_⟩
  refine tQ 9 rfl hF (hS.keep sQ (sQ.n.n.n.n.n.n.n.n)) (q_subi rfl rfl (by omega)) fun a hF => ?_
  refine tQ 10 rfl hF (hS.keep sQ (sQ.n.n.n.n.n.n.n.n)) (q_assign rfl) fun a hF => ?_
  exact goW_done kQ (j4_mk qa_1_4 qb_1_4 qc_1_4 qd_1_4 ((And.intro hD_1_4 trivial)) (hF.sub (L' := [(2, _)]) ⟨rfl, trivial⟩) hS)
 rintro a w ⟨qa_1_4, qb_1_4, qc_1_4, qd_1_4, ⟨hD_1_4, -⟩, hF, hS⟩
 (try dsimp only at hF hS)
 refine hK2 _ _ ?_
 refine wp_ret ?_
 replace hS := hS.perm P0_3
 replace hS := hS.perm P1_4
 replace hS := hS.perm P2_5
 replace hS := hS.perm P3_6
 exact fn_retx (rs := [.tmp 2]) rfl hF hS (vs := [_]) ⟨rfl, trivial⟩ [] [_, _, _, _, _, _, _, _] sQ sQ (Jn.jdr_of (J := J) (S := S) ⟨rfl, rfl, _, _, _, _, _, _, _, _, rfl, ⟨vn, vbd, vt, hWf, rfl, rfl, rfl, rfl⟩, hD_1_4⟩ (rfl) (rfl) (rfl))
theorem jwrite_ct (h : Dk.Hd) (b : Nat) (J : Jn.JS) (S : Dk.Dsk) (at9 : Int) (v : Value) (l : List (List UInt8)) (ha : 0 ≤ at9 ∧ at9 ≤ 4096) (hl : l.length ≤ 200) (w0 : World) (zsr : List PH) {q1 q2 q3 q4 d1 d2 d3 d4 : Res} (z : PH) (hb : Sl Go.Fw.encS z v l) (hz : ZIn w0 zsr z) (hJ : JJ b h.b J q1 q2 q3 q4) (hD : DD h S d1 d2 d3 d4) : Cx Tryz.prog 110 [.pointer (some ⟨b, 0, none⟩), vi at9, v] w0 zsr [q1, q2, q3, q4, d1, d2, d3, d4] (Jn.JDR (JJ b h.b) (DD h) J (Jn.wfr S at9 l).1 (.tuple [vi (Jn.wfr S at9 l).2.1, .bool (Jn.wfr S at9 l).2.2].toArray)) := by
 refine fn_enterx Tryz.func110 rfl Tryz.ntmps110 (Nat.le_of_ble_eq_true rfl) fun hsr a w hF hS => ?_
 replace hS := nt0_8 hS
 obtain ⟨vn, vbd, vt, hWf, rfl, rfl, rfl, rfl⟩ := hJ
 have hj1 := hWf.n1
 have hj2 := hWf.n2
 have hj3 := hWf.e1
 have hj4 := hWf.e2
 have hj5 := hWf.nl
 have hj6 := hWf.tl
 have hj7 := hWf.bl
 have hj8 := hWf.nr'
 have hj9 := hWf.br'
 have hj10 := hWf.tr'
 replace hS := nt0_8 hS
 have hO := hD.ok
 have hlo := hO.lo
 have hhi := hO.hi
 refine regS hF hS (aQ rfl <| aQ rfl <| sq_end) fun a w hF hS => ?_
 refine k0 ?_; intro K2 hK2
 refine regS hF hS (mQ rfl <| q0 (q_len_sl ty40 hb rfl) <| mQ rfl <| sq_end) fun a w hF hS => ?_
 refine wp_block ?_
 obtain ⟨hs0, hhs0, hS⟩ := hS.oh
 refine wp_loopx (γ := Res × Res × Res × Res × Nat) (d1, d2, d3, d4, 0) (fun (q1, q2, q3, q4, i) => [(19, vi (i : Int))]) [(0, _), (1, _), (2, _), (17, _), (18, _)] (fun (q1, q2, q3, q4, i) => ((((hs0.set 4 (q1)).set 5 (q2)).set 6 (q3)).set 7 (q4))) (fun (q1, q2, q3, q4, i) => (i ≤ l.length ∧ (Jn.wrN S at9 l i).2 = 0) ∧ DD h ((Jn.wrN S at9 l i).1) q1 q2 q3 q4) (fun (q1, q2, q3, q4, i) => l.length - i) (hF.sub ⟨rfl, rfl, rfl, rfl, rfl, rfl, trivial⟩) (by subst hhs0; exact hS) (by exact ⟨⟨Nat.zero_le _, rfl⟩, hD⟩) ?_
 rintro ⟨q1, q2, q3, q4, i⟩ a w hfact hF hS
 subst hhs0; (try dsimp only at hfact hF hS)
 obtain ⟨⟨hi0, hw0⟩, hDq⟩ := hfact
 replace hS := nt0_8 hS
 refine regS hF hS (q0 (q_lti rfl rfl) <| sq_end) fun a w hF hS => ?_
 refine k0 ?_; intro K5 hK5
 refine wp_ifd hF rfl (fun hc1 => ?_) (fun hc1 => ?_)
 ·refine wp_skip ?_
  refine hK5 _ _ ?_
  refine k0 ?_; intro K6 hK6
  refine wp_block ?_
  refine k0 ?_; intro K7 hK7
  refine reg hF hS (mQ rfl <| q0 (q_idx_sl ty40 ty9 hb rfl rfl (by omega)) <| q0 (q_ld_S ty9 hb hz rfl rfl (by omega)) <| aQ rfl <| aQ rfl <| sq_end) fun a w hF hS => ?_
  rw [Int.toNat_natCast] at hF
  refine hK7 _ _ ?_
  refine reglS fun K8 hK8 => ?_
  refine lQ hF hS (mQ rfl <| q0 (q_nilCheck rfl) <| q0 (q_fieldAddr ty172 rfl rfl (s' := 0) kQ) <| q0 (q_ld_blk1 ty46 0 rfl rfl rfl rfl) <| mQ rfl <| mQ rfl <| pQ rfl rfl <| mQ rfl <| sq_end) fun a w hF hS => ?_
  replace hS := hS.perm P0_3
  replace hS := hS.perm P1_4
  replace hS := hS.perm P2_5
  replace hS := hS.perm P3_6
  replace hS := nt0_8 hS
  refine eQ hF hS rfl (ef_callx fn150 rfl (List.Perm.refl _) (by exact (dwrite_ct _ _ _ (by omega) _ _ _  hDq))) ?_
  rintro _ _ _ a w ⟨_, _, rfl, rfl, ⟨rfl, rfl, qa2, qb3, qc4, qd5, rfl, hD6⟩⟩ hF hS
  replace hS := nt0_8 hS
  refine lQ hF hS (aQ rfl <| sq_end) fun a w hF hS => ?_
  refine wpList_nil (hK8 _ _ ?_)
  refine regS hF hS (mQ rfl <| q0 (q_nei rfl rfl) <| sq_end) fun a w hF hS => ?_
  refine wp_ifn hF rfl (fun hc2 => ?_) (fun hc2 => ?_)
  ·refine k0 ?_; intro K10 hK10
   refine reg hF hS (mQ rfl <| aQ rfl <| aQ rfl <| sq_end) fun a w hF hS => ?_
   refine hK10 _ _ ?_
   refine wp_ret ?_
   replace hS := hS.perm P0_3
   replace hS := hS.perm P1_4
   replace hS := hS.perm P2_5
   replace hS := hS.perm P3_6
   exact fn_retx (rs := [.tmp 6, .tmp 7]) rfl hF hS (vs := [_, _]) ⟨rfl, rfl, trivial⟩ [] [_, _, _, _, _, _, _, _] sQ sQ (Jn.jdr_of (J := J) (S := (Dk.write (Jn.wrN S at9 l i).1 (at9 + i) (l.getD i [])).1) ⟨rfl, rfl, _, _, _, _, _, _, _, _, rfl, ⟨vn, vbd, vt, hWf, rfl, rfl, rfl, rfl⟩, hD6⟩ (rfl) (by rw [Jn.wfr_1 (by omega) hw0 hc2]) (by rw [Jn.wfr_1 (by omega) hw0 hc2]))
  ·refine wp_skip ?_
   refine hK6 _ _ ?_
   refine reg hF hS (pQ rfl rfl <| mQ rfl <| sq_end) fun a w hF hS => ?_
   replace hS := hS.perm P0_3
   replace hS := hS.perm P1_4
   replace hS := hS.perm P2_5
   replace hS := hS.perm P3_6
   replace hS := hS.keep sQ sQ
   refine ⟨(qa2, qb3, qc4, qd5, i + 1), ?_, ?_, hF.sub ⟨rfl, rfl, rfl, rfl, rfl, rfl, trivial⟩, ?_⟩
   ·(try dsimp only); omega
   ·exact ⟨⟨by omega, by rw [Jn.wrN_succ hw0]; omega⟩, by rw [Jn.wrN_succ hw0]; exact hD6⟩
   ·exact hS
 ·obtain rfl : i = l.length := by omega
  refine wp_exit ?_
  refine hK2 _ _ ?_
  refine k0 ?_; intro K11 hK11
  refine reglS fun K12 hK12 => ?_
  refine lQ hF hS (mQ rfl <| q0 (q_nilCheck rfl) <| q0 (q_fieldAddr ty172 rfl rfl (s' := 0) kQ) <| q0 (q_ld_blk1 ty46 0 rfl rfl rfl rfl) <| sq_end) fun a w hF hS => ?_
  replace hS := hS.perm P0_3
  replace hS := hS.perm P1_4
  replace hS := hS.perm P2_5
  replace hS := hS.perm P3_6
  replace hS := nt0_8 hS
  refine eQ hF hS rfl (ef_callx fn151 rfl (List.Perm.refl _) (by exact (dflush_ct _ _ _ _  hDq))) ?_
  rintro _ _ _ a w ⟨_, _, rfl, rfl, ⟨rfl, rfl, qa8, qb9, qc10, qd11, rfl, hD12⟩⟩ hF hS
  replace hS := nt0_8 hS
  refine lQ hF hS (aQ rfl <| sq_end) fun a w hF hS => ?_
  refine wpList_nil (hK12 _ _ ?_)
  refine regS hF hS (mQ rfl <| q0 (q_nei rfl rfl) <| sq_end) fun a w hF hS => ?_
  refine wp_ifn hF rfl (fun hc3 => ?_) (fun hc3 => ?_)
  ·refine k0 ?_; intro K14 hK14
   refine reg hF hS (mQ rfl <| aQ rfl <| aQ rfl <| sq_end) fun a w hF hS => ?_
   refine hK14 _ _ ?_
   refine wp_ret ?_
   replace hS := hS.perm P0_3
   replace hS := hS.perm P1_4
   replace hS := hS.perm P2_5
   replace hS := hS.perm P3_6
   exact fn_retx (rs := [.tmp 6, .tmp 7]) rfl hF hS (vs := [_, _]) ⟨rfl, rfl, trivial⟩ [] [_, _, _, _, _, _, _, _] sQ sQ (Jn.jdr_of (J := J) (S := (Dk.flush (Jn.wrN S at9 l l.length).1).1) ⟨rfl, rfl, _, _, _, _, _, _, _, _, rfl, ⟨vn, vbd, vt, hWf, rfl, rfl, rfl, rfl⟩, hD12⟩ (rfl) (by rw [Jn.wfr_2 hw0 hc3]) (by rw [Jn.wfr_2 hw0 hc3]))
  ·refine wp_skip ?_
   refine hK11 _ _ ?_
   refine regS hF hS (aQ rfl <| sq_end) fun a w hF hS => ?_
   refine k0 ?_; intro K16 hK16
   refine regS hF hS (mQ rfl <| q0 (q_len_sl ty40 hb rfl) <| mQ rfl <| sq_end) fun a w hF hS => ?_
   refine wp_block ?_
   obtain ⟨hs0, hhs0, hS⟩ := hS.oh
   refine wp_loopx (γ := Res × Res × Res × Res × Nat) (qa8, qb9, qc10, qd11, 0) (fun (q1, q2, q3, q4, i) => [(47, vi (i : Int)), (12, .bool (Jn.rdN (Dk.flush (Jn.wrN S at9 l l.length).1).1 at9 l i).2)]) [(0, _), (1, _), (45, _), (46, _)] (fun (q1, q2, q3, q4, i) => ((((hs0.set 0 (q1)).set 1 (q2)).set 2 (q3)).set 3 (q4))) (fun (q1, q2, q3, q4, i) => (i ≤ l.length ∧ (Jn.rdN (Dk.flush (Jn.wrN S at9 l l.length).1).1 at9 l i).1 = 0) ∧ DD h ((Dk.flush (Jn.wrN S at9 l l.length).1).1) q1 q2 q3 q4) (fun (q1, q2, q3, q4, i) => l.length - i) (hF.sub ⟨rfl, rfl, rfl, rfl, rfl, rfl, trivial⟩) (by subst hhs0; exact hS) (by exact ⟨⟨Nat.zero_le _, rfl⟩, hD12⟩) ?_
   rintro ⟨q1, q2, q3, q4, i⟩ a w hfact hF hS
   subst hhs0; (try dsimp only at hfact hF hS)
   obtain ⟨⟨hi0, hr0⟩, hDq⟩ := hfact
   replace hS := nt0_8 hS
   refine regS hF hS (q0 (q_lti rfl rfl) <| sq_end) fun a w hF hS => ?_
   refine k0 ?_; intro K19 hK19
   refine wp_ifd hF rfl (fun hc4 => ?_) (fun hc4 => ?_)
   ·refine wp_skip ?_
    refine hK19 _ _ ?_
    refine k0 ?_; intro K20 hK20
    refine wp_block ?_
    refine k0 ?_; intro K21 hK21
    refine reg hF hS (mQ rfl <| q0 (q_idx_sl ty40 ty9 hb rfl rfl (by omega)) <| q0 (q_ld_S ty9 hb hz rfl rfl (by omega)) <| aQ rfl <| aQ rfl <| sq_end) fun a w hF hS => ?_
    rw [Int.toNat_natCast] at hF
    refine hK21 _ _ ?_
    refine reglS fun K22 hK22 => ?_
    refine lQ hF hS (mQ rfl <| q0 (q_nilCheck rfl) <| q0 (q_fieldAddr ty172 rfl rfl (s' := 0) kQ) <| q0 (q_ld_blk1 ty46 4 rfl rfl rfl rfl) <| mQ rfl <| mQ rfl <| pQ rfl rfl <| sq_end) fun a w hF hS => ?_
    refine eQ hF hS rfl (ef_callx fn29 rfl (List.Perm.refl _) (by exact (dread_ct _ _ _ (by omega) _ _  hDq))) ?_
    rintro _ _ _ a w ⟨_, _, rfl, rfl, ⟨rfl, rfl, qa14, qb15, qc16, qd17, rfl, hD18⟩⟩ hF hS
    replace hS := nt0_8 hS
    refine lQ hF hS (mQ rfl <| q0 (q_extract rfl rfl) <| q0 (q_extract rfl rfl) <| aQ rfl <| aQ rfl <| sq_end) fun a w hF hS => ?_
    refine wpList_nil (hK22 _ _ ?_)
    refine k0 ?_; intro K23 hK23
    refine regS hF hS (mQ rfl <| q0 (q_nei rfl rfl) <| sq_end) fun a w hF hS => ?_
    refine wp_ifn hF rfl (fun hc5 => ?_) (fun hc5 => ?_)
    ·refine k0 ?_; intro K25 hK25
     refine reg hF hS (mQ rfl <| aQ rfl <| aQ rfl <| sq_end) fun a w hF hS => ?_
     refine hK25 _ _ ?_
     refine wp_ret ?_
     replace hS := hS.perm P0_3
     replace hS := hS.perm P1_4
     replace hS := hS.perm P2_5
     replace hS := hS.perm P3_6
     exact fn_retx (rs := [.tmp 6, .tmp 7]) rfl hF hS (vs := [_, _]) ⟨rfl, rfl, trivial⟩ [] [_, _, _, _, _, _, _, _] sQ sQ (Jn.jdr_of (J := J) (S := (Dk.flush (Jn.wrN S at9 l l.length).1).1) ⟨rfl, rfl, _, _, _, _, _, _, _, _, rfl, ⟨vn, vbd, vt, hWf, rfl, rfl, rfl, rfl⟩, hD18⟩ (rfl) (by rw [Jn.wfr_3 rfl (by omega) hw0 (by omega) hr0 hc5]) (by rw [Jn.wfr_3 rfl (by omega) hw0 (by omega) hr0 hc5]))
    ·refine wp_skip ?_
     refine hK23 _ _ ?_
     refine regl ?_
     refine lQ hF hS (mQ rfl <| mQ rfl <| sq_end) fun a w hF hS => ?_
     refine wpl_and 1 67 3 hF hS rfl rfl rfl rfl rfl (fun hg => have hg := hg; sq_go 67 rfl rfl rfl (q_move rfl) <| sq_go 67 rfl rfl rfl (q_move rfl) <| sq_go 67 rfl rfl rfl (q_eqs rfl rfl) <| sq_end) rfl rfl fun a w hF hS => ?_
     refine lQ hF hS (aQ rfl <| sq_end) fun a w hF hS => ?_
     refine wpList_nil (hK20 _ _ ?_)
     refine reg hF hS (pQ rfl rfl <| mQ rfl <| sq_end) fun a w hF hS => ?_
     refine ⟨(qa14, qb15, qc16, qd17, i + 1), ?_, ?_, hF.sub ⟨rfl, (by show some (Value.bool _) = some (Value.bool _); rw [Jn.rdN_succ hr0 (by omega)]), rfl, rfl, rfl, rfl, trivial⟩, ?_⟩
     ·(try dsimp only); omega
     ·exact ⟨⟨by omega, by rw [Jn.rdN_succ hr0 (by omega)]⟩, hD18⟩
     ·exact hS
   ·refine wp_exit ?_
    refine hK16 _ _ ?_
    refine regS hF hS (mQ rfl <| aQ rfl <| aQ rfl <| sq_end) fun a w hF hS => ?_
    refine wp_ret ?_
    replace hS := hS.perm P0_3
    replace hS := hS.perm P1_4
    replace hS := hS.perm P2_5
    replace hS := hS.perm P3_6
    obtain rfl : i = l.length := by omega
    exact fn_retx (rs := [.tmp 6, .tmp 7]) rfl hF hS (vs := [_, _]) ⟨rfl, rfl, trivial⟩ [] [_, _, _, _, _, _, _, _] sQ sQ (Jn.jdr_of (J := J) (S := (Dk.flush (Jn.wrN S at9 l l.length).1).1) ⟨rfl, rfl, _, _, _, _, _, _, _, _, rfl, ⟨vn, vbd, vt, hWf, rfl, rfl, rfl, rfl⟩, hDq⟩ (rfl) (by rw [Jn.wfr_4 rfl hw0 (by omega) hr0]) (by rw [Jn.wfr_4 rfl hw0 (by omega) hr0]))
theorem jappend_ct (h : Dk.Hd) (b : Nat) (J : Jn.JS) (S : Dk.Dsk) (t : List UInt8) (w0 : World) (zsr : List PH) {q1 q2 q3 q4 d1 d2 d3 d4 : Res} {fz0 : Nat × Nat} {bt0 : TypeId} (hg0 : w0.heap[1]? = some (.cells (Sha.kc.map vw).toArray bt0 fz0)) (hJ : JJ b h.b J q1 q2 q3 q4) (hD : DD h S d1 d2 d3 d4) : Cx Tryz.prog 72 [.pointer (some ⟨b, 0, none⟩), vs t] w0 zsr [q1, q2, q3, q4, d1, d2, d3, d4] (Jn.JDR (JJ b h.b) (DD h) (Jn.app J S t).1 (Jn.app J S t).2.1 (.tuple [vi (Jn.app J S t).2.2.1, vi (Jn.app J S t).2.2.2].toArray)) := by
 refine fn_enterx Tryz.func72 rfl Tryz.ntmps72 (Nat.le_of_ble_eq_true rfl) fun hsr a w hF hS => ?_
 replace hS := nt0_8 hS
 obtain ⟨vn, vbd, vt, hWf, rfl, rfl, rfl, rfl⟩ := hJ
 have hj1 := hWf.n1
 have hj2 := hWf.n2
 have hj3 := hWf.e1
 have hj4 := hWf.e2
 have hj5 := hWf.nl
 have hj6 := hWf.tl
 have hj7 := hWf.bl
 have hj8 := hWf.nr'
 have hj9 := hWf.br'
 have hj10 := hWf.tr'
 replace hS := nt0_8 hS
 have hO := hD.ok
 have hlo := hO.lo
 have hhi := hO.hi
 refine regS hF hS (aQ rfl <| aQ rfl <| sq_end) fun a w hF hS => ?_
 refine k0 ?_; intro K2 hK2
 refine wp_block ?_
 refine regS hF hS (mQ rfl <| q0 (q_nilCheck rfl) <| q0 (q_fieldAddr ty172 rfl rfl (s' := 0) kQ) <| q0 (q_ld_blk1 ty4 0 rfl rfl rfl rfl) <| aQ rfl <| sq_end) fun a w hF hS => ?_
 refine wp_if hF rfl (fun hc1 => ?_) (fun hc1 => ?_)
 ·refine k0 ?_; intro K4 hK4
  refine reg hF hS (aQ rfl <| aQ rfl <| sq_end) fun a w hF hS => ?_
  refine hK4 _ _ ?_
  refine wp_ret ?_
  exact fn_retx (rs := [.tmp 4, .tmp 5]) rfl hF hS (vs := [_, _]) ⟨rfl, rfl, trivial⟩ [] [_, _, _, _, _, _, _, _] sQ sQ (Jn.jdr_of (J := J) (S := S) ⟨rfl, rfl, _, _, _, _, _, _, _, _, rfl, ⟨vn, vbd, vt, hWf, rfl, rfl, rfl, rfl⟩, hD⟩ (by rw [Jn.app_1 hc1]) (by rw [Jn.app_1 hc1]) (by rw [Jn.app_1 hc1]))
 ·skip
  refine reglS fun K5 hK5 => ?_
  refine lQ hF hS (mQ rfl <| q0 (q_len_s ty9 rfl) <| q0 (q_gti rfl rfl) <| mQ rfl <| sq_end) fun a w hF hS => ?_
  refine wpl_or 3 21 5 hF hS rfl rfl rfl rfl rfl (fun hg => have hg := (by first | exact of_decide_eq_false hg | exact hg); sq_go 21 rfl rfl rfl (q_move rfl) <| sq_go 21 rfl rfl rfl (q_nilCheck rfl) <| sq_go 21 rfl rfl rfl (q_fieldAddr ty172 rfl rfl (s' := 0) kQ) <| sq_go 21 rfl rfl rfl (q_ld_blk1 ty3 0 rfl rfl rfl rfl) <| sq_go 21 rfl rfl rfl (q_gti rfl rfl) <| sq_end) rfl rfl fun a w hF hS => ?_
  refine lQ hF hS (aQ rfl <| sq_end) fun a w hF hS => ?_
  refine wpList_nil (hK5 _ _ ?_)
  refine wp_if hF rfl (fun hc2 => ?_) (fun hc2 => ?_)
  ·(try simp only [bS] at hc2)
   refine regS hF hS (aQ rfl <| aQ rfl <| sq_end) fun a w hF hS => ?_
   refine wp_ret ?_
   exact fn_retx (rs := [.tmp 4, .tmp 5]) rfl hF hS (vs := [_, _]) ⟨rfl, rfl, trivial⟩ [] [_, _, _, _, _, _, _, _] sQ sQ (Jn.jdr_of (J := J) (S := S) ⟨rfl, rfl, _, _, _, _, _, _, _, _, rfl, ⟨vn, vbd, vt, hWf, rfl, rfl, rfl, rfl⟩, hD⟩ (by rw [Jn.app_2 (by rw [hc1]; simp) (by omega)]) (by rw [Jn.app_2 (by rw [hc1]; simp) (by omega)]) (by rw [Jn.app_2 (by rw [hc1]; simp) (by omega)]))
  ·(try simp only [bS] at hc2)
   refine reglS fun K7 hK7 => ?_
   refine lQ hF hS (mQ rfl <| q0 (q_len_s ty9 rfl) <| q0 (q_call fn27 rfl (fun w hS => count_ct _ (by first | assumption | omega) w ) (fun _ _ _ h => h)) <| mQ rfl <| sq_end) fun a w hF hS => ?_
   refine eQ hF hS rfl (ef_callx fn108 rfl (List.Perm.refl _) (by exact (jroom_ct _ _ J S _ _  ⟨vn, vbd, vt, hWf, rfl, rfl, rfl, rfl⟩ hD))) ?_
   rintro _ _ _ a w ⟨_, _, rfl, rfl, ⟨rfl, rfl, qa2, qb3, qc4, qd5, ua6, ub7, uc8, ud9, rfl, hJ10, hD11⟩⟩ hF hS
   replace hS := nt0_8 hS
   refine lQ hF hS (q0 (q_gti rfl rfl) <| aQ rfl <| sq_end) fun a w hF hS => ?_
   refine wpList_nil ?_
   obtain ⟨vn1, vbd1, vt1, hWf1, rfl, rfl, rfl, rfl⟩ := hJ10
   have hj11 := hWf1.n1
   have hj21 := hWf1.n2
   have hj31 := hWf1.e1
   have hj41 := hWf1.e2
   have hj51 := hWf1.nl
   have hj61 := hWf1.tl
   have hj71 := hWf1.bl
   have hj81 := hWf1.nr'
   have hj91 := hWf1.br'
   have hj101 := hWf1.tr'
   replace hS := nt0_8 hS
   refine hK7 _ _ ?_
   refine wp_ifd hF rfl (fun hc3 => ?_) (fun hc3 => ?_)
   ·refine k0 ?_; intro K8 hK8
    refine reg hF hS (aQ rfl <| aQ rfl <| sq_end) fun a w hF hS => ?_
    refine hK8 _ _ ?_
    refine wp_ret ?_
    exact fn_retx (rs := [.tmp 4, .tmp 5]) rfl hF hS (vs := [_, _]) ⟨rfl, rfl, trivial⟩ [] [_, _, _, _, _, _, _, _] sQ sQ (Jn.jdr_of (J := J) (S := S) ⟨rfl, rfl, _, _, _, _, _, _, _, _, rfl, ⟨vn1, vbd1, vt1, hWf1, rfl, rfl, rfl, rfl⟩, hD11⟩ (by rw [Jn.app_3 (by rw [hc1]; simp) (by omega) (by omega)]) (by rw [Jn.app_3 (by rw [hc1]; simp) (by omega) (by omega)]) (by rw [Jn.app_3 (by rw [hc1]; simp) (by omega) (by omega)]))
   ·have hbl : ¬ J.cl = true := by rw [hc1]; simp
    have hln : t.length ≤ 8000 ∧ J.next ≤ 4096 := by omega
    have hrm : ¬ Jn.room J S < Jn.cnt t.length := by omega
    have hcr := Jn.cnt_rng t.length
    have hsl9 : ((Jn.secs J.next t).length : Int) = Jn.cnt t.length := by rw [Jn.secs_len, Int.toNat_of_nonneg hcr.1]
    have hrm2 := hrm
    unfold Jn.room at hrm2
    refine wp_skip ?_
    refine hK2 _ _ ?_
    refine regdS mixed kQ hF hS (mQ rfl <| q0 (q_nilCheck rfl) <| q0 (q_fieldAddr ty172 rfl rfl (s' := 0) kQ) <| q0 (q_ld_blk1 ty3 0 rfl rfl rfl rfl) <| mQ rfl <| q0 (q_nilCheck rfl) <| q0 (q_fieldAddr ty172 rfl rfl (s' := 0) kQ) <| q0 (q_ld_blk1 ty3 0 rfl rfl rfl rfl) <| aQ rfl <| aQ rfl <| sq_end) fun a w hF hS => ?_
    refine reglS fun K10 hK10 => ?_
    refine lQ hF hS (mQ rfl <| mQ rfl <| sq_end) fun a w hF hS => ?_
    refine eQ hF hS rfl (ef_call fn109 rfl (fun w hS => pack_ct _ _ (by omega) w (hS.ext _ _ hg0))) ?_
    rintro _ _ _ a w ⟨_, _, rfl, rfl, ⟨v13, rfl, rfl, rfl⟩⟩ hF hS
    replace hS := nt0_9 hS
    refine lQ hF hS (mQ rfl <| q0 (q_extract rfl rfl) <| q0 (q_extract rfl rfl) <| aQ rfl <| aQ rfl <| sq_end) fun a w hF hS => ?_
    refine wpList_nil ?_
    rw [Jn.pack_3 (by omega) (by omega)] at hS hF
    dsimp only at hS hF
    refine hK10 _ _ ?_
    refine reglS fun K11 hK11 => ?_
    refine lQ hF hS (mQ rfl <| mQ rfl <| mQ rfl <| pQ rfl rfl <| mQ rfl <| mQ rfl <| q0 (q_len_row ty40 0 rfl rfl) <| pQ rfl rfl <| q0 (q_nilCheck rfl) <| q0 (q_fieldAddr ty172 rfl rfl (s' := 0) kQ) <| sq_end) fun a w hF hS => ?_
    refine eQ hF hS rfl (ef_store1 ty3 1 rfl rfl rfl rfl (by simp)) ?_
    rintro _ _ _ a w ⟨rfl, rfl, rfl⟩ hF hS
    replace hS : St _ (_) (_ :: .blk _ _ ([_, _, _, _, _, _, _].set 4 _) :: _ :: _ :: _ :: _ :: _ :: _ :: _ :: _) _ := hS
    simp only [List.set_cons_zero, List.set_cons_succ] at hS
    replace hS := nt0_9 hS
    refine lQ hF hS (q0 (q_nilCheck rfl) <| q0 (q_fieldAddr ty172 rfl rfl (s' := 0) kQ) <| sq_end) fun a w hF hS => ?_
    refine eQ hF hS rfl (ef_store1 ty3 1 rfl rfl rfl rfl (by simp)) ?_
    rintro _ _ _ a w ⟨rfl, rfl, rfl⟩ hF hS
    replace hS : St _ (_) (_ :: .blk _ _ ([_, _, _, _, _, _, _].set 5 _) :: _ :: _ :: _ :: _ :: _ :: _ :: _ :: _) _ := hS
    simp only [List.set_cons_zero, List.set_cons_succ] at hS
    replace hS := nt0_9 hS
    refine wpList_nil (hK11 _ _ ?_)
    refine k0 ?_; intro K12 hK12
    refine reglS fun K13 hK13 => ?_
    refine lQ hF hS (mQ rfl <| mQ rfl <| mQ rfl <| sq_end) fun a w hF hS => ?_
    obtain ⟨z15, hz16, hS⟩ := St.freezeV (h0 := fun _ => rfl) (f := vs) (p := fun s => s.length ≤ 140737488355328) (xs := Jn.secs J.next t) hS (by first | rfl | (simp; done)) (by first | decide | omega | (simp; omega)) (Jn.secs_el)
    replace hS := nt1_8 hS
    refine eQ hF hS rfl (ef_callx fn110 rfl (List.Perm.refl _) (by exact (jwrite_ct _ _ (Jn.J1 J t) _ _ _ (Jn.secs J.next t) (by omega) (by rw [Jn.secs_len]; omega) _ _ _ hz16 (.inr (by simp)) ⟨vn1, vbd1, vt1, Jn.wf_1 hWf (by omega) hln hrm, rfl, rfl, rfl, rfl⟩ hD11))) ?_
    rintro _ _ _ a w ⟨_, _, rfl, rfl, ⟨rfl, rfl, qa18, qb19, qc20, qd21, ua22, ub23, uc24, ud25, rfl, hJ26, hD27⟩⟩ hF hS
    replace hS := nt1_8 hS
    refine lQ hF hS (mQ rfl <| q0 (q_extract rfl rfl) <| q0 (q_extract rfl rfl) <| aQ rfl <| aQ rfl <| sq_end) fun a w hF hS => ?_
    refine wpList_nil ?_
    obtain ⟨vn2, vbd2, vt2, hWf2, rfl, rfl, rfl, rfl⟩ := hJ26
    have hj12 := hWf2.n1
    have hj22 := hWf2.n2
    have hj32 := hWf2.e1
    have hj42 := hWf2.e2
    have hj52 := hWf2.nl
    have hj62 := hWf2.tl
    have hj72 := hWf2.bl
    have hj82 := hWf2.nr'
    have hj92 := hWf2.br'
    have hj102 := hWf2.tr'
    replace hS := nt1_8 hS
    refine hK13 _ _ ?_
    refine wp_block ?_
    refine regS hF hS (mQ rfl <| q0 (q_nei rfl rfl) <| aQ rfl <| sq_end) fun a w hF hS => ?_
    refine wp_ifn hF rfl (fun hc4 => ?_) (fun hc4 => ?_)
    ·refine k0 ?_; intro K15 hK15
     refine regl ?_
     refine lQ hF hS (mQ rfl <| q0 (q_nilCheck rfl) <| q0 (q_fieldAddr ty172 rfl rfl (s' := 0) kQ) <| sq_end) fun a w hF hS => ?_
     refine eQ hF hS rfl (ef_store1 ty4 0 rfl rfl rfl rfl (by simp)) ?_
     rintro _ _ _ a w ⟨rfl, rfl, rfl⟩ hF hS
     replace hS : St _ (_ :: _) (.blk _ _ ([_, _, _, _, _, _, _].set 6 _) :: _ :: _ :: _ :: _ :: _ :: _ :: _ :: _) _ := hS
     simp only [List.set_cons_zero, List.set_cons_succ] at hS
     replace hS := nt1_8 hS
     refine wpList_nil (hK15 _ _ ?_)
     refine regS hF hS (mQ rfl <| aQ rfl <| aQ rfl <| sq_end) fun a w hF hS => ?_
     refine wp_ret ?_
     exact fn_retx (rs := [.tmp 4, .tmp 5]) rfl hF hS (vs := [_, _]) ⟨rfl, rfl, trivial⟩ [] [_, _, _, _, _, _, _, _] (sQ.n) sQ (Jn.jdr_of (J := Jn.J2 J t) (S := (Jn.wfr S J.en (Jn.secs J.next t)).1) ⟨rfl, rfl, _, _, _, _, _, _, _, _, rfl, ⟨_, _, _, Jn.wf_2 hWf2, rfl, rfl, rfl, rfl⟩, hD27⟩ (by rw [Jn.app_4 hbl hln hrm hc4]) (by rw [Jn.app_4 hbl hln hrm hc4]) (by rw [Jn.app_4 hbl hln hrm hc4]))
    ·refine k0 ?_; intro K17 hK17
     refine reg hF hS (mQ rfl <| q0 (q_not rfl) <| aQ rfl <| sq_end) fun a w hF hS => ?_
     refine hK17 _ _ ?_
     refine wp_if hF rfl (fun hc5 => ?_) (fun hc5 => ?_)
     ·refine k0 ?_; intro K18 hK18
      refine reg hF hS (aQ rfl <| aQ rfl <| sq_end) fun a w hF hS => ?_
      refine hK18 _ _ ?_
      refine wp_ret ?_
      exact fn_retx (rs := [.tmp 4, .tmp 5]) rfl hF hS (vs := [_, _]) ⟨rfl, rfl, trivial⟩ [] [_, _, _, _, _, _, _, _] (sQ.n) sQ (Jn.jdr_of (J := Jn.J1 J t) (S := (Jn.wfr S J.en (Jn.secs J.next t)).1) ⟨rfl, rfl, _, _, _, _, _, _, _, _, rfl, ⟨_, _, _, hWf2, rfl, rfl, rfl, rfl⟩, hD27⟩ (by rw [Jn.app_5 hbl hln hrm (by omega) (by simpa using hc5)]) (by rw [Jn.app_5 hbl hln hrm (by omega) (by simpa using hc5)]) (by rw [Jn.app_5 hbl hln hrm (by omega) (by simpa using hc5)]))
     ·refine wp_skip ?_
      refine hK12 _ _ ?_
      refine k0 ?_; intro K19 hK19
      revert hS; revert hF; apply regJ (J := J4 (α0 := Value) (α1 := Value) (α2 := Value) (α3 := Value) 99 _ _ _ _ _) #[false, false, false, false, false, false, false, false, false, false, false, false, false, false, false, false, false, false, false, false, false, false] 22 mixed rfl rfl
      ·intro w hF hS
       refine tQ 0 rfl hF (hS.keep sQ (sQ.n.n.n.n.n.n.n.n)) (q_move rfl) fun a hF => ?_
       refine tQ 1 rfl hF (hS.keep sQ (sQ.n.n.n.n.n.n.n.n)) (q_move rfl) fun a hF => ?_
       refine tQ 2 rfl hF (hS.keep sQ (sQ.n.n.n.n.n.n.n.n)) (q_move rfl) fun a hF => ?_
       refine tQ 3 rfl hF (hS.keep sQ (sQ.n.n.n.n.n.n.n.n)) (q_nilCheck rfl) fun a hF => ?_
       refine tQ 4 rfl hF (hS.keep sQ (sQ.n.n.n.n.n.n.n.n)) (q_fieldAddr ty172 rfl rfl (s' := 0) kQ) fun a hF => ?_
       refine tQ 5 rfl hF (hS.keep sQ (sQ.n.n.n.n.n.n.n.k)) (q_ld_blk1 ty22 0 rfl rfl rfl rfl) fun a hF => ?_
       refine tQ 6 rfl hF (hS.keep sQ (sQ.n.n.n.n.n.n.n.n)) (q_move rfl) fun a hF => ?_
       refine tQ 9 rfl hF (hS.keep sQ (sQ.n.n.n.n.n.n.n.n)) (q_move rfl) fun a hF => ?_
       refine tQ 10 rfl hF (hS.keep sQ (sQ.n.n.n.n.n.n.n.n)) (q_nilCheck rfl) fun a hF => ?_
       refine tQ 11 rfl hF (hS.keep sQ (sQ.n.n.n.n.n.n.n.n)) (q_fieldAddr ty172 rfl rfl (s' := 0) kQ) fun a hF => ?_
       refine tQ 12 rfl hF (hS.keep sQ (sQ.n.n.n.n.n.n.n.k)) (q_ld_blk1 ty40 0 rfl rfl rfl rfl) fun a hF => ?_
       refine tQ 13 rfl hF (hS.keep sQ (sQ.n.n.n.n.n.n.n.n)) (q_move rfl) fun a hF => ?_
       refine goW_fork [7, 14] kQ rfl ⟨?_, ?_, trivial⟩
       ·refine stepW_ef _ rfl rfl hF hS rfl (ef_bsliceA ty22 ty3 rfl rfl oQ (by decide) rfl rfl) ?_
        rintro v_16_7 _ _ a w ⟨rfl, rfl⟩ hF hS
        replace hS := nt1_9 hS
        refine ⟨⟨.inr (hS.keep sQ (sQ.n.n.n.n.n.n.n.n.n)), .inr (hS.keep sQ (sQ.n.n.n.n.n.n.n.k.n)), .inr (hS.keep sQ (sQ.n.n.n.n.n.n.n.n.n)), .inr (hS.keep sQ (sQ.n.n.n.n.n.n.n.n.n)), .inr (hS.keep sQ (sQ.n.n.n.n.n.n.n.n.n)), iQ, .inr (hS.keep sQ (sQ.n.n.n.n.n.n.n.k.n)), .inr (hS.keep sQ (sQ.n.n.n.n.n.n.n.n.n)), .inr (hS.keep sQ (sQ.n.n.n.n.n.n.n.n.n)), .inr (hS.keep sQ (sQ.n.n.n.n.n.n.n.n.n)), .inr (hS.keep sQ (sQ.n.n.n.n.n.n.n.n.n)), .inr (hS.keep sQ (sQ.n.n.n.n.n.n.n.n.n)), trivial⟩, ?_⟩
        refine goW_fork [8, 14] kQ rfl ⟨?_, ?_, trivial⟩
        ·refine stepW_ef _ rfl rfl hF hS rfl (ef_append ty22 ty3 2 rfl rfl rfl (src_row ty22 (k := 0) rfl oQ) bQ rfl (by decide)) ?_
         rintro v_16_8 _ _ a w ⟨rfl, rfl⟩ hF hS
         replace hS := nt1_9 hS
         refine ⟨⟨.inr (hS.keep sQ (sQ.n.n.n.n.n.n.n.n.n)), .inr (hS.keep sQ (sQ.n.n.n.n.n.n.n.k.n)), .inr (hS.keep sQ (sQ.n.n.n.n.n.n.n.n.n)), .inr (hS.keep sQ (sQ.n.n.n.n.n.n.n.n.n)), .inr (hS.keep sQ (sQ.n.n.n.n.n.n.n.n.n)), iQ, iQ, iQ, .inr (hS.keep sQ (sQ.n.n.n.n.n.n.n.n.n)), .inr (hS.keep sQ (sQ.n.n.n.n.n.n.n.n.n)), .inr (hS.keep sQ (sQ.n.n.n.n.n.n.n.n.n)), .inr (hS.keep sQ (sQ.n.n.n.n.n.n.n.n.n)), trivial⟩, ?_⟩
         refine gQ 14 rfl rfl hF hS rfl (ef_bsliceA ty40 ty9 rfl rfl oQ (by decide) rfl rfl) ?_
         rintro v_16_14 _ _ a w ⟨rfl, rfl⟩ hF hS
         replace hS := nt1_10 hS
         refine ⟨⟨iQ, .inr (hS.keep sQ (sQ.n.n.n.n.n.n.n.k.n.n)), .inr (hS.keep sQ (sQ.n.n.n.n.n.n.n.n.n.n)), .inr (hS.keep sQ (sQ.n.n.n.n.n.n.n.n.n.n)), .inr (hS.keep sQ (sQ.n.n.n.n.n.n.n.n.n.n)), iQ, iQ, iQ, .inr (hS.keep sQ (sQ.n.n.n.n.n.n.n.n.n.n)), .inr (hS.keep sQ (sQ.n.n.n.n.n.n.n.n.n.n)), .inr (hS.keep sQ (sQ.n.n.n.n.n.n.n.n.n.n)), .inr (hS.keep sQ (sQ.n.n.n.n.n.n.n.n.n.n)), trivial⟩, ?_⟩
         refine gQ 15 rfl rfl hF hS rfl (ef_append ty40 ty9 5 rfl rfl rfl (src_row ty40 (k := 0) rfl oQ) bQ rfl (by decide)) ?_
         rintro v_16_15 _ _ a w ⟨rfl, rfl⟩ hF hS
         replace hS := nt1_10 hS
         refine ⟨⟨iQ, iQ, iQ, .inr (hS.keep sQ (sQ.n.n.n.n.n.n.n.n.n.n)), .inr (hS.keep sQ (sQ.n.n.n.n.n.n.n.n.n.n)), iQ, iQ, iQ, .inr (hS.keep sQ (sQ.n.n.n.n.n.n.n.n.n.n)), .inr (hS.keep sQ (sQ.n.n.n.n.n.n.n.n.n.n)), .inr (hS.keep sQ (sQ.n.n.n.n.n.n.n.n.n.n)), .inr (hS.keep sQ (sQ.n.n.n.n.n.n.n.n.n.n)), trivial⟩, ?_⟩
         refine tQ 16 rfl hF (hS.keep sQ (sQ.n.n.n.n.n.n.n.n.n.n)) (q_nilCheck rfl) fun a hF => ?_
         refine tQ 17 rfl hF (hS.keep sQ (sQ.n.n.n.n.n.n.n.n.n.n)) (q_fieldAddr ty172 rfl rfl (s' := 0) kQ) fun a hF => ?_
         refine gQ 18 rfl rfl hF hS rfl (ef_store1 ty22 2 rfl rfl rfl (row_one (hS.own _ (List.mem_of_getElem? (i := 3) rfl)).1) (by simp)) ?_
         rintro _ _ _ a w ⟨rfl, rfl, rfl⟩ hF hS
         replace hS : St _ (_ :: _) (_ :: _ :: .blk _ _ ([_, _, _, _, _, _, _].set 1 _) :: _ :: _ :: _ :: _ :: _ :: _ :: _ :: _) _ := hS
         simp only [List.set_cons_zero, List.set_cons_succ] at hS
         replace hS := nt1_10 hS
         refine ⟨⟨iQ, iQ, iQ, iQ, iQ, .inr (hS.keep sQ (sQ.n.n.n.n.n.n.n.n.n.n)), .inr (hS.keep sQ (sQ.n.n.n.n.n.n.n.n.n.n)), iQ, iQ, iQ, iQ, iQ, .inr (hS.keep sQ (sQ.n.n.n.n.n.n.n.n.n.n)), iQ, trivial⟩, ?_⟩
         refine tQ 19 rfl hF (hS.keep sQ (sQ.n.n.n.n.n.n.n.n.n.n)) (q_nilCheck rfl) fun a hF => ?_
         refine tQ 20 rfl hF (hS.keep sQ (sQ.n.n.n.n.n.n.n.n.n.n)) (q_fieldAddr ty172 rfl rfl (s' := 0) kQ) fun a hF => ?_
         refine gQ 21 rfl rfl hF hS rfl (ef_store1 ty40 2 rfl rfl rfl (row_one (hS.own _ (List.mem_of_getElem? (i := 5) rfl)).1) (by simp)) ?_
         rintro _ _ _ a w ⟨rfl, rfl, rfl⟩ hF hS
         replace hS : St _ (_ :: _) (_ :: _ :: .blk _ _ ([_, _, _, _, _, _, _].set 3 _) :: _ :: _ :: _ :: _ :: _ :: _ :: _ :: _) _ := hS
         simp only [List.set_cons_zero, List.set_cons_succ] at hS
         replace hS := nt1_10 hS
         refine ⟨⟨iQ, iQ, iQ, iQ, iQ, iQ, iQ, iQ, iQ, iQ, iQ, iQ, iQ, iQ, iQ, iQ, trivial⟩, ?_⟩
         exact goW_done kQ (j4_mk v_16_7 v_16_8 v_16_14 v_16_15 (trivial) (hF.sub (L' := [(6, _)]) ⟨rfl, trivial⟩) hS)
        ·refine stepW_ef _ rfl rfl hF hS rfl (ef_bsliceA ty40 ty9 rfl rfl oQ (by decide) rfl rfl) ?_
         rintro v_16_14 _ _ a w ⟨rfl, rfl⟩ hF hS
         replace hS := nt1_10 hS
         refine ⟨⟨iQ, .inr (hS.keep sQ (sQ.n.n.n.n.n.n.n.k.n.n)), .inr (hS.keep sQ (sQ.n.n.n.n.n.n.n.n.n.n)), .inr (hS.keep sQ (sQ.n.n.n.n.n.n.n.n.n.n)), .inr (hS.keep sQ (sQ.n.n.n.n.n.n.n.n.n.n)), iQ, .inr (hS.keep sQ (sQ.n.n.n.n.n.n.n.k.n.n)), .inr (hS.keep sQ (sQ.n.n.n.n.n.n.n.n.n.n)), .inr (hS.keep sQ (sQ.n.n.n.n.n.n.n.n.n.n)), .inr (hS.keep sQ (sQ.n.n.n.n.n.n.n.n.n.n)), .inr (hS.keep sQ (sQ.n.n.n.n.n.n.n.n.n.n)), .inr (hS.keep sQ (sQ.n.n.n.n.n.n.n.n.n.n)), trivial⟩, ?_⟩
         refine gQ 8 rfl rfl hF hS rfl (ef_append ty22 ty3 3 rfl rfl rfl (src_row ty22 (k := 1) rfl oQ) bQ rfl (by decide)) ?_
         rintro v_16_8 _ _ a w ⟨rfl, rfl⟩ hF hS
         replace hS := nt1_10 hS
         refine ⟨⟨iQ, .inr (hS.keep sQ (sQ.n.n.n.n.n.n.n.k.n.n)), .inr (hS.keep sQ (sQ.n.n.n.n.n.n.n.n.n.n)), .inr (hS.keep sQ (sQ.n.n.n.n.n.n.n.n.n.n)), .inr (hS.keep sQ (sQ.n.n.n.n.n.n.n.n.n.n)), iQ, iQ, iQ, .inr (hS.keep sQ (sQ.n.n.n.n.n.n.n.n.n.n)), .inr (hS.keep sQ (sQ.n.n.n.n.n.n.n.n.n.n)), .inr (hS.keep sQ (sQ.n.n.n.n.n.n.n.n.n.n)), .inr (hS.keep sQ (sQ.n.n.n.n.n.n.n.n.n.n)), trivial⟩, ?_⟩
         refine gQ 15 rfl rfl hF hS rfl (ef_append ty40 ty9 5 rfl rfl rfl (src_row ty40 (k := 0) rfl oQ) bQ rfl (by decide)) ?_
         rintro v_16_15 _ _ a w ⟨rfl, rfl⟩ hF hS
         replace hS := nt1_10 hS
         refine ⟨⟨iQ, iQ, iQ, .inr (hS.keep sQ (sQ.n.n.n.n.n.n.n.n.n.n)), .inr (hS.keep sQ (sQ.n.n.n.n.n.n.n.n.n.n)), iQ, iQ, iQ, .inr (hS.keep sQ (sQ.n.n.n.n.n.n.n.n.n.n)), .inr (hS.keep sQ (sQ.n.n.n.n.n.n.n.n.n.n)), .inr (hS.keep sQ (sQ.n.n.n.n.n.n.n.n.n.n)), .inr (hS.keep sQ (sQ.n.n.n.n.n.n.n.n.n.n)), trivial⟩, ?_⟩
         refine tQ 16 rfl hF (hS.keep sQ (sQ.n.n.n.n.n.n.n.n.n.n)) (q_nilCheck rfl) fun a hF => ?_
         refine tQ 17 rfl hF (hS.keep sQ (sQ.n.n.n.n.n.n.n.n.n.n)) (q_fieldAddr ty172 rfl rfl (s' := 0) kQ) fun a hF => ?_
         refine gQ 18 rfl rfl hF hS rfl (ef_store1 ty22 2 rfl rfl rfl (row_one (hS.own _ (List.mem_of_getElem? (i := 3) rfl)).1) (by simp)) ?_
         rintro _ _ _ a w ⟨rfl, rfl, rfl⟩ hF hS
         replace hS : St _ (_ :: _) (_ :: _ :: .blk _ _ ([_, _, _, _, _, _, _].set 1 _) :: _ :: _ :: _ :: _ :: _ :: _ :: _ :: _) _ := hS
         simp only [List.set_cons_zero, List.set_cons_succ] at hS
         replace hS := nt1_10 hS
         refine ⟨⟨iQ, iQ, iQ, iQ, iQ, .inr (hS.keep sQ (sQ.n.n.n.n.n.n.n.n.n.n)), .inr (hS.keep sQ (sQ.n.n.n.n.n.n.n.n.n.n)), iQ, iQ, iQ, iQ, iQ, .inr (hS.keep sQ (sQ.n.n.n.n.n.n.n.n.n.n)), iQ, trivial⟩, ?_⟩
         refine tQ 19 rfl hF (hS.keep sQ (sQ.n.n.n.n.n.n.n.n.n.n)) (q_nilCheck rfl) fun a hF => ?_
         refine tQ 20 rfl hF (hS.keep sQ (sQ.n.n.n.n.n.n.n.n.n.n)) (q_fieldAddr ty172 rfl rfl (s' := 0) kQ) fun a hF => ?_
         refine gQ 21 rfl rfl hF hS rfl (ef_store1 ty40 2 rfl rfl rfl (row_one (hS.own _ (List.mem_of_getElem? (i := 5) rfl)).1) (by simp)) ?_
         rintro _ _ _ a w ⟨rfl, rfl, rfl⟩ hF hS
         replace hS : St _ (_ :: _) (_ :: _ :: .blk _ _ ([_, _, _, _, _, _, _].set 3 _) :: _ :: _ :: _ :: _ :: _ :: _ :: _ :: _) _ := hS
         simp only [List.set_cons_zero, List.set_cons_succ] at hS
         replace hS := nt1_10 hS
         refine ⟨⟨iQ, iQ, iQ, iQ, iQ, iQ, iQ, iQ, iQ, iQ, iQ, iQ, iQ, iQ, iQ, iQ, trivial⟩, ?_⟩
         exact goW_done kQ (j4_mk v_16_7 v_16_8 v_16_14 v_16_15 (trivial) (hF.sub (L' := [(6, _)]) ⟨rfl, trivial⟩) hS)
       ·refine stepW_ef _ rfl rfl hF hS rfl (ef_bsliceA ty40 ty9 rfl rfl oQ (by decide) rfl rfl) ?_
        rintro v_16_14 _ _ a w ⟨rfl, rfl⟩ hF hS
        replace hS := nt1_9 hS
        refine ⟨⟨iQ, .inr (hS.keep sQ (sQ.n.n.n.n.n.n.n.k.n)), .inr (hS.keep sQ (sQ.n.n.n.n.n.n.n.n.n)), .inr (hS.keep sQ (sQ.n.n.n.n.n.n.n.n.n)), .inr (hS.keep sQ (sQ.n.n.n.n.n.n.n.n.n)), .inr (hS.keep sQ (sQ.n.n.n.n.n.n.n.n.n)), .inr (hS.keep sQ (sQ.n.n.n.n.n.n.n.k.n)), .inr (hS.keep sQ (sQ.n.n.n.n.n.n.n.n.n)), .inr (hS.keep sQ (sQ.n.n.n.n.n.n.n.n.n)), .inr (hS.keep sQ (sQ.n.n.n.n.n.n.n.n.n)), .inr (hS.keep sQ (sQ.n.n.n.n.n.n.n.n.n)), .inr (hS.keep sQ (sQ.n.n.n.n.n.n.n.n.n)), trivial⟩, ?_⟩
        refine gQ 7 rfl rfl hF hS rfl (ef_bsliceA ty22 ty3 rfl rfl oQ (by decide) rfl rfl) ?_
        rintro v_16_7 _ _ a w ⟨rfl, rfl⟩ hF hS
        replace hS := nt1_10 hS
        refine ⟨⟨iQ, .inr (hS.keep sQ (sQ.n.n.n.n.n.n.n.k.n.n)), .inr (hS.keep sQ (sQ.n.n.n.n.n.n.n.n.n.n)), .inr (hS.keep sQ (sQ.n.n.n.n.n.n.n.n.n.n)), .inr (hS.keep sQ (sQ.n.n.n.n.n.n.n.n.n.n)), iQ, .inr (hS.keep sQ (sQ.n.n.n.n.n.n.n.k.n.n)), .inr (hS.keep sQ (sQ.n.n.n.n.n.n.n.n.n.n)), .inr (hS.keep sQ (sQ.n.n.n.n.n.n.n.n.n.n)), .inr (hS.keep sQ (sQ.n.n.n.n.n.n.n.n.n.n)), .inr (hS.keep sQ (sQ.n.n.n.n.n.n.n.n.n.n)), .inr (hS.keep sQ (sQ.n.n.n.n.n.n.n.n.n.n)), trivial⟩, ?_⟩
        refine gQ 8 rfl rfl hF hS rfl (ef_append ty22 ty3 3 rfl rfl rfl (src_row ty22 (k := 0) rfl oQ) bQ rfl (by decide)) ?_
        rintro v_16_8 _ _ a w ⟨rfl, rfl⟩ hF hS
        replace hS := nt1_10 hS
        refine ⟨⟨iQ, .inr (hS.keep sQ (sQ.n.n.n.n.n.n.n.k.n.n)), .inr (hS.keep sQ (sQ.n.n.n.n.n.n.n.n.n.n)), .inr (hS.keep sQ (sQ.n.n.n.n.n.n.n.n.n.n)), .inr (hS.keep sQ (sQ.n.n.n.n.n.n.n.n.n.n)), iQ, iQ, iQ, .inr (hS.keep sQ (sQ.n.n.n.n.n.n.n.n.n.n)), .inr (hS.keep sQ (sQ.n.n.n.n.n.n.n.n.n.n)), .inr (hS.keep sQ (sQ.n.n.n.n.n.n.n.n.n.n)), .inr (hS.keep sQ (sQ.n.n.n.n.n.n.n.n.n.n)), trivial⟩, ?_⟩
        refine gQ 15 rfl rfl hF hS rfl (ef_append ty40 ty9 5 rfl rfl rfl (src_row ty40 (k := 1) rfl oQ) bQ rfl (by decide)) ?_
        rintro v_16_15 _ _ a w ⟨rfl, rfl⟩ hF hS
        replace hS := nt1_10 hS
        refine ⟨⟨iQ, iQ, iQ, .inr (hS.keep sQ (sQ.n.n.n.n.n.n.n.n.n.n)), .inr (hS.keep sQ (sQ.n.n.n.n.n.n.n.n.n.n)), iQ, iQ, iQ, .inr (hS.keep sQ (sQ.n.n.n.n.n.n.n.n.n.n)), .inr (hS.keep sQ (sQ.n.n.n.n.n.n.n.n.n.n)), .inr (hS.keep sQ (sQ.n.n.n.n.n.n.n.n.n.n)), .inr (hS.keep sQ (sQ.n.n.n.n.n.n.n.n.n.n)), trivial⟩, ?_⟩
        refine tQ 16 rfl hF (hS.keep sQ (sQ.n.n.n.n.n.n.n.n.n.n)) (q_nilCheck rfl) fun a hF => ?_
        refine tQ 17 rfl hF (hS.keep sQ (sQ.n.n.n.n.n.n.n.n.n.n)) (q_fieldAddr ty172 rfl rfl (s' := 0) kQ) fun a hF => ?_
        refine gQ 18 rfl rfl hF hS rfl (ef_store1 ty22 2 rfl rfl rfl (row_one (hS.own _ (List.mem_of_getElem? (i := 3) rfl)).1) (by simp)) ?_
        rintro _ _ _ a w ⟨rfl, rfl, rfl⟩ hF hS
        replace hS : St _ (_ :: _) (_ :: _ :: .blk _ _ ([_, _, _, _, _, _, _].set 1 _) :: _ :: _ :: _ :: _ :: _ :: _ :: _ :: _) _ := hS
        simp only [List.set_cons_zero, List.set_cons_succ] at hS
        replace hS := nt1_10 hS
        refine ⟨⟨iQ, iQ, iQ, iQ, iQ, .inr (hS.keep sQ (sQ.n.n.n.n.n.n.n.n.n.n)), .inr (hS.keep sQ (sQ.n.n.n.n.n.n.n.n.n.n)), iQ, iQ, iQ, iQ, iQ, .inr (hS.keep sQ (sQ.n.n.n.n.n.n.n.n.n.n)), iQ, trivial⟩, ?_⟩
        refine tQ 19 rfl hF (hS.keep sQ (sQ.n.n.n.n.n.n.n.n.n.n)) (q_nilCheck rfl) fun a hF => ?_
        refine tQ 20 rfl hF (hS.keep sQ (sQ.n.n.n.n.n.n.n.n.n.n)) (q_fieldAddr ty172 rfl rfl (s' := 0) kQ) fun a hF => ?_
        refine gQ 21 rfl rfl hF hS rfl (ef_store1 ty40 2 rfl rfl rfl (row_one (hS.own _ (List.mem_of_getElem? (i := 5) rfl)).1) (by simp)) ?_
        rintro _ _ _ a w ⟨rfl, rfl, rfl⟩ hF hS
        replace hS : St _ (_ :: _) (_ :: _ :: .blk _ _ ([_, _, _, _, _, _, _].set 3 _) :: _ :: _ :: _ :: _ :: _ :: _ :: _ :: _) _ := hS
        simp only [List.set_cons_zero, List.set_cons_succ] at hS
        replace hS := nt1_10 hS
        refine ⟨⟨iQ, iQ, iQ, iQ, iQ, iQ, iQ, iQ, iQ, iQ, iQ, iQ, iQ, iQ, iQ, iQ, trivial⟩, ?_⟩
        exact goW_done kQ (j4_mk v_16_7 v_16_8 v_16_14 v_16_15 (trivial) (hF.sub (L' := [(6, _)]) ⟨rfl, trivial⟩) (hS.perm (.swap _ _ _)))
      rintro a w ⟨v_16_7, v_16_8, v_16_14, v_16_15, -, hF, hS⟩
      (try dsimp only at hF hS)
      refine hK19 _ _ ?_
      refine regS hF hS (mQ rfl <| aQ rfl <| aQ rfl <| sq_end) fun a w hF hS => ?_
      refine wp_ret ?_
      replace hS := hS.perm (.cons _ (.swap _ _ _))
      replace hS := hS.perm (.swap _ _ _)
      replace hS := hS.perm P1_2
      replace hS := hS.perm P2_3
      replace hS := hS.perm (.cons _ (.cons _ (.cons _ (.cons _ (.swap _ _ _)))))
      replace hS := hS.perm (.cons _ (.cons _ (.cons _ (.swap _ _ _))))
      replace hS := hS.perm (.cons _ (.cons _ (.cons _ (.cons _ (.cons _ (.swap _ _ _))))))
      replace hS := hS.perm (.cons _ (.cons _ (.cons _ (.cons _ (.swap _ _ _)))))
      replace hS := hS.perm (.cons _ (.cons _ (.cons _ (.cons _ (.cons _ (.cons _ (.swap _ _ _)))))))
      replace hS := hS.perm (.cons _ (.cons _ (.cons _ (.cons _ (.cons _ (.swap _ _ _))))))
      replace hS := hS.perm P6_7
      replace hS := hS.perm P7_8
      exact fn_retx (rs := [.tmp 4, .tmp 5]) rfl hF hS (vs := [_, _]) ⟨rfl, rfl, trivial⟩ [] [_, _, _, _, _, _, _, _] (sQ.n) (sQ.n.n.k.k.k.k.k.k.k.k) (Jn.jdr_of (J := Jn.J3 J t) (S := (Jn.wfr S J.en (Jn.secs J.next t)).1) ⟨rfl, rfl, _, _, _, _, _, _, _, _, rfl, ⟨_, _, _, Jn.wf_3 hWf hWf2 hln, rfl, (by simp [Jn.J3, Jn.J1]), rfl, (by simp [Jn.J3, Jn.J1])⟩, hD27⟩ (by rw [Jn.app_6 hbl hln hrm (by omega) (by simpa using hc5)]) (by rw [Jn.app_6 hbl hln hrm (by omega) (by simpa using hc5)]) (by rw [Jn.app_6 hbl hln hrm (by omega) (by simpa using hc5)]))
end
section
abbrev HJ := Jn.ROk 207 3 9
attribute [local irreducible] Sha.sum Jn.good Jn.hd Jn.lb Jn.cnt
end
section
attribute [local irreducible] Sha.sum Jn.good Jn.hd Jn.lb Jn.cnt Jn.secs
end
section
theorem fn94 : FnOk Tryz.prog 94 := fQ Tryz.func94
theorem fn95 : FnOk Tryz.prog 95 := fQ Tryz.func95
attribute [local irreducible] Sha.sum Jn.good Jn.hd Jn.lb Jn.cnt Jn.unp Jn.recd
theorem open_ct (h : Dk.Hd) (S : Dk.Dsk) (hof : S.off = false) (w0 : World) (zsr : List PH) {d1 d2 d3 d4 : Res} {fz0 : Nat × Nat} {bt0 : TypeId} (hg0 : w0.heap[1]? = some (.cells (Sha.kc.map vw).toArray bt0 fz0)) (hD : DD h S d1 d2 d3 d4) : Cx Tryz.prog 52 [.pointer (some ⟨h.b, 0, none⟩)] w0 zsr [d1, d2, d3, d4] (fun r zs hs => zs = [] ∧ ∃ b q1 q2 q3 q4 e1 e2 e3 e4, r = .tuple [.pointer (some ⟨b, 0, none⟩), vi 0].toArray ∧ hs = [q1, q2, q3, q4, e1, e2, e3, e4] ∧ JJ b h.b (Jn.opn S) q1 q2 q3 q4 ∧ DD h S e1 e2 e3 e4) := by
 refine fn_enterx Tryz.func52 rfl Tryz.ntmps52 (Nat.le_of_ble_eq_true rfl) fun hsr a w hF hS => ?_
 replace hS := nt0_4 hS
 have hO := Dk.DOk.ok hD
 have hlo := hO.lo
 have hhi := hO.hi
 have hrl := Jn.rds_len S
 refine regS hF hS (aQ rfl <| aQ rfl <| sq_end) fun a w hF hS => ?_
 refine reglS fun K2 hK2 => ?_
 refine lQ hF hS (mQ rfl <| q0 (q_buildP (places := [(0, 1), (1, 1), (2, 1), (3, 1), (4, 1), (5, 1), (6, 1)]) (cells := [_, .slice none 0 0, .slice none 0 0, .slice none 0 0, _, .int .i64 0, .bool false]) ty172 kQ rfl (by rfl)) <| sq_end) fun a w hF hS => ?_
 refine eQ hF hS rfl (ef_boxA rfl) ?_
 rintro _ _ _ a w ⟨b1, rfl, rfl, rfl⟩ hF hS
 refine lQ hF hS (aQ rfl <| sq_end) fun a w hF hS => ?_
 refine wpList_nil ?_
 replace hS := hS.nilRow 9 1
 replace hS := hS.nilRow 3 1
 replace hS := hS.nilRow 3 1
 replace hS := nt0_8 hS
 refine hK2 _ _ ?_
 refine k0 ?_; intro K3 hK3
 refine reg hF hS (aQ rfl <| sq_end) fun a w hF hS => ?_
 replace hS := hS.nilRow 130 5
 replace hS := nt0_9 hS
 refine hK3 _ _ ?_
 refine k0 ?_; intro K4 hK4
 refine reglS fun K5 hK5 => ?_
 refine lQ hF hS (mQ rfl <| sq_end) fun a w hF hS => ?_
 replace hS := hS.perm (.cons _ (.cons _ (.cons _ (.cons _ (.swap _ _ _)))))
 replace hS := hS.perm (.cons _ (.cons _ (.cons _ (.swap _ _ _))))
 replace hS := hS.perm (.cons _ (.cons _ (.swap _ _ _)))
 replace hS := hS.perm (.cons _ (.swap _ _ _))
 replace hS := hS.perm (.swap _ _ _)
 replace hS := hS.perm (.cons _ (.cons _ (.cons _ (.cons _ (.cons _ (.swap _ _ _))))))
 replace hS := hS.perm (.cons _ (.cons _ (.cons _ (.cons _ (.swap _ _ _)))))
 replace hS := hS.perm (.cons _ (.cons _ (.cons _ (.swap _ _ _))))
 replace hS := hS.perm (.cons _ (.cons _ (.swap _ _ _)))
 replace hS := hS.perm (.cons _ (.swap _ _ _))
 replace hS := hS.perm (.cons _ (.cons _ (.cons _ (.cons _ (.cons _ (.cons _ (.swap _ _ _)))))))
 replace hS := hS.perm (.cons _ (.cons _ (.cons _ (.cons _ (.cons _ (.swap _ _ _))))))
 replace hS := hS.perm (.cons _ (.cons _ (.cons _ (.cons _ (.swap _ _ _)))))
 replace hS := hS.perm (.cons _ (.cons _ (.cons _ (.swap _ _ _))))
 replace hS := hS.perm (.cons _ (.cons _ (.swap _ _ _)))
 replace hS := hS.perm P3_7
 replace hS := nt0_9 hS
 refine eQ hF hS rfl (ef_callx fn93 rfl (List.Perm.refl _) (by exact (dlen_ct _ _ _ _  hD))) ?_
 rintro _ _ _ a w ⟨_, _, rfl, rfl, ⟨rfl, rfl, qa3, qb4, qc5, qd6, rfl, hD7⟩⟩ hF hS
 replace hS := nt0_9 hS
 refine lQ hF hS (mQ rfl <| sq_end) fun a w hF hS => ?_
 refine wpList_nil (hK5 _ _ ?_)
 refine wp_block ?_
 obtain ⟨hs0, hhs0, hS⟩ := hS.oh
 refine wp_loopx (γ := Res × Res × Res × Res × Value × Value × Nat) (qa3, qb4, qc5, qd6, (Value.slice none 0 0), (Value.slice none 0 0), 0) (fun (q1, q2, q3, q4, ub, ul, k) => [(5, ul), (20, vi (k : Int))]) [(0, _), (4, _), (19, _)] (fun (q1, q2, q3, q4, ub, ul, k) => (((((((hs0.set 0 (q1)).set 1 (q2)).set 2 (q3)).set 3 (q4)).set 8 (.blk b1 172 [.pointer (some ⟨h.b, 0, none⟩), (Value.slice none 0 0), ub, (Value.slice none 0 0), vi (Jn.nxN (Jn.rds S) k), vi (Jn.enN (Jn.rds S) k), .bool false])).set 6 (.row ub 3 1 (Jn.badN (Jn.rds S) k).length ((Jn.badN (Jn.rds S) k).map vi))).set 4 (.row ul 130 5 k ((Jn.psN (Jn.rds S) k).flatMap Jn.ptC)))) (fun (q1, q2, q3, q4, ub, ul, k) => k ≤ S.s.length ∧ DD h S q1 q2 q3 q4) (fun (q1, q2, q3, q4, ub, ul, k) => S.s.length - k) (hF.sub ⟨rfl, rfl, rfl, rfl, rfl, trivial⟩) (by subst hhs0; exact hS) (by exact ⟨Nat.zero_le _, hD7⟩) ?_
 rintro ⟨q1, q2, q3, q4, ub, ul, k⟩ a w hfact hF hS
 subst hhs0; (try dsimp only at hfact hF hS)
 obtain ⟨hk0, hDq⟩ := hfact
 replace hS := nt0_9 hS
 obtain ⟨hb1, hb2⟩ := Jn.bad_rng (Jn.rds S) k
 have hnx := Jn.nx_rng (Jn.rds S) k
 have hn9 := (Jn.unp_ok (Dk.read S (k : Int)).1).1
 refine regS hF hS (q0 (q_lti rfl rfl) <| sq_end) fun a w hF hS => ?_
 refine k0 ?_; intro K7 hK7
 refine wp_ifd hF rfl (fun hc1 => ?_) (fun hc1 => ?_)
 ·obtain ⟨hrd0, hrd64⟩ := Jn.read_ok hO hof (k := k) (by omega)
  refine wp_skip ?_
  refine hK7 _ _ ?_
  refine k0 ?_; intro K8 hK8
  refine wp_block ?_
  refine regS hF hS (mQ rfl <| aQ rfl <| sq_end) fun a w hF hS => ?_
  refine reglS fun K10 hK10 => ?_
  refine lQ hF hS (mQ rfl <| mQ rfl <| sq_end) fun a w hF hS => ?_
  refine eQ hF hS rfl (ef_callx fn29 rfl (List.Perm.refl _) (by exact (dread_ct _ _ _ (by omega) _ _  hDq))) ?_
  rintro _ _ _ a w ⟨_, _, rfl, rfl, ⟨rfl, rfl, qa9, qb10, qc11, qd12, rfl, hD13⟩⟩ hF hS
  replace hS := nt0_9 hS
  refine lQ hF hS (mQ rfl <| q0 (q_extract rfl rfl) <| q0 (q_extract rfl rfl) <| aQ rfl <| aQ rfl <| sq_end) fun a w hF hS => ?_
  refine wpList_nil (hK10 _ _ ?_)
  refine k0 ?_; intro K11 hK11
  refine regS hF hS (mQ rfl <| q0 (q_nei rfl rfl) <| sq_end) fun a w hF hS => ?_
  refine wp_ifn hF rfl (fun hc2 => ?_) (fun hc2 => ?_)
  ·exact absurd hrd0 hc2
  ·refine wp_skip ?_
   refine hK11 _ _ ?_
   refine reglS fun K13 hK13 => ?_
   refine lQ hF hS (mQ rfl <| q0 (q_call fn67 rfl (fun w hS => unpack_ct _ w (hS.ext _ _ hg0)) (fun _ _ _ h => h)) <| sq_end) fun a w hF hS => ?_
   refine eQ hF hS rfl (ef_allocA ty130) ?_
   rintro _ _ _ a w ⟨b14, rfl, rfl, rfl⟩ hF hS
   refine eQ hF hS rfl (ef_storeW ty130 0 rfl rfl rfl rfl bQ (oc_cons rfl (oc_cons rfl (oc_cons rfl (oc_cons rfl (oc_cons rfl oc_nil))))) bQ) ?_
   rintro _ _ _ a w ⟨rfl, rfl, rfl⟩ hF hS
   replace hS : St _ (_) (_ :: _ :: _ :: _ :: _ :: _ :: _ :: _ :: _ :: _ :: _) _ := hS
   refine wpList_nil (hK13 _ _ ?_)
   refine reglS fun K14 hK14 => ?_
   refine lQ hF hS (mQ rfl <| q0 (q_ld_blkW ty130 0 rfl rfl bQ rfl) <| sq_end) fun a w hF hS => ?_
   refine eQ hF hS rfl (ef_bsliceW ty173 ty130 rfl bQ (by decide) oQ (by decide) (by decide)) ?_
   rintro v15 _ _ a w ⟨rfl, rfl⟩ hF hS
   replace hS : St _ (_) (_ :: _ :: _ :: _ :: _ :: _ :: _ :: _ :: _ :: _ :: _ :: _) _ := hS
   refine eQ hF hS rfl (ef_append ty173 ty130 6 rfl rfl rfl (src_row ty173 (k := 0) rfl oQ) bQ rfl (by decide)) ?_
   rintro v17 _ _ a w ⟨rfl, rfl⟩ hF hS
   replace hS : St _ (_) (_ :: _ :: _ :: _ :: _ :: _ :: _ :: _ :: _ :: _ :: _ :: _) _ := hS
   refine lQ hF hS (aQ rfl <| sq_end) fun a w hF hS => ?_
   refine wpList_nil (hK14 _ _ ?_)
   refine reglS fun K15 hK15 => ?_
   refine lQ hF hS (mQ rfl <| q0 (q_len_s ty9 rfl) <| q0 (q_dt (q_eqi rfl rfl) (by simp [hrd64])) <| mQ rfl <| sq_go 41 rfl rfl rfl (q_move rfl) <| sq_end) fun a w hF hS => ?_
   refine wpl_efg hF hS (wanted_go 41 rfl rfl) rfl (ef_s2b ty9 ty25 ty5 rfl (by omega)) ?_
   rintro v18 _ _ a w ⟨z19, rfl, rfl, hz20⟩ hF hS
   refine lQ hF hS (sq_go 41 rfl rfl rfl (q_s2ap_sl ty174 hz20 rfl bQ (by decide)) <| sq_go 41 rfl rfl rfl (q_ld_B16 ty174 hz20 (.inr (by simp)) rfl rfl bQ (by decide)) <| sq_go 41 rfl rfl rfl (q_build rfl (run_build_arr ty174 ty5 rfl)) <| sq_go 41 rfl rfl rfl (q_eqAB (ys := Jn.z64) ty174 ty5 kQ rfl rfl (by omega) (by decide)) <| q0 (q_pick_t rfl rfl) <| aQ rfl <| sq_end) fun a w hF hS => ?_
   refine wpList_nil (hK15 _ _ ?_)
   refine k0 ?_; intro K16 hK16
   refine regS hF hS (mQ rfl <| q0 (q_not rfl) <| sq_end) fun a w hF hS => ?_
   refine wp_ifn hF rfl (fun hc3 => ?_) (fun hc3 => ?_)
   ·refine regl ?_
    refine lQ hF hS (mQ rfl <| mQ rfl <| pQ rfl rfl <| q0 (q_nilCheck rfl) <| q0 (q_fieldAddr ty172 rfl rfl (s' := 0) kQ) <| sq_end) fun a w hF hS => ?_
    refine eQ hF hS rfl (ef_store1 ty3 10 rfl rfl rfl rfl (by simp)) ?_
    rintro _ _ _ a w ⟨rfl, rfl, rfl⟩ hF hS
    replace hS : St _ (_ :: _) (_ :: _ :: _ :: _ :: _ :: _ :: _ :: _ :: _ :: _ :: .blk _ _ ([_, _, _, _, _, _, _].set 5 _) :: _) _ := hS
    simp only [List.set_cons_zero, List.set_cons_succ] at hS
    replace hS : St _ (_ :: _) (_ :: _ :: _ :: _ :: _ :: _ :: _ :: _ :: _ :: _ :: _ :: _) _ := hS
    refine wpList_nil (hK16 _ _ ?_)
    refine k0 ?_; intro K18 hK18
    refine reglS fun K19 hK19 => ?_
    refine lQ hF hS (q0 (q_fieldAddr ty130 rfl rfl (s' := 0) kQ) <| q0 (q_ld_blk1 ty4 1 rfl rfl rfl rfl) <| q0 (q_not rfl) <| mQ rfl <| sq_end) fun a w hF hS => ?_
    refine wpl_and 3 59 2 hF hS rfl rfl rfl rfl rfl (fun hg => have hg := hg; sq_go 59 rfl rfl rfl (q_move rfl) <| sq_go 59 rfl rfl rfl (q_not rfl) <| sq_end) rfl rfl fun a w hF hS => ?_
    refine wpList_nil (hK19 _ _ ?_)
    refine wp_if hF rfl (fun hc4 => ?_) (fun hc4 => ?_)
    ·(try simp only [bS] at hc4)
     refine regl ?_
     refine lQ hF hS (mQ rfl <| mQ rfl <| q0 (q_nilCheck rfl) <| q0 (q_fieldAddr ty172 rfl rfl (s' := 0) kQ) <| q0 (q_ld_blk1 ty22 10 rfl rfl rfl rfl) <| mQ rfl <| sq_end) fun a w hF hS => ?_
     refine eQ hF hS rfl (ef_bsliceA ty22 ty3 rfl rfl oQ (by decide) rfl rfl) ?_
     rintro v21 _ _ a w ⟨rfl, rfl⟩ hF hS
     replace hS := nt1_12 hS
     refine eQ hF hS rfl (ef_append ty22 ty3 9 rfl rfl rfl (src_row ty22 (k := 0) rfl oQ) bQ rfl (by decide)) ?_
     rintro v23 _ _ a w ⟨rfl, rfl⟩ hF hS
     replace hS := nt1_12 hS
     refine lQ hF hS (q0 (q_nilCheck rfl) <| q0 (q_fieldAddr ty172 rfl rfl (s' := 0) kQ) <| sq_end) fun a w hF hS => ?_
     refine eQ hF hS rfl (ef_store1 ty22 11 rfl rfl rfl (row_one (hS.own _ (List.mem_of_getElem? (i := 9) rfl)).1) (by simp)) ?_
     rintro _ _ _ a w ⟨rfl, rfl, rfl⟩ hF hS
     replace hS : St _ (_ :: _) (_ :: _ :: _ :: _ :: _ :: _ :: _ :: _ :: _ :: _ :: _ :: .blk _ _ ([_, _, _, _, _, _, _].set 2 _) :: _) _ := hS
     simp only [List.set_cons_zero, List.set_cons_succ] at hS
     replace hS := nt1_12 hS
     refine wpList_nil (hK18 _ _ ?_)
     refine regt 11 mixed kQ hF hS (mQ rfl <| mQ rfl <| q0 (q_nilCheck rfl) <| q0 (q_fieldAddr ty172 rfl rfl (s' := 0) kQ) <| q0 (q_ld_blk1 ty3 11 rfl rfl rfl rfl) <| q0 (q_fieldAddr ty130 rfl rfl (s' := 0) kQ) <| q0 (q_ld_blk1 ty3 2 rfl rfl rfl rfl) <| pQ rfl rfl <| q0 (q_max rfl rfl) <| q0 (q_nilCheck rfl) <| q0 (q_fieldAddr ty172 rfl rfl (s' := 0) kQ) <| sq_end) fun a w hF hS => ?_
     refine eQ hF hS rfl (ef_store1 ty3 11 rfl rfl rfl rfl (by simp)) ?_
     rintro _ _ _ a w ⟨rfl, rfl, rfl⟩ hF hS
     replace hS : St _ (_ :: _) (_ :: _ :: _ :: _ :: _ :: _ :: _ :: _ :: _ :: _ :: _ :: .blk _ _ ([_, _, _, _, _, _, _].set 4 _) :: _) _ := hS
     simp only [List.set_cons_zero, List.set_cons_succ] at hS
     replace hS := nt1_12 hS
     refine wpList_nil (hK8 _ _ ?_)
     refine reg hF hS (pQ rfl rfl <| mQ rfl <| sq_end) fun a w hF hS => ?_
     replace hS := hS.keep (sQ.n) (sQ.n.n.n)
     refine ⟨(qa9, qb10, qc11, qd12, v23, v17, k + 1), ?_, ?_, hF.sub ⟨rfl, rfl, rfl, rfl, rfl, trivial⟩, ?_⟩
     ·(try dsimp only); omega
     ·exact ⟨by omega, hD13⟩
     ·have hra := Jn.rds_at (S := S) (k := k) (by omega)
      (try dsimp only [List.set_cons_zero, List.set_cons_succ])
      rw [Jn.en_f (by rw [hra]; exact hc3), Jn.bad_t (by rw [hra]; exact hc4), Jn.nx_s, ← Jn.psN_step (by omega), hra, List.length_append, List.map_append]
      exact hS
    ·(try simp only [bS] at hc4)
     refine wp_skip ?_
     refine hK18 _ _ ?_
     refine regt 11 mixed kQ hF hS (mQ rfl <| mQ rfl <| q0 (q_nilCheck rfl) <| q0 (q_fieldAddr ty172 rfl rfl (s' := 0) kQ) <| q0 (q_ld_blk1 ty3 10 rfl rfl rfl rfl) <| q0 (q_fieldAddr ty130 rfl rfl (s' := 0) kQ) <| q0 (q_ld_blk1 ty3 1 rfl rfl rfl rfl) <| pQ rfl rfl <| q0 (q_max rfl rfl) <| q0 (q_nilCheck rfl) <| q0 (q_fieldAddr ty172 rfl rfl (s' := 0) kQ) <| sq_end) fun a w hF hS => ?_
     refine eQ hF hS rfl (ef_store1 ty3 10 rfl rfl rfl rfl (by simp)) ?_
     rintro _ _ _ a w ⟨rfl, rfl, rfl⟩ hF hS
     replace hS : St _ (_ :: _) (_ :: _ :: _ :: _ :: _ :: _ :: _ :: _ :: _ :: _ :: .blk _ _ ([_, _, _, _, _, _, _].set 4 _) :: _) _ := hS
     simp only [List.set_cons_zero, List.set_cons_succ] at hS
     replace hS : St _ (_ :: _) (_ :: _ :: _ :: _ :: _ :: _ :: _ :: _ :: _ :: _ :: _ :: _) _ := hS
     refine wpList_nil (hK8 _ _ ?_)
     refine reg hF hS (pQ rfl rfl <| mQ rfl <| sq_end) fun a w hF hS => ?_
     replace hS := hS.keep (sQ.n) (sQ.n.n)
     refine ⟨(qa9, qb10, qc11, qd12, ub, v17, k + 1), ?_, ?_, hF.sub ⟨rfl, rfl, rfl, rfl, rfl, trivial⟩, ?_⟩
     ·(try dsimp only); omega
     ·exact ⟨by omega, hD13⟩
     ·have hra := Jn.rds_at (S := S) (k := k) (by omega)
      (try dsimp only [List.set_cons_zero, List.set_cons_succ])
      rw [Jn.en_f (by rw [hra]; exact hc3), Jn.bad_f (by rw [hra]; intro hq; rcases hc4 with h9 | h9; (rw [h9] at hq; exact absurd hq.1 (by simp)); exact hq.2 h9), Jn.nx_s, ← Jn.psN_step (by omega), hra]
      exact hS
   ·refine wp_skip ?_
    refine hK16 _ _ ?_
    refine k0 ?_; intro K20 hK20
    refine reglS fun K21 hK21 => ?_
    refine lQ hF hS (q0 (q_fieldAddr ty130 rfl rfl (s' := 0) kQ) <| q0 (q_ld_blk1 ty4 1 rfl rfl rfl rfl) <| q0 (q_not rfl) <| mQ rfl <| sq_end) fun a w hF hS => ?_
    refine wpl_and 3 59 2 hF hS rfl rfl rfl rfl rfl (fun hg => have hg := hg; sq_go 59 rfl rfl rfl (q_move rfl) <| sq_go 59 rfl rfl rfl (q_not rfl) <| sq_end) rfl rfl fun a w hF hS => ?_
    refine wpList_nil (hK21 _ _ ?_)
    refine wp_if hF rfl (fun hc5 => ?_) (fun hc5 => ?_)
    ·(try simp only [bS] at hc5)
     refine regl ?_
     refine lQ hF hS (mQ rfl <| mQ rfl <| q0 (q_nilCheck rfl) <| q0 (q_fieldAddr ty172 rfl rfl (s' := 0) kQ) <| q0 (q_ld_blk1 ty22 10 rfl rfl rfl rfl) <| mQ rfl <| sq_end) fun a w hF hS => ?_
     refine eQ hF hS rfl (ef_bsliceA ty22 ty3 rfl rfl oQ (by decide) rfl rfl) ?_
     rintro v24 _ _ a w ⟨rfl, rfl⟩ hF hS
     replace hS := nt1_12 hS
     refine eQ hF hS rfl (ef_append ty22 ty3 9 rfl rfl rfl (src_row ty22 (k := 0) rfl oQ) bQ rfl (by decide)) ?_
     rintro v26 _ _ a w ⟨rfl, rfl⟩ hF hS
     replace hS := nt1_12 hS
     refine lQ hF hS (q0 (q_nilCheck rfl) <| q0 (q_fieldAddr ty172 rfl rfl (s' := 0) kQ) <| sq_end) fun a w hF hS => ?_
     refine eQ hF hS rfl (ef_store1 ty22 11 rfl rfl rfl (row_one (hS.own _ (List.mem_of_getElem? (i := 9) rfl)).1) (by simp)) ?_
     rintro _ _ _ a w ⟨rfl, rfl, rfl⟩ hF hS
     replace hS : St _ (_ :: _) (_ :: _ :: _ :: _ :: _ :: _ :: _ :: _ :: _ :: _ :: _ :: .blk _ _ ([_, _, _, _, _, _, _].set 2 _) :: _) _ := hS
     simp only [List.set_cons_zero, List.set_cons_succ] at hS
     replace hS := nt1_12 hS
     refine wpList_nil (hK20 _ _ ?_)
     refine regt 11 mixed kQ hF hS (mQ rfl <| mQ rfl <| q0 (q_nilCheck rfl) <| q0 (q_fieldAddr ty172 rfl rfl (s' := 0) kQ) <| q0 (q_ld_blk1 ty3 11 rfl rfl rfl rfl) <| q0 (q_fieldAddr ty130 rfl rfl (s' := 0) kQ) <| q0 (q_ld_blk1 ty3 2 rfl rfl rfl rfl) <| pQ rfl rfl <| q0 (q_max rfl rfl) <| q0 (q_nilCheck rfl) <| q0 (q_fieldAddr ty172 rfl rfl (s' := 0) kQ) <| sq_end) fun a w hF hS => ?_
     refine eQ hF hS rfl (ef_store1 ty3 11 rfl rfl rfl rfl (by simp)) ?_
     rintro _ _ _ a w ⟨rfl, rfl, rfl⟩ hF hS
     replace hS : St _ (_ :: _) (_ :: _ :: _ :: _ :: _ :: _ :: _ :: _ :: _ :: _ :: _ :: .blk _ _ ([_, _, _, _, _, _, _].set 4 _) :: _) _ := hS
     simp only [List.set_cons_zero, List.set_cons_succ] at hS
     replace hS := nt1_12 hS
     refine wpList_nil (hK8 _ _ ?_)
     refine reg hF hS (pQ rfl rfl <| mQ rfl <| sq_end) fun a w hF hS => ?_
     replace hS := hS.keep (sQ.n) (sQ.n.n.n)
     refine ⟨(qa9, qb10, qc11, qd12, v26, v17, k + 1), ?_, ?_, hF.sub ⟨rfl, rfl, rfl, rfl, rfl, trivial⟩, ?_⟩
     ·(try dsimp only); omega
     ·exact ⟨by omega, hD13⟩
     ·have hra := Jn.rds_at (S := S) (k := k) (by omega)
      (try dsimp only [List.set_cons_zero, List.set_cons_succ])
      rw [Jn.en_t (by rw [hra]; exact hc3), Jn.bad_t (by rw [hra]; exact hc5), Jn.nx_s, ← Jn.psN_step (by omega), hra, List.length_append, List.map_append]
      exact hS
    ·(try simp only [bS] at hc5)
     refine wp_skip ?_
     refine hK20 _ _ ?_
     refine regt 11 mixed kQ hF hS (mQ rfl <| mQ rfl <| q0 (q_nilCheck rfl) <| q0 (q_fieldAddr ty172 rfl rfl (s' := 0) kQ) <| q0 (q_ld_blk1 ty3 10 rfl rfl rfl rfl) <| q0 (q_fieldAddr ty130 rfl rfl (s' := 0) kQ) <| q0 (q_ld_blk1 ty3 1 rfl rfl rfl rfl) <| pQ rfl rfl <| q0 (q_max rfl rfl) <| q0 (q_nilCheck rfl) <| q0 (q_fieldAddr ty172 rfl rfl (s' := 0) kQ) <| sq_end) fun a w hF hS => ?_
     refine eQ hF hS rfl (ef_store1 ty3 10 rfl rfl rfl rfl (by simp)) ?_
     rintro _ _ _ a w ⟨rfl, rfl, rfl⟩ hF hS
     replace hS : St _ (_ :: _) (_ :: _ :: _ :: _ :: _ :: _ :: _ :: _ :: _ :: _ :: .blk _ _ ([_, _, _, _, _, _, _].set 4 _) :: _) _ := hS
     simp only [List.set_cons_zero, List.set_cons_succ] at hS
     replace hS : St _ (_ :: _) (_ :: _ :: _ :: _ :: _ :: _ :: _ :: _ :: _ :: _ :: _ :: _) _ := hS
     refine wpList_nil (hK8 _ _ ?_)
     refine reg hF hS (pQ rfl rfl <| mQ rfl <| sq_end) fun a w hF hS => ?_
     replace hS := hS.keep (sQ.n) (sQ.n.n)
     refine ⟨(qa9, qb10, qc11, qd12, ub, v17, k + 1), ?_, ?_, hF.sub ⟨rfl, rfl, rfl, rfl, rfl, trivial⟩, ?_⟩
     ·(try dsimp only); omega
     ·exact ⟨by omega, hD13⟩
     ·have hra := Jn.rds_at (S := S) (k := k) (by omega)
      (try dsimp only [List.set_cons_zero, List.set_cons_succ])
      rw [Jn.en_t (by rw [hra]; exact hc3), Jn.bad_f (by rw [hra]; intro hq; rcases hc5 with h9 | h9; (rw [h9] at hq; exact absurd hq.1 (by simp)); exact hq.2 h9), Jn.nx_s, ← Jn.psN_step (by omega), hra]
      exact hS
 ·obtain rfl : k = S.s.length := by omega
  refine wp_exit ?_
  refine hK4 _ _ ?_
  refine k0 ?_; intro K22 hK22
  refine k0 ?_; intro K23 hK23
  refine reg hF hS (aQ rfl <| sq_end) fun a w hF hS => ?_
  replace hS := hS.perm P0_3
  obtain ⟨zp, hpl, hS⟩ := St.freezeK (hl := Jn.ptC_len) (h1 := Jn.ptC_one) (p := Jn.PtOk) (xs := (Jn.psN (Jn.rds S) S.s.length)) hS (by rw [Jn.psN_len (by omega)]) (by omega) Jn.psN_ok
  have hpn : (Jn.psN (Jn.rds S) S.s.length).length = S.s.length := Jn.psN_len (by omega)
  replace hS := nt1_8 hS
  refine hK23 _ _ ?_
  refine wp_block ?_
  obtain ⟨hs0, hhs0, hS⟩ := hS.oh
  refine wp_loopx (γ := Value × Value × Jn.Acc × Nat) ((Value.slice none 0 0), (Value.slice none 0 0), ([], []), 0) (fun (un, ut, acc, m) => [(11, vi (m : Int))]) [(4, _), (5, _)] (fun (un, ut, acc, m) => (((hs0.set 7 (.blk b1 172 [.pointer (some ⟨h.b, 0, none⟩), un, ub, ut, vi (Jn.nxN (Jn.rds S) S.s.length), vi (Jn.enN (Jn.rds S) S.s.length), .bool false])).set 4 (.row un 3 1 acc.1.length (acc.1.map vi))).set 6 (.row ut 9 1 acc.2.length (acc.2.map vs)))) (fun (un, ut, acc, m) => m ≤ S.s.length ∧ (Jn.AccOk m acc ∧ (acc.1.length : Int) ≤ Jn.enN (Jn.rds S) S.s.length) ∧ Jn.scan ((Jn.psN (Jn.rds S) S.s.length).drop m) acc = Jn.scan (Jn.psN (Jn.rds S) S.s.length) ([], [])) (fun (un, ut, acc, m) => S.s.length - m) (hF.sub ⟨rfl, rfl, rfl, trivial⟩) (by subst hhs0; exact hS) (by exact ⟨Nat.zero_le _, ⟨Jn.AccOk.start, (Jn.en_rng _ _).1⟩, rfl⟩) ?_
  rintro ⟨un, ut, acc, m⟩ a w hfact hF hS
  subst hhs0; (try dsimp only at hfact hF hS)
  obtain ⟨hm0, ⟨hacc, hab⟩, hscn⟩ := hfact
  replace hS := nt1_8 hS
  obtain ⟨hal, hae, har, hat⟩ := hacc
  have hacc : Jn.AccOk m acc := ⟨hal, hae, har, hat⟩
  have hax : ∀ x ∈ acc.1, -9223372036854775808 ≤ x ∧ x ≤ 9223372036854775807 := fun x hx => by have := har x hx; omega
  refine k0 ?_; intro K24 hK24
  refine regS hF hS (mQ rfl <| mQ rfl <| q0 (q_len_sl ty173 hpl rfl) <| q0 (q_lti rfl rfl) <| sq_end) fun a w hF hS => ?_
  refine wp_ifd hF rfl (fun hc6 => ?_) (fun hc6 => ?_)
  ·have hdne : (Jn.psN (Jn.rds S) S.s.length).drop m ≠ [] := by intro e; have := congrArg List.length e; simp at this; omega
   refine wp_skip ?_
   refine hK24 _ _ ?_
   refine wp_block ?_
   refine k0 ?_; intro K26 hK26
   refine reg hF hS (mQ rfl <| mQ rfl <| q0 (q_slsl_lo ty173 ty130 hpl rfl rfl (by omega)) <| q0 (q_call fn94 rfl (fun w hS => record_ct _ _ (by intro e; have := congrArg List.length e; simp at this; omega) w (Sl.mono (hS.le (.inr (by simp))) (Sl.cut hpl (by omega)))) (fun _ _ _ h => h)) <| mQ rfl <| q0 (q_extract rfl rfl) <| q0 (q_extract rfl rfl) <| q0 (q_extract rfl rfl) <| aQ rfl <| aQ rfl <| aQ rfl <| sq_end) fun a w hF hS => ?_
   rw [List.take_length, Int.toNat_natCast] at hF
   refine hK26 _ _ ?_
   refine k0 ?_; intro K27 hK27
   refine regS hF hS (mQ rfl <| q0 (q_not rfl) <| sq_end) fun a w hF hS => ?_
   refine wp_if hF rfl (fun hc7 => ?_) (fun hc7 => ?_)
   ·refine k0 ?_; intro K29 hK29
    refine reg hF hS (mQ rfl <| pQ rfl rfl <| aQ rfl <| sq_end) fun a w hF hS => ?_
    refine hK29 _ _ ?_
    refine wp_exit ?_
    refine ⟨(un, ut, acc, m + 1), ?_, ?_, hF.sub ⟨(by first | rfl | (show some (vi _) = some (vi _); rw [hrn]; congr 2 <;> omega)), rfl, rfl, trivial⟩, ?_⟩
    ·(try dsimp only); omega
    ·exact ⟨by omega, ⟨hacc.up (by omega), hab⟩, by rw [← hscn, Jn.scan_none (l := (Jn.psN (Jn.rds S) S.s.length).drop m) hdne (Jn.recT_none (by simpa using hc7)), List.drop_drop]⟩
    ·exact hS
   ·obtain ⟨nn, hrc, hrn⟩ := Jn.recT_some (l := (Jn.psN (Jn.rds S) S.s.length).drop m) (by simpa using hc7)
    have hrp := Jn.recd_pos hrc
    rw [List.length_drop] at hrp
    obtain ⟨hfo, hrt⟩ := Jn.recd_first hrc (fun x hx => Jn.psN_ok x (List.mem_of_mem_drop hx))
    rw [Jn.f0_drop, Jn.psN_at (by omega) (by omega)] at hfo
    have hnr : 1 ≤ ((Jn.psN (Jn.rds S) S.s.length).getD m Jn.p0).n ∧ ((Jn.psN (Jn.rds S) S.s.length).getD m Jn.p0).n ≤ 4096 := by rw [Jn.psN_at (by omega) (by omega)]; exact ⟨Jn.unp_num hfo, (Jn.unp_ok _).1.2⟩
    have heg := Jn.en_ge (Jn.blank_bad hfo) S.s.length (by omega)
    have hgd : ((Jn.psN (Jn.rds S) S.s.length).drop m).getD 0 Jn.p0 = (Jn.psN (Jn.rds S) S.s.length).getD m Jn.p0 := Jn.f0_drop _ _
    refine wp_skip ?_
    refine hK27 _ _ ?_
    refine k0 ?_; intro K30 hK30
    refine regdS mixed kQ hF hS (mQ rfl <| q0 (q_nilCheck rfl) <| q0 (q_fieldAddr ty172 rfl rfl (s' := 0) kQ) <| q0 (q_ld_blk1 ty22 7 rfl rfl rfl rfl) <| mQ rfl <| mQ rfl <| q0 (q_idx_sl ty173 ty130 hpl rfl rfl (by omega)) <| q0 (q_fld_E (j := 0) (s' := 0) ty130 hpl rfl (by first | omega | (simp; omega)) rfl kQ) <| q0 (q_ld_K1 (j := 0) Jn.p0 ty3 hpl (.inr (by simp)) rfl rfl (by first | omega | (simp; omega)) rfl) <| q0 (q_call fn95 rfl (fun w hS => cont_ct _ _ _ w (own_slV (hS.own _ (List.mem_of_getElem? (i := 4) rfl)).1 (by first | assumption | (simp; done)) (by first | rfl | (simp; done) | (simp; omega) | omega) (by first | omega | (simp; omega)))) (fun _ _ _ h => h)) <| q0 (q_not rfl) <| sq_end) fun a w hF hS => ?_
    refine wp_ifn hF rfl (fun hc8 => ?_) (fun hc8 => ?_)
    ·revert hS; revert hF; apply regJ (J := J4 (α0 := Value) (α1 := Value) (α2 := Value) (α3 := Value) 140 _ _ _ _ _) #[false, false, false, false, false, false, false, false, false, false, false, false, false, false, false, false, false, false, false, false, false, false, false, false, false, false] 26 mixed rfl rfl
     ·intro w hF hS
      refine tQ 0 rfl hF (hS.keep sQ (sQ.n.n.n.n.n.n.n.n)) (q_move rfl) fun a hF => ?_
      refine tQ 1 rfl hF (hS.keep sQ (sQ.n.n.n.n.n.n.n.n)) (q_move rfl) fun a hF => ?_
      refine tQ 2 rfl hF (hS.keep sQ (sQ.n.n.n.n.n.n.n.n)) (q_move rfl) fun a hF => ?_
      refine tQ 3 rfl hF (hS.keep sQ (sQ.n.n.n.n.n.n.n.n)) (q_nilCheck rfl) fun a hF => ?_
      refine tQ 4 rfl hF (hS.keep sQ (sQ.n.n.n.n.n.n.n.n)) (q_fieldAddr ty172 rfl rfl (s' := 0) kQ) fun a hF => ?_
      refine tQ 5 rfl hF (hS.keep sQ (sQ.n.n.n.n.n.n.n)) (q_ld_blk1 ty22 0 rfl rfl rfl rfl) fun a hF => ?_
      refine tQ 6 rfl hF (hS.keep sQ (sQ.n.n.n.n.n.n.n.n)) (q_move rfl) fun a hF => ?_
      refine tQ 7 rfl hF (hS.keep sQ (sQ.n.n.n.n.n.n.n.n)) (q_move rfl) fun a hF => ?_
      refine tQ 8 rfl hF (hS.keep sQ (sQ.n.n.n.n.n.n.n.n)) (q_idx_sl ty173 ty130 hpl rfl rfl (by omega)) fun a hF => ?_
      refine tQ 9 rfl hF (hS.keep sQ (sQ.n.n.n.n.n.n.n.n)) (q_fld_E (j := 0) (s' := 0) ty130 hpl rfl (by first | omega | (simp; omega)) rfl kQ) fun a hF => ?_
      refine tQ 10 rfl hF (hS.keep sQ (sQ.n.n.n.n.n.n.n.n)) (q_ld_K1 (j := 0) Jn.p0 ty3 hpl (.inr (by simp)) rfl rfl (by first | omega | (simp; omega)) rfl) fun a hF => ?_
      refine tQ 13 rfl hF (hS.keep sQ (sQ.n.n.n.n.n.n.n.n)) (q_move rfl) fun a hF => ?_
      refine tQ 14 rfl hF (hS.keep sQ (sQ.n.n.n.n.n.n.n.n)) (q_nilCheck rfl) fun a hF => ?_
      refine tQ 15 rfl hF (hS.keep sQ (sQ.n.n.n.n.n.n.n.n)) (q_fieldAddr ty172 rfl rfl (s' := 0) kQ) fun a hF => ?_
      refine tQ 16 rfl hF (hS.keep sQ (sQ.n.n.n.n.n.n.n)) (q_ld_blk1 ty40 0 rfl rfl rfl rfl) fun a hF => ?_
      refine tQ 17 rfl hF (hS.keep sQ (sQ.n.n.n.n.n.n.n.n)) (q_move rfl) fun a hF => ?_
      refine goW_fork [11, 18] kQ rfl ⟨?_, ?_, trivial⟩
      ·refine stepW_ef _ rfl rfl hF hS rfl (ef_bsliceA ty22 ty3 rfl rfl oQ (by decide) rfl rfl) ?_
       rintro v_24_11 _ _ a w ⟨rfl, rfl⟩ hF hS
       replace hS := nt1_9 hS
       refine ⟨⟨.inr (hS.keep sQ (sQ.n.n.n.n.n.n.n.n.n)), .inr (hS.keep sQ (sQ.n.n.n.n.n.n.n.n)), .inr (hS.keep sQ (sQ.n.n.n.n.n.n.n.n.n)), .inr (hS.keep sQ (sQ.n.n.n.n.n.n.n.n.n)), .inr (hS.keep sQ (sQ.n.n.n.n.n.n.n.n.n)), iQ, iQ, .inr (hS.keep sQ (sQ.n.n.n.n.n.n.n.n.n)), .inr (hS.keep sQ (sQ.n.n.n.n.n.n.n.n.n)), .inr (hS.keep sQ (sQ.n.n.n.n.n.n.n.n.n)), .inr (hS.keep sQ (sQ.n.n.n.n.n.n.n.n)), .inr (hS.keep sQ (sQ.n.n.n.n.n.n.n.n.n)), .inr (hS.keep sQ (sQ.n.n.n.n.n.n.n.n.n)), .inr (hS.keep sQ (sQ.n.n.n.n.n.n.n.n.n)), .inr (hS.keep sQ (sQ.n.n.n.n.n.n.n.n.n)), .inr (hS.keep sQ (sQ.n.n.n.n.n.n.n.n.n)), trivial⟩, ?_⟩
       refine goW_fork [12, 18] kQ rfl ⟨?_, ?_, trivial⟩
       ·refine stepW_ef _ rfl rfl hF hS rfl (ef_append ty22 ty3 5 rfl rfl rfl (src_row ty22 (k := 0) rfl oQ) bQ rfl (by decide)) ?_
        rintro v_24_12 _ _ a w ⟨rfl, rfl⟩ hF hS
        replace hS := nt1_9 hS
        refine ⟨⟨.inr (hS.keep sQ (sQ.n.n.n.n.n.n.n.n.n)), .inr (hS.keep sQ (sQ.n.n.n.n.n.n.n.n)), .inr (hS.keep sQ (sQ.n.n.n.n.n.n.n.n.n)), .inr (hS.keep sQ (sQ.n.n.n.n.n.n.n.n.n)), .inr (hS.keep sQ (sQ.n.n.n.n.n.n.n.n.n)), iQ, iQ, .inr (hS.keep sQ (sQ.n.n.n.n.n.n.n.n.n)), .inr (hS.keep sQ (sQ.n.n.n.n.n.n.n.n.n)), .inr (hS.keep sQ (sQ.n.n.n.n.n.n.n.n.n)), iQ, iQ, .inr (hS.keep sQ (sQ.n.n.n.n.n.n.n.n.n)), .inr (hS.keep sQ (sQ.n.n.n.n.n.n.n.n.n)), .inr (hS.keep sQ (sQ.n.n.n.n.n.n.n.n.n)), .inr (hS.keep sQ (sQ.n.n.n.n.n.n.n.n.n)), trivial⟩, ?_⟩
        refine gQ 18 rfl rfl hF hS rfl (ef_bsliceA ty40 ty9 rfl rfl oQ (by decide) rfl rfl) ?_
        rintro v_24_18 _ _ a w ⟨rfl, rfl⟩ hF hS
        replace hS := nt1_10 hS
        refine ⟨⟨iQ, .inr (hS.keep sQ (sQ.n.n.n.n.n.n.n.n.n)), .inr (hS.keep sQ (sQ.n.n.n.n.n.n.n.n.n.n)), .inr (hS.keep sQ (sQ.n.n.n.n.n.n.n.n.n.n)), .inr (hS.keep sQ (sQ.n.n.n.n.n.n.n.n.n.n)), iQ, iQ, .inr (hS.keep sQ (sQ.n.n.n.n.n.n.n.n.n.n)), .inr (hS.keep sQ (sQ.n.n.n.n.n.n.n.n.n.n)), .inr (hS.keep sQ (sQ.n.n.n.n.n.n.n.n.n.n)), iQ, iQ, .inr (hS.keep sQ (sQ.n.n.n.n.n.n.n.n.n.n)), .inr (hS.keep sQ (sQ.n.n.n.n.n.n.n.n.n.n)), .inr (hS.keep sQ (sQ.n.n.n.n.n.n.n.n.n.n)), .inr (hS.keep sQ (sQ.n.n.n.n.n.n.n.n.n.n)), trivial⟩, ?_⟩
        refine gQ 19 rfl rfl hF hS rfl (ef_append ty40 ty9 8 rfl rfl rfl (src_row ty40 (k := 0) rfl oQ) bQ rfl (by decide)) ?_
        rintro v_24_19 _ _ a w ⟨rfl, rfl⟩ hF hS
        replace hS := nt1_10 hS
        refine ⟨⟨iQ, iQ, iQ, .inr (hS.keep sQ (sQ.n.n.n.n.n.n.n.n.n.n)), .inr (hS.keep sQ (sQ.n.n.n.n.n.n.n.n.n.n)), iQ, iQ, .inr (hS.keep sQ (sQ.n.n.n.n.n.n.n.n.n.n)), .inr (hS.keep sQ (sQ.n.n.n.n.n.n.n.n.n.n)), .inr (hS.keep sQ (sQ.n.n.n.n.n.n.n.n.n.n)), iQ, iQ, .inr (hS.keep sQ (sQ.n.n.n.n.n.n.n.n.n.n)), .inr (hS.keep sQ (sQ.n.n.n.n.n.n.n.n.n.n)), .inr (hS.keep sQ (sQ.n.n.n.n.n.n.n.n.n.n)), .inr (hS.keep sQ (sQ.n.n.n.n.n.n.n.n.n.n)), trivial⟩, ?_⟩
        refine tQ 20 rfl hF (hS.keep sQ (sQ.n.n.n.n.n.n.n.n.n.n)) (q_nilCheck rfl) fun a hF => ?_
        refine tQ 21 rfl hF (hS.keep sQ (sQ.n.n.n.n.n.n.n.n.n.n)) (q_fieldAddr ty172 rfl rfl (s' := 0) kQ) fun a hF => ?_
        refine gQ 22 rfl rfl hF hS rfl (ef_store1 ty22 9 rfl rfl rfl (row_one (hS.own _ (List.mem_of_getElem? (i := 6) rfl)).1) (by simp)) ?_
        rintro _ _ _ a w ⟨rfl, rfl, rfl⟩ hF hS
        replace hS : St _ (_ :: _) (_ :: _ :: _ :: _ :: _ :: _ :: _ :: _ :: _ :: .blk _ _ ([_, _, _, _, _, _, _].set 1 _) :: _) _ := hS
        simp only [List.set_cons_zero, List.set_cons_succ] at hS
        replace hS := nt1_10 hS
        refine ⟨⟨iQ, iQ, iQ, iQ, iQ, .inr (hS.keep sQ (sQ.n.n.n.n.n.n.n.n.n.n)), .inr (hS.keep sQ (sQ.n.n.n.n.n.n.n.n.n.n)), iQ, iQ, iQ, iQ, iQ, iQ, iQ, iQ, iQ, .inr (hS.keep sQ (sQ.n.n.n.n.n.n.n.n.n.n)), iQ, trivial⟩, ?_⟩
        refine tQ 23 rfl hF (hS.keep sQ (sQ.n.n.n.n.n.n.n.n.n.n)) (q_nilCheck rfl) fun a hF => ?_
        refine tQ 24 rfl hF (hS.keep sQ (sQ.n.n.n.n.n.n.n.n.n.n)) (q_fieldAddr ty172 rfl rfl (s' := 0) kQ) fun a hF => ?_
        refine gQ 25 rfl rfl hF hS rfl (ef_store1 ty40 9 rfl rfl rfl (row_one (hS.own _ (List.mem_of_getElem? (i := 8) rfl)).1) (by simp)) ?_
        rintro _ _ _ a w ⟨rfl, rfl, rfl⟩ hF hS
        replace hS : St _ (_ :: _) (_ :: _ :: _ :: _ :: _ :: _ :: _ :: _ :: _ :: .blk _ _ ([_, _, _, _, _, _, _].set 3 _) :: _) _ := hS
        simp only [List.set_cons_zero, List.set_cons_succ] at hS
        replace hS := nt1_10 hS
        refine ⟨⟨iQ, iQ, iQ, iQ, iQ, iQ, iQ, iQ, iQ, iQ, iQ, iQ, iQ, iQ, iQ, iQ, iQ, iQ, iQ, iQ, trivial⟩, ?_⟩
        exact goW_done kQ (j4_mk v_24_11 v_24_12 v_24_18 v_24_19 (trivial) (hF.sub (L' := [(4, _), (5, _), (11, _), (13, _)]) ⟨rfl, rfl, rfl, rfl, trivial⟩) hS)
       ·refine stepW_ef _ rfl rfl hF hS rfl (ef_bsliceA ty40 ty9 rfl rfl oQ (by decide) rfl rfl) ?_
        rintro v_24_18 _ _ a w ⟨rfl, rfl⟩ hF hS
        replace hS := nt1_10 hS
        refine ⟨⟨iQ, .inr (hS.keep sQ (sQ.n.n.n.n.n.n.n.n.n)), .inr (hS.keep sQ (sQ.n.n.n.n.n.n.n.n.n.n)), .inr (hS.keep sQ (sQ.n.n.n.n.n.n.n.n.n.n)), .inr (hS.keep sQ (sQ.n.n.n.n.n.n.n.n.n.n)), iQ, iQ, .inr (hS.keep sQ (sQ.n.n.n.n.n.n.n.n.n.n)), .inr (hS.keep sQ (sQ.n.n.n.n.n.n.n.n.n.n)), .inr (hS.keep sQ (sQ.n.n.n.n.n.n.n.n.n.n)), .inr (hS.keep sQ (sQ.n.n.n.n.n.n.n.n.n)), .inr (hS.keep sQ (sQ.n.n.n.n.n.n.n.n.n.n)), .inr (hS.keep sQ (sQ.n.n.n.n.n.n.n.n.n.n)), .inr (hS.keep sQ (sQ.n.n.n.n.n.n.n.n.n.n)), .inr (hS.keep sQ (sQ.n.n.n.n.n.n.n.n.n.n)), .inr (hS.keep sQ (sQ.n.n.n.n.n.n.n.n.n.n)), trivial⟩, ?_⟩
        refine gQ 12 rfl rfl hF hS rfl (ef_append ty22 ty3 6 rfl rfl rfl (src_row ty22 (k := 1) rfl oQ) bQ rfl (by decide)) ?_
        rintro v_24_12 _ _ a w ⟨rfl, rfl⟩ hF hS
        replace hS := nt1_10 hS
        refine ⟨⟨iQ, .inr (hS.keep sQ (sQ.n.n.n.n.n.n.n.n.n)), .inr (hS.keep sQ (sQ.n.n.n.n.n.n.n.n.n.n)), .inr (hS.keep sQ (sQ.n.n.n.n.n.n.n.n.n.n)), .inr (hS.keep sQ (sQ.n.n.n.n.n.n.n.n.n.n)), iQ, iQ, .inr (hS.keep sQ (sQ.n.n.n.n.n.n.n.n.n.n)), .inr (hS.keep sQ (sQ.n.n.n.n.n.n.n.n.n.n)), .inr (hS.keep sQ (sQ.n.n.n.n.n.n.n.n.n.n)), iQ, iQ, .inr (hS.keep sQ (sQ.n.n.n.n.n.n.n.n.n.n)), .inr (hS.keep sQ (sQ.n.n.n.n.n.n.n.n.n.n)), .inr (hS.keep sQ (sQ.n.n.n.n.n.n.n.n.n.n)), .inr (hS.keep sQ (sQ.n.n.n.n.n.n.n.n.n.n)), trivial⟩, ?_⟩
        refine gQ 19 rfl rfl hF hS rfl (ef_append ty40 ty9 8 rfl rfl rfl (src_row ty40 (k := 0) rfl oQ) bQ rfl (by decide)) ?_
        rintro v_24_19 _ _ a w ⟨rfl, rfl⟩ hF hS
        replace hS := nt1_10 hS
        refine ⟨⟨iQ, iQ, iQ, .inr (hS.keep sQ (sQ.n.n.n.n.n.n.n.n.n.n)), .inr (hS.keep sQ (sQ.n.n.n.n.n.n.n.n.n.n)), iQ, iQ, .inr (hS.keep sQ (sQ.n.n.n.n.n.n.n.n.n.n)), .inr (hS.keep sQ (sQ.n.n.n.n.n.n.n.n.n.n)), .inr (hS.keep sQ (sQ.n.n.n.n.n.n.n.n.n.n)), iQ, iQ, .inr (hS.keep sQ (sQ.n.n.n.n.n.n.n.n.n.n)), .inr (hS.keep sQ (sQ.n.n.n.n.n.n.n.n.n.n)), .inr (hS.keep sQ (sQ.n.n.n.n.n.n.n.n.n.n)), .inr (hS.keep sQ (sQ.n.n.n.n.n.n.n.n.n.n)), trivial⟩, ?_⟩
        refine tQ 20 rfl hF (hS.keep sQ (sQ.n.n.n.n.n.n.n.n.n.n)) (q_nilCheck rfl) fun a hF => ?_
        refine tQ 21 rfl hF (hS.keep sQ (sQ.n.n.n.n.n.n.n.n.n.n)) (q_fieldAddr ty172 rfl rfl (s' := 0) kQ) fun a hF => ?_
        refine gQ 22 rfl rfl hF hS rfl (ef_store1 ty22 9 rfl rfl rfl (row_one (hS.own _ (List.mem_of_getElem? (i := 6) rfl)).1) (by simp)) ?_
        rintro _ _ _ a w ⟨rfl, rfl, rfl⟩ hF hS
        replace hS : St _ (_ :: _) (_ :: _ :: _ :: _ :: _ :: _ :: _ :: _ :: _ :: .blk _ _ ([_, _, _, _, _, _, _].set 1 _) :: _) _ := hS
        simp only [List.set_cons_zero, List.set_cons_succ] at hS
        replace hS := nt1_10 hS
        refine ⟨⟨iQ, iQ, iQ, iQ, iQ, .inr (hS.keep sQ (sQ.n.n.n.n.n.n.n.n.n.n)), .inr (hS.keep sQ (sQ.n.n.n.n.n.n.n.n.n.n)), iQ, iQ, iQ, iQ, iQ, iQ, iQ, iQ, iQ, .inr (hS.keep sQ (sQ.n.n.n.n.n.n.n.n.n.n)), iQ, trivial⟩, ?_⟩
        refine tQ 23 rfl hF (hS.keep sQ (sQ.n.n.n.n.n.n.n.n.n.n)) (q_nilCheck rfl) fun a hF => ?_
        refine tQ 24 rfl hF (hS.keep sQ (sQ.n.n.n.n.n.n.n.n.n.n)) (q_fieldAddr ty172 rfl rfl (s' := 0) kQ) fun a hF => ?_
        refine gQ 25 rfl rfl hF hS rfl (ef_store1 ty40 9 rfl rfl rfl (row_one (hS.own _ (List.mem_of_getElem? (i := 8) rfl)).1) (by simp)) ?_
        rintro _ _ _ a w ⟨rfl, rfl, rfl⟩ hF hS
        replace hS : St _ (_ :: _) (_ :: _ :: _ :: _ :: _ :: _ :: _ :: _ :: _ :: .blk _ _ ([_, _, _, _, _, _, _].set 3 _) :: _) _ := hS
        simp only [List.set_cons_zero, List.set_cons_succ] at hS
        replace hS := nt1_10 hS
        refine ⟨⟨iQ, iQ, iQ, iQ, iQ, iQ, iQ, iQ, iQ, iQ, iQ, iQ, iQ, iQ, iQ, iQ, iQ, iQ, iQ, iQ, trivial⟩, ?_⟩
        exact goW_done kQ (j4_mk v_24_11 v_24_12 v_24_18 v_24_19 (trivial) (hF.sub (L' := [(4, _), (5, _), (11, _), (13, _)]) ⟨rfl, rfl, rfl, rfl, trivial⟩) hS)
      ·refine stepW_ef _ rfl rfl hF hS rfl (ef_bsliceA ty40 ty9 rfl rfl oQ (by decide) rfl rfl) ?_
       rintro v_24_18 _ _ a w ⟨rfl, rfl⟩ hF hS
       replace hS := nt1_9 hS
       refine ⟨⟨iQ, .inr (hS.keep sQ (sQ.n.n.n.n.n.n.n.n)), .inr (hS.keep sQ (sQ.n.n.n.n.n.n.n.n.n)), .inr (hS.keep sQ (sQ.n.n.n.n.n.n.n.n.n)), .inr (hS.keep sQ (sQ.n.n.n.n.n.n.n.n.n)), .inr (hS.keep sQ (sQ.n.n.n.n.n.n.n.n.n)), .inr (hS.keep sQ (sQ.n.n.n.n.n.n.n.n.n)), .inr (hS.keep sQ (sQ.n.n.n.n.n.n.n.n.n)), .inr (hS.keep sQ (sQ.n.n.n.n.n.n.n.n.n)), .inr (hS.keep sQ (sQ.n.n.n.n.n.n.n.n.n)), .inr (hS.keep sQ (sQ.n.n.n.n.n.n.n.n)), .inr (hS.keep sQ (sQ.n.n.n.n.n.n.n.n.n)), .inr (hS.keep sQ (sQ.n.n.n.n.n.n.n.n.n)), .inr (hS.keep sQ (sQ.n.n.n.n.n.n.n.n.n)), .inr (hS.keep sQ (sQ.n.n.n.n.n.n.n.n.n)), .inr (hS.keep sQ (sQ.n.n.n.n.n.n.n.n.n)), trivial⟩, ?_⟩
       refine gQ 11 rfl rfl hF hS rfl (ef_bsliceA ty22 ty3 rfl rfl oQ (by decide) rfl rfl) ?_
       rintro v_24_11 _ _ a w ⟨rfl, rfl⟩ hF hS
       replace hS := nt1_10 hS
       refine ⟨⟨iQ, .inr (hS.keep sQ (sQ.n.n.n.n.n.n.n.n.n)), .inr (hS.keep sQ (sQ.n.n.n.n.n.n.n.n.n.n)), .inr (hS.keep sQ (sQ.n.n.n.n.n.n.n.n.n.n)), .inr (hS.keep sQ (sQ.n.n.n.n.n.n.n.n.n.n)), iQ, iQ, .inr (hS.keep sQ (sQ.n.n.n.n.n.n.n.n.n.n)), .inr (hS.keep sQ (sQ.n.n.n.n.n.n.n.n.n.n)), .inr (hS.keep sQ (sQ.n.n.n.n.n.n.n.n.n.n)), .inr (hS.keep sQ (sQ.n.n.n.n.n.n.n.n.n)), .inr (hS.keep sQ (sQ.n.n.n.n.n.n.n.n.n.n)), .inr (hS.keep sQ (sQ.n.n.n.n.n.n.n.n.n.n)), .inr (hS.keep sQ (sQ.n.n.n.n.n.n.n.n.n.n)), .inr (hS.keep sQ (sQ.n.n.n.n.n.n.n.n.n.n)), .inr (hS.keep sQ (sQ.n.n.n.n.n.n.n.n.n.n)), trivial⟩, ?_⟩
       refine gQ 12 rfl rfl hF hS rfl (ef_append ty22 ty3 6 rfl rfl rfl (src_row ty22 (k := 0) rfl oQ) bQ rfl (by decide)) ?_
       rintro v_24_12 _ _ a w ⟨rfl, rfl⟩ hF hS
       replace hS := nt1_10 hS
       refine ⟨⟨iQ, .inr (hS.keep sQ (sQ.n.n.n.n.n.n.n.n.n)), .inr (hS.keep sQ (sQ.n.n.n.n.n.n.n.n.n.n)), .inr (hS.keep sQ (sQ.n.n.n.n.n.n.n.n.n.n)), .inr (hS.keep sQ (sQ.n.n.n.n.n.n.n.n.n.n)), iQ, iQ, .inr (hS.keep sQ (sQ.n.n.n.n.n.n.n.n.n.n)), .inr (hS.keep sQ (sQ.n.n.n.n.n.n.n.n.n.n)), .inr (hS.keep sQ (sQ.n.n.n.n.n.n.n.n.n.n)), iQ, iQ, .inr (hS.keep sQ (sQ.n.n.n.n.n.n.n.n.n.n)), .inr (hS.keep sQ (sQ.n.n.n.n.n.n.n.n.n.n)), .inr (hS.keep sQ (sQ.n.n.n.n.n.n.n.n.n.n)), .inr (hS.keep sQ (sQ.n.n.n.n.n.n.n.n.n.n)), trivial⟩, ?_⟩
       refine gQ 19 rfl rfl hF hS rfl (ef_append ty40 ty9 8 rfl rfl rfl (src_row ty40 (k := 1) rfl oQ) bQ rfl (by decide)) ?_
       rintro v_24_19 _ _ a w ⟨rfl, rfl⟩ hF hS
       replace hS := nt1_10 hS
       refine ⟨⟨iQ, iQ, iQ, .inr (hS.keep sQ (sQ.n.n.n.n.n.n.n.n.n.n)), .inr (hS.keep sQ (sQ.n.n.n.n.n.n.n.n.n.n)), iQ, iQ, .inr (hS.keep sQ (sQ.n.n.n.n.n.n.n.n.n.n)), .inr (hS.keep sQ (sQ.n.n.n.n.n.n.n.n.n.n)), .inr (hS.keep sQ (sQ.n.n.n.n.n.n.n.n.n.n)), iQ, iQ, .inr (hS.keep sQ (sQ.n.n.n.n.n.n.n.n.n.n)), .inr (hS.keep sQ (sQ.n.n.n.n.n.n.n.n.n.n)), .inr (hS.keep sQ (sQ.n.n.n.n.n.n.n.n.n.n)), .inr (hS.keep sQ (sQ.n.n.n.n.n.n.n.n.n.n)), trivial⟩, ?_⟩
       refine tQ 20 rfl hF (hS.keep sQ (sQ.n.n.n.n.n.n.n.n.n.n)) (q_nilCheck rfl) fun a hF => ?_
       refine tQ 21 rfl hF (hS.keep sQ (sQ.n.n.n.n.n.n.n.n.n.n)) (q_fieldAddr ty172 rfl rfl (s' := 0) kQ) fun a hF => ?_
       refine gQ 22 rfl rfl hF hS rfl (ef_store1 ty22 9 rfl rfl rfl (row_one (hS.own _ (List.mem_of_getElem? (i := 6) rfl)).1) (by simp)) ?_
       rintro _ _ _ a w ⟨rfl, rfl, rfl⟩ hF hS
       replace hS : St _ (_ :: _) (_ :: _ :: _ :: _ :: _ :: _ :: _ :: _ :: _ :: .blk _ _ ([_, _, _, _, _, _, _].set 1 _) :: _) _ := hS
       simp only [List.set_cons_zero, List.set_cons_succ] at hS
       replace hS := nt1_10 hS
       refine ⟨⟨iQ, iQ, iQ, iQ, iQ, .inr (hS.keep sQ (sQ.n.n.n.n.n.n.n.n.n.n)), .inr (hS.keep sQ (sQ.n.n.n.n.n.n.n.n.n.n)), iQ, iQ, iQ, iQ, iQ, iQ, iQ, iQ, iQ, .inr (hS.keep sQ (sQ.n.n.n.n.n.n.n.n.n.n)), iQ, trivial⟩, ?_⟩
       refine tQ 23 rfl hF (hS.keep sQ (sQ.n.n.n.n.n.n.n.n.n.n)) (q_nilCheck rfl) fun a hF => ?_
       refine tQ 24 rfl hF (hS.keep sQ (sQ.n.n.n.n.n.n.n.n.n.n)) (q_fieldAddr ty172 rfl rfl (s' := 0) kQ) fun a hF => ?_
       refine gQ 25 rfl rfl hF hS rfl (ef_store1 ty40 9 rfl rfl rfl (row_one (hS.own _ (List.mem_of_getElem? (i := 8) rfl)).1) (by simp)) ?_
       rintro _ _ _ a w ⟨rfl, rfl, rfl⟩ hF hS
       replace hS : St _ (_ :: _) (_ :: _ :: _ :: _ :: _ :: _ :: _ :: _ :: _ :: .blk _ _ ([_, _, _, _, _, _, _].set 3 _) :: _) _ := hS
       simp only [List.set_cons_zero, List.set_cons_succ] at hS
       replace hS := nt1_10 hS
       refine ⟨⟨iQ, iQ, iQ, iQ, iQ, iQ, iQ, iQ, iQ, iQ, iQ, iQ, iQ, iQ, iQ, iQ, iQ, iQ, iQ, iQ, trivial⟩, ?_⟩
       exact goW_done kQ (j4_mk v_24_11 v_24_12 v_24_18 v_24_19 (trivial) (hF.sub (L' := [(4, _), (5, _), (11, _), (13, _)]) ⟨rfl, rfl, rfl, rfl, trivial⟩) (hS.perm (.swap _ _ _)))
     rintro a w ⟨v_24_11, v_24_12, v_24_18, v_24_19, -, hF, hS⟩
     (try dsimp only at hF hS)
     refine hK30 _ _ ?_
     refine reg hF hS (mQ rfl <| mQ rfl <| pQ rfl rfl <| aQ rfl <| sq_end) fun a w hF hS => ?_
     replace hS := hS.keep sQ (sQ.n.n)
     refine ⟨(v_24_12, v_24_19, (acc.1 ++ [((Jn.psN (Jn.rds S) S.s.length).getD m Jn.p0).n], acc.2 ++ [(Jn.recT ((Jn.psN (Jn.rds S) S.s.length).drop m)).1]), m + nn), ?_, ?_, hF.sub ⟨(by first | rfl | (show some (vi _) = some (vi _); rw [hrn]; congr 2 <;> omega)), rfl, rfl, trivial⟩, ?_⟩
     ·(try dsimp only); omega
     ·exact ⟨by omega, ⟨hacc.add (by omega) hnr hrt, by simp; omega⟩, by rw [← hscn, Jn.scan_some hrc, List.drop_drop]; unfold Jn.addR; rw [hgd, if_neg (by simpa using hc8)]⟩
     ·(try dsimp only [List.set_cons_zero, List.set_cons_succ])
      rw [List.length_append, List.length_append, List.map_append, List.map_append]
      exact hS
    ·refine wp_skip ?_
     refine hK30 _ _ ?_
     refine reg hF hS (mQ rfl <| mQ rfl <| pQ rfl rfl <| aQ rfl <| sq_end) fun a w hF hS => ?_
     refine ⟨(un, ut, acc, m + nn), ?_, ?_, hF.sub ⟨(by first | rfl | (show some (vi _) = some (vi _); rw [hrn]; congr 2 <;> omega)), rfl, rfl, trivial⟩, ?_⟩
     ·(try dsimp only); omega
     ·exact ⟨by omega, ⟨hacc.up (by omega), hab⟩, by rw [← hscn, Jn.scan_some hrc, List.drop_drop]; unfold Jn.addR; rw [hgd, if_pos (by simpa using hc8)]⟩
     ·exact hS
  ·refine wp_exit ?_
   refine hK22 _ _ ?_
   refine regS hF hS (mQ rfl <| aQ rfl <| aQ rfl <| sq_end) fun a w hF hS => ?_
   refine wp_ret ?_
   replace hS := hS.perm P0_6
   replace hS := hS.perm P1_4
   replace hS := hS.perm P2_5
   replace hS := hS.perm P3_6
   obtain rfl : m = S.s.length := by omega
   exact fn_retx (rs := [.tmp 2, .tmp 3]) rfl hF hS (vs := [_, _]) ⟨rfl, rfl, trivial⟩ [] [_, _, _, _, _, _, _, _] (sQ.n) sQ ⟨rfl, b1, _, _, _, _, _, _, _, _, rfl, rfl, (by rw [Jn.opn_of hscn]; exact ⟨_, _, _, Jn.wf_opn hO hacc hab, rfl, rfl, rfl, rfl⟩), hDq⟩
end
section
attribute [local irreducible] Sha.sum Jn.good Jn.hd Jn.lb Jn.cnt Jn.unp Jn.recd Jn.wh Jn.tx9
end
section
attribute [local irreducible] Sha.sum Jn.good Jn.hd Jn.lb Jn.cnt Jn.unp Jn.recd Jn.app Jn.opn
end
section
theorem ty24 : Tf Tryz.prog 24 (.struct #[⟨ "Tick", 3, 0, false, "", "", 0⟩, ⟨ "Key", 9, 1, false, "", "", 8⟩, ⟨ "Value", 9, 2, false, "", "", 24⟩]) 3 40 (.agg ([Value.int .i64 0] ++ [Value.string ⟨(List.nil : List UInt8).toArray⟩, Value.string ⟨(List.nil : List UInt8).toArray⟩]).toArray) := ⟨Tryz.underlying24, by kernel_rfl⟩
theorem ty26 : Tf Tryz.prog 26 (.slice 24) 1 24 (Value.slice none 0 0) := ⟨Tryz.underlying26, by kernel_rfl⟩
theorem ty29 : Tf Tryz.prog 29 (.slice 25) 1 24 (Value.slice none 0 0) := ⟨Tryz.underlying29, by kernel_rfl⟩
theorem fn97 : FnOk Tryz.prog 97 := fQ Tryz.func97
attribute [local irreducible] Wi.int Wi.bytes Wi.getInt Wi.getBytes
theorem fval_ct (f : Lg.Fct) (hf : Lg.FcOk f) (w : World) : Ct Tryz.prog 13 [.agg [vi f.tk, vs f.ky, vs f.vl].toArray] w (fun r _ _ => r = vi (Lg.valid f)) := by
 refine fn_enter Tryz.func13 rfl Tryz.ntmps13 (Nat.le_of_ble_eq_true rfl) fun a hF hS => ?_
 have hf1 := hf.1
 have hf2 := hf.2.1
 have hf3 := hf.2.2
 refine reglS fun K1 hK1 => ?_
 refine eQ hF hS rfl (ef_boxA rfl) ?_
 rintro _ _ _ a w ⟨b1, rfl, rfl, rfl⟩ hF hS
 refine lQ hF hS (aQ rfl <| sq_end) fun a w hF hS => ?_
 refine wpList_nil (hK1 _ _ ?_)
 refine k0 ?_; intro K2 hK2
 refine wp_block ?_
 refine reglS fun K3 hK3 => ?_
 refine lQ hF hS (q0 (q_fieldAddr ty24 rfl rfl (s' := 0) kQ) <| q0 (q_ld_blk1 ty3 0 rfl rfl rfl rfl) <| q0 (q_lti rfl rfl) <| mQ rfl <| sq_end) fun a w hF hS => ?_
 refine wpl_or 3 7 3 hF hS rfl rfl rfl rfl rfl (fun hg => have hg := (by first | exact of_decide_eq_false hg | exact hg); sq_go 7 rfl rfl rfl (q_fieldAddr ty24 rfl rfl (s' := 0) kQ) <| sq_go 7 rfl rfl rfl (q_ld_blk1 ty3 0 rfl rfl rfl rfl) <| sq_go 7 rfl rfl rfl (q_gti rfl rfl) <| sq_end) rfl rfl fun a w hF hS => ?_
 refine lQ hF hS (mQ rfl <| sq_end) fun a w hF hS => ?_
 refine wpl_or 8 12 3 hF hS rfl rfl rfl rfl rfl (fun hg => have hg := hg; sq_go 12 rfl rfl rfl (q_fieldAddr ty24 rfl rfl (s' := 0) kQ) <| sq_go 12 rfl rfl rfl (q_ld_blk1 ty9 0 rfl rfl rfl rfl) <| sq_go 12 rfl rfl rfl (q_eqs (q := []) rfl rfl) <| sq_end) rfl rfl fun a w hF hS => ?_
 refine lQ hF hS (aQ rfl <| sq_end) fun a w hF hS => ?_
 refine wpList_nil (hK3 _ _ ?_)
 refine wp_if hF rfl (fun hc1 => ?_) (fun hc1 => ?_)
 ·(try simp only [bS] at hc1)
  refine regS hF hS (aQ rfl <| sq_end) fun a w hF hS => ?_
  refine wp_ret ?_
  exact fn_ret (rs := [.tmp 2]) rfl hF hS (vs := [_]) ⟨rfl, trivial⟩ zQ zQ (by rw [Lg.valid_1 hc1])
 ·(try simp only [bS] at hc1)
  refine reglS fun K5 hK5 => ?_
  refine lQ hF hS (q0 (q_fieldAddr ty24 rfl rfl (s' := 0) kQ) <| q0 (q_ld_blk1 ty9 0 rfl rfl rfl rfl) <| q0 (q_len_s ty9 rfl) <| q0 (q_gti rfl rfl) <| mQ rfl <| sq_end) fun a w hF hS => ?_
  refine wpl_or 4 22 4 hF hS rfl rfl rfl rfl rfl (fun hg => have hg := (by first | exact of_decide_eq_false hg | exact hg); sq_go 22 rfl rfl rfl (q_fieldAddr ty24 rfl rfl (s' := 0) kQ) <| sq_go 22 rfl rfl rfl (q_ld_blk1 ty9 0 rfl rfl rfl rfl) <| sq_go 22 rfl rfl rfl (q_len_s ty9 rfl) <| sq_go 22 rfl rfl rfl (q_gti rfl rfl) <| sq_end) rfl rfl fun a w hF hS => ?_
  refine lQ hF hS (aQ rfl <| sq_end) fun a w hF hS => ?_
  refine wpList_nil (hK5 _ _ ?_)
  refine wp_if hF rfl (fun hc2 => ?_) (fun hc2 => ?_)
  ·(try simp only [bS] at hc2)
   refine regS hF hS (aQ rfl <| sq_end) fun a w hF hS => ?_
   refine wp_ret ?_
   exact fn_ret (rs := [.tmp 2]) rfl hF hS (vs := [_]) ⟨rfl, trivial⟩ zQ zQ (by rw [Lg.valid_2 (Lg.vn1 hc1) (by omega)])
  ·(try simp only [bS] at hc2)
   refine wp_skip ?_
   refine hK2 _ _ ?_
   refine regS hF hS (aQ rfl <| sq_end) fun a w hF hS => ?_
   refine wp_ret ?_
   exact fn_ret (rs := [.tmp 2]) rfl hF hS (vs := [_]) ⟨rfl, trivial⟩ zQ zQ (by rw [Lg.valid_3 (Lg.vn1 hc1) (by omega)])
theorem samef_ct (v1 v2 : Value) (xa xb : List Lg.Fct) (w : World) (hb1 : Sl Go.Fw.encY (ph w) v1 xa) (hb2 : Sl Go.Fw.encY (ph w) v2 xb) : Ct Tryz.prog 32 [v1, v2] w (fun r _ _ => r = .bool (decide (xa = xb))) := by
 refine fn_enter Tryz.func32 rfl Tryz.ntmps32 (Nat.le_of_ble_eq_true rfl) fun a hF hS => ?_
 have hla := hb1.1
 have hlb := hb2.1
 refine regS hF hS (aQ rfl <| sq_end) fun a w hF hS => ?_
 refine k0 ?_; intro K2 hK2
 refine regS hF hS (mQ rfl <| q0 (q_len_sl ty26 hb1 rfl) <| mQ rfl <| q0 (q_len_sl ty26 hb2 rfl) <| q0 (q_nei rfl rfl) <| sq_end) fun a w hF hS => ?_
 refine wp_ifn hF rfl (fun hc1 => ?_) (fun hc1 => ?_)
 ·refine k0 ?_; intro K4 hK4
  refine reg hF hS (aQ rfl <| sq_end) fun a w hF hS => ?_
  refine hK4 _ _ ?_
  refine wp_ret ?_
  exact fn_ret (rs := [.tmp 4]) rfl hF hS (vs := [_]) ⟨rfl, trivial⟩ zQ zQ (Ls.same_len hc1)
 ·refine wp_skip ?_
  refine hK2 _ _ ?_
  refine k0 ?_; intro K5 hK5
  refine regS hF hS (aQ rfl <| sq_end) fun a w hF hS => ?_
  refine wp_block ?_
  obtain ⟨hs0, hhs0, hS⟩ := hS.oh
  refine wp_loopx (γ := Int) (0) (fun (i : Int) => [(5, vi i)]) [(0, _), (1, _)] (fun (i : Int) => hs0) (fun (i : Int) => 0 ≤ i ∧ i ≤ xa.length ∧ xa.take i.toNat = xb.take i.toNat) (fun (i : Int) => (xa.length - i).toNat) (hF.sub ⟨rfl, rfl, rfl, trivial⟩) (by subst hhs0; exact hS) (by exact ⟨Int.le_refl _, by omega, rfl⟩) ?_
  rintro i a w hfact hF hS
  subst hhs0; (try dsimp only at hfact hF hS)
  obtain ⟨hi0, hi1, htk⟩ := hfact
  replace hS : St _ [] [] _ := hS
  refine k0 ?_; intro K7 hK7
  refine regS hF hS (mQ rfl <| mQ rfl <| q0 (q_len_sl ty26 hb1 rfl) <| q0 (q_lti rfl rfl) <| sq_end) fun a w hF hS => ?_
  refine wp_ifd hF rfl (fun hc2 => ?_) (fun hc2 => ?_)
  ·have hi2 : i < xb.length := by omega
   refine wp_skip ?_
   refine hK7 _ _ ?_
   refine k0 ?_; intro K9 hK9
   refine wp_block ?_
   refine regdS mixed kQ hF hS (mQ rfl <| mQ rfl <| q0 (q_idx_sl ty26 ty24 hb1 rfl rfl (by omega)) <| q0 (q_ld_Y ty24 hb1 zin0 rfl rfl (by omega)) <| mQ rfl <| mQ rfl <| q0 (q_idx_sl ty26 ty24 hb2 rfl rfl (by omega)) <| q0 (q_ld_Y ty24 hb2 zin0 rfl rfl (by omega)) <| q0 (q_neFc ty24 ty3 ty9 ⟨rfl, rfl, by decide⟩ ⟨rfl, rfl, by decide⟩ ⟨rfl, rfl, by decide⟩ kQ kQ rfl rfl) <| sq_end) fun a w hF hS => ?_
   refine wp_ifn hF rfl (fun hc3 => ?_) (fun hc3 => ?_)
   ·refine k0 ?_; intro K11 hK11
    refine reg hF hS (aQ rfl <| sq_end) fun a w hF hS => ?_
    refine hK11 _ _ ?_
    refine wp_ret ?_
    exact fn_ret (rs := [.tmp 4]) rfl hF hS (vs := [_]) ⟨rfl, trivial⟩ zQ zQ (Ls.same_ne Lg.f0 hc3)
   ·refine wp_skip ?_
    refine hK9 _ _ ?_
    refine reg hF hS (mQ rfl <| pQ rfl rfl <| aQ rfl <| sq_end) fun a w hF hS => ?_
    refine ⟨(i + 1), ?_, ?_, hF.sub ⟨rfl, rfl, rfl, trivial⟩, ?_⟩
    ·(try dsimp only); omega
    ·refine ⟨by omega, by omega, Ls.same_step Lg.f0 hi0 (by omega) hc1 hc3 htk⟩
    ·exact hS
  ·refine wp_exit ?_
   refine hK5 _ _ ?_
   refine regS hF hS (aQ rfl <| sq_end) fun a w hF hS => ?_
   refine wp_ret ?_
   exact fn_ret (rs := [.tmp 4]) rfl hF hS (vs := [_]) ⟨rfl, trivial⟩ zQ zQ (Ls.same_eq hc1 hc2 htk)
theorem growB_ct (n : Nat) (hn : n ≤ 140737488355328) (w : World) : Ct Tryz.prog 97 [.slice none 0 0, vi (n : Int)] w (fun v zs hs => zs = [] ∧ hs = [.row v 5 1 0 []]) := grow_ctT lG ty5 rfl n hn w
theorem concatB_ct (v : Value) (xs : List (List UInt8)) (hl : xs.length ≤ 4) (hx : ∀ x ∈ xs, x.length ≤ 1099511627776) (w : World) (hb : Sl (encSl encB) (ph w) v xs) : Ct Tryz.prog 56 [v] w (fun v zs hs => zs = [] ∧ hs = [.row v 5 1 (xs.flatten).length ((xs.flatten).map vb)]) := by
 refine fn_enter Tryz.func56 rfl Tryz.ntmps56 (Nat.le_of_ble_eq_true rfl) fun a hF hS => ?_
 have hbl := hb.1
 have hcl := Lg.cat_len hx
 refine regS hF hS (aQ rfl <| sq_end) fun a w hF hS => ?_
 refine regS hF hS (aQ rfl <| sq_end) fun a w hF hS => ?_
 refine k0 ?_; intro K3 hK3
 refine regS hF hS (mQ rfl <| q0 (q_len_sl ty29 hb rfl) <| mQ rfl <| sq_end) fun a w hF hS => ?_
 refine wp_block ?_
 obtain ⟨hs0, hhs0, hS⟩ := hS.oh
 refine wp_loopx (γ := Nat) (0) (fun (k : Nat) => [(3, vi ((xs.take k).flatten.length : Int)), (11, vi (k : Int))]) [(0, _), (9, _), (10, _)] (fun (k : Nat) => hs0) (fun (k : Nat) => k ≤ xs.length) (fun (k : Nat) => xs.length - k) (hF.sub ⟨rfl, rfl, rfl, rfl, rfl, trivial⟩) (by subst hhs0; exact hS) (by exact Nat.zero_le _) ?_
 rintro k a w hfact hF hS
 subst hhs0; (try dsimp only at hfact hF hS)
 have hk0 := hfact
 replace hS : St _ [] [] _ := hS
 have hck := hcl k
 refine regS hF hS (q0 (q_lti rfl rfl) <| sq_end) fun a w hF hS => ?_
 refine k0 ?_; intro K6 hK6
 refine wp_ifd hF rfl (fun hc1 => ?_) (fun hc1 => ?_)
 ·have hsk : (List.take (k + 1) xs).flatten.length = (List.take k xs).flatten.length + (xs.getD (k : Int).toNat []).length := by rw [Int.toNat_natCast, Lg.cat_step (by omega), List.length_append]
  have hckk := hcl (k + 1)
  refine wp_skip ?_
  refine hK6 _ _ ?_
  refine k0 ?_; intro K7 hK7
  refine wp_block ?_
  refine regS hF hS (q0 (q_idx_sl ty29 ty25 hb rfl rfl (by omega)) <| q0 (q_ld_Sl ty25 hb zin0 rfl rfl (by omega)) <| aQ rfl <| sq_end) fun a w hF hS => ?_
  refine regS hF hS (mQ rfl <| mQ rfl <| q0 (q_len_sl ty25 (elemV_sl hb (by omega)) rfl) <| pQ rfl rfl <| aQ rfl <| sq_end) fun a w hF hS => ?_
  refine regS hF hS (mQ rfl <| q0 (q_lti rfl rfl) <| sq_end) fun a w hF hS => ?_
  refine wp_ifd hF rfl (fun hc2 => ?_) (fun hc2 => ?_)
  ·exfalso; omega
  ·refine wp_skip ?_
   refine hK7 _ _ ?_
   refine reg hF hS (pQ rfl rfl <| mQ rfl <| sq_end) fun a w hF hS => ?_
   refine ⟨(k + 1), ?_, ?_, hF.sub ⟨(by show some (vi _) = some (vi _); rw [Lg.cat_step (by omega), List.length_append, Int.toNat_natCast]; congr 2), rfl, rfl, rfl, rfl, trivial⟩, ?_⟩
   ·(try dsimp only); omega
   ·omega
   ·exact hS
 ·refine wp_exit ?_
  refine hK3 _ _ ?_
  refine reglS fun K11 hK11 => ?_
  refine lQ hF hS (mQ rfl <| sq_end) fun a w hF hS => ?_
  refine eQ hF hS rfl (ef_call fn97 rfl (fun w hS => growB_ct _ (by omega) w )) ?_
  rintro v1 _ _ a w ⟨_, _, rfl, rfl, rfl, rfl⟩ hF hS
  replace hS := nl0_1 hS
  refine lQ hF hS (aQ rfl <| sq_end) fun a w hF hS => ?_
  refine wpList_nil (hK11 _ _ ?_)
  refine k0 ?_; intro K12 hK12
  refine regS hF hS (mQ rfl <| q0 (q_len_sl ty29 hb rfl) <| mQ rfl <| sq_end) fun a w hF hS => ?_
  refine wp_block ?_
  obtain ⟨hs0, hhs0, hS⟩ := hS.oh
  refine wp_loopx (γ := Value × Nat) (v1, 0) (fun (u, j) => [(6, u), (27, vi (j : Int))]) [(25, _), (26, _)] (fun (u, j) => (hs0.set 0 (.row u 5 1 (xs.take j).flatten.length ((xs.take j).flatten.map vb)))) (fun (u, j) => j ≤ xs.length) (fun (u, j) => xs.length - j) (hF.sub ⟨rfl, rfl, rfl, rfl, trivial⟩) (by subst hhs0; exact hS) (by exact Nat.zero_le _) ?_
  rintro ⟨u, j⟩ a w hfact hF hS
  subst hhs0; (try dsimp only at hfact hF hS)
  have hj0 := hfact
  replace hS := nl0_1 hS
  have hcj := hcl j
  refine regS hF hS (q0 (q_lti rfl rfl) <| sq_end) fun a w hF hS => ?_
  refine k0 ?_; intro K15 hK15
  refine wp_ifd hF rfl (fun hc3 => ?_) (fun hc3 => ?_)
  ·have hsj : (List.take (j + 1) xs).flatten.length = (List.take j xs).flatten.length + (xs.getD (j : Int).toNat []).length := by rw [Int.toNat_natCast, Lg.cat_step (by omega), List.length_append]
   have hckj := hcl (j + 1)
   refine wp_skip ?_
   refine hK15 _ _ ?_
   refine k0 ?_; intro K16 hK16
   refine wp_block ?_
   refine regS hF hS (q0 (q_idx_sl ty29 ty25 hb rfl rfl (by omega)) <| q0 (q_ld_Sl ty25 hb zin0 rfl rfl (by omega)) <| aQ rfl <| sq_end) fun a w hF hS => ?_
   refine regl ?_
   refine lQ hF hS (mQ rfl <| mQ rfl <| sq_end) fun a w hF hS => ?_
   refine eQ hF hS rfl (ef_append ty25 ty5 0 rfl rfl rfl (src_slV ty25 (elemV_sl hb (by omega)) zin0) bQ rfl (by decide)) ?_
   rintro v3 _ _ a w ⟨rfl, rfl⟩ hF hS
   replace hS := nl0_1 hS
   refine lQ hF hS (aQ rfl <| sq_end) fun a w hF hS => ?_
   refine wpList_nil (hK16 _ _ ?_)
   refine reg hF hS (pQ rfl rfl <| mQ rfl <| sq_end) fun a w hF hS => ?_
   refine ⟨(v3, j + 1), ?_, ?_, hF.sub ⟨rfl, rfl, rfl, rfl, trivial⟩, ?_⟩
   ·(try dsimp only); omega
   ·omega
   ·rw [← List.map_append, ← List.length_append, Int.toNat_natCast, ← Lg.cat_step (by omega)] at hS
    exact hS
  ·refine wp_exit ?_
   refine hK12 _ _ ?_
   refine regS hF hS (mQ rfl <| aQ rfl <| sq_end) fun a w hF hS => ?_
   refine wp_ret ?_
   obtain rfl : j = xs.length := by omega
   rw [List.take_length] at hS
   exact fn_ret (rs := [.tmp 2]) rfl hF hS (vs := [_]) ⟨rfl, trivial⟩ zQ sQ ⟨rfl, rfl⟩
end
section
theorem ty107 : Tf Tryz.prog 107 (.pointer 9) 1 8 (Value.pointer none) := ⟨Tryz.underlying107, by kernel_rfl⟩
theorem ty108 : Tf Tryz.prog 108 (.slice 107) 1 24 (Value.slice none 0 0) := ⟨Tryz.underlying108, by kernel_rfl⟩
theorem fn13 : FnOk Tryz.prog 13 := fQ Tryz.func13
theorem fn56 : FnOk Tryz.prog 56 := fQ Tryz.func56
theorem fn60 : FnOk Tryz.prog 60 := fQ Tryz.func60
attribute [local irreducible] Wi.int Wi.bytes Wi.getInt Wi.getBytes
theorem enc_ct (f : Lg.Fct) (hf : Lg.FcOk f) (hs : f.ky.length ≤ 1048576 ∧ f.vl.length ≤ 1048576) (w : World) : Ct Tryz.prog 16 [.agg [vi f.tk, vs f.ky, vs f.vl].toArray] w (fun v zs hs => zs = [] ∧ hs = [.row v 5 1 (Lg.enc f).length ((Lg.enc f).map vb)]) := by
 refine fn_enter Tryz.func16 rfl Tryz.ntmps16 (Nat.le_of_ble_eq_true rfl) fun a hF hS => ?_
 have hf1 := hf.1
 have hil := Wi.int_len9 f.tk
 have hkl := Wi.bytes_len f.ky
 have hvl := Wi.bytes_len f.vl
 have hxl : ∀ x ∈ [Wi.int f.tk, Wi.bytes f.ky, Wi.bytes f.vl], x.length ≤ 1099511627776 := fun x hx => by
  simp only [List.mem_cons, List.not_mem_nil, or_false] at hx
  rcases hx with rfl | rfl | rfl <;> omega
 refine reglS fun K1 hK1 => ?_
 refine eQ hF hS rfl (ef_boxA rfl) ?_
 rintro _ _ _ a w ⟨b1, rfl, rfl, rfl⟩ hF hS
 refine lQ hF hS (aQ rfl <| sq_end) fun a w hF hS => ?_
 refine wpList_nil (hK1 _ _ ?_)
 refine k0 ?_; intro K2 hK2
 revert hS; revert hF; apply regJ (J := J5 (α0 := Value) (α1 := Value) (α2 := Value) (α3 := Value) (α4 := Value) 14 _ _ _ _ _) #[false, false, false, false, false, false, false, false, false, false, false, false] 12 mixed rfl rfl
 ·intro w hF hS
  refine tQ 0 rfl hF (hS.keep sQ zQ) (q_fieldAddr ty24 rfl rfl (s' := 0) kQ) fun a hF => ?_
  refine tQ 1 rfl hF (hS.keep sQ sQ) (q_ld_blk1 ty3 0 rfl rfl rfl rfl) fun a hF => ?_
  refine tQ 3 rfl hF (hS.keep sQ zQ) (q_fieldAddr ty24 rfl rfl (s' := 0) kQ) fun a hF => ?_
  refine tQ 4 rfl hF (hS.keep sQ sQ) (q_ld_blk1 ty9 0 rfl rfl rfl rfl) fun a hF => ?_
  refine tQ 6 rfl hF (hS.keep sQ zQ) (q_fieldAddr ty24 rfl rfl (s' := 0) kQ) fun a hF => ?_
  refine tQ 7 rfl hF (hS.keep sQ sQ) (q_ld_blk1 ty9 0 rfl rfl rfl rfl) fun a hF => ?_
  refine gQ 2 rfl rfl hF hS rfl (ef_call fn57 rfl (fun w hS => wint_ct _ w )) ?_
  rintro v_1_2 _ _ a w ⟨_, _, rfl, rfl, rfl, rfl⟩ hF hS
  refine ⟨⟨.inr (hS.k1 (sQ.n)), .inr hS.k0, .inr (hS.k1 (sQ.n)), .inr hS.k0, iQ, iQ, trivial⟩, ?_⟩
  refine gQ 5 rfl rfl hF hS rfl (ef_call fn58 rfl (fun w hS => wbytes_ct _ (by first | assumption | omega) w )) ?_
  rintro v_1_5 _ _ a w ⟨_, _, rfl, rfl, rfl, rfl⟩ hF hS
  refine ⟨⟨.inr (hS.k1 (sQ.n.n)), .inr hS.k0, iQ, iQ, iQ, iQ, trivial⟩, ?_⟩
  refine gQ 8 rfl rfl hF hS rfl (ef_call fn58 rfl (fun w hS => wbytes_ct _ (by first | assumption | omega) w )) ?_
  rintro v_1_8 _ _ a w ⟨_, _, rfl, rfl, rfl, rfl⟩ hF hS
  refine ⟨⟨iQ, iQ, iQ, iQ, iQ, iQ, trivial⟩, ?_⟩
  refine goW_fork [9] kQ rfl ⟨?_, trivial⟩
  have hoc_1_9 := (oc_cons (row_one (hS.own _ (List.mem_of_getElem? (i := 2) rfl)).1) (oc_cons (row_one (hS.own _ (List.mem_of_getElem? (i := 1) rfl)).1) (oc_cons (row_one (hS.own _ (List.mem_of_getElem? (i := 0) rfl)).1) oc_nil)))
  refine stepW_ef _ rfl rfl hF hS rfl (ef_bsliceA ty29 ty25 rfl rfl (oc_cons (row_one (hS.own _ (List.mem_of_getElem? (i := 2) rfl)).1) (oc_cons (row_one (hS.own _ (List.mem_of_getElem? (i := 1) rfl)).1) (oc_cons (row_one (hS.own _ (List.mem_of_getElem? (i := 0) rfl)).1) oc_nil))) (by decide) rfl rfl) ?_
  rintro v_1_9 _ _ a w ⟨rfl, rfl⟩ hF hS
  refine ⟨⟨iQ, iQ, iQ, iQ, iQ, iQ, trivial⟩, ?_⟩
  refine gQ 10 rfl rfl hF hS rfl (ef_call fn56 rfl (fun w hS => concatB_ct _ [Wi.int f.tk, Wi.bytes f.ky, Wi.bytes f.vl] (by simp) hxl w (own_slsl3 (hS.own _ (List.mem_of_getElem? (i := 0) rfl)).1 (own_slV (hS.own _ (List.mem_of_getElem? (i := 3) rfl)).1 (fun _ _ => trivial) rfl (by omega)) (own_slV (hS.own _ (List.mem_of_getElem? (i := 2) rfl)).1 (fun _ _ => trivial) rfl (by omega)) (own_slV (hS.own _ (List.mem_of_getElem? (i := 1) rfl)).1 (fun _ _ => trivial) rfl (by omega))))) ?_
  rintro v_1_10 _ _ a w ⟨_, _, rfl, rfl, rfl, rfl⟩ hF hS
  refine ⟨⟨iQ, iQ, iQ, iQ, iQ, iQ, trivial⟩, ?_⟩
  refine tQ 11 rfl hF (hS.keep sQ zQ) (q_assign rfl) fun a hF => ?_
  exact goW_done kQ (j5_mk v_1_2 v_1_5 v_1_8 v_1_9 v_1_10 (trivial) (hF.sub (L' := [(2, _)]) ⟨rfl, trivial⟩) hS)
 rintro a w ⟨v_1_2, v_1_5, v_1_8, v_1_9, v_1_10, -, hF, hS⟩
 (try dsimp only at hF hS)
 refine hK2 _ _ ?_
 refine wp_ret ?_
 rw [Lg.enc_cat] at hS
 exact fn_ret (rs := [.tmp 2]) rfl hF hS (vs := [_]) ⟨rfl, trivial⟩ zQ ((zQ.k)) ⟨rfl, rfl⟩
theorem dec_ct (v : Value) (xs : List UInt8) (w : World) (hb : Sl encB (ph w) v xs) : Ct Tryz.prog 18 [v] w (fun r _ _ => r = .tuple [.agg [vi (Lg.dec xs).1.tk, vs (Lg.dec xs).1.ky, vs (Lg.dec xs).1.vl].toArray, vi (Lg.dec xs).2].toArray) := by
 refine fn_enter Tryz.func18 rfl Tryz.ntmps18 (Nat.le_of_ble_eq_true rfl) fun a hF hS => ?_
 have hbl := hb.1
 have hgb := Wi.getInt_bd xs
 have hok := Lg.dx_ok hbl
 refine reglS fun K1 hK1 => ?_
 refine eQ hF hS rfl (ef_allocA ty24) ?_
 rintro _ _ _ a w ⟨b1, rfl, rfl, rfl⟩ hF hS
 refine lQ hF hS (aQ rfl <| sq_end) fun a w hF hS => ?_
 refine wpList_nil (hK1 _ _ ?_)
 refine regS hF hS (mQ rfl <| q0 (q_call fn59 rfl (fun w hS => wgi_ct _ _ w (Sl.mono (hS.le zin0) hb)) (fun _ _ _ h => h)) <| mQ rfl <| q0 (q_extract rfl rfl) <| q0 (q_extract rfl rfl) <| q0 (q_extract rfl rfl) <| aQ rfl <| aQ rfl <| aQ rfl <| sq_end) fun a w hF hS => ?_
 refine k0 ?_; intro K3 hK3
 refine regS hF hS (mQ rfl <| q0 (q_nei rfl rfl) <| sq_end) fun a w hF hS => ?_
 refine wp_ifn hF rfl (fun hc1 => ?_) (fun hc1 => ?_)
 ·refine k0 ?_; intro K5 hK5
  refine regl ?_
  refine lQ hF hS (q0 (q_buildP (places := [(0, 1), (1, 1), (2, 1)]) (cells := [.int .i64 0, .string ⟨(List.nil : List UInt8).toArray⟩, .string ⟨(List.nil : List UInt8).toArray⟩]) ty24 kQ rfl (by rfl)) <| mQ rfl <| sq_end) fun a w hF hS => ?_
  refine eQ hF hS rfl (ef_storeW ty24 0 rfl rfl rfl rfl bQ (oc_cons rfl (oc_cons rfl (oc_cons rfl oc_nil))) bQ) ?_
  rintro _ _ _ a w ⟨rfl, rfl, rfl⟩ hF hS
  replace hS := nl0_1 hS
  refine lQ hF hS (aQ rfl <| sq_end) fun a w hF hS => ?_
  refine wpList_nil (hK5 _ _ ?_)
  refine wp_ret ?_
  exact fn_ret (rs := [.cell 2 24, .tmp 3]) rfl hF hS (vs := [_, _]) ⟨⟨_, _, _, _, _, _, _, rfl, List.mem_of_getElem? (i := 0) rfl, ty24, .inl ⟨rfl, bQ, rfl⟩⟩, rfl, trivial⟩ zQ zQ (by rw [Lg.dec_1 hc1]; rfl)
 ·refine wp_skip ?_
  refine hK3 _ _ ?_
  refine reglS fun K6 hK6 => ?_
  refine lQ hF hS (mQ rfl <| q0 (q_build1 ty24 3 kQ rfl rfl rfl (by decide)) <| sq_end) fun a w hF hS => ?_
  refine eQ hF hS rfl (ef_allocA ty24) ?_
  rintro _ _ _ a w ⟨b2, rfl, rfl, rfl⟩ hF hS
  refine eQ hF hS rfl (ef_storeW ty24 0 rfl rfl rfl rfl bQ (oc_cons rfl (oc_cons rfl (oc_cons rfl oc_nil))) bQ) ?_
  rintro _ _ _ a w ⟨rfl, rfl, rfl⟩ hF hS
  replace hS := nl0_2 hS
  refine wpList_nil (hK6 _ _ ?_)
  refine k0 ?_; intro K7 hK7
  refine reglS fun K8 hK8 => ?_
  refine lQ hF hS (q0 (q_fieldAddr ty24 rfl rfl (s' := 0) kQ) <| q0 (q_fieldAddr ty24 rfl rfl (s' := 0) kQ) <| sq_end) fun a w hF hS => ?_
  refine eQ hF hS rfl (ef_bsliceA ty108 ty107 rfl rfl oQ (by decide) rfl rfl) ?_
  rintro v3 _ _ a w ⟨rfl, rfl⟩ hF hS
  replace hS := nl0_3 hS
  refine lQ hF hS (q0 (q_len_row ty108 0 rfl rfl) <| mQ rfl <| sq_end) fun a w hF hS => ?_
  refine wpList_nil (hK8 _ _ ?_)
  refine wp_block ?_
  obtain ⟨hs0, hhs0, hS⟩ := hS.oh
  refine wp_loopx (γ := Nat) (0) (fun (k : Nat) => [(5, vi (Lg.at_ xs k)), (29, vi (k : Int))]) [(0, _), (2, _), (7, _), (27, _), (28, _)] (fun (k : Nat) => (hs0.set 1 (.blk b2 24 [vi (Lg.fk xs k).tk, vs (Lg.fk xs k).ky, vs (Lg.fk xs k).vl]))) (fun (k : Nat) => k ≤ 2 ∧ (0 < k → (Lg.d1 xs).2.2 = 0) ∧ (1 < k → (Lg.d2 xs).2.2 = 0)) (fun (k : Nat) => 2 - k) (hF.sub ⟨rfl, rfl, rfl, rfl, rfl, rfl, rfl, trivial⟩) (by subst hhs0; exact hS) (by exact ⟨Nat.zero_le _, fun h => absurd h (by omega), fun h => absurd h (by omega)⟩) ?_
  rintro k a w hfact hF hS
  subst hhs0; (try dsimp only at hfact hF hS)
  obtain ⟨hk0, hd1, hd2⟩ := hfact
  replace hS := nl0_3 hS
  have hab := Lg.at_bd hd1 hd2
  refine regS hF hS (q0 (q_lti rfl rfl) <| sq_end) fun a w hF hS => ?_
  refine k0 ?_; intro K10 hK10
  refine wp_ifd hF rfl (fun hc2 => ?_) (fun hc2 => ?_)
  ·refine wp_skip ?_
   refine hK10 _ _ ?_
   refine k0 ?_; intro K11 hK11
   refine wp_block ?_
   refine k0 ?_; intro K12 hK12
   rcases (show k = 0 ∨ k = 1 by omega) with rfl | rfl
   ·skip
    refine reg hF hS (q0 (q_idx_row ty108 ty107 0 rfl rfl rfl (by omega)) <| q0 (q_ld_row ty107 0 rfl rfl rfl rfl) <| aQ rfl <| sq_end) fun a w hF hS => ?_
    refine hK12 _ _ ?_
    refine k0 ?_; intro K13 hK13
    refine reg hF hS (mQ rfl <| mQ rfl <| q0 (q_slsl_lo ty25 ty5 hb rfl rfl (by omega)) <| q0 (q_call fn60 rfl (fun w hS => wgb_ct _ _ w (Sl.mono (hS.le zin0) (Sl.cut hb (by omega)))) (fun _ _ _ h => h)) <| mQ rfl <| q0 (q_extract rfl rfl) <| q0 (q_extract rfl rfl) <| q0 (q_extract rfl rfl) <| aQ rfl <| aQ rfl <| aQ rfl <| sq_end) fun a w hF hS => ?_
    rw [List.take_length] at hF
    refine hK13 _ _ ?_
    refine k0 ?_; intro K14 hK14
    refine regS hF hS (mQ rfl <| q0 (q_nei rfl rfl) <| sq_end) fun a w hF hS => ?_
    refine wp_ifn hF rfl (fun hc3 => ?_) (fun hc3 => ?_)
    ·refine k0 ?_; intro K16 hK16
     refine regl ?_
     refine lQ hF hS (q0 (q_buildP (places := [(0, 1), (1, 1), (2, 1)]) (cells := [.int .i64 0, .string ⟨(List.nil : List UInt8).toArray⟩, .string ⟨(List.nil : List UInt8).toArray⟩]) ty24 kQ rfl (by rfl)) <| mQ rfl <| sq_end) fun a w hF hS => ?_
     refine eQ hF hS rfl (ef_storeW ty24 2 rfl rfl rfl rfl bQ (oc_cons rfl (oc_cons rfl (oc_cons rfl oc_nil))) bQ) ?_
     rintro _ _ _ a w ⟨rfl, rfl, rfl⟩ hF hS
     replace hS := nl0_3 hS
     refine lQ hF hS (aQ rfl <| sq_end) fun a w hF hS => ?_
     refine wpList_nil (hK16 _ _ ?_)
     refine wp_ret ?_
     exact fn_ret (rs := [.cell 2 24, .tmp 3]) rfl hF hS (vs := [_, _]) ⟨⟨_, _, _, _, _, _, _, rfl, List.mem_of_getElem? (i := 2) rfl, ty24, .inl ⟨rfl, bQ, rfl⟩⟩, rfl, trivial⟩ zQ zQ (by rw [Lg.dec_2 (by omega) hc3]; rfl)
    ·have hp1 := Lg.at_n0 (b := xs) hc3
     refine wp_skip ?_
     refine hK14 _ _ ?_
     refine regl ?_
     refine lQ hF hS (mQ rfl <| mQ rfl <| mQ rfl <| mQ rfl <| pQ rfl rfl <| q0 (q_nilCheck rfl) <| sq_end) fun a w hF hS => ?_
     refine eQ hF hS rfl (ef_store1 ty9 1 rfl rfl rfl rfl (by simp)) ?_
     rintro _ _ _ a w ⟨rfl, rfl, rfl⟩ hF hS
     replace hS : St _ [] [_, .blk _ _ ([_, _, _].set 1 _), _] _ := hS
     simp only [List.set_cons_zero, List.set_cons_succ] at hS
     replace hS := nl0_3 hS
     refine lQ hF hS (aQ rfl <| sq_end) fun a w hF hS => ?_
     refine wpList_nil (hK11 _ _ ?_)
     refine reg hF hS (pQ rfl rfl <| mQ rfl <| sq_end) fun a w hF hS => ?_
     refine ⟨(1), ?_, ?_, hF.sub ⟨rfl, rfl, rfl, rfl, rfl, rfl, rfl, trivial⟩, ?_⟩
     ·(try dsimp only); omega
     ·first | exact ⟨by omega, fun _ => hc3, fun h => absurd h (by omega)⟩ | exact ⟨by omega, fun _ => hd1 (by omega), fun _ => hc4⟩
     ·exact hS
   ·skip
    refine reg hF hS (q0 (q_idx_row ty108 ty107 0 rfl rfl rfl (by omega)) <| q0 (q_ld_row ty107 0 rfl rfl rfl rfl) <| aQ rfl <| sq_end) fun a w hF hS => ?_
    refine hK12 _ _ ?_
    refine k0 ?_; intro K17 hK17
    refine reg hF hS (mQ rfl <| mQ rfl <| q0 (q_slsl_lo ty25 ty5 hb rfl rfl (by omega)) <| q0 (q_call fn60 rfl (fun w hS => wgb_ct _ _ w (Sl.mono (hS.le zin0) (Sl.cut hb (by omega)))) (fun _ _ _ h => h)) <| mQ rfl <| q0 (q_extract rfl rfl) <| q0 (q_extract rfl rfl) <| q0 (q_extract rfl rfl) <| aQ rfl <| aQ rfl <| aQ rfl <| sq_end) fun a w hF hS => ?_
    rw [List.take_length] at hF
    refine hK17 _ _ ?_
    refine k0 ?_; intro K18 hK18
    refine regS hF hS (mQ rfl <| q0 (q_nei rfl rfl) <| sq_end) fun a w hF hS => ?_
    refine wp_ifn hF rfl (fun hc4 => ?_) (fun hc4 => ?_)
    ·refine k0 ?_; intro K20 hK20
     refine regl ?_
     refine lQ hF hS (q0 (q_buildP (places := [(0, 1), (1, 1), (2, 1)]) (cells := [.int .i64 0, .string ⟨(List.nil : List UInt8).toArray⟩, .string ⟨(List.nil : List UInt8).toArray⟩]) ty24 kQ rfl (by rfl)) <| mQ rfl <| sq_end) fun a w hF hS => ?_
     refine eQ hF hS rfl (ef_storeW ty24 2 rfl rfl rfl rfl bQ (oc_cons rfl (oc_cons rfl (oc_cons rfl oc_nil))) bQ) ?_
     rintro _ _ _ a w ⟨rfl, rfl, rfl⟩ hF hS
     replace hS := nl0_3 hS
     refine lQ hF hS (aQ rfl <| sq_end) fun a w hF hS => ?_
     refine wpList_nil (hK20 _ _ ?_)
     refine wp_ret ?_
     exact fn_ret (rs := [.cell 2 24, .tmp 3]) rfl hF hS (vs := [_, _]) ⟨⟨_, _, _, _, _, _, _, rfl, List.mem_of_getElem? (i := 2) rfl, ty24, .inl ⟨rfl, bQ, rfl⟩⟩, rfl, trivial⟩ zQ zQ (by rw [Lg.dec_3 (by omega) (hd1 (by omega)) hc4]; rfl)
    ·have hp2 := Lg.at_n1 (b := xs) (hd1 (by omega)) hc4
     refine wp_skip ?_
     refine hK18 _ _ ?_
     refine regl ?_
     refine lQ hF hS (mQ rfl <| mQ rfl <| mQ rfl <| mQ rfl <| pQ rfl rfl <| q0 (q_nilCheck rfl) <| sq_end) fun a w hF hS => ?_
     refine eQ hF hS rfl (ef_store1 ty9 1 rfl rfl rfl rfl (by simp)) ?_
     rintro _ _ _ a w ⟨rfl, rfl, rfl⟩ hF hS
     replace hS : St _ [] [_, .blk _ _ ([_, _, _].set 2 _), _] _ := hS
     simp only [List.set_cons_zero, List.set_cons_succ] at hS
     replace hS := nl0_3 hS
     refine lQ hF hS (aQ rfl <| sq_end) fun a w hF hS => ?_
     refine wpList_nil (hK11 _ _ ?_)
     refine reg hF hS (pQ rfl rfl <| mQ rfl <| sq_end) fun a w hF hS => ?_
     refine ⟨(2), ?_, ?_, hF.sub ⟨rfl, rfl, rfl, rfl, rfl, rfl, rfl, trivial⟩, ?_⟩
     ·(try dsimp only); omega
     ·first | exact ⟨by omega, fun _ => hc3, fun h => absurd h (by omega)⟩ | exact ⟨by omega, fun _ => hd1 (by omega), fun _ => hc4⟩
     ·exact hS
  ·obtain rfl : k = 2 := by omega
   have hab2 : Lg.at_ xs 2 = (Wi.getInt xs).2.1 + (Lg.d1 xs).2.1 + (Lg.d2 xs).2.1 := rfl
   refine wp_exit ?_
   refine hK7 _ _ ?_
   refine k0 ?_; intro K21 hK21
   refine reglS fun K22 hK22 => ?_
   refine lQ hF hS (mQ rfl <| mQ rfl <| q0 (q_len_sl ty25 hb rfl) <| q0 (q_nei rfl rfl) <| mQ rfl <| sq_end) fun a w hF hS => ?_
   refine wpl_or 4 56 3 hF hS rfl rfl rfl rfl rfl (fun hg => have hg := (nd_false hg); sq_go 56 rfl rfl rfl (q_ld_blkW ty24 1 rfl rfl bQ rfl) <| sq_go 56 rfl rfl rfl (q_call fn13 rfl (fun w hS => fval_ct (Lg.fk xs 2) hok w ) (fun _ _ _ h => h)) <| sq_go 56 rfl rfl rfl (q_nei rfl rfl) <| sq_end) rfl rfl fun a w hF hS => ?_
   refine wpList_nil (hK22 _ _ ?_)
   refine wp_if hF rfl (fun hc5 => ?_) (fun hc5 => ?_)
   ·(try simp only [bS] at hc5)
    refine reglS fun K23 hK23 => ?_
    refine lQ hF hS (q0 (q_buildP (places := [(0, 1), (1, 1), (2, 1)]) (cells := [.int .i64 0, .string ⟨(List.nil : List UInt8).toArray⟩, .string ⟨(List.nil : List UInt8).toArray⟩]) ty24 kQ rfl (by rfl)) <| sq_end) fun a w hF hS => ?_
    refine eQ hF hS rfl (ef_storeW ty24 2 rfl rfl rfl rfl bQ (oc_cons rfl (oc_cons rfl (oc_cons rfl oc_nil))) bQ) ?_
    rintro _ _ _ a w ⟨rfl, rfl, rfl⟩ hF hS
    replace hS := nl0_3 hS
    refine lQ hF hS (aQ rfl <| sq_end) fun a w hF hS => ?_
    refine wpList_nil (hK23 _ _ ?_)
    refine wp_ret ?_
    exact fn_ret (rs := [.cell 2 24, .tmp 3]) rfl hF hS (vs := [_, _]) ⟨⟨_, _, _, _, _, _, _, rfl, List.mem_of_getElem? (i := 2) rfl, ty24, .inl ⟨rfl, bQ, rfl⟩⟩, rfl, trivial⟩ zQ zQ (by rw [Lg.dec_4 (by omega) (hd1 (by omega)) (hd2 (by omega)) (by rcases hc5 with h | h; exact .inl (by omega); exact .inr h)]; rfl)
   ·(try simp only [bS] at hc5)
    refine wp_skip ?_
    refine hK21 _ _ ?_
    refine reglS fun K24 hK24 => ?_
    refine lQ hF hS (q0 (q_ld_blkW ty24 1 rfl rfl bQ rfl) <| sq_end) fun a w hF hS => ?_
    refine eQ hF hS rfl (ef_storeW ty24 2 rfl rfl rfl rfl bQ (oc_cons rfl (oc_cons rfl (oc_cons rfl oc_nil))) bQ) ?_
    rintro _ _ _ a w ⟨rfl, rfl, rfl⟩ hF hS
    replace hS := nl0_3 hS
    refine lQ hF hS (aQ rfl <| sq_end) fun a w hF hS => ?_
    refine wpList_nil (hK24 _ _ ?_)
    refine wp_ret ?_
    exact fn_ret (rs := [.cell 2 24, .tmp 3]) rfl hF hS (vs := [_, _]) ⟨⟨_, _, _, _, _, _, _, rfl, List.mem_of_getElem? (i := 2) rfl, ty24, .inl ⟨rfl, bQ, rfl⟩⟩, rfl, trivial⟩ zQ zQ (by rw [Lg.dec_5 (by omega) (hd1 (by omega)) (hd2 (by omega)) (fun h => by rcases h with h | h; exact h hc5.1; exact h hc5.2)]; rfl)
end
section
theorem ty45 : Tf Tryz.prog 45 (.pointer 119) 1 8 (Value.pointer none) := ⟨Tryz.underlying45, by kernel_rfl⟩
theorem ty119 : Tf Tryz.prog 119 (.struct #[⟨ "journal", 97, 0, false, "", "culprit/ledger", 0⟩, ⟨ "facts", 26, 1, false, "", "culprit/ledger", 8⟩]) 2 32 (.agg ([Value.pointer none] ++ [Value.slice none 0 0]).toArray) := ⟨Tryz.underlying119, by kernel_rfl⟩
theorem ty135 : Tf Tryz.prog 135 (.map 9 9) 1 8 (Value.map none) := ⟨Tryz.underlying135, by kernel_rfl⟩
theorem fn65 : FnOk Tryz.prog 65 := fQ Tryz.func65
theorem fn73 : FnOk Tryz.prog 73 := fQ Tryz.func73
theorem fn111 : FnOk Tryz.prog 111 := fQ Tryz.func111
theorem fn112 : FnOk Tryz.prog 112 := fQ Tryz.func112
theorem clock_ct (b : Nat) (pj v : Value) (l : List Lg.Fct) (w : World) {bt : TypeId} {fz : Nat × Nat} (hl : w.heap[b]? = some (.cells [pj, v].toArray bt fz)) (hb : Sl Go.Fw.encY (ph w) v l) : Ct Tryz.prog 33 [.pointer (some ⟨b, 0, none⟩)] w (fun r _ _ => r = vi (Lg.clock l)) := by
 refine fn_enter Tryz.func33 rfl Tryz.ntmps33 (Nat.le_of_ble_eq_true rfl) fun a hF hS => ?_
 have hbl := hb.1
 refine regS hF hS (aQ rfl <| sq_end) fun a w hF hS => ?_
 refine k0 ?_; intro K2 hK2
 refine regS hF hS (mQ rfl <| q0 (q_eqpn_f ty45 rfl rfl) <| mQ rfl <| sq_go 5 rfl rfl rfl (q_move rfl) <| sq_go 5 rfl rfl rfl (q_nilCheck rfl) <| sq_go 5 rfl rfl rfl (q_fieldAddr ty119 rfl rfl (s' := 0) kQ) <| sq_go 5 rfl rfl rfl (q_ld_old1 ty26 rfl hl rfl rfl) <| sq_go 5 rfl rfl rfl (q_len_sl ty26 hb rfl) <| sq_go 5 rfl rfl rfl (q_eqi rfl rfl) <| q0 (q_pick_f rfl rfl) <| sq_end) fun a w hF hS => ?_
 refine wp_ifd hF rfl (fun hc1 => ?_) (fun hc1 => ?_)
 ·refine k0 ?_; intro K4 hK4
  refine reg hF hS (aQ rfl <| sq_end) fun a w hF hS => ?_
  refine hK4 _ _ ?_
  refine wp_ret ?_
  exact fn_ret (rs := [.tmp 2]) rfl hF hS (vs := [_]) ⟨rfl, trivial⟩ zQ zQ (by rw [Lg.clock_0 hc1])
 ·refine wp_skip ?_
  refine hK2 _ _ ?_
  refine regdS mixed kQ hF hS (mQ rfl <| q0 (q_nilCheck rfl) <| q0 (q_fieldAddr ty119 rfl rfl (s' := 0) kQ) <| q0 (q_ld_old1 ty26 rfl hl rfl rfl) <| mQ rfl <| q0 (q_nilCheck rfl) <| q0 (q_fieldAddr ty119 rfl rfl (s' := 0) kQ) <| q0 (q_ld_old1 ty26 rfl hl rfl rfl) <| q0 (q_len_sl ty26 hb rfl) <| dQ rfl rfl <| q0 (q_idx_sl ty26 ty24 hb rfl rfl (by omega)) <| q0 (q_fld_Y ty24 hb rfl (by omega) rfl (s' := 0) kQ) <| q0 (q_ld_Y0 ty3 hb zin0 rfl rfl (by omega)) <| aQ rfl <| sq_end) fun a w hF hS => ?_
  refine wp_ret ?_
  exact fn_ret (rs := [.tmp 2]) rfl hF hS (vs := [_]) ⟨rfl, trivial⟩ zQ zQ (by rw [Lg.clock_1 hc1])
theorem search_ct (n m : Nat) (fv : Value) (q : Int → Prop) (p : Int → Bool) (hn : n ≤ 1048576) (hm : m ≤ n) (hq : ∀ i : Int, 0 ≤ i → i < n → q i) (hp : ∀ k : Int, 0 ≤ k → k < n → p k = decide ((m : Int) ≤ k)) (w : World) (hf : Fn1 Tryz.prog w fv q p) : Ct Tryz.prog 111 [vi (n : Int), fv] w (fun r _ _ => r = vi (m : Int)) := by
 refine fn_enter Tryz.func111 rfl Tryz.ntmps111 (Nat.le_of_ble_eq_true rfl) fun a hF hS => ?_
 refine regS hF hS (aQ rfl <| sq_end) fun a w hF hS => ?_
 refine regS hF hS (mQ rfl <| aQ rfl <| aQ rfl <| sq_end) fun a w hF hS => ?_
 refine k0 ?_; intro K3 hK3
 refine wp_block ?_
 obtain ⟨hs0, hhs0, hS⟩ := hS.oh
 refine wp_loopx (γ := Int × Int) (0, n) (fun (i, j) => [(5, vi i), (6, vi j)]) [(1, _)] (fun (i, j) => hs0) (fun (i, j) => 0 ≤ i ∧ i ≤ m ∧ m ≤ j ∧ j ≤ n) (fun (i, j) => (j - i).toNat) (hF.sub ⟨rfl, rfl, rfl, trivial⟩) (by subst hhs0; exact hS) (by omega) ?_
 rintro ⟨i, j⟩ a w hfact hF hS
 subst hhs0; (try dsimp only at hfact hF hS)
 obtain ⟨hi0, him, hmj, hjn⟩ := hfact
 replace hS : St _ [] [] _ := hS
 refine k0 ?_; intro K4 hK4
 refine regS hF hS (mQ rfl <| mQ rfl <| q0 (q_lti rfl rfl) <| sq_end) fun a w hF hS => ?_
 refine wp_ifd hF rfl (fun hc1 => ?_) (fun hc1 => ?_)
 ·refine wp_skip ?_
  refine hK4 _ _ ?_
  refine wp_block ?_
  refine k0 ?_; intro K6 hK6
  refine reg hF hS (mQ rfl <| mQ rfl <| pQ rfl rfl <| q0 (q_cv_iq ty3 ty113 rfl) <| q0 (q_shrq rfl rfl (by omega)) <| q0 (q_cv_qi ty113 ty3 rfl) <| aQ rfl <| sq_end) fun a w hF hS => ?_
  rw [Mk.mid_eq (by omega) (by omega)] at hF
  refine hK6 _ _ ?_
  refine regS hF hS (mQ rfl <| mQ rfl <| q0 (q_fn1 hf rfl rfl (hq _ (by omega) (by omega))) <| q0 (q_not rfl) <| sq_end) fun a w hF hS => ?_
  refine wp_if hF rfl (fun hc2 => ?_) (fun hc2 => ?_)
  ·refine reg hF hS (mQ rfl <| pQ rfl rfl <| aQ rfl <| sq_end) fun a w hF hS => ?_
   refine ⟨((i + j) / 2 + 1, j), ?_, ?_, hF.sub ⟨rfl, rfl, rfl, trivial⟩, ?_⟩
   ·(try dsimp only); omega
   ·have hp9 := hp ((i + j) / 2) (by omega) (by omega)
    rw [show p ((i + j) / 2) = false by simpa using hc2] at hp9
    have hp8 := of_decide_eq_false hp9.symm
    omega
   ·exact hS
  ·refine reg hF hS (mQ rfl <| aQ rfl <| sq_end) fun a w hF hS => ?_
   refine ⟨(i, (i + j) / 2), ?_, ?_, hF.sub ⟨rfl, rfl, rfl, trivial⟩, ?_⟩
   ·(try dsimp only); omega
   ·have hp9 := hp ((i + j) / 2) (by omega) (by omega)
    rw [show p ((i + j) / 2) = true by simpa using hc2] at hp9
    have hp8 := of_decide_eq_true hp9.symm
    omega
   ·exact hS
 ·refine wp_exit ?_
  refine hK3 _ _ ?_
  refine regS hF hS (mQ rfl <| aQ rfl <| sq_end) fun a w hF hS => ?_
  refine wp_ret ?_
  exact fn_ret (rs := [.tmp 4]) rfl hF hS (vs := [_]) ⟨rfl, trivial⟩ zQ zQ (by rw [show i = (m : Int) by omega])
theorem until1_ct (b : Nat) (pj v : Value) (l : List Lg.Fct) (e1 e2 : Nat) (tick i : Int) {bte1 bte2 : TypeId} {fze1 fze2 : Nat × Nat} (hi : 0 ≤ i ∧ i < l.length) (w : World) (hb1 : w.heap[e1]? = some (.cells [Value.pointer (some ⟨b, 0, none⟩)].toArray bte1 fze1)) {bt : TypeId} {fz : Nat × Nat} (hl : w.heap[b]? = some (.cells [pj, v].toArray bt fz)) (hb : Sl Go.Fw.encY (ph w) v l) (hb2 : w.heap[e2]? = some (.cells [vi tick].toArray bte2 fze2)) : Ct Tryz.prog 112 [vi i, .pointer (some ⟨e1, 0, none⟩), .pointer (some ⟨e2, 0, none⟩)] w (fun r _ _ => r = .bool (decide (tick < (l.getD i.toNat Lg.f0).tk))) := by
 refine fn_enter Tryz.func112 rfl Tryz.ntmps112 (Nat.le_of_ble_eq_true rfl) fun a hF hS => ?_
 have hbl := hb.1
 refine regS hF hS (aQ rfl <| sq_end) fun a w hF hS => ?_
 refine regdS mixed kQ hF hS (q0 (q_ld_old1 ty45 rfl hb1 rfl rfl) <| q0 (q_nilCheck rfl) <| q0 (q_fieldAddr ty119 rfl rfl (s' := 0) kQ) <| q0 (q_ld_old1 ty26 rfl hl rfl rfl) <| mQ rfl <| q0 (q_idx_sl ty26 ty24 hb rfl rfl (by omega)) <| q0 (q_fld_Y ty24 hb rfl (by omega) rfl (s' := 0) kQ) <| q0 (q_ld_Y0 ty3 hb zin0 rfl rfl (by omega)) <| q0 (q_ld_old1 ty3 rfl hb2 rfl rfl) <| q0 (q_gti rfl rfl) <| aQ rfl <| sq_end) fun a w hF hS => ?_
 refine wp_ret ?_
 exact fn_ret (rs := [.tmp 4]) rfl hF hS (vs := [_]) ⟨rfl, trivial⟩ zQ zQ (rfl)
theorem until_ct (b : Nat) (pj v : Value) (l : List Lg.Fct) (tick : Int) (hG : l.Pairwise (fun f g => f.tk ≤ g.tk)) (hl9 : l.length ≤ 1048576) (w : World) {bt : TypeId} {fz : Nat × Nat} (hl : w.heap[b]? = some (.cells [pj, v].toArray bt fz)) (hb : Sl Go.Fw.encY (ph w) v l) : Ct Tryz.prog 73 [.pointer (some ⟨b, 0, none⟩), vi tick] w (fun r _ _ => r = slV v 3 0 (Lg.cnt l tick)) := by
 refine fn_enter Tryz.func73 rfl Tryz.ntmps73 (Nat.le_of_ble_eq_true rfl) fun a hF hS => ?_
 have hbl := hb.1
 have hcl := Lg.cnt_le l tick
 refine reglS fun K1 hK1 => ?_
 refine eQ hF hS rfl (ef_box1 rfl rfl) ?_
 rintro _ _ _ a w ⟨b1, rfl, rfl, rfl⟩ hF hS
 refine eQ hF hS rfl (ef_box1 rfl rfl) ?_
 rintro _ _ _ a w ⟨b2, rfl, rfl, rfl⟩ hF hS
 refine lQ hF hS (aQ rfl <| sq_end) fun a w hF hS => ?_
 refine wpList_nil (hK1 _ _ ?_)
 refine k0 ?_; intro K2 hK2
 refine regS hF hS (q0 (q_ld_blk1 ty45 1 rfl rfl rfl rfl) <| q0 (q_eqpn_f ty45 rfl rfl) <| sq_end) fun a w hF hS => ?_
 refine wp_if hF rfl (fun h => absurd h (by simp)) (fun _ => ?_)
 refine wp_skip ?_
 refine hK2 _ _ ?_
 refine regdS mixed kQ hF hS (q0 (q_ld_blk1 ty45 1 rfl rfl rfl rfl) <| q0 (q_nilCheck rfl) <| q0 (q_fieldAddr ty119 rfl rfl (s' := 0) kQ) <| q0 (q_ld_old1 ty26 rfl hl rfl rfl) <| q0 (q_ld_blk1 ty45 1 rfl rfl rfl rfl) <| q0 (q_nilCheck rfl) <| q0 (q_fieldAddr ty119 rfl rfl (s' := 0) kQ) <| q0 (q_ld_old1 ty26 rfl hl rfl rfl) <| q0 (q_len_sl ty26 hb rfl) <| q0 (q_mkf rfl rfl) <| q0 (q_call fn111 rfl (fun w hS => search_ct l.length (Lg.cnt l tick) _ (fun x => 0 ≤ x ∧ x < l.length) (fun x => decide (tick < (l.getD x.toNat Lg.f0).tk)) (by omega) (by omega) (fun i h1 h2 => ⟨h1, h2⟩) (Lg.cnt_p hG tick) w ⟨112, [], [_, _], rfl, fn112, fun w' hle x0 hq => until1_ct _ _ _ _ _ _ _ _ hq w' (hle _ _ (own_box hS 1 rfl)) (hle _ _ (hS.ext _ _ hl)) (Sl.mono (PH.le_tr (hS.le zin0) hle) hb) (hle _ _ (own_box hS 0 rfl))⟩) (fun _ _ _ h => h)) <| q0 (q_slsl_hi ty26 ty24 hb rfl rfl (by omega)) <| aQ rfl <| sq_end) fun a w hF hS => ?_
 refine wp_ret ?_
 exact fn_ret (rs := [.tmp 4]) rfl hF hS (vs := [_]) ⟨rfl, trivial⟩ zQ zQ (rfl)
theorem clonef_ct (v : Value) (l : List Lg.Fct) (hl : l.length < 1048576) (w : World) (hb : Sl Go.Fw.encY (ph w) v l) : Ct Tryz.prog 65 [v] w (fun r zs hs => zs = [] ∧ hs = [.row r 24 3 (l).length ((l).flatMap Lg.fcC)]) := by
 refine fn_enter Tryz.func65 rfl Tryz.ntmps65 (Nat.le_of_ble_eq_true rfl) fun a hF hS => ?_
 have hbl := hb.1
 refine regS hF hS (aQ rfl <| sq_end) fun a w hF hS => ?_
 refine k0 ?_; intro K2 hK2
 refine regS hF hS (mQ rfl <| q0 (q_eqnil ty26 hb rfl rfl) <| sq_end) fun a w hF hS => ?_
 refine wp_if hF rfl (fun hc1 => ?_) (fun hc1 => ?_)
 ·obtain rfl := nilS_nil hb hc1
  refine k0 ?_; intro K4 hK4
  refine reg hF hS (aQ rfl <| sq_end) fun a w hF hS => ?_
  replace hS := hS.nilRow 24 3
  refine hK4 _ _ ?_
  refine wp_ret ?_
  exact fn_ret (rs := [.tmp 2]) rfl hF hS (vs := [_]) ⟨rfl, trivial⟩ zQ sQ ⟨rfl, rfl⟩
 ·refine wp_skip ?_
  refine hK2 _ _ ?_
  refine reglS fun K5 hK5 => ?_
  refine eQ hF hS rfl (ef_bslice0 ty26 ty24) ?_
  rintro v1 _ _ a w ⟨rfl, rfl⟩ hF hS
  replace hS := nl0_1 hS
  refine lQ hF hS (mQ rfl <| sq_end) fun a w hF hS => ?_
  refine eQ hF hS rfl (ef_append ty26 ty24 0 rfl rfl rfl (src_slK ty26 hb zin0 (by decide)) bQ rfl (by decide)) ?_
  rintro v3 _ _ a w ⟨rfl, rfl⟩ hF hS
  replace hS := nl0_1 hS
  refine lQ hF hS (aQ rfl <| sq_end) fun a w hF hS => ?_
  refine wpList_nil ?_
  replace hS := hS.rowEq (Nat.zero_add _) (List.nil_append _)
  refine hK5 _ _ ?_
  refine wp_ret ?_
  exact fn_ret (rs := [.tmp 2]) rfl hF hS (vs := [_]) ⟨rfl, trivial⟩ zQ sQ ⟨rfl, rfl⟩
theorem facts_ct (b : Nat) (pj v : Value) (l : List Lg.Fct) (hl9 : l.length < 1048576) (w : World) {bt : TypeId} {fz : Nat × Nat} (hl : w.heap[b]? = some (.cells [pj, v].toArray bt fz)) (hb : Sl Go.Fw.encY (ph w) v l) : Ct Tryz.prog 26 [.pointer (some ⟨b, 0, none⟩)] w (fun r zs hs => zs = [] ∧ hs = [.row r 24 3 (l).length ((l).flatMap Lg.fcC)]) := by
 refine fn_enter Tryz.func26 rfl Tryz.ntmps26 (Nat.le_of_ble_eq_true rfl) fun a hF hS => ?_
 have hbl := hb.1
 refine regS hF hS (aQ rfl <| sq_end) fun a w hF hS => ?_
 refine k0 ?_; intro K2 hK2
 refine regS hF hS (mQ rfl <| q0 (q_eqpn_f ty45 rfl rfl) <| sq_end) fun a w hF hS => ?_
 refine wp_if hF rfl (fun h => absurd h (by simp)) (fun _ => ?_)
 refine wp_skip ?_
 refine hK2 _ _ ?_
 refine reglS fun K4 hK4 => ?_
 refine lQ hF hS (mQ rfl <| q0 (q_nilCheck rfl) <| q0 (q_fieldAddr ty119 rfl rfl (s' := 0) kQ) <| q0 (q_ld_old1 ty26 rfl hl rfl rfl) <| sq_end) fun a w hF hS => ?_
 refine eQ hF hS rfl (ef_call fn65 rfl (fun w hS => clonef_ct _ _ (by omega) w (Sl.mono (hS.le zin0) hb))) ?_
 rintro v1 _ _ a w ⟨_, _, rfl, rfl, ⟨rfl, rfl⟩⟩ hF hS
 replace hS := nl0_1 hS
 refine lQ hF hS (aQ rfl <| sq_end) fun a w hF hS => ?_
 refine wpList_nil (hK4 _ _ ?_)
 refine wp_ret ?_
 exact fn_ret (rs := [.tmp 2]) rfl hF hS (vs := [_]) ⟨rfl, trivial⟩ zQ sQ ⟨rfl, rfl⟩
theorem known_ct (b : Nat) (pj v : Value) (l : List Lg.Fct) (tick : Int) (hG : l.Pairwise (fun f g => f.tk ≤ g.tk)) (hl9 : l.length ≤ 1048576) (w : World) {bt : TypeId} {fz : Nat × Nat} (hl : w.heap[b]? = some (.cells [pj, v].toArray bt fz)) (hb : Sl Go.Fw.encY (ph w) v l) : Ct Tryz.prog 69 [.pointer (some ⟨b, 0, none⟩), vi tick] w (fun r zs hs => ∃ bm es ec, r = .map (some bm) ∧ zs = [] ∧ hs = [.mp bm es ec] ∧ MpT vs (Lg.mpN (Lg.untl l tick) (Lg.untl l tick).length) es ec) := by
 refine fn_enter Tryz.func69 rfl Tryz.ntmps69 (Nat.le_of_ble_eq_true rfl) fun a hF hS => ?_
 have hbl := hb.1
 have hul := unt_len (l := l) (t := tick)
 refine regS hF hS (aQ rfl <| sq_end) fun a w hF hS => ?_
 refine reglS fun K2 hK2 => ?_
 refine eQ hF hS rfl (ef_mkmap) ?_
 rintro _ _ _ a w ⟨b1, rfl, rfl, rfl⟩ hF hS
 replace hS := nl0_1 hS
 refine lQ hF hS (aQ rfl <| sq_end) fun a w hF hS => ?_
 refine wpList_nil (hK2 _ _ ?_)
 refine k0 ?_; intro K3 hK3
 refine regS hF hS (mQ rfl <| mQ rfl <| q0 (q_call fn73 rfl (fun w hS => until_ct _ _ _ _ _ hG hl9 w (hS.ext _ _ hl) (Sl.mono (hS.le zin0) hb)) (fun _ _ _ h => h)) <| q0 (q_len_sl ty26 (unt_sl hb) rfl) <| mQ rfl <| sq_end) fun a w hF hS => ?_
 refine wp_block ?_
 obtain ⟨hs0, hhs0, hS⟩ := hS.oh
 refine wp_loopx (γ := List MapEntry × Nat × Nat) ([], 0, 0) (fun (es, ec, k) => [(13, vi (k : Int))]) [(5, _), (11, _), (12, _)] (fun (es, ec, k) => (hs0.set 0 (.mp b1 es ec))) (fun (es, ec, k) => k ≤ (Lg.untl l tick).length ∧ MpT vs (Lg.mpN (Lg.untl l tick) k) es ec) (fun (es, ec, k) => (Lg.untl l tick).length - k) (hF.sub ⟨rfl, rfl, rfl, rfl, trivial⟩) (by subst hhs0; exact hS) (by exact ⟨Nat.zero_le _, MpT.nil⟩) ?_
 rintro ⟨es, ec, k⟩ a w hfact hF hS
 subst hhs0; (try dsimp only at hfact hF hS)
 obtain ⟨hk0, hMm⟩ := hfact
 replace hS := nl0_1 hS
 refine regS hF hS (q0 (q_lti rfl rfl) <| sq_end) fun a w hF hS => ?_
 refine k0 ?_; intro K6 hK6
 refine wp_ifd hF rfl (fun hc1 => ?_) (fun hc1 => ?_)
 ·refine wp_skip ?_
  refine hK6 _ _ ?_
  refine k0 ?_; intro K7 hK7
  refine wp_block ?_
  refine reglS fun K8 hK8 => ?_
  refine lQ hF hS (q0 (q_idx_sl ty26 ty24 (unt_sl hb) rfl rfl (by omega)) <| q0 (q_ld_Y ty24 (unt_sl hb) zin0 rfl rfl (by omega)) <| sq_end) fun a w hF hS => ?_
  refine eQ hF hS rfl (ef_allocA ty24) ?_
  rintro _ _ _ a w ⟨b3, rfl, rfl, rfl⟩ hF hS
  refine eQ hF hS rfl (ef_storeW ty24 0 rfl rfl rfl rfl bQ (oc_cons rfl (oc_cons rfl (oc_cons rfl oc_nil))) bQ) ?_
  rintro _ _ _ a w ⟨rfl, rfl, rfl⟩ hF hS
  replace hS := nl0_2 hS
  refine wpList_nil (hK8 _ _ ?_)
  refine regl ?_
  refine lQ hF hS (mQ rfl <| q0 (q_fieldAddr ty24 rfl rfl (s' := 0) kQ) <| q0 (q_ld_blk1 ty9 0 rfl rfl rfl rfl) <| q0 (q_fieldAddr ty24 rfl rfl (s' := 0) kQ) <| q0 (q_ld_blk1 ty9 0 rfl rfl rfl rfl) <| sq_end) fun a w hF hS => ?_
  refine eQ hF hS rfl (ef_mapsetT ty135 (key_S ty9) 1 rfl rfl rfl rfl hMm (fun _ _ => trivial) trivial) ?_
  rintro _ _ _ a w ⟨es1, ec1, hM1, rfl, rfl, rfl⟩ hF hS
  replace hS := nl0_2 hS
  refine wpList_nil (hK7 _ _ ?_)
  refine reg hF hS (pQ rfl rfl <| mQ rfl <| sq_end) fun a w hF hS => ?_
  replace hS := hS.keep zQ (sQ.n)
  refine ⟨(es1, ec1, k + 1), ?_, ?_, hF.sub ⟨rfl, rfl, rfl, rfl, trivial⟩, ?_⟩
  ·(try dsimp only); omega
  ·exact ⟨by omega, by rw [Lg.mp_succ (by omega)]; exact hM1⟩
  ·exact hS
 ·refine wp_exit ?_
  refine hK3 _ _ ?_
  refine regS hF hS (mQ rfl <| aQ rfl <| sq_end) fun a w hF hS => ?_
  refine wp_ret ?_
  obtain rfl : k = (Lg.untl l tick).length := by omega
  exact fn_ret (rs := [.tmp 4]) rfl hF hS (vs := [_]) ⟨rfl, trivial⟩ zQ sQ ⟨_, _, _, rfl, rfl, rfl, hMm⟩
end
section
theorem fn23 : FnOk Tryz.prog 23 := fQ Tryz.func23
theorem fn64 : FnOk Tryz.prog 64 := fQ Tryz.func64
theorem fn69 : FnOk Tryz.prog 69 := fQ Tryz.func69
theorem fn70 : FnOk Tryz.prog 70 := fQ Tryz.func70
theorem fn71 : FnOk Tryz.prog 71 := fQ Tryz.func71
theorem fn100 : FnOk Tryz.prog 100 := fQ Tryz.func100
theorem sortsinS : Go.Proofs.AnyZ.SortsIn Tryz.prog lsB_ren Fence.wide 4 := ⟨fun blk off cap ss W hH hblk hsz => callsIn_wide.2 (Go.Proofs.AnyM.slices_Sort_string lsT blk off cap ss W hH hblk hsz), fun p cap W => callsIn_wide.2 (Go.Proofs.AnyM.slices_Sort_string_none lsT p cap W)⟩
theorem keysS_ct (b : Nat) (w : World) : Ct Tryz.prog 71 [.map (some b)] w (fun r zs hs => ∃ e, r = .func (.func 107) (List.nil : List Value).toArray [Value.pointer (some ⟨e, 0, none⟩)].toArray ∧ zs = [] ∧ hs = [.blk e 135 [.map (some b)]]) := by
 refine fn_enter Tryz.func71 rfl Tryz.ntmps71 (Nat.le_of_ble_eq_true rfl) fun a hF hS => ?_
 refine reglS fun K1 hK1 => ?_
 refine eQ hF hS rfl (ef_box1 rfl rfl) ?_
 rintro _ _ _ a w ⟨b1, rfl, rfl, rfl⟩ hF hS
 refine lQ hF hS (aQ rfl <| sq_end) fun a w hF hS => ?_
 refine wpList_nil (hK1 _ _ ?_)
 refine regS hF hS (q0 (q_mkf rfl rfl) <| aQ rfl <| sq_end) fun a w hF hS => ?_
 refine wp_ret ?_
 exact fn_ret (rs := [.tmp 2]) rfl hF hS (vs := [_]) ⟨rfl, trivial⟩ sQ sQ ⟨_, rfl, rfl, rfl⟩
theorem sortedS_ct {l : List (List UInt8 × Value)} {es : List MapEntry} {c e b : Nat} (hM : MpT vs l es c) (hn : (l.map (·.1)).Nodup) (hk : ∀ i ∈ l.map (·.1), i.length ≤ maxLen) (hl : l.length ≤ 4096) (w0 : World) (zsr : List PH) : Cx Tryz.prog 70 [.func (.func 107) (List.nil : List Value).toArray [Value.pointer (some ⟨e, 0, none⟩)].toArray] w0 zsr [.blk e 135 [.map (some b)], .mp b es c] (fun v zs1 hs1 => zs1 = [] ∧ hs1 = [.row v 9 1 ((l.map (·.1)).mergeSort (fun x y => decide (x ≤ y))).length (((l.map (·.1)).mergeSort (fun x y => decide (x ≤ y))).map vs), .blk e 135 [.map (some b)], .mp b es c]) := sortedS_cx lkS lsB sortsinS 9 rfl rfl Tryz.underlying9 (Go.Proofs.enters_of Tryz.func106 kQ rfl) (Go.Proofs.enters_of Tryz.func107 kQ rfl) hM hn hk hl w0 zsr
theorem keys_ct (b : Nat) (pj v : Value) (l : List Lg.Fct) (tick : Int) (hG : l.Pairwise (fun f g => f.tk ≤ g.tk)) (hl9 : l.length ≤ 512) (w : World) {bt : TypeId} {fz : Nat × Nat} (hl : w.heap[b]? = some (.cells [pj, v].toArray bt fz)) (hb : Sl Go.Fw.encY (ph w) v l) : Ct Tryz.prog 35 [.pointer (some ⟨b, 0, none⟩), vi tick] w (fun r zs hs => zs = [] ∧ hs = [.row r 9 1 (Lg.keys l tick).length ((Lg.keys l tick).map vs)]) := by
 refine fn_enter Tryz.func35 rfl Tryz.ntmps35 (Nat.le_of_ble_eq_true rfl) fun a hF hS => ?_
 have hbl := hb.1
 refine regS hF hS (aQ rfl <| sq_end) fun a w hF hS => ?_
 refine reglS fun K2 hK2 => ?_
 refine lQ hF hS (mQ rfl <| mQ rfl <| sq_end) fun a w hF hS => ?_
 refine eQ hF hS rfl (ef_call fn69 rfl (fun w hS => known_ct _ _ _ _ _ hG (by omega) w (hS.ext _ _ hl) (Sl.mono (hS.le zin0) hb))) ?_
 rintro _ _ _ a w ⟨_, _, rfl, rfl, ⟨bm2, es3, ec4, rfl, rfl, rfl, hM5⟩⟩ hF hS
 replace hS := nl0_1 hS
 refine eQ hF hS rfl (ef_call fn71 rfl (fun w hS => keysS_ct _ w )) ?_
 rintro _ _ _ a w ⟨_, _, rfl, rfl, ⟨bx7, rfl, rfl, rfl⟩⟩ hF hS
 replace hS := nl0_2 hS
 refine eQ hF hS rfl (ef_callx fn70 rfl (List.Perm.refl _) (by exact (sortedS_ct (by assumption) (Lg.key_nd l tick) (Lg.key_len (Y_all hb) tick) (Lg.key_few (by omega) tick) _ _  (b := bm2)))) ?_
 rintro v8 _ _ a w ⟨_, _, rfl, rfl, ⟨rfl, rfl⟩⟩ hF hS
 replace hS := nl0_3 hS
 refine lQ hF hS (aQ rfl <| sq_end) fun a w hF hS => ?_
 refine wpList_nil ?_
 rw [Lg.keys_untl hG] at hS
 refine hK2 _ _ ?_
 refine wp_ret ?_
 exact fn_ret (rs := [.tmp 4]) rfl hF hS (vs := [_]) ⟨rfl, trivial⟩ zQ (zQ.k) ⟨rfl, rfl⟩
theorem backF_ct (v : Value) (hv : v.oneCell' = true) (w : World) : Ct Tryz.prog 64 [v] w (fun r zs hs => ∃ b1, r = .func (.func 100) (List.nil : List Value).toArray [Value.pointer (some ⟨b1, 0, none⟩)].toArray ∧ zs = [] ∧ hs = [.blk b1 26 [v]]) := by
 refine fn_enter Tryz.func64 rfl Tryz.ntmps64 (Nat.le_of_ble_eq_true rfl) fun a hF hS => ?_
 refine reglS fun K1 hK1 => ?_
 refine eQ hF hS rfl (ef_box1 rfl hv) ?_
 rintro _ _ _ a w ⟨b1, rfl, rfl, rfl⟩ hF hS
 refine lQ hF hS (aQ rfl <| sq_end) fun a w hF hS => ?_
 refine wpList_nil (hK1 _ _ ?_)
 refine regS hF hS (q0 (q_mkf rfl rfl) <| aQ rfl <| sq_end) fun a w hF hS => ?_
 refine wp_ret ?_
 exact fn_ret (rs := [.tmp 2]) rfl hF hS (vs := [_]) ⟨rfl, trivial⟩ sQ sQ ⟨_, rfl, rfl, rfl⟩
theorem bwF1_ct (b1 : Nat) (v : Value) (xs : List Lg.Fct) (Y : Value) (z : PH) (w0 : World) (zsr zst : List PH) (hsr : List Res) (inv : Nat → Prop) (R : Res → Res → Prop) (ra rb : Res) (hz : ZIn w0 zsr z) (hb : Sl encY z v xs) (h0 : inv 0) (hY : ∀ k, k < xs.length → inv k → YdX Tryz.prog Y (Lg.bwF xs k) (St w0 zsr (.blk b1 26 [v] :: ra :: rb :: hsr)) fun b w' => if b = true then inv (k + 1) ∧ St w0 zsr (.blk b1 26 [v] :: ra :: rb :: hsr) w' else ∃ ra' rb', R ra' rb' ∧ St w0 zst (.blk b1 26 [v] :: ra' :: rb' :: hsr) w') : CxX Tryz.prog 100 [Y, Value.pointer (some ⟨b1, 0, none⟩)] w0 zsr zst [.blk b1 26 [v], ra, rb] hsr (fun b hs1 => if b = true then hs1 = [.blk b1 26 [v], ra, rb] ∧ inv xs.length else ∃ ra' rb', hs1 = [.blk b1 26 [v], ra', rb'] ∧ R ra' rb') := by
 refine fn_enterX Tryz.func100 rfl Tryz.ntmps100 (Nat.le_of_ble_eq_true rfl) fun a w hF hS => ?_
 replace hS : St _ (_) (_ :: _ :: _ :: _) _ := hS
 have hbl := hb.1
 refine regS hF hS (q0 (q_ld_blk1 ty26 0 rfl rfl rfl rfl) <| q0 (q_len_sl ty26 hb rfl) <| dQ rfl rfl <| aQ rfl <| sq_end) fun a w hF hS => ?_
 refine wp_block ?_
 obtain ⟨hs0, hhs0, hS⟩ := hS.oh
 refine wp_loopx (γ := Nat) (0) (fun (k : Nat) => [(3, vi ((xs.length : Int) - 1 - k))]) [(0, _), (1, _)] (fun (k : Nat) => hs0) (fun (k : Nat) => k ≤ xs.length ∧ inv k) (fun (k : Nat) => xs.length - k) (hF.sub ⟨(by show some (vi _) = some (vi _); congr 2; omega), rfl, rfl, trivial⟩) (by subst hhs0; exact hS) (by exact ⟨Nat.zero_le _, h0⟩) ?_
 rintro k a w hfact hF hS
 subst hhs0; (try dsimp only at hfact hF hS)
 obtain ⟨hk0, hin⟩ := hfact
 replace hS : St _ (_) (_ :: _ :: _ :: _) _ := hS
 refine k0 ?_; intro K2 hK2
 refine regS hF hS (mQ rfl <| q0 (q_gei rfl rfl) <| sq_end) fun a w hF hS => ?_
 refine wp_ifd hF rfl (fun hc1 => ?_) (fun hc1 => ?_)
 ·refine wp_skip ?_
  refine hK2 _ _ ?_
  refine k0 ?_; intro K4 hK4
  refine wp_block ?_
  refine k0 ?_; intro K5 hK5
  refine regY 6 rfl ?_
  refine lQ hF hS (mQ rfl <| mQ rfl <| q0 (q_ld_blk1 ty26 0 rfl rfl rfl rfl) <| mQ rfl <| q0 (q_idx_sl ty26 ty24 hb rfl rfl (by omega)) <| q0 (q_ld_Y ty24 hb hz rfl rfl (by omega)) <| sq_end) fun a w hF hS => ?_
  refine listR ?_
  have hyd := hY k (by omega) hin
  refine ycallX (ys := [_, _]) (by rfl) rfl hF hS rfl rfl hyd ?_
  clear hF hS; intro bb a w hF hJ
  rcases bb with _ | _
  ·skip
   rw [if_neg (by simp)] at hJ
   obtain ⟨ra2, rb2, hR2, hS⟩ := hJ
   refine yseg rfl hF hS (q0 (q_not rfl) <| sq_end) fun a w hF hS => ?_
   refine wpListIn_nil ?_
   refine hK5 _ _ ?_
   refine wp_if hF rfl (fun _ => ?_) (fun h => absurd h (by simp))
   refine wp_ret ?_
   exact fn_retX false rfl rfl hF hS [_, _, _] (by simp) sQ (by rw [if_neg (by simp)]; exact ⟨_, _, rfl, hR2⟩)
  ·skip
   rw [if_pos rfl] at hJ
   obtain ⟨hin2, hS⟩ := hJ
   refine yseg rfl hF hS (q0 (q_not rfl) <| sq_end) fun a w hF hS => ?_
   refine wpListIn_nil ?_
   refine hK5 _ _ ?_
   refine wp_if hF rfl (fun h => absurd h (by simp)) (fun _ => ?_)
   refine wp_skip ?_
   refine hK4 _ _ ?_
   refine reg hF hS (mQ rfl <| dQ rfl rfl <| aQ rfl <| sq_end) fun a w hF hS => ?_
   refine ⟨(k + 1), ?_, ?_, hF.sub ⟨(by show some (vi _) = some (vi _); congr 2; omega), rfl, rfl, trivial⟩, ?_⟩
   ·(try dsimp only); omega
   ·exact ⟨by omega, hin2⟩
   ·exact hS
 ·obtain rfl : k = xs.length := by omega
  refine wp_exit ?_
  -- falls off the end
  exact fn_fallX true rfl rfl hF hS [_, _, _] (by simp) sQ (by rw [if_pos rfl]; exact ⟨rfl, hin⟩)
theorem known9_ct (v : Value) (l : List Lg.Fct) (tick : Int) (key : List UInt8) (w : World) (hb : Sl Go.Fw.encY (ph w) v l) : Ct Tryz.prog 23 [v, vi tick, vs key] w (fun r _ _ => r = .tuple [vs (Lg.kn l tick key).1, .bool (Lg.kn l tick key).2].toArray) := by
 refine fn_enterM Tryz.func23 rfl Tryz.ntmps23 (Nat.le_of_ble_eq_true rfl) fun a hF hS => ?_
 have hbl := hb.1
 refine reglS fun K1 hK1 => ?_
 refine eQ hF hS rfl (ef_box1 rfl rfl) ?_
 rintro _ _ _ a w ⟨b1, rfl, rfl, rfl⟩ hF hS
 refine eQ hF hS rfl (ef_box1 rfl rfl) ?_
 rintro _ _ _ a w ⟨b2, rfl, rfl, rfl⟩ hF hS
 refine eQ hF hS rfl (ef_alloc1 ty9 (by rfl)) ?_
 rintro _ _ _ a w ⟨b3, rfl, rfl, rfl⟩ hF hS
 refine eQ hF hS rfl (ef_alloc1 ty4 (by rfl)) ?_
 rintro _ _ _ a w ⟨b4, rfl, rfl, rfl⟩ hF hS
 refine wpList_nil (hK1 _ _ ?_)
 refine k0 ?_; intro K2 hK2
 refine reglS fun K3 hK3 => ?_
 refine lQ hF hS (mQ rfl <| sq_end) fun a w hF hS => ?_
 refine eQ hF hS rfl (ef_call fn64 rfl (fun w hS => backF_ct _ (sl_one' hb) w )) ?_
 rintro _ _ _ a w ⟨_, _, rfl, rfl, ⟨e1, rfl, rfl, rfl⟩⟩ hF hS
 replace hS := nl0_5 hS
 refine wpList_nil (hK3 _ _ ?_)
 refine wp_block ?_
 obtain ⟨hs0, hhs0, hS⟩ := hS.oh
 obtain ⟨L0, hL0, hF⟩ : ∃ l, l = _ ∧ Fr _ l _ := ⟨_, rfl, hF⟩
 refine wp_rangeX (ps := [12, 13]) (γ := List UInt8 × Bool) (ξ := Nat) (fun r => (hs0.set 1 (.blk b4 4 [.bool r.2])).set 2 (.blk b3 9 [vs r.1])) (fun (k : Nat) (r : List UInt8 × Bool) => r = ([], false) ∧ (Lg.kn l tick key) = (Lg.kn (l.take (l.length - k)) tick key)) (fun r => (Lg.kn l tick key) = r) (l.length) (fun k => Lg.bwF l k) (([], false)) (fun k r x => (9, .pointer (some ⟨x, 0, none⟩)) :: (13, .agg [vi (l.getD ((l.length : Int) - 1 - k).toNat Lg.f0).tk, vs (l.getD ((l.length : Int) - 1 - k).toNat Lg.f0).ky, vs (l.getD ((l.length : Int) - 1 - k).toNat Lg.f0).vl].toArray) :: (12, vi ((l.length : Int) - 1 - k)) :: L0) (fun k r x => .blk x 24 [vi (l.getD ((l.length : Int) - 1 - k).toNat Lg.f0).tk, vs (l.getD ((l.length : Int) - 1 - k).toNat Lg.f0).ky, vs (l.getD ((l.length : Int) - 1 - k).toNat Lg.f0).vl] :: (hs0.set 1 (.blk b4 4 [.bool r.2])).set 2 (.blk b3 9 [vs r.1])) hF (by subst hhs0; exact hS) (by subst hL0; rfl) rfl (fun _ => rfl) (fn100) (⟨rfl, by rw [Nat.sub_zero, List.take_length]⟩) (fun ro m8 zB zD k9 r9 a w hk9 hi9 hF hS => ?_) (fun Y zs1 zst hzz hzt hY w hS => ?_) (fun l9 m9 zB zD k9 r9 x9 a w hk9 hi9 hF hS => ?_) (fun I D zD a w r9 hno hI hD hi9 hF hS => ?_) (fun I D zD a w r9 hno hI hD hi9 hF hS => ?_)
 ·subst hhs0 hL0
  (try dsimp only [argsL] at hF); (try dsimp only [List.set_cons_zero, List.set_cons_succ] at hS)
  replace hS : St _ [_, _] [_, _, _, _, _] _ := hS
  obtain ⟨rfl, hin9⟩ := hi9
  replace hS : St _ [_, _] [_, _, _, _, _] _ := hS
  refine reglR (by rfl) ?_
  refine eQ hF hS rfl (ef_allocA ty24) ?_
  rintro _ _ _ a w ⟨b6, rfl, rfl, rfl⟩ hF hS
  refine eQ hF hS rfl (ef_storeW ty24 0 rfl rfl rfl rfl bQ (oc_cons rfl (oc_cons rfl (oc_cons rfl oc_nil))) bQ) ?_
  rintro _ _ _ a w ⟨rfl, rfl, rfl⟩ hF hS
  replace hS : St _ [_, _] [_, _, _, _, _, _] _ := hS
  refine listR ?_
  exact ⟨rfl, _, hF, hS⟩
 ·subst hhs0 hL0
  refine Calls.mono (bwF1_ct e1 _ l Y _ _ zs1 zst _ (fun k => (Lg.kn l tick key) = (Lg.kn (l.take (l.length - k)) tick key)) (fun ra rb => ∃ r : List UInt8 × Bool, (Lg.kn l tick key) = r ∧ ra = .blk b4 4 [.bool r.2] ∧ rb = .blk b3 9 [vs r.1]) _ _ zin0 hb (by rw [Nat.sub_zero, List.take_length]) (fun k hk hi => (hY k ([], false) hk ⟨rfl, hi⟩).mono fun b w' hJ => ?_) w hS) fun e w' hE => ?_
  ·cases b with
   | true => rw [if_pos rfl] at hJ ⊢; obtain ⟨r', ⟨rfl, h1⟩, h2⟩ := hJ; exact ⟨h1, h2⟩
   | false => rw [if_neg (by simp)] at hJ ⊢; obtain ⟨r', h1, h2⟩ := hJ; exact ⟨_, _, ⟨r', h1, rfl, rfl⟩, h2⟩
  ·obtain ⟨b, v9, hs9, rfl, hS9, hR9⟩ := hE
   refine ⟨⟨_, rfl⟩, ?_⟩
   cases b with
   | true => rw [if_pos rfl] at hR9 hS9; obtain ⟨rfl, h1⟩ := hR9; exact .inl ⟨([], false), ⟨rfl, h1⟩, hS9⟩
   | false => rw [if_neg (by simp)] at hR9 hS9; obtain ⟨ra', rb', rfl, r9, h1, rfl, rfl⟩ := hR9; exact .inr ⟨r9, h1, hS9⟩
 ·subst hhs0 hL0
  (try dsimp only [argsL] at hF); (try dsimp only [List.set_cons_zero, List.set_cons_succ] at hS)
  replace hS : St _ [_, _] [_, _, _, _, _, _] _ := hS
  obtain ⟨rfl, hin9⟩ := hi9
  replace hS : St _ [_, _] [_, _, _, _, _, _] _ := hS
  refine wpIn_block ?_
  refine wpIn_seq_k ?_; intro K4 hK4
  refine reglR (by rfl) ?_
  refine lQ hF hS (q0 (q_fieldAddr ty24 rfl rfl (s' := 0) kQ) <| q0 (q_ld_blk1 ty9 0 rfl rfl rfl rfl) <| q0 (q_ld_blk1 ty9 4 rfl rfl rfl rfl) <| q0 (q_eqs rfl rfl) <| mQ rfl <| sq_end) fun a w hF hS => ?_
  refine wpl_and 4 18 4 hF hS rfl rfl rfl rfl rfl (fun hg => have hg := (by first | exact of_decide_eq_true hg | exact hg); sq_go 18 rfl rfl rfl (q_fieldAddr ty24 rfl rfl (s' := 0) kQ) <| sq_go 18 rfl rfl rfl (q_ld_blk1 ty3 0 rfl rfl rfl rfl) <| sq_go 18 rfl rfl rfl (q_ld_blk1 ty3 5 rfl rfl rfl rfl) <| sq_go 18 rfl rfl rfl (q_lei rfl rfl) <| sq_end) rfl rfl fun a w hF hS => ?_
  refine listR ?_
  refine hK4 _ _ ?_
  refine wp_ifR hF rfl (fun hc1 => ?_) (fun hc1 => ?_)
  ·(try simp only [bS] at hc1)
   refine wpIn_seq_k ?_; intro K5 hK5
   refine reglR (by rfl) ?_
   refine lQ hF hS (q0 (q_fieldAddr ty24 rfl rfl (s' := 0) kQ) <| q0 (q_ld_blk1 ty9 0 rfl rfl rfl rfl) <| sq_end) fun a w hF hS => ?_
   refine eQ hF hS rfl (ef_store1 ty9 3 rfl rfl rfl rfl (by simp)) ?_
   rintro _ _ _ a w ⟨rfl, rfl, rfl⟩ hF hS
   (try simp only [List.set_cons_zero, List.set_cons_succ] at hS)
   replace hS : St _ [_, _] [_, _, _, _, _, _] _ := hS
   refine eQ hF hS rfl (ef_store1 ty4 2 rfl rfl rfl rfl (by simp)) ?_
   rintro _ _ _ a w ⟨rfl, rfl, rfl⟩ hF hS
   (try simp only [List.set_cons_zero, List.set_cons_succ] at hS)
   replace hS : St _ [_, _] [_, _, _, _, _, _] _ := hS
   refine listR ?_
   refine hK5 _ _ ?_
   refine wpIn_ret ?_
   exact .inr ⟨rfl, _, Lg.kb_hit hk9 hin9 hc1, hS.keep sQ (List.sublist_cons_self _ _)⟩
  ·(try simp only [bS] at hc1)
   refine wpIn_skip ?_
   exact .inl ⟨rfl, ([], false), ⟨rfl, Lg.kb_miss hk9 hin9 (fun h => by rcases hc1 with h1 | h1; exact h1 h.1; exact h1 h.2)⟩, hS.keep sQ (List.sublist_cons_self _ _)⟩
 ·subst hhs0 hL0
  (try dsimp only [argsL] at hF); (try dsimp only [List.set_cons_zero, List.set_cons_succ] at hS)
  replace hS := nl1_5 hS
  exact fn_retG [] hI hD (by simp) (by simp) (by simp) (rs := [.cell 6 9, .cell 7 4]) rfl hF hS (vs := [_, _]) ⟨⟨_, _, _, _, _, _, _, rfl, List.mem_of_getElem? (i := 2) rfl, ty9, .inr ⟨rfl, rfl⟩⟩, ⟨_, _, _, _, _, _, _, rfl, List.mem_of_getElem? (i := 1) rfl, ty4, .inr ⟨rfl, rfl⟩⟩, trivial⟩ (fun W hS => ⟨[], [], hS.keep zQ zQ, by rw [hi9]⟩)
 subst hhs0 hL0
 (try dsimp only [argsL] at hF); (try dsimp only [List.set_cons_zero, List.set_cons_succ] at hS)
 replace hS := nl1_5 hS
 obtain ⟨rfl, hin9⟩ := hi9
 rw [Nat.sub_self] at hin9
 replace hS := nl1_5 hS
 refine hK2 _ _ ?_
 refine reglS fun K6 hK6 => ?_
 refine eQ hF hS rfl (ef_store1 ty9 2 rfl rfl rfl rfl (by simp)) ?_
 rintro _ _ _ a w ⟨rfl, rfl, rfl⟩ hF hS
 (try simp only [List.set_cons_zero, List.set_cons_succ] at hS)
 replace hS := nl1_5 hS
 refine eQ hF hS rfl (ef_store1 ty4 1 rfl rfl rfl rfl (by simp)) ?_
 rintro _ _ _ a w ⟨rfl, rfl, rfl⟩ hF hS
 (try simp only [List.set_cons_zero, List.set_cons_succ] at hS)
 replace hS := nl1_5 hS
 refine wpList_nil (hK6 _ _ ?_)
 refine wp_ret ?_
 exact fn_retG [] hI hD (by simp) (by simp) (by simp) (rs := [.cell 6 9, .cell 7 4]) rfl hF hS (vs := [_, _]) ⟨⟨_, _, _, _, _, _, _, rfl, List.mem_of_getElem? (i := 2) rfl, ty9, .inr ⟨rfl, rfl⟩⟩, ⟨_, _, _, _, _, _, _, rfl, List.mem_of_getElem? (i := 1) rfl, ty4, .inr ⟨rfl, rfl⟩⟩, trivial⟩ (fun W hS => ⟨[], [], hS.keep zQ zQ, by rw [hin9]; rfl⟩)
theorem at_ct (b : Nat) (pj v : Value) (l : List Lg.Fct) (tick : Int) (key : List UInt8) (hG : l.Pairwise (fun f g => f.tk ≤ g.tk)) (hl9 : l.length ≤ 512) (w : World) {bt : TypeId} {fz : Nat × Nat} (hl : w.heap[b]? = some (.cells [pj, v].toArray bt fz)) (hb : Sl Go.Fw.encY (ph w) v l) : Ct Tryz.prog 38 [.pointer (some ⟨b, 0, none⟩), vi tick, vs key] w (fun r _ _ => r = .tuple [vs (Lg.kn l tick key).1, .bool (Lg.kn l tick key).2].toArray) := by
 refine fn_enter Tryz.func38 rfl Tryz.ntmps38 (Nat.le_of_ble_eq_true rfl) fun a hF hS => ?_
 have hbl := hb.1
 refine regS hF hS (aQ rfl <| aQ rfl <| sq_end) fun a w hF hS => ?_
 refine regS hF hS (mQ rfl <| mQ rfl <| q0 (q_call fn73 rfl (fun w hS => until_ct _ _ _ _ _ hG (by omega) w (hS.ext _ _ hl) (Sl.mono (hS.le zin0) hb)) (fun _ _ _ h => h)) <| mQ rfl <| mQ rfl <| q0 (q_call fn23 rfl (fun w hS => known9_ct _ _ _ _ w (Sl.mono (hS.le zin0) (unt_sl hb))) (fun _ _ _ h => h)) <| q0 (q_extract rfl rfl) <| q0 (q_extract rfl rfl) <| aQ rfl <| aQ rfl <| sq_end) fun a w hF hS => ?_
 refine wp_ret ?_
 exact fn_ret (rs := [.tmp 6, .tmp 7]) rfl hF hS (vs := [_, _]) ⟨rfl, rfl, trivial⟩ zQ zQ (by rw [Lg.kn_untl hG])
end
section
theorem fn18 : FnOk Tryz.prog 18 := fQ Tryz.func18
theorem fn52 : FnOk Tryz.prog 52 := fQ Tryz.func52
theorem fn53 : FnOk Tryz.prog 53 := fQ Tryz.func53
theorem fn68 : FnOk Tryz.prog 68 := fQ Tryz.func68
theorem fn104 : FnOk Tryz.prog 104 := fQ Tryz.func104
attribute [local irreducible] Wi.int Wi.bytes Wi.getInt Wi.getBytes Sha.sum Jn.good Jn.hd Jn.lb Jn.cnt Jn.unp Jn.recd Jn.app Jn.opn Lg.dec
theorem taken_ct (v : Value) (hv : v.oneCell' = true) (w : World) : Ct Tryz.prog 68 [v] w (fun r zs hs => ∃ b1, r = .func (.func 104) (List.nil : List Value).toArray [Value.pointer (some ⟨b1, 0, none⟩)].toArray ∧ zs = [] ∧ hs = [.blk b1 40 [v]]) := by
 refine fn_enter Tryz.func68 rfl Tryz.ntmps68 (Nat.le_of_ble_eq_true rfl) fun a hF hS => ?_
 refine reglS fun K1 hK1 => ?_
 refine eQ hF hS rfl (ef_box1 rfl hv) ?_
 rintro _ _ _ a w ⟨b1, rfl, rfl, rfl⟩ hF hS
 refine lQ hF hS (aQ rfl <| sq_end) fun a w hF hS => ?_
 refine wpList_nil (hK1 _ _ ?_)
 refine regS hF hS (q0 (q_mkf rfl rfl) <| aQ rfl <| sq_end) fun a w hF hS => ?_
 refine wp_ret ?_
 exact fn_ret (rs := [.tmp 2]) rfl hF hS (vs := [_]) ⟨rfl, trivial⟩ sQ sQ ⟨_, rfl, rfl, rfl⟩
theorem taken1_ct (b1 : Nat) (v : Value) (xs : List (List UInt8)) (hxl : ∀ x ∈ xs, x.length ≤ 8064) (Y : Value) (z : PH) (w0 : World) (zsr : List PH) (hsr : List Res) (inv : Nat → Res × Res → Prop) (ra rb : Res) (hz : ZIn w0 zsr z) (hb : Sl Go.Fw.encS z v xs) (h0 : inv 0 (ra, rb)) (hY : ∀ k r, k < (Lg.taken xs).length → inv k r → YdL Tryz.prog Y (Lg.tkV xs k) (St w0 zsr (.blk b1 40 [v] :: r.1 :: r.2 :: hsr)) fun w' => ∃ r', inv (k + 1) r' ∧ St w0 zsr (.blk b1 40 [v] :: r'.1 :: r'.2 :: hsr) w') : CxH Tryz.prog 104 [Y, Value.pointer (some ⟨b1, 0, none⟩)] w0 zsr [.blk b1 40 [v], ra, rb] hsr (fun _ zs1 hs1 => zs1 = [] ∧ ∃ r : Res × Res, hs1 = [.blk b1 40 [v], r.1, r.2] ∧ inv (Lg.taken xs).length r) := by
 refine fn_enterh Tryz.func104 rfl Tryz.ntmps104 (Nat.le_of_ble_eq_true rfl) fun a w hF hS => ?_
 replace hS : St _ (_) (_ :: _ :: _ :: _) _ := hS
 have hbl := hb.1
 refine regS hF hS (aQ rfl <| aQ rfl <| sq_end) fun a w hF hS => ?_
 refine regS hF hS (q0 (q_ld_blk1 ty40 0 rfl rfl rfl rfl) <| q0 (q_len_sl ty40 hb rfl) <| mQ rfl <| sq_end) fun a w hF hS => ?_
 refine wp_block ?_
 obtain ⟨hs0, hhs0, hS⟩ := hS.oh
 refine wp_loopx (γ := (Res × Res) × Nat) ((ra, rb), 0) (fun (rr, i) => [(3, vi (Lg.tkN xs i).2), (4, vi ((Lg.tkN xs i).1.length : Int)), (11, vi (i : Int))]) [(0, _), (9, _), (10, _)] (fun (rr, i) => ((hs0.set 1 (rr.1)).set 2 (rr.2))) (fun (rr, i) => i ≤ xs.length ∧ inv (Lg.tkN xs i).1.length rr) (fun (rr, i) => xs.length - i) (hF.sub ⟨rfl, rfl, rfl, rfl, rfl, rfl, trivial⟩) (by subst hhs0; exact hS) (by exact ⟨Nat.zero_le _, h0⟩) ?_
 rintro ⟨rr, i⟩ a w hfact hF hS
 subst hhs0; (try dsimp only at hfact hF hS)
 obtain ⟨hi0, hin⟩ := hfact
 replace hS : St _ (_) (_ :: _ :: _ :: _) _ := hS
 have htb := Lg.tk_bd xs hi0
 refine regS hF hS (q0 (q_lti rfl rfl) <| sq_end) fun a w hF hS => ?_
 refine k0 ?_; intro K4 hK4
 refine wp_ifd hF rfl (fun hc1 => ?_) (fun hc1 => ?_)
 ·have hxi : (xs.getD i []).length ≤ 8064 := hxl _ (Sha.getD_mem xs i (by omega))
  refine wp_skip ?_
  refine hK4 _ _ ?_
  refine k0 ?_; intro K5 hK5
  refine wp_block ?_
  refine k0 ?_; intro K6 hK6
  refine reg hF hS (q0 (q_idx_sl ty40 ty9 hb rfl rfl (by omega)) <| q0 (q_ld_S ty9 hb hz rfl rfl (by omega)) <| aQ rfl <| sq_end) fun a w hF hS => ?_
  rw [Int.toNat_natCast] at hF
  refine hK6 _ _ ?_
  refine reglS fun K7 hK7 => ?_
  refine lQ hF hS (mQ rfl <| sq_end) fun a w hF hS => ?_
  refine eQ hF hS rfl (ef_s2b ty9 ty25 ty5 rfl (by omega)) ?_
  rintro v1 _ _ a w ⟨z2, rfl, rfl, hz3⟩ hF hS
  refine lQ hF hS (q0 (q_call fn18 rfl (fun w hS => dec_ct _ _ w (Sl.mono (hS.le (.inr (by simp))) hz3)) (fun _ _ _ h => h)) <| mQ rfl <| q0 (q_extract rfl rfl) <| q0 (q_extract rfl rfl) <| sq_end) fun a w hF hS => ?_
  refine eQ hF hS rfl (ef_allocA ty24) ?_
  rintro _ _ _ a w ⟨b4, rfl, rfl, rfl⟩ hF hS
  refine eQ hF hS rfl (ef_storeW ty24 0 rfl rfl rfl rfl bQ (oc_cons rfl (oc_cons rfl (oc_cons rfl oc_nil))) bQ) ?_
  rintro _ _ _ a w ⟨rfl, rfl, rfl⟩ hF hS
  replace hS := nt1_4 hS
  refine lQ hF hS (aQ rfl <| sq_end) fun a w hF hS => ?_
  refine wpList_nil (hK7 _ _ ?_)
  refine k0 ?_; intro K8 hK8
  refine reglS fun K9 hK9 => ?_
  refine lQ hF hS (mQ rfl <| q0 (q_nei rfl rfl) <| mQ rfl <| sq_end) fun a w hF hS => ?_
  refine wpl_or 2 23 4 hF hS rfl rfl rfl rfl rfl (fun hg => have hg := (nd_false hg); sq_go 23 rfl rfl rfl (q_fieldAddr ty24 rfl rfl (s' := 0) kQ) <| sq_go 23 rfl rfl rfl (q_ld_blk1 ty3 0 rfl rfl rfl rfl) <| sq_go 23 rfl rfl rfl (q_move rfl) <| sq_go 23 rfl rfl rfl (q_lti rfl rfl) <| sq_end) rfl rfl fun a w hF hS => ?_
  refine lQ hF hS (mQ rfl <| sq_end) fun a w hF hS => ?_
  refine wpl_or 8 29 2 hF hS rfl rfl rfl rfl rfl (fun hg => have hg := hg; sq_go 29 rfl rfl rfl (q_move rfl) <| sq_go 29 rfl rfl rfl (q_eqi rfl rfl) <| sq_end) rfl rfl fun a w hF hS => ?_
  refine wpList_nil (hK9 _ _ ?_)
  refine wp_if hF rfl (fun hc2 => ?_) (fun hc2 => ?_)
  ·(try simp only [bS] at hc2)
   have htn := Lg.tk_no (l := xs) (i := i) (by omega) (fun h => by rcases hc2 with (h1 | h1) | h1; exact h1 h.1.1; omega; omega)
   refine wp_exit ?_
   refine hK5 _ _ ?_
   refine reg hF hS (pQ rfl rfl <| mQ rfl <| sq_end) fun a w hF hS => ?_
   replace hS := hS.keep (sQ.n) (sQ.n)
   refine ⟨(rr, i + 1), ?_, ?_, hF.sub ⟨(by show some (vi _) = some (vi _); first | rw [htn] | rw [htk4]), (by show some (vi _) = some (vi _); first | rw [htn] | (rw [htk3]; rfl)), rfl, rfl, rfl, rfl, trivial⟩, ?_⟩
   ·(try dsimp only); omega
   ·exact ⟨by omega, by rw [htn]; exact hin⟩
   ·exact hS
  ·(try simp only [bS] at hc2)
   obtain ⟨htk1, htk2, htk3, htk4⟩ := Lg.tk_at (l := xs) (i := i) (by omega) ⟨⟨hc2.1.1, by omega⟩, by omega⟩
   refine wp_skip ?_
   refine hK8 _ _ ?_
   refine regS hF hS (q0 (q_fieldAddr ty24 rfl rfl (s' := 0) kQ) <| q0 (q_ld_blk1 ty3 0 rfl rfl rfl rfl) <| mQ rfl <| pQ rfl rfl <| aQ rfl <| aQ rfl <| sq_end) fun a w hF hS => ?_
   refine k0 ?_; intro K11 hK11
   refine regY 2 rfl ?_
   refine lQ hF hS (mQ rfl <| q0 (q_ld_blkW ty24 0 rfl rfl bQ rfl) <| sq_end) fun a w hF hS => ?_
   refine listR ?_
   ·skip
    replace hS := hS.keep (List.sublist_cons_self _ _) (sQ.n)
    have hyd := hY _ rr htk1 hin
    rw [htk2] at hyd
    refine ycallL (ys := [_]) (by rfl) rfl hF hS rfl rfl hyd ?_
    rintro a w hF ⟨r2, hin2, hS⟩
    refine yseg rfl hF hS (q0 (q_not rfl) <| sq_end) fun a w hF hS => ?_
    refine wpListIn_nil ?_
    refine hK11 _ _ ?_
    refine wp_if hF rfl (fun h => absurd h (by simp)) (fun _ => ?_)
    refine wp_skip ?_
    refine hK5 _ _ ?_
    refine reg hF hS (pQ rfl rfl <| mQ rfl <| sq_end) fun a w hF hS => ?_
    refine ⟨(r2, i + 1), ?_, ?_, hF.sub ⟨(by show some (vi _) = some (vi _); first | rw [htn] | rw [htk4]), (by show some (vi _) = some (vi _); first | rw [htn] | (rw [htk3]; rfl)), rfl, rfl, rfl, rfl, trivial⟩, ?_⟩
    ·(try dsimp only); omega
    ·exact ⟨by omega, by rw [htk3]; exact hin2⟩
    ·exact hS
 ·obtain rfl : i = xs.length := by omega
  refine wp_exit ?_
  -- falls off the end
  exact fn_fallx rfl hF hS [] [_, _, _] sQ sQ ⟨rfl, _, rfl, hin⟩
theorem lopen_ct (h : Dk.Hd) (S : Dk.Dsk) (hof : S.off = false) (w0 : World) (zsr : List PH) {d1 d2 d3 d4 : Res} {fz0 : Nat × Nat} {bt0 : TypeId} (hg0 : w0.heap[1]? = some (.cells (Sha.kc.map vw).toArray bt0 fz0)) (hD : DD h S d1 d2 d3 d4) : Cx Tryz.prog 31 [.pointer (some ⟨h.b, 0, none⟩)] w0 zsr [d1, d2, d3, d4] (fun r zs hs => zs = [] ∧ ∃ bl b fv q1 q2 q3 q4 e1 e2 e3 e4, r = .tuple [.pointer (some ⟨bl, 0, none⟩), vi 0].toArray ∧ hs = [.blk bl 119 [.pointer (some ⟨b, 0, none⟩), fv], .row fv 24 3 (Lg.taken (Jn.opn S).tx).length ((Lg.taken (Jn.opn S).tx).flatMap Lg.fcC), q1, q2, q3, q4, e1, e2, e3, e4] ∧ JJ b h.b (Jn.opn S) q1 q2 q3 q4 ∧ DD h S e1 e2 e3 e4) := by
 refine fn_enterMx Tryz.func31 rfl Tryz.ntmps31 (Nat.le_of_ble_eq_true rfl) fun hsr a w hF hS => ?_
 replace hS := nt0_4 hS
 have hO := Dk.DOk.ok hD
 have hlo := hO.lo
 have hhi := hO.hi
 refine regS hF hS (aQ rfl <| aQ rfl <| sq_end) fun a w hF hS => ?_
 refine k0 ?_; intro K2 hK2
 refine regS hF hS (mQ rfl <| q0 (q_eqpn_f ty46 rfl rfl) <| sq_end) fun a w hF hS => ?_
 refine wp_if hF rfl (fun h => absurd h (by simp)) (fun _ => ?_)
 refine wp_skip ?_
 refine hK2 _ _ ?_
 refine reglS fun K4 hK4 => ?_
 refine lQ hF hS (mQ rfl <| sq_end) fun a w hF hS => ?_
 refine eQ hF hS rfl (ef_callx fn52 rfl (List.Perm.refl _) (by exact (open_ct _ _ (by assumption) _ _ hg0 hD))) ?_
 rintro _ _ _ a w ⟨_, _, rfl, rfl, ⟨rfl, jb2, qa3, qb4, qc5, qd6, ua7, ub8, uc9, ud10, rfl, rfl, hJ11, hD12⟩⟩ hF hS
 replace hS := nt0_8 hS
 refine lQ hF hS (mQ rfl <| q0 (q_extract rfl rfl) <| q0 (q_extract rfl rfl) <| aQ rfl <| aQ rfl <| sq_end) fun a w hF hS => ?_
 refine wpList_nil ?_
 obtain ⟨vn9, vbd9, vt9, hWf9, _⟩ := id hJ11
 have hw9a := hWf9.tl
 have hw9b := hWf9.nl
 have hw9c := hWf9.e2
 have htg := Lg.taken_good (Jn.opn S).tx
 have htgl := htg.len
 refine hK4 _ _ ?_
 refine k0 ?_; intro K5 hK5
 refine regS hF hS (mQ rfl <| q0 (q_nei rfl rfl) <| sq_end) fun a w hF hS => ?_
 refine wp_ifn hF rfl (fun hc2 => ?_) (fun hc2 => ?_)
 ·exact absurd rfl hc2
 ·refine wp_skip ?_
  refine hK5 _ _ ?_
  refine reglS fun K7 hK7 => ?_
  refine lQ hF hS (mQ rfl <| q0 (q_build1 ty119 2 kQ rfl rfl rfl (by decide)) <| sq_end) fun a w hF hS => ?_
  refine eQ hF hS rfl (ef_boxA rfl) ?_
  rintro _ _ _ a w ⟨b17, rfl, rfl, rfl⟩ hF hS
  refine eQ hF hS rfl (ef_alloc1 ty45 (by rfl)) ?_
  rintro _ _ _ a w ⟨b18, rfl, rfl, rfl⟩ hF hS
  refine eQ hF hS rfl (ef_store1 ty45 0 rfl rfl rfl rfl (by simp)) ?_
  rintro _ _ _ a w ⟨rfl, rfl, rfl⟩ hF hS
  (try simp only [List.set_cons_zero, List.set_cons_succ] at hS)
  replace hS : St _ (_) (_ :: _ :: _ :: _ :: _ :: _ :: _ :: _ :: _ :: _ :: _) _ := hS
  refine wpList_nil ?_
  replace hS := hS.nilRow 24 3
  replace hS : St _ (_) (_ :: _ :: _ :: _ :: _ :: _ :: _ :: _ :: _ :: _ :: _ :: _) _ := hS
  refine hK7 _ _ ?_
  refine k0 ?_; intro K8 hK8
  refine reglS fun K9 hK9 => ?_
  refine lQ hF hS (mQ rfl <| sq_end) fun a w hF hS => ?_
  replace hS := hS.perm P0_2
  replace hS := hS.perm (.cons _ (.cons _ (.cons _ (.swap _ _ _))))
  replace hS := hS.perm (.cons _ (.cons _ (.swap _ _ _)))
  replace hS := hS.perm (.cons _ (.swap _ _ _))
  replace hS := hS.perm (.cons _ (.cons _ (.cons _ (.cons _ (.swap _ _ _)))))
  replace hS := hS.perm (.cons _ (.cons _ (.cons _ (.swap _ _ _))))
  replace hS := hS.perm (.cons _ (.cons _ (.swap _ _ _)))
  replace hS := hS.perm (.cons _ (.cons _ (.cons _ (.cons _ (.cons _ (.swap _ _ _))))))
  replace hS := hS.perm (.cons _ (.cons _ (.cons _ (.cons _ (.swap _ _ _)))))
  replace hS := hS.perm (.cons _ (.cons _ (.cons _ (.swap _ _ _))))
  replace hS : St _ (_) (_ :: _ :: _ :: _ :: _ :: _ :: _ :: _ :: _ :: _ :: _ :: _) _ := hS
  refine eQ hF hS rfl (ef_callx fn53 rfl (List.Perm.refl _) (by exact (jtexts_ct _ _ _ _ _  hJ11))) ?_
  rintro v19 _ _ a w ⟨_, _, rfl, rfl, ⟨rfl, qa20, qb21, qc22, qd23, rfl, hJ24⟩⟩ hF hS
  replace hS : St _ (_) (_ :: _ :: _ :: _ :: _ :: _ :: _ :: _ :: _ :: _ :: _ :: _ :: _) _ := hS
  refine eQ hF hS rfl (ef_call fn68 rfl (fun w hS => taken_ct _ (row_one (hS.own _ (List.mem_of_getElem? (i := 0) rfl)).1) w )) ?_
  rintro _ _ _ a w ⟨_, _, rfl, rfl, ⟨e1, rfl, rfl, rfl⟩⟩ hF hS
  replace hS : St _ (_) (_ :: _ :: _ :: _ :: _ :: _ :: _ :: _ :: _ :: _ :: _ :: _ :: _ :: _) _ := hS
  refine wpList_nil (hK9 _ _ ?_)
  refine wp_block ?_
  replace hS := hS.perm (.swap _ _ _)
  obtain ⟨zt, hzt, hS⟩ := St.freezeV (h0 := fun _ => rfl) (f := vs) (p := fun s => s.length ≤ 140737488355328) hS rfl (by omega) hWf9.tr'
  replace hS := nt1_12 hS
  replace hS := hS.perm P1_6
  replace hS := hS.perm P2_5
  replace hS := nt1_12 hS
  obtain ⟨hs0, hhs0, hS⟩ := hS.oh
  obtain ⟨L0, hL0, hF⟩ : ∃ l, l = _ ∧ Fr _ l _ := ⟨_, rfl, hF⟩
  refine wp_rangeH (ps := [24]) (γ := (Res × Res)) (ξ := Nat) (fun r => (hs0.set 1 r.1).set 2 r.2) (fun (k : Nat) (r : Res × Res) => ∃ u, r = (.blk b17 119 [.pointer (some ⟨jb2, 0, none⟩), u], .row u 24 3 k (((Lg.taken (Jn.opn S).tx).take k).flatMap Lg.fcC))) ((Lg.taken (Jn.opn S).tx).length) (fun k => Lg.tkV (Jn.opn S).tx k) ((.blk b17 119 [.pointer (some ⟨jb2, 0, none⟩), (Value.slice none 0 0)], .row (Value.slice none 0 0) 24 3 0 [])) (fun k r x => (7, Value.pointer (some ⟨x, 0, none⟩)) :: (24, .agg [vi ((Lg.taken (Jn.opn S).tx).getD k Lg.f0).tk, vs ((Lg.taken (Jn.opn S).tx).getD k Lg.f0).ky, vs ((Lg.taken (Jn.opn S).tx).getD k Lg.f0).vl].toArray) :: L0) (fun k r x => .blk x 24 [vi ((Lg.taken (Jn.opn S).tx).getD k Lg.f0).tk, vs ((Lg.taken (Jn.opn S).tx).getD k Lg.f0).ky, vs ((Lg.taken (Jn.opn S).tx).getD k Lg.f0).vl] :: (hs0.set 1 r.1).set 2 r.2) hF (by subst hhs0; exact hS) (by subst hL0; rfl) rfl (fun _ => rfl) (fn104) (⟨_, rfl⟩) (fun ro m8 zB zD k9 r9 a w hk9 hi9 hF hS => ?_) (fun Y zs1 hzz hY w hS => ?_) (fun l9 m9 zB zD k9 r9 x9 a w hk9 hi9 hF hS => ?_) (fun I D zD a w r9 hno hI hD hi9 hF hS => ?_)
  ·subst hhs0 hL0
   (try dsimp only [argsL] at hF); (try dsimp only [List.set_cons_zero, List.set_cons_succ] at hS)
   replace hS : St _ (_ :: _ :: _ :: _) (_ :: _ :: _ :: _ :: _ :: _ :: _ :: _ :: _ :: _ :: _ :: _ :: _) _ := hS
   obtain ⟨u, rfl⟩ := hi9
   (try dsimp only at hS)
   replace hS : St _ (_ :: _ :: _ :: _) (_ :: _ :: _ :: _ :: _ :: _ :: _ :: _ :: _ :: _ :: _ :: _ :: _) _ := hS
   refine reglR (by rfl) ?_
   refine eQ hF hS rfl (ef_allocA ty24) ?_
   rintro _ _ _ a w ⟨b27, rfl, rfl, rfl⟩ hF hS
   refine eQ hF hS rfl (ef_storeW ty24 0 rfl rfl rfl rfl bQ (oc_cons rfl (oc_cons rfl (oc_cons rfl oc_nil))) bQ) ?_
   rintro _ _ _ a w ⟨rfl, rfl, rfl⟩ hF hS
   replace hS : St _ (_ :: _ :: _ :: _) (_ :: _ :: _ :: _ :: _ :: _ :: _ :: _ :: _ :: _ :: _ :: _ :: _ :: _) _ := hS
   refine listR ?_
   exact ⟨rfl, b27, hF, hS⟩
  ·subst hhs0 hL0
   exact CxH.full12 (taken1_ct e1 v19 (Jn.opn S).tx hWf9.tr Y _ _ zs1 _ (fun (k : Nat) (r : Res × Res) => ∃ u, r = (.blk b17 119 [.pointer (some ⟨jb2, 0, none⟩), u], .row u 24 3 k (((Lg.taken (Jn.opn S).tx).take k).flatMap Lg.fcC))) _ _ (.inr (hzz _ (by simp))) hzt ⟨(Value.slice none 0 0), rfl⟩ hY) w hS
  ·subst hhs0 hL0
   (try dsimp only [argsL] at hF); (try dsimp only [List.set_cons_zero, List.set_cons_succ] at hS)
   replace hS : St _ (_ :: _ :: _ :: _) (_ :: _ :: _ :: _ :: _ :: _ :: _ :: _ :: _ :: _ :: _ :: _ :: _ :: _) _ := hS
   obtain ⟨u, rfl⟩ := hi9
   (try dsimp only at hS)
   replace hS : St _ (_ :: _ :: _ :: _) (_ :: _ :: _ :: _ :: _ :: _ :: _ :: _ :: _ :: _ :: _ :: _ :: _ :: _) _ := hS
   refine wpIn_block ?_
   revert hS; revert hF; apply regJR (J := J2 (α0 := Value) (α1 := Value) 36 _ _ _ _ _) #[false, false, false, false, false, false, false, false, false, false, false] 11 mixed rfl rfl; case hd => rfl
   ·intro w hF hS
    refine tQ 0 rfl hF (hS.keep sQ (sQ.n.n.n.n.k.n.n.n.n.n.n.n.n)) (q_ld_blk1 ty45 0 rfl rfl rfl rfl) fun a hF => ?_
    refine tQ 1 rfl hF (hS.keep sQ (sQ.n.n.n.n.k.n.n.n.n.n.n.n.n)) (q_ld_blk1 ty45 0 rfl rfl rfl rfl) fun a hF => ?_
    refine tQ 2 rfl hF (hS.keep sQ (sQ.n.n.n.n.n.n.n.n.n.n.n.n.n)) (q_nilCheck rfl) fun a hF => ?_
    refine tQ 3 rfl hF (hS.keep sQ (sQ.n.n.n.n.n.n.n.n.n.n.n.n.n)) (q_fieldAddr ty119 rfl rfl (s' := 0) kQ) fun a hF => ?_
    refine tQ 4 rfl hF (hS.keep sQ (sQ.n.n.n.n.n.n.n.n.n.n.k.n.n)) (q_ld_blk1 ty26 0 rfl rfl rfl rfl) fun a hF => ?_
    refine tQ 5 rfl hF (hS.keep sQ (sQ.n.n.n.n.n.n.n.n.n.n.n.n.k)) (q_ld_blkW ty24 0 rfl rfl bQ rfl) fun a hF => ?_
    refine gQ 6 rfl rfl hF hS rfl (ef_bsliceW ty26 ty24 rfl bQ (by decide) oQ (by decide) (by decide)) ?_
    rintro v_9_6 _ _ a w ⟨rfl, rfl⟩ hF hS
    replace hS : St _ (_ :: _ :: _ :: _) (_ :: _ :: _ :: _ :: _ :: _ :: _ :: _ :: _ :: _ :: _ :: _ :: _ :: _ :: _) _ := hS
    refine ⟨⟨iQ, .inr (hS.keep sQ (sQ.n.n.n.n.n.n.n.n.n.n.k.n.n.n)), .inr (hS.keep sQ (sQ.n.n.n.n.n.n.n.n.n.n.n.n.n.n)), .inr (hS.keep sQ (sQ.n.n.n.n.n.n.n.n.n.n.n.n.n.n)), .inr (hS.keep sQ (sQ.n.n.n.n.k.n.n.n.n.n.n.n.n.n)), .inr (hS.keep sQ (sQ.n.n.n.n.k.n.n.n.n.n.n.n.n.n)), trivial⟩, ?_⟩
    refine gQ 7 rfl rfl hF hS rfl (ef_append ty26 ty24 4 rfl rfl rfl (src_row ty26 (k := 0) rfl oQ) bQ rfl (by decide)) ?_
    rintro v_9_7 _ _ a w ⟨rfl, rfl⟩ hF hS
    replace hS : St _ (_ :: _ :: _ :: _) (_ :: _ :: _ :: _ :: _ :: _ :: _ :: _ :: _ :: _ :: _ :: _ :: _ :: _ :: _) _ := hS
    refine ⟨⟨iQ, iQ, iQ, .inr (hS.keep sQ (sQ.n.n.n.n.n.n.n.n.n.n.n.n.n.n)), .inr (hS.keep sQ (sQ.n.n.n.n.k.n.n.n.n.n.n.n.n.n)), .inr (hS.keep sQ (sQ.n.n.n.n.k.n.n.n.n.n.n.n.n.n)), trivial⟩, ?_⟩
    refine tQ 8 rfl hF (hS.keep sQ (sQ.n.n.n.n.n.n.n.n.n.n.n.n.n.n)) (q_nilCheck rfl) fun a hF => ?_
    refine tQ 9 rfl hF (hS.keep sQ (sQ.n.n.n.n.n.n.n.n.n.n.n.n.n.n)) (q_fieldAddr ty119 rfl rfl (s' := 0) kQ) fun a hF => ?_
    refine gQ 10 rfl rfl hF hS rfl (ef_store1 ty26 3 rfl rfl rfl (row_one (hS.own _ (List.mem_of_getElem? (i := 4) rfl)).1) (by simp)) ?_
    rintro _ _ _ a w ⟨rfl, rfl, rfl⟩ hF hS
    replace hS : St _ (_ :: _ :: _ :: _) (_ :: _ :: _ :: .blk _ _ ([_, _].set 1 _) :: _ :: _ :: _ :: _ :: _ :: _ :: _ :: _ :: _ :: _ :: _) _ := hS
    simp only [List.set_cons_zero, List.set_cons_succ] at hS
    replace hS : St _ (_ :: _ :: _ :: _) (_ :: _ :: _ :: _ :: _ :: _ :: _ :: _ :: _ :: _ :: _ :: _ :: _ :: _ :: _) _ := hS
    refine ⟨⟨iQ, iQ, iQ, iQ, iQ, iQ, iQ, iQ, trivial⟩, ?_⟩
    exact goW_done kQ (j2_mk v_9_6 v_9_7 (trivial) (hF.sub (L' := []) trivial) hS)
   rintro a w ⟨v_9_6, v_9_7, -, hF, hS⟩
   (try dsimp only at hF hS)
   replace hS := hS.perm (.cons _ (.swap _ _ _))
   replace hS := hS.perm (.swap _ _ _)
   replace hS := hS.perm P1_2
   replace hS := hS.perm P2_3
   replace hS := hS.perm (.cons _ (.cons _ (.cons _ (.cons _ (.swap _ _ _)))))
   replace hS := hS.perm (.cons _ (.cons _ (.cons _ (.swap _ _ _))))
   replace hS := hS.perm (.cons _ (.cons _ (.cons _ (.cons _ (.cons _ (.swap _ _ _))))))
   replace hS := hS.perm (.cons _ (.cons _ (.cons _ (.cons _ (.swap _ _ _)))))
   replace hS := hS.perm (.cons _ (.cons _ (.cons _ (.cons _ (.cons _ (.cons _ (.swap _ _ _)))))))
   replace hS := hS.perm (.cons _ (.cons _ (.cons _ (.cons _ (.cons _ (.swap _ _ _))))))
   replace hS := hS.perm P6_7
   replace hS := hS.perm P7_8
   replace hS := hS.perm (.cons _ (.cons _ (.cons _ (.cons _ (.cons _ (.cons _ (.cons _ (.cons _ (.cons _ (.swap _ _ _))))))))))
   replace hS := hS.perm (.cons _ (.cons _ (.cons _ (.cons _ (.cons _ (.cons _ (.cons _ (.cons _ (.swap _ _ _)))))))))
   replace hS := hS.perm P9_10
   replace hS := hS.perm (.cons _ (.cons _ (.cons _ (.cons _ (.cons _ (.cons _ (.cons _ (.cons _ (.cons _ (.cons _ (.cons _ (.swap _ _ _))))))))))))
   replace hS := hS.perm (.cons _ (.cons _ (.cons _ (.cons _ (.cons _ (.cons _ (.cons _ (.cons _ (.cons _ (.cons _ (.swap _ _ _)))))))))))
   replace hS := hS.perm (.cons _ (.cons _ (.cons _ (.cons _ (.cons _ (.cons _ (.cons _ (.cons _ (.cons _ (.cons _ (.cons _ (.cons _ (.swap _ _ _)))))))))))))
   replace hS := hS.perm (.cons _ (.cons _ (.cons _ (.cons _ (.cons _ (.cons _ (.cons _ (.cons _ (.cons _ (.cons _ (.cons _ (.swap _ _ _))))))))))))
   rw [← Lg.tk_cells hk9] at hS
   exact ⟨rfl, (_, _), ⟨_, rfl⟩, hS.keep sQ (sQ.n.n.k.k.k.k.k.k.k.k.k.k.k.k)⟩
  subst hhs0 hL0
  (try dsimp only [argsL] at hF); (try dsimp only [List.set_cons_zero, List.set_cons_succ] at hS)
  replace hS : St _ (_ :: _ :: _) (_ :: _ :: _ :: _ :: _ :: _ :: _ :: _ :: _ :: _ :: _ :: _ :: _) _ := hS
  obtain ⟨u, rfl⟩ := hi9
  (try dsimp only at hS)
  replace hS : St _ (_ :: _ :: _) (_ :: _ :: _ :: _ :: _ :: _ :: _ :: _ :: _ :: _ :: _ :: _ :: _) _ := hS
  refine hK8 _ _ ?_
  refine regS hF hS (q0 (q_ld_blk1 ty45 7 rfl rfl rfl rfl) <| aQ rfl <| aQ rfl <| sq_end) fun a w hF hS => ?_
  refine wp_ret ?_
  replace hS := hS.perm (.swap _ _ _)
  replace hS := hS.perm (.cons _ (.swap _ _ _))
  replace hS := hS.perm P2_2
  replace hS := hS.perm P3_3
  replace hS := hS.perm (.cons _ (.cons _ (.cons _ (.cons _ (.swap _ _ _)))))
  replace hS := hS.perm (.cons _ (.cons _ (.cons _ (.cons _ (.cons _ (.swap _ _ _))))))
  replace hS := hS.perm P6_7
  replace hS := hS.perm P7_8
  replace hS := hS.perm (.cons _ (.cons _ (.cons _ (.cons _ (.cons _ (.cons _ (.cons _ (.cons _ (.cons _ (.swap _ _ _))))))))))
  replace hS := hS.perm (.cons _ (.cons _ (.cons _ (.cons _ (.cons _ (.cons _ (.cons _ (.cons _ (.swap _ _ _)))))))))
  replace hS := hS.perm P9_10
  rw [List.take_length] at hS
  exact fn_retGx hI hD (by simp) (fun z hz => by simp [hz]) (fun z hz => hno z (by simp [hz])) (rs := [.tmp 2, .tmp 3]) rfl hF hS (vs := [_, _]) ⟨rfl, rfl, trivial⟩ [_, _, _, _, _, _, _, _, _, _] (sQ.n.n.k.k.k.k.k.k.k.k.k.k) ⟨rfl, b17, jb2, _, _, _, _, _, _, _, _, _, rfl, rfl, hJ24, hD12⟩
end
section
theorem ty97 : Tf Tryz.prog 97 (.pointer 172) 1 8 (Value.pointer none) := ⟨Tryz.underlying97, by kernel_rfl⟩
theorem fn16 : FnOk Tryz.prog 16 := fQ Tryz.func16
theorem fn33 : FnOk Tryz.prog 33 := fQ Tryz.func33
theorem fn72 : FnOk Tryz.prog 72 := fQ Tryz.func72
attribute [local irreducible] Wi.int Wi.bytes Wi.getInt Wi.getBytes Sha.sum Jn.good Jn.hd Jn.lb Jn.cnt Jn.unp Jn.recd Jn.app Jn.opn Lg.dec Lg.enc
abbrev LB (bl b : Nat) (fv : Value) : Res := .blk bl 119 [.pointer (some ⟨b, 0, none⟩), fv]
abbrev LW (fv : Value) (l : List Lg.Fct) : Res := .row fv 24 3 l.length (l.flatMap Lg.fcC)
theorem ladd_ct (h : Dk.Hd) (bl b : Nat) (M : Lg.Ld) (f : Lg.Fct) (hf : Lg.FcOk f) (hfl : f.ky.length ≤ 1048576 ∧ f.vl.length ≤ 1048576) (w0 : World) (zsr : List PH) {fv : Value} {q1 q2 q3 q4 d1 d2 d3 d4 : Res} {fz0 : Nat × Nat} {bt0 : TypeId} (hg0 : w0.heap[1]? = some (.cells (Sha.kc.map vw).toArray bt0 fz0)) (hG : Lg.Good M.F) (hJ : JJ b h.b M.J q1 q2 q3 q4) (hD : DD h M.S d1 d2 d3 d4) : Cx Tryz.prog 36 [.pointer (some ⟨bl, 0, none⟩), .agg [vi f.tk, vs f.ky, vs f.vl].toArray] w0 zsr [.blk bl 119 [.pointer (some ⟨b, 0, none⟩), fv], .row fv 24 3 M.F.length (M.F.flatMap Lg.fcC), q1, q2, q3, q4, d1, d2, d3, d4] (Lg.LDR (LB bl b) LW (JJ b h.b) (DD h) (Lg.add M f).1 (vi (Lg.add M f).2)) := by
 refine fn_enterx Tryz.func36 rfl Tryz.ntmps36 (Nat.le_of_ble_eq_true rfl) fun hsr a w hF hS => ?_
 replace hS : St _ (_) (_ :: _ :: _ :: _ :: _ :: _ :: _ :: _ :: _ :: _ :: _) _ := hS
 have hgl := hG.len
 refine reglS fun K1 hK1 => ?_
 refine eQ hF hS rfl (ef_boxA rfl) ?_
 rintro _ _ _ a w ⟨b1, rfl, rfl, rfl⟩ hF hS
 refine lQ hF hS (aQ rfl <| sq_end) fun a w hF hS => ?_
 refine wpList_nil (hK1 _ _ ?_)
 refine k0 ?_; intro K2 hK2
 refine regS hF hS (mQ rfl <| q0 (q_eqpn_f ty45 rfl rfl) <| sq_end) fun a w hF hS => ?_
 refine wp_if hF rfl (fun h => absurd h (by simp)) (fun _ => ?_)
 refine wp_skip ?_
 refine hK2 _ _ ?_
 refine k0 ?_; intro K4 hK4
 refine regS hF hS (q0 (q_ld_blkW ty24 0 rfl rfl bQ rfl) <| q0 (q_call fn13 rfl (fun w hS => fval_ct f hf w ) (fun _ _ _ h => h)) <| aQ rfl <| sq_end) fun a w hF hS => ?_
 refine regS hF hS (mQ rfl <| q0 (q_nei rfl rfl) <| sq_end) fun a w hF hS => ?_
 refine wp_ifn hF rfl (fun hc2 => ?_) (fun hc2 => ?_)
 ·refine k0 ?_; intro K7 hK7
  refine reg hF hS (mQ rfl <| aQ rfl <| sq_end) fun a w hF hS => ?_
  refine hK7 _ _ ?_
  refine wp_ret ?_
  replace hS := hS.perm (.swap _ _ _)
  replace hS := hS.perm (.cons _ (.swap _ _ _))
  replace hS := hS.perm P2_2
  replace hS := hS.perm P3_3
  replace hS := hS.perm (.cons _ (.cons _ (.cons _ (.cons _ (.swap _ _ _)))))
  replace hS := hS.perm (.cons _ (.cons _ (.cons _ (.cons _ (.cons _ (.swap _ _ _))))))
  replace hS := hS.perm (.cons _ (.cons _ (.cons _ (.cons _ (.cons _ (.cons _ (.swap _ _ _)))))))
  replace hS := hS.perm (.cons _ (.cons _ (.cons _ (.cons _ (.cons _ (.cons _ (.cons _ (.swap _ _ _))))))))
  replace hS := hS.perm (.cons _ (.cons _ (.cons _ (.cons _ (.cons _ (.cons _ (.cons _ (.cons _ (.swap _ _ _)))))))))
  replace hS := hS.perm (.cons _ (.cons _ (.cons _ (.cons _ (.cons _ (.cons _ (.cons _ (.cons _ (.cons _ (.swap _ _ _))))))))))
  exact fn_retx (rs := [.tmp 4]) rfl hF hS (vs := [_]) ⟨rfl, trivial⟩ [] [_, _, _, _, _, _, _, _, _, _] sQ (sQ.n.k.k.k.k.k.k.k.k.k.k) (Lg.ldr_of (L := M) ⟨rfl, rfl, _, _, _, _, _, _, _, _, _, rfl, hJ, hD⟩ (by rw [Lg.add_1 hc2]) (by rw [Lg.add_1 hc2]))
 ·refine wp_skip ?_
  refine hK4 _ _ ?_
  refine k0 ?_; intro K8 hK8
  refine regdS mixed kQ hF hS (q0 (q_fieldAddr ty24 rfl rfl (s' := 0) kQ) <| q0 (q_ld_blk1 ty3 0 rfl rfl rfl rfl) <| mQ rfl <| q0 (q_call fn33 rfl (fun w hS => clock_ct _ _ _ _ w (own_box hS 1 rfl) (own_slK (hl := Lg.fcC_len) (h1 := Lg.fcC_one) (hS.own _ (List.mem_of_getElem? (i := 2) rfl)).1 rfl (by first | omega | (simp; done)) (Lg.good_fc hG))) (fun _ _ _ h => h)) <| q0 (q_lti rfl rfl) <| sq_end) fun a w hF hS => ?_
  refine wp_ifd hF rfl (fun hc3 => ?_) (fun hc3 => ?_)
  ·refine k0 ?_; intro K10 hK10
   refine reg hF hS (aQ rfl <| sq_end) fun a w hF hS => ?_
   refine hK10 _ _ ?_
   refine wp_ret ?_
   replace hS := hS.perm (.swap _ _ _)
   replace hS := hS.perm (.cons _ (.swap _ _ _))
   replace hS := hS.perm P2_2
   replace hS := hS.perm P3_3
   replace hS := hS.perm (.cons _ (.cons _ (.cons _ (.cons _ (.swap _ _ _)))))
   replace hS := hS.perm (.cons _ (.cons _ (.cons _ (.cons _ (.cons _ (.swap _ _ _))))))
   replace hS := hS.perm (.cons _ (.cons _ (.cons _ (.cons _ (.cons _ (.cons _ (.swap _ _ _)))))))
   replace hS := hS.perm (.cons _ (.cons _ (.cons _ (.cons _ (.cons _ (.cons _ (.cons _ (.swap _ _ _))))))))
   replace hS := hS.perm (.cons _ (.cons _ (.cons _ (.cons _ (.cons _ (.cons _ (.cons _ (.cons _ (.swap _ _ _)))))))))
   replace hS := hS.perm (.cons _ (.cons _ (.cons _ (.cons _ (.cons _ (.cons _ (.cons _ (.cons _ (.cons _ (.swap _ _ _))))))))))
   exact fn_retx (rs := [.tmp 4]) rfl hF hS (vs := [_]) ⟨rfl, trivial⟩ [] [_, _, _, _, _, _, _, _, _, _] sQ (sQ.n.k.k.k.k.k.k.k.k.k.k) (Lg.ldr_of (L := M) ⟨rfl, rfl, _, _, _, _, _, _, _, _, _, rfl, hJ, hD⟩ (by rw [Lg.add_2 hc2 hc3]) (by rw [Lg.add_2 hc2 hc3]))
  ·refine wp_skip ?_
   refine hK8 _ _ ?_
   refine k0 ?_; intro K11 hK11
   refine regS hF hS (mQ rfl <| q0 (q_nilCheck rfl) <| q0 (q_fieldAddr ty119 rfl rfl (s' := 0) kQ) <| q0 (q_ld_blk1 ty26 1 rfl rfl rfl rfl) <| q0 (q_len_row ty26 2 rfl rfl) <| q0 (q_gei rfl rfl) <| sq_end) fun a w hF hS => ?_
   refine wp_ifd hF rfl (fun hc4 => ?_) (fun hc4 => ?_)
   ·refine k0 ?_; intro K13 hK13
    refine reg hF hS (aQ rfl <| sq_end) fun a w hF hS => ?_
    refine hK13 _ _ ?_
    refine wp_ret ?_
    replace hS := hS.perm (.swap _ _ _)
    replace hS := hS.perm (.cons _ (.swap _ _ _))
    replace hS := hS.perm P2_2
    replace hS := hS.perm P3_3
    replace hS := hS.perm (.cons _ (.cons _ (.cons _ (.cons _ (.swap _ _ _)))))
    replace hS := hS.perm (.cons _ (.cons _ (.cons _ (.cons _ (.cons _ (.swap _ _ _))))))
    replace hS := hS.perm (.cons _ (.cons _ (.cons _ (.cons _ (.cons _ (.cons _ (.swap _ _ _)))))))
    replace hS := hS.perm (.cons _ (.cons _ (.cons _ (.cons _ (.cons _ (.cons _ (.cons _ (.swap _ _ _))))))))
    replace hS := hS.perm (.cons _ (.cons _ (.cons _ (.cons _ (.cons _ (.cons _ (.cons _ (.cons _ (.swap _ _ _)))))))))
    replace hS := hS.perm (.cons _ (.cons _ (.cons _ (.cons _ (.cons _ (.cons _ (.cons _ (.cons _ (.cons _ (.swap _ _ _))))))))))
    exact fn_retx (rs := [.tmp 4]) rfl hF hS (vs := [_]) ⟨rfl, trivial⟩ [] [_, _, _, _, _, _, _, _, _, _] sQ (sQ.n.k.k.k.k.k.k.k.k.k.k) (Lg.ldr_of (L := M) ⟨rfl, rfl, _, _, _, _, _, _, _, _, _, rfl, hJ, hD⟩ (by rw [Lg.add_3 hc2 hc3 (by omega)]) (by rw [Lg.add_3 hc2 hc3 (by omega)]))
   ·refine wp_skip ?_
    refine hK11 _ _ ?_
    refine k0 ?_; intro K14 hK14
    refine k0 ?_; intro K15 hK15
    revert hS; revert hF; apply regJ (J := J9 (α0 := Value) (α1 := Res) (α2 := Res) (α3 := Res) (α4 := Res) (α5 := Res) (α6 := Res) (α7 := Res) (α8 := Res) 50 _ _ _ _ _) #[false, false, false, false, false, false, false, false, false, false, false, false, false] 13 mixed rfl rfl
    ·intro w hF hS
     refine tQ 0 rfl hF (hS.keep sQ (sQ.n.n.n.n.n.n.n.n.n.n.n)) (q_move rfl) fun a hF => ?_
     refine tQ 1 rfl hF (hS.keep sQ (sQ.n.n.n.n.n.n.n.n.n.n.n)) (q_nilCheck rfl) fun a hF => ?_
     refine tQ 2 rfl hF (hS.keep sQ (sQ.n.n.n.n.n.n.n.n.n.n.n)) (q_fieldAddr ty119 rfl rfl (s' := 0) kQ) fun a hF => ?_
     refine tQ 3 rfl hF (hS.keep sQ (sQ.n.n.n.n.n.n.n.n.n.k.n)) (q_ld_blk1 ty97 0 rfl rfl rfl rfl) fun a hF => ?_
     refine tQ 4 rfl hF (hS.keep sQ (sQ.n.n.n.n.n.n.n.n.n.n.k)) (q_ld_blkW ty24 0 rfl rfl bQ rfl) fun a hF => ?_
     refine gQ 5 rfl rfl hF hS rfl (ef_call fn16 rfl (fun w hS => enc_ct f hf hfl w )) ?_
     rintro v_10_5 _ _ a w ⟨_, _, rfl, rfl, rfl, rfl⟩ hF hS
     replace hS : St _ (_) (_ :: _ :: _ :: _ :: _ :: _ :: _ :: _ :: _ :: _ :: _ :: _ :: _) _ := hS
     refine ⟨⟨iQ, .inr (hS.keep sQ (sQ.n.n.n.n.n.n.n.n.n.k.n.n)), .inr (hS.keep sQ (sQ.n.n.n.n.n.n.n.n.n.n.n.n)), .inr (hS.keep sQ (sQ.n.n.n.n.n.n.n.n.n.n.n.n)), .inr (hS.keep sQ (sQ.n.n.n.n.n.n.n.n.n.n.n.n)), trivial⟩, ?_⟩
     refine tQ 6 rfl hF (hS.keep sQ (sQ.n.n.n.n.n.n.n.n.n.n.n.k)) (q_b2s_row ty25 ty9 ty5 0 rfl rfl) fun a hF => ?_
     refine goW_fork [7] kQ rfl ⟨?_, trivial⟩
     replace hS := hS.perm P0_3
     replace hS := hS.perm P1_4
     replace hS := hS.perm P2_5
     replace hS := hS.perm P3_6
     replace hS := hS.perm (.cons _ (.cons _ (.cons _ (.cons _ (.cons _ (.cons _ (.cons _ (.swap _ _ _))))))))
     replace hS := hS.perm (.cons _ (.cons _ (.cons _ (.cons _ (.cons _ (.cons _ (.swap _ _ _)))))))
     replace hS := hS.perm (.cons _ (.cons _ (.cons _ (.cons _ (.cons _ (.swap _ _ _))))))
     replace hS := hS.perm (.cons _ (.cons _ (.cons _ (.cons _ (.swap _ _ _)))))
     replace hS := hS.perm (.cons _ (.cons _ (.cons _ (.cons _ (.cons _ (.cons _ (.cons _ (.cons _ (.swap _ _ _)))))))))
     replace hS := hS.perm (.cons _ (.cons _ (.cons _ (.cons _ (.cons _ (.cons _ (.cons _ (.swap _ _ _))))))))
     replace hS := hS.perm (.cons _ (.cons _ (.cons _ (.cons _ (.cons _ (.cons _ (.swap _ _ _)))))))
     replace hS := hS.perm (.cons _ (.cons _ (.cons _ (.cons _ (.cons _ (.swap _ _ _))))))
     replace hS := hS.perm (.cons _ (.cons _ (.cons _ (.cons _ (.cons _ (.cons _ (.cons _ (.cons _ (.cons _ (.swap _ _ _))))))))))
     replace hS := hS.perm (.cons _ (.cons _ (.cons _ (.cons _ (.cons _ (.cons _ (.cons _ (.cons _ (.swap _ _ _)))))))))
     replace hS := hS.perm (.cons _ (.cons _ (.cons _ (.cons _ (.cons _ (.cons _ (.cons _ (.swap _ _ _))))))))
     replace hS := hS.perm (.cons _ (.cons _ (.cons _ (.cons _ (.cons _ (.cons _ (.swap _ _ _)))))))
     replace hS := hS.perm P7_10
     replace hS : St _ (_) (_ :: _ :: _ :: _ :: _ :: _ :: _ :: _ :: _ :: _ :: _ :: _ :: _) _ := hS
     refine stepW_ef _ rfl rfl hF hS rfl (ef_callx fn72 rfl (List.Perm.refl _) (by exact (jappend_ct _ _ _ _ _ _ _ hg0 hJ hD))) ?_
     rintro _ _ _ a w ⟨_, _, rfl, rfl, ⟨rfl, rfl, qa_10_7, qb_10_7, qc_10_7, qd_10_7, ua_10_7, ub_10_7, uc_10_7, ud_10_7, rfl, hJ_10_7, hD_10_7⟩⟩ hF hS
     replace hS : St _ (_) (_ :: _ :: _ :: _ :: _ :: _ :: _ :: _ :: _ :: _ :: _ :: _ :: _) _ := hS
     refine ⟨⟨iQ, iQ, iQ, iQ, .inr (hS.keep sQ (sQ.n.n.n.n.n.n.n.n.n.n.n.n)), .inr (hS.keep sQ (sQ.n.n.n.n.n.n.n.n.n.n.n.n)), trivial⟩, ?_⟩
     refine tQ 8 rfl hF (hS.keep sQ (sQ.n.n.n.n.n.n.n.n.n.n.n.n)) (q_move rfl) fun a hF => ?_
     refine tQ 9 rfl hF (hS.keep sQ (sQ.n.n.n.n.n.n.n.n.n.n.n.n)) (q_extract rfl rfl) fun a hF => ?_
     refine tQ 10 rfl hF (hS.keep sQ (sQ.n.n.n.n.n.n.n.n.n.n.n.n)) (q_extract rfl rfl) fun a hF => ?_
     refine tQ 11 rfl hF (hS.keep sQ (sQ.n.n.n.n.n.n.n.n.n.n.n.n)) (q_assign rfl) fun a hF => ?_
     refine tQ 12 rfl hF (hS.keep sQ (sQ.n.n.n.n.n.n.n.n.n.n.n.n)) (q_assign rfl) fun a hF => ?_
     exact goW_done kQ (j9_mk v_10_5 qa_10_7 qb_10_7 qc_10_7 qd_10_7 ua_10_7 ub_10_7 uc_10_7 ud_10_7 ((And.intro hJ_10_7 (And.intro hD_10_7 trivial))) (hF.sub (L' := [(0, _), (3, _), (7, _)]) ⟨rfl, rfl, rfl, trivial⟩) hS)
    rintro a w ⟨v_10_5, qa_10_7, qb_10_7, qc_10_7, qd_10_7, ua_10_7, ub_10_7, uc_10_7, ud_10_7, ⟨hJ_10_7, hD_10_7, -⟩, hF, hS⟩
    (try dsimp only at hF hS)
    refine hK15 _ _ ?_
    refine regS hF hS (mQ rfl <| q0 (q_nei rfl rfl) <| sq_end) fun a w hF hS => ?_
    refine wp_ifn hF rfl (fun hc5 => ?_) (fun hc5 => ?_)
    ·refine k0 ?_; intro K17 hK17
     refine reg hF hS (mQ rfl <| aQ rfl <| sq_end) fun a w hF hS => ?_
     refine hK17 _ _ ?_
     refine wp_ret ?_
     replace hS := hS.perm P0_9
     replace hS := hS.perm P1_10
     exact fn_retx (rs := [.tmp 4]) rfl hF hS (vs := [_]) ⟨rfl, trivial⟩ [] [_, _, _, _, _, _, _, _, _, _] sQ (sQ.n.n.k.k.k.k.k.k.k.k.k.k) (Lg.ldr_of (L := ⟨(Jn.app M.J M.S (Lg.enc f)).1, (Jn.app M.J M.S (Lg.enc f)).2.1, M.F⟩) ⟨rfl, rfl, _, _, _, _, _, _, _, _, _, rfl, hJ_10_7, hD_10_7⟩ (by rw [Lg.add_4 hc2 hc3 (by omega) hc5]) (by rw [Lg.add_4 hc2 hc3 (by omega) hc5]))
    ·refine wp_skip ?_
     refine hK14 _ _ ?_
     refine k0 ?_; intro K18 hK18
     revert hS; revert hF; apply regJ (J := J2 (α0 := Value) (α1 := Value) 50 _ _ _ _ _) #[false, false, false, false, false, false, false, false, false, false, false] 11 mixed rfl rfl
     ·intro w hF hS
      refine tQ 0 rfl hF (hS.keep sQ (sQ.n.n.n.n.n.n.n.n.n.n.n.n)) (q_move rfl) fun a hF => ?_
      refine tQ 1 rfl hF (hS.keep sQ (sQ.n.n.n.n.n.n.n.n.n.n.n.n)) (q_move rfl) fun a hF => ?_
      refine tQ 2 rfl hF (hS.keep sQ (sQ.n.n.n.n.n.n.n.n.n.n.n.n)) (q_nilCheck rfl) fun a hF => ?_
      refine tQ 3 rfl hF (hS.keep sQ (sQ.n.n.n.n.n.n.n.n.n.n.n.n)) (q_fieldAddr ty119 rfl rfl (s' := 0) kQ) fun a hF => ?_
      refine tQ 4 rfl hF (hS.keep sQ (sQ.n.k.n.n.n.n.n.n.n.n.n.n)) (q_ld_blk1 ty26 0 rfl rfl rfl rfl) fun a hF => ?_
      refine tQ 5 rfl hF (hS.keep sQ (sQ.n.n.k.n.n.n.n.n.n.n.n.n)) (q_ld_blkW ty24 0 rfl rfl bQ rfl) fun a hF => ?_
      refine gQ 6 rfl rfl hF hS rfl (ef_bsliceW ty26 ty24 rfl bQ (by decide) oQ (by decide) (by decide)) ?_
      rintro v_13_6 _ _ a w ⟨rfl, rfl⟩ hF hS
      replace hS : St _ (_) (_ :: _ :: _ :: _ :: _ :: _ :: _ :: _ :: _ :: _ :: _ :: _ :: _ :: _) _ := hS
      refine ⟨⟨iQ, .inr (hS.keep sQ (sQ.n.k.n.n.n.n.n.n.n.n.n.n.n)), .inr (hS.keep sQ (sQ.n.n.n.n.n.n.n.n.n.n.n.n.n)), .inr (hS.keep sQ (sQ.n.n.n.n.n.n.n.n.n.n.n.n.n)), .inr (hS.keep sQ (sQ.n.n.n.n.n.n.n.n.n.n.n.n.n)), .inr (hS.keep sQ (sQ.n.n.n.n.n.n.n.n.n.n.n.n.n)), trivial⟩, ?_⟩
      refine gQ 7 rfl rfl hF hS rfl (ef_append ty26 ty24 12 rfl rfl rfl (src_row ty26 (k := 0) rfl oQ) bQ rfl (by decide)) ?_
      rintro v_13_7 _ _ a w ⟨rfl, rfl⟩ hF hS
      replace hS : St _ (_) (_ :: _ :: _ :: _ :: _ :: _ :: _ :: _ :: _ :: _ :: _ :: _ :: _ :: _) _ := hS
      refine ⟨⟨iQ, iQ, iQ, .inr (hS.keep sQ (sQ.n.n.n.n.n.n.n.n.n.n.n.n.n)), .inr (hS.keep sQ (sQ.n.n.n.n.n.n.n.n.n.n.n.n.n)), .inr (hS.keep sQ (sQ.n.n.n.n.n.n.n.n.n.n.n.n.n)), trivial⟩, ?_⟩
      refine tQ 8 rfl hF (hS.keep sQ (sQ.n.n.n.n.n.n.n.n.n.n.n.n.n)) (q_nilCheck rfl) fun a hF => ?_
      refine tQ 9 rfl hF (hS.keep sQ (sQ.n.n.n.n.n.n.n.n.n.n.n.n.n)) (q_fieldAddr ty119 rfl rfl (s' := 0) kQ) fun a hF => ?_
      refine gQ 10 rfl rfl hF hS rfl (ef_store1 ty26 11 rfl rfl rfl (row_one (hS.own _ (List.mem_of_getElem? (i := 12) rfl)).1) (by simp)) ?_
      rintro _ _ _ a w ⟨rfl, rfl, rfl⟩ hF hS
      replace hS : St _ (_) (_ :: _ :: _ :: _ :: _ :: _ :: _ :: _ :: _ :: _ :: _ :: .blk _ _ ([_, _].set 1 _) :: _ :: _) _ := hS
      simp only [List.set_cons_zero, List.set_cons_succ] at hS
      replace hS : St _ (_) (_ :: _ :: _ :: _ :: _ :: _ :: _ :: _ :: _ :: _ :: _ :: _ :: _ :: _) _ := hS
      refine ⟨⟨iQ, iQ, iQ, iQ, iQ, iQ, iQ, iQ, trivial⟩, ?_⟩
      exact goW_done kQ (j2_mk v_13_6 v_13_7 (trivial) (hF.sub (L' := []) trivial) hS)
     rintro a w ⟨v_13_6, v_13_7, -, hF, hS⟩
     (try dsimp only at hF hS)
     refine hK18 _ _ ?_
     refine regS hF hS (aQ rfl <| sq_end) fun a w hF hS => ?_
     refine wp_ret ?_
     rw [Lg.fc_snoc, Lg.len_snoc M.F f] at hS
     replace hS := hS.perm P0_10
     replace hS := hS.perm P1_11
     replace hS := hS.perm P2_2
     replace hS := hS.perm P3_3
     replace hS := hS.perm (.cons _ (.cons _ (.cons _ (.cons _ (.swap _ _ _)))))
     replace hS := hS.perm (.cons _ (.cons _ (.cons _ (.cons _ (.cons _ (.swap _ _ _))))))
     replace hS := hS.perm (.cons _ (.cons _ (.cons _ (.cons _ (.cons _ (.cons _ (.swap _ _ _)))))))
     replace hS := hS.perm (.cons _ (.cons _ (.cons _ (.cons _ (.cons _ (.cons _ (.cons _ (.swap _ _ _))))))))
     replace hS := hS.perm (.cons _ (.cons _ (.cons _ (.cons _ (.cons _ (.cons _ (.cons _ (.cons _ (.swap _ _ _)))))))))
     replace hS := hS.perm (.cons _ (.cons _ (.cons _ (.cons _ (.cons _ (.cons _ (.cons _ (.cons _ (.cons _ (.swap _ _ _))))))))))
     exact fn_retx (rs := [.tmp 4]) rfl hF hS (vs := [_]) ⟨rfl, trivial⟩ [] [_, _, _, _, _, _, _, _, _, _] sQ (sQ.n.n.n.k.k.k.k.k.k.k.k.k.k) (Lg.ldr_of (L := ⟨(Jn.app M.J M.S (Lg.enc f)).1, (Jn.app M.J M.S (Lg.enc f)).2.1, M.F ++ [f]⟩) ⟨rfl, rfl, _, _, _, _, _, _, _, _, _, rfl, hJ_10_7, hD_10_7⟩ (by rw [Lg.add_5 hc2 hc3 (by omega) hc5]) (by rw [Lg.add_5 hc2 hc3 (by omega) hc5]))
end
section
theorem fn26 : FnOk Tryz.prog 26 := fQ Tryz.func26
theorem fn31 : FnOk Tryz.prog 31 := fQ Tryz.func31
theorem fn32 : FnOk Tryz.prog 32 := fQ Tryz.func32
theorem fn35 : FnOk Tryz.prog 35 := fQ Tryz.func35
theorem fn36 : FnOk Tryz.prog 36 := fQ Tryz.func36
theorem fn37 : FnOk Tryz.prog 37 := fQ Tryz.func37
theorem fn38 : FnOk Tryz.prog 38 := fQ Tryz.func38
theorem fn46 : FnOk Tryz.prog 46 := fQ Tryz.func46
theorem fn50 : FnOk Tryz.prog 50 := fQ Tryz.func50
theorem fn63 : FnOk Tryz.prog 63 := fQ Tryz.func63
attribute [local irreducible] Wi.int Wi.bytes Wi.getInt Wi.getBytes Sha.sum Jn.good Jn.hd Jn.lb Jn.cnt Jn.unp Jn.recd Jn.app Jn.opn Lg.dec Lg.enc Dk.new Dk.trip Dk.mount Lg.add Lg.kn Lg.keys Lg.taken
theorem samet_k (va vb9 : Value) (w : World) (hb1 : Sl Go.Fw.encS (ph w) va (Lg.keys [Lg.x1, Lg.x2] 4)) (hb2 : Sl Go.Fw.encS (ph w) vb9 [[97]]) : Ct Tryz.prog 37 [va, vb9] w (fun r _ _ => r = .bool true) := by
 have h := samet_ct va vb9 _ _ w hb1 hb2
 rw [Lg.ks4, decide_eq_true rfl] at h
 exact h
theorem samef_t (va vb9 : Value) (xs : List Lg.Fct) (w : World) (hb1 : Sl Go.Fw.encY (ph w) va xs) (hb2 : Sl Go.Fw.encY (ph w) vb9 xs) : Ct Tryz.prog 32 [va, vb9] w (fun r _ _ => r = .bool true) := by
 have h := samef_ct va vb9 xs xs w hb1 hb2
 rw [decide_eq_true rfl] at h
 exact h
theorem lives41_ct (w : World) {fz0 : Nat × Nat} {bt0 : TypeId} (hg0 : w.heap[1]? = some (.cells (Sha.kc.map vw).toArray bt0 fz0)) : Ct Tryz.prog 20 [] w (fun r _ _ => r = .bool true) := by
 refine fn_enter Tryz.func20 rfl Tryz.ntmps20 (Nat.le_of_ble_eq_true rfl) fun a hF hS => ?_
 obtain ⟨F1, F2, ha1, ha2, ha3, ha4, hmt, hop, hof2⟩ := Lg.lives2
 have hof8 := Lg.of8
 have hgd0 := Lg.good_nil
 have hgd1 := Lg.good1
 have hgd2 := Lg.good2
 have hfk0 := Lg.good_fc Lg.good_nil
 have hfk1 := Lg.good_fc Lg.good1
 have hfk2 := Lg.good_fc Lg.good2
 have hkl9 : (Lg.keys [Lg.x1, Lg.x2] 4).length ≤ 140737488355328 := by rw [Lg.ks4]; decide
 refine regS hF hS (aQ rfl <| sq_end) fun a w hF hS => ?_
 refine reglS fun K2 hK2 => ?_
 refine eQ hF hS rfl (ef_call fn63 rfl (fun w hS => dnew_ct 8 (by decide) w )) ?_
 rintro _ _ _ a w ⟨_, _, rfl, rfl, ⟨rfl, hh2, qa3, qb4, qc5, qd6, rfl, rfl, hD7⟩⟩ hF hS
 replace hS := nl0_4 hS
 refine lQ hF hS (mQ rfl <| q0 (q_extract rfl rfl) <| q0 (q_extract rfl rfl) <| aQ rfl <| aQ rfl <| sq_end) fun a w hF hS => ?_
 refine wpList_nil (hK2 _ _ ?_)
 refine k0 ?_; intro K3 hK3
 refine regS hF hS (mQ rfl <| q0 (q_nf (q_nei rfl rfl) (by decide)) <| mQ rfl <| sq_go 26 rfl rfl rfl (q_move rfl) <| sq_go 26 rfl rfl rfl (q_eqpn_f ty46 rfl rfl) <| q0 (q_pick_f rfl rfl) <| sq_end) fun a w hF hS => ?_
 refine wp_if hF rfl (fun h => absurd h (by simp)) (fun _ => ?_)
 refine wp_skip ?_
 refine hK3 _ _ ?_
 refine reglS fun K5 hK5 => ?_
 refine lQ hF hS (mQ rfl <| sq_end) fun a w hF hS => ?_
 refine eQ hF hS rfl (ef_callx fn31 rfl (List.Perm.refl _) (by exact (lopen_ct _ _ (by assumption) _ _ hg0 hD7))) ?_
 rintro _ _ _ a w ⟨_, _, rfl, rfl, ⟨rfl, bl13, jb14, fv15, qa16, qb17, qc18, qd19, ua20, ub21, uc22, ud23, rfl, rfl, hJ24, hD25⟩⟩ hF hS
 replace hS := nl0_10 hS
 refine lQ hF hS (mQ rfl <| q0 (q_extract rfl rfl) <| q0 (q_extract rfl rfl) <| aQ rfl <| aQ rfl <| sq_end) fun a w hF hS => ?_
 refine wpList_nil ?_
 rw [Lg.op0] at hJ24
 rw [Lg.op0, Lg.tk0] at hS
 (try dsimp only at hS)
 refine hK5 _ _ ?_
 refine k0 ?_; intro K6 hK6
 refine regS hF hS (mQ rfl <| q0 (q_nf (q_nei rfl rfl) (by decide)) <| mQ rfl <| sq_go 37 rfl rfl rfl (q_move rfl) <| sq_go 37 rfl rfl rfl (q_eqpn_f ty45 rfl rfl) <| q0 (q_pick_f rfl rfl) <| mQ rfl <| sq_go 41 rfl rfl rfl (q_move rfl) <| sq_go 41 rfl rfl rfl (q_call fn33 rfl (fun w hS => clock_ct _ _ _ _ w (own_box hS 0 rfl) (own_slK (hl := Lg.fcC_len) (h1 := Lg.fcC_one) (hS.own _ (List.mem_of_getElem? (i := 1) rfl)).1 rfl (by first | omega | (simp; done)) (by assumption))) (fun _ _ _ h => h)) <| sq_go 41 rfl rfl rfl (q_nf (q_nei rfl rfl) (by decide)) <| q0 (q_pick_f rfl rfl) <| sq_end) fun a w hF hS => ?_
 refine wp_if hF rfl (fun h => absurd h (by simp)) (fun _ => ?_)
 refine wp_skip ?_
 refine hK6 _ _ ?_
 refine k0 ?_; intro K8 hK8
 refine reg hF hS (mQ rfl <| q0 (q_call fn38 rfl (fun w hS => at_ct _ _ _ _ _ _ Lg.good_nil.srt (by decide) w (own_box hS 0 rfl) (own_slK (hl := Lg.fcC_len) (h1 := Lg.fcC_one) (hS.own _ (List.mem_of_getElem? (i := 1) rfl)).1 rfl (by first | omega | (simp; done)) (by assumption))) (fun _ _ _ h => h)) <| mQ rfl <| q0 (q_extract rfl rfl) <| q0 (q_extract rfl rfl) <| aQ rfl <| aQ rfl <| sq_end) fun a w hF hS => ?_
 rw [Lg.kn0] at hF; (try dsimp only at hF)
 refine hK8 _ _ ?_
 refine reglS fun K9 hK9 => ?_
 refine lQ hF hS (mQ rfl <| q0 (q_buildS1 ty24 3 kQ rfl rfl (oc_cons rfl (oc_cons rfl (oc_cons rfl oc_nil))) rfl rfl) <| sq_end) fun a w hF hS => ?_
 refine eQ hF hS rfl (ef_callx fn36 rfl (List.Perm.refl _) (by exact (ladd_ct _ _ _ Lg.E0 Lg.x1 (Lg.x_ok.1) (by decide) _ _ hg0 (by assumption) hJ24 hD25 (fv := fv15)))) ?_
 rintro _ _ _ a w ⟨_, _, rfl, rfl, ⟨rfl, rfl, fv33, qa34, qb35, qc36, qd37, ua38, ub39, uc40, ud41, rfl, hJ42, hD43⟩⟩ hF hS
 replace hS := nl0_10 hS
 refine lQ hF hS (aQ rfl <| sq_end) fun a w hF hS => ?_
 refine wpList_nil ?_
 rw [ha1] at hJ42; (try dsimp only [Lg.E0, Lg.E1, Lg.E2, Lg.E3, Lg.E4] at hJ42)
 rw [ha1] at hD43; (try dsimp only [Lg.E0, Lg.E1, Lg.E2, Lg.E3, Lg.E4] at hD43)
 rw [ha1] at hS; (try dsimp only [Lg.E0, Lg.E1, Lg.E2, Lg.E3, Lg.E4] at hS)
 rw [ha1] at hF; (try dsimp only [Lg.E0, Lg.E1, Lg.E2, Lg.E3, Lg.E4] at hF)
 refine hK9 _ _ ?_
 refine reglS fun K10 hK10 => ?_
 refine lQ hF hS (mQ rfl <| q0 (q_buildS1 ty24 3 kQ rfl rfl (oc_cons rfl (oc_cons rfl (oc_cons rfl oc_nil))) rfl rfl) <| sq_end) fun a w hF hS => ?_
 refine eQ hF hS rfl (ef_callx fn36 rfl (List.Perm.refl _) (by exact (ladd_ct _ _ _ (Lg.E1 F1) Lg.x2 (Lg.x_ok.2.1) (by decide) _ _ hg0 (by assumption) hJ42 hD43 (fv := fv33)))) ?_
 rintro _ _ _ a w ⟨_, _, rfl, rfl, ⟨rfl, rfl, fv45, qa46, qb47, qc48, qd49, ua50, ub51, uc52, ud53, rfl, hJ54, hD55⟩⟩ hF hS
 replace hS := nl0_10 hS
 refine lQ hF hS (aQ rfl <| sq_end) fun a w hF hS => ?_
 refine wpList_nil ?_
 rw [ha2] at hJ54; (try dsimp only [Lg.E0, Lg.E1, Lg.E2, Lg.E3, Lg.E4] at hJ54)
 rw [ha2] at hD55; (try dsimp only [Lg.E0, Lg.E1, Lg.E2, Lg.E3, Lg.E4] at hD55)
 rw [ha2] at hS; (try dsimp only [Lg.E0, Lg.E1, Lg.E2, Lg.E3, Lg.E4] at hS)
 rw [ha2] at hF; (try dsimp only [Lg.E0, Lg.E1, Lg.E2, Lg.E3, Lg.E4] at hF)
 refine hK10 _ _ ?_
 refine reglS fun K11 hK11 => ?_
 refine lQ hF hS (mQ rfl <| q0 (q_buildS1 ty24 3 kQ rfl rfl (oc_cons rfl (oc_cons rfl (oc_cons rfl oc_nil))) rfl rfl) <| sq_end) fun a w hF hS => ?_
 refine eQ hF hS rfl (ef_callx fn36 rfl (List.Perm.refl _) (by exact (ladd_ct _ _ _ (Lg.E2 F2) Lg.x3 (Lg.x_ok.2.2.1) (by decide) _ _ hg0 (by assumption) hJ54 hD55 (fv := fv45)))) ?_
 rintro _ _ _ a w ⟨_, _, rfl, rfl, ⟨rfl, rfl, fv57, qa58, qb59, qc60, qd61, ua62, ub63, uc64, ud65, rfl, hJ66, hD67⟩⟩ hF hS
 replace hS := nl0_10 hS
 refine lQ hF hS (aQ rfl <| sq_end) fun a w hF hS => ?_
 refine wpList_nil ?_
 rw [ha3] at hJ66; (try dsimp only [Lg.E0, Lg.E1, Lg.E2, Lg.E3, Lg.E4] at hJ66)
 rw [ha3] at hD67; (try dsimp only [Lg.E0, Lg.E1, Lg.E2, Lg.E3, Lg.E4] at hD67)
 rw [ha3] at hS; (try dsimp only [Lg.E0, Lg.E1, Lg.E2, Lg.E3, Lg.E4] at hS)
 rw [ha3] at hF; (try dsimp only [Lg.E0, Lg.E1, Lg.E2, Lg.E3, Lg.E4] at hF)
 refine hK11 _ _ ?_
 refine k0 ?_; intro K12 hK12
 refine reg hF hS (mQ rfl <| q0 (q_call fn38 rfl (fun w hS => at_ct _ _ _ _ _ _ Lg.good2.srt (by decide) w (own_box hS 0 rfl) (own_slK (hl := Lg.fcC_len) (h1 := Lg.fcC_one) (hS.own _ (List.mem_of_getElem? (i := 1) rfl)).1 rfl (by first | omega | (simp; done)) (by assumption))) (fun _ _ _ h => h)) <| mQ rfl <| q0 (q_extract rfl rfl) <| q0 (q_extract rfl rfl) <| aQ rfl <| aQ rfl <| sq_end) fun a w hF hS => ?_
 rw [Lg.kn2] at hF; (try dsimp only at hF)
 refine hK12 _ _ ?_
 refine k0 ?_; intro K13 hK13
 refine reg hF hS (mQ rfl <| q0 (q_call fn38 rfl (fun w hS => at_ct _ _ _ _ _ _ Lg.good2.srt (by decide) w (own_box hS 0 rfl) (own_slK (hl := Lg.fcC_len) (h1 := Lg.fcC_one) (hS.own _ (List.mem_of_getElem? (i := 1) rfl)).1 rfl (by first | omega | (simp; done)) (by assumption))) (fun _ _ _ h => h)) <| mQ rfl <| q0 (q_extract rfl rfl) <| q0 (q_extract rfl rfl) <| aQ rfl <| aQ rfl <| sq_end) fun a w hF hS => ?_
 rw [Lg.kn4] at hF; (try dsimp only at hF)
 refine hK13 _ _ ?_
 refine k0 ?_; intro K14 hK14
 refine reg hF hS (mQ rfl <| q0 (q_call fn38 rfl (fun w hS => at_ct _ _ _ _ _ _ Lg.good2.srt (by decide) w (own_box hS 0 rfl) (own_slK (hl := Lg.fcC_len) (h1 := Lg.fcC_one) (hS.own _ (List.mem_of_getElem? (i := 1) rfl)).1 rfl (by first | omega | (simp; done)) (by assumption))) (fun _ _ _ h => h)) <| mQ rfl <| q0 (q_extract rfl rfl) <| q0 (q_extract rfl rfl) <| aQ rfl <| aQ rfl <| sq_end) fun a w hF hS => ?_
 rw [Lg.kn5] at hF; (try dsimp only at hF)
 refine hK14 _ _ ?_
 refine k0 ?_; intro K15 hK15
 refine reglS fun K16 hK16 => ?_
 refine lQ hF hS (mQ rfl <| mQ rfl <| sq_go 76 rfl rfl rfl (q_move rfl) <| sq_go 76 rfl rfl rfl (q_nf (q_nei rfl rfl) (by decide)) <| q0 (q_pick_f rfl rfl) <| mQ rfl <| sq_go 80 rfl rfl rfl (q_move rfl) <| sq_go 80 rfl rfl rfl (q_nf (q_nei rfl rfl) (by decide)) <| q0 (q_pick_f rfl rfl) <| mQ rfl <| sq_go 84 rfl rfl rfl (q_move rfl) <| sq_go 84 rfl rfl rfl (q_nf (q_nei rfl rfl) (by decide)) <| q0 (q_pick_f rfl rfl) <| mQ rfl <| sq_go 88 rfl rfl rfl (q_move rfl) <| q0 (q_pick_f rfl rfl) <| mQ rfl <| sq_go 91 rfl rfl rfl (q_move rfl) <| sq_go 91 rfl rfl rfl (q_not rfl) <| q0 (q_pick_f rfl rfl) <| mQ rfl <| sq_go 95 rfl rfl rfl (q_move rfl) <| sq_go 95 rfl rfl rfl (q_not rfl) <| q0 (q_pick_f rfl rfl) <| mQ rfl <| sq_go 99 rfl rfl rfl (q_move rfl) <| sq_go 99 rfl rfl rfl (q_nf (q_nes (q := [120]) rfl rfl) (by decide)) <| q0 (q_pick_f rfl rfl) <| mQ rfl <| sq_go 103 rfl rfl rfl (q_move rfl) <| sq_go 103 rfl rfl rfl (q_nf (q_nes (q := [121]) rfl rfl) (by decide)) <| q0 (q_pick_f rfl rfl) <| mQ rfl <| sq_go 107 rfl rfl rfl (q_move rfl) <| sq_end) fun a w hF hS => ?_
 refine wpl_efg hF hS (wanted_go 107 rfl rfl) rfl (ef_call fn35 rfl (fun w hS => keys_ct _ _ _ _ _ Lg.good2.srt (by decide) w (own_box hS 0 rfl) (own_slK (hl := Lg.fcC_len) (h1 := Lg.fcC_one) (hS.own _ (List.mem_of_getElem? (i := 1) rfl)).1 rfl (by first | omega | (simp; done)) (by assumption)))) ?_
 rintro v68 _ _ a w ⟨_, _, rfl, rfl, ⟨rfl, rfl⟩⟩ hF hS
 replace hS : St _ [] [_, _, _, _, _, _, _, _, _, _, _] _ := hS
 refine wpl_efg hF hS (wanted_go 107 rfl rfl) rfl (ef_bsliceA ty40 ty9 rfl rfl oQ (by decide) rfl rfl) ?_
 rintro v70 _ _ a w ⟨rfl, rfl⟩ hF hS
 replace hS : St _ [] [_, _, _, _, _, _, _, _, _, _, _, _] _ := hS
 refine lQ hF hS (sq_go 107 rfl rfl rfl (q_call fn37 rfl (fun w hS => samet_k _ _ w (own_slV (f := vs) (xs := (Lg.keys [Lg.x1, Lg.x2] 4)) (hS.own _ (List.mem_of_getElem? (i := 1) rfl)).1 (by rw [Lg.ks4]; decide) rfl (by first | decide | omega)) (own_slV (f := vs) (xs := [[97]]) (hS.own _ (List.mem_of_getElem? (i := 0) rfl)).1 (by decide) rfl (by first | decide | omega))) (fun _ _ _ h => h)) <| sq_go 107 rfl rfl rfl (q_not rfl) <| q0 (q_pick_f rfl rfl) <| mQ rfl <| sq_go 114 rfl rfl rfl (q_move rfl) <| sq_go 114 rfl rfl rfl (q_call fn33 rfl (fun w hS => clock_ct _ _ _ _ w (own_box hS 2 rfl) (own_slK (hl := Lg.fcC_len) (h1 := Lg.fcC_one) (hS.own _ (List.mem_of_getElem? (i := 3) rfl)).1 rfl (by first | omega | (simp; done)) (by assumption))) (fun _ _ _ h => h)) <| sq_go 114 rfl rfl rfl (q_nf (q_nei rfl rfl) (by decide)) <| q0 (q_pick_f rfl rfl) <| sq_end) fun a w hF hS => ?_
 refine wpList_nil (hK16 _ _ ?_)
 refine wp_if hF rfl (fun h => absurd h (by simp)) (fun _ => ?_)
 refine wp_skip ?_
 refine hK15 _ _ ?_
 refine reglS fun K17 hK17 => ?_
 refine lQ hF hS (mQ rfl <| sq_end) fun a w hF hS => ?_
 replace hS := hS.perm P0_7
 replace hS := hS.perm P1_8
 replace hS := hS.perm P2_9
 replace hS := hS.perm P3_10
 replace hS : St _ [] [_, _, _, _, _, _, _, _, _, _, _, _] _ := hS
 refine eQ hF hS rfl (ef_callx fn46 rfl (List.Perm.refl _) (by exact (dtrip_ct _ _ _ (by omega) _ _  hD67))) ?_
 rintro _ _ _ a w ⟨_, _, rfl, rfl, ⟨rfl, rfl, qa73, qb74, qc75, qd76, rfl, hD77⟩⟩ hF hS
 replace hS : St _ [] [_, _, _, _, _, _, _, _, _, _, _, _] _ := hS
 refine wpList_nil (hK17 _ _ ?_)
 refine reglS fun K18 hK18 => ?_
 refine lQ hF hS (mQ rfl <| q0 (q_buildS1 ty24 3 kQ rfl rfl (oc_cons rfl (oc_cons rfl (oc_cons rfl oc_nil))) rfl rfl) <| sq_end) fun a w hF hS => ?_
 replace hS := hS.perm (.cons _ (.cons _ (.cons _ (.cons _ (.cons _ (.swap _ _ _))))))
 replace hS := hS.perm (.cons _ (.cons _ (.cons _ (.cons _ (.swap _ _ _)))))
 replace hS := hS.perm (.cons _ (.cons _ (.cons _ (.swap _ _ _))))
 replace hS := hS.perm (.cons _ (.cons _ (.swap _ _ _)))
 replace hS := hS.perm (.cons _ (.swap _ _ _))
 replace hS := hS.perm (.swap _ _ _)
 replace hS := hS.perm P1_6
 replace hS := hS.perm P2_7
 replace hS := hS.perm P3_8
 replace hS := hS.perm P4_9
 replace hS := hS.perm P5_10
 replace hS : St _ [] [_, _, _, _, _, _, _, _, _, _, _, _] _ := hS
 refine eQ hF hS rfl (ef_callx fn36 rfl (List.Perm.refl _) (by exact (ladd_ct _ _ _ (Lg.E3 F2) Lg.x4 (Lg.x_ok.2.2.2) (by decide) _ _ hg0 (by assumption) hJ66 hD77 (fv := fv57)))) ?_
 rintro _ _ _ a w ⟨_, _, rfl, rfl, ⟨rfl, rfl, fv79, qa80, qb81, qc82, qd83, ua84, ub85, uc86, ud87, rfl, hJ88, hD89⟩⟩ hF hS
 replace hS : St _ [] [_, _, _, _, _, _, _, _, _, _, _, _] _ := hS
 refine lQ hF hS (aQ rfl <| sq_end) fun a w hF hS => ?_
 refine wpList_nil ?_
 rw [ha4] at hJ88; (try dsimp only [Lg.E0, Lg.E1, Lg.E2, Lg.E3, Lg.E4] at hJ88)
 rw [ha4] at hD89; (try dsimp only [Lg.E0, Lg.E1, Lg.E2, Lg.E3, Lg.E4] at hD89)
 rw [ha4] at hS; (try dsimp only [Lg.E0, Lg.E1, Lg.E2, Lg.E3, Lg.E4] at hS)
 rw [ha4] at hF; (try dsimp only [Lg.E0, Lg.E1, Lg.E2, Lg.E3, Lg.E4] at hF)
 refine hK18 _ _ ?_
 refine reglS fun K19 hK19 => ?_
 refine lQ hF hS (mQ rfl <| sq_end) fun a w hF hS => ?_
 refine eQ hF hS rfl (ef_call fn26 rfl (fun w hS => facts_ct _ _ _ _ (by decide) w (own_box hS 0 rfl) (own_slK (hl := Lg.fcC_len) (h1 := Lg.fcC_one) (hS.own _ (List.mem_of_getElem? (i := 1) rfl)).1 rfl (by first | omega | (simp; done)) (by assumption)))) ?_
 rintro v90 _ _ a w ⟨_, _, rfl, rfl, ⟨rfl, rfl⟩⟩ hF hS
 replace hS : St _ [] [_, _, _, _, _, _, _, _, _, _, _, _, _] _ := hS
 refine lQ hF hS (q0 (q_len_row ty26 0 rfl rfl) <| aQ rfl <| sq_end) fun a w hF hS => ?_
 refine wpList_nil (hK19 _ _ ?_)
 refine reglS fun K20 hK20 => ?_
 refine lQ hF hS (mQ rfl <| sq_end) fun a w hF hS => ?_
 refine eQ hF hS rfl (ef_bsliceA ty22 ty3 rfl rfl oQ (by decide) rfl rfl) ?_
 rintro v92 _ _ a w ⟨rfl, rfl⟩ hF hS
 replace hS : St _ [] [_, _, _, _, _, _, _, _, _, _, _, _, _, _] _ := hS
 obtain ⟨z94, hz95, hS⟩ := St.freezeV (h0 := fun _ => rfl) (f := vi) (p := fun x => -9223372036854775808 ≤ x ∧ x ≤ 9223372036854775807) (xs := [0]) hS (by first | rfl | (simp; done)) (by first | decide | omega | (simp; omega)) (by decide)
 replace hS := hS.perm P0_6
 replace hS := hS.perm P1_7
 replace hS := hS.perm P2_8
 replace hS := hS.perm P3_9
 replace hS : St _ [_] [_, _, _, _, _, _, _, _, _, _, _, _, _] _ := hS
 refine eQ hF hS rfl (ef_callx fn50 rfl (List.Perm.refl _) (by exact (dmount_ct _ _ _ _ _ _ _ hz95 (.inr (by simp)) hD89))) ?_
 rintro _ _ _ a w ⟨_, _, rfl, rfl, ⟨rfl, rfl, qa97, qb98, qc99, qd100, rfl, hD101⟩⟩ hF hS
 replace hS : St _ [_] [_, _, _, _, _, _, _, _, _, _, _, _, _] _ := hS
 refine wpList_nil ?_
 rw [hmt] at hD101
 refine hK20 _ _ ?_
 refine reglS fun K21 hK21 => ?_
 refine lQ hF hS (mQ rfl <| sq_end) fun a w hF hS => ?_
 refine eQ hF hS rfl (ef_callx fn31 rfl (List.Perm.refl _) (by exact (lopen_ct _ _ (by assumption) _ _ hg0 hD101))) ?_
 rintro _ _ _ a w ⟨_, _, rfl, rfl, ⟨rfl, bl103, jb104, fv105, qa106, qb107, qc108, qd109, ua110, ub111, uc112, ud113, rfl, rfl, hJ114, hD115⟩⟩ hF hS
 replace hS : St _ [_] [_, _, _, _, _, _, _, _, _, _, _, _, _, _, _, _, _, _, _] _ := hS
 refine lQ hF hS (mQ rfl <| q0 (q_extract rfl rfl) <| q0 (q_extract rfl rfl) <| aQ rfl <| aQ rfl <| sq_end) fun a w hF hS => ?_
 refine wpList_nil ?_
 rw [hop] at hJ114
 rw [hop, Lg.tk2] at hS
 (try dsimp only at hS)
 refine hK21 _ _ ?_
 refine reglS fun K22 hK22 => ?_
 refine lQ hF hS (mQ rfl <| q0 (q_dt (q_eqi rfl rfl) (by decide)) <| mQ rfl <| sq_go 137 rfl rfl rfl (q_move rfl) <| sq_go 137 rfl rfl rfl (q_dt (q_eqi rfl rfl) (by decide)) <| q0 (q_pick_t rfl rfl) <| mQ rfl <| sq_go 141 rfl rfl rfl (q_move rfl) <| sq_go 141 rfl rfl rfl (q_dt (q_eqi rfl rfl) (by decide)) <| q0 (q_pick_t rfl rfl) <| mQ rfl <| sq_go 145 rfl rfl rfl (q_move rfl) <| sq_go 145 rfl rfl rfl (q_nepn_t ty45 rfl rfl) <| q0 (q_pick_t rfl rfl) <| mQ rfl <| sq_go 149 rfl rfl rfl (q_move rfl) <| sq_end) fun a w hF hS => ?_
 refine wpl_efg hF hS (wanted_go 149 rfl rfl) rfl (ef_call fn26 rfl (fun w hS => facts_ct _ _ _ _ (by decide) w (own_box hS 0 rfl) (own_slK (hl := Lg.fcC_len) (h1 := Lg.fcC_one) (hS.own _ (List.mem_of_getElem? (i := 1) rfl)).1 rfl (by first | omega | (simp; done)) (by assumption)))) ?_
 rintro v122 _ _ a w ⟨_, _, rfl, rfl, ⟨rfl, rfl⟩⟩ hF hS
 replace hS : St _ [_] [_, _, _, _, _, _, _, _, _, _, _, _, _, _, _, _, _, _, _, _] _ := hS
 refine lQ hF hS (sq_go 149 rfl rfl rfl (q_buildS1 ty24 3 kQ rfl rfl (oc_cons rfl (oc_cons rfl (oc_cons rfl oc_nil))) rfl rfl) <| sq_go 149 rfl rfl rfl (q_buildS1 ty24 3 kQ rfl rfl (oc_cons rfl (oc_cons rfl (oc_cons rfl oc_nil))) rfl rfl) <| sq_end) fun a w hF hS => ?_
 refine wpl_efg hF hS (wanted_go 149 rfl rfl) rfl (ef_bsliceC ty26 ty24 [[_, _, _], [_, _, _]] rfl rfl (by simp) (oc2_cons (oc_cons rfl (oc_cons rfl (oc_cons rfl oc_nil))) (oc2_cons (oc_cons rfl (oc_cons rfl (oc_cons rfl oc_nil))) oc2_nil)) (by decide) rfl rfl) ?_
 rintro v124 _ _ a w ⟨rfl, rfl⟩ hF hS
 replace hS : St _ [_] [_, _, _, _, _, _, _, _, _, _, _, _, _, _, _, _, _, _, _, _, _] _ := hS
 refine lQ hF hS (sq_go 149 rfl rfl rfl (q_call fn32 rfl (fun w hS => samef_t _ _ _ w (own_slK (hl := Lg.fcC_len) (h1 := Lg.fcC_one) (xs := [Lg.x1, Lg.x2]) (hS.own _ (List.mem_of_getElem? (i := 1) rfl)).1 rfl (by first | omega | (simp; done) | decide) hfk2) (own_slK (hl := Lg.fcC_len) (h1 := Lg.fcC_one) (xs := [Lg.x1, Lg.x2]) (hS.own _ (List.mem_of_getElem? (i := 0) rfl)).1 rfl (by first | omega | (simp; done) | decide) hfk2)) (fun _ _ _ h => h)) <| q0 (q_pick_t rfl rfl) <| aQ rfl <| sq_end) fun a w hF hS => ?_
 refine wpList_nil (hK22 _ _ ?_)
 refine wp_ret ?_
 exact fn_ret (rs := [.tmp 0]) rfl hF hS (vs := [_]) ⟨rfl, trivial⟩ zQ zQ (rfl)
end
section
theorem fn11 : FnOk Tryz.prog 11 := fQ Tryz.func11
theorem fn22 : FnOk Tryz.prog 22 := fQ Tryz.func22
theorem fn48 : FnOk Tryz.prog 48 := fQ Tryz.func48
theorem arnd_ct (n m : Int) (hm : 1 ≤ m) (hn : -9223372036854775808 ≤ n ∧ n ≤ 9223372036854775807) (w : World) : Ct Tryz.prog 11 [vi n, vi m] w (fun r _ _ => r = vi (Gu.arnd n m)) := by
 refine fn_enter Tryz.func11 rfl Tryz.ntmps11 (Nat.le_of_ble_eq_true rfl) fun a hF hS => ?_
 refine regS hF hS (aQ rfl <| sq_end) fun a w hF hS => ?_
 obtain ⟨hs0, hhs0, hS⟩ := hS.oh
 refine wp_cutx (γ := Int) (fun (c : Int) => [(0, vi c)]) [(1, _)] (fun (c : Int) => hs0) (fun (c : Int) => c = (if n < 0 then -(n + 1) else n) ∧ 0 ≤ c) (hF.sub ⟨rfl, trivial⟩) hS ?_ ?_
 ·subst hhs0
  refine regS hF hS (mQ rfl <| q0 (q_lti rfl rfl) <| sq_end) fun a w hF hS => ?_
  refine wp_ifd hF rfl (fun hc1 => ?_) (fun hc1 => ?_)
  ·refine reg hF hS (mQ rfl <| pQ rfl rfl <| q0 (q_negi rfl (by omega)) <| aQ rfl <| sq_end) fun a w hF hS => ?_
   refine ⟨(-(n + 1)), ?_, hF.sub ⟨rfl, rfl, trivial⟩, ?_⟩
   ·exact ⟨by rw [if_pos hc1], by omega⟩
   ·exact hS
  ·refine wp_skip ?_
   refine ⟨(n), ?_, hF.sub ⟨rfl, rfl, trivial⟩, ?_⟩
   ·exact ⟨by rw [if_neg hc1], by omega⟩
   ·exact hS
 rintro c a w hfact hF hS
 subst hhs0; (try dsimp only at hfact hF hS)
 obtain ⟨hc, hc0⟩ := hfact
 replace hS : St _ [] [] _ := hS
 refine regS hF hS (mQ rfl <| mQ rfl <| q0 (q_remi rfl rfl (by omega)) <| aQ rfl <| sq_end) fun a w hF hS => ?_
 refine wp_ret ?_
 exact fn_ret (rs := [.tmp 4]) rfl hF hS (vs := [_]) ⟨rfl, trivial⟩ zQ zQ (by subst hc; rfl)
theorem rknown_ct (v : Value) (l : List Lg.Fct) (tick : Int) (key : List UInt8) (w : World) (hb : Sl Go.Fw.encY (ph w) v l) : Ct Tryz.prog 24 [v, vi tick, vs key] w (fun r _ _ => r = .tuple [vs (Lg.kn l tick key).1, .bool (Lg.kn l tick key).2].toArray) := by
 refine fn_enter Tryz.func24 rfl Tryz.ntmps24 (Nat.le_of_ble_eq_true rfl) fun a hF hS => ?_
 have hbl := hb.1
 refine regS hF hS (aQ rfl <| aQ rfl <| sq_end) fun a w hF hS => ?_
 refine regS hF hS (aQ rfl <| sq_end) fun a w hF hS => ?_
 refine regS hF hS (aQ rfl <| sq_end) fun a w hF hS => ?_
 refine k0 ?_; intro K4 hK4
 refine regS hF hS (aQ rfl <| sq_end) fun a w hF hS => ?_
 refine wp_block ?_
 obtain ⟨hs0, hhs0, hS⟩ := hS.oh
 refine wp_loopx (γ := Nat) (0) (fun (i : Nat) => [(8, vs (Lg.kn (l.take i) tick key).1), (9, .bool (Lg.kn (l.take i) tick key).2), (10, vi (i : Int))]) [(0, _), (1, _), (2, _)] (fun (i : Nat) => hs0) (fun (i : Nat) => i ≤ l.length) (fun (i : Nat) => l.length - i) (hF.sub ⟨rfl, rfl, rfl, rfl, rfl, rfl, trivial⟩) (by subst hhs0; exact hS) (by exact Nat.zero_le _) ?_
 rintro i a w hfact hF hS
 subst hhs0; (try dsimp only at hfact hF hS)
 have hi0 := hfact
 replace hS : St _ [] [] _ := hS
 refine k0 ?_; intro K6 hK6
 refine regS hF hS (mQ rfl <| mQ rfl <| q0 (q_len_sl ty26 hb rfl) <| q0 (q_lti rfl rfl) <| sq_end) fun a w hF hS => ?_
 refine wp_ifd hF rfl (fun hc1 => ?_) (fun hc1 => ?_)
 ·refine wp_skip ?_
  refine hK6 _ _ ?_
  refine k0 ?_; intro K8 hK8
  refine wp_block ?_
  refine reglS fun K9 hK9 => ?_
  refine lQ hF hS (mQ rfl <| mQ rfl <| q0 (q_idx_sl ty26 ty24 hb rfl rfl (by omega)) <| q0 (q_fld_Y ty24 hb rfl (by omega) rfl (s' := 0) kQ) <| q0 (q_ld_Y1 ty9 hb zin0 rfl rfl (by omega)) <| mQ rfl <| q0 (q_eqs rfl rfl) <| mQ rfl <| sq_end) fun a w hF hS => ?_
  refine wpl_and 7 24 7 hF hS rfl rfl rfl rfl rfl (fun hg => have hg := (by first | exact of_decide_eq_true hg | exact hg); sq_go 24 rfl rfl rfl (q_move rfl) <| sq_go 24 rfl rfl rfl (q_move rfl) <| sq_go 24 rfl rfl rfl (q_idx_sl ty26 ty24 hb rfl rfl (by omega)) <| sq_go 24 rfl rfl rfl (q_fld_Y ty24 hb rfl (by omega) rfl (s' := 0) kQ) <| sq_go 24 rfl rfl rfl (q_ld_Y0 ty3 hb zin0 rfl rfl (by omega)) <| sq_go 24 rfl rfl rfl (q_move rfl) <| sq_go 24 rfl rfl rfl (q_lei rfl rfl) <| sq_end) rfl rfl fun a w hF hS => ?_
  refine wpList_nil (hK9 _ _ ?_)
  refine wp_if hF rfl (fun hc2 => ?_) (fun hc2 => ?_)
  ·(try simp only [bS] at hc2)
   have hhit : Lg.hit (l.getD i Lg.f0) tick key = true := Lg.hit_t hc2.1 hc2.2
   refine regS hF hS (mQ rfl <| mQ rfl <| q0 (q_idx_sl ty26 ty24 hb rfl rfl (by omega)) <| q0 (q_fld_Y ty24 hb rfl (by omega) rfl (s' := 0) kQ) <| q0 (q_ld_Y2 ty9 hb zin0 rfl rfl (by omega)) <| aQ rfl <| sq_end) fun a w hF hS => ?_
   refine reg hF hS (aQ rfl <| sq_end) fun a w hF hS => ?_
   refine hK8 _ _ ?_
   refine reg hF hS (mQ rfl <| pQ rfl rfl <| aQ rfl <| sq_end) fun a w hF hS => ?_
   refine ⟨(i + 1), ?_, ?_, hF.sub ⟨(by show some (vs _) = some (vs _); rw [Lg.kn_take (by omega)]; first | (rw [if_pos hhit, Int.toNat_natCast]; done) | (rw [if_pos hhit]; done) | (rw [if_neg hmis]; done)), (by show some (Value.bool _) = some (Value.bool _); rw [Lg.kn_take (by omega)]; first | (rw [if_pos hhit]; done) | (rw [if_neg hmis]; done)), rfl, rfl, rfl, rfl, trivial⟩, ?_⟩
   ·(try dsimp only); omega
   ·omega
   ·exact hS
  ·(try simp only [bS] at hc2)
   have hmis : ¬ Lg.hit (l.getD i Lg.f0) tick key = true := Lg.hit_f hc2
   refine wp_skip ?_
   refine hK8 _ _ ?_
   refine reg hF hS (mQ rfl <| pQ rfl rfl <| aQ rfl <| sq_end) fun a w hF hS => ?_
   refine ⟨(i + 1), ?_, ?_, hF.sub ⟨(by show some (vs _) = some (vs _); rw [Lg.kn_take (by omega)]; first | (rw [if_pos hhit, Int.toNat_natCast]; done) | (rw [if_pos hhit]; done) | (rw [if_neg hmis]; done)), (by show some (Value.bool _) = some (Value.bool _); rw [Lg.kn_take (by omega)]; first | (rw [if_pos hhit]; done) | (rw [if_neg hmis]; done)), rfl, rfl, rfl, rfl, trivial⟩, ?_⟩
   ·(try dsimp only); omega
   ·omega
   ·exact hS
 ·obtain rfl : i = l.length := by omega
  refine wp_exit ?_
  refine hK4 _ _ ?_
  refine regS hF hS (mQ rfl <| mQ rfl <| aQ rfl <| aQ rfl <| sq_end) fun a w hF hS => ?_
  refine wp_ret ?_
  exact fn_ret (rs := [.tmp 6, .tmp 7]) rfl hF hS (vs := [_, _]) ⟨rfl, rfl, trivial⟩ zQ zQ (by rw [List.take_length])
theorem key_ct (n : Int) (hn : -9223372036854775808 ≤ n ∧ n ≤ 9223372036854775807) (w : World) : Ct Tryz.prog 22 [vi n] w (fun r _ _ => r = vs (Lg.keyOf n)) := by
 refine fn_enter Tryz.func22 rfl Tryz.ntmps22 (Nat.le_of_ble_eq_true rfl) fun a hF hS => ?_
 have har := Gu.arnd_range (n := n) (m := 6) (by decide)
 refine regS hF hS (aQ rfl <| sq_end) fun a w hF hS => ?_
 refine reglS fun K2 hK2 => ?_
 refine eQ hF hS rfl (ef_bsliceA ty40 ty9 rfl rfl oQ (by decide) rfl rfl) ?_
 rintro v1 _ _ a w ⟨rfl, rfl⟩ hF hS
 replace hS := nl0_1 hS
 refine lQ hF hS (mQ rfl <| q0 (q_call fn11 rfl (fun w hS => arnd_ct _ _ (by omega) (by omega) w ) (fun _ _ _ h => h)) <| q0 (q_idx_row ty40 ty9 0 rfl rfl rfl (by omega)) <| q0 (q_ld_rowM (f := vs) (xs := Lg.keyL) ty9 0 [] rfl rfl (by show _ < 6; omega) rfl) <| aQ rfl <| sq_end) fun a w hF hS => ?_
 refine wpList_nil (hK2 _ _ ?_)
 refine wp_ret ?_
 exact fn_ret (rs := [.tmp 2]) rfl hF hS (vs := [_]) ⟨rfl, trivial⟩ zQ zQ (rfl)
theorem value_ct (n : Int) (hn : 0 ≤ n ∧ n ≤ 4096) (w : World) : Ct Tryz.prog 48 [vi n] w (fun r zs hs => zs = [] ∧ hs = [] ∧ ∃ s : List UInt8, r = vs s ∧ (s.length ≤ 6400 ∧ (n < 60 → s.length ≤ 60))) := by
 refine fn_enter Tryz.func48 rfl Tryz.ntmps48 (Nat.le_of_ble_eq_true rfl) fun a hF hS => ?_
 have har := Gu.arnd_range (n := n) (m := 64) (by decide)
 have hae : n < 60 → Gu.arnd n 64 = n := fun h => Gu.arnd_self hn.1 (by omega)
 refine regS hF hS (aQ rfl <| sq_end) fun a w hF hS => ?_
 refine regS hF hS (mQ rfl <| q0 (q_call fn11 rfl (fun w hS => arnd_ct _ _ (by omega) (by omega) w ) (fun _ _ _ h => h)) <| aQ rfl <| sq_end) fun a w hF hS => ?_
 obtain ⟨hs0, hhs0, hS⟩ := hS.oh
 refine wp_cutx (γ := Int) (fun (m9 : Int) => [(3, vi m9)]) [(0, _)] (fun (m9 : Int) => hs0) (fun (m9 : Int) => 0 ≤ m9 ∧ m9 ≤ 6400 ∧ (n < 60 → m9 ≤ 60)) (hF.sub ⟨rfl, trivial⟩) hS ?_ ?_
 ·subst hhs0
  refine regS hF hS (mQ rfl <| q0 (q_gti rfl rfl) <| sq_end) fun a w hF hS => ?_
  refine wp_ifd hF rfl (fun hc1 => ?_) (fun hc1 => ?_)
  ·refine reg hF hS (mQ rfl <| q0 (q_muli rfl rfl (by omega)) <| aQ rfl <| sq_end) fun a w hF hS => ?_
   refine ⟨((100 * Gu.arnd n 64)), ?_, hF.sub ⟨rfl, rfl, trivial⟩, ?_⟩
   ·exact ⟨by omega, by omega, fun h => by have := hae h; omega⟩
   ·exact hS
  ·refine wp_skip ?_
   refine ⟨((Gu.arnd n 64)), ?_, hF.sub ⟨rfl, rfl, trivial⟩, ?_⟩
   ·exact ⟨by omega, by omega, fun h => by have := hae h; omega⟩
   ·exact hS
 rintro m9 a w hfact hF hS
 subst hhs0; (try dsimp only at hfact hF hS)
 obtain ⟨hm0, hm1, hm2⟩ := hfact
 replace hS : St _ [] [] _ := hS
 obtain ⟨m, rfl⟩ : ∃ q : Nat, m9 = (q : Int) := ⟨m9.toNat, by omega⟩
 refine reglS fun K4 hK4 => ?_
 refine lQ hF hS (mQ rfl <| sq_end) fun a w hF hS => ?_
 refine eQ hF hS rfl (ef_mks ty25 ty5 rfl rfl bQ bQ rfl) ?_
 rintro v1 _ _ a w ⟨rfl, rfl⟩ hF hS
 replace hS := nl0_1 hS
 refine lQ hF hS (aQ rfl <| sq_end) fun a w hF hS => ?_
 refine wpList_nil ?_
 rw [show List.replicate m (Value.int .u8 0) = (List.replicate m (0 : UInt8)).map vb by rw [List.map_replicate]; rfl] at hS
 refine hK4 _ _ ?_
 refine k0 ?_; intro K5 hK5
 refine regS hF hS (aQ rfl <| sq_end) fun a w hF hS => ?_
 refine wp_block ?_
 obtain ⟨hs0, hhs0, hS⟩ := hS.oh
 refine wp_loopx (γ := List UInt8 × Nat) ((List.replicate m 0), 0) (fun (bs, i) => [(5, vi (i : Int))]) [(0, _), (3, _), (4, _)] (fun (bs, i) => (hs0.set 0 (.row v1 5 1 m (bs.map vb)))) (fun (bs, i) => i ≤ m ∧ bs.length = m) (fun (bs, i) => m - i) (hF.sub ⟨rfl, rfl, rfl, rfl, trivial⟩) (by subst hhs0; exact hS) (by exact ⟨Nat.zero_le _, by simp⟩) ?_
 rintro ⟨bs, i⟩ a w hfact hF hS
 subst hhs0; (try dsimp only at hfact hF hS)
 obtain ⟨hi0, hbs⟩ := hfact
 replace hS := nl0_1 hS
 refine k0 ?_; intro K7 hK7
 refine regS hF hS (mQ rfl <| mQ rfl <| q0 (q_lti rfl rfl) <| sq_end) fun a w hF hS => ?_
 refine wp_ifd hF rfl (fun hc2 => ?_) (fun hc2 => ?_)
 ·refine wp_skip ?_
  refine hK7 _ _ ?_
  refine k0 ?_; intro K9 hK9
  refine wp_block ?_
  refine regl ?_
  refine lQ hF hS (mQ rfl <| mQ rfl <| mQ rfl <| mQ rfl <| pQ rfl rfl <| q0 (q_cv_ib ty3 ty5 rfl) <| q0 (q_idx_row ty25 ty5 0 rfl rfl rfl (by omega)) <| sq_end) fun a w hF hS => ?_
  refine eQ hF hS rfl (ef_st_row ty5 0 rfl rfl rfl (by omega) rfl) ?_
  rintro _ _ _ a w ⟨rfl, rfl, rfl⟩ hF hS
  replace hS := nl0_1 hS
  refine wpList_nil (hK9 _ _ ?_)
  refine reg hF hS (mQ rfl <| pQ rfl rfl <| aQ rfl <| sq_end) fun a w hF hS => ?_
  refine ⟨((bs.set i (ofb (n + (i : Int)))), i + 1), ?_, ?_, hF.sub ⟨rfl, rfl, rfl, rfl, trivial⟩, ?_⟩
  ·(try dsimp only); omega
  ·exact ⟨by omega, by rw [List.length_set]; exact hbs⟩
  ·rw [← List.map_set] at hS
   exact hS
 ·refine wp_exit ?_
  refine hK5 _ _ ?_
  refine regS hF hS (mQ rfl <| q0 (q_b2s_row ty25 ty9 ty5 0 rfl rfl) <| aQ rfl <| sq_end) fun a w hF hS => ?_
  refine wp_ret ?_
  exact fn_ret (rs := [.tmp 2]) rfl hF hS (vs := [_]) ⟨rfl, trivial⟩ zQ zQ (⟨rfl, rfl, _, rfl, by rw [hbs]; exact ⟨by omega, fun h => by have := hm2 h; omega⟩⟩)
theorem genf_ct (v : Value) (l : List Int) (w : World) (hb : Sl Go.Fw.encI (ph w) v l) : Ct Tryz.prog 10 [v] w (fun r zs hs => ∃ (q : List Lg.Fct) (z : PH), zs = [z] ∧ hs = [] ∧ Sl Go.Fw.encY z r q ∧ Lg.Gen q) := by
 refine fn_enter Tryz.func10 rfl Tryz.ntmps10 (Nat.le_of_ble_eq_true rfl) fun a hF hS => ?_
 have hbl := hb.1
 refine regS hF hS (aQ rfl <| sq_end) fun a w hF hS => ?_
 refine k0 ?_; intro K2 hK2
 refine reg hF hS (aQ rfl <| sq_end) fun a w hF hS => ?_
 replace hS := hS.nilRow 24 3
 refine hK2 _ _ ?_
 refine regS hF hS (aQ rfl <| sq_end) fun a w hF hS => ?_
 refine k0 ?_; intro K4 hK4
 refine regS hF hS (aQ rfl <| sq_end) fun a w hF hS => ?_
 refine wp_block ?_
 obtain ⟨hs0, hhs0, hS⟩ := hS.oh
 refine wp_loopx (γ := Value × List Lg.Fct × Int × Nat) ((Value.slice none 0 0), [], 0, 0) (fun (u, q, c, i) => [(3, u), (4, vi c), (5, vi (i : Int))]) [(0, _)] (fun (u, q, c, i) => (hs0.set 0 (.row u 24 3 q.length (q.flatMap Lg.fcC)))) (fun (u, q, c, i) => (i ≤ 12 ∧ q.length = i) ∧ (0 ≤ c ∧ c ≤ 2 * (i : Int)) ∧ Lg.Gst q c) (fun (u, q, c, i) => 12 - i) (hF.sub ⟨rfl, rfl, rfl, rfl, trivial⟩) (by subst hhs0; exact hS) (by exact ⟨⟨Nat.zero_le _, rfl⟩, ⟨Int.le_refl _, by decide⟩, Lg.Gst.start⟩) ?_
 rintro ⟨u, q, c, i⟩ a w hfact hF hS
 subst hhs0; (try dsimp only at hfact hF hS)
 obtain ⟨⟨hi0, hql⟩, hc0, hgs⟩ := hfact
 replace hS := nl0_1 hS
 refine k0 ?_; intro K6 hK6
 refine reglS fun K7 hK7 => ?_
 refine lQ hF hS (mQ rfl <| mQ rfl <| q0 (q_len_sl ty22 hb rfl) <| q0 (q_lti rfl rfl) <| mQ rfl <| sq_end) fun a w hF hS => ?_
 refine wpl_and 4 11 2 hF hS rfl rfl rfl rfl rfl (fun hg => have hg := (by first | exact of_decide_eq_true hg | exact hg); sq_go 11 rfl rfl rfl (q_move rfl) <| sq_go 11 rfl rfl rfl (q_lti rfl rfl) <| sq_end) rfl rfl fun a w hF hS => ?_
 refine wpList_nil (hK7 _ _ ?_)
 refine wp_if hF rfl (fun hc1 => ?_) (fun hc1 => ?_)
 ·(try simp only [bS] at hc1)
  have har := Gu.arnd_range (n := l.getD i 0) (m := 4096) (by decide)
  have hirg := sl_rng hb _ (getD_mem (xs := l) (k := i) (by omega))
  have hirg2 : -9223372036854775808 ≤ l.getD (i : Int).toNat 0 ∧ l.getD (i : Int).toNat 0 ≤ 9223372036854775807 := by rw [Int.toNat_natCast]; exact hirg
  have htm : 0 ≤ Gu.arnd (l.getD i 0) 4096 % 3 ∧ Gu.arnd (l.getD i 0) 4096 % 3 ≤ 2 := by omega
  have hka := Gu.arnd_range (n := Gu.arnd (l.getD i 0) 4096 / 3) (m := 6) (by decide)
  refine wp_skip ?_
  refine hK6 _ _ ?_
  refine k0 ?_; intro K8 hK8
  refine wp_block ?_
  refine k0 ?_; intro K9 hK9
  refine reg hF hS (mQ rfl <| mQ rfl <| q0 (q_idx_sl ty22 ty3 hb rfl rfl (by omega)) <| q0 (q_ld_I ty3 hb zin0 rfl rfl (by omega)) <| q0 (q_call fn11 rfl (fun w hS => arnd_ct _ _ (by omega) (by omega) w ) (fun _ _ _ h => h)) <| aQ rfl <| sq_end) fun a w hF hS => ?_
  rw [Int.toNat_natCast] at hF
  refine hK9 _ _ ?_
  refine regS hF hS (mQ rfl <| mQ rfl <| q0 (q_remi rfl rfl (by omega)) <| pQ rfl rfl <| aQ rfl <| sq_end) fun a w hF hS => ?_
  refine regl ?_
  refine lQ hF hS (mQ rfl <| mQ rfl <| mQ rfl <| q0 (q_quoi rfl rfl (by omega)) <| q0 (q_call fn22 rfl (fun w hS => key_ct _ (by omega) w ) (fun _ _ _ h => h)) <| mQ rfl <| q0 (q_quoi rfl rfl (by omega)) <| q0 (q_remi rfl rfl (by omega)) <| sq_end) fun a w hF hS => ?_
  refine eQ hF hS rfl (ef_call fn48 rfl (fun w hS => value_ct _ (by omega) w )) ?_
  rintro _ _ _ a w ⟨_, _, rfl, rfl, ⟨rfl, rfl, sv3, rfl, hv4⟩⟩ hF hS
  replace hS := nl0_1 hS
  refine lQ hF hS (q0 (q_buildS1 ty24 3 kQ rfl rfl (oc_cons rfl (oc_cons rfl (oc_cons rfl oc_nil))) rfl rfl) <| sq_end) fun a w hF hS => ?_
  refine eQ hF hS rfl (ef_bsliceW ty26 ty24 rfl bQ (by decide) oQ (by decide) (by decide)) ?_
  rintro v5 _ _ a w ⟨rfl, rfl⟩ hF hS
  replace hS := nl0_2 hS
  refine eQ hF hS rfl (ef_append ty26 ty24 1 rfl rfl rfl (src_row ty26 (k := 0) rfl oQ) bQ rfl (by decide)) ?_
  rintro v7 _ _ a w ⟨rfl, rfl⟩ hF hS
  replace hS := nl0_2 hS
  refine lQ hF hS (aQ rfl <| sq_end) fun a w hF hS => ?_
  refine wpList_nil (hK8 _ _ ?_)
  refine reg hF hS (mQ rfl <| pQ rfl rfl <| aQ rfl <| sq_end) fun a w hF hS => ?_
  replace hS := hS.keep zQ (sQ.n)
  refine ⟨(v7, (q ++ [(⟨c + Gu.arnd (l.getD i 0) 4096 % 3, Lg.keyOf (Gu.arnd (l.getD i 0) 4096 / 3), sv3⟩ : Lg.Fct)]), (c + Gu.arnd (l.getD i 0) 4096 % 3), i + 1), ?_, ?_, hF.sub ⟨rfl, rfl, rfl, rfl, trivial⟩, ?_⟩
  ·(try dsimp only); omega
  ·exact ⟨⟨by omega, by rw [List.length_append, hql]; rfl⟩, ⟨by omega, by omega⟩, hgs.add (by omega) (by omega) (by omega) (Lg.keyL_at _ (by omega)) (hv4.2 (by omega))⟩
  ·have e1 := Lg.fc_snoc q (⟨c + Gu.arnd (l.getD i 0) 4096 % 3, Lg.keyOf (Gu.arnd (l.getD i 0) 4096 / 3), sv3⟩ : Lg.Fct)
   have e2 := Lg.len_snoc q (⟨c + Gu.arnd (l.getD i 0) 4096 % 3, Lg.keyOf (Gu.arnd (l.getD i 0) 4096 / 3), sv3⟩ : Lg.Fct)
   dsimp only at e1
   rw [e1, e2] at hS
   exact hS
 ·(try simp only [bS] at hc1)
  refine wp_exit ?_
  refine hK4 _ _ ?_
  refine regS hF hS (mQ rfl <| aQ rfl <| sq_end) fun a w hF hS => ?_
  refine wp_ret ?_
  obtain ⟨zr, hzr, hS⟩ := St.freezeY (xs := q) hS rfl (by omega) (Lg.good_fc hgs.good)
  exact fn_ret (rs := [.tmp 2]) rfl hF hS (vs := [_]) ⟨rfl, trivial⟩ (zs' := [zr]) (hs' := []) (List.singleton_sublist.2 (by simp)) zQ ⟨q, zr, rfl, rfl, hzr, hgs.gen (by omega) (by omega)⟩
end
section
attribute [local simp] Lg.fcC_len
theorem turned_ct (v : Value) (l : List Lg.Fct) (bits : Int) (hbi : -9223372036854775808 ≤ bits ∧ bits ≤ 9223372036854775807) (hl : l.length < 1048576) (w : World) (hb : Sl Go.Fw.encY (ph w) v l) : Ct Tryz.prog 21 [v, vi bits] w (fun r zs hs => ∃ (q : List Lg.Fct) (z : PH), zs = [z] ∧ hs = [] ∧ Sl Go.Fw.encY z r q ∧ Lg.Tn l q) := by
 refine fn_enter Tryz.func21 rfl Tryz.ntmps21 (Nat.le_of_ble_eq_true rfl) fun a hF hS => ?_
 have hbl := hb.1
 refine regS hF hS (aQ rfl <| sq_end) fun a w hF hS => ?_
 refine reglS fun K2 hK2 => ?_
 refine eQ hF hS rfl (ef_bslice0 ty26 ty24) ?_
 rintro v1 _ _ a w ⟨rfl, rfl⟩ hF hS
 replace hS := nl0_1 hS
 refine lQ hF hS (mQ rfl <| sq_end) fun a w hF hS => ?_
 refine eQ hF hS rfl (ef_append ty26 ty24 0 rfl rfl rfl (src_slK ty26 hb zin0 (by decide)) bQ rfl (by decide)) ?_
 rintro v3 _ _ a w ⟨rfl, rfl⟩ hF hS
 replace hS := nl0_1 hS
 refine lQ hF hS (aQ rfl <| sq_end) fun a w hF hS => ?_
 refine wpList_nil ?_
 replace hS := hS.rowEq (m' := l.length) (cs' := l.flatMap Lg.fcC) (Nat.zero_add _) (List.nil_append _)
 refine hK2 _ _ ?_
 refine k0 ?_; intro K3 hK3
 refine regS hF hS (aQ rfl <| sq_end) fun a w hF hS => ?_
 refine wp_block ?_
 obtain ⟨hs0, hhs0, hS⟩ := hS.oh
 refine wp_loopx (γ := List Lg.Fct × Nat) (l, 0) (fun (q, i) => [(6, vi (i : Int))]) [(1, _), (5, _)] (fun (q, i) => (hs0.set 0 (.row v3 24 3 l.length (q.flatMap Lg.fcC)))) (fun (q, i) => i ≤ l.length ∧ Lg.Tn l q) (fun (q, i) => l.length - i) (hF.sub ⟨rfl, rfl, rfl, trivial⟩) (by subst hhs0; exact hS) (by exact ⟨Nat.zero_le _, Lg.Tn.refl l⟩) ?_
 rintro ⟨q, i⟩ a w hfact hF hS
 subst hhs0; (try dsimp only at hfact hF hS)
 obtain ⟨hi0, htn⟩ := hfact
 replace hS := nl0_1 hS
 have hql := htn.len
 refine k0 ?_; intro K5 hK5
 refine regS hF hS (mQ rfl <| pQ rfl rfl <| mQ rfl <| q0 (q_len_row ty26 0 rfl rfl) <| q0 (q_lti rfl rfl) <| sq_end) fun a w hF hS => ?_
 refine wp_ifd hF rfl (fun hc1 => ?_) (fun hc1 => ?_)
 ·refine wp_skip ?_
  refine hK5 _ _ ?_
  refine k0 ?_; intro K7 hK7
  refine wp_block ?_
  refine k0 ?_; intro K8 hK8
  refine regq mixed kQ hS ?_
  refine wpq_seg hF (mQ rfl <| mQ rfl <| q0 (q_idx_row ty26 ty24 0 rfl rfl rfl (by omega)) <| q0 (q_fld_row ty24 0 rfl rfl (by omega) rfl (s' := 0) kQ) <| q0 (q_ld_rowK1 Lg.fcC_len Lg.f0 ty3 0 rfl rfl rfl (by omega) (by decide) rfl) <| mQ rfl <| mQ rfl <| pQ rfl rfl <| q0 (q_idx_row ty26 ty24 0 rfl rfl rfl (by omega)) <| q0 (q_fld_row ty24 0 rfl rfl (by omega) rfl (s' := 0) kQ) <| q0 (q_ld_rowK1 Lg.fcC_len Lg.f0 ty3 0 rfl rfl rfl (by omega) (by decide) rfl) <| q0 (q_eqi rfl rfl) <| mQ rfl <| sq_end) fun a hF => ?_
  refine wpq_and 12 30 12 hF rfl rfl rfl rfl rfl (fun hg => have hg := (by first | exact of_decide_eq_true hg | exact hg); sq_go 30 rfl rfl rfl (q_move rfl) <| sq_go 30 rfl rfl rfl (q_move rfl) <| sq_go 30 rfl rfl rfl (q_idx_row ty26 ty24 0 rfl rfl rfl (by omega)) <| sq_go 30 rfl rfl rfl (q_fld_row ty24 0 rfl rfl (by omega) rfl (s' := 0) kQ) <| sq_go 30 rfl rfl rfl (q_ld_rowK1 Lg.fcC_len Lg.f0 ty9 0 rfl rfl rfl (by omega) (by decide) rfl) <| sq_go 30 rfl rfl rfl (q_move rfl) <| sq_go 30 rfl rfl rfl (q_move rfl) <| sq_go 30 rfl rfl rfl (q_addi rfl rfl (by omega)) <| sq_go 30 rfl rfl rfl (q_idx_row ty26 ty24 0 rfl rfl rfl (by omega)) <| sq_go 30 rfl rfl rfl (q_fld_row ty24 0 rfl rfl (by omega) rfl (s' := 0) kQ) <| sq_go 30 rfl rfl rfl (q_ld_rowK1 Lg.fcC_len Lg.f0 ty9 0 rfl rfl rfl (by omega) (by decide) rfl) <| sq_go 30 rfl rfl rfl (q_nes rfl rfl) <| sq_end) rfl rfl fun a hF => ?_
  refine wpq_seg hF (mQ rfl <| sq_end) fun a hF => ?_
  refine wpq_and 26 44 7 hF rfl rfl rfl rfl rfl (fun hg => have hg := hg; sq_go 44 rfl rfl rfl (q_move rfl) <| sq_go 44 rfl rfl rfl (q_move rfl) <| sq_go 44 rfl rfl rfl (q_remi rfl rfl (by omega)) <| sq_go 44 rfl rfl rfl (q_cv_iq ty3 ty113 rfl) <| sq_go 44 rfl rfl rfl (q_shri rfl rfl (by omega)) <| sq_go 44 rfl rfl rfl (q_remi' rfl rfl (by decide)) <| sq_go 44 rfl rfl rfl (q_nei rfl rfl) <| sq_end) rfl rfl fun a hF => ?_
  refine wpq_nil ?_
  clear hS; intro w hS
  refine hK8 _ _ ?_
  refine wp_if hF rfl (fun hc2 => ?_) (fun hc2 => ?_)
  ·(try simp only [bS] at hc2)
   refine reglS fun K9 hK9 => ?_
   refine lQ hF hS (mQ rfl <| mQ rfl <| q0 (q_idx_row ty26 ty24 0 rfl rfl rfl (by omega)) <| q0 (q_ld_rowKW Lg.fcC_len Lg.f0 ty24 0 rfl rfl rfl (by decide) (by omega)) <| sq_end) fun a w hF hS => ?_
   refine eQ hF hS rfl (ef_allocA ty24) ?_
   rintro _ _ _ a w ⟨b4, rfl, rfl, rfl⟩ hF hS
   refine eQ hF hS rfl (ef_storeW ty24 0 rfl rfl rfl rfl bQ (oc_cons rfl (oc_cons rfl (oc_cons rfl oc_nil))) bQ) ?_
   rintro _ _ _ a w ⟨rfl, rfl, rfl⟩ hF hS
   replace hS := nl0_2 hS
   refine wpList_nil (hK9 _ _ ?_)
   refine reglS fun K10 hK10 => ?_
   refine lQ hF hS (mQ rfl <| mQ rfl <| mQ rfl <| mQ rfl <| pQ rfl rfl <| q0 (q_idx_row ty26 ty24 1 rfl rfl rfl (by omega)) <| q0 (q_ld_rowKW Lg.fcC_len Lg.f0 ty24 1 rfl rfl rfl (by decide) (by omega)) <| q0 (q_idx_row ty26 ty24 1 rfl rfl rfl (by omega)) <| sq_end) fun a w hF hS => ?_
   refine eQ hF hS rfl (ef_st_rowKW Lg.fcC_len Lg.fcC_one ty24 1 (a := (q.getD (i + 1) Lg.f0)) rfl rfl rfl rfl (by first | exact hql.symm | (rw [List.length_set]; exact hql.symm)) bQ) ?_
   rintro _ _ _ a w ⟨rfl, rfl, rfl⟩ hF hS
   replace hS := nl0_2 hS
   refine wpList_nil (hK10 _ _ ?_)
   refine regl ?_
   refine lQ hF hS (mQ rfl <| mQ rfl <| pQ rfl rfl <| q0 (q_ld_blkW ty24 0 rfl rfl bQ rfl) <| q0 (q_idx_row ty26 ty24 1 rfl rfl rfl (by omega)) <| sq_end) fun a w hF hS => ?_
   refine eQ hF hS rfl (ef_st_rowKW Lg.fcC_len Lg.fcC_one ty24 1 (a := (q.getD i Lg.f0)) rfl rfl rfl rfl (by first | exact hql.symm | (rw [List.length_set]; exact hql.symm)) bQ) ?_
   rintro _ _ _ a w ⟨rfl, rfl, rfl⟩ hF hS
   replace hS := nl0_2 hS
   refine wpList_nil (hK7 _ _ ?_)
   refine reg hF hS (mQ rfl <| pQ rfl rfl <| aQ rfl <| sq_end) fun a w hF hS => ?_
   replace hS := hS.keep zQ (sQ.n)
   refine ⟨((Lg.swp q i), i + 1), ?_, ?_, hF.sub ⟨rfl, rfl, rfl, trivial⟩, ?_⟩
   ·(try dsimp only); omega
   ·exact ⟨by omega, htn.step (by omega) hc2.1.1 hc2.1.2⟩
   ·exact hS
  ·(try simp only [bS] at hc2)
   refine wp_skip ?_
   refine hK7 _ _ ?_
   refine reg hF hS (mQ rfl <| pQ rfl rfl <| aQ rfl <| sq_end) fun a w hF hS => ?_
   refine ⟨(q, i + 1), ?_, ?_, hF.sub ⟨rfl, rfl, rfl, trivial⟩, ?_⟩
   ·(try dsimp only); omega
   ·exact ⟨by omega, htn⟩
   ·exact hS
 ·refine wp_exit ?_
  refine hK3 _ _ ?_
  refine regS hF hS (mQ rfl <| aQ rfl <| sq_end) fun a w hF hS => ?_
  refine wp_ret ?_
  obtain ⟨zr, hzr, hS⟩ := St.freezeY (xs := q) hS hql.symm (by omega) (htn.ok (Y_all hb))
  exact fn_ret (rs := [.tmp 4]) rfl hF hS (vs := [_]) ⟨rfl, trivial⟩ (zs' := [zr]) (hs' := []) (List.singleton_sublist.2 (by simp)) zQ ⟨q, zr, rfl, rfl, hzr, htn⟩
end
section
theorem fn10 : FnOk Tryz.prog 10 := fQ Tryz.func10
theorem fn20 : FnOk Tryz.prog 20 := fQ Tryz.func20
theorem fn21 : FnOk Tryz.prog 21 := fQ Tryz.func21
theorem fn24 : FnOk Tryz.prog 24 := fQ Tryz.func24
attribute [local irreducible] Sha.sum Jn.good Jn.hd Jn.lb Jn.cnt Jn.unp Jn.recd Jn.app Jn.opn Lg.dec Lg.enc Lg.kn Lg.keyOf Gu.arnd
end
section
attribute [local irreducible] Wi.int Wi.bytes Wi.getInt Wi.getBytes Sha.sum Jn.good Jn.hd Jn.lb Jn.cnt Jn.unp Jn.recd Jn.app Jn.opn Lg.dec Lg.enc Gu.arnd Lg.valid
end
section
attribute [local irreducible] Wi.int Wi.bytes Wi.getInt Wi.getBytes Sha.sum Jn.good Jn.hd Jn.lb Jn.cnt Jn.unp Jn.recd Jn.app Jn.opn Lg.dec Lg.enc Dk.new Lg.add Lg.taken
theorem lfilled_ct (v : Value) (q : List Lg.Fct) (hq : Lg.Fil0 q) (w : World) (hb : Sl Go.Fw.encY (ph w) v q) {fz0 : Nat × Nat} {bt0 : TypeId} (hg0 : w.heap[1]? = some (.cells (Sha.kc.map vw).toArray bt0 fz0)) : Ct Tryz.prog 25 [v] w (fun r zs hs => zs = [] ∧ ∃ (bl b : Nat) (h : Dk.Hd) (fv : Value) (q1 q2 q3 q4 d1 d2 d3 d4 : Res) (L : Lg.Ld), r = .tuple [.pointer (some ⟨bl, 0, none⟩), .pointer (some ⟨h.b, 0, none⟩), .bool true].toArray ∧ hs = [.blk bl 119 [.pointer (some ⟨b, 0, none⟩), fv], .row fv 24 3 L.F.length (L.F.flatMap Lg.fcC), q1, q2, q3, q4, d1, d2, d3, d4] ∧ JJ b h.b L.J q1 q2 q3 q4 ∧ DD h L.S d1 d2 d3 d4 ∧ Lg.Fld q L) := by
 refine fn_enter Tryz.func25 rfl Tryz.ntmps25 (Nat.le_of_ble_eq_true rfl) fun a hF hS => ?_
 have hbl := hb.1
 have hql := hq.len
 have hof200 : (Dk.new 200).off = false := by unfold Dk.new; rfl
 have hfk0 := Lg.good_fc Lg.good_nil
 refine regS hF hS (aQ rfl <| aQ rfl <| aQ rfl <| sq_end) fun a w hF hS => ?_
 refine reglS fun K2 hK2 => ?_
 refine eQ hF hS rfl (ef_call fn63 rfl (fun w hS => dnew_ct 200 (by decide) w )) ?_
 rintro _ _ _ a w ⟨_, _, rfl, rfl, ⟨rfl, hh2, qa3, qb4, qc5, qd6, rfl, rfl, hD7⟩⟩ hF hS
 replace hS := nl0_4 hS
 refine lQ hF hS (mQ rfl <| q0 (q_extract rfl rfl) <| q0 (q_extract rfl rfl) <| aQ rfl <| aQ rfl <| sq_end) fun a w hF hS => ?_
 refine wpList_nil (hK2 _ _ ?_)
 refine k0 ?_; intro K3 hK3
 refine regS hF hS (mQ rfl <| q0 (q_nf (q_nei rfl rfl) (by simp)) <| mQ rfl <| sq_go 16 rfl rfl rfl (q_move rfl) <| sq_go 16 rfl rfl rfl (q_eqpn_f ty46 rfl rfl) <| q0 (q_pick_f rfl rfl) <| sq_end) fun a w hF hS => ?_
 refine wp_if hF rfl (fun h => absurd h (by simp)) (fun _ => ?_)
 refine wp_skip ?_
 refine hK3 _ _ ?_
 refine reglS fun K5 hK5 => ?_
 refine lQ hF hS (mQ rfl <| sq_end) fun a w hF hS => ?_
 refine eQ hF hS rfl (ef_callx fn31 rfl (List.Perm.refl _) (by exact (lopen_ct _ _ (by assumption) _ _ hg0 hD7))) ?_
 rintro _ _ _ a w ⟨_, _, rfl, rfl, ⟨rfl, bl13, jb14, fv15, qa16, qb17, qc18, qd19, ua20, ub21, uc22, ud23, rfl, rfl, hJ24, hD25⟩⟩ hF hS
 replace hS := nl0_10 hS
 refine lQ hF hS (mQ rfl <| q0 (q_extract rfl rfl) <| q0 (q_extract rfl rfl) <| aQ rfl <| aQ rfl <| sq_end) fun a w hF hS => ?_
 refine wpList_nil ?_
 rw [Lg.op200] at hJ24
 rw [Lg.op200, Lg.tk0] at hS
 (try dsimp only at hS)
 refine hK5 _ _ ?_
 refine k0 ?_; intro K6 hK6
 refine regS hF hS (mQ rfl <| q0 (q_nf (q_nei rfl rfl) (by simp)) <| mQ rfl <| sq_go 27 rfl rfl rfl (q_move rfl) <| sq_go 27 rfl rfl rfl (q_eqpn_f ty45 rfl rfl) <| q0 (q_pick_f rfl rfl) <| sq_end) fun a w hF hS => ?_
 refine wp_if hF rfl (fun h => absurd h (by simp)) (fun _ => ?_)
 refine wp_skip ?_
 refine hK6 _ _ ?_
 refine k0 ?_; intro K8 hK8
 refine regS hF hS (aQ rfl <| sq_end) fun a w hF hS => ?_
 refine wp_block ?_
 obtain ⟨hs0, hhs0, hS⟩ := hS.oh
 refine wp_loopx (γ := Lg.Ld × Value × Res × Res × Res × Res × Res × Res × Res × Res × Nat) (⟨Jn.jnil, Dk.new 200, []⟩, fv15, qa16, qb17, qc18, qd19, ua20, ub21, uc22, ud23, 0) (fun (L, fv, p1, p2, p3, p4, q1, q2, q3, q4, j) => [(9, vi (j : Int))]) [(0, _), (5, _), (7, _)] (fun (L, fv, p1, p2, p3, p4, q1, q2, q3, q4, j) => ((((((((((hs0.set 0 (.blk bl13 119 [.pointer (some ⟨jb14, 0, none⟩), fv])).set 1 (.row fv 24 3 L.F.length (L.F.flatMap Lg.fcC))).set 2 (p1)).set 3 (p2)).set 4 (p3)).set 5 (p4)).set 6 (q1)).set 7 (q2)).set 8 (q3)).set 9 (q4))) (fun (L, fv, p1, p2, p3, p4, q1, q2, q3, q4, j) => j ≤ q.length ∧ JJ jb14 hh2.b L.J p1 p2 p3 p4 ∧ DD hh2 L.S q1 q2 q3 q4 ∧ Lg.Fld (q.take j) L) (fun (L, fv, p1, p2, p3, p4, q1, q2, q3, q4, j) => q.length - j) (hF.sub ⟨rfl, rfl, rfl, rfl, trivial⟩) (by subst hhs0; exact hS) (by exact ⟨Nat.zero_le _, hJ24, hD25, Lg.fl_new⟩) ?_
 rintro ⟨L, fv, p1, p2, p3, p4, q1, q2, q3, q4, j⟩ a w hfact hF hS
 subst hhs0; (try dsimp only at hfact hF hS)
 obtain ⟨hj0, hJp, hDq, hFl⟩ := hfact
 replace hS := nl0_10 hS
 refine k0 ?_; intro K10 hK10
 refine regS hF hS (mQ rfl <| mQ rfl <| q0 (q_len_sl ty26 hb rfl) <| q0 (q_lti rfl rfl) <| sq_end) fun a w hF hS => ?_
 refine wp_ifd hF rfl (fun hc3 => ?_) (fun hc3 => ?_)
 ·have hfc9 := Lg.fc_at hq (j := j) (by omega)
  obtain ⟨L2, hA9, hFl2⟩ := Lg.fl_next hq hFl (by omega)
  have hgF := hFl.good_F
  refine wp_skip ?_
  refine hK10 _ _ ?_
  refine k0 ?_; intro K12 hK12
  refine wp_block ?_
  refine reglS fun K13 hK13 => ?_
  refine lQ hF hS (mQ rfl <| mQ rfl <| mQ rfl <| q0 (q_idx_sl ty26 ty24 hb rfl rfl (by omega)) <| q0 (q_ld_Y ty24 hb zin0 rfl rfl (by omega)) <| sq_end) fun a w hF hS => ?_
  refine eQ hF hS rfl (ef_callx fn36 rfl (List.Perm.refl _) (by exact (ladd_ct _ _ _ L (q.getD (j : Int).toNat Lg.f0) hfc9.1 hfc9.2 _ _ hg0 (by assumption) hJp hDq (fv := fv)))) ?_
  rintro _ _ _ a w ⟨_, _, rfl, rfl, ⟨rfl, rfl, fv33, qa34, qb35, qc36, qd37, ua38, ub39, uc40, ud41, rfl, hJ42, hD43⟩⟩ hF hS
  replace hS := nl0_10 hS
  replace hS : St _ [] [_, _, _, _, _, _, _, _, _, _] _ := (hS)
  rw [hA9] at hJ42
  rw [hA9] at hD43
  rw [hA9] at hS
  rw [hA9] at hF
  (try dsimp only at hF)
  replace hS := nl0_10 hS
  refine lQ hF hS (q0 (q_nf (q_nei rfl rfl) (by simp)) <| sq_end) fun a w hF hS => ?_
  refine wpList_nil (hK13 _ _ ?_)
  refine wp_if hF rfl (fun h => absurd h (by simp)) (fun _ => ?_)
  refine wp_skip ?_
  refine hK12 _ _ ?_
  refine reg hF hS (mQ rfl <| pQ rfl rfl <| aQ rfl <| sq_end) fun a w hF hS => ?_
  refine ⟨(L2, fv33, qa34, qb35, qc36, qd37, ua38, ub39, uc40, ud41, j + 1), ?_, ?_, hF.sub ⟨rfl, rfl, rfl, rfl, trivial⟩, ?_⟩
  ·(try dsimp only); omega
  ·exact ⟨by omega, hJ42, hD43, hFl2⟩
  ·exact hS
 ·obtain rfl : j = q.length := by omega
  refine wp_exit ?_
  refine hK8 _ _ ?_
  refine regS hF hS (mQ rfl <| mQ rfl <| aQ rfl <| aQ rfl <| aQ rfl <| sq_end) fun a w hF hS => ?_
  refine wp_ret ?_
  rw [List.take_length] at hFl
  exact fn_ret (rs := [.tmp 2, .tmp 3, .tmp 4]) rfl hF hS (vs := [_, _, _]) ⟨rfl, rfl, rfl, trivial⟩ sQ sQ ⟨rfl, _, _, hh2, _, _, _, _, _, _, _, _, _, L, rfl, rfl, hJp, hDq, hFl⟩
end
section
theorem fn25 : FnOk Tryz.prog 25 := fQ Tryz.func25
attribute [local irreducible] Wi.int Wi.bytes Wi.getInt Wi.getBytes Sha.sum Jn.good Jn.hd Jn.lb Jn.cnt Jn.unp Jn.recd Jn.app Jn.opn Lg.dec Lg.enc Dk.new Lg.add Lg.taken Gu.arnd Dk.rot Dk.read
end
section
attribute [local irreducible] Wi.int Wi.bytes Wi.ints Wi.strs Wi.dgs Ls.encT Wi.getInt Wi.valBE Wi.vj Wi.cnt Wi.wcnt Wi.getBytes Wi.run Wi.getList
end
section
attribute [local irreducible] Wi.int Wi.bytes Wi.ints Wi.strs Wi.dgs Ls.encT Wi.getInt Wi.valBE Wi.vj Wi.cnt Wi.wcnt Wi.getBytes Wi.run Wi.getList Wi.getDigs Wi.dgL
def fewN (ps : List (List UInt8)) (i : Nat) : Nat := ps.length + (ps.take i).flatten.length
def fewAll (ps : List (List UInt8)) : Bool := decide (fewN ps ps.length ≤ 2000)
end
section
theorem ty68 : Tf Tryz.prog 68 (.slice 147) 1 24 (Value.slice none 0 0) := ⟨Tryz.underlying68, by kernel_rfl⟩
theorem ty72 : Tf Tryz.prog 72 (.slice 142) 1 24 (Value.slice none 0 0) := ⟨Tryz.underlying72, by kernel_rfl⟩
theorem ty142 : Tf Tryz.prog 142 (.struct #[⟨ "Key", 9, 0, false, "", "", 0⟩, ⟨ "Value", 9, 1, false, "", "", 16⟩]) 2 32 (.agg ([Value.string ⟨(List.nil : List UInt8).toArray⟩, Value.string ⟨(List.nil : List UInt8).toArray⟩]).toArray) := ⟨Tryz.underlying142, by kernel_rfl⟩
theorem ty147 : Tf Tryz.prog 147 (.struct #[⟨ "Key", 9, 0, false, "", "", 0⟩, ⟨ "Value", 9, 1, false, "", "", 16⟩]) 2 32 (.agg ([Value.string ⟨(List.nil : List UInt8).toArray⟩, Value.string ⟨(List.nil : List UInt8).toArray⟩]).toArray) := ⟨Tryz.underlying147, by kernel_rfl⟩
theorem fn113 : FnOk Tryz.prog 113 := fQ Tryz.func113
theorem fn114 : FnOk Tryz.prog 114 := fQ Tryz.func114
theorem fn152 : FnOk Tryz.prog 152 := fQ Tryz.func152
attribute [local irreducible] Sha.sum Sha.mac Sha.ofD Wi.int Wi.ints Wi.bytes Sha.inp Mk.half Lib.compareBytes
theorem valid1_ct (x : Mk.Lf) (w : World) : Ct Tryz.prog 114 [.agg [vs x.1, vs x.2].toArray] w (fun r _ _ => r = .bool (Mk.bigB x)) := by
 refine fn_enter Tryz.func114 rfl Tryz.ntmps114 (Nat.le_of_ble_eq_true rfl) fun a hF hS => ?_
 refine reglS fun K1 hK1 => ?_
 refine eQ hF hS rfl (ef_boxA rfl) ?_
 rintro _ _ _ a w ⟨b1, rfl, rfl, rfl⟩ hF hS
 refine lQ hF hS (aQ rfl <| sq_end) fun a w hF hS => ?_
 refine wpList_nil (hK1 _ _ ?_)
 refine reglS fun K2 hK2 => ?_
 refine lQ hF hS (q0 (q_fieldAddr ty142 rfl rfl (s' := 0) kQ) <| q0 (q_ld_blk1 ty9 0 rfl rfl rfl rfl) <| q0 (q_len_s ty9 rfl) <| q0 (q_gti rfl rfl) <| mQ rfl <| sq_end) fun a w hF hS => ?_
 refine wpl_or 4 7 4 hF hS rfl rfl rfl rfl rfl (fun hg => have hg := (by first | exact of_decide_eq_false hg | exact hg); sq_go 7 rfl rfl rfl (q_fieldAddr ty142 rfl rfl (s' := 0) kQ) <| sq_go 7 rfl rfl rfl (q_ld_blk1 ty9 0 rfl rfl rfl rfl) <| sq_go 7 rfl rfl rfl (q_len_s ty9 rfl) <| sq_go 7 rfl rfl rfl (q_gti rfl rfl) <| sq_end) rfl rfl fun a w hF hS => ?_
 refine lQ hF hS (aQ rfl <| sq_end) fun a w hF hS => ?_
 refine wpList_nil (hK2 _ _ ?_)
 refine wp_ret ?_
 exact fn_ret (rs := [.tmp 2]) rfl hF hS (vs := [_]) ⟨rfl, trivial⟩ zQ zQ (by rw [← Mk.big_eq])
theorem ixfL_ct (v : Value) (ls : List Mk.Lf) (w : World) (hb : Sl encF (ph w) v ls) : Ct Tryz.prog 152 [v, .func (.func 114) (List.nil : List Value).toArray (List.nil : List Value).toArray] w (fun r _ _ => r = vi (Mk.ixF Mk.bigB ls)) := by
 refine fn_enter Tryz.func152 rfl Tryz.ntmps152 (Nat.le_of_ble_eq_true rfl) fun a hF hS => ?_
 have hbl := hb.1
 refine regS hF hS (aQ rfl <| sq_end) fun a w hF hS => ?_
 refine k0 ?_; intro K2 hK2
 refine regS hF hS (mQ rfl <| q0 (q_len_sl ty72 hb rfl) <| mQ rfl <| sq_end) fun a w hF hS => ?_
 refine wp_block ?_
 obtain ⟨hs0, hhs0, hS⟩ := hS.oh
 refine wp_loopx (γ := Int) (0) (fun (i : Int) => [(8, vi i)]) [(0, _), (1, _), (7, _)] (fun (i : Int) => hs0) (fun (i : Int) => 0 ≤ i ∧ i ≤ ls.length ∧ ∀ j, j < i.toNat → Mk.bigB (ls.getD j kv0) = false) (fun (i : Int) => (ls.length - i).toNat) (hF.sub ⟨rfl, rfl, rfl, rfl, trivial⟩) (by subst hhs0; exact hS) (by exact ⟨Int.le_refl _, by omega, fun j hj => absurd hj (by simp)⟩) ?_
 rintro i a w hfact hF hS
 subst hhs0; (try dsimp only at hfact hF hS)
 obtain ⟨hi0, hi1, hno⟩ := hfact
 replace hS : St _ [] [] _ := hS
 refine regS hF hS (q0 (q_lti rfl rfl) <| sq_end) fun a w hF hS => ?_
 refine k0 ?_; intro K5 hK5
 refine wp_ifd hF rfl (fun hc1 => ?_) (fun hc1 => ?_)
 ·refine wp_skip ?_
  refine hK5 _ _ ?_
  refine k0 ?_; intro K6 hK6
  refine wp_block ?_
  refine regS hF hS (mQ rfl <| aQ rfl <| sq_end) fun a w hF hS => ?_
  refine regS hF hS (mQ rfl <| mQ rfl <| mQ rfl <| q0 (q_idx_sl ty72 ty142 hb rfl rfl (by omega)) <| q0 (q_ld_F ty142 hb zin0 rfl rfl (by omega)) <| q0 (q_callv fn114 rfl rfl (by exact fun w hS => valid1_ct (ls.getD i.toNat kv0) w ) (fun _ _ _ h => h)) <| sq_end) fun a w hF hS => ?_
  refine wp_if hF rfl (fun hc2 => ?_) (fun hc2 => ?_)
  ·refine k0 ?_; intro K9 hK9
   refine reg hF hS (mQ rfl <| aQ rfl <| sq_end) fun a w hF hS => ?_
   refine hK9 _ _ ?_
   refine wp_ret ?_
   exact fn_ret (rs := [.tmp 4]) rfl hF hS (vs := [_]) ⟨rfl, trivial⟩ zQ zQ (by rw [Mk.ixF_at (i := i.toNat) (by omega) hc2 hno, Int.toNat_of_nonneg hi0])
  ·refine wp_skip ?_
   refine hK6 _ _ ?_
   refine reg hF hS (pQ rfl rfl <| mQ rfl <| sq_end) fun a w hF hS => ?_
   refine ⟨(i + 1), ?_, ?_, hF.sub ⟨rfl, rfl, rfl, rfl, trivial⟩, ?_⟩
   ·(try dsimp only); omega
   ·exact ⟨by omega, by omega, Mk.none_step hi0 hc2 hno⟩
   ·exact hS
 ·refine wp_exit ?_
  refine hK2 _ _ ?_
  refine regS hF hS (aQ rfl <| sq_end) fun a w hF hS => ?_
  refine wp_ret ?_
  exact fn_ret (rs := [.tmp 4]) rfl hF hS (vs := [_]) ⟨rfl, trivial⟩ zQ zQ (by rw [Mk.ixF_no (fun j hj => hno j (by omega))])
theorem contL_ct (v : Value) (ls : List Mk.Lf) (w : World) (hb : Sl encF (ph w) v ls) : Ct Tryz.prog 113 [v, .func (.func 114) (List.nil : List Value).toArray (List.nil : List Value).toArray] w (fun r _ _ => r = .bool (ls.any Mk.bigB)) := by
 refine fn_enter Tryz.func113 rfl Tryz.ntmps113 (Nat.le_of_ble_eq_true rfl) fun a hF hS => ?_
 have hbl := hb.1
 refine regS hF hS (aQ rfl <| sq_end) fun a w hF hS => ?_
 refine regS hF hS (mQ rfl <| mQ rfl <| q0 (q_call fn152 rfl (fun w hS => ixfL_ct _ _ w (Sl.mono (hS.le zin0) hb)) (fun _ _ _ h => h)) <| q0 (q_gei rfl rfl) <| aQ rfl <| sq_end) fun a w hF hS => ?_
 refine wp_ret ?_
 exact fn_ret (rs := [.tmp 4]) rfl hF hS (vs := [_]) ⟨rfl, trivial⟩ zQ zQ (by rw [Mk.ixF_any])
theorem valid_ct (v : Value) (ls : List Mk.Lf) (w : World) (hb : Sl encF (ph w) v ls) : Ct Tryz.prog 75 [v] w (fun r _ _ => r = vi (Mk.vE ls)) := by
 refine fn_enter Tryz.func75 rfl Tryz.ntmps75 (Nat.le_of_ble_eq_true rfl) fun a hF hS => ?_
 have hbl := hb.1
 refine regS hF hS (aQ rfl <| sq_end) fun a w hF hS => ?_
 refine k0 ?_; intro K2 hK2
 refine reglS fun K3 hK3 => ?_
 refine lQ hF hS (mQ rfl <| q0 (q_len_sl ty72 hb rfl) <| q0 (q_gti rfl rfl) <| mQ rfl <| sq_end) fun a w hF hS => ?_
 refine wpl_or 3 7 2 hF hS rfl rfl rfl rfl rfl (fun hg => have hg := (by first | exact of_decide_eq_false hg | exact hg); sq_go 7 rfl rfl rfl (q_move rfl) <| sq_go 7 rfl rfl rfl (q_call fn113 rfl (fun w hS => contL_ct _ _ w (Sl.mono (hS.le zin0) hb)) (fun _ _ _ h => h)) <| sq_end) rfl rfl fun a w hF hS => ?_
 refine wpList_nil (hK3 _ _ ?_)
 refine wp_if hF rfl (fun hc1 => ?_) (fun hc1 => ?_)
 ·(try simp only [bS] at hc1)
  refine regS hF hS (aQ rfl <| sq_end) fun a w hF hS => ?_
  refine wp_ret ?_
  exact fn_ret (rs := [.tmp 2]) rfl hF hS (vs := [_]) ⟨rfl, trivial⟩ zQ zQ (by rw [Mk.vE_4 (by rcases hc1 with h | h; exact .inl (by omega); exact .inr h)])
 ·(try simp only [bS] at hc1)
  have hnb : ¬ (4096 < ls.length ∨ ls.any Mk.bigB = true) := fun h => by rcases h with h | h; exact hc1.1 (by omega); rw [hc1.2] at h; cases h
  refine wp_skip ?_
  refine hK2 _ _ ?_
  refine k0 ?_; intro K5 hK5
  refine regS hF hS (mQ rfl <| q0 (q_len_sl ty72 hb rfl) <| mQ rfl <| sq_end) fun a w hF hS => ?_
  refine wp_block ?_
  obtain ⟨hs0, hhs0, hS⟩ := hS.oh
  refine wp_loopx (γ := Int) (0) (fun (i : Int) => [(13, vi i)]) [(0, _), (12, _)] (fun (i : Int) => hs0) (fun (i : Int) => 0 ≤ i ∧ i ≤ ls.length ∧ Mk.ascN ls i.toNat = true) (fun (i : Int) => (ls.length - i).toNat) (hF.sub ⟨rfl, rfl, rfl, trivial⟩) (by subst hhs0; exact hS) (by exact ⟨Int.le_refl _, by omega, rfl⟩) ?_
  rintro i a w hfact hF hS
  subst hhs0; (try dsimp only at hfact hF hS)
  obtain ⟨hi0, hi1, has⟩ := hfact
  replace hS : St _ [] [] _ := hS
  refine regS hF hS (q0 (q_lti rfl rfl) <| sq_end) fun a w hF hS => ?_
  refine k0 ?_; intro K8 hK8
  refine wp_ifd hF rfl (fun hc2 => ?_) (fun hc2 => ?_)
  ·refine wp_skip ?_
   refine hK8 _ _ ?_
   refine k0 ?_; intro K9 hK9
   refine wp_block ?_
   refine regS hF hS (mQ rfl <| aQ rfl <| sq_end) fun a w hF hS => ?_
   refine k0 ?_; intro K11 hK11
   refine regq mixed kQ hS ?_
   refine wpq_seg hF (mQ rfl <| q0 (q_gti rfl rfl) <| mQ rfl <| sq_end) fun a hF => ?_
   refine wpq_and 2 18 12 hF rfl rfl rfl rfl rfl (fun hg => have hg := (by first | exact of_decide_eq_true hg | exact hg); sq_go 18 rfl rfl rfl (q_move rfl) <| sq_go 18 rfl rfl rfl (q_move rfl) <| sq_go 18 rfl rfl rfl (q_subi rfl rfl (by omega)) <| sq_go 18 rfl rfl rfl (q_idx_sl ty72 ty142 hb rfl rfl (by omega)) <| sq_go 18 rfl rfl rfl (q_fld_F ty142 hb rfl (by omega) rfl (s' := 0) kQ) <| sq_go 18 rfl rfl rfl (q_ld_FK ty9 hb zin0 rfl rfl (by omega)) <| sq_go 18 rfl rfl rfl (q_move rfl) <| sq_go 18 rfl rfl rfl (q_move rfl) <| sq_go 18 rfl rfl rfl (q_idx_sl ty72 ty142 hb rfl rfl (by omega)) <| sq_go 18 rfl rfl rfl (q_fld_F ty142 hb rfl (by omega) rfl (s' := 0) kQ) <| sq_go 18 rfl rfl rfl (q_ld_FK ty9 hb zin0 rfl rfl (by omega)) <| sq_go 18 rfl rfl rfl (q_ges rfl rfl) <| sq_end) rfl rfl fun a hF => ?_
   refine wpq_nil ?_
   clear hS; intro w hS
   refine hK11 _ _ ?_
   refine wp_if hF rfl (fun hc3 => ?_) (fun hc3 => ?_)
   ·(try simp only [bS] at hc3)
    refine regS hF hS (aQ rfl <| sq_end) fun a w hF hS => ?_
    refine wp_ret ?_
    exact fn_ret (rs := [.tmp 2]) rfl hF hS (vs := [_]) ⟨rfl, trivial⟩ zQ zQ (by rw [Mk.vE_1 hnb (Mk.asc_stop hc3.1 (by omega) hc3.2)])
   ·(try simp only [bS] at hc3)
    refine wp_skip ?_
    refine hK9 _ _ ?_
    refine reg hF hS (pQ rfl rfl <| mQ rfl <| sq_end) fun a w hF hS => ?_
    refine ⟨(i + 1), ?_, ?_, hF.sub ⟨rfl, rfl, rfl, trivial⟩, ?_⟩
    ·(try dsimp only); omega
    ·exact ⟨by omega, by omega, Mk.asc_next hi0 has (fun h => hc3.elim (fun h2 => h2 h.1) (fun h2 => by have h3 := h.2; rw [show Mk.lt (ls.getD (i - 1).toNat kv0).1 (ls.getD i.toNat kv0).1 = true from h2] at h3; cases h3))⟩
    ·exact hS
  ·refine wp_exit ?_
   refine hK5 _ _ ?_
   refine regS hF hS (aQ rfl <| sq_end) fun a w hF hS => ?_
   refine wp_ret ?_
   exact fn_ret (rs := [.tmp 2]) rfl hF hS (vs := [_]) ⟨rfl, trivial⟩ zQ zQ (by rw [Mk.vE_0 hnb (by rw [show ls.length = i.toNat by omega]; exact has)])
theorem middle_ct (a b : Int) (n : Nat) (ha : 0 ≤ a ∧ a ≤ 1099511627776) (hn : b = a + n) (hn2 : 2 ≤ n) (hn9 : n ≤ 1099511627776) (w : World) : Ct Tryz.prog 118 [vi a, vi b] w (fun r _ _ => r = vi (a + Mk.half n)) := by
 refine fn_enter Tryz.func118 rfl Tryz.ntmps118 (Nat.le_of_ble_eq_true rfl) fun a hF hS => ?_
 refine regS hF hS (aQ rfl <| sq_end) fun a w hF hS => ?_
 refine regS hF hS (aQ rfl <| sq_end) fun a w hF hS => ?_
 refine k0 ?_; intro K3 hK3
 refine wp_block ?_
 obtain ⟨hs0, hhs0, hS⟩ := hS.oh
 refine wp_loopx (γ := Int × Nat) (1, 0) (fun (m, j) => [(5, vi m)]) [(0, _), (1, _)] (fun (m, j) => hs0) (fun (m, j) => m = ((2 ^ j : Nat) : Int) ∧ (j = 0 ∨ 2 ^ j < n) ∧ 1 ≤ m ∧ m ≤ 1099511627776) (fun (m, j) => (2 * 1099511627776 - m).toNat) (hF.sub ⟨rfl, rfl, rfl, trivial⟩) (by subst hhs0; exact hS) (by exact ⟨rfl, .inl rfl, by omega, by omega⟩) ?_
 rintro ⟨m, j⟩ a w hfact hF hS
 subst hhs0; (try dsimp only at hfact hF hS)
 obtain ⟨hm, hj, hm1, hm2⟩ := hfact
 replace hS : St _ [] [] _ := hS
 refine k0 ?_; intro K4 hK4
 refine regS hF hS (mQ rfl <| q0 (q_muli rfl rfl (by omega)) <| mQ rfl <| mQ rfl <| dQ rfl rfl <| q0 (q_lti rfl rfl) <| sq_end) fun a w hF hS => ?_
 refine wp_ifd hF rfl (fun hc1 => ?_) (fun hc1 => ?_)
 ·refine wp_skip ?_
  refine hK4 _ _ ?_
  refine wp_block ?_
  refine reg hF hS (mQ rfl <| q0 (q_muli rfl rfl (by omega)) <| aQ rfl <| sq_end) fun a w hF hS => ?_
  refine ⟨(m * 2, j + 1), ?_, ?_, hF.sub ⟨rfl, rfl, rfl, trivial⟩, ?_⟩
  ·(try dsimp only); omega
  ·exact ⟨by rw [Nat.pow_succ, hm]; push_cast; omega, .inr (by rw [Nat.pow_succ]; omega), by omega, by omega⟩
  ·exact hS
 ·have hmh := Mk.pow_half hm hj (by omega) hn2
  refine wp_exit ?_
  refine hK3 _ _ ?_
  refine regS hF hS (mQ rfl <| mQ rfl <| pQ rfl rfl <| aQ rfl <| sq_end) fun a w hF hS => ?_
  refine wp_ret ?_
  exact fn_ret (rs := [.tmp 4]) rfl hF hS (vs := [_]) ⟨rfl, trivial⟩ zQ zQ (by rw [hmh])
theorem half_ct (b : Int) (n : Nat) (hn : b = n) (hn2 : 2 ≤ n) (hn9 : n ≤ 1099511627776) (w : World) : Ct Tryz.prog 153 [vi b] w (fun r _ _ => r = vi (Mk.half n)) := by
 refine fn_enter Tryz.func153 rfl Tryz.ntmps153 (Nat.le_of_ble_eq_true rfl) fun a hF hS => ?_
 refine regS hF hS (aQ rfl <| sq_end) fun a w hF hS => ?_
 refine regS hF hS (aQ rfl <| sq_end) fun a w hF hS => ?_
 refine k0 ?_; intro K3 hK3
 refine wp_block ?_
 obtain ⟨hs0, hhs0, hS⟩ := hS.oh
 refine wp_loopx (γ := Int × Nat) (1, 0) (fun (m, j) => [(3, vi m)]) [(0, _)] (fun (m, j) => hs0) (fun (m, j) => m = ((2 ^ j : Nat) : Int) ∧ (j = 0 ∨ 2 ^ j < n) ∧ 1 ≤ m ∧ m ≤ 1099511627776) (fun (m, j) => (2 * 1099511627776 - m).toNat) (hF.sub ⟨rfl, rfl, trivial⟩) (by subst hhs0; exact hS) (by exact ⟨rfl, .inl rfl, by omega, by omega⟩) ?_
 rintro ⟨m, j⟩ a w hfact hF hS
 subst hhs0; (try dsimp only at hfact hF hS)
 obtain ⟨hm, hj, hm1, hm2⟩ := hfact
 replace hS : St _ [] [] _ := hS
 refine k0 ?_; intro K4 hK4
 refine regS hF hS (mQ rfl <| q0 (q_muli rfl rfl (by omega)) <| mQ rfl <| q0 (q_lti rfl rfl) <| sq_end) fun a w hF hS => ?_
 refine wp_ifd hF rfl (fun hc1 => ?_) (fun hc1 => ?_)
 ·refine wp_skip ?_
  refine hK4 _ _ ?_
  refine wp_block ?_
  refine reg hF hS (mQ rfl <| q0 (q_muli rfl rfl (by omega)) <| aQ rfl <| sq_end) fun a w hF hS => ?_
  refine ⟨(2 * m, j + 1), ?_, ?_, hF.sub ⟨rfl, rfl, trivial⟩, ?_⟩
  ·(try dsimp only); omega
  ·exact ⟨by rw [Nat.pow_succ, hm]; push_cast; omega, .inr (by rw [Nat.pow_succ]; omega), by omega, by omega⟩
  ·exact hS
 ·have hmh := Mk.pow_half hm hj (by omega) hn2
  refine wp_exit ?_
  refine hK3 _ _ ?_
  refine regS hF hS (mQ rfl <| aQ rfl <| sq_end) fun a w hF hS => ?_
  refine wp_ret ?_
  exact fn_ret (rs := [.tmp 2]) rfl hF hS (vs := [_]) ⟨rfl, trivial⟩ zQ zQ (by rw [hmh])
end
section
theorem ty197 : Tf Tryz.prog 197 (.func #[3, 3] #[62] false) 1 8 (Value.nilFunc) := ⟨Tryz.underlying197, by kernel_rfl⟩
theorem fn75 : FnOk Tryz.prog 75 := fQ Tryz.func75
theorem fn76 : FnOk Tryz.prog 76 := fQ Tryz.func76
theorem fn77 : FnOk Tryz.prog 77 := fQ Tryz.func77
theorem fn115 : FnOk Tryz.prog 115 := fQ Tryz.func115
theorem fn116 : FnOk Tryz.prog 116 := fQ Tryz.func116
theorem fn117 : FnOk Tryz.prog 117 := fQ Tryz.func117
theorem fn118 : FnOk Tryz.prog 118 := fQ Tryz.func118
theorem fn119 : FnOk Tryz.prog 119 := fQ Tryz.func119
attribute [local irreducible] Sha.sum Sha.mac Sha.ofD Wi.int Wi.ints Wi.bytes Sha.inp Mk.half Lib.compareBytes
theorem leaf_ct (x : Mk.Lf) (hx : x.1.length < 1048576 ∧ x.2.length < 1048576) (w : World) {fz1 : Nat × Nat} {bt1 : TypeId} (hg1 : w.heap[1]? = some (.cells (Sha.kc.map vw).toArray bt1 fz1)) : Ct Tryz.prog 117 [.agg [vs x.1, vs x.2].toArray] w (fun r _ _ => r = .agg ((Mk.leafD x).map vb).toArray) := by
 refine fn_enter Tryz.func117 rfl Tryz.ntmps117 (Nat.le_of_ble_eq_true rfl) fun a hF hS => ?_
 have hol := Sha.ofD_len 3 [x.1, x.2]
 refine reglS fun K1 hK1 => ?_
 refine eQ hF hS rfl (ef_boxA rfl) ?_
 rintro _ _ _ a w ⟨b1, rfl, rfl, rfl⟩ hF hS
 refine eQ hF hS rfl (ef_allocA ty62) ?_
 rintro _ _ _ a w ⟨b2, rfl, rfl, rfl⟩ hF hS
 rw [show List.replicate 16 (Value.int .u8 0) = (List.replicate 16 (0 : UInt8)).map vb from by rw [List.map_replicate] <;> rfl] at hS
 refine wpList_nil (hK1 _ _ ?_)
 refine reglS fun K2 hK2 => ?_
 refine lQ hF hS (q0 (q_fieldAddr ty142 rfl rfl (s' := 0) kQ) <| q0 (q_ld_blk1 ty9 1 rfl rfl rfl rfl) <| q0 (q_fieldAddr ty142 rfl rfl (s' := 0) kQ) <| q0 (q_ld_blk1 ty9 1 rfl rfl rfl rfl) <| sq_end) fun a w hF hS => ?_
 refine eQ hF hS rfl (ef_bsliceA ty40 ty9 rfl rfl oQ (by decide) rfl rfl) ?_
 rintro v3 _ _ a w ⟨rfl, rfl⟩ hF hS
 replace hS := nl0_3 hS
 refine lQ hF hS (q0 (q_call fn115 rfl (fun w hS => of_ct _ _ _ (by simp; omega) (by simp) w (own_slV (f := vs) (xs := [x.1, x.2]) (hS.own _ (List.mem_of_getElem? (i := 0) rfl)).1 (by simp; omega) rfl (by first | decide | omega)) (hS.ext _ _ hg1)) (fun _ _ _ h => h)) <| sq_end) fun a w hF hS => ?_
 refine eQ hF hS rfl (ef_storeW ty62 1 rfl rfl rfl rfl bQ oQ bQ) ?_
 rintro _ _ _ a w ⟨rfl, rfl, rfl⟩ hF hS
 replace hS := nl0_3 hS
 refine wpList_nil (hK2 _ _ ?_)
 refine wp_ret ?_
 exact fn_ret (rs := [.cell 2 62]) rfl hF hS (vs := [_]) ⟨⟨_, _, _, _, _, _, _, rfl, List.mem_of_getElem? (i := 1) rfl, ty62, .inl ⟨rfl, bQ, rfl⟩⟩, trivial⟩ zQ zQ (rfl)
theorem node_ct (da db : List UInt8) (ha : da.length = 16) (hb : db.length = 16) (w : World) {fz1 : Nat × Nat} {bt1 : TypeId} (hg1 : w.heap[1]? = some (.cells (Sha.kc.map vw).toArray bt1 fz1)) : Ct Tryz.prog 119 [.agg ((da).map vb).toArray, .agg ((db).map vb).toArray] w (fun r _ _ => r = .agg ((Mk.nodeD da db).map vb).toArray) := by
 refine fn_enter Tryz.func119 rfl Tryz.ntmps119 (Nat.le_of_ble_eq_true rfl) fun a hF hS => ?_
 have hol := Sha.ofD_len 4 [da, db]
 refine reglS fun K1 hK1 => ?_
 refine eQ hF hS rfl (ef_boxA rfl) ?_
 rintro _ _ _ a w ⟨b1, rfl, rfl, rfl⟩ hF hS
 refine eQ hF hS rfl (ef_boxA rfl) ?_
 rintro _ _ _ a w ⟨b2, rfl, rfl, rfl⟩ hF hS
 refine eQ hF hS rfl (ef_allocA ty62) ?_
 rintro _ _ _ a w ⟨b3, rfl, rfl, rfl⟩ hF hS
 rw [show List.replicate 16 (Value.int .u8 0) = (List.replicate 16 (0 : UInt8)).map vb from by rw [List.map_replicate] <;> rfl] at hS
 refine wpList_nil (hK1 _ _ ?_)
 refine k0 ?_; intro K2 hK2
 refine regt 4 mixed kQ hF hS (q0 (q_sla ty62 ty5 rfl) <| q0 (q_b2s_blkM ty25 ty9 ty5 2 rfl rfl bQ) <| q0 (q_sla ty62 ty5 rfl) <| q0 (q_b2s_blkM ty25 ty9 ty5 1 rfl rfl bQ) <| sq_end) fun a w hF hS => ?_
 refine eQ hF hS rfl (ef_bsliceA ty40 ty9 rfl rfl oQ (by decide) rfl rfl) ?_
 rintro v4 _ _ a w ⟨rfl, rfl⟩ hF hS
 replace hS := nl0_4 hS
 refine lQ hF hS (q0 (q_call fn115 rfl (fun w hS => of_ct _ _ _ (by simp; omega) (by simp) w (own_slV (f := vs) (xs := [da, db]) (hS.own _ (List.mem_of_getElem? (i := 0) rfl)).1 (by simp; omega) rfl (by first | decide | omega)) (hS.ext _ _ hg1)) (fun _ _ _ h => h)) <| sq_end) fun a w hF hS => ?_
 refine eQ hF hS rfl (ef_storeW ty62 1 rfl rfl rfl rfl bQ oQ bQ) ?_
 rintro _ _ _ a w ⟨rfl, rfl, rfl⟩ hF hS
 replace hS := nl0_4 hS
 refine wpList_nil (hK2 _ _ ?_)
 refine wp_ret ?_
 exact fn_ret (rs := [.cell 4 62]) rfl hF hS (vs := [_]) ⟨⟨_, _, _, _, _, _, _, rfl, List.mem_of_getElem? (i := 1) rfl, ty62, .inl ⟨rfl, bQ, rfl⟩⟩, trivial⟩ zQ zQ (rfl)
theorem root_ct (n : Int) (d : List UInt8) (hd : d.length = 16) (hn : 0 ≤ n ∧ n ≤ 9223372036854775807) (w : World) {fz1 : Nat × Nat} {bt1 : TypeId} (hg1 : w.heap[1]? = some (.cells (Sha.kc.map vw).toArray bt1 fz1)) : Ct Tryz.prog 76 [vi n, .agg ((d).map vb).toArray] w (fun r _ _ => r = .agg ((Mk.rootD n.toNat d).map vb).toArray) := by
 refine fn_enter Tryz.func76 rfl Tryz.ntmps76 (Nat.le_of_ble_eq_true rfl) fun a hF hS => ?_
 have hol := Sha.ofD_len 4 [Wi.int n, d]
 have hol0 := Sha.ofD_len 4 [Wi.int 0]
 have hil := Wi.int_len9 n
 have hil0 := Wi.int_len9 0
 refine reglS fun K1 hK1 => ?_
 refine eQ hF hS rfl (ef_boxA rfl) ?_
 rintro _ _ _ a w ⟨b1, rfl, rfl, rfl⟩ hF hS
 refine eQ hF hS rfl (ef_allocA ty62) ?_
 rintro _ _ _ a w ⟨b2, rfl, rfl, rfl⟩ hF hS
 rw [show List.replicate 16 (Value.int .u8 0) = (List.replicate 16 (0 : UInt8)).map vb from by rw [List.map_replicate] <;> rfl] at hS
 refine wpList_nil (hK1 _ _ ?_)
 refine k0 ?_; intro K2 hK2
 refine regS hF hS (mQ rfl <| q0 (q_eqi rfl rfl) <| sq_end) fun a w hF hS => ?_
 refine wp_ifd hF rfl (fun hc1 => ?_) (fun hc1 => ?_)
 ·refine k0 ?_; intro K4 hK4
  refine regl ?_
  refine eQ hF hS rfl (ef_call fn57 rfl (fun w hS => wint_ct _ w )) ?_
  rintro v3 _ _ a w ⟨_, _, rfl, rfl, rfl, rfl⟩ hF hS
  replace hS := nl0_3 hS
  refine lQ hF hS (q0 (q_b2s_row ty25 ty9 ty5 0 rfl rfl) <| sq_end) fun a w hF hS => ?_
  refine eQ hF hS rfl (ef_bsliceA ty40 ty9 rfl rfl oQ (by decide) rfl rfl) ?_
  rintro v5 _ _ a w ⟨rfl, rfl⟩ hF hS
  replace hS := nl0_4 hS
  refine lQ hF hS (q0 (q_call fn115 rfl (fun w hS => of_ct _ _ _ (by simp; omega) (by simp) w (own_slV (f := vs) (xs := [Wi.int 0]) (hS.own _ (List.mem_of_getElem? (i := 0) rfl)).1 (by simp; omega) rfl (by first | decide | omega)) (hS.ext _ _ hg1)) (fun _ _ _ h => h)) <| sq_end) fun a w hF hS => ?_
  refine eQ hF hS rfl (ef_storeW ty62 2 rfl rfl rfl rfl bQ oQ bQ) ?_
  rintro _ _ _ a w ⟨rfl, rfl, rfl⟩ hF hS
  replace hS := nl0_4 hS
  refine wpList_nil (hK4 _ _ ?_)
  refine wp_ret ?_
  exact fn_ret (rs := [.cell 4 62]) rfl hF hS (vs := [_]) ⟨⟨_, _, _, _, _, _, _, rfl, List.mem_of_getElem? (i := 2) rfl, ty62, .inl ⟨rfl, bQ, rfl⟩⟩, trivial⟩ zQ zQ (by unfold Mk.rootD; rw [if_pos (by omega)])
 ·refine wp_skip ?_
  refine hK2 _ _ ?_
  refine k0 ?_; intro K5 hK5
  revert hS; revert hF; apply regJ (J := J2 (α0 := Value) (α1 := Value) 18 _ _ _ _ _) #[false, false, false, false, false, false, false, false] 8 mixed rfl rfl
  ·intro w hF hS
   refine tQ 0 rfl hF (hS.keep sQ zQ) (q_move rfl) fun a hF => ?_
   refine tQ 3 rfl hF (hS.keep sQ (sQ.n)) (q_sla ty62 ty5 rfl) fun a hF => ?_
   refine tQ 4 rfl hF (hS.keep sQ (sQ.n)) (q_b2s_blkM ty25 ty9 ty5 0 rfl rfl bQ) fun a hF => ?_
   refine gQ 1 rfl rfl hF hS rfl (ef_call fn57 rfl (fun w hS => wint_ct _ w )) ?_
   rintro v_3_1 _ _ a w ⟨_, _, rfl, rfl, rfl, rfl⟩ hF hS
   refine ⟨⟨.inr (hS.k1 (sQ.n.n)), .inr (hS.k1 (sQ.n.n)), iQ, trivial⟩, ?_⟩
   refine tQ 2 rfl hF (hS.keep sQ (zQ.k)) (q_b2s_row ty25 ty9 ty5 0 rfl rfl) fun a hF => ?_
   refine gQ 5 rfl rfl hF hS rfl (ef_bsliceA ty40 ty9 rfl rfl oQ (by decide) rfl rfl) ?_
   rintro v_3_5 _ _ a w ⟨rfl, rfl⟩ hF hS
   refine ⟨⟨iQ, iQ, iQ, iQ, trivial⟩, ?_⟩
   refine gQ 6 rfl rfl hF hS rfl (ef_qt (q_call fn115 rfl (fun w hS => of_ct _ _ _ (by simp; omega) (by simp) w (own_slV (f := vs) (xs := [Wi.int n, d]) (hS.own _ (List.mem_of_getElem? (i := 0) rfl)).1 (by simp; omega) rfl (by first | decide | omega)) (hS.ext _ _ hg1)) (fun _ _ _ h => h))) ?_
   rintro _ _ _ a w ⟨rfl, rfl, rfl⟩ hF hS
   refine ⟨⟨iQ, iQ, iQ, iQ, trivial⟩, ?_⟩
   refine gQ 7 rfl rfl hF hS rfl (ef_storeW ty62 2 rfl rfl rfl rfl bQ oQ bQ) ?_
   rintro _ _ _ a w ⟨rfl, rfl, rfl⟩ hF hS
   refine ⟨⟨iQ, iQ, iQ, iQ, trivial⟩, ?_⟩
   exact goW_done kQ (j2_mk v_3_1 v_3_5 (trivial) (hF.sub (L' := [(4, _)]) ⟨rfl, trivial⟩) hS)
  rintro a w ⟨v_3_1, v_3_5, -, hF, hS⟩
  (try dsimp only at hF hS)
  refine hK5 _ _ ?_
  refine wp_ret ?_
  exact fn_ret (rs := [.cell 4 62]) rfl hF hS (vs := [_]) ⟨⟨_, _, _, _, _, _, _, rfl, List.mem_of_getElem? (i := 2) rfl, ty62, .inl ⟨rfl, bQ, rfl⟩⟩, trivial⟩ zQ zQ (by unfold Mk.rootD; rw [if_neg (by omega), Int.toNat_of_nonneg hn.1])
theorem dig_step (v : Value) (ls : List Mk.Lf) (e1 e3 : Nat) {bte1 bte3 : TypeId} {fze1 fze3 : Nat × Nat} (hl : ls.length < 1048576) (hx : ∀ x ∈ ls, x.1.length < 1048576 ∧ x.2.length < 1048576) (fz1 : Nat × Nat) (bt1 : TypeId) (f : Nat) (ih : ∀ (lo hi : Int) (n : Nat) (ha : 0 ≤ lo) (hn : hi = lo + n) (hn1 : 1 ≤ n) (hnf : n ≤ f) (han : lo + n ≤ ls.length) (w : World) (hb1 : w.heap[e1]? = some (.cells [v].toArray bte1 fze1)) (hb : Sl encF (ph w) v ls) (hb3 : w.heap[e3]? = some (.cells [.func (.func 116) (List.nil : List Value).toArray [Value.pointer (some ⟨e1, 0, none⟩), Value.pointer (some ⟨e3, 0, none⟩)].toArray].toArray bte3 fze3)) (hg1 : w.heap[1]? = some (.cells (Sha.kc.map vw).toArray bt1 fz1)), Ct Tryz.prog 116 [vi lo, vi hi, .pointer (some ⟨e1, 0, none⟩), .pointer (some ⟨e3, 0, none⟩)] w (fun r _ _ => r = .agg ((Mk.rowD (Mk.sub ls lo.toNat n)).map vb).toArray)) (lo hi : Int) (n : Nat) (ha : 0 ≤ lo) (hn : hi = lo + n) (hn1 : 1 ≤ n) (hnf : n ≤ f + 1) (han : lo + n ≤ ls.length) (w : World) (hb1 : w.heap[e1]? = some (.cells [v].toArray bte1 fze1)) (hb : Sl encF (ph w) v ls) (hb3 : w.heap[e3]? = some (.cells [.func (.func 116) (List.nil : List Value).toArray [Value.pointer (some ⟨e1, 0, none⟩), Value.pointer (some ⟨e3, 0, none⟩)].toArray].toArray bte3 fze3)) (hg1 : w.heap[1]? = some (.cells (Sha.kc.map vw).toArray bt1 fz1)) : Ct Tryz.prog 116 [vi lo, vi hi, .pointer (some ⟨e1, 0, none⟩), .pointer (some ⟨e3, 0, none⟩)] w (fun r _ _ => r = .agg ((Mk.rowD (Mk.sub ls lo.toNat n)).map vb).toArray) := by
 refine fn_enter Tryz.func116 rfl Tryz.ntmps116 (Nat.le_of_ble_eq_true rfl) fun a hF hS => ?_
 have hbl := hb.1
 have hhp := Mk.half_pos n
 have hr1 := Mk.rowD_16 (ls := Mk.sub ls lo.toNat n) (by rw [Mk.sub_len (by omega)]; omega)
 refine reglS fun K1 hK1 => ?_
 refine eQ hF hS rfl (ef_allocA ty62) ?_
 rintro _ _ _ a w ⟨b1, rfl, rfl, rfl⟩ hF hS
 rw [show List.replicate 16 (Value.int .u8 0) = (List.replicate 16 (0 : UInt8)).map vb from by rw [List.map_replicate] <;> rfl] at hS
 refine wpList_nil (hK1 _ _ ?_)
 refine k0 ?_; intro K2 hK2
 refine regS hF hS (mQ rfl <| mQ rfl <| dQ rfl rfl <| q0 (q_eqi rfl rfl) <| sq_end) fun a w hF hS => ?_
 refine wp_ifd hF rfl (fun hc1 => ?_) (fun hc1 => ?_)
 ·have hn3 : n = 1 := by omega
  have hxa := hx (ls.getD lo.toNat kv0) (Mk.getD_in (by omega))
  have hd16 := Mk.leafD_16 (ls.getD lo.toNat kv0)
  refine reglS fun K4 hK4 => ?_
  refine lQ hF hS (q0 (q_ld_old1 ty72 rfl hb1 rfl rfl) <| mQ rfl <| q0 (q_idx_sl ty72 ty142 hb rfl rfl (by omega)) <| q0 (q_ld_F ty142 hb zin0 rfl rfl (by omega)) <| q0 (q_call fn117 rfl (fun w hS => leaf_ct (ls.getD lo.toNat kv0) hxa w (hS.ext _ _ hg1)) (fun _ _ _ h => h)) <| sq_end) fun a w hF hS => ?_
  refine eQ hF hS rfl (ef_storeW ty62 0 rfl rfl rfl rfl bQ oQ bQ) ?_
  rintro _ _ _ a w ⟨rfl, rfl, rfl⟩ hF hS
  replace hS := nl0_1 hS
  refine wpList_nil (hK4 _ _ ?_)
  refine wp_ret ?_
  exact fn_ret (rs := [.cell 6 62]) rfl hF hS (vs := [_]) ⟨⟨_, _, _, _, _, _, _, rfl, List.mem_of_getElem? (i := 0) rfl, ty62, .inl ⟨rfl, bQ, rfl⟩⟩, trivial⟩ zQ zQ (by rw [hn3, Mk.rowD_sub1 (by omega)])
 ·have hn2 : 2 ≤ n := by omega
  have hhl := Mk.half_lt hn2
  have hra := Mk.rowD_16 (ls := Mk.sub ls lo.toNat (Mk.half n)) (by rw [Mk.sub_len (by omega)]; omega)
  have hrb := Mk.rowD_16 (ls := Mk.sub ls (lo + Mk.half n).toNat (n - Mk.half n)) (by rw [Mk.sub_len (by omega)]; omega)
  have hnd := Mk.nodeD_16 (Mk.rowD (Mk.sub ls lo.toNat (Mk.half n))) (Mk.rowD (Mk.sub ls (lo + Mk.half n).toNat (n - Mk.half n)))
  refine wp_skip ?_
  refine hK2 _ _ ?_
  refine regS hF hS (mQ rfl <| mQ rfl <| q0 (q_call fn118 rfl (fun w hS => middle_ct _ _ n (by omega) (by omega) (by omega) (by omega) w ) (fun _ _ _ h => h)) <| aQ rfl <| sq_end) fun a w hF hS => ?_
  refine k0 ?_; intro K6 hK6
  refine regt 9 mixed kQ hF hS (q0 (q_ld_old1 ty197 rfl hb3 rfl rfl) <| mQ rfl <| mQ rfl <| q0 (q_callv fn116 rfl rfl (by exact fun w hS => ih _ _ (Mk.half n) (by omega) (by omega) (by omega) (by omega) (by omega) w (hS.ext _ _ hb1) (Sl.mono (hS.le zin0) hb) (hS.ext _ _ hb3) (hS.ext _ _ hg1)) (fun _ _ _ h => h)) <| q0 (q_ld_old1 ty197 rfl hb3 rfl rfl) <| mQ rfl <| mQ rfl <| q0 (q_callv fn116 rfl rfl (by exact fun w hS => ih _ _ (n - Mk.half n) (by omega) (by omega) (by omega) (by omega) (by omega) w (hS.ext _ _ hb1) (Sl.mono (hS.le zin0) hb) (hS.ext _ _ hb3) (hS.ext _ _ hg1)) (fun _ _ _ h => h)) <| q0 (q_call fn119 rfl (fun w hS => node_ct _ _ (by first | with_reducible assumption | omega) (by first | with_reducible assumption | omega) w (hS.ext _ _ hg1)) (fun _ _ _ h => h)) <| sq_end) fun a w hF hS => ?_
  refine eQ hF hS rfl (ef_storeW ty62 0 rfl rfl rfl rfl bQ oQ bQ) ?_
  rintro _ _ _ a w ⟨rfl, rfl, rfl⟩ hF hS
  replace hS := nl0_1 hS
  refine wpList_nil (hK6 _ _ ?_)
  refine wp_ret ?_
  exact fn_ret (rs := [.cell 6 62]) rfl hF hS (vs := [_]) ⟨⟨_, _, _, _, _, _, _, rfl, List.mem_of_getElem? (i := 0) rfl, ty62, .inl ⟨rfl, bQ, rfl⟩⟩, trivial⟩ zQ zQ (by rw [Mk.rowD_sub (by omega) hn2, show lo.toNat + Mk.half n = (lo + Mk.half n).toNat by omega])
theorem dig_all (v : Value) (ls : List Mk.Lf) (e1 e3 : Nat) {bte1 bte3 : TypeId} {fze1 fze3 : Nat × Nat} (hl : ls.length < 1048576) (hx : ∀ x ∈ ls, x.1.length < 1048576 ∧ x.2.length < 1048576) (fz1 : Nat × Nat) (bt1 : TypeId) : ∀ (f : Nat) (lo hi : Int) (n : Nat) (ha : 0 ≤ lo) (hn : hi = lo + n) (hn1 : 1 ≤ n) (hnf : n ≤ f) (han : lo + n ≤ ls.length) (w : World) (hb1 : w.heap[e1]? = some (.cells [v].toArray bte1 fze1)) (hb : Sl encF (ph w) v ls) (hb3 : w.heap[e3]? = some (.cells [.func (.func 116) (List.nil : List Value).toArray [Value.pointer (some ⟨e1, 0, none⟩), Value.pointer (some ⟨e3, 0, none⟩)].toArray].toArray bte3 fze3)) (hg1 : w.heap[1]? = some (.cells (Sha.kc.map vw).toArray bt1 fz1)), Ct Tryz.prog 116 [vi lo, vi hi, .pointer (some ⟨e1, 0, none⟩), .pointer (some ⟨e3, 0, none⟩)] w (fun r _ _ => r = .agg ((Mk.rowD (Mk.sub ls lo.toNat n)).map vb).toArray) := by
 intro f
 induction f with
 | zero => intro lo hi n ha hn hn1 hnf; omega
 | succ f ih => exact fun lo hi n ha hn hn1 hnf han w hb1 hb hb3 hg1 => dig_step v ls e1 e3 hl hx fz1 bt1 f ih lo hi n ha hn hn1 hnf han w hb1 hb hb3 hg1
theorem digest_ct (v : Value) (ls : List Mk.Lf) (hl : ls.length < 1048576) (h1 : 1 ≤ ls.length) (hx : ∀ x ∈ ls, x.1.length < 1048576 ∧ x.2.length < 1048576) (w : World) (hb : Sl encF (ph w) v ls) {fz1 : Nat × Nat} {bt1 : TypeId} (hg1 : w.heap[1]? = some (.cells (Sha.kc.map vw).toArray bt1 fz1)) : Ct Tryz.prog 77 [v] w (fun r _ _ => r = .agg ((Mk.rowD ls).map vb).toArray) := by
 refine fn_enter Tryz.func77 rfl Tryz.ntmps77 (Nat.le_of_ble_eq_true rfl) fun a hF hS => ?_
 have hbl := hb.1
 have hr1 := Mk.rowD_16 h1
 have hr2 : (Mk.rowD (Mk.sub ls 0 ls.length)).length = 16 := by rw [Mk.sub_all]; exact hr1
 refine reglS fun K1 hK1 => ?_
 refine eQ hF hS rfl (ef_box1 rfl (sl_one' hb)) ?_
 rintro _ _ _ a w ⟨b1, rfl, rfl, rfl⟩ hF hS
 refine eQ hF hS rfl (ef_allocA ty62) ?_
 rintro _ _ _ a w ⟨b2, rfl, rfl, rfl⟩ hF hS
 rw [show List.replicate 16 (Value.int .u8 0) = (List.replicate 16 (0 : UInt8)).map vb from by rw [List.map_replicate] <;> rfl] at hS
 refine wpList_nil (hK1 _ _ ?_)
 refine reglS fun K2 hK2 => ?_
 refine eQ hF hS rfl (ef_alloc1 ty197 (by rfl)) ?_
 rintro _ _ _ a w ⟨b3, rfl, rfl, rfl⟩ hF hS
 refine wpList_nil (hK2 _ _ ?_)
 refine reglS fun K3 hK3 => ?_
 refine lQ hF hS (q0 (q_mkf rfl rfl) <| sq_end) fun a w hF hS => ?_
 refine eQ hF hS rfl (ef_store1 ty197 0 rfl rfl rfl rfl (by simp)) ?_
 rintro _ _ _ a w ⟨rfl, rfl, rfl⟩ hF hS
 (try simp only [List.set_cons_zero, List.set_cons_succ] at hS)
 replace hS := nl0_3 hS
 refine wpList_nil (hK3 _ _ ?_)
 refine reglS fun K4 hK4 => ?_
 refine lQ hF hS (q0 (q_ld_blk1 ty197 0 rfl rfl rfl rfl) <| q0 (q_ld_blk1 ty72 2 rfl rfl rfl rfl) <| q0 (q_len_sl ty72 hb rfl) <| q0 (q_callv fn116 rfl rfl (by exact fun w hS => dig_all v ls _ _ hl hx _ _ ls.length 0 ls.length ls.length (by omega) (by omega) h1 (Nat.le_refl _) (by omega) w (own_box hS 2 rfl) (Sl.mono (hS.le zin0) hb) (own_box hS 0 rfl) (hS.ext _ _ hg1)) (fun _ _ _ h => h)) <| sq_end) fun a w hF hS => ?_
 refine eQ hF hS rfl (ef_storeW ty62 1 rfl rfl rfl rfl bQ oQ bQ) ?_
 rintro _ _ _ a w ⟨rfl, rfl, rfl⟩ hF hS
 replace hS := nl0_3 hS
 refine wpList_nil (hK4 _ _ ?_)
 refine wp_ret ?_
 exact fn_ret (rs := [.cell 2 62]) rfl hF hS (vs := [_]) ⟨⟨_, _, _, _, _, _, _, rfl, List.mem_of_getElem? (i := 1) rfl, ty62, .inl ⟨rfl, bQ, rfl⟩⟩, trivial⟩ zQ zQ (by rw [show (0 : Int).toNat = 0 from rfl, Mk.sub_all])
theorem mroot_ct (v : Value) (ls : List Mk.Lf) (w : World) (hb : Sl encF (ph w) v ls) {fz1 : Nat × Nat} {bt1 : TypeId} (hg1 : w.heap[1]? = some (.cells (Sha.kc.map vw).toArray bt1 fz1)) : Ct Tryz.prog 40 [v] w (fun r _ _ => r = .tuple [.agg (((Mk.rootE ls).1).map vb).toArray, vi (Mk.rootE ls).2].toArray) := by
 refine fn_enter Tryz.func40 rfl Tryz.ntmps40 (Nat.le_of_ble_eq_true rfl) fun a hF hS => ?_
 have hbl := hb.1
 refine reglS fun K1 hK1 => ?_
 refine eQ hF hS rfl (ef_allocA ty62) ?_
 rintro _ _ _ a w ⟨b1, rfl, rfl, rfl⟩ hF hS
 rw [show List.replicate 16 (Value.int .u8 0) = (List.replicate 16 (0 : UInt8)).map vb from by rw [List.map_replicate] <;> rfl] at hS
 refine lQ hF hS (aQ rfl <| sq_end) fun a w hF hS => ?_
 refine wpList_nil (hK1 _ _ ?_)
 refine k0 ?_; intro K2 hK2
 refine regS hF hS (mQ rfl <| q0 (q_call fn75 rfl (fun w hS => valid_ct _ _ w (Sl.mono (hS.le zin0) hb)) (fun _ _ _ h => h)) <| aQ rfl <| sq_end) fun a w hF hS => ?_
 refine regS hF hS (mQ rfl <| q0 (q_nei rfl rfl) <| sq_end) fun a w hF hS => ?_
 refine wp_ifn hF rfl (fun hc1 => ?_) (fun hc1 => ?_)
 ·refine k0 ?_; intro K5 hK5
  refine regl ?_
  refine lQ hF hS (q0 (q_build rfl (run_build_arr ty62 ty5 rfl)) <| mQ rfl <| sq_end) fun a w hF hS => ?_
  refine eQ hF hS rfl (ef_storeW ty62 0 rfl rfl rfl rfl bQ oQ bQ) ?_
  rintro _ _ _ a w ⟨rfl, rfl, rfl⟩ hF hS
  replace hS := nl0_1 hS
  refine lQ hF hS (aQ rfl <| sq_end) fun a w hF hS => ?_
  refine wpList_nil (hK5 _ _ ?_)
  refine wp_ret ?_
  exact fn_ret (rs := [.cell 2 62, .tmp 3]) rfl hF hS (vs := [_, _]) ⟨⟨_, _, _, _, _, _, _, rfl, List.mem_of_getElem? (i := 0) rfl, ty62, .inl ⟨rfl, bQ, rfl⟩⟩, rfl, trivial⟩ zQ zQ (by rw [Mk.rootE_e (by simpa using hc1)]; rfl)
 ·have hv0 : Mk.vE ls = 0 := by simpa using hc1
  have hva := Mk.vE_asc hv0
  have hx9 : ∀ x ∈ ls, x.1.length < 1048576 ∧ x.2.length < 1048576 := fun x hx => by have := hva.2.2 x hx; omega
  refine wp_skip ?_
  refine hK2 _ _ ?_
  refine k0 ?_; intro K6 hK6
  refine regS hF hS (mQ rfl <| q0 (q_len_sl ty72 hb rfl) <| q0 (q_eqi rfl rfl) <| sq_end) fun a w hF hS => ?_
  refine wp_ifd hF rfl (fun hc2 => ?_) (fun hc2 => ?_)
  ·have hr3 : ∀ n d, (Mk.rootD n d).length = 16 := Mk.rootD_16
   refine reglS fun K8 hK8 => ?_
   refine lQ hF hS (q0 (q_build rfl (run_build_arr ty62 ty5 rfl)) <| q0 (q_call fn76 rfl (fun w hS => root_ct _ (List.replicate 16 0) (by simp) (by omega) w (hS.ext _ _ hg1)) (fun _ _ _ h => h)) <| sq_end) fun a w hF hS => ?_
   refine eQ hF hS rfl (ef_storeW ty62 0 rfl rfl rfl rfl bQ oQ bQ) ?_
   rintro _ _ _ a w ⟨rfl, rfl, rfl⟩ hF hS
   replace hS := nl0_1 hS
   refine lQ hF hS (aQ rfl <| sq_end) fun a w hF hS => ?_
   refine wpList_nil (hK8 _ _ ?_)
   refine wp_ret ?_
   exact fn_ret (rs := [.cell 2 62, .tmp 3]) rfl hF hS (vs := [_, _]) ⟨⟨_, _, _, _, _, _, _, rfl, List.mem_of_getElem? (i := 0) rfl, ty62, .inl ⟨rfl, bQ, rfl⟩⟩, rfl, trivial⟩ zQ zQ (by rw [Mk.rootE_0 hv0 (by omega)]; rfl)
  ·have hl1 : 1 ≤ ls.length := by omega
   have hr1 := Mk.rowD_16 hl1
   have hr2 := Mk.rootD_16 ls.length (Mk.rowD ls)
   refine wp_skip ?_
   refine hK6 _ _ ?_
   refine reglS fun K9 hK9 => ?_
   refine lQ hF hS (mQ rfl <| q0 (q_len_sl ty72 hb rfl) <| mQ rfl <| q0 (q_call fn77 rfl (fun w hS => digest_ct _ _ (by omega) hl1 hx9 w (Sl.mono (hS.le zin0) hb) (hS.ext _ _ hg1)) (fun _ _ _ h => h)) <| q0 (q_call fn76 rfl (fun w hS => root_ct _ _ hr1 (by omega) w (hS.ext _ _ hg1)) (fun _ _ _ h => h)) <| sq_end) fun a w hF hS => ?_
   refine eQ hF hS rfl (ef_storeW ty62 0 rfl rfl rfl rfl bQ oQ bQ) ?_
   rintro _ _ _ a w ⟨rfl, rfl, rfl⟩ hF hS
   replace hS := nl0_1 hS
   refine lQ hF hS (aQ rfl <| sq_end) fun a w hF hS => ?_
   refine wpList_nil (hK9 _ _ ?_)
   refine wp_ret ?_
   exact fn_ret (rs := [.cell 2 62, .tmp 3]) rfl hF hS (vs := [_, _]) ⟨⟨_, _, _, _, _, _, _, rfl, List.mem_of_getElem? (i := 0) rfl, ty62, .inl ⟨rfl, bQ, rfl⟩⟩, rfl, trivial⟩ zQ zQ (by rw [Mk.rootE_n hv0]; rfl)
end
end Go.Proofs.YtngcjojijaknnaaGreatDoor
