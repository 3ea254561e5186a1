/- A text of a proof over this seat: walks over the program's functions and the plain laws that they need. -/
import Derived.Test.YtibbhobfdbfkkaaGreatDoorJj12
import Derived.Test.YtibbhobfdbfkkaaGreatDoorJnA
import Derived.Test.YtibbhobfdbfkkaaGreatDoorFwD
import Derived.Test.YtibbhobfdbfkkaaGreatDoorFwG
import Derived.Test.YtibbhobfdbfkkaaGreatDoorJlay2
import Derived.Test.YtibbhobfdbfkkaaGreatDoorFwB
set_option linter.all false
namespace Go.Proofs.YtibbhobfdbfkkaaGreatDoor
open Go.Fw
theorem ty32 : Tf Tryz.prog 32 (.pointer 89) 1 8 (Value.pointer none) := ⟨Tryz.underlying32, by kernel_rfl⟩
theorem ty35 : Tf Tryz.prog 35 (.pointer 66) 1 8 (Value.pointer none) := ⟨Tryz.underlying35, by kernel_rfl⟩
theorem fn8 : FnOk Tryz.prog 8 := ⟨_, Tryz.func8, rfl, by kernel_rfl⟩
theorem fn12 : FnOk Tryz.prog 12 := ⟨_, Tryz.func12, rfl, by kernel_rfl⟩
theorem fn17 : FnOk Tryz.prog 17 := ⟨_, Tryz.func17, rfl, by kernel_rfl⟩
theorem fn20 : FnOk Tryz.prog 20 := ⟨_, Tryz.func20, rfl, by kernel_rfl⟩
theorem fn21 : FnOk Tryz.prog 21 := ⟨_, Tryz.func21, rfl, by kernel_rfl⟩
theorem fn22 : FnOk Tryz.prog 22 := ⟨_, Tryz.func22, rfl, by kernel_rfl⟩
theorem fn23 : FnOk Tryz.prog 23 := ⟨_, Tryz.func23, rfl, by kernel_rfl⟩
theorem fn24 : FnOk Tryz.prog 24 := ⟨_, Tryz.func24, rfl, by kernel_rfl⟩
theorem fn26 : FnOk Tryz.prog 26 := ⟨_, Tryz.func26, rfl, by kernel_rfl⟩
theorem fn37 : FnOk Tryz.prog 37 := ⟨_, Tryz.func37, rfl, by kernel_rfl⟩
theorem fn39 : FnOk Tryz.prog 39 := ⟨_, Tryz.func39, rfl, by kernel_rfl⟩
theorem fn41 : FnOk Tryz.prog 41 := ⟨_, Tryz.func41, rfl, by kernel_rfl⟩
theorem fn42 : FnOk Tryz.prog 42 := ⟨_, Tryz.func42, rfl, by kernel_rfl⟩
theorem fn58 : FnOk Tryz.prog 58 := ⟨_, Tryz.func58, rfl, by kernel_rfl⟩

attribute [local irreducible] Sha.sum Jn.good Jn.hd Jn.lb Jn.cnt Jn.unp Jn.recd Jn.app Jn.opn

theorem x105 : Builder.Extra Tryz.prog l105_ren := {
 sizeBuilder := by kernel_rfl
 liesBuilder := by kernel_rfl
 t5 := Tryz.underlying5
 a5 := Tryz.isAgg5
 z5 := Tryz.sizeOf5
 v5 := Tryz.zeroValue5
 infoByte := by kernel_rfl
 cellsByte := by kernel_rfl
 sizeByte := by kernel_rfl
 neB5 := by decide }
theorem repeat50_ct (w : World) : Ct Tryz.prog 39 [vs [120], vi 50] w (fun r _ _ => r = vs Jn.x50) :=
 (repeat_ct l105 x105 w [120] 50 (by decide) (by decide) (by decide)).mono fun _ _ _ h => h.trans (congrArg vs (by decide))

theorem samet_t (va vb9 : Value) (xs : List (List UInt8)) (w : World) (hb1 : Sl Go.Fw.encS (ph w) va xs) (hb2 : Sl Go.Fw.encS (ph w) vb9 xs) : Ct Tryz.prog 20 [va, vb9] w (fun r _ _ => r = .bool true) := by
 have h := samet_ct va vb9 xs xs w hb1 hb2
 rw [decide_eq_true (rfl : xs = xs)] at h
 exact h

theorem samei_t (va vb9 : Value) (xs : List (Int)) (w : World) (hb1 : Sl Go.Fw.encI (ph w) va xs) (hb2 : Sl Go.Fw.encI (ph w) vb9 xs) : Ct Tryz.prog 23 [va, vb9] w (fun r _ _ => r = .bool true) := by
 have h := samei_ct va vb9 xs xs w hb1 hb2
 rw [decide_eq_true (rfl : xs = xs)] at h
 exact h

set_option maxRecDepth 4000 in
set_option maxHeartbeats 2000000 in
theorem hdamaged2_ct (b pd : Nat) (J : Jn.JS) (un ubd ut : Value) (hVf : Jn.Wf J) (w0 : World) (zsr : List PH) : Cx Tryz.prog 58 [.pointer (some ⟨b, 0, none⟩)] w0 zsr [.blk b 66 [.pointer (some ⟨pd, 0, none⟩), un, ut, ubd, vi J.next, vi J.en, .bool J.cl], .row un 3 1 J.nums.length (J.nums.map vi), .row ubd 3 1 J.bad.length (J.bad.map vi), .row ut 9 1 J.tx.length (J.tx.map vs)] (fun r zs hs => zs = [] ∧ hs = [.row r 3 1 (Jn.damaged J).length ((Jn.damaged J).map vi), .blk b 66 [.pointer (some ⟨pd, 0, none⟩), un, ut, ubd, vi J.next, vi J.en, .bool J.cl], .row un 3 1 J.nums.length (J.nums.map vi), .row ubd 3 1 J.bad.length (J.bad.map vi), .row ut 9 1 J.tx.length (J.tx.map vs)]) := by
 refine fn_enterx Tryz.func58 rfl Tryz.ntmps58 (Nat.le_of_ble_eq_true rfl) fun hsr a w hF hS => ?_
 replace hS : St _ (_) (_ :: _ :: _ :: _ :: _) _ := hS
 have hv1 := hVf.n1
 have hv2 := hVf.n2
 have hv3 := hVf.e1
 have hv4 := hVf.e2
 have hv5 := hVf.nl
 have hv6 := hVf.tl
 have hv7 := hVf.bl
 have hv8 := hVf.nr'
 have hv9 := hVf.br'
 have hv10 := hVf.tr'
 refine wp_seq_k ?_; intro K1 hK1
 refine reg hF hS (sq rfl (q_assign rfl) <|
   sq_end) ?_
 clear hF hS; intro a w hF hS
 refine hK1 _ _ ?_
 clear hK1
 refine wp_seq_k ?_; intro K2 hK2
 refine reg hF hS (sq rfl (q_assign rfl) <|
   sq_end) ?_
 clear hF hS; intro a w hF hS
 replace hS := hS.nilRow 3 1
 refine hK2 _ _ ?_
 clear hK2
 refine wp_seq_k ?_; intro K3 hK3
 refine wp_seq_k ?_; intro K4 hK4
 refine reg hF hS (sq rfl (q_assign rfl) <|
   sq_end) ?_
 clear hF hS; intro a w hF hS
 refine hK4 _ _ ?_
 clear hK4
 refine wp_block ?_
 obtain ⟨hs0, hhs0, hS⟩ : ∃ h, h = _ ∧ St _ _ h _ := ⟨_, rfl, hS⟩
 refine wp_loopx (γ := Value × Nat) ((Value.slice none 0 0), 0) (fun (gg : Value × Nat) => match gg with | (u, k) => [(3, u), (4, vi ((k : Int) + 1))]) [(0, _)] (fun (gg : Value × Nat) => match gg with | (u, k) => (hs0.set 0 (.row u 3 1 (Jn.dmN J.nums k).length ((Jn.dmN J.nums k).map vi)))) (fun (gg : Value × Nat) => match gg with | (u, k) => k ≤ (J.next - 1).toNat) (fun (gg : Value × Nat) => match gg with | (u, k) => (J.next - 1).toNat - k) (hF.sub ⟨rfl, rfl, rfl, trivial⟩) (by subst hhs0; exact hS) (by exact Nat.zero_le _) ?_
 clear hF hS; rintro ⟨u, k⟩ a w hfact hF hS
 subst hhs0; (try dsimp only at hfact); (try dsimp only at hF); (try dsimp only at hS)
 have hk0 := hfact
 replace hS : St _ (_) (_ :: _ :: _ :: _ :: _ :: _) _ := hS
 have hdl := Jn.dm_len J.nums k
 refine wp_seq_k ?_; intro K5 hK5
 refine wp_seq_k ?_; intro K6 hK6
 refine reg hF hS (sq rfl (q_move rfl) <|
   sq rfl (q_move rfl) <|
   sq rfl (q_nilCheck rfl) <|
   sq rfl (q_fieldAddr ty66 rfl rfl (s' := 0) kQ) <|
   sq rfl (q_ld_blk1 ty3 1 rfl rfl rfl rfl) <|
   sq rfl (q_lti rfl rfl) <|
   sq_end) ?_
 clear hF hS; intro a w hF hS
 refine hK6 _ _ ?_
 clear hK6
 refine wp_ifd hF rfl (fun hc1 => ?_) (fun hc1 => ?_)
 ·refine wp_skip ?_
  refine hK5 _ _ ?_
  clear hK5
  refine wp_seq_k ?_; intro K7 hK7
  refine wp_block ?_
  refine wp_seq_k ?_; intro K8 hK8
  refine reg hF hS (sq rfl (q_move rfl) <|
    sq rfl (q_nilCheck rfl) <|
    sq rfl (q_fieldAddr ty66 rfl rfl (s' := 0) kQ) <|
    sq rfl (q_ld_blk1 ty51 1 rfl rfl rfl rfl) <|
    sq rfl (q_move rfl) <|
    sq rfl (q_call fn57 rfl (fun w hS => has40_ct _ _ _ w (own_slV (hS.own _ (List.mem_of_getElem? (i := 2) rfl)).1 (by first | assumption | (simp; done)) (by first | rfl | (simp; done) | (simp; omega) | omega) (by first | omega | (simp; omega)))) (fun _ _ _ h => h)) <|
    sq rfl (q_assign rfl) <|
    sq_end) ?_
  clear hF hS; intro a w hF hS
  refine hK8 _ _ ?_
  clear hK8
  refine wp_seq_k ?_; intro K9 hK9
  refine reg hF hS (sq rfl (q_move rfl) <|
    sq rfl (q_not rfl) <|
    sq_end) ?_
  clear hF hS; intro a w hF hS
  refine hK9 _ _ ?_
  clear hK9
  refine wp_ifn hF rfl (fun hc2 => ?_) (fun hc2 => ?_)
  ·refine regl ?_
   refine wpl_sq hF hS (sq rfl (q_move rfl) <|
     sq rfl (q_move rfl) <|
     sq_end) ?_
   clear hF hS; intro a w hF hS
   refine wpl_ef hF hS rfl (ef_bsliceA ty51 ty3 rfl rfl oQ (by decide) rfl rfl) ?_
   clear hF hS; rintro v2 _ _ a w ⟨rfl, rfl⟩ hF hS
   replace hS : St _ (_) (_ :: _ :: _ :: _ :: _ :: _ :: _) _ := hS
   refine wpl_ef hF hS rfl (ef_append ty51 ty3 1 rfl rfl rfl (src_row ty51 (k := 0) rfl oQ) bQ rfl (by decide)) ?_
   clear hF hS; rintro v4 _ _ a w ⟨rfl, rfl⟩ hF hS
   replace hS : St _ (_) (_ :: _ :: _ :: _ :: _ :: _ :: _) _ := hS
   refine wpl_sq hF hS (sq rfl (q_assign rfl) <|
     sq_end) ?_
   clear hF hS; intro a w hF hS
   refine wpList_nil ?_
   refine hK7 _ _ ?_
   clear hK7
   refine reg hF hS (sq rfl (q_move rfl) <|
     sq rfl (q_addi rfl rfl (by omega)) <|
     sq rfl (q_assign rfl) <|
     sq_end) ?_
   clear hF hS; intro a w hF hS
   replace hS := hS.keep sQ (sQ.n)
   refine ⟨(v4, k + 1), ?_, ?_, hF.sub ⟨rfl, rfl, rfl, trivial⟩, ?_⟩
   ·(try dsimp only); omega
   ·omega
   ·(try dsimp only [List.set_cons_zero, List.set_cons_succ]); rw [Jn.dm_out (l := J.nums) (k := k) (by simpa using hc2), List.length_append, List.map_append]; exact hS
  ·refine wp_skip ?_
   refine hK7 _ _ ?_
   clear hK7
   refine reg hF hS (sq rfl (q_move rfl) <|
     sq rfl (q_addi rfl rfl (by omega)) <|
     sq rfl (q_assign rfl) <|
     sq_end) ?_
   clear hF hS; intro a w hF hS
   refine ⟨(u, k + 1), ?_, ?_, hF.sub ⟨rfl, rfl, rfl, trivial⟩, ?_⟩
   ·(try dsimp only); omega
   ·omega
   ·(try dsimp only [List.set_cons_zero, List.set_cons_succ]); rw [Jn.dm_in (l := J.nums) (k := k) (by simpa using hc2)]; exact hS
 ·refine wp_exit ?_
  refine hK3 _ _ ?_
  clear hK3
  refine wp_seq_k ?_; intro K10 hK10
  refine reg hF hS (sq rfl (q_move rfl) <|
    sq rfl (q_assign rfl) <|
    sq_end) ?_
  clear hF hS; intro a w hF hS
  refine hK10 _ _ ?_
  clear hK10
  refine wp_ret ?_
  obtain rfl : k = (J.next - 1).toNat := by omega
  exact fn_retx (rs := [.tmp 2]) rfl hF hS (vs := [_]) ⟨rfl, trivial⟩ [] [_, _, _, _, _] sQ sQ ⟨rfl, rfl⟩

set_option maxRecDepth 4000 in
set_option maxHeartbeats 2000000 in
theorem hroom2_ct (b bd : Nat) (v : Value) (J : Jn.JS) (S : Dk.Dsk) (un ubd ut : Value) (hVf : Jn.Wf J) (hO : Dk.Ok S) (w0 : World) (zsr : List PH) : Cx Tryz.prog 59 [.pointer (some ⟨b, 0, none⟩)] w0 zsr [.blk b 66 [.pointer (some ⟨bd, 0, none⟩), un, ut, ubd, vi J.next, vi J.en, .bool J.cl], .row un 3 1 J.nums.length (J.nums.map vi), .row ubd 3 1 J.bad.length (J.bad.map vi), .row ut 9 1 J.tx.length (J.tx.map vs), RRB bd v S, RRW v S] (fun r zs hs => r = vi (Jn.room J S) ∧ zs = [] ∧ hs = [.blk b 66 [.pointer (some ⟨bd, 0, none⟩), un, ut, ubd, vi J.next, vi J.en, .bool J.cl], .row un 3 1 J.nums.length (J.nums.map vi), .row ubd 3 1 J.bad.length (J.bad.map vi), .row ut 9 1 J.tx.length (J.tx.map vs), RRB bd v S, RRW v S]) := by
 refine fn_enterx Tryz.func59 rfl Tryz.ntmps59 (Nat.le_of_ble_eq_true rfl) fun hsr a w hF hS => ?_
 replace hS : St _ (_) (_ :: _ :: _ :: _ :: _ :: _ :: _) _ := hS
 have hv1 := hVf.n1
 have hv2 := hVf.n2
 have hv3 := hVf.e1
 have hv4 := hVf.e2
 have hv5 := hVf.nl
 have hv6 := hVf.tl
 have hv7 := hVf.bl
 have hv8 := hVf.nr'
 have hv9 := hVf.br'
 have hv10 := hVf.tr'
 have hlo := hO.lo
 have hhi := hO.hi
 refine wp_seq_k ?_; intro K1 hK1
 refine reg hF hS (sq rfl (q_assign rfl) <|
   sq_end) ?_
 clear hF hS; intro a w hF hS
 refine hK1 _ _ ?_
 clear hK1
 refine wp_seq_k ?_; intro K2 hK2
 revert hS; revert hF; apply regJ (J := J0 13 _ _ _ _ _) #[false, false, false, false, false, false, false, false, false, false, false] 11 mixed rfl rfl
 ·intro w hF hS
  refine goW_take 0 _ rfl kQ rfl hF (hS.keep sQ (sQ.n.n.n.n.n.n)) (q_move rfl) ?_
  clear hF; intro a hF
  refine goW_take 1 _ rfl kQ rfl hF (hS.keep sQ (sQ.n.n.n.n.n.n)) (q_nilCheck rfl) ?_
  clear hF; intro a hF
  refine goW_take 2 _ rfl kQ rfl hF (hS.keep sQ (sQ.n.n.n.n.n.n)) (q_fieldAddr ty66 rfl rfl (s' := 0) kQ) ?_
  clear hF; intro a hF
  refine goW_take 3 _ rfl kQ rfl hF (hS.keep sQ (sQ.n.n.n.n.n.k)) (q_ld_blk1 ty28 0 rfl rfl rfl rfl) ?_
  clear hF; intro a hF
  refine goW_take 5 _ rfl kQ rfl hF (hS.keep sQ (sQ.n.n.n.n.n.n)) (q_move rfl) ?_
  clear hF; intro a hF
  refine goW_take 6 _ rfl kQ rfl hF (hS.keep sQ (sQ.n.n.n.n.n.n)) (q_nilCheck rfl) ?_
  clear hF; intro a hF
  refine goW_take 7 _ rfl kQ rfl hF (hS.keep sQ (sQ.n.n.n.n.n.n)) (q_fieldAddr ty66 rfl rfl (s' := 0) kQ) ?_
  clear hF; intro a hF
  refine goW_take 8 _ rfl kQ rfl hF (hS.keep sQ (sQ.n.n.n.n.n.k)) (q_ld_blk1 ty3 0 rfl rfl rfl rfl) ?_
  clear hF; intro a hF
  refine goW_fork [4] kQ rfl ⟨?_, trivial⟩
  replace hS := hS.perm (.cons _ (.cons _ (.cons _ (.swap _ _ _))))
  replace hS := hS.perm (.cons _ (.cons _ (.swap _ _ _)))
  replace hS := hS.perm (.cons _ (.swap _ _ _))
  replace hS := hS.perm (.swap _ _ _)
  replace hS := hS.perm (.cons _ (.cons _ (.cons _ (.cons _ (.swap _ _ _)))))
  replace hS := hS.perm (.cons _ (.cons _ (.cons _ (.swap _ _ _))))
  replace hS := hS.perm (.cons _ (.cons _ (.swap _ _ _)))
  replace hS := hS.perm (.cons _ (.swap _ _ _))
  replace hS : St _ (_) (_ :: _ :: _ :: _ :: _ :: _ :: _) _ := hS
  refine stepW_ef _ rfl rfl hF hS rfl (ef_callx fn52 rfl (List.Perm.refl _) (by exact (rlen_ct _ _  (by first | assumption | exact Dk.ok_step (by assumption) | exact Dk.rst_ok (by assumption) _ _) (S := S) (v := v)))) ?_
  clear hF hS; rintro _ _ _ a w ⟨_, _, rfl, rfl, ⟨rfl, rfl, rfl⟩⟩ hF hS
  replace hS : St _ (_) (_ :: _ :: _ :: _ :: _ :: _ :: _) _ := hS
  refine ⟨⟨.inr (hS.keep sQ (sQ.n.n.n.k.n.n)), .inr (hS.keep sQ (sQ.n.n.n.n.n.n)), .inr (hS.keep sQ (sQ.n.n.n.n.n.n)), .inr (hS.keep sQ (sQ.n.n.n.n.n.n)), iQ, iQ, .inr (hS.keep sQ (sQ.n.n.n.n.n.n)), .inr (hS.keep sQ (sQ.n.n.n.n.n.n)), trivial⟩, ?_⟩
  refine goW_take 9 _ rfl kQ rfl hF (hS.keep sQ (sQ.n.n.n.n.n.n)) (q_subi rfl rfl (by omega)) ?_
  clear hF; intro a hF
  refine goW_take 10 _ rfl kQ rfl hF (hS.keep sQ (sQ.n.n.n.n.n.n)) (q_assign rfl) ?_
  clear hF; intro a hF
  exact goW_done kQ (j0_mk  (trivial) (hF.sub (L' := [(2, _)]) ⟨rfl, trivial⟩) hS)
 rintro a w ⟨-, hF, hS⟩
 (try dsimp only at hF); (try dsimp only at hS)
 refine hK2 _ _ ?_
 clear hK2
 refine wp_ret ?_
 replace hS := hS.perm (.cons _ (.swap _ _ _))
 replace hS := hS.perm (.swap _ _ _)
 replace hS := hS.perm (.cons _ (.cons _ (.swap _ _ _)))
 replace hS := hS.perm (.cons _ (.swap _ _ _))
 replace hS := hS.perm (.cons _ (.cons _ (.cons _ (.swap _ _ _))))
 replace hS := hS.perm (.cons _ (.cons _ (.swap _ _ _)))
 replace hS := hS.perm (.cons _ (.cons _ (.cons _ (.cons _ (.swap _ _ _)))))
 replace hS := hS.perm (.cons _ (.cons _ (.cons _ (.swap _ _ _))))
 exact fn_retx (rs := [.tmp 2]) rfl hF hS (vs := [_]) ⟨rfl, trivial⟩ [] [_, _, _, _, _, _] sQ sQ ⟨rfl, rfl, rfl⟩

set_option maxRecDepth 4000 in
set_option maxHeartbeats 2000000 in
theorem same40_ct (h : Dk.Hd) (b rb : Nat) {bd : Nat} {v : Value} (J : Jn.JS) (S : Dk.Dsk) (w0 : World) (zsr : List PH) {q1 q2 q3 q4 d1 d2 d3 d4 e1 e2 e3 e4 : Res} (hJ : JJ b h.b J q1 q2 q3 q4) (hD : DD h S d1 d2 d3 d4) (hK : HJ rb bd J e1 e2 e3 e4) : Cx Tryz.prog 14 [.pointer (some ⟨b, 0, none⟩), .pointer (some ⟨rb, 0, none⟩)] w0 zsr [q1, q2, q3, q4, d1, d2, d3, d4, e1, e2, e3, e4, RRB bd v S, RRW v S] (fun r zs hs => r = .bool true ∧ zs = [] ∧ ∃ q1 q2 q3 q4 d1 d2 d3 d4 e1 e2 e3 e4, hs = [q1, q2, q3, q4, d1, d2, d3, d4, e1, e2, e3, e4, RRB bd v S, RRW v S] ∧ JJ b h.b J q1 q2 q3 q4 ∧ DD h S d1 d2 d3 d4 ∧ HJ rb bd J e1 e2 e3 e4) := by
 refine fn_enterx Tryz.func14 rfl Tryz.ntmps14 (Nat.le_of_ble_eq_true rfl) fun hsr a w hF hS => ?_
 replace hS : St _ (_) (_ :: _ :: _ :: _ :: _ :: _ :: _ :: _ :: _ :: _ :: _ :: _ :: _ :: _ :: _) _ := hS
 have hO := hD.ok
 have hlo := hO.lo
 have hhi := hO.hi
 obtain ⟨un, ubd, ut, hVf, rfl, rfl, rfl, rfl⟩ := hK
 have hv1 := hVf.n1
 have hv2 := hVf.n2
 have hv3 := hVf.e1
 have hv4 := hVf.e2
 have hv5 := hVf.nl
 have hv6 := hVf.tl
 have hv7 := hVf.bl
 have hv8 := hVf.nr'
 have hv9 := hVf.br'
 have hv10 := hVf.tr'
 replace hS : St _ (_) (_ :: _ :: _ :: _ :: _ :: _ :: _ :: _ :: _ :: _ :: _ :: _ :: _ :: _ :: _) _ := hS
 have hdr := Jn.dm_rng J.nums (J.next - 1).toNat
 have hdr9 : ∀ x ∈ Jn.damaged J, -9223372036854775808 ≤ x ∧ x ≤ 9223372036854775807 := fun x hx => by have := hdr x hx; omega
 have hdl9 : (Jn.damaged J).length ≤ (J.next - 1).toNat := Jn.dm_len _ _
 refine wp_seq_k ?_; intro K1 hK1
 refine reg hF hS (sq rfl (q_assign rfl) <|
   sq_end) ?_
 clear hF hS; intro a w hF hS
 refine hK1 _ _ ?_
 clear hK1
 refine wp_seq_k ?_; intro K2 hK2
 refine wp_seq_k ?_; intro K3 hK3
 refine reg hF hS (sq rfl (q_move rfl) <|
   sq rfl (q_eqpn_f ty32 rfl rfl) <|
   sq rfl (q_move rfl) <|
   sq_go 7 rfl rfl rfl (q_move rfl) <|
   sq_go 7 rfl rfl rfl (q_eqpn_f ty35 rfl rfl) <|
   sq rfl (q_pick_f rfl rfl) <|
   sq_end) ?_
 clear hF hS; intro a w hF hS
 refine hK3 _ _ ?_
 clear hK3
 refine wp_if hF rfl (fun h => absurd h (by simp)) (fun _ => ?_)
 refine wp_skip ?_
 refine hK2 _ _ ?_
 clear hK2
 refine wp_seq_k ?_; intro K4 hK4
 revert hS; revert hF; apply regJ (J := J8 (α0 := Res) (α1 := Res) (α2 := Res) (α3 := Res) (α4 := Res) (α5 := Res) (α6 := Res) (α7 := Res) 65 _ _ _ _ _) #[false, false, false, false, false, false, false, false, false, false, false, false, false, false, false, false, false, false, false, false, false, false, false, false, false, false, false, false, false, false, false, false, false, false, false, false, false, false, false, false, false, false, false, false, false, false, false, false, false] 49 mixed rfl rfl
 ·intro w hF hS
  refine goW_take 0 _ rfl kQ rfl hF (hS.keep sQ (sQ.n.n.n.n.n.n.n.n.n.n.n.n.n.n)) (q_move rfl) ?_
  clear hF; intro a hF
  refine goW_take 2 _ rfl kQ rfl hF (hS.keep sQ (sQ.n.n.n.n.n.n.n.n.n.n.n.n.n.n)) (q_move rfl) ?_
  clear hF; intro a hF
  refine goW_take 3 _ rfl kQ rfl hF (hS.keep sQ (sQ.n.n.n.n.n.n.n.n.n.n.n.n.n.n)) (q_nilCheck rfl) ?_
  clear hF; intro a hF
  refine goW_take 4 _ rfl kQ rfl hF (hS.keep sQ (sQ.n.n.n.n.n.n.n.n.n.n.n.n.n.n)) (q_fieldAddr ty66 rfl rfl (s' := 0) kQ) ?_
  clear hF; intro a hF
  refine goW_take 5 _ rfl kQ rfl hF (hS.keep sQ (sQ.n.n.n.n.n.k.n.n.n.n.n.n.n.n)) (q_ld_blk1 ty51 0 rfl rfl rfl rfl) ?_
  clear hF; intro a hF
  refine gQ 1 rfl rfl hF hS rfl (ef_callx fn42 rfl (List.Perm.refl _) (by exact (jnumbers_ct _ _ _ _ _  hJ))) ?_
  clear hF hS; rintro v_3_1 _ _ a w ⟨_, _, rfl, rfl, ⟨rfl, qa_3_1, qb_3_1, qc_3_1, qd_3_1, rfl, hJ_3_1⟩⟩ hF hS
  replace hS : St _ (_) (_ :: _ :: _ :: _ :: _ :: _ :: _ :: _ :: _ :: _ :: _ :: _ :: _ :: _ :: _ :: _) _ := hS
  refine ⟨⟨.inr (hS.keep sQ (sQ.n.n.n.n.n.k.n.n.n.n.n.n.n.n.n)), .inr (hS.keep sQ (sQ.n.n.n.n.n.n.n.n.n.n.n.n.n.n.n)), .inr (hS.keep sQ (sQ.n.n.n.n.n.n.n.n.n.n.n.n.n.n.n)), .inr (hS.keep sQ (sQ.n.n.n.n.n.n.n.n.n.n.n.n.n.n.n)), iQ, trivial⟩, ?_⟩
  refine gQ 6 rfl rfl hF hS rfl (ef_qt (q_call fn23 rfl (fun w hS => samei_t _ _ _ w (own_slV (f := vi) (xs := J.nums) (hS.own _ (List.mem_of_getElem? (i := 0) rfl)).1 (hv8) rfl (by first | decide | omega)) (own_slV (f := vi) (xs := J.nums) (hS.own _ (List.mem_of_getElem? (i := 10) rfl)).1 (hv8) rfl (by first | decide | omega))) (fun _ _ _ h => h))) ?_
  clear hF hS; rintro _ _ _ a w ⟨rfl, rfl, rfl⟩ hF hS
  refine ⟨⟨iQ, iQ, .inr (hS.keep sQ (sQ.n.n.n.n.n.n.n.n.n.n.n.n.n.n.n)), .inr (hS.keep sQ (sQ.n.n.n.n.n.n.n.n.n.n.n.n.n.n.n)), iQ, trivial⟩, ?_⟩
  refine goW_take 7 _ rfl kQ rfl hF (hS.keep sQ (sQ.n.n.n.n.n.n.n.n.n.n.n.n.n.n.n)) (q_move rfl) ?_
  clear hF; intro a hF
  refine goW_takeg 8 _ rfl (wanted_go 24 rfl rfl) kQ rfl hF (hS.keep sQ (sQ.n.n.n.n.n.n.n.n.n.n.n.n.n.n.n)) (q_move rfl) ?_
  clear hF; intro a hF
  refine goW_takeg 10 _ rfl (wanted_go 24 rfl rfl) kQ rfl hF (hS.keep sQ (sQ.n.n.n.n.n.n.n.n.n.n.n.n.n.n.n)) (q_move rfl) ?_
  clear hF; intro a hF
  refine goW_takeg 11 _ rfl (wanted_go 24 rfl rfl) kQ rfl hF (hS.keep sQ (sQ.n.n.n.n.n.n.n.n.n.n.n.n.n.n.n)) (q_nilCheck rfl) ?_
  clear hF; intro a hF
  refine goW_takeg 12 _ rfl (wanted_go 24 rfl rfl) kQ rfl hF (hS.keep sQ (sQ.n.n.n.n.n.n.n.n.n.n.n.n.n.n.n)) (q_fieldAddr ty66 rfl rfl (s' := 0) kQ) ?_
  clear hF; intro a hF
  refine goW_takeg 13 _ rfl (wanted_go 24 rfl rfl) kQ rfl hF (hS.keep sQ (sQ.n.n.n.n.n.k.n.n.n.n.n.n.n.n.n)) (q_ld_blk1 ty22 0 rfl rfl rfl rfl) ?_
  clear hF; intro a hF
  refine goW_fork [9] kQ rfl ⟨?_, trivial⟩
  replace hS := hS.perm (.swap _ _ _)
  replace hS := hS.perm (.cons _ (.swap _ _ _))
  replace hS := hS.perm (.cons _ (.cons _ (.swap _ _ _)))
  replace hS := hS.perm (.cons _ (.cons _ (.cons _ (.swap _ _ _))))
  replace hS : St _ (_) (_ :: _ :: _ :: _ :: _ :: _ :: _ :: _ :: _ :: _ :: _ :: _ :: _ :: _ :: _ :: _) _ := hS
  refine stepW_efg _ rfl (wanted_go 24 rfl rfl) rfl hF hS rfl (ef_callx fn21 rfl (List.Perm.refl _) (by exact (jtexts_ct _ _ _ _ _  hJ_3_1))) ?_
  clear hF hS; rintro v_3_9 _ _ a w ⟨_, _, rfl, rfl, ⟨rfl, qa_3_9, qb_3_9, qc_3_9, qd_3_9, rfl, hJ_3_9⟩⟩ hF hS
  replace hS : St _ (_) (_ :: _ :: _ :: _ :: _ :: _ :: _ :: _ :: _ :: _ :: _ :: _ :: _ :: _ :: _ :: _ :: _) _ := hS
  refine ⟨⟨.inr (hS.keep sQ (sQ.n.n.n.n.n.k.n.n.n.n.n.n.n.n.n.n)), .inr (hS.keep sQ (sQ.n.n.n.n.n.n.n.n.n.n.n.n.n.n.n.n)), .inr (hS.keep sQ (sQ.n.n.n.n.n.n.n.n.n.n.n.n.n.n.n.n)), .inr (hS.keep sQ (sQ.n.n.n.n.n.n.n.n.n.n.n.n.n.n.n.n)), iQ, iQ, iQ, iQ, .inr (hS.keep sQ (sQ.n.n.n.n.n.n.n.n.n.n.n.n.n.n.n.n)), .inr (hS.keep sQ (sQ.n.n.n.n.n.n.n.n.n.n.n.n.n.n.n.n)), iQ, trivial⟩, ?_⟩
  refine goW_fork [14] kQ rfl ⟨?_, trivial⟩
  refine stepW_efg _ rfl (wanted_go 24 rfl rfl) rfl hF hS rfl (ef_qt (q_call fn20 rfl (fun w hS => samet_t _ _ _ w (own_slV (f := vs) (xs := J.tx) (hS.own _ (List.mem_of_getElem? (i := 0) rfl)).1 (hv10) rfl (by first | decide | omega)) (own_slV (f := vs) (xs := J.tx) (hS.own _ (List.mem_of_getElem? (i := 13) rfl)).1 (hv10) rfl (by first | decide | omega))) (fun _ _ _ h => h))) ?_
  clear hF hS; rintro _ _ _ a w ⟨rfl, rfl, rfl⟩ hF hS
  refine ⟨⟨iQ, iQ, .inr (hS.keep sQ (sQ.n.n.n.n.n.n.n.n.n.n.n.n.n.n.n.n)), .inr (hS.keep sQ (sQ.n.n.n.n.n.n.n.n.n.n.n.n.n.n.n.n)), iQ, iQ, iQ, iQ, .inr (hS.keep sQ (sQ.n.n.n.n.n.n.n.n.n.n.n.n.n.n.n.n)), .inr (hS.keep sQ (sQ.n.n.n.n.n.n.n.n.n.n.n.n.n.n.n.n)), iQ, trivial⟩, ?_⟩
  refine goW_take 15 _ rfl kQ rfl hF (hS.keep sQ (sQ.n.n.n.n.n.n.n.n.n.n.n.n.n.n.n.n)) (q_pick_t rfl rfl) ?_
  clear hF; intro a hF
  refine goW_take 16 _ rfl kQ rfl hF (hS.keep sQ (sQ.n.n.n.n.n.n.n.n.n.n.n.n.n.n.n.n)) (q_move rfl) ?_
  clear hF; intro a hF
  refine goW_takeg 17 _ rfl (wanted_go 33 rfl rfl) kQ rfl hF (hS.keep sQ (sQ.n.n.n.n.n.n.n.n.n.n.n.n.n.n.n.n)) (q_move rfl) ?_
  clear hF; intro a hF
  refine goW_takeg 19 _ rfl (wanted_go 33 rfl rfl) kQ rfl hF (hS.keep sQ (sQ.n.n.n.n.n.n.n.n.n.n.n.n.n.n.n.n)) (q_move rfl) ?_
  clear hF; intro a hF
  refine goW_fork [18] kQ rfl ⟨?_, trivial⟩
  replace hS := hS.perm (.swap _ _ _)
  replace hS := hS.perm (.cons _ (.swap _ _ _))
  replace hS := hS.perm (.cons _ (.cons _ (.swap _ _ _)))
  replace hS := hS.perm (.cons _ (.cons _ (.cons _ (.swap _ _ _))))
  replace hS : St _ (_) (_ :: _ :: _ :: _ :: _ :: _ :: _ :: _ :: _ :: _ :: _ :: _ :: _ :: _ :: _ :: _ :: _) _ := hS
  refine stepW_efg _ rfl (wanted_go 33 rfl rfl) rfl hF hS rfl (ef_callx fn24 rfl (List.Perm.refl _) (by exact (jdamaged_ct _ _ _ _ _  hJ_3_9))) ?_
  clear hF hS; rintro v_3_18 _ _ a w ⟨_, _, rfl, rfl, ⟨rfl, qa_3_18, qb_3_18, qc_3_18, qd_3_18, rfl, hJ_3_18⟩⟩ hF hS
  replace hS : St _ (_) (_ :: _ :: _ :: _ :: _ :: _ :: _ :: _ :: _ :: _ :: _ :: _ :: _ :: _ :: _ :: _ :: _ :: _) _ := hS
  refine ⟨⟨.inr (hS.keep sQ (sQ.n.n.n.n.n.n.n.n.n.n.n.n.n.n.n.n.n)), iQ, iQ, iQ, iQ, iQ, .inr (hS.keep sQ (sQ.n.n.n.n.n.n.n.n.n.n.n.n.n.n.n.n.n)), .inr (hS.keep sQ (sQ.n.n.n.n.n.n.n.n.n.n.n.n.n.n.n.n.n)), iQ, iQ, iQ, iQ, .inr (hS.keep sQ (sQ.n.n.n.n.n.n.n.n.n.n.n.n.n.n.n.n.n)), .inr (hS.keep sQ (sQ.n.n.n.n.n.n.n.n.n.n.n.n.n.n.n.n.n)), iQ, trivial⟩, ?_⟩
  refine goW_fork [20] kQ rfl ⟨?_, trivial⟩
  replace hS := hS.perm (.cons _ (.cons _ (.cons _ (.cons _ (.cons _ (.cons _ (.cons _ (.cons _ (.cons _ (.cons _ (.swap _ _ _)))))))))))
  replace hS := hS.perm (.cons _ (.cons _ (.cons _ (.cons _ (.cons _ (.cons _ (.cons _ (.cons _ (.cons _ (.swap _ _ _))))))))))
  replace hS := hS.perm (.cons _ (.cons _ (.cons _ (.cons _ (.cons _ (.cons _ (.cons _ (.cons _ (.swap _ _ _)))))))))
  replace hS := hS.perm (.cons _ (.cons _ (.cons _ (.cons _ (.cons _ (.cons _ (.cons _ (.swap _ _ _))))))))
  replace hS := hS.perm (.cons _ (.cons _ (.cons _ (.cons _ (.cons _ (.cons _ (.swap _ _ _)))))))
  replace hS := hS.perm (.cons _ (.cons _ (.cons _ (.cons _ (.cons _ (.swap _ _ _))))))
  replace hS := hS.perm (.cons _ (.cons _ (.cons _ (.cons _ (.swap _ _ _)))))
  replace hS := hS.perm (.cons _ (.cons _ (.cons _ (.swap _ _ _))))
  replace hS := hS.perm (.cons _ (.cons _ (.swap _ _ _)))
  replace hS := hS.perm (.cons _ (.swap _ _ _))
  replace hS := hS.perm (.swap _ _ _)
  replace hS := hS.perm (.cons _ (.cons _ (.cons _ (.cons _ (.cons _ (.cons _ (.cons _ (.cons _ (.cons _ (.cons _ (.cons _ (.swap _ _ _))))))))))))
  replace hS := hS.perm (.cons _ (.cons _ (.cons _ (.cons _ (.cons _ (.cons _ (.cons _ (.cons _ (.cons _ (.cons _ (.swap _ _ _)))))))))))
  replace hS := hS.perm (.cons _ (.cons _ (.cons _ (.cons _ (.cons _ (.cons _ (.cons _ (.cons _ (.cons _ (.swap _ _ _))))))))))
  replace hS := hS.perm (.cons _ (.cons _ (.cons _ (.cons _ (.cons _ (.cons _ (.cons _ (.cons _ (.swap _ _ _)))))))))
  replace hS := hS.perm (.cons _ (.cons _ (.cons _ (.cons _ (.cons _ (.cons _ (.cons _ (.swap _ _ _))))))))
  replace hS := hS.perm (.cons _ (.cons _ (.cons _ (.cons _ (.cons _ (.cons _ (.swap _ _ _)))))))
  replace hS := hS.perm (.cons _ (.cons _ (.cons _ (.cons _ (.cons _ (.swap _ _ _))))))
  replace hS := hS.perm (.cons _ (.cons _ (.cons _ (.cons _ (.swap _ _ _)))))
  replace hS := hS.perm (.cons _ (.cons _ (.cons _ (.swap _ _ _))))
  replace hS := hS.perm (.cons _ (.cons _ (.swap _ _ _)))
  replace hS := hS.perm (.cons _ (.swap _ _ _))
  replace hS := hS.perm (.cons _ (.cons _ (.cons _ (.cons _ (.cons _ (.cons _ (.cons _ (.cons _ (.cons _ (.cons _ (.cons _ (.cons _ (.swap _ _ _)))))))))))))
  replace hS := hS.perm (.cons _ (.cons _ (.cons _ (.cons _ (.cons _ (.cons _ (.cons _ (.cons _ (.cons _ (.cons _ (.cons _ (.swap _ _ _))))))))))))
  replace hS := hS.perm (.cons _ (.cons _ (.cons _ (.cons _ (.cons _ (.cons _ (.cons _ (.cons _ (.cons _ (.cons _ (.swap _ _ _)))))))))))
  replace hS := hS.perm (.cons _ (.cons _ (.cons _ (.cons _ (.cons _ (.cons _ (.cons _ (.cons _ (.cons _ (.swap _ _ _))))))))))
  replace hS := hS.perm (.cons _ (.cons _ (.cons _ (.cons _ (.cons _ (.cons _ (.cons _ (.cons _ (.swap _ _ _)))))))))
  replace hS := hS.perm (.cons _ (.cons _ (.cons _ (.cons _ (.cons _ (.cons _ (.cons _ (.swap _ _ _))))))))
  replace hS := hS.perm (.cons _ (.cons _ (.cons _ (.cons _ (.cons _ (.cons _ (.swap _ _ _)))))))
  replace hS := hS.perm (.cons _ (.cons _ (.cons _ (.cons _ (.cons _ (.swap _ _ _))))))
  replace hS := hS.perm (.cons _ (.cons _ (.cons _ (.cons _ (.swap _ _ _)))))
  replace hS := hS.perm (.cons _ (.cons _ (.cons _ (.swap _ _ _))))
  replace hS := hS.perm (.cons _ (.cons _ (.swap _ _ _)))
  replace hS := hS.perm (.cons _ (.cons _ (.cons _ (.cons _ (.cons _ (.cons _ (.cons _ (.cons _ (.cons _ (.cons _ (.cons _ (.cons _ (.cons _ (.swap _ _ _))))))))))))))
  replace hS := hS.perm (.cons _ (.cons _ (.cons _ (.cons _ (.cons _ (.cons _ (.cons _ (.cons _ (.cons _ (.cons _ (.cons _ (.cons _ (.swap _ _ _)))))))))))))
  replace hS := hS.perm (.cons _ (.cons _ (.cons _ (.cons _ (.cons _ (.cons _ (.cons _ (.cons _ (.cons _ (.cons _ (.cons _ (.swap _ _ _))))))))))))
  replace hS := hS.perm (.cons _ (.cons _ (.cons _ (.cons _ (.cons _ (.cons _ (.cons _ (.cons _ (.cons _ (.cons _ (.swap _ _ _)))))))))))
  replace hS := hS.perm (.cons _ (.cons _ (.cons _ (.cons _ (.cons _ (.cons _ (.cons _ (.cons _ (.cons _ (.swap _ _ _))))))))))
  replace hS := hS.perm (.cons _ (.cons _ (.cons _ (.cons _ (.cons _ (.cons _ (.cons _ (.cons _ (.swap _ _ _)))))))))
  replace hS := hS.perm (.cons _ (.cons _ (.cons _ (.cons _ (.cons _ (.cons _ (.cons _ (.swap _ _ _))))))))
  replace hS := hS.perm (.cons _ (.cons _ (.cons _ (.cons _ (.cons _ (.cons _ (.swap _ _ _)))))))
  replace hS := hS.perm (.cons _ (.cons _ (.cons _ (.cons _ (.cons _ (.swap _ _ _))))))
  replace hS := hS.perm (.cons _ (.cons _ (.cons _ (.cons _ (.swap _ _ _)))))
  replace hS := hS.perm (.cons _ (.cons _ (.cons _ (.swap _ _ _))))
  replace hS : St _ (_) (_ :: _ :: _ :: _ :: _ :: _ :: _ :: _ :: _ :: _ :: _ :: _ :: _ :: _ :: _ :: _ :: _ :: _) _ := hS
  refine stepW_efg _ rfl (wanted_go 33 rfl rfl) rfl hF hS rfl (ef_callx fn58 rfl (List.Perm.refl _) (by exact (hdamaged2_ct _ bd _ un ubd ut hVf _ _ ))) ?_
  clear hF hS; rintro v_3_20 _ _ a w ⟨_, _, rfl, rfl, ⟨rfl, rfl⟩⟩ hF hS
  replace hS : St _ (_) (_ :: _ :: _ :: _ :: _ :: _ :: _ :: _ :: _ :: _ :: _ :: _ :: _ :: _ :: _ :: _ :: _ :: _ :: _) _ := hS
  refine ⟨⟨iQ, iQ, iQ, iQ, iQ, iQ, .inr (hS.keep sQ (sQ.n.n.n.n.n.n.n.n.n.n.n.n.n.n.n.n.n.n)), .inr (hS.keep sQ (sQ.n.n.n.n.n.n.n.n.n.n.n.n.n.n.n.n.n.n)), iQ, iQ, iQ, iQ, .inr (hS.keep sQ (sQ.n.n.n.n.n.n.n.n.n.n.n.n.n.n.n.n.n.n)), .inr (hS.keep sQ (sQ.n.n.n.n.n.n.n.n.n.n.n.n.n.n.n.n.n.n)), iQ, trivial⟩, ?_⟩
  refine goW_fork [21] kQ rfl ⟨?_, trivial⟩
  refine stepW_efg _ rfl (wanted_go 33 rfl rfl) rfl hF hS rfl (ef_qt (q_call fn23 rfl (fun w hS => samei_t _ _ _ w (own_slV (f := vi) (xs := (Jn.damaged J)) (hS.own _ (List.mem_of_getElem? (i := 5) rfl)).1 (hdr9) rfl (by first | decide | omega)) (own_slV (f := vi) (xs := (Jn.damaged J)) (hS.own _ (List.mem_of_getElem? (i := 0) rfl)).1 (hdr9) rfl (by first | decide | omega))) (fun _ _ _ h => h))) ?_
  clear hF hS; rintro _ _ _ a w ⟨rfl, rfl, rfl⟩ hF hS
  refine ⟨⟨iQ, iQ, iQ, iQ, iQ, iQ, .inr (hS.keep sQ (sQ.n.n.n.n.n.n.n.n.n.n.n.n.n.n.n.n.n.n)), .inr (hS.keep sQ (sQ.n.n.n.n.n.n.n.n.n.n.n.n.n.n.n.n.n.n)), iQ, iQ, iQ, iQ, .inr (hS.keep sQ (sQ.n.n.n.n.n.n.n.n.n.n.n.n.n.n.n.n.n.n)), .inr (hS.keep sQ (sQ.n.n.n.n.n.n.n.n.n.n.n.n.n.n.n.n.n.n)), iQ, trivial⟩, ?_⟩
  refine goW_take 22 _ rfl kQ rfl hF (hS.keep sQ (sQ.n.n.n.n.n.n.n.n.n.n.n.n.n.n.n.n.n.n)) (q_pick_t rfl rfl) ?_
  clear hF; intro a hF
  refine goW_take 23 _ rfl kQ rfl hF (hS.keep sQ (sQ.n.n.n.n.n.n.n.n.n.n.n.n.n.n.n.n.n.n)) (q_move rfl) ?_
  clear hF; intro a hF
  refine goW_takeg 24 _ rfl (wanted_go 40 rfl rfl) kQ rfl hF (hS.keep sQ (sQ.n.n.n.n.n.n.n.n.n.n.n.n.n.n.n.n.n.n)) (q_move rfl) ?_
  clear hF; intro a hF
  refine goW_takeg 26 _ rfl (wanted_go 40 rfl rfl) kQ rfl hF (hS.keep sQ (sQ.n.n.n.n.n.n.n.n.n.n.n.n.n.n.n.n.n.n)) (q_move rfl) ?_
  clear hF; intro a hF
  refine goW_takeg 27 _ rfl (wanted_go 40 rfl rfl) kQ rfl hF (hS.keep sQ (sQ.n.n.n.n.n.n.n.n.n.n.n.n.n.n.n.n.n.n)) (q_nilCheck rfl) ?_
  clear hF; intro a hF
  refine goW_takeg 28 _ rfl (wanted_go 40 rfl rfl) kQ rfl hF (hS.keep sQ (sQ.n.n.n.n.n.n.n.n.n.n.n.n.n.n.n.n.n.n)) (q_fieldAddr ty66 rfl rfl (s' := 0) kQ) ?_
  clear hF; intro a hF
  refine goW_takeg 29 _ rfl (wanted_go 40 rfl rfl) kQ rfl hF (hS.keep sQ (sQ.n.n.n.n.n.n.n.n.n.n.n.n.n.n.n.n.k.n)) (q_ld_blk1 ty51 0 rfl rfl rfl rfl) ?_
  clear hF; intro a hF
  refine goW_fork [25] kQ rfl ⟨?_, trivial⟩
  replace hS := hS.perm (.cons _ (.cons _ (.cons _ (.cons _ (.cons _ (.swap _ _ _))))))
  replace hS := hS.perm (.cons _ (.cons _ (.cons _ (.cons _ (.swap _ _ _)))))
  replace hS := hS.perm (.cons _ (.cons _ (.cons _ (.swap _ _ _))))
  replace hS := hS.perm (.cons _ (.cons _ (.swap _ _ _)))
  replace hS := hS.perm (.cons _ (.swap _ _ _))
  replace hS := hS.perm (.swap _ _ _)
  replace hS := hS.perm (.cons _ (.cons _ (.cons _ (.cons _ (.cons _ (.cons _ (.swap _ _ _)))))))
  replace hS := hS.perm (.cons _ (.cons _ (.cons _ (.cons _ (.cons _ (.swap _ _ _))))))
  replace hS := hS.perm (.cons _ (.cons _ (.cons _ (.cons _ (.swap _ _ _)))))
  replace hS := hS.perm (.cons _ (.cons _ (.cons _ (.swap _ _ _))))
  replace hS := hS.perm (.cons _ (.cons _ (.swap _ _ _)))
  replace hS := hS.perm (.cons _ (.swap _ _ _))
  replace hS := hS.perm (.cons _ (.cons _ (.cons _ (.cons _ (.cons _ (.cons _ (.cons _ (.swap _ _ _))))))))
  replace hS := hS.perm (.cons _ (.cons _ (.cons _ (.cons _ (.cons _ (.cons _ (.swap _ _ _)))))))
  replace hS := hS.perm (.cons _ (.cons _ (.cons _ (.cons _ (.cons _ (.swap _ _ _))))))
  replace hS := hS.perm (.cons _ (.cons _ (.cons _ (.cons _ (.swap _ _ _)))))
  replace hS := hS.perm (.cons _ (.cons _ (.cons _ (.swap _ _ _))))
  replace hS := hS.perm (.cons _ (.cons _ (.swap _ _ _)))
  replace hS := hS.perm (.cons _ (.cons _ (.cons _ (.cons _ (.cons _ (.cons _ (.cons _ (.cons _ (.swap _ _ _)))))))))
  replace hS := hS.perm (.cons _ (.cons _ (.cons _ (.cons _ (.cons _ (.cons _ (.cons _ (.swap _ _ _))))))))
  replace hS := hS.perm (.cons _ (.cons _ (.cons _ (.cons _ (.cons _ (.cons _ (.swap _ _ _)))))))
  replace hS := hS.perm (.cons _ (.cons _ (.cons _ (.cons _ (.cons _ (.swap _ _ _))))))
  replace hS := hS.perm (.cons _ (.cons _ (.cons _ (.cons _ (.swap _ _ _)))))
  replace hS := hS.perm (.cons _ (.cons _ (.cons _ (.swap _ _ _))))
  replace hS : St _ (_) (_ :: _ :: _ :: _ :: _ :: _ :: _ :: _ :: _ :: _ :: _ :: _ :: _ :: _ :: _ :: _ :: _ :: _ :: _) _ := hS
  refine stepW_efg _ rfl (wanted_go 40 rfl rfl) rfl hF hS rfl (ef_callx fn22 rfl (List.Perm.refl _) (by exact (jbad_ct _ _ _ _ _  hJ_3_18))) ?_
  clear hF hS; rintro v_3_25 _ _ a w ⟨_, _, rfl, rfl, ⟨rfl, qa_3_25, qb_3_25, qc_3_25, qd_3_25, rfl, hJ_3_25⟩⟩ hF hS
  replace hS : St _ (_) (_ :: _ :: _ :: _ :: _ :: _ :: _ :: _ :: _ :: _ :: _ :: _ :: _ :: _ :: _ :: _ :: _ :: _ :: _ :: _) _ := hS
  refine ⟨⟨.inr (hS.keep sQ (sQ.n.n.n.n.n.n.n.n.n.n.n.n.k.n.n.n.n.n.n)), .inr (hS.keep sQ (sQ.n.n.n.n.n.n.n.n.n.n.n.n.n.n.n.n.n.n.n)), .inr (hS.keep sQ (sQ.n.n.n.n.n.n.n.n.n.n.n.n.n.n.n.n.n.n.n)), .inr (hS.keep sQ (sQ.n.n.n.n.n.n.n.n.n.n.n.n.n.n.n.n.n.n.n)), iQ, iQ, iQ, iQ, iQ, iQ, iQ, iQ, iQ, .inr (hS.keep sQ (sQ.n.n.n.n.n.n.n.n.n.n.n.n.n.n.n.n.n.n.n)), .inr (hS.keep sQ (sQ.n.n.n.n.n.n.n.n.n.n.n.n.n.n.n.n.n.n.n)), iQ, iQ, iQ, iQ, .inr (hS.keep sQ (sQ.n.n.n.n.n.n.n.n.n.n.n.n.n.n.n.n.n.n.n)), .inr (hS.keep sQ (sQ.n.n.n.n.n.n.n.n.n.n.n.n.n.n.n.n.n.n.n)), iQ, trivial⟩, ?_⟩
  refine goW_fork [30] kQ rfl ⟨?_, trivial⟩
  refine stepW_efg _ rfl (wanted_go 40 rfl rfl) rfl hF hS rfl (ef_qt (q_call fn23 rfl (fun w hS => samei_t _ _ _ w (own_slV (f := vi) (xs := J.bad) (hS.own _ (List.mem_of_getElem? (i := 0) rfl)).1 (hv9) rfl (by first | decide | omega)) (own_slV (f := vi) (xs := J.bad) (hS.own _ (List.mem_of_getElem? (i := 8) rfl)).1 (hv9) rfl (by first | decide | omega))) (fun _ _ _ h => h))) ?_
  clear hF hS; rintro _ _ _ a w ⟨rfl, rfl, rfl⟩ hF hS
  refine ⟨⟨iQ, iQ, .inr (hS.keep sQ (sQ.n.n.n.n.n.n.n.n.n.n.n.n.n.n.n.n.n.n.n)), .inr (hS.keep sQ (sQ.n.n.n.n.n.n.n.n.n.n.n.n.n.n.n.n.n.n.n)), iQ, iQ, iQ, iQ, iQ, iQ, iQ, iQ, iQ, .inr (hS.keep sQ (sQ.n.n.n.n.n.n.n.n.n.n.n.n.n.n.n.n.n.n.n)), .inr (hS.keep sQ (sQ.n.n.n.n.n.n.n.n.n.n.n.n.n.n.n.n.n.n.n)), iQ, iQ, iQ, iQ, .inr (hS.keep sQ (sQ.n.n.n.n.n.n.n.n.n.n.n.n.n.n.n.n.n.n.n)), .inr (hS.keep sQ (sQ.n.n.n.n.n.n.n.n.n.n.n.n.n.n.n.n.n.n.n)), iQ, trivial⟩, ?_⟩
  refine goW_take 31 _ rfl kQ rfl hF (hS.keep sQ (sQ.n.n.n.n.n.n.n.n.n.n.n.n.n.n.n.n.n.n.n)) (q_pick_t rfl rfl) ?_
  clear hF; intro a hF
  refine goW_take 32 _ rfl kQ rfl hF (hS.keep sQ (sQ.n.n.n.n.n.n.n.n.n.n.n.n.n.n.n.n.n.n.n)) (q_move rfl) ?_
  clear hF; intro a hF
  refine goW_takeg 33 _ rfl (wanted_go 49 rfl rfl) kQ rfl hF (hS.keep sQ (sQ.n.n.n.n.n.n.n.n.n.n.n.n.n.n.n.n.n.n.n)) (q_move rfl) ?_
  clear hF; intro a hF
  refine goW_takeg 35 _ rfl (wanted_go 49 rfl rfl) kQ rfl hF (hS.keep sQ (sQ.n.n.n.n.n.n.n.n.n.n.n.n.n.n.n.n.n.n.n)) (q_move rfl) ?_
  clear hF; intro a hF
  refine goW_takeg 36 _ rfl (wanted_go 49 rfl rfl) kQ rfl hF (hS.keep sQ (sQ.n.n.n.n.n.n.n.n.n.n.n.n.n.n.n.n.n.n.n)) (q_nilCheck rfl) ?_
  clear hF; intro a hF
  refine goW_takeg 37 _ rfl (wanted_go 49 rfl rfl) kQ rfl hF (hS.keep sQ (sQ.n.n.n.n.n.n.n.n.n.n.n.n.n.n.n.n.n.n.n)) (q_fieldAddr ty66 rfl rfl (s' := 0) kQ) ?_
  clear hF; intro a hF
  refine goW_takeg 38 _ rfl (wanted_go 49 rfl rfl) kQ rfl hF (hS.keep sQ (sQ.n.n.n.n.n.n.n.n.n.n.n.n.k.n.n.n.n.n.n)) (q_ld_blk1 ty3 0 rfl rfl rfl rfl) ?_
  clear hF; intro a hF
  refine goW_fork [34] kQ rfl ⟨?_, trivial⟩
  replace hS := hS.perm (.swap _ _ _)
  replace hS := hS.perm (.cons _ (.swap _ _ _))
  replace hS := hS.perm (.cons _ (.cons _ (.swap _ _ _)))
  replace hS := hS.perm (.cons _ (.cons _ (.cons _ (.swap _ _ _))))
  replace hS : St _ (_) (_ :: _ :: _ :: _ :: _ :: _ :: _ :: _ :: _ :: _ :: _ :: _ :: _ :: _ :: _ :: _ :: _ :: _ :: _ :: _) _ := hS
  refine stepW_efg _ rfl (wanted_go 49 rfl rfl) rfl hF hS rfl (ef_callx fn37 rfl (List.Perm.refl _) (by exact (jnext_ct _ _ _ _ _  hJ_3_25))) ?_
  clear hF hS; rintro _ _ _ a w ⟨_, _, rfl, rfl, ⟨rfl, rfl, qa_3_34, qb_3_34, qc_3_34, qd_3_34, rfl, hJ_3_34⟩⟩ hF hS
  replace hS : St _ (_) (_ :: _ :: _ :: _ :: _ :: _ :: _ :: _ :: _ :: _ :: _ :: _ :: _ :: _ :: _ :: _ :: _ :: _ :: _ :: _) _ := hS
  refine ⟨⟨.inr (hS.keep sQ (sQ.n.n.n.n.n.n.n.n.n.n.n.n.k.n.n.n.n.n.n)), .inr (hS.keep sQ (sQ.n.n.n.n.n.n.n.n.n.n.n.n.n.n.n.n.n.n.n)), .inr (hS.keep sQ (sQ.n.n.n.n.n.n.n.n.n.n.n.n.n.n.n.n.n.n.n)), .inr (hS.keep sQ (sQ.n.n.n.n.n.n.n.n.n.n.n.n.n.n.n.n.n.n.n)), iQ, iQ, iQ, iQ, iQ, .inr (hS.keep sQ (sQ.n.n.n.n.n.n.n.n.n.n.n.n.n.n.n.n.n.n.n)), .inr (hS.keep sQ (sQ.n.n.n.n.n.n.n.n.n.n.n.n.n.n.n.n.n.n.n)), iQ, iQ, iQ, iQ, iQ, iQ, iQ, iQ, iQ, .inr (hS.keep sQ (sQ.n.n.n.n.n.n.n.n.n.n.n.n.n.n.n.n.n.n.n)), .inr (hS.keep sQ (sQ.n.n.n.n.n.n.n.n.n.n.n.n.n.n.n.n.n.n.n)), iQ, iQ, iQ, iQ, .inr (hS.keep sQ (sQ.n.n.n.n.n.n.n.n.n.n.n.n.n.n.n.n.n.n.n)), .inr (hS.keep sQ (sQ.n.n.n.n.n.n.n.n.n.n.n.n.n.n.n.n.n.n.n)), iQ, trivial⟩, ?_⟩
  refine goW_takeg 39 _ rfl (wanted_go 49 rfl rfl) kQ rfl hF (hS.keep sQ (sQ.n.n.n.n.n.n.n.n.n.n.n.n.n.n.n.n.n.n.n)) (q_dt (q_eqi rfl rfl) (by simp)) ?_
  clear hF; intro a hF
  refine goW_take 40 _ rfl kQ rfl hF (hS.keep sQ (sQ.n.n.n.n.n.n.n.n.n.n.n.n.n.n.n.n.n.n.n)) (q_pick_t rfl rfl) ?_
  clear hF; intro a hF
  refine goW_take 41 _ rfl kQ rfl hF (hS.keep sQ (sQ.n.n.n.n.n.n.n.n.n.n.n.n.n.n.n.n.n.n.n)) (q_move rfl) ?_
  clear hF; intro a hF
  refine goW_takeg 42 _ rfl (wanted_go 58 rfl rfl) kQ rfl hF (hS.keep sQ (sQ.n.n.n.n.n.n.n.n.n.n.n.n.n.n.n.n.n.n.n)) (q_move rfl) ?_
  clear hF; intro a hF
  refine goW_takeg 44 _ rfl (wanted_go 58 rfl rfl) kQ rfl hF (hS.keep sQ (sQ.n.n.n.n.n.n.n.n.n.n.n.n.n.n.n.n.n.n.n)) (q_move rfl) ?_
  clear hF; intro a hF
  refine goW_fork [43] kQ rfl ⟨?_, trivial⟩
  replace hS := hS.perm (.cons _ (.cons _ (.cons _ (.cons _ (.cons _ (.cons _ (.cons _ (.cons _ (.cons _ (.cons _ (.cons _ (.cons _ (.swap _ _ _)))))))))))))
  replace hS := hS.perm (.cons _ (.cons _ (.cons _ (.cons _ (.cons _ (.cons _ (.cons _ (.cons _ (.cons _ (.cons _ (.cons _ (.swap _ _ _))))))))))))
  replace hS := hS.perm (.cons _ (.cons _ (.cons _ (.cons _ (.cons _ (.cons _ (.cons _ (.cons _ (.cons _ (.cons _ (.swap _ _ _)))))))))))
  replace hS := hS.perm (.cons _ (.cons _ (.cons _ (.cons _ (.cons _ (.cons _ (.cons _ (.cons _ (.cons _ (.swap _ _ _))))))))))
  replace hS := hS.perm (.cons _ (.cons _ (.cons _ (.cons _ (.cons _ (.cons _ (.cons _ (.cons _ (.swap _ _ _)))))))))
  replace hS := hS.perm (.cons _ (.cons _ (.cons _ (.cons _ (.cons _ (.cons _ (.cons _ (.swap _ _ _))))))))
  replace hS := hS.perm (.cons _ (.cons _ (.cons _ (.cons _ (.cons _ (.cons _ (.swap _ _ _)))))))
  replace hS := hS.perm (.cons _ (.cons _ (.cons _ (.cons _ (.cons _ (.swap _ _ _))))))
  replace hS := hS.perm (.cons _ (.cons _ (.cons _ (.cons _ (.swap _ _ _)))))
  replace hS := hS.perm (.cons _ (.cons _ (.cons _ (.cons _ (.cons _ (.cons _ (.cons _ (.cons _ (.cons _ (.cons _ (.cons _ (.cons _ (.cons _ (.swap _ _ _))))))))))))))
  replace hS := hS.perm (.cons _ (.cons _ (.cons _ (.cons _ (.cons _ (.cons _ (.cons _ (.cons _ (.cons _ (.cons _ (.cons _ (.cons _ (.swap _ _ _)))))))))))))
  replace hS := hS.perm (.cons _ (.cons _ (.cons _ (.cons _ (.cons _ (.cons _ (.cons _ (.cons _ (.cons _ (.cons _ (.cons _ (.swap _ _ _))))))))))))
  replace hS := hS.perm (.cons _ (.cons _ (.cons _ (.cons _ (.cons _ (.cons _ (.cons _ (.cons _ (.cons _ (.cons _ (.swap _ _ _)))))))))))
  replace hS := hS.perm (.cons _ (.cons _ (.cons _ (.cons _ (.cons _ (.cons _ (.cons _ (.cons _ (.cons _ (.swap _ _ _))))))))))
  replace hS := hS.perm (.cons _ (.cons _ (.cons _ (.cons _ (.cons _ (.cons _ (.cons _ (.cons _ (.swap _ _ _)))))))))
  replace hS := hS.perm (.cons _ (.cons _ (.cons _ (.cons _ (.cons _ (.cons _ (.cons _ (.swap _ _ _))))))))
  replace hS := hS.perm (.cons _ (.cons _ (.cons _ (.cons _ (.cons _ (.cons _ (.swap _ _ _)))))))
  replace hS := hS.perm (.cons _ (.cons _ (.cons _ (.cons _ (.cons _ (.swap _ _ _))))))
  replace hS := hS.perm (.cons _ (.cons _ (.cons _ (.cons _ (.cons _ (.cons _ (.cons _ (.cons _ (.cons _ (.cons _ (.cons _ (.cons _ (.cons _ (.cons _ (.swap _ _ _)))))))))))))))
  replace hS := hS.perm (.cons _ (.cons _ (.cons _ (.cons _ (.cons _ (.cons _ (.cons _ (.cons _ (.cons _ (.cons _ (.cons _ (.cons _ (.cons _ (.swap _ _ _))))))))))))))
  replace hS := hS.perm (.cons _ (.cons _ (.cons _ (.cons _ (.cons _ (.cons _ (.cons _ (.cons _ (.cons _ (.cons _ (.cons _ (.cons _ (.swap _ _ _)))))))))))))
  replace hS := hS.perm (.cons _ (.cons _ (.cons _ (.cons _ (.cons _ (.cons _ (.cons _ (.cons _ (.cons _ (.cons _ (.cons _ (.swap _ _ _))))))))))))
  replace hS := hS.perm (.cons _ (.cons _ (.cons _ (.cons _ (.cons _ (.cons _ (.cons _ (.cons _ (.cons _ (.cons _ (.swap _ _ _)))))))))))
  replace hS := hS.perm (.cons _ (.cons _ (.cons _ (.cons _ (.cons _ (.cons _ (.cons _ (.cons _ (.cons _ (.swap _ _ _))))))))))
  replace hS := hS.perm (.cons _ (.cons _ (.cons _ (.cons _ (.cons _ (.cons _ (.cons _ (.cons _ (.swap _ _ _)))))))))
  replace hS := hS.perm (.cons _ (.cons _ (.cons _ (.cons _ (.cons _ (.cons _ (.cons _ (.swap _ _ _))))))))
  replace hS := hS.perm (.cons _ (.cons _ (.cons _ (.cons _ (.cons _ (.cons _ (.swap _ _ _)))))))
  replace hS := hS.perm (.cons _ (.cons _ (.cons _ (.cons _ (.cons _ (.cons _ (.cons _ (.cons _ (.cons _ (.cons _ (.cons _ (.cons _ (.cons _ (.cons _ (.cons _ (.swap _ _ _))))))))))))))))
  replace hS := hS.perm (.cons _ (.cons _ (.cons _ (.cons _ (.cons _ (.cons _ (.cons _ (.cons _ (.cons _ (.cons _ (.cons _ (.cons _ (.cons _ (.cons _ (.swap _ _ _)))))))))))))))
  replace hS := hS.perm (.cons _ (.cons _ (.cons _ (.cons _ (.cons _ (.cons _ (.cons _ (.cons _ (.cons _ (.cons _ (.cons _ (.cons _ (.cons _ (.swap _ _ _))))))))))))))
  replace hS := hS.perm (.cons _ (.cons _ (.cons _ (.cons _ (.cons _ (.cons _ (.cons _ (.cons _ (.cons _ (.cons _ (.cons _ (.cons _ (.swap _ _ _)))))))))))))
  replace hS := hS.perm (.cons _ (.cons _ (.cons _ (.cons _ (.cons _ (.cons _ (.cons _ (.cons _ (.cons _ (.cons _ (.cons _ (.swap _ _ _))))))))))))
  replace hS := hS.perm (.cons _ (.cons _ (.cons _ (.cons _ (.cons _ (.cons _ (.cons _ (.cons _ (.cons _ (.cons _ (.swap _ _ _)))))))))))
  replace hS := hS.perm (.cons _ (.cons _ (.cons _ (.cons _ (.cons _ (.cons _ (.cons _ (.cons _ (.cons _ (.swap _ _ _))))))))))
  replace hS := hS.perm (.cons _ (.cons _ (.cons _ (.cons _ (.cons _ (.cons _ (.cons _ (.cons _ (.swap _ _ _)))))))))
  replace hS := hS.perm (.cons _ (.cons _ (.cons _ (.cons _ (.cons _ (.cons _ (.cons _ (.swap _ _ _))))))))
  replace hS : St _ (_) (_ :: _ :: _ :: _ :: _ :: _ :: _ :: _ :: _ :: _ :: _ :: _ :: _ :: _ :: _ :: _ :: _ :: _ :: _ :: _) _ := hS
  refine stepW_efg _ rfl (wanted_go 58 rfl rfl) rfl hF hS rfl (ef_callx fn38 rfl (List.Perm.refl _) (by exact (jroom_ct _ _ _ _ _ _  hJ_3_34 hD))) ?_
  clear hF hS; rintro _ _ _ a w ⟨_, _, rfl, rfl, ⟨rfl, rfl, qa_3_43, qb_3_43, qc_3_43, qd_3_43, ua_3_43, ub_3_43, uc_3_43, ud_3_43, rfl, hJ_3_43, hD_3_43⟩⟩ hF hS
  replace hS : St _ (_) (_ :: _ :: _ :: _ :: _ :: _ :: _ :: _ :: _ :: _ :: _ :: _ :: _ :: _ :: _ :: _ :: _ :: _ :: _ :: _) _ := hS
  refine ⟨⟨.inr (hS.keep sQ (sQ.n.n.n.n.n.n.n.n.n.n.n.n.n.n.n.n.n.n.n)), iQ, iQ, iQ, .inr (hS.keep sQ (sQ.n.n.n.n.n.n.n.n.n.n.n.n.n.n.n.n.n.n.n)), .inr (hS.keep sQ (sQ.n.n.n.n.n.n.n.n.k.n.n.n.n.n.n.n.n.n.n)), .inr (hS.keep sQ (sQ.n.n.n.n.n.n.n.n.n.n.n.n.n.n.n.n.n.n.n)), .inr (hS.keep sQ (sQ.n.n.n.n.n.n.n.n.n.n.n.n.n.n.n.n.n.n.n)), .inr (hS.keep sQ (sQ.n.n.n.n.n.n.n.n.n.n.n.n.n.n.n.n.n.n.n)), iQ, iQ, iQ, iQ, iQ, .inr (hS.keep sQ (sQ.n.n.n.n.n.n.n.n.n.n.n.n.n.n.n.n.n.n.n)), .inr (hS.keep sQ (sQ.n.n.n.n.n.n.n.n.n.n.n.n.n.n.n.n.n.n.n)), iQ, iQ, iQ, iQ, iQ, iQ, iQ, iQ, iQ, .inr (hS.keep sQ (sQ.n.n.n.n.n.n.n.n.n.n.n.n.n.n.n.n.n.n.n)), .inr (hS.keep sQ (sQ.n.n.n.n.n.n.n.n.n.n.n.n.n.n.n.n.n.n.n)), iQ, iQ, iQ, iQ, .inr (hS.keep sQ (sQ.n.n.n.n.n.n.n.n.n.n.n.n.n.n.n.n.n.n.n)), .inr (hS.keep sQ (sQ.n.n.n.n.n.n.n.n.n.n.n.n.n.n.n.n.n.n.n)), iQ, trivial⟩, ?_⟩
  refine goW_fork [45] kQ rfl ⟨?_, trivial⟩
  replace hS := hS.perm (.cons _ (.cons _ (.cons _ (.cons _ (.cons _ (.cons _ (.cons _ (.cons _ (.cons _ (.swap _ _ _))))))))))
  replace hS := hS.perm (.cons _ (.cons _ (.cons _ (.cons _ (.cons _ (.cons _ (.cons _ (.cons _ (.swap _ _ _)))))))))
  replace hS := hS.perm (.cons _ (.cons _ (.cons _ (.cons _ (.cons _ (.cons _ (.cons _ (.swap _ _ _))))))))
  replace hS := hS.perm (.cons _ (.cons _ (.cons _ (.cons _ (.cons _ (.cons _ (.swap _ _ _)))))))
  replace hS := hS.perm (.cons _ (.cons _ (.cons _ (.cons _ (.cons _ (.swap _ _ _))))))
  replace hS := hS.perm (.cons _ (.cons _ (.cons _ (.cons _ (.swap _ _ _)))))
  replace hS := hS.perm (.cons _ (.cons _ (.cons _ (.swap _ _ _))))
  replace hS := hS.perm (.cons _ (.cons _ (.swap _ _ _)))
  replace hS := hS.perm (.cons _ (.swap _ _ _))
  replace hS := hS.perm (.swap _ _ _)
  replace hS := hS.perm (.cons _ (.cons _ (.cons _ (.cons _ (.cons _ (.cons _ (.cons _ (.cons _ (.cons _ (.cons _ (.swap _ _ _)))))))))))
  replace hS := hS.perm (.cons _ (.cons _ (.cons _ (.cons _ (.cons _ (.cons _ (.cons _ (.cons _ (.cons _ (.swap _ _ _))))))))))
  replace hS := hS.perm (.cons _ (.cons _ (.cons _ (.cons _ (.cons _ (.cons _ (.cons _ (.cons _ (.swap _ _ _)))))))))
  replace hS := hS.perm (.cons _ (.cons _ (.cons _ (.cons _ (.cons _ (.cons _ (.cons _ (.swap _ _ _))))))))
  replace hS := hS.perm (.cons _ (.cons _ (.cons _ (.cons _ (.cons _ (.cons _ (.swap _ _ _)))))))
  replace hS := hS.perm (.cons _ (.cons _ (.cons _ (.cons _ (.cons _ (.swap _ _ _))))))
  replace hS := hS.perm (.cons _ (.cons _ (.cons _ (.cons _ (.swap _ _ _)))))
  replace hS := hS.perm (.cons _ (.cons _ (.cons _ (.swap _ _ _))))
  replace hS := hS.perm (.cons _ (.cons _ (.swap _ _ _)))
  replace hS := hS.perm (.cons _ (.swap _ _ _))
  replace hS := hS.perm (.cons _ (.cons _ (.cons _ (.cons _ (.cons _ (.cons _ (.cons _ (.cons _ (.cons _ (.cons _ (.cons _ (.swap _ _ _))))))))))))
  replace hS := hS.perm (.cons _ (.cons _ (.cons _ (.cons _ (.cons _ (.cons _ (.cons _ (.cons _ (.cons _ (.cons _ (.swap _ _ _)))))))))))
  replace hS := hS.perm (.cons _ (.cons _ (.cons _ (.cons _ (.cons _ (.cons _ (.cons _ (.cons _ (.cons _ (.swap _ _ _))))))))))
  replace hS := hS.perm (.cons _ (.cons _ (.cons _ (.cons _ (.cons _ (.cons _ (.cons _ (.cons _ (.swap _ _ _)))))))))
  replace hS := hS.perm (.cons _ (.cons _ (.cons _ (.cons _ (.cons _ (.cons _ (.cons _ (.swap _ _ _))))))))
  replace hS := hS.perm (.cons _ (.cons _ (.cons _ (.cons _ (.cons _ (.cons _ (.swap _ _ _)))))))
  replace hS := hS.perm (.cons _ (.cons _ (.cons _ (.cons _ (.cons _ (.swap _ _ _))))))
  replace hS := hS.perm (.cons _ (.cons _ (.cons _ (.cons _ (.swap _ _ _)))))
  replace hS := hS.perm (.cons _ (.cons _ (.cons _ (.swap _ _ _))))
  replace hS := hS.perm (.cons _ (.cons _ (.swap _ _ _)))
  replace hS := hS.perm (.cons _ (.cons _ (.cons _ (.cons _ (.cons _ (.cons _ (.cons _ (.cons _ (.cons _ (.cons _ (.cons _ (.cons _ (.swap _ _ _)))))))))))))
  replace hS := hS.perm (.cons _ (.cons _ (.cons _ (.cons _ (.cons _ (.cons _ (.cons _ (.cons _ (.cons _ (.cons _ (.cons _ (.swap _ _ _))))))))))))
  replace hS := hS.perm (.cons _ (.cons _ (.cons _ (.cons _ (.cons _ (.cons _ (.cons _ (.cons _ (.cons _ (.cons _ (.swap _ _ _)))))))))))
  replace hS := hS.perm (.cons _ (.cons _ (.cons _ (.cons _ (.cons _ (.cons _ (.cons _ (.cons _ (.cons _ (.swap _ _ _))))))))))
  replace hS := hS.perm (.cons _ (.cons _ (.cons _ (.cons _ (.cons _ (.cons _ (.cons _ (.cons _ (.swap _ _ _)))))))))
  replace hS := hS.perm (.cons _ (.cons _ (.cons _ (.cons _ (.cons _ (.cons _ (.cons _ (.swap _ _ _))))))))
  replace hS := hS.perm (.cons _ (.cons _ (.cons _ (.cons _ (.cons _ (.cons _ (.swap _ _ _)))))))
  replace hS := hS.perm (.cons _ (.cons _ (.cons _ (.cons _ (.cons _ (.swap _ _ _))))))
  replace hS := hS.perm (.cons _ (.cons _ (.cons _ (.cons _ (.swap _ _ _)))))
  replace hS := hS.perm (.cons _ (.cons _ (.cons _ (.swap _ _ _))))
  replace hS := hS.perm (.cons _ (.cons _ (.cons _ (.cons _ (.cons _ (.cons _ (.cons _ (.cons _ (.cons _ (.cons _ (.cons _ (.cons _ (.cons _ (.cons _ (.cons _ (.cons _ (.swap _ _ _)))))))))))))))))
  replace hS := hS.perm (.cons _ (.cons _ (.cons _ (.cons _ (.cons _ (.cons _ (.cons _ (.cons _ (.cons _ (.cons _ (.cons _ (.cons _ (.cons _ (.cons _ (.cons _ (.swap _ _ _))))))))))))))))
  replace hS := hS.perm (.cons _ (.cons _ (.cons _ (.cons _ (.cons _ (.cons _ (.cons _ (.cons _ (.cons _ (.cons _ (.cons _ (.cons _ (.cons _ (.cons _ (.swap _ _ _)))))))))))))))
  replace hS := hS.perm (.cons _ (.cons _ (.cons _ (.cons _ (.cons _ (.cons _ (.cons _ (.cons _ (.cons _ (.cons _ (.cons _ (.cons _ (.cons _ (.swap _ _ _))))))))))))))
  replace hS := hS.perm (.cons _ (.cons _ (.cons _ (.cons _ (.cons _ (.cons _ (.cons _ (.cons _ (.cons _ (.cons _ (.cons _ (.cons _ (.swap _ _ _)))))))))))))
  replace hS := hS.perm (.cons _ (.cons _ (.cons _ (.cons _ (.cons _ (.cons _ (.cons _ (.cons _ (.cons _ (.cons _ (.cons _ (.swap _ _ _))))))))))))
  replace hS := hS.perm (.cons _ (.cons _ (.cons _ (.cons _ (.cons _ (.cons _ (.cons _ (.cons _ (.cons _ (.cons _ (.swap _ _ _)))))))))))
  replace hS := hS.perm (.cons _ (.cons _ (.cons _ (.cons _ (.cons _ (.cons _ (.cons _ (.cons _ (.cons _ (.swap _ _ _))))))))))
  replace hS := hS.perm (.cons _ (.cons _ (.cons _ (.cons _ (.cons _ (.cons _ (.cons _ (.cons _ (.swap _ _ _)))))))))
  replace hS := hS.perm (.cons _ (.cons _ (.cons _ (.cons _ (.cons _ (.cons _ (.cons _ (.swap _ _ _))))))))
  replace hS := hS.perm (.cons _ (.cons _ (.cons _ (.cons _ (.cons _ (.cons _ (.swap _ _ _)))))))
  replace hS := hS.perm (.cons _ (.cons _ (.cons _ (.cons _ (.cons _ (.swap _ _ _))))))
  replace hS := hS.perm (.cons _ (.cons _ (.cons _ (.cons _ (.swap _ _ _)))))
  replace hS := hS.perm (.cons _ (.cons _ (.cons _ (.cons _ (.cons _ (.cons _ (.cons _ (.cons _ (.cons _ (.cons _ (.cons _ (.cons _ (.cons _ (.cons _ (.cons _ (.cons _ (.cons _ (.swap _ _ _))))))))))))))))))
  replace hS := hS.perm (.cons _ (.cons _ (.cons _ (.cons _ (.cons _ (.cons _ (.cons _ (.cons _ (.cons _ (.cons _ (.cons _ (.cons _ (.cons _ (.cons _ (.cons _ (.cons _ (.swap _ _ _)))))))))))))))))
  replace hS := hS.perm (.cons _ (.cons _ (.cons _ (.cons _ (.cons _ (.cons _ (.cons _ (.cons _ (.cons _ (.cons _ (.cons _ (.cons _ (.cons _ (.cons _ (.cons _ (.swap _ _ _))))))))))))))))
  replace hS := hS.perm (.cons _ (.cons _ (.cons _ (.cons _ (.cons _ (.cons _ (.cons _ (.cons _ (.cons _ (.cons _ (.cons _ (.cons _ (.cons _ (.cons _ (.swap _ _ _)))))))))))))))
  replace hS := hS.perm (.cons _ (.cons _ (.cons _ (.cons _ (.cons _ (.cons _ (.cons _ (.cons _ (.cons _ (.cons _ (.cons _ (.cons _ (.cons _ (.swap _ _ _))))))))))))))
  replace hS := hS.perm (.cons _ (.cons _ (.cons _ (.cons _ (.cons _ (.cons _ (.cons _ (.cons _ (.cons _ (.cons _ (.cons _ (.cons _ (.swap _ _ _)))))))))))))
  replace hS := hS.perm (.cons _ (.cons _ (.cons _ (.cons _ (.cons _ (.cons _ (.cons _ (.cons _ (.cons _ (.cons _ (.cons _ (.swap _ _ _))))))))))))
  replace hS := hS.perm (.cons _ (.cons _ (.cons _ (.cons _ (.cons _ (.cons _ (.cons _ (.cons _ (.cons _ (.cons _ (.swap _ _ _)))))))))))
  replace hS := hS.perm (.cons _ (.cons _ (.cons _ (.cons _ (.cons _ (.cons _ (.cons _ (.cons _ (.cons _ (.swap _ _ _))))))))))
  replace hS := hS.perm (.cons _ (.cons _ (.cons _ (.cons _ (.cons _ (.cons _ (.cons _ (.cons _ (.swap _ _ _)))))))))
  replace hS := hS.perm (.cons _ (.cons _ (.cons _ (.cons _ (.cons _ (.cons _ (.cons _ (.swap _ _ _))))))))
  replace hS := hS.perm (.cons _ (.cons _ (.cons _ (.cons _ (.cons _ (.cons _ (.swap _ _ _)))))))
  replace hS := hS.perm (.cons _ (.cons _ (.cons _ (.cons _ (.cons _ (.swap _ _ _))))))
  replace hS : St _ (_) (_ :: _ :: _ :: _ :: _ :: _ :: _ :: _ :: _ :: _ :: _ :: _ :: _ :: _ :: _ :: _ :: _ :: _ :: _ :: _) _ := hS
  refine stepW_efg _ rfl (wanted_go 58 rfl rfl) rfl hF hS rfl (ef_callx fn59 rfl (List.Perm.refl _) (by exact (hroom2_ct _ bd v _ S un ubd ut hVf hO _ _ ))) ?_
  clear hF hS; rintro _ _ _ a w ⟨_, _, rfl, rfl, ⟨rfl, rfl, rfl⟩⟩ hF hS
  replace hS : St _ (_) (_ :: _ :: _ :: _ :: _ :: _ :: _ :: _ :: _ :: _ :: _ :: _ :: _ :: _ :: _ :: _ :: _ :: _ :: _ :: _) _ := hS
  refine ⟨⟨iQ, iQ, iQ, iQ, .inr (hS.keep sQ (sQ.n.n.n.n.n.n.n.n.n.n.n.n.n.n.n.n.n.n.n)), .inr (hS.keep sQ (sQ.n.n.n.n.n.n.n.n.n.n.n.n.n.n.n.n.n.n.k)), .inr (hS.keep sQ (sQ.n.n.n.n.n.n.n.n.n.n.n.n.n.n.n.n.n.n.n)), .inr (hS.keep sQ (sQ.n.n.n.n.n.n.n.n.n.n.n.n.n.n.n.n.n.n.n)), .inr (hS.keep sQ (sQ.n.n.n.n.n.n.n.n.n.n.n.n.n.n.n.n.n.n.n)), iQ, iQ, iQ, iQ, iQ, .inr (hS.keep sQ (sQ.n.n.n.n.n.n.n.n.n.n.n.n.n.n.n.n.n.n.n)), .inr (hS.keep sQ (sQ.n.n.n.n.n.n.n.n.n.n.n.n.n.n.n.n.n.n.n)), iQ, iQ, iQ, iQ, iQ, iQ, iQ, iQ, iQ, .inr (hS.keep sQ (sQ.n.n.n.n.n.n.n.n.n.n.n.n.n.n.n.n.n.n.n)), .inr (hS.keep sQ (sQ.n.n.n.n.n.n.n.n.n.n.n.n.n.n.n.n.n.n.n)), iQ, iQ, iQ, iQ, .inr (hS.keep sQ (sQ.n.n.n.n.n.n.n.n.n.n.n.n.n.n.n.n.n.n.n)), .inr (hS.keep sQ (sQ.n.n.n.n.n.n.n.n.n.n.n.n.n.n.n.n.n.n.n)), iQ, trivial⟩, ?_⟩
  refine goW_takeg 46 _ rfl (wanted_go 58 rfl rfl) kQ rfl hF (hS.keep sQ (sQ.n.n.n.n.n.n.n.n.n.n.n.n.n.n.n.n.n.n.n)) (q_dt (q_eqi rfl rfl) (by simp)) ?_
  clear hF; intro a hF
  refine goW_take 47 _ rfl kQ rfl hF (hS.keep sQ (sQ.n.n.n.n.n.n.n.n.n.n.n.n.n.n.n.n.n.n.n)) (q_pick_t rfl rfl) ?_
  clear hF; intro a hF
  refine goW_take 48 _ rfl kQ rfl hF (hS.keep sQ (sQ.n.n.n.n.n.n.n.n.n.n.n.n.n.n.n.n.n.n.n)) (q_assign rfl) ?_
  clear hF; intro a hF
  replace hS := hS.perm (.cons _ (.cons _ (.cons _ (.cons _ (.cons _ (.swap _ _ _))))))
  replace hS := hS.perm (.cons _ (.cons _ (.cons _ (.cons _ (.swap _ _ _)))))
  replace hS := hS.perm (.cons _ (.cons _ (.cons _ (.swap _ _ _))))
  replace hS := hS.perm (.cons _ (.cons _ (.swap _ _ _)))
  replace hS := hS.perm (.cons _ (.swap _ _ _))
  replace hS := hS.perm (.swap _ _ _)
  replace hS := hS.perm (.cons _ (.cons _ (.cons _ (.cons _ (.cons _ (.cons _ (.swap _ _ _)))))))
  replace hS := hS.perm (.cons _ (.cons _ (.cons _ (.cons _ (.cons _ (.swap _ _ _))))))
  replace hS := hS.perm (.cons _ (.cons _ (.cons _ (.cons _ (.swap _ _ _)))))
  replace hS := hS.perm (.cons _ (.cons _ (.cons _ (.swap _ _ _))))
  replace hS := hS.perm (.cons _ (.cons _ (.swap _ _ _)))
  replace hS := hS.perm (.cons _ (.swap _ _ _))
  replace hS := hS.perm (.cons _ (.cons _ (.cons _ (.cons _ (.cons _ (.cons _ (.cons _ (.swap _ _ _))))))))
  replace hS := hS.perm (.cons _ (.cons _ (.cons _ (.cons _ (.cons _ (.cons _ (.swap _ _ _)))))))
  replace hS := hS.perm (.cons _ (.cons _ (.cons _ (.cons _ (.cons _ (.swap _ _ _))))))
  replace hS := hS.perm (.cons _ (.cons _ (.cons _ (.cons _ (.swap _ _ _)))))
  replace hS := hS.perm (.cons _ (.cons _ (.cons _ (.swap _ _ _))))
  replace hS := hS.perm (.cons _ (.cons _ (.swap _ _ _)))
  replace hS := hS.perm (.cons _ (.cons _ (.cons _ (.cons _ (.cons _ (.cons _ (.cons _ (.cons _ (.swap _ _ _)))))))))
  replace hS := hS.perm (.cons _ (.cons _ (.cons _ (.cons _ (.cons _ (.cons _ (.cons _ (.swap _ _ _))))))))
  replace hS := hS.perm (.cons _ (.cons _ (.cons _ (.cons _ (.cons _ (.cons _ (.swap _ _ _)))))))
  replace hS := hS.perm (.cons _ (.cons _ (.cons _ (.cons _ (.cons _ (.swap _ _ _))))))
  replace hS := hS.perm (.cons _ (.cons _ (.cons _ (.cons _ (.swap _ _ _)))))
  replace hS := hS.perm (.cons _ (.cons _ (.cons _ (.swap _ _ _))))
  replace hS := hS.perm (.cons _ (.cons _ (.cons _ (.cons _ (.cons _ (.cons _ (.cons _ (.cons _ (.cons _ (.swap _ _ _))))))))))
  replace hS := hS.perm (.cons _ (.cons _ (.cons _ (.cons _ (.cons _ (.cons _ (.cons _ (.cons _ (.swap _ _ _)))))))))
  replace hS := hS.perm (.cons _ (.cons _ (.cons _ (.cons _ (.cons _ (.cons _ (.cons _ (.swap _ _ _))))))))
  replace hS := hS.perm (.cons _ (.cons _ (.cons _ (.cons _ (.cons _ (.cons _ (.swap _ _ _)))))))
  replace hS := hS.perm (.cons _ (.cons _ (.cons _ (.cons _ (.cons _ (.swap _ _ _))))))
  replace hS := hS.perm (.cons _ (.cons _ (.cons _ (.cons _ (.swap _ _ _)))))
  replace hS := hS.perm (.cons _ (.cons _ (.cons _ (.cons _ (.cons _ (.cons _ (.cons _ (.cons _ (.cons _ (.cons _ (.swap _ _ _)))))))))))
  replace hS := hS.perm (.cons _ (.cons _ (.cons _ (.cons _ (.cons _ (.cons _ (.cons _ (.cons _ (.cons _ (.swap _ _ _))))))))))
  replace hS := hS.perm (.cons _ (.cons _ (.cons _ (.cons _ (.cons _ (.cons _ (.cons _ (.cons _ (.swap _ _ _)))))))))
  replace hS := hS.perm (.cons _ (.cons _ (.cons _ (.cons _ (.cons _ (.cons _ (.cons _ (.swap _ _ _))))))))
  replace hS := hS.perm (.cons _ (.cons _ (.cons _ (.cons _ (.cons _ (.cons _ (.swap _ _ _)))))))
  replace hS := hS.perm (.cons _ (.cons _ (.cons _ (.cons _ (.cons _ (.swap _ _ _))))))
  replace hS := hS.perm (.cons _ (.cons _ (.cons _ (.cons _ (.cons _ (.cons _ (.cons _ (.cons _ (.cons _ (.cons _ (.cons _ (.swap _ _ _))))))))))))
  replace hS := hS.perm (.cons _ (.cons _ (.cons _ (.cons _ (.cons _ (.cons _ (.cons _ (.cons _ (.cons _ (.cons _ (.swap _ _ _)))))))))))
  replace hS := hS.perm (.cons _ (.cons _ (.cons _ (.cons _ (.cons _ (.cons _ (.cons _ (.cons _ (.cons _ (.swap _ _ _))))))))))
  replace hS := hS.perm (.cons _ (.cons _ (.cons _ (.cons _ (.cons _ (.cons _ (.cons _ (.cons _ (.swap _ _ _)))))))))
  replace hS := hS.perm (.cons _ (.cons _ (.cons _ (.cons _ (.cons _ (.cons _ (.cons _ (.swap _ _ _))))))))
  replace hS := hS.perm (.cons _ (.cons _ (.cons _ (.cons _ (.cons _ (.cons _ (.swap _ _ _)))))))
  replace hS := hS.perm (.cons _ (.cons _ (.cons _ (.cons _ (.cons _ (.cons _ (.cons _ (.cons _ (.cons _ (.cons _ (.cons _ (.cons _ (.swap _ _ _)))))))))))))
  replace hS := hS.perm (.cons _ (.cons _ (.cons _ (.cons _ (.cons _ (.cons _ (.cons _ (.cons _ (.cons _ (.cons _ (.cons _ (.swap _ _ _))))))))))))
  replace hS := hS.perm (.cons _ (.cons _ (.cons _ (.cons _ (.cons _ (.cons _ (.cons _ (.cons _ (.cons _ (.cons _ (.swap _ _ _)))))))))))
  replace hS := hS.perm (.cons _ (.cons _ (.cons _ (.cons _ (.cons _ (.cons _ (.cons _ (.cons _ (.cons _ (.swap _ _ _))))))))))
  replace hS := hS.perm (.cons _ (.cons _ (.cons _ (.cons _ (.cons _ (.cons _ (.cons _ (.cons _ (.swap _ _ _)))))))))
  replace hS := hS.perm (.cons _ (.cons _ (.cons _ (.cons _ (.cons _ (.cons _ (.cons _ (.swap _ _ _))))))))
  replace hS := hS.keep sQ (sQ.n.n.n.n.n.k.k.k.k.k.k.k.k.k.k.k.k.k.k)
  exact goW_done kQ (j8_mk qa_3_43 qb_3_43 qc_3_43 qd_3_43 ua_3_43 ub_3_43 uc_3_43 ud_3_43 ((And.intro hJ_3_43 (And.intro hD_3_43 trivial))) (hF.sub (L' := [(4, _)]) ⟨rfl, trivial⟩) hS)
 rintro a w ⟨qa_3_43, qb_3_43, qc_3_43, qd_3_43, ua_3_43, ub_3_43, uc_3_43, ud_3_43, ⟨hJ_3_43, hD_3_43, -⟩, hF, hS⟩
 (try dsimp only at hF); (try dsimp only at hS)
 refine hK4 _ _ ?_
 clear hK4
 refine wp_ret ?_
 exact fn_retx (rs := [.tmp 4]) rfl hF hS (vs := [_]) ⟨rfl, trivial⟩ [] [_, _, _, _, _, _, _, _, _, _, _, _, _, _] sQ sQ ⟨rfl, rfl, _, _, _, _, _, _, _, _, _, _, _, _, rfl, hJ_3_43, hD_3_43, ⟨un, ubd, ut, hVf, rfl, rfl, rfl, rfl⟩⟩

set_option maxRecDepth 4000 in
set_option maxHeartbeats 2000000 in
theorem sanity40_ct (w : World) {fz0 : Nat × Nat} {bt0 : TypeId} (hg0 : w.heap[2]? = some (.cells (Sha.kc.map vw).toArray bt0 fz0)) : Ct Tryz.prog 7 [] w (fun r _ _ => r = .bool true) := by
 refine fn_enter Tryz.func7 rfl Tryz.ntmps7 (Nat.le_of_ble_eq_true rfl) fun a hF hS => ?_
 refine wp_seq_k ?_; intro K1 hK1
 refine reg hF hS (sq rfl (q_assign rfl) <|
   sq_end) ?_
 clear hF hS; intro a w hF hS
 refine hK1 _ _ ?_
 clear hK1
 refine wp_seq_k ?_; intro K2 hK2
 refine regl ?_
 refine wpl_ef hF hS rfl (ef_call fn8 rfl (fun w hS => dnew_ct 4 (by decide) w )) ?_
 clear hF hS; rintro _ _ _ a w ⟨_, _, rfl, rfl, ⟨rfl, hh2, qa3, qb4, qc5, qd6, rfl, rfl, hD7⟩⟩ hF hS
 replace hS : St _ [] [_, _, _, _] _ := hS
 refine wpl_sq hF hS (sq rfl (q_move rfl) <|
   sq rfl (q_extract rfl rfl) <|
   sq rfl (q_extract rfl rfl) <|
   sq rfl (q_assign rfl) <|
   sq rfl (q_assign rfl) <|
   sq_end) ?_
 clear hF hS; intro a w hF hS
 refine wpList_nil ?_
 refine hK2 _ _ ?_
 clear hK2
 refine wp_seq_k ?_; intro K3 hK3
 refine wp_seq_k ?_; intro K4 hK4
 refine reg hF hS (sq rfl (q_move rfl) <|
   sq rfl (q_nf (q_nei rfl rfl) (by decide)) <|
   sq rfl (q_move rfl) <|
   sq_go 30 rfl rfl rfl (q_move rfl) <|
   sq_go 30 rfl rfl rfl (q_eqpn_f ty24 rfl rfl) <|
   sq rfl (q_pick_f rfl rfl) <|
   sq_end) ?_
 clear hF hS; intro a w hF hS
 refine hK4 _ _ ?_
 clear hK4
 refine wp_if hF rfl (fun h => absurd h (by simp)) (fun _ => ?_)
 refine wp_skip ?_
 refine hK3 _ _ ?_
 clear hK3
 refine wp_seq_k ?_; intro K5 hK5
 refine regl ?_
 refine wpl_sq hF hS (sq rfl (q_move rfl) <|
   sq_end) ?_
 clear hF hS; intro a w hF hS
 refine wpl_ef hF hS rfl (ef_callx fn12 rfl (List.Perm.refl _) (by exact (open_ct _ Jn.xq0 (by rfl) _ _ hg0 hD7))) ?_
 clear hF hS; rintro _ _ _ a w ⟨_, _, rfl, rfl, ⟨rfl, jb13, qa14, qb15, qc16, qd17, ua18, ub19, uc20, ud21, rfl, rfl, hJ22, hD23⟩⟩ hF hS
 replace hS : St _ [] [_, _, _, _, _, _, _, _] _ := hS
 refine wpl_sq hF hS (sq rfl (q_move rfl) <|
   sq rfl (q_extract rfl rfl) <|
   sq rfl (q_extract rfl rfl) <|
   sq rfl (q_assign rfl) <|
   sq rfl (q_assign rfl) <|
   sq_end) ?_
 clear hF hS; intro a w hF hS
 refine wpList_nil ?_
 rw [Jn.o0] at hJ22; (try dsimp only at hJ22)
 refine hK5 _ _ ?_
 clear hK5
 refine wp_seq_k ?_; intro K6 hK6
 refine wp_seq_k ?_; intro K7 hK7
 refine regl ?_
 refine wpl_sq hF hS (sq rfl (q_move rfl) <|
   sq rfl (q_nf (q_nei rfl rfl) (by decide)) <|
   sq rfl (q_move rfl) <|
   sq_go 41 rfl rfl rfl (q_move rfl) <|
   sq_go 41 rfl rfl rfl (q_eqpn_f ty32 rfl rfl) <|
   sq rfl (q_pick_f rfl rfl) <|
   sq rfl (q_move rfl) <|
   sq_go 45 rfl rfl rfl (q_move rfl) <|
   sq_end) ?_
 clear hF hS; intro a w hF hS
 refine wpl_efg hF hS (wanted_go 45 rfl rfl) rfl (ef_callx fn37 rfl (List.Perm.refl _) (by exact (jnext_ct _ _ _ _ _  hJ22))) ?_
 clear hF hS; rintro _ _ _ a w ⟨_, _, rfl, rfl, ⟨rfl, rfl, qa29, qb30, qc31, qd32, rfl, hJ33⟩⟩ hF hS
 replace hS : St _ [] [_, _, _, _, _, _, _, _] _ := hS
 refine wpl_sq hF hS (sq_go 45 rfl rfl rfl (q_nf (q_nei rfl rfl) (by decide)) <|
   sq rfl (q_pick_f rfl rfl) <|
   sq rfl (q_move rfl) <|
   sq_go 50 rfl rfl rfl (q_move rfl) <|
   sq_end) ?_
 clear hF hS; intro a w hF hS
 refine wpl_efg hF hS (wanted_go 50 rfl rfl) rfl (ef_callx fn38 rfl (List.Perm.refl _) (by exact (jroom_ct _ _ _ _ _ _  hJ33 hD23))) ?_
 clear hF hS; rintro _ _ _ a w ⟨_, _, rfl, rfl, ⟨rfl, rfl, qa35, qb36, qc37, qd38, ua39, ub40, uc41, ud42, rfl, hJ43, hD44⟩⟩ hF hS
 replace hS : St _ [] [_, _, _, _, _, _, _, _] _ := hS
 refine wpl_sq hF hS (sq_go 50 rfl rfl rfl (q_nf (q_nei rfl rfl) (by decide)) <|
   sq rfl (q_pick_f rfl rfl) <|
   sq_end) ?_
 clear hF hS; intro a w hF hS
 refine wpList_nil ?_
 refine hK7 _ _ ?_
 clear hK7
 refine wp_if hF rfl (fun h => absurd h (by simp)) (fun _ => ?_)
 refine wp_skip ?_
 refine hK6 _ _ ?_
 clear hK6
 refine wp_seq_k ?_; intro K8 hK8
 refine regl ?_
 refine wpl_sq hF hS (sq rfl (q_move rfl) <|
   sq_end) ?_
 clear hF hS; intro a w hF hS
 refine wpl_ef hF hS rfl (ef_callx fn26 rfl (List.Perm.refl _) (by exact (jappend_ct _ _ Jn.xJ0 Jn.xq0 [97] _ _ hg0 hJ43 hD44))) ?_
 clear hF hS; rintro _ _ _ a w ⟨_, _, rfl, rfl, ⟨rfl, rfl, qa46, qb47, qc48, qd49, ua50, ub51, uc52, ud53, rfl, hJ54, hD55⟩⟩ hF hS
 replace hS : St _ [] [_, _, _, _, _, _, _, _] _ := hS
 refine wpl_sq hF hS (sq rfl (q_move rfl) <|
   sq rfl (q_extract rfl rfl) <|
   sq rfl (q_extract rfl rfl) <|
   sq rfl (q_assign rfl) <|
   sq rfl (q_assign rfl) <|
   sq_end) ?_
 clear hF hS; intro a w hF hS
 refine wpList_nil ?_
 rw [Jn.a1] at hJ54; (try dsimp only at hJ54)
 rw [Jn.a1] at hD55; (try dsimp only at hD55)
 rw [Jn.a1] at hF; (try dsimp only at hF)
 refine hK8 _ _ ?_
 clear hK8
 refine wp_seq_k ?_; intro K9 hK9
 refine regl ?_
 refine wpl_sq hF hS (sq rfl (q_move rfl) <|
   sq rfl (q_call fn39 rfl (fun w hS => repeat50_ct w ) (fun _ _ _ h => h)) <|
   sq_end) ?_
 clear hF hS; intro a w hF hS
 refine wpl_ef hF hS rfl (ef_callx fn26 rfl (List.Perm.refl _) (by exact (jappend_ct _ _ Jn.xJ1 Jn.xq1 Jn.x50 _ _ hg0 hJ54 hD55))) ?_
 clear hF hS; rintro _ _ _ a w ⟨_, _, rfl, rfl, ⟨rfl, rfl, qa57, qb58, qc59, qd60, ua61, ub62, uc63, ud64, rfl, hJ65, hD66⟩⟩ hF hS
 replace hS : St _ [] [_, _, _, _, _, _, _, _] _ := hS
 refine wpl_sq hF hS (sq rfl (q_move rfl) <|
   sq rfl (q_extract rfl rfl) <|
   sq rfl (q_extract rfl rfl) <|
   sq rfl (q_assign rfl) <|
   sq rfl (q_assign rfl) <|
   sq_end) ?_
 clear hF hS; intro a w hF hS
 refine wpList_nil ?_
 rw [Jn.a2] at hJ65; (try dsimp only at hJ65)
 rw [Jn.a2] at hD66; (try dsimp only at hD66)
 rw [Jn.a2] at hF; (try dsimp only at hF)
 refine hK9 _ _ ?_
 clear hK9
 refine wp_seq_k ?_; intro K10 hK10
 refine regl ?_
 refine wpl_sq hF hS (sq rfl (q_move rfl) <|
   sq_end) ?_
 clear hF hS; intro a w hF hS
 refine wpl_ef hF hS rfl (ef_callx fn38 rfl (List.Perm.refl _) (by exact (jroom_ct _ _ _ _ _ _  hJ65 hD66))) ?_
 clear hF hS; rintro _ _ _ a w ⟨_, _, rfl, rfl, ⟨rfl, rfl, qa68, qb69, qc70, qd71, ua72, ub73, uc74, ud75, rfl, hJ76, hD77⟩⟩ hF hS
 replace hS : St _ [] [_, _, _, _, _, _, _, _] _ := hS
 refine wpl_sq hF hS (sq rfl (q_assign rfl) <|
   sq_end) ?_
 clear hF hS; intro a w hF hS
 refine wpList_nil ?_
 refine hK10 _ _ ?_
 clear hK10
 refine wp_seq_k ?_; intro K11 hK11
 refine regl ?_
 refine wpl_sq hF hS (sq rfl (q_move rfl) <|
   sq_end) ?_
 clear hF hS; intro a w hF hS
 replace hS := hS.perm (.cons _ (.cons _ (.cons _ (.swap _ _ _))))
 replace hS := hS.perm (.cons _ (.cons _ (.swap _ _ _)))
 replace hS := hS.perm (.cons _ (.swap _ _ _))
 replace hS := hS.perm (.swap _ _ _)
 replace hS := hS.perm (.cons _ (.cons _ (.cons _ (.cons _ (.swap _ _ _)))))
 replace hS := hS.perm (.cons _ (.cons _ (.cons _ (.swap _ _ _))))
 replace hS := hS.perm (.cons _ (.cons _ (.swap _ _ _)))
 replace hS := hS.perm (.cons _ (.swap _ _ _))
 replace hS := hS.perm (.cons _ (.cons _ (.cons _ (.cons _ (.cons _ (.swap _ _ _))))))
 replace hS := hS.perm (.cons _ (.cons _ (.cons _ (.cons _ (.swap _ _ _)))))
 replace hS := hS.perm (.cons _ (.cons _ (.cons _ (.swap _ _ _))))
 replace hS := hS.perm (.cons _ (.cons _ (.swap _ _ _)))
 replace hS := hS.perm (.cons _ (.cons _ (.cons _ (.cons _ (.cons _ (.cons _ (.swap _ _ _)))))))
 replace hS := hS.perm (.cons _ (.cons _ (.cons _ (.cons _ (.cons _ (.swap _ _ _))))))
 replace hS := hS.perm (.cons _ (.cons _ (.cons _ (.cons _ (.swap _ _ _)))))
 replace hS := hS.perm (.cons _ (.cons _ (.cons _ (.swap _ _ _))))
 replace hS : St _ [] [_, _, _, _, _, _, _, _] _ := hS
 refine wpl_ef hF hS rfl (ef_callx fn17 rfl (List.Perm.refl _) (by exact (drot_ct _ _ _ _ (by omega) (by omega) _ _  hD77))) ?_
 clear hF hS; rintro _ _ _ a w ⟨_, _, rfl, rfl, ⟨rfl, rfl, qa79, qb80, qc81, qd82, rfl, hD83⟩⟩ hF hS
 replace hS : St _ [] [_, _, _, _, _, _, _, _] _ := hS
 refine wpl_sq hF hS (sq rfl (q_assign rfl) <|
   sq_end) ?_
 clear hF hS; intro a w hF hS
 refine wpList_nil ?_
 rw [Jn.rot3] at hD83; (try dsimp only at hD83)
 rw [Jn.rot3] at hF; (try dsimp only at hF)
 refine hK11 _ _ ?_
 clear hK11
 refine wp_seq_k ?_; intro K12 hK12
 refine regl ?_
 refine wpl_sq hF hS (sq rfl (q_move rfl) <|
   sq_end) ?_
 clear hF hS; intro a w hF hS
 refine wpl_ef hF hS rfl (ef_callx fn12 rfl (List.Perm.refl _) (by exact (open_ct _ Jn.xq3 (by rfl) _ _ hg0 hD83))) ?_
 clear hF hS; rintro _ _ _ a w ⟨_, _, rfl, rfl, ⟨rfl, jb85, qa86, qb87, qc88, qd89, ua90, ub91, uc92, ud93, rfl, rfl, hJ94, hD95⟩⟩ hF hS
 replace hS : St _ [] [_, _, _, _, _, _, _, _, _, _, _, _] _ := hS
 refine wpl_sq hF hS (sq rfl (q_move rfl) <|
   sq rfl (q_extract rfl rfl) <|
   sq rfl (q_extract rfl rfl) <|
   sq rfl (q_assign rfl) <|
   sq rfl (q_assign rfl) <|
   sq_end) ?_
 clear hF hS; intro a w hF hS
 refine wpList_nil ?_
 rw [Jn.o3] at hJ94; (try dsimp only at hJ94)
 refine hK12 _ _ ?_
 clear hK12
 refine wp_seq_k ?_; intro K13 hK13
 refine wp_seq_k ?_; intro K14 hK14
 refine reg hF hS (sq rfl (q_move rfl) <|
   sq rfl (q_nf (q_nei rfl rfl) (by decide)) <|
   sq rfl (q_move rfl) <|
   sq_go 77 rfl rfl rfl (q_move rfl) <|
   sq_go 77 rfl rfl rfl (q_nf (q_nei rfl rfl) (by decide)) <|
   sq rfl (q_pick_f rfl rfl) <|
   sq rfl (q_move rfl) <|
   sq_go 81 rfl rfl rfl (q_move rfl) <|
   sq_go 81 rfl rfl rfl (q_nf (q_nei rfl rfl) (by decide)) <|
   sq rfl (q_pick_f rfl rfl) <|
   sq rfl (q_move rfl) <|
   sq_go 85 rfl rfl rfl (q_move rfl) <|
   sq_go 85 rfl rfl rfl (q_nf (q_nei rfl rfl) (by decide)) <|
   sq rfl (q_pick_f rfl rfl) <|
   sq rfl (q_move rfl) <|
   sq_go 89 rfl rfl rfl (q_move rfl) <|
   sq_go 89 rfl rfl rfl (q_nf (q_nei rfl rfl) (by decide)) <|
   sq rfl (q_pick_f rfl rfl) <|
   sq rfl (q_move rfl) <|
   sq_go 93 rfl rfl rfl (q_move rfl) <|
   sq_go 93 rfl rfl rfl (q_nf (q_nei rfl rfl) (by decide)) <|
   sq rfl (q_pick_f rfl rfl) <|
   sq rfl (q_move rfl) <|
   sq_go 97 rfl rfl rfl (q_move rfl) <|
   sq_go 97 rfl rfl rfl (q_nf (q_nei rfl rfl) (by decide)) <|
   sq rfl (q_pick_f rfl rfl) <|
   sq rfl (q_move rfl) <|
   sq_go 101 rfl rfl rfl (q_move rfl) <|
   sq_go 101 rfl rfl rfl (q_eqpn_f ty32 rfl rfl) <|
   sq rfl (q_pick_f rfl rfl) <|
   sq_end) ?_
 clear hF hS; intro a w hF hS
 refine hK14 _ _ ?_
 clear hK14
 refine wp_if hF rfl (fun h => absurd h (by simp)) (fun _ => ?_)
 refine wp_skip ?_
 refine hK13 _ _ ?_
 clear hK13
 refine wp_seq_k ?_; intro K15 hK15
 refine regl ?_
 refine wpl_sq hF hS (sq rfl (q_move rfl) <|
   sq_end) ?_
 clear hF hS; intro a w hF hS
 refine wpl_ef hF hS rfl (ef_callx fn26 rfl (List.Perm.refl _) (by exact (jappend_ct _ _ Jn.xK0 Jn.xq3 [98] _ _ hg0 hJ94 hD95))) ?_
 clear hF hS; rintro _ _ _ a w ⟨_, _, rfl, rfl, ⟨rfl, rfl, qa101, qb102, qc103, qd104, ua105, ub106, uc107, ud108, rfl, hJ109, hD110⟩⟩ hF hS
 replace hS : St _ [] [_, _, _, _, _, _, _, _, _, _, _, _] _ := hS
 refine wpl_sq hF hS (sq rfl (q_move rfl) <|
   sq rfl (q_extract rfl rfl) <|
   sq rfl (q_extract rfl rfl) <|
   sq rfl (q_assign rfl) <|
   sq rfl (q_assign rfl) <|
   sq_end) ?_
 clear hF hS; intro a w hF hS
 refine wpList_nil ?_
 rw [Jn.a3] at hJ109; (try dsimp only at hJ109)
 rw [Jn.a3] at hD110; (try dsimp only at hD110)
 rw [Jn.a3] at hF; (try dsimp only at hF)
 refine hK15 _ _ ?_
 clear hK15
 refine wp_seq_k ?_; intro K16 hK16
 refine regl ?_
 refine wpl_sq hF hS (sq rfl (q_move rfl) <|
   sq_end) ?_
 clear hF hS; intro a w hF hS
 refine wpl_ef hF hS rfl (ef_callx fn26 rfl (List.Perm.refl _) (by exact (jappend_ct _ _ Jn.xK1 Jn.xq4 [99] _ _ hg0 hJ109 hD110))) ?_
 clear hF hS; rintro _ _ _ a w ⟨_, _, rfl, rfl, ⟨rfl, rfl, qa112, qb113, qc114, qd115, ua116, ub117, uc118, ud119, rfl, hJ120, hD121⟩⟩ hF hS
 replace hS : St _ [] [_, _, _, _, _, _, _, _, _, _, _, _] _ := hS
 refine wpl_sq hF hS (sq rfl (q_move rfl) <|
   sq rfl (q_extract rfl rfl) <|
   sq rfl (q_extract rfl rfl) <|
   sq rfl (q_assign rfl) <|
   sq rfl (q_assign rfl) <|
   sq_end) ?_
 clear hF hS; intro a w hF hS
 refine wpList_nil ?_
 rw [Jn.a4] at hJ120; (try dsimp only at hJ120)
 rw [Jn.a4] at hD121; (try dsimp only at hD121)
 rw [Jn.a4] at hF; (try dsimp only at hF)
 refine hK16 _ _ ?_
 clear hK16
 refine wp_seq_k ?_; intro K17 hK17
 refine regl ?_
 refine wpl_ef hF hS rfl (ef_call fn40 rfl (fun w hS => pack_ct 1 [97] (by first | assumption | omega) w (hS.ext _ _ hg0))) ?_
 clear hF hS; rintro _ _ _ a w ⟨_, _, rfl, rfl, ⟨v123, rfl, rfl, rfl⟩⟩ hF hS
 replace hS : St _ [] [_, _, _, _, _, _, _, _, _, _, _, _, _] _ := hS
 refine wpl_sq hF hS (sq rfl (q_move rfl) <|
   sq rfl (q_extract rfl rfl) <|
   sq rfl (q_extract rfl rfl) <|
   sq rfl (q_assign rfl) <|
   sq rfl (q_assign rfl) <|
   sq_end) ?_
 clear hF hS; intro a w hF hS
 refine wpList_nil ?_
 rw [Jn.pk1] at hS hF
 dsimp only at hS hF
 rw [show [Jn.xA].length = 1 from rfl] at hS
 refine hK17 _ _ ?_
 clear hK17
 refine wp_seq_k ?_; intro K18 hK18
 refine wp_seq_k ?_; intro K19 hK19
 refine reg hF hS (sq rfl (q_move rfl) <|
   sq rfl (q_nf (q_nei rfl rfl) (by decide)) <|
   sq rfl (q_move rfl) <|
   sq_go 121 rfl rfl rfl (q_move rfl) <|
   sq_go 121 rfl rfl rfl (q_nf (q_nei rfl rfl) (by decide)) <|
   sq rfl (q_pick_f rfl rfl) <|
   sq rfl (q_move rfl) <|
   sq_go 125 rfl rfl rfl (q_move rfl) <|
   sq_go 125 rfl rfl rfl (q_nf (q_nei rfl rfl) (by decide)) <|
   sq rfl (q_pick_f rfl rfl) <|
   sq rfl (q_move rfl) <|
   sq_go 129 rfl rfl rfl (q_move rfl) <|
   sq_go 129 rfl rfl rfl (q_len_row ty22 0 rfl rfl) <|
   sq_go 129 rfl rfl rfl (q_nf (q_nei rfl rfl) (by decide)) <|
   sq rfl (q_pick_f rfl rfl) <|
   sq rfl (q_move rfl) <|
   sq_go 134 rfl rfl rfl (q_move rfl) <|
   sq_go 134 rfl rfl rfl (q_nf (q_nei rfl rfl) (by decide)) <|
   sq rfl (q_pick_f rfl rfl) <|
   sq_end) ?_
 clear hF hS; intro a w hF hS
 refine hK19 _ _ ?_
 clear hK19
 refine wp_if hF rfl (fun h => absurd h (by simp)) (fun _ => ?_)
 refine wp_skip ?_
 refine hK18 _ _ ?_
 clear hK18
 refine wp_seq_k ?_; intro K20 hK20
 refine reg hF hS (sq rfl (q_move rfl) <|
   sq rfl (q_idx_row ty22 ty9 0 rfl rfl rfl (by omega)) <|
   sq rfl (q_ld_rowM ty9 0 default rfl rfl bQ rfl) <|
   sq rfl (q_call fn41 rfl (fun w hS => unpackx_ct Jn.xA w (hS.ext _ _ hg0)) (fun _ _ _ h => h)) <|
   sq rfl (q_move rfl) <|
   sq rfl (q_extract rfl rfl) <|
   sq rfl (q_extract rfl rfl) <|
   sq rfl (q_extract rfl rfl) <|
   sq rfl (q_extract rfl rfl) <|
   sq rfl (q_extract rfl rfl) <|
   sq rfl (q_assign rfl) <|
   sq rfl (q_assign rfl) <|
   sq rfl (q_assign rfl) <|
   sq rfl (q_assign rfl) <|
   sq rfl (q_assign rfl) <|
   sq_end) ?_
 clear hF hS; intro a w hF hS
 rw [Jn.uA] at hF; (try dsimp only at hF)
 refine hK20 _ _ ?_
 clear hK20
 refine wp_seq_k ?_; intro K21 hK21
 refine regl ?_
 refine wpl_sq hF hS (sq rfl (q_move rfl) <|
   sq_end) ?_
 clear hF hS; intro a w hF hS
 replace hS := hS.perm (.swap _ _ _)
 replace hS := hS.perm (.cons _ (.swap _ _ _))
 replace hS := hS.perm (.cons _ (.cons _ (.swap _ _ _)))
 replace hS := hS.perm (.cons _ (.cons _ (.cons _ (.swap _ _ _))))
 replace hS : St _ [] [_, _, _, _, _, _, _, _, _, _, _, _, _] _ := hS
 refine wpl_ef hF hS rfl (ef_callx fn42 rfl (List.Perm.refl _) (by exact (jnumbers_ct _ _ _ _ _  hJ120))) ?_
 clear hF hS; rintro v125 _ _ a w ⟨_, _, rfl, rfl, ⟨rfl, qa126, qb127, qc128, qd129, rfl, hJ130⟩⟩ hF hS
 replace hS : St _ [] [_, _, _, _, _, _, _, _, _, _, _, _, _, _] _ := hS
 refine wpl_ef hF hS rfl (ef_bsliceA ty51 ty3 rfl rfl oQ (by decide) rfl rfl) ?_
 clear hF hS; rintro v132 _ _ a w ⟨rfl, rfl⟩ hF hS
 replace hS : St _ [] [_, _, _, _, _, _, _, _, _, _, _, _, _, _, _] _ := hS
 refine wpl_sq hF hS (sq rfl (q_dt (q_call fn23 rfl (fun w hS => samei_ct _ _ _ _ w (own_slV (f := vi) (xs := Jn.xK1.nums) (hS.own _ (List.mem_of_getElem? (i := 1) rfl)).1 (by decide) rfl (by first | decide | omega)) (own_slV (f := vi) (xs := [1, 3]) (hS.own _ (List.mem_of_getElem? (i := 0) rfl)).1 (by decide) rfl (by decide))) (fun _ _ _ h => h)) (by decide)) <|
   sq rfl (q_move rfl) <|
   sq_go 152 rfl rfl rfl (q_move rfl) <|
   sq_end) ?_
 clear hF hS; intro a w hF hS
 replace hS := hS.perm (.cons _ (.swap _ _ _))
 replace hS := hS.perm (.swap _ _ _)
 replace hS := hS.perm (.cons _ (.cons _ (.swap _ _ _)))
 replace hS := hS.perm (.cons _ (.swap _ _ _))
 replace hS := hS.perm (.cons _ (.cons _ (.cons _ (.swap _ _ _))))
 replace hS := hS.perm (.cons _ (.cons _ (.swap _ _ _)))
 replace hS := hS.perm (.cons _ (.cons _ (.cons _ (.cons _ (.swap _ _ _)))))
 replace hS := hS.perm (.cons _ (.cons _ (.cons _ (.swap _ _ _))))
 replace hS : St _ [] [_, _, _, _, _, _, _, _, _, _, _, _, _, _, _] _ := hS
 refine wpl_efg hF hS (wanted_go 152 rfl rfl) rfl (ef_callx fn21 rfl (List.Perm.refl _) (by exact (jtexts_ct _ _ _ _ _  hJ130))) ?_
 clear hF hS; rintro v134 _ _ a w ⟨_, _, rfl, rfl, ⟨rfl, qa135, qb136, qc137, qd138, rfl, hJ139⟩⟩ hF hS
 replace hS : St _ [] [_, _, _, _, _, _, _, _, _, _, _, _, _, _, _, _] _ := hS
 refine wpl_efg hF hS (wanted_go 152 rfl rfl) rfl (ef_bsliceA ty22 ty9 rfl rfl oQ (by decide) rfl rfl) ?_
 clear hF hS; rintro v141 _ _ a w ⟨rfl, rfl⟩ hF hS
 replace hS : St _ [] [_, _, _, _, _, _, _, _, _, _, _, _, _, _, _, _, _] _ := hS
 refine wpl_sq hF hS (sq_go 152 rfl rfl rfl (q_dt (q_call fn20 rfl (fun w hS => samet_ct _ _ _ _ w (own_slV (f := vs) (xs := Jn.xK1.tx) (hS.own _ (List.mem_of_getElem? (i := 1) rfl)).1 (by decide) rfl (by first | decide | omega)) (own_slV (f := vs) (xs := [[97], [98]]) (hS.own _ (List.mem_of_getElem? (i := 0) rfl)).1 (by decide) rfl (by decide))) (fun _ _ _ h => h)) (by decide)) <|
   sq rfl (q_pick_t rfl rfl) <|
   sq rfl (q_move rfl) <|
   sq_go 158 rfl rfl rfl (q_move rfl) <|
   sq_end) ?_
 clear hF hS; intro a w hF hS
 replace hS := hS.perm (.cons _ (.swap _ _ _))
 replace hS := hS.perm (.swap _ _ _)
 replace hS := hS.perm (.cons _ (.cons _ (.swap _ _ _)))
 replace hS := hS.perm (.cons _ (.swap _ _ _))
 replace hS := hS.perm (.cons _ (.cons _ (.cons _ (.swap _ _ _))))
 replace hS := hS.perm (.cons _ (.cons _ (.swap _ _ _)))
 replace hS := hS.perm (.cons _ (.cons _ (.cons _ (.cons _ (.swap _ _ _)))))
 replace hS := hS.perm (.cons _ (.cons _ (.cons _ (.swap _ _ _))))
 replace hS : St _ [] [_, _, _, _, _, _, _, _, _, _, _, _, _, _, _, _, _] _ := hS
 refine wpl_efg hF hS (wanted_go 158 rfl rfl) rfl (ef_callx fn24 rfl (List.Perm.refl _) (by exact (jdamaged_ct _ _ _ _ _  hJ139))) ?_
 clear hF hS; rintro v143 _ _ a w ⟨_, _, rfl, rfl, ⟨rfl, qa144, qb145, qc146, qd147, rfl, hJ148⟩⟩ hF hS
 replace hS : St _ [] [_, _, _, _, _, _, _, _, _, _, _, _, _, _, _, _, _, _] _ := hS
 refine wpl_efg hF hS (wanted_go 158 rfl rfl) rfl (ef_bsliceA ty51 ty3 rfl rfl oQ (by decide) rfl rfl) ?_
 clear hF hS; rintro v150 _ _ a w ⟨rfl, rfl⟩ hF hS
 replace hS : St _ [] [_, _, _, _, _, _, _, _, _, _, _, _, _, _, _, _, _, _, _] _ := hS
 refine wpl_sq hF hS (sq_go 158 rfl rfl rfl (q_dt (q_call fn23 rfl (fun w hS => samei_ct _ _ _ _ w (own_slV (f := vi) (xs := (Jn.damaged Jn.xK1)) (hS.own _ (List.mem_of_getElem? (i := 1) rfl)).1 (by rw [Jn.dm1]; decide) rfl (by first | decide | omega)) (own_slV (f := vi) (xs := [2]) (hS.own _ (List.mem_of_getElem? (i := 0) rfl)).1 (by decide) rfl (by decide))) (fun _ _ _ h => h)) (by rw [Jn.dm1])) <|
   sq rfl (q_pick_t rfl rfl) <|
   sq rfl (q_move rfl) <|
   sq_go 164 rfl rfl rfl (q_move rfl) <|
   sq_end) ?_
 clear hF hS; intro a w hF hS
 replace hS := hS.perm (.cons _ (.swap _ _ _))
 replace hS := hS.perm (.swap _ _ _)
 replace hS := hS.perm (.cons _ (.cons _ (.swap _ _ _)))
 replace hS := hS.perm (.cons _ (.swap _ _ _))
 replace hS := hS.perm (.cons _ (.cons _ (.cons _ (.swap _ _ _))))
 replace hS := hS.perm (.cons _ (.cons _ (.swap _ _ _)))
 replace hS := hS.perm (.cons _ (.cons _ (.cons _ (.cons _ (.swap _ _ _)))))
 replace hS := hS.perm (.cons _ (.cons _ (.cons _ (.swap _ _ _))))
 replace hS : St _ [] [_, _, _, _, _, _, _, _, _, _, _, _, _, _, _, _, _, _, _] _ := hS
 refine wpl_efg hF hS (wanted_go 164 rfl rfl) rfl (ef_callx fn22 rfl (List.Perm.refl _) (by exact (jbad_ct _ _ _ _ _  hJ148))) ?_
 clear hF hS; rintro v152 _ _ a w ⟨_, _, rfl, rfl, ⟨rfl, qa153, qb154, qc155, qd156, rfl, hJ157⟩⟩ hF hS
 replace hS : St _ [] [_, _, _, _, _, _, _, _, _, _, _, _, _, _, _, _, _, _, _, _] _ := hS
 refine wpl_efg hF hS (wanted_go 164 rfl rfl) rfl (ef_bsliceA ty51 ty3 rfl rfl oQ (by decide) rfl rfl) ?_
 clear hF hS; rintro v159 _ _ a w ⟨rfl, rfl⟩ hF hS
 replace hS : St _ [] [_, _, _, _, _, _, _, _, _, _, _, _, _, _, _, _, _, _, _, _, _] _ := hS
 refine wpl_sq hF hS (sq_go 164 rfl rfl rfl (q_dt (q_call fn23 rfl (fun w hS => samei_ct _ _ _ _ w (own_slV (f := vi) (xs := Jn.xK1.bad) (hS.own _ (List.mem_of_getElem? (i := 1) rfl)).1 (by decide) rfl (by first | decide | omega)) (own_slV (f := vi) (xs := [1]) (hS.own _ (List.mem_of_getElem? (i := 0) rfl)).1 (by decide) rfl (by decide))) (fun _ _ _ h => h)) (by decide)) <|
   sq rfl (q_pick_t rfl rfl) <|
   sq rfl (q_move rfl) <|
   sq_go 170 rfl rfl rfl (q_call fn16 rfl (fun w hS => count_ct 49 (by first | assumption | omega) w ) (fun _ _ _ h => h)) <|
   sq_go 170 rfl rfl rfl (q_dt (q_eqi rfl rfl) (Jn.c49)) <|
   sq rfl (q_pick_t rfl rfl) <|
   sq rfl (q_move rfl) <|
   sq_go 174 rfl rfl rfl (q_move rfl) <|
   sq_go 174 rfl rfl rfl (q_dt (q_eqi rfl rfl) (by decide)) <|
   sq rfl (q_pick_t rfl rfl) <|
   sq rfl (q_move rfl) <|
   sq_go 178 rfl rfl rfl (q_move rfl) <|
   sq_go 178 rfl rfl rfl (q_dt (q_eqi rfl rfl) (by decide)) <|
   sq rfl (q_pick_t rfl rfl) <|
   sq rfl (q_move rfl) <|
   sq_go 182 rfl rfl rfl (q_move rfl) <|
   sq_go 182 rfl rfl rfl (q_dt (q_eqi rfl rfl) (by decide)) <|
   sq rfl (q_pick_t rfl rfl) <|
   sq rfl (q_move rfl) <|
   sq_go 186 rfl rfl rfl (q_move rfl) <|
   sq_go 186 rfl rfl rfl (q_dt (q_eqs (q := [97]) rfl rfl) (by decide)) <|
   sq rfl (q_pick_t rfl rfl) <|
   sq rfl (q_move rfl) <|
   sq_go 190 rfl rfl rfl (q_move rfl) <|
   sq rfl (q_pick_t rfl rfl) <|
   sq rfl (q_assign rfl) <|
   sq_end) ?_
 clear hF hS; intro a w hF hS
 refine wpList_nil ?_
 refine hK21 _ _ ?_
 clear hK21
 refine wp_ret ?_
 exact fn_ret (rs := [.tmp 0]) rfl hF hS (vs := [_]) ⟨rfl, trivial⟩ zQ zQ (rfl)
end Go.Proofs.YtibbhobfdbfkkaaGreatDoor
