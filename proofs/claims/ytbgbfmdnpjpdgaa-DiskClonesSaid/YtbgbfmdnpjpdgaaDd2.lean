/- A text of a proof over this seat: walks over the program's functions and the plain laws that they need. -/
import Derived.Test.YtbgbfmdnpjpdgaaDd1
import Derived.Test.YtbgbfmdnpjpdgaaFwB
set_option linter.all false
namespace Go.Proofs.Ytbgbfmdnpjpdgaa
open Go.Fw
theorem ty5 : Tf Try.prog 5 (.int .u8) 1 1 (Value.int .u8 0) := ⟨Try.underlying5, by kernel_rfl⟩
theorem ty9 : Tf Try.prog 9 .string 1 16 (Value.string ⟨(List.nil : List UInt8).toArray⟩) := ⟨Try.underlying9, by kernel_rfl⟩
theorem ty68 : Tf Try.prog 68 (.map 3 74) 1 8 (Value.map none) := ⟨Try.underlying68, by kernel_rfl⟩
theorem ty72 : Tf Try.prog 72 (.slice 5) 1 24 (Value.slice none 0 0) := ⟨Try.underlying72, by kernel_rfl⟩
theorem ty74 : Tf Try.prog 74 (.array 64 5) 64 64 (.agg (List.replicate 64 (Value.int .u8 0)).toArray) := ⟨Try.underlying74, by kernel_rfl⟩
theorem fn46 : FnOk Try.prog 46 := ⟨_, Try.func46, rfl, by kernel_rfl⟩
theorem fn47 : FnOk Try.prog 47 := ⟨_, Try.func47, rfl, by kernel_rfl⟩

set_option maxRecDepth 4000 in
set_option maxHeartbeats 2000000 in
theorem dread_ct (h : Dk.Hd) (S : Dk.Dsk) (i : Int) (hi : -9223372036854775808 ≤ i ∧ i ≤ 9223372036854775807) (w0 : World) (zsr : List PH) {r1 r2 r3 r4 : Res} (hD : DD h S r1 r2 r3 r4) : Cx Try.prog 16 [.pointer (some ⟨h.b, 0, none⟩), vi i] w0 zsr [r1, r2, r3, r4] (DDR h (S) (.tuple [vs (Dk.read S i).1, vi (Dk.read S i).2].toArray)) := by
 refine fn_enterx Try.func16 rfl Try.ntmps16 (Nat.le_of_ble_eq_true rfl) fun hsr a w hF hS => ?_
 replace hS : St _ (_) (_ :: _ :: _ :: _ :: _) _ := hS
 refine wp_seq_k ?_; intro K1 hK1
 refine reg hF hS (sq rfl (q_assign rfl) <|
   sq rfl (q_assign rfl) <|
   sq_end) ?_
 clear hF hS; intro a w hF hS
 refine hK1 _ _ ?_
 clear hK1
 refine wp_seq_k ?_; intro K2 hK2
 refine wp_seq_k ?_; intro K3 hK3
 refine regl ?_
 refine wpl_sq hF hS (sq rfl (q_move rfl) <|
   sq rfl (q_move rfl) <|
   sq_end) ?_
 clear hF hS; intro a w hF hS
 refine wpl_ef hF hS rfl (ef_callx fn46 rfl (List.Perm.refl _) (by exact (dcheck_ct _ _ _ _ _  hD))) ?_
 clear hF hS; rintro _ _ _ a w ⟨_, _, rfl, rfl, ⟨rfl, rfl, qa2, qb3, qc4, qd5, rfl, hD6⟩⟩ hF hS
 replace hS : St _ (_) (_ :: _ :: _ :: _ :: _) _ := hS
 refine wpl_sq hF hS (sq rfl (q_assign rfl) <|
   sq_end) ?_
 clear hF hS; intro a w hF hS
 refine wpList_nil ?_
 refine hK3 _ _ ?_
 clear hK3
 refine wp_seq_k ?_; intro K4 hK4
 refine reg hF hS (sq rfl (q_move rfl) <|
   sq rfl (q_nei rfl rfl) <|
   sq_end) ?_
 clear hF hS; intro a w hF hS
 refine hK4 _ _ ?_
 clear hK4
 refine wp_ifn hF rfl (fun hc1 => ?_) (fun hc1 => ?_)
 ·refine wp_seq_k ?_; intro K5 hK5
  refine reg hF hS (sq rfl (q_move rfl) <|
    sq rfl (q_assign rfl) <|
    sq rfl (q_assign rfl) <|
    sq_end) ?_
  clear hF hS; intro a w hF hS
  refine hK5 _ _ ?_
  clear hK5
  refine wp_ret ?_
  exact fn_retx (rs := [.tmp 4, .tmp 5]) rfl hF hS (vs := [_, _]) ⟨rfl, rfl, trivial⟩ [] [_, _, _, _] sQ sQ (Dk.dr_of (S := S) ⟨rfl, rfl, _, _, _, _, rfl, hD6⟩ (rfl) (by rw [Dk.read_bad hc1]))
 ·have hc0 : Dk.check S i = 0 := by omega
  obtain ⟨hof, hir⟩ := Dk.check_0 hc0
  obtain ⟨l, e1, c1, m1, e2, c2, m2, hO, hl, hlr, hM1, hM2, hP, hW, rfl, rfl, rfl, rfl⟩ := hD6
  have hlo := hO.lo
  have hhi := hO.hi
  have hlf := hO.lf
  have hlg := hO.lf2
  have hbl := Dk.bl_len S
  have hbs := Dk.bl_64 hO
  replace hS : St _ (_) (_ :: _ :: _ :: _ :: _) _ := hS
  have hpg := Dk.pget_len hO hir
  refine wp_skip ?_
  refine hK2 _ _ ?_
  clear hK2
  refine wp_seq_k ?_; intro K6 hK6
  refine wp_seq_k ?_; intro K7 hK7
  refine regl ?_
  refine wpl_sq hF hS (sq rfl (q_move rfl) <|
    sq rfl (q_nilCheck rfl) <|
    sq rfl (q_fieldAddr ty71 rfl rfl (s' := 0) kQ) <|
    sq rfl (q_ld_blk1 ty68 0 rfl rfl rfl rfl) <|
    sq rfl (q_move rfl) <|
    sq rfl (q_lookupk2 ty68 ty74 (key_I ty3) 2 rfl rfl rfl hM1.1 (fun _ _ => trivial) trivial (Dk.pend_get hP hir) (Dk.pend_is hP hir)) <|
    sq rfl (q_move rfl) <|
    sq rfl (q_extract rfl rfl) <|
    sq rfl (q_extract rfl rfl) <|
    sq_end) ?_
  clear hF hS; intro a w hF hS
  refine wpl_ef hF hS rfl (ef_allocA ty74) ?_
  clear hF hS; rintro _ _ _ a w ⟨b7, rfl, rfl, rfl⟩ hF hS
  rw [show List.replicate 64 (Value.int .u8 0) = (List.replicate 64 (0 : UInt8)).map vb from by rw [List.map_replicate] <;> rfl] at hS
  refine wpl_ef hF hS rfl (ef_storeW ty74 0 rfl rfl rfl rfl bQ oQ bQ) ?_
  clear hF hS; rintro _ _ _ a w ⟨rfl, rfl, rfl⟩ hF hS
  replace hS : St _ (_) (_ :: _ :: _ :: _ :: _ :: _) _ := hS
  refine wpl_sq hF hS (sq rfl (q_assign rfl) <|
    sq_end) ?_
  clear hF hS; intro a w hF hS
  refine wpList_nil ?_
  refine hK7 _ _ ?_
  clear hK7
  refine wp_seq_k ?_; intro K8 hK8
  refine reg hF hS (sq rfl (q_move rfl) <|
    sq_end) ?_
  clear hF hS; intro a w hF hS
  refine hK8 _ _ ?_
  clear hK8
  refine wp_if hF rfl (fun hc2 => ?_) (fun hc2 => ?_)
  ·refine wp_seq_k ?_; intro K9 hK9
   refine reg hF hS (sq rfl (q_sla ty74 ty5 rfl) <|
     sq rfl (q_b2s_blkM ty72 ty9 ty5 0 rfl rfl bQ) <|
     sq rfl (q_assign rfl) <|
     sq rfl (q_assign rfl) <|
     sq_end) ?_
   clear hF hS; intro a w hF hS
   refine hK9 _ _ ?_
   clear hK9
   refine wp_ret ?_
   replace hS := hS.perm (.swap _ _ _)
   replace hS := hS.perm (.cons _ (.swap _ _ _))
   replace hS := hS.perm (.cons _ (.cons _ (.swap _ _ _)))
   replace hS := hS.perm (.cons _ (.cons _ (.cons _ (.swap _ _ _))))
   exact fn_retx (rs := [.tmp 4, .tmp 5]) rfl hF hS (vs := [_, _]) ⟨rfl, rfl, trivial⟩ [] [_, _, _, _] sQ (sQ.n.k.k.k.k) (Dk.dr_of (S := S) ⟨rfl, rfl, _, _, _, _, rfl, ⟨l, e1, c1, m1, e2, c2, m2, hO, hl, hlr, hM1, hM2, hP, hW, rfl, rfl, rfl, rfl⟩⟩ (rfl) (by rw [Dk.read_nx hc0 hc2, Dk.pget_t hc2]))
  ·refine wp_skip ?_
   refine hK6 _ _ ?_
   clear hK6
   refine wp_seq_k ?_; intro K10 hK10
   refine reg hF hS (sq rfl (q_move rfl) <|
     sq rfl (q_nilCheck rfl) <|
     sq rfl (q_fieldAddr ty71 rfl rfl (s' := 0) kQ) <|
     sq rfl (q_ld_blk1 ty67 1 rfl rfl rfl rfl) <|
     sq rfl (q_move rfl) <|
     sq rfl (q_idx_row ty67 ty74 2 rfl rfl rfl (by omega)) <|
     sq rfl (q_slE ty74 ty5 2 rfl rfl (by omega)) <|
     sq rfl (q_b2s_rowSl ty72 ty9 ty5 2 rfl (Dk.bl_len S).symm (Dk.bl_64 hO) rfl (by omega)) <|
     sq rfl (q_assign rfl) <|
     sq rfl (q_assign rfl) <|
     sq_end) ?_
   clear hF hS; intro a w hF hS
   refine hK10 _ _ ?_
   clear hK10
   refine wp_ret ?_
   replace hS := hS.perm (.swap _ _ _)
   replace hS := hS.perm (.cons _ (.swap _ _ _))
   replace hS := hS.perm (.cons _ (.cons _ (.swap _ _ _)))
   replace hS := hS.perm (.cons _ (.cons _ (.cons _ (.swap _ _ _))))
   exact fn_retx (rs := [.tmp 4, .tmp 5]) rfl hF hS (vs := [_, _]) ⟨rfl, rfl, trivial⟩ [] [_, _, _, _] sQ (sQ.n.k.k.k.k) (Dk.dr_of (S := S) ⟨rfl, rfl, _, _, _, _, rfl, ⟨l, e1, c1, m1, e2, c2, m2, hO, hl, hlr, hM1, hM2, hP, hW, rfl, rfl, rfl, rfl⟩⟩ (rfl) (by rw [Dk.read_tx hc0 (by rw [hc2]; simp), Dk.bl_at hir]))

set_option maxRecDepth 4000 in
set_option maxHeartbeats 2000000 in
theorem dwrite_ct (h : Dk.Hd) (S : Dk.Dsk) (i : Int) (hi : -9223372036854775808 ≤ i ∧ i ≤ 9223372036854775807) (t : List UInt8) (w0 : World) (zsr : List PH) {r1 r2 r3 r4 : Res} (hD : DD h S r1 r2 r3 r4) : Cx Try.prog 17 [.pointer (some ⟨h.b, 0, none⟩), vi i, vs t] w0 zsr [r1, r2, r3, r4] (DDR h ((Dk.write S i t).1) (vi (Dk.write S i t).2)) := by
 refine fn_enterx Try.func17 rfl Try.ntmps17 (Nat.le_of_ble_eq_true rfl) fun hsr a w hF hS => ?_
 replace hS : St _ (_) (_ :: _ :: _ :: _ :: _) _ := hS
 refine wp_seq_k ?_; intro K1 hK1
 refine reg hF hS (sq rfl (q_assign rfl) <|
   sq_end) ?_
 clear hF hS; intro a w hF hS
 refine hK1 _ _ ?_
 clear hK1
 refine wp_seq_k ?_; intro K2 hK2
 refine wp_seq_k ?_; intro K3 hK3
 refine regl ?_
 refine wpl_sq hF hS (sq rfl (q_move rfl) <|
   sq rfl (q_move rfl) <|
   sq_end) ?_
 clear hF hS; intro a w hF hS
 refine wpl_ef hF hS rfl (ef_callx fn46 rfl (List.Perm.refl _) (by exact (dcheck_ct _ _ _ _ _  hD))) ?_
 clear hF hS; rintro _ _ _ a w ⟨_, _, rfl, rfl, ⟨rfl, rfl, qa2, qb3, qc4, qd5, rfl, hD6⟩⟩ hF hS
 replace hS : St _ (_) (_ :: _ :: _ :: _ :: _) _ := hS
 refine wpl_sq hF hS (sq rfl (q_assign rfl) <|
   sq_end) ?_
 clear hF hS; intro a w hF hS
 refine wpList_nil ?_
 refine hK3 _ _ ?_
 clear hK3
 refine wp_seq_k ?_; intro K4 hK4
 refine reg hF hS (sq rfl (q_move rfl) <|
   sq rfl (q_nei rfl rfl) <|
   sq_end) ?_
 clear hF hS; intro a w hF hS
 refine hK4 _ _ ?_
 clear hK4
 refine wp_ifn hF rfl (fun hc1 => ?_) (fun hc1 => ?_)
 ·refine wp_seq_k ?_; intro K5 hK5
  refine reg hF hS (sq rfl (q_move rfl) <|
    sq rfl (q_assign rfl) <|
    sq_end) ?_
  clear hF hS; intro a w hF hS
  refine hK5 _ _ ?_
  clear hK5
  refine wp_ret ?_
  exact fn_retx (rs := [.tmp 6]) rfl hF hS (vs := [_]) ⟨rfl, trivial⟩ [] [_, _, _, _] sQ sQ (Dk.dr_of (S := S) ⟨rfl, rfl, _, _, _, _, rfl, hD6⟩ (by rw [Dk.write_1 hc1]) (by rw [Dk.write_1 hc1]))
 ·have hc0 : Dk.check S i = 0 := by omega
  obtain ⟨hof, hir⟩ := Dk.check_0 hc0
  refine wp_skip ?_
  refine hK2 _ _ ?_
  clear hK2
  refine wp_seq_k ?_; intro K6 hK6
  refine wp_seq_k ?_; intro K7 hK7
  refine reg hF hS (sq rfl (q_move rfl) <|
    sq rfl (q_len_s ty9 rfl) <|
    sq rfl (q_nei rfl rfl) <|
    sq_end) ?_
  clear hF hS; intro a w hF hS
  refine hK7 _ _ ?_
  clear hK7
  refine wp_ifn hF rfl (fun hc2 => ?_) (fun hc2 => ?_)
  ·refine wp_seq_k ?_; intro K8 hK8
   refine reg hF hS (sq rfl (q_assign rfl) <|
     sq_end) ?_
   clear hF hS; intro a w hF hS
   refine hK8 _ _ ?_
   clear hK8
   refine wp_ret ?_
   exact fn_retx (rs := [.tmp 6]) rfl hF hS (vs := [_]) ⟨rfl, trivial⟩ [] [_, _, _, _] sQ sQ (Dk.dr_of (S := S) ⟨rfl, rfl, _, _, _, _, rfl, hD6⟩ (by rw [Dk.write_2 hc0 (by omega)]) (by rw [Dk.write_2 hc0 (by omega)]))
  ·have h64 : t.length = 64 := by omega
   refine wp_skip ?_
   refine hK6 _ _ ?_
   clear hK6
   refine wp_seq_k ?_; intro K9 hK9
   refine wp_seq_k ?_; intro K10 hK10
   refine regl ?_
   refine wpl_sq hF hS (sq rfl (q_move rfl) <|
     sq_end) ?_
   clear hF hS; intro a w hF hS
   refine wpl_ef hF hS rfl (ef_callx fn47 rfl (List.Perm.refl _) (by exact (dstep_ct _ _ _ _  hD6))) ?_
   clear hF hS; rintro _ _ _ a w ⟨_, _, rfl, rfl, ⟨rfl, rfl, qa8, qb9, qc10, qd11, rfl, hD12⟩⟩ hF hS
   replace hS : St _ (_) (_ :: _ :: _ :: _ :: _) _ := hS
   refine wpl_sq hF hS (sq rfl (q_assign rfl) <|
     sq_end) ?_
   clear hF hS; intro a w hF hS
   refine wpList_nil ?_
   refine hK10 _ _ ?_
   clear hK10
   refine wp_seq_k ?_; intro K11 hK11
   refine reg hF hS (sq rfl (q_move rfl) <|
     sq rfl (q_nei rfl rfl) <|
     sq_end) ?_
   clear hF hS; intro a w hF hS
   refine hK11 _ _ ?_
   clear hK11
   refine wp_ifn hF rfl (fun hc3 => ?_) (fun hc3 => ?_)
   ·refine wp_seq_k ?_; intro K12 hK12
    refine reg hF hS (sq rfl (q_move rfl) <|
      sq rfl (q_assign rfl) <|
      sq_end) ?_
    clear hF hS; intro a w hF hS
    refine hK12 _ _ ?_
    clear hK12
    refine wp_ret ?_
    exact fn_retx (rs := [.tmp 6]) rfl hF hS (vs := [_]) ⟨rfl, trivial⟩ [] [_, _, _, _] sQ sQ (Dk.dr_of (S := (Dk.step S).1) ⟨rfl, rfl, _, _, _, _, rfl, hD12⟩ (by rw [Dk.write_3 hc0 h64 hc3]) (by rw [Dk.write_3 hc0 h64 hc3]))
   ·have hs0 : (Dk.step S).2 = 0 := by omega
    have hir2 : 0 ≤ i ∧ i < (Dk.step S).1.s.length := by rw [Dk.step_s]; exact hir
    obtain ⟨l, e1, c1, m1, e2, c2, m2, hO, hl, hlr, hM1, hM2, hP, hW, rfl, rfl, rfl, rfl⟩ := hD12
    have hlo := hO.lo
    have hhi := hO.hi
    have hlf := hO.lf
    have hlg := hO.lf2
    have hbl := Dk.bl_len (Dk.step S).1
    have hbs := Dk.bl_64 hO
    replace hS : St _ (_) (_ :: _ :: _ :: _ :: _) _ := hS
    refine wp_skip ?_
    refine hK9 _ _ ?_
    clear hK9
    refine wp_seq_k ?_; intro K13 hK13
    revert hS; revert hF; apply regJ (J := J4 (α0 := Value) (α1 := PH) (α2 := List MapEntry) (α3 := Nat) 32 _ _ _ _ _) #[false, false, false, false, false, false, false, false, false, false] 10 mixed rfl rfl
    ·intro w hF hS
     refine goW_take 0 _ rfl kQ rfl hF (hS.keep sQ (sQ.n.n.n.n)) (q_move rfl) ?_
     clear hF; intro a hF
     refine goW_take 1 _ rfl kQ rfl hF (hS.keep sQ (sQ.n.n.n.n)) (q_nilCheck rfl) ?_
     clear hF; intro a hF
     refine goW_take 2 _ rfl kQ rfl hF (hS.keep sQ (sQ.n.n.n.n)) (q_fieldAddr ty71 rfl rfl (s' := 0) kQ) ?_
     clear hF; intro a hF
     refine goW_take 3 _ rfl kQ rfl hF (hS.keep sQ (sQ.n.n.n.k)) (q_ld_blk1 ty68 0 rfl rfl rfl rfl) ?_
     clear hF; intro a hF
     refine goW_take 4 _ rfl kQ rfl hF (hS.keep sQ (sQ.n.n.n.n)) (q_move rfl) ?_
     clear hF; intro a hF
     refine goW_take 5 _ rfl kQ rfl hF (hS.keep sQ (sQ.n.n.n.n)) (q_move rfl) ?_
     clear hF; intro a hF
     refine gQ 6 rfl rfl hF hS rfl (ef_s2b ty9 ty72 ty5 rfl (by omega)) ?_
     clear hF hS; rintro v_9_6 _ _ a w ⟨z_9_6, rfl, rfl, hz_9_6⟩ hF hS
     refine ⟨⟨iQ, .inr (hS.keep (sQ.n) (sQ.n.n.n.n)), .inr (hS.keep (sQ.n) (sQ.n.n.n.k)), .inr (hS.keep (sQ.n) (sQ.n.n.n.n)), .inr (hS.keep (sQ.n) (sQ.n.n.n.n)), .inr (hS.keep (sQ.n) (sQ.n.n.n.n)), trivial⟩, ?_⟩
     refine goW_take 7 _ rfl kQ rfl hF (hS.keep sQ (sQ.n.n.n.n)) (q_s2ap_sl ty74 hz_9_6 rfl bQ (by decide)) ?_
     clear hF; intro a hF
     refine goW_take 8 _ rfl kQ rfl hF (hS.keep sQ (sQ.n.n.n.n)) (q_ld_B16 ty74 hz_9_6 (.inr (by simp)) rfl rfl bQ (by decide)) ?_
     clear hF; intro a hF
     refine gQ 9 rfl rfl hF hS rfl (ef_mapsetT ty68 (key_I ty3) 2 rfl rfl rfl rfl hM1 (fun _ _ => trivial) trivial) ?_
     clear hF hS; rintro _ _ _ a w ⟨es9, c9, hM9, rfl, rfl, rfl⟩ hF hS
     replace hS : St _ (_ :: _) (_ :: _ :: _ :: _ :: _) _ := hS
     refine ⟨⟨iQ, iQ, iQ, iQ, iQ, iQ, iQ, iQ, trivial⟩, ?_⟩
     exact goW_done kQ (j4_mk v_9_6 z_9_6 es9 c9 ((And.intro hz_9_6 (And.intro hM9 trivial))) (hF.sub (L' := []) trivial) hS)
    rintro a w ⟨v_9_6, z_9_6, es9, c9, ⟨hz_9_6, hM9, -⟩, hF, hS⟩
    (try dsimp only at hF); (try dsimp only at hS)
    refine hK13 _ _ ?_
    clear hK13
    refine wp_seq_k ?_; intro K14 hK14
    refine reg hF hS (sq rfl (q_assign rfl) <|
      sq_end) ?_
    clear hF hS; intro a w hF hS
    refine hK14 _ _ ?_
    clear hK14
    refine wp_ret ?_
    exact fn_retx (rs := [.tmp 6]) rfl hF hS (vs := [_]) ⟨rfl, trivial⟩ [] [_, _, _, _] (sQ.n) sQ (Dk.dr_of (S := Dk.mark (Dk.step S).1 i t) ⟨rfl, rfl, _, _, _, _, rfl, ⟨l, _, _, _, e2, c2, m2, (Dk.ok_mark hO hir2 h64), hl, hlr, hM9, hM2, (hP.put (Dk.pend_mark hir2 t)), (hW.eq (Dk.wrn_put hir2 rfl)), rfl, (by rw [Dk.mark_bl hir2, Dk.mark_len]), rfl, rfl⟩⟩ (by rw [Dk.write_4 hc0 h64 hs0]) (by rw [Dk.write_4 hc0 h64 hs0]))
end Go.Proofs.Ytbgbfmdnpjpdgaa
