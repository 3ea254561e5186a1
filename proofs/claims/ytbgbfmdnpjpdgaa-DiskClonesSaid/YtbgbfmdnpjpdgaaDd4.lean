/- A text of a proof over this seat: walks over the program's functions and the plain laws that they need. -/
import Derived.Test.YtbgbfmdnpjpdgaaDd3
import Derived.Test.YtbgbfmdnpjpdgaaDkA
import Derived.Shelf.SortM.Plain
import Derived.Shelf.SortM.SortNone
import Derived.Test.YtbgbfmdnpjpdgaaFwB
set_option linter.all false
namespace Go.Proofs.Ytbgbfmdnpjpdgaa
open Go.Fw
theorem ty39 : Tf Try.prog 39 (.slice 9) 1 24 (Value.slice none 0 0) := ⟨Try.underlying39, by kernel_rfl⟩
theorem fn48 : FnOk Try.prog 48 := ⟨_, Try.func48, rfl, by kernel_rfl⟩
theorem fn49 : FnOk Try.prog 49 := ⟨_, Try.func49, rfl, by kernel_rfl⟩
theorem fn50 : FnOk Try.prog 50 := ⟨_, Try.func50, rfl, by kernel_rfl⟩

abbrev DDWi := Dk.DRw 71 74 3
abbrev DDWs := Dk.DRw 71 74 9
abbrev DDN := Dk.DRn 71 74
abbrev DDC := Dk.DRc 71 74

theorem sortsin : Go.Proofs.AnyZI.SortsIn Try.prog lsA_ren Fence.wide 4 := ⟨fun blk off cap ss W hH hblk hsz => callsIn_wide.2 (Go.Proofs.AnyM.slices_Sort_int lsS blk off cap ss W hH hblk hsz), fun p cap W => callsIn_wide.2 (Go.Proofs.AnyM.slices_Sort_int_none lsS p cap W)⟩

set_option maxRecDepth 4000 in
set_option maxHeartbeats 2000000 in
theorem keysP_ct (b : Nat) (w : World) : Ct Try.prog 49 [.map (some b)] w (fun r zs hs => ∃ e, r = .func (.func 60) (List.nil : List Value).toArray [Value.pointer (some ⟨e, 0, none⟩)].toArray ∧ zs = [] ∧ hs = [.blk e 68 [.map (some b)]]) := by
 refine fn_enter Try.func49 rfl Try.ntmps49 (Nat.le_of_ble_eq_true rfl) fun a hF hS => ?_
 refine wp_seq_k ?_; intro K1 hK1
 refine regl ?_
 refine wpl_ef hF hS rfl (ef_box1 rfl rfl) ?_
 clear hF hS; rintro _ _ _ a w ⟨b1, rfl, rfl, rfl⟩ hF hS
 refine wpl_sq hF hS (sq rfl (q_assign rfl) <|
   sq_end) ?_
 clear hF hS; intro a w hF hS
 refine wpList_nil ?_
 refine hK1 _ _ ?_
 clear hK1
 refine wp_seq_k ?_; intro K2 hK2
 refine reg hF hS (sq rfl (q_mkf rfl rfl) <|
   sq rfl (q_assign rfl) <|
   sq_end) ?_
 clear hF hS; intro a w hF hS
 refine hK2 _ _ ?_
 clear hK2
 refine wp_ret ?_
 exact fn_ret (rs := [.tmp 2]) rfl hF hS (vs := [_]) ⟨rfl, trivial⟩ sQ sQ ⟨_, rfl, rfl, rfl⟩

theorem sortedP_ct {l : List (Int × Value)} {es : List MapEntry} {c e b : Nat} (hM : MpT vi l es c) (hn : (l.map (·.1)).Nodup) (hk : ∀ i ∈ l.map (·.1), -9223372036854775808 ≤ i ∧ i ≤ 9223372036854775807) (hl : l.length ≤ 4096) (w0 : World) (zsr : List PH) : Cx Try.prog 48 [.func (.func 60) (List.nil : List Value).toArray [Value.pointer (some ⟨e, 0, none⟩)].toArray] w0 zsr [.blk e 68 [.map (some b)], .mp b es c] (fun v zs1 hs1 => zs1 = [] ∧ hs1 = [.row v 3 1 ((l.map (·.1)).mergeSort (fun x y => decide (x ≤ y))).length (((l.map (·.1)).mergeSort (fun x y => decide (x ≤ y))).map vi), .blk e 68 [.map (some b)], .mp b es c]) := sorted_cx lkP lsA sortsin 3 rfl rfl Try.underlying3 (Go.Proofs.enters_of Try.func59 kQ rfl) (Go.Proofs.enters_of Try.func60 kQ rfl) hM hn hk hl w0 zsr

set_option maxRecDepth 4000 in
set_option maxHeartbeats 2000000 in
theorem dpending_ct (h : Dk.Hd) (S : Dk.Dsk) (w0 : World) (zsr : List PH) {r1 r2 r3 r4 : Res} (hD : DD h S r1 r2 r3 r4) : Cx Try.prog 22 [.pointer (some ⟨h.b, 0, none⟩)] w0 zsr [r1, r2, r3, r4] (DDWi h S (Dk.dix S).length ((Dk.dix S).map vi)) := by
 refine fn_enterx Try.func22 rfl Try.ntmps22 (Nat.le_of_ble_eq_true rfl) fun hsr a w hF hS => ?_
 replace hS : St _ (_) (_ :: _ :: _ :: _ :: _) _ := hS
 obtain ⟨l, e1, c1, m1, e2, c2, m2, hO, hl, hlr, hM1, hM2, hP, hW, rfl, rfl, rfl, rfl⟩ := hD
 have hlo := hO.lo
 have hhi := hO.hi
 have hlf := hO.lf
 have hlg := hO.lf2
 have hbl := Dk.bl_len S
 have hbs := Dk.bl_64 hO
 replace hS : St _ (_) (_ :: _ :: _ :: _ :: _) _ := hS
 refine wp_seq_k ?_; intro K1 hK1
 refine reg hF hS (sq rfl (q_assign rfl) <|
   sq_end) ?_
 clear hF hS; intro a w hF hS
 refine hK1 _ _ ?_
 clear hK1
 refine wp_seq_k ?_; intro K2 hK2
 refine regl ?_
 refine wpl_sq hF hS (sq rfl (q_move rfl) <|
   sq rfl (q_nilCheck rfl) <|
   sq rfl (q_fieldAddr ty71 rfl rfl (s' := 0) kQ) <|
   sq rfl (q_ld_blk1 ty68 0 rfl rfl rfl rfl) <|
   sq_end) ?_
 clear hF hS; intro a w hF hS
 refine wpl_ef hF hS rfl (ef_call fn49 rfl (fun w hS => keysP_ct _ w )) ?_
 clear hF hS; rintro _ _ _ a w ⟨_, _, rfl, rfl, ⟨bx2, rfl, rfl, rfl⟩⟩ hF hS
 replace hS : St _ (_) (_ :: _ :: _ :: _ :: _ :: _) _ := hS
 replace hS := hS.perm (.cons _ (.cons _ (.swap _ _ _)))
 replace hS := hS.perm (.cons _ (.swap _ _ _))
 replace hS : St _ (_) (_ :: _ :: _ :: _ :: _ :: _) _ := hS
 refine wpl_ef hF hS rfl (ef_callx fn48 rfl (List.Perm.refl _) (by exact (sortedP_ct hM1 hP.1 (Dk.mok_rng Dk.pend_some hO hP) (Dk.len_d hO hP) _ _ (b := h.p) ))) ?_
 clear hF hS; rintro v3 _ _ a w ⟨_, _, rfl, rfl, ⟨rfl, rfl⟩⟩ hF hS
 replace hS : St _ (_) (_ :: _ :: _ :: _ :: _ :: _ :: _) _ := hS
 refine wpl_sq hF hS (sq rfl (q_assign rfl) <|
   sq_end) ?_
 clear hF hS; intro a w hF hS
 refine wpList_nil ?_
 rw [Dk.keys_d hP] at hS
 refine hK2 _ _ ?_
 clear hK2
 refine wp_ret ?_
 replace hS := hS.perm (.cons _ (.cons _ (.swap _ _ _)))
 replace hS := hS.perm (.cons _ (.swap _ _ _))
 replace hS := hS.perm (.cons _ (.cons _ (.cons _ (.swap _ _ _))))
 replace hS := hS.perm (.cons _ (.cons _ (.swap _ _ _)))
 replace hS := hS.perm (.cons _ (.cons _ (.cons _ (.swap _ _ _))))
 replace hS := hS.perm (.cons _ (.cons _ (.cons _ (.cons _ (.swap _ _ _)))))
 exact fn_retx (rs := [.tmp 2]) rfl hF hS (vs := [_]) ⟨rfl, trivial⟩ [] [_, _, _, _, _] sQ (sQ.n.k.k.k.k.k) (Dk.drw_of ⟨rfl, _, _, _, _, rfl, ⟨l, e1, c1, m1, e2, c2, m2, hO, hl, hlr, hM1, hM2, hP, hW, rfl, rfl, rfl, rfl⟩⟩ (rfl) (rfl))

set_option maxRecDepth 4000 in
set_option maxHeartbeats 2000000 in
theorem keysW_ct (b : Nat) (w : World) : Ct Try.prog 50 [.map (some b)] w (fun r zs hs => ∃ e, r = .func (.func 61) (List.nil : List Value).toArray [Value.pointer (some ⟨e, 0, none⟩)].toArray ∧ zs = [] ∧ hs = [.blk e 69 [.map (some b)]]) := by
 refine fn_enter Try.func50 rfl Try.ntmps50 (Nat.le_of_ble_eq_true rfl) fun a hF hS => ?_
 refine wp_seq_k ?_; intro K1 hK1
 refine regl ?_
 refine wpl_ef hF hS rfl (ef_box1 rfl rfl) ?_
 clear hF hS; rintro _ _ _ a w ⟨b1, rfl, rfl, rfl⟩ hF hS
 refine wpl_sq hF hS (sq rfl (q_assign rfl) <|
   sq_end) ?_
 clear hF hS; intro a w hF hS
 refine wpList_nil ?_
 refine hK1 _ _ ?_
 clear hK1
 refine wp_seq_k ?_; intro K2 hK2
 refine reg hF hS (sq rfl (q_mkf rfl rfl) <|
   sq rfl (q_assign rfl) <|
   sq_end) ?_
 clear hF hS; intro a w hF hS
 refine hK2 _ _ ?_
 clear hK2
 refine wp_ret ?_
 exact fn_ret (rs := [.tmp 2]) rfl hF hS (vs := [_]) ⟨rfl, trivial⟩ sQ sQ ⟨_, rfl, rfl, rfl⟩

theorem sortedW_ct {l : List (Int × Value)} {es : List MapEntry} {c e b : Nat} (hM : MpT vi l es c) (hn : (l.map (·.1)).Nodup) (hk : ∀ i ∈ l.map (·.1), -9223372036854775808 ≤ i ∧ i ≤ 9223372036854775807) (hl : l.length ≤ 4096) (w0 : World) (zsr : List PH) : Cx Try.prog 48 [.func (.func 61) (List.nil : List Value).toArray [Value.pointer (some ⟨e, 0, none⟩)].toArray] w0 zsr [.blk e 69 [.map (some b)], .mp b es c] (fun v zs1 hs1 => zs1 = [] ∧ hs1 = [.row v 3 1 ((l.map (·.1)).mergeSort (fun x y => decide (x ≤ y))).length (((l.map (·.1)).mergeSort (fun x y => decide (x ≤ y))).map vi), .blk e 69 [.map (some b)], .mp b es c]) := sorted_cx lkW lsA sortsin 3 rfl rfl Try.underlying3 (Go.Proofs.enters_of Try.func59 kQ rfl) (Go.Proofs.enters_of Try.func61 kQ rfl) hM hn hk hl w0 zsr

set_option maxRecDepth 4000 in
set_option maxHeartbeats 2000000 in
theorem dworn_ct (h : Dk.Hd) (S : Dk.Dsk) (w0 : World) (zsr : List PH) {r1 r2 r3 r4 : Res} (hD : DD h S r1 r2 r3 r4) : Cx Try.prog 23 [.pointer (some ⟨h.b, 0, none⟩)] w0 zsr [r1, r2, r3, r4] (DDWi h S (Dk.wix S).length ((Dk.wix S).map vi)) := by
 refine fn_enterx Try.func23 rfl Try.ntmps23 (Nat.le_of_ble_eq_true rfl) fun hsr a w hF hS => ?_
 replace hS : St _ (_) (_ :: _ :: _ :: _ :: _) _ := hS
 obtain ⟨l, e1, c1, m1, e2, c2, m2, hO, hl, hlr, hM1, hM2, hP, hW, rfl, rfl, rfl, rfl⟩ := hD
 have hlo := hO.lo
 have hhi := hO.hi
 have hlf := hO.lf
 have hlg := hO.lf2
 have hbl := Dk.bl_len S
 have hbs := Dk.bl_64 hO
 replace hS : St _ (_) (_ :: _ :: _ :: _ :: _) _ := hS
 refine wp_seq_k ?_; intro K1 hK1
 refine reg hF hS (sq rfl (q_assign rfl) <|
   sq_end) ?_
 clear hF hS; intro a w hF hS
 refine hK1 _ _ ?_
 clear hK1
 refine wp_seq_k ?_; intro K2 hK2
 refine regl ?_
 refine wpl_sq hF hS (sq rfl (q_move rfl) <|
   sq rfl (q_nilCheck rfl) <|
   sq rfl (q_fieldAddr ty71 rfl rfl (s' := 0) kQ) <|
   sq rfl (q_ld_blk1 ty69 0 rfl rfl rfl rfl) <|
   sq_end) ?_
 clear hF hS; intro a w hF hS
 refine wpl_ef hF hS rfl (ef_call fn50 rfl (fun w hS => keysW_ct _ w )) ?_
 clear hF hS; rintro _ _ _ a w ⟨_, _, rfl, rfl, ⟨bx2, rfl, rfl, rfl⟩⟩ hF hS
 replace hS : St _ (_) (_ :: _ :: _ :: _ :: _ :: _) _ := hS
 replace hS := hS.perm (.cons _ (.cons _ (.cons _ (.swap _ _ _))))
 replace hS := hS.perm (.cons _ (.cons _ (.swap _ _ _)))
 replace hS := hS.perm (.cons _ (.swap _ _ _))
 replace hS : St _ (_) (_ :: _ :: _ :: _ :: _ :: _) _ := hS
 refine wpl_ef hF hS rfl (ef_callx fn48 rfl (List.Perm.refl _) (by exact (sortedW_ct hM2 hW.1 (Dk.mok_rng Dk.wrn_some hO hW) (Dk.len_w hO hW) _ _ (b := h.w) ))) ?_
 clear hF hS; rintro v3 _ _ a w ⟨_, _, rfl, rfl, ⟨rfl, rfl⟩⟩ hF hS
 replace hS : St _ (_) (_ :: _ :: _ :: _ :: _ :: _ :: _) _ := hS
 refine wpl_sq hF hS (sq rfl (q_assign rfl) <|
   sq_end) ?_
 clear hF hS; intro a w hF hS
 refine wpList_nil ?_
 rw [Dk.keys_w hW] at hS
 refine hK2 _ _ ?_
 clear hK2
 refine wp_ret ?_
 replace hS := hS.perm (.cons _ (.cons _ (.swap _ _ _)))
 replace hS := hS.perm (.cons _ (.swap _ _ _))
 replace hS := hS.perm (.cons _ (.cons _ (.cons _ (.swap _ _ _))))
 replace hS := hS.perm (.cons _ (.cons _ (.swap _ _ _)))
 replace hS := hS.perm (.cons _ (.cons _ (.cons _ (.cons _ (.swap _ _ _)))))
 replace hS := hS.perm (.cons _ (.cons _ (.cons _ (.swap _ _ _))))
 replace hS := hS.perm (.cons _ (.cons _ (.cons _ (.cons _ (.swap _ _ _)))))
 exact fn_retx (rs := [.tmp 2]) rfl hF hS (vs := [_]) ⟨rfl, trivial⟩ [] [_, _, _, _, _] sQ (sQ.n.k.k.k.k.k) (Dk.drw_of ⟨rfl, _, _, _, _, rfl, ⟨l, e1, c1, m1, e2, c2, m2, hO, hl, hlr, hM1, hM2, hP, hW, rfl, rfl, rfl, rfl⟩⟩ (rfl) (rfl))

set_option maxRecDepth 4000 in
set_option maxHeartbeats 2000000 in
theorem dimage_ct (h : Dk.Hd) (S : Dk.Dsk) (w0 : World) (zsr : List PH) {r1 r2 r3 r4 : Res} (hD : DD h S r1 r2 r3 r4) : Cx Try.prog 15 [.pointer (some ⟨h.b, 0, none⟩)] w0 zsr [r1, r2, r3, r4] (DDWs h S (Dk.image S).length ((Dk.image S).map vs)) := by
 refine fn_enterx Try.func15 rfl Try.ntmps15 (Nat.le_of_ble_eq_true rfl) fun hsr a w hF hS => ?_
 replace hS : St _ (_) (_ :: _ :: _ :: _ :: _) _ := hS
 obtain ⟨l, e1, c1, m1, e2, c2, m2, hO, hl, hlr, hM1, hM2, hP, hW, rfl, rfl, rfl, rfl⟩ := hD
 have hlo := hO.lo
 have hhi := hO.hi
 have hlf := hO.lf
 have hlg := hO.lf2
 have hbl := Dk.bl_len S
 have hbs := Dk.bl_64 hO
 replace hS : St _ (_) (_ :: _ :: _ :: _ :: _) _ := hS
 refine wp_seq_k ?_; intro K1 hK1
 refine reg hF hS (sq rfl (q_assign rfl) <|
   sq_end) ?_
 clear hF hS; intro a w hF hS
 refine hK1 _ _ ?_
 clear hK1
 refine wp_seq_k ?_; intro K2 hK2
 refine regl ?_
 refine wpl_sq hF hS (sq rfl (q_move rfl) <|
   sq rfl (q_nilCheck rfl) <|
   sq rfl (q_fieldAddr ty71 rfl rfl (s' := 0) kQ) <|
   sq rfl (q_ld_blk1 ty67 0 rfl rfl rfl rfl) <|
   sq rfl (q_len_row ty67 1 rfl rfl) <|
   sq_end) ?_
 clear hF hS; intro a w hF hS
 refine wpl_ef hF hS rfl (ef_mks ty39 ty9 rfl rfl bQ bQ rfl) ?_
 clear hF hS; rintro v1 _ _ a w ⟨rfl, rfl⟩ hF hS
 replace hS : St _ (_) (_ :: _ :: _ :: _ :: _ :: _) _ := hS
 refine wpl_sq hF hS (sq rfl (q_assign rfl) <|
   sq_end) ?_
 clear hF hS; intro a w hF hS
 refine wpList_nil ?_
 refine hK2 _ _ ?_
 clear hK2
 refine wp_seq_k ?_; intro K3 hK3
 refine wp_seq_k ?_; intro K4 hK4
 refine reg hF hS (sq rfl (q_move rfl) <|
   sq rfl (q_nilCheck rfl) <|
   sq rfl (q_fieldAddr ty71 rfl rfl (s' := 0) kQ) <|
   sq rfl (q_ld_blk1 ty67 1 rfl rfl rfl rfl) <|
   sq rfl (q_len_row ty67 2 rfl rfl) <|
   sq rfl (q_move rfl) <|
   sq_end) ?_
 clear hF hS; intro a w hF hS
 refine hK4 _ _ ?_
 clear hK4
 refine wp_block ?_
 obtain ⟨hs0, hhs0, hS⟩ : ∃ h, h = _ ∧ St _ _ h _ := ⟨_, rfl, hS⟩
 refine wp_loopx (γ := Nat) (0) (fun (k : Nat) => [(16, vi (k : Int))]) [(0, _), (3, _), (15, _)] (fun (k : Nat) => (hs0.set 0 (.row v1 9 1 S.s.length ((Dk.im S k).map vs)))) (fun (k : Nat) => k ≤ S.s.length) (fun (k : Nat) => S.s.length - k) (hF.sub ⟨rfl, rfl, rfl, rfl, trivial⟩) (by subst hhs0; (try dsimp only); rw [Dk.im_0, List.map_replicate]; exact hS) (by exact Nat.zero_le _) ?_
 clear hF hS; rintro k a w hfact hF hS
 subst hhs0; (try dsimp only at hfact); (try dsimp only at hF); (try dsimp only at hS)
 have hk0 := hfact
 replace hS : St _ (_) (_ :: _ :: _ :: _ :: _ :: _) _ := hS
 have hil := Dk.im_len S hk0
 refine wp_seq_k ?_; intro K5 hK5
 refine reg hF hS (sq rfl (q_lti rfl rfl) <|
   sq_end) ?_
 clear hF hS; intro a w hF hS
 refine hK5 _ _ ?_
 clear hK5
 refine wp_seq_k ?_; intro K6 hK6
 refine wp_ifd hF rfl (fun hc1 => ?_) (fun hc1 => ?_)
 ·refine wp_skip ?_
  refine hK6 _ _ ?_
  clear hK6
  refine wp_seq_k ?_; intro K7 hK7
  refine wp_block ?_
  refine wp_seq_k ?_; intro K8 hK8
  refine reg hF hS (sq rfl (q_move rfl) <|
    sq rfl (q_assign rfl) <|
    sq_end) ?_
  clear hF hS; intro a w hF hS
  refine hK8 _ _ ?_
  clear hK8
  refine regl ?_
  refine wpl_sq hF hS (sq rfl (q_move rfl) <|
    sq rfl (q_move rfl) <|
    sq rfl (q_move rfl) <|
    sq rfl (q_nilCheck rfl) <|
    sq rfl (q_fieldAddr ty71 rfl rfl (s' := 0) kQ) <|
    sq rfl (q_ld_blk1 ty67 1 rfl rfl rfl rfl) <|
    sq rfl (q_move rfl) <|
    sq rfl (q_idx_row ty67 ty74 2 rfl rfl rfl (by omega)) <|
    sq rfl (q_slE ty74 ty5 2 rfl rfl (by omega)) <|
    sq rfl (q_b2s_rowSl ty72 ty9 ty5 2 rfl (Dk.bl_len S).symm (Dk.bl_64 hO) rfl (by omega)) <|
    sq rfl (q_idx_row ty39 ty9 0 rfl rfl rfl (by omega)) <|
    sq_end) ?_
  clear hF hS; intro a w hF hS
  refine wpl_ef hF hS rfl (ef_st_row ty9 0 rfl rfl rfl (by omega) rfl) ?_
  clear hF hS; rintro _ _ _ a w ⟨rfl, rfl, rfl⟩ hF hS
  replace hS : St _ (_) (_ :: _ :: _ :: _ :: _ :: _) _ := hS
  refine wpList_nil ?_
  refine hK7 _ _ ?_
  clear hK7
  refine reg hF hS (sq rfl (q_addi rfl rfl (by omega)) <|
    sq rfl (q_move rfl) <|
    sq_end) ?_
  clear hF hS; intro a w hF hS
  refine ⟨(k + 1), ?_, ?_, hF.sub ⟨rfl, rfl, rfl, rfl, trivial⟩, ?_⟩
  ·(try dsimp only); omega
  ·omega
  ·rw [show ((k : Int)).toNat = k from Int.toNat_natCast k, ← List.map_set, Dk.im_step S (by omega)] at hS
   exact hS
 ·refine wp_exit ?_
  refine hK3 _ _ ?_
  clear hK3
  refine wp_seq_k ?_; intro K9 hK9
  refine reg hF hS (sq rfl (q_move rfl) <|
    sq rfl (q_assign rfl) <|
    sq_end) ?_
  clear hF hS; intro a w hF hS
  refine hK9 _ _ ?_
  clear hK9
  refine wp_ret ?_
  exact fn_retx (rs := [.tmp 2]) rfl hF hS (vs := [_]) ⟨rfl, trivial⟩ [] [_, _, _, _, _] sQ sQ (Dk.drw_of ⟨rfl, _, _, _, _, rfl, ⟨l, e1, c1, m1, e2, c2, m2, hO, hl, hlr, hM1, hM2, hP, hW, rfl, rfl, rfl, rfl⟩⟩ (by simp [Dk.image]) (by rw [Dk.im_end S (by omega)]))
end Go.Proofs.Ytbgbfmdnpjpdgaa
