/- A text of a proof over this seat: walks over the program's functions and the plain laws that they need. -/
import Derived.Test.YtbgbfmdnpjpdgaaDd9
import Derived.Test.YtbgbfmdnpjpdgaaFwB
set_option linter.all false
namespace Go.Proofs.Ytbgbfmdnpjpdgaa
open Go.Fw
theorem ty24 : Tf Try.prog 24 (.pointer 71) 1 8 (Value.pointer none) := ⟨Try.underlying24, by kernel_rfl⟩
theorem fn14 : FnOk Try.prog 14 := ⟨_, Try.func14, rfl, by kernel_rfl⟩
theorem fn15 : FnOk Try.prog 15 := ⟨_, Try.func15, rfl, by kernel_rfl⟩
theorem fn16 : FnOk Try.prog 16 := ⟨_, Try.func16, rfl, by kernel_rfl⟩
theorem fn17 : FnOk Try.prog 17 := ⟨_, Try.func17, rfl, by kernel_rfl⟩
theorem fn19 : FnOk Try.prog 19 := ⟨_, Try.func19, rfl, by kernel_rfl⟩
theorem fn20 : FnOk Try.prog 20 := ⟨_, Try.func20, rfl, by kernel_rfl⟩
theorem fn21 : FnOk Try.prog 21 := ⟨_, Try.func21, rfl, by kernel_rfl⟩
theorem fn23 : FnOk Try.prog 23 := ⟨_, Try.func23, rfl, by kernel_rfl⟩
theorem fn24 : FnOk Try.prog 24 := ⟨_, Try.func24, rfl, by kernel_rfl⟩
theorem fn25 : FnOk Try.prog 25 := ⟨_, Try.func25, rfl, by kernel_rfl⟩
theorem fn26 : FnOk Try.prog 26 := ⟨_, Try.func26, rfl, by kernel_rfl⟩
theorem fn27 : FnOk Try.prog 27 := ⟨_, Try.func27, rfl, by kernel_rfl⟩
theorem fn30 : FnOk Try.prog 30 := ⟨_, Try.func30, rfl, by kernel_rfl⟩
theorem fn31 : FnOk Try.prog 31 := ⟨_, Try.func31, rfl, by kernel_rfl⟩
theorem fn32 : FnOk Try.prog 32 := ⟨_, Try.func32, rfl, by kernel_rfl⟩
theorem fn33 : FnOk Try.prog 33 := ⟨_, Try.func33, rfl, by kernel_rfl⟩
theorem fn34 : FnOk Try.prog 34 := ⟨_, Try.func34, rfl, by kernel_rfl⟩
theorem fn35 : FnOk Try.prog 35 := ⟨_, Try.func35, rfl, by kernel_rfl⟩
theorem fn36 : FnOk Try.prog 36 := ⟨_, Try.func36, rfl, by kernel_rfl⟩
theorem fn37 : FnOk Try.prog 37 := ⟨_, Try.func37, rfl, by kernel_rfl⟩
theorem fn38 : FnOk Try.prog 38 := ⟨_, Try.func38, rfl, by kernel_rfl⟩
theorem fn39 : FnOk Try.prog 39 := ⟨_, Try.func39, rfl, by kernel_rfl⟩
theorem fn40 : FnOk Try.prog 40 := ⟨_, Try.func40, rfl, by kernel_rfl⟩
theorem fn41 : FnOk Try.prog 41 := ⟨_, Try.func41, rfl, by kernel_rfl⟩
theorem fn42 : FnOk Try.prog 42 := ⟨_, Try.func42, rfl, by kernel_rfl⟩
theorem fn43 : FnOk Try.prog 43 := ⟨_, Try.func43, rfl, by kernel_rfl⟩
theorem fn44 : FnOk Try.prog 44 := ⟨_, Try.func44, rfl, by kernel_rfl⟩
theorem fn45 : FnOk Try.prog 45 := ⟨_, Try.func45, rfl, by kernel_rfl⟩

set_option maxRecDepth 4000 in
set_option maxHeartbeats 2000000 in
theorem do_ct (h : Dk.Hd) (S : Dk.Dsk) (k i b : Int) (t : List UInt8) (ps : List Int) (pv : Value) (hk : -9223372036854775808 ≤ k ∧ k ≤ 9223372036854775807) (hi : -9223372036854775808 ≤ i ∧ i ≤ 9223372036854775807) (hb : -9223372036854775808 ≤ b ∧ b ≤ 9223372036854775807) (ht : t.length ≤ 140737488355328) (w0 : World) (zsr : List PH) (z : PH) (hps : Sl Go.Fw.encI z pv ps) (hz : ZIn w0 zsr z) {r1 r2 r3 r4 : Res} (hD : DD h S r1 r2 r3 r4) : Cx Try.prog 11 [.pointer (some ⟨h.b, 0, none⟩), .agg [vi k, vi i, vi b, vs t, pv].toArray] w0 zsr [r1, r2, r3, r4] (DDR h ((Dk.act S ⟨k, i, b, t, ps⟩).1) (.tuple [vs (Dk.act S ⟨k, i, b, t, ps⟩).2.1, vi (Dk.act S ⟨k, i, b, t, ps⟩).2.2].toArray)) := by
 refine fn_enterx Try.func11 rfl Try.ntmps11 (Nat.le_of_ble_eq_true rfl) fun hsr a w hF hS => ?_
 replace hS : St _ (_) (_ :: _ :: _ :: _ :: _) _ := hS
 have hO := Dk.DOk.ok hD
 refine wp_seq_k ?_; intro K1 hK1
 refine regl ?_
 refine wpl_ef hF hS rfl (ef_boxA (cs := [vi k, vi i, vi b, vs t, pv]) rfl) ?_
 clear hF hS; rintro _ _ _ a w ⟨b1, rfl, rfl, rfl⟩ hF hS
 refine wpl_sq hF hS (sq rfl (q_assign rfl) <|
   sq rfl (q_assign rfl) <|
   sq_end) ?_
 clear hF hS; intro a w hF hS
 refine wpList_nil ?_
 refine hK1 _ _ ?_
 clear hK1
 refine wp_seq_k ?_; intro K2 hK2
 refine wp_seq_k ?_; intro K3 hK3
 refine reg hF hS (sq rfl (q_fieldAddr ty33 rfl rfl (s' := 0) kQ) <|
   sq rfl (q_ld_blk1 ty3 0 rfl rfl rfl rfl) <|
   sq_end) ?_
 clear hF hS; intro a w hF hS
 refine hK3 _ _ ?_
 clear hK3
 refine wp_block ?_
 refine wp_seq_k ?_; intro K4 hK4
 refine reg hF hS (sq rfl (q_eqi rfl rfl) <|
   sq rfl (q_assign rfl) <|
   sq_end) ?_
 clear hF hS; intro a w hF hS
 refine hK4 _ _ ?_
 clear hK4
 refine wp_ifd hF rfl (fun hc1 => ?_) (fun hc1 => ?_)
 ·refine wp_seq_k ?_; intro K5 hK5
  refine regt 5 mixed kQ hF hS (sq rfl (q_move rfl) <|
    sq rfl (q_fieldAddr ty33 rfl rfl (s' := 0) kQ) <|
    sq rfl (q_ld_blk1 ty3 0 rfl rfl rfl rfl) <|
    sq rfl (q_ld_blkW ty33 0 rfl rfl bQ rfl) <|
    sq rfl (q_call fn24 rfl (fun w hS => text_ct _ _ _ _ _ (sl_one' hps) w ) (fun _ _ _ h => h)) <|
    sq_end) ?_
  clear hF hS; intro a w hF hS
  replace hS := hS.perm (.swap _ _ _)
  replace hS := hS.perm (.cons _ (.swap _ _ _))
  replace hS := hS.perm (.cons _ (.cons _ (.swap _ _ _)))
  replace hS := hS.perm (.cons _ (.cons _ (.cons _ (.swap _ _ _))))
  replace hS : St _ (_) (_ :: _ :: _ :: _ :: _ :: _) _ := hS
  refine wpl_ef hF hS rfl (ef_callx fn17 rfl (List.Perm.refl _) (by exact (dwrite_ct _ _ _ (by omega) _ _ _  hD))) ?_
  clear hF hS; rintro _ _ _ a w ⟨_, _, rfl, rfl, ⟨rfl, rfl, qa3, qb4, qc5, qd6, rfl, hD7⟩⟩ hF hS
  replace hS : St _ (_) (_ :: _ :: _ :: _ :: _ :: _) _ := hS
  refine wpl_sq hF hS (sq rfl (q_assign rfl) <|
    sq rfl (q_assign rfl) <|
    sq_end) ?_
  clear hF hS; intro a w hF hS
  refine wpList_nil ?_
  refine hK5 _ _ ?_
  clear hK5
  refine wp_ret ?_
  exact fn_retx (rs := [.tmp 4, .tmp 5]) rfl hF hS (vs := [_, _]) ⟨rfl, rfl, trivial⟩ [] [_, _, _, _] sQ (sQ.n.k.k.k.k) (Dk.dr_of (S := (Dk.write S i (Dk.txt t)).1) ⟨rfl, rfl, _, _, _, _, rfl, hD7⟩ (by rw [Dk.act_1 hc1]) (by rw [Dk.act_1 hc1]))
 ·refine wp_seq_k ?_; intro K6 hK6
  refine reg hF hS (sq rfl (q_eqi rfl rfl) <|
    sq rfl (q_assign rfl) <|
    sq_end) ?_
  clear hF hS; intro a w hF hS
  refine hK6 _ _ ?_
  clear hK6
  refine wp_ifd hF rfl (fun hc2 => ?_) (fun hc2 => ?_)
  ·refine wp_seq_k ?_; intro K7 hK7
   refine regl ?_
   refine wpl_sq hF hS (sq rfl (q_move rfl) <|
     sq rfl (q_fieldAddr ty33 rfl rfl (s' := 0) kQ) <|
     sq rfl (q_ld_blk1 ty3 0 rfl rfl rfl rfl) <|
     sq_end) ?_
   clear hF hS; intro a w hF hS
   replace hS := hS.perm (.swap _ _ _)
   replace hS := hS.perm (.cons _ (.swap _ _ _))
   replace hS := hS.perm (.cons _ (.cons _ (.swap _ _ _)))
   replace hS := hS.perm (.cons _ (.cons _ (.cons _ (.swap _ _ _))))
   replace hS : St _ (_) (_ :: _ :: _ :: _ :: _ :: _) _ := hS
   refine wpl_ef hF hS rfl (ef_callx fn16 rfl (List.Perm.refl _) (by exact (dread_ct _ _ _ (by omega) _ _  hD))) ?_
   clear hF hS; rintro _ _ _ a w ⟨_, _, rfl, rfl, ⟨rfl, rfl, qa9, qb10, qc11, qd12, rfl, hD13⟩⟩ hF hS
   replace hS : St _ (_) (_ :: _ :: _ :: _ :: _ :: _) _ := hS
   refine wpl_sq hF hS (sq rfl (q_extract rfl rfl) <|
     sq rfl (q_extract rfl rfl) <|
     sq rfl (q_assign rfl) <|
     sq rfl (q_assign rfl) <|
     sq_end) ?_
   clear hF hS; intro a w hF hS
   refine wpList_nil ?_
   refine hK7 _ _ ?_
   clear hK7
   refine wp_ret ?_
   exact fn_retx (rs := [.tmp 4, .tmp 5]) rfl hF hS (vs := [_, _]) ⟨rfl, rfl, trivial⟩ [] [_, _, _, _] sQ (sQ.n.k.k.k.k) (Dk.dr_of (S := S) ⟨rfl, rfl, _, _, _, _, rfl, hD13⟩ (by rw [Dk.act_2 hc2]) (by rw [Dk.act_2 hc2]))
  ·refine wp_seq_k ?_; intro K8 hK8
   refine reg hF hS (sq rfl (q_eqi rfl rfl) <|
     sq rfl (q_assign rfl) <|
     sq_end) ?_
   clear hF hS; intro a w hF hS
   refine hK8 _ _ ?_
   clear hK8
   refine wp_ifd hF rfl (fun hc3 => ?_) (fun hc3 => ?_)
   ·refine wp_seq_k ?_; intro K9 hK9
    refine regl ?_
    refine wpl_sq hF hS (sq rfl (q_move rfl) <|
      sq_end) ?_
    clear hF hS; intro a w hF hS
    replace hS := hS.perm (.swap _ _ _)
    replace hS := hS.perm (.cons _ (.swap _ _ _))
    replace hS := hS.perm (.cons _ (.cons _ (.swap _ _ _)))
    replace hS := hS.perm (.cons _ (.cons _ (.cons _ (.swap _ _ _))))
    replace hS : St _ (_) (_ :: _ :: _ :: _ :: _ :: _) _ := hS
    refine wpl_ef hF hS rfl (ef_callx fn25 rfl (List.Perm.refl _) (by exact (dflush_ct _ _ _ _  hD))) ?_
    clear hF hS; rintro _ _ _ a w ⟨_, _, rfl, rfl, ⟨rfl, rfl, qa15, qb16, qc17, qd18, rfl, hD19⟩⟩ hF hS
    replace hS : St _ (_) (_ :: _ :: _ :: _ :: _ :: _) _ := hS
    refine wpl_sq hF hS (sq rfl (q_assign rfl) <|
      sq rfl (q_assign rfl) <|
      sq_end) ?_
    clear hF hS; intro a w hF hS
    refine wpList_nil ?_
    refine hK9 _ _ ?_
    clear hK9
    refine wp_ret ?_
    exact fn_retx (rs := [.tmp 4, .tmp 5]) rfl hF hS (vs := [_, _]) ⟨rfl, rfl, trivial⟩ [] [_, _, _, _] sQ (sQ.n.k.k.k.k) (Dk.dr_of (S := (Dk.flush S).1) ⟨rfl, rfl, _, _, _, _, rfl, hD19⟩ (by rw [Dk.act_3 hc3]) (by rw [Dk.act_3 hc3]))
   ·refine wp_seq_k ?_; intro K10 hK10
    refine reg hF hS (sq rfl (q_eqi rfl rfl) <|
      sq rfl (q_assign rfl) <|
      sq_end) ?_
    clear hF hS; intro a w hF hS
    refine hK10 _ _ ?_
    clear hK10
    refine wp_ifd hF rfl (fun hc4 => ?_) (fun hc4 => ?_)
    ·refine regl ?_
     refine wpl_sq hF hS (sq rfl (q_move rfl) <|
       sq rfl (q_fieldAddr ty33 rfl rfl (s' := 0) kQ) <|
       sq rfl (q_ld_blk1 ty3 0 rfl rfl rfl rfl) <|
       sq_end) ?_
     clear hF hS; intro a w hF hS
     replace hS := hS.perm (.swap _ _ _)
     replace hS := hS.perm (.cons _ (.swap _ _ _))
     replace hS := hS.perm (.cons _ (.cons _ (.swap _ _ _)))
     replace hS := hS.perm (.cons _ (.cons _ (.cons _ (.swap _ _ _))))
     replace hS : St _ (_) (_ :: _ :: _ :: _ :: _ :: _) _ := hS
     refine wpl_ef hF hS rfl (ef_callx fn30 rfl (List.Perm.refl _) (by exact (dtrip_ct _ _ _ (by omega) _ _  hD))) ?_
     clear hF hS; rintro _ _ _ a w ⟨_, _, rfl, rfl, ⟨rfl, rfl, qa21, qb22, qc23, qd24, rfl, hD25⟩⟩ hF hS
     replace hS : St _ (_) (_ :: _ :: _ :: _ :: _ :: _) _ := hS
     refine wpList_nil ?_
     refine hK2 _ _ ?_
     clear hK2
     refine wp_seq_k ?_; intro K11 hK11
     refine reg hF hS (sq rfl (q_assign rfl) <|
       sq rfl (q_assign rfl) <|
       sq_end) ?_
     clear hF hS; intro a w hF hS
     refine hK11 _ _ ?_
     clear hK11
     refine wp_ret ?_
     exact fn_retx (rs := [.tmp 4, .tmp 5]) rfl hF hS (vs := [_, _]) ⟨rfl, rfl, trivial⟩ [] [_, _, _, _] sQ (sQ.n.k.k.k.k) (Dk.dr_of (S := Dk.trip S i) ⟨rfl, rfl, _, _, _, _, rfl, hD25⟩ (by rw [Dk.act_4 hc4]) (by rw [Dk.act_4 hc4]))
    ·refine wp_seq_k ?_; intro K12 hK12
     refine reg hF hS (sq rfl (q_eqi rfl rfl) <|
       sq rfl (q_assign rfl) <|
       sq_end) ?_
     clear hF hS; intro a w hF hS
     refine hK12 _ _ ?_
     clear hK12
     refine wp_ifd hF rfl (fun hc5 => ?_) (fun hc5 => ?_)
     ·refine regl ?_
      refine wpl_sq hF hS (sq rfl (q_move rfl) <|
        sq rfl (q_fieldAddr ty33 rfl rfl (s' := 0) kQ) <|
        sq rfl (q_ld_blk1 ty31 0 rfl rfl rfl rfl) <|
        sq_end) ?_
      clear hF hS; intro a w hF hS
      replace hS := hS.perm (.swap _ _ _)
      replace hS := hS.perm (.cons _ (.swap _ _ _))
      replace hS := hS.perm (.cons _ (.cons _ (.swap _ _ _)))
      replace hS := hS.perm (.cons _ (.cons _ (.cons _ (.swap _ _ _))))
      replace hS : St _ (_) (_ :: _ :: _ :: _ :: _ :: _) _ := hS
      refine wpl_ef hF hS rfl (ef_callx fn26 rfl (List.Perm.refl _) (by exact (dmount_ct _ _ _ _ _ _ _ hps hz hD))) ?_
      clear hF hS; rintro _ _ _ a w ⟨_, _, rfl, rfl, ⟨rfl, rfl, qa27, qb28, qc29, qd30, rfl, hD31⟩⟩ hF hS
      replace hS : St _ (_) (_ :: _ :: _ :: _ :: _ :: _) _ := hS
      refine wpList_nil ?_
      refine hK2 _ _ ?_
      clear hK2
      refine wp_seq_k ?_; intro K13 hK13
      refine reg hF hS (sq rfl (q_assign rfl) <|
        sq rfl (q_assign rfl) <|
        sq_end) ?_
      clear hF hS; intro a w hF hS
      refine hK13 _ _ ?_
      clear hK13
      refine wp_ret ?_
      exact fn_retx (rs := [.tmp 4, .tmp 5]) rfl hF hS (vs := [_, _]) ⟨rfl, rfl, trivial⟩ [] [_, _, _, _] sQ (sQ.n.k.k.k.k) (Dk.dr_of (S := Dk.mount S ps) ⟨rfl, rfl, _, _, _, _, rfl, hD31⟩ (by rw [Dk.act_5 hc5]) (by rw [Dk.act_5 hc5]))
     ·refine wp_seq_k ?_; intro K14 hK14
      refine reg hF hS (sq rfl (q_eqi rfl rfl) <|
        sq rfl (q_assign rfl) <|
        sq_end) ?_
      clear hF hS; intro a w hF hS
      refine hK14 _ _ ?_
      clear hK14
      refine wp_ifd hF rfl (fun hc6 => ?_) (fun hc6 => ?_)
      ·refine wp_seq_k ?_; intro K15 hK15
       refine regl ?_
       refine wpl_sq hF hS (sq rfl (q_move rfl) <|
         sq rfl (q_fieldAddr ty33 rfl rfl (s' := 0) kQ) <|
         sq rfl (q_ld_blk1 ty3 0 rfl rfl rfl rfl) <|
         sq rfl (q_fieldAddr ty33 rfl rfl (s' := 0) kQ) <|
         sq rfl (q_ld_blk1 ty3 0 rfl rfl rfl rfl) <|
         sq_end) ?_
       clear hF hS; intro a w hF hS
       replace hS := hS.perm (.swap _ _ _)
       replace hS := hS.perm (.cons _ (.swap _ _ _))
       replace hS := hS.perm (.cons _ (.cons _ (.swap _ _ _)))
       replace hS := hS.perm (.cons _ (.cons _ (.cons _ (.swap _ _ _))))
       replace hS : St _ (_) (_ :: _ :: _ :: _ :: _ :: _) _ := hS
       refine wpl_ef hF hS rfl (ef_callx fn19 rfl (List.Perm.refl _) (by exact (drot_ct _ _ _ _ (by omega) (by omega) _ _  hD))) ?_
       clear hF hS; rintro _ _ _ a w ⟨_, _, rfl, rfl, ⟨rfl, rfl, qa33, qb34, qc35, qd36, rfl, hD37⟩⟩ hF hS
       replace hS : St _ (_) (_ :: _ :: _ :: _ :: _ :: _) _ := hS
       refine wpl_sq hF hS (sq rfl (q_assign rfl) <|
         sq rfl (q_assign rfl) <|
         sq_end) ?_
       clear hF hS; intro a w hF hS
       refine wpList_nil ?_
       refine hK15 _ _ ?_
       clear hK15
       refine wp_ret ?_
       exact fn_retx (rs := [.tmp 4, .tmp 5]) rfl hF hS (vs := [_, _]) ⟨rfl, rfl, trivial⟩ [] [_, _, _, _] sQ (sQ.n.k.k.k.k) (Dk.dr_of (S := (Dk.rot S i b).1) ⟨rfl, rfl, _, _, _, _, rfl, hD37⟩ (by rw [Dk.act_6 hc6]) (by rw [Dk.act_6 hc6]))
      ·refine wp_seq_k ?_; intro K16 hK16
       refine reg hF hS (sq rfl (q_eqi rfl rfl) <|
         sq rfl (q_assign rfl) <|
         sq_end) ?_
       clear hF hS; intro a w hF hS
       refine hK16 _ _ ?_
       clear hK16
       refine wp_ifd hF rfl (fun hc7 => ?_) (fun hc7 => ?_)
       ·refine wp_seq_k ?_; intro K17 hK17
        refine regl ?_
        refine wpl_sq hF hS (sq rfl (q_move rfl) <|
          sq rfl (q_fieldAddr ty33 rfl rfl (s' := 0) kQ) <|
          sq rfl (q_ld_blk1 ty3 0 rfl rfl rfl rfl) <|
          sq_end) ?_
        clear hF hS; intro a w hF hS
        replace hS := hS.perm (.swap _ _ _)
        replace hS := hS.perm (.cons _ (.swap _ _ _))
        replace hS := hS.perm (.cons _ (.cons _ (.swap _ _ _)))
        replace hS := hS.perm (.cons _ (.cons _ (.cons _ (.swap _ _ _))))
        replace hS : St _ (_) (_ :: _ :: _ :: _ :: _ :: _) _ := hS
        refine wpl_ef hF hS rfl (ef_callx fn20 rfl (List.Perm.refl _) (by exact (dwear_ct _ _ _ (by omega) _ _  hD))) ?_
        clear hF hS; rintro _ _ _ a w ⟨_, _, rfl, rfl, ⟨rfl, rfl, qa39, qb40, qc41, qd42, rfl, hD43⟩⟩ hF hS
        replace hS : St _ (_) (_ :: _ :: _ :: _ :: _ :: _) _ := hS
        refine wpl_sq hF hS (sq rfl (q_assign rfl) <|
          sq rfl (q_assign rfl) <|
          sq_end) ?_
        clear hF hS; intro a w hF hS
        refine wpList_nil ?_
        refine hK17 _ _ ?_
        clear hK17
        refine wp_ret ?_
        exact fn_retx (rs := [.tmp 4, .tmp 5]) rfl hF hS (vs := [_, _]) ⟨rfl, rfl, trivial⟩ [] [_, _, _, _] sQ (sQ.n.k.k.k.k) (Dk.dr_of (S := (Dk.wear S i).1) ⟨rfl, rfl, _, _, _, _, rfl, hD43⟩ (by rw [Dk.act_7 hc7]) (by rw [Dk.act_7 hc7]))
       ·refine wp_skip ?_
        refine hK2 _ _ ?_
        clear hK2
        refine wp_seq_k ?_; intro K18 hK18
        refine reg hF hS (sq rfl (q_assign rfl) <|
          sq rfl (q_assign rfl) <|
          sq_end) ?_
        clear hF hS; intro a w hF hS
        refine hK18 _ _ ?_
        clear hK18
        refine wp_ret ?_
        replace hS := hS.perm (.swap _ _ _)
        replace hS := hS.perm (.cons _ (.swap _ _ _))
        replace hS := hS.perm (.cons _ (.cons _ (.swap _ _ _)))
        replace hS := hS.perm (.cons _ (.cons _ (.cons _ (.swap _ _ _))))
        exact fn_retx (rs := [.tmp 4, .tmp 5]) rfl hF hS (vs := [_, _]) ⟨rfl, rfl, trivial⟩ [] [_, _, _, _] sQ (sQ.n.k.k.k.k) (Dk.dr_of (S := S) ⟨rfl, rfl, _, _, _, _, rfl, hD⟩ (by rw [Dk.act_8 hc1 hc2 hc3 hc4 hc5 hc6 hc7]) (by rw [Dk.act_8 hc1 hc2 hc3 hc4 hc5 hc6 hc7]))

set_option maxRecDepth 4000 in
set_option maxHeartbeats 2000000 in
theorem rdo_ct {bk : Nat} {v : Value} {S : Dk.Dsk} (k i b : Int) (t : List UInt8) (ps : List Int) (pv : Value) (hk : -9223372036854775808 ≤ k ∧ k ≤ 9223372036854775807) (hi : -9223372036854775808 ≤ i ∧ i ≤ 9223372036854775807) (hb : -9223372036854775808 ≤ b ∧ b ≤ 9223372036854775807) (ht : t.length ≤ 140737488355328) (w0 : World) (zsr : List PH) (z : PH) (hps : Sl Go.Fw.encI z pv ps) (hz : ZIn w0 zsr z) (hO : Dk.Ok S) : Cx Try.prog 12 [.pointer (some ⟨bk, 0, none⟩), .agg [vi k, vi i, vi b, vs t, pv].toArray] w0 zsr [RRB bk v S, RRW v S] (RRD bk v ((Dk.act S ⟨k, i, b, t, ps⟩).1) (.tuple [vs (Dk.act S ⟨k, i, b, t, ps⟩).2.1, vi (Dk.act S ⟨k, i, b, t, ps⟩).2.2].toArray)) := by
 refine fn_enterx Try.func12 rfl Try.ntmps12 (Nat.le_of_ble_eq_true rfl) fun hsr a w hF hS => ?_
 replace hS : St _ (_) (_ :: _ :: _) _ := hS
 have hlo := hO.lo
 have hhi := hO.hi
 have hlf := hO.lf
 have hlg := hO.lf2
 refine wp_seq_k ?_; intro K1 hK1
 refine regl ?_
 refine wpl_ef hF hS rfl (ef_boxA (cs := [vi k, vi i, vi b, vs t, pv]) rfl) ?_
 clear hF hS; rintro _ _ _ a w ⟨b1, rfl, rfl, rfl⟩ hF hS
 refine wpl_sq hF hS (sq rfl (q_assign rfl) <|
   sq rfl (q_assign rfl) <|
   sq_end) ?_
 clear hF hS; intro a w hF hS
 refine wpList_nil ?_
 refine hK1 _ _ ?_
 clear hK1
 refine wp_seq_k ?_; intro K2 hK2
 refine wp_seq_k ?_; intro K3 hK3
 refine reg hF hS (sq rfl (q_fieldAddr ty33 rfl rfl (s' := 0) kQ) <|
   sq rfl (q_ld_blk1 ty3 0 rfl rfl rfl rfl) <|
   sq_end) ?_
 clear hF hS; intro a w hF hS
 refine hK3 _ _ ?_
 clear hK3
 refine wp_block ?_
 refine wp_seq_k ?_; intro K4 hK4
 refine reg hF hS (sq rfl (q_eqi rfl rfl) <|
   sq rfl (q_assign rfl) <|
   sq_end) ?_
 clear hF hS; intro a w hF hS
 refine hK4 _ _ ?_
 clear hK4
 refine wp_ifd hF rfl (fun hc1 => ?_) (fun hc1 => ?_)
 ·refine wp_seq_k ?_; intro K5 hK5
  refine regt 5 mixed kQ hF hS (sq rfl (q_move rfl) <|
    sq rfl (q_fieldAddr ty33 rfl rfl (s' := 0) kQ) <|
    sq rfl (q_ld_blk1 ty3 0 rfl rfl rfl rfl) <|
    sq rfl (q_ld_blkW ty33 0 rfl rfl bQ rfl) <|
    sq rfl (q_call fn24 rfl (fun w hS => text_ct _ _ _ _ _ (sl_one' hps) w ) (fun _ _ _ h => h)) <|
    sq_end) ?_
  clear hF hS; intro a w hF hS
  replace hS := hS.perm (.swap _ _ _)
  replace hS := hS.perm (.cons _ (.swap _ _ _))
  replace hS : St _ (_) (_ :: _ :: _ :: _) _ := hS
  refine wpl_ef hF hS rfl (ef_callx fn33 rfl (List.Perm.refl _) (by exact (rwrite_ct _ _ _ _  (by first | assumption | exact Dk.ok_step (by assumption) | exact Dk.rst_ok (by assumption) _ _) (S := S) (v := v)))) ?_
  clear hF hS; rintro _ _ _ a w ⟨_, _, rfl, rfl, ⟨rfl, rfl, rfl⟩⟩ hF hS
  replace hS : St _ (_) (_ :: _ :: _ :: _) _ := hS
  refine wpl_sq hF hS (sq rfl (q_assign rfl) <|
    sq rfl (q_assign rfl) <|
    sq_end) ?_
  clear hF hS; intro a w hF hS
  refine wpList_nil ?_
  refine hK5 _ _ ?_
  clear hK5
  refine wp_ret ?_
  exact fn_retx (rs := [.tmp 4, .tmp 5]) rfl hF hS (vs := [_, _]) ⟨rfl, rfl, trivial⟩ [] [_, _] sQ (sQ.n.k.k) (Dk.rdr_of (S := (Dk.write S i (Dk.txt t)).1) ⟨rfl, rfl, rfl⟩ (by rw [Dk.act_1 hc1]) (by rw [Dk.act_1 hc1]))
 ·refine wp_seq_k ?_; intro K6 hK6
  refine reg hF hS (sq rfl (q_eqi rfl rfl) <|
    sq rfl (q_assign rfl) <|
    sq_end) ?_
  clear hF hS; intro a w hF hS
  refine hK6 _ _ ?_
  clear hK6
  refine wp_ifd hF rfl (fun hc2 => ?_) (fun hc2 => ?_)
  ·refine wp_seq_k ?_; intro K7 hK7
   refine regl ?_
   refine wpl_sq hF hS (sq rfl (q_move rfl) <|
     sq rfl (q_fieldAddr ty33 rfl rfl (s' := 0) kQ) <|
     sq rfl (q_ld_blk1 ty3 0 rfl rfl rfl rfl) <|
     sq_end) ?_
   clear hF hS; intro a w hF hS
   replace hS := hS.perm (.swap _ _ _)
   replace hS := hS.perm (.cons _ (.swap _ _ _))
   replace hS : St _ (_) (_ :: _ :: _ :: _) _ := hS
   refine wpl_ef hF hS rfl (ef_callx fn34 rfl (List.Perm.refl _) (by exact (rread_ct _ _ _  (by first | assumption | exact Dk.ok_step (by assumption) | exact Dk.rst_ok (by assumption) _ _) (S := S) (v := v)))) ?_
   clear hF hS; rintro _ _ _ a w ⟨_, _, rfl, rfl, ⟨rfl, rfl, rfl⟩⟩ hF hS
   replace hS : St _ (_) (_ :: _ :: _ :: _) _ := hS
   refine wpl_sq hF hS (sq rfl (q_extract rfl rfl) <|
     sq rfl (q_extract rfl rfl) <|
     sq rfl (q_assign rfl) <|
     sq rfl (q_assign rfl) <|
     sq_end) ?_
   clear hF hS; intro a w hF hS
   refine wpList_nil ?_
   refine hK7 _ _ ?_
   clear hK7
   refine wp_ret ?_
   exact fn_retx (rs := [.tmp 4, .tmp 5]) rfl hF hS (vs := [_, _]) ⟨rfl, rfl, trivial⟩ [] [_, _] sQ (sQ.n.k.k) (Dk.rdr_of (S := S) ⟨rfl, rfl, rfl⟩ (by rw [Dk.act_2 hc2]) (by rw [Dk.act_2 hc2]))
  ·refine wp_seq_k ?_; intro K8 hK8
   refine reg hF hS (sq rfl (q_eqi rfl rfl) <|
     sq rfl (q_assign rfl) <|
     sq_end) ?_
   clear hF hS; intro a w hF hS
   refine hK8 _ _ ?_
   clear hK8
   refine wp_ifd hF rfl (fun hc3 => ?_) (fun hc3 => ?_)
   ·refine wp_seq_k ?_; intro K9 hK9
    refine regl ?_
    refine wpl_sq hF hS (sq rfl (q_move rfl) <|
      sq_end) ?_
    clear hF hS; intro a w hF hS
    replace hS := hS.perm (.swap _ _ _)
    replace hS := hS.perm (.cons _ (.swap _ _ _))
    replace hS : St _ (_) (_ :: _ :: _ :: _) _ := hS
    refine wpl_ef hF hS rfl (ef_callx fn35 rfl (List.Perm.refl _) (by exact (rflush_ct _ _  (by first | assumption | exact Dk.ok_step (by assumption) | exact Dk.rst_ok (by assumption) _ _) (S := S) (v := v)))) ?_
    clear hF hS; rintro _ _ _ a w ⟨_, _, rfl, rfl, ⟨rfl, rfl, rfl⟩⟩ hF hS
    replace hS : St _ (_) (_ :: _ :: _ :: _) _ := hS
    refine wpl_sq hF hS (sq rfl (q_assign rfl) <|
      sq rfl (q_assign rfl) <|
      sq_end) ?_
    clear hF hS; intro a w hF hS
    refine wpList_nil ?_
    refine hK9 _ _ ?_
    clear hK9
    refine wp_ret ?_
    exact fn_retx (rs := [.tmp 4, .tmp 5]) rfl hF hS (vs := [_, _]) ⟨rfl, rfl, trivial⟩ [] [_, _] sQ (sQ.n.k.k) (Dk.rdr_of (S := (Dk.flush S).1) ⟨rfl, rfl, rfl⟩ (by rw [Dk.act_3 hc3]) (by rw [Dk.act_3 hc3]))
   ·refine wp_seq_k ?_; intro K10 hK10
    refine reg hF hS (sq rfl (q_eqi rfl rfl) <|
      sq rfl (q_assign rfl) <|
      sq_end) ?_
    clear hF hS; intro a w hF hS
    refine hK10 _ _ ?_
    clear hK10
    refine wp_ifd hF rfl (fun hc4 => ?_) (fun hc4 => ?_)
    ·refine regl ?_
     refine wpl_sq hF hS (sq rfl (q_move rfl) <|
       sq rfl (q_fieldAddr ty33 rfl rfl (s' := 0) kQ) <|
       sq rfl (q_ld_blk1 ty3 0 rfl rfl rfl rfl) <|
       sq_end) ?_
     clear hF hS; intro a w hF hS
     replace hS := hS.perm (.swap _ _ _)
     replace hS := hS.perm (.cons _ (.swap _ _ _))
     replace hS : St _ (_) (_ :: _ :: _ :: _) _ := hS
     refine wpl_ef hF hS rfl (ef_callx fn36 rfl (List.Perm.refl _) (by exact (rtrip_ct _ _ _  (by first | assumption | exact Dk.ok_step (by assumption) | exact Dk.rst_ok (by assumption) _ _) (S := S) (v := v)))) ?_
     clear hF hS; rintro _ _ _ a w ⟨_, _, rfl, rfl, ⟨rfl, rfl, rfl⟩⟩ hF hS
     replace hS : St _ (_) (_ :: _ :: _ :: _) _ := hS
     refine wpList_nil ?_
     refine hK2 _ _ ?_
     clear hK2
     refine wp_seq_k ?_; intro K11 hK11
     refine reg hF hS (sq rfl (q_assign rfl) <|
       sq rfl (q_assign rfl) <|
       sq_end) ?_
     clear hF hS; intro a w hF hS
     refine hK11 _ _ ?_
     clear hK11
     refine wp_ret ?_
     exact fn_retx (rs := [.tmp 4, .tmp 5]) rfl hF hS (vs := [_, _]) ⟨rfl, rfl, trivial⟩ [] [_, _] sQ (sQ.n.k.k) (Dk.rdr_of (S := Dk.trip S i) ⟨rfl, rfl, rfl⟩ (by rw [Dk.act_4 hc4]) (by rw [Dk.act_4 hc4]))
    ·refine wp_seq_k ?_; intro K12 hK12
     refine reg hF hS (sq rfl (q_eqi rfl rfl) <|
       sq rfl (q_assign rfl) <|
       sq_end) ?_
     clear hF hS; intro a w hF hS
     refine hK12 _ _ ?_
     clear hK12
     refine wp_ifd hF rfl (fun hc5 => ?_) (fun hc5 => ?_)
     ·refine regl ?_
      refine wpl_sq hF hS (sq rfl (q_move rfl) <|
        sq rfl (q_fieldAddr ty33 rfl rfl (s' := 0) kQ) <|
        sq rfl (q_ld_blk1 ty31 0 rfl rfl rfl rfl) <|
        sq_end) ?_
      clear hF hS; intro a w hF hS
      replace hS := hS.perm (.swap _ _ _)
      replace hS := hS.perm (.cons _ (.swap _ _ _))
      replace hS : St _ (_) (_ :: _ :: _ :: _) _ := hS
      refine wpl_ef hF hS rfl (ef_callx fn37 rfl (List.Perm.refl _) (by exact (rmount_ct _ _ _ _ _ hps hz (by first | assumption | exact Dk.ok_step (by assumption) | exact Dk.rst_ok (by assumption) _ _) (S := S) (v := v)))) ?_
      clear hF hS; rintro _ _ _ a w ⟨_, _, rfl, rfl, ⟨rfl, rfl, rfl⟩⟩ hF hS
      replace hS : St _ (_) (_ :: _ :: _ :: _) _ := hS
      refine wpList_nil ?_
      refine hK2 _ _ ?_
      clear hK2
      refine wp_seq_k ?_; intro K13 hK13
      refine reg hF hS (sq rfl (q_assign rfl) <|
        sq rfl (q_assign rfl) <|
        sq_end) ?_
      clear hF hS; intro a w hF hS
      refine hK13 _ _ ?_
      clear hK13
      refine wp_ret ?_
      exact fn_retx (rs := [.tmp 4, .tmp 5]) rfl hF hS (vs := [_, _]) ⟨rfl, rfl, trivial⟩ [] [_, _] sQ (sQ.n.k.k) (Dk.rdr_of (S := Dk.mount S ps) ⟨rfl, rfl, rfl⟩ (by rw [Dk.act_5 hc5]) (by rw [Dk.act_5 hc5]))
     ·refine wp_seq_k ?_; intro K14 hK14
      refine reg hF hS (sq rfl (q_eqi rfl rfl) <|
        sq rfl (q_assign rfl) <|
        sq_end) ?_
      clear hF hS; intro a w hF hS
      refine hK14 _ _ ?_
      clear hK14
      refine wp_ifd hF rfl (fun hc6 => ?_) (fun hc6 => ?_)
      ·refine wp_seq_k ?_; intro K15 hK15
       refine regl ?_
       refine wpl_sq hF hS (sq rfl (q_move rfl) <|
         sq rfl (q_fieldAddr ty33 rfl rfl (s' := 0) kQ) <|
         sq rfl (q_ld_blk1 ty3 0 rfl rfl rfl rfl) <|
         sq rfl (q_fieldAddr ty33 rfl rfl (s' := 0) kQ) <|
         sq rfl (q_ld_blk1 ty3 0 rfl rfl rfl rfl) <|
         sq_end) ?_
       clear hF hS; intro a w hF hS
       replace hS := hS.perm (.swap _ _ _)
       replace hS := hS.perm (.cons _ (.swap _ _ _))
       replace hS : St _ (_) (_ :: _ :: _ :: _) _ := hS
       refine wpl_ef hF hS rfl (ef_callx fn38 rfl (List.Perm.refl _) (by exact (rrot_ct _ _ (by omega) _ _  (by first | assumption | exact Dk.ok_step (by assumption) | exact Dk.rst_ok (by assumption) _ _) (S := S) (v := v)))) ?_
       clear hF hS; rintro _ _ _ a w ⟨_, _, rfl, rfl, ⟨rfl, rfl, rfl⟩⟩ hF hS
       replace hS : St _ (_) (_ :: _ :: _ :: _) _ := hS
       refine wpl_sq hF hS (sq rfl (q_assign rfl) <|
         sq rfl (q_assign rfl) <|
         sq_end) ?_
       clear hF hS; intro a w hF hS
       refine wpList_nil ?_
       refine hK15 _ _ ?_
       clear hK15
       refine wp_ret ?_
       exact fn_retx (rs := [.tmp 4, .tmp 5]) rfl hF hS (vs := [_, _]) ⟨rfl, rfl, trivial⟩ [] [_, _] sQ (sQ.n.k.k) (Dk.rdr_of (S := (Dk.rot S i b).1) ⟨rfl, rfl, rfl⟩ (by rw [Dk.act_6 hc6]) (by rw [Dk.act_6 hc6]))
      ·refine wp_seq_k ?_; intro K16 hK16
       refine reg hF hS (sq rfl (q_eqi rfl rfl) <|
         sq rfl (q_assign rfl) <|
         sq_end) ?_
       clear hF hS; intro a w hF hS
       refine hK16 _ _ ?_
       clear hK16
       refine wp_ifd hF rfl (fun hc7 => ?_) (fun hc7 => ?_)
       ·refine wp_seq_k ?_; intro K17 hK17
        refine regl ?_
        refine wpl_sq hF hS (sq rfl (q_move rfl) <|
          sq rfl (q_fieldAddr ty33 rfl rfl (s' := 0) kQ) <|
          sq rfl (q_ld_blk1 ty3 0 rfl rfl rfl rfl) <|
          sq_end) ?_
        clear hF hS; intro a w hF hS
        replace hS := hS.perm (.swap _ _ _)
        replace hS := hS.perm (.cons _ (.swap _ _ _))
        replace hS : St _ (_) (_ :: _ :: _ :: _) _ := hS
        refine wpl_ef hF hS rfl (ef_callx fn39 rfl (List.Perm.refl _) (by exact (rwear_ct _ _ _  (by first | assumption | exact Dk.ok_step (by assumption) | exact Dk.rst_ok (by assumption) _ _) (S := S) (v := v)))) ?_
        clear hF hS; rintro _ _ _ a w ⟨_, _, rfl, rfl, ⟨rfl, rfl, rfl⟩⟩ hF hS
        replace hS : St _ (_) (_ :: _ :: _ :: _) _ := hS
        refine wpl_sq hF hS (sq rfl (q_assign rfl) <|
          sq rfl (q_assign rfl) <|
          sq_end) ?_
        clear hF hS; intro a w hF hS
        refine wpList_nil ?_
        refine hK17 _ _ ?_
        clear hK17
        refine wp_ret ?_
        exact fn_retx (rs := [.tmp 4, .tmp 5]) rfl hF hS (vs := [_, _]) ⟨rfl, rfl, trivial⟩ [] [_, _] sQ (sQ.n.k.k) (Dk.rdr_of (S := (Dk.wear S i).1) ⟨rfl, rfl, rfl⟩ (by rw [Dk.act_7 hc7]) (by rw [Dk.act_7 hc7]))
       ·refine wp_skip ?_
        refine hK2 _ _ ?_
        clear hK2
        refine wp_seq_k ?_; intro K18 hK18
        refine reg hF hS (sq rfl (q_assign rfl) <|
          sq rfl (q_assign rfl) <|
          sq_end) ?_
        clear hF hS; intro a w hF hS
        refine hK18 _ _ ?_
        clear hK18
        refine wp_ret ?_
        replace hS := hS.perm (.swap _ _ _)
        replace hS := hS.perm (.cons _ (.swap _ _ _))
        exact fn_retx (rs := [.tmp 4, .tmp 5]) rfl hF hS (vs := [_, _]) ⟨rfl, rfl, trivial⟩ [] [_, _] sQ (sQ.n.k.k) (Dk.rdr_of (S := S) ⟨rfl, rfl, rfl⟩ (by rw [Dk.act_8 hc1 hc2 hc3 hc4 hc5 hc6 hc7]) (by rw [Dk.act_8 hc1 hc2 hc3 hc4 hc5 hc6 hc7]))

set_option maxRecDepth 4000 in
set_option maxHeartbeats 2000000 in
theorem start_ct (n : Nat) (hn : 1 ≤ n ∧ n ≤ 64) (w : World) : Ct Try.prog 10 [vi (n : Int)] w (fun r zs hs => zs = [] ∧ ∃ (h : Dk.Hd) (b : Nat) (v : Value) (q1 q2 q3 q4 : Res), r = .tuple [.pointer (some ⟨h.b, 0, none⟩), .pointer (some ⟨b, 0, none⟩), .bool true].toArray ∧ hs = [q1, q2, q3, q4, RRB b v (Dk.new n), RRW v (Dk.new n)] ∧ DD h (Dk.new n) q1 q2 q3 q4) := by
 refine fn_enter Try.func10 rfl Try.ntmps10 (Nat.le_of_ble_eq_true rfl) fun a hF hS => ?_
 refine wp_seq_k ?_; intro K1 hK1
 refine reg hF hS (sq rfl (q_assign rfl) <|
   sq rfl (q_assign rfl) <|
   sq rfl (q_assign rfl) <|
   sq_end) ?_
 clear hF hS; intro a w hF hS
 refine hK1 _ _ ?_
 clear hK1
 refine wp_seq_k ?_; intro K2 hK2
 refine wp_seq_k ?_; intro K3 hK3
 refine regl ?_
 refine wpl_sq hF hS (sq rfl (q_move rfl) <|
   sq rfl (q_lti rfl rfl) <|
   sq rfl (q_move rfl) <|
   sq_end) ?_
 clear hF hS; intro a w hF hS
 refine wpl_or 2 11 2 hF hS rfl rfl rfl rfl rfl (fun hg => have hg := (by first | exact of_decide_eq_false hg | exact hg); sq_go 11 rfl rfl rfl (q_move rfl) <|
   sq_go 11 rfl rfl rfl (q_gti rfl rfl) <|
   sq_end) rfl rfl ?_
 clear hF hS; intro a w hF hS
 refine wpList_nil ?_
 refine hK3 _ _ ?_
 clear hK3
 refine wp_if hF rfl (fun hc1 => ?_) (fun hc1 => ?_)
 ·(try simp only [Bool.or_eq_true, Bool.and_eq_true, Bool.or_eq_false_iff, Bool.and_eq_false_iff, decide_eq_true_eq, decide_eq_false_iff_not, Bool.not_eq_true', Bool.not_eq_false'] at hc1)
  exfalso; omega
 ·(try simp only [Bool.or_eq_true, Bool.and_eq_true, Bool.or_eq_false_iff, Bool.and_eq_false_iff, decide_eq_true_eq, decide_eq_false_iff_not, Bool.not_eq_true', Bool.not_eq_false'] at hc1)
  refine wp_skip ?_
  refine hK2 _ _ ?_
  clear hK2
  refine wp_seq_k ?_; intro K4 hK4
  refine regl ?_
  refine wpl_sq hF hS (sq rfl (q_move rfl) <|
    sq_end) ?_
  clear hF hS; intro a w hF hS
  refine wpl_ef hF hS rfl (ef_call fn14 rfl (fun w hS => dnew_ct _ (by omega) w )) ?_
  clear hF hS; rintro _ _ _ a w ⟨_, _, rfl, rfl, ⟨rfl, hh2, qa3, qb4, qc5, qd6, rfl, rfl, hD7⟩⟩ hF hS
  replace hS : St _ [] [_, _, _, _] _ := hS
  refine wpl_sq hF hS (sq rfl (q_move rfl) <|
    sq rfl (q_extract rfl rfl) <|
    sq rfl (q_extract rfl rfl) <|
    sq rfl (q_assign rfl) <|
    sq rfl (q_assign rfl) <|
    sq_end) ?_
  clear hF hS; intro a w hF hS
  refine wpList_nil ?_
  refine hK4 _ _ ?_
  clear hK4
  refine wp_seq_k ?_; intro K5 hK5
  refine regl ?_
  refine wpl_sq hF hS (sq rfl (q_move rfl) <|
    sq_end) ?_
  clear hF hS; intro a w hF hS
  refine wpl_ef hF hS rfl (ef_call fn32 rfl (fun w hS => rnew_ct _ (by omega) w )) ?_
  clear hF hS; rintro _ _ _ a w ⟨_, _, rfl, rfl, ⟨rfl, bb13, vv14, rfl, rfl⟩⟩ hF hS
  replace hS : St _ [] [_, _, _, _, _, _] _ := hS
  refine wpl_sq hF hS (sq rfl (q_move rfl) <|
    sq rfl (q_extract rfl rfl) <|
    sq rfl (q_extract rfl rfl) <|
    sq rfl (q_assign rfl) <|
    sq rfl (q_assign rfl) <|
    sq_end) ?_
  clear hF hS; intro a w hF hS
  refine wpList_nil ?_
  refine hK5 _ _ ?_
  clear hK5
  refine wp_seq_k ?_; intro K6 hK6
  refine reg hF hS (sq rfl (q_move rfl) <|
    sq rfl (q_move rfl) <|
    sq rfl (q_move rfl) <|
    sq rfl (q_dt (q_eqi rfl rfl) (by simp)) <|
    sq rfl (q_move rfl) <|
    sq_go 29 rfl rfl rfl (q_move rfl) <|
    sq_go 29 rfl rfl rfl (q_dt (q_eqi rfl rfl) (by simp)) <|
    sq rfl (q_pick_t rfl rfl) <|
    sq rfl (q_move rfl) <|
    sq_go 33 rfl rfl rfl (q_move rfl) <|
    sq_go 33 rfl rfl rfl (q_nepn_t ty24 rfl rfl) <|
    sq rfl (q_pick_t rfl rfl) <|
    sq rfl (q_assign rfl) <|
    sq rfl (q_assign rfl) <|
    sq rfl (q_assign rfl) <|
    sq_end) ?_
  clear hF hS; intro a w hF hS
  refine hK6 _ _ ?_
  clear hK6
  refine wp_ret ?_
  replace hS := hS.perm (.cons _ (.swap _ _ _))
  replace hS := hS.perm (.swap _ _ _)
  replace hS := hS.perm (.cons _ (.cons _ (.swap _ _ _)))
  replace hS := hS.perm (.cons _ (.swap _ _ _))
  replace hS := hS.perm (.cons _ (.cons _ (.cons _ (.swap _ _ _))))
  replace hS := hS.perm (.cons _ (.cons _ (.swap _ _ _)))
  replace hS := hS.perm (.cons _ (.cons _ (.cons _ (.cons _ (.swap _ _ _)))))
  replace hS := hS.perm (.cons _ (.cons _ (.cons _ (.swap _ _ _))))
  exact fn_ret (rs := [.tmp 2, .tmp 3, .tmp 4]) rfl hF hS (vs := [_, _, _]) ⟨rfl, rfl, rfl, trivial⟩ sQ sQ ⟨rfl, hh2, bb13, vv14, _, _, _, _, rfl, rfl, hD7⟩

set_option maxRecDepth 4000 in
set_option maxHeartbeats 2000000 in
theorem startx_ct (n : Int) (hn : ¬ (1 ≤ n ∧ n ≤ 64)) (w : World) : Ct Try.prog 10 [vi n] w (fun r _ _ => r = .tuple [.pointer none, .pointer none, .bool false].toArray) := by
 refine fn_enter Try.func10 rfl Try.ntmps10 (Nat.le_of_ble_eq_true rfl) fun a hF hS => ?_
 refine wp_seq_k ?_; intro K1 hK1
 refine reg hF hS (sq rfl (q_assign rfl) <|
   sq rfl (q_assign rfl) <|
   sq rfl (q_assign rfl) <|
   sq_end) ?_
 clear hF hS; intro a w hF hS
 refine hK1 _ _ ?_
 clear hK1
 refine wp_seq_k ?_; intro K2 hK2
 refine wp_seq_k ?_; intro K3 hK3
 refine regl ?_
 refine wpl_sq hF hS (sq rfl (q_move rfl) <|
   sq rfl (q_lti rfl rfl) <|
   sq rfl (q_move rfl) <|
   sq_end) ?_
 clear hF hS; intro a w hF hS
 refine wpl_or 2 11 2 hF hS rfl rfl rfl rfl rfl (fun hg => have hg := (by first | exact of_decide_eq_false hg | exact hg); sq_go 11 rfl rfl rfl (q_move rfl) <|
   sq_go 11 rfl rfl rfl (q_gti rfl rfl) <|
   sq_end) rfl rfl ?_
 clear hF hS; intro a w hF hS
 refine wpList_nil ?_
 refine hK3 _ _ ?_
 clear hK3
 refine wp_if hF rfl (fun hc1 => ?_) (fun hc1 => ?_)
 ·(try simp only [Bool.or_eq_true, Bool.and_eq_true, Bool.or_eq_false_iff, Bool.and_eq_false_iff, decide_eq_true_eq, decide_eq_false_iff_not, Bool.not_eq_true', Bool.not_eq_false'] at hc1)
  refine wp_seq_k ?_; intro K4 hK4
  refine reg hF hS (sq rfl (q_assign rfl) <|
    sq rfl (q_assign rfl) <|
    sq rfl (q_assign rfl) <|
    sq_end) ?_
  clear hF hS; intro a w hF hS
  refine hK4 _ _ ?_
  clear hK4
  refine wp_ret ?_
  exact fn_ret (rs := [.tmp 2, .tmp 3, .tmp 4]) rfl hF hS (vs := [_, _, _]) ⟨rfl, rfl, rfl, trivial⟩ zQ zQ (rfl)
 ·(try simp only [Bool.or_eq_true, Bool.and_eq_true, Bool.or_eq_false_iff, Bool.and_eq_false_iff, decide_eq_true_eq, decide_eq_false_iff_not, Bool.not_eq_true', Bool.not_eq_false'] at hc1)
  exfalso; omega

theorem sametexts_t (va vb9 : Value) (xs : List (List UInt8)) (w : World) (hb1 : Sl Go.Fw.encS (ph w) va xs) (hb2 : Sl Go.Fw.encS (ph w) vb9 xs) : Ct Try.prog 21 [va, vb9] w (fun r _ _ => r = .bool true) := by
 have h := sametexts_ct va vb9 xs xs w hb1 hb2
 rw [decide_eq_true (rfl : xs = xs)] at h
 exact h

theorem sameints_t (va vb9 : Value) (xs : List (Int)) (w : World) (hb1 : Sl Go.Fw.encI (ph w) va xs) (hb2 : Sl Go.Fw.encI (ph w) vb9 xs) : Ct Try.prog 41 [va, vb9] w (fun r _ _ => r = .bool true) := by
 have h := sameints_ct va vb9 xs xs w hb1 hb2
 rw [decide_eq_true (rfl : xs = xs)] at h
 exact h

set_option maxRecDepth 4000 in
set_option maxHeartbeats 2000000 in
theorem same_ct (h : Dk.Hd) {bk : Nat} {v : Value} (S : Dk.Dsk) (w0 : World) (zsr : List PH) {r1 r2 r3 r4 : Res} (hD : DD h S r1 r2 r3 r4) : Cx Try.prog 13 [.pointer (some ⟨h.b, 0, none⟩), .pointer (some ⟨bk, 0, none⟩)] w0 zsr [r1, r2, r3, r4, RRB bk v S, RRW v S] (fun r zs hs => r = .bool true ∧ zs = [] ∧ ∃ q1 q2 q3 q4, hs = [q1, q2, q3, q4, RRB bk v S, RRW v S] ∧ DD h S q1 q2 q3 q4) := by
 refine fn_enterx Try.func13 rfl Try.ntmps13 (Nat.le_of_ble_eq_true rfl) fun hsr a w hF hS => ?_
 replace hS : St _ (_) (_ :: _ :: _ :: _ :: _ :: _ :: _) _ := hS
 have hO := Dk.DOk.ok hD
 have hlo := hO.lo
 have hhi := hO.hi
 have hlf := hO.lf
 have hlg := hO.lf2
 have hil := Dk.image_len S
 have hdl := Dk.dix_len S
 have hwl := Dk.wix_len S
 refine wp_seq_k ?_; intro K1 hK1
 refine reg hF hS (sq rfl (q_assign rfl) <|
   sq_end) ?_
 clear hF hS; intro a w hF hS
 refine hK1 _ _ ?_
 clear hK1
 refine wp_seq_k ?_; intro K2 hK2
 refine regl ?_
 refine wpl_sq hF hS (sq rfl (q_move rfl) <|
   sq_end) ?_
 clear hF hS; intro a w hF hS
 refine wpl_ef hF hS rfl (ef_callx fn15 rfl (List.Perm.refl _) (by exact (dimage_ct _ _ _ _  hD))) ?_
 clear hF hS; rintro v1 _ _ a w ⟨_, _, rfl, rfl, ⟨rfl, qa2, qb3, qc4, qd5, rfl, hD6⟩⟩ hF hS
 replace hS : St _ (_) (_ :: _ :: _ :: _ :: _ :: _ :: _ :: _) _ := hS
 refine wpl_sq hF hS (sq rfl (q_move rfl) <|
   sq_end) ?_
 clear hF hS; intro a w hF hS
 replace hS := hS.perm (.cons _ (.cons _ (.cons _ (.cons _ (.swap _ _ _)))))
 replace hS := hS.perm (.cons _ (.cons _ (.cons _ (.swap _ _ _))))
 replace hS := hS.perm (.cons _ (.cons _ (.swap _ _ _)))
 replace hS := hS.perm (.cons _ (.swap _ _ _))
 replace hS := hS.perm (.swap _ _ _)
 replace hS := hS.perm (.cons _ (.cons _ (.cons _ (.cons _ (.cons _ (.swap _ _ _))))))
 replace hS := hS.perm (.cons _ (.cons _ (.cons _ (.cons _ (.swap _ _ _)))))
 replace hS := hS.perm (.cons _ (.cons _ (.cons _ (.swap _ _ _))))
 replace hS := hS.perm (.cons _ (.cons _ (.swap _ _ _)))
 replace hS := hS.perm (.cons _ (.swap _ _ _))
 replace hS : St _ (_) (_ :: _ :: _ :: _ :: _ :: _ :: _ :: _) _ := hS
 refine wpl_ef hF hS rfl (ef_callx fn40 rfl (List.Perm.refl _) (by exact (rimage_ct _ _  (by first | assumption | exact Dk.ok_step (by assumption) | exact Dk.rst_ok (by assumption) _ _) (S := S) (v := v)))) ?_
 clear hF hS; rintro v8 _ _ a w ⟨_, _, rfl, rfl, ⟨rfl, rfl⟩⟩ hF hS
 replace hS : St _ (_) (_ :: _ :: _ :: _ :: _ :: _ :: _ :: _ :: _) _ := hS
 refine wpl_sq hF hS (sq rfl (q_call fn21 rfl (fun w hS => sametexts_t _ _ _ w (own_slV (f := vs) (xs := (Dk.image S)) (hS.own _ (List.mem_of_getElem? (i := 3) rfl)).1 (Dk.image_64 hO) rfl (by first | decide | omega)) (own_slV (f := vs) (xs := (Dk.image S)) (hS.own _ (List.mem_of_getElem? (i := 0) rfl)).1 (Dk.image_64 hO) rfl (by first | decide | omega))) (fun _ _ _ h => h)) <|
   sq rfl (q_assign rfl) <|
   sq_end) ?_
 clear hF hS; intro a w hF hS
 refine wpList_nil ?_
 refine hK2 _ _ ?_
 clear hK2
 refine wp_seq_k ?_; intro K3 hK3
 refine regl ?_
 refine wpl_sq hF hS (sq rfl (q_move rfl) <|
   sq_end) ?_
 clear hF hS; intro a w hF hS
 replace hS := hS.perm (.cons _ (.cons _ (.cons _ (.swap _ _ _))))
 replace hS := hS.perm (.cons _ (.cons _ (.swap _ _ _)))
 replace hS := hS.perm (.cons _ (.swap _ _ _))
 replace hS := hS.perm (.swap _ _ _)
 replace hS := hS.perm (.cons _ (.cons _ (.cons _ (.cons _ (.swap _ _ _)))))
 replace hS := hS.perm (.cons _ (.cons _ (.cons _ (.swap _ _ _))))
 replace hS := hS.perm (.cons _ (.cons _ (.swap _ _ _)))
 replace hS := hS.perm (.cons _ (.swap _ _ _))
 replace hS := hS.perm (.cons _ (.cons _ (.cons _ (.cons _ (.cons _ (.swap _ _ _))))))
 replace hS := hS.perm (.cons _ (.cons _ (.cons _ (.cons _ (.swap _ _ _)))))
 replace hS := hS.perm (.cons _ (.cons _ (.cons _ (.swap _ _ _))))
 replace hS := hS.perm (.cons _ (.cons _ (.swap _ _ _)))
 replace hS := hS.perm (.cons _ (.cons _ (.cons _ (.cons _ (.cons _ (.cons _ (.swap _ _ _)))))))
 replace hS := hS.perm (.cons _ (.cons _ (.cons _ (.cons _ (.cons _ (.swap _ _ _))))))
 replace hS := hS.perm (.cons _ (.cons _ (.cons _ (.cons _ (.swap _ _ _)))))
 replace hS := hS.perm (.cons _ (.cons _ (.cons _ (.swap _ _ _))))
 replace hS : St _ (_) (_ :: _ :: _ :: _ :: _ :: _ :: _ :: _ :: _) _ := hS
 refine wpl_ef hF hS rfl (ef_callx fn22 rfl (List.Perm.refl _) (by exact (dpending_ct _ _ _ _  hD6))) ?_
 clear hF hS; rintro v10 _ _ a w ⟨_, _, rfl, rfl, ⟨rfl, qa11, qb12, qc13, qd14, rfl, hD15⟩⟩ hF hS
 replace hS : St _ (_) (_ :: _ :: _ :: _ :: _ :: _ :: _ :: _ :: _ :: _) _ := hS
 refine wpl_sq hF hS (sq rfl (q_move rfl) <|
   sq_end) ?_
 clear hF hS; intro a w hF hS
 replace hS := hS.perm (.cons _ (.cons _ (.cons _ (.cons _ (.cons _ (.swap _ _ _))))))
 replace hS := hS.perm (.cons _ (.cons _ (.cons _ (.cons _ (.swap _ _ _)))))
 replace hS := hS.perm (.cons _ (.cons _ (.cons _ (.swap _ _ _))))
 replace hS := hS.perm (.cons _ (.cons _ (.swap _ _ _)))
 replace hS := hS.perm (.cons _ (.swap _ _ _))
 replace hS := hS.perm (.swap _ _ _)
 replace hS := hS.perm (.cons _ (.cons _ (.cons _ (.cons _ (.cons _ (.cons _ (.swap _ _ _)))))))
 replace hS := hS.perm (.cons _ (.cons _ (.cons _ (.cons _ (.cons _ (.swap _ _ _))))))
 replace hS := hS.perm (.cons _ (.cons _ (.cons _ (.cons _ (.swap _ _ _)))))
 replace hS := hS.perm (.cons _ (.cons _ (.cons _ (.swap _ _ _))))
 replace hS := hS.perm (.cons _ (.cons _ (.swap _ _ _)))
 replace hS := hS.perm (.cons _ (.swap _ _ _))
 replace hS : St _ (_) (_ :: _ :: _ :: _ :: _ :: _ :: _ :: _ :: _ :: _) _ := hS
 refine wpl_ef hF hS rfl (ef_callx fn42 rfl (List.Perm.refl _) (by exact (rpending_ct _ _  (by first | assumption | exact Dk.ok_step (by assumption) | exact Dk.rst_ok (by assumption) _ _) (S := S) (v := v)))) ?_
 clear hF hS; rintro v17 _ _ a w ⟨_, _, rfl, rfl, ⟨rfl, rfl⟩⟩ hF hS
 replace hS : St _ (_) (_ :: _ :: _ :: _ :: _ :: _ :: _ :: _ :: _ :: _ :: _) _ := hS
 refine wpl_sq hF hS (sq rfl (q_call fn41 rfl (fun w hS => sameints_t _ _ _ w (own_slV (f := vi) (xs := (Dk.dix S)) (hS.own _ (List.mem_of_getElem? (i := 3) rfl)).1 (Dk.dix_i64 hO) rfl (by first | decide | omega)) (own_slV (f := vi) (xs := (Dk.dix S)) (hS.own _ (List.mem_of_getElem? (i := 0) rfl)).1 (Dk.dix_i64 hO) rfl (by first | decide | omega))) (fun _ _ _ h => h)) <|
   sq rfl (q_assign rfl) <|
   sq_end) ?_
 clear hF hS; intro a w hF hS
 refine wpList_nil ?_
 refine hK3 _ _ ?_
 clear hK3
 refine wp_seq_k ?_; intro K4 hK4
 refine regl ?_
 refine wpl_sq hF hS (sq rfl (q_move rfl) <|
   sq_end) ?_
 clear hF hS; intro a w hF hS
 replace hS := hS.perm (.cons _ (.cons _ (.cons _ (.swap _ _ _))))
 replace hS := hS.perm (.cons _ (.cons _ (.swap _ _ _)))
 replace hS := hS.perm (.cons _ (.swap _ _ _))
 replace hS := hS.perm (.swap _ _ _)
 replace hS := hS.perm (.cons _ (.cons _ (.cons _ (.cons _ (.swap _ _ _)))))
 replace hS := hS.perm (.cons _ (.cons _ (.cons _ (.swap _ _ _))))
 replace hS := hS.perm (.cons _ (.cons _ (.swap _ _ _)))
 replace hS := hS.perm (.cons _ (.swap _ _ _))
 replace hS := hS.perm (.cons _ (.cons _ (.cons _ (.cons _ (.cons _ (.swap _ _ _))))))
 replace hS := hS.perm (.cons _ (.cons _ (.cons _ (.cons _ (.swap _ _ _)))))
 replace hS := hS.perm (.cons _ (.cons _ (.cons _ (.swap _ _ _))))
 replace hS := hS.perm (.cons _ (.cons _ (.swap _ _ _)))
 replace hS := hS.perm (.cons _ (.cons _ (.cons _ (.cons _ (.cons _ (.cons _ (.swap _ _ _)))))))
 replace hS := hS.perm (.cons _ (.cons _ (.cons _ (.cons _ (.cons _ (.swap _ _ _))))))
 replace hS := hS.perm (.cons _ (.cons _ (.cons _ (.cons _ (.swap _ _ _)))))
 replace hS := hS.perm (.cons _ (.cons _ (.cons _ (.swap _ _ _))))
 replace hS : St _ (_) (_ :: _ :: _ :: _ :: _ :: _ :: _ :: _ :: _ :: _ :: _) _ := hS
 refine wpl_ef hF hS rfl (ef_callx fn23 rfl (List.Perm.refl _) (by exact (dworn_ct _ _ _ _  hD15))) ?_
 clear hF hS; rintro v19 _ _ a w ⟨_, _, rfl, rfl, ⟨rfl, qa20, qb21, qc22, qd23, rfl, hD24⟩⟩ hF hS
 replace hS : St _ (_) (_ :: _ :: _ :: _ :: _ :: _ :: _ :: _ :: _ :: _ :: _ :: _) _ := hS
 refine wpl_sq hF hS (sq rfl (q_move rfl) <|
   sq_end) ?_
 clear hF hS; intro a w hF hS
 replace hS := hS.perm (.cons _ (.cons _ (.cons _ (.cons _ (.cons _ (.swap _ _ _))))))
 replace hS := hS.perm (.cons _ (.cons _ (.cons _ (.cons _ (.swap _ _ _)))))
 replace hS := hS.perm (.cons _ (.cons _ (.cons _ (.swap _ _ _))))
 replace hS := hS.perm (.cons _ (.cons _ (.swap _ _ _)))
 replace hS := hS.perm (.cons _ (.swap _ _ _))
 replace hS := hS.perm (.swap _ _ _)
 replace hS := hS.perm (.cons _ (.cons _ (.cons _ (.cons _ (.cons _ (.cons _ (.swap _ _ _)))))))
 replace hS := hS.perm (.cons _ (.cons _ (.cons _ (.cons _ (.cons _ (.swap _ _ _))))))
 replace hS := hS.perm (.cons _ (.cons _ (.cons _ (.cons _ (.swap _ _ _)))))
 replace hS := hS.perm (.cons _ (.cons _ (.cons _ (.swap _ _ _))))
 replace hS := hS.perm (.cons _ (.cons _ (.swap _ _ _)))
 replace hS := hS.perm (.cons _ (.swap _ _ _))
 replace hS : St _ (_) (_ :: _ :: _ :: _ :: _ :: _ :: _ :: _ :: _ :: _ :: _ :: _) _ := hS
 refine wpl_ef hF hS rfl (ef_callx fn43 rfl (List.Perm.refl _) (by exact (rworn_ct _ _  (by first | assumption | exact Dk.ok_step (by assumption) | exact Dk.rst_ok (by assumption) _ _) (S := S) (v := v)))) ?_
 clear hF hS; rintro v26 _ _ a w ⟨_, _, rfl, rfl, ⟨rfl, rfl⟩⟩ hF hS
 replace hS : St _ (_) (_ :: _ :: _ :: _ :: _ :: _ :: _ :: _ :: _ :: _ :: _ :: _ :: _) _ := hS
 refine wpl_sq hF hS (sq rfl (q_call fn41 rfl (fun w hS => sameints_t _ _ _ w (own_slV (f := vi) (xs := (Dk.wix S)) (hS.own _ (List.mem_of_getElem? (i := 3) rfl)).1 (Dk.wix_i64 hO) rfl (by first | decide | omega)) (own_slV (f := vi) (xs := (Dk.wix S)) (hS.own _ (List.mem_of_getElem? (i := 0) rfl)).1 (Dk.wix_i64 hO) rfl (by first | decide | omega))) (fun _ _ _ h => h)) <|
   sq rfl (q_assign rfl) <|
   sq_end) ?_
 clear hF hS; intro a w hF hS
 refine wpList_nil ?_
 refine hK4 _ _ ?_
 clear hK4
 refine wp_seq_k ?_; intro K5 hK5
 refine regl ?_
 refine wpl_sq hF hS (sq rfl (q_move rfl) <|
   sq rfl (q_move rfl) <|
   sq_go 24 rfl rfl rfl (q_move rfl) <|
   sq rfl (q_pick_t rfl rfl) <|
   sq rfl (q_move rfl) <|
   sq_go 27 rfl rfl rfl (q_move rfl) <|
   sq rfl (q_pick_t rfl rfl) <|
   sq rfl (q_move rfl) <|
   sq_go 30 rfl rfl rfl (q_move rfl) <|
   sq_end) ?_
 clear hF hS; intro a w hF hS
 replace hS := hS.perm (.cons _ (.cons _ (.cons _ (.swap _ _ _))))
 replace hS := hS.perm (.cons _ (.cons _ (.swap _ _ _)))
 replace hS := hS.perm (.cons _ (.swap _ _ _))
 replace hS := hS.perm (.swap _ _ _)
 replace hS := hS.perm (.cons _ (.cons _ (.cons _ (.cons _ (.swap _ _ _)))))
 replace hS := hS.perm (.cons _ (.cons _ (.cons _ (.swap _ _ _))))
 replace hS := hS.perm (.cons _ (.cons _ (.swap _ _ _)))
 replace hS := hS.perm (.cons _ (.swap _ _ _))
 replace hS := hS.perm (.cons _ (.cons _ (.cons _ (.cons _ (.cons _ (.swap _ _ _))))))
 replace hS := hS.perm (.cons _ (.cons _ (.cons _ (.cons _ (.swap _ _ _)))))
 replace hS := hS.perm (.cons _ (.cons _ (.cons _ (.swap _ _ _))))
 replace hS := hS.perm (.cons _ (.cons _ (.swap _ _ _)))
 replace hS := hS.perm (.cons _ (.cons _ (.cons _ (.cons _ (.cons _ (.cons _ (.swap _ _ _)))))))
 replace hS := hS.perm (.cons _ (.cons _ (.cons _ (.cons _ (.cons _ (.swap _ _ _))))))
 replace hS := hS.perm (.cons _ (.cons _ (.cons _ (.cons _ (.swap _ _ _)))))
 replace hS := hS.perm (.cons _ (.cons _ (.cons _ (.swap _ _ _))))
 replace hS : St _ (_) (_ :: _ :: _ :: _ :: _ :: _ :: _ :: _ :: _ :: _ :: _ :: _ :: _) _ := hS
 refine wpl_efg hF hS (wanted_go 30 rfl rfl) rfl (ef_callx fn31 rfl (List.Perm.refl _) (by exact (dlen_ct _ _ _ _  hD24))) ?_
 clear hF hS; rintro _ _ _ a w ⟨_, _, rfl, rfl, ⟨rfl, rfl, qa29, qb30, qc31, qd32, rfl, hD33⟩⟩ hF hS
 replace hS : St _ (_) (_ :: _ :: _ :: _ :: _ :: _ :: _ :: _ :: _ :: _ :: _ :: _ :: _) _ := hS
 refine wpl_sq hF hS (sq_go 30 rfl rfl rfl (q_move rfl) <|
   sq_end) ?_
 clear hF hS; intro a w hF hS
 replace hS := hS.perm (.cons _ (.cons _ (.cons _ (.cons _ (.swap _ _ _)))))
 replace hS := hS.perm (.cons _ (.cons _ (.cons _ (.swap _ _ _))))
 replace hS := hS.perm (.cons _ (.cons _ (.swap _ _ _)))
 replace hS := hS.perm (.cons _ (.swap _ _ _))
 replace hS := hS.perm (.swap _ _ _)
 replace hS := hS.perm (.cons _ (.cons _ (.cons _ (.cons _ (.cons _ (.swap _ _ _))))))
 replace hS := hS.perm (.cons _ (.cons _ (.cons _ (.cons _ (.swap _ _ _)))))
 replace hS := hS.perm (.cons _ (.cons _ (.cons _ (.swap _ _ _))))
 replace hS := hS.perm (.cons _ (.cons _ (.swap _ _ _)))
 replace hS := hS.perm (.cons _ (.swap _ _ _))
 replace hS : St _ (_) (_ :: _ :: _ :: _ :: _ :: _ :: _ :: _ :: _ :: _ :: _ :: _ :: _) _ := hS
 refine wpl_efg hF hS (wanted_go 30 rfl rfl) rfl (ef_callx fn44 rfl (List.Perm.refl _) (by exact (rlen_ct _ _  (by first | assumption | exact Dk.ok_step (by assumption) | exact Dk.rst_ok (by assumption) _ _) (S := S) (v := v)))) ?_
 clear hF hS; rintro _ _ _ a w ⟨_, _, rfl, rfl, ⟨rfl, rfl, rfl⟩⟩ hF hS
 replace hS : St _ (_) (_ :: _ :: _ :: _ :: _ :: _ :: _ :: _ :: _ :: _ :: _ :: _ :: _) _ := hS
 refine wpl_sq hF hS (sq_go 30 rfl rfl rfl (q_dt (q_eqi rfl rfl) (by simp)) <|
   sq rfl (q_pick_t rfl rfl) <|
   sq rfl (q_move rfl) <|
   sq_go 37 rfl rfl rfl (q_move rfl) <|
   sq_end) ?_
 clear hF hS; intro a w hF hS
 replace hS := hS.perm (.cons _ (.swap _ _ _))
 replace hS := hS.perm (.swap _ _ _)
 replace hS := hS.perm (.cons _ (.cons _ (.swap _ _ _)))
 replace hS := hS.perm (.cons _ (.swap _ _ _))
 replace hS := hS.perm (.cons _ (.cons _ (.cons _ (.swap _ _ _))))
 replace hS := hS.perm (.cons _ (.cons _ (.swap _ _ _)))
 replace hS := hS.perm (.cons _ (.cons _ (.cons _ (.cons _ (.swap _ _ _)))))
 replace hS := hS.perm (.cons _ (.cons _ (.cons _ (.swap _ _ _))))
 replace hS : St _ (_) (_ :: _ :: _ :: _ :: _ :: _ :: _ :: _ :: _ :: _ :: _ :: _ :: _) _ := hS
 refine wpl_efg hF hS (wanted_go 37 rfl rfl) rfl (ef_callx fn27 rfl (List.Perm.refl _) (by exact (dup_ct _ _ _ _  hD33))) ?_
 clear hF hS; rintro _ _ _ a w ⟨_, _, rfl, rfl, ⟨rfl, rfl, qa36, qb37, qc38, qd39, rfl, hD40⟩⟩ hF hS
 replace hS : St _ (_) (_ :: _ :: _ :: _ :: _ :: _ :: _ :: _ :: _ :: _ :: _ :: _ :: _) _ := hS
 refine wpl_sq hF hS (sq_go 37 rfl rfl rfl (q_move rfl) <|
   sq_end) ?_
 clear hF hS; intro a w hF hS
 replace hS := hS.perm (.cons _ (.cons _ (.cons _ (.swap _ _ _))))
 replace hS := hS.perm (.cons _ (.cons _ (.swap _ _ _)))
 replace hS := hS.perm (.cons _ (.swap _ _ _))
 replace hS := hS.perm (.swap _ _ _)
 replace hS := hS.perm (.cons _ (.cons _ (.cons _ (.cons _ (.swap _ _ _)))))
 replace hS := hS.perm (.cons _ (.cons _ (.cons _ (.swap _ _ _))))
 replace hS := hS.perm (.cons _ (.cons _ (.swap _ _ _)))
 replace hS := hS.perm (.cons _ (.swap _ _ _))
 replace hS : St _ (_) (_ :: _ :: _ :: _ :: _ :: _ :: _ :: _ :: _ :: _ :: _ :: _ :: _) _ := hS
 refine wpl_efg hF hS (wanted_go 37 rfl rfl) rfl (ef_callx fn45 rfl (List.Perm.refl _) (by exact (rup_ct _ _  (by first | assumption | exact Dk.ok_step (by assumption) | exact Dk.rst_ok (by assumption) _ _) (S := S) (v := v)))) ?_
 clear hF hS; rintro _ _ _ a w ⟨_, _, rfl, rfl, ⟨rfl, rfl, rfl⟩⟩ hF hS
 replace hS : St _ (_) (_ :: _ :: _ :: _ :: _ :: _ :: _ :: _ :: _ :: _ :: _ :: _ :: _) _ := hS
 refine wpl_sq hF hS (sq_go 37 rfl rfl rfl (q_bt (q_eqt ty4 rfl rfl) (by simp)) <|
   sq rfl (q_pick_t rfl rfl) <|
   sq rfl (q_assign rfl) <|
   sq_end) ?_
 clear hF hS; intro a w hF hS
 refine wpList_nil ?_
 refine hK5 _ _ ?_
 clear hK5
 refine wp_ret ?_
 replace hS := hS.perm (.cons _ (.swap _ _ _))
 replace hS := hS.perm (.swap _ _ _)
 replace hS := hS.perm (.cons _ (.cons _ (.swap _ _ _)))
 replace hS := hS.perm (.cons _ (.swap _ _ _))
 replace hS := hS.perm (.cons _ (.cons _ (.cons _ (.swap _ _ _))))
 replace hS := hS.perm (.cons _ (.cons _ (.swap _ _ _)))
 replace hS := hS.perm (.cons _ (.cons _ (.cons _ (.cons _ (.swap _ _ _)))))
 replace hS := hS.perm (.cons _ (.cons _ (.cons _ (.swap _ _ _))))
 exact fn_retx (rs := [.tmp 4]) rfl hF hS (vs := [_]) ⟨rfl, trivial⟩ [] [_, _, _, _, _, _] sQ (sQ.n.n.n.n.n.n.k.k.k.k.k.k) ⟨rfl, rfl, _, _, _, _, rfl, hD40⟩
end Go.Proofs.Ytbgbfmdnpjpdgaa
