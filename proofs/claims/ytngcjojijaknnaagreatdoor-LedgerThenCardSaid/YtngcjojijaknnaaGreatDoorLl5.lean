/- A text of a proof over this seat: walks over the program's functions and the plain laws that they need. -/
import Derived.Test.YtngcjojijaknnaaGreatDoorLl4
import Derived.Test.YtngcjojijaknnaaGreatDoorLgA
import Derived.Test.YtngcjojijaknnaaGreatDoorFwB
set_option linter.all false
namespace Go.Proofs.YtngcjojijaknnaaGreatDoor
open Go.Fw
theorem fn18 : FnOk Tryz.prog 18 := ⟨_, Tryz.func18, rfl, by kernel_rfl⟩
theorem fn52 : FnOk Tryz.prog 52 := ⟨_, Tryz.func52, rfl, by kernel_rfl⟩
theorem fn53 : FnOk Tryz.prog 53 := ⟨_, Tryz.func53, rfl, by kernel_rfl⟩
theorem fn68 : FnOk Tryz.prog 68 := ⟨_, Tryz.func68, rfl, by kernel_rfl⟩
theorem fn104 : FnOk Tryz.prog 104 := ⟨_, Tryz.func104, rfl, by kernel_rfl⟩

attribute [local irreducible] Wi.int Wi.bytes Wi.getInt Wi.getBytes Sha.sum Jn.good Jn.hd Jn.lb Jn.cnt Jn.unp Jn.recd Jn.app Jn.opn Lg.dec

set_option maxRecDepth 4000 in
set_option maxHeartbeats 2000000 in
theorem taken_ct (v : Value) (hv : v.oneCell' = true) (w : World) : Ct Tryz.prog 68 [v] w (fun r zs hs => ∃ b1, r = .func (.func 104) (List.nil : List Value).toArray [Value.pointer (some ⟨b1, 0, none⟩)].toArray ∧ zs = [] ∧ hs = [.blk b1 40 [v]]) := by
 refine fn_enter Tryz.func68 rfl Tryz.ntmps68 (Nat.le_of_ble_eq_true rfl) fun a hF hS => ?_
 refine wp_seq_k ?_; intro K1 hK1
 refine regl ?_
 refine wpl_ef hF hS rfl (ef_box1 rfl hv) ?_
 clear hF hS; rintro _ _ _ a w ⟨b1, rfl, rfl, rfl⟩ hF hS
 refine wpl_sq hF hS (sq rfl (q_assign rfl) <|
   sq_end) ?_
 clear hF hS; intro a w hF hS
 refine wpList_nil ?_
 refine hK1 _ _ ?_
 clear hK1
 refine wp_seq_k ?_; intro K2 hK2
 refine reg hF hS (sq rfl (q_mkf rfl rfl) <|
   sq rfl (q_assign rfl) <|
   sq_end) ?_
 clear hF hS; intro a w hF hS
 refine hK2 _ _ ?_
 clear hK2
 refine wp_ret ?_
 exact fn_ret (rs := [.tmp 2]) rfl hF hS (vs := [_]) ⟨rfl, trivial⟩ sQ sQ ⟨_, rfl, rfl, rfl⟩

set_option maxRecDepth 4000 in
set_option maxHeartbeats 2000000 in
theorem taken1_ct (b1 : Nat) (v : Value) (xs : List (List UInt8)) (hxl : ∀ x ∈ xs, x.length ≤ 8064) (Y : Value) (z : PH) (w0 : World) (zsr : List PH) (hsr : List Res) (inv : Nat → Res × Res → Prop) (ra rb : Res) (hz : ZIn w0 zsr z) (hb : Sl Go.Fw.encS z v xs) (h0 : inv 0 (ra, rb)) (hY : ∀ k r, k < (Lg.taken xs).length → inv k r → YdL Tryz.prog Y (Lg.tkV xs k) (St w0 zsr (.blk b1 40 [v] :: r.1 :: r.2 :: hsr)) fun w' => ∃ r', inv (k + 1) r' ∧ St w0 zsr (.blk b1 40 [v] :: r'.1 :: r'.2 :: hsr) w') : CxH Tryz.prog 104 [Y, Value.pointer (some ⟨b1, 0, none⟩)] w0 zsr [.blk b1 40 [v], ra, rb] hsr (fun _ zs1 hs1 => zs1 = [] ∧ ∃ r : Res × Res, hs1 = [.blk b1 40 [v], r.1, r.2] ∧ inv (Lg.taken xs).length r) := by
 refine fn_enterh Tryz.func104 rfl Tryz.ntmps104 (Nat.le_of_ble_eq_true rfl) fun a w hF hS => ?_
 replace hS : St _ (_) (_ :: _ :: _ :: _) _ := hS
 have hbl := hb.1
 refine wp_seq_k ?_; intro K1 hK1
 refine reg hF hS (sq rfl (q_assign rfl) <|
   sq rfl (q_assign rfl) <|
   sq_end) ?_
 clear hF hS; intro a w hF hS
 refine hK1 _ _ ?_
 clear hK1
 refine wp_seq_k ?_; intro K2 hK2
 refine reg hF hS (sq rfl (q_ld_blk1 ty40 0 rfl rfl rfl rfl) <|
   sq rfl (q_len_sl ty40 hb rfl) <|
   sq rfl (q_move rfl) <|
   sq_end) ?_
 clear hF hS; intro a w hF hS
 refine hK2 _ _ ?_
 clear hK2
 refine wp_block ?_
 obtain ⟨hs0, hhs0, hS⟩ : ∃ h, h = _ ∧ St _ _ h _ := ⟨_, rfl, hS⟩
 refine wp_loopx (γ := (Res × Res) × Nat) ((ra, rb), 0) (fun (gg : (Res × Res) × Nat) => match gg with | (rr, i) => [(3, vi (Lg.tkN xs i).2), (4, vi ((Lg.tkN xs i).1.length : Int)), (11, vi (i : Int))]) [(0, _), (9, _), (10, _)] (fun (gg : (Res × Res) × Nat) => match gg with | (rr, i) => ((hs0.set 1 (rr.1)).set 2 (rr.2))) (fun (gg : (Res × Res) × Nat) => match gg with | (rr, i) => i ≤ xs.length ∧ inv (Lg.tkN xs i).1.length rr) (fun (gg : (Res × Res) × Nat) => match gg with | (rr, i) => xs.length - i) (hF.sub ⟨rfl, rfl, rfl, rfl, rfl, rfl, trivial⟩) (by subst hhs0; exact hS) (by exact ⟨Nat.zero_le _, h0⟩) ?_
 clear hF hS; rintro ⟨rr, i⟩ a w hfact hF hS
 subst hhs0; (try dsimp only at hfact); (try dsimp only at hF); (try dsimp only at hS)
 obtain ⟨hi0, hin⟩ := hfact
 replace hS : St _ (_) (_ :: _ :: _ :: _) _ := hS
 have htb := Lg.tk_bd xs hi0
 refine wp_seq_k ?_; intro K3 hK3
 refine reg hF hS (sq rfl (q_lti rfl rfl) <|
   sq_end) ?_
 clear hF hS; intro a w hF hS
 refine hK3 _ _ ?_
 clear hK3
 refine wp_seq_k ?_; intro K4 hK4
 refine wp_ifd hF rfl (fun hc1 => ?_) (fun hc1 => ?_)
 ·have hxi : (xs.getD i []).length ≤ 8064 := hxl _ (Sha.getD_mem xs i (by omega))
  refine wp_skip ?_
  refine hK4 _ _ ?_
  clear hK4
  refine wp_seq_k ?_; intro K5 hK5
  refine wp_block ?_
  refine wp_seq_k ?_; intro K6 hK6
  refine reg hF hS (sq rfl (q_idx_sl ty40 ty9 hb rfl rfl (by omega)) <|
    sq rfl (q_ld_S ty9 hb hz rfl rfl (by omega)) <|
    sq rfl (q_assign rfl) <|
    sq_end) ?_
  clear hF hS; intro a w hF hS
  rw [Int.toNat_natCast] at hF
  refine hK6 _ _ ?_
  clear hK6
  refine wp_seq_k ?_; intro K7 hK7
  refine regl ?_
  refine wpl_sq hF hS (sq rfl (q_move rfl) <|
    sq_end) ?_
  clear hF hS; intro a w hF hS
  refine wpl_ef hF hS rfl (ef_s2b ty9 ty25 ty5 rfl (by omega)) ?_
  clear hF hS; rintro v1 _ _ a w ⟨z2, rfl, rfl, hz3⟩ hF hS
  refine wpl_sq hF hS (sq rfl (q_call fn18 rfl (fun w hS => dec_ct _ _ w (Sl.mono (hS.le (.inr (by simp))) hz3)) (fun _ _ _ h => h)) <|
    sq rfl (q_move rfl) <|
    sq rfl (q_extract rfl rfl) <|
    sq rfl (q_extract rfl rfl) <|
    sq_end) ?_
  clear hF hS; intro a w hF hS
  refine wpl_ef hF hS rfl (ef_allocA ty24) ?_
  clear hF hS; rintro _ _ _ a w ⟨b4, rfl, rfl, rfl⟩ hF hS
  refine wpl_ef hF hS rfl (ef_storeW ty24 0 rfl rfl rfl rfl bQ (oc_cons rfl (oc_cons rfl (oc_cons rfl oc_nil))) bQ) ?_
  clear hF hS; rintro _ _ _ a w ⟨rfl, rfl, rfl⟩ hF hS
  replace hS : St _ (_ :: _) (_ :: _ :: _ :: _ :: _) _ := hS
  refine wpl_sq hF hS (sq rfl (q_assign rfl) <|
    sq_end) ?_
  clear hF hS; intro a w hF hS
  refine wpList_nil ?_
  refine hK7 _ _ ?_
  clear hK7
  refine wp_seq_k ?_; intro K8 hK8
  refine wp_seq_k ?_; intro K9 hK9
  refine regl ?_
  refine wpl_sq hF hS (sq rfl (q_move rfl) <|
    sq rfl (q_nei rfl rfl) <|
    sq rfl (q_move rfl) <|
    sq_end) ?_
  clear hF hS; intro a w hF hS
  refine wpl_or 2 23 4 hF hS rfl rfl rfl rfl rfl (fun hg => have hg := (nd_false hg); sq_go 23 rfl rfl rfl (q_fieldAddr ty24 rfl rfl (s' := 0) kQ) <|
    sq_go 23 rfl rfl rfl (q_ld_blk1 ty3 0 rfl rfl rfl rfl) <|
    sq_go 23 rfl rfl rfl (q_move rfl) <|
    sq_go 23 rfl rfl rfl (q_lti rfl rfl) <|
    sq_end) rfl rfl ?_
  clear hF hS; intro a w hF hS
  refine wpl_sq hF hS (sq rfl (q_move rfl) <|
    sq_end) ?_
  clear hF hS; intro a w hF hS
  refine wpl_or 8 29 2 hF hS rfl rfl rfl rfl rfl (fun hg => have hg := hg; sq_go 29 rfl rfl rfl (q_move rfl) <|
    sq_go 29 rfl rfl rfl (q_eqi rfl rfl) <|
    sq_end) rfl rfl ?_
  clear hF hS; intro a w hF hS
  refine wpList_nil ?_
  refine hK9 _ _ ?_
  clear hK9
  refine wp_if hF rfl (fun hc2 => ?_) (fun hc2 => ?_)
  ·(try simp only [Bool.or_eq_true, Bool.and_eq_true, Bool.or_eq_false_iff, Bool.and_eq_false_iff, decide_eq_true_eq, decide_eq_false_iff_not, Bool.not_eq_true', Bool.not_eq_false'] at hc2)
   have htn := Lg.tk_no (l := xs) (i := i) (by omega) (fun h => by rcases hc2 with (h1 | h1) | h1; exact h1 h.1.1; omega; omega)
   refine wp_exit ?_
   refine hK5 _ _ ?_
   clear hK5
   refine reg hF hS (sq rfl (q_addi rfl rfl (by omega)) <|
     sq rfl (q_move rfl) <|
     sq_end) ?_
   clear hF hS; intro a w hF hS
   replace hS := hS.keep (sQ.n) (sQ.n)
   refine ⟨(rr, i + 1), ?_, ?_, hF.sub ⟨(by show some (vi _) = some (vi _); first | rw [htn] | rw [htk4]), (by show some (vi _) = some (vi _); first | rw [htn] | (rw [htk3]; rfl)), rfl, rfl, rfl, rfl, trivial⟩, ?_⟩
   ·(try dsimp only); omega
   ·exact ⟨by omega, by rw [htn]; exact hin⟩
   ·exact hS
  ·(try simp only [Bool.or_eq_true, Bool.and_eq_true, Bool.or_eq_false_iff, Bool.and_eq_false_iff, decide_eq_true_eq, decide_eq_false_iff_not, Bool.not_eq_true', Bool.not_eq_false'] at hc2)
   obtain ⟨htk1, htk2, htk3, htk4⟩ := Lg.tk_at (l := xs) (i := i) (by omega) ⟨⟨hc2.1.1, by omega⟩, by omega⟩
   refine wp_skip ?_
   refine hK8 _ _ ?_
   clear hK8
   refine wp_seq_k ?_; intro K10 hK10
   refine reg hF hS (sq rfl (q_fieldAddr ty24 rfl rfl (s' := 0) kQ) <|
     sq rfl (q_ld_blk1 ty3 0 rfl rfl rfl rfl) <|
     sq rfl (q_move rfl) <|
     sq rfl (q_addi rfl rfl (by omega)) <|
     sq rfl (q_assign rfl) <|
     sq rfl (q_assign rfl) <|
     sq_end) ?_
   clear hF hS; intro a w hF hS
   refine hK10 _ _ ?_
   clear hK10
   refine wp_seq_k ?_; intro K11 hK11
   refine regY 2 rfl ?_
   refine wpl_sq hF hS (sq rfl (q_move rfl) <|
     sq rfl (q_ld_blkW ty24 0 rfl rfl bQ rfl) <|
     sq_end) ?_
   clear hF hS; intro a w hF hS
   refine listR ?_
   ·skip
    replace hS := hS.keep (List.sublist_cons_self _ _) (sQ.n)
    have hyd := hY _ rr htk1 hin
    rw [htk2] at hyd
    refine ycallL (ys := [_]) (by rfl) rfl hF hS rfl rfl hyd ?_
    clear hF hS; rintro a w hF ⟨r2, hin2, hS⟩
    refine yseg rfl hF hS (sq rfl (q_not rfl) <| sq_end) ?_
    clear hF hS; intro a w hF hS
    refine wpListIn_nil ?_
    refine hK11 _ _ ?_
    clear hK11
    refine wp_if hF rfl (fun h => absurd h (by simp)) (fun _ => ?_)
    refine wp_skip ?_
    refine hK5 _ _ ?_
    clear hK5
    refine reg hF hS (sq rfl (q_addi rfl rfl (by omega)) <|
      sq rfl (q_move rfl) <|
      sq_end) ?_
    clear hF hS; intro a w hF hS
    refine ⟨(r2, i + 1), ?_, ?_, hF.sub ⟨(by show some (vi _) = some (vi _); first | rw [htn] | rw [htk4]), (by show some (vi _) = some (vi _); first | rw [htn] | (rw [htk3]; rfl)), rfl, rfl, rfl, rfl, trivial⟩, ?_⟩
    ·(try dsimp only); omega
    ·exact ⟨by omega, by rw [htk3]; exact hin2⟩
    ·exact hS
 ·obtain rfl : i = xs.length := by omega
  refine wp_exit ?_
  -- falls off the end
  exact fn_fallx rfl hF hS [] [_, _, _] sQ sQ ⟨rfl, _, rfl, hin⟩

set_option maxRecDepth 4000 in
set_option maxHeartbeats 2000000 in
theorem lopen_ct (h : Dk.Hd) (S : Dk.Dsk) (hof : S.off = false) (w0 : World) (zsr : List PH) {d1 d2 d3 d4 : Res} {fz0 : Nat × Nat} {bt0 : TypeId} (hg0 : w0.heap[1]? = some (.cells (Sha.kc.map vw).toArray bt0 fz0)) (hD : DD h S d1 d2 d3 d4) : Cx Tryz.prog 31 [.pointer (some ⟨h.b, 0, none⟩)] w0 zsr [d1, d2, d3, d4] (fun r zs hs => zs = [] ∧ ∃ bl b fv q1 q2 q3 q4 e1 e2 e3 e4, r = .tuple [.pointer (some ⟨bl, 0, none⟩), vi 0].toArray ∧ hs = [.blk bl 119 [.pointer (some ⟨b, 0, none⟩), fv], .row fv 24 3 (Lg.taken (Jn.opn S).tx).length ((Lg.taken (Jn.opn S).tx).flatMap Lg.fcC), q1, q2, q3, q4, e1, e2, e3, e4] ∧ JJ b h.b (Jn.opn S) q1 q2 q3 q4 ∧ DD h S e1 e2 e3 e4) := by
 refine fn_enterMx Tryz.func31 rfl Tryz.ntmps31 (Nat.le_of_ble_eq_true rfl) fun hsr a w hF hS => ?_
 replace hS : St _ (_) (_ :: _ :: _ :: _ :: _) _ := hS
 have hO := Dk.DOk.ok hD
 have hlo := hO.lo
 have hhi := hO.hi
 refine wp_seq_k ?_; intro K1 hK1
 refine reg hF hS (sq rfl (q_assign rfl) <|
   sq rfl (q_assign rfl) <|
   sq_end) ?_
 clear hF hS; intro a w hF hS
 refine hK1 _ _ ?_
 clear hK1
 refine wp_seq_k ?_; intro K2 hK2
 refine wp_seq_k ?_; intro K3 hK3
 refine reg hF hS (sq rfl (q_move rfl) <|
   sq rfl (q_eqpn_f ty46 rfl rfl) <|
   sq_end) ?_
 clear hF hS; intro a w hF hS
 refine hK3 _ _ ?_
 clear hK3
 refine wp_if hF rfl (fun h => absurd h (by simp)) (fun _ => ?_)
 refine wp_skip ?_
 refine hK2 _ _ ?_
 clear hK2
 refine wp_seq_k ?_; intro K4 hK4
 refine regl ?_
 refine wpl_sq hF hS (sq rfl (q_move rfl) <|
   sq_end) ?_
 clear hF hS; intro a w hF hS
 refine wpl_ef hF hS rfl (ef_callx fn52 rfl (List.Perm.refl _) (by exact (open_ct _ _ (by assumption) _ _ hg0 hD))) ?_
 clear hF hS; rintro _ _ _ a w ⟨_, _, rfl, rfl, ⟨rfl, jb2, qa3, qb4, qc5, qd6, ua7, ub8, uc9, ud10, rfl, rfl, hJ11, hD12⟩⟩ hF hS
 replace hS : St _ (_) (_ :: _ :: _ :: _ :: _ :: _ :: _ :: _ :: _) _ := hS
 refine wpl_sq hF hS (sq rfl (q_move rfl) <|
   sq rfl (q_extract rfl rfl) <|
   sq rfl (q_extract rfl rfl) <|
   sq rfl (q_assign rfl) <|
   sq rfl (q_assign rfl) <|
   sq_end) ?_
 clear hF hS; intro a w hF hS
 refine wpList_nil ?_
 obtain ⟨vn9, vbd9, vt9, hWf9, _⟩ := id hJ11
 have hw9a := hWf9.tl
 have hw9b := hWf9.nl
 have hw9c := hWf9.e2
 have htg := Lg.taken_good (Jn.opn S).tx
 have htgl := htg.len
 refine hK4 _ _ ?_
 clear hK4
 refine wp_seq_k ?_; intro K5 hK5
 refine wp_seq_k ?_; intro K6 hK6
 refine reg hF hS (sq rfl (q_move rfl) <|
   sq rfl (q_nei rfl rfl) <|
   sq_end) ?_
 clear hF hS; intro a w hF hS
 refine hK6 _ _ ?_
 clear hK6
 refine wp_ifn hF rfl (fun hc2 => ?_) (fun hc2 => ?_)
 ·exact absurd rfl hc2
 ·refine wp_skip ?_
  refine hK5 _ _ ?_
  clear hK5
  refine wp_seq_k ?_; intro K7 hK7
  refine regl ?_
  refine wpl_sq hF hS (sq rfl (q_move rfl) <|
    sq rfl (q_build1 ty119 2 kQ rfl rfl rfl (by decide)) <|
    sq_end) ?_
  clear hF hS; intro a w hF hS
  refine wpl_ef hF hS rfl (ef_boxA rfl) ?_
  clear hF hS; rintro _ _ _ a w ⟨b17, rfl, rfl, rfl⟩ hF hS
  refine wpl_ef hF hS rfl (ef_alloc1 ty45 (by rfl)) ?_
  clear hF hS; rintro _ _ _ a w ⟨b18, rfl, rfl, rfl⟩ hF hS
  refine wpl_ef hF hS rfl (ef_store1 ty45 0 rfl rfl rfl rfl (by simp)) ?_
  clear hF hS; rintro _ _ _ a w ⟨rfl, rfl, rfl⟩ hF hS
  (try simp only [List.set_cons_zero, List.set_cons_succ] at hS)
  replace hS : St _ (_) (_ :: _ :: _ :: _ :: _ :: _ :: _ :: _ :: _ :: _ :: _) _ := hS
  refine wpList_nil ?_
  replace hS := hS.nilRow 24 3
  replace hS : St _ (_) (_ :: _ :: _ :: _ :: _ :: _ :: _ :: _ :: _ :: _ :: _ :: _) _ := hS
  refine hK7 _ _ ?_
  clear hK7
  refine wp_seq_k ?_; intro K8 hK8
  refine wp_seq_k ?_; intro K9 hK9
  refine regl ?_
  refine wpl_sq hF hS (sq rfl (q_move rfl) <|
    sq_end) ?_
  clear hF hS; intro a w hF hS
  replace hS := hS.perm (.cons _ (.cons _ (.swap _ _ _)))
  replace hS := hS.perm (.cons _ (.swap _ _ _))
  replace hS := hS.perm (.swap _ _ _)
  replace hS := hS.perm (.cons _ (.cons _ (.cons _ (.swap _ _ _))))
  replace hS := hS.perm (.cons _ (.cons _ (.swap _ _ _)))
  replace hS := hS.perm (.cons _ (.swap _ _ _))
  replace hS := hS.perm (.cons _ (.cons _ (.cons _ (.cons _ (.swap _ _ _)))))
  replace hS := hS.perm (.cons _ (.cons _ (.cons _ (.swap _ _ _))))
  replace hS := hS.perm (.cons _ (.cons _ (.swap _ _ _)))
  replace hS := hS.perm (.cons _ (.cons _ (.cons _ (.cons _ (.cons _ (.swap _ _ _))))))
  replace hS := hS.perm (.cons _ (.cons _ (.cons _ (.cons _ (.swap _ _ _)))))
  replace hS := hS.perm (.cons _ (.cons _ (.cons _ (.swap _ _ _))))
  replace hS : St _ (_) (_ :: _ :: _ :: _ :: _ :: _ :: _ :: _ :: _ :: _ :: _ :: _) _ := hS
  refine wpl_ef hF hS rfl (ef_callx fn53 rfl (List.Perm.refl _) (by exact (jtexts_ct _ _ _ _ _  hJ11))) ?_
  clear hF hS; rintro v19 _ _ a w ⟨_, _, rfl, rfl, ⟨rfl, qa20, qb21, qc22, qd23, rfl, hJ24⟩⟩ hF hS
  replace hS : St _ (_) (_ :: _ :: _ :: _ :: _ :: _ :: _ :: _ :: _ :: _ :: _ :: _ :: _) _ := hS
  refine wpl_ef hF hS rfl (ef_call fn68 rfl (fun w hS => taken_ct _ (row_one (hS.own _ (List.mem_of_getElem? (i := 0) rfl)).1) w )) ?_
  clear hF hS; rintro _ _ _ a w ⟨_, _, rfl, rfl, ⟨e1, rfl, rfl, rfl⟩⟩ hF hS
  replace hS : St _ (_) (_ :: _ :: _ :: _ :: _ :: _ :: _ :: _ :: _ :: _ :: _ :: _ :: _ :: _) _ := hS
  refine wpList_nil ?_
  refine hK9 _ _ ?_
  clear hK9
  refine wp_block ?_
  replace hS := hS.perm (.swap _ _ _)
  obtain ⟨zt, hzt, hS⟩ := St.freezeV (h0 := fun _ => rfl) (f := vs) (p := fun s => s.length ≤ 140737488355328) hS rfl (by omega) hWf9.tr'
  replace hS : St _ (_ :: _) (_ :: _ :: _ :: _ :: _ :: _ :: _ :: _ :: _ :: _ :: _ :: _ :: _) _ := hS
  replace hS := hS.perm (.cons _ (.cons _ (.cons _ (.cons _ (.cons _ (.cons _ (.swap _ _ _)))))))
  replace hS := hS.perm (.cons _ (.cons _ (.cons _ (.cons _ (.cons _ (.swap _ _ _))))))
  replace hS := hS.perm (.cons _ (.cons _ (.cons _ (.cons _ (.swap _ _ _)))))
  replace hS := hS.perm (.cons _ (.cons _ (.cons _ (.swap _ _ _))))
  replace hS := hS.perm (.cons _ (.cons _ (.swap _ _ _)))
  replace hS := hS.perm (.cons _ (.swap _ _ _))
  replace hS := hS.perm (.cons _ (.cons _ (.cons _ (.cons _ (.cons _ (.swap _ _ _))))))
  replace hS := hS.perm (.cons _ (.cons _ (.cons _ (.cons _ (.swap _ _ _)))))
  replace hS := hS.perm (.cons _ (.cons _ (.cons _ (.swap _ _ _))))
  replace hS := hS.perm (.cons _ (.cons _ (.swap _ _ _)))
  replace hS : St _ (_ :: _) (_ :: _ :: _ :: _ :: _ :: _ :: _ :: _ :: _ :: _ :: _ :: _ :: _) _ := hS
  obtain ⟨hs0, hhs0, hS⟩ : ∃ h, h = _ ∧ St _ _ h _ := ⟨_, rfl, hS⟩
  obtain ⟨L0, hL0, hF⟩ : ∃ l, l = _ ∧ Fr _ l _ := ⟨_, rfl, hF⟩
  refine wp_rangeH (ps := [24]) (γ := (Res × Res)) (ξ := Nat) (fun r => (hs0.set 1 r.1).set 2 r.2) (fun (k : Nat) (r : Res × Res) => ∃ u, r = (.blk b17 119 [.pointer (some ⟨jb2, 0, none⟩), u], .row u 24 3 k (((Lg.taken (Jn.opn S).tx).take k).flatMap Lg.fcC))) ((Lg.taken (Jn.opn S).tx).length) (fun k => Lg.tkV (Jn.opn S).tx k) ((.blk b17 119 [.pointer (some ⟨jb2, 0, none⟩), (Value.slice none 0 0)], .row (Value.slice none 0 0) 24 3 0 [])) (fun k r x => (7, Value.pointer (some ⟨x, 0, none⟩)) :: (24, .agg [vi ((Lg.taken (Jn.opn S).tx).getD k Lg.f0).tk, vs ((Lg.taken (Jn.opn S).tx).getD k Lg.f0).ky, vs ((Lg.taken (Jn.opn S).tx).getD k Lg.f0).vl].toArray) :: L0) (fun k r x => .blk x 24 [vi ((Lg.taken (Jn.opn S).tx).getD k Lg.f0).tk, vs ((Lg.taken (Jn.opn S).tx).getD k Lg.f0).ky, vs ((Lg.taken (Jn.opn S).tx).getD k Lg.f0).vl] :: (hs0.set 1 r.1).set 2 r.2) hF (by subst hhs0; exact hS) (by subst hL0; rfl) rfl (fun _ => rfl) (fn104) (⟨_, rfl⟩) (fun ro m8 zB zD k9 r9 a w hk9 hi9 hF hS => ?_) (fun Y zs1 hzz hY w hS => ?_) (fun l9 m9 zB zD k9 r9 x9 a w hk9 hi9 hF hS => ?_) (fun I D zD a w r9 hno hI hD hi9 hF hS => ?_)
  ·subst hhs0 hL0
   (try dsimp only [argsL] at hF); (try dsimp only [List.set_cons_zero, List.set_cons_succ] at hS)
   replace hS : St _ (_ :: _ :: _ :: _) (_ :: _ :: _ :: _ :: _ :: _ :: _ :: _ :: _ :: _ :: _ :: _ :: _) _ := hS
   obtain ⟨u, rfl⟩ := hi9
   (try dsimp only at hS)
   replace hS : St _ (_ :: _ :: _ :: _) (_ :: _ :: _ :: _ :: _ :: _ :: _ :: _ :: _ :: _ :: _ :: _ :: _) _ := hS
   refine reglR (by rfl) ?_
   refine wpl_ef hF hS rfl (ef_allocA ty24) ?_
   clear hF hS; rintro _ _ _ a w ⟨b27, rfl, rfl, rfl⟩ hF hS
   refine wpl_ef hF hS rfl (ef_storeW ty24 0 rfl rfl rfl rfl bQ (oc_cons rfl (oc_cons rfl (oc_cons rfl oc_nil))) bQ) ?_
   clear hF hS; rintro _ _ _ a w ⟨rfl, rfl, rfl⟩ hF hS
   replace hS : St _ (_ :: _ :: _ :: _) (_ :: _ :: _ :: _ :: _ :: _ :: _ :: _ :: _ :: _ :: _ :: _ :: _ :: _) _ := hS
   refine listR ?_
   exact ⟨rfl, b27, hF, hS⟩
  ·subst hhs0 hL0
   exact CxH.full12 (taken1_ct e1 v19 (Jn.opn S).tx hWf9.tr Y _ _ zs1 _ (fun (k : Nat) (r : Res × Res) => ∃ u, r = (.blk b17 119 [.pointer (some ⟨jb2, 0, none⟩), u], .row u 24 3 k (((Lg.taken (Jn.opn S).tx).take k).flatMap Lg.fcC))) _ _ (.inr (hzz _ (by simp))) hzt ⟨(Value.slice none 0 0), rfl⟩ hY) w hS
  ·subst hhs0 hL0
   (try dsimp only [argsL] at hF); (try dsimp only [List.set_cons_zero, List.set_cons_succ] at hS)
   replace hS : St _ (_ :: _ :: _ :: _) (_ :: _ :: _ :: _ :: _ :: _ :: _ :: _ :: _ :: _ :: _ :: _ :: _ :: _) _ := hS
   obtain ⟨u, rfl⟩ := hi9
   (try dsimp only at hS)
   replace hS : St _ (_ :: _ :: _ :: _) (_ :: _ :: _ :: _ :: _ :: _ :: _ :: _ :: _ :: _ :: _ :: _ :: _ :: _) _ := hS
   refine wpIn_block ?_
   revert hS; revert hF; apply regJR (J := J2 (α0 := Value) (α1 := Value) 36 _ _ _ _ _) #[false, false, false, false, false, false, false, false, false, false, false] 11 mixed rfl rfl; case hd => rfl
   ·intro w hF hS
    refine goW_take 0 _ rfl kQ rfl hF (hS.keep sQ (sQ.n.n.n.n.k.n.n.n.n.n.n.n.n)) (q_ld_blk1 ty45 0 rfl rfl rfl rfl) ?_
    clear hF; intro a hF
    refine goW_take 1 _ rfl kQ rfl hF (hS.keep sQ (sQ.n.n.n.n.k.n.n.n.n.n.n.n.n)) (q_ld_blk1 ty45 0 rfl rfl rfl rfl) ?_
    clear hF; intro a hF
    refine goW_take 2 _ rfl kQ rfl hF (hS.keep sQ (sQ.n.n.n.n.n.n.n.n.n.n.n.n.n)) (q_nilCheck rfl) ?_
    clear hF; intro a hF
    refine goW_take 3 _ rfl kQ rfl hF (hS.keep sQ (sQ.n.n.n.n.n.n.n.n.n.n.n.n.n)) (q_fieldAddr ty119 rfl rfl (s' := 0) kQ) ?_
    clear hF; intro a hF
    refine goW_take 4 _ rfl kQ rfl hF (hS.keep sQ (sQ.n.n.n.n.n.n.n.n.n.n.k.n.n)) (q_ld_blk1 ty26 0 rfl rfl rfl rfl) ?_
    clear hF; intro a hF
    refine goW_take 5 _ rfl kQ rfl hF (hS.keep sQ (sQ.n.n.n.n.n.n.n.n.n.n.n.n.k)) (q_ld_blkW ty24 0 rfl rfl bQ rfl) ?_
    clear hF; intro a hF
    refine gQ 6 rfl rfl hF hS rfl (ef_bsliceW ty26 ty24 rfl bQ (by decide) oQ (by decide) (by decide)) ?_
    clear hF hS; rintro v_9_6 _ _ a w ⟨rfl, rfl⟩ hF hS
    replace hS : St _ (_ :: _ :: _ :: _) (_ :: _ :: _ :: _ :: _ :: _ :: _ :: _ :: _ :: _ :: _ :: _ :: _ :: _ :: _) _ := hS
    refine ⟨⟨iQ, .inr (hS.keep sQ (sQ.n.n.n.n.n.n.n.n.n.n.k.n.n.n)), .inr (hS.keep sQ (sQ.n.n.n.n.n.n.n.n.n.n.n.n.n.n)), .inr (hS.keep sQ (sQ.n.n.n.n.n.n.n.n.n.n.n.n.n.n)), .inr (hS.keep sQ (sQ.n.n.n.n.k.n.n.n.n.n.n.n.n.n)), .inr (hS.keep sQ (sQ.n.n.n.n.k.n.n.n.n.n.n.n.n.n)), trivial⟩, ?_⟩
    refine gQ 7 rfl rfl hF hS rfl (ef_append ty26 ty24 4 rfl rfl rfl (src_row ty26 (k := 0) rfl oQ) bQ rfl (by decide)) ?_
    clear hF hS; rintro v_9_7 _ _ a w ⟨rfl, rfl⟩ hF hS
    replace hS : St _ (_ :: _ :: _ :: _) (_ :: _ :: _ :: _ :: _ :: _ :: _ :: _ :: _ :: _ :: _ :: _ :: _ :: _ :: _) _ := hS
    refine ⟨⟨iQ, iQ, iQ, .inr (hS.keep sQ (sQ.n.n.n.n.n.n.n.n.n.n.n.n.n.n)), .inr (hS.keep sQ (sQ.n.n.n.n.k.n.n.n.n.n.n.n.n.n)), .inr (hS.keep sQ (sQ.n.n.n.n.k.n.n.n.n.n.n.n.n.n)), trivial⟩, ?_⟩
    refine goW_take 8 _ rfl kQ rfl hF (hS.keep sQ (sQ.n.n.n.n.n.n.n.n.n.n.n.n.n.n)) (q_nilCheck rfl) ?_
    clear hF; intro a hF
    refine goW_take 9 _ rfl kQ rfl hF (hS.keep sQ (sQ.n.n.n.n.n.n.n.n.n.n.n.n.n.n)) (q_fieldAddr ty119 rfl rfl (s' := 0) kQ) ?_
    clear hF; intro a hF
    refine gQ 10 rfl rfl hF hS rfl (ef_store1 ty26 3 rfl rfl rfl (row_one (hS.own _ (List.mem_of_getElem? (i := 4) rfl)).1) (by simp)) ?_
    clear hF hS; rintro _ _ _ a w ⟨rfl, rfl, rfl⟩ hF hS
    replace hS : St _ (_ :: _ :: _ :: _) (_ :: _ :: _ :: .blk _ _ ([_, _].set 1 _) :: _ :: _ :: _ :: _ :: _ :: _ :: _ :: _ :: _ :: _ :: _) _ := hS
    simp only [List.set_cons_zero, List.set_cons_succ] at hS
    replace hS : St _ (_ :: _ :: _ :: _) (_ :: _ :: _ :: _ :: _ :: _ :: _ :: _ :: _ :: _ :: _ :: _ :: _ :: _ :: _) _ := hS
    refine ⟨⟨iQ, iQ, iQ, iQ, iQ, iQ, iQ, iQ, trivial⟩, ?_⟩
    exact goW_done kQ (j2_mk v_9_6 v_9_7 (trivial) (hF.sub (L' := []) trivial) hS)
   rintro a w ⟨v_9_6, v_9_7, -, hF, hS⟩
   (try dsimp only at hF); (try dsimp only at hS)
   replace hS := hS.perm (.cons _ (.swap _ _ _))
   replace hS := hS.perm (.swap _ _ _)
   replace hS := hS.perm (.cons _ (.cons _ (.swap _ _ _)))
   replace hS := hS.perm (.cons _ (.swap _ _ _))
   replace hS := hS.perm (.cons _ (.cons _ (.cons _ (.swap _ _ _))))
   replace hS := hS.perm (.cons _ (.cons _ (.swap _ _ _)))
   replace hS := hS.perm (.cons _ (.cons _ (.cons _ (.cons _ (.swap _ _ _)))))
   replace hS := hS.perm (.cons _ (.cons _ (.cons _ (.swap _ _ _))))
   replace hS := hS.perm (.cons _ (.cons _ (.cons _ (.cons _ (.cons _ (.swap _ _ _))))))
   replace hS := hS.perm (.cons _ (.cons _ (.cons _ (.cons _ (.swap _ _ _)))))
   replace hS := hS.perm (.cons _ (.cons _ (.cons _ (.cons _ (.cons _ (.cons _ (.swap _ _ _)))))))
   replace hS := hS.perm (.cons _ (.cons _ (.cons _ (.cons _ (.cons _ (.swap _ _ _))))))
   replace hS := hS.perm (.cons _ (.cons _ (.cons _ (.cons _ (.cons _ (.cons _ (.cons _ (.swap _ _ _))))))))
   replace hS := hS.perm (.cons _ (.cons _ (.cons _ (.cons _ (.cons _ (.cons _ (.swap _ _ _)))))))
   replace hS := hS.perm (.cons _ (.cons _ (.cons _ (.cons _ (.cons _ (.cons _ (.cons _ (.cons _ (.swap _ _ _)))))))))
   replace hS := hS.perm (.cons _ (.cons _ (.cons _ (.cons _ (.cons _ (.cons _ (.cons _ (.swap _ _ _))))))))
   replace hS := hS.perm (.cons _ (.cons _ (.cons _ (.cons _ (.cons _ (.cons _ (.cons _ (.cons _ (.cons _ (.swap _ _ _))))))))))
   replace hS := hS.perm (.cons _ (.cons _ (.cons _ (.cons _ (.cons _ (.cons _ (.cons _ (.cons _ (.swap _ _ _)))))))))
   replace hS := hS.perm (.cons _ (.cons _ (.cons _ (.cons _ (.cons _ (.cons _ (.cons _ (.cons _ (.cons _ (.cons _ (.swap _ _ _)))))))))))
   replace hS := hS.perm (.cons _ (.cons _ (.cons _ (.cons _ (.cons _ (.cons _ (.cons _ (.cons _ (.cons _ (.swap _ _ _))))))))))
   replace hS := hS.perm (.cons _ (.cons _ (.cons _ (.cons _ (.cons _ (.cons _ (.cons _ (.cons _ (.cons _ (.cons _ (.cons _ (.swap _ _ _))))))))))))
   replace hS := hS.perm (.cons _ (.cons _ (.cons _ (.cons _ (.cons _ (.cons _ (.cons _ (.cons _ (.cons _ (.cons _ (.swap _ _ _)))))))))))
   replace hS := hS.perm (.cons _ (.cons _ (.cons _ (.cons _ (.cons _ (.cons _ (.cons _ (.cons _ (.cons _ (.cons _ (.cons _ (.cons _ (.swap _ _ _)))))))))))))
   replace hS := hS.perm (.cons _ (.cons _ (.cons _ (.cons _ (.cons _ (.cons _ (.cons _ (.cons _ (.cons _ (.cons _ (.cons _ (.swap _ _ _))))))))))))
   rw [← Lg.tk_cells hk9] at hS
   exact ⟨rfl, (_, _), ⟨_, rfl⟩, hS.keep sQ (sQ.n.n.k.k.k.k.k.k.k.k.k.k.k.k)⟩
  subst hhs0 hL0
  (try dsimp only [argsL] at hF); (try dsimp only [List.set_cons_zero, List.set_cons_succ] at hS)
  replace hS : St _ (_ :: _ :: _) (_ :: _ :: _ :: _ :: _ :: _ :: _ :: _ :: _ :: _ :: _ :: _ :: _) _ := hS
  obtain ⟨u, rfl⟩ := hi9
  (try dsimp only at hS)
  replace hS : St _ (_ :: _ :: _) (_ :: _ :: _ :: _ :: _ :: _ :: _ :: _ :: _ :: _ :: _ :: _ :: _) _ := hS
  refine hK8 _ _ ?_
  clear hK8
  refine wp_seq_k ?_; intro K10 hK10
  refine reg hF hS (sq rfl (q_ld_blk1 ty45 7 rfl rfl rfl rfl) <|
    sq rfl (q_assign rfl) <|
    sq rfl (q_assign rfl) <|
    sq_end) ?_
  clear hF hS; intro a w hF hS
  refine hK10 _ _ ?_
  clear hK10
  refine wp_ret ?_
  replace hS := hS.perm (.swap _ _ _)
  replace hS := hS.perm (.cons _ (.swap _ _ _))
  replace hS := hS.perm (.cons _ (.cons _ (.swap _ _ _)))
  replace hS := hS.perm (.cons _ (.cons _ (.cons _ (.swap _ _ _))))
  replace hS := hS.perm (.cons _ (.cons _ (.cons _ (.cons _ (.swap _ _ _)))))
  replace hS := hS.perm (.cons _ (.cons _ (.cons _ (.cons _ (.cons _ (.swap _ _ _))))))
  replace hS := hS.perm (.cons _ (.cons _ (.cons _ (.cons _ (.cons _ (.cons _ (.cons _ (.swap _ _ _))))))))
  replace hS := hS.perm (.cons _ (.cons _ (.cons _ (.cons _ (.cons _ (.cons _ (.swap _ _ _)))))))
  replace hS := hS.perm (.cons _ (.cons _ (.cons _ (.cons _ (.cons _ (.cons _ (.cons _ (.cons _ (.swap _ _ _)))))))))
  replace hS := hS.perm (.cons _ (.cons _ (.cons _ (.cons _ (.cons _ (.cons _ (.cons _ (.swap _ _ _))))))))
  replace hS := hS.perm (.cons _ (.cons _ (.cons _ (.cons _ (.cons _ (.cons _ (.cons _ (.cons _ (.cons _ (.swap _ _ _))))))))))
  replace hS := hS.perm (.cons _ (.cons _ (.cons _ (.cons _ (.cons _ (.cons _ (.cons _ (.cons _ (.swap _ _ _)))))))))
  replace hS := hS.perm (.cons _ (.cons _ (.cons _ (.cons _ (.cons _ (.cons _ (.cons _ (.cons _ (.cons _ (.cons _ (.swap _ _ _)))))))))))
  replace hS := hS.perm (.cons _ (.cons _ (.cons _ (.cons _ (.cons _ (.cons _ (.cons _ (.cons _ (.cons _ (.swap _ _ _))))))))))
  rw [List.take_length] at hS
  exact fn_retGx hI hD (by simp) (fun z hz => by simp [hz]) (fun z hz => hno z (by simp [hz])) (rs := [.tmp 2, .tmp 3]) rfl hF hS (vs := [_, _]) ⟨rfl, rfl, trivial⟩ [_, _, _, _, _, _, _, _, _, _] (sQ.n.n.k.k.k.k.k.k.k.k.k.k) ⟨rfl, b17, jb2, _, _, _, _, _, _, _, _, _, rfl, rfl, hJ24, hD12⟩
end Go.Proofs.YtngcjojijaknnaaGreatDoor
