/- A text of a proof over this seat: walks over the program's functions and the plain laws that they need. -/
import Derived.Test.YtefjpigmgmbghaaHu2
import Derived.Test.YtefjpigmgmbghaaHpA
import Derived.Test.YtefjpigmgmbghaaFwD
import Derived.Test.YtefjpigmgmbghaaFwB
set_option linter.all false
namespace Go.Proofs.Ytefjpigmgmbghaa
open Go.Fw
theorem fn78 : FnOk Try.prog 78 := ⟨_, Try.func78, rfl, by kernel_rfl⟩

/-- What free hands back. -/
def FreeR (xN xS xB kV mV : Value) (r : Value) (zs : List PH) (hs : List Res) : Prop := ∃ e1 e2 : Nat, r = .func (.func 77) (List.nil : List Value).toArray [Value.pointer (some ⟨e1, 0, none⟩), Value.pointer (some ⟨e2, 0, none⟩)].toArray ∧ zs = [] ∧ hs = [.blk e2 38 [kV, mV], .blk e1 42 [xN, xS, xB]]

set_option maxRecDepth 4000 in
set_option maxHeartbeats 2000000 in
theorem free_ct (xN xS xB : Value) (xs : List Int) (xb : List Bool) (kV mV : Value) (ks : List (List UInt8)) (ms : List Int) (w : World) (hxn : xN.oneCell' = true) (hxs : Sl encI (ph w) xS xs) (hxb : Sl encT (ph w) xB xb) (hk : Sl (encA 16) (ph w) kV ks) (hm : Sl encI (ph w) mV ms) : Ct Try.prog 63 [.agg [xN, xS, xB].toArray, .agg [kV, mV].toArray] w (FreeR xN xS xB kV mV) := by
 refine fn_enter Try.func63 rfl Try.ntmps63 (Nat.le_of_ble_eq_true rfl) fun a hF hS => ?_
 refine wp_seq_k ?_; intro K1 hK1
 refine regl ?_
 refine wpl_ef hF hS rfl (ef_boxA rfl) ?_
 clear hF hS; rintro _ _ _ a w ⟨b1, rfl, rfl, rfl⟩ hF hS
 refine wpl_ef hF hS rfl (ef_boxA rfl) ?_
 clear hF hS; rintro _ _ _ a w ⟨b2, rfl, rfl, rfl⟩ hF hS
 refine wpl_sq hF hS (sq rfl (q_assign rfl) <|
   sq_end) ?_
 clear hF hS; intro a w hF hS
 refine wpList_nil ?_
 refine hK1 _ _ ?_
 clear hK1
 refine wp_seq_k ?_; intro K2 hK2
 refine reg hF hS (sq rfl (q_mkf rfl rfl) <|
   sq rfl (q_assign rfl) <|
   sq_end) ?_
 clear hF hS; intro a w hF hS
 refine hK2 _ _ ?_
 clear hK2
 refine wp_ret ?_
 exact fn_ret (rs := [.tmp 4]) rfl hF hS (vs := [_]) ⟨rfl, trivial⟩ zQ sQ ⟨_, _, rfl, rfl, rfl⟩

set_option maxRecDepth 4000 in
set_option maxHeartbeats 2000000 in
theorem free1_ct (xN xS xB : Value) (xs : List Int) (xb : List Bool) (kV mV : Value) (ks : List (List UInt8)) (ms : List Int) (e1 e2 : Nat) (Y : Value) (hq1 : xb.length = xs.length) (hq2 : ms.length = xs.length) (w0 : World) (zsr : List PH) (hsr : List Res) (inv : Nat → Res → Prop) (r0 : Res) (hxn : xN.oneCell' = true) (hxs : Sl encI (ph w0) xS xs) (hxb : Sl encT (ph w0) xB xb) (hk : Sl (encA 16) (ph w0) kV ks) (hm : Sl encI (ph w0) mV ms) (h0 : inv 0 r0) (hY : ∀ k r, k < (Hu.frl xs xb ms).length → inv k r → Yd Try.prog Y (vi (((Hu.frl xs xb ms).getD k 0 : Nat) : Int)) (St w0 zsr (.blk e2 38 [kV, mV] :: .blk e1 42 [xN, xS, xB] :: r :: hsr)) fun w' => ∃ r', inv (k + 1) r' ∧ St w0 zsr (.blk e2 38 [kV, mV] :: .blk e1 42 [xN, xS, xB] :: r' :: hsr) w') : CxH Try.prog 77 [Y, .pointer (some ⟨e1, 0, none⟩), .pointer (some ⟨e2, 0, none⟩)] w0 zsr [.blk e2 38 [kV, mV], .blk e1 42 [xN, xS, xB], r0] hsr (fun _ zs1 hs1 => zs1 = [] ∧ ∃ r, hs1 = [.blk e2 38 [kV, mV], .blk e1 42 [xN, xS, xB], r] ∧ inv (Hu.frl xs xb ms).length r) := by
 refine fn_enterh Try.func77 rfl Try.ntmps77 (Nat.le_of_ble_eq_true rfl) fun a w hF hS => ?_
 replace hS : St _ (_) (_ :: _ :: _ :: _) _ := hS
 have hsl := hxs.1
 have htl := hxb.1
 have hml := hm.1
 refine wp_seq_k ?_; intro K1 hK1
 refine reg hF hS (sq rfl (q_fieldAddr ty42 rfl rfl (s' := 0) kQ) <|
   sq rfl (q_ld_blk1 ty22 1 rfl rfl rfl rfl) <|
   sq rfl (q_len_sl ty22 hxs rfl) <|
   sq rfl (q_move rfl) <|
   sq_end) ?_
 clear hF hS; intro a w hF hS
 refine hK1 _ _ ?_
 clear hK1
 refine wp_block ?_
 obtain ⟨hs0, hhs0, hS⟩ : ∃ h, h = _ ∧ St _ _ h _ := ⟨_, rfl, hS⟩
 refine wp_loopx (γ := Res × Int) (r0, 0) (fun (gg : Res × Int) => match gg with | (rr, i) => [(8, vi i)]) [(0, _), (1, _), (2, _), (7, _)] (fun (gg : Res × Int) => match gg with | (rr, i) => (hs0.set 2 (rr))) (fun (gg : Res × Int) => match gg with | (rr, i) => 0 ≤ i ∧ i ≤ xs.length ∧ inv (Hu.fcn xs xb ms i.toNat) rr) (fun (gg : Res × Int) => match gg with | (rr, i) => (xs.length - i).toNat) (hF.sub ⟨rfl, rfl, rfl, rfl, rfl, trivial⟩) (by subst hhs0; exact hS) (by exact ⟨Int.le_refl _, by omega, h0⟩) ?_
 clear hF hS; rintro ⟨rr, i⟩ a w hfact hF hS
 subst hhs0; (try dsimp only at hfact); (try dsimp only at hF); (try dsimp only at hS)
 obtain ⟨hi0, hi1, hin⟩ := hfact
 replace hS : St _ (_) (_ :: _ :: _ :: _) _ := hS
 refine wp_seq_k ?_; intro K2 hK2
 refine reg hF hS (sq rfl (q_lti rfl rfl) <|
   sq_end) ?_
 clear hF hS; intro a w hF hS
 refine hK2 _ _ ?_
 clear hK2
 refine wp_seq_k ?_; intro K3 hK3
 refine wp_ifd hF rfl (fun hc1 => ?_) (fun hc1 => ?_)
 ·refine wp_skip ?_
  refine hK3 _ _ ?_
  clear hK3
  refine wp_seq_k ?_; intro K4 hK4
  refine wp_block ?_
  refine wp_seq_k ?_; intro K5 hK5
  refine reg hF hS (sq rfl (q_move rfl) <|
    sq rfl (q_assign rfl) <|
    sq_end) ?_
  clear hF hS; intro a w hF hS
  refine hK5 _ _ ?_
  clear hK5
  refine wp_seq_k ?_; intro K6 hK6
  refine regY 13 rfl ?_
  refine wpl_sq hF hS (sq rfl (q_fieldAddr ty42 rfl rfl (s' := 0) kQ) <|
    sq rfl (q_ld_blk1 ty24 1 rfl rfl rfl rfl) <|
    sq rfl (q_move rfl) <|
    sq rfl (q_idx_sl ty24 ty4 hxb rfl rfl (by omega)) <|
    sq rfl (q_ld_T ty4 hxb zin0 rfl rfl (by omega)) <|
    sq rfl (q_move rfl) <|
    sq_end) ?_
  clear hF hS; intro a w hF hS
  refine wpl_and 5 16 5 hF hS rfl rfl rfl rfl rfl (fun hg => have hg := hg; sq_go 16 rfl rfl rfl (q_ld_blkW ty42 1 rfl rfl bQ rfl) <|
    sq_go 16 rfl rfl rfl (q_ld_blkW ty38 0 rfl rfl bQ rfl) <|
    sq_go 16 rfl rfl rfl (q_move rfl) <|
    sq_go 16 rfl rfl rfl (q_call fn78 rfl (fun w hS => cov_ct _ _ _ _ _ _ _ _ _ _ (by omega) (by omega) (by omega) w hxn (Sl.mono (hS.le zin0) hxs) (Sl.mono (hS.le zin0) hxb) (Sl.mono (hS.le zin0) hk) (Sl.mono (hS.le zin0) hm)) (fun _ _ _ h => h)) <|
    sq_go 16 rfl rfl rfl (q_not rfl) <|
    sq_end) rfl rfl ?_
  clear hF hS; intro a w hF hS
  refine wpl_sq hF hS (sq rfl (q_move rfl) <|
    sq_end) ?_
  clear hF hS; intro a w hF hS
  refine listR ?_
  rcases hfb : Hu.fre xs xb ms i.toNat with _ | _
  ·skip
   have hfb2 : (xb.getD i.toNat false && !Hu.cov xs xb ms i.toNat) = false := hfb
   rw [hfb2] at hF
   refine yseg rfl hF hS (sq_skip 23 rfl rfl rfl rfl <| sq_skip 23 rfl rfl rfl rfl <| sq_skip 23 rfl rfl rfl rfl <| sq_skip 23 rfl rfl rfl rfl <| sq rfl (q_pick_f rfl rfl) <| sq_end) ?_
   clear hF hS; intro a w hF hS
   refine wpListIn_nil ?_
   refine hK6 _ _ ?_
   clear hK6
   refine wp_if hF rfl (fun h => absurd h (by simp)) (fun _ => ?_)
   refine wp_skip ?_
   refine hK4 _ _ ?_
   clear hK4
   refine reg hF hS (sq rfl (q_addi rfl rfl (by omega)) <|
     sq rfl (q_move rfl) <|
     sq_end) ?_
   clear hF hS; intro a w hF hS
   refine ⟨(rr, i + 1), ?_, ?_, hF.sub ⟨rfl, rfl, rfl, rfl, rfl, trivial⟩, ?_⟩
   ·(try dsimp only); omega
   ·exact ⟨by omega, by omega, by rw [show (i + 1).toNat = i.toNat + 1 by omega, Hu.fcn_f hfb]; exact hin⟩
   ·exact hS
  ·skip
   have hfb2 : (xb.getD i.toNat false && !Hu.cov xs xb ms i.toNat) = true := hfb
   rw [hfb2] at hF
   obtain ⟨hfa1, hfa2⟩ := Hu.frl_at (by omega) hfb
   have hyd := hY _ rr hfa1 hin
   rw [hfa2, show ((i.toNat : Nat) : Int) = i by omega] at hyd
   refine yseg rfl hF hS (sq_go 23 rfl rfl rfl (q_move rfl) <| sq_go 23 rfl rfl rfl (q_move rfl) <| sq_end) ?_
   clear hF hS; intro a w hF hS
   refine ycall (by rfl) (wanted_go 23 rfl rfl _ hF) hF hS rfl rfl hyd ?_
   clear hF hS; rintro a w hF ⟨r2, hin2, hS⟩
   refine yseg rfl hF hS (sq_go 23 rfl rfl rfl (q_not rfl) <| sq rfl (q_pick_t rfl rfl) <| sq_end) ?_
   clear hF hS; intro a w hF hS
   refine wpListIn_nil ?_
   refine hK6 _ _ ?_
   clear hK6
   refine wp_if hF rfl (fun h => absurd h (by simp)) (fun _ => ?_)
   refine wp_skip ?_
   refine hK4 _ _ ?_
   clear hK4
   refine reg hF hS (sq rfl (q_addi rfl rfl (by omega)) <|
     sq rfl (q_move rfl) <|
     sq_end) ?_
   clear hF hS; intro a w hF hS
   refine ⟨(r2, i + 1), ?_, ?_, hF.sub ⟨rfl, rfl, rfl, rfl, rfl, trivial⟩, ?_⟩
   ·(try dsimp only); omega
   ·exact ⟨by omega, by omega, by rw [show (i + 1).toNat = i.toNat + 1 by omega, Hu.fcn_t hfb]; exact hin2⟩
   ·exact hS
 ·obtain rfl : i = xs.length := by omega
  rw [Int.toNat_natCast, Hu.fcn_all] at hin
  refine wp_exit ?_
  -- falls off the end
  exact fn_fallx rfl hF hS [] [_, _, _] sQ sQ ⟨rfl, _, rfl, hin⟩
end Go.Proofs.Ytefjpigmgmbghaa
