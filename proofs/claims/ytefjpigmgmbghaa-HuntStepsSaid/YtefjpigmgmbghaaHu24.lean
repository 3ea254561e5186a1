/- A text of a proof over this seat: walks over the program's functions and the plain laws that they need. -/
import Derived.Test.YtefjpigmgmbghaaHu23
import Derived.Test.YtefjpigmgmbghaaHpA
import Derived.Test.YtefjpigmgmbghaaFwD
import Derived.Test.YtefjpigmgmbghaaFwB
set_option linter.all false
namespace Go.Proofs.Ytefjpigmgmbghaa
open Go.Fw
theorem fn46 : FnOk Try.prog 46 := ⟨_, Try.func46, rfl, by kernel_rfl⟩

set_option maxRecDepth 4000 in
set_option maxHeartbeats 2000000 in
theorem law37_ct (v : Value) (l : List Int) (v2 : Value) (n : List Int) (w : World) (hl : Sl encI (ph w) v l) (hn : Sl encI (ph w) v2 n) : Ct Try.prog 9 [v, v2] w (fun r _ _ => r = .bool true) := by
 refine fn_enter Try.func9 rfl Try.ntmps9 (Nat.le_of_ble_eq_true rfl) fun a hF hS => ?_
 refine wp_seq_k ?_; intro K1 hK1
 refine reg hF hS (sq rfl (q_assign rfl) <|
   sq_end) ?_
 clear hF hS; intro a w hF hS
 refine hK1 _ _ ?_
 clear hK1
 refine wp_seq_k ?_; intro K2 hK2
 refine regl ?_
 refine wpl_sq hF hS (sq rfl (q_move rfl) <|
   sq_end) ?_
 clear hF hS; intro a w hF hS
 refine wpl_ef hF hS rfl (ef_call fn10 rfl (fun w hS => family3_ct _ _ w (Sl.mono (hS.le zin0) hl))) ?_
 clear hF hS; rintro _ _ _ a w ⟨_, _, rfl, rfl, ⟨nvF, svF, bvF, ns, xs, bl, zF, rfl, hnF, hsF, hlF, rfl, rfl⟩⟩ hF hS
 replace hS : St _ [_] [_] _ := hS
 refine wpl_ef hF hS rfl (ef_allocA ty26) ?_
 clear hF hS; rintro _ _ _ a w ⟨b3, rfl, rfl, rfl⟩ hF hS
 refine wpl_ef hF hS rfl (ef_storeW ty26 0 rfl rfl rfl rfl bQ (oc_cons (sl_one' hnF) (oc_cons (sl_one' hsF) (oc_cons (row_one (hS.own _ (List.mem_of_getElem? (i := 1) rfl)).1) oc_nil))) bQ) ?_
 clear hF hS; rintro _ _ _ a w ⟨rfl, rfl, rfl⟩ hF hS
 replace hS : St _ [_] [_, _] _ := hS
 refine wpList_nil ?_
 obtain ⟨hns5, hxs32, hbl9, hfam, hstp⟩ := hlF
 have hpw := Hu.pw32 (n := ns.length) (by omega)
 have hpe : (1 * 2 ^ (min ((ofq (ns.length : Int)).toNat : Int).toNat 64) : Int) = ((2 ^ ns.length : Nat) : Int) := Hu.pw_eq (x := (ns.length : Int)) ⟨by omega, by omega⟩
 have hR9 := Gu.fam_r hfam
 have h1p := Nat.one_le_two_pow (n := ns.length)
 obtain ⟨fu, hfu⟩ : ∃ fu : Int, fu = ((2 ^ ns.length - 1 : Nat) : Int) := ⟨_, rfl⟩
 have hcl9 : Hu.clo xs ((1 * 2 ^ (min ((ofq (ns.length : Int)).toNat : Int).toNat 64) : Int) - 1) xs.length = fu := by rw [hpe, show ((2 ^ ns.length : Nat) : Int) - 1 = ((2 ^ ns.length - 1 : Nat) : Int) by omega, hfu]; exact Hu.clo_full hns5 hstp
 have h0x : (0 : Int) ∈ xs := hstp.1
 have hfx : fu ∈ xs := by rw [hfu]; exact hstp.2.1
 have hw0 : Gu.wi 0 fu = true := Gu.wi_zero
 have hq9 : Hu.Stq xs := hstp.2.2.2
 have hi0x := Gu.ixF_in h0x
 have hi1x := Gu.ixF_in hfx
 refine hK2 _ _ ?_
 clear hK2
 refine wp_seq_k ?_; intro K3 hK3
 refine wp_seq_k ?_; intro K4 hK4
 refine reg hF hS (sq rfl (q_assign rfl) <|
   sq_end) ?_
 clear hF hS; intro a w hF hS
 refine hK4 _ _ ?_
 clear hK4
 refine wp_block ?_
 obtain ⟨hs0, hhs0, hS⟩ : ∃ h, h = _ ∧ St _ _ h _ := ⟨_, rfl, hS⟩
 refine wp_loopx (γ := List Bool × Int) (bl, 0) (fun (gg : List Bool × Int) => match gg with | (xb, i) => [(6, vi i)]) [(1, _), (5, _)] (fun (gg : List Bool × Int) => match gg with | (xb, i) => (hs0.set 1 (.row bvF 4 1 bl.length (xb.map vt)))) (fun (gg : List Bool × Int) => match gg with | (xb, i) => xb.length = bl.length ∧ (0 ≤ i ∧ i ≤ bl.length) ∧ ∀ k, k < i.toNat → xb.getD k false = true) (fun (gg : List Bool × Int) => match gg with | (xb, i) => (bl.length - i).toNat) (hF.sub ⟨rfl, rfl, rfl, trivial⟩) (by subst hhs0; exact hS) (by exact ⟨rfl, ⟨Int.le_refl _, by omega⟩, fun k hk => absurd hk (by simp)⟩) ?_
 clear hF hS; rintro ⟨xb, i⟩ a w hfact hF hS
 subst hhs0; (try dsimp only at hfact); (try dsimp only at hF); (try dsimp only at hS)
 obtain ⟨hTl, ⟨hi0, hi1⟩, hTt⟩ := hfact
 replace hS : St _ [_] [_, _] _ := hS
 refine wp_seq_k ?_; intro K5 hK5
 refine wp_seq_k ?_; intro K6 hK6
 refine reg hF hS (sq rfl (q_move rfl) <|
   sq rfl (q_fieldAddr ty26 rfl rfl (s' := 0) kQ) <|
   sq rfl (q_ld_blk1 ty24 0 rfl rfl rfl rfl) <|
   sq rfl (q_len_row ty24 1 rfl rfl) <|
   sq rfl (q_lti rfl rfl) <|
   sq_end) ?_
 clear hF hS; intro a w hF hS
 refine hK6 _ _ ?_
 clear hK6
 refine wp_ifd hF rfl (fun hc1 => ?_) (fun hc1 => ?_)
 ·refine wp_skip ?_
  refine hK5 _ _ ?_
  clear hK5
  refine wp_seq_k ?_; intro K7 hK7
  refine wp_block ?_
  refine regl ?_
  refine wpl_sq hF hS (sq rfl (q_fieldAddr ty26 rfl rfl (s' := 0) kQ) <|
    sq rfl (q_ld_blk1 ty24 0 rfl rfl rfl rfl) <|
    sq rfl (q_move rfl) <|
    sq rfl (q_idx_row ty24 ty4 1 rfl rfl rfl (by omega)) <|
    sq_end) ?_
  clear hF hS; intro a w hF hS
  refine wpl_ef hF hS rfl (ef_st_row ty4 1 rfl rfl rfl (by omega) rfl) ?_
  clear hF hS; rintro _ _ _ a w ⟨rfl, rfl, rfl⟩ hF hS
  replace hS : St _ [_] [_, _] _ := hS
  refine wpList_nil ?_
  refine hK7 _ _ ?_
  clear hK7
  refine reg hF hS (sq rfl (q_move rfl) <|
    sq rfl (q_addi rfl rfl (by omega)) <|
    sq rfl (q_assign rfl) <|
    sq_end) ?_
  clear hF hS; intro a w hF hS
  refine ⟨((xb.set i.toNat true), i + 1), ?_, ?_, hF.sub ⟨rfl, rfl, rfl, trivial⟩, ?_⟩
  ·(try dsimp only); omega
  ·exact ⟨by rw [List.length_set]; exact hTl, ⟨by omega, by omega⟩, Hu.set_tt ⟨hi0, by omega⟩ hTt⟩
  ·(try dsimp only); rw [List.map_set]; exact hS
 ·replace hS := hS.perm (.swap _ _ _)
  obtain ⟨zB, hbF, hS⟩ := St.freezeV (h0 := fun _ => rfl) (f := vt) (p := fun _ => True) (xs := xb) hS hTl.symm (by omega) (fun _ _ => trivial)
  replace hS : St _ [_, _] [_] _ := hS
  have heq : xb.length = xs.length := by omega
  have hall : ∀ k, k < xs.length → xb.getD k false = true := fun k hk => hTt k (by omega)
  have hord := Hu.ord_of hfam.1 heq
  refine wp_exit ?_
  refine hK3 _ _ ?_
  clear hK3
  refine wp_seq_k ?_; intro K8 hK8
  refine regl ?_
  refine wpl_sq hF hS (sq rfl (q_ld_blkW ty26 0 rfl rfl bQ rfl) <|
    sq_end) ?_
  clear hF hS; intro a w hF hS
  refine wpl_ef hF hS rfl (ef_call fn11 rfl (fun w hS => keys2_ct _ _ _ _ _ _ _ (by first | with_reducible assumption | omega) w (sl_one' hnF) (Sl.mono (hS.le (.inr (by simp))) hsF) (Sl.mono (hS.le (.inr (by simp))) hbF) sl_nil)) ?_
  clear hF hS; rintro v4 _ _ a w ⟨_, _, rfl, rfl, rfl, rfl⟩ hF hS
  replace hS : St _ [_, _] [_, _] _ := hS
  refine wpl_sq hF hS (sq rfl (q_assign rfl) <|
    sq_end) ?_
  clear hF hS; intro a w hF hS
  refine wpList_nil ?_
  refine hK8 _ _ ?_
  clear hK8
  refine wp_seq_k ?_; intro K9 hK9
  refine wp_seq_k ?_; intro K10 hK10
  refine reg hF hS (sq rfl (q_assign rfl) <|
    sq_end) ?_
  clear hF hS; intro a w hF hS
  refine hK10 _ _ ?_
  clear hK10
  refine wp_block ?_
  obtain ⟨hs0, hhs0, hS⟩ : ∃ h, h = _ ∧ St _ _ h _ := ⟨_, rfl, hS⟩
  refine wp_loopx (γ := List (List UInt8) × Int) ((Hu.kyl [] xs.length), 0) (fun (gg : List (List UInt8) × Int) => match gg with | (ks, i) => [(8, vi i)]) [(1, _), (5, _), (7, _)] (fun (gg : List (List UInt8) × Int) => match gg with | (ks, i) => (hs0.set 0 (.row v4 66 16 xs.length (ks.flatten.map vb)))) (fun (gg : List (List UInt8) × Int) => match gg with | (ks, i) => (ks.length = xs.length ∧ ∀ x ∈ ks, x.length = 16) ∧ (0 ≤ i ∧ i ≤ xs.length) ∧ ∀ k, k < i.toNat → ks.getD k [] = Hu.dgI k) (fun (gg : List (List UInt8) × Int) => match gg with | (ks, i) => (xs.length - i).toNat) (hF.sub ⟨rfl, rfl, rfl, rfl, trivial⟩) (by subst hhs0; exact hS) (by exact ⟨⟨Hu.kyl_len _ _, Hu.kyl_16 _ _⟩, ⟨Int.le_refl _, by omega⟩, fun k hk => absurd hk (by simp)⟩) ?_
  clear hF hS; rintro ⟨ks, i⟩ a w hfact hF hS
  subst hhs0; (try dsimp only at hfact); (try dsimp only at hF); (try dsimp only at hS)
  obtain ⟨⟨hKl, hK16⟩, ⟨hi0, hi1⟩, hKd⟩ := hfact
  replace hS : St _ [_, _] [_, _] _ := hS
  refine wp_seq_k ?_; intro K11 hK11
  refine wp_seq_k ?_; intro K12 hK12
  refine reg hF hS (sq rfl (q_move rfl) <|
    sq rfl (q_move rfl) <|
    sq rfl (q_len_row ty28 0 rfl rfl) <|
    sq rfl (q_lti rfl rfl) <|
    sq_end) ?_
  clear hF hS; intro a w hF hS
  refine hK12 _ _ ?_
  clear hK12
  refine wp_ifd hF rfl (fun hc2 => ?_) (fun hc2 => ?_)
  ·refine wp_skip ?_
   refine hK11 _ _ ?_
   clear hK11
   refine wp_seq_k ?_; intro K13 hK13
   refine wp_block ?_
   refine regl ?_
   refine wpl_sq hF hS (sq rfl (q_move rfl) <|
     sq rfl (q_move rfl) <|
     sq rfl (q_move rfl) <|
     sq rfl (q_addi rfl rfl (by omega)) <|
     sq rfl (q_cv_ib ty3 ty5 rfl) <|
     sq rfl (q_build rfl (run_build_arr ty66 ty5 (cells := (Hu.dgI i).map vb) rfl)) <|
     sq rfl (q_idx_row ty28 ty66 0 rfl rfl rfl (by omega)) <|
     sq_end) ?_
   clear hF hS; intro a w hF hS
   refine wpl_ef hF hS rfl (ef_st_rowA ty66 0 rfl rfl rfl hK16 (Hu.dgI_16 i) hKl.symm (by omega)) ?_
   clear hF hS; rintro _ _ _ a w ⟨rfl, rfl, rfl⟩ hF hS
   replace hS : St _ [_, _] [_, _] _ := hS
   refine wpList_nil ?_
   refine hK13 _ _ ?_
   clear hK13
   refine reg hF hS (sq rfl (q_move rfl) <|
     sq rfl (q_addi rfl rfl (by omega)) <|
     sq rfl (q_assign rfl) <|
     sq_end) ?_
   clear hF hS; intro a w hF hS
   refine ⟨((ks.set i.toNat (Hu.dgI i)), i + 1), ?_, ?_, hF.sub ⟨rfl, rfl, rfl, rfl, trivial⟩, ?_⟩
   ·(try dsimp only); omega
   ·exact ⟨⟨by rw [List.length_set]; exact hKl, Hu.set_16 hK16 (Hu.dgI_16 i)⟩, ⟨by omega, by omega⟩, Hu.set_dg ⟨hi0, by omega⟩ hKd⟩
   ·exact hS
  ·obtain ⟨zY, hzY, hS⟩ := St.freezeA (m := 16) (l := ks) hS hKl.symm (by omega) hK16
   replace hS : St _ [_, _, _] [_] _ := hS
   have hdif : Hu.Dif ks xs.length := Hu.dif_dg hxs32 (fun k hk => hKd k (by omega))
   refine wp_exit ?_
   refine hK9 _ _ ?_
   clear hK9
   refine wp_seq_k ?_; intro K14 hK14
   refine regl ?_
   refine wpl_sq hF hS (sq rfl (q_move rfl) <|
     sq rfl (q_move rfl) <|
     sq_end) ?_
   clear hF hS; intro a w hF hS
   refine wpl_ef hF hS rfl (ef_call fn13 rfl (fun w hS => truth2_ct _ _ _ _ (by first | with_reducible assumption | omega) w (Sl.mono (hS.le (.inr (by simp))) hzY) (Sl.mono (hS.le zin0) hn))) ?_
   clear hF hS; rintro v6 _ _ a w ⟨_, _, rfl, rfl, rfl, rfl⟩ hF hS
   replace hS : St _ [_, _, _] [_, _] _ := hS
   refine wpl_sq hF hS (sq rfl (q_assign rfl) <|
     sq_end) ?_
   clear hF hS; intro a w hF hS
   refine wpList_nil ?_
   obtain ⟨bd, hbd⟩ : ∃ bd, bd = Hu.tru n ks ks.length := ⟨_, rfl⟩
   rw [← hbd] at hS
   have hbdl : bd.length = xs.length := by rw [hbd, Hu.tru_len, hKl]
   refine hK14 _ _ ?_
   clear hK14
   refine wp_seq_k ?_; intro K15 hK15
   refine reg hF hS (sq rfl (q_ld_blkW ty26 1 rfl rfl bQ rfl) <|
     sq rfl (q_fieldAddr ty26 rfl rfl (s' := 0) kQ) <|
     sq rfl (q_ld_blk1 ty23 1 rfl rfl rfl rfl) <|
     sq rfl (q_len_sl ty23 hnF rfl) <|
     sq rfl (q_cv_iq ty3 ty72 rfl) <|
     sq rfl (q_shli rfl rfl (by omega) (by omega)) <|
     sq rfl (q_subi rfl rfl (by omega)) <|
     sq rfl (q_call fn38 rfl (fun w hS => rclosure_ct _ _ _ _ _ _ w (sl_one' hnF) (Sl.mono (hS.le (.inr (by simp))) hsF) (Sl.mono (hS.le (.inr (by simp))) hbF)) (fun _ _ _ h => h)) <|
     sq rfl (q_assign rfl) <|
     sq_end) ?_
   clear hF hS; intro a w hF hS
   rw [hcl9] at hF
   refine hK15 _ _ ?_
   clear hK15
   refine wp_seq_k ?_; intro K16 hK16
   refine regl ?_
   refine wpl_sq hF hS (sq rfl (q_ld_blkW ty26 1 rfl rfl bQ rfl) <|
     sq rfl (q_call fn17 rfl (fun w hS => own_ct _ _ _ _ _ w (sl_one' hnF) (Sl.mono (hS.le (.inr (by simp))) hsF) (Sl.mono (hS.le (.inr (by simp))) hbF)) (fun _ _ _ h => h)) <|
     sq rfl (q_move rfl) <|
     sq_end) ?_
   clear hF hS; intro a w hF hS
   refine wpl_ef hF hS rfl (ef_call fn46 rfl (fun w hS => lpath_ct _ _ _ _ _ _ _ (by omega) (by assumption) (by assumption) (by assumption) (by assumption) w (sl_one' hnF) (Sl.mono (hS.le (.inr (by simp))) hsF) (Sl.mono (hS.le (.inr (by simp))) hbF))) ?_
   clear hF hS; rintro _ _ _ a w ⟨_, _, rfl, rfl, ⟨vP, p9, zP, rfl, hzP, hPt9, rfl, rfl⟩⟩ hF hS
   replace hS : St _ [_, _, _, _] [_, _] _ := hS
   refine wpl_sq hF hS (sq rfl (q_move rfl) <|
     sq rfl (q_extract rfl rfl) <|
     sq rfl (q_extract rfl rfl) <|
     sq rfl (q_assign rfl) <|
     sq rfl (q_assign rfl) <|
     sq_end) ?_
   clear hF hS; intro a w hF hS
   refine wpList_nil ?_
   have hpl9 := Hu.pth_len hPt9
   rw [hfu, Hu.size_full hns5, Hu.size_zero] at hpl9
   refine hK16 _ _ ?_
   clear hK16
   refine wp_seq_k ?_; intro K17 hK17
   refine wp_seq_k ?_; intro K18 hK18
   refine reg hF hS (sq rfl (q_move rfl) <|
     sq rfl (q_nf (q_nei rfl rfl) (rfl)) <|
     sq rfl (q_move rfl) <|
     sq_go 71 rfl rfl rfl (q_move rfl) <|
     sq_go 71 rfl rfl rfl (q_len_sl ty22 hzP rfl) <|
     sq_go 71 rfl rfl rfl (q_fieldAddr ty26 rfl rfl (s' := 0) kQ) <|
     sq_go 71 rfl rfl rfl (q_ld_blk1 ty23 1 rfl rfl rfl rfl) <|
     sq_go 71 rfl rfl rfl (q_len_sl ty23 hnF rfl) <|
     sq_go 71 rfl rfl rfl (q_addi rfl rfl (by omega)) <|
     sq_go 71 rfl rfl rfl (q_nf (q_nei rfl rfl) (by omega)) <|
     sq rfl (q_pick_f rfl rfl) <|
     sq_end) ?_
   clear hF hS; intro a w hF hS
   refine hK18 _ _ ?_
   clear hK18
   refine wp_if hF rfl (fun h => absurd h (by simp)) (fun _ => ?_)
   refine wp_skip ?_
   refine hK17 _ _ ?_
   clear hK17
   refine wp_seq_k ?_; intro K19 hK19
   refine wp_seq_k ?_; intro K20 hK20
   refine reg hF hS (sq rfl (q_move rfl) <|
     sq rfl (q_len_sl ty22 hzP rfl) <|
     sq rfl (q_lti rfl rfl) <|
     sq_end) ?_
   clear hF hS; intro a w hF hS
   refine hK20 _ _ ?_
   clear hK20
   refine wp_ifd hF rfl (fun hc4 => ?_) (fun hc4 => ?_)
   ·refine wp_seq_k ?_; intro K21 hK21
    refine reg hF hS (sq rfl (q_call fn25 rfl (fun w hS => lives_ct w ) (fun _ _ _ h => h)) <|
      sq rfl (q_assign rfl) <|
      sq_end) ?_
    clear hF hS; intro a w hF hS
    refine hK21 _ _ ?_
    clear hK21
    refine wp_ret ?_
    exact fn_ret (rs := [.tmp 4]) rfl hF hS (vs := [_]) ⟨rfl, trivial⟩ zQ zQ (rfl)
   ·refine wp_skip ?_
    refine hK19 _ _ ?_
    clear hK19
    refine wp_seq_k ?_; intro K22 hK22
    refine regl ?_
    refine wpl_sq hF hS (sq rfl (q_move rfl) <|
      sq rfl (q_ld_blkW ty26 1 rfl rfl bQ rfl) <|
      sq rfl (q_call fn45 rfl (fun w hS => rix_ct _ _ _ _ _ _ w (sl_one' hnF) (Sl.mono (hS.le (.inr (by simp))) hsF) (Sl.mono (hS.le (.inr (by simp))) hbF)) (fun _ _ _ h => h)) <|
      sq rfl (q_idx_row ty24 ty4 0 rfl rfl rfl (by omega)) <|
      sq_end) ?_
    clear hF hS; intro a w hF hS
    refine wpl_ef hF hS rfl (ef_st_row ty4 0 rfl rfl rfl (by omega) rfl) ?_
    clear hF hS; rintro _ _ _ a w ⟨rfl, rfl, rfl⟩ hF hS
    replace hS : St _ [_, _, _, _] [_, _] _ := hS
    refine wpList_nil ?_
    refine hK22 _ _ ?_
    clear hK22
    refine wp_seq_k ?_; intro K23 hK23
    refine regl ?_
    refine wpl_sq hF hS (sq rfl (q_move rfl) <|
      sq rfl (q_ld_blkW ty26 1 rfl rfl bQ rfl) <|
      sq rfl (q_move rfl) <|
      sq rfl (q_call fn45 rfl (fun w hS => rix_ct _ _ _ _ _ _ w (sl_one' hnF) (Sl.mono (hS.le (.inr (by simp))) hsF) (Sl.mono (hS.le (.inr (by simp))) hbF)) (fun _ _ _ h => h)) <|
      sq rfl (q_idx_row ty24 ty4 0 rfl rfl rfl (by omega)) <|
      sq_end) ?_
    clear hF hS; intro a w hF hS
    refine wpl_ef hF hS rfl (ef_st_row ty4 0 rfl rfl rfl (by omega) rfl) ?_
    clear hF hS; rintro _ _ _ a w ⟨rfl, rfl, rfl⟩ hF hS
    replace hS : St _ [_, _, _, _] [_, _] _ := hS
    refine wpList_nil ?_
    obtain ⟨BB, hBB⟩ : ∃ l, l = (bd.set (Gu.ixF (fun y => decide ((0 : Int) = y)) xs).toNat false).set (Gu.ixF (fun y => decide (fu = y)) xs).toNat true := ⟨_, rfl⟩
    have hBl : BB.length = xs.length := by rw [hBB, List.length_set, List.length_set, hbdl]
    have hbb := Hu.bb_ok (bd := bd) hfam.1 hPt9 (by omega) hbdl
    rw [← hBB] at hbb
    replace hS := hS.rowEq (m' := BB.length) (cs' := BB.map vt) (by omega) (by rw [hBB, List.map_set, List.map_set])
    obtain ⟨zT9, hzT9, hS⟩ := St.freezeV (h0 := fun _ => rfl) (f := vt) (p := fun _ => True) (xs := BB) hS rfl (by omega) (fun _ _ => trivial)
    replace hS : St _ [_, _, _, _, _] [_] _ := hS
    obtain ⟨m1, m2, hs1, hs2, hsch, hok1⟩ := Hu.sch_start (bad := BB) hfam.1 hPt9 hall hdif hord hKl (by omega) hbb.1 hbb.2
    refine hK23 _ _ ?_
    clear hK23
    refine wp_seq_k ?_; intro K24 hK24
    refine regl ?_
    refine wpl_sq hF hS (sq rfl (q_ld_blkW ty26 0 rfl rfl bQ rfl) <|
      sq rfl (q_call fn17 rfl (fun w hS => own_ct _ _ _ _ _ w (sl_one' hnF) (Sl.mono (hS.le (.inr (by simp))) hsF) (Sl.mono (hS.le (.inr (by simp))) hbF)) (fun _ _ _ h => h)) <|
      sq rfl (q_move rfl) <|
      sq_end) ?_
    clear hF hS; intro a w hF hS
    refine wpl_ef hF hS rfl (ef_call fn16 rfl (fun w hS => new_ct _ _ _ _ _ _ _ (by omega) w (sl_one' hnF) (Sl.mono (hS.le (.inr (by simp))) hsF) (Sl.mono (hS.le (.inr (by simp))) hbF) (Sl.mono (hS.le (.inr (by simp))) hzY))) ?_
    clear hF hS; rintro _ _ _ a w ⟨_, _, rfl, rfl, ⟨kN, mN, zN, rfl, hkN, hmN, rfl, rfl⟩⟩ hF hS
    replace hS : St _ [_, _, _, _, _, _] [_] _ := hS
    refine wpl_sq hF hS (sq rfl (q_move rfl) <|
      sq rfl (q_extract rfl rfl) <|
      sq rfl (q_extract rfl rfl) <|
      sq_end) ?_
    clear hF hS; intro a w hF hS
    refine wpl_ef hF hS rfl (ef_allocA ty38) ?_
    clear hF hS; rintro _ _ _ a w ⟨b10, rfl, rfl, rfl⟩ hF hS
    refine wpl_ef hF hS rfl (ef_storeW ty38 0 rfl rfl rfl rfl bQ (oc_cons (sl_one' hkN) (oc_cons (sl_one' hmN) oc_nil)) bQ) ?_
    clear hF hS; rintro _ _ _ a w ⟨rfl, rfl, rfl⟩ hF hS
    replace hS : St _ [_, _, _, _, _, _] [_, _] _ := hS
    refine wpl_sq hF hS (sq rfl (q_assign rfl) <|
      sq_end) ?_
    clear hF hS; intro a w hF hS
    refine wpList_nil ?_
    rw [Hu.newK_ok hord hKl] at hkN hmN hF
    replace hkN : Sl (encA 16) zN kN ks := hkN
    replace hmN : Sl encI zN mN (List.replicate ks.length 0) := hmN
    refine hK24 _ _ ?_
    clear hK24
    refine wp_seq_k ?_; intro K25 hK25
    revert hS; revert hF; apply regJ (J := J3 (α0 := Value) (α1 := Value) (α2 := PH) 234 _ _ _ _ _) #[false, false, false, false, false, false, false, false, false] 9 mixed rfl rfl
    ·intro w hF hS
     refine goW_take 0 _ rfl kQ rfl hF (hS.keep sQ (sQ.n)) (q_ld_blkW ty26 0 rfl rfl bQ rfl) ?_
     clear hF; intro a hF
     refine goW_take 2 _ rfl kQ rfl hF (hS.keep sQ (zQ.k)) (q_ld_blkW ty38 0 rfl rfl bQ rfl) ?_
     clear hF; intro a hF
     refine gQ 1 rfl rfl hF hS rfl (ef_qt (q_call fn17 rfl (fun w hS => own_ct _ _ _ _ _ w (sl_one' hnF) (Sl.mono (hS.le (.inr (by simp))) hsF) (Sl.mono (hS.le (.inr (by simp))) hbF)) (fun _ _ _ h => h))) ?_
     clear hF hS; rintro _ _ _ a w ⟨rfl, rfl, rfl⟩ hF hS
     refine ⟨⟨.inr (hS.keep sQ (zQ.k)), iQ, trivial⟩, ?_⟩
     refine gQ 3 rfl rfl hF hS rfl (ef_call fn22 rfl (fun w hS => tell_ct _ _ _ _ _ _ _ _ _ _ _ (by omega) w (sl_one' hnF) (Sl.mono (hS.le (.inr (by simp))) hsF) (Sl.mono (hS.le (.inr (by simp))) hbF) (Sl.mono (hS.le (.inr (by simp))) hkN) (Sl.mono (hS.le (.inr (by simp))) hmN))) ?_
     clear hF hS; rintro _ _ _ a w ⟨_, _, rfl, rfl, ⟨kD, mD, zD, rfl, hkD, hmD, rfl, rfl⟩⟩ hF hS
     refine ⟨⟨iQ, iQ, trivial⟩, ?_⟩
     refine goW_take 4 _ rfl kQ rfl hF (hS.keep sQ zQ) (q_move rfl) ?_
     clear hF; intro a hF
     refine goW_take 5 _ rfl kQ rfl hF (hS.keep sQ zQ) (q_extract rfl rfl) ?_
     clear hF; intro a hF
     refine goW_take 6 _ rfl kQ rfl hF (hS.keep sQ zQ) (q_extract rfl rfl) ?_
     clear hF; intro a hF
     refine gQ 7 rfl rfl hF hS rfl (ef_storeW ty38 0 rfl rfl rfl rfl bQ (oc_cons (sl_one' hkD) (oc_cons (sl_one' hmD) oc_nil)) bQ) ?_
     clear hF hS; rintro _ _ _ a w ⟨rfl, rfl, rfl⟩ hF hS
     refine ⟨⟨.inr (hS.keep sQ zQ), iQ, iQ, iQ, iQ, trivial⟩, ?_⟩
     refine goW_take 8 _ rfl kQ rfl hF (hS.keep sQ zQ) (q_assign rfl) ?_
     clear hF; intro a hF
     exact goW_done kQ (j3_mk kD mD zD ((And.intro hkD (And.intro hmD trivial))) (hF.sub (L' := [(5, _), (9, _), (10, _), (11, _), (13, _), (14, _), (15, _)]) ⟨rfl, rfl, rfl, rfl, rfl, rfl, rfl, trivial⟩) hS)
    rintro a w ⟨kD, mD, zD, ⟨hkD, hmD, -⟩, hF, hS⟩
    (try dsimp only at hF); (try dsimp only at hS)
    rw [hs1] at hkD hmD hF
    replace hkD : Sl (encA 16) zD kD ks := hkD
    replace hmD : Sl encI zD mD m1 := hmD
    refine hK25 _ _ ?_
    clear hK25
    refine wp_seq_k ?_; intro K26 hK26
    revert hS; revert hF; apply regJ (J := J3 (α0 := Value) (α1 := Value) (α2 := PH) 234 _ _ _ _ _) #[false, false, false, false, false, false, false, false, false, false] 10 mixed rfl rfl
    ·intro w hF hS
     refine goW_take 0 _ rfl kQ rfl hF (hS.keep sQ (sQ.n)) (q_ld_blkW ty26 0 rfl rfl bQ rfl) ?_
     clear hF; intro a hF
     refine goW_take 2 _ rfl kQ rfl hF (hS.keep sQ (zQ.k)) (q_ld_blkW ty38 0 rfl rfl bQ rfl) ?_
     clear hF; intro a hF
     refine goW_take 3 _ rfl kQ rfl hF (hS.keep sQ zQ) (q_move rfl) ?_
     clear hF; intro a hF
     refine gQ 1 rfl rfl hF hS rfl (ef_qt (q_call fn17 rfl (fun w hS => own_ct _ _ _ _ _ w (sl_one' hnF) (Sl.mono (hS.le (.inr (by simp))) hsF) (Sl.mono (hS.le (.inr (by simp))) hbF)) (fun _ _ _ h => h))) ?_
     clear hF hS; rintro _ _ _ a w ⟨rfl, rfl, rfl⟩ hF hS
     refine ⟨⟨.inr (hS.keep sQ zQ), .inr (hS.keep sQ (zQ.k)), iQ, trivial⟩, ?_⟩
     refine gQ 4 rfl rfl hF hS rfl (ef_call fn22 rfl (fun w hS => tell_ct _ _ _ _ _ _ _ _ _ _ _ (by omega) w (sl_one' hnF) (Sl.mono (hS.le (.inr (by simp))) hsF) (Sl.mono (hS.le (.inr (by simp))) hbF) (Sl.mono (hS.le (.inr (by simp))) hkD) (Sl.mono (hS.le (.inr (by simp))) hmD))) ?_
     clear hF hS; rintro _ _ _ a w ⟨_, _, rfl, rfl, ⟨kE, mE, zE, rfl, hkE, hmE, rfl, rfl⟩⟩ hF hS
     refine ⟨⟨iQ, iQ, iQ, trivial⟩, ?_⟩
     refine goW_take 5 _ rfl kQ rfl hF (hS.keep sQ zQ) (q_move rfl) ?_
     clear hF; intro a hF
     refine goW_take 6 _ rfl kQ rfl hF (hS.keep sQ zQ) (q_extract rfl rfl) ?_
     clear hF; intro a hF
     refine goW_take 7 _ rfl kQ rfl hF (hS.keep sQ zQ) (q_extract rfl rfl) ?_
     clear hF; intro a hF
     refine gQ 8 rfl rfl hF hS rfl (ef_storeW ty38 0 rfl rfl rfl rfl bQ (oc_cons (sl_one' hkE) (oc_cons (sl_one' hmE) oc_nil)) bQ) ?_
     clear hF hS; rintro _ _ _ a w ⟨rfl, rfl, rfl⟩ hF hS
     refine ⟨⟨.inr (hS.keep sQ zQ), iQ, iQ, iQ, iQ, iQ, trivial⟩, ?_⟩
     refine goW_take 9 _ rfl kQ rfl hF (hS.keep sQ zQ) (q_assign rfl) ?_
     clear hF; intro a hF
     exact goW_done kQ (j3_mk kE mE zE ((And.intro hkE (And.intro hmE trivial))) (hF.sub (L' := [(5, _), (9, _), (11, _), (13, _), (14, _), (15, _), (16, _)]) ⟨rfl, rfl, rfl, rfl, rfl, rfl, rfl, trivial⟩) hS)
    rintro a w ⟨kE, mE, zE, ⟨hkE, hmE, -⟩, hF, hS⟩
    (try dsimp only at hF); (try dsimp only at hS)
    rw [hs2] at hkE hmE hF
    replace hkE : Sl (encA 16) zE kE ks := hkE
    replace hmE : Sl encI zE mE m2 := hmE
    refine hK26 _ _ ?_
    clear hK26
    refine wp_seq_k ?_; intro K27 hK27
    refine wp_seq_k ?_; intro K28 hK28
    refine reg hF hS (sq rfl (q_move rfl) <|
      sq rfl (q_nf (q_nei rfl rfl) (rfl)) <|
      sq rfl (q_move rfl) <|
      sq_go 117 rfl rfl rfl (q_move rfl) <|
      sq_go 117 rfl rfl rfl (q_nf (q_nei rfl rfl) (rfl)) <|
      sq rfl (q_pick_f rfl rfl) <|
      sq rfl (q_move rfl) <|
      sq_go 121 rfl rfl rfl (q_move rfl) <|
      sq_go 121 rfl rfl rfl (q_nf (q_nei rfl rfl) (rfl)) <|
      sq rfl (q_pick_f rfl rfl) <|
      sq_end) ?_
    clear hF hS; intro a w hF hS
    refine hK28 _ _ ?_
    clear hK28
    refine wp_if hF rfl (fun h => absurd h (by simp)) (fun _ => ?_)
    refine wp_skip ?_
    refine hK27 _ _ ?_
    clear hK27
    refine wp_seq_k ?_; intro K29 hK29
    refine regd mixed kQ hF hS (sq rfl (q_ld_blkW ty26 1 rfl rfl bQ rfl) <|
      sq rfl (q_call fn17 rfl (fun w hS => own_ct _ _ _ _ _ w (sl_one' hnF) (Sl.mono (hS.le (.inr (by simp))) hsF) (Sl.mono (hS.le (.inr (by simp))) hbF)) (fun _ _ _ h => h)) <|
      sq rfl (q_ld_blkW ty38 0 rfl rfl bQ rfl) <|
      sq rfl (q_move rfl) <|
      sq rfl (q_call fn41 rfl (fun w hS => line_ct _ _ _ _ _ _ _ _ _ _ _ (by omega) (by omega) w (sl_one' hnF) (Sl.mono (hS.le (.inr (by simp))) hsF) (Sl.mono (hS.le (.inr (by simp))) hbF) (Sl.mono (hS.le (.inr (by simp))) hkE) (Sl.mono (hS.le (.inr (by simp))) hmE) (Sl.mono (hS.le (.inr (by simp))) hzP)) (fun _ _ _ h => h)) <|
      sq rfl (q_move rfl) <|
      sq rfl (q_extract rfl rfl) <|
      sq rfl (q_extract rfl rfl) <|
      sq rfl (q_extract rfl rfl) <|
      sq rfl (q_assign rfl) <|
      sq rfl (q_assign rfl) <|
      sq rfl (q_assign rfl) <|
      sq_end) ?_
    clear hF hS; intro a w hF hS
    refine hK29 _ _ ?_
    clear hK29
    refine wp_seq_k ?_; intro K30 hK30
    refine reg hF hS (sq rfl (q_assign rfl) <|
      sq_end) ?_
    clear hF hS; intro a w hF hS
    refine hK30 _ _ ?_
    clear hK30
    refine wp_seq_k ?_; intro K31 hK31
    refine wp_block ?_
    obtain ⟨hs0, hhs0, hS⟩ : ∃ h, h = _ ∧ St _ _ h _ := ⟨_, rfl, hS⟩
    obtain ⟨zs0, hzs0, hS⟩ : ∃ h, h = _ ∧ St _ h _ _ := ⟨_, rfl, hS⟩
    replace hS := hS.dupz (z := zE) (by subst hzs0; simp)
    refine wp_loopz (γ := PH × Value × Value × List Int × Nat × Nat × Nat) (zE, kE, mE, m2, 0, (p9.length - 1), 0) (fun (gg : PH × Value × Value × List Int × Nat × Nat × Nat) => match gg with | (z, kv, mv, q, l9, h9, qa) => z :: zs0) (fun (gg : PH × Value × Value × List Int × Nat × Nat × Nat) => match gg with | (z, kv, mv, q, l9, h9, qa) => [(17, vi (Hu.lnR xs xb ks q p9).1), (18, .bool (Hu.lnR xs xb ks q p9).2.1), (19, vi (Hu.lnR xs xb ks q p9).2.2), (20, vi ((qa : Nat) : Int))]) [(5, _), (9, _), (11, _), (13, _)] (fun (gg : PH × Value × Value × List Int × Nat × Nat × Nat) => match gg with | (z, kv, mv, q, l9, h9, qa) => (hs0.set 0 (.blk b10 38 [kv, mv]))) (fun (gg : PH × Value × Value × List Int × Nat × Nat × Nat) => match gg with | (z, kv, mv, q, l9, h9, qa) => (Sl (encA 16) z kv ks ∧ Sl encI z mv q) ∧ Hu.Sch xs xb ks BB p9 q l9 h9 ∧ qa + Hu.gq (h9 - l9) ≤ Hu.gq (p9.length - 1)) (fun (gg : PH × Value × Value × List Int × Nat × Nat × Nat) => match gg with | (z, kv, mv, q, l9, h9, qa) => h9 - l9) (hF.sub ⟨rfl, rfl, rfl, rfl, rfl, rfl, rfl, rfl, trivial⟩) (by subst hhs0; exact hS) (by exact ⟨⟨hkE, hmE⟩, hsch, by rw [Nat.zero_add, Nat.sub_zero]; exact Nat.le_refl _⟩) ?_
    clear hF hS; rintro ⟨z, kv, mv, q, l9, h9, qa⟩ a w hfact hF hS
    subst hhs0; subst hzs0; (try dsimp only at hfact); (try dsimp only at hF); (try dsimp only at hS)
    obtain ⟨⟨hkz, hmz⟩, hSc, hqa⟩ := hfact
    replace hS : St _ [_, _, _, _, _, _, _, _, _] [_, _] _ := hS
    have hln := Hu.sch_line hfam.1 hPt9 hall hSc
    have hslt := hSc.lt
    have hge := Hu.gq_end (n := p9.length - 1) (a := qa) ⟨by omega, by omega⟩ (by omega)
    refine wp_seq_k ?_; intro K32 hK32
    refine wp_seq_k ?_; intro K33 hK33
    refine regl ?_
    refine wpl_sq hF hS (sq rfl (q_move rfl) <|
      sq rfl (q_move rfl) <|
      sq_end) ?_
    clear hF hS; intro a w hF hS
    refine wpl_and 1 135 2 hF hS rfl rfl rfl rfl rfl (fun hg => have hg := hg; sq_go 135 rfl rfl rfl (q_move rfl) <|
      sq_go 135 rfl rfl rfl (q_lti rfl rfl) <|
      sq_end) rfl rfl ?_
    clear hF hS; intro a w hF hS
    refine wpList_nil ?_
    refine hK33 _ _ ?_
    clear hK33
    refine wp_if hF rfl (fun hc6 => ?_) (fun hc6 => ?_)
    ·(try simp only [Bool.or_eq_true, Bool.and_eq_true, Bool.or_eq_false_iff, Bool.and_eq_false_iff, decide_eq_true_eq, decide_eq_false_iff_not, Bool.not_eq_true', Bool.not_eq_false'] at hc6)
     have hlt9 : l9 + 1 < h9 := by
      by_cases h : l9 + 1 < h9
      ·exact h
      ·rw [if_neg h] at hln; rw [hln] at hc6; cases hc6.1
     rw [if_pos hlt9] at hln
     obtain ⟨q2, l2, h2, ht0, hsc2, hmeas, hgq2⟩ := Hu.sch_next hfam.1 hPt9 hall hdif (by omega) hSc hlt9
     obtain ⟨kk, hkk⟩ : ∃ k, k = (l9 + h9) / 2 := ⟨_, rfl⟩
     rw [← hkk] at hln ht0
     have hps := Hu.pa_spec hfam.1 hPt9 (i := kk) (by omega)
     have hix9 : Gu.ixF (fun y => decide (p9.getD kk 0 = y)) xs = ((Hu.pa xs p9 kk) : Int) := hps.2.2.1
     have hmd := hSc.mid kk (by omega) (by omega)
     have hfu9 := Hu.fit_use hSc.ok.fit
     have ht1 : Hu.telK xs xb ks q (p9.getD kk 0) (BB.getD ((((Hu.pa xs p9 kk) : Nat) : Int)).toNat false) = (ks, q2, 0) := ht0
     rw [hln] at hF
     (try dsimp only at hF)
     refine wp_skip ?_
     refine hK32 _ _ ?_
     clear hK32
     refine wp_block ?_
     refine wp_seq_k ?_; intro K34 hK34
     refine reg hF hS (sq rfl (q_ld_blkW ty26 1 rfl rfl bQ rfl) <|
       sq rfl (q_move rfl) <|
       sq rfl (q_call fn45 rfl (fun w hS => rix_ct _ _ _ _ _ _ w (sl_one' hnF) (Sl.mono (hS.le (.inr (by simp))) hsF) (Sl.mono (hS.le (.inr (by simp))) hbF)) (fun _ _ _ h => h)) <|
       sq rfl (q_assign rfl) <|
       sq_end) ?_
     clear hF hS; intro a w hF hS
     rw [hix9] at hF
     refine hK34 _ _ ?_
     clear hK34
     refine wp_seq_k ?_; intro K35 hK35
     refine wp_seq_k ?_; intro K36 hK36
     refine reg hF hS (sq rfl (q_move rfl) <|
       sq rfl (q_nf (q_nei rfl rfl) (rfl)) <|
       sq rfl (q_move rfl) <|
       sq_go 144 rfl rfl rfl (q_move rfl) <|
       sq_go 144 rfl rfl rfl (q_df (q_lti rfl rfl) (by omega)) <|
       sq rfl (q_pick_f rfl rfl) <|
       sq rfl (q_move rfl) <|
       sq_go 148 rfl rfl rfl (q_fieldAddr ty38 rfl rfl (s' := 0) kQ) <|
       sq_go 148 rfl rfl rfl (q_ld_blk1 ty22 0 rfl rfl rfl rfl) <|
       sq_go 148 rfl rfl rfl (q_move rfl) <|
       sq_go 148 rfl rfl rfl (q_max rfl rfl) <|
       sq_go 148 rfl rfl rfl (q_idx_sl ty22 ty3 hmz rfl rfl (by omega)) <|
       sq_go 148 rfl rfl rfl (q_ld_I ty3 hmz (.inr (by simp)) rfl rfl (by omega)) <|
       sq_go 148 rfl rfl rfl (q_nf (q_nei rfl rfl) (by rw [show (max (((Hu.pa xs p9 kk) : Nat) : Int) 0).toNat = (Hu.pa xs p9 kk) by omega]; exact hmd)) <|
       sq rfl (q_pick_f rfl rfl) <|
       sq_end) ?_
     clear hF hS; intro a w hF hS
     refine hK36 _ _ ?_
     clear hK36
     refine wp_if hF rfl (fun h => absurd h (by simp)) (fun _ => ?_)
     refine wp_skip ?_
     refine hK35 _ _ ?_
     clear hK35
     refine wp_seq_k ?_; intro K37 hK37
     revert hS; revert hF; apply regJ (J := J3 (α0 := Value) (α1 := Value) (α2 := PH) 234 _ _ _ _ _) #[false, false, false, false, false, false, false, false, false, false, false, false, false, false] 14 mixed rfl rfl
     ·intro w hF hS
      refine goW_take 0 _ rfl kQ rfl hF (hS.keep sQ (sQ.n)) (q_ld_blkW ty26 0 rfl rfl bQ rfl) ?_
      clear hF; intro a hF
      refine goW_take 2 _ rfl kQ rfl hF (hS.keep sQ (zQ.k)) (q_ld_blkW ty38 0 rfl rfl bQ rfl) ?_
      clear hF; intro a hF
      refine goW_take 3 _ rfl kQ rfl hF (hS.keep sQ zQ) (q_move rfl) ?_
      clear hF; intro a hF
      refine goW_take 4 _ rfl kQ rfl hF (hS.keep sQ zQ) (q_move rfl) ?_
      clear hF; intro a hF
      refine goW_take 5 _ rfl kQ rfl hF (hS.keep sQ zQ) (q_move rfl) ?_
      clear hF; intro a hF
      refine goW_take 6 _ rfl kQ rfl hF (hS.keep sQ zQ) (q_idx_sl ty24 ty4 hzT9 rfl rfl (by omega)) ?_
      clear hF; intro a hF
      refine goW_take 7 _ rfl kQ rfl hF (hS.keep sQ zQ) (q_ld_T ty4 hzT9 (.inr (by simp)) rfl rfl (by omega)) ?_
      clear hF; intro a hF
      refine gQ 1 rfl rfl hF hS rfl (ef_qt (q_call fn17 rfl (fun w hS => own_ct _ _ _ _ _ w (sl_one' hnF) (Sl.mono (hS.le (.inr (by simp))) hsF) (Sl.mono (hS.le (.inr (by simp))) hbF)) (fun _ _ _ h => h))) ?_
      clear hF hS; rintro _ _ _ a w ⟨rfl, rfl, rfl⟩ hF hS
      refine ⟨⟨.inr (hS.keep sQ zQ), .inr (hS.keep sQ zQ), .inr (hS.keep sQ zQ), .inr (hS.keep sQ zQ), .inr (hS.keep sQ zQ), .inr (hS.keep sQ (zQ.k)), iQ, trivial⟩, ?_⟩
      refine gQ 8 rfl rfl hF hS rfl (ef_call fn22 rfl (fun w hS => tell_ct _ _ _ _ _ _ _ _ _ _ _ (by omega) w (sl_one' hnF) (Sl.mono (hS.le (.inr (by simp))) hsF) (Sl.mono (hS.le (.inr (by simp))) hbF) (Sl.mono (hS.le (.inr (by simp))) hkz) (Sl.mono (hS.le (.inr (by simp))) hmz))) ?_
      clear hF hS; rintro _ _ _ a w ⟨_, _, rfl, rfl, ⟨kT, mT, zT, rfl, hkT, hmT, rfl, rfl⟩⟩ hF hS
      refine ⟨⟨iQ, iQ, .inr (hS.keep (sQ.n) zQ), .inr (hS.keep (sQ.n) zQ), iQ, iQ, iQ, trivial⟩, ?_⟩
      refine goW_take 9 _ rfl kQ rfl hF (hS.keep sQ zQ) (q_move rfl) ?_
      clear hF; intro a hF
      refine goW_take 10 _ rfl kQ rfl hF (hS.keep sQ zQ) (q_extract rfl rfl) ?_
      clear hF; intro a hF
      refine goW_take 11 _ rfl kQ rfl hF (hS.keep sQ zQ) (q_extract rfl rfl) ?_
      clear hF; intro a hF
      refine gQ 12 rfl rfl hF hS rfl (ef_storeW ty38 0 rfl rfl rfl rfl bQ (oc_cons (sl_one' hkT) (oc_cons (sl_one' hmT) oc_nil)) bQ) ?_
      clear hF hS; rintro _ _ _ a w ⟨rfl, rfl, rfl⟩ hF hS
      refine ⟨⟨.inr (hS.keep sQ zQ), iQ, iQ, iQ, iQ, iQ, iQ, iQ, iQ, iQ, trivial⟩, ?_⟩
      refine goW_take 13 _ rfl kQ rfl hF (hS.keep sQ zQ) (q_assign rfl) ?_
      clear hF; intro a hF
      exact goW_done kQ (j3_mk kT mT zT ((And.intro hkT (And.intro hmT trivial))) (hF.sub (L' := [(5, _), (9, _), (11, _), (13, _), (14, _), (20, _)]) ⟨rfl, rfl, rfl, rfl, rfl, rfl, trivial⟩) hS)
     rintro a w ⟨kT, mT, zT, ⟨hkT, hmT, -⟩, hF, hS⟩
     (try dsimp only at hF); (try dsimp only at hS)
     rw [ht1] at hkT hmT hF
     replace hkT : Sl (encA 16) zT kT ks := hkT
     replace hmT : Sl encI zT mT q2 := hmT
     refine hK37 _ _ ?_
     clear hK37
     refine wp_seq_k ?_; intro K38 hK38
     refine wp_seq_k ?_; intro K39 hK39
     refine reg hF hS (sq rfl (q_move rfl) <|
       sq rfl (q_nf (q_nei rfl rfl) (rfl)) <|
       sq_end) ?_
     clear hF hS; intro a w hF hS
     refine hK39 _ _ ?_
     clear hK39
     refine wp_if hF rfl (fun h => absurd h (by simp)) (fun _ => ?_)
     refine wp_skip ?_
     refine hK38 _ _ ?_
     clear hK38
     refine wp_seq_k ?_; intro K40 hK40
     refine reg hF hS (sq rfl (q_move rfl) <|
       sq rfl (q_addi rfl rfl (by omega)) <|
       sq rfl (q_assign rfl) <|
       sq_end) ?_
     clear hF hS; intro a w hF hS
     refine hK40 _ _ ?_
     clear hK40
     refine regd mixed kQ hF hS (sq rfl (q_ld_blkW ty26 1 rfl rfl bQ rfl) <|
       sq rfl (q_call fn17 rfl (fun w hS => own_ct _ _ _ _ _ w (sl_one' hnF) (Sl.mono (hS.le (.inr (by simp))) hsF) (Sl.mono (hS.le (.inr (by simp))) hbF)) (fun _ _ _ h => h)) <|
       sq rfl (q_ld_blkW ty38 0 rfl rfl bQ rfl) <|
       sq rfl (q_move rfl) <|
       sq rfl (q_call fn41 rfl (fun w hS => line_ct _ _ _ _ _ _ _ _ _ _ _ (by omega) (by omega) w (sl_one' hnF) (Sl.mono (hS.le (.inr (by simp))) hsF) (Sl.mono (hS.le (.inr (by simp))) hbF) (Sl.mono (hS.le (.inr (by simp))) hkT) (Sl.mono (hS.le (.inr (by simp))) hmT) (Sl.mono (hS.le (.inr (by simp))) hzP)) (fun _ _ _ h => h)) <|
       sq rfl (q_move rfl) <|
       sq rfl (q_extract rfl rfl) <|
       sq rfl (q_extract rfl rfl) <|
       sq rfl (q_extract rfl rfl) <|
       sq rfl (q_assign rfl) <|
       sq rfl (q_assign rfl) <|
       sq rfl (q_assign rfl) <|
       sq_end) ?_
     clear hF hS; intro a w hF hS
     replace hS := hS.keep (sQ.n.k) sQ
     refine ⟨(zT, kT, mT, q2, l2, h2, qa + 1), ?_, ?_, hF.sub ⟨rfl, rfl, rfl, rfl, rfl, rfl, rfl, rfl, trivial⟩, ?_⟩
     ·(try dsimp only); omega
     ·exact ⟨⟨hkT, hmT⟩, hsc2, by omega⟩
     ·exact hS
    ·(try simp only [Bool.or_eq_true, Bool.and_eq_true, Bool.or_eq_false_iff, Bool.and_eq_false_iff, decide_eq_true_eq, decide_eq_false_iff_not, Bool.not_eq_true', Bool.not_eq_false'] at hc6)
     have hnl : ¬ l9 + 1 < h9 := fun h => by
      rw [if_pos h] at hln
      rw [hln] at hc6
      rcases hc6 with h1 | h1
      ·cases h1
      ·omega
     rw [if_neg hnl] at hln
     rw [hln] at hF
     (try dsimp only at hF)
     have hpq : (1 * 2 ^ (min ((ofq (qa : Int)).toNat : Int).toNat 64) : Int) = ((2 ^ qa : Nat) : Int) := Hu.pw_eq (x := (qa : Int)) ⟨by omega, by omega⟩
     have hpw2 := Hu.pw32 (n := qa) (by omega)
     have hbe := Hu.sch_bad hfam.1 hPt9 hall hSc
     refine wp_exit ?_
     refine hK31 _ _ ?_
     clear hK31
     refine wp_seq_k ?_; intro K41 hK41
     refine wp_seq_k ?_; intro K42 hK42
     refine reg hF hS (sq rfl (q_move rfl) <|
       sq rfl (q_bf (q_move rfl) (rfl)) <|
       sq_go 183 rfl rfl rfl (q_move rfl) <|
       sq_go 183 rfl rfl rfl (q_nf (q_nei rfl rfl) (rfl)) <|
       sq rfl (q_pick_f rfl rfl) <|
       sq rfl (q_move rfl) <|
       sq_go 187 rfl rfl rfl (q_move rfl) <|
       sq_go 187 rfl rfl rfl (q_cv_iq ty3 ty72 rfl) <|
       sq_go 187 rfl rfl rfl (q_shli rfl rfl (by omega) (by omega)) <|
       sq_go 187 rfl rfl rfl (q_move rfl) <|
       sq_go 187 rfl rfl rfl (q_len_sl ty22 hzP rfl) <|
       sq_go 187 rfl rfl rfl (q_subi rfl rfl (by omega)) <|
       sq_go 187 rfl rfl rfl (q_muli rfl rfl (by omega)) <|
       sq_go 187 rfl rfl rfl (q_df (q_gei rfl rfl) (by rw [hpq]; omega)) <|
       sq rfl (q_pick_f rfl rfl) <|
       sq_end) ?_
     clear hF hS; intro a w hF hS
     refine hK42 _ _ ?_
     clear hK42
     refine wp_if hF rfl (fun h => absurd h (by simp)) (fun _ => ?_)
     refine wp_skip ?_
     refine hK41 _ _ ?_
     clear hK41
     refine wp_seq_k ?_; intro K43 hK43
     refine wp_seq_k ?_; intro K44 hK44
     refine reg hF hS (sq rfl (q_assign rfl) <|
       sq_end) ?_
     clear hF hS; intro a w hF hS
     refine hK44 _ _ ?_
     clear hK44
     refine wp_block ?_
     obtain ⟨hs0, hhs0, hS⟩ : ∃ h, h = _ ∧ St _ _ h _ := ⟨_, rfl, hS⟩
     refine wp_loopx (γ := Int) (1) (fun (i : Int) => [(22, vi i)]) [(5, _), (9, _), (11, _), (17, _)] (fun (i : Int) => hs0) (fun (i : Int) => 1 ≤ i ∧ i ≤ h9) (fun (i : Int) => (h9 - i).toNat) (hF.sub ⟨rfl, rfl, rfl, rfl, rfl, trivial⟩) (by subst hhs0; exact hS) (by exact ⟨Int.le_refl _, by omega⟩) ?_
     clear hF hS; rintro i a w hfact hF hS
     subst hhs0; (try dsimp only at hfact); (try dsimp only at hF); (try dsimp only at hS)
     obtain ⟨hi0, hi1⟩ := hfact
     replace hS : St _ [_, _, _, _, _, _, _, _, _] [_, _] _ := hS
     refine wp_seq_k ?_; intro K45 hK45
     refine wp_seq_k ?_; intro K46 hK46
     refine reg hF hS (sq rfl (q_move rfl) <|
       sq rfl (q_move rfl) <|
       sq rfl (q_len_sl ty22 hzP rfl) <|
       sq rfl (q_lti rfl rfl) <|
       sq_end) ?_
     clear hF hS; intro a w hF hS
     refine hK46 _ _ ?_
     clear hK46
     refine wp_ifd hF rfl (fun hc10 => ?_) (fun hc10 => ?_)
     ·refine wp_skip ?_
      refine hK45 _ _ ?_
      clear hK45
      refine wp_seq_k ?_; intro K47 hK47
      refine wp_block ?_
      refine wp_seq_k ?_; intro K48 hK48
      refine reg hF hS (sq rfl (q_move rfl) <|
        sq rfl (q_move rfl) <|
        sq rfl (q_idx_sl ty22 ty3 hzP rfl rfl (by omega)) <|
        sq rfl (q_ld_I ty3 hzP (.inr (by simp)) rfl rfl (by omega)) <|
        sq rfl (q_move rfl) <|
        sq rfl (q_eqi rfl rfl) <|
        sq_end) ?_
      clear hF hS; intro a w hF hS
      refine hK48 _ _ ?_
      clear hK48
      refine wp_ifd hF rfl (fun hc11 => ?_) (fun hc11 => ?_)
      ·have hih := Hu.pth_inj hPt9 (i := i.toNat) (j := h9) (by omega) (by omega) hc11
       have hph := Hu.pa_spec hfam.1 hPt9 (i := h9) (by omega)
       have hpo := Hu.pa_spec hfam.1 hPt9 (i := l9) (by omega)
       have hixh : Gu.ixF (fun y => decide (p9.getD i.toNat 0 = y)) xs = (Hu.pa xs p9 h9 : Int) := by rw [hih]; exact hph.2.2.1
       have hixl : Gu.ixF (fun y => decide (p9.getD (i - 1).toNat 0 = y)) xs = (Hu.pa xs p9 l9 : Int) := by rw [show (i - 1).toNat = l9 by omega]; exact hpo.2.2.1
       refine wp_seq_k ?_; intro K49 hK49
       refine regd mixed kQ hF hS (sq rfl (q_move rfl) <|
         sq rfl (q_ld_blkW ty26 1 rfl rfl bQ rfl) <|
         sq rfl (q_move rfl) <|
         sq rfl (q_move rfl) <|
         sq rfl (q_idx_sl ty22 ty3 hzP rfl rfl (by omega)) <|
         sq rfl (q_ld_I ty3 hzP (.inr (by simp)) rfl rfl (by omega)) <|
         sq rfl (q_call fn45 rfl (fun w hS => rix_ct _ _ _ _ _ _ w (sl_one' hnF) (Sl.mono (hS.le (.inr (by simp))) hsF) (Sl.mono (hS.le (.inr (by simp))) hbF)) (fun _ _ _ h => h)) <|
         sq rfl (q_idx_sl ty24 ty4 hzT9 rfl rfl (by omega)) <|
         sq rfl (q_bt (q_ld_T ty4 hzT9 (.inr (by simp)) rfl rfl (by omega)) (by rw [hixh, Int.toNat_natCast]; exact hbe.1)) <|
         sq rfl (q_move rfl) <|
         sq_go 218 rfl rfl rfl (q_move rfl) <|
         sq_go 218 rfl rfl rfl (q_ld_blkW ty26 1 rfl rfl bQ rfl) <|
         sq_go 218 rfl rfl rfl (q_move rfl) <|
         sq_go 218 rfl rfl rfl (q_move rfl) <|
         sq_go 218 rfl rfl rfl (q_subi rfl rfl (by omega)) <|
         sq_go 218 rfl rfl rfl (q_idx_sl ty22 ty3 hzP rfl rfl (by omega)) <|
         sq_go 218 rfl rfl rfl (q_ld_I ty3 hzP (.inr (by simp)) rfl rfl (by omega)) <|
         sq_go 218 rfl rfl rfl (q_call fn45 rfl (fun w hS => rix_ct _ _ _ _ _ _ w (sl_one' hnF) (Sl.mono (hS.le (.inr (by simp))) hsF) (Sl.mono (hS.le (.inr (by simp))) hbF)) (fun _ _ _ h => h)) <|
         sq_go 218 rfl rfl rfl (q_idx_sl ty24 ty4 hzT9 rfl rfl (by omega)) <|
         sq_go 218 rfl rfl rfl (q_ld_T ty4 hzT9 (.inr (by simp)) rfl rfl (by omega)) <|
         sq_go 218 rfl rfl rfl (q_bt (q_not rfl) (by rw [hixl, Int.toNat_natCast, hbe.2]; rfl)) <|
         sq rfl (q_pick_t rfl rfl) <|
         sq rfl (q_move rfl) <|
         sq_go 231 rfl rfl rfl (q_call fn25 rfl (fun w hS => lives_ct w ) (fun _ _ _ h => h)) <|
         sq rfl (q_pick_t rfl rfl) <|
         sq rfl (q_assign rfl) <|
         sq_end) ?_
       clear hF hS; intro a w hF hS
       refine hK49 _ _ ?_
       clear hK49
       refine wp_ret ?_
       exact fn_ret (rs := [.tmp 4]) rfl hF hS (vs := [_]) ⟨rfl, trivial⟩ zQ zQ (rfl)
      ·have hne9 : i ≠ h9 := fun e => hc11 (by rw [e, Int.toNat_natCast])
       refine wp_skip ?_
       refine hK47 _ _ ?_
       clear hK47
       refine reg hF hS (sq rfl (q_move rfl) <|
         sq rfl (q_addi rfl rfl (by omega)) <|
         sq rfl (q_assign rfl) <|
         sq_end) ?_
       clear hF hS; intro a w hF hS
       refine ⟨(i + 1), ?_, ?_, hF.sub ⟨rfl, rfl, rfl, rfl, rfl, trivial⟩, ?_⟩
       ·(try dsimp only); omega
       ·exact ⟨by omega, by omega⟩
       ·exact hS
     ·omega
end Go.Proofs.Ytefjpigmgmbghaa
