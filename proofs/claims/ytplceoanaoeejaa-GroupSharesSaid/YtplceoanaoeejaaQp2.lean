/- A text of a proof over this seat: walks over the program's functions and the plain laws that they need. -/
import Derived.Test.YtplceoanaoeejaaQp1
import Derived.Test.YtplceoanaoeejaaGpA
import Derived.Test.YtplceoanaoeejaaFwC
import Derived.Test.YtplceoanaoeejaaFwB
set_option linter.all false
namespace Go.Proofs.Ytplceoanaoeejaa
open Go.Fw
theorem fn15 : FnOk Try.prog 15 := ⟨_, Try.func15, rfl, by kernel_rfl⟩
theorem fn16 : FnOk Try.prog 16 := ⟨_, Try.func16, rfl, by kernel_rfl⟩
theorem fn32 : FnOk Try.prog 32 := ⟨_, Try.func32, rfl, by kernel_rfl⟩
theorem fn33 : FnOk Try.prog 33 := ⟨_, Try.func33, rfl, by kernel_rfl⟩
theorem fn34 : FnOk Try.prog 34 := ⟨_, Try.func34, rfl, by kernel_rfl⟩
theorem fn35 : FnOk Try.prog 35 := ⟨_, Try.func35, rfl, by kernel_rfl⟩

set_option maxRecDepth 4000 in
set_option maxHeartbeats 2000000 in
theorem open_ct (xN xS xB : Value) (xs : List Int) (xb : List Bool) (base : Int) (cV : Value) (ch : List Int) (v : Value) (bs : List Bool) (w : World) (hxn : xN.oneCell' = true) (hxs : Sl encI (ph w) xS xs) (hxb : Sl encT (ph w) xB xb) (hc : Sl encI (ph w) cV ch) (hbs : Sl encT (ph w) v bs) : Ct Try.prog 32 [.agg [xN, xS, xB].toArray, .agg [vi base, cV].toArray, v] w (fun r _ _ => r = .tuple #[.agg [xN, xS, xB, v].toArray, vi (Gp.opn xs xb bs base ch)]) := by
 refine fn_enter Try.func32 rfl Try.ntmps32 (Nat.le_of_ble_eq_true rfl) fun a hF hS => ?_
 have hsl := hxs.1
 have htl := hxb.1
 have hcl := hc.1
 have hbl := hbs.1
 refine wp_seq_k ?_; intro K1 hK1
 refine regl ?_
 refine wpl_ef hF hS rfl (ef_boxA rfl) ?_
 clear hF hS; rintro _ _ _ a w ⟨b1, rfl, rfl, rfl⟩ hF hS
 refine wpl_ef hF hS rfl (ef_boxA rfl) ?_
 clear hF hS; rintro _ _ _ a w ⟨b2, rfl, rfl, rfl⟩ hF hS
 refine wpl_ef hF hS rfl (ef_allocA ty68) ?_
 clear hF hS; rintro _ _ _ a w ⟨b3, rfl, rfl, rfl⟩ hF hS
 refine wpl_sq hF hS (sq rfl (q_assign rfl) <|
   sq_end) ?_
 clear hF hS; intro a w hF hS
 refine wpList_nil ?_
 refine hK1 _ _ ?_
 clear hK1
 refine wp_seq_k ?_; intro K2 hK2
 refine regl ?_
 refine wpl_sq hF hS (sq rfl (q_ld_blkW ty31 2 rfl rfl bQ rfl) <|
   sq rfl (q_move rfl) <|
   sq rfl (q_buildP (places := [(0, 3), (3, 1)]) (cells := [_, _, _, _]) ty68 kQ rfl (fill_stepL (c := [_, _, _]) (l := [_, _, _, _]) (l' := [_, _, _, _]) rfl rfl rfl (Nat.le_of_ble_eq_true rfl) rfl (fill_stepL (c := [_]) (l := [_, _, _, _]) (l' := [_, _, _, _]) rfl (cells_one (sl_one' hbs)) rfl (Nat.le_of_ble_eq_true rfl) rfl (fill_endL rfl)))) <|
   sq_end) ?_
 clear hF hS; intro a w hF hS
 refine wpl_ef hF hS rfl (ef_allocA ty68) ?_
 clear hF hS; rintro _ _ _ a w ⟨b4, rfl, rfl, rfl⟩ hF hS
 refine wpl_ef hF hS rfl (ef_storeW ty68 0 rfl rfl rfl rfl bQ (oc_cons hxn (oc_cons (sl_one' hxs) (oc_cons (sl_one' hxb) (oc_cons (sl_one' hbs) oc_nil)))) bQ) ?_
 clear hF hS; rintro _ _ _ a w ⟨rfl, rfl, rfl⟩ hF hS
 replace hS : St _ [] [_, _, _, _] _ := hS
 refine wpList_nil ?_
 refine hK2 _ _ ?_
 clear hK2
 refine wp_seq_k ?_; intro K3 hK3
 refine reg hF hS (sq rfl (q_ld_blkW ty31 3 rfl rfl bQ rfl) <|
   sq rfl (q_ld_blkW ty35 2 rfl rfl bQ rfl) <|
   sq rfl (q_call fn15 rfl (fun w hS => valid_ct _ _ _ _ _ _ _ _ w hxn (Sl.mono (hS.le zin0) hxs) (Sl.mono (hS.le zin0) hxb) (Sl.mono (hS.le zin0) hc)) (fun _ _ _ h => h)) <|
   sq rfl (q_assign rfl) <|
   sq_end) ?_
 clear hF hS; intro a w hF hS
 refine hK3 _ _ ?_
 clear hK3
 refine wp_seq_k ?_; intro K4 hK4
 refine wp_block ?_
 refine wp_seq_k ?_; intro K5 hK5
 refine reg hF hS (sq rfl (q_move rfl) <|
   sq rfl (q_nei rfl rfl) <|
   sq rfl (q_assign rfl) <|
   sq_end) ?_
 clear hF hS; intro a w hF hS
 refine hK5 _ _ ?_
 clear hK5
 refine wp_ifn hF rfl (fun hc1 => ?_) (fun hc1 => ?_)
 ·refine wp_seq_k ?_; intro K6 hK6
  refine regl ?_
  refine wpl_sq hF hS (sq rfl (q_ld_blkW ty68 0 rfl rfl bQ rfl) <|
    sq rfl (q_move rfl) <|
    sq_end) ?_
  clear hF hS; intro a w hF hS
  refine wpl_ef hF hS rfl (ef_storeW ty68 1 rfl rfl rfl rfl bQ (oc_cons hxn (oc_cons (sl_one' hxs) (oc_cons (sl_one' hxb) (oc_cons (sl_one' hbs) oc_nil)))) bQ) ?_
  clear hF hS; rintro _ _ _ a w ⟨rfl, rfl, rfl⟩ hF hS
  replace hS : St _ [] [_, _, _, _] _ := hS
  refine wpl_sq hF hS (sq rfl (q_assign rfl) <|
    sq_end) ?_
  clear hF hS; intro a w hF hS
  refine wpList_nil ?_
  refine hK6 _ _ ?_
  clear hK6
  refine wp_ret ?_
  exact fn_ret (rs := [.cell 6 68, .tmp 7]) rfl hF hS (vs := [_, _]) ⟨⟨_, _, _, _, _, _, _, rfl, List.mem_of_getElem? (i := 1) rfl, ty68, .inl ⟨rfl, bQ, rfl⟩⟩, rfl, trivial⟩ zQ zQ (by unfold Gp.opn; rw [if_pos (by simpa using hc1)]; try rfl)
 ·have hv0 := Gp.vl_0 (by simpa using hc1)
  refine wp_seq_k ?_; intro K7 hK7
  refine reg hF hS (sq rfl (q_move rfl) <|
    sq rfl (q_len_sl ty29 hbs rfl) <|
    sq rfl (q_fieldAddr ty31 rfl rfl (s' := 0) kQ) <|
    sq rfl (q_ld_blk1 ty22 3 rfl rfl rfl rfl) <|
    sq rfl (q_len_sl ty22 hxs rfl) <|
    sq rfl (q_nei rfl rfl) <|
    sq rfl (q_assign rfl) <|
    sq_end) ?_
  clear hF hS; intro a w hF hS
  refine hK7 _ _ ?_
  clear hK7
  refine wp_ifn hF rfl (fun hc2 => ?_) (fun hc2 => ?_)
  ·refine wp_seq_k ?_; intro K8 hK8
   refine regl ?_
   refine wpl_sq hF hS (sq rfl (q_ld_blkW ty68 0 rfl rfl bQ rfl) <|
     sq_end) ?_
   clear hF hS; intro a w hF hS
   refine wpl_ef hF hS rfl (ef_storeW ty68 1 rfl rfl rfl rfl bQ (oc_cons hxn (oc_cons (sl_one' hxs) (oc_cons (sl_one' hxb) (oc_cons (sl_one' hbs) oc_nil)))) bQ) ?_
   clear hF hS; rintro _ _ _ a w ⟨rfl, rfl, rfl⟩ hF hS
   replace hS : St _ [] [_, _, _, _] _ := hS
   refine wpl_sq hF hS (sq rfl (q_assign rfl) <|
     sq_end) ?_
   clear hF hS; intro a w hF hS
   refine wpList_nil ?_
   refine hK8 _ _ ?_
   clear hK8
   refine wp_ret ?_
   exact fn_ret (rs := [.cell 6 68, .tmp 7]) rfl hF hS (vs := [_, _]) ⟨⟨_, _, _, _, _, _, _, rfl, List.mem_of_getElem? (i := 1) rfl, ty68, .inl ⟨rfl, bQ, rfl⟩⟩, rfl, trivial⟩ zQ zQ (by unfold Gp.opn; rw [if_neg (by simpa using hc1), if_pos (by simpa using hc2)]; try rfl)
  ·refine wp_seq_k ?_; intro K9 hK9
   refine reg hF hS (sq rfl (q_ld_blkW ty68 0 rfl rfl bQ rfl) <|
     sq rfl (q_fieldAddr ty35 rfl rfl (s' := 0) kQ) <|
     sq rfl (q_ld_blk1 ty3 2 rfl rfl rfl rfl) <|
     sq rfl (q_call fn33 rfl (fun w hS => good_ct _ _ _ _ _ _ _ _ (by omega) (by omega) w hxn (Sl.mono (hS.le zin0) hxs) (Sl.mono (hS.le zin0) hxb) (Sl.mono (hS.le zin0) hbs)) (fun _ _ _ h => h)) <|
     sq rfl (q_not rfl) <|
     sq rfl (q_assign rfl) <|
     sq_end) ?_
   clear hF hS; intro a w hF hS
   refine hK9 _ _ ?_
   clear hK9
   refine wp_if hF rfl (fun hc3 => ?_) (fun hc3 => ?_)
   ·refine wp_seq_k ?_; intro K10 hK10
    refine regl ?_
    refine wpl_sq hF hS (sq rfl (q_ld_blkW ty68 0 rfl rfl bQ rfl) <|
      sq_end) ?_
    clear hF hS; intro a w hF hS
    refine wpl_ef hF hS rfl (ef_storeW ty68 1 rfl rfl rfl rfl bQ (oc_cons hxn (oc_cons (sl_one' hxs) (oc_cons (sl_one' hxb) (oc_cons (sl_one' hbs) oc_nil)))) bQ) ?_
    clear hF hS; rintro _ _ _ a w ⟨rfl, rfl, rfl⟩ hF hS
    replace hS : St _ [] [_, _, _, _] _ := hS
    refine wpl_sq hF hS (sq rfl (q_assign rfl) <|
      sq_end) ?_
    clear hF hS; intro a w hF hS
    refine wpList_nil ?_
    refine hK10 _ _ ?_
    clear hK10
    refine wp_ret ?_
    exact fn_ret (rs := [.cell 6 68, .tmp 7]) rfl hF hS (vs := [_, _]) ⟨⟨_, _, _, _, _, _, _, rfl, List.mem_of_getElem? (i := 1) rfl, ty68, .inl ⟨rfl, bQ, rfl⟩⟩, rfl, trivial⟩ zQ zQ (by unfold Gp.opn; rw [if_neg (by simpa using hc1), if_neg (by simpa using hc2), if_pos (by simpa using hc3)]; try rfl)
   ·refine wp_skip ?_
    refine hK4 _ _ ?_
    clear hK4
    refine wp_seq_k ?_; intro K11 hK11
    refine regl ?_
    refine wpl_sq hF hS (sq rfl (q_ld_blkW ty68 0 rfl rfl bQ rfl) <|
      sq_end) ?_
    clear hF hS; intro a w hF hS
    refine wpl_ef hF hS rfl (ef_storeW ty68 1 rfl rfl rfl rfl bQ (oc_cons hxn (oc_cons (sl_one' hxs) (oc_cons (sl_one' hxb) (oc_cons (sl_one' hbs) oc_nil)))) bQ) ?_
    clear hF hS; rintro _ _ _ a w ⟨rfl, rfl, rfl⟩ hF hS
    replace hS : St _ [] [_, _, _, _] _ := hS
    refine wpl_sq hF hS (sq rfl (q_assign rfl) <|
      sq_end) ?_
    clear hF hS; intro a w hF hS
    refine wpList_nil ?_
    refine hK11 _ _ ?_
    clear hK11
    refine wp_ret ?_
    exact fn_ret (rs := [.cell 6 68, .tmp 7]) rfl hF hS (vs := [_, _]) ⟨⟨_, _, _, _, _, _, _, rfl, List.mem_of_getElem? (i := 1) rfl, ty68, .inl ⟨rfl, bQ, rfl⟩⟩, rfl, trivial⟩ zQ zQ (by unfold Gp.opn; rw [if_neg (by simpa using hc1), if_neg (by simpa using hc2), if_neg (by simpa using hc3)]; try rfl)

set_option maxRecDepth 4000 in
set_option maxHeartbeats 2000000 in
theorem ready_ct (xN xS xB : Value) (xs : List Int) (xb : List Bool) (base : Int) (cV : Value) (ch : List Int) (v : Value) (bs : List Bool) (w : World) (hxn : xN.oneCell' = true) (hxs : Sl encI (ph w) xS xs) (hxb : Sl encT (ph w) xB xb) (hc : Sl encI (ph w) cV ch) (hbs : Sl encT (ph w) v bs) : Ct Try.prog 34 [.agg [xN, xS, xB].toArray, .agg [vi base, cV].toArray, v] w (fun r _ _ => r = vi (Gp.opn xs xb bs base ch)) := by
 refine fn_enter Try.func34 rfl Try.ntmps34 (Nat.le_of_ble_eq_true rfl) fun a hF hS => ?_
 have hsl := hxs.1
 have htl := hxb.1
 have hcl := hc.1
 have hbl := hbs.1
 refine wp_seq_k ?_; intro K1 hK1
 refine regl ?_
 refine wpl_ef hF hS rfl (ef_boxA rfl) ?_
 clear hF hS; rintro _ _ _ a w ⟨b1, rfl, rfl, rfl⟩ hF hS
 refine wpl_ef hF hS rfl (ef_boxA rfl) ?_
 clear hF hS; rintro _ _ _ a w ⟨b2, rfl, rfl, rfl⟩ hF hS
 refine wpl_sq hF hS (sq rfl (q_assign rfl) <|
   sq_end) ?_
 clear hF hS; intro a w hF hS
 refine wpList_nil ?_
 refine hK1 _ _ ?_
 clear hK1
 refine wp_seq_k ?_; intro K2 hK2
 refine reg hF hS (sq rfl (q_ld_blkW ty33 1 rfl rfl bQ rfl) <|
   sq rfl (q_ld_blkW ty37 0 rfl rfl bQ rfl) <|
   sq rfl (q_call fn16 rfl (fun w hS => rvalid_ct _ _ _ _ _ _ _ _ w hxn (Sl.mono (hS.le zin0) hxs) (Sl.mono (hS.le zin0) hxb) (Sl.mono (hS.le zin0) hc)) (fun _ _ _ h => h)) <|
   sq rfl (q_assign rfl) <|
   sq_end) ?_
 clear hF hS; intro a w hF hS
 refine hK2 _ _ ?_
 clear hK2
 refine wp_seq_k ?_; intro K3 hK3
 refine wp_seq_k ?_; intro K4 hK4
 refine reg hF hS (sq rfl (q_move rfl) <|
   sq rfl (q_nei rfl rfl) <|
   sq_end) ?_
 clear hF hS; intro a w hF hS
 refine hK4 _ _ ?_
 clear hK4
 refine wp_ifn hF rfl (fun hc1 => ?_) (fun hc1 => ?_)
 ·refine wp_seq_k ?_; intro K5 hK5
  refine reg hF hS (sq rfl (q_move rfl) <|
    sq rfl (q_assign rfl) <|
    sq_end) ?_
  clear hF hS; intro a w hF hS
  refine hK5 _ _ ?_
  clear hK5
  refine wp_ret ?_
  exact fn_ret (rs := [.tmp 6]) rfl hF hS (vs := [_]) ⟨rfl, trivial⟩ zQ zQ (by unfold Gp.opn; rw [if_pos (by simpa using hc1)])
 ·have hv0 := Gp.vl_0 (by simpa using hc1)
  refine wp_skip ?_
  refine hK3 _ _ ?_
  clear hK3
  refine wp_seq_k ?_; intro K6 hK6
  refine wp_seq_k ?_; intro K7 hK7
  refine reg hF hS (sq rfl (q_move rfl) <|
    sq rfl (q_len_sl ty29 hbs rfl) <|
    sq rfl (q_fieldAddr ty33 rfl rfl (s' := 0) kQ) <|
    sq rfl (q_ld_blk1 ty22 1 rfl rfl rfl rfl) <|
    sq rfl (q_len_sl ty22 hxs rfl) <|
    sq rfl (q_nei rfl rfl) <|
    sq_end) ?_
  clear hF hS; intro a w hF hS
  refine hK7 _ _ ?_
  clear hK7
  refine wp_ifn hF rfl (fun hc2 => ?_) (fun hc2 => ?_)
  ·refine wp_seq_k ?_; intro K8 hK8
   refine reg hF hS (sq rfl (q_assign rfl) <|
     sq_end) ?_
   clear hF hS; intro a w hF hS
   refine hK8 _ _ ?_
   clear hK8
   refine wp_ret ?_
   exact fn_ret (rs := [.tmp 6]) rfl hF hS (vs := [_]) ⟨rfl, trivial⟩ zQ zQ (by unfold Gp.opn; rw [if_neg (by simpa using hc1), if_pos (by simpa using hc2)])
  ·refine wp_skip ?_
   refine hK6 _ _ ?_
   clear hK6
   refine wp_seq_k ?_; intro K9 hK9
   refine wp_seq_k ?_; intro K10 hK10
   refine reg hF hS (sq rfl (q_ld_blkW ty33 1 rfl rfl bQ rfl) <|
     sq rfl (q_move rfl) <|
     sq rfl (q_fieldAddr ty37 rfl rfl (s' := 0) kQ) <|
     sq rfl (q_ld_blk1 ty3 0 rfl rfl rfl rfl) <|
     sq rfl (q_call fn35 rfl (fun w hS => rgood_ct _ _ _ _ _ _ _ _ (by omega) (by omega) w hxn (Sl.mono (hS.le zin0) hxs) (Sl.mono (hS.le zin0) hxb) (Sl.mono (hS.le zin0) hbs)) (fun _ _ _ h => h)) <|
     sq rfl (q_not rfl) <|
     sq_end) ?_
   clear hF hS; intro a w hF hS
   refine hK10 _ _ ?_
   clear hK10
   refine wp_if hF rfl (fun hc3 => ?_) (fun hc3 => ?_)
   ·refine wp_seq_k ?_; intro K11 hK11
    refine reg hF hS (sq rfl (q_assign rfl) <|
      sq_end) ?_
    clear hF hS; intro a w hF hS
    refine hK11 _ _ ?_
    clear hK11
    refine wp_ret ?_
    exact fn_ret (rs := [.tmp 6]) rfl hF hS (vs := [_]) ⟨rfl, trivial⟩ zQ zQ (by unfold Gp.opn; rw [if_neg (by simpa using hc1), if_neg (by simpa using hc2), if_pos (by simpa using hc3)])
   ·refine wp_skip ?_
    refine hK9 _ _ ?_
    clear hK9
    refine wp_seq_k ?_; intro K12 hK12
    refine reg hF hS (sq rfl (q_assign rfl) <|
      sq_end) ?_
    clear hF hS; intro a w hF hS
    refine hK12 _ _ ?_
    clear hK12
    refine wp_ret ?_
    exact fn_ret (rs := [.tmp 6]) rfl hF hS (vs := [_]) ⟨rfl, trivial⟩ zQ zQ (by unfold Gp.opn; rw [if_neg (by simpa using hc1), if_neg (by simpa using hc2), if_neg (by simpa using hc3)])

/-- A list, a number, an error. -/
def AloR (L : List Int) (n e : Int) : Value → List PH → List Res → Prop := fun r zs hs => ∃ v z, Sl encI z v L ∧ r = .tuple #[v, vi n, vi e] ∧ zs = [z] ∧ hs = []
theorem alo_of {L L' : List Int} {n n' e e' : Int} {r : Value} {zs : List PH} {hs : List Res} (h : AloR L n e r zs hs) (h1 : L = L') (h2 : n = n') (h3 : e = e') : AloR L' n' e' r zs hs := by subst h1; subst h2; subst h3; exact h

set_option maxRecDepth 4000 in
set_option maxHeartbeats 2000000 in
theorem alone_ct (xN xS xB : Value) (xs : List Int) (xb : List Bool) (base : Int) (cV : Value) (ch : List Int) (v : Value) (bs : List Bool) (w : World) (hxn : xN.oneCell' = true) (hxs : Sl encI (ph w) xS xs) (hxb : Sl encT (ph w) xB xb) (hc : Sl encI (ph w) cV ch) (hbs : Sl encT (ph w) v bs) : Ct Try.prog 11 [.agg [xN, xS, xB].toArray, .agg [vi base, cV].toArray, v] w (AloR (Gp.aL xs xb bs base ch) (Gp.aS xs xb bs base ch) (Gp.opn xs xb bs base ch)) := by
 refine fn_enter Try.func11 rfl Try.ntmps11 (Nat.le_of_ble_eq_true rfl) fun a hF hS => ?_
 have hsl := hxs.1
 have htl := hxb.1
 have hcl := hc.1
 have hbl := hbs.1
 refine wp_seq_k ?_; intro K1 hK1
 refine regl ?_
 refine wpl_ef hF hS rfl (ef_boxA rfl) ?_
 clear hF hS; rintro _ _ _ a w ⟨b1, rfl, rfl, rfl⟩ hF hS
 refine wpl_ef hF hS rfl (ef_boxA rfl) ?_
 clear hF hS; rintro _ _ _ a w ⟨b2, rfl, rfl, rfl⟩ hF hS
 refine wpl_sq hF hS (sq rfl (q_assign rfl) <|
   sq rfl (q_assign rfl) <|
   sq rfl (q_assign rfl) <|
   sq_end) ?_
 clear hF hS; intro a w hF hS
 refine wpList_nil ?_
 refine hK1 _ _ ?_
 clear hK1
 refine wp_seq_k ?_; intro K2 hK2
 refine regl ?_
 refine wpl_sq hF hS (sq rfl (q_ld_blkW ty31 1 rfl rfl bQ rfl) <|
   sq rfl (q_ld_blkW ty35 0 rfl rfl bQ rfl) <|
   sq rfl (q_move rfl) <|
   sq rfl (q_call fn32 rfl (fun w hS => open_ct _ _ _ _ _ _ _ _ _ _ w hxn (Sl.mono (hS.le zin0) hxs) (Sl.mono (hS.le zin0) hxb) (Sl.mono (hS.le zin0) hc) (Sl.mono (hS.le zin0) hbs)) (fun _ _ _ h => h)) <|
   sq rfl (q_move rfl) <|
   sq rfl (q_extract rfl rfl) <|
   sq rfl (q_extract rfl rfl) <|
   sq_end) ?_
 clear hF hS; intro a w hF hS
 refine wpl_ef hF hS rfl (ef_allocA ty68) ?_
 clear hF hS; rintro _ _ _ a w ⟨b3, rfl, rfl, rfl⟩ hF hS
 refine wpl_ef hF hS rfl (ef_storeW ty68 0 rfl rfl rfl rfl bQ (oc_cons hxn (oc_cons (sl_one' hxs) (oc_cons (sl_one' hxb) (oc_cons (sl_one' hbs) oc_nil)))) bQ) ?_
 clear hF hS; rintro _ _ _ a w ⟨rfl, rfl, rfl⟩ hF hS
 replace hS : St _ [] [_, _, _] _ := hS
 refine wpl_sq hF hS (sq rfl (q_assign rfl) <|
   sq_end) ?_
 clear hF hS; intro a w hF hS
 refine wpList_nil ?_
 refine hK2 _ _ ?_
 clear hK2
 refine wp_seq_k ?_; intro K3 hK3
 refine wp_seq_k ?_; intro K4 hK4
 refine reg hF hS (sq rfl (q_move rfl) <|
   sq rfl (q_nei rfl rfl) <|
   sq_end) ?_
 clear hF hS; intro a w hF hS
 refine hK4 _ _ ?_
 clear hK4
 refine wp_ifn hF rfl (fun hc1 => ?_) (fun hc1 => ?_)
 ·refine wp_seq_k ?_; intro K5 hK5
  refine reg hF hS (sq rfl (q_move rfl) <|
    sq rfl (q_assign rfl) <|
    sq rfl (q_assign rfl) <|
    sq rfl (q_assign rfl) <|
    sq_end) ?_
  clear hF hS; intro a w hF hS
  refine hK5 _ _ ?_
  clear hK5
  refine wp_ret ?_
  replace hS := hS.zone00
  exact fn_ret (rs := [.tmp 6, .tmp 7, .tmp 8]) rfl hF hS (vs := [_, _, _]) ⟨rfl, rfl, rfl, trivial⟩ (zs' := [_]) (hs' := []) (List.singleton_sublist.2 (by simp)) zQ (alo_of ⟨_, _, (sl_nil (z := fun _ => none)), rfl, rfl, rfl⟩ (by unfold Gp.aL; rw [if_neg (by simpa using hc1)]) (by unfold Gp.aS; rw [if_neg (by simpa using hc1)]) (rfl))
 ·have ho := Gp.opn_0 (by simpa using hc1)
  have hv0 := Gp.vl_0 ho.1
  refine wp_skip ?_
  refine hK3 _ _ ?_
  clear hK3
  refine wp_seq_k ?_; intro K6 hK6
  refine reg hF hS (sq rfl (q_assign rfl) <|
    sq_end) ?_
  clear hF hS; intro a w hF hS
  replace hS := hS.nilRow 3 1
  refine hK6 _ _ ?_
  clear hK6
  refine wp_seq_k ?_; intro K7 hK7
  refine reg hF hS (sq rfl (q_fieldAddr ty35 rfl rfl (s' := 0) kQ) <|
    sq rfl (q_ld_blk1 ty3 2 rfl rfl rfl rfl) <|
    sq rfl (q_assign rfl) <|
    sq_end) ?_
  clear hF hS; intro a w hF hS
  refine hK7 _ _ ?_
  clear hK7
  refine wp_seq_k ?_; intro K8 hK8
  refine wp_seq_k ?_; intro K9 hK9
  refine reg hF hS (sq rfl (q_fieldAddr ty35 rfl rfl (s' := 0) kQ) <|
    sq rfl (q_ld_blk1 ty22 2 rfl rfl rfl rfl) <|
    sq rfl (q_len_sl ty22 hc rfl) <|
    sq rfl (q_move rfl) <|
    sq_end) ?_
  clear hF hS; intro a w hF hS
  refine hK9 _ _ ?_
  clear hK9
  refine wp_block ?_
  obtain ⟨hs0, hhs0, hS⟩ : ∃ h, h = _ ∧ St _ _ h _ := ⟨_, rfl, hS⟩
  refine wp_loopx (γ := Value × Int) ((Value.slice none 0 0), 0) (fun (gg : Value × Int) => match gg with | (u, k) => [(11, u), (12, vi (Gp.alo (Gp.gd xs xb bs) base ch k.toNat).1), (30, vi k)]) [(9, _), (28, _), (29, _)] (fun (gg : Value × Int) => match gg with | (u, k) => (hs0.set 0 (.row u 3 1 (Gp.alo (Gp.gd xs xb bs) base ch k.toNat).2.length ((Gp.alo (Gp.gd xs xb bs) base ch k.toNat).2.map vi)))) (fun (gg : Value × Int) => match gg with | (u, k) => 0 ≤ k ∧ k ≤ ch.length) (fun (gg : Value × Int) => match gg with | (u, k) => (ch.length - k).toNat) (hF.sub ⟨rfl, rfl, rfl, rfl, rfl, rfl, trivial⟩) (by subst hhs0; exact hS) (by exact ⟨Int.le_refl _, by omega⟩) ?_
  clear hF hS; rintro ⟨u, k⟩ a w hfact hF hS
  subst hhs0; (try dsimp only at hfact); (try dsimp only at hF); (try dsimp only at hS)
  obtain ⟨hk0, hk1⟩ := hfact
  replace hS : St _ [] [_, _, _, _] _ := hS
  have har := Gp.alo_rng (Gp.gd xs xb bs) base ch k.toNat
  refine wp_seq_k ?_; intro K10 hK10
  refine reg hF hS (sq rfl (q_lti rfl rfl) <|
    sq_end) ?_
  clear hF hS; intro a w hF hS
  refine hK10 _ _ ?_
  clear hK10
  refine wp_seq_k ?_; intro K11 hK11
  refine wp_ifd hF rfl (fun hc2 => ?_) (fun hc2 => ?_)
  ·refine wp_skip ?_
   refine hK11 _ _ ?_
   clear hK11
   refine wp_seq_k ?_; intro K12 hK12
   refine wp_block ?_
   refine wp_seq_k ?_; intro K13 hK13
   refine reg hF hS (sq rfl (q_move rfl) <|
     sq rfl (q_idx_sl ty22 ty3 hc rfl rfl (by omega)) <|
     sq rfl (q_ld_I ty3 hc zin0 rfl rfl (by omega)) <|
     sq rfl (q_assign rfl) <|
     sq rfl (q_assign rfl) <|
     sq_end) ?_
   clear hF hS; intro a w hF hS
   refine hK13 _ _ ?_
   clear hK13
   refine wp_seq_k ?_; intro K14 hK14
   refine reg hF hS (sq rfl (q_ld_blkW ty68 1 rfl rfl bQ rfl) <|
     sq rfl (q_move rfl) <|
     sq rfl (q_move rfl) <|
     sq rfl (q_ori rfl rfl) <|
     sq rfl (q_call fn33 rfl (fun w hS => good_ct _ _ _ _ _ _ _ _ (by omega) (by omega) w hxn (Sl.mono (hS.le zin0) hxs) (Sl.mono (hS.le zin0) hxb) (Sl.mono (hS.le zin0) hbs)) (fun _ _ _ h => h)) <|
     sq_end) ?_
   clear hF hS; intro a w hF hS
   refine hK14 _ _ ?_
   clear hK14
   refine wp_if hF rfl (fun hc3 => ?_) (fun hc3 => ?_)
   ·refine wp_seq_k ?_; intro K15 hK15
    refine regl ?_
    refine wpl_sq hF hS (sq rfl (q_move rfl) <|
      sq rfl (q_move rfl) <|
      sq_end) ?_
    clear hF hS; intro a w hF hS
    refine wpl_ef hF hS rfl (ef_bsliceA ty22 ty3 rfl rfl oQ (by decide) rfl rfl) ?_
    clear hF hS; rintro v5 _ _ a w ⟨rfl, rfl⟩ hF hS
    replace hS : St _ [] [_, _, _, _, _] _ := hS
    refine wpl_ef hF hS rfl (ef_append ty22 ty3 1 rfl rfl rfl (src_row ty22 (k := 0) rfl oQ) bQ rfl (by decide)) ?_
    clear hF hS; rintro v7 _ _ a w ⟨rfl, rfl⟩ hF hS
    replace hS : St _ [] [_, _, _, _, _] _ := hS
    refine wpl_sq hF hS (sq rfl (q_assign rfl) <|
      sq_end) ?_
    clear hF hS; intro a w hF hS
    refine wpList_nil ?_
    refine hK15 _ _ ?_
    clear hK15
    refine reg hF hS (sq rfl (q_move rfl) <|
      sq rfl (q_move rfl) <|
      sq rfl (q_ori rfl rfl) <|
      sq rfl (q_assign rfl) <|
      sq_end) ?_
    clear hF hS; intro a w hF hS
    refine hK12 _ _ ?_
    clear hK12
    refine reg hF hS (sq rfl (q_addi rfl rfl (by omega)) <|
      sq rfl (q_move rfl) <|
      sq_end) ?_
    clear hF hS; intro a w hF hS
    replace hS := hS.keep zQ (sQ.n)
    refine ⟨(v7, k + 1), ?_, ?_, hF.sub ⟨rfl, (by rw [show (k + 1).toNat = k.toNat + 1 by omega]; first | (rw [Gp.alo_t hc3]; rfl) | (rw [Gp.alo_f (by simpa using hc3)]; rfl)), rfl, rfl, rfl, rfl, trivial⟩, ?_⟩
    ·(try dsimp only); omega
    ·(try dsimp only); omega
    ·dsimp only; rw [show (k + 1).toNat = k.toNat + 1 by omega, Gp.alo_t hc3, List.map_append, List.length_append, show ((k.toNat : Nat) : Int) = k by omega]; exact hS
   ·refine wp_skip ?_
    refine hK12 _ _ ?_
    clear hK12
    refine reg hF hS (sq rfl (q_addi rfl rfl (by omega)) <|
      sq rfl (q_move rfl) <|
      sq_end) ?_
    clear hF hS; intro a w hF hS
    refine ⟨(u, k + 1), ?_, ?_, hF.sub ⟨rfl, (by rw [show (k + 1).toNat = k.toNat + 1 by omega]; first | (rw [Gp.alo_t hc3]; rfl) | (rw [Gp.alo_f (by simpa using hc3)]; rfl)), rfl, rfl, rfl, rfl, trivial⟩, ?_⟩
    ·(try dsimp only); omega
    ·(try dsimp only); omega
    ·dsimp only; rw [show (k + 1).toNat = k.toNat + 1 by omega, Gp.alo_f (by simpa using hc3)]; exact hS
  ·obtain rfl : k = ch.length := by omega
   rw [Int.toNat_natCast] at hS hF
   have har := Gp.alo_rng (Gp.gd xs xb bs) base ch ch.length
   refine wp_exit ?_
   refine hK8 _ _ ?_
   clear hK8
   refine wp_seq_k ?_; intro K16 hK16
   refine reg hF hS (sq rfl (q_move rfl) <|
     sq rfl (q_move rfl) <|
     sq rfl (q_assign rfl) <|
     sq rfl (q_assign rfl) <|
     sq rfl (q_assign rfl) <|
     sq_end) ?_
   clear hF hS; intro a w hF hS
   refine hK16 _ _ ?_
   clear hK16
   refine wp_ret ?_
   obtain ⟨zr, hzr, hS⟩ := St.freezeV (f := vi) (p := fun x => -9223372036854775808 ≤ x ∧ x ≤ 9223372036854775807) hS rfl (by first | omega | (simp; omega)) (fun x hx => by have := har.2 x hx; omega)
   exact fn_ret (rs := [.tmp 6, .tmp 7, .tmp 8]) rfl hF hS (vs := [_, _, _]) ⟨rfl, rfl, rfl, trivial⟩ (zs' := [_]) (hs' := []) (List.singleton_sublist.2 (by simp)) zQ (alo_of ⟨_, _, hzr, rfl, rfl, rfl⟩ (by unfold Gp.aL; rw [if_pos (by simpa using hc1)]) (by unfold Gp.aS; rw [if_pos (by simpa using hc1)]) ((by simpa using hc1 : _ = _).symm))

end Go.Proofs.Ytplceoanaoeejaa
