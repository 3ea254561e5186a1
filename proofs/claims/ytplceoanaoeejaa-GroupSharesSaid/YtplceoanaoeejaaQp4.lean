/- A text of a proof over this seat: walks over the program's functions and the plain laws that they need. -/
import Derived.Test.YtplceoanaoeejaaQp3
import Derived.Test.YtplceoanaoeejaaGpA
import Derived.Test.YtplceoanaoeejaaFwC
import Derived.Test.YtplceoanaoeejaaFwB
set_option linter.all false
namespace Go.Proofs.Ytplceoanaoeejaa
open Go.Fw


/-- Two lists and an error. -/
def TwoR (L M : List Int) (e : Int) : Value → List PH → List Res → Prop := fun r zs hs => ∃ v u z, Sl encI z v L ∧ Sl encI z u M ∧ r = .tuple #[v, u, vi e] ∧ zs = [z] ∧ hs = []
theorem two_of {L L' M M' : List Int} {e e' : Int} {r : Value} {zs : List PH} {hs : List Res} (h : TwoR L M e r zs hs) (h1 : L = L') (h2 : M = M') (h3 : e = e') : TwoR L' M' e' r zs hs := by subst h1; subst h2; subst h3; exact h

set_option maxRecDepth 4000 in
set_option maxHeartbeats 2000000 in
theorem rhalved_ct (xN xS xB : Value) (xs : List Int) (xb : List Bool) (base : Int) (cV : Value) (ch : List Int) (v : Value) (bs : List Bool) (w : World) (hxn : xN.oneCell' = true) (hxs : Sl encI (ph w) xS xs) (hxb : Sl encT (ph w) xB xb) (hc : Sl encI (ph w) cV ch) (hbs : Sl encT (ph w) v bs) : Ct Try.prog 14 [.agg [xN, xS, xB].toArray, .agg [vi base, cV].toArray, v] w (TwoR (Gp.hT xs xb bs base ch) (Gp.hA xs xb bs base ch) (Gp.opn xs xb bs base ch)) := by
 refine fn_enter Try.func14 rfl Try.ntmps14 (Nat.le_of_ble_eq_true rfl) fun a hF hS => ?_
 have hsl := hxs.1
 have htl := hxb.1
 have hcl := hc.1
 have hbl0 := hbs.1
 refine wp_seq_k ?_; intro K1 hK1
 refine regl ?_
 refine wpl_ef hF hS rfl (ef_boxA rfl) ?_
 clear hF hS; rintro _ _ _ a w ⟨b1, rfl, rfl, rfl⟩ hF hS
 refine wpl_ef hF hS rfl (ef_boxA rfl) ?_
 clear hF hS; rintro _ _ _ a w ⟨b2, rfl, rfl, rfl⟩ hF hS
 refine wpl_sq hF hS (sq rfl (q_assign rfl) <|
   sq rfl (q_assign rfl) <|
   sq rfl (q_assign rfl) <|
   sq_end) ?_
 clear hF hS; intro a w hF hS
 refine wpList_nil ?_
 refine hK1 _ _ ?_
 clear hK1
 refine wp_seq_k ?_; intro K2 hK2
 refine reg hF hS (sq rfl (q_ld_blkW ty33 1 rfl rfl bQ rfl) <|
   sq rfl (q_ld_blkW ty37 0 rfl rfl bQ rfl) <|
   sq rfl (q_move rfl) <|
   sq rfl (q_call fn34 rfl (fun w hS => ready_ct _ _ _ _ _ _ _ _ _ _ w hxn (Sl.mono (hS.le zin0) hxs) (Sl.mono (hS.le zin0) hxb) (Sl.mono (hS.le zin0) hc) (Sl.mono (hS.le zin0) hbs)) (fun _ _ _ h => h)) <|
   sq rfl (q_assign rfl) <|
   sq_end) ?_
 clear hF hS; intro a w hF hS
 refine hK2 _ _ ?_
 clear hK2
 refine wp_seq_k ?_; intro K3 hK3
 refine wp_seq_k ?_; intro K4 hK4
 refine reg hF hS (sq rfl (q_move rfl) <|
   sq rfl (q_nei rfl rfl) <|
   sq_end) ?_
 clear hF hS; intro a w hF hS
 refine hK4 _ _ ?_
 clear hK4
 refine wp_ifn hF rfl (fun hc1 => ?_) (fun hc1 => ?_)
 ·refine wp_seq_k ?_; intro K5 hK5
  refine reg hF hS (sq rfl (q_move rfl) <|
    sq rfl (q_assign rfl) <|
    sq rfl (q_assign rfl) <|
    sq rfl (q_assign rfl) <|
    sq_end) ?_
  clear hF hS; intro a w hF hS
  refine hK5 _ _ ?_
  clear hK5
  refine wp_ret ?_
  replace hS := hS.zone00
  exact fn_ret (rs := [.tmp 6, .tmp 7, .tmp 8]) rfl hF hS (vs := [_, _, _]) ⟨rfl, rfl, rfl, trivial⟩ (zs' := [fun _ => none]) (hs' := []) (List.singleton_sublist.2 (by simp)) zQ (two_of ⟨_, _, _, sl_nil, sl_nil, rfl, rfl, rfl⟩ (by unfold Gp.hT; rw [if_neg (by simpa using hc1)]) (by unfold Gp.hA; rw [if_neg (by simpa using hc1)]) (rfl))
 ·have ho := Gp.opn_0 (by simpa using hc1)
  have hv0 := Gp.vl_0 ho.1
  have hbl := ho.2.1
  refine wp_skip ?_
  refine hK3 _ _ ?_
  clear hK3
  refine wp_seq_k ?_; intro K6 hK6
  refine regl ?_
  refine wpl_sq hF hS (sq rfl (q_ld_blkW ty33 1 rfl rfl bQ rfl) <|
    sq rfl (q_ld_blkW ty37 0 rfl rfl bQ rfl) <|
    sq rfl (q_move rfl) <|
    sq rfl (q_fieldAddr ty37 rfl rfl (s' := 0) kQ) <|
    sq rfl (q_ld_blk1 ty3 0 rfl rfl rfl rfl) <|
    sq rfl (q_buildP (places := [(0, 3), (3, 2), (5, 1), (6, 1), (7, 1), (8, 1)]) (cells := [_, _, _, _, _, _, _, .slice none 0 0, .slice none 0 0]) ty78 kQ rfl (fill_stepL (c := [_, _, _]) (l := [_, _, _, _, _, _, _, _, _]) (l' := [_, _, _, _, _, _, _, _, _]) rfl rfl rfl (Nat.le_of_ble_eq_true rfl) rfl (fill_stepL (c := [_, _]) (l := [_, _, _, _, _, _, _, _, _]) (l' := [_, _, _, _, _, _, _, _, _]) rfl rfl rfl (Nat.le_of_ble_eq_true rfl) rfl (fill_stepL (c := [_]) (l := [_, _, _, _, _, _, _, _, _]) (l' := [_, _, _, _, _, _, _, _, _]) rfl (cells_one (sl_one' hbs)) rfl (Nat.le_of_ble_eq_true rfl) rfl (fill_stepL (c := [_]) (l := [_, _, _, _, _, _, _, _, _]) (l' := [_, _, _, _, _, _, _, _, _]) rfl (cells_one rfl) rfl (Nat.le_of_ble_eq_true rfl) rfl (fill_endL rfl)))))) <|
    sq_end) ?_
  clear hF hS; intro a w hF hS
  refine wpl_ef hF hS rfl (ef_boxA rfl) ?_
  clear hF hS; rintro _ _ _ a w ⟨b3, rfl, rfl, rfl⟩ hF hS
  refine wpl_sq hF hS (sq rfl (q_assign rfl) <|
    sq_end) ?_
  clear hF hS; intro a w hF hS
  refine wpList_nil ?_
  replace hS := hS.nilRow 3 1
  replace hS : St _ [] [_, _, _, _] _ := hS
  replace hS := hS.nilRow 3 1
  replace hS : St _ [] [_, _, _, _, _] _ := hS
  refine hK6 _ _ ?_
  clear hK6
  refine wp_seq_k ?_; intro K7 hK7
  refine wp_seq_k ?_; intro K8 hK8
  refine reg hF hS (sq rfl (q_fieldAddr ty37 rfl rfl (s' := 0) kQ) <|
    sq rfl (q_ld_blk1 ty22 3 rfl rfl rfl rfl) <|
    sq rfl (q_len_sl ty22 hc rfl) <|
    sq rfl (q_gti rfl rfl) <|
    sq_end) ?_
  clear hF hS; intro a w hF hS
  refine hK8 _ _ ?_
  clear hK8
  refine wp_ifd hF rfl (fun hc2 => ?_) (fun hc2 => ?_)
  ·have hbd := Gp.row_bd (Gp.gd xs xb bs) xs base ch ch.length 0 ch.length (base, [], []) (by omega) (by omega) (by omega) (fun x h => by cases h) (fun x h => by cases h)
   dsimp only [List.length_nil] at hbd
   refine regl ?_
   refine wpl_sq hF hS (sq rfl (q_move rfl) <|
     sq rfl (q_fieldAddr ty37 rfl rfl (s' := 0) kQ) <|
     sq rfl (q_ld_blk1 ty22 3 rfl rfl rfl rfl) <|
     sq rfl (q_len_sl ty22 hc rfl) <|
     sq_end) ?_
   clear hF hS; intro a w hF hS
   replace hS := hS.perm (.cons _ (.swap _ _ _))
   replace hS := hS.perm (.swap _ _ _)
   replace hS := hS.perm (.cons _ (.swap _ _ _))
   replace hS : St _ [] [_, _, _, _, _] _ := hS
   refine wpl_ef hF hS rfl (ef_callx fn38 rfl (List.Perm.refl _) (by exact (rrow_ct xN xS xB xs xb base cV ch v bs _ (by omega) (by omega) hv0.2.1 _ _ hxn hxs hxb hc hbs ch.length _ _ 0 ch.length base [] [] (Value.slice none 0 0) (Value.slice none 0 0) (by rfl) (by simp) (by omega) (by omega) (by omega) (by simp; omega) (by simp; omega) (fun x h => by cases h) (fun x h => by cases h) ))) ?_
   clear hF hS; rintro _ _ _ a w ⟨_, _, rfl, rfl, ⟨p7, q8, rfl, rfl, rfl⟩⟩ hF hS
   replace hS : St _ [] [_, _, _, _, _] _ := hS
   refine wpList_nil ?_
   refine hK7 _ _ ?_
   clear hK7
   refine wp_seq_k ?_; intro K9 hK9
   refine regd mixed kQ hF hS (sq rfl (q_move rfl) <|
     sq rfl (q_nilCheck rfl) <|
     sq rfl (q_fieldAddr ty78 rfl rfl (s' := 0) kQ) <|
     sq rfl (q_ld_blk1 ty22 0 rfl rfl rfl rfl) <|
     sq rfl (q_move rfl) <|
     sq rfl (q_nilCheck rfl) <|
     sq rfl (q_fieldAddr ty78 rfl rfl (s' := 0) kQ) <|
     sq rfl (q_ld_blk1 ty22 0 rfl rfl rfl rfl) <|
     sq rfl (q_assign rfl) <|
     sq rfl (q_assign rfl) <|
     sq rfl (q_assign rfl) <|
     sq_end) ?_
   clear hF hS; intro a w hF hS
   refine hK9 _ _ ?_
   clear hK9
   refine wp_ret ?_
   replace hS := hS.perm (.swap _ _ _)
   obtain ⟨z1, hz1, hS⟩ := St.freezeV (h0 := fun _ => rfl) (f := vi) (p := fun x => -9223372036854775808 ≤ x ∧ x ≤ 9223372036854775807) (xs := (Gp.hlv (Gp.gd xs xb bs) xs base ch).2.1) hS rfl (by first | omega | (simp; omega)) (hbd.2.2.1)
   replace hS := hS.perm (.swap _ _ _)
   obtain ⟨z2, hz2, hS⟩ := St.freezeV (h0 := fun _ => rfl) (f := vi) (p := fun x => -9223372036854775808 ≤ x ∧ x ≤ 9223372036854775807) (xs := (Gp.hlv (Gp.gd xs xb bs) xs base ch).2.2) hS rfl (by first | omega | (simp; omega)) (hbd.2.2.2)
   obtain ⟨zu, hzu, hS⟩ := hS.union
   exact fn_ret (rs := [.tmp 6, .tmp 7, .tmp 8]) rfl hF hS (vs := [_, _, _]) ⟨rfl, rfl, rfl, trivial⟩ (zs' := [zu]) (hs' := []) (List.singleton_sublist.2 (by simp)) zQ (two_of ⟨_, _, zu, hz1.mono (hzu _ (by simp)), hz2.mono (hzu _ (by simp)), rfl, rfl, rfl⟩ (by unfold Gp.hT; rw [if_pos (by simpa using hc1)]) (by unfold Gp.hA; rw [if_pos (by simpa using hc1)]) ((by simpa using hc1 : _ = _).symm))
  ·have hh0 : (Gp.hlv (Gp.gd xs xb bs) xs base ch) = (base, [], []) := Gp.hlv_nil (by omega)
   refine wp_skip ?_
   refine hK7 _ _ ?_
   clear hK7
   refine wp_seq_k ?_; intro K10 hK10
   refine regd mixed kQ hF hS (sq rfl (q_move rfl) <|
     sq rfl (q_nilCheck rfl) <|
     sq rfl (q_fieldAddr ty78 rfl rfl (s' := 0) kQ) <|
     sq rfl (q_ld_blk1 ty22 2 rfl rfl rfl rfl) <|
     sq rfl (q_move rfl) <|
     sq rfl (q_nilCheck rfl) <|
     sq rfl (q_fieldAddr ty78 rfl rfl (s' := 0) kQ) <|
     sq rfl (q_ld_blk1 ty22 2 rfl rfl rfl rfl) <|
     sq rfl (q_assign rfl) <|
     sq rfl (q_assign rfl) <|
     sq rfl (q_assign rfl) <|
     sq_end) ?_
   clear hF hS; intro a w hF hS
   refine hK10 _ _ ?_
   clear hK10
   refine wp_ret ?_
   replace hS := hS.perm (.swap _ _ _)
   obtain ⟨z1, hz1, hS⟩ := St.freezeV (h0 := fun _ => rfl) (f := vi) (p := fun x => -9223372036854775808 ≤ x ∧ x ≤ 9223372036854775807) (xs := ([] : List Int)) hS rfl (by first | omega | (simp; omega)) (fun x h => by cases h)
   obtain ⟨z2, hz2, hS⟩ := St.freezeV (h0 := fun _ => rfl) (f := vi) (p := fun x => -9223372036854775808 ≤ x ∧ x ≤ 9223372036854775807) (xs := ([] : List Int)) hS rfl (by first | omega | (simp; omega)) (fun x h => by cases h)
   obtain ⟨zu, hzu, hS⟩ := hS.union
   exact fn_ret (rs := [.tmp 6, .tmp 7, .tmp 8]) rfl hF hS (vs := [_, _, _]) ⟨rfl, rfl, rfl, trivial⟩ (zs' := [zu]) (hs' := []) (List.singleton_sublist.2 (by simp)) zQ (two_of ⟨_, _, zu, hz1.mono (hzu _ (by simp)), hz2.mono (hzu _ (by simp)), rfl, rfl, rfl⟩ (by unfold Gp.hT; rw [if_pos (by simpa using hc1)]; rw [hh0]) (by unfold Gp.hA; rw [if_pos (by simpa using hc1)]; rw [hh0]) ((by simpa using hc1 : _ = _).symm))
end Go.Proofs.Ytplceoanaoeejaa
