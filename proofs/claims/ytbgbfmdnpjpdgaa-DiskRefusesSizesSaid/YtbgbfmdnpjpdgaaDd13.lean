/- A text of a proof over this seat: walks over the program's functions and the plain laws that they need. -/
import Derived.Test.YtbgbfmdnpjpdgaaDd12
import Derived.Test.YtbgbfmdnpjpdgaaDkA
import Derived.Test.YtbgbfmdnpjpdgaaFwB
set_option linter.all false
namespace Go.Proofs.Ytbgbfmdnpjpdgaa
open Go.Fw


theorem dread_b (h : Dk.Hd) (S : Dk.Dsk) (i : Int) (hi : -9223372036854775808 ≤ i ∧ i ≤ 9223372036854775807) (w0 : World) (zsr : List PH) {r1 r2 r3 r4 : Res} (hr : Dk.read S i = ([], 1)) (hD : DD h S r1 r2 r3 r4) : Cx Try.prog 16 [.pointer (some ⟨h.b, 0, none⟩), vi i] w0 zsr [r1, r2, r3, r4] (DDR h S (.tuple [vs [], vi 1].toArray)) := by
 have := dread_ct h S i hi w0 zsr hD
 rw [hr] at this
 exact this

theorem dwrite_b (h : Dk.Hd) (S : Dk.Dsk) (i : Int) (hi : -9223372036854775808 ≤ i ∧ i ≤ 9223372036854775807) (t : List UInt8) (w0 : World) (zsr : List PH) {r1 r2 r3 r4 : Res} (hr : Dk.write S i t = (S, 1)) (hD : DD h S r1 r2 r3 r4) : Cx Try.prog 17 [.pointer (some ⟨h.b, 0, none⟩), vi i, vs t] w0 zsr [r1, r2, r3, r4] (DDR h S (vi 1)) := by
 have := dwrite_ct h S i hi t w0 zsr hD
 rw [hr] at this
 exact this

theorem drot_b (h : Dk.Hd) (S : Dk.Dsk) (i b : Int) (hi : -9223372036854775808 ≤ i ∧ i ≤ 9223372036854775807) (hb : -9223372036854775808 ≤ b ∧ b ≤ 9223372036854775807) (w0 : World) (zsr : List PH) {r1 r2 r3 r4 : Res} (hr : Dk.rot S i b = (S, 1)) (hD : DD h S r1 r2 r3 r4) : Cx Try.prog 19 [.pointer (some ⟨h.b, 0, none⟩), vi i, vi b] w0 zsr [r1, r2, r3, r4] (DDR h S (vi 1)) := by
 have := drot_ct h S i b hi hb w0 zsr hD
 rw [hr] at this
 exact this

theorem dwear_b (h : Dk.Hd) (S : Dk.Dsk) (i : Int) (hi : -9223372036854775808 ≤ i ∧ i ≤ 9223372036854775807) (w0 : World) (zsr : List PH) {r1 r2 r3 r4 : Res} (hr : Dk.wear S i = (S, 1)) (hD : DD h S r1 r2 r3 r4) : Cx Try.prog 20 [.pointer (some ⟨h.b, 0, none⟩), vi i] w0 zsr [r1, r2, r3, r4] (DDR h S (vi 1)) := by
 have := dwear_ct h S i hi w0 zsr hD
 rw [hr] at this
 exact this

set_option maxRecDepth 4000 in
set_option maxHeartbeats 2000000 in
theorem dlaw2_all (n i : Int) (t : List UInt8) (hn : -9223372036854775808 ≤ n ∧ n ≤ 9223372036854775807) (hi : -9223372036854775808 ≤ i ∧ i ≤ 9223372036854775807) (w : World) : Ct Try.prog 4 [vi n, vi i, vs t] w (fun r _ _ => r = .bool true) := by
 refine fn_enter Try.func4 rfl Try.ntmps4 (Nat.le_of_ble_eq_true rfl) fun a hF hS => ?_
 have hil := Dk.image_len (Dk.new 3)
 have hil2 : (Dk.new 3).s.length = 3 := rfl
 refine wp_seq_k ?_; intro K1 hK1
 refine reg hF hS (sq rfl (q_assign rfl) <|
   sq_end) ?_
 clear hF hS; intro a w hF hS
 refine hK1 _ _ ?_
 clear hK1
 refine wp_seq_k ?_; intro K2 hK2
 refine reg hF hS (sq rfl (q_call fn9 rfl (fun w hS => sanity_ct w ) (fun _ _ _ h => h)) <|
   sq rfl (q_assign rfl) <|
   sq_end) ?_
 clear hF hS; intro a w hF hS
 refine hK2 _ _ ?_
 clear hK2
 refine wp_seq_k ?_; intro K3 hK3
 refine wp_seq_k ?_; intro K4 hK4
 refine regl ?_
 refine wpl_sq hF hS (sq rfl (q_move rfl) <|
   sq rfl (q_lti rfl rfl) <|
   sq rfl (q_move rfl) <|
   sq_end) ?_
 clear hF hS; intro a w hF hS
 refine wpl_or 2 19 2 hF hS rfl rfl rfl rfl rfl (fun hg => have hg := (by first | exact of_decide_eq_false hg | exact hg); sq_go 19 rfl rfl rfl (q_move rfl) <|
   sq_go 19 rfl rfl rfl (q_gti rfl rfl) <|
   sq_end) rfl rfl ?_
 clear hF hS; intro a w hF hS
 refine wpList_nil ?_
 refine hK4 _ _ ?_
 clear hK4
 refine wp_if hF rfl (fun hc1 => ?_) (fun hc1 => ?_)
 ·(try simp only [Bool.or_eq_true, Bool.and_eq_true, Bool.or_eq_false_iff, Bool.and_eq_false_iff, decide_eq_true_eq, decide_eq_false_iff_not, Bool.not_eq_true', Bool.not_eq_false'] at hc1)
  refine wp_seq_k ?_; intro K5 hK5
  refine reg hF hS (sq rfl (q_move rfl) <|
    sq rfl (q_call fn14 rfl (fun w hS => dnewx_ct _ (by omega) w ) (fun _ _ _ h => h)) <|
    sq rfl (q_move rfl) <|
    sq rfl (q_extract rfl rfl) <|
    sq rfl (q_extract rfl rfl) <|
    sq rfl (q_assign rfl) <|
    sq rfl (q_assign rfl) <|
    sq_end) ?_
  clear hF hS; intro a w hF hS
  refine hK5 _ _ ?_
  clear hK5
  refine reg hF hS (sq rfl (q_move rfl) <|
    sq rfl (q_move rfl) <|
    sq_go 29 rfl rfl rfl (q_move rfl) <|
    sq_go 29 rfl rfl rfl (q_eqpn ty24 rfl rfl) <|
    sq rfl (q_pick_t rfl rfl) <|
    sq rfl (q_move rfl) <|
    sq_go 33 rfl rfl rfl (q_move rfl) <|
    sq_go 33 rfl rfl rfl (q_dt (q_eqi rfl rfl) (by decide)) <|
    sq rfl (q_pick_t rfl rfl) <|
    sq rfl (q_assign rfl) <|
    sq_end) ?_
  clear hF hS; intro a w hF hS
  refine hK3 _ _ ?_
  clear hK3
  refine wp_seq_k ?_; intro K6 hK6
  refine regl ?_
  refine wpl_ef hF hS rfl (ef_call fn14 rfl (fun w hS => dnew_ct 3 (by decide) w )) ?_
  clear hF hS; rintro _ _ _ a w ⟨_, _, rfl, rfl, ⟨rfl, hh2, qa3, qb4, qc5, qd6, rfl, rfl, hD7⟩⟩ hF hS
  replace hS : St _ [] [_, _, _, _] _ := hS
  refine wpl_sq hF hS (sq rfl (q_move rfl) <|
    sq rfl (q_extract rfl rfl) <|
    sq rfl (q_extract rfl rfl) <|
    sq rfl (q_assign rfl) <|
    sq rfl (q_assign rfl) <|
    sq_end) ?_
  clear hF hS; intro a w hF hS
  refine wpList_nil ?_
  refine hK6 _ _ ?_
  clear hK6
  refine wp_seq_k ?_; intro K7 hK7
  refine wp_seq_k ?_; intro K8 hK8
  refine reg hF hS (sq rfl (q_move rfl) <|
    sq rfl (q_nf (q_nei rfl rfl) (by decide)) <|
    sq rfl (q_move rfl) <|
    sq_go 43 rfl rfl rfl (q_move rfl) <|
    sq_go 43 rfl rfl rfl (q_eqpn_f ty24 rfl rfl) <|
    sq rfl (q_pick_f rfl rfl) <|
    sq rfl (q_move rfl) <|
    sq_go 47 rfl rfl rfl (q_move rfl) <|
    sq_go 47 rfl rfl rfl (q_not rfl) <|
    sq rfl (q_pick_f rfl rfl) <|
    sq_end) ?_
  clear hF hS; intro a w hF hS
  refine hK8 _ _ ?_
  clear hK8
  refine wp_if hF rfl (fun h => absurd h (by simp)) (fun _ => ?_)
  refine wp_skip ?_
  refine hK7 _ _ ?_
  clear hK7
  refine wp_seq_k ?_; intro K9 hK9
  refine regl ?_
  refine wpl_sq hF hS (sq rfl (q_move rfl) <|
    sq_end) ?_
  clear hF hS; intro a w hF hS
  refine wpl_ef hF hS rfl (ef_callx fn15 rfl (List.Perm.refl _) (by exact (dimage_ct _ _ _ _  hD7))) ?_
  clear hF hS; rintro v12 _ _ a w ⟨_, _, rfl, rfl, ⟨rfl, qa13, qb14, qc15, qd16, rfl, hD17⟩⟩ hF hS
  replace hS : St _ [] [_, _, _, _, _] _ := hS
  refine wpl_sq hF hS (sq rfl (q_assign rfl) <|
    sq_end) ?_
  clear hF hS; intro a w hF hS
  refine wpList_nil ?_
  refine hK9 _ _ ?_
  clear hK9
  refine wp_seq_k ?_; intro K10 hK10
  refine wp_seq_k ?_; intro K11 hK11
  refine regl ?_
  refine wpl_sq hF hS (sq rfl (q_move rfl) <|
    sq rfl (q_lti rfl rfl) <|
    sq rfl (q_move rfl) <|
    sq_end) ?_
  clear hF hS; intro a w hF hS
  refine wpl_or 2 55 2 hF hS rfl rfl rfl rfl rfl (fun hg => have hg := (by first | exact of_decide_eq_false hg | exact hg); sq_go 55 rfl rfl rfl (q_move rfl) <|
    sq_go 55 rfl rfl rfl (q_gti rfl rfl) <|
    sq_end) rfl rfl ?_
  clear hF hS; intro a w hF hS
  refine wpList_nil ?_
  refine hK11 _ _ ?_
  clear hK11
  refine wp_if hF rfl (fun hc3 => ?_) (fun hc3 => ?_)
  ·(try simp only [Bool.or_eq_true, Bool.and_eq_true, Bool.or_eq_false_iff, Bool.and_eq_false_iff, decide_eq_true_eq, decide_eq_false_iff_not, Bool.not_eq_true', Bool.not_eq_false'] at hc3)
   refine wp_seq_k ?_; intro K12 hK12
   refine regl ?_
   refine wpl_sq hF hS (sq rfl (q_move rfl) <|
     sq rfl (q_move rfl) <|
     sq_end) ?_
   clear hF hS; intro a w hF hS
   replace hS := hS.perm (.swap _ _ _)
   replace hS := hS.perm (.cons _ (.swap _ _ _))
   replace hS := hS.perm (.cons _ (.cons _ (.swap _ _ _)))
   replace hS := hS.perm (.cons _ (.cons _ (.cons _ (.swap _ _ _))))
   replace hS : St _ [] [_, _, _, _, _] _ := hS
   refine wpl_ef hF hS rfl (ef_callx fn16 rfl (List.Perm.refl _) (by exact (dread_b _ _ _ (by omega) _ _ (Dk.n3_read (by omega))  hD17))) ?_
   clear hF hS; rintro _ _ _ a w ⟨_, _, rfl, rfl, ⟨rfl, rfl, qa20, qb21, qc22, qd23, rfl, hD24⟩⟩ hF hS
   replace hS : St _ [] [_, _, _, _, _] _ := hS
   refine wpl_sq hF hS (sq rfl (q_move rfl) <|
     sq rfl (q_extract rfl rfl) <|
     sq rfl (q_extract rfl rfl) <|
     sq rfl (q_assign rfl) <|
     sq rfl (q_assign rfl) <|
     sq_end) ?_
   clear hF hS; intro a w hF hS
   refine wpList_nil ?_
   refine hK12 _ _ ?_
   clear hK12
   refine wp_seq_k ?_; intro K13 hK13
   refine regl ?_
   refine wpl_sq hF hS (sq rfl (q_move rfl) <|
     sq rfl (q_nf (q_nei rfl rfl) (by decide)) <|
     sq rfl (q_move rfl) <|
     sq_go 67 rfl rfl rfl (q_move rfl) <|
     sq_go 67 rfl rfl rfl (q_move rfl) <|
     sq_go 67 rfl rfl rfl (q_call fn18 rfl (fun w hS => full_ct 120 w ) (fun _ _ _ h => h)) <|
     sq_end) ?_
   clear hF hS; intro a w hF hS
   refine wpl_efg hF hS (wanted_go 67 rfl rfl) rfl (ef_callx fn17 rfl (List.Perm.refl _) (by exact (dwrite_b _ _ _ (by omega) _ _ _ (Dk.n3_write (by omega))  hD24))) ?_
   clear hF hS; rintro _ _ _ a w ⟨_, _, rfl, rfl, ⟨rfl, rfl, qa26, qb27, qc28, qd29, rfl, hD30⟩⟩ hF hS
   replace hS : St _ [] [_, _, _, _, _] _ := hS
   refine wpl_sq hF hS (sq_go 67 rfl rfl rfl (q_nf (q_nei rfl rfl) (by decide)) <|
     sq rfl (q_pick_f rfl rfl) <|
     sq rfl (q_move rfl) <|
     sq_go 74 rfl rfl rfl (q_move rfl) <|
     sq_go 74 rfl rfl rfl (q_move rfl) <|
     sq_end) ?_
   clear hF hS; intro a w hF hS
   refine wpl_efg hF hS (wanted_go 74 rfl rfl) rfl (ef_callx fn19 rfl (List.Perm.refl _) (by exact (drot_b _ _ _ _ (by omega) (by decide) _ _ (Dk.n3_rot (by omega))  hD30))) ?_
   clear hF hS; rintro _ _ _ a w ⟨_, _, rfl, rfl, ⟨rfl, rfl, qa32, qb33, qc34, qd35, rfl, hD36⟩⟩ hF hS
   replace hS : St _ [] [_, _, _, _, _] _ := hS
   refine wpl_sq hF hS (sq_go 74 rfl rfl rfl (q_nf (q_nei rfl rfl) (by decide)) <|
     sq rfl (q_pick_f rfl rfl) <|
     sq rfl (q_move rfl) <|
     sq_go 80 rfl rfl rfl (q_move rfl) <|
     sq_go 80 rfl rfl rfl (q_move rfl) <|
     sq_end) ?_
   clear hF hS; intro a w hF hS
   refine wpl_efg hF hS (wanted_go 80 rfl rfl) rfl (ef_callx fn20 rfl (List.Perm.refl _) (by exact (dwear_b _ _ _ (by omega) _ _ (Dk.n3_wear (by omega))  hD36))) ?_
   clear hF hS; rintro _ _ _ a w ⟨_, _, rfl, rfl, ⟨rfl, rfl, qa38, qb39, qc40, qd41, rfl, hD42⟩⟩ hF hS
   replace hS : St _ [] [_, _, _, _, _] _ := hS
   refine wpl_sq hF hS (sq_go 80 rfl rfl rfl (q_nf (q_nei rfl rfl) (by decide)) <|
     sq rfl (q_pick_f rfl rfl) <|
     sq_end) ?_
   clear hF hS; intro a w hF hS
   refine wpList_nil ?_
   refine hK13 _ _ ?_
   clear hK13
   refine wp_if hF rfl (fun h => absurd h (by simp)) (fun _ => ?_)
   refine wp_skip ?_
   refine hK10 _ _ ?_
   clear hK10
   refine wp_seq_k ?_; intro K14 hK14
   refine wp_seq_k ?_; intro K15 hK15
   rcases Decidable.em (t.length = 64) with hB | hB
   ·skip
    refine reg hF hS (sq rfl (q_move rfl) <|
      sq rfl (q_len_s ty9 rfl) <|
      sq rfl (q_nf (q_nei rfl rfl) (by omega)) <|
      sq rfl (q_move rfl) <|
      sq_skip 89 rfl rfl rfl rfl <|
      sq_skip 89 rfl rfl rfl rfl <|
      sq_skip 89 rfl rfl rfl rfl <|
      sq_skip 89 rfl rfl rfl rfl <|
      sq rfl (q_pick_f rfl rfl) <|
      sq_end) ?_
    clear hF hS; intro a w hF hS
    refine hK15 _ _ ?_
    clear hK15
    refine wp_if hF rfl (fun h => absurd h (by simp)) (fun _ => ?_)
    refine wp_skip ?_
    refine hK14 _ _ ?_
    clear hK14
    refine wp_seq_k ?_; intro K16 hK16
    refine regl ?_
    refine wpl_sq hF hS (sq rfl (q_move rfl) <|
      sq rfl (q_move rfl) <|
      sq_end) ?_
    clear hF hS; intro a w hF hS
    refine wpl_ef hF hS rfl (ef_callx fn15 rfl (List.Perm.refl _) (by exact (dimage_ct _ _ _ _  hD42))) ?_
    clear hF hS; rintro v43 _ _ a w ⟨_, _, rfl, rfl, ⟨rfl, qa44, qb45, qc46, qd47, rfl, hD48⟩⟩ hF hS
    replace hS : St _ [] [_, _, _, _, _, _] _ := hS
    refine wpl_sq hF hS (sq rfl (q_call fn21 rfl (fun w hS => sametexts_t _ _ _ w (own_slV (f := vs) (xs := (Dk.image (Dk.new 3))) (hS.own _ (List.mem_of_getElem? (i := 5) rfl)).1 (Dk.image_64 (Dk.ok_new (by decide) (by decide))) rfl (by first | decide | omega)) (own_slV (f := vs) (xs := (Dk.image (Dk.new 3))) (hS.own _ (List.mem_of_getElem? (i := 0) rfl)).1 (Dk.image_64 (Dk.ok_new (by decide) (by decide))) rfl (by first | decide | omega))) (fun _ _ _ h => h)) <|
      sq rfl (q_assign rfl) <|
      sq_end) ?_
    clear hF hS; intro a w hF hS
    refine wpList_nil ?_
    refine hK16 _ _ ?_
    clear hK16
    refine wp_seq_k ?_; intro K17 hK17
    refine regl ?_
    refine wpl_sq hF hS (sq rfl (q_move rfl) <|
      sq rfl (q_move rfl) <|
      sq_go 100 rfl rfl rfl (q_move rfl) <|
      sq_end) ?_
    clear hF hS; intro a w hF hS
    replace hS := hS.perm (.swap _ _ _)
    replace hS := hS.perm (.cons _ (.swap _ _ _))
    replace hS := hS.perm (.cons _ (.cons _ (.swap _ _ _)))
    replace hS := hS.perm (.cons _ (.cons _ (.cons _ (.swap _ _ _))))
    replace hS : St _ [] [_, _, _, _, _, _] _ := hS
    refine wpl_efg hF hS (wanted_go 100 rfl rfl) rfl (ef_callx fn22 rfl (List.Perm.refl _) (by exact (dpending_ct _ _ _ _  hD48))) ?_
    clear hF hS; rintro v50 _ _ a w ⟨_, _, rfl, rfl, ⟨rfl, qa51, qb52, qc53, qd54, rfl, hD55⟩⟩ hF hS
    replace hS : St _ [] [_, _, _, _, _, _, _] _ := hS
    refine wpl_sq hF hS (sq_go 100 rfl rfl rfl (q_len_row ty31 0 rfl rfl) <|
      sq_go 100 rfl rfl rfl (q_dt (q_eqi rfl rfl) (by rw [Dk.n3_dix]; rfl)) <|
      sq rfl (q_pick_t rfl rfl) <|
      sq rfl (q_move rfl) <|
      sq_go 106 rfl rfl rfl (q_move rfl) <|
      sq_end) ?_
    clear hF hS; intro a w hF hS
    replace hS := hS.perm (.swap _ _ _)
    replace hS := hS.perm (.cons _ (.swap _ _ _))
    replace hS := hS.perm (.cons _ (.cons _ (.swap _ _ _)))
    replace hS := hS.perm (.cons _ (.cons _ (.cons _ (.swap _ _ _))))
    replace hS : St _ [] [_, _, _, _, _, _, _] _ := hS
    refine wpl_efg hF hS (wanted_go 106 rfl rfl) rfl (ef_callx fn23 rfl (List.Perm.refl _) (by exact (dworn_ct _ _ _ _  hD55))) ?_
    clear hF hS; rintro v57 _ _ a w ⟨_, _, rfl, rfl, ⟨rfl, qa58, qb59, qc60, qd61, rfl, hD62⟩⟩ hF hS
    replace hS : St _ [] [_, _, _, _, _, _, _, _] _ := hS
    refine wpl_sq hF hS (sq_go 106 rfl rfl rfl (q_len_row ty31 0 rfl rfl) <|
      sq_go 106 rfl rfl rfl (q_dt (q_eqi rfl rfl) (by rw [Dk.n3_wix]; rfl)) <|
      sq rfl (q_pick_t rfl rfl) <|
      sq rfl (q_assign rfl) <|
      sq_end) ?_
    clear hF hS; intro a w hF hS
    refine wpList_nil ?_
    refine hK17 _ _ ?_
    clear hK17
    refine wp_ret ?_
    exact fn_ret (rs := [.tmp 6]) rfl hF hS (vs := [_]) ⟨rfl, trivial⟩ zQ zQ (rfl)
   ·skip
    refine regl ?_
    refine wpl_sq hF hS (sq rfl (q_move rfl) <|
      sq rfl (q_len_s ty9 rfl) <|
      sq rfl (q_nt (q_nei rfl rfl) (by omega)) <|
      sq rfl (q_move rfl) <|
      sq_go 89 rfl rfl rfl (q_move rfl) <|
      sq_go 89 rfl rfl rfl (q_move rfl) <|
      sq_end) ?_
    clear hF hS; intro a w hF hS
    refine wpl_efg hF hS (wanted_go 89 rfl rfl) rfl (ef_callx fn17 rfl (List.Perm.refl _) (by exact (dwrite_b _ _ _ (by decide) _ _ _ (Dk.n3_wlen (by omega))  hD42))) ?_
    clear hF hS; rintro _ _ _ a w ⟨_, _, rfl, rfl, ⟨rfl, rfl, qa65, qb66, qc67, qd68, rfl, hD69⟩⟩ hF hS
    replace hS : St _ [] [_, _, _, _, _] _ := hS
    refine wpl_sq hF hS (sq_go 89 rfl rfl rfl (q_nf (q_nei rfl rfl) (by decide)) <|
      sq rfl (q_pick_t rfl rfl) <|
      sq_end) ?_
    clear hF hS; intro a w hF hS
    refine wpList_nil ?_
    refine hK15 _ _ ?_
    clear hK15
    refine wp_if hF rfl (fun h => absurd h (by simp)) (fun _ => ?_)
    refine wp_skip ?_
    refine hK14 _ _ ?_
    clear hK14
    refine wp_seq_k ?_; intro K18 hK18
    refine regl ?_
    refine wpl_sq hF hS (sq rfl (q_move rfl) <|
      sq rfl (q_move rfl) <|
      sq_end) ?_
    clear hF hS; intro a w hF hS
    refine wpl_ef hF hS rfl (ef_callx fn15 rfl (List.Perm.refl _) (by exact (dimage_ct _ _ _ _  hD69))) ?_
    clear hF hS; rintro v70 _ _ a w ⟨_, _, rfl, rfl, ⟨rfl, qa71, qb72, qc73, qd74, rfl, hD75⟩⟩ hF hS
    replace hS : St _ [] [_, _, _, _, _, _] _ := hS
    refine wpl_sq hF hS (sq rfl (q_call fn21 rfl (fun w hS => sametexts_t _ _ _ w (own_slV (f := vs) (xs := (Dk.image (Dk.new 3))) (hS.own _ (List.mem_of_getElem? (i := 5) rfl)).1 (Dk.image_64 (Dk.ok_new (by decide) (by decide))) rfl (by first | decide | omega)) (own_slV (f := vs) (xs := (Dk.image (Dk.new 3))) (hS.own _ (List.mem_of_getElem? (i := 0) rfl)).1 (Dk.image_64 (Dk.ok_new (by decide) (by decide))) rfl (by first | decide | omega))) (fun _ _ _ h => h)) <|
      sq rfl (q_assign rfl) <|
      sq_end) ?_
    clear hF hS; intro a w hF hS
    refine wpList_nil ?_
    refine hK18 _ _ ?_
    clear hK18
    refine wp_seq_k ?_; intro K19 hK19
    refine regl ?_
    refine wpl_sq hF hS (sq rfl (q_move rfl) <|
      sq rfl (q_move rfl) <|
      sq_go 100 rfl rfl rfl (q_move rfl) <|
      sq_end) ?_
    clear hF hS; intro a w hF hS
    replace hS := hS.perm (.swap _ _ _)
    replace hS := hS.perm (.cons _ (.swap _ _ _))
    replace hS := hS.perm (.cons _ (.cons _ (.swap _ _ _)))
    replace hS := hS.perm (.cons _ (.cons _ (.cons _ (.swap _ _ _))))
    replace hS : St _ [] [_, _, _, _, _, _] _ := hS
    refine wpl_efg hF hS (wanted_go 100 rfl rfl) rfl (ef_callx fn22 rfl (List.Perm.refl _) (by exact (dpending_ct _ _ _ _  hD75))) ?_
    clear hF hS; rintro v77 _ _ a w ⟨_, _, rfl, rfl, ⟨rfl, qa78, qb79, qc80, qd81, rfl, hD82⟩⟩ hF hS
    replace hS : St _ [] [_, _, _, _, _, _, _] _ := hS
    refine wpl_sq hF hS (sq_go 100 rfl rfl rfl (q_len_row ty31 0 rfl rfl) <|
      sq_go 100 rfl rfl rfl (q_dt (q_eqi rfl rfl) (by rw [Dk.n3_dix]; rfl)) <|
      sq rfl (q_pick_t rfl rfl) <|
      sq rfl (q_move rfl) <|
      sq_go 106 rfl rfl rfl (q_move rfl) <|
      sq_end) ?_
    clear hF hS; intro a w hF hS
    replace hS := hS.perm (.swap _ _ _)
    replace hS := hS.perm (.cons _ (.swap _ _ _))
    replace hS := hS.perm (.cons _ (.cons _ (.swap _ _ _)))
    replace hS := hS.perm (.cons _ (.cons _ (.cons _ (.swap _ _ _))))
    replace hS : St _ [] [_, _, _, _, _, _, _] _ := hS
    refine wpl_efg hF hS (wanted_go 106 rfl rfl) rfl (ef_callx fn23 rfl (List.Perm.refl _) (by exact (dworn_ct _ _ _ _  hD82))) ?_
    clear hF hS; rintro v84 _ _ a w ⟨_, _, rfl, rfl, ⟨rfl, qa85, qb86, qc87, qd88, rfl, hD89⟩⟩ hF hS
    replace hS : St _ [] [_, _, _, _, _, _, _, _] _ := hS
    refine wpl_sq hF hS (sq_go 106 rfl rfl rfl (q_len_row ty31 0 rfl rfl) <|
      sq_go 106 rfl rfl rfl (q_dt (q_eqi rfl rfl) (by rw [Dk.n3_wix]; rfl)) <|
      sq rfl (q_pick_t rfl rfl) <|
      sq rfl (q_assign rfl) <|
      sq_end) ?_
    clear hF hS; intro a w hF hS
    refine wpList_nil ?_
    refine hK19 _ _ ?_
    clear hK19
    refine wp_ret ?_
    exact fn_ret (rs := [.tmp 6]) rfl hF hS (vs := [_]) ⟨rfl, trivial⟩ zQ zQ (rfl)
  ·(try simp only [Bool.or_eq_true, Bool.and_eq_true, Bool.or_eq_false_iff, Bool.and_eq_false_iff, decide_eq_true_eq, decide_eq_false_iff_not, Bool.not_eq_true', Bool.not_eq_false'] at hc3)
   refine wp_skip ?_
   refine hK10 _ _ ?_
   clear hK10
   refine wp_seq_k ?_; intro K20 hK20
   refine wp_seq_k ?_; intro K21 hK21
   rcases Decidable.em (t.length = 64) with hB | hB
   ·skip
    refine reg hF hS (sq rfl (q_move rfl) <|
      sq rfl (q_len_s ty9 rfl) <|
      sq rfl (q_nf (q_nei rfl rfl) (by omega)) <|
      sq rfl (q_move rfl) <|
      sq_skip 89 rfl rfl rfl rfl <|
      sq_skip 89 rfl rfl rfl rfl <|
      sq_skip 89 rfl rfl rfl rfl <|
      sq_skip 89 rfl rfl rfl rfl <|
      sq rfl (q_pick_f rfl rfl) <|
      sq_end) ?_
    clear hF hS; intro a w hF hS
    refine hK21 _ _ ?_
    clear hK21
    refine wp_if hF rfl (fun h => absurd h (by simp)) (fun _ => ?_)
    refine wp_skip ?_
    refine hK20 _ _ ?_
    clear hK20
    refine wp_seq_k ?_; intro K22 hK22
    refine regl ?_
    refine wpl_sq hF hS (sq rfl (q_move rfl) <|
      sq rfl (q_move rfl) <|
      sq_end) ?_
    clear hF hS; intro a w hF hS
    replace hS := hS.perm (.swap _ _ _)
    replace hS := hS.perm (.cons _ (.swap _ _ _))
    replace hS := hS.perm (.cons _ (.cons _ (.swap _ _ _)))
    replace hS := hS.perm (.cons _ (.cons _ (.cons _ (.swap _ _ _))))
    replace hS : St _ [] [_, _, _, _, _] _ := hS
    refine wpl_ef hF hS rfl (ef_callx fn15 rfl (List.Perm.refl _) (by exact (dimage_ct _ _ _ _  hD17))) ?_
    clear hF hS; rintro v91 _ _ a w ⟨_, _, rfl, rfl, ⟨rfl, qa92, qb93, qc94, qd95, rfl, hD96⟩⟩ hF hS
    replace hS : St _ [] [_, _, _, _, _, _] _ := hS
    refine wpl_sq hF hS (sq rfl (q_call fn21 rfl (fun w hS => sametexts_t _ _ _ w (own_slV (f := vs) (xs := (Dk.image (Dk.new 3))) (hS.own _ (List.mem_of_getElem? (i := 5) rfl)).1 (Dk.image_64 (Dk.ok_new (by decide) (by decide))) rfl (by first | decide | omega)) (own_slV (f := vs) (xs := (Dk.image (Dk.new 3))) (hS.own _ (List.mem_of_getElem? (i := 0) rfl)).1 (Dk.image_64 (Dk.ok_new (by decide) (by decide))) rfl (by first | decide | omega))) (fun _ _ _ h => h)) <|
      sq rfl (q_assign rfl) <|
      sq_end) ?_
    clear hF hS; intro a w hF hS
    refine wpList_nil ?_
    refine hK22 _ _ ?_
    clear hK22
    refine wp_seq_k ?_; intro K23 hK23
    refine regl ?_
    refine wpl_sq hF hS (sq rfl (q_move rfl) <|
      sq rfl (q_move rfl) <|
      sq_go 100 rfl rfl rfl (q_move rfl) <|
      sq_end) ?_
    clear hF hS; intro a w hF hS
    replace hS := hS.perm (.swap _ _ _)
    replace hS := hS.perm (.cons _ (.swap _ _ _))
    replace hS := hS.perm (.cons _ (.cons _ (.swap _ _ _)))
    replace hS := hS.perm (.cons _ (.cons _ (.cons _ (.swap _ _ _))))
    replace hS : St _ [] [_, _, _, _, _, _] _ := hS
    refine wpl_efg hF hS (wanted_go 100 rfl rfl) rfl (ef_callx fn22 rfl (List.Perm.refl _) (by exact (dpending_ct _ _ _ _  hD96))) ?_
    clear hF hS; rintro v98 _ _ a w ⟨_, _, rfl, rfl, ⟨rfl, qa99, qb100, qc101, qd102, rfl, hD103⟩⟩ hF hS
    replace hS : St _ [] [_, _, _, _, _, _, _] _ := hS
    refine wpl_sq hF hS (sq_go 100 rfl rfl rfl (q_len_row ty31 0 rfl rfl) <|
      sq_go 100 rfl rfl rfl (q_dt (q_eqi rfl rfl) (by rw [Dk.n3_dix]; rfl)) <|
      sq rfl (q_pick_t rfl rfl) <|
      sq rfl (q_move rfl) <|
      sq_go 106 rfl rfl rfl (q_move rfl) <|
      sq_end) ?_
    clear hF hS; intro a w hF hS
    replace hS := hS.perm (.swap _ _ _)
    replace hS := hS.perm (.cons _ (.swap _ _ _))
    replace hS := hS.perm (.cons _ (.cons _ (.swap _ _ _)))
    replace hS := hS.perm (.cons _ (.cons _ (.cons _ (.swap _ _ _))))
    replace hS : St _ [] [_, _, _, _, _, _, _] _ := hS
    refine wpl_efg hF hS (wanted_go 106 rfl rfl) rfl (ef_callx fn23 rfl (List.Perm.refl _) (by exact (dworn_ct _ _ _ _  hD103))) ?_
    clear hF hS; rintro v105 _ _ a w ⟨_, _, rfl, rfl, ⟨rfl, qa106, qb107, qc108, qd109, rfl, hD110⟩⟩ hF hS
    replace hS : St _ [] [_, _, _, _, _, _, _, _] _ := hS
    refine wpl_sq hF hS (sq_go 106 rfl rfl rfl (q_len_row ty31 0 rfl rfl) <|
      sq_go 106 rfl rfl rfl (q_dt (q_eqi rfl rfl) (by rw [Dk.n3_wix]; rfl)) <|
      sq rfl (q_pick_t rfl rfl) <|
      sq rfl (q_assign rfl) <|
      sq_end) ?_
    clear hF hS; intro a w hF hS
    refine wpList_nil ?_
    refine hK23 _ _ ?_
    clear hK23
    refine wp_ret ?_
    exact fn_ret (rs := [.tmp 6]) rfl hF hS (vs := [_]) ⟨rfl, trivial⟩ zQ zQ (rfl)
   ·skip
    refine regl ?_
    refine wpl_sq hF hS (sq rfl (q_move rfl) <|
      sq rfl (q_len_s ty9 rfl) <|
      sq rfl (q_nt (q_nei rfl rfl) (by omega)) <|
      sq rfl (q_move rfl) <|
      sq_go 89 rfl rfl rfl (q_move rfl) <|
      sq_go 89 rfl rfl rfl (q_move rfl) <|
      sq_end) ?_
    clear hF hS; intro a w hF hS
    replace hS := hS.perm (.swap _ _ _)
    replace hS := hS.perm (.cons _ (.swap _ _ _))
    replace hS := hS.perm (.cons _ (.cons _ (.swap _ _ _)))
    replace hS := hS.perm (.cons _ (.cons _ (.cons _ (.swap _ _ _))))
    replace hS : St _ [] [_, _, _, _, _] _ := hS
    refine wpl_efg hF hS (wanted_go 89 rfl rfl) rfl (ef_callx fn17 rfl (List.Perm.refl _) (by exact (dwrite_b _ _ _ (by decide) _ _ _ (Dk.n3_wlen (by omega))  hD17))) ?_
    clear hF hS; rintro _ _ _ a w ⟨_, _, rfl, rfl, ⟨rfl, rfl, qa113, qb114, qc115, qd116, rfl, hD117⟩⟩ hF hS
    replace hS : St _ [] [_, _, _, _, _] _ := hS
    refine wpl_sq hF hS (sq_go 89 rfl rfl rfl (q_nf (q_nei rfl rfl) (by decide)) <|
      sq rfl (q_pick_t rfl rfl) <|
      sq_end) ?_
    clear hF hS; intro a w hF hS
    refine wpList_nil ?_
    refine hK21 _ _ ?_
    clear hK21
    refine wp_if hF rfl (fun h => absurd h (by simp)) (fun _ => ?_)
    refine wp_skip ?_
    refine hK20 _ _ ?_
    clear hK20
    refine wp_seq_k ?_; intro K24 hK24
    refine regl ?_
    refine wpl_sq hF hS (sq rfl (q_move rfl) <|
      sq rfl (q_move rfl) <|
      sq_end) ?_
    clear hF hS; intro a w hF hS
    refine wpl_ef hF hS rfl (ef_callx fn15 rfl (List.Perm.refl _) (by exact (dimage_ct _ _ _ _  hD117))) ?_
    clear hF hS; rintro v118 _ _ a w ⟨_, _, rfl, rfl, ⟨rfl, qa119, qb120, qc121, qd122, rfl, hD123⟩⟩ hF hS
    replace hS : St _ [] [_, _, _, _, _, _] _ := hS
    refine wpl_sq hF hS (sq rfl (q_call fn21 rfl (fun w hS => sametexts_t _ _ _ w (own_slV (f := vs) (xs := (Dk.image (Dk.new 3))) (hS.own _ (List.mem_of_getElem? (i := 5) rfl)).1 (Dk.image_64 (Dk.ok_new (by decide) (by decide))) rfl (by first | decide | omega)) (own_slV (f := vs) (xs := (Dk.image (Dk.new 3))) (hS.own _ (List.mem_of_getElem? (i := 0) rfl)).1 (Dk.image_64 (Dk.ok_new (by decide) (by decide))) rfl (by first | decide | omega))) (fun _ _ _ h => h)) <|
      sq rfl (q_assign rfl) <|
      sq_end) ?_
    clear hF hS; intro a w hF hS
    refine wpList_nil ?_
    refine hK24 _ _ ?_
    clear hK24
    refine wp_seq_k ?_; intro K25 hK25
    refine regl ?_
    refine wpl_sq hF hS (sq rfl (q_move rfl) <|
      sq rfl (q_move rfl) <|
      sq_go 100 rfl rfl rfl (q_move rfl) <|
      sq_end) ?_
    clear hF hS; intro a w hF hS
    replace hS := hS.perm (.swap _ _ _)
    replace hS := hS.perm (.cons _ (.swap _ _ _))
    replace hS := hS.perm (.cons _ (.cons _ (.swap _ _ _)))
    replace hS := hS.perm (.cons _ (.cons _ (.cons _ (.swap _ _ _))))
    replace hS : St _ [] [_, _, _, _, _, _] _ := hS
    refine wpl_efg hF hS (wanted_go 100 rfl rfl) rfl (ef_callx fn22 rfl (List.Perm.refl _) (by exact (dpending_ct _ _ _ _  hD123))) ?_
    clear hF hS; rintro v125 _ _ a w ⟨_, _, rfl, rfl, ⟨rfl, qa126, qb127, qc128, qd129, rfl, hD130⟩⟩ hF hS
    replace hS : St _ [] [_, _, _, _, _, _, _] _ := hS
    refine wpl_sq hF hS (sq_go 100 rfl rfl rfl (q_len_row ty31 0 rfl rfl) <|
      sq_go 100 rfl rfl rfl (q_dt (q_eqi rfl rfl) (by rw [Dk.n3_dix]; rfl)) <|
      sq rfl (q_pick_t rfl rfl) <|
      sq rfl (q_move rfl) <|
      sq_go 106 rfl rfl rfl (q_move rfl) <|
      sq_end) ?_
    clear hF hS; intro a w hF hS
    replace hS := hS.perm (.swap _ _ _)
    replace hS := hS.perm (.cons _ (.swap _ _ _))
    replace hS := hS.perm (.cons _ (.cons _ (.swap _ _ _)))
    replace hS := hS.perm (.cons _ (.cons _ (.cons _ (.swap _ _ _))))
    replace hS : St _ [] [_, _, _, _, _, _, _] _ := hS
    refine wpl_efg hF hS (wanted_go 106 rfl rfl) rfl (ef_callx fn23 rfl (List.Perm.refl _) (by exact (dworn_ct _ _ _ _  hD130))) ?_
    clear hF hS; rintro v132 _ _ a w ⟨_, _, rfl, rfl, ⟨rfl, qa133, qb134, qc135, qd136, rfl, hD137⟩⟩ hF hS
    replace hS : St _ [] [_, _, _, _, _, _, _, _] _ := hS
    refine wpl_sq hF hS (sq_go 106 rfl rfl rfl (q_len_row ty31 0 rfl rfl) <|
      sq_go 106 rfl rfl rfl (q_dt (q_eqi rfl rfl) (by rw [Dk.n3_wix]; rfl)) <|
      sq rfl (q_pick_t rfl rfl) <|
      sq rfl (q_assign rfl) <|
      sq_end) ?_
    clear hF hS; intro a w hF hS
    refine wpList_nil ?_
    refine hK25 _ _ ?_
    clear hK25
    refine wp_ret ?_
    exact fn_ret (rs := [.tmp 6]) rfl hF hS (vs := [_]) ⟨rfl, trivial⟩ zQ zQ (rfl)
 ·(try simp only [Bool.or_eq_true, Bool.and_eq_true, Bool.or_eq_false_iff, Bool.and_eq_false_iff, decide_eq_true_eq, decide_eq_false_iff_not, Bool.not_eq_true', Bool.not_eq_false'] at hc1)
  refine wp_skip ?_
  refine hK3 _ _ ?_
  clear hK3
  refine wp_seq_k ?_; intro K26 hK26
  refine regl ?_
  refine wpl_ef hF hS rfl (ef_call fn14 rfl (fun w hS => dnew_ct 3 (by decide) w )) ?_
  clear hF hS; rintro _ _ _ a w ⟨_, _, rfl, rfl, ⟨rfl, hh140, qa141, qb142, qc143, qd144, rfl, rfl, hD145⟩⟩ hF hS
  replace hS : St _ [] [_, _, _, _] _ := hS
  refine wpl_sq hF hS (sq rfl (q_move rfl) <|
    sq rfl (q_extract rfl rfl) <|
    sq rfl (q_extract rfl rfl) <|
    sq rfl (q_assign rfl) <|
    sq rfl (q_assign rfl) <|
    sq_end) ?_
  clear hF hS; intro a w hF hS
  refine wpList_nil ?_
  refine hK26 _ _ ?_
  clear hK26
  refine wp_seq_k ?_; intro K27 hK27
  refine wp_seq_k ?_; intro K28 hK28
  refine reg hF hS (sq rfl (q_move rfl) <|
    sq rfl (q_nf (q_nei rfl rfl) (by decide)) <|
    sq rfl (q_move rfl) <|
    sq_go 43 rfl rfl rfl (q_move rfl) <|
    sq_go 43 rfl rfl rfl (q_eqpn_f ty24 rfl rfl) <|
    sq rfl (q_pick_f rfl rfl) <|
    sq rfl (q_move rfl) <|
    sq_go 47 rfl rfl rfl (q_move rfl) <|
    sq_go 47 rfl rfl rfl (q_not rfl) <|
    sq rfl (q_pick_f rfl rfl) <|
    sq_end) ?_
  clear hF hS; intro a w hF hS
  refine hK28 _ _ ?_
  clear hK28
  refine wp_if hF rfl (fun h => absurd h (by simp)) (fun _ => ?_)
  refine wp_skip ?_
  refine hK27 _ _ ?_
  clear hK27
  refine wp_seq_k ?_; intro K29 hK29
  refine regl ?_
  refine wpl_sq hF hS (sq rfl (q_move rfl) <|
    sq_end) ?_
  clear hF hS; intro a w hF hS
  refine wpl_ef hF hS rfl (ef_callx fn15 rfl (List.Perm.refl _) (by exact (dimage_ct _ _ _ _  hD145))) ?_
  clear hF hS; rintro v150 _ _ a w ⟨_, _, rfl, rfl, ⟨rfl, qa151, qb152, qc153, qd154, rfl, hD155⟩⟩ hF hS
  replace hS : St _ [] [_, _, _, _, _] _ := hS
  refine wpl_sq hF hS (sq rfl (q_assign rfl) <|
    sq_end) ?_
  clear hF hS; intro a w hF hS
  refine wpList_nil ?_
  refine hK29 _ _ ?_
  clear hK29
  refine wp_seq_k ?_; intro K30 hK30
  refine wp_seq_k ?_; intro K31 hK31
  refine regl ?_
  refine wpl_sq hF hS (sq rfl (q_move rfl) <|
    sq rfl (q_lti rfl rfl) <|
    sq rfl (q_move rfl) <|
    sq_end) ?_
  clear hF hS; intro a w hF hS
  refine wpl_or 2 55 2 hF hS rfl rfl rfl rfl rfl (fun hg => have hg := (by first | exact of_decide_eq_false hg | exact hg); sq_go 55 rfl rfl rfl (q_move rfl) <|
    sq_go 55 rfl rfl rfl (q_gti rfl rfl) <|
    sq_end) rfl rfl ?_
  clear hF hS; intro a w hF hS
  refine wpList_nil ?_
  refine hK31 _ _ ?_
  clear hK31
  refine wp_if hF rfl (fun hc10 => ?_) (fun hc10 => ?_)
  ·(try simp only [Bool.or_eq_true, Bool.and_eq_true, Bool.or_eq_false_iff, Bool.and_eq_false_iff, decide_eq_true_eq, decide_eq_false_iff_not, Bool.not_eq_true', Bool.not_eq_false'] at hc10)
   refine wp_seq_k ?_; intro K32 hK32
   refine regl ?_
   refine wpl_sq hF hS (sq rfl (q_move rfl) <|
     sq rfl (q_move rfl) <|
     sq_end) ?_
   clear hF hS; intro a w hF hS
   replace hS := hS.perm (.swap _ _ _)
   replace hS := hS.perm (.cons _ (.swap _ _ _))
   replace hS := hS.perm (.cons _ (.cons _ (.swap _ _ _)))
   replace hS := hS.perm (.cons _ (.cons _ (.cons _ (.swap _ _ _))))
   replace hS : St _ [] [_, _, _, _, _] _ := hS
   refine wpl_ef hF hS rfl (ef_callx fn16 rfl (List.Perm.refl _) (by exact (dread_b _ _ _ (by omega) _ _ (Dk.n3_read (by omega))  hD155))) ?_
   clear hF hS; rintro _ _ _ a w ⟨_, _, rfl, rfl, ⟨rfl, rfl, qa158, qb159, qc160, qd161, rfl, hD162⟩⟩ hF hS
   replace hS : St _ [] [_, _, _, _, _] _ := hS
   refine wpl_sq hF hS (sq rfl (q_move rfl) <|
     sq rfl (q_extract rfl rfl) <|
     sq rfl (q_extract rfl rfl) <|
     sq rfl (q_assign rfl) <|
     sq rfl (q_assign rfl) <|
     sq_end) ?_
   clear hF hS; intro a w hF hS
   refine wpList_nil ?_
   refine hK32 _ _ ?_
   clear hK32
   refine wp_seq_k ?_; intro K33 hK33
   refine regl ?_
   refine wpl_sq hF hS (sq rfl (q_move rfl) <|
     sq rfl (q_nf (q_nei rfl rfl) (by decide)) <|
     sq rfl (q_move rfl) <|
     sq_go 67 rfl rfl rfl (q_move rfl) <|
     sq_go 67 rfl rfl rfl (q_move rfl) <|
     sq_go 67 rfl rfl rfl (q_call fn18 rfl (fun w hS => full_ct 120 w ) (fun _ _ _ h => h)) <|
     sq_end) ?_
   clear hF hS; intro a w hF hS
   refine wpl_efg hF hS (wanted_go 67 rfl rfl) rfl (ef_callx fn17 rfl (List.Perm.refl _) (by exact (dwrite_b _ _ _ (by omega) _ _ _ (Dk.n3_write (by omega))  hD162))) ?_
   clear hF hS; rintro _ _ _ a w ⟨_, _, rfl, rfl, ⟨rfl, rfl, qa164, qb165, qc166, qd167, rfl, hD168⟩⟩ hF hS
   replace hS : St _ [] [_, _, _, _, _] _ := hS
   refine wpl_sq hF hS (sq_go 67 rfl rfl rfl (q_nf (q_nei rfl rfl) (by decide)) <|
     sq rfl (q_pick_f rfl rfl) <|
     sq rfl (q_move rfl) <|
     sq_go 74 rfl rfl rfl (q_move rfl) <|
     sq_go 74 rfl rfl rfl (q_move rfl) <|
     sq_end) ?_
   clear hF hS; intro a w hF hS
   refine wpl_efg hF hS (wanted_go 74 rfl rfl) rfl (ef_callx fn19 rfl (List.Perm.refl _) (by exact (drot_b _ _ _ _ (by omega) (by decide) _ _ (Dk.n3_rot (by omega))  hD168))) ?_
   clear hF hS; rintro _ _ _ a w ⟨_, _, rfl, rfl, ⟨rfl, rfl, qa170, qb171, qc172, qd173, rfl, hD174⟩⟩ hF hS
   replace hS : St _ [] [_, _, _, _, _] _ := hS
   refine wpl_sq hF hS (sq_go 74 rfl rfl rfl (q_nf (q_nei rfl rfl) (by decide)) <|
     sq rfl (q_pick_f rfl rfl) <|
     sq rfl (q_move rfl) <|
     sq_go 80 rfl rfl rfl (q_move rfl) <|
     sq_go 80 rfl rfl rfl (q_move rfl) <|
     sq_end) ?_
   clear hF hS; intro a w hF hS
   refine wpl_efg hF hS (wanted_go 80 rfl rfl) rfl (ef_callx fn20 rfl (List.Perm.refl _) (by exact (dwear_b _ _ _ (by omega) _ _ (Dk.n3_wear (by omega))  hD174))) ?_
   clear hF hS; rintro _ _ _ a w ⟨_, _, rfl, rfl, ⟨rfl, rfl, qa176, qb177, qc178, qd179, rfl, hD180⟩⟩ hF hS
   replace hS : St _ [] [_, _, _, _, _] _ := hS
   refine wpl_sq hF hS (sq_go 80 rfl rfl rfl (q_nf (q_nei rfl rfl) (by decide)) <|
     sq rfl (q_pick_f rfl rfl) <|
     sq_end) ?_
   clear hF hS; intro a w hF hS
   refine wpList_nil ?_
   refine hK33 _ _ ?_
   clear hK33
   refine wp_if hF rfl (fun h => absurd h (by simp)) (fun _ => ?_)
   refine wp_skip ?_
   refine hK30 _ _ ?_
   clear hK30
   refine wp_seq_k ?_; intro K34 hK34
   refine wp_seq_k ?_; intro K35 hK35
   rcases Decidable.em (t.length = 64) with hB | hB
   ·skip
    refine reg hF hS (sq rfl (q_move rfl) <|
      sq rfl (q_len_s ty9 rfl) <|
      sq rfl (q_nf (q_nei rfl rfl) (by omega)) <|
      sq rfl (q_move rfl) <|
      sq_skip 89 rfl rfl rfl rfl <|
      sq_skip 89 rfl rfl rfl rfl <|
      sq_skip 89 rfl rfl rfl rfl <|
      sq_skip 89 rfl rfl rfl rfl <|
      sq rfl (q_pick_f rfl rfl) <|
      sq_end) ?_
    clear hF hS; intro a w hF hS
    refine hK35 _ _ ?_
    clear hK35
    refine wp_if hF rfl (fun h => absurd h (by simp)) (fun _ => ?_)
    refine wp_skip ?_
    refine hK34 _ _ ?_
    clear hK34
    refine wp_seq_k ?_; intro K36 hK36
    refine regl ?_
    refine wpl_sq hF hS (sq rfl (q_move rfl) <|
      sq rfl (q_move rfl) <|
      sq_end) ?_
    clear hF hS; intro a w hF hS
    refine wpl_ef hF hS rfl (ef_callx fn15 rfl (List.Perm.refl _) (by exact (dimage_ct _ _ _ _  hD180))) ?_
    clear hF hS; rintro v181 _ _ a w ⟨_, _, rfl, rfl, ⟨rfl, qa182, qb183, qc184, qd185, rfl, hD186⟩⟩ hF hS
    replace hS : St _ [] [_, _, _, _, _, _] _ := hS
    refine wpl_sq hF hS (sq rfl (q_call fn21 rfl (fun w hS => sametexts_t _ _ _ w (own_slV (f := vs) (xs := (Dk.image (Dk.new 3))) (hS.own _ (List.mem_of_getElem? (i := 5) rfl)).1 (Dk.image_64 (Dk.ok_new (by decide) (by decide))) rfl (by first | decide | omega)) (own_slV (f := vs) (xs := (Dk.image (Dk.new 3))) (hS.own _ (List.mem_of_getElem? (i := 0) rfl)).1 (Dk.image_64 (Dk.ok_new (by decide) (by decide))) rfl (by first | decide | omega))) (fun _ _ _ h => h)) <|
      sq rfl (q_assign rfl) <|
      sq_end) ?_
    clear hF hS; intro a w hF hS
    refine wpList_nil ?_
    refine hK36 _ _ ?_
    clear hK36
    refine wp_seq_k ?_; intro K37 hK37
    refine regl ?_
    refine wpl_sq hF hS (sq rfl (q_move rfl) <|
      sq rfl (q_move rfl) <|
      sq_go 100 rfl rfl rfl (q_move rfl) <|
      sq_end) ?_
    clear hF hS; intro a w hF hS
    replace hS := hS.perm (.swap _ _ _)
    replace hS := hS.perm (.cons _ (.swap _ _ _))
    replace hS := hS.perm (.cons _ (.cons _ (.swap _ _ _)))
    replace hS := hS.perm (.cons _ (.cons _ (.cons _ (.swap _ _ _))))
    replace hS : St _ [] [_, _, _, _, _, _] _ := hS
    refine wpl_efg hF hS (wanted_go 100 rfl rfl) rfl (ef_callx fn22 rfl (List.Perm.refl _) (by exact (dpending_ct _ _ _ _  hD186))) ?_
    clear hF hS; rintro v188 _ _ a w ⟨_, _, rfl, rfl, ⟨rfl, qa189, qb190, qc191, qd192, rfl, hD193⟩⟩ hF hS
    replace hS : St _ [] [_, _, _, _, _, _, _] _ := hS
    refine wpl_sq hF hS (sq_go 100 rfl rfl rfl (q_len_row ty31 0 rfl rfl) <|
      sq_go 100 rfl rfl rfl (q_dt (q_eqi rfl rfl) (by rw [Dk.n3_dix]; rfl)) <|
      sq rfl (q_pick_t rfl rfl) <|
      sq rfl (q_move rfl) <|
      sq_go 106 rfl rfl rfl (q_move rfl) <|
      sq_end) ?_
    clear hF hS; intro a w hF hS
    replace hS := hS.perm (.swap _ _ _)
    replace hS := hS.perm (.cons _ (.swap _ _ _))
    replace hS := hS.perm (.cons _ (.cons _ (.swap _ _ _)))
    replace hS := hS.perm (.cons _ (.cons _ (.cons _ (.swap _ _ _))))
    replace hS : St _ [] [_, _, _, _, _, _, _] _ := hS
    refine wpl_efg hF hS (wanted_go 106 rfl rfl) rfl (ef_callx fn23 rfl (List.Perm.refl _) (by exact (dworn_ct _ _ _ _  hD193))) ?_
    clear hF hS; rintro v195 _ _ a w ⟨_, _, rfl, rfl, ⟨rfl, qa196, qb197, qc198, qd199, rfl, hD200⟩⟩ hF hS
    replace hS : St _ [] [_, _, _, _, _, _, _, _] _ := hS
    refine wpl_sq hF hS (sq_go 106 rfl rfl rfl (q_len_row ty31 0 rfl rfl) <|
      sq_go 106 rfl rfl rfl (q_dt (q_eqi rfl rfl) (by rw [Dk.n3_wix]; rfl)) <|
      sq rfl (q_pick_t rfl rfl) <|
      sq rfl (q_assign rfl) <|
      sq_end) ?_
    clear hF hS; intro a w hF hS
    refine wpList_nil ?_
    refine hK37 _ _ ?_
    clear hK37
    refine wp_ret ?_
    exact fn_ret (rs := [.tmp 6]) rfl hF hS (vs := [_]) ⟨rfl, trivial⟩ zQ zQ (rfl)
   ·skip
    refine regl ?_
    refine wpl_sq hF hS (sq rfl (q_move rfl) <|
      sq rfl (q_len_s ty9 rfl) <|
      sq rfl (q_nt (q_nei rfl rfl) (by omega)) <|
      sq rfl (q_move rfl) <|
      sq_go 89 rfl rfl rfl (q_move rfl) <|
      sq_go 89 rfl rfl rfl (q_move rfl) <|
      sq_end) ?_
    clear hF hS; intro a w hF hS
    refine wpl_efg hF hS (wanted_go 89 rfl rfl) rfl (ef_callx fn17 rfl (List.Perm.refl _) (by exact (dwrite_b _ _ _ (by decide) _ _ _ (Dk.n3_wlen (by omega))  hD180))) ?_
    clear hF hS; rintro _ _ _ a w ⟨_, _, rfl, rfl, ⟨rfl, rfl, qa203, qb204, qc205, qd206, rfl, hD207⟩⟩ hF hS
    replace hS : St _ [] [_, _, _, _, _] _ := hS
    refine wpl_sq hF hS (sq_go 89 rfl rfl rfl (q_nf (q_nei rfl rfl) (by decide)) <|
      sq rfl (q_pick_t rfl rfl) <|
      sq_end) ?_
    clear hF hS; intro a w hF hS
    refine wpList_nil ?_
    refine hK35 _ _ ?_
    clear hK35
    refine wp_if hF rfl (fun h => absurd h (by simp)) (fun _ => ?_)
    refine wp_skip ?_
    refine hK34 _ _ ?_
    clear hK34
    refine wp_seq_k ?_; intro K38 hK38
    refine regl ?_
    refine wpl_sq hF hS (sq rfl (q_move rfl) <|
      sq rfl (q_move rfl) <|
      sq_end) ?_
    clear hF hS; intro a w hF hS
    refine wpl_ef hF hS rfl (ef_callx fn15 rfl (List.Perm.refl _) (by exact (dimage_ct _ _ _ _  hD207))) ?_
    clear hF hS; rintro v208 _ _ a w ⟨_, _, rfl, rfl, ⟨rfl, qa209, qb210, qc211, qd212, rfl, hD213⟩⟩ hF hS
    replace hS : St _ [] [_, _, _, _, _, _] _ := hS
    refine wpl_sq hF hS (sq rfl (q_call fn21 rfl (fun w hS => sametexts_t _ _ _ w (own_slV (f := vs) (xs := (Dk.image (Dk.new 3))) (hS.own _ (List.mem_of_getElem? (i := 5) rfl)).1 (Dk.image_64 (Dk.ok_new (by decide) (by decide))) rfl (by first | decide | omega)) (own_slV (f := vs) (xs := (Dk.image (Dk.new 3))) (hS.own _ (List.mem_of_getElem? (i := 0) rfl)).1 (Dk.image_64 (Dk.ok_new (by decide) (by decide))) rfl (by first | decide | omega))) (fun _ _ _ h => h)) <|
      sq rfl (q_assign rfl) <|
      sq_end) ?_
    clear hF hS; intro a w hF hS
    refine wpList_nil ?_
    refine hK38 _ _ ?_
    clear hK38
    refine wp_seq_k ?_; intro K39 hK39
    refine regl ?_
    refine wpl_sq hF hS (sq rfl (q_move rfl) <|
      sq rfl (q_move rfl) <|
      sq_go 100 rfl rfl rfl (q_move rfl) <|
      sq_end) ?_
    clear hF hS; intro a w hF hS
    replace hS := hS.perm (.swap _ _ _)
    replace hS := hS.perm (.cons _ (.swap _ _ _))
    replace hS := hS.perm (.cons _ (.cons _ (.swap _ _ _)))
    replace hS := hS.perm (.cons _ (.cons _ (.cons _ (.swap _ _ _))))
    replace hS : St _ [] [_, _, _, _, _, _] _ := hS
    refine wpl_efg hF hS (wanted_go 100 rfl rfl) rfl (ef_callx fn22 rfl (List.Perm.refl _) (by exact (dpending_ct _ _ _ _  hD213))) ?_
    clear hF hS; rintro v215 _ _ a w ⟨_, _, rfl, rfl, ⟨rfl, qa216, qb217, qc218, qd219, rfl, hD220⟩⟩ hF hS
    replace hS : St _ [] [_, _, _, _, _, _, _] _ := hS
    refine wpl_sq hF hS (sq_go 100 rfl rfl rfl (q_len_row ty31 0 rfl rfl) <|
      sq_go 100 rfl rfl rfl (q_dt (q_eqi rfl rfl) (by rw [Dk.n3_dix]; rfl)) <|
      sq rfl (q_pick_t rfl rfl) <|
      sq rfl (q_move rfl) <|
      sq_go 106 rfl rfl rfl (q_move rfl) <|
      sq_end) ?_
    clear hF hS; intro a w hF hS
    replace hS := hS.perm (.swap _ _ _)
    replace hS := hS.perm (.cons _ (.swap _ _ _))
    replace hS := hS.perm (.cons _ (.cons _ (.swap _ _ _)))
    replace hS := hS.perm (.cons _ (.cons _ (.cons _ (.swap _ _ _))))
    replace hS : St _ [] [_, _, _, _, _, _, _] _ := hS
    refine wpl_efg hF hS (wanted_go 106 rfl rfl) rfl (ef_callx fn23 rfl (List.Perm.refl _) (by exact (dworn_ct _ _ _ _  hD220))) ?_
    clear hF hS; rintro v222 _ _ a w ⟨_, _, rfl, rfl, ⟨rfl, qa223, qb224, qc225, qd226, rfl, hD227⟩⟩ hF hS
    replace hS : St _ [] [_, _, _, _, _, _, _, _] _ := hS
    refine wpl_sq hF hS (sq_go 106 rfl rfl rfl (q_len_row ty31 0 rfl rfl) <|
      sq_go 106 rfl rfl rfl (q_dt (q_eqi rfl rfl) (by rw [Dk.n3_wix]; rfl)) <|
      sq rfl (q_pick_t rfl rfl) <|
      sq rfl (q_assign rfl) <|
      sq_end) ?_
    clear hF hS; intro a w hF hS
    refine wpList_nil ?_
    refine hK39 _ _ ?_
    clear hK39
    refine wp_ret ?_
    exact fn_ret (rs := [.tmp 6]) rfl hF hS (vs := [_]) ⟨rfl, trivial⟩ zQ zQ (rfl)
  ·(try simp only [Bool.or_eq_true, Bool.and_eq_true, Bool.or_eq_false_iff, Bool.and_eq_false_iff, decide_eq_true_eq, decide_eq_false_iff_not, Bool.not_eq_true', Bool.not_eq_false'] at hc10)
   refine wp_skip ?_
   refine hK30 _ _ ?_
   clear hK30
   refine wp_seq_k ?_; intro K40 hK40
   refine wp_seq_k ?_; intro K41 hK41
   rcases Decidable.em (t.length = 64) with hB | hB
   ·skip
    refine reg hF hS (sq rfl (q_move rfl) <|
      sq rfl (q_len_s ty9 rfl) <|
      sq rfl (q_nf (q_nei rfl rfl) (by omega)) <|
      sq rfl (q_move rfl) <|
      sq_skip 89 rfl rfl rfl rfl <|
      sq_skip 89 rfl rfl rfl rfl <|
      sq_skip 89 rfl rfl rfl rfl <|
      sq_skip 89 rfl rfl rfl rfl <|
      sq rfl (q_pick_f rfl rfl) <|
      sq_end) ?_
    clear hF hS; intro a w hF hS
    refine hK41 _ _ ?_
    clear hK41
    refine wp_if hF rfl (fun h => absurd h (by simp)) (fun _ => ?_)
    refine wp_skip ?_
    refine hK40 _ _ ?_
    clear hK40
    refine wp_seq_k ?_; intro K42 hK42
    refine regl ?_
    refine wpl_sq hF hS (sq rfl (q_move rfl) <|
      sq rfl (q_move rfl) <|
      sq_end) ?_
    clear hF hS; intro a w hF hS
    replace hS := hS.perm (.swap _ _ _)
    replace hS := hS.perm (.cons _ (.swap _ _ _))
    replace hS := hS.perm (.cons _ (.cons _ (.swap _ _ _)))
    replace hS := hS.perm (.cons _ (.cons _ (.cons _ (.swap _ _ _))))
    replace hS : St _ [] [_, _, _, _, _] _ := hS
    refine wpl_ef hF hS rfl (ef_callx fn15 rfl (List.Perm.refl _) (by exact (dimage_ct _ _ _ _  hD155))) ?_
    clear hF hS; rintro v229 _ _ a w ⟨_, _, rfl, rfl, ⟨rfl, qa230, qb231, qc232, qd233, rfl, hD234⟩⟩ hF hS
    replace hS : St _ [] [_, _, _, _, _, _] _ := hS
    refine wpl_sq hF hS (sq rfl (q_call fn21 rfl (fun w hS => sametexts_t _ _ _ w (own_slV (f := vs) (xs := (Dk.image (Dk.new 3))) (hS.own _ (List.mem_of_getElem? (i := 5) rfl)).1 (Dk.image_64 (Dk.ok_new (by decide) (by decide))) rfl (by first | decide | omega)) (own_slV (f := vs) (xs := (Dk.image (Dk.new 3))) (hS.own _ (List.mem_of_getElem? (i := 0) rfl)).1 (Dk.image_64 (Dk.ok_new (by decide) (by decide))) rfl (by first | decide | omega))) (fun _ _ _ h => h)) <|
      sq rfl (q_assign rfl) <|
      sq_end) ?_
    clear hF hS; intro a w hF hS
    refine wpList_nil ?_
    refine hK42 _ _ ?_
    clear hK42
    refine wp_seq_k ?_; intro K43 hK43
    refine regl ?_
    refine wpl_sq hF hS (sq rfl (q_move rfl) <|
      sq rfl (q_move rfl) <|
      sq_go 100 rfl rfl rfl (q_move rfl) <|
      sq_end) ?_
    clear hF hS; intro a w hF hS
    replace hS := hS.perm (.swap _ _ _)
    replace hS := hS.perm (.cons _ (.swap _ _ _))
    replace hS := hS.perm (.cons _ (.cons _ (.swap _ _ _)))
    replace hS := hS.perm (.cons _ (.cons _ (.cons _ (.swap _ _ _))))
    replace hS : St _ [] [_, _, _, _, _, _] _ := hS
    refine wpl_efg hF hS (wanted_go 100 rfl rfl) rfl (ef_callx fn22 rfl (List.Perm.refl _) (by exact (dpending_ct _ _ _ _  hD234))) ?_
    clear hF hS; rintro v236 _ _ a w ⟨_, _, rfl, rfl, ⟨rfl, qa237, qb238, qc239, qd240, rfl, hD241⟩⟩ hF hS
    replace hS : St _ [] [_, _, _, _, _, _, _] _ := hS
    refine wpl_sq hF hS (sq_go 100 rfl rfl rfl (q_len_row ty31 0 rfl rfl) <|
      sq_go 100 rfl rfl rfl (q_dt (q_eqi rfl rfl) (by rw [Dk.n3_dix]; rfl)) <|
      sq rfl (q_pick_t rfl rfl) <|
      sq rfl (q_move rfl) <|
      sq_go 106 rfl rfl rfl (q_move rfl) <|
      sq_end) ?_
    clear hF hS; intro a w hF hS
    replace hS := hS.perm (.swap _ _ _)
    replace hS := hS.perm (.cons _ (.swap _ _ _))
    replace hS := hS.perm (.cons _ (.cons _ (.swap _ _ _)))
    replace hS := hS.perm (.cons _ (.cons _ (.cons _ (.swap _ _ _))))
    replace hS : St _ [] [_, _, _, _, _, _, _] _ := hS
    refine wpl_efg hF hS (wanted_go 106 rfl rfl) rfl (ef_callx fn23 rfl (List.Perm.refl _) (by exact (dworn_ct _ _ _ _  hD241))) ?_
    clear hF hS; rintro v243 _ _ a w ⟨_, _, rfl, rfl, ⟨rfl, qa244, qb245, qc246, qd247, rfl, hD248⟩⟩ hF hS
    replace hS : St _ [] [_, _, _, _, _, _, _, _] _ := hS
    refine wpl_sq hF hS (sq_go 106 rfl rfl rfl (q_len_row ty31 0 rfl rfl) <|
      sq_go 106 rfl rfl rfl (q_dt (q_eqi rfl rfl) (by rw [Dk.n3_wix]; rfl)) <|
      sq rfl (q_pick_t rfl rfl) <|
      sq rfl (q_assign rfl) <|
      sq_end) ?_
    clear hF hS; intro a w hF hS
    refine wpList_nil ?_
    refine hK43 _ _ ?_
    clear hK43
    refine wp_ret ?_
    exact fn_ret (rs := [.tmp 6]) rfl hF hS (vs := [_]) ⟨rfl, trivial⟩ zQ zQ (rfl)
   ·skip
    refine regl ?_
    refine wpl_sq hF hS (sq rfl (q_move rfl) <|
      sq rfl (q_len_s ty9 rfl) <|
      sq rfl (q_nt (q_nei rfl rfl) (by omega)) <|
      sq rfl (q_move rfl) <|
      sq_go 89 rfl rfl rfl (q_move rfl) <|
      sq_go 89 rfl rfl rfl (q_move rfl) <|
      sq_end) ?_
    clear hF hS; intro a w hF hS
    replace hS := hS.perm (.swap _ _ _)
    replace hS := hS.perm (.cons _ (.swap _ _ _))
    replace hS := hS.perm (.cons _ (.cons _ (.swap _ _ _)))
    replace hS := hS.perm (.cons _ (.cons _ (.cons _ (.swap _ _ _))))
    replace hS : St _ [] [_, _, _, _, _] _ := hS
    refine wpl_efg hF hS (wanted_go 89 rfl rfl) rfl (ef_callx fn17 rfl (List.Perm.refl _) (by exact (dwrite_b _ _ _ (by decide) _ _ _ (Dk.n3_wlen (by omega))  hD155))) ?_
    clear hF hS; rintro _ _ _ a w ⟨_, _, rfl, rfl, ⟨rfl, rfl, qa251, qb252, qc253, qd254, rfl, hD255⟩⟩ hF hS
    replace hS : St _ [] [_, _, _, _, _] _ := hS
    refine wpl_sq hF hS (sq_go 89 rfl rfl rfl (q_nf (q_nei rfl rfl) (by decide)) <|
      sq rfl (q_pick_t rfl rfl) <|
      sq_end) ?_
    clear hF hS; intro a w hF hS
    refine wpList_nil ?_
    refine hK41 _ _ ?_
    clear hK41
    refine wp_if hF rfl (fun h => absurd h (by simp)) (fun _ => ?_)
    refine wp_skip ?_
    refine hK40 _ _ ?_
    clear hK40
    refine wp_seq_k ?_; intro K44 hK44
    refine regl ?_
    refine wpl_sq hF hS (sq rfl (q_move rfl) <|
      sq rfl (q_move rfl) <|
      sq_end) ?_
    clear hF hS; intro a w hF hS
    refine wpl_ef hF hS rfl (ef_callx fn15 rfl (List.Perm.refl _) (by exact (dimage_ct _ _ _ _  hD255))) ?_
    clear hF hS; rintro v256 _ _ a w ⟨_, _, rfl, rfl, ⟨rfl, qa257, qb258, qc259, qd260, rfl, hD261⟩⟩ hF hS
    replace hS : St _ [] [_, _, _, _, _, _] _ := hS
    refine wpl_sq hF hS (sq rfl (q_call fn21 rfl (fun w hS => sametexts_t _ _ _ w (own_slV (f := vs) (xs := (Dk.image (Dk.new 3))) (hS.own _ (List.mem_of_getElem? (i := 5) rfl)).1 (Dk.image_64 (Dk.ok_new (by decide) (by decide))) rfl (by first | decide | omega)) (own_slV (f := vs) (xs := (Dk.image (Dk.new 3))) (hS.own _ (List.mem_of_getElem? (i := 0) rfl)).1 (Dk.image_64 (Dk.ok_new (by decide) (by decide))) rfl (by first | decide | omega))) (fun _ _ _ h => h)) <|
      sq rfl (q_assign rfl) <|
      sq_end) ?_
    clear hF hS; intro a w hF hS
    refine wpList_nil ?_
    refine hK44 _ _ ?_
    clear hK44
    refine wp_seq_k ?_; intro K45 hK45
    refine regl ?_
    refine wpl_sq hF hS (sq rfl (q_move rfl) <|
      sq rfl (q_move rfl) <|
      sq_go 100 rfl rfl rfl (q_move rfl) <|
      sq_end) ?_
    clear hF hS; intro a w hF hS
    replace hS := hS.perm (.swap _ _ _)
    replace hS := hS.perm (.cons _ (.swap _ _ _))
    replace hS := hS.perm (.cons _ (.cons _ (.swap _ _ _)))
    replace hS := hS.perm (.cons _ (.cons _ (.cons _ (.swap _ _ _))))
    replace hS : St _ [] [_, _, _, _, _, _] _ := hS
    refine wpl_efg hF hS (wanted_go 100 rfl rfl) rfl (ef_callx fn22 rfl (List.Perm.refl _) (by exact (dpending_ct _ _ _ _  hD261))) ?_
    clear hF hS; rintro v263 _ _ a w ⟨_, _, rfl, rfl, ⟨rfl, qa264, qb265, qc266, qd267, rfl, hD268⟩⟩ hF hS
    replace hS : St _ [] [_, _, _, _, _, _, _] _ := hS
    refine wpl_sq hF hS (sq_go 100 rfl rfl rfl (q_len_row ty31 0 rfl rfl) <|
      sq_go 100 rfl rfl rfl (q_dt (q_eqi rfl rfl) (by rw [Dk.n3_dix]; rfl)) <|
      sq rfl (q_pick_t rfl rfl) <|
      sq rfl (q_move rfl) <|
      sq_go 106 rfl rfl rfl (q_move rfl) <|
      sq_end) ?_
    clear hF hS; intro a w hF hS
    replace hS := hS.perm (.swap _ _ _)
    replace hS := hS.perm (.cons _ (.swap _ _ _))
    replace hS := hS.perm (.cons _ (.cons _ (.swap _ _ _)))
    replace hS := hS.perm (.cons _ (.cons _ (.cons _ (.swap _ _ _))))
    replace hS : St _ [] [_, _, _, _, _, _, _] _ := hS
    refine wpl_efg hF hS (wanted_go 106 rfl rfl) rfl (ef_callx fn23 rfl (List.Perm.refl _) (by exact (dworn_ct _ _ _ _  hD268))) ?_
    clear hF hS; rintro v270 _ _ a w ⟨_, _, rfl, rfl, ⟨rfl, qa271, qb272, qc273, qd274, rfl, hD275⟩⟩ hF hS
    replace hS : St _ [] [_, _, _, _, _, _, _, _] _ := hS
    refine wpl_sq hF hS (sq_go 106 rfl rfl rfl (q_len_row ty31 0 rfl rfl) <|
      sq_go 106 rfl rfl rfl (q_dt (q_eqi rfl rfl) (by rw [Dk.n3_wix]; rfl)) <|
      sq rfl (q_pick_t rfl rfl) <|
      sq rfl (q_assign rfl) <|
      sq_end) ?_
    clear hF hS; intro a w hF hS
    refine wpList_nil ?_
    refine hK45 _ _ ?_
    clear hK45
    refine wp_ret ?_
    exact fn_ret (rs := [.tmp 6]) rfl hF hS (vs := [_]) ⟨rfl, trivial⟩ zQ zQ (rfl)
end Go.Proofs.Ytbgbfmdnpjpdgaa
