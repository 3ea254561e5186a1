/- A text of a proof over this seat: walks over the program's functions and the plain laws that they need. -/
import Derived.Test.YtcolgcdnpfpcdaaVw8
import Derived.Test.YtcolgcdnpfpcdaaWi8
set_option linter.all false
namespace Go.Proofs.Ytcolgcdnpfpcdaa
open Go.Fw
theorem fn37 : FnOk Try.prog 37 := ⟨_, Try.func37, rfl, by kernel_rfl⟩

attribute [local irreducible] Wi.int Wi.bytes Wi.ints Wi.strs Wi.dgs Ls.encT Wi.getInt Wi.valBE Wi.vj Wi.cnt Wi.wcnt Wi.getBytes Wi.run Wi.getList Wi.getDigs Wi.dgL Wi.Rg

set_option maxHeartbeats 2000000 in
theorem is_ct (v1 : Value) (cs : List UInt8) (used e : Int) (b : Nat) (bt : TypeId) (v2 : Value) (xs : List UInt8) (he : e = 0 → 0 ≤ used ∧ used ≤ xs.length ∧ cs = xs.take used.toNat) (w : World) (hc : Sl encB (ph w) v1 cs) (hbx : w.heap[b]? = some (.cells [v2].toArray bt (0, 0))) (hb : Sl encB (ph w) v2 xs) : Ct Try.prog 37 [v1, vi used, vi e, .pointer (some ⟨b, 0, none⟩)] w (fun r _ _ => r = .bool true) := by
  refine fn_enter Try.func37 rfl Try.ntmps37 (Nat.le_of_ble_eq_true rfl) fun a hF hS => ?_
  have hbl := hb.1
  refine wp_seq_k ?_; intro K1 hK1
  refine reg hF hS (sq rfl (q_assign rfl) <|
      sq_end) ?_
  clear hF hS; intro a w hF hS
  refine hK1 _ _ ?_
  clear hK1
  refine wp_seq_k ?_; intro K2 hK2
  refine regl ?_
  refine wpl_sq hF hS (sq rfl (q_move rfl) <|
      sq rfl (q_nei rfl rfl) <|
      sq rfl (q_move rfl) <|
      sq_end) ?_
  clear hF hS; intro a w hF hS
  refine wpl_or2 10 19 hF hS rfl rfl (by rfl) (fun _ => sq_skip 10 rfl rfl rfl rfl <|
      sq_skip 10 rfl rfl rfl rfl <|
      sq_skip 10 rfl rfl rfl rfl <|
      sq_skipu 13 rfl rfl rfl <|
      sq_skipu 13 rfl rfl rfl <|
      sq_skipu 13 rfl rfl rfl <|
      sq_skipu 13 rfl rfl rfl <|
      sq_skip 10 rfl rfl rfl rfl <|
      sq_skip 10 rfl rfl rfl rfl <|
      sq_skipu 19 rfl rfl rfl <|
      sq_skipu 19 rfl rfl rfl <|
      sq_skipu 19 rfl rfl rfl <|
      sq_skipu 19 rfl rfl rfl <|
      sq_skipu 19 rfl rfl rfl <|
      sq_skipu 19 rfl rfl rfl <|
      sq_skipu 19 rfl rfl rfl <|
      sq_skipu 19 rfl rfl rfl <|
      sq_skipu 19 rfl rfl rfl <|
      sq_skip 10 rfl rfl rfl rfl <|
      sq_end) (fun hg => have hg := (nd_false hg); sq_go 10 rfl rfl rfl (q_move rfl) <|
      sq_go 10 rfl rfl rfl (q_dt (q_gei rfl rfl) (by have h9 := he hg; omega)) <|
      sq_go 10 rfl rfl rfl (q_move rfl) <|
      sq_go 13 rfl rfl rfl (q_move rfl) <|
      sq_go 13 rfl rfl rfl (q_ld_old1 ty28 rfl hbx rfl rfl) <|
      sq_go 13 rfl rfl rfl (q_len_sl ty28 hb rfl) <|
      sq_go 13 rfl rfl rfl (q_dt (q_lei rfl rfl) (by have h9 := he hg; omega)) <|
      sq_go 10 rfl rfl rfl (q_pick_t rfl rfl) <|
      sq_go 10 rfl rfl rfl (q_move rfl) <|
      sq_go 19 rfl rfl rfl (q_move rfl) <|
      sq_go 19 rfl rfl rfl (q_ld_old1 ty28 rfl hbx rfl rfl) <|
      sq_go 19 rfl rfl rfl (q_move rfl) <|
      sq_go 19 rfl rfl rfl (q_ld_old1 ty28 rfl hbx rfl rfl) <|
      sq_go 19 rfl rfl rfl (q_len_sl ty28 hb rfl) <|
      sq_go 19 rfl rfl rfl (q_min rfl rfl) <|
      sq_go 19 rfl rfl rfl (q_max rfl rfl) <|
      sq_go 19 rfl rfl rfl (q_slsl_hi ty28 ty5 hb rfl rfl (by omega)) <|
      sq_go 19 rfl rfl rfl (q_dt (q_call fn13 rfl (fun w hS => same_ct _ _ _ _ w (Sl.mono (hS.le zin0) hc) (Sl.mono (hS.le zin0) (Sl.cut hb (by omega)))) (fun _ _ _ h => h)) (by have h9 := he hg; rw [List.drop_zero, show max 0 (min used (xs.length : Int)) = used by omega]; exact h9.2.2)) <|
      sq_go 10 rfl rfl rfl (q_pick_t rfl rfl) <|
      sq_end) rfl rfl ?_
  clear hF hS; intro a w hF hS
  refine wpl_sq hF hS (sq rfl (q_assign rfl) <|
      sq_end) ?_
  clear hF hS; intro a w hF hS
  refine wpList_nil ?_
  refine hK2 _ _ ?_
  clear hK2
  refine wp_ret ?_
  exact fn_ret (rs := [.tmp 7]) rfl hF hS (vs := [_]) ⟨rfl, trivial⟩ (List.nil_sublist _) (List.nil_sublist _) (by by_cases h9 : e = 0 <;> simp [h9])

set_option maxHeartbeats 2000000 in
theorem law12_ct (v : Value) (xs : List UInt8) (w : World) (hb : Sl encB (ph w) v xs) : Ct Try.prog 7 [v] w (fun r _ _ => r = .bool true) := by
  refine fn_enter Try.func7 rfl Try.ntmps7 (Nat.le_of_ble_eq_true rfl) fun a hF hS => ?_
  have hbl := hb.1
  have hgl := Wi.getBytes_len xs
  have hli := Wi.getList_len Wi.codec_int (fun _ => .inr trivial) xs hbl
  have hls := Wi.getList_len Wi.codec_bytes (fun _ => .inr trivial) xs hbl
  have hld := Wi.getDigs_len xs
  have hi9 := Wi.int_len9 (Wi.getInt xs).1
  have hb9 := Wi.bytes_len (Wi.getBytes xs).1
  have hv1 : v.oneCell' = true := sl_one hb
  refine wp_seq_k ?_; intro K1 hK1
  refine regl ?_
  refine wpl_ef hF hS rfl (ef_box1 rfl hv1) ?_
  clear hF hS; rintro _ _ _ a w ⟨b1, rfl, rfl, rfl⟩ hF hS
  refine wpl_sq hF hS (sq rfl (q_assign rfl) <|
      sq_end) ?_
  clear hF hS; intro a w hF hS
  refine wpList_nil ?_
  refine hK1 _ _ ?_
  clear hK1
  refine wp_seq_k ?_; intro K2 hK2
  refine wp_seq_k ?_; intro K3 hK3
  refine reg hF hS (sq rfl (q_ld_blk1 ty28 0 rfl rfl rfl rfl) <|
      sq rfl (q_len_sl ty28 hb rfl) <|
      sq rfl (q_gti rfl rfl) <|
      sq_end) ?_
  clear hF hS; intro a w hF hS
  refine hK3 _ _ ?_
  clear hK3
  refine wp_ifd hF rfl (fun hc1 => ?_) (fun hc1 => ?_)
  · refine wp_seq_k ?_; intro K4 hK4
    refine reg hF hS (sq rfl (q_call fn12 rfl (fun w hS => sanity_ct w ) (fun _ _ _ h => h)) <|
        sq rfl (q_assign rfl) <|
        sq_end) ?_
    clear hF hS; intro a w hF hS
    refine hK4 _ _ ?_
    clear hK4
    refine wp_ret ?_
    exact fn_ret (rs := [.tmp 2]) rfl hF hS (vs := [_]) ⟨rfl, trivial⟩ (List.nil_sublist _) (List.nil_sublist _) (rfl)
  · have hx2 : xs.length ≤ 2000 := by omega
    have hii := Wi.ints_len _ hli.1 hx2
    have hss := Wi.strs_len _ hls.1 (fun p hp => hls.2 p hp) hx2
    have hdd := Wi.dgs_len xs hx2
    refine wp_skip ?_
    refine hK2 _ _ ?_
    clear hK2
    refine wp_seq_k ?_; intro K5 hK5
    refine reg hF hS (sq rfl (q_mkf rfl rfl) <|
        sq rfl (q_assign rfl) <|
        sq_end) ?_
    clear hF hS; intro a w hF hS
    refine hK5 _ _ ?_
    clear hK5
    refine wp_seq_k ?_; intro K6 hK6
    refine reg hF hS (sq rfl (q_ld_blk1 ty28 0 rfl rfl rfl rfl) <|
        sq rfl (q_call fn24 rfl (fun w hS => wgi_ct _ _ w (Sl.mono (hS.le zin0) hb)) (fun _ _ _ h => h)) <|
        sq rfl (q_move rfl) <|
        sq rfl (q_extract rfl rfl) <|
        sq rfl (q_extract rfl rfl) <|
        sq rfl (q_extract rfl rfl) <|
        sq rfl (q_assign rfl) <|
        sq rfl (q_assign rfl) <|
        sq rfl (q_assign rfl) <|
        sq_end) ?_
    clear hF hS; intro a w hF hS
    refine hK6 _ _ ?_
    clear hK6
    refine wp_seq_k ?_; intro K7 hK7
    refine reg hF hS (sq rfl (q_ld_blk1 ty28 0 rfl rfl rfl rfl) <|
        sq rfl (q_call fn26 rfl (fun w hS => wgb_ct _ _ w (Sl.mono (hS.le zin0) hb)) (fun _ _ _ h => h)) <|
        sq rfl (q_move rfl) <|
        sq rfl (q_extract rfl rfl) <|
        sq rfl (q_extract rfl rfl) <|
        sq rfl (q_extract rfl rfl) <|
        sq rfl (q_assign rfl) <|
        sq rfl (q_assign rfl) <|
        sq rfl (q_assign rfl) <|
        sq_end) ?_
    clear hF hS; intro a w hF hS
    refine hK7 _ _ ?_
    clear hK7
    refine wp_seq_k ?_; intro K8 hK8
    refine regl ?_
    refine wpl_sq hF hS (sq rfl (q_ld_blk1 ty28 0 rfl rfl rfl rfl) <|
        sq_end) ?_
    clear hF hS; intro a w hF hS
    refine wpl_ef hF hS rfl (ef_call fn28 rfl (fun w hS => wgis_ct _ _ (by first | with_reducible assumption | omega) w (Sl.mono (hS.le zin0) hb))) ?_
    clear hF hS; rintro _ _ _ a w ⟨_, _, rfl, rfl, ⟨v3, z4, rfl, hz5, rfl, rfl⟩⟩ hF hS
    replace hS : St _ [_] [_] _ := hS
    refine wpl_sq hF hS (sq rfl (q_move rfl) <|
        sq rfl (q_extract rfl rfl) <|
        sq rfl (q_extract rfl rfl) <|
        sq rfl (q_extract rfl rfl) <|
        sq rfl (q_assign rfl) <|
        sq rfl (q_assign rfl) <|
        sq rfl (q_assign rfl) <|
        sq_end) ?_
    clear hF hS; intro a w hF hS
    refine wpList_nil ?_
    refine hK8 _ _ ?_
    clear hK8
    refine wp_seq_k ?_; intro K9 hK9
    refine regl ?_
    refine wpl_sq hF hS (sq rfl (q_ld_blk1 ty28 0 rfl rfl rfl rfl) <|
        sq_end) ?_
    clear hF hS; intro a w hF hS
    refine wpl_ef hF hS rfl (ef_call fn31 rfl (fun w hS => wgss_ct _ _ (by first | with_reducible assumption | omega) w (Sl.mono (hS.le zin0) hb))) ?_
    clear hF hS; rintro _ _ _ a w ⟨_, _, rfl, rfl, ⟨v7, z8, rfl, hz9, rfl, rfl⟩⟩ hF hS
    replace hS : St _ [_, _] [_] _ := hS
    refine wpl_sq hF hS (sq rfl (q_move rfl) <|
        sq rfl (q_extract rfl rfl) <|
        sq rfl (q_extract rfl rfl) <|
        sq rfl (q_extract rfl rfl) <|
        sq rfl (q_assign rfl) <|
        sq rfl (q_assign rfl) <|
        sq rfl (q_assign rfl) <|
        sq_end) ?_
    clear hF hS; intro a w hF hS
    refine wpList_nil ?_
    refine hK9 _ _ ?_
    clear hK9
    refine wp_seq_k ?_; intro K10 hK10
    refine regl ?_
    refine wpl_sq hF hS (sq rfl (q_ld_blk1 ty28 0 rfl rfl rfl rfl) <|
        sq_end) ?_
    clear hF hS; intro a w hF hS
    refine wpl_ef hF hS rfl (ef_call fn34 rfl (fun w hS => wgds_ct _ _ (by first | with_reducible assumption | omega) w (Sl.mono (hS.le zin0) hb))) ?_
    clear hF hS; rintro _ _ _ a w ⟨_, _, rfl, rfl, ⟨v11, z12, rfl, hz13, rfl, rfl⟩⟩ hF hS
    replace hS : St _ [_, _, _] [_] _ := hS
    refine wpl_sq hF hS (sq rfl (q_move rfl) <|
        sq rfl (q_extract rfl rfl) <|
        sq rfl (q_extract rfl rfl) <|
        sq rfl (q_extract rfl rfl) <|
        sq rfl (q_assign rfl) <|
        sq rfl (q_assign rfl) <|
        sq rfl (q_assign rfl) <|
        sq_end) ?_
    clear hF hS; intro a w hF hS
    refine wpList_nil ?_
    refine hK10 _ _ ?_
    clear hK10
    refine wp_seq_k ?_; intro K11 hK11
    refine regl ?_
    refine wpl_sq hF hS (sq rfl (q_call fn12 rfl (fun w hS => sanity_ct w ) (fun _ _ _ h => h)) <|
        sq rfl (q_move rfl) <|
        sq_go 55 rfl rfl rfl (q_move rfl) <|
        sq_go 55 rfl rfl rfl (q_move rfl) <|
        sq_end) ?_
    clear hF hS; intro a w hF hS
    refine wpl_efg hF hS (wanted_go 55 rfl rfl) rfl (ef_call fn14 rfl (fun w hS => wint_ct _ w )) ?_
    clear hF hS; rintro v14 _ _ a w ⟨_, _, rfl, rfl, rfl, rfl⟩ hF hS
    replace hS : St _ [_, _, _] [_, _] _ := hS
    refine wpl_sq hF hS (sq_go 55 rfl rfl rfl (q_move rfl) <|
        sq_go 55 rfl rfl rfl (q_move rfl) <|
        sq_go 55 rfl rfl rfl (q_callv fn37 rfl rfl (by exact fun w hS => is_ct _ _ _ _ _ _ _ _ (fun h9 => Wi.canon_int h9) w (own_slV (hS.own _ (List.mem_of_getElem? (i := 0) rfl)).1 (by simp) (by first | rfl | (simp; done) | (simp; omega) | omega) (by first | omega | (simp; omega))) (own_box hS 1 rfl) (Sl.mono (hS.le zin0) hb)) (fun _ _ _ h => h)) <|
        sq rfl (q_pick_t rfl rfl) <|
        sq rfl (q_move rfl) <|
        sq_go 63 rfl rfl rfl (q_move rfl) <|
        sq_go 63 rfl rfl rfl (q_move rfl) <|
        sq_end) ?_
    clear hF hS; intro a w hF hS
    refine wpl_efg hF hS (wanted_go 63 rfl rfl) rfl (ef_call fn16 rfl (fun w hS => wbytes_ct _ (by omega) w )) ?_
    clear hF hS; rintro v16 _ _ a w ⟨_, _, rfl, rfl, rfl, rfl⟩ hF hS
    replace hS : St _ [_, _, _] [_, _, _] _ := hS
    refine wpl_sq hF hS (sq_go 63 rfl rfl rfl (q_move rfl) <|
        sq_go 63 rfl rfl rfl (q_move rfl) <|
        sq_go 63 rfl rfl rfl (q_callv fn37 rfl rfl (by exact fun w hS => is_ct _ _ _ _ _ _ _ _ (fun h9 => Wi.canon_bytes h9) w (own_slV (hS.own _ (List.mem_of_getElem? (i := 0) rfl)).1 (by simp) (by first | rfl | (simp; done) | (simp; omega) | omega) (by first | omega | (simp; omega))) (own_box hS 2 rfl) (Sl.mono (hS.le zin0) hb)) (fun _ _ _ h => h)) <|
        sq rfl (q_pick_t rfl rfl) <|
        sq rfl (q_move rfl) <|
        sq_go 71 rfl rfl rfl (q_move rfl) <|
        sq_go 71 rfl rfl rfl (q_move rfl) <|
        sq_end) ?_
    clear hF hS; intro a w hF hS
    refine wpl_efg hF hS (wanted_go 71 rfl rfl) rfl (ef_call fn18 rfl (fun w hS => wints_ct _ _ (by omega) w (Sl.mono (hS.le (.inr (by simp))) hz5))) ?_
    clear hF hS; rintro v18 _ _ a w ⟨_, _, rfl, rfl, rfl, rfl⟩ hF hS
    replace hS : St _ [_, _, _] [_, _, _, _] _ := hS
    refine wpl_sq hF hS (sq_go 71 rfl rfl rfl (q_move rfl) <|
        sq_go 71 rfl rfl rfl (q_move rfl) <|
        sq_go 71 rfl rfl rfl (q_callv fn37 rfl rfl (by exact fun w hS => is_ct _ _ _ _ _ _ _ _ (fun h9 => Wi.canon_ints hbl h9) w (own_slV (hS.own _ (List.mem_of_getElem? (i := 0) rfl)).1 (by simp) (by first | rfl | (simp; done) | (simp; omega) | omega) (by first | omega | (simp; omega))) (own_box hS 3 rfl) (Sl.mono (hS.le zin0) hb)) (fun _ _ _ h => h)) <|
        sq rfl (q_pick_t rfl rfl) <|
        sq rfl (q_move rfl) <|
        sq_go 79 rfl rfl rfl (q_move rfl) <|
        sq_go 79 rfl rfl rfl (q_move rfl) <|
        sq_end) ?_
    clear hF hS; intro a w hF hS
    refine wpl_efg hF hS (wanted_go 79 rfl rfl) rfl (ef_call fn20 rfl (fun w hS => wstrs_ct _ _ (by omega) (fun p hp => by have h8 := hls.2 p hp; have h7 := Wi.by_le p; omega) w (Sl.mono (hS.le (.inr (by simp))) hz9))) ?_
    clear hF hS; rintro v20 _ _ a w ⟨_, _, rfl, rfl, rfl, rfl⟩ hF hS
    replace hS : St _ [_, _, _] [_, _, _, _, _] _ := hS
    refine wpl_sq hF hS (sq_go 79 rfl rfl rfl (q_move rfl) <|
        sq_go 79 rfl rfl rfl (q_move rfl) <|
        sq_go 79 rfl rfl rfl (q_callv fn37 rfl rfl (by exact fun w hS => is_ct _ _ _ _ _ _ _ _ (fun h9 => Wi.canon_strs hbl h9) w (own_slV (hS.own _ (List.mem_of_getElem? (i := 0) rfl)).1 (by simp) (by first | rfl | (simp; done) | (simp; omega) | omega) (by first | omega | (simp; omega))) (own_box hS 4 rfl) (Sl.mono (hS.le zin0) hb)) (fun _ _ _ h => h)) <|
        sq rfl (q_pick_t rfl rfl) <|
        sq rfl (q_move rfl) <|
        sq_go 87 rfl rfl rfl (q_move rfl) <|
        sq_go 87 rfl rfl rfl (q_move rfl) <|
        sq_end) ?_
    clear hF hS; intro a w hF hS
    refine wpl_efg hF hS (wanted_go 87 rfl rfl) rfl (ef_call fn22 rfl (fun w hS => wdigs_ct _ _ (by omega) w (Sl.mono (hS.le (.inr (by simp))) hz13))) ?_
    clear hF hS; rintro v22 _ _ a w ⟨_, _, rfl, rfl, rfl, rfl⟩ hF hS
    replace hS : St _ [_, _, _] [_, _, _, _, _, _] _ := hS
    refine wpl_sq hF hS (sq_go 87 rfl rfl rfl (q_move rfl) <|
        sq_go 87 rfl rfl rfl (q_move rfl) <|
        sq_go 87 rfl rfl rfl (q_callv fn37 rfl rfl (by exact fun w hS => is_ct _ _ _ _ _ _ _ _ (fun h9 => Wi.canon_digs hbl h9) w (own_slV (hS.own _ (List.mem_of_getElem? (i := 0) rfl)).1 (by simp) (by first | rfl | (simp; done) | (simp; omega) | omega) (by first | omega | (simp; omega))) (own_box hS 5 rfl) (Sl.mono (hS.le zin0) hb)) (fun _ _ _ h => h)) <|
        sq rfl (q_pick_t rfl rfl) <|
        sq rfl (q_assign rfl) <|
        sq_end) ?_
    clear hF hS; intro a w hF hS
    refine wpList_nil ?_
    refine hK11 _ _ ?_
    clear hK11
    refine wp_ret ?_
    exact fn_ret (rs := [.tmp 2]) rfl hF hS (vs := [_]) ⟨rfl, trivial⟩ (List.nil_sublist _) (List.nil_sublist _) (rfl)

set_option maxHeartbeats 2000000 in
theorem law15_ct (s : List UInt8) (hs : s.length ≤ 140737488355328) (v : Value) (l : List Int) (w : World) (hb : Sl encI (ph w) v l) : Ct Try.prog 10 [vs s, v] w (fun r _ _ => r = .bool true) := by
  refine fn_enter Try.func10 rfl Try.ntmps10 (Nat.le_of_ble_eq_true rfl) fun a hF hS => ?_
  have hbl := hb.1
  refine wp_seq_k ?_; intro K1 hK1
  refine reg hF hS (sq rfl (q_assign rfl) <|
      sq_end) ?_
  clear hF hS; intro a w hF hS
  refine hK1 _ _ ?_
  clear hK1
  refine wp_seq_k ?_; intro K2 hK2
  refine wp_seq_k ?_; intro K3 hK3
  refine reg hF hS (sq rfl (q_move rfl) <|
      sq rfl (q_len_s ty9 rfl) <|
      sq rfl (q_move rfl) <|
      sq rfl (q_len_sl ty22 hb rfl) <|
      sq rfl (q_addi rfl rfl (by omega)) <|
      sq rfl (q_gti rfl rfl) <|
      sq_end) ?_
  clear hF hS; intro a w hF hS
  refine hK3 _ _ ?_
  clear hK3
  refine wp_ifd hF rfl (fun hc1 => ?_) (fun hc1 => ?_)
  · refine wp_seq_k ?_; intro K4 hK4
    refine reg hF hS (sq rfl (q_call fn12 rfl (fun w hS => sanity_ct w ) (fun _ _ _ h => h)) <|
        sq rfl (q_assign rfl) <|
        sq_end) ?_
    clear hF hS; intro a w hF hS
    refine hK4 _ _ ?_
    clear hK4
    refine wp_ret ?_
    exact fn_ret (rs := [.tmp 4]) rfl hF hS (vs := [_]) ⟨rfl, trivial⟩ (List.nil_sublist _) (List.nil_sublist _) (rfl)
  · have hl2 : l.length ≤ 2000 := by omega
    have hbs := Wi.bytes_len s
    have hil := Wi.ints_len2 l
    have hrg : ∀ x ∈ l, -9223372036854775808 ≤ x ∧ x ≤ 9223372036854775807 := fun x hx => by obtain ⟨i, hi, rfl⟩ := List.mem_iff_getElem.1 hx; exact (hb.rep (i := i) (x := l[i]) (by simp [hi])).2
    have hgb : Wi.getBytes (Wi.bytes s ++ Wi.ints l) = (s, ((Wi.bytes s).length : Int), 0) := Wi.codec_bytes.rt s _ (by omega)
    have hxl : (Wi.bytes s ++ Wi.ints l).length = (Wi.bytes s).length + (Wi.ints l).length := List.length_append
    have hg1 : (Wi.getBytes (Wi.bytes s ++ Wi.ints l)).2.1 = ((Wi.bytes s).length : Int) := by rw [hgb]
    have hdr : List.drop (Wi.getBytes (Wi.bytes s ++ Wi.ints l)).2.1.toNat (List.take (Wi.bytes s ++ Wi.ints l).length (Wi.bytes s ++ Wi.ints l)) = Wi.ints l := by rw [hg1, List.take_length, Int.toNat_natCast, List.drop_left' rfl]
    have hgi : Wi.getList Wi.getInt (List.drop (Wi.getBytes (Wi.bytes s ++ Wi.ints l)).2.1.toNat (List.take (Wi.bytes s ++ Wi.ints l).length (Wi.bytes s ++ Wi.ints l))) = (l, ((Wi.ints l).length : Int), 0) := by rw [hdr]; exact Wi.ints_rt l (by omega) hrg
    have hgi1 : (Wi.getList Wi.getInt (List.drop (Wi.getBytes (Wi.bytes s ++ Wi.ints l)).2.1.toNat (List.take (Wi.bytes s ++ Wi.ints l).length (Wi.bytes s ++ Wi.ints l)))).2.1 = ((Wi.ints l).length : Int) := by rw [hgi]
    refine wp_skip ?_
    refine hK2 _ _ ?_
    clear hK2
    refine wp_seq_k ?_; intro K5 hK5
    refine regl ?_
    refine wpl_ef hF hS rfl (ef_bslice0 ty28 ty5) ?_
    clear hF hS; rintro v1 _ _ a w ⟨rfl, rfl⟩ hF hS
    replace hS : St _ [] [_] _ := hS
    refine wpl_sq hF hS (sq rfl (q_move rfl) <|
        sq_end) ?_
    clear hF hS; intro a w hF hS
    refine wpl_ef hF hS rfl (ef_call fn16 rfl (fun w hS => wbytes_ct _ (by first | assumption | omega) w )) ?_
    clear hF hS; rintro v3 _ _ a w ⟨_, _, rfl, rfl, rfl, rfl⟩ hF hS
    replace hS : St _ [] [_, _] _ := hS
    refine wpl_ef hF hS rfl (ef_append ty28 ty5 1 rfl rfl rfl (src_row ty28 (k := 0) rfl (by first | ((repeat first | ((with_reducible refine oc_map ?_); intro _; rfl) | (with_reducible refine oc_app ?_ ?_) | ((with_reducible refine oc_cons ?_ ?_); rfl) | (with_reducible exact oc_nil) | ((with_reducible refine oc_rep ?_); rfl)); done) | (simp [Value.oneCell']; done) | (simp; decide))) (by first | omega | (rw [List.length_map]; omega) | (simp; omega) | (simp [*]; done) | decide | (simp [*]; omega)) rfl (by decide)) ?_
    clear hF hS; rintro v5 _ _ a w ⟨rfl, rfl⟩ hF hS
    replace hS : St _ [] [_, _] _ := hS
    refine wpl_sq hF hS (sq rfl (q_move rfl) <|
        sq_end) ?_
    clear hF hS; intro a w hF hS
    refine wpl_ef hF hS rfl (ef_call fn18 rfl (fun w hS => wints_ct _ _ (by first | with_reducible assumption | omega) w (Sl.mono (hS.le zin0) hb))) ?_
    clear hF hS; rintro v6 _ _ a w ⟨_, _, rfl, rfl, rfl, rfl⟩ hF hS
    replace hS : St _ [] [_, _, _] _ := hS
    refine wpl_ef hF hS rfl (ef_append ty28 ty5 2 rfl rfl rfl (src_row ty28 (k := 0) rfl (by first | ((repeat first | ((with_reducible refine oc_map ?_); intro _; rfl) | (with_reducible refine oc_app ?_ ?_) | ((with_reducible refine oc_cons ?_ ?_); rfl) | (with_reducible exact oc_nil) | ((with_reducible refine oc_rep ?_); rfl)); done) | (simp [Value.oneCell']; done) | (simp; decide))) (by first | omega | (rw [List.length_map]; omega) | (simp; omega) | (simp [*]; done) | decide | (simp [*]; omega)) rfl (by decide)) ?_
    clear hF hS; rintro v8 _ _ a w ⟨rfl, rfl⟩ hF hS
    replace hS : St _ [] [_, _, _] _ := hS
    refine wpl_sq hF hS (sq rfl (q_assign rfl) <|
        sq_end) ?_
    clear hF hS; intro a w hF hS
    refine wpList_nil ?_
    rw [List.nil_append, ← List.map_append] at hS
    replace hS := hS.perm (.cons _ (.swap _ _ _))
    replace hS := hS.perm (.swap _ _ _)
    obtain ⟨z9, hz10, hS⟩ := St.freezeB hS (by first | rfl | (simp; done) | (simp; omega)) (by first | omega | (rw [List.length_map]; omega) | (simp; omega) | (simp [*]; done) | decide | (simp [*]; omega))
    replace hS : St _ [_] [_, _] _ := hS
    refine hK5 _ _ ?_
    clear hK5
    refine wp_seq_k ?_; intro K6 hK6
    refine reg hF hS (sq rfl (q_move rfl) <|
        sq rfl (q_call fn26 rfl (fun w hS => wgb_ct _ _ w (Sl.mono (hS.le (.inr (by simp))) hz10)) (fun _ _ _ h => h)) <|
        sq rfl (q_move rfl) <|
        sq rfl (q_extract rfl rfl) <|
        sq rfl (q_extract rfl rfl) <|
        sq rfl (q_extract rfl rfl) <|
        sq rfl (q_assign rfl) <|
        sq rfl (q_assign rfl) <|
        sq rfl (q_assign rfl) <|
        sq_end) ?_
    clear hF hS; intro a w hF hS
    refine hK6 _ _ ?_
    clear hK6
    refine wp_seq_k ?_; intro K7 hK7
    refine wp_seq_k ?_; intro K8 hK8
    refine reg hF hS (sq rfl (q_move rfl) <|
        sq rfl (q_nf (q_nei rfl rfl) (by rw [hgb])) <|
        sq rfl (q_move rfl) <|
        sq_go 34 rfl rfl rfl (q_move rfl) <|
        sq_go 34 rfl rfl rfl (q_df (q_lti rfl rfl) (by omega)) <|
        sq rfl (q_pick_f rfl rfl) <|
        sq rfl (q_move rfl) <|
        sq_go 38 rfl rfl rfl (q_move rfl) <|
        sq_go 38 rfl rfl rfl (q_move rfl) <|
        sq_go 38 rfl rfl rfl (q_len_sl ty28 hz10 rfl) <|
        sq_go 38 rfl rfl rfl (q_df (q_gti rfl rfl) (by omega)) <|
        sq rfl (q_pick_f rfl rfl) <|
        sq_end) ?_
    clear hF hS; intro a w hF hS
    refine hK8 _ _ ?_
    clear hK8
    refine wp_if hF rfl (fun h => absurd h (by simp)) (fun _ => ?_)
    refine wp_skip ?_
    refine hK7 _ _ ?_
    clear hK7
    refine wp_seq_k ?_; intro K9 hK9
    refine regl ?_
    refine wpl_sq hF hS (sq rfl (q_move rfl) <|
        sq rfl (q_move rfl) <|
        sq rfl (q_slsl_lo ty28 ty5 hz10 rfl rfl (by omega)) <|
        sq_end) ?_
    clear hF hS; intro a w hF hS
    refine wpl_ef hF hS rfl (ef_call fn28 rfl (fun w hS => wgis_ct _ _ (by rw [List.length_drop, List.length_take]; omega) w (Sl.mono (hS.le (.inr (by simp))) (Sl.cut hz10 (by omega))))) ?_
    clear hF hS; rintro _ _ _ a w ⟨_, _, rfl, rfl, ⟨v12, z13, rfl, hz14, rfl, rfl⟩⟩ hF hS
    replace hS : St _ [_, _] [_, _] _ := hS
    refine wpl_sq hF hS (sq rfl (q_move rfl) <|
        sq rfl (q_extract rfl rfl) <|
        sq rfl (q_extract rfl rfl) <|
        sq rfl (q_extract rfl rfl) <|
        sq rfl (q_assign rfl) <|
        sq rfl (q_assign rfl) <|
        sq rfl (q_assign rfl) <|
        sq_end) ?_
    clear hF hS; intro a w hF hS
    refine wpList_nil ?_
    refine hK9 _ _ ?_
    clear hK9
    refine wp_seq_k ?_; intro K10 hK10
    refine reg hF hS (sq rfl (q_call fn12 rfl (fun w hS => sanity_ct w ) (fun _ _ _ h => h)) <|
        sq rfl (q_move rfl) <|
        sq_go 53 rfl rfl rfl (q_move rfl) <|
        sq_go 53 rfl rfl rfl (q_move rfl) <|
        sq_go 53 rfl rfl rfl (q_dt (q_eqs rfl rfl) (by rw [hgb])) <|
        sq rfl (q_pick_t rfl rfl) <|
        sq rfl (q_move rfl) <|
        sq_go 58 rfl rfl rfl (q_move rfl) <|
        sq_go 58 rfl rfl rfl (q_move rfl) <|
        sq_go 58 rfl rfl rfl (q_dt (q_call fn30 rfl (fun w hS => samei_ct _ _ _ _ w (Sl.mono (hS.le (.inr (by simp))) hz14) (Sl.mono (hS.le zin0) hb)) (fun _ _ _ h => h)) (by rw [hgi])) <|
        sq rfl (q_pick_t rfl rfl) <|
        sq rfl (q_move rfl) <|
        sq_go 63 rfl rfl rfl (q_move rfl) <|
        sq_go 63 rfl rfl rfl (q_dt (q_eqi rfl rfl) (by rw [hgi])) <|
        sq rfl (q_pick_t rfl rfl) <|
        sq rfl (q_move rfl) <|
        sq_go 67 rfl rfl rfl (q_move rfl) <|
        sq_go 67 rfl rfl rfl (q_move rfl) <|
        sq_go 67 rfl rfl rfl (q_addi rfl rfl (by omega)) <|
        sq_go 67 rfl rfl rfl (q_move rfl) <|
        sq_go 67 rfl rfl rfl (q_len_sl ty28 hz10 rfl) <|
        sq_go 67 rfl rfl rfl (q_dt (q_eqi rfl rfl) (by rw [hgi, hgb, hxl]; dsimp only; omega)) <|
        sq rfl (q_pick_t rfl rfl) <|
        sq rfl (q_assign rfl) <|
        sq_end) ?_
    clear hF hS; intro a w hF hS
    refine hK10 _ _ ?_
    clear hK10
    refine wp_ret ?_
    exact fn_ret (rs := [.tmp 4]) rfl hF hS (vs := [_]) ⟨rfl, trivial⟩ (List.nil_sublist _) (List.nil_sublist _) (rfl)
end Go.Proofs.Ytcolgcdnpfpcdaa
