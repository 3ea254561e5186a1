/- A text of a proof over this seat: walks over the program's functions and the plain laws that they need. -/
import Derived.Test.YtcolgcdnpfpcdaaVw4
import Derived.Test.YtcolgcdnpfpcdaaWi6
set_option linter.all false
namespace Go.Proofs.Ytcolgcdnpfpcdaa
open Go.Fw
theorem fn26 : FnOk Try.prog 26 := ⟨_, Try.func26, rfl, by kernel_rfl⟩
theorem fn27 : FnOk Try.prog 27 := ⟨_, Try.func27, rfl, by kernel_rfl⟩
theorem fn40 : FnOk Try.prog 40 := ⟨_, Try.func40, rfl, by kernel_rfl⟩
theorem fn41 : FnOk Try.prog 41 := ⟨_, Try.func41, rfl, by kernel_rfl⟩

attribute [local irreducible] Wi.int Wi.bytes Wi.ints Wi.strs Wi.dgs Ls.encT Wi.getInt Wi.valBE Wi.vj Wi.cnt Wi.wcnt Wi.getBytes Wi.run Wi.getList

set_option maxHeartbeats 2000000 in
theorem reader_ct (v : Value) (hv : v.oneCell' = true) (at_ : Int) (w : World) : Ct Try.prog 40 [v, vi at_] w (fun r zs hs => ∃ b1 b2, r = .func (.func 41) (List.nil : List Value).toArray [Value.pointer (some ⟨b1, 0, none⟩), Value.pointer (some ⟨b2, 0, none⟩)].toArray ∧ zs = [] ∧ hs = [.blk b2 3 [vi at_], .blk b1 28 [v]]) := by
  refine fn_enter Try.func40 rfl Try.ntmps40 (Nat.le_of_ble_eq_true rfl) fun a hF hS => ?_
  refine wp_seq_k ?_; intro K1 hK1
  refine regl ?_
  refine wpl_ef hF hS rfl (ef_box1 rfl hv) ?_
  clear hF hS; rintro _ _ _ a w ⟨b1, rfl, rfl, rfl⟩ hF hS
  refine wpl_ef hF hS rfl (ef_box1 rfl rfl) ?_
  clear hF hS; rintro _ _ _ a w ⟨b2, rfl, rfl, rfl⟩ hF hS
  refine wpl_sq hF hS (sq rfl (q_assign rfl) <|
      sq_end) ?_
  clear hF hS; intro a w hF hS
  refine wpList_nil ?_
  refine hK1 _ _ ?_
  clear hK1
  refine wp_seq_k ?_; intro K2 hK2
  refine reg hF hS (sq rfl (q_mkf rfl rfl) <|
      sq rfl (q_assign rfl) <|
      sq_end) ?_
  clear hF hS; intro a w hF hS
  refine hK2 _ _ ?_
  clear hK2
  refine wp_ret ?_
  exact fn_ret (rs := [.tmp 4]) rfl hF hS (vs := [_]) ⟨rfl, trivial⟩ (List.Sublist.refl _) (List.Sublist.refl _) ⟨_, _, rfl, rfl, rfl⟩

set_option maxHeartbeats 2000000 in
theorem reader1_ct (b1 b2 : Nat) (v : Value) (xs : List UInt8) (at_ : Int) (z : PH) (w0 : World) (zsr : List PH) (hz : ZIn w0 zsr z) (hb : Sl encB z v xs) (ha : 0 ≤ at_ ∧ at_ ≤ xs.length) : Cx Try.prog 41 [.pointer (some ⟨b1, 0, none⟩), .pointer (some ⟨b2, 0, none⟩)] w0 zsr [.blk b1 28 [v], .blk b2 3 [vi at_]] (fun r zs1 hs1 => r = .tuple [vi ((Wi.getInt (xs.drop at_.toNat))).1, vi (at_ + ((Wi.getInt (xs.drop at_.toNat))).2.1), vi ((Wi.getInt (xs.drop at_.toNat))).2.2].toArray ∧ zs1 = [] ∧ hs1 = [.blk b1 28 [v], .blk b2 3 [vi (at_ + (Wi.getInt (xs.drop at_.toNat)).2.1)]]) := by
  refine fn_enterx Try.func41 rfl Try.ntmps41 (Nat.le_of_ble_eq_true rfl) fun hsr a w hF hS => ?_
  replace hS : St _ (_) (_ :: _ :: _) _ := hS
  have hbl := hb.1
  have hgd := Wi.getInt_bd (xs.drop at_.toNat)
  rw [List.length_drop] at hgd
  refine wp_seq_k ?_; intro K1 hK1
  refine reg hF hS (sq rfl (q_assign rfl) <|
      sq rfl (q_assign rfl) <|
      sq rfl (q_assign rfl) <|
      sq_end) ?_
  clear hF hS; intro a w hF hS
  refine hK1 _ _ ?_
  clear hK1
  refine wp_seq_k ?_; intro K2 hK2
  refine reg hF hS (sq rfl (q_ld_blk1 ty28 0 rfl rfl rfl rfl) <|
      sq rfl (q_ld_blk1 ty3 1 rfl rfl rfl rfl) <|
      sq rfl (q_slsl_lo ty28 ty5 hb rfl rfl (by omega)) <|
      sq rfl (q_call fn24 rfl (fun w hS => wgi_ct _ _ w (Sl.mono (hS.le hz) (Sl.cut hb (by omega)))) (fun _ _ _ h => h)) <|
      sq rfl (q_move rfl) <|
      sq rfl (q_extract rfl rfl) <|
      sq rfl (q_extract rfl rfl) <|
      sq rfl (q_extract rfl rfl) <|
      sq rfl (q_assign rfl) <|
      sq rfl (q_assign rfl) <|
      sq rfl (q_assign rfl) <|
      sq_end) ?_
  clear hF hS; intro a w hF hS
  simp only [List.take_length] at hF
  refine hK2 _ _ ?_
  clear hK2
  refine wp_seq_k ?_; intro K3 hK3
  refine regl ?_
  refine wpl_sq hF hS (sq rfl (q_ld_blk1 ty3 1 rfl rfl rfl rfl) <|
      sq rfl (q_move rfl) <|
      sq rfl (q_addi rfl rfl (by omega)) <|
      sq_end) ?_
  clear hF hS; intro a w hF hS
  refine wpl_ef hF hS rfl (ef_store1 ty3 1 rfl rfl rfl rfl (by simp)) ?_
  clear hF hS; rintro _ _ _ a w ⟨rfl, rfl, rfl⟩ hF hS
  (try simp only [List.set_cons_zero, List.set_cons_succ] at hS)
  replace hS : St _ (_) (_ :: _ :: _) _ := hS
  refine wpList_nil ?_
  refine hK3 _ _ ?_
  clear hK3
  refine wp_seq_k ?_; intro K4 hK4
  refine regd mixed (by kernel_rfl) hF hS (sq rfl (q_move rfl) <|
      sq rfl (q_ld_blk1 ty3 1 rfl rfl rfl rfl) <|
      sq rfl (q_move rfl) <|
      sq rfl (q_assign rfl) <|
      sq rfl (q_assign rfl) <|
      sq rfl (q_assign rfl) <|
      sq_end) ?_
  clear hF hS; intro a w hF hS
  refine hK4 _ _ ?_
  clear hK4
  refine wp_ret ?_
  exact fn_retx (rs := [.tmp 2, .tmp 3, .tmp 4]) rfl hF hS (vs := [_, _, _]) ⟨rfl, rfl, rfl, trivial⟩ [] [_, _] (List.Sublist.refl _) (List.Sublist.refl _) ⟨rfl, rfl, rfl⟩

theorem run_0 {α : Type} (dec : List UInt8 → α × Int × Int) (b : List UInt8) (at0 : Int) : Wi.run dec b at0 0 = ([], at0, 0) := by unfold Wi.run; rfl

theorem sl_one {α : Type} {E : Enc α} {z : PH} {v : Value} {xs : List α} (h : Sl E z v xs) : v.oneCell' = true := by obtain ⟨_, a, c, rfl, _⟩ := h; rfl

set_option maxHeartbeats 2000000 in
theorem wgis_ct (v : Value) (xs : List UInt8) (hx : xs.length < 1099511627776) (w : World) (hb : Sl encB (ph w) v xs) : Ct Try.prog 28 [v] w (LsR encI (Wi.getList Wi.getInt xs)) := by
  refine fn_enter Try.func28 rfl Try.ntmps28 (Nat.le_of_ble_eq_true rfl) fun a hF hS => ?_
  have hbl := hb.1
  refine wp_seq_k ?_; intro K1 hK1
  refine reg hF hS (sq rfl (q_assign rfl) <|
      sq rfl (q_assign rfl) <|
      sq rfl (q_assign rfl) <|
      sq_end) ?_
  clear hF hS; intro a w hF hS
  refine hK1 _ _ ?_
  clear hK1
  refine wp_seq_k ?_; intro K2 hK2
  refine reg hF hS (sq rfl (q_move rfl) <|
      sq rfl (q_call fn38 rfl (fun w hS => wcount_ct _ _ 1 (by omega) w (Sl.mono (hS.le zin0) hb)) (fun _ _ _ h => h)) <|
      sq rfl (q_move rfl) <|
      sq rfl (q_extract rfl rfl) <|
      sq rfl (q_extract rfl rfl) <|
      sq rfl (q_extract rfl rfl) <|
      sq rfl (q_assign rfl) <|
      sq rfl (q_assign rfl) <|
      sq rfl (q_assign rfl) <|
      sq_end) ?_
  clear hF hS; intro a w hF hS
  refine hK2 _ _ ?_
  clear hK2
  refine wp_seq_k ?_; intro K3 hK3
  refine wp_seq_k ?_; intro K4 hK4
  refine reg hF hS (sq rfl (q_move rfl) <|
      sq rfl (q_nei rfl rfl) <|
      sq_end) ?_
  clear hF hS; intro a w hF hS
  refine hK4 _ _ ?_
  clear hK4
  refine wp_ifn hF rfl (fun hc1 => ?_) (fun hc1 => ?_)
  · refine wp_seq_k ?_; intro K5 hK5
    refine reg hF hS (sq rfl (q_move rfl) <|
        sq rfl (q_assign rfl) <|
        sq rfl (q_assign rfl) <|
        sq rfl (q_assign rfl) <|
        sq_end) ?_
    clear hF hS; intro a w hF hS
    refine hK5 _ _ ?_
    clear hK5
    refine wp_ret ?_
    replace hS := hS.zone0
    exact fn_ret (rs := [.tmp 2, .tmp 3, .tmp 4]) rfl hF hS (vs := [_, _, _]) ⟨rfl, rfl, rfl, trivial⟩ (zs' := [fun _ => none]) (hs' := []) ((List.nil_sublist _).cons_cons _) (List.nil_sublist _) (ret_nil (by rw [(Wi.wcnt_cnt 1 (by decide) xs).1]; exact Wi.getList_err (by rw [← (Wi.wcnt_cnt 1 (by decide) xs).1]; exact hc1)))
  · have hc1 : (Wi.wcnt 1 xs).2.2 = 0 := by omega
    obtain ⟨hk0, hk1, hk2, hk3⟩ := Wi.wcnt_ok (s := 1) (by decide) hc1
    simp only [hk0] at hF hc1 hk1 hk2 hk3
    refine wp_skip ?_
    refine hK3 _ _ ?_
    clear hK3
    refine wp_seq_k ?_; intro K6 hK6
    refine regl ?_
    refine wpl_sq hF hS (sq rfl (q_move rfl) <|
        sq rfl (q_move rfl) <|
        sq_end) ?_
    clear hF hS; intro a w hF hS
    refine wpl_ef hF hS rfl (ef_call fn40 rfl (fun w hS => reader_ct _ (sl_one hb) _ w )) ?_
    clear hF hS; rintro _ _ _ a w ⟨_, _, rfl, rfl, ⟨p2, q3, rfl, rfl, rfl⟩⟩ hF hS
    replace hS : St _ [] [_, _] _ := hS
    refine wpl_sq hF hS (sq rfl (q_assign rfl) <|
        sq_end) ?_
    clear hF hS; intro a w hF hS
    refine wpList_nil ?_
    refine hK6 _ _ ?_
    clear hK6
    refine wp_seq_k ?_; intro K7 hK7
    refine reg hF hS (sq rfl (q_assign rfl) <|
        sq_end) ?_
    clear hF hS; intro a w hF hS
    replace hS := hS.nilRow 3 1
    refine hK7 _ _ ?_
    clear hK7
    refine wp_seq_k ?_; intro K8 hK8
    refine wp_seq_k ?_; intro K9 hK9
    refine reg hF hS (sq rfl (q_move rfl) <|
        sq rfl (q_move rfl) <|
        sq_end) ?_
    clear hF hS; intro a w hF hS
    refine hK9 _ _ ?_
    clear hK9
    refine wp_block ?_
    obtain ⟨hs0, hhs0, hS⟩ : ∃ h, h = _ ∧ St _ _ h _ := ⟨_, rfl, hS⟩
    refine wp_loopx (γ := Value × List (Int) × Int × Int) ((Value.slice none 0 0), [], (Wi.cnt 1 xs).2.1, 0) (fun (gg : Value × List (Int) × Int × Int) => match gg with | (u, acc, at_, j) => [(9, u), (6, vi at_), (26, vi j)]) [(8, _), (25, _)] (fun (gg : Value × List (Int) × Int × Int) => match gg with | (u, acc, at_, j) => ((hs0.set 0 (.row u 3 1 acc.length (acc.map vi))).set 1 (.blk q3 3 [vi at_]))) (fun (gg : Value × List (Int) × Int × Int) => match gg with | (u, acc, at_, j) => 0 ≤ j ∧ j ≤ (Wi.cnt 1 xs).1 ∧ Wi.run Wi.getInt xs (Wi.cnt 1 xs).2.1 j.toNat = (acc, at_, 0) ∧ 0 ≤ at_ ∧ at_ ≤ xs.length ∧ (acc.length : Int) = j) (fun (gg : Value × List (Int) × Int × Int) => match gg with | (u, acc, at_, j) => ((Wi.cnt 1 xs).1 - j).toNat) (hF.sub ⟨rfl, rfl, rfl, rfl, rfl, trivial⟩) (by subst hhs0; exact hS) (by exact ⟨Int.le_refl _, by omega, by rw [show (0 : Int).toNat = 0 from rfl]; exact run_0 _ _ _, by omega, by omega, rfl⟩) ?_
    clear hF hS; rintro ⟨u, acc, at_, j⟩ a w hfact hF hS
    subst hhs0; (try dsimp only at hfact); (try dsimp only at hF); (try dsimp only at hS)
    obtain ⟨hj0, hj1, hrun, ha0, ha1, hal⟩ := hfact
    replace hS : St _ [] [_, _, _] _ := hS
    have hgd := Wi.getInt_bd (xs.drop at_.toNat)
    rw [List.length_drop] at hgd
    refine wp_seq_k ?_; intro K10 hK10
    refine reg hF hS (sq rfl (q_lti rfl rfl) <|
        sq_end) ?_
    clear hF hS; intro a w hF hS
    refine hK10 _ _ ?_
    clear hK10
    refine wp_seq_k ?_; intro K11 hK11
    refine wp_ifd hF rfl (fun hc2 => ?_) (fun hc2 => ?_)
    · refine wp_skip ?_
      refine hK11 _ _ ?_
      clear hK11
      refine wp_seq_k ?_; intro K12 hK12
      refine wp_block ?_
      refine wp_seq_k ?_; intro K13 hK13
      refine regl ?_
      refine wpl_sq hF hS (sq rfl (q_move rfl) <|
          sq_end) ?_
      clear hF hS; intro a w hF hS
      replace hS := hS.perm (.cons _ (.swap _ _ _))
      replace hS := hS.perm (.swap _ _ _)
      replace hS := hS.perm (.cons _ (.swap _ _ _))
      replace hS : St _ [] [_, _, _] _ := hS
      refine wpl_ef hF hS rfl (ef_callvx fn41 rfl rfl (List.Perm.refl _) (by exact (reader1_ct _ _ _ _ _ _ _ _ zin0 hb ⟨by omega, by omega⟩ ))) ?_
      clear hF hS; rintro _ _ _ a w ⟨_, _, rfl, rfl, ⟨rfl, rfl, rfl⟩⟩ hF hS
      replace hS : St _ [] [_, _, _] _ := hS
      refine wpl_sq hF hS (sq rfl (q_move rfl) <|
          sq rfl (q_extract rfl rfl) <|
          sq rfl (q_extract rfl rfl) <|
          sq rfl (q_extract rfl rfl) <|
          sq rfl (q_assign rfl) <|
          sq rfl (q_assign rfl) <|
          sq rfl (q_assign rfl) <|
          sq_end) ?_
      clear hF hS; intro a w hF hS
      refine wpList_nil ?_
      refine hK13 _ _ ?_
      clear hK13
      refine wp_seq_k ?_; intro K14 hK14
      refine wp_seq_k ?_; intro K15 hK15
      refine reg hF hS (sq rfl (q_move rfl) <|
          sq rfl (q_nei rfl rfl) <|
          sq_end) ?_
      clear hF hS; intro a w hF hS
      refine hK15 _ _ ?_
      clear hK15
      refine wp_ifn hF rfl (fun hc3 => ?_) (fun hc3 => ?_)
      · refine wp_seq_k ?_; intro K16 hK16
        refine reg hF hS (sq rfl (q_move rfl) <|
            sq rfl (q_assign rfl) <|
            sq rfl (q_assign rfl) <|
            sq rfl (q_assign rfl) <|
            sq_end) ?_
        clear hF hS; intro a w hF hS
        refine hK16 _ _ ?_
        clear hK16
        refine wp_ret ?_
        replace hS := hS.zone0
        exact fn_ret (rs := [.tmp 2, .tmp 3, .tmp 4]) rfl hF hS (vs := [_, _, _]) ⟨rfl, rfl, rfl, trivial⟩ (zs' := [fun _ => none]) (hs' := []) ((List.nil_sublist _).cons_cons _) (List.nil_sublist _) (ret_nil (Wi.getList_stop hc1 hj0 hrun hc3 (by omega)))
      · have hc3 : (Wi.getInt (xs.drop at_.toNat)).2.2 = 0 := by omega
        have hps := Wi.getInt_pos hc3
        rw [List.length_drop] at hps
        refine wp_skip ?_
        refine hK14 _ _ ?_
        clear hK14
        refine regl ?_
        refine wpl_sq hF hS (sq rfl (q_move rfl) <|
            sq rfl (q_move rfl) <|
            sq_end) ?_
        clear hF hS; intro a w hF hS
        refine wpl_ef hF hS rfl (ef_bsliceA ty22 ty3 rfl rfl (by first | ((repeat first | ((with_reducible refine oc_map ?_); intro _; rfl) | (with_reducible refine oc_app ?_ ?_) | ((with_reducible refine oc_cons ?_ ?_); rfl) | (with_reducible exact oc_nil) | ((with_reducible refine oc_rep ?_); rfl)); done) | (simp [Value.oneCell']; done) | (simp; decide)) (by decide) rfl rfl) ?_
        clear hF hS; rintro v6 _ _ a w ⟨rfl, rfl⟩ hF hS
        replace hS : St _ [] [_, _, _, _] _ := hS
        refine wpl_ef hF hS rfl (ef_append ty22 ty3 3 rfl rfl rfl (src_row ty22 (k := 0) rfl (by first | ((repeat first | ((with_reducible refine oc_map ?_); intro _; rfl) | (with_reducible refine oc_app ?_ ?_) | ((with_reducible refine oc_cons ?_ ?_); rfl) | (with_reducible exact oc_nil) | ((with_reducible refine oc_rep ?_); rfl)); done) | (simp [Value.oneCell']; done) | (simp; decide))) (by first | omega | (rw [List.length_map]; omega) | (simp; omega) | (simp [*]; done) | decide | (simp [*]; omega)) rfl (by decide)) ?_
        clear hF hS; rintro v8 _ _ a w ⟨rfl, rfl⟩ hF hS
        replace hS : St _ [] [_, _, _, _] _ := hS
        refine wpl_sq hF hS (sq rfl (q_move rfl) <|
            sq rfl (q_assign rfl) <|
            sq rfl (q_assign rfl) <|
            sq_end) ?_
        clear hF hS; intro a w hF hS
        refine wpList_nil ?_
        refine hK12 _ _ ?_
        clear hK12
        refine reg hF hS (sq rfl (q_addi rfl rfl (by omega)) <|
            sq rfl (q_move rfl) <|
            sq_end) ?_
        clear hF hS; intro a w hF hS
        replace hS := hS.perm (.cons _ (.cons _ (.swap _ _ _)))
        replace hS := hS.perm (.cons _ (.swap _ _ _))
        replace hS := hS.perm (.swap _ _ _)
        replace hS := hS.perm (.cons _ (.cons _ (.swap _ _ _)))
        replace hS := hS.perm (.cons _ (.swap _ _ _))
        replace hS := hS.perm (.cons _ (.cons _ (.swap _ _ _)))
        replace hS := hS.keep (List.nil_sublist _) ((((List.nil_sublist _).cons_cons _).cons_cons _).cons_cons _)
        refine ⟨(v8, acc ++ [(Wi.getInt (xs.drop at_.toNat)).1], at_ + (Wi.getInt (xs.drop at_.toNat)).2.1, j + 1), ?_, ?_, hF.sub ⟨rfl, rfl, rfl, rfl, rfl, trivial⟩, ?_⟩
        · (try dsimp only); omega
        · refine ⟨by omega, by omega, ?_, by omega, by omega, by simp; omega⟩
          rw [show (j + 1).toNat = j.toNat + 1 by omega]
          exact Wi.run_next hrun hc3
        · have e : acc.map vi ++ [vi (Wi.getInt (xs.drop at_.toNat)).1] = (acc ++ [(Wi.getInt (xs.drop at_.toNat)).1]).map vi := by rw [List.map_append]; rfl
          have e2 : acc.length + 1 = (acc ++ [(Wi.getInt (xs.drop at_.toNat)).1]).length := by simp
          rw [e, e2] at hS
          exact hS
    · refine wp_exit ?_
      refine hK8 _ _ ?_
      clear hK8
      refine wp_seq_k ?_; intro K17 hK17
      refine reg hF hS (sq rfl (q_move rfl) <|
          sq rfl (q_move rfl) <|
          sq rfl (q_assign rfl) <|
          sq rfl (q_assign rfl) <|
          sq rfl (q_assign rfl) <|
          sq_end) ?_
      clear hF hS; intro a w hF hS
      refine hK17 _ _ ?_
      clear hK17
      refine wp_ret ?_
      have hrr := Wi.run_range Wi.codec_int ⟨by omega, by omega⟩ hrun
      obtain ⟨z, hz1, hS⟩ := St.freezeV (f := vi) (p := fun x => -9223372036854775808 ≤ x ∧ x ≤ 9223372036854775807) hS rfl (by omega) (fun x hx => hrr.2 x hx)
      exact fn_ret (rs := [.tmp 2, .tmp 3, .tmp 4]) rfl hF hS (vs := [_, _, _]) ⟨rfl, rfl, rfl, trivial⟩ (zs' := [z]) (hs' := []) ((List.nil_sublist _).cons_cons _) (List.nil_sublist _) (ret_sl (Wi.getList_end hc1 hj0 hrun hj1 hc2) hz1)

set_option maxHeartbeats 2000000 in
theorem rgis_ct (v : Value) (xs : List UInt8) (hx : xs.length < 1099511627776) (w : World) (hb : Sl encB (ph w) v xs) : Ct Try.prog 29 [v] w (LsR encI (Wi.getList Wi.getInt xs)) := by
  refine fn_enter Try.func29 rfl Try.ntmps29 (Nat.le_of_ble_eq_true rfl) fun a hF hS => ?_
  have hbl := hb.1
  refine wp_seq_k ?_; intro K1 hK1
  refine reg hF hS (sq rfl (q_assign rfl) <|
      sq rfl (q_assign rfl) <|
      sq rfl (q_assign rfl) <|
      sq_end) ?_
  clear hF hS; intro a w hF hS
  refine hK1 _ _ ?_
  clear hK1
  refine wp_seq_k ?_; intro K2 hK2
  refine reg hF hS (sq rfl (q_move rfl) <|
      sq rfl (q_call fn39 rfl (fun w hS => rcount_ct _ _ 1 (by omega) w (Sl.mono (hS.le zin0) hb)) (fun _ _ _ h => h)) <|
      sq rfl (q_move rfl) <|
      sq rfl (q_extract rfl rfl) <|
      sq rfl (q_extract rfl rfl) <|
      sq rfl (q_extract rfl rfl) <|
      sq rfl (q_assign rfl) <|
      sq rfl (q_assign rfl) <|
      sq rfl (q_assign rfl) <|
      sq_end) ?_
  clear hF hS; intro a w hF hS
  refine hK2 _ _ ?_
  clear hK2
  refine wp_seq_k ?_; intro K3 hK3
  refine wp_seq_k ?_; intro K4 hK4
  refine reg hF hS (sq rfl (q_move rfl) <|
      sq rfl (q_nei rfl rfl) <|
      sq_end) ?_
  clear hF hS; intro a w hF hS
  refine hK4 _ _ ?_
  clear hK4
  refine wp_ifn hF rfl (fun hc1 => ?_) (fun hc1 => ?_)
  · refine wp_seq_k ?_; intro K5 hK5
    refine reg hF hS (sq rfl (q_move rfl) <|
        sq rfl (q_assign rfl) <|
        sq rfl (q_assign rfl) <|
        sq rfl (q_assign rfl) <|
        sq_end) ?_
    clear hF hS; intro a w hF hS
    refine hK5 _ _ ?_
    clear hK5
    refine wp_ret ?_
    replace hS := hS.zone0
    exact fn_ret (rs := [.tmp 2, .tmp 3, .tmp 4]) rfl hF hS (vs := [_, _, _]) ⟨rfl, rfl, rfl, trivial⟩ (zs' := [fun _ => none]) (hs' := []) ((List.nil_sublist _).cons_cons _) (List.nil_sublist _) (ret_nil (Wi.getList_err hc1))
  · have hc1 : (Wi.cnt 1 xs).2.2 = 0 := by omega
    obtain ⟨_, hk1, hk2, hk3, _⟩ := Wi.cnt_ok hc1
    refine wp_skip ?_
    refine hK3 _ _ ?_
    clear hK3
    refine wp_seq_k ?_; intro K6 hK6
    refine reg hF hS (sq rfl (q_assign rfl) <|
        sq_end) ?_
    clear hF hS; intro a w hF hS
    replace hS := hS.nilRow 3 1
    refine hK6 _ _ ?_
    clear hK6
    refine wp_seq_k ?_; intro K7 hK7
    refine wp_seq_k ?_; intro K8 hK8
    refine reg hF hS (sq rfl (q_assign rfl) <|
        sq_end) ?_
    clear hF hS; intro a w hF hS
    refine hK8 _ _ ?_
    clear hK8
    refine wp_block ?_
    obtain ⟨hs0, hhs0, hS⟩ : ∃ h, h = _ ∧ St _ _ h _ := ⟨_, rfl, hS⟩
    refine wp_loopx (γ := Value × List (Int) × Int × Int) ((Value.slice none 0 0), [], (Wi.cnt 1 xs).2.1, 0) (fun (gg : Value × List (Int) × Int × Int) => match gg with | (u, acc, at_, j) => [(8, u), (6, vi at_), (9, vi j)]) [(0, _), (5, _)] (fun (gg : Value × List (Int) × Int × Int) => match gg with | (u, acc, at_, j) => (hs0.set 0 (.row u 3 1 acc.length (acc.map vi)))) (fun (gg : Value × List (Int) × Int × Int) => match gg with | (u, acc, at_, j) => 0 ≤ j ∧ j ≤ (Wi.cnt 1 xs).1 ∧ Wi.run Wi.getInt xs (Wi.cnt 1 xs).2.1 j.toNat = (acc, at_, 0) ∧ 0 ≤ at_ ∧ at_ ≤ xs.length ∧ (acc.length : Int) = j) (fun (gg : Value × List (Int) × Int × Int) => match gg with | (u, acc, at_, j) => ((Wi.cnt 1 xs).1 - j).toNat) (hF.sub ⟨rfl, rfl, rfl, rfl, rfl, trivial⟩) (by subst hhs0; exact hS) (by exact ⟨Int.le_refl _, by omega, by rw [show (0 : Int).toNat = 0 from rfl]; exact run_0 _ _ _, by omega, by omega, rfl⟩) ?_
    clear hF hS; rintro ⟨u, acc, at_, j⟩ a w hfact hF hS
    subst hhs0; (try dsimp only at hfact); (try dsimp only at hF); (try dsimp only at hS)
    obtain ⟨hj0, hj1, hrun, ha0, ha1, hal⟩ := hfact
    replace hS : St _ [] [_] _ := hS
    skip
    refine wp_seq_k ?_; intro K9 hK9
    refine wp_seq_k ?_; intro K10 hK10
    refine reg hF hS (sq rfl (q_move rfl) <|
        sq rfl (q_move rfl) <|
        sq rfl (q_lti rfl rfl) <|
        sq_end) ?_
    clear hF hS; intro a w hF hS
    refine hK10 _ _ ?_
    clear hK10
    refine wp_ifd hF rfl (fun hc2 => ?_) (fun hc2 => ?_)
    · refine wp_skip ?_
      refine hK9 _ _ ?_
      clear hK9
      refine wp_seq_k ?_; intro K11 hK11
      refine wp_block ?_
      refine wp_seq_k ?_; intro K12 hK12
      refine reg hF hS (sq rfl (q_move rfl) <|
          sq rfl (q_move rfl) <|
          sq rfl (q_slsl_lo ty28 ty5 hb rfl rfl (by omega)) <|
          sq rfl (q_call fn25 rfl (fun w hS => rgi_ct _ _ w (Sl.mono (hS.le zin0) (Sl.cut hb (by omega)))) (fun _ _ _ h => h)) <|
          sq rfl (q_move rfl) <|
          sq rfl (q_extract rfl rfl) <|
          sq rfl (q_extract rfl rfl) <|
          sq rfl (q_extract rfl rfl) <|
          sq rfl (q_assign rfl) <|
          sq rfl (q_assign rfl) <|
          sq rfl (q_assign rfl) <|
          sq_end) ?_
      clear hF hS; intro a w hF hS
      simp only [List.take_length] at hF
      refine hK12 _ _ ?_
      clear hK12
      refine wp_seq_k ?_; intro K13 hK13
      refine wp_seq_k ?_; intro K14 hK14
      refine reg hF hS (sq rfl (q_move rfl) <|
          sq rfl (q_nei rfl rfl) <|
          sq_end) ?_
      clear hF hS; intro a w hF hS
      refine hK14 _ _ ?_
      clear hK14
      refine wp_ifn hF rfl (fun hc3 => ?_) (fun hc3 => ?_)
      · refine wp_seq_k ?_; intro K15 hK15
        refine reg hF hS (sq rfl (q_move rfl) <|
            sq rfl (q_assign rfl) <|
            sq rfl (q_assign rfl) <|
            sq rfl (q_assign rfl) <|
            sq_end) ?_
        clear hF hS; intro a w hF hS
        refine hK15 _ _ ?_
        clear hK15
        refine wp_ret ?_
        replace hS := hS.zone0
        exact fn_ret (rs := [.tmp 2, .tmp 3, .tmp 4]) rfl hF hS (vs := [_, _, _]) ⟨rfl, rfl, rfl, trivial⟩ (zs' := [fun _ => none]) (hs' := []) ((List.nil_sublist _).cons_cons _) (List.nil_sublist _) (ret_nil (Wi.getList_stop hc1 hj0 hrun hc3 (by omega)))
      · have hc3 : (Wi.getInt (xs.drop at_.toNat)).2.2 = 0 := by omega
        have hps := Wi.getInt_pos hc3
        rw [List.length_drop] at hps
        refine wp_skip ?_
        refine hK13 _ _ ?_
        clear hK13
        refine wp_seq_k ?_; intro K16 hK16
        refine regl ?_
        refine wpl_sq hF hS (sq rfl (q_move rfl) <|
            sq rfl (q_move rfl) <|
            sq_end) ?_
        clear hF hS; intro a w hF hS
        refine wpl_ef hF hS rfl (ef_bsliceA ty22 ty3 rfl rfl (by first | ((repeat first | ((with_reducible refine oc_map ?_); intro _; rfl) | (with_reducible refine oc_app ?_ ?_) | ((with_reducible refine oc_cons ?_ ?_); rfl) | (with_reducible exact oc_nil) | ((with_reducible refine oc_rep ?_); rfl)); done) | (simp [Value.oneCell']; done) | (simp; decide)) (by decide) rfl rfl) ?_
        clear hF hS; rintro v2 _ _ a w ⟨rfl, rfl⟩ hF hS
        replace hS : St _ [] [_, _] _ := hS
        refine wpl_ef hF hS rfl (ef_append ty22 ty3 1 rfl rfl rfl (src_row ty22 (k := 0) rfl (by first | ((repeat first | ((with_reducible refine oc_map ?_); intro _; rfl) | (with_reducible refine oc_app ?_ ?_) | ((with_reducible refine oc_cons ?_ ?_); rfl) | (with_reducible exact oc_nil) | ((with_reducible refine oc_rep ?_); rfl)); done) | (simp [Value.oneCell']; done) | (simp; decide))) (by first | omega | (rw [List.length_map]; omega) | (simp; omega) | (simp [*]; done) | decide | (simp [*]; omega)) rfl (by decide)) ?_
        clear hF hS; rintro v4 _ _ a w ⟨rfl, rfl⟩ hF hS
        replace hS : St _ [] [_, _] _ := hS
        refine wpl_sq hF hS (sq rfl (q_assign rfl) <|
            sq_end) ?_
        clear hF hS; intro a w hF hS
        refine wpList_nil ?_
        refine hK16 _ _ ?_
        clear hK16
        refine reg hF hS (sq rfl (q_move rfl) <|
            sq rfl (q_move rfl) <|
            sq rfl (q_addi rfl rfl (by omega)) <|
            sq rfl (q_assign rfl) <|
            sq_end) ?_
        clear hF hS; intro a w hF hS
        refine hK11 _ _ ?_
        clear hK11
        refine reg hF hS (sq rfl (q_move rfl) <|
            sq rfl (q_addi rfl rfl (by omega)) <|
            sq rfl (q_assign rfl) <|
            sq_end) ?_
        clear hF hS; intro a w hF hS
        replace hS := hS.keep (List.nil_sublist _) ((List.Sublist.refl _).cons _)
        refine ⟨(v4, acc ++ [(Wi.getInt (xs.drop at_.toNat)).1], at_ + (Wi.getInt (xs.drop at_.toNat)).2.1, j + 1), ?_, ?_, hF.sub ⟨rfl, rfl, rfl, rfl, rfl, trivial⟩, ?_⟩
        · (try dsimp only); omega
        · refine ⟨by omega, by omega, ?_, by omega, by omega, by simp; omega⟩
          rw [show (j + 1).toNat = j.toNat + 1 by omega]
          exact Wi.run_next hrun hc3
        · have e : acc.map vi ++ [vi (Wi.getInt (xs.drop at_.toNat)).1] = (acc ++ [(Wi.getInt (xs.drop at_.toNat)).1]).map vi := by rw [List.map_append]; rfl
          have e2 : acc.length + 1 = (acc ++ [(Wi.getInt (xs.drop at_.toNat)).1]).length := by simp
          rw [e, e2] at hS
          exact hS
    · refine wp_exit ?_
      refine hK7 _ _ ?_
      clear hK7
      refine wp_seq_k ?_; intro K17 hK17
      refine reg hF hS (sq rfl (q_move rfl) <|
          sq rfl (q_move rfl) <|
          sq rfl (q_assign rfl) <|
          sq rfl (q_assign rfl) <|
          sq rfl (q_assign rfl) <|
          sq_end) ?_
      clear hF hS; intro a w hF hS
      refine hK17 _ _ ?_
      clear hK17
      refine wp_ret ?_
      have hrr := Wi.run_range Wi.codec_int ⟨by omega, by omega⟩ hrun
      obtain ⟨z, hz1, hS⟩ := St.freezeV (f := vi) (p := fun x => -9223372036854775808 ≤ x ∧ x ≤ 9223372036854775807) hS rfl (by omega) (fun x hx => hrr.2 x hx)
      exact fn_ret (rs := [.tmp 2, .tmp 3, .tmp 4]) rfl hF hS (vs := [_, _, _]) ⟨rfl, rfl, rfl, trivial⟩ (zs' := [z]) (hs' := []) ((List.nil_sublist _).cons_cons _) (List.nil_sublist _) (ret_sl (Wi.getList_end hc1 hj0 hrun hj1 hc2) hz1)

set_option maxHeartbeats 2000000 in
theorem wgss_ct (v : Value) (xs : List UInt8) (hx : xs.length < 1099511627776) (w : World) (hb : Sl encB (ph w) v xs) : Ct Try.prog 31 [v] w (LsR encS (Wi.getList Wi.getBytes xs)) := by
  refine fn_enter Try.func31 rfl Try.ntmps31 (Nat.le_of_ble_eq_true rfl) fun a hF hS => ?_
  have hbl := hb.1
  refine wp_seq_k ?_; intro K1 hK1
  refine reg hF hS (sq rfl (q_assign rfl) <|
      sq rfl (q_assign rfl) <|
      sq rfl (q_assign rfl) <|
      sq_end) ?_
  clear hF hS; intro a w hF hS
  refine hK1 _ _ ?_
  clear hK1
  refine wp_seq_k ?_; intro K2 hK2
  refine reg hF hS (sq rfl (q_move rfl) <|
      sq rfl (q_call fn38 rfl (fun w hS => wcount_ct _ _ 1 (by omega) w (Sl.mono (hS.le zin0) hb)) (fun _ _ _ h => h)) <|
      sq rfl (q_move rfl) <|
      sq rfl (q_extract rfl rfl) <|
      sq rfl (q_extract rfl rfl) <|
      sq rfl (q_extract rfl rfl) <|
      sq rfl (q_assign rfl) <|
      sq rfl (q_assign rfl) <|
      sq rfl (q_assign rfl) <|
      sq_end) ?_
  clear hF hS; intro a w hF hS
  refine hK2 _ _ ?_
  clear hK2
  refine wp_seq_k ?_; intro K3 hK3
  refine wp_seq_k ?_; intro K4 hK4
  refine reg hF hS (sq rfl (q_move rfl) <|
      sq rfl (q_nei rfl rfl) <|
      sq_end) ?_
  clear hF hS; intro a w hF hS
  refine hK4 _ _ ?_
  clear hK4
  refine wp_ifn hF rfl (fun hc1 => ?_) (fun hc1 => ?_)
  · refine wp_seq_k ?_; intro K5 hK5
    refine reg hF hS (sq rfl (q_move rfl) <|
        sq rfl (q_assign rfl) <|
        sq rfl (q_assign rfl) <|
        sq rfl (q_assign rfl) <|
        sq_end) ?_
    clear hF hS; intro a w hF hS
    refine hK5 _ _ ?_
    clear hK5
    refine wp_ret ?_
    replace hS := hS.zone0
    exact fn_ret (rs := [.tmp 2, .tmp 3, .tmp 4]) rfl hF hS (vs := [_, _, _]) ⟨rfl, rfl, rfl, trivial⟩ (zs' := [fun _ => none]) (hs' := []) ((List.nil_sublist _).cons_cons _) (List.nil_sublist _) (ret_nil (by rw [(Wi.wcnt_cnt 1 (by decide) xs).1]; exact Wi.getList_err (by rw [← (Wi.wcnt_cnt 1 (by decide) xs).1]; exact hc1)))
  · have hc1 : (Wi.wcnt 1 xs).2.2 = 0 := by omega
    obtain ⟨hk0, hk1, hk2, hk3⟩ := Wi.wcnt_ok (s := 1) (by decide) hc1
    simp only [hk0] at hF hc1 hk1 hk2 hk3
    refine wp_skip ?_
    refine hK3 _ _ ?_
    clear hK3
    refine wp_seq_k ?_; intro K6 hK6
    refine reg hF hS (sq rfl (q_assign rfl) <|
        sq_end) ?_
    clear hF hS; intro a w hF hS
    replace hS := hS.nilRow 9 1
    refine hK6 _ _ ?_
    clear hK6
    refine wp_seq_k ?_; intro K7 hK7
    refine wp_seq_k ?_; intro K8 hK8
    refine reg hF hS (sq rfl (q_move rfl) <|
        sq rfl (q_move rfl) <|
        sq_end) ?_
    clear hF hS; intro a w hF hS
    refine hK8 _ _ ?_
    clear hK8
    refine wp_block ?_
    obtain ⟨hs0, hhs0, hS⟩ : ∃ h, h = _ ∧ St _ _ h _ := ⟨_, rfl, hS⟩
    refine wp_loopx (γ := Value × List (List UInt8) × Int × Int) ((Value.slice none 0 0), [], (Wi.cnt 1 xs).2.1, 0) (fun (gg : Value × List (List UInt8) × Int × Int) => match gg with | (u, acc, at_, j) => [(8, u), (6, vi at_), (22, vi j)]) [(0, _), (21, _)] (fun (gg : Value × List (List UInt8) × Int × Int) => match gg with | (u, acc, at_, j) => (hs0.set 0 (.row u 9 1 acc.length (acc.map vs)))) (fun (gg : Value × List (List UInt8) × Int × Int) => match gg with | (u, acc, at_, j) => 0 ≤ j ∧ j ≤ (Wi.cnt 1 xs).1 ∧ Wi.run Wi.getBytes xs (Wi.cnt 1 xs).2.1 j.toNat = (acc, at_, 0) ∧ 0 ≤ at_ ∧ at_ ≤ xs.length ∧ (acc.length : Int) = j) (fun (gg : Value × List (List UInt8) × Int × Int) => match gg with | (u, acc, at_, j) => ((Wi.cnt 1 xs).1 - j).toNat) (hF.sub ⟨rfl, rfl, rfl, rfl, rfl, trivial⟩) (by subst hhs0; exact hS) (by exact ⟨Int.le_refl _, by omega, by rw [show (0 : Int).toNat = 0 from rfl]; exact run_0 _ _ _, by omega, by omega, rfl⟩) ?_
    clear hF hS; rintro ⟨u, acc, at_, j⟩ a w hfact hF hS
    subst hhs0; (try dsimp only at hfact); (try dsimp only at hF); (try dsimp only at hS)
    obtain ⟨hj0, hj1, hrun, ha0, ha1, hal⟩ := hfact
    replace hS : St _ [] [_] _ := hS
    skip
    refine wp_seq_k ?_; intro K9 hK9
    refine reg hF hS (sq rfl (q_lti rfl rfl) <|
        sq_end) ?_
    clear hF hS; intro a w hF hS
    refine hK9 _ _ ?_
    clear hK9
    refine wp_seq_k ?_; intro K10 hK10
    refine wp_ifd hF rfl (fun hc2 => ?_) (fun hc2 => ?_)
    · refine wp_skip ?_
      refine hK10 _ _ ?_
      clear hK10
      refine wp_seq_k ?_; intro K11 hK11
      refine wp_block ?_
      refine wp_seq_k ?_; intro K12 hK12
      refine reg hF hS (sq rfl (q_move rfl) <|
          sq rfl (q_move rfl) <|
          sq rfl (q_slsl_lo ty28 ty5 hb rfl rfl (by omega)) <|
          sq rfl (q_call fn26 rfl (fun w hS => wgb_ct _ _ w (Sl.mono (hS.le zin0) (Sl.cut hb (by omega)))) (fun _ _ _ h => h)) <|
          sq rfl (q_move rfl) <|
          sq rfl (q_extract rfl rfl) <|
          sq rfl (q_extract rfl rfl) <|
          sq rfl (q_extract rfl rfl) <|
          sq rfl (q_assign rfl) <|
          sq rfl (q_assign rfl) <|
          sq rfl (q_assign rfl) <|
          sq_end) ?_
      clear hF hS; intro a w hF hS
      simp only [List.take_length] at hF
      refine hK12 _ _ ?_
      clear hK12
      refine wp_seq_k ?_; intro K13 hK13
      refine wp_seq_k ?_; intro K14 hK14
      refine reg hF hS (sq rfl (q_move rfl) <|
          sq rfl (q_nei rfl rfl) <|
          sq_end) ?_
      clear hF hS; intro a w hF hS
      refine hK14 _ _ ?_
      clear hK14
      refine wp_ifn hF rfl (fun hc3 => ?_) (fun hc3 => ?_)
      · refine wp_seq_k ?_; intro K15 hK15
        refine reg hF hS (sq rfl (q_move rfl) <|
            sq rfl (q_assign rfl) <|
            sq rfl (q_assign rfl) <|
            sq rfl (q_assign rfl) <|
            sq_end) ?_
        clear hF hS; intro a w hF hS
        refine hK15 _ _ ?_
        clear hK15
        refine wp_ret ?_
        replace hS := hS.zone0
        exact fn_ret (rs := [.tmp 2, .tmp 3, .tmp 4]) rfl hF hS (vs := [_, _, _]) ⟨rfl, rfl, rfl, trivial⟩ (zs' := [fun _ => none]) (hs' := []) ((List.nil_sublist _).cons_cons _) (List.nil_sublist _) (ret_nil (Wi.getList_stop hc1 hj0 hrun hc3 (by omega)))
      · have hc3 : (Wi.getBytes (xs.drop at_.toNat)).2.2 = 0 := by omega
        have hps := Wi.getBytes_pos hc3
        rw [List.length_drop] at hps
        refine wp_skip ?_
        refine hK13 _ _ ?_
        clear hK13
        refine regl ?_
        refine wpl_sq hF hS (sq rfl (q_move rfl) <|
            sq rfl (q_move rfl) <|
            sq_end) ?_
        clear hF hS; intro a w hF hS
        refine wpl_ef hF hS rfl (ef_bsliceA ty23 ty9 rfl rfl (by first | ((repeat first | ((with_reducible refine oc_map ?_); intro _; rfl) | (with_reducible refine oc_app ?_ ?_) | ((with_reducible refine oc_cons ?_ ?_); rfl) | (with_reducible exact oc_nil) | ((with_reducible refine oc_rep ?_); rfl)); done) | (simp [Value.oneCell']; done) | (simp; decide)) (by decide) rfl rfl) ?_
        clear hF hS; rintro v2 _ _ a w ⟨rfl, rfl⟩ hF hS
        replace hS : St _ [] [_, _] _ := hS
        refine wpl_ef hF hS rfl (ef_append ty23 ty9 1 rfl rfl rfl (src_row ty23 (k := 0) rfl (by first | ((repeat first | ((with_reducible refine oc_map ?_); intro _; rfl) | (with_reducible refine oc_app ?_ ?_) | ((with_reducible refine oc_cons ?_ ?_); rfl) | (with_reducible exact oc_nil) | ((with_reducible refine oc_rep ?_); rfl)); done) | (simp [Value.oneCell']; done) | (simp; decide))) (by first | omega | (rw [List.length_map]; omega) | (simp; omega) | (simp [*]; done) | decide | (simp [*]; omega)) rfl (by decide)) ?_
        clear hF hS; rintro v4 _ _ a w ⟨rfl, rfl⟩ hF hS
        replace hS : St _ [] [_, _] _ := hS
        refine wpl_sq hF hS (sq rfl (q_move rfl) <|
            sq rfl (q_move rfl) <|
            sq rfl (q_addi rfl rfl (by omega)) <|
            sq rfl (q_assign rfl) <|
            sq rfl (q_assign rfl) <|
            sq_end) ?_
        clear hF hS; intro a w hF hS
        refine wpList_nil ?_
        refine hK11 _ _ ?_
        clear hK11
        refine reg hF hS (sq rfl (q_addi rfl rfl (by omega)) <|
            sq rfl (q_move rfl) <|
            sq_end) ?_
        clear hF hS; intro a w hF hS
        replace hS := hS.keep (List.nil_sublist _) ((List.Sublist.refl _).cons _)
        refine ⟨(v4, acc ++ [(Wi.getBytes (xs.drop at_.toNat)).1], at_ + (Wi.getBytes (xs.drop at_.toNat)).2.1, j + 1), ?_, ?_, hF.sub ⟨rfl, rfl, rfl, rfl, rfl, trivial⟩, ?_⟩
        · (try dsimp only); omega
        · refine ⟨by omega, by omega, ?_, by omega, by omega, by simp; omega⟩
          rw [show (j + 1).toNat = j.toNat + 1 by omega]
          exact Wi.run_next hrun hc3
        · have e : acc.map vs ++ [vs (Wi.getBytes (xs.drop at_.toNat)).1] = (acc ++ [(Wi.getBytes (xs.drop at_.toNat)).1]).map vs := by rw [List.map_append]; rfl
          have e2 : acc.length + 1 = (acc ++ [(Wi.getBytes (xs.drop at_.toNat)).1]).length := by simp
          rw [e, e2] at hS
          exact hS
    · refine wp_exit ?_
      refine hK7 _ _ ?_
      clear hK7
      refine wp_seq_k ?_; intro K16 hK16
      refine reg hF hS (sq rfl (q_move rfl) <|
          sq rfl (q_move rfl) <|
          sq rfl (q_assign rfl) <|
          sq rfl (q_assign rfl) <|
          sq rfl (q_assign rfl) <|
          sq_end) ?_
      clear hF hS; intro a w hF hS
      refine hK16 _ _ ?_
      clear hK16
      refine wp_ret ?_
      have hrr := Wi.run_range Wi.codec_bytes ⟨by omega, by omega⟩ hrun
      obtain ⟨z, hz1, hS⟩ := St.freezeV (f := vs) (p := fun s => s.length ≤ 140737488355328) hS rfl (by omega) (fun x hx => by have := Wi.str_small ⟨by omega, by omega⟩ hrun x hx; omega)
      exact fn_ret (rs := [.tmp 2, .tmp 3, .tmp 4]) rfl hF hS (vs := [_, _, _]) ⟨rfl, rfl, rfl, trivial⟩ (zs' := [z]) (hs' := []) ((List.nil_sublist _).cons_cons _) (List.nil_sublist _) (ret_sl (Wi.getList_end hc1 hj0 hrun hj1 hc2) hz1)

set_option maxHeartbeats 2000000 in
theorem rgss_ct (v : Value) (xs : List UInt8) (hx : xs.length < 1099511627776) (w : World) (hb : Sl encB (ph w) v xs) : Ct Try.prog 32 [v] w (LsR encS (Wi.getList Wi.getBytes xs)) := by
  refine fn_enter Try.func32 rfl Try.ntmps32 (Nat.le_of_ble_eq_true rfl) fun a hF hS => ?_
  have hbl := hb.1
  refine wp_seq_k ?_; intro K1 hK1
  refine reg hF hS (sq rfl (q_assign rfl) <|
      sq rfl (q_assign rfl) <|
      sq rfl (q_assign rfl) <|
      sq_end) ?_
  clear hF hS; intro a w hF hS
  refine hK1 _ _ ?_
  clear hK1
  refine wp_seq_k ?_; intro K2 hK2
  refine reg hF hS (sq rfl (q_move rfl) <|
      sq rfl (q_call fn39 rfl (fun w hS => rcount_ct _ _ 1 (by omega) w (Sl.mono (hS.le zin0) hb)) (fun _ _ _ h => h)) <|
      sq rfl (q_move rfl) <|
      sq rfl (q_extract rfl rfl) <|
      sq rfl (q_extract rfl rfl) <|
      sq rfl (q_extract rfl rfl) <|
      sq rfl (q_assign rfl) <|
      sq rfl (q_assign rfl) <|
      sq rfl (q_assign rfl) <|
      sq_end) ?_
  clear hF hS; intro a w hF hS
  refine hK2 _ _ ?_
  clear hK2
  refine wp_seq_k ?_; intro K3 hK3
  refine wp_seq_k ?_; intro K4 hK4
  refine reg hF hS (sq rfl (q_move rfl) <|
      sq rfl (q_nei rfl rfl) <|
      sq_end) ?_
  clear hF hS; intro a w hF hS
  refine hK4 _ _ ?_
  clear hK4
  refine wp_ifn hF rfl (fun hc1 => ?_) (fun hc1 => ?_)
  · refine wp_seq_k ?_; intro K5 hK5
    refine reg hF hS (sq rfl (q_move rfl) <|
        sq rfl (q_assign rfl) <|
        sq rfl (q_assign rfl) <|
        sq rfl (q_assign rfl) <|
        sq_end) ?_
    clear hF hS; intro a w hF hS
    refine hK5 _ _ ?_
    clear hK5
    refine wp_ret ?_
    replace hS := hS.zone0
    exact fn_ret (rs := [.tmp 2, .tmp 3, .tmp 4]) rfl hF hS (vs := [_, _, _]) ⟨rfl, rfl, rfl, trivial⟩ (zs' := [fun _ => none]) (hs' := []) ((List.nil_sublist _).cons_cons _) (List.nil_sublist _) (ret_nil (Wi.getList_err hc1))
  · have hc1 : (Wi.cnt 1 xs).2.2 = 0 := by omega
    obtain ⟨_, hk1, hk2, hk3, _⟩ := Wi.cnt_ok hc1
    refine wp_skip ?_
    refine hK3 _ _ ?_
    clear hK3
    refine wp_seq_k ?_; intro K6 hK6
    refine reg hF hS (sq rfl (q_assign rfl) <|
        sq_end) ?_
    clear hF hS; intro a w hF hS
    replace hS := hS.nilRow 9 1
    refine hK6 _ _ ?_
    clear hK6
    refine wp_seq_k ?_; intro K7 hK7
    refine wp_seq_k ?_; intro K8 hK8
    refine reg hF hS (sq rfl (q_assign rfl) <|
        sq_end) ?_
    clear hF hS; intro a w hF hS
    refine hK8 _ _ ?_
    clear hK8
    refine wp_block ?_
    obtain ⟨hs0, hhs0, hS⟩ : ∃ h, h = _ ∧ St _ _ h _ := ⟨_, rfl, hS⟩
    refine wp_loopx (γ := Value × List (List UInt8) × Int × Int) ((Value.slice none 0 0), [], (Wi.cnt 1 xs).2.1, 0) (fun (gg : Value × List (List UInt8) × Int × Int) => match gg with | (u, acc, at_, j) => [(8, u), (6, vi at_), (9, vi j)]) [(0, _), (5, _)] (fun (gg : Value × List (List UInt8) × Int × Int) => match gg with | (u, acc, at_, j) => (hs0.set 0 (.row u 9 1 acc.length (acc.map vs)))) (fun (gg : Value × List (List UInt8) × Int × Int) => match gg with | (u, acc, at_, j) => 0 ≤ j ∧ j ≤ (Wi.cnt 1 xs).1 ∧ Wi.run Wi.getBytes xs (Wi.cnt 1 xs).2.1 j.toNat = (acc, at_, 0) ∧ 0 ≤ at_ ∧ at_ ≤ xs.length ∧ (acc.length : Int) = j) (fun (gg : Value × List (List UInt8) × Int × Int) => match gg with | (u, acc, at_, j) => ((Wi.cnt 1 xs).1 - j).toNat) (hF.sub ⟨rfl, rfl, rfl, rfl, rfl, trivial⟩) (by subst hhs0; exact hS) (by exact ⟨Int.le_refl _, by omega, by rw [show (0 : Int).toNat = 0 from rfl]; exact run_0 _ _ _, by omega, by omega, rfl⟩) ?_
    clear hF hS; rintro ⟨u, acc, at_, j⟩ a w hfact hF hS
    subst hhs0; (try dsimp only at hfact); (try dsimp only at hF); (try dsimp only at hS)
    obtain ⟨hj0, hj1, hrun, ha0, ha1, hal⟩ := hfact
    replace hS : St _ [] [_] _ := hS
    skip
    refine wp_seq_k ?_; intro K9 hK9
    refine wp_seq_k ?_; intro K10 hK10
    refine reg hF hS (sq rfl (q_move rfl) <|
        sq rfl (q_move rfl) <|
        sq rfl (q_lti rfl rfl) <|
        sq_end) ?_
    clear hF hS; intro a w hF hS
    refine hK10 _ _ ?_
    clear hK10
    refine wp_ifd hF rfl (fun hc2 => ?_) (fun hc2 => ?_)
    · refine wp_skip ?_
      refine hK9 _ _ ?_
      clear hK9
      refine wp_seq_k ?_; intro K11 hK11
      refine wp_block ?_
      refine wp_seq_k ?_; intro K12 hK12
      refine reg hF hS (sq rfl (q_move rfl) <|
          sq rfl (q_move rfl) <|
          sq rfl (q_slsl_lo ty28 ty5 hb rfl rfl (by omega)) <|
          sq rfl (q_call fn27 rfl (fun w hS => rgb_ct _ _ w (Sl.mono (hS.le zin0) (Sl.cut hb (by omega)))) (fun _ _ _ h => h)) <|
          sq rfl (q_move rfl) <|
          sq rfl (q_extract rfl rfl) <|
          sq rfl (q_extract rfl rfl) <|
          sq rfl (q_extract rfl rfl) <|
          sq rfl (q_assign rfl) <|
          sq rfl (q_assign rfl) <|
          sq rfl (q_assign rfl) <|
          sq_end) ?_
      clear hF hS; intro a w hF hS
      simp only [List.take_length] at hF
      refine hK12 _ _ ?_
      clear hK12
      refine wp_seq_k ?_; intro K13 hK13
      refine wp_seq_k ?_; intro K14 hK14
      refine reg hF hS (sq rfl (q_move rfl) <|
          sq rfl (q_nei rfl rfl) <|
          sq_end) ?_
      clear hF hS; intro a w hF hS
      refine hK14 _ _ ?_
      clear hK14
      refine wp_ifn hF rfl (fun hc3 => ?_) (fun hc3 => ?_)
      · refine wp_seq_k ?_; intro K15 hK15
        refine reg hF hS (sq rfl (q_move rfl) <|
            sq rfl (q_assign rfl) <|
            sq rfl (q_assign rfl) <|
            sq rfl (q_assign rfl) <|
            sq_end) ?_
        clear hF hS; intro a w hF hS
        refine hK15 _ _ ?_
        clear hK15
        refine wp_ret ?_
        replace hS := hS.zone0
        exact fn_ret (rs := [.tmp 2, .tmp 3, .tmp 4]) rfl hF hS (vs := [_, _, _]) ⟨rfl, rfl, rfl, trivial⟩ (zs' := [fun _ => none]) (hs' := []) ((List.nil_sublist _).cons_cons _) (List.nil_sublist _) (ret_nil (Wi.getList_stop hc1 hj0 hrun hc3 (by omega)))
      · have hc3 : (Wi.getBytes (xs.drop at_.toNat)).2.2 = 0 := by omega
        have hps := Wi.getBytes_pos hc3
        rw [List.length_drop] at hps
        refine wp_skip ?_
        refine hK13 _ _ ?_
        clear hK13
        refine wp_seq_k ?_; intro K16 hK16
        refine regl ?_
        refine wpl_sq hF hS (sq rfl (q_move rfl) <|
            sq rfl (q_move rfl) <|
            sq_end) ?_
        clear hF hS; intro a w hF hS
        refine wpl_ef hF hS rfl (ef_bsliceA ty23 ty9 rfl rfl (by first | ((repeat first | ((with_reducible refine oc_map ?_); intro _; rfl) | (with_reducible refine oc_app ?_ ?_) | ((with_reducible refine oc_cons ?_ ?_); rfl) | (with_reducible exact oc_nil) | ((with_reducible refine oc_rep ?_); rfl)); done) | (simp [Value.oneCell']; done) | (simp; decide)) (by decide) rfl rfl) ?_
        clear hF hS; rintro v2 _ _ a w ⟨rfl, rfl⟩ hF hS
        replace hS : St _ [] [_, _] _ := hS
        refine wpl_ef hF hS rfl (ef_append ty23 ty9 1 rfl rfl rfl (src_row ty23 (k := 0) rfl (by first | ((repeat first | ((with_reducible refine oc_map ?_); intro _; rfl) | (with_reducible refine oc_app ?_ ?_) | ((with_reducible refine oc_cons ?_ ?_); rfl) | (with_reducible exact oc_nil) | ((with_reducible refine oc_rep ?_); rfl)); done) | (simp [Value.oneCell']; done) | (simp; decide))) (by first | omega | (rw [List.length_map]; omega) | (simp; omega) | (simp [*]; done) | decide | (simp [*]; omega)) rfl (by decide)) ?_
        clear hF hS; rintro v4 _ _ a w ⟨rfl, rfl⟩ hF hS
        replace hS : St _ [] [_, _] _ := hS
        refine wpl_sq hF hS (sq rfl (q_assign rfl) <|
            sq_end) ?_
        clear hF hS; intro a w hF hS
        refine wpList_nil ?_
        refine hK16 _ _ ?_
        clear hK16
        refine reg hF hS (sq rfl (q_move rfl) <|
            sq rfl (q_move rfl) <|
            sq rfl (q_addi rfl rfl (by omega)) <|
            sq rfl (q_assign rfl) <|
            sq_end) ?_
        clear hF hS; intro a w hF hS
        refine hK11 _ _ ?_
        clear hK11
        refine reg hF hS (sq rfl (q_move rfl) <|
            sq rfl (q_addi rfl rfl (by omega)) <|
            sq rfl (q_assign rfl) <|
            sq_end) ?_
        clear hF hS; intro a w hF hS
        replace hS := hS.keep (List.nil_sublist _) ((List.Sublist.refl _).cons _)
        refine ⟨(v4, acc ++ [(Wi.getBytes (xs.drop at_.toNat)).1], at_ + (Wi.getBytes (xs.drop at_.toNat)).2.1, j + 1), ?_, ?_, hF.sub ⟨rfl, rfl, rfl, rfl, rfl, trivial⟩, ?_⟩
        · (try dsimp only); omega
        · refine ⟨by omega, by omega, ?_, by omega, by omega, by simp; omega⟩
          rw [show (j + 1).toNat = j.toNat + 1 by omega]
          exact Wi.run_next hrun hc3
        · have e : acc.map vs ++ [vs (Wi.getBytes (xs.drop at_.toNat)).1] = (acc ++ [(Wi.getBytes (xs.drop at_.toNat)).1]).map vs := by rw [List.map_append]; rfl
          have e2 : acc.length + 1 = (acc ++ [(Wi.getBytes (xs.drop at_.toNat)).1]).length := by simp
          rw [e, e2] at hS
          exact hS
    · refine wp_exit ?_
      refine hK7 _ _ ?_
      clear hK7
      refine wp_seq_k ?_; intro K17 hK17
      refine reg hF hS (sq rfl (q_move rfl) <|
          sq rfl (q_move rfl) <|
          sq rfl (q_assign rfl) <|
          sq rfl (q_assign rfl) <|
          sq rfl (q_assign rfl) <|
          sq_end) ?_
      clear hF hS; intro a w hF hS
      refine hK17 _ _ ?_
      clear hK17
      refine wp_ret ?_
      have hrr := Wi.run_range Wi.codec_bytes ⟨by omega, by omega⟩ hrun
      obtain ⟨z, hz1, hS⟩ := St.freezeV (f := vs) (p := fun s => s.length ≤ 140737488355328) hS rfl (by omega) (fun x hx => by have := Wi.str_small ⟨by omega, by omega⟩ hrun x hx; omega)
      exact fn_ret (rs := [.tmp 2, .tmp 3, .tmp 4]) rfl hF hS (vs := [_, _, _]) ⟨rfl, rfl, rfl, trivial⟩ (zs' := [z]) (hs' := []) ((List.nil_sublist _).cons_cons _) (List.nil_sublist _) (ret_sl (Wi.getList_end hc1 hj0 hrun hj1 hc2) hz1)
end Go.Proofs.Ytcolgcdnpfpcdaa
