/- A text of a proof over this seat: walks over the program's functions and the plain laws that they need. -/
import Derived.Test.YtcolgcdnpfpcdaaVw5
import Derived.Test.YtcolgcdnpfpcdaaWi6
set_option linter.all false
namespace Go.Proofs.Ytcolgcdnpfpcdaa
open Go.Fw


attribute [local irreducible] Wi.int Wi.bytes Wi.ints Wi.strs Wi.dgs Ls.encT Wi.getInt Wi.valBE Wi.vj Wi.cnt Wi.wcnt Wi.getBytes Wi.run Wi.getList Wi.getDigs Wi.dgL

theorem dgL_0 (b : List UInt8) (a : Nat) : Wi.dgL b a 0 = [] := by unfold Wi.dgL; rfl

set_option maxHeartbeats 2000000 in
theorem wgds_ct (v : Value) (xs : List UInt8) (hx : xs.length < 1099511627776) (w : World) (hb : Sl encB (ph w) v xs) : Ct Try.prog 34 [v] w (LsR (encA 16) (Wi.getDigs xs)) := by
  refine fn_enter Try.func34 rfl Try.ntmps34 (Nat.le_of_ble_eq_true rfl) fun a hF hS => ?_
  have hbl := hb.1
  refine wp_seq_k ?_; intro K1 hK1
  refine reg hF hS (sq rfl (q_assign rfl) <|
      sq rfl (q_assign rfl) <|
      sq rfl (q_assign rfl) <|
      sq_end) ?_
  clear hF hS; intro a w hF hS
  refine hK1 _ _ ?_
  clear hK1
  refine wp_seq_k ?_; intro K2 hK2
  refine reg hF hS (sq rfl (q_move rfl) <|
      sq rfl (q_call fn38 rfl (fun w hS => wcount_ct _ _ 16 (by omega) w (Sl.mono (hS.le zin0) hb)) (fun _ _ _ h => h)) <|
      sq rfl (q_move rfl) <|
      sq rfl (q_extract rfl rfl) <|
      sq rfl (q_extract rfl rfl) <|
      sq rfl (q_extract rfl rfl) <|
      sq rfl (q_assign rfl) <|
      sq rfl (q_assign rfl) <|
      sq rfl (q_assign rfl) <|
      sq_end) ?_
  clear hF hS; intro a w hF hS
  refine hK2 _ _ ?_
  clear hK2
  refine wp_seq_k ?_; intro K3 hK3
  refine wp_seq_k ?_; intro K4 hK4
  refine reg hF hS (sq rfl (q_move rfl) <|
      sq rfl (q_nei rfl rfl) <|
      sq_end) ?_
  clear hF hS; intro a w hF hS
  refine hK4 _ _ ?_
  clear hK4
  refine wp_ifn hF rfl (fun hc1 => ?_) (fun hc1 => ?_)
  · refine wp_seq_k ?_; intro K5 hK5
    refine reg hF hS (sq rfl (q_move rfl) <|
        sq rfl (q_assign rfl) <|
        sq rfl (q_assign rfl) <|
        sq rfl (q_assign rfl) <|
        sq_end) ?_
    clear hF hS; intro a w hF hS
    refine hK5 _ _ ?_
    clear hK5
    refine wp_ret ?_
    replace hS := hS.zone0
    exact fn_ret (rs := [.tmp 2, .tmp 3, .tmp 4]) rfl hF hS (vs := [_, _, _]) ⟨rfl, rfl, rfl, trivial⟩ (zs' := [fun _ => none]) (hs' := []) ((List.nil_sublist _).cons_cons _) (List.nil_sublist _) (ret_nil (by rw [(Wi.wcnt_cnt 16 (by decide) xs).1]; exact Wi.getDigs_err (by rw [← (Wi.wcnt_cnt 16 (by decide) xs).1]; exact hc1)))
  · have hc1 : (Wi.wcnt 16 xs).2.2 = 0 := by omega
    obtain ⟨hk0, hk1, hk2, hk3⟩ := Wi.wcnt_ok (s := 16) (by decide) hc1
    simp only [hk0] at hF hc1 hk1 hk2 hk3
    refine wp_skip ?_
    refine hK3 _ _ ?_
    clear hK3
    refine wp_seq_k ?_; intro K6 hK6
    refine reg hF hS (sq rfl (q_assign rfl) <|
        sq_end) ?_
    clear hF hS; intro a w hF hS
    replace hS := hS.nilRow 57 16
    refine hK6 _ _ ?_
    clear hK6
    refine wp_seq_k ?_; intro K7 hK7
    refine wp_seq_k ?_; intro K8 hK8
    refine reg hF hS (sq rfl (q_move rfl) <|
        sq rfl (q_move rfl) <|
        sq_end) ?_
    clear hF hS; intro a w hF hS
    refine hK8 _ _ ?_
    clear hK8
    refine wp_block ?_
    obtain ⟨hs0, hhs0, hS⟩ : ∃ h, h = _ ∧ St _ _ h _ := ⟨_, rfl, hS⟩
    refine wp_loopx (γ := Value × Int) ((Value.slice none 0 0), 0) (fun (gg : Value × Int) => match gg with | (u, j) => [(8, u), (6, vi ((Wi.cnt 16 xs).2.1 + 16 * j)), (19, vi j)]) [(0, _), (18, _)] (fun (gg : Value × Int) => match gg with | (u, j) => (hs0.set 0 (.row u 57 16 j.toNat ((Wi.dgL xs (Wi.cnt 16 xs).2.1.toNat j.toNat).flatMap (fun y => y.map vb))))) (fun (gg : Value × Int) => match gg with | (u, j) => 0 ≤ j ∧ j ≤ (Wi.cnt 16 xs).1) (fun (gg : Value × Int) => match gg with | (u, j) => ((Wi.cnt 16 xs).1 - j).toNat) (hF.sub ⟨rfl, (by show some (vi _) = some (vi _); congr 2; omega), rfl, rfl, rfl, trivial⟩) (by subst hhs0; dsimp only; rw [show (0 : Int).toNat = 0 from rfl, show Wi.dgL xs (Wi.cnt 16 xs).2.1.toNat 0 = [] from dgL_0 _ _]; exact hS) (by exact ⟨Int.le_refl _, by omega⟩) ?_
    clear hF hS; rintro ⟨u, j⟩ a w hfact hF hS
    subst hhs0; (try dsimp only at hfact); (try dsimp only at hF); (try dsimp only at hS)
    obtain ⟨hj0, hj1⟩ := hfact
    replace hS : St _ [] [_] _ := hS
    refine wp_seq_k ?_; intro K9 hK9
    refine reg hF hS (sq rfl (q_lti rfl rfl) <|
        sq_end) ?_
    clear hF hS; intro a w hF hS
    refine hK9 _ _ ?_
    clear hK9
    refine wp_seq_k ?_; intro K10 hK10
    refine wp_ifd hF rfl (fun hc2 => ?_) (fun hc2 => ?_)
    · have hch : ((xs.take ((Wi.cnt 16 xs).2.1 + 16 * j + 16).toNat).drop ((Wi.cnt 16 xs).2.1 + 16 * j).toNat) = ((xs.drop ((Wi.cnt 16 xs).2.1.toNat + 16 * j.toNat)).take 16) := by rw [List.drop_take, show ((Wi.cnt 16 xs).2.1 + 16 * j).toNat = (Wi.cnt 16 xs).2.1.toNat + 16 * j.toNat by omega]; congr 1; omega
      have hcl : ((xs.drop ((Wi.cnt 16 xs).2.1.toNat + 16 * j.toNat)).take 16).length = 16 := by rw [List.length_take, List.length_drop]; omega
      have hcl2 : ((xs.take ((Wi.cnt 16 xs).2.1 + 16 * j + 16).toNat).drop ((Wi.cnt 16 xs).2.1 + 16 * j).toNat).length = 16 := by rw [hch]; exact hcl
      refine wp_skip ?_
      refine hK10 _ _ ?_
      clear hK10
      refine wp_seq_k ?_; intro K11 hK11
      refine wp_block ?_
      refine wp_seq_k ?_; intro K12 hK12
      refine regl ?_
      refine wpl_sq hF hS (sq rfl (q_move rfl) <|
          sq rfl (q_move rfl) <|
          sq rfl (q_move rfl) <|
          sq rfl (q_move rfl) <|
          sq rfl (q_addi rfl rfl (by omega)) <|
          sq rfl (q_slsl_lo_hi ty28 ty5 hb rfl rfl rfl (by omega)) <|
          sq rfl (q_s2ap_sl ty57 (Sl.cut hb (by omega)) rfl (by first | omega | (rw [List.length_map]; omega) | (simp; omega) | (simp [*]; done) | decide | (simp [*]; omega)) (by decide)) <|
          sq rfl (q_ld_B16 ty57 (Sl.cut hb (by omega)) zin0 rfl rfl (by first | omega | (rw [List.length_map]; omega) | (simp; omega) | (simp [*]; done) | decide | (simp [*]; omega)) (by decide)) <|
          sq_end) ?_
      clear hF hS; intro a w hF hS
      refine wpl_ef hF hS rfl (ef_bsliceW ty24 ty57 rfl (by first | omega | (rw [List.length_map]; omega) | (simp; omega) | (simp [*]; done) | decide | (simp [*]; omega)) (by decide) (by first | ((repeat first | ((with_reducible refine oc_map ?_); intro _; rfl) | (with_reducible refine oc_app ?_ ?_) | ((with_reducible refine oc_cons ?_ ?_); rfl) | (with_reducible exact oc_nil) | ((with_reducible refine oc_rep ?_); rfl)); done) | (simp [Value.oneCell']; done) | (simp; decide)) (by decide) (by decide)) ?_
      clear hF hS; rintro v2 _ _ a w ⟨rfl, rfl⟩ hF hS
      replace hS : St _ [] [_, _] _ := hS
      refine wpl_ef hF hS rfl (ef_append ty24 ty57 1 rfl rfl rfl (src_row ty24 (k := 0) rfl (by first | ((repeat first | ((with_reducible refine oc_map ?_); intro _; rfl) | (with_reducible refine oc_app ?_ ?_) | ((with_reducible refine oc_cons ?_ ?_); rfl) | (with_reducible exact oc_nil) | ((with_reducible refine oc_rep ?_); rfl)); done) | (simp [Value.oneCell']; done) | (simp; decide))) (by first | omega | (rw [List.length_map]; omega) | (simp; omega) | (simp [*]; done) | decide | (simp [*]; omega)) rfl (by decide)) ?_
      clear hF hS; rintro v4 _ _ a w ⟨rfl, rfl⟩ hF hS
      replace hS : St _ [] [_, _] _ := hS
      refine wpl_sq hF hS (sq rfl (q_assign rfl) <|
          sq_end) ?_
      clear hF hS; intro a w hF hS
      refine wpList_nil ?_
      refine hK12 _ _ ?_
      clear hK12
      refine reg hF hS (sq rfl (q_move rfl) <|
          sq rfl (q_addi rfl rfl (by omega)) <|
          sq rfl (q_assign rfl) <|
          sq_end) ?_
      clear hF hS; intro a w hF hS
      refine hK11 _ _ ?_
      clear hK11
      refine reg hF hS (sq rfl (q_addi rfl rfl (by omega)) <|
          sq rfl (q_move rfl) <|
          sq_end) ?_
      clear hF hS; intro a w hF hS
      replace hS := hS.keep (List.nil_sublist _) ((List.Sublist.refl _).cons _)
      refine ⟨(v4, j + 1), ?_, ?_, hF.sub ⟨rfl, (by show some (vi _) = some (vi _); congr 2; omega), rfl, rfl, rfl, trivial⟩, ?_⟩
      · (try dsimp only); omega
      · (try dsimp only); omega
      · have e : (Wi.dgL xs (Wi.cnt 16 xs).2.1.toNat j.toNat).flatMap (fun y => y.map vb) ++ ((xs.drop ((Wi.cnt 16 xs).2.1.toNat + 16 * j.toNat)).take 16).map vb = (Wi.dgL xs (Wi.cnt 16 xs).2.1.toNat (j + 1).toNat).flatMap (fun y => y.map vb) := by rw [show (j + 1).toNat = j.toNat + 1 by omega, Wi.dgL_succ, List.flatMap_append]; simp
        rw [hch, e, show j.toNat + 1 = (j + 1).toNat by omega] at hS
        exact hS
    · refine wp_exit ?_
      refine hK7 _ _ ?_
      clear hK7
      refine wp_seq_k ?_; intro K13 hK13
      refine reg hF hS (sq rfl (q_move rfl) <|
          sq rfl (q_move rfl) <|
          sq rfl (q_assign rfl) <|
          sq rfl (q_assign rfl) <|
          sq rfl (q_assign rfl) <|
          sq_end) ?_
      clear hF hS; intro a w hF hS
      refine hK13 _ _ ?_
      clear hK13
      refine wp_ret ?_
      obtain ⟨z, hz1, hS⟩ := St.freezeA hS (by rw [Wi.dgL_len]) (by omega) (Wi.dgL_16 _ _ _ (by omega))
      exact fn_ret (rs := [.tmp 2, .tmp 3, .tmp 4]) rfl hF hS (vs := [_, _, _]) ⟨rfl, rfl, rfl, trivial⟩ (zs' := [z]) (hs' := []) ((List.nil_sublist _).cons_cons _) (List.nil_sublist _) (ret_sl (Wi.getDigs_ok hc1 (by omega)) hz1)

set_option maxHeartbeats 2000000 in
theorem rgds_ct (v : Value) (xs : List UInt8) (hx : xs.length < 1099511627776) (w : World) (hb : Sl encB (ph w) v xs) : Ct Try.prog 35 [v] w (LsR (encA 16) (Wi.getDigs xs)) := by
  refine fn_enter Try.func35 rfl Try.ntmps35 (Nat.le_of_ble_eq_true rfl) fun a hF hS => ?_
  have hbl := hb.1
  refine wp_seq_k ?_; intro K1 hK1
  refine reg hF hS (sq rfl (q_assign rfl) <|
      sq rfl (q_assign rfl) <|
      sq rfl (q_assign rfl) <|
      sq_end) ?_
  clear hF hS; intro a w hF hS
  refine hK1 _ _ ?_
  clear hK1
  refine wp_seq_k ?_; intro K2 hK2
  refine reg hF hS (sq rfl (q_move rfl) <|
      sq rfl (q_call fn39 rfl (fun w hS => rcount_ct _ _ 16 (by omega) w (Sl.mono (hS.le zin0) hb)) (fun _ _ _ h => h)) <|
      sq rfl (q_move rfl) <|
      sq rfl (q_extract rfl rfl) <|
      sq rfl (q_extract rfl rfl) <|
      sq rfl (q_extract rfl rfl) <|
      sq rfl (q_assign rfl) <|
      sq rfl (q_assign rfl) <|
      sq rfl (q_assign rfl) <|
      sq_end) ?_
  clear hF hS; intro a w hF hS
  refine hK2 _ _ ?_
  clear hK2
  refine wp_seq_k ?_; intro K3 hK3
  refine wp_seq_k ?_; intro K4 hK4
  refine reg hF hS (sq rfl (q_move rfl) <|
      sq rfl (q_nei rfl rfl) <|
      sq_end) ?_
  clear hF hS; intro a w hF hS
  refine hK4 _ _ ?_
  clear hK4
  refine wp_ifn hF rfl (fun hc1 => ?_) (fun hc1 => ?_)
  · refine wp_seq_k ?_; intro K5 hK5
    refine reg hF hS (sq rfl (q_move rfl) <|
        sq rfl (q_assign rfl) <|
        sq rfl (q_assign rfl) <|
        sq rfl (q_assign rfl) <|
        sq_end) ?_
    clear hF hS; intro a w hF hS
    refine hK5 _ _ ?_
    clear hK5
    refine wp_ret ?_
    replace hS := hS.zone0
    exact fn_ret (rs := [.tmp 2, .tmp 3, .tmp 4]) rfl hF hS (vs := [_, _, _]) ⟨rfl, rfl, rfl, trivial⟩ (zs' := [fun _ => none]) (hs' := []) ((List.nil_sublist _).cons_cons _) (List.nil_sublist _) (ret_nil (Wi.getDigs_err hc1))
  · have hc1 : (Wi.cnt 16 xs).2.2 = 0 := by omega
    obtain ⟨_, hk1, hk2, hk3, _⟩ := Wi.cnt_ok hc1
    refine wp_skip ?_
    refine hK3 _ _ ?_
    clear hK3
    refine wp_seq_k ?_; intro K6 hK6
    refine reg hF hS (sq rfl (q_assign rfl) <|
        sq_end) ?_
    clear hF hS; intro a w hF hS
    replace hS := hS.nilRow 57 16
    refine hK6 _ _ ?_
    clear hK6
    refine wp_seq_k ?_; intro K7 hK7
    refine wp_seq_k ?_; intro K8 hK8
    refine reg hF hS (sq rfl (q_assign rfl) <|
        sq_end) ?_
    clear hF hS; intro a w hF hS
    refine hK8 _ _ ?_
    clear hK8
    refine wp_block ?_
    obtain ⟨hs0, hhs0, hS⟩ : ∃ h, h = _ ∧ St _ _ h _ := ⟨_, rfl, hS⟩
    refine wp_loopx (γ := Value × Int) ((Value.slice none 0 0), 0) (fun (gg : Value × Int) => match gg with | (u, j) => [(8, u), (6, vi ((Wi.cnt 16 xs).2.1 + 16 * j)), (9, vi j)]) [(0, _), (5, _)] (fun (gg : Value × Int) => match gg with | (u, j) => (hs0.set 0 (.row u 57 16 j.toNat ((Wi.dgL xs (Wi.cnt 16 xs).2.1.toNat j.toNat).flatMap (fun y => y.map vb))))) (fun (gg : Value × Int) => match gg with | (u, j) => 0 ≤ j ∧ j ≤ (Wi.cnt 16 xs).1) (fun (gg : Value × Int) => match gg with | (u, j) => ((Wi.cnt 16 xs).1 - j).toNat) (hF.sub ⟨rfl, (by show some (vi _) = some (vi _); congr 2; omega), rfl, rfl, rfl, trivial⟩) (by subst hhs0; dsimp only; rw [show (0 : Int).toNat = 0 from rfl, show Wi.dgL xs (Wi.cnt 16 xs).2.1.toNat 0 = [] from dgL_0 _ _]; exact hS) (by exact ⟨Int.le_refl _, by omega⟩) ?_
    clear hF hS; rintro ⟨u, j⟩ a w hfact hF hS
    subst hhs0; (try dsimp only at hfact); (try dsimp only at hF); (try dsimp only at hS)
    obtain ⟨hj0, hj1⟩ := hfact
    replace hS : St _ [] [_] _ := hS
    refine wp_seq_k ?_; intro K9 hK9
    refine wp_seq_k ?_; intro K10 hK10
    refine reg hF hS (sq rfl (q_move rfl) <|
        sq rfl (q_move rfl) <|
        sq rfl (q_lti rfl rfl) <|
        sq_end) ?_
    clear hF hS; intro a w hF hS
    refine hK10 _ _ ?_
    clear hK10
    refine wp_ifd hF rfl (fun hc2 => ?_) (fun hc2 => ?_)
    · have hcl : ((xs.drop ((Wi.cnt 16 xs).2.1.toNat + 16 * j.toNat)).take 16).length = 16 := by rw [List.length_take, List.length_drop]; omega
      have hdl : 16 ≤ (xs.drop ((Wi.cnt 16 xs).2.1.toNat + 16 * j.toNat)).length := by rw [List.length_drop]; omega
      refine wp_skip ?_
      refine hK9 _ _ ?_
      clear hK9
      refine wp_seq_k ?_; intro K11 hK11
      refine wp_block ?_
      refine wp_seq_k ?_; intro K12 hK12
      refine regl ?_
      refine wpl_ef hF hS rfl (ef_allocA ty57) ?_
      clear hF hS; rintro _ _ _ a w ⟨b2, rfl, rfl, rfl⟩ hF hS
      rw [show List.replicate 16 (Value.int .u8 0) = (List.replicate 16 (0 : UInt8)).map vb from by rw [List.map_replicate]; rfl] at hS
      refine wpList_nil ?_
      refine hK12 _ _ ?_
      clear hK12
      refine wp_seq_k ?_; intro K13 hK13
      refine wp_seq_k ?_; intro K14 hK14
      refine reg hF hS (sq rfl (q_assign rfl) <|
          sq_end) ?_
      clear hF hS; intro a w hF hS
      refine hK14 _ _ ?_
      clear hK14
      refine wp_block ?_
      obtain ⟨hs0, hhs0, hS⟩ : ∃ h, h = _ ∧ St _ _ h _ := ⟨_, rfl, hS⟩
      refine wp_loopx (γ := Int) (0) (fun (i : Int) => [(11, vi i)]) [(0, _), (5, _), (6, _), (8, _), (9, _), (10, _)] (fun (i : Int) => (hs0.set 0 (.blk b2 57 ((Sha.cpW (xs.drop ((Wi.cnt 16 xs).2.1.toNat + 16 * j.toNat)) 16 i.toNat).map vb)))) (fun (i : Int) => 0 ≤ i ∧ i ≤ 16) (fun (i : Int) => (16 - i).toNat) (hF.sub ⟨rfl, rfl, rfl, rfl, rfl, rfl, rfl, trivial⟩) (by subst hhs0; rw [show (0 : Int).toNat = 0 from rfl, Sha.cpW_0]; exact hS) (by simp) ?_
      clear hF hS; rintro i a w hfact hF hS
      subst hhs0; (try dsimp only at hfact); (try dsimp only at hF); (try dsimp only at hS)
      obtain ⟨hi0, hi1⟩ := hfact
      replace hS : St _ [] [_, _] _ := hS
      have hcw := Sha.cpW_len (xs.drop ((Wi.cnt 16 xs).2.1.toNat + 16 * j.toNat)) 16 i.toNat (by omega) hdl
      refine wp_seq_k ?_; intro K15 hK15
      refine wp_seq_k ?_; intro K16 hK16
      refine reg hF hS (sq rfl (q_move rfl) <|
          sq rfl (q_lti rfl rfl) <|
          sq_end) ?_
      clear hF hS; intro a w hF hS
      refine hK16 _ _ ?_
      clear hK16
      refine wp_ifd hF rfl (fun hc3 => ?_) (fun hc3 => ?_)
      · refine wp_skip ?_
        refine hK15 _ _ ?_
        clear hK15
        refine wp_seq_k ?_; intro K17 hK17
        refine wp_block ?_
        refine regl ?_
        refine wpl_sq hF hS (sq rfl (q_move rfl) <|
            sq rfl (q_move rfl) <|
            sq rfl (q_move rfl) <|
            sq rfl (q_move rfl) <|
            sq rfl (q_addi rfl rfl (by omega)) <|
            sq rfl (q_idx_sl ty28 ty5 hb rfl rfl (by omega)) <|
            sq rfl (q_ld_B ty5 hb zin0 rfl rfl (by omega)) <|
            sq rfl (q_idx_arr0 ty57 ty5 rfl rfl (by omega)) <|
            sq_end) ?_
        clear hF hS; intro a w hF hS
        refine wpl_ef hF hS rfl (ef_st_blkM ty5 0 rfl rfl rfl (by first | omega | (rw [List.length_map]; omega) | (simp; omega) | (simp [*]; done) | decide | (simp [*]; omega)) rfl) ?_
        clear hF hS; rintro _ _ _ a w ⟨rfl, rfl, rfl⟩ hF hS
        replace hS : St _ [] [_, _] _ := hS
        refine wpList_nil ?_
        refine hK17 _ _ ?_
        clear hK17
        refine reg hF hS (sq rfl (q_move rfl) <|
            sq rfl (q_addi rfl rfl (by omega)) <|
            sq rfl (q_assign rfl) <|
            sq_end) ?_
        clear hF hS; intro a w hF hS
        refine ⟨(i + 1), ?_, ?_, hF.sub ⟨rfl, rfl, rfl, rfl, rfl, rfl, rfl, trivial⟩, ?_⟩
        · (try dsimp only); omega
        · (try dsimp only); omega
        · have hst := Sha.cpW_step (xs.drop ((Wi.cnt 16 xs).2.1.toNat + 16 * j.toNat)) 16 i.toNat (by omega) hdl
          have hge : xs.getD ((Wi.cnt 16 xs).2.1 + 16 * j + i).toNat 0 = (xs.drop ((Wi.cnt 16 xs).2.1.toNat + 16 * j.toNat)).getD i.toNat 0 := by rw [List.getD_eq_getElem?_getD, List.getD_eq_getElem?_getD, List.getElem?_drop, show ((Wi.cnt 16 xs).2.1 + 16 * j + i).toNat = (Wi.cnt 16 xs).2.1.toNat + 16 * j.toNat + i.toNat by omega]
          rw [hge, hst, show i.toNat + 1 = (i + 1).toNat by omega] at hS
          exact hS
      · obtain rfl : i = 16 := by omega
        rw [show (16 : Int).toNat = 16 from rfl, Sha.cpW_all] at hS
        clear hcw
        refine wp_exit ?_
        refine hK13 _ _ ?_
        clear hK13
        refine wp_seq_k ?_; intro K18 hK18
        refine regl ?_
        refine wpl_sq hF hS (sq rfl (q_move rfl) <|
            sq rfl (q_ld_blkW ty57 0 rfl rfl (by first | omega | (rw [List.length_map]; omega) | (simp; omega) | (simp [*]; done) | decide | (simp [*]; omega)) rfl) <|
            sq_end) ?_
        clear hF hS; intro a w hF hS
        refine wpl_ef hF hS rfl (ef_bsliceW ty24 ty57 rfl (by first | omega | (rw [List.length_map]; omega) | (simp; omega) | (simp [*]; done) | decide | (simp [*]; omega)) (by decide) (by first | ((repeat first | ((with_reducible refine oc_map ?_); intro _; rfl) | (with_reducible refine oc_app ?_ ?_) | ((with_reducible refine oc_cons ?_ ?_); rfl) | (with_reducible exact oc_nil) | ((with_reducible refine oc_rep ?_); rfl)); done) | (simp [Value.oneCell']; done) | (simp; decide)) (by decide) (by decide)) ?_
        clear hF hS; rintro v3 _ _ a w ⟨rfl, rfl⟩ hF hS
        replace hS : St _ [] [_, _, _] _ := hS
        refine wpl_ef hF hS rfl (ef_append ty24 ty57 2 rfl rfl rfl (src_row ty24 (k := 0) rfl (by first | ((repeat first | ((with_reducible refine oc_map ?_); intro _; rfl) | (with_reducible refine oc_app ?_ ?_) | ((with_reducible refine oc_cons ?_ ?_); rfl) | (with_reducible exact oc_nil) | ((with_reducible refine oc_rep ?_); rfl)); done) | (simp [Value.oneCell']; done) | (simp; decide))) (by first | omega | (rw [List.length_map]; omega) | (simp; omega) | (simp [*]; done) | decide | (simp [*]; omega)) rfl (by decide)) ?_
        clear hF hS; rintro v5 _ _ a w ⟨rfl, rfl⟩ hF hS
        replace hS : St _ [] [_, _, _] _ := hS
        refine wpl_sq hF hS (sq rfl (q_assign rfl) <|
            sq_end) ?_
        clear hF hS; intro a w hF hS
        refine wpList_nil ?_
        refine hK18 _ _ ?_
        clear hK18
        refine reg hF hS (sq rfl (q_move rfl) <|
            sq rfl (q_addi rfl rfl (by omega)) <|
            sq rfl (q_assign rfl) <|
            sq_end) ?_
        clear hF hS; intro a w hF hS
        refine hK11 _ _ ?_
        clear hK11
        refine reg hF hS (sq rfl (q_move rfl) <|
            sq rfl (q_addi rfl rfl (by omega)) <|
            sq rfl (q_assign rfl) <|
            sq_end) ?_
        clear hF hS; intro a w hF hS
        replace hS := hS.keep (List.nil_sublist _) (((List.Sublist.refl _).cons _).cons _)
        refine ⟨(v5, j + 1), ?_, ?_, hF.sub ⟨rfl, (by show some (vi _) = some (vi _); congr 2; omega), rfl, rfl, rfl, trivial⟩, ?_⟩
        · (try dsimp only); omega
        · (try dsimp only); omega
        · have e : (Wi.dgL xs (Wi.cnt 16 xs).2.1.toNat j.toNat).flatMap (fun y => y.map vb) ++ ((xs.drop ((Wi.cnt 16 xs).2.1.toNat + 16 * j.toNat)).take 16).map vb = (Wi.dgL xs (Wi.cnt 16 xs).2.1.toNat (j + 1).toNat).flatMap (fun y => y.map vb) := by rw [show (j + 1).toNat = j.toNat + 1 by omega, Wi.dgL_succ, List.flatMap_append]; simp
          rw [e, show j.toNat + 1 = (j + 1).toNat by omega] at hS
          exact hS
    · refine wp_exit ?_
      refine hK7 _ _ ?_
      clear hK7
      refine wp_seq_k ?_; intro K19 hK19
      refine reg hF hS (sq rfl (q_move rfl) <|
          sq rfl (q_move rfl) <|
          sq rfl (q_assign rfl) <|
          sq rfl (q_assign rfl) <|
          sq rfl (q_assign rfl) <|
          sq_end) ?_
      clear hF hS; intro a w hF hS
      refine hK19 _ _ ?_
      clear hK19
      refine wp_ret ?_
      obtain ⟨z, hz1, hS⟩ := St.freezeA hS (by rw [Wi.dgL_len]) (by omega) (Wi.dgL_16 _ _ _ (by omega))
      exact fn_ret (rs := [.tmp 2, .tmp 3, .tmp 4]) rfl hF hS (vs := [_, _, _]) ⟨rfl, rfl, rfl, trivial⟩ (zs' := [z]) (hs' := []) ((List.nil_sublist _).cons_cons _) (List.nil_sublist _) (ret_sl (Wi.getDigs_ok hc1 (by omega)) hz1)

set_option maxHeartbeats 2000000 in
theorem rdigs_ct (v : Value) (l : List (List UInt8)) (hl : l.length < 1048576) (w : World) (hb : Sl (encA 16) (ph w) v l) : Ct Try.prog 23 [v] w (fun v zs hs => zs = [] ∧ hs = [.row v 5 1 (Wi.dgs l).length ((Wi.dgs l).map vb)]) := by
  refine fn_enter Try.func23 rfl Try.ntmps23 (Nat.le_of_ble_eq_true rfl) fun a hF hS => ?_
  have hil := Wi.int_len9 l.length
  have h16 : ∀ i, i < l.length → (l.getD i []).length = 16 := fun i hi => (hb.rep (i := i) (x := l.getD i []) (by simp [hi])).1
  have hbound : ∀ i, (Ls.encT (fun x => x) l i).length ≤ 9 + l.length * 16 := Ls.encT_len (fun x => x) l 16 (fun x hx => by obtain ⟨j, hj, rfl⟩ := List.mem_iff_getElem.1 hx; have := h16 j hj; rw [List.getD_eq_getElem?_getD, List.getElem?_eq_getElem hj] at this; exact Nat.le_of_eq this)
  refine wp_seq_k ?_; intro K1 hK1
  refine reg hF hS (sq rfl (q_assign rfl) <|
      sq_end) ?_
  clear hF hS; intro a w hF hS
  refine hK1 _ _ ?_
  clear hK1
  refine wp_seq_k ?_; intro K2 hK2
  refine regl ?_
  refine wpl_sq hF hS (sq rfl (q_move rfl) <|
      sq rfl (q_len_sl ty24 hb rfl) <|
      sq_end) ?_
  clear hF hS; intro a w hF hS
  refine wpl_ef hF hS rfl (ef_call fn15 rfl (fun w hS => rint_ct _ (by omega) w )) ?_
  clear hF hS; rintro v1 _ _ a w ⟨_, _, rfl, rfl, rfl, rfl⟩ hF hS
  replace hS : St _ [] [_] _ := hS
  refine wpl_sq hF hS (sq rfl (q_assign rfl) <|
      sq_end) ?_
  clear hF hS; intro a w hF hS
  refine wpList_nil ?_
  refine hK2 _ _ ?_
  clear hK2
  refine wp_seq_k ?_; intro K3 hK3
  refine wp_seq_k ?_; intro K4 hK4
  refine reg hF hS (sq rfl (q_assign rfl) <|
      sq_end) ?_
  clear hF hS; intro a w hF hS
  refine hK4 _ _ ?_
  clear hK4
  refine wp_block ?_
  obtain ⟨hs0, hhs0, hS⟩ : ∃ h, h = _ ∧ St _ _ h _ := ⟨_, rfl, hS⟩
  refine wp_loopx (γ := Value × Int) (v1, 0) (fun (gg : Value × Int) => match gg with | (u, k) => [(3, u), (4, vi k)]) [(0, _)] (fun (gg : Value × Int) => match gg with | (u, k) => (hs0.set 0 (.row u 5 1 (Ls.encT (fun x => x) l k.toNat).length ((Ls.encT (fun x => x) l k.toNat).map vb)))) (fun (gg : Value × Int) => match gg with | (u, k) => 0 ≤ k ∧ k ≤ l.length) (fun (gg : Value × Int) => match gg with | (u, k) => (l.length - k).toNat) (hF.sub ⟨rfl, rfl, rfl, trivial⟩) (by subst hhs0; dsimp only; rw [show (0 : Int).toNat = 0 from rfl, Ls.encT_0]; exact hS) (by exact ⟨Int.le_refl _, by omega⟩) ?_
  clear hF hS; rintro ⟨u, k⟩ a w hfact hF hS
  subst hhs0; (try dsimp only at hfact); (try dsimp only at hF); (try dsimp only at hS)
  obtain ⟨hk0, hk1⟩ := hfact
  replace hS : St _ [] [_] _ := hS
  have htl := hbound k.toNat
  refine wp_seq_k ?_; intro K5 hK5
  refine wp_seq_k ?_; intro K6 hK6
  refine reg hF hS (sq rfl (q_move rfl) <|
      sq rfl (q_move rfl) <|
      sq rfl (q_len_sl ty24 hb rfl) <|
      sq rfl (q_lti rfl rfl) <|
      sq_end) ?_
  clear hF hS; intro a w hF hS
  refine hK6 _ _ ?_
  clear hK6
  refine wp_ifd hF rfl (fun hc1 => ?_) (fun hc1 => ?_)
  · have h16k := h16 k.toNat (by omega)
    refine wp_skip ?_
    refine hK5 _ _ ?_
    clear hK5
    refine wp_seq_k ?_; intro K7 hK7
    refine wp_block ?_
    refine wp_seq_k ?_; intro K8 hK8
    refine reg hF hS (sq rfl (q_assign rfl) <|
        sq_end) ?_
    clear hF hS; intro a w hF hS
    refine hK8 _ _ ?_
    clear hK8
    refine wp_block ?_
    obtain ⟨hs0, hhs0, hS⟩ : ∃ h, h = _ ∧ St _ _ h _ := ⟨_, rfl, hS⟩
    refine wp_loopx (γ := Value × Int) (u, 0) (fun (gg : Value × Int) => match gg with | (u2, i) => [(3, u2), (5, vi i)]) [(0, _), (4, _)] (fun (gg : Value × Int) => match gg with | (u2, i) => (hs0.set 0 (.row u2 5 1 ((Ls.encT (fun x => x) l k.toNat).length + i.toNat) (((Ls.encT (fun x => x) l k.toNat) ++ (l.getD k.toNat []).take i.toNat).map vb)))) (fun (gg : Value × Int) => match gg with | (u2, i) => 0 ≤ i ∧ i ≤ 16) (fun (gg : Value × Int) => match gg with | (u2, i) => (16 - i).toNat) (hF.sub ⟨rfl, rfl, rfl, rfl, trivial⟩) (by subst hhs0; simpa using hS) (by simp) ?_
    clear hF hS; rintro ⟨u2, i⟩ a w hfact hF hS
    subst hhs0; (try dsimp only at hfact); (try dsimp only at hF); (try dsimp only at hS)
    obtain ⟨hi0, hi1⟩ := hfact
    replace hS : St _ [] [_] _ := hS
    refine wp_seq_k ?_; intro K9 hK9
    refine wp_seq_k ?_; intro K10 hK10
    refine reg hF hS (sq rfl (q_move rfl) <|
        sq rfl (q_lti rfl rfl) <|
        sq_end) ?_
    clear hF hS; intro a w hF hS
    refine hK10 _ _ ?_
    clear hK10
    refine wp_ifd hF rfl (fun hc2 => ?_) (fun hc2 => ?_)
    · refine wp_skip ?_
      refine hK9 _ _ ?_
      clear hK9
      refine wp_seq_k ?_; intro K11 hK11
      refine wp_block ?_
      refine regl ?_
      refine wpl_sq hF hS (sq rfl (q_move rfl) <|
          sq rfl (q_move rfl) <|
          sq rfl (q_move rfl) <|
          sq rfl (q_move rfl) <|
          sq rfl (q_idx_sl ty24 ty57 hb rfl rfl (by omega)) <|
          sq rfl (q_idx_AB ty57 ty5 hb rfl rfl (by omega) (by omega)) <|
          sq rfl (q_ld_AB1 ty5 hb zin0 rfl rfl (by omega) (by omega)) <|
          sq_end) ?_
      clear hF hS; intro a w hF hS
      refine wpl_ef hF hS rfl (ef_bsliceA ty28 ty5 rfl rfl (by first | ((repeat first | ((with_reducible refine oc_map ?_); intro _; rfl) | (with_reducible refine oc_app ?_ ?_) | ((with_reducible refine oc_cons ?_ ?_); rfl) | (with_reducible exact oc_nil) | ((with_reducible refine oc_rep ?_); rfl)); done) | (simp [Value.oneCell']; done) | (simp; decide)) (by decide) rfl rfl) ?_
      clear hF hS; rintro v3 _ _ a w ⟨rfl, rfl⟩ hF hS
      replace hS : St _ [] [_, _] _ := hS
      refine wpl_ef hF hS rfl (ef_append ty28 ty5 1 rfl rfl rfl (src_row ty28 (k := 0) rfl (by first | ((repeat first | ((with_reducible refine oc_map ?_); intro _; rfl) | (with_reducible refine oc_app ?_ ?_) | ((with_reducible refine oc_cons ?_ ?_); rfl) | (with_reducible exact oc_nil) | ((with_reducible refine oc_rep ?_); rfl)); done) | (simp [Value.oneCell']; done) | (simp; decide))) (by first | omega | (rw [List.length_map]; omega) | (simp; omega) | (simp [*]; done) | decide | (simp [*]; omega)) rfl (by decide)) ?_
      clear hF hS; rintro v5 _ _ a w ⟨rfl, rfl⟩ hF hS
      replace hS : St _ [] [_, _] _ := hS
      refine wpl_sq hF hS (sq rfl (q_assign rfl) <|
          sq_end) ?_
      clear hF hS; intro a w hF hS
      refine wpList_nil ?_
      refine hK11 _ _ ?_
      clear hK11
      refine reg hF hS (sq rfl (q_move rfl) <|
          sq rfl (q_addi rfl rfl (by omega)) <|
          sq rfl (q_assign rfl) <|
          sq_end) ?_
      clear hF hS; intro a w hF hS
      replace hS := hS.keep (List.nil_sublist _) ((List.Sublist.refl _).cons _)
      refine ⟨(v5, i + 1), ?_, ?_, hF.sub ⟨rfl, rfl, rfl, rfl, trivial⟩, ?_⟩
      · (try dsimp only); omega
      · (try dsimp only); omega
      · have e : ((Ls.encT (fun x => x) l k.toNat) ++ (l.getD k.toNat []).take i.toNat).map vb ++ [vb ((l.getD k.toNat []).getD i.toNat 0)] = ((Ls.encT (fun x => x) l k.toNat) ++ (l.getD k.toNat []).take (i + 1).toNat).map vb := by rw [show (i + 1).toNat = i.toNat + 1 by omega, Ls.take_snoc (0 : UInt8) (show i.toNat < (l.getD k.toNat []).length by omega)]; simp only [List.map_append, List.append_assoc]; rfl
        rw [e, show (Ls.encT (fun x => x) l k.toNat).length + i.toNat + 1 = (Ls.encT (fun x => x) l k.toNat).length + (i + 1).toNat by omega] at hS
        exact hS
    · obtain rfl : i = 16 := by omega
      rw [show (16 : Int).toNat = 16 from rfl, List.take_of_length_le (by omega)] at hS
      rw [show (Ls.encT (fun x => x) l k.toNat).length + 16 = (Ls.encT (fun x => x) l k.toNat).length + (l.getD k.toNat []).length by rw [h16k], ← List.length_append, Ls.encT_step (fun x => x) [] l k.toNat (by omega), show k.toNat + 1 = (k + 1).toNat by omega] at hS
      refine wp_exit ?_
      refine hK7 _ _ ?_
      clear hK7
      refine reg hF hS (sq rfl (q_move rfl) <|
          sq rfl (q_addi rfl rfl (by omega)) <|
          sq rfl (q_assign rfl) <|
          sq_end) ?_
      clear hF hS; intro a w hF hS
      refine ⟨(u2, k + 1), ?_, ?_, hF.sub ⟨rfl, rfl, rfl, trivial⟩, ?_⟩
      · (try dsimp only); omega
      · (try dsimp only); omega
      · exact hS
  · obtain rfl : k = l.length := by omega
    rw [Int.toNat_natCast, Ls.encT_all, dgs_def] at hS
    refine wp_exit ?_
    refine hK3 _ _ ?_
    clear hK3
    refine wp_seq_k ?_; intro K12 hK12
    refine reg hF hS (sq rfl (q_move rfl) <|
        sq rfl (q_assign rfl) <|
        sq_end) ?_
    clear hF hS; intro a w hF hS
    refine hK12 _ _ ?_
    clear hK12
    refine wp_ret ?_
    exact fn_ret (rs := [.tmp 2]) rfl hF hS (vs := [_]) ⟨rfl, trivial⟩ (List.nil_sublist _) (List.Sublist.refl _) ⟨rfl, rfl⟩

def fewN (ps : List (List UInt8)) (i : Nat) : Nat := ps.length + (ps.take i).flatten.length
theorem fewN_step (ps : List (List UInt8)) (i : Nat) (h : i < ps.length) : fewN ps (i + 1) = fewN ps i + (ps.getD i []).length := by
  unfold fewN
  rw [List.take_succ_eq_append_getElem h, List.flatten_append, List.length_append, List.getD_eq_getElem?_getD, List.getElem?_eq_getElem h]
  simp
  omega
def fewAll (ps : List (List UInt8)) : Bool := decide (fewN ps ps.length ≤ 2000)

theorem few0 {ps : List (List UInt8)} : some (vi (ps.length : Int)) = some (vi (fewN ps (0 : Int).toNat : Int)) := by unfold fewN; simp
theorem few9 {ps : List (List UInt8)} : Value.bool (decide ((fewN ps ps.length : Int) ≤ 2000)) = .bool (fewAll ps) := by unfold fewAll; congr 1; rw [decide_eq_decide]; omega

set_option maxHeartbeats 2000000 in
theorem few_ct (v : Value) (ps : List (List UInt8)) (hn : ∀ i, fewN ps i < 4611686018427387904) (w : World) (hb : Sl encS (ph w) v ps) : Ct Try.prog 11 [v] w (fun r _ _ => r = .bool (fewAll ps)) := by
  refine fn_enter Try.func11 rfl Try.ntmps11 (Nat.le_of_ble_eq_true rfl) fun a hF hS => ?_
  have hbl := hb.1
  refine wp_seq_k ?_; intro K1 hK1
  refine reg hF hS (sq rfl (q_assign rfl) <|
      sq_end) ?_
  clear hF hS; intro a w hF hS
  refine hK1 _ _ ?_
  clear hK1
  refine wp_seq_k ?_; intro K2 hK2
  refine reg hF hS (sq rfl (q_move rfl) <|
      sq rfl (q_len_sl ty23 hb rfl) <|
      sq rfl (q_assign rfl) <|
      sq_end) ?_
  clear hF hS; intro a w hF hS
  refine hK2 _ _ ?_
  clear hK2
  refine wp_seq_k ?_; intro K3 hK3
  refine wp_seq_k ?_; intro K4 hK4
  refine reg hF hS (sq rfl (q_move rfl) <|
      sq rfl (q_len_sl ty23 hb rfl) <|
      sq rfl (q_move rfl) <|
      sq_end) ?_
  clear hF hS; intro a w hF hS
  refine hK4 _ _ ?_
  clear hK4
  refine wp_block ?_
  obtain ⟨hs0, hhs0, hS⟩ : ∃ h, h = _ ∧ St _ _ h _ := ⟨_, rfl, hS⟩
  refine wp_loopx (γ := Int) (0) (fun (i : Int) => [(3, vi (fewN ps i.toNat : Int)), (10, vi i)]) [(8, _), (9, _)] (fun (i : Int) => hs0) (fun (i : Int) => 0 ≤ i ∧ i ≤ ps.length) (fun (i : Int) => (ps.length - i).toNat) (hF.sub ⟨few0, rfl, rfl, rfl, trivial⟩) (by subst hhs0; exact hS) (by exact ⟨Int.le_refl _, by omega⟩) ?_
  clear hF hS; rintro i a w hfact hF hS
  subst hhs0; (try dsimp only at hfact); (try dsimp only at hF); (try dsimp only at hS)
  obtain ⟨hi0, hi1⟩ := hfact
  replace hS : St _ [] [] _ := hS
  have hni := hn (i.toNat + 1)
  refine wp_seq_k ?_; intro K5 hK5
  refine reg hF hS (sq rfl (q_lti rfl rfl) <|
      sq_end) ?_
  clear hF hS; intro a w hF hS
  refine hK5 _ _ ?_
  clear hK5
  refine wp_seq_k ?_; intro K6 hK6
  refine wp_ifd hF rfl (fun hc1 => ?_) (fun hc1 => ?_)
  · have hst := fewN_step ps i.toNat (by omega)
    rw [hst] at hni
    refine wp_skip ?_
    refine hK6 _ _ ?_
    clear hK6
    refine wp_seq_k ?_; intro K7 hK7
    refine wp_block ?_
    refine wp_seq_k ?_; intro K8 hK8
    refine reg hF hS (sq rfl (q_idx_sl ty23 ty9 hb rfl rfl (by omega)) <|
        sq rfl (q_ld_S ty9 hb zin0 rfl rfl (by omega)) <|
        sq rfl (q_assign rfl) <|
        sq_end) ?_
    clear hF hS; intro a w hF hS
    refine hK8 _ _ ?_
    clear hK8
    refine reg hF hS (sq rfl (q_move rfl) <|
        sq rfl (q_move rfl) <|
        sq rfl (q_len_s ty9 rfl) <|
        sq rfl (q_addi rfl rfl (by omega)) <|
        sq rfl (q_assign rfl) <|
        sq_end) ?_
    clear hF hS; intro a w hF hS
    refine hK7 _ _ ?_
    clear hK7
    refine reg hF hS (sq rfl (q_addi rfl rfl (by omega)) <|
        sq rfl (q_move rfl) <|
        sq_end) ?_
    clear hF hS; intro a w hF hS
    refine ⟨(i + 1), ?_, ?_, hF.sub ⟨(by show some (vi _) = some (vi _); congr 2; rw [show (i + 1).toNat = i.toNat + 1 by omega, hst]; omega), rfl, rfl, rfl, trivial⟩, ?_⟩
    · (try dsimp only); omega
    · (try dsimp only); omega
    · exact hS
  · obtain rfl : i = ps.length := by omega
    rw [Int.toNat_natCast] at hF
    refine wp_exit ?_
    refine hK3 _ _ ?_
    clear hK3
    refine wp_seq_k ?_; intro K9 hK9
    refine reg hF hS (sq rfl (q_move rfl) <|
        sq rfl (q_lei rfl rfl) <|
        sq rfl (q_assign rfl) <|
        sq_end) ?_
    clear hF hS; intro a w hF hS
    refine hK9 _ _ ?_
    clear hK9
    refine wp_ret ?_
    exact fn_ret (rs := [.tmp 2]) rfl hF hS (vs := [_]) ⟨rfl, trivial⟩ (List.nil_sublist _) (List.nil_sublist _) (few9)
end Go.Proofs.Ytcolgcdnpfpcdaa
