/- A text of a proof over this seat: walks over the program's functions and the plain laws that they need. -/
import Derived.Test.YtkpfjkoeglpfoaaDoorWh21
import Derived.Test.YtkpfjkoeglpfoaaDoorSha7
import Derived.Test.YtkpfjkoeglpfoaaDoorFw18
set_option linter.all false
namespace Go.Proofs.YtkpfjkoeglpfoaaDoor
open Go.Fw
theorem fn13 : FnOk Tryd.prog 13 := ⟨_, Tryd.func13, rfl, by kernel_rfl⟩
theorem fn16 : FnOk Tryd.prog 16 := ⟨_, Tryd.func16, rfl, by kernel_rfl⟩
theorem fn22 : FnOk Tryd.prog 22 := ⟨_, Tryd.func22, rfl, by kernel_rfl⟩

theorem adds_nil (s : Sha.Stm) : Sha.adds s [] = s := rfl

attribute [local irreducible] Sha.sum Sha.mac Sha.ofD Sha.fin Sha.adds Sha.begin_ Sha.inp fewB

set_option maxHeartbeats 2000000 in
theorem law5_ct (tag : Int) (v : Value) (ps : List (List UInt8)) (w : World) (hb : Sl encS (ph w) v ps) {fz0 : Nat × Nat} {bt0 : TypeId} (hg0 : w.heap[0]? = some (.cells (Sha.kc.map vw).toArray bt0 fz0)) {fz1 : Nat × Nat} {bt1 : TypeId} (hg1 : w.heap[1]? = some (.cells (Sha.kc.map vw).toArray bt1 fz1)) : Ct Tryd.prog 7 [vi tag, v] w (fun r _ _ => r = .bool true) := by
  refine fn_enter Tryd.func7 rfl Tryd.ntmps7 (Nat.le_of_ble_eq_true rfl) fun a hF hS => ?_
  have hdl := Sha.ofD_len tag ps
  have hdl2 := Sha.ofD_len (iand tag 255) ps
  refine wp_seq_k ?_; intro K1 hK1
  refine reg hF hS (sq rfl (q_assign rfl) <|
      sq_end) ?_
  clear hF hS; intro a w hF hS
  refine hK1 _ _ ?_
  clear hK1
  refine wp_seq_k ?_; intro K2 hK2
  refine reg hF hS (sq rfl (q_call fn10 rfl (fun w hS => sanity_ct w (hS.ext _ _ hg1)) (fun _ _ _ h => h)) <|
      sq rfl (q_assign rfl) <|
      sq_end) ?_
  clear hF hS; intro a w hF hS
  refine hK2 _ _ ?_
  clear hK2
  refine wp_seq_k ?_; intro K3 hK3
  refine wp_seq_k ?_; intro K4 hK4
  refine reg hF hS (sq rfl (q_move rfl) <|
      sq rfl (q_call fn13 rfl (fun w hS => few_ct _ _ w (Sl.mono (hS.le zin0) hb)) (fun _ _ _ h => h)) <|
      sq rfl (q_not rfl) <|
      sq_end) ?_
  clear hF hS; intro a w hF hS
  refine hK4 _ _ ?_
  clear hK4
  refine wp_if hF rfl (fun hc1 => ?_) (fun hc1 => ?_)
  · refine wp_seq_k ?_; intro K5 hK5
    refine reg hF hS (sq rfl (q_move rfl) <|
        sq rfl (q_assign rfl) <|
        sq_end) ?_
    clear hF hS; intro a w hF hS
    refine hK5 _ _ ?_
    clear hK5
    refine wp_ret ?_
    exact fn_ret (rs := [.tmp 4]) rfl hF hS (vs := [_]) ⟨rfl, trivial⟩ (List.nil_sublist _) (List.nil_sublist _) (rfl)
  · have hfw := few_ok (by simpa using hc1)
    refine wp_skip ?_
    refine hK3 _ _ ?_
    clear hK3
    refine wp_seq_k ?_; intro K6 hK6
    refine regl ?_
    refine wpl_sq hF hS (sq rfl (q_move rfl) <|
        sq rfl (q_move rfl) <|
        sq rfl (q_call fn21 rfl (fun w hS => of_ct _ _ _ (fun p hp => by have := hfw.2 p hp; omega) (by have := hfw.1; omega) w (Sl.mono (hS.le zin0) hb) (hS.ext _ _ hg1)) (fun _ _ _ h => h)) <|
        sq_end) ?_
    clear hF hS; intro a w hF hS
    refine wpl_ef hF hS rfl (ef_allocA ty44) ?_
    clear hF hS; rintro _ _ _ a w ⟨b1, rfl, rfl, rfl⟩ hF hS
    rw [show List.replicate 16 (Value.int .u8 0) = (List.replicate 16 (0 : UInt8)).map vb from by rw [List.map_replicate]; rfl] at hS
    refine wpl_ef hF hS rfl (ef_storeW ty44 0 rfl rfl rfl rfl (by first | omega | (simp; omega) | (simp [*]; done) | decide | (simp [*]; omega)) (by first | ((repeat first | ((with_reducible refine oc_map ?_); intro _; rfl) | (with_reducible refine oc_app ?_ ?_) | ((with_reducible refine oc_cons ?_ ?_); rfl) | (with_reducible exact oc_nil) | ((with_reducible refine oc_rep ?_); rfl)); done) | (simp [Value.oneCell']; done) | (simp; decide)) (by first | omega | (simp; omega) | (simp [*]; done) | decide | (simp [*]; omega))) ?_
    clear hF hS; rintro _ _ _ a w ⟨rfl, rfl, rfl⟩ hF hS
    replace hS : St _ [] [_] _ := hS
    refine wpList_nil ?_
    refine hK6 _ _ ?_
    clear hK6
    refine wp_seq_k ?_; intro K7 hK7
    refine regd mixed (by kernel_rfl) hF hS (sq rfl (q_move rfl) <|
        sq rfl (q_move rfl) <|
        sq_go 16 rfl rfl rfl (q_ld_blkW ty44 0 rfl rfl (by first | omega | (simp; omega) | (simp [*]; done) | decide | (simp [*]; omega)) rfl) <|
        sq_go 16 rfl rfl rfl (q_move rfl) <|
        sq_go 16 rfl rfl rfl (q_move rfl) <|
        sq_go 16 rfl rfl rfl (q_call fn22 rfl (fun w hS => rof_ct _ _ _ (fun p hp => by have := hfw.2 p hp; omega) (by have := hfw.1; omega) w (Sl.mono (hS.le zin0) hb) (hS.ext _ _ hg0)) (fun _ _ _ h => h)) <|
        sq_go 16 rfl rfl rfl (q_dt (q_eqAB ty44 ty5 (by kernel_rfl) rfl rfl (by first | omega | (simp; omega) | (simp [*]; done) | decide | (simp [*]; omega)) (by first | omega | (simp; omega) | (simp [*]; done) | decide | (simp [*]; omega))) (rfl)) <|
        sq rfl (q_pick_t rfl rfl) <|
        sq rfl (q_move rfl) <|
        sq_go 23 rfl rfl rfl (q_ld_blkW ty44 0 rfl rfl (by first | omega | (simp; omega) | (simp [*]; done) | decide | (simp [*]; omega)) rfl) <|
        sq_go 23 rfl rfl rfl (q_move rfl) <|
        sq_go 23 rfl rfl rfl (q_andi rfl rfl) <|
        sq_go 23 rfl rfl rfl (q_move rfl) <|
        sq_go 23 rfl rfl rfl (q_call fn21 rfl (fun w hS => of_ct _ _ _ (fun p hp => by have := hfw.2 p hp; omega) (by have := hfw.1; omega) w (Sl.mono (hS.le zin0) hb) (hS.ext _ _ hg1)) (fun _ _ _ h => h)) <|
        sq_go 23 rfl rfl rfl (q_dt (q_eqAB ty44 ty5 (by kernel_rfl) rfl rfl (by first | omega | (simp; omega) | (simp [*]; done) | decide | (simp [*]; omega)) (by first | omega | (simp; omega) | (simp [*]; done) | decide | (simp [*]; omega))) (by rw [Sha.ofD_and])) <|
        sq rfl (q_pick_t rfl rfl) <|
        sq rfl (q_assign rfl) <|
        sq_end) ?_
    clear hF hS; intro a w hF hS
    refine hK7 _ _ ?_
    clear hK7
    refine wp_ret ?_
    exact fn_ret (rs := [.tmp 4]) rfl hF hS (vs := [_]) ⟨rfl, trivial⟩ (List.nil_sublist _) (List.nil_sublist _) (rfl)

set_option maxHeartbeats 2000000 in
theorem law2_ct (v : Value) (ps : List (List UInt8)) (other : List UInt8) (at_ : UInt8) (w : World) (hb : Sl encS (ph w) v ps) {fz0 : Nat × Nat} {bt0 : TypeId} (hg0 : w.heap[0]? = some (.cells (Sha.kc.map vw).toArray bt0 fz0)) {fz1 : Nat × Nat} {bt1 : TypeId} (hg1 : w.heap[1]? = some (.cells (Sha.kc.map vw).toArray bt1 fz1)) : Ct Tryd.prog 4 [v, vs other, vb at_] w (fun r _ _ => r = .bool true) := by
  refine fn_enter Tryd.func4 rfl Tryd.ntmps4 (Nat.le_of_ble_eq_true rfl) fun a hF hS => ?_
  have hpl := hb.1
  have hb0 := Sha.begin_8
  have hb6 := Sha.begin_64
  have hbn := Sha.begin_n
  have hat := toNat8 at_
  refine wp_seq_k ?_; intro K1 hK1
  refine reg hF hS (sq rfl (q_assign rfl) <|
      sq_end) ?_
  clear hF hS; intro a w hF hS
  refine hK1 _ _ ?_
  clear hK1
  refine wp_seq_k ?_; intro K2 hK2
  refine reg hF hS (sq rfl (q_call fn10 rfl (fun w hS => sanity_ct w (hS.ext _ _ hg1)) (fun _ _ _ h => h)) <|
      sq rfl (q_assign rfl) <|
      sq_end) ?_
  clear hF hS; intro a w hF hS
  refine hK2 _ _ ?_
  clear hK2
  refine wp_seq_k ?_; intro K3 hK3
  refine wp_seq_k ?_; intro K4 hK4
  refine regl ?_
  refine wpl_sq hF hS (sq rfl (q_move rfl) <|
      sq rfl (q_call fn13 rfl (fun w hS => few_ct _ _ w (Sl.mono (hS.le zin0) hb)) (fun _ _ _ h => h)) <|
      sq rfl (q_not rfl) <|
      sq rfl (q_move rfl) <|
      sq_end) ?_
  clear hF hS; intro a w hF hS
  refine wpl_or 3 20 3 hF hS rfl rfl rfl rfl rfl (fun hg => have hg := hg; sq_go 20 rfl rfl rfl (q_move rfl) <|
      sq_go 20 rfl rfl rfl (q_len_s ty9 rfl) <|
      sq_go 20 rfl rfl rfl (q_gti rfl rfl) <|
      sq_end) rfl rfl ?_
  clear hF hS; intro a w hF hS
  refine wpList_nil ?_
  refine hK4 _ _ ?_
  clear hK4
  refine wp_if hF rfl (fun hc1 => ?_) (fun hc1 => ?_)
  · (try simp only [Bool.or_eq_true, Bool.and_eq_true, Bool.or_eq_false_iff, Bool.and_eq_false_iff, decide_eq_true_eq, decide_eq_false_iff_not, Bool.not_eq_true', Bool.not_eq_false'] at hc1)
    refine wp_seq_k ?_; intro K5 hK5
    refine reg hF hS (sq rfl (q_move rfl) <|
        sq rfl (q_assign rfl) <|
        sq_end) ?_
    clear hF hS; intro a w hF hS
    refine hK5 _ _ ?_
    clear hK5
    refine wp_ret ?_
    exact fn_ret (rs := [.tmp 6]) rfl hF hS (vs := [_]) ⟨rfl, trivial⟩ (List.nil_sublist _) (List.nil_sublist _) (rfl)
  · (try simp only [Bool.or_eq_true, Bool.and_eq_true, Bool.or_eq_false_iff, Bool.and_eq_false_iff, decide_eq_true_eq, decide_eq_false_iff_not, Bool.not_eq_true', Bool.not_eq_false'] at hc1)
    have hfw := few_ok hc1.1
    have hfl := Sha.flat12 ps hfw.1 hfw.2
    refine wp_skip ?_
    refine hK3 _ _ ?_
    clear hK3
    refine wp_seq_k ?_; intro K6 hK6
    refine reg hF hS (sq rfl (q_move rfl) <|
        sq rfl (q_cv_bi ty5 ty3 rfl) <|
        sq rfl (q_move rfl) <|
        sq rfl (q_len_sl ty27 hb rfl) <|
        sq rfl (q_addi rfl rfl (by omega)) <|
        sq rfl (q_remi rfl rfl (by omega)) <|
        sq rfl (q_assign rfl) <|
        sq_end) ?_
    clear hF hS; intro a w hF hS
    have hk0 := Int.emod_nonneg (at_.toNat : Int) (show ((ps.length : Int) + 1) ≠ 0 by omega)
    have hk1 := Int.emod_lt_of_pos (at_.toNat : Int) (show (0 : Int) < (ps.length : Int) + 1 by omega)
    generalize (at_.toNat : Int) % ((ps.length : Int) + 1) = k at hF hk0 hk1
    refine hK6 _ _ ?_
    clear hK6
    refine wp_seq_k ?_; intro K7 hK7
    refine regl ?_
    refine wpl_sq hF hS (sq rfl (q_call fn14 rfl (fun w hS => begin_ct w ) (fun _ _ _ h => h)) <|
        sq_end) ?_
    clear hF hS; intro a w hF hS
    refine wpl_ef hF hS rfl (ef_allocA ty34) ?_
    clear hF hS; rintro _ _ _ a w ⟨b1, rfl, rfl, rfl⟩ hF hS
    refine wpl_ef hF hS rfl (ef_storeW ty34 0 rfl rfl rfl rfl (by first | omega | (simp; omega) | (simp [*]; done) | decide | (simp [*]; omega)) (by first | ((repeat first | ((with_reducible refine oc_map ?_); intro _; rfl) | (with_reducible refine oc_app ?_ ?_) | ((with_reducible refine oc_cons ?_ ?_); rfl) | (with_reducible exact oc_nil) | ((with_reducible refine oc_rep ?_); rfl)); done) | (simp [Value.oneCell']; done) | (simp; decide)) (by first | omega | (simp; omega) | (simp [*]; done) | decide | (simp [*]; omega))) ?_
    clear hF hS; rintro _ _ _ a w ⟨rfl, rfl, rfl⟩ hF hS
    (try dsimp only [segs] at hS)
    replace hS : St _ [] [_] _ := hS
    refine wpList_nil ?_
    refine hK7 _ _ ?_
    clear hK7
    refine wp_seq_k ?_; intro K8 hK8
    refine wp_seq_k ?_; intro K9 hK9
    refine reg hF hS (sq rfl (q_assign rfl) <|
        sq_end) ?_
    clear hF hS; intro a w hF hS
    refine hK9 _ _ ?_
    clear hK9
    refine wp_block ?_
    obtain ⟨hs0, hhs0, hS⟩ : ∃ h, h = _ ∧ St _ _ h _ := ⟨_, rfl, hS⟩
    refine wp_loopx (γ := Int) (0) (fun (i : Int) => [(10, vi i)]) [(0, _), (1, _), (7, _), (8, _), (9, _)] (fun (i : Int) => (hs0.set 0 (.blk b1 34 (stmC (Sha.adds Sha.begin_ (ps.take i.toNat).flatten))))) (fun (i : Int) => 0 ≤ i ∧ i ≤ k) (fun (i : Int) => (k - i).toNat) (hF.sub ⟨rfl, rfl, rfl, rfl, rfl, rfl, trivial⟩) (by subst hhs0; simp only [Int.toNat_zero, List.take_zero, List.flatten_nil]; rw [show Sha.adds Sha.begin_ [] = Sha.begin_ from adds_nil _]; exact hS) (by exact ⟨Int.le_refl _, hk0⟩) ?_
    clear hF hS; rintro i a w hfact hF hS
    subst hhs0; (try dsimp only at hfact); (try dsimp only at hF); (try dsimp only at hS)
    obtain ⟨hi0, hi1⟩ := hfact
    replace hS : St _ [] [_] _ := hS
    obtain ⟨hB1, hB2⟩ := Sha.adds_len Sha.begin_ Sha.begin_8 Sha.begin_64 (ps.take i.toNat).flatten
    refine wp_seq_k ?_; intro K10 hK10
    refine wp_seq_k ?_; intro K11 hK11
    refine reg hF hS (sq rfl (q_move rfl) <|
        sq rfl (q_move rfl) <|
        sq rfl (q_lti rfl rfl) <|
        sq_end) ?_
    clear hF hS; intro a w hF hS
    refine hK11 _ _ ?_
    clear hK11
    refine wp_ifd hF rfl (fun hc2 => ?_) (fun hc2 => ?_)
    · have hpi := hfw.2 _ (Sha.getD_mem ps i.toNat (by omega))
      have hst := flat_step ps i.toNat (by omega)
      obtain ⟨hD1, hD2⟩ := Sha.adds_len _ hB1 hB2 (ps.getD i.toNat [])
      have hlen : (stmC (Sha.adds (Sha.adds Sha.begin_ (ps.take i.toNat).flatten) (ps.getD i.toNat []))).length = 73 := by rw [stmC_len]; omega
      refine wp_skip ?_
      refine hK10 _ _ ?_
      clear hK10
      refine wp_seq_k ?_; intro K12 hK12
      refine wp_block ?_
      refine regt 6 mixed (by kernel_rfl) hF hS (sq rfl (q_ld_blkW ty34 0 rfl rfl (by first | omega | (simp; omega) | (simp [*]; done) | decide | (simp [*]; omega)) rfl) <|
          sq rfl (q_move rfl) <|
          sq rfl (q_move rfl) <|
          sq rfl (q_idx_sl ty27 ty9 hb rfl rfl (by omega)) <|
          sq rfl (q_ld_S ty9 hb zin0 rfl rfl (by omega)) <|
          sq rfl (q_call fn15 rfl (fun w hS => add_ct _ _ (by first | assumption | rfl | (simp only [*]; done)) (by first | assumption | rfl | (simp only [*]; done)) (by first | assumption | omega | (simp; done) | (simp; omega) | (simp only [*]; omega)) w (hS.ext _ _ hg1)) (fun _ _ _ h => h)) <|
          sq_end) ?_
      clear hF hS; intro a w hF hS
      refine wpl_ef hF hS rfl (ef_storeW ty34 0 rfl rfl rfl rfl (by first | omega | (simp; omega) | (simp [*]; done) | decide | (simp [*]; omega)) (by first | ((repeat first | ((with_reducible refine oc_map ?_); intro _; rfl) | (with_reducible refine oc_app ?_ ?_) | ((with_reducible refine oc_cons ?_ ?_); rfl) | (with_reducible exact oc_nil) | ((with_reducible refine oc_rep ?_); rfl)); done) | (simp [Value.oneCell']; done) | (simp; decide)) (by first | omega | (simp; omega) | (simp [*]; done) | decide | (simp [*]; omega))) ?_
      clear hF hS; rintro _ _ _ a w ⟨rfl, rfl, rfl⟩ hF hS
      (try dsimp only [segs] at hS)
      replace hS : St _ [] [_] _ := hS
      refine wpList_nil ?_
      refine hK12 _ _ ?_
      clear hK12
      refine reg hF hS (sq rfl (q_move rfl) <|
          sq rfl (q_addi rfl rfl (by omega)) <|
          sq rfl (q_assign rfl) <|
          sq_end) ?_
      clear hF hS; intro a w hF hS
      refine ⟨(i + 1), ?_, ?_, hF.sub ⟨rfl, rfl, rfl, rfl, rfl, rfl, trivial⟩, ?_⟩
      · (try dsimp only); omega
      · (try dsimp only); omega
      · rw [← Sha.adds_app, ← hst, show i.toNat + 1 = (i + 1).toNat by omega] at hS
        exact hS
    · obtain rfl : k = i := by omega
      have hK1 := hB1
      have hK2 := hB2
      refine wp_exit ?_
      refine hK8 _ _ ?_
      clear hK8
      refine wp_seq_k ?_; intro K13 hK13
      refine regl ?_
      refine wpl_sq hF hS (sq rfl (q_ld_blkW ty34 0 rfl rfl (by first | omega | (simp; omega) | (simp [*]; done) | decide | (simp [*]; omega)) rfl) <|
          sq_end) ?_
      clear hF hS; intro a w hF hS
      refine wpl_ef hF hS rfl (ef_allocA ty34) ?_
      clear hF hS; rintro _ _ _ a w ⟨b2, rfl, rfl, rfl⟩ hF hS
      refine wpl_ef hF hS rfl (ef_storeW ty34 0 rfl rfl rfl rfl (by first | omega | (simp; omega) | (simp [*]; done) | decide | (simp [*]; omega)) (by first | ((repeat first | ((with_reducible refine oc_map ?_); intro _; rfl) | (with_reducible refine oc_app ?_ ?_) | ((with_reducible refine oc_cons ?_ ?_); rfl) | (with_reducible exact oc_nil) | ((with_reducible refine oc_rep ?_); rfl)); done) | (simp [Value.oneCell']; done) | (simp; decide)) (by first | omega | (simp; omega) | (simp [*]; done) | decide | (simp [*]; omega))) ?_
      clear hF hS; rintro _ _ _ a w ⟨rfl, rfl, rfl⟩ hF hS
      (try dsimp only [segs] at hS)
      replace hS : St _ [] [_, _] _ := hS
      refine wpList_nil ?_
      refine hK13 _ _ ?_
      clear hK13
      refine wp_seq_k ?_; intro K14 hK14
      refine wp_seq_k ?_; intro K15 hK15
      refine reg hF hS (sq rfl (q_move rfl) <|
          sq rfl (q_assign rfl) <|
          sq_end) ?_
      clear hF hS; intro a w hF hS
      refine hK15 _ _ ?_
      clear hK15
      refine wp_block ?_
      obtain ⟨hs0, hhs0, hS⟩ : ∃ h, h = _ ∧ St _ _ h _ := ⟨_, rfl, hS⟩
      refine wp_loopx (γ := Int) (k) (fun (i : Int) => [(12, vi i)]) [(0, _), (1, _), (7, _), (8, _), (9, _), (11, _)] (fun (i : Int) => (hs0.set 1 (.blk b1 34 (stmC (Sha.adds Sha.begin_ (ps.take i.toNat).flatten))))) (fun (i : Int) => 0 ≤ i ∧ i ≤ ps.length) (fun (i : Int) => (ps.length - i).toNat) (hF.sub ⟨rfl, rfl, rfl, rfl, rfl, rfl, rfl, trivial⟩) (by subst hhs0; exact hS) (by exact ⟨hk0, by omega⟩) ?_
      clear hF hS; rintro i a w hfact hF hS
      subst hhs0; (try dsimp only at hfact); (try dsimp only at hF); (try dsimp only at hS)
      obtain ⟨hi0, hi1⟩ := hfact
      replace hS : St _ [] [_, _] _ := hS
      obtain ⟨hB1, hB2⟩ := Sha.adds_len Sha.begin_ Sha.begin_8 Sha.begin_64 (ps.take i.toNat).flatten
      refine wp_seq_k ?_; intro K16 hK16
      refine wp_seq_k ?_; intro K17 hK17
      refine reg hF hS (sq rfl (q_move rfl) <|
          sq rfl (q_move rfl) <|
          sq rfl (q_len_sl ty27 hb rfl) <|
          sq rfl (q_lti rfl rfl) <|
          sq_end) ?_
      clear hF hS; intro a w hF hS
      refine hK17 _ _ ?_
      clear hK17
      refine wp_ifd hF rfl (fun hc3 => ?_) (fun hc3 => ?_)
      · have hpi := hfw.2 _ (Sha.getD_mem ps i.toNat (by omega))
        have hst := flat_step ps i.toNat (by omega)
        obtain ⟨hD1, hD2⟩ := Sha.adds_len _ hB1 hB2 (ps.getD i.toNat [])
        have hlen : (stmC (Sha.adds (Sha.adds Sha.begin_ (ps.take i.toNat).flatten) (ps.getD i.toNat []))).length = 73 := by rw [stmC_len]; omega
        refine wp_skip ?_
        refine hK16 _ _ ?_
        clear hK16
        refine wp_seq_k ?_; intro K18 hK18
        refine wp_block ?_
        refine regt 6 mixed (by kernel_rfl) hF hS (sq rfl (q_ld_blkW ty34 1 rfl rfl (by first | omega | (simp; omega) | (simp [*]; done) | decide | (simp [*]; omega)) rfl) <|
            sq rfl (q_move rfl) <|
            sq rfl (q_move rfl) <|
            sq rfl (q_idx_sl ty27 ty9 hb rfl rfl (by omega)) <|
            sq rfl (q_ld_S ty9 hb zin0 rfl rfl (by omega)) <|
            sq rfl (q_call fn15 rfl (fun w hS => add_ct _ _ (by first | assumption | rfl | (simp only [*]; done)) (by first | assumption | rfl | (simp only [*]; done)) (by first | assumption | omega | (simp; done) | (simp; omega) | (simp only [*]; omega)) w (hS.ext _ _ hg1)) (fun _ _ _ h => h)) <|
            sq_end) ?_
        clear hF hS; intro a w hF hS
        refine wpl_ef hF hS rfl (ef_storeW ty34 1 rfl rfl rfl rfl (by first | omega | (simp; omega) | (simp [*]; done) | decide | (simp [*]; omega)) (by first | ((repeat first | ((with_reducible refine oc_map ?_); intro _; rfl) | (with_reducible refine oc_app ?_ ?_) | ((with_reducible refine oc_cons ?_ ?_); rfl) | (with_reducible exact oc_nil) | ((with_reducible refine oc_rep ?_); rfl)); done) | (simp [Value.oneCell']; done) | (simp; decide)) (by first | omega | (simp; omega) | (simp [*]; done) | decide | (simp [*]; omega))) ?_
        clear hF hS; rintro _ _ _ a w ⟨rfl, rfl, rfl⟩ hF hS
        (try dsimp only [segs] at hS)
        replace hS : St _ [] [_, _] _ := hS
        refine wpList_nil ?_
        refine hK18 _ _ ?_
        clear hK18
        refine reg hF hS (sq rfl (q_move rfl) <|
            sq rfl (q_addi rfl rfl (by omega)) <|
            sq rfl (q_assign rfl) <|
            sq_end) ?_
        clear hF hS; intro a w hF hS
        refine ⟨(i + 1), ?_, ?_, hF.sub ⟨rfl, rfl, rfl, rfl, rfl, rfl, rfl, trivial⟩, ?_⟩
        · (try dsimp only); omega
        · (try dsimp only); omega
        · rw [← Sha.adds_app, ← hst, show i.toNat + 1 = (i + 1).toNat by omega] at hS
          exact hS
      · obtain rfl : i = ps.length := by omega
        rw [Int.toNat_natCast, List.take_length] at hS hB1 hB2
        have hfa := hfl ps.length
        rw [List.take_length] at hfa
        have hfk := hfl k.toNat
        have hsn := Sha.adds_nlt Sha.begin_ ps.flatten (by rw [hbn]; omega)
        have hsk := Sha.adds_nlt Sha.begin_ (ps.take k.toNat).flatten (by rw [hbn]; omega)
        obtain ⟨hE1, hE2⟩ := Sha.adds_len _ hK1 hK2 other
        have hso := Sha.adds_nlt (Sha.adds Sha.begin_ (ps.take k.toNat).flatten) other (by rw [hsk, hbn]; omega)
        have hsl1 := Sha.sum_len ps.flatten
        have hsl2 := Sha.sum_len (ps.take k.toNat).flatten
        have hsl3 := Sha.sum_len ((ps.take k.toNat).flatten ++ other)
        have hoa : ((ps.take k.toNat).flatten ++ other).length = (ps.take k.toNat).flatten.length + other.length := List.length_append
        have hfi1 := Sha.fin_len (Sha.adds Sha.begin_ ps.flatten)
        have hfi2 := Sha.fin_len (Sha.adds Sha.begin_ (ps.take k.toNat).flatten)
        have hfi3 := Sha.fin_len (Sha.adds (Sha.adds Sha.begin_ (ps.take k.toNat).flatten) other)
        refine wp_exit ?_
        refine hK14 _ _ ?_
        clear hK14
        refine wp_seq_k ?_; intro K19 hK19
        refine regl ?_
        refine wpl_sq hF hS (sq rfl (q_ld_blkW ty34 0 rfl rfl (by first | omega | (simp; omega) | (simp [*]; done) | decide | (simp [*]; omega)) rfl) <|
            sq rfl (q_move rfl) <|
            sq rfl (q_call fn15 rfl (fun w hS => add_ct _ _ (by first | assumption | rfl | (simp only [*]; done)) (by first | assumption | rfl | (simp only [*]; done)) (by first | assumption | omega | (simp; done) | (simp; omega) | (simp only [*]; omega)) w (hS.ext _ _ hg1)) (fun _ _ _ h => h)) <|
            sq_end) ?_
        clear hF hS; intro a w hF hS
        refine wpl_ef hF hS rfl (ef_allocA ty34) ?_
        clear hF hS; rintro _ _ _ a w ⟨b3, rfl, rfl, rfl⟩ hF hS
        refine wpl_ef hF hS rfl (ef_storeW ty34 0 rfl rfl rfl rfl (by first | omega | (simp; omega) | (simp [*]; done) | decide | (simp [*]; omega)) (by first | ((repeat first | ((with_reducible refine oc_map ?_); intro _; rfl) | (with_reducible refine oc_app ?_ ?_) | ((with_reducible refine oc_cons ?_ ?_); rfl) | (with_reducible exact oc_nil) | ((with_reducible refine oc_rep ?_); rfl)); done) | (simp [Value.oneCell']; done) | (simp; decide)) (by first | omega | (simp; omega) | (simp [*]; done) | decide | (simp [*]; omega))) ?_
        clear hF hS; rintro _ _ _ a w ⟨rfl, rfl, rfl⟩ hF hS
        (try dsimp only [segs] at hS)
        replace hS : St _ [] [_, _, _] _ := hS
        refine wpList_nil ?_
        refine hK19 _ _ ?_
        clear hK19
        refine wp_seq_k ?_; intro K20 hK20
        refine reg hF hS (sq rfl (q_move rfl) <|
            sq rfl (q_call fn16 rfl (fun w hS => joined_ct _ _ (fun i => by have := hfl i; omega) w (Sl.mono (hS.le zin0) hb)) (fun _ _ _ h => h)) <|
            sq rfl (q_assign rfl) <|
            sq_end) ?_
        clear hF hS; intro a w hF hS
        refine hK20 _ _ ?_
        clear hK20
        refine wp_seq_k ?_; intro K21 hK21
        refine reg hF hS (sq rfl (q_move rfl) <|
            sq rfl (q_move rfl) <|
            sq rfl (q_slsl_hi ty27 ty9 hb rfl rfl (by omega)) <|
            sq rfl (q_call fn16 rfl (fun w hS => joined_ct _ _ (fun i => by rw [List.drop_zero, List.take_take]; have := hfl (min i k.toNat); omega) w (Sl.mono (hS.le zin0) (Sl.cut hb (by omega)))) (fun _ _ _ h => h)) <|
            sq rfl (q_assign rfl) <|
            sq_end) ?_
        clear hF hS; intro a w hF hS
        simp only [List.drop_zero] at hF
        refine hK21 _ _ ?_
        clear hK21
        refine wp_seq_k ?_; intro K22 hK22
        refine regl ?_
        refine wpl_sq hF hS (sq rfl (q_move rfl) <|
            sq rfl (q_move rfl) <|
            sq_go 68 rfl rfl rfl (q_ld_blkW ty34 2 rfl rfl (by first | omega | (simp; omega) | (simp [*]; done) | decide | (simp [*]; omega)) rfl) <|
            sq_go 68 rfl rfl rfl (q_call fn17 rfl (fun w hS => ssum_ct _ hB1 hB2 (by rw [hsn, hbn]; omega) w (hS.ext _ _ hg1)) (fun _ _ _ h => h)) <|
            sq_go 68 rfl rfl rfl (q_move rfl) <|
            sq_end) ?_
        clear hF hS; intro a w hF hS
        refine wpl_efg hF hS (wanted_go 68 rfl rfl) rfl (ef_s2b ty9 ty22 ty5 rfl (by omega)) ?_
        clear hF hS; rintro v4 _ _ a w ⟨z5, rfl, rfl, hz6⟩ hF hS
        refine wpl_sq hF hS (sq_go 68 rfl rfl rfl (q_call fn12 rfl (fun w hS => rsum_ct _ _ (by first | assumption | omega) w (Sl.mono (hS.le (.inr (by simp))) hz6) (hS.ext _ _ hg0)) (fun _ _ _ h => h)) <|
            sq_go 68 rfl rfl rfl (q_dt (q_eqAB ty24 ty5 (by kernel_rfl) rfl rfl (by first | omega | (simp; omega) | (simp [*]; done) | decide | (simp [*]; omega)) (by first | omega | (simp; omega) | (simp [*]; done) | decide | (simp [*]; omega))) (Sha.sum_def _)) <|
            sq rfl (q_pick_t rfl rfl) <|
            sq rfl (q_move rfl) <|
            sq_go 76 rfl rfl rfl (q_ld_blkW ty34 1 rfl rfl (by first | omega | (simp; omega) | (simp [*]; done) | decide | (simp [*]; omega)) rfl) <|
            sq_go 76 rfl rfl rfl (q_call fn17 rfl (fun w hS => ssum_ct _ hK1 hK2 (by rw [hsk, hbn]; omega) w (hS.ext _ _ hg1)) (fun _ _ _ h => h)) <|
            sq_go 76 rfl rfl rfl (q_move rfl) <|
            sq_end) ?_
        clear hF hS; intro a w hF hS
        refine wpl_efg hF hS (wanted_go 76 rfl rfl) rfl (ef_s2b ty9 ty22 ty5 rfl (by omega)) ?_
        clear hF hS; rintro v7 _ _ a w ⟨z8, rfl, rfl, hz9⟩ hF hS
        refine wpl_sq hF hS (sq_go 76 rfl rfl rfl (q_call fn12 rfl (fun w hS => rsum_ct _ _ (by first | assumption | omega) w (Sl.mono (hS.le (.inr (by simp))) hz9) (hS.ext _ _ hg0)) (fun _ _ _ h => h)) <|
            sq_go 76 rfl rfl rfl (q_dt (q_eqAB ty24 ty5 (by kernel_rfl) rfl rfl (by first | omega | (simp; omega) | (simp [*]; done) | decide | (simp [*]; omega)) (by first | omega | (simp; omega) | (simp [*]; done) | decide | (simp [*]; omega))) (Sha.sum_def _)) <|
            sq rfl (q_pick_t rfl rfl) <|
            sq rfl (q_move rfl) <|
            sq_go 84 rfl rfl rfl (q_ld_blkW ty34 0 rfl rfl (by first | omega | (simp; omega) | (simp [*]; done) | decide | (simp [*]; omega)) rfl) <|
            sq_go 84 rfl rfl rfl (q_call fn17 rfl (fun w hS => ssum_ct _ hE1 hE2 (by rw [hso, hsk, hbn]; omega) w (hS.ext _ _ hg1)) (fun _ _ _ h => h)) <|
            sq_go 84 rfl rfl rfl (q_move rfl) <|
            sq_go 84 rfl rfl rfl (q_move rfl) <|
            sq_go 84 rfl rfl rfl (q_adds rfl rfl (by first | omega | (simp; omega) | (simp [*]; done) | decide | (simp [*]; omega))) <|
            sq_end) ?_
        clear hF hS; intro a w hF hS
        refine wpl_efg hF hS (wanted_go 84 rfl rfl) rfl (ef_s2b ty9 ty22 ty5 rfl (by omega)) ?_
        clear hF hS; rintro v10 _ _ a w ⟨z11, rfl, rfl, hz12⟩ hF hS
        refine wpl_sq hF hS (sq_go 84 rfl rfl rfl (q_call fn12 rfl (fun w hS => rsum_ct _ _ (by first | assumption | omega) w (Sl.mono (hS.le (.inr (by simp))) hz12) (hS.ext _ _ hg0)) (fun _ _ _ h => h)) <|
            sq_go 84 rfl rfl rfl (q_dt (q_eqAB ty24 ty5 (by kernel_rfl) rfl rfl (by first | omega | (simp; omega) | (simp [*]; done) | decide | (simp [*]; omega)) (by first | omega | (simp; omega) | (simp [*]; done) | decide | (simp [*]; omega))) (Sha.sum_def2 _ _)) <|
            sq rfl (q_pick_t rfl rfl) <|
            sq rfl (q_move rfl) <|
            sq_go 94 rfl rfl rfl (q_ld_blkW ty34 2 rfl rfl (by first | omega | (simp; omega) | (simp [*]; done) | decide | (simp [*]; omega)) rfl) <|
            sq_go 94 rfl rfl rfl (q_call fn17 rfl (fun w hS => ssum_ct _ hB1 hB2 (by rw [hsn, hbn]; omega) w (hS.ext _ _ hg1)) (fun _ _ _ h => h)) <|
            sq_go 94 rfl rfl rfl (q_move rfl) <|
            sq_end) ?_
        clear hF hS; intro a w hF hS
        refine wpl_efg hF hS (wanted_go 94 rfl rfl) rfl (ef_s2b ty9 ty22 ty5 rfl (by omega)) ?_
        clear hF hS; rintro v13 _ _ a w ⟨z14, rfl, rfl, hz15⟩ hF hS
        refine wpl_sq hF hS (sq_go 94 rfl rfl rfl (q_call fn11 rfl (fun w hS => sum_ct _ _ (by first | assumption | omega) w (Sl.mono (hS.le (.inr (by simp))) hz15) (hS.ext _ _ hg1)) (fun _ _ _ h => h)) <|
            sq_go 94 rfl rfl rfl (q_dt (q_eqAB ty24 ty5 (by kernel_rfl) rfl rfl (by first | omega | (simp; omega) | (simp [*]; done) | decide | (simp [*]; omega)) (by first | omega | (simp; omega) | (simp [*]; done) | decide | (simp [*]; omega))) (Sha.sum_def _)) <|
            sq rfl (q_pick_t rfl rfl) <|
            sq rfl (q_assign rfl) <|
            sq_end) ?_
        clear hF hS; intro a w hF hS
        refine wpList_nil ?_
        refine hK22 _ _ ?_
        clear hK22
        refine wp_ret ?_
        exact fn_ret (rs := [.tmp 6]) rfl hF hS (vs := [_]) ⟨rfl, trivial⟩ (List.nil_sublist _) (List.nil_sublist _) (rfl)
end Go.Proofs.YtkpfjkoeglpfoaaDoor
