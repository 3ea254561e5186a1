/- A text of a proof over this seat: walks over the program's functions and the plain laws that they need. -/
import Derived.Test.YtkpfjkoeglpfoaaDoorWh1
set_option linter.all false
namespace Go.Proofs.YtkpfjkoeglpfoaaDoor
open Go.Fw
theorem ty9 : Tf Tryd.prog 9 .string 1 16 (Value.string ⟨(List.nil : List UInt8).toArray⟩) := ⟨Tryd.underlying9, by kernel_rfl⟩
theorem ty31 : Tf Tryd.prog 31 (.array 64 5) 64 64 (.agg (List.replicate 64 (Value.int .u8 0)).toArray) := ⟨Tryd.underlying31, by kernel_rfl⟩
theorem ty32 : Tf Tryd.prog 32 (.int .u64) 1 8 (Value.int .u64 0) := ⟨Tryd.underlying32, by kernel_rfl⟩
theorem ty34 : Tf Tryd.prog 34 (.struct #[⟨ "state", 30, 0, false, "", "culprit/hash", 0⟩, ⟨ "block", 31, 8, false, "", "culprit/hash", 32⟩, ⟨ "n", 32, 72, false, "", "culprit/hash", 96⟩]) 73 104 (.agg (List.replicate 8 (Value.int .u32 0) ++ List.replicate 64 (Value.int .u8 0) ++ [Value.int .u64 0]).toArray) := ⟨Tryd.underlying34, by kernel_rfl⟩
theorem fn30 : FnOk Tryd.prog 30 := ⟨_, Tryd.func30, rfl, by kernel_rfl⟩

/-- A stream's cells. -/
@[reducible] def stmC (s : Sha.Stm) : List Value := s.st.map vw ++ (s.bl.map vb ++ [vq s.n])

set_option maxHeartbeats 2000000 in
theorem begin_ct (w : World) : Ct Tryd.prog 14 [] w (fun r _ _ => r = .agg (stmC Sha.begin_).toArray) := by
  refine fn_enter Tryd.func14 rfl Tryd.ntmps14 (Nat.le_of_ble_eq_true rfl) fun a hF hS => ?_
  refine wp_seq_k ?_; intro K1 hK1
  refine regl ?_
  refine wpl_ef hF hS rfl (ef_allocA ty34) ?_
  clear hF hS; rintro _ _ _ a w ⟨b1, rfl, rfl, rfl⟩ hF hS
  refine wpList_nil ?_
  refine hK1 _ _ ?_
  clear hK1
  refine wp_seq_k ?_; intro K2 hK2
  refine regl ?_
  refine wpl_sq hF hS (sq rfl (q_buildA1 ty30 ty29 rfl rfl (by first | ((repeat first | ((with_reducible refine oc_map ?_); intro _; rfl) | (with_reducible refine oc_app ?_ ?_) | ((with_reducible refine oc_cons ?_ ?_); rfl) | (with_reducible exact oc_nil) | ((with_reducible refine oc_rep ?_); rfl)); done) | (simp [Value.oneCell']; done) | (simp; decide)) rfl rfl) <|
      sq rfl (q_build rfl (run_build_struct ty34 (places := [(0, 8), (8, 64), (72, 1)]) (by kernel_rfl) (cells := stmC Sha.begin_) (by kernel_rfl))) <|
      sq_end) ?_
  clear hF hS; intro a w hF hS
  refine wpl_ef hF hS rfl (ef_storeW ty34 0 rfl rfl rfl rfl (by first | omega | (simp; omega) | (simp [*]; done) | decide | (simp [*]; omega)) (by first | ((repeat first | ((with_reducible refine oc_map ?_); intro _; rfl) | (with_reducible refine oc_app ?_ ?_) | ((with_reducible refine oc_cons ?_ ?_); rfl) | (with_reducible exact oc_nil) | ((with_reducible refine oc_rep ?_); rfl)); done) | (simp [Value.oneCell']; done) | (simp; decide)) (by first | omega | (simp; omega) | (simp [*]; done) | decide | (simp [*]; omega))) ?_
  clear hF hS; rintro _ _ _ a w ⟨rfl, rfl, rfl⟩ hF hS
  (try dsimp only [segs] at hS)
  replace hS : St _ [] [_] _ := hS
  refine wpList_nil ?_
  refine hK2 _ _ ?_
  clear hK2
  refine wp_ret ?_
  exact fn_ret (rs := [.cell 0 34]) rfl hF hS (vs := [_]) ⟨⟨_, _, _, _, _, _, _, rfl, List.mem_of_getElem? (i := 0) rfl, ty34, .inl ⟨rfl, (by first | omega | (simp; omega) | (simp [*]; done) | decide | (simp [*]; omega)), rfl⟩⟩, trivial⟩ (List.nil_sublist _) (List.nil_sublist _) (rfl)

set_option maxHeartbeats 2000000 in
theorem add_ct (s : Sha.Stm) (t : List UInt8) (h8 : s.st.length = 8) (h64 : s.bl.length = 64) (ht : t.length < 1099511627776) (w : World) {fz1 : Nat × Nat} {bt1 : TypeId} (hg1 : w.heap[1]? = some (.cells (Sha.kc.map vw).toArray bt1 fz1)) : Ct Tryd.prog 15 [.agg (stmC s).toArray, vs t] w (fun r _ _ => r = .agg (stmC (Sha.adds s t)).toArray) := by
  refine fn_enter Tryd.func15 rfl Tryd.ntmps15 (Nat.le_of_ble_eq_true rfl) fun a hF hS => ?_
  refine wp_seq_k ?_; intro K1 hK1
  refine regl ?_
  refine wpl_ef hF hS rfl (ef_boxA rfl) ?_
  clear hF hS; rintro _ _ _ a w ⟨b1, rfl, rfl, rfl⟩ hF hS
  refine wpl_ef hF hS rfl (ef_allocA ty34) ?_
  clear hF hS; rintro _ _ _ a w ⟨b2, rfl, rfl, rfl⟩ hF hS
  refine wpList_nil ?_
  refine hK1 _ _ ?_
  clear hK1
  refine wp_seq_k ?_; intro K2 hK2
  refine wp_block ?_
  obtain ⟨hs0, hhs0, hS⟩ : ∃ h, h = _ ∧ St _ _ h _ := ⟨_, rfl, hS⟩
  refine wp_loopx (γ := Sha.Stm × List UInt8) (s, t) (fun (gg : Sha.Stm × List UInt8) => match gg with | (s', t') => [(1, vs t')]) [(2, _), (4, _)] (fun (gg : Sha.Stm × List UInt8) => match gg with | (s', t') => (hs0.set 1 (.blk b1 34 (s'.st.map vw ++ (s'.bl.map vb ++ [vq s'.n]))))) (fun (gg : Sha.Stm × List UInt8) => match gg with | (s', t') => s'.st.length = 8 ∧ s'.bl.length = 64 ∧ t'.length < 1099511627776 ∧ Sha.adds s' t' = Sha.adds s t) (fun (gg : Sha.Stm × List UInt8) => match gg with | (s', t') => t'.length) (hF.sub ⟨rfl, rfl, rfl, trivial⟩) (by subst hhs0; exact hS) (by exact ⟨h8, h64, ht, rfl⟩) ?_
  clear hF hS; rintro ⟨s', t'⟩ a w hfact hF hS
  subst hhs0; (try dsimp only at hfact); (try dsimp only at hF); (try dsimp only at hS)
  obtain ⟨h8, h64, ht, hadd⟩ := hfact
  replace hS : St _ [] [_, _] _ := hS
  refine wp_seq_k ?_; intro K3 hK3
  refine wp_seq_k ?_; intro K4 hK4
  refine reg hF hS (sq rfl (q_move rfl) <|
      sq rfl (q_nes (q := []) rfl rfl) <|
      sq_end) ?_
  clear hF hS; intro a w hF hS
  refine hK4 _ _ ?_
  clear hK4
  refine wp_ifn hF rfl (fun hc1 => ?_) (fun hc1 => ?_)
  · have htpos : 0 < t'.length := by
      cases t' with
      | nil => exact absurd rfl hc1
      | cons c t => simp
    refine wp_skip ?_
    refine hK3 _ _ ?_
    clear hK3
    refine wp_block ?_
    refine wp_seq_k ?_; intro K5 hK5
    refine reg hF hS (sq rfl (q_fieldAddr ty34 rfl rfl (s' := 0) (by kernel_rfl)) <|
        sq rfl (q_ld_seg1 ty32 1 [_, _] rfl rfl (by first | omega | (simp; omega) | (simp [*]; done) | decide | (simp [*]; omega)) rfl) <|
        sq rfl (q_remq (q := 64) rfl rfl (by decide)) <|
        sq rfl (q_cv_qi ty32 ty3 rfl) <|
        sq rfl (q_assign rfl) <|
        sq_end) ?_
    clear hF hS; intro a w hF hS
    rw [Sha.at_sgn s'.n] at hF
    generalize hat : s'.n.toNat % 64 = q at hF
    have hq : q < 64 := by omega
    refine hK5 _ _ ?_
    clear hK5
    refine wp_seq_k ?_; intro K6 hK6
    refine regl ?_
    refine wpl_sq hF hS (sq rfl (q_fieldAddr ty34 rfl rfl (s' := 63) (by kernel_rfl)) <|
        sq rfl (q_move rfl) <|
        sq rfl (q_sla_lo ty31 ty5 rfl rfl (by omega)) <|
        sq rfl (q_move rfl) <|
        sq_end) ?_
    clear hF hS; intro a w hF hS
    refine wpl_ef hF hS rfl (ef_copy_segM ty22 ty5 1 [_] rfl rfl rfl (by first | omega | (simp; omega) | (simp [*]; done) | decide | (simp [*]; omega)) (by first | omega | (simp; omega) | (simp [*]; done) | decide | (simp [*]; omega))) ?_
    clear hF hS; rintro _ _ _ a w ⟨rfl, rfl, rfl⟩ hF hS
    (try dsimp only [segs] at hS)
    replace hS : St _ [] [_, _] _ := hS
    refine wpl_sq hF hS (sq rfl (q_assign rfl) <|
        sq_end) ?_
    clear hF hS; intro a w hF hS
    refine wpList_nil ?_
    simp only [Int.toNat_natCast] at hS hF
    obtain ⟨k, hk⟩ : ∃ k, k = min t'.length (64 - q) := ⟨_, rfl⟩
    rw [← hk] at hS
    rw [show min (t'.length : Int) ((64 - q : Nat) : Int) = (k : Int) by omega] at hF
    have hbl : (List.take q s'.bl ++ (List.take k t' ++ List.drop (q + k) s'.bl)).length = 64 := by simp; omega
    generalize hB : List.take q s'.bl ++ (List.take k t' ++ List.drop (q + k) s'.bl) = B at hS hbl
    refine hK6 _ _ ?_
    clear hK6
    refine wp_seq_k ?_; intro K7 hK7
    refine reg hF hS (sq rfl (q_move rfl) <|
        sq rfl (q_move rfl) <|
        sq rfl (q_sl_s_lo ty9 rfl rfl (by omega)) <|
        sq rfl (q_assign rfl) <|
        sq_end) ?_
    clear hF hS; intro a w hF hS
    simp only [Int.toNat_natCast] at hF
    refine hK7 _ _ ?_
    clear hK7
    refine wp_seq_k ?_; intro K8 hK8
    refine regl ?_
    refine wpl_sq hF hS (sq rfl (q_fieldAddr ty34 rfl rfl (s' := 0) (by kernel_rfl)) <|
        sq rfl (q_ld_seg1 ty32 1 [_, _] rfl rfl (by first | omega | (simp; omega) | (simp [*]; done) | decide | (simp [*]; omega)) rfl) <|
        sq rfl (q_move rfl) <|
        sq rfl (q_cv_iq ty3 ty32 rfl) <|
        sq rfl (q_addq rfl rfl) <|
        sq rfl (q_fieldAddr ty34 rfl rfl (s' := 0) (by kernel_rfl)) <|
        sq_end) ?_
    clear hF hS; intro a w hF hS
    refine wpl_ef hF hS rfl (ef_st_seg1 ty32 1 [_, _] rfl rfl rfl (by first | omega | (simp; omega) | (simp [*]; done) | decide | (simp [*]; omega)) rfl) ?_
    clear hF hS; rintro _ _ _ a w ⟨rfl, rfl, rfl⟩ hF hS
    (try dsimp only [segs] at hS)
    replace hS : St _ [] [_, _] _ := hS
    refine wpList_nil ?_
    refine hK8 _ _ ?_
    clear hK8
    refine wp_seq_k ?_; intro K9 hK9
    refine reg hF hS (sq rfl (q_move rfl) <|
        sq rfl (q_move rfl) <|
        sq rfl (q_addi rfl rfl (by omega)) <|
        sq rfl (q_eqi rfl rfl) <|
        sq_end) ?_
    clear hF hS; intro a w hF hS
    refine hK9 _ _ ?_
    clear hK9
    refine wp_ifd hF rfl (fun hc2 => ?_) (fun hc2 => ?_)
    · have hcl := Sha.comp_len s'.st B h8
      refine regt 6 mixed (by kernel_rfl) hF hS (sq rfl (q_fieldAddr ty34 rfl rfl (s' := 7) (by kernel_rfl)) <|
          sq rfl (q_ld_seg ty30 1 [] rfl rfl (by first | omega | (simp; omega) | (simp [*]; done) | decide | (simp [*]; omega)) (by first | omega | (simp; omega) | (simp [*]; done) | decide | (simp [*]; omega)) rfl) <|
          sq rfl (q_fieldAddr ty34 rfl rfl (s' := 63) (by kernel_rfl)) <|
          sq rfl (q_sla ty31 ty5 rfl) <|
          sq rfl (q_call fn30 rfl (fun w hS => compress_ct _ _ _ (by first | assumption | rfl | (simp; done) | (simp; omega)) (by first | assumption | omega | (simp; omega)) w (blk_segV hS 1 [_] rfl (by first | omega | (simp; omega) | (simp [*]; done) | decide | (simp [*]; omega)) (by omega) (by simp)) (hS.ext _ _ hg1)) (fun _ _ _ h => h)) <|
          sq rfl (q_fieldAddr ty34 rfl rfl (s' := 7) (by kernel_rfl)) <|
          sq_end) ?_
      clear hF hS; intro a w hF hS
      refine wpl_ef hF hS rfl (ef_st_seg ty30 1 [] rfl rfl rfl (by first | omega | (simp; omega) | (simp [*]; done) | decide | (simp [*]; omega)) (by first | omega | (simp; omega) | (simp [*]; done) | decide | (simp [*]; omega)) (by first | omega | (simp; omega) | (simp [*]; done) | decide | (simp [*]; omega)) (fun _ => rfl)) ?_
      clear hF hS; rintro _ _ _ a w ⟨rfl, rfl, rfl⟩ hF hS
      (try dsimp only [segs] at hS)
      replace hS : St _ [] [_, _] _ := hS
      refine wpList_nil ?_
      refine ⟨(⟨Sha.comp s'.st B, B, s'.n + ofq (k : Int)⟩, t'.drop k), ?_, ?_, hF.sub ⟨rfl, rfl, rfl, trivial⟩, ?_⟩
      · dsimp only; rw [List.length_drop]; omega
      · exact ⟨Sha.comp_len _ _ h8, hbl, by rw [List.length_drop]; omega, by rw [← hadd, Sha.adds_chunk s' t' q k hat h64 (by omega) (by omega), if_pos (by omega), hB]⟩
      · exact hS
    · refine wp_skip ?_
      refine ⟨(⟨s'.st, B, s'.n + ofq (k : Int)⟩, t'.drop k), ?_, ?_, hF.sub ⟨rfl, rfl, rfl, trivial⟩, ?_⟩
      · dsimp only; rw [List.length_drop]; omega
      · exact ⟨h8, hbl, by rw [List.length_drop]; omega, by rw [← hadd, Sha.adds_chunk s' t' q k hat h64 (by omega) (by omega), if_neg (by omega), hB]⟩
      · exact hS
  · obtain rfl := hc1
    refine wp_exit ?_
    refine hK2 _ _ ?_
    clear hK2
    refine wp_seq_k ?_; intro K10 hK10
    refine regl ?_
    refine wpl_sq hF hS (sq rfl (q_ld_blkW ty34 1 rfl rfl (by first | omega | (simp; omega) | (simp [*]; done) | decide | (simp [*]; omega)) rfl) <|
        sq_end) ?_
    clear hF hS; intro a w hF hS
    refine wpl_ef hF hS rfl (ef_storeW ty34 0 rfl rfl rfl rfl (by first | omega | (simp; omega) | (simp [*]; done) | decide | (simp [*]; omega)) (by first | ((repeat first | ((with_reducible refine oc_map ?_); intro _; rfl) | (with_reducible refine oc_app ?_ ?_) | ((with_reducible refine oc_cons ?_ ?_); rfl) | (with_reducible exact oc_nil) | ((with_reducible refine oc_rep ?_); rfl)); done) | (simp [Value.oneCell']; done) | (simp; decide)) (by first | omega | (simp; omega) | (simp [*]; done) | decide | (simp [*]; omega))) ?_
    clear hF hS; rintro _ _ _ a w ⟨rfl, rfl, rfl⟩ hF hS
    (try dsimp only [segs] at hS)
    replace hS : St _ [] [_, _] _ := hS
    refine wpList_nil ?_
    refine hK10 _ _ ?_
    clear hK10
    refine wp_ret ?_
    exact fn_ret (rs := [.cell 4 34]) rfl hF hS (vs := [_]) ⟨⟨_, _, _, _, _, _, _, rfl, List.mem_of_getElem? (i := 0) rfl, ty34, .inl ⟨rfl, (by first | omega | (simp; omega) | (simp [*]; done) | decide | (simp [*]; omega)), rfl⟩⟩, trivial⟩ (List.nil_sublist _) (List.nil_sublist _) (by rw [← hadd]; rfl)
end Go.Proofs.YtkpfjkoeglpfoaaDoor
