/- A text of a proof over this seat: walks over the program's functions and the plain laws that they need. -/
import Derived.Test.YtkpfjkoeglpfoaaDoorWh6
set_option linter.all false
namespace Go.Proofs.YtkpfjkoeglpfoaaDoor
open Go.Fw
theorem ty27 : Tf Tryd.prog 27 (.slice 9) 1 24 (Value.slice none 0 0) := ⟨Tryd.underlying27, by kernel_rfl⟩
theorem ty44 : Tf Tryd.prog 44 (.array 16 5) 16 16 (.agg (List.replicate 16 (Value.int .u8 0)).toArray) := ⟨Tryd.underlying44, by kernel_rfl⟩
theorem fn33 : FnOk Tryd.prog 33 := ⟨_, Tryd.func33, rfl, by kernel_rfl⟩

@[simp] theorem stmC_len (s : Sha.Stm) : (stmC s).length = s.st.length + (s.bl.length + 1) := by simp [stmC]

attribute [local irreducible] Sha.adds Sha.fin Sha.sum Sha.comp Sha.sch Sha.rounds Sha.outB Sha.ofS Sha.ofD Wi.int Wi.bytes

set_option maxHeartbeats 2000000 in
theorem of_ct (tag : Int) (v : Value) (ps : List (List UInt8)) (hp : ∀ p ∈ ps, p.length < 1048576) (hl : ps.length < 1048576) (w : World) (hb : Sl encS (ph w) v ps) {fz1 : Nat × Nat} {bt1 : TypeId} (hg1 : w.heap[1]? = some (.cells (Sha.kc.map vw).toArray bt1 fz1)) : Ct Tryd.prog 21 [vi tag, v] w (fun r _ _ => r = .agg ((Sha.ofD tag ps).map vb).toArray) := by
  refine fn_enter Tryd.func21 rfl Tryd.ntmps21 (Nat.le_of_ble_eq_true rfl) fun a hF hS => ?_
  have hA := Sha.adds_len Sha.begin_ Sha.begin_8 Sha.begin_64 [ofb tag]
  obtain ⟨hA1, hA2⟩ := hA
  refine wp_seq_k ?_; intro K1 hK1
  refine regl ?_
  refine wpl_ef hF hS rfl (ef_allocA ty44) ?_
  clear hF hS; rintro _ _ _ a w ⟨b1, rfl, rfl, rfl⟩ hF hS
  rw [show List.replicate 16 (Value.int .u8 0) = (List.replicate 16 (0 : UInt8)).map vb from by rw [List.map_replicate]; rfl] at hS
  refine wpList_nil ?_
  refine hK1 _ _ ?_
  clear hK1
  refine wp_seq_k ?_; intro K2 hK2
  revert hF hS; apply regJ (J := J2 (α0 := Value) (α1 := Nat) 32 _ _ _ _ _) #[false, false, false, false, false, false, false, false] 8 mixed rfl rfl
  · intro w hF hS
    refine goW_take 1 #[false, true, false, false, false, false, false, false] rfl (by kernel_rfl) rfl hF (hS.keep (List.Sublist.refl _) (List.nil_sublist _)) (q_move rfl) ?_
    clear hF; intro a hF
    refine goW_take 2 #[false, true, true, false, false, false, false, false] rfl (by kernel_rfl) rfl hF (hS.keep (List.Sublist.refl _) (List.nil_sublist _)) (q_cv_ib ty3 ty5 rfl) ?_
    clear hF; intro a hF
    refine goW_fork [0, 3, 6] (by kernel_rfl) rfl ⟨?_, ?_, ?_, trivial⟩
    · refine stepW_ef #[true, true, true, false, false, false, false, false] rfl rfl hF hS rfl (ef_qt (q_call fn14 rfl (fun w hS => begin_ct w ) (fun _ _ _ h => h))) ?_
      clear hF hS; rintro _ _ _ a w ⟨rfl, rfl, rfl⟩ hF hS
      refine ⟨⟨.inr (hS.keep (List.nil_sublist _) (List.nil_sublist _)), .inr (hS.keep (List.nil_sublist _) (List.nil_sublist _)), trivial⟩, ?_⟩
      refine goW_fork [3, 6] (by kernel_rfl) rfl ⟨?_, ?_, trivial⟩
      · refine stepW_ef #[true, true, true, true, false, false, false, false] rfl rfl hF hS rfl (ef_bsliceA ty22 ty5 rfl rfl (by first | ((repeat first | ((with_reducible refine oc_map ?_); intro _; rfl) | (with_reducible refine oc_app ?_ ?_) | ((with_reducible refine oc_cons ?_ ?_); rfl) | (with_reducible exact oc_nil) | ((with_reducible refine oc_rep ?_); rfl)); done) | (simp [Value.oneCell']; done) | (simp; decide)) (by decide) rfl rfl) ?_
        clear hF hS; rintro v_1_3 _ _ a w ⟨rfl, rfl⟩ hF hS
        replace hS : St _ [] [_, _] _ := hS
        refine ⟨⟨.inl (by kernel_rfl), .inl (by kernel_rfl), trivial⟩, ?_⟩
        refine goW_take 4 #[true, true, true, true, true, false, false, false] rfl (by kernel_rfl) rfl hF (hS.keep (List.Sublist.refl _) ((List.nil_sublist _).cons_cons _)) (q_b2s_row (xs := [_]) ty22 ty9 ty5 0 rfl rfl) ?_
        clear hF; intro a hF
        refine goW_fork [5, 6] (by kernel_rfl) rfl ⟨?_, ?_, trivial⟩
        · refine stepW_ef #[true, true, true, true, true, true, false, false] rfl rfl hF hS rfl (ef_qt (q_call fn15 rfl (fun w hS => add_ct _ _ (by first | assumption | rfl | (simp only [*]; done)) (by first | assumption | rfl | (simp only [*]; done)) (by first | assumption | omega | (simp; done) | (simp; omega) | (simp only [*]; omega)) w (hS.ext _ _ hg1)) (fun _ _ _ h => h))) ?_
          clear hF hS; rintro _ _ _ a w ⟨rfl, rfl, rfl⟩ hF hS
          refine ⟨⟨.inl (by kernel_rfl), .inl (by kernel_rfl), .inl (by kernel_rfl), trivial⟩, ?_⟩
          refine goW_fork [6] (by kernel_rfl) rfl ⟨?_, trivial⟩
          refine stepW_ef #[true, true, true, true, true, true, true, false] rfl rfl hF hS rfl (ef_allocA ty34) ?_
          clear hF hS; rintro _ _ _ a w ⟨b_1_6, rfl, rfl, rfl⟩ hF hS
          refine ⟨⟨.inl (by kernel_rfl), .inl (by kernel_rfl), .inl (by kernel_rfl), trivial⟩, ?_⟩
          refine goW_fork [7] (by kernel_rfl) rfl ⟨?_, trivial⟩
          refine stepW_ef #[true, true, true, true, true, true, true, true] rfl rfl hF hS rfl (ef_storeW ty34 0 rfl rfl rfl rfl (by first | omega | (simp; omega) | (simp [*]; done) | decide | (simp [*]; omega)) (by first | ((repeat first | ((with_reducible refine oc_map ?_); intro _; rfl) | (with_reducible refine oc_app ?_ ?_) | ((with_reducible refine oc_cons ?_ ?_); rfl) | (with_reducible exact oc_nil) | ((with_reducible refine oc_rep ?_); rfl)); done) | (simp [Value.oneCell']; done) | (simp; decide)) (by first | omega | (simp; omega) | (simp [*]; done) | decide | (simp [*]; omega))) ?_
          clear hF hS; rintro _ _ _ a w ⟨rfl, rfl, rfl⟩ hF hS
          (try dsimp only [segs] at hS)
          replace hS : St _ [] [_, _, _] _ := hS
          refine ⟨⟨.inl (by kernel_rfl), .inl (by kernel_rfl), .inl (by kernel_rfl), trivial⟩, ?_⟩
          exact goW_done (by kernel_rfl) (j2_mk v_1_3 b_1_6 (trivial) (hF.sub (L' := [(1, _), (4, _), (5, _)]) ⟨rfl, rfl, rfl, trivial⟩) hS)
        · refine stepW_ef #[true, true, true, true, true, false, true, false] rfl rfl hF hS rfl (ef_allocA ty34) ?_
          clear hF hS; rintro _ _ _ a w ⟨b_1_6, rfl, rfl, rfl⟩ hF hS
          refine ⟨⟨.inr (hS.keep (List.nil_sublist _) (((List.nil_sublist _).cons_cons _).cons _)), .inl (by kernel_rfl), .inl (by kernel_rfl), trivial⟩, ?_⟩
          refine goW_fork [5] (by kernel_rfl) rfl ⟨?_, trivial⟩
          refine stepW_ef #[true, true, true, true, true, true, true, false] rfl rfl hF hS rfl (ef_qt (q_call fn15 rfl (fun w hS => add_ct _ _ (by first | assumption | rfl | (simp only [*]; done)) (by first | assumption | rfl | (simp only [*]; done)) (by first | assumption | omega | (simp; done) | (simp; omega) | (simp only [*]; omega)) w (hS.ext _ _ hg1)) (fun _ _ _ h => h))) ?_
          clear hF hS; rintro _ _ _ a w ⟨rfl, rfl, rfl⟩ hF hS
          refine ⟨⟨.inl (by kernel_rfl), .inl (by kernel_rfl), .inl (by kernel_rfl), trivial⟩, ?_⟩
          refine goW_fork [7] (by kernel_rfl) rfl ⟨?_, trivial⟩
          refine stepW_ef #[true, true, true, true, true, true, true, true] rfl rfl hF hS rfl (ef_storeW ty34 0 rfl rfl rfl rfl (by first | omega | (simp; omega) | (simp [*]; done) | decide | (simp [*]; omega)) (by first | ((repeat first | ((with_reducible refine oc_map ?_); intro _; rfl) | (with_reducible refine oc_app ?_ ?_) | ((with_reducible refine oc_cons ?_ ?_); rfl) | (with_reducible exact oc_nil) | ((with_reducible refine oc_rep ?_); rfl)); done) | (simp [Value.oneCell']; done) | (simp; decide)) (by first | omega | (simp; omega) | (simp [*]; done) | decide | (simp [*]; omega))) ?_
          clear hF hS; rintro _ _ _ a w ⟨rfl, rfl, rfl⟩ hF hS
          (try dsimp only [segs] at hS)
          replace hS : St _ [] [_, _, _] _ := hS
          refine ⟨⟨.inl (by kernel_rfl), .inl (by kernel_rfl), .inl (by kernel_rfl), trivial⟩, ?_⟩
          exact goW_done (by kernel_rfl) (j2_mk v_1_3 b_1_6 (trivial) (hF.sub (L' := [(1, _), (4, _), (5, _)]) ⟨rfl, rfl, rfl, trivial⟩) hS)
      · refine stepW_ef #[true, true, true, false, false, false, true, false] rfl rfl hF hS rfl (ef_allocA ty34) ?_
        clear hF hS; rintro _ _ _ a w ⟨b_1_6, rfl, rfl, rfl⟩ hF hS
        refine ⟨⟨.inr (hS.keep (List.nil_sublist _) (List.nil_sublist _)), .inr (hS.keep (List.nil_sublist _) (List.nil_sublist _)), trivial⟩, ?_⟩
        refine goW_fork [3] (by kernel_rfl) rfl ⟨?_, trivial⟩
        refine stepW_ef #[true, true, true, true, false, false, true, false] rfl rfl hF hS rfl (ef_bsliceA ty22 ty5 rfl rfl (by first | ((repeat first | ((with_reducible refine oc_map ?_); intro _; rfl) | (with_reducible refine oc_app ?_ ?_) | ((with_reducible refine oc_cons ?_ ?_); rfl) | (with_reducible exact oc_nil) | ((with_reducible refine oc_rep ?_); rfl)); done) | (simp [Value.oneCell']; done) | (simp; decide)) (by decide) rfl rfl) ?_
        clear hF hS; rintro v_1_3 _ _ a w ⟨rfl, rfl⟩ hF hS
        replace hS : St _ [] [_, _, _] _ := hS
        refine ⟨⟨.inl (by kernel_rfl), .inl (by kernel_rfl), trivial⟩, ?_⟩
        refine goW_take 4 #[true, true, true, true, true, false, true, false] rfl (by kernel_rfl) rfl hF (hS.keep (List.Sublist.refl _) ((List.nil_sublist _).cons_cons _)) (q_b2s_row (xs := [_]) ty22 ty9 ty5 0 rfl rfl) ?_
        clear hF; intro a hF
        refine goW_fork [5] (by kernel_rfl) rfl ⟨?_, trivial⟩
        refine stepW_ef #[true, true, true, true, true, true, true, false] rfl rfl hF hS rfl (ef_qt (q_call fn15 rfl (fun w hS => add_ct _ _ (by first | assumption | rfl | (simp only [*]; done)) (by first | assumption | rfl | (simp only [*]; done)) (by first | assumption | omega | (simp; done) | (simp; omega) | (simp only [*]; omega)) w (hS.ext _ _ hg1)) (fun _ _ _ h => h))) ?_
        clear hF hS; rintro _ _ _ a w ⟨rfl, rfl, rfl⟩ hF hS
        refine ⟨⟨.inl (by kernel_rfl), .inl (by kernel_rfl), .inl (by kernel_rfl), trivial⟩, ?_⟩
        refine goW_fork [7] (by kernel_rfl) rfl ⟨?_, trivial⟩
        refine stepW_ef #[true, true, true, true, true, true, true, true] rfl rfl hF hS rfl (ef_storeW ty34 1 rfl rfl rfl rfl (by first | omega | (simp; omega) | (simp [*]; done) | decide | (simp [*]; omega)) (by first | ((repeat first | ((with_reducible refine oc_map ?_); intro _; rfl) | (with_reducible refine oc_app ?_ ?_) | ((with_reducible refine oc_cons ?_ ?_); rfl) | (with_reducible exact oc_nil) | ((with_reducible refine oc_rep ?_); rfl)); done) | (simp [Value.oneCell']; done) | (simp; decide)) (by first | omega | (simp; omega) | (simp [*]; done) | decide | (simp [*]; omega))) ?_
        clear hF hS; rintro _ _ _ a w ⟨rfl, rfl, rfl⟩ hF hS
        (try dsimp only [segs] at hS)
        replace hS : St _ [] [_, _, _] _ := hS
        refine ⟨⟨.inl (by kernel_rfl), .inl (by kernel_rfl), .inl (by kernel_rfl), trivial⟩, ?_⟩
        exact goW_done (by kernel_rfl) (j2_mk v_1_3 b_1_6 (trivial) (hF.sub (L' := [(1, _), (4, _), (5, _)]) ⟨rfl, rfl, rfl, trivial⟩) (hS.perm (.swap _ _ _)))
    · refine stepW_ef #[false, true, true, true, false, false, false, false] rfl rfl hF hS rfl (ef_bsliceA ty22 ty5 rfl rfl (by first | ((repeat first | ((with_reducible refine oc_map ?_); intro _; rfl) | (with_reducible refine oc_app ?_ ?_) | ((with_reducible refine oc_cons ?_ ?_); rfl) | (with_reducible exact oc_nil) | ((with_reducible refine oc_rep ?_); rfl)); done) | (simp [Value.oneCell']; done) | (simp; decide)) (by decide) rfl rfl) ?_
      clear hF hS; rintro v_1_3 _ _ a w ⟨rfl, rfl⟩ hF hS
      replace hS : St _ [] [_, _] _ := hS
      refine ⟨⟨.inl (by kernel_rfl), .inl (by kernel_rfl), trivial⟩, ?_⟩
      refine goW_take 4 #[false, true, true, true, true, false, false, false] rfl (by kernel_rfl) rfl hF (hS.keep (List.Sublist.refl _) ((List.nil_sublist _).cons_cons _)) (q_b2s_row (xs := [_]) ty22 ty9 ty5 0 rfl rfl) ?_
      clear hF; intro a hF
      refine goW_fork [0, 6] (by kernel_rfl) rfl ⟨?_, ?_, trivial⟩
      · refine stepW_ef #[true, true, true, true, true, false, false, false] rfl rfl hF hS rfl (ef_qt (q_call fn14 rfl (fun w hS => begin_ct w ) (fun _ _ _ h => h))) ?_
        clear hF hS; rintro _ _ _ a w ⟨rfl, rfl, rfl⟩ hF hS
        refine ⟨⟨.inr (hS.keep (List.nil_sublist _) ((List.nil_sublist _).cons_cons _)), .inl (by kernel_rfl), .inl (by kernel_rfl), trivial⟩, ?_⟩
        refine goW_fork [5, 6] (by kernel_rfl) rfl ⟨?_, ?_, trivial⟩
        · refine stepW_ef #[true, true, true, true, true, true, false, false] rfl rfl hF hS rfl (ef_qt (q_call fn15 rfl (fun w hS => add_ct _ _ (by first | assumption | rfl | (simp only [*]; done)) (by first | assumption | rfl | (simp only [*]; done)) (by first | assumption | omega | (simp; done) | (simp; omega) | (simp only [*]; omega)) w (hS.ext _ _ hg1)) (fun _ _ _ h => h))) ?_
          clear hF hS; rintro _ _ _ a w ⟨rfl, rfl, rfl⟩ hF hS
          refine ⟨⟨.inl (by kernel_rfl), .inl (by kernel_rfl), .inl (by kernel_rfl), trivial⟩, ?_⟩
          refine goW_fork [6] (by kernel_rfl) rfl ⟨?_, trivial⟩
          refine stepW_ef #[true, true, true, true, true, true, true, false] rfl rfl hF hS rfl (ef_allocA ty34) ?_
          clear hF hS; rintro _ _ _ a w ⟨b_1_6, rfl, rfl, rfl⟩ hF hS
          refine ⟨⟨.inl (by kernel_rfl), .inl (by kernel_rfl), .inl (by kernel_rfl), trivial⟩, ?_⟩
          refine goW_fork [7] (by kernel_rfl) rfl ⟨?_, trivial⟩
          refine stepW_ef #[true, true, true, true, true, true, true, true] rfl rfl hF hS rfl (ef_storeW ty34 0 rfl rfl rfl rfl (by first | omega | (simp; omega) | (simp [*]; done) | decide | (simp [*]; omega)) (by first | ((repeat first | ((with_reducible refine oc_map ?_); intro _; rfl) | (with_reducible refine oc_app ?_ ?_) | ((with_reducible refine oc_cons ?_ ?_); rfl) | (with_reducible exact oc_nil) | ((with_reducible refine oc_rep ?_); rfl)); done) | (simp [Value.oneCell']; done) | (simp; decide)) (by first | omega | (simp; omega) | (simp [*]; done) | decide | (simp [*]; omega))) ?_
          clear hF hS; rintro _ _ _ a w ⟨rfl, rfl, rfl⟩ hF hS
          (try dsimp only [segs] at hS)
          replace hS : St _ [] [_, _, _] _ := hS
          refine ⟨⟨.inl (by kernel_rfl), .inl (by kernel_rfl), .inl (by kernel_rfl), trivial⟩, ?_⟩
          exact goW_done (by kernel_rfl) (j2_mk v_1_3 b_1_6 (trivial) (hF.sub (L' := [(1, _), (4, _), (5, _)]) ⟨rfl, rfl, rfl, trivial⟩) hS)
        · refine stepW_ef #[true, true, true, true, true, false, true, false] rfl rfl hF hS rfl (ef_allocA ty34) ?_
          clear hF hS; rintro _ _ _ a w ⟨b_1_6, rfl, rfl, rfl⟩ hF hS
          refine ⟨⟨.inr (hS.keep (List.nil_sublist _) (((List.nil_sublist _).cons_cons _).cons _)), .inl (by kernel_rfl), .inl (by kernel_rfl), trivial⟩, ?_⟩
          refine goW_fork [5] (by kernel_rfl) rfl ⟨?_, trivial⟩
          refine stepW_ef #[true, true, true, true, true, true, true, false] rfl rfl hF hS rfl (ef_qt (q_call fn15 rfl (fun w hS => add_ct _ _ (by first | assumption | rfl | (simp only [*]; done)) (by first | assumption | rfl | (simp only [*]; done)) (by first | assumption | omega | (simp; done) | (simp; omega) | (simp only [*]; omega)) w (hS.ext _ _ hg1)) (fun _ _ _ h => h))) ?_
          clear hF hS; rintro _ _ _ a w ⟨rfl, rfl, rfl⟩ hF hS
          refine ⟨⟨.inl (by kernel_rfl), .inl (by kernel_rfl), .inl (by kernel_rfl), trivial⟩, ?_⟩
          refine goW_fork [7] (by kernel_rfl) rfl ⟨?_, trivial⟩
          refine stepW_ef #[true, true, true, true, true, true, true, true] rfl rfl hF hS rfl (ef_storeW ty34 0 rfl rfl rfl rfl (by first | omega | (simp; omega) | (simp [*]; done) | decide | (simp [*]; omega)) (by first | ((repeat first | ((with_reducible refine oc_map ?_); intro _; rfl) | (with_reducible refine oc_app ?_ ?_) | ((with_reducible refine oc_cons ?_ ?_); rfl) | (with_reducible exact oc_nil) | ((with_reducible refine oc_rep ?_); rfl)); done) | (simp [Value.oneCell']; done) | (simp; decide)) (by first | omega | (simp; omega) | (simp [*]; done) | decide | (simp [*]; omega))) ?_
          clear hF hS; rintro _ _ _ a w ⟨rfl, rfl, rfl⟩ hF hS
          (try dsimp only [segs] at hS)
          replace hS : St _ [] [_, _, _] _ := hS
          refine ⟨⟨.inl (by kernel_rfl), .inl (by kernel_rfl), .inl (by kernel_rfl), trivial⟩, ?_⟩
          exact goW_done (by kernel_rfl) (j2_mk v_1_3 b_1_6 (trivial) (hF.sub (L' := [(1, _), (4, _), (5, _)]) ⟨rfl, rfl, rfl, trivial⟩) hS)
      · refine stepW_ef #[false, true, true, true, true, false, true, false] rfl rfl hF hS rfl (ef_allocA ty34) ?_
        clear hF hS; rintro _ _ _ a w ⟨b_1_6, rfl, rfl, rfl⟩ hF hS
        refine ⟨⟨.inr (hS.keep (List.nil_sublist _) (((List.nil_sublist _).cons_cons _).cons _)), .inl (by kernel_rfl), .inl (by kernel_rfl), trivial⟩, ?_⟩
        refine goW_fork [0] (by kernel_rfl) rfl ⟨?_, trivial⟩
        refine stepW_ef #[true, true, true, true, true, false, true, false] rfl rfl hF hS rfl (ef_qt (q_call fn14 rfl (fun w hS => begin_ct w ) (fun _ _ _ h => h))) ?_
        clear hF hS; rintro _ _ _ a w ⟨rfl, rfl, rfl⟩ hF hS
        refine ⟨⟨.inr (hS.keep (List.nil_sublist _) (((List.nil_sublist _).cons_cons _).cons _)), .inl (by kernel_rfl), .inl (by kernel_rfl), trivial⟩, ?_⟩
        refine goW_fork [5] (by kernel_rfl) rfl ⟨?_, trivial⟩
        refine stepW_ef #[true, true, true, true, true, true, true, false] rfl rfl hF hS rfl (ef_qt (q_call fn15 rfl (fun w hS => add_ct _ _ (by first | assumption | rfl | (simp only [*]; done)) (by first | assumption | rfl | (simp only [*]; done)) (by first | assumption | omega | (simp; done) | (simp; omega) | (simp only [*]; omega)) w (hS.ext _ _ hg1)) (fun _ _ _ h => h))) ?_
        clear hF hS; rintro _ _ _ a w ⟨rfl, rfl, rfl⟩ hF hS
        refine ⟨⟨.inl (by kernel_rfl), .inl (by kernel_rfl), .inl (by kernel_rfl), trivial⟩, ?_⟩
        refine goW_fork [7] (by kernel_rfl) rfl ⟨?_, trivial⟩
        refine stepW_ef #[true, true, true, true, true, true, true, true] rfl rfl hF hS rfl (ef_storeW ty34 0 rfl rfl rfl rfl (by first | omega | (simp; omega) | (simp [*]; done) | decide | (simp [*]; omega)) (by first | ((repeat first | ((with_reducible refine oc_map ?_); intro _; rfl) | (with_reducible refine oc_app ?_ ?_) | ((with_reducible refine oc_cons ?_ ?_); rfl) | (with_reducible exact oc_nil) | ((with_reducible refine oc_rep ?_); rfl)); done) | (simp [Value.oneCell']; done) | (simp; decide)) (by first | omega | (simp; omega) | (simp [*]; done) | decide | (simp [*]; omega))) ?_
        clear hF hS; rintro _ _ _ a w ⟨rfl, rfl, rfl⟩ hF hS
        (try dsimp only [segs] at hS)
        replace hS : St _ [] [_, _, _] _ := hS
        refine ⟨⟨.inl (by kernel_rfl), .inl (by kernel_rfl), .inl (by kernel_rfl), trivial⟩, ?_⟩
        exact goW_done (by kernel_rfl) (j2_mk v_1_3 b_1_6 (trivial) (hF.sub (L' := [(1, _), (4, _), (5, _)]) ⟨rfl, rfl, rfl, trivial⟩) hS)
    · refine stepW_ef #[false, true, true, false, false, false, true, false] rfl rfl hF hS rfl (ef_allocA ty34) ?_
      clear hF hS; rintro _ _ _ a w ⟨b_1_6, rfl, rfl, rfl⟩ hF hS
      refine ⟨⟨.inr (hS.keep (List.nil_sublist _) (List.nil_sublist _)), .inr (hS.keep (List.nil_sublist _) (List.nil_sublist _)), trivial⟩, ?_⟩
      refine goW_fork [0, 3] (by kernel_rfl) rfl ⟨?_, ?_, trivial⟩
      · refine stepW_ef #[true, true, true, false, false, false, true, false] rfl rfl hF hS rfl (ef_qt (q_call fn14 rfl (fun w hS => begin_ct w ) (fun _ _ _ h => h))) ?_
        clear hF hS; rintro _ _ _ a w ⟨rfl, rfl, rfl⟩ hF hS
        refine ⟨⟨.inr (hS.keep (List.nil_sublist _) (List.nil_sublist _)), .inr (hS.keep (List.nil_sublist _) (List.nil_sublist _)), trivial⟩, ?_⟩
        refine goW_fork [3] (by kernel_rfl) rfl ⟨?_, trivial⟩
        refine stepW_ef #[true, true, true, true, false, false, true, false] rfl rfl hF hS rfl (ef_bsliceA ty22 ty5 rfl rfl (by first | ((repeat first | ((with_reducible refine oc_map ?_); intro _; rfl) | (with_reducible refine oc_app ?_ ?_) | ((with_reducible refine oc_cons ?_ ?_); rfl) | (with_reducible exact oc_nil) | ((with_reducible refine oc_rep ?_); rfl)); done) | (simp [Value.oneCell']; done) | (simp; decide)) (by decide) rfl rfl) ?_
        clear hF hS; rintro v_1_3 _ _ a w ⟨rfl, rfl⟩ hF hS
        replace hS : St _ [] [_, _, _] _ := hS
        refine ⟨⟨.inl (by kernel_rfl), .inl (by kernel_rfl), trivial⟩, ?_⟩
        refine goW_take 4 #[true, true, true, true, true, false, true, false] rfl (by kernel_rfl) rfl hF (hS.keep (List.Sublist.refl _) ((List.nil_sublist _).cons_cons _)) (q_b2s_row (xs := [_]) ty22 ty9 ty5 0 rfl rfl) ?_
        clear hF; intro a hF
        refine goW_fork [5] (by kernel_rfl) rfl ⟨?_, trivial⟩
        refine stepW_ef #[true, true, true, true, true, true, true, false] rfl rfl hF hS rfl (ef_qt (q_call fn15 rfl (fun w hS => add_ct _ _ (by first | assumption | rfl | (simp only [*]; done)) (by first | assumption | rfl | (simp only [*]; done)) (by first | assumption | omega | (simp; done) | (simp; omega) | (simp only [*]; omega)) w (hS.ext _ _ hg1)) (fun _ _ _ h => h))) ?_
        clear hF hS; rintro _ _ _ a w ⟨rfl, rfl, rfl⟩ hF hS
        refine ⟨⟨.inl (by kernel_rfl), .inl (by kernel_rfl), .inl (by kernel_rfl), trivial⟩, ?_⟩
        refine goW_fork [7] (by kernel_rfl) rfl ⟨?_, trivial⟩
        refine stepW_ef #[true, true, true, true, true, true, true, true] rfl rfl hF hS rfl (ef_storeW ty34 1 rfl rfl rfl rfl (by first | omega | (simp; omega) | (simp [*]; done) | decide | (simp [*]; omega)) (by first | ((repeat first | ((with_reducible refine oc_map ?_); intro _; rfl) | (with_reducible refine oc_app ?_ ?_) | ((with_reducible refine oc_cons ?_ ?_); rfl) | (with_reducible exact oc_nil) | ((with_reducible refine oc_rep ?_); rfl)); done) | (simp [Value.oneCell']; done) | (simp; decide)) (by first | omega | (simp; omega) | (simp [*]; done) | decide | (simp [*]; omega))) ?_
        clear hF hS; rintro _ _ _ a w ⟨rfl, rfl, rfl⟩ hF hS
        (try dsimp only [segs] at hS)
        replace hS : St _ [] [_, _, _] _ := hS
        refine ⟨⟨.inl (by kernel_rfl), .inl (by kernel_rfl), .inl (by kernel_rfl), trivial⟩, ?_⟩
        exact goW_done (by kernel_rfl) (j2_mk v_1_3 b_1_6 (trivial) (hF.sub (L' := [(1, _), (4, _), (5, _)]) ⟨rfl, rfl, rfl, trivial⟩) (hS.perm (.swap _ _ _)))
      · refine stepW_ef #[false, true, true, true, false, false, true, false] rfl rfl hF hS rfl (ef_bsliceA ty22 ty5 rfl rfl (by first | ((repeat first | ((with_reducible refine oc_map ?_); intro _; rfl) | (with_reducible refine oc_app ?_ ?_) | ((with_reducible refine oc_cons ?_ ?_); rfl) | (with_reducible exact oc_nil) | ((with_reducible refine oc_rep ?_); rfl)); done) | (simp [Value.oneCell']; done) | (simp; decide)) (by decide) rfl rfl) ?_
        clear hF hS; rintro v_1_3 _ _ a w ⟨rfl, rfl⟩ hF hS
        replace hS : St _ [] [_, _, _] _ := hS
        refine ⟨⟨.inl (by kernel_rfl), .inl (by kernel_rfl), trivial⟩, ?_⟩
        refine goW_take 4 #[false, true, true, true, true, false, true, false] rfl (by kernel_rfl) rfl hF (hS.keep (List.Sublist.refl _) ((List.nil_sublist _).cons_cons _)) (q_b2s_row (xs := [_]) ty22 ty9 ty5 0 rfl rfl) ?_
        clear hF; intro a hF
        refine goW_fork [0] (by kernel_rfl) rfl ⟨?_, trivial⟩
        refine stepW_ef #[true, true, true, true, true, false, true, false] rfl rfl hF hS rfl (ef_qt (q_call fn14 rfl (fun w hS => begin_ct w ) (fun _ _ _ h => h))) ?_
        clear hF hS; rintro _ _ _ a w ⟨rfl, rfl, rfl⟩ hF hS
        refine ⟨⟨.inr (hS.keep (List.nil_sublist _) ((List.nil_sublist _).cons_cons _)), .inl (by kernel_rfl), .inl (by kernel_rfl), trivial⟩, ?_⟩
        refine goW_fork [5] (by kernel_rfl) rfl ⟨?_, trivial⟩
        refine stepW_ef #[true, true, true, true, true, true, true, false] rfl rfl hF hS rfl (ef_qt (q_call fn15 rfl (fun w hS => add_ct _ _ (by first | assumption | rfl | (simp only [*]; done)) (by first | assumption | rfl | (simp only [*]; done)) (by first | assumption | omega | (simp; done) | (simp; omega) | (simp only [*]; omega)) w (hS.ext _ _ hg1)) (fun _ _ _ h => h))) ?_
        clear hF hS; rintro _ _ _ a w ⟨rfl, rfl, rfl⟩ hF hS
        refine ⟨⟨.inl (by kernel_rfl), .inl (by kernel_rfl), .inl (by kernel_rfl), trivial⟩, ?_⟩
        refine goW_fork [7] (by kernel_rfl) rfl ⟨?_, trivial⟩
        refine stepW_ef #[true, true, true, true, true, true, true, true] rfl rfl hF hS rfl (ef_storeW ty34 1 rfl rfl rfl rfl (by first | omega | (simp; omega) | (simp [*]; done) | decide | (simp [*]; omega)) (by first | ((repeat first | ((with_reducible refine oc_map ?_); intro _; rfl) | (with_reducible refine oc_app ?_ ?_) | ((with_reducible refine oc_cons ?_ ?_); rfl) | (with_reducible exact oc_nil) | ((with_reducible refine oc_rep ?_); rfl)); done) | (simp [Value.oneCell']; done) | (simp; decide)) (by first | omega | (simp; omega) | (simp [*]; done) | decide | (simp [*]; omega))) ?_
        clear hF hS; rintro _ _ _ a w ⟨rfl, rfl, rfl⟩ hF hS
        (try dsimp only [segs] at hS)
        replace hS : St _ [] [_, _, _] _ := hS
        refine ⟨⟨.inl (by kernel_rfl), .inl (by kernel_rfl), .inl (by kernel_rfl), trivial⟩, ?_⟩
        exact goW_done (by kernel_rfl) (j2_mk v_1_3 b_1_6 (trivial) (hF.sub (L' := [(1, _), (4, _), (5, _)]) ⟨rfl, rfl, rfl, trivial⟩) (hS.perm (.swap _ _ _)))
  rintro a w ⟨v_1_3, b_1_6, -, hF, hS⟩
  (try dsimp only at hF); (try dsimp only at hS)
  refine hK2 _ _ ?_
  clear hK2
  refine wp_seq_k ?_; intro K3 hK3
  refine wp_seq_k ?_; intro K4 hK4
  refine reg hF hS (sq rfl (q_move rfl) <|
      sq rfl (q_len_sl ty27 hb rfl) <|
      sq rfl (q_move rfl) <|
      sq_end) ?_
  clear hF hS; intro a w hF hS
  refine hK4 _ _ ?_
  clear hK4
  refine wp_block ?_
  obtain ⟨hs0, hhs0, hS⟩ : ∃ h, h = _ ∧ St _ _ h _ := ⟨_, rfl, hS⟩
  refine wp_loopx (γ := Int) (0) (fun (i : Int) => [(17, vi i)]) [(4, _), (5, _), (15, _), (16, _)] (fun (i : Int) => (hs0.set 0 (.blk b_1_6 34 (stmC (Sha.ofS tag (ps.take i.toNat)))))) (fun (i : Int) => 0 ≤ i ∧ i ≤ ps.length) (fun (i : Int) => (ps.length - i).toNat) (hF.sub ⟨rfl, rfl, rfl, rfl, rfl, trivial⟩) (by subst hhs0; rw [← Sha.ofS_0] at hS; exact hS) (by exact ⟨Int.le_refl _, by omega⟩) ?_
  clear hF hS; rintro i a w hfact hF hS
  subst hhs0; (try dsimp only at hfact); (try dsimp only at hF); (try dsimp only at hS)
  obtain ⟨hi0, hi1⟩ := hfact
  replace hS : St _ [] [_, _, _] _ := hS
  obtain ⟨hB1, hB2⟩ := Sha.ofS_ok tag (ps.take i.toNat)
  refine wp_seq_k ?_; intro K5 hK5
  refine reg hF hS (sq rfl (q_lti rfl rfl) <|
      sq_end) ?_
  clear hF hS; intro a w hF hS
  refine hK5 _ _ ?_
  clear hK5
  refine wp_seq_k ?_; intro K6 hK6
  refine wp_ifd hF rfl (fun hc1 => ?_) (fun hc1 => ?_)
  · refine wp_skip ?_
    refine hK6 _ _ ?_
    clear hK6
    refine wp_seq_k ?_; intro K7 hK7
    refine wp_block ?_
    refine wp_seq_k ?_; intro K8 hK8
    refine reg hF hS (sq rfl (q_idx_sl ty27 ty9 hb rfl rfl (by omega)) <|
        sq rfl (q_ld_S ty9 hb zin0 rfl rfl (by omega)) <|
        sq rfl (q_assign rfl) <|
        sq_end) ?_
    clear hF hS; intro a w hF hS
    have hpi := hp _ (Sha.getD_mem ps i.toNat (by omega))
    have hbl := Wi.bytes_len (ps.getD i.toNat [])
    obtain ⟨hD1, hD2⟩ := Sha.adds_len _ hB1 hB2 (Wi.bytes (ps.getD i.toNat []))
    have hlen : (stmC (Sha.adds (Sha.ofS tag (ps.take i.toNat)) (Wi.bytes (ps.getD i.toNat [])))).length = 73 := by rw [stmC_len]; omega
    refine hK8 _ _ ?_
    clear hK8
    revert hF hS; apply regJ (J := J1 (α0 := Value) 32 _ _ _ _ _) #[false, false, false, false, false, false] 6 mixed rfl rfl
    · intro w hF hS
      refine goW_take 0 #[true, false, false, false, false, false] rfl (by kernel_rfl) rfl hF (hS.keep (List.Sublist.refl _) ((List.nil_sublist _).cons_cons _)) (q_ld_blkW ty34 0 rfl rfl (by first | omega | (simp; omega) | (simp [*]; done) | decide | (simp [*]; omega)) rfl) ?_
      clear hF; intro a hF
      refine goW_take 1 #[true, true, false, false, false, false] rfl (by kernel_rfl) rfl hF (hS.keep (List.Sublist.refl _) (List.nil_sublist _)) (q_move rfl) ?_
      clear hF; intro a hF
      refine goW_fork [2] (by kernel_rfl) rfl ⟨?_, trivial⟩
      refine stepW_ef #[true, true, true, false, false, false] rfl rfl hF hS rfl (ef_call fn33 rfl (fun w hS => wbytes_ct _ (by first | assumption | omega) w )) ?_
      clear hF hS; rintro v_5_2 _ _ a w ⟨_, _, rfl, rfl, rfl, rfl⟩ hF hS
      replace hS : St _ [] [_, _, _, _] _ := hS
      refine ⟨⟨.inl (by kernel_rfl), .inr (hS.keep (List.nil_sublist _) (((List.nil_sublist _).cons_cons _).cons _)), trivial⟩, ?_⟩
      refine goW_take 3 #[true, true, true, true, false, false] rfl (by kernel_rfl) rfl hF (hS.keep (List.Sublist.refl _) ((List.nil_sublist _).cons_cons _)) (q_b2s_row ty22 ty9 ty5 0 rfl rfl) ?_
      clear hF; intro a hF
      refine goW_fork [4] (by kernel_rfl) rfl ⟨?_, trivial⟩
      refine stepW_ef #[true, true, true, true, true, false] rfl rfl hF hS rfl (ef_qt (q_call fn15 rfl (fun w hS => add_ct _ _ (by first | assumption | rfl | (simp only [*]; done)) (by first | assumption | rfl | (simp only [*]; done)) (by first | assumption | omega | (simp; done) | (simp; omega) | (simp only [*]; omega)) w (hS.ext _ _ hg1)) (fun _ _ _ h => h))) ?_
      clear hF hS; rintro _ _ _ a w ⟨rfl, rfl, rfl⟩ hF hS
      refine ⟨⟨.inl (by kernel_rfl), .inl (by kernel_rfl), .inl (by kernel_rfl), trivial⟩, ?_⟩
      refine goW_fork [5] (by kernel_rfl) rfl ⟨?_, trivial⟩
      refine stepW_ef #[true, true, true, true, true, true] rfl rfl hF hS rfl (ef_storeW ty34 1 rfl rfl rfl rfl (by first | omega | (simp; omega) | (simp [*]; done) | decide | (simp [*]; omega)) (by first | ((repeat first | ((with_reducible refine oc_map ?_); intro _; rfl) | (with_reducible refine oc_app ?_ ?_) | ((with_reducible refine oc_cons ?_ ?_); rfl) | (with_reducible exact oc_nil) | ((with_reducible refine oc_rep ?_); rfl)); done) | (simp [Value.oneCell']; done) | (simp; decide)) (by first | omega | (simp; omega) | (simp [*]; done) | decide | (simp [*]; omega))) ?_
      clear hF hS; rintro _ _ _ a w ⟨rfl, rfl, rfl⟩ hF hS
      (try dsimp only [segs] at hS)
      replace hS : St _ [] [_, _, _, _] _ := hS
      refine ⟨⟨.inl (by kernel_rfl), .inl (by kernel_rfl), .inl (by kernel_rfl), trivial⟩, ?_⟩
      exact goW_done (by kernel_rfl) (j1_mk v_5_2 (trivial) (hF.sub (L' := [(4, _), (5, _), (15, _), (16, _), (17, _)]) ⟨rfl, rfl, rfl, rfl, rfl, trivial⟩) hS)
    rintro a w ⟨v_5_2, -, hF, hS⟩
    (try dsimp only at hF); (try dsimp only at hS)
    refine hK7 _ _ ?_
    clear hK7
    refine reg hF hS (sq rfl (q_addi rfl rfl (by omega)) <|
        sq rfl (q_move rfl) <|
        sq_end) ?_
    clear hF hS; intro a w hF hS
    replace hS := hS.keep (List.nil_sublist _) (((((List.nil_sublist _).cons_cons _).cons_cons _).cons_cons _).cons _)
    refine ⟨(i + 1), ?_, ?_, hF.sub ⟨rfl, rfl, rfl, rfl, rfl, trivial⟩, ?_⟩
    · (try dsimp only); omega
    · (try dsimp only); omega
    · rw [Sha.ofS_step' _ _ _ (by omega), show i.toNat + 1 = (i + 1).toNat by omega] at hS
      exact hS
  · obtain rfl : i = ps.length := by omega
    rw [Int.toNat_natCast, List.take_length] at hS
    obtain ⟨hC1, hC2⟩ := Sha.ofS_ok tag ps
    have hC3 := Sha.ofS_n tag ps hp hl
    have hC4 := Sha.fin_len (Sha.ofS tag ps)
    refine wp_exit ?_
    refine hK3 _ _ ?_
    clear hK3
    refine wp_seq_k ?_; intro K9 hK9
    refine regl ?_
    refine wpl_sq hF hS (sq rfl (q_ld_blkW ty34 0 rfl rfl (by first | omega | (simp; omega) | (simp [*]; done) | decide | (simp [*]; omega)) rfl) <|
        sq rfl (q_call fn17 rfl (fun w hS => ssum_ct _ (by first | assumption | (simp [*]; done)) (by first | assumption | (simp [*]; done)) (by first | assumption | omega) w (hS.ext _ _ hg1)) (fun _ _ _ h => h)) <|
        sq_end) ?_
    clear hF hS; intro a w hF hS
    refine wpl_ef hF hS rfl (ef_allocA ty24) ?_
    clear hF hS; rintro _ _ _ a w ⟨b2, rfl, rfl, rfl⟩ hF hS
    rw [show List.replicate 32 (Value.int .u8 0) = (List.replicate 32 (0 : UInt8)).map vb from by rw [List.map_replicate]; rfl] at hS
    refine wpl_ef hF hS rfl (ef_storeW ty24 0 rfl rfl rfl rfl (by first | omega | (simp; omega) | (simp [*]; done) | decide | (simp [*]; omega)) (by first | ((repeat first | ((with_reducible refine oc_map ?_); intro _; rfl) | (with_reducible refine oc_app ?_ ?_) | ((with_reducible refine oc_cons ?_ ?_); rfl) | (with_reducible exact oc_nil) | ((with_reducible refine oc_rep ?_); rfl)); done) | (simp [Value.oneCell']; done) | (simp; decide)) (by first | omega | (simp; omega) | (simp [*]; done) | decide | (simp [*]; omega))) ?_
    clear hF hS; rintro _ _ _ a w ⟨rfl, rfl, rfl⟩ hF hS
    replace hS : St _ [] [_, _, _, _] _ := hS
    refine wpList_nil ?_
    refine hK9 _ _ ?_
    clear hK9
    refine wp_seq_k ?_; intro K10 hK10
    refine regl ?_
    refine wpl_sq hF hS (sq rfl (q_sla_hi ty24 ty5 rfl rfl (by omega)) <|
        sq rfl (q_s2ap ty44 rfl (by omega)) <|
        sq rfl (q_ld_blkAM ty44 0 rfl rfl (by first | omega | (simp; omega) | (simp [*]; done) | decide | (simp [*]; omega)) rfl) <|
        sq_end) ?_
    clear hF hS; intro a w hF hS
    refine wpl_ef hF hS rfl (ef_storeW ty44 3 rfl rfl rfl rfl (by first | omega | (simp; omega) | (simp [*]; done) | decide | (simp [*]; omega)) (by first | ((repeat first | ((with_reducible refine oc_map ?_); intro _; rfl) | (with_reducible refine oc_app ?_ ?_) | ((with_reducible refine oc_cons ?_ ?_); rfl) | (with_reducible exact oc_nil) | ((with_reducible refine oc_rep ?_); rfl)); done) | (simp [Value.oneCell']; done) | (simp; decide)) (by first | omega | (simp; omega) | (simp [*]; done) | decide | (simp [*]; omega))) ?_
    clear hF hS; rintro _ _ _ a w ⟨rfl, rfl, rfl⟩ hF hS
    replace hS : St _ [] [_, _, _, _] _ := hS
    refine wpList_nil ?_
    refine hK10 _ _ ?_
    clear hK10
    refine wp_ret ?_
    exact fn_ret (rs := [.cell 4 44]) rfl hF hS (vs := [_]) ⟨⟨_, _, _, _, _, _, _, rfl, List.mem_of_getElem? (i := 3) rfl, ty44, .inl ⟨rfl, (by first | omega | (simp; omega) | (simp [*]; done) | decide | (simp [*]; omega)), rfl⟩⟩, trivial⟩ (List.nil_sublist _) (List.nil_sublist _) (by unfold Sha.ofD; rfl)
end Go.Proofs.YtkpfjkoeglpfoaaDoor
