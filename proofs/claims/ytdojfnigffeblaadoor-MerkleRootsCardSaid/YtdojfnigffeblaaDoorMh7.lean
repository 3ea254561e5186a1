/- A text of a proof over this seat: walks over the program's functions and the plain laws that they need. -/
import Derived.Test.YtdojfnigffeblaaDoorMh6
import Derived.Test.YtdojfnigffeblaaDoorFwB
set_option linter.all false
namespace Go.Proofs.YtdojfnigffeblaaDoor
open Go.Fw
theorem ty29 : Tf Tryd.prog 29 (.array 16 5) 16 16 (.agg (List.replicate 16 (Value.int .u8 0)).toArray) := ⟨Tryd.underlying29, by kernel_rfl⟩
theorem ty47 : Tf Tryd.prog 47 (.slice 9) 1 24 (Value.slice none 0 0) := ⟨Tryd.underlying47, by kernel_rfl⟩
theorem fn74 : FnOk Tryd.prog 74 := ⟨_, Tryd.func74, rfl, by kernel_rfl⟩
theorem fn103 : FnOk Tryd.prog 103 := ⟨_, Tryd.func103, rfl, by kernel_rfl⟩
theorem fn105 : FnOk Tryd.prog 105 := ⟨_, Tryd.func105, rfl, by kernel_rfl⟩

@[simp] theorem stmC_len (s : Sha.Stm) : (stmC s).length = s.st.length + (s.bl.length + 1) := by simp [stmC]

attribute [local irreducible] Sha.adds Sha.fin Sha.sum Sha.comp Sha.sch Sha.rounds Sha.outB Sha.ofS Sha.ofD Wi.int Wi.bytes

set_option maxRecDepth 4000 in
set_option maxHeartbeats 2000000 in
theorem of_ct (tag : Int) (v : Value) (ps : List (List UInt8)) (hp : ∀ p ∈ ps, p.length < 1048576) (hl : ps.length < 1048576) (w : World) (hb : Sl encS (ph w) v ps) {fz1 : Nat × Nat} {bt1 : TypeId} (hg1 : w.heap[2]? = some (.cells (Sha.kc.map vw).toArray bt1 fz1)) : Ct Tryd.prog 78 [vi tag, v] w (fun r _ _ => r = .agg ((Sha.ofD tag ps).map vb).toArray) := by
 refine fn_enter Tryd.func78 rfl Tryd.ntmps78 (Nat.le_of_ble_eq_true rfl) fun a hF hS => ?_
 have hA := Sha.adds_len Sha.begin_ Sha.begin_8 Sha.begin_64 [ofb tag]
 obtain ⟨hA1, hA2⟩ := hA
 refine wp_seq_k ?_; intro K1 hK1
 refine regl ?_
 refine wpl_ef hF hS rfl (ef_allocA ty29) ?_
 clear hF hS; rintro _ _ _ a w ⟨b1, rfl, rfl, rfl⟩ hF hS
 rw [show List.replicate 16 (Value.int .u8 0) = (List.replicate 16 (0 : UInt8)).map vb from by rw [List.map_replicate] <;> rfl] at hS
 refine wpList_nil ?_
 refine hK1 _ _ ?_
 clear hK1
 refine wp_seq_k ?_; intro K2 hK2
 revert hS; revert hF; apply regJ (J := J2 (α0 := Value) (α1 := Nat) 32 _ _ _ _ _) #[false, false, false, false, false, false, false, false] 8 mixed rfl rfl
 ·intro w hF hS
  refine goW_take 1 _ rfl kQ rfl hF (hS.keep sQ zQ) (q_move rfl) ?_
  clear hF; intro a hF
  refine goW_take 2 _ rfl kQ rfl hF (hS.keep sQ zQ) (q_cv_ib ty3 ty5 rfl) ?_
  clear hF; intro a hF
  refine goW_fork [0, 3, 6] kQ rfl ⟨?_, ?_, ?_, trivial⟩
  ·refine stepW_ef _ rfl rfl hF hS rfl (ef_qt (q_call fn103 rfl (fun w hS => begin_ct w ) (fun _ _ _ h => h))) ?_
   clear hF hS; rintro _ _ _ a w ⟨rfl, rfl, rfl⟩ hF hS
   refine ⟨⟨.inr hS.k0, .inr hS.k0, trivial⟩, ?_⟩
   refine goW_fork [3, 6] kQ rfl ⟨?_, ?_, trivial⟩
   ·refine stepW_ef _ rfl rfl hF hS rfl (ef_bsliceA ty39 ty5 rfl rfl oQ (by decide) rfl rfl) ?_
    clear hF hS; rintro v_1_3 _ _ a w ⟨rfl, rfl⟩ hF hS
    refine ⟨⟨iQ, iQ, trivial⟩, ?_⟩
    refine goW_take 4 _ rfl kQ rfl hF (hS.keep sQ (zQ.k)) (q_b2s_row (xs := [_]) ty39 ty9 ty5 0 rfl rfl) ?_
    clear hF; intro a hF
    refine goW_fork [5, 6] kQ rfl ⟨?_, ?_, trivial⟩
    ·refine stepW_ef _ rfl rfl hF hS rfl (ef_qt (q_call fn104 rfl (fun w hS => add_ct _ _ (by first | assumption | rfl | (simp only [*]; done)) (by first | assumption | rfl | (simp only [*]; done)) (by first | assumption | omega | (simp; done) | (simp; omega) | (simp only [*]; omega)) w (hS.ext _ _ hg1)) (fun _ _ _ h => h))) ?_
     clear hF hS; rintro _ _ _ a w ⟨rfl, rfl, rfl⟩ hF hS
     refine ⟨⟨iQ, iQ, iQ, trivial⟩, ?_⟩
     refine gQ 6 rfl rfl hF hS rfl (ef_allocA ty155) ?_
     clear hF hS; rintro _ _ _ a w ⟨b_1_6, rfl, rfl, rfl⟩ hF hS
     refine ⟨⟨iQ, iQ, iQ, trivial⟩, ?_⟩
     refine gQ 7 rfl rfl hF hS rfl (ef_storeW ty155 0 rfl rfl rfl rfl bQ oQ bQ) ?_
     clear hF hS; rintro _ _ _ a w ⟨rfl, rfl, rfl⟩ hF hS
     (try dsimp only [segs] at hS)
     replace hS : St _ [] [_, _, _] _ := hS
     refine ⟨⟨iQ, iQ, iQ, trivial⟩, ?_⟩
     exact goW_done kQ (j2_mk v_1_3 b_1_6 (trivial) (hF.sub (L' := [(1, _), (4, _), (5, _)]) ⟨rfl, rfl, rfl, trivial⟩) hS)
    ·refine stepW_ef _ rfl rfl hF hS rfl (ef_allocA ty155) ?_
     clear hF hS; rintro _ _ _ a w ⟨b_1_6, rfl, rfl, rfl⟩ hF hS
     refine ⟨⟨.inr (hS.k1 (zQ.k.n)), iQ, iQ, trivial⟩, ?_⟩
     refine gQ 5 rfl rfl hF hS rfl (ef_qt (q_call fn104 rfl (fun w hS => add_ct _ _ (by first | assumption | rfl | (simp only [*]; done)) (by first | assumption | rfl | (simp only [*]; done)) (by first | assumption | omega | (simp; done) | (simp; omega) | (simp only [*]; omega)) w (hS.ext _ _ hg1)) (fun _ _ _ h => h))) ?_
     clear hF hS; rintro _ _ _ a w ⟨rfl, rfl, rfl⟩ hF hS
     refine ⟨⟨iQ, iQ, iQ, trivial⟩, ?_⟩
     refine gQ 7 rfl rfl hF hS rfl (ef_storeW ty155 0 rfl rfl rfl rfl bQ oQ bQ) ?_
     clear hF hS; rintro _ _ _ a w ⟨rfl, rfl, rfl⟩ hF hS
     (try dsimp only [segs] at hS)
     replace hS : St _ [] [_, _, _] _ := hS
     refine ⟨⟨iQ, iQ, iQ, trivial⟩, ?_⟩
     exact goW_done kQ (j2_mk v_1_3 b_1_6 (trivial) (hF.sub (L' := [(1, _), (4, _), (5, _)]) ⟨rfl, rfl, rfl, trivial⟩) hS)
   ·refine stepW_ef _ rfl rfl hF hS rfl (ef_allocA ty155) ?_
    clear hF hS; rintro _ _ _ a w ⟨b_1_6, rfl, rfl, rfl⟩ hF hS
    refine ⟨⟨.inr hS.k0, .inr hS.k0, trivial⟩, ?_⟩
    refine gQ 3 rfl rfl hF hS rfl (ef_bsliceA ty39 ty5 rfl rfl oQ (by decide) rfl rfl) ?_
    clear hF hS; rintro v_1_3 _ _ a w ⟨rfl, rfl⟩ hF hS
    refine ⟨⟨iQ, iQ, trivial⟩, ?_⟩
    refine goW_take 4 _ rfl kQ rfl hF (hS.keep sQ (zQ.k)) (q_b2s_row (xs := [_]) ty39 ty9 ty5 0 rfl rfl) ?_
    clear hF; intro a hF
    refine gQ 5 rfl rfl hF hS rfl (ef_qt (q_call fn104 rfl (fun w hS => add_ct _ _ (by first | assumption | rfl | (simp only [*]; done)) (by first | assumption | rfl | (simp only [*]; done)) (by first | assumption | omega | (simp; done) | (simp; omega) | (simp only [*]; omega)) w (hS.ext _ _ hg1)) (fun _ _ _ h => h))) ?_
    clear hF hS; rintro _ _ _ a w ⟨rfl, rfl, rfl⟩ hF hS
    refine ⟨⟨iQ, iQ, iQ, trivial⟩, ?_⟩
    refine gQ 7 rfl rfl hF hS rfl (ef_storeW ty155 1 rfl rfl rfl rfl bQ oQ bQ) ?_
    clear hF hS; rintro _ _ _ a w ⟨rfl, rfl, rfl⟩ hF hS
    (try dsimp only [segs] at hS)
    replace hS : St _ [] [_, _, _] _ := hS
    refine ⟨⟨iQ, iQ, iQ, trivial⟩, ?_⟩
    exact goW_done kQ (j2_mk v_1_3 b_1_6 (trivial) (hF.sub (L' := [(1, _), (4, _), (5, _)]) ⟨rfl, rfl, rfl, trivial⟩) (hS.perm (.swap _ _ _)))
  ·refine stepW_ef _ rfl rfl hF hS rfl (ef_bsliceA ty39 ty5 rfl rfl oQ (by decide) rfl rfl) ?_
   clear hF hS; rintro v_1_3 _ _ a w ⟨rfl, rfl⟩ hF hS
   refine ⟨⟨iQ, iQ, trivial⟩, ?_⟩
   refine goW_take 4 _ rfl kQ rfl hF (hS.keep sQ (zQ.k)) (q_b2s_row (xs := [_]) ty39 ty9 ty5 0 rfl rfl) ?_
   clear hF; intro a hF
   refine goW_fork [0, 6] kQ rfl ⟨?_, ?_, trivial⟩
   ·refine stepW_ef _ rfl rfl hF hS rfl (ef_qt (q_call fn103 rfl (fun w hS => begin_ct w ) (fun _ _ _ h => h))) ?_
    clear hF hS; rintro _ _ _ a w ⟨rfl, rfl, rfl⟩ hF hS
    refine ⟨⟨.inr (hS.k1 (zQ.k)), iQ, iQ, trivial⟩, ?_⟩
    refine goW_fork [5, 6] kQ rfl ⟨?_, ?_, trivial⟩
    ·refine stepW_ef _ rfl rfl hF hS rfl (ef_qt (q_call fn104 rfl (fun w hS => add_ct _ _ (by first | assumption | rfl | (simp only [*]; done)) (by first | assumption | rfl | (simp only [*]; done)) (by first | assumption | omega | (simp; done) | (simp; omega) | (simp only [*]; omega)) w (hS.ext _ _ hg1)) (fun _ _ _ h => h))) ?_
     clear hF hS; rintro _ _ _ a w ⟨rfl, rfl, rfl⟩ hF hS
     refine ⟨⟨iQ, iQ, iQ, trivial⟩, ?_⟩
     refine gQ 6 rfl rfl hF hS rfl (ef_allocA ty155) ?_
     clear hF hS; rintro _ _ _ a w ⟨b_1_6, rfl, rfl, rfl⟩ hF hS
     refine ⟨⟨iQ, iQ, iQ, trivial⟩, ?_⟩
     refine gQ 7 rfl rfl hF hS rfl (ef_storeW ty155 0 rfl rfl rfl rfl bQ oQ bQ) ?_
     clear hF hS; rintro _ _ _ a w ⟨rfl, rfl, rfl⟩ hF hS
     (try dsimp only [segs] at hS)
     replace hS : St _ [] [_, _, _] _ := hS
     refine ⟨⟨iQ, iQ, iQ, trivial⟩, ?_⟩
     exact goW_done kQ (j2_mk v_1_3 b_1_6 (trivial) (hF.sub (L' := [(1, _), (4, _), (5, _)]) ⟨rfl, rfl, rfl, trivial⟩) hS)
    ·refine stepW_ef _ rfl rfl hF hS rfl (ef_allocA ty155) ?_
     clear hF hS; rintro _ _ _ a w ⟨b_1_6, rfl, rfl, rfl⟩ hF hS
     refine ⟨⟨.inr (hS.k1 (zQ.k.n)), iQ, iQ, trivial⟩, ?_⟩
     refine gQ 5 rfl rfl hF hS rfl (ef_qt (q_call fn104 rfl (fun w hS => add_ct _ _ (by first | assumption | rfl | (simp only [*]; done)) (by first | assumption | rfl | (simp only [*]; done)) (by first | assumption | omega | (simp; done) | (simp; omega) | (simp only [*]; omega)) w (hS.ext _ _ hg1)) (fun _ _ _ h => h))) ?_
     clear hF hS; rintro _ _ _ a w ⟨rfl, rfl, rfl⟩ hF hS
     refine ⟨⟨iQ, iQ, iQ, trivial⟩, ?_⟩
     refine gQ 7 rfl rfl hF hS rfl (ef_storeW ty155 0 rfl rfl rfl rfl bQ oQ bQ) ?_
     clear hF hS; rintro _ _ _ a w ⟨rfl, rfl, rfl⟩ hF hS
     (try dsimp only [segs] at hS)
     replace hS : St _ [] [_, _, _] _ := hS
     refine ⟨⟨iQ, iQ, iQ, trivial⟩, ?_⟩
     exact goW_done kQ (j2_mk v_1_3 b_1_6 (trivial) (hF.sub (L' := [(1, _), (4, _), (5, _)]) ⟨rfl, rfl, rfl, trivial⟩) hS)
   ·refine stepW_ef _ rfl rfl hF hS rfl (ef_allocA ty155) ?_
    clear hF hS; rintro _ _ _ a w ⟨b_1_6, rfl, rfl, rfl⟩ hF hS
    refine ⟨⟨.inr (hS.k1 (zQ.k.n)), iQ, iQ, trivial⟩, ?_⟩
    refine gQ 0 rfl rfl hF hS rfl (ef_qt (q_call fn103 rfl (fun w hS => begin_ct w ) (fun _ _ _ h => h))) ?_
    clear hF hS; rintro _ _ _ a w ⟨rfl, rfl, rfl⟩ hF hS
    refine ⟨⟨.inr (hS.k1 (zQ.k.n)), iQ, iQ, trivial⟩, ?_⟩
    refine gQ 5 rfl rfl hF hS rfl (ef_qt (q_call fn104 rfl (fun w hS => add_ct _ _ (by first | assumption | rfl | (simp only [*]; done)) (by first | assumption | rfl | (simp only [*]; done)) (by first | assumption | omega | (simp; done) | (simp; omega) | (simp only [*]; omega)) w (hS.ext _ _ hg1)) (fun _ _ _ h => h))) ?_
    clear hF hS; rintro _ _ _ a w ⟨rfl, rfl, rfl⟩ hF hS
    refine ⟨⟨iQ, iQ, iQ, trivial⟩, ?_⟩
    refine gQ 7 rfl rfl hF hS rfl (ef_storeW ty155 0 rfl rfl rfl rfl bQ oQ bQ) ?_
    clear hF hS; rintro _ _ _ a w ⟨rfl, rfl, rfl⟩ hF hS
    (try dsimp only [segs] at hS)
    replace hS : St _ [] [_, _, _] _ := hS
    refine ⟨⟨iQ, iQ, iQ, trivial⟩, ?_⟩
    exact goW_done kQ (j2_mk v_1_3 b_1_6 (trivial) (hF.sub (L' := [(1, _), (4, _), (5, _)]) ⟨rfl, rfl, rfl, trivial⟩) hS)
  ·refine stepW_ef _ rfl rfl hF hS rfl (ef_allocA ty155) ?_
   clear hF hS; rintro _ _ _ a w ⟨b_1_6, rfl, rfl, rfl⟩ hF hS
   refine ⟨⟨.inr hS.k0, .inr hS.k0, trivial⟩, ?_⟩
   refine goW_fork [0, 3] kQ rfl ⟨?_, ?_, trivial⟩
   ·refine stepW_ef _ rfl rfl hF hS rfl (ef_qt (q_call fn103 rfl (fun w hS => begin_ct w ) (fun _ _ _ h => h))) ?_
    clear hF hS; rintro _ _ _ a w ⟨rfl, rfl, rfl⟩ hF hS
    refine ⟨⟨.inr hS.k0, .inr hS.k0, trivial⟩, ?_⟩
    refine gQ 3 rfl rfl hF hS rfl (ef_bsliceA ty39 ty5 rfl rfl oQ (by decide) rfl rfl) ?_
    clear hF hS; rintro v_1_3 _ _ a w ⟨rfl, rfl⟩ hF hS
    refine ⟨⟨iQ, iQ, trivial⟩, ?_⟩
    refine goW_take 4 _ rfl kQ rfl hF (hS.keep sQ (zQ.k)) (q_b2s_row (xs := [_]) ty39 ty9 ty5 0 rfl rfl) ?_
    clear hF; intro a hF
    refine gQ 5 rfl rfl hF hS rfl (ef_qt (q_call fn104 rfl (fun w hS => add_ct _ _ (by first | assumption | rfl | (simp only [*]; done)) (by first | assumption | rfl | (simp only [*]; done)) (by first | assumption | omega | (simp; done) | (simp; omega) | (simp only [*]; omega)) w (hS.ext _ _ hg1)) (fun _ _ _ h => h))) ?_
    clear hF hS; rintro _ _ _ a w ⟨rfl, rfl, rfl⟩ hF hS
    refine ⟨⟨iQ, iQ, iQ, trivial⟩, ?_⟩
    refine gQ 7 rfl rfl hF hS rfl (ef_storeW ty155 1 rfl rfl rfl rfl bQ oQ bQ) ?_
    clear hF hS; rintro _ _ _ a w ⟨rfl, rfl, rfl⟩ hF hS
    (try dsimp only [segs] at hS)
    replace hS : St _ [] [_, _, _] _ := hS
    refine ⟨⟨iQ, iQ, iQ, trivial⟩, ?_⟩
    exact goW_done kQ (j2_mk v_1_3 b_1_6 (trivial) (hF.sub (L' := [(1, _), (4, _), (5, _)]) ⟨rfl, rfl, rfl, trivial⟩) (hS.perm (.swap _ _ _)))
   ·refine stepW_ef _ rfl rfl hF hS rfl (ef_bsliceA ty39 ty5 rfl rfl oQ (by decide) rfl rfl) ?_
    clear hF hS; rintro v_1_3 _ _ a w ⟨rfl, rfl⟩ hF hS
    refine ⟨⟨iQ, iQ, trivial⟩, ?_⟩
    refine goW_take 4 _ rfl kQ rfl hF (hS.keep sQ (zQ.k)) (q_b2s_row (xs := [_]) ty39 ty9 ty5 0 rfl rfl) ?_
    clear hF; intro a hF
    refine gQ 0 rfl rfl hF hS rfl (ef_qt (q_call fn103 rfl (fun w hS => begin_ct w ) (fun _ _ _ h => h))) ?_
    clear hF hS; rintro _ _ _ a w ⟨rfl, rfl, rfl⟩ hF hS
    refine ⟨⟨.inr (hS.k1 (zQ.k)), iQ, iQ, trivial⟩, ?_⟩
    refine gQ 5 rfl rfl hF hS rfl (ef_qt (q_call fn104 rfl (fun w hS => add_ct _ _ (by first | assumption | rfl | (simp only [*]; done)) (by first | assumption | rfl | (simp only [*]; done)) (by first | assumption | omega | (simp; done) | (simp; omega) | (simp only [*]; omega)) w (hS.ext _ _ hg1)) (fun _ _ _ h => h))) ?_
    clear hF hS; rintro _ _ _ a w ⟨rfl, rfl, rfl⟩ hF hS
    refine ⟨⟨iQ, iQ, iQ, trivial⟩, ?_⟩
    refine gQ 7 rfl rfl hF hS rfl (ef_storeW ty155 1 rfl rfl rfl rfl bQ oQ bQ) ?_
    clear hF hS; rintro _ _ _ a w ⟨rfl, rfl, rfl⟩ hF hS
    (try dsimp only [segs] at hS)
    replace hS : St _ [] [_, _, _] _ := hS
    refine ⟨⟨iQ, iQ, iQ, trivial⟩, ?_⟩
    exact goW_done kQ (j2_mk v_1_3 b_1_6 (trivial) (hF.sub (L' := [(1, _), (4, _), (5, _)]) ⟨rfl, rfl, rfl, trivial⟩) (hS.perm (.swap _ _ _)))
 rintro a w ⟨v_1_3, b_1_6, -, hF, hS⟩
 (try dsimp only at hF); (try dsimp only at hS)
 refine hK2 _ _ ?_
 clear hK2
 refine wp_seq_k ?_; intro K3 hK3
 refine wp_seq_k ?_; intro K4 hK4
 refine reg hF hS (sq rfl (q_move rfl) <|
   sq rfl (q_len_sl ty47 hb rfl) <|
   sq rfl (q_move rfl) <|
   sq_end) ?_
 clear hF hS; intro a w hF hS
 refine hK4 _ _ ?_
 clear hK4
 refine wp_block ?_
 obtain ⟨hs0, hhs0, hS⟩ : ∃ h, h = _ ∧ St _ _ h _ := ⟨_, rfl, hS⟩
 refine wp_loopx (γ := Int) (0) (fun (i : Int) => [(17, vi i)]) [(4, _), (5, _), (15, _), (16, _)] (fun (i : Int) => (hs0.set 0 (.blk b_1_6 155 (stmC (Sha.ofS tag (ps.take i.toNat)))))) (fun (i : Int) => 0 ≤ i ∧ i ≤ ps.length) (fun (i : Int) => (ps.length - i).toNat) (hF.sub ⟨rfl, rfl, rfl, rfl, rfl, trivial⟩) (by subst hhs0; rw [← Sha.ofS_0] at hS; exact hS) (by exact ⟨Int.le_refl _, by omega⟩) ?_
 clear hF hS; rintro i a w hfact hF hS
 subst hhs0; (try dsimp only at hfact); (try dsimp only at hF); (try dsimp only at hS)
 obtain ⟨hi0, hi1⟩ := hfact
 replace hS : St _ [] [_, _, _] _ := hS
 obtain ⟨hB1, hB2⟩ := Sha.ofS_ok tag (ps.take i.toNat)
 refine wp_seq_k ?_; intro K5 hK5
 refine reg hF hS (sq rfl (q_lti rfl rfl) <|
   sq_end) ?_
 clear hF hS; intro a w hF hS
 refine hK5 _ _ ?_
 clear hK5
 refine wp_seq_k ?_; intro K6 hK6
 refine wp_ifd hF rfl (fun hc1 => ?_) (fun hc1 => ?_)
 ·refine wp_skip ?_
  refine hK6 _ _ ?_
  clear hK6
  refine wp_seq_k ?_; intro K7 hK7
  refine wp_block ?_
  refine wp_seq_k ?_; intro K8 hK8
  refine reg hF hS (sq rfl (q_idx_sl ty47 ty9 hb rfl rfl (by omega)) <|
    sq rfl (q_ld_S ty9 hb zin0 rfl rfl (by omega)) <|
    sq rfl (q_assign rfl) <|
    sq_end) ?_
  clear hF hS; intro a w hF hS
  have hpi := hp _ (Sha.getD_mem ps i.toNat (by omega))
  have hbl := Wi.bytes_len (ps.getD i.toNat [])
  obtain ⟨hD1, hD2⟩ := Sha.adds_len _ hB1 hB2 (Wi.bytes (ps.getD i.toNat []))
  have hlen : (stmC (Sha.adds (Sha.ofS tag (ps.take i.toNat)) (Wi.bytes (ps.getD i.toNat [])))).length = 73 := by rw [stmC_len]; omega
  refine hK8 _ _ ?_
  clear hK8
  revert hS; revert hF; apply regJ (J := J1 (α0 := Value) 32 _ _ _ _ _) #[false, false, false, false, false, false] 6 mixed rfl rfl
  ·intro w hF hS
   refine goW_take 0 _ rfl kQ rfl hF (hS.keep sQ (zQ.k)) (q_ld_blkW ty155 0 rfl rfl bQ rfl) ?_
   clear hF; intro a hF
   refine goW_take 1 _ rfl kQ rfl hF (hS.keep sQ zQ) (q_move rfl) ?_
   clear hF; intro a hF
   refine gQ 2 rfl rfl hF hS rfl (ef_call fn74 rfl (fun w hS => wbytes_ct _ (by first | assumption | omega) w )) ?_
   clear hF hS; rintro v_5_2 _ _ a w ⟨_, _, rfl, rfl, rfl, rfl⟩ hF hS
   refine ⟨⟨iQ, .inr (hS.k1 (zQ.k.n)), trivial⟩, ?_⟩
   refine goW_take 3 _ rfl kQ rfl hF (hS.keep sQ (zQ.k)) (q_b2s_row ty39 ty9 ty5 0 rfl rfl) ?_
   clear hF; intro a hF
   refine gQ 4 rfl rfl hF hS rfl (ef_qt (q_call fn104 rfl (fun w hS => add_ct _ _ (by first | assumption | rfl | (simp only [*]; done)) (by first | assumption | rfl | (simp only [*]; done)) (by first | assumption | omega | (simp; done) | (simp; omega) | (simp only [*]; omega)) w (hS.ext _ _ hg1)) (fun _ _ _ h => h))) ?_
   clear hF hS; rintro _ _ _ a w ⟨rfl, rfl, rfl⟩ hF hS
   refine ⟨⟨iQ, iQ, iQ, trivial⟩, ?_⟩
   refine gQ 5 rfl rfl hF hS rfl (ef_storeW ty155 1 rfl rfl rfl rfl bQ oQ bQ) ?_
   clear hF hS; rintro _ _ _ a w ⟨rfl, rfl, rfl⟩ hF hS
   (try dsimp only [segs] at hS)
   replace hS : St _ [] [_, _, _, _] _ := hS
   refine ⟨⟨iQ, iQ, iQ, trivial⟩, ?_⟩
   exact goW_done kQ (j1_mk v_5_2 (trivial) (hF.sub (L' := [(4, _), (5, _), (15, _), (16, _), (17, _)]) ⟨rfl, rfl, rfl, rfl, rfl, trivial⟩) hS)
  rintro a w ⟨v_5_2, -, hF, hS⟩
  (try dsimp only at hF); (try dsimp only at hS)
  refine hK7 _ _ ?_
  clear hK7
  refine reg hF hS (sq rfl (q_addi rfl rfl (by omega)) <|
    sq rfl (q_move rfl) <|
    sq_end) ?_
  clear hF hS; intro a w hF hS
  replace hS := hS.keep zQ (sQ.n)
  refine ⟨(i + 1), ?_, ?_, hF.sub ⟨rfl, rfl, rfl, rfl, rfl, trivial⟩, ?_⟩
  ·(try dsimp only); omega
  ·(try dsimp only); omega
  ·rw [Sha.ofS_step' _ _ _ (by omega), show i.toNat + 1 = (i + 1).toNat by omega] at hS
   exact hS
 ·obtain rfl : i = ps.length := by omega
  rw [Int.toNat_natCast, List.take_length] at hS
  obtain ⟨hC1, hC2⟩ := Sha.ofS_ok tag ps
  have hC3 := Sha.ofS_n tag ps hp hl
  have hC4 := Sha.fin_len (Sha.ofS tag ps)
  refine wp_exit ?_
  refine hK3 _ _ ?_
  clear hK3
  refine wp_seq_k ?_; intro K9 hK9
  refine regl ?_
  refine wpl_sq hF hS (sq rfl (q_ld_blkW ty155 0 rfl rfl bQ rfl) <|
    sq rfl (q_call fn105 rfl (fun w hS => ssum_ct _ (by first | assumption | (simp [*]; done)) (by first | assumption | (simp [*]; done)) (by first | assumption | omega) w (hS.ext _ _ hg1)) (fun _ _ _ h => h)) <|
    sq_end) ?_
  clear hF hS; intro a w hF hS
  refine wpl_ef hF hS rfl (ef_allocA ty141) ?_
  clear hF hS; rintro _ _ _ a w ⟨b2, rfl, rfl, rfl⟩ hF hS
  rw [show List.replicate 32 (Value.int .u8 0) = (List.replicate 32 (0 : UInt8)).map vb from by rw [List.map_replicate] <;> rfl] at hS
  refine wpl_ef hF hS rfl (ef_storeW ty141 0 rfl rfl rfl rfl bQ oQ bQ) ?_
  clear hF hS; rintro _ _ _ a w ⟨rfl, rfl, rfl⟩ hF hS
  replace hS : St _ [] [_, _, _, _] _ := hS
  refine wpList_nil ?_
  refine hK9 _ _ ?_
  clear hK9
  refine wp_seq_k ?_; intro K10 hK10
  refine regl ?_
  refine wpl_sq hF hS (sq rfl (q_sla_hi ty141 ty5 rfl rfl (by omega)) <|
    sq rfl (q_s2ap ty29 rfl (by omega)) <|
    sq rfl (q_ld_blkAM ty29 0 rfl rfl bQ rfl) <|
    sq_end) ?_
  clear hF hS; intro a w hF hS
  refine wpl_ef hF hS rfl (ef_storeW ty29 3 rfl rfl rfl rfl bQ oQ bQ) ?_
  clear hF hS; rintro _ _ _ a w ⟨rfl, rfl, rfl⟩ hF hS
  replace hS : St _ [] [_, _, _, _] _ := hS
  refine wpList_nil ?_
  refine hK10 _ _ ?_
  clear hK10
  refine wp_ret ?_
  exact fn_ret (rs := [.cell 4 29]) rfl hF hS (vs := [_]) ⟨⟨_, _, _, _, _, _, _, rfl, List.mem_of_getElem? (i := 3) rfl, ty29, .inl ⟨rfl, bQ, rfl⟩⟩, trivial⟩ zQ zQ (by unfold Sha.ofD; rfl)
end Go.Proofs.YtdojfnigffeblaaDoor
