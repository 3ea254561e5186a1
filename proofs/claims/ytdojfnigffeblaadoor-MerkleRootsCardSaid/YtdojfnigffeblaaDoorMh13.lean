/- A text of a proof over this seat: walks over the program's functions and the plain laws that they need. -/
import Derived.Test.YtdojfnigffeblaaDoorMh12
import Derived.Test.YtdojfnigffeblaaDoorFwB
set_option linter.all false
namespace Go.Proofs.YtdojfnigffeblaaDoor
open Go.Fw
theorem fn94 : FnOk Tryd.prog 94 := ⟨_, Tryd.func94, rfl, by kernel_rfl⟩

attribute [local irreducible] Sha.sum Sha.cpW

set_option maxRecDepth 4000 in
set_option maxHeartbeats 2000000 in
theorem rshort_ct (v : Value) (xs : List UInt8) (hx : xs.length < 1099511627776) (w : World) (hb : Sl encB (ph w) v xs) {fz0 : Nat × Nat} {bt0 : TypeId} (hg0 : w.heap[0]? = some (.cells (Sha.kc.map vw).toArray bt0 fz0)) : Ct Tryd.prog 64 [v] w (fun r _ _ => r = .agg (((Sha.sum xs).take 16).map vb).toArray) := by
 refine fn_enter Tryd.func64 rfl Tryd.ntmps64 (Nat.le_of_ble_eq_true rfl) fun a hF hS => ?_
 have hsl := Sha.sum_len xs
 refine wp_seq_k ?_; intro K1 hK1
 refine regl ?_
 refine wpl_ef hF hS rfl (ef_allocA ty29) ?_
 clear hF hS; rintro _ _ _ a w ⟨b1, rfl, rfl, rfl⟩ hF hS
 rw [show List.replicate 16 (Value.int .u8 0) = (List.replicate 16 (0 : UInt8)).map vb from by rw [List.map_replicate] <;> rfl] at hS
 refine wpList_nil ?_
 refine hK1 _ _ ?_
 clear hK1
 refine wp_seq_k ?_; intro K2 hK2
 refine regl ?_
 refine wpl_sq hF hS (sq rfl (q_move rfl) <|
   sq rfl (q_call fn94 rfl (fun w hS => rsum_ct _ _ (by first | assumption | omega) w (Sl.mono (hS.le zin0) hb) (hS.ext _ _ hg0)) (fun _ _ _ h => h)) <|
   sq_end) ?_
 clear hF hS; intro a w hF hS
 refine wpl_ef hF hS rfl (ef_allocA ty141) ?_
 clear hF hS; rintro _ _ _ a w ⟨b2, rfl, rfl, rfl⟩ hF hS
 rw [show List.replicate 32 (Value.int .u8 0) = (List.replicate 32 (0 : UInt8)).map vb from by rw [List.map_replicate] <;> rfl] at hS
 refine wpl_ef hF hS rfl (ef_storeW ty141 0 rfl rfl rfl rfl bQ oQ bQ) ?_
 clear hF hS; rintro _ _ _ a w ⟨rfl, rfl, rfl⟩ hF hS
 replace hS : St _ [] [_, _] _ := hS
 refine wpList_nil ?_
 refine hK2 _ _ ?_
 clear hK2
 refine wp_seq_k ?_; intro K3 hK3
 refine regl ?_
 refine wpl_sq hF hS (sq rfl (q_build rfl (run_build_arr ty29 ty5 (cells := List.replicate 16 (Value.int .u8 0)) rfl)) <|
   sq_end) ?_
 clear hF hS; intro a w hF hS
 refine wpl_ef hF hS rfl (ef_allocA ty29) ?_
 clear hF hS; rintro _ _ _ a w ⟨b3, rfl, rfl, rfl⟩ hF hS
 rw [show List.replicate 16 (Value.int .u8 0) = (List.replicate 16 (0 : UInt8)).map vb from by rw [List.map_replicate] <;> rfl] at hS
 refine wpl_ef hF hS rfl (ef_storeW ty29 0 rfl rfl rfl rfl bQ oQ bQ) ?_
 clear hF hS; rintro _ _ _ a w ⟨rfl, rfl, rfl⟩ hF hS
 replace hS : St _ [] [_, _, _] _ := hS
 refine wpList_nil ?_
 refine hK3 _ _ ?_
 clear hK3
 refine wp_seq_k ?_; intro K4 hK4
 refine wp_seq_k ?_; intro K5 hK5
 refine reg hF hS (sq rfl (q_assign rfl) <|
   sq_end) ?_
 clear hF hS; intro a w hF hS
 refine hK5 _ _ ?_
 clear hK5
 refine wp_block ?_
 obtain ⟨hs0, hhs0, hS⟩ : ∃ h, h = _ ∧ St _ _ h _ := ⟨_, rfl, hS⟩
 refine wp_loopx (γ := Int) (0) (fun (i : Int) => [(5, vi i)]) [(2, _), (3, _), (4, _)] (fun (i : Int) => (hs0.set 0 (.blk b3 29 ((Sha.cpW (Sha.sum xs) 16 i.toNat).map vb)))) (fun (i : Int) => 0 ≤ i ∧ i ≤ 16) (fun (i : Int) => (16 - i).toNat) (hF.sub ⟨rfl, rfl, rfl, rfl, trivial⟩) (by subst hhs0; have e : (Sha.cpW (Sha.sum xs) 16 (0 : Int).toNat).map vb = List.replicate 16 (Value.int .u8 0) := (congrArg (List.map vb) (Sha.cpW_0 (Sha.sum xs) 16)).trans (by rw [List.map_replicate]; rfl); rw [← e] at hS; exact hS) (by simp) ?_
 clear hF hS; rintro i a w hfact hF hS
 subst hhs0; (try dsimp only at hfact); (try dsimp only at hF); (try dsimp only at hS)
 obtain ⟨hi0, hi1⟩ := hfact
 replace hS : St _ [] [_, _, _] _ := hS
 have hcl := Sha.cpW_len (Sha.sum xs) 16 i.toNat (by omega) (by omega)
 refine wp_seq_k ?_; intro K6 hK6
 refine wp_seq_k ?_; intro K7 hK7
 refine reg hF hS (sq rfl (q_move rfl) <|
   sq rfl (q_lti rfl rfl) <|
   sq_end) ?_
 clear hF hS; intro a w hF hS
 refine hK7 _ _ ?_
 clear hK7
 refine wp_ifd hF rfl (fun hc1 => ?_) (fun hc1 => ?_)
 ·refine wp_skip ?_
  refine hK6 _ _ ?_
  clear hK6
  refine wp_seq_k ?_; intro K8 hK8
  refine wp_block ?_
  refine regl ?_
  refine wpl_sq hF hS (sq rfl (q_move rfl) <|
    sq rfl (q_move rfl) <|
    sq rfl (q_idx_arr0 ty141 ty5 rfl rfl (by omega)) <|
    sq rfl (q_ld_blkM ty5 1 0 rfl rfl bQ rfl) <|
    sq rfl (q_idx_arr0 ty29 ty5 rfl rfl (by omega)) <|
    sq_end) ?_
  clear hF hS; intro a w hF hS
  refine wpl_ef hF hS rfl (ef_st_blkM ty5 0 rfl rfl rfl bQ rfl) ?_
  clear hF hS; rintro _ _ _ a w ⟨rfl, rfl, rfl⟩ hF hS
  replace hS : St _ [] [_, _, _] _ := hS
  refine wpList_nil ?_
  refine hK8 _ _ ?_
  clear hK8
  refine reg hF hS (sq rfl (q_move rfl) <|
    sq rfl (q_addi rfl rfl (by omega)) <|
    sq rfl (q_assign rfl) <|
    sq_end) ?_
  clear hF hS; intro a w hF hS
  refine ⟨(i + 1), ?_, ?_, hF.sub ⟨rfl, rfl, rfl, rfl, trivial⟩, ?_⟩
  ·(try dsimp only); omega
  ·(try dsimp only); omega
  ·rw [Sha.cpW_step _ _ _ (by omega) (by omega), show i.toNat + 1 = (i + 1).toNat by omega] at hS
   exact hS
 ·obtain rfl : i = 16 := by omega
  rw [show (16 : Int).toNat = 16 from rfl] at hcl
  rw [show (16 : Int).toNat = 16 from rfl, Sha.cpW_all] at hS
  rw [Sha.cpW_all] at hcl
  refine wp_exit ?_
  refine hK4 _ _ ?_
  clear hK4
  refine wp_seq_k ?_; intro K9 hK9
  refine regl ?_
  refine wpl_sq hF hS (sq rfl (q_ld_blkW ty29 0 rfl rfl bQ rfl) <|
    sq_end) ?_
  clear hF hS; intro a w hF hS
  refine wpl_ef hF hS rfl (ef_storeW ty29 2 rfl rfl rfl rfl bQ oQ bQ) ?_
  clear hF hS; rintro _ _ _ a w ⟨rfl, rfl, rfl⟩ hF hS
  replace hS : St _ [] [_, _, _] _ := hS
  refine wpList_nil ?_
  refine hK9 _ _ ?_
  clear hK9
  refine wp_ret ?_
  exact fn_ret (rs := [.cell 2 29]) rfl hF hS (vs := [_]) ⟨⟨_, _, _, _, _, _, _, rfl, List.mem_of_getElem? (i := 2) rfl, ty29, .inl ⟨rfl, bQ, rfl⟩⟩, trivial⟩ zQ zQ (rfl)
end Go.Proofs.YtdojfnigffeblaaDoor
