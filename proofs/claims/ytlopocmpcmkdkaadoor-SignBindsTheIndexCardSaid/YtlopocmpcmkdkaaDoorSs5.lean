/- A text of a proof over this seat: walks over the program's functions and the plain laws that they need. -/
import Derived.Test.YtlopocmpcmkdkaaDoorSs4
import Derived.Test.YtlopocmpcmkdkaaDoorSiA
import Derived.Test.YtlopocmpcmkdkaaDoorFwB
import Derived.Test.YtlopocmpcmkdkaaDoorFwD
set_option linter.all false
namespace Go.Proofs.YtlopocmpcmkdkaaDoor
open Go.Fw
theorem fn25 : FnOk Tryd.prog 25 := ⟨_, Tryd.func25, rfl, by kernel_rfl⟩
theorem fn27 : FnOk Tryd.prog 27 := ⟨_, Tryd.func27, rfl, by kernel_rfl⟩
theorem fn28 : FnOk Tryd.prog 28 := ⟨_, Tryd.func28, rfl, by kernel_rfl⟩
theorem fn29 : FnOk Tryd.prog 29 := ⟨_, Tryd.func29, rfl, by kernel_rfl⟩
theorem fn32 : FnOk Tryd.prog 32 := ⟨_, Tryd.func32, rfl, by kernel_rfl⟩
attribute [local irreducible] Sha.sum Sha.mac Sha.ofD Wi.int Wi.ints Wi.bytes Sha.inp

set_option maxRecDepth 4000 in
set_option maxHeartbeats 2000000 in
theorem chain_ct (c k : Int) (s : List UInt8) (e1 e2 : Nat) {bte1 bte2 : TypeId} {fze1 fze2 : Nat × Nat} (hc9 : -9223372036854775808 ≤ c ∧ c ≤ 9223372036854775807) (hk9 : -9223372036854775808 ≤ k ∧ k ≤ 9223372036854775807) (hs9 : s.length < 1048576) (w : World) (hb1 : w.heap[e1]? = some (.cells [vi k].toArray bte1 fze1)) (hb2 : w.heap[e2]? = some (.cells [vs s].toArray bte2 fze2)) {fz1 : Nat × Nat} {bt1 : TypeId} (hg1 : w.heap[1]? = some (.cells (Sha.kc.map vw).toArray bt1 fz1)) : Ct Tryd.prog 45 [vi c, .pointer (some ⟨e1, 0, none⟩), .pointer (some ⟨e2, 0, none⟩)] w (fun r _ _ => r = .agg ((Si.top s k c).map vb).toArray) := by
 refine fn_enter Tryd.func45 rfl Tryd.ntmps45 (Nat.le_of_ble_eq_true rfl) fun a hF hS => ?_
 have h16 := Si.start_16 s k c
 have h17 : (Si.advT k c 0 3 (Si.start s k c)).length = 16 := Si.top_16 s k c
 refine wp_seq_k ?_; intro K1 hK1
 refine regl ?_
 refine wpl_ef hF hS rfl (ef_allocA ty23) ?_
 clear hF hS; rintro _ _ _ a w ⟨b1, rfl, rfl, rfl⟩ hF hS
 rw [show List.replicate 16 (Value.int .u8 0) = (List.replicate 16 (0 : UInt8)).map vb from by rw [List.map_replicate] <;> rfl] at hS
 refine wpList_nil ?_
 refine hK1 _ _ ?_
 clear hK1
 refine wp_seq_k ?_; intro K2 hK2
 refine regt 7 mixed kQ hF hS (sq rfl (q_ld_old1 ty3 rfl hb1 rfl rfl) <|
   sq rfl (q_move rfl) <|
   sq rfl (q_ld_old1 ty9 rfl hb2 rfl rfl) <|
   sq rfl (q_ld_old1 ty3 rfl hb1 rfl rfl) <|
   sq rfl (q_move rfl) <|
   sq rfl (q_call fn28 rfl (fun w hS => sstart_ct _ _ _ (by first | with_reducible assumption | omega) (by first | with_reducible assumption | omega) (by first | with_reducible assumption | omega) w (hS.ext _ _ hg1)) (fun _ _ _ h => h)) <|
   sq rfl (q_call fn27 rfl (fun w hS => sadv_ct _ _ _ _ _ (by first | with_reducible assumption | omega) (by first | with_reducible assumption | omega) (by first | with_reducible assumption | omega) (by first | with_reducible assumption | omega) (by first | with_reducible assumption | omega) w (hS.ext _ _ hg1)) (fun _ _ _ h => h)) <|
   sq_end) ?_
 clear hF hS; intro a w hF hS
 refine wpl_ef hF hS rfl (ef_storeW ty23 0 rfl rfl rfl rfl bQ oQ bQ) ?_
 clear hF hS; rintro _ _ _ a w ⟨rfl, rfl, rfl⟩ hF hS
 replace hS : St _ [] [_] _ := hS
 refine wpList_nil ?_
 refine hK2 _ _ ?_
 clear hK2
 refine wp_ret ?_
 exact fn_ret (rs := [.cell 4 23]) rfl hF hS (vs := [_]) ⟨⟨_, _, _, _, _, _, _, rfl, List.mem_of_getElem? (i := 0) rfl, ty23, .inl ⟨rfl, bQ, rfl⟩⟩, trivial⟩ zQ zQ (rfl)

set_option maxRecDepth 4000 in
set_option maxHeartbeats 2000000 in
theorem leaf_ct (fv : Value) (f : Int → List UInt8) (hfl : ∀ c, (f c).length = 16) (w : World) (hf : FnD Tryd.prog w fv (fun c => 0 ≤ c ∧ c < 68) f) {fz1 : Nat × Nat} {bt1 : TypeId} (hg1 : w.heap[1]? = some (.cells (Sha.kc.map vw).toArray bt1 fz1)) : Ct Tryd.prog 38 [fv] w (fun r _ _ => r = .agg ((Si.leafD (Si.cat f 68)).map vb).toArray) := by
 refine fn_enter Tryd.func38 rfl Tryd.ntmps38 (Nat.le_of_ble_eq_true rfl) fun a hF hS => ?_
 refine wp_seq_k ?_; intro K1 hK1
 refine regl ?_
 refine wpl_ef hF hS rfl (ef_allocA ty23) ?_
 clear hF hS; rintro _ _ _ a w ⟨b1, rfl, rfl, rfl⟩ hF hS
 rw [show List.replicate 16 (Value.int .u8 0) = (List.replicate 16 (0 : UInt8)).map vb from by rw [List.map_replicate] <;> rfl] at hS
 refine wpList_nil ?_
 refine hK1 _ _ ?_
 clear hK1
 refine wp_seq_k ?_; intro K2 hK2
 refine regl ?_
 refine wpl_ef hF hS rfl (ef_allocA ty54) ?_
 clear hF hS; rintro _ _ _ a w ⟨b2, rfl, rfl, rfl⟩ hF hS
 refine wpList_nil ?_
 replace hS := hS.nilRow 5 1
 replace hS : St _ [] [_, _, _] _ := hS
 refine hK2 _ _ ?_
 clear hK2
 refine wp_seq_k ?_; intro K3 hK3
 refine wp_seq_k ?_; intro K4 hK4
 refine reg hF hS (sq rfl (q_move rfl) <|
   sq_end) ?_
 clear hF hS; intro a w hF hS
 refine hK4 _ _ ?_
 clear hK4
 refine wp_block ?_
 obtain ⟨hs0, hhs0, hS⟩ : ∃ h, h = _ ∧ St _ _ h _ := ⟨_, rfl, hS⟩
 refine wp_loopx (γ := Int × Value × Option Addr) (0, .slice none 0 0, none) (fun (gg : Int × Value × Option Addr) => match gg with | (i, u, pa) => [(7, vi i)]) [(0, _), (2, _), (3, _)] (fun (gg : Int × Value × Option Addr) => match gg with | (i, u, pa) => ((hs0.set 1 (.blk b2 54 [.pointer pa, u])).set 0 (.row u 5 1 (Si.cat f i.toNat).length ((Si.cat f i.toNat).map vb)))) (fun (gg : Int × Value × Option Addr) => match gg with | (i, u, pa) => (0 ≤ i ∧ i ≤ 68) ∧ (pa = none ∨ pa = some ⟨b2, 0, none⟩)) (fun (gg : Int × Value × Option Addr) => match gg with | (i, u, pa) => (68 - i).toNat) (hF.sub ⟨rfl, rfl, rfl, rfl, trivial⟩) (by subst hhs0; exact hS) (by exact ⟨⟨Int.le_refl _, by omega⟩, .inl rfl⟩) ?_
 clear hF hS; rintro ⟨i, u, pa⟩ a w hfact hF hS
 subst hhs0; (try dsimp only at hfact); (try dsimp only at hF); (try dsimp only at hS)
 obtain ⟨⟨hi0, hi1⟩, hpa⟩ := hfact
 replace hS : St _ [] [_, _, _] _ := hS
 have hcl := Si.cat_len hfl i.toNat
 have h16 := hfl i
 refine wp_seq_k ?_; intro K5 hK5
 refine reg hF hS (sq rfl (q_lti rfl rfl) <|
   sq_end) ?_
 clear hF hS; intro a w hF hS
 refine hK5 _ _ ?_
 clear hK5
 refine wp_seq_k ?_; intro K6 hK6
 refine wp_ifd hF rfl (fun hc1 => ?_) (fun hc1 => ?_)
 ·refine wp_skip ?_
  refine hK6 _ _ ?_
  clear hK6
  refine wp_seq_k ?_; intro K7 hK7
  refine wp_block ?_
  refine wp_seq_k ?_; intro K8 hK8
  refine reg hF hS (sq rfl (q_move rfl) <|
    sq rfl (q_assign rfl) <|
    sq_end) ?_
  clear hF hS; intro a w hF hS
  refine hK8 _ _ ?_
  clear hK8
  refine wp_seq_k ?_; intro K9 hK9
  refine regl ?_
  refine wpl_sq hF hS (sq rfl (q_move rfl) <|
    sq rfl (q_move rfl) <|
    sq rfl (q_fnD hf rfl rfl (by exact ⟨hi0, by omega⟩)) <|
    sq_end) ?_
  clear hF hS; intro a w hF hS
  refine wpl_ef hF hS rfl (ef_allocA ty23) ?_
  clear hF hS; rintro _ _ _ a w ⟨b4, rfl, rfl, rfl⟩ hF hS
  rw [show List.replicate 16 (Value.int .u8 0) = (List.replicate 16 (0 : UInt8)).map vb from by rw [List.map_replicate] <;> rfl] at hS
  refine wpl_ef hF hS rfl (ef_storeW ty23 0 rfl rfl rfl rfl bQ oQ bQ) ?_
  clear hF hS; rintro _ _ _ a w ⟨rfl, rfl, rfl⟩ hF hS
  replace hS : St _ [] [_, _, _, _] _ := hS
  refine wpList_nil ?_
  refine hK9 _ _ ?_
  clear hK9
  refine regl ?_
  refine wpl_sq hF hS (sq rfl (q_sla ty23 ty5 rfl) <|
    sq_end) ?_
  clear hF hS; intro a w hF hS
  obtain ⟨z5, hz6, hS⟩ := St.freezeBlk (h0 := fun _ => rfl) (f := vb) (p := fun _ => True) (m := 16) hS (by first | (symm; assumption) | omega | (simp [*]; done)) (by decide) (fun _ _ => trivial)
  replace hS := hS.perm (.swap _ _ _)
  replace hS : St _ [_] [_, _, _] _ := hS
  refine wpl_ef hF hS rfl (ef_callxN 2 fn25 rfl (by exact (bwrite_ct _ _ _ _ _ _ (by first | assumption | exact .inl rfl | exact .inr rfl) (by first | omega | (simp; omega) | (simp [*]; omega)) hz6 (.inr (by simp))))) ?_
  clear hF hS; rintro _ _ _ a w ⟨_, _, rfl, rfl, ⟨u8, rfl, rfl⟩⟩ hF hS
  replace hS : St _ [_] [_, _, _] _ := hS
  refine wpList_nil ?_
  refine hK7 _ _ ?_
  clear hK7
  refine reg hF hS (sq rfl (q_addi rfl rfl (by omega)) <|
    sq rfl (q_move rfl) <|
    sq_end) ?_
  clear hF hS; intro a w hF hS
  replace hS := hS.perm (.swap _ _ _)
  replace hS := hS.keep zQ sQ
  refine ⟨(i + 1, u8, some ⟨b2, 0, none⟩), ?_, ?_, hF.sub ⟨rfl, rfl, rfl, rfl, trivial⟩, ?_⟩
  ·(try dsimp only); omega
  ·exact ⟨⟨by omega, by omega⟩, .inr rfl⟩
  ·(try dsimp only); rw [Si.cat_next hi0]; exact hS
 ·obtain rfl : i = 68 := by omega
  obtain ⟨S, hSS⟩ : ∃ S, Si.cat f (68 : Int).toNat = S := ⟨_, rfl⟩
  have hc68 : S.length = 1088 := hSS ▸ Si.cat68 hfl
  rw [hSS] at hS
  have ho2 := Sha.ofD_len 2 [S]
  have ho3 := Sha.ofD_len 3 [Sha.ofD 2 [S]]
  refine wp_exit ?_
  refine hK3 _ _ ?_
  clear hK3
  refine wp_seq_k ?_; intro K10 hK10
  refine regl ?_
  replace hS := hS.perm (.swap _ _ _)
  replace hS : St _ [] [_, _, _] _ := hS
  refine wpl_ef hF hS rfl (ef_callxN 2 fn29 rfl (by exact (bstring_ct _ _ _ _ (by first | omega | (simp; omega) | (simp [*]; omega)) (by first | omega | (simp; omega) | (simp [*]; omega)) ))) ?_
  clear hF hS; rintro _ _ _ a w ⟨_, _, rfl, rfl, rfl, rfl, rfl⟩ hF hS
  replace hS : St _ [] [_, _, _] _ := hS
  refine wpl_ef hF hS rfl (ef_bsliceA ty66 ty9 rfl rfl oQ (by decide) rfl rfl) ?_
  clear hF hS; rintro v10 _ _ a w ⟨rfl, rfl⟩ hF hS
  replace hS : St _ [] [_, _, _, _] _ := hS
  refine wpl_sq hF hS (sq rfl (q_call fn34 rfl (fun w hS => of_ct _ _ _ (by simp; omega) (by simp) w (own_slV (f := vs) (xs := [S]) (hS.own _ (List.mem_of_getElem? (i := 0) rfl)).1 (by simp; omega) rfl (by decide)) (hS.ext _ _ hg1)) (fun _ _ _ h => h)) <|
    sq_end) ?_
  clear hF hS; intro a w hF hS
  refine wpl_ef hF hS rfl (ef_allocA ty23) ?_
  clear hF hS; rintro _ _ _ a w ⟨b12, rfl, rfl, rfl⟩ hF hS
  rw [show List.replicate 16 (Value.int .u8 0) = (List.replicate 16 (0 : UInt8)).map vb from by rw [List.map_replicate] <;> rfl] at hS
  refine wpl_ef hF hS rfl (ef_storeW ty23 0 rfl rfl rfl rfl bQ oQ bQ) ?_
  clear hF hS; rintro _ _ _ a w ⟨rfl, rfl, rfl⟩ hF hS
  replace hS : St _ [] [_, _, _, _, _] _ := hS
  refine wpList_nil ?_
  refine hK10 _ _ ?_
  clear hK10
  refine wp_seq_k ?_; intro K11 hK11
  refine regl ?_
  refine wpl_sq hF hS (sq rfl (q_sla ty23 ty5 rfl) <|
    sq rfl (q_b2s_blkM ty52 ty9 ty5 0 rfl rfl bQ) <|
    sq_end) ?_
  clear hF hS; intro a w hF hS
  refine wpl_ef hF hS rfl (ef_bsliceA ty66 ty9 rfl rfl oQ (by decide) rfl rfl) ?_
  clear hF hS; rintro v13 _ _ a w ⟨rfl, rfl⟩ hF hS
  replace hS : St _ [] [_, _, _, _, _, _] _ := hS
  refine wpl_sq hF hS (sq rfl (q_call fn34 rfl (fun w hS => of_ct _ _ _ (by simp; omega) (by simp) w (own_slV (f := vs) (xs := [Sha.ofD 2 [S]]) (hS.own _ (List.mem_of_getElem? (i := 0) rfl)).1 (by simp; omega) rfl (by decide)) (hS.ext _ _ hg1)) (fun _ _ _ h => h)) <|
    sq_end) ?_
  clear hF hS; intro a w hF hS
  refine wpl_ef hF hS rfl (ef_storeW ty23 5 rfl rfl rfl rfl bQ oQ bQ) ?_
  clear hF hS; rintro _ _ _ a w ⟨rfl, rfl, rfl⟩ hF hS
  replace hS : St _ [] [_, _, _, _, _, _] _ := hS
  refine wpList_nil ?_
  refine hK11 _ _ ?_
  clear hK11
  refine wp_ret ?_
  exact fn_ret (rs := [.cell 2 23]) rfl hF hS (vs := [_]) ⟨⟨_, _, _, _, _, _, _, rfl, List.mem_of_getElem? (i := 5) rfl, ty23, .inl ⟨rfl, bQ, rfl⟩⟩, trivial⟩ zQ zQ (by rw [← hSS]; rfl)

end Go.Proofs.YtlopocmpcmkdkaaDoor
