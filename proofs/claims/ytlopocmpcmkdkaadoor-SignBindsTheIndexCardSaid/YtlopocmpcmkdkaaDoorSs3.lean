/- A text of a proof over this seat: walks over the program's functions and the plain laws that they need. -/
import Derived.Test.YtlopocmpcmkdkaaDoorSs2
import Derived.Test.YtlopocmpcmkdkaaDoorSiA
import Derived.Test.YtlopocmpcmkdkaaDoorFwB
import Derived.Test.YtlopocmpcmkdkaaDoorFwD
set_option linter.all false
namespace Go.Proofs.YtlopocmpcmkdkaaDoor
open Go.Fw
theorem ty43 : Tf Tryd.prog 43 (.array 68 3) 68 544 (.agg (List.replicate 68 (Value.int .i64 0)).toArray) := ⟨Tryd.underlying43, by kernel_rfl⟩

set_option maxRecDepth 4000 in
set_option maxHeartbeats 2000000 in
theorem sdgs_ct (d : List UInt8) (hd9 : d.length = 16) (w : World) : Ct Tryd.prog 10 [.agg ((d).map vb).toArray] w (SlR encI (Si.digs d)) := by
 refine fn_enter Tryd.func10 rfl Tryd.ntmps10 (Nat.le_of_ble_eq_true rfl) fun a hF hS => ?_
 refine wp_seq_k ?_; intro K1 hK1
 refine regl ?_
 refine wpl_ef hF hS rfl (ef_boxA rfl) ?_
 clear hF hS; rintro _ _ _ a w ⟨b1, rfl, rfl, rfl⟩ hF hS
 refine wpl_sq hF hS (sq rfl (q_assign rfl) <|
   sq_end) ?_
 clear hF hS; intro a w hF hS
 refine wpList_nil ?_
 refine hK1 _ _ ?_
 clear hK1
 refine wp_seq_k ?_; intro K2 hK2
 refine regl ?_
 refine wpl_ef hF hS rfl (ef_allocA ty43) ?_
 clear hF hS; rintro _ _ _ a w ⟨b2, rfl, rfl, rfl⟩ hF hS
 rw [show List.replicate 68 (Value.int .i64 0) = (List.replicate 68 (0 : Int)).map vi from by rw [List.map_replicate] <;> rfl] at hS
 refine wpList_nil ?_
 refine hK2 _ _ ?_
 clear hK2
 refine wp_seq_k ?_; intro K3 hK3
 refine reg hF hS (sq rfl (q_assign rfl) <|
   sq_end) ?_
 clear hF hS; intro a w hF hS
 refine hK3 _ _ ?_
 clear hK3
 refine wp_seq_k ?_; intro K4 hK4
 refine wp_seq_k ?_; intro K5 hK5
 refine reg hF hS (sq rfl (q_move rfl) <|
   sq_end) ?_
 clear hF hS; intro a w hF hS
 refine hK5 _ _ ?_
 clear hK5
 refine wp_block ?_
 obtain ⟨hs0, hhs0, hS⟩ : ∃ h, h = _ ∧ St _ _ h _ := ⟨_, rfl, hS⟩
 refine wp_loopx (γ := Int) (0) (fun (i : Int) => [(4, vi (Si.sm d i.toNat)), (7, vi i)]) [(1, _), (3, _)] (fun (i : Int) => (hs0.set 0 (.blk b2 43 ((Si.dgW d i.toNat).map vi)))) (fun (i : Int) => 0 ≤ i ∧ i ≤ 64) (fun (i : Int) => (64 - i).toNat) (hF.sub ⟨rfl, rfl, rfl, rfl, trivial⟩) (by subst hhs0; (try dsimp only); rw [show Si.dgW d (0 : Int).toNat = List.replicate 68 0 from rfl]; exact hS) (by exact ⟨Int.le_refl _, by omega⟩) ?_
 clear hF hS; rintro i a w hfact hF hS
 subst hhs0; (try dsimp only at hfact); (try dsimp only at hF); (try dsimp only at hS)
 obtain ⟨hi0, hi1⟩ := hfact
 replace hS : St _ [] [_, _] _ := hS
 have hwl := Si.dgW_len (d := d) (i := i.toNat) (by omega)
 have hsr := Si.sm_rng d i.toNat
 have hdr := Si.dg_rng d i.toNat
 refine wp_seq_k ?_; intro K6 hK6
 refine reg hF hS (sq rfl (q_lti rfl rfl) <|
   sq_end) ?_
 clear hF hS; intro a w hF hS
 refine hK6 _ _ ?_
 clear hK6
 refine wp_seq_k ?_; intro K7 hK7
 refine wp_ifd hF rfl (fun hc1 => ?_) (fun hc1 => ?_)
 ·refine wp_skip ?_
  refine hK7 _ _ ?_
  clear hK7
  refine wp_seq_k ?_; intro K8 hK8
  refine wp_block ?_
  refine wp_seq_k ?_; intro K9 hK9
  refine reg hF hS (sq rfl (q_move rfl) <|
    sq rfl (q_assign rfl) <|
    sq_end) ?_
  clear hF hS; intro a w hF hS
  refine hK9 _ _ ?_
  clear hK9
  refine wp_seq_k ?_; intro K10 hK10
  refine regl ?_
  refine wpl_sq hF hS (sq rfl (q_move rfl) <|
    sq rfl (q_move rfl) <|
    sq rfl (q_quoi rfl rfl (by omega)) <|
    sq rfl (q_idx_arr0 ty23 ty5 rfl rfl (by omega)) <|
    sq rfl (q_ld_blkM ty5 1 0 rfl rfl bQ rfl) <|
    sq rfl (q_move rfl) <|
    sq rfl (q_remi rfl rfl (by omega)) <|
    sq rfl (q_muli rfl rfl (by omega)) <|
    sq rfl (q_subi rfl rfl (by omega)) <|
    sq rfl (q_shrb rfl rfl (by omega)) <|
    sq rfl (q_cv_bi ty5 ty3 rfl) <|
    sq rfl (q_remi rfl rfl (by omega)) <|
    sq rfl (q_idx_arr0 ty43 ty3 rfl rfl (by omega)) <|
    sq_end) ?_
  clear hF hS; intro a w hF hS
  refine wpl_ef hF hS rfl (ef_st_blkM ty3 0 rfl rfl rfl bQ rfl) ?_
  clear hF hS; rintro _ _ _ a w ⟨rfl, rfl, rfl⟩ hF hS
  replace hS : St _ [] [_, _] _ := hS
  refine wpList_nil ?_
  rw [Si.dg_prog ⟨hi0, by omega⟩, Si.dgW_set (by omega)] at hS
  have hwl2 := Si.dgW_len (d := d) (i := i.toNat + 1) (by omega)
  have hwg := Si.dgW_get (d := d) (i := i.toNat)
  refine hK10 _ _ ?_
  clear hK10
  refine reg hF hS (sq rfl (q_move rfl) <|
    sq rfl (q_move rfl) <|
    sq rfl (q_idx_arr0 ty43 ty3 rfl rfl (by omega)) <|
    sq rfl (q_ld_blkM ty3 0 0 rfl rfl bQ rfl) <|
    sq rfl (q_subi rfl rfl (by omega)) <|
    sq rfl (q_addi rfl rfl (by omega)) <|
    sq rfl (q_assign rfl) <|
    sq_end) ?_
  clear hF hS; intro a w hF hS
  refine hK8 _ _ ?_
  clear hK8
  refine reg hF hS (sq rfl (q_addi rfl rfl (by omega)) <|
    sq rfl (q_move rfl) <|
    sq_end) ?_
  clear hF hS; intro a w hF hS
  refine ⟨(i + 1), ?_, ?_, hF.sub ⟨(by rw [Si.sm_succ d hi0, ← hwg]; rfl), rfl, rfl, rfl, trivial⟩, ?_⟩
  ·(try dsimp only); omega
  ·(try dsimp only); omega
  ·(try dsimp only); rw [show (i + 1).toNat = i.toNat + 1 by omega]; exact hS
 ·obtain rfl : i = 64 := by omega
  have hsr := Si.sm_rng d 64
  refine wp_exit ?_
  refine hK4 _ _ ?_
  clear hK4
  refine wp_seq_k ?_; intro K11 hK11
  refine wp_seq_k ?_; intro K12 hK12
  refine reg hF hS (sq rfl (q_assign rfl) <|
    sq_end) ?_
  clear hF hS; intro a w hF hS
  refine hK12 _ _ ?_
  clear hK12
  refine wp_block ?_
  obtain ⟨hs0, hhs0, hS⟩ : ∃ h, h = _ ∧ St _ _ h _ := ⟨_, rfl, hS⟩
  refine wp_loopx (γ := Nat) (0) (fun (k : Nat) => [(4, vi (Si.dv4 (Si.sm d 64) k)), (6, vi (67 - (k : Int)))]) [(3, _)] (fun (k : Nat) => (hs0.set 0 (.blk b2 43 ((Si.dgs d 64 ++ Si.ckW (Si.sm d 64) k).map vi)))) (fun (k : Nat) => k ≤ 4) (fun (k : Nat) => 4 - k) (hF.sub ⟨rfl, rfl, rfl, trivial⟩) (by subst hhs0; exact hS) (by exact Nat.zero_le _) ?_
  clear hF hS; rintro k a w hfact hF hS
  subst hhs0; (try dsimp only at hfact); (try dsimp only at hF); (try dsimp only at hS)
  have hk4 := hfact
  replace hS : St _ [] [_, _] _ := hS
  have hsr := Si.sm_rng d 64
  have hvr := Si.dv4_rng (s := Si.sm d 64) (by omega) k
  have hcl := Si.ckW_len (d := d) (s := Si.sm d 64) k
  refine wp_seq_k ?_; intro K13 hK13
  refine wp_seq_k ?_; intro K14 hK14
  refine reg hF hS (sq rfl (q_move rfl) <|
    sq rfl (q_gei rfl rfl) <|
    sq_end) ?_
  clear hF hS; intro a w hF hS
  refine hK14 _ _ ?_
  clear hK14
  refine wp_ifd hF rfl (fun hc2 => ?_) (fun hc2 => ?_)
  ·refine wp_skip ?_
   refine hK13 _ _ ?_
   clear hK13
   refine wp_seq_k ?_; intro K15 hK15
   refine wp_block ?_
   refine wp_seq_k ?_; intro K16 hK16
   refine regl ?_
   refine wpl_sq hF hS (sq rfl (q_move rfl) <|
     sq rfl (q_move rfl) <|
     sq rfl (q_remi rfl rfl (by omega)) <|
     sq rfl (q_idx_arr0 ty43 ty3 rfl rfl (by omega)) <|
     sq_end) ?_
   clear hF hS; intro a w hF hS
   refine wpl_ef hF hS rfl (ef_st_blkM ty3 0 rfl rfl rfl bQ rfl) ?_
   clear hF hS; rintro _ _ _ a w ⟨rfl, rfl, rfl⟩ hF hS
   replace hS : St _ [] [_, _] _ := hS
   refine wpList_nil ?_
   refine hK16 _ _ ?_
   clear hK16
   refine reg hF hS (sq rfl (q_move rfl) <|
     sq rfl (q_quoi rfl rfl (by omega)) <|
     sq rfl (q_assign rfl) <|
     sq_end) ?_
   clear hF hS; intro a w hF hS
   refine hK15 _ _ ?_
   clear hK15
   refine reg hF hS (sq rfl (q_move rfl) <|
     sq rfl (q_subi rfl rfl (by omega)) <|
     sq rfl (q_assign rfl) <|
     sq_end) ?_
   clear hF hS; intro a w hF hS
   refine ⟨(k + 1), ?_, ?_, hF.sub ⟨rfl, (by show some _ = some _; rw [show (67 : Int) - ((k + 1 : Nat) : Int) = 67 - (k : Int) - 1 by omega]), rfl, trivial⟩, ?_⟩
   ·(try dsimp only); omega
   ·(try dsimp only); omega
   ·(try dsimp only); rw [show (67 - (k : Int)).toNat = 67 - k by omega, Si.ckW_set (by omega)] at hS; exact hS
  ·obtain rfl : k = 4 := by omega
   rw [Si.ckW_all] at hS
   refine wp_exit ?_
   refine hK11 _ _ ?_
   clear hK11
   refine wp_seq_k ?_; intro K17 hK17
   refine reg hF hS (sq rfl (q_sla ty43 ty3 rfl) <|
     sq rfl (q_assign rfl) <|
     sq_end) ?_
   clear hF hS; intro a w hF hS
   refine hK17 _ _ ?_
   clear hK17
   refine wp_ret ?_
   obtain ⟨zr, hzr, hS⟩ := St.freezeBlk (h0 := fun _ => rfl) (f := vi) (p := fun x => -9223372036854775808 ≤ x ∧ x ≤ 9223372036854775807) (xs := Si.digs d) (m := 68) hS (Si.digs_len d).symm (by decide) (fun x hx => by have := Si.digs_mem x hx; omega)
   exact fn_ret (rs := [.tmp 2]) rfl hF hS (vs := [_]) ⟨rfl, trivial⟩ (zs' := [zr]) (hs' := []) (List.singleton_sublist.2 (by simp)) zQ ⟨zr, hzr, rfl, rfl⟩

set_option maxRecDepth 4000 in
set_option maxHeartbeats 2000000 in
theorem srdgs_ct (d : List UInt8) (hd9 : d.length = 16) (w : World) : Ct Tryd.prog 11 [.agg ((d).map vb).toArray] w (SlR encI (Si.digs d)) := by
 refine fn_enter Tryd.func11 rfl Tryd.ntmps11 (Nat.le_of_ble_eq_true rfl) fun a hF hS => ?_
 refine wp_seq_k ?_; intro K1 hK1
 refine regl ?_
 refine wpl_ef hF hS rfl (ef_boxA rfl) ?_
 clear hF hS; rintro _ _ _ a w ⟨b1, rfl, rfl, rfl⟩ hF hS
 refine wpl_sq hF hS (sq rfl (q_assign rfl) <|
   sq_end) ?_
 clear hF hS; intro a w hF hS
 refine wpList_nil ?_
 refine hK1 _ _ ?_
 clear hK1
 refine wp_seq_k ?_; intro K2 hK2
 refine reg hF hS (sq rfl (q_assign rfl) <|
   sq_end) ?_
 clear hF hS; intro a w hF hS
 replace hS := hS.nilRow 3 1
 refine hK2 _ _ ?_
 clear hK2
 refine wp_seq_k ?_; intro K3 hK3
 refine reg hF hS (sq rfl (q_assign rfl) <|
   sq_end) ?_
 clear hF hS; intro a w hF hS
 refine hK3 _ _ ?_
 clear hK3
 refine wp_seq_k ?_; intro K4 hK4
 refine wp_seq_k ?_; intro K5 hK5
 refine reg hF hS (sq rfl (q_assign rfl) <|
   sq_end) ?_
 clear hF hS; intro a w hF hS
 refine hK5 _ _ ?_
 clear hK5
 refine wp_block ?_
 obtain ⟨hs0, hhs0, hS⟩ : ∃ h, h = _ ∧ St _ _ h _ := ⟨_, rfl, hS⟩
 refine wp_loopx (γ := Value × Int) ((Value.slice none 0 0), 0) (fun (gg : Value × Int) => match gg with | (u, i) => [(3, u), (4, vi (Si.sm d (4 * i.toNat))), (5, vi i)]) [(1, _)] (fun (gg : Value × Int) => match gg with | (u, i) => (hs0.set 0 (.row u 3 1 (4 * i.toNat) ((Si.dgs d (4 * i.toNat)).map vi)))) (fun (gg : Value × Int) => match gg with | (u, i) => 0 ≤ i ∧ i ≤ 16) (fun (gg : Value × Int) => match gg with | (u, i) => (16 - i).toNat) (hF.sub ⟨rfl, rfl, rfl, rfl, trivial⟩) (by subst hhs0; exact hS) (by exact ⟨Int.le_refl _, by omega⟩) ?_
 clear hF hS; rintro ⟨u, i⟩ a w hfact hF hS
 subst hhs0; (try dsimp only at hfact); (try dsimp only at hF); (try dsimp only at hS)
 obtain ⟨hi0, hi1⟩ := hfact
 replace hS : St _ [] [_, _] _ := hS
 refine wp_seq_k ?_; intro K6 hK6
 refine wp_seq_k ?_; intro K7 hK7
 refine reg hF hS (sq rfl (q_move rfl) <|
   sq rfl (q_lti rfl rfl) <|
   sq_end) ?_
 clear hF hS; intro a w hF hS
 refine hK7 _ _ ?_
 clear hK7
 refine wp_ifd hF rfl (fun hc1 => ?_) (fun hc1 => ?_)
 ·have hb8 := toNat8 (d.getD i.toNat 0)
  refine wp_skip ?_
  refine hK6 _ _ ?_
  clear hK6
  refine wp_seq_k ?_; intro K8 hK8
  refine wp_block ?_
  refine wp_seq_k ?_; intro K9 hK9
  refine reg hF hS (sq rfl (q_move rfl) <|
    sq rfl (q_idx_arr0 ty23 ty5 rfl rfl (by omega)) <|
    sq rfl (q_ld_blkM ty5 1 0 rfl rfl bQ rfl) <|
    sq rfl (q_cv_bi ty5 ty3 rfl) <|
    sq rfl (q_assign rfl) <|
    sq_end) ?_
  clear hF hS; intro a w hF hS
  refine hK9 _ _ ?_
  clear hK9
  refine wp_seq_k ?_; intro K10 hK10
  refine regl ?_
  refine wpl_sq hF hS (sq rfl (q_move rfl) <|
    sq rfl (q_quoi rfl rfl (by omega)) <|
    sq rfl (q_move rfl) <|
    sq rfl (q_quoi rfl rfl (by omega)) <|
    sq rfl (q_remi rfl rfl (by omega)) <|
    sq rfl (q_move rfl) <|
    sq rfl (q_quoi rfl rfl (by omega)) <|
    sq rfl (q_remi rfl rfl (by omega)) <|
    sq rfl (q_move rfl) <|
    sq rfl (q_remi rfl rfl (by omega)) <|
    sq_end) ?_
  clear hF hS; intro a w hF hS
  refine wpl_ef hF hS rfl (ef_bsliceA ty25 ty3 rfl rfl oQ (by decide) rfl rfl) ?_
  clear hF hS; rintro v3 _ _ a w ⟨rfl, rfl⟩ hF hS
  replace hS : St _ [] [_, _, _] _ := hS
  refine wpl_sq hF hS (sq rfl (q_assign rfl) <|
    sq_end) ?_
  clear hF hS; intro a w hF hS
  refine wpList_nil ?_
  replace hS : St _ [] [_, _, _] _ := hS
  replace hS := hS.rowEq (m' := 4) (cs' := (Si.l4 d i.toNat).map vi) rfl (by rw [← Si.l4_eq]; rfl)
  refine hK10 _ _ ?_
  clear hK10
  refine wp_seq_k ?_; intro K11 hK11
  refine reg hF hS (sq rfl (q_assign rfl) <|
    sq_end) ?_
  clear hF hS; intro a w hF hS
  refine hK11 _ _ ?_
  clear hK11
  refine wp_block ?_
  obtain ⟨hs0, hhs0, hS⟩ : ∃ h, h = _ ∧ St _ _ h _ := ⟨_, rfl, hS⟩
  refine wp_loopx (γ := Value × Int) (u, 0) (fun (gg : Value × Int) => match gg with | (u2, k) => [(3, u2), (4, vi (Si.sm d (4 * i.toNat + k.toNat))), (8, vi k)]) [(1, _), (5, _), (7, _)] (fun (gg : Value × Int) => match gg with | (u2, k) => (hs0.set 1 (.row u2 3 1 (4 * i.toNat + k.toNat) ((Si.dgs d (4 * i.toNat + k.toNat)).map vi)))) (fun (gg : Value × Int) => match gg with | (u2, k) => 0 ≤ k ∧ k ≤ 4) (fun (gg : Value × Int) => match gg with | (u2, k) => (4 - k).toNat) (hF.sub ⟨rfl, rfl, rfl, rfl, rfl, rfl, trivial⟩) (by subst hhs0; exact hS) (by exact ⟨Int.le_refl _, by omega⟩) ?_
  clear hF hS; rintro ⟨u2, k⟩ a w hfact hF hS
  subst hhs0; (try dsimp only at hfact); (try dsimp only at hF); (try dsimp only at hS)
  obtain ⟨hk0, hk1⟩ := hfact
  replace hS : St _ [] [_, _, _] _ := hS
  have hsr := Si.sm_rng d (4 * i.toNat + k.toNat)
  have hlg := Si.l4_get (d := d) (i := i.toNat) (k := k.toNat)
  have hdr := Si.dg_rng d (4 * i.toNat + k.toNat)
  have hl4 : (Si.l4 d i.toNat).length = 4 := rfl
  refine wp_seq_k ?_; intro K12 hK12
  refine wp_seq_k ?_; intro K13 hK13
  refine reg hF hS (sq rfl (q_move rfl) <|
    sq rfl (q_lti rfl rfl) <|
    sq_end) ?_
  clear hF hS; intro a w hF hS
  refine hK13 _ _ ?_
  clear hK13
  refine wp_ifd hF rfl (fun hc2 => ?_) (fun hc2 => ?_)
  ·have hlg4 := hlg (by omega)
   refine wp_skip ?_
   refine hK12 _ _ ?_
   clear hK12
   refine wp_seq_k ?_; intro K14 hK14
   refine wp_block ?_
   refine wp_seq_k ?_; intro K15 hK15
   refine regl ?_
   refine wpl_sq hF hS (sq rfl (q_move rfl) <|
     sq rfl (q_move rfl) <|
     sq rfl (q_move rfl) <|
     sq rfl (q_idx_row ty25 ty3 0 rfl rfl rfl (by omega)) <|
     sq rfl (q_ld_rowM ty3 0 (0 : Int) rfl rfl bQ rfl) <|
     sq_end) ?_
   clear hF hS; intro a w hF hS
   refine wpl_ef hF hS rfl (ef_bsliceA ty25 ty3 rfl rfl oQ (by decide) rfl rfl) ?_
   clear hF hS; rintro v5 _ _ a w ⟨rfl, rfl⟩ hF hS
   replace hS : St _ [] [_, _, _, _] _ := hS
   refine wpl_ef hF hS rfl (ef_append ty25 ty3 2 rfl rfl rfl (src_row ty25 (k := 0) rfl oQ) bQ rfl (by decide)) ?_
   clear hF hS; rintro v7 _ _ a w ⟨rfl, rfl⟩ hF hS
   replace hS : St _ [] [_, _, _, _] _ := hS
   refine wpl_sq hF hS (sq rfl (q_assign rfl) <|
     sq_end) ?_
   clear hF hS; intro a w hF hS
   refine wpList_nil ?_
   refine hK15 _ _ ?_
   clear hK15
   refine reg hF hS (sq rfl (q_move rfl) <|
     sq rfl (q_addi rfl rfl (by omega)) <|
     sq rfl (q_move rfl) <|
     sq rfl (q_move rfl) <|
     sq rfl (q_idx_row ty25 ty3 1 rfl rfl rfl (by omega)) <|
     sq rfl (q_ld_rowM ty3 1 (0 : Int) rfl rfl bQ rfl) <|
     sq rfl (q_subi rfl rfl (by omega)) <|
     sq rfl (q_assign rfl) <|
     sq_end) ?_
   clear hF hS; intro a w hF hS
   refine hK14 _ _ ?_
   clear hK14
   refine reg hF hS (sq rfl (q_move rfl) <|
     sq rfl (q_addi rfl rfl (by omega)) <|
     sq rfl (q_assign rfl) <|
     sq_end) ?_
   clear hF hS; intro a w hF hS
   replace hS := hS.keep zQ (sQ.n)
   refine ⟨(v7, k + 1), ?_, ?_, hF.sub ⟨rfl, (by show some _ = some _; rw [show 4 * i.toNat + (k + 1).toNat = (4 * i.toNat + k.toNat) + 1 by omega, Si.sm, ← hlg (by omega), ← Int.add_sub_assoc]), rfl, rfl, rfl, rfl, trivial⟩, ?_⟩
   ·(try dsimp only); omega
   ·(try dsimp only); omega
   ·(try dsimp only); rw [show 4 * i.toNat + (k + 1).toNat = (4 * i.toNat + k.toNat) + 1 by omega, Si.dgs_succ, List.map_append, ← hlg (by omega)]; exact hS
  ·obtain rfl : k = 4 := by omega
   refine wp_exit ?_
   refine hK8 _ _ ?_
   clear hK8
   refine reg hF hS (sq rfl (q_move rfl) <|
     sq rfl (q_addi rfl rfl (by omega)) <|
     sq rfl (q_assign rfl) <|
     sq_end) ?_
   clear hF hS; intro a w hF hS
   replace hS := hS.keep zQ (sQ.n)
   refine ⟨(u2, i + 1), ?_, ?_, hF.sub ⟨rfl, (by show some _ = some _; rw [show 4 * (i + 1).toNat = 4 * i.toNat + 4 by omega]; rfl), rfl, rfl, trivial⟩, ?_⟩
   ·(try dsimp only); omega
   ·(try dsimp only); omega
   ·(try dsimp only); rw [show 4 * (i + 1).toNat = 4 * i.toNat + 4 by omega]; exact hS
 ·obtain rfl : i = 16 := by omega
  rw [show 4 * (16 : Int).toNat = 64 from rfl] at hF hS
  have hsr := Si.sm_rng d 64
  refine wp_exit ?_
  refine hK4 _ _ ?_
  clear hK4
  refine wp_seq_k ?_; intro K16 hK16
  refine regl ?_
  refine wpl_sq hF hS (sq rfl (q_move rfl) <|
    sq rfl (q_move rfl) <|
    sq rfl (q_quoi rfl rfl (by omega)) <|
    sq rfl (q_move rfl) <|
    sq rfl (q_quoi rfl rfl (by omega)) <|
    sq rfl (q_remi rfl rfl (by omega)) <|
    sq rfl (q_move rfl) <|
    sq rfl (q_quoi rfl rfl (by omega)) <|
    sq rfl (q_remi rfl rfl (by omega)) <|
    sq rfl (q_move rfl) <|
    sq rfl (q_remi rfl rfl (by omega)) <|
    sq_end) ?_
  clear hF hS; intro a w hF hS
  refine wpl_ef hF hS rfl (ef_bsliceA ty25 ty3 rfl rfl oQ (by decide) rfl rfl) ?_
  clear hF hS; rintro v8 _ _ a w ⟨rfl, rfl⟩ hF hS
  replace hS : St _ [] [_, _, _] _ := hS
  refine wpl_ef hF hS rfl (ef_append ty25 ty3 1 rfl rfl rfl (src_row ty25 (k := 0) rfl oQ) bQ rfl (by decide)) ?_
  clear hF hS; rintro v10 _ _ a w ⟨rfl, rfl⟩ hF hS
  replace hS : St _ [] [_, _, _] _ := hS
  refine wpl_sq hF hS (sq rfl (q_assign rfl) <|
    sq_end) ?_
  clear hF hS; intro a w hF hS
  refine wpList_nil ?_
  refine hK16 _ _ ?_
  clear hK16
  refine wp_ret ?_
  replace hS := hS.perm (.swap _ _ _)
  replace hS := hS.rowEq (m' := 68) (cs' := (Si.digs d).map vi) rfl (by unfold Si.digs; rw [List.map_append]; rfl)
  obtain ⟨zr, hzr, hS⟩ := St.freezeV (h0 := fun _ => rfl) (f := vi) (p := fun x => -9223372036854775808 ≤ x ∧ x ≤ 9223372036854775807) (xs := Si.digs d) hS (Si.digs_len d).symm (by decide) (fun x hx => by have := Si.digs_mem x hx; omega)
  exact fn_ret (rs := [.tmp 2]) rfl hF hS (vs := [_]) ⟨rfl, trivial⟩ (zs' := [zr]) (hs' := []) (List.singleton_sublist.2 (by simp)) zQ ⟨zr, hzr, rfl, rfl⟩
end Go.Proofs.YtlopocmpcmkdkaaDoor
