/- A text of a proof over this seat: walks over the program's functions and the plain laws that they need. -/
import Derived.Test.YtlopocmpcmkdkaaDoorSs11
import Derived.Test.YtlopocmpcmkdkaaDoorSiA
import Derived.Test.YtlopocmpcmkdkaaDoorFwB
import Derived.Test.YtlopocmpcmkdkaaDoorFwD
import Derived.Test.YtlopocmpcmkdkaaDoorFwC
set_option linter.all false
namespace Go.Proofs.YtlopocmpcmkdkaaDoor
open Go.Fw


attribute [local irreducible] Sha.sum Sha.mac Sha.ofD Wi.int Wi.ints Wi.bytes Sha.inp Si.leaf Si.nodeD Si.start Si.digs Si.dig Wi.getInt Si.leafD Si.sigS Si.sigE Si.pub Si.pubE Si.ver Si.tree

set_option maxRecDepth 4000 in
set_option maxHeartbeats 2000000 in
theorem slaw6_ct (c ht ix ot : UInt8) (m : List UInt8) (hm9 : m.length ≤ 140737488355328) (w : World) {fz0 : Nat × Nat} {bt0 : TypeId} (hg0 : w.heap[0]? = some (.cells (Sha.kc.map vw).toArray bt0 fz0)) {fz1 : Nat × Nat} {bt1 : TypeId} (hg1 : w.heap[1]? = some (.cells (Sha.kc.map vw).toArray bt1 fz1)) : Ct Tryd.prog 8 [vb c, vb ht, vb ix, vb ot, vs m] w (fun r _ _ => r = .bool true) := by
 refine fn_enter Tryd.func8 rfl Tryd.ntmps8 (Nat.le_of_ble_eq_true rfl) fun a hF hS => ?_
 refine wp_seq_k ?_; intro K1 hK1
 refine reg hF hS (sq rfl (q_assign rfl) <|
   sq_end) ?_
 clear hF hS; intro a w hF hS
 refine hK1 _ _ ?_
 clear hK1
 refine wp_seq_k ?_; intro K2 hK2
 refine reg hF hS (sq rfl (q_call fn9 rfl (fun w hS => sanity_ct w (hS.ext _ _ hg1)) (fun _ _ _ h => h)) <|
   sq rfl (q_assign rfl) <|
   sq_end) ?_
 clear hF hS; intro a w hF hS
 refine hK2 _ _ ?_
 clear hK2
 refine wp_seq_k ?_; intro K3 hK3
 refine wp_seq_k ?_; intro K4 hK4
 refine reg hF hS (sq rfl (q_move rfl) <|
   sq rfl (q_len_s ty9 rfl) <|
   sq rfl (q_gti rfl rfl) <|
   sq_end) ?_
 clear hF hS; intro a w hF hS
 refine hK4 _ _ ?_
 clear hK4
 refine wp_ifd hF rfl (fun hc1 => ?_) (fun hc1 => ?_)
 ·refine wp_seq_k ?_; intro K5 hK5
  refine reg hF hS (sq rfl (q_move rfl) <|
    sq rfl (q_assign rfl) <|
    sq_end) ?_
  clear hF hS; intro a w hF hS
  refine hK5 _ _ ?_
  clear hK5
  refine wp_ret ?_
  exact fn_ret (rs := [.tmp 10]) rfl hF hS (vs := [_]) ⟨rfl, trivial⟩ zQ zQ (rfl)
 ·refine wp_skip ?_
  refine hK3 _ _ ?_
  clear hK3
  refine wp_seq_k ?_; intro K6 hK6
  refine reg hF hS (sq rfl (q_move rfl) <|
    sq rfl (q_cv_bi ty5 ty3 rfl) <|
    sq rfl (q_remi rfl rfl (by omega)) <|
    sq rfl (q_assign rfl) <|
    sq_end) ?_
  clear hF hS; intro a w hF hS
  obtain ⟨h, hh⟩ : ∃ h, h = (ht.toNat : Int) % 3 := ⟨_, rfl⟩
  rw [← hh] at hF
  have hh0 : 0 ≤ h ∧ h ≤ 2 := by omega
  have hpw : (1 : Int) * 2 ^ (min h.toNat 64) = ((2 ^ h.toNat : Nat) : Int) := Si.pw (by omega)
  have hp6 := Si.p2_le (h := h.toNat) (l := 0) (by omega)
  rw [Nat.sub_zero] at hp6
  have hpz := Int.natCast_nonneg (2 ^ h.toNat)
  have hp0 := Si.p2_pos (h := h.toNat)
  have hp1 : (1 : Int) ≤ ((2 ^ h.toNat : Nat) : Int) := by exact_mod_cast hp0
  have hp7 : ((2 ^ h.toNat : Nat) : Int) ≤ 64 := by exact_mod_cast hp6
  have hsl : (List.replicate 32 c).length = 32 := List.length_replicate
  have hok : Si.okH (List.replicate 32 c) h := by unfold Si.okH; omega
  have htr := Si.tree_16 (List.replicate 32 c) h.toNat 0
  have hpb := Si.pub_16 (List.replicate 32 c) h
  refine hK6 _ _ ?_
  clear hK6
  refine wp_seq_k ?_; intro K7 hK7
  refine reg hF hS (sq rfl (q_move rfl) <|
    sq rfl (q_cv_bi ty5 ty3 rfl) <|
    sq rfl (q_move rfl) <|
    sq rfl (q_shli rfl rfl (by omega) (by omega)) <|
    sq rfl (q_remi rfl rfl (by omega)) <|
    sq rfl (q_assign rfl) <|
    sq_end) ?_
  clear hF hS; intro a w hF hS
  obtain ⟨n, hnn⟩ : ∃ n, n = (ix.toNat : Int) % (1 * 2 ^ (min h.toNat 64)) := ⟨_, rfl⟩
  rw [← hnn] at hF
  have hoin : Si.okI h n := by unfold Si.okI; rw [hnn, hpw]; exact ⟨Int.emod_nonneg _ (by omega), Int.emod_lt_of_pos _ (by omega)⟩
  have hrn := Si.okI_rng hok hoin
  have hiln := Wi.int_len9 n
  refine hK7 _ _ ?_
  clear hK7
  refine wp_seq_k ?_; intro K8 hK8
  refine reg hF hS (sq rfl (q_move rfl) <|
    sq rfl (q_cv_bi ty5 ty3 rfl) <|
    sq rfl (q_move rfl) <|
    sq rfl (q_shli rfl rfl (by omega) (by omega)) <|
    sq rfl (q_remi rfl rfl (by omega)) <|
    sq rfl (q_assign rfl) <|
    sq_end) ?_
  clear hF hS; intro a w hF hS
  obtain ⟨k, hnk⟩ : ∃ n, n = (ot.toNat : Int) % (1 * 2 ^ (min h.toNat 64)) := ⟨_, rfl⟩
  rw [← hnk] at hF
  have hoik : Si.okI h k := by unfold Si.okI; rw [hnk, hpw]; exact ⟨Int.emod_nonneg _ (by omega), Int.emod_lt_of_pos _ (by omega)⟩
  have hrk := Si.okI_rng hok hoik
  have hilk := Wi.int_len9 k
  refine hK8 _ _ ?_
  clear hK8
  refine wp_seq_k ?_; intro K9 hK9
  refine regl ?_
  refine wpl_sq hF hS (sq rfl (q_move rfl) <|
    sq rfl (q_call fn20 rfl (fun w hS => seed_ct _ w ) (fun _ _ _ h => h)) <|
    sq rfl (q_move rfl) <|
    sq rfl (q_call fn12 rfl (fun w hS => pub_ct _ _ (by omega) w (hS.ext _ _ hg1)) (fun _ _ _ h => h)) <|
    sq rfl (q_move rfl) <|
    sq rfl (q_extract rfl rfl) <|
    sq rfl (q_extract rfl rfl) <|
    sq_end) ?_
  clear hF hS; intro a w hF hS
  refine wpl_ef hF hS rfl (ef_allocA ty23) ?_
  clear hF hS; rintro _ _ _ a w ⟨b1, rfl, rfl, rfl⟩ hF hS
  rw [show List.replicate 16 (Value.int .u8 0) = (List.replicate 16 (0 : UInt8)).map vb from by rw [List.map_replicate] <;> rfl] at hS
  refine wpl_ef hF hS rfl (ef_storeW ty23 0 rfl rfl rfl rfl bQ oQ bQ) ?_
  clear hF hS; rintro _ _ _ a w ⟨rfl, rfl, rfl⟩ hF hS
  replace hS : St _ [] [_] _ := hS
  refine wpl_sq hF hS (sq rfl (q_assign rfl) <|
    sq_end) ?_
  clear hF hS; intro a w hF hS
  refine wpList_nil ?_
  rw [show Si.pub (List.replicate 32 c) h = Si.tree (List.replicate 32 c) h.toNat 0 from by unfold Si.pub; rw [if_pos hok]] at hF hS; rw [show Si.pubE (List.replicate 32 c) h = 0 from by unfold Si.pubE; rw [if_pos hok]] at hF
  refine hK9 _ _ ?_
  clear hK9
  refine wp_seq_k ?_; intro K10 hK10
  refine reg hF hS (sq rfl (q_move rfl) <|
    sq rfl (q_call fn20 rfl (fun w hS => seed_ct _ w ) (fun _ _ _ h => h)) <|
    sq rfl (q_move rfl) <|
    sq rfl (q_move rfl) <|
    sq rfl (q_move rfl) <|
    sq rfl (q_call fn14 rfl (fun w hS => sign_ct _ _ _ _ (by omega) (by first | with_reducible assumption | omega) (by omega) w (hS.ext _ _ hg1)) (fun _ _ _ h => h)) <|
    sq rfl (q_move rfl) <|
    sq rfl (q_extract rfl rfl) <|
    sq rfl (q_extract rfl rfl) <|
    sq rfl (q_assign rfl) <|
    sq rfl (q_assign rfl) <|
    sq_end) ?_
  clear hF hS; intro a w hF hS
  rw [show Si.sigS (List.replicate 32 c) h n m = Si.sgA (List.replicate 32 c) h n m from by unfold Si.sigS; rw [if_pos hok, if_pos hoin], show Si.sigE (List.replicate 32 c) h n = 0 from by unfold Si.sigE; rw [if_pos hok, if_pos hoin]] at hF
  have hsgn := Si.sgA_len (List.replicate 32 c) h n m
  refine hK10 _ _ ?_
  clear hK10
  refine wp_seq_k ?_; intro K11 hK11
  refine reg hF hS (sq rfl (q_move rfl) <|
    sq rfl (q_call fn20 rfl (fun w hS => seed_ct _ w ) (fun _ _ _ h => h)) <|
    sq rfl (q_move rfl) <|
    sq rfl (q_move rfl) <|
    sq rfl (q_move rfl) <|
    sq rfl (q_call fn14 rfl (fun w hS => sign_ct _ _ _ _ (by omega) (by first | with_reducible assumption | omega) (by omega) w (hS.ext _ _ hg1)) (fun _ _ _ h => h)) <|
    sq rfl (q_move rfl) <|
    sq rfl (q_extract rfl rfl) <|
    sq rfl (q_extract rfl rfl) <|
    sq rfl (q_assign rfl) <|
    sq rfl (q_assign rfl) <|
    sq_end) ?_
  clear hF hS; intro a w hF hS
  rw [show Si.sigS (List.replicate 32 c) h k m = Si.sgA (List.replicate 32 c) h k m from by unfold Si.sigS; rw [if_pos hok, if_pos hoik], show Si.sigE (List.replicate 32 c) h k = 0 from by unfold Si.sigE; rw [if_pos hok, if_pos hoik]] at hF
  have hsgk := Si.sgA_len (List.replicate 32 c) h k m
  have hq3 := List.length_take_le (((Si.sgA (List.replicate 32 c) h k m).length : Int) - (68 + h) * 16).toNat (Si.sgA (List.replicate 32 c) h k m)
  have hq4 := List.length_drop (i := (((Si.sgA (List.replicate 32 c) h n m).length : Int) - (68 + h) * 16).toNat) (l := (Si.sgA (List.replicate 32 c) h n m))
  refine hK11 _ _ ?_
  clear hK11
  refine wp_seq_k ?_; intro K12 hK12
  refine wp_seq_k ?_; intro K13 hK13
  refine reg hF hS (sq rfl (q_move rfl) <|
    sq rfl (q_nf (q_nei rfl rfl) (rfl)) <|
    sq rfl (q_move rfl) <|
    sq_go 72 rfl rfl rfl (q_move rfl) <|
    sq_go 72 rfl rfl rfl (q_len_s ty9 rfl) <|
    sq_go 72 rfl rfl rfl (q_df (q_lti rfl rfl) (by omega)) <|
    sq rfl (q_pick_f rfl rfl) <|
    sq_end) ?_
  clear hF hS; intro a w hF hS
  refine hK13 _ _ ?_
  clear hK13
  refine wp_if hF rfl (fun h => absurd h (by simp)) (fun _ => ?_)
  refine wp_skip ?_
  refine hK12 _ _ ?_
  clear hK12
  refine wp_seq_k ?_; intro K14 hK14
  refine reg hF hS (sq rfl (q_move rfl) <|
    sq rfl (q_addi rfl rfl (by omega)) <|
    sq rfl (q_muli rfl rfl (by omega)) <|
    sq rfl (q_assign rfl) <|
    sq_end) ?_
  clear hF hS; intro a w hF hS
  refine hK14 _ _ ?_
  clear hK14
  refine wp_seq_k ?_; intro K15 hK15
  refine wp_seq_k ?_; intro K16 hK16
  refine reg hF hS (sq rfl (q_move rfl) <|
    sq rfl (q_len_s ty9 rfl) <|
    sq rfl (q_move rfl) <|
    sq rfl (q_df (q_lti rfl rfl) (by omega)) <|
    sq rfl (q_move rfl) <|
    sq_go 84 rfl rfl rfl (q_move rfl) <|
    sq_go 84 rfl rfl rfl (q_len_s ty9 rfl) <|
    sq_go 84 rfl rfl rfl (q_move rfl) <|
    sq_go 84 rfl rfl rfl (q_df (q_lti rfl rfl) (by omega)) <|
    sq rfl (q_pick_f rfl rfl) <|
    sq_end) ?_
  clear hF hS; intro a w hF hS
  refine hK16 _ _ ?_
  clear hK16
  refine wp_if hF rfl (fun h => absurd h (by simp)) (fun _ => ?_)
  refine wp_skip ?_
  refine hK15 _ _ ?_
  clear hK15
  refine wp_seq_k ?_; intro K17 hK17
  refine regd mixed kQ hF hS (sq rfl (q_move rfl) <|
    sq rfl (q_move rfl) <|
    sq rfl (q_len_s ty9 rfl) <|
    sq rfl (q_move rfl) <|
    sq rfl (q_subi rfl rfl (by omega)) <|
    sq rfl (q_sl_s_hi ty9 rfl rfl (by omega)) <|
    sq rfl (q_move rfl) <|
    sq rfl (q_move rfl) <|
    sq rfl (q_len_s ty9 rfl) <|
    sq rfl (q_move rfl) <|
    sq rfl (q_subi rfl rfl (by omega)) <|
    sq rfl (q_sl_s_lo ty9 rfl rfl (by omega)) <|
    sq rfl (q_adds rfl rfl bQ) <|
    sq rfl (q_assign rfl) <|
    sq_end) ?_
  clear hF hS; intro a w hF hS
  obtain ⟨X, hX⟩ : ∃ X, X = (List.take (((Si.sgA (List.replicate 32 c) h k m).length : Int) - (68 + h) * 16).toNat (Si.sgA (List.replicate 32 c) h k m) ++ List.drop (((Si.sgA (List.replicate 32 c) h n m).length : Int) - (68 + h) * 16).toNat (Si.sgA (List.replicate 32 c) h n m)) := ⟨_, rfl⟩
  rw [← hX] at hF
  have hXl : X.length < 5000 := by rw [hX, List.length_append]; omega
  refine hK17 _ _ ?_
  clear hK17
  refine wp_seq_k ?_; intro K18 hK18
  refine reg hF hS (sq rfl (q_ld_blkW ty23 0 rfl rfl bQ rfl) <|
    sq rfl (q_move rfl) <|
    sq rfl (q_move rfl) <|
    sq rfl (q_move rfl) <|
    sq rfl (q_call fn18 rfl (fun w hS => verify_ct _ _ _ _ (by first | with_reducible assumption | omega) (by omega) (by omega) w (hS.ext _ _ hg1)) (fun _ _ _ h => h)) <|
    sq rfl (q_move rfl) <|
    sq rfl (q_extract rfl rfl) <|
    sq rfl (q_extract rfl rfl) <|
    sq rfl (q_assign rfl) <|
    sq rfl (q_assign rfl) <|
    sq_end) ?_
  clear hF hS; intro a w hF hS
  refine hK18 _ _ ?_
  clear hK18
  refine wp_seq_k ?_; intro K19 hK19
  refine reg hF hS (sq rfl (q_ld_blkW ty23 0 rfl rfl bQ rfl) <|
    sq rfl (q_move rfl) <|
    sq rfl (q_move rfl) <|
    sq rfl (q_move rfl) <|
    sq rfl (q_call fn19 rfl (fun w hS => rverify_ct _ _ _ _ (by first | with_reducible assumption | omega) (by omega) (by omega) w (hS.ext _ _ hg0)) (fun _ _ _ h => h)) <|
    sq rfl (q_move rfl) <|
    sq rfl (q_extract rfl rfl) <|
    sq rfl (q_extract rfl rfl) <|
    sq rfl (q_assign rfl) <|
    sq rfl (q_assign rfl) <|
    sq_end) ?_
  clear hF hS; intro a w hF hS
  have hfin : (!decide (n = k) || decide ((Si.ver (Si.tree (List.replicate 32 c) h.toNat 0) h m X).2 = 0)) = true := by
   by_cases e : n = k
   ·subst e
    rw [hX, List.take_append_drop, Si.ver_sg hok hoin]; simp
   ·simp [e]
  refine hK19 _ _ ?_
  clear hK19
  refine wp_seq_k ?_; intro K20 hK20
  refine regl ?_
  refine wpl_sq hF hS (sq rfl (q_move rfl) <|
    sq rfl (q_move rfl) <|
    sq_go 120 rfl rfl rfl (q_move rfl) <|
    sq_go 120 rfl rfl rfl (q_move rfl) <|
    sq_go 120 rfl rfl rfl (q_dt (q_eqi rfl rfl) (rfl)) <|
    sq rfl (q_pick_t rfl rfl) <|
    sq rfl (q_move rfl) <|
    sq_go 125 rfl rfl rfl (q_move rfl) <|
    sq_go 125 rfl rfl rfl (q_move rfl) <|
    sq_go 125 rfl rfl rfl (q_dt (q_eqi rfl rfl) (rfl)) <|
    sq rfl (q_pick_t rfl rfl) <|
    sq rfl (q_move rfl) <|
    sq_go 130 rfl rfl rfl (q_move rfl) <|
    sq_go 130 rfl rfl rfl (q_move rfl) <|
    sq_go 130 rfl rfl rfl (q_nei rfl rfl) <|
    sq_go 130 rfl rfl rfl (q_move rfl) <|
    sq_end) ?_
  clear hF hS; intro a w hF hS
  refine wpl_orP 15 134 2 11 130 hF hS rfl rfl rfl rfl rfl rfl rfl (fun hg2 => have hg2 := (nd_false hg2); sq_go 134 rfl rfl rfl (q_move rfl) <|
    sq_go 134 rfl rfl rfl (q_eqi rfl rfl) <|
    sq_end) rfl rfl ?_
  clear hF hS; intro a w hF hS
  refine wpl_sq hF hS (sq rfl (q_pick_t rfl rfl) <|
    sq rfl (q_assign rfl) <|
    sq_end) ?_
  clear hF hS; intro a w hF hS
  refine wpList_nil ?_
  refine hK20 _ _ ?_
  clear hK20
  refine wp_ret ?_
  exact fn_ret (rs := [.tmp 10]) rfl hF hS (vs := [_]) ⟨rfl, trivial⟩ zQ zQ (by rw [hfin])
end Go.Proofs.YtlopocmpcmkdkaaDoor
