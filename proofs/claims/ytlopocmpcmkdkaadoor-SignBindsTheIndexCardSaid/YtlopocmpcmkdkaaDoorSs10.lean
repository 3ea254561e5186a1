/- A text of a proof over this seat: walks over the program's functions and the plain laws that they need. -/
import Derived.Test.YtlopocmpcmkdkaaDoorSs9
import Derived.Test.YtlopocmpcmkdkaaDoorSi8
import Derived.Test.YtlopocmpcmkdkaaDoorFwB
import Derived.Test.YtlopocmpcmkdkaaDoorFwD
import Derived.Test.YtlopocmpcmkdkaaDoorFwC
set_option linter.all false
namespace Go.Proofs.YtlopocmpcmkdkaaDoor
open Go.Fw
theorem fn12 : FnOk Tryd.prog 12 := ⟨_, Tryd.func12, rfl, by kernel_rfl⟩
theorem fn14 : FnOk Tryd.prog 14 := ⟨_, Tryd.func14, rfl, by kernel_rfl⟩
theorem fn18 : FnOk Tryd.prog 18 := ⟨_, Tryd.func18, rfl, by kernel_rfl⟩
theorem fn20 : FnOk Tryd.prog 20 := ⟨_, Tryd.func20, rfl, by kernel_rfl⟩

attribute [local irreducible] Sha.sum Sha.mac Sha.ofD Wi.int Wi.ints Wi.bytes Sha.inp Si.leaf Si.nodeD Si.start Si.digs Si.dig Wi.getInt Si.leafD Si.sigS Si.sigE Si.pub Si.pubE Si.ver

set_option maxRecDepth 4000 in
set_option maxHeartbeats 2000000 in
theorem sanity_ct (w : World) {fz1 : Nat × Nat} {bt1 : TypeId} (hg1 : w.heap[1]? = some (.cells (Sha.kc.map vw).toArray bt1 fz1)) : Ct Tryd.prog 9 [] w (fun r _ _ => r = .bool true) := by
 refine fn_enter Tryd.func9 rfl Tryd.ntmps9 (Nat.le_of_ble_eq_true rfl) fun a hF hS => ?_
 have hpl : Si.pL.length = 16 := rfl
 have hsl := Si.san_len
 have h32 : Si.sd5.length = 32 := rfl
 have hp1 := Si.pub_16 Si.sd5 1
 have hdm := Si.dig_16 Si.pL 1 [109]
 have hdo := Si.dig_16 Si.pL 0 [109]
 have hq1 : ([109] : List UInt8).length = 1 := rfl
 have hq2 : ([110] : List UInt8).length = 1 := rfl
 have hq3 : (List.drop (Int.toNat 1) Si.sd5).length = 31 := rfl
 have hq4 : (List.replicate 16 (0 : UInt8)).length = 16 := rfl
 have hpd := Si.pub_16 (List.drop (Int.toNat 1) Si.sd5) 0
 have hdl := Si.digs_len (List.replicate 16 0)
 obtain ⟨hd0, hd1, hd2⟩ := Si.san_digs
 refine wp_seq_k ?_; intro K1 hK1
 refine reg hF hS (sq rfl (q_assign rfl) <|
   sq_end) ?_
 clear hF hS; intro a w hF hS
 refine hK1 _ _ ?_
 clear hK1
 refine wp_seq_k ?_; intro K2 hK2
 refine reg hF hS (sq rfl (q_call fn20 rfl (fun w hS => seed_ct (5 : UInt8) w ) (fun _ _ _ h => h)) <|
   sq rfl (q_assign rfl) <|
   sq_end) ?_
 clear hF hS; intro a w hF hS
 rw [show List.replicate 32 (5 : UInt8) = Si.sd5 from rfl] at hF
 refine hK2 _ _ ?_
 clear hK2
 refine wp_seq_k ?_; intro K3 hK3
 refine regl ?_
 refine wpl_sq hF hS (sq rfl (q_move rfl) <|
   sq rfl (q_call fn12 rfl (fun w hS => pub_ct Si.sd5 1 (by omega) w (hS.ext _ _ hg1)) (fun _ _ _ h => h)) <|
   sq rfl (q_move rfl) <|
   sq rfl (q_extract rfl rfl) <|
   sq rfl (q_extract rfl rfl) <|
   sq_end) ?_
 clear hF hS; intro a w hF hS
 refine wpl_ef hF hS rfl (ef_allocA ty23) ?_
 clear hF hS; rintro _ _ _ a w ⟨b1, rfl, rfl, rfl⟩ hF hS
 rw [show List.replicate 16 (Value.int .u8 0) = (List.replicate 16 (0 : UInt8)).map vb from by rw [List.map_replicate] <;> rfl] at hS
 refine wpl_ef hF hS rfl (ef_storeW ty23 0 rfl rfl rfl rfl bQ oQ bQ) ?_
 clear hF hS; rintro _ _ _ a w ⟨rfl, rfl, rfl⟩ hF hS
 replace hS : St _ [] [_] _ := hS
 refine wpl_sq hF hS (sq rfl (q_assign rfl) <|
   sq_end) ?_
 clear hF hS; intro a w hF hS
 refine wpList_nil ?_
 rw [Si.san_pub] at hF hS; rw [Si.san_pubE] at hF
 refine hK3 _ _ ?_
 clear hK3
 refine wp_seq_k ?_; intro K4 hK4
 refine reg hF hS (sq rfl (q_move rfl) <|
   sq rfl (q_call fn14 rfl (fun w hS => sign_ct Si.sd5 1 1 [109] (by omega) (by first | with_reducible assumption | omega) (by omega) w (hS.ext _ _ hg1)) (fun _ _ _ h => h)) <|
   sq rfl (q_move rfl) <|
   sq rfl (q_extract rfl rfl) <|
   sq rfl (q_extract rfl rfl) <|
   sq rfl (q_assign rfl) <|
   sq rfl (q_assign rfl) <|
   sq_end) ?_
 clear hF hS; intro a w hF hS
 rw [Si.san_sigE] at hF
 refine hK4 _ _ ?_
 clear hK4
 refine wp_seq_k ?_; intro K5 hK5
 refine reg hF hS (sq rfl (q_ld_blkW ty23 0 rfl rfl bQ rfl) <|
   sq rfl (q_move rfl) <|
   sq rfl (q_call fn18 rfl (fun w hS => verify_ct Si.pL 1 [109] (Si.sigS Si.sd5 1 1 [109]) (by first | with_reducible assumption | omega) (by omega) (by omega) w (hS.ext _ _ hg1)) (fun _ _ _ h => h)) <|
   sq rfl (q_move rfl) <|
   sq rfl (q_extract rfl rfl) <|
   sq rfl (q_extract rfl rfl) <|
   sq rfl (q_assign rfl) <|
   sq rfl (q_assign rfl) <|
   sq_end) ?_
 clear hF hS; intro a w hF hS
 rw [Si.san_ver] at hF
 refine hK5 _ _ ?_
 clear hK5
 refine wp_seq_k ?_; intro K6 hK6
 refine reg hF hS (sq rfl (q_ld_blkW ty23 0 rfl rfl bQ rfl) <|
   sq rfl (q_move rfl) <|
   sq rfl (q_call fn18 rfl (fun w hS => verify_ct Si.pL 1 [110] (Si.sigS Si.sd5 1 1 [109]) (by first | with_reducible assumption | omega) (by omega) (by omega) w (hS.ext _ _ hg1)) (fun _ _ _ h => h)) <|
   sq rfl (q_move rfl) <|
   sq rfl (q_extract rfl rfl) <|
   sq rfl (q_extract rfl rfl) <|
   sq rfl (q_assign rfl) <|
   sq rfl (q_assign rfl) <|
   sq_end) ?_
 clear hF hS; intro a w hF hS
 rw [Si.san_wrong] at hF
 refine hK6 _ _ ?_
 clear hK6
 refine wp_seq_k ?_; intro K7 hK7
 refine reg hF hS (sq rfl (q_move rfl) <|
   sq rfl (q_call fn14 rfl (fun w hS => sign_ct Si.sd5 1 2 [109] (by omega) (by first | with_reducible assumption | omega) (by omega) w (hS.ext _ _ hg1)) (fun _ _ _ h => h)) <|
   sq rfl (q_move rfl) <|
   sq rfl (q_extract rfl rfl) <|
   sq rfl (q_extract rfl rfl) <|
   sq rfl (q_assign rfl) <|
   sq rfl (q_assign rfl) <|
   sq_end) ?_
 clear hF hS; intro a w hF hS
 rw [Si.san_spent] at hF
 refine hK7 _ _ ?_
 clear hK7
 refine wp_seq_k ?_; intro K8 hK8
 refine regl ?_
 refine wpl_sq hF hS (sq rfl (q_move rfl) <|
   sq rfl (q_sl_s_lo ty9 rfl rfl (by omega)) <|
   sq rfl (q_call fn12 rfl (fun w hS => pub_ct (List.drop (Int.toNat 1) Si.sd5) 0 (by omega) w (hS.ext _ _ hg1)) (fun _ _ _ h => h)) <|
   sq rfl (q_move rfl) <|
   sq rfl (q_extract rfl rfl) <|
   sq rfl (q_extract rfl rfl) <|
   sq_end) ?_
 clear hF hS; intro a w hF hS
 refine wpl_ef hF hS rfl (ef_allocA ty23) ?_
 clear hF hS; rintro _ _ _ a w ⟨b2, rfl, rfl, rfl⟩ hF hS
 rw [show List.replicate 16 (Value.int .u8 0) = (List.replicate 16 (0 : UInt8)).map vb from by rw [List.map_replicate] <;> rfl] at hS
 refine wpl_ef hF hS rfl (ef_storeW ty23 0 rfl rfl rfl rfl bQ oQ bQ) ?_
 clear hF hS; rintro _ _ _ a w ⟨rfl, rfl, rfl⟩ hF hS
 replace hS : St _ [] [_, _] _ := hS
 refine wpl_sq hF hS (sq rfl (q_assign rfl) <|
   sq_end) ?_
 clear hF hS; intro a w hF hS
 refine wpList_nil ?_
 rw [Si.san_short] at hF
 refine hK8 _ _ ?_
 clear hK8
 refine wp_seq_k ?_; intro K9 hK9
 refine regl ?_
 refine wpl_sq hF hS (sq rfl (q_build rfl (run_build_arr ty23 ty5 (cells := (List.replicate 16 (0 : UInt8)).map vb) rfl)) <|
   sq_end) ?_
 clear hF hS; intro a w hF hS
 refine wpl_ef hF hS rfl (ef_call fn10 rfl (fun w hS => sdgs_ct _ (by first | with_reducible assumption | omega) w )) ?_
 clear hF hS; rintro v3 _ _ a w ⟨_, _, rfl, rfl, ⟨z4, hz5, rfl, rfl⟩⟩ hF hS
 replace hS : St _ [_] [_, _] _ := hS
 refine wpl_sq hF hS (sq rfl (q_assign rfl) <|
   sq_end) ?_
 clear hF hS; intro a w hF hS
 refine wpList_nil ?_
 refine hK9 _ _ ?_
 clear hK9
 refine wp_seq_k ?_; intro K10 hK10
 refine wp_seq_k ?_; intro K11 hK11
 refine reg hF hS (sq rfl (q_move rfl) <|
   sq rfl (q_nf (q_nei rfl rfl) (by decide)) <|
   sq rfl (q_move rfl) <|
   sq_go 53 rfl rfl rfl (q_move rfl) <|
   sq_go 53 rfl rfl rfl (q_nf (q_nei rfl rfl) (by decide)) <|
   sq rfl (q_pick_f rfl rfl) <|
   sq rfl (q_move rfl) <|
   sq_go 57 rfl rfl rfl (q_move rfl) <|
   sq_go 57 rfl rfl rfl (q_nf (q_nei rfl rfl) (by decide)) <|
   sq rfl (q_pick_f rfl rfl) <|
   sq rfl (q_move rfl) <|
   sq_go 61 rfl rfl rfl (q_move rfl) <|
   sq_go 61 rfl rfl rfl (q_len_sl ty25 hz5 rfl) <|
   sq_go 61 rfl rfl rfl (q_nf (q_nei rfl rfl) (by rw [Si.digs_len]; decide)) <|
   sq rfl (q_pick_f rfl rfl) <|
   sq_end) ?_
 clear hF hS; intro a w hF hS
 refine hK11 _ _ ?_
 clear hK11
 refine wp_if hF rfl (fun h => absurd h (by simp)) (fun _ => ?_)
 refine wp_skip ?_
 refine hK10 _ _ ?_
 clear hK10
 refine wp_seq_k ?_; intro K12 hK12
 refine regd mixed kQ hF hS (sq rfl (q_move rfl) <|
   sq rfl (q_dt (q_eqi rfl rfl) (rfl)) <|
   sq rfl (q_move rfl) <|
   sq_go 68 rfl rfl rfl (q_move rfl) <|
   sq_go 68 rfl rfl rfl (q_dt (q_eqi rfl rfl) (rfl)) <|
   sq rfl (q_pick_t rfl rfl) <|
   sq rfl (q_move rfl) <|
   sq_go 72 rfl rfl rfl (q_move rfl) <|
   sq_go 72 rfl rfl rfl (q_dt (q_eqi rfl rfl) (rfl)) <|
   sq rfl (q_pick_t rfl rfl) <|
   sq rfl (q_move rfl) <|
   sq_go 76 rfl rfl rfl (q_move rfl) <|
   sq_go 76 rfl rfl rfl (q_dt (q_eqi rfl rfl) (rfl)) <|
   sq rfl (q_pick_t rfl rfl) <|
   sq rfl (q_move rfl) <|
   sq_go 80 rfl rfl rfl (q_move rfl) <|
   sq_go 80 rfl rfl rfl (q_idx_sl ty25 ty3 hz5 rfl rfl (by omega)) <|
   sq_go 80 rfl rfl rfl (q_ld_I ty3 hz5 (.inr (by simp)) rfl rfl (by omega)) <|
   sq_go 80 rfl rfl rfl (q_dt (q_eqi rfl rfl) (hd0)) <|
   sq rfl (q_pick_t rfl rfl) <|
   sq rfl (q_move rfl) <|
   sq_go 86 rfl rfl rfl (q_move rfl) <|
   sq_go 86 rfl rfl rfl (q_idx_sl ty25 ty3 hz5 rfl rfl (by omega)) <|
   sq_go 86 rfl rfl rfl (q_ld_I ty3 hz5 (.inr (by simp)) rfl rfl (by omega)) <|
   sq_go 86 rfl rfl rfl (q_dt (q_eqi rfl rfl) (hd1)) <|
   sq rfl (q_pick_t rfl rfl) <|
   sq rfl (q_move rfl) <|
   sq_go 92 rfl rfl rfl (q_move rfl) <|
   sq_go 92 rfl rfl rfl (q_idx_sl ty25 ty3 hz5 rfl rfl (by omega)) <|
   sq_go 92 rfl rfl rfl (q_ld_I ty3 hz5 (.inr (by simp)) rfl rfl (by omega)) <|
   sq_go 92 rfl rfl rfl (q_dt (q_eqi rfl rfl) (hd2)) <|
   sq rfl (q_pick_t rfl rfl) <|
   sq rfl (q_move rfl) <|
   sq_go 98 rfl rfl rfl (q_ld_blkW ty23 1 rfl rfl bQ rfl) <|
   sq_go 98 rfl rfl rfl (q_call fn16 rfl (fun w hS => sdigest_ct Si.pL 1 [109] (by first | with_reducible assumption | omega) (by omega) (by omega) w (hS.ext _ _ hg1)) (fun _ _ _ h => h)) <|
   sq_go 98 rfl rfl rfl (q_ld_blkW ty23 1 rfl rfl bQ rfl) <|
   sq_go 98 rfl rfl rfl (q_call fn16 rfl (fun w hS => sdigest_ct Si.pL 0 [109] (by first | with_reducible assumption | omega) (by omega) (by omega) w (hS.ext _ _ hg1)) (fun _ _ _ h => h)) <|
   sq_go 98 rfl rfl rfl (q_neAB ty23 ty5 kQ rfl rfl bQ bQ) <|
   sq rfl (q_pick_t rfl rfl) <|
   sq rfl (q_assign rfl) <|
   sq_end) ?_
 clear hF hS; intro a w hF hS
 refine hK12 _ _ ?_
 clear hK12
 refine wp_ret ?_
 exact fn_ret (rs := [.tmp 0]) rfl hF hS (vs := [_]) ⟨rfl, trivial⟩ zQ zQ (by rw [decide_eq_false Si.do_ne]; rfl)
end Go.Proofs.YtlopocmpcmkdkaaDoor
