/- A text of a proof over this seat: walks over the program's functions and the plain laws that they need. -/
import Derived.Test.YtkpfjkoeglpfoaaDoorWh19
import Derived.Test.YtkpfjkoeglpfoaaDoorSv
import Derived.Test.YtkpfjkoeglpfoaaDoorFw18
set_option linter.all false
namespace Go.Proofs.YtkpfjkoeglpfoaaDoor
open Go.Fw
theorem fn18 : FnOk Tryd.prog 18 := ⟨_, Tryd.func18, rfl, by kernel_rfl⟩
theorem fn21 : FnOk Tryd.prog 21 := ⟨_, Tryd.func21, rfl, by kernel_rfl⟩
theorem fn24 : FnOk Tryd.prog 24 := ⟨_, Tryd.func24, rfl, by kernel_rfl⟩
theorem fn25 : FnOk Tryd.prog 25 := ⟨_, Tryd.func25, rfl, by kernel_rfl⟩
theorem fn26 : FnOk Tryd.prog 26 := ⟨_, Tryd.func26, rfl, by kernel_rfl⟩

theorem sn1 : hexS (Sha.sum [97, 98, 99]) = [98, 97, 55, 56, 49, 54, 98, 102, 56, 102, 48, 49, 99, 102, 101, 97, 52, 49, 52, 49, 52, 48, 100, 101, 53, 100, 97, 101, 50, 50, 50, 51, 98, 48, 48, 51, 54, 49, 97, 51, 57, 54, 49, 55, 55, 97, 57, 99, 98, 52, 49, 48, 102, 102, 54, 49, 102, 50, 48, 48, 49, 53, 97, 100] := by rw [Sha.san_sum]; decide

theorem sn2 : hexS (Sha.mac [74, 101, 102, 101] [119, 104, 97, 116, 32, 100, 111, 32, 121, 97, 32, 119, 97, 110, 116, 32, 102, 111, 114, 32, 110, 111, 116, 104, 105, 110, 103, 63]) = [53, 98, 100, 99, 99, 49, 52, 54, 98, 102, 54, 48, 55, 53, 52, 101, 54, 97, 48, 52, 50, 52, 50, 54, 48, 56, 57, 53, 55, 53, 99, 55, 53, 97, 48, 48, 51, 102, 48, 56, 57, 100, 50, 55, 51, 57, 56, 51, 57, 100, 101, 99, 53, 56, 98, 57, 54, 52, 101, 99, 51, 56, 52, 51] := by rw [Sha.san_mac]; decide

theorem sn3 : hexS (Sha.ofD 8 [[97], []]) = [51, 54, 99, 100, 53, 48, 56, 53, 48, 51, 50, 57, 102, 56, 56, 52, 48, 54, 101, 51, 49, 98, 98, 56, 97, 55, 100, 56, 102, 98, 54, 50] := by rw [Sha.san_of]; decide

theorem sn4 : Sha.sum [97, 98, 99] = Sha.fin (Sha.adds (Sha.adds Sha.begin_ [97]) [98, 99]) := by rw [← Sha.adds_app]; rfl

theorem sn5 : (Sha.adds (Sha.adds Sha.begin_ [97]) [98, 99]).n.toNat < 2199023255552 := by rw [← Sha.adds_app, Sha.adds_nlt _ _ (by decide)]; decide

attribute [local irreducible] Sha.sum Sha.mac Sha.ofD Sha.fin Sha.adds Sha.begin_ hexS

set_option maxHeartbeats 2000000 in
theorem sanity_ct (w : World) {fz1 : Nat × Nat} {bt1 : TypeId} (hg1 : w.heap[1]? = some (.cells (Sha.kc.map vw).toArray bt1 fz1)) : Ct Tryd.prog 10 [] w (fun r _ _ => r = .bool true) := by
  refine fn_enter Tryd.func10 rfl Tryd.ntmps10 (Nat.le_of_ble_eq_true rfl) fun a hF hS => ?_
  have hb1 := Sha.adds_len Sha.begin_ Sha.begin_8 Sha.begin_64 [97]
  have hb2 := Sha.adds_len _ hb1.1 hb1.2 [98, 99]
  have hb3 : (Sha.adds (Sha.adds Sha.begin_ [97]) [98, 99]).n.toNat < 2199023255552 := sn5
  have hfl := Sha.fin_len (Sha.adds (Sha.adds Sha.begin_ [97]) [98, 99])
  have hs1 := Sha.sum_len [97, 98, 99]
  have ho1 := Sha.ofD_len 8 [[97], []]
  have hm1 := Sha.mac_len [74, 101, 102, 101] [119, 104, 97, 116, 32, 100, 111, 32, 121, 97, 32, 119, 97, 110, 116, 32, 102, 111, 114, 32, 110, 111, 116, 104, 105, 110, 103, 63]
  refine wp_seq_k ?_; intro K1 hK1
  refine reg hF hS (sq rfl (q_assign rfl) <|
      sq_end) ?_
  clear hF hS; intro a w hF hS
  refine hK1 _ _ ?_
  clear hK1
  refine wp_seq_k ?_; intro K2 hK2
  refine regl ?_
  refine wpl_ef hF hS rfl (ef_bsliceA ty22 ty5 rfl rfl (by first | ((repeat first | ((with_reducible refine oc_map ?_); intro _; rfl) | (with_reducible refine oc_app ?_ ?_) | ((with_reducible refine oc_cons ?_ ?_); rfl) | (with_reducible exact oc_nil) | ((with_reducible refine oc_rep ?_); rfl)); done) | (simp [Value.oneCell']; done) | (simp; decide)) (by decide) rfl rfl) ?_
  clear hF hS; rintro v1 _ _ a w ⟨rfl, rfl⟩ hF hS
  replace hS : St _ [] [_] _ := hS
  refine wpl_ef hF hS rfl (ef_cv_lit (xs := [97, 98, 99]) ty22 ty5 rfl rfl (by simp) (by simp)) ?_
  clear hF hS; rintro _ _ _ a w ⟨rfl, z3, rfl, rfl, hz4⟩ hF hS
  replace hS : St _ [_] [] _ := hS
  refine wpl_sq hF hS (sq rfl (q_call fn11 rfl (fun w hS => sum_ct _ _ (by decide) w (Sl.mono (hS.le (.inr (by simp))) hz4) (hS.ext _ _ hg1)) (fun _ _ _ h => h)) <|
      sq_end) ?_
  clear hF hS; intro a w hF hS
  refine wpl_ef hF hS rfl (ef_allocA ty24) ?_
  clear hF hS; rintro _ _ _ a w ⟨b5, rfl, rfl, rfl⟩ hF hS
  rw [show List.replicate 32 (Value.int .u8 0) = (List.replicate 32 (0 : UInt8)).map vb from by rw [List.map_replicate]; rfl] at hS
  refine wpl_ef hF hS rfl (ef_storeW ty24 0 rfl rfl rfl rfl (by first | omega | (simp; omega) | (simp [*]; done) | decide | (simp [*]; omega)) (by first | ((repeat first | ((with_reducible refine oc_map ?_); intro _; rfl) | (with_reducible refine oc_app ?_ ?_) | ((with_reducible refine oc_cons ?_ ?_); rfl) | (with_reducible exact oc_nil) | ((with_reducible refine oc_rep ?_); rfl)); done) | (simp [Value.oneCell']; done) | (simp; decide)) (by first | omega | (simp; omega) | (simp [*]; done) | decide | (simp [*]; omega))) ?_
  clear hF hS; rintro _ _ _ a w ⟨rfl, rfl, rfl⟩ hF hS
  replace hS : St _ [_] [_] _ := hS
  refine wpList_nil ?_
  refine hK2 _ _ ?_
  clear hK2
  refine wp_seq_k ?_; intro K3 hK3
  refine regl ?_
  refine wpl_sq hF hS (sq rfl (q_call fn14 rfl (fun w hS => begin_ct w ) (fun _ _ _ h => h)) <|
      sq rfl (q_call fn15 rfl (fun w hS => add_ct _ _ Sha.begin_8 Sha.begin_64 (by decide) w (hS.ext _ _ hg1)) (fun _ _ _ h => h)) <|
      sq rfl (q_call fn15 rfl (fun w hS => add_ct _ _ hb1.1 hb1.2 (by decide) w (hS.ext _ _ hg1)) (fun _ _ _ h => h)) <|
      sq rfl (q_call fn17 rfl (fun w hS => ssum_ct _ hb2.1 hb2.2 hb3 w (hS.ext _ _ hg1)) (fun _ _ _ h => h)) <|
      sq_end) ?_
  clear hF hS; intro a w hF hS
  refine wpl_ef hF hS rfl (ef_allocA ty24) ?_
  clear hF hS; rintro _ _ _ a w ⟨b6, rfl, rfl, rfl⟩ hF hS
  rw [show List.replicate 32 (Value.int .u8 0) = (List.replicate 32 (0 : UInt8)).map vb from by rw [List.map_replicate]; rfl] at hS
  refine wpl_ef hF hS rfl (ef_storeW ty24 0 rfl rfl rfl rfl (by first | omega | (simp; omega) | (simp [*]; done) | decide | (simp [*]; omega)) (by first | ((repeat first | ((with_reducible refine oc_map ?_); intro _; rfl) | (with_reducible refine oc_app ?_ ?_) | ((with_reducible refine oc_cons ?_ ?_); rfl) | (with_reducible exact oc_nil) | ((with_reducible refine oc_rep ?_); rfl)); done) | (simp [Value.oneCell']; done) | (simp; decide)) (by first | omega | (simp; omega) | (simp [*]; done) | decide | (simp [*]; omega))) ?_
  clear hF hS; rintro _ _ _ a w ⟨rfl, rfl, rfl⟩ hF hS
  replace hS : St _ [_] [_, _] _ := hS
  refine wpList_nil ?_
  refine hK3 _ _ ?_
  clear hK3
  refine wp_seq_k ?_; intro K4 hK4
  refine regl ?_
  refine wpl_ef hF hS rfl (ef_bsliceA ty27 ty9 rfl rfl (by first | ((repeat first | ((with_reducible refine oc_map ?_); intro _; rfl) | (with_reducible refine oc_app ?_ ?_) | ((with_reducible refine oc_cons ?_ ?_); rfl) | (with_reducible exact oc_nil) | ((with_reducible refine oc_rep ?_); rfl)); done) | (simp [Value.oneCell']; done) | (simp; decide)) (by decide) rfl rfl) ?_
  clear hF hS; rintro v7 _ _ a w ⟨rfl, rfl⟩ hF hS
  replace hS : St _ [_] [_, _, _] _ := hS
  refine wpl_sq hF hS (sq rfl (q_call fn21 rfl (fun w hS => of_ct _ _ _ (by decide) (by decide) w (own_slV (f := vs) (xs := [[97], []]) (hS.own _ (List.mem_of_getElem? (i := 0) rfl)).1 (by decide) rfl (by decide)) (hS.ext _ _ hg1)) (fun _ _ _ h => h)) <|
      sq_end) ?_
  clear hF hS; intro a w hF hS
  refine wpl_ef hF hS rfl (ef_allocA ty44) ?_
  clear hF hS; rintro _ _ _ a w ⟨b9, rfl, rfl, rfl⟩ hF hS
  rw [show List.replicate 16 (Value.int .u8 0) = (List.replicate 16 (0 : UInt8)).map vb from by rw [List.map_replicate]; rfl] at hS
  refine wpl_ef hF hS rfl (ef_storeW ty44 0 rfl rfl rfl rfl (by first | omega | (simp; omega) | (simp [*]; done) | decide | (simp [*]; omega)) (by first | ((repeat first | ((with_reducible refine oc_map ?_); intro _; rfl) | (with_reducible refine oc_app ?_ ?_) | ((with_reducible refine oc_cons ?_ ?_); rfl) | (with_reducible exact oc_nil) | ((with_reducible refine oc_rep ?_); rfl)); done) | (simp [Value.oneCell']; done) | (simp; decide)) (by first | omega | (simp; omega) | (simp [*]; done) | decide | (simp [*]; omega))) ?_
  clear hF hS; rintro _ _ _ a w ⟨rfl, rfl, rfl⟩ hF hS
  replace hS : St _ [_] [_, _, _, _] _ := hS
  refine wpList_nil ?_
  refine hK4 _ _ ?_
  clear hK4
  refine wp_seq_k ?_; intro K5 hK5
  refine reg hF hS (sq rfl (q_call fn18 rfl (fun w hS => mac_ct _ _ (by decide) (by decide) w (hS.ext _ _ hg1)) (fun _ _ _ h => h)) <|
      sq rfl (q_assign rfl) <|
      sq_end) ?_
  clear hF hS; intro a w hF hS
  refine hK5 _ _ ?_
  clear hK5
  refine wp_seq_k ?_; intro K6 hK6
  refine reg hF hS (sq rfl (q_bt (q_call fn24 rfl (fun w hS => equal_ct _ _ (by decide) (by decide) w ) (fun _ _ _ h => h)) (by decide)) <|
      sq rfl (q_assign rfl) <|
      sq_end) ?_
  clear hF hS; intro a w hF hS
  refine hK6 _ _ ?_
  clear hK6
  refine wp_seq_k ?_; intro K7 hK7
  refine reg hF hS (sq rfl (q_bf (q_call fn24 rfl (fun w hS => equal_ct _ _ (by decide) (by decide) w ) (fun _ _ _ h => h)) (by decide)) <|
      sq rfl (q_move rfl) <|
      sq_go 19 rfl rfl rfl (q_bf (q_call fn24 rfl (fun w hS => equal_ct _ _ (by decide) (by decide) w ) (fun _ _ _ h => h)) (by decide)) <|
      sq rfl (q_pick_f rfl rfl) <|
      sq rfl (q_assign rfl) <|
      sq_end) ?_
  clear hF hS; intro a w hF hS
  refine hK7 _ _ ?_
  clear hK7
  refine wp_seq_k ?_; intro K8 hK8
  refine reg hF hS (sq rfl (q_ld_blkW ty24 3 rfl rfl (by first | omega | (simp; omega) | (simp [*]; done) | decide | (simp [*]; omega)) rfl) <|
      sq rfl (q_call fn20 rfl (fun w hS => rb32_ct _ (by first | with_reducible assumption | omega | (simp; omega)) w ) (fun _ _ _ h => h)) <|
      sq rfl (q_call fn25 rfl (fun w hS => hex_ct _ (by first | with_reducible assumption | omega) w ) (fun _ _ _ h => h)) <|
      sq rfl (q_eqs_t (q := [98, 97, 55, 56, 49, 54, 98, 102, 56, 102, 48, 49, 99, 102, 101, 97, 52, 49, 52, 49, 52, 48, 100, 101, 53, 100, 97, 101, 50, 50, 50, 51, 98, 48, 48, 51, 54, 49, 97, 51, 57, 54, 49, 55, 55, 97, 57, 99, 98, 52, 49, 48, 102, 102, 54, 49, 102, 50, 48, 48, 49, 53, 97, 100]) rfl rfl sn1) <|
      sq rfl (q_move rfl) <|
      sq_go 26 rfl rfl rfl (q_ld_blkW ty24 3 rfl rfl (by first | omega | (simp; omega) | (simp [*]; done) | decide | (simp [*]; omega)) rfl) <|
      sq_go 26 rfl rfl rfl (q_ld_blkW ty24 2 rfl rfl (by first | omega | (simp; omega) | (simp [*]; done) | decide | (simp [*]; omega)) rfl) <|
      sq_go 26 rfl rfl rfl (q_dt (q_eqAB ty24 ty5 (by kernel_rfl) rfl rfl (by first | omega | (simp; omega) | (simp [*]; done) | decide | (simp [*]; omega)) (by first | omega | (simp; omega) | (simp [*]; done) | decide | (simp [*]; omega))) (sn4)) <|
      sq rfl (q_pick_t rfl rfl) <|
      sq rfl (q_move rfl) <|
      sq_go 31 rfl rfl rfl (q_move rfl) <|
      sq_go 31 rfl rfl rfl (q_call fn25 rfl (fun w hS => hex_ct _ (by first | with_reducible assumption | omega) w ) (fun _ _ _ h => h)) <|
      sq_go 31 rfl rfl rfl (q_eqs_t (q := [53, 98, 100, 99, 99, 49, 52, 54, 98, 102, 54, 48, 55, 53, 52, 101, 54, 97, 48, 52, 50, 52, 50, 54, 48, 56, 57, 53, 55, 53, 99, 55, 53, 97, 48, 48, 51, 102, 48, 56, 57, 100, 50, 55, 51, 57, 56, 51, 57, 100, 101, 99, 53, 56, 98, 57, 54, 52, 101, 99, 51, 56, 52, 51]) rfl rfl sn2) <|
      sq rfl (q_pick_t rfl rfl) <|
      sq rfl (q_move rfl) <|
      sq_go 36 rfl rfl rfl (q_ld_blkW ty44 0 rfl rfl (by first | omega | (simp; omega) | (simp [*]; done) | decide | (simp [*]; omega)) rfl) <|
      sq_go 36 rfl rfl rfl (q_call fn26 rfl (fun w hS => rtext_ct _ (by first | with_reducible assumption | omega | (simp; omega)) w ) (fun _ _ _ h => h)) <|
      sq_go 36 rfl rfl rfl (q_call fn25 rfl (fun w hS => hex_ct _ (by first | with_reducible assumption | omega) w ) (fun _ _ _ h => h)) <|
      sq_go 36 rfl rfl rfl (q_eqs_t (q := [51, 54, 99, 100, 53, 48, 56, 53, 48, 51, 50, 57, 102, 56, 56, 52, 48, 54, 101, 51, 49, 98, 98, 56, 97, 55, 100, 56, 102, 98, 54, 50]) rfl rfl sn3) <|
      sq rfl (q_pick_t rfl rfl) <|
      sq rfl (q_move rfl) <|
      sq_go 42 rfl rfl rfl (q_move rfl) <|
      sq rfl (q_pick_t rfl rfl) <|
      sq rfl (q_move rfl) <|
      sq_go 45 rfl rfl rfl (q_move rfl) <|
      sq_go 45 rfl rfl rfl (q_not rfl) <|
      sq rfl (q_pick_t rfl rfl) <|
      sq rfl (q_assign rfl) <|
      sq_end) ?_
  clear hF hS; intro a w hF hS
  refine hK8 _ _ ?_
  clear hK8
  refine wp_ret ?_
  exact fn_ret (rs := [.tmp 0]) rfl hF hS (vs := [_]) ⟨rfl, trivial⟩ (List.nil_sublist _) (List.nil_sublist _) (rfl)
end Go.Proofs.YtkpfjkoeglpfoaaDoor
