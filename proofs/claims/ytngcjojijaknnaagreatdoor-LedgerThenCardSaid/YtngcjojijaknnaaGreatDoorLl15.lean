/- A text of a proof over this seat: walks over the program's functions and the plain laws that they need. -/
import Derived.Test.YtngcjojijaknnaaGreatDoorLm2
import Derived.Test.YtngcjojijaknnaaGreatDoorLgA
import Derived.Test.YtngcjojijaknnaaGreatDoorFwB
set_option linter.all false
namespace Go.Proofs.YtngcjojijaknnaaGreatDoor
open Go.Fw
theorem fn40 : FnOk Tryz.prog 40 := ⟨_, Tryz.func40, rfl, by kernel_rfl⟩

attribute [local irreducible] Sha.sum Sha.mac Sha.ofD Lg.kn Lg.keys

set_option maxRecDepth 4000 in
set_option maxHeartbeats 2000000 in
theorem lroot_ct (b : Nat) (pj v : Value) (l : List Lg.Fct) (tick : Int) (hG : l.Pairwise (fun f g => f.tk ≤ g.tk)) (hl9 : l.length ≤ 512) (w : World) {bt : TypeId} {fz : Nat × Nat} (hl : w.heap[b]? = some (.cells [pj, v].toArray bt fz)) (hb : Sl Go.Fw.encY (ph w) v l) {fzg : Nat × Nat} {btg : TypeId} (hg0 : w.heap[1]? = some (.cells (Sha.kc.map vw).toArray btg fzg)) : Ct Tryz.prog 34 [.pointer (some ⟨b, 0, none⟩), vi tick] w (fun r _ _ => r = .agg (((Mk.rootE (Lg.lvs l tick)).1).map vb).toArray) := by
 refine fn_enter Tryz.func34 rfl Tryz.ntmps34 (Nat.le_of_ble_eq_true rfl) fun a hF hS => ?_
 have hbl := hb.1
 have hkl := Lg.keys_le l tick
 have hvl := Lg.lvs_len l tick
 have hkv9 := Lg.lv_ok (Y_all hb) tick
 have h16 := Lg.root_16 (Lg.lvs l tick)
 refine wp_seq_k ?_; intro K1 hK1
 refine regl ?_
 refine wpl_ef hF hS rfl (ef_allocA ty62) ?_
 clear hF hS; rintro _ _ _ a w ⟨b1, rfl, rfl, rfl⟩ hF hS
 rw [show List.replicate 16 (Value.int .u8 0) = (List.replicate 16 (0 : UInt8)).map vb from by rw [List.map_replicate] <;> rfl] at hS
 refine wpList_nil ?_
 refine hK1 _ _ ?_
 clear hK1
 refine wp_seq_k ?_; intro K2 hK2
 refine wp_seq_k ?_; intro K3 hK3
 refine reg hF hS (sq rfl (q_move rfl) <|
   sq rfl (q_eqpn_f ty45 rfl rfl) <|
   sq_end) ?_
 clear hF hS; intro a w hF hS
 refine hK3 _ _ ?_
 clear hK3
 refine wp_if hF rfl (fun h => absurd h (by simp)) (fun _ => ?_)
 refine wp_skip ?_
 refine hK2 _ _ ?_
 clear hK2
 refine wp_seq_k ?_; intro K4 hK4
 refine regl ?_
 refine wpl_sq hF hS (sq rfl (q_move rfl) <|
   sq rfl (q_move rfl) <|
   sq_end) ?_
 clear hF hS; intro a w hF hS
 refine wpl_ef hF hS rfl (ef_call fn69 rfl (fun w hS => known_ct _ _ _ _ _ hG (by omega) w (hS.ext _ _ hl) (Sl.mono (hS.le zin0) hb))) ?_
 clear hF hS; rintro _ _ _ a w ⟨_, _, rfl, rfl, ⟨bm3, es4, ec5, rfl, rfl, rfl, hM6⟩⟩ hF hS
 replace hS : St _ [] [_, _] _ := hS
 refine wpl_sq hF hS (sq rfl (q_assign rfl) <|
   sq_end) ?_
 clear hF hS; intro a w hF hS
 refine wpList_nil ?_
 refine hK4 _ _ ?_
 clear hK4
 refine wp_seq_k ?_; intro K5 hK5
 refine reg hF hS (sq rfl (q_assign rfl) <|
   sq_end) ?_
 clear hF hS; intro a w hF hS
 replace hS := hS.nilRow 142 2
 refine hK5 _ _ ?_
 clear hK5
 refine wp_seq_k ?_; intro K6 hK6
 refine wp_seq_k ?_; intro K7 hK7
 refine regl ?_
 refine wpl_sq hF hS (sq rfl (q_move rfl) <|
   sq_end) ?_
 clear hF hS; intro a w hF hS
 refine wpl_ef hF hS rfl (ef_call fn71 rfl (fun w hS => keysS_ct _ w )) ?_
 clear hF hS; rintro _ _ _ a w ⟨_, _, rfl, rfl, ⟨bx9, rfl, rfl, rfl⟩⟩ hF hS
 replace hS : St _ [] [_, _, _, _] _ := hS
 replace hS := hS.perm (.cons _ (.swap _ _ _))
 replace hS : St _ [] [_, _, _, _] _ := hS
 refine wpl_ef hF hS rfl (ef_callx fn70 rfl (List.Perm.refl _) (by exact (sortedS_ct (by assumption) (Lg.key_nd l tick) (Lg.key_len (Y_all hb) tick) (Lg.key_few (by omega) tick) _ _  (b := bm3)))) ?_
 clear hF hS; rintro v10 _ _ a w ⟨_, _, rfl, rfl, ⟨rfl, rfl⟩⟩ hF hS
 replace hS : St _ [] [_, _, _, _, _] _ := hS
 refine wpl_sq hF hS (sq rfl (q_len_row ty40 0 rfl rfl) <|
   sq rfl (q_move rfl) <|
   sq_end) ?_
 clear hF hS; intro a w hF hS
 refine wpList_nil ?_
 rw [Lg.keys_untl hG] at hS hF
 refine hK7 _ _ ?_
 clear hK7
 refine wp_block ?_
 obtain ⟨hs0, hhs0, hS⟩ : ∃ h, h = _ ∧ St _ _ h _ := ⟨_, rfl, hS⟩
 refine wp_loopx (γ := Value × Nat) ((Value.slice none 0 0), 0) (fun (gg : Value × Nat) => match gg with | (u, j) => [(6, u), (21, vi (j : Int))]) [(4, _), (5, _), (19, _), (20, _)] (fun (gg : Value × Nat) => match gg with | (u, j) => (hs0.set 3 (.row u 142 2 j (((Lg.lvs l tick).take j).flatMap kvC)))) (fun (gg : Value × Nat) => match gg with | (u, j) => j ≤ (Lg.keys l tick).length) (fun (gg : Value × Nat) => match gg with | (u, j) => (Lg.keys l tick).length - j) (hF.sub ⟨rfl, rfl, rfl, rfl, rfl, rfl, trivial⟩) (by subst hhs0; exact hS) (by exact Nat.zero_le _) ?_
 clear hF hS; rintro ⟨u, j⟩ a w hfact hF hS
 subst hhs0; (try dsimp only at hfact); (try dsimp only at hF); (try dsimp only at hS)
 have hj0 := hfact
 replace hS : St _ [] [_, _, _, _, _] _ := hS
 refine wp_seq_k ?_; intro K8 hK8
 refine reg hF hS (sq rfl (q_lti rfl rfl) <|
   sq_end) ?_
 clear hF hS; intro a w hF hS
 refine hK8 _ _ ?_
 clear hK8
 refine wp_seq_k ?_; intro K9 hK9
 refine wp_ifd hF rfl (fun hc2 => ?_) (fun hc2 => ?_)
 ·refine wp_skip ?_
  refine hK9 _ _ ?_
  clear hK9
  refine wp_seq_k ?_; intro K10 hK10
  refine wp_block ?_
  refine wp_seq_k ?_; intro K11 hK11
  refine reg hF hS (sq rfl (q_idx_row ty40 ty9 0 rfl rfl rfl (by omega)) <|
    sq rfl (q_ld_rowM (f := vs) (xs := (Lg.keys l tick)) ty9 0 [] rfl rfl (by omega) rfl) <|
    sq rfl (q_assign rfl) <|
    sq_end) ?_
  clear hF hS; intro a w hF hS
  refine hK11 _ _ ?_
  clear hK11
  refine regl ?_
  refine wpl_sq hF hS (sq rfl (q_move rfl) <|
    sq rfl (q_move rfl) <|
    sq rfl (q_move rfl) <|
    sq rfl (q_move rfl) <|
    sq rfl (q_lookup1 ty135 ty9 (key_S ty9) 2 rfl rfl rfl hM6.1 (fun _ _ => trivial) trivial (Lg.lv_look hG (Lg.key_at (by omega)))) <|
    sq rfl (q_buildS1 ty142 2 kQ rfl rfl (oc_cons rfl (oc_cons rfl oc_nil)) rfl rfl) <|
    sq_end) ?_
  clear hF hS; intro a w hF hS
  refine wpl_ef hF hS rfl (ef_bsliceW ty72 ty142 rfl bQ (by decide) oQ (by decide) (by decide)) ?_
  clear hF hS; rintro v12 _ _ a w ⟨rfl, rfl⟩ hF hS
  replace hS : St _ [] [_, _, _, _, _, _] _ := hS
  refine wpl_ef hF hS rfl (ef_append ty72 ty142 4 rfl rfl rfl (src_row ty72 (k := 0) rfl oQ) bQ rfl (by decide)) ?_
  clear hF hS; rintro v14 _ _ a w ⟨rfl, rfl⟩ hF hS
  replace hS : St _ [] [_, _, _, _, _, _] _ := hS
  refine wpl_sq hF hS (sq rfl (q_assign rfl) <|
    sq_end) ?_
  clear hF hS; intro a w hF hS
  refine wpList_nil ?_
  refine hK10 _ _ ?_
  clear hK10
  refine reg hF hS (sq rfl (q_addi rfl rfl (by omega)) <|
    sq rfl (q_move rfl) <|
    sq_end) ?_
  clear hF hS; intro a w hF hS
  replace hS := hS.keep zQ (sQ.n)
  refine ⟨(v14, j + 1), ?_, ?_, hF.sub ⟨rfl, rfl, rfl, rfl, rfl, rfl, trivial⟩, ?_⟩
  ·(try dsimp only); omega
  ·omega
  ·rw [Lg.lv_snoc (by omega)] at hS
   exact hS
 ·obtain rfl : j = (Lg.keys l tick).length := by omega
  rw [← Lg.lvs_len, List.take_length] at hS
  refine wp_exit ?_
  refine hK6 _ _ ?_
  clear hK6
  refine wp_seq_k ?_; intro K12 hK12
  refine regl ?_
  refine wpl_sq hF hS (sq rfl (q_move rfl) <|
    sq rfl (q_call fn40 rfl (fun w hS => mroot_ct _ _ w (own_slK (hl := kvC_len) (h1 := kvC_one) (hS.own _ (List.mem_of_getElem? (i := 3) rfl)).1 rfl (by omega) hkv9) (hS.ext _ _ hg0)) (fun _ _ _ h => h)) <|
    sq rfl (q_move rfl) <|
    sq rfl (q_extract rfl rfl) <|
    sq rfl (q_extract rfl rfl) <|
    sq_end) ?_
  clear hF hS; intro a w hF hS
  refine wpl_ef hF hS rfl (ef_allocA ty62) ?_
  clear hF hS; rintro _ _ _ a w ⟨b15, rfl, rfl, rfl⟩ hF hS
  rw [show List.replicate 16 (Value.int .u8 0) = (List.replicate 16 (0 : UInt8)).map vb from by rw [List.map_replicate] <;> rfl] at hS
  refine wpl_ef hF hS rfl (ef_storeW ty62 0 rfl rfl rfl rfl bQ oQ bQ) ?_
  clear hF hS; rintro _ _ _ a w ⟨rfl, rfl, rfl⟩ hF hS
  replace hS : St _ [] [_, _, _, _, _, _] _ := hS
  refine wpl_sq hF hS (sq rfl (q_assign rfl) <|
    sq_end) ?_
  clear hF hS; intro a w hF hS
  refine wpList_nil ?_
  refine hK12 _ _ ?_
  clear hK12
  refine wp_seq_k ?_; intro K13 hK13
  refine regl ?_
  refine wpl_sq hF hS (sq rfl (q_ld_blkW ty62 0 rfl rfl bQ rfl) <|
    sq_end) ?_
  clear hF hS; intro a w hF hS
  refine wpl_ef hF hS rfl (ef_storeW ty62 5 rfl rfl rfl rfl bQ oQ bQ) ?_
  clear hF hS; rintro _ _ _ a w ⟨rfl, rfl, rfl⟩ hF hS
  replace hS : St _ [] [_, _, _, _, _, _] _ := hS
  refine wpList_nil ?_
  refine hK13 _ _ ?_
  clear hK13
  refine wp_ret ?_
  exact fn_ret (rs := [.cell 4 62]) rfl hF hS (vs := [_]) ⟨⟨_, _, _, _, _, _, _, rfl, List.mem_of_getElem? (i := 5) rfl, ty62, .inl ⟨rfl, bQ, rfl⟩⟩, trivial⟩ zQ zQ (rfl)
end Go.Proofs.YtngcjojijaknnaaGreatDoor
