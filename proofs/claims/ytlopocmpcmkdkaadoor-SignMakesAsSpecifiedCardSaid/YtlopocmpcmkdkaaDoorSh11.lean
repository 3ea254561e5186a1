/- A text of a proof over this seat: walks over the program's functions and the plain laws that they need. -/
import Derived.Test.YtlopocmpcmkdkaaDoorSh10
import Derived.Test.YtlopocmpcmkdkaaDoorShW
import Derived.Test.YtlopocmpcmkdkaaDoorFwB
set_option linter.all false
namespace Go.Proofs.YtlopocmpcmkdkaaDoor
open Go.Fw
theorem fn65 : FnOk Tryd.prog 65 := ⟨_, Tryd.func65, rfl, by kernel_rfl⟩
theorem fn66 : FnOk Tryd.prog 66 := ⟨_, Tryd.func66, rfl, by kernel_rfl⟩

attribute [local irreducible] Sha.sum Sha.keyOf Sha.padK Sha.mac

set_option maxRecDepth 4000 in
set_option maxHeartbeats 2000000 in
theorem rpadk_ct (key : List UInt8) (c : UInt8) (hk : key.length < 1099511627776) (w : World) {fz0 : Nat × Nat} {bt0 : TypeId} (hg0 : w.heap[0]? = some (.cells (Sha.kc.map vw).toArray bt0 fz0)) : Ct Tryd.prog 64 [vs key, vb c] w (fun v zs hs => zs = [] ∧ hs = [.row v 5 1 64 ((Sha.padK (Sha.keyOf key) c).map vb)]) := by
 refine fn_enter Tryd.func64 rfl Tryd.ntmps64 (Nat.le_of_ble_eq_true rfl) fun a hF hS => ?_
 refine wp_seq_k ?_; intro K1 hK1
 refine reg hF hS (sq rfl (q_assign rfl) <|
   sq_end) ?_
 clear hF hS; intro a w hF hS
 refine hK1 _ _ ?_
 clear hK1
 refine wp_seq_k ?_; intro K2 hK2
 refine reg hF hS (sq rfl (q_move rfl) <|
   sq rfl (q_assign rfl) <|
   sq_end) ?_
 clear hF hS; intro a w hF hS
 refine hK2 _ _ ?_
 clear hK2
 obtain ⟨hs0, hhs0, hS⟩ : ∃ h, h = _ ∧ St _ _ h _ := ⟨_, rfl, hS⟩
 refine wp_cutx (γ := List UInt8) (fun (k : List UInt8) => [(5, vs k)]) [(1, _)] (fun (k : List UInt8) => hs0) (fun (k : List UInt8) => k = Sha.keyOf key) (hF.sub ⟨rfl, trivial⟩) hS ?_ ?_
 ·subst hhs0
  refine wp_seq_k ?_; intro K3 hK3
  refine reg hF hS (sq rfl (q_move rfl) <|
    sq rfl (q_len_s ty9 rfl) <|
    sq rfl (q_gti rfl rfl) <|
    sq_end) ?_
  clear hF hS; intro a w hF hS
  refine hK3 _ _ ?_
  clear hK3
  refine wp_ifd hF rfl (fun hc1 => ?_) (fun hc1 => ?_)
  ·have hsl := Sha.sum_len key
   refine regl ?_
   refine wpl_sq hF hS (sq rfl (q_move rfl) <|
     sq_end) ?_
   clear hF hS; intro a w hF hS
   refine wpl_ef hF hS rfl (ef_s2b ty9 ty52 ty5 rfl (by omega)) ?_
   clear hF hS; rintro v1 _ _ a w ⟨z2, rfl, rfl, hz3⟩ hF hS
   refine wpl_sq hF hS (sq rfl (q_call fn66 rfl (fun w hS => rsum_ct _ _ (by first | assumption | omega) w (Sl.mono (hS.le (.inr (by simp))) hz3) (hS.ext _ _ hg0)) (fun _ _ _ h => h)) <|
     sq rfl (q_call fn65 rfl (fun w hS => rb32_ct _ (by first | with_reducible assumption | omega | (simp; omega)) w ) (fun _ _ _ h => h)) <|
     sq rfl (q_assign rfl) <|
     sq_end) ?_
   clear hF hS; intro a w hF hS
   refine wpList_nil ?_
   replace hS := hS.keep zQ zQ
   refine ⟨(Sha.sum key), ?_, hF.sub ⟨rfl, rfl, trivial⟩, ?_⟩
   ·unfold Sha.keyOf; rw [if_pos (by omega)]
   ·exact hS
  ·refine wp_skip ?_
   refine ⟨(key), ?_, hF.sub ⟨rfl, rfl, trivial⟩, ?_⟩
   ·unfold Sha.keyOf; rw [if_neg (by omega)]
   ·exact hS
 clear hF hS; rintro k a w hfact hF hS
 subst hhs0; (try dsimp only at hfact); (try dsimp only at hF); (try dsimp only at hS)
 have hkk := hfact
 replace hS : St _ [] [] _ := hS
 have hkl := Sha.keyOf_len key
 rw [← hkk] at hkl
 refine wp_seq_k ?_; intro K4 hK4
 refine reg hF hS (sq rfl (q_assign rfl) <|
   sq_end) ?_
 clear hF hS; intro a w hF hS
 replace hS := hS.nilRow 5 1
 refine hK4 _ _ ?_
 clear hK4
 refine wp_seq_k ?_; intro K5 hK5
 refine wp_seq_k ?_; intro K6 hK6
 refine reg hF hS (sq rfl (q_assign rfl) <|
   sq_end) ?_
 clear hF hS; intro a w hF hS
 refine hK6 _ _ ?_
 clear hK6
 refine wp_block ?_
 obtain ⟨hs0, hhs0, hS⟩ : ∃ h, h = _ ∧ St _ _ h _ := ⟨_, rfl, hS⟩
 refine wp_loopx (γ := Value × Int) ((Value.slice none 0 0), 0) (fun (gg : Value × Int) => match gg with | (v, i) => [(6, v), (7, vi i)]) [(1, _), (5, _)] (fun (gg : Value × Int) => match gg with | (v, i) => (hs0.set 0 (.row v 5 1 i.toNat (((Sha.padK k c).take i.toNat).map vb)))) (fun (gg : Value × Int) => match gg with | (v, i) => 0 ≤ i ∧ i ≤ 64) (fun (gg : Value × Int) => match gg with | (v, i) => (64 - i).toNat) (hF.sub ⟨rfl, rfl, rfl, rfl, trivial⟩) (by subst hhs0; exact hS) (by simp) ?_
 clear hF hS; rintro ⟨v, i⟩ a w hfact hF hS
 subst hhs0; (try dsimp only at hfact); (try dsimp only at hF); (try dsimp only at hS)
 obtain ⟨hi0, hi1⟩ := hfact
 replace hS : St _ [] [_] _ := hS
 refine wp_seq_k ?_; intro K7 hK7
 refine wp_seq_k ?_; intro K8 hK8
 refine reg hF hS (sq rfl (q_move rfl) <|
   sq rfl (q_lti rfl rfl) <|
   sq_end) ?_
 clear hF hS; intro a w hF hS
 refine hK8 _ _ ?_
 clear hK8
 refine wp_ifd hF rfl (fun hc2 => ?_) (fun hc2 => ?_)
 ·refine wp_skip ?_
  refine hK7 _ _ ?_
  clear hK7
  refine wp_seq_k ?_; intro K9 hK9
  refine wp_block ?_
  refine wp_seq_k ?_; intro K10 hK10
  refine reg hF hS (sq rfl (q_assign rfl) <|
    sq_end) ?_
  clear hF hS; intro a w hF hS
  refine hK10 _ _ ?_
  clear hK10
  obtain ⟨hs0, hhs0, hS⟩ : ∃ h, h = _ ∧ St _ _ h _ := ⟨_, rfl, hS⟩
  refine wp_cutx (γ := UInt8) (fun (b : UInt8) => [(8, vb b)]) [(1, _), (5, _), (6, _), (7, _)] (fun (b : UInt8) => hs0) (fun (b : UInt8) => b = if i.toNat < k.length then k.getD i.toNat 0 else 0) (hF.sub ⟨rfl, rfl, rfl, rfl, trivial⟩) hS ?_ ?_
  ·subst hhs0
   refine wp_seq_k ?_; intro K11 hK11
   refine reg hF hS (sq rfl (q_move rfl) <|
     sq rfl (q_move rfl) <|
     sq rfl (q_len_s ty9 rfl) <|
     sq rfl (q_lti rfl rfl) <|
     sq_end) ?_
   clear hF hS; intro a w hF hS
   refine hK11 _ _ ?_
   clear hK11
   refine wp_ifd hF rfl (fun hc3 => ?_) (fun hc3 => ?_)
   ·refine reg hF hS (sq rfl (q_move rfl) <|
      sq rfl (q_move rfl) <|
      sq rfl (q_idx_s ty9 rfl rfl (by omega)) <|
      sq rfl (q_assign rfl) <|
      sq_end) ?_
    clear hF hS; intro a w hF hS
    refine ⟨(k.getD i.toNat 0), ?_, hF.sub ⟨rfl, rfl, rfl, rfl, rfl, trivial⟩, ?_⟩
    ·rw [if_pos (by omega)]
    ·exact hS
   ·refine wp_skip ?_
    refine ⟨(0), ?_, hF.sub ⟨rfl, rfl, rfl, rfl, rfl, trivial⟩, ?_⟩
    ·rw [if_neg (by omega)]
    ·exact hS
  clear hF hS; rintro b a w hfact hF hS
  subst hhs0; (try dsimp only at hfact); (try dsimp only at hF); (try dsimp only at hS)
  have hbb := hfact
  replace hS : St _ [] [_] _ := hS
  refine regl ?_
  refine wpl_sq hF hS (sq rfl (q_move rfl) <|
    sq rfl (q_move rfl) <|
    sq rfl (q_move rfl) <|
    sq rfl (q_xorb rfl rfl) <|
    sq_end) ?_
  clear hF hS; intro a w hF hS
  refine wpl_ef hF hS rfl (ef_bsliceA ty52 ty5 rfl rfl oQ (by decide) rfl rfl) ?_
  clear hF hS; rintro v5 _ _ a w ⟨rfl, rfl⟩ hF hS
  replace hS : St _ [] [_, _] _ := hS
  refine wpl_ef hF hS rfl (ef_append ty52 ty5 1 rfl rfl rfl (src_row ty52 (k := 0) rfl oQ) bQ rfl (by decide)) ?_
  clear hF hS; rintro v7 _ _ a w ⟨rfl, rfl⟩ hF hS
  replace hS : St _ [] [_, _] _ := hS
  refine wpl_sq hF hS (sq rfl (q_assign rfl) <|
    sq_end) ?_
  clear hF hS; intro a w hF hS
  refine wpList_nil ?_
  refine hK9 _ _ ?_
  clear hK9
  refine reg hF hS (sq rfl (q_move rfl) <|
    sq rfl (q_addi rfl rfl (by omega)) <|
    sq rfl (q_assign rfl) <|
    sq_end) ?_
  clear hF hS; intro a w hF hS
  replace hS := hS.keep zQ (sQ.n)
  refine ⟨(v7, i + 1), ?_, ?_, hF.sub ⟨rfl, rfl, rfl, rfl, trivial⟩, ?_⟩
  ·(try dsimp only); omega
  ·(try dsimp only); omega
  ·have e : ((Sha.padK k c).take i.toNat).map vb ++ [vb (b ^^^ c)] = ((Sha.padK k c).take (i + 1).toNat).map vb := by rw [show (i + 1).toNat = i.toNat + 1 by omega, Sha.padK_step k c hkl i.toNat (by omega) b hbb, List.map_append]; rfl
   rw [e, show i.toNat + 1 = (i + 1).toNat by omega] at hS
   exact hS
 ·obtain rfl : i = 64 := by omega
  rw [show (64 : Int).toNat = 64 from rfl, List.take_of_length_le (by rw [Sha.padK_len]; omega)] at hS
  refine wp_exit ?_
  refine hK5 _ _ ?_
  clear hK5
  refine wp_seq_k ?_; intro K12 hK12
  refine reg hF hS (sq rfl (q_move rfl) <|
    sq rfl (q_assign rfl) <|
    sq_end) ?_
  clear hF hS; intro a w hF hS
  refine hK12 _ _ ?_
  clear hK12
  refine wp_ret ?_
  subst hkk
  exact fn_ret (rs := [.tmp 4]) rfl hF hS (vs := [_]) ⟨rfl, trivial⟩ zQ sQ ⟨rfl, rfl⟩
end Go.Proofs.YtlopocmpcmkdkaaDoor
