/- A text of a proof over this seat: walks over the program's functions and the plain laws that they need. -/
import Derived.Test.YtdojfnigffeblaaDoorMh15
import Derived.Test.YtdojfnigffeblaaDoorShW
import Derived.Test.YtdojfnigffeblaaDoorFwB
set_option linter.all false
namespace Go.Proofs.YtdojfnigffeblaaDoor
open Go.Fw
theorem fn64 : FnOk Tryd.prog 64 := ⟨_, Tryd.func64, rfl, by kernel_rfl⟩
theorem fn65 : FnOk Tryd.prog 65 := ⟨_, Tryd.func65, rfl, by kernel_rfl⟩
theorem fn95 : FnOk Tryd.prog 95 := ⟨_, Tryd.func95, rfl, by kernel_rfl⟩

attribute [local irreducible] Sha.sum Wi.int Wi.bytes Sha.inp

set_option maxRecDepth 4000 in
set_option maxHeartbeats 2000000 in
theorem rinput_ct (tag : Int) (v : Value) (ps : List (List UInt8)) (hp : ∀ p ∈ ps, p.length < 1048576) (hl : ps.length < 1048576) (w : World) (hb : Sl encS (ph w) v ps) : Ct Tryd.prog 65 [vi tag, v] w (fun r zs hs => ∃ z, Sl encB z r (Sha.inp tag ps) ∧ zs = [z] ∧ hs = []) := by
 refine fn_enter Tryd.func65 rfl Tryd.ntmps65 (Nat.le_of_ble_eq_true rfl) fun a hF hS => ?_
 refine wp_seq_k ?_; intro K1 hK1
 refine reg hF hS (sq rfl (q_assign rfl) <|
   sq_end) ?_
 clear hF hS; intro a w hF hS
 refine hK1 _ _ ?_
 clear hK1
 refine wp_seq_k ?_; intro K2 hK2
 refine regl ?_
 refine wpl_sq hF hS (sq rfl (q_move rfl) <|
   sq rfl (q_cv_ib ty3 ty5 rfl) <|
   sq_end) ?_
 clear hF hS; intro a w hF hS
 refine wpl_ef hF hS rfl (ef_bsliceA ty39 ty5 rfl rfl oQ (by decide) rfl rfl) ?_
 clear hF hS; rintro v1 _ _ a w ⟨rfl, rfl⟩ hF hS
 replace hS : St _ [] [_] _ := hS
 refine wpl_sq hF hS (sq rfl (q_assign rfl) <|
   sq_end) ?_
 clear hF hS; intro a w hF hS
 refine wpList_nil ?_
 refine hK2 _ _ ?_
 clear hK2
 refine wp_seq_k ?_; intro K3 hK3
 refine wp_seq_k ?_; intro K4 hK4
 refine reg hF hS (sq rfl (q_assign rfl) <|
   sq_end) ?_
 clear hF hS; intro a w hF hS
 refine hK4 _ _ ?_
 clear hK4
 refine wp_block ?_
 obtain ⟨hs0, hhs0, hS⟩ : ∃ h, h = _ ∧ St _ _ h _ := ⟨_, rfl, hS⟩
 refine wp_loopx (γ := Value × Int) (v1, 0) (fun (gg : Value × Int) => match gg with | (u, i) => [(5, u), (6, vi i)]) [(1, _)] (fun (gg : Value × Int) => match gg with | (u, i) => (hs0.set 0 (.row u 5 1 (Sha.inp tag (ps.take i.toNat)).length ((Sha.inp tag (ps.take i.toNat)).map vb)))) (fun (gg : Value × Int) => match gg with | (u, i) => 0 ≤ i ∧ i ≤ ps.length) (fun (gg : Value × Int) => match gg with | (u, i) => (ps.length - i).toNat) (hF.sub ⟨rfl, rfl, rfl, trivial⟩) (by subst hhs0; have e : Sha.inp tag (ps.take (0 : Int).toNat) = [ofb tag] := (by unfold Sha.inp; rfl); dsimp only; rw [e]; exact hS) (by exact ⟨Int.le_refl _, by omega⟩) ?_
 clear hF hS; rintro ⟨u, i⟩ a w hfact hF hS
 subst hhs0; (try dsimp only at hfact); (try dsimp only at hF); (try dsimp only at hS)
 obtain ⟨hi0, hi1⟩ := hfact
 replace hS : St _ [] [_] _ := hS
 have hpt : ∀ p ∈ ps.take i.toNat, p.length < 1048576 := fun p h => hp p (List.mem_of_mem_take h)
 have htl := Sha.inp_len tag (ps.take i.toNat) hpt
 rw [List.length_take] at htl
 refine wp_seq_k ?_; intro K5 hK5
 refine wp_seq_k ?_; intro K6 hK6
 refine reg hF hS (sq rfl (q_move rfl) <|
   sq rfl (q_move rfl) <|
   sq rfl (q_len_sl ty47 hb rfl) <|
   sq rfl (q_lti rfl rfl) <|
   sq_end) ?_
 clear hF hS; intro a w hF hS
 refine hK6 _ _ ?_
 clear hK6
 refine wp_ifd hF rfl (fun hc1 => ?_) (fun hc1 => ?_)
 ·have hpi := hp _ (Sha.getD_mem ps i.toNat (by omega))
  have hbl := Wi.bytes_len (ps.getD i.toNat [])
  refine wp_skip ?_
  refine hK5 _ _ ?_
  clear hK5
  refine wp_seq_k ?_; intro K7 hK7
  refine wp_block ?_
  refine regl ?_
  refine wpl_sq hF hS (sq rfl (q_move rfl) <|
    sq rfl (q_move rfl) <|
    sq rfl (q_move rfl) <|
    sq rfl (q_idx_sl ty47 ty9 hb rfl rfl (by omega)) <|
    sq rfl (q_ld_S ty9 hb zin0 rfl rfl (by omega)) <|
    sq_end) ?_
  clear hF hS; intro a w hF hS
  refine wpl_ef hF hS rfl (ef_call fn95 rfl (fun w hS => rbytes_ct _ (by first | with_reducible assumption | omega) w )) ?_
  clear hF hS; rintro v3 _ _ a w ⟨_, _, rfl, rfl, rfl, rfl⟩ hF hS
  replace hS : St _ [] [_, _] _ := hS
  refine wpl_ef hF hS rfl (ef_append ty39 ty5 1 rfl rfl rfl (src_row ty39 (k := 0) rfl oQ) bQ rfl (by decide)) ?_
  clear hF hS; rintro v5 _ _ a w ⟨rfl, rfl⟩ hF hS
  replace hS : St _ [] [_, _] _ := hS
  refine wpl_sq hF hS (sq rfl (q_assign rfl) <|
    sq_end) ?_
  clear hF hS; intro a w hF hS
  refine wpList_nil ?_
  refine hK7 _ _ ?_
  clear hK7
  refine reg hF hS (sq rfl (q_move rfl) <|
    sq rfl (q_addi rfl rfl (by omega)) <|
    sq rfl (q_assign rfl) <|
    sq_end) ?_
  clear hF hS; intro a w hF hS
  replace hS := hS.keep zQ (sQ.n)
  refine ⟨(v5, i + 1), ?_, ?_, hF.sub ⟨rfl, rfl, rfl, trivial⟩, ?_⟩
  ·(try dsimp only); omega
  ·(try dsimp only); omega
  ·rw [← List.map_append, Sha.inp_step _ _ _ (by omega), ← List.length_append, Sha.inp_step _ _ _ (by omega), show i.toNat + 1 = (i + 1).toNat by omega] at hS
   exact hS
 ·obtain rfl : i = ps.length := by omega
  rw [Int.toNat_natCast, List.take_length] at hS
  refine wp_exit ?_
  refine hK3 _ _ ?_
  clear hK3
  refine wp_seq_k ?_; intro K8 hK8
  refine reg hF hS (sq rfl (q_move rfl) <|
    sq rfl (q_assign rfl) <|
    sq_end) ?_
  clear hF hS; intro a w hF hS
  refine hK8 _ _ ?_
  clear hK8
  refine wp_ret ?_
  have hil := Sha.inp_len tag ps hp
  obtain ⟨z, hz1, hS⟩ := St.freezeB hS rfl (by omega)
  exact fn_ret (rs := [.tmp 4]) rfl hF hS (vs := [_]) ⟨rfl, trivial⟩ (zs' := [z]) (hs' := []) sQ zQ ⟨z, hz1, rfl, rfl⟩

end Go.Proofs.YtdojfnigffeblaaDoor
