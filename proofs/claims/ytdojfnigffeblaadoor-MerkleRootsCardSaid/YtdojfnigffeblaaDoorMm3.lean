/- A text of a proof over this seat: walks over the program's functions and the plain laws that they need. -/
import Derived.Test.YtdojfnigffeblaaDoorMm2
import Derived.Test.YtdojfnigffeblaaDoorMkA
import Derived.Test.YtdojfnigffeblaaDoorFwB
set_option linter.all false
namespace Go.Proofs.YtdojfnigffeblaaDoor
open Go.Fw
theorem ty4 : Tf Tryd.prog 4 .bool 1 1 (Value.bool false) := ⟨Tryd.underlying4, by kernel_rfl⟩
theorem ty102 : Tf Tryd.prog 102 (.struct #[⟨ "Texts", 47, 0, false, "", "", 0⟩, ⟨ "Sides", 48, 1, false, "", "", 24⟩, ⟨ "Used", 3, 2, false, "", "", 48⟩, ⟨ "Short", 4, 3, false, "", "", 56⟩]) 4 64 (.agg ([Value.slice none 0 0, Value.slice none 0 0] ++ [Value.int .i64 0] ++ [Value.bool false]).toArray) := ⟨Tryd.underlying102, by kernel_rfl⟩
theorem fn84 : FnOk Tryd.prog 84 := ⟨_, Tryd.func84, rfl, by kernel_rfl⟩
theorem fn85 : FnOk Tryd.prog 85 := ⟨_, Tryd.func85, rfl, by kernel_rfl⟩
theorem fn86 : FnOk Tryd.prog 86 := ⟨_, Tryd.func86, rfl, by kernel_rfl⟩
theorem fn106 : FnOk Tryd.prog 106 := ⟨_, Tryd.func106, rfl, by kernel_rfl⟩

attribute [local irreducible] Sha.sum Sha.mac Sha.ofD Wi.int Wi.ints Wi.bytes Sha.inp Mk.half Lib.compareBytes

/-- What is made of a tree that is lent. -/
def TrR (e : Nat) (sv : Value) (σ : Mk.Dg × Mk.Tx × Nat × Bool) : Value → List PH → List Res → Prop := fun r zs hs => ∃ tv, r = .agg (σ.1.map vb).toArray ∧ zs = [] ∧ hs = [.blk e 102 [tv, sv, vi ((σ.2.2.1 : Nat) : Int), vt (σ.2.2.2)], .row tv 9 1 (σ.2.1).length ((σ.2.1).map vs)]
theorem tr_of {e : Nat} {sv : Value} {σ σ' : Mk.Dg × Mk.Tx × Nat × Bool} {r : Value} {zs : List PH} {hs : List Res} (h : TrR e sv σ r zs hs) (e1 : σ' = σ) : TrR e sv σ' r zs hs := e1 ▸ h
theorem zin_c {w0 : World} {zs : List PH} {z z' : PH} (h : ZIn w0 zs z) : ZIn w0 (z' :: zs) z := h.elim .inl fun h => .inr (List.mem_cons_of_mem _ h)

set_option maxRecDepth 4000 in
set_option maxHeartbeats 2000000 in
theorem tof_ct (e : Nat) (sv tv : Value) (T : Mk.Tx) (u : Nat) (s : Bool) (tag : Int) (v : Value) (ps : Mk.Tx) (hp : ∀ p ∈ ps, p.length < 1048576) (hl : ps.length < 1000) (hT : T.length < 4294967296) (fz0 : Nat × Nat) (bt0 : TypeId) (w0 : World) (zsr : List PH) (z : PH) (hv : Sl encS z v ps) (hz : ZIn w0 zsr z) (hg0 : w0.heap[0]? = some (.cells (Sha.kc.map vw).toArray bt0 fz0)) : Cx Tryd.prog 86 [.pointer (some ⟨e, 0, none⟩), vi tag, v] w0 zsr [.blk e 102 [tv, sv, vi ((u : Nat) : Int), vt (s)], .row tv 9 1 (T).length ((T).map vs)] (TrR e sv (Sha.ofD tag ps, T ++ [Sha.inp tag ps], u, s)) := by
 refine fn_enterx Tryd.func86 rfl Tryd.ntmps86 (Nat.le_of_ble_eq_true rfl) fun hsr a w hF hS => ?_
 replace hS : St _ (_) (_ :: _ :: _) _ := hS
 have hil := Sha.inp_len tag ps hp
 have hsl := Sha.sum_len (Sha.inp tag ps)
 have hofl := Sha.ofD_len tag ps
 refine wp_seq_k ?_; intro K1 hK1
 refine regl ?_
 refine wpl_ef hF hS rfl (ef_allocA ty29) ?_
 clear hF hS; rintro _ _ _ a w ⟨b1, rfl, rfl, rfl⟩ hF hS
 rw [show List.replicate 16 (Value.int .u8 0) = (List.replicate 16 (0 : UInt8)).map vb from by rw [List.map_replicate] <;> rfl] at hS
 refine wpList_nil ?_
 refine hK1 _ _ ?_
 clear hK1
 refine wp_seq_k ?_; intro K2 hK2
 refine regl ?_
 refine wpl_sq hF hS (sq rfl (q_move rfl) <|
   sq rfl (q_move rfl) <|
   sq_end) ?_
 clear hF hS; intro a w hF hS
 refine wpl_ef hF hS rfl (ef_call fn65 rfl (fun w hS => rinput_ct _ _ _ (by first | with_reducible assumption | omega) (by first | with_reducible assumption | omega) w (Sl.mono (hS.le (by first | exact hz | exact zin_c hz | exact zin_c (zin_c hz) | exact zin_c (zin_c (zin_c hz)))) hv))) ?_
 clear hF hS; rintro v2 _ _ a w ⟨_, _, rfl, rfl, ⟨z3, hz4, rfl, rfl⟩⟩ hF hS
 replace hS : St _ (_ :: _) (_ :: _ :: _ :: _) _ := hS
 refine wpl_sq hF hS (sq rfl (q_assign rfl) <|
   sq_end) ?_
 clear hF hS; intro a w hF hS
 refine wpList_nil ?_
 refine hK2 _ _ ?_
 clear hK2
 refine wp_seq_k ?_; intro K3 hK3
 revert hS; revert hF; apply regJ (J := J2 (α0 := Value) (α1 := Value) 24 _ _ _ _ _) #[false, false, false, false, false, false, false, false, false, false, false, false] 12 mixed rfl rfl
 ·intro w hF hS
  refine goW_take 0 _ rfl kQ rfl hF (hS.keep sQ (sQ.n.n.n)) (q_move rfl) ?_
  clear hF; intro a hF
  refine goW_take 1 _ rfl kQ rfl hF (hS.keep sQ (sQ.n.n.n)) (q_move rfl) ?_
  clear hF; intro a hF
  refine goW_take 2 _ rfl kQ rfl hF (hS.keep sQ (sQ.n.n.n)) (q_nilCheck rfl) ?_
  clear hF; intro a hF
  refine goW_take 3 _ rfl kQ rfl hF (hS.keep sQ (sQ.n.n.n)) (q_fieldAddr ty102 rfl rfl (s' := 0) kQ) ?_
  clear hF; intro a hF
  refine goW_take 4 _ rfl kQ rfl hF (hS.keep sQ (sQ.n.k.n)) (q_ld_blk1 ty47 0 rfl rfl rfl rfl) ?_
  clear hF; intro a hF
  refine goW_take 5 _ rfl kQ rfl hF (hS.keep sQ (sQ.n.n.n)) (q_move rfl) ?_
  clear hF; intro a hF
  refine goW_take 6 _ rfl kQ rfl hF (hS.keep sQ (sQ.n.n.n)) (q_b2s_sl ty39 ty9 ty5 hz4 (.inr (by simp)) rfl) ?_
  clear hF; intro a hF
  refine gQ 7 rfl rfl hF hS rfl (ef_bsliceA ty47 ty9 rfl rfl oQ (by decide) rfl rfl) ?_
  clear hF hS; rintro v_2_7 _ _ a w ⟨rfl, rfl⟩ hF hS
  replace hS : St _ (_ :: _) (_ :: _ :: _ :: _ :: _) _ := hS
  refine ⟨⟨iQ, iQ, .inr (hS.keep sQ (sQ.n.k.n.n)), .inr (hS.keep sQ (sQ.n.n.n.n)), .inr (hS.keep sQ (sQ.n.n.n.n)), .inr (hS.keep sQ (sQ.n.n.n.n)), .inr (hS.keep sQ (sQ.n.n.n.n)), trivial⟩, ?_⟩
  refine gQ 8 rfl rfl hF hS rfl (ef_append ty47 ty9 3 rfl rfl rfl (src_row ty47 (k := 0) rfl oQ) bQ rfl (by decide)) ?_
  clear hF hS; rintro v_2_8 _ _ a w ⟨rfl, rfl⟩ hF hS
  replace hS : St _ (_ :: _) (_ :: _ :: _ :: _ :: _) _ := hS
  refine ⟨⟨iQ, iQ, iQ, iQ, .inr (hS.keep sQ (sQ.n.n.n.n)), .inr (hS.keep sQ (sQ.n.n.n.n)), .inr (hS.keep sQ (sQ.n.n.n.n)), trivial⟩, ?_⟩
  refine goW_take 9 _ rfl kQ rfl hF (hS.keep sQ (sQ.n.n.n.n)) (q_nilCheck rfl) ?_
  clear hF; intro a hF
  refine goW_take 10 _ rfl kQ rfl hF (hS.keep sQ (sQ.n.n.n.n)) (q_fieldAddr ty102 rfl rfl (s' := 0) kQ) ?_
  clear hF; intro a hF
  refine gQ 11 rfl rfl hF hS rfl (ef_store1 ty47 2 rfl rfl rfl (row_one (hS.own _ (List.mem_of_getElem? (i := 3) rfl)).1) (by simp)) ?_
  clear hF hS; rintro _ _ _ a w ⟨rfl, rfl, rfl⟩ hF hS
  replace hS : St _ (_ :: _) (_ :: _ :: .blk _ _ ([_, _, _, _].set 0 _) :: _ :: _) _ := hS
  simp only [List.set_cons_zero, List.set_cons_succ] at hS
  replace hS : St _ (_ :: _) (_ :: _ :: _ :: _ :: _) _ := hS
  refine ⟨⟨iQ, iQ, iQ, iQ, iQ, iQ, iQ, iQ, iQ, trivial⟩, ?_⟩
  exact goW_done kQ (j2_mk v_2_7 v_2_8 (trivial) (hF.sub (L' := [(6, _), (7, _)]) ⟨rfl, rfl, trivial⟩) hS)
 rintro a w ⟨v_2_7, v_2_8, -, hF, hS⟩
 (try dsimp only at hF); (try dsimp only at hS)
 refine hK3 _ _ ?_
 clear hK3
 refine wp_seq_k ?_; intro K4 hK4
 refine regl ?_
 refine wpl_sq hF hS (sq rfl (q_move rfl) <|
   sq rfl (q_call fn64 rfl (fun w hS => rshort_ct _ _ (by first | with_reducible assumption | omega) w (Sl.mono (hS.le (.inr (by simp))) hz4) (hS.ext _ _ hg0)) (fun _ _ _ h => h)) <|
   sq_end) ?_
 clear hF hS; intro a w hF hS
 refine wpl_ef hF hS rfl (ef_storeW ty29 1 rfl rfl rfl rfl bQ oQ bQ) ?_
 clear hF hS; rintro _ _ _ a w ⟨rfl, rfl, rfl⟩ hF hS
 replace hS : St _ (_ :: _) (_ :: _ :: _ :: _ :: _) _ := hS
 refine wpList_nil ?_
 refine hK4 _ _ ?_
 clear hK4
 refine wp_ret ?_
 replace hS := hS.perm (.cons _ (.swap _ _ _))
 replace hS := hS.perm (.swap _ _ _)
 replace hS := hS.perm (.cons _ (.cons _ (.swap _ _ _)))
 replace hS := hS.perm (.cons _ (.swap _ _ _))
 exact fn_retx (rs := [.cell 6 29]) rfl hF hS (vs := [_]) ⟨⟨_, _, _, _, _, _, _, rfl, List.mem_of_getElem? (i := 3) rfl, ty29, .inl ⟨rfl, bQ, rfl⟩⟩, trivial⟩ [] [_, _] (sQ.n) (sQ.n.n.k.k) (tr_of ⟨v_2_8, by rw [← Sha.ofD_ref], rfl, by rw [List.length_append, List.map_append]; rfl⟩ rfl)

set_option maxRecDepth 4000 in
set_option maxHeartbeats 2000000 in
theorem row_step (e : Nat) (sv v : Value) (ls : List Mk.Lf) (first : Nat) (sd : List Mk.Dg) (hl : ls.length < 1048576) (hx : ∀ x ∈ ls, x.1.length < 1048576 ∧ x.2.length < 1048576) (h16 : ∀ d ∈ sd, d.length = 16) (hf9 : first ≤ 1048576) (fz0 : Nat × Nat) (bt0 : TypeId) (w0 : World) (zsr : List PH) (hb : Sl encF (ph w0) v ls) (hsd : Sl (encA 16) (ph w0) sv sd) (hg0 : w0.heap[0]? = some (.cells (Sha.kc.map vw).toArray bt0 fz0)) (f : Nat) (ih : ∀ (lo hi : Int) (p0 n : Nat) (tv : Value) (T : Mk.Tx) (u : Nat) (s : Bool) (hp : lo = p0) (hh : hi = p0 + n) (hn1 : 1 ≤ n) (hnf : n ≤ f) (hp9 : p0 + n ≤ 1048576) (hT9 : T.length + 2 * n ≤ 100000000) (hu9 : u + n ≤ 100000000), Cx Tryd.prog 85 [.pointer (some ⟨e, 0, none⟩), v, vi (first : Int), vi lo, vi hi] w0 zsr [.blk e 102 [tv, sv, vi ((u : Nat) : Int), vt (s)], .row tv 9 1 (T).length ((T).map vs)] (TrR e sv (Mk.rr first ls sd f n p0 T u s))) (lo hi : Int) (p0 n : Nat) (tv : Value) (T : Mk.Tx) (u : Nat) (s : Bool) (hp : lo = p0) (hh : hi = p0 + n) (hn1 : 1 ≤ n) (hnf : n ≤ f + 1) (hp9 : p0 + n ≤ 1048576) (hT9 : T.length + 2 * n ≤ 100000000) (hu9 : u + n ≤ 100000000) : Cx Tryd.prog 85 [.pointer (some ⟨e, 0, none⟩), v, vi (first : Int), vi lo, vi hi] w0 zsr [.blk e 102 [tv, sv, vi ((u : Nat) : Int), vt (s)], .row tv 9 1 (T).length ((T).map vs)] (TrR e sv (Mk.rr first ls sd (f + 1) n p0 T u s)) := by
 refine fn_enterx Tryd.func85 rfl Tryd.ntmps85 (Nat.le_of_ble_eq_true rfl) fun hsr a w hF hS => ?_
 replace hS : St _ (_) (_ :: _ :: _) _ := hS
 have hbl := hb.1
 have hsl := hsd.1
 have hsl2 : sd.length ≤ 140737488355328 := hsl
 refine wp_seq_k ?_; intro K1 hK1
 refine regl ?_
 refine wpl_ef hF hS rfl (ef_allocA ty29) ?_
 clear hF hS; rintro _ _ _ a w ⟨b1, rfl, rfl, rfl⟩ hF hS
 rw [show List.replicate 16 (Value.int .u8 0) = (List.replicate 16 (0 : UInt8)).map vb from by rw [List.map_replicate] <;> rfl] at hS
 refine wpList_nil ?_
 refine hK1 _ _ ?_
 clear hK1
 refine wp_seq_k ?_; intro K2 hK2
 refine wp_seq_k ?_; intro K3 hK3
 refine regl ?_
 refine wpl_sq hF hS (sq rfl (q_move rfl) <|
   sq rfl (q_move rfl) <|
   sq rfl (q_lei rfl rfl) <|
   sq rfl (q_move rfl) <|
   sq_end) ?_
 clear hF hS; intro a w hF hS
 refine wpl_or 3 17 6 hF hS rfl rfl rfl rfl rfl (fun hg => have hg := (by first | exact of_decide_eq_false hg | exact hg); sq_go 17 rfl rfl rfl (q_move rfl) <|
   sq_go 17 rfl rfl rfl (q_move rfl) <|
   sq_go 17 rfl rfl rfl (q_move rfl) <|
   sq_go 17 rfl rfl rfl (q_len_sl ty24 hb rfl) <|
   sq_go 17 rfl rfl rfl (q_addi rfl rfl (by omega)) <|
   sq_go 17 rfl rfl rfl (q_gei rfl rfl) <|
   sq_end) rfl rfl ?_
 clear hF hS; intro a w hF hS
 refine wpList_nil ?_
 refine hK3 _ _ ?_
 clear hK3
 refine wp_if hF rfl (fun hc1 => ?_) (fun hc1 => ?_)
 ·(try simp only [Bool.or_eq_true, Bool.and_eq_true, Bool.or_eq_false_iff, Bool.and_eq_false_iff, decide_eq_true_eq, decide_eq_false_iff_not, Bool.not_eq_true', Bool.not_eq_false'] at hc1)
  have ho : p0 + n ≤ first ∨ first + ls.length ≤ p0 := by omega
  refine wp_seq_k ?_; intro K4 hK4
  refine wp_seq_k ?_; intro K5 hK5
  refine regd mixed kQ hF hS (sq rfl (q_move rfl) <|
    sq rfl (q_nilCheck rfl) <|
    sq rfl (q_fieldAddr ty102 rfl rfl (s' := 0) kQ) <|
    sq rfl (q_ld_blk1 ty3 1 rfl rfl rfl rfl) <|
    sq rfl (q_move rfl) <|
    sq rfl (q_nilCheck rfl) <|
    sq rfl (q_fieldAddr ty102 rfl rfl (s' := 0) kQ) <|
    sq rfl (q_ld_blk1 ty48 1 rfl rfl rfl rfl) <|
    sq rfl (q_len_sl ty48 hsd rfl) <|
    sq rfl (q_gei rfl rfl) <|
    sq_end) ?_
  clear hF hS; intro a w hF hS
  refine hK5 _ _ ?_
  clear hK5
  refine wp_ifd hF rfl (fun hc2 => ?_) (fun hc2 => ?_)
  ·have hq : sd.length ≤ u := by omega
   refine wp_seq_k ?_; intro K6 hK6
   refine regl ?_
   refine wpl_sq hF hS (sq rfl (q_move rfl) <|
     sq rfl (q_nilCheck rfl) <|
     sq rfl (q_fieldAddr ty102 rfl rfl (s' := 0) kQ) <|
     sq_end) ?_
   clear hF hS; intro a w hF hS
   refine wpl_ef hF hS rfl (ef_store1 ty4 1 rfl rfl rfl rfl (by simp)) ?_
   clear hF hS; rintro _ _ _ a w ⟨rfl, rfl, rfl⟩ hF hS
   replace hS : St _ (_) (_ :: .blk _ _ ([_, _, _, _].set 3 _) :: _ :: _) _ := hS
   simp only [List.set_cons_zero, List.set_cons_succ] at hS
   replace hS : St _ (_) (_ :: _ :: _ :: _) _ := hS
   refine wpList_nil ?_
   refine hK6 _ _ ?_
   clear hK6
   refine wp_seq_k ?_; intro K7 hK7
   refine regl ?_
   refine wpl_sq hF hS (sq rfl (q_build rfl (run_build_arr ty29 ty5 rfl)) <|
     sq_end) ?_
   clear hF hS; intro a w hF hS
   refine wpl_ef hF hS rfl (ef_storeW ty29 0 rfl rfl rfl rfl bQ oQ bQ) ?_
   clear hF hS; rintro _ _ _ a w ⟨rfl, rfl, rfl⟩ hF hS
   replace hS : St _ (_) (_ :: _ :: _ :: _) _ := hS
   refine wpList_nil ?_
   refine hK7 _ _ ?_
   clear hK7
   refine wp_ret ?_
   replace hS := hS.perm (.swap _ _ _)
   replace hS := hS.perm (.cons _ (.swap _ _ _))
   exact fn_retx (rs := [.cell 10 29]) rfl hF hS (vs := [_]) ⟨⟨_, _, _, _, _, _, _, rfl, List.mem_of_getElem? (i := 2) rfl, ty29, .inl ⟨rfl, bQ, rfl⟩⟩, trivial⟩ [] [_, _] sQ (sQ.n.k.k) (tr_of (σ := (Mk.zD, T, u, true)) ⟨tv, rfl, rfl, rfl⟩ (Mk.rr_short ho hq))
  ·have hq : ¬ sd.length ≤ u := by omega
   have hd16 := h16 (sd.getD u []) (Mk.getD_inD (by omega))
   have hue : ((u : Int) + 1 - 1).toNat = u := by omega
   have hd17 : (sd.getD ((u : Int) + 1 - 1).toNat []).length = 16 := by rw [hue]; exact hd16
   refine wp_skip ?_
   refine hK4 _ _ ?_
   clear hK4
   refine wp_seq_k ?_; intro K8 hK8
   refine regl ?_
   refine wpl_sq hF hS (sq rfl (q_move rfl) <|
     sq rfl (q_move rfl) <|
     sq rfl (q_nilCheck rfl) <|
     sq rfl (q_fieldAddr ty102 rfl rfl (s' := 0) kQ) <|
     sq rfl (q_ld_blk1 ty3 1 rfl rfl rfl rfl) <|
     sq rfl (q_addi rfl rfl (by omega)) <|
     sq rfl (q_nilCheck rfl) <|
     sq rfl (q_fieldAddr ty102 rfl rfl (s' := 0) kQ) <|
     sq_end) ?_
   clear hF hS; intro a w hF hS
   refine wpl_ef hF hS rfl (ef_store1 ty3 1 rfl rfl rfl rfl (by simp)) ?_
   clear hF hS; rintro _ _ _ a w ⟨rfl, rfl, rfl⟩ hF hS
   replace hS : St _ (_) (_ :: .blk _ _ ([_, _, _, _].set 2 _) :: _ :: _) _ := hS
   simp only [List.set_cons_zero, List.set_cons_succ] at hS
   replace hS : St _ (_) (_ :: _ :: _ :: _) _ := hS
   refine wpList_nil ?_
   refine hK8 _ _ ?_
   clear hK8
   refine wp_seq_k ?_; intro K9 hK9
   refine regt 11 mixed kQ hF hS (sq rfl (q_move rfl) <|
     sq rfl (q_nilCheck rfl) <|
     sq rfl (q_fieldAddr ty102 rfl rfl (s' := 0) kQ) <|
     sq rfl (q_ld_blk1 ty48 1 rfl rfl rfl rfl) <|
     sq rfl (q_move rfl) <|
     sq rfl (q_nilCheck rfl) <|
     sq rfl (q_fieldAddr ty102 rfl rfl (s' := 0) kQ) <|
     sq rfl (q_ld_blk1 ty3 1 rfl rfl rfl rfl) <|
     sq rfl (q_subi rfl rfl (by omega)) <|
     sq rfl (q_idx_sl ty48 ty29 hsd rfl rfl (by omega)) <|
     sq rfl (q_ld_AB ty29 hsd zin0 rfl rfl (by decide) (by omega)) <|
     sq_end) ?_
   clear hF hS; intro a w hF hS
   refine wpl_ef hF hS rfl (ef_storeW ty29 0 rfl rfl rfl rfl bQ oQ bQ) ?_
   clear hF hS; rintro _ _ _ a w ⟨rfl, rfl, rfl⟩ hF hS
   replace hS : St _ (_) (_ :: _ :: _ :: _) _ := hS
   refine wpList_nil ?_
   refine hK9 _ _ ?_
   clear hK9
   refine wp_ret ?_
   replace hS := hS.perm (.swap _ _ _)
   replace hS := hS.perm (.cons _ (.swap _ _ _))
   exact fn_retx (rs := [.cell 10 29]) rfl hF hS (vs := [_]) ⟨⟨_, _, _, _, _, _, _, rfl, List.mem_of_getElem? (i := 2) rfl, ty29, .inl ⟨rfl, bQ, rfl⟩⟩, trivial⟩ [] [_, _] sQ (sQ.n.k.k) (tr_of (σ := (sd.getD u [], T, u + 1, s)) ⟨tv, by rw [hue], rfl, rfl⟩ (Mk.rr_side ho hq))
 ·(try simp only [Bool.or_eq_true, Bool.and_eq_true, Bool.or_eq_false_iff, Bool.and_eq_false_iff, decide_eq_true_eq, decide_eq_false_iff_not, Bool.not_eq_true', Bool.not_eq_false'] at hc1)
  have ho : ¬ (p0 + n ≤ first ∨ first + ls.length ≤ p0) := by omega
  refine wp_skip ?_
  refine hK2 _ _ ?_
  clear hK2
  refine wp_seq_k ?_; intro K10 hK10
  refine wp_seq_k ?_; intro K11 hK11
  refine reg hF hS (sq rfl (q_move rfl) <|
    sq rfl (q_move rfl) <|
    sq rfl (q_subi rfl rfl (by omega)) <|
    sq rfl (q_eqi rfl rfl) <|
    sq_end) ?_
  clear hF hS; intro a w hF hS
  refine hK11 _ _ ?_
  clear hK11
  refine wp_ifd hF rfl (fun hc3 => ?_) (fun hc3 => ?_)
  ·have hle : (lo - (first : Int)).toNat = p0 - first := by omega
   have hn3 : n = 1 := by omega
   have hxa := hx (ls.getD (lo - first).toNat kv0) (Mk.getD_in (by omega))
   have ho16 := Sha.ofD_len 3 [(ls.getD (lo - first).toNat kv0).1, (ls.getD (lo - first).toNat kv0).2]
   refine wp_seq_k ?_; intro K12 hK12
   revert hS; revert hF; apply regJ (J := J3 (α0 := Value) (α1 := PH) (α2 := Value) 104 _ _ _ _ _) #[false, false, false, false, false, false, false, false, false, false, false, false, false, false, false, false, false, false] 18 mixed rfl rfl
   ·intro w hF hS
    refine goW_take 0 _ rfl kQ rfl hF (hS.keep sQ (sQ.n.n.n)) (q_move rfl) ?_
    clear hF; intro a hF
    refine goW_take 1 _ rfl kQ rfl hF (hS.keep sQ (sQ.n.n.n)) (q_move rfl) ?_
    clear hF; intro a hF
    refine goW_take 2 _ rfl kQ rfl hF (hS.keep sQ (sQ.n.n.n)) (q_move rfl) ?_
    clear hF; intro a hF
    refine goW_take 3 _ rfl kQ rfl hF (hS.keep sQ (sQ.n.n.n)) (q_move rfl) ?_
    clear hF; intro a hF
    refine goW_take 4 _ rfl kQ rfl hF (hS.keep sQ (sQ.n.n.n)) (q_subi rfl rfl (by omega)) ?_
    clear hF; intro a hF
    refine goW_take 5 _ rfl kQ rfl hF (hS.keep sQ (sQ.n.n.n)) (q_idx_sl ty24 ty75 hb rfl rfl (by omega)) ?_
    clear hF; intro a hF
    refine goW_take 6 _ rfl kQ rfl hF (hS.keep sQ (sQ.n.n.n)) (q_fld_F ty75 hb rfl (by omega) rfl (s' := 0) kQ) ?_
    clear hF; intro a hF
    refine goW_take 7 _ rfl kQ rfl hF (hS.keep sQ (sQ.n.n.n)) (q_ld_FK ty9 hb zin0 rfl rfl (by omega)) ?_
    clear hF; intro a hF
    refine goW_take 8 _ rfl kQ rfl hF (hS.keep sQ (sQ.n.n.n)) (q_move rfl) ?_
    clear hF; intro a hF
    refine goW_take 9 _ rfl kQ rfl hF (hS.keep sQ (sQ.n.n.n)) (q_move rfl) ?_
    clear hF; intro a hF
    refine goW_take 10 _ rfl kQ rfl hF (hS.keep sQ (sQ.n.n.n)) (q_move rfl) ?_
    clear hF; intro a hF
    refine goW_take 11 _ rfl kQ rfl hF (hS.keep sQ (sQ.n.n.n)) (q_subi rfl rfl (by omega)) ?_
    clear hF; intro a hF
    refine goW_take 12 _ rfl kQ rfl hF (hS.keep sQ (sQ.n.n.n)) (q_idx_sl ty24 ty75 hb rfl rfl (by omega)) ?_
    clear hF; intro a hF
    refine goW_take 13 _ rfl kQ rfl hF (hS.keep sQ (sQ.n.n.n)) (q_fld_F ty75 hb rfl (by omega) rfl (s' := 0) kQ) ?_
    clear hF; intro a hF
    refine goW_take 14 _ rfl kQ rfl hF (hS.keep sQ (sQ.n.n.n)) (q_ld_FV ty9 hb zin0 rfl rfl (by omega)) ?_
    clear hF; intro a hF
    refine gQ 15 rfl rfl hF hS rfl (ef_bsliceA ty47 ty9 rfl rfl oQ (by decide) rfl rfl) ?_
    clear hF hS; rintro v_8_15 _ _ a w ⟨rfl, rfl⟩ hF hS
    replace hS : St _ (_) (_ :: _ :: _ :: _ :: _) _ := hS
    refine ⟨⟨iQ, iQ, .inr (hS.keep sQ (sQ.n.n.n.n)), .inr (hS.keep sQ (sQ.n.n.n.n)), .inr (hS.keep sQ (sQ.n.n.n.n)), .inr (hS.keep sQ (sQ.n.n.n.n)), .inr (hS.keep sQ (sQ.n.n.n.n)), iQ, iQ, .inr (hS.keep sQ (sQ.n.n.n.n)), .inr (hS.keep sQ (sQ.n.n.n.n)), .inr (hS.keep sQ (sQ.n.n.n.n)), .inr (hS.keep sQ (sQ.n.n.n.n)), .inr (hS.keep sQ (sQ.n.n.n.n)), .inr (hS.keep sQ (sQ.n.n.n.n)), trivial⟩, ?_⟩
    refine goW_fork [16] kQ rfl ⟨?_, trivial⟩
    obtain ⟨z_8_16, hz_8_16, hS⟩ := St.freezeV (h0 := fun _ => rfl) (f := vs) (p := fun s => s.length ≤ 140737488355328) (xs := [(ls.getD (lo - first).toNat kv0).1, (ls.getD (lo - first).toNat kv0).2]) hS (by first | rfl | (simp; done)) (by first | decide | omega | (simp; omega)) (Mk.two_le (by omega) (by omega))
    replace hS := hS.perm (.swap _ _ _)
    replace hS := hS.perm (.cons _ (.swap _ _ _))
    replace hS : St _ (_ :: _) (_ :: _ :: _ :: _) _ := hS
    refine stepW_ef _ rfl rfl hF hS rfl (ef_callxN 2 fn86 rfl (by exact (tof_ct _ _ _ T u s _ _ [(ls.getD (lo - first).toNat kv0).1, (ls.getD (lo - first).toNat kv0).2] (Mk.two_lt hxa.1 hxa.2) (by simp) (by omega) _ _ _ _ _ hz_8_16 (.inr (by simp)) hg0))) ?_
    clear hF hS; rintro _ _ _ a w ⟨_, _, rfl, rfl, ⟨p_8_16, rfl, rfl, rfl⟩⟩ hF hS
    replace hS : St _ (_ :: _) (_ :: _ :: _ :: _) _ := hS
    refine ⟨⟨iQ, iQ, .inr (hS.keep (sQ.n) (sQ.n.n.n)), .inr (hS.keep (sQ.n) (sQ.n.n.n)), .inr (hS.keep (sQ.n) (sQ.n.n.n)), .inr (hS.keep (sQ.n) (sQ.n.n.n)), .inr (hS.keep (sQ.n) (sQ.n.n.n)), iQ, iQ, .inr (hS.keep (sQ.n) (sQ.n.n.n)), .inr (hS.keep (sQ.n) (sQ.n.n.n)), .inr (hS.keep (sQ.n) (sQ.n.n.n)), .inr (hS.keep (sQ.n) (sQ.n.n.n)), .inr (hS.keep (sQ.n) (sQ.n.n.n)), iQ, trivial⟩, ?_⟩
    refine gQ 17 rfl rfl hF hS rfl (ef_storeW ty29 2 rfl rfl rfl rfl bQ oQ bQ) ?_
    clear hF hS; rintro _ _ _ a w ⟨rfl, rfl, rfl⟩ hF hS
    replace hS : St _ (_ :: _) (_ :: _ :: _ :: _) _ := hS
    refine ⟨⟨iQ, iQ, iQ, iQ, iQ, iQ, iQ, iQ, iQ, iQ, iQ, iQ, iQ, iQ, iQ, trivial⟩, ?_⟩
    exact goW_done kQ (j3_mk v_8_15 z_8_16 p_8_16 ((And.intro hz_8_16 trivial)) (hF.sub (L' := [(10, _)]) ⟨rfl, trivial⟩) hS)
   rintro a w ⟨v_8_15, z_8_16, p_8_16, ⟨hz_8_16, -⟩, hF, hS⟩
   (try dsimp only at hF); (try dsimp only at hS)
   refine hK12 _ _ ?_
   clear hK12
   refine wp_ret ?_
   exact fn_retx (rs := [.cell 10 29]) rfl hF hS (vs := [_]) ⟨⟨_, _, _, _, _, _, _, rfl, List.mem_of_getElem? (i := 2) rfl, ty29, .inl ⟨rfl, bQ, rfl⟩⟩, trivial⟩ [] [_, _] (sQ.n) (sQ.n.k.k) (tr_of (σ := (Sha.ofD 3 [(ls.getD (lo - first).toNat kv0).1, (ls.getD (lo - first).toNat kv0).2], T ++ [Sha.inp 3 [(ls.getD (lo - first).toNat kv0).1, (ls.getD (lo - first).toNat kv0).2]], u, s)) ⟨_, rfl, rfl, rfl⟩ (by rw [Mk.rr_leaf ho hn3, ← hle]; rfl))
  ·have hn2 : 2 ≤ n := by omega
   have hhp := Mk.half_pos n
   have hhl := Mk.half_lt hn2
   have hbd := Mk.rr_bd h16 (lv := ls) (first := first) f (Mk.half n) p0 T u s hhp (by omega)
   obtain ⟨hr16, hrT, hru, _⟩ := hbd
   refine wp_skip ?_
   refine hK10 _ _ ?_
   clear hK10
   refine wp_seq_k ?_; intro K13 hK13
   refine reg hF hS (sq rfl (q_move rfl) <|
     sq rfl (q_move rfl) <|
     sq rfl (q_move rfl) <|
     sq rfl (q_subi rfl rfl (by omega)) <|
     sq rfl (q_call fn106 rfl (fun w hS => half_ct _ n (by omega) (by omega) (by omega) w ) (fun _ _ _ h => h)) <|
     sq rfl (q_addi rfl rfl (by omega)) <|
     sq rfl (q_assign rfl) <|
     sq_end) ?_
   clear hF hS; intro a w hF hS
   refine hK13 _ _ ?_
   clear hK13
   refine wp_seq_k ?_; intro K14 hK14
   refine regl ?_
   refine wpl_sq hF hS (sq rfl (q_move rfl) <|
     sq rfl (q_move rfl) <|
     sq rfl (q_move rfl) <|
     sq rfl (q_move rfl) <|
     sq rfl (q_move rfl) <|
     sq_end) ?_
   clear hF hS; intro a w hF hS
   replace hS := hS.perm (.swap _ _ _)
   replace hS := hS.perm (.cons _ (.swap _ _ _))
   replace hS : St _ (_) (_ :: _ :: _ :: _) _ := hS
   refine wpl_ef hF hS rfl (ef_callxN 2 fn85 rfl (by exact (ih _ _ p0 (Mk.half n) _ T u s  (by omega) (by omega) (by omega) (by omega) (by omega) (by omega) (by omega) ))) ?_
   clear hF hS; rintro _ _ _ a w ⟨_, _, rfl, rfl, ⟨tv1, rfl, rfl, rfl⟩⟩ hF hS
   replace hS : St _ (_) (_ :: _ :: _ :: _) _ := hS
   refine wpl_ef hF hS rfl (ef_allocA ty29) ?_
   clear hF hS; rintro _ _ _ a w ⟨b3, rfl, rfl, rfl⟩ hF hS
   rw [show List.replicate 16 (Value.int .u8 0) = (List.replicate 16 (0 : UInt8)).map vb from by rw [List.map_replicate] <;> rfl] at hS
   refine wpl_ef hF hS rfl (ef_storeW ty29 0 rfl rfl rfl rfl bQ oQ bQ) ?_
   clear hF hS; rintro _ _ _ a w ⟨rfl, rfl, rfl⟩ hF hS
   replace hS : St _ (_) (_ :: _ :: _ :: _ :: _) _ := hS
   refine wpList_nil ?_
   obtain ⟨r1, hr1⟩ : ∃ r, r = (Mk.rr first ls sd f (Mk.half n) p0 T u s) := ⟨_, rfl⟩
   rw [← hr1] at hr16 hrT hru hS
   have hbd2 := Mk.rr_bd h16 (lv := ls) (first := first) f (n - Mk.half n) (p0 + Mk.half n) r1.2.1 r1.2.2.1 r1.2.2.2 (by omega) (by omega)
   obtain ⟨hs16, hsT, hsu, _⟩ := hbd2
   refine hK14 _ _ ?_
   clear hK14
   refine wp_seq_k ?_; intro K15 hK15
   refine regl ?_
   refine wpl_sq hF hS (sq rfl (q_move rfl) <|
     sq rfl (q_move rfl) <|
     sq rfl (q_move rfl) <|
     sq rfl (q_move rfl) <|
     sq rfl (q_move rfl) <|
     sq_end) ?_
   clear hF hS; intro a w hF hS
   replace hS := hS.perm (.swap _ _ _)
   replace hS := hS.perm (.cons _ (.swap _ _ _))
   replace hS : St _ (_) (_ :: _ :: _ :: _ :: _) _ := hS
   refine wpl_ef hF hS rfl (ef_callxN 2 fn85 rfl (by exact (ih _ _ (p0 + Mk.half n) (n - Mk.half n) _ r1.2.1 r1.2.2.1 r1.2.2.2  (by omega) (by omega) (by omega) (by omega) (by omega) (by omega) (by omega) ))) ?_
   clear hF hS; rintro _ _ _ a w ⟨_, _, rfl, rfl, ⟨tv2, rfl, rfl, rfl⟩⟩ hF hS
   replace hS : St _ (_) (_ :: _ :: _ :: _ :: _) _ := hS
   refine wpl_ef hF hS rfl (ef_allocA ty29) ?_
   clear hF hS; rintro _ _ _ a w ⟨b5, rfl, rfl, rfl⟩ hF hS
   rw [show List.replicate 16 (Value.int .u8 0) = (List.replicate 16 (0 : UInt8)).map vb from by rw [List.map_replicate] <;> rfl] at hS
   refine wpl_ef hF hS rfl (ef_storeW ty29 0 rfl rfl rfl rfl bQ oQ bQ) ?_
   clear hF hS; rintro _ _ _ a w ⟨rfl, rfl, rfl⟩ hF hS
   replace hS : St _ (_) (_ :: _ :: _ :: _ :: _ :: _) _ := hS
   refine wpList_nil ?_
   obtain ⟨r2, hr2⟩ : ∃ r, r = Mk.rr first ls sd f (n - Mk.half n) (p0 + Mk.half n) r1.2.1 r1.2.2.1 r1.2.2.2 := ⟨_, rfl⟩
   rw [← hr2] at hs16 hsT hsu hS
   have ho16 := Sha.ofD_len 4 [r1.1, r2.1]
   refine hK15 _ _ ?_
   clear hK15
   refine wp_seq_k ?_; intro K16 hK16
   revert hS; revert hF; apply regJ (J := J3 (α0 := Value) (α1 := PH) (α2 := Value) 104 _ _ _ _ _) #[false, false, false, false, false, false, false, false] 8 mixed rfl rfl
   ·intro w hF hS
    refine goW_take 0 _ rfl kQ rfl hF (hS.keep sQ (sQ.n.n.n.n.n)) (q_move rfl) ?_
    clear hF; intro a hF
    refine goW_take 1 _ rfl kQ rfl hF (hS.keep sQ (sQ.n.k.n.n.n)) (q_ld_blkW ty29 0 rfl rfl bQ rfl) ?_
    clear hF; intro a hF
    refine goW_take 3 _ rfl kQ rfl hF (hS.keep sQ (sQ.n.n.n.n.k)) (q_ld_blkW ty29 0 rfl rfl bQ rfl) ?_
    clear hF; intro a hF
    refine gQ 2 rfl rfl hF hS rfl (ef_qt (q_call fn84 rfl (fun w hS => rtext_ct _ (by first | with_reducible assumption | omega | (simp; omega)) w ) (fun _ _ _ h => h))) ?_
    clear hF hS; rintro _ _ _ a w ⟨rfl, rfl, rfl⟩ hF hS
    refine ⟨⟨.inr (hS.keep sQ (sQ.n.n.n.n.k)), iQ, .inr (hS.keep sQ (sQ.n.n.n.n.n)), trivial⟩, ?_⟩
    refine gQ 4 rfl rfl hF hS rfl (ef_qt (q_call fn84 rfl (fun w hS => rtext_ct _ (by first | with_reducible assumption | omega | (simp; omega)) w ) (fun _ _ _ h => h))) ?_
    clear hF hS; rintro _ _ _ a w ⟨rfl, rfl, rfl⟩ hF hS
    refine ⟨⟨iQ, iQ, .inr (hS.keep sQ (sQ.n.n.n.n.n)), trivial⟩, ?_⟩
    refine gQ 5 rfl rfl hF hS rfl (ef_bsliceA ty47 ty9 rfl rfl oQ (by decide) rfl rfl) ?_
    clear hF hS; rintro v_12_5 _ _ a w ⟨rfl, rfl⟩ hF hS
    replace hS : St _ (_) (_ :: _ :: _ :: _ :: _ :: _ :: _) _ := hS
    refine ⟨⟨iQ, iQ, .inr (hS.keep sQ (sQ.n.n.n.n.n.n)), trivial⟩, ?_⟩
    refine goW_fork [6] kQ rfl ⟨?_, trivial⟩
    obtain ⟨z_12_6, hz_12_6, hS⟩ := St.freezeV (h0 := fun _ => rfl) (f := vs) (p := fun s => s.length ≤ 140737488355328) (xs := [r1.1, r2.1]) hS (by first | rfl | (simp; done)) (by first | decide | omega | (simp; omega)) (Mk.two_le (by omega) (by omega))
    replace hS := hS.perm (.swap _ _ _)
    replace hS := hS.perm (.cons _ (.swap _ _ _))
    replace hS : St _ (_ :: _) (_ :: _ :: _ :: _ :: _ :: _) _ := hS
    refine stepW_ef _ rfl rfl hF hS rfl (ef_callxN 2 fn86 rfl (by exact (tof_ct _ _ _ r2.2.1 r2.2.2.1 r2.2.2.2 _ _ [r1.1, r2.1] (Mk.two_lt (by omega) (by omega)) (by simp) (by omega) _ _ _ _ _ hz_12_6 (.inr (by simp)) hg0))) ?_
    clear hF hS; rintro _ _ _ a w ⟨_, _, rfl, rfl, ⟨p_12_6, rfl, rfl, rfl⟩⟩ hF hS
    replace hS : St _ (_ :: _) (_ :: _ :: _ :: _ :: _ :: _) _ := hS
    refine ⟨⟨iQ, iQ, iQ, trivial⟩, ?_⟩
    refine gQ 7 rfl rfl hF hS rfl (ef_storeW ty29 4 rfl rfl rfl rfl bQ oQ bQ) ?_
    clear hF hS; rintro _ _ _ a w ⟨rfl, rfl, rfl⟩ hF hS
    replace hS : St _ (_ :: _) (_ :: _ :: _ :: _ :: _ :: _) _ := hS
    refine ⟨⟨iQ, iQ, iQ, trivial⟩, ?_⟩
    exact goW_done kQ (j3_mk v_12_5 z_12_6 p_12_6 ((And.intro hz_12_6 trivial)) (hF.sub (L' := [(10, _)]) ⟨rfl, trivial⟩) hS)
   rintro a w ⟨v_12_5, z_12_6, p_12_6, ⟨hz_12_6, -⟩, hF, hS⟩
   (try dsimp only at hF); (try dsimp only at hS)
   refine hK16 _ _ ?_
   clear hK16
   refine wp_ret ?_
   exact fn_retx (rs := [.cell 10 29]) rfl hF hS (vs := [_]) ⟨⟨_, _, _, _, _, _, _, rfl, List.mem_of_getElem? (i := 4) rfl, ty29, .inl ⟨rfl, bQ, rfl⟩⟩, trivial⟩ [] [_, _] (sQ.n) (sQ.n.n.n.k.k) (tr_of (σ := (Sha.ofD 4 [r1.1, r2.1], r2.2.1 ++ [Sha.inp 4 [r1.1, r2.1]], r2.2.2.1, r2.2.2.2)) ⟨_, rfl, rfl, rfl⟩ (by rw [Mk.rr_node ho hn2 hr1 hr2]; rfl))

theorem row_ct (e : Nat) (sv v : Value) (ls : List Mk.Lf) (first : Nat) (sd : List Mk.Dg) (hl : ls.length < 1048576) (hx : ∀ x ∈ ls, x.1.length < 1048576 ∧ x.2.length < 1048576) (h16 : ∀ d ∈ sd, d.length = 16) (hf9 : first ≤ 1048576) (fz0 : Nat × Nat) (bt0 : TypeId) (w0 : World) (zsr : List PH) (hb : Sl encF (ph w0) v ls) (hsd : Sl (encA 16) (ph w0) sv sd) (hg0 : w0.heap[0]? = some (.cells (Sha.kc.map vw).toArray bt0 fz0)) : ∀ (f : Nat) (lo hi : Int) (p0 n : Nat) (tv : Value) (T : Mk.Tx) (u : Nat) (s : Bool) (hp : lo = p0) (hh : hi = p0 + n) (hn1 : 1 ≤ n) (hnf : n ≤ f) (hp9 : p0 + n ≤ 1048576) (hT9 : T.length + 2 * n ≤ 100000000) (hu9 : u + n ≤ 100000000), Cx Tryd.prog 85 [.pointer (some ⟨e, 0, none⟩), v, vi (first : Int), vi lo, vi hi] w0 zsr [.blk e 102 [tv, sv, vi ((u : Nat) : Int), vt (s)], .row tv 9 1 (T).length ((T).map vs)] (TrR e sv (Mk.rr first ls sd f n p0 T u s)) := by
 intro f
 induction f with
 | zero => intro lo hi p0 n tv T u s hp hh hn1 hnf; omega
 | succ f ih => exact fun lo hi p0 n tv T u s hp hh hn1 hnf hp9 hT9 hu9 => row_step e sv v ls first sd hl hx h16 hf9 fz0 bt0 w0 zsr hb hsd hg0 f ih lo hi p0 n tv T u s hp hh hn1 hnf hp9 hT9 hu9

set_option maxRecDepth 4000 in
set_option maxHeartbeats 2000000 in
theorem troot_ct (e : Nat) (sv tv v : Value) (ls : List Mk.Lf) (first : Nat) (sd : List Mk.Dg) (size : Int) (n : Nat) (hl : ls.length < 1048576) (hx : ∀ x ∈ ls, x.1.length < 1048576 ∧ x.2.length < 1048576) (h16 : ∀ d ∈ sd, d.length = 16) (hf9 : first ≤ 1048576) (hn : size = n) (hn9 : n ≤ 1048576) (fz0 : Nat × Nat) (bt0 : TypeId) (w0 : World) (zsr : List PH) (hb : Sl encF (ph w0) v ls) (hsd : Sl (encA 16) (ph w0) sv sd) (hg0 : w0.heap[0]? = some (.cells (Sha.kc.map vw).toArray bt0 fz0)) : Cx Tryd.prog 52 [.pointer (some ⟨e, 0, none⟩), v, vi (first : Int), vi size] w0 zsr [.blk e 102 [tv, sv, vi ((0 : Nat) : Int), vt (false)], .row tv 9 1 (([] : Mk.Tx)).length ((([] : Mk.Tx)).map vs)] (TrR e sv (Mk.rrR first ls sd n)) := by
 refine fn_enterx Tryd.func52 rfl Tryd.ntmps52 (Nat.le_of_ble_eq_true rfl) fun hsr a w hF hS => ?_
 replace hS : St _ (_) (_ :: _ :: _) _ := hS
 have hbl := hb.1
 have hil := Wi.int_len9 size
 have hos := Sha.ofD_len 4 [Wi.int size]
 refine wp_seq_k ?_; intro K1 hK1
 refine regl ?_
 refine wpl_ef hF hS rfl (ef_allocA ty29) ?_
 clear hF hS; rintro _ _ _ a w ⟨b1, rfl, rfl, rfl⟩ hF hS
 rw [show List.replicate 16 (Value.int .u8 0) = (List.replicate 16 (0 : UInt8)).map vb from by rw [List.map_replicate] <;> rfl] at hS
 refine wpList_nil ?_
 refine hK1 _ _ ?_
 clear hK1
 refine wp_seq_k ?_; intro K2 hK2
 refine regl ?_
 refine wpl_sq hF hS (sq rfl (q_move rfl) <|
   sq_end) ?_
 clear hF hS; intro a w hF hS
 refine wpl_ef hF hS rfl (ef_call fn83 rfl (fun w hS => rint_ct _ (by omega) w )) ?_
 clear hF hS; rintro v2 _ _ a w ⟨_, _, rfl, rfl, rfl, rfl⟩ hF hS
 replace hS : St _ (_) (_ :: _ :: _ :: _ :: _) _ := hS
 refine wpl_sq hF hS (sq rfl (q_b2s_row ty39 ty9 ty5 0 rfl rfl) <|
   sq_end) ?_
 clear hF hS; intro a w hF hS
 refine wpl_ef hF hS rfl (ef_bsliceA ty47 ty9 rfl rfl oQ (by decide) rfl rfl) ?_
 clear hF hS; rintro v4 _ _ a w ⟨rfl, rfl⟩ hF hS
 replace hS : St _ (_) (_ :: _ :: _ :: _ :: _ :: _) _ := hS
 refine wpl_sq hF hS (sq rfl (q_assign rfl) <|
   sq_end) ?_
 clear hF hS; intro a w hF hS
 refine wpList_nil ?_
 refine hK2 _ _ ?_
 clear hK2
 refine wp_seq_k ?_; intro K3 hK3
 refine wp_seq_k ?_; intro K4 hK4
 refine reg hF hS (sq rfl (q_move rfl) <|
   sq rfl (q_gti rfl rfl) <|
   sq_end) ?_
 clear hF hS; intro a w hF hS
 refine hK4 _ _ ?_
 clear hK4
 refine wp_ifd hF rfl (fun hc1 => ?_) (fun hc1 => ?_)
 ·have hn0 : ¬ n = 0 := by omega
  have hbd := Mk.rr_bd h16 (lv := ls) (first := first) n n 0 [] 0 false (by omega) (Nat.le_refl _)
  obtain ⟨hr16, hrT, hru, _⟩ := hbd
  rw [List.length_nil] at hrT
  obtain ⟨r1, hr1⟩ : ∃ r, r = Mk.rr first ls sd n n 0 [] 0 false := ⟨_, rfl⟩
  rw [← hr1] at hr16 hrT hru
  have hos2 := Sha.ofD_len 4 [Wi.int size, r1.1]
  refine regl ?_
  refine wpl_sq hF hS (sq rfl (q_move rfl) <|
    sq rfl (q_move rfl) <|
    sq rfl (q_move rfl) <|
    sq rfl (q_move rfl) <|
    sq rfl (q_move rfl) <|
    sq_end) ?_
  clear hF hS; intro a w hF hS
  replace hS := hS.perm (.cons _ (.cons _ (.swap _ _ _)))
  replace hS := hS.perm (.cons _ (.swap _ _ _))
  replace hS := hS.perm (.swap _ _ _)
  replace hS := hS.perm (.cons _ (.cons _ (.cons _ (.swap _ _ _))))
  replace hS := hS.perm (.cons _ (.cons _ (.swap _ _ _)))
  replace hS := hS.perm (.cons _ (.swap _ _ _))
  replace hS : St _ (_) (_ :: _ :: _ :: _ :: _ :: _) _ := hS
  refine wpl_ef hF hS rfl (ef_callxN 2 fn85 rfl (by exact (row_ct _ sv _ _ first sd hl hx h16 hf9 _ _ _ _ hb hsd hg0 n _ _ 0 n tv [] 0 false rfl (by omega) (by omega) (Nat.le_refl _) (by omega) (by rw [List.length_nil]; omega) (by omega) ))) ?_
  clear hF hS; rintro _ _ _ a w ⟨_, _, rfl, rfl, ⟨tv1, rfl, rfl, rfl⟩⟩ hF hS
  rw [← hr1] at hF hS
  replace hS : St _ (_) (_ :: _ :: _ :: _ :: _ :: _) _ := hS
  refine wpl_sq hF hS (sq rfl (q_call fn84 rfl (fun w hS => rtext_ct _ (by first | with_reducible assumption | omega | (simp; omega)) w ) (fun _ _ _ h => h)) <|
    sq_end) ?_
  clear hF hS; intro a w hF hS
  refine wpl_ef hF hS rfl (ef_bsliceA ty47 ty9 rfl rfl oQ (by decide) rfl rfl) ?_
  clear hF hS; rintro v7 _ _ a w ⟨rfl, rfl⟩ hF hS
  replace hS : St _ (_) (_ :: _ :: _ :: _ :: _ :: _ :: _) _ := hS
  refine wpl_ef hF hS rfl (ef_append ty47 ty9 3 rfl rfl rfl (src_row ty47 (k := 0) rfl oQ) bQ rfl (by decide)) ?_
  clear hF hS; rintro v9 _ _ a w ⟨rfl, rfl⟩ hF hS
  replace hS : St _ (_) (_ :: _ :: _ :: _ :: _ :: _ :: _) _ := hS
  refine wpl_sq hF hS (sq rfl (q_assign rfl) <|
    sq_end) ?_
  clear hF hS; intro a w hF hS
  refine wpList_nil ?_
  refine hK3 _ _ ?_
  clear hK3
  refine wp_seq_k ?_; intro K5 hK5
  refine regl ?_
  refine wpl_sq hF hS (sq rfl (q_move rfl) <|
    sq rfl (q_move rfl) <|
    sq_end) ?_
  clear hF hS; intro a w hF hS
  replace hS := hS.perm (.cons _ (.cons _ (.swap _ _ _)))
  replace hS := hS.perm (.cons _ (.swap _ _ _))
  replace hS := hS.perm (.swap _ _ _)
  obtain ⟨z10, hz11, hS⟩ := St.freezeV (h0 := fun _ => rfl) (f := vs) (p := fun s => s.length ≤ 140737488355328) (xs := [Wi.int size, r1.1]) hS (by first | rfl | (simp; done)) (by first | decide | omega | (simp; omega)) (Mk.two_le (by omega) (by omega))
  replace hS := hS.perm (.swap _ _ _)
  replace hS := hS.perm (.cons _ (.swap _ _ _))
  replace hS : St _ (_ :: _) (_ :: _ :: _ :: _ :: _ :: _) _ := hS
  refine wpl_ef hF hS rfl (ef_callxN 2 fn86 rfl (by exact (tof_ct _ sv _ _ r1.2.2.1 r1.2.2.2 _ _ [Wi.int size, r1.1] (Mk.two_lt (by omega) (by omega)) (by simp) (by first | omega | (simp; done)) _ _ _ _ _ hz11 (.inr (by simp)) hg0))) ?_
  clear hF hS; rintro _ _ _ a w ⟨_, _, rfl, rfl, ⟨p13, rfl, rfl, rfl⟩⟩ hF hS
  replace hS : St _ (_ :: _) (_ :: _ :: _ :: _ :: _ :: _) _ := hS
  refine wpl_ef hF hS rfl (ef_storeW ty29 4 rfl rfl rfl rfl bQ oQ bQ) ?_
  clear hF hS; rintro _ _ _ a w ⟨rfl, rfl, rfl⟩ hF hS
  replace hS : St _ (_ :: _) (_ :: _ :: _ :: _ :: _ :: _) _ := hS
  refine wpList_nil ?_
  refine hK5 _ _ ?_
  clear hK5
  refine wp_ret ?_
  exact fn_retx (rs := [.cell 8 29]) rfl hF hS (vs := [_]) ⟨⟨_, _, _, _, _, _, _, rfl, List.mem_of_getElem? (i := 4) rfl, ty29, .inl ⟨rfl, bQ, rfl⟩⟩, trivial⟩ [] [_, _] (sQ.n) (sQ.n.n.n.k.k) (tr_of (σ := (Sha.ofD 4 [Wi.int size, r1.1], r1.2.1 ++ [Sha.inp 4 [Wi.int size, r1.1]], r1.2.2.1, r1.2.2.2)) ⟨_, rfl, rfl, rfl⟩ (by rw [Mk.rrR_n hn0 hr1, Mk.rootD_n hn0, Mk.rootT_n hn0, ← hn]))
 ·have hn0 : n = 0 := by omega
  refine wp_skip ?_
  refine hK3 _ _ ?_
  clear hK3
  refine wp_seq_k ?_; intro K6 hK6
  refine regl ?_
  refine wpl_sq hF hS (sq rfl (q_move rfl) <|
    sq rfl (q_move rfl) <|
    sq_end) ?_
  clear hF hS; intro a w hF hS
  obtain ⟨z14, hz15, hS⟩ := St.freezeV (h0 := fun _ => rfl) (f := vs) (p := fun s => s.length ≤ 140737488355328) (xs := [Wi.int size]) hS (by first | rfl | (simp; done)) (by first | decide | omega | (simp; omega)) (by simp; omega)
  replace hS := hS.perm (.cons _ (.swap _ _ _))
  replace hS := hS.perm (.swap _ _ _)
  replace hS := hS.perm (.cons _ (.cons _ (.swap _ _ _)))
  replace hS := hS.perm (.cons _ (.swap _ _ _))
  replace hS : St _ (_ :: _) (_ :: _ :: _ :: _ :: _) _ := hS
  refine wpl_ef hF hS rfl (ef_callxN 2 fn86 rfl (by exact (tof_ct _ sv _ _ 0 false _ _ [Wi.int size] (by simp; omega) (by simp) (by first | omega | (simp; done)) _ _ _ _ _ hz15 (.inr (by simp)) hg0))) ?_
  clear hF hS; rintro _ _ _ a w ⟨_, _, rfl, rfl, ⟨p17, rfl, rfl, rfl⟩⟩ hF hS
  replace hS : St _ (_ :: _) (_ :: _ :: _ :: _ :: _) _ := hS
  refine wpl_ef hF hS rfl (ef_storeW ty29 3 rfl rfl rfl rfl bQ oQ bQ) ?_
  clear hF hS; rintro _ _ _ a w ⟨rfl, rfl, rfl⟩ hF hS
  replace hS : St _ (_ :: _) (_ :: _ :: _ :: _ :: _) _ := hS
  refine wpList_nil ?_
  refine hK6 _ _ ?_
  clear hK6
  refine wp_ret ?_
  exact fn_retx (rs := [.cell 8 29]) rfl hF hS (vs := [_]) ⟨⟨_, _, _, _, _, _, _, rfl, List.mem_of_getElem? (i := 3) rfl, ty29, .inl ⟨rfl, bQ, rfl⟩⟩, trivial⟩ [] [_, _] (sQ.n) (sQ.n.n.k.k) (tr_of (σ := (Sha.ofD 4 [Wi.int size], [] ++ [Sha.inp 4 [Wi.int size]], 0, false)) ⟨_, rfl, rfl, rfl⟩ (by rw [Mk.rrR_0 _ _ _ hn0, Mk.rootD_0, Mk.rootT_0, hn, hn0]; rfl))
end Go.Proofs.YtdojfnigffeblaaDoor
