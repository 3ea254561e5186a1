/- A text of a proof over this seat: walks over the program's functions and the plain laws that they need. -/
import Derived.Test.YtdojfnigffeblaaDoorMm6
import Derived.Test.YtdojfnigffeblaaDoorMkA
import Derived.Test.YtdojfnigffeblaaDoorFwD
import Derived.Test.YtdojfnigffeblaaDoorFwB
set_option linter.all false
namespace Go.Proofs.YtdojfnigffeblaaDoor
open Go.Fw
theorem fn93 : FnOk Tryd.prog 93 := ⟨_, Tryd.func93, rfl, by kernel_rfl⟩

attribute [local irreducible] Sha.sum Sha.mac Sha.ofD Wi.int Wi.ints Wi.bytes Sha.inp Mk.half Lib.compareBytes Mk.frm Mk.rootD

/-- What the closure over a proof makes of what it is lent. -/
def UgR (eE eP eN eS eO : Nat) (c1 c3 lv : Value) (ls : List Mk.Lf) (first : Nat) (w0 : World) (σ : Mk.Dg × List Mk.Dg × Bool) : Value → List PH → List Res → Prop := fun r zs hs => ∃ sv, r = .agg (σ.1.map vb).toArray ∧ zs = [] ∧ Sl (encA 16) (ph w0) sv σ.2.1 ∧ hs = [.blk eE 4 [vt (σ.2.2)], .blk eP 50 [vi (first : Int), c1, lv, c3], .blk eN 3 [vi ((first + ls.length : Nat) : Int)], .blk eS 48 [sv], .blk eO 129 [.func (.func 93) (List.nil : List Value).toArray [Value.pointer (some ⟨eE, 0, none⟩), Value.pointer (some ⟨eP, 0, none⟩), Value.pointer (some ⟨eN, 0, none⟩), Value.pointer (some ⟨eS, 0, none⟩), Value.pointer (some ⟨eO, 0, none⟩)].toArray]]
theorem ug_of {eE eP eN eS eO : Nat} {c1 c3 lv : Value} {ls : List Mk.Lf} {first : Nat} {w0 : World} {σ σ' : Mk.Dg × List Mk.Dg × Bool} {r : Value} {zs : List PH} {hs : List Res} (h : UgR eE eP eN eS eO c1 c3 lv ls first w0 σ r zs hs) (e : σ' = σ) : UgR eE eP eN eS eO c1 c3 lv ls first w0 σ' r zs hs := e ▸ h

set_option maxRecDepth 4000 in
set_option maxHeartbeats 2000000 in
theorem under_step (eE eP eN eS eO : Nat) (c1 c3 lv : Value) (ls : List Mk.Lf) (first : Nat) (h1 : c1.oneCell' = true) (h3 : c3.oneCell' = true) (hl : ls.length < 1048576) (hx : ∀ x ∈ ls, x.1.length < 1048576 ∧ x.2.length < 1048576) (hf9 : first ≤ 1048576) (fz1 : Nat × Nat) (bt1 : TypeId) (w0 : World) (zsr : List PH) (hb : Sl encF (ph w0) lv ls) (hg1 : w0.heap[2]? = some (.cells (Sha.kc.map vw).toArray bt1 fz1)) (f : Nat) (ih : ∀ (lo hi : Int) (p0 n : Nat) (sv : Value) (sd : List Mk.Dg) (en : Bool) (hp : lo = p0) (hh : hi = p0 + n) (hn1 : 1 ≤ n) (hnf : n ≤ f) (hp9 : p0 + n ≤ 1048576) (h16 : ∀ d ∈ sd, d.length = 16) (hsd : Sl (encA 16) (ph w0) sv sd), Cx Tryd.prog 93 [vi lo, vi hi, .pointer (some ⟨eE, 0, none⟩), .pointer (some ⟨eP, 0, none⟩), .pointer (some ⟨eN, 0, none⟩), .pointer (some ⟨eS, 0, none⟩), .pointer (some ⟨eO, 0, none⟩)] w0 zsr [.blk eE 4 [vt (en)], .blk eP 50 [vi (first : Int), c1, lv, c3], .blk eN 3 [vi ((first + ls.length : Nat) : Int)], .blk eS 48 [sv], .blk eO 129 [.func (.func 93) (List.nil : List Value).toArray [Value.pointer (some ⟨eE, 0, none⟩), Value.pointer (some ⟨eP, 0, none⟩), Value.pointer (some ⟨eN, 0, none⟩), Value.pointer (some ⟨eS, 0, none⟩), Value.pointer (some ⟨eO, 0, none⟩)].toArray]] (UgR eE eP eN eS eO c1 c3 lv ls first w0 (Mk.ug first ls f n p0 sd en))) (lo hi : Int) (p0 n : Nat) (sv : Value) (sd : List Mk.Dg) (en : Bool) (hp : lo = p0) (hh : hi = p0 + n) (hn1 : 1 ≤ n) (hnf : n ≤ f + 1) (hp9 : p0 + n ≤ 1048576) (h16 : ∀ d ∈ sd, d.length = 16) (hsd : Sl (encA 16) (ph w0) sv sd) : Cx Tryd.prog 93 [vi lo, vi hi, .pointer (some ⟨eE, 0, none⟩), .pointer (some ⟨eP, 0, none⟩), .pointer (some ⟨eN, 0, none⟩), .pointer (some ⟨eS, 0, none⟩), .pointer (some ⟨eO, 0, none⟩)] w0 zsr [.blk eE 4 [vt (en)], .blk eP 50 [vi (first : Int), c1, lv, c3], .blk eN 3 [vi ((first + ls.length : Nat) : Int)], .blk eS 48 [sv], .blk eO 129 [.func (.func 93) (List.nil : List Value).toArray [Value.pointer (some ⟨eE, 0, none⟩), Value.pointer (some ⟨eP, 0, none⟩), Value.pointer (some ⟨eN, 0, none⟩), Value.pointer (some ⟨eS, 0, none⟩), Value.pointer (some ⟨eO, 0, none⟩)].toArray]] (UgR eE eP eN eS eO c1 c3 lv ls first w0 (Mk.ug first ls (f + 1) n p0 sd en)) := by
 refine fn_enterx Tryd.func93 rfl Tryd.ntmps93 (Nat.le_of_ble_eq_true rfl) fun hsr a w hF hS => ?_
 replace hS : St _ (_) (_ :: _ :: _ :: _ :: _ :: _) _ := hS
 have hbl := hb.1
 have hsl : sd.length ≤ 140737488355328 := hsd.1
 refine wp_seq_k ?_; intro K1 hK1
 refine regl ?_
 refine wpl_ef hF hS rfl (ef_allocA ty29) ?_
 clear hF hS; rintro _ _ _ a w ⟨b1, rfl, rfl, rfl⟩ hF hS
 rw [show List.replicate 16 (Value.int .u8 0) = (List.replicate 16 (0 : UInt8)).map vb from by rw [List.map_replicate] <;> rfl] at hS
 refine wpList_nil ?_
 refine hK1 _ _ ?_
 clear hK1
 refine wp_seq_k ?_; intro K2 hK2
 refine wp_block ?_
 refine wp_seq_k ?_; intro K3 hK3
 refine reg hF hS (sq rfl (q_ld_blk1 ty4 1 rfl rfl rfl rfl) <|
   sq rfl (q_not rfl) <|
   sq rfl (q_assign rfl) <|
   sq_end) ?_
 clear hF hS; intro a w hF hS
 refine hK3 _ _ ?_
 clear hK3
 refine wp_if hF rfl (fun hc1 => ?_) (fun hc1 => ?_)
 ·have hen : en = false := by simpa using hc1
  subst hen
  refine wp_seq_k ?_; intro K4 hK4
  refine regl ?_
  refine wpl_sq hF hS (sq rfl (q_build rfl (run_build_arr ty29 ty5 rfl)) <|
    sq_end) ?_
  clear hF hS; intro a w hF hS
  refine wpl_ef hF hS rfl (ef_storeW ty29 0 rfl rfl rfl rfl bQ oQ bQ) ?_
  clear hF hS; rintro _ _ _ a w ⟨rfl, rfl, rfl⟩ hF hS
  replace hS : St _ (_) (_ :: _ :: _ :: _ :: _ :: _ :: _) _ := hS
  refine wpList_nil ?_
  refine hK4 _ _ ?_
  clear hK4
  refine wp_ret ?_
  replace hS := hS.perm (.swap _ _ _)
  replace hS := hS.perm (.cons _ (.swap _ _ _))
  replace hS := hS.perm (.cons _ (.cons _ (.swap _ _ _)))
  replace hS := hS.perm (.cons _ (.cons _ (.cons _ (.swap _ _ _))))
  replace hS := hS.perm (.cons _ (.cons _ (.cons _ (.cons _ (.swap _ _ _)))))
  exact fn_retx (rs := [.cell 9 29]) rfl hF hS (vs := [_]) ⟨⟨_, _, _, _, _, _, _, rfl, List.mem_of_getElem? (i := 5) rfl, ty29, .inl ⟨rfl, bQ, rfl⟩⟩, trivial⟩ [] [_, _, _, _, _] sQ (sQ.n.k.k.k.k.k) (ug_of (σ := (Mk.zD, sd, false)) ⟨_, rfl, rfl, hsd, rfl⟩ Mk.ug_no)
 ·have hen : en = true := by simpa using hc1
  subst hen
  refine wp_seq_k ?_; intro K5 hK5
  refine regl ?_
  refine wpl_sq hF hS (sq rfl (q_move rfl) <|
    sq rfl (q_fieldAddr ty50 rfl rfl (s' := 0) kQ) <|
    sq rfl (q_ld_blk1 ty3 2 rfl rfl rfl rfl) <|
    sq rfl (q_lei rfl rfl) <|
    sq rfl (q_move rfl) <|
    sq_end) ?_
  clear hF hS; intro a w hF hS
  refine wpl_or 4 22 3 hF hS rfl rfl rfl rfl rfl (fun hg => have hg := (by first | exact of_decide_eq_false hg | exact hg); sq_go 22 rfl rfl rfl (q_move rfl) <|
    sq_go 22 rfl rfl rfl (q_ld_blk1 ty3 3 rfl rfl rfl rfl) <|
    sq_go 22 rfl rfl rfl (q_gei rfl rfl) <|
    sq_end) rfl rfl ?_
  clear hF hS; intro a w hF hS
  refine wpl_sq hF hS (sq rfl (q_assign rfl) <|
    sq_end) ?_
  clear hF hS; intro a w hF hS
  refine wpList_nil ?_
  refine hK5 _ _ ?_
  clear hK5
  refine wp_if hF rfl (fun hc2 => ?_) (fun hc2 => ?_)
  ·(try simp only [Bool.or_eq_true, Bool.and_eq_true, Bool.or_eq_false_iff, Bool.and_eq_false_iff, decide_eq_true_eq, decide_eq_false_iff_not, Bool.not_eq_true', Bool.not_eq_false'] at hc2)
   have ho : p0 + n ≤ first ∨ first + ls.length ≤ p0 := by omega
   refine wp_seq_k ?_; intro K6 hK6
   refine wp_seq_k ?_; intro K7 hK7
   refine regl ?_
   refine wpl_sq hF hS (sq rfl (q_ld_blk1 ty48 4 rfl rfl rfl rfl) <|
     sq rfl (q_len_sl ty48 hsd rfl) <|
     sq rfl (q_gti rfl rfl) <|
     sq_end) ?_
   clear hF hS; intro a w hF hS
   refine wpl_ef hF hS rfl (ef_store1 ty4 1 rfl rfl rfl rfl (by simp)) ?_
   clear hF hS; rintro _ _ _ a w ⟨rfl, rfl, rfl⟩ hF hS
   (try simp only [List.set_cons_zero, List.set_cons_succ] at hS)
   replace hS : St _ (_) (_ :: _ :: _ :: _ :: _ :: _ :: _) _ := hS
   refine wpList_nil ?_
   refine hK7 _ _ ?_
   clear hK7
   refine wp_seq_k ?_; intro K8 hK8
   refine reg hF hS (sq rfl (q_ld_blk1 ty4 1 rfl rfl rfl rfl) <|
     sq rfl (q_not rfl) <|
     sq_end) ?_
   clear hF hS; intro a w hF hS
   refine hK8 _ _ ?_
   clear hK8
   refine wp_ifn hF rfl (fun hc3 => ?_) (fun hc3 => ?_)
   ·have hs0 : sd = [] := by
     have h9 : sd.length = 0 := by simpa using hc3
     exact List.length_eq_zero_iff.1 h9
    subst hs0
    refine wp_seq_k ?_; intro K9 hK9
    refine regl ?_
    refine wpl_sq hF hS (sq rfl (q_build rfl (run_build_arr ty29 ty5 rfl)) <|
      sq_end) ?_
    clear hF hS; intro a w hF hS
    refine wpl_ef hF hS rfl (ef_storeW ty29 0 rfl rfl rfl rfl bQ oQ bQ) ?_
    clear hF hS; rintro _ _ _ a w ⟨rfl, rfl, rfl⟩ hF hS
    replace hS : St _ (_) (_ :: _ :: _ :: _ :: _ :: _ :: _) _ := hS
    refine wpList_nil ?_
    refine hK9 _ _ ?_
    clear hK9
    refine wp_ret ?_
    replace hS := hS.perm (.swap _ _ _)
    replace hS := hS.perm (.cons _ (.swap _ _ _))
    replace hS := hS.perm (.cons _ (.cons _ (.swap _ _ _)))
    replace hS := hS.perm (.cons _ (.cons _ (.cons _ (.swap _ _ _))))
    replace hS := hS.perm (.cons _ (.cons _ (.cons _ (.cons _ (.swap _ _ _)))))
    exact fn_retx (rs := [.cell 9 29]) rfl hF hS (vs := [_]) ⟨⟨_, _, _, _, _, _, _, rfl, List.mem_of_getElem? (i := 5) rfl, ty29, .inl ⟨rfl, bQ, rfl⟩⟩, trivial⟩ [] [_, _, _, _, _] sQ (sQ.n.k.k.k.k.k) (ug_of (σ := (Mk.zD, [], false)) ⟨_, rfl, rfl, hsd, by simp⟩ (Mk.ug_nil ho))
   ·obtain ⟨d0, t0, rfl⟩ : ∃ d0 t0, sd = d0 :: t0 := by
     cases sd with
     | nil => simp at hc3
     | cons d0 t0 => exact ⟨_, _, rfl⟩
    have hd16 := h16 d0 (List.mem_cons_self ..)
    have hd17 : ((d0 :: t0).getD (0 : Int).toNat []).length = 16 := hd16
    have hsl2 : 1 ≤ (d0 :: t0).length := by rw [List.length_cons]; omega
    refine wp_skip ?_
    refine hK6 _ _ ?_
    clear hK6
    refine wp_seq_k ?_; intro K10 hK10
    refine regl ?_
    refine wpl_sq hF hS (sq rfl (q_ld_blk1 ty48 4 rfl rfl rfl rfl) <|
      sq rfl (q_idx_sl ty48 ty29 hsd rfl rfl (by omega)) <|
      sq rfl (q_ld_AB ty29 hsd zin0 rfl rfl (by decide) (by omega)) <|
      sq_end) ?_
    clear hF hS; intro a w hF hS
    refine wpl_ef hF hS rfl (ef_allocA ty29) ?_
    clear hF hS; rintro _ _ _ a w ⟨b2, rfl, rfl, rfl⟩ hF hS
    rw [show List.replicate 16 (Value.int .u8 0) = (List.replicate 16 (0 : UInt8)).map vb from by rw [List.map_replicate] <;> rfl] at hS
    refine wpl_ef hF hS rfl (ef_storeW ty29 0 rfl rfl rfl rfl bQ oQ bQ) ?_
    clear hF hS; rintro _ _ _ a w ⟨rfl, rfl, rfl⟩ hF hS
    replace hS : St _ (_) (_ :: _ :: _ :: _ :: _ :: _ :: _ :: _) _ := hS
    refine wpList_nil ?_
    refine hK10 _ _ ?_
    clear hK10
    refine wp_seq_k ?_; intro K11 hK11
    refine regl ?_
    refine wpl_sq hF hS (sq rfl (q_ld_blk1 ty48 5 rfl rfl rfl rfl) <|
      sq rfl (q_slsl_lo ty48 ty29 hsd rfl rfl (by omega)) <|
      sq_end) ?_
    clear hF hS; intro a w hF hS
    refine wpl_ef hF hS rfl (ef_store1 ty48 5 rfl rfl rfl (sl_one' (Sl.cut hsd (by omega))) (by simp)) ?_
    clear hF hS; rintro _ _ _ a w ⟨rfl, rfl, rfl⟩ hF hS
    (try simp only [List.set_cons_zero, List.set_cons_succ] at hS)
    replace hS : St _ (_) (_ :: _ :: _ :: _ :: _ :: _ :: _ :: _) _ := hS
    refine wpList_nil ?_
    refine hK11 _ _ ?_
    clear hK11
    refine wp_seq_k ?_; intro K12 hK12
    refine regl ?_
    refine wpl_sq hF hS (sq rfl (q_ld_blkW ty29 0 rfl rfl bQ rfl) <|
      sq_end) ?_
    clear hF hS; intro a w hF hS
    refine wpl_ef hF hS rfl (ef_storeW ty29 1 rfl rfl rfl rfl bQ oQ bQ) ?_
    clear hF hS; rintro _ _ _ a w ⟨rfl, rfl, rfl⟩ hF hS
    replace hS : St _ (_) (_ :: _ :: _ :: _ :: _ :: _ :: _ :: _) _ := hS
    refine wpList_nil ?_
    refine hK12 _ _ ?_
    clear hK12
    refine wp_ret ?_
    replace hS := hS.perm (.cons _ (.swap _ _ _))
    replace hS := hS.perm (.swap _ _ _)
    replace hS := hS.perm (.cons _ (.cons _ (.swap _ _ _)))
    replace hS := hS.perm (.cons _ (.swap _ _ _))
    replace hS := hS.perm (.cons _ (.cons _ (.cons _ (.swap _ _ _))))
    replace hS := hS.perm (.cons _ (.cons _ (.swap _ _ _)))
    replace hS := hS.perm (.cons _ (.cons _ (.cons _ (.cons _ (.swap _ _ _)))))
    replace hS := hS.perm (.cons _ (.cons _ (.cons _ (.swap _ _ _))))
    replace hS := hS.perm (.cons _ (.cons _ (.cons _ (.cons _ (.cons _ (.swap _ _ _))))))
    replace hS := hS.perm (.cons _ (.cons _ (.cons _ (.cons _ (.swap _ _ _)))))
    exact fn_retx (rs := [.cell 9 29]) rfl hF hS (vs := [_]) ⟨⟨_, _, _, _, _, _, _, rfl, List.mem_of_getElem? (i := 6) rfl, ty29, .inl ⟨rfl, bQ, rfl⟩⟩, trivial⟩ [] [_, _, _, _, _] sQ (sQ.n.n.k.k.k.k.k) (ug_of (σ := (d0, t0, true)) ⟨_, rfl, rfl, by have h9 := Sl.cut hsd (lo := 1) (hi := (d0 :: t0).length) ⟨hsl2, Nat.le_refl _⟩; rw [List.take_length] at h9; exact h9, by simp⟩ (Mk.ug_side ho))
  ·(try simp only [Bool.or_eq_true, Bool.and_eq_true, Bool.or_eq_false_iff, Bool.and_eq_false_iff, decide_eq_true_eq, decide_eq_false_iff_not, Bool.not_eq_true', Bool.not_eq_false'] at hc2)
   have ho : ¬ (p0 + n ≤ first ∨ first + ls.length ≤ p0) := by omega
   refine wp_seq_k ?_; intro K13 hK13
   refine reg hF hS (sq rfl (q_move rfl) <|
     sq rfl (q_move rfl) <|
     sq rfl (q_subi rfl rfl (by omega)) <|
     sq rfl (q_eqi rfl rfl) <|
     sq rfl (q_assign rfl) <|
     sq_end) ?_
   clear hF hS; intro a w hF hS
   refine hK13 _ _ ?_
   clear hK13
   refine wp_ifd hF rfl (fun hc4 => ?_) (fun hc4 => ?_)
   ·have hn3 : n = 1 := by omega
    have hle : (lo - (first : Int)).toNat = p0 - first := by omega
    have hxa := hx (ls.getD (lo - first).toNat kv0) (Mk.getD_in (by omega))
    have hd16 := Mk.leafD_16 (ls.getD (lo - first).toNat kv0)
    refine wp_seq_k ?_; intro K14 hK14
    refine regl ?_
    refine wpl_sq hF hS (sq rfl (q_fieldAddr ty50 rfl rfl (s' := 0) kQ) <|
      sq rfl (q_ld_blk1 ty33 2 rfl rfl rfl rfl) <|
      sq rfl (q_move rfl) <|
      sq rfl (q_fieldAddr ty50 rfl rfl (s' := 0) kQ) <|
      sq rfl (q_ld_blk1 ty3 2 rfl rfl rfl rfl) <|
      sq rfl (q_subi rfl rfl (by omega)) <|
      sq rfl (q_idx_sl ty33 ty41 hb rfl rfl (by omega)) <|
      sq rfl (q_ld_F ty41 hb zin0 rfl rfl (by omega)) <|
      sq rfl (q_call fn80 rfl (fun w hS => leaf_ct (ls.getD (lo - first).toNat kv0) hxa w (hS.ext _ _ hg1)) (fun _ _ _ h => h)) <|
      sq_end) ?_
    clear hF hS; intro a w hF hS
    refine wpl_ef hF hS rfl (ef_storeW ty29 0 rfl rfl rfl rfl bQ oQ bQ) ?_
    clear hF hS; rintro _ _ _ a w ⟨rfl, rfl, rfl⟩ hF hS
    replace hS : St _ (_) (_ :: _ :: _ :: _ :: _ :: _ :: _) _ := hS
    refine wpList_nil ?_
    refine hK14 _ _ ?_
    clear hK14
    refine wp_ret ?_
    replace hS := hS.perm (.swap _ _ _)
    replace hS := hS.perm (.cons _ (.swap _ _ _))
    replace hS := hS.perm (.cons _ (.cons _ (.swap _ _ _)))
    replace hS := hS.perm (.cons _ (.cons _ (.cons _ (.swap _ _ _))))
    replace hS := hS.perm (.cons _ (.cons _ (.cons _ (.cons _ (.swap _ _ _)))))
    exact fn_retx (rs := [.cell 9 29]) rfl hF hS (vs := [_]) ⟨⟨_, _, _, _, _, _, _, rfl, List.mem_of_getElem? (i := 5) rfl, ty29, .inl ⟨rfl, bQ, rfl⟩⟩, trivial⟩ [] [_, _, _, _, _] sQ (sQ.n.k.k.k.k.k) (ug_of (σ := (Mk.leafD (ls.getD (lo - first).toNat kv0), sd, true)) ⟨_, rfl, rfl, hsd, rfl⟩ (by rw [Mk.ug_leaf ho hn3, ← hle]))
   ·have hn2 : 2 ≤ n := by omega
    have hhp := Mk.half_pos n
    have hhl := Mk.half_lt hn2
    obtain ⟨hr16, hrs, hrl⟩ := Mk.ug_16 (first := first) (lv := ls) f (Mk.half n) p0 sd true h16
    refine wp_skip ?_
    refine hK2 _ _ ?_
    clear hK2
    refine wp_seq_k ?_; intro K15 hK15
    refine reg hF hS (sq rfl (q_move rfl) <|
      sq rfl (q_move rfl) <|
      sq rfl (q_call fn81 rfl (fun w hS => middle_ct _ _ n (by omega) (by omega) (by omega) (by omega) w ) (fun _ _ _ h => h)) <|
      sq rfl (q_assign rfl) <|
      sq_end) ?_
    clear hF hS; intro a w hF hS
    obtain ⟨r1, hr1⟩ : ∃ r, r = (Mk.ug first ls f (Mk.half n) p0 sd true) := ⟨_, rfl⟩
    rw [← hr1] at hr16 hrs hrl
    obtain ⟨ht16, hts, htl⟩ := Mk.ug_16 (first := first) (lv := ls) f (n - Mk.half n) (p0 + Mk.half n) r1.2.1 r1.2.2 hrs
    obtain ⟨r2, hr2⟩ : ∃ r, r = Mk.ug first ls f (n - Mk.half n) (p0 + Mk.half n) r1.2.1 r1.2.2 := ⟨_, rfl⟩
    rw [← hr2] at ht16 hts htl
    have hnd := Mk.nodeD_16 r1.1 r2.1
    refine hK15 _ _ ?_
    clear hK15
    refine wp_seq_k ?_; intro K16 hK16
    refine regl ?_
    refine wpl_sq hF hS (sq rfl (q_ld_blk1 ty129 5 rfl rfl rfl rfl) <|
      sq rfl (q_move rfl) <|
      sq rfl (q_move rfl) <|
      sq_end) ?_
    clear hF hS; intro a w hF hS
    replace hS := hS.perm (.swap _ _ _)
    replace hS := hS.perm (.cons _ (.swap _ _ _))
    replace hS := hS.perm (.cons _ (.cons _ (.swap _ _ _)))
    replace hS := hS.perm (.cons _ (.cons _ (.cons _ (.swap _ _ _))))
    replace hS := hS.perm (.cons _ (.cons _ (.cons _ (.cons _ (.swap _ _ _)))))
    replace hS : St _ (_) (_ :: _ :: _ :: _ :: _ :: _ :: _) _ := hS
    refine wpl_ef hF hS rfl (ef_callvxN 5 fn93 rfl rfl (by exact (ih _ _ p0 (Mk.half n) _ sd true  (by omega) (by omega) (by omega) (by omega) (by omega) h16 hsd ))) ?_
    clear hF hS; rintro _ _ _ a w ⟨_, _, rfl, rfl, ⟨sv1, rfl, rfl, hsd1, rfl⟩⟩ hF hS
    rw [← hr1] at hF hS hsd1
    replace hS : St _ (_) (_ :: _ :: _ :: _ :: _ :: _ :: _) _ := hS
    refine wpl_ef hF hS rfl (ef_allocA ty29) ?_
    clear hF hS; rintro _ _ _ a w ⟨b4, rfl, rfl, rfl⟩ hF hS
    rw [show List.replicate 16 (Value.int .u8 0) = (List.replicate 16 (0 : UInt8)).map vb from by rw [List.map_replicate] <;> rfl] at hS
    refine wpl_ef hF hS rfl (ef_storeW ty29 0 rfl rfl rfl rfl bQ oQ bQ) ?_
    clear hF hS; rintro _ _ _ a w ⟨rfl, rfl, rfl⟩ hF hS
    replace hS : St _ (_) (_ :: _ :: _ :: _ :: _ :: _ :: _ :: _) _ := hS
    refine wpList_nil ?_
    refine hK16 _ _ ?_
    clear hK16
    refine wp_seq_k ?_; intro K17 hK17
    revert hS; revert hF; apply regJ (J := J1 (α0 := Value) 66 _ _ _ _ _) #[false, false, false, false, false, false, false] 7 mixed rfl rfl
    ·intro w hF hS
     refine goW_take 0 _ rfl kQ rfl hF (hS.keep sQ (sQ.n.n.n.n.n.n.k)) (q_ld_blkW ty29 0 rfl rfl bQ rfl) ?_
     clear hF; intro a hF
     refine goW_take 1 _ rfl kQ rfl hF (hS.keep sQ (sQ.n.k.n.n.n.n.n)) (q_ld_blk1 ty129 0 rfl rfl rfl rfl) ?_
     clear hF; intro a hF
     refine goW_take 2 _ rfl kQ rfl hF (hS.keep sQ (sQ.n.n.n.n.n.n.n)) (q_move rfl) ?_
     clear hF; intro a hF
     refine goW_take 3 _ rfl kQ rfl hF (hS.keep sQ (sQ.n.n.n.n.n.n.n)) (q_move rfl) ?_
     clear hF; intro a hF
     refine goW_fork [4] kQ rfl ⟨?_, trivial⟩
     replace hS := hS.perm (.swap _ _ _)
     replace hS := hS.perm (.cons _ (.swap _ _ _))
     replace hS := hS.perm (.cons _ (.cons _ (.swap _ _ _)))
     replace hS := hS.perm (.cons _ (.cons _ (.cons _ (.swap _ _ _))))
     replace hS := hS.perm (.cons _ (.cons _ (.cons _ (.cons _ (.swap _ _ _)))))
     replace hS : St _ (_) (_ :: _ :: _ :: _ :: _ :: _ :: _ :: _) _ := hS
     refine stepW_ef _ rfl rfl hF hS rfl (ef_callvxN 5 fn93 rfl rfl (by exact (ih _ _ (p0 + Mk.half n) (n - Mk.half n) _ r1.2.1 r1.2.2  (by omega) (by omega) (by omega) (by omega) (by omega) hrs hsd1 ))) ?_
     clear hF hS; rintro _ _ _ a w ⟨_, _, rfl, rfl, ⟨sv2, rfl, rfl, hsd2, rfl⟩⟩ hF hS
     rw [← hr2] at hF hS hsd2
     replace hS : St _ (_) (_ :: _ :: _ :: _ :: _ :: _ :: _ :: _) _ := hS
     refine ⟨⟨iQ, iQ, iQ, .inr (hS.keep sQ (sQ.n.k.n.n.n.n.n)), trivial⟩, ?_⟩
     refine gQ 5 rfl rfl hF hS rfl (ef_qt (q_call fn82 rfl (fun w hS => node_ct _ _ (by first | with_reducible assumption | omega) (by first | with_reducible assumption | omega) w (hS.ext _ _ hg1)) (fun _ _ _ h => h))) ?_
     clear hF hS; rintro _ _ _ a w ⟨rfl, rfl, rfl⟩ hF hS
     refine ⟨⟨iQ, iQ, iQ, iQ, trivial⟩, ?_⟩
     refine gQ 6 rfl rfl hF hS rfl (ef_storeW ty29 6 rfl rfl rfl rfl bQ oQ bQ) ?_
     clear hF hS; rintro _ _ _ a w ⟨rfl, rfl, rfl⟩ hF hS
     replace hS : St _ (_) (_ :: _ :: _ :: _ :: _ :: _ :: _ :: _) _ := hS
     refine ⟨⟨iQ, iQ, iQ, iQ, trivial⟩, ?_⟩
     exact goW_done kQ (j1_mk sv2 ((And.intro hsd2 trivial)) (hF.sub (L' := [(9, _)]) ⟨rfl, trivial⟩) hS)
    rintro a w ⟨sv2, ⟨hsd2, -⟩, hF, hS⟩
    (try dsimp only at hF); (try dsimp only at hS)
    refine hK17 _ _ ?_
    clear hK17
    refine wp_ret ?_
    exact fn_retx (rs := [.cell 9 29]) rfl hF hS (vs := [_]) ⟨⟨_, _, _, _, _, _, _, rfl, List.mem_of_getElem? (i := 6) rfl, ty29, .inl ⟨rfl, bQ, rfl⟩⟩, trivial⟩ [] [_, _, _, _, _] sQ (sQ.n.n.k.k.k.k.k) (ug_of (σ := (Mk.nodeD r1.1 r2.1, r2.2.1, r2.2.2)) ⟨_, rfl, rfl, hsd2, rfl⟩ (Mk.ug_node ho hn2 hr1 hr2))

theorem under_all (eE eP eN eS eO : Nat) (c1 c3 lv : Value) (ls : List Mk.Lf) (first : Nat) (h1 : c1.oneCell' = true) (h3 : c3.oneCell' = true) (hl : ls.length < 1048576) (hx : ∀ x ∈ ls, x.1.length < 1048576 ∧ x.2.length < 1048576) (hf9 : first ≤ 1048576) (fz1 : Nat × Nat) (bt1 : TypeId) (w0 : World) (zsr : List PH) (hb : Sl encF (ph w0) lv ls) (hg1 : w0.heap[2]? = some (.cells (Sha.kc.map vw).toArray bt1 fz1)) : ∀ (f : Nat) (lo hi : Int) (p0 n : Nat) (sv : Value) (sd : List Mk.Dg) (en : Bool) (hp : lo = p0) (hh : hi = p0 + n) (hn1 : 1 ≤ n) (hnf : n ≤ f) (hp9 : p0 + n ≤ 1048576) (h16 : ∀ d ∈ sd, d.length = 16) (hsd : Sl (encA 16) (ph w0) sv sd), Cx Tryd.prog 93 [vi lo, vi hi, .pointer (some ⟨eE, 0, none⟩), .pointer (some ⟨eP, 0, none⟩), .pointer (some ⟨eN, 0, none⟩), .pointer (some ⟨eS, 0, none⟩), .pointer (some ⟨eO, 0, none⟩)] w0 zsr [.blk eE 4 [vt (en)], .blk eP 50 [vi (first : Int), c1, lv, c3], .blk eN 3 [vi ((first + ls.length : Nat) : Int)], .blk eS 48 [sv], .blk eO 129 [.func (.func 93) (List.nil : List Value).toArray [Value.pointer (some ⟨eE, 0, none⟩), Value.pointer (some ⟨eP, 0, none⟩), Value.pointer (some ⟨eN, 0, none⟩), Value.pointer (some ⟨eS, 0, none⟩), Value.pointer (some ⟨eO, 0, none⟩)].toArray]] (UgR eE eP eN eS eO c1 c3 lv ls first w0 (Mk.ug first ls f n p0 sd en)) := by
 intro f
 induction f with
 | zero => intro lo hi p0 n sv sd en hp hh hn1 hnf; omega
 | succ f ih => exact fun lo hi p0 n sv sd en hp hh hn1 hnf hp9 h16 hsd => under_step eE eP eN eS eO c1 c3 lv ls first h1 h3 hl hx hf9 fz1 bt1 w0 zsr hb hg1 f ih lo hi p0 n sv sd en hp hh hn1 hnf hp9 h16 hsd

set_option maxRecDepth 4000 in
set_option maxHeartbeats 2000000 in
theorem under_ct (q : Mk.Pf) (lv sv : Value) (rd : List UInt8) (hr : rd.length = 16) (w : World) (hb : Sl encF (ph w) lv q.lv) (hsd : Sl (encA 16) (ph w) sv q.sd) {fz1 : Nat × Nat} {bt1 : TypeId} (hg1 : w.heap[2]? = some (.cells (Sha.kc.map vw).toArray bt1 fz1)) : Ct Tryd.prog 61 [.agg [vi q.fst, vi q.sz, lv, sv].toArray, .agg ((rd).map vb).toArray] w (fun r _ _ => r = .bool (Mk.undB q rd)) := by
 refine fn_enter Tryd.func61 rfl Tryd.ntmps61 (Nat.le_of_ble_eq_true rfl) fun a hF hS => ?_
 obtain ⟨qf, qs, ql, qd⟩ := q
 dsimp only at hF hb hsd
 have hbl := hb.1
 have hdl : qd.length ≤ 140737488355328 := hsd.1
 have hs16 : ∀ d ∈ qd, d.length = 16 := fun d hd => by obtain ⟨i, hi, rfl⟩ := List.getElem_of_mem hd; exact (hsd.rep (i := i) (x := qd[i]) (by simp [hi])).1
 have hr0 : (Mk.rootD 0 Mk.zD).length = 16 := Mk.rootD_16 _ _
 refine wp_seq_k ?_; intro K1 hK1
 refine regl ?_
 refine wpl_ef hF hS rfl (ef_boxA rfl) ?_
 clear hF hS; rintro _ _ _ a w ⟨b1, rfl, rfl, rfl⟩ hF hS
 refine wpl_ef hF hS rfl (ef_boxA rfl) ?_
 clear hF hS; rintro _ _ _ a w ⟨b2, rfl, rfl, rfl⟩ hF hS
 refine wpl_sq hF hS (sq rfl (q_assign rfl) <|
   sq_end) ?_
 clear hF hS; intro a w hF hS
 refine wpList_nil ?_
 refine hK1 _ _ ?_
 clear hK1
 refine wp_seq_k ?_; intro K2 hK2
 refine regl ?_
 refine wpl_sq hF hS (sq rfl (q_fieldAddr ty50 rfl rfl (s' := 0) kQ) <|
   sq rfl (q_ld_blk1 ty3 1 rfl rfl rfl rfl) <|
   sq rfl (q_fieldAddr ty50 rfl rfl (s' := 0) kQ) <|
   sq rfl (q_ld_blk1 ty33 1 rfl rfl rfl rfl) <|
   sq rfl (q_len_sl ty33 hb rfl) <|
   sq rfl (q_addiW rfl rfl) <|
   sq_end) ?_
 clear hF hS; intro a w hF hS
 refine wpl_ef hF hS rfl (ef_alloc1 ty3 (by rfl)) ?_
 clear hF hS; rintro _ _ _ a w ⟨b3, rfl, rfl, rfl⟩ hF hS
 refine wpl_ef hF hS rfl (ef_store1 ty3 0 rfl rfl rfl rfl (by simp)) ?_
 clear hF hS; rintro _ _ _ a w ⟨rfl, rfl, rfl⟩ hF hS
 (try simp only [List.set_cons_zero, List.set_cons_succ] at hS)
 replace hS : St _ [] [_, _, _] _ := hS
 refine wpList_nil ?_
 refine hK2 _ _ ?_
 clear hK2
 refine wp_seq_k ?_; intro K3 hK3
 refine wp_seq_k ?_; intro K4 hK4
 refine regl ?_
 refine wpl_sq hF hS (sq rfl (q_fieldAddr ty50 rfl rfl (s' := 0) kQ) <|
   sq rfl (q_ld_blk1 ty3 2 rfl rfl rfl rfl) <|
   sq rfl (q_lti rfl rfl) <|
   sq rfl (q_move rfl) <|
   sq_end) ?_
 clear hF hS; intro a w hF hS
 refine wpl_or 3 19 3 hF hS rfl rfl rfl rfl rfl (fun hg => have hg := (by first | exact of_decide_eq_false hg | exact hg); sq_go 19 rfl rfl rfl (q_fieldAddr ty50 rfl rfl (s' := 0) kQ) <|
   sq_go 19 rfl rfl rfl (q_ld_blk1 ty3 2 rfl rfl rfl rfl) <|
   sq_go 19 rfl rfl rfl (q_gti rfl rfl) <|
   sq_end) rfl rfl ?_
 clear hF hS; intro a w hF hS
 refine wpl_sq hF hS (sq rfl (q_move rfl) <|
   sq_end) ?_
 clear hF hS; intro a w hF hS
 refine wpl_or 8 24 3 hF hS rfl rfl rfl rfl rfl (fun hg => have hg := hg; sq_go 24 rfl rfl rfl (q_fieldAddr ty50 rfl rfl (s' := 0) kQ) <|
   sq_go 24 rfl rfl rfl (q_ld_blk1 ty3 2 rfl rfl rfl rfl) <|
   sq_go 24 rfl rfl rfl (q_lti rfl rfl) <|
   sq_end) rfl rfl ?_
 clear hF hS; intro a w hF hS
 refine wpl_sq hF hS (sq rfl (q_move rfl) <|
   sq_end) ?_
 clear hF hS; intro a w hF hS
 refine wpl_or 13 29 5 hF hS rfl rfl rfl rfl rfl (fun hg => have hg := hg; sq_go 29 rfl rfl rfl (q_fieldAddr ty50 rfl rfl (s' := 0) kQ) <|
   sq_go 29 rfl rfl rfl (q_ld_blk1 ty3 2 rfl rfl rfl rfl) <|
   sq_go 29 rfl rfl rfl (q_fieldAddr ty50 rfl rfl (s' := 0) kQ) <|
   sq_go 29 rfl rfl rfl (q_ld_blk1 ty3 2 rfl rfl rfl rfl) <|
   sq_go 29 rfl rfl rfl (q_gti rfl rfl) <|
   sq_end) rfl rfl ?_
 clear hF hS; intro a w hF hS
 refine wpl_sq hF hS (sq rfl (q_move rfl) <|
   sq_end) ?_
 clear hF hS; intro a w hF hS
 refine wpl_or 20 36 4 hF hS rfl rfl rfl rfl rfl (fun hg => have hg := hg; sq_go 36 rfl rfl rfl (q_ld_blk1 ty3 0 rfl rfl rfl rfl) <|
   sq_go 36 rfl rfl rfl (q_fieldAddr ty50 rfl rfl (s' := 0) kQ) <|
   sq_go 36 rfl rfl rfl (q_ld_blk1 ty3 2 rfl rfl rfl rfl) <|
   sq_go 36 rfl rfl rfl (q_gti rfl rfl) <|
   sq_end) rfl rfl ?_
 clear hF hS; intro a w hF hS
 refine wpl_sq hF hS (sq rfl (q_move rfl) <|
   sq_end) ?_
 clear hF hS; intro a w hF hS
 refine wpl_or 26 42 4 hF hS rfl rfl rfl rfl rfl (fun hg => have hg := hg; sq_go 42 rfl rfl rfl (q_fieldAddr ty50 rfl rfl (s' := 0) kQ) <|
   sq_go 42 rfl rfl rfl (q_ld_blk1 ty33 2 rfl rfl rfl rfl) <|
   sq_go 42 rfl rfl rfl (q_call fn15 rfl (fun w hS => valid_ct _ _ w (Sl.mono (hS.le zin0) hb)) (fun _ _ _ h => h)) <|
   sq_go 42 rfl rfl rfl (q_nei rfl rfl) <|
   sq_end) rfl rfl ?_
 clear hF hS; intro a w hF hS
 refine wpList_nil ?_
 refine hK4 _ _ ?_
 clear hK4
 refine wp_if hF rfl (fun hc1 => ?_) (fun hc1 => ?_)
 ·(try simp only [Bool.or_eq_true, Bool.and_eq_true, Bool.or_eq_false_iff, Bool.and_eq_false_iff, decide_eq_true_eq, decide_eq_false_iff_not, Bool.not_eq_true', Bool.not_eq_false'] at hc1)
  have hok : ¬ Mk.okP ⟨qf, qs, ql, qd⟩ := fun h9 => by
   obtain ⟨g1, g2, g3, g4, g5, g6⟩ := h9
   dsimp only at g1 g2 g3 g4 g5 g6
   have hw := wr_in (n := qf + ql.length) (by omega)
   rw [hw] at hc1
   omega
  refine wp_seq_k ?_; intro K5 hK5
  refine reg hF hS (sq rfl (q_assign rfl) <|
    sq_end) ?_
  clear hF hS; intro a w hF hS
  refine hK5 _ _ ?_
  clear hK5
  refine wp_ret ?_
  exact fn_ret (rs := [.tmp 4]) rfl hF hS (vs := [_]) ⟨rfl, trivial⟩ zQ zQ (by rw [Mk.und_no hok])
 ·(try simp only [Bool.or_eq_true, Bool.and_eq_true, Bool.or_eq_false_iff, Bool.and_eq_false_iff, decide_eq_true_eq, decide_eq_false_iff_not, Bool.not_eq_true', Bool.not_eq_false'] at hc1)
  obtain ⟨fn, rfl⟩ : ∃ fn : Nat, qf = fn := ⟨qf.toNat, by omega⟩
  obtain ⟨zn, rfl⟩ : ∃ zn : Nat, qs = zn := ⟨qs.toNat, by omega⟩
  have hw : wr ((fn : Int) + (ql.length : Int)) = ((fn + ql.length : Nat) : Int) := by rw [wr_in (by omega)]; rfl
  rw [hw] at hc1 hS
  have hok : Mk.okP ⟨fn, zn, ql, qd⟩ := ⟨by dsimp only; omega, by dsimp only; omega, by dsimp only; omega, by dsimp only; omega, by dsimp only; omega, by dsimp only; omega⟩
  have hva := Mk.vE_asc hok.2.2.2.2.2
  have hx9 : ∀ x ∈ ql, x.1.length < 1048576 ∧ x.2.length < 1048576 := fun x hx => by have := hva.2.2 x hx; omega
  have hl9 : ql.length < 1048576 := by have := hva.2.1; dsimp only at this; omega
  refine wp_skip ?_
  refine hK3 _ _ ?_
  clear hK3
  refine wp_seq_k ?_; intro K6 hK6
  refine wp_seq_k ?_; intro K7 hK7
  refine reg hF hS (sq rfl (q_fieldAddr ty50 rfl rfl (s' := 0) kQ) <|
    sq rfl (q_ld_blk1 ty3 2 rfl rfl rfl rfl) <|
    sq rfl (q_eqi rfl rfl) <|
    sq_end) ?_
  clear hF hS; intro a w hF hS
  refine hK7 _ _ ?_
  clear hK7
  refine wp_ifd hF rfl (fun hc2 => ?_) (fun hc2 => ?_)
  ·have hz0 : zn = 0 := by omega
   subst hz0
   refine wp_seq_k ?_; intro K8 hK8
   refine regq mixed kQ hS ?_
   refine wpq_seg hF (sq rfl (q_fieldAddr ty50 rfl rfl (s' := 0) kQ) <|
     sq rfl (q_ld_blk1 ty48 2 rfl rfl rfl rfl) <|
     sq rfl (q_len_sl ty48 hsd rfl) <|
     sq rfl (q_eqi rfl rfl) <|
     sq rfl (q_move rfl) <|
     sq_end) ?_
   clear hF; intro a hF
   refine wpq_and 4 55 4 hF rfl rfl rfl rfl rfl (fun hg => have hg := (by first | exact of_decide_eq_true hg | exact hg); sq_go 55 rfl rfl rfl (q_build rfl (run_build_arr ty29 ty5 rfl)) <|
     sq_go 55 rfl rfl rfl (q_call fn50 rfl (fun w hS => root_ct _ Mk.zD rfl (by omega) w (hS.ext _ _ hg1)) (fun _ _ _ h => h)) <|
     sq_go 55 rfl rfl rfl (q_ld_blkW ty29 1 rfl rfl bQ rfl) <|
     sq_go 55 rfl rfl rfl (q_eqAB ty29 ty5 kQ rfl rfl bQ bQ) <|
     sq_end) rfl rfl ?_
   clear hF; intro a hF
   refine wpq_seg hF (sq rfl (q_assign rfl) <|
     sq_end) ?_
   clear hF; intro a hF
   refine wpq_nil ?_
   clear hS; intro w hS
   refine hK8 _ _ ?_
   clear hK8
   refine wp_ret ?_
   exact fn_ret (rs := [.tmp 4]) rfl hF hS (vs := [_]) ⟨rfl, trivial⟩ zQ zQ (by rw [Mk.und_0 hok rfl]; exact congrArg Value.bool (congrArg (· && decide (Mk.rootD 0 Mk.zD = rd)) (decide_eq_decide.2 ⟨fun h9 => List.length_eq_zero_iff.1 (show qd.length = 0 by have h8 : ((qd.length : Nat) : Int) = 0 := h9; omega), fun h9 => by have h8 : qd = [] := h9; rw [h8]; rfl⟩)))
  ·have hz1 : 1 ≤ zn := by omega
   refine wp_skip ?_
   refine hK6 _ _ ?_
   clear hK6
   refine wp_seq_k ?_; intro K9 hK9
   refine wp_seq_k ?_; intro K10 hK10
   refine reg hF hS (sq rfl (q_fieldAddr ty50 rfl rfl (s' := 0) kQ) <|
     sq rfl (q_ld_blk1 ty33 2 rfl rfl rfl rfl) <|
     sq rfl (q_len_sl ty33 hb rfl) <|
     sq rfl (q_eqi rfl rfl) <|
     sq_end) ?_
   clear hF hS; intro a w hF hS
   refine hK10 _ _ ?_
   clear hK10
   refine wp_ifd hF rfl (fun hc3 => ?_) (fun hc3 => ?_)
   ·have hnl : ql = [] := List.length_eq_zero_iff.1 (by omega)
    refine wp_seq_k ?_; intro K11 hK11
    refine reg hF hS (sq rfl (q_assign rfl) <|
      sq_end) ?_
    clear hF hS; intro a w hF hS
    refine hK11 _ _ ?_
    clear hK11
    refine wp_ret ?_
    exact fn_ret (rs := [.tmp 4]) rfl hF hS (vs := [_]) ⟨rfl, trivial⟩ zQ zQ (by rw [Mk.und_nil (by dsimp only; omega) hnl])
   ·have hsg := Mk.ug_16 (first := fn) (lv := ql) zn zn 0 qd true hs16
    obtain ⟨σ, hσ⟩ : ∃ σ, σ = Mk.ug fn ql zn zn 0 qd true := ⟨_, rfl⟩
    rw [← hσ] at hsg
    obtain ⟨hg16, _, hgl⟩ := hsg
    have hrt := Mk.rootD_16 zn σ.1
    have hnl : ¬ ql = [] := fun h9 => by rw [h9] at hc3; simp at hc3
    refine wp_skip ?_
    refine hK9 _ _ ?_
    clear hK9
    refine wp_seq_k ?_; intro K12 hK12
    refine regl ?_
    refine wpl_sq hF hS (sq rfl (q_fieldAddr ty50 rfl rfl (s' := 0) kQ) <|
      sq rfl (q_ld_blk1 ty48 2 rfl rfl rfl rfl) <|
      sq_end) ?_
    clear hF hS; intro a w hF hS
    refine wpl_ef hF hS rfl (ef_alloc1 ty48 (by rfl)) ?_
    clear hF hS; rintro _ _ _ a w ⟨b4, rfl, rfl, rfl⟩ hF hS
    refine wpl_ef hF hS rfl (ef_alloc1 ty4 (by rfl)) ?_
    clear hF hS; rintro _ _ _ a w ⟨b5, rfl, rfl, rfl⟩ hF hS
    refine wpl_ef hF hS rfl (ef_store1 ty48 1 rfl rfl rfl (sl_one' hsd) (by simp)) ?_
    clear hF hS; rintro _ _ _ a w ⟨rfl, rfl, rfl⟩ hF hS
    (try simp only [List.set_cons_zero, List.set_cons_succ] at hS)
    replace hS : St _ [] [_, _, _, _, _] _ := hS
    refine wpl_ef hF hS rfl (ef_store1 ty4 0 rfl rfl rfl rfl (by simp)) ?_
    clear hF hS; rintro _ _ _ a w ⟨rfl, rfl, rfl⟩ hF hS
    (try simp only [List.set_cons_zero, List.set_cons_succ] at hS)
    replace hS : St _ [] [_, _, _, _, _] _ := hS
    refine wpList_nil ?_
    refine hK12 _ _ ?_
    clear hK12
    refine wp_seq_k ?_; intro K13 hK13
    refine regl ?_
    refine wpl_ef hF hS rfl (ef_alloc1 ty129 (by rfl)) ?_
    clear hF hS; rintro _ _ _ a w ⟨b6, rfl, rfl, rfl⟩ hF hS
    refine wpList_nil ?_
    refine hK13 _ _ ?_
    clear hK13
    refine wp_seq_k ?_; intro K14 hK14
    refine regl ?_
    refine wpl_sq hF hS (sq rfl (q_mkf rfl rfl) <|
      sq_end) ?_
    clear hF hS; intro a w hF hS
    refine wpl_ef hF hS rfl (ef_store1 ty129 0 rfl rfl rfl rfl (by simp)) ?_
    clear hF hS; rintro _ _ _ a w ⟨rfl, rfl, rfl⟩ hF hS
    (try simp only [List.set_cons_zero, List.set_cons_succ] at hS)
    replace hS : St _ [] [_, _, _, _, _, _] _ := hS
    refine wpList_nil ?_
    refine hK14 _ _ ?_
    clear hK14
    refine wp_seq_k ?_; intro K15 hK15
    refine regl ?_
    refine wpl_sq hF hS (sq rfl (q_ld_blk1 ty129 0 rfl rfl rfl rfl) <|
      sq rfl (q_fieldAddr ty50 rfl rfl (s' := 0) kQ) <|
      sq rfl (q_ld_blk1 ty3 5 rfl rfl rfl rfl) <|
      sq_end) ?_
    clear hF hS; intro a w hF hS
    replace hS := hS.perm (.swap _ _ _)
    replace hS := hS.perm (.cons _ (.cons _ (.cons _ (.cons _ (.swap _ _ _)))))
    replace hS := hS.perm (.cons _ (.cons _ (.cons _ (.swap _ _ _))))
    replace hS := hS.perm (.cons _ (.cons _ (.swap _ _ _)))
    replace hS := hS.perm (.cons _ (.swap _ _ _))
    replace hS := hS.perm (.cons _ (.cons _ (.cons _ (.swap _ _ _))))
    replace hS := hS.perm (.cons _ (.cons _ (.swap _ _ _)))
    replace hS := hS.perm (.cons _ (.cons _ (.cons _ (.swap _ _ _))))
    replace hS : St _ [] [_, _, _, _, _, _] _ := hS
    refine wpl_ef hF hS rfl (ef_callvxN 5 fn93 rfl rfl (by exact (under_all _ _ _ _ _ _ _ _ ql fn rfl (sl_one' hsd) hl9 hx9 (by omega) _ _ _ _ hb hg1 zn _ _ 0 zn _ qd true rfl (by omega) (by omega) (Nat.le_refl _) (by omega) hs16 hsd ))) ?_
    clear hF hS; rintro _ _ _ a w ⟨_, _, rfl, rfl, ⟨sv1, rfl, rfl, hsd1, rfl⟩⟩ hF hS
    rw [← hσ] at hF hS hsd1
    replace hS : St _ [] [_, _, _, _, _, _] _ := hS
    refine wpl_ef hF hS rfl (ef_allocA ty29) ?_
    clear hF hS; rintro _ _ _ a w ⟨b8, rfl, rfl, rfl⟩ hF hS
    rw [show List.replicate 16 (Value.int .u8 0) = (List.replicate 16 (0 : UInt8)).map vb from by rw [List.map_replicate] <;> rfl] at hS
    refine wpl_ef hF hS rfl (ef_storeW ty29 0 rfl rfl rfl rfl bQ oQ bQ) ?_
    clear hF hS; rintro _ _ _ a w ⟨rfl, rfl, rfl⟩ hF hS
    replace hS : St _ [] [_, _, _, _, _, _, _] _ := hS
    refine wpList_nil ?_
    refine hK15 _ _ ?_
    clear hK15
    refine wp_seq_k ?_; intro K16 hK16
    refine regq mixed kQ hS ?_
    refine wpq_seg hF (sq rfl (q_ld_blk1 ty4 1 rfl rfl rfl rfl) <|
      sq rfl (q_move rfl) <|
      sq_end) ?_
    clear hF; intro a hF
    refine wpq_and 1 73 3 hF rfl rfl rfl rfl rfl (fun hg => have hg := hg; sq_go 73 rfl rfl rfl (q_ld_blk1 ty48 4 rfl rfl rfl rfl) <|
      sq_go 73 rfl rfl rfl (q_len_sl ty48 hsd1 rfl) <|
      sq_go 73 rfl rfl rfl (q_eqi rfl rfl) <|
      sq_end) rfl rfl ?_
    clear hF; intro a hF
    refine wpq_seg hF (sq rfl (q_move rfl) <|
      sq_end) ?_
    clear hF; intro a hF
    refine wpq_and 6 78 6 hF rfl rfl rfl rfl rfl (fun hg => have hg := hg; sq_go 78 rfl rfl rfl (q_fieldAddr ty50 rfl rfl (s' := 0) kQ) <|
      sq_go 78 rfl rfl rfl (q_ld_blk1 ty3 2 rfl rfl rfl rfl) <|
      sq_go 78 rfl rfl rfl (q_ld_blkW ty29 0 rfl rfl bQ rfl) <|
      sq_go 78 rfl rfl rfl (q_call fn50 rfl (fun w hS => root_ct _ _ hg16 (by omega) w (hS.ext _ _ hg1)) (fun _ _ _ h => h)) <|
      sq_go 78 rfl rfl rfl (q_ld_blkW ty29 6 rfl rfl bQ rfl) <|
      sq_go 78 rfl rfl rfl (q_eqAB ty29 ty5 kQ rfl rfl bQ bQ) <|
      sq_end) rfl rfl ?_
    clear hF; intro a hF
    refine wpq_seg hF (sq rfl (q_assign rfl) <|
      sq_end) ?_
    clear hF; intro a hF
    refine wpq_nil ?_
    clear hS; intro w hS
    refine hK16 _ _ ?_
    clear hK16
    refine wp_ret ?_
    exact fn_ret (rs := [.tmp 4]) rfl hF hS (vs := [_]) ⟨rfl, trivial⟩ zQ zQ (by rw [Mk.und_n hok (by dsimp only; omega) hnl]; exact congrArg Value.bool (Mk.con_ug (q := ⟨fn, zn, ql, qd⟩) hz1 hσ))
end Go.Proofs.YtdojfnigffeblaaDoor
