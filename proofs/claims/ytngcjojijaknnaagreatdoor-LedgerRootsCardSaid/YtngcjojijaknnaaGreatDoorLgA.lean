/- A text of a proof over this seat: walks over the program's functions and the plain laws that they need. -/
import Derived.Test.YtngcjojijaknnaaGreatDoorFwB
import Derived.Test.YtngcjojijaknnaaGreatDoorFwC
import Derived.Test.YtngcjojijaknnaaGreatDoorFwD
import Derived.Test.YtngcjojijaknnaaGreatDoorGuA
import Derived.Test.YtngcjojijaknnaaGreatDoorShW
import Derived.Test.YtngcjojijaknnaaGreatDoorFwG
import Derived.Test.YtngcjojijaknnaaGreatDoorJnB
import Derived.Test.YtngcjojijaknnaaGreatDoorMkA
import Derived.Shelf.Spec.SlicesGrow
set_option linter.all false
section
namespace Lg
open Go Go.Fw
structure Fct where
 tk : Int
 ky : List UInt8
 vl : List UInt8
deriving DecidableEq
def f0 : Fct := ⟨0, [], []⟩
def FcOk (x : Fct) : Prop := (-9223372036854775808 ≤ x.tk ∧ x.tk ≤ 9223372036854775807) ∧ x.ky.length ≤ 140737488355328 ∧ x.vl.length ≤ 140737488355328
def fcC (x : Fct) : List Value := [vi x.tk, vs x.ky, vs x.vl]
theorem fcC_len (x : Fct) : (fcC x).length = 3 := rfl
theorem fcC_one (x : Fct) : ∀ u ∈ fcC x, u.oneCell' = true := fun u hu => by
 simp only [fcC, List.mem_cons, List.not_mem_nil, or_false] at hu
 rcases hu with rfl | rfl | rfl <;> rfl
abbrev encFc := encK fcC 3 FcOk fcC_len fcC_one
def valid (f : Fct) : Int := if (f.tk < 0 ∨ 1048576 < f.tk) ∨ f.ky = [] then 1 else if 256 < f.ky.length ∨ 7000 < f.vl.length then 4 else 0
theorem valid_1 {f : Fct} (h : (f.tk < 0 ∨ 1048576 < f.tk) ∨ f.ky = []) : valid f = 1 := by unfold valid; rw [if_pos h]
theorem valid_2 {f : Fct} (h : ¬ ((f.tk < 0 ∨ 1048576 < f.tk) ∨ f.ky = [])) (h2 : 256 < f.ky.length ∨ 7000 < f.vl.length) : valid f = 4 := by unfold valid; rw [if_neg h, if_pos h2]
theorem valid_3 {f : Fct} (h : ¬ ((f.tk < 0 ∨ 1048576 < f.tk) ∨ f.ky = [])) (h2 : ¬ (256 < f.ky.length ∨ 7000 < f.vl.length)) : valid f = 0 := by unfold valid; rw [if_neg h, if_neg h2]
theorem valid_0 {f : Fct} (h : valid f = 0) : (0 ≤ f.tk ∧ f.tk ≤ 1048576) ∧ f.ky ≠ [] ∧ f.ky.length ≤ 256 ∧ f.vl.length ≤ 7000 := by
 by_cases h1 : (f.tk < 0 ∨ 1048576 < f.tk) ∨ f.ky = []
 ·rw [valid_1 h1] at h; cases h
 by_cases h2 : 256 < f.ky.length ∨ 7000 < f.vl.length
 ·rw [valid_2 h1 h2] at h; cases h
 exact ⟨⟨by omega, by omega⟩, fun e => h1 (.inr e), by omega, by omega⟩
def enc (f : Fct) : List UInt8 := Wi.int f.tk ++ Wi.bytes f.ky ++ Wi.bytes f.vl
theorem enc_len (f : Fct) : (enc f).length ≤ 27 + f.ky.length + f.vl.length := by
 have h1 := Wi.int_len9 f.tk
 have h2 := Wi.bytes_len f.ky
 have h3 := Wi.bytes_len f.vl
 unfold enc
 rw [List.length_append, List.length_append]; omega
def d1 (b : List UInt8) : List UInt8 × Int × Int := Wi.getBytes (b.drop (Wi.getInt b).2.1.toNat)
def d2 (b : List UInt8) : List UInt8 × Int × Int := Wi.getBytes (b.drop ((Wi.getInt b).2.1 + (d1 b).2.1).toNat)
def dx (b : List UInt8) : Fct := ⟨(Wi.getInt b).1, (d1 b).1, (d2 b).1⟩
def dec (b : List UInt8) : Fct × Int :=
 if (Wi.getInt b).2.2 ≠ 0 then (f0, (Wi.getInt b).2.2)
 else if (d1 b).2.2 ≠ 0 then (f0, (d1 b).2.2)
 else if (d2 b).2.2 ≠ 0 then (f0, (d2 b).2.2)
 else if (Wi.getInt b).2.1 + (d1 b).2.1 + (d2 b).2.1 ≠ b.length ∨ valid (dx b) ≠ 0 then (f0, 2)
 else (dx b, 0)
theorem dec_1 {b : List UInt8} (h : (Wi.getInt b).2.2 ≠ 0) : dec b = (f0, (Wi.getInt b).2.2) := by unfold dec; rw [if_pos h]
theorem dec_2 {b : List UInt8} (h : (Wi.getInt b).2.2 = 0) (h1 : (d1 b).2.2 ≠ 0) : dec b = (f0, (d1 b).2.2) := by unfold dec; rw [if_neg (by omega), if_pos h1]
theorem dec_3 {b : List UInt8} (h : (Wi.getInt b).2.2 = 0) (h1 : (d1 b).2.2 = 0) (h2 : (d2 b).2.2 ≠ 0) : dec b = (f0, (d2 b).2.2) := by unfold dec; rw [if_neg (by omega), if_neg (by omega), if_pos h2]
theorem dec_4 {b : List UInt8} (h : (Wi.getInt b).2.2 = 0) (h1 : (d1 b).2.2 = 0) (h2 : (d2 b).2.2 = 0) (h3 : (Wi.getInt b).2.1 + (d1 b).2.1 + (d2 b).2.1 ≠ b.length ∨ valid (dx b) ≠ 0) : dec b = (f0, 2) := by unfold dec; rw [if_neg (by omega), if_neg (by omega), if_neg (by omega), if_pos h3]
theorem dec_5 {b : List UInt8} (h : (Wi.getInt b).2.2 = 0) (h1 : (d1 b).2.2 = 0) (h2 : (d2 b).2.2 = 0) (h3 : ¬ ((Wi.getInt b).2.1 + (d1 b).2.1 + (d2 b).2.1 ≠ b.length ∨ valid (dx b) ≠ 0)) : dec b = (dx b, 0) := by unfold dec; rw [if_neg (by omega), if_neg (by omega), if_neg (by omega), if_neg h3]
theorem dec_ok (b : List UInt8) : (dec b).2 = 0 → valid (dec b).1 = 0 := by
 intro h
 by_cases h1 : (Wi.getInt b).2.2 ≠ 0
 ·rw [dec_1 h1] at h; exact absurd h h1
 by_cases h2 : (d1 b).2.2 ≠ 0
 ·rw [dec_2 (by omega) h2] at h; exact absurd h h2
 by_cases h3 : (d2 b).2.2 ≠ 0
 ·rw [dec_3 (by omega) (by omega) h3] at h; exact absurd h h3
 by_cases h4 : (Wi.getInt b).2.1 + (d1 b).2.1 + (d2 b).2.1 ≠ b.length ∨ valid (dx b) ≠ 0
 ·rw [dec_4 (by omega) (by omega) (by omega) h4] at h; cases h
 ·rw [dec_5 (by omega) (by omega) (by omega) h4]
  show valid (dx b) = 0
  omega
def tstep (a : List Fct × Int) (s : List UInt8) : List Fct × Int := if ((dec s).2 = 0 ∧ a.2 ≤ (dec s).1.tk) ∧ a.1.length < 512 then (a.1 ++ [(dec s).1], (dec s).1.tk) else a
def tkN (l : List (List UInt8)) (k : Nat) : List Fct × Int := (l.take k).foldl tstep ([], 0)
def taken (l : List (List UInt8)) : List Fct := (tkN l l.length).1
theorem tkN_0 (l : List (List UInt8)) : tkN l 0 = ([], 0) := rfl
theorem tkN_succ {l : List (List UInt8)} {k : Nat} (h : k < l.length) : tkN l (k + 1) = tstep (tkN l k) (l.getD k []) := by
 unfold tkN
 rw [Jn.take_snoc (d := ([] : List UInt8)) h, List.foldl_append]; rfl
theorem tstep_y {a : List Fct × Int} {s : List UInt8} (h : ((dec s).2 = 0 ∧ a.2 ≤ (dec s).1.tk) ∧ a.1.length < 512) : tstep a s = (a.1 ++ [(dec s).1], (dec s).1.tk) := by unfold tstep; rw [if_pos h]
theorem tstep_n {a : List Fct × Int} {s : List UInt8} (h : ¬ (((dec s).2 = 0 ∧ a.2 ≤ (dec s).1.tk) ∧ a.1.length < 512)) : tstep a s = a := by unfold tstep; rw [if_neg h]
structure Good (l : List Fct) : Prop where
 len : l.length ≤ 512
 ok : ∀ f ∈ l, valid f = 0
 srt : l.Pairwise (fun f g => f.tk ≤ g.tk)
theorem good_nil : Good [] := ⟨by decide, fun f h => (by cases h), List.Pairwise.nil⟩
def clock (l : List Fct) : Int := if l = [] then 0 else (l.getD (l.length - 1) f0).tk
theorem good_add {l : List Fct} (h : Good l) {f : Fct} (hv : valid f = 0) (hc : ∀ g ∈ l, g.tk ≤ f.tk) (hl : l.length < 512) : Good (l ++ [f]) := by
 refine ⟨by rw [List.length_append]; simp; omega, fun g hg => ?_, ?_⟩
 ·rcases List.mem_append.1 hg with h1 | h1
  ·exact h.ok g h1
  ·have : g = f := by simpa using h1
   rw [this]; exact hv
 ·refine List.pairwise_append.2 ⟨h.srt, List.pairwise_singleton _ _, fun a ha b hb => ?_⟩
  have : b = f := by simpa using hb
  rw [this]; exact hc a ha
theorem tk_good (l : List (List UInt8)) : ∀ k, k ≤ l.length → Good (tkN l k).1 ∧ (∀ g ∈ (tkN l k).1, g.tk ≤ (tkN l k).2) ∧ 0 ≤ (tkN l k).2 ∧ (tkN l k).2 ≤ 1048576
 | 0, _ => ⟨good_nil, fun g h => (by cases h), Int.le_refl _, by rw [tkN_0]; decide⟩
 | k + 1, hk => by
  obtain ⟨h1, h2, h3, h4⟩ := tk_good l k (by omega)
  rw [tkN_succ (by omega)]
  by_cases hc : ((dec (l.getD k [])).2 = 0 ∧ (tkN l k).2 ≤ (dec (l.getD k [])).1.tk) ∧ (tkN l k).1.length < 512
  ·rw [tstep_y hc]
   have hv := dec_ok _ hc.1.1
   have hv2 := valid_0 hv
   refine ⟨good_add h1 hv (fun g hg => Int.le_trans (h2 g hg) hc.1.2) hc.2, fun g hg => ?_, hv2.1.1, hv2.1.2⟩
   rcases List.mem_append.1 hg with h5 | h5
   ·exact Int.le_trans (h2 g h5) hc.1.2
   ·have : g = (dec (l.getD k [])).1 := by simpa using h5
    rw [this]; exact Int.le_refl _
  ·rw [tstep_n hc]; exact ⟨h1, h2, h3, h4⟩
theorem taken_good (l : List (List UInt8)) : Good (taken l) := (tk_good l l.length (Nat.le_refl _)).1
theorem good_fc {l : List Fct} (h : Good l) : ∀ f ∈ l, FcOk f := fun f hf => by
 have := valid_0 (h.ok f hf)
 exact ⟨⟨by omega, by omega⟩, by omega, by omega⟩
def hit (f : Fct) (t : Int) (k : List UInt8) : Bool := decide (f.ky = k) && decide (f.tk ≤ t)
def kstep (t : Int) (k : List UInt8) (a : List UInt8 × Bool) (f : Fct) : List UInt8 × Bool := if hit f t k = true then (f.vl, true) else a
def kn (l : List Fct) (t : Int) (k : List UInt8) : List UInt8 × Bool := l.foldl (kstep t k) ([], false)
theorem kn_snoc (l : List Fct) (f : Fct) (t : Int) (k : List UInt8) : kn (l ++ [f]) t k = if hit f t k = true then (f.vl, true) else kn l t k := by
 unfold kn; rw [List.foldl_append]; rfl
theorem kn_take {l : List Fct} {m : Nat} (h : m < l.length) (t : Int) (k : List UInt8) : kn (l.take (m + 1)) t k = if hit (l.getD m f0) t k = true then ((l.getD m f0).vl, true) else kn (l.take m) t k := by
 rw [Jn.take_snoc (d := f0) h, kn_snoc]
def untl (l : List Fct) (t : Int) : List Fct := l.take (l.countP fun f => decide (f.tk ≤ t))
theorem unt_filter : ∀ {l : List Fct}, l.Pairwise (fun f g => f.tk ≤ g.tk) → ∀ t, untl l t = l.filter (fun f => decide (f.tk ≤ t))
 | [], _, _ => rfl
 | f :: l, h, t => by
  obtain ⟨h1, h2⟩ := List.pairwise_cons.1 h
  have ih := unt_filter h2 t
  unfold untl at ih ⊢
  by_cases hf : f.tk ≤ t
  ·rw [List.countP_cons_of_pos (by simpa using hf), List.filter_cons_of_pos (by simpa using hf), List.take_succ_cons, ih]
  ·have h0 : l.countP (fun f => decide (f.tk ≤ t)) = 0 := by
    rw [List.countP_eq_zero]
    intro g hg
    have := h1 g hg
    simp; omega
   rw [List.countP_cons_of_neg (by simpa using hf), h0, List.take_zero, List.filter_cons_of_neg (by simpa using hf)]
   symm
   rw [List.filter_eq_nil_iff]
   intro g hg
   have := h1 g hg
   simp; omega
theorem kn_filter (t : Int) (k : List UInt8) : ∀ (l : List Fct) (a : List UInt8 × Bool), (l.filter (fun f => decide (f.tk ≤ t))).foldl (kstep t k) a = l.foldl (kstep t k) a
 | [], _ => rfl
 | f :: l, a => by
  by_cases hf : f.tk ≤ t
  ·rw [List.filter_cons_of_pos (by simpa using hf), List.foldl_cons, List.foldl_cons, kn_filter t k l]
  ·rw [List.filter_cons_of_neg (by simpa using hf), List.foldl_cons, kn_filter t k l]
   have : kstep t k a f = a := by
    unfold kstep hit
    rw [decide_eq_false hf, Bool.and_false, if_neg (by simp)]
   rw [this]
theorem kn_untl {l : List Fct} (h : l.Pairwise (fun f g => f.tk ≤ g.tk)) (t : Int) (k : List UInt8) : kn (untl l t) t k = kn l t k := by
 unfold kn
 rw [unt_filter h, kn_filter]
end Lg
end

section
namespace Lg
open Go Go.Fw
theorem bl_iff : ∀ (a b : List UInt8), Op.bytesLess a b = true ↔ a < b
 | [], [] => by simp [Op.bytesLess]
 | [], b :: l => by simp [Op.bytesLess]
 | a :: l, [] => by simp [Op.bytesLess]
 | a :: l, b :: m => by
  have ih := bl_iff l m
  rw [List.cons_lt_cons_iff, Op.bytesLess]
  by_cases h1 : a = b
  ·subst h1
   simp [ih]
  ·by_cases h2 : a < b
   ·simp [h1, h2]
   ·simp [h1, h2]
def kins : List (List UInt8) → List UInt8 → List (List UInt8)
 | [], k => [k]
 | x :: l, k => if x < k then x :: kins l k else if x = k then x :: l else k :: x :: l
def kst (t : Int) (o : List (List UInt8)) (f : Fct) : List (List UInt8) := if f.tk ≤ t then kins o f.ky else o
def keys (l : List Fct) (t : Int) : List (List UInt8) := l.foldl (kst t) []
theorem kins_mem (x : List UInt8) : ∀ (l : List (List UInt8)) (k : List UInt8), x ∈ kins l k ↔ x = k ∨ x ∈ l
 | [], k => by simp [kins]
 | y :: l, k => by
  unfold kins
  split
  ·rw [List.mem_cons, kins_mem x l k, List.mem_cons]
   constructor
   ·rintro (h | h | h)
    ·exact .inr (.inl h)
    ·exact .inl h
    ·exact .inr (.inr h)
   ·rintro (h | h | h)
    ·exact .inr (.inl h)
    ·exact .inl h
    ·exact .inr (.inr h)
  ·split
   ·rename_i h
    subst h
    rw [List.mem_cons]
    constructor
    ·exact .inr
    ·rintro (h | h)
     ·exact .inl h
     ·exact h
   ·rw [List.mem_cons]
theorem lt_total {a b : List UInt8} (h1 : ¬ a < b) (h2 : ¬ a = b) : b < a := by
 rcases Classical.em (b < a) with h | h
 ·exact h
 ·exact absurd (List.le_antisymm (List.not_lt.1 h) (List.not_lt.1 h1)) h2
theorem kins_srt : ∀ (l : List (List UInt8)) (k : List UInt8), l.Pairwise (fun a b => a < b) → (kins l k).Pairwise (fun a b => a < b)
 | [], k, _ => List.pairwise_singleton _ _
 | x :: l, k, h => by
  obtain ⟨h1, h2⟩ := List.pairwise_cons.1 h
  unfold kins
  split
  ·rename_i hx
   refine List.pairwise_cons.2 ⟨fun y hy => ?_, kins_srt l k h2⟩
   rcases (kins_mem y l k).1 hy with rfl | hy
   ·exact hx
   ·exact h1 y hy
  ·split
   ·exact h
   ·rename_i hx hn
    have hk := lt_total hx hn
    refine List.pairwise_cons.2 ⟨fun y hy => ?_, h⟩
    rcases List.mem_cons.1 hy with rfl | hy
    ·exact hk
    ·exact List.lt_trans hk (h1 y hy)
theorem keys_srt (l : List Fct) (t : Int) : (keys l t).Pairwise (fun a b => a < b) := by
 have : ∀ (l : List Fct) (o : List (List UInt8)), o.Pairwise (fun a b => a < b) → (l.foldl (kst t) o).Pairwise (fun a b => a < b) := by
  intro l
  induction l with
  | nil => intro o h; exact h
  | cons f l ih =>
   intro o h
   refine ih _ ?_
   unfold kst
   split
   ·exact kins_srt _ _ h
   ·exact h
 exact this l [] List.Pairwise.nil
theorem keys_mem (l : List Fct) (t : Int) (x : List UInt8) : x ∈ keys l t ↔ ∃ f ∈ l, f.tk ≤ t ∧ f.ky = x := by
 have : ∀ (l : List Fct) (o : List (List UInt8)), x ∈ l.foldl (kst t) o ↔ x ∈ o ∨ ∃ f ∈ l, f.tk ≤ t ∧ f.ky = x := by
  intro l
  induction l with
  | nil => intro o; simp
  | cons f l ih =>
   intro o
   rw [List.foldl_cons, ih]
   have : x ∈ kst t o f ↔ x ∈ o ∨ f.tk ≤ t ∧ f.ky = x := by
    unfold kst
    split
    ·rename_i h
     rw [kins_mem]
     constructor
     ·rintro (rfl | h2)
      ·exact .inr ⟨h, rfl⟩
      ·exact .inl h2
     ·rintro (h2 | ⟨_, h2⟩)
      ·exact .inr h2
      ·exact .inl h2.symm
    ·rename_i h
     constructor
     ·exact .inl
     ·rintro (h2 | ⟨h2, _⟩)
      ·exact h2
      ·exact absurd h2 h
   rw [this]
   constructor
   ·rintro ((h | h) | ⟨g, hg, h⟩)
    ·exact .inl h
    ·exact .inr ⟨f, List.mem_cons_self, h⟩
    ·exact .inr ⟨g, List.mem_cons_of_mem _ hg, h⟩
   ·rintro (h | ⟨g, hg, h⟩)
    ·exact .inl (.inl h)
    ·rcases List.mem_cons.1 hg with rfl | hg
     ·exact .inl (.inr h)
     ·exact .inr ⟨g, hg, h⟩
 have h := this l []
 simpa [keys] using h
theorem sorted_keys {ks : List (List UInt8)} (hn : ks.Nodup) {l : List Fct} {t : Int} (hm : ∀ x, x ∈ ks ↔ x ∈ keys l t) : ks.mergeSort (fun x y => decide (x ≤ y)) = keys l t := by
 have hs := keys_srt l t
 have hnd : (keys l t).Nodup := hs.imp fun h e => by subst e; exact List.lt_irrefl _ h
 have hp : ks.Perm (keys l t) := (List.perm_ext_iff_of_nodup hn hnd).2 hm
 have tr : ∀ a b c : List UInt8, decide (a ≤ b) = true → decide (b ≤ c) = true → decide (a ≤ c) = true := fun a b c h1 h2 => by simp only [decide_eq_true_eq] at *; exact List.le_trans h1 h2
 have tot9 : ∀ a b : List UInt8, (decide (a ≤ b) || decide (b ≤ a)) = true := fun a b => by simp only [Bool.or_eq_true, decide_eq_true_eq]; exact List.le_total a b
 refine List.Perm.eq_of_pairwise (le := fun a b => decide (a ≤ b) = true) (fun a b _ _ h1 h2 => ?_) (List.pairwise_mergeSort tr tot9 ks) (hs.imp fun h => by simp only [decide_eq_true_eq]; exact List.le_of_lt h) ((List.mergeSort_perm ks _).trans hp)
 simp only [decide_eq_true_eq] at h1 h2
 exact List.le_antisymm h1 h2
def mpN (l : List Fct) (k : Nat) : List (List UInt8 × Value) := (l.take k).foldl (fun m f => aset f.ky (vs f.vl) m) []
theorem mp_succ {l : List Fct} {k : Nat} (h : k < l.length) : mpN l (k + 1) = aset (l.getD k f0).ky (vs (l.getD k f0).vl) (mpN l k) := by
 unfold mpN
 rw [Jn.take_snoc (d := f0) h, List.foldl_append]; rfl
theorem aset_key {α : Type} [DecidableEq α] (a : α) (v : Value) : ∀ (l : List (α × Value)) (x : α), x ∈ (aset a v l).map (·.1) ↔ x = a ∨ x ∈ l.map (·.1) := by
 intro l x
 have h1 : ∀ (m : List (α × Value)) (y : α), y ∈ m.map (·.1) ↔ (aget m y).isSome = true := by
  intro m y
  induction m with
  | nil => simp [aget, fnd]
  | cons p m ih =>
   rw [aget_cons, List.map_cons, List.mem_cons]
   by_cases h : y = p.1
   ·rw [if_pos h]; simp [h]
   ·rw [if_neg h, ← ih]; simp [h]
 rw [h1, h1, aget_aset]
 by_cases h : x = a
 ·rw [if_pos h]; simp [h]
 ·rw [if_neg h]; simp [h]
theorem mp_ok (l : List Fct) : ∀ k, k ≤ l.length → ((mpN l k).map (·.1)).Nodup ∧ ∀ x, x ∈ (mpN l k).map (·.1) ↔ ∃ f ∈ l.take k, f.ky = x
 | 0, _ => ⟨List.nodup_nil, fun x => by simp [mpN]⟩
 | k + 1, hk => by
  obtain ⟨h1, h2⟩ := mp_ok l k (by omega)
  rw [mp_succ (by omega)]
  refine ⟨aset_nodup h1, fun x => ?_⟩
  rw [aset_key, h2, Jn.take_snoc (d := f0) (by omega)]
  constructor
  ·rintro (rfl | ⟨f, hf, rfl⟩)
   ·exact ⟨_, List.mem_append_right _ (by simp), rfl⟩
   ·exact ⟨f, List.mem_append_left _ hf, rfl⟩
  ·rintro ⟨f, hf, rfl⟩
   rcases List.mem_append.1 hf with hf | hf
   ·exact .inr ⟨f, hf, rfl⟩
   ·have : f = l.getD k f0 := by simpa using hf
    rw [this]; exact .inl rfl
theorem aset_len {α : Type} [DecidableEq α] (a : α) (v : Value) : ∀ (l : List (α × Value)), (aset a v l).length ≤ l.length + 1
 | [] => Nat.le_refl _
 | p :: l => by
  have := aset_len a v l
  unfold aset
  split
  ·simp
  ·simp only [List.length_cons]; omega
theorem mp_len (l : List Fct) : ∀ k, k ≤ l.length → (mpN l k).length ≤ k
 | 0, _ => Nat.le_refl _
 | k + 1, hk => by
  have h := mp_len l k (by omega)
  rw [mp_succ (by omega)]
  have h2 := aset_len (l.getD k f0).ky (vs (l.getD k f0).vl) (mpN l k)
  omega
theorem keys_untl {l : List Fct} (h : l.Pairwise (fun f g => f.tk ≤ g.tk)) (t : Int) : ((mpN (untl l t) (untl l t).length).map (·.1)).mergeSort (fun x y => decide (x ≤ y)) = keys l t := by
 obtain ⟨h1, h2⟩ := mp_ok (untl l t) (untl l t).length (Nat.le_refl _)
 refine sorted_keys h1 fun x => ?_
 rw [h2, List.take_length, keys_mem, unt_filter h]
 constructor
 ·rintro ⟨f, hf, rfl⟩
  obtain ⟨h3, h4⟩ := List.mem_filter.1 hf
  exact ⟨f, h3, by simpa using h4, rfl⟩
 ·rintro ⟨f, hf, ht, rfl⟩
  exact ⟨f, List.mem_filter.2 ⟨hf, by simpa using ht⟩, rfl⟩
end Lg
end

section
namespace Lg
open Go Go.Fw
structure Ld where
 J : Jn.JS
 S : Dk.Dsk
 F : List Fct
def add (L : Ld) (f : Fct) : Ld × Int :=
 if valid f ≠ 0 then (L, valid f)
 else if f.tk < clock L.F then (L, 18)
 else if 512 ≤ L.F.length then (L, 4)
 else if (Jn.app L.J L.S (enc f)).2.2.2 ≠ 0 then (⟨(Jn.app L.J L.S (enc f)).1, (Jn.app L.J L.S (enc f)).2.1, L.F⟩, (Jn.app L.J L.S (enc f)).2.2.2)
 else (⟨(Jn.app L.J L.S (enc f)).1, (Jn.app L.J L.S (enc f)).2.1, L.F ++ [f]⟩, 0)
theorem add_1 {L : Ld} {f : Fct} (h : valid f ≠ 0) : add L f = (L, valid f) := by unfold add; rw [if_pos h]
theorem add_2 {L : Ld} {f : Fct} (h : valid f = 0) (h2 : f.tk < clock L.F) : add L f = (L, 18) := by unfold add; rw [if_neg (by omega), if_pos h2]
theorem add_3 {L : Ld} {f : Fct} (h : valid f = 0) (h2 : ¬ f.tk < clock L.F) (h3 : 512 ≤ L.F.length) : add L f = (L, 4) := by unfold add; rw [if_neg (by omega), if_neg h2, if_pos h3]
theorem add_4 {L : Ld} {f : Fct} (h : valid f = 0) (h2 : ¬ f.tk < clock L.F) (h3 : ¬ 512 ≤ L.F.length) (h4 : (Jn.app L.J L.S (enc f)).2.2.2 ≠ 0) : add L f = (⟨(Jn.app L.J L.S (enc f)).1, (Jn.app L.J L.S (enc f)).2.1, L.F⟩, (Jn.app L.J L.S (enc f)).2.2.2) := by unfold add; rw [if_neg (by omega), if_neg h2, if_neg h3, if_pos h4]
theorem add_5 {L : Ld} {f : Fct} (h : valid f = 0) (h2 : ¬ f.tk < clock L.F) (h3 : ¬ 512 ≤ L.F.length) (h4 : (Jn.app L.J L.S (enc f)).2.2.2 = 0) : add L f = (⟨(Jn.app L.J L.S (enc f)).1, (Jn.app L.J L.S (enc f)).2.1, L.F ++ [f]⟩, 0) := by unfold add; rw [if_neg (by omega), if_neg h2, if_neg h3, if_neg (by omega)]
def lopn (S : Dk.Dsk) : Ld := ⟨Jn.opn S, S, taken (Jn.opn S).tx⟩
theorem clock_le {l : List Fct} (h : Good l) {f : Fct} (hc : ¬ f.tk < clock l) : ∀ g ∈ l, g.tk ≤ f.tk := fun g hg => by
 unfold clock at hc
 by_cases h0 : l = []
 ·subst h0; cases hg
 rw [if_neg h0] at hc
 have hl : 0 < l.length := List.length_pos_iff.2 h0
 obtain ⟨j, hj, rfl⟩ := List.getElem_of_mem hg
 have e : l.getD (l.length - 1) f0 = l[l.length - 1] := by rw [List.getD_eq_getElem?_getD, List.getElem?_eq_getElem (by omega)]; rfl
 rw [e] at hc
 by_cases hj2 : j = l.length - 1
 ·subst hj2; omega
 ·have := List.pairwise_iff_getElem.1 h.srt j (l.length - 1) hj (by omega) (by omega)
  omega
def x1 : Fct := ⟨3, [97], [120]⟩
def x2 : Fct := ⟨5, [97], [121]⟩
def x3 : Fct := ⟨4, [98], [122]⟩
def x4 : Fct := ⟨6, [98], [122]⟩
def K1 : Jn.JS := ⟨[1], [enc x1], [], 2, 1, false⟩
def K2 : Jn.JS := ⟨[1, 2], [enc x1, enc x2], [], 3, 2, false⟩
theorem fil_add {S : Dk.Dsk} {J : Jn.JS} (h : Jn.Fil S J) {t : List UInt8} (ht : t.length ≤ 8000) (hn : J.next ≤ 4096) (hr : ¬ Jn.room J S < Jn.cnt t.length) :
  ∃ F, Jn.app J S t = (Jn.J3 J t, F, J.next, 0) ∧ Jn.Fil F (Jn.J3 J t) ∧ F.s.length = S.s.length := by
 obtain ⟨F, hG, hw, hlen⟩ := Jn.fil_app h ht hn hr
 refine ⟨F, ?_, hG, hlen⟩
 rw [Jn.app_6 (by rw [h.g.cl]; simp) ⟨ht, hn⟩ hr (by rw [hw]) (by rw [hw]; simp), hw]
theorem down {S : Dk.Dsk} {J : Jn.JS} (h : Jn.Fil S J) {t : List UInt8} (ht : t.length ≤ 8000) (hn : J.next ≤ 4096) (hr : ¬ Jn.room J S < Jn.cnt t.length) :
  Jn.app J (Dk.trip S 0) t = (Jn.J2 J t, ⟨S.s, true, 0⟩, 0, 23) := by
 have hO := h.g.ok
 have he := h.g.wf.e1
 have hc := Jn.cnt_1le ht
 have hl := Jn.secs_len J.next t
 have hR := hr
 unfold Jn.room at hR
 have hts : (Dk.trip S 0).s = S.s := rfl
 have hoff : (Dk.trip S 0).off = false := h.g.still.off
 have hst : Dk.step (Dk.trip S 0) = (⟨S.s, true, 0⟩, 23) := Dk.step_0 rfl
 have hw1 : Jn.wrN (Dk.trip S 0) J.en (Jn.secs J.next t) 1 = (⟨S.s, true, 0⟩, 23) := by
  rw [Jn.wrN_succ (by rfl)]
  have h64 : ((Jn.secs J.next t).getD 0 []).length = 64 := Jn.secs_64 _ (Dk.getD_mem (by omega))
  have hck : Dk.check (Dk.trip S 0) (J.en + (0 : Nat)) = 0 := Dk.check_in (by rw [hoff]; simp) (by rw [hts]; omega)
  show Dk.write (Dk.trip S 0) (J.en + (0 : Nat)) _ = _
  rw [Dk.write_3 hck h64 (by rw [hst]; show (23 : Int) ≠ 0; decide), hst]
 have hwa : Jn.wrN (Dk.trip S 0) J.en (Jn.secs J.next t) (Jn.secs J.next t).length = (⟨S.s, true, 0⟩, 23) := by
  rw [Jn.wrN_stay (k := 1) (by rw [hw1]; show (23 : Int) ≠ 0; decide) _ (by omega), hw1]
 have hwf : Jn.wfr (Dk.trip S 0) J.en (Jn.secs J.next t) = (⟨S.s, true, 0⟩, 23, false) := by
  unfold Jn.wfr
  rw [hwa, if_pos (by show (23 : Int) ≠ 0; decide)]
 rw [Jn.app_4 (by rw [h.g.cl]; simp) ⟨ht, hn⟩ (by show ¬ Jn.room J S < _; exact hr) (by rw [hwf]; show (23 : Int) ≠ 0; decide), hwf]
theorem lives : ∃ F1 F2, Jn.app Jn.jnil (Dk.new 8) (enc x1) = (K1, F1, 1, 0) ∧ Jn.app K1 F1 (enc x2) = (K2, F2, 2, 0) ∧ Jn.app K2 (Dk.trip F2 0) (enc x4) = (Jn.J2 K2 (enc x4), ⟨F2.s, true, 0⟩, 0, 23) ∧ Dk.mount ⟨F2.s, true, 0⟩ [0] = F2 ∧ Jn.opn F2 = K2 := by
 have e1 : enc x1 = [129, 3, 129, 1, 97, 129, 1, 120] := by decide +kernel
 have e2 : enc x2 = [129, 5, 129, 1, 97, 129, 1, 121] := by decide +kernel
 have e4 : enc x4 = [129, 6, 129, 1, 98, 129, 1, 122] := by decide +kernel
 have c8 : Jn.cnt 8 = 1 := by decide
 have f0 := Jn.fil_nil (n := 8) (by decide) (by decide)
 have n8 : (Dk.new 8).s.length = 8 := Dk.new_len 8
 obtain ⟨F1, h1, g1, l1⟩ := fil_add f0 (t := enc x1) (by rw [e1]; decide) (by decide) (by rw [e1]; decide)
 have j1 : Jn.J3 Jn.jnil (enc x1) = K1 := by
  have : ((Jn.secs 1 (enc x1)).length : Int) = 1 := by rw [Jn.secs_len, e1]; rfl
  unfold Jn.J3
  show (⟨[1], [enc x1], [], 2, 0 + ((Jn.secs 1 (enc x1)).length : Int), false⟩ : Jn.JS) = K1
  rw [this]; rfl
 rw [j1] at h1 g1
 obtain ⟨F2, h2, g2, l2⟩ := fil_add g1 (t := enc x2) (by rw [e2]; decide) (by decide) (by unfold Jn.room; rw [l1, n8, e2]; decide)
 have j2 : Jn.J3 K1 (enc x2) = K2 := by
  have : ((Jn.secs 2 (enc x2)).length : Int) = 1 := by rw [Jn.secs_len, e2]; rfl
  unfold Jn.J3
  show (⟨[1, 2], [enc x1, enc x2], [], 3, 1 + ((Jn.secs 2 (enc x2)).length : Int), false⟩ : Jn.JS) = K2
  rw [this]; rfl
 rw [j2] at h2 g2
 refine ⟨F1, F2, h1, h2, down g2 (by rw [e4]; decide) (by decide) (by unfold Jn.room; rw [l2, l1, n8, e4]; decide), ?_, Jn.fil_opn g2⟩
 have hd := g2.g.still
 have hm := Dk.mnt_clean [0] F2.s 0 hd.dt
 unfold Dk.mount
 rw [hm]
 have ho := hd.off
 have hq := hd.left
 cases F2
 simp_all
end Lg
namespace Lg
theorem tk0 : taken Jn.jnil.tx = [] := rfl
theorem tk2 : taken K2.tx = [x1, x2] := by decide +kernel
theorem v1 : valid x1 = 0 ∧ valid x2 = 0 ∧ valid x3 = 0 ∧ valid x4 = 0 := by decide
theorem ad3 (J : Jn.JS) (S : Dk.Dsk) : add ⟨J, S, [x1, x2]⟩ x3 = (⟨J, S, [x1, x2]⟩, 18) := add_2 v1.2.2.1 (by show x3.tk < clock [x1, x2]; decide)
theorem ks4 : keys [x1, x2] 4 = [[97]] := by decide
theorem kn0 : kn [] 9 [97] = ([], false) := rfl
theorem kn2 : kn [x1, x2] 2 [97] = ([], false) := by decide
theorem kn4 : kn [x1, x2] 4 [97] = ([120], true) := by decide
theorem kn5 : kn [x1, x2] 5 [97] = ([121], true) := by decide
end Lg
end

section
namespace Go.Fw
open Go.ChangeShapes Go.WideShapes Go.ChangeAt Go.RowKit
def encY : Enc Lg.Fct := encK Lg.fcC 3 Lg.FcOk Lg.fcC_len Lg.fcC_one
section
variable {P : Program} {n : Nat} {w0 : World} {zs : List PH} {hs : List Res} {L : List (Nat × Value)} {d : Option Tmp} {ty t t' : TypeId} {pos : String} {af : Array Edge} {g : Option (Nat × Bool)} {x y : Operand} {u v : Value} {z : PH} {xs : List Lg.Fct}
theorem q_ld_Y [Dfs] {dd : TypeDesc} {by_ : Nat} {zv : Value} (ht : Tf P t dd 3 by_ zv) {k : Nat} (hS : Sl encY z v xs) (hz : ZIn w0 zs z) (h2 : opv L x = some (elemPtr v (k * 3))) (hd : aggD dd = true) (hk : k < xs.length) :
  Qt P n w0 zs hs L ⟨d, .load t x, ty, pos, af, g⟩ (.agg [vi (xs.getD k Lg.f0).tk, vs (xs.getD k Lg.f0).ky, vs (xs.getD k Lg.f0).vl].toArray) := q_ld_K Lg.f0 ht hS hz h2 hd (by decide) hk
theorem q_ld_Y0 [Dfs] {dd : TypeDesc} {s by_ : Nat} {zv : Value} (ht : Tf P t dd s by_ zv) {k : Nat} (hS : Sl encY z v xs) (hz : ZIn w0 zs z) (h2 : opv L x = some (elemPtr v (k * 3 + 0))) (hd : aggD dd = false) (hk : k < xs.length) :
  Qt P n w0 zs hs L ⟨d, .load t x, ty, pos, af, g⟩ (vi (xs.getD k Lg.f0).tk) := q_ld_K1 Lg.f0 ht hS hz h2 hd hk rfl
theorem q_ld_Y1 [Dfs] {dd : TypeDesc} {s by_ : Nat} {zv : Value} (ht : Tf P t dd s by_ zv) {k : Nat} (hS : Sl encY z v xs) (hz : ZIn w0 zs z) (h2 : opv L x = some (elemPtr v (k * 3 + 1))) (hd : aggD dd = false) (hk : k < xs.length) :
  Qt P n w0 zs hs L ⟨d, .load t x, ty, pos, af, g⟩ (vs (xs.getD k Lg.f0).ky) := q_ld_K1 Lg.f0 ht hS hz h2 hd hk rfl
theorem q_ld_Y2 [Dfs] {dd : TypeDesc} {s by_ : Nat} {zv : Value} (ht : Tf P t dd s by_ zv) {k : Nat} (hS : Sl encY z v xs) (hz : ZIn w0 zs z) (h2 : opv L x = some (elemPtr v (k * 3 + 2))) (hd : aggD dd = false) (hk : k < xs.length) :
  Qt P n w0 zs hs L ⟨d, .load t x, ty, pos, af, g⟩ (vs (xs.getD k Lg.f0).vl) := q_ld_K1 Lg.f0 ht hS hz h2 hd hk rfl
theorem q_fld_Y [Dfs] {fs : Array Field} {s by_ : Nat} {zv : Value} (ht : Tf P t (.struct fs) s by_ zv) {k : Nat} (hS : Sl encY z v xs) (h2 : opv L x = some (elemPtr v (k * 3))) (hk : k < xs.length) {j : Nat} {fd : Field} {s' : Nat} (hf : fs[j]? = some fd) (hsz : (P.info? fd.type).map (·.size) = some (s' + 1)) :
  Qt P n w0 zs hs L ⟨d, .fieldAddr t x j, ty, pos, af, g⟩ (elemPtr v (k * 3 + fd.offset)) := q_fld_E (E := encY) ht hS h2 hk hf hsz
theorem dfc (a b : Lg.Fct) : decide (a = b) = (decide (a.tk = b.tk) && (decide (a.ky = b.ky) && decide (a.vl = b.vl))) := by
 obtain ⟨a1, a2, a3⟩ := a
 obtain ⟨b1, b2, b3⟩ := b
 simp only [Lg.Fct.mk.injEq]
 by_cases h1 : a1 = b1 <;> by_cases h2 : a2 = b2 <;> by_cases h3 : a3 = b3 <;> simp [h1, h2, h3]
theorem run_eqFc [Dfs] {f1 f2 f3 : Field} {by_ : Nat} {zv : Value} (ht : Tf P t (.struct #[f1, f2, f3]) 3 by_ zv) {ti ts : TypeId} {b1 b2 : Nat} {z1 z2 : Value} (hi : Tf P ti (.int .i64) 1 b1 z1) (hsx : Tf P ts .string 1 b2 z2)
  (h1 : f1.type = ti ∧ f1.offset = 0 ∧ f1.name ≠ "_") (h2 : f2.type = ts ∧ f2.offset = 1 ∧ f2.name ≠ "_") (h3 : f3.type = ts ∧ f3.offset = 2 ∧ f3.name ≠ "_")
  (hp : P.stoodInHeld t = false) (a b : Lg.Fct) (w : World) : (Op.equalIn 10000 t (.agg [vi a.tk, vs a.ky, vs a.vl].toArray) (.agg [vi b.tk, vs b.ky, vs b.vl].toArray)).run P w = .ok (decide (a = b)) w := by
 have hfo : P.fieldsOf t = #[f1, f2, f3] := by simp [Program.fieldsOf, ht.und]
 rw [run_equalIn_agg w 9999 t _ _ (by rw [hfo]; exact ht.und) hp, hfo]
 have p1 : ∀ (q : Lg.Fct) w, (part ti [vi q.tk, vs q.ky, vs q.vl].toArray 0).run P w = .ok (vi q.tk) w := fun q => part_of hi rfl rfl
 have p2 : ∀ (q : Lg.Fct) w, (part ts [vi q.tk, vs q.ky, vs q.vl].toArray 1).run P w = .ok (vs q.ky) w := fun q => part_of hsx rfl rfl
 have p3 : ∀ (q : Lg.Fct) w, (part ts [vi q.tk, vs q.ky, vs q.vl].toArray 2).run P w = .ok (vs q.vl) w := fun q => part_of hsx rfl rfl
 have e1 : ∀ (q r : Int) w, (Op.equalIn 9999 ti (vi q) (vi r)).run P w = .ok (decide (q = r)) w := fun q r w => by
  have := run_equalIn_int w 9998 ti .i64 .i64 q r hi.und
  rw [show (q == r) = decide (q = r) from rfl] at this
  exact this
 have e4 : ∀ (s r : List UInt8) w, (Op.equalIn 9999 ts (vs s) (vs r)).run P w = .ok (decide (s = r)) w := fun s r w => by
  have := run_equalIn_string w 9998 ts ⟨s.toArray⟩ ⟨r.toArray⟩ hsx.und
  rw [show ((⟨s.toArray⟩ : ByteArray).toList == (⟨r.toArray⟩ : ByteArray).toList) = decide (s = r) by rw [ByteArray.toList_eq, ByteArray.toList_eq, Bool.eq_iff_iff]; simp] at this
  exact this
 rw [dfc]
 simp only [Op.eqFields, h1, h2, h3, ne_eq, not_false_eq_true, if_true, Sem.run_bind, p1, p2, p3, e1, e4, Result.andThen_ok]
 generalize decide (a.tk = b.tk) = x1
 cases x1
 ·simp [Sem.run_pure]
 simp only [Bool.not_true, Bool.false_eq_true, if_false, Op.eqFields, h2, h3, ne_eq, not_false_eq_true, if_true, Sem.run_bind, p2, e4, Result.andThen_ok, Bool.true_and]
 generalize decide (a.ky = b.ky) = x2
 cases x2
 ·simp [Sem.run_pure]
 simp only [Bool.not_true, Bool.false_eq_true, if_false, Op.eqFields, h3, ne_eq, not_false_eq_true, if_true, Sem.run_bind, p3, e4, Result.andThen_ok, Bool.true_and]
 generalize decide (a.vl = b.vl) = x3
 cases x3
 ·simp [Sem.run_pure]
 simp [Sem.run_pure]
theorem q_neFc [Dfs] {f1 f2 f3 : Field} {by_ : Nat} {zv : Value} (ht : Tf P t (.struct #[f1, f2, f3]) 3 by_ zv) {ti ts : TypeId} {b1 b2 : Nat} {z1 z2 : Value} (hi : Tf P ti (.int .i64) 1 b1 z1) (hsx : Tf P ts .string 1 b2 z2)
  (h1 : f1.type = ti ∧ f1.offset = 0 ∧ f1.name ≠ "_") (h2 : f2.type = ts ∧ f2.offset = 1 ∧ f2.name ≠ "_") (h3 : f3.type = ts ∧ f3.offset = 2 ∧ f3.name ≠ "_")
  (hg : P.eqGuardType P.depth t = false) (hp : P.stoodInHeld t = false) {a b : Lg.Fct} (hx : opv L x = some (.agg [vi a.tk, vs a.ky, vs a.vl].toArray)) (hy : opv L y = some (.agg [vi b.tk, vs b.ky, vs b.vl].toArray)) :
  Qt P n w0 zs hs L ⟨d, .binOp .neq t x y t', ty, pos, af, g⟩ (.bool (!decide (a = b))) :=
 q_bin hx hy (fun w => run_eqGuard_agg w _ _ _ _ _ _ hg) fun w => by
  rw [run_neq_struct, run_eqFc ht hi hsx h1 h2 h3 hp a b w]
  rfl
end
theorem Y_all {z : PH} {v : Value} {xs : List Lg.Fct} (hS : Sl encY z v xs) : ∀ x ∈ xs, Lg.FcOk x := K_all hS
theorem St.freezeY {w0 : World} {zs : List PH} {hs : List Res} {w : World} {e : TypeId} {v : Value} {k : Nat} {xs : List Lg.Fct} (h : St w0 zs (.row v e 3 k (xs.flatMap Lg.fcC) :: hs) w) (hm : k = xs.length) (hb : k ≤ 140737488355328) (hp : ∀ x ∈ xs, Lg.FcOk x) : ∃ z, Sl encY z v xs ∧ St w0 (z :: zs) hs w := St.freezeK h hm hb hp
end Go.Fw
end

section
namespace Go.Fw
open Go.ChangeShapes Go.WideShapes Go.ChangeAt Go.RowKit
section
variable {H : Type} {enc : TypeId × Value → H} {P : Program} {W : World} {t : TypeId}
end
end Go.Fw
end

section
namespace Go.Fw
open Go.ChangeShapes Go.WideShapes Go.ChangeAt Go.RowKit
section
variable {H : Type} {enc : TypeId × Value → H} {P : Program} {W : World} {t : TypeId}
end
end Go.Fw
end

section
namespace Go.Fw
open Go Go.Sem Go.RowKit Go.Shelf Go.Proofs
theorem grow_ct {P : Program} {ρ : Ren} (L : Lays8.n4 P ρ) (i0 : TypeInfo) (z : Value) (hi0 : P.info? (ρ.t 25) = some i0) (hz0 : i0.zero = some z) (hs0 : i0.size = 1) (hb0 : i0.bytes = 1) (hzc : z.cells.size = 1) (n : Nat) (hn : n ≤ 140737488355328) (w : World) :
  Ct P (ρ.f 4) [.slice none 0 0, vi (n : Int)] w (fun v zs hs => zs = [] ∧ hs = [.row v (ρ.t 25) 1 0 []]) := by
 by_cases h0 : n = 0
 ·subst h0
  refine Calls.mono (Any8.slices_Grow_room L none 0 0 0 w (Nat.le_refl _) (by decide) (by decide) (by decide)) fun e w' ⟨he, hw⟩ => ?_
  subst hw
  exact ⟨_, [], _, he, (St.start _).nilRow (ρ.t 25) 1, rfl, rfl⟩
 ·refine Calls.mono (Any8.slices_Grow_grow L i0 z hi0 hz0 (by omega) none 0 0 n [] w (Nat.le_refl _) (by omega) (by rw [hb0]; omega) (by omega) (by simp) (fun _ => rfl) (fun a ha => by cases ha)) fun e w' ⟨he, hw⟩ => ?_
  obtain ⟨G, hG⟩ : ∃ G, G = grownCap w (0 + n) 0 (ρ.t 25) := ⟨_, rfl⟩
  have hge : 0 + n ≤ G := by rw [hG]; exact grownCap_ge w _ _ _
  have hle : G ≤ maxLen := by rw [hG]; exact grownCap_le_maxLen w (0 + n) 0 (ρ.t 25) (by unfold maxLen; omega)
  rw [← hG] at he hw
  obtain ⟨cs, hcs⟩ : ∃ cs : List Value, cs.toArray = ([] : List Value).toArray ++ Builtin.zeroCells z.cells (0 + n - 0) ++ Builtin.zeroCells z.cells (G - (0 + n)) := ⟨_, Array.toArray_toList⟩
  have hcl : cs.length = G * 1 := by
   have := congrArg Array.size hcs
   simp only [Array.size_append, List.size_toArray, size_zeroCells, hzc, List.length_nil] at this
   omega
  have hst := (((St.start w).drew (w.drew).drawn)).newRow (ρ.t 25) cs 1 0 G hcl (Nat.zero_le _) hle
  refine ⟨_, [], _, he, ?_, rfl, rfl⟩
  rw [hw, ← hcs]
  exact hst
theorem grow_ctT {P : Program} {ρ : Ren} (L : Lays8.n4 P ρ) {dd : TypeDesc} {z : Value} (ht : Tf P (ρ.t 25) dd 1 1 z) (hzc : z.cells.size = 1) (n : Nat) (hn : n ≤ 140737488355328) (w : World) :
  Ct P (ρ.f 4) [.slice none 0 0, vi (n : Int)] w (fun v zs hs => zs = [] ∧ hs = [.row v (ρ.t 25) 1 0 []]) := by
 obtain ⟨i, h1, h2, h3, h4⟩ := ht.info
 exact grow_ct L i z h1 h4 h2 h3 hzc n hn w
theorem own_slsl3 {α : Type} {E : Enc α} {base : Nat} {w : World} {e : TypeId} {v a b c : Value} (h : (Res.row v e 1 3 [a, b, c]).ok base w) {x y z : List α} (h1 : Sl E (ph w) a x) (h2 : Sl E (ph w) b y) (h3 : Sl E (ph w) c z) : Sl (encSl E) (ph w) v [x, y, z] :=
  own_sl (E := encSl E) h rfl (by decide) fun i q hq => by
    have one : ∀ (u : Value) (j : Nat) (r : Value), [u][j]? = some r → j = 0 ∧ r = u := fun u j r hj => by
      cases j with
      | zero => simp at hj; exact ⟨rfl, hj.symm⟩
      | succ j => simp at hj
    match i, hq with
    | 0, hq => obtain rfl : x = q := by simpa using hq
               exact ⟨[a], ⟨a, rfl, h1⟩, fun j u hu => by obtain ⟨rfl, rfl⟩ := one _ _ _ hu; rfl⟩
    | 1, hq => obtain rfl : y = q := by simpa using hq
               exact ⟨[b], ⟨b, rfl, h2⟩, fun j u hu => by obtain ⟨rfl, rfl⟩ := one _ _ _ hu; rfl⟩
    | 2, hq => obtain rfl : z = q := by simpa using hq
               exact ⟨[c], ⟨c, rfl, h3⟩, fun j u hu => by obtain ⟨rfl, rfl⟩ := one _ _ _ hu; rfl⟩
    | i + 3, hq => simp at hq
end Go.Fw
end

section
namespace Lg
open Go Go.Fw
theorem cat_step {xs : List (List UInt8)} {k : Nat} (h : k < xs.length) : (xs.take (k + 1)).flatten = (xs.take k).flatten ++ xs.getD k [] := by
 rw [List.take_add_one, List.flatten_append, List.getD_eq_getElem?_getD, List.getElem?_eq_getElem h]
 simp
theorem cat_len {xs : List (List UInt8)} {m : Nat} (h : ∀ x ∈ xs, x.length ≤ m) : ∀ k, (xs.take k).flatten.length ≤ k * m
 | 0 => by simp
 | k + 1 => by
  by_cases hk : k < xs.length
  ·rw [cat_step hk, List.length_append]
   have h1 := cat_len h k
   have h2 : (xs.getD k []).length ≤ m := h _ (by rw [List.getD_eq_getElem?_getD, List.getElem?_eq_getElem hk]; exact List.getElem_mem hk)
   rw [Nat.add_mul]; omega
  ·rw [List.take_of_length_le (by omega)]
   have h1 := cat_len h k
   rw [List.take_of_length_le (by omega)] at h1
   rw [Nat.add_mul]; omega
theorem enc_cat (f : Fct) : [Wi.int f.tk, Wi.bytes f.ky, Wi.bytes f.vl].flatten = enc f := by unfold enc; simp
theorem vn1 {a b : Prop} {c : Prop} (h : (¬ a ∧ ¬ b) ∧ ¬ c) : ¬ ((a ∨ b) ∨ c) := by
 rintro ((h1 | h1) | h1)
 ·exact h.1.1 h1
 ·exact h.1.2 h1
 ·exact h.2 h1
def at_ (b : List UInt8) : Nat → Int
 | 0 => (Wi.getInt b).2.1
 | 1 => (Wi.getInt b).2.1 + (d1 b).2.1
 | _ => (Wi.getInt b).2.1 + (d1 b).2.1 + (d2 b).2.1
def fk (b : List UInt8) : Nat → Fct
 | 0 => ⟨(Wi.getInt b).1, [], []⟩
 | 1 => ⟨(Wi.getInt b).1, (d1 b).1, []⟩
 | _ => dx b
theorem d1_pos {b : List UInt8} (h : (d1 b).2.2 = 0) : 1 ≤ (d1 b).2.1 ∧ (Wi.getInt b).2.1 + (d1 b).2.1 ≤ b.length := by
 have h1 := Wi.getInt_bd b
 have h2 := Wi.getBytes_pos (b := b.drop (Wi.getInt b).2.1.toNat) h
 rw [List.length_drop] at h2
 have h3 : (d1 b).2.1 = (Wi.getBytes (b.drop (Wi.getInt b).2.1.toNat)).2.1 := rfl
 rw [h3]; omega
theorem d2_pos {b : List UInt8} (h : (d1 b).2.2 = 0) (h' : (d2 b).2.2 = 0) : 1 ≤ (d2 b).2.1 ∧ (Wi.getInt b).2.1 + (d1 b).2.1 + (d2 b).2.1 ≤ b.length := by
 have h1 := Wi.getInt_bd b
 have h4 := d1_pos h
 have h2 := Wi.getBytes_pos (b := b.drop ((Wi.getInt b).2.1 + (d1 b).2.1).toNat) h'
 rw [List.length_drop] at h2
 have h3 : (d2 b).2.1 = (Wi.getBytes (b.drop ((Wi.getInt b).2.1 + (d1 b).2.1).toNat)).2.1 := rfl
 rw [h3]; omega
theorem at_bd {b : List UInt8} {k : Nat} (h1 : 0 < k → (d1 b).2.2 = 0) (h2 : 1 < k → (d2 b).2.2 = 0) : 0 ≤ at_ b k ∧ at_ b k ≤ b.length := by
 have h := Wi.getInt_bd b
 match k with
 | 0 => exact ⟨h.1, h.2.1⟩
 | 1 =>
  have h3 := d1_pos (h1 (by decide))
  show 0 ≤ (Wi.getInt b).2.1 + (d1 b).2.1 ∧ (Wi.getInt b).2.1 + (d1 b).2.1 ≤ b.length
  omega
 | k + 2 =>
  have h3 := d1_pos (h1 (by omega))
  have h4 := d2_pos (h1 (by omega)) (h2 (by omega))
  show 0 ≤ (Wi.getInt b).2.1 + (d1 b).2.1 + (d2 b).2.1 ∧ (Wi.getInt b).2.1 + (d1 b).2.1 + (d2 b).2.1 ≤ b.length
  omega
theorem at_n0 {b : List UInt8} (h : (Wi.getBytes (b.drop (at_ b 0).toNat)).2.2 = 0) : 1 ≤ (Wi.getBytes (b.drop (at_ b 0).toNat)).2.1 ∧ at_ b 0 + (Wi.getBytes (b.drop (at_ b 0).toNat)).2.1 ≤ b.length := d1_pos h
theorem at_n1 {b : List UInt8} (h0 : (d1 b).2.2 = 0) (h : (Wi.getBytes (b.drop (at_ b 1).toNat)).2.2 = 0) : 1 ≤ (Wi.getBytes (b.drop (at_ b 1).toNat)).2.1 ∧ at_ b 1 + (Wi.getBytes (b.drop (at_ b 1).toNat)).2.1 ≤ b.length := d2_pos h0 h
theorem gi_rng (b : List UInt8) : -9223372036854775808 ≤ (Wi.getInt b).1 ∧ (Wi.getInt b).1 ≤ 9223372036854775807 := by
 rcases Wi.getInt_e b with h | ⟨h, _⟩
 ·have := Wi.getInt_canon (b := b) (n := (Wi.getInt b).1) (k := (Wi.getInt b).2.1) (by rw [← h])
  exact this.1
 ·rw [h]; dsimp only; omega
theorem dx_ok {b : List UInt8} (hb : b.length ≤ 140737488355328) : FcOk (dx b) := by
 have h1 := Wi.getBytes_len (b.drop (Wi.getInt b).2.1.toNat)
 have h2 := Wi.getBytes_len (b.drop ((Wi.getInt b).2.1 + (d1 b).2.1).toNat)
 rw [List.length_drop] at h1 h2
 refine ⟨gi_rng b, ?_, ?_⟩
 ·show (Wi.getBytes (b.drop (Wi.getInt b).2.1.toNat)).1.length ≤ _; omega
 ·show (Wi.getBytes (b.drop ((Wi.getInt b).2.1 + (d1 b).2.1).toNat)).1.length ≤ _; omega
end Lg
end

section
namespace Lg
open Go Go.Fw
theorem srt_mono {l : List Fct} (h : l.Pairwise (fun f g => f.tk ≤ g.tk)) {t : Int} {i j : Nat} (hij : i ≤ j) (hj : j < l.length) (hi : t < (l.getD i f0).tk) : t < (l.getD j f0).tk := by
 by_cases e : i = j
 ·subst e; exact hi
 have := List.pairwise_iff_getElem.1 h i j (by omega) hj (by omega)
 rw [List.getD_eq_getElem?_getD, List.getElem?_eq_getElem (by omega)] at hi ⊢
 simp only [Option.getD_some] at hi ⊢
 omega
theorem clock_0 {l : List Fct} (h : (l.length : Int) = 0) : clock l = 0 := by
 have : l = [] := List.length_eq_zero_iff.1 (by omega)
 unfold clock; rw [if_pos this]
theorem clock_1 {l : List Fct} (h : ¬ (l.length : Int) = 0) : clock l = (l.getD ((l.length : Int) - 1).toNat f0).tk := by
 have : ¬ l = [] := fun e => h (by rw [e]; rfl)
 unfold clock; rw [if_neg this, show ((l.length : Int) - 1).toNat = l.length - 1 by omega]
theorem valid_ok {f : Fct} (h : valid f = 0) : FcOk f := by
 obtain ⟨h1, _, h3, h4⟩ := valid_0 h
 exact ⟨⟨by omega, by omega⟩, by omega, by omega⟩
theorem kn_back {l : List Fct} {t : Int} {k : List UInt8} {i : Nat} (hi : i < l.length) (h : kn l t k = kn (l.take (i + 1)) t k) : (hit (l.getD i f0) t k = true → kn l t k = ((l.getD i f0).vl, true)) ∧ (hit (l.getD i f0) t k = false → kn l t k = kn (l.take i) t k) := by
 rw [kn_take hi] at h
 constructor
 ·intro h2; rw [h, if_pos h2]
 ·intro h2; rw [h, if_neg (by rw [h2]; simp)]
end Lg
end

section
namespace Lg
open Go Go.Fw
def cnt (l : List Fct) (t : Int) : Nat := l.countP fun f => decide (f.tk ≤ t)
theorem cnt_le (l : List Fct) (t : Int) : cnt l t ≤ l.length := List.countP_le_length
theorem cnt_p {l : List Fct} (h : l.Pairwise (fun f g => f.tk ≤ g.tk)) (t : Int) : ∀ k : Int, 0 ≤ k → k < l.length → decide (t < (l.getD k.toNat f0).tk) = decide ((cnt l t : Int) ≤ k) := fun k h0 h1 => by
 obtain ⟨m, rfl⟩ : ∃ m : Nat, k = (m : Int) := ⟨k.toNat, by omega⟩
 rw [Int.toNat_natCast, decide_eq_decide]
 have hm : m < l.length := by omega
 constructor
 ·intro h2
  apply Classical.byContradiction
  intro h3
  have hlt : m < cnt l t := by omega
  have e : l.getD m f0 ∈ untl l t := by
   unfold untl
   rw [List.getD_eq_getElem?_getD, List.getElem?_eq_getElem hm]
   exact List.mem_take_iff_getElem.2 ⟨m, by unfold cnt at hlt; omega, rfl⟩
  rw [unt_filter h] at e
  have := (List.mem_filter.1 e).2
  simp only [decide_eq_true_eq] at this
  omega
 ·intro h2
  apply Classical.byContradiction
  intro h3
  have h4 : l.countP (fun f => decide (f.tk ≤ t)) ≥ (l.take (m + 1)).countP (fun f => decide (f.tk ≤ t)) := by
   conv => lhs; rw [← List.take_append_drop (m + 1) l]
   rw [List.countP_append]; omega
  have h5 : (l.take (m + 1)).countP (fun f => decide (f.tk ≤ t)) = m + 1 := by
   rw [List.countP_eq_length.2 (fun f hf => ?_), List.length_take]
   ·omega
   ·obtain ⟨i, hi, rfl⟩ := List.getElem_of_mem hf
    rw [List.length_take] at hi
    rw [List.getElem_take]
    simp only [decide_eq_true_eq]
    apply Classical.byContradiction
    intro h6
    have := srt_mono h (t := t) (i := i) (j := m) (by omega) hm (by rw [List.getD_eq_getElem?_getD, List.getElem?_eq_getElem (by omega)]; simp only [Option.getD_some]; omega)
    omega
  unfold cnt at h2
  omega
end Lg
namespace Go.Fw
theorem unt_sl {z : PH} {v : Value} {l : List Lg.Fct} {t : Int} (hb : Sl encY z v l) : Sl encY z (slV v 3 0 (Lg.cnt l t)) (Lg.untl l t) :=
 Sl.cut hb ⟨Nat.zero_le _, Lg.cnt_le l t⟩
theorem unt_len {l : List Lg.Fct} {t : Int} : (Lg.untl l t).length ≤ l.length := by unfold Lg.untl; rw [List.length_take]; omega
end Go.Fw
end

section
namespace Lg
open Go Go.Fw
theorem unt_mem {l : List Fct} {t : Int} {f : Fct} (h : f ∈ untl l t) : f ∈ l := List.mem_of_mem_take h
theorem key_len {l : List Fct} (h : ∀ f ∈ l, FcOk f) (t : Int) : ∀ i ∈ (mpN (untl l t) (untl l t).length).map (·.1), i.length ≤ maxLen := fun i hi => by
 obtain ⟨f, hf, rfl⟩ := ((mp_ok (untl l t) (untl l t).length (Nat.le_refl _)).2 i).1 hi
 rw [List.take_length] at hf
 have := (h f (unt_mem hf)).2.1
 unfold maxLen; omega
theorem key_few {l : List Fct} (hl : l.length ≤ 4096) (t : Int) : (mpN (untl l t) (untl l t).length).length ≤ 4096 := by
 have h1 := mp_len (untl l t) (untl l t).length (Nat.le_refl _)
 have h2 := unt_len (l := l) (t := t)
 omega
theorem key_nd (l : List Fct) (t : Int) : ((mpN (untl l t) (untl l t).length).map (·.1)).Nodup := (mp_ok _ _ (Nat.le_refl _)).1
def bwF (l : List Fct) (k : Nat) : List Value := [vi ((l.length : Int) - 1 - k), .agg [vi (l.getD ((l.length : Int) - 1 - k).toNat f0).tk, vs (l.getD ((l.length : Int) - 1 - k).toNat f0).ky, vs (l.getD ((l.length : Int) - 1 - k).toNat f0).vl].toArray]
theorem kb_hit {l : List Fct} {t : Int} {q : List UInt8} {k : Nat} (hk : k < l.length) (h : kn l t q = kn (l.take (l.length - k)) t q) (hh : (l.getD ((l.length : Int) - 1 - k).toNat f0).ky = q ∧ (l.getD ((l.length : Int) - 1 - k).toNat f0).tk ≤ t) :
  kn l t q = ((l.getD ((l.length : Int) - 1 - k).toNat f0).vl, true) := by
 have e : ((l.length : Int) - 1 - k).toNat = l.length - 1 - k := by omega
 rw [e] at hh ⊢
 refine (kn_back (l := l) (i := l.length - 1 - k) (by omega) (by rw [show l.length - 1 - k + 1 = l.length - k by omega]; exact h)).1 ?_
 unfold hit; rw [decide_eq_true hh.1, decide_eq_true hh.2]; rfl
theorem kb_miss {l : List Fct} {t : Int} {q : List UInt8} {k : Nat} (hk : k < l.length) (h : kn l t q = kn (l.take (l.length - k)) t q) (hh : ¬ ((l.getD ((l.length : Int) - 1 - k).toNat f0).ky = q ∧ (l.getD ((l.length : Int) - 1 - k).toNat f0).tk ≤ t)) :
  kn l t q = kn (l.take (l.length - (k + 1))) t q := by
 have e : ((l.length : Int) - 1 - k).toNat = l.length - 1 - k := by omega
 rw [e] at hh
 have h2 := (kn_back (l := l) (i := l.length - 1 - k) (by omega) (by rw [show l.length - 1 - k + 1 = l.length - k by omega]; exact h)).2 (by
  unfold hit
  by_cases h1 : (l.getD (l.length - 1 - k) f0).ky = q
  ·rw [decide_eq_false (p := _ ≤ _) (fun h3 => hh ⟨h1, h3⟩), Bool.and_false]
  ·rw [decide_eq_false h1, Bool.false_and])
 rw [h2, show l.length - 1 - k = l.length - (k + 1) by omega]
end Lg
end

section
namespace Go.Fw
theorem YdX.mono {P : Program} {Y : Value} {vs : List Value} {I : World → Prop} {J J' : Bool → World → Prop} (h : YdX P Y vs I J) (hj : ∀ b w, J b w → J' b w) : YdX P Y vs I J' := fun w hw => by
 obtain ⟨l, f, tmps, asg, body, h1, h2, h3⟩ := h w hw
 refine ⟨l, f, tmps, asg, body, h1, h2, fun m => ?_⟩
 have := h3 m
 exact RoundIn.mono this fun e w' ⟨b, hb, hJ⟩ => ⟨b, hb, hj b w' hJ⟩
end Go.Fw
end

section
namespace Lg
open Go Go.Fw
theorem tk_pre (l : List (List UInt8)) (i : Nat) : ∀ j, i ≤ j → j ≤ l.length → ∃ t, (tkN l j).1 = (tkN l i).1 ++ t := by
  intro j hij
  induction j with
  | zero => intro _; obtain rfl : i = 0 := by omega
            exact ⟨[], by simp⟩
  | succ j ih =>
    intro hj
    by_cases h : i = j + 1
    · subst h; exact ⟨[], by simp⟩
    obtain ⟨t, ht⟩ := ih (by omega) (by omega)
    rw [tkN_succ (by omega)]
    unfold tstep
    split
    · exact ⟨t ++ [(dec (l.getD j [])).1], by rw [ht, List.append_assoc]⟩
    · exact ⟨t, ht⟩
def tkV (l : List (List UInt8)) (k : Nat) : List Value := [.agg [vi ((taken l).getD k f0).tk, vs ((taken l).getD k f0).ky, vs ((taken l).getD k f0).vl].toArray]
theorem tk_at {l : List (List UInt8)} {i : Nat} (hi : i < l.length) (h : ((dec (l.getD i [])).2 = 0 ∧ (tkN l i).2 ≤ (dec (l.getD i [])).1.tk) ∧ (tkN l i).1.length < 512) :
  (tkN l i).1.length < (taken l).length ∧ tkV l (tkN l i).1.length = [.agg [vi (dec (l.getD i [])).1.tk, vs (dec (l.getD i [])).1.ky, vs (dec (l.getD i [])).1.vl].toArray] ∧ (tkN l (i + 1)).1.length = (tkN l i).1.length + 1 ∧ (tkN l (i + 1)).2 = (dec (l.getD i [])).1.tk := by
 have e := tstep_y h
 rw [← tkN_succ hi] at e
 obtain ⟨t, ht⟩ := tk_pre l (i + 1) l.length (by omega) (Nat.le_refl _)
 rw [e] at ht
 have h2 : taken l = (tkN l i).1 ++ [(dec (l.getD i [])).1] ++ t := ht
 refine ⟨by rw [h2]; simp, ?_, by rw [e]; simp, by rw [e]⟩
 have h3 : (taken l).getD (tkN l i).1.length f0 = (dec (l.getD i [])).1 := by
  rw [h2, List.getD_eq_getElem?_getD, List.append_assoc, List.getElem?_append_right (Nat.le_refl _)]; simp
 unfold tkV
 rw [h3]
theorem tk_no {l : List (List UInt8)} {i : Nat} (hi : i < l.length) (h : ¬ (((dec (l.getD i [])).2 = 0 ∧ (tkN l i).2 ≤ (dec (l.getD i [])).1.tk) ∧ (tkN l i).1.length < 512)) : tkN l (i + 1) = tkN l i := by
 rw [tkN_succ hi, tstep_n h]
theorem tk_bd (l : List (List UInt8)) {k : Nat} (hk : k ≤ l.length) : (tkN l k).1.length ≤ 512 ∧ 0 ≤ (tkN l k).2 ∧ (tkN l k).2 ≤ 1048576 := by
 obtain ⟨h1, _, h3, h4⟩ := tk_good l k hk
 exact ⟨h1.len, h3, h4⟩
theorem tk_cells {l : List Fct} {k : Nat} (hk : k < l.length) : (l.take (k + 1)).flatMap fcC = (l.take k).flatMap fcC ++ [vi (l.getD k f0).tk, vs (l.getD k f0).ky, vs (l.getD k f0).vl] := by
 rw [Jn.take_snoc (d := f0) hk, List.flatMap_append]; simp [fcC]
end Lg
end

section
namespace Go.Fw
section
variable {P : Program} {n : Nat} {w0 : World} {zs : List PH} {L : List (Nat × Value)}
theorem fn_enterMx {f : FuncId} {fn : Func} {cd : Code} (hf : P.funcs[f]? = some fn) (hb : fn.body = some cd) {k : Nat} (hk : fn.ntmps = k) {args : List Value} (hn : args.length ≤ k) {w0 : World} {zsr : List PH} {own : List Res} {R : Value → List PH → List Res → Prop}
  (h : ∀ (hsr : List Res) a w, Fr k (enterL 0 args) a → St w0 zsr (own ++ hsr) w → cd.wp P (bodyPostM (Fe none) 0 P fn fun e w' => ∃ v zs1 hs1, e = .returned v ∧ St w0 (zs1 ++ zsr) (hs1 ++ hsr) w' ∧ R v zs1 hs1) a w) : Cx P f args w0 zsr own R := by
 subst hk
 intro hsr w hS
 exact (callsIn_wide (n := 0)).1 (callsIn_of_wp_marks hf hb trivial ((wpIn_wide (n := 0)).2 (h hsr _ w (Fr.enter _ _ hn) hS)))
theorem fn_retGx [I : Dfs] {D : Nat} {zD : PH} {fn : Func} {w : World} {hs : List Res} {a : Act} {R : Value → List PH → List Res → Prop} {rs : List ResultVar} {zsr : List PH} {hsr : List Res} (hI : I.ds = [{ target := .collected D, args := #[] }]) (hD : zD = ph1 D (.deferred (some []))) (hz : zD ∈ zs) (h2 : ∀ z ∈ zsr, z ∈ zs) (hn : ∀ z ∈ zsr, z D = none) (hrs : fn.results = rs.toArray) (hF : Fr n L a) (hS : St w0 zs hs w) {vs : List Value} (hv : ResVs P L hs rs vs) (hs1 : List Res) (h3 : (hs1 ++ hsr).Sublist hs) (hR : R (resVal vs) [] hs1) :
  bodyPostM (Fe none) 0 P fn (fun e w' => ∃ v zs1 hs1, e = .returned v ∧ St w0 (zs1 ++ zsr) (hs1 ++ hsr) w' ∧ R v zs1 hs1) .ret a w := by
 have hnd : a.defers = [{ target := .collected D, args := #[] }] := hF.nodef.trans hI
 subst hD
 obtain ⟨hb, hS'⟩ := hS.shutK (o' := .deferred none) hz h2 hn
 show LeavesInM (Fe none) 0 P fn a.tmps _ a.defers .returning w
 rw [hnd]
 refine ⟨by simp, .inl ⟨D, _, rfl, run_takeDeferred hb, ?_⟩⟩
 exact ⟨_, run_results hrs hF hS' hv, _, [], hs1, rfl, hS'.keep (List.Sublist.refl _) h3, hR⟩
theorem CxH.full12 {f : FuncId} {args : List Value} {zsr : List PH} {r1 ra rb : Res} {hsr : List Res} {J : Res × Res → Prop} (h : CxH P f args w0 zsr [r1, ra, rb] hsr (fun _ zs1 hs1 => zs1 = [] ∧ ∃ r : Res × Res, hs1 = [r1, r.1, r.2] ∧ J r)) (w : World) (hS : St w0 zsr (r1 :: ra :: rb :: hsr) w) :
  Calls P f args.toArray w fun e w' => (∃ v, e = .returned v) ∧ ∃ r : Res × Res, J r ∧ St w0 zsr (r1 :: r.1 :: r.2 :: hsr) w' :=
 Calls.mono (h w hS) fun e w' ⟨v, zs1, hs1, he, hS', h1, r, h2, h3⟩ => by
  subst h1 h2
  exact ⟨⟨v, he⟩, r, h3, hS'⟩
end
end Go.Fw
end

section
namespace Lg
open Go Go.Fw
def LDR (B : Value → Res) (W : Value → List Fct → Res) (J : Jn.JS → Res → Res → Res → Res → Prop) (D : Dk.Dsk → Res → Res → Res → Res → Prop) (L : Ld) (val : Value) : Value → List PH → List Res → Prop := fun r zs hs =>
 r = val ∧ zs = [] ∧ ∃ fv q1 q2 q3 q4 e1 e2 e3 e4, hs = [B fv, W fv L.F, q1, q2, q3, q4, e1, e2, e3, e4] ∧ J L.J q1 q2 q3 q4 ∧ D L.S e1 e2 e3 e4
theorem ldr_of {B : Value → Res} {W : Value → List Fct → Res} {J : Jn.JS → Res → Res → Res → Res → Prop} {D : Dk.Dsk → Res → Res → Res → Res → Prop} {L L' : Ld} {v v' r : Value} {zs : List PH} {hs : List Res} (h : LDR B W J D L v r zs hs) (e1 : L = L') (e2 : v = v') : LDR B W J D L' v' r zs hs := by subst e1 e2; exact h
theorem fc_snoc (l : List Fct) (f : Fct) : l.flatMap fcC ++ [vi f.tk, vs f.ky, vs f.vl] = (l ++ [f]).flatMap fcC := by rw [List.flatMap_append]; simp [fcC]
theorem len_snoc (l : List Fct) (f : Fct) : l.length + 1 = (l ++ [f]).length := by simp
end Lg
end

section
namespace Lg
open Go Go.Fw
def E0 : Ld := ⟨Jn.jnil, Dk.new 8, []⟩
def E1 (F1 : Dk.Dsk) : Ld := ⟨K1, F1, [x1]⟩
def E2 (F2 : Dk.Dsk) : Ld := ⟨K2, F2, [x1, x2]⟩
def E3 (F2 : Dk.Dsk) : Ld := ⟨K2, Dk.trip F2 0, [x1, x2]⟩
def E4 (F2 : Dk.Dsk) : Ld := ⟨Jn.J2 K2 (enc x4), ⟨F2.s, true, 0⟩, [x1, x2]⟩
theorem good1 : Good [x1] := good_add good_nil v1.1 (fun g h => by cases h) (by decide)
theorem good2 : Good [x1, x2] := good_add good1 v1.2.1 (fun g h => by
 have : g = x1 := by simpa using h
 subst this; decide) (by decide)
theorem mnt_off (S : Dk.Dsk) (ps : List Int) : (Dk.mount S ps).off = false := rfl
attribute [local irreducible] Dk.new Jn.app Dk.trip Dk.mount Jn.opn enc in
theorem lives2 : ∃ F1 F2, add E0 x1 = (E1 F1, 0) ∧ add (E1 F1) x2 = (E2 F2, 0) ∧ add (E2 F2) x3 = (E2 F2, 18) ∧ add (E3 F2) x4 = (E4 F2, 23) ∧ Dk.mount ⟨F2.s, true, 0⟩ [0] = F2 ∧ Jn.opn F2 = K2 ∧ F2.off = false := by
 obtain ⟨F1, F2, h1, h2, h3, h4, h5⟩ := lives
 refine ⟨F1, F2, ?_, ?_, ad3 _ _, ?_, h4, h5, ?_⟩
 ·rw [add_5 (L := E0) v1.1 (by show ¬ x1.tk < clock []; decide) (by show ¬ 512 ≤ ([] : List Fct).length; decide) (by show (Jn.app Jn.jnil (Dk.new 8) (enc x1)).2.2.2 = 0; rw [h1])]
  show ((⟨(Jn.app Jn.jnil (Dk.new 8) (enc x1)).1, (Jn.app Jn.jnil (Dk.new 8) (enc x1)).2.1, [] ++ [x1]⟩ : Ld), (0 : Int)) = _
  rw [h1]; rfl
 ·rw [add_5 (L := E1 F1) v1.2.1 (by show ¬ x2.tk < clock [x1]; decide) (by show ¬ 512 ≤ [x1].length; decide) (by show (Jn.app K1 F1 (enc x2)).2.2.2 = 0; rw [h2])]
  show ((⟨(Jn.app K1 F1 (enc x2)).1, (Jn.app K1 F1 (enc x2)).2.1, [x1] ++ [x2]⟩ : Ld), (0 : Int)) = _
  rw [h2]; rfl
 ·rw [add_4 (L := E3 F2) v1.2.2.2 (by show ¬ x4.tk < clock [x1, x2]; decide) (by show ¬ 512 ≤ [x1, x2].length; decide) (by show (Jn.app K2 (Dk.trip F2 0) (enc x4)).2.2.2 ≠ 0; rw [h3]; show (23 : Int) ≠ 0; decide)]
  show ((⟨(Jn.app K2 (Dk.trip F2 0) (enc x4)).1, (Jn.app K2 (Dk.trip F2 0) (enc x4)).2.1, [x1, x2]⟩ : Ld), (Jn.app K2 (Dk.trip F2 0) (enc x4)).2.2.2) = _
  rw [h3]; rfl
 ·rw [← h4]; exact mnt_off _ _
theorem of8 : (Dk.new 8).off = false := rfl
theorem op0 : Jn.opn (Dk.new 8) = Jn.jnil := Jn.fil_opn (Jn.fil_nil (n := 8) (by decide) (by decide))
theorem x_ok : FcOk x1 ∧ FcOk x2 ∧ FcOk x3 ∧ FcOk x4 := ⟨valid_ok v1.1, valid_ok v1.2.1, valid_ok v1.2.2.1, valid_ok v1.2.2.2⟩
end Lg
end

section
namespace Lg
open Go Go.Fw
theorem hit_t {f : Fct} {t : Int} {k : List UInt8} (h1 : f.ky = k) (h2 : f.tk ≤ t) : hit f t k = true := by unfold hit; rw [decide_eq_true h1, decide_eq_true h2]; rfl
theorem hit_f {f : Fct} {t : Int} {k : List UInt8} (h : ¬ f.ky = k ∨ ¬ f.tk ≤ t) : ¬ hit f t k = true := by
 unfold hit
 rcases h with h | h
 ·rw [decide_eq_false h]; simp
 ·rw [decide_eq_false h]; simp
def keyL : List (List UInt8) := [[97], [98], [97, 98], [118, 101, 114, 100, 105, 99, 116, 47, 49], [48], [97, 0]]
def keyOf (n : Int) : List UInt8 := keyL.getD (Gu.arnd n 6).toNat []
theorem keyL_ok : ∀ k ∈ keyL, k ≠ [] ∧ k.length ≤ 9 := by decide
theorem keyL_at (i : Nat) (h : i < 6) : keyL.getD i [] ∈ keyL := by
 rw [List.getD_eq_getElem?_getD, List.getElem?_eq_getElem (show i < keyL.length from h)]; exact List.getElem_mem _
structure Gen (l : List Fct) : Prop where
 good : Good l
 len : l.length ≤ 12
 low : ∀ f ∈ l, f.tk ≤ 24
 sml : ∀ f ∈ l, f.ky.length ≤ 9 ∧ f.vl.length ≤ 60
structure Gst (l : List Fct) (c : Int) : Prop where
 good : Good l
 top : ∀ f ∈ l, f.tk ≤ c
 sml : ∀ f ∈ l, f.ky.length ≤ 9 ∧ f.vl.length ≤ 60
theorem Gst.start : Gst [] 0 := ⟨good_nil, fun f h => (by cases h), fun f h => (by cases h)⟩
theorem Gst.add {l : List Fct} {c d : Int} {k s : List UInt8} (h : Gst l c) (hc : 0 ≤ c + d ∧ c + d ≤ 1048576) (hd : 0 ≤ d) (hl : l.length < 512) (hk : k ∈ keyL) (hs : s.length ≤ 60) : Gst (l ++ [⟨c + d, k, s⟩]) (c + d) := by
 obtain ⟨hk1, hk2⟩ := keyL_ok k hk
 have hv : valid ⟨c + d, k, s⟩ = 0 := by
  refine valid_3 (f := ⟨c + d, k, s⟩) ?_ (by show ¬ (256 < k.length ∨ 7000 < s.length); omega)
  show ¬ ((c + d < 0 ∨ 1048576 < c + d) ∨ k = [])
  rintro (h1 | h1)
  ·omega
  ·exact hk1 h1
 refine ⟨good_add h.good hv (fun g hg => by have := h.top g hg; show g.tk ≤ c + d; omega) hl, fun f hf => ?_, fun f hf => ?_⟩
 ·rcases List.mem_append.1 hf with h1 | h1
  ·have := h.top f h1; omega
  ·obtain rfl : f = ⟨c + d, k, s⟩ := by simpa using h1
   exact Int.le_refl _
 ·rcases List.mem_append.1 hf with h1 | h1
  ·exact h.sml f h1
  ·obtain rfl : f = ⟨c + d, k, s⟩ := by simpa using h1
   exact ⟨hk2, hs⟩
theorem Gst.gen {l : List Fct} {c : Int} (h : Gst l c) (hl : l.length ≤ 12) (hc : c ≤ 24) : Gen l := ⟨h.good, hl, fun f hf => by have := h.top f hf; omega, h.sml⟩
end Lg
end

section
namespace Lg
open Go Go.Fw
def swp (l : List Fct) (i : Nat) : List Fct := (l.set i (l.getD (i + 1) f0)).set (i + 1) (l.getD i f0)
theorem kstep_comm (t : Int) (k : List UInt8) (acc : List UInt8 × Bool) {a b : Fct} (h : a.ky ≠ b.ky) : kstep t k (kstep t k acc b) a = kstep t k (kstep t k acc a) b := by
 unfold kstep
 by_cases ha : hit a t k = true
 ·have hb : ¬ hit b t k = true := fun hb => by
   unfold hit at ha hb
   simp only [Bool.and_eq_true, decide_eq_true_eq] at ha hb
   exact h (ha.1.trans hb.1.symm)
  simp [ha, hb]
 ·simp [ha]
theorem sw_fold (t : Int) (k : List UInt8) : ∀ (i : Nat) (l : List Fct) (acc : List UInt8 × Bool), i + 1 < l.length → (l.getD i f0).ky ≠ (l.getD (i + 1) f0).ky → (swp l i).foldl (kstep t k) acc = l.foldl (kstep t k) acc
 | _, [], _, h, _ => by simp at h
 | _, [_], _, h, _ => by simp at h
 | 0, a :: b :: l, acc, _, h => by
  show l.foldl (kstep t k) (kstep t k (kstep t k acc b) a) = l.foldl (kstep t k) (kstep t k (kstep t k acc a) b)
  rw [kstep_comm t k acc (a := a) (b := b) h]
 | i + 1, a :: b :: l, acc, hi, h => by
  show (swp (b :: l) i).foldl (kstep t k) (kstep t k acc a) = (b :: l).foldl (kstep t k) (kstep t k acc a)
  exact sw_fold t k i (b :: l) _ (by simpa using hi) h
theorem sw_mem : ∀ (i : Nat) (l : List Fct), i + 1 < l.length → ∀ f, f ∈ swp l i ↔ f ∈ l
 | _, [], h, _ => by simp at h
 | _, [_], h, _ => by simp at h
 | 0, a :: b :: l, _, f => by
  show f ∈ b :: a :: l ↔ f ∈ a :: b :: l
  simp only [List.mem_cons]
  constructor
  ·rintro (h | h | h)
   ·exact .inr (.inl h)
   ·exact .inl h
   ·exact .inr (.inr h)
  ·rintro (h | h | h)
   ·exact .inr (.inl h)
   ·exact .inl h
   ·exact .inr (.inr h)
 | i + 1, a :: b :: l, hi, f => by
  show f ∈ a :: swp (b :: l) i ↔ f ∈ a :: b :: l
  rw [List.mem_cons, sw_mem i (b :: l) (by simpa using hi) f]
  exact List.mem_cons.symm
theorem sw_srt : ∀ (i : Nat) (l : List Fct), i + 1 < l.length → (l.getD i f0).tk = (l.getD (i + 1) f0).tk → l.Pairwise (fun f g => f.tk ≤ g.tk) → (swp l i).Pairwise (fun f g => f.tk ≤ g.tk)
 | _, [], h, _, _ => by simp at h
 | _, [_], h, _, _ => by simp at h
 | 0, a :: b :: l, _, he, h => by
  obtain ⟨h1, h2⟩ := List.pairwise_cons.1 h
  obtain ⟨h3, h4⟩ := List.pairwise_cons.1 h2
  have he : a.tk = b.tk := he
  show (b :: a :: l).Pairwise _
  refine List.pairwise_cons.2 ⟨fun g hg => ?_, List.pairwise_cons.2 ⟨fun g hg => h1 g (List.mem_cons_of_mem _ hg), h4⟩⟩
  rcases List.mem_cons.1 hg with rfl | hg
  ·omega
  ·exact h3 g hg
 | i + 1, a :: b :: l, hi, he, h => by
  obtain ⟨h1, h2⟩ := List.pairwise_cons.1 h
  show (a :: swp (b :: l) i).Pairwise _
  refine List.pairwise_cons.2 ⟨fun g hg => h1 g ((sw_mem i (b :: l) (by simpa using hi) g).1 hg), sw_srt i (b :: l) (by simpa using hi) he h2⟩
structure Tn (l q : List Fct) : Prop where
 len : q.length = l.length
 kn : ∀ t k, Lg.kn q t k = Lg.kn l t k
 mem : ∀ f, f ∈ q ↔ f ∈ l
 srt : l.Pairwise (fun f g => f.tk ≤ g.tk) → q.Pairwise (fun f g => f.tk ≤ g.tk)
theorem Tn.refl (l : List Fct) : Tn l l := ⟨rfl, fun _ _ => rfl, fun _ => Iff.rfl, id⟩
theorem Tn.step {l q : List Fct} (h : Tn l q) {i : Nat} (hi : i + 1 < q.length) (ht : (q.getD i f0).tk = (q.getD (i + 1) f0).tk) (hk : (q.getD i f0).ky ≠ (q.getD (i + 1) f0).ky) : Tn l (swp q i) :=
 ⟨by unfold swp; rw [List.length_set, List.length_set]; exact h.len, fun t k => (sw_fold t k i q _ hi hk).trans (h.kn t k), fun f => (sw_mem i q hi f).trans (h.mem f), fun hs => sw_srt i q hi ht (h.srt hs)⟩
theorem Tn.ok {l q : List Fct} (h : Tn l q) (ho : ∀ f ∈ l, FcOk f) : ∀ f ∈ q, FcOk f := fun f hf => ho f ((h.mem f).1 hf)
end Lg
end

section
namespace Lg
open Go Go.Fw
end Lg
namespace Lg
theorem fq_mem {l : List Fct} {i : Nat} (h : i < l.length) : l.getD i f0 ∈ l := by
 rw [List.getD_eq_getElem?_getD, List.getElem?_eq_getElem h]; exact List.getElem_mem h
end Lg
end

section
namespace Go.Fw
section
variable {P : Program} {n : Nat} {w0 : World} {zs : List PH} {hs : List Res} {L : List (Nat × Value)} {d : Option Tmp} {ty t : TypeId} {pos : String} {af : Array Edge} {g : Option (Nat × Bool)} {x y : Operand}
end
end Go.Fw
end

section
namespace Go.Fw
def Rws {α : Type} (E : Enc α) (z0 z : PH) (vl : List Value) : Prop := ∀ v ∈ vl, ∃ x, Sl E z0 v x ∨ Sl E z v x
section
variable {α : Type} {E : Enc α} {z0 z z' : PH} {vl ul : List Value}
theorem Rws.nil : Rws E z0 z [] := fun v h => by cases h
theorem Rws.cons {v : Value} {x : List α} (h : Sl E z0 v x ∨ Sl E z v x) (k : Rws E z0 z vl) : Rws E z0 z (v :: vl) := fun u hu => by
 rcases List.mem_cons.1 hu with rfl | hu
 ·exact ⟨x, h⟩
 ·exact k u hu
theorem Rws.mono (hl : z.le z') (h : Rws E z0 z vl) : Rws E z0 z' vl := fun v hv => by
 obtain ⟨x, hx | hx⟩ := h v hv
 ·exact ⟨x, .inl hx⟩
 ·exact ⟨x, .inr (hx.mono hl)⟩
theorem Rws.app (h : Rws E z0 z vl) (k : Rws E z0 z ul) : Rws E z0 z (vl ++ ul) := fun v hv => by
 rcases List.mem_append.1 hv with hv | hv
 ·exact h v hv
 ·exact k v hv
theorem Rws.at_ (h : Rws E z0 z vl) {k : Nat} (hk : k < vl.length) : ∃ x z', (z' = z0 ∨ z' = z) ∧ Sl E z' (vl.getD k undef) x := by
 have e : vl.getD k undef = vl[k] := by rw [List.getD_eq_getElem?_getD, List.getElem?_eq_getElem hk]; rfl
 rw [e]
 obtain ⟨x, hx | hx⟩ := h _ (List.getElem_mem hk)
 ·exact ⟨x, z0, .inl rfl, hx⟩
 ·exact ⟨x, z, .inr rfl, hx⟩
end
end Go.Fw
end

section
namespace Jn
open Go Go.Fw
theorem fil_lay {S : Dk.Dsk} {J : JS} (h : Fil S J) {t : List UInt8} (ht : t.length ≤ 8000) (hn : J.next ≤ 4096) (hr : ¬ room J S < cnt t.length) :
  ∃ F, app J S t = (J3 J t, F, J.next, 0) ∧ Fil F (J3 J t) ∧ F.s.length = S.s.length ∧ (∀ j, j < J.en.toNat → txa F j = txa S j) ∧ ∀ i, i < (cnt t.length).toNat → txa F (J.en.toNat + i) = sec J.next t i := by
 obtain ⟨F, b, hG, hw, hlen, hat, hb⟩ := gon_app h.g ht hn hr
 obtain ⟨F', hF, hw', hl'⟩ := fil_app h ht hn hr
 obtain ⟨rfl, _⟩ := Prod.mk.inj (hw.symm.trans hw')
 have hc0 := cnt_rng t.length
 have hsl := secs_len J.next t
 have he1 := h.g.wf.e1
 have hR := hr
 unfold room at hR
 refine ⟨F, ?_, hF, hl', fun j hj => ?_, fun i hi => ?_⟩
 ·rw [app_6 (by rw [h.g.cl]; simp) ⟨ht, hn⟩ hr (by rw [hw']) (by rw [hw']; simp), hw']
 ·unfold txa; rw [hat j (by omega), wdone_lo hj]
 ·have hwn : (S.s.getD (J.en.toNat + i) Dk.s0).wn = false := h.wn _ (Dk.getD_mem (by omega))
  unfold txa
  rw [hat _ (by omega), wdone_in (by omega), hwn, if_neg (by simp), secs_at _ _ hi]
end Jn
namespace Lg
open Go Go.Fw
def sz (f : Fct) : Nat := (Jn.cnt ((enc f).length : Int)).toNat
def us (l : List Fct) : Nat := (l.map sz).sum
theorem us_snoc (l : List Fct) (f : Fct) : us (l ++ [f]) = us l + sz f := by unfold us; simp
theorem us_take {l : List Fct} {k : Nat} (h : k < l.length) : us (l.take (k + 1)) = us (l.take k) + sz (l.getD k f0) := by rw [Jn.take_snoc (d := f0) h, us_snoc]
theorem us_le {l : List Fct} {c : Nat} (h : ∀ f ∈ l, sz f ≤ c) : us l ≤ c * l.length := by
 induction l with
 | nil => simp [us]
 | cons f l ih =>
  have h1 := h f (by simp)
  have h2 := ih fun g hg => h g (by simp [hg])
  show sz f + us l ≤ c * (l.length + 1)
  rw [Nat.mul_add]; omega
theorem sz_96 {f : Fct} (h : (enc f).length ≤ 96) : 1 ≤ sz f ∧ sz f ≤ 2 := by
 have h1 := Jn.cnt_1le (t := enc f) (by omega)
 unfold sz
 refine ⟨h1, ?_⟩
 by_cases h0 : (enc f).length = 0
 ·rw [h0]; decide
 ·rw [Jn.cnt_4 (by omega)]; omega
theorem us_mono {l : List Fct} : ∀ {i j : Nat}, i ≤ j → us (l.take i) ≤ us (l.take j) := fun {i j} h => by
 have : l.take i = (l.take j).take i := by rw [List.take_take, Nat.min_eq_left h]
 obtain ⟨d, hd⟩ : ∃ d, l.take j = l.take i ++ d := ⟨(l.take j).drop i, by rw [this, List.take_append_drop]⟩
 rw [hd]; unfold us; simp
structure Fld (q : List Fct) (L : Ld) : Prop where
 F : L.F = q
 good : Good q
 sml : ∀ f ∈ q, (enc f).length ≤ 96
 fil : Jn.Fil L.S L.J
 len : L.S.s.length = 200
 tx : L.J.tx = q.map enc
 en : L.J.en = us q
 lay : ∀ i, i < q.length → ∀ k, k < sz (q.getD i f0) → Jn.txa L.S (us (q.take i) + k) = Jn.sec ((i : Int) + 1) (enc (q.getD i f0)) k
theorem fl_new : Fld [] ⟨Jn.jnil, Dk.new 200, []⟩ := ⟨rfl, good_nil, fun f h => (by cases h), Jn.fil_nil (by decide) (by decide), Dk.new_len 200, rfl, rfl, fun i h => absurd h (Nat.not_lt_zero _)⟩
theorem getD_snoc (l : List Fct) (f : Fct) (i : Nat) : (l ++ [f]).getD i f0 = if i < l.length then l.getD i f0 else if i = l.length then f else f0 := by
 split
 ·rename_i h; rw [List.getD_eq_getElem?_getD, List.getElem?_append_left h, List.getD_eq_getElem?_getD]
 ·rename_i h
  split
  ·rename_i h2; subst h2; rw [List.getD_eq_getElem?_getD, List.getElem?_append_right (Nat.le_refl _), Nat.sub_self]; rfl
  ·rename_i h2; rw [List.getD_eq_getElem?_getD, List.getElem?_append_right (by omega), List.getElem?_eq_none (by simp; omega)]; rfl
theorem fl_add {q : List Fct} {L : Ld} (h : Fld q L) {f : Fct} (hv : valid f = 0) (hc : ¬ f.tk < clock q) (hs : (enc f).length ≤ 96) (hq : q.length < 48) : ∃ L', add L f = (L', 0) ∧ Fld (q ++ [f]) L' := by
 have hu := us_le (l := q) (c := 2) fun f hf => (sz_96 (h.sml f hf)).2
 have hz := sz_96 hs
 have hnx := h.fil.next
 rw [h.tx, List.length_map] at hnx
 have hen := h.en
 have hln := h.len
 have hzz : ((sz f : Nat) : Int) = Jn.cnt ((enc f).length : Int) := by
  have := Jn.cnt_rng ((enc f).length : Int)
  unfold sz; omega
 obtain ⟨F, hA, hF, hl, hlo, hin⟩ := Jn.fil_lay h.fil (t := enc f) (by omega) (by omega) (by unfold Jn.room; omega)
 have hFq := h.F
 refine ⟨⟨Jn.J3 L.J (enc f), F, L.F ++ [f]⟩, ?_, ?_⟩
 ·rw [add_5 hv (by rw [hFq]; exact hc) (by rw [hFq]; omega) (by rw [hA]), hA]
 have hent : L.J.en.toNat = us q := by omega
 rw [hent] at hlo hin
 refine ⟨by rw [hFq], good_add h.good hv (clock_le h.good hc) (by omega), fun g hg => ?_, hF, hl.trans hln, ?_, ?_, fun i hi k hk => ?_⟩
 ·rcases List.mem_append.1 hg with h1 | h1
  ·exact h.sml g h1
  ·obtain rfl : g = f := by simpa using h1
   exact hs
 ·show L.J.tx ++ [enc f] = (q ++ [f]).map enc
  rw [h.tx, List.map_append]; rfl
 ·show L.J.en + ((Jn.secs L.J.next (enc f)).length : Int) = _
  rw [us_snoc, Jn.secs_len, hen]; unfold sz; omega
 ·rw [List.length_append, List.length_singleton] at hi
  rw [getD_snoc] at hk ⊢
  show Jn.txa F _ = _
  by_cases h1 : i < q.length
  ·rw [if_pos h1] at hk ⊢
   have hm := us_mono (l := q) (i := i + 1) (j := q.length) (by omega)
   rw [us_take h1, List.take_length] at hm
   rw [List.take_append_of_le_length (by omega), hlo _ (by omega)]
   exact h.lay i h1 k hk
  ·obtain rfl : i = q.length := by omega
   rw [if_neg h1, if_pos rfl] at hk ⊢
   rw [List.take_left' rfl, hin k hk, hnx]
end Lg
end

section
namespace Lg
open Go Go.Fw
def ac (q : List Fct) (i : Nat) : Nat → Jn.Acc
 | 0 => ([], [])
 | m + 1 => if m = i then ac q i m else Jn.addR (ac q i m) ((m : Int) + 1) (enc (q.getD m f0))
structure Hol (q : List Fct) (L : Ld) (S : Dk.Dsk) (i k : Nat) : Prop where
 still : Jn.Still S
 len : S.s.length = 200
 oth : ∀ j, j ≠ k → Jn.txa S j = Jn.txa L.S j
 bad : (Jn.unp (Jn.txa S k)).ok = false
 lt : i < q.length
 lo : us (q.take i) ≤ k
 hi : k < us (q.take (i + 1))
end Lg
end

section
namespace Lg
open Go Go.Fw
structure Fil0 (q : List Fct) : Prop where
 good : Good q
 sml : ∀ f ∈ q, (enc f).length ≤ 96
 len : q.length ≤ 40
theorem Gen.fil {q : List Fct} (h : Gen q) : Fil0 q := ⟨h.good, fun f hf => by have := enc_len f; have := h.sml f hf; omega, by have := h.len; omega⟩
theorem Fil0.us {q : List Fct} (h : Fil0 q) : us q ≤ 80 := by
 have := us_le (l := q) (c := 2) fun f hf => (sz_96 (h.sml f hf)).2
 have := h.len
 omega
theorem tick_next {q : List Fct} (h : Good q) {j : Nat} (hj : j < q.length) : ¬ (q.getD j f0).tk < clock (q.take j) := by
 unfold clock
 by_cases h0 : q.take j = []
 ·rw [if_pos h0]; have := (valid_0 (h.ok _ (fq_mem hj))).1.1; omega
 ·rw [if_neg h0]
  have hl : (q.take j).length = j := by rw [List.length_take]; omega
  have hp : 0 < j := by
   rcases Nat.eq_zero_or_pos j with h1 | h1
   ·subst h1; exact absurd rfl h0
   ·exact h1
  rw [hl]
  have := List.pairwise_iff_getElem.1 h.srt (j - 1) j (by omega) hj (by omega)
  have e1 : q.getD j f0 = q[j] := by rw [List.getD_eq_getElem?_getD, List.getElem?_eq_getElem hj]; rfl
  have e2 : (q.take j).getD (j - 1) f0 = q[j - 1] := by rw [List.getD_eq_getElem?_getD, List.getElem?_take, if_pos (by omega), List.getElem?_eq_getElem (by omega)]; rfl
  rw [e1, e2]
  omega
theorem fl_next {q : List Fct} (hq : Fil0 q) {j : Nat} {L : Ld} (h : Fld (q.take j) L) (hj : j < q.length) : ∃ L', add L (q.getD (j : Int).toNat f0) = (L', 0) ∧ Fld (q.take (j + 1)) L' := by
 rw [Int.toNat_natCast]
 have hm := fq_mem hj
 have hl := hq.len
 obtain ⟨L', h1, h2⟩ := fl_add h (hq.good.ok _ hm) (tick_next hq.good hj) (hq.sml _ hm) (by rw [List.length_take]; omega)
 exact ⟨L', h1, by rw [Jn.take_snoc (d := f0) hj]; exact h2⟩
theorem fc_at {q : List Fct} (hq : Fil0 q) {j : Nat} (hj : j < q.length) : FcOk (q.getD (j : Int).toNat f0) ∧ ((q.getD (j : Int).toNat f0).ky.length ≤ 1048576 ∧ (q.getD (j : Int).toNat f0).vl.length ≤ 1048576) := by
 rw [Int.toNat_natCast]
 have hm := fq_mem hj
 have := valid_0 (hq.good.ok _ hm)
 exact ⟨good_fc hq.good _ hm, by omega, by omega⟩
theorem op200 : Jn.opn (Dk.new 200) = Jn.jnil := Jn.fil_opn (Jn.fil_nil (by decide) (by decide))
def usL (q : List Fct) (k : Nat) : List Int := (List.range k).map fun i => (us (q.take i) : Int)
end Lg
namespace Lg
theorem Fld.good_F {q : List Fct} {L : Ld} (h : Fld q L) : Good L.F := by rw [h.F]; exact h.good
end Lg
namespace Lg
open Go Go.Fw
theorem cut_len (q : List Fct) (lo : Nat) : 0 + (List.drop 0 (List.take (lo : Int).toNat q)).length + (List.drop ((lo : Int) + 1).toNat (List.take q.length q)).length = (q.take lo ++ q.drop (lo + 1)).length := by
 rw [List.drop_zero, Int.toNat_natCast, List.take_length, show ((lo : Int) + 1).toNat = lo + 1 by omega, List.length_append, Nat.zero_add]
end Lg
end

section
namespace Lg
open Go Go.Fw
theorem root_16 (ls : List Mk.Lf) : (Mk.rootE ls).1.length = 16 := by
 by_cases h : Mk.vE ls = 0
 ·rw [Mk.rootE_n h]; exact Mk.rootD_16 _ _
 ·rw [Mk.rootE_e h]; exact List.length_replicate
theorem mp_kn {l : List Fct} {t : Int} (h : ∀ f ∈ l, f.tk ≤ t) (key : List UInt8) : ∀ k, k ≤ l.length → aget (mpN l k) key = if (kn (l.take k) t key).2 = true then some (vs (kn (l.take k) t key).1) else none
 | 0, _ => rfl
 | k + 1, hk => by
  have hx := h _ (fq_mem (l := l) (i := k) (by omega))
  rw [mp_succ (by omega), aget_aset, kn_take (by omega), mp_kn h key k (by omega)]
  by_cases he : key = (l.getD k f0).ky
  ·rw [if_pos he, if_pos (hit_t he.symm hx)]; rfl
  ·rw [if_neg he, if_neg (hit_f (.inl fun h9 => he h9.symm))]
theorem kn_has {l : List Fct} {t : Int} {key : List UInt8} : (∃ f ∈ l, f.tk ≤ t ∧ f.ky = key) → (kn l t key).2 = true := by
 intro h
 have : ∀ (l : List Fct) (a : List UInt8 × Bool), (a.2 = true ∨ ∃ f ∈ l, f.tk ≤ t ∧ f.ky = key) → (l.foldl (kstep t key) a).2 = true := by
  intro l
  induction l with
  | nil =>
   intro a h
   rcases h with h | ⟨f, hf, _⟩
   ·exact h
   ·cases hf
  | cons g l ih =>
   intro a h
   refine ih _ ?_
   unfold kstep
   by_cases hg : hit g t key = true
   ·rw [if_pos hg]; exact .inl rfl
   ·rw [if_neg hg]
    rcases h with h | ⟨f, hf, h1, h2⟩
    ·exact .inl h
    ·rcases List.mem_cons.1 hf with rfl | hf
     ·exact absurd (hit_t h2 h1) hg
     ·exact .inr ⟨f, hf, h1, h2⟩
 exact this l _ (.inr h)
def lv (l : List Fct) (t : Int) (k : List UInt8) : Mk.Lf := (k, (kn l t k).1)
def lvs (l : List Fct) (t : Int) : List Mk.Lf := (keys l t).map (lv l t)
theorem lvs_len (l : List Fct) (t : Int) : (lvs l t).length = (keys l t).length := by simp [lvs]
theorem unt_tk {l : List Fct} (h : l.Pairwise (fun f g => f.tk ≤ g.tk)) (t : Int) : ∀ f ∈ untl l t, f.tk ≤ t := fun f hf => by
 rw [unt_filter h] at hf
 simpa using (List.mem_filter.1 hf).2
theorem lv_look {l : List Fct} (h : l.Pairwise (fun f g => f.tk ≤ g.tk)) {t : Int} {k : List UInt8} (hk : k ∈ keys l t) : aget (mpN (untl l t) (untl l t).length) k = some (vs (kn l t k).1) := by
 rw [mp_kn (unt_tk h t) k _ (Nat.le_refl _), List.take_length, kn_untl h, if_pos (kn_has ((keys_mem l t k).1 hk))]
theorem key_at {l : List Fct} {t : Int} {j : Nat} (h : j < (keys l t).length) : (keys l t).getD (j : Int).toNat [] ∈ keys l t := by
 rw [Int.toNat_natCast, List.getD_eq_getElem?_getD, List.getElem?_eq_getElem h]; exact List.getElem_mem h
theorem lv_snoc {l : List Fct} {t : Int} {j : Nat} (h : j < (keys l t).length) : ((lvs l t).take j).flatMap kvC ++ [vs ((keys l t).getD (j : Int).toNat []), vs (kn l t ((keys l t).getD (j : Int).toNat [])).1] = ((lvs l t).take (j + 1)).flatMap kvC := by
 have e : (lvs l t)[j]'(by rw [lvs_len]; exact h) = lv l t ((keys l t).getD (j : Int).toNat []) := by
  unfold lvs
  rw [List.getElem_map, Int.toNat_natCast, List.getD_eq_getElem?_getD, List.getElem?_eq_getElem h]; rfl
 rw [List.take_succ_eq_append_getElem (by rw [lvs_len]; exact h), e, List.flatMap_append]
 rfl
theorem kn_mem {l : List Fct} {t : Int} {k : List UInt8} : (kn l t k).1 = [] ∨ ∃ f ∈ l, (kn l t k).1 = f.vl := by
 have : ∀ (l : List Fct) (a : List UInt8 × Bool), (l.foldl (kstep t k) a).1 = a.1 ∨ ∃ f ∈ l, (l.foldl (kstep t k) a).1 = f.vl := by
  intro l
  induction l with
  | nil => intro a; exact .inl rfl
  | cons g l ih =>
   intro a
   rcases ih (kstep t k a g) with h | ⟨f, hf, h⟩
   ·rw [List.foldl_cons, h]
    unfold kstep
    by_cases hg : hit g t k = true
    ·rw [if_pos hg]; exact .inr ⟨g, List.mem_cons_self .., rfl⟩
    ·rw [if_neg hg]; exact .inl rfl
   ·exact .inr ⟨f, List.mem_cons_of_mem _ hf, h⟩
 exact this l _
theorem lv_ok {l : List Fct} (h : ∀ f ∈ l, FcOk f) (t : Int) : ∀ x ∈ lvs l t, kvP x := fun x hx => by
 obtain ⟨k, hk, rfl⟩ := List.mem_map.1 hx
 obtain ⟨f, hf, _, rfl⟩ := (keys_mem l t k).1 hk
 refine ⟨(h f hf).2.1, ?_⟩
 show (kn l t f.ky).1.length ≤ _
 rcases kn_mem (l := l) (t := t) (k := f.ky) with h1 | ⟨g, hg, h1⟩
 ·rw [h1]; simp
 ·rw [h1]; exact (h g hg).2.2
end Lg
namespace Lg
theorem kins_len (l : List (List UInt8)) (k : List UInt8) : (kins l k).length ≤ l.length + 1 := by
 induction l with
 | nil => simp [kins]
 | cons x l ih =>
  unfold kins
  split
  ·rw [List.length_cons, List.length_cons]; omega
  ·split
   ·simp
   ·simp
theorem keys_le (l : List Fct) (t : Int) : (keys l t).length ≤ l.length := by
 have : ∀ (l : List Fct) (o : List (List UInt8)), (l.foldl (kst t) o).length ≤ o.length + l.length := by
  intro l
  induction l with
  | nil => intro o; exact Nat.le_refl _
  | cons f l ih =>
   intro o
   have h1 := ih (kst t o f)
   have h2 : (kst t o f).length ≤ o.length + 1 := by
    unfold kst
    split
    ·exact kins_len _ _
    ·omega
   rw [List.foldl_cons, List.length_cons]; omega
 have h := this l []
 rw [List.length_nil, Nat.zero_add] at h
 exact h
end Lg
end

section
namespace Lg
open Go Go.Fw
def shf (T : Int) (f : Fct) : Fct := ⟨f.tk + T + 1, f.ky, f.vl⟩
def mrs (T : Int) (m : List Fct) (j : Nat) : List Fct := (m.take j).map (shf T) ++ m.drop j
end Lg
namespace Lg
end Lg
namespace Lg
end Lg
end

section
namespace Lg
open Go Go.Fw
theorem keys_0 (l : List Fct) (t : Int) : keys (l.take 0) t = [] := rfl
theorem keys_take {l : List Fct} {i : Nat} (h : i < l.length) (t : Int) : keys (l.take (i + 1)) t = kst t (keys (l.take i) t) (l.getD i f0) := by
 unfold keys
 rw [Jn.take_snoc (d := f0) h, List.foldl_append]; rfl
theorem keys_no {l : List Fct} {i : Nat} (h : i < l.length) {t : Int} (ht : t < (l.getD (i : Int).toNat f0).tk) : keys (l.take (i + 1)) t = keys (l.take i) t := by
 rw [keys_take h]
 rw [Int.toNat_natCast] at ht
 unfold kst
 rw [if_neg (by omega)]
theorem keys_yes {l : List Fct} {i : Nat} (h : i < l.length) {t : Int} (ht : ¬ t < (l.getD (i : Int).toNat f0).tk) : keys (l.take (i + 1)) t = kins (keys (l.take i) t) (l.getD (i : Int).toNat f0).ky := by
 rw [keys_take h]
 rw [Int.toNat_natCast] at ht ⊢
 unfold kst
 rw [if_pos (by omega)]
theorem kins_at : ∀ (O : List (List UInt8)) (key : List UInt8) (k : Nat), k ≤ O.length → (∀ j, j < k → O.getD j [] < key) → (k = O.length ∨ (¬ O.getD k [] < key ∧ ¬ O.getD k [] = key)) → kins O key = O.take k ++ key :: O.drop k
 | [], key, k, hk, _, _ => by
  obtain rfl : k = 0 := by simpa using hk
  rfl
 | x :: O, key, 0, _, _, h => by
  rcases h with h | ⟨h1, h2⟩
  ·cases h
  ·have h1 : ¬ x < key := h1
   have h2 : ¬ x = key := h2
   unfold kins
   rw [if_neg h1, if_neg h2]; rfl
 | x :: O, key, k + 1, hk, hlo, h => by
  have h0 : x < key := hlo 0 (by omega)
  unfold kins
  rw [if_pos h0, kins_at O key k (by simpa using hk) (fun j hj => by have := hlo (j + 1) (by omega); rwa [List.getD_cons_succ] at this) (by
   rcases h with h | h
   ·left; simpa using h
   ·right; rwa [List.getD_cons_succ] at h)]
  rfl
theorem kins_eq : ∀ (O : List (List UInt8)) (key : List UInt8) (k : Nat), k < O.length → (∀ j, j < k → O.getD j [] < key) → O.getD k [] = key → kins O key = O
 | [], _, _, hk, _, _ => by simp at hk
 | x :: O, key, 0, _, _, h => by
  have h : x = key := h
  subst h
  unfold kins
  rw [if_neg (List.lt_irrefl x), if_pos rfl]
 | x :: O, key, k + 1, hk, hlo, h => by
  have h0 : x < key := hlo 0 (by omega)
  unfold kins
  rw [if_pos h0, kins_eq O key k (by simpa using hk) (fun j hj => by have := hlo (j + 1) (by omega); rwa [List.getD_cons_succ] at this) (by rwa [List.getD_cons_succ] at h)]
theorem below_next {O : List (List UInt8)} {key : List UInt8} {k : Nat} (h : ∀ j, j < k → O.getD j [] < key) (hb : Op.bytesLess (O.getD (k : Int).toNat []) key = true) : ∀ j, j < k + 1 → O.getD j [] < key := fun j hj => by
 rcases Nat.lt_or_ge j k with h1 | h1
 ·exact h j h1
 ·rw [Int.toNat_natCast] at hb
  rw [show j = k by omega]; exact (bl_iff _ _).1 hb
theorem kins_row {O : List (List UInt8)} {key : List UInt8} {k : Nat} (hk : k ≤ O.length) (h : ∀ j, j < k → O.getD j [] < key) (hx : ¬ (k : Int) < O.length ∨ Op.bytesLess (O.getD (k : Int).toNat []) key = false) (hi : (k : Int) = O.length ∨ ¬ O.getD (k : Int).toNat [] = key) : kins O key = O.take k ++ key :: O.drop k :=
 kins_at O key k hk h (by
  rw [Int.toNat_natCast] at hx hi
  by_cases h1 : k = O.length
  ·exact .inl h1
  ·right
   have h3 : ¬ O.getD k [] < key := fun h2 => by
    rcases hx with hx | hx
    ·omega
    ·rw [(bl_iff _ _).2 h2] at hx; exact absurd hx (by simp)
   refine ⟨h3, fun h2 => ?_⟩
   rcases hi with hi | hi
   ·omega
   ·exact hi h2)
theorem kins_same {O : List (List UInt8)} {key : List UInt8} {k : Nat} (hk : k ≤ O.length) (h : ∀ j, j < k → O.getD j [] < key) (hi : ¬ (k : Int) = O.length ∧ O.getD (k : Int).toNat [] = key) : kins O key = O := by
 rw [Int.toNat_natCast] at hi
 exact kins_eq O key k (by omega) h hi.2
theorem ins_cells (O : List (List UInt8)) (key : List UInt8) (k : Nat) : (([] ++ (List.drop 0 (List.take (k : Int).toNat (O.map vs)))) ++ [vs key]) ++ List.drop (k : Int).toNat (List.take O.length (O.map vs)) = (O.take k ++ key :: O.drop k).map vs := by
 have e : List.take O.length (O.map vs) = O.map vs := List.take_of_length_le (by simp)
 rw [Int.toNat_natCast, List.drop_zero, List.nil_append, e, List.append_assoc, List.map_append, List.map_take, List.map_cons, List.map_drop]; rfl
theorem ins_len (O : List (List UInt8)) (key : List UInt8) {k : Nat} (hk : k ≤ O.length) : 0 + ((k : Int).toNat - 0) + 1 + (O.length - (k : Int).toNat) = (O.take k ++ key :: O.drop k).length := by
 rw [Int.toNat_natCast, List.length_append, List.length_cons, List.length_take, List.length_drop]; omega
end Lg
end

section
namespace Lg
open Go Go.Fw
theorem gen_kv {l : List Fct} (h : Gen l) (t : Int) : ∀ x ∈ lvs l t, x.1.length ≤ 9 ∧ x.2.length ≤ 60 := fun x hx => by
 obtain ⟨k, hk, rfl⟩ := List.mem_map.1 hx
 obtain ⟨f, hf, _, rfl⟩ := (keys_mem l t k).1 hk
 refine ⟨(h.sml f hf).1, ?_⟩
 show (kn l t f.ky).1.length ≤ _
 rcases kn_mem (l := l) (t := t) (k := f.ky) with h1 | ⟨g, hg, h1⟩
 ·rw [h1]; simp
 ·rw [h1]; exact (h.sml g hg).2
theorem lvs_vE {l : List Fct} (h : Gen l) (t : Int) : Mk.vE (lvs l t) = 0 := by
 have hk := keys_le l t
 have hl := h.len
 have hkv := gen_kv h t
 refine Mk.vE_0 ?_ ?_
 ·rintro (h1 | h1)
  ·rw [lvs_len] at h1; omega
  ·obtain ⟨x, hx, hb⟩ := List.any_eq_true.1 h1
   have := hkv x hx
   unfold Mk.bigB at hb
   simp only [Bool.or_eq_true, decide_eq_true_eq] at hb
   omega
 ·have hs := keys_srt l t
  have : ∀ n, n ≤ (lvs l t).length → Mk.ascN (lvs l t) n = true := by
   intro n
   induction n with
   | zero => intro _; rfl
   | succ n ih =>
    intro hn
    unfold Mk.ascN
    rw [ih (by omega), Bool.true_and]
    by_cases h0 : n = 0
    ·rw [decide_eq_true h0]; rfl
    ·rw [lvs_len] at hn
     have h1 := List.pairwise_iff_getElem.1 hs (n - 1) n (by omega) (by omega) (by omega)
     have e1 : ((lvs l t).getD (n - 1) kv0).1 = (keys l t)[n - 1] := by
      unfold lvs
      rw [List.getD_eq_getElem?_getD, List.getElem?_map, List.getElem?_eq_getElem (by omega)]; rfl
     have e2 : ((lvs l t).getD n kv0).1 = (keys l t)[n] := by
      unfold lvs
      rw [List.getD_eq_getElem?_getD, List.getElem?_map, List.getElem?_eq_getElem (by omega)]; rfl
     rw [e1, e2, show Mk.lt (keys l t)[n - 1] (keys l t)[n] = true from (bl_iff _ _).2 h1]
     simp
  exact this _ (Nat.le_refl _)
end Lg
namespace Lg
open Go Go.Fw
theorem Tn.gen {l q : List Fct} (h : Tn l q) (hg : Gen l) : Gen q :=
 ⟨⟨by rw [h.len]; exact hg.good.len, fun f hf => hg.good.ok f ((h.mem f).1 hf), h.srt hg.good.srt⟩, by rw [h.len]; exact hg.len, fun f hf => hg.low f ((h.mem f).1 hf), fun f hf => hg.sml f ((h.mem f).1 hf)⟩
theorem roots_no {a b : List Fct} (ha : Gen a) (hb : Gen b) {t u : Int} (hne : ¬ lvs a t = lvs b u) (he : (Mk.rootE (lvs a t)).1 = (Mk.rootE (lvs b u)).1) (hc : Mk.coll (lvs a t) ⟨0, (lvs b u).length, lvs b u, []⟩ = false) : False :=
 hne (Mk.root_sound (lvs_vE ha t) (lvs_vE hb u) (fun x hx => by have := gen_kv ha t x hx; omega) (fun x hx => by have := gen_kv hb u x hx; omega) he hc)
end Lg
end
