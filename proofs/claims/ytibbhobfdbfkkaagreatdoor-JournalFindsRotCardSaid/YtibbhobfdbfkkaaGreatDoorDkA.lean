/- A text of a proof over this seat: walks over the program's functions and the plain laws that they need. -/
import Derived.Test.YtibbhobfdbfkkaaGreatDoorFwD
set_option linter.all false
section
/-! the disk, in plain Lean: sectors with what is pending, and what the program's maps say of them -/
namespace Dk
open Go Go.Fw
structure Sec where
  tx : List UInt8
  nx : List UInt8
  dt : Bool
  wn : Bool
structure Dsk where
  s : List Sec
  off : Bool
  left : Int
def s0 : Sec := ⟨[], [], false, false⟩
def z64 : List UInt8 := List.replicate 64 0
def Dsk.at (S : Dsk) (i : Int) : Sec := S.s.getD i.toNat s0
def Dsk.put (S : Dsk) (i : Int) (x : Sec) : Dsk := ⟨S.s.set i.toNat x, S.off, S.left⟩
def new (n : Nat) : Dsk := ⟨List.replicate n ⟨z64, [], false, false⟩, false, -1⟩
def cl (p : Int) : Nat := (max 0 (min p 64)).toNat
def settle1 (x : Sec) (p : Int) : Sec := ⟨if x.wn then x.tx else x.nx.take (cl p) ++ x.tx.drop (cl p), [], false, x.wn⟩
def check (S : Dsk) (i : Int) : Int := if S.off then 23 else if 0 ≤ i ∧ i < S.s.length then 0 else 1
def step (S : Dsk) : Dsk × Int := if S.left = 0 then (⟨S.s, true, S.left⟩, 23) else if 0 < S.left then (⟨S.s, S.off, S.left - 1⟩, 0) else (S, 0)
def read (S : Dsk) (i : Int) : List UInt8 × Int := if check S i = 0 then (if (S.at i).dt then (S.at i).nx else (S.at i).tx, 0) else ([], check S i)
def mark (S : Dsk) (i : Int) (t : List UInt8) : Dsk := S.put i ⟨(S.at i).tx, t, true, (S.at i).wn⟩
def write (S : Dsk) (i : Int) (t : List UInt8) : Dsk × Int :=
  if check S i ≠ 0 then (S, check S i) else if t.length ≠ 64 then (S, 1) else if (step S).2 ≠ 0 then step S else (mark (step S).1 i t, 0)
def pk (ps : List Int) (k : Nat) : Int := if k < ps.length then ps.getD k 0 else 64
/-- Settled, those of the pending ones whose number is less than m. -/
def mntN (ps : List Int) (m : Nat) : Nat → List Sec → List Sec
  | _, [] => []
  | k, x :: l => if x.dt then (if k < m then settle1 x (pk ps k) else x) :: mntN ps m (k + 1) l else x :: mntN ps m k l
def mntL (ps : List Int) : Nat → List Sec → List Sec
  | _, [] => []
  | k, x :: l => if x.dt then settle1 x (pk ps k) :: mntL ps (k + 1) l else x :: mntL ps k l
def flush (S : Dsk) : Dsk × Int := if S.off then (S, 23) else if (step S).2 ≠ 0 then step S else (⟨mntL [] 0 (step S).1.s, (step S).1.off, (step S).1.left⟩, 0)
def mount (S : Dsk) (ps : List Int) : Dsk := ⟨mntL ps 0 S.s, false, -1⟩
def trip (S : Dsk) (n : Int) : Dsk := ⟨S.s, S.off, max (-1) n⟩
def bitv (b : Int) : UInt8 := ofb (((1 : UInt8).toNat : Int) * 2 ^ (min (b % 8).toNat 8))
def flip (t : List UInt8) (b : Int) : List UInt8 := t.set (b / 8).toNat (t.getD (b / 8).toNat 0 ^^^ bitv b)
def rot (S : Dsk) (i b : Int) : Dsk × Int := if (0 ≤ i ∧ i < S.s.length) ∧ 0 ≤ b ∧ b < 512 then (S.put i ⟨flip (S.at i).tx b, (S.at i).nx, (S.at i).dt, (S.at i).wn⟩, 0) else (S, 1)
def wear (S : Dsk) (i : Int) : Dsk × Int := if 0 ≤ i ∧ i < S.s.length then (S.put i ⟨(S.at i).tx, (S.at i).nx, (S.at i).dt, true⟩, 0) else (S, 1)
def image (S : Dsk) : List (List UInt8) := S.s.map (·.tx)
/-- Where p holds, from k on. -/
def ixs (p : Sec → Bool) : Nat → List Sec → List Int
  | _, [] => []
  | k, x :: l => if p x then (k : Int) :: ixs p (k + 1) l else ixs p (k + 1) l
def dix (S : Dsk) : List Int := ixs (·.dt) 0 S.s
def wix (S : Dsk) : List Int := ixs (·.wn) 0 S.s
structure Op where
  k : Int
  i : Int
  b : Int
  t : List UInt8
  ps : List Int
/-- The text that an operation writes. -/
def fill : Nat → List UInt8 → List UInt8
  | 0, s => s
  | f + 1, s => if 0 < s.length ∧ s.length < 64 then fill f (s ++ s.drop (s.length - 1)) else s
def txt (t : List UInt8) : List UInt8 := fill 64 t
def act (S : Dsk) (o : Op) : Dsk × List UInt8 × Int :=
  if o.k = 1 then ((write S o.i (txt o.t)).1, [], (write S o.i (txt o.t)).2)
  else if o.k = 2 then (S, read S o.i)
  else if o.k = 3 then ((flush S).1, [], (flush S).2)
  else if o.k = 4 then (trip S o.i, [], 0)
  else if o.k = 5 then (mount S o.ps, [], 0)
  else if o.k = 6 then ((rot S o.i o.b).1, [], (rot S o.i o.b).2)
  else if o.k = 7 then ((wear S o.i).1, [], (wear S o.i).2)
  else (S, [], 0)
/-! ### what is right of a disk -/
def SecOk (x : Sec) : Prop := x.tx.length = 64 ∧ (x.dt = true → x.nx.length = 64) ∧ x.nx.length ≤ 64
structure Ok (S : Dsk) : Prop where
  sec : ∀ x ∈ S.s, SecOk x
  lo : 1 ≤ S.s.length
  hi : S.s.length ≤ 4096
  lf : -1 ≤ S.left
  lf2 : S.left ≤ 9223372036854775807
theorem at_mem {S : Dsk} {i : Int} (h : 0 ≤ i ∧ i < S.s.length) : S.at i ∈ S.s := by
  unfold Dsk.at
  rw [List.getD_eq_getElem?_getD, List.getElem?_eq_getElem (by omega)]
  exact List.getElem_mem _
theorem Ok.at {S : Dsk} (h : Ok S) {i : Int} (hi : 0 ≤ i ∧ i < S.s.length) : SecOk (S.at i) := h.sec _ (at_mem hi)
theorem Ok.put {S : Dsk} (h : Ok S) {i : Int} {x : Sec} (hx : SecOk x) : Ok (S.put i x) := by
  refine ⟨fun y hy => ?_, by simpa [Dsk.put] using h.lo, by simpa [Dsk.put] using h.hi, h.lf, h.lf2⟩
  rcases List.mem_or_eq_of_mem_set hy with h1 | rfl
  · exact h.sec y h1
  · exact hx
theorem put_len (S : Dsk) (i : Int) (x : Sec) : (S.put i x).s.length = S.s.length := by simp [Dsk.put]
theorem put_at {S : Dsk} {i j : Int} {x : Sec} (hi : 0 ≤ i ∧ i < S.s.length) (hj : 0 ≤ j) : (S.put i x).at j = if j = i then x else S.at j := by
  unfold Dsk.put Dsk.at
  dsimp only
  rw [List.getD_eq_getElem?_getD, List.getElem?_set]
  by_cases h : j = i
  · subst h
    rw [if_pos rfl, if_pos rfl, if_pos (by omega)]; rfl
  · rw [if_neg h, if_neg (by omega)]
    rw [List.getD_eq_getElem?_getD]
theorem cl_le (p : Int) : cl p ≤ 64 := by unfold cl; omega
theorem settle_ok {x : Sec} (h : SecOk x) (hd : x.dt = true) (p : Int) : SecOk (settle1 x p) := by
  have := cl_le p
  refine ⟨?_, fun h => (by cases h), Nat.zero_le _⟩
  unfold settle1
  dsimp only
  split
  · exact h.1
  · rw [List.length_append, List.length_take, List.length_drop, h.1, h.2.1 hd]; omega
theorem mntL_ok (ps : List Int) : ∀ (l : List Sec) (k : Nat), (∀ x ∈ l, SecOk x) → ∀ x ∈ mntL ps k l, SecOk x
  | [], _, _, x, hx => by cases hx
  | y :: l, k, h, x, hx => by
    unfold mntL at hx
    split at hx
    · rename_i hd
      rcases List.mem_cons.1 hx with rfl | hx
      · exact settle_ok (h y List.mem_cons_self) hd _
      · exact mntL_ok ps l _ (fun z hz => h z (List.mem_cons_of_mem _ hz)) x hx
    · rcases List.mem_cons.1 hx with rfl | hx
      · exact h _ List.mem_cons_self
      · exact mntL_ok ps l _ (fun z hz => h z (List.mem_cons_of_mem _ hz)) x hx
theorem mntL_len (ps : List Int) : ∀ (l : List Sec) (k : Nat), (mntL ps k l).length = l.length
  | [], _ => rfl
  | x :: l, k => by
    unfold mntL
    split <;> rw [List.length_cons, List.length_cons, mntL_len ps l]
theorem ok_new {n : Nat} (h1 : 1 ≤ n) (h2 : n ≤ 4096) : Ok (new n) := by
  refine ⟨fun x hx => ?_, by simpa [new] using h1, by simpa [new] using h2, (by show (-1 : Int) ≤ -1; decide), (by show (-1 : Int) ≤ _; decide)⟩
  rw [(List.mem_replicate.1 hx).2]
  exact ⟨rfl, fun h => (by cases h), Nat.zero_le _⟩
theorem step_s (S : Dsk) : (step S).1.s = S.s := by unfold step; split <;> (try split) <;> rfl
theorem ok_step {S : Dsk} (h : Ok S) : Ok (step S).1 := by
  have := h.lf; have := h.lf2
  unfold step
  split
  · exact ⟨h.sec, h.lo, h.hi, h.lf, h.lf2⟩
  · split
    · exact ⟨h.sec, h.lo, h.hi, by dsimp only; omega, by dsimp only; omega⟩
    · exact h
theorem ok_mark {S : Dsk} (h : Ok S) {i : Int} (hi : 0 ≤ i ∧ i < S.s.length) {t : List UInt8} (ht : t.length = 64) : Ok (mark S i t) :=
  h.put ⟨(h.at hi).1, fun _ => ht, by dsimp only; omega⟩
theorem check_0 {S : Dsk} {i : Int} (h : check S i = 0) : S.off = false ∧ 0 ≤ i ∧ i < S.s.length := by
  unfold check at h
  split at h
  · cases h
  · rename_i ho
    split at h
    · rename_i hi; exact ⟨by simpa using ho, hi⟩
    · cases h
theorem ok_write {S : Dsk} (h : Ok S) (i : Int) (t : List UInt8) : Ok (write S i t).1 := by
  unfold write
  split
  · exact h
  · rename_i hc
    have hc := check_0 (by omega : check S i = 0)
    split
    · exact h
    · split
      · exact ok_step h
      · exact ok_mark (ok_step h) (by rw [step_s]; exact hc.2) (by omega)
theorem ok_mnt {S : Dsk} (h : Ok S) (ps : List Int) {o : Bool} {l : Int} (h1 : -1 ≤ l) (h2 : l ≤ 9223372036854775807) : Ok ⟨mntL ps 0 S.s, o, l⟩ :=
  ⟨mntL_ok ps _ _ h.sec, by dsimp only; rw [mntL_len]; exact h.lo, by dsimp only; rw [mntL_len]; exact h.hi, h1, h2⟩
theorem ok_flush {S : Dsk} (h : Ok S) : Ok (flush S).1 := by
  unfold flush
  split
  · exact h
  · split
    · exact ok_step h
    · exact ok_mnt (ok_step h) _ (ok_step h).lf (ok_step h).lf2
theorem flip_len (t : List UInt8) (b : Int) : (flip t b).length = t.length := by simp [flip]
theorem ok_rot {S : Dsk} (h : Ok S) (i b : Int) : Ok (rot S i b).1 := by
  unfold rot
  split
  · rename_i hi
    have := h.at hi.1
    exact h.put ⟨by rw [flip_len]; exact this.1, this.2⟩
  · exact h
/-! ### the program's maps -/
def pend (S : Dsk) (i : Int) : Option Value := if (0 ≤ i ∧ i < S.s.length) ∧ (S.at i).dt = true then some (abv (S.at i).nx) else none
def wrn (S : Dsk) (i : Int) : Option Value := if (0 ≤ i ∧ i < S.s.length) ∧ (S.at i).wn = true then some (.bool true) else none
def MOk (f : Int → Option Value) (l : List (Int × Value)) : Prop := (l.map (·.1)).Nodup ∧ ∀ i, aget l i = f i
theorem fnd_succ (a : Int) : ∀ (l : List (Int × Value)) (i : Nat), fnd a l (i + 1) = (fnd a l i).map fun p => (p.1 + 1, p.2)
  | [], _ => rfl
  | p :: l, i => by
    unfold fnd
    split
    · rfl
    · exact fnd_succ a l (i + 1)
theorem adel_cons (a : Int) (p : Int × Value) (l : List (Int × Value)) : adel a (p :: l) = if a = p.1 then l else p :: adel a l := by
  unfold adel
  rw [fnd]
  by_cases h : a = p.1
  · rw [if_pos h, if_pos h]; rfl
  · rw [if_neg h, if_neg h, fnd_succ]
    cases fnd a l 0 with
    | none => rfl
    | some q => rfl
theorem aget_adel (a b : Int) : ∀ {l : List (Int × Value)}, (l.map (·.1)).Nodup → aget (adel a l) b = if b = a then none else aget l b
  | [], _ => by show none = _; rw [show aget ([] : List (Int × Value)) b = none from rfl]; split <;> rfl
  | p :: l, h => by
    rw [List.map_cons, List.nodup_cons] at h
    have ih := aget_adel a b h.2
    have hn : aget l p.1 = none := by
      cases hg : aget l p.1 with
      | none => rfl
      | some v =>
        exfalso
        unfold aget at hg
        cases hf : fnd p.1 l 0 with
        | none => rw [hf] at hg; cases hg
        | some q =>
          have := fnd_at hf
          rw [Nat.sub_zero, ← List.getElem?_map] at this
          exact h.1 (List.mem_of_getElem? this)
    rw [adel_cons, aget_cons]
    by_cases h1 : a = p.1
    · rw [if_pos h1]
      by_cases h2 : b = a
      · rw [if_pos h2, h2, h1, hn]
      · rw [if_neg h2, if_neg (fun e => h2 (e.trans h1.symm))]
    · rw [if_neg h1, aget_cons, ih]
      by_cases h2 : b = p.1
      · rw [if_pos h2, if_pos h2, if_neg (fun e => h1 (e.symm.trans h2))]
      · rw [if_neg h2, if_neg h2]
theorem MOk.put {f g : Int → Option Value} {l : List (Int × Value)} (h : MOk f l) {a : Int} {v : Value} (hg : ∀ i, g i = if i = a then some v else f i) : MOk g (aset a v l) :=
  ⟨aset_nodup h.1, fun i => by rw [aget_aset, hg, h.2]⟩
theorem MOk.del {f g : Int → Option Value} {l : List (Int × Value)} (h : MOk f l) {a : Int} (hg : ∀ i, g i = if i = a then none else f i) : MOk g (adel a l) :=
  ⟨(adel_keys h.1 (a := a) (y := a)).2, fun i => by rw [aget_adel a i h.1, hg, h.2]⟩
theorem MOk.nil {f : Int → Option Value} (h : ∀ i, f i = none) : MOk f [] := ⟨by simp, fun i => (h i).symm⟩
theorem MOk.eq {f g : Int → Option Value} {l : List (Int × Value)} (h : MOk f l) (e : ∀ i, g i = f i) : MOk g l := ⟨h.1, fun i => (h.2 i).trans (e i).symm⟩
theorem MOk.mem {f : Int → Option Value} : ∀ {l : List (Int × Value)}, MOk f l → ∀ i, i ∈ l.map (·.1) ↔ (f i).isSome = true := by
  intro l h i
  rw [← h.2 i]
  have : ∀ l : List (Int × Value), i ∈ l.map (·.1) ↔ (aget l i).isSome = true := by
    intro l
    induction l with
    | nil => simp [aget, fnd]
    | cons p l ih =>
      rw [aget_cons, List.map_cons, List.mem_cons]
      by_cases h : i = p.1
      · rw [if_pos h]; simp [h]
      · rw [if_neg h, ← ih]; simp [h]
  exact this l
/-! ### lists of places -/
theorem ixs_mem (p : Sec → Bool) : ∀ (l : List Sec) (k : Nat) (i : Int), i ∈ ixs p k l ↔ ((k : Int) ≤ i ∧ i < k + l.length) ∧ p (l.getD (i - k).toNat s0) = true
  | [], k, i => by simp [ixs]; intro h1 h2; omega
  | x :: l, k, i => by
    unfold ixs
    have ih := ixs_mem p l (k + 1) i
    have hlen : (x :: l).length = l.length + 1 := rfl
    have key : i ∈ ixs p (k + 1) l ↔ ((k : Int) + 1 ≤ i ∧ i < k + (x :: l).length) ∧ p ((x :: l).getD (i - k).toNat s0) = true := by
      rw [ih, hlen]
      constructor
      · rintro ⟨⟨h1, h2⟩, h3⟩
        refine ⟨⟨by omega, by omega⟩, ?_⟩
        rw [show (i - (k : Int)).toNat = (i - ((k + 1 : Nat) : Int)).toNat + 1 by omega, List.getD_cons_succ]
        exact h3
      · rintro ⟨⟨h1, h2⟩, h3⟩
        refine ⟨⟨by omega, by omega⟩, ?_⟩
        rw [show (i - (k : Int)).toNat = (i - ((k + 1 : Nat) : Int)).toNat + 1 by omega, List.getD_cons_succ] at h3
        exact h3
    by_cases hk : i = k
    · have e0 : (x :: l).getD (i - (k : Int)).toNat s0 = x := by rw [hk, Int.sub_self]; rfl
      rw [e0]
      constructor
      · intro h
        refine ⟨⟨by omega, by rw [hlen]; omega⟩, ?_⟩
        split at h
        · assumption
        · have := (key.1 h).1.1; omega
      · rintro ⟨_, h⟩
        rw [if_pos h, hk]; exact List.mem_cons_self
    · split
      · rw [List.mem_cons, key]
        constructor
        · rintro (h | h)
          · exact absurd h hk
          · exact ⟨⟨by omega, h.1.2⟩, h.2⟩
        · rintro ⟨h1, h2⟩
          exact .inr ⟨⟨by omega, h1.2⟩, h2⟩
      · rw [key]
        constructor
        · rintro h; exact ⟨⟨by omega, h.1.2⟩, h.2⟩
        · rintro ⟨h1, h2⟩; exact ⟨⟨by omega, h1.2⟩, h2⟩
theorem ixs_sorted (p : Sec → Bool) : ∀ (l : List Sec) (k : Nat), (ixs p k l).Pairwise (fun a b => a < b)
  | [], _ => List.Pairwise.nil
  | x :: l, k => by
    unfold ixs
    split
    · refine List.pairwise_cons.2 ⟨fun b hb => ?_, ixs_sorted p l (k + 1)⟩
      have := (ixs_mem p l (k + 1) b).1 hb
      omega
    · exact ixs_sorted p l (k + 1)
theorem ixs_len (p : Sec → Bool) : ∀ (l : List Sec) (k : Nat), (ixs p k l).length ≤ l.length
  | [], _ => Nat.le_refl _
  | x :: l, k => by
    have := ixs_len p l (k + 1)
    unfold ixs
    split <;> simp only [List.length_cons] <;> omega
/-- What is sorted has no other sorted permutation. -/
theorem sort_ixs (p : Sec → Bool) (l : List Sec) (k : Nat) {ks : List Int} (hn : ks.Nodup) (hm : ∀ i, i ∈ ks ↔ i ∈ ixs p k l) : ks.mergeSort (fun x y => decide (x ≤ y)) = ixs p k l := by
  have hs := ixs_sorted p l k
  have hnd : (ixs p k l).Nodup := hs.imp fun h e => by omega
  have hp : ks.Perm (ixs p k l) := (List.perm_ext_iff_of_nodup hn hnd).2 hm
  have tr : ∀ a b c : Int, decide (a ≤ b) = true → decide (b ≤ c) = true → decide (a ≤ c) = true := fun a b c h1 h2 => by simp only [decide_eq_true_eq] at *; omega
  have to : ∀ a b : Int, (decide (a ≤ b) || decide (b ≤ a)) = true := fun a b => by simp only [Bool.or_eq_true, decide_eq_true_eq]; omega
  refine List.Perm.eq_of_pairwise (le := fun a b => decide (a ≤ b) = true) (fun a b _ _ h1 h2 => ?_) (List.pairwise_mergeSort tr to ks) (hs.imp fun h => by simp only [decide_eq_true_eq]; omega) ((List.mergeSort_perm ks _).trans hp)
  simp only [decide_eq_true_eq] at h1 h2
  omega
theorem dix_mem (S : Dsk) (i : Int) : i ∈ dix S ↔ (pend S i).isSome = true := by
  unfold dix pend Dsk.at
  rw [ixs_mem]
  simp only [Int.ofNat_zero, Int.zero_add, Int.sub_zero]
  constructor
  · intro h; rw [if_pos (by simpa using h)]; rfl
  · intro h
    split at h
    · rename_i h1; simpa using h1
    · cases h
theorem keys_d {S : Dsk} {l : List (Int × Value)} (h : MOk (pend S) l) : (l.map (·.1)).mergeSort (fun x y => decide (x ≤ y)) = dix S := sort_ixs _ _ _ h.1 fun i => by rw [h.mem i]; exact (dix_mem S i).symm
end Dk
end

section
/-! the disks as resources -/
namespace Dk
open Go Go.Fw
def secC (x : Sec) : List Value := [vs x.tx, vs x.nx, .bool x.dt, .bool x.wn]
/-- Where the program's disk lies. -/
structure Hd where
  b : Nat
  v : Value
  p : Nat
  w : Nat
def bl (S : Dsk) : List (List UInt8) := S.s.map (·.tx)
theorem bl_len (S : Dsk) : (bl S).length = S.s.length := by simp [bl]
theorem bl_64 {S : Dsk} (h : Ok S) : ∀ x ∈ bl S, x.length = 64 := fun x hx => by
  obtain ⟨y, hy, rfl⟩ := List.mem_map.1 hx
  exact (h.sec y hy).1
theorem bl_at {S : Dsk} {i : Int} (h : 0 ≤ i ∧ i < S.s.length) : (bl S).getD i.toNat [] = (S.at i).tx := by
  unfold bl Dsk.at
  rw [List.getD_eq_getElem?_getD, List.getD_eq_getElem?_getD, List.getElem?_map, List.getElem?_eq_getElem (by omega)]
  rfl
theorem bl_put {S : Dsk} (i : Int) (x : Sec) : bl (S.put i x) = (bl S).set i.toNat x.tx := by
  unfold bl Dsk.put
  rw [List.map_set]
theorem bl_same {S : Dsk} {i : Int} {x : Sec} (h : 0 ≤ i ∧ i < S.s.length) (he : x.tx = (S.at i).tx) : bl (S.put i x) = bl S := by
  rw [bl_put, he, ← bl_at h]
  apply List.ext_getElem?
  intro j
  rw [List.getElem?_set]
  split
  · rename_i e
    rw [← e, List.getD_eq_getElem?_getD]
    rw [if_pos (by rw [bl_len]; omega), List.getElem?_eq_getElem (by rw [bl_len]; omega)]
    rfl
  · rfl
theorem mark_bl {S : Dsk} {i : Int} (h : 0 ≤ i ∧ i < S.s.length) (t : List UInt8) : bl (mark S i t) = bl S := bl_same h rfl
theorem mark_len (S : Dsk) (i : Int) (t : List UInt8) : (mark S i t).s.length = S.s.length := put_len _ _ _
def DOk (TD TB : TypeId) (h : Hd) (S : Dsk) (r1 r2 r3 r4 : Res) : Prop :=
  ∃ (l : Int) (e1 : List MapEntry) (c1 : Nat) (m1 : List (Int × Value)) (e2 : List MapEntry) (c2 : Nat) (m2 : List (Int × Value)),
    Ok S ∧ max (-1) l = S.left ∧ -9223372036854775808 ≤ l ∧ MpT vi m1 e1 c1 ∧ MpT vi m2 e2 c2 ∧ MOk (pend S) m1 ∧ MOk (wrn S) m2 ∧
    r1 = .blk h.b TD [h.v, .map (some h.p), .map (some h.w), .bool S.off, vi l] ∧ r2 = .row h.v TB 64 S.s.length ((bl S).flatten.map vb) ∧ r3 = .mp h.p e1 c1 ∧ r4 = .mp h.w e2 c2
def DR (TD TB : TypeId) (h : Hd) (S : Dsk) (v : Value) : Value → List PH → List Res → Prop := fun r zs hs => r = v ∧ zs = [] ∧ ∃ q1 q2 q3 q4, hs = [q1, q2, q3, q4] ∧ DOk TD TB h S q1 q2 q3 q4
theorem dr_of {TD TB : TypeId} {h : Hd} {S S' : Dsk} {v v' r : Value} {zs : List PH} {hs : List Res} (hd : DR TD TB h S v r zs hs) (e1 : S = S') (e2 : v = v') : DR TD TB h S' v' r zs hs := e1 ▸ e2 ▸ hd
def ROk (TR TS : TypeId) (b : Nat) (S : Dsk) (r1 r2 : Res) : Prop := ∃ v, Ok S ∧ r1 = .blk b TR [v, .bool S.off, vi S.left] ∧ r2 = .row v TS 4 S.s.length (S.s.flatMap secC)
def RR (TR TS : TypeId) (b : Nat) (S : Dsk) (v : Value) : Value → List PH → List Res → Prop := fun r zs hs => r = v ∧ zs = [] ∧ ∃ q1 q2, hs = [q1, q2] ∧ ROk TR TS b S q1 q2
theorem DOk.ok {TD TB : TypeId} {h : Hd} {S : Dsk} {r1 r2 r3 r4 : Res} (hD : DOk TD TB h S r1 r2 r3 r4) : Ok S := by
  obtain ⟨_, _, _, _, _, _, _, h, _⟩ := hD; exact h
theorem ROk.ok {TR TS : TypeId} {b : Nat} {S : Dsk} {r1 r2 : Res} (hD : ROk TR TS b S r1 r2) : Ok S := by
  obtain ⟨_, h, _⟩ := hD; exact h
/-! ### check, step -/
theorem check_off {S : Dsk} {i : Int} (h : S.off = true) : check S i = 23 := by unfold check; rw [if_pos h]
theorem check_out {S : Dsk} {i : Int} (h : ¬ S.off = true) (hi : ¬ (0 ≤ i ∧ i < S.s.length)) : check S i = 1 := by unfold check; rw [if_neg h, if_neg hi]
theorem check_in {S : Dsk} {i : Int} (h : ¬ S.off = true) (hi : 0 ≤ i ∧ i < S.s.length) : check S i = 0 := by unfold check; rw [if_neg h, if_pos hi]
theorem step_0 {S : Dsk} (h : S.left = 0) : step S = (⟨S.s, true, S.left⟩, 23) := by unfold step; rw [if_pos h]
theorem step_1 {S : Dsk} (h : 0 < S.left) : step S = (⟨S.s, S.off, S.left - 1⟩, 0) := by unfold step; rw [if_neg (by omega), if_pos h]
theorem step_2 {S : Dsk} (h : S.left < 0) : step S = (S, 0) := by unfold step; rw [if_neg (by omega), if_neg (by omega)]
theorem read_bad {S : Dsk} {i : Int} (h : check S i ≠ 0) : read S i = ([], check S i) := by unfold read; rw [if_neg h]
theorem read_nx {S : Dsk} {i : Int} (h : check S i = 0) (hd : (S.at i).dt = true) : read S i = ((S.at i).nx, 0) := by unfold read; rw [if_pos h, if_pos hd]
theorem read_tx {S : Dsk} {i : Int} (h : check S i = 0) (hd : ¬ (S.at i).dt = true) : read S i = ((S.at i).tx, 0) := by unfold read; rw [if_pos h, if_neg hd]
theorem write_1 {S : Dsk} {i : Int} {t : List UInt8} (h : check S i ≠ 0) : write S i t = (S, check S i) := by unfold write; rw [if_pos h]
theorem write_2 {S : Dsk} {i : Int} {t : List UInt8} (h : check S i = 0) (h2 : t.length ≠ 64) : write S i t = (S, 1) := by unfold write; rw [if_neg (by omega), if_pos h2]
theorem write_3 {S : Dsk} {i : Int} {t : List UInt8} (h : check S i = 0) (h2 : t.length = 64) (h3 : (step S).2 ≠ 0) : write S i t = step S := by unfold write; rw [if_neg (by omega), if_neg (by omega), if_pos h3]
theorem write_4 {S : Dsk} {i : Int} {t : List UInt8} (h : check S i = 0) (h2 : t.length = 64) (h3 : (step S).2 = 0) : write S i t = (mark (step S).1 i t, 0) := by unfold write; rw [if_neg (by omega), if_neg (by omega), if_neg (by omega)]
/-! ### what the maps say -/
def zB : Value := .agg (List.replicate 64 (Value.int .u8 0)).toArray
theorem zB_abv : zB = abv z64 := by unfold zB abv z64; rw [List.map_replicate]; rfl
def pget (S : Dsk) (i : Int) : List UInt8 := if (S.at i).dt = true then (S.at i).nx else z64
theorem pend_get {S : Dsk} {m : List (Int × Value)} (h : MOk (pend S) m) {i : Int} (hi : 0 ≤ i ∧ i < S.s.length) : (aget m i).getD zB = abv (pget S i) := by
  rw [h.2]
  unfold pend pget
  by_cases hd : (S.at i).dt = true
  · rw [if_pos ⟨hi, hd⟩, if_pos hd]; rfl
  · rw [if_neg (fun e => hd e.2), if_neg hd]; exact zB_abv
theorem pend_is {S : Dsk} {m : List (Int × Value)} (h : MOk (pend S) m) {i : Int} (hi : 0 ≤ i ∧ i < S.s.length) : (aget m i).isSome = (S.at i).dt := by
  rw [h.2]
  unfold pend
  by_cases hd : (S.at i).dt = true
  · rw [if_pos ⟨hi, hd⟩, hd]; rfl
  · rw [if_neg (fun e => hd e.2)]
    cases he : (S.at i).dt with
    | true => exact absurd he hd
    | false => rfl
theorem wrn_get {S : Dsk} {m : List (Int × Value)} (h : MOk (wrn S) m) {i : Int} (hi : 0 ≤ i ∧ i < S.s.length) : (aget m i).getD (.bool false) = .bool (S.at i).wn := by
  rw [h.2]
  unfold wrn
  by_cases hd : (S.at i).wn = true
  · rw [if_pos ⟨hi, hd⟩, hd]; rfl
  · rw [if_neg (fun e => hd e.2)]
    cases he : (S.at i).wn with
    | true => exact absurd he hd
    | false => rfl
theorem pget_t {S : Dsk} {i : Int} (h : (S.at i).dt = true) : pget S i = (S.at i).nx := by unfold pget; rw [if_pos h]
theorem pget_len {S : Dsk} (h : Ok S) {i : Int} (hi : 0 ≤ i ∧ i < S.s.length) : (pget S i).length = 64 := by
  unfold pget
  split
  · exact (h.at hi).2.1 ‹_›
  · rfl
theorem pend_mark {S : Dsk} {i : Int} (hi : 0 ≤ i ∧ i < S.s.length) (t : List UInt8) (j : Int) : pend (mark S i t) j = if j = i then some (abv t) else pend S j := by
  unfold pend mark
  rw [put_len]
  by_cases hj : 0 ≤ j
  · rw [put_at hi hj]
    by_cases h : j = i
    · rw [if_pos h, if_pos h, if_pos ⟨h ▸ hi, rfl⟩]
    · rw [if_neg h, if_neg h]
  · rw [if_neg (fun e => hj e.1.1), if_neg (fun e : j = i => hj (e ▸ hi.1)), if_neg (fun e => hj e.1.1)]
theorem wrn_put {S : Dsk} {i : Int} (hi : 0 ≤ i ∧ i < S.s.length) {x : Sec} (hx : x.wn = (S.at i).wn) (j : Int) : wrn (S.put i x) j = wrn S j := by
  unfold wrn
  rw [put_len]
  by_cases hj : 0 ≤ j
  · rw [put_at hi hj]
    by_cases h : j = i
    · rw [if_pos h, h, hx]
    · rw [if_neg h]
  · rw [if_neg (fun e => hj e.1.1), if_neg (fun e => hj e.1.1)]
theorem pend_put {S : Dsk} {i : Int} (hi : 0 ≤ i ∧ i < S.s.length) {x : Sec} (hx : x.dt = (S.at i).dt) (hn : x.nx = (S.at i).nx) (j : Int) : pend (S.put i x) j = pend S j := by
  unfold pend
  rw [put_len]
  by_cases hj : 0 ≤ j
  · rw [put_at hi hj]
    by_cases h : j = i
    · rw [if_pos h, h, hx, hn]
    · rw [if_neg h]
  · rw [if_neg (fun e => hj e.1.1), if_neg (fun e => hj e.1.1)]
theorem pend_settle {S : Dsk} {i : Int} (hi : 0 ≤ i ∧ i < S.s.length) {x : Sec} (hx : x.dt = false) (j : Int) : pend (S.put i x) j = if j = i then none else pend S j := by
  unfold pend
  rw [put_len]
  by_cases hj : 0 ≤ j
  · rw [put_at hi hj]
    by_cases h : j = i
    · rw [if_pos h, if_pos h, hx, if_neg (by simp)]
    · rw [if_neg h, if_neg h]
  · rw [if_neg (fun e => hj e.1.1), if_neg (fun e : j = i => hj (e ▸ hi.1)), if_neg (fun e => hj e.1.1)]
theorem settle_len (S : Dsk) (i p : Int) : (S.put i (settle1 (S.at i) p)).s.length = S.s.length := put_len _ _ _
theorem settle_bl1 {S : Dsk} {i : Int} (hi : 0 ≤ i ∧ i < S.s.length) (hd : (S.at i).dt = true) (hw : (S.at i).wn = false) (p : Int) : (bl S).set i.toNat ((pget S i).take (max 0 (min p 64)).toNat ++ ((bl S).getD i.toNat []).drop (max 0 (min p 64)).toNat) = bl (S.put i (settle1 (S.at i) p)) := by
  rw [bl_put, bl_at hi, pget_t hd]
  unfold settle1 cl
  rw [if_neg (by rw [hw]; simp)]
theorem settle_bl2 {S : Dsk} (hO : Ok S) {i : Int} (hi : 0 ≤ i ∧ i < S.s.length) (hd : (S.at i).dt = true) (h : (S.at i).wn = true ∨ pget S i = (bl S).getD i.toNat []) (p : Int) : bl S = bl (S.put i (settle1 (S.at i) p)) := by
  refine (bl_same hi ?_).symm
  unfold settle1
  dsimp only
  split
  · rfl
  · rename_i hw
    rcases h with h | h
    · exact absurd h hw
    · rw [pget_t hd, bl_at hi] at h
      rw [h, List.take_append_drop]
theorem rot_ok {S : Dsk} {i b : Int} (h : 0 ≤ i ∧ i < S.s.length) (hb : 0 ≤ b ∧ b < 512) : rot S i b = (S.put i ⟨flip (S.at i).tx b, (S.at i).nx, (S.at i).dt, (S.at i).wn⟩, 0) := by unfold rot; rw [if_pos ⟨h, hb⟩]
theorem rot_no {S : Dsk} {i b : Int} (h : ¬ ((0 ≤ i ∧ i < S.s.length) ∧ 0 ≤ b ∧ b < 512)) : rot S i b = (S, 1) := by unfold rot; rw [if_neg h]
theorem rot_bl {S : Dsk} {i b : Int} (h : 0 ≤ i ∧ i < S.s.length) : (bl S).set i.toNat (((bl S).getD i.toNat []).set (b / 8).toNat (((bl S).getD i.toNat []).getD (b / 8).toNat 0 ^^^ bitv b)) = bl (S.put i ⟨flip (S.at i).tx b, (S.at i).nx, (S.at i).dt, (S.at i).wn⟩) := by
  rw [bl_put, bl_at h]
  rfl
end Dk
end

section
/-! settling one after the other -/
namespace Dk
open Go Go.Fw
theorem mntN_len (ps : List Int) (m : Nat) : ∀ (l : List Sec) (k : Nat), (mntN ps m k l).length = l.length
  | [], _ => rfl
  | x :: l, k => by
    unfold mntN
    split <;> rw [List.length_cons, List.length_cons, mntN_len ps m l]
theorem mntN_id (ps : List Int) (m : Nat) : ∀ (l : List Sec) (k : Nat), m ≤ k → mntN ps m k l = l
  | [], _, _ => rfl
  | x :: l, k, h => by
    unfold mntN
    split
    · rw [if_neg (by omega), mntN_id ps m l (k + 1) (by omega)]
    · rw [mntN_id ps m l k h]
theorem mntN_all (ps : List Int) (m : Nat) : ∀ (l : List Sec) (k q : Nat), k + (ixs (·.dt) q l).length ≤ m → mntN ps m k l = mntL ps k l
  | [], _, _, _ => rfl
  | x :: l, k, q, h => by
    unfold ixs at h
    unfold mntN mntL
    by_cases hd : x.dt = true
    · rw [if_pos hd, List.length_cons] at h
      rw [if_pos hd, if_pos hd, if_pos (by omega), mntN_all ps m l (k + 1) (q + 1) (by omega)]
    · rw [if_neg hd] at h
      rw [if_neg hd, if_neg hd, mntN_all ps m l k (q + 1) h]
theorem mntN_step (ps : List Int) (m : Nat) : ∀ (l : List Sec) (k q : Nat), k ≤ m → m < k + (ixs (·.dt) q l).length →
    ∃ j, (ixs (·.dt) q l).getD (m - k) 0 = (q : Int) + (j : Nat) ∧ j < l.length ∧ (l.getD j s0).dt = true ∧ (mntN ps m k l).getD j s0 = l.getD j s0 ∧ mntN ps (m + 1) k l = (mntN ps m k l).set j (settle1 (l.getD j s0) (pk ps m))
  | [], k, q, _, h => by simp [ixs] at h; omega
  | x :: l, k, q, hk, h => by
    by_cases hd : x.dt = true
    · have e : ixs (·.dt) q (x :: l) = (q : Int) :: ixs (·.dt) (q + 1) l := by rw [ixs, if_pos hd]
      rw [e] at h ⊢
      rw [List.length_cons] at h
      by_cases hm : m = k
      · subst hm
        refine ⟨0, by simp, by simp, hd, ?_, ?_⟩
        · rw [mntN_id ps m _ _ (Nat.le_refl _)]
        · rw [mntN_id ps m _ _ (Nat.le_refl _)]
          unfold mntN
          rw [if_pos hd, if_pos (by omega), mntN_id ps (m + 1) l (m + 1) (Nat.le_refl _)]
          rfl
      · obtain ⟨j, h1, h2, h3, h4, h5⟩ := mntN_step ps m l (k + 1) (q + 1) (by omega) (by omega)
        refine ⟨j + 1, ?_, by simpa using h2, by simpa using h3, ?_, ?_⟩
        · rw [show m - k = (m - (k + 1)) + 1 by omega, List.getD_cons_succ, h1]; omega
        · rw [mntN, if_pos hd, List.getD_cons_succ, h4, List.getD_cons_succ]
        · rw [mntN, if_pos hd, mntN, if_pos hd, h5, if_pos (by omega), if_pos (by omega), List.getD_cons_succ, List.set_cons_succ]
    · have e : ixs (·.dt) q (x :: l) = ixs (·.dt) (q + 1) l := by rw [ixs, if_neg hd]
      rw [e] at h ⊢
      obtain ⟨j, h1, h2, h3, h4, h5⟩ := mntN_step ps m l k (q + 1) hk h
      refine ⟨j + 1, ?_, by simpa using h2, by simpa using h3, ?_, ?_⟩
      · rw [h1]; omega
      · rw [mntN, if_neg hd, List.getD_cons_succ, h4, List.getD_cons_succ]
      · rw [mntN, if_neg hd, mntN, if_neg hd, h5, List.getD_cons_succ, List.set_cons_succ]
/-- The first j of the pending sectors are settled. -/
def mst (S : Dsk) (ps : List Int) (j : Nat) : Dsk := ⟨mntN ps j 0 S.s, S.off, S.left⟩
theorem mst_0 (S : Dsk) (ps : List Int) : mst S ps 0 = S := by unfold mst; rw [mntN_id ps 0 _ _ (Nat.le_refl _)]
theorem mst_len (S : Dsk) (ps : List Int) (j : Nat) : (mst S ps j).s.length = S.s.length := mntN_len _ _ _ _
theorem mst_end (S : Dsk) (ps : List Int) {j : Nat} (h : (dix S).length ≤ j) : mst S ps j = ⟨mntL ps 0 S.s, S.off, S.left⟩ := by unfold mst; rw [mntN_all ps j _ _ 0 (by unfold dix at h; omega)]
theorem mst_step (S : Dsk) (ps : List Int) {j : Nat} (h : j < (dix S).length) : (0 ≤ (dix S).getD j 0 ∧ (dix S).getD j 0 < (mst S ps j).s.length) ∧ ((mst S ps j).at ((dix S).getD j 0)).dt = true ∧ (mst S ps j).put ((dix S).getD j 0) (settle1 ((mst S ps j).at ((dix S).getD j 0)) (pk ps j)) = mst S ps (j + 1) := by
  obtain ⟨i, h1, h2, h3, h4, h5⟩ := mntN_step ps j S.s 0 0 (Nat.zero_le _) (by unfold dix at h; omega)
  have hi : (dix S).getD j 0 = (i : Int) := by unfold dix; rw [show j = j - 0 by omega, h1]; simp
  rw [hi]
  have ha : (mst S ps j).at (i : Int) = S.s.getD i s0 := by unfold mst Dsk.at; rw [Int.toNat_natCast]; exact h4
  refine ⟨⟨by omega, by rw [mst_len]; omega⟩, by rw [ha]; exact h3, ?_⟩
  rw [ha]
  unfold Dsk.put mst
  rw [Int.toNat_natCast, h5]
theorem dix_rng {S : Dsk} (h : Ok S) {x : Int} (hx : x ∈ dix S) : 0 ≤ x ∧ x < 4096 := by
  have := (ixs_mem _ _ _ _).1 hx
  have := h.hi
  omega
theorem getD_mem {α : Type} {l : List α} {j : Nat} {d : α} (h : j < l.length) : l.getD j d ∈ l := by
  rw [List.getD_eq_getElem?_getD, List.getElem?_eq_getElem h]; exact List.getElem_mem _
theorem dix_len (S : Dsk) : (dix S).length ≤ S.s.length := ixs_len _ _ _
theorem pk_nil (j : Nat) : pk [] j = 64 := rfl
theorem flush_1 {S : Dsk} (h : S.off = true) : flush S = (S, 23) := by unfold flush; rw [if_pos h]
theorem flush_2 {S : Dsk} (h : S.off = false) (h2 : (step S).2 ≠ 0) : flush S = step S := by unfold flush; rw [if_neg (by rw [h]; simp), if_pos h2]
theorem flush_3 {S : Dsk} (h : S.off = false) (h2 : (step S).2 = 0) : flush S = (mst (step S).1 [] (dix (step S).1).length, 0) := by unfold flush; rw [if_neg (by rw [h]; simp), if_neg (by omega), mst_end _ _ (Nat.le_refl _)]
theorem check0 {S : Dsk} (h : Ok S) : check S 0 = if S.off then 23 else 0 := by
  unfold check
  split
  · rfl
  · rw [if_pos ⟨Int.le_refl _, by have := h.lo; omega⟩]
theorem off_of {S : Dsk} (h : Ok S) (hc : check S 0 ≠ 0) : S.off = true ∧ check S 0 = 23 := by
  rw [check0 h] at hc ⊢
  cases ho : S.off with
  | true => exact ⟨rfl, rfl⟩
  | false => rw [ho] at hc; simp at hc
/-- The keys that a map of the program's holds. -/
theorem mok_rng {S : Dsk} {f : Int → Option Value} (hf : ∀ i, (f i).isSome = true → 0 ≤ i ∧ i < S.s.length) (hO : Ok S) {m : List (Int × Value)} (h : MOk f m) : ∀ i ∈ m.map (·.1), -9223372036854775808 ≤ i ∧ i ≤ 9223372036854775807 := fun i hi => by
  have := hf i ((h.mem i).1 hi)
  have := hO.hi
  omega
theorem pend_some {S : Dsk} (i : Int) (h : (pend S i).isSome = true) : 0 ≤ i ∧ i < S.s.length := by
  unfold pend at h
  split at h
  · rename_i h1; exact h1.1
  · cases h
theorem len_d {S : Dsk} (hO : Ok S) {m : List (Int × Value)} (h : MOk (pend S) m) : m.length ≤ 4096 := by
  have h1 := congrArg List.length (keys_d h)
  rw [List.length_mergeSort, List.length_map] at h1
  have := dix_len S
  have := hO.hi
  omega
/-- A new slice, and the disk. -/
def DRw (TD TB TE : TypeId) (h : Hd) (S : Dsk) (n : Nat) (cs : List Value) : Value → List PH → List Res → Prop := fun r zs hs => zs = [] ∧ ∃ q1 q2 q3 q4, hs = [.row r TE 1 n cs, q1, q2, q3, q4] ∧ DOk TD TB h S q1 q2 q3 q4
theorem drw_of {TD TB TE : TypeId} {h : Hd} {S : Dsk} {n n' : Nat} {cs cs' : List Value} {r : Value} {zs : List PH} {hs : List Res} (hd : DRw TD TB TE h S n cs r zs hs) (e1 : n = n') (e2 : cs = cs') : DRw TD TB TE h S n' cs' r zs hs := e1 ▸ e2 ▸ hd
def ptr (b : Nat) : Value := .pointer (some ⟨b, 0, none⟩)
/-- A new disk. -/
def DRn (TD TB : TypeId) (S : Dsk) (f : Value → Value) : Value → List PH → List Res → Prop := fun r zs hs => zs = [] ∧ ∃ (h : Hd) (q1 q2 q3 q4 : Res), r = f (.pointer (some ⟨h.b, 0, none⟩)) ∧ hs = [q1, q2, q3, q4] ∧ DOk TD TB h S q1 q2 q3 q4
/-- A copy of a disk, and the disk. -/
def DRc (TD TB : TypeId) (h : Hd) (S : Dsk) : Value → List PH → List Res → Prop := fun r zs hs => zs = [] ∧ ∃ (h2 : Hd) (p1 p2 p3 p4 q1 q2 q3 q4 : Res), r = .pointer (some ⟨h2.b, 0, none⟩) ∧ hs = [p1, p2, p3, p4, q1, q2, q3, q4] ∧ DOk TD TB h2 S p1 p2 p3 p4 ∧ DOk TD TB h S q1 q2 q3 q4
/-! ### what Image fills -/
def im (S : Dsk) (k : Nat) : List (List UInt8) := (image S).take k ++ List.replicate (S.s.length - k) []
theorem im_len (S : Dsk) {k : Nat} (h : k ≤ S.s.length) : (im S k).length = S.s.length := by unfold im image; rw [List.length_append, List.length_take, List.length_map, List.length_replicate]; omega
theorem im_0 (S : Dsk) : im S 0 = List.replicate S.s.length [] := by unfold im; simp
theorem im_end (S : Dsk) {k : Nat} (h : S.s.length ≤ k) : im S k = image S := by
  unfold im
  rw [show S.s.length - k = 0 by omega, List.replicate_zero, List.append_nil, List.take_of_length_le (by unfold image; rw [List.length_map]; exact h)]
theorem im_step (S : Dsk) {k : Nat} (h : k < S.s.length) : (im S k).set k ((bl S).getD k []) = im S (k + 1) := by
  have hi : (image S).length = S.s.length := by simp [image]
  unfold im
  rw [List.set_append_right _ _ (by rw [List.length_take]; omega), List.length_take, hi, show k - min k S.s.length = 0 by omega, show S.s.length - k = (S.s.length - (k + 1)) + 1 by omega, List.replicate_succ, List.set_cons_zero,
    List.take_add_one, List.append_assoc]
  congr 1
  rw [List.getElem?_eq_getElem (by omega), List.getD_eq_getElem?_getD, show bl S = image S from rfl, List.getElem?_eq_getElem (by omega)]
  rfl
end Dk
namespace Dk
open Go Go.Fw
theorem new_cells (n : Nat) : (List.replicate n (List.replicate 64 (Value.int .u8 0))).flatten = (bl (new n)).flatten.map vb := by
  unfold bl new
  rw [List.map_replicate, List.map_flatten, List.map_replicate]
  rfl
theorem new_len (n : Nat) : (new n).s.length = n := by simp [new]
theorem new_at {n : Nat} {i : Int} (h : 0 ≤ i ∧ i < (new n).s.length) : (new n).at i = ⟨z64, [], false, false⟩ := by
  rw [new_len] at h
  unfold Dsk.at new
  rw [List.getD_eq_getElem?_getD, List.getElem?_eq_getElem (by rw [List.length_replicate]; omega), List.getElem_replicate]
  rfl
theorem new_pend (n : Nat) (i : Int) : pend (new n) i = none := by
  unfold pend
  split
  · rename_i h; rw [new_at h.1] at h; exact absurd h.2 (by simp)
  · rfl
theorem new_wrn (n : Nat) (i : Int) : wrn (new n) i = none := by
  unfold wrn
  split
  · rename_i h; rw [new_at h.1] at h; exact absurd h.2 (by simp)
  · rfl
end Dk
end

section
/-! the reference's disk -/
namespace Dk
open Go Go.Fw
abbrev RB (TR : TypeId) (b : Nat) (v : Value) (S : Dsk) : Res := .blk b TR [v, .bool S.off, vi S.left]
abbrev RW (TS : TypeId) (v : Value) (S : Dsk) : Res := .row v TS 4 S.s.length (S.s.flatMap secC)
def RDR (TR TS : TypeId) (b : Nat) (v : Value) (S : Dsk) (x : Value) : Value → List PH → List Res → Prop := fun r zs hs => r = x ∧ zs = [] ∧ hs = [RB TR b v S, RW TS v S]
def RDRw (TR TS TE : TypeId) (b : Nat) (v : Value) (S : Dsk) (n : Nat) (cs : List Value) : Value → List PH → List Res → Prop := fun r zs hs => zs = [] ∧ hs = [.row r TE 1 n cs, RB TR b v S, RW TS v S]
theorem at_some {S : Dsk} {i : Int} (h : 0 ≤ i ∧ i < S.s.length) : S.s[i.toNat]? = some (S.at i) := by
  unfold Dsk.at
  rw [List.getD_eq_getElem?_getD, List.getElem?_eq_getElem (by omega)]
  rfl
theorem ixs_app (p : Sec → Bool) : ∀ (l1 l2 : List Sec) (q : Nat), ixs p q (l1 ++ l2) = ixs p q l1 ++ ixs p (q + l1.length) l2
  | [], _, _ => rfl
  | x :: l1, l2, q => by
    rw [List.cons_append, ixs, ixs, ixs_app p l1 l2 (q + 1), List.length_cons, show q + 1 + l1.length = q + (l1.length + 1) by omega]
    split <;> rfl
/-- How many of the first i are pending. -/
def cnt (S : Dsk) (i : Nat) : Nat := (ixs (·.dt) 0 (S.s.take i)).length
/-- The first i are settled. -/
def rst (S : Dsk) (ps : List Int) (i : Nat) : Dsk := ⟨mntL ps 0 (S.s.take i) ++ S.s.drop i, S.off, S.left⟩
theorem take_one (S : Dsk) {i : Nat} (h : i < S.s.length) : S.s.take (i + 1) = S.s.take i ++ [S.at (i : Int)] := by
  rw [List.take_add_one]
  have := at_some (S := S) (i := (i : Int)) ⟨by omega, by omega⟩
  rw [Int.toNat_natCast] at this
  rw [this]; rfl
theorem cnt_1 (S : Dsk) {i : Nat} (h : i < S.s.length) : cnt S (i + 1) = if (S.at (i : Int)).dt = true then cnt S i + 1 else cnt S i := by
  unfold cnt
  rw [take_one S h, ixs_app, List.length_append]
  rw [ixs]
  split <;> rfl
/-- The places up to i where p holds. -/
def ixt (p : Sec → Bool) (S : Dsk) (i : Nat) : List Int := ixs p 0 (S.s.take i)
end Dk
namespace Dk
open Go Go.Fw
end Dk
namespace Dk
end Dk
namespace Dk
end Dk
namespace Dk
end Dk
namespace Dk
open Go Go.Fw
end Dk
end

section
/-! what the laws' helpers compute -/
namespace Dk
open Go Go.Fw
theorem fill_go {f : Nat} {s : List UInt8} (h : 0 < s.length ∧ s.length < 64) (hf : 64 ≤ f + s.length) : fill f s = fill (f - 1) (s ++ s.drop (s.length - 1)) := by
  obtain ⟨g, rfl⟩ : ∃ g, f = g + 1 := ⟨f - 1, by omega⟩
  rw [fill, if_pos h]; rfl
def sames {α : Type} (d : α) (a b : List α) (i : Nat) : Prop := ∀ k, k < i → a.getD k d = b.getD k d
def fu (c : UInt8) (i : Nat) : List UInt8 := List.replicate i c ++ List.replicate (64 - i) 0
end Dk
namespace Dk
theorem image_64 {S : Dsk} (h : Ok S) : ∀ x ∈ image S, x.length ≤ 140737488355328 := fun x hx => by
  obtain ⟨y, hy, rfl⟩ := List.mem_map.1 hx
  have := (h.sec y hy).1
  omega
theorem image_len (S : Dsk) : (image S).length = S.s.length := by simp [image]
end Dk
end

section
/-! the examples of the documentation -/
namespace Dk
open Go Go.Fw
def a64 : List UInt8 := List.replicate 64 97
def b64 : List UInt8 := List.replicate 64 98
def q0 : Dsk := new 2
def q1 : Dsk := (write q0 0 a64).1
def q2 : Dsk := mount q1 [3]
def q3 : Dsk := (write q2 1 a64).1
def q4 : Dsk := (flush q3).1
def q5 : Dsk := (rot q4 1 0).1
def q6 : Dsk := (wear q5 0).1
def q7 : Dsk := trip q6 1
def q8 : Dsk := (write q7 0 b64).1
def q9 : Dsk := (flush q8).1
theorem e1 : (write q0 0 a64).2 = 0 := by decide +kernel
theorem r1 : read q1 0 = (a64, 0) := by decide +kernel
theorem i1 : image q1 = [z64, z64] := by decide +kernel
theorem p1 : dix q1 = [0] := by decide +kernel
theorem r2 : read q2 0 = ([97, 97, 97] ++ z64.drop 3, 0) := by decide +kernel
theorem e4 : (flush q3).2 = 0 := by decide +kernel
theorem e5 : (rot q4 1 0).2 = 0 := by decide +kernel
theorem r5 : read q5 1 = (96 :: List.replicate 63 97, 0) := by decide +kernel
theorem e6 : (wear q5 0).2 = 0 := by decide +kernel
theorem e8 : (write q7 0 b64).2 = 0 := by decide +kernel
theorem e9 : (flush q8).2 = 23 := by decide +kernel
theorem r9 : read q9 0 = ([], 23) := by decide +kernel
theorem w9 : wix q9 = [0] := by decide +kernel
theorem u9 : q9.off = true := by decide +kernel
theorem u1 : q1.off = false := by decide +kernel
theorem l9 : q9.s.length = 2 := by decide +kernel
theorem l1 : q1.s.length = 2 := by decide +kernel
end Dk
end

section
/-! a disk of three sectors; what the laws say -/
namespace Dk
open Go Go.Fw
end Dk
end

section
/-! what was written is kept -/
namespace Dk
open Go Go.Fw
def now (x : Sec) : List UInt8 := if x.dt then x.nx else x.tx
def cur (S : Dsk) : List (List UInt8) := S.s.map now
structure Calm (S : Dsk) : Prop where
  off : S.off = false
  left : S.left = -1
  wn : ∀ x ∈ S.s, x.wn = false
def fl (n i : Nat) : List (List UInt8) := List.replicate i z64 ++ List.replicate (n - i) []
end Dk
end

section
/-! what a failure of the power leaves -/
namespace Dk
open Go Go.Fw
theorem mntL_at (ps : List Int) : ∀ (l : List Sec) (k q i : Nat), i < l.length → (mntL ps k l).getD i s0 = if (l.getD i s0).dt = true then settle1 (l.getD i s0) (pk ps (k + (ixs (·.dt) q (l.take i)).length)) else l.getD i s0
  | [], _, _, i, h => by simp at h
  | x :: l, k, q, 0, _ => by
    unfold mntL
    by_cases hd : x.dt = true
    · rw [if_pos hd, List.getD_cons_zero, List.getD_cons_zero, if_pos hd]; rfl
    · rw [if_neg hd, List.getD_cons_zero, List.getD_cons_zero, if_neg hd]
  | x :: l, k, q, i + 1, h => by
    have hi : i < l.length := by simpa using h
    unfold mntL
    rw [List.take_succ_cons, ixs]
    by_cases hd : x.dt = true
    · rw [if_pos hd, if_pos hd, List.getD_cons_succ, List.getD_cons_succ, mntL_at ps l (k + 1) (q + 1) i hi, List.length_cons, show k + 1 + (ixs (·.dt) (q + 1) (l.take i)).length = k + ((ixs (·.dt) (q + 1) (l.take i)).length + 1) by omega]
    · rw [if_neg hd, if_neg hd, List.getD_cons_succ, List.getD_cons_succ, mntL_at ps l k (q + 1) i hi]
end Dk
end

section
/-! a bit that rots, twice -/
namespace Dk
open Go Go.Fw
theorem bit_all : ∀ (c : Fin 256) (k : Fin 8), (UInt8.ofNat c.val ^^^ ofb (((1 : UInt8).toNat : Int) * 2 ^ (min k.val 8)) ^^^ ofb (((1 : UInt8).toNat : Int) * 2 ^ (min k.val 8)) = UInt8.ofNat c.val) ∧ ¬ (UInt8.ofNat c.val ^^^ ofb (((1 : UInt8).toNat : Int) * 2 ^ (min k.val 8)) = UInt8.ofNat c.val) ∧
    ixor ((UInt8.ofNat c.val).toNat : Int) (((UInt8.ofNat c.val ^^^ ofb (((1 : UInt8).toNat : Int) * 2 ^ (min k.val 8))).toNat : Nat) : Int) = 1 * 2 ^ (min k.val 64) ∧ ixor ((UInt8.ofNat c.val).toNat : Int) ((UInt8.ofNat c.val).toNat : Int) = 0 := by decide +kernel
theorem bit_of (c : UInt8) {b : Int} (hb : 0 ≤ b ∧ b < 512) : (c ^^^ bitv b ^^^ bitv b = c) ∧ ¬ (c ^^^ bitv b = c) ∧ ixor (c.toNat : Int) (((c ^^^ bitv b).toNat : Nat) : Int) = 1 * 2 ^ (min (b % 8).toNat 64) ∧ ixor (c.toNat : Int) (c.toNat : Int) = 0 := by
  have h := bit_all ⟨c.toNat, UInt8.toNat_lt c⟩ ⟨(b % 8).toNat, by omega⟩
  have e : UInt8.ofNat c.toNat = c := UInt8.ofNat_toNat
  dsimp only at h
  rw [e] at h
  exact h
theorem flip_at {t : List UInt8} {b : Int} (ht : t.length = 64) (hb : 0 ≤ b ∧ b < 512) (k : Nat) : (flip t b).getD k 0 = if k = (b / 8).toNat then t.getD k 0 ^^^ bitv b else t.getD k 0 := by
  unfold flip
  rw [List.getD_eq_getElem?_getD, List.getElem?_set]
  by_cases h : k = (b / 8).toNat
  · rw [if_pos h.symm, if_pos h, if_pos (by omega), h]; rfl
  · rw [if_neg (fun e => h e.symm), if_neg h, List.getD_eq_getElem?_getD]
theorem flip_ne {t : List UInt8} {b : Int} (ht : t.length = 64) (hb : 0 ≤ b ∧ b < 512) : ¬ t = flip t b := fun h => by
  have h1 := flip_at ht hb (b / 8).toNat
  rw [← h, if_pos rfl] at h1
  exact (bit_of _ hb).2.1 h1.symm
theorem rot_len (S : Dsk) (i b : Int) : (rot S i b).1.s.length = S.s.length := by
  unfold rot
  split
  · exact put_len _ _ _
  · rfl
end Dk
namespace Dk
end Dk
end
