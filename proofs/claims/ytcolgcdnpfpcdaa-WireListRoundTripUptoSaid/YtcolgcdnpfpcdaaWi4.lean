/- A text of a proof over this seat: walks over the program's functions and the plain laws that they need. -/
import Derived.Test.YtcolgcdnpfpcdaaWi3
set_option linter.all false
namespace Go.Fw
namespace Wi
def ints (l : List Int) : List UInt8 := int l.length ++ l.flatMap int
def strs (l : List (List UInt8)) : List UInt8 := int l.length ++ l.flatMap bytes
def dgs (l : List (List UInt8)) : List UInt8 := int l.length ++ l.flatten

/-- The length of a list, at the beginning of b. -/
def cnt (size : Nat) (b : List UInt8) : Int × Int × Int :=
  if (getInt b).2.2 ≠ 0 then (0, 0, (getInt b).2.2)
  else if (getInt b).1 < 0 then (0, 0, 2)
  else if (b.length : Int) - (getInt b).2.1 < (getInt b).1 * size then (0, 0, 3)
  else getInt b
def getBytes (b : List UInt8) : List UInt8 × Int × Int :=
  if (cnt 1 b).2.2 ≠ 0 then ([], 0, (cnt 1 b).2.2)
  else ((b.drop (cnt 1 b).2.1.toNat).take (cnt 1 b).1.toNat, (cnt 1 b).2.1 + (cnt 1 b).1, 0)
def run {α : Type} (dec : List UInt8 → α × Int × Int) (b : List UInt8) (at0 : Int) : Nat → List α × Int × Int
  | 0 => ([], at0, 0)
  | k + 1 =>
    if (run dec b at0 k).2.2 ≠ 0 then run dec b at0 k
    else if (dec (b.drop (run dec b at0 k).2.1.toNat)).2.2 ≠ 0 then ([], 0, (dec (b.drop (run dec b at0 k).2.1.toNat)).2.2)
    else ((run dec b at0 k).1 ++ [(dec (b.drop (run dec b at0 k).2.1.toNat)).1], (run dec b at0 k).2.1 + (dec (b.drop (run dec b at0 k).2.1.toNat)).2.1, 0)
def getList {α : Type} (dec : List UInt8 → α × Int × Int) (b : List UInt8) : List α × Int × Int :=
  if (cnt 1 b).2.2 ≠ 0 then ([], 0, (cnt 1 b).2.2) else run dec b (cnt 1 b).2.1 (cnt 1 b).1.toNat
def getInts (b : List UInt8) : List Int × Int × Int := getList getInt b
def getStrs (b : List UInt8) : List (List UInt8) × Int × Int := getList getBytes b
def getDigs (b : List UInt8) : List (List UInt8) × Int × Int :=
  if (cnt 16 b).2.2 ≠ 0 then ([], 0, (cnt 16 b).2.2)
  else ((List.range (cnt 16 b).1.toNat).map (fun k => (b.drop ((cnt 16 b).2.1.toNat + 16 * k)).take 16), (cnt 16 b).2.1 + 16 * (cnt 16 b).1, 0)

theorem getInt_le {b : List UInt8} {n k : Int} (h : getInt b = (n, k, 0)) : 1 ≤ k ∧ k ≤ b.length ∧ k ≤ 9 := by
  obtain ⟨_, rfl, t, rfl⟩ := getInt_canon h
  have := int_len9 n
  rw [List.length_append]
  omega
theorem getInt_e (b : List UInt8) : (getInt b).2.2 = 0 ∨ getInt b = (0, 0, (getInt b).2.2) ∧ ((getInt b).2.2 = 2 ∨ (getInt b).2.2 = 3) := by
  unfold getInt
  split
  · simp
  · repeat (first | split | simp)
theorem cnt_ok {size : Nat} {b : List UInt8} (h : (cnt size b).2.2 = 0) : cnt size b = getInt b ∧ 0 ≤ (cnt size b).1 ∧ 1 ≤ (cnt size b).2.1 ∧ (cnt size b).2.1 + (cnt size b).1 * size ≤ b.length ∧ getInt b = ((cnt size b).1, (cnt size b).2.1, 0) := by
  unfold cnt at h ⊢
  split at h
  · rename_i h1; exact absurd h h1
  rename_i h1
  rw [if_neg h1]
  split at h
  · simp at h
  rename_i h2
  rw [if_neg h2]
  split at h
  · simp at h
  rename_i h3
  rw [if_neg h3]
  have e : getInt b = ((getInt b).1, (getInt b).2.1, 0) := by
    have : (getInt b).2.2 = 0 := by omega
    rw [← this]
  have := getInt_le e
  exact ⟨rfl, by omega, by omega, by omega, e⟩
theorem cnt_e (size : Nat) (b : List UInt8) : (cnt size b).2.2 = 0 ∨ cnt size b = (0, 0, (cnt size b).2.2) ∧ ((cnt size b).2.2 = 2 ∨ (cnt size b).2.2 = 3) := by
  have := getInt_e b
  unfold cnt
  split
  · right; refine ⟨rfl, ?_⟩; rcases this with h | h
    · contradiction
    · exact h.2
  split
  · simp
  split
  · simp
  · left; omega
theorem cnt_int (size n : Nat) (hn : n < 9223372036854775808) (t : List UInt8) : cnt size (int (n : Int) ++ t) = if t.length < n * size then (0, 0, 3) else ((n : Int), ((int (n : Int)).length : Int), 0) := by
  unfold cnt
  rw [getInt_int n (by omega)]
  dsimp only
  rw [if_neg (by simp), if_neg (by omega), List.length_append]
  have e : (((int (n : Int)).length + t.length : Nat) : Int) - ((int (n : Int)).length : Int) < (n : Int) * size ↔ t.length < n * size := by
    have : (n : Int) * size = ((n * size : Nat) : Int) := by simp
    rw [this]; omega
  by_cases h : t.length < n * size
  · rw [if_pos (e.2 h), if_pos h]
  · rw [if_neg (fun h2 => h (e.1 h2)), if_neg h]
theorem cnt_short (size n : Nat) (i : Nat) (h : i < (int (n : Int)).length) : cnt size ((int (n : Int)).take i) = (0, 0, 3) := by
  unfold cnt
  rw [getInt_short _ _ h]
  rfl

/-! ### a codec -/
structure Codec {α : Type} (enc : α → List UInt8) (dec : List UInt8 → α × Int × Int) (p : α → Prop) : Prop where
  rt : ∀ x t, p x → dec (enc x ++ t) = (x, ((enc x).length : Int), 0)
  canon : ∀ b x k, dec b = (x, k, 0) → p x ∧ k = ((enc x).length : Int) ∧ ∃ t, b = enc x ++ t
  short : ∀ x i, p x → i < (enc x).length → (dec ((enc x).take i)).2.2 = 3
  pos : ∀ x, 1 ≤ (enc x).length
theorem codec_int : Codec int getInt (fun n => -9223372036854775808 ≤ n ∧ n ≤ 9223372036854775807) :=
  ⟨fun x t h => getInt_int x h t, fun _ _ _ h => getInt_canon h, fun x i _ h => by rw [getInt_short x i h], fun x => (int_len9 x).1⟩
theorem codec_bytes : Codec bytes getBytes (fun s => s.length < 9223372036854775808) := by
  refine ⟨fun s t h => ?_, fun b s k h => ?_, fun s i hs h => ?_, fun s => by have := int_len9 s.length; unfold bytes; rw [List.length_append]; omega⟩
  · unfold getBytes bytes
    have hc1 := cnt_int 1 s.length h (s ++ t)
    rw [if_neg (by rw [List.length_append]; omega)] at hc1
    rw [List.append_assoc, hc1]
    dsimp only
    rw [if_neg (by simp), Int.toNat_natCast, Int.toNat_natCast, List.drop_left', List.take_left', List.length_append]
    · simp
    · rfl
    · rfl
  · unfold getBytes at h
    split at h
    · rename_i h1
      simp only [Prod.mk.injEq] at h
      exact absurd h.2.2 h1
    · rename_i h1
      have hc := cnt_ok (size := 1) (b := b) (by omega)
      obtain ⟨_, h2, h3, h4, h5⟩ := hc
      obtain ⟨hr, hk, t, ht⟩ := getInt_canon h5
      generalize (cnt 1 b).1 = n at h h2 h3 h4 h5 hr hk ht
      generalize (cnt 1 b).2.1 = m at h h3 h4 h5 hk
      simp only [Prod.mk.injEq, and_true] at h
      obtain ⟨rfl, rfl⟩ := h
      subst ht hk
      rw [List.length_append] at h4
      have e1 : (int n ++ t).drop (Int.toNat ((int n).length : Int)) = t := by rw [Int.toNat_natCast, List.drop_left']; rfl
      rw [e1]
      have hl : (t.take n.toNat).length = n.toNat := by rw [List.length_take]; omega
      have e2 : (((t.take n.toNat).length : Nat) : Int) = n := by rw [hl]; omega
      refine ⟨by rw [hl]; omega, ?_, t.drop n.toNat, ?_⟩
      · unfold bytes
        rw [e2, List.length_append, hl]
        omega
      · unfold bytes
        rw [e2, List.append_assoc, List.take_append_drop]
  · unfold bytes at h ⊢
    rw [List.length_append] at h
    rcases Nat.lt_or_ge i (int (s.length : Int)).length with hi | hi
    · rw [List.take_append_of_le_length (by omega)]
      unfold getBytes
      rw [cnt_short 1 _ _ hi]
      rfl
    · rw [List.take_append, List.take_of_length_le hi]
      have hc1 := cnt_int 1 s.length hs (s.take (i - (int (s.length : Int)).length))
      rw [if_pos (by rw [List.length_take]; omega)] at hc1
      unfold getBytes
      rw [hc1]
      rfl

section
variable {α : Type} {enc : α → List UInt8} {dec : List UInt8 → α × Int × Int} {p : α → Prop}
theorem run_succ (b : List UInt8) (at0 : Int) (k : Nat) : run dec b at0 (k + 1) = if (run dec b at0 k).2.2 ≠ 0 then run dec b at0 k
    else if (dec (b.drop (run dec b at0 k).2.1.toNat)).2.2 ≠ 0 then ([], 0, (dec (b.drop (run dec b at0 k).2.1.toNat)).2.2)
    else ((run dec b at0 k).1 ++ [(dec (b.drop (run dec b at0 k).2.1.toNat)).1], (run dec b at0 k).2.1 + (dec (b.drop (run dec b at0 k).2.1.toNat)).2.1, 0) := rfl
theorem run_err (b : List UInt8) (at0 : Int) (k : Nat) (h : (run dec b at0 k).2.2 ≠ 0) : ∀ m, run dec b at0 (k + m) = run dec b at0 k
  | 0 => rfl
  | m + 1 => by
    have ih := run_err b at0 k h m
    rw [show k + (m + 1) = (k + m) + 1 by omega, run_succ, if_pos (by rw [ih]; exact h), ih]
theorem run_err' (b : List UInt8) (at0 : Int) {k n : Nat} (hk : k ≤ n) (h : (run dec b at0 k).2.2 ≠ 0) : run dec b at0 n = run dec b at0 k := by
  have := run_err (dec := dec) b at0 k h (n - k)
  rwa [show k + (n - k) = n by omega] at this
theorem flat_take_le (xs : List α) (k : Nat) : ((xs.take k).flatMap enc).length ≤ (xs.flatMap enc).length := by
  conv => rhs; rw [← List.take_append_drop k xs]
  rw [List.flatMap_append, List.length_append]
  omega
theorem flat_take_succ (xs : List α) (k : Nat) (h : k < xs.length) : (xs.take (k + 1)).flatMap enc = (xs.take k).flatMap enc ++ enc xs[k] := by
  rw [List.take_succ_eq_append_getElem h, List.flatMap_append]
  simp
theorem flat_ge (hc : Codec enc dec p) (xs : List α) : xs.length ≤ (xs.flatMap enc).length := by
  induction xs with
  | nil => simp
  | cons x xs ih => have := hc.pos x; simp only [List.flatMap_cons, List.length_append, List.length_cons]; omega
theorem flat_split (xs : List α) (k : Nat) (h : k < xs.length) : xs.flatMap enc = (xs.take k).flatMap enc ++ (enc xs[k] ++ (xs.drop (k + 1)).flatMap enc) := by
  conv => lhs; rw [← List.take_append_drop k xs, List.flatMap_append, List.drop_eq_getElem_cons h, List.flatMap_cons]
/-- Along an encoding that is cut off behind r bytes. -/
theorem run_cut (hc : Codec enc dec p) (pre : List UInt8) (xs : List α) (hp : ∀ x ∈ xs, p x) (t : List UInt8) (r : Nat) : ∀ k, k ≤ xs.length →
    (((xs.take k).flatMap enc).length ≤ r → run dec (pre ++ ((xs.flatMap enc).take r ++ t)) (pre.length : Int) k = (xs.take k, ((pre.length + ((xs.take k).flatMap enc).length : Nat) : Int), 0)) ∨ False
  | 0, _ => .inl fun _ => by simp [run]
  | k + 1, hk => by
    have ih := (run_cut hc pre xs hp t r k (by omega)).resolve_right id
    refine .inl fun hr => ?_
    have hlt : k < xs.length := by omega
    have e1 := flat_take_succ (enc := enc) xs k hlt
    rw [e1, List.length_append] at hr
    have ih := ih (by omega)
    rw [run_succ, ih]
    dsimp only
    rw [if_neg (by simp), Int.toNat_natCast]
    have g1 : ((xs.take k).flatMap enc).take r = (xs.take k).flatMap enc := List.take_of_length_le (by omega)
    have g2 : (enc xs[k]).take (r - ((xs.take k).flatMap enc).length) = enc xs[k] := List.take_of_length_le (by omega)
    have e2 : (pre ++ ((xs.flatMap enc).take r ++ t)).drop (pre.length + ((xs.take k).flatMap enc).length) = enc xs[k] ++ (((xs.drop (k + 1)).flatMap enc).take (r - ((xs.take k).flatMap enc).length - (enc xs[k]).length) ++ t) := by
      rw [← List.drop_drop, List.drop_left' rfl, flat_split xs k hlt, List.take_append, g1, List.take_append, g2, List.append_assoc, List.drop_left' rfl, List.append_assoc]
    rw [e2, hc.rt _ _ (hp _ (List.getElem_mem hlt)), if_neg (by simp), e1, List.length_append, List.take_succ_eq_append_getElem hlt]
    refine Prod.ext rfl (Prod.ext ?_ rfl)
    show ((pre.length + ((xs.take k).flatMap enc).length : Nat) : Int) + ((enc xs[k]).length : Int) = ((pre.length + (((xs.take k).flatMap enc).length + (enc xs[k]).length) : Nat) : Int)
    omega
theorem run_all (hc : Codec enc dec p) (pre : List UInt8) (xs : List α) (hp : ∀ x ∈ xs, p x) (t : List UInt8) :
    run dec (pre ++ (xs.flatMap enc ++ t)) (pre.length : Int) xs.length = (xs, ((pre.length + (xs.flatMap enc).length : Nat) : Int), 0) := by
  have h := (run_cut hc pre xs hp t (xs.flatMap enc).length xs.length (Nat.le_refl _)).resolve_right id
  rw [List.take_length, List.take_length] at h
  exact h (Nat.le_refl _)
/-- .. and what is cut off within an element. -/
theorem run_short (hc : Codec enc dec p) (pre : List UInt8) (xs : List α) (hp : ∀ x ∈ xs, p x) (r : Nat) (hr : r < (xs.flatMap enc).length) :
    (run dec (pre ++ (xs.flatMap enc).take r) (pre.length : Int) xs.length).2.2 = 3 := by
  -- the first element that does not fit
  have hex : ∃ k, k < xs.length ∧ ((xs.take k).flatMap enc).length ≤ r ∧ r < ((xs.take (k + 1)).flatMap enc).length := by
    have key : ∀ n, n ≤ xs.length → r < ((xs.take n).flatMap enc).length → ∃ k, k < n ∧ ((xs.take k).flatMap enc).length ≤ r ∧ r < ((xs.take (k + 1)).flatMap enc).length := by
      intro n
      induction n with
      | zero => intro _ h; simp at h
      | succ n ih =>
        intro hn h
        rcases Nat.lt_or_ge r ((xs.take n).flatMap enc).length with h1 | h1
        · obtain ⟨k, hk, h2⟩ := ih (by omega) h1
          exact ⟨k, by omega, h2⟩
        · exact ⟨n, by omega, h1, h⟩
    obtain ⟨k, hk, h⟩ := key xs.length (Nat.le_refl _) (by rw [List.take_length]; exact hr)
    exact ⟨k, hk, h⟩
  obtain ⟨k, hk, h1, h2⟩ := hex
  have h3 := (run_cut hc pre xs hp [] r k (by omega)).resolve_right id h1
  rw [List.append_nil] at h3
  have e1 := flat_take_succ (enc := enc) xs k hk
  rw [e1, List.length_append] at h2
  have e2 : (pre ++ (xs.flatMap enc).take r).drop (pre.length + ((xs.take k).flatMap enc).length) = (enc xs[k]).take (r - ((xs.take k).flatMap enc).length) := by
    rw [← List.drop_drop, List.drop_left' rfl, flat_split xs k hk, List.take_append, List.take_of_length_le h1, List.drop_left' rfl, List.take_append_of_le_length (by omega)]
  have h4 : run dec (pre ++ (xs.flatMap enc).take r) (pre.length : Int) (k + 1) = ([], 0, 3) := by
    rw [run_succ, h3]
    dsimp only
    rw [if_neg (by simp), Int.toNat_natCast, e2, hc.short _ _ (hp _ (List.getElem_mem hk)) (by omega)]
    simp
  rw [run_err' _ _ (show k + 1 ≤ xs.length by omega) (by rw [h4]; simp), h4]
theorem run_canon (hc : Codec enc dec p) (b : List UInt8) (at0 : Nat) (h0 : at0 ≤ b.length) : ∀ k xs e, run dec b (at0 : Int) k = (xs, e, 0) → xs.length = k ∧ (∀ x ∈ xs, p x) ∧ e = ((at0 + (xs.flatMap enc).length : Nat) : Int) ∧ ∃ t, b.drop at0 = xs.flatMap enc ++ t
  | 0, xs, e, h => by
    simp only [run, Prod.mk.injEq, and_true] at h
    obtain ⟨rfl, rfl⟩ := h
    exact ⟨rfl, by simp, by simp, _, rfl⟩
  | k + 1, xs, e, h => by
    rw [run_succ] at h
    split at h
    · rename_i h1
      rw [h] at h1
      simp at h1
    rename_i h1
    split at h
    · rename_i h2
      simp only [Prod.mk.injEq] at h
      exact absurd h.2.2 h2
    rename_i h2
    obtain ⟨ys, q, r, hs⟩ : ∃ ys q r, run dec b (at0 : Int) k = (ys, q, r) := ⟨_, _, _, rfl⟩
    rw [hs] at h1 h2 h
    dsimp only at h1 h2 h
    obtain rfl : r = 0 := by omega
    obtain ⟨i1, i2, i3, t, i4⟩ := run_canon hc b at0 h0 k ys q hs
    subst i3
    rw [Int.toNat_natCast] at h2 h
    have e4 : b.drop (at0 + (ys.flatMap enc).length) = t := by rw [← List.drop_drop, i4, List.drop_left' rfl]
    rw [e4] at h2 h
    obtain ⟨x, m, f, hd⟩ : ∃ x m f, dec t = (x, m, f) := ⟨_, _, _, rfl⟩
    rw [hd] at h2 h
    dsimp only at h2 h
    obtain rfl : f = 0 := by omega
    obtain ⟨j1, j2, t', j3⟩ := hc.canon _ _ _ hd
    simp only [Prod.mk.injEq, and_true] at h
    obtain ⟨rfl, rfl⟩ := h
    refine ⟨by simp [i1], ?_, ?_, t', ?_⟩
    · intro y hy
      rcases List.mem_append.1 hy with hy | hy
      · exact i2 y hy
      · rw [List.mem_singleton] at hy; exact hy ▸ j1
    · rw [j2, List.flatMap_append, List.length_append]
      simp
      omega
    · rw [i4, j3, List.flatMap_append, List.append_assoc]
      simp

/-! ### lists -/
def encList (enc : α → List UInt8) (xs : List α) : List UInt8 := int (xs.length : Int) ++ xs.flatMap enc
theorem list_rt (hc : Codec enc dec p) (xs : List α) (hl : xs.length < 9223372036854775808) (hp : ∀ x ∈ xs, p x) (t : List UInt8) : getList dec (encList enc xs ++ t) = (xs, ((encList enc xs).length : Int), 0) := by
  have hge := flat_ge hc xs
  have hr := run_all hc (int (xs.length : Int)) xs hp t
  unfold getList encList
  have hc1 := cnt_int 1 xs.length hl (xs.flatMap enc ++ t)
  rw [if_neg (by rw [List.length_append]; omega)] at hc1
  rw [List.append_assoc, hc1]
  dsimp only
  rw [if_neg (by simp), Int.toNat_natCast, hr, List.length_append]
theorem list_short (hc : Codec enc dec p) (xs : List α) (hl : xs.length < 9223372036854775808) (hp : ∀ x ∈ xs, p x) (i : Nat) (h : i < (encList enc xs).length) : (getList dec ((encList enc xs).take i)).2.2 = 3 := by
  unfold encList at h ⊢
  rw [List.length_append] at h
  rcases Nat.lt_or_ge i (int (xs.length : Int)).length with hi | hi
  · rw [List.take_append_of_le_length (by omega)]
    unfold getList
    rw [cnt_short 1 _ _ hi]
    rfl
  · rw [List.take_append, List.take_of_length_le hi]
    unfold getList
    rw [cnt_int 1 _ hl]
    split
    · rfl
    · dsimp only
      rw [if_neg (by simp), Int.toNat_natCast]
      exact run_short hc _ xs hp _ (by omega)
theorem list_canon (hc : Codec enc dec p) (b : List UInt8) (hb : b.length < 9223372036854775808) (xs : List α) (k : Int) (h : getList dec b = (xs, k, 0)) : (∀ x ∈ xs, p x) ∧ k = ((encList enc xs).length : Int) ∧ ∃ t, b = encList enc xs ++ t := by
  unfold getList at h
  split at h
  · rename_i h1
    simp only [Prod.mk.injEq] at h
    exact absurd h.2.2 h1
  rename_i h1
  obtain ⟨_, h2, h3, h4, h5⟩ := cnt_ok (size := 1) (b := b) (by omega)
  obtain ⟨hr, hk, t, ht⟩ := getInt_canon h5
  generalize (cnt 1 b).1 = n at h h2 h3 h4 h5 hr hk ht
  generalize (cnt 1 b).2.1 = m at h h3 h4 h5 hk
  subst hk
  obtain ⟨i1, i2, i3, t', i4⟩ := run_canon hc b _ (by omega) _ _ _ h
  have e : ((xs.length : Nat) : Int) = n := by omega
  refine ⟨i2, ?_, t', ?_⟩
  · unfold encList
    rw [e, i3, List.length_append]
  · rw [ht, List.drop_left' rfl] at i4
    unfold encList
    rw [e, List.append_assoc, ← i4, ← ht]
end
theorem digs_rt (l : List (List UInt8)) (hl : l.length < 9223372036854775808) (h16 : ∀ x ∈ l, x.length = 16) (t : List UInt8) : getDigs (dgs l ++ t) = (l, ((dgs l).length : Int), 0) := by
  have hfl : l.flatten.length = 16 * l.length := by
    induction l with
    | nil => rfl
    | cons x l ih => rw [List.flatten_cons, List.length_append, h16 x (by simp), ih (by simp at hl; omega) fun y hy => h16 y (by simp [hy]), List.length_cons]; omega
  unfold getDigs dgs
  have hc1 := cnt_int 16 l.length hl (l.flatten ++ t)
  rw [if_neg (by rw [List.length_append]; omega)] at hc1
  rw [List.append_assoc, hc1]
  dsimp only
  rw [if_neg (by simp), Int.toNat_natCast, Int.toNat_natCast, List.length_append, hfl]
  refine Prod.ext ?_ (Prod.ext (by show ((int (l.length : Int)).length : Int) + 16 * (l.length : Int) = (((int (l.length : Int)).length + 16 * l.length : Nat) : Int); omega) rfl)
  show (List.range l.length).map _ = l
  have key : ∀ (l : List (List UInt8)) (t : List UInt8), (∀ x ∈ l, x.length = 16) → (List.range l.length).map (fun k => ((l.flatten ++ t).drop (16 * k)).take 16) = l := by
    intro l
    induction l with
    | nil => intro t _; rfl
    | cons x l ih =>
      intro t h
      have hx := h x (by simp)
      rw [List.length_cons, List.range_succ_eq_map, List.map_cons, List.map_map]
      refine List.cons_eq_cons.2 ⟨?_, ?_⟩
      · rw [Nat.mul_zero, List.drop_zero, List.flatten_cons, List.append_assoc, List.take_left' hx]
      · conv => rhs; rw [← ih t fun y hy => h y (by simp [hy])]
        apply List.map_congr_left
        intro k _
        simp only [Function.comp]
        rw [show 16 * (k + 1) = x.length + 16 * k by omega, ← List.drop_drop, List.flatten_cons, List.append_assoc, List.drop_left' rfl]
  conv => rhs; rw [← key l t h16]
  apply List.map_congr_left
  intro k _
  rw [← List.drop_drop, List.drop_left' rfl]
theorem flat16 : ∀ (l : List (List UInt8)), (∀ x ∈ l, x.length = 16) → l.flatten.length = 16 * l.length
  | [], _ => rfl
  | x :: l, h => by rw [List.flatten_cons, List.length_append, h x (by simp), flat16 l fun y hy => h y (by simp [hy]), List.length_cons]; omega
theorem digs_short (l : List (List UInt8)) (hl : l.length < 9223372036854775808) (h16 : ∀ x ∈ l, x.length = 16) (i : Nat) (h : i < (dgs l).length) : (getDigs ((dgs l).take i)).2.2 = 3 := by
  have hfl := flat16 l h16
  unfold dgs at h ⊢
  rw [List.length_append] at h
  rcases Nat.lt_or_ge i (int (l.length : Int)).length with hi | hi
  · rw [List.take_append_of_le_length (by omega)]
    unfold getDigs
    rw [cnt_short 16 _ _ hi]
    rfl
  · rw [List.take_append, List.take_of_length_le hi]
    have hc1 := cnt_int 16 l.length hl (l.flatten.take (i - (int (l.length : Int)).length))
    rw [if_pos (by rw [List.length_take]; omega)] at hc1
    unfold getDigs
    rw [hc1]
    rfl
theorem digs_canon (b : List UInt8) (hb : b.length < 9223372036854775808) (l : List (List UInt8)) (k : Int) (h : getDigs b = (l, k, 0)) : (∀ x ∈ l, x.length = 16) ∧ k = ((dgs l).length : Int) ∧ ∃ t, b = dgs l ++ t := by
  unfold getDigs at h
  split at h
  · rename_i h1
    simp only [Prod.mk.injEq] at h
    exact absurd h.2.2 h1
  rename_i h1
  obtain ⟨_, h2, h3, h4, h5⟩ := cnt_ok (size := 16) (b := b) (by omega)
  obtain ⟨hr, hk, t, ht⟩ := getInt_canon h5
  generalize (cnt 16 b).1 = n at h h2 h3 h4 h5 hr hk ht
  generalize (cnt 16 b).2.1 = m at h h3 h4 h5 hk
  subst hk
  simp only [Prod.mk.injEq, and_true] at h
  obtain ⟨rfl, rfl⟩ := h
  have hbl := congrArg List.length ht
  rw [List.length_append] at hbl
  rw [Int.toNat_natCast]
  have hm : ∀ x ∈ (List.range n.toNat).map (fun k => (b.drop ((int n).length + 16 * k)).take 16), x.length = 16 := by
    intro x hx
    obtain ⟨k, hk, rfl⟩ := List.mem_map.1 hx
    rw [List.mem_range] at hk
    rw [List.length_take, List.length_drop]
    omega
  have hf := flat16 _ hm
  rw [List.length_map, List.length_range] at hf
  have e : (((List.range n.toNat).map (fun k => (b.drop ((int n).length + 16 * k)).take 16)).length : Int) = n := by rw [List.length_map, List.length_range]; omega
  have hflat : ((List.range n.toNat).map (fun k => (b.drop ((int n).length + 16 * k)).take 16)).flatten = t.take (16 * n.toNat) := by
    have : ∀ j, j ≤ n.toNat → ((List.range j).map (fun k => (b.drop ((int n).length + 16 * k)).take 16)).flatten = t.take (16 * j) := by
      intro j
      induction j with
      | zero => intro _; simp
      | succ j ih =>
        intro hj
        rw [List.range_succ, List.map_append, List.flatten_append, ih (by omega)]
        simp only [List.map_cons, List.map_nil, List.flatten_cons, List.flatten_nil, List.append_nil]
        rw [ht, ← List.drop_drop, List.drop_left' rfl, show 16 * (j + 1) = 16 * j + 16 by omega, List.take_add]
    exact this _ (Nat.le_refl _)
  refine ⟨hm, ?_, t.drop (16 * n.toNat), ?_⟩
  · unfold dgs
    rw [e, List.length_append, hf]
    omega
  · unfold dgs
    rw [e, hflat, List.append_assoc, List.take_append_drop]
    exact ht
end Wi
end Go.Fw
