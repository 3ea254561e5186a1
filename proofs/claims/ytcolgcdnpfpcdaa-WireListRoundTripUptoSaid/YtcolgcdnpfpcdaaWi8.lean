/- A text of a proof over this seat: walks over the program's functions and the plain laws that they need. -/
import Derived.Test.YtcolgcdnpfpcdaaWi7
import Derived.Test.YtcolgcdnpfpcdaaFw21
set_option linter.all false
namespace Go.Fw
namespace Wi
theorem canon_int {xs : List UInt8} (h : (getInt xs).2.2 = 0) : 0 ≤ (getInt xs).2.1 ∧ (getInt xs).2.1 ≤ xs.length ∧ int (getInt xs).1 = xs.take (getInt xs).2.1.toNat := by
  have e : getInt xs = ((getInt xs).1, (getInt xs).2.1, 0) := by rw [← h]
  obtain ⟨_, h1, t, h2⟩ := getInt_canon e
  generalize (getInt xs).1 = n at h1 h2 ⊢
  generalize (getInt xs).2.1 = k at h1 ⊢
  subst h1
  refine ⟨by omega, by rw [h2, List.length_append]; omega, ?_⟩
  rw [h2, Int.toNat_natCast, List.take_left' rfl]
theorem canon_of {α : Type} {enc : α → List UInt8} {xs : List UInt8} {f : α × Int × Int} (hc : f = (f.1, f.2.1, 0) → f.2.1 = ((enc f.1).length : Int) ∧ ∃ t, xs = enc f.1 ++ t) (h : f.2.2 = 0) : 0 ≤ f.2.1 ∧ f.2.1 ≤ xs.length ∧ enc f.1 = xs.take f.2.1.toNat := by
  obtain ⟨h1, t, h2⟩ := hc (by rw [← h])
  refine ⟨by omega, by rw [h1, h2, List.length_append]; omega, ?_⟩
  rw [h1, Int.toNat_natCast]
  conv => rhs; rw [h2]
  rw [List.take_left' rfl]
theorem canon_bytes {xs : List UInt8} (h : (getBytes xs).2.2 = 0) : 0 ≤ (getBytes xs).2.1 ∧ (getBytes xs).2.1 ≤ xs.length ∧ bytes (getBytes xs).1 = xs.take (getBytes xs).2.1.toNat :=
  canon_of (enc := bytes) (fun e => ⟨(codec_bytes.canon _ _ _ e).2.1, (codec_bytes.canon _ _ _ e).2.2⟩) h
theorem canon_ints {xs : List UInt8} (hx : xs.length ≤ 140737488355328) (h : (getList getInt xs).2.2 = 0) : 0 ≤ (getList getInt xs).2.1 ∧ (getList getInt xs).2.1 ≤ xs.length ∧ ints (getList getInt xs).1 = xs.take (getList getInt xs).2.1.toNat :=
  canon_of (enc := ints) (fun e => (list_canon codec_int xs (by omega) _ _ e).2) h
theorem canon_strs {xs : List UInt8} (hx : xs.length ≤ 140737488355328) (h : (getList getBytes xs).2.2 = 0) : 0 ≤ (getList getBytes xs).2.1 ∧ (getList getBytes xs).2.1 ≤ xs.length ∧ strs (getList getBytes xs).1 = xs.take (getList getBytes xs).2.1.toNat :=
  canon_of (enc := strs) (fun e => (list_canon codec_bytes xs (by omega) _ _ e).2) h
theorem canon_digs {xs : List UInt8} (hx : xs.length ≤ 140737488355328) (h : (getDigs xs).2.2 = 0) : 0 ≤ (getDigs xs).2.1 ∧ (getDigs xs).2.1 ≤ xs.length ∧ dgs (getDigs xs).1 = xs.take (getDigs xs).2.1.toNat :=
  canon_of (enc := dgs) (fun e => (digs_canon xs (by omega) _ _ e).2) h
theorem getBytes_len (xs : List UInt8) : (getBytes xs).1.length ≤ xs.length := by
  unfold getBytes
  split
  · simp
  · dsimp only
    rw [List.length_take, List.length_drop]
    omega
theorem getList_len {α : Type} {enc : α → List UInt8} {dec : List UInt8 → α × Int × Int} {p : α → Prop} (hc : Codec enc dec p) (he : ∀ b, (dec b).2.2 = 0 ∨ True) (xs : List UInt8) (hx : xs.length ≤ 140737488355328) : (getList dec xs).1.length ≤ xs.length ∧ ∀ x ∈ (getList dec xs).1, (enc x).length ≤ xs.length := by
  by_cases h : (getList dec xs).2.2 = 0
  · have e : getList dec xs = ((getList dec xs).1, (getList dec xs).2.1, 0) := by rw [← h]
    obtain ⟨_, _, t, h2⟩ := list_canon hc xs (by omega) _ _ e
    have h3 := flat_ge hc (getList dec xs).1
    have h4 := congrArg List.length h2
    unfold encList at h4
    simp only [List.length_append] at h4
    refine ⟨by omega, fun x hx => ?_⟩
    have := mem_flat_le enc hx
    omega
  · have e : (getList dec xs).1 = [] := by
      unfold getList at h ⊢
      split
      · rfl
      · rename_i h1
        rw [if_neg h1] at h
        have key : ∀ n, ¬ (run dec xs (cnt 1 xs).2.1 n).2.2 = 0 → (run dec xs (cnt 1 xs).2.1 n).1 = [] := by
          intro n
          induction n with
          | zero => intro h; simp [run] at h
          | succ n ih =>
            intro h
            rw [run_succ] at h ⊢
            split
            · rename_i h2; exact ih h2
            · rename_i h2
              rw [if_neg h2] at h
              split
              · rfl
              · rename_i h3
                rw [if_neg h3] at h
                simp at h
        exact key _ h
    rw [e]
    simp
theorem getDigs_len (xs : List UInt8) : (getDigs xs).1.length ≤ xs.length := by
  unfold getDigs
  split
  · simp
  · rename_i h
    obtain ⟨_, h2, h3, h4, _⟩ := cnt_ok (size := 16) (b := xs) (by omega)
    simp only [List.length_map, List.length_range]
    omega
end Wi
end Go.Fw
namespace Go.Fw
namespace Wi
theorem flatMap_le {α : Type} (enc : α → List UInt8) (B : Nat) (l : List α) (h : ∀ x ∈ l, (enc x).length ≤ B) : (l.flatMap enc).length ≤ l.length * B := by
  induction l with
  | nil => simp
  | cons x l ih =>
    have h1 := ih fun y hy => h y (by simp [hy])
    have h2 := h x (by simp)
    rw [List.flatMap_cons, List.length_append, List.length_cons, Nat.add_mul]
    omega
theorem ints_len2 (l : List Int) : (ints l).length ≤ 9 + l.length * 9 := by
  have h1 := flatMap_le int 9 l fun x _ => (int_len9 x).2
  have h2 := int_len9 (l.length : Int)
  unfold ints
  rw [List.length_append]
  omega
theorem ints_len {n : Nat} (l : List Int) (h : l.length ≤ n) (hn : n ≤ 2000) : (ints l).length ≤ 20000 := by
  have := ints_len2 l
  omega
theorem strs_len {n : Nat} (l : List (List UInt8)) (h : l.length ≤ n) (hp : ∀ p ∈ l, (bytes p).length ≤ n) (hn : n ≤ 2000) : (strs l).length ≤ 4100000 := by
  have h1 := flatMap_le bytes 2000 l fun x hx => by have := hp x hx; omega
  have h2 := int_len9 (l.length : Int)
  unfold strs
  rw [List.length_append]
  omega
theorem dgs_len (xs : List UInt8) (hn : xs.length ≤ 2000) : (dgs (getDigs xs).1).length ≤ 2000 + 9 := by
  by_cases h : (getDigs xs).2.2 = 0
  · obtain ⟨h1, h2, h3⟩ := canon_digs (by omega) h
    rw [h3, List.length_take]
    omega
  · have e : (getDigs xs).1 = [] := by
      unfold getDigs at h ⊢
      split
      · rfl
      · rename_i h1; rw [if_neg h1] at h; simp at h
    rw [e]
    have := int_len9 (([] : List (List UInt8)).length : Int)
    unfold dgs
    simp only [List.flatten_nil, List.append_nil]
    omega
theorem by_le (p : List UInt8) : p.length ≤ (bytes p).length := by unfold bytes; rw [List.length_append]; omega
theorem ints_rt (l : List Int) (hl : l.length < 9223372036854775808) (hp : ∀ x ∈ l, -9223372036854775808 ≤ x ∧ x ≤ 9223372036854775807) : getList getInt (ints l) = (l, ((ints l).length : Int), 0) := by
  have := list_rt codec_int l hl hp []
  rwa [List.append_nil] at this
end Wi
end Go.Fw
