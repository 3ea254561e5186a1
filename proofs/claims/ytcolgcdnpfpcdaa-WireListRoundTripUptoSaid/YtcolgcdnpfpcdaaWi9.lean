/- A text of a proof over this seat: walks over the program's functions and the plain laws that they need. -/
import Derived.Test.YtcolgcdnpfpcdaaWi8
set_option linter.all false
namespace Go.Fw
namespace Wi
theorem strs_len9 {n : Nat} (l : List (List UInt8)) (hp : ∀ p ∈ l, p.length ≤ n) : (strs l).length ≤ 9 + l.length * (n + 9) := by
  have h1 := flatMap_le bytes (n + 9) l fun x hx => by
    have := hp x hx
    have := int_len9 (x.length : Int)
    unfold bytes
    rw [List.length_append]
    omega
  have h2 := int_len9 (l.length : Int)
  unfold strs
  rw [List.length_append]
  omega
theorem dgs_len9 (l : List (List UInt8)) (h16 : ∀ x ∈ l, x.length = 16) : (dgs l).length ≤ 9 + l.length * 16 := by
  have hfl := flat16 l h16
  have h2 := int_len9 (l.length : Int)
  unfold dgs
  rw [List.length_append]
  omega
theorem ints_rtt (l : List Int) (hl : l.length < 9223372036854775808) (hp : ∀ x ∈ l, -9223372036854775808 ≤ x ∧ x ≤ 9223372036854775807) (t : List UInt8) : getList getInt (ints l ++ t) = (l, ((ints l).length : Int), 0) := list_rt codec_int l hl hp t
theorem strs_rtt (l : List (List UInt8)) (hl : l.length < 9223372036854775808) (hp : ∀ x ∈ l, x.length < 9223372036854775808) (t : List UInt8) : getList getBytes (strs l ++ t) = (l, ((strs l).length : Int), 0) := list_rt codec_bytes l hl hp t
theorem int_sh (n : Int) (hp : -9223372036854775808 ≤ n ∧ n ≤ 9223372036854775807) (i : Nat) (h : i < (int n).length) : (getInt ((int n).take i)).2.2 = 3 := codec_int.short n i hp h
theorem bytes_sh (s : List UInt8) (hp : s.length < 9223372036854775808) (i : Nat) (h : i < (bytes s).length) : (getBytes ((bytes s).take i)).2.2 = 3 := codec_bytes.short s i hp h
theorem ints_sh (l : List Int) (hl : l.length < 9223372036854775808) (hp : ∀ x ∈ l, -9223372036854775808 ≤ x ∧ x ≤ 9223372036854775807) (i : Nat) (h : i < (ints l).length) : (getList getInt ((ints l).take i)).2.2 = 3 := list_short codec_int l hl hp i h
theorem strs_sh (l : List (List UInt8)) (hl : l.length < 9223372036854775808) (hp : ∀ x ∈ l, x.length < 9223372036854775808) (i : Nat) (h : i < (strs l).length) : (getList getBytes ((strs l).take i)).2.2 = 3 := list_short codec_bytes l hl hp i h
end Wi
end Go.Fw
