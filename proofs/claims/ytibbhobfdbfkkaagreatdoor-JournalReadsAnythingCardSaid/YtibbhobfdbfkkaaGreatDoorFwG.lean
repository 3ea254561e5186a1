/- A text of a proof over this seat: walks over the program's functions and the plain laws that they need. -/
import Derived.Test.YtibbhobfdbfkkaaGreatDoorFwD
import Derived.Shelf.Strings.Repeat
import Derived.Test.YtibbhobfdbfkkaaGreatDoorFwB
import Derived.Test.YtibbhobfdbfkkaaGreatDoorFwE
import Derived.Test.YtibbhobfdbfkkaaGreatDoorJnA
set_option linter.all false
section
/-! strings.Repeat, by the library's contract -/
namespace Go.Fw
open Go Go.Sem Go.RowKit Go.Shelf Go.Proofs
theorem repeat_ct {P : Program} {ρ : Ren} (L : Lays.n105 P ρ) (X : Builder.Extra P ρ) (w : World) (s : List UInt8) (c : Nat) (hc : 2 ≤ c) (h0 : 0 < s.length) (hl : s.length * c ≤ 140737488355328) :
    Ct P (ρ.f 105) [vs s, vi (c : Int)] w (fun r _ _ => r = vs (Lib.repeatL s c)) := by
  have h1 : c ≤ s.length * c := Nat.le_mul_of_pos_left c h0
  have hsz : (⟨s.toArray⟩ : ByteArray).size = s.length := by show s.toArray.size = _; simp
  refine Calls.mono (Any.strings_Repeat_main L X ⟨s.toArray⟩ c w hc (by omega) (by rw [hsz]; exact hl) (by rw [hsz]; exact h0)) fun e w' ⟨he, hb⟩ => ?_
  refine ⟨_, [], [], he, ⟨below_le hb, by simp, by simp, by simp, below_io hb⟩, ?_⟩
  rfl
end Go.Fw
end

section
/-! structs of three integers, a string and a bool, compared: the same -/
namespace Go.Fw
section
variable {P : Program} {n : Nat} {w0 : World} {zs : List PH} {hs : List Res} {L : List (Nat × Value)} {d : Option Tmp} {ty t t' : TypeId} {pos : String} {af : Array Edge} {g : Option (Nat × Bool)}
variable {x y : Operand}
end
end Go.Fw
end

section
/-! steps of a script, as elements and as arguments; a flag of a journal, read -/
namespace Go.Fw
open Go.ChangeShapes Go.WideShapes Go.ChangeAt Go.RowKit
structure Stp where
  k : Int
  i : Int
  b : Int
  n : Int
  f : UInt8
  ps : List Int
def encSt : Enc Stp where
  size := 6
  rep z o c := ∃ pv, c = [vi o.k, vi o.i, vi o.b, vi o.n, vb o.f, pv] ∧ (-9223372036854775808 ≤ o.k ∧ o.k ≤ 9223372036854775807) ∧ (-9223372036854775808 ≤ o.i ∧ o.i ≤ 9223372036854775807) ∧ (-9223372036854775808 ≤ o.b ∧ o.b ≤ 9223372036854775807) ∧ (-9223372036854775808 ≤ o.n ∧ o.n ≤ 9223372036854775807) ∧ Sl encI z pv o.ps
  mono hz h := by obtain ⟨pv, h1, h2, h3, h4, h5, h6⟩ := h; exact ⟨pv, h1, h2, h3, h4, h5, h6.mono hz⟩
  len h := by obtain ⟨pv, h1, _⟩ := h; rw [h1]; rfl
  one h u hu := by
    obtain ⟨pv, h1, h2, h3, h4, h5, h6⟩ := h
    rw [h1] at hu
    simp only [List.mem_cons, List.not_mem_nil, or_false] at hu
    rcases hu with rfl | rfl | rfl | rfl | rfl | rfl
    · rfl
    · rfl
    · rfl
    · rfl
    · rfl
    · exact sl_one' h6
def st0 : Stp := ⟨0, 0, 0, 0, 0, []⟩
section
variable {H : Type} {enc : TypeId × Value → H} {P : Program} {W : World} {t : TypeId}
end
end Go.Fw
end
