/- A text of a proof over this seat: walks over the program's functions and the plain laws that they need. -/
import Derived.Test.YtefjpigmgmbghaaHu12
import Derived.Test.YtefjpigmgmbghaaGpA
import Derived.Test.YtefjpigmgmbghaaFwB
set_option linter.all false
namespace Go.Proofs.Ytefjpigmgmbghaa
open Go.Fw
theorem fn48 : FnOk Try.prog 48 := ⟨_, Try.func48, rfl, by kernel_rfl⟩
theorem fn49 : FnOk Try.prog 49 := ⟨_, Try.func49, rfl, by kernel_rfl⟩

/-- A lattice of some lists. -/
def LatN (n : Nat) (eq : Bool) (r : Value) (zs : List PH) (hs : List Res) : Prop :=
 ∃ (nv sv bv : Value) (ns : List (List Value)) (xs : List Int) (xb : List Bool) (z : PH), r = .agg [nv, sv, bv].toArray ∧ Sl (encC 2) z nv ns ∧ Sl encI z sv xs ∧ Sl encT z bv xb ∧ ns.length ≤ n ∧ xs.length ≤ n ∧ xb.length ≤ n ∧ (eq = true → xb.length = xs.length ∧ Gu.Fam xs) ∧ zs = [z] ∧ hs = []

/-- A lattice of edits: it has a set. -/
def LatF (n : Nat) (r : Value) (zs : List PH) (hs : List Res) : Prop :=
 ∃ (nv sv bv : Value) (ns : List (List Value)) (xs : List Int) (xb : List Bool) (z : PH), r = .agg [nv, sv, bv].toArray ∧ Sl (encC 2) z nv ns ∧ Sl encI z sv xs ∧ Sl encT z bv xb ∧ ns.length ≤ n ∧ xs.length ≤ n ∧ xb.length ≤ n ∧ (xb.length = xs.length ∧ Gu.Fam xs ∧ 0 < xs.length) ∧ zs = [z] ∧ hs = []

theorem pw_le {x : Int} (h : 0 ≤ x ∧ x ≤ 5) : 1 ≤ (1 * 2 ^ (min ((ofq x).toNat : Int).toNat 64) : Int) ∧ (1 * 2 ^ (min ((ofq x).toNat : Int).toNat 64) : Int) ≤ 32 := by
 have : x = 0 ∨ x = 1 ∨ x = 2 ∨ x = 3 ∨ x = 4 ∨ x = 5 := by omega
 rcases this with rfl | rfl | rfl | rfl | rfl | rfl <;> decide

end Go.Proofs.Ytefjpigmgmbghaa
