/- A text of a proof over this seat: walks over the program's functions and the plain laws that they need. -/
import Derived.Test.YtibbhobfdbfkkaaGreatDoorJnA
import Derived.Test.YtibbhobfdbfkkaaGreatDoorFwG
set_option linter.all false
section
/-! an empty journal -/
namespace Jn
open Go Go.Fw
def jnil : JS := ⟨[], [], [], 1, 0, false⟩
theorem opn_nil {S : Dk.Dsk} (hS : Still S) (h : ∀ j, j < S.s.length → txa S j = z64) : opn S = jnil := opn_blank hS h
end Jn
end

section
/-! few steps -/
namespace Jn
open Go Go.Fw
def fewB (os : List Stp) : Bool := (os.all fun x => decide (x.ps.length ≤ 200)) && decide ((os.length : Int) ≤ 30)
end Jn
end

section
/-! genuine sectors, told by a bool; journals without worn sectors, at the start -/
namespace Jn
open Go Go.Fw
instance (T : List (List UInt8)) (s : List UInt8) : Decidable (gen1 T s) := by unfold gen1; infer_instance
theorem gen_no {T im : List (List UInt8)} {j : Nat} (hj : j < im.length) (h : ¬ gen1 T (im.getD j [])) : decide (∀ s ∈ im, gen1 T s) = false :=
  decide_eq_false fun hq => h (hq _ (by rw [List.getD_eq_getElem?_getD, List.getElem?_eq_getElem hj]; exact List.getElem_mem hj))
theorem gen_yes {T im : List (List UInt8)} (h : ∀ i, i < im.length → gen1 T (im.getD i [])) : decide (∀ s ∈ im, gen1 T s) = true :=
  decide_eq_true fun s hs => by
    obtain ⟨j, hj, rfl⟩ := mem_at (d := ([] : List UInt8)) hs
    exact h j hj
theorem gen_bad {T : List (List UInt8)} {s : List UInt8} (h : (unp s).ok = false) : gen1 T s := fun ho => by rw [h] at ho; cases ho
theorem gen_big {T : List (List UInt8)} {s : List UInt8} (ho : (unp s).ok = true) (h : (T.length : Int) < (unp s).n) : ¬ gen1 T s := fun hq => by have := (hq ho).1; omega
theorem fil_nil {n : Nat} (h1 : 1 ≤ n) (h2 : n ≤ 4096) : Fil (Dk.new n) jnil := by
  have := fil_new h1 h2
  rwa [opn_nil still_new fun j hj => new_txa (by rw [Dk.new_len] at hj; exact hj)] at this
theorem JOk.wf {TJ Ti Ts : TypeId} {b pd : Nat} {J : JS} {r1 r2 r3 r4 : Res} (h : JOk TJ Ti Ts b pd J r1 r2 r3 r4) : Wf J := by
  obtain ⟨_, _, _, h, _⟩ := h
  exact h
theorem step_s (J : JS) (t : List UInt8) : ¬ J.tx = J.tx ++ [t] := fun h => by
  have := congrArg List.length h
  rw [List.length_append] at this
  simp at this
end Jn
end
