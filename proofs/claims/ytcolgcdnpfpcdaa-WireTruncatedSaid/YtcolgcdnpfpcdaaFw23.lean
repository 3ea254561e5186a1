/- A text of a proof over this seat: walks over the program's functions and the plain laws that they need. -/
import Derived.Test.YtcolgcdnpfpcdaaFw22
set_option linter.all false
namespace Go.Fw
/-- One zone that holds all zones. -/
theorem St.union {w0 : World} {zs : List PH} {hs : List Res} {w : World} (h : St w0 zs hs w) : ∃ z, (∀ z' ∈ zs, z'.le z) ∧ St w0 (z :: zs) hs w := by
  let z : PH := fun b => if zs.any (fun z' => (z' b).isSome) = true then w.heap[b]? else none
  have hz : ∀ b o, z b = some o → ∃ z' ∈ zs, z' b = some o := by
    intro b o hb
    replace hb : (if zs.any (fun z' => (z' b).isSome) = true then w.heap[b]? else none) = some o := hb
    split at hb
    · rename_i ha
      obtain ⟨z', hm, hs⟩ := List.any_eq_true.1 ha
      obtain ⟨o', ho'⟩ := Option.isSome_iff_exists.1 hs
      have := (h.zone z' hm).1 _ _ ho'
      have e : w.heap[b]? = some o' := this
      rw [e] at hb
      exact ⟨z', hm, by rw [ho', hb]⟩
    · cases hb
  have hzn : ∀ b, (∀ z' ∈ zs, z' b = none) → z b = none := by
    intro b hb
    cases hzb : z b with
    | none => rfl
    | some o =>
      obtain ⟨z', hm, he⟩ := hz b o hzb
      rw [hb z' hm] at he
      cases he
  refine ⟨z, fun z' hm b o hb => ?_, h.ext, ?_, ?_, h.nd, h.io⟩
  · show (if zs.any (fun z' => (z' b).isSome) = true then w.heap[b]? else none) = some o
    rw [if_pos (List.any_eq_true.2 ⟨z', hm, by rw [hb]; rfl⟩)]
    exact (h.zone z' hm).1 _ _ hb
  · intro z' hm
    rcases List.mem_cons.1 hm with rfl | hm
    · exact ⟨fun b o hb => by obtain ⟨z', hm, he⟩ := hz b o hb; exact (h.zone z' hm).1 _ _ he, fun b o hb => by obtain ⟨z', hm, he⟩ := hz b o hb; exact (h.zone z' hm).2 _ _ he⟩
    · exact h.zone z' hm
  · intro r hr
    refine ⟨(h.own r hr).1, fun b hb z' hm => ?_⟩
    rcases List.mem_cons.1 hm with rfl | hm
    · exact hzn b ((h.own r hr).2 b hb)
    · exact (h.own r hr).2 b hb z' hm

theorem row_one {base : Nat} {w : World} {v : Value} {e : TypeId} {s m : Nat} {cs : List Value} (h : (Res.row v e s m cs).ok base w) : v.oneCell' = true := by
  rcases h.2 with ⟨rfl, _⟩ | ⟨b, cap, cur, rfl, _⟩ <;> rfl
theorem sl_one' {α : Type} {E : Enc α} {z : PH} {v : Value} {xs : List α} (h : Sl E z v xs) : v.oneCell' = true := by obtain ⟨_, a, c, rfl, _⟩ := h; rfl
/-- Slices, one by one. -/
def Sl2 {α : Type} (E : Enc α) (z : PH) : List Value → List (List α) → Prop
  | [], [] => True
  | v :: vs, x :: xs => Sl E z v x ∧ Sl2 E z vs xs
  | _, _ => False
theorem Sl2.get {α : Type} {E : Enc α} {z : PH} : ∀ {vs : List Value} {xs : List (List α)}, Sl2 E z vs xs → ∀ (i : Nat) (x : List α), xs[i]? = some x → ∃ v, vs[i]? = some v ∧ Sl E z v x
  | [], [], _, i, x, hx => by simp at hx
  | v :: vs, y :: xs, h, 0, x, hx => by
    simp only [List.getElem?_cons_zero, Option.some.injEq] at hx
    subst hx
    exact ⟨v, rfl, h.1⟩
  | v :: vs, y :: xs, h, i + 1, x, hx => by
    simp only [List.getElem?_cons_succ] at hx ⊢
    exact Sl2.get h.2 i x hx
/-- A fresh slice of slices that stand in one zone. -/
theorem St.freezeSl {α : Type} {E : Enc α} {w0 : World} {zs : List PH} {hs : List Res} {w : World} {e : TypeId} {v : Value} {m : Nat} {cs : List Value} (h : St w0 zs (.row v e 1 m cs :: hs) w) {z' : PH} (hz' : z' ∈ zs) {xs : List (List α)} (hm : m = xs.length) (hb : m ≤ 140737488355328)
    (hr : Sl2 E z' cs xs) : ∃ z, Sl (encSl E) z v xs ∧ St w0 (z :: zs) hs w :=
  St.freeze (E := encSl E) h (.inr hz') hm hb fun i x hx => by
    obtain ⟨u, h1, h2⟩ := hr.get i x hx
    refine ⟨[u], ⟨u, rfl, h2⟩, fun j y hy => ?_⟩
    cases j with
    | zero => simp only [List.getElem?_cons_zero, Option.some.injEq] at hy; subst hy; show cs[i * 1 + 0]? = _; simpa using h1
    | succ j => simp at hy
end Go.Fw
