/- A text of a proof over this seat: walks over the program's functions and the plain laws that they need. -/
import Derived.Test.YtibbhobfdbfkkaaDoorFwD
import Derived.Shelf.Strings.Repeat
import Derived.Test.YtibbhobfdbfkkaaDoorFwB
import Derived.Test.YtibbhobfdbfkkaaDoorFwE
import Derived.Test.YtibbhobfdbfkkaaDoorJnA
set_option linter.all false
section
/-! strings.Repeat, by the library's contract -/
namespace Go.Fw
open Go Go.Sem Go.RowKit Go.Shelf Go.Proofs
theorem repeat_ct {P : Program} {ρ : Ren} (L : Lays.n105 P ρ) (X : Builder.Extra P ρ) (w : World) (s : List UInt8) (c : Nat) (hc : 2 ≤ c) (h0 : 0 < s.length) (hl : s.length * c ≤ 140737488355328) :
    Ct P (ρ.f 105) [vs s, vi (c : Int)] w (fun r _ _ => r = vs (Lib.repeatL s c)) := by
  have h1 : c ≤ s.length * c := Nat.le_mul_of_pos_left c h0
  have hsz : (⟨s.toArray⟩ : ByteArray).size = s.length := by show s.toArray.size = _; simp
  refine Calls.mono (Any.strings_Repeat_main L X ⟨s.toArray⟩ c w hc (by omega) (by rw [hsz]; exact hl) (by rw [hsz]; exact h0)) fun e w' ⟨he, hb⟩ => ?_
  refine ⟨_, [], [], he, ⟨below_le hb, by simp, by simp, by simp, below_io hb⟩, ?_⟩
  rfl
end Go.Fw
end

section
/-! structs of three integers, a string and a bool, compared: the same -/
namespace Go.Fw
section
variable {P : Program} {n : Nat} {w0 : World} {zs : List PH} {hs : List Res} {L : List (Nat × Value)} {d : Option Tmp} {ty t t' : TypeId} {pos : String} {af : Array Edge} {g : Option (Nat × Bool)}
variable {x y : Operand}
theorem part_of {dd : TypeDesc} {s b : Nat} {z : Value} (ht : Tf P t dd s b z) (ha : aggD dd = false) {xs : Array Value} {i : Nat} {v : Value} (h : xs[i]? = some v) (w : World) : (part t xs i).run P w = .ok v w := by
  unfold part
  rw [Sem.run_bind, ht.isAgg, ha]
  simp [h]
theorem q_eqPt [Dfs] {f1 f2 f3 f4 f5 : Field} {by_ : Nat} {zv : Value} (ht : Tf P t (.struct #[f1, f2, f3, f4, f5]) 5 by_ zv) {ti ts tb : TypeId} {b1 b2 b3 : Nat} {z1 z2 z3 : Value} (hi : Tf P ti (.int .i64) 1 b1 z1) (hsx : Tf P ts .string 1 b2 z2) (hb : Tf P tb .bool 1 b3 z3)
    (h1 : f1.type = ti ∧ f1.offset = 0 ∧ f1.name ≠ "_") (h2 : f2.type = ti ∧ f2.offset = 1 ∧ f2.name ≠ "_") (h3 : f3.type = ti ∧ f3.offset = 2 ∧ f3.name ≠ "_") (h4 : f4.type = ts ∧ f4.offset = 3 ∧ f4.name ≠ "_") (h5 : f5.type = tb ∧ f5.offset = 4 ∧ f5.name ≠ "_")
    (hg : P.eqGuardType P.depth t = false) (hp : P.stoodInHeld t = false) {a b c : Int} {s : List UInt8} {e : Bool} (hx : opv L x = some (.agg [vi a, vi b, vi c, vs s, .bool e].toArray)) (hy : opv L y = some (.agg [vi a, vi b, vi c, vs s, .bool e].toArray)) :
    Qt P n w0 zs hs L ⟨d, .binOp .eql t x y t', ty, pos, af, g⟩ (.bool true) :=
  q_bin hx hy (fun w => run_eqGuard_agg w _ _ _ _ _ _ hg) fun w => by
    have hfo : P.fieldsOf t = #[f1, f2, f3, f4, f5] := by simp [Program.fieldsOf, ht.und]
    rw [run_eql_struct, run_equalIn_agg w 9999 t _ _ (by rw [hfo]; exact ht.und) hp, hfo]
    have p1 : ∀ w, (part ti [vi a, vi b, vi c, vs s, .bool e].toArray 0).run P w = .ok (vi a) w := part_of hi rfl rfl
    have p2 : ∀ w, (part ti [vi a, vi b, vi c, vs s, .bool e].toArray 1).run P w = .ok (vi b) w := part_of hi rfl rfl
    have p3 : ∀ w, (part ti [vi a, vi b, vi c, vs s, .bool e].toArray 2).run P w = .ok (vi c) w := part_of hi rfl rfl
    have p4 : ∀ w, (part ts [vi a, vi b, vi c, vs s, .bool e].toArray 3).run P w = .ok (vs s) w := part_of hsx rfl rfl
    have p5 : ∀ w, (part tb [vi a, vi b, vi c, vs s, .bool e].toArray 4).run P w = .ok (.bool e) w := part_of hb rfl rfl
    have e1 : ∀ (q : Int) w, (Op.equalIn 9999 ti (vi q) (vi q)).run P w = .ok true w := fun q w => by
      have := run_equalIn_int w 9998 ti .i64 .i64 q q hi.und
      rw [show (q == q) = true by simp] at this
      exact this
    have e4 : ∀ w, (Op.equalIn 9999 ts (vs s) (vs s)).run P w = .ok true w := fun w => by
      have := run_equalIn_string w 9998 ts ⟨s.toArray⟩ ⟨s.toArray⟩ hsx.und
      rw [show ((⟨s.toArray⟩ : ByteArray).toList == (⟨s.toArray⟩ : ByteArray).toList) = true by simp] at this
      exact this
    have e5 : ∀ w, (Op.equalIn 9999 tb (.bool e) (.bool e)).run P w = .ok true w := fun w => by
      have := run_equalIn_bool' w 9998 tb e e hb.und
      rw [show (e == e) = true by simp] at this
      exact this
    simp only [Op.eqFields, h1, h2, h3, h4, h5, ne_eq, not_false_eq_true, if_true, Sem.run_bind, p1, p2, p3, p4, p5, e1, e4, e5, Result.andThen_ok, Bool.not_true, Bool.false_eq_true, if_false, Sem.run_pure]
end
end Go.Fw
end

section
/-! steps of a script, as elements and as arguments; a flag of a journal, read -/
namespace Go.Fw
open Go.ChangeShapes Go.WideShapes Go.ChangeAt Go.RowKit
structure Stp where
  k : Int
  i : Int
  b : Int
  n : Int
  f : UInt8
  ps : List Int
def encSt : Enc Stp where
  size := 6
  rep z o c := ∃ pv, c = [vi o.k, vi o.i, vi o.b, vi o.n, vb o.f, pv] ∧ (-9223372036854775808 ≤ o.k ∧ o.k ≤ 9223372036854775807) ∧ (-9223372036854775808 ≤ o.i ∧ o.i ≤ 9223372036854775807) ∧ (-9223372036854775808 ≤ o.b ∧ o.b ≤ 9223372036854775807) ∧ (-9223372036854775808 ≤ o.n ∧ o.n ≤ 9223372036854775807) ∧ Sl encI z pv o.ps
  mono hz h := by obtain ⟨pv, h1, h2, h3, h4, h5, h6⟩ := h; exact ⟨pv, h1, h2, h3, h4, h5, h6.mono hz⟩
  len h := by obtain ⟨pv, h1, _⟩ := h; rw [h1]; rfl
  one h u hu := by
    obtain ⟨pv, h1, h2, h3, h4, h5, h6⟩ := h
    rw [h1] at hu
    simp only [List.mem_cons, List.not_mem_nil, or_false] at hu
    rcases hu with rfl | rfl | rfl | rfl | rfl | rfl
    · rfl
    · rfl
    · rfl
    · rfl
    · rfl
    · exact sl_one' h6
def st0 : Stp := ⟨0, 0, 0, 0, 0, []⟩
section
variable {H : Type} {enc : TypeId × Value → H} {P : Program} {W : World} {t : TypeId}
end
end Go.Fw
end
