/- A text of a proof over this seat: walks over the program's functions and the plain laws that they need. -/
import Derived.Test.YtcolgcdnpfpcdaaFw14
import Derived.ChangeKeysEq
import Derived.Laws.StructEq
set_option linter.all false
namespace Go.Fw
section
variable {P : Program} {n : Nat} {w0 : World} {zs : List PH} {hs : List Res} {L : List (Nat × Value)} {d : Option Tmp} {ty t t' : TypeId} {pos : String} {af : Array Edge} {g : Option (Nat × Bool)}
variable {x y c o1 o2 o3 : Operand} {u v : Value} {ops : Array Oper} {rest : List Oper}
/-- Two strings that are known to be the same. -/
theorem q_eqs_t {p q : List UInt8} (h1 : opv L x = some (vs p)) (h2 : opv L y = some (vs q)) (h : p = q) : Qt P n w0 zs hs L ⟨d, .binOp .eql t x y t', ty, pos, af, g⟩ (.bool true) := by
  have := q_eqs (P := P) (n := n) (w0 := w0) (zs := zs) (hs := hs) (d := d) (t := t) (ty := ty) (t' := t') (pos := pos) (af := af) (g := g) h1 h2
  rwa [decide_eq_true h] at this
theorem run_items_b {e : TypeId} {be : Nat} {ze : Value} (hte : Tf P e (.int .u8) 1 be ze) (k : Nat) (xs ys : List UInt8) (w : World) : ∀ (is : List Nat), (∀ i ∈ is, i < xs.length ∧ i < ys.length) →
    (Op.eqItems (k + 1) e 1 (xs.map vb).toArray (ys.map vb).toArray is).run P w = .ok (decide (∀ i ∈ is, xs.getD i 0 = ys.getD i 0)) w
  | [], _ => by simp [Op.eqItems]
  | i :: is, h => by
    have hi := h i (by simp)
    have ih := run_items_b hte k xs ys w is fun j hj => h j (by simp [hj])
    have pt : ∀ (l : List UInt8), i < l.length → (part e (l.map vb).toArray (i * 1)).run P w = .ok (vb (l.getD i 0)) w := by
      intro l hl
      unfold part
      rw [Sem.run_bind, hte.isAgg]
      simp [aggD, hl]
    have he : (Op.equalIn (k + 1) e (vb (xs.getD i 0)) (vb (ys.getD i 0))).run P w = .ok (decide (xs.getD i 0 = ys.getD i 0)) w := by
      generalize xs.getD i 0 = a
      generalize ys.getD i 0 = b
      simp only [Op.equalIn, Sem.run_bind, run_underlying hte.und, Result.andThen_ok]
      have : (((a.toNat : Int) == (b.toNat : Int)) : Bool) = decide (a = b) := by
        rw [Bool.eq_iff_iff]
        simp only [beq_iff_eq, decide_eq_true_eq]
        constructor
        · intro h; exact UInt8.toNat.inj (by omega)
        · intro h; rw [h]
      simp [this]
    simp only [Op.eqItems, Sem.run_bind, pt xs hi.1, pt ys hi.2, Result.andThen_ok, he]
    by_cases hx : xs.getD i 0 = ys.getD i 0
    · have e1 : decide (xs.getD i 0 = ys.getD i 0) = true := decide_eq_true hx
      rw [e1]
      simp only [Bool.not_true, Bool.false_eq_true, if_false]
      rw [ih]
      congr 1
      rw [Bool.eq_iff_iff]
      simp only [decide_eq_true_eq, List.mem_cons, forall_eq_or_imp, hx, true_and]
    · have e1 : decide (xs.getD i 0 = ys.getD i 0) = false := decide_eq_false hx
      rw [e1]
      simp only [Bool.not_false, if_true, Sem.run_pure]
      congr 1
      refine (decide_eq_false fun h => hx (h i (by simp))).symm
theorem q_eqAB {m : Nat} {e : TypeId} {s by_ : Nat} {zv : Value} (ht : Tf P t (.array m e) s by_ zv) {be : Nat} {ze : Value} (hte : Tf P e (.int .u8) 1 be ze) (hg : P.eqGuardType P.depth t = false) {xs ys : List UInt8} (h1 : opv L x = some (.agg (xs.map vb).toArray)) (h2 : opv L y = some (.agg (ys.map vb).toArray)) (hx : xs.length = m) (hy : ys.length = m) :
    Qt P n w0 zs hs L ⟨d, .binOp .eql t x y t', ty, pos, af, g⟩ (.bool (decide (xs = ys))) :=
  q_bin h1 h2 (fun w => run_eqGuard_agg w _ _ _ _ _ _ hg) fun w => by
    cases hi : P.info? e with
    | none => have := hte.inf; simp [hi] at this
    | some i =>
      have hc : P.cellsOf e = 1 := by have := hte.inf; simp [hi] at this; simp [Program.cellsOf, hi, this.1]
      rw [run_eql_struct, run_equalIn_array w 9999 _ _ ht.und hi, hc, run_items_b hte 9998 xs ys w _ (fun j hj => by rw [List.mem_range] at hj; omega)]
      simp only [Result.andThen_ok]
      congr 2
      rw [Bool.eq_iff_iff]
      simp only [decide_eq_true_eq, List.mem_range]
      constructor
      · intro h
        apply List.ext_getElem (by omega)
        intro j hj1 hj2
        have := h j (by omega)
        rwa [List.getD_eq_getElem?_getD, List.getD_eq_getElem?_getD, List.getElem?_eq_getElem hj1, List.getElem?_eq_getElem hj2] at this
      · intro h j _; rw [h]
end
end Go.Fw
