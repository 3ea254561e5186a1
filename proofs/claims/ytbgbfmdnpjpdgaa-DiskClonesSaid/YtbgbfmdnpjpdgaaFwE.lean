/- A text of a proof over this seat: walks over the program's functions and the plain laws that they need. -/
import Derived.Test.YtbgbfmdnpjpdgaaDkA
import Derived.Test.YtbgbfmdnpjpdgaaFwC
import Derived.Test.YtbgbfmdnpjpdgaaFwD
set_option linter.all false
/-! operations of a script, as elements and as arguments -/
namespace Go.Fw
open Go.ChangeShapes Go.WideShapes Go.ChangeAt Go.RowKit
def encO : Enc Dk.Op where
  size := 5
  rep z o c := ∃ pv, c = [vi o.k, vi o.i, vi o.b, vs o.t, pv] ∧ (-9223372036854775808 ≤ o.k ∧ o.k ≤ 9223372036854775807) ∧ (-9223372036854775808 ≤ o.i ∧ o.i ≤ 9223372036854775807) ∧ (-9223372036854775808 ≤ o.b ∧ o.b ≤ 9223372036854775807) ∧ o.t.length ≤ 140737488355328 ∧ Sl encI z pv o.ps
  mono hz h := by obtain ⟨pv, h1, h2, h3, h4, h5, h6⟩ := h; exact ⟨pv, h1, h2, h3, h4, h5, h6.mono hz⟩
  len h := by obtain ⟨pv, h1, _⟩ := h; rw [h1]; rfl
  one h u hu := by
    obtain ⟨pv, h1, h2, h3, h4, h5, h6⟩ := h
    rw [h1] at hu
    simp only [List.mem_cons, List.not_mem_nil, or_false] at hu
    rcases hu with rfl | rfl | rfl | rfl | rfl
    · rfl
    · rfl
    · rfl
    · rfl
    · exact sl_one' h6
def o0 : Dk.Op := ⟨0, 0, 0, [], []⟩
theorem o_get {os : List Dk.Op} {k : Nat} (hk : k < os.length) : os[k]? = some (os.getD k o0) := by
  rw [List.getD_eq_getElem?_getD, List.getElem?_eq_getElem hk]; rfl
theorem o_at {z : PH} {v : Value} {os : List Dk.Op} (hS : Sl encO z v os) {k : Nat} (hk : k < os.length) :
    ∃ pv, cellsV z (elemPtr v (k * 5)) 5 = [vi (os.getD k o0).k, vi (os.getD k o0).i, vi (os.getD k o0).b, vs (os.getD k o0).t, pv] ∧ (-9223372036854775808 ≤ (os.getD k o0).k ∧ (os.getD k o0).k ≤ 9223372036854775807) ∧ (-9223372036854775808 ≤ (os.getD k o0).i ∧ (os.getD k o0).i ≤ 9223372036854775807) ∧ (-9223372036854775808 ≤ (os.getD k o0).b ∧ (os.getD k o0).b ≤ 9223372036854775807) ∧ (os.getD k o0).t.length ≤ 140737488355328 ∧ Sl encI z pv (os.getD k o0).ps := hS.rep (o_get hk)
theorem q_ld_op [Dfs] {P : Program} {n : Nat} {w0 : World} {zs : List PH} {hs : List Res} {L : List (Nat × Value)} {d : Option Tmp} {ty t : TypeId} {pos : String} {af : Array Edge} {g : Option (Nat × Bool)} {x : Operand} {v : Value} {z : PH} {os : List Dk.Op} {dd : TypeDesc} {by_ : Nat} {zv : Value} (ht : Tf P t dd 5 by_ zv) {k : Nat} (hS : Sl encO z v os) (hz : ZIn w0 zs z) {o : List Value} (hc : cellsV z (elemPtr v (k * 5)) 5 = o) (h1 : opv L x = some (elemPtr v (k * 5))) (hd : aggD dd = true) (hk : k < os.length) :
    Qt P n w0 zs hs L ⟨d, .load t x, ty, pos, af, g⟩ (.agg o.toArray) := by
  have := q_ld_slA (P := P) (n := n) (w0 := w0) (zs := zs) (hs := hs) (L := L) (d := d) (ty := ty) (pos := pos) (af := af) (g := g) (x := x) (E := encO) ht (k := k) (m := k * 5) rfl (by decide) hS hz h1 hd hk
  rw [← hc]
  exact this
section
variable {H : Type} {enc : TypeId × Value → H} {P : Program} {W : World} {t : TypeId}
theorem rd_O {f1 f2 f3 f4 f5 : Field} {e : TypeId} (ht : P.underlying t = some (.struct #[f1, f2, f3, f4, f5])) (ho : f1.offset = 0 ∧ f2.offset = 1 ∧ f3.offset = 2 ∧ f4.offset = 3 ∧ f5.offset = 4) (hc : P.cellsOf t = 5) (hc1 : P.cellsOf f1.type = 1) (hc2 : P.cellsOf f2.type = 1) (hc3 : P.cellsOf f3.type = 1) (hc4 : P.cellsOf f4.type = 1) (hc5 : P.cellsOf f5.type = 1)
    (h1 : P.underlying f1.type = some (.int .i64)) (h2 : P.underlying f2.type = some (.int .i64)) (h3 : P.underlying f3.type = some (.int .i64)) (h4 : P.underlying f4.type = some .string) (h5 : P.underlying f5.type = some (.slice e)) (h6 : P.underlying e = some (.int .i64)) (hce : P.cellsOf e = 1) (hbe : 0 < P.bytesOf e) : Rd enc P W encO t := fun fuel cs x h hw => by
  obtain ⟨xs, n, _, hx, hl, hxl, hg⟩ := DataW.trod_struct ht h
  subst hx
  rw [hc] at hl
  have g1 := hg 0 f1 rfl
  have g2 := hg 1 f2 rfl
  have g3 := hg 2 f3 rfl
  have g4 := hg 3 f4 rfl
  have g5 := hg 4 f5 rfl
  rw [ho.1, hc1] at g1
  rw [ho.2.1, hc2] at g2
  rw [ho.2.2.1, hc3] at g3
  rw [ho.2.2.2.1, hc4] at g4
  rw [ho.2.2.2.2, hc5] at g5
  match xs, hxl with
  | [x1, x2, x3, x4, x5], _ =>
    match cs, hl with
    | [a, b, c, d, e9], _ =>
      simp only [DataW.weights, ht, List.map_cons, List.map_nil, DataW.weightsEach, List.all_append, Bool.and_eq_true] at hw
      obtain ⟨hw1, hw2, hw3, hw4, hw5, _⟩ := hw
      obtain ⟨n1, v1, e1⟩ := rd_I h1 _ _ _ g1 hw1
      obtain ⟨n2, v2, e2⟩ := rd_I h2 _ _ _ g2 hw2
      obtain ⟨n3, v3, e3⟩ := rd_I h3 _ _ _ g3 hw3
      obtain ⟨n4, v4, e4⟩ := rd_S h4 _ _ _ g4 hw4
      obtain ⟨v5, ys, k5, e5⟩ := sl_of_trod (E := encI) h5 hce (by decide) hbe (rd_I h6) g5 hw5
      simp only [List.drop_zero, List.drop_succ_cons, List.take_succ_cons, List.take_zero] at v1 v2 v3 v4 k5
      obtain rfl : a = vi n1 := by simpa using v1
      obtain rfl : b = vi n2 := by simpa using v2
      obtain rfl : c = vi n3 := by simpa using v3
      obtain rfl : d = vs n4 := by simpa using v4
      obtain rfl : e9 = v5 := by simpa using k5
      exact ⟨⟨n1, n2, n3, n4, ys⟩, e9, rfl, e1, e2, e3, e4, e5⟩
end
end Go.Fw
