/- A text of a proof over this seat: walks over the program's functions and the plain laws that they need. -/
import Derived.Test.YtcolgcdnpfpcdaaFw9
set_option linter.all false
namespace Go.Fw
/-- A part of a slice. -/
def slV (v : Value) (size lo hi : Nat) : Value :=
  match v with
  | .slice a _ c => .slice (if c = lo then a else a.map (·.add (lo * size))) (hi - lo) (c - lo)
  | _ => undef

theorem Sl.cut {α : Type} {E : Enc α} {z : PH} {v : Value} {xs : List α} (h : Sl E z v xs) {lo hi : Nat} (hb : lo ≤ hi ∧ hi ≤ xs.length) : Sl E z (slV v E.size lo hi) ((xs.take hi).drop lo) := by
  obtain ⟨hm, a, c, rfl, hc, h⟩ := h
  have hl : ((xs.take hi).drop lo).length = hi - lo := by simp; omega
  refine ⟨by omega, _, c - lo, by simp only [slV, hl]; rfl, by omega, fun i x hx => ?_⟩
  rw [List.getElem?_drop, List.getElem?_take] at hx
  split at hx
  · rename_i hlt
    obtain ⟨b, off, cs, ty, fz, cx, rfl, h2, h3, h4⟩ := h (lo + i) x hx
    refine ⟨b, off + lo * E.size, cs, ty, fz, cx, ?_, h2, h3, fun j u hu => ?_⟩
    · rw [if_neg (by omega)]
      simp [add_at]
    · rw [← h4 j u hu, Nat.add_mul]
      congr 1
      omega
  · cases hx

section
variable {P : Program} {n : Nat} {w0 : World} {zs : List PH} {hs : List Res} {L : List (Nat × Value)} {d : Option Tmp} {ty t t' : TypeId} {pos : String} {af : Array Edge} {g : Option (Nat × Bool)}
variable {x y c o1 o2 o3 : Operand} {u v : Value} {ops : Array Oper} {rest : List Oper}

theorem q_slsl_lo_hi {α : Type} {E : Enc α} {z : PH} {xs : List α} {e : TypeId} {s by_ : Nat} {zv : Value} (ht : Tf P t (.slice e) s by_ zv) {de : TypeDesc} {be : Nat} {ze : Value} (hte : Tf P e de E.size be ze) {k k' : IntKind} {i j : Int} (hS : Sl E z v xs) (h1 : opv L x = some v) (h2 : opv L y = some (.int k i)) (h3 : opv L c = some (.int k' j)) (hb : 0 ≤ i ∧ i ≤ j ∧ j ≤ xs.length) :
    Qt P n w0 zs hs L ⟨d, .slice t x (some y) (some c) none, ty, pos, af, g⟩ (slV v E.size i.toNat j.toNat) :=
  qt_of fun a ha w hw => by
    obtain ⟨_, ad, cc, rfl, hcc, _⟩ := hS
    simp only [execOp, ha.eval h1, Option.map_some, ha.eval h2, ha.eval h3, Option.map_none]
    have e1 : (Instr.sliceBound (.int k' j) cc .sliceAcap).run P w = .ok j.toNat w := run_sliceBound (P := P) (w := w) k' j cc .sliceAcap (by omega) (by omega)
    have e2 : (Instr.sliceBound (.int k i) j.toNat .sliceB).run P w = .ok i.toNat w := run_sliceBound (P := P) (w := w) k i j.toNat .sliceB (by omega) (by omega)
    simp [Instr.sliceAt, Instr.slice, run_underlying ht.und, Instr.sliceBounds, hte.sizeOf, e1, e2, slV]
theorem q_slsl_lo {α : Type} {E : Enc α} {z : PH} {xs : List α} {e : TypeId} {s by_ : Nat} {zv : Value} (ht : Tf P t (.slice e) s by_ zv) {de : TypeDesc} {be : Nat} {ze : Value} (hte : Tf P e de E.size be ze) {k : IntKind} {i : Int} (hS : Sl E z v xs) (h1 : opv L x = some v) (h2 : opv L y = some (.int k i)) (hb : 0 ≤ i ∧ i ≤ xs.length) :
    Qt P n w0 zs hs L ⟨d, .slice t x (some y) none none, ty, pos, af, g⟩ (slV v E.size i.toNat xs.length) :=
  qt_of fun a ha w hw => by
    obtain ⟨_, ad, cc, rfl, hcc, _⟩ := hS
    simp only [execOp, ha.eval h1, Option.map_some, ha.eval h2, Option.map_none]
    have e2 : (Instr.sliceBound (.int k i) xs.length .sliceB).run P w = .ok i.toNat w := run_sliceBound (P := P) (w := w) k i xs.length .sliceB (by omega) (by omega)
    simp [Instr.sliceAt, Instr.slice, run_underlying ht.und, Instr.sliceBounds, hte.sizeOf, e2, slV]
theorem q_slsl_hi {α : Type} {E : Enc α} {z : PH} {xs : List α} {e : TypeId} {s by_ : Nat} {zv : Value} (ht : Tf P t (.slice e) s by_ zv) {de : TypeDesc} {be : Nat} {ze : Value} (hte : Tf P e de E.size be ze) {k : IntKind} {i : Int} (hS : Sl E z v xs) (h1 : opv L x = some v) (h2 : opv L y = some (.int k i)) (hb : 0 ≤ i ∧ i ≤ xs.length) :
    Qt P n w0 zs hs L ⟨d, .slice t x none (some y) none, ty, pos, af, g⟩ (slV v E.size 0 i.toNat) :=
  qt_of fun a ha w hw => by
    obtain ⟨_, ad, cc, rfl, hcc, _⟩ := hS
    simp only [execOp, ha.eval h1, Option.map_some, ha.eval h2, Option.map_none]
    have e2 : (Instr.sliceBound (.int k i) cc .sliceAcap).run P w = .ok i.toNat w := run_sliceBound (P := P) (w := w) k i cc .sliceAcap (by omega) (by omega)
    cases ad <;> simp [Instr.sliceAt, Instr.slice, run_underlying ht.und, Instr.sliceBounds, hte.sizeOf, e2, slV, Addr.add]

/-- An element of an array that is the whole box. -/
theorem q_idx_arr0 {m : Nat} {e : TypeId} {s by_ : Nat} {zv : Value} (ht : Tf P t (.array m e) s by_ zv) {de : TypeDesc} {be : Nat} {ze : Value} (hte : Tf P e de 1 be ze) {b : Nat} {i : Int} {k : IntKind} (h1 : opv L x = some (.pointer (some ⟨b, 0, none⟩))) (h2 : opv L y = some (.int k i)) (hb : 0 ≤ i ∧ i < m) :
    Qt P n w0 zs hs L ⟨d, .indexAddr t x y, ty, pos, af, g⟩ (.pointer (some ⟨b, i.toNat, none⟩)) := by
  have := q_idx_arr (d := d) (ty := ty) (pos := pos) (af := af) (g := g) (n := n) (w0 := w0) (zs := zs) (hs := hs) ht hte h1 h2 hb
  simpa using this
/-- An element of a table. -/
theorem q_ld_old1M {α : Type} {f : α → Value} {dd : TypeDesc} {s by_ : Nat} {zv : Value} (ht : Tf P t dd s by_ zv) {b off : Nat} {bt : TypeId} {xs : List α} {fz : Nat × Nat} (dflt : α) (h1 : opv L x = some (.pointer (some ⟨b, off, none⟩))) (hk : w0.heap[b]? = some (.cells (xs.map f).toArray bt fz)) (hl : off < xs.length) (hd : aggD dd = false) :
    Qt P n w0 zs hs L ⟨d, .load t x, ty, pos, af, g⟩ (f (xs.getD off dflt)) :=
  q_ld_old1 ht h1 hk (by simp [hl]) hd
/-- A whole box. -/
theorem q_ld_blkW {dd : TypeDesc} {s by_ : Nat} {zv : Value} (ht : Tf P t dd s by_ zv) (k : Nat) {b : Nat} {bt : TypeId} {cs : List Value} (h1 : opv L x = some (.pointer (some ⟨b, 0, none⟩))) (hk : hs[k]? = some (.blk b bt cs)) (hl : cs.length = s) (hd : aggD dd = true) :
    Qt P n w0 zs hs L ⟨d, .load t x, ty, pos, af, g⟩ (.agg cs.toArray) :=
  q_ld_blkA ht k h1 hk (by rw [List.drop_zero, List.take_of_length_le (by omega)]) (by omega) hd
theorem ef_storeW {dd : TypeDesc} {s by_ : Nat} {zv : Value} (ht : Tf P t dd s by_ zv) (k : Nat) {b : Nat} {bt : TypeId} {cs c : List Value} (h1 : opv L x = some (.pointer (some ⟨b, 0, none⟩))) (h2 : opv L y = some v) (hk : hs[k]? = some (.blk b bt cs)) (hc : v.cells = c.toArray) (hcs : c.length = s) (ho : ∀ u ∈ c, u.oneCell' = true) (hl : cs.length = s) :
    Ef P n w0 zs hs L ⟨d, .store t x y, ty, pos, af, g⟩ (fun v zs' hs' => v = undef ∧ zs' = zs ∧ hs' = hs.set k (.blk b bt c)) :=
  ef_store ht k h1 h2 hk hc hcs ho (by omega) (by simp [hl])
end
end Go.Fw
