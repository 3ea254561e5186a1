/- A text of a proof over this seat: walks over the program's functions and the plain laws that they need. -/
import Derived.Test.YtcolgcdnpfpcdaaFw19
set_option linter.all false
namespace Go.Fw
section
variable {P : Program} {n : Nat} {w0 : World} {zs : List PH} {hs : List Res} {ops : Array Oper} {L : List (Nat × Value)} {d : Option Tmp} {ty t t' : TypeId} {pos : String} {af : Array Edge} {g : Option (Nat × Bool)}
variable {x y c o1 o2 o3 : Operand} {u v : Value}

/-! ### arrays of bytes in a slice -/
theorem q_ld_AB {z : PH} {m : Nat} {xs : List (List UInt8)} {dd : TypeDesc} {by_ : Nat} {zv : Value} (ht : Tf P t dd m by_ zv) {k : Nat} (hS : Sl (encA m) z v xs) (hz : ZIn w0 zs z) (h1 : opv L x = some (elemPtr v (k * m))) (hd : aggD dd = true) (h0 : 0 < m) (hk : k < xs.length) :
    Qt P n w0 zs hs L ⟨d, .load t x, ty, pos, af, g⟩ (.agg ((xs.getD k []).map vb).toArray) := by
  have := q_ld_slA (P := P) (n := n) (w0 := w0) (zs := zs) (hs := hs) (d := d) (ty := ty) (pos := pos) (af := af) (g := g) (E := encA m) ht (k := k) (m := k * m) rfl h0 hS hz h1 hd hk
  have hr := hS.rep (i := k) (x := xs[k]) (by simp [hk])
  have e : cellsV z (elemPtr v (k * (encA m).size)) (encA m).size = (xs.getD k []).map vb := by
    rw [hr.2]
    simp [hk]
  rwa [e] at this
theorem elemPtr_add {α : Type} {E : Enc α} {z : PH} {xs : List α} (hS : Sl E z v xs) {k : Nat} (hk : k < xs.length) : ∃ b off, elemPtr v (k * E.size) = .pointer (some ⟨b, off, none⟩) ∧ ∀ j, elemPtr v (k * E.size + j) = .pointer (some ⟨b, off + j, none⟩) := by
  obtain ⟨_, a, cc, rfl, _, h⟩ := hS
  obtain ⟨b, off, cs, ty', fz, cx, rfl, _⟩ := h k xs[k] (by simp [hk])
  exact ⟨b, off + k * E.size, by simp [elemPtr, add_at], fun j => by simp [elemPtr, add_at, Nat.add_assoc]⟩
/-- A byte of an array in a slice: where it lies, what it is. -/
theorem q_idx_AB {z : PH} {m : Nat} {xs : List (List UInt8)} {e : TypeId} {s by_ : Nat} {zv : Value} (ht : Tf P t (.array m e) s by_ zv) {de : TypeDesc} {be : Nat} {ze : Value} (hte : Tf P e de 1 be ze) {k : Nat} {i : Int} {kk : IntKind} (hS : Sl (encA m) z v xs) (h1 : opv L x = some (elemPtr v (k * m))) (h2 : opv L y = some (.int kk i)) (hk : k < xs.length) (hb : 0 ≤ i ∧ i < m) :
    Qt P n w0 zs hs L ⟨d, .indexAddr t x y, ty, pos, af, g⟩ (elemPtr v (k * m + i.toNat)) := by
  obtain ⟨b, off, e1, e2⟩ := elemPtr_add hS hk
  have := q_idx_arr (P := P) (n := n) (w0 := w0) (zs := zs) (hs := hs) (d := d) (ty := ty) (pos := pos) (af := af) (g := g) ht hte (h1.trans (congrArg some e1)) h2 hb
  rw [Nat.mul_one] at this
  have e3 : elemPtr v (k * m + i.toNat) = .pointer (some ⟨b, off + i.toNat, none⟩) := e2 i.toNat
  rw [e3]
  exact this
theorem q_ld_AB1 {z : PH} {m : Nat} {xs : List (List UInt8)} {dd : TypeDesc} {s by_ : Nat} {zv : Value} (ht : Tf P t dd s by_ zv) {k j : Nat} (hS : Sl (encA m) z v xs) (hz : ZIn w0 zs z) (h1 : opv L x = some (elemPtr v (k * m + j))) (hd : aggD dd = false) (hk : k < xs.length) (hj : j < m) :
    Qt P n w0 zs hs L ⟨d, .load t x, ty, pos, af, g⟩ (vb ((xs.getD k []).getD j 0)) :=
  qt_of fun a ha w hw => by
    have hx : xs[k]? = some xs[k] := by simp [hk]
    obtain ⟨_, aa, cc, rfl, _, h⟩ := hS
    obtain ⟨b, off, cs, ty', fz, cx, rfl, hzb, hr, hc⟩ := h k xs[k] hx
    have hb := hw.le hz _ _ hzb
    have hlx : (xs[k]).length = m := hr.1
    have h3 := hc j (vb (xs[k].getD j 0)) (by rw [hr.2]; simp [hlx, hj])
    have hcell : w.cell? ⟨b, off + (k * m + j), none⟩ = some (vb (xs[k].getD j 0)) := by
      rw [cell_of_row w b _ _ ty' _ hb, ← h3]
      show _ = cs[off + k * m + j]?
      rw [Nat.add_assoc]
    have he : a.eval x = .pointer (some ⟨b, off + (k * m + j), none⟩) := (ha.eval h1).trans (by simp [elemPtr, add_at])
    have e4 : xs.getD k [] = xs[k] := by simp [hk]
    rw [e4]
    simp only [execOp, he]
    simp [Instr.loadAt, Instr.sureAddr, run_load1 ht hd hcell]

theorem q_neAB {m : Nat} {e : TypeId} {s by_ : Nat} {zv : Value} (ht : Tf P t (.array m e) s by_ zv) {be : Nat} {ze : Value} (hte : Tf P e (.int .u8) 1 be ze) (hg : P.eqGuardType P.depth t = false) {xs ys : List UInt8} (h1 : opv L x = some (.agg (xs.map vb).toArray)) (h2 : opv L y = some (.agg (ys.map vb).toArray)) (hx : xs.length = m) (hy : ys.length = m) :
    Qt P n w0 zs hs L ⟨d, .binOp .neq t x y t', ty, pos, af, g⟩ (.bool (!decide (xs = ys))) :=
  q_bin h1 h2 (fun w => run_eqGuard_agg w _ _ _ _ _ _ hg) fun w => by
    cases hi : P.info? e with
    | none => have := hte.inf; simp [hi] at this
    | some i =>
      have hc : P.cellsOf e = 1 := by have := hte.inf; simp [hi] at this; simp [Program.cellsOf, hi, this.1]
      rw [run_neq_struct, run_equalIn_array w 9999 _ _ ht.und hi, hc, run_items_b hte 9998 xs ys w _ (fun j hj => by rw [List.mem_range] at hj; omega)]
      simp only [Result.andThen_ok]
      congr 3
      rw [Bool.eq_iff_iff]
      simp only [decide_eq_true_eq, List.mem_range]
      constructor
      · intro h
        apply List.ext_getElem (by omega)
        intro j hj1 hj2
        have := h j (by omega)
        rwa [List.getD_eq_getElem?_getD, List.getD_eq_getElem?_getD, List.getElem?_eq_getElem hj1, List.getElem?_eq_getElem hj2] at this
      · intro h j _; rw [h]

/-! ### append of a part of an own box -/
theorem src_blkM {α : Type} {f : α → Value} {tx e : TypeId} {s by_ : Nat} {zv : Value} (ht : Tf P tx (.slice e) s by_ zv) {k : Nat} {b cc : Nat} {bt : TypeId} {xs : List α} (hk : hs[k]? = some (.blk b bt (xs.map f))) (h1 : ∀ u ∈ xs.map f, u.oneCell' = true) {m : Nat} (hm : m = xs.length) : SrcOk P w0 zs hs 1 tx (.slice (some ⟨b, 0, none⟩) m cc) m (xs.map f) := by
  intro w hw
  subst hm
  have h := (hw.own _ (List.mem_of_getElem? hk)).1.2
  refine Src.ofSlice w ht.und ⟨b, 0, none⟩ xs.length cc (xs.map f) (by simp) (fun j u hu => ?_) h1
  rw [add_at, cell_of_row w b _ _ bt (0, 0) h]
  simpa using hu

/-! ### a new slice of arrays -/
theorem foldl_set : ∀ (cs : List Value) (k : Nat) (A : Array Value), A.size = k + cs.length → (cs.zipIdx k).foldl (fun A x => A.setIfInBounds x.2 x.1) A = (A.toList.take k ++ cs).toArray
  | [], k, A, h => by
    simp only [List.zipIdx_nil, List.foldl_nil, List.append_nil]
    rw [List.take_of_length_le (by simpa using Nat.le_of_eq h)]
  | c :: cs, k, A, h => by
    rw [List.zipIdx_cons, List.foldl_cons, foldl_set cs (k + 1) _ (by simp at h ⊢; omega)]
    congr 1
    simp only [List.length_cons] at h
    have hk : k < A.toList.length := by simp; omega
    rw [Array.toList_setIfInBounds, List.take_succ_eq_append_getElem (by simpa using hk), List.take_set, List.getElem_set_self, List.append_assoc]
    congr 1
    rw [List.set_eq_of_length_le (by simp; omega)]
theorem ef_bsliceW {e : TypeId} {s by_ : Nat} {zv : Value} (ht : Tf P t (.slice e) s by_ zv) {de : TypeDesc} {m be : Nat} {zc : List Value} (hte : Tf P e de m be (.agg zc.toArray)) {cs : List Value} (h1 : opv L x = some (.agg cs.toArray)) (hl : cs.length = m) (hz : zc.length = m) (h1c : ∀ v ∈ cs, v.oneCell' = true) (hb : 1 * m ≤ 16777216) (h0 : 0 < m) :
    Ef P n w0 zs hs L ⟨d, .buildSlice t 1 #[(0, x)], ty, pos, af, g⟩ (fun v zs' hs' => zs' = zs ∧ hs' = .row v e m 1 cs :: hs) := by
  refine ef_bslice ht hte (vparts := [(0, .agg cs.toArray)]) (by simp [h1]) ?_ hb (by simp; omega) (by simpa using hl)
  subst hl
  simp only [Instr.fill, Value.cells, Nat.zero_mul, Nat.one_mul]
  simp [Instr.fill, Value.cells]
  have := foldl_set cs 0 (Array.map (fun x => zc[x % zc.length]?.getD default) (Array.range cs.length)) (by simp)
  simpa using this
end
end Go.Fw
