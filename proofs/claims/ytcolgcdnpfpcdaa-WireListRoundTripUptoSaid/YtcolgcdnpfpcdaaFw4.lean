/- A text of a proof over this seat: walks over the program's functions and the plain laws that they need. -/
import Derived.Test.YtcolgcdnpfpcdaaFw3
set_option linter.all false
namespace Go.Fw

/-! ### slices that are read -/
structure Enc (α : Type) where
  size : Nat
  rep : PH → α → List Value → Prop
  mono : ∀ {z z' : PH} {x : α} {c : List Value}, z.le z' → rep z x c → rep z' x c
  len : ∀ {z : PH} {x : α} {c : List Value}, rep z x c → c.length = size
  one : ∀ {z : PH} {x : α} {c : List Value}, rep z x c → ∀ u ∈ c, u.oneCell' = true

def elemPtr (v : Value) (k : Nat) : Value :=
  match v with
  | .slice (some a) _ _ => .pointer (some (a.add k))
  | _ => undef

/-- 'v' is a slice that reads as xs in the part 'z' of the heap. -/
def Sl {α : Type} (E : Enc α) (z : PH) (v : Value) (xs : List α) : Prop :=
  xs.length ≤ 140737488355328 ∧ ∃ a c, v = .slice a xs.length c ∧ xs.length ≤ c ∧
    ∀ (i : Nat) (x : α), xs[i]? = some x → ∃ b off cs ty fz cx, a = some ⟨b, off, none⟩ ∧ z b = some (.cells cs ty fz) ∧ E.rep z x cx ∧ ∀ j u, cx[j]? = some u → cs[off + i * E.size + j]? = some u

theorem Sl.mono {α : Type} {E : Enc α} {z z' : PH} {v : Value} {xs : List α} (hz : z.le z') (h : Sl E z v xs) : Sl E z' v xs := by
  obtain ⟨hb, a, c, rfl, hc, h⟩ := h
  refine ⟨hb, a, c, rfl, hc, fun i x hx => ?_⟩
  obtain ⟨b, off, cs, ty, fz, cx, h1, h2, h3, h4⟩ := h i x hx
  exact ⟨b, off, cs, ty, fz, cx, h1, hz _ _ h2, E.mono hz h3, h4⟩

theorem Sl.len_le {α : Type} {E : Enc α} {z : PH} {v : Value} {xs : List α} (h : Sl E z v xs) : xs.length ≤ 140737488355328 := h.1

/-- An element type of one cell, that points nowhere. -/
def encV {α : Type} (f : α → Value) (p : α → Prop) (h0 : ∀ x, (f x).oneCell' = true) : Enc α where
  size := 1
  rep _ x c := c = [f x] ∧ p x
  mono _ h := h
  len h := by rw [h.1]; rfl
  one h u hu := by rw [h.1] at hu; simp only [List.mem_singleton] at hu; subst hu; exact h0 _

def encI : Enc Int := encV vi (fun x => -9223372036854775808 ≤ x ∧ x ≤ 9223372036854775807) fun _ => rfl
def encB : Enc UInt8 := encV vb (fun _ => True) fun _ => rfl
def encW : Enc UInt32 := encV vw (fun _ => True) fun _ => rfl
def encT : Enc Bool := encV vt (fun _ => True) fun _ => rfl
def encS : Enc (List UInt8) := encV vs (fun s => s.length ≤ 140737488355328) fun _ => rfl
/-- Slices of slices. -/
def encSl {α : Type} (E : Enc α) : Enc (List α) where
  size := 1
  rep z x c := ∃ v, c = [v] ∧ Sl E z v x
  mono hz h := by obtain ⟨v, h1, h2⟩ := h; exact ⟨v, h1, h2.mono hz⟩
  len h := by obtain ⟨v, h1, _⟩ := h; rw [h1]; rfl
  one h u hu := by
    obtain ⟨v, h1, _, a, c, h2, _⟩ := h
    rw [h1, h2] at hu
    simp only [List.mem_singleton] at hu
    rw [hu]; rfl
/-- Arrays of bytes by value. -/
def encA (m : Nat) : Enc (List UInt8) where
  size := m
  rep _ x c := x.length = m ∧ c = x.map vb
  mono _ h := h
  len h := by rw [h.2, List.length_map, h.1]
  one h u hu := by rw [h.2] at hu; obtain ⟨x, _, rfl⟩ := List.mem_map.1 hu; rfl

/-- Where a reading may be made: what stood at the begin, or what has been frozen since. -/
def ZIn (w0 : World) (zs : List PH) (z : PH) : Prop := z = ph w0 ∨ z ∈ zs
theorem St.le {w0 zs hs w z} (h : St w0 zs hs w) (hz : ZIn w0 zs z) : z.le (ph w) := by
  rcases hz with rfl | hz
  · exact h.ext
  · exact (h.zone z hz).1

theorem zin0 {w0 : World} {zs : List PH} : ZIn w0 zs (ph w0) := .inl rfl

/-- The cells behind a pointer. -/
def cellsV (z : PH) (p : Value) (m : Nat) : List Value :=
  match p with
  | .pointer (some ⟨b, off, _⟩) => match z b with
    | some (.cells cs _ _) => (cs.toList.drop off).take m
    | _ => []
  | _ => []

theorem add_at (b o n : Nat) : (⟨b, o, none⟩ : Addr).add n = ⟨b, o + n, none⟩ := Addr.add_lit b o n

/-- What stands at an element. -/
theorem Sl.at {α : Type} {E : Enc α} {z : PH} {v : Value} {xs : List α} (h : Sl E z v xs) {i : Nat} {x : α} (hx : xs[i]? = some x) :
    ∃ b off cs ty fz cx, elemPtr v (i * E.size) = .pointer (some ⟨b, off, none⟩) ∧ z b = some (.cells cs ty fz) ∧ E.rep z x cx ∧ (∀ j u, cx[j]? = some u → cs[off + j]? = some u) := by
  obtain ⟨_, a, c, rfl, _, h⟩ := h
  obtain ⟨b, off, cs, ty, fz, cx, rfl, h2, h3, h4⟩ := h i x hx
  exact ⟨b, off + i * E.size, cs, ty, fz, cx, by simp [elemPtr, add_at], h2, h3, h4⟩

theorem Sl.rep {α : Type} {E : Enc α} {z : PH} {v : Value} {xs : List α} (h : Sl E z v xs) {i : Nat} {x : α} (hx : xs[i]? = some x) :
    E.rep z x (cellsV z (elemPtr v (i * E.size)) E.size) := by
  obtain ⟨b, off, cs, ty, fz, cx, h1, h2, h3, h4⟩ := h.at hx
  have hl := E.len h3
  have : cellsV z (elemPtr v (i * E.size)) E.size = cx := by
    simp only [h1, cellsV, h2]
    apply List.ext_getElem?
    intro j
    rw [List.getElem?_take, List.getElem?_drop]
    split
    · rename_i hj
      have hj' : j < cx.length := by omega
      have := h4 j cx[j] (by simp [hj'])
      simp [hj', this]
    · rename_i hj
      rw [List.getElem?_eq_none (by omega)]
  rw [this]
  exact h3

section
variable {P : Program} {n : Nat} {w0 : World} {zs : List PH} {hs : List Res} {L : List (Nat × Value)} {d : Option Tmp} {ty t t' : TypeId} {pos : String} {af : Array Edge} {g : Option (Nat × Bool)}
variable {x y c o1 o2 o3 : Operand} {u v : Value}

/-! what a type is -/
theorem Tf.info {P : Program} {t : TypeId} {dd : TypeDesc} {s b : Nat} {z : Value} (h : Tf P t dd s b z) : ∃ i, P.info? t = some i ∧ i.size = s ∧ i.bytes = b ∧ i.zero = some z := by
  have := h.inf
  cases hi : P.info? t with
  | none => simp [hi] at this
  | some i =>
    simp [hi] at this
    exact ⟨i, rfl, this.1, this.2.1, this.2.2⟩
theorem Tf.sizeOf {P : Program} {t : TypeId} {dd : TypeDesc} {s b : Nat} {z : Value} (h : Tf P t dd s b z) (w : World) : (Go.sizeOf t).run P w = .ok s w := by
  obtain ⟨i, h1, h2, _⟩ := h.info
  simp [Go.sizeOf, typeInfo, h1, h2]
theorem Tf.zero {P : Program} {t : TypeId} {dd : TypeDesc} {s b : Nat} {z : Value} (h : Tf P t dd s b z) (w : World) : (zeroValue t).run P w = .ok z w := by
  obtain ⟨i, h1, h2, h3, h4⟩ := h.info
  simp [zeroValue, typeInfo, h1, h4]
theorem Tf.tinfo {P : Program} {t : TypeId} {dd : TypeDesc} {s b : Nat} {z : Value} (h : Tf P t dd s b z) (w : World) : ∃ i, (typeInfo t).run P w = .ok i w ∧ i.size = s ∧ i.bytes = b ∧ i.zero = some z := by
  obtain ⟨i, h1, h2⟩ := h.info
  exact ⟨i, by simp [typeInfo, h1], h2⟩

/-- A type whose variables are rows of cells. -/
def aggD : TypeDesc → Bool
  | .struct _ | .array _ _ => true
  | _ => false
theorem Tf.isAgg {P : Program} {t : TypeId} {dd : TypeDesc} {s b : Nat} {z : Value} (h : Tf P t dd s b z) (w : World) : (Go.isAgg t).run P w = .ok (aggD dd) w := by
  unfold Go.isAgg
  rw [Sem.run_bind, run_underlying h.und]
  cases dd <;> simp [aggD]

theorem run_load1 {dd : TypeDesc} {s by_ : Nat} {z : Value} (ht : Tf P t dd s by_ z) (hd : aggD dd = false) {w : World} {a : Addr} (h : w.cell? a = some v) : (loadVar t a).run P w = .ok v w := by
  unfold loadVar
  rw [Sem.run_bind, ht.isAgg]
  simp [hd, h]

theorem run_loadA {dd : TypeDesc} {s by_ : Nat} {z : Value} (ht : Tf P t dd s by_ z) (hd : aggD dd = true) {w : World} {b off : Nat} {cs : Array Value} {bt : TypeId} {fz : Nat × Nat} (h : w.heap[b]? = some (.cells cs bt fz)) (hs : off + s ≤ cs.size) :
    (loadVar t ⟨b, off, none⟩).run P w = .ok (.agg ((cs.toList.drop off).take s).toArray) w := by
  have hl : (loadCells ⟨b, off, none⟩ ((cs.toList.drop off).take s).length).run P w = .ok ((cs.toList.drop off).take s).toArray w :=
    run_loadCells_list (P := P) w ⟨b, off, none⟩ _ (fun j v hv => by
      rw [add_at, cell_of_row w b _ cs bt fz h]
      rw [List.getElem?_take, List.getElem?_drop] at hv
      split at hv
      · simpa using hv
      · cases hv)
  have hlen : ((cs.toList.drop off).take s).length = s := by simp; omega
  rw [hlen] at hl
  unfold loadVar
  rw [Sem.run_bind, ht.isAgg]
  simp [hd, ht.sizeOf, hl]

/-! ### reading boxes -/
theorem q_ld_blk1 {dd : TypeDesc} {s by_ : Nat} {zv : Value} (ht : Tf P t dd s by_ zv) (k : Nat) {b off : Nat} {bt : TypeId} {cs : List Value} (h1 : opv L x = some (.pointer (some ⟨b, off, none⟩))) (hk : hs[k]? = some (.blk b bt cs)) (hv : cs[off]? = some v) (hd : aggD dd = false) :
    Qt P n w0 zs hs L ⟨d, .load t x, ty, pos, af, g⟩ v :=
  qt_of fun a ha w hw => by
    have hb := (hw.own _ (List.mem_of_getElem? hk)).1.2
    have hc : w.cell? ⟨b, off, none⟩ = some v := by rw [cell_of_row w b off _ bt _ hb]; simpa using hv
    simp only [execOp, ha.eval h1]
    simp [Instr.loadAt, Instr.sureAddr, run_load1 ht hd hc]
theorem q_ld_blkA {dd : TypeDesc} {s by_ : Nat} {zv : Value} (ht : Tf P t dd s by_ zv) (k : Nat) {b off : Nat} {bt : TypeId} {cs c : List Value} (h1 : opv L x = some (.pointer (some ⟨b, off, none⟩))) (hk : hs[k]? = some (.blk b bt cs)) (hv : (cs.drop off).take s = c) (hl : off + s ≤ cs.length) (hd : aggD dd = true) :
    Qt P n w0 zs hs L ⟨d, .load t x, ty, pos, af, g⟩ (.agg c.toArray) :=
  qt_of fun a ha w hw => by
    have hb := (hw.own _ (List.mem_of_getElem? hk)).1.2
    have := run_loadA ht hd hb (off := off) (by simpa using hl)
    simp only [hv] at this
    simp only [execOp, ha.eval h1]
    simp [Instr.loadAt, Instr.sureAddr, this]
/-- A package-level variable, or whatever stood at the begin. -/
theorem q_ld_old1 {dd : TypeDesc} {s by_ : Nat} {zv : Value} (ht : Tf P t dd s by_ zv) {b off : Nat} {bt : TypeId} {cs : Array Value} {fz : Nat × Nat} (h1 : opv L x = some (.pointer (some ⟨b, off, none⟩))) (hk : w0.heap[b]? = some (.cells cs bt fz)) (hv : cs[off]? = some v) (hd : aggD dd = false) :
    Qt P n w0 zs hs L ⟨d, .load t x, ty, pos, af, g⟩ v :=
  qt_of fun a ha w hw => by
    have hb := hw.ext _ _ hk
    have hc : w.cell? ⟨b, off, none⟩ = some v := by rw [cell_of_row w b off _ bt _ hb]; simpa using hv
    simp only [execOp, ha.eval h1]
    simp [Instr.loadAt, Instr.sureAddr, run_load1 ht hd hc]
theorem q_ld_oldA {dd : TypeDesc} {s by_ : Nat} {zv : Value} (ht : Tf P t dd s by_ zv) {b off : Nat} {bt : TypeId} {cs : Array Value} {fz : Nat × Nat} {c : List Value} (h1 : opv L x = some (.pointer (some ⟨b, off, none⟩))) (hk : w0.heap[b]? = some (.cells cs bt fz)) (hv : (cs.toList.drop off).take s = c) (hl : off + s ≤ cs.size) (hd : aggD dd = true) :
    Qt P n w0 zs hs L ⟨d, .load t x, ty, pos, af, g⟩ (.agg c.toArray) :=
  qt_of fun a ha w hw => by
    have hb := hw.ext _ _ hk
    have := run_loadA ht hd hb hl
    simp only [hv] at this
    simp only [execOp, ha.eval h1]
    simp [Instr.loadAt, Instr.sureAddr, this]

/-! ### addresses -/
theorem q_fieldAddr {fs : Array Field} {s by_ : Nat} {zv : Value} (ht : Tf P t (.struct fs) s by_ zv) {b off k : Nat} {f : Field} {s' : Nat} (h1 : opv L x = some (.pointer (some ⟨b, off, none⟩))) (hf : fs[k]? = some f) (hsz : (P.info? f.type).map (·.size) = some (s' + 1)) :
    Qt P n w0 zs hs L ⟨d, .fieldAddr t x k, ty, pos, af, g⟩ (.pointer (some ⟨b, off + f.offset, none⟩)) :=
  qt_of fun a ha w hw => by
    have hsz : (sizeOf f.type).run P w = .ok (s' + 1) w := by
      cases hi : P.info? f.type with
      | none => simp [hi] at hsz
      | some i => simp [hi] at hsz; simp [sizeOf, typeInfo, hi, hsz]
    simp only [execOp, ha.eval h1]
    simp [Instr.fieldAt, Instr.sureAddr, run_underlying ht.und, hf, fieldPlace, hsz, add_at]
/-- An array's element. -/
theorem q_idx_arr {m : Nat} {e : TypeId} {s by_ : Nat} {zv : Value} (ht : Tf P t (.array m e) s by_ zv) {de : TypeDesc} {se be : Nat} {ze : Value} (hte : Tf P e de se be ze) {b off : Nat} {i : Int} {k : IntKind} (h1 : opv L x = some (.pointer (some ⟨b, off, none⟩))) (h2 : opv L y = some (.int k i)) (hb : 0 ≤ i ∧ i < m) :
    Qt P n w0 zs hs L ⟨d, .indexAddr t x y, ty, pos, af, g⟩ (.pointer (some ⟨b, off + i.toNat * se, none⟩)) :=
  qt_of fun a ha w hw => by
    simp only [execOp, ha.eval h1, ha.eval h2]
    simp [Instr.indexAt, Instr.sureAddr, asIntOf, run_underlying ht.und, hb, hte.sizeOf, add_at]
/-- A slice's element: where it lies. -/
theorem q_idx_sl {α : Type} {E : Enc α} {z : PH} {xs : List α} {e : TypeId} {s by_ : Nat} {zv : Value} (ht : Tf P t (.slice e) s by_ zv) {de : TypeDesc} {be : Nat} {ze : Value} (hte : Tf P e de E.size be ze) {i : Int} {k : IntKind} (hS : Sl E z v xs) (h1 : opv L x = some v) (h2 : opv L y = some (.int k i)) (hb : 0 ≤ i ∧ i < xs.length) :
    Qt P n w0 zs hs L ⟨d, .indexAddr t x y, ty, pos, af, g⟩ (elemPtr v (i.toNat * E.size)) :=
  qt_of fun a ha w hw => by
    obtain ⟨_, a', c', rfl, _, h⟩ := hS
    have hi : i.toNat < xs.length := by omega
    obtain ⟨b, off, cs, ty', fz, cx, rfl, _⟩ := h i.toNat xs[i.toNat] (by simp [hi])
    simp only [execOp, ha.eval h1, ha.eval h2]
    simp [Instr.indexAt, asIntOf, run_underlying ht.und, hb, hte.sizeOf, add_at, elemPtr]
/-- A load of an element of one cell. -/
theorem q_ld_sl1 {α : Type} {f : α → Value} {p : α → Prop} {h0 : ∀ x, (f x).oneCell' = true} {z : PH} {xs : List α} {dd : TypeDesc} {s by_ : Nat} {zv : Value} (ht : Tf P t dd s by_ zv) (hd : aggD dd = false) {k : Nat} {e : α} (hS : Sl (encV f p h0) z v xs) (hz : ZIn w0 zs z) (h1 : opv L x = some (elemPtr v (k * 1))) (hk : xs[k]? = some e) :
    Qt P n w0 zs hs L ⟨d, .load t x, ty, pos, af, g⟩ (f e) :=
  qt_of fun a ha w hw => by
    obtain ⟨b, off, cs, ty', fz, cx, hp, hzb, hr, hc⟩ := hS.at hk
    have hb := hw.le hz _ _ hzb
    have hcell : w.cell? ⟨b, off, none⟩ = some (f e) := by
      rw [cell_of_row w b off _ ty' _ hb]
      have := hc 0 (f e) (by rw [hr.1]; rfl)
      simpa using this
    have he : a.eval x = .pointer (some ⟨b, off, none⟩) := (ha.eval h1).trans hp
    simp only [execOp, he]
    simp [Instr.loadAt, Instr.sureAddr, run_load1 ht hd hcell]
theorem q_ld_I {z : PH} {xs : List Int} {dd : TypeDesc} {s by_ : Nat} {zv : Value} (ht : Tf P t dd s by_ zv) {k : Nat} (hS : Sl encI z v xs) (hz : ZIn w0 zs z) (h1 : opv L x = some (elemPtr v (k * 1))) (hd : aggD dd = false) (hk : k < xs.length) :
    Qt P n w0 zs hs L ⟨d, .load t x, ty, pos, af, g⟩ (vi (xs.getD k 0)) :=
  q_ld_sl1 ht hd hS hz h1 (by simp [hk])
theorem q_ld_B {z : PH} {xs : List UInt8} {dd : TypeDesc} {s by_ : Nat} {zv : Value} (ht : Tf P t dd s by_ zv) {k : Nat} (hS : Sl encB z v xs) (hz : ZIn w0 zs z) (h1 : opv L x = some (elemPtr v (k * 1))) (hd : aggD dd = false) (hk : k < xs.length) :
    Qt P n w0 zs hs L ⟨d, .load t x, ty, pos, af, g⟩ (vb (xs.getD k 0)) :=
  q_ld_sl1 ht hd hS hz h1 (by simp [hk])
theorem q_ld_T {z : PH} {xs : List Bool} {dd : TypeDesc} {s by_ : Nat} {zv : Value} (ht : Tf P t dd s by_ zv) {k : Nat} (hS : Sl encT z v xs) (hz : ZIn w0 zs z) (h1 : opv L x = some (elemPtr v (k * 1))) (hd : aggD dd = false) (hk : k < xs.length) :
    Qt P n w0 zs hs L ⟨d, .load t x, ty, pos, af, g⟩ (vt (xs.getD k false)) :=
  q_ld_sl1 ht hd hS hz h1 (by simp [hk])
theorem q_ld_S {z : PH} {xs : List (List UInt8)} {dd : TypeDesc} {s by_ : Nat} {zv : Value} (ht : Tf P t dd s by_ zv) {k : Nat} (hS : Sl encS z v xs) (hz : ZIn w0 zs z) (h1 : opv L x = some (elemPtr v (k * 1))) (hd : aggD dd = false) (hk : k < xs.length) :
    Qt P n w0 zs hs L ⟨d, .load t x, ty, pos, af, g⟩ (vs (xs.getD k [])) :=
  q_ld_sl1 ht hd hS hz h1 (by simp [hk])
/-- An element that is itself a slice. -/
def elemV (z : PH) (v : Value) (k : Nat) : Value := ((cellsV z (elemPtr v (k * 1)) 1)[0]?).getD undef
theorem elemV_sl {α : Type} {E : Enc α} {z : PH} {v : Value} {xs : List (List α)} {k : Nat} (hS : Sl (encSl E) z v xs) (hk : k < xs.length) : Sl E z (elemV z v k) (xs.getD k []) := by
  have hx : xs[k]? = some (xs.getD k []) := by simp [hk]
  obtain ⟨u, h1, h2⟩ := hS.rep hx
  have : (encSl E).size = 1 := rfl
  simp only [this] at h1
  unfold elemV
  rw [h1]
  exact h2
theorem q_ld_Sl {α : Type} {E : Enc α} {z : PH} {xs : List (List α)} {dd : TypeDesc} {s by_ : Nat} {zv : Value} (ht : Tf P t dd s by_ zv) {k : Nat} (hS : Sl (encSl E) z v xs) (hz : ZIn w0 zs z) (h1 : opv L x = some (elemPtr v (k * 1))) (hd : aggD dd = false) (hk : k < xs.length) :
    Qt P n w0 zs hs L ⟨d, .load t x, ty, pos, af, g⟩ (elemV z v k) :=
  qt_of fun a ha w hw => by
    have hx : xs[k]? = some (xs.getD k []) := by simp [hk]
    obtain ⟨b, off, cs, ty', fz, cx, hp, hzb, hr, hc⟩ := hS.at hx
    have hb := hw.le hz _ _ hzb
    obtain ⟨u, hu, _⟩ := hr
    have h0 := hc 0 u (by rw [hu]; rfl)
    have hev : elemV z v k = u := by
      unfold elemV
      have hp' : elemPtr v (k * 1) = .pointer (some ⟨b, off, none⟩) := hp
      simp only [hp', cellsV, hzb]
      rw [List.getElem?_take, List.getElem?_drop]
      simp at h0
      simp [h0]
    have hcell : w.cell? ⟨b, off, none⟩ = some u := by
      rw [cell_of_row w b off _ ty' _ hb]
      simpa using h0
    have he : a.eval x = .pointer (some ⟨b, off, none⟩) := (ha.eval h1).trans hp
    simp only [execOp, he]
    simp [Instr.loadAt, Instr.sureAddr, run_load1 ht hd hcell, hev]
/-- An element of several cells. -/
theorem q_ld_slA {α : Type} {E : Enc α} {z : PH} {xs : List α} {dd : TypeDesc} {by_ : Nat} {zv : Value} (ht : Tf P t dd E.size by_ zv) {k m : Nat} (hm : m = k * E.size) (h0 : 0 < E.size) (hS : Sl E z v xs) (hz : ZIn w0 zs z) (h1 : opv L x = some (elemPtr v m)) (hd : aggD dd = true) (hk : k < xs.length) :
    Qt P n w0 zs hs L ⟨d, .load t x, ty, pos, af, g⟩ (.agg (cellsV z (elemPtr v (k * E.size)) E.size).toArray) :=
  qt_of fun a ha w hw => by
    subst hm
    have hx : xs[k]? = some xs[k] := by simp [hk]
    obtain ⟨b, off, cs, ty', fz, cx, hp, hzb, hr, hc⟩ := hS.at hx
    have hb := hw.le hz _ _ hzb
    have hlen := E.len hr
    have hfit : off + E.size ≤ cs.size := by
      have := hc (E.size - 1) (cx[E.size - 1]'(by omega)) (by simp)
      have := (Array.getElem?_eq_some_iff.1 this).1
      omega
    have := run_loadA ht hd hb hfit
    have he : a.eval x = .pointer (some ⟨b, off, none⟩) := (ha.eval h1).trans hp
    have hcv : cellsV z (elemPtr v (k * E.size)) E.size = (cs.toList.drop off).take E.size := by simp only [hp, cellsV, hzb]
    simp only [execOp, he]
    simp [Instr.loadAt, Instr.sureAddr, this, hcv]
end
end Go.Fw
