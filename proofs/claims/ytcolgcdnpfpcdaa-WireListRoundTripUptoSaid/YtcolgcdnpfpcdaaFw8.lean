/- A text of a proof over this seat: walks over the program's functions and the plain laws that they need. -/
import Derived.Test.YtcolgcdnpfpcdaaFw7
import Derived.Laws.CopyOwn
import Derived.Laws.MakeOwn
set_option linter.all false
namespace Go.Fw

section
variable {P : Program} {n : Nat} {w0 : World} {zs : List PH} {hs : List Res} {L : List (Nat × Value)} {d : Option Tmp} {ty t t' : TypeId} {pos : String} {af : Array Edge} {g : Option (Nat × Bool)}
variable {x y c o1 o2 o3 : Operand} {u v : Value} {ops : Array Oper} {rest : List Oper}

/-! ### boxes that hold a list of things of one kind -/
theorem q_ld_blkM {α : Type} {f : α → Value} {dd : TypeDesc} {s by_ : Nat} {zv : Value} (ht : Tf P t dd s by_ zv) (k : Nat) {b off : Nat} {bt : TypeId} {xs : List α} (dflt : α) (h1 : opv L x = some (.pointer (some ⟨b, off, none⟩))) (hk : hs[k]? = some (.blk b bt (xs.map f))) (hl : off < xs.length) (hd : aggD dd = false) :
    Qt P n w0 zs hs L ⟨d, .load t x, ty, pos, af, g⟩ (f (xs.getD off dflt)) :=
  q_ld_blk1 ht k h1 hk (by simp [hl]) hd
/-- .. behind others, and with others behind. -/
theorem q_ld_blkM' {α : Type} {f : α → Value} {dd : TypeDesc} {s by_ : Nat} {zv : Value} (ht : Tf P t dd s by_ zv) (k : Nat) {b off : Nat} {bt : TypeId} {pre post : List Value} {xs : List α} (j : Nat) (dflt : α) (h1 : opv L x = some (.pointer (some ⟨b, off, none⟩))) (hk : hs[k]? = some (.blk b bt (pre ++ (xs.map f ++ post)))) (ho : off = pre.length + j) (hl : j < xs.length) (hd : aggD dd = false) :
    Qt P n w0 zs hs L ⟨d, .load t x, ty, pos, af, g⟩ (f (xs.getD j dflt)) :=
  q_ld_blk1 ht k h1 hk (by
    subst ho
    rw [List.getElem?_append_right (by omega), Nat.add_sub_cancel_left, List.getElem?_append_left (by simpa using hl)]
    simp [hl]) hd
theorem ef_st_blkM {α : Type} {f : α → Value} {dd : TypeDesc} {by_ : Nat} {zv : Value} (ht : Tf P t dd 1 by_ zv) (k : Nat) {b off : Nat} {bt : TypeId} {xs : List α} {e : α} (h1 : opv L x = some (.pointer (some ⟨b, off, none⟩))) (h2 : opv L y = some (f e)) (hk : hs[k]? = some (.blk b bt (xs.map f))) (hl : off < xs.length) (ho : (f e).oneCell' = true) :
    Ef P n w0 zs hs L ⟨d, .store t x y, ty, pos, af, g⟩ (fun v' zs' hs' => v' = undef ∧ zs' = zs ∧ hs' = hs.set k (.blk b bt ((xs.set off e).map f))) := by
  have := ef_store1 (ty := ty) (pos := pos) (af := af) (g := g) (d := d) (n := n) (w0 := w0) (zs := zs) ht k h1 h2 hk ho (by simpa using hl)
  rwa [← List.map_set] at this
theorem ef_st_blkM' {α : Type} {f : α → Value} {dd : TypeDesc} {by_ : Nat} {zv : Value} (ht : Tf P t dd 1 by_ zv) (k : Nat) {b off : Nat} {bt : TypeId} {pre post : List Value} {xs : List α} {e : α} (j : Nat) (h1 : opv L x = some (.pointer (some ⟨b, off, none⟩))) (h2 : opv L y = some (f e)) (hk : hs[k]? = some (.blk b bt (pre ++ (xs.map f ++ post)))) (he : off = pre.length + j) (hl : j < xs.length) (ho : (f e).oneCell' = true) :
    Ef P n w0 zs hs L ⟨d, .store t x y, ty, pos, af, g⟩ (fun v' zs' hs' => v' = undef ∧ zs' = zs ∧ hs' = hs.set k (.blk b bt (pre ++ ((xs.set j e).map f ++ post)))) := by
  have := ef_store1 (ty := ty) (pos := pos) (af := af) (g := g) (d := d) (n := n) (w0 := w0) (zs := zs) ht k h1 h2 hk ho (by subst he; simp; omega)
  subst he
  have e2 : (pre ++ (xs.map f ++ post)).set (pre.length + j) (f e) = pre ++ ((xs.set j e).map f ++ post) := by
    rw [List.set_append_right _ _ (by omega), Nat.add_sub_cancel_left, List.set_append_left _ _ (by simpa using hl), List.map_set]
  rwa [e2] at this

/-! ### an array by value: an index -/
theorem q_idx_agg {m : Nat} {e : TypeId} {s by_ : Nat} {zv : Value} (ht : Tf P t (.array m e) s by_ zv) {de : TypeDesc} {be : Nat} {ze : Value} (hte : Tf P e de 1 be ze) {cs : List Value} {i : Int} {k : IntKind} (h1 : opv L x = some (.agg cs.toArray)) (h2 : opv L y = some (.int k i)) (hb : 0 ≤ i ∧ i < m) (hv : cs[i.toNat]? = some v) (hd : aggD de = false) :
    Qt P n w0 zs hs L ⟨d, .index t x y, ty, pos, af, g⟩ v :=
  qt_of fun a ha w hw => by
    have hp : (part e cs.toArray (i.toNat * 1)).run P w = .ok v w := by
      unfold part
      rw [Sem.run_bind, hte.isAgg]
      simp [hd, hv]
    simp only [execOp, ha.eval h1, ha.eval h2]
    simp only [Nat.mul_one] at hp
    simp [Instr.index, asIntOf, run_underlying ht.und, hb, hte.sizeOf, hp]
theorem q_idx_aggM {α : Type} {f : α → Value} {m : Nat} {e : TypeId} {s by_ : Nat} {zv : Value} (ht : Tf P t (.array m e) s by_ zv) {de : TypeDesc} {be : Nat} {ze : Value} (hte : Tf P e de 1 be ze) {xs : List α} (dflt : α) {i : Int} {k : IntKind} (h1 : opv L x = some (.agg (xs.map f).toArray)) (h2 : opv L y = some (.int k i)) (hb : 0 ≤ i ∧ i < m) (hl : m = xs.length) (hd : aggD de = false) :
    Qt P n w0 zs hs L ⟨d, .index t x y, ty, pos, af, g⟩ (f (xs.getD i.toNat dflt)) :=
  q_idx_agg ht hte h1 h2 hb (by have : i.toNat < xs.length := by omega
                                simp [this]) hd

/-! ### slices of an array that lies in a box -/
theorem q_sla {m : Nat} {e : TypeId} {s by_ : Nat} {zv : Value} (ht : Tf P t (.array m e) s by_ zv) {de : TypeDesc} {se be : Nat} {ze : Value} (hte : Tf P e de se be ze) {b off : Nat} (h1 : opv L x = some (.pointer (some ⟨b, off, none⟩))) :
    Qt P n w0 zs hs L ⟨d, .slice t x none none none, ty, pos, af, g⟩ (.slice (some ⟨b, off, none⟩) m m) :=
  qt_of fun a ha w hw => by
    simp only [execOp, ha.eval h1, Option.map_none]
    simp [Instr.sliceAt, Instr.sureAddr, run_underlying ht.und, Instr.sliceBounds, hte.sizeOf, add_at]
theorem q_sla_lo {m : Nat} {e : TypeId} {s by_ : Nat} {zv : Value} (ht : Tf P t (.array m e) s by_ zv) {de : TypeDesc} {se be : Nat} {ze : Value} (hte : Tf P e de se be ze) {b off : Nat} {k : IntKind} {i : Int} (h1 : opv L x = some (.pointer (some ⟨b, off, none⟩))) (h2 : opv L y = some (.int k i)) (hb : 0 ≤ i ∧ i < m) :
    Qt P n w0 zs hs L ⟨d, .slice t x (some y) none none, ty, pos, af, g⟩ (.slice (some ⟨b, off + i.toNat * se, none⟩) (m - i.toNat) (m - i.toNat)) :=
  qt_of fun a ha w hw => by
    simp only [execOp, ha.eval h1, Option.map_none, Option.map_some, ha.eval h2]
    have e2 : (Instr.sliceBound (.int k i) m .sliceB).run P w = .ok i.toNat w := run_sliceBound (P := P) (w := w) k i m .sliceB (by omega) (by omega)
    have h3 : ¬ (m = i.toNat) := by omega
    simp [Instr.sliceAt, Instr.sureAddr, run_underlying ht.und, Instr.sliceBounds, hte.sizeOf, add_at, e2, h3]
theorem q_sla_hi {m : Nat} {e : TypeId} {s by_ : Nat} {zv : Value} (ht : Tf P t (.array m e) s by_ zv) {de : TypeDesc} {se be : Nat} {ze : Value} (hte : Tf P e de se be ze) {b off : Nat} {k : IntKind} {i : Int} (h1 : opv L x = some (.pointer (some ⟨b, off, none⟩))) (h2 : opv L y = some (.int k i)) (hb : 0 ≤ i ∧ i ≤ m) :
    Qt P n w0 zs hs L ⟨d, .slice t x none (some y) none, ty, pos, af, g⟩ (.slice (some ⟨b, off, none⟩) i.toNat m) :=
  qt_of fun a ha w hw => by
    simp only [execOp, ha.eval h1, Option.map_none, Option.map_some, ha.eval h2]
    have e2 : (Instr.sliceBound (.int k i) m .sliceAlen).run P w = .ok i.toNat w := run_sliceBound (P := P) (w := w) k i m .sliceAlen (by omega) (by omega)
    simp [Instr.sliceAt, Instr.sureAddr, run_underlying ht.und, Instr.sliceBounds, hte.sizeOf, add_at, e2]
theorem q_s2ap {m : Nat} {e : TypeId} {s by_ : Nat} {zv : Value} (ht : Tf P t (.array m e) s by_ zv) {ad : Option Addr} {l c : Nat} (h1 : opv L x = some (.slice ad l c)) (hb : m ≤ l) :
    Qt P n w0 zs hs L ⟨d, .sliceToArrayPointer t x, ty, pos, af, g⟩ (.pointer ad) :=
  qt_of fun a ha w hw => by
    have : ¬ l < m := by omega
    simp only [execOp, ha.eval h1]
    simp [Instr.arrayAt, run_underlying ht.und, this]

/-- What a slice of a box reads as. -/
theorem blk_slV {α : Type} {f : α → Value} {p : α → Prop} {h0 : ∀ x, (f x).oneCell' = true} {w : World} (hS : St w0 zs hs w) (k : Nat) {b off m c : Nat} {bt : TypeId} {cs : List Value} {xs : List α} (hk : hs[k]? = some (.blk b bt cs)) (hc : (cs.drop off).take m = xs.map f) (hm : m = xs.length ∧ m ≤ c ∧ m ≤ 140737488355328) (hp : ∀ x ∈ xs, p x) :
    Sl (encV f p h0) (ph w) (.slice (some ⟨b, off, none⟩) m c) xs := by
  have hb := (hS.own _ (List.mem_of_getElem? hk)).1.2
  obtain ⟨rfl, h2, h3⟩ := hm
  refine ⟨h3, _, c, rfl, h2, fun i x hx => ⟨b, off, cs.toArray, bt, (0, 0), [f x], rfl, hb, ⟨rfl, hp x (List.mem_of_getElem? hx)⟩, fun j u hu => ?_⟩⟩
  cases j with
  | zero =>
    simp only [List.getElem?_cons_zero, Option.some.injEq] at hu
    subst hu
    have h4 : ((cs.drop off).take xs.length)[i]? = some (f x) := by rw [hc]; simp [hx]
    rw [List.getElem?_take, if_pos (List.getElem?_eq_some_iff.1 hx).1, List.getElem?_drop] at h4
    show cs.toArray[off + i * 1 + 0]? = _
    simpa using h4
  | succ j => simp at hu

/-! ### elements of own rows -/
theorem q_idx_row {e e' : TypeId} {s by_ size m : Nat} {zv : Value} (ht : Tf P t (.slice e) s by_ zv) {de : TypeDesc} {be : Nat} {ze : Value} (hte : Tf P e de size be ze) (k : Nat) {cs : List Value} {i : Int} {ik : IntKind} (hk : hs[k]? = some (.row v e' size m cs)) (h1 : opv L x = some v) (h2 : opv L y = some (.int ik i)) (hb : 0 ≤ i ∧ i < m) :
    Qt P n w0 zs hs L ⟨d, .indexAddr t x y, ty, pos, af, g⟩ (elemPtr v (i.toNat * size)) :=
  qt_of fun a ha w hw => by
    have hown := (hw.own _ (List.mem_of_getElem? hk)).1
    rcases hown.2 with ⟨rfl, hn⟩ | ⟨b, cap, cur, rfl, _⟩
    · omega
    · simp only [execOp, ha.eval h1, ha.eval h2]
      simp [Instr.indexAt, asIntOf, run_underlying ht.und, hb, hte.sizeOf, add_at, elemPtr]
theorem q_ld_row {e' : TypeId} {size m : Nat} {dd : TypeDesc} {s by_ : Nat} {zv : Value} (ht : Tf P t dd s by_ zv) (k : Nat) {cs : List Value} {j : Nat} {r : Value} (hk : hs[k]? = some (.row v e' size m cs)) (h1 : opv L x = some (elemPtr v j)) (hj : cs[j]? = some r) (hd : aggD dd = false) :
    Qt P n w0 zs hs L ⟨d, .load t x, ty, pos, af, g⟩ r :=
  qt_of fun a ha w hw => by
    have hown := (hw.own _ (List.mem_of_getElem? hk)).1
    rcases hown.2 with ⟨rfl, rfl⟩ | ⟨b, cap, cur, rfl, hb, hg, hnc, hcm, hcs, htake⟩
    · have := hown.1
      have hcs : cs = [] := List.eq_nil_of_length_eq_zero (by simpa using this)
      subst hcs
      simp at hj
    · have hcell : w.cell? ⟨b, 0 + j, none⟩ = some r := by
        rw [cell_of_row w b _ cur e' (0, 0) hg]
        rw [← htake, List.getElem?_take] at hj
        split at hj
        · simpa using hj
        · cases hj
      have he : a.eval x = .pointer (some ⟨b, 0 + j, none⟩) := (ha.eval h1).trans (by simp [elemPtr, add_at])
      rw [Nat.zero_add] at hcell he
      simp only [execOp, he]
      simp [Instr.loadAt, Instr.sureAddr, run_load1 ht hd hcell]
theorem q_ld_rowM {α : Type} {f : α → Value} {e' : TypeId} {m : Nat} {dd : TypeDesc} {s by_ : Nat} {zv : Value} (ht : Tf P t dd s by_ zv) (k : Nat) {xs : List α} (dflt : α) {j : Nat} (hk : hs[k]? = some (.row v e' 1 m (xs.map f))) (h1 : opv L x = some (elemPtr v (j * 1))) (hj : j < xs.length) (hd : aggD dd = false) :
    Qt P n w0 zs hs L ⟨d, .load t x, ty, pos, af, g⟩ (f (xs.getD j dflt)) :=
  q_ld_row ht k hk h1 (by simp [hj]) hd

/-! ### values that are built -/
theorem q_build {parts : Array (Nat × Operand)} {vparts : List (Nat × Value)} (hp : (parts.toList.mapM fun p => (opv L p.2).map fun v => (p.1, v)) = some vparts) (hr : ∀ w, (Instr.build t vparts.toArray).run P w = .ok v w) :
    Qt P n w0 zs hs L ⟨d, .build t parts, ty, pos, af, g⟩ v :=
  qt_of fun a ha w hw => by
    have key : ∀ (l : List (Nat × Operand)) (vl : List (Nat × Value)), (l.mapM fun p => (opv L p.2).map fun v => (p.1, v)) = some vl → l.map (fun p => (p.1, a.eval p.2)) = vl := by
      intro l
      induction l with
      | nil => intro vl h; simp at h; simp [h]
      | cons p l ih =>
        intro vl h
        rw [List.mapM_cons] at h
        cases ho : opv L p.2 with
        | none => simp [ho] at h
        | some u =>
          simp [ho] at h
          cases hm : (l.mapM fun p => (opv L p.2).map fun v => (p.1, v)) with
          | none => simp [hm] at h
          | some r =>
            simp [hm] at h
            subst h
            simp [ha.eval ho, ih r hm]
    have e : (parts.map fun (i, x) => (i, a.eval x)) = vparts.toArray := by
      apply Array.ext'
      simp [← key _ _ hp]
    simp only [execOp, e]
    simp [hr w]

theorem run_build_arr {m : Nat} {e : TypeId} {s by_ : Nat} {zv : Value} (ht : Tf P t (.array m e) s by_ zv) {de : TypeDesc} {se be : Nat} {ze : Value} (hte : Tf P e de se be ze) {parts : List (Nat × Value)} {cells : List Value} (hf : Instr.fill (fun i => some (i * se, se)) zv.cells parts = some cells.toArray) (w : World) :
    (Instr.build t parts.toArray).run P w = .ok (.agg cells.toArray) w := by
  simp [Instr.build, ht.zero, run_underlying ht.und, hte.sizeOf, hf]

theorem ef_bslice {e : TypeId} {s by_ : Nat} {zv : Value} (ht : Tf P t (.slice e) s by_ zv) {de : TypeDesc} {se be : Nat} {ze : Value} (hte : Tf P e de se be ze) {m : Nat} {parts : Array (Nat × Operand)} {vparts : List (Nat × Value)} {cells : List Value} (hp : (parts.toList.mapM fun p => (opv L p.2).map fun v => (p.1, v)) = some vparts)
    (hf : Instr.fill (fun i => some (i * se, se)) ((Array.range (m * se)).map (ze.cells[· % ze.cells.size]!)) vparts = some cells.toArray) (hb : m * se ≤ 16777216) (h0 : (m * se == 0) = false) (hl : cells.length = m * se) :
    Ef P n w0 zs hs L ⟨d, .buildSlice t m parts, ty, pos, af, g⟩ (fun v zs' hs' => zs' = zs ∧ hs' = .row v e se m cells :: hs) :=
  ef_of fun a ha w hw => by
    have key : ∀ (l : List (Nat × Operand)) (vl : List (Nat × Value)), (l.mapM fun p => (opv L p.2).map fun v => (p.1, v)) = some vl → l.map (fun p => (p.1, a.eval p.2)) = vl := by
      intro l
      induction l with
      | nil => intro vl h; simp at h; simp [h]
      | cons p l ih =>
        intro vl h
        rw [List.mapM_cons] at h
        cases ho : opv L p.2 with
        | none => simp [ho] at h
        | some u =>
          simp [ho] at h
          cases hm : (l.mapM fun p => (opv L p.2).map fun v => (p.1, v)) with
          | none => simp [hm] at h
          | some r =>
            simp [hm] at h
            subst h
            simp [ha.eval ho, ih r hm]
    have e1 : (parts.map fun (i, x) => (i, a.eval x)) = vparts.toArray := by
      apply Array.ext'
      simp [← key _ _ hp]
    have h1 : ¬ (m * se > 2 ^ 24) := by simp; omega
    have h2 : ¬ (m * se = 0) := by simpa using h0
    have hmm : m ≤ maxLen := by
      have : 0 < se := Nat.pos_of_ne_zero (fun e => h2 (by simp [e]))
      have := Nat.le_mul_of_pos_right m this
      unfold maxLen; omega
    have hst := hw.newRow e cells se m m hl (Nat.le_refl _) hmm
    rw [List.take_of_length_le (by omega)] at hst
    refine ⟨_, zs, _, _, .inl ?_, ⟨rfl, rfl⟩, hst⟩
    simp only [execOp, e1]
    have hr : (Instr.buildSlice t m vparts.toArray).run P w = .ok (.slice (some ⟨w.heap.size, 0, none⟩) m m) { w with heap := w.heap.push (.cells cells.toArray e (0, 0)) } := by
      unfold Instr.buildSlice
      rw [Sem.run_bind, run_underlying ht.und]
      simp only [Result.andThen_ok]
      rw [Sem.run_bind, hte.sizeOf]
      simp only [Result.andThen_ok]
      rw [if_neg h1]
      simp only [if_neg h2]
      simp only [Sem.run_bind, hte.zero, Result.andThen_ok, Sem.run_pure]
      simp only [hf]
      simp [newRow]
    rw [Sem.run_bind, hr]
    rfl
/-- An empty literal. -/
theorem ef_bslice0 {e : TypeId} {s by_ : Nat} {zv : Value} (ht : Tf P t (.slice e) s by_ zv) {de : TypeDesc} {se be : Nat} {ze : Value} (hte : Tf P e de se be ze) :
    Ef P n w0 zs hs L ⟨d, .buildSlice t 0 #[], ty, pos, af, g⟩ (fun v zs' hs' => zs' = zs ∧ hs' = .row v e se 0 [] :: hs) :=
  ef_of fun a ha w hw => by
    have hst := hw.newRow e [] se 0 0 (by simp) (Nat.le_refl _) (by unfold maxLen; omega)
    refine ⟨_, zs, _, _, .inl ?_, ⟨rfl, rfl⟩, by simpa using hst⟩
    simp only [execOp]
    have hr : (Instr.buildSlice t 0 #[]).run P w = .ok (.slice (some ⟨w.heap.size, 0, none⟩) 0 0) { w with heap := w.heap.push (.cells ([] : List Value).toArray e (0, 0)) } := by
      unfold Instr.buildSlice
      rw [Sem.run_bind, run_underlying ht.und]
      simp only [Result.andThen_ok]
      rw [Sem.run_bind, hte.sizeOf]
      simp [Instr.fill, newRow]
      have e0 : (Array.map (fun _ => (default : Value)) (Array.range 0)) = #[] := Array.eq_empty_of_size_eq_zero (by simp)
      rw [e0]
    simp only [Array.map_empty]
    rw [Sem.run_bind, hr]
    rfl
end
end Go.Fw
