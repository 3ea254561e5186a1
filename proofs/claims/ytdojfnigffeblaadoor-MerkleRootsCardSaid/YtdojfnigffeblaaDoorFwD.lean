/- A text of a proof over this seat: walks over the program's functions and the plain laws that they need. -/
import Derived.Test.YtdojfnigffeblaaDoorFwC
import Derived.RangeFuncLeaves
import Derived.RangeFuncRecord
import Derived.OrdersIn
import Derived.TacticsIn
import Derived.Test.YtdojfnigffeblaaDoorFwB
import Derived.Lib.UnsafeStr
import Derived.Lib.Builder
import Derived.Laws.Externs
import Derived.LaidEql
import Derived.Lib.Bytealg
set_option linter.all false
section
namespace Go.Fw

/-! ### a range over a function: regions within a round -/
/-- The wide fence, in a round or not. -/
@[reducible] def Fe (ro : Option Nat) : Fence := { Fence.wide with round := ro }
def ndB (o : Oper) : Bool := match o.op with | .defer _ => false | _ => true
section
variable {P : Program} {ops : Array Oper} {ro : Option Nat} {m : Nat}

end

section
variable {P : Program} {n : Nat} {w0 : World} {zs : List PH} {hs : List Res} {L L' : List (Nat × Value)} {l : List Oper} {k : Nat} {ro : Option Nat} {m : Nat}
end
end Go.Fw
end

section
namespace Go.Fw

/-! ### a range over a function: the statement -/
theorem putObj_io (w : World) (b : Nat) (o : Obj) : Io w (w.putObj b o) := ⟨rfl, rfl, rfl⟩
theorem St.swap {w0 w : World} {zs : List PH} {hs : List Res} {b : Nat} {o : Obj} (h : St w0 (ph1 b o :: zs) hs w) (hz : ∀ z ∈ zs, z b = none) (o' : Obj) : St w0 (ph1 b o' :: zs) hs (w.putObj b o') := by
  have hz0 := h.zone _ List.mem_cons_self
  have hb : w.heap[b]? = some o := hz0.1 b o (by unfold ph1; rw [if_pos rfl])
  have hge : w0.heap.size ≤ b := hz0.2 b o (by unfold ph1; rw [if_pos rfl])
  have hlt : b < w.heap.size := (Array.getElem?_eq_some_iff.1 hb).1
  have hown : ∀ r ∈ hs, r.id ≠ some b := fun r hr e => by
    have := (h.own r hr).2 b e _ List.mem_cons_self
    unfold ph1 at this
    rw [if_pos rfl] at this
    cases this
  refine ⟨fun k ob hk => ?_, fun z hz' => ?_, fun r hr => ⟨Res.ok_of (h.own r hr).1 fun k hk => World.putObj_heap_other (fun e => hown r hr (by rw [hk, e])), fun k hk z hz' => ?_⟩, h.nd, h.io.trans (putObj_io _ _ _)⟩
  · have h1 := h.ext k ob hk
    have hkb : k ≠ b := by have := ph_some hk; omega
    simp only [ph] at h1 ⊢
    rw [World.putObj_heap_other hkb]; exact h1
  · rcases List.mem_cons.1 hz' with rfl | hz2
    · refine ⟨fun k ob hk => ?_, fun k ob hk => ?_⟩
      · obtain ⟨rfl, rfl⟩ := ph1_some hk; exact World.putObj_heap_same hlt
      · obtain ⟨rfl, rfl⟩ := ph1_some hk; exact hge
    · refine ⟨fun k ob hk => ?_, (h.zone z (List.mem_cons_of_mem _ hz2)).2⟩
      have h1 := (h.zone z (List.mem_cons_of_mem _ hz2)).1 k ob hk
      have hkb : k ≠ b := by
        intro e
        rw [e, hz z hz2] at hk
        cases hk
      simp only [ph] at h1 ⊢
      rw [World.putObj_heap_other hkb]; exact h1
  · rcases List.mem_cons.1 hz' with rfl | hz2
    · have := hown r hr
      unfold ph1
      rw [if_neg (fun e => this (by rw [hk, e]))]
    · exact (h.own r hr).2 k hk z (List.mem_cons_of_mem _ hz2)
/-- What a call of yield asks and gives. -/
def Yd (P : Program) (Y v : Value) (I J : World → Prop) : Prop :=
  ∀ w, I w → ∃ (l : Nat) (f : FuncId) (tmps : Array Value) (assign body : Code), Y = .func (.yield l) #[] #[] ∧ (Instr.yield l #[v]).run P w = .ok (.round l f tmps assign body) w ∧
    ∀ m, RoundIn (Fe none) m P l f tmps assign body w fun e w' => e = .returned (.bool true) ∧ J w'

section
variable {P : Program} {n : Nat} {w0 : World} {zs : List PH} {L : List (Nat × Value)}

/-! ### the function that holds it -/
/-! ### the iterator's side: a call of yield -/
/-! ### an iterator: the rest of what is owned is told -/
def CxH (P : Program) (f : FuncId) (args : List Value) (w0 : World) (zsr : List PH) (own hsr : List Res) (R : Value → List PH → List Res → Prop) : Prop :=
  ∀ (w : World), St w0 zsr (own ++ hsr) w → Calls P f args.toArray w fun e w' => ∃ v zs1 hs1, e = .returned v ∧ St w0 (zs1 ++ zsr) (hs1 ++ hsr) w' ∧ R v zs1 hs1
end
end Go.Fw
namespace Go.Fw
section
variable {P : Program} {n : Nat} {w0 : World} {zs : List PH} {L : List (Nat × Value)} {m : Nat}
end
end Go.Fw
end

section
/-! maps: how many there are, and one taken out -/
namespace Go.Fw
open Go Go.Sem
def adel {α : Type} [DecidableEq α] (a : α) (l : List (α × Value)) : List (α × Value) := match fnd a l 0 with
  | some (i, _) => l.eraseIdx i
  | none => l
section
variable {P : Program} {n : Nat} {w0 : World} {zs : List PH} {hs : List Res} {L : List (Nat × Value)} {d : Option Tmp} {ty t t2 : TypeId} {pos : String} {af : Array Edge} {g : Option (Nat × Bool)} {x y o3 : Operand} {u v : Value}
variable {α : Type} [DecidableEq α] {kf : α → Value} {V : α → Prop} {kt e : TypeId}
end
end Go.Fw
end

section
/-! slices of arrays of bytes as a source of append -/
namespace Go.Fw
section
variable {P : Program} {n : Nat} {w0 : World} {zs : List PH} {hs : List Res} {v : Value}
theorem sl_A {m : Nat} {z : PH} {xs : List (List UInt8)} (hS : Sl (encA m) z v xs) : ∀ x ∈ xs, x.length = m := fun x hx => by
  obtain ⟨i, hi, rfl⟩ := List.mem_iff_getElem.1 hx
  obtain ⟨b, off, cs, ty, fz, cx, _, _, h, _⟩ := hS.at (i := i) (x := xs[i]) (by simp [hi])
  exact h.1
end
end Go.Fw
end

section
/-! digests in own rows; what is known as an element -/
namespace Go.Fw
section
variable {P : Program} {n : Nat} {w0 : World} {zs : List PH} {hs : List Res} {L : List (Nat × Value)} {d : Option Tmp} {ty t t' : TypeId} {pos : String} {af : Array Edge} {g : Option (Nat × Bool)}
variable {x y c : Operand} {u v : Value}
end
/-! ### what is known, as an element -/
def encN : Enc (List (List UInt8) × List Int) where
  size := 2
  rep z x c := ∃ kv mv, c = [kv, mv] ∧ Sl (encA 16) z kv x.1 ∧ Sl encI z mv x.2
  mono hz h := by obtain ⟨kv, mv, h1, h2, h3⟩ := h; exact ⟨kv, mv, h1, h2.mono hz, h3.mono hz⟩
  len h := by obtain ⟨kv, mv, h1, _⟩ := h; rw [h1]; rfl
  one h u hu := by
    obtain ⟨kv, mv, h1, h2, h3⟩ := h
    rw [h1] at hu
    simp only [List.mem_cons, List.not_mem_nil, or_false] at hu
    rcases hu with rfl | rfl
    · exact sl_one' h2
    · exact sl_one' h3
end Go.Fw
end

section
/-! a field of a slice's element -/
namespace Go.Fw
section
variable {P : Program} {n : Nat} {w0 : World} {zs : List PH} {hs : List Res} {L : List (Nat × Value)} {d : Option Tmp} {ty t : TypeId} {pos : String} {af : Array Edge} {g : Option (Nat × Bool)} {x : Operand}
/-- A load from a zone, by an explicit pointer. -/
theorem q_ld_z [Dfs] {z : PH} {dd : TypeDesc} {s by_ : Nat} {zv : Value} (ht : Tf P t dd s by_ zv) {b off : Nat} {cs : Array Value} {ty' : TypeId} {fz : Nat × Nat} {u : Value} (h1 : opv L x = some (.pointer (some ⟨b, off, none⟩))) (hd : aggD dd = false) (hz : ZIn w0 zs z) (hb : z b = some (.cells cs ty' fz)) (hc : cs[off]? = some u) :
    Qt P n w0 zs hs L ⟨d, .load t x, ty, pos, af, g⟩ u :=
  qt_of fun a ha w hw => by
    have hb' := hw.le hz _ _ hb
    have hcell : w.cell? ⟨b, off, none⟩ = some u := by
      rw [cell_of_row w b off _ ty' _ hb']
      exact hc
    have he : a.eval x = .pointer (some ⟨b, off, none⟩) := ha.eval h1
    simp only [execOp, he]
    simp [Instr.loadAt, Instr.sureAddr, run_load1 ht hd hcell]
end
end Go.Fw
end

section
namespace Go.Fw
end Go.Fw
namespace Go.Fw
end Go.Fw
end

section
/-! operations that are passed over, in a region that draws and writes -/
namespace Go.Fw
open Go Go.Sem
variable {P : Program} {n : Nat} {w0 : World} {L : List (Nat × Value)} {ops : Array Oper} {J : Act → World → Prop}
end Go.Fw
end

section
namespace Go.Fw
open Go Go.Sem
section
variable {P : Program} {n : Nat} {w0 : World} {zs : List PH} {hs : List Res} {L : List (Nat × Value)} {d : Option Tmp} {ty t : TypeId} {pos : String} {af : Array Edge} {g : Option (Nat × Bool)} {x y : Operand} {v : Value}
end
end Go.Fw
end

section
namespace Go.Fw
end Go.Fw
end

section
/-! strings.Builder: a string over own bytes -/
namespace Go.Fw
open Go Go.Sem
section
variable {P : Program} {n : Nat} {w0 : World} {zs : List PH} {hs : List Res} {L : List (Nat × Value)} {d : Option Tmp} {ty t : TypeId} {pos : String} {af : Array Edge} {g : Option (Nat × Bool)} {x y : Operand} {v : Value}
end
end Go.Fw
end

section
/-! pointers compared, turned into unsafe ones and back; a call of an outside function that hands back what it is given -/
namespace Go.Fw
open Go Go.Sem
section
variable {P : Program} {n : Nat} {w0 : World} {zs : List PH} {hs : List Res} {L : List (Nat × Value)} {d : Option Tmp} {ty t t' : TypeId} {pos : String} {af : Array Edge} {g : Option (Nat × Bool)} {x y : Operand} {v : Value}
/-- What is lent lies in front. -/
theorem ef_callxN [Dfs] (m : Nat) {f : FuncId} (hf : FnOk P f) {os : List Operand} {vs : List Value} {ats : Array TypeId} {R : Value → List PH → List Res → Prop} (h1 : opvs L os = some vs) (hc : Cx P f vs w0 zs (hs.take m) R) :
    Ef P n w0 zs hs L ⟨d, .call ⟨.value (.func f), os.toArray, ats⟩, ty, pos, af, g⟩ (fun v zs' hs' => ∃ z1 h1, zs' = z1 ++ zs ∧ hs' = h1 ++ hs.drop m ∧ R v z1 h1) :=
  ef_callx hf h1 (rest := hs.drop m) (by rw [List.take_append_drop]) hc
theorem ef_callvxN [Dfs] (m : Nat) {f : FuncId} (hf : FnOk P f) {fs cs : List Value} (h0 : opv L x = some (.func (.func f) fs.toArray cs.toArray)) {os : List Operand} {vs : List Value} {ats : Array TypeId} {R : Value → List PH → List Res → Prop} (h1 : opvs L os = some vs) (hc : Cx P f (fs ++ vs ++ cs) w0 zs (hs.take m) R) :
    Ef P n w0 zs hs L ⟨d, .call ⟨.value x, os.toArray, ats⟩, ty, pos, af, g⟩ (fun v zs' hs' => ∃ z1 h1, zs' = z1 ++ zs ∧ hs' = h1 ++ hs.drop m ∧ R v z1 h1) :=
  ef_callvx hf h0 h1 (rest := hs.drop m) (by rw [List.take_append_drop]) hc
end
end Go.Fw
end

section
/-! keys that are arrays of numbers; function values that give digests -/
namespace Go.Fw
open Go Go.Sem
def aiv (l : List Int) : Value := .agg (l.map vi).toArray
section
variable {P : Program}
end
/-- A function of one number that gives a digest, and leaves all as it is. -/
def FnD (P : Program) (w : World) (fv : Value) (q : Int → Prop) (f : Int → List UInt8) : Prop :=
  ∃ g fs cs, fv = .func (.func g) fs.toArray cs.toArray ∧ FnOk P g ∧ ∀ w', (ph w).le (ph w') → ∀ x, q x → Ct P g (fs ++ [vi x] ++ cs) w' (fun r _ _ => r = .agg ((f x).map vb).toArray)
theorem FnD.mono {P : Program} {w w' : World} {fv : Value} {q : Int → Prop} {f : Int → List UInt8} (h : FnD P w fv q f) (hle : (ph w).le (ph w')) : FnD P w' fv q f := by
  obtain ⟨g, fs, cs, h1, h2, h3⟩ := h
  exact ⟨g, fs, cs, h1, h2, fun w2 h4 => h3 w2 (PH.le_tr hle h4)⟩
section
variable {P : Program} {n : Nat} {w0 : World} {zs : List PH} {hs : List Res} {L : List (Nat × Value)} {d : Option Tmp} {ty t : TypeId} {pos : String} {af : Array Edge} {g : Option (Nat × Bool)} {x : Operand}
end
end Go.Fw
end

section
/-! a side with a guarded side within, under a known guard -/
namespace Go.Fw
open Go Go.Sem
section
variable {P : Program} {n : Nat} {w0 : World} {zs : List PH} {hs : List Res} {ops : Array Oper} {L L' : List (Nat × Value)} {k : Nat}
end
end Go.Fw
end

section
/-! slices of structs whose cells hang on a plain value alone -/
namespace Go.Fw
/-- An element whose cells are told by a function. -/
def encK {α : Type} (f : α → List Value) (m : Nat) (p : α → Prop) (hl : ∀ x, (f x).length = m) (h1 : ∀ x, ∀ u ∈ f x, u.oneCell' = true) : Enc α where
  size := m
  rep _ x c := c = f x ∧ p x
  mono _ h := h
  len h := by rw [h.1]; exact hl _
  one h u hu := by rw [h.1] at hu; exact h1 _ u hu
section
variable {α β : Type} {f : α → List β} {m : Nat}
theorem fm_len (hl : ∀ x, (f x).length = m) (xs : List α) : (xs.flatMap f).length = xs.length * m := by
  induction xs with
  | nil => simp
  | cons a t ih => rw [List.flatMap_cons, List.length_append, ih, hl, List.length_cons, Nat.add_mul]; omega
theorem fm_get (hl : ∀ x, (f x).length = m) : ∀ {xs : List α} {i : Nat} {x : α}, xs[i]? = some x → ∀ {j : Nat}, j < m → (xs.flatMap f)[i * m + j]? = (f x)[j]?
  | [], i, x, h, j, _ => by simp at h
  | a :: t, 0, x, h, j, hj => by
    simp only [List.getElem?_cons_zero, Option.some.injEq] at h
    subst h
    rw [List.flatMap_cons, Nat.zero_mul, Nat.zero_add, List.getElem?_append_left (by rw [hl]; exact hj)]
  | a :: t, i + 1, x, h, j, hj => by
    rw [List.getElem?_cons_succ] at h
    rw [List.flatMap_cons, List.getElem?_append_right (by rw [hl, Nat.add_mul]; omega), hl, show (i + 1) * m + j - m = i * m + j by rw [Nat.add_mul]; omega]
    exact fm_get hl h hj
end
section
variable {α : Type} {f : α → List Value} {m : Nat} {p : α → Prop} {hl : ∀ x, (f x).length = m} {h1 : ∀ x, ∀ u ∈ f x, u.oneCell' = true}
variable {z : PH} {v : Value} {xs : List α}
theorem kget (dflt : α) {k : Nat} (hk : k < xs.length) : xs[k]? = some (xs.getD k dflt) := by
  rw [List.getD_eq_getElem?_getD, List.getElem?_eq_getElem hk]; rfl
theorem K_at (dflt : α) (hS : Sl (encK f m p hl h1) z v xs) {k : Nat} (hk : k < xs.length) : cellsV z (elemPtr v (k * m)) m = f (xs.getD k dflt) ∧ p (xs.getD k dflt) := hS.rep (kget dflt hk)
theorem K_all (hS : Sl (encK f m p hl h1) z v xs) : ∀ x ∈ xs, p x := fun x hx => by
  obtain ⟨k, hk, rfl⟩ := List.getElem_of_mem hx
  exact (hS.rep (i := k) (x := xs[k]) (by simp [hk])).2
theorem K_one (xs : List α) (h1 : ∀ x, ∀ u ∈ f x, u.oneCell' = true) : ∀ u ∈ xs.flatMap f, u.oneCell' = true := fun u hu => by
  obtain ⟨x, _, hx⟩ := List.mem_flatMap.1 hu
  exact h1 x u hx
theorem St.freezeK {w0 : World} {zs : List PH} {hs : List Res} {w : World} {e : TypeId} {k : Nat} (h : St w0 zs (.row v e m k (xs.flatMap f) :: hs) w) (hm : k = xs.length) (hb : k ≤ 140737488355328) (hp : ∀ x ∈ xs, p x) : ∃ z, Sl (encK f m p hl h1) z v xs ∧ St w0 (z :: zs) hs w := by
  refine St.freeze (E := encK f m p hl h1) h (.inl rfl) hm hb fun i x hx => ⟨f x, ⟨rfl, hp x (List.mem_of_getElem? hx)⟩, fun j u hu => ?_⟩
  have hj : j < m := by rw [← hl x]; exact (List.getElem?_eq_some_iff.1 hu).1
  exact (fm_get hl hx hj).trans hu
theorem own_slK {base : Nat} {w : World} {e : TypeId} {k : Nat} (h : (Res.row v e m k (xs.flatMap f)).ok base w) (hm : k = xs.length) (hb : k ≤ 140737488355328) (hp : ∀ x ∈ xs, p x) : Sl (encK f m p hl h1) (ph w) v xs := by
  refine own_sl (E := encK f m p hl h1) h hm hb fun i x hx => ⟨f x, ⟨rfl, hp x (List.mem_of_getElem? hx)⟩, fun j u hu => ?_⟩
  have hj : j < m := by rw [← hl x]; exact (List.getElem?_eq_some_iff.1 hu).1
  exact (fm_get hl hx hj).trans hu
end
section
variable {P : Program} {n : Nat} {w0 : World} {zs : List PH} {hs : List Res} {L : List (Nat × Value)} {d : Option Tmp} {ty t : TypeId} {pos : String} {af : Array Edge} {g : Option (Nat × Bool)} {x y : Operand} {u v : Value}
variable {α : Type} {f : α → List Value} {m : Nat} {p : α → Prop} {hl : ∀ x, (f x).length = m} {h1 : ∀ x, ∀ u ∈ f x, u.oneCell' = true} {z : PH} {xs : List α}
theorem src_slK {tx e : TypeId} {s by_ : Nat} {zv : Value} (ht : Tf P tx (.slice e) s by_ zv) (hS : Sl (encK f m p hl h1) z v xs) (hz : ZIn w0 zs z) (h0 : 0 < m) : SrcOk P w0 zs hs m tx v xs.length (xs.flatMap f) := by
  refine src_sl (E := encK f m p hl h1) ht hS hz _ (fm_len hl xs) (K_one xs h1) (fun i x cx hx hr j hj => ?_) h0
  rw [hr.1]
  exact fm_get hl hx hj
/-- An element. -/
theorem q_ld_K [Dfs] (dflt : α) {dd : TypeDesc} {by_ : Nat} {zv : Value} (ht : Tf P t dd m by_ zv) {k : Nat} (hS : Sl (encK f m p hl h1) z v xs) (hz : ZIn w0 zs z) (h2 : opv L x = some (elemPtr v (k * m))) (hd : aggD dd = true) (h0 : 0 < m) (hk : k < xs.length) :
    Qt P n w0 zs hs L ⟨d, .load t x, ty, pos, af, g⟩ (.agg (f (xs.getD k dflt)).toArray) := by
  have := q_ld_slA (P := P) (n := n) (w0 := w0) (zs := zs) (hs := hs) (L := L) (d := d) (ty := ty) (pos := pos) (af := af) (g := g) (x := x) (E := encK f m p hl h1) ht (k := k) (m := k * m) rfl h0 hS hz h2 hd hk
  have e := (K_at dflt hS hk).1
  rw [← e]
  exact this
/-- Where a field of an element lies. -/
theorem q_fld_E [Dfs] {β : Type} {E : Enc β} {ys : List β} {fs : Array Field} {s by_ : Nat} {zv : Value} (ht : Tf P t (.struct fs) s by_ zv) {k : Nat} (hS : Sl E z v ys) (h2 : opv L x = some (elemPtr v (k * E.size))) (hk : k < ys.length) {j : Nat} {fd : Field} {s' : Nat} (hf : fs[j]? = some fd) (hsz : (P.info? fd.type).map (·.size) = some (s' + 1)) :
    Qt P n w0 zs hs L ⟨d, .fieldAddr t x j, ty, pos, af, g⟩ (elemPtr v (k * E.size + fd.offset)) := by
  obtain ⟨b, off, e1, e2⟩ := elemPtr_add hS hk
  rw [e1] at h2
  rw [e2]
  exact q_fieldAddr ht h2 hf hsz
/-- A field of an element. -/
theorem q_ld_K1 [Dfs] (dflt : α) {dd : TypeDesc} {s by_ : Nat} {zv : Value} (ht : Tf P t dd s by_ zv) {k j : Nat} (hS : Sl (encK f m p hl h1) z v xs) (hz : ZIn w0 zs z) (h2 : opv L x = some (elemPtr v (k * m + j))) (hd : aggD dd = false) (hk : k < xs.length) {u : Value} (hu : (f (xs.getD k dflt))[j]? = some u) :
    Qt P n w0 zs hs L ⟨d, .load t x, ty, pos, af, g⟩ u := by
  obtain ⟨b, off, cs, ty', fz, cx, hp, hzb, hr, hc⟩ := hS.at (kget dflt hk)
  obtain ⟨b', off', e1, e2⟩ := elemPtr_add hS hk
  have e3 : (Value.pointer (some ⟨b', off', none⟩)) = .pointer (some ⟨b, off, none⟩) := e1.symm.trans hp
  injection e3 with e3; injection e3 with e3; injection e3 with e4 e5
  subst e4; subst e5
  have e6 : elemPtr v (k * m + j) = .pointer (some ⟨b', off' + j, none⟩) := e2 j
  rw [e6] at h2
  refine q_ld_z ht h2 hd hz hzb (hc j u ?_)
  rw [hr.1]; exact hu
end
/-! ### structs of two strings -/
def kvC (x : List UInt8 × List UInt8) : List Value := [vs x.1, vs x.2]
def kvP (x : List UInt8 × List UInt8) : Prop := x.1.length ≤ 140737488355328 ∧ x.2.length ≤ 140737488355328
theorem kvC_len (x : List UInt8 × List UInt8) : (kvC x).length = 2 := rfl
theorem kvC_one (x : List UInt8 × List UInt8) : ∀ u ∈ kvC x, u.oneCell' = true := fun u hu => by
  simp only [kvC, List.mem_cons, List.not_mem_nil, or_false] at hu
  rcases hu with rfl | rfl <;> rfl
def encF : Enc (List UInt8 × List UInt8) := encK kvC 2 kvP kvC_len kvC_one
def kv0 : List UInt8 × List UInt8 := ([], [])
section
variable {P : Program} {n : Nat} {w0 : World} {zs : List PH} {hs : List Res} {L : List (Nat × Value)} {d : Option Tmp} {ty t : TypeId} {pos : String} {af : Array Edge} {g : Option (Nat × Bool)} {x y : Operand} {u v : Value} {z : PH} {xs : List (List UInt8 × List UInt8)}
theorem q_ld_F [Dfs] {dd : TypeDesc} {by_ : Nat} {zv : Value} (ht : Tf P t dd 2 by_ zv) {k : Nat} (hS : Sl encF z v xs) (hz : ZIn w0 zs z) (h2 : opv L x = some (elemPtr v (k * 2))) (hd : aggD dd = true) (hk : k < xs.length) :
    Qt P n w0 zs hs L ⟨d, .load t x, ty, pos, af, g⟩ (.agg [vs (xs.getD k kv0).1, vs (xs.getD k kv0).2].toArray) := q_ld_K kv0 ht hS hz h2 hd (by decide) hk
theorem q_ld_FK [Dfs] {dd : TypeDesc} {s by_ : Nat} {zv : Value} (ht : Tf P t dd s by_ zv) {k : Nat} (hS : Sl encF z v xs) (hz : ZIn w0 zs z) (h2 : opv L x = some (elemPtr v (k * 2 + 0))) (hd : aggD dd = false) (hk : k < xs.length) :
    Qt P n w0 zs hs L ⟨d, .load t x, ty, pos, af, g⟩ (vs (xs.getD k kv0).1) := q_ld_K1 kv0 ht hS hz h2 hd hk rfl
theorem q_ld_FV [Dfs] {dd : TypeDesc} {s by_ : Nat} {zv : Value} (ht : Tf P t dd s by_ zv) {k : Nat} (hS : Sl encF z v xs) (hz : ZIn w0 zs z) (h2 : opv L x = some (elemPtr v (k * 2 + 1))) (hd : aggD dd = false) (hk : k < xs.length) :
    Qt P n w0 zs hs L ⟨d, .load t x, ty, pos, af, g⟩ (vs (xs.getD k kv0).2) := q_ld_K1 kv0 ht hS hz h2 hd hk rfl
theorem q_fld_F [Dfs] {fs : Array Field} {s by_ : Nat} {zv : Value} (ht : Tf P t (.struct fs) s by_ zv) {k : Nat} (hS : Sl encF z v xs) (h2 : opv L x = some (elemPtr v (k * 2))) (hk : k < xs.length) {j : Nat} {fd : Field} {s' : Nat} (hf : fs[j]? = some fd) (hsz : (P.info? fd.type).map (·.size) = some (s' + 1)) :
    Qt P n w0 zs hs L ⟨d, .fieldAddr t x j, ty, pos, af, g⟩ (elemPtr v (k * 2 + fd.offset)) := q_fld_E (E := encF) ht hS h2 hk hf hsz
end
theorem F_all {z : PH} {v : Value} {xs : List (List UInt8 × List UInt8)} (hS : Sl encF z v xs) : ∀ x ∈ xs, kvP x := K_all hS
theorem St.freezeF {w0 : World} {zs : List PH} {hs : List Res} {w : World} {e : TypeId} {v : Value} {k : Nat} {xs : List (List UInt8 × List UInt8)} (h : St w0 zs (.row v e 2 k (xs.flatMap kvC) :: hs) w) (hm : k = xs.length) (hb : k ≤ 140737488355328) (hp : ∀ x ∈ xs, kvP x) : ∃ z, Sl encF z v xs ∧ St w0 (z :: zs) hs w := St.freezeK h hm hb hp
end Go.Fw
end

section
/-! strings in their order; sums that may wrap; the machine's compare of strings -/
namespace Go.Fw
section
variable {P : Program} {n : Nat} {w0 : World} {zs : List PH} {hs : List Res} {L : List (Nat × Value)} {d : Option Tmp} {ty t t' : TypeId} {pos : String} {af : Array Edge} {g : Option (Nat × Bool)} {x y : Operand} {u v : Value}
theorem q_ges [Dfs] {p q : List UInt8} (h1 : opv L x = some (vs p)) (h2 : opv L y = some (vs q)) : Qt P n w0 zs hs L ⟨d, .binOp .geq t x y t', ty, pos, af, g⟩ (.bool (!Op.bytesLess p q)) :=
  q_bin h1 h2 eqg_str fun w => by simp [binOp, Op.stringOp]
theorem q_les [Dfs] {p q : List UInt8} (h1 : opv L x = some (vs p)) (h2 : opv L y = some (vs q)) : Qt P n w0 zs hs L ⟨d, .binOp .leq t x y t', ty, pos, af, g⟩ (.bool (Op.bytesLess p q || decide (p = q))) :=
  q_bin h1 h2 eqg_str fun w => by
    have : (p == q) = decide (p = q) := by rw [Bool.eq_iff_iff]; simp
    simp [binOp, Op.stringOp, this]
/-- A sum that may wrap. -/
def wr (n : Int) : Int := IntKind.i64.wrap n
theorem wr_in {n : Int} (h : -9223372036854775808 ≤ n ∧ n ≤ 9223372036854775807) : wr n = n := IntWalk.i64_in _ h
theorem q_addiW [Dfs] {p q : Int} (h1 : opv L x = some (vi p)) (h2 : opv L y = some (vi q)) : Qt P n w0 zs hs L ⟨d, .binOp .add t x y t', ty, pos, af, g⟩ (vi (wr (p + q))) :=
  q_bin h1 h2 eqg_int fun w => by simp [binOp, Op.intArith, wr]
/-- The outside function behind strings.Compare. -/
theorem q_cmps [Dfs] {f : FuncId} {fn : Func} (hf : P.funcs[f]? = some fn) (hname : (fn.name == "runtime.NumGoroutine") = false) (hb : fn.body.isNone = true) (hn : Extern.findNext fn = none) (he : Extern.find fn = some Extern.BytealgCompare.compare) {ats : Array TypeId} {a b : List UInt8} (h1 : opv L x = some (vs a)) (h2 : opv L y = some (vs b)) :
    Qt P n w0 zs hs L ⟨d, .call ⟨.value (.func f), #[x, y], ats⟩, ty, pos, af, g⟩ (vi (Lib.compareBytes a b)) :=
  qt_of fun a9 ha w hw => by
    have hr := run_callFunc_extern hf hname hb hn he #[vs a, vs b] w
    have hrn := Lib.run_compareString (P := P) (w := w) ⟨a.toArray⟩ ⟨b.toArray⟩
    rw [show #[vs a, vs b] = #[.string ⟨a.toArray⟩, .string ⟨b.toArray⟩] from rfl, hrn] at hr
    simp only [execOp]
    simp only [resolve, Act.eval, Deferred.ofValue, invoke, Sem.run_bind, Sem.run_pure, Result.andThen_ok]
    have hev : (#[x, y].map a9.eval) = #[vs a, vs b] := by simp [ha.eval h1, ha.eval h2]
    rw [hev]
    exact hr
end
end Go.Fw
end

section
/-! own rows of wide elements: cut, one element left out, one cell written -/
namespace Go.Fw
section
variable {P : Program} {n : Nat} {w0 : World} {zs : List PH} {hs : List Res} {L : List (Nat × Value)} {d : Option Tmp} {ty t t' : TypeId} {pos : String} {af : Array Edge} {g : Option (Nat × Bool)} {x y : Operand} {u v : Value}
/-- A string of an array of two, in a slice. -/
theorem q_idx_F [Dfs] {z : PH} {xs : List (List UInt8 × List UInt8)} {e : TypeId} {s by_ : Nat} {zv : Value} (ht : Tf P t (.array 2 e) s by_ zv) {de : TypeDesc} {be : Nat} {ze : Value} (hte : Tf P e de 1 be ze) {k : Nat} {i : Int} {kk : IntKind} (hS : Sl encF z v xs) (h1 : opv L x = some (elemPtr v (k * 2))) (h2 : opv L y = some (.int kk i)) (hk : k < xs.length) (hb : 0 ≤ i ∧ i < (2 : Nat)) :
    Qt P n w0 zs hs L ⟨d, .indexAddr t x y, ty, pos, af, g⟩ (elemPtr v (k * 2 + i.toNat)) := by
  obtain ⟨b, off, e1, e2⟩ := elemPtr_add hS hk
  have := q_idx_arr (P := P) (n := n) (w0 := w0) (zs := zs) (hs := hs) (d := d) (ty := ty) (pos := pos) (af := af) (g := g) ht hte (h1.trans (congrArg some e1)) h2 hb
  rw [Nat.mul_one] at this
  have e3 : elemPtr v (k * 2 + i.toNat) = .pointer (some ⟨b, off + i.toNat, none⟩) := e2 i.toNat
  rw [e3]
  exact this
end
end Go.Fw
end

section
/-! arguments: slices of arrays of two strings; make of structs -/
namespace Go.Fw
open Go.ChangeShapes Go.WideShapes Go.ChangeAt Go.RowKit
section
variable {H : Type} {enc : TypeId × Value → H} {P : Program} {W : World} {t e : TypeId}
theorem rd_F2 (ht : P.underlying t = some (.array 2 e)) (he : P.underlying e = some .string) (hce : P.cellsOf e = 1) (hct : P.cellsOf t = 2) : Rd enc P W encF t := fun _ cs x h hw => by
  obtain ⟨xs, n, _, hxe, hl, hxl, hx⟩ := DataW.trod_array ht h
  subst hxe
  rw [hct] at hl
  rw [hce] at hx
  have h0 := hx 0 (by decide)
  have h1 := hx 1 (by decide)
  match xs, hxl with
  | [x1, x2], _ =>
    match cs, hl with
    | [a, b], _ =>
      have hw : ((DataW.agg [x1.1, x2.1]).weights P t).all (· ≤ reachBytes) = true := hw
      simp only [DataW.weights, ht, List.map_cons, List.map_nil, DataW.weightsAll, List.all_append, Bool.and_eq_true] at hw
      obtain ⟨hw1, hw2, _⟩ := hw
      obtain ⟨s1, e1, b1⟩ := rd_S (enc := enc) (W := W) he _ _ _ h0 hw1
      obtain ⟨s2, e2, b2⟩ := rd_S (enc := enc) (W := W) he _ _ _ h1 hw2
      obtain rfl : a = vs s1 := by simpa using e1
      obtain rfl : b = vs s2 := by simpa using e2
      exact ⟨(s1, s2), rfl, b1, b2⟩
end
section
variable {P : Program} {n : Nat} {w0 : World} {zs : List PH} {hs : List Res} {L : List (Nat × Value)} {d : Option Tmp} {ty t : TypeId} {pos : String} {af : Array Edge} {g : Option (Nat × Bool)} {x y : Operand} {v : Value}
theorem rep_get {c : List Value} {size m : Nat} (hc : c.length = size) (h0 : 0 < size) : ∀ j, j < m * size → ((List.replicate m c).flatten)[j]? = c[j % size]? := by
  induction m with
  | zero => intro j h; rw [Nat.zero_mul] at h; omega
  | succ m ih =>
    intro j h
    rw [List.replicate_succ, List.flatten_cons]
    rcases Nat.lt_or_ge j size with h1 | h1
    · rw [List.getElem?_append_left (by omega), Nat.mod_eq_of_lt h1]
    · rw [List.getElem?_append_right (by omega), hc, ih (j - size) (by rw [Nat.add_mul, Nat.one_mul] at h; omega), ← Nat.mod_eq_sub_mod h1]
/-- make([]T, m), of structs. -/
theorem ef_mksS [Dfs] {e : TypeId} {s by_ size : Nat} {zv : Value} (ht : Tf P t (.slice e) s by_ zv) {de : TypeDesc} {be : Nat} {zc : List Value} (hte : Tf P e de size be (.agg zc.toArray)) {m : Nat} (h1 : opv L x = some (vi (m : Int))) (h2 : opv L y = some (vi (m : Int))) (hb : be * m ≤ 140737488355328) (hm : m ≤ 140737488355328) (hz : zc.length = size) (hs0 : 0 < size) (h0 : 0 < m) :
    Ef P n w0 zs hs L ⟨d, .makeSlice t x y, ty, pos, af, g⟩ (fun v zs' hs' => zs' = zs ∧ hs' = .row v e size m (List.replicate m zc).flatten :: hs) :=
  ef_of fun a ha w hw => by
    have hlen : ((List.replicate m zc).flatten).length = m * size := by
      rw [List.length_flatten, List.map_replicate, hz]
      induction m with
      | zero => simp
      | succ k ih => simp
    have hst := hw.newRow e (List.replicate m zc).flatten size m m hlen (Nat.le_refl _) (by unfold maxLen; omega)
    rw [List.take_of_length_le (by omega)] at hst
    refine ⟨_, zs, _, _, .inl ?_, ⟨rfl, rfl⟩, hst⟩
    obtain ⟨i, hi, hi1, hi2, hi3⟩ := hte.tinfo w
    have hw1 : IntKind.i64.wrap (m : Int) = m := by
      simp [IntKind.wrap, IntKind.bits, IntKind.signed]
      omega
    have hbm : ((be : Int) * (m : Int)) = ((be * m : Nat) : Int) := by simp
    have hbig : ¬ ((m : Int) < 0 ∨ (i.bytes : Int) * m > 2 ^ 48) := by rw [hi2, hbm]; omega
    simp only [execOp, ha.eval h1, ha.eval h2]
    have hr : (Instr.makeSlice t (vi m) (vi m)).run P w = .ok (.slice (some ⟨w.heap.size, 0, none⟩) m m) { w with heap := w.heap.push (.cells (List.replicate m zc).flatten.toArray e (0, 0)) } := by
      unfold Instr.makeSlice
      rw [Sem.run_bind, run_underlying ht.und]
      simp only [Result.andThen_ok]
      have ha : (asIntOf (vi (m : Int))).run P w = .ok (.i64, (m : Int)) w := by simp [asIntOf, vi]
      simp only [asInt, Sem.run_bind, Sem.run_map, ha, Sem.run_pure, Result.andThen_ok, hi, hw1]
      have hroom : ¬ ((m : Int).toNat * i.bytes > roomBytes) := by
        rw [hi2, Int.toNat_natCast, Nat.mul_comm]
        unfold roomBytes
        omega
      have hd : (decide ((m : Int) < 0) || decide ((i.bytes : Int) * m > 2 ^ 48)) = false := by
        simpa using hbig
      have hd2 : ¬ ((m : Int) < 0) := by omega
      simp only [hd, hd2, Bool.false_eq_true, false_or, gt_iff_lt, Int.lt_irrefl, if_false, decide_false, Bool.false_or, or_self, if_neg, not_false_eq_true, Sem.run_bind, Sem.run_pure, Result.andThen_ok]
      unfold askRoom
      rw [if_neg hroom]
      simp only [Sem.run_bind, Sem.run_pure, Result.andThen_ok, hte.sizeOf, Int.toNat_natCast]
      have hlt : decide ((2 : Int) ^ 48 < (i.bytes : Int) * m) = false := by
        rw [decide_eq_false_iff_not]
        omega
      rw [if_neg (by rw [hlt]; decide)]
      simp only [Sem.run_bind, Sem.run_pure, Result.andThen_ok, hte.sizeOf]
      have hms : ¬ (m * size = 0) := Nat.ne_of_gt (Nat.mul_pos h0 hs0)
      rw [if_neg hms]
      simp only [Sem.run_bind, Sem.run_pure, hte.zero, Result.andThen_ok]
      have hcc : (Value.agg zc.toArray).cells = zc.toArray := rfl
      have hsz : zc.toArray.size = size := by simpa using hz
      rw [hcc, hsz]
      have e0 : Array.map (fun x => zc.toArray[x % size]!) (Array.range (m * size)) = (List.replicate m zc).flatten.toArray := by
        apply Array.ext'
        refine List.ext_getElem? fun j => ?_
        rcases Nat.lt_or_ge j (m * size) with h | h
        · rw [show ((List.replicate m zc).flatten.toArray).toList = (List.replicate m zc).flatten from rfl, rep_get hz hs0 j h]
          have hjm : j % size < zc.length := by rw [hz]; exact Nat.mod_lt _ hs0
          have h9 : j < (Array.map (fun x => zc.toArray[x % size]!) (Array.range (m * size))).toList.length := by simp; exact h
          rw [List.getElem?_eq_getElem h9, List.getElem?_eq_getElem hjm]
          simp [hjm]
        · rw [List.getElem?_eq_none (by simp; exact h), List.getElem?_eq_none (by simp [hlen]; omega)]
      rw [e0]
      simp [newRow]
    rw [Sem.run_bind, hr]
    rfl
end
end Go.Fw
end
