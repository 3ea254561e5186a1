/- A text of a proof over this seat: walks over the program's functions and the plain laws that they need. -/
import Derived.Test.YtdojfnigffeblaaDoorFwA
import Derived.Test.YtdojfnigffeblaaDoorFwB
import Derived.Deep.DeepAppendWide
set_option linter.all false
section
namespace Go.Fw
open Go Go.Sem
section
variable {P : Program} {n : Nat} {w0 : World} {zs : List PH} {hs : List Res} {L : List (Nat × Value)} {d : Option Tmp} {ty t : TypeId} {pos : String} {af : Array Edge} {g : Option (Nat × Bool)} {x y : Operand} {v : Value}
theorem q_build1 [Dfs] {fs : List Field} {s by_ : Nat} {zc : List Value} (ht : Tf P t (.struct fs.toArray) s by_ (.agg zc.toArray)) (m : Nat) (hp : (fs.mapM fun f => (P.info? f.type).map fun i => (f.offset, i.size)) = some ((List.range' 0 m).map fun i => (i, 1))) {i : Nat} (h1 : opv L x = some v) (ho : v.oneCell' = true) (hz : zc.length = m) (hi : i < m) :
  Qt P n w0 zs hs L ⟨d, .build t #[(i, x)], ty, pos, af, g⟩ (.agg (zc.set i v).toArray) :=
 q_buildP (vs := [v]) ht hp (by simp [opvs, h1]) (by
  have hc : v.cells = #[v] := by cases v <;> first | rfl | (simp [Value.oneCell'] at ho)
  have hg := places_get m i hi
  simp only [List.map_cons, List.map_nil, List.zip_cons_cons, List.zip_nil_left, Instr.fill, hg, hc]
  have : (Value.agg zc.toArray).cells = zc.toArray := rfl
  rw [this, if_neg (by simp; omega)]
  simp)
end
end Go.Fw
namespace Go.Fw
open Go Go.Sem
section
variable {P : Program} {w0 : World} {zs : List PH} {hs : List Res} {l : List Oper}
end
end Go.Fw
end

section
namespace Go.Fw
open Go Go.Sem
def MpR {α : Type} (kf : α → Value) (l : List (α × Value)) (es : List MapEntry) : Prop := es.map (fun e => (e.key, e.val)) = l.map (fun p => (kf p.1, p.2))
def fnd {α : Type} [DecidableEq α] (a : α) : List (α × Value) → Nat → Option (Nat × Value)
 | [], _ => none
 | p :: l, i => if a = p.1 then some (i, p.2) else fnd a l (i + 1)
def aget {α : Type} [DecidableEq α] (l : List (α × Value)) (a : α) : Option Value := (fnd a l 0).map (·.2)
def aset {α : Type} [DecidableEq α] (a : α) (v : Value) : List (α × Value) → List (α × Value)
 | [] => [(a, v)]
 | p :: l => if a = p.1 then (a, v) :: l else p :: aset a v l
structure KeyOk {α : Type} [DecidableEq α] (P : Program) (kt : TypeId) (kf : α → Value) (V : α → Prop) : Prop where
 chk : ∀ em a (w : World), V a → (Instr.checkKey em 10000 kt (kf a)).run P w = .ok () w
 find : ∀ a (w : World) l es, MpR kf l es → (∀ p ∈ l, V p.1) → V a → (Instr.findKey kt (kf a) es).run P w = .ok (fnd a l 0) w
 bits : ∀ a, Instr.sameBits 10000 (kf a) (kf a) = true
section
variable {P : Program} {n : Nat} {w0 : World} {zs : List PH} {hs : List Res} {L : List (Nat × Value)} {d : Option Tmp} {ty t : TypeId} {pos : String} {af : Array Edge} {g : Option (Nat × Bool)} {x y o3 : Operand} {u v : Value}
variable {α : Type} [DecidableEq α] {kf : α → Value} {V : α → Prop} {kt e : TypeId}
end
def abv (l : List UInt8) : Value := .agg (l.map vb).toArray
section
variable {P : Program}
end
end Go.Fw
end

section
namespace Go.Fw
open Go Go.Sem
theorem flat_map_get {m : Nat} {l : List (List UInt8)} (hl : ∀ x ∈ l, x.length = m) {i : Nat} {x : List UInt8} (hx : l[i]? = some x) {j : Nat} (hj : j < m) : (l.flatten.map vb)[i * m + j]? = (x.map vb)[j]? := by
 rw [List.getElem?_map, List.getElem?_map, flat_get hl hx j hj]
theorem St.freezeA {w0 : World} {zs : List PH} {hs : List Res} {w : World} {e : TypeId} {v : Value} {k m : Nat} {l : List (List UInt8)} (h : St w0 zs (.row v e m k (l.flatten.map vb) :: hs) w) (hm : k = l.length) (hb : k ≤ 140737488355328) (hl : ∀ x ∈ l, x.length = m) : ∃ z, Sl (encA m) z v l ∧ St w0 (z :: zs) hs w :=
 St.freeze (E := encA m) h (z' := fun _ => none) (.inl rfl) hm hb fun i x hx => ⟨x.map vb, ⟨hl x (List.mem_of_getElem? hx), rfl⟩, fun j u hu => by
  have hj : j < m := by have := (List.getElem?_eq_some_iff.1 hu).1; rw [List.length_map, hl x (List.mem_of_getElem? hx)] at this; exact this
  show (l.flatten.map vb)[i * m + j]? = some u
  rw [flat_map_get hl hx hj]
  exact hu⟩
section
variable {P : Program} {n : Nat} {w0 : World} {zs : List PH} {hs : List Res} {L : List (Nat × Value)} {d : Option Tmp} {ty t : TypeId} {pos : String} {af : Array Edge} {g : Option (Nat × Bool)} {x y : Operand} {v : Value}
end
end Go.Fw
end

section
namespace Go.Fw
open Go Go.Sem
section
variable {P : Program}
end
section
variable {P : Program} {n : Nat} {w0 : World} {zs : List PH} {hs : List Res} {L : List (Nat × Value)} {d : Option Tmp} {ty t : TypeId} {pos : String} {af : Array Edge} {g : Option (Nat × Bool)} {x y : Operand} {u v : Value}
end
end Go.Fw
end

section
namespace Go.Fw
open Go.ChangeShapes Go.WideShapes Go.ChangeAt Go.RowKit
section
variable {H : Type} {enc : TypeId × Value → H} {P : Program} {W : World} {t : TypeId}
end
end Go.Fw
end

section
namespace Go.Fw
open Go Go.Sem
theorem cells_one {v : Value} (h : v.oneCell' = true) : v.cells = [v].toArray := by
 cases v <;> first | rfl | (simp [Value.oneCell'] at h)
theorem fill_step {pl : Nat → Option (Nat × Nat)} {cells : Array Value} {i off size : Nat} {v : Value} {rest : List (Nat × Value)} {c : List Value} {out : Option (Array Value)} (hp : pl i = some (off, size)) (hv : v.cells = c.toArray) (hs : c.length = size) (hb : off + c.length ≤ cells.size)
  (h : Instr.fill pl (c.toArray.zipIdx.foldl (fun cs (x : Value × Nat) => cs.setIfInBounds (off + x.2) x.1) cells) rest = out) : Instr.fill pl cells ((i, v) :: rest) = out := by
 rw [Instr.fill, hp]
 have h1 : v.cells.size = size := by rw [hv]; simpa using hs
 have h2 : ¬ (v.cells.size ≠ size ∨ off + v.cells.size > cells.size) := by rw [h1]; omega
 simp only [bne_iff_ne, ne_eq, Bool.or_eq_true, decide_eq_true_eq, gt_iff_lt] at h2 ⊢
 rw [if_neg h2, hv]
 exact h
end Go.Fw
namespace Go.Fw
open Go Go.Sem
theorem q_nilCheck [Dfs] {P : Program} {n : Nat} {w0 : World} {zs : List PH} {hs : List Res} {L : List (Nat × Value)} {d : Option Tmp} {ty : TypeId} {pos : String} {af : Array Edge} {g : Option (Nat × Bool)} {x : Operand} {a : Addr} (h : opv L x = some (.pointer (some a))) : Qt P n w0 zs hs L ⟨d, .nilCheck x, ty, pos, af, g⟩ (.pointer (some a)) :=
 qt_of fun ac ha w _ => by simp [execOp, ha.eval h]
end Go.Fw
namespace Go.Fw
open Go Go.Sem
theorem fold_set : ∀ (cs : List Value) (o j : Nat) (A : Array Value), o + j + cs.length ≤ A.size → (cs.zipIdx j).foldl (fun A x => A.setIfInBounds (o + x.2) x.1) A = (A.toList.take (o + j) ++ cs ++ A.toList.drop (o + j + cs.length)).toArray := by
 intro cs
 induction cs with
 | nil => intro o j A h; simp
 | cons c cs ih =>
  intro o j A h
  simp only [List.length_cons] at h
  rw [List.zipIdx_cons, List.foldl_cons, ih o (j + 1) _ (by simp; omega)]
  have hk : o + j < A.toList.length := by simp; omega
  simp only [Array.toList_setIfInBounds]
  congr 1
  rw [show o + (j + 1) = o + j + 1 by omega, List.take_succ_eq_append_getElem (by simpa using hk), List.take_set, List.getElem_set_self, List.set_eq_of_length_le (by simp; omega), List.drop_set_of_lt omQ, List.length_cons]
  simp only [List.append_assoc, List.singleton_append]
  rw [show o + j + 1 + cs.length = o + j + (cs.length + 1) by omega]
theorem fill_stepL {pl : Nat → Option (Nat × Nat)} {l l' c : List Value} {i off size : Nat} {v : Value} {rest : List (Nat × Value)} {out : Option (Array Value)} (hp : pl i = some (off, size)) (hv : v.cells = c.toArray) (hs : c.length = size) (hb : off + size ≤ l.length)
  (hn : l.take off ++ c ++ l.drop (off + size) = l') (h : Instr.fill pl l'.toArray rest = out) : Instr.fill pl l.toArray ((i, v) :: rest) = out := by
 refine fill_step hp hv hs (by simpa using by omega) ?_
 have := fold_set c off 0 l.toArray (by simp; omega)
 simp only [Nat.add_zero, hs] at this
 have e : (c.toArray.zipIdx.foldl (fun cs (x : Value × Nat) => cs.setIfInBounds (off + x.2) x.1) l.toArray) = (c.zipIdx 0).foldl (fun A x => A.setIfInBounds (off + x.2) x.1) l.toArray := by simp
 rw [e, this, hn]
 exact h
theorem fill_endL {pl : Nat → Option (Nat × Nat)} {l out : List Value} (h : l = out) : Instr.fill pl l.toArray [] = some out.toArray := by rw [← h]; rfl
end Go.Fw
end

section
namespace Go.Fw
open Go Go.Sem
section
variable {P : Program} {n : Nat} {w0 : World} {zs : List PH} {hs : List Res} {L : List (Nat × Value)} {d : Option Tmp} {ty t : TypeId} {pos : String} {af : Array Edge} {g : Option (Nat × Bool)} {x y o3 : Operand} {u v : Value}
variable {α : Type} [DecidableEq α] {kf : α → Value} {V : α → Prop} {kt e : TypeId}
end
end Go.Fw
end

section
namespace Go.Fw
open Go Go.Sem
def R2 {α : Type} (E : Enc α) (z : PH) : List (List Value) → List α → Prop
 | [], [] => True
 | c :: cs, x :: xs => E.rep z x c ∧ R2 E z cs xs
 | _, _ => False
theorem R2.get {α : Type} {E : Enc α} {z : PH} : ∀ {cs : List (List Value)} {xs : List α}, R2 E z cs xs → ∀ (i : Nat) (x : α), xs[i]? = some x → ∃ c, cs[i]? = some c ∧ E.rep z x c
 | [], [], _, i, x, hx => by simp at hx
 | v :: vs, y :: xs, h, 0, x, hx => by
  simp only [List.getElem?_cons_zero, Option.some.injEq] at hx
  subst hx
  exact ⟨v, rfl, h.1⟩
 | v :: vs, y :: xs, h, i + 1, x, hx => by
  simp only [List.getElem?_cons_succ] at hx ⊢
  exact R2.get h.2 i x hx
theorem R2.all {α : Type} {E : Enc α} {z : PH} : ∀ {cs : List (List Value)} {xs : List α}, R2 E z cs xs → ∀ c ∈ cs, c.length = E.size
 | [], [], _, c, hc => by cases hc
 | v :: vs, y :: xs, h, c, hc => by
  rcases List.mem_cons.1 hc with rfl | hc
  ·exact E.len h.1
  ·exact R2.all h.2 c hc
theorem St.freezeE {α : Type} (E : Enc α) {w0 : World} {zs : List PH} {hs : List Res} {w : World} {e : TypeId} {v : Value} {k : Nat} {l : List (List Value)} (h : St w0 zs (.row v e E.size k l.flatten :: hs) w) {z' : PH} (hz' : z' ∈ zs) {xs : List α} (hm : k = xs.length) (hb : k ≤ 140737488355328) (hl : R2 E z' l xs) : ∃ z, Sl E z v xs ∧ St w0 (z :: zs) hs w :=
 St.freeze (E := E) h (.inr hz') hm hb fun i x hx => by
  obtain ⟨c, h1, h2⟩ := hl.get i x hx
  refine ⟨c, h2, fun j u hu => ?_⟩
  have hc := E.len h2
  have hj : j < E.size := by have := (List.getElem?_eq_some_iff.1 hu).1; rw [hc] at this; exact this
  rw [flat_get hl.all h1 j hj]
  exact hu
def encQ : Enc (Int × List Int) where
 size := 2
 rep z x c := ∃ v, c = [vi x.1, v] ∧ (-9223372036854775808 ≤ x.1 ∧ x.1 ≤ 9223372036854775807) ∧ Sl encI z v x.2
 mono hz h := by obtain ⟨v, h1, h2, h3⟩ := h; exact ⟨v, h1, h2, h3.mono hz⟩
 len h := by obtain ⟨v, h1, _⟩ := h; rw [h1]; rfl
 one h u hu := by
  obtain ⟨v, h1, h2, h3⟩ := h
  rw [h1] at hu
  simp only [List.mem_cons, List.not_mem_nil, or_false] at hu
  rcases hu with rfl | rfl
  ·rfl
  ·exact sl_one' h3
def J10 [Dfs] {α0 α1 α2 α3 α4 α5 α6 α7 α8 α9 : Type} (n : Nat) (w0 : World) (F : α0 → α1 → α2 → α3 → α4 → α5 → α6 → α7 → α8 → α9 → Prop) (L : α0 → α1 → α2 → α3 → α4 → α5 → α6 → α7 → α8 → α9 → List (Nat × Value)) (Z : α0 → α1 → α2 → α3 → α4 → α5 → α6 → α7 → α8 → α9 → List PH) (H : α0 → α1 → α2 → α3 → α4 → α5 → α6 → α7 → α8 → α9 → List Res) : Act → World → Prop := fun a w => ∃ (x0 : α0) (x1 : α1) (x2 : α2) (x3 : α3) (x4 : α4) (x5 : α5) (x6 : α6) (x7 : α7) (x8 : α8) (x9 : α9), F x0 x1 x2 x3 x4 x5 x6 x7 x8 x9 ∧ Fr n (L x0 x1 x2 x3 x4 x5 x6 x7 x8 x9) a ∧ St w0 (Z x0 x1 x2 x3 x4 x5 x6 x7 x8 x9) (H x0 x1 x2 x3 x4 x5 x6 x7 x8 x9) w
def J11 [Dfs] {α0 α1 α2 α3 α4 α5 α6 α7 α8 α9 α10 : Type} (n : Nat) (w0 : World) (F : α0 → α1 → α2 → α3 → α4 → α5 → α6 → α7 → α8 → α9 → α10 → Prop) (L : α0 → α1 → α2 → α3 → α4 → α5 → α6 → α7 → α8 → α9 → α10 → List (Nat × Value)) (Z : α0 → α1 → α2 → α3 → α4 → α5 → α6 → α7 → α8 → α9 → α10 → List PH) (H : α0 → α1 → α2 → α3 → α4 → α5 → α6 → α7 → α8 → α9 → α10 → List Res) : Act → World → Prop := fun a w => ∃ (x0 : α0) (x1 : α1) (x2 : α2) (x3 : α3) (x4 : α4) (x5 : α5) (x6 : α6) (x7 : α7) (x8 : α8) (x9 : α9) (x10 : α10), F x0 x1 x2 x3 x4 x5 x6 x7 x8 x9 x10 ∧ Fr n (L x0 x1 x2 x3 x4 x5 x6 x7 x8 x9 x10) a ∧ St w0 (Z x0 x1 x2 x3 x4 x5 x6 x7 x8 x9 x10) (H x0 x1 x2 x3 x4 x5 x6 x7 x8 x9 x10) w
def J12 [Dfs] {α0 α1 α2 α3 α4 α5 α6 α7 α8 α9 α10 α11 : Type} (n : Nat) (w0 : World) (F : α0 → α1 → α2 → α3 → α4 → α5 → α6 → α7 → α8 → α9 → α10 → α11 → Prop) (L : α0 → α1 → α2 → α3 → α4 → α5 → α6 → α7 → α8 → α9 → α10 → α11 → List (Nat × Value)) (Z : α0 → α1 → α2 → α3 → α4 → α5 → α6 → α7 → α8 → α9 → α10 → α11 → List PH) (H : α0 → α1 → α2 → α3 → α4 → α5 → α6 → α7 → α8 → α9 → α10 → α11 → List Res) : Act → World → Prop := fun a w => ∃ (x0 : α0) (x1 : α1) (x2 : α2) (x3 : α3) (x4 : α4) (x5 : α5) (x6 : α6) (x7 : α7) (x8 : α8) (x9 : α9) (x10 : α10) (x11 : α11), F x0 x1 x2 x3 x4 x5 x6 x7 x8 x9 x10 x11 ∧ Fr n (L x0 x1 x2 x3 x4 x5 x6 x7 x8 x9 x10 x11) a ∧ St w0 (Z x0 x1 x2 x3 x4 x5 x6 x7 x8 x9 x10 x11) (H x0 x1 x2 x3 x4 x5 x6 x7 x8 x9 x10 x11) w
def J13 [Dfs] {α0 α1 α2 α3 α4 α5 α6 α7 α8 α9 α10 α11 α12 : Type} (n : Nat) (w0 : World) (F : α0 → α1 → α2 → α3 → α4 → α5 → α6 → α7 → α8 → α9 → α10 → α11 → α12 → Prop) (L : α0 → α1 → α2 → α3 → α4 → α5 → α6 → α7 → α8 → α9 → α10 → α11 → α12 → List (Nat × Value)) (Z : α0 → α1 → α2 → α3 → α4 → α5 → α6 → α7 → α8 → α9 → α10 → α11 → α12 → List PH) (H : α0 → α1 → α2 → α3 → α4 → α5 → α6 → α7 → α8 → α9 → α10 → α11 → α12 → List Res) : Act → World → Prop := fun a w => ∃ (x0 : α0) (x1 : α1) (x2 : α2) (x3 : α3) (x4 : α4) (x5 : α5) (x6 : α6) (x7 : α7) (x8 : α8) (x9 : α9) (x10 : α10) (x11 : α11) (x12 : α12), F x0 x1 x2 x3 x4 x5 x6 x7 x8 x9 x10 x11 x12 ∧ Fr n (L x0 x1 x2 x3 x4 x5 x6 x7 x8 x9 x10 x11 x12) a ∧ St w0 (Z x0 x1 x2 x3 x4 x5 x6 x7 x8 x9 x10 x11 x12) (H x0 x1 x2 x3 x4 x5 x6 x7 x8 x9 x10 x11 x12) w
def J14 [Dfs] {α0 α1 α2 α3 α4 α5 α6 α7 α8 α9 α10 α11 α12 α13 : Type} (n : Nat) (w0 : World) (F : α0 → α1 → α2 → α3 → α4 → α5 → α6 → α7 → α8 → α9 → α10 → α11 → α12 → α13 → Prop) (L : α0 → α1 → α2 → α3 → α4 → α5 → α6 → α7 → α8 → α9 → α10 → α11 → α12 → α13 → List (Nat × Value)) (Z : α0 → α1 → α2 → α3 → α4 → α5 → α6 → α7 → α8 → α9 → α10 → α11 → α12 → α13 → List PH) (H : α0 → α1 → α2 → α3 → α4 → α5 → α6 → α7 → α8 → α9 → α10 → α11 → α12 → α13 → List Res) : Act → World → Prop := fun a w => ∃ (x0 : α0) (x1 : α1) (x2 : α2) (x3 : α3) (x4 : α4) (x5 : α5) (x6 : α6) (x7 : α7) (x8 : α8) (x9 : α9) (x10 : α10) (x11 : α11) (x12 : α12) (x13 : α13), F x0 x1 x2 x3 x4 x5 x6 x7 x8 x9 x10 x11 x12 x13 ∧ Fr n (L x0 x1 x2 x3 x4 x5 x6 x7 x8 x9 x10 x11 x12 x13) a ∧ St w0 (Z x0 x1 x2 x3 x4 x5 x6 x7 x8 x9 x10 x11 x12 x13) (H x0 x1 x2 x3 x4 x5 x6 x7 x8 x9 x10 x11 x12 x13) w
end Go.Fw
end

section
namespace Go.Fw
open Go Go.Sem
section
variable {P : Program} {n : Nat} {w0 : World} {zs : List PH} {hs : List Res} {L : List (Nat × Value)} {d : Option Tmp} {ty t : TypeId} {pos : String} {af : Array Edge} {g : Option (Nat × Bool)} {x y : Operand} {u v : Value}
end
end Go.Fw
namespace Go.Fw
open Go.ChangeShapes Go.WideShapes Go.ChangeAt Go.RowKit
section
variable {H : Type} {enc : TypeId × Value → H} {P : Program} {W : World} {t e : TypeId}
end
end Go.Fw
namespace Go.Fw
open Go Go.Sem
end Go.Fw
end
