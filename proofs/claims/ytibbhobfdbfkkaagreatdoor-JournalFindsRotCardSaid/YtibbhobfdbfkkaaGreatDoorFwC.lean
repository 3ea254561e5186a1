/- A text of a proof over this seat: walks over the program's functions and the plain laws that they need. -/
import Derived.Test.YtibbhobfdbfkkaaGreatDoorFwB
import Derived.Deep.DeepAppendWide
set_option linter.all false
section
namespace Go.Fw
open Go Go.Sem
section
variable {P : Program} {n : Nat} {w0 : World} {zs : List PH} {hs : List Res} {L : List (Nat × Value)} {d : Option Tmp} {ty t : TypeId} {pos : String} {af : Array Edge} {g : Option (Nat × Bool)} {x y : Operand} {v : Value}
end
end Go.Fw
namespace Go.Fw
open Go Go.Sem
section
variable {P : Program} {w0 : World} {zs : List PH} {hs : List Res} {l : List Oper}
end
end Go.Fw
end

section
/-! maps that the call owns -/
namespace Go.Fw
open Go Go.Sem
/-- What a map holds. -/
def MpR {α : Type} (kf : α → Value) (l : List (α × Value)) (es : List MapEntry) : Prop := es.map (fun e => (e.key, e.val)) = l.map (fun p => (kf p.1, p.2))
def fnd {α : Type} [DecidableEq α] (a : α) : List (α × Value) → Nat → Option (Nat × Value)
  | [], _ => none
  | p :: l, i => if a = p.1 then some (i, p.2) else fnd a l (i + 1)
def aget {α : Type} [DecidableEq α] (l : List (α × Value)) (a : α) : Option Value := (fnd a l 0).map (·.2)
def aset {α : Type} [DecidableEq α] (a : α) (v : Value) : List (α × Value) → List (α × Value)
  | [] => [(a, v)]
  | p :: l => if a = p.1 then (a, v) :: l else p :: aset a v l
theorem fnd_shift {α : Type} [DecidableEq α] (a : α) : ∀ (l : List (α × Value)) (i : Nat), (fnd a l i).map (·.2) = (fnd a l 0).map (·.2)
  | [], _ => rfl
  | p :: l, i => by
    unfold fnd
    split
    · rfl
    · rw [fnd_shift a l (i + 1), fnd_shift a l (0 + 1)]
theorem aget_cons {α : Type} [DecidableEq α] (p : α × Value) (l : List (α × Value)) (a : α) : aget (p :: l) a = if a = p.1 then some p.2 else aget l a := by
  unfold aget
  rw [fnd]
  split
  · rfl
  · exact fnd_shift a l 1
theorem aget_aset {α : Type} [DecidableEq α] (a b : α) (v : Value) : ∀ l : List (α × Value), aget (aset a v l) b = if b = a then some v else aget l b
  | [] => by rw [aset, aget_cons]
  | p :: l => by
    rw [aset]
    split
    · rename_i h
      rw [aget_cons, aget_cons]
      by_cases hb : b = a
      · rw [if_pos hb, if_pos hb]
      · rw [if_neg hb, if_neg hb, if_neg (h ▸ hb)]
    · rename_i h
      rw [aget_cons, aget_cons, aget_aset a b v l]
      by_cases hb : b = a
      · subst hb; rw [if_neg h, if_pos rfl, if_pos rfl]
      · rw [if_neg hb, if_neg hb]
/-- A kind of keys. -/
structure KeyOk {α : Type} [DecidableEq α] (P : Program) (kt : TypeId) (kf : α → Value) (V : α → Prop) : Prop where
  chk : ∀ em a (w : World), V a → (Instr.checkKey em 10000 kt (kf a)).run P w = .ok () w
  find : ∀ a (w : World) l es, MpR kf l es → (∀ p ∈ l, V p.1) → V a → (Instr.findKey kt (kf a) es).run P w = .ok (fnd a l 0) w
  bits : ∀ a, Instr.sameBits 10000 (kf a) (kf a) = true
theorem key_I {P : Program} {kt : TypeId} {s b : Nat} {z : Value} (ht : Tf P kt (.int .i64) s b z) : KeyOk P kt vi (fun _ => True) where
  chk em a w _ := by
    unfold Instr.checkKey
    rw [Sem.run_bind, run_underlying ht.und]
    simp [vi]
  find a w l es hM _ _ := by
    have key : ∀ (l : List (Int × Value)) (es : List MapEntry) (i : Nat), MpR vi l es → Instr.findNow (.int .i64) (vi a) es i = some (fnd a l i) := by
      intro l
      induction l with
      | nil =>
        intro es i h
        have : es = [] := by unfold MpR at h; simpa using h
        subst this; rfl
      | cons p l ih =>
        intro es i h
        cases es with
        | nil => unfold MpR at h; simp at h
        | cons e es =>
          unfold MpR at h
          simp only [List.map_cons, List.cons.injEq, Prod.mk.injEq] at h
          obtain ⟨⟨h1, h2⟩, h3⟩ := h
          unfold Instr.findNow fnd
          rw [h1]
          have e1 : Instr.sameNow (.int .i64) (vi a) (vi p.1) = some (a == p.1) := rfl
          rw [e1]
          by_cases h4 : a = p.1
          · rw [if_pos h4, beq_iff_eq.2 h4, h2]
          · rw [if_neg h4, show (a == p.1) = false by simpa using h4]
            exact ih es (i + 1) h3
    unfold Instr.findKey
    rw [Sem.run_bind, run_underlying ht.und]
    simp only [Result.andThen_ok, key l es 0 hM]
    rfl
  bits a := by simp [Instr.sameBits, vi]
section
variable {P : Program} {n : Nat} {w0 : World} {zs : List PH} {hs : List Res} {L : List (Nat × Value)} {d : Option Tmp} {ty t : TypeId} {pos : String} {af : Array Edge} {g : Option (Nat × Bool)} {x y o3 : Operand} {u v : Value}
theorem ef_mkmap [Dfs] : Ef P n w0 zs hs L ⟨d, .makeMap t none, ty, pos, af, g⟩ (fun v zs' hs' => ∃ b, v = .map (some b) ∧ zs' = zs ∧ hs' = .mp b [] 0 :: hs) :=
  ef_of fun a ha w hw => by
    refine ⟨_, zs, _, { w with heap := w.heap.push (.map #[] 0) }, .inl ?_, ⟨w.heap.size, rfl, rfl, rfl⟩, ?_⟩
    · simp only [execOp]
      rfl
    · have hl : (ph w).le (ph { w with heap := w.heap.push (.map #[] 0) }) := fun b o hb => by
        have := ph_some hb
        simp only [ph] at hb ⊢
        rw [Array.getElem?_push, if_neg (by omega)]
        exact hb
      have h1 := hw.later hl ⟨rfl, rfl, rfl⟩
      refine ⟨h1.ext, h1.zone, fun r hr => ?_, ?_, h1.io⟩
      · rcases List.mem_cons.1 hr with rfl | hr
        · refine ⟨⟨le_size hw.ext, by simp⟩, fun b hb z hz => ?_⟩
          simp only [Res.id, Option.some.injEq] at hb
          subst hb
          cases hzb : z w.heap.size with
          | none => rfl
          | some o =>
            have := ph_some ((hw.zone z hz).1 _ o hzb)
            omega
        · exact h1.own r hr
      · rw [List.filterMap_cons]
        simp only [Res.id]
        refine List.nodup_cons.2 ⟨fun hm => ?_, h1.nd⟩
        obtain ⟨r, hr, hid⟩ := List.mem_filterMap.1 hm
        have := (Res.ok_ge (hw.own r hr).1 _ hid).2
        omega
variable {α : Type} [DecidableEq α] {kf : α → Value} {V : α → Prop} {kt e : TypeId}
theorem run_lookup {s by_ : Nat} {zv : Value} (ht : Tf P t (.map kt e) s by_ zv) {de : TypeDesc} {se be : Nat} {ze : Value} (hte : Tf P e de se be ze) (hK : KeyOk P kt kf V) {l : List (α × Value)} {es : List MapEntry} {c b : Nat} {w : World} (hb : w.heap[b]? = some (.map es.toArray c)) (hM : MpR kf l es) (hV : ∀ p ∈ l, V p.1) {a : α} (ha : V a) (ok : Bool) :
    (Instr.lookup t (.map (some b)) (kf a) ok).run P w = .ok (if ok then .tuple #[(aget l a).getD ze, .bool (aget l a).isSome] else (aget l a).getD ze) w := by
  unfold Instr.lookup
  rw [Sem.run_bind, run_underlying ht.und]
  simp only [Result.andThen_ok]
  have hg : (getObj b).run P w = .ok (.map es.toArray c) w := by simp [getObj, Sem.run, hb]
  simp only [Sem.run_bind, hg, Result.andThen_ok, Sem.run_pure, hK.chk _ _ _ ha, hK.find a w l es hM hV ha]
  unfold aget
  cases hf : fnd a l 0 with
  | none =>
    simp only [Sem.run_bind, hte.zero, Result.andThen_ok, Sem.run_pure]
    rfl
  | some p =>
    obtain ⟨i, v⟩ := p
    simp only [Sem.run_pure, Result.andThen_ok]
    rfl
theorem q_lookup [Dfs] {s by_ : Nat} {zv : Value} (ht : Tf P t (.map kt e) s by_ zv) {de : TypeDesc} {se be : Nat} {ze : Value} (hte : Tf P e de se be ze) (hK : KeyOk P kt kf V) (k : Nat) {l : List (α × Value)} {es : List MapEntry} {c b : Nat} (h1 : opv L x = some (.map (some b))) {a : α} (h2 : opv L y = some (kf a)) (hk : hs[k]? = some (.mp b es c)) (hM : MpR kf l es) (hV : ∀ p ∈ l, V p.1) (ha : V a) :
    Qt P n w0 zs hs L ⟨d, .lookup t x y false, ty, pos, af, g⟩ ((aget l a).getD ze) :=
  qt_of fun ac hac w hw => by
    have hb := (hw.own _ (List.mem_of_getElem? hk)).1.2
    have hr := run_lookup (P := P) (w := w) ht hte hK hb hM hV ha false
    simp only [execOp, hac.eval h1, hac.eval h2]
    rw [Sem.run_bind, hr]
    rfl
theorem q_lookupk [Dfs] {s by_ : Nat} {zv : Value} (ht : Tf P t (.map kt e) s by_ zv) {de : TypeDesc} {se be : Nat} {ze : Value} (hte : Tf P e de se be ze) (hK : KeyOk P kt kf V) (k : Nat) {l : List (α × Value)} {es : List MapEntry} {c b : Nat} (h1 : opv L x = some (.map (some b))) {a : α} (h2 : opv L y = some (kf a)) (hk : hs[k]? = some (.mp b es c)) (hM : MpR kf l es) (hV : ∀ p ∈ l, V p.1) (ha : V a) :
    Qt P n w0 zs hs L ⟨d, .lookup t x y true, ty, pos, af, g⟩ (.tuple [(aget l a).getD ze, .bool (aget l a).isSome].toArray) :=
  qt_of fun ac hac w hw => by
    have hb := (hw.own _ (List.mem_of_getElem? hk)).1.2
    have hr := run_lookup (P := P) (w := w) ht hte hK hb hM hV ha true
    simp only [execOp, hac.eval h1, hac.eval h2]
    rw [Sem.run_bind, hr]
    rfl
theorem fnd_ge {a : α} : ∀ {l : List (α × Value)} {i j : Nat} {v : Value}, fnd a l i = some (j, v) → i ≤ j
  | [], _, _, _, h => by cases h
  | p :: l, i, j, v, h => by
    unfold fnd at h
    split at h
    · simp only [Option.some.injEq, Prod.mk.injEq] at h; omega
    · have := fnd_ge h; omega
theorem mpR_none {a : α} {u : Value} {c : Nat} : ∀ {l : List (α × Value)} {es : List MapEntry} {i : Nat}, MpR kf l es → fnd a l i = none → MpR kf (aset a u l) (es ++ [(⟨kf a, u, c⟩ : MapEntry)])
  | [], es, _, h, _ => by
    have : es = [] := by unfold MpR at h; simpa using h
    subst this; rfl
  | p :: l, [], _, h, _ => by unfold MpR at h; simp at h
  | p :: l, e :: es, i, h, hf => by
    unfold MpR at h
    rw [List.map_cons, List.map_cons, List.cons.injEq] at h
    unfold fnd at hf
    split at hf
    · cases hf
    · rename_i hne
      have ih := mpR_none (u := u) (c := c) (show MpR kf l es from h.2) hf
      rw [aset, if_neg hne]
      unfold MpR at ih ⊢
      rw [List.cons_append, List.map_cons, List.map_cons, ih, h.1]
theorem mpR_some {a : α} {u : Value} : ∀ {l : List (α × Value)} {es : List MapEntry} {i j : Nat} {v : Value}, MpR kf l es → fnd a l i = some (j, v) → ∃ e, es[j - i]? = some e ∧ e.key = kf a ∧ MpR kf (aset a u l) (es.modify (j - i) fun e => { e with key := kf a, val := u })
  | [], _, _, _, _, _, hf => by cases hf
  | p :: l, [], _, _, _, h, _ => by unfold MpR at h; simp at h
  | p :: l, e :: es, i, j, v, h, hf => by
    unfold MpR at h
    rw [List.map_cons, List.map_cons, List.cons.injEq] at h
    obtain ⟨h1, h2⟩ := h
    simp only [Prod.mk.injEq] at h1
    unfold fnd at hf
    split at hf
    · rename_i he
      simp only [Option.some.injEq, Prod.mk.injEq] at hf
      obtain ⟨rfl, rfl⟩ := hf
      rw [Nat.sub_self]
      refine ⟨e, rfl, by rw [h1.1, he], ?_⟩
      rw [aset, if_pos he]
      unfold MpR
      simp [h2]
    · rename_i hne
      have hge := fnd_ge hf
      obtain ⟨e', h3, h4, h5⟩ := mpR_some (u := u) (show MpR kf l es from h2) hf
      obtain ⟨m, hm⟩ : ∃ m, j - i = m + 1 ∧ j - (i + 1) = m := ⟨j - (i + 1), by omega, rfl⟩
      rw [hm.1]
      rw [hm.2] at h3 h5
      refine ⟨e', by simpa using h3, h4, ?_⟩
      rw [aset, if_neg hne]
      unfold MpR at h5 ⊢
      rw [List.modify_succ_cons, List.map_cons, List.map_cons, h5, h1.1, h1.2]
theorem ef_mapset [Dfs] {s by_ : Nat} {zv : Value} (ht : Tf P t (.map kt e) s by_ zv) (hK : KeyOk P kt kf V) (k : Nat) {l : List (α × Value)} {es : List MapEntry} {c b : Nat} (h1 : opv L x = some (.map (some b))) {a : α} (h2 : opv L y = some (kf a)) (h3 : opv L o3 = some u) (hk : hs[k]? = some (.mp b es c)) (hM : MpR kf l es) (hV : ∀ p ∈ l, V p.1) (ha : V a) :
    Ef P n w0 zs hs L ⟨d, .mapUpdate t x y o3, ty, pos, af, g⟩ (fun v' zs' hs' => ∃ es' c', MpR kf (aset a u l) es' ∧ v' = undef ∧ zs' = zs ∧ hs' = hs.set k (.mp b es' c')) :=
  ef_of fun ac hac w hw => by
    have hb := (hw.own _ (List.mem_of_getElem? hk)).1
    have hg : ∀ w : World, w.heap[b]? = some (.map es.toArray c) → (getObj b).run P w = .ok (.map es.toArray c) w := fun w hb => by simp [getObj, Sem.run, hb]
    have hlt : b < w.heap.size := (Array.getElem?_eq_some_iff.1 hb.2).1
    have hset : ∀ (es' : List MapEntry) (c' : Nat), (setObj b (.map es'.toArray c')).run P w = .ok () { w with heap := w.heap.setIfInBounds b (.map es'.toArray c') } := fun es' c' => by simp [setObj, Sem.run, hb.2]
    have hst : ∀ (es' : List MapEntry) (c' : Nat), St w0 zs (hs.set k (.mp b es' c')) { w with heap := w.heap.setIfInBounds b (.map es'.toArray c') } := fun es' c' =>
      hw.set hk rfl (fun j hj => by
        have hne : b ≠ j := fun e => hj (by rw [e]; rfl)
        show (w.heap.setIfInBounds b _)[j]? = _
        rw [Array.getElem?_setIfInBounds, if_neg hne]) ⟨hb.1, by
        show (w.heap.setIfInBounds b _)[b]? = _
        rw [Array.getElem?_setIfInBounds, if_pos rfl, if_pos hlt]⟩ (by simp) ⟨rfl, rfl, rfl⟩
    have hfk := hK.find a w l es hM hV ha
    cases hf : fnd a l 0 with
    | none =>
      refine ⟨undef, zs, _, _, .inr ⟨?_, rfl⟩, ⟨es ++ [(⟨kf a, u, c⟩ : MapEntry)], c + 1, mpR_none hM hf, rfl, rfl, rfl⟩, hst _ _⟩
      simp only [execOp, hac.eval h1, hac.eval h2, hac.eval h3]
      have hr : (Instr.mapUpdate t (.map (some b)) (kf a) u).run P w = .ok () { w with heap := w.heap.setIfInBounds b (.map (es ++ [(⟨kf a, u, c⟩ : MapEntry)]).toArray (c + 1)) } := by
        unfold Instr.mapUpdate
        rw [Sem.run_bind, run_underlying ht.und]
        simp only [Result.andThen_ok, Sem.run_bind, hg w hb.2, hK.chk _ _ _ ha, hfk, hf]
        rw [← hset]
        simp
      rw [Sem.run_bind, hr]
      rfl
    | some p =>
      obtain ⟨j, v⟩ := p
      obtain ⟨e9, h5, h6, h7⟩ := mpR_some (u := u) hM hf
      rw [Nat.sub_zero] at h5 h7
      refine ⟨undef, zs, _, _, .inr ⟨?_, rfl⟩, ⟨_, c, h7, rfl, rfl, rfl⟩, hst _ _⟩
      simp only [execOp, hac.eval h1, hac.eval h2, hac.eval h3]
      have hr : (Instr.mapUpdate t (.map (some b)) (kf a) u).run P w = .ok () { w with heap := w.heap.setIfInBounds b (.map (es.modify j fun e => { e with key := kf a, val := u }).toArray c) } := by
        unfold Instr.mapUpdate
        rw [Sem.run_bind, run_underlying ht.und]
        simp only [Result.andThen_ok, Sem.run_bind, hg w hb.2, hK.chk _ _ _ ha, hfk, hf]
        have hks : ∀ w : World, (Instr.keyThatStays (kf a) (kf a)).run P w = .ok (kf a) w := fun w => by
          unfold Instr.keyThatStays
          rw [if_pos (hK.bits a)]
          rfl
        have e1 : ((es.toArray[j]?).map (·.key)).getD (kf a) = kf a := by
          rw [List.getElem?_toArray, h5]
          exact h6
        rw [e1, hks]
        simp only [Result.andThen_ok]
        rw [← hset]
        simp
      rw [Sem.run_bind, hr]
      rfl
end

/-! ### keys that are arrays of bytes -/
def abv (l : List UInt8) : Value := .agg (l.map vb).toArray
section
variable {P : Program}
end
end Go.Fw
end

section
namespace Go.Fw
open Go Go.Sem
theorem flat_map_get {m : Nat} {l : List (List UInt8)} (hl : ∀ x ∈ l, x.length = m) {i : Nat} {x : List UInt8} (hx : l[i]? = some x) {j : Nat} (hj : j < m) : (l.flatten.map vb)[i * m + j]? = (x.map vb)[j]? := by
  rw [List.getElem?_map, List.getElem?_map, flat_get hl hx j hj]
section
variable {P : Program} {n : Nat} {w0 : World} {zs : List PH} {hs : List Res} {L : List (Nat × Value)} {d : Option Tmp} {ty t : TypeId} {pos : String} {af : Array Edge} {g : Option (Nat × Bool)} {x y : Operand} {v : Value}
end
end Go.Fw
end

section
namespace Go.Fw
open Go Go.Sem
end Go.Fw
end

section
namespace Go.Fw
open Go Go.Sem
section
variable {P : Program}
end
section
variable {P : Program} {n : Nat} {w0 : World} {zs : List PH} {hs : List Res} {L : List (Nat × Value)} {d : Option Tmp} {ty t : TypeId} {pos : String} {af : Array Edge} {g : Option (Nat × Bool)} {x y : Operand} {u v : Value}
end
end Go.Fw
end

section
namespace Go.Fw
open Go.ChangeShapes Go.WideShapes Go.ChangeAt Go.RowKit
section
variable {H : Type} {enc : TypeId × Value → H} {P : Program} {W : World} {t : TypeId}
end
end Go.Fw
end

section
namespace Go.Fw
open Go Go.Sem
theorem cells_one {v : Value} (h : v.oneCell' = true) : v.cells = [v].toArray := by
  cases v <;> first | rfl | (simp [Value.oneCell'] at h)
theorem fill_step {pl : Nat → Option (Nat × Nat)} {cells : Array Value} {i off size : Nat} {v : Value} {rest : List (Nat × Value)} {c : List Value} {out : Option (Array Value)} (hp : pl i = some (off, size)) (hv : v.cells = c.toArray) (hs : c.length = size) (hb : off + c.length ≤ cells.size)
    (h : Instr.fill pl (c.toArray.zipIdx.foldl (fun cs (x : Value × Nat) => cs.setIfInBounds (off + x.2) x.1) cells) rest = out) : Instr.fill pl cells ((i, v) :: rest) = out := by
  rw [Instr.fill, hp]
  have h1 : v.cells.size = size := by rw [hv]; simpa using hs
  have h2 : ¬ (v.cells.size ≠ size ∨ off + v.cells.size > cells.size) := by rw [h1]; omega
  simp only [bne_iff_ne, ne_eq, Bool.or_eq_true, decide_eq_true_eq, gt_iff_lt] at h2 ⊢
  rw [if_neg h2, hv]
  exact h
end Go.Fw
namespace Go.Fw
open Go Go.Sem
theorem q_nilCheck [Dfs] {P : Program} {n : Nat} {w0 : World} {zs : List PH} {hs : List Res} {L : List (Nat × Value)} {d : Option Tmp} {ty : TypeId} {pos : String} {af : Array Edge} {g : Option (Nat × Bool)} {x : Operand} {a : Addr} (h : opv L x = some (.pointer (some a))) : Qt P n w0 zs hs L ⟨d, .nilCheck x, ty, pos, af, g⟩ (.pointer (some a)) :=
  qt_of fun ac ha w _ => by simp [execOp, ha.eval h]
end Go.Fw
namespace Go.Fw
open Go Go.Sem
theorem fold_set : ∀ (cs : List Value) (o j : Nat) (A : Array Value), o + j + cs.length ≤ A.size → (cs.zipIdx j).foldl (fun A x => A.setIfInBounds (o + x.2) x.1) A = (A.toList.take (o + j) ++ cs ++ A.toList.drop (o + j + cs.length)).toArray := by
  intro cs
  induction cs with
  | nil => intro o j A h; simp
  | cons c cs ih =>
    intro o j A h
    simp only [List.length_cons] at h
    rw [List.zipIdx_cons, List.foldl_cons, ih o (j + 1) _ (by simp; omega)]
    have hk : o + j < A.toList.length := by simp; omega
    simp only [Array.toList_setIfInBounds]
    congr 1
    rw [show o + (j + 1) = o + j + 1 by omega, List.take_succ_eq_append_getElem (by simpa using hk), List.take_set, List.getElem_set_self, List.set_eq_of_length_le (by simp; omega), List.drop_set_of_lt (by omega), List.length_cons]
    simp only [List.append_assoc, List.singleton_append]
    rw [show o + j + 1 + cs.length = o + j + (cs.length + 1) by omega]
theorem fill_stepL {pl : Nat → Option (Nat × Nat)} {l l' c : List Value} {i off size : Nat} {v : Value} {rest : List (Nat × Value)} {out : Option (Array Value)} (hp : pl i = some (off, size)) (hv : v.cells = c.toArray) (hs : c.length = size) (hb : off + size ≤ l.length)
    (hn : l.take off ++ c ++ l.drop (off + size) = l') (h : Instr.fill pl l'.toArray rest = out) : Instr.fill pl l.toArray ((i, v) :: rest) = out := by
  refine fill_step hp hv hs (by simpa using by omega) ?_
  have := fold_set c off 0 l.toArray (by simp; omega)
  simp only [Nat.add_zero, hs] at this
  have e : (c.toArray.zipIdx.foldl (fun cs (x : Value × Nat) => cs.setIfInBounds (off + x.2) x.1) l.toArray) = (c.zipIdx 0).foldl (fun A x => A.setIfInBounds (off + x.2) x.1) l.toArray := by simp
  rw [e, this, hn]
  exact h
theorem fill_endL {pl : Nat → Option (Nat × Nat)} {l out : List Value} (h : l = out) : Instr.fill pl l.toArray [] = some out.toArray := by rw [← h]; rfl
end Go.Fw
end

section
namespace Go.Fw
open Go Go.Sem
section
variable {P : Program} {n : Nat} {w0 : World} {zs : List PH} {hs : List Res} {L : List (Nat × Value)} {d : Option Tmp} {ty t : TypeId} {pos : String} {af : Array Edge} {g : Option (Nat × Bool)} {x y o3 : Operand} {u v : Value}
variable {α : Type} [DecidableEq α] {kf : α → Value} {V : α → Prop} {kt e : TypeId}
end
end Go.Fw
end

section
namespace Go.Fw
open Go Go.Sem
/-- Elements one by one. -/
def R2 {α : Type} (E : Enc α) (z : PH) : List (List Value) → List α → Prop
  | [], [] => True
  | c :: cs, x :: xs => E.rep z x c ∧ R2 E z cs xs
  | _, _ => False
theorem R2.get {α : Type} {E : Enc α} {z : PH} : ∀ {cs : List (List Value)} {xs : List α}, R2 E z cs xs → ∀ (i : Nat) (x : α), xs[i]? = some x → ∃ c, cs[i]? = some c ∧ E.rep z x c
  | [], [], _, i, x, hx => by simp at hx
  | v :: vs, y :: xs, h, 0, x, hx => by
    simp only [List.getElem?_cons_zero, Option.some.injEq] at hx
    subst hx
    exact ⟨v, rfl, h.1⟩
  | v :: vs, y :: xs, h, i + 1, x, hx => by
    simp only [List.getElem?_cons_succ] at hx ⊢
    exact R2.get h.2 i x hx
theorem R2.all {α : Type} {E : Enc α} {z : PH} : ∀ {cs : List (List Value)} {xs : List α}, R2 E z cs xs → ∀ c ∈ cs, c.length = E.size
  | [], [], _, c, hc => by cases hc
  | v :: vs, y :: xs, h, c, hc => by
    rcases List.mem_cons.1 hc with rfl | hc
    · exact E.len h.1
    · exact R2.all h.2 c hc
/-! ### queues as elements -/
def encQ : Enc (Int × List Int) where
  size := 2
  rep z x c := ∃ v, c = [vi x.1, v] ∧ (-9223372036854775808 ≤ x.1 ∧ x.1 ≤ 9223372036854775807) ∧ Sl encI z v x.2
  mono hz h := by obtain ⟨v, h1, h2, h3⟩ := h; exact ⟨v, h1, h2, h3.mono hz⟩
  len h := by obtain ⟨v, h1, _⟩ := h; rw [h1]; rfl
  one h u hu := by
    obtain ⟨v, h1, h2, h3⟩ := h
    rw [h1] at hu
    simp only [List.mem_cons, List.not_mem_nil, or_false] at hu
    rcases hu with rfl | rfl
    · rfl
    · exact sl_one' h3
def J10 [Dfs] {α0 α1 α2 α3 α4 α5 α6 α7 α8 α9 : Type} (n : Nat) (w0 : World) (F : α0 → α1 → α2 → α3 → α4 → α5 → α6 → α7 → α8 → α9 → Prop) (L : α0 → α1 → α2 → α3 → α4 → α5 → α6 → α7 → α8 → α9 → List (Nat × Value)) (Z : α0 → α1 → α2 → α3 → α4 → α5 → α6 → α7 → α8 → α9 → List PH) (H : α0 → α1 → α2 → α3 → α4 → α5 → α6 → α7 → α8 → α9 → List Res) : Act → World → Prop := fun a w => ∃ (x0 : α0) (x1 : α1) (x2 : α2) (x3 : α3) (x4 : α4) (x5 : α5) (x6 : α6) (x7 : α7) (x8 : α8) (x9 : α9), F x0 x1 x2 x3 x4 x5 x6 x7 x8 x9 ∧ Fr n (L x0 x1 x2 x3 x4 x5 x6 x7 x8 x9) a ∧ St w0 (Z x0 x1 x2 x3 x4 x5 x6 x7 x8 x9) (H x0 x1 x2 x3 x4 x5 x6 x7 x8 x9) w
def J11 [Dfs] {α0 α1 α2 α3 α4 α5 α6 α7 α8 α9 α10 : Type} (n : Nat) (w0 : World) (F : α0 → α1 → α2 → α3 → α4 → α5 → α6 → α7 → α8 → α9 → α10 → Prop) (L : α0 → α1 → α2 → α3 → α4 → α5 → α6 → α7 → α8 → α9 → α10 → List (Nat × Value)) (Z : α0 → α1 → α2 → α3 → α4 → α5 → α6 → α7 → α8 → α9 → α10 → List PH) (H : α0 → α1 → α2 → α3 → α4 → α5 → α6 → α7 → α8 → α9 → α10 → List Res) : Act → World → Prop := fun a w => ∃ (x0 : α0) (x1 : α1) (x2 : α2) (x3 : α3) (x4 : α4) (x5 : α5) (x6 : α6) (x7 : α7) (x8 : α8) (x9 : α9) (x10 : α10), F x0 x1 x2 x3 x4 x5 x6 x7 x8 x9 x10 ∧ Fr n (L x0 x1 x2 x3 x4 x5 x6 x7 x8 x9 x10) a ∧ St w0 (Z x0 x1 x2 x3 x4 x5 x6 x7 x8 x9 x10) (H x0 x1 x2 x3 x4 x5 x6 x7 x8 x9 x10) w
def J12 [Dfs] {α0 α1 α2 α3 α4 α5 α6 α7 α8 α9 α10 α11 : Type} (n : Nat) (w0 : World) (F : α0 → α1 → α2 → α3 → α4 → α5 → α6 → α7 → α8 → α9 → α10 → α11 → Prop) (L : α0 → α1 → α2 → α3 → α4 → α5 → α6 → α7 → α8 → α9 → α10 → α11 → List (Nat × Value)) (Z : α0 → α1 → α2 → α3 → α4 → α5 → α6 → α7 → α8 → α9 → α10 → α11 → List PH) (H : α0 → α1 → α2 → α3 → α4 → α5 → α6 → α7 → α8 → α9 → α10 → α11 → List Res) : Act → World → Prop := fun a w => ∃ (x0 : α0) (x1 : α1) (x2 : α2) (x3 : α3) (x4 : α4) (x5 : α5) (x6 : α6) (x7 : α7) (x8 : α8) (x9 : α9) (x10 : α10) (x11 : α11), F x0 x1 x2 x3 x4 x5 x6 x7 x8 x9 x10 x11 ∧ Fr n (L x0 x1 x2 x3 x4 x5 x6 x7 x8 x9 x10 x11) a ∧ St w0 (Z x0 x1 x2 x3 x4 x5 x6 x7 x8 x9 x10 x11) (H x0 x1 x2 x3 x4 x5 x6 x7 x8 x9 x10 x11) w
def J13 [Dfs] {α0 α1 α2 α3 α4 α5 α6 α7 α8 α9 α10 α11 α12 : Type} (n : Nat) (w0 : World) (F : α0 → α1 → α2 → α3 → α4 → α5 → α6 → α7 → α8 → α9 → α10 → α11 → α12 → Prop) (L : α0 → α1 → α2 → α3 → α4 → α5 → α6 → α7 → α8 → α9 → α10 → α11 → α12 → List (Nat × Value)) (Z : α0 → α1 → α2 → α3 → α4 → α5 → α6 → α7 → α8 → α9 → α10 → α11 → α12 → List PH) (H : α0 → α1 → α2 → α3 → α4 → α5 → α6 → α7 → α8 → α9 → α10 → α11 → α12 → List Res) : Act → World → Prop := fun a w => ∃ (x0 : α0) (x1 : α1) (x2 : α2) (x3 : α3) (x4 : α4) (x5 : α5) (x6 : α6) (x7 : α7) (x8 : α8) (x9 : α9) (x10 : α10) (x11 : α11) (x12 : α12), F x0 x1 x2 x3 x4 x5 x6 x7 x8 x9 x10 x11 x12 ∧ Fr n (L x0 x1 x2 x3 x4 x5 x6 x7 x8 x9 x10 x11 x12) a ∧ St w0 (Z x0 x1 x2 x3 x4 x5 x6 x7 x8 x9 x10 x11 x12) (H x0 x1 x2 x3 x4 x5 x6 x7 x8 x9 x10 x11 x12) w
def J14 [Dfs] {α0 α1 α2 α3 α4 α5 α6 α7 α8 α9 α10 α11 α12 α13 : Type} (n : Nat) (w0 : World) (F : α0 → α1 → α2 → α3 → α4 → α5 → α6 → α7 → α8 → α9 → α10 → α11 → α12 → α13 → Prop) (L : α0 → α1 → α2 → α3 → α4 → α5 → α6 → α7 → α8 → α9 → α10 → α11 → α12 → α13 → List (Nat × Value)) (Z : α0 → α1 → α2 → α3 → α4 → α5 → α6 → α7 → α8 → α9 → α10 → α11 → α12 → α13 → List PH) (H : α0 → α1 → α2 → α3 → α4 → α5 → α6 → α7 → α8 → α9 → α10 → α11 → α12 → α13 → List Res) : Act → World → Prop := fun a w => ∃ (x0 : α0) (x1 : α1) (x2 : α2) (x3 : α3) (x4 : α4) (x5 : α5) (x6 : α6) (x7 : α7) (x8 : α8) (x9 : α9) (x10 : α10) (x11 : α11) (x12 : α12) (x13 : α13), F x0 x1 x2 x3 x4 x5 x6 x7 x8 x9 x10 x11 x12 x13 ∧ Fr n (L x0 x1 x2 x3 x4 x5 x6 x7 x8 x9 x10 x11 x12 x13) a ∧ St w0 (Z x0 x1 x2 x3 x4 x5 x6 x7 x8 x9 x10 x11 x12 x13) (H x0 x1 x2 x3 x4 x5 x6 x7 x8 x9 x10 x11 x12 x13) w
end Go.Fw
end

section
namespace Go.Fw
open Go Go.Sem
section
variable {P : Program} {n : Nat} {w0 : World} {zs : List PH} {hs : List Res} {L : List (Nat × Value)} {d : Option Tmp} {ty t : TypeId} {pos : String} {af : Array Edge} {g : Option (Nat × Bool)} {x y : Operand} {u v : Value}
end
end Go.Fw
namespace Go.Fw
open Go.ChangeShapes Go.WideShapes Go.ChangeAt Go.RowKit
section
variable {H : Type} {enc : TypeId × Value → H} {P : Program} {W : World} {t e : TypeId}
end
end Go.Fw
namespace Go.Fw
open Go Go.Sem
end Go.Fw
end
