/- A text of a proof over this seat: walks over the program's functions and the plain laws that they need. -/
import Derived.Test.YtcbjemjohacbpaaFwB
set_option linter.all false
section
namespace Go.Fw
open Go Go.Sem
section
variable {P : Program} {n : Nat} {w0 : World} {zs : List PH} {hs : List Res} {L : List (Nat × Value)} {d : Option Tmp} {ty t : TypeId} {pos : String} {af : Array Edge} {g : Option (Nat × Bool)} {x y : Operand} {v : Value}
end
end Go.Fw
namespace Go.Fw
open Go Go.Sem
section
variable {P : Program} {w0 : World} {zs : List PH} {hs : List Res} {l : List Oper}
end
end Go.Fw
end

section
/-! maps that the call owns -/
namespace Go.Fw
open Go Go.Sem
/-- What a map holds. -/
def MpR {α : Type} (kf : α → Value) (l : List (α × Value)) (es : List MapEntry) : Prop := es.map (fun e => (e.key, e.val)) = l.map (fun p => (kf p.1, p.2))
def fnd {α : Type} [DecidableEq α] (a : α) : List (α × Value) → Nat → Option (Nat × Value)
  | [], _ => none
  | p :: l, i => if a = p.1 then some (i, p.2) else fnd a l (i + 1)
def aget {α : Type} [DecidableEq α] (l : List (α × Value)) (a : α) : Option Value := (fnd a l 0).map (·.2)
def aset {α : Type} [DecidableEq α] (a : α) (v : Value) : List (α × Value) → List (α × Value)
  | [] => [(a, v)]
  | p :: l => if a = p.1 then (a, v) :: l else p :: aset a v l
theorem fnd_shift {α : Type} [DecidableEq α] (a : α) : ∀ (l : List (α × Value)) (i : Nat), (fnd a l i).map (·.2) = (fnd a l 0).map (·.2)
  | [], _ => rfl
  | p :: l, i => by
    unfold fnd
    split
    · rfl
    · rw [fnd_shift a l (i + 1), fnd_shift a l (0 + 1)]
theorem aget_cons {α : Type} [DecidableEq α] (p : α × Value) (l : List (α × Value)) (a : α) : aget (p :: l) a = if a = p.1 then some p.2 else aget l a := by
  unfold aget
  rw [fnd]
  split
  · rfl
  · exact fnd_shift a l 1
theorem aget_aset {α : Type} [DecidableEq α] (a b : α) (v : Value) : ∀ l : List (α × Value), aget (aset a v l) b = if b = a then some v else aget l b
  | [] => by rw [aset, aget_cons]
  | p :: l => by
    rw [aset]
    split
    · rename_i h
      rw [aget_cons, aget_cons]
      by_cases hb : b = a
      · rw [if_pos hb, if_pos hb]
      · rw [if_neg hb, if_neg hb, if_neg (h ▸ hb)]
    · rename_i h
      rw [aget_cons, aget_cons, aget_aset a b v l]
      by_cases hb : b = a
      · subst hb; rw [if_neg h, if_pos rfl, if_pos rfl]
      · rw [if_neg hb, if_neg hb]
/-- A kind of keys. -/
structure KeyOk {α : Type} [DecidableEq α] (P : Program) (kt : TypeId) (kf : α → Value) (V : α → Prop) : Prop where
  chk : ∀ em a (w : World), V a → (Instr.checkKey em 10000 kt (kf a)).run P w = .ok () w
  find : ∀ a (w : World) l es, MpR kf l es → (∀ p ∈ l, V p.1) → V a → (Instr.findKey kt (kf a) es).run P w = .ok (fnd a l 0) w
  bits : ∀ a, Instr.sameBits 10000 (kf a) (kf a) = true
section
variable {P : Program} {n : Nat} {w0 : World} {zs : List PH} {hs : List Res} {L : List (Nat × Value)} {d : Option Tmp} {ty t : TypeId} {pos : String} {af : Array Edge} {g : Option (Nat × Bool)} {x y o3 : Operand} {u v : Value}
theorem ef_mkmap : Ef P n w0 zs hs L ⟨d, .makeMap t none, ty, pos, af, g⟩ (fun v zs' hs' => ∃ b, v = .map (some b) ∧ zs' = zs ∧ hs' = .mp b [] 0 :: hs) :=
  ef_of fun a ha w hw => by
    refine ⟨_, zs, _, { w with heap := w.heap.push (.map #[] 0) }, .inl ?_, ⟨w.heap.size, rfl, rfl, rfl⟩, ?_⟩
    · simp only [execOp]
      rfl
    · have hl : (ph w).le (ph { w with heap := w.heap.push (.map #[] 0) }) := fun b o hb => by
        have := ph_some hb
        simp only [ph] at hb ⊢
        rw [Array.getElem?_push, if_neg (by omega)]
        exact hb
      have h1 := hw.later hl ⟨rfl, rfl, rfl⟩
      refine ⟨h1.ext, h1.zone, fun r hr => ?_, ?_, h1.io⟩
      · rcases List.mem_cons.1 hr with rfl | hr
        · refine ⟨⟨le_size hw.ext, by simp⟩, fun b hb z hz => ?_⟩
          simp only [Res.id, Option.some.injEq] at hb
          subst hb
          cases hzb : z w.heap.size with
          | none => rfl
          | some o =>
            have := ph_some ((hw.zone z hz).1 _ o hzb)
            omega
        · exact h1.own r hr
      · rw [List.filterMap_cons]
        simp only [Res.id]
        refine List.nodup_cons.2 ⟨fun hm => ?_, h1.nd⟩
        obtain ⟨r, hr, hid⟩ := List.mem_filterMap.1 hm
        have := (Res.ok_ge (hw.own r hr).1 _ hid).2
        omega
variable {α : Type} [DecidableEq α] {kf : α → Value} {V : α → Prop} {kt e : TypeId}
theorem run_lookup {s by_ : Nat} {zv : Value} (ht : Tf P t (.map kt e) s by_ zv) {de : TypeDesc} {se be : Nat} {ze : Value} (hte : Tf P e de se be ze) (hK : KeyOk P kt kf V) {l : List (α × Value)} {es : List MapEntry} {c b : Nat} {w : World} (hb : w.heap[b]? = some (.map es.toArray c)) (hM : MpR kf l es) (hV : ∀ p ∈ l, V p.1) {a : α} (ha : V a) (ok : Bool) :
    (Instr.lookup t (.map (some b)) (kf a) ok).run P w = .ok (if ok then .tuple #[(aget l a).getD ze, .bool (aget l a).isSome] else (aget l a).getD ze) w := by
  unfold Instr.lookup
  rw [Sem.run_bind, run_underlying ht.und]
  simp only [Result.andThen_ok]
  have hg : (getObj b).run P w = .ok (.map es.toArray c) w := by simp [getObj, Sem.run, hb]
  simp only [Sem.run_bind, hg, Result.andThen_ok, Sem.run_pure, hK.chk _ _ _ ha, hK.find a w l es hM hV ha]
  unfold aget
  cases hf : fnd a l 0 with
  | none =>
    simp only [Sem.run_bind, hte.zero, Result.andThen_ok, Sem.run_pure]
    rfl
  | some p =>
    obtain ⟨i, v⟩ := p
    simp only [Sem.run_pure, Result.andThen_ok]
    rfl
theorem q_lookup {s by_ : Nat} {zv : Value} (ht : Tf P t (.map kt e) s by_ zv) {de : TypeDesc} {se be : Nat} {ze : Value} (hte : Tf P e de se be ze) (hK : KeyOk P kt kf V) (k : Nat) {l : List (α × Value)} {es : List MapEntry} {c b : Nat} (h1 : opv L x = some (.map (some b))) {a : α} (h2 : opv L y = some (kf a)) (hk : hs[k]? = some (.mp b es c)) (hM : MpR kf l es) (hV : ∀ p ∈ l, V p.1) (ha : V a) :
    Qt P n w0 zs hs L ⟨d, .lookup t x y false, ty, pos, af, g⟩ ((aget l a).getD ze) :=
  qt_of fun ac hac w hw => by
    have hb := (hw.own _ (List.mem_of_getElem? hk)).1.2
    have hr := run_lookup (P := P) (w := w) ht hte hK hb hM hV ha false
    simp only [execOp, hac.eval h1, hac.eval h2]
    rw [Sem.run_bind, hr]
    rfl
theorem q_lookupk {s by_ : Nat} {zv : Value} (ht : Tf P t (.map kt e) s by_ zv) {de : TypeDesc} {se be : Nat} {ze : Value} (hte : Tf P e de se be ze) (hK : KeyOk P kt kf V) (k : Nat) {l : List (α × Value)} {es : List MapEntry} {c b : Nat} (h1 : opv L x = some (.map (some b))) {a : α} (h2 : opv L y = some (kf a)) (hk : hs[k]? = some (.mp b es c)) (hM : MpR kf l es) (hV : ∀ p ∈ l, V p.1) (ha : V a) :
    Qt P n w0 zs hs L ⟨d, .lookup t x y true, ty, pos, af, g⟩ (.tuple [(aget l a).getD ze, .bool (aget l a).isSome].toArray) :=
  qt_of fun ac hac w hw => by
    have hb := (hw.own _ (List.mem_of_getElem? hk)).1.2
    have hr := run_lookup (P := P) (w := w) ht hte hK hb hM hV ha true
    simp only [execOp, hac.eval h1, hac.eval h2]
    rw [Sem.run_bind, hr]
    rfl
theorem fnd_ge {a : α} : ∀ {l : List (α × Value)} {i j : Nat} {v : Value}, fnd a l i = some (j, v) → i ≤ j
  | [], _, _, _, h => by cases h
  | p :: l, i, j, v, h => by
    unfold fnd at h
    split at h
    · simp only [Option.some.injEq, Prod.mk.injEq] at h; omega
    · have := fnd_ge h; omega
theorem mpR_none {a : α} {u : Value} {c : Nat} : ∀ {l : List (α × Value)} {es : List MapEntry} {i : Nat}, MpR kf l es → fnd a l i = none → MpR kf (aset a u l) (es ++ [(⟨kf a, u, c⟩ : MapEntry)])
  | [], es, _, h, _ => by
    have : es = [] := by unfold MpR at h; simpa using h
    subst this; rfl
  | p :: l, [], _, h, _ => by unfold MpR at h; simp at h
  | p :: l, e :: es, i, h, hf => by
    unfold MpR at h
    rw [List.map_cons, List.map_cons, List.cons.injEq] at h
    unfold fnd at hf
    split at hf
    · cases hf
    · rename_i hne
      have ih := mpR_none (u := u) (c := c) (show MpR kf l es from h.2) hf
      rw [aset, if_neg hne]
      unfold MpR at ih ⊢
      rw [List.cons_append, List.map_cons, List.map_cons, ih, h.1]
theorem mpR_some {a : α} {u : Value} : ∀ {l : List (α × Value)} {es : List MapEntry} {i j : Nat} {v : Value}, MpR kf l es → fnd a l i = some (j, v) → ∃ e, es[j - i]? = some e ∧ e.key = kf a ∧ MpR kf (aset a u l) (es.modify (j - i) fun e => { e with key := kf a, val := u })
  | [], _, _, _, _, _, hf => by cases hf
  | p :: l, [], _, _, _, h, _ => by unfold MpR at h; simp at h
  | p :: l, e :: es, i, j, v, h, hf => by
    unfold MpR at h
    rw [List.map_cons, List.map_cons, List.cons.injEq] at h
    obtain ⟨h1, h2⟩ := h
    simp only [Prod.mk.injEq] at h1
    unfold fnd at hf
    split at hf
    · rename_i he
      simp only [Option.some.injEq, Prod.mk.injEq] at hf
      obtain ⟨rfl, rfl⟩ := hf
      rw [Nat.sub_self]
      refine ⟨e, rfl, by rw [h1.1, he], ?_⟩
      rw [aset, if_pos he]
      unfold MpR
      simp [h2]
    · rename_i hne
      have hge := fnd_ge hf
      obtain ⟨e', h3, h4, h5⟩ := mpR_some (u := u) (show MpR kf l es from h2) hf
      obtain ⟨m, hm⟩ : ∃ m, j - i = m + 1 ∧ j - (i + 1) = m := ⟨j - (i + 1), by omega, rfl⟩
      rw [hm.1]
      rw [hm.2] at h3 h5
      refine ⟨e', by simpa using h3, h4, ?_⟩
      rw [aset, if_neg hne]
      unfold MpR at h5 ⊢
      rw [List.modify_succ_cons, List.map_cons, List.map_cons, h5, h1.1, h1.2]
theorem ef_mapset {s by_ : Nat} {zv : Value} (ht : Tf P t (.map kt e) s by_ zv) (hK : KeyOk P kt kf V) (k : Nat) {l : List (α × Value)} {es : List MapEntry} {c b : Nat} (h1 : opv L x = some (.map (some b))) {a : α} (h2 : opv L y = some (kf a)) (h3 : opv L o3 = some u) (hk : hs[k]? = some (.mp b es c)) (hM : MpR kf l es) (hV : ∀ p ∈ l, V p.1) (ha : V a) :
    Ef P n w0 zs hs L ⟨d, .mapUpdate t x y o3, ty, pos, af, g⟩ (fun v' zs' hs' => ∃ es' c', MpR kf (aset a u l) es' ∧ v' = undef ∧ zs' = zs ∧ hs' = hs.set k (.mp b es' c')) :=
  ef_of fun ac hac w hw => by
    have hb := (hw.own _ (List.mem_of_getElem? hk)).1
    have hg : ∀ w : World, w.heap[b]? = some (.map es.toArray c) → (getObj b).run P w = .ok (.map es.toArray c) w := fun w hb => by simp [getObj, Sem.run, hb]
    have hlt : b < w.heap.size := (Array.getElem?_eq_some_iff.1 hb.2).1
    have hset : ∀ (es' : List MapEntry) (c' : Nat), (setObj b (.map es'.toArray c')).run P w = .ok () { w with heap := w.heap.setIfInBounds b (.map es'.toArray c') } := fun es' c' => by simp [setObj, Sem.run, hb.2]
    have hst : ∀ (es' : List MapEntry) (c' : Nat), St w0 zs (hs.set k (.mp b es' c')) { w with heap := w.heap.setIfInBounds b (.map es'.toArray c') } := fun es' c' =>
      hw.set hk rfl (fun j hj => by
        have hne : b ≠ j := fun e => hj (by rw [e]; rfl)
        show (w.heap.setIfInBounds b _)[j]? = _
        rw [Array.getElem?_setIfInBounds, if_neg hne]) ⟨hb.1, by
        show (w.heap.setIfInBounds b _)[b]? = _
        rw [Array.getElem?_setIfInBounds, if_pos rfl, if_pos hlt]⟩ (by simp) ⟨rfl, rfl, rfl⟩
    have hfk := hK.find a w l es hM hV ha
    cases hf : fnd a l 0 with
    | none =>
      refine ⟨undef, zs, _, _, .inr ⟨?_, rfl⟩, ⟨es ++ [(⟨kf a, u, c⟩ : MapEntry)], c + 1, mpR_none hM hf, rfl, rfl, rfl⟩, hst _ _⟩
      simp only [execOp, hac.eval h1, hac.eval h2, hac.eval h3]
      have hr : (Instr.mapUpdate t (.map (some b)) (kf a) u).run P w = .ok () { w with heap := w.heap.setIfInBounds b (.map (es ++ [(⟨kf a, u, c⟩ : MapEntry)]).toArray (c + 1)) } := by
        unfold Instr.mapUpdate
        rw [Sem.run_bind, run_underlying ht.und]
        simp only [Result.andThen_ok, Sem.run_bind, hg w hb.2, hK.chk _ _ _ ha, hfk, hf]
        rw [← hset]
        simp
      rw [Sem.run_bind, hr]
      rfl
    | some p =>
      obtain ⟨j, v⟩ := p
      obtain ⟨e9, h5, h6, h7⟩ := mpR_some (u := u) hM hf
      rw [Nat.sub_zero] at h5 h7
      refine ⟨undef, zs, _, _, .inr ⟨?_, rfl⟩, ⟨_, c, h7, rfl, rfl, rfl⟩, hst _ _⟩
      simp only [execOp, hac.eval h1, hac.eval h2, hac.eval h3]
      have hr : (Instr.mapUpdate t (.map (some b)) (kf a) u).run P w = .ok () { w with heap := w.heap.setIfInBounds b (.map (es.modify j fun e => { e with key := kf a, val := u }).toArray c) } := by
        unfold Instr.mapUpdate
        rw [Sem.run_bind, run_underlying ht.und]
        simp only [Result.andThen_ok, Sem.run_bind, hg w hb.2, hK.chk _ _ _ ha, hfk, hf]
        have hks : ∀ w : World, (Instr.keyThatStays (kf a) (kf a)).run P w = .ok (kf a) w := fun w => by
          unfold Instr.keyThatStays
          rw [if_pos (hK.bits a)]
          rfl
        have e1 : ((es.toArray[j]?).map (·.key)).getD (kf a) = kf a := by
          rw [List.getElem?_toArray, h5]
          exact h6
        rw [e1, hks]
        simp only [Result.andThen_ok]
        rw [← hset]
        simp
      rw [Sem.run_bind, hr]
      rfl
end

/-! ### keys that are arrays of bytes -/
def abv (l : List UInt8) : Value := .agg (l.map vb).toArray
section
variable {P : Program}
theorem run_chk_u8 {e : TypeId} {be : Nat} {ze : Value} (hte : Tf P e (.int .u8) 1 be ze) (em : Bool) (k : Nat) (b : UInt8) (w : World) : (Instr.checkKey em (k + 1) e (vb b)).run P w = .ok () w := by
  unfold Instr.checkKey
  rw [Sem.run_bind, run_underlying hte.und]
  simp [vb]
theorem run_for_yield (g : Nat → PUnit → Sem (ForInStep PUnit)) (w : World) : ∀ (l : List Nat), (∀ i ∈ l, (g i PUnit.unit).run P w = .ok (.yield PUnit.unit) w) → (forIn l PUnit.unit g).run P w = .ok PUnit.unit w
  | [], _ => by simp
  | i :: l, h => by
    rw [List.forIn_cons]
    simp only [Sem.run_bind, h i (by simp), Result.andThen_ok]
    exact run_for_yield g w l fun j hj => h j (by simp [hj])
theorem key_AB {kt e : TypeId} {s by_ m : Nat} {zv : Value} (ht : Tf P kt (.array m e) s by_ zv) {be : Nat} {ze : Value} (hte : Tf P e (.int .u8) 1 be ze) : KeyOk P kt abv (fun l => l.length = m) where
  chk em a w ha := by
    unfold Instr.checkKey
    rw [Sem.run_bind, run_underlying ht.und]
    simp only [Result.andThen_ok, abv, Std.Legacy.Range.forIn_eq_forIn_range', Sem.run_bind]
    rw [run_for_yield]
    · simp
    · intro i hi
      have hi' : i < a.length := by
        rw [List.mem_range'_1] at hi
        have : i < m := by simpa [Std.Legacy.Range.size] using hi
        omega
      have pt : (part e (a.map vb).toArray (i * 1)).run P w = .ok (vb (a.getD i 0)) w := by
        unfold part
        rw [Sem.run_bind, hte.isAgg]
        simp [aggD, hi']
      simp only [Sem.run_bind, hte.sizeOf, Result.andThen_ok, pt, run_chk_u8 hte em 9998 _ w]
      simp
  find a w l es hM hV ha := by
    have hcells : P.cellsOf e = 1 := by
      cases hi : P.info? e with
      | none => have := hte.inf; simp [hi] at this
      | some i => have := hte.inf; simp [hi] at this; simp [Program.cellsOf, hi, this.1]
    have heq : ∀ b : List UInt8, b.length = m → (Op.equal kt (abv a) (abv b)).run P w = .ok (decide (a = b)) w := fun b hb => by
      cases hi : P.info? e with
      | none => have := hte.inf; simp [hi] at this
      | some i =>
        unfold Op.equal abv
        rw [show Op.maxDepth = 9999 + 1 from rfl, run_equalIn_array w 9999 _ _ ht.und hi, hcells, run_items_b hte 9998 a b w _ (fun j hj => by rw [List.mem_range] at hj; omega)]
        congr 1
        rw [Bool.eq_iff_iff]
        simp only [decide_eq_true_eq, List.mem_range]
        constructor
        · intro h
          apply List.ext_getElem (by omega)
          intro j hj1 hj2
          have := h j (by omega)
          rwa [List.getD_eq_getElem?_getD, List.getD_eq_getElem?_getD, List.getElem?_eq_getElem hj1, List.getElem?_eq_getElem hj2] at this
        · intro h j _; rw [h]
    have key : ∀ (l : List (List UInt8 × Value)) (es : List MapEntry) (i : Nat), MpR abv l es → (∀ p ∈ l, p.1.length = m) → (Instr.findAsking kt (abv a) es i).run P w = .ok (fnd a l i) w := by
      intro l
      induction l with
      | nil =>
        intro es i h _
        have : es = [] := by unfold MpR at h; simpa using h
        subst this; rfl
      | cons p l ih =>
        intro es i h hv
        cases es with
        | nil => unfold MpR at h; simp at h
        | cons e' es =>
          unfold MpR at h
          simp only [List.map_cons, List.cons.injEq, Prod.mk.injEq] at h
          obtain ⟨⟨h1, h2⟩, h3⟩ := h
          unfold Instr.findAsking fnd
          rw [Sem.run_bind, h1, heq _ (hv p (by simp))]
          simp only [Result.andThen_ok]
          by_cases h4 : a = p.1
          · rw [if_pos h4, if_pos (decide_eq_true h4), h2]
            rfl
          · rw [if_neg h4, if_neg (by simpa using h4)]
            exact ih es (i + 1) h3 fun q hq => hv q (by simp [hq])
    unfold Instr.findKey
    rw [Sem.run_bind, run_underlying ht.und]
    simp only [Result.andThen_ok]
    cases es with
    | nil =>
      have : l = [] := by unfold MpR at hM; cases l with | nil => rfl | cons _ _ => simp at hM
      subst this
      rfl
    | cons e' es =>
      have : Instr.findNow (.array m e) (abv a) (e' :: es) 0 = none := by
        unfold Instr.findNow
        rfl
      rw [this]
      exact key l _ 0 hM hV
  bits a := by
    have key : ∀ (l : List UInt8), ((l.map vb).zip (l.map vb)).all (fun x => Instr.sameBits 9999 x.1 x.2) = true := by
      intro l
      induction l with
      | nil => rfl
      | cons b l ih => simp only [List.map_cons, List.zip_cons_cons, List.all_cons, ih, Bool.and_true]; simp [Instr.sameBits, vb]
    unfold abv
    show ((_ == _) && _) = true
    simp only [beq_self_eq_true, Bool.true_and]
    exact key a
end
end Go.Fw
end

section
namespace Go.Fw
open Go Go.Sem
theorem flat_map_get {m : Nat} {l : List (List UInt8)} (hl : ∀ x ∈ l, x.length = m) {i : Nat} {x : List UInt8} (hx : l[i]? = some x) {j : Nat} (hj : j < m) : (l.flatten.map vb)[i * m + j]? = (x.map vb)[j]? := by
  rw [List.getElem?_map, List.getElem?_map, flat_get hl hx j hj]
theorem St.freezeA {w0 : World} {zs : List PH} {hs : List Res} {w : World} {e : TypeId} {v : Value} {k m : Nat} {l : List (List UInt8)} (h : St w0 zs (.row v e m k (l.flatten.map vb) :: hs) w) (hm : k = l.length) (hb : k ≤ 140737488355328) (hl : ∀ x ∈ l, x.length = m) : ∃ z, Sl (encA m) z v l ∧ St w0 (z :: zs) hs w :=
  St.freeze (E := encA m) h (z' := fun _ => none) (.inl rfl) hm hb fun i x hx => ⟨x.map vb, ⟨hl x (List.mem_of_getElem? hx), rfl⟩, fun j u hu => by
    have hj : j < m := by have := (List.getElem?_eq_some_iff.1 hu).1; rw [List.length_map, hl x (List.mem_of_getElem? hx)] at this; exact this
    show (l.flatten.map vb)[i * m + j]? = some u
    rw [flat_map_get hl hx hj]
    exact hu⟩
section
variable {P : Program} {n : Nat} {w0 : World} {zs : List PH} {hs : List Res} {L : List (Nat × Value)} {d : Option Tmp} {ty t : TypeId} {pos : String} {af : Array Edge} {g : Option (Nat × Bool)} {x y : Operand} {v : Value}
/-- m[k], known. -/
theorem q_lookup1 {α : Type} [DecidableEq α] {kf : α → Value} {V : α → Prop} {kt e : TypeId} {s by_ : Nat} {zv : Value} (ht : Tf P t (.map kt e) s by_ zv) {de : TypeDesc} {se be : Nat} {ze : Value} (hte : Tf P e de se be ze) (hK : KeyOk P kt kf V) (k : Nat) {l : List (α × Value)} {es : List MapEntry} {c b : Nat} (h1 : opv L x = some (.map (some b))) {a : α} (h2 : opv L y = some (kf a)) (hk : hs[k]? = some (.mp b es c)) (hM : MpR kf l es) (hV : ∀ p ∈ l, V p.1) (ha : V a) {u : Value} (hu : aget l a = some u) :
    Qt P n w0 zs hs L ⟨d, .lookup t x y false, ty, pos, af, g⟩ u := by
  have := q_lookup (P := P) (n := n) (w0 := w0) (zs := zs) (d := d) (ty := ty) (pos := pos) (af := af) (g := g) ht hte hK k h1 h2 hk hM hV ha
  rwa [hu] at this
end
end Go.Fw
end

section
namespace Go.Fw
open Go Go.Sem
theorem slrow_one {base : Nat} {w : World} {v : Value} {e : TypeId} {s m : Nat} {cs : List Value} (h : (Res.row v e s m cs).ok base w) {k i j : Nat} : (slV v k i j).oneCell' = true := by
  rcases h.2 with ⟨rfl, _⟩ | ⟨b, cap, cur, rfl, _⟩
  · rfl
  · unfold slV
    rfl
end Go.Fw
end

section
namespace Go.Fw
open Go Go.Sem
theorem own_slA {base : Nat} {w : World} {e : TypeId} {v : Value} {m k : Nat} {l : List (List UInt8)} (h : (Res.row v e m k (l.flatten.map vb)).ok base w) (hl : ∀ x ∈ l, x.length = m) (hm : k = l.length) (hb : k ≤ 140737488355328) : Sl (encA m) (ph w) v l :=
  own_sl (E := encA m) h hm hb fun i x hx => ⟨x.map vb, ⟨hl x (List.mem_of_getElem? hx), rfl⟩, fun j u hu => by
    have hj : j < m := by have := (List.getElem?_eq_some_iff.1 hu).1; rw [List.length_map, hl x (List.mem_of_getElem? hx)] at this; exact this
    show (l.flatten.map vb)[i * m + j]? = some u
    rw [flat_map_get hl hx hj]
    exact hu⟩
section
variable {P : Program}
/-- append to a row that is kept. -/
theorem run_append_keep {ty t : TypeId} {u v : Value} {base : Nat} {w : World} {e : TypeId} {de : TypeDesc} {size by_ st bt : Nat} {zv zt : Value} (hte : Tf P e de size by_ zv) (ht : Tf P t (.slice e) st bt zt) (hzs : zv.cells.size = size) (h0 : 0 < size) {m k : Nat} {xs news : List Value} {tx : TypeId} (hown : w.ownsRow base e size v m xs) (hsrc : Src P size tx u k news w)
    (hb : (m + k) * by_ ≤ 140737488355328) (h63 : m + k ≤ 140737488355328) :
    ∃ ad c w', (Builtin.append_ #[t, tx] ty #[v, u]).run P w = .ok (.slice ad (m + k) c) w' ∧ w'.ownsRow base e size v m xs ∧ w.grownBy w' v.ownBlock := by
  obtain ⟨i, hi, rfl, rfl, hz⟩ := hte.info
  have hml : m + k ≤ maxLen := by unfold maxLen; omega
  have grown : ∀ (cs : Array Value), w.grownBy (w.drew.alloc (.cells cs e)) v.ownBlock ∧ (w.drew.alloc (.cells cs e)).ownsRow base e i.size v m xs := by
    intro cs
    refine ⟨⟨rfl, rfl, rfl, by simp, fun q hq _ => heap_alloc_old _ _ hq⟩, hown.1, ?_⟩
    rcases hown.2 with h | ⟨b, cap, cur, hv, hbg, hg, rest⟩
    · exact .inl h
    · exact .inr ⟨b, cap, cur, hv, hbg, (heap_alloc_old _ _ (Array.getElem?_eq_some_iff.1 hg).1).trans hg, rest⟩
  rcases hown.2 with ⟨rfl, rfl⟩ | ⟨b, cap, cur, rfl, hbg, hg, hnc, hcm, hcs, htake⟩
  · have hx : xs = [] := List.eq_nil_of_length_eq_zero (by simpa using hown.1)
    subst hx
    by_cases hm : k = 0
    · subst hm
      have hn : news = [] := List.eq_nil_of_length_eq_zero (by simpa using hsrc.newsLen)
      subst hn
      refine ⟨none, 0, w, ?_, World.ownsRow_nil w base e i.size, ⟨rfl, rfl, rfl, Nat.le_refl _, fun _ _ _ => rfl⟩⟩
      rcases hsrc.kind with ⟨e', hk⟩ | hk <;> simp [Builtin.append_, run_underlying ht.und, run_underlying hk, sizeOf, typeInfo, hi, hsrc.len, hsrc.cells]
    · have hr := run_append_grow_src (P := P) w t tx ty e i zv ht.und hi hz none 0 0 [] (run_firstCells_none w.drew i.size 0 0 0) u k news hsrc (by omega) (by omega) (by have := growslice_fits (bytes := i.bytes) (need := 0 + k) (old := 0) (by omega) hb; exact this)
      exact ⟨_, _, _, hr, (grown _).2, (grown _).1⟩
  · by_cases hroom : m + k ≤ cap
    · have hfit : m * i.size + news.length ≤ cur.size := by rw [hsrc.newsLen, hcs, ← Nat.add_mul]; exact Nat.mul_le_mul_right _ hroom
      have hr : (Builtin.append_ #[t, tx] ty #[.slice (some ⟨b, 0, none⟩) m cap, u]).run P w =
          .ok (.slice (some ⟨b, 0, none⟩) (m + k) cap) (w.setRow b (cur.toList.take (m * i.size) ++ news ++ cur.toList.drop (m * i.size + news.length)).toArray) := by
        have hst := run_storeCells_at P b (m * i.size) e news 0 cur w hg (by simpa using hfit) hsrc.one
        simp only [Nat.add_zero] at hst
        rcases hsrc.kind with ⟨e', hk⟩ | hk <;> simp [Builtin.append_, run_underlying ht.und, run_underlying hk, sizeOf, typeInfo, hi, hsrc.len, hroom, hsrc.cells, Addr.add_lit, hst]
      have hsz : cur.toList.length = cur.size := by simp
      refine ⟨_, _, _, hr, ⟨hown.1, .inr ⟨b, cap, _, rfl, hbg, setRow_heap w b cur _ e _ hg, hnc, hcm, ?_, ?_⟩⟩, ⟨rfl, rfl, rfl, by simp, fun k _ hk => setRow_other w b k _ (fun e => hk (by simp [Value.ownBlock, e]))⟩⟩
      · simp only [List.size_toArray, List.length_append, List.length_take, List.length_drop, Array.length_toList]
        omega
      · have hlt : (cur.toList.take (m * i.size)).length = m * i.size := by rw [List.length_take]; omega
        show List.take (m * i.size) (cur.toList.take (m * i.size) ++ news ++ cur.toList.drop (m * i.size + news.length)) = xs
        rw [List.append_assoc, List.take_append_of_le_length (by omega), List.take_of_length_le (by omega), htake]
    · have holds : ∀ j u, xs[j]? = some u → w.cell? ((⟨b, 0, none⟩ : Addr).add j) = some u := hown.cells (g := b) rfl
      have hold := run_firstCells_some (P := P) w.drew i.size m ⟨b, 0, none⟩ m cap xs hown.1 (by simpa using holds)
      have hr := run_append_grow_src (P := P) w t tx ty e i zv ht.und hi hz (some ⟨b, 0, none⟩) m cap xs hold u k news hsrc (by omega) (by omega) (growslice_fits (by omega) hb)
      exact ⟨_, _, _, hr, (grown _).2, (grown _).1⟩
end
section
variable {P : Program} {n : Nat} {w0 : World} {zs : List PH} {hs : List Res} {L : List (Nat × Value)} {d : Option Tmp} {ty t : TypeId} {pos : String} {af : Array Edge} {g : Option (Nat × Bool)} {x y : Operand} {u v : Value}
theorem St.appendKeep {w w' : World} (h : St w0 zs hs w) {q : Nat} {e : TypeId} {size m : Nat} {xs : List Value} (hk : hs[q]? = some (.row v e size m xs)) (hg : w.grownBy w' v.ownBlock) (ho : w'.ownsRow w0.heap.size e size v m xs) : St w0 zs hs w' := by
  have := h.append hk hg ho (fun b hb => .inl hb)
  obtain ⟨h1, h2⟩ := List.getElem?_eq_some_iff.1 hk
  rwa [← h2, List.set_getElem_self] at this
theorem ef_append_keep {e : TypeId} {de : TypeDesc} {size by_ st bt : Nat} {zv zt : Value} (ht : Tf P t (.slice e) st bt zt) (hte : Tf P e de size by_ zv) (q : Nat) {m k : Nat} {xs news : List Value} {tx : TypeId} (h1 : opv L x = some v) (h2 : opv L y = some u) (hk : hs[q]? = some (.row v e size m xs)) (hsrc : SrcOk P w0 zs hs size tx u k news)
    (hb : (m + k) * by_ ≤ 140737488355328 ∧ m + k ≤ 140737488355328) (hzs : zv.cells.size = size) (h0 : 0 < size) :
    Ef P n w0 zs hs L ⟨d, .call ⟨.builtin .append, #[x, y], #[t, tx]⟩, ty, pos, af, g⟩ (fun v' zs' hs' => ∃ ad c, v' = .slice ad (m + k) c ∧ zs' = zs ∧ hs' = hs) :=
  ef_of fun a ha w hw => by
    have hown := (hw.own _ (List.mem_of_getElem? hk)).1
    obtain ⟨ad, c, w', hr, ho, hg⟩ := run_append_keep (ty := ty) hte ht hzs h0 hown (hsrc w hw) hb.1 hb.2
    refine ⟨_, zs, _, w', .inl ?_, ⟨ad, c, rfl, rfl, rfl⟩, hw.appendKeep hk hg ho⟩
    simp only [execOp]
    simp [resolve, invoke, builtin, ha.eval h1, ha.eval h2, hr]
/-- A proof out of an own row. -/
theorem q_ld_rowP {e' : TypeId} {m : Nat} {dd : TypeDesc} {by_ : Nat} {zv : Value} (ht : Tf P t dd 3 by_ zv) (k : Nat) (l : List (List Value)) (j : Nat) {sv fv bv : Value} (hk : hs[k]? = some (.row v e' 3 m l.flatten)) (hl : ∀ x ∈ l, x.length = 3) (h1 : opv L x = some (elemPtr v (j * 3))) (hj : j < l.length) (hd : aggD dd = true) (hc : l.getD j [] = [sv, fv, bv]) :
    Qt P n w0 zs hs L ⟨d, .load t x, ty, pos, af, g⟩ (.agg [sv, fv, bv].toArray) := by
  have := q_ld_rowC (P := P) (n := n) (w0 := w0) (zs := zs) (d := d) (ty := ty) (pos := pos) (af := af) (g := g) ht k l j hk hl h1 hj (by decide) hd
  rwa [hc] at this
end
/-- Two ways meet, whose zones vary. -/
theorem wp_cutz {P : Program} {n : Nat} {w0 : World} {cx cy : Code} {Q : Exit → Act → World → Prop} {a : Act} {w : World} {γ : Type} (zsf : γ → List PH) (Lm : γ → List (Nat × Value)) (Lk : List (Nat × Value)) (hsf : γ → List Res) (fact : γ → Prop) {zs : List PH} {hs : List Res} (hk : Fr n Lk a) (hS : St w0 zs hs w)
    (hx : cx.wp P (Exit.then (fun a w => ∃ g, fact g ∧ Fr n (Lm g ++ Lk) a ∧ St w0 (zsf g) (hsf g) w) Q) a w)
    (hy : ∀ g a w, fact g → Fr n (Lm g ++ Lk) a → St w0 (zsf g) (hsf g) w → cy.wp P Q a w) : (Code.seq cx cy).wp P Q a w :=
  wp_cut _ hx fun _ _ ⟨g, h1, h2, h3⟩ => hy g _ _ h1 h2 h3
theorem St.dupz {w0 : World} {zs : List PH} {hs : List Res} {w : World} (h : St w0 zs hs w) {z : PH} (hz : z ∈ zs) : St w0 (z :: zs) hs w :=
  ⟨h.ext, fun z' h' => by rcases List.mem_cons.1 h' with rfl | h'; exact h.zone _ hz; exact h.zone _ h', fun r hr => ⟨(h.own r hr).1, fun b hb z' h' => by rcases List.mem_cons.1 h' with rfl | h'; exact (h.own r hr).2 b hb _ hz; exact (h.own r hr).2 b hb _ h'⟩, h.nd, h.io⟩
/-- One of four proofs. -/
theorem pickP {zu z0 : PH} {a1 b1 c1 a2 b2 c2 a3 b3 c3 a4 b4 c4 : Value} {S1 F1 S2 F2 S3 F3 S4 F4 : List Int} {B1 B2 B3 B4 : List Bool}
    (h1 : Sl encI zu a1 S1) (h2 : Sl encI zu b1 F1) (h3 : Sl encT zu c1 B1) (h4 : Sl encI zu a2 S2) (h5 : Sl encI zu b2 F2) (h6 : Sl encT zu c2 B2)
    (h7 : Sl encI zu a3 S3) (h8 : Sl encI zu b3 F3) (h9 : Sl encT zu c3 B3) (h10 : Sl encI z0 a4 S4) (h11 : Sl encI z0 b4 F4) (h12 : Sl encT z0 c4 B4) {k : Nat} (hk : k < 4) :
    ∃ (z : PH) (sv fv bv : Value) (S F : List Int) (B : List Bool), (z = z0 ∨ z = zu) ∧ List.getD [[a1, b1, c1], [a2, b2, c2], [a3, b3, c3], [a4, b4, c4]] k [] = [sv, fv, bv] ∧ Sl encI z sv S ∧ Sl encI z fv F ∧ Sl encT z bv B := by
  have : k = 0 ∨ k = 1 ∨ k = 2 ∨ k = 3 := by omega
  rcases this with rfl | rfl | rfl | rfl
  · exact ⟨zu, _, _, _, _, _, _, .inr rfl, rfl, h1, h2, h3⟩
  · exact ⟨zu, _, _, _, _, _, _, .inr rfl, rfl, h4, h5, h6⟩
  · exact ⟨zu, _, _, _, _, _, _, .inr rfl, rfl, h7, h8, h9⟩
  · exact ⟨z0, _, _, _, _, _, _, .inl rfl, rfl, h10, h11, h12⟩
/-- One of three lists. -/
theorem pickK {zu z0 : PH} {a b c : Value} {A B C : List Int} (h1 : Sl encI zu a A) (h2 : Sl encI zu b B) (h3 : Sl encI z0 c C) {k : Nat} (hk : k < 3) : ∃ z ms, (z = z0 ∨ z = zu) ∧ Sl encI z (List.getD [a, b, c] k undef) ms := by
  have : k = 0 ∨ k = 1 ∨ k = 2 := by omega
  rcases this with rfl | rfl | rfl
  · exact ⟨zu, A, .inr rfl, h1⟩
  · exact ⟨zu, B, .inr rfl, h2⟩
  · exact ⟨z0, C, .inl rfl, h3⟩
end Go.Fw
end

section
namespace Go.Fw
open Go.ChangeShapes Go.WideShapes Go.ChangeAt Go.RowKit
section
variable {H : Type} {enc : TypeId × Value → H} {P : Program} {W : World} {t : TypeId}
/-- A struct of three slices. -/
theorem arg_st3 {α β γ : Type} {A : Enc α} {B : Enc β} {C : Enc γ} {f1 f2 f3 : Field} {base : Nat} {v : Value} {d : DataW H} {p : List MemPlace} (ht : P.underlying t = some (.struct #[f1, f2, f3])) (ho : f1.offset = 0 ∧ f2.offset = 1 ∧ f3.offset = 2) (hc : P.cellsOf t = 3) (hc1 : P.cellsOf f1.type = 1) (hc2 : P.cellsOf f2.type = 1) (hc3 : P.cellsOf f3.type = 1)
    (h1 : Rd enc P W (encSl A) f1.type) (h2 : Rd enc P W (encSl B) f2.type) (h3 : Rd enc P W (encSl C) f3.type) (hv : Value.okWide P W .any base t v) (h : DataW.Trod enc P W 0 (fun _ => true) true t v d p) (hw : (d.weights P t).all (· ≤ reachBytes) = true) :
    ∃ a b c xs ys zs, v = .agg [a, b, c].toArray ∧ Sl A (ph W) a xs ∧ Sl B (ph W) b ys ∧ Sl C (ph W) c zs := by
  have : ∃ cs, v = .agg cs := by
    unfold Value.okWide at hv
    rw [ht] at hv
    obtain ⟨cs, rfl, _⟩ := hv
    exact ⟨cs, rfl⟩
  obtain ⟨cs, rfl⟩ := this
  obtain ⟨fuel, hf⟩ := h
  obtain ⟨xs, n, _, hx, hl, hxl, hg⟩ := DataW.trod_struct ht hf
  obtain ⟨rfl, rfl⟩ := Prod.mk.inj hx
  rw [hc] at hl
  have g1 := hg 0 f1 rfl
  have g2 := hg 1 f2 rfl
  have g3 := hg 2 f3 rfl
  rw [ho.1, hc1] at g1
  rw [ho.2.1, hc2] at g2
  rw [ho.2.2, hc3] at g3
  match xs, hxl with
  | [x1, x2, x3], _ =>
    have hcl : (Value.agg cs).cells.toList = cs.toList := rfl
    rw [hcl] at hl g1 g2 g3
    match hcs : cs.toList, hl with
    | [a, b, c], _ =>
      rw [hcs] at g1 g2 g3
      simp only [DataW.weights, ht, List.map_cons, List.map_nil, DataW.weightsEach, List.all_append, Bool.and_eq_true] at hw
      obtain ⟨hw1, hw2, hw3, _⟩ := hw
      obtain ⟨ys1, v1, e1, s1⟩ := h1 _ _ _ g1 hw1
      obtain ⟨ys2, v2, e2, s2⟩ := h2 _ _ _ g2 hw2
      obtain ⟨ys3, v3, e3, s3⟩ := h3 _ _ _ g3 hw3
      obtain rfl : a = v1 := by simpa using e1
      obtain rfl : b = v2 := by simpa using e2
      obtain rfl : c = v3 := by simpa using e3
      refine ⟨a, b, c, ys1, ys2, ys3, ?_, s1, s2, s3⟩
      rw [← hcs]
end
end Go.Fw
end
