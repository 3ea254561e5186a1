/- Frames and heaps told by relations: a framework for walks over Go code. -/
import Derived.WalkKit
set_option linter.all false
namespace Go.Fw

/-! ### frames: a list of the slots that matter -/
def look : List (Nat × Value) → Nat → Option Value
  | [], _ => none
  | (s, v) :: r, t => bif Nat.beq s t then some v else look r t

structure Fr (n : Nat) (L : List (Nat × Value)) (a : Act) : Prop where
  size : a.tmps.size = n
  nodef : a.defers = []
  get : ∀ t v, look L t = some v → a.tmps[t]? = some v

def opv (L : List (Nat × Value)) : Operand → Option Value
  | .tmp t => look L t
  | .const v => some v
  | .global g => some (.pointer (some ⟨g, 0, none⟩))
  | .func f => some (.func (.func f) #[] #[])

theorem Fr.eval {n L a} (h : Fr n L a) {o : Operand} {v : Value} (ho : opv L o = some v) : a.eval o = v := by
  cases o with
  | tmp t =>
    have := h.get t v ho
    simp [Act.eval, Array.getD_eq_getD_getElem?, this]
  | const v' => simpa [opv, Act.eval] using ho
  | global g => simpa [opv, Act.eval] using ho
  | func f => simpa [opv, Act.eval] using ho

theorem Fr.put {n L a} (h : Fr n L a) {d : Nat} {v : Value} (hd : d < n) : Fr n ((d, v) :: L) (a.put (some d) v) := by
  refine ⟨by simp [Act.put, h.size], h.nodef, fun t u hu => ?_⟩
  simp only [Act.put]
  unfold look at hu
  cases hb : Nat.beq d t with
  | true =>
    have : d = t := Nat.eq_of_beq_eq_true hb
    subst this
    simp only [hb, cond_true, Option.some.injEq] at hu
    subst hu
    simp [h.size, hd]
  | false =>
    have hne : d ≠ t := Nat.ne_of_beq_eq_false hb
    simp only [hb, cond_false] at hu
    rw [Array.getElem?_setIfInBounds_ne hne]
    exact h.get t u hu

theorem Fr.put_none {n L a} (h : Fr n L a) {v : Value} : Fr n L (a.put none v) := h

/-- Every entry of L' stands in L. -/
def subL (L : List (Nat × Value)) : List (Nat × Value) → Prop
  | [] => True
  | (t, v) :: r => look L t = some v ∧ subL L r

theorem Fr.sub {n L a} (h : Fr n L a) : ∀ {L'}, subL L L' → Fr n L' a
  | [], _ => ⟨h.size, h.nodef, fun t v hv => by simp [look] at hv⟩
  | (s, u) :: r, ⟨h1, h2⟩ => by
    refine ⟨h.size, h.nodef, fun t v hv => ?_⟩
    unfold look at hv
    cases hb : Nat.beq s t with
    | true =>
      have : s = t := Nat.eq_of_beq_eq_true hb
      subst this
      simp only [hb, cond_true, Option.some.injEq] at hv
      subst hv
      exact h.get _ _ h1
    | false =>
      simp only [hb, cond_false] at hv
      exact (h.sub h2).get t v hv

/-- The frame at a call's begin. -/
def enterL : Nat → List Value → List (Nat × Value)
  | _, [] => []
  | k, v :: r => (k, v) :: enterL (k + 1) r

theorem look_enterL : ∀ (l : List Value) (k t : Nat) (v : Value), look (enterL k l) t = some v → k ≤ t ∧ l[t - k]? = some v
  | [], _, _, _, h => by simp [enterL, look] at h
  | u :: r, k, t, v, h => by
    unfold enterL look at h
    cases hb : Nat.beq k t with
    | true =>
      have : k = t := Nat.eq_of_beq_eq_true hb
      subst this
      simp only [hb, cond_true, Option.some.injEq] at h
      simp [h]
    | false =>
      have hne : k ≠ t := Nat.ne_of_beq_eq_false hb
      simp only [hb, cond_false] at h
      obtain ⟨h1, h2⟩ := look_enterL r (k + 1) t v h
      refine ⟨by omega, ?_⟩
      have : t - k = (t - (k + 1)) + 1 := by omega
      rw [this]
      simpa using h2

theorem Fr.enter (n : Nat) (l : List Value) (hn : l.length ≤ n) : Fr n (enterL 0 l) { tmps := l.toArray ++ Array.replicate (n - l.toArray.size) undef, defers := [] } := by
  refine ⟨by simp; omega, rfl, fun t v hv => ?_⟩
  obtain ⟨_, h⟩ := look_enterL l 0 t v hv
  have hlt : t < l.length := by
    rcases Nat.lt_or_ge t l.length with h' | h'
    · exact h'
    · simp [List.getElem?_eq_none h'] at h
  simp only [Nat.sub_zero] at h
  rw [Array.getElem?_append_left (by simpa using hlt)]
  simpa using h

/-! ### heaps: what stood at the begin, what is frozen since, and blocks of the call's own -/
abbrev PH := Nat → Option Obj
def ph (w : World) : PH := fun b => w.heap[b]?
def PH.le (z z' : PH) : Prop := ∀ b o, z b = some o → z' b = some o
theorem PH.le_refl (z : PH) : z.le z := fun _ _ h => h
theorem PH.le_trans {a b c : PH} (h : a.le b) (h' : b.le c) : a.le c := fun x o e => h' x o (h x o e)

/-- What the call owns: a box (a local variable's memory), or the row behind a slice (nil: none). -/
inductive Res where
  | blk (b : Nat) (ty : TypeId) (cells : List Value)
  | row (v : Value) (e : TypeId) (size n : Nat) (xs : List Value)

def Res.id : Res → Option Nat
  | .blk b _ _ => some b
  | .row v _ _ _ _ => v.ownBlock

def Res.ok (base : Nat) (w : World) : Res → Prop
  | .blk b ty cells => base ≤ b ∧ w.heap[b]? = some (.cells cells.toArray ty (0, 0))
  | .row v e size n xs => w.ownsRow base e size v n xs

theorem Res.ok_ge {base w} : ∀ {r : Res}, r.ok base w → ∀ b, r.id = some b → base ≤ b ∧ b < w.heap.size
  | .blk b ty cells, h, k, hk => by
    simp only [Res.id, Option.some.injEq] at hk
    subst hk
    exact ⟨h.1, (Array.getElem?_eq_some_iff.1 h.2).1⟩
  | .row .., h, k, hk => World.ownsRow.lt h k hk

/-- It hangs on its own block alone. -/
theorem Res.ok_of {base w w'} : ∀ {r : Res}, r.ok base w → (∀ b, r.id = some b → w'.heap[b]? = w.heap[b]?) → r.ok base w'
  | .blk b ty cells, h, hk => ⟨h.1, by rw [hk b rfl]; exact h.2⟩
  | .row v e size n xs, h, hk => by
    refine ⟨h.1, ?_⟩
    rcases h.2 with hn | ⟨g, cap, cur, rfl, hb, hgg, rest⟩
    · exact .inl hn
    · exact .inr ⟨g, cap, cur, rfl, hb, by rw [hk g rfl]; exact hgg, rest⟩

/-- What lies outside the heap. -/
structure Io (w0 w : World) : Prop where
  os : w.os = w0.os
  tape : w.tape = w0.tape
  output : w.output = w0.output
theorem Io.refl (w : World) : Io w w := ⟨rfl, rfl, rfl⟩
theorem Io.trans {a b c : World} (h : Io a b) (k : Io b c) : Io a c := ⟨k.os.trans h.os, k.tape.trans h.tape, k.output.trans h.output⟩

/-- 'w0': the world at the call's begin. 'zs': what has been frozen since (parts of the heap that lie apart). 'hs': what the call owns. -/
structure St (w0 : World) (zs : List PH) (hs : List Res) (w : World) : Prop where
  ext : (ph w0).le (ph w)
  zone : ∀ z ∈ zs, z.le (ph w) ∧ ∀ b o, z b = some o → w0.heap.size ≤ b
  own : ∀ r ∈ hs, r.ok w0.heap.size w ∧ ∀ b, r.id = some b → ∀ z ∈ zs, z b = none
  nd : (hs.filterMap Res.id).Nodup
  io : Io w0 w

theorem ph_some {w : World} {b : Nat} {o : Obj} (h : ph w b = some o) : b < w.heap.size := (Array.getElem?_eq_some_iff.1 h).1
theorem ph_lt {w : World} {b : Nat} (h : b < w.heap.size) : ∃ o, ph w b = some o := ⟨w.heap[b], by simp [ph, h]⟩
theorem ph_ge {w : World} {b : Nat} (h : w.heap.size ≤ b) : ph w b = none := by simp [ph, h]
theorem le_size {w w' : World} (h : (ph w).le (ph w')) : w.heap.size ≤ w'.heap.size := by
  rcases Nat.eq_zero_or_pos w.heap.size with h0 | h0
  · omega
  · obtain ⟨o, ho⟩ := ph_lt (w := w) (b := w.heap.size - 1) (by omega)
    have := ph_some (h _ _ ho)
    omega
theorem le_eq {w w' : World} (h : (ph w).le (ph w')) {b : Nat} (hb : b < w.heap.size) : w'.heap[b]? = w.heap[b]? := by
  obtain ⟨o, ho⟩ := ph_lt hb
  have := h _ _ ho
  simp only [ph] at ho this
  rw [ho, this]

theorem St.start (w : World) : St w [] [] w :=
  ⟨PH.le_refl _, by simp, by simp, by simp, Io.refl _⟩

theorem St.drew {w0 zs hs w} (h : St w0 zs hs w) (n : Nat) : St w0 zs hs { w with drawn := n } :=
  ⟨h.ext, h.zone, fun r hr => ⟨Res.ok_of (h.own r hr).1 fun _ _ => rfl, (h.own r hr).2⟩, h.nd, h.io.trans ⟨rfl, rfl, rfl⟩⟩

/-- Whoever leaves all that was there alone. -/
theorem St.later {w0 zs hs w w'} (h : St w0 zs hs w) (hl : (ph w).le (ph w')) (hio : Io w w') : St w0 zs hs w' :=
  ⟨PH.le_trans h.ext hl, fun z hz => ⟨PH.le_trans (h.zone z hz).1 hl, (h.zone z hz).2⟩,
    fun r hr => ⟨Res.ok_of (h.own r hr).1 fun b hb => le_eq hl (Res.ok_ge (h.own r hr).1 b hb).2, (h.own r hr).2⟩, h.nd, h.io.trans hio⟩

/-- What a call hands back joins what was there. -/
theorem St.call {w0 zs hs w zs' hs' w'} (h : St w0 zs hs w) (hc : St w zs' hs' w') : St w0 (zs' ++ zs) (hs' ++ hs) w' := by
  have hl := hc.ext
  have hsz := le_size h.ext
  have h1 := h.later hl hc.io
  refine ⟨h1.ext, ?_, ?_, ?_, h1.io⟩
  · intro z hz
    rcases List.mem_append.1 hz with hz | hz
    · exact ⟨(hc.zone z hz).1, fun b o hb => Nat.le_trans hsz ((hc.zone z hz).2 b o hb)⟩
    · exact h1.zone z hz
  · intro r hr
    rcases List.mem_append.1 hr with hr | hr
    · refine ⟨?_, fun b hb z hz => ?_⟩
      · have := (hc.own r hr).1
        cases r with
        | blk b ty cells => exact ⟨Nat.le_trans hsz this.1, this.2⟩
        | row v e size n xs =>
          refine ⟨this.1, ?_⟩
          rcases this.2 with hn | ⟨g, cap, cur, hv, hb, rest⟩
          · exact .inl hn
          · exact .inr ⟨g, cap, cur, hv, Nat.le_trans hsz hb, rest⟩
      · rcases List.mem_append.1 hz with hz | hz
        · exact (hc.own r hr).2 b hb z hz
        · have hge := (Res.ok_ge (hc.own r hr).1 b hb).1
          cases hzb : z b with
          | none => rfl
          | some o =>
            have := ph_some ((h.zone z hz).1 b o hzb)
            omega
    · refine ⟨(h1.own r hr).1, fun b hb z hz => ?_⟩
      rcases List.mem_append.1 hz with hz | hz
      · have hlt := (Res.ok_ge (h.own r hr).1 b hb).2
        cases hzb : z b with
        | none => rfl
        | some o =>
          have := (hc.zone z hz).2 b o hzb
          omega
      · exact (h1.own r hr).2 b hb z hz
  · rw [List.filterMap_append, List.nodup_append]
    refine ⟨hc.nd, h.nd, fun b hb b' hb' e => ?_⟩
    subst e
    obtain ⟨r, hr, e1⟩ := List.mem_filterMap.1 hb
    obtain ⟨r', hr', e2⟩ := List.mem_filterMap.1 hb'
    have h1 := (Res.ok_ge (hc.own r hr).1 b e1).1
    have h2 := (Res.ok_ge (h.own r' hr').1 b e2).2
    omega

theorem filterMap_sub {hs hs' : List Res} (h : hs'.Sublist hs) (hn : (hs.filterMap Res.id).Nodup) : (hs'.filterMap Res.id).Nodup :=
  List.Sublist.nodup (h.filterMap _) hn

/-- What is no more wanted is forgotten. -/
theorem St.keep {w0 zs hs w} (h : St w0 zs hs w) {zs' hs'} (h1 : zs'.Sublist zs) (h2 : hs'.Sublist hs) : St w0 zs' hs' w :=
  ⟨h.ext, fun z hz => h.zone z (h1.subset hz), fun r hr => ⟨(h.own r (h2.subset hr)).1, fun b hb z hz => (h.own r (h2.subset hr)).2 b hb z (h1.subset hz)⟩, filterMap_sub h2 h.nd, h.io⟩

theorem St.perm {w0 zs hs w} (h : St w0 zs hs w) {hs'} (h2 : hs'.Perm hs) : St w0 zs hs' w :=
  ⟨h.ext, h.zone, fun r hr => h.own r (h2.subset hr), (List.Perm.nodup_iff (h2.filterMap _)).2 h.nd, h.io⟩

/-- One of the own blocks is written: its resource turns, all else stays. -/
theorem St.set {w0 zs hs w w'} (h : St w0 zs hs w) {k : Nat} {r r' : Res} (hk : hs[k]? = some r) (hid : r'.id = r.id) (hw : ∀ b, r.id ≠ some b → w'.heap[b]? = w.heap[b]?) (hok : r'.ok w0.heap.size w') (hsz : w.heap.size ≤ w'.heap.size) (hio : Io w w') :
    St w0 zs (hs.set k r') w' := by
  have hmem : r ∈ hs := List.mem_of_getElem? hk
  have hkl : k < hs.length := (List.getElem?_eq_some_iff.1 hk).1
  have hne : ∀ b o, (b < w0.heap.size ∨ ∃ z ∈ zs, z b = some o) → r.id ≠ some b := by
    intro b o hb e
    rcases hb with hb | ⟨z, hz, hzb⟩
    · have := (Res.ok_ge (h.own r hmem).1 b e).1; omega
    · have := (h.own r hmem).2 b e z hz; rw [this] at hzb; cases hzb
  refine ⟨fun b o hb => ?_, fun z hz => ⟨fun b o hb => ?_, (h.zone z hz).2⟩, fun s hs1 => ?_, ?_, h.io.trans hio⟩
  · have := h.ext b o hb
    simp only [ph] at this ⊢
    rw [hw b (hne b o (.inl (ph_some hb)))]
    exact this
  · have := (h.zone z hz).1 b o hb
    simp only [ph] at this ⊢
    rw [hw b (hne b o (.inr ⟨z, hz, hb⟩))]
    exact this
  · obtain ⟨i, hi⟩ := List.mem_iff_getElem?.1 hs1
    rw [List.getElem?_set] at hi
    split at hi
    · rename_i hki
      subst hki
      try rw [if_pos hkl] at hi
      simp only [Option.some.injEq] at hi
      subst hi
      exact ⟨hok, fun b hb => (h.own r hmem).2 b (hid ▸ hb)⟩
    · rename_i hki
      have hsm : s ∈ hs := List.mem_of_getElem? hi
      refine ⟨Res.ok_of (h.own s hsm).1 fun b hb => hw b fun e => ?_, (h.own s hsm).2⟩
      have hnd := h.nd
      -- two different places with one id
      have key : ∀ (l : List Res) (i k : Nat), i ≠ k → l[i]? = some s → l[k]? = some r → ¬ (l.filterMap Res.id).Nodup := by
        intro l
        induction l with
        | nil => intro i k _ hi; simp at hi
        | cons x l ih =>
          intro i k hne hi hk hn
          cases i with
          | zero =>
            cases k with
            | zero => exact hne rfl
            | succ k =>
              simp at hi hk
              subst hi
              rw [List.filterMap_cons, hb] at hn
              simp at hn
              exact hn.1 r (List.mem_of_getElem? hk) e
          | succ i =>
            cases k with
            | zero =>
              simp at hi hk
              subst hk
              rw [List.filterMap_cons, e] at hn
              simp at hn
              exact hn.1 s (List.mem_of_getElem? hi) hb
            | succ k =>
              simp at hi hk
              refine ih i k (by omega) hi hk ?_
              rw [List.filterMap_cons] at hn
              split at hn
              · exact hn
              · exact (List.nodup_cons.1 hn).2
      exact key hs i k (by omega) hi hk hnd
  · have : (hs.set k r').filterMap Res.id = hs.filterMap Res.id := by
      have gen : ∀ (l : List Res) (k : Nat), l[k]? = some r → (l.set k r').filterMap Res.id = l.filterMap Res.id := by
        intro l
        induction l with
        | nil => intro k hk; simp at hk
        | cons x l ih =>
          intro k hk
          cases k with
          | zero => simp at hk; subst hk; simp [List.filterMap_cons, hid]
          | succ k => simp at hk; simp [List.filterMap_cons, ih k hk]
      exact gen hs k hk
    rw [this]
    exact h.nd

/-- A new block. -/
theorem St.new {w0 zs hs w} (h : St w0 zs hs w) (ty : TypeId) (cells : List Value) :
    St w0 zs (.blk w.heap.size ty cells :: hs) { w with heap := w.heap.push (.cells cells.toArray ty (0, 0)) } := by
  have hl : (ph w).le (ph { w with heap := w.heap.push (.cells cells.toArray ty (0, 0)) }) := fun b o hb => by
    have := ph_some hb
    simp only [ph] at hb ⊢
    rw [Array.getElem?_push]
    rw [if_neg (by omega)]
    exact hb
  have h1 := h.later hl ⟨rfl, rfl, rfl⟩
  refine ⟨h1.ext, h1.zone, fun r hr => ?_, ?_, h1.io⟩
  · rcases List.mem_cons.1 hr with rfl | hr
    · refine ⟨⟨le_size h.ext, by simp⟩, fun b hb z hz => ?_⟩
      simp only [Res.id, Option.some.injEq] at hb
      subst hb
      cases hzb : z w.heap.size with
      | none => rfl
      | some o => have := ph_some ((h.zone z hz).1 _ o hzb); omega
    · exact h1.own r hr
  · rw [List.filterMap_cons]
    simp only [Res.id]
    refine List.nodup_cons.2 ⟨fun hm => ?_, h.nd⟩
    obtain ⟨r, hr, e⟩ := List.mem_filterMap.1 hm
    have := (Res.ok_ge (h.own r hr).1 _ e).2
    omega

end Go.Fw
