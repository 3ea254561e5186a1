/- A text of a proof over this seat: walks over the program's functions and the plain laws that they need. -/
import Derived.WalkKit
import Derived.Deep.Quiet
import Derived.Deep.AppendSrc
import Derived.Laws.BytesArg
import Derived.Laws.CopyOwn
import Derived.Laws.MakeOwn
import Derived.StillTail
set_option linter.all false
section
/- Frames and heaps told by relations: a framework for walks over Go code. -/
namespace Go.Fw

/-! ### frames: a list of the slots that matter -/
def look : List (Nat × Value) → Nat → Option Value
  | [], _ => none
  | (s, v) :: r, t => bif Nat.beq s t then some v else look r t

/-- The calls that a frame has put off: none, but in a function behind a range over a function. -/
class Dfs where
  ds : List Deferred
instance dfs0 : Dfs := ⟨[]⟩

structure Fr [I : Dfs] (n : Nat) (L : List (Nat × Value)) (a : Act) : Prop where
  size : a.tmps.size = n
  nodef : a.defers = I.ds
  get : ∀ t v, look L t = some v → a.tmps[t]? = some v

def opv (L : List (Nat × Value)) : Operand → Option Value
  | .tmp t => look L t
  | .const v => some v
  | .global g => some (.pointer (some ⟨g, 0, none⟩))
  | .func f => some (.func (.func f) #[] #[])

theorem Fr.eval [Dfs] {n L a} (h : Fr n L a) {o : Operand} {v : Value} (ho : opv L o = some v) : a.eval o = v := by
  cases o with
  | tmp t =>
    have := h.get t v ho
    simp [Act.eval, Array.getD_eq_getD_getElem?, this]
  | const v' => simpa [opv, Act.eval] using ho
  | global g => simpa [opv, Act.eval] using ho
  | func f => simpa [opv, Act.eval] using ho

theorem Fr.put [Dfs] {n L a} (h : Fr n L a) {d : Nat} {v : Value} (hd : d < n) : Fr n ((d, v) :: L) (a.put (some d) v) := by
  refine ⟨by simp [Act.put, h.size], h.nodef, fun t u hu => ?_⟩
  simp only [Act.put]
  unfold look at hu
  cases hb : Nat.beq d t with
  | true =>
    have : d = t := Nat.eq_of_beq_eq_true hb
    subst this
    simp only [hb, cond_true, Option.some.injEq] at hu
    subst hu
    simp [h.size, hd]
  | false =>
    have hne : d ≠ t := Nat.ne_of_beq_eq_false hb
    simp only [hb, cond_false] at hu
    rw [Array.getElem?_setIfInBounds_ne hne]
    exact h.get t u hu

/-- Every entry of L' stands in L. -/
def subL (L : List (Nat × Value)) : List (Nat × Value) → Prop
  | [] => True
  | (t, v) :: r => look L t = some v ∧ subL L r

theorem Fr.sub [Dfs] {n L a} (h : Fr n L a) : ∀ {L'}, subL L L' → Fr n L' a
  | [], _ => ⟨h.size, h.nodef, fun t v hv => by simp [look] at hv⟩
  | (s, u) :: r, ⟨h1, h2⟩ => by
    refine ⟨h.size, h.nodef, fun t v hv => ?_⟩
    unfold look at hv
    cases hb : Nat.beq s t with
    | true =>
      have : s = t := Nat.eq_of_beq_eq_true hb
      subst this
      simp only [hb, cond_true, Option.some.injEq] at hv
      subst hv
      exact h.get _ _ h1
    | false =>
      simp only [hb, cond_false] at hv
      exact (h.sub h2).get t v hv

/-- The frame at a call's begin. -/
def enterL : Nat → List Value → List (Nat × Value)
  | _, [] => []
  | k, v :: r => (k, v) :: enterL (k + 1) r

theorem look_enterL : ∀ (l : List Value) (k t : Nat) (v : Value), look (enterL k l) t = some v → k ≤ t ∧ l[t - k]? = some v
  | [], _, _, _, h => by simp [enterL, look] at h
  | u :: r, k, t, v, h => by
    unfold enterL look at h
    cases hb : Nat.beq k t with
    | true =>
      have : k = t := Nat.eq_of_beq_eq_true hb
      subst this
      simp only [hb, cond_true, Option.some.injEq] at h
      simp [h]
    | false =>
      have hne : k ≠ t := Nat.ne_of_beq_eq_false hb
      simp only [hb, cond_false] at h
      obtain ⟨h1, h2⟩ := look_enterL r (k + 1) t v h
      refine ⟨by omega, ?_⟩
      have : t - k = (t - (k + 1)) + 1 := by omega
      rw [this]
      simpa using h2

theorem Fr.enter (n : Nat) (l : List Value) (hn : l.length ≤ n) : Fr n (enterL 0 l) { tmps := l.toArray ++ Array.replicate (n - l.toArray.size) undef, defers := [] } := by
  refine ⟨by simp; omega, rfl, fun t v hv => ?_⟩
  obtain ⟨_, h⟩ := look_enterL l 0 t v hv
  have hlt : t < l.length := by
    rcases Nat.lt_or_ge t l.length with h' | h'
    · exact h'
    · simp [List.getElem?_eq_none h'] at h
  simp only [Nat.sub_zero] at h
  rw [Array.getElem?_append_left (by simpa using hlt)]
  simpa using h

/-! ### heaps: what stood at the begin, what is frozen since, and blocks of the call's own -/
abbrev PH := Nat → Option Obj
def ph (w : World) : PH := fun b => w.heap[b]?
def PH.le (z z' : PH) : Prop := ∀ b o, z b = some o → z' b = some o
theorem PH.le_refl (z : PH) : z.le z := fun _ _ h => h
theorem PH.le_trans {a b c : PH} (h : a.le b) (h' : b.le c) : a.le c := fun x o e => h' x o (h x o e)

/-- What the call owns: a box (a local variable's memory), or the row behind a slice (nil: none). -/
inductive Res where
  | blk (b : Nat) (ty : TypeId) (cells : List Value)
  | row (v : Value) (e : TypeId) (size n : Nat) (xs : List Value)
  | mp (b : Nat) (es : List MapEntry) (clock : Nat)

def Res.id : Res → Option Nat
  | .blk b _ _ => some b
  | .row v _ _ _ _ => v.ownBlock
  | .mp b _ _ => some b

def Res.ok (base : Nat) (w : World) : Res → Prop
  | .blk b ty cells => base ≤ b ∧ w.heap[b]? = some (.cells cells.toArray ty (0, 0))
  | .row v e size n xs => w.ownsRow base e size v n xs
  | .mp b es clock => base ≤ b ∧ w.heap[b]? = some (.map es.toArray clock)

theorem Res.ok_ge {base w} : ∀ {r : Res}, r.ok base w → ∀ b, r.id = some b → base ≤ b ∧ b < w.heap.size
  | .blk b ty cells, h, k, hk => by
    simp only [Res.id, Option.some.injEq] at hk
    subst hk
    exact ⟨h.1, (Array.getElem?_eq_some_iff.1 h.2).1⟩
  | .row .., h, k, hk => World.ownsRow.lt h k hk
  | .mp b es clock, h, k, hk => by
    simp only [Res.id, Option.some.injEq] at hk
    subst hk
    exact ⟨h.1, (Array.getElem?_eq_some_iff.1 h.2).1⟩

/-- It hangs on its own block alone. -/
theorem Res.ok_of {base w w'} : ∀ {r : Res}, r.ok base w → (∀ b, r.id = some b → w'.heap[b]? = w.heap[b]?) → r.ok base w'
  | .blk b ty cells, h, hk => ⟨h.1, by rw [hk b rfl]; exact h.2⟩
  | .row v e size n xs, h, hk => by
    refine ⟨h.1, ?_⟩
    rcases h.2 with hn | ⟨g, cap, cur, rfl, hb, hgg, rest⟩
    · exact .inl hn
    · exact .inr ⟨g, cap, cur, rfl, hb, by rw [hk g rfl]; exact hgg, rest⟩
  | .mp b es clock, h, hk => ⟨h.1, by rw [hk b rfl]; exact h.2⟩

/-- What lies outside the heap. -/
structure Io (w0 w : World) : Prop where
  os : w.os = w0.os
  tape : w.tape = w0.tape
  output : w.output = w0.output
theorem Io.refl (w : World) : Io w w := ⟨rfl, rfl, rfl⟩
theorem Io.trans {a b c : World} (h : Io a b) (k : Io b c) : Io a c := ⟨k.os.trans h.os, k.tape.trans h.tape, k.output.trans h.output⟩

/-- 'w0': the world at the call's begin. 'zs': what has been frozen since (parts of the heap that lie apart). 'hs': what the call owns. -/
structure St (w0 : World) (zs : List PH) (hs : List Res) (w : World) : Prop where
  ext : (ph w0).le (ph w)
  zone : ∀ z ∈ zs, z.le (ph w) ∧ ∀ b o, z b = some o → w0.heap.size ≤ b
  own : ∀ r ∈ hs, r.ok w0.heap.size w ∧ ∀ b, r.id = some b → ∀ z ∈ zs, z b = none
  nd : (hs.filterMap Res.id).Nodup
  io : Io w0 w

theorem ph_some {w : World} {b : Nat} {o : Obj} (h : ph w b = some o) : b < w.heap.size := (Array.getElem?_eq_some_iff.1 h).1
theorem ph_lt {w : World} {b : Nat} (h : b < w.heap.size) : ∃ o, ph w b = some o := ⟨w.heap[b], by simp [ph, h]⟩
theorem le_size {w w' : World} (h : (ph w).le (ph w')) : w.heap.size ≤ w'.heap.size := by
  rcases Nat.eq_zero_or_pos w.heap.size with h0 | h0
  · omega
  · obtain ⟨o, ho⟩ := ph_lt (w := w) (b := w.heap.size - 1) (by omega)
    have := ph_some (h _ _ ho)
    omega
theorem le_eq {w w' : World} (h : (ph w).le (ph w')) {b : Nat} (hb : b < w.heap.size) : w'.heap[b]? = w.heap[b]? := by
  obtain ⟨o, ho⟩ := ph_lt hb
  have := h _ _ ho
  simp only [ph] at ho this
  rw [ho, this]

theorem St.start (w : World) : St w [] [] w :=
  ⟨PH.le_refl _, by simp, by simp, by simp, Io.refl _⟩

theorem St.drew {w0 zs hs w} (h : St w0 zs hs w) (n : Nat) : St w0 zs hs { w with drawn := n } :=
  ⟨h.ext, h.zone, fun r hr => ⟨Res.ok_of (h.own r hr).1 fun _ _ => rfl, (h.own r hr).2⟩, h.nd, h.io.trans ⟨rfl, rfl, rfl⟩⟩

/-- Whoever leaves all that was there alone. -/
theorem St.later {w0 zs hs w w'} (h : St w0 zs hs w) (hl : (ph w).le (ph w')) (hio : Io w w') : St w0 zs hs w' :=
  ⟨PH.le_trans h.ext hl, fun z hz => ⟨PH.le_trans (h.zone z hz).1 hl, (h.zone z hz).2⟩,
    fun r hr => ⟨Res.ok_of (h.own r hr).1 fun b hb => le_eq hl (Res.ok_ge (h.own r hr).1 b hb).2, (h.own r hr).2⟩, h.nd, h.io.trans hio⟩

/-- What a call hands back joins what was there. -/
theorem St.call {w0 zs hs w zs' hs' w'} (h : St w0 zs hs w) (hc : St w zs' hs' w') : St w0 (zs' ++ zs) (hs' ++ hs) w' := by
  have hl := hc.ext
  have hsz := le_size h.ext
  have h1 := h.later hl hc.io
  refine ⟨h1.ext, ?_, ?_, ?_, h1.io⟩
  · intro z hz
    rcases List.mem_append.1 hz with hz | hz
    · exact ⟨(hc.zone z hz).1, fun b o hb => Nat.le_trans hsz ((hc.zone z hz).2 b o hb)⟩
    · exact h1.zone z hz
  · intro r hr
    rcases List.mem_append.1 hr with hr | hr
    · refine ⟨?_, fun b hb z hz => ?_⟩
      · have := (hc.own r hr).1
        cases r with
        | blk b ty cells => exact ⟨Nat.le_trans hsz this.1, this.2⟩
        | mp b es clock => exact ⟨Nat.le_trans hsz this.1, this.2⟩
        | row v e size n xs =>
          refine ⟨this.1, ?_⟩
          rcases this.2 with hn | ⟨g, cap, cur, hv, hb, rest⟩
          · exact .inl hn
          · exact .inr ⟨g, cap, cur, hv, Nat.le_trans hsz hb, rest⟩
      · rcases List.mem_append.1 hz with hz | hz
        · exact (hc.own r hr).2 b hb z hz
        · have hge := (Res.ok_ge (hc.own r hr).1 b hb).1
          cases hzb : z b with
          | none => rfl
          | some o =>
            have := ph_some ((h.zone z hz).1 b o hzb)
            omega
    · refine ⟨(h1.own r hr).1, fun b hb z hz => ?_⟩
      rcases List.mem_append.1 hz with hz | hz
      · have hlt := (Res.ok_ge (h.own r hr).1 b hb).2
        cases hzb : z b with
        | none => rfl
        | some o =>
          have := (hc.zone z hz).2 b o hzb
          omega
      · exact (h1.own r hr).2 b hb z hz
  · rw [List.filterMap_append, List.nodup_append]
    refine ⟨hc.nd, h.nd, fun b hb b' hb' e => ?_⟩
    subst e
    obtain ⟨r, hr, e1⟩ := List.mem_filterMap.1 hb
    obtain ⟨r', hr', e2⟩ := List.mem_filterMap.1 hb'
    have h1 := (Res.ok_ge (hc.own r hr).1 b e1).1
    have h2 := (Res.ok_ge (h.own r' hr').1 b e2).2
    omega

theorem filterMap_sub {hs hs' : List Res} (h : hs'.Sublist hs) (hn : (hs.filterMap Res.id).Nodup) : (hs'.filterMap Res.id).Nodup :=
  List.Sublist.nodup (h.filterMap _) hn

/-- What is no more wanted is forgotten. -/
theorem St.keep {w0 zs hs w} (h : St w0 zs hs w) {zs' hs'} (h1 : zs'.Sublist zs) (h2 : hs'.Sublist hs) : St w0 zs' hs' w :=
  ⟨h.ext, fun z hz => h.zone z (h1.subset hz), fun r hr => ⟨(h.own r (h2.subset hr)).1, fun b hb z hz => (h.own r (h2.subset hr)).2 b hb z (h1.subset hz)⟩, filterMap_sub h2 h.nd, h.io⟩

theorem St.perm {w0 zs hs w} (h : St w0 zs hs w) {hs'} (h2 : hs'.Perm hs) : St w0 zs hs' w :=
  ⟨h.ext, h.zone, fun r hr => h.own r (h2.subset hr), (List.Perm.nodup_iff (h2.filterMap _)).2 h.nd, h.io⟩

/-- One of the own blocks is written: its resource turns, all else stays. -/
theorem St.set {w0 zs hs w w'} (h : St w0 zs hs w) {k : Nat} {r r' : Res} (hk : hs[k]? = some r) (hid : r'.id = r.id) (hw : ∀ b, r.id ≠ some b → w'.heap[b]? = w.heap[b]?) (hok : r'.ok w0.heap.size w') (hsz : w.heap.size ≤ w'.heap.size) (hio : Io w w') :
    St w0 zs (hs.set k r') w' := by
  have hmem : r ∈ hs := List.mem_of_getElem? hk
  have hkl : k < hs.length := (List.getElem?_eq_some_iff.1 hk).1
  have hne : ∀ b o, (b < w0.heap.size ∨ ∃ z ∈ zs, z b = some o) → r.id ≠ some b := by
    intro b o hb e
    rcases hb with hb | ⟨z, hz, hzb⟩
    · have := (Res.ok_ge (h.own r hmem).1 b e).1; omega
    · have := (h.own r hmem).2 b e z hz; rw [this] at hzb; cases hzb
  refine ⟨fun b o hb => ?_, fun z hz => ⟨fun b o hb => ?_, (h.zone z hz).2⟩, fun s hs1 => ?_, ?_, h.io.trans hio⟩
  · have := h.ext b o hb
    simp only [ph] at this ⊢
    rw [hw b (hne b o (.inl (ph_some hb)))]
    exact this
  · have := (h.zone z hz).1 b o hb
    simp only [ph] at this ⊢
    rw [hw b (hne b o (.inr ⟨z, hz, hb⟩))]
    exact this
  · obtain ⟨i, hi⟩ := List.mem_iff_getElem?.1 hs1
    rw [List.getElem?_set] at hi
    split at hi
    · rename_i hki
      subst hki
      try rw [if_pos hkl] at hi
      simp only [Option.some.injEq] at hi
      subst hi
      exact ⟨hok, fun b hb => (h.own r hmem).2 b (hid ▸ hb)⟩
    · rename_i hki
      have hsm : s ∈ hs := List.mem_of_getElem? hi
      refine ⟨Res.ok_of (h.own s hsm).1 fun b hb => hw b fun e => ?_, (h.own s hsm).2⟩
      have hnd := h.nd
      -- two different places with one id
      have key : ∀ (l : List Res) (i k : Nat), i ≠ k → l[i]? = some s → l[k]? = some r → ¬ (l.filterMap Res.id).Nodup := by
        intro l
        induction l with
        | nil => intro i k _ hi; simp at hi
        | cons x l ih =>
          intro i k hne hi hk hn
          cases i with
          | zero =>
            cases k with
            | zero => exact hne rfl
            | succ k =>
              simp at hi hk
              subst hi
              rw [List.filterMap_cons, hb] at hn
              simp at hn
              exact hn.1 r (List.mem_of_getElem? hk) e
          | succ i =>
            cases k with
            | zero =>
              simp at hi hk
              subst hk
              rw [List.filterMap_cons, e] at hn
              simp at hn
              exact hn.1 s (List.mem_of_getElem? hi) hb
            | succ k =>
              simp at hi hk
              refine ih i k (by omega) hi hk ?_
              rw [List.filterMap_cons] at hn
              split at hn
              · exact hn
              · exact (List.nodup_cons.1 hn).2
      exact key hs i k (by omega) hi hk hnd
  · have : (hs.set k r').filterMap Res.id = hs.filterMap Res.id := by
      have gen : ∀ (l : List Res) (k : Nat), l[k]? = some r → (l.set k r').filterMap Res.id = l.filterMap Res.id := by
        intro l
        induction l with
        | nil => intro k hk; simp at hk
        | cons x l ih =>
          intro k hk
          cases k with
          | zero => simp at hk; subst hk; simp [List.filterMap_cons, hid]
          | succ k => simp at hk; simp [List.filterMap_cons, ih k hk]
      exact gen hs k hk
    rw [this]
    exact h.nd

/-- A new block. -/
theorem St.new {w0 zs hs w} (h : St w0 zs hs w) (ty : TypeId) (cells : List Value) :
    St w0 zs (.blk w.heap.size ty cells :: hs) { w with heap := w.heap.push (.cells cells.toArray ty (0, 0)) } := by
  have hl : (ph w).le (ph { w with heap := w.heap.push (.cells cells.toArray ty (0, 0)) }) := fun b o hb => by
    have := ph_some hb
    simp only [ph] at hb ⊢
    rw [Array.getElem?_push]
    rw [if_neg (by omega)]
    exact hb
  have h1 := h.later hl ⟨rfl, rfl, rfl⟩
  refine ⟨h1.ext, h1.zone, fun r hr => ?_, ?_, h1.io⟩
  · rcases List.mem_cons.1 hr with rfl | hr
    · refine ⟨⟨le_size h.ext, by simp⟩, fun b hb z hz => ?_⟩
      simp only [Res.id, Option.some.injEq] at hb
      subst hb
      cases hzb : z w.heap.size with
      | none => rfl
      | some o => have := ph_some ((h.zone z hz).1 _ o hzb); omega
    · exact h1.own r hr
  · rw [List.filterMap_cons]
    simp only [Res.id]
    refine List.nodup_cons.2 ⟨fun hm => ?_, h.nd⟩
    obtain ⟨r, hr, e⟩ := List.mem_filterMap.1 hm
    have := (Res.ok_ge (h.own r hr).1 _ e).2
    omega

end Go.Fw
end

section
namespace Go.Fw

/-- One operation that only reads (or calls what only reads): ONE value, in every world that meets the state. -/
def Qt [Dfs] (P : Program) (n : Nat) (w0 : World) (zs : List PH) (hs : List Res) (L : List (Nat × Value)) (o : Oper) (v : Value) : Prop :=
  ∀ a, Fr n L a → ∀ w, St w0 zs hs w → Oper.quietUpon P (St w0 zs hs) w v ((execOp a.eval o).run P w)

def upL (d : Option Tmp) (v : Value) (L : List (Nat × Value)) : List (Nat × Value) :=
  match d with
  | some t => (t, v) :: L
  | none => L

def dstOk (n : Nat) : Option Tmp → Prop
  | some t => t < n
  | none => True

theorem Fr.up [Dfs] {n L a} (h : Fr n L a) {d : Option Tmp} {v : Value} (hd : dstOk n d) : Fr n (upL d v L) (a.put d v) := by
  cases d with
  | none => exact h
  | some t => exact h.put hd

/-- A run of quiet operations: from L, of the list l, to L', the list l' being left. -/
def Sq [Dfs] (P : Program) (n : Nat) (w0 : World) (zs : List PH) (hs : List Res) (ops : Array Oper) : Nat → List (Nat × Value) → List Oper → List (Nat × Value) → List Oper → Prop
  | 0, L, l, L', l' => L = L' ∧ l = l'
  | k + 1, L, l, L', l' => ∃ o r v, l = o :: r ∧ dstOk n o.dst ∧
      (∀ a, Fr n L a → ((Region.wanted o (yielded ops a.tmps) = true ∧ ∀ w, St w0 zs hs w → Oper.quietUpon P (St w0 zs hs) w v ((execOp a.eval o).run P w)) ∨ (Region.wanted o (yielded ops a.tmps) = false ∧ v = undef))) ∧
      Sq P n w0 zs hs ops k (upL o.dst v L) r L' l'

section
variable {P : Program} {n : Nat} {w0 : World} {zs : List PH} {hs : List Res} {ops : Array Oper} {L L' : List (Nat × Value)} {l l' : List Oper} {k : Nat}

theorem sq_end [Dfs] : Sq P n w0 zs hs ops 0 L l L l := ⟨rfl, rfl⟩

theorem sq [Dfs] {d : Tmp} {op : Op} {t : TypeId} {p : String} {af : Array Edge} {v : Value} (hd : Nat.blt d n = true)
    (q : Qt P n w0 zs hs L ⟨some d, op, t, p, af, none⟩ v) (r : Sq P n w0 zs hs ops k ((d, v) :: L) l L' l') :
    Sq P n w0 zs hs ops (k + 1) L (⟨some d, op, t, p, af, none⟩ :: l) L' l' :=
  ⟨_, _, v, rfl, Nat.blt_eq.mp hd, fun a ha => .inl ⟨rfl, fun w hw => q a ha w hw⟩, r⟩

/-- What the guard of an operation reads. -/
theorem yielded_of [Dfs] {a : Act} (ha : Fr n L a) {g t : Nat} {v : Value} (hg : (ops[g]?).bind (·.dst) = some t) (hl : look L t = some v) :
    yielded ops a.tmps g = (match v with | .bool b => some b | _ => none) := by
  unfold yielded
  rw [hg]
  simp only [Option.bind_some, ha.get t v hl]
  cases v <;> rfl

theorem sq_go [Dfs] {d : Tmp} {op : Op} {t : TypeId} {p : String} {af : Array Edge} {v : Value} {g : Nat} {b : Bool} (gt : Nat) (hgt : (ops[g]?).bind (·.dst) = some gt) (hgl : look L gt = some (.bool b)) (hd : Nat.blt d n = true)
    (q : Qt P n w0 zs hs L ⟨some d, op, t, p, af, some (g, b)⟩ v) (r : Sq P n w0 zs hs ops k ((d, v) :: L) l L' l') :
    Sq P n w0 zs hs ops (k + 1) L (⟨some d, op, t, p, af, some (g, b)⟩ :: l) L' l' :=
  ⟨_, _, v, rfl, Nat.blt_eq.mp hd, fun a ha => .inl ⟨by simp [Region.wanted, yielded_of ha hgt hgl], fun w hw => q a ha w hw⟩, r⟩

theorem sq_skip [Dfs] {d : Tmp} {op : Op} {t : TypeId} {p : String} {af : Array Edge} {g : Nat} {b c : Bool} (gt : Nat) (hgt : (ops[g]?).bind (·.dst) = some gt) (hgl : look L gt = some (.bool c)) (hbc : (!b) = c) (hd : Nat.blt d n = true)
    (r : Sq P n w0 zs hs ops k ((d, undef) :: L) l L' l') :
    Sq P n w0 zs hs ops (k + 1) L (⟨some d, op, t, p, af, some (g, b)⟩ :: l) L' l' :=
  ⟨_, _, undef, rfl, Nat.blt_eq.mp hd, fun a ha => .inr ⟨by subst hbc; simp [Region.wanted, yielded_of ha hgt hgl], rfl⟩, r⟩

/-- A guard that itself was passed over. -/
theorem sq_skipu [Dfs] {d : Tmp} {op : Op} {t : TypeId} {p : String} {af : Array Edge} {g : Nat} {b : Bool} (gt : Nat) (hgt : (ops[g]?).bind (·.dst) = some gt) (hgl : look L gt = some undef) (hd : Nat.blt d n = true)
    (r : Sq P n w0 zs hs ops k ((d, undef) :: L) l L' l') :
    Sq P n w0 zs hs ops (k + 1) L (⟨some d, op, t, p, af, some (g, b)⟩ :: l) L' l' :=
  ⟨_, _, undef, rfl, Nat.blt_eq.mp hd, fun a ha => .inr ⟨by simp only [Region.wanted, yielded_of ha hgt hgl]; exact beq_eq_false_iff_ne.2 (by simp [undef]), rfl⟩, r⟩

theorem wpl_sq [Dfs] {Q : Exit → Act → World → Prop} : ∀ {k : Nat} {L l} {a : Act} {w : World}, Fr n L a → St w0 zs hs w → Sq P n w0 zs hs ops k L l L' l' →
    (∀ a w, Fr n L' a → St w0 zs hs w → wpList P ops Q l' a w) → wpList P ops Q l a w
  | 0, _, _, a, w, hF, hS, h, K => by obtain ⟨rfl, rfl⟩ := h; exact K a w hF hS
  | k + 1, _, _, a, w, hF, hS, h, K => by
    obtain ⟨o, r, v, rfl, hd, hq, hr⟩ := h
    unfold wpList
    rcases hq a hF with ⟨hw, hq⟩ | ⟨hw, rfl⟩
    · simp only [hw, if_true]
      refine .inl ?_
      have := hq w hS
      unfold Oper.wp
      generalize (execOp a.eval o).run P w = res at this
      cases res with
      | halt x w' => simp only [Oper.quietUpon] at this
      | ok nx w' =>
        cases nx <;> simp only [Oper.quietUpon] at this <;> simp only [Oper.upon]
        case value u => obtain ⟨rfl, rfl⟩ := this; exact wpl_sq (hF.up hd) hS hr K
        case skip => obtain ⟨rfl, rfl⟩ := this; exact wpl_sq (hF.up hd) hS hr K
        case enter f args =>
          obtain ⟨rfl, hc⟩ := this
          exact hc.mono fun e w'' ⟨he, hw''⟩ => by subst he; exact wpl_sq (hF.up hd) hw'' hr K
    · simp only [hw, Bool.false_eq_true, if_false]
      exact wpl_sq (hF.up hd) hS hr K

theorem wpq_sq [Dfs] : ∀ {k : Nat} {L l} {Q : Act → Prop} {a : Act}, Fr n L a → Sq P n w0 zs hs ops k L l L' [] →
    (∀ a, Fr n L' a → Q a) → wpQuiet P ops (St w0 zs hs) Q l a
  | 0, _, _, _, a, hF, h, K => by obtain ⟨rfl, rfl⟩ := h; exact K a hF
  | k + 1, _, _, _, a, hF, h, K => by
    obtain ⟨o, r, v, rfl, hd, hq, hr⟩ := h
    unfold wpQuiet
    rcases hq a hF with ⟨hw, hq⟩ | ⟨hw, rfl⟩
    · simp only [hw, if_true]
      exact ⟨v, fun w hw => hq w hw, wpq_sq (hF.up hd) hr K⟩
    · simp only [hw, Bool.false_eq_true, if_false]
      exact wpq_sq (hF.up hd) hr K

/-- A region in the text's order: all its operations quiet. -/
theorem reg [Dfs] {id : Nat} {Q : Exit → Act → World → Prop} {a : Act} {w : World} (hF : Fr n L a) (hS : St w0 zs hs w)
    (s : Sq P n w0 zs hs l.toArray k L l L' []) (K : ∀ a w, Fr n L' a → St w0 zs hs w → Q .normal a w) : (Code.region id l.toArray false).wp P Q a w :=
  wp_region_lit (wpl_sq hF hS s fun a w hF hS => wpList_nil (K a w hF hS))

/-- A region that draws its order: all its operations quiet. -/
theorem regd [Dfs] {id : Nat} {Q : Exit → Act → World → Prop} {a : Act} {w : World} (hm : P.follows .mixedOrders = true) (hB : Region.lexB .any l.toArray = true) (hF : Fr n L a) (hS : St w0 zs hs w)
    (s : Sq P n w0 zs hs l.toArray k L l L' []) (K : ∀ a w, Fr n L' a → St w0 zs hs w → Q .normal a w) : (Code.region id l.toArray true).wp P Q a w :=
  wp_region_quiet (C := St w0 zs hs) hm hB (hS.drew _) (wpq_sq (by exact hF) s fun a hF w hS => K a w hF hS)

/-- A region in the text's order, operation by operation. -/
theorem regl {id : Nat} {Q : Exit → Act → World → Prop} {a : Act} {w : World} (h : wpList P l.toArray Q l a w) : (Code.region id l.toArray false).wp P Q a w := wp_region_lit h
end
end Go.Fw
end

section
namespace Go.Fw

abbrev vi (x : Int) : Value := .int .i64 x
abbrev vb (x : UInt8) : Value := .int .u8 (x.toNat : Int)
abbrev vw (x : UInt32) : Value := .int .u32 (x.toNat : Int)
abbrev vq (x : UInt64) : Value := .int .u64 (x.toNat : Int)
abbrev vt (b : Bool) : Value := .bool b
@[reducible] def bs (l : List UInt8) : ByteArray := ⟨l.toArray⟩
abbrev vs (l : List UInt8) : Value := .string (bs l)

/-- What is known of a type. -/
structure Tf (P : Program) (t : TypeId) (d : TypeDesc) (s b : Nat) (z : Value) : Prop where
  und : P.underlying t = some d
  inf : (P.info? t).map (fun i => (i.size, i.bytes, i.zero)) = some (s, b, some z)

/-- Bits of integers. -/
def iand (x y : Int) : Int := IntKind.i64.wrap (BitVec.ofInt 64 x &&& BitVec.ofInt 64 y).toNat
def ior (x y : Int) : Int := IntKind.i64.wrap (BitVec.ofInt 64 x ||| BitVec.ofInt 64 y).toNat
def ixor (x y : Int) : Int := IntKind.i64.wrap (BitVec.ofInt 64 x ^^^ BitVec.ofInt 64 y).toNat
def iandNot (x y : Int) : Int := IntKind.i64.wrap (BitVec.ofInt 64 x &&& ~~~(BitVec.ofInt 64 y)).toNat
/-- A number of 64 bits, read with a sign. -/
def sgn (x : UInt64) : Int := if x.toNat < 9223372036854775808 then x.toNat else (x.toNat : Int) - 18446744073709551616

theorem toNat8 (x : UInt8) : 0 ≤ (x.toNat : Int) ∧ (x.toNat : Int) < 256 := ⟨by omega, by have := x.toNat_lt; omega⟩
theorem toNat32 (x : UInt32) : 0 ≤ (x.toNat : Int) ∧ (x.toNat : Int) < 4294967296 := ⟨by omega, by have := x.toNat_lt; omega⟩
theorem toNat64 (x : UInt64) : 0 ≤ (x.toNat : Int) ∧ (x.toNat : Int) < 18446744073709551616 := ⟨by omega, by have := x.toNat_lt; omega⟩

section
variable {P : Program} {n : Nat} {w0 : World} {zs : List PH} {hs : List Res} {L : List (Nat × Value)} {d : Option Tmp} {ty t t' : TypeId} {pos : String} {af : Array Edge} {g : Option (Nat × Bool)}
variable {x y z c o1 o2 o3 : Operand} {u v : Value}

/-- From a run equation. -/
theorem qt_of [Dfs] {o : Oper} (h : ∀ a, Fr n L a → ∀ w, St w0 zs hs w → (execOp a.eval o).run P w = .ok (.value v) w) : Qt P n w0 zs hs L o v :=
  fun a ha w hw => by rw [h a ha w hw]; exact ⟨rfl, rfl⟩

theorem q_move [Dfs] (h : opv L x = some v) : Qt P n w0 zs hs L ⟨d, .move x, ty, pos, af, g⟩ v :=
  qt_of fun a ha w _ => by simp [execOp, ha.eval h]
theorem q_assign [Dfs] (h : opv L x = some v) : Qt P n w0 zs hs L ⟨d, .assign x, ty, pos, af, g⟩ v :=
  qt_of fun a ha w _ => by simp [execOp, ha.eval h]
theorem q_pick_t [Dfs] (h : opv L c = some (.bool true)) (h1 : opv L x = some u) : Qt P n w0 zs hs L ⟨d, .pick c x y, ty, pos, af, g⟩ u :=
  qt_of fun a ha w _ => by simp [execOp, ha.eval h, ha.eval h1, asBool]
theorem q_pick_f [Dfs] (h : opv L c = some (.bool false)) (h2 : opv L y = some v) : Qt P n w0 zs hs L ⟨d, .pick c x y, ty, pos, af, g⟩ v :=
  qt_of fun a ha w _ => by simp [execOp, ha.eval h, ha.eval h2, asBool]

/-! binary operators -/
theorem q_bin [Dfs] {op : BinOp} {p q r : Value} (h1 : opv L x = some p) (h2 : opv L y = some q) (hg : ∀ w, (eqGuard op t x y p q).run P w = .ok () w) (h : ∀ w, (binOp op t p q).run P w = .ok r w) :
    Qt P n w0 zs hs L ⟨d, .binOp op t x y t', ty, pos, af, g⟩ r :=
  qt_of fun a ha w _ => by
    simp only [execOp, ha.eval h1, ha.eval h2]
    simp [hg w, h w]

theorem eqg_int {op : BinOp} {k k' : IntKind} {p q : Int} (w : World) : (eqGuard op t x y (.int k p) (.int k' q)).run P w = .ok () w := by
  cases op <;> simp [eqGuard]
theorem eqg_str {op : BinOp} {p q : ByteArray} (w : World) : (eqGuard op t x y (.string p) (.string q)).run P w = .ok () w := by
  cases op <;> simp [eqGuard]
/-! int -/
theorem q_addi [Dfs] {p q : Int} (h1 : opv L x = some (vi p)) (h2 : opv L y = some (vi q)) (hb : -9223372036854775808 ≤ p + q ∧ p + q ≤ 9223372036854775807) :
    Qt P n w0 zs hs L ⟨d, .binOp .add t x y t', ty, pos, af, g⟩ (vi (p + q)) :=
  q_bin h1 h2 eqg_int fun w => by simp [binOp, Op.intArith, IntWalk.i64_in _ hb]
theorem q_subi [Dfs] {p q : Int} (h1 : opv L x = some (vi p)) (h2 : opv L y = some (vi q)) (hb : -9223372036854775808 ≤ p - q ∧ p - q ≤ 9223372036854775807) :
    Qt P n w0 zs hs L ⟨d, .binOp .sub t x y t', ty, pos, af, g⟩ (vi (p - q)) :=
  q_bin h1 h2 eqg_int fun w => by simp [binOp, Op.intArith, IntWalk.i64_in _ hb]
theorem q_muli [Dfs] {p q : Int} (h1 : opv L x = some (vi p)) (h2 : opv L y = some (vi q)) (hb : -9223372036854775808 ≤ p * q ∧ p * q ≤ 9223372036854775807) :
    Qt P n w0 zs hs L ⟨d, .binOp .mul t x y t', ty, pos, af, g⟩ (vi (p * q)) :=
  q_bin h1 h2 eqg_int fun w => by simp [binOp, Op.intArith, IntWalk.i64_in _ hb]
theorem q_quoi [Dfs] {p q : Int} (h1 : opv L x = some (vi p)) (h2 : opv L y = some (vi q)) (hb : 0 ≤ p ∧ p ≤ 9223372036854775807 ∧ 1 ≤ q) :
    Qt P n w0 zs hs L ⟨d, .binOp .quo t x y t', ty, pos, af, g⟩ (vi (p / q)) :=
  q_bin h1 h2 eqg_int fun w => by
    have : ¬ q = 0 := by omega
    simp [binOp, Op.intDiv, this, IntWalk.i64_quo _ _ hb]
theorem q_remi [Dfs] {p q : Int} (h1 : opv L x = some (vi p)) (h2 : opv L y = some (vi q)) (hb : 0 ≤ p ∧ 1 ≤ q) :
    Qt P n w0 zs hs L ⟨d, .binOp .rem t x y t', ty, pos, af, g⟩ (vi (p % q)) :=
  q_bin h1 h2 eqg_int fun w => by
    have : ¬ q = 0 := by omega
    simp [binOp, Op.intDiv, this, IntWalk.rem_in _ _ hb.1]
theorem q_eqi [Dfs] {p q : Int} (h1 : opv L x = some (vi p)) (h2 : opv L y = some (vi q)) : Qt P n w0 zs hs L ⟨d, .binOp .eql t x y t', ty, pos, af, g⟩ (.bool (decide (p = q))) :=
  q_bin h1 h2 eqg_int fun w => by simp [binOp, Op.intCmp]; rfl
theorem q_nei [Dfs] {p q : Int} (h1 : opv L x = some (vi p)) (h2 : opv L y = some (vi q)) : Qt P n w0 zs hs L ⟨d, .binOp .neq t x y t', ty, pos, af, g⟩ (.bool (!decide (p = q))) :=
  q_bin h1 h2 eqg_int fun w => by simp [binOp, Op.intCmp]; rfl
theorem q_lti [Dfs] {p q : Int} (h1 : opv L x = some (vi p)) (h2 : opv L y = some (vi q)) : Qt P n w0 zs hs L ⟨d, .binOp .lss t x y t', ty, pos, af, g⟩ (.bool (decide (p < q))) :=
  q_bin h1 h2 eqg_int fun w => by simp [binOp, Op.intCmp]
theorem q_gti [Dfs] {p q : Int} (h1 : opv L x = some (vi p)) (h2 : opv L y = some (vi q)) : Qt P n w0 zs hs L ⟨d, .binOp .gtr t x y t', ty, pos, af, g⟩ (.bool (decide (q < p))) :=
  q_bin h1 h2 eqg_int fun w => by simp [binOp, Op.intCmp]
theorem q_gei [Dfs] {p q : Int} (h1 : opv L x = some (vi p)) (h2 : opv L y = some (vi q)) : Qt P n w0 zs hs L ⟨d, .binOp .geq t x y t', ty, pos, af, g⟩ (.bool (decide (q ≤ p))) :=
  q_bin h1 h2 eqg_int fun w => by simp [binOp, Op.intCmp]
theorem q_ori [Dfs] {p q : Int} (h1 : opv L x = some (vi p)) (h2 : opv L y = some (vi q)) : Qt P n w0 zs hs L ⟨d, .binOp .or t x y t', ty, pos, af, g⟩ (vi (ior p q)) :=
  q_bin h1 h2 eqg_int fun w => rfl
theorem q_shli [Dfs] {k : IntKind} {p q : Int} (h1 : opv L x = some (vi p)) (h2 : opv L y = some (.int k q)) (hq : 0 ≤ q) (hb : -9223372036854775808 ≤ p * 2 ^ (min q.toNat 64) ∧ p * 2 ^ (min q.toNat 64) ≤ 9223372036854775807) :
    Qt P n w0 zs hs L ⟨d, .binOp .shl t x y t', ty, pos, af, g⟩ (vi (p * 2 ^ (min q.toNat 64))) :=
  q_bin h1 h2 eqg_int fun w => by
    have : ¬ q < 0 := by omega
    simp [binOp, Op.shift, this, IntKind.bits, IntWalk.i64_in _ hb]
theorem q_shri [Dfs] {k : IntKind} {p q : Int} (h1 : opv L x = some (vi p)) (h2 : opv L y = some (.int k q)) (hq : 0 ≤ q) :
    Qt P n w0 zs hs L ⟨d, .binOp .shr t x y t', ty, pos, af, g⟩ (vi (p / 2 ^ (min q.toNat 64))) :=
  q_bin h1 h2 eqg_int fun w => by
    have : ¬ q < 0 := by omega
    have h2 : (0 : Int) ≤ 2 ^ (min q.toNat 64) := Int.pow_nonneg (by omega)
    simp [binOp, Op.shift, this, IntKind.bits, Int.fdiv_eq_ediv_of_nonneg _ h2]
theorem q_negi [Dfs] {p : Int} (h1 : opv L x = some (vi p)) (hb : -9223372036854775808 ≤ -p ∧ -p ≤ 9223372036854775807) : Qt P n w0 zs hs L ⟨d, .unOp .neg t x, ty, pos, af, g⟩ (vi (-p)) :=
  qt_of fun a ha w _ => by
    simp only [execOp, ha.eval h1]
    simp [Op.unary, Op.intArith, IntWalk.i64_in _ hb]
theorem q_not [Dfs] {b : Bool} (h1 : opv L x = some (.bool b)) : Qt P n w0 zs hs L ⟨d, .unOp .not t x, ty, pos, af, g⟩ (.bool (!b)) :=
  qt_of fun a ha w _ => by
    simp only [execOp, ha.eval h1]
    simp [Op.unary]


/-! UInt8 -/
theorem wrap_u8 (n : Int) : IntKind.u8.wrap n = n % 256 := by simp [IntKind.wrap, IntKind.bits, IntKind.signed]
def ofb (n : Int) : UInt8 := UInt8.ofNat (n % 256).toNat
theorem ofb_toNat (n : Int) : ((ofb n).toNat : Int) = n % 256 := by
  unfold ofb
  have h1 : 0 ≤ n % 256 := Int.emod_nonneg _ (by omega)
  have h2 : n % 256 < 256 := Int.emod_lt_of_pos _ (by omega)
  rw [UInt8.toNat_ofNat']
  have : (n % 256).toNat < 2 ^ 8 := by simp; omega
  rw [Nat.mod_eq_of_lt this]
  exact Int.toNat_of_nonneg h1
theorem bvb (a : UInt8) : BitVec.ofInt 8 (a.toNat : Int) = a.toBitVec := by
  rw [BitVec.ofInt_natCast]
  simp

theorem q_addb [Dfs] {p q : UInt8} (h1 : opv L x = some (vb p)) (h2 : opv L y = some (vb q)) : Qt P n w0 zs hs L ⟨d, .binOp .add t x y t', ty, pos, af, g⟩ (vb (p + q)) :=
  q_bin h1 h2 eqg_int fun w => by
    have e : IntKind.u8.wrap ((p.toNat : Int) + q.toNat) = ((p + q).toNat : Int) := by
      have hp := toNat8 p
      have hq := toNat8 q
      rw [wrap_u8, UInt8.toNat_add]
      omega
    simp [binOp, Op.intArith, e]

theorem q_xorb [Dfs] {p q : UInt8} (h1 : opv L x = some (vb p)) (h2 : opv L y = some (vb q)) : Qt P n w0 zs hs L ⟨d, .binOp .xor t x y t', ty, pos, af, g⟩ (vb (p ^^^ q)) :=
  q_bin h1 h2 eqg_int fun w => by
    have e : IntKind.u8.wrap ((BitVec.ofInt 8 (p.toNat : Int) ^^^ BitVec.ofInt 8 (q.toNat : Int)).toNat : Int) = ((p ^^^ q).toNat : Int) := by
      rw [bvb, bvb, ← UInt8.toBitVec_xor, UInt8.toNat_toBitVec, wrap_u8]
      have := toNat8 (p ^^^ q)
      omega
    exact congrArg (fun z => Result.ok (Value.int IntKind.u8 z) w) e

theorem q_shlb [Dfs] {k : IntKind} {p : UInt8} {q : Int} (h1 : opv L x = some (vb p)) (h2 : opv L y = some (.int k q)) (hq : 0 ≤ q) : Qt P n w0 zs hs L ⟨d, .binOp .shl t x y t', ty, pos, af, g⟩ (vb (ofb ((p.toNat : Int) * 2 ^ (min q.toNat 8)))) :=
  q_bin h1 h2 eqg_int fun w => by
    have : ¬ q < 0 := by omega
    show _ = Result.ok (Value.int .u8 ((ofb ((p.toNat : Int) * 2 ^ (min q.toNat 8))).toNat : Int)) w
    rw [ofb_toNat, ← wrap_u8]
    simp [binOp, Op.shift, this, IntKind.bits]
theorem q_neb [Dfs] {p q : UInt8} (h1 : opv L x = some (vb p)) (h2 : opv L y = some (vb q)) : Qt P n w0 zs hs L ⟨d, .binOp .neq t x y t', ty, pos, af, g⟩ (.bool (!decide (p = q))) :=
  q_bin h1 h2 eqg_int fun w => by
    have e : ((p.toNat : Int) == (q.toNat : Int)) = decide (p = q) := by
      rw [Bool.eq_iff_iff]; simp [← UInt8.toNat_inj, Int.ofNat_inj]
    simp [binOp, Op.intCmp, bne, e]

/-! UInt32 -/
theorem wrap_u32 (n : Int) : IntKind.u32.wrap n = n % 4294967296 := by simp [IntKind.wrap, IntKind.bits, IntKind.signed]
def ofw (n : Int) : UInt32 := UInt32.ofNat (n % 4294967296).toNat
theorem ofw_toNat (n : Int) : ((ofw n).toNat : Int) = n % 4294967296 := by
  unfold ofw
  have h1 : 0 ≤ n % 4294967296 := Int.emod_nonneg _ (by omega)
  have h2 : n % 4294967296 < 4294967296 := Int.emod_lt_of_pos _ (by omega)
  rw [UInt32.toNat_ofNat']
  have : (n % 4294967296).toNat < 2 ^ 32 := by simp; omega
  rw [Nat.mod_eq_of_lt this]
  exact Int.toNat_of_nonneg h1
theorem bvw (a : UInt32) : BitVec.ofInt 32 (a.toNat : Int) = a.toBitVec := by
  rw [BitVec.ofInt_natCast]
  simp

theorem q_addw [Dfs] {p q : UInt32} (h1 : opv L x = some (vw p)) (h2 : opv L y = some (vw q)) : Qt P n w0 zs hs L ⟨d, .binOp .add t x y t', ty, pos, af, g⟩ (vw (p + q)) :=
  q_bin h1 h2 eqg_int fun w => by
    have e : IntKind.u32.wrap ((p.toNat : Int) + q.toNat) = ((p + q).toNat : Int) := by
      have hp := toNat32 p
      have hq := toNat32 q
      rw [wrap_u32, UInt32.toNat_add]
      omega
    simp [binOp, Op.intArith, e]

theorem q_andw [Dfs] {p q : UInt32} (h1 : opv L x = some (vw p)) (h2 : opv L y = some (vw q)) : Qt P n w0 zs hs L ⟨d, .binOp .and t x y t', ty, pos, af, g⟩ (vw (p &&& q)) :=
  q_bin h1 h2 eqg_int fun w => by
    have e : IntKind.u32.wrap ((BitVec.ofInt 32 (p.toNat : Int) &&& BitVec.ofInt 32 (q.toNat : Int)).toNat : Int) = ((p &&& q).toNat : Int) := by
      rw [bvw, bvw, ← UInt32.toBitVec_and, UInt32.toNat_toBitVec, wrap_u32]
      have := toNat32 (p &&& q)
      omega
    exact congrArg (fun z => Result.ok (Value.int IntKind.u32 z) w) e

theorem q_orw [Dfs] {p q : UInt32} (h1 : opv L x = some (vw p)) (h2 : opv L y = some (vw q)) : Qt P n w0 zs hs L ⟨d, .binOp .or t x y t', ty, pos, af, g⟩ (vw (p ||| q)) :=
  q_bin h1 h2 eqg_int fun w => by
    have e : IntKind.u32.wrap ((BitVec.ofInt 32 (p.toNat : Int) ||| BitVec.ofInt 32 (q.toNat : Int)).toNat : Int) = ((p ||| q).toNat : Int) := by
      rw [bvw, bvw, ← UInt32.toBitVec_or, UInt32.toNat_toBitVec, wrap_u32]
      have := toNat32 (p ||| q)
      omega
    exact congrArg (fun z => Result.ok (Value.int IntKind.u32 z) w) e

theorem q_xorw [Dfs] {p q : UInt32} (h1 : opv L x = some (vw p)) (h2 : opv L y = some (vw q)) : Qt P n w0 zs hs L ⟨d, .binOp .xor t x y t', ty, pos, af, g⟩ (vw (p ^^^ q)) :=
  q_bin h1 h2 eqg_int fun w => by
    have e : IntKind.u32.wrap ((BitVec.ofInt 32 (p.toNat : Int) ^^^ BitVec.ofInt 32 (q.toNat : Int)).toNat : Int) = ((p ^^^ q).toNat : Int) := by
      rw [bvw, bvw, ← UInt32.toBitVec_xor, UInt32.toNat_toBitVec, wrap_u32]
      have := toNat32 (p ^^^ q)
      omega
    exact congrArg (fun z => Result.ok (Value.int IntKind.u32 z) w) e

theorem q_notw [Dfs] {p : UInt32} (h1 : opv L x = some (vw p)) : Qt P n w0 zs hs L ⟨d, .unOp .xor t x, ty, pos, af, g⟩ (vw (~~~p)) :=
  qt_of fun a ha w _ => by
    have e0 : BitVec.ofInt 32 (IntKind.u32.max) = BitVec.allOnes 32 := by decide
    have e : IntKind.u32.wrap ((BitVec.ofInt 32 (IntKind.u32.max) ^^^ BitVec.ofInt 32 (p.toNat : Int)).toNat : Int) = ((~~~p).toNat : Int) := by
      rw [bvw, e0, BitVec.allOnes_xor, ← UInt32.toBitVec_not, UInt32.toNat_toBitVec, wrap_u32]
      have := toNat32 (~~~p)
      omega
    simp only [execOp, ha.eval h1]
    exact congrArg (fun z => Result.ok (Next.value (Value.int IntKind.u32 z)) w) e
theorem q_shlw [Dfs] {k : IntKind} {p : UInt32} {q : Int} (h1 : opv L x = some (vw p)) (h2 : opv L y = some (.int k q)) (hq : 0 ≤ q) : Qt P n w0 zs hs L ⟨d, .binOp .shl t x y t', ty, pos, af, g⟩ (vw (ofw ((p.toNat : Int) * 2 ^ (min q.toNat 32)))) :=
  q_bin h1 h2 eqg_int fun w => by
    have : ¬ q < 0 := by omega
    show _ = Result.ok (Value.int .u32 ((ofw ((p.toNat : Int) * 2 ^ (min q.toNat 32))).toNat : Int)) w
    rw [ofw_toNat, ← wrap_u32]
    simp [binOp, Op.shift, this, IntKind.bits]
theorem q_shrw [Dfs] {k : IntKind} {p : UInt32} {q : Int} (h1 : opv L x = some (vw p)) (h2 : opv L y = some (.int k q)) (hq : 0 ≤ q) : Qt P n w0 zs hs L ⟨d, .binOp .shr t x y t', ty, pos, af, g⟩ (vw (UInt32.ofNat (p.toNat / 2 ^ (min q.toNat 32)))) :=
  q_bin h1 h2 eqg_int fun w => by
    have : ¬ q < 0 := by omega
    have h2 : (0 : Int) ≤ 2 ^ (min q.toNat 32) := Int.pow_nonneg (by omega)
    have e : ((UInt32.ofNat (p.toNat / 2 ^ (min q.toNat 32))).toNat : Int) = (p.toNat : Int) / 2 ^ (min q.toNat 32) := by
      rw [UInt32.toNat_ofNat']
      have h3 : p.toNat / 2 ^ (min q.toNat 32) ≤ p.toNat := Nat.div_le_self _ _
      have h4 := p.toNat_lt
      rw [Nat.mod_eq_of_lt (by omega)]
      push_cast
      rfl
    show _ = Result.ok (Value.int .u32 ((UInt32.ofNat (p.toNat / 2 ^ (min q.toNat 32))).toNat : Int)) w
    rw [e]
    simp [binOp, Op.shift, this, IntKind.bits, Int.fdiv_eq_ediv_of_nonneg _ h2]

/-! UInt64 -/
theorem wrap_u64 (n : Int) : IntKind.u64.wrap n = n % 18446744073709551616 := by simp [IntKind.wrap, IntKind.bits, IntKind.signed]
def ofq (n : Int) : UInt64 := UInt64.ofNat (n % 18446744073709551616).toNat
theorem ofq_toNat (n : Int) : ((ofq n).toNat : Int) = n % 18446744073709551616 := by
  unfold ofq
  have h1 : 0 ≤ n % 18446744073709551616 := Int.emod_nonneg _ (by omega)
  have h2 : n % 18446744073709551616 < 18446744073709551616 := Int.emod_lt_of_pos _ (by omega)
  rw [UInt64.toNat_ofNat']
  have : (n % 18446744073709551616).toNat < 2 ^ 64 := by simp; omega
  rw [Nat.mod_eq_of_lt this]
  exact Int.toNat_of_nonneg h1
theorem bvq (a : UInt64) : BitVec.ofInt 64 (a.toNat : Int) = a.toBitVec := by
  rw [BitVec.ofInt_natCast]
  simp

theorem q_addq [Dfs] {p q : UInt64} (h1 : opv L x = some (vq p)) (h2 : opv L y = some (vq q)) : Qt P n w0 zs hs L ⟨d, .binOp .add t x y t', ty, pos, af, g⟩ (vq (p + q)) :=
  q_bin h1 h2 eqg_int fun w => by
    have e : IntKind.u64.wrap ((p.toNat : Int) + q.toNat) = ((p + q).toNat : Int) := by
      have hp := toNat64 p
      have hq := toNat64 q
      rw [wrap_u64, UInt64.toNat_add]
      omega
    simp [binOp, Op.intArith, e]

theorem q_subq [Dfs] {p q : UInt64} (h1 : opv L x = some (vq p)) (h2 : opv L y = some (vq q)) : Qt P n w0 zs hs L ⟨d, .binOp .sub t x y t', ty, pos, af, g⟩ (vq (p - q)) :=
  q_bin h1 h2 eqg_int fun w => by
    have e : IntKind.u64.wrap ((p.toNat : Int) - q.toNat) = ((p - q).toNat : Int) := by
      have hp := toNat64 p
      have hq := toNat64 q
      rw [wrap_u64, UInt64.toNat_sub]
      omega
    simp [binOp, Op.intArith, e]

theorem q_mulq [Dfs] {p q : UInt64} (h1 : opv L x = some (vq p)) (h2 : opv L y = some (vq q)) : Qt P n w0 zs hs L ⟨d, .binOp .mul t x y t', ty, pos, af, g⟩ (vq (p * q)) :=
  q_bin h1 h2 eqg_int fun w => by
    have e : IntKind.u64.wrap ((p.toNat : Int) * q.toNat) = ((p * q).toNat : Int) := by
      have hp := toNat64 p
      have hq := toNat64 q
      rw [wrap_u64, UInt64.toNat_mul]
      simp
    simp [binOp, Op.intArith, e]

theorem q_andq [Dfs] {p q : UInt64} (h1 : opv L x = some (vq p)) (h2 : opv L y = some (vq q)) : Qt P n w0 zs hs L ⟨d, .binOp .and t x y t', ty, pos, af, g⟩ (vq (p &&& q)) :=
  q_bin h1 h2 eqg_int fun w => by
    have e : IntKind.u64.wrap ((BitVec.ofInt 64 (p.toNat : Int) &&& BitVec.ofInt 64 (q.toNat : Int)).toNat : Int) = ((p &&& q).toNat : Int) := by
      rw [bvq, bvq, ← UInt64.toBitVec_and, UInt64.toNat_toBitVec, wrap_u64]
      have := toNat64 (p &&& q)
      omega
    exact congrArg (fun z => Result.ok (Value.int IntKind.u64 z) w) e

theorem q_remq [Dfs] {p q : UInt64} (h1 : opv L x = some (vq p)) (h2 : opv L y = some (vq q)) (hq : q ≠ 0) : Qt P n w0 zs hs L ⟨d, .binOp .rem t x y t', ty, pos, af, g⟩ (vq (p % q)) :=
  q_bin h1 h2 eqg_int fun w => by
    have h0 : ¬ ((q.toNat : Int) = 0) := fun h => hq (by apply UInt64.toNat_inj.1; simp at h ⊢; omega)
    have e : (Int.tmod (p.toNat : Int) q.toNat) = ((p % q).toNat : Int) := by
      rw [UInt64.toNat_mod, Int.tmod_eq_emod_of_nonneg (by omega)]; rfl
    have e3 : (binOp .rem t (vq p) (vq q)).run P w = (if (q.toNat : Int) = 0 then runtimePanic (.error "integer divide by zero") else pure (.int .u64 (Int.tmod (p.toNat : Int) q.toNat))).run P w := rfl
    rw [e3, if_neg h0, e]
    rfl
theorem q_shrq [Dfs] {k : IntKind} {p : UInt64} {q : Int} (h1 : opv L x = some (vq p)) (h2 : opv L y = some (.int k q)) (hq : 0 ≤ q) : Qt P n w0 zs hs L ⟨d, .binOp .shr t x y t', ty, pos, af, g⟩ (vq (UInt64.ofNat (p.toNat / 2 ^ (min q.toNat 64)))) :=
  q_bin h1 h2 eqg_int fun w => by
    have : ¬ q < 0 := by omega
    have h2 : (0 : Int) ≤ 2 ^ (min q.toNat 64) := Int.pow_nonneg (by omega)
    have e : ((UInt64.ofNat (p.toNat / 2 ^ (min q.toNat 64))).toNat : Int) = (p.toNat : Int) / 2 ^ (min q.toNat 64) := by
      rw [UInt64.toNat_ofNat']
      have h3 : p.toNat / 2 ^ (min q.toNat 64) ≤ p.toNat := Nat.div_le_self _ _
      have h4 := p.toNat_lt
      rw [Nat.mod_eq_of_lt (by omega)]
      push_cast
      rfl
    show _ = Result.ok (Value.int .u64 ((UInt64.ofNat (p.toNat / 2 ^ (min q.toNat 64))).toNat : Int)) w
    rw [e]
    simp [binOp, Op.shift, this, IntKind.bits, Int.fdiv_eq_ediv_of_nonneg _ h2]

/-! conversions -/
theorem q_conv [Dfs] {k : IntKind} {p q : Int} {k' : IntKind} {d1 d2 : TypeDesc} {s1 b1 s2 b2 : Nat} {z1 z2 : Value} (ht : Tf P t d1 s1 b1 z1) (ht' : Tf P t' d2 s2 b2 z2) (hd1 : d1 = .int k) (hd2 : d2 = .int k') (h1 : opv L x = some (.int k p)) (hq : k'.wrap p = q) :
    Qt P n w0 zs hs L ⟨d, .convert t t' x, ty, pos, af, g⟩ (.int k' q) :=
  qt_of fun a ha w _ => by
    have e1 := run_underlying ht.und (w := w)
    have e2 := run_underlying ht'.und (w := w)
    subst hd1 hd2
    simp only [execOp, ha.eval h1]
    simp [convert, e1, e2, Conv.intToInt, hq]

theorem q_cv_ib [Dfs] {p : Int} {s1 b1 s2 b2 : Nat} {z1 z2 : Value} (ht : Tf P t (.int .i64) s1 b1 z1) (ht' : Tf P t' (.int .u8) s2 b2 z2) (h1 : opv L x = some (vi p)) :
    Qt P n w0 zs hs L ⟨d, .convert t t' x, ty, pos, af, g⟩ (vb (ofb p)) :=
  q_conv ht ht' rfl rfl h1 (by rw [ofb_toNat, wrap_u8])

theorem q_cv_iq [Dfs] {p : Int} {s1 b1 s2 b2 : Nat} {z1 z2 : Value} (ht : Tf P t (.int .i64) s1 b1 z1) (ht' : Tf P t' (.int .u64) s2 b2 z2) (h1 : opv L x = some (vi p)) :
    Qt P n w0 zs hs L ⟨d, .convert t t' x, ty, pos, af, g⟩ (vq (ofq p)) :=
  q_conv ht ht' rfl rfl h1 (by rw [ofq_toNat, wrap_u64])

theorem q_cv_bi [Dfs] {p : UInt8} {s1 b1 s2 b2 : Nat} {z1 z2 : Value} (ht : Tf P t (.int .u8) s1 b1 z1) (ht' : Tf P t' (.int .i64) s2 b2 z2) (h1 : opv L x = some (vb p)) :
    Qt P n w0 zs hs L ⟨d, .convert t t' x, ty, pos, af, g⟩ (vi (p.toNat)) :=
  q_conv ht ht' rfl rfl h1 (IntWalk.i64_in _ (by have := toNat8 p; omega))

theorem q_cv_bw [Dfs] {p : UInt8} {s1 b1 s2 b2 : Nat} {z1 z2 : Value} (ht : Tf P t (.int .u8) s1 b1 z1) (ht' : Tf P t' (.int .u32) s2 b2 z2) (h1 : opv L x = some (vb p)) :
    Qt P n w0 zs hs L ⟨d, .convert t t' x, ty, pos, af, g⟩ (vw (ofw (p.toNat : Int))) :=
  q_conv ht ht' rfl rfl h1 (by rw [ofw_toNat, wrap_u32])

theorem q_cv_wb [Dfs] {p : UInt32} {s1 b1 s2 b2 : Nat} {z1 z2 : Value} (ht : Tf P t (.int .u32) s1 b1 z1) (ht' : Tf P t' (.int .u8) s2 b2 z2) (h1 : opv L x = some (vw p)) :
    Qt P n w0 zs hs L ⟨d, .convert t t' x, ty, pos, af, g⟩ (vb (ofb (p.toNat : Int))) :=
  q_conv ht ht' rfl rfl h1 (by rw [ofb_toNat, wrap_u8])

theorem q_cv_qi [Dfs] {p : UInt64} {s1 b1 s2 b2 : Nat} {z1 z2 : Value} (ht : Tf P t (.int .u64) s1 b1 z1) (ht' : Tf P t' (.int .i64) s2 b2 z2) (h1 : opv L x = some (vq p)) :
    Qt P n w0 zs hs L ⟨d, .convert t t' x, ty, pos, af, g⟩ (vi (sgn p)) :=
  q_conv ht ht' rfl rfl h1 (by have := toNat64 p; rw [IntKind.wrap_i64]; unfold sgn; split <;> omega)

theorem q_cv_qb [Dfs] {p : UInt64} {s1 b1 s2 b2 : Nat} {z1 z2 : Value} (ht : Tf P t (.int .u64) s1 b1 z1) (ht' : Tf P t' (.int .u8) s2 b2 z2) (h1 : opv L x = some (vq p)) :
    Qt P n w0 zs hs L ⟨d, .convert t t' x, ty, pos, af, g⟩ (vb (ofb (p.toNat : Int))) :=
  q_conv ht ht' rfl rfl h1 (by rw [ofb_toNat, wrap_u8])

/-! strings -/
theorem bs_append (a b : List UInt8) : bs a ++ bs b = bs (a ++ b) := by
  apply ByteArray.ext
  simp [bs, ByteArray.data_append]
theorem q_adds [Dfs] {p q : List UInt8} (h1 : opv L x = some (vs p)) (h2 : opv L y = some (vs q)) (hb : p.length + q.length ≤ 9223372036854775807) :
    Qt P n w0 zs hs L ⟨d, .binOp .add t x y t', ty, pos, af, g⟩ (vs (p ++ q)) :=
  q_bin h1 h2 eqg_str fun w => by
    have hm : IntKind.i64.max = 9223372036854775807 := by decide
    have : ¬ ((((bs p).size + (bs q).size : Nat) : Int) > IntKind.i64.max) := by rw [hm]; simp [ByteArray.size]; omega
    simp only [binOp, Op.stringOp]
    rw [if_neg this, bs_append]
    rfl
theorem q_eqs [Dfs] {p q : List UInt8} (h1 : opv L x = some (vs p)) (h2 : opv L y = some (vs q)) : Qt P n w0 zs hs L ⟨d, .binOp .eql t x y t', ty, pos, af, g⟩ (.bool (decide (p = q))) :=
  q_bin h1 h2 eqg_str fun w => by
    have : (p == q) = decide (p = q) := by rw [Bool.eq_iff_iff]; simp
    simp [binOp, Op.stringOp, this]
theorem q_nes [Dfs] {p q : List UInt8} (h1 : opv L x = some (vs p)) (h2 : opv L y = some (vs q)) : Qt P n w0 zs hs L ⟨d, .binOp .neq t x y t', ty, pos, af, g⟩ (.bool (!decide (p = q))) :=
  q_bin h1 h2 eqg_str fun w => by
    have : (p == q) = decide (p = q) := by rw [Bool.eq_iff_iff]; simp
    simp [binOp, Op.stringOp, this]
end
end Go.Fw
end

section
namespace Go.Fw

/-! ### slices that are read -/
structure Enc (α : Type) where
  size : Nat
  rep : PH → α → List Value → Prop
  mono : ∀ {z z' : PH} {x : α} {c : List Value}, z.le z' → rep z x c → rep z' x c
  len : ∀ {z : PH} {x : α} {c : List Value}, rep z x c → c.length = size
  one : ∀ {z : PH} {x : α} {c : List Value}, rep z x c → ∀ u ∈ c, u.oneCell' = true

def elemPtr (v : Value) (k : Nat) : Value :=
  match v with
  | .slice (some a) _ _ => .pointer (some (a.add k))
  | _ => undef

/-- 'v' is a slice that reads as xs in the part 'z' of the heap. -/
def Sl {α : Type} (E : Enc α) (z : PH) (v : Value) (xs : List α) : Prop :=
  xs.length ≤ 140737488355328 ∧ ∃ a c, v = .slice a xs.length c ∧ xs.length ≤ c ∧
    ∀ (i : Nat) (x : α), xs[i]? = some x → ∃ b off cs ty fz cx, a = some ⟨b, off, none⟩ ∧ z b = some (.cells cs ty fz) ∧ E.rep z x cx ∧ ∀ j u, cx[j]? = some u → cs[off + i * E.size + j]? = some u

theorem Sl.mono {α : Type} {E : Enc α} {z z' : PH} {v : Value} {xs : List α} (hz : z.le z') (h : Sl E z v xs) : Sl E z' v xs := by
  obtain ⟨hb, a, c, rfl, hc, h⟩ := h
  refine ⟨hb, a, c, rfl, hc, fun i x hx => ?_⟩
  obtain ⟨b, off, cs, ty, fz, cx, h1, h2, h3, h4⟩ := h i x hx
  exact ⟨b, off, cs, ty, fz, cx, h1, hz _ _ h2, E.mono hz h3, h4⟩

/-- An element type of one cell, that points nowhere. -/
def encV {α : Type} (f : α → Value) (p : α → Prop) (h0 : ∀ x, (f x).oneCell' = true) : Enc α where
  size := 1
  rep _ x c := c = [f x] ∧ p x
  mono _ h := h
  len h := by rw [h.1]; rfl
  one h u hu := by rw [h.1] at hu; simp only [List.mem_singleton] at hu; subst hu; exact h0 _

def encI : Enc Int := encV vi (fun x => -9223372036854775808 ≤ x ∧ x ≤ 9223372036854775807) fun _ => rfl
def encB : Enc UInt8 := encV vb (fun _ => True) fun _ => rfl
def encW : Enc UInt32 := encV vw (fun _ => True) fun _ => rfl
def encT : Enc Bool := encV vt (fun _ => True) fun _ => rfl
def encS : Enc (List UInt8) := encV vs (fun s => s.length ≤ 140737488355328) fun _ => rfl
/-- Slices of slices. -/
def encSl {α : Type} (E : Enc α) : Enc (List α) where
  size := 1
  rep z x c := ∃ v, c = [v] ∧ Sl E z v x
  mono hz h := by obtain ⟨v, h1, h2⟩ := h; exact ⟨v, h1, h2.mono hz⟩
  len h := by obtain ⟨v, h1, _⟩ := h; rw [h1]; rfl
  one h u hu := by
    obtain ⟨v, h1, _, a, c, h2, _⟩ := h
    rw [h1, h2] at hu
    simp only [List.mem_singleton] at hu
    rw [hu]; rfl
/-- Arrays of bytes by value. -/
def encA (m : Nat) : Enc (List UInt8) where
  size := m
  rep _ x c := x.length = m ∧ c = x.map vb
  mono _ h := h
  len h := by rw [h.2, List.length_map, h.1]
  one h u hu := by rw [h.2] at hu; obtain ⟨x, _, rfl⟩ := List.mem_map.1 hu; rfl

/-- Where a reading may be made: what stood at the begin, or what has been frozen since. -/
def ZIn (w0 : World) (zs : List PH) (z : PH) : Prop := z = ph w0 ∨ z ∈ zs
theorem St.le {w0 zs hs w z} (h : St w0 zs hs w) (hz : ZIn w0 zs z) : z.le (ph w) := by
  rcases hz with rfl | hz
  · exact h.ext
  · exact (h.zone z hz).1

theorem zin0 {w0 : World} {zs : List PH} : ZIn w0 zs (ph w0) := .inl rfl

/-- The cells behind a pointer. -/
def cellsV (z : PH) (p : Value) (m : Nat) : List Value :=
  match p with
  | .pointer (some ⟨b, off, _⟩) => match z b with
    | some (.cells cs _ _) => (cs.toList.drop off).take m
    | _ => []
  | _ => []

theorem add_at (b o n : Nat) : (⟨b, o, none⟩ : Addr).add n = ⟨b, o + n, none⟩ := Addr.add_lit b o n

/-- What stands at an element. -/
theorem Sl.at {α : Type} {E : Enc α} {z : PH} {v : Value} {xs : List α} (h : Sl E z v xs) {i : Nat} {x : α} (hx : xs[i]? = some x) :
    ∃ b off cs ty fz cx, elemPtr v (i * E.size) = .pointer (some ⟨b, off, none⟩) ∧ z b = some (.cells cs ty fz) ∧ E.rep z x cx ∧ (∀ j u, cx[j]? = some u → cs[off + j]? = some u) := by
  obtain ⟨_, a, c, rfl, _, h⟩ := h
  obtain ⟨b, off, cs, ty, fz, cx, rfl, h2, h3, h4⟩ := h i x hx
  exact ⟨b, off + i * E.size, cs, ty, fz, cx, by simp [elemPtr, add_at], h2, h3, h4⟩

theorem Sl.rep {α : Type} {E : Enc α} {z : PH} {v : Value} {xs : List α} (h : Sl E z v xs) {i : Nat} {x : α} (hx : xs[i]? = some x) :
    E.rep z x (cellsV z (elemPtr v (i * E.size)) E.size) := by
  obtain ⟨b, off, cs, ty, fz, cx, h1, h2, h3, h4⟩ := h.at hx
  have hl := E.len h3
  have : cellsV z (elemPtr v (i * E.size)) E.size = cx := by
    simp only [h1, cellsV, h2]
    apply List.ext_getElem?
    intro j
    rw [List.getElem?_take, List.getElem?_drop]
    split
    · rename_i hj
      have hj' : j < cx.length := by omega
      have := h4 j cx[j] (by simp [hj'])
      simp [hj', this]
    · rename_i hj
      rw [List.getElem?_eq_none (by omega)]
  rw [this]
  exact h3

section
variable {P : Program} {n : Nat} {w0 : World} {zs : List PH} {hs : List Res} {L : List (Nat × Value)} {d : Option Tmp} {ty t t' : TypeId} {pos : String} {af : Array Edge} {g : Option (Nat × Bool)}
variable {x y c o1 o2 o3 : Operand} {u v : Value}

/-! what a type is -/
theorem Tf.info {P : Program} {t : TypeId} {dd : TypeDesc} {s b : Nat} {z : Value} (h : Tf P t dd s b z) : ∃ i, P.info? t = some i ∧ i.size = s ∧ i.bytes = b ∧ i.zero = some z := by
  have := h.inf
  cases hi : P.info? t with
  | none => simp [hi] at this
  | some i =>
    simp [hi] at this
    exact ⟨i, rfl, this.1, this.2.1, this.2.2⟩
theorem Tf.sizeOf {P : Program} {t : TypeId} {dd : TypeDesc} {s b : Nat} {z : Value} (h : Tf P t dd s b z) (w : World) : (Go.sizeOf t).run P w = .ok s w := by
  obtain ⟨i, h1, h2, _⟩ := h.info
  simp [Go.sizeOf, typeInfo, h1, h2]
theorem Tf.zero {P : Program} {t : TypeId} {dd : TypeDesc} {s b : Nat} {z : Value} (h : Tf P t dd s b z) (w : World) : (zeroValue t).run P w = .ok z w := by
  obtain ⟨i, h1, h2, h3, h4⟩ := h.info
  simp [zeroValue, typeInfo, h1, h4]
theorem Tf.tinfo {P : Program} {t : TypeId} {dd : TypeDesc} {s b : Nat} {z : Value} (h : Tf P t dd s b z) (w : World) : ∃ i, (typeInfo t).run P w = .ok i w ∧ i.size = s ∧ i.bytes = b ∧ i.zero = some z := by
  obtain ⟨i, h1, h2⟩ := h.info
  exact ⟨i, by simp [typeInfo, h1], h2⟩

/-- A type whose variables are rows of cells. -/
def aggD : TypeDesc → Bool
  | .struct _ | .array _ _ => true
  | _ => false
theorem Tf.isAgg {P : Program} {t : TypeId} {dd : TypeDesc} {s b : Nat} {z : Value} (h : Tf P t dd s b z) (w : World) : (Go.isAgg t).run P w = .ok (aggD dd) w := by
  unfold Go.isAgg
  rw [Sem.run_bind, run_underlying h.und]
  cases dd <;> simp [aggD]

theorem run_load1 {dd : TypeDesc} {s by_ : Nat} {z : Value} (ht : Tf P t dd s by_ z) (hd : aggD dd = false) {w : World} {a : Addr} (h : w.cell? a = some v) : (loadVar t a).run P w = .ok v w := by
  unfold loadVar
  rw [Sem.run_bind, ht.isAgg]
  simp [hd, h]

theorem run_loadA {dd : TypeDesc} {s by_ : Nat} {z : Value} (ht : Tf P t dd s by_ z) (hd : aggD dd = true) {w : World} {b off : Nat} {cs : Array Value} {bt : TypeId} {fz : Nat × Nat} (h : w.heap[b]? = some (.cells cs bt fz)) (hs : off + s ≤ cs.size) :
    (loadVar t ⟨b, off, none⟩).run P w = .ok (.agg ((cs.toList.drop off).take s).toArray) w := by
  have hl : (loadCells ⟨b, off, none⟩ ((cs.toList.drop off).take s).length).run P w = .ok ((cs.toList.drop off).take s).toArray w :=
    run_loadCells_list (P := P) w ⟨b, off, none⟩ _ (fun j v hv => by
      rw [add_at, cell_of_row w b _ cs bt fz h]
      rw [List.getElem?_take, List.getElem?_drop] at hv
      split at hv
      · simpa using hv
      · cases hv)
  have hlen : ((cs.toList.drop off).take s).length = s := by simp; omega
  rw [hlen] at hl
  unfold loadVar
  rw [Sem.run_bind, ht.isAgg]
  simp [hd, ht.sizeOf, hl]

/-! ### reading boxes -/
theorem q_ld_blk1 [Dfs] {dd : TypeDesc} {s by_ : Nat} {zv : Value} (ht : Tf P t dd s by_ zv) (k : Nat) {b off : Nat} {bt : TypeId} {cs : List Value} (h1 : opv L x = some (.pointer (some ⟨b, off, none⟩))) (hk : hs[k]? = some (.blk b bt cs)) (hv : cs[off]? = some v) (hd : aggD dd = false) :
    Qt P n w0 zs hs L ⟨d, .load t x, ty, pos, af, g⟩ v :=
  qt_of fun a ha w hw => by
    have hb := (hw.own _ (List.mem_of_getElem? hk)).1.2
    have hc : w.cell? ⟨b, off, none⟩ = some v := by rw [cell_of_row w b off _ bt _ hb]; simpa using hv
    simp only [execOp, ha.eval h1]
    simp [Instr.loadAt, Instr.sureAddr, run_load1 ht hd hc]
theorem q_ld_blkA [Dfs] {dd : TypeDesc} {s by_ : Nat} {zv : Value} (ht : Tf P t dd s by_ zv) (k : Nat) {b off : Nat} {bt : TypeId} {cs c : List Value} (h1 : opv L x = some (.pointer (some ⟨b, off, none⟩))) (hk : hs[k]? = some (.blk b bt cs)) (hv : (cs.drop off).take s = c) (hl : off + s ≤ cs.length) (hd : aggD dd = true) :
    Qt P n w0 zs hs L ⟨d, .load t x, ty, pos, af, g⟩ (.agg c.toArray) :=
  qt_of fun a ha w hw => by
    have hb := (hw.own _ (List.mem_of_getElem? hk)).1.2
    have := run_loadA ht hd hb (off := off) (by simpa using hl)
    simp only [hv] at this
    simp only [execOp, ha.eval h1]
    simp [Instr.loadAt, Instr.sureAddr, this]
/-- A package-level variable, or whatever stood at the begin. -/
theorem q_ld_old1 [Dfs] {dd : TypeDesc} {s by_ : Nat} {zv : Value} (ht : Tf P t dd s by_ zv) {b off : Nat} {bt : TypeId} {cs : Array Value} {fz : Nat × Nat} (h1 : opv L x = some (.pointer (some ⟨b, off, none⟩))) (hk : w0.heap[b]? = some (.cells cs bt fz)) (hv : cs[off]? = some v) (hd : aggD dd = false) :
    Qt P n w0 zs hs L ⟨d, .load t x, ty, pos, af, g⟩ v :=
  qt_of fun a ha w hw => by
    have hb := hw.ext _ _ hk
    have hc : w.cell? ⟨b, off, none⟩ = some v := by rw [cell_of_row w b off _ bt _ hb]; simpa using hv
    simp only [execOp, ha.eval h1]
    simp [Instr.loadAt, Instr.sureAddr, run_load1 ht hd hc]
theorem q_ld_oldA [Dfs] {dd : TypeDesc} {s by_ : Nat} {zv : Value} (ht : Tf P t dd s by_ zv) {b off : Nat} {bt : TypeId} {cs : Array Value} {fz : Nat × Nat} {c : List Value} (h1 : opv L x = some (.pointer (some ⟨b, off, none⟩))) (hk : w0.heap[b]? = some (.cells cs bt fz)) (hv : (cs.toList.drop off).take s = c) (hl : off + s ≤ cs.size) (hd : aggD dd = true) :
    Qt P n w0 zs hs L ⟨d, .load t x, ty, pos, af, g⟩ (.agg c.toArray) :=
  qt_of fun a ha w hw => by
    have hb := hw.ext _ _ hk
    have := run_loadA ht hd hb hl
    simp only [hv] at this
    simp only [execOp, ha.eval h1]
    simp [Instr.loadAt, Instr.sureAddr, this]

/-! ### addresses -/
theorem q_fieldAddr [Dfs] {fs : Array Field} {s by_ : Nat} {zv : Value} (ht : Tf P t (.struct fs) s by_ zv) {b off k : Nat} {f : Field} {s' : Nat} (h1 : opv L x = some (.pointer (some ⟨b, off, none⟩))) (hf : fs[k]? = some f) (hsz : (P.info? f.type).map (·.size) = some (s' + 1)) :
    Qt P n w0 zs hs L ⟨d, .fieldAddr t x k, ty, pos, af, g⟩ (.pointer (some ⟨b, off + f.offset, none⟩)) :=
  qt_of fun a ha w hw => by
    have hsz : (sizeOf f.type).run P w = .ok (s' + 1) w := by
      cases hi : P.info? f.type with
      | none => simp [hi] at hsz
      | some i => simp [hi] at hsz; simp [sizeOf, typeInfo, hi, hsz]
    simp only [execOp, ha.eval h1]
    simp [Instr.fieldAt, Instr.sureAddr, run_underlying ht.und, hf, fieldPlace, hsz, add_at]
/-- An array's element. -/
theorem q_idx_arr [Dfs] {m : Nat} {e : TypeId} {s by_ : Nat} {zv : Value} (ht : Tf P t (.array m e) s by_ zv) {de : TypeDesc} {se be : Nat} {ze : Value} (hte : Tf P e de se be ze) {b off : Nat} {i : Int} {k : IntKind} (h1 : opv L x = some (.pointer (some ⟨b, off, none⟩))) (h2 : opv L y = some (.int k i)) (hb : 0 ≤ i ∧ i < m) :
    Qt P n w0 zs hs L ⟨d, .indexAddr t x y, ty, pos, af, g⟩ (.pointer (some ⟨b, off + i.toNat * se, none⟩)) :=
  qt_of fun a ha w hw => by
    simp only [execOp, ha.eval h1, ha.eval h2]
    simp [Instr.indexAt, Instr.sureAddr, asIntOf, run_underlying ht.und, hb, hte.sizeOf, add_at]
/-- A slice's element: where it lies. -/
theorem q_idx_sl [Dfs] {α : Type} {E : Enc α} {z : PH} {xs : List α} {e : TypeId} {s by_ : Nat} {zv : Value} (ht : Tf P t (.slice e) s by_ zv) {de : TypeDesc} {be : Nat} {ze : Value} (hte : Tf P e de E.size be ze) {i : Int} {k : IntKind} (hS : Sl E z v xs) (h1 : opv L x = some v) (h2 : opv L y = some (.int k i)) (hb : 0 ≤ i ∧ i < xs.length) :
    Qt P n w0 zs hs L ⟨d, .indexAddr t x y, ty, pos, af, g⟩ (elemPtr v (i.toNat * E.size)) :=
  qt_of fun a ha w hw => by
    obtain ⟨_, a', c', rfl, _, h⟩ := hS
    have hi : i.toNat < xs.length := by omega
    obtain ⟨b, off, cs, ty', fz, cx, rfl, _⟩ := h i.toNat xs[i.toNat] (by simp [hi])
    simp only [execOp, ha.eval h1, ha.eval h2]
    simp [Instr.indexAt, asIntOf, run_underlying ht.und, hb, hte.sizeOf, add_at, elemPtr]
/-- A load of an element of one cell. -/
theorem q_ld_sl1 [Dfs] {α : Type} {f : α → Value} {p : α → Prop} {h0 : ∀ x, (f x).oneCell' = true} {z : PH} {xs : List α} {dd : TypeDesc} {s by_ : Nat} {zv : Value} (ht : Tf P t dd s by_ zv) (hd : aggD dd = false) {k : Nat} {e : α} (hS : Sl (encV f p h0) z v xs) (hz : ZIn w0 zs z) (h1 : opv L x = some (elemPtr v (k * 1))) (hk : xs[k]? = some e) :
    Qt P n w0 zs hs L ⟨d, .load t x, ty, pos, af, g⟩ (f e) :=
  qt_of fun a ha w hw => by
    obtain ⟨b, off, cs, ty', fz, cx, hp, hzb, hr, hc⟩ := hS.at hk
    have hb := hw.le hz _ _ hzb
    have hcell : w.cell? ⟨b, off, none⟩ = some (f e) := by
      rw [cell_of_row w b off _ ty' _ hb]
      have := hc 0 (f e) (by rw [hr.1]; rfl)
      simpa using this
    have he : a.eval x = .pointer (some ⟨b, off, none⟩) := (ha.eval h1).trans hp
    simp only [execOp, he]
    simp [Instr.loadAt, Instr.sureAddr, run_load1 ht hd hcell]
theorem q_ld_I [Dfs] {z : PH} {xs : List Int} {dd : TypeDesc} {s by_ : Nat} {zv : Value} (ht : Tf P t dd s by_ zv) {k : Nat} (hS : Sl encI z v xs) (hz : ZIn w0 zs z) (h1 : opv L x = some (elemPtr v (k * 1))) (hd : aggD dd = false) (hk : k < xs.length) :
    Qt P n w0 zs hs L ⟨d, .load t x, ty, pos, af, g⟩ (vi (xs.getD k 0)) :=
  q_ld_sl1 ht hd hS hz h1 (by simp [hk])
theorem q_ld_B [Dfs] {z : PH} {xs : List UInt8} {dd : TypeDesc} {s by_ : Nat} {zv : Value} (ht : Tf P t dd s by_ zv) {k : Nat} (hS : Sl encB z v xs) (hz : ZIn w0 zs z) (h1 : opv L x = some (elemPtr v (k * 1))) (hd : aggD dd = false) (hk : k < xs.length) :
    Qt P n w0 zs hs L ⟨d, .load t x, ty, pos, af, g⟩ (vb (xs.getD k 0)) :=
  q_ld_sl1 ht hd hS hz h1 (by simp [hk])
theorem q_ld_S [Dfs] {z : PH} {xs : List (List UInt8)} {dd : TypeDesc} {s by_ : Nat} {zv : Value} (ht : Tf P t dd s by_ zv) {k : Nat} (hS : Sl encS z v xs) (hz : ZIn w0 zs z) (h1 : opv L x = some (elemPtr v (k * 1))) (hd : aggD dd = false) (hk : k < xs.length) :
    Qt P n w0 zs hs L ⟨d, .load t x, ty, pos, af, g⟩ (vs (xs.getD k [])) :=
  q_ld_sl1 ht hd hS hz h1 (by simp [hk])
/-- An element that is itself a slice. -/
def elemV (z : PH) (v : Value) (k : Nat) : Value := ((cellsV z (elemPtr v (k * 1)) 1)[0]?).getD undef
/-- An element of several cells. -/
theorem q_ld_slA [Dfs] {α : Type} {E : Enc α} {z : PH} {xs : List α} {dd : TypeDesc} {by_ : Nat} {zv : Value} (ht : Tf P t dd E.size by_ zv) {k m : Nat} (hm : m = k * E.size) (h0 : 0 < E.size) (hS : Sl E z v xs) (hz : ZIn w0 zs z) (h1 : opv L x = some (elemPtr v m)) (hd : aggD dd = true) (hk : k < xs.length) :
    Qt P n w0 zs hs L ⟨d, .load t x, ty, pos, af, g⟩ (.agg (cellsV z (elemPtr v (k * E.size)) E.size).toArray) :=
  qt_of fun a ha w hw => by
    subst hm
    have hx : xs[k]? = some xs[k] := by simp [hk]
    obtain ⟨b, off, cs, ty', fz, cx, hp, hzb, hr, hc⟩ := hS.at hx
    have hb := hw.le hz _ _ hzb
    have hlen := E.len hr
    have hfit : off + E.size ≤ cs.size := by
      have := hc (E.size - 1) (cx[E.size - 1]'(by omega)) (by simp)
      have := (Array.getElem?_eq_some_iff.1 this).1
      omega
    have := run_loadA ht hd hb hfit
    have he : a.eval x = .pointer (some ⟨b, off, none⟩) := (ha.eval h1).trans hp
    have hcv : cellsV z (elemPtr v (k * E.size)) E.size = (cs.toList.drop off).take E.size := by simp only [hp, cellsV, hzb]
    simp only [execOp, he]
    simp [Instr.loadAt, Instr.sureAddr, this, hcv]
end
end Go.Fw
end

section
namespace Go.Fw

/-- An operation that writes, makes memory, or calls what does: all that may come of it. -/
def Ef [Dfs] (P : Program) (n : Nat) (w0 : World) (zs : List PH) (hs : List Res) (L : List (Nat × Value)) (o : Oper) (K : Value → List PH → List Res → Prop) : Prop :=
  ∀ a, Fr n L a → ∀ w, St w0 zs hs w → ∀ (next : Act → World → Prop) (Q : Exit → Act → World → Prop),
    (∀ v zs' hs' w', K v zs' hs' → St w0 zs' hs' w' → next (a.put o.dst v) w') → o.wp P a w next Q

section
variable {P : Program} {n : Nat} {w0 : World} {zs : List PH} {hs : List Res} {L : List (Nat × Value)} {d : Option Tmp} {ty t t' : TypeId} {pos : String} {af : Array Edge} {g : Option (Nat × Bool)}
variable {x y c o1 o2 o3 : Operand} {u v : Value} {ops : Array Oper} {rest : List Oper}

theorem wpl_ef [Dfs] {op : Op} {Q : Exit → Act → World → Prop} {a : Act} {w : World} {K : Value → List PH → List Res → Prop} (hF : Fr n L a) (hS : St w0 zs hs w) (hd : (match d with | some k => Nat.blt k n | none => true) = true) (e : Ef P n w0 zs hs L ⟨d, op, ty, pos, af, none⟩ K)
    (h : ∀ v zs' hs' a w, K v zs' hs' → Fr n (upL d v L) a → St w0 zs' hs' w → wpList P ops Q rest a w) : wpList P ops Q (⟨d, op, ty, pos, af, none⟩ :: rest) a w := by
  unfold wpList
  rw [if_pos (show Region.wanted ⟨d, op, ty, pos, af, none⟩ (yielded ops a.tmps) = true from rfl)]
  refine .inl (e a hF w hS _ _ fun v zs' hs' w' hK hS' => h v zs' hs' _ w' hK (hF.up ?_) hS')
  cases d with
  | none => trivial
  | some k => exact Nat.blt_eq.mp hd

/-- From a run equation. -/
theorem ef_of [Dfs] {o : Oper} {K : Value → List PH → List Res → Prop} (h : ∀ a, Fr n L a → ∀ w, St w0 zs hs w → ∃ v zs' hs' w', ((execOp a.eval o).run P w = .ok (.value v) w' ∨ ((execOp a.eval o).run P w = .ok .skip w' ∧ v = undef)) ∧ K v zs' hs' ∧ St w0 zs' hs' w') : Ef P n w0 zs hs L o K := by
  intro a ha w hw next Q hn
  obtain ⟨v, zs', hs', w', hr, hK, hS⟩ := h a ha w hw
  unfold Oper.wp
  rcases hr with hr | ⟨hr, rfl⟩ <;> rw [hr] <;> exact hn _ _ _ _ hK hS

/-! ### new memory -/
theorem ef_alloc [Dfs] {dd : TypeDesc} {s by_ : Nat} {zv : Value} (ht : Tf P t dd s by_ zv) :
    Ef P n w0 zs hs L ⟨d, .alloc t, ty, pos, af, g⟩ (fun v zs' hs' => ∃ b, v = .pointer (some ⟨b, 0, none⟩) ∧ zs' = zs ∧ hs' = .blk b t zv.cells.toList :: hs) :=
  ef_of fun a ha w hw => ⟨_, _, _, _, .inl (by
      simp only [execOp]
      simp [Instr.alloc, ht.zero, newVar, newRow]
      rfl), ⟨w.heap.size, rfl, rfl, rfl⟩, by simpa using hw.new t zv.cells.toList⟩
theorem ef_box [Dfs] (h1 : opv L x = some v) :
    Ef P n w0 zs hs L ⟨d, .box t x, ty, pos, af, g⟩ (fun v' zs' hs' => ∃ b, v' = .pointer (some ⟨b, 0, none⟩) ∧ zs' = zs ∧ hs' = .blk b t v.cells.toList :: hs) :=
  ef_of fun a ha w hw => ⟨_, _, _, _, .inl (by
      simp only [execOp, ha.eval h1]
      simp [Instr.box, newVar, newRow]
      rfl), ⟨w.heap.size, rfl, rfl, rfl⟩, by simpa using hw.new t v.cells.toList⟩

theorem ef_allocA [Dfs] {dd : TypeDesc} {s by_ : Nat} {cs : List Value} (ht : Tf P t dd s by_ (.agg cs.toArray)) :
    Ef P n w0 zs hs L ⟨d, .alloc t, ty, pos, af, g⟩ (fun v zs' hs' => ∃ b, v = .pointer (some ⟨b, 0, none⟩) ∧ zs' = zs ∧ hs' = .blk b t cs :: hs) :=
  ef_alloc ht
theorem ef_alloc1 [Dfs] {dd : TypeDesc} {by_ : Nat} {zv : Value} (ht : Tf P t dd 1 by_ zv) (ho : zv.oneCell' = true) :
    Ef P n w0 zs hs L ⟨d, .alloc t, ty, pos, af, g⟩ (fun v zs' hs' => ∃ b, v = .pointer (some ⟨b, 0, none⟩) ∧ zs' = zs ∧ hs' = .blk b t [zv] :: hs) := by
  have hc : zv.cells.toList = [zv] := by cases zv <;> first | rfl | (simp [Value.oneCell'] at ho)
  have := ef_alloc (P := P) (n := n) (w0 := w0) (zs := zs) (hs := hs) (L := L) (d := d) (ty := ty) (pos := pos) (af := af) (g := g) ht
  rwa [hc] at this
theorem ef_boxA [Dfs] {cs : List Value} (h1 : opv L x = some (.agg cs.toArray)) :
    Ef P n w0 zs hs L ⟨d, .box t x, ty, pos, af, g⟩ (fun v' zs' hs' => ∃ b, v' = .pointer (some ⟨b, 0, none⟩) ∧ zs' = zs ∧ hs' = .blk b t cs :: hs) :=
  ef_box h1
theorem ef_box1 [Dfs] (h1 : opv L x = some v) (ho : v.oneCell' = true) :
    Ef P n w0 zs hs L ⟨d, .box t x, ty, pos, af, g⟩ (fun v' zs' hs' => ∃ b, v' = .pointer (some ⟨b, 0, none⟩) ∧ zs' = zs ∧ hs' = .blk b t [v] :: hs) := by
  have hc : v.cells.toList = [v] := by cases v <;> first | rfl | (simp [Value.oneCell'] at ho)
  have := ef_box (P := P) (n := n) (w0 := w0) (zs := zs) (hs := hs) (L := L) (d := d) (ty := ty) (t := t) (pos := pos) (af := af) (g := g) h1
  rwa [hc] at this

/-! ### stores into boxes -/
theorem St.store {w0 : World} {zs : List PH} {hs : List Res} {w : World} (h : St w0 zs hs w) {k : Nat} {b off : Nat} {bt : TypeId} {cs c : List Value} (hk : hs[k]? = some (.blk b bt cs)) (hl : off + c.length ≤ cs.length) :
    St w0 zs (hs.set k (.blk b bt (cs.take off ++ c ++ cs.drop (off + c.length)))) (w.setRow b (cs.take off ++ c ++ cs.drop (off + c.length)).toArray) := by
  have hb := (h.own _ (List.mem_of_getElem? hk)).1
  refine h.set hk rfl (fun j hj => setRow_other w b j _ (fun e => hj (by rw [← e]; rfl))) ⟨hb.1, ?_⟩ (by simp) ⟨rfl, rfl, rfl⟩
  exact setRow_heap w b cs.toArray _ bt (0, 0) hb.2

theorem run_storeVar {dd : TypeDesc} {s by_ : Nat} {zv : Value} (ht : Tf P t dd s by_ zv) {w : World} {b off : Nat} {bt : TypeId} {cs : List Value} (hb : w.heap[b]? = some (.cells cs.toArray bt (0, 0))) (hc : v.cells.size = s) (h1 : ∀ u ∈ v.cells, u.oneCell' = true) (hl : off + s ≤ cs.length) :
    (storeVar t ⟨b, off, none⟩ v).run P w = .ok () (w.setRow b (cs.take off ++ v.cells.toList ++ cs.drop (off + v.cells.toList.length)).toArray) := by
  have := run_storeCells_at P b off bt v.cells.toList 0 cs.toArray w hb (by simpa [hc] using hl) (by simpa using h1)
  simp only [Nat.add_zero] at this
  simp [storeVar, ht.sizeOf, hc, this]

theorem ef_store [Dfs] {dd : TypeDesc} {s by_ : Nat} {zv : Value} (ht : Tf P t dd s by_ zv) (k : Nat) {b off : Nat} {bt : TypeId} {cs c cs' : List Value} (h1 : opv L x = some (.pointer (some ⟨b, off, none⟩))) (h2 : opv L y = some v) (hk : hs[k]? = some (.blk b bt cs)) (hc : v.cells = c.toArray) (hcs : c.length = s) (ho : ∀ u ∈ c, u.oneCell' = true) (hl : off + s ≤ cs.length) (he : cs.take off ++ c ++ cs.drop (off + s) = cs') :
    Ef P n w0 zs hs L ⟨d, .store t x y, ty, pos, af, g⟩ (fun v zs' hs' => v = undef ∧ zs' = zs ∧ hs' = hs.set k (.blk b bt cs')) :=
  ef_of fun a ha w hw => by
    subst hcs
    have hb := (hw.own _ (List.mem_of_getElem? hk)).1
    have hr := run_storeVar (v := v) ht hb.2 (off := off) (by rw [hc]; simp) (by rw [hc]; simpa using ho) hl
    rw [hc] at hr
    rw [← he]
    refine ⟨undef, zs, _, _, .inr ⟨?_, rfl⟩, ⟨rfl, rfl, rfl⟩, hw.store hk hl⟩
    simp only [execOp, ha.eval h1, ha.eval h2]
    simp [Instr.storeAt, Instr.sureAddr, hr]
/-- One cell. -/
theorem ef_store1 [Dfs] {dd : TypeDesc} {by_ : Nat} {zv : Value} (ht : Tf P t dd 1 by_ zv) (k : Nat) {b off : Nat} {bt : TypeId} {cs : List Value} (h1 : opv L x = some (.pointer (some ⟨b, off, none⟩))) (h2 : opv L y = some v) (hk : hs[k]? = some (.blk b bt cs)) (ho : v.oneCell' = true) (hl : off < cs.length) :
    Ef P n w0 zs hs L ⟨d, .store t x y, ty, pos, af, g⟩ (fun v' zs' hs' => v' = undef ∧ zs' = zs ∧ hs' = hs.set k (.blk b bt (cs.set off v))) := by
  have hc : v.cells = [v].toArray := by cases v <;> first | rfl | (simp [Value.oneCell'] at ho)
  refine ef_store (c := [v]) ht k h1 h2 hk hc rfl (by simpa using ho) hl ?_
  simp only [List.set_eq_take_append_cons_drop, if_pos hl, List.append_assoc, List.cons_append, List.nil_append]

/-! ### rows of the call's own: append -/
/-- What an own row reads as. -/
theorem own_sl {α : Type} {E : Enc α} {base : Nat} {w : World} {e : TypeId} {v : Value} {m : Nat} {cs : List Value} (h : w.ownsRow base e E.size v m cs) {xs : List α} (hm : m = xs.length) (hb : m ≤ 140737488355328)
    (hr : ∀ i x, xs[i]? = some x → ∃ cx, E.rep (ph w) x cx ∧ ∀ j u, cx[j]? = some u → cs[i * E.size + j]? = some u) : Sl E (ph w) v xs := by
  subst hm
  refine ⟨hb, ?_⟩
  rcases h.2 with ⟨rfl, hn⟩ | ⟨b, cap, cur, rfl, hb, hg, hnc, hcm, hcs, htake⟩
  · refine ⟨none, 0, by rw [hn], by omega, fun i x hx => ?_⟩
    have := (List.getElem?_eq_some_iff.1 hx).1
    omega
  · refine ⟨some ⟨b, 0, none⟩, cap, rfl, hnc, fun i x hx => ?_⟩
    obtain ⟨cx, h1, h2⟩ := hr i x hx
    refine ⟨b, 0, cur, e, (0, 0), cx, rfl, hg, h1, fun j u hu => ?_⟩
    have h3 := h2 j u hu
    rw [← htake, List.getElem?_take] at h3
    split at h3
    · simpa [Nat.zero_add] using h3
    · cases h3

theorem own_slV {α : Type} {f : α → Value} {p : α → Prop} {h0 : ∀ x, (f x).oneCell' = true} {base : Nat} {w : World} {e : TypeId} {v : Value} {m : Nat} {xs : List α} (h : w.ownsRow base e 1 v m (xs.map f)) (hp : ∀ x ∈ xs, p x) (hm : m = xs.length) (hb : m ≤ 140737488355328) : Sl (encV f p h0) (ph w) v xs :=
  own_sl (E := encV f p h0) h hm hb fun i x hx => ⟨[f x], ⟨rfl, hp x (List.mem_of_getElem? hx)⟩, fun j u hu => by
    cases j with
    | zero => simp only [List.getElem?_cons_zero, Option.some.injEq] at hu; subst hu; show (xs.map f)[i * 1 + 0]? = _; simp [hx]
    | succ j => simp at hu⟩

/-- What is appended. -/
def SrcOk (P : Program) (w0 : World) (zs : List PH) (hs : List Res) (size : Nat) (tx : TypeId) (x : Value) (m : Nat) (news : List Value) : Prop :=
  ∀ w, St w0 zs hs w → Src P size tx x m news w

theorem src_sl {α : Type} {E : Enc α} {z : PH} {xs : List α} {tx e : TypeId} {s by_ : Nat} {zv : Value} (ht : Tf P tx (.slice e) s by_ zv) (hS : Sl E z v xs) (hz : ZIn w0 zs z) (cs : List Value) (hl : cs.length = xs.length * E.size) (h1 : ∀ u ∈ cs, u.oneCell' = true)
    (hc : ∀ i x cx, xs[i]? = some x → E.rep z x cx → ∀ j, j < E.size → cs[i * E.size + j]? = cx[j]?) (h0 : 0 < E.size) : SrcOk P w0 zs hs E.size tx v xs.length cs := by
  intro w hw
  obtain ⟨hb, a, c, rfl, hlc, h⟩ := hS
  cases a with
  | none =>
    have hx : xs = [] := by
      cases xs with
      | nil => rfl
      | cons x xs => obtain ⟨_, _, _, _, _, _, hh, _⟩ := h 0 x rfl; cases hh
    subst hx
    have : cs = [] := List.eq_nil_of_length_eq_zero (by simpa using hl)
    subst this
    exact Src.ofNil w ht.und c
  | some ad =>
    refine Src.ofSlice w ht.und ad xs.length c cs hl (fun j u hu => ?_) h1
    have hj : j < cs.length := (List.getElem?_eq_some_iff.1 hu).1
    have hi : j / E.size < xs.length := by rw [hl] at hj; exact Nat.div_lt_of_lt_mul (by rwa [Nat.mul_comm])
    obtain ⟨b, off, cc, ty', fz, cx, hh, h2, h3, h4⟩ := h (j / E.size) xs[j / E.size] (by simp [hi])
    simp only [Option.some.injEq] at hh
    subst hh
    have h5 := hc (j / E.size) _ cx (by simp [hi]) h3 (j % E.size) (Nat.mod_lt _ h0)
    have e1 : j / E.size * E.size + j % E.size = j := by rw [Nat.mul_comm]; exact Nat.div_add_mod _ _
    rw [e1, hu] at h5
    have h6 := h4 _ _ h5.symm
    rw [add_at, cell_of_row w b _ cc ty' fz (hw.le hz _ _ h2)]
    rw [← h6]
    congr 1
    omega
theorem src_slV {α : Type} {f : α → Value} {p : α → Prop} {h0 : ∀ x, (f x).oneCell' = true} {z : PH} {xs : List α} {tx e : TypeId} {s by_ : Nat} {zv : Value} (ht : Tf P tx (.slice e) s by_ zv) (hS : Sl (encV f p h0) z v xs) (hz : ZIn w0 zs z) : SrcOk P w0 zs hs 1 tx v xs.length (xs.map f) :=
  src_sl (E := encV f p h0) ht hS hz (xs.map f) (by simp [encV]) (fun u hu => by obtain ⟨y, _, rfl⟩ := List.mem_map.1 hu; exact h0 y) (fun i x cx hx hr j hj => by
    have : j = 0 := by simp [encV] at hj; omega
    subst this
    rw [hr.1]
    show (xs.map f)[i * 1 + 0]? = _
    simp [hx]) Nat.one_pos
theorem src_row {tx e e' : TypeId} {s by_ size m : Nat} {zv : Value} (ht : Tf P tx (.slice e) s by_ zv) {k : Nat} {cs : List Value} (hk : hs[k]? = some (.row v e' size m cs)) (h1 : ∀ u ∈ cs, u.oneCell' = true) : SrcOk P w0 zs hs size tx v m cs := by
  intro w hw
  have h := (hw.own _ (List.mem_of_getElem? hk)).1
  have hlen := h.1
  rcases h.2 with ⟨rfl, hn⟩ | ⟨b, cap, cur, rfl, hb, hg, hnc, hcm, hcs, htake⟩
  · subst hn
    have : cs = [] := List.eq_nil_of_length_eq_zero (by simpa using hlen)
    subst this
    exact Src.ofNil w ht.und 0
  · refine Src.ofSlice w ht.und ⟨b, 0, none⟩ m cap cs hlen (fun j u hu => ?_) h1
    rw [add_at, cell_of_row w b _ cur e' (0, 0) hg]
    rw [← htake, List.getElem?_take] at hu
    split at hu
    · simpa using hu
    · cases hu

theorem run_append_src {base : Nat} {w : World} {e : TypeId} {de : TypeDesc} {size by_ st bt : Nat} {zv zt : Value} (hte : Tf P e de size by_ zv) (ht : Tf P t (.slice e) st bt zt) (hzs : zv.cells.size = size) (h0 : 0 < size) {m k : Nat} {xs news : List Value} {tx : TypeId} (hown : w.ownsRow base e size v m xs) (hsrc : Src P size tx u k news w)
    (hb : (m + k) * by_ ≤ 140737488355328) (h63 : m + k ≤ 140737488355328) (hbase : base ≤ w.heap.size) :
    ∃ v' w', (Builtin.append_ #[t, tx] ty #[v, u]).run P w = .ok v' w' ∧ w'.ownsRow base e size v' (m + k) (xs ++ news) ∧ w.grownBy w' v.ownBlock ∧ (∀ b, v'.ownBlock = some b → v.ownBlock = some b ∨ w.heap.size ≤ b) := by
  obtain ⟨i, hi, rfl, rfl, hz⟩ := hte.info
  have hlen : (xs ++ news).length = (m + k) * i.size := by rw [List.length_append, hown.1, hsrc.newsLen, Nat.add_mul]
  have hml : m + k ≤ maxLen := by unfold maxLen; omega
  have grown : ∀ (old : Nat), old < m + k → ∀ (row : Option Nat),
      (w.drew.alloc (.cells ((xs ++ news).toArray ++ Builtin.zeroCells zv.cells (grownCap w (m + k) old e - (m + k))) e)).ownsRow base e i.size
        (.slice (some ⟨w.heap.size, 0, none⟩) (m + k) (grownCap w (m + k) old e)) (m + k) (xs ++ news) ∧
      w.grownBy (w.drew.alloc (.cells ((xs ++ news).toArray ++ Builtin.zeroCells zv.cells (grownCap w (m + k) old e - (m + k))) e)) row := by
    intro old ho row
    have hge := grownCap_ge w (m + k) old e
    have hcm : grownCap w (m + k) old e ≤ maxLen := grownCap_le_maxLen w (m + k) old e hml
    refine ⟨⟨hlen, .inr ⟨w.heap.size, _, _, rfl, hbase, heap_alloc_new w.drew _, hge, hcm, ?_, ?_⟩⟩, ⟨rfl, rfl, rfl, by simp, fun q hq _ => heap_alloc_old _ _ hq⟩⟩
    · simp only [Array.size_append, List.size_toArray, size_zeroCells, hzs, hlen, ← Nat.add_mul]
      congr 1
      omega
    · simp only [Array.toList_append]
      rw [← hlen]
      exact List.take_left
  rcases hown.2 with ⟨rfl, rfl⟩ | ⟨b, cap, cur, rfl, hbg, hg, hnc, hcm, hcs, htake⟩
  · have hx : xs = [] := List.eq_nil_of_length_eq_zero (by simpa using hown.1)
    subst hx
    by_cases hm : k = 0
    · subst hm
      have hn : news = [] := List.eq_nil_of_length_eq_zero (by simpa using hsrc.newsLen)
      subst hn
      refine ⟨.slice none 0 0, w, ?_, World.ownsRow_nil w base e i.size, ⟨rfl, rfl, rfl, Nat.le_refl _, fun _ _ _ => rfl⟩, fun b hb => .inl hb⟩
      rcases hsrc.kind with ⟨e', hk⟩ | hk <;> simp [Builtin.append_, run_underlying ht.und, run_underlying hk, sizeOf, typeInfo, hi, hsrc.len, hsrc.cells]
    · have hr := run_append_grow_src (P := P) w t tx ty e i zv ht.und hi hz none 0 0 [] (run_firstCells_none w.drew i.size 0 0 0) u k news hsrc (by omega) (by omega) (by have := growslice_fits (bytes := i.bytes) (need := 0 + k) (old := 0) (by omega) hb; exact this)
      have hgr := grown 0 (by omega) (Value.ownBlock (.slice none 0 0))
      exact ⟨_, _, hr, hgr.1, hgr.2, fun b hb => .inr (by simp [Value.ownBlock] at hb; omega)⟩
  · by_cases hroom : m + k ≤ cap
    · have hfit : m * i.size + news.length ≤ cur.size := by rw [hsrc.newsLen, hcs, ← Nat.add_mul]; exact Nat.mul_le_mul_right _ hroom
      have hr : (Builtin.append_ #[t, tx] ty #[.slice (some ⟨b, 0, none⟩) m cap, u]).run P w =
          .ok (.slice (some ⟨b, 0, none⟩) (m + k) cap) (w.setRow b (cur.toList.take (m * i.size) ++ news ++ cur.toList.drop (m * i.size + news.length)).toArray) := by
        have hst := run_storeCells_at P b (m * i.size) e news 0 cur w hg (by simpa using hfit) hsrc.one
        simp only [Nat.add_zero] at hst
        rcases hsrc.kind with ⟨e', hk⟩ | hk <;> simp [Builtin.append_, run_underlying ht.und, run_underlying hk, sizeOf, typeInfo, hi, hsrc.len, hroom, hsrc.cells, Addr.add_lit, hst]
      refine ⟨_, _, hr, ⟨hlen, .inr ⟨b, cap, _, rfl, hbg, setRow_heap w b cur _ e _ hg, hroom, hcm, ?_, ?_⟩⟩, ⟨rfl, rfl, rfl, by simp, fun k _ hk => setRow_other w b k _ (fun e => hk (by simp [Value.ownBlock, e]))⟩, fun b hb => .inl hb⟩
      · simp only [List.size_toArray, List.length_append, List.length_take, List.length_drop, Array.length_toList]
        omega
      · rw [htake, ← hlen]
        exact List.take_left
    · have holds : ∀ j u, xs[j]? = some u → w.cell? ((⟨b, 0, none⟩ : Addr).add j) = some u := hown.cells (g := b) rfl
      have hold := run_firstCells_some (P := P) w.drew i.size m ⟨b, 0, none⟩ m cap xs hown.1 (by simpa using holds)
      have hr := run_append_grow_src (P := P) w t tx ty e i zv ht.und hi hz (some ⟨b, 0, none⟩) m cap xs hold u k news hsrc (by omega) (by omega) (growslice_fits (by omega) hb)
      have hgr := grown cap (by omega) (Value.ownBlock (.slice (some ⟨b, 0, none⟩) m cap))
      exact ⟨_, _, hr, hgr.1, hgr.2, fun b hb => .inr (by simp [Value.ownBlock] at hb; omega)⟩

theorem St.append {w0 : World} {zs : List PH} {hs : List Res} {w w' : World} (h : St w0 zs hs w) {q : Nat} {v v' : Value} {e : TypeId} {size m m' : Nat} {xs xs' : List Value} (hk : hs[q]? = some (.row v e size m xs)) (hg : w.grownBy w' v.ownBlock) (ho : w'.ownsRow w0.heap.size e size v' m' xs') (hn : ∀ b, v'.ownBlock = some b → v.ownBlock = some b ∨ w.heap.size ≤ b) :
    St w0 zs (hs.set q (.row v' e size m' xs')) w' := by
  have hmem : Res.row v e size m xs ∈ hs := List.mem_of_getElem? hk
  have hkl : q < hs.length := (List.getElem?_eq_some_iff.1 hk).1
  -- the block that is left alone or new
  have keep : ∀ b, b < w.heap.size → v.ownBlock ≠ some b → w'.heap[b]? = w.heap[b]? := fun b hb hne => hg.block b hb (fun e => hne e.symm)
  have hne : ∀ b o, (ph w0 b = some o ∨ ∃ z ∈ zs, z b = some o) → v.ownBlock ≠ some b ∧ b < w.heap.size := by
    intro b o hb
    rcases hb with hb | ⟨z, hz, hzb⟩
    · refine ⟨fun e => ?_, Nat.lt_of_lt_of_le (ph_some hb) (le_size h.ext)⟩
      have := (Res.ok_ge (h.own _ hmem).1 b e).1
      have := ph_some hb
      omega
    · refine ⟨fun e => ?_, ph_some ((h.zone z hz).1 b o hzb)⟩
      have := (h.own _ hmem).2 b e z hz
      rw [this] at hzb
      cases hzb
  have key : ∀ (l : List Res) (i k : Nat) (s r : Res) (b : Nat), i ≠ k → l[i]? = some s → l[k]? = some r → s.id = some b → r.id = some b → ¬ (l.filterMap Res.id).Nodup := by
    intro l
    induction l with
    | nil => intro i k s r b _ hi; simp at hi
    | cons x l ih =>
      intro i k s r b hne hi hk hb e hn
      cases i with
      | zero =>
        cases k with
        | zero => exact hne rfl
        | succ k =>
          simp at hi hk
          subst hi
          rw [List.filterMap_cons, hb] at hn
          simp at hn
          exact hn.1 r (List.mem_of_getElem? hk) e
      | succ i =>
        cases k with
        | zero =>
          simp at hi hk
          subst hk
          rw [List.filterMap_cons, e] at hn
          simp at hn
          exact hn.1 s (List.mem_of_getElem? hi) hb
        | succ k =>
          simp at hi hk
          refine ih i k s r b (by omega) hi hk hb e ?_
          rw [List.filterMap_cons] at hn
          split at hn
          · exact hn
          · exact (List.nodup_cons.1 hn).2
  refine ⟨fun b o hb => ?_, fun z hz => ⟨fun b o hb => ?_, (h.zone z hz).2⟩, fun s hs1 => ?_, ?_, h.io.trans ⟨hg.os, hg.tape, hg.output⟩⟩
  · have := h.ext b o hb
    obtain ⟨h1, h2⟩ := hne b o (.inl hb)
    simp only [ph] at this ⊢
    rw [keep b h2 h1]
    exact this
  · have := (h.zone z hz).1 b o hb
    obtain ⟨h1, h2⟩ := hne b o (.inr ⟨z, hz, hb⟩)
    simp only [ph] at this ⊢
    rw [keep b h2 h1]
    exact this
  · obtain ⟨i, hi⟩ := List.mem_iff_getElem?.1 hs1
    rw [List.getElem?_set] at hi
    split at hi
    · rename_i hki
      subst hki
      try rw [if_pos hkl] at hi
      simp only [Option.some.injEq] at hi
      subst hi
      refine ⟨ho, fun b hb z hz => ?_⟩
      rcases hn b hb with h1 | h1
      · exact (h.own _ hmem).2 b h1 z hz
      · cases hzb : z b with
        | none => rfl
        | some o => have := ph_some ((h.zone z hz).1 b o hzb); omega
    · rename_i hki
      have hsm : s ∈ hs := List.mem_of_getElem? hi
      refine ⟨Res.ok_of (h.own s hsm).1 fun b hb => keep b (Res.ok_ge (h.own s hsm).1 b hb).2 fun e => ?_, (h.own s hsm).2⟩
      exact key hs i q s _ b (by omega) hi hk hb e h.nd
  · -- the ids of the rest do not hold the new one
    have gen : ∀ (l : List Res) (k : Nat), l[k]? = some (.row v e size m xs) → (∀ r ∈ l, r ∈ hs) → (l.filterMap Res.id).Nodup → ((l.set k (.row v' e size m' xs')).filterMap Res.id).Nodup := by
      intro l
      induction l with
      | nil => intro k hk; simp at hk
      | cons x l ih =>
        intro k hk hsub hnd
        cases k with
        | zero =>
          simp at hk
          subst hk
          rw [List.set_cons_zero, List.filterMap_cons]
          rw [List.filterMap_cons] at hnd
          have hnd' : (l.filterMap Res.id).Nodup := by
            split at hnd
            · exact hnd
            · exact (List.nodup_cons.1 hnd).2
          split
          · exact hnd'
          · rename_i b hb
            refine List.nodup_cons.2 ⟨fun hm => ?_, hnd'⟩
            obtain ⟨r, hr, er⟩ := List.mem_filterMap.1 hm
            rcases hn b hb with h1 | h1
            · have h2 : Res.id (.row v e size m xs) = some b := h1
              rw [h2] at hnd
              exact (List.nodup_cons.1 hnd).1 (List.mem_filterMap.2 ⟨r, hr, er⟩)
            · have := (Res.ok_ge (h.own r (hsub r (List.mem_cons_of_mem _ hr))).1 b er).2
              omega
        | succ k =>
          simp at hk
          have hr0 := ih k hk (fun r hr => hsub r (List.mem_cons_of_mem _ hr)) (by
            rw [List.filterMap_cons] at hnd
            split at hnd
            · exact hnd
            · exact (List.nodup_cons.1 hnd).2)
          rw [List.set_cons_succ, List.filterMap_cons]
          split
          · exact hr0
          · rename_i b hb
            refine List.nodup_cons.2 ⟨fun hm => ?_, hr0⟩
            obtain ⟨r, hr, er⟩ := List.mem_filterMap.1 hm
            rw [List.filterMap_cons, hb] at hnd
            have hnd1 := (List.nodup_cons.1 hnd).1
            obtain ⟨i, hi⟩ := List.mem_iff_getElem?.1 hr
            rw [List.getElem?_set] at hi
            split at hi
            · split at hi
              · simp only [Option.some.injEq] at hi
                subst hi
                rcases hn b er with h1 | h1
                · exact hnd1 (List.mem_filterMap.2 ⟨_, List.mem_of_getElem? hk, h1⟩)
                · have := (Res.ok_ge (h.own x (hsub x (List.mem_cons_self ..))).1 b hb).2
                  omega
              · cases hi
            · exact hnd1 (List.mem_filterMap.2 ⟨r, List.mem_of_getElem? hi, er⟩)
    exact gen hs q hk (fun r hr => hr) h.nd

theorem ef_append [Dfs] {e : TypeId} {de : TypeDesc} {size by_ st bt : Nat} {zv zt : Value} (ht : Tf P t (.slice e) st bt zt) (hte : Tf P e de size by_ zv) (q : Nat) {m k : Nat} {xs news : List Value} {tx : TypeId} (h1 : opv L x = some v) (h2 : opv L y = some u) (hk : hs[q]? = some (.row v e size m xs)) (hsrc : SrcOk P w0 zs hs size tx u k news)
    (hb : (m + k) * by_ ≤ 140737488355328 ∧ m + k ≤ 140737488355328) (hzs : zv.cells.size = size) (h0 : 0 < size) :
    Ef P n w0 zs hs L ⟨d, .call ⟨.builtin .append, #[x, y], #[t, tx]⟩, ty, pos, af, g⟩ (fun v' zs' hs' => zs' = zs ∧ hs' = hs.set q (.row v' e size (m + k) (xs ++ news))) :=
  ef_of fun a ha w hw => by
    have hown := (hw.own _ (List.mem_of_getElem? hk)).1
    obtain ⟨v', w', hr, ho, hg, hn⟩ := run_append_src (ty := ty) hte ht hzs h0 hown (hsrc w hw) hb.1 hb.2 (le_size hw.ext)
    refine ⟨v', zs, _, w', .inl ?_, ⟨rfl, rfl⟩, hw.append hk hg ho hn⟩
    simp only [execOp]
    simp [resolve, invoke, builtin, ha.eval h1, ha.eval h2, hr]

/-- A nil slice is an own row. -/
theorem St.nilRow {w0 : World} {zs : List PH} {hs : List Res} {w : World} (h : St w0 zs hs w) (e : TypeId) (size : Nat) : St w0 zs (.row (.slice none 0 0) e size 0 [] :: hs) w := by
  refine ⟨h.ext, h.zone, fun r hr => ?_, ?_, h.io⟩
  · rcases List.mem_cons.1 hr with rfl | hr
    · exact ⟨World.ownsRow_nil w _ e size, fun b hb => by simp [Res.id, Value.ownBlock] at hb⟩
    · exact h.own r hr
  · rw [List.filterMap_cons]
    exact h.nd

/-- A box that holds a new row. -/
theorem St.newRow {w0 : World} {zs : List PH} {hs : List Res} {w : World} (h : St w0 zs hs w) (e : TypeId) (cells : List Value) (size m c : Nat) (hl : cells.length = c * size) (hm : m ≤ c) (hc : c ≤ maxLen) :
    St w0 zs (.row (.slice (some ⟨w.heap.size, 0, none⟩) m c) e size m (cells.take (m * size)) :: hs) { w with heap := w.heap.push (.cells cells.toArray e (0, 0)) } := by
  have h1 := h.new e cells
  refine ⟨h1.ext, h1.zone, fun r hr => ?_, ?_, h1.io⟩
  · rcases List.mem_cons.1 hr with rfl | hr
    · refine ⟨⟨?_, .inr ⟨w.heap.size, c, cells.toArray, rfl, le_size h.ext, by simp, hm, hc, by simpa using hl, by simp⟩⟩, fun b hb => ?_⟩
      · rw [List.length_take, hl]
        exact Nat.min_eq_left (Nat.mul_le_mul_right _ hm)
      · have := (h1.own (.blk w.heap.size e cells) (by simp)).2 b
        simp only [Res.id, Value.ownBlock, Option.some.injEq] at hb this
        exact this hb
    · exact h1.own r (by simp [hr])
  · have := h1.nd
    rw [List.filterMap_cons] at this ⊢
    exact this

end
end Go.Fw
end

section
namespace Go.Fw

section
variable {P : Program} {n : Nat} {w0 : World} {zs : List PH} {hs : List Res} {L : List (Nat × Value)} {d : Option Tmp} {ty t t' : TypeId} {pos : String} {af : Array Edge} {g : Option (Nat × Bool)}
variable {x y c o1 o2 o3 : Operand} {u v : Value} {ops : Array Oper} {rest : List Oper}

/-! ### len -/
theorem qt_builtin [Dfs] {b : Builtin} {args : Array Operand} {ats : Array TypeId} (h : ∀ a, Fr n L a → ∀ w, St w0 zs hs w → (builtin b ats ty (args.map fun | .const _ => true | _ => false) (args.map a.eval)).run P w = .ok (.value v) w) :
    Qt P n w0 zs hs L ⟨d, .call ⟨.builtin b, args, ats⟩, ty, pos, af, g⟩ v :=
  qt_of fun a ha w hw => by
    have := h a ha w hw
    simp only [execOp]
    simp only [resolve, invoke, Sem.run_bind, Sem.run_pure, Result.andThen_ok]
    exact this
theorem q_len_s [Dfs] {s b : Nat} {z : Value} (ht : Tf P t .string s b z) {l : List UInt8} (h1 : opv L x = some (vs l)) :
    Qt P n w0 zs hs L ⟨d, .call ⟨.builtin .len, #[x], #[t]⟩, ty, pos, af, g⟩ (vi l.length) :=
  qt_builtin fun a ha w hw => by
    have hsz : (bs l).size = l.length := by simp [ByteArray.size]
    simp [builtin, Builtin.len_, run_underlying ht.und, ha.eval h1, goInt, hsz]
theorem q_len_sl [Dfs] {α : Type} {E : Enc α} {z : PH} {xs : List α} {e : TypeId} {s b : Nat} {zv : Value} (ht : Tf P t (.slice e) s b zv) (hS : Sl E z v xs) (h1 : opv L x = some v) :
    Qt P n w0 zs hs L ⟨d, .call ⟨.builtin .len, #[x], #[t]⟩, ty, pos, af, g⟩ (vi xs.length) :=
  qt_builtin fun a ha w hw => by
    obtain ⟨_, ad, c, rfl, _⟩ := hS
    simp [builtin, Builtin.len_, run_underlying ht.und, ha.eval h1, goInt]
theorem q_len_row [Dfs] {e e' : TypeId} {s b size m : Nat} {zv : Value} {xs : List Value} (ht : Tf P t (.slice e) s b zv) (k : Nat) (hk : hs[k]? = some (.row v e' size m xs)) (h1 : opv L x = some v) :
    Qt P n w0 zs hs L ⟨d, .call ⟨.builtin .len, #[x], #[t]⟩, ty, pos, af, g⟩ (vi m) :=
  qt_builtin fun a ha w hw => by
    have hown := (hw.own _ (List.mem_of_getElem? hk)).1
    rcases hown.2 with ⟨rfl, rfl⟩ | ⟨b, cap, cur, rfl, _⟩ <;> simp [builtin, Builtin.len_, run_underlying ht.und, ha.eval h1, goInt]
theorem q_len_slv [Dfs] {e : TypeId} {s b m c : Nat} {ad : Option Addr} {zv : Value} (ht : Tf P t (.slice e) s b zv) (h1 : opv L x = some (.slice ad m c)) :
    Qt P n w0 zs hs L ⟨d, .call ⟨.builtin .len, #[x], #[t]⟩, ty, pos, af, g⟩ (vi m) :=
  qt_builtin fun a ha w hw => by simp [builtin, Builtin.len_, run_underlying ht.und, ha.eval h1, goInt]
theorem q_min [Dfs] {k : IntKind} {p q : Int} (h1 : opv L x = some (.int k p)) (h2 : opv L y = some (.int k q)) {ats : Array TypeId} :
    Qt P n w0 zs hs L ⟨d, .call ⟨.builtin .min, #[x, y], ats⟩, ty, pos, af, g⟩ (.int k (min p q)) :=
  qt_builtin fun a ha w hw => by
    have e : (if q < p then q else p) = min p q := by omega
    simp [builtin, Builtin.min_, Builtin.min2, ha.eval h1, ha.eval h2, e]
theorem q_max [Dfs] {k : IntKind} {p q : Int} (h1 : opv L x = some (.int k p)) (h2 : opv L y = some (.int k q)) {ats : Array TypeId} :
    Qt P n w0 zs hs L ⟨d, .call ⟨.builtin .max, #[x, y], ats⟩, ty, pos, af, g⟩ (.int k (max p q)) :=
  qt_builtin fun a ha w hw => by
    have e : (if q > p then q else p) = max p q := by omega
    simp only [gt_iff_lt] at e
    simp [builtin, Builtin.max_, Builtin.max2, ha.eval h1, ha.eval h2, e]

/-! ### strings -/
theorem q_idx_s [Dfs] {s b : Nat} {z : Value} (ht : Tf P t .string s b z) {l : List UInt8} {k : IntKind} {i : Int} (h1 : opv L x = some (vs l)) (h2 : opv L y = some (.int k i)) (hb : 0 ≤ i ∧ i < l.length) :
    Qt P n w0 zs hs L ⟨d, .index t x y, ty, pos, af, g⟩ (vb (l.getD i.toNat 0)) :=
  qt_of fun a ha w hw => by
    simp only [execOp, ha.eval h1, ha.eval h2]
    have hi : i.toNat < l.length := by omega
    have e1 : (bs l)[i.toNat]? = some (l.getD i.toNat 0) := by
      have hsz : i.toNat < (bs l).size := by simpa [ByteArray.size] using hi
      rw [ByteArray.getElem?_lt' _ _ hsz]
      simp [hi]
      rfl
    simp [Instr.index, asIntOf, run_underlying ht.und, hb.1, e1]
theorem bs_extract (l : List UInt8) (lo hi : Nat) : (bs l).extract lo hi = bs ((l.take hi).drop lo) := by
  apply ByteArray.ext
  apply Array.ext'
  simp [bs, ByteArray.data_extract]
  rw [List.drop_take]
theorem q_sl_s [Dfs] {s b : Nat} {z : Value} (ht : Tf P t .string s b z) {l : List UInt8} {k k' : IntKind} {i j : Int} (h1 : opv L x = some (vs l)) (h2 : opv L y = some (.int k i)) (h3 : opv L c = some (.int k' j)) (hb : 0 ≤ i ∧ i ≤ j ∧ j ≤ l.length) :
    Qt P n w0 zs hs L ⟨d, .slice t x (some y) (some c) none, ty, pos, af, g⟩ (vs ((l.take j.toNat).drop i.toNat)) :=
  qt_of fun a ha w hw => by
    simp only [execOp, ha.eval h1, Option.map_some, ha.eval h2, ha.eval h3, Option.map_none]
    have hsz : (bs l).size = l.length := by simp [ByteArray.size]
    have e1 : (Instr.sliceBound (.int k' j) (bs l).size .sliceAlen).run P w = .ok j.toNat w := run_sliceBound (P := P) (w := w) k' j (bs l).size .sliceAlen (by omega) (by omega)
    have e2 : (Instr.sliceBound (.int k i) j.toNat .sliceB).run P w = .ok i.toNat w := run_sliceBound (P := P) (w := w) k i j.toNat .sliceB (by omega) (by omega)
    simp only [hsz] at e1
    simp [Instr.sliceAt, Instr.slice, run_underlying ht.und, Instr.sliceBounds, hsz, e1, e2, bs_extract]
theorem q_sl_s_lo [Dfs] {s b : Nat} {z : Value} (ht : Tf P t .string s b z) {l : List UInt8} {k : IntKind} {i : Int} (h1 : opv L x = some (vs l)) (h2 : opv L y = some (.int k i)) (hb : 0 ≤ i ∧ i ≤ l.length) :
    Qt P n w0 zs hs L ⟨d, .slice t x (some y) none none, ty, pos, af, g⟩ (vs (l.drop i.toNat)) :=
  qt_of fun a ha w hw => by
    simp only [execOp, ha.eval h1, Option.map_some, ha.eval h2, Option.map_none]
    have hsz : (bs l).size = l.length := by simp [ByteArray.size]
    have e2 : (Instr.sliceBound (.int k i) l.length .sliceB).run P w = .ok i.toNat w := run_sliceBound (P := P) (w := w) k i l.length .sliceB (by omega) (by omega)
    simp [Instr.sliceAt, Instr.slice, run_underlying ht.und, Instr.sliceBounds, hsz, e2, bs_extract]
theorem q_sl_s_hi [Dfs] {s b : Nat} {z : Value} (ht : Tf P t .string s b z) {l : List UInt8} {k : IntKind} {i : Int} (h1 : opv L x = some (vs l)) (h2 : opv L y = some (.int k i)) (hb : 0 ≤ i ∧ i ≤ l.length) :
    Qt P n w0 zs hs L ⟨d, .slice t x none (some y) none, ty, pos, af, g⟩ (vs (l.take i.toNat)) :=
  qt_of fun a ha w hw => by
    simp only [execOp, ha.eval h1, Option.map_some, ha.eval h2, Option.map_none]
    have hsz : (bs l).size = l.length := by simp [ByteArray.size]
    have e2 : (Instr.sliceBound (.int k i) l.length .sliceAlen).run P w = .ok i.toNat w := run_sliceBound (P := P) (w := w) k i l.length .sliceAlen (by omega) (by omega)
    simp [Instr.sliceAt, Instr.slice, run_underlying ht.und, Instr.sliceBounds, hsz, e2, bs_extract]

/-! ### bytes to a string -/
theorem strOfNums_bs (l : List UInt8) : strOfNums (l.map fun b => (b.toNat : Int)) = bs l := by
  apply ByteArray.ext
  apply Array.ext'
  have := strOfNums_data (l.map fun b => (b.toNat : Int))
  rw [this]
  simp only [List.map_map]
  have e : ((fun n : Int => UInt8.ofNat n.toNat) ∘ fun b : UInt8 => (b.toNat : Int)) = id := by
    funext b
    simp
  rw [e]
  simp
theorem run_b2s {e : TypeId} {s b s' b' s'' b'' : Nat} {zv zv' zv'' : Value} (ht : Tf P t (.slice e) s b zv) (ht' : Tf P t' .string s' b' zv') (hte : Tf P e (.int .u8) s'' b'' zv'') {w : World} {ad : Option Addr} {xs : List UInt8} {c : Nat}
    (h : ∀ j (hj : j < xs.length), ∃ b off, ad = some ⟨b, off, none⟩ ∧ w.cell? ⟨b, off + j, none⟩ = some (vb xs[j])) : (convert t t' (.slice ad xs.length c)).run P w = .ok (vs xs) w := by
  cases ad with
  | none =>
    have hx : xs = [] := by
      cases xs with
      | nil => rfl
      | cons x xs => obtain ⟨_, _, hh, _⟩ := h 0 (by simp); cases hh
    subst hx
    show (convert t t' (Value.slice none 0 c)).run P w = _
    rw [run_convert_bytes_nil (P := P) w t e ht.und hte.und 0 c t' ht'.und]
    rfl
  | some ad =>
    cases xs with
    | nil =>
      show (convert t t' (Value.slice (some ad) 0 c)).run P w = _
      rw [run_convert_bytes_string w t t' e (some ad) 0 c ht.und hte.und ht'.und]
      simp [Conv.bytesToString, loadCells, loadCellsFrom]
      rfl
    | cons x0 xs =>
      obtain ⟨b, off, hh, _⟩ := h 0 (by simp)
      simp only [Option.some.injEq] at hh
      subst hh
      have := run_convert_bytes_arg (P := P) w t e ht.und hte.und b off (x0 :: xs).length c ((x0 :: xs).map fun b => (b.toNat : Int)) (by simp) (fun i hi => by
        obtain ⟨b', off', hh, h2⟩ := h i hi
        simp only [Option.some.injEq, Addr.mk.injEq] at hh
        obtain ⟨rfl, rfl, _⟩ := hh
        rw [h2]
        simp only [List.getD_eq_getElem?_getD, List.getElem?_map, List.getElem?_eq_getElem hi, Option.map_some, Option.getD_some]) t' ht'.und
      rw [this, strOfNums_bs]
theorem q_b2s_sl [Dfs] {z : PH} {xs : List UInt8} {e : TypeId} {s b s' b' s'' b'' : Nat} {zv zv' zv'' : Value} (ht : Tf P t (.slice e) s b zv) (ht' : Tf P t' .string s' b' zv') (hte : Tf P e (.int .u8) s'' b'' zv'') (hS : Sl encB z v xs) (hz : ZIn w0 zs z) (h1 : opv L x = some v) :
    Qt P n w0 zs hs L ⟨d, .convert t t' x, ty, pos, af, g⟩ (vs xs) :=
  qt_of fun a ha w hw => by
    obtain ⟨_, ad, c, rfl, hlc, h⟩ := hS
    simp only [execOp, ha.eval h1]
    rw [Sem.run_bind, run_b2s ht ht' hte fun j hj => by
      obtain ⟨b, off, cs, ty', fz, cx, rfl, h2, h3, h4⟩ := h j xs[j] (by simp [hj])
      refine ⟨b, off, rfl, ?_⟩
      rw [cell_of_row w b _ cs ty' fz (hw.le hz _ _ h2)]
      have := h4 0 (vb xs[j]) (by rw [h3.1]; rfl)
      simpa [encB, encV] using this]
    rfl
theorem q_b2s_row [Dfs] {xs : List UInt8} {e e' : TypeId} {m : Nat} {s b s' b' s'' b'' : Nat} {zv zv' zv'' : Value} (ht : Tf P t (.slice e) s b zv) (ht' : Tf P t' .string s' b' zv') (hte : Tf P e (.int .u8) s'' b'' zv'') (k : Nat) (hk : hs[k]? = some (.row v e' 1 m (xs.map vb))) (h1 : opv L x = some v) :
    Qt P n w0 zs hs L ⟨d, .convert t t' x, ty, pos, af, g⟩ (vs xs) :=
  qt_of fun a ha w hw => by
    have hown := (hw.own _ (List.mem_of_getElem? hk)).1
    have hlen : m = xs.length := by have := hown.1; simp at this; omega
    subst hlen
    simp only [execOp, ha.eval h1]
    rcases hown.2 with ⟨rfl, hn⟩ | ⟨b, cap, cur, rfl, hb, hg, hnc, hcm, hcs, htake⟩
    · have : xs = [] := List.eq_nil_of_length_eq_zero hn
      subst this
      rw [Sem.run_bind, show (Value.slice none 0 0) = .slice none ([] : List UInt8).length 0 from rfl, run_b2s ht ht' hte (fun j hj => by simp at hj)]
      rfl
    · rw [Sem.run_bind, run_b2s ht ht' hte fun j hj => ⟨b, 0, rfl, by
        rw [cell_of_row w b _ cur e' (0, 0) hg]
        have : (cur.toList.take (xs.length * 1))[j]? = some (vb xs[j]) := by rw [htake]; simp [hj]
        rw [List.getElem?_take] at this
        split at this
        · simpa using this
        · cases this⟩]
      rfl
/-- A part of an array that lies in a box. -/
theorem q_b2s_blk [Dfs] {xs : List UInt8} {e : TypeId} {b off c : Nat} {bt : TypeId} {cs : List Value} {s by_ s' b' s'' b'' : Nat} {zv zv' zv'' : Value} (ht : Tf P t (.slice e) s by_ zv) (ht' : Tf P t' .string s' b' zv') (hte : Tf P e (.int .u8) s'' b'' zv'') (k : Nat) (h1 : opv L x = some (.slice (some ⟨b, off, none⟩) xs.length c)) (hk : hs[k]? = some (.blk b bt cs)) (hc : (cs.drop off).take xs.length = xs.map vb) :
    Qt P n w0 zs hs L ⟨d, .convert t t' x, ty, pos, af, g⟩ (vs xs) :=
  qt_of fun a ha w hw => by
    have hb := (hw.own _ (List.mem_of_getElem? hk)).1.2
    simp only [execOp, ha.eval h1]
    rw [Sem.run_bind, run_b2s ht ht' hte fun j hj => ⟨b, off, rfl, by
      rw [cell_of_row w b _ _ bt (0, 0) hb]
      have h3 : ((cs.drop off).take xs.length)[j]? = some (vb xs[j]) := by rw [hc]; simp [hj]
      rw [List.getElem?_take, if_pos hj, List.getElem?_drop] at h3
      simpa using h3⟩]
    rfl

/-! ### a string to bytes: a row that is frozen from the begin -/
def ph1 (b : Nat) (o : Obj) : PH := fun k => if k = b then some o else none
theorem ph1_some {b k : Nat} {o o' : Obj} (h : ph1 b o k = some o') : k = b ∧ o = o' := by
  unfold ph1 at h
  split at h
  · exact ⟨by assumption, by simpa using h⟩
  · cases h
theorem St.frozen {w0 : World} {zs : List PH} {hs : List Res} {w w' : World} (h : St w0 zs hs w) (o : Obj) (hsz : w'.heap.size = w.heap.size + 1) (hw : ∀ b, b < w.heap.size → w'.heap[b]? = w.heap[b]?) (hn : w'.heap[w.heap.size]? = some o) (hio : Io w w') : St w0 (ph1 w.heap.size o :: zs) hs w' := by
  have hl : (ph w).le (ph w') := fun b ob hb => by
    have := ph_some hb
    simp only [ph] at hb ⊢
    rw [hw b this]
    exact hb
  have h1 := h.later hl hio
  refine ⟨h1.ext, fun z hz => ?_, fun r hr => ⟨(h1.own r hr).1, fun b hb z hz => ?_⟩, h1.nd, h1.io⟩
  · rcases List.mem_cons.1 hz with rfl | hz
    · refine ⟨fun b ob hb => ?_, fun b ob hb => ?_⟩
      · obtain ⟨rfl, rfl⟩ := ph1_some hb; exact hn
      · obtain ⟨rfl, rfl⟩ := ph1_some hb; exact le_size h.ext
    · exact h1.zone z hz
  · rcases List.mem_cons.1 hz with rfl | hz
    · have := (Res.ok_ge (h.own r hr).1 b hb).2
      unfold ph1
      rw [if_neg (by omega)]
    · exact (h1.own r hr).2 b hb z hz
theorem ef_s2b [Dfs] {e : TypeId} {s b s' b' s'' b'' : Nat} {zv zv' zv'' : Value} (ht : Tf P t .string s b zv) (ht' : Tf P t' (.slice e) s' b' zv') (hte : Tf P e (.int .u8) s'' b'' zv'') {l : List UInt8} (h1 : opv L x = some (vs l)) (hl : l.length ≤ 140737488355328) :
    Ef P n w0 zs hs L ⟨d, .convert t t' x, ty, pos, af, g⟩ (fun v zs' hs' => ∃ z, zs' = z :: zs ∧ hs' = hs ∧ Sl encB z v l) :=
  ef_of fun a ha w hw => by
    have hsz : (bs l).size = l.length := by simp [ByteArray.size]
    have hr := run_bytes_of_string (P := P) w t t' e (bs l) ht.und ht'.und hte.und
    rw [hsz] at hr
    generalize hcp : grownCap w l.length 0 e = cap at hr
    have hcap : l.length ≤ cap := by rw [← hcp]; exact grownCap_ge w l.length 0 e
    generalize hob : Obj.cells (bytesRow (bs l) cap) e ((bytesRow (bs l) cap).size, (bytesRow (bs l) cap).size + 1) = ob at hr
    have hst := hw.frozen (w' := w.drew.alloc ob) ob (by simp) (fun b hb => heap_alloc_old w ob hb) (heap_alloc_new w ob) ⟨rfl, rfl, rfl⟩
    refine ⟨.slice (some ⟨w.heap.size, 0, none⟩) l.length cap, ph1 w.heap.size ob :: zs, hs, w.drew.alloc ob, .inl ?_, ⟨_, rfl, rfl, hl, some ⟨w.heap.size, 0, none⟩, cap, rfl, hcap, fun i xx hx => ?_⟩, hst⟩
    · simp only [execOp, ha.eval h1]
      rw [Sem.run_bind, hr]
      rfl
    · have hi := (List.getElem?_eq_some_iff.1 hx).1
      subst hob
      refine ⟨w.heap.size, 0, bytesRow (bs l) cap, e, _, [vb xx], rfl, by unfold ph1; rw [if_pos rfl], ⟨rfl, trivial⟩, fun j uu hu => ?_⟩
      cases j with
      | zero =>
        simp only [List.getElem?_cons_zero, Option.some.injEq] at hu
        subst hu
        show (bytesRow (bs l) cap)[0 + i * 1 + 0]? = _
        unfold bytesRow
        rw [Array.getElem?_append_left (by simp; omega)]
        simp [hx]
      | succ j => simp at hu
end
end Go.Fw
end

section
namespace Go.Fw

/-! ### calls -/
/-- What a call hands back: a value, with what has been frozen and what is handed over; all that was there is as it was. -/
def Ct (P : Program) (f : FuncId) (args : List Value) (w : World) (R : Value → List PH → List Res → Prop) : Prop :=
  Calls P f args.toArray w fun e w' => ∃ v zs hs, e = .returned v ∧ St w zs hs w' ∧ R v zs hs

theorem Ct.mono {P f args w} {R R' : Value → List PH → List Res → Prop} (h : Ct P f args w R) (hr : ∀ v zs hs, R v zs hs → R' v zs hs) : Ct P f args w R' :=
  Calls.mono h fun _ _ ⟨v, zs, hs, h1, h2, h3⟩ => ⟨v, zs, hs, h1, h2, hr _ _ _ h3⟩

/-- A function that can be called by its number. -/
def FnOk (P : Program) (f : FuncId) : Prop := ∃ fn, P.funcs[f]? = some fn ∧ fn.body.isNone = false ∧ (fn.name == "runtime.NumGoroutine") = false

def opvs (L : List (Nat × Value)) : List Operand → Option (List Value)
  | [] => some []
  | o :: r => match opv L o, opvs L r with
    | some v, some vs => some (v :: vs)
    | _, _ => none

theorem Fr.evals [Dfs] {n L a} (h : Fr n L a) : ∀ {os vs}, opvs L os = some vs → os.map a.eval = vs
  | [], vs, hv => by simp [opvs] at hv; simp [hv]
  | o :: r, vs, hv => by
    unfold opvs at hv
    split at hv
    · rename_i v vs' h1 h2
      simp only [Option.some.injEq] at hv
      subst hv
      simp [h.eval h1, h.evals h2]
    · cases hv

section
variable {P : Program} {n : Nat} {w0 : World} {zs : List PH} {hs : List Res} {L : List (Nat × Value)} {d : Option Tmp} {ty t t' : TypeId} {pos : String} {af : Array Edge} {g : Option (Nat × Bool)}
variable {x y c o1 o2 o3 : Operand} {u v : Value} {ops : Array Oper} {rest : List Oper}

theorem run_call [Dfs] {f : FuncId} (hf : FnOk P f) {os : List Operand} {vs : List Value} {ats : Array TypeId} {a : Act} (ha : Fr n L a) (h1 : opvs L os = some vs) (w : World) :
    (execOp a.eval ⟨d, .call ⟨.value (.func f), os.toArray, ats⟩, ty, pos, af, g⟩).run P w = .ok (.enter f vs.toArray) w := by
  obtain ⟨fn, h2, h3, h4⟩ := hf
  have he := ha.evals h1
  simp only [execOp]
  simp only [resolve, Act.eval, Deferred.ofValue, invoke, Sem.run_bind, Sem.run_pure, Result.andThen_ok, callFunc, run_program, h2, h4, h3]
  simp [he]

/-- A call of what leaves nothing behind that matters: one value. -/
theorem q_call [Dfs] {f : FuncId} (hf : FnOk P f) {os : List Operand} {vs : List Value} {ats : Array TypeId} {R : Value → List PH → List Res → Prop} (h1 : opvs L os = some vs) (hc : ∀ w, St w0 zs hs w → Ct P f vs w R) (hR : ∀ v' zs hs, R v' zs hs → v' = v) :
    Qt P n w0 zs hs L ⟨d, .call ⟨.value (.func f), os.toArray, ats⟩, ty, pos, af, g⟩ v :=
  fun a ha w hw => by
    rw [run_call hf ha h1]
    exact ⟨rfl, Calls.mono (hc w hw) fun e w' ⟨v', zs', hs', he, hS, hr⟩ => ⟨by rw [he, hR _ _ _ hr], hw.later hS.ext hS.io⟩⟩

/-- A call whatever. -/
theorem ef_call [Dfs] {f : FuncId} (hf : FnOk P f) {os : List Operand} {vs : List Value} {ats : Array TypeId} {R : Value → List PH → List Res → Prop} (h1 : opvs L os = some vs) (hc : ∀ w, St w0 zs hs w → Ct P f vs w R) :
    Ef P n w0 zs hs L ⟨d, .call ⟨.value (.func f), os.toArray, ats⟩, ty, pos, af, g⟩ (fun v zs' hs' => ∃ z1 h1, zs' = z1 ++ zs ∧ hs' = h1 ++ hs ∧ R v z1 h1) := by
  intro a ha w hw next Q hn
  unfold Oper.wp
  rw [run_call hf ha h1]
  exact Calls.mono (hc w hw) fun e w' ⟨v', zs', hs', he, hS, hr⟩ => by
    subst he
    exact hn v' _ _ w' ⟨zs', hs', rfl, rfl, hr⟩ (hw.call hS)

/-! ### a function's begin and end -/
theorem fn_enter {f : FuncId} {fn : Func} {cd : Code} (hf : P.funcs[f]? = some fn) (hb : fn.body = some cd) {k : Nat} (hk : fn.ntmps = k) {args : List Value} (hn : args.length ≤ k) {w : World} {R : Value → List PH → List Res → Prop}
    (h : ∀ a, Fr k (enterL 0 args) a → St w [] [] w → cd.wp P (bodyPost P fn fun e w' => ∃ v zs hs, e = .returned v ∧ St w zs hs w' ∧ R v zs hs) a w) : Ct P f args w R := by
  subst hk
  exact calls_of_wp hf hb (h _ (Fr.enter _ _ hn) (St.start w))

/-- What the results come to. -/
@[reducible] def resVal : List Value → Value
  | [v] => v
  | vs => .tuple vs.toArray

/-- A result variable and its value. -/
def ResV (P : Program) (L : List (Nat × Value)) (hs : List Res) : ResultVar → Value → Prop
  | .tmp t, v => look L t = some v
  | .cell p t, v => ∃ b bt cs dd s by_ zv, look L p = some (.pointer (some ⟨b, 0, none⟩)) ∧ Res.blk b bt cs ∈ hs ∧ Tf P t dd s by_ zv ∧
      ((aggD dd = true ∧ cs.length = s ∧ v = .agg cs.toArray) ∨ (aggD dd = false ∧ cs = [v]))

def ResVs (P : Program) (L : List (Nat × Value)) (hs : List Res) : List ResultVar → List Value → Prop
  | [], [] => True
  | r :: rs, v :: vs => ResV P L hs r v ∧ ResVs P L hs rs vs
  | _, _ => False

theorem ResV.run [Dfs] {w : World} {r : ResultVar} {a : Act} (hF : Fr n L a) (hS : St w0 zs hs w) (h : ResV P L hs r v) :
    (match r with | .tmp t => (pure (a.tmps.getD t undef) : Sem Value) | .cell p t => do loadVar t (← asAddr (a.tmps.getD p undef))).run P w = .ok v w := by
  cases r with
  | tmp t =>
    have := hF.get t v h
    simp [this]
  | cell p t =>
    obtain ⟨b, bt, cs, dd, s, by_, zv, h1, h2, h3, h4⟩ := h
    have hb := (hS.own _ h2).1.2
    have hp := hF.get p _ h1
    have hv : a.tmps.getD p undef = .pointer (some ⟨b, 0, none⟩) := by simp [hp]
    simp only [hv, asAddr, Sem.run_bind, Sem.run_pure, Result.andThen_ok]
    rcases h4 with ⟨h4, h5, rfl⟩ | ⟨h4, rfl⟩
    · have := run_loadA h3 h4 hb (off := 0) (by simp [h5])
      rw [this]
      simp [← h5]
    · exact run_load1 h3 h4 (by rw [cell_of_row w b 0 _ bt _ hb]; rfl)

theorem run_results [Dfs] {fn : Func} {w : World} {rs : List ResultVar} (hrs : fn.results = rs.toArray) {a : Act} (hF : Fr n L a) (hS : St w0 zs hs w) {vs : List Value} (h : ResVs P L hs rs vs) :
    (results fn a.tmps).run P w = .ok (resVal vs) w := by
  have key : ∀ (rs : List ResultVar) (vs : List Value), ResVs P L hs rs vs → Sem.run P (rs.mapM fun (r : ResultVar) => (match r with | .tmp t => (pure (a.tmps.getD t undef) : Sem Value) | .cell p t => do loadVar t (← asAddr (a.tmps.getD p undef)))) w = Result.ok vs w := by
    intro rs
    induction rs with
    | nil =>
      intro vs hv
      cases vs with
      | nil => simp
      | cons v vs => exact hv.elim
    | cons r rs ih =>
      intro vs hv
      cases vs with
      | nil => exact hv.elim
      | cons v vs =>
        have h1 := ResV.run hF hS hv.1
        have h2 := ih vs hv.2
        rw [List.mapM_cons]
        simp only [Sem.run_bind, Sem.run_pure]
        rw [h1]
        simp only [Result.andThen_ok]
        rw [h2]
        rfl
  have hk := key rs vs h
  unfold results
  rw [hrs, List.mapM_toArray]
  have hk' : Sem.run P (Functor.map List.toArray (rs.mapM fun (r : ResultVar) => (match r with | .tmp t => (pure (a.tmps.getD t undef) : Sem Value) | .cell p t => do loadVar t (← asAddr (a.tmps.getD p undef))))) w = Result.ok vs.toArray w := by
    rw [Sem.run_map, hk]
    rfl
  rw [Sem.run_bind]
  refine (congrArg (fun r => Result.andThen r _) hk').trans ?_
  simp only [Result.andThen_ok, Sem.run_pure]
  cases vs with
  | nil => rfl
  | cons v vs =>
    cases vs with
    | nil => rfl
    | cons v2 vs => simp [resVal]

theorem fn_ret {fn : Func} {w : World} {a : Act} {R : Value → List PH → List Res → Prop} {rs : List ResultVar} (hrs : fn.results = rs.toArray) (hF : Fr n L a) (hS : St w0 zs hs w) {vs : List Value} (hv : ResVs P L hs rs vs) {zs' hs'} (h1 : zs'.Sublist zs) (h2 : hs'.Sublist hs) (hR : R (resVal vs) zs' hs') :
    bodyPost P fn (fun e w' => ∃ v zs hs, e = .returned v ∧ St w0 zs hs w' ∧ R v zs hs) .ret a w :=
  ⟨hF.nodef, _, run_results hrs hF hS hv, _, _, _, rfl, hS.keep h1 h2, hR⟩

/-! ### control -/
theorem wp_cut {cx cy : Code} {Q : Exit → Act → World → Prop} {a : Act} {w : World} (J : Act → World → Prop) (hx : cx.wp P (Exit.then J Q) a w) (hy : ∀ a w, J a w → cy.wp P Q a w) : (Code.seq cx cy).wp P Q a w :=
  wp_seq (Code.wp_mono (fun e a w q => by cases e <;> first | exact hy _ _ q | exact q) hx)

theorem wp_if [Dfs] {cx cy : Code} {Q : Exit → Act → World → Prop} {a : Act} {w : World} {b : Bool} (hF : Fr n L a) (h : opv L c = some (.bool b)) (ht : b = true → cx.wp P Q a w) (hf : b = false → cy.wp P Q a w) : (Code.cond c cx cy).wp P Q a w :=
  wp_cond_split (hF.eval h) ht hf
/-- On a proposition. -/
theorem wp_ifd [Dfs] {cx cy : Code} {Q : Exit → Act → World → Prop} {a : Act} {w : World} {p : Prop} [Decidable p] (hF : Fr n L a) (h : opv L c = some (.bool (decide p))) (ht : p → cx.wp P Q a w) (hf : ¬ p → cy.wp P Q a w) : (Code.cond c cx cy).wp P Q a w :=
  wp_cond_split (hF.eval h) (fun e => ht (of_decide_eq_true e)) (fun e => hf (of_decide_eq_false e))
theorem wp_ifn [Dfs] {cx cy : Code} {Q : Exit → Act → World → Prop} {a : Act} {w : World} {p : Prop} [Decidable p] (hF : Fr n L a) (h : opv L c = some (.bool (!decide p))) (ht : ¬ p → cx.wp P Q a w) (hf : p → cy.wp P Q a w) : (Code.cond c cx cy).wp P Q a w :=
  wp_cond_split (hF.eval h) (fun e => ht (by simpa using e)) (fun e => hf (by simpa using e))

/-- A loop whose measure is a ghost. -/
theorem wp_loopg {cb : Code} {Q : Exit → Act → World → Prop} {a : Act} {w : World} (I : Nat → Act → World → Prop) (k : Nat) (h0 : I k a w)
    (hr : ∀ m a w, I m a w → cb.wp P (Exit.then (fun a w => ∃ m', m' < m ∧ I m' a w) Q) a w) : (Code.loop cb).wp P Q a w := by
  classical
  have hex : ∀ a w, (∃ m, I m a w) → ∃ m, I m a w ∧ ∀ m', I m' a w → m ≤ m' := by
    intro a w ⟨m, hm⟩
    induction m using Nat.strongRecOn with
    | _ m ih =>
      by_cases hlt : ∃ m', m' < m ∧ I m' a w
      · obtain ⟨m', h1, h2⟩ := hlt
        exact ih m' h1 h2
      · exact ⟨m, hm, fun m' h' => Nat.le_of_not_lt fun h => hlt ⟨m', h, h'⟩⟩
  let μ : Act → World → Nat := fun a w => if h : ∃ m, I m a w then (hex a w h).choose else 0
  have hμ : ∀ a w (h : ∃ m, I m a w), I (μ a w) a w ∧ ∀ m', I m' a w → μ a w ≤ m' := by
    intro a w h
    have := (hex a w h).choose_spec
    simp only [μ, dif_pos h]
    exact this
  refine wp_loop (fun a w => ∃ m, I m a w) μ ⟨k, h0⟩ fun a w hI => ?_
  obtain ⟨h1, _⟩ := hμ a w hI
  refine Code.wp_mono (fun e a' w' q => ?_) (hr _ a w h1)
  cases e with
  | normal =>
    obtain ⟨m', hm, hI'⟩ := q
    exact ⟨⟨m', hI'⟩, Nat.lt_of_le_of_lt ((hμ a' w' ⟨m', hI'⟩).2 m' hI') hm⟩
  | _ => exact q
end
end Go.Fw
namespace Go.Fw
section
variable {P : Program} {n : Nat} {w0 : World} {zs : List PH} {hs : List Res} {L : List (Nat × Value)}
/-- A loop with ghosts. -/
theorem wp_loopx [Dfs] {cb : Code} {Q : Exit → Act → World → Prop} {a : Act} {w : World} {γ : Type} (g0 : γ) (Lm : γ → List (Nat × Value)) (Lk : List (Nat × Value)) (hsf : γ → List Res) (fact : γ → Prop) (μ : γ → Nat)
    (hF : Fr n (Lm g0 ++ Lk) a) (hS : St w0 zs (hsf g0) w) (hf : fact g0)
    (hr : ∀ g a w, fact g → Fr n (Lm g ++ Lk) a → St w0 zs (hsf g) w → cb.wp P (Exit.then (fun a w => ∃ g', μ g' < μ g ∧ fact g' ∧ Fr n (Lm g' ++ Lk) a ∧ St w0 zs (hsf g') w) Q) a w) : (Code.loop cb).wp P Q a w := by
  refine wp_loopg (fun m a w => ∃ g, m = μ g ∧ fact g ∧ Fr n (Lm g ++ Lk) a ∧ St w0 zs (hsf g) w) (μ g0) ⟨g0, rfl, hf, hF, hS⟩ fun m a w ⟨g, hm, h1, h2, h3⟩ => ?_
  refine Code.wp_mono (fun e a w q => ?_) (hr g a w h1 h2 h3)
  cases e with
  | normal => obtain ⟨g', h4, h5, h6, h7⟩ := q; exact ⟨μ g', by omega, g', rfl, h5, h6, h7⟩
  | _ => exact q
end
end Go.Fw
end

section
namespace Go.Fw

section
variable {P : Program} {n : Nat} {w0 : World} {zs : List PH} {hs : List Res} {L : List (Nat × Value)} {d : Option Tmp} {ty t t' : TypeId} {pos : String} {af : Array Edge} {g : Option (Nat × Bool)}
variable {x y c o1 o2 o3 : Operand} {u v : Value} {ops : Array Oper} {rest : List Oper}

/-! ### boxes that hold a list of things of one kind -/
theorem q_ld_blkM [Dfs] {α : Type} {f : α → Value} {dd : TypeDesc} {s by_ : Nat} {zv : Value} (ht : Tf P t dd s by_ zv) (k : Nat) {b off : Nat} {bt : TypeId} {xs : List α} (dflt : α) (h1 : opv L x = some (.pointer (some ⟨b, off, none⟩))) (hk : hs[k]? = some (.blk b bt (xs.map f))) (hl : off < xs.length) (hd : aggD dd = false) :
    Qt P n w0 zs hs L ⟨d, .load t x, ty, pos, af, g⟩ (f (xs.getD off dflt)) :=
  q_ld_blk1 ht k h1 hk (by simp [hl]) hd
/-- .. behind others, and with others behind. -/
theorem q_ld_blkM' [Dfs] {α : Type} {f : α → Value} {dd : TypeDesc} {s by_ : Nat} {zv : Value} (ht : Tf P t dd s by_ zv) (k : Nat) {b off : Nat} {bt : TypeId} {pre post : List Value} {xs : List α} (j : Nat) (dflt : α) (h1 : opv L x = some (.pointer (some ⟨b, off, none⟩))) (hk : hs[k]? = some (.blk b bt (pre ++ (xs.map f ++ post)))) (ho : off = pre.length + j) (hl : j < xs.length) (hd : aggD dd = false) :
    Qt P n w0 zs hs L ⟨d, .load t x, ty, pos, af, g⟩ (f (xs.getD j dflt)) :=
  q_ld_blk1 ht k h1 hk (by
    subst ho
    rw [List.getElem?_append_right (by omega), Nat.add_sub_cancel_left, List.getElem?_append_left (by simpa using hl)]
    simp [hl]) hd
theorem ef_st_blkM [Dfs] {α : Type} {f : α → Value} {dd : TypeDesc} {by_ : Nat} {zv : Value} (ht : Tf P t dd 1 by_ zv) (k : Nat) {b off : Nat} {bt : TypeId} {xs : List α} {e : α} (h1 : opv L x = some (.pointer (some ⟨b, off, none⟩))) (h2 : opv L y = some (f e)) (hk : hs[k]? = some (.blk b bt (xs.map f))) (hl : off < xs.length) (ho : (f e).oneCell' = true) :
    Ef P n w0 zs hs L ⟨d, .store t x y, ty, pos, af, g⟩ (fun v' zs' hs' => v' = undef ∧ zs' = zs ∧ hs' = hs.set k (.blk b bt ((xs.set off e).map f))) := by
  have := ef_store1 (ty := ty) (pos := pos) (af := af) (g := g) (d := d) (n := n) (w0 := w0) (zs := zs) ht k h1 h2 hk ho (by simpa using hl)
  rwa [← List.map_set] at this
/-! ### an array by value: an index -/
theorem q_idx_agg [Dfs] {m : Nat} {e : TypeId} {s by_ : Nat} {zv : Value} (ht : Tf P t (.array m e) s by_ zv) {de : TypeDesc} {be : Nat} {ze : Value} (hte : Tf P e de 1 be ze) {cs : List Value} {i : Int} {k : IntKind} (h1 : opv L x = some (.agg cs.toArray)) (h2 : opv L y = some (.int k i)) (hb : 0 ≤ i ∧ i < m) (hv : cs[i.toNat]? = some v) (hd : aggD de = false) :
    Qt P n w0 zs hs L ⟨d, .index t x y, ty, pos, af, g⟩ v :=
  qt_of fun a ha w hw => by
    have hp : (part e cs.toArray (i.toNat * 1)).run P w = .ok v w := by
      unfold part
      rw [Sem.run_bind, hte.isAgg]
      simp [hd, hv]
    simp only [execOp, ha.eval h1, ha.eval h2]
    simp only [Nat.mul_one] at hp
    simp [Instr.index, asIntOf, run_underlying ht.und, hb, hte.sizeOf, hp]
theorem q_idx_aggM [Dfs] {α : Type} {f : α → Value} {m : Nat} {e : TypeId} {s by_ : Nat} {zv : Value} (ht : Tf P t (.array m e) s by_ zv) {de : TypeDesc} {be : Nat} {ze : Value} (hte : Tf P e de 1 be ze) {xs : List α} (dflt : α) {i : Int} {k : IntKind} (h1 : opv L x = some (.agg (xs.map f).toArray)) (h2 : opv L y = some (.int k i)) (hb : 0 ≤ i ∧ i < m) (hl : m = xs.length) (hd : aggD de = false) :
    Qt P n w0 zs hs L ⟨d, .index t x y, ty, pos, af, g⟩ (f (xs.getD i.toNat dflt)) :=
  q_idx_agg ht hte h1 h2 hb (by have : i.toNat < xs.length := by omega
                                simp [this]) hd

/-! ### slices of an array that lies in a box -/
theorem q_sla [Dfs] {m : Nat} {e : TypeId} {s by_ : Nat} {zv : Value} (ht : Tf P t (.array m e) s by_ zv) {de : TypeDesc} {se be : Nat} {ze : Value} (hte : Tf P e de se be ze) {b off : Nat} (h1 : opv L x = some (.pointer (some ⟨b, off, none⟩))) :
    Qt P n w0 zs hs L ⟨d, .slice t x none none none, ty, pos, af, g⟩ (.slice (some ⟨b, off, none⟩) m m) :=
  qt_of fun a ha w hw => by
    simp only [execOp, ha.eval h1, Option.map_none]
    simp [Instr.sliceAt, Instr.sureAddr, run_underlying ht.und, Instr.sliceBounds, hte.sizeOf, add_at]
theorem q_sla_lo [Dfs] {m : Nat} {e : TypeId} {s by_ : Nat} {zv : Value} (ht : Tf P t (.array m e) s by_ zv) {de : TypeDesc} {se be : Nat} {ze : Value} (hte : Tf P e de se be ze) {b off : Nat} {k : IntKind} {i : Int} (h1 : opv L x = some (.pointer (some ⟨b, off, none⟩))) (h2 : opv L y = some (.int k i)) (hb : 0 ≤ i ∧ i < m) :
    Qt P n w0 zs hs L ⟨d, .slice t x (some y) none none, ty, pos, af, g⟩ (.slice (some ⟨b, off + i.toNat * se, none⟩) (m - i.toNat) (m - i.toNat)) :=
  qt_of fun a ha w hw => by
    simp only [execOp, ha.eval h1, Option.map_none, Option.map_some, ha.eval h2]
    have e2 : (Instr.sliceBound (.int k i) m .sliceB).run P w = .ok i.toNat w := run_sliceBound (P := P) (w := w) k i m .sliceB (by omega) (by omega)
    have h3 : ¬ (m = i.toNat) := by omega
    simp [Instr.sliceAt, Instr.sureAddr, run_underlying ht.und, Instr.sliceBounds, hte.sizeOf, add_at, e2, h3]
theorem q_sla_hi [Dfs] {m : Nat} {e : TypeId} {s by_ : Nat} {zv : Value} (ht : Tf P t (.array m e) s by_ zv) {de : TypeDesc} {se be : Nat} {ze : Value} (hte : Tf P e de se be ze) {b off : Nat} {k : IntKind} {i : Int} (h1 : opv L x = some (.pointer (some ⟨b, off, none⟩))) (h2 : opv L y = some (.int k i)) (hb : 0 ≤ i ∧ i ≤ m) :
    Qt P n w0 zs hs L ⟨d, .slice t x none (some y) none, ty, pos, af, g⟩ (.slice (some ⟨b, off, none⟩) i.toNat m) :=
  qt_of fun a ha w hw => by
    simp only [execOp, ha.eval h1, Option.map_none, Option.map_some, ha.eval h2]
    have e2 : (Instr.sliceBound (.int k i) m .sliceAlen).run P w = .ok i.toNat w := run_sliceBound (P := P) (w := w) k i m .sliceAlen (by omega) (by omega)
    simp [Instr.sliceAt, Instr.sureAddr, run_underlying ht.und, Instr.sliceBounds, hte.sizeOf, add_at, e2]
theorem q_s2ap [Dfs] {m : Nat} {e : TypeId} {s by_ : Nat} {zv : Value} (ht : Tf P t (.array m e) s by_ zv) {ad : Option Addr} {l c : Nat} (h1 : opv L x = some (.slice ad l c)) (hb : m ≤ l) :
    Qt P n w0 zs hs L ⟨d, .sliceToArrayPointer t x, ty, pos, af, g⟩ (.pointer ad) :=
  qt_of fun a ha w hw => by
    have : ¬ l < m := by omega
    simp only [execOp, ha.eval h1]
    simp [Instr.arrayAt, run_underlying ht.und, this]

/-- What a slice of a box reads as. -/
theorem blk_slV {α : Type} {f : α → Value} {p : α → Prop} {h0 : ∀ x, (f x).oneCell' = true} {w : World} (hS : St w0 zs hs w) (k : Nat) {b off m c : Nat} {bt : TypeId} {cs : List Value} {xs : List α} (hk : hs[k]? = some (.blk b bt cs)) (hc : (cs.drop off).take m = xs.map f) (hm : m = xs.length ∧ m ≤ c ∧ m ≤ 140737488355328) (hp : ∀ x ∈ xs, p x) :
    Sl (encV f p h0) (ph w) (.slice (some ⟨b, off, none⟩) m c) xs := by
  have hb := (hS.own _ (List.mem_of_getElem? hk)).1.2
  obtain ⟨rfl, h2, h3⟩ := hm
  refine ⟨h3, _, c, rfl, h2, fun i x hx => ⟨b, off, cs.toArray, bt, (0, 0), [f x], rfl, hb, ⟨rfl, hp x (List.mem_of_getElem? hx)⟩, fun j u hu => ?_⟩⟩
  cases j with
  | zero =>
    simp only [List.getElem?_cons_zero, Option.some.injEq] at hu
    subst hu
    have h4 : ((cs.drop off).take xs.length)[i]? = some (f x) := by rw [hc]; simp [hx]
    rw [List.getElem?_take, if_pos (List.getElem?_eq_some_iff.1 hx).1, List.getElem?_drop] at h4
    show cs.toArray[off + i * 1 + 0]? = _
    simpa using h4
  | succ j => simp at hu

/-! ### elements of own rows -/
theorem q_idx_row [Dfs] {e e' : TypeId} {s by_ size m : Nat} {zv : Value} (ht : Tf P t (.slice e) s by_ zv) {de : TypeDesc} {be : Nat} {ze : Value} (hte : Tf P e de size be ze) (k : Nat) {cs : List Value} {i : Int} {ik : IntKind} (hk : hs[k]? = some (.row v e' size m cs)) (h1 : opv L x = some v) (h2 : opv L y = some (.int ik i)) (hb : 0 ≤ i ∧ i < m) :
    Qt P n w0 zs hs L ⟨d, .indexAddr t x y, ty, pos, af, g⟩ (elemPtr v (i.toNat * size)) :=
  qt_of fun a ha w hw => by
    have hown := (hw.own _ (List.mem_of_getElem? hk)).1
    rcases hown.2 with ⟨rfl, hn⟩ | ⟨b, cap, cur, rfl, _⟩
    · omega
    · simp only [execOp, ha.eval h1, ha.eval h2]
      simp [Instr.indexAt, asIntOf, run_underlying ht.und, hb, hte.sizeOf, add_at, elemPtr]
theorem q_ld_row [Dfs] {e' : TypeId} {size m : Nat} {dd : TypeDesc} {s by_ : Nat} {zv : Value} (ht : Tf P t dd s by_ zv) (k : Nat) {cs : List Value} {j : Nat} {r : Value} (hk : hs[k]? = some (.row v e' size m cs)) (h1 : opv L x = some (elemPtr v j)) (hj : cs[j]? = some r) (hd : aggD dd = false) :
    Qt P n w0 zs hs L ⟨d, .load t x, ty, pos, af, g⟩ r :=
  qt_of fun a ha w hw => by
    have hown := (hw.own _ (List.mem_of_getElem? hk)).1
    rcases hown.2 with ⟨rfl, rfl⟩ | ⟨b, cap, cur, rfl, hb, hg, hnc, hcm, hcs, htake⟩
    · have := hown.1
      have hcs : cs = [] := List.eq_nil_of_length_eq_zero (by simpa using this)
      subst hcs
      simp at hj
    · have hcell : w.cell? ⟨b, 0 + j, none⟩ = some r := by
        rw [cell_of_row w b _ cur e' (0, 0) hg]
        rw [← htake, List.getElem?_take] at hj
        split at hj
        · simpa using hj
        · cases hj
      have he : a.eval x = .pointer (some ⟨b, 0 + j, none⟩) := (ha.eval h1).trans (by simp [elemPtr, add_at])
      rw [Nat.zero_add] at hcell he
      simp only [execOp, he]
      simp [Instr.loadAt, Instr.sureAddr, run_load1 ht hd hcell]
theorem q_ld_rowM [Dfs] {α : Type} {f : α → Value} {e' : TypeId} {m : Nat} {dd : TypeDesc} {s by_ : Nat} {zv : Value} (ht : Tf P t dd s by_ zv) (k : Nat) {xs : List α} (dflt : α) {j : Nat} (hk : hs[k]? = some (.row v e' 1 m (xs.map f))) (h1 : opv L x = some (elemPtr v (j * 1))) (hj : j < xs.length) (hd : aggD dd = false) :
    Qt P n w0 zs hs L ⟨d, .load t x, ty, pos, af, g⟩ (f (xs.getD j dflt)) :=
  q_ld_row ht k hk h1 (by simp [hj]) hd

/-! ### values that are built -/
theorem q_build [Dfs] {parts : Array (Nat × Operand)} {vparts : List (Nat × Value)} (hp : (parts.toList.mapM fun p => (opv L p.2).map fun v => (p.1, v)) = some vparts) (hr : ∀ w, (Instr.build t vparts.toArray).run P w = .ok v w) :
    Qt P n w0 zs hs L ⟨d, .build t parts, ty, pos, af, g⟩ v :=
  qt_of fun a ha w hw => by
    have key : ∀ (l : List (Nat × Operand)) (vl : List (Nat × Value)), (l.mapM fun p => (opv L p.2).map fun v => (p.1, v)) = some vl → l.map (fun p => (p.1, a.eval p.2)) = vl := by
      intro l
      induction l with
      | nil => intro vl h; simp at h; simp [h]
      | cons p l ih =>
        intro vl h
        rw [List.mapM_cons] at h
        cases ho : opv L p.2 with
        | none => simp [ho] at h
        | some u =>
          simp [ho] at h
          cases hm : (l.mapM fun p => (opv L p.2).map fun v => (p.1, v)) with
          | none => simp [hm] at h
          | some r =>
            simp [hm] at h
            subst h
            simp [ha.eval ho, ih r hm]
    have e : (parts.map fun (i, x) => (i, a.eval x)) = vparts.toArray := by
      apply Array.ext'
      simp [← key _ _ hp]
    simp only [execOp, e]
    simp [hr w]

theorem run_build_arr {m : Nat} {e : TypeId} {s by_ : Nat} {zv : Value} (ht : Tf P t (.array m e) s by_ zv) {de : TypeDesc} {se be : Nat} {ze : Value} (hte : Tf P e de se be ze) {parts : List (Nat × Value)} {cells : List Value} (hf : Instr.fill (fun i => some (i * se, se)) zv.cells parts = some cells.toArray) (w : World) :
    (Instr.build t parts.toArray).run P w = .ok (.agg cells.toArray) w := by
  simp [Instr.build, ht.zero, run_underlying ht.und, hte.sizeOf, hf]

theorem ef_bslice [Dfs] {e : TypeId} {s by_ : Nat} {zv : Value} (ht : Tf P t (.slice e) s by_ zv) {de : TypeDesc} {se be : Nat} {ze : Value} (hte : Tf P e de se be ze) {m : Nat} {parts : Array (Nat × Operand)} {vparts : List (Nat × Value)} {cells : List Value} (hp : (parts.toList.mapM fun p => (opv L p.2).map fun v => (p.1, v)) = some vparts)
    (hf : Instr.fill (fun i => some (i * se, se)) ((Array.range (m * se)).map (ze.cells[· % ze.cells.size]!)) vparts = some cells.toArray) (hb : m * se ≤ 16777216) (h0 : (m * se == 0) = false) (hl : cells.length = m * se) :
    Ef P n w0 zs hs L ⟨d, .buildSlice t m parts, ty, pos, af, g⟩ (fun v zs' hs' => zs' = zs ∧ hs' = .row v e se m cells :: hs) :=
  ef_of fun a ha w hw => by
    have key : ∀ (l : List (Nat × Operand)) (vl : List (Nat × Value)), (l.mapM fun p => (opv L p.2).map fun v => (p.1, v)) = some vl → l.map (fun p => (p.1, a.eval p.2)) = vl := by
      intro l
      induction l with
      | nil => intro vl h; simp at h; simp [h]
      | cons p l ih =>
        intro vl h
        rw [List.mapM_cons] at h
        cases ho : opv L p.2 with
        | none => simp [ho] at h
        | some u =>
          simp [ho] at h
          cases hm : (l.mapM fun p => (opv L p.2).map fun v => (p.1, v)) with
          | none => simp [hm] at h
          | some r =>
            simp [hm] at h
            subst h
            simp [ha.eval ho, ih r hm]
    have e1 : (parts.map fun (i, x) => (i, a.eval x)) = vparts.toArray := by
      apply Array.ext'
      simp [← key _ _ hp]
    have h1 : ¬ (m * se > 2 ^ 24) := by simp; omega
    have h2 : ¬ (m * se = 0) := by simpa using h0
    have hmm : m ≤ maxLen := by
      have : 0 < se := Nat.pos_of_ne_zero (fun e => h2 (by simp [e]))
      have := Nat.le_mul_of_pos_right m this
      unfold maxLen; omega
    have hst := hw.newRow e cells se m m hl (Nat.le_refl _) hmm
    rw [List.take_of_length_le (by omega)] at hst
    refine ⟨_, zs, _, _, .inl ?_, ⟨rfl, rfl⟩, hst⟩
    simp only [execOp, e1]
    have hr : (Instr.buildSlice t m vparts.toArray).run P w = .ok (.slice (some ⟨w.heap.size, 0, none⟩) m m) { w with heap := w.heap.push (.cells cells.toArray e (0, 0)) } := by
      unfold Instr.buildSlice
      rw [Sem.run_bind, run_underlying ht.und]
      simp only [Result.andThen_ok]
      rw [Sem.run_bind, hte.sizeOf]
      simp only [Result.andThen_ok]
      rw [if_neg h1]
      simp only [if_neg h2]
      simp only [Sem.run_bind, hte.zero, Result.andThen_ok, Sem.run_pure]
      simp only [hf]
      simp [newRow]
    rw [Sem.run_bind, hr]
    rfl
/-- An empty literal. -/
theorem ef_bslice0 [Dfs] {e : TypeId} {s by_ : Nat} {zv : Value} (ht : Tf P t (.slice e) s by_ zv) {de : TypeDesc} {se be : Nat} {ze : Value} (hte : Tf P e de se be ze) :
    Ef P n w0 zs hs L ⟨d, .buildSlice t 0 #[], ty, pos, af, g⟩ (fun v zs' hs' => zs' = zs ∧ hs' = .row v e se 0 [] :: hs) :=
  ef_of fun a ha w hw => by
    have hst := hw.newRow e [] se 0 0 (by simp) (Nat.le_refl _) (by unfold maxLen; omega)
    refine ⟨_, zs, _, _, .inl ?_, ⟨rfl, rfl⟩, by simpa using hst⟩
    simp only [execOp]
    have hr : (Instr.buildSlice t 0 #[]).run P w = .ok (.slice (some ⟨w.heap.size, 0, none⟩) 0 0) { w with heap := w.heap.push (.cells ([] : List Value).toArray e (0, 0)) } := by
      unfold Instr.buildSlice
      rw [Sem.run_bind, run_underlying ht.und]
      simp only [Result.andThen_ok]
      rw [Sem.run_bind, hte.sizeOf]
      simp [Instr.fill, newRow]
      have e0 : (Array.map (fun _ => (default : Value)) (Array.range 0)) = #[] := Array.eq_empty_of_size_eq_zero (by simp)
      rw [e0]
    simp only [Array.map_empty]
    rw [Sem.run_bind, hr]
    rfl
end
end Go.Fw
end

section
namespace Go.Fw

/-! ### a region that draws its order: quiet operations, and behind all of them a forced tail that may write -/
section
variable {P : Program} {ops : Array Oper} {md : Region.Mode} {C : World → Prop}

/-- Whatever order the head's f operations come in. -/
def HeadQ (P : Program) (md : Region.Mode) (ops : Array Oper) (C : World → Prop) (n : Nat) (T : Array Bool → Act → Prop) : Nat → Array Bool → Act → Prop
  | 0, ls, a => T ls a
  | f + 1, ls, a => Region.ready md ops ls ≠ [] ∧ ∀ i ∈ Region.ready md ops ls, i < n ∧ qOp P ops C i (HeadQ P md ops C n T f (ls.setIfInBounds i true)) a

theorem any_of_headQ {n k : Nat} {T : Array Bool → Act → Prop} {Q : Exit → Act → World → Prop} (hT : ∀ ls a w, C w → T ls a → wpAny P md ops Q k ls a w) :
    ∀ (f : Nat) (ls : Array Bool) (a : Act) (w : World), C w → HeadQ P md ops C n T f ls a → wpAny P md ops Q (f + k) ls a w := by
  intro f
  induction f with
  | zero => intro ls a w hw h; rw [Nat.zero_add]; exact hT ls a w hw h
  | succ f ih =>
    intro ls a w hw h
    have e : f + 1 + k = (f + k) + 1 := by omega
    rw [e]
    refine ⟨fun h0 => absurd h0 h.1, fun i hi => ?_⟩
    exact wpOp_of_qOp hw (fun a' w' hw' h' => ih _ a' w' hw' h') (h.2 i hi).2

/-- One that may come now comes first. -/
theorem headQ_first {n i : Nat} {oi : Oper} {v : Value} {T : Array Bool → Act → Prop} (hi : ops[i]? = some oi) (hsel : ∀ (j : Nat) (o : Oper) cs b, ops[j]? = some o → o.op ≠ .select cs b)
    (hs : Region.sinkB md ops n = true) (hc : Region.chainB md ops n = true) (hn : n < ops.size) (hin : i < n) (hT : ∀ ls a, T ls a → ∀ j ∈ Region.ready md ops ls, n ≤ j) :
    ∀ (f : Nat) (ls : Array Bool) (a : Act), HeadInv md ops n ls →
      (∀ j oj, ops[j]? = some oj → j ≠ i → ls.getD j true = false → (∀ e ∈ oj.after, Region.binds md e = true → e.on ≠ i) → oi.apart ops oj = true) →
      i ∈ Region.ready md ops ls → YieldsIn P ops C oi v a → HeadQ P md ops C n T f (ls.setIfInBounds i true) (a.put oi.dst v) → HeadQ P md ops C n T (f + 1) ls a := by
  intro f
  induction f with
  | zero =>
    intro ls a inv _ hr hy H
    have hun := (mem_ready.1 hr).1
    refine ⟨List.ne_nil_of_mem hr, fun j hj => ?_⟩
    have hjn : j < n := Nat.lt_of_not_le fun h => tail_waits hs hc hn inv _ i rfl hin hun j h hj
    refine ⟨hjn, ?_⟩
    by_cases hji : j = i
    · subst hji; exact hy.qOp hi H
    · exact absurd (hT _ _ H j (ready_mono hj hji)) (by omega)
  | succ f ih =>
    intro ls a inv hfree hr hy H
    have hun := (mem_ready.1 hr).1
    refine ⟨List.ne_nil_of_mem hr, fun j hj => ?_⟩
    have hjn : j < n := Nat.lt_of_not_le fun h => tail_waits hs hc hn inv _ i rfl hin hun j h hj
    refine ⟨hjn, ?_⟩
    by_cases hji : j = i
    · subst hji; exact hy.qOp hi H
    · have h1 := (H.2 j (ready_mono hj hji)).2
      obtain ⟨hjun, oj, hoj, hall⟩ := mem_ready.1 hj
      have hnot : ∀ e ∈ oj.after, Region.binds md e = true → e.on ≠ i := fun e he hb heq => by
        have h2 := hall e he hb
        rw [heq, getD_both hun] at h2
        cases h2
      have h2 := qOp_put hoj (hfree j oj hoj hji hjun hnot) (fun cs b => hsel i oi cs b hi) (fun cs b => hsel j oj cs b hoj) hy h1
      refine qOp_mono (fun a' h3 => ih (ls.setIfInBounds j true) a' (inv.set hj hjn) (fun k ok hk hki hkun hno => ?_) (ready_mono hr (Ne.symm hji)) h3.1 ?_) h2
      · refine hfree k ok hk hki ?_ hno
        by_cases hjk : j = k
        · subst hjk; exact hjun
        · rwa [getD_set_ne true hjk] at hkun
      · rw [Array.setIfInBounds_comm _ _ hji]
        exact h3.2

theorem headQ_lex {n k : Nat} {T : Act → Prop} (hsel : Region.noSelect ops = true) (hs : Region.sinkB md ops n = true) (hc : Region.chainB md ops n = true) (hn : n < ops.size) :
    ∀ (l : List Oper) (i : Nat) (ls : Array Bool) (a : Act), (∀ j, j < l.length → l[j]? = ops[i + j]?) → i + l.length = n → HeadInv md ops n ls →
    Region.lexHead md ops k l.length i ls = true → wpQuiet P ops C T l a → HeadQ P md ops C n (fun ls' a' => Region.seqB md ops k n ls' = true ∧ T a') l.length ls a := by
  intro l
  induction l with
  | nil =>
    intro i ls a _ hk _ hB h
    have : i = n := by simpa using hk
    subst this
    exact ⟨by simpa [Region.lexHead] using hB, h⟩
  | cons o l ih =>
    intro i ls a hl hk inv hB h
    have h0 : ops[i]? = some o := by simpa using (hl 0 (by simp)).symm
    simp only [List.length_cons, Region.lexHead, Bool.and_eq_true] at hB
    obtain ⟨⟨hr, hf⟩, hB'⟩ := hB
    have hin : i < n := by simp only [List.length_cons] at hk; omega
    have hr' : i ∈ Region.ready md ops ls := by simpa using hr
    have hq : qOp P ops C i (wpQuiet P ops C T l) a := by unfold qOp; simp only [h0]; exact h
    obtain ⟨v, hy, hK⟩ := yieldsIn_of_qOp h0 hq
    exact headQ_first h0 (Region.noSelect_spec hsel) hs hc hn hin (fun ls' a' hT => seqB_ready hT.1) l.length ls a inv (Region.free_spec h0 hf) hr' hy
      (ih (i + 1) _ _ (fun j hj => by have := hl (j + 1) (by simp; omega); simpa [Nat.add_assoc, Nat.add_comm 1 j] using this) (by simp only [List.length_cons] at hk; omega) (inv.set hr' hin) hB' hK)

theorem wp_region_quiet_tail {id : Nat} {Q : Exit → Act → World → Prop} {a : Act} {w : World} {l : List Oper} (n : Nat) (hm : P.follows .mixedOrders = true) (hB : Region.lexTailB .any l.toArray n = true) (hC : C { w with drawn := w.drawn + 1 })
    (h : wpQuiet P l.toArray C (fun a' => ∀ w', C w' → wpList P l.toArray Q (l.drop n) a' w') (l.take n) a) : (Code.region id l.toArray true).wp P Q a w := by
  simp only [Region.lexTailB, Bool.and_eq_true, decide_eq_true_eq] at hB
  obtain ⟨⟨⟨⟨hsel, hn⟩, hs⟩, hc⟩, hlex⟩ := hB
  have hn' : n < l.length := by simpa using hn
  have htl : (l.take n).length = n := by simp; omega
  have hdl : (l.drop n).length = l.toArray.size - n := by simp
  have inv0 : HeadInv .any l.toArray n (Array.replicate l.toArray.size false) :=
    ⟨by simp, fun j oj _ hl => (by rw [getD_replicate_false] at hl; cases hl), fun t _ ht => getD_in (by simpa using ht) (getD_replicate_false _ _)⟩
  have H := headQ_lex (C := C) (md := .any) (k := l.toArray.size - n) hsel hs hc hn (l.take n) 0 _ a (fun j hj => by
    have hj' : j < n := by rw [htl] at hj; exact hj
    simp [hj']) (by simpa using htl) inv0 (by rw [htl]; exact hlex) h
  refine wp_region_any hm ?_
  have := any_of_headQ (C := C) (Q := Q) (k := l.toArray.size - n) (fun ls a' w' hw' hT => by
    have := wpAny_of_seq (md := .any) (Q' := Q) (l.drop n) n ls a' w' (fun j => by simp [List.getElem?_drop]) (by rw [hdl]; exact hT.1) (hT.2 w' hw')
    rwa [hdl] at this) _ _ _ { w with drawn := w.drawn + 1 } hC H
  rw [htl, show n + (l.toArray.size - n) = l.toArray.size by omega] at this
  exact this
end

section
variable {P : Program} {n : Nat} {w0 : World} {zs : List PH} {hs : List Res} {L L' : List (Nat × Value)} {l : List Oper} {k : Nat}
/-- A region that draws its order: m quiet operations, then the others in the text's order. -/
theorem regt [Dfs] {id : Nat} {Q : Exit → Act → World → Prop} {a : Act} {w : World} (m : Nat) (hm : P.follows .mixedOrders = true) (hB : Region.lexTailB .any l.toArray m = true) (hF : Fr n L a) (hS : St w0 zs hs w)
    (s : Sq P n w0 zs hs l.toArray k L (l.take m) L' []) (K : ∀ a w, Fr n L' a → St w0 zs hs w → wpList P l.toArray Q (l.drop m) a w) : (Code.region id l.toArray true).wp P Q a w :=
  wp_region_quiet_tail (C := St w0 zs hs) m hm hB (hS.drew _) (wpq_sq (by exact hF) s fun a hF w hS => K a w hF hS)
end
end Go.Fw
end

section
namespace Go.Fw
/-- A part of a slice. -/
def slV (v : Value) (size lo hi : Nat) : Value :=
  match v with
  | .slice a _ c => .slice (if c = lo then a else a.map (·.add (lo * size))) (hi - lo) (c - lo)
  | _ => undef

theorem Sl.cut {α : Type} {E : Enc α} {z : PH} {v : Value} {xs : List α} (h : Sl E z v xs) {lo hi : Nat} (hb : lo ≤ hi ∧ hi ≤ xs.length) : Sl E z (slV v E.size lo hi) ((xs.take hi).drop lo) := by
  obtain ⟨hm, a, c, rfl, hc, h⟩ := h
  have hl : ((xs.take hi).drop lo).length = hi - lo := by simp; omega
  refine ⟨by omega, _, c - lo, by simp only [slV, hl]; rfl, by omega, fun i x hx => ?_⟩
  rw [List.getElem?_drop, List.getElem?_take] at hx
  split at hx
  · rename_i hlt
    obtain ⟨b, off, cs, ty, fz, cx, rfl, h2, h3, h4⟩ := h (lo + i) x hx
    refine ⟨b, off + lo * E.size, cs, ty, fz, cx, ?_, h2, h3, fun j u hu => ?_⟩
    · rw [if_neg (by omega)]
      simp [add_at]
    · rw [← h4 j u hu, Nat.add_mul]
      congr 1
      omega
  · cases hx

section
variable {P : Program} {n : Nat} {w0 : World} {zs : List PH} {hs : List Res} {L : List (Nat × Value)} {d : Option Tmp} {ty t t' : TypeId} {pos : String} {af : Array Edge} {g : Option (Nat × Bool)}
variable {x y c o1 o2 o3 : Operand} {u v : Value} {ops : Array Oper} {rest : List Oper}

theorem q_slsl_lo_hi [Dfs] {α : Type} {E : Enc α} {z : PH} {xs : List α} {e : TypeId} {s by_ : Nat} {zv : Value} (ht : Tf P t (.slice e) s by_ zv) {de : TypeDesc} {be : Nat} {ze : Value} (hte : Tf P e de E.size be ze) {k k' : IntKind} {i j : Int} (hS : Sl E z v xs) (h1 : opv L x = some v) (h2 : opv L y = some (.int k i)) (h3 : opv L c = some (.int k' j)) (hb : 0 ≤ i ∧ i ≤ j ∧ j ≤ xs.length) :
    Qt P n w0 zs hs L ⟨d, .slice t x (some y) (some c) none, ty, pos, af, g⟩ (slV v E.size i.toNat j.toNat) :=
  qt_of fun a ha w hw => by
    obtain ⟨_, ad, cc, rfl, hcc, _⟩ := hS
    simp only [execOp, ha.eval h1, Option.map_some, ha.eval h2, ha.eval h3, Option.map_none]
    have e1 : (Instr.sliceBound (.int k' j) cc .sliceAcap).run P w = .ok j.toNat w := run_sliceBound (P := P) (w := w) k' j cc .sliceAcap (by omega) (by omega)
    have e2 : (Instr.sliceBound (.int k i) j.toNat .sliceB).run P w = .ok i.toNat w := run_sliceBound (P := P) (w := w) k i j.toNat .sliceB (by omega) (by omega)
    simp [Instr.sliceAt, Instr.slice, run_underlying ht.und, Instr.sliceBounds, hte.sizeOf, e1, e2, slV]
theorem q_slsl_lo [Dfs] {α : Type} {E : Enc α} {z : PH} {xs : List α} {e : TypeId} {s by_ : Nat} {zv : Value} (ht : Tf P t (.slice e) s by_ zv) {de : TypeDesc} {be : Nat} {ze : Value} (hte : Tf P e de E.size be ze) {k : IntKind} {i : Int} (hS : Sl E z v xs) (h1 : opv L x = some v) (h2 : opv L y = some (.int k i)) (hb : 0 ≤ i ∧ i ≤ xs.length) :
    Qt P n w0 zs hs L ⟨d, .slice t x (some y) none none, ty, pos, af, g⟩ (slV v E.size i.toNat xs.length) :=
  qt_of fun a ha w hw => by
    obtain ⟨_, ad, cc, rfl, hcc, _⟩ := hS
    simp only [execOp, ha.eval h1, Option.map_some, ha.eval h2, Option.map_none]
    have e2 : (Instr.sliceBound (.int k i) xs.length .sliceB).run P w = .ok i.toNat w := run_sliceBound (P := P) (w := w) k i xs.length .sliceB (by omega) (by omega)
    simp [Instr.sliceAt, Instr.slice, run_underlying ht.und, Instr.sliceBounds, hte.sizeOf, e2, slV]
theorem q_slsl_hi [Dfs] {α : Type} {E : Enc α} {z : PH} {xs : List α} {e : TypeId} {s by_ : Nat} {zv : Value} (ht : Tf P t (.slice e) s by_ zv) {de : TypeDesc} {be : Nat} {ze : Value} (hte : Tf P e de E.size be ze) {k : IntKind} {i : Int} (hS : Sl E z v xs) (h1 : opv L x = some v) (h2 : opv L y = some (.int k i)) (hb : 0 ≤ i ∧ i ≤ xs.length) :
    Qt P n w0 zs hs L ⟨d, .slice t x none (some y) none, ty, pos, af, g⟩ (slV v E.size 0 i.toNat) :=
  qt_of fun a ha w hw => by
    obtain ⟨_, ad, cc, rfl, hcc, _⟩ := hS
    simp only [execOp, ha.eval h1, Option.map_some, ha.eval h2, Option.map_none]
    have e2 : (Instr.sliceBound (.int k i) cc .sliceAcap).run P w = .ok i.toNat w := run_sliceBound (P := P) (w := w) k i cc .sliceAcap (by omega) (by omega)
    cases ad <;> simp [Instr.sliceAt, Instr.slice, run_underlying ht.und, Instr.sliceBounds, hte.sizeOf, e2, slV, Addr.add]

/-- An element of an array that is the whole box. -/
theorem q_idx_arr0 [Dfs] {m : Nat} {e : TypeId} {s by_ : Nat} {zv : Value} (ht : Tf P t (.array m e) s by_ zv) {de : TypeDesc} {be : Nat} {ze : Value} (hte : Tf P e de 1 be ze) {b : Nat} {i : Int} {k : IntKind} (h1 : opv L x = some (.pointer (some ⟨b, 0, none⟩))) (h2 : opv L y = some (.int k i)) (hb : 0 ≤ i ∧ i < m) :
    Qt P n w0 zs hs L ⟨d, .indexAddr t x y, ty, pos, af, g⟩ (.pointer (some ⟨b, i.toNat, none⟩)) := by
  have := q_idx_arr (d := d) (ty := ty) (pos := pos) (af := af) (g := g) (n := n) (w0 := w0) (zs := zs) (hs := hs) ht hte h1 h2 hb
  simpa using this
/-- An element of a table. -/
theorem q_ld_old1M [Dfs] {α : Type} {f : α → Value} {dd : TypeDesc} {s by_ : Nat} {zv : Value} (ht : Tf P t dd s by_ zv) {b off : Nat} {bt : TypeId} {xs : List α} {fz : Nat × Nat} (dflt : α) (h1 : opv L x = some (.pointer (some ⟨b, off, none⟩))) (hk : w0.heap[b]? = some (.cells (xs.map f).toArray bt fz)) (hl : off < xs.length) (hd : aggD dd = false) :
    Qt P n w0 zs hs L ⟨d, .load t x, ty, pos, af, g⟩ (f (xs.getD off dflt)) :=
  q_ld_old1 ht h1 hk (by simp [hl]) hd
/-- A whole box. -/
theorem q_ld_blkW [Dfs] {dd : TypeDesc} {s by_ : Nat} {zv : Value} (ht : Tf P t dd s by_ zv) (k : Nat) {b : Nat} {bt : TypeId} {cs : List Value} (h1 : opv L x = some (.pointer (some ⟨b, 0, none⟩))) (hk : hs[k]? = some (.blk b bt cs)) (hl : cs.length = s) (hd : aggD dd = true) :
    Qt P n w0 zs hs L ⟨d, .load t x, ty, pos, af, g⟩ (.agg cs.toArray) :=
  q_ld_blkA ht k h1 hk (by rw [List.drop_zero, List.take_of_length_le (by omega)]) (by omega) hd
theorem ef_storeW [Dfs] {dd : TypeDesc} {s by_ : Nat} {zv : Value} (ht : Tf P t dd s by_ zv) (k : Nat) {b : Nat} {bt : TypeId} {cs c : List Value} (h1 : opv L x = some (.pointer (some ⟨b, 0, none⟩))) (h2 : opv L y = some v) (hk : hs[k]? = some (.blk b bt cs)) (hc : v.cells = c.toArray) (hcs : c.length = s) (ho : ∀ u ∈ c, u.oneCell' = true) (hl : cs.length = s) :
    Ef P n w0 zs hs L ⟨d, .store t x y, ty, pos, af, g⟩ (fun v zs' hs' => v = undef ∧ zs' = zs ∧ hs' = hs.set k (.blk b bt c)) :=
  ef_store ht k h1 h2 hk hc hcs ho (by omega) (by simp [hl])
end
end Go.Fw
end

section
namespace Go.Fw

/-! ### a region that draws its order and writes: quiet operations are taken first, each under its own condition; the others are branched over -/
section
variable {P : Program} {ops : Array Oper} {md : Region.Mode}

abbrev Wt := List (Nat × (World → Prop))

/-- k waits for i, through at most so many. -/
def reachB (md : Region.Mode) (ops : Array Oper) : Nat → Nat → Nat → Bool
  | 0, _, _ => false
  | f + 1, k, i => match ops[k]? with
    | some o => o.after.any fun e => Region.binds md e && (e.on == i || reachB md ops f e.on i)
    | none => false

/-- Somebody who waits for i has come up. -/
def relB (md : Region.Mode) (ops : Array Oper) (ls : Array Bool) (seen : List Nat) (i : Nat) : Bool :=
  (List.range ops.size).any fun k => ls.getD k false && !seen.contains k && reachB md ops 2 k i

def Held (md : Region.Mode) (ops : Array Oper) (ls : Array Bool) (w : World) : List Nat → Wt → Prop
  | _, [] => True
  | seen, (i, C) :: W => (relB md ops ls (i :: seen) i = true ∨ C w) ∧ Held md ops ls w (i :: seen) W

def Closed (md : Region.Mode) (ops : Array Oper) (ls : Array Bool) : Prop :=
  ∀ k o, ops[k]? = some o → ls.getD k false = true → ∀ e ∈ o.after, Region.binds md e = true → ls.getD e.on false = true

theorem Closed.reach {ls : Array Bool} (hc : Closed md ops ls) : ∀ (f k i : Nat), reachB md ops f k i = true → ls.getD k false = true → ls.getD i false = true
  | 0, _, _, h, _ => by simp [reachB] at h
  | f + 1, k, i, h, hk => by
    unfold reachB at h
    cases ho : ops[k]? with
    | none => rw [ho] at h; simp at h
    | some o =>
      rw [ho] at h
      simp only [Array.any_eq_true, Bool.and_eq_true, Bool.or_eq_true, beq_iff_eq] at h
      obtain ⟨j, hj, hb, h⟩ := h
      have h1 := hc k o ho hk o.after[j] (by simp) hb
      rcases h with h | h
      · rwa [h] at h1
      · exact hc.reach f _ _ h h1

theorem Closed.set {ls : Array Bool} {i : Nat} (hc : Closed md ops ls) (hi : i ∈ Region.ready md ops ls) : Closed md ops (ls.setIfInBounds i true) := by
  obtain ⟨_, oi, hoi, hall⟩ := mem_ready.1 hi
  intro k o ho hk e he hb
  by_cases hik : i = k
  · subst hik
    have : o = oi := Option.some.inj (ho.symm.trans hoi)
    subst this
    exact getD_set_true (hall e he hb)
  · rw [getD_set_ne false hik] at hk
    exact getD_set_true (hc k o ho hk e he hb)

def wpW (P : Program) (md : Region.Mode) (ops : Array Oper) (Q : Exit → Act → World → Prop) : Nat → Wt → Array Bool → Act → World → Prop
  | 0, _, ls, a, w => Region.ready md ops ls = [] ∧ Q .normal a w
  | f + 1, W, ls, a, w => (Region.ready md ops ls = [] → Q .normal a w) ∧
    ∀ i ∈ Region.ready md ops ls, wpOp P ops Q i (fun a' w' => Held md ops (ls.setIfInBounds i true) w' [] W ∧ wpW P md ops Q f W (ls.setIfInBounds i true) a' w') a w

theorem wpAny_of_wpW {Q : Exit → Act → World → Prop} : ∀ (f : Nat) (W : Wt) (ls : Array Bool) (a : Act) (w : World), wpW P md ops Q f W ls a w → wpAny P md ops Q f ls a w
  | 0, _, _, _, _, h => h
  | f + 1, _, _, _, _, h => ⟨h.1, fun i hi => wpOp_mono (fun a' w' h' => wpAny_of_wpW f _ _ a' w' h'.2) (h.2 i hi)⟩

/-- What was released by the others than i. -/
theorem Held.less {ls : Array Bool} {i : Nat} {w : World} : ∀ (W : Wt) (seen seen' : List Nat), (∀ k ∈ seen', k ∈ seen ∨ k = i) → (∀ k ∈ seen, k ∈ seen') → i ∈ seen' →
    Held md ops (ls.setIfInBounds i true) w seen' W → Held md ops ls w seen W
  | [], _, _, _, _, _, _ => trivial
  | (j, C) :: W, seen, seen', h1, h2, h3, h => by
    refine ⟨?_, Held.less W (j :: seen) (j :: seen') (fun k hk => ?_) (fun k hk => ?_) (List.mem_cons_of_mem _ h3) h.2⟩
    · rcases h.1 with h | h
      · left
        unfold relB at *
        rw [List.any_eq_true] at *
        obtain ⟨k, hk, hr⟩ := h
        simp only [Bool.and_eq_true, Bool.not_eq_true', List.contains_eq_mem, List.mem_cons, decide_eq_false_iff_not, not_or] at hr ⊢
        obtain ⟨⟨h4, h5⟩, h6⟩ := hr
        have hki : i ≠ k := fun e => h5.2 (e ▸ h3)
        refine ⟨k, hk, ⟨?_, h5.1, fun hh => h5.2 (h2 _ hh)⟩, h6⟩
        rwa [getD_set_ne false hki] at h4
      · exact .inr h
    · rcases List.mem_cons.1 hk with e | hk
      · exact .inl (e ▸ List.mem_cons_self)
      · exact (h1 k hk).imp (List.mem_cons_of_mem _) id
    · rcases List.mem_cons.1 hk with e | hk
      · exact e ▸ List.mem_cons_self
      · exact List.mem_cons_of_mem _ (h2 k hk)

theorem Held.mono {ls : Array Bool} {w : World} : ∀ (W : Wt) (seen seen' : List Nat), (∀ k ∈ seen, k ∈ seen') → Held md ops ls w seen' W → Held md ops ls w seen W
  | [], _, _, _, _ => trivial
  | (j, C) :: W, seen, seen', h2, h => by
    have h2' : ∀ k ∈ j :: seen, k ∈ j :: seen' := fun k hk => by
      rcases List.mem_cons.1 hk with e | hk
      · exact e ▸ List.mem_cons_self
      · exact List.mem_cons_of_mem _ (h2 k hk)
    refine ⟨h.1.imp (fun h => ?_) id, Held.mono W _ _ h2' h.2⟩
    unfold relB at *
    rw [List.any_eq_true] at *
    obtain ⟨k, hk, hr⟩ := h
    simp only [Bool.and_eq_true, Bool.not_eq_true', List.contains_eq_mem, decide_eq_false_iff_not] at hr ⊢
    exact ⟨k, hk, ⟨hr.1.1, fun hh => hr.1.2 (h2' _ hh)⟩, hr.2⟩

theorem Held.more {ls : Array Bool} {i : Nat} {w : World} (hun : ls.getD i false = false) : ∀ (W : Wt) (seen seen' : List Nat), (∀ k ∈ seen', k ∈ seen ∨ k = i) → Held md ops ls w seen W → Held md ops (ls.setIfInBounds i true) w seen' W
  | [], _, _, _, _ => trivial
  | (j, C) :: W, seen, seen', h2, h => by
    have h2' : ∀ k ∈ j :: seen', k ∈ j :: seen ∨ k = i := fun k hk => by
      rcases List.mem_cons.1 hk with e | hk
      · exact .inl (e ▸ List.mem_cons_self)
      · exact (h2 k hk).imp (List.mem_cons_of_mem _) id
    refine ⟨h.1.imp (fun h => ?_) id, Held.more hun W _ _ h2' h.2⟩
    unfold relB at *
    rw [List.any_eq_true] at *
    obtain ⟨k, hk, hr⟩ := h
    simp only [Bool.and_eq_true, Bool.not_eq_true', List.contains_eq_mem, decide_eq_false_iff_not] at hr ⊢
    refine ⟨k, hk, ⟨getD_set_true hr.1.1, fun hh => ?_⟩, hr.2⟩
    rcases h2' k hh with h3 | rfl
    · exact hr.1.2 h3
    · rw [hun] at hr; exact absurd hr.1.1 (by simp)

theorem wpW_drop {Q : Exit → Act → World → Prop} {p : Nat × (World → Prop)} {W : Wt} : ∀ (f : Nat) (ls : Array Bool) (a : Act) (w : World), wpW P md ops Q f (p :: W) ls a w → wpW P md ops Q f W ls a w
  | 0, _, _, _, h => h
  | f + 1, _, _, _, h => ⟨h.1, fun i hi => wpOp_mono (fun a' w' h' => ⟨Held.mono W [] [p.1] (by simp) h'.1.2, wpW_drop f _ _ _ h'.2⟩) (h.2 i hi)⟩

/-- What holds of the world at hand. -/
theorem Held.all {ls : Array Bool} {w : World} : ∀ {W : Wt} {seen : List Nat}, (∀ p ∈ W, p.2 w) → Held md ops ls w seen W
  | [], _, _ => trivial
  | _ :: _, _, h => ⟨.inr (h _ List.mem_cons_self), Held.all fun p hp => h p (List.mem_cons_of_mem _ hp)⟩

def QJ (J : Act → World → Prop) : Exit → Act → World → Prop := fun e a w => e = .normal ∧ J a w

/-- One operation 'oj', apart from 'oi'. -/
theorem wpOp_putIn {C : World → Prop} {J : Act → World → Prop} {j : Nat} {oi oj : Oper} {v : Value} (hj : ops[j]? = some oj) (hap : oi.apart ops oj = true)
    (hsi : ∀ cs b, oi.op ≠ .select cs b) (hsj : ∀ cs b, oj.op ≠ .select cs b) {K : Act → World → Prop} {a : Act} {w : World}
    (hy : YieldsIn P ops C oi v a) (h : wpOp P ops (QJ J) j K (a.put oi.dst v) w) :
    wpOp P ops (QJ J) j (fun a' w' => YieldsIn P ops C oi v a' ∧ K (a'.put oi.dst v) w') a w := by
  obtain ⟨h1, h2, h3⟩ := Oper.apart_spec hap
  have keep : ∀ (a : Act), YieldsIn P ops C oi v a → ∀ u, YieldsIn P ops C oi v (a.put oj.dst u) := fun a hy u =>
    hy.of_same (execOp_put oi hsi a oj.dst u h3) (wanted_put oi a oj.dst u h3)
  have keepD : ∀ d, YieldsIn P ops C oi v { a with defers := d :: a.defers } := fun d => hy.of_same rfl rfl
  unfold wpOp at *
  simp only [hj] at *
  rw [wanted_put oj a oi.dst v h1] at h
  split
  · rename_i hw
    simp only [hw, if_true] at h
    rcases h with h | ⟨hasks, hlets⟩
    case inr => exact .inr ⟨by unfold Oper.asks at *; rw [execOp_put oj hsj a oi.dst v h1] at hasks; exact hasks, hlets⟩
    refine .inl ?_
    unfold Oper.wp at *
    rw [execOp_put oj hsj a oi.dst v h1] at h
    generalize (execOp a.eval oj).run P w = r at *
    cases r with
    | ok n w' =>
      cases n <;> simp only [Oper.upon] at h ⊢
      case value u => exact ⟨keep a hy u, by rw [← Act.put_comm a v u h2]; exact h⟩
      case skip => exact ⟨keep a hy _, by rw [← Act.put_comm a v undef h2]; exact h⟩
      case defer d =>
        refine ⟨keep _ (keepD d) _, ?_⟩
        rw [← Act.put_comm _ v undef h2, ← Act.put_defers]
        exact h
      case enter f args =>
        refine Calls.mono h fun e w'' he => ?_
        cases e with
        | returned u => exact ⟨keep a hy u, by rw [← Act.put_comm a v u h2]; exact he⟩
        | panicked c => exact absurd he.1 (by simp)
        | outgrown => exact he
      case row row args => exact Rows.mono h fun u w'' he => ⟨keep a hy u, by rw [← Act.put_comm a v u h2]; exact he⟩
    | halt x w' =>
      cases x <;> simp only [Oper.upon] at h ⊢
      case panic u => exact absurd h.1 (by simp)
  · rename_i hw
    simp only [hw] at h
    exact ⟨keep a hy _, by rw [← Act.put_comm a v undef h2]; exact h⟩

/-- These hand back a value or nothing: they call nobody. -/
def plainB (o : Oper) : Bool :=
  match o.op with
  | .move _ | .assign _ | .pick _ _ _ | .build _ _ | .load _ _ | .binOp _ _ _ _ _ | .unOp _ _ _ | .convert _ _ _ | .sliceToArrayPointer _ _ | .slice _ _ _ _ _ | .fieldAddr _ _ _ | .field _ _ _ | .indexAddr _ _ _ | .index _ _ _ | .lookup _ _ _ _ | .extract _ _ | .nilCheck _ => true
  | .call c => match c.callee with
    | .builtin b => (match b with | .len | .cap | .min | .max => true | _ => false)
    | _ => false
  | _ => false

theorem run_v {s : Sem Value} {w w' : World} {f : FuncId} {args : Array Value} : Sem.run P (do pure (Next.value (← s))) w ≠ .ok (.enter f args) w' := by
  rw [Sem.run_bind]
  cases h : s.run P w <;> simp [Result.andThen]

theorem plain_no {o : Oper} (h : plainB o = true) {ρ : Operand → Value} {w w' : World} {f : FuncId} {args : Array Value} : (execOp ρ o).run P w ≠ .ok (.enter f args) w' := by
  unfold plainB at h
  unfold execOp
  cases ho : o.op <;> simp only [ho] at h ⊢ <;> first
    | exact run_v
    | (simp at h; done)
    | skip
  case move => simp
  case assign => simp
  case nilCheck x =>
    split
    · simp [runtimePanic]
    · simp [runtimePanic]
    · simp [runtimePanic]
    · split
      · simp [runtimePanic]
      · simp only [Sem.run_bind]
        intro h9
        cases h1 : Sem.run P program w <;> rw [h1] at h9 <;> simp only [Result.andThen] at h9
        · rename_i p w1
          generalize Sem.run P (nilAhead _ _ _ _) w1 = r at h9
          cases r <;> simp only [Result.andThen] at h9
          · split at h9
            · simp [unsupported, Sem.run_bind, Result.andThen] at h9
            · simp at h9
          · cases h9
        · cases h9
      · simp
    · simp
  case pick c a b =>
    rw [Sem.run_bind]
    cases h : (asBool (ρ c)).run P w <;> simp [Result.andThen]
  case call c =>
    cases hc : c.callee <;> simp only [hc] at h
    case builtin b =>
      cases b <;> simp only [] at h <;> first | (simp at h; done) | skip
      all_goals
        simp only [resolve, hc, Sem.run_bind, Sem.run_pure, Result.andThen_ok, invoke, builtin]
        have := @run_v P
        simp only [Sem.run_bind] at this
        exact this
    all_goals (simp at h; done)

/-- A plain operation that is quiet leaves the very world. -/
theorem plain_same {C : World → Prop} {o : Oper} {v : Value} {a : Act} {w : World} (hp : plainB o = true) (h : o.quietAt P a C w v) :
    (execOp a.eval o).run P w = .ok (.value v) w ∨ ((execOp a.eval o).run P w = .ok .skip w ∧ v = undef) := by
  unfold Oper.quietAt at h
  generalize hr : (execOp a.eval o).run P w = r at *
  cases r with
  | ok n w' =>
    cases n <;> simp only [Oper.quietUpon] at h
    case value u => obtain ⟨rfl, rfl⟩ := h; exact .inl rfl
    case skip => obtain ⟨rfl, rfl⟩ := h; exact .inr ⟨rfl, rfl⟩
    case enter f args => exact absurd hr (plain_no hp)
  | halt x w' => simp only [Oper.quietUpon] at h

theorem yin_wpOpP {C : World → Prop} {i : Nat} {o : Oper} {v : Value} {a : Act} {Q : Exit → Act → World → Prop} (hi : ops[i]? = some o) (hp : plainB o = true) (hy : YieldsIn P ops C o v a)
    {K : Act → World → Prop} {w : World} (hC : C w) (h : K (a.put o.dst v) w) : wpOp P ops Q i K a w := by
  unfold Go.wpOp
  simp only [hi]
  rcases hy with ⟨hw, hv⟩ | ⟨hw, rfl⟩
  · simp only [hw, if_true]
    refine .inl ?_
    unfold Oper.wp
    rcases plain_same hp (hv w hC) with h3 | ⟨h3, rfl⟩ <;> rw [h3] <;> exact h
  · simp only [hw, Bool.false_eq_true, if_false]; exact h

/-- It may come first: C: where it yields its value, whenever it comes up. -/
theorem wpW_first {J : Act → World → Prop} {C : World → Prop} {i : Nat} {oi : Oper} {v : Value} (hi : ops[i]? = some oi) (hp : plainB oi = true) (hsel : ∀ (j : Nat) (o : Oper) cs b, ops[j]? = some o → o.op ≠ .select cs b) (W : Wt) :
    ∀ (f : Nat) (ls : Array Bool) (a : Act) (w : World), Closed md ops ls →
      (∀ j oj, ops[j]? = some oj → j ≠ i → ls.getD j true = false → (∀ e ∈ oj.after, Region.binds md e = true → e.on ≠ i) → oi.apart ops oj = true) →
      i ∈ Region.ready md ops ls → YieldsIn P ops C oi v a → C w → Held md ops (ls.setIfInBounds i true) w [] W →
      wpW P md ops (QJ J) f ((i, C) :: W) (ls.setIfInBounds i true) (a.put oi.dst v) w → wpW P md ops (QJ J) (f + 1) W ls a w := by
  intro f
  induction f with
  | zero =>
    intro ls a w _ _ hr hy hC hW H
    refine ⟨fun h => (by rw [h] at hr; cases hr), fun j hj => ?_⟩
    by_cases hji : j = i
    · subst hji; exact yin_wpOpP hi hp hy hC ⟨hW, wpW_drop _ _ _ _ H⟩
    · have := ready_mono hj hji
      rw [H.1] at this
      cases this
  | succ f ih =>
    intro ls a w hcl hfree hr hy hC hW H
    refine ⟨fun h => (by rw [h] at hr; cases hr), fun j hj => ?_⟩
    by_cases hji : j = i
    · subst hji; exact yin_wpOpP hi hp hy hC ⟨hW, wpW_drop _ _ _ _ H⟩
    · have h1 := H.2 j (ready_mono hj hji)
      obtain ⟨hjun, oj, hoj, hall⟩ := mem_ready.1 hj
      have hiun := (mem_ready.1 hr).1
      have hnot : ∀ e ∈ oj.after, Region.binds md e = true → e.on ≠ i := fun e he hb heq => by
        have h1 := hall e he hb
        rw [heq, getD_both hiun] at h1
        cases h1
      have h2 := wpOp_putIn hoj (hfree j oj hoj hji hjun hnot) (fun cs b => hsel i oi cs b hi) (fun cs b => hsel j oj cs b hoj) hy h1
      have hcl' := hcl.set hj
      refine wpOp_mono (fun a' w' h3 => ?_) h2
      obtain ⟨hy', ⟨hrel, hHW⟩, hT⟩ := h3
      have hcomm : (ls.setIfInBounds j true).setIfInBounds i true = (ls.setIfInBounds i true).setIfInBounds j true := Array.setIfInBounds_comm _ _ hji
      have hiun' : (ls.setIfInBounds j true).getD i false = false := by rw [getD_set_ne false hji]; exact getD_both hiun
      have hCw' : C w' := by
        rcases hrel with hrel | hC'
        · exfalso
          unfold relB at hrel
          rw [List.any_eq_true] at hrel
          obtain ⟨k, _, hk⟩ := hrel
          simp only [Bool.and_eq_true, Bool.not_eq_true', List.contains_eq_mem, List.mem_cons, List.not_mem_nil, or_false, decide_eq_false_iff_not] at hk
          obtain ⟨⟨h4, h5⟩, h6⟩ := hk
          rw [← hcomm, getD_set_ne false (fun e => h5 e.symm)] at h4
          have := hcl'.reach _ _ _ h6 h4
          rw [hiun'] at this
          cases this
        · exact hC'
      have hHW' : Held md ops ((ls.setIfInBounds j true).setIfInBounds i true) w' [] W := by rw [hcomm]; exact Held.mono W [] [i] (by simp) hHW
      refine ⟨Held.less W [] [i] (fun k hk => .inr (by simpa using hk)) (by simp) (by simp) (by rw [hcomm]; exact hHW), ?_⟩
      refine ih (ls.setIfInBounds j true) a' w' hcl' (fun k ok hk hki hun hno => ?_) (ready_mono hr (Ne.symm hji)) hy' hCw' hHW' ?_
      · refine hfree k ok hk hki ?_ hno
        by_cases hjk : j = k
        · subst hjk; exact hjun
        · rwa [getD_set_ne true hjk] at hun
      · rw [hcomm]
        exact hT

/-! ### the moves -/
variable {n : Nat} {w0 : World} {L : List (Nat × Value)} {J : Act → World → Prop}

/-- What the chain of moves carries: the frame, what has come up, how many are left, which are watched. -/
def GoW (P : Program) (ops : Array Oper) (J : Act → World → Prop) (f : Nat) (W : Wt) (ls : Array Bool) (a : Act) (w : World) : Prop :=
  Closed .any ops ls → Held .any ops ls w [] W → wpW P .any ops (QJ J) f W ls a w

theorem goW_take [Dfs] {l : List Oper} {f : Nat} {W : Wt} {ls : Array Bool} {a : Act} {w : World} (i : Nat) (ls' : Array Bool) {d : Option Tmp} {op : Op} {t : TypeId} {p : String} {af : Array Edge} {v : Value} {zs : List PH} {hs : List Res}
    (hi : l[i]? = some ⟨d, op, t, p, af, none⟩) (hB : (plainB ⟨d, op, t, p, af, none⟩ && Region.noSelect l.toArray && Region.free .any l.toArray ls i && (Region.ready .any l.toArray ls).contains i && (match d with | some k => Nat.blt k n | none => true)) = true)
    (hls : ls.setIfInBounds i true = ls') (hF : Fr n L a) (hS : St w0 zs hs w) (q : Qt P n w0 zs hs L ⟨d, op, t, p, af, none⟩ v)
    (K : ∀ a, Fr n (upL d v L) a → GoW P l.toArray J f ((i, St w0 zs hs) :: W) ls' a w) : GoW P l.toArray J (f + 1) W ls a w := by
  intro hcl hW
  subst hls
  replace hi : l.toArray[i]? = some ⟨d, op, t, p, af, none⟩ := by simpa using hi
  simp only [Bool.and_eq_true] at hB
  obtain ⟨⟨⟨⟨hp, hsel⟩, hf⟩, hr⟩, hd⟩ := hB
  have hr : i ∈ Region.ready .any l.toArray ls := by simpa using hr
  have hy : YieldsIn P l.toArray (St w0 zs hs) ⟨d, op, t, p, af, none⟩ v a := .inl ⟨rfl, fun w hw => q a hF w hw⟩
  have hF' : Fr n (upL d v L) (a.put d v) := hF.up (by cases d with | none => trivial | some k => exact Nat.blt_eq.mp hd)
  have hun := getD_both (mem_ready.1 hr).1
  have hW' : Held .any l.toArray (ls.setIfInBounds i true) w [] W := Held.more hun W [] [] (by simp) hW
  refine wpW_first (C := St w0 zs hs) hi hp (Region.noSelect_spec hsel) W f ls a w hcl (Region.free_spec hi hf) hr hy hS hW' ?_
  exact K _ hF' (hcl.set hr) ⟨.inr hS, Held.more hun W [] [i] (by simp) hW⟩

/-- i comes up. -/
def StepW (P : Program) (ops : Array Oper) (J : Act → World → Prop) (f : Nat) (W : Wt) (ls : Array Bool) (a : Act) (w : World) (i : Nat) : Prop :=
  i ∈ Region.ready .any ops ls → Closed .any ops ls → wpOp P ops (QJ J) i (fun a' w' => Held .any ops (ls.setIfInBounds i true) w' [] W ∧ wpW P .any ops (QJ J) f W (ls.setIfInBounds i true) a' w') a w
def AllW (p : Nat → Prop) : List Nat → Prop
  | [] => True
  | i :: r => p i ∧ AllW p r
theorem AllW.mem {p : Nat → Prop} : ∀ {l : List Nat}, AllW p l → ∀ i ∈ l, p i
  | _ :: _, h, i, hi => by
    rcases List.mem_cons.1 hi with rfl | hi
    · exact h.1
    · exact h.2.mem i hi

theorem goW_fork {f : Nat} {W : Wt} {ls : Array Bool} {a : Act} {w : World} (rs : List Nat) (hr : Region.ready .any ops ls = rs) (hne : rs.isEmpty = false) (h : AllW (StepW P ops J f W ls a w) rs) : GoW P ops J (f + 1) W ls a w := by
  intro hcl hW
  refine ⟨fun h0 => ?_, fun i hi => ?_⟩
  · rw [hr] at h0; subst h0; cases hne
  · exact h.mem i (hr ▸ hi) hi hcl

theorem stepW_ef [Dfs] {l : List Oper} {f : Nat} {W : Wt} {ls : Array Bool} {a : Act} {w : World} {i : Nat} (ls' : Array Bool) {d : Option Tmp} {op : Op} {ty : TypeId} {pos : String} {af : Array Edge} {zs : List PH} {hs : List Res} {K : Value → List PH → List Res → Prop}
    (hi : l[i]? = some ⟨d, op, ty, pos, af, none⟩) (hls : ls.setIfInBounds i true = ls') (hF : Fr n L a) (hS : St w0 zs hs w) (hd : (match d with | some k => Nat.blt k n | none => true) = true) (e : Ef P n w0 zs hs L ⟨d, op, ty, pos, af, none⟩ K)
    (h : ∀ v zs' hs' a w, K v zs' hs' → Fr n (upL d v L) a → St w0 zs' hs' w → Held .any l.toArray ls' w [] W ∧ GoW P l.toArray J f W ls' a w) : StepW P l.toArray J f W ls a w i := by
  intro hr hcl
  subst hls
  replace hi : l.toArray[i]? = some ⟨d, op, ty, pos, af, none⟩ := by simpa using hi
  unfold wpOp
  simp only [hi]
  rw [if_pos (show Region.wanted ⟨d, op, ty, pos, af, none⟩ (yielded l.toArray a.tmps) = true from rfl)]
  refine .inl (e a hF w hS _ _ fun v zs' hs' w' hK hS' => ?_)
  have := h v zs' hs' _ w' hK (hF.up (by cases d with | none => trivial | some k => exact Nat.blt_eq.mp hd)) hS'
  exact ⟨this.1, this.2 (hcl.set hr) this.1⟩

theorem goW_done {f : Nat} {W : Wt} {ls : Array Bool} {a : Act} {w : World} (hr : Region.ready .any ops ls = []) (h : J a w) : GoW P ops J f W ls a w := by
  intro _ _
  cases f with
  | zero => exact ⟨hr, rfl, h⟩
  | succ f => exact ⟨fun _ => ⟨rfl, h⟩, by rw [hr]; simp⟩

theorem regJ [Dfs] {id : Nat} {Q : Exit → Act → World → Prop} {a : Act} {w : World} {l : List Oper} {zs : List PH} {hs : List Res} (ls : Array Bool) (f : Nat) (hm : P.follows .mixedOrders = true) (hls : Array.replicate l.length false = ls) (hf : l.length = f)
    (h : ∀ w, Fr n L a → St w0 zs hs w → GoW P l.toArray J f [] ls a w) (K : ∀ a w, J a w → Q .normal a w) : Fr n L a → St w0 zs hs w → (Code.region id l.toArray true).wp P Q a w := by
  intro hF hS
  subst hls hf
  refine Code.wp_mono (Q := QJ J) (fun e a w q => ?_) (wp_region_any hm (wpAny_of_wpW _ [] _ _ _ ?_))
  · obtain ⟨rfl, hj⟩ := q; exact K _ _ hj
  · have := h _ hF (hS.drew (w.drawn + 1)) (fun k o _ hk => ?_) trivial
    · simpa using this
    · exact absurd hk (by simp [Array.getD_eq_getD_getElem?, Array.getElem?_replicate]; split <;> simp)

/-- A quiet one among those that are branched over. -/
theorem ef_qt [Dfs] {o : Oper} {v : Value} {zs : List PH} {hs : List Res} (q : Qt P n w0 zs hs L o v) : Ef P n w0 zs hs L o (fun v' zs' hs' => v' = v ∧ zs' = zs ∧ hs' = hs) := by
  intro a ha w hw next Q hn
  have := q a ha w hw
  unfold Oper.wp
  generalize (execOp a.eval o).run P w = res at this
  cases res with
  | halt x w' => simp only [Oper.quietUpon] at this
  | ok nx w' =>
    cases nx <;> simp only [Oper.quietUpon] at this <;> simp only [Oper.upon]
    case value u => obtain ⟨rfl, rfl⟩ := this; exact hn _ _ _ _ ⟨rfl, rfl, rfl⟩ hw
    case skip => obtain ⟨rfl, rfl⟩ := this; exact hn _ _ _ _ ⟨rfl, rfl, rfl⟩ hw
    case enter f args =>
      obtain ⟨rfl, hc⟩ := this
      exact hc.mono fun e w'' ⟨he, hw''⟩ => by subst he; exact hn _ _ _ _ ⟨rfl, rfl, rfl⟩ hw''

end
def J0 [Dfs] (n : Nat) (w0 : World) (F : Prop) (L : List (Nat × Value)) (Z : List PH) (H : List Res) : Act → World → Prop := fun a w => F ∧ Fr n (L) a ∧ St w0 (Z) (H) w
def J1 [Dfs] {α0 : Type} (n : Nat) (w0 : World) (F : α0 → Prop) (L : α0 → List (Nat × Value)) (Z : α0 → List PH) (H : α0 → List Res) : Act → World → Prop := fun a w => ∃ (x0 : α0), F x0 ∧ Fr n (L x0) a ∧ St w0 (Z x0) (H x0) w
theorem j1_mk [Dfs] {α0 : Type} {n : Nat} {w0 : World} {F : α0 → Prop} {L : α0 → List (Nat × Value)} {Z : α0 → List PH} {H : α0 → List Res} {a : Act} {w : World} (x0 : α0) (hf : F x0) (hF : Fr n (L x0) a) (hS : St w0 (Z x0) (H x0) w) : J1 n w0 F L Z H a w := ⟨x0, hf, hF, hS⟩
def J2 [Dfs] {α0 α1 : Type} (n : Nat) (w0 : World) (F : α0 → α1 → Prop) (L : α0 → α1 → List (Nat × Value)) (Z : α0 → α1 → List PH) (H : α0 → α1 → List Res) : Act → World → Prop := fun a w => ∃ (x0 : α0) (x1 : α1), F x0 x1 ∧ Fr n (L x0 x1) a ∧ St w0 (Z x0 x1) (H x0 x1) w
theorem j2_mk [Dfs] {α0 α1 : Type} {n : Nat} {w0 : World} {F : α0 → α1 → Prop} {L : α0 → α1 → List (Nat × Value)} {Z : α0 → α1 → List PH} {H : α0 → α1 → List Res} {a : Act} {w : World} (x0 : α0) (x1 : α1) (hf : F x0 x1) (hF : Fr n (L x0 x1) a) (hS : St w0 (Z x0 x1) (H x0 x1) w) : J2 n w0 F L Z H a w := ⟨x0, x1, hf, hF, hS⟩
def J3 [Dfs] {α0 α1 α2 : Type} (n : Nat) (w0 : World) (F : α0 → α1 → α2 → Prop) (L : α0 → α1 → α2 → List (Nat × Value)) (Z : α0 → α1 → α2 → List PH) (H : α0 → α1 → α2 → List Res) : Act → World → Prop := fun a w => ∃ (x0 : α0) (x1 : α1) (x2 : α2), F x0 x1 x2 ∧ Fr n (L x0 x1 x2) a ∧ St w0 (Z x0 x1 x2) (H x0 x1 x2) w
theorem j3_mk [Dfs] {α0 α1 α2 : Type} {n : Nat} {w0 : World} {F : α0 → α1 → α2 → Prop} {L : α0 → α1 → α2 → List (Nat × Value)} {Z : α0 → α1 → α2 → List PH} {H : α0 → α1 → α2 → List Res} {a : Act} {w : World} (x0 : α0) (x1 : α1) (x2 : α2) (hf : F x0 x1 x2) (hF : Fr n (L x0 x1 x2) a) (hS : St w0 (Z x0 x1 x2) (H x0 x1 x2) w) : J3 n w0 F L Z H a w := ⟨x0, x1, x2, hf, hF, hS⟩
def J4 [Dfs] {α0 α1 α2 α3 : Type} (n : Nat) (w0 : World) (F : α0 → α1 → α2 → α3 → Prop) (L : α0 → α1 → α2 → α3 → List (Nat × Value)) (Z : α0 → α1 → α2 → α3 → List PH) (H : α0 → α1 → α2 → α3 → List Res) : Act → World → Prop := fun a w => ∃ (x0 : α0) (x1 : α1) (x2 : α2) (x3 : α3), F x0 x1 x2 x3 ∧ Fr n (L x0 x1 x2 x3) a ∧ St w0 (Z x0 x1 x2 x3) (H x0 x1 x2 x3) w
theorem j4_mk [Dfs] {α0 α1 α2 α3 : Type} {n : Nat} {w0 : World} {F : α0 → α1 → α2 → α3 → Prop} {L : α0 → α1 → α2 → α3 → List (Nat × Value)} {Z : α0 → α1 → α2 → α3 → List PH} {H : α0 → α1 → α2 → α3 → List Res} {a : Act} {w : World} (x0 : α0) (x1 : α1) (x2 : α2) (x3 : α3) (hf : F x0 x1 x2 x3) (hF : Fr n (L x0 x1 x2 x3) a) (hS : St w0 (Z x0 x1 x2 x3) (H x0 x1 x2 x3) w) : J4 n w0 F L Z H a w := ⟨x0, x1, x2, x3, hf, hF, hS⟩
def J5 [Dfs] {α0 α1 α2 α3 α4 : Type} (n : Nat) (w0 : World) (F : α0 → α1 → α2 → α3 → α4 → Prop) (L : α0 → α1 → α2 → α3 → α4 → List (Nat × Value)) (Z : α0 → α1 → α2 → α3 → α4 → List PH) (H : α0 → α1 → α2 → α3 → α4 → List Res) : Act → World → Prop := fun a w => ∃ (x0 : α0) (x1 : α1) (x2 : α2) (x3 : α3) (x4 : α4), F x0 x1 x2 x3 x4 ∧ Fr n (L x0 x1 x2 x3 x4) a ∧ St w0 (Z x0 x1 x2 x3 x4) (H x0 x1 x2 x3 x4) w
def J6 [Dfs] {α0 α1 α2 α3 α4 α5 : Type} (n : Nat) (w0 : World) (F : α0 → α1 → α2 → α3 → α4 → α5 → Prop) (L : α0 → α1 → α2 → α3 → α4 → α5 → List (Nat × Value)) (Z : α0 → α1 → α2 → α3 → α4 → α5 → List PH) (H : α0 → α1 → α2 → α3 → α4 → α5 → List Res) : Act → World → Prop := fun a w => ∃ (x0 : α0) (x1 : α1) (x2 : α2) (x3 : α3) (x4 : α4) (x5 : α5), F x0 x1 x2 x3 x4 x5 ∧ Fr n (L x0 x1 x2 x3 x4 x5) a ∧ St w0 (Z x0 x1 x2 x3 x4 x5) (H x0 x1 x2 x3 x4 x5) w
end Go.Fw
end

section
namespace Go.Fw
section
variable {P : Program} {n : Nat} {w0 : World} {zs : List PH} {hs : List Res} {L : List (Nat × Value)} {d : Option Tmp} {ty t t' : TypeId} {pos : String} {af : Array Edge} {g : Option (Nat × Bool)}
variable {x y c o1 o2 o3 : Operand} {u v : Value} {ops : Array Oper} {rest : List Oper}
/-- A whole named variable. -/
theorem q_ld_oldW [Dfs] {dd : TypeDesc} {s by_ : Nat} {zv : Value} (ht : Tf P t dd s by_ zv) {b : Nat} {bt : TypeId} {cs : List Value} {fz : Nat × Nat} (h1 : opv L x = some (.pointer (some ⟨b, 0, none⟩))) (hk : w0.heap[b]? = some (.cells cs.toArray bt fz)) (hl : cs.length = s) (hd : aggD dd = true) :
    Qt P n w0 zs hs L ⟨d, .load t x, ty, pos, af, g⟩ (.agg cs.toArray) :=
  q_ld_oldA ht h1 hk (by simp only [List.drop_zero]; rw [List.take_of_length_le (by omega)]) (by simp; omega) hd

theorem opvs_mapM {L : List (Nat × Value)} : ∀ (l : List (Nat × Operand)) (vs : List Value), opvs L (l.map (·.2)) = some vs → (l.mapM fun p => (opv L p.2).map fun v => (p.1, v)) = some (List.zip (l.map (·.1)) vs)
  | [], vs, h => by simp [opvs] at h; subst h; rfl
  | p :: l, vs, h => by
    rw [List.mapM_cons]
    simp only [List.map_cons] at h
    cases ho : opv L p.2 with
    | none => simp [opvs, ho] at h
    | some u =>
      cases hm : opvs L (l.map (·.2)) with
      | none => simp [opvs, ho, hm] at h
      | some r =>
        simp [opvs, ho, hm] at h
        subst h
        simp [opvs_mapM l r hm]

/-! ### boxes that hold several things one after the other -/
@[reducible, simp] def segs : List (List Value) → List Value → List Value
  | [], r => r
  | p :: ps, r => p ++ segs ps r
@[reducible, simp] def segLen : List (List Value) → Nat
  | [] => 0
  | p :: ps => p.length + segLen ps
theorem segs_eq : ∀ (ps : List (List Value)) (r : List Value), segs ps r = ps.flatten ++ r
  | [], _ => rfl
  | p :: ps, r => by simp [segs, segs_eq ps r]
theorem segLen_eq : ∀ (ps : List (List Value)), segLen ps = ps.flatten.length
  | [] => rfl
  | p :: ps => by simp [segLen, segLen_eq ps]

theorem q_ld_seg [Dfs] {α : Type} {f : α → Value} {dd : TypeDesc} {s by_ : Nat} {zv : Value} (ht : Tf P t dd s by_ zv) (k : Nat) (ps : List (List Value)) {b off : Nat} {bt : TypeId} {post : List Value} {xs : List α} (h1 : opv L x = some (.pointer (some ⟨b, off, none⟩))) (hk : hs[k]? = some (.blk b bt (segs ps (xs.map f ++ post)))) (ho : off = segLen ps) (hl : xs.length = s) (hd : aggD dd = true) :
    Qt P n w0 zs hs L ⟨d, .load t x, ty, pos, af, g⟩ (.agg (xs.map f).toArray) := by
  subst ho hl
  rw [segs_eq] at hk
  refine q_ld_blkA ht k h1 hk ?_ ?_ hd
  · rw [segLen_eq, List.drop_left, List.take_left' (by simp)]
  · rw [segLen_eq]; simp
theorem q_ld_seg1 [Dfs] {dd : TypeDesc} {s by_ : Nat} {zv : Value} (ht : Tf P t dd s by_ zv) (k : Nat) (ps : List (List Value)) {b off : Nat} {bt : TypeId} {post : List Value} {r : Value} (h1 : opv L x = some (.pointer (some ⟨b, off, none⟩))) (hk : hs[k]? = some (.blk b bt (segs ps (r :: post)))) (ho : off = segLen ps) (hd : aggD dd = false) :
    Qt P n w0 zs hs L ⟨d, .load t x, ty, pos, af, g⟩ r := by
  subst ho
  rw [segs_eq] at hk
  refine q_ld_blk1 ht k h1 hk ?_ hd
  rw [segLen_eq]
  simp
theorem q_ld_segM [Dfs] {α : Type} {f : α → Value} {dd : TypeDesc} {s by_ : Nat} {zv : Value} (ht : Tf P t dd s by_ zv) (k : Nat) (ps : List (List Value)) (dflt : α) {b o0 j : Nat} {bt : TypeId} {post : List Value} {xs : List α} (h1 : opv L x = some (.pointer (some ⟨b, o0 + j * 1, none⟩))) (hk : hs[k]? = some (.blk b bt (segs ps (xs.map f ++ post)))) (ho : o0 = segLen ps) (hl : j < xs.length) (hd : aggD dd = false) :
    Qt P n w0 zs hs L ⟨d, .load t x, ty, pos, af, g⟩ (f (xs.getD j dflt)) := by
  subst ho
  rw [segs_eq] at hk
  refine q_ld_blkM' ht k j dflt h1 hk ?_ hl hd
  rw [segLen_eq]
  simp
theorem ef_st_seg [Dfs] {α : Type} {f : α → Value} {dd : TypeDesc} {s by_ : Nat} {zv : Value} (ht : Tf P t dd s by_ zv) (k : Nat) (ps : List (List Value)) {b off : Nat} {bt : TypeId} {post : List Value} {xs ys : List α} (h1 : opv L x = some (.pointer (some ⟨b, off, none⟩))) (h2 : opv L y = some (.agg (ys.map f).toArray)) (hk : hs[k]? = some (.blk b bt (segs ps (xs.map f ++ post)))) (ho : off = segLen ps) (hl : xs.length = s) (hl2 : ys.length = s) (h1c : ∀ u, (f u).oneCell' = true) :
    Ef P n w0 zs hs L ⟨d, .store t x y, ty, pos, af, g⟩ (fun v zs' hs' => v = undef ∧ zs' = zs ∧ hs' = hs.set k (.blk b bt (segs ps (ys.map f ++ post)))) := by
  subst ho hl
  rw [segs_eq] at hk
  refine ef_store ht k h1 h2 hk rfl (by simp [hl2]) (by simp [h1c]) ?_ ?_
  · rw [segLen_eq]; simp
  · rw [segLen_eq, segs_eq, List.take_left, ← List.drop_drop, List.drop_left, List.drop_left' (by simp), List.append_assoc]
theorem ef_st_seg1 [Dfs] {dd : TypeDesc} {by_ : Nat} {zv : Value} (ht : Tf P t dd 1 by_ zv) (k : Nat) (ps : List (List Value)) {b off : Nat} {bt : TypeId} {post : List Value} {r r' : Value} (h1 : opv L x = some (.pointer (some ⟨b, off, none⟩))) (h2 : opv L y = some r') (hk : hs[k]? = some (.blk b bt (segs ps (r :: post)))) (ho : off = segLen ps) (h1c : r'.oneCell' = true) :
    Ef P n w0 zs hs L ⟨d, .store t x y, ty, pos, af, g⟩ (fun v zs' hs' => v = undef ∧ zs' = zs ∧ hs' = hs.set k (.blk b bt (segs ps (r' :: post)))) := by
  subst ho
  rw [segs_eq] at hk
  have := ef_store1 (ty := ty) (pos := pos) (af := af) (g := g) (d := d) (n := n) (w0 := w0) (zs := zs) ht k h1 h2 hk h1c (by rw [segLen_eq]; simp)
  rwa [show (ps.flatten ++ r :: post).set (segLen ps) r' = segs ps (r' :: post) by rw [segLen_eq, segs_eq]; simp] at this
theorem seg_take {α : Type} {f : α → Value} (ps : List (List Value)) (xs : List α) (post : List Value) : ((segs ps (xs.map f ++ post)).drop (segLen ps)).take xs.length = xs.map f := by
  rw [segs_eq, segLen_eq, List.drop_left, List.take_left' (by simp)]
/-- A slice of a whole array that lies in a box among others. -/
theorem blk_segV {α : Type} {f : α → Value} {p : α → Prop} {h0 : ∀ x, (f x).oneCell' = true} {w : World} (hS : St w0 zs hs w) (k : Nat) (ps : List (List Value)) {b off m c : Nat} {bt : TypeId} {post : List Value} {xs : List α} (hk : hs[k]? = some (.blk b bt (segs ps (xs.map f ++ post)))) (ho : off = segLen ps) (hm : m = xs.length ∧ m ≤ c ∧ m ≤ 140737488355328) (hp : ∀ x ∈ xs, p x) :
    Sl (encV f p h0) (ph w) (.slice (some ⟨b, off, none⟩) m c) xs :=
  blk_slV hS k hk (by subst ho; rw [hm.1]; exact seg_take ps xs post) hm hp

theorem oc_nil : ∀ u ∈ ([] : List Value), u.oneCell' = true := fun _ h => absurd h (by simp)
theorem oc_app {a b : List Value} (h1 : ∀ u ∈ a, u.oneCell' = true) (h2 : ∀ u ∈ b, u.oneCell' = true) : ∀ u ∈ a ++ b, u.oneCell' = true := fun u h => (List.mem_append.1 h).elim (h1 u) (h2 u)
theorem oc_map {α : Type} {f : α → Value} {l : List α} (h1 : ∀ u, (f u).oneCell' = true) : ∀ u ∈ l.map f, u.oneCell' = true := fun u h => by obtain ⟨x, _, rfl⟩ := List.mem_map.1 h; exact h1 x
theorem oc_cons {v : Value} {l : List Value} (h1 : v.oneCell' = true) (h2 : ∀ u ∈ l, u.oneCell' = true) : ∀ u ∈ v :: l, u.oneCell' = true := fun u h => by (rcases List.mem_cons.1 h with rfl | h; exact h1; exact h2 u h)
theorem oc_rep {v : Value} {n : Nat} (h1 : v.oneCell' = true) : ∀ u ∈ List.replicate n v, u.oneCell' = true := fun u h => by rw [(List.mem_replicate.1 h).2]; exact h1

/-! ### a struct that is built -/
theorem run_places {fs : List Field} {w : World} : ∀ {places : List (Nat × Nat)}, (fs.mapM fun f => (P.info? f.type).map fun i => (f.offset, i.size)) = some places → (fs.mapM fun f => (do pure (f.offset, ← sizeOf f.type) : Sem (Nat × Nat))).run P w = .ok places w := by
  induction fs with
  | nil => intro places h; simp at h; subst h; simp
  | cons f fs ih =>
    intro places h
    rw [List.mapM_cons] at h
    cases hi : P.info? f.type with
    | none => simp [hi] at h
    | some i =>
      cases hm : (fs.mapM fun f => (P.info? f.type).map fun i => (f.offset, i.size)) with
      | none => simp [hi, hm] at h
      | some r =>
        simp [hi, hm] at h
        subst h
        rw [List.mapM_cons]
        have e0 : (sizeOf f.type).run P w = .ok i.size w := by simp [sizeOf, typeInfo, hi]
        simp only [Sem.run_bind, e0, Result.andThen_ok, Sem.run_pure]
        have := ih hm
        rw [this]
        simp
theorem run_build_struct {fs : List Field} {s by_ : Nat} {zv : Value} (ht : Tf P t (.struct fs.toArray) s by_ zv) {places : List (Nat × Nat)} (hp : (fs.mapM fun f => (P.info? f.type).map fun i => (f.offset, i.size)) = some places) {parts : List (Nat × Value)} {cells : List Value} (hf : Instr.fill (places.toArray[·]?) zv.cells parts = some cells.toArray) (w : World) :
    (Instr.build t parts.toArray).run P w = .ok (.agg cells.toArray) w := by
  have h1 := run_places (P := P) (w := w) hp
  have h2 : (fs.toArray.mapM fun f => (do pure (f.offset, ← sizeOf f.type) : Sem (Nat × Nat))).run P w = .ok places.toArray w := by
    rw [List.mapM_toArray, Sem.run_map, h1]
    rfl
  simp only [Instr.build, ht.zero, Sem.run_bind, Result.andThen_ok, run_underlying ht.und]
  rw [h2]
  simp only [List.getElem?_toArray] at hf
  simp [hf]
/-- The string of a whole array's bytes. -/
theorem q_b2s_blkM [Dfs] {xs : List UInt8} {e : TypeId} {b m c : Nat} {bt : TypeId} {s by_ s' b' s'' b'' : Nat} {zv zv' zv'' : Value} (ht : Tf P t (.slice e) s by_ zv) (ht' : Tf P t' .string s' b' zv') (hte : Tf P e (.int .u8) s'' b'' zv'') (k : Nat) (h1 : opv L x = some (.slice (some ⟨b, 0, none⟩) m c)) (hk : hs[k]? = some (.blk b bt (xs.map vb))) (hm : xs.length = m) :
    Qt P n w0 zs hs L ⟨d, .convert t t' x, ty, pos, af, g⟩ (vs xs) := by
  subst hm
  exact q_b2s_blk ht ht' hte k h1 hk (by rw [List.drop_zero, List.take_of_length_le (by simp)])
theorem fill_go : ∀ (vs pre post : List Value), (∀ v ∈ vs, v.oneCell' = true) → post.length = vs.length → Instr.fill (fun i => some (i * 1, 1)) (pre ++ post).toArray (List.zip (List.range' pre.length vs.length) vs) = some (pre ++ vs).toArray
  | [], pre, post, _, hp => by
    have : post = [] := List.eq_nil_of_length_eq_zero (by simpa using hp)
    subst this
    simp [Instr.fill]
  | v :: vs, pre, post, h1, hp => by
    cases post with
    | nil => simp at hp
    | cons p post =>
      have hv := h1 v (by simp)
      have hc : v.cells = #[v] := by cases v <;> first | rfl | (simp [Value.oneCell'] at hv)
      rw [List.length_cons, List.range'_succ, List.zip_cons_cons]
      simp only [Instr.fill, hc]
      rw [if_neg (by simp)]
      have e : (Array.foldl (fun cs (x : Value × Nat) => cs.setIfInBounds (pre.length * 1 + x.2) x.1) (pre ++ p :: post).toArray (#[v].zipIdx)) = ((pre ++ [v]) ++ post).toArray := by
        simp
      have ih := fill_go vs (pre ++ [v]) post (fun u hu => h1 u (by simp [hu])) (by simpa using hp)
      rw [show (pre ++ [v]).length = pre.length + 1 by simp] at ih
      refine Eq.trans ?_ (ih.trans (by simp))
      rw [← e]
theorem fill_full {m : Nat} {cells : Array Value} {vs : List Value} (hm : cells.size = m) (hl : vs.length = m) (h1 : ∀ v ∈ vs, v.oneCell' = true) : Instr.fill (fun i => some (i * 1, 1)) cells (List.zip (List.range' 0 vs.length) vs) = some vs.toArray := by
  have := fill_go vs [] cells.toList h1 (by simp [hm, hl])
  simpa using this
/-- A slice all of whose elements (one cell each) are given. -/
theorem ef_bsliceA [Dfs] {e : TypeId} {s by_ : Nat} {zv : Value} (ht : Tf P t (.slice e) s by_ zv) {de : TypeDesc} {be : Nat} {ze : Value} (hte : Tf P e de 1 be ze) {m : Nat} {parts : Array (Nat × Operand)} {vs : List Value} (h1 : opvs L (parts.toList.map (·.2)) = some vs)
    (hix : parts.toList.map (·.1) = List.range' 0 vs.length) (h1c : ∀ v ∈ vs, v.oneCell' = true) (hb : m * 1 ≤ 16777216) (h0 : (m * 1 == 0) = false) (hl : vs.length = m) :
    Ef P n w0 zs hs L ⟨d, .buildSlice t m parts, ty, pos, af, g⟩ (fun v zs' hs' => zs' = zs ∧ hs' = .row v e 1 m vs :: hs) :=
  ef_bslice ht hte (opvs_mapM _ _ h1) (by rw [hix]; exact fill_full (m := m) (by simp) hl h1c) hb h0 (by simpa using hl)
/-! ### copy of a string's bytes into a box -/
theorem run_copy_str {e sT : TypeId} {s by_ : Nat} {zv : Value} (ht : Tf P t (.slice e) s by_ zv) {de : TypeDesc} {be : Nat} {ze : Value} (hte : Tf P e de 1 be ze) {w : World} {b off dl dc : Nat} {bt : TypeId} {cs : List Value} (tx : List UInt8) (hb : w.heap[b]? = some (.cells cs.toArray bt (0, 0))) (hl : off + dl ≤ cs.length) (ty : TypeId) :
    (Builtin.copy_ #[t, sT] ty #[.slice (some ⟨b, off, none⟩) dl dc, vs tx]).run P w = .ok (vi (min tx.length dl)) (w.setRow b (cs.take off ++ (tx.take (min tx.length dl)).map vb ++ cs.drop (off + min tx.length dl)).toArray) := by
  have hst := run_storeCells_at P b off bt ((tx.take (min tx.length dl)).map vb) 0 cs.toArray w hb (by simp; omega) (by intro v hv; obtain ⟨_, _, rfl⟩ := List.mem_map.1 hv; rfl)
  simp only [Nat.add_zero] at hst
  have hm : ∀ a b : Nat, Nat.min a b = min a b := fun _ _ => rfl
  simp [Builtin.copy_, run_underlying ht.und, Builtin.lenOf, Builtin.firstCells, hte.sizeOf, hm]
  have hsz : (bs tx).size = tx.length := by simp [bs, ByteArray.size]
  rw [hsz]
  have e1 : List.take (min tx.length dl) (List.map (fun b => Value.int IntKind.u8 ↑b.toNat) tx) = List.map vb (List.take (min tx.length dl) tx) := by rw [List.map_take]
  rw [e1, hst]
  have hlen : (List.map vb (List.take (min tx.length dl) tx)).length = min tx.length dl := by simp
  rw [hlen]
  simp only [Result.andThen_ok, List.append_assoc, List.map_take]
  have : goInt ((min tx.length dl : Nat) : Int) = vi (min (tx.length : Int) (dl : Int)) := by
    rw [show ((min tx.length dl : Nat) : Int) = min (tx.length : Int) (dl : Int) by omega]
    rfl
  rw [this]

/-- copy(a[i:], s) where a is an array that lies in a box among others. -/
theorem ef_copy_segM [Dfs] {e sT : TypeId} {s by_ : Nat} {zv : Value} (ht : Tf P t (.slice e) s by_ zv) {de : TypeDesc} {be : Nat} {ze : Value} (hte : Tf P e de 1 be ze) (k : Nat) (ps : List (List Value)) {b o0 j dl dc : Nat} {bt : TypeId} {post : List Value} {xs tx : List UInt8}
    (h1 : opv L x = some (.slice (some ⟨b, o0 + j * 1, none⟩) dl dc)) (h2 : opv L y = some (vs tx)) (hk : hs[k]? = some (.blk b bt (segs ps (xs.map vb ++ post)))) (ho : o0 = segLen ps) (hl : j + dl ≤ xs.length) :
    Ef P n w0 zs hs L ⟨d, .call ⟨.builtin .copy, #[x, y], #[t, sT]⟩, ty, pos, af, g⟩ (fun v zs' hs' => v = vi (min tx.length dl) ∧ zs' = zs ∧ hs' = hs.set k (.blk b bt (segs ps ((xs.take j ++ (tx.take (min tx.length dl) ++ xs.drop (j + min tx.length dl))).map vb ++ post)))) :=
  ef_of fun a ha w hw => by
    subst ho
    have hb := (hw.own _ (List.mem_of_getElem? hk)).1
    have hr := run_copy_str (sT := sT) ht hte (w := w) (off := segLen ps + j * 1) (dl := dl) (dc := dc) tx hb.2 (by rw [segs_eq, segLen_eq]; simp; omega) ty
    have he : (List.take (segLen ps + j * 1) (segs ps (xs.map vb ++ post)) ++ List.map vb (List.take (min tx.length dl) tx) ++ List.drop (segLen ps + j * 1 + min tx.length dl) (segs ps (xs.map vb ++ post))) = segs ps ((xs.take j ++ (tx.take (min tx.length dl) ++ xs.drop (j + min tx.length dl))).map vb ++ post) := by
      rw [segs_eq, segs_eq, segLen_eq, Nat.mul_one, List.take_length_add_append, Nat.add_assoc, List.drop_length_add_append, List.take_append_of_le_length (by simp; omega), List.drop_append_of_le_length (by simp; omega)]
      simp
    have hS := hw.store (off := segLen ps + j * 1) (c := (tx.take (min tx.length dl)).map vb) hk (by rw [segs_eq, segLen_eq]; simp; omega)
    rw [show ((tx.take (min tx.length dl)).map vb).length = min tx.length dl by simp] at hS
    rw [he] at hr hS
    generalize w.setRow b _ = w2 at hr hS
    refine ⟨_, zs, _, _, .inl ?_, ⟨rfl, rfl, rfl⟩, hS⟩
    simp only [Nat.mul_one] at hr
    simp only [execOp, resolve]
    simp [invoke, builtin, ha.eval h1, ha.eval h2, hr]
end
end Go.Fw
end
