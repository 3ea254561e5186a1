/- A text of a proof over this seat: walks over the program's functions and the plain laws that they need. -/
import Derived.Test.YtcolgcdnpfpcdaaFw1
import Derived.Deep.Quiet
set_option linter.all false
namespace Go.Fw

/-- One operation that only reads (or calls what only reads): ONE value, in every world that meets the state. -/
def Qt (P : Program) (n : Nat) (w0 : World) (zs : List PH) (hs : List Res) (L : List (Nat × Value)) (o : Oper) (v : Value) : Prop :=
  ∀ a, Fr n L a → ∀ w, St w0 zs hs w → Oper.quietUpon P (St w0 zs hs) w v ((execOp a.eval o).run P w)

def upL (d : Option Tmp) (v : Value) (L : List (Nat × Value)) : List (Nat × Value) :=
  match d with
  | some t => (t, v) :: L
  | none => L

def dstOk (n : Nat) : Option Tmp → Prop
  | some t => t < n
  | none => True

theorem Fr.up {n L a} (h : Fr n L a) {d : Option Tmp} {v : Value} (hd : dstOk n d) : Fr n (upL d v L) (a.put d v) := by
  cases d with
  | none => exact h
  | some t => exact h.put hd

/-- A run of quiet operations: from L, of the list l, to L', the list l' being left. -/
def Sq (P : Program) (n : Nat) (w0 : World) (zs : List PH) (hs : List Res) (ops : Array Oper) : Nat → List (Nat × Value) → List Oper → List (Nat × Value) → List Oper → Prop
  | 0, L, l, L', l' => L = L' ∧ l = l'
  | k + 1, L, l, L', l' => ∃ o r v, l = o :: r ∧ dstOk n o.dst ∧
      (∀ a, Fr n L a → ((Region.wanted o (yielded ops a.tmps) = true ∧ ∀ w, St w0 zs hs w → Oper.quietUpon P (St w0 zs hs) w v ((execOp a.eval o).run P w)) ∨ (Region.wanted o (yielded ops a.tmps) = false ∧ v = undef))) ∧
      Sq P n w0 zs hs ops k (upL o.dst v L) r L' l'

section
variable {P : Program} {n : Nat} {w0 : World} {zs : List PH} {hs : List Res} {ops : Array Oper} {L L' : List (Nat × Value)} {l l' : List Oper} {k : Nat}

theorem sq_end : Sq P n w0 zs hs ops 0 L l L l := ⟨rfl, rfl⟩

theorem sq {d : Tmp} {op : Op} {t : TypeId} {p : String} {af : Array Edge} {v : Value} (hd : Nat.blt d n = true)
    (q : Qt P n w0 zs hs L ⟨some d, op, t, p, af, none⟩ v) (r : Sq P n w0 zs hs ops k ((d, v) :: L) l L' l') :
    Sq P n w0 zs hs ops (k + 1) L (⟨some d, op, t, p, af, none⟩ :: l) L' l' :=
  ⟨_, _, v, rfl, Nat.blt_eq.mp hd, fun a ha => .inl ⟨rfl, fun w hw => q a ha w hw⟩, r⟩

/-- A call whose result nobody takes. -/
theorem sq_u {op : Op} {t : TypeId} {p : String} {af : Array Edge} {v : Value}
    (q : Qt P n w0 zs hs L ⟨none, op, t, p, af, none⟩ v) (r : Sq P n w0 zs hs ops k L l L' l') :
    Sq P n w0 zs hs ops (k + 1) L (⟨none, op, t, p, af, none⟩ :: l) L' l' :=
  ⟨_, _, v, rfl, trivial, fun a ha => .inl ⟨rfl, fun w hw => q a ha w hw⟩, r⟩

/-- What the guard of an operation reads. -/
theorem yielded_of {a : Act} (ha : Fr n L a) {g t : Nat} {v : Value} (hg : (ops[g]?).bind (·.dst) = some t) (hl : look L t = some v) :
    yielded ops a.tmps g = (match v with | .bool b => some b | _ => none) := by
  unfold yielded
  rw [hg]
  simp only [Option.bind_some, ha.get t v hl]
  cases v <;> rfl

theorem sq_go {d : Tmp} {op : Op} {t : TypeId} {p : String} {af : Array Edge} {v : Value} {g : Nat} {b : Bool} (gt : Nat) (hgt : (ops[g]?).bind (·.dst) = some gt) (hgl : look L gt = some (.bool b)) (hd : Nat.blt d n = true)
    (q : Qt P n w0 zs hs L ⟨some d, op, t, p, af, some (g, b)⟩ v) (r : Sq P n w0 zs hs ops k ((d, v) :: L) l L' l') :
    Sq P n w0 zs hs ops (k + 1) L (⟨some d, op, t, p, af, some (g, b)⟩ :: l) L' l' :=
  ⟨_, _, v, rfl, Nat.blt_eq.mp hd, fun a ha => .inl ⟨by simp [Region.wanted, yielded_of ha hgt hgl], fun w hw => q a ha w hw⟩, r⟩

theorem sq_skip {d : Tmp} {op : Op} {t : TypeId} {p : String} {af : Array Edge} {g : Nat} {b c : Bool} (gt : Nat) (hgt : (ops[g]?).bind (·.dst) = some gt) (hgl : look L gt = some (.bool c)) (hbc : (!b) = c) (hd : Nat.blt d n = true)
    (r : Sq P n w0 zs hs ops k ((d, undef) :: L) l L' l') :
    Sq P n w0 zs hs ops (k + 1) L (⟨some d, op, t, p, af, some (g, b)⟩ :: l) L' l' :=
  ⟨_, _, undef, rfl, Nat.blt_eq.mp hd, fun a ha => .inr ⟨by subst hbc; simp [Region.wanted, yielded_of ha hgt hgl], rfl⟩, r⟩

/-- A guard that itself was passed over. -/
theorem sq_skipu {d : Tmp} {op : Op} {t : TypeId} {p : String} {af : Array Edge} {g : Nat} {b : Bool} (gt : Nat) (hgt : (ops[g]?).bind (·.dst) = some gt) (hgl : look L gt = some undef) (hd : Nat.blt d n = true)
    (r : Sq P n w0 zs hs ops k ((d, undef) :: L) l L' l') :
    Sq P n w0 zs hs ops (k + 1) L (⟨some d, op, t, p, af, some (g, b)⟩ :: l) L' l' :=
  ⟨_, _, undef, rfl, Nat.blt_eq.mp hd, fun a ha => .inr ⟨by simp only [Region.wanted, yielded_of ha hgt hgl]; exact beq_eq_false_iff_ne.2 (by simp [undef]), rfl⟩, r⟩

theorem wpl_sq {Q : Exit → Act → World → Prop} : ∀ {k : Nat} {L l} {a : Act} {w : World}, Fr n L a → St w0 zs hs w → Sq P n w0 zs hs ops k L l L' l' →
    (∀ a w, Fr n L' a → St w0 zs hs w → wpList P ops Q l' a w) → wpList P ops Q l a w
  | 0, _, _, a, w, hF, hS, h, K => by obtain ⟨rfl, rfl⟩ := h; exact K a w hF hS
  | k + 1, _, _, a, w, hF, hS, h, K => by
    obtain ⟨o, r, v, rfl, hd, hq, hr⟩ := h
    unfold wpList
    rcases hq a hF with ⟨hw, hq⟩ | ⟨hw, rfl⟩
    · simp only [hw, if_true]
      refine .inl ?_
      have := hq w hS
      unfold Oper.wp
      generalize (execOp a.eval o).run P w = res at this
      cases res with
      | halt x w' => simp only [Oper.quietUpon] at this
      | ok nx w' =>
        cases nx <;> simp only [Oper.quietUpon] at this <;> simp only [Oper.upon]
        case value u => obtain ⟨rfl, rfl⟩ := this; exact wpl_sq (hF.up hd) hS hr K
        case skip => obtain ⟨rfl, rfl⟩ := this; exact wpl_sq (hF.up hd) hS hr K
        case enter f args =>
          obtain ⟨rfl, hc⟩ := this
          exact hc.mono fun e w'' ⟨he, hw''⟩ => by subst he; exact wpl_sq (hF.up hd) hw'' hr K
    · simp only [hw, Bool.false_eq_true, if_false]
      exact wpl_sq (hF.up hd) hS hr K

theorem wpq_sq : ∀ {k : Nat} {L l} {Q : Act → Prop} {a : Act}, Fr n L a → Sq P n w0 zs hs ops k L l L' [] →
    (∀ a, Fr n L' a → Q a) → wpQuiet P ops (St w0 zs hs) Q l a
  | 0, _, _, _, a, hF, h, K => by obtain ⟨rfl, rfl⟩ := h; exact K a hF
  | k + 1, _, _, _, a, hF, h, K => by
    obtain ⟨o, r, v, rfl, hd, hq, hr⟩ := h
    unfold wpQuiet
    rcases hq a hF with ⟨hw, hq⟩ | ⟨hw, rfl⟩
    · simp only [hw, if_true]
      exact ⟨v, fun w hw => hq w hw, wpq_sq (hF.up hd) hr K⟩
    · simp only [hw, Bool.false_eq_true, if_false]
      exact wpq_sq (hF.up hd) hr K

/-- A region in the text's order: all its operations quiet. -/
theorem reg {id : Nat} {Q : Exit → Act → World → Prop} {a : Act} {w : World} (hF : Fr n L a) (hS : St w0 zs hs w)
    (s : Sq P n w0 zs hs l.toArray k L l L' []) (K : ∀ a w, Fr n L' a → St w0 zs hs w → Q .normal a w) : (Code.region id l.toArray false).wp P Q a w :=
  wp_region_lit (wpl_sq hF hS s fun a w hF hS => wpList_nil (K a w hF hS))

/-- A region that draws its order: all its operations quiet. -/
theorem regd {id : Nat} {Q : Exit → Act → World → Prop} {a : Act} {w : World} (hm : P.follows .mixedOrders = true) (hB : Region.lexB .any l.toArray = true) (hF : Fr n L a) (hS : St w0 zs hs w)
    (s : Sq P n w0 zs hs l.toArray k L l L' []) (K : ∀ a w, Fr n L' a → St w0 zs hs w → Q .normal a w) : (Code.region id l.toArray true).wp P Q a w :=
  wp_region_quiet (C := St w0 zs hs) hm hB (hS.drew _) (wpq_sq (by exact hF) s fun a hF w hS => K a w hF hS)

/-- A region in the text's order, operation by operation. -/
theorem regl {id : Nat} {Q : Exit → Act → World → Prop} {a : Act} {w : World} (h : wpList P l.toArray Q l a w) : (Code.region id l.toArray false).wp P Q a w := wp_region_lit h
end
end Go.Fw
