/- A text of a proof over this seat: walks over the program's functions and the plain laws that they need. -/
import Derived.Test.YtcolgcdnpfpcdaaFw16
set_option linter.all false
namespace Go.Fw
section
variable {P : Program} {n : Nat} {w0 : World} {zs : List PH} {hs : List Res} {ops : Array Oper} {L L' : List (Nat × Value)} {k : Nat}

theorem wanted_go {d : Option Tmp} {op : Op} {t : TypeId} {p : String} {af : Array Edge} {g : Nat} {b : Bool} (gt : Nat) (hgt : (ops[g]?).bind (·.dst) = some gt) (hgl : look L gt = some (.bool b)) :
    ∀ a, Fr n L a → Region.wanted ⟨d, op, t, p, af, some (g, b)⟩ (yielded ops a.tmps) = true :=
  fun a ha => by simp [Region.wanted, yielded_of ha hgt hgl]
theorem wanted_no {d : Option Tmp} {op : Op} {t : TypeId} {p : String} {af : Array Edge} {g : Nat} {b c : Bool} (gt : Nat) (hgt : (ops[g]?).bind (·.dst) = some gt) (hgl : look L gt = some (.bool c)) (hbc : (!b) = c) :
    ∀ a, Fr n L a → Region.wanted ⟨d, op, t, p, af, some (g, b)⟩ (yielded ops a.tmps) = false :=
  fun a ha => by subst hbc; simp [Region.wanted, yielded_of ha hgt hgl]

/-! ### guarded operations in a region that draws and writes -/
variable {J : Act → World → Prop}
theorem goW_takeg {l : List Oper} {f : Nat} {W : Wt} {ls : Array Bool} {a : Act} {w : World} (i : Nat) (ls' : Array Bool) {d : Option Tmp} {op : Op} {t : TypeId} {p : String} {af : Array Edge} {g : Option (Nat × Bool)} {v : Value} {zs : List PH} {hs : List Res}
    (hi : l[i]? = some ⟨d, op, t, p, af, g⟩) (hg : ∀ a, Fr n L a → Region.wanted ⟨d, op, t, p, af, g⟩ (yielded l.toArray a.tmps) = true) (hB : (plainB ⟨d, op, t, p, af, g⟩ && Region.noSelect l.toArray && Region.free .any l.toArray ls i && (Region.ready .any l.toArray ls).contains i && (match d with | some k => Nat.blt k n | none => true)) = true)
    (hls : ls.setIfInBounds i true = ls') (hF : Fr n L a) (hS : St w0 zs hs w) (q : Qt P n w0 zs hs L ⟨d, op, t, p, af, g⟩ v)
    (K : ∀ a, Fr n (upL d v L) a → GoW P l.toArray J f ((i, St w0 zs hs) :: W) ls' a w) : GoW P l.toArray J (f + 1) W ls a w := by
  intro hcl hW
  subst hls
  replace hi : l.toArray[i]? = some ⟨d, op, t, p, af, g⟩ := by simpa using hi
  simp only [Bool.and_eq_true] at hB
  obtain ⟨⟨⟨⟨hp, hsel⟩, hf⟩, hr⟩, hd⟩ := hB
  have hr : i ∈ Region.ready .any l.toArray ls := by simpa using hr
  have hy : YieldsIn P l.toArray (St w0 zs hs) ⟨d, op, t, p, af, g⟩ v a := .inl ⟨hg a hF, fun w hw => q a hF w hw⟩
  have hF' : Fr n (upL d v L) (a.put d v) := hF.up (by cases d with | none => trivial | some k => exact Nat.blt_eq.mp hd)
  have hun := getD_both (mem_ready.1 hr).1
  have hW' : Held .any l.toArray (ls.setIfInBounds i true) w [] W := Held.more hun W [] [] (by simp) hW
  refine wpW_first (C := St w0 zs hs) hi hp (Region.noSelect_spec hsel) W f ls a w hcl (Region.free_spec hi hf) hr hy hS hW' ?_
  exact K _ hF' (hcl.set hr) ⟨.inr hS, Held.more hun W [] [i] (by simp) hW⟩

theorem stepW_efg {l : List Oper} {f : Nat} {W : Wt} {ls : Array Bool} {a : Act} {w : World} {i : Nat} (ls' : Array Bool) {d : Option Tmp} {op : Op} {ty : TypeId} {pos : String} {af : Array Edge} {g : Option (Nat × Bool)} {zs : List PH} {hs : List Res} {K : Value → List PH → List Res → Prop}
    (hi : l[i]? = some ⟨d, op, ty, pos, af, g⟩) (hg : ∀ a, Fr n L a → Region.wanted ⟨d, op, ty, pos, af, g⟩ (yielded l.toArray a.tmps) = true) (hls : ls.setIfInBounds i true = ls') (hF : Fr n L a) (hS : St w0 zs hs w) (hd : (match d with | some k => Nat.blt k n | none => true) = true) (e : Ef P n w0 zs hs L ⟨d, op, ty, pos, af, g⟩ K)
    (h : ∀ v zs' hs' a w, K v zs' hs' → Fr n (upL d v L) a → St w0 zs' hs' w → Held .any l.toArray ls' w [] W ∧ GoW P l.toArray J f W ls' a w) : StepW P l.toArray J f W ls a w i := by
  intro hr hcl
  subst hls
  replace hi : l.toArray[i]? = some ⟨d, op, ty, pos, af, g⟩ := by simpa using hi
  unfold wpOp
  simp only [hi]
  rw [if_pos (hg a hF)]
  refine .inl (e a hF w hS _ _ fun v zs' hs' w' hK hS' => ?_)
  have := h v zs' hs' _ w' hK (hF.up (by cases d with | none => trivial | some k => exact Nat.blt_eq.mp hd)) hS'
  exact ⟨this.1, this.2 (hcl.set hr) this.1⟩

/-- A guarded operation that writes, in the text's order. -/
theorem wpl_efg {op : Op} {d : Option Tmp} {ty : TypeId} {pos : String} {af : Array Edge} {g : Option (Nat × Bool)} {rest : List Oper} {Q : Exit → Act → World → Prop} {a : Act} {w : World} {K : Value → List PH → List Res → Prop} (hF : Fr n L a) (hS : St w0 zs hs w) (hg : ∀ a, Fr n L a → Region.wanted ⟨d, op, ty, pos, af, g⟩ (yielded ops a.tmps) = true) (hd : (match d with | some k => Nat.blt k n | none => true) = true) (e : Ef P n w0 zs hs L ⟨d, op, ty, pos, af, g⟩ K)
    (h : ∀ v zs' hs' a w, K v zs' hs' → Fr n (upL d v L) a → St w0 zs' hs' w → wpList P ops Q rest a w) : wpList P ops Q (⟨d, op, ty, pos, af, g⟩ :: rest) a w := by
  unfold wpList
  rw [if_pos (hg a hF)]
  refine .inl (e a hF w hS _ _ fun v zs' hs' w' hK hS' => h v zs' hs' _ w' hK (hF.up ?_) hS')
  cases d with
  | none => trivial
  | some k => exact Nat.blt_eq.mp hd

/-! ### '&&' and '||' whose left side is not known: a group of guarded operations, and the pick behind them -/
def frB (L : List (Nat × Value)) (o : Oper) : Bool := match o.dst with | some d => !(L.any fun p => Nat.beq p.1 d) | none => true
def grpB (n : Nat) (L : List (Nat × Value)) (g : Nat) (b : Bool) (l : List Oper) : Bool :=
  l.all fun o => (match o.guard with | some (g', b') => Nat.beq g g' && (b' == b) | none => false) && frB L o && (match o.dst with | some d => Nat.blt d n | none => true)

theorem look_of_any : ∀ {L : List (Nat × Value)} {t : Nat} {v : Value}, look L t = some v → (L.any fun p => Nat.beq p.1 t) = true
  | (s, u) :: r, t, v, h => by
    unfold look at h
    cases hb : Nat.beq s t with
    | true => simp [hb]
    | false => rw [hb] at h; simp only [cond_false] at h; simp [look_of_any h]

theorem look_up {d : Option Tmp} {v u : Value} {t : Nat} (h : look L t = some u) (hd : (match d with | some d => !(L.any fun p => Nat.beq p.1 d) | none => true) = true) : look (upL d v L) t = some u := by
  cases d with
  | none => exact h
  | some d =>
    simp only [upL]
    unfold look
    cases hb : Nat.beq d t with
    | true =>
      have : d = t := Nat.eq_of_beq_eq_true hb
      subst this
      have h9 : (!(L.any fun p => Nat.beq p.1 d)) = true := hd
      rw [look_of_any h] at h9
      cases h9
    | false => simpa using h

/-- L stands in L1. -/
def Sub (L L1 : List (Nat × Value)) : Prop := ∀ t v, look L t = some v → look L1 t = some v
theorem Fr.of_sub {L1 : List (Nat × Value)} {a : Act} (h : Fr n L1 a) (hs : Sub L L1) : Fr n L a := ⟨h.size, h.nodef, fun t v hv => h.get t v (hs t v hv)⟩

theorem sq_sub {l1 : List Oper} {L1 : List (Nat × Value)} {g : Nat} {b : Bool} : ∀ {m : Nat} {l : List Oper} {L0 : List (Nat × Value)}, Sq P n w0 zs hs ops m L0 l L1 l1 → grpB n L g b (l.take m) = true → Sub L L0 → Sub L L1
  | 0, _, _, h, _, hs => by obtain ⟨rfl, _⟩ := h; exact hs
  | m + 1, _, _, h, hg, hs => by
    obtain ⟨o, r, v, rfl, hd, hq, hr⟩ := h
    rw [List.take_succ_cons] at hg
    unfold grpB at hg
    rw [List.all_cons, Bool.and_eq_true, Bool.and_eq_true, Bool.and_eq_true] at hg
    refine sq_sub (m := m) (g := g) (b := b) hr hg.2 fun t u hu => ?_
    have hfr := hg.1.1.2
    unfold frB at hfr
    cases hod : o.dst with
    | none => exact hs t u hu
    | some d =>
      rw [hod] at hfr
      simp only [upL]
      unfold look
      cases hb : Nat.beq d t with
      | true =>
        have : d = t := Nat.eq_of_beq_eq_true hb
        subst this
        have h9 : (!(L.any fun p => Nat.beq p.1 d)) = true := hfr
        rw [look_of_any hu] at h9
        cases h9
      | false => simpa using hs t u hu

theorem wpl_skips {Q : Exit → Act → World → Prop} {g gt : Nat} {b c : Bool} (hdst : (ops[g]?).bind (·.dst) = some gt) (hbc : (!b) = c) : ∀ {m : Nat} {l : List Oper} {a : Act} {w : World}, Fr n L a → look L gt = some (.bool c) → grpB n L g b (l.take m) = true →
    (∀ a, Fr n L a → wpList P ops Q (l.drop m) a w) → wpList P ops Q l a w
  | 0, _, a, _, hF, _, _, K => K a hF
  | m + 1, [], a, _, hF, _, _, K => K a hF
  | m + 1, o :: r, a, w, hF, hl, hg, K => by
    rw [List.take_succ_cons] at hg
    unfold grpB at hg
    rw [List.all_cons, Bool.and_eq_true, Bool.and_eq_true, Bool.and_eq_true] at hg
    obtain ⟨⟨⟨h1, h2⟩, h3⟩, h4⟩ := hg
    have hw : Region.wanted o (yielded ops a.tmps) = false := by
      cases hog : o.guard with
      | none => rw [hog] at h1; cases h1
      | some gb =>
        obtain ⟨g', b'⟩ := gb
        rw [hog] at h1
        simp only [Bool.and_eq_true, beq_iff_eq] at h1
        have e1 : g = g' := Nat.eq_of_beq_eq_true h1.1
        subst e1
        obtain ⟨-, rfl⟩ := h1
        subst hbc
        simp [Region.wanted, hog, yielded_of hF hdst hl]
    unfold wpList
    rw [if_neg (by rw [hw]; simp)]
    have hF2 : Fr n (upL o.dst undef L) (a.put o.dst undef) := hF.up (by
      cases hod : o.dst with
      | none => trivial
      | some d => rw [hod] at h3; exact Nat.blt_eq.mp h3)
    exact wpl_skips (m := m) hdst hbc (hF2.of_sub fun t v hv => look_up hv (by unfold frB at h2; exact h2)) hl h4 K

/-- The left side of '||' is the Bool c. -/
theorem wpl_or {c q : Bool} (g gt m : Nat) {rest l : List Oper} {L1 : List (Nat × Value)} {pd : Tmp} {pt : TypeId} {pp : String} {pa : Array Edge} {x y : Operand} {Q : Exit → Act → World → Prop} {a : Act} {w : World}
    (hF : Fr n L a) (hS : St w0 zs hs w) (hgt : look L gt = some (.bool c)) (hdst : (ops[g]?).bind (·.dst) = some gt) (hl : l.drop m = ⟨some pd, .pick (.tmp gt) x y, pt, pp, pa, none⟩ :: rest) (hall : grpB n L g false (l.take m) = true) (hpd : Nat.blt pd n = true)
    (hgo : c = false → Sq P n w0 zs hs ops m ((gt, .bool false) :: L) l L1 (⟨some pd, .pick (.tmp gt) x y, pt, pp, pa, none⟩ :: rest)) (hx : opv L x = some (.bool true)) (hy : opv L1 y = some (.bool q))
    (K : ∀ a w, Fr n ((pd, .bool (c || q)) :: L) a → St w0 zs hs w → wpList P ops Q rest a w) : wpList P ops Q l a w := by
  have hb : dstOk n (some pd) := Nat.blt_eq.mp hpd
  cases c with
  | true =>
    refine wpl_skips (m := m) (b := false) (c := true) hdst rfl hF hgt hall fun a hF => ?_
    rw [hl]
    exact wpl_sq hF hS (sq hpd (q_pick_t hgt hx) sq_end) K
  | false =>
    have hs := hgo rfl
    have h1 : Sub L ((gt, .bool false) :: L) := fun t v hv => by
      unfold look
      cases hb : Nat.beq gt t with
      | true =>
        have : gt = t := Nat.eq_of_beq_eq_true hb
        subst this
        rw [hgt] at hv
        exact hv
      | false => simpa using hv
    have hF1 : Fr n ((gt, .bool false) :: L) a := ⟨hF.size, hF.nodef, fun t v hv => by
      unfold look at hv
      cases hb : Nat.beq gt t with
      | true =>
        have : gt = t := Nat.eq_of_beq_eq_true hb
        subst this
        simp only [hb, cond_true, Option.some.injEq] at hv
        subst hv
        exact hF.get _ _ hgt
      | false =>
        rw [hb] at hv
        exact hF.get t v hv⟩
    have hsub := sq_sub (g := g) (b := false) hs hall h1
    refine wpl_sq hF1 hS hs fun a w hF2 hS => ?_
    refine wpl_sq hF2 hS (sq hpd (q_pick_f (hsub gt _ hgt) hy) sq_end) fun a w hF3 hS => K a w ?_ hS
    refine hF3.of_sub fun t v hv => ?_
    unfold look at hv ⊢
    cases hb : Nat.beq pd t with
    | true => rw [hb] at hv; simpa using hv
    | false => rw [hb] at hv; exact hsub t v hv
/-- The left side of '&&' is the Bool c. -/
theorem wpl_and {c q : Bool} (g gt m : Nat) {rest l : List Oper} {L1 : List (Nat × Value)} {pd : Tmp} {pt : TypeId} {pp : String} {pa : Array Edge} {x y : Operand} {Q : Exit → Act → World → Prop} {a : Act} {w : World}
    (hF : Fr n L a) (hS : St w0 zs hs w) (hgt : look L gt = some (.bool c)) (hdst : (ops[g]?).bind (·.dst) = some gt) (hl : l.drop m = ⟨some pd, .pick (.tmp gt) x y, pt, pp, pa, none⟩ :: rest) (hall : grpB n L g true (l.take m) = true) (hpd : Nat.blt pd n = true)
    (hgo : c = true → Sq P n w0 zs hs ops m ((gt, .bool true) :: L) l L1 (⟨some pd, .pick (.tmp gt) x y, pt, pp, pa, none⟩ :: rest)) (hx : opv L1 x = some (.bool q)) (hy : opv L y = some (.bool false))
    (K : ∀ a w, Fr n ((pd, .bool (c && q)) :: L) a → St w0 zs hs w → wpList P ops Q rest a w) : wpList P ops Q l a w := by
  have hb : dstOk n (some pd) := Nat.blt_eq.mp hpd
  cases c with
  | false =>
    refine wpl_skips (m := m) (b := true) (c := false) hdst rfl hF hgt hall fun a hF => ?_
    rw [hl]
    exact wpl_sq hF hS (sq hpd (q_pick_f hgt hy) sq_end) K
  | true =>
    have hs := hgo rfl
    have h1 : Sub L ((gt, .bool true) :: L) := fun t v hv => by
      unfold look
      cases hb : Nat.beq gt t with
      | true =>
        have : gt = t := Nat.eq_of_beq_eq_true hb
        subst this
        rw [hgt] at hv
        exact hv
      | false => simpa using hv
    have hF1 : Fr n ((gt, .bool true) :: L) a := ⟨hF.size, hF.nodef, fun t v hv => by
      unfold look at hv
      cases hb : Nat.beq gt t with
      | true =>
        have : gt = t := Nat.eq_of_beq_eq_true hb
        subst this
        simp only [hb, cond_true, Option.some.injEq] at hv
        subst hv
        exact hF.get _ _ hgt
      | false =>
        rw [hb] at hv
        exact hF.get t v hv⟩
    have hsub := sq_sub (g := g) (b := true) hs hall h1
    refine wpl_sq hF1 hS hs fun a w hF2 hS => ?_
    refine wpl_sq hF2 hS (sq hpd (q_pick_t (hsub gt _ hgt) hx) sq_end) fun a w hF3 hS => K a w ?_ hS
    refine hF3.of_sub fun t v hv => ?_
    unfold look at hv ⊢
    cases hb : Nat.beq pd t with
    | true => rw [hb] at hv; simpa using hv
    | false => rw [hb] at hv; exact hsub t v hv

/-! ### the same in a region that draws its order -/
theorem wpq_seg : ∀ {k : Nat} {L l L' l'} {Q : Act → Prop} {a : Act}, Fr n L a → Sq P n w0 zs hs ops k L l L' l' →
    (∀ a, Fr n L' a → wpQuiet P ops (St w0 zs hs) Q l' a) → wpQuiet P ops (St w0 zs hs) Q l a
  | 0, _, _, _, _, _, a, hF, h, K => by obtain ⟨rfl, rfl⟩ := h; exact K a hF
  | k + 1, _, _, _, _, _, a, hF, h, K => by
    obtain ⟨o, r, v, rfl, hd, hq, hr⟩ := h
    unfold wpQuiet
    rcases hq a hF with ⟨hw, hq⟩ | ⟨hw, rfl⟩
    · simp only [hw, if_true]
      exact ⟨v, fun w hw => hq w hw, wpq_seg (hF.up hd) hr K⟩
    · simp only [hw, Bool.false_eq_true, if_false]
      exact wpq_seg (hF.up hd) hr K
theorem wpq_nil {Q : Act → Prop} {a : Act} (h : Q a) : wpQuiet P ops (St w0 zs hs) Q [] a := h
theorem regq {l : List Oper} {id : Nat} {Q : Exit → Act → World → Prop} {a : Act} {w : World} (hm : P.follows .mixedOrders = true) (hB : Region.lexB .any l.toArray = true) (hS : St w0 zs hs w)
    (h : wpQuiet P l.toArray (St w0 zs hs) (fun a => ∀ w, St w0 zs hs w → Q .normal a w) l a) : (Code.region id l.toArray true).wp P Q a w :=
  wp_region_quiet (C := St w0 zs hs) hm hB (hS.drew _) h
theorem wpq_skips {Q : Act → Prop} {g gt : Nat} {b c : Bool} (hdst : (ops[g]?).bind (·.dst) = some gt) (hbc : (!b) = c) : ∀ {m : Nat} {l : List Oper} {a : Act}, Fr n L a → look L gt = some (.bool c) → grpB n L g b (l.take m) = true →
    (∀ a, Fr n L a → wpQuiet P ops (St w0 zs hs) Q (l.drop m) a) → wpQuiet P ops (St w0 zs hs) Q l a
  | 0, _, a, hF, _, _, K => K a hF
  | m + 1, [], a, hF, _, _, K => K a hF
  | m + 1, o :: r, a, hF, hl, hg, K => by
    rw [List.take_succ_cons] at hg
    unfold grpB at hg
    rw [List.all_cons, Bool.and_eq_true, Bool.and_eq_true, Bool.and_eq_true] at hg
    obtain ⟨⟨⟨h1, h2⟩, h3⟩, h4⟩ := hg
    have hw : Region.wanted o (yielded ops a.tmps) = false := by
      cases hog : o.guard with
      | none => rw [hog] at h1; cases h1
      | some gb =>
        obtain ⟨g', b'⟩ := gb
        rw [hog] at h1
        simp only [Bool.and_eq_true, beq_iff_eq] at h1
        have e1 : g = g' := Nat.eq_of_beq_eq_true h1.1
        subst e1
        obtain ⟨-, rfl⟩ := h1
        subst hbc
        simp [Region.wanted, hog, yielded_of hF hdst hl]
    unfold wpQuiet
    simp only [hw, Bool.false_eq_true, if_false]
    have hF2 : Fr n (upL o.dst undef L) (a.put o.dst undef) := hF.up (by
      cases hod : o.dst with
      | none => trivial
      | some d => rw [hod] at h3; exact Nat.blt_eq.mp h3)
    exact wpq_skips (m := m) hdst hbc (hF2.of_sub fun t v hv => look_up hv (by unfold frB at h2; exact h2)) hl h4 K

/-- The left side of '||' is the Bool c. -/
theorem wpq_or {c q : Bool} (g gt m : Nat) {rest l : List Oper} {L1 : List (Nat × Value)} {pd : Tmp} {pt : TypeId} {pp : String} {pa : Array Edge} {x y : Operand} {Q : Act → Prop} {a : Act}
    (hF : Fr n L a) (hgt : look L gt = some (.bool c)) (hdst : (ops[g]?).bind (·.dst) = some gt) (hl : l.drop m = ⟨some pd, .pick (.tmp gt) x y, pt, pp, pa, none⟩ :: rest) (hall : grpB n L g false (l.take m) = true) (hpd : Nat.blt pd n = true)
    (hgo : c = false → Sq P n w0 zs hs ops m ((gt, .bool false) :: L) l L1 (⟨some pd, .pick (.tmp gt) x y, pt, pp, pa, none⟩ :: rest)) (hx : opv L x = some (.bool true)) (hy : opv L1 y = some (.bool q))
    (K : ∀ a, Fr n ((pd, .bool (c || q)) :: L) a → wpQuiet P ops (St w0 zs hs) Q rest a) : wpQuiet P ops (St w0 zs hs) Q l a := by
  have hb : dstOk n (some pd) := Nat.blt_eq.mp hpd
  cases c with
  | true =>
    refine wpq_skips (m := m) (b := false) (c := true) hdst rfl hF hgt hall fun a hF => ?_
    rw [hl]
    exact wpq_seg hF (sq hpd (q_pick_t hgt hx) sq_end) K
  | false =>
    have hs := hgo rfl
    have h1 : Sub L ((gt, .bool false) :: L) := fun t v hv => by
      unfold look
      cases hb : Nat.beq gt t with
      | true =>
        have : gt = t := Nat.eq_of_beq_eq_true hb
        subst this
        rw [hgt] at hv
        exact hv
      | false => simpa using hv
    have hF1 : Fr n ((gt, .bool false) :: L) a := ⟨hF.size, hF.nodef, fun t v hv => by
      unfold look at hv
      cases hb : Nat.beq gt t with
      | true =>
        have : gt = t := Nat.eq_of_beq_eq_true hb
        subst this
        simp only [hb, cond_true, Option.some.injEq] at hv
        subst hv
        exact hF.get _ _ hgt
      | false =>
        rw [hb] at hv
        exact hF.get t v hv⟩
    have hsub := sq_sub (g := g) (b := false) hs hall h1
    refine wpq_seg hF1 hs fun a hF2 => ?_
    refine wpq_seg hF2 (sq hpd (q_pick_f (hsub gt _ hgt) hy) sq_end) fun a hF3 => K a ?_
    refine hF3.of_sub fun t v hv => ?_
    unfold look at hv ⊢
    cases hb : Nat.beq pd t with
    | true => rw [hb] at hv; simpa using hv
    | false => rw [hb] at hv; exact hsub t v hv
/-- The left side of '&&' is the Bool c. -/
theorem wpq_and {c q : Bool} (g gt m : Nat) {rest l : List Oper} {L1 : List (Nat × Value)} {pd : Tmp} {pt : TypeId} {pp : String} {pa : Array Edge} {x y : Operand} {Q : Act → Prop} {a : Act}
    (hF : Fr n L a) (hgt : look L gt = some (.bool c)) (hdst : (ops[g]?).bind (·.dst) = some gt) (hl : l.drop m = ⟨some pd, .pick (.tmp gt) x y, pt, pp, pa, none⟩ :: rest) (hall : grpB n L g true (l.take m) = true) (hpd : Nat.blt pd n = true)
    (hgo : c = true → Sq P n w0 zs hs ops m ((gt, .bool true) :: L) l L1 (⟨some pd, .pick (.tmp gt) x y, pt, pp, pa, none⟩ :: rest)) (hx : opv L1 x = some (.bool q)) (hy : opv L y = some (.bool false))
    (K : ∀ a, Fr n ((pd, .bool (c && q)) :: L) a → wpQuiet P ops (St w0 zs hs) Q rest a) : wpQuiet P ops (St w0 zs hs) Q l a := by
  have hb : dstOk n (some pd) := Nat.blt_eq.mp hpd
  cases c with
  | false =>
    refine wpq_skips (m := m) (b := true) (c := false) hdst rfl hF hgt hall fun a hF => ?_
    rw [hl]
    exact wpq_seg hF (sq hpd (q_pick_f hgt hy) sq_end) K
  | true =>
    have hs := hgo rfl
    have h1 : Sub L ((gt, .bool true) :: L) := fun t v hv => by
      unfold look
      cases hb : Nat.beq gt t with
      | true =>
        have : gt = t := Nat.eq_of_beq_eq_true hb
        subst this
        rw [hgt] at hv
        exact hv
      | false => simpa using hv
    have hF1 : Fr n ((gt, .bool true) :: L) a := ⟨hF.size, hF.nodef, fun t v hv => by
      unfold look at hv
      cases hb : Nat.beq gt t with
      | true =>
        have : gt = t := Nat.eq_of_beq_eq_true hb
        subst this
        simp only [hb, cond_true, Option.some.injEq] at hv
        subst hv
        exact hF.get _ _ hgt
      | false =>
        rw [hb] at hv
        exact hF.get t v hv⟩
    have hsub := sq_sub (g := g) (b := true) hs hall h1
    refine wpq_seg hF1 hs fun a hF2 => ?_
    refine wpq_seg hF2 (sq hpd (q_pick_t (hsub gt _ hgt) hx) sq_end) fun a hF3 => K a ?_
    refine hF3.of_sub fun t v hv => ?_
    unfold look at hv ⊢
    cases hb : Nat.beq pd t with
    | true => rw [hb] at hv; simpa using hv
    | false => rw [hb] at hv; exact hsub t v hv
end
end Go.Fw
