/- A text of a proof over this seat: walks over the program's functions and the plain laws that they need. -/
import Derived.Test.YtcolgcdnpfpcdaaFw20
set_option linter.all false
namespace Go.Fw
section
variable {P : Program} {n : Nat} {w0 : World} {zs : List PH} {hs : List Res} {ops : Array Oper} {L : List (Nat × Value)}
/-- What these operations write stands nowhere in L. -/
def frsB (L : List (Nat × Value)) (l : List Oper) : Bool := l.all (frB L)
theorem sq_sub2 {l1 : List Oper} {L1 : List (Nat × Value)} : ∀ {m : Nat} {l : List Oper} {L0 : List (Nat × Value)}, Sq P n w0 zs hs ops m L0 l L1 l1 → frsB L (l.take m) = true → Sub L L0 → Sub L L1
  | 0, _, _, h, _, hs => by obtain ⟨rfl, _⟩ := h; exact hs
  | m + 1, _, _, h, hg, hs => by
    obtain ⟨o, r, v, rfl, hd, hq, hr⟩ := h
    rw [List.take_succ_cons] at hg
    unfold frsB at hg
    rw [List.all_cons, Bool.and_eq_true] at hg
    refine sq_sub2 (m := m) hr hg.2 fun t u hu => ?_
    have hfr := hg.1
    unfold frB at hfr
    cases hod : o.dst with
    | none => exact hs t u hu
    | some d =>
      rw [hod] at hfr
      simp only [upL]
      unfold look
      cases hb : Nat.beq d t with
      | true =>
        have : d = t := Nat.eq_of_beq_eq_true hb
        subst this
        have h9 : (!(L.any fun p => Nat.beq p.1 d)) = true := hfr
        rw [look_of_any hu] at h9
        cases h9
      | false => simpa using hs t u hu
theorem sub_pre {gt : Nat} {b : Bool} (hgt : look L gt = some (.bool b)) : Sub L ((gt, .bool b) :: L) := fun t v hv => by
  unfold look
  cases hb : Nat.beq gt t with
  | true =>
    have : gt = t := Nat.eq_of_beq_eq_true hb
    subst this
    rw [hgt] at hv
    exact hv
  | false => simpa using hv
theorem fr_pre {gt : Nat} {b : Bool} {a : Act} (hF : Fr n L a) (hgt : look L gt = some (.bool b)) : Fr n ((gt, .bool b) :: L) a := ⟨hF.size, hF.nodef, fun t v hv => by
  unfold look at hv
  cases hb : Nat.beq gt t with
  | true =>
    have : gt = t := Nat.eq_of_beq_eq_true hb
    subst this
    simp only [hb, cond_true, Option.some.injEq] at hv
    subst hv
    exact hF.get _ _ hgt
  | false =>
    rw [hb] at hv
    exact hF.get t v hv⟩
theorem sub_top {pd : Nat} {v : Value} {L1 : List (Nat × Value)} (h : Sub L L1) : Sub ((pd, v) :: L) ((pd, v) :: L1) := fun t u hu => by
  unfold look at hu ⊢
  cases hb : Nat.beq pd t with
  | true => rw [hb] at hu; simpa using hu
  | false => rw [hb] at hu; exact h t u hu
/-- '||', '&&' with further guards inside. -/
theorem wpl_or2 {c q : Bool} (gt m : Nat) {rest l : List Oper} {L1 L2 : List (Nat × Value)} {pd : Tmp} {pt : TypeId} {pp : String} {pa : Array Edge} {x y : Operand} {Q : Exit → Act → World → Prop} {a : Act} {w : World}
    (hF : Fr n L a) (hS : St w0 zs hs w) (hgt : look L gt = some (.bool c)) (hall : frsB L (l.take m) = true) (hpd : Nat.blt pd n = true)
    (hsk : c = true → Sq P n w0 zs hs ops m ((gt, .bool true) :: L) l L2 (⟨some pd, .pick (.tmp gt) x y, pt, pp, pa, none⟩ :: rest))
    (hgo : c = false → Sq P n w0 zs hs ops m ((gt, .bool false) :: L) l L1 (⟨some pd, .pick (.tmp gt) x y, pt, pp, pa, none⟩ :: rest)) (hx : opv L2 x = some (.bool true)) (hy : opv L1 y = some (.bool q))
    (K : ∀ a w, Fr n ((pd, .bool (c || q)) :: L) a → St w0 zs hs w → wpList P ops Q rest a w) : wpList P ops Q l a w := by
  cases c with
  | true =>
    have hs1 := hsk rfl
    have hsub := sq_sub2 hs1 hall (sub_pre hgt)
    exact wpl_sq (fr_pre hF hgt) hS hs1 fun a w hF2 hS => wpl_sq hF2 hS (sq hpd (q_pick_t (hsub gt _ hgt) hx) sq_end) fun a w hF3 hS => K a w (hF3.of_sub (sub_top hsub)) hS
  | false =>
    have hs1 := hgo rfl
    have hsub := sq_sub2 hs1 hall (sub_pre hgt)
    exact wpl_sq (fr_pre hF hgt) hS hs1 fun a w hF2 hS => wpl_sq hF2 hS (sq hpd (q_pick_f (hsub gt _ hgt) hy) sq_end) fun a w hF3 hS => K a w (hF3.of_sub (sub_top hsub)) hS
theorem wpl_and2 {c q : Bool} (gt m : Nat) {rest l : List Oper} {L1 L2 : List (Nat × Value)} {pd : Tmp} {pt : TypeId} {pp : String} {pa : Array Edge} {x y : Operand} {Q : Exit → Act → World → Prop} {a : Act} {w : World}
    (hF : Fr n L a) (hS : St w0 zs hs w) (hgt : look L gt = some (.bool c)) (hall : frsB L (l.take m) = true) (hpd : Nat.blt pd n = true)
    (hsk : c = false → Sq P n w0 zs hs ops m ((gt, .bool false) :: L) l L2 (⟨some pd, .pick (.tmp gt) x y, pt, pp, pa, none⟩ :: rest))
    (hgo : c = true → Sq P n w0 zs hs ops m ((gt, .bool true) :: L) l L1 (⟨some pd, .pick (.tmp gt) x y, pt, pp, pa, none⟩ :: rest)) (hx : opv L1 x = some (.bool q)) (hy : opv L2 y = some (.bool false))
    (K : ∀ a w, Fr n ((pd, .bool (c && q)) :: L) a → St w0 zs hs w → wpList P ops Q rest a w) : wpList P ops Q l a w := by
  cases c with
  | false =>
    have hs1 := hsk rfl
    have hsub := sq_sub2 hs1 hall (sub_pre hgt)
    exact wpl_sq (fr_pre hF hgt) hS hs1 fun a w hF2 hS => wpl_sq hF2 hS (sq hpd (q_pick_f (hsub gt _ hgt) hy) sq_end) fun a w hF3 hS => K a w (hF3.of_sub (sub_top hsub)) hS
  | true =>
    have hs1 := hgo rfl
    have hsub := sq_sub2 hs1 hall (sub_pre hgt)
    exact wpl_sq (fr_pre hF hgt) hS hs1 fun a w hF2 hS => wpl_sq hF2 hS (sq hpd (q_pick_t (hsub gt _ hgt) hx) sq_end) fun a w hF3 hS => K a w (hF3.of_sub (sub_top hsub)) hS
end
end Go.Fw
namespace Go.Fw
theorem nd_false {p : Prop} [Decidable p] (h : (!decide p) = false) : p := by simpa using h
theorem nd_true {p : Prop} [Decidable p] (h : (!decide p) = true) : ¬ p := by simpa using h
end Go.Fw
