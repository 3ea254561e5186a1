/- A text of a proof over this seat: walks over the program's functions and the plain laws that they need. -/
import Derived.Test.YtkpfjkoeglpfoaaDoorFw6
set_option linter.all false
namespace Go.Fw

/-! ### calls -/
/-- What a call hands back: a value, with what has been frozen and what is handed over; all that was there is as it was. -/
def Ct (P : Program) (f : FuncId) (args : List Value) (w : World) (R : Value → List PH → List Res → Prop) : Prop :=
  Calls P f args.toArray w fun e w' => ∃ v zs hs, e = .returned v ∧ St w zs hs w' ∧ R v zs hs

theorem Ct.mono {P f args w} {R R' : Value → List PH → List Res → Prop} (h : Ct P f args w R) (hr : ∀ v zs hs, R v zs hs → R' v zs hs) : Ct P f args w R' :=
  Calls.mono h fun _ _ ⟨v, zs, hs, h1, h2, h3⟩ => ⟨v, zs, hs, h1, h2, hr _ _ _ h3⟩

/-- A function that can be called by its number. -/
def FnOk (P : Program) (f : FuncId) : Prop := ∃ fn, P.funcs[f]? = some fn ∧ fn.body.isNone = false ∧ (fn.name == "runtime.NumGoroutine") = false

def opvs (L : List (Nat × Value)) : List Operand → Option (List Value)
  | [] => some []
  | o :: r => match opv L o, opvs L r with
    | some v, some vs => some (v :: vs)
    | _, _ => none

theorem Fr.evals {n L a} (h : Fr n L a) : ∀ {os vs}, opvs L os = some vs → os.map a.eval = vs
  | [], vs, hv => by simp [opvs] at hv; simp [hv]
  | o :: r, vs, hv => by
    unfold opvs at hv
    split at hv
    · rename_i v vs' h1 h2
      simp only [Option.some.injEq] at hv
      subst hv
      simp [h.eval h1, h.evals h2]
    · cases hv

section
variable {P : Program} {n : Nat} {w0 : World} {zs : List PH} {hs : List Res} {L : List (Nat × Value)} {d : Option Tmp} {ty t t' : TypeId} {pos : String} {af : Array Edge} {g : Option (Nat × Bool)}
variable {x y c o1 o2 o3 : Operand} {u v : Value} {ops : Array Oper} {rest : List Oper}

theorem run_call {f : FuncId} (hf : FnOk P f) {os : List Operand} {vs : List Value} {ats : Array TypeId} {a : Act} (ha : Fr n L a) (h1 : opvs L os = some vs) (w : World) :
    (execOp a.eval ⟨d, .call ⟨.value (.func f), os.toArray, ats⟩, ty, pos, af, g⟩).run P w = .ok (.enter f vs.toArray) w := by
  obtain ⟨fn, h2, h3, h4⟩ := hf
  have he := ha.evals h1
  simp only [execOp]
  simp only [resolve, Act.eval, Deferred.ofValue, invoke, Sem.run_bind, Sem.run_pure, Result.andThen_ok, callFunc, run_program, h2, h4, h3]
  simp [he]

/-- A call of what leaves nothing behind that matters: one value. -/
theorem q_call {f : FuncId} (hf : FnOk P f) {os : List Operand} {vs : List Value} {ats : Array TypeId} {R : Value → List PH → List Res → Prop} (h1 : opvs L os = some vs) (hc : ∀ w, St w0 zs hs w → Ct P f vs w R) (hR : ∀ v' zs hs, R v' zs hs → v' = v) :
    Qt P n w0 zs hs L ⟨d, .call ⟨.value (.func f), os.toArray, ats⟩, ty, pos, af, g⟩ v :=
  fun a ha w hw => by
    rw [run_call hf ha h1]
    exact ⟨rfl, Calls.mono (hc w hw) fun e w' ⟨v', zs', hs', he, hS, hr⟩ => ⟨by rw [he, hR _ _ _ hr], hw.later hS.ext hS.io⟩⟩

/-- A call whatever. -/
theorem ef_call {f : FuncId} (hf : FnOk P f) {os : List Operand} {vs : List Value} {ats : Array TypeId} {R : Value → List PH → List Res → Prop} (h1 : opvs L os = some vs) (hc : ∀ w, St w0 zs hs w → Ct P f vs w R) :
    Ef P n w0 zs hs L ⟨d, .call ⟨.value (.func f), os.toArray, ats⟩, ty, pos, af, g⟩ (fun v zs' hs' => ∃ z1 h1, zs' = z1 ++ zs ∧ hs' = h1 ++ hs ∧ R v z1 h1) := by
  intro a ha w hw next Q hn
  unfold Oper.wp
  rw [run_call hf ha h1]
  exact Calls.mono (hc w hw) fun e w' ⟨v', zs', hs', he, hS, hr⟩ => by
    subst he
    exact hn v' _ _ w' ⟨zs', hs', rfl, rfl, hr⟩ (hw.call hS)

/-! ### a function's begin and end -/
theorem fn_enter {f : FuncId} {fn : Func} {cd : Code} (hf : P.funcs[f]? = some fn) (hb : fn.body = some cd) {k : Nat} (hk : fn.ntmps = k) {args : List Value} (hn : args.length ≤ k) {w : World} {R : Value → List PH → List Res → Prop}
    (h : ∀ a, Fr k (enterL 0 args) a → St w [] [] w → cd.wp P (bodyPost P fn fun e w' => ∃ v zs hs, e = .returned v ∧ St w zs hs w' ∧ R v zs hs) a w) : Ct P f args w R := by
  subst hk
  exact calls_of_wp hf hb (h _ (Fr.enter _ _ hn) (St.start w))

/-- What the results come to. -/
@[reducible] def resVal : List Value → Value
  | [v] => v
  | vs => .tuple vs.toArray

/-- A result variable and its value. -/
def ResV (P : Program) (L : List (Nat × Value)) (hs : List Res) : ResultVar → Value → Prop
  | .tmp t, v => look L t = some v
  | .cell p t, v => ∃ b bt cs dd s by_ zv, look L p = some (.pointer (some ⟨b, 0, none⟩)) ∧ Res.blk b bt cs ∈ hs ∧ Tf P t dd s by_ zv ∧
      ((aggD dd = true ∧ cs.length = s ∧ v = .agg cs.toArray) ∨ (aggD dd = false ∧ cs = [v]))

def ResVs (P : Program) (L : List (Nat × Value)) (hs : List Res) : List ResultVar → List Value → Prop
  | [], [] => True
  | r :: rs, v :: vs => ResV P L hs r v ∧ ResVs P L hs rs vs
  | _, _ => False

theorem ResV.run {w : World} {r : ResultVar} {a : Act} (hF : Fr n L a) (hS : St w0 zs hs w) (h : ResV P L hs r v) :
    (match r with | .tmp t => (pure (a.tmps.getD t undef) : Sem Value) | .cell p t => do loadVar t (← asAddr (a.tmps.getD p undef))).run P w = .ok v w := by
  cases r with
  | tmp t =>
    have := hF.get t v h
    simp [this]
  | cell p t =>
    obtain ⟨b, bt, cs, dd, s, by_, zv, h1, h2, h3, h4⟩ := h
    have hb := (hS.own _ h2).1.2
    have hp := hF.get p _ h1
    have hv : a.tmps.getD p undef = .pointer (some ⟨b, 0, none⟩) := by simp [hp]
    simp only [hv, asAddr, Sem.run_bind, Sem.run_pure, Result.andThen_ok]
    rcases h4 with ⟨h4, h5, rfl⟩ | ⟨h4, rfl⟩
    · have := run_loadA h3 h4 hb (off := 0) (by simp [h5])
      rw [this]
      simp [← h5]
    · exact run_load1 h3 h4 (by rw [cell_of_row w b 0 _ bt _ hb]; rfl)

theorem run_results {fn : Func} {w : World} {rs : List ResultVar} (hrs : fn.results = rs.toArray) {a : Act} (hF : Fr n L a) (hS : St w0 zs hs w) {vs : List Value} (h : ResVs P L hs rs vs) :
    (results fn a.tmps).run P w = .ok (resVal vs) w := by
  have key : ∀ (rs : List ResultVar) (vs : List Value), ResVs P L hs rs vs → Sem.run P (rs.mapM fun (r : ResultVar) => (match r with | .tmp t => (pure (a.tmps.getD t undef) : Sem Value) | .cell p t => do loadVar t (← asAddr (a.tmps.getD p undef)))) w = Result.ok vs w := by
    intro rs
    induction rs with
    | nil =>
      intro vs hv
      cases vs with
      | nil => simp
      | cons v vs => exact hv.elim
    | cons r rs ih =>
      intro vs hv
      cases vs with
      | nil => exact hv.elim
      | cons v vs =>
        have h1 := ResV.run hF hS hv.1
        have h2 := ih vs hv.2
        rw [List.mapM_cons]
        simp only [Sem.run_bind, Sem.run_pure]
        rw [h1]
        simp only [Result.andThen_ok]
        rw [h2]
        rfl
  have hk := key rs vs h
  unfold results
  rw [hrs, List.mapM_toArray]
  have hk' : Sem.run P (Functor.map List.toArray (rs.mapM fun (r : ResultVar) => (match r with | .tmp t => (pure (a.tmps.getD t undef) : Sem Value) | .cell p t => do loadVar t (← asAddr (a.tmps.getD p undef))))) w = Result.ok vs.toArray w := by
    rw [Sem.run_map, hk]
    rfl
  rw [Sem.run_bind]
  refine (congrArg (fun r => Result.andThen r _) hk').trans ?_
  simp only [Result.andThen_ok, Sem.run_pure]
  cases vs with
  | nil => rfl
  | cons v vs =>
    cases vs with
    | nil => rfl
    | cons v2 vs => simp [resVal]

theorem fn_ret {fn : Func} {w : World} {a : Act} {R : Value → List PH → List Res → Prop} {rs : List ResultVar} (hrs : fn.results = rs.toArray) (hF : Fr n L a) (hS : St w0 zs hs w) {vs : List Value} (hv : ResVs P L hs rs vs) {zs' hs'} (h1 : zs'.Sublist zs) (h2 : hs'.Sublist hs) (hR : R (resVal vs) zs' hs') :
    bodyPost P fn (fun e w' => ∃ v zs hs, e = .returned v ∧ St w0 zs hs w' ∧ R v zs hs) .ret a w :=
  ⟨hF.nodef, _, run_results hrs hF hS hv, _, _, _, rfl, hS.keep h1 h2, hR⟩

/-! ### control -/
theorem wp_cut {cx cy : Code} {Q : Exit → Act → World → Prop} {a : Act} {w : World} (J : Act → World → Prop) (hx : cx.wp P (Exit.then J Q) a w) (hy : ∀ a w, J a w → cy.wp P Q a w) : (Code.seq cx cy).wp P Q a w :=
  wp_seq (Code.wp_mono (fun e a w q => by cases e <;> first | exact hy _ _ q | exact q) hx)

theorem wp_if {cx cy : Code} {Q : Exit → Act → World → Prop} {a : Act} {w : World} {b : Bool} (hF : Fr n L a) (h : opv L c = some (.bool b)) (ht : b = true → cx.wp P Q a w) (hf : b = false → cy.wp P Q a w) : (Code.cond c cx cy).wp P Q a w :=
  wp_cond_split (hF.eval h) ht hf
/-- On a proposition. -/
theorem wp_ifd {cx cy : Code} {Q : Exit → Act → World → Prop} {a : Act} {w : World} {p : Prop} [Decidable p] (hF : Fr n L a) (h : opv L c = some (.bool (decide p))) (ht : p → cx.wp P Q a w) (hf : ¬ p → cy.wp P Q a w) : (Code.cond c cx cy).wp P Q a w :=
  wp_cond_split (hF.eval h) (fun e => ht (of_decide_eq_true e)) (fun e => hf (of_decide_eq_false e))
theorem wp_ifn {cx cy : Code} {Q : Exit → Act → World → Prop} {a : Act} {w : World} {p : Prop} [Decidable p] (hF : Fr n L a) (h : opv L c = some (.bool (!decide p))) (ht : ¬ p → cx.wp P Q a w) (hf : p → cy.wp P Q a w) : (Code.cond c cx cy).wp P Q a w :=
  wp_cond_split (hF.eval h) (fun e => ht (by simpa using e)) (fun e => hf (by simpa using e))

/-- A loop whose measure is a ghost. -/
theorem wp_loopg {cb : Code} {Q : Exit → Act → World → Prop} {a : Act} {w : World} (I : Nat → Act → World → Prop) (k : Nat) (h0 : I k a w)
    (hr : ∀ m a w, I m a w → cb.wp P (Exit.then (fun a w => ∃ m', m' < m ∧ I m' a w) Q) a w) : (Code.loop cb).wp P Q a w := by
  classical
  have hex : ∀ a w, (∃ m, I m a w) → ∃ m, I m a w ∧ ∀ m', I m' a w → m ≤ m' := by
    intro a w ⟨m, hm⟩
    induction m using Nat.strongRecOn with
    | _ m ih =>
      by_cases hlt : ∃ m', m' < m ∧ I m' a w
      · obtain ⟨m', h1, h2⟩ := hlt
        exact ih m' h1 h2
      · exact ⟨m, hm, fun m' h' => Nat.le_of_not_lt fun h => hlt ⟨m', h, h'⟩⟩
  let μ : Act → World → Nat := fun a w => if h : ∃ m, I m a w then (hex a w h).choose else 0
  have hμ : ∀ a w (h : ∃ m, I m a w), I (μ a w) a w ∧ ∀ m', I m' a w → μ a w ≤ m' := by
    intro a w h
    have := (hex a w h).choose_spec
    simp only [μ, dif_pos h]
    exact this
  refine wp_loop (fun a w => ∃ m, I m a w) μ ⟨k, h0⟩ fun a w hI => ?_
  obtain ⟨h1, _⟩ := hμ a w hI
  refine Code.wp_mono (fun e a' w' q => ?_) (hr _ a w h1)
  cases e with
  | normal =>
    obtain ⟨m', hm, hI'⟩ := q
    exact ⟨⟨m', hI'⟩, Nat.lt_of_le_of_lt ((hμ a' w' ⟨m', hI'⟩).2 m' hI') hm⟩
  | _ => exact q
end
end Go.Fw
namespace Go.Fw
section
variable {P : Program} {n : Nat} {w0 : World} {zs : List PH} {hs : List Res} {L : List (Nat × Value)}
/-- A loop with ghosts. -/
theorem wp_loopx {cb : Code} {Q : Exit → Act → World → Prop} {a : Act} {w : World} {γ : Type} (g0 : γ) (Lm : γ → List (Nat × Value)) (Lk : List (Nat × Value)) (hsf : γ → List Res) (fact : γ → Prop) (μ : γ → Nat)
    (hF : Fr n (Lm g0 ++ Lk) a) (hS : St w0 zs (hsf g0) w) (hf : fact g0)
    (hr : ∀ g a w, fact g → Fr n (Lm g ++ Lk) a → St w0 zs (hsf g) w → cb.wp P (Exit.then (fun a w => ∃ g', μ g' < μ g ∧ fact g' ∧ Fr n (Lm g' ++ Lk) a ∧ St w0 zs (hsf g') w) Q) a w) : (Code.loop cb).wp P Q a w := by
  refine wp_loopg (fun m a w => ∃ g, m = μ g ∧ fact g ∧ Fr n (Lm g ++ Lk) a ∧ St w0 zs (hsf g) w) (μ g0) ⟨g0, rfl, hf, hF, hS⟩ fun m a w ⟨g, hm, h1, h2, h3⟩ => ?_
  refine Code.wp_mono (fun e a w q => ?_) (hr g a w h1 h2 h3)
  cases e with
  | normal => obtain ⟨g', h4, h5, h6, h7⟩ := q; exact ⟨μ g', by omega, g', rfl, h5, h6, h7⟩
  | _ => exact q
end
end Go.Fw
