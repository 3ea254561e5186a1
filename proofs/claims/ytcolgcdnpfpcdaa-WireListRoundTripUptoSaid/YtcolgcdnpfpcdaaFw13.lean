/- A text of a proof over this seat: walks over the program's functions and the plain laws that they need. -/
import Derived.Test.YtcolgcdnpfpcdaaFw12
set_option linter.all false
namespace Go.Fw
section
variable {P : Program} {n : Nat} {w0 : World} {zs : List PH} {hs : List Res} {L : List (Nat × Value)} {d : Option Tmp} {ty t t' : TypeId} {pos : String} {af : Array Edge} {g : Option (Nat × Bool)}
variable {x y c o1 o2 o3 : Operand} {u v : Value} {ops : Array Oper} {rest : List Oper}

/-! ### function values -/
theorem q_mkf {fn : Fn} {fi ca : List Operand} {fs cs : List Value} (h1 : opvs L fi = some fs) (h2 : opvs L ca = some cs) :
    Qt P n w0 zs hs L ⟨d, .makeFunc fn fi.toArray ca.toArray, ty, pos, af, g⟩ (.func fn fs.toArray cs.toArray) :=
  qt_of fun a ha w hw => by
    have e1 := ha.evals h1
    have e2 := ha.evals h2
    simp only [execOp]
    simp [Instr.makeFunc, e1, e2]
theorem run_callv {f : FuncId} (hf : FnOk P f) {fs cs : List Value} (h0 : opv L x = some (.func (.func f) fs.toArray cs.toArray)) {os : List Operand} {vs : List Value} {ats : Array TypeId} {a : Act} (ha : Fr n L a) (h1 : opvs L os = some vs) (w : World) :
    (execOp a.eval ⟨d, .call ⟨.value x, os.toArray, ats⟩, ty, pos, af, g⟩).run P w = .ok (.enter f (fs ++ vs ++ cs).toArray) w := by
  obtain ⟨fn, h2, h3, h4⟩ := hf
  have he := ha.evals h1
  simp only [execOp]
  simp only [resolve, ha.eval h0, Deferred.ofValue, invoke, Sem.run_bind, Sem.run_pure, Result.andThen_ok, callFunc, run_program, h2, h4, h3]
  simp [he]
theorem q_callv {f : FuncId} (hf : FnOk P f) {fs cs : List Value} (h0 : opv L x = some (.func (.func f) fs.toArray cs.toArray)) {os : List Operand} {vs : List Value} {ats : Array TypeId} {R : Value → List PH → List Res → Prop} (h1 : opvs L os = some vs) (hc : ∀ w, St w0 zs hs w → Ct P f (fs ++ vs ++ cs) w R) (hR : ∀ v' zs hs, R v' zs hs → v' = v) :
    Qt P n w0 zs hs L ⟨d, .call ⟨.value x, os.toArray, ats⟩, ty, pos, af, g⟩ v :=
  fun a ha w hw => by
    rw [run_callv hf h0 ha h1]
    exact ⟨rfl, Calls.mono (hc w hw) fun e w' ⟨v', zs', hs', he, hS, hr⟩ => ⟨by rw [he, hR _ _ _ hr], hw.later hS.ext hS.io⟩⟩
theorem ef_callv {f : FuncId} (hf : FnOk P f) {fs cs : List Value} (h0 : opv L x = some (.func (.func f) fs.toArray cs.toArray)) {os : List Operand} {vs : List Value} {ats : Array TypeId} {R : Value → List PH → List Res → Prop} (h1 : opvs L os = some vs) (hc : ∀ w, St w0 zs hs w → Ct P f (fs ++ vs ++ cs) w R) :
    Ef P n w0 zs hs L ⟨d, .call ⟨.value x, os.toArray, ats⟩, ty, pos, af, g⟩ (fun v zs' hs' => ∃ z1 h1, zs' = z1 ++ zs ∧ hs' = h1 ++ hs ∧ R v z1 h1) := by
  intro a ha w hw next Q hn
  unfold Oper.wp
  rw [run_callv hf h0 ha h1]
  exact Calls.mono (hc w hw) fun e w' ⟨v', zs', hs', he, hS, hr⟩ => by
    subst he
    exact hn v' _ _ w' ⟨zs', hs', rfl, rfl, hr⟩ (hw.call hS)

/-- What an own box holds. -/
theorem own_box {w : World} (hS : St w0 zs hs w) (k : Nat) {b : Nat} {bt : TypeId} {cs : List Value} (hk : hs[k]? = some (.blk b bt cs)) : w.heap[b]? = some (.cells cs.toArray bt (0, 0)) :=
  (hS.own _ (List.mem_of_getElem? hk)).1.2

/-- copy(a[:], s) where a is an array that lies in a box of its own. -/
theorem ef_copyM {e sT : TypeId} {s by_ : Nat} {zv : Value} (ht : Tf P t (.slice e) s by_ zv) {de : TypeDesc} {be : Nat} {ze : Value} (hte : Tf P e de 1 be ze) (k : Nat) {b dl dc : Nat} {bt : TypeId} {xs tx : List UInt8}
    (h1 : opv L x = some (.slice (some ⟨b, 0, none⟩) dl dc)) (h2 : opv L y = some (vs tx)) (hk : hs[k]? = some (.blk b bt (xs.map vb))) (hl : dl ≤ xs.length) :
    Ef P n w0 zs hs L ⟨d, .call ⟨.builtin .copy, #[x, y], #[t, sT]⟩, ty, pos, af, g⟩ (fun v zs' hs' => v = vi (min tx.length dl) ∧ zs' = zs ∧ hs' = hs.set k (.blk b bt ((tx.take (min tx.length dl) ++ xs.drop (min tx.length dl)).map vb))) :=
  ef_of fun a ha w hw => by
    have hb := (hw.own _ (List.mem_of_getElem? hk)).1
    have hr := run_copy_str (sT := sT) ht hte (w := w) (off := 0) (dl := dl) (dc := dc) tx hb.2 (by simp; omega) ty
    have he : (List.take 0 (xs.map vb) ++ List.map vb (List.take (min tx.length dl) tx) ++ List.drop (0 + min tx.length dl) (xs.map vb)) = (tx.take (min tx.length dl) ++ xs.drop (min tx.length dl)).map vb := by
      simp
    have hS := hw.store (off := 0) (c := (tx.take (min tx.length dl)).map vb) hk (by simp; omega)
    rw [show ((tx.take (min tx.length dl)).map vb).length = min tx.length dl by simp] at hS
    rw [he] at hr hS
    generalize w.setRow b _ = w2 at hr hS
    refine ⟨_, zs, _, _, .inl ?_, ⟨rfl, rfl, rfl⟩, hS⟩
    simp only [execOp, resolve]
    simp [invoke, builtin, ha.eval h1, ha.eval h2, hr]
end
end Go.Fw
namespace Go.Fw
section
variable {P : Program} {n : Nat} {w0 : World} {zs : List PH} {hs : List Res} {L : List (Nat × Value)}
/-- Two ways meet. -/
theorem wp_cutx {cx cy : Code} {Q : Exit → Act → World → Prop} {a : Act} {w : World} {γ : Type} (Lm : γ → List (Nat × Value)) (Lk : List (Nat × Value)) (hsf : γ → List Res) (fact : γ → Prop) (hk : Fr n Lk a) (hS : St w0 zs hs w)
    (hx : cx.wp P (Exit.then (fun a w => ∃ g, fact g ∧ Fr n (Lm g ++ Lk) a ∧ St w0 zs (hsf g) w) Q) a w)
    (hy : ∀ g a w, fact g → Fr n (Lm g ++ Lk) a → St w0 zs (hsf g) w → cy.wp P Q a w) : (Code.seq cx cy).wp P Q a w :=
  wp_cut _ hx fun _ _ ⟨g, h1, h2, h3⟩ => hy g _ _ h1 h2 h3
end
end Go.Fw
