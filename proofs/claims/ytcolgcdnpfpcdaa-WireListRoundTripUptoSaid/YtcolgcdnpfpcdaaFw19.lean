/- A text of a proof over this seat: walks over the program's functions and the plain laws that they need. -/
import Derived.Test.YtcolgcdnpfpcdaaFw18
set_option linter.all false
namespace Go.Fw
section
variable {P : Program} {n : Nat} {w0 : World} {zs : List PH} {hs : List Res} {L : List (Nat × Value)} {d : Option Tmp} {ty t t' : TypeId} {pos : String} {af : Array Edge} {g : Option (Nat × Bool)}
variable {x y c o1 o2 o3 : Operand} {u v : Value}

/-- A part of what a call hands back. -/
theorem q_extract {k : Nat} {vs : List Value} (h1 : opv L x = some (.tuple vs.toArray)) (hk : vs[k]? = some v) : Qt P n w0 zs hs L ⟨d, .extract x k, ty, pos, af, g⟩ v :=
  qt_of fun a ha w hw => by
    simp only [execOp, ha.eval h1]
    simp [Instr.extract, hk]
theorem q_nilcheck (h1 : opv L x = some v) (hp : v ≠ .pointer none) : Qt P n w0 zs hs L ⟨d, .move x, ty, pos, af, g⟩ v := q_move h1

/-! ### a callee that writes what the caller owns -/
/-- 'own': what the callee is lent; it hands back what it made of it, and all that it made besides. -/
def Cx (P : Program) (f : FuncId) (args : List Value) (w0 : World) (zsr : List PH) (own : List Res) (R : Value → List PH → List Res → Prop) : Prop :=
  ∀ (hsr : List Res) (w : World), St w0 zsr (own ++ hsr) w → Calls P f args.toArray w fun e w' => ∃ v zs1 hs1, e = .returned v ∧ St w0 (zs1 ++ zsr) (hs1 ++ hsr) w' ∧ R v zs1 hs1
theorem fn_enterx {f : FuncId} {fn : Func} {cd : Code} (hf : P.funcs[f]? = some fn) (hb : fn.body = some cd) {k : Nat} (hk : fn.ntmps = k) {args : List Value} (hn : args.length ≤ k) {w0 : World} {zsr : List PH} {own : List Res} {R : Value → List PH → List Res → Prop}
    (h : ∀ (hsr : List Res) a w, Fr k (enterL 0 args) a → St w0 zsr (own ++ hsr) w → cd.wp P (bodyPost P fn fun e w' => ∃ v zs1 hs1, e = .returned v ∧ St w0 (zs1 ++ zsr) (hs1 ++ hsr) w' ∧ R v zs1 hs1) a w) : Cx P f args w0 zsr own R := by
  subst hk
  intro hsr w hS
  exact calls_of_wp hf hb (h hsr _ w (Fr.enter _ _ hn) hS)
theorem fn_retx {fn : Func} {w : World} {a : Act} {R : Value → List PH → List Res → Prop} {rs : List ResultVar} {zsr : List PH} {hsr : List Res} (hrs : fn.results = rs.toArray) (hF : Fr n L a) (hS : St w0 zs hs w) {vs : List Value} (hv : ResVs P L hs rs vs) (zs1 : List PH) (hs1 : List Res) (h1 : (zs1 ++ zsr).Sublist zs) (h2 : (hs1 ++ hsr).Sublist hs) (hR : R (resVal vs) zs1 hs1) :
    bodyPost P fn (fun e w' => ∃ v zs1 hs1, e = .returned v ∧ St w0 (zs1 ++ zsr) (hs1 ++ hsr) w' ∧ R v zs1 hs1) .ret a w :=
  ⟨hF.nodef, _, run_results hrs hF hS hv, _, _, _, rfl, hS.keep h1 h2, hR⟩
theorem ef_callx {f : FuncId} (hf : FnOk P f) {os : List Operand} {vs : List Value} {ats : Array TypeId} {R : Value → List PH → List Res → Prop} {own rest : List Res} (h1 : opvs L os = some vs) (hp : (own ++ rest).Perm hs) (hc : Cx P f vs w0 zs own R) :
    Ef P n w0 zs hs L ⟨d, .call ⟨.value (.func f), os.toArray, ats⟩, ty, pos, af, g⟩ (fun v zs' hs' => ∃ z1 h1, zs' = z1 ++ zs ∧ hs' = h1 ++ rest ∧ R v z1 h1) := by
  intro a ha w hw next Q hn
  unfold Oper.wp
  rw [run_call hf ha h1]
  exact Calls.mono (hc rest w (hw.perm hp)) fun e w' ⟨v', zs', hs', he, hS, hr⟩ => by
    subst he
    exact hn v' _ _ w' ⟨zs', hs', rfl, rfl, hr⟩ hS
theorem ef_callvx {f : FuncId} (hf : FnOk P f) {fs cs : List Value} (h0 : opv L x = some (.func (.func f) fs.toArray cs.toArray)) {os : List Operand} {vs : List Value} {ats : Array TypeId} {R : Value → List PH → List Res → Prop} {own rest : List Res} (h1 : opvs L os = some vs) (hp : (own ++ rest).Perm hs) (hc : Cx P f (fs ++ vs ++ cs) w0 zs own R) :
    Ef P n w0 zs hs L ⟨d, .call ⟨.value x, os.toArray, ats⟩, ty, pos, af, g⟩ (fun v zs' hs' => ∃ z1 h1, zs' = z1 ++ zs ∧ hs' = h1 ++ rest ∧ R v z1 h1) := by
  intro a ha w hw next Q hn
  unfold Oper.wp
  rw [run_callv hf h0 ha h1]
  exact Calls.mono (hc rest w (hw.perm hp)) fun e w' ⟨v', zs', hs', he, hS, hr⟩ => by
    subst he
    exact hn v' _ _ w' ⟨zs', hs', rfl, rfl, hr⟩ hS
/-- What needs nothing of the caller's serves, too. -/
theorem Ct.cx {f : FuncId} {args : List Value} {zsr : List PH} {R : Value → List PH → List Res → Prop} (h : ∀ w, St w0 zsr [] w → Ct P f args w R) : Cx P f args w0 zsr [] R := by
  intro hsr w hS
  refine Calls.mono (h w (hS.keep (List.Sublist.refl _) (List.nil_sublist _))) fun e w' ⟨v, zs, hs, he, hS', hr⟩ => ⟨v, zs, hs, he, hS.call hS', hr⟩

/-! ### s[lo:hi:max], and append behind it -/
/-- The whole of a slice, without room behind it. -/
def fullV (v : Value) : Value :=
  match v with
  | .slice a m _ => .slice (if m = 0 then a else a.map (·.add 0)) m m
  | _ => undef
theorem q_slsl_full {α : Type} {E : Enc α} {z : PH} {xs : List α} {e : TypeId} {s by_ : Nat} {zv : Value} (ht : Tf P t (.slice e) s by_ zv) {de : TypeDesc} {be : Nat} {ze : Value} (hte : Tf P e de E.size be ze) {k k' : IntKind} {i j : Int} (hS : Sl E z v xs) (h1 : opv L x = some v) (h2 : opv L y = some (.int k i)) (h3 : opv L c = some (.int k' j)) (hi : i = xs.length) (hj : j = xs.length) :
    Qt P n w0 zs hs L ⟨d, .slice t x none (some y) (some c), ty, pos, af, g⟩ (fullV v) :=
  qt_of fun a ha w hw => by
    obtain ⟨_, ad, cc, rfl, hcc, _⟩ := hS
    subst hi hj
    simp only [execOp, ha.eval h1, Option.map_some, ha.eval h2, ha.eval h3, Option.map_none]
    have e1 : (Instr.sliceBound (.int k' (xs.length : Int)) cc .slice3Acap).run P w = .ok xs.length w := by
      have := run_sliceBound (P := P) (w := w) k' (xs.length : Int) cc .slice3Acap (by omega) (by omega)
      simpa using this
    have e2 : (Instr.sliceBound (.int k (xs.length : Int)) xs.length .slice3B).run P w = .ok xs.length w := by
      have := run_sliceBound (P := P) (w := w) k (xs.length : Int) xs.length .slice3B (by omega) (by omega)
      simpa using this
    simp [Instr.sliceAt, Instr.slice, run_underlying ht.und, Instr.sliceBounds, hte.sizeOf, e1, e2, fullV]
theorem Sl.full {α : Type} {E : Enc α} {z : PH} {xs : List α} (h : Sl E z v xs) : Sl E z (fullV v) xs := by
  obtain ⟨hb, a, c, rfl, hc, h⟩ := h
  refine ⟨hb, _, xs.length, rfl, Nat.le_refl _, fun i xx hx => ?_⟩
  have hi := (List.getElem?_eq_some_iff.1 hx).1
  obtain ⟨b, off, cs, ty, fz, cx, rfl, h2, h3, h4⟩ := h i xx hx
  refine ⟨b, off, cs, ty, fz, cx, ?_, h2, h3, h4⟩
  rw [if_neg (by omega)]
  rfl
theorem Sl.append_new {α : Type} {f : α → Value} {p : α → Prop} {h0 : ∀ x, (f x).oneCell' = true} {b : Nat} {e : TypeId} {fz : Nat × Nat} {xs : List α} {rest : List Value} {cap : Nat} (hp : ∀ x ∈ xs, p x) (hb : xs.length ≤ 140737488355328) (hc : xs.length ≤ cap) :
    Sl (encV f p h0) (ph1 b (.cells (xs.map f ++ rest).toArray e fz)) (.slice (some ⟨b, 0, none⟩) xs.length cap) xs := by
  refine ⟨hb, _, cap, rfl, hc, fun i xx hx => ⟨b, 0, _, e, fz, [f xx], rfl, by unfold ph1; rw [if_pos rfl], ⟨rfl, hp xx (List.mem_of_getElem? hx)⟩, fun j uu hu => ?_⟩⟩
  have hi := (List.getElem?_eq_some_iff.1 hx).1
  cases j with
  | zero =>
    simp only [List.getElem?_cons_zero, Option.some.injEq] at hu
    subst hu
    show (xs.map f ++ rest).toArray[0 + i * 1 + 0]? = _
    simp only [Nat.zero_add, Nat.mul_one, Nat.add_zero, List.getElem?_toArray]
    rw [List.getElem?_append_left (by simpa using hi)]
    simp [hx]
  | succ j => simp at hu
/-- append(s[:len(s):len(s)], t...) -/
theorem ef_append_full {α : Type} {f : α → Value} {p : α → Prop} {h0 : ∀ x, (f x).oneCell' = true} {z : PH} {e tx : TypeId} {de : TypeDesc} {by_ st bt : Nat} {zv zt : Value} (ht : Tf P t (.slice e) st bt zt) (hte : Tf P e de 1 by_ zv) {xs ys : List α} (hS : Sl (encV f p h0) z u xs) (hz : z ∈ zs)
    (h1 : opv L x = some (fullV u)) (h2 : opv L y = some v) (hsrc : SrcOk P w0 zs hs 1 tx v ys.length (ys.map f)) (hpx : ∀ x ∈ xs, p x) (hpy : ∀ x ∈ ys, p x) (hb : (xs.length + ys.length) * by_ ≤ 140737488355328) (hl : xs.length + ys.length ≤ 140737488355328) (hzc : zv.cells.size = 1) :
    Ef P n w0 zs hs L ⟨d, .call ⟨.builtin .append, #[x, y], #[t, tx]⟩, ty, pos, af, g⟩ (fun v' zs' hs' => ∃ z', zs' = z' :: zs ∧ hs' = hs ∧ Sl (encV f p h0) z' v' (xs ++ ys)) :=
  ef_of fun a ha w hw => by
    have hsrc := hsrc w hw
    have hfull := hS.full
    obtain ⟨hb0, a0, c0, rfl, hc0, hcell⟩ := hS
    obtain ⟨i, hi, hsz, rfl, hz0⟩ := hte.info
    simp only [fullV] at h1 hfull
    generalize ha1 : (if xs.length = 0 then a0 else a0.map fun x => x.add 0) = a1 at h1 hfull
    by_cases hy : ys = []
    · subst hy
      refine ⟨.slice a1 xs.length xs.length, z :: zs, hs, w, .inl ?_, ⟨z, rfl, rfl, by simpa using hfull⟩, ⟨hw.ext, fun z' hz' => ?_, fun r hr => ⟨(hw.own r hr).1, fun b hb z' hz' => ?_⟩, hw.nd, hw.io⟩⟩
      · have hcs := hsrc.cells
        have hln := hsrc.len
        simp only [List.length_nil, List.map_nil] at hcs hln
        simp only [execOp, resolve]
        simp only [invoke, builtin, Sem.run_bind, Sem.run_pure, Result.andThen_ok, List.map_toArray, List.map_cons, List.map_nil, ha.eval h1, ha.eval h2]
        have hr : (Builtin.append_ #[t, tx] ty #[.slice a1 xs.length xs.length, v]).run P w = .ok (.slice a1 xs.length xs.length) w := by
          rcases hsrc.kind with ⟨e', hk⟩ | hk <;> cases a1 <;> simp [Builtin.append_, run_underlying ht.und, run_underlying hk, Go.sizeOf, typeInfo, hi, hsz, hln, hcs, storeCells]
        rw [hr]
        rfl
      · rcases List.mem_cons.1 hz' with rfl | hz'
        · exact hw.zone _ hz
        · exact hw.zone _ hz'
      · rcases List.mem_cons.1 hz' with rfl | hz'
        · exact (hw.own r hr).2 b hb _ hz
        · exact (hw.own r hr).2 b hb _ hz'
    · have hy0 : 0 < ys.length := List.length_pos_iff.2 hy
      have hold : (Builtin.firstCells i.size xs.length (.slice a1 xs.length xs.length)).run P w.drew = .ok (xs.map f).toArray w.drew := by
        obtain ⟨_, a2, c2, he, _, hcell⟩ := hfull
        obtain ⟨rfl, -, -⟩ := Value.slice.inj he
        cases a1 with
        | none =>
          have : xs = [] := by
            cases xs with
            | nil => rfl
            | cons x0 xs => obtain ⟨b, off, _, _, _, _, h, _⟩ := hcell 0 x0 rfl; cases h
          subst this
          exact run_firstCells_none w.drew _ _ _ _
        | some ad =>
          refine run_firstCells_some (P := P) w.drew i.size xs.length ad xs.length xs.length (xs.map f) (by rw [hsz]; simp) fun j vv hj => ?_
          rw [List.getElem?_map, Option.map_eq_some_iff] at hj
          obtain ⟨xx, hx, rfl⟩ := hj
          obtain ⟨b, off, cs, ty', fz, cx, h3, h4, h5, h6⟩ := hcell j xx hx
          simp only [Option.some.injEq] at h3
          subst h3
          have h7 := (hw.zone z hz).1 _ _ h4
          rw [add_at, cell_of_row w.drew b _ cs ty' fz h7]
          have h8 := h6 0 (f xx) (by rw [h5.1]; rfl)
          simpa [encV] using h8
      have hr := run_append_grow_src (P := P) w t tx ty e i zv ht.und hi hz0 a1 xs.length xs.length (xs.map f) hold v ys.length (ys.map f) (by rw [hsz]; exact hsrc) (by omega) (by omega) (growslice_fits (by omega) hb)
      have hge := grownCap_ge w (xs.length + ys.length) xs.length e
      generalize grownCap w (xs.length + ys.length) xs.length e = cap at hr hge
      rw [← List.map_append] at hr
      have hco : ((xs ++ ys).map f).toArray ++ Builtin.zeroCells zv.cells (cap - (xs.length + ys.length)) = ((xs ++ ys).map f ++ (Builtin.zeroCells zv.cells (cap - (xs.length + ys.length))).toList).toArray := by
        apply Array.ext'; simp
      rw [hco] at hr
      generalize (Builtin.zeroCells zv.cells (cap - (xs.length + ys.length))).toList = rst at hr
      have hst := hw.frozen (w' := w.drew.alloc (.cells ((xs ++ ys).map f ++ rst).toArray e)) (.cells ((xs ++ ys).map f ++ rst).toArray e) (by simp) (fun b hb => heap_alloc_old w _ hb) (heap_alloc_new w _) ⟨rfl, rfl, rfl⟩
      have hsl := Sl.append_new (f := f) (p := p) (h0 := h0) (b := w.heap.size) (e := e) (fz := (0, 0)) (xs := xs ++ ys) (rest := rst) (cap := cap) (fun x hx => (List.mem_append.1 hx).elim (hpx x) (hpy x)) (by simpa using hl) (by simpa using hge)
      rw [List.length_append] at hsl
      refine ⟨_, _, hs, _, .inl ?_, ⟨_, rfl, rfl, hsl⟩, hst⟩
      simp only [execOp, resolve]
      simp only [invoke, builtin, Sem.run_bind, Sem.run_pure, Result.andThen_ok, List.map_toArray, List.map_cons, List.map_nil, ha.eval h1, ha.eval h2]
      rw [hr]
      rfl
end
end Go.Fw
