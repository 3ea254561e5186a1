/- A text of a proof over this seat: walks over the program's functions and the plain laws that they need. -/
import Derived.Test.YtefjpigmgmbghaaFwC
import Derived.RangeFuncLeaves
import Derived.RangeFuncRecord
import Derived.OrdersIn
import Derived.TacticsIn
import Derived.Test.YtefjpigmgmbghaaFwB
set_option linter.all false
section
namespace Go.Fw

/-! ### a range over a function: regions within a round -/
/-- The wide fence, in a round or not. -/
@[reducible] def Fe (ro : Option Nat) : Fence := { Fence.wide with round := ro }
def ndB (o : Oper) : Bool := match o.op with | .defer _ => false | _ => true
theorem ndB_spec {o : Oper} (h : ndB o = true) : ∀ c, o.op ≠ .defer c := by
  intro c hc
  unfold ndB at h
  rw [hc] at h
  cases h

section
variable {P : Program} {ops : Array Oper} {ro : Option Nat} {m : Nat}

theorem rows_in {row : String} {args : Array Value} {w : World} {R : Value → World → Prop} (h : Rows P row args w R) : RowsIn (Fe ro) m P row args w R :=
  fun c cs _ => let ⟨v, w', r, s⟩ := h c cs; ⟨v, w', r, (stepsIn_wide (P := P)).2 s⟩
theorem calls_in {f : FuncId} {args : Array Value} {w : World} {R : Ending → World → Prop} (h : Calls P f args w R) : CallsIn (Fe ro) m P f args w R :=
  (callsIn_wide (n := m)).2 h

theorem oper_in {o : Oper} {a : Act} {w : World} {next next' : Act → World → Prop} {Q1 Q : Exit → Act → World → Prop} (hd : ndB o = true) (hQ : ∀ e a w, Q1 e a w → e = .normal) (hn : ∀ a w, next a w → next' a w) (h : o.wp P a w next Q1) :
    o.wpIn (Fe ro) m P a w next' Q := by
  refine ⟨fun _ _ => trivial, ?_⟩
  rw [show (Fe ro).round = ro from rfl, Oper.semAt_eq ro _ o (ndB_spec hd)]
  unfold Oper.wp at h
  generalize (execOp a.eval o).run P w = r at h
  cases r with
  | ok nx w' =>
    cases nx <;> simp only [Oper.upon] at h <;> simp only [Oper.uponIn]
    case value v => exact hn _ _ h
    case skip => exact hn _ _ h
    case defer d => exact hn _ _ h
    case enter f args =>
      refine ⟨fun h' => (by cases h'), (calls_in h).mono fun e w'' he => ?_⟩
      cases e with
      | returned v => exact hn _ _ he
      | panicked c => cases hQ _ _ _ he
      | outgrown => obtain ⟨_, _, hq⟩ := he; cases hQ _ _ _ hq
    case row row args => exact ⟨fun h' => (by cases h'), (rows_in h).mono fun v w'' he => hn _ _ he⟩
  | halt x w' =>
    cases x <;> simp only [Oper.upon] at h <;> simp only [Oper.uponIn]
    case panic v => cases hQ _ _ _ h

theorem wpOps_in {Q1 Q : Exit → Act → World → Prop} (hd : ops.all ndB = true) (hQ : ∀ e a w, Q1 e a w → e = .normal ∧ Q .normal a w) : ∀ (l : List Nat) (a : Act) (w : World), wpOps P ops Q1 l a w → wpOpsIn (Fe ro) m P ops Q l a w
  | [], a, w, h => (hQ _ _ _ h).2
  | i :: l, a, w, h => by
    unfold wpOps at h
    unfold wpOpsIn
    cases ho : ops[i]? with
    | none => simp only [ho] at h ⊢; exact wpOps_in hd hQ l a w h
    | some o =>
      simp only [ho] at h ⊢
      have hdo : ndB o = true := by
        obtain ⟨hi, rfl⟩ := Array.getElem?_eq_some_iff.1 ho
        exact (Array.all_eq_true.1 hd) i hi
      by_cases hw : Region.wanted o (yielded ops a.tmps) = true
      · simp only [hw, if_true] at h ⊢
        rcases h with h | ⟨_, a', w', h⟩
        · exact oper_in hdo (fun e a w h => (hQ e a w h).1) (fun a w h => wpOps_in hd hQ l a w h) h
        · exact absurd (hQ _ _ _ h).1 (by simp)
      · simp only [hw, Bool.false_eq_true, if_false] at h ⊢
        exact ⟨fun _ _ => trivial, wpOps_in hd hQ l _ w h⟩

theorem wpList_in {Q1 Q : Exit → Act → World → Prop} {l2 : List Oper} (hQ : ∀ e a w, Q1 e a w → e = .normal ∧ wpListIn (Fe ro) m P ops Q l2 a w) : ∀ (l : List Oper) (a : Act) (w : World), l.all ndB = true → wpList P ops Q1 l a w → wpListIn (Fe ro) m P ops Q (l ++ l2) a w
  | [], a, w, _, h => (hQ _ _ _ h).2
  | o :: l, a, w, hd, h => by
    simp only [List.all_cons, Bool.and_eq_true] at hd
    unfold wpList at h
    rw [List.cons_append]
    unfold wpListIn
    by_cases hw : Region.wanted o (yielded ops a.tmps) = true
    · simp only [hw, if_true] at h ⊢
      rcases h with h | ⟨_, a', w', h⟩
      · exact oper_in hd.1 (fun e a w h => (hQ e a w h).1) (fun a w h => wpList_in hQ l a w hd.2 h) h
      · exact absurd (hQ _ _ _ h).1 (by simp)
    · simp only [hw, Bool.false_eq_true, if_false] at h ⊢
      exact ⟨fun _ _ => trivial, wpList_in hQ l _ w hd.2 h⟩

theorem region_in {id : Nat} {Q : Exit → Act → World → Prop} {a : Act} {w : World} (hm : P.follows .mixedOrders = true) (hd : ops.all ndB = true)
    (h : wpAny P .any ops (QJ (Q .normal)) ops.size (Array.replicate ops.size false) a { w with drawn := w.drawn + 1 }) : (Code.region id ops true).wpIn (Fe ro) m P Q a w :=
  wpIn_region_draw fun t => by
    simp only [Region.schedule, hm, Bool.true_or, if_true]
    exact wpOps_in (Q1 := QJ (Q .normal)) hd (fun e a w h => h) _ _ _ (wpAny_sound ops.size t _ a _ h)
end

section
variable {P : Program} {n : Nat} {w0 : World} {zs : List PH} {hs : List Res} {L L' : List (Nat × Value)} {l : List Oper} {k : Nat} {ro : Option Nat} {m : Nat}
theorem regR [Dfs] {id : Nat} {Q : Exit → Act → World → Prop} {a : Act} {w : World} (hd : l.all ndB = true) (hF : Fr n L a) (hS : St w0 zs hs w)
    (s : Sq P n w0 zs hs l.toArray k L l L' []) (K : ∀ a w, Fr n L' a → St w0 zs hs w → Q .normal a w) : (Code.region id l.toArray false).wpIn (Fe ro) m P Q a w := by
  refine wpIn_region_lit ?_
  have := wpList_in (ro := ro) (m := m) (Q := Q) (l2 := []) (Q1 := QJ (Q .normal)) (fun e a w h => h) l a w hd (wpl_sq hF hS s fun a w hF hS => wpList_nil ⟨rfl, K a w hF hS⟩)
  simpa using this
theorem reglR {id : Nat} {Q : Exit → Act → World → Prop} {a : Act} {w : World} (hd : l.all ndB = true) (h : wpList P l.toArray (QJ (Q .normal)) l a w) : (Code.region id l.toArray false).wpIn (Fe ro) m P Q a w := by
  refine wpIn_region_lit ?_
  have := wpList_in (ro := ro) (m := m) (Q := Q) (l2 := []) (Q1 := QJ (Q .normal)) (fun e a w h => h) l a w hd h
  simpa using this
theorem listR {ops : Array Oper} {J : Act → World → Prop} {a : Act} {w : World} (h : J a w) : wpList P ops (QJ J) [] a w := ⟨rfl, h⟩
theorem regqR {id : Nat} {Q : Exit → Act → World → Prop} {a : Act} {w : World} (hd : l.all ndB = true) (hm : P.follows .mixedOrders = true) (hB : Region.lexB .any l.toArray = true) (hS : St w0 zs hs w)
    (h : wpQuiet P l.toArray (St w0 zs hs) (fun a => ∀ w, St w0 zs hs w → Q .normal a w) l a) : (Code.region id l.toArray true).wpIn (Fe ro) m P Q a w := by
  simp only [Region.lexB, Bool.and_eq_true] at hB
  refine region_in hm (by simpa using hd) (wpAny_of_quiet (Q := fun a' => ∀ w', St w0 zs hs w' → Q .normal a' w') (fun _ w' hw' h => ⟨rfl, h w' hw'⟩) _ _ _ _ (hS.drew _) ?_)
  have := wpAnyQ_lex (C := St w0 zs hs) (md := .any) hB.1 l 0 (Array.replicate l.toArray.size false) a (by simp) (by simpa using hB.2) h
  simpa using this
theorem regdR [Dfs] {id : Nat} {Q : Exit → Act → World → Prop} {a : Act} {w : World} (hd : l.all ndB = true) (hm : P.follows .mixedOrders = true) (hB : Region.lexB .any l.toArray = true) (hF : Fr n L a) (hS : St w0 zs hs w)
    (s : Sq P n w0 zs hs l.toArray k L l L' []) (K : ∀ a w, Fr n L' a → St w0 zs hs w → Q .normal a w) : (Code.region id l.toArray true).wpIn (Fe ro) m P Q a w :=
  regqR hd hm hB hS (wpq_sq (by exact hF) s fun a hF w hS => K a w hF hS)
theorem regtR [Dfs] {id : Nat} {Q : Exit → Act → World → Prop} {a : Act} {w : World} (nn : Nat) (hd : l.all ndB = true) (hm : P.follows .mixedOrders = true) (hB : Region.lexTailB .any l.toArray nn = true) (hF : Fr n L a) (hS : St w0 zs hs w)
    (s : Sq P n w0 zs hs l.toArray k L (l.take nn) L' []) (K : ∀ a w, Fr n L' a → St w0 zs hs w → wpList P l.toArray (QJ (Q .normal)) (l.drop nn) a w) : (Code.region id l.toArray true).wpIn (Fe ro) m P Q a w := by
  simp only [Region.lexTailB, Bool.and_eq_true, decide_eq_true_eq] at hB
  obtain ⟨⟨⟨⟨hsel, hn⟩, hs1⟩, hc⟩, hlex⟩ := hB
  have hn' : nn < l.length := by simpa using hn
  have htl : (l.take nn).length = nn := by simp; omega
  have hdl : (l.drop nn).length = l.toArray.size - nn := by simp
  have inv0 : HeadInv .any l.toArray nn (Array.replicate l.toArray.size false) :=
    ⟨by simp, fun j oj _ hl => (by rw [getD_replicate_false] at hl; cases hl), fun t _ ht => getD_in (by simpa using ht) (getD_replicate_false _ _)⟩
  have h : wpQuiet P l.toArray (St w0 zs hs) (fun a' => ∀ w', St w0 zs hs w' → wpList P l.toArray (QJ (Q .normal)) (l.drop nn) a' w') (l.take nn) a := wpq_sq (by exact hF) s fun a hF w hS => K a w hF hS
  have H := headQ_lex (C := St w0 zs hs) (md := .any) (k := l.toArray.size - nn) hsel hs1 hc hn (l.take nn) 0 _ a (fun j hj => by
    have hj' : j < nn := by rw [htl] at hj; exact hj
    simp [hj']) (by simpa using htl) inv0 (by rw [htl]; exact hlex) h
  refine region_in hm (by simpa using hd) ?_
  have := any_of_headQ (C := St w0 zs hs) (Q := QJ (Q .normal)) (k := l.toArray.size - nn) (fun ls a' w' hw' hT => by
    have := wpAny_of_seq (md := .any) (Q' := QJ (Q .normal)) (l.drop nn) nn ls a' w' (fun j => by simp [List.getElem?_drop]) (by rw [hdl]; exact hT.1) (hT.2 w' hw')
    rwa [hdl] at this) _ _ _ { w with drawn := w.drawn + 1 } (hS.drew _) H
  rw [htl, show nn + (l.toArray.size - nn) = l.toArray.size by omega] at this
  exact this
theorem wp_ifR [Dfs] {F : Fence} {c : Operand} {cx cy : Code} {Q : Exit → Act → World → Prop} {a : Act} {w : World} {b : Bool} (hF : Fr n L a) (h : opv L c = some (.bool b)) (ht : b = true → cx.wpIn F m P Q a w) (hf : b = false → cy.wpIn F m P Q a w) : (Code.cond c cx cy).wpIn F m P Q a w :=
  wpIn_cond_split (hF.eval h) ht hf
end
end Go.Fw
end

section
namespace Go.Fw

/-! ### a range over a function: the statement -/
theorem putObj_io (w : World) (b : Nat) (o : Obj) : Io w (w.putObj b o) := ⟨rfl, rfl, rfl⟩
theorem St.swap {w0 w : World} {zs : List PH} {hs : List Res} {b : Nat} {o : Obj} (h : St w0 (ph1 b o :: zs) hs w) (hz : ∀ z ∈ zs, z b = none) (o' : Obj) : St w0 (ph1 b o' :: zs) hs (w.putObj b o') := by
  have hz0 := h.zone _ List.mem_cons_self
  have hb : w.heap[b]? = some o := hz0.1 b o (by unfold ph1; rw [if_pos rfl])
  have hge : w0.heap.size ≤ b := hz0.2 b o (by unfold ph1; rw [if_pos rfl])
  have hlt : b < w.heap.size := (Array.getElem?_eq_some_iff.1 hb).1
  have hown : ∀ r ∈ hs, r.id ≠ some b := fun r hr e => by
    have := (h.own r hr).2 b e _ List.mem_cons_self
    unfold ph1 at this
    rw [if_pos rfl] at this
    cases this
  refine ⟨fun k ob hk => ?_, fun z hz' => ?_, fun r hr => ⟨Res.ok_of (h.own r hr).1 fun k hk => World.putObj_heap_other (fun e => hown r hr (by rw [hk, e])), fun k hk z hz' => ?_⟩, h.nd, h.io.trans (putObj_io _ _ _)⟩
  · have h1 := h.ext k ob hk
    have hkb : k ≠ b := by have := ph_some hk; omega
    simp only [ph] at h1 ⊢
    rw [World.putObj_heap_other hkb]; exact h1
  · rcases List.mem_cons.1 hz' with rfl | hz2
    · refine ⟨fun k ob hk => ?_, fun k ob hk => ?_⟩
      · obtain ⟨rfl, rfl⟩ := ph1_some hk; exact World.putObj_heap_same hlt
      · obtain ⟨rfl, rfl⟩ := ph1_some hk; exact hge
    · refine ⟨fun k ob hk => ?_, (h.zone z (List.mem_cons_of_mem _ hz2)).2⟩
      have h1 := (h.zone z (List.mem_cons_of_mem _ hz2)).1 k ob hk
      have hkb : k ≠ b := by
        intro e
        rw [e, hz z hz2] at hk
        cases hk
      simp only [ph] at h1 ⊢
      rw [World.putObj_heap_other hkb]; exact h1
  · rcases List.mem_cons.1 hz' with rfl | hz2
    · have := hown r hr
      unfold ph1
      rw [if_neg (fun e => this (by rw [hk, e]))]
    · exact (h.own r hr).2 k hk z (List.mem_cons_of_mem _ hz2)
theorem St.shut {w0 w : World} {zs : List PH} {hs : List Res} {b : Nat} {o o' : Obj} (h : St w0 zs hs w) (hz : ph1 b o ∈ zs) : w.heap[b]? = some o ∧ St w0 [] hs (w.putObj b o') := by
  have h1 : St w0 (ph1 b o :: []) hs w := by
    refine ⟨h.ext, fun z hz' => ?_, fun r hr => ⟨(h.own r hr).1, fun k hk z hz' => ?_⟩, h.nd, h.io⟩
    · rw [List.mem_singleton] at hz'; subst hz'; exact h.zone _ hz
    · rw [List.mem_singleton] at hz'; subst hz'; exact (h.own r hr).2 k hk _ hz
  exact ⟨(h1.zone _ List.mem_cons_self).1 b o (by unfold ph1; rw [if_pos rfl]), (h1.swap (by simp) o').keep (List.nil_sublist _) (List.Sublist.refl _)⟩

/-- What a call of yield asks and gives. -/
def Yd (P : Program) (Y v : Value) (I J : World → Prop) : Prop :=
  ∀ w, I w → ∃ (l : Nat) (f : FuncId) (tmps : Array Value) (assign body : Code), Y = .func (.yield l) #[] #[] ∧ (Instr.yield l #[v]).run P w = .ok (.round l f tmps assign body) w ∧
    ∀ m, RoundIn (Fe none) m P l f tmps assign body w fun e w' => e = .returned (.bool true) ∧ J w'

section
variable {P : Program} {n : Nat} {w0 : World} {zs : List PH} {L : List (Nat × Value)}

theorem wp_rangeF {g : Operand} {p d : Tmp} {ia : Nat} {ta : TypeId} {pa : String} {aa : Array Edge} {body : Code} {Q : Exit → Act → World → Prop} {a : Act} {w : World} {gf : FuncId} {cs : List Value} (hsf : Res → List Res) (inv : Nat → Res → Prop) (N : Nat) (it : Nat → Value) (r0 : Res)
    (hF : Fr n L a) (hS : St w0 zs (hsf r0) w) (hg : opv L g = some (.func (.func gf) #[] cs.toArray)) (hp : Nat.blt p n = true) (hdn : Nat.blt d n = true) (hf : FnOk P gf) (h0 : inv 0 r0)
    (hit : ∀ (Y : Value) (zs1 : List PH), (∀ z ∈ zs, z ∈ zs1) → (∀ k r, k < N → inv k r → Yd P Y (it k) (St w0 zs1 (hsf r)) fun w' => ∃ r', inv (k + 1) r' ∧ St w0 zs1 (hsf r') w') →
      ∀ w, St w0 zs1 (hsf r0) w → Calls P gf (Y :: cs).toArray w fun e w' => (∃ v, e = .returned v) ∧ ∃ r, inv N r ∧ St w0 zs1 (hsf r) w')
    (hbody : ∀ (l m : Nat) (zB zD : PH) (k : Nat) (r : Res) (a : Act) (w : World), k < N → inv k r → Fr n ((d, it k) :: (p, it k) :: L) a → St w0 (zB :: zD :: zs) (hsf r) w →
      body.wpIn (Fe (some l)) m P (QJ fun _ w' => ∃ r', inv (k + 1) r' ∧ St w0 (zB :: zD :: zs) (hsf r') w') a w)
    (hK : ∀ (I : Dfs) (D : Nat) (zD : PH) (a : Act) (w : World) (r : Res), I.ds = [{ target := .collected D, args := #[] }] → zD = ph1 D (.deferred (some [])) → inv N r → Fr (I := I) n L a → St w0 (zD :: zs) (hsf r) w → Q .normal a w) :
    (Code.rangeFunc g #[p] (.region ia [⟨some d, .assign (.tmp p), ta, pa, aa, none⟩].toArray false) body).wp P Q a w := by
  refine wpIn_wide (n := 0).1 (wpIn_rangeFunc ?_)
  intro fn _
  obtain ⟨rec, hrec⟩ : ∃ rec : LoopState → Option Code → Loop, rec = fun st pe => { state := st, pending := pe, fn, tmps := a.tmps, params := #[p], assign := (.region ia [⟨some d, .assign (.tmp p), ta, pa, aa, none⟩].toArray false), body, defers := w.heap.size } := ⟨_, rfl⟩
  have hzn : ∀ b, w.heap.size ≤ b → ∀ z ∈ zs, z b = none := fun b hb z hz => by
    cases hzb : z b with
    | none => rfl
    | some o => exact absurd (ph_some ((hS.zone z hz).1 b o hzb)) (by omega)
  -- two blocks are laid
  have hS1 : St w0 (ph1 w.heap.size (.deferred (some [])) :: zs) (hsf r0) (w.alloc (.deferred (some []))) :=
    hS.frozen _ (by simp) (fun b hb => heap_alloc_old w _ hb) (heap_alloc_new w _) ⟨rfl, rfl, rfl⟩
  have hS2 : St w0 (ph1 (w.heap.size + 1) (.loop (rec .ready none)) :: ph1 w.heap.size (.deferred (some [])) :: zs) (hsf r0) ((w.alloc (.deferred (some []))).alloc (.loop (rec .ready none))) := by
    have := hS1.frozen (w' := (w.alloc (.deferred (some []))).alloc (.loop (rec .ready none))) (.loop (rec .ready none)) (by simp) (fun b hb => heap_alloc_old _ _ hb) (heap_alloc_new _ _) ⟨rfl, rfl, rfl⟩
    rwa [World.size_alloc] at this
  obtain ⟨zD, hzD⟩ : ∃ z, z = ph1 w.heap.size (.deferred (some [])) := ⟨_, rfl⟩
  have hzl : ∀ z ∈ zD :: zs, z (w.heap.size + 1) = none := by
    intro z hz
    rcases List.mem_cons.1 hz with rfl | hz
    · rw [hzD]; unfold ph1; rw [if_neg (by omega)]
    · exact hzn _ (by omega) z hz
  rw [← hzD] at hS2
  generalize hW1 : (w.alloc (.deferred (some []))).alloc (.loop (rec .ready none)) = W1 at hS2
  obtain ⟨fnr, hfn1, hfn2, hfn3⟩ := hf
  refine ⟨w.heap.size + 1, [{ target := .collected w.heap.size, args := #[] }], W1, { target := .fn (.func gf) cs.toArray, args := #[.func (.yield (w.heap.size + 1)) #[] #[]] }, W1, gf,
    (.func (.yield (w.heap.size + 1)) #[] #[] :: cs).toArray, W1, ?_, ?_, fun _ _ => trivial, ?_, fun h => (by cases h), ?_⟩
  · rw [← hW1, hrec]; exact run_enterLoop_outer _ _ _ _ _
  · have he := hF.eval hg
    simp only [resolve, rangeCall, he]
    simp [Deferred.ofValue, Act.eval]
  · simp only [invoke, Sem.run_bind, Sem.run_pure, Result.andThen_ok, callFunc, run_program, hfn1, hfn2, hfn3]
    simp
  · refine (calls_in (ro := none) (hit (.func (.yield (w.heap.size + 1)) #[] #[]) (ph1 (w.heap.size + 1) (.loop (rec .ready none)) :: zD :: zs) (fun z hz => List.mem_cons_of_mem _ (List.mem_cons_of_mem _ hz)) ?_ W1 hS2)).mono ?_
    · -- one round
      intro k r hk hi W hW
      have hl : W.heap[w.heap.size + 1]? = some (.loop (rec .ready none)) := (hW.zone _ List.mem_cons_self).1 _ _ (by unfold ph1; rw [if_pos rfl])
      have hy := run_yield (P := P) (args := #[it k]) hl (by rw [hrec]; simp)
      rw [hrec] at hy
      refine ⟨_, fn, _, _, body, rfl, hy, fun m => roundIn_of_wpIn (l := w.heap.size + 1) trivial ?_⟩
      have hF0 : Fr n ((p, it k) :: L) { tmps := (#[p].zip #[it k]).foldl (fun tmps (x : Tmp × Value) => tmps.setIfInBounds x.1 x.2) a.tmps, defers := [] } := by
        have h1 := hF.put (d := p) (v := it k) (Nat.blt_eq.mp hp)
        refine ⟨?_, rfl, fun t v hv => ?_⟩
        · have := h1.size; simpa [Act.put] using this
        · have := h1.get t v hv; simpa [Act.put] using this
      refine regR (ro := some (w.heap.size + 1)) rfl hF0 hW (sq hdn (q_assign (v := it k) (by show look _ p = _; unfold look; rw [Nat.beq_refl]; rfl)) <| sq_end) fun a1 w1 hF1 hS1 => ?_
      have hl1 : w1.heap[w.heap.size + 1]? = some (.loop (rec .ready none)) := (hS1.zone _ List.mem_cons_self).1 _ _ (by unfold ph1; rw [if_pos rfl])
      refine ⟨_, run_beginRound hl1 (by rw [hrec]), ?_⟩
      have hS2 := hS1.swap hzl (.loop { rec .ready none with state := .busy })
      refine wpIn_mono (hbody _ m _ zD k r a1 _ hk hi hF1 hS2) fun e a3 w3 hq => ?_
      obtain ⟨rfl, r', hi', hS4⟩ := hq
      have hl4 : w3.heap[w.heap.size + 1]? = some (.loop { rec .ready none with state := .busy }) := (hS4.zone _ List.mem_cons_self).1 _ _ (by unfold ph1; rw [if_pos rfl])
      have hend := run_endRound (P := P) none hl4
      refine ⟨_, _, hend, rfl, r', hi', ?_⟩
      have := hS4.swap hzl (.loop (rec .ready none))
      rw [hrec] at this ⊢
      exact this
    · rintro e W2 ⟨⟨v, rfl⟩, r, hi, hS3⟩
      have hl : W2.heap[w.heap.size + 1]? = some (.loop (rec .ready none)) := (hS3.zone _ List.mem_cons_self).1 _ _ (by unfold ph1; rw [if_pos rfl])
      refine ⟨none, _, (by have := run_endLoop (P := P) hl (by rw [hrec]; simp); rw [hrec] at this; exact this), ?_⟩
      have hnd : a.defers = [] := hF.nodef
      refine hK ⟨[{ target := .collected w.heap.size, args := #[] }]⟩ w.heap.size zD _ _ r rfl hzD hi (@Fr.mk ⟨[{ target := .collected w.heap.size, args := #[] }]⟩ n L _ hF.size (by rw [hnd]; rfl) hF.get) (((hS3.swap hzl _)).keep (List.sublist_cons_self _ _) (List.Sublist.refl _))

/-! ### the function that holds it -/
theorem fn_enterM {f : FuncId} {fn : Func} {cd : Code} (hf : P.funcs[f]? = some fn) (hb : fn.body = some cd) {k : Nat} (hk : fn.ntmps = k) {args : List Value} (hn : args.length ≤ k) {w : World} {R : Value → List PH → List Res → Prop}
    (h : ∀ a, Fr k (enterL 0 args) a → St w [] [] w → cd.wp P (bodyPostM (Fe none) 0 P fn fun e w' => ∃ v zs hs, e = .returned v ∧ St w zs hs w' ∧ R v zs hs) a w) : Ct P f args w R := by
  subst hk
  exact (callsIn_wide (n := 0)).1 (callsIn_of_wp_marks hf hb trivial ((wpIn_wide (n := 0)).2 (h _ (Fr.enter _ _ hn) (St.start w))))
theorem fn_retM {fn : Func} {w : World} {hs : List Res} {a : Act} {R : Value → List PH → List Res → Prop} {rs : List ResultVar} (hrs : fn.results = rs.toArray) (hF : Fr n L a) (hS : St w0 zs hs w) {vs : List Value} (hv : ResVs P L hs rs vs) {zs' hs'} (h1 : zs'.Sublist zs) (h2 : hs'.Sublist hs) (hR : R (resVal vs) zs' hs') :
    bodyPostM (Fe none) 0 P fn (fun e w' => ∃ v zs hs, e = .returned v ∧ St w0 zs hs w' ∧ R v zs hs) .ret a w := by
  have hnd : a.defers = [] := hF.nodef
  show LeavesInM (Fe none) 0 P fn a.tmps _ a.defers .returning w
  rw [hnd]
  exact ⟨_, run_results hrs hF hS hv, _, _, _, rfl, hS.keep h1 h2, hR⟩
theorem fn_retD [I : Dfs] {D : Nat} {zD : PH} {fn : Func} {w : World} {hs : List Res} {a : Act} {R : Value → List PH → List Res → Prop} {rs : List ResultVar} (hI : I.ds = [{ target := .collected D, args := #[] }]) (hD : zD = ph1 D (.deferred (some []))) (hz : zD ∈ zs) (hrs : fn.results = rs.toArray) (hF : Fr n L a) (hS : St w0 zs hs w) {vs : List Value} (hv : ResVs P L hs rs vs) {hs'} (h2 : hs'.Sublist hs) (hR : R (resVal vs) [] hs') :
    bodyPostM (Fe none) 0 P fn (fun e w' => ∃ v zs hs, e = .returned v ∧ St w0 zs hs w' ∧ R v zs hs) .ret a w := by
  have hnd : a.defers = [{ target := .collected D, args := #[] }] := hF.nodef.trans hI
  subst hD
  obtain ⟨hb, hS'⟩ := hS.shut (o' := .deferred none) hz
  show LeavesInM (Fe none) 0 P fn a.tmps _ a.defers .returning w
  rw [hnd]
  refine ⟨by simp, .inl ⟨D, _, rfl, run_takeDeferred hb, ?_⟩⟩
  exact ⟨_, run_results hrs hF hS' hv, _, _, _, rfl, hS'.keep (List.Sublist.refl _) h2, hR⟩

/-! ### the iterator's side: a call of yield -/
theorem regY {id : Nat} {Q : Exit → Act → World → Prop} {a : Act} {w : World} {l : List Oper} (m1 : Nat) (hd : l.all ndB = true)
    (h : wpList P l.toArray (QJ (wpListIn (Fe none) 0 P l.toArray Q (l.drop m1))) (l.take m1) a w) : (Code.region id l.toArray false).wp P Q a w := by
  refine wpIn_wide (n := 0).1 (wpIn_region_lit ?_)
  have := wpList_in (ro := none) (m := 0) (Q := Q) (l2 := l.drop m1) (fun e a w h => h) (l.take m1) a w (by rw [List.all_eq_true] at hd ⊢; exact fun x hx => hd x (List.mem_of_mem_take hx)) h
  rwa [List.take_append_drop] at this
theorem yseg [Dfs] {hs : List Res} {ops : Array Oper} {Q : Exit → Act → World → Prop} : ∀ {k : Nat} {L L' l l'} {a : Act} {w : World}, l.all ndB = true → Fr n L a → St w0 zs hs w → Sq P n w0 zs hs ops k L l L' l' →
    (∀ a w, Fr n L' a → St w0 zs hs w → wpListIn (Fe none) 0 P ops Q l' a w) → wpListIn (Fe none) 0 P ops Q l a w
  | 0, _, _, _, _, a, w, _, hF, hS, h, K => by obtain ⟨rfl, rfl⟩ := h; exact K a w hF hS
  | k + 1, _, _, _, _, a, w, hd, hF, hS, h, K => by
    obtain ⟨o, r, v, rfl, hdo, hq, hr⟩ := h
    simp only [List.all_cons, Bool.and_eq_true] at hd
    unfold wpListIn
    rcases hq a hF with ⟨hw, hq⟩ | ⟨hw, rfl⟩
    · simp only [hw, if_true]
      refine ⟨fun _ _ => trivial, ?_⟩
      rw [show (Fe none).round = none from rfl, Oper.semAt_none]
      have := hq w hS
      generalize (execOp a.eval o).run P w = res at this
      cases res with
      | halt x w' => simp only [Oper.quietUpon] at this
      | ok nx w' =>
        cases nx <;> simp only [Oper.quietUpon] at this <;> simp only [Oper.uponIn]
        case value u => obtain ⟨rfl, rfl⟩ := this; exact yseg hd.2 (hF.up hdo) hS hr K
        case skip => obtain ⟨rfl, rfl⟩ := this; exact yseg hd.2 (hF.up hdo) hS hr K
        case enter f args =>
          obtain ⟨rfl, hc⟩ := this
          exact ⟨fun h' => (by cases h'), (calls_in hc).mono fun e w'' ⟨he, hw''⟩ => by subst he; exact yseg hd.2 (hF.up hdo) hw'' hr K⟩
    · simp only [hw, Bool.false_eq_true, if_false]
      exact ⟨fun _ _ => trivial, yseg hd.2 (hF.up hdo) hS hr K⟩
theorem ycall [Dfs] {hs : List Res} {ops : Array Oper} {Q : Exit → Act → World → Prop} {d : Tmp} {ty : TypeId} {pos : String} {af : Array Edge} {gd : Option (Nat × Bool)} {x y : Operand} {ats : Array TypeId} {rest : List Oper} {Y v : Value} {J : World → Prop} {a : Act} {w : World}
    (hd : Nat.blt d n = true) (hw : Region.wanted ⟨some d, .call ⟨.value x, #[y], ats⟩, ty, pos, af, gd⟩ (yielded ops a.tmps) = true) (hF : Fr n L a) (hS : St w0 zs hs w) (h1 : opv L x = some Y) (h2 : opv L y = some v) (hY : Yd P Y v (St w0 zs hs) J)
    (K : ∀ a w, Fr n ((d, .bool true) :: L) a → J w → wpListIn (Fe none) 0 P ops Q rest a w) : wpListIn (Fe none) 0 P ops Q (⟨some d, .call ⟨.value x, #[y], ats⟩, ty, pos, af, gd⟩ :: rest) a w := by
  obtain ⟨l, f, tmps, assign, body, rfl, hy, hr⟩ := hY w hS
  unfold wpListIn
  simp only [hw, if_true]
  refine ⟨fun _ _ => trivial, ?_⟩
  rw [show (Fe none).round = none from rfl, Oper.semAt_none]
  have he : (execOp a.eval ⟨some d, .call ⟨.value x, #[y], ats⟩, ty, pos, af, gd⟩).run P w = .ok (.round l f tmps assign body) w := by
    simp only [execOp]
    simp only [resolve, hF.eval h1, Deferred.ofValue, invoke, Sem.run_bind, Sem.run_pure, Result.andThen_ok]
    simp [hF.eval h2, hy]
  rw [he]
  refine ⟨fun h' => (by cases h'), (hr _).mono fun e w' ⟨he, hj⟩ => ?_⟩
  subst he
  exact K _ _ (hF.put (Nat.blt_eq.mp hd)) hj

/-! ### an iterator: the rest of what is owned is told -/
def CxH (P : Program) (f : FuncId) (args : List Value) (w0 : World) (zsr : List PH) (own hsr : List Res) (R : Value → List PH → List Res → Prop) : Prop :=
  ∀ (w : World), St w0 zsr (own ++ hsr) w → Calls P f args.toArray w fun e w' => ∃ v zs1 hs1, e = .returned v ∧ St w0 (zs1 ++ zsr) (hs1 ++ hsr) w' ∧ R v zs1 hs1
theorem fn_enterh {f : FuncId} {fn : Func} {cd : Code} (hf : P.funcs[f]? = some fn) (hb : fn.body = some cd) {k : Nat} (hk : fn.ntmps = k) {args : List Value} (hn : args.length ≤ k) {w0 : World} {zsr : List PH} {own hsr : List Res} {R : Value → List PH → List Res → Prop}
    (h : ∀ a w, Fr k (enterL 0 args) a → St w0 zsr (own ++ hsr) w → cd.wp P (bodyPost P fn fun e w' => ∃ v zs1 hs1, e = .returned v ∧ St w0 (zs1 ++ zsr) (hs1 ++ hsr) w' ∧ R v zs1 hs1) a w) : CxH P f args w0 zsr own hsr R := by
  subst hk
  intro w hS
  exact calls_of_wp hf hb (h _ w (Fr.enter _ _ hn) hS)
theorem fn_fallx {fn : Func} {w : World} {hs : List Res} {a : Act} {R : Value → List PH → List Res → Prop} {zsr : List PH} {hsr : List Res} (hrs : fn.results = #[]) (hF : Fr n L a) (hS : St w0 zs hs w) (zs1 : List PH) (hs1 : List Res) (h1 : (zs1 ++ zsr).Sublist zs) (h2 : (hs1 ++ hsr).Sublist hs) (hR : R (.tuple #[]) zs1 hs1) :
    bodyPost P fn (fun e w' => ∃ v zs1 hs1, e = .returned v ∧ St w0 (zs1 ++ zsr) (hs1 ++ hsr) w' ∧ R v zs1 hs1) .normal a w :=
  ⟨hF.nodef, _, run_results (rs := []) (vs := []) hrs hF hS trivial, _, _, _, rfl, hS.keep h1 h2, hR⟩
end
end Go.Fw
namespace Go.Fw
section
variable {P : Program} {n : Nat} {w0 : World} {zs : List PH} {L : List (Nat × Value)} {m : Nat}
/-- What an iterator's contract makes of what it was lent, told in full. -/
theorem CxH.full {f : FuncId} {args : List Value} {zsr : List PH} {r1 r2 r0 : Res} {hsr : List Res} {J : Res → Prop} (h : CxH P f args w0 zsr [r1, r2, r0] hsr (fun _ zs1 hs1 => zs1 = [] ∧ ∃ r, hs1 = [r1, r2, r] ∧ J r)) (w : World) (hS : St w0 zsr (r1 :: r2 :: r0 :: hsr) w) :
    Calls P f args.toArray w fun e w' => (∃ v, e = .returned v) ∧ ∃ r, J r ∧ St w0 zsr (r1 :: r2 :: r :: hsr) w' :=
  Calls.mono (h w hS) fun e w' ⟨v, zs1, hs1, he, hS', h1, r, h2, h3⟩ => by
    subst h1 h2
    exact ⟨⟨v, he⟩, r, h3, hS'⟩
end
end Go.Fw
end

section
/-! maps: how many there are, and one taken out -/
namespace Go.Fw
open Go Go.Sem
def adel {α : Type} [DecidableEq α] (a : α) (l : List (α × Value)) : List (α × Value) := match fnd a l 0 with
  | some (i, _) => l.eraseIdx i
  | none => l
section
variable {P : Program} {n : Nat} {w0 : World} {zs : List PH} {hs : List Res} {L : List (Nat × Value)} {d : Option Tmp} {ty t t2 : TypeId} {pos : String} {af : Array Edge} {g : Option (Nat × Bool)} {x y o3 : Operand} {u v : Value}
variable {α : Type} [DecidableEq α] {kf : α → Value} {V : α → Prop} {kt e : TypeId}
theorem map_erase {β γ : Type} (f : β → γ) : ∀ (l : List β) (i : Nat), (l.map f).eraseIdx i = (l.eraseIdx i).map f
  | [], _ => rfl
  | _ :: _, 0 => rfl
  | x :: l, i + 1 => by
    simp only [List.map_cons, List.eraseIdx_cons_succ, map_erase f l i]
omit [DecidableEq α] in
theorem mpR_len {l : List (α × Value)} {es : List MapEntry} (h : MpR kf l es) : es.length = l.length := by
  have := congrArg List.length h
  simpa using this
omit [DecidableEq α] in
theorem q_lenM [Dfs] {s by_ : Nat} {zv : Value} (ht : Tf P t (.map kt e) s by_ zv) (k : Nat) {l : List (α × Value)} {es : List MapEntry} {c b : Nat} (h1 : opv L x = some (.map (some b))) (hk : hs[k]? = some (.mp b es c)) (hM : MpR kf l es) :
    Qt P n w0 zs hs L ⟨d, .call ⟨.builtin .len, #[x], #[t]⟩, ty, pos, af, g⟩ (vi l.length) :=
  qt_of fun a ha w hw => by
    have hb := (hw.own _ (List.mem_of_getElem? hk)).1.2
    have hg : (getObj b).run P w = .ok (.map es.toArray c) w := by simp [getObj, Sem.run, hb]
    simp only [execOp, resolve]
    simp only [invoke, builtin, Sem.run_bind, Sem.run_pure, Result.andThen_ok, List.map_toArray, List.map_cons, List.map_nil, ha.eval h1]
    have hr : (Builtin.len_ #[t] ty #[.map (some b)]).run P w = .ok (vi l.length) w := by
      unfold Builtin.len_
      simp [run_underlying ht.und, hg, mpR_len hM, goInt, vi]
    rw [hr]
    rfl
omit [DecidableEq α] in
theorem mpR_erase {l : List (α × Value)} {es : List MapEntry} (h : MpR kf l es) (i : Nat) : MpR kf (l.eraseIdx i) (es.eraseIdx i) := by
  unfold MpR at h ⊢
  rw [← map_erase, ← map_erase, h]
theorem ef_mapdel [Dfs] {s by_ : Nat} {zv : Value} (ht : Tf P t (.map kt e) s by_ zv) (hK : KeyOk P kt kf V) (k : Nat) {l : List (α × Value)} {es : List MapEntry} {c b : Nat} (h1 : opv L x = some (.map (some b))) {a : α} (h2 : opv L y = some (kf a)) (hk : hs[k]? = some (.mp b es c)) (hM : MpR kf l es) (hV : ∀ p ∈ l, V p.1) (ha : V a) :
    Ef P n w0 zs hs L ⟨d, .call ⟨.builtin .delete, #[x, y], #[t, t2]⟩, ty, pos, af, g⟩ (fun v' zs' hs' => ∃ es' c', MpR kf (adel a l) es' ∧ zs' = zs ∧ hs' = hs.set k (.mp b es' c')) :=
  ef_of fun ac hac w hw => by
    have hb := (hw.own _ (List.mem_of_getElem? hk)).1
    have hg : ∀ w : World, w.heap[b]? = some (.map es.toArray c) → (getObj b).run P w = .ok (.map es.toArray c) w := fun w hb => by simp [getObj, Sem.run, hb]
    have hlt : b < w.heap.size := (Array.getElem?_eq_some_iff.1 hb.2).1
    have hset : ∀ (es' : List MapEntry) (c' : Nat), (setObj b (.map es'.toArray c')).run P w = .ok () { w with heap := w.heap.setIfInBounds b (.map es'.toArray c') } := fun es' c' => by simp [setObj, Sem.run, hb.2]
    have hst : ∀ (es' : List MapEntry) (c' : Nat), St w0 zs (hs.set k (.mp b es' c')) { w with heap := w.heap.setIfInBounds b (.map es'.toArray c') } := fun es' c' =>
      hw.set hk rfl (fun j hj => by
        have hne : b ≠ j := fun e => hj (by rw [e]; rfl)
        show (w.heap.setIfInBounds b _)[j]? = _
        rw [Array.getElem?_setIfInBounds, if_neg hne]) ⟨hb.1, by
        show (w.heap.setIfInBounds b _)[b]? = _
        rw [Array.getElem?_setIfInBounds, if_pos rfl, if_pos hlt]⟩ (by simp) ⟨rfl, rfl, rfl⟩
    have hfk := hK.find a w l es hM hV ha
    have key : ∃ es', MpR kf (adel a l) es' ∧ (Builtin.delete_ #[t, t2] ty #[.map (some b), kf a]).run P w = .ok (.tuple #[]) { w with heap := w.heap.setIfInBounds b (.map es'.toArray c) } := by
      unfold adel
      cases hf : fnd a l 0 with
      | none =>
        refine ⟨es, hM, ?_⟩
        unfold Builtin.delete_
        simp only [List.getElem?_toArray, List.getElem?_cons_zero, List.getElem?_cons_succ, Sem.run_bind, run_underlying ht.und, Result.andThen_ok, hg w hb.2, hK.chk _ _ _ ha, hfk, hf]
        rw [hset]
        rfl
      | some p =>
        obtain ⟨i, v⟩ := p
        refine ⟨es.eraseIdx i, mpR_erase hM i, ?_⟩
        unfold Builtin.delete_
        simp only [List.getElem?_toArray, List.getElem?_cons_zero, List.getElem?_cons_succ, Sem.run_bind, run_underlying ht.und, Result.andThen_ok, hg w hb.2, hK.chk _ _ _ ha, hfk, hf]
        have e1 : es.toArray.eraseIdxIfInBounds i = (es.eraseIdx i).toArray := by
          rw [List.eraseIdxIfInBounds_toArray]
        rw [e1, hset]
        rfl
    obtain ⟨es', h5, h6⟩ := key
    refine ⟨.tuple #[], zs, _, _, .inl ?_, ⟨es', c, h5, rfl, rfl⟩, hst _ _⟩
    simp only [execOp, resolve]
    simp only [invoke, builtin, Sem.run_bind, Sem.run_pure, Result.andThen_ok, List.map_toArray, List.map_cons, List.map_nil, hac.eval h1, hac.eval h2]
    rw [h6]
    rfl
theorem q_lookupk2 [Dfs] {s by_ : Nat} {zv : Value} (ht : Tf P t (.map kt e) s by_ zv) {de : TypeDesc} {se be : Nat} {ze : Value} (hte : Tf P e de se be ze) (hK : KeyOk P kt kf V) (k : Nat) {l : List (α × Value)} {es : List MapEntry} {c b : Nat} (h1 : opv L x = some (.map (some b))) {a : α} (h2 : opv L y = some (kf a)) (hk : hs[k]? = some (.mp b es c)) (hM : MpR kf l es) (hV : ∀ p ∈ l, V p.1) (ha : V a) {ok : Bool} (hu : (aget l a).getD ze = u) (ho : (aget l a).isSome = ok) :
    Qt P n w0 zs hs L ⟨d, .lookup t x y true, ty, pos, af, g⟩ (.tuple [u, .bool ok].toArray) := by
  have := q_lookupk (P := P) (n := n) (w0 := w0) (zs := zs) (d := d) (ty := ty) (pos := pos) (af := af) (g := g) ht hte hK k h1 h2 hk hM hV ha
  rwa [hu, ho] at this
theorem fnd_none {a : α} : ∀ {l : List (α × Value)} {i : Nat}, fnd a l i = none → a ∉ l.map (·.1)
  | [], _, _ => by simp
  | p :: l, i, h => by
    unfold fnd at h
    split at h
    · cases h
    · rename_i hne
      have := fnd_none h
      rw [List.map_cons, List.mem_cons]
      rintro (e | e)
      · exact hne e
      · exact this e
theorem fnd_at {a : α} : ∀ {l : List (α × Value)} {i j : Nat} {v : Value}, fnd a l i = some (j, v) → l[j - i]?.map (·.1) = some a
  | [], _, _, _, h => by cases h
  | p :: l, i, j, v, h => by
    have hge := fnd_ge h
    unfold fnd at h
    split at h
    · rename_i he
      simp only [Option.some.injEq, Prod.mk.injEq] at h
      obtain ⟨rfl, _⟩ := h
      rw [Nat.sub_self, he]; rfl
    · have h2 := fnd_ge h
      have := fnd_at h
      obtain ⟨m, hm⟩ : ∃ m, j - i = m + 1 ∧ j - (i + 1) = m := ⟨j - (i + 1), by omega, rfl⟩
      rw [hm.1]
      rw [hm.2] at this
      simpa using this
/-- Which keys are there, each once. -/
theorem adel_keys {a y : α} {l : List (α × Value)} (hn : (l.map (·.1)).Nodup) : (y ∈ (adel a l).map (·.1) ↔ y ∈ l.map (·.1) ∧ y ≠ a) ∧ ((adel a l).map (·.1)).Nodup := by
  unfold adel
  cases hf : fnd a l 0 with
  | none =>
    have := fnd_none hf
    exact ⟨⟨fun h => ⟨h, fun e => this (e ▸ h)⟩, fun h => h.1⟩, hn⟩
  | some p =>
    obtain ⟨i, v⟩ := p
    have h1 := fnd_at hf
    rw [Nat.sub_zero, ← List.getElem?_map] at h1
    simp only []
    rw [← map_erase]
    generalize l.map (·.1) = ks at *
    obtain ⟨hi, rfl⟩ := List.getElem?_eq_some_iff.1 h1
    refine ⟨?_, List.Pairwise.sublist (List.eraseIdx_sublist _ _) hn⟩
    rw [List.mem_eraseIdx_iff_getElem]
    constructor
    · rintro ⟨j, hj, hji, rfl⟩
      refine ⟨List.getElem_mem _, fun e => hji ?_⟩
      exact (List.getElem_inj hn).1 e
    · rintro ⟨hm, hne⟩
      obtain ⟨j, hj, rfl⟩ := List.mem_iff_getElem.1 hm
      exact ⟨j, hj, fun e => hne (by subst e; rfl), rfl⟩
theorem aset_nodup {a : α} {v : Value} : ∀ {l : List (α × Value)}, (l.map (·.1)).Nodup → ((aset a v l).map (·.1)).Nodup
  | [], _ => by simp [aset]
  | p :: l, h => by
    rw [aset]
    rw [List.map_cons, List.nodup_cons] at h
    split
    · rename_i he
      rw [List.map_cons, List.nodup_cons, he]
      exact h
    · rename_i hne
      rw [List.map_cons, List.nodup_cons]
      refine ⟨fun hm => ?_, aset_nodup h.2⟩
      have : ∀ l : List (α × Value), p.1 ∈ (aset a v l).map (·.1) → p.1 = a ∨ p.1 ∈ l.map (·.1) := fun l => by
        induction l with
        | nil => intro h; simp [aset] at h; exact .inl h
        | cons q l ih =>
          intro h
          rw [aset] at h
          split at h
          · rw [List.map_cons, List.mem_cons] at h
            exact h.imp id fun h => List.mem_cons_of_mem _ h
          · rw [List.map_cons, List.mem_cons] at h
            rcases h with h | h
            · exact .inr (by rw [h]; exact List.mem_cons_self)
            · exact (ih h).imp id fun h => List.mem_cons_of_mem _ h
      rcases this l hm with e | e
      · exact hne e.symm
      · exact h.1 e
theorem aget_some {a : α} : ∀ {l : List (α × Value)}, (aget l a).isSome = true ↔ a ∈ l.map (·.1)
  | [] => by simp [aget, fnd]
  | p :: l => by
    rw [aget_cons, List.map_cons, List.mem_cons]
    split
    · rename_i h; simp [h]
    · rename_i h
      rw [aget_some]
      exact ⟨.inr, fun h' => h'.resolve_left h⟩
theorem aget_mem {a : α} {v : Value} : ∀ {l : List (α × Value)}, aget l a = some v → (a, v) ∈ l
  | [], h => by cases h
  | p :: l, h => by
    rw [aget_cons] at h
    split at h
    · rename_i he
      rw [← Option.some.inj h, he]
      exact List.mem_cons_self
    · exact List.mem_cons_of_mem _ (aget_mem h)
end
end Go.Fw
end

section
/-! slices of arrays of bytes as a source of append -/
namespace Go.Fw
section
variable {P : Program} {n : Nat} {w0 : World} {zs : List PH} {hs : List Res} {v : Value}
theorem sl_A {m : Nat} {z : PH} {xs : List (List UInt8)} (hS : Sl (encA m) z v xs) : ∀ x ∈ xs, x.length = m := fun x hx => by
  obtain ⟨i, hi, rfl⟩ := List.mem_iff_getElem.1 hx
  obtain ⟨b, off, cs, ty, fz, cx, _, _, h, _⟩ := hS.at (i := i) (x := xs[i]) (by simp [hi])
  exact h.1
theorem src_slA {m : Nat} {z : PH} {xs : List (List UInt8)} {tx e : TypeId} {s by_ : Nat} {zv : Value} (ht : Tf P tx (.slice e) s by_ zv) (hS : Sl (encA m) z v xs) (hz : ZIn w0 zs z) (h0 : 0 < m) : SrcOk P w0 zs hs m tx v xs.length (xs.flatten.map vb) :=
  src_sl (E := encA m) ht hS hz (xs.flatten.map vb) (by rw [List.length_map]; exact flat_len (sl_A hS)) (fun u hu => by
    obtain ⟨x, _, rfl⟩ := List.mem_map.1 hu
    rfl) (fun i x cx hx hr j hj => by
    rw [hr.2]
    exact flat_map_get (sl_A hS) hx hj) h0
end
end Go.Fw
end

section
/-! digests in own rows; what is known as an element -/
namespace Go.Fw
section
variable {P : Program} {n : Nat} {w0 : World} {zs : List PH} {hs : List Res} {L : List (Nat × Value)} {d : Option Tmp} {ty t t' : TypeId} {pos : String} {af : Array Edge} {g : Option (Nat × Bool)}
variable {x y c : Operand} {u v : Value}
theorem flat_vb (xs : List (List UInt8)) : xs.flatten.map vb = (xs.map fun l => l.map vb).flatten := by rw [List.map_flatten]
theorem q_ld_rowA [Dfs] {e' : TypeId} {m size : Nat} {dd : TypeDesc} {by_ : Nat} {zv : Value} (ht : Tf P t dd size by_ zv) (k : Nat) {xs : List (List UInt8)} {j : Nat} (hk : hs[k]? = some (.row v e' size m (xs.flatten.map vb))) (hl : ∀ x ∈ xs, x.length = size) (h1 : opv L x = some (elemPtr v (j * size))) (hj : j < xs.length) (h0 : 0 < size) (hd : aggD dd = true) :
    Qt P n w0 zs hs L ⟨d, .load t x, ty, pos, af, g⟩ (.agg ((xs.getD j []).map vb).toArray) := by
  have := q_ld_rowC (P := P) (n := n) (w0 := w0) (zs := zs) (d := d) (ty := ty) (pos := pos) (af := af) (g := g) ht k (xs.map fun l => l.map vb) j (by rw [hk, flat_vb]) (fun c hc => by
    obtain ⟨l, hl', rfl⟩ := List.mem_map.1 hc
    rw [List.length_map, hl l hl']) h1 (by simpa using hj) h0 hd
  have e : (xs.map fun l => l.map vb).getD j [] = (xs.getD j []).map vb := by
    rw [List.getD_eq_getElem?_getD, List.getD_eq_getElem?_getD, List.getElem?_map]
    cases xs[j]? <;> rfl
  rwa [e] at this
theorem flat_set {α : Type} {size : Nat} : ∀ {xs : List (List α)} (_ : ∀ x ∈ xs, x.length = size) {j : Nat} {c : List α} (_ : c.length = size) (_ : j < xs.length), xs.flatten.take (j * size) ++ c ++ xs.flatten.drop (j * size + c.length) = (xs.set j c).flatten
  | [], _, j, c, _, hj => by simp at hj
  | x :: xs, h, 0, c, hc, _ => by
    have hx := h x List.mem_cons_self
    simp only [Nat.zero_mul, List.take_zero, List.nil_append, Nat.zero_add, List.flatten_cons, List.set_cons_zero]
    rw [hc, ← hx, List.drop_left']
    rfl
  | x :: xs, h, j + 1, c, hc, hj => by
    have hx := h x List.mem_cons_self
    have ih := flat_set (xs := xs) (fun y hy => h y (List.mem_cons_of_mem _ hy)) (j := j) hc (by simpa using hj)
    simp only [List.flatten_cons, List.set_cons_succ]
    rw [← ih, Nat.add_mul, Nat.one_mul, List.take_append, List.drop_append, hx]
    rw [List.take_of_length_le (by omega), List.drop_eq_nil_of_le (by omega)]
    rw [show j * size + size - size = j * size by omega, show j * size + size + c.length - size = j * size + c.length by omega]
    simp [List.append_assoc]
/-- A store of a digest into a row. -/
theorem ef_st_rowA [Dfs] {dd : TypeDesc} {by_ size : Nat} {zv : Value} (ht : Tf P t dd size by_ zv) (k : Nat) {e : TypeId} {m j : Nat} {xs : List (List UInt8)} {dg : List UInt8} (h1 : opv L x = some (elemPtr v (j * size))) (h2 : opv L y = some (.agg (dg.map vb).toArray)) (hk : hs[k]? = some (.row v e size m (xs.flatten.map vb))) (hl : ∀ x ∈ xs, x.length = size) (hd : dg.length = size) (hm : m = xs.length) (hj : j < xs.length) :
    Ef P n w0 zs hs L ⟨d, .store t x y, ty, pos, af, g⟩ (fun v' zs' hs' => v' = undef ∧ zs' = zs ∧ hs' = hs.set k (.row v e size m ((xs.set j dg).flatten.map vb))) :=
  ef_of fun a ha w hw => by
    have hjm : j * size + size ≤ m * size := by
      have := Nat.mul_le_mul_right size (show j + 1 ≤ m by omega)
      rwa [Nat.add_mul, Nat.one_mul] at this
    have hcl : (dg.map vb).length = size := by rw [List.length_map, hd]
    obtain ⟨b, cap, cur, rfl, _, hb, hlb, hS⟩ := hw.storeRow (c := dg.map vb) hk (j := j * size) (by rw [hcl]; exact hjm) (by omega)
    have he : (xs.flatten.map vb).take (j * size) ++ dg.map vb ++ (xs.flatten.map vb).drop (j * size + (dg.map vb).length) = (xs.set j dg).flatten.map vb := by
      rw [← flat_set hl hd hj, List.map_append, List.map_append, List.map_take, List.map_drop, List.length_map]
    rw [he] at hS
    have hr := run_storeVar (v := .agg (dg.map vb).toArray) ht (b := b) (off := j * size) (bt := e) (cs := cur.toList) (w := w) (by simpa using hb) (by simpa [Value.cells] using hd) (fun u hu => by
      simp only [Value.cells, List.mem_toArray] at hu
      obtain ⟨x, _, rfl⟩ := List.mem_map.1 hu
      rfl) (by rw [hcl] at hlb; simpa using hlb)
    refine ⟨undef, zs, _, _, .inr ⟨?_, rfl⟩, ⟨rfl, rfl, rfl⟩, hS⟩
    have hx : a.eval x = .pointer (some ⟨b, j * size, none⟩) := (ha.eval h1).trans (by simp [elemPtr, add_at])
    simp only [execOp, hx, ha.eval h2]
    simp [Instr.storeAt, Instr.sureAddr, hr, Value.cells]
end
/-! ### what is known, as an element -/
def encN : Enc (List (List UInt8) × List Int) where
  size := 2
  rep z x c := ∃ kv mv, c = [kv, mv] ∧ Sl (encA 16) z kv x.1 ∧ Sl encI z mv x.2
  mono hz h := by obtain ⟨kv, mv, h1, h2, h3⟩ := h; exact ⟨kv, mv, h1, h2.mono hz, h3.mono hz⟩
  len h := by obtain ⟨kv, mv, h1, _⟩ := h; rw [h1]; rfl
  one h u hu := by
    obtain ⟨kv, mv, h1, h2, h3⟩ := h
    rw [h1] at hu
    simp only [List.mem_cons, List.not_mem_nil, or_false] at hu
    rcases hu with rfl | rfl
    · exact sl_one' h2
    · exact sl_one' h3
end Go.Fw
end

section
/-! a field of a slice's element -/
namespace Go.Fw
section
variable {P : Program} {n : Nat} {w0 : World} {zs : List PH} {hs : List Res} {L : List (Nat × Value)} {d : Option Tmp} {ty t : TypeId} {pos : String} {af : Array Edge} {g : Option (Nat × Bool)} {x : Operand}
end
end Go.Fw
end

section
namespace Go.Fw
end Go.Fw
namespace Go.Fw
end Go.Fw
end

section
/-! operations that are passed over, in a region that draws and writes -/
namespace Go.Fw
open Go Go.Sem
variable {P : Program} {n : Nat} {w0 : World} {L : List (Nat × Value)} {ops : Array Oper} {J : Act → World → Prop}
end Go.Fw
end
