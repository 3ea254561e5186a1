/- A text of a proof over this seat: walks over the program's functions and the plain laws that they need. -/
import Derived.Test.YtibbhobfdbfkkaaGreatDoorFwC
import Derived.RangeFuncLeaves
import Derived.RangeFuncRecord
import Derived.OrdersIn
import Derived.TacticsIn
import Derived.Test.YtibbhobfdbfkkaaGreatDoorFwB
import Derived.Lib.UnsafeStr
import Derived.Lib.Builder
import Derived.Laws.Externs
import Derived.LaidEql
import Derived.Lib.Bytealg
import Derived.Laws.CopyRow
import Derived.Shelf.SlIterI.Sorted
import Derived.Shelf.SlMaps.Clone
set_option linter.all false
section
namespace Go.Fw

/-! ### a range over a function: regions within a round -/
/-- The wide fence, in a round or not. -/
@[reducible] def Fe (ro : Option Nat) : Fence := { Fence.wide with round := ro }
def ndB (o : Oper) : Bool := match o.op with | .defer _ => false | _ => true
theorem ndB_spec {o : Oper} (h : ndB o = true) : ∀ c, o.op ≠ .defer c := by
  intro c hc
  unfold ndB at h
  rw [hc] at h
  cases h

section
variable {P : Program} {ops : Array Oper} {ro : Option Nat} {m : Nat}

theorem rows_in {row : String} {args : Array Value} {w : World} {R : Value → World → Prop} (h : Rows P row args w R) : RowsIn (Fe ro) m P row args w R :=
  fun c cs _ => let ⟨v, w', r, s⟩ := h c cs; ⟨v, w', r, (stepsIn_wide (P := P)).2 s⟩
theorem calls_in {f : FuncId} {args : Array Value} {w : World} {R : Ending → World → Prop} (h : Calls P f args w R) : CallsIn (Fe ro) m P f args w R :=
  (callsIn_wide (n := m)).2 h

theorem oper_in {o : Oper} {a : Act} {w : World} {next next' : Act → World → Prop} {Q1 Q : Exit → Act → World → Prop} (hd : ndB o = true) (hQ : ∀ e a w, Q1 e a w → e = .normal) (hn : ∀ a w, next a w → next' a w) (h : o.wp P a w next Q1) :
    o.wpIn (Fe ro) m P a w next' Q := by
  refine ⟨fun _ _ => trivial, ?_⟩
  rw [show (Fe ro).round = ro from rfl, Oper.semAt_eq ro _ o (ndB_spec hd)]
  unfold Oper.wp at h
  generalize (execOp a.eval o).run P w = r at h
  cases r with
  | ok nx w' =>
    cases nx <;> simp only [Oper.upon] at h <;> simp only [Oper.uponIn]
    case value v => exact hn _ _ h
    case skip => exact hn _ _ h
    case defer d => exact hn _ _ h
    case enter f args =>
      refine ⟨fun h' => (by cases h'), (calls_in h).mono fun e w'' he => ?_⟩
      cases e with
      | returned v => exact hn _ _ he
      | panicked c => cases hQ _ _ _ he
      | outgrown => obtain ⟨_, _, hq⟩ := he; cases hQ _ _ _ hq
    case row row args => exact ⟨fun h' => (by cases h'), (rows_in h).mono fun v w'' he => hn _ _ he⟩
  | halt x w' =>
    cases x <;> simp only [Oper.upon] at h <;> simp only [Oper.uponIn]
    case panic v => cases hQ _ _ _ h

theorem wpOps_in {Q1 Q : Exit → Act → World → Prop} (hd : ops.all ndB = true) (hQ : ∀ e a w, Q1 e a w → e = .normal ∧ Q .normal a w) : ∀ (l : List Nat) (a : Act) (w : World), wpOps P ops Q1 l a w → wpOpsIn (Fe ro) m P ops Q l a w
  | [], a, w, h => (hQ _ _ _ h).2
  | i :: l, a, w, h => by
    unfold wpOps at h
    unfold wpOpsIn
    cases ho : ops[i]? with
    | none => simp only [ho] at h ⊢; exact wpOps_in hd hQ l a w h
    | some o =>
      simp only [ho] at h ⊢
      have hdo : ndB o = true := by
        obtain ⟨hi, rfl⟩ := Array.getElem?_eq_some_iff.1 ho
        exact (Array.all_eq_true.1 hd) i hi
      by_cases hw : Region.wanted o (yielded ops a.tmps) = true
      · simp only [hw, if_true] at h ⊢
        rcases h with h | ⟨_, a', w', h⟩
        · exact oper_in hdo (fun e a w h => (hQ e a w h).1) (fun a w h => wpOps_in hd hQ l a w h) h
        · exact absurd (hQ _ _ _ h).1 (by simp)
      · simp only [hw, Bool.false_eq_true, if_false] at h ⊢
        exact ⟨fun _ _ => trivial, wpOps_in hd hQ l _ w h⟩

theorem wpList_in {Q1 Q : Exit → Act → World → Prop} {l2 : List Oper} (hQ : ∀ e a w, Q1 e a w → e = .normal ∧ wpListIn (Fe ro) m P ops Q l2 a w) : ∀ (l : List Oper) (a : Act) (w : World), l.all ndB = true → wpList P ops Q1 l a w → wpListIn (Fe ro) m P ops Q (l ++ l2) a w
  | [], a, w, _, h => (hQ _ _ _ h).2
  | o :: l, a, w, hd, h => by
    simp only [List.all_cons, Bool.and_eq_true] at hd
    unfold wpList at h
    rw [List.cons_append]
    unfold wpListIn
    by_cases hw : Region.wanted o (yielded ops a.tmps) = true
    · simp only [hw, if_true] at h ⊢
      rcases h with h | ⟨_, a', w', h⟩
      · exact oper_in hd.1 (fun e a w h => (hQ e a w h).1) (fun a w h => wpList_in hQ l a w hd.2 h) h
      · exact absurd (hQ _ _ _ h).1 (by simp)
    · simp only [hw, Bool.false_eq_true, if_false] at h ⊢
      exact ⟨fun _ _ => trivial, wpList_in hQ l _ w hd.2 h⟩

theorem region_in {id : Nat} {Q : Exit → Act → World → Prop} {a : Act} {w : World} (hm : P.follows .mixedOrders = true) (hd : ops.all ndB = true)
    (h : wpAny P .any ops (QJ (Q .normal)) ops.size (Array.replicate ops.size false) a { w with drawn := w.drawn + 1 }) : (Code.region id ops true).wpIn (Fe ro) m P Q a w :=
  wpIn_region_draw fun t => by
    simp only [Region.schedule, hm, Bool.true_or, if_true]
    exact wpOps_in (Q1 := QJ (Q .normal)) hd (fun e a w h => h) _ _ _ (wpAny_sound ops.size t _ a _ h)
end

section
variable {P : Program} {n : Nat} {w0 : World} {zs : List PH} {hs : List Res} {L L' : List (Nat × Value)} {l : List Oper} {k : Nat} {ro : Option Nat} {m : Nat}
theorem regR [Dfs] {id : Nat} {Q : Exit → Act → World → Prop} {a : Act} {w : World} (hd : l.all ndB = true) (hF : Fr n L a) (hS : St w0 zs hs w)
    (s : Sq P n w0 zs hs l.toArray k L l L' []) (K : ∀ a w, Fr n L' a → St w0 zs hs w → Q .normal a w) : (Code.region id l.toArray false).wpIn (Fe ro) m P Q a w := by
  refine wpIn_region_lit ?_
  have := wpList_in (ro := ro) (m := m) (Q := Q) (l2 := []) (Q1 := QJ (Q .normal)) (fun e a w h => h) l a w hd (wpl_sq hF hS s fun a w hF hS => wpList_nil ⟨rfl, K a w hF hS⟩)
  simpa using this
theorem reglR {id : Nat} {Q : Exit → Act → World → Prop} {a : Act} {w : World} (hd : l.all ndB = true) (h : wpList P l.toArray (QJ (Q .normal)) l a w) : (Code.region id l.toArray false).wpIn (Fe ro) m P Q a w := by
  refine wpIn_region_lit ?_
  have := wpList_in (ro := ro) (m := m) (Q := Q) (l2 := []) (Q1 := QJ (Q .normal)) (fun e a w h => h) l a w hd h
  simpa using this
theorem listR {ops : Array Oper} {J : Act → World → Prop} {a : Act} {w : World} (h : J a w) : wpList P ops (QJ J) [] a w := ⟨rfl, h⟩
end
end Go.Fw
end

section
namespace Go.Fw

/-! ### a range over a function: the statement -/
theorem putObj_io (w : World) (b : Nat) (o : Obj) : Io w (w.putObj b o) := ⟨rfl, rfl, rfl⟩
theorem St.swap {w0 w : World} {zs : List PH} {hs : List Res} {b : Nat} {o : Obj} (h : St w0 (ph1 b o :: zs) hs w) (hz : ∀ z ∈ zs, z b = none) (o' : Obj) : St w0 (ph1 b o' :: zs) hs (w.putObj b o') := by
  have hz0 := h.zone _ List.mem_cons_self
  have hb : w.heap[b]? = some o := hz0.1 b o (by unfold ph1; rw [if_pos rfl])
  have hge : w0.heap.size ≤ b := hz0.2 b o (by unfold ph1; rw [if_pos rfl])
  have hlt : b < w.heap.size := (Array.getElem?_eq_some_iff.1 hb).1
  have hown : ∀ r ∈ hs, r.id ≠ some b := fun r hr e => by
    have := (h.own r hr).2 b e _ List.mem_cons_self
    unfold ph1 at this
    rw [if_pos rfl] at this
    cases this
  refine ⟨fun k ob hk => ?_, fun z hz' => ?_, fun r hr => ⟨Res.ok_of (h.own r hr).1 fun k hk => World.putObj_heap_other (fun e => hown r hr (by rw [hk, e])), fun k hk z hz' => ?_⟩, h.nd, h.io.trans (putObj_io _ _ _)⟩
  · have h1 := h.ext k ob hk
    have hkb : k ≠ b := by have := ph_some hk; omega
    simp only [ph] at h1 ⊢
    rw [World.putObj_heap_other hkb]; exact h1
  · rcases List.mem_cons.1 hz' with rfl | hz2
    · refine ⟨fun k ob hk => ?_, fun k ob hk => ?_⟩
      · obtain ⟨rfl, rfl⟩ := ph1_some hk; exact World.putObj_heap_same hlt
      · obtain ⟨rfl, rfl⟩ := ph1_some hk; exact hge
    · refine ⟨fun k ob hk => ?_, (h.zone z (List.mem_cons_of_mem _ hz2)).2⟩
      have h1 := (h.zone z (List.mem_cons_of_mem _ hz2)).1 k ob hk
      have hkb : k ≠ b := by
        intro e
        rw [e, hz z hz2] at hk
        cases hk
      simp only [ph] at h1 ⊢
      rw [World.putObj_heap_other hkb]; exact h1
  · rcases List.mem_cons.1 hz' with rfl | hz2
    · have := hown r hr
      unfold ph1
      rw [if_neg (fun e => this (by rw [hk, e]))]
    · exact (h.own r hr).2 k hk z (List.mem_cons_of_mem _ hz2)
/-- What a call of yield asks and gives. -/
def Yd (P : Program) (Y v : Value) (I J : World → Prop) : Prop :=
  ∀ w, I w → ∃ (l : Nat) (f : FuncId) (tmps : Array Value) (assign body : Code), Y = .func (.yield l) #[] #[] ∧ (Instr.yield l #[v]).run P w = .ok (.round l f tmps assign body) w ∧
    ∀ m, RoundIn (Fe none) m P l f tmps assign body w fun e w' => e = .returned (.bool true) ∧ J w'

section
variable {P : Program} {n : Nat} {w0 : World} {zs : List PH} {L : List (Nat × Value)}

/-! ### the function that holds it -/
theorem fn_enterM {f : FuncId} {fn : Func} {cd : Code} (hf : P.funcs[f]? = some fn) (hb : fn.body = some cd) {k : Nat} (hk : fn.ntmps = k) {args : List Value} (hn : args.length ≤ k) {w : World} {R : Value → List PH → List Res → Prop}
    (h : ∀ a, Fr k (enterL 0 args) a → St w [] [] w → cd.wp P (bodyPostM (Fe none) 0 P fn fun e w' => ∃ v zs hs, e = .returned v ∧ St w zs hs w' ∧ R v zs hs) a w) : Ct P f args w R := by
  subst hk
  exact (callsIn_wide (n := 0)).1 (callsIn_of_wp_marks hf hb trivial ((wpIn_wide (n := 0)).2 (h _ (Fr.enter _ _ hn) (St.start w))))
theorem fn_retM {fn : Func} {w : World} {hs : List Res} {a : Act} {R : Value → List PH → List Res → Prop} {rs : List ResultVar} (hrs : fn.results = rs.toArray) (hF : Fr n L a) (hS : St w0 zs hs w) {vs : List Value} (hv : ResVs P L hs rs vs) {zs' hs'} (h1 : zs'.Sublist zs) (h2 : hs'.Sublist hs) (hR : R (resVal vs) zs' hs') :
    bodyPostM (Fe none) 0 P fn (fun e w' => ∃ v zs hs, e = .returned v ∧ St w0 zs hs w' ∧ R v zs hs) .ret a w := by
  have hnd : a.defers = [] := hF.nodef
  show LeavesInM (Fe none) 0 P fn a.tmps _ a.defers .returning w
  rw [hnd]
  exact ⟨_, run_results hrs hF hS hv, _, _, _, rfl, hS.keep h1 h2, hR⟩
/-! ### the iterator's side: a call of yield -/
theorem regY {id : Nat} {Q : Exit → Act → World → Prop} {a : Act} {w : World} {l : List Oper} (m1 : Nat) (hd : l.all ndB = true)
    (h : wpList P l.toArray (QJ (wpListIn (Fe none) 0 P l.toArray Q (l.drop m1))) (l.take m1) a w) : (Code.region id l.toArray false).wp P Q a w := by
  refine wpIn_wide (n := 0).1 (wpIn_region_lit ?_)
  have := wpList_in (ro := none) (m := 0) (Q := Q) (l2 := l.drop m1) (fun e a w h => h) (l.take m1) a w (by rw [List.all_eq_true] at hd ⊢; exact fun x hx => hd x (List.mem_of_mem_take hx)) h
  rwa [List.take_append_drop] at this
theorem yseg [Dfs] {hs : List Res} {ops : Array Oper} {Q : Exit → Act → World → Prop} : ∀ {k : Nat} {L L' l l'} {a : Act} {w : World}, l.all ndB = true → Fr n L a → St w0 zs hs w → Sq P n w0 zs hs ops k L l L' l' →
    (∀ a w, Fr n L' a → St w0 zs hs w → wpListIn (Fe none) 0 P ops Q l' a w) → wpListIn (Fe none) 0 P ops Q l a w
  | 0, _, _, _, _, a, w, _, hF, hS, h, K => by obtain ⟨rfl, rfl⟩ := h; exact K a w hF hS
  | k + 1, _, _, _, _, a, w, hd, hF, hS, h, K => by
    obtain ⟨o, r, v, rfl, hdo, hq, hr⟩ := h
    simp only [List.all_cons, Bool.and_eq_true] at hd
    unfold wpListIn
    rcases hq a hF with ⟨hw, hq⟩ | ⟨hw, rfl⟩
    · simp only [hw, if_true]
      refine ⟨fun _ _ => trivial, ?_⟩
      rw [show (Fe none).round = none from rfl, Oper.semAt_none]
      have := hq w hS
      generalize (execOp a.eval o).run P w = res at this
      cases res with
      | halt x w' => simp only [Oper.quietUpon] at this
      | ok nx w' =>
        cases nx <;> simp only [Oper.quietUpon] at this <;> simp only [Oper.uponIn]
        case value u => obtain ⟨rfl, rfl⟩ := this; exact yseg hd.2 (hF.up hdo) hS hr K
        case skip => obtain ⟨rfl, rfl⟩ := this; exact yseg hd.2 (hF.up hdo) hS hr K
        case enter f args =>
          obtain ⟨rfl, hc⟩ := this
          exact ⟨fun h' => (by cases h'), (calls_in hc).mono fun e w'' ⟨he, hw''⟩ => by subst he; exact yseg hd.2 (hF.up hdo) hw'' hr K⟩
    · simp only [hw, Bool.false_eq_true, if_false]
      exact ⟨fun _ _ => trivial, yseg hd.2 (hF.up hdo) hS hr K⟩
/-! ### an iterator: the rest of what is owned is told -/
def CxH (P : Program) (f : FuncId) (args : List Value) (w0 : World) (zsr : List PH) (own hsr : List Res) (R : Value → List PH → List Res → Prop) : Prop :=
  ∀ (w : World), St w0 zsr (own ++ hsr) w → Calls P f args.toArray w fun e w' => ∃ v zs1 hs1, e = .returned v ∧ St w0 (zs1 ++ zsr) (hs1 ++ hsr) w' ∧ R v zs1 hs1
theorem fn_enterh {f : FuncId} {fn : Func} {cd : Code} (hf : P.funcs[f]? = some fn) (hb : fn.body = some cd) {k : Nat} (hk : fn.ntmps = k) {args : List Value} (hn : args.length ≤ k) {w0 : World} {zsr : List PH} {own hsr : List Res} {R : Value → List PH → List Res → Prop}
    (h : ∀ a w, Fr k (enterL 0 args) a → St w0 zsr (own ++ hsr) w → cd.wp P (bodyPost P fn fun e w' => ∃ v zs1 hs1, e = .returned v ∧ St w0 (zs1 ++ zsr) (hs1 ++ hsr) w' ∧ R v zs1 hs1) a w) : CxH P f args w0 zsr own hsr R := by
  subst hk
  intro w hS
  exact calls_of_wp hf hb (h _ w (Fr.enter _ _ hn) hS)
theorem fn_fallx {fn : Func} {w : World} {hs : List Res} {a : Act} {R : Value → List PH → List Res → Prop} {zsr : List PH} {hsr : List Res} (hrs : fn.results = #[]) (hF : Fr n L a) (hS : St w0 zs hs w) (zs1 : List PH) (hs1 : List Res) (h1 : (zs1 ++ zsr).Sublist zs) (h2 : (hs1 ++ hsr).Sublist hs) (hR : R (.tuple #[]) zs1 hs1) :
    bodyPost P fn (fun e w' => ∃ v zs1 hs1, e = .returned v ∧ St w0 (zs1 ++ zsr) (hs1 ++ hsr) w' ∧ R v zs1 hs1) .normal a w :=
  ⟨hF.nodef, _, run_results (rs := []) (vs := []) hrs hF hS trivial, _, _, _, rfl, hS.keep h1 h2, hR⟩
end
end Go.Fw
namespace Go.Fw
section
variable {P : Program} {n : Nat} {w0 : World} {zs : List PH} {L : List (Nat × Value)} {m : Nat}
/-- What an iterator's contract makes of what it was lent, told in full. -/
theorem CxH.full {f : FuncId} {args : List Value} {zsr : List PH} {r1 r2 r0 : Res} {hsr : List Res} {J : Res → Prop} (h : CxH P f args w0 zsr [r1, r2, r0] hsr (fun _ zs1 hs1 => zs1 = [] ∧ ∃ r, hs1 = [r1, r2, r] ∧ J r)) (w : World) (hS : St w0 zsr (r1 :: r2 :: r0 :: hsr) w) :
    Calls P f args.toArray w fun e w' => (∃ v, e = .returned v) ∧ ∃ r, J r ∧ St w0 zsr (r1 :: r2 :: r :: hsr) w' :=
  Calls.mono (h w hS) fun e w' ⟨v, zs1, hs1, he, hS', h1, r, h2, h3⟩ => by
    subst h1 h2
    exact ⟨⟨v, he⟩, r, h3, hS'⟩
end
end Go.Fw
end

section
/-! maps: how many there are, and one taken out -/
namespace Go.Fw
open Go Go.Sem
def adel {α : Type} [DecidableEq α] (a : α) (l : List (α × Value)) : List (α × Value) := match fnd a l 0 with
  | some (i, _) => l.eraseIdx i
  | none => l
section
variable {P : Program} {n : Nat} {w0 : World} {zs : List PH} {hs : List Res} {L : List (Nat × Value)} {d : Option Tmp} {ty t t2 : TypeId} {pos : String} {af : Array Edge} {g : Option (Nat × Bool)} {x y o3 : Operand} {u v : Value}
variable {α : Type} [DecidableEq α] {kf : α → Value} {V : α → Prop} {kt e : TypeId}
theorem map_erase {β γ : Type} (f : β → γ) : ∀ (l : List β) (i : Nat), (l.map f).eraseIdx i = (l.eraseIdx i).map f
  | [], _ => rfl
  | _ :: _, 0 => rfl
  | x :: l, i + 1 => by
    simp only [List.map_cons, List.eraseIdx_cons_succ, map_erase f l i]
omit [DecidableEq α] in
theorem mpR_len {l : List (α × Value)} {es : List MapEntry} (h : MpR kf l es) : es.length = l.length := by
  have := congrArg List.length h
  simpa using this
omit [DecidableEq α] in
theorem q_lenM [Dfs] {s by_ : Nat} {zv : Value} (ht : Tf P t (.map kt e) s by_ zv) (k : Nat) {l : List (α × Value)} {es : List MapEntry} {c b : Nat} (h1 : opv L x = some (.map (some b))) (hk : hs[k]? = some (.mp b es c)) (hM : MpR kf l es) :
    Qt P n w0 zs hs L ⟨d, .call ⟨.builtin .len, #[x], #[t]⟩, ty, pos, af, g⟩ (vi l.length) :=
  qt_of fun a ha w hw => by
    have hb := (hw.own _ (List.mem_of_getElem? hk)).1.2
    have hg : (getObj b).run P w = .ok (.map es.toArray c) w := by simp [getObj, Sem.run, hb]
    simp only [execOp, resolve]
    simp only [invoke, builtin, Sem.run_bind, Sem.run_pure, Result.andThen_ok, List.map_toArray, List.map_cons, List.map_nil, ha.eval h1]
    have hr : (Builtin.len_ #[t] ty #[.map (some b)]).run P w = .ok (vi l.length) w := by
      unfold Builtin.len_
      simp [run_underlying ht.und, hg, mpR_len hM, goInt, vi]
    rw [hr]
    rfl
omit [DecidableEq α] in
theorem mpR_erase {l : List (α × Value)} {es : List MapEntry} (h : MpR kf l es) (i : Nat) : MpR kf (l.eraseIdx i) (es.eraseIdx i) := by
  unfold MpR at h ⊢
  rw [← map_erase, ← map_erase, h]
theorem q_lookupk2 [Dfs] {s by_ : Nat} {zv : Value} (ht : Tf P t (.map kt e) s by_ zv) {de : TypeDesc} {se be : Nat} {ze : Value} (hte : Tf P e de se be ze) (hK : KeyOk P kt kf V) (k : Nat) {l : List (α × Value)} {es : List MapEntry} {c b : Nat} (h1 : opv L x = some (.map (some b))) {a : α} (h2 : opv L y = some (kf a)) (hk : hs[k]? = some (.mp b es c)) (hM : MpR kf l es) (hV : ∀ p ∈ l, V p.1) (ha : V a) {ok : Bool} (hu : (aget l a).getD ze = u) (ho : (aget l a).isSome = ok) :
    Qt P n w0 zs hs L ⟨d, .lookup t x y true, ty, pos, af, g⟩ (.tuple [u, .bool ok].toArray) := by
  have := q_lookupk (P := P) (n := n) (w0 := w0) (zs := zs) (d := d) (ty := ty) (pos := pos) (af := af) (g := g) ht hte hK k h1 h2 hk hM hV ha
  rwa [hu, ho] at this
theorem fnd_none {a : α} : ∀ {l : List (α × Value)} {i : Nat}, fnd a l i = none → a ∉ l.map (·.1)
  | [], _, _ => by simp
  | p :: l, i, h => by
    unfold fnd at h
    split at h
    · cases h
    · rename_i hne
      have := fnd_none h
      rw [List.map_cons, List.mem_cons]
      rintro (e | e)
      · exact hne e
      · exact this e
theorem fnd_at {a : α} : ∀ {l : List (α × Value)} {i j : Nat} {v : Value}, fnd a l i = some (j, v) → l[j - i]?.map (·.1) = some a
  | [], _, _, _, h => by cases h
  | p :: l, i, j, v, h => by
    have hge := fnd_ge h
    unfold fnd at h
    split at h
    · rename_i he
      simp only [Option.some.injEq, Prod.mk.injEq] at h
      obtain ⟨rfl, _⟩ := h
      rw [Nat.sub_self, he]; rfl
    · have h2 := fnd_ge h
      have := fnd_at h
      obtain ⟨m, hm⟩ : ∃ m, j - i = m + 1 ∧ j - (i + 1) = m := ⟨j - (i + 1), by omega, rfl⟩
      rw [hm.1]
      rw [hm.2] at this
      simpa using this
/-- Which keys are there, each once. -/
theorem adel_keys {a y : α} {l : List (α × Value)} (hn : (l.map (·.1)).Nodup) : (y ∈ (adel a l).map (·.1) ↔ y ∈ l.map (·.1) ∧ y ≠ a) ∧ ((adel a l).map (·.1)).Nodup := by
  unfold adel
  cases hf : fnd a l 0 with
  | none =>
    have := fnd_none hf
    exact ⟨⟨fun h => ⟨h, fun e => this (e ▸ h)⟩, fun h => h.1⟩, hn⟩
  | some p =>
    obtain ⟨i, v⟩ := p
    have h1 := fnd_at hf
    rw [Nat.sub_zero, ← List.getElem?_map] at h1
    simp only []
    rw [← map_erase]
    generalize l.map (·.1) = ks at *
    obtain ⟨hi, rfl⟩ := List.getElem?_eq_some_iff.1 h1
    refine ⟨?_, List.Pairwise.sublist (List.eraseIdx_sublist _ _) hn⟩
    rw [List.mem_eraseIdx_iff_getElem]
    constructor
    · rintro ⟨j, hj, hji, rfl⟩
      refine ⟨List.getElem_mem _, fun e => hji ?_⟩
      exact (List.getElem_inj hn).1 e
    · rintro ⟨hm, hne⟩
      obtain ⟨j, hj, rfl⟩ := List.mem_iff_getElem.1 hm
      exact ⟨j, hj, fun e => hne (by subst e; rfl), rfl⟩
theorem aset_nodup {a : α} {v : Value} : ∀ {l : List (α × Value)}, (l.map (·.1)).Nodup → ((aset a v l).map (·.1)).Nodup
  | [], _ => by simp [aset]
  | p :: l, h => by
    rw [aset]
    rw [List.map_cons, List.nodup_cons] at h
    split
    · rename_i he
      rw [List.map_cons, List.nodup_cons, he]
      exact h
    · rename_i hne
      rw [List.map_cons, List.nodup_cons]
      refine ⟨fun hm => ?_, aset_nodup h.2⟩
      have : ∀ l : List (α × Value), p.1 ∈ (aset a v l).map (·.1) → p.1 = a ∨ p.1 ∈ l.map (·.1) := fun l => by
        induction l with
        | nil => intro h; simp [aset] at h; exact .inl h
        | cons q l ih =>
          intro h
          rw [aset] at h
          split at h
          · rw [List.map_cons, List.mem_cons] at h
            exact h.imp id fun h => List.mem_cons_of_mem _ h
          · rw [List.map_cons, List.mem_cons] at h
            rcases h with h | h
            · exact .inr (by rw [h]; exact List.mem_cons_self)
            · exact (ih h).imp id fun h => List.mem_cons_of_mem _ h
      rcases this l hm with e | e
      · exact hne e.symm
      · exact h.1 e
theorem aget_some {a : α} : ∀ {l : List (α × Value)}, (aget l a).isSome = true ↔ a ∈ l.map (·.1)
  | [] => by simp [aget, fnd]
  | p :: l => by
    rw [aget_cons, List.map_cons, List.mem_cons]
    split
    · rename_i h; simp [h]
    · rename_i h
      rw [aget_some]
      exact ⟨.inr, fun h' => h'.resolve_left h⟩
theorem aget_mem {a : α} {v : Value} : ∀ {l : List (α × Value)}, aget l a = some v → (a, v) ∈ l
  | [], h => by cases h
  | p :: l, h => by
    rw [aget_cons] at h
    split at h
    · rename_i he
      rw [← Option.some.inj h, he]
      exact List.mem_cons_self
    · exact List.mem_cons_of_mem _ (aget_mem h)
end
end Go.Fw
end

section
/-! slices of arrays of bytes as a source of append -/
namespace Go.Fw
section
variable {P : Program} {n : Nat} {w0 : World} {zs : List PH} {hs : List Res} {v : Value}
end
end Go.Fw
end

section
/-! digests in own rows; what is known as an element -/
namespace Go.Fw
section
variable {P : Program} {n : Nat} {w0 : World} {zs : List PH} {hs : List Res} {L : List (Nat × Value)} {d : Option Tmp} {ty t t' : TypeId} {pos : String} {af : Array Edge} {g : Option (Nat × Bool)}
variable {x y c : Operand} {u v : Value}
theorem flat_vb (xs : List (List UInt8)) : xs.flatten.map vb = (xs.map fun l => l.map vb).flatten := by rw [List.map_flatten]
theorem q_ld_rowA [Dfs] {e' : TypeId} {m size : Nat} {dd : TypeDesc} {by_ : Nat} {zv : Value} (ht : Tf P t dd size by_ zv) (k : Nat) {xs : List (List UInt8)} {j : Nat} (hk : hs[k]? = some (.row v e' size m (xs.flatten.map vb))) (hl : ∀ x ∈ xs, x.length = size) (h1 : opv L x = some (elemPtr v (j * size))) (hj : j < xs.length) (h0 : 0 < size) (hd : aggD dd = true) :
    Qt P n w0 zs hs L ⟨d, .load t x, ty, pos, af, g⟩ (.agg ((xs.getD j []).map vb).toArray) := by
  have := q_ld_rowC (P := P) (n := n) (w0 := w0) (zs := zs) (d := d) (ty := ty) (pos := pos) (af := af) (g := g) ht k (xs.map fun l => l.map vb) j (by rw [hk, flat_vb]) (fun c hc => by
    obtain ⟨l, hl', rfl⟩ := List.mem_map.1 hc
    rw [List.length_map, hl l hl']) h1 (by simpa using hj) h0 hd
  have e : (xs.map fun l => l.map vb).getD j [] = (xs.getD j []).map vb := by
    rw [List.getD_eq_getElem?_getD, List.getD_eq_getElem?_getD, List.getElem?_map]
    cases xs[j]? <;> rfl
  rwa [e] at this
theorem flat_set {α : Type} {size : Nat} : ∀ {xs : List (List α)} (_ : ∀ x ∈ xs, x.length = size) {j : Nat} {c : List α} (_ : c.length = size) (_ : j < xs.length), xs.flatten.take (j * size) ++ c ++ xs.flatten.drop (j * size + c.length) = (xs.set j c).flatten
  | [], _, j, c, _, hj => by simp at hj
  | x :: xs, h, 0, c, hc, _ => by
    have hx := h x List.mem_cons_self
    simp only [Nat.zero_mul, List.take_zero, List.nil_append, Nat.zero_add, List.flatten_cons, List.set_cons_zero]
    rw [hc, ← hx, List.drop_left']
    rfl
  | x :: xs, h, j + 1, c, hc, hj => by
    have hx := h x List.mem_cons_self
    have ih := flat_set (xs := xs) (fun y hy => h y (List.mem_cons_of_mem _ hy)) (j := j) hc (by simpa using hj)
    simp only [List.flatten_cons, List.set_cons_succ]
    rw [← ih, Nat.add_mul, Nat.one_mul, List.take_append, List.drop_append, hx]
    rw [List.take_of_length_le (by omega), List.drop_eq_nil_of_le (by omega)]
    rw [show j * size + size - size = j * size by omega, show j * size + size + c.length - size = j * size + c.length by omega]
    simp [List.append_assoc]
end
/-! ### what is known, as an element -/
def encN : Enc (List (List UInt8) × List Int) where
  size := 2
  rep z x c := ∃ kv mv, c = [kv, mv] ∧ Sl (encA 16) z kv x.1 ∧ Sl encI z mv x.2
  mono hz h := by obtain ⟨kv, mv, h1, h2, h3⟩ := h; exact ⟨kv, mv, h1, h2.mono hz, h3.mono hz⟩
  len h := by obtain ⟨kv, mv, h1, _⟩ := h; rw [h1]; rfl
  one h u hu := by
    obtain ⟨kv, mv, h1, h2, h3⟩ := h
    rw [h1] at hu
    simp only [List.mem_cons, List.not_mem_nil, or_false] at hu
    rcases hu with rfl | rfl
    · exact sl_one' h2
    · exact sl_one' h3
end Go.Fw
end

section
/-! a field of a slice's element -/
namespace Go.Fw
section
variable {P : Program} {n : Nat} {w0 : World} {zs : List PH} {hs : List Res} {L : List (Nat × Value)} {d : Option Tmp} {ty t : TypeId} {pos : String} {af : Array Edge} {g : Option (Nat × Bool)} {x : Operand}
/-- A load from a zone, by an explicit pointer. -/
theorem q_ld_z [Dfs] {z : PH} {dd : TypeDesc} {s by_ : Nat} {zv : Value} (ht : Tf P t dd s by_ zv) {b off : Nat} {cs : Array Value} {ty' : TypeId} {fz : Nat × Nat} {u : Value} (h1 : opv L x = some (.pointer (some ⟨b, off, none⟩))) (hd : aggD dd = false) (hz : ZIn w0 zs z) (hb : z b = some (.cells cs ty' fz)) (hc : cs[off]? = some u) :
    Qt P n w0 zs hs L ⟨d, .load t x, ty, pos, af, g⟩ u :=
  qt_of fun a ha w hw => by
    have hb' := hw.le hz _ _ hb
    have hcell : w.cell? ⟨b, off, none⟩ = some u := by
      rw [cell_of_row w b off _ ty' _ hb']
      exact hc
    have he : a.eval x = .pointer (some ⟨b, off, none⟩) := ha.eval h1
    simp only [execOp, he]
    simp [Instr.loadAt, Instr.sureAddr, run_load1 ht hd hcell]
end
end Go.Fw
end

section
namespace Go.Fw
open Go Go.Sem
section
variable {P : Program} {n : Nat} {w0 : World} {zs : List PH} {hs : List Res} {L : List (Nat × Value)} {d : Option Tmp} {ty t : TypeId} {pos : String} {af : Array Edge} {g : Option (Nat × Bool)} {x y : Operand} {v : Value}
theorem q_s2ap_sl [Dfs] {z : PH} {xs : List UInt8} {e arr : TypeId} {m s by_ : Nat} {zv : Value} (ht : Tf P arr (.array m e) s by_ zv) (hS : Sl encB z v xs) (h1 : opv L x = some v) (hm : m ≤ xs.length) (h0 : 0 < m) :
    Qt P n w0 zs hs L ⟨d, .sliceToArrayPointer arr x, ty, pos, af, g⟩ (elemPtr v 0) :=
  qt_of fun a ha w hw => by
    obtain ⟨_, aa, cc, rfl, hcc, h⟩ := hS
    obtain ⟨b, off, cs, ty', fz, cx, rfl, _⟩ := h 0 (xs[0]'(by omega)) (by simp)
    have hlt : ¬ xs.length < m := by omega
    simp only [execOp, ha.eval h1]
    simp [Instr.arrayAt, run_underlying ht.und, hlt, elemPtr, add_at]
theorem q_ld_B16 [Dfs] {z : PH} {xs : List UInt8} {dd : TypeDesc} {m by_ : Nat} {zv : Value} (ht : Tf P t dd m by_ zv) (hS : Sl encB z v xs) (hz : ZIn w0 zs z) (h1 : opv L x = some (elemPtr v 0)) (hd : aggD dd = true) (hm : xs.length = m) (h0 : 0 < m) :
    Qt P n w0 zs hs L ⟨d, .load t x, ty, pos, af, g⟩ (.agg (xs.map vb).toArray) :=
  qt_of fun a ha w hw => by
    obtain ⟨_, aa, cc, rfl, hcc, h⟩ := hS
    obtain ⟨b, off, cs, ty', fz, cx, rfl, hzb, _⟩ := h 0 (xs[0]'(by omega)) (by simp)
    have hb := hw.le hz _ _ hzb
    have hc : ∀ i, i < xs.length → cs[off + i]? = some (vb (xs.getD i 0)) := by
      intro i hi
      obtain ⟨b2, off2, cs2, ty2, fz2, cx2, e1, e2, e3, e4⟩ := h i xs[i] (by simp [hi])
      simp only [Option.some.injEq, Addr.mk.injEq, and_true] at e1
      obtain ⟨rfl, rfl⟩ := e1
      rw [hzb] at e2
      simp only [Option.some.injEq, Obj.cells.injEq] at e2
      obtain ⟨rfl, rfl, rfl⟩ := e2
      have := e4 0 (vb xs[i]) (by rw [e3.1]; rfl)
      have e5 : xs.getD i 0 = xs[i] := by simp [hi]
      rw [e5]
      simpa [encB, encV] using this
    have hfit : off + m ≤ cs.size := by
      have := hc (m - 1) (by omega)
      have := (Array.getElem?_eq_some_iff.1 this).1
      omega
    have hr := run_loadA ht hd hb hfit
    have he : (cs.toList.drop off).take m = xs.map vb := by
      apply List.ext_getElem?
      intro i
      rw [List.getElem?_take, List.getElem?_drop, List.getElem?_map]
      split
      · rename_i hi
        have := hc i (by omega)
        have e5 : xs.getD i 0 = xs[i] := by simp [show i < xs.length by omega]
        rw [e5] at this
        rw [List.getElem?_eq_getElem (show i < xs.length by omega)]
        simpa using this
      · rw [List.getElem?_eq_none (by omega)]; rfl
    rw [he] at hr
    have hev : a.eval x = .pointer (some ⟨b, off, none⟩) := (ha.eval h1).trans (by simp [elemPtr, add_at])
    simp only [execOp, hev]
    simp [Instr.loadAt, Instr.sureAddr, hr]
end
end Go.Fw
end

section
namespace Go.Fw
end Go.Fw
end

section
/-! strings.Builder: a string over own bytes -/
namespace Go.Fw
open Go Go.Sem
section
variable {P : Program} {n : Nat} {w0 : World} {zs : List PH} {hs : List Res} {L : List (Nat × Value)} {d : Option Tmp} {ty t : TypeId} {pos : String} {af : Array Edge} {g : Option (Nat × Bool)} {x y : Operand} {v : Value}
end
end Go.Fw
end

section
/-! pointers compared, turned into unsafe ones and back; a call of an outside function that hands back what it is given -/
namespace Go.Fw
open Go Go.Sem
section
variable {P : Program} {n : Nat} {w0 : World} {zs : List PH} {hs : List Res} {L : List (Nat × Value)} {d : Option Tmp} {ty t t' : TypeId} {pos : String} {af : Array Edge} {g : Option (Nat × Bool)} {x y : Operand} {v : Value}
theorem eqg_ptr {op : BinOp} {p q : Option Addr} (w : World) : (eqGuard op t x y (.pointer p) (.pointer q)).run P w = .ok () w := by
  cases op <;> simp [eqGuard]
theorem equalIn_pn (dd : Nat) {e : TypeId} (hu : P.underlying t = some (.pointer e)) (p : Option Addr) (w : World) : (Op.equalIn (dd + 1) t (.pointer p) (.pointer none)).run P w = .ok p.isNone w := by
  cases p <;> simp [Op.equalIn, run_underlying hu]
theorem q_eqpn [Dfs] {e : TypeId} {s b : Nat} {zv : Value} (ht : Tf P t (.pointer e) s b zv) {p : Option Addr} (h1 : opv L x = some (.pointer p)) (h2 : opv L y = some (.pointer none)) :
    Qt P n w0 zs hs L ⟨d, .binOp .eql t x y t', ty, pos, af, g⟩ (.bool p.isNone) :=
  q_bin h1 h2 eqg_ptr fun w => by
    simp only [binOp]
    simp [Op.equal, Op.maxDepth, equalIn_pn 9999 ht.und p w]
end
end Go.Fw
end

section
/-! keys that are arrays of numbers; function values that give digests -/
namespace Go.Fw
open Go Go.Sem
def aiv (l : List Int) : Value := .agg (l.map vi).toArray
section
variable {P : Program}
end
/-- A function of one number that gives a digest, and leaves all as it is. -/
def FnD (P : Program) (w : World) (fv : Value) (q : Int → Prop) (f : Int → List UInt8) : Prop :=
  ∃ g fs cs, fv = .func (.func g) fs.toArray cs.toArray ∧ FnOk P g ∧ ∀ w', (ph w).le (ph w') → ∀ x, q x → Ct P g (fs ++ [vi x] ++ cs) w' (fun r _ _ => r = .agg ((f x).map vb).toArray)
theorem FnD.mono {P : Program} {w w' : World} {fv : Value} {q : Int → Prop} {f : Int → List UInt8} (h : FnD P w fv q f) (hle : (ph w).le (ph w')) : FnD P w' fv q f := by
  obtain ⟨g, fs, cs, h1, h2, h3⟩ := h
  exact ⟨g, fs, cs, h1, h2, fun w2 h4 => h3 w2 (PH.le_tr hle h4)⟩
section
variable {P : Program} {n : Nat} {w0 : World} {zs : List PH} {hs : List Res} {L : List (Nat × Value)} {d : Option Tmp} {ty t : TypeId} {pos : String} {af : Array Edge} {g : Option (Nat × Bool)} {x : Operand}
end
end Go.Fw
end

section
/-! slices of structs whose cells hang on a plain value alone -/
namespace Go.Fw
/-- An element whose cells are told by a function. -/
def encK {α : Type} (f : α → List Value) (m : Nat) (p : α → Prop) (hl : ∀ x, (f x).length = m) (h1 : ∀ x, ∀ u ∈ f x, u.oneCell' = true) : Enc α where
  size := m
  rep _ x c := c = f x ∧ p x
  mono _ h := h
  len h := by rw [h.1]; exact hl _
  one h u hu := by rw [h.1] at hu; exact h1 _ u hu
section
variable {α β : Type} {f : α → List β} {m : Nat}
theorem fm_get (hl : ∀ x, (f x).length = m) : ∀ {xs : List α} {i : Nat} {x : α}, xs[i]? = some x → ∀ {j : Nat}, j < m → (xs.flatMap f)[i * m + j]? = (f x)[j]?
  | [], i, x, h, j, _ => by simp at h
  | a :: t, 0, x, h, j, hj => by
    simp only [List.getElem?_cons_zero, Option.some.injEq] at h
    subst h
    rw [List.flatMap_cons, Nat.zero_mul, Nat.zero_add, List.getElem?_append_left (by rw [hl]; exact hj)]
  | a :: t, i + 1, x, h, j, hj => by
    rw [List.getElem?_cons_succ] at h
    rw [List.flatMap_cons, List.getElem?_append_right (by rw [hl, Nat.add_mul]; omega), hl, show (i + 1) * m + j - m = i * m + j by rw [Nat.add_mul]; omega]
    exact fm_get hl h hj
end
section
variable {α : Type} {f : α → List Value} {m : Nat} {p : α → Prop} {hl : ∀ x, (f x).length = m} {h1 : ∀ x, ∀ u ∈ f x, u.oneCell' = true}
variable {z : PH} {v : Value} {xs : List α}
theorem kget (dflt : α) {k : Nat} (hk : k < xs.length) : xs[k]? = some (xs.getD k dflt) := by
  rw [List.getD_eq_getElem?_getD, List.getElem?_eq_getElem hk]; rfl
theorem K_at (dflt : α) (hS : Sl (encK f m p hl h1) z v xs) {k : Nat} (hk : k < xs.length) : cellsV z (elemPtr v (k * m)) m = f (xs.getD k dflt) ∧ p (xs.getD k dflt) := hS.rep (kget dflt hk)
theorem K_all (hS : Sl (encK f m p hl h1) z v xs) : ∀ x ∈ xs, p x := fun x hx => by
  obtain ⟨k, hk, rfl⟩ := List.getElem_of_mem hx
  exact (hS.rep (i := k) (x := xs[k]) (by simp [hk])).2
theorem St.freezeK {w0 : World} {zs : List PH} {hs : List Res} {w : World} {e : TypeId} {k : Nat} (h : St w0 zs (.row v e m k (xs.flatMap f) :: hs) w) (hm : k = xs.length) (hb : k ≤ 140737488355328) (hp : ∀ x ∈ xs, p x) : ∃ z, Sl (encK f m p hl h1) z v xs ∧ St w0 (z :: zs) hs w := by
  refine St.freeze (E := encK f m p hl h1) h (.inl rfl) hm hb fun i x hx => ⟨f x, ⟨rfl, hp x (List.mem_of_getElem? hx)⟩, fun j u hu => ?_⟩
  have hj : j < m := by rw [← hl x]; exact (List.getElem?_eq_some_iff.1 hu).1
  exact (fm_get hl hx hj).trans hu
end
section
variable {P : Program} {n : Nat} {w0 : World} {zs : List PH} {hs : List Res} {L : List (Nat × Value)} {d : Option Tmp} {ty t : TypeId} {pos : String} {af : Array Edge} {g : Option (Nat × Bool)} {x y : Operand} {u v : Value}
variable {α : Type} {f : α → List Value} {m : Nat} {p : α → Prop} {hl : ∀ x, (f x).length = m} {h1 : ∀ x, ∀ u ∈ f x, u.oneCell' = true} {z : PH} {xs : List α}
/-- An element. -/
theorem q_ld_K [Dfs] (dflt : α) {dd : TypeDesc} {by_ : Nat} {zv : Value} (ht : Tf P t dd m by_ zv) {k : Nat} (hS : Sl (encK f m p hl h1) z v xs) (hz : ZIn w0 zs z) (h2 : opv L x = some (elemPtr v (k * m))) (hd : aggD dd = true) (h0 : 0 < m) (hk : k < xs.length) :
    Qt P n w0 zs hs L ⟨d, .load t x, ty, pos, af, g⟩ (.agg (f (xs.getD k dflt)).toArray) := by
  have := q_ld_slA (P := P) (n := n) (w0 := w0) (zs := zs) (hs := hs) (L := L) (d := d) (ty := ty) (pos := pos) (af := af) (g := g) (x := x) (E := encK f m p hl h1) ht (k := k) (m := k * m) rfl h0 hS hz h2 hd hk
  have e := (K_at dflt hS hk).1
  rw [← e]
  exact this
/-- Where a field of an element lies. -/
theorem q_fld_E [Dfs] {β : Type} {E : Enc β} {ys : List β} {fs : Array Field} {s by_ : Nat} {zv : Value} (ht : Tf P t (.struct fs) s by_ zv) {k : Nat} (hS : Sl E z v ys) (h2 : opv L x = some (elemPtr v (k * E.size))) (hk : k < ys.length) {j : Nat} {fd : Field} {s' : Nat} (hf : fs[j]? = some fd) (hsz : (P.info? fd.type).map (·.size) = some (s' + 1)) :
    Qt P n w0 zs hs L ⟨d, .fieldAddr t x j, ty, pos, af, g⟩ (elemPtr v (k * E.size + fd.offset)) := by
  obtain ⟨b, off, e1, e2⟩ := elemPtr_add hS hk
  rw [e1] at h2
  rw [e2]
  exact q_fieldAddr ht h2 hf hsz
/-- A field of an element. -/
theorem q_ld_K1 [Dfs] (dflt : α) {dd : TypeDesc} {s by_ : Nat} {zv : Value} (ht : Tf P t dd s by_ zv) {k j : Nat} (hS : Sl (encK f m p hl h1) z v xs) (hz : ZIn w0 zs z) (h2 : opv L x = some (elemPtr v (k * m + j))) (hd : aggD dd = false) (hk : k < xs.length) {u : Value} (hu : (f (xs.getD k dflt))[j]? = some u) :
    Qt P n w0 zs hs L ⟨d, .load t x, ty, pos, af, g⟩ u := by
  obtain ⟨b, off, cs, ty', fz, cx, hp, hzb, hr, hc⟩ := hS.at (kget dflt hk)
  obtain ⟨b', off', e1, e2⟩ := elemPtr_add hS hk
  have e3 : (Value.pointer (some ⟨b', off', none⟩)) = .pointer (some ⟨b, off, none⟩) := e1.symm.trans hp
  injection e3 with e3; injection e3 with e3; injection e3 with e4 e5
  subst e4; subst e5
  have e6 : elemPtr v (k * m + j) = .pointer (some ⟨b', off' + j, none⟩) := e2 j
  rw [e6] at h2
  refine q_ld_z ht h2 hd hz hzb (hc j u ?_)
  rw [hr.1]; exact hu
end
/-! ### structs of two strings -/
def kvC (x : List UInt8 × List UInt8) : List Value := [vs x.1, vs x.2]
def kvP (x : List UInt8 × List UInt8) : Prop := x.1.length ≤ 140737488355328 ∧ x.2.length ≤ 140737488355328
theorem kvC_len (x : List UInt8 × List UInt8) : (kvC x).length = 2 := rfl
theorem kvC_one (x : List UInt8 × List UInt8) : ∀ u ∈ kvC x, u.oneCell' = true := fun u hu => by
  simp only [kvC, List.mem_cons, List.not_mem_nil, or_false] at hu
  rcases hu with rfl | rfl <;> rfl
def encF : Enc (List UInt8 × List UInt8) := encK kvC 2 kvP kvC_len kvC_one
def kv0 : List UInt8 × List UInt8 := ([], [])
section
variable {P : Program} {n : Nat} {w0 : World} {zs : List PH} {hs : List Res} {L : List (Nat × Value)} {d : Option Tmp} {ty t : TypeId} {pos : String} {af : Array Edge} {g : Option (Nat × Bool)} {x y : Operand} {u v : Value} {z : PH} {xs : List (List UInt8 × List UInt8)}
end
end Go.Fw
end

section
/-! strings in their order; sums that may wrap; the machine's compare of strings -/
namespace Go.Fw
section
variable {P : Program} {n : Nat} {w0 : World} {zs : List PH} {hs : List Res} {L : List (Nat × Value)} {d : Option Tmp} {ty t t' : TypeId} {pos : String} {af : Array Edge} {g : Option (Nat × Bool)} {x y : Operand} {u v : Value}
/-- A sum that may wrap. -/
def wr (n : Int) : Int := IntKind.i64.wrap n
end
end Go.Fw
end

section
/-! own rows of wide elements: cut, one element left out, one cell written -/
namespace Go.Fw
section
variable {P : Program} {n : Nat} {w0 : World} {zs : List PH} {hs : List Res} {L : List (Nat × Value)} {d : Option Tmp} {ty t t' : TypeId} {pos : String} {af : Array Edge} {g : Option (Nat × Bool)} {x y : Operand} {u v : Value}
/-- One cell of an own row. -/
theorem ef_st_cell [Dfs] {dd : TypeDesc} {by_ size : Nat} {zv : Value} (ht : Tf P t dd 1 by_ zv) (k : Nat) {e : TypeId} {m j : Nat} {cs : List Value} (h1 : opv L x = some (elemPtr v j)) (h2 : opv L y = some u) (hk : hs[k]? = some (.row v e size m cs)) (hj : j < m * size) (ho : u.oneCell' = true) :
    Ef P n w0 zs hs L ⟨d, .store t x y, ty, pos, af, g⟩ (fun v' zs' hs' => v' = undef ∧ zs' = zs ∧ hs' = hs.set k (.row v e size m (cs.set j u))) :=
  ef_of fun a ha w hw => by
    have hc : u.cells = [u].toArray := by cases u <;> first | rfl | (simp [Value.oneCell'] at ho)
    have hlc : cs.length = m * size := (hw.own _ (List.mem_of_getElem? hk)).1.1
    obtain ⟨b, cap, cur, rfl, _, hb, hl, hS⟩ := hw.storeRow (c := [u]) hk (j := j) (by rw [List.length_singleton]; omega) (by
      rcases Nat.eq_zero_or_pos m with h | h
      · rw [h, Nat.zero_mul] at hj; omega
      · exact h)
    have he : cs.take j ++ [u] ++ cs.drop (j + [u].length) = cs.set j u := by
      simp only [List.set_eq_take_append_cons_drop, if_pos (show j < cs.length by omega), List.append_assoc, List.cons_append, List.nil_append, List.length_singleton]
    rw [he] at hS
    have hr := run_storeVar (v := u) ht (b := b) (off := j) (bt := e) (cs := cur.toList) (w := w) (by simpa using hb) (by rw [hc]; rfl) (by rw [hc]; simpa using ho) (by simpa using hl)
    rw [hc] at hr
    refine ⟨undef, zs, _, _, .inr ⟨?_, rfl⟩, ⟨rfl, rfl, rfl⟩, hS⟩
    have hx : a.eval x = .pointer (some ⟨b, j, none⟩) := (ha.eval h1).trans (by simp [elemPtr, add_at])
    simp only [execOp, hx, ha.eval h2]
    simp [Instr.storeAt, Instr.sureAddr, hr]
/-- A cell of an element (an array) of an own row: where it lies. -/
theorem q_idx_rowE [Dfs] {m9 size c kk : Nat} {e e' : TypeId} {s by_ : Nat} {zv : Value} (ht : Tf P t (.array m9 e) s by_ zv) {de : TypeDesc} {be : Nat} {ze : Value} (hte : Tf P e de 1 be ze) (q : Nat) {cs : List Value} {i : Int} {ik : IntKind} (hq : hs[q]? = some (.row v e' size c cs)) (h2 : opv L x = some (elemPtr v (kk * size))) (h3 : opv L y = some (.int ik i)) (hk : kk < c) (hb : 0 ≤ i ∧ i < m9) :
    Qt P n w0 zs hs L ⟨d, .indexAddr t x y, ty, pos, af, g⟩ (elemPtr v (kk * size + i.toNat)) := fun a ha w hw => by
  have hown := (hw.own _ (List.mem_of_getElem? hq)).1
  rcases hown.2 with ⟨rfl, hn⟩ | ⟨b, cap, cur, rfl, _⟩
  · omega
  · have e1 : elemPtr (.slice (some ⟨b, 0, none⟩) c cap) (kk * size) = .pointer (some ⟨b, kk * size, none⟩) := by simp [elemPtr, add_at]
    have e2 : elemPtr (.slice (some ⟨b, 0, none⟩) c cap) (kk * size + i.toNat) = .pointer (some ⟨b, kk * size + i.toNat, none⟩) := by simp [elemPtr, add_at]
    rw [e1] at h2
    rw [e2]
    have := q_idx_arr (P := P) (n := n) (w0 := w0) (zs := zs) (hs := hs) (d := d) (ty := ty) (pos := pos) (af := af) (g := g) ht hte h2 h3 hb
    rw [Nat.mul_one] at this
    exact this a ha w hw
theorem flat_at {xs : List (List UInt8)} {m : Nat} (hl : ∀ x ∈ xs, x.length = m) {k i : Nat} (hk : k < xs.length) (hi : i < m) : (xs.flatten.map vb)[k * m + i]? = some (vb ((xs.getD k []).getD i 0)) := by
  have h1 := flat_map_get hl (i := k) (x := xs[k]) (by simp [hk]) hi
  rw [h1]
  have h2 : (xs[k]).length = m := hl _ (List.getElem_mem hk)
  have e1 : xs.getD k [] = xs[k] := by rw [List.getD_eq_getElem?_getD, List.getElem?_eq_getElem hk]; rfl
  rw [e1, List.getElem?_map, List.getD_eq_getElem?_getD, List.getElem?_eq_getElem (by omega)]
  rfl
theorem flat_set1 {m : Nat} : ∀ {xs : List (List UInt8)} (_ : ∀ x ∈ xs, x.length = m) {k i : Nat} (_ : k < xs.length) (_ : i < m) (b : UInt8), (xs.flatten.map vb).set (k * m + i) (vb b) = ((xs.set k ((xs.getD k []).set i b)).flatten.map vb)
  | [], _, k, i, hk, _, b => by simp at hk
  | c :: t, hl, 0, i, hk, hi, b => by
    have hc : c.length = m := hl c (List.mem_cons_self ..)
    rw [List.flatten_cons, List.map_append, Nat.zero_mul, Nat.zero_add, List.set_append_left _ _ (by rw [List.length_map]; omega), List.set_cons_zero, List.flatten_cons, List.map_append, List.map_set]
    rfl
  | c :: t, hl, k + 1, i, hk, hi, b => by
    have hc : c.length = m := hl c (List.mem_cons_self ..)
    rw [List.flatten_cons, List.map_append, List.set_append_right _ _ (by rw [List.length_map, hc, Nat.add_mul]; omega), List.length_map, hc, show (k + 1) * m + i - m = k * m + i by rw [Nat.add_mul]; omega, flat_set1 (fun x hx => hl x (List.mem_cons_of_mem _ hx)) (by simpa using hk) hi b, List.set_cons_succ, List.flatten_cons, List.map_append, List.getD_cons_succ]
end
end Go.Fw
end

section
/-! arguments: slices of arrays of two strings; make of structs -/
namespace Go.Fw
open Go.ChangeShapes Go.WideShapes Go.ChangeAt Go.RowKit
section
variable {H : Type} {enc : TypeId × Value → H} {P : Program} {W : World} {t e : TypeId}
end
section
variable {P : Program} {n : Nat} {w0 : World} {zs : List PH} {hs : List Res} {L : List (Nat × Value)} {d : Option Tmp} {ty t : TypeId} {pos : String} {af : Array Edge} {g : Option (Nat × Bool)} {x y : Operand} {v : Value}
theorem rep_get {c : List Value} {size m : Nat} (hc : c.length = size) (h0 : 0 < size) : ∀ j, j < m * size → ((List.replicate m c).flatten)[j]? = c[j % size]? := by
  induction m with
  | zero => intro j h; rw [Nat.zero_mul] at h; omega
  | succ m ih =>
    intro j h
    rw [List.replicate_succ, List.flatten_cons]
    rcases Nat.lt_or_ge j size with h1 | h1
    · rw [List.getElem?_append_left (by omega), Nat.mod_eq_of_lt h1]
    · rw [List.getElem?_append_right (by omega), hc, ih (j - size) (by rw [Nat.add_mul, Nat.one_mul] at h; omega), ← Nat.mod_eq_sub_mod h1]
/-- make([]T, m), of structs. -/
theorem ef_mksS [Dfs] {e : TypeId} {s by_ size : Nat} {zv : Value} (ht : Tf P t (.slice e) s by_ zv) {de : TypeDesc} {be : Nat} {zc : List Value} (hte : Tf P e de size be (.agg zc.toArray)) {m : Nat} (h1 : opv L x = some (vi (m : Int))) (h2 : opv L y = some (vi (m : Int))) (hb : be * m ≤ 140737488355328) (hm : m ≤ 140737488355328) (hz : zc.length = size) (hs0 : 0 < size) (h0 : 0 < m) :
    Ef P n w0 zs hs L ⟨d, .makeSlice t x y, ty, pos, af, g⟩ (fun v zs' hs' => zs' = zs ∧ hs' = .row v e size m (List.replicate m zc).flatten :: hs) :=
  ef_of fun a ha w hw => by
    have hlen : ((List.replicate m zc).flatten).length = m * size := by
      rw [List.length_flatten, List.map_replicate, hz]
      induction m with
      | zero => simp
      | succ k ih => simp
    have hst := hw.newRow e (List.replicate m zc).flatten size m m hlen (Nat.le_refl _) (by unfold maxLen; omega)
    rw [List.take_of_length_le (by omega)] at hst
    refine ⟨_, zs, _, _, .inl ?_, ⟨rfl, rfl⟩, hst⟩
    obtain ⟨i, hi, hi1, hi2, hi3⟩ := hte.tinfo w
    have hw1 : IntKind.i64.wrap (m : Int) = m := by
      simp [IntKind.wrap, IntKind.bits, IntKind.signed]
      omega
    have hbm : ((be : Int) * (m : Int)) = ((be * m : Nat) : Int) := by simp
    have hbig : ¬ ((m : Int) < 0 ∨ (i.bytes : Int) * m > 2 ^ 48) := by rw [hi2, hbm]; omega
    simp only [execOp, ha.eval h1, ha.eval h2]
    have hr : (Instr.makeSlice t (vi m) (vi m)).run P w = .ok (.slice (some ⟨w.heap.size, 0, none⟩) m m) { w with heap := w.heap.push (.cells (List.replicate m zc).flatten.toArray e (0, 0)) } := by
      unfold Instr.makeSlice
      rw [Sem.run_bind, run_underlying ht.und]
      simp only [Result.andThen_ok]
      have ha : (asIntOf (vi (m : Int))).run P w = .ok (.i64, (m : Int)) w := by simp [asIntOf, vi]
      simp only [asInt, Sem.run_bind, Sem.run_map, ha, Sem.run_pure, Result.andThen_ok, hi, hw1]
      have hroom : ¬ ((m : Int).toNat * i.bytes > roomBytes) := by
        rw [hi2, Int.toNat_natCast, Nat.mul_comm]
        unfold roomBytes
        omega
      have hd : (decide ((m : Int) < 0) || decide ((i.bytes : Int) * m > 2 ^ 48)) = false := by
        simpa using hbig
      have hd2 : ¬ ((m : Int) < 0) := by omega
      simp only [hd, hd2, Bool.false_eq_true, false_or, gt_iff_lt, Int.lt_irrefl, if_false, decide_false, Bool.false_or, or_self, if_neg, not_false_eq_true, Sem.run_bind, Sem.run_pure, Result.andThen_ok]
      unfold askRoom
      rw [if_neg hroom]
      simp only [Sem.run_bind, Sem.run_pure, Result.andThen_ok, hte.sizeOf, Int.toNat_natCast]
      have hlt : decide ((2 : Int) ^ 48 < (i.bytes : Int) * m) = false := by
        rw [decide_eq_false_iff_not]
        omega
      rw [if_neg (by rw [hlt]; decide)]
      simp only [Sem.run_bind, Sem.run_pure, Result.andThen_ok, hte.sizeOf]
      have hms : ¬ (m * size = 0) := Nat.ne_of_gt (Nat.mul_pos h0 hs0)
      rw [if_neg hms]
      simp only [Sem.run_bind, Sem.run_pure, hte.zero, Result.andThen_ok]
      have hcc : (Value.agg zc.toArray).cells = zc.toArray := rfl
      have hsz : zc.toArray.size = size := by simpa using hz
      rw [hcc, hsz]
      have e0 : Array.map (fun x => zc.toArray[x % size]!) (Array.range (m * size)) = (List.replicate m zc).flatten.toArray := by
        apply Array.ext'
        refine List.ext_getElem? fun j => ?_
        rcases Nat.lt_or_ge j (m * size) with h | h
        · rw [show ((List.replicate m zc).flatten.toArray).toList = (List.replicate m zc).flatten from rfl, rep_get hz hs0 j h]
          have hjm : j % size < zc.length := by rw [hz]; exact Nat.mod_lt _ hs0
          have h9 : j < (Array.map (fun x => zc.toArray[x % size]!) (Array.range (m * size))).toList.length := by simp; exact h
          rw [List.getElem?_eq_getElem h9, List.getElem?_eq_getElem hjm]
          simp [hjm]
        · rw [List.getElem?_eq_none (by simp; exact h), List.getElem?_eq_none (by simp [hlen]; omega)]
      rw [e0]
      simp [newRow]
    rw [Sem.run_bind, hr]
    rfl
end
end Go.Fw
end

section
/- A range over a function in whose rounds more than one thing is changed; s[lo:hi:max]. -/
namespace Go.Fw
section
variable {P : Program} {n : Nat} {w0 : World} {zs : List PH} {L : List (Nat × Value)}

theorem St.shutK {w0 w : World} {zs zs2 : List PH} {hs : List Res} {b : Nat} {o o' : Obj} (h : St w0 zs hs w) (hz : ph1 b o ∈ zs) (h2 : ∀ z ∈ zs2, z ∈ zs) (hn : ∀ z ∈ zs2, z b = none) : w.heap[b]? = some o ∧ St w0 zs2 hs (w.putObj b o') := by
  have h1 : St w0 (ph1 b o :: zs2) hs w := by
    refine ⟨h.ext, fun z hz' => ?_, fun r hr => ⟨(h.own r hr).1, fun k hk z hz' => ?_⟩, h.nd, h.io⟩
    · rcases List.mem_cons.1 hz' with rfl | hz'
      · exact h.zone _ hz
      · exact h.zone _ (h2 z hz')
    · rcases List.mem_cons.1 hz' with rfl | hz'
      · exact (h.own r hr).2 k hk _ hz
      · exact (h.own r hr).2 k hk _ (h2 z hz')
  exact ⟨(h1.zone _ List.mem_cons_self).1 b o (by unfold ph1; rw [if_pos rfl]), (h1.swap hn o').keep (List.sublist_cons_self _ _) (List.Sublist.refl _)⟩
theorem fn_retG [I : Dfs] {D : Nat} {zD : PH} {fn : Func} {w : World} {hs : List Res} {a : Act} {R : Value → List PH → List Res → Prop} {rs : List ResultVar} (zs2 : List PH) (hI : I.ds = [{ target := .collected D, args := #[] }]) (hD : zD = ph1 D (.deferred (some []))) (hz : zD ∈ zs) (h2 : ∀ z ∈ zs2, z ∈ zs) (hn : ∀ z ∈ zs2, z D = none) (hrs : fn.results = rs.toArray) (hF : Fr n L a) (hS : St w0 zs hs w) {vs : List Value} (hv : ResVs P L hs rs vs)
    (hR : ∀ W, St w0 zs2 hs W → ∃ zs' hs', St w0 zs' hs' W ∧ R (resVal vs) zs' hs') :
    bodyPostM (Fe none) 0 P fn (fun e w' => ∃ v zs hs, e = .returned v ∧ St w0 zs hs w' ∧ R v zs hs) .ret a w := by
  have hnd : a.defers = [{ target := .collected D, args := #[] }] := hF.nodef.trans hI
  subst hD
  obtain ⟨hb, hS'⟩ := hS.shutK (o' := .deferred none) hz h2 hn
  show LeavesInM (Fe none) 0 P fn a.tmps _ a.defers .returning w
  rw [hnd]
  refine ⟨by simp, .inl ⟨D, _, rfl, run_takeDeferred hb, ?_⟩⟩
  obtain ⟨zs', hs', hS2, hr⟩ := hR _ hS'
  exact ⟨_, run_results hrs hF hS' hv, _, _, _, rfl, hS2, hr⟩
theorem regJR [Dfs] {id : Nat} {Q : Exit → Act → World → Prop} {J : Act → World → Prop} {a : Act} {w : World} {l : List Oper} {hs : List Res} {ro : Option Nat} {m : Nat} (ls : Array Bool) (f : Nat) (hm : P.follows .mixedOrders = true) (hls : Array.replicate l.length false = ls) (hf : l.length = f)
    (h : ∀ w, Fr n L a → St w0 zs hs w → GoW P l.toArray J f [] ls a w) (K : ∀ a w, J a w → Q .normal a w) (hd : l.all ndB = true) : Fr n L a → St w0 zs hs w → (Code.region id l.toArray true).wpIn (Fe ro) m P Q a w := by
  intro hF hS
  subst hls hf
  have e : (QJ J .normal) = J := funext fun a => funext fun w => propext ⟨And.right, fun h => ⟨rfl, h⟩⟩
  refine wpIn_mono (region_in (Q := QJ J) hm (by simpa using hd) ?_) (fun e a w q => by obtain ⟨rfl, hj⟩ := q; exact K _ _ hj)
  rw [e]
  refine wpAny_of_wpW _ [] _ _ _ ?_
  have := h _ hF (hS.drew (w.drawn + 1)) (fun k o _ hk => ?_) trivial
  · simpa using this
  · exact absurd hk (by simp [Array.getD_eq_getD_getElem?, Array.getElem?_replicate]; split <;> simp)
theorem CxH.full2 {f : FuncId} {args : List Value} {zsr : List PH} {r1 r2 ra rb : Res} {hsr : List Res} {J : Res × Res → Prop} (h : CxH P f args w0 zsr [r1, r2, ra, rb] hsr (fun _ zs1 hs1 => zs1 = [] ∧ ∃ r : Res × Res, hs1 = [r1, r2, r.1, r.2] ∧ J r)) (w : World) (hS : St w0 zsr (r1 :: r2 :: ra :: rb :: hsr) w) :
    Calls P f args.toArray w fun e w' => (∃ v, e = .returned v) ∧ ∃ r : Res × Res, J r ∧ St w0 zsr (r1 :: r2 :: r.1 :: r.2 :: hsr) w' :=
  Calls.mono (h w hS) fun e w' ⟨v, zs1, hs1, he, hS', h1, r, h2, h3⟩ => by
    subst h1 h2
    exact ⟨⟨v, he⟩, r, h3, hS'⟩
end
section
variable {P : Program} {n : Nat} {w0 : World} {zs : List PH} {hs : List Res} {L : List (Nat × Value)} {d : Option Tmp} {ty t : TypeId} {pos : String} {af : Array Edge} {g : Option (Nat × Bool)} {x y y2 c : Operand} {v : Value}
end
end Go.Fw
end

section
/-! maps whose entries bear their stamps -/
namespace Go.Fw
open Go Go.Sem
/-- What a map holds, and that its stamps are apart. -/
def MpT {α : Type} (kf : α → Value) (l : List (α × Value)) (es : List MapEntry) (c : Nat) : Prop := MpR kf l es ∧ (∀ x ∈ es, x.born < c) ∧ (es.map (·.born)).Nodup
theorem MpT.nil {α : Type} {kf : α → Value} : MpT kf [] [] 0 := ⟨rfl, fun x h => (by cases h), List.nodup_nil⟩
section
variable {P : Program} {n : Nat} {w0 : World} {zs : List PH} {hs : List Res} {L : List (Nat × Value)} {d : Option Tmp} {ty t t2 : TypeId} {pos : String} {af : Array Edge} {g : Option (Nat × Bool)} {x y o3 : Operand} {u v : Value}
variable {α : Type} [DecidableEq α] {kf : α → Value} {V : α → Prop} {kt e : TypeId}
theorem ef_mapsetT [Dfs] {s by_ : Nat} {zv : Value} (ht : Tf P t (.map kt e) s by_ zv) (hK : KeyOk P kt kf V) (k : Nat) {l : List (α × Value)} {es : List MapEntry} {c b : Nat} (h1 : opv L x = some (.map (some b))) {a : α} (h2 : opv L y = some (kf a)) (h3 : opv L o3 = some u) (hk : hs[k]? = some (.mp b es c)) (hM : MpT kf l es c) (hV : ∀ p ∈ l, V p.1) (ha : V a) :
    Ef P n w0 zs hs L ⟨d, .mapUpdate t x y o3, ty, pos, af, g⟩ (fun v' zs' hs' => ∃ es' c', MpT kf (aset a u l) es' c' ∧ v' = undef ∧ zs' = zs ∧ hs' = hs.set k (.mp b es' c')) :=
  ef_of fun ac hac w hw => by
    obtain ⟨hM, hB, hN⟩ := hM
    have hb := (hw.own _ (List.mem_of_getElem? hk)).1
    have hg : ∀ w : World, w.heap[b]? = some (.map es.toArray c) → (getObj b).run P w = .ok (.map es.toArray c) w := fun w hb => by simp [getObj, Sem.run, hb]
    have hlt : b < w.heap.size := (Array.getElem?_eq_some_iff.1 hb.2).1
    have hset : ∀ (es' : List MapEntry) (c' : Nat), (setObj b (.map es'.toArray c')).run P w = .ok () { w with heap := w.heap.setIfInBounds b (.map es'.toArray c') } := fun es' c' => by simp [setObj, Sem.run, hb.2]
    have hst : ∀ (es' : List MapEntry) (c' : Nat), St w0 zs (hs.set k (.mp b es' c')) { w with heap := w.heap.setIfInBounds b (.map es'.toArray c') } := fun es' c' =>
      hw.set hk rfl (fun j hj => by
        have hne : b ≠ j := fun e => hj (by rw [e]; rfl)
        show (w.heap.setIfInBounds b _)[j]? = _
        rw [Array.getElem?_setIfInBounds, if_neg hne]) ⟨hb.1, by
        show (w.heap.setIfInBounds b _)[b]? = _
        rw [Array.getElem?_setIfInBounds, if_pos rfl, if_pos hlt]⟩ (by simp) ⟨rfl, rfl, rfl⟩
    have hfk := hK.find a w l es hM hV ha
    cases hf : fnd a l 0 with
    | none =>
      refine ⟨undef, zs, _, _, .inr ⟨?_, rfl⟩, ⟨es ++ [(⟨kf a, u, c⟩ : MapEntry)], c + 1, ⟨mpR_none hM hf, fun x hx => ?_, ?_⟩, rfl, rfl, rfl⟩, hst _ _⟩
      · simp only [execOp, hac.eval h1, hac.eval h2, hac.eval h3]
        have hr : (Instr.mapUpdate t (.map (some b)) (kf a) u).run P w = .ok () { w with heap := w.heap.setIfInBounds b (.map (es ++ [(⟨kf a, u, c⟩ : MapEntry)]).toArray (c + 1)) } := by
          unfold Instr.mapUpdate
          rw [Sem.run_bind, run_underlying ht.und]
          simp only [Result.andThen_ok, Sem.run_bind, hg w hb.2, hK.chk _ _ _ ha, hfk, hf]
          rw [← hset]
          simp
        rw [Sem.run_bind, hr]
        rfl
      · rcases List.mem_append.1 hx with h | h
        · exact Nat.lt_succ_of_lt (hB x h)
        · rw [List.mem_singleton] at h; subst h; exact Nat.lt_succ_self c
      · rw [List.map_append, List.nodup_append]
        refine ⟨hN, by simp, fun p hp q hq => ?_⟩
        simp only [List.map_cons, List.map_nil, List.mem_singleton] at hq
        obtain ⟨x, hx, rfl⟩ := List.mem_map.1 hp
        have := hB x hx
        omega
    | some p =>
      obtain ⟨j, v⟩ := p
      obtain ⟨e9, h5, h6, h7⟩ := mpR_some (u := u) hM hf
      rw [Nat.sub_zero] at h5 h7
      have hbn : (es.modify j fun e => { e with key := kf a, val := u }).map (·.born) = es.map (·.born) := by
        apply List.ext_getElem?
        intro i
        rw [List.getElem?_map, List.getElem?_map, List.getElem?_modify]
        cases es[i]? with
        | none => rfl
        | some e => simp only [Option.map_some]; split <;> rfl
      refine ⟨undef, zs, _, _, .inr ⟨?_, rfl⟩, ⟨_, c, ⟨h7, fun x hx => ?_, hbn ▸ hN⟩, rfl, rfl, rfl⟩, hst _ _⟩
      · simp only [execOp, hac.eval h1, hac.eval h2, hac.eval h3]
        have hr : (Instr.mapUpdate t (.map (some b)) (kf a) u).run P w = .ok () { w with heap := w.heap.setIfInBounds b (.map (es.modify j fun e => { e with key := kf a, val := u }).toArray c) } := by
          unfold Instr.mapUpdate
          rw [Sem.run_bind, run_underlying ht.und]
          simp only [Result.andThen_ok, Sem.run_bind, hg w hb.2, hK.chk _ _ _ ha, hfk, hf]
          have hks : ∀ w : World, (Instr.keyThatStays (kf a) (kf a)).run P w = .ok (kf a) w := fun w => by
            unfold Instr.keyThatStays
            rw [if_pos (hK.bits a)]
            rfl
          have e1 : ((es.toArray[j]?).map (·.key)).getD (kf a) = kf a := by
            rw [List.getElem?_toArray, h5]
            exact h6
          rw [e1, hks]
          simp only [Result.andThen_ok]
          rw [← hset]
          simp
        rw [Sem.run_bind, hr]
        rfl
      · have h8 : x.born ∈ es.map (·.born) := by rw [← hbn]; exact List.mem_map_of_mem hx
        obtain ⟨y, hy, he⟩ := List.mem_map.1 h8
        rw [← he]; exact hB y hy
theorem ef_mapdelT [Dfs] {s by_ : Nat} {zv : Value} (ht : Tf P t (.map kt e) s by_ zv) (hK : KeyOk P kt kf V) (k : Nat) {l : List (α × Value)} {es : List MapEntry} {c b : Nat} (h1 : opv L x = some (.map (some b))) {a : α} (h2 : opv L y = some (kf a)) (hk : hs[k]? = some (.mp b es c)) (hM : MpT kf l es c) (hV : ∀ p ∈ l, V p.1) (ha : V a) :
    Ef P n w0 zs hs L ⟨d, .call ⟨.builtin .delete, #[x, y], #[t, t2]⟩, ty, pos, af, g⟩ (fun v' zs' hs' => ∃ es' c', MpT kf (adel a l) es' c' ∧ zs' = zs ∧ hs' = hs.set k (.mp b es' c')) :=
  ef_of fun ac hac w hw => by
    obtain ⟨hM, hB, hN⟩ := hM
    have hb := (hw.own _ (List.mem_of_getElem? hk)).1
    have hg : ∀ w : World, w.heap[b]? = some (.map es.toArray c) → (getObj b).run P w = .ok (.map es.toArray c) w := fun w hb => by simp [getObj, Sem.run, hb]
    have hlt : b < w.heap.size := (Array.getElem?_eq_some_iff.1 hb.2).1
    have hset : ∀ (es' : List MapEntry) (c' : Nat), (setObj b (.map es'.toArray c')).run P w = .ok () { w with heap := w.heap.setIfInBounds b (.map es'.toArray c') } := fun es' c' => by simp [setObj, Sem.run, hb.2]
    have hst : ∀ (es' : List MapEntry) (c' : Nat), St w0 zs (hs.set k (.mp b es' c')) { w with heap := w.heap.setIfInBounds b (.map es'.toArray c') } := fun es' c' =>
      hw.set hk rfl (fun j hj => by
        have hne : b ≠ j := fun e => hj (by rw [e]; rfl)
        show (w.heap.setIfInBounds b _)[j]? = _
        rw [Array.getElem?_setIfInBounds, if_neg hne]) ⟨hb.1, by
        show (w.heap.setIfInBounds b _)[b]? = _
        rw [Array.getElem?_setIfInBounds, if_pos rfl, if_pos hlt]⟩ (by simp) ⟨rfl, rfl, rfl⟩
    have hfk := hK.find a w l es hM hV ha
    have key : ∃ es', MpT kf (adel a l) es' c ∧ (Builtin.delete_ #[t, t2] ty #[.map (some b), kf a]).run P w = .ok (.tuple #[]) { w with heap := w.heap.setIfInBounds b (.map es'.toArray c) } := by
      unfold adel
      cases hf : fnd a l 0 with
      | none =>
        refine ⟨es, ⟨hM, hB, hN⟩, ?_⟩
        unfold Builtin.delete_
        simp only [List.getElem?_toArray, List.getElem?_cons_zero, List.getElem?_cons_succ, Sem.run_bind, run_underlying ht.und, Result.andThen_ok, hg w hb.2, hK.chk _ _ _ ha, hfk, hf]
        rw [hset]
        rfl
      | some p =>
        obtain ⟨i, v⟩ := p
        refine ⟨es.eraseIdx i, ⟨mpR_erase hM i, fun x hx => hB x (List.mem_of_mem_eraseIdx hx), by rw [← map_erase]; exact List.Pairwise.sublist (List.eraseIdx_sublist _ _) hN⟩, ?_⟩
        unfold Builtin.delete_
        simp only [List.getElem?_toArray, List.getElem?_cons_zero, List.getElem?_cons_succ, Sem.run_bind, run_underlying ht.und, Result.andThen_ok, hg w hb.2, hK.chk _ _ _ ha, hfk, hf]
        have e1 : es.toArray.eraseIdxIfInBounds i = (es.eraseIdx i).toArray := by
          rw [List.eraseIdxIfInBounds_toArray]
        rw [e1, hset]
        rfl
    obtain ⟨es', h5, h6⟩ := key
    refine ⟨.tuple #[], zs, _, _, .inl ?_, ⟨es', c, h5, rfl, rfl⟩, hst _ _⟩
    simp only [execOp, resolve]
    simp only [invoke, builtin, Sem.run_bind, Sem.run_pure, Result.andThen_ok, List.map_toArray, List.map_cons, List.map_nil, hac.eval h1, hac.eval h2]
    rw [h6]
    rfl
theorem q_lookupD [Dfs] {s by_ : Nat} {zv : Value} (ht : Tf P t (.map kt e) s by_ zv) {de : TypeDesc} {se be : Nat} {ze : Value} (hte : Tf P e de se be ze) (hK : KeyOk P kt kf V) (k : Nat) {l : List (α × Value)} {es : List MapEntry} {c b : Nat} (h1 : opv L x = some (.map (some b))) {a : α} (h2 : opv L y = some (kf a)) (hk : hs[k]? = some (.mp b es c)) (hM : MpR kf l es) (hV : ∀ p ∈ l, V p.1) (ha : V a) (hu : (aget l a).getD ze = u) :
    Qt P n w0 zs hs L ⟨d, .lookup t x y false, ty, pos, af, g⟩ u := by
  have := q_lookup (P := P) (n := n) (w0 := w0) (zs := zs) (d := d) (ty := ty) (pos := pos) (af := af) (g := g) ht hte hK k h1 h2 hk hM hV ha
  rwa [hu] at this
end
end Go.Fw
end

section
/-! elements (arrays) of own rows: cut, read, copied to; structs stored whole -/
namespace Go.Fw
open Go Go.Sem
/-- The cells of a row from 'off' on, as a slice. -/
def rowSl (v : Value) (off len cap : Nat) : Value :=
  match v with
  | .slice (some a) _ _ => .slice (some (a.add off)) len cap
  | _ => undef
section
variable {P : Program} {n : Nat} {w0 : World} {zs : List PH} {hs : List Res} {L : List (Nat × Value)} {d : Option Tmp} {ty t t' : TypeId} {pos : String} {af : Array Edge} {g : Option (Nat × Bool)}
variable {x y c : Operand} {u v : Value}
theorem own_some {base : Nat} {w : World} {e : TypeId} {s m : Nat} {cs : List Value} (h : (Res.row v e s m cs).ok base w) (hm : 0 < m) : ∃ b cap cur, v = .slice (some ⟨b, 0, none⟩) m cap ∧ w.heap[b]? = some (.cells cur e (0, 0)) ∧ cs.length ≤ cur.size ∧ cur.toList.take cs.length = cs := by
  rcases h.2 with ⟨rfl, hn⟩ | ⟨b, cap, cur, rfl, hb, hg, hnc, hcm, hcs, htake⟩
  · omega
  · have hl := h.1
    have hms : m * s ≤ cap * s := Nat.mul_le_mul_right s hnc
    exact ⟨b, cap, cur, rfl, hg, by omega, by rw [hl]; exact htake⟩
theorem q_slE [Dfs] {m k cnt size : Nat} {e e' : TypeId} {s by_ : Nat} {zv : Value} (ht : Tf P t (.array m e) s by_ zv) {de : TypeDesc} {se be : Nat} {ze : Value} (hte : Tf P e de se be ze) (q : Nat) {cs : List Value} (hq : hs[q]? = some (.row v e' size cnt cs)) (h1 : opv L x = some (elemPtr v (k * size))) (hk : k < cnt) :
    Qt P n w0 zs hs L ⟨d, .slice t x none none none, ty, pos, af, g⟩ (rowSl v (k * size) m m) := fun a ha w hw => by
  obtain ⟨b, cap, cur, rfl, _⟩ := own_some (hw.own _ (List.mem_of_getElem? hq)).1 (by omega)
  have e1 : elemPtr (.slice (some ⟨b, 0, none⟩) cnt cap) (k * size) = .pointer (some ⟨b, k * size, none⟩) := by simp [elemPtr, add_at]
  have e2 : rowSl (.slice (some ⟨b, 0, none⟩) cnt cap) (k * size) m m = .slice (some ⟨b, k * size, none⟩) m m := by simp [rowSl, add_at]
  rw [e1] at h1
  rw [e2]
  exact q_sla (P := P) (n := n) (w0 := w0) (zs := zs) (hs := hs) (d := d) (ty := ty) (pos := pos) (af := af) (g := g) ht hte h1 a ha w hw
theorem q_slE_hi [Dfs] {m k cnt size : Nat} {e e' : TypeId} {s by_ : Nat} {zv : Value} (ht : Tf P t (.array m e) s by_ zv) {de : TypeDesc} {se be : Nat} {ze : Value} (hte : Tf P e de se be ze) (q : Nat) {cs : List Value} {ik : IntKind} {i : Int} (hq : hs[q]? = some (.row v e' size cnt cs)) (h1 : opv L x = some (elemPtr v (k * size))) (h2 : opv L y = some (.int ik i)) (hk : k < cnt) (hb : 0 ≤ i ∧ i ≤ m) :
    Qt P n w0 zs hs L ⟨d, .slice t x none (some y) none, ty, pos, af, g⟩ (rowSl v (k * size) i.toNat m) := fun a ha w hw => by
  obtain ⟨b, cap, cur, rfl, _⟩ := own_some (hw.own _ (List.mem_of_getElem? hq)).1 (by omega)
  have e1 : elemPtr (.slice (some ⟨b, 0, none⟩) cnt cap) (k * size) = .pointer (some ⟨b, k * size, none⟩) := by simp [elemPtr, add_at]
  have e2 : rowSl (.slice (some ⟨b, 0, none⟩) cnt cap) (k * size) i.toNat m = .slice (some ⟨b, k * size, none⟩) i.toNat m := by simp [rowSl, add_at]
  rw [e1] at h1
  rw [e2]
  exact q_sla_hi (P := P) (n := n) (w0 := w0) (zs := zs) (hs := hs) (d := d) (ty := ty) (pos := pos) (af := af) (g := g) ht hte h1 h2 hb a ha w hw
theorem q_b2s_rowSl [Dfs] {m k cnt : Nat} {xs : List (List UInt8)} {e e' : TypeId} {s b s' b' s'' b'' : Nat} {zv zv' zv'' : Value} (ht : Tf P t (.slice e) s b zv) (ht' : Tf P t' .string s' b' zv') (hte : Tf P e (.int .u8) s'' b'' zv'') (q : Nat) (hq : hs[q]? = some (.row v e' m cnt (xs.flatten.map vb))) (hcnt : cnt = xs.length) (hl : ∀ l ∈ xs, l.length = m) (h1 : opv L x = some (rowSl v (k * m) m m)) (hk : k < xs.length) :
    Qt P n w0 zs hs L ⟨d, .convert t t' x, ty, pos, af, g⟩ (vs (xs.getD k [])) :=
  qt_of fun a ha w hw => by
    subst hcnt
    obtain ⟨b, cap, cur, rfl, hg, hcs, htk⟩ := own_some (hw.own _ (List.mem_of_getElem? hq)).1 (by omega)
    have e2 : rowSl (.slice (some ⟨b, 0, none⟩) xs.length cap) (k * m) m m = .slice (some ⟨b, k * m, none⟩) m m := by simp [rowSl, add_at]
    rw [e2] at h1
    have hm : (xs.getD k []).length = m := by
      rw [List.getD_eq_getElem?_getD, List.getElem?_eq_getElem hk]; exact hl _ (List.getElem_mem hk)
    simp only [execOp, ha.eval h1]
    have hr := run_b2s (w := w) (ad := some ⟨b, k * m, none⟩) (xs := xs.getD k []) (c := m) ht ht' hte fun j hj => by
      refine ⟨b, k * m, rfl, ?_⟩
      have h2 := flat_at hl hk (i := j) (by omega)
      have h3 : k * m + j < (xs.flatten.map vb).length := (List.getElem?_eq_some_iff.1 h2).1
      have h4 : cur[k * m + j]? = some (vb ((xs.getD k []).getD j 0)) := by
        rw [← Array.getElem?_toList, ← h2, ← htk, List.getElem?_take_of_lt (by omega)]
      rw [show cur = cur.toList.toArray by simp] at hg
      rw [cell_of_row w b _ _ e' (0, 0) hg, List.getElem?_toArray, Array.getElem?_toList, h4, List.getD_eq_getElem?_getD, List.getElem?_eq_getElem hj]
      rfl
    rw [hm] at hr
    rw [Sem.run_bind, hr]
    rfl
/-- copy(a[k][:i], b[:]) -/
theorem ef_copy_rowSl [Dfs] {m k cnt : Nat} {xs : List (List UInt8)} {ys : List UInt8} {e e' sT bt : TypeId} {s by_ b2 sc : Nat} {zv : Value} (ht : Tf P t (.slice e) s by_ zv) {de : TypeDesc} {be : Nat} {ze : Value} (hte : Tf P e de 1 be ze) (q q2 : Nat) {i : Nat} (hq : hs[q]? = some (.row v e' m cnt (xs.flatten.map vb))) (hq2 : hs[q2]? = some (.blk b2 bt (ys.map vb))) (hl : ∀ l ∈ xs, l.length = m) (hcnt : cnt = xs.length)
    (h1 : opv L x = some (rowSl v (k * m) i m)) (h2 : opv L y = some (.slice (some ⟨b2, 0, none⟩) m sc)) (hk : k < xs.length) (hi : i ≤ m) (hy : ys.length = m) :
    Ef P n w0 zs hs L ⟨d, .call ⟨.builtin .copy, #[x, y], #[t, sT]⟩, ty, pos, af, g⟩ (fun v' zs' hs' => v' = vi i ∧ zs' = zs ∧ hs' = hs.set q (.row v e' m cnt ((xs.set k (ys.take i ++ (xs.getD k []).drop i)).flatten.map vb))) :=
  ef_of fun a ha w hw => by
    subst hcnt
    obtain ⟨b, cap, cur, rfl, hg, hcs, htk⟩ := own_some (hw.own _ (List.mem_of_getElem? hq)).1 (by omega)
    have e2 : rowSl (.slice (some ⟨b, 0, none⟩) xs.length cap) (k * m) i m = .slice (some ⟨b, k * m, none⟩) i m := by simp [rowSl, add_at]
    rw [e2] at h1
    have hfl : xs.flatten.length = xs.length * m := flat_len hl
    have hkm : k * m + m ≤ xs.length * m := by
      have := Nat.mul_le_mul_right m (show k + 1 ≤ xs.length by omega)
      rwa [Nat.add_mul, Nat.one_mul] at this
    have hm : (xs.getD k []).length = m := by
      rw [List.getD_eq_getElem?_getD, List.getElem?_eq_getElem hk]; exact hl _ (List.getElem_mem hk)
    have hcl : ((ys.take i).map vb).length = i := by rw [List.length_map, List.length_take]; omega
    obtain ⟨b9, cap9, cur9, he9, _, hb9, hlb9, hS⟩ := hw.storeRow (c := (ys.take i).map vb) hq (j := k * m) (by rw [hcl]; omega) (by omega)
    obtain ⟨rfl, rfl⟩ : b = b9 ∧ cur = cur9 := by
      simp only [Value.slice.injEq, Option.some.injEq, Addr.mk.injEq] at he9
      obtain ⟨⟨rfl, _⟩, _⟩ := he9
      rw [hg] at hb9
      simp only [Option.some.injEq, Obj.cells.injEq] at hb9
      exact ⟨rfl, hb9.1⟩
    have he : (xs.flatten.map vb).take (k * m) ++ (ys.take i).map vb ++ (xs.flatten.map vb).drop (k * m + ((ys.take i).map vb).length) = (xs.set k (ys.take i ++ (xs.getD k []).drop i)).flatten.map vb := by
      have hd : (ys.take i ++ (xs.getD k []).drop i).length = m := by
        rw [List.length_append, List.length_take, List.length_drop, hm]; omega
      have h5 : xs.flatten.drop (k * m + i) = (xs.getD k []).drop i ++ xs.flatten.drop (k * m + m) := by
        have h6 := flat_take hl hk
        have h7 : xs.flatten.drop (k * m) = xs.getD k [] ++ xs.flatten.drop (k * m + m) := by
          rw [← h6, ← List.drop_drop, List.take_append_drop]
        rw [← List.drop_drop, h7, List.drop_append_of_le_length (by omega)]
      rw [hcl, ← flat_set hl hd hk, hd, ← List.map_take, ← List.map_drop, h5]
      simp only [List.map_append, List.append_assoc]
    rw [he] at hS
    have hsrcb := (hw.own _ (List.mem_of_getElem? hq2)).1.2
    cases hq9 : P.info? e with
    | none => have := hte.inf; simp [hq9] at this
    | some ii =>
      have hisz : ii.size = 1 := by have := hte.inf; simp [hq9] at this; exact this.1
      have hr := run_copy_row (P := P) w t sT ty e b (k * m) i m ⟨b2, 0, none⟩ m sc cur e' ((ys.take i).map vb) ht.und (by simp [hq9, hisz]) hg (by rw [hcl]; show i = min m i; omega) (fun j vv hj => by
        rw [add_at, cell_of_row w b2 _ _ bt (0, 0) hsrcb]
        rw [List.map_take] at hj
        have hjl : j < i := by have := (List.getElem?_eq_some_iff.1 hj).1; rw [List.length_take, List.length_map] at this; omega
        rw [List.getElem?_take_of_lt hjl] at hj
        simpa using hj) (by rw [hcl]; rw [List.length_map, hfl] at hcs; omega) (fun vv hv => by
        obtain ⟨bb, _, rfl⟩ := List.mem_map.1 hv
        rfl)
      rw [hcl] at hr hS
      refine ⟨_, zs, _, _, .inl ?_, ⟨rfl, rfl, rfl⟩, hS⟩
      simp only [execOp, resolve]
      simp only [invoke, builtin, Sem.run_bind, Sem.run_pure, Result.andThen_ok, List.map_toArray, List.map_cons, List.map_nil, ha.eval h1, ha.eval h2]
      rw [hr]
      rfl
end
end Go.Fw
end

section
/-! structs of an own row, whole; a row held against nil -/
namespace Go.Fw
open Go Go.Sem
section
variable {P : Program} {n : Nat} {w0 : World} {zs : List PH} {hs : List Res} {L : List (Nat × Value)} {d : Option Tmp} {ty t t' : TypeId} {pos : String} {af : Array Edge} {g : Option (Nat × Bool)}
variable {x y c : Operand} {u v : Value} {α : Type} {f : α → List Value} {m : Nat} {xs : List α}
end
end Go.Fw
end

section
/-! slices.Sorted(maps.Keys(m)) and maps.Clone(m), by the library's contracts -/
namespace Go.Fw
open Go Go.Sem Go.RowKit Go.Maps Go.Shelf Go.Proofs
theorem below_le {w w' : World} (h : Below w.heap.size w w') : (ph w).le (ph w') := fun b o hb => by
  have := ph_some hb
  simp only [ph] at hb ⊢
  rw [h.block b this]; exact hb
theorem below_io {B : Nat} {w w' : World} (h : Below B w w') : Io w w' := ⟨h.os, h.tape, h.output⟩
theorem st_row {w w' : World} (h : Below w.heap.size w w') {v : Value} {e : TypeId} {s m : Nat} {cs : List Value} (hr : w'.ownsRow w.heap.size e s v m cs) : St w [] [.row v e s m cs] w' :=
  ⟨below_le h, by simp, fun r hr' => by
    rw [List.mem_singleton] at hr'; subst hr'
    exact ⟨hr, by simp⟩, by
    cases hid : (Res.row v e s m cs).id with
    | none => simp [hid]
    | some b => simp [hid], below_io h⟩
theorem key_ty {P : Program} {kt : TypeId} (h : P.underlying kt = some (.int .i64)) {i : Int} (hi : -9223372036854775808 ≤ i ∧ i ≤ 9223372036854775807) : Go.keyOf P kt (vi i) = some (.int .i64 i) := by
  have hw : (Lit.int .i64 i).wf = true := by
    have h1 : IntKind.i64.min = -9223372036854775808 := by decide
    have h2 : IntKind.i64.max = 9223372036854775807 := by decide
    simp only [Lit.wf, h1, h2, Bool.and_eq_true, decide_eq_true_eq]
    exact hi
  simp [Go.keyOf, h, mapKey, vi, hw]
/-- The keys, sorted, in a new slice. -/
theorem sorted_cx {P : Program} {ρk ρs : Ren} (Lk : SlLaysZI.n7 P ρk) (Ls : SlLaysZI.n6 P ρs) (hsort : AnyZI.SortsIn P ρs Fence.wide 4) (kt : TypeId) (hkt : ρk.t 26 = kt) (hst : ρs.t 26 = kt) (hi64 : P.underlying kt = some (.int .i64))
    (e9 : ∀ args w, (callFunc (ρs.f 9) args).run P w = .ok (.enter (ρs.f 9) args) w) (eg : ∀ args w, (callFunc (ρk.f 10) args).run P w = .ok (.enter (ρk.f 10) args) w)
    {l : List (Int × Value)} {es : List MapEntry} {c e b : Nat} {TM : TypeId} (hM : MpT vi l es c) (hn : (l.map (·.1)).Nodup) (hk : ∀ i ∈ l.map (·.1), -9223372036854775808 ≤ i ∧ i ≤ 9223372036854775807) (hl : l.length ≤ 4096) (w0 : World) (zsr : List PH) :
    Cx P (ρs.f 6) [.func (.func (ρk.f 10)) (List.nil : List Value).toArray [.pointer (some ⟨e, 0, none⟩)].toArray] w0 zsr [.blk e TM [.map (some b)], .mp b es c] (fun v zs1 hs1 => zs1 = [] ∧ hs1 = [.row v kt 1 ((l.map (·.1)).mergeSort (fun x y => decide (x ≤ y))).length (((l.map (·.1)).mergeSort (fun x y => decide (x ≤ y))).map vi), .blk e TM [.map (some b)], .mp b es c]) := by
  intro hsr w hS
  have h1 := (hS.own (.blk e TM [.map (some b)]) (by simp)).1
  have h2 := (hS.own (.mp b es c) (by simp)).1
  obtain ⟨hR, hB, hN⟩ := hM
  have hel : es.length = l.length := mpR_len hR
  -- the entries read
  let R : Value → Option (DataW Unit × List MemPlace) := fun _ => some (.nil, [])
  have hkey : ∀ x ∈ es, ∃ i, x.key = vi i ∧ i ∈ l.map (·.1) := fun x hx => by
    have : (x.key, x.val) ∈ es.map (fun e => (e.key, e.val)) := List.mem_map_of_mem hx
    rw [hR] at this
    obtain ⟨p, hp, he⟩ := List.mem_map.1 this
    exact ⟨p.1, by simpa using (congrArg Prod.fst he).symm, List.mem_map_of_mem hp⟩
  have hrd : ∀ x ∈ es, ∃ i, x.key = vi i ∧ i ∈ l.map (·.1) ∧ WideElems.rd P kt R x = some (.int .i64 i, .nil) := fun x hx => by
    obtain ⟨i, h3, h4⟩ := hkey x hx
    refine ⟨i, h3, h4, ?_⟩
    unfold WideElems.rd
    rw [h3, key_ty hi64 (hk i h4)]
    rfl
  have hkeys : es.map (·.key) = l.map (fun p => vi p.1) := by
    have := congrArg (List.map Prod.fst) hR
    simpa [List.map_map, Function.comp_def] using this
  have hst1 : MapKept.Stamped es.toArray c := by
    refine ⟨by simpa using hB, by simpa using hN, ?_⟩
    rw [show (es.toArray.toList.map (·.key)) = l.map (fun p => vi p.1) by simpa using hkeys]
    have : l.map (fun p => vi p.1) = (l.map (·.1)).map vi := by rw [List.map_map]; rfl
    rw [this]
    exact List.Pairwise.map vi (fun a b hne e => hne (by simpa [vi] using e)) hn
  have hfit : WideElems.Fit P kt R es.toArray c := ⟨by simp only [List.size_toArray]; unfold maxLen; omega, hst1, fun x hx => by
    obtain ⟨i, _, _, h5⟩ := hrd x (by simpa using hx)
    exact ⟨_, h5⟩⟩
  have hown : w.ownsMap P kt R b es.length (.map ((es.toArray.toList.map (WideElems.rg P kt R)).foldr DataW.insert [])) := ⟨es.toArray, c, h2.2, hfit, by simp, rfl⟩
  obtain ⟨D0, hD0⟩ : ∃ D : DataW Unit, D = .map ((es.toArray.toList.map (WideElems.rg P kt R)).foldr DataW.insert []) := ⟨_, rfl⟩
  rw [← hD0] at hown
  have hperm := WideShapes.sorted_perm (es.toArray.toList.map (WideElems.rg P kt R))
  have hik : (intKeys D0).Perm (l.map (·.1)) := by
    rw [hD0]
    show (((es.toArray.toList.map (WideElems.rg P kt R)).foldr DataW.insert []).map fun p => Go.intOf p.1).Perm _
    refine (hperm.map _).trans ?_
    rw [List.map_map]
    have : es.toArray.toList.map ((fun p => Go.intOf p.1) ∘ WideElems.rg P kt R) = l.map (·.1) := by
      show es.map _ = _
      have h6 : es.map ((fun p => Go.intOf p.1) ∘ WideElems.rg P kt R) = (es.map (·.key)).map (fun v => match v with | .int _ i => i | _ => 0) := by
        rw [List.map_map]
        refine List.map_congr_left fun x hx => ?_
        obtain ⟨i, h7, _, h8⟩ := hrd x hx
        simp only [Function.comp, WideElems.rg_of h8, h7, vi, Go.intOf]
      rw [h6, hkeys, List.map_map]
      rfl
    rw [this]
  have hsz : Maps.size D0 = l.length := by
    rw [hD0]
    show ((es.toArray.toList.map (WideElems.rg P kt R)).foldr DataW.insert []).length = _
    rw [hperm.length_eq, List.length_map]
    exact hel
  have hel2 : e < w.heap.size := (Array.getElem?_eq_some_iff.1 h1.2).1
  have hcell : w.cell? ⟨e, 0, none⟩ = some (.map (some b)) := by
    rw [cell_of_row w e 0 [Value.map (some b)].toArray TM (0, 0) h1.2]; rfl
  have hseq : SeqGives Fence.wide 2 P (ρk.f 10) #[.pointer (some ⟨e, 0, none⟩)] encZ (fun ss => ss.Perm (intKeys D0)) (Maps.size D0) w :=
    AnyZI.keys_gives (ρ := ρk) { Lk with } Fence.wide 2 trivial rfl (by omega) e b es.length D0 w hel2 hcell (by rw [hkt]; exact hown)
  have cS := AnyZI.sorted_in Ls Fence.wide 5 trivial trivial trivial trivial rfl (by omega) hsort e9 (ρk.f 10) #[.pointer (some ⟨e, 0, none⟩)] trivial eg _ _ (by rw [hsz]; unfold maxLen; omega) (by rw [hsz]; omega) w hseq
  refine Calls.mono (callsIn_wide.1 cS) fun e' w' ⟨v, ss, he, hp, hrow, _, hb⟩ => ?_
  have hss : ss.mergeSort (fun x y => decide (x ≤ y)) = (l.map (·.1)).mergeSort (fun x y => decide (x ≤ y)) := mergeSort_of_perm_i (hp.trans hik)
  have hlen : ss.length = ((l.map (·.1)).mergeSort (fun x y => decide (x ≤ y))).length := by rw [← hss, List.length_mergeSort]
  rw [hss, hlen, hst] at hrow
  exact ⟨v, [], _, he, hS.call (st_row hb hrow), rfl, rfl⟩
end Go.Fw
end

section
/-! the bytes of a string, written to -/
namespace Go.Fw
open Go Go.Sem
def bob (e : TypeId) (l : List UInt8) (cap : Nat) : Obj := .cells (l.map vb ++ List.replicate (cap - l.length) (Value.int .u8 0)).toArray e ((l.map vb ++ List.replicate (cap - l.length) (Value.int .u8 0)).length, (l.map vb ++ List.replicate (cap - l.length) (Value.int .u8 0)).length + 1)
section
variable {P : Program} {n : Nat} {w0 : World} {zs : List PH} {hs : List Res} {L : List (Nat × Value)} {d : Option Tmp} {ty t t' : TypeId} {pos : String} {af : Array Edge} {g : Option (Nat × Bool)}
variable {x y c : Operand} {u v : Value}
theorem q_eqpn_f [Dfs] {e : TypeId} {s b : Nat} {zv : Value} (ht : Tf P t (.pointer e) s b zv) {a : Addr} (h1 : opv L x = some (.pointer (some a))) (h2 : opv L y = some (.pointer none)) :
    Qt P n w0 zs hs L ⟨d, .binOp .eql t x y t', ty, pos, af, g⟩ (.bool false) := q_eqpn ht h1 h2
end
end Go.Fw
end

section
/-! parts of an array that lies in a box of its own: slices, copies, a store; a range over a function with any values and any begin of a round -/
namespace Go.Fw
section
variable {P : Program} {n : Nat} {w0 : World} {zs : List PH} {hs : List Res} {L : List (Nat × Value)} {d : Option Tmp} {ty t : TypeId} {pos : String} {af : Array Edge} {g : Option (Nat × Bool)} {x y y2 c : Operand} {v : Value}
theorem q_sla_lo_hi [Dfs] {m : Nat} {e : TypeId} {s by_ : Nat} {zv : Value} (ht : Tf P t (.array m e) s by_ zv) {de : TypeDesc} {se be : Nat} {ze : Value} (hte : Tf P e de se be ze) {b off : Nat} {k k' : IntKind} {i j : Int} (h1 : opv L x = some (.pointer (some ⟨b, off, none⟩))) (h2 : opv L y = some (.int k i)) (h3 : opv L y2 = some (.int k' j)) (hb : 0 ≤ i ∧ i ≤ j ∧ i < m ∧ j ≤ m) :
    Qt P n w0 zs hs L ⟨d, .slice t x (some y) (some y2) none, ty, pos, af, g⟩ (.slice (some ⟨b, off + i.toNat * se, none⟩) (j.toNat - i.toNat) (m - i.toNat)) :=
  qt_of fun a ha w hw => by
    simp only [execOp, ha.eval h1, Option.map_none, Option.map_some, ha.eval h2, ha.eval h3]
    have e1 : (Instr.sliceBound (.int k' j) m .sliceAlen).run P w = .ok j.toNat w := run_sliceBound (P := P) (w := w) k' j m .sliceAlen (by omega) (by omega)
    have e2 : (Instr.sliceBound (.int k i) j.toNat .sliceB).run P w = .ok i.toNat w := run_sliceBound (P := P) (w := w) k i j.toNat .sliceB (by omega) (by omega)
    have h3 : ¬ (m = i.toNat) := by omega
    simp [Instr.sliceAt, Instr.sureAddr, run_underlying ht.und, Instr.sliceBounds, hte.sizeOf, add_at, e1, e2, h3]
theorem q_idx_slb [Dfs] {e : TypeId} {s by_ : Nat} {zv : Value} (ht : Tf P t (.slice e) s by_ zv) {de : TypeDesc} {be : Nat} {ze : Value} (hte : Tf P e de 1 be ze) {b off m cc : Nat} {i : Int} {k : IntKind} (h1 : opv L x = some (.slice (some ⟨b, off, none⟩) m cc)) (h2 : opv L y = some (.int k i)) (hb : 0 ≤ i ∧ i < m) :
    Qt P n w0 zs hs L ⟨d, .indexAddr t x y, ty, pos, af, g⟩ (.pointer (some ⟨b, off + i.toNat, none⟩)) :=
  qt_of fun a ha w hw => by
    simp only [execOp, ha.eval h1, ha.eval h2]
    simp [Instr.indexAt, asIntOf, run_underlying ht.und, hb, hte.sizeOf, add_at]
/-- A part of an own array reads as a slice. -/
theorem blk_slO {w : World} (hS : St w0 zs hs w) (k : Nat) {b off m cc : Nat} {bt : TypeId} {xs : List UInt8} (hk : hs[k]? = some (.blk b bt (xs.map vb))) (h : off + m ≤ xs.length ∧ m ≤ cc ∧ xs.length ≤ 140737488355328) :
    Sl encB (ph w) (.slice (some ⟨b, off, none⟩) m cc) (List.drop off (List.take (off + m) xs)) := by
  have e : List.drop off (List.take (off + m) xs) = (xs.drop off).take m := by rw [List.drop_take]; congr 1; omega
  have hl : ((xs.drop off).take m).length = m := by rw [List.length_take, List.length_drop]; omega
  rw [e]
  exact blk_slV (f := vb) (p := fun _ => True) (h0 := fun _ => rfl) (xs := (xs.drop off).take m) hS k hk (by rw [List.map_take, List.map_drop]) ⟨hl.symm, h.2.1, by omega⟩ (fun _ _ => trivial)
/-- copy(a[off:..], s). -/
theorem ef_copyO [Dfs] {e sT : TypeId} {s by_ : Nat} {zv : Value} (ht : Tf P t (.slice e) s by_ zv) {de : TypeDesc} {be : Nat} {ze : Value} (hte : Tf P e de 1 be ze) (k : Nat) {b off dl dc : Nat} {bt : TypeId} {xs tx : List UInt8}
    (h1 : opv L x = some (.slice (some ⟨b, off, none⟩) dl dc)) (h2 : opv L y = some (vs tx)) (hk : hs[k]? = some (.blk b bt (xs.map vb))) (hl : off + dl ≤ xs.length) :
    Ef P n w0 zs hs L ⟨d, .call ⟨.builtin .copy, #[x, y], #[t, sT]⟩, ty, pos, af, g⟩ (fun v zs' hs' => v = vi (min tx.length dl) ∧ zs' = zs ∧ hs' = hs.set k (.blk b bt ((xs.take off ++ tx.take (min tx.length dl) ++ xs.drop (off + min tx.length dl)).map vb))) :=
  ef_of fun a ha w hw => by
    have hb := (hw.own _ (List.mem_of_getElem? hk)).1
    have hr := run_copy_str (sT := sT) ht hte (w := w) (off := off) (dl := dl) (dc := dc) tx hb.2 (by simp; omega) ty
    have he : (List.take off (xs.map vb) ++ List.map vb (List.take (min tx.length dl) tx) ++ List.drop (off + min tx.length dl) (xs.map vb)) = (xs.take off ++ tx.take (min tx.length dl) ++ xs.drop (off + min tx.length dl)).map vb := by
      simp
    have hS := hw.store (off := off) (c := (tx.take (min tx.length dl)).map vb) hk (by simp; omega)
    rw [show ((tx.take (min tx.length dl)).map vb).length = min tx.length dl by simp] at hS
    rw [he] at hr hS
    generalize w.setRow b _ = w2 at hr hS
    refine ⟨_, zs, _, _, .inl ?_, ⟨rfl, rfl, rfl⟩, hS⟩
    simp only [execOp, resolve]
    simp [invoke, builtin, ha.eval h1, ha.eval h2, hr]
/-- copy(a[off:..], b[:]) of two arrays in boxes. -/
theorem ef_copyBB [Dfs] {e sT : TypeId} {s by_ : Nat} {zv : Value} (ht : Tf P t (.slice e) s by_ zv) {de : TypeDesc} {be : Nat} {ze : Value} (hte : Tf P e de 1 be ze) (q q2 : Nat) {b b2 off dl dc sl sc : Nat} {bt bt2 : TypeId} {xs ys : List UInt8}
    (h1 : opv L x = some (.slice (some ⟨b, off, none⟩) dl dc)) (h2 : opv L y = some (.slice (some ⟨b2, 0, none⟩) sl sc)) (hq : hs[q]? = some (.blk b bt (xs.map vb))) (hq2 : hs[q2]? = some (.blk b2 bt2 (ys.map vb))) (hl : off + dl ≤ xs.length) (h3 : dl ≤ sl) (h4 : dl ≤ ys.length) :
    Ef P n w0 zs hs L ⟨d, .call ⟨.builtin .copy, #[x, y], #[t, sT]⟩, ty, pos, af, g⟩ (fun v zs' hs' => v = vi dl ∧ zs' = zs ∧ hs' = hs.set q (.blk b bt ((xs.take off ++ ys.take dl ++ xs.drop (off + dl)).map vb))) :=
  ef_of fun a ha w hw => by
    have hb := (hw.own _ (List.mem_of_getElem? hq)).1.2
    have hsrcb := (hw.own _ (List.mem_of_getElem? hq2)).1.2
    have hcl : ((ys.take dl).map vb).length = dl := by rw [List.length_map, List.length_take]; omega
    have hS := hw.store (off := off) (c := (ys.take dl).map vb) hq (by rw [hcl, List.length_map]; omega)
    have he : (List.take off (xs.map vb) ++ (ys.take dl).map vb ++ List.drop (off + dl) (xs.map vb)) = (xs.take off ++ ys.take dl ++ xs.drop (off + dl)).map vb := by simp
    rw [hcl, he] at hS
    cases hq9 : P.info? e with
    | none => have := hte.inf; simp [hq9] at this
    | some ii =>
      have hisz : ii.size = 1 := by have := hte.inf; simp [hq9] at this; exact this.1
      have hr := run_copy_row (P := P) w t sT ty e b off dl dc ⟨b2, 0, none⟩ sl sc (xs.map vb).toArray bt ((ys.take dl).map vb) ht.und (by simp [hq9, hisz]) hb (by rw [hcl]; show dl = min sl dl; omega) (fun j vv hj => by
        rw [add_at, cell_of_row w b2 _ _ bt2 (0, 0) hsrcb]
        rw [List.map_take] at hj
        have hjl : j < dl := by have := (List.getElem?_eq_some_iff.1 hj).1; rw [List.length_take, List.length_map] at this; omega
        rw [List.getElem?_take_of_lt hjl] at hj
        simpa using hj) (by rw [hcl]; simp; omega) (fun vv hv => by
        obtain ⟨bb, _, rfl⟩ := List.mem_map.1 hv
        rfl)
      rw [hcl] at hr
      simp only [List.toList_toArray] at hr
      rw [he] at hr
      refine ⟨_, zs, _, _, .inl ?_, ⟨rfl, rfl, rfl⟩, hS⟩
      simp only [execOp, resolve]
      simp only [invoke, builtin, Sem.run_bind, Sem.run_pure, Result.andThen_ok, List.map_toArray, List.map_cons, List.map_nil, ha.eval h1, ha.eval h2]
      rw [hr]; rfl
end
/-! ### a range over a function: any values, any begin of a round -/
def YdL (P : Program) (Y : Value) (vs : List Value) (I J : World → Prop) : Prop :=
  ∀ w, I w → ∃ (l : Nat) (f : FuncId) (tmps : Array Value) (assign body : Code), Y = .func (.yield l) #[] #[] ∧ (Instr.yield l vs.toArray).run P w = .ok (.round l f tmps assign body) w ∧
    ∀ m, RoundIn (Fe none) m P l f tmps assign body w fun e w' => e = .returned (.bool true) ∧ J w'
section
variable {P : Program} {n : Nat} {w0 : World} {zs : List PH} {L : List (Nat × Value)}
/-- What stands in the frame when a round begins. -/
def argsL : List Tmp → List Value → List (Nat × Value) → List (Nat × Value)
  | p :: ps, v :: vs, L => argsL ps vs ((p, v) :: L)
  | _, _, L => L
theorem fr_args [I : Dfs] : ∀ (ps : List Tmp) (vs : List Value) (L : List (Nat × Value)) (a : Act), ps.all (fun p => Nat.blt p n) = true → ps.length = vs.length → Fr n L a → Fr n (argsL ps vs L) { tmps := (ps.zip vs).foldl (fun tmps (x : Tmp × Value) => tmps.setIfInBounds x.1 x.2) a.tmps, defers := a.defers }
  | [], [], L, a, _, _, h => ⟨h.size, h.nodef, h.get⟩
  | p :: ps, v :: vs, L, a, hp, hl, h => by
    simp only [List.all_cons, Bool.and_eq_true] at hp
    exact fr_args ps vs ((p, v) :: L) (a.put p v) hp.2 (by simpa using hl) (h.put (Nat.blt_eq.mp hp.1))
  | [], _ :: _, _, _, _, hl, _ => by simp at hl
  | _ :: _, [], _, _, _, hl, _ => by simp at hl
theorem wp_rangeH {γ ξ : Type} {g : Operand} {ps : List Tmp} {asg : Code} {body : Code} {Q : Exit → Act → World → Prop} {a : Act} {w : World} {gf : FuncId} {cs : List Value} (hsf : γ → List Res) (inv : Nat → γ → Prop) (N : Nat) (it : Nat → List Value) (r0 : γ) (L1 : Nat → γ → ξ → List (Nat × Value)) (hs1 : Nat → γ → ξ → List Res)
    (hF : Fr n L a) (hS : St w0 zs (hsf r0) w) (hg : opv L g = some (.func (.func gf) #[] cs.toArray)) (hp : ps.all (fun p => Nat.blt p n) = true) (hpl : ∀ k, (it k).length = ps.length) (hf : FnOk P gf) (h0 : inv 0 r0)
    (hasg : ∀ (ro : Option Nat) (m : Nat) (zB zD : PH) (k : Nat) (r : γ) (a : Act) (w : World), k < N → inv k r → Fr n (argsL ps (it k) L) a → St w0 (zB :: zD :: zs) (hsf r) w → asg.wpIn (Fe ro) m P (QJ fun a w => ∃ x, Fr n (L1 k r x) a ∧ St w0 (zB :: zD :: zs) (hs1 k r x) w) a w)
    (hit : ∀ (Y : Value) (zs1 : List PH), (∀ z ∈ zs, z ∈ zs1) → (∀ k r, k < N → inv k r → YdL P Y (it k) (St w0 zs1 (hsf r)) fun w' => ∃ r', inv (k + 1) r' ∧ St w0 zs1 (hsf r') w') →
      ∀ w, St w0 zs1 (hsf r0) w → Calls P gf (Y :: cs).toArray w fun e w' => (∃ v, e = .returned v) ∧ ∃ r, inv N r ∧ St w0 zs1 (hsf r) w')
    (hbody : ∀ (l m : Nat) (zB zD : PH) (k : Nat) (r : γ) (x : ξ) (a : Act) (w : World), k < N → inv k r → Fr n (L1 k r x) a → St w0 (zB :: zD :: zs) (hs1 k r x) w →
      body.wpIn (Fe (some l)) m P (QJ fun _ w' => ∃ r', inv (k + 1) r' ∧ St w0 (zB :: zD :: zs) (hsf r') w') a w)
    (hK : ∀ (I : Dfs) (D : Nat) (zD : PH) (a : Act) (w : World) (r : γ), (∀ z ∈ zs, z D = none) → I.ds = [{ target := .collected D, args := #[] }] → zD = ph1 D (.deferred (some [])) → inv N r → Fr (I := I) n L a → St w0 (zD :: zs) (hsf r) w → Q .normal a w) :
    (Code.rangeFunc g ps.toArray asg body).wp P Q a w := by
  refine wpIn_wide (n := 0).1 (wpIn_rangeFunc ?_)
  intro fn _
  obtain ⟨rec, hrec⟩ : ∃ rec : LoopState → Option Code → Loop, rec = fun st pe => { state := st, pending := pe, fn, tmps := a.tmps, params := ps.toArray, assign := asg, body, defers := w.heap.size } := ⟨_, rfl⟩
  have hzn : ∀ b, w.heap.size ≤ b → ∀ z ∈ zs, z b = none := fun b hb z hz => by
    cases hzb : z b with
    | none => rfl
    | some o => exact absurd (ph_some ((hS.zone z hz).1 b o hzb)) (by omega)
  have hS1 : St w0 (ph1 w.heap.size (.deferred (some [])) :: zs) (hsf r0) (w.alloc (.deferred (some []))) :=
    hS.frozen _ (by simp) (fun b hb => heap_alloc_old w _ hb) (heap_alloc_new w _) ⟨rfl, rfl, rfl⟩
  have hS2 : St w0 (ph1 (w.heap.size + 1) (.loop (rec .ready none)) :: ph1 w.heap.size (.deferred (some [])) :: zs) (hsf r0) ((w.alloc (.deferred (some []))).alloc (.loop (rec .ready none))) := by
    have := hS1.frozen (w' := (w.alloc (.deferred (some []))).alloc (.loop (rec .ready none))) (.loop (rec .ready none)) (by simp) (fun b hb => heap_alloc_old _ _ hb) (heap_alloc_new _ _) ⟨rfl, rfl, rfl⟩
    rwa [World.size_alloc] at this
  obtain ⟨zD, hzD⟩ : ∃ z, z = ph1 w.heap.size (.deferred (some [])) := ⟨_, rfl⟩
  have hzl : ∀ z ∈ zD :: zs, z (w.heap.size + 1) = none := by
    intro z hz
    rcases List.mem_cons.1 hz with rfl | hz
    · rw [hzD]; unfold ph1; rw [if_neg (by omega)]
    · exact hzn _ (by omega) z hz
  rw [← hzD] at hS2
  generalize hW1 : (w.alloc (.deferred (some []))).alloc (.loop (rec .ready none)) = W1 at hS2
  obtain ⟨fnr, hfn1, hfn2, hfn3⟩ := hf
  refine ⟨w.heap.size + 1, [{ target := .collected w.heap.size, args := #[] }], W1, { target := .fn (.func gf) cs.toArray, args := #[.func (.yield (w.heap.size + 1)) #[] #[]] }, W1, gf,
    (.func (.yield (w.heap.size + 1)) #[] #[] :: cs).toArray, W1, ?_, ?_, fun _ _ => trivial, ?_, fun h => (by cases h), ?_⟩
  · rw [← hW1, hrec]; exact run_enterLoop_outer _ _ _ _ _
  · have he := hF.eval hg
    simp only [resolve, rangeCall, he]
    simp [Deferred.ofValue, Act.eval]
  · simp only [invoke, Sem.run_bind, Sem.run_pure, Result.andThen_ok, callFunc, run_program, hfn1, hfn2, hfn3]
    simp
  · refine (calls_in (ro := none) (hit (.func (.yield (w.heap.size + 1)) #[] #[]) (ph1 (w.heap.size + 1) (.loop (rec .ready none)) :: zD :: zs) (fun z hz => List.mem_cons_of_mem _ (List.mem_cons_of_mem _ hz)) ?_ W1 hS2)).mono ?_
    · -- one round
      intro k r hk hi W hW
      have hl : W.heap[w.heap.size + 1]? = some (.loop (rec .ready none)) := (hW.zone _ List.mem_cons_self).1 _ _ (by unfold ph1; rw [if_pos rfl])
      have hy := run_yield (P := P) (args := (it k).toArray) hl (by rw [hrec]; simp [hpl k])
      rw [hrec] at hy
      refine ⟨_, fn, _, _, body, rfl, hy, fun m => roundIn_of_wpIn (l := w.heap.size + 1) trivial ?_⟩
      have hF0 : Fr n (argsL ps (it k) L) { tmps := (ps.toArray.zip (it k).toArray).foldl (fun tmps (x : Tmp × Value) => tmps.setIfInBounds x.1 x.2) a.tmps, defers := [] } := by
        have h1 := fr_args ps (it k) L { tmps := a.tmps, defers := [] } hp (hpl k).symm ⟨hF.size, rfl, hF.get⟩
        have e : (ps.toArray.zip (it k).toArray).foldl (fun tmps (x : Tmp × Value) => tmps.setIfInBounds x.1 x.2) a.tmps = (ps.zip (it k)).foldl (fun tmps (x : Tmp × Value) => tmps.setIfInBounds x.1 x.2) a.tmps := by
          simp
        rw [e]
        exact h1
      refine wpIn_mono (hasg (some (w.heap.size + 1)) _ _ _ k r _ _ hk hi hF0 hW) fun e a1 w1 hq1 => ?_
      obtain ⟨rfl, x, hF1, hS1⟩ := hq1
      have hl1 : w1.heap[w.heap.size + 1]? = some (.loop (rec .ready none)) := (hS1.zone _ List.mem_cons_self).1 _ _ (by unfold ph1; rw [if_pos rfl])
      refine ⟨_, run_beginRound hl1 (by rw [hrec]), ?_⟩
      have hS2 := hS1.swap hzl (.loop { rec .ready none with state := .busy })
      refine wpIn_mono (hbody _ m _ zD k r x a1 _ hk hi hF1 hS2) fun e a3 w3 hq => ?_
      obtain ⟨rfl, r', hi', hS4⟩ := hq
      have hl4 : w3.heap[w.heap.size + 1]? = some (.loop { rec .ready none with state := .busy }) := (hS4.zone _ List.mem_cons_self).1 _ _ (by unfold ph1; rw [if_pos rfl])
      have hend := run_endRound (P := P) none hl4
      refine ⟨_, _, hend, rfl, r', hi', ?_⟩
      have := hS4.swap hzl (.loop (rec .ready none))
      rw [hrec] at this ⊢
      exact this
    · rintro e W2 ⟨⟨v, rfl⟩, r, hi, hS3⟩
      have hl : W2.heap[w.heap.size + 1]? = some (.loop (rec .ready none)) := (hS3.zone _ List.mem_cons_self).1 _ _ (by unfold ph1; rw [if_pos rfl])
      refine ⟨none, _, (by have := run_endLoop (P := P) hl (by rw [hrec]; simp); rw [hrec] at this; exact this), ?_⟩
      have hnd : a.defers = [] := hF.nodef
      refine hK ⟨[{ target := .collected w.heap.size, args := #[] }]⟩ w.heap.size zD _ _ r (fun z hz => hzn _ (Nat.le_refl _) z hz) rfl hzD hi (@Fr.mk ⟨[{ target := .collected w.heap.size, args := #[] }]⟩ n L _ hF.size (by rw [hnd]; rfl) hF.get) (((hS3.swap hzl _)).keep (List.sublist_cons_self _ _) (List.Sublist.refl _))
/-- A call of yield with any values. -/
theorem ycallL [Dfs] {hs : List Res} {ops : Array Oper} {Q : Exit → Act → World → Prop} {d : Tmp} {ty : TypeId} {pos : String} {af : Array Edge} {gd : Option (Nat × Bool)} {x : Operand} {ys : List Operand} {ats : Array TypeId} {rest : List Oper} {Y : Value} {vs : List Value} {J : World → Prop} {a : Act} {w : World}
    (hd : Nat.blt d n = true) (hw : Region.wanted ⟨some d, .call ⟨.value x, ys.toArray, ats⟩, ty, pos, af, gd⟩ (yielded ops a.tmps) = true) (hF : Fr n L a) (hS : St w0 zs hs w) (h1 : opv L x = some Y) (h2 : ys.map (opv L) = vs.map some) (hY : YdL P Y vs (St w0 zs hs) J)
    (K : ∀ a w, Fr n ((d, .bool true) :: L) a → J w → wpListIn (Fe none) 0 P ops Q rest a w) : wpListIn (Fe none) 0 P ops Q (⟨some d, .call ⟨.value x, ys.toArray, ats⟩, ty, pos, af, gd⟩ :: rest) a w := by
  obtain ⟨l, f, tmps, assign, body, rfl, hy, hr⟩ := hY w hS
  unfold wpListIn
  simp only [hw, if_true]
  refine ⟨fun _ _ => trivial, ?_⟩
  rw [show (Fe none).round = none from rfl, Oper.semAt_none]
  have hev : ∀ (ys : List Operand) (vs : List Value), ys.map (opv L) = vs.map some → ys.map a.eval = vs := by
    intro ys
    induction ys with
    | nil => intro vs h; cases vs with
      | nil => rfl
      | cons => simp at h
    | cons y ys ih => intro vs h; cases vs with
      | nil => simp at h
      | cons v vs =>
        simp only [List.map_cons, List.cons.injEq] at h
        rw [List.map_cons, hF.eval h.1, ih vs h.2]
  have he : (execOp a.eval ⟨some d, .call ⟨.value x, ys.toArray, ats⟩, ty, pos, af, gd⟩).run P w = .ok (.round l f tmps assign body) w := by
    simp only [execOp]
    simp only [resolve, hF.eval h1, Deferred.ofValue, invoke, Sem.run_bind, Sem.run_pure, Result.andThen_ok]
    rw [List.map_toArray, hev ys vs h2]
    simp [hy]
  rw [he]
  refine ⟨fun h' => (by cases h'), (hr _).mono fun e w' ⟨he, hj⟩ => ?_⟩
  subst he
  exact K _ _ (hF.put (Nat.blt_eq.mp hd)) hj
/-- What an iterator's contract makes of what it was lent, told in full (one box of its own). -/
theorem CxH.full1 {f : FuncId} {args : List Value} {zsr : List PH} {r1 r0 : Res} {hsr : List Res} {J : Res → Prop} (h : CxH P f args w0 zsr [r1, r0] hsr (fun _ zs1 hs1 => zs1 = [] ∧ ∃ r, hs1 = [r1, r] ∧ J r)) (w : World) (hS : St w0 zsr (r1 :: r0 :: hsr) w) :
    Calls P f args.toArray w fun e w' => (∃ v, e = .returned v) ∧ ∃ r, J r ∧ St w0 zsr (r1 :: r :: hsr) w' :=
  Calls.mono (h w hS) fun e w' ⟨v, zs1, hs1, he, hS', h1, r, h2, h3⟩ => by
    subst h1 h2
    exact ⟨⟨v, he⟩, r, h3, hS'⟩
end
end Go.Fw
end

section
/-! a part of an array in a box, as a string -/
namespace Go.Fw
section
variable {P : Program} {n : Nat} {w0 : World} {zs : List PH} {hs : List Res} {L : List (Nat × Value)} {d : Option Tmp} {ty t t' : TypeId} {pos : String} {af : Array Edge} {g : Option (Nat × Bool)} {x y y2 c : Operand} {v : Value}
theorem q_b2s_blkO [Dfs] {xs : List UInt8} {e : TypeId} {b off m c : Nat} {bt : TypeId} {s by_ s' b' s'' b'' : Nat} {zv zv' zv'' : Value} (ht : Tf P t (.slice e) s by_ zv) (ht' : Tf P t' .string s' b' zv') (hte : Tf P e (.int .u8) s'' b'' zv'') (k : Nat) (h1 : opv L x = some (.slice (some ⟨b, off, none⟩) m c)) (hk : hs[k]? = some (.blk b bt (xs.map vb))) (hm : off + m ≤ xs.length) :
    Qt P n w0 zs hs L ⟨d, .convert t t' x, ty, pos, af, g⟩ (vs (List.drop off (List.take (off + m) xs))) := by
  have e : List.drop off (List.take (off + m) xs) = (xs.drop off).take m := by rw [List.drop_take]; congr 1; omega
  have hl : ((xs.drop off).take m).length = m := by rw [List.length_take, List.length_drop]; omega
  rw [e]
  have h1' : opv L x = some (.slice (some ⟨b, off, none⟩) ((xs.drop off).take m).length c) := by rw [hl]; exact h1
  exact q_b2s_blk (xs := (xs.drop off).take m) ht ht' hte k h1' hk (by rw [hl, List.map_take, List.map_drop])
theorem q_subi_to [Dfs] {p q r : Int} {t' : TypeId} (h1 : opv L x = some (vi p)) (h2 : opv L y = some (vi q)) (hb : -9223372036854775808 ≤ p - q ∧ p - q ≤ 9223372036854775807) (hr : p - q = r) : Qt P n w0 zs hs L ⟨d, .binOp .sub t x y t', ty, pos, af, g⟩ (vi r) := hr ▸ q_subi h1 h2 hb
end
end Go.Fw
end
