/- A text of a proof over this seat: walks over the program's functions and the plain laws that they need. -/
import Derived.Test.YtdojfnigffeblaaDoorFwA
import Derived.Test.YtdojfnigffeblaaDoorFwB
import Derived.Test.YtdojfnigffeblaaDoorFwC
import Derived.RangeFuncLeaves
import Derived.RangeFuncRecord
import Derived.OrdersIn
import Derived.TacticsIn
import Derived.Lib.UnsafeStr
import Derived.Lib.Builder
import Derived.Laws.Externs
import Derived.LaidEql
import Derived.Lib.Bytealg
set_option linter.all false
section
namespace Go.Fw
@[reducible] def Fe (ro : Option Nat) : Fence := { Fence.wide with round := ro }
def ndB (o : Oper) : Bool := match o.op with | .defer _ => false | _ => true
theorem ndB_spec {o : Oper} (h : ndB o = true) : ∀ c, o.op ≠ .defer c := by
 intro c hc
 unfold ndB at h
 rw [hc] at h
 cases h
section
variable {P : Program} {ops : Array Oper} {ro : Option Nat} {m : Nat}
theorem rows_in {row : String} {args : Array Value} {w : World} {R : Value → World → Prop} (h : Rows P row args w R) : RowsIn (Fe ro) m P row args w R :=
 fun c cs _ => let ⟨v, w', r, s⟩ := h c cs; ⟨v, w', r, (stepsIn_wide (P := P)).2 s⟩
theorem calls_in {f : FuncId} {args : Array Value} {w : World} {R : Ending → World → Prop} (h : Calls P f args w R) : CallsIn (Fe ro) m P f args w R :=
 (callsIn_wide (n := m)).2 h
theorem oper_in {o : Oper} {a : Act} {w : World} {next next' : Act → World → Prop} {Q1 Q : Exit → Act → World → Prop} (hd : ndB o = true) (hQ : ∀ e a w, Q1 e a w → e = .normal) (hn : ∀ a w, next a w → next' a w) (h : o.wp P a w next Q1) :
  o.wpIn (Fe ro) m P a w next' Q := by
 refine ⟨fun _ _ => trivial, ?_⟩
 rw [show (Fe ro).round = ro from rfl, Oper.semAt_eq ro _ o (ndB_spec hd)]
 unfold Oper.wp at h
 generalize (execOp a.eval o).run P w = r at h
 cases r with
 | ok nx w' =>
  cases nx <;> simp only [Oper.upon] at h <;> simp only [Oper.uponIn]
  case value v => exact hn _ _ h
  case skip => exact hn _ _ h
  case defer d => exact hn _ _ h
  case enter f args =>
   refine ⟨fun h' => (by cases h'), (calls_in h).mono fun e w'' he => ?_⟩
   cases e with
   | returned v => exact hn _ _ he
   | panicked c => cases hQ _ _ _ he
   | outgrown => obtain ⟨_, _, hq⟩ := he; cases hQ _ _ _ hq
  case row row args => exact ⟨fun h' => (by cases h'), (rows_in h).mono fun v w'' he => hn _ _ he⟩
 | halt x w' =>
  cases x <;> simp only [Oper.upon] at h <;> simp only [Oper.uponIn]
  case panic v => cases hQ _ _ _ h
theorem wpOps_in {Q1 Q : Exit → Act → World → Prop} (hd : ops.all ndB = true) (hQ : ∀ e a w, Q1 e a w → e = .normal ∧ Q .normal a w) : ∀ (l : List Nat) (a : Act) (w : World), wpOps P ops Q1 l a w → wpOpsIn (Fe ro) m P ops Q l a w
 | [], a, w, h => (hQ _ _ _ h).2
 | i :: l, a, w, h => by
  unfold wpOps at h
  unfold wpOpsIn
  cases ho : ops[i]? with
  | none => simp only [ho] at h ⊢; exact wpOps_in hd hQ l a w h
  | some o =>
   simp only [ho] at h ⊢
   have hdo : ndB o = true := by
    obtain ⟨hi, rfl⟩ := Array.getElem?_eq_some_iff.1 ho
    exact (Array.all_eq_true.1 hd) i hi
   by_cases hw : Region.wanted o (yielded ops a.tmps) = true
   ·simp only [hw, if_true] at h ⊢
    rcases h with h | ⟨_, a', w', h⟩
    ·exact oper_in hdo (fun e a w h => (hQ e a w h).1) (fun a w h => wpOps_in hd hQ l a w h) h
    ·exact absurd (hQ _ _ _ h).1 (by simp)
   ·simp only [hw, Bool.false_eq_true, if_false] at h ⊢
    exact ⟨fun _ _ => trivial, wpOps_in hd hQ l _ w h⟩
theorem wpList_in {Q1 Q : Exit → Act → World → Prop} {l2 : List Oper} (hQ : ∀ e a w, Q1 e a w → e = .normal ∧ wpListIn (Fe ro) m P ops Q l2 a w) : ∀ (l : List Oper) (a : Act) (w : World), l.all ndB = true → wpList P ops Q1 l a w → wpListIn (Fe ro) m P ops Q (l ++ l2) a w
 | [], a, w, _, h => (hQ _ _ _ h).2
 | o :: l, a, w, hd, h => by
  simp only [List.all_cons, Bool.and_eq_true] at hd
  unfold wpList at h
  rw [List.cons_append]
  unfold wpListIn
  by_cases hw : Region.wanted o (yielded ops a.tmps) = true
  ·simp only [hw, if_true] at h ⊢
   rcases h with h | ⟨_, a', w', h⟩
   ·exact oper_in hd.1 (fun e a w h => (hQ e a w h).1) (fun a w h => wpList_in hQ l a w hd.2 h) h
   ·exact absurd (hQ _ _ _ h).1 (by simp)
  ·simp only [hw, Bool.false_eq_true, if_false] at h ⊢
   exact ⟨fun _ _ => trivial, wpList_in hQ l _ w hd.2 h⟩
theorem region_in {id : Nat} {Q : Exit → Act → World → Prop} {a : Act} {w : World} (hm : P.follows .mixedOrders = true) (hd : ops.all ndB = true)
  (h : wpAny P .any ops (QJ (Q .normal)) ops.size (Array.replicate ops.size false) a { w with drawn := w.drawn + 1 }) : (Code.region id ops true).wpIn (Fe ro) m P Q a w :=
 wpIn_region_draw fun t => by
  simp only [Region.schedule, hm, Bool.true_or, if_true]
  exact wpOps_in (Q1 := QJ (Q .normal)) hd (fun e a w h => h) _ _ _ (wpAny_sound ops.size t _ a _ h)
end
section
variable {P : Program} {n : Nat} {w0 : World} {zs : List PH} {hs : List Res} {L L' : List (Nat × Value)} {l : List Oper} {k : Nat} {ro : Option Nat} {m : Nat}
theorem regR [Dfs] {id : Nat} {Q : Exit → Act → World → Prop} {a : Act} {w : World} (hd : l.all ndB = true) (hF : Fr n L a) (hS : St w0 zs hs w)
  (s : Sq P n w0 zs hs l.toArray k L l L' []) (K : ∀ a w, Fr n L' a → St w0 zs hs w → Q .normal a w) : (Code.region id l.toArray false).wpIn (Fe ro) m P Q a w := by
 refine wpIn_region_lit ?_
 have := wpList_in (ro := ro) (m := m) (Q := Q) (l2 := []) (Q1 := QJ (Q .normal)) (fun e a w h => h) l a w hd (wpl_sq hF hS s fun a w hF hS => wpList_nil ⟨rfl, K a w hF hS⟩)
 simpa using this
theorem listR {ops : Array Oper} {J : Act → World → Prop} {a : Act} {w : World} (h : J a w) : wpList P ops (QJ J) [] a w := ⟨rfl, h⟩
end
end Go.Fw
end

section
namespace Go.Fw
theorem putObj_io (w : World) (b : Nat) (o : Obj) : Io w (w.putObj b o) := ⟨rfl, rfl, rfl⟩
theorem St.swap {w0 w : World} {zs : List PH} {hs : List Res} {b : Nat} {o : Obj} (h : St w0 (ph1 b o :: zs) hs w) (hz : ∀ z ∈ zs, z b = none) (o' : Obj) : St w0 (ph1 b o' :: zs) hs (w.putObj b o') := by
 have hz0 := h.zone _ List.mem_cons_self
 have hb : w.heap[b]? = some o := hz0.1 b o (by unfold ph1; rw [if_pos rfl])
 have hge : w0.heap.size ≤ b := hz0.2 b o (by unfold ph1; rw [if_pos rfl])
 have hlt : b < w.heap.size := (Array.getElem?_eq_some_iff.1 hb).1
 have hown : ∀ r ∈ hs, r.id ≠ some b := fun r hr e => by
  have := (h.own r hr).2 b e _ List.mem_cons_self
  unfold ph1 at this
  rw [if_pos rfl] at this
  cases this
 refine ⟨fun k ob hk => ?_, fun z hz' => ?_, fun r hr => ⟨Res.ok_of (h.own r hr).1 fun k hk => World.putObj_heap_other (fun e => hown r hr (by rw [hk, e])), fun k hk z hz' => ?_⟩, h.nd, h.io.trans (putObj_io _ _ _)⟩
 ·have h1 := h.ext k ob hk
  have hkb : k ≠ b := by have := ph_some hk; omega
  simp only [ph] at h1 ⊢
  rw [World.putObj_heap_other hkb]; exact h1
 ·rcases List.mem_cons.1 hz' with rfl | hz2
  ·refine ⟨fun k ob hk => ?_, fun k ob hk => ?_⟩
   ·obtain ⟨rfl, rfl⟩ := ph1_some hk; exact World.putObj_heap_same hlt
   ·obtain ⟨rfl, rfl⟩ := ph1_some hk; exact hge
  ·refine ⟨fun k ob hk => ?_, (h.zone z (List.mem_cons_of_mem _ hz2)).2⟩
   have h1 := (h.zone z (List.mem_cons_of_mem _ hz2)).1 k ob hk
   have hkb : k ≠ b := by
    intro e
    rw [e, hz z hz2] at hk
    cases hk
   simp only [ph] at h1 ⊢
   rw [World.putObj_heap_other hkb]; exact h1
 ·rcases List.mem_cons.1 hz' with rfl | hz2
  ·have := hown r hr
   unfold ph1
   rw [if_neg (fun e => this (by rw [hk, e]))]
  ·exact (h.own r hr).2 k hk z (List.mem_cons_of_mem _ hz2)
def Yd (P : Program) (Y v : Value) (I J : World → Prop) : Prop :=
 ∀ w, I w → ∃ (l : Nat) (f : FuncId) (tmps : Array Value) (assign body : Code), Y = .func (.yield l) #[] #[] ∧ (Instr.yield l #[v]).run P w = .ok (.round l f tmps assign body) w ∧
  ∀ m, RoundIn (Fe none) m P l f tmps assign body w fun e w' => e = .returned (.bool true) ∧ J w'
section
variable {P : Program} {n : Nat} {w0 : World} {zs : List PH} {L : List (Nat × Value)}
theorem fn_enterM {f : FuncId} {fn : Func} {cd : Code} (hf : P.funcs[f]? = some fn) (hb : fn.body = some cd) {k : Nat} (hk : fn.ntmps = k) {args : List Value} (hn : args.length ≤ k) {w : World} {R : Value → List PH → List Res → Prop}
  (h : ∀ a, Fr k (enterL 0 args) a → St w [] [] w → cd.wp P (bodyPostM (Fe none) 0 P fn fun e w' => ∃ v zs hs, e = .returned v ∧ St w zs hs w' ∧ R v zs hs) a w) : Ct P f args w R := by
 subst hk
 exact (callsIn_wide (n := 0)).1 (callsIn_of_wp_marks hf hb trivial ((wpIn_wide (n := 0)).2 (h _ (Fr.enter _ _ hn) (St.start w))))
theorem fn_retM {fn : Func} {w : World} {hs : List Res} {a : Act} {R : Value → List PH → List Res → Prop} {rs : List ResultVar} (hrs : fn.results = rs.toArray) (hF : Fr n L a) (hS : St w0 zs hs w) {vs : List Value} (hv : ResVs P L hs rs vs) {zs' hs'} (h1 : zs'.Sublist zs) (h2 : hs'.Sublist hs) (hR : R (resVal vs) zs' hs') :
  bodyPostM (Fe none) 0 P fn (fun e w' => ∃ v zs hs, e = .returned v ∧ St w0 zs hs w' ∧ R v zs hs) .ret a w := by
 have hnd : a.defers = [] := hF.nodef
 show LeavesInM (Fe none) 0 P fn a.tmps _ a.defers .returning w
 rw [hnd]
 exact ⟨_, run_results hrs hF hS hv, _, _, _, rfl, hS.keep h1 h2, hR⟩
theorem regY {id : Nat} {Q : Exit → Act → World → Prop} {a : Act} {w : World} {l : List Oper} (m1 : Nat) (hd : l.all ndB = true)
  (h : wpList P l.toArray (QJ (wpListIn (Fe none) 0 P l.toArray Q (l.drop m1))) (l.take m1) a w) : (Code.region id l.toArray false).wp P Q a w := by
 refine wpIn_wide (n := 0).1 (wpIn_region_lit ?_)
 have := wpList_in (ro := none) (m := 0) (Q := Q) (l2 := l.drop m1) (fun e a w h => h) (l.take m1) a w (by rw [List.all_eq_true] at hd ⊢; exact fun x hx => hd x (List.mem_of_mem_take hx)) h
 rwa [List.take_append_drop] at this
theorem yseg [Dfs] {hs : List Res} {ops : Array Oper} {Q : Exit → Act → World → Prop} : ∀ {k : Nat} {L L' l l'} {a : Act} {w : World}, l.all ndB = true → Fr n L a → St w0 zs hs w → Sq P n w0 zs hs ops k L l L' l' →
  (∀ a w, Fr n L' a → St w0 zs hs w → wpListIn (Fe none) 0 P ops Q l' a w) → wpListIn (Fe none) 0 P ops Q l a w
 | 0, _, _, _, _, a, w, _, hF, hS, h, K => by obtain ⟨rfl, rfl⟩ := h; exact K a w hF hS
 | k + 1, _, _, _, _, a, w, hd, hF, hS, h, K => by
  obtain ⟨o, r, v, rfl, hdo, hq, hr⟩ := h
  simp only [List.all_cons, Bool.and_eq_true] at hd
  unfold wpListIn
  rcases hq a hF with ⟨hw, hq⟩ | ⟨hw, rfl⟩
  ·simp only [hw, if_true]
   refine ⟨fun _ _ => trivial, ?_⟩
   rw [show (Fe none).round = none from rfl, Oper.semAt_none]
   have := hq w hS
   generalize (execOp a.eval o).run P w = res at this
   cases res with
   | halt x w' => simp only [Oper.quietUpon] at this
   | ok nx w' =>
    cases nx <;> simp only [Oper.quietUpon] at this <;> simp only [Oper.uponIn]
    case value u => obtain ⟨rfl, rfl⟩ := this; exact yseg hd.2 (hF.up hdo) hS hr K
    case skip => obtain ⟨rfl, rfl⟩ := this; exact yseg hd.2 (hF.up hdo) hS hr K
    case enter f args =>
     obtain ⟨rfl, hc⟩ := this
     exact ⟨fun h' => (by cases h'), (calls_in hc).mono fun e w'' ⟨he, hw''⟩ => by subst he; exact yseg hd.2 (hF.up hdo) hw'' hr K⟩
  ·simp only [hw, Bool.false_eq_true, if_false]
   exact ⟨fun _ _ => trivial, yseg hd.2 (hF.up hdo) hS hr K⟩
theorem ycall [Dfs] {hs : List Res} {ops : Array Oper} {Q : Exit → Act → World → Prop} {d : Tmp} {ty : TypeId} {pos : String} {af : Array Edge} {gd : Option (Nat × Bool)} {x y : Operand} {ats : Array TypeId} {rest : List Oper} {Y v : Value} {J : World → Prop} {a : Act} {w : World}
  (hd : Nat.blt d n = true) (hw : Region.wanted ⟨some d, .call ⟨.value x, #[y], ats⟩, ty, pos, af, gd⟩ (yielded ops a.tmps) = true) (hF : Fr n L a) (hS : St w0 zs hs w) (h1 : opv L x = some Y) (h2 : opv L y = some v) (hY : Yd P Y v (St w0 zs hs) J)
  (K : ∀ a w, Fr n ((d, .bool true) :: L) a → J w → wpListIn (Fe none) 0 P ops Q rest a w) : wpListIn (Fe none) 0 P ops Q (⟨some d, .call ⟨.value x, #[y], ats⟩, ty, pos, af, gd⟩ :: rest) a w := by
 obtain ⟨l, f, tmps, assign, body, rfl, hy, hr⟩ := hY w hS
 unfold wpListIn
 simp only [hw, if_true]
 refine ⟨fun _ _ => trivial, ?_⟩
 rw [show (Fe none).round = none from rfl, Oper.semAt_none]
 have he : (execOp a.eval ⟨some d, .call ⟨.value x, #[y], ats⟩, ty, pos, af, gd⟩).run P w = .ok (.round l f tmps assign body) w := by
  simp only [execOp]
  simp only [resolve, hF.eval h1, Deferred.ofValue, invoke, Sem.run_bind, Sem.run_pure, Result.andThen_ok]
  simp [hF.eval h2, hy]
 rw [he]
 refine ⟨fun h' => (by cases h'), (hr _).mono fun e w' ⟨he, hj⟩ => ?_⟩
 subst he
 exact K _ _ (hF.put (Nat.blt_eq.mp hd)) hj
def CxH (P : Program) (f : FuncId) (args : List Value) (w0 : World) (zsr : List PH) (own hsr : List Res) (R : Value → List PH → List Res → Prop) : Prop :=
 ∀ (w : World), St w0 zsr (own ++ hsr) w → Calls P f args.toArray w fun e w' => ∃ v zs1 hs1, e = .returned v ∧ St w0 (zs1 ++ zsr) (hs1 ++ hsr) w' ∧ R v zs1 hs1
theorem fn_enterh {f : FuncId} {fn : Func} {cd : Code} (hf : P.funcs[f]? = some fn) (hb : fn.body = some cd) {k : Nat} (hk : fn.ntmps = k) {args : List Value} (hn : args.length ≤ k) {w0 : World} {zsr : List PH} {own hsr : List Res} {R : Value → List PH → List Res → Prop}
  (h : ∀ a w, Fr k (enterL 0 args) a → St w0 zsr (own ++ hsr) w → cd.wp P (bodyPost P fn fun e w' => ∃ v zs1 hs1, e = .returned v ∧ St w0 (zs1 ++ zsr) (hs1 ++ hsr) w' ∧ R v zs1 hs1) a w) : CxH P f args w0 zsr own hsr R := by
 subst hk
 intro w hS
 exact calls_of_wp hf hb (h _ w (Fr.enter _ _ hn) hS)
theorem fn_fallx {fn : Func} {w : World} {hs : List Res} {a : Act} {R : Value → List PH → List Res → Prop} {zsr : List PH} {hsr : List Res} (hrs : fn.results = #[]) (hF : Fr n L a) (hS : St w0 zs hs w) (zs1 : List PH) (hs1 : List Res) (h1 : (zs1 ++ zsr).Sublist zs) (h2 : (hs1 ++ hsr).Sublist hs) (hR : R (.tuple #[]) zs1 hs1) :
  bodyPost P fn (fun e w' => ∃ v zs1 hs1, e = .returned v ∧ St w0 (zs1 ++ zsr) (hs1 ++ hsr) w' ∧ R v zs1 hs1) .normal a w :=
 ⟨hF.nodef, _, run_results (rs := []) (vs := []) hrs hF hS trivial, _, _, _, rfl, hS.keep h1 h2, hR⟩
end
end Go.Fw
namespace Go.Fw
section
variable {P : Program} {n : Nat} {w0 : World} {zs : List PH} {L : List (Nat × Value)} {m : Nat}
theorem CxH.full {f : FuncId} {args : List Value} {zsr : List PH} {r1 r2 r0 : Res} {hsr : List Res} {J : Res → Prop} (h : CxH P f args w0 zsr [r1, r2, r0] hsr (fun _ zs1 hs1 => zs1 = [] ∧ ∃ r, hs1 = [r1, r2, r] ∧ J r)) (w : World) (hS : St w0 zsr (r1 :: r2 :: r0 :: hsr) w) :
  Calls P f args.toArray w fun e w' => (∃ v, e = .returned v) ∧ ∃ r, J r ∧ St w0 zsr (r1 :: r2 :: r :: hsr) w' :=
 Calls.mono (h w hS) fun e w' ⟨v, zs1, hs1, he, hS', h1, r, h2, h3⟩ => by
  subst h1 h2
  exact ⟨⟨v, he⟩, r, h3, hS'⟩
end
end Go.Fw
end

section
namespace Go.Fw
open Go Go.Sem
def adel {α : Type} [DecidableEq α] (a : α) (l : List (α × Value)) : List (α × Value) := match fnd a l 0 with
 | some (i, _) => l.eraseIdx i
 | none => l
section
variable {P : Program} {n : Nat} {w0 : World} {zs : List PH} {hs : List Res} {L : List (Nat × Value)} {d : Option Tmp} {ty t t2 : TypeId} {pos : String} {af : Array Edge} {g : Option (Nat × Bool)} {x y o3 : Operand} {u v : Value}
variable {α : Type} [DecidableEq α] {kf : α → Value} {V : α → Prop} {kt e : TypeId}
end
end Go.Fw
end

section
namespace Go.Fw
section
variable {P : Program} {n : Nat} {w0 : World} {zs : List PH} {hs : List Res} {v : Value}
theorem sl_A {m : Nat} {z : PH} {xs : List (List UInt8)} (hS : Sl (encA m) z v xs) : ∀ x ∈ xs, x.length = m := fun x hx => by
 obtain ⟨i, hi, rfl⟩ := List.mem_iff_getElem.1 hx
 obtain ⟨b, off, cs, ty, fz, cx, _, _, h, _⟩ := hS.at (i := i) (x := xs[i]) (by simp [hi])
 exact h.1
theorem src_slA {m : Nat} {z : PH} {xs : List (List UInt8)} {tx e : TypeId} {s by_ : Nat} {zv : Value} (ht : Tf P tx (.slice e) s by_ zv) (hS : Sl (encA m) z v xs) (hz : ZIn w0 zs z) (h0 : 0 < m) : SrcOk P w0 zs hs m tx v xs.length (xs.flatten.map vb) :=
 src_sl (E := encA m) ht hS hz (xs.flatten.map vb) (by rw [List.length_map]; exact flat_len (sl_A hS)) (fun u hu => by
  obtain ⟨x, _, rfl⟩ := List.mem_map.1 hu
  rfl) (fun i x cx hx hr j hj => by
  rw [hr.2]
  exact flat_map_get (sl_A hS) hx hj) h0
end
end Go.Fw
end

section
namespace Go.Fw
section
variable {P : Program} {n : Nat} {w0 : World} {zs : List PH} {hs : List Res} {L : List (Nat × Value)} {d : Option Tmp} {ty t t' : TypeId} {pos : String} {af : Array Edge} {g : Option (Nat × Bool)}
variable {x y c : Operand} {u v : Value}
end
def encN : Enc (List (List UInt8) × List Int) where
 size := 2
 rep z x c := ∃ kv mv, c = [kv, mv] ∧ Sl (encA 16) z kv x.1 ∧ Sl encI z mv x.2
 mono hz h := by obtain ⟨kv, mv, h1, h2, h3⟩ := h; exact ⟨kv, mv, h1, h2.mono hz, h3.mono hz⟩
 len h := by obtain ⟨kv, mv, h1, _⟩ := h; rw [h1]; rfl
 one h u hu := by
  obtain ⟨kv, mv, h1, h2, h3⟩ := h
  rw [h1] at hu
  simp only [List.mem_cons, List.not_mem_nil, or_false] at hu
  rcases hu with rfl | rfl
  ·exact sl_one' h2
  ·exact sl_one' h3
end Go.Fw
end

section
namespace Go.Fw
section
variable {P : Program} {n : Nat} {w0 : World} {zs : List PH} {hs : List Res} {L : List (Nat × Value)} {d : Option Tmp} {ty t : TypeId} {pos : String} {af : Array Edge} {g : Option (Nat × Bool)} {x : Operand}
theorem q_ld_z [Dfs] {z : PH} {dd : TypeDesc} {s by_ : Nat} {zv : Value} (ht : Tf P t dd s by_ zv) {b off : Nat} {cs : Array Value} {ty' : TypeId} {fz : Nat × Nat} {u : Value} (h1 : opv L x = some (.pointer (some ⟨b, off, none⟩))) (hd : aggD dd = false) (hz : ZIn w0 zs z) (hb : z b = some (.cells cs ty' fz)) (hc : cs[off]? = some u) :
  Qt P n w0 zs hs L ⟨d, .load t x, ty, pos, af, g⟩ u :=
 qt_of fun a ha w hw => by
  have hb' := hw.le hz _ _ hb
  have hcell : w.cell? ⟨b, off, none⟩ = some u := by
   rw [cell_of_row w b off _ ty' _ hb']
   exact hc
  have he : a.eval x = .pointer (some ⟨b, off, none⟩) := ha.eval h1
  simp only [execOp, he]
  simp [Instr.loadAt, Instr.sureAddr, run_load1 ht hd hcell]
end
end Go.Fw
end

section
namespace Go.Fw
open Go Go.Sem
variable {P : Program} {n : Nat} {w0 : World} {L : List (Nat × Value)} {ops : Array Oper} {J : Act → World → Prop}
theorem goW_skip [Dfs] {l : List Oper} {f : Nat} {W : Wt} {ls : Array Bool} {a : Act} {w : World} (i : Nat) (ls' : Array Bool) {d : Option Tmp} {op : Op} {t : TypeId} {p : String} {af : Array Edge} {g : Option (Nat × Bool)} {zs : List PH} {hs : List Res}
  (hi : l[i]? = some ⟨d, op, t, p, af, g⟩) (hg : ∀ a, Fr n L a → Region.wanted ⟨d, op, t, p, af, g⟩ (yielded l.toArray a.tmps) = false) (hB : (plainB ⟨d, op, t, p, af, g⟩ && Region.noSelect l.toArray && Region.free .any l.toArray ls i && (Region.ready .any l.toArray ls).contains i && (match d with | some k => Nat.blt k n | none => true)) = true)
  (hls : ls.setIfInBounds i true = ls') (hF : Fr n L a) (hS : St w0 zs hs w)
  (K : ∀ a, Fr n (upL d undef L) a → GoW P l.toArray J f ((i, St w0 zs hs) :: W) ls' a w) : GoW P l.toArray J (f + 1) W ls a w := by
 intro hcl hW
 subst hls
 replace hi : l.toArray[i]? = some ⟨d, op, t, p, af, g⟩ := by simpa using hi
 simp only [Bool.and_eq_true] at hB
 obtain ⟨⟨⟨⟨hp, hsel⟩, hf⟩, hr⟩, hd⟩ := hB
 have hr : i ∈ Region.ready .any l.toArray ls := by simpa using hr
 have hy : YieldsIn P l.toArray (St w0 zs hs) ⟨d, op, t, p, af, g⟩ undef a := .inr ⟨hg a hF, rfl⟩
 have hF' : Fr n (upL d undef L) (a.put d undef) := hF.up (by cases d with | none => trivial | some k => exact Nat.blt_eq.mp hd)
 have hun := getD_both (mem_ready.1 hr).1
 have hW' : Held .any l.toArray (ls.setIfInBounds i true) w [] W := Held.more hun W [] [] (by simp) hW
 refine wpW_first (C := St w0 zs hs) hi hp (Region.noSelect_spec hsel) W f ls a w hcl (Region.free_spec hi hf) hr hy hS hW' ?_
 exact K _ hF' (hcl.set hr) ⟨.inr hS, Held.more hun W [] [i] (by simp) hW⟩
end Go.Fw
end

section
namespace Go.Fw
open Go Go.Sem
section
variable {P : Program} {n : Nat} {w0 : World} {zs : List PH} {hs : List Res} {L : List (Nat × Value)} {d : Option Tmp} {ty t : TypeId} {pos : String} {af : Array Edge} {g : Option (Nat × Bool)} {x y : Operand} {v : Value}
theorem q_s2ap_sl [Dfs] {z : PH} {xs : List UInt8} {e arr : TypeId} {m s by_ : Nat} {zv : Value} (ht : Tf P arr (.array m e) s by_ zv) (hS : Sl encB z v xs) (h1 : opv L x = some v) (hm : m ≤ xs.length) (h0 : 0 < m) :
  Qt P n w0 zs hs L ⟨d, .sliceToArrayPointer arr x, ty, pos, af, g⟩ (elemPtr v 0) :=
 qt_of fun a ha w hw => by
  obtain ⟨_, aa, cc, rfl, hcc, h⟩ := hS
  obtain ⟨b, off, cs, ty', fz, cx, rfl, _⟩ := h 0 (xs[0]'omQ) (by simp)
  have hlt : ¬ xs.length < m := by omega
  simp only [execOp, ha.eval h1]
  simp [Instr.arrayAt, run_underlying ht.und, hlt, elemPtr, add_at]
theorem q_ld_B16 [Dfs] {z : PH} {xs : List UInt8} {dd : TypeDesc} {m by_ : Nat} {zv : Value} (ht : Tf P t dd m by_ zv) (hS : Sl encB z v xs) (hz : ZIn w0 zs z) (h1 : opv L x = some (elemPtr v 0)) (hd : aggD dd = true) (hm : xs.length = m) (h0 : 0 < m) :
  Qt P n w0 zs hs L ⟨d, .load t x, ty, pos, af, g⟩ (.agg (xs.map vb).toArray) :=
 qt_of fun a ha w hw => by
  obtain ⟨_, aa, cc, rfl, hcc, h⟩ := hS
  obtain ⟨b, off, cs, ty', fz, cx, rfl, hzb, _⟩ := h 0 (xs[0]'omQ) (by simp)
  have hb := hw.le hz _ _ hzb
  have hc : ∀ i, i < xs.length → cs[off + i]? = some (vb (xs.getD i 0)) := by
   intro i hi
   obtain ⟨b2, off2, cs2, ty2, fz2, cx2, e1, e2, e3, e4⟩ := h i xs[i] (by simp [hi])
   simp only [Option.some.injEq, Addr.mk.injEq, and_true] at e1
   obtain ⟨rfl, rfl⟩ := e1
   rw [hzb] at e2
   simp only [Option.some.injEq, Obj.cells.injEq] at e2
   obtain ⟨rfl, rfl, rfl⟩ := e2
   have := e4 0 (vb xs[i]) (by rw [e3.1]; rfl)
   have e5 : xs.getD i 0 = xs[i] := by simp [hi]
   rw [e5]
   simpa [encB, encV] using this
  have hfit : off + m ≤ cs.size := by
   have := hc (m - 1) omQ
   have := (Array.getElem?_eq_some_iff.1 this).1
   omega
  have hr := run_loadA ht hd hb hfit
  have he : (cs.toList.drop off).take m = xs.map vb := by
   apply List.ext_getElem?
   intro i
   rw [List.getElem?_take, List.getElem?_drop, List.getElem?_map]
   split
   ·rename_i hi
    have := hc i omQ
    have e5 : xs.getD i 0 = xs[i] := by simp [show i < xs.length by omega]
    rw [e5] at this
    rw [List.getElem?_eq_getElem (show i < xs.length by omega)]
    simpa using this
   ·rw [List.getElem?_eq_none omQ]; rfl
  rw [he] at hr
  have hev : a.eval x = .pointer (some ⟨b, off, none⟩) := (ha.eval h1).trans (by simp [elemPtr, add_at])
  simp only [execOp, hev]
  simp [Instr.loadAt, Instr.sureAddr, hr]
end
end Go.Fw
end

section
namespace Go.Fw
open Go Go.Sem
section
variable {P : Program} {n : Nat} {w0 : World} {zs : List PH} {hs : List Res} {L : List (Nat × Value)} {d : Option Tmp} {ty t : TypeId} {pos : String} {af : Array Edge} {g : Option (Nat × Bool)} {x y : Operand} {v : Value}
end
end Go.Fw
end

section
namespace Go.Fw
open Go Go.Sem
section
variable {P : Program} {n : Nat} {w0 : World} {zs : List PH} {hs : List Res} {L : List (Nat × Value)} {d : Option Tmp} {ty t t' : TypeId} {pos : String} {af : Array Edge} {g : Option (Nat × Bool)} {x y : Operand} {v : Value}
theorem ef_callxN [Dfs] (m : Nat) {f : FuncId} (hf : FnOk P f) {os : List Operand} {vs : List Value} {ats : Array TypeId} {R : Value → List PH → List Res → Prop} (h1 : opvs L os = some vs) (hc : Cx P f vs w0 zs (hs.take m) R) :
  Ef P n w0 zs hs L ⟨d, .call ⟨.value (.func f), os.toArray, ats⟩, ty, pos, af, g⟩ (fun v zs' hs' => ∃ z1 h1, zs' = z1 ++ zs ∧ hs' = h1 ++ hs.drop m ∧ R v z1 h1) :=
 ef_callx hf h1 (rest := hs.drop m) (by rw [List.take_append_drop]) hc
theorem ef_callvxN [Dfs] (m : Nat) {f : FuncId} (hf : FnOk P f) {fs cs : List Value} (h0 : opv L x = some (.func (.func f) fs.toArray cs.toArray)) {os : List Operand} {vs : List Value} {ats : Array TypeId} {R : Value → List PH → List Res → Prop} (h1 : opvs L os = some vs) (hc : Cx P f (fs ++ vs ++ cs) w0 zs (hs.take m) R) :
  Ef P n w0 zs hs L ⟨d, .call ⟨.value x, os.toArray, ats⟩, ty, pos, af, g⟩ (fun v zs' hs' => ∃ z1 h1, zs' = z1 ++ zs ∧ hs' = h1 ++ hs.drop m ∧ R v z1 h1) :=
 ef_callvx hf h0 h1 (rest := hs.drop m) (by rw [List.take_append_drop]) hc
end
end Go.Fw
end

section
namespace Go.Fw
open Go Go.Sem
def aiv (l : List Int) : Value := .agg (l.map vi).toArray
section
variable {P : Program}
end
def FnD (P : Program) (w : World) (fv : Value) (q : Int → Prop) (f : Int → List UInt8) : Prop :=
 ∃ g fs cs, fv = .func (.func g) fs.toArray cs.toArray ∧ FnOk P g ∧ ∀ w', (ph w).le (ph w') → ∀ x, q x → Ct P g (fs ++ [vi x] ++ cs) w' (fun r _ _ => r = .agg ((f x).map vb).toArray)
theorem FnD.mono {P : Program} {w w' : World} {fv : Value} {q : Int → Prop} {f : Int → List UInt8} (h : FnD P w fv q f) (hle : (ph w).le (ph w')) : FnD P w' fv q f := by
 obtain ⟨g, fs, cs, h1, h2, h3⟩ := h
 exact ⟨g, fs, cs, h1, h2, fun w2 h4 => h3 w2 (PH.le_tr hle h4)⟩
section
variable {P : Program} {n : Nat} {w0 : World} {zs : List PH} {hs : List Res} {L : List (Nat × Value)} {d : Option Tmp} {ty t : TypeId} {pos : String} {af : Array Edge} {g : Option (Nat × Bool)} {x : Operand}
end
end Go.Fw
end

section
namespace Go.Fw
open Go Go.Sem
section
variable {P : Program} {n : Nat} {w0 : World} {zs : List PH} {hs : List Res} {ops : Array Oper} {L L' : List (Nat × Value)} {k : Nat}
end
end Go.Fw
end

section
namespace Go.Fw
def encK {α : Type} (f : α → List Value) (m : Nat) (p : α → Prop) (hl : ∀ x, (f x).length = m) (h1 : ∀ x, ∀ u ∈ f x, u.oneCell' = true) : Enc α where
 size := m
 rep _ x c := c = f x ∧ p x
 mono _ h := h
 len h := by rw [h.1]; exact hl _
 one h u hu := by rw [h.1] at hu; exact h1 _ u hu
section
variable {α β : Type} {f : α → List β} {m : Nat}
theorem fm_len (hl : ∀ x, (f x).length = m) (xs : List α) : (xs.flatMap f).length = xs.length * m := by
 induction xs with
 | nil => simp
 | cons a t ih => rw [List.flatMap_cons, List.length_append, ih, hl, List.length_cons, Nat.add_mul]; omega
theorem fm_get (hl : ∀ x, (f x).length = m) : ∀ {xs : List α} {i : Nat} {x : α}, xs[i]? = some x → ∀ {j : Nat}, j < m → (xs.flatMap f)[i * m + j]? = (f x)[j]?
 | [], i, x, h, j, _ => by simp at h
 | a :: t, 0, x, h, j, hj => by
  simp only [List.getElem?_cons_zero, Option.some.injEq] at h
  subst h
  rw [List.flatMap_cons, Nat.zero_mul, Nat.zero_add, List.getElem?_append_left (by rw [hl]; exact hj)]
 | a :: t, i + 1, x, h, j, hj => by
  rw [List.getElem?_cons_succ] at h
  rw [List.flatMap_cons, List.getElem?_append_right (by rw [hl, Nat.add_mul]; omega), hl, show (i + 1) * m + j - m = i * m + j by rw [Nat.add_mul]; omega]
  exact fm_get hl h hj
theorem fm_take (hl : ∀ x, (f x).length = m) : ∀ (xs : List α) (i : Nat), (xs.flatMap f).take (i * m) = (xs.take i).flatMap f
 | [], i => by simp
 | a :: t, 0 => by simp
 | a :: t, i + 1 => by
  rw [List.flatMap_cons, List.take_succ_cons, List.flatMap_cons, Nat.add_mul, Nat.one_mul, Nat.add_comm, List.take_append, hl, List.take_of_length_le (by rw [hl]; omega), show m + i * m - m = i * m by omega, fm_take hl]
theorem fm_drop (hl : ∀ x, (f x).length = m) : ∀ (xs : List α) (i : Nat), (xs.flatMap f).drop (i * m) = (xs.drop i).flatMap f
 | [], i => by simp
 | a :: t, 0 => by simp
 | a :: t, i + 1 => by
  rw [List.flatMap_cons, List.drop_succ_cons, Nat.add_mul, Nat.one_mul, Nat.add_comm, List.drop_append, hl, List.drop_of_length_le (by rw [hl]; omega), show m + i * m - m = i * m by omega, fm_drop hl, List.nil_append]
theorem fm_set (hl : ∀ x, (f x).length = m) : ∀ {xs : List α} {i : Nat} {x x' : α}, xs[i]? = some x → ∀ {j : Nat} {u : β}, j < m → f x' = (f x).set j u → (xs.flatMap f).set (i * m + j) u = (xs.set i x').flatMap f
 | [], i, x, x', h, j, u, _, _ => by simp at h
 | a :: t, 0, x, x', h, j, u, hj, hu => by
  simp only [List.getElem?_cons_zero, Option.some.injEq] at h
  subst h
  rw [List.flatMap_cons, Nat.zero_mul, Nat.zero_add, List.set_append_left _ _ (by rw [hl]; exact hj), List.set_cons_zero, List.flatMap_cons, hu]
 | a :: t, i + 1, x, x', h, j, u, hj, hu => by
  rw [List.getElem?_cons_succ] at h
  rw [List.flatMap_cons, List.set_append_right _ _ (by rw [hl, Nat.add_mul]; omega), hl, show (i + 1) * m + j - m = i * m + j by rw [Nat.add_mul]; omega, fm_set hl h hj hu, List.set_cons_succ, List.flatMap_cons]
end
section
variable {α : Type} {f : α → List Value} {m : Nat} {p : α → Prop} {hl : ∀ x, (f x).length = m} {h1 : ∀ x, ∀ u ∈ f x, u.oneCell' = true}
variable {z : PH} {v : Value} {xs : List α}
theorem kget (dflt : α) {k : Nat} (hk : k < xs.length) : xs[k]? = some (xs.getD k dflt) := by
 rw [List.getD_eq_getElem?_getD, List.getElem?_eq_getElem hk]; rfl
theorem K_at (dflt : α) (hS : Sl (encK f m p hl h1) z v xs) {k : Nat} (hk : k < xs.length) : cellsV z (elemPtr v (k * m)) m = f (xs.getD k dflt) ∧ p (xs.getD k dflt) := hS.rep (kget dflt hk)
theorem K_all (hS : Sl (encK f m p hl h1) z v xs) : ∀ x ∈ xs, p x := fun x hx => by
 obtain ⟨k, hk, rfl⟩ := List.getElem_of_mem hx
 exact (hS.rep (i := k) (x := xs[k]) (by simp [hk])).2
theorem K_one (xs : List α) (h1 : ∀ x, ∀ u ∈ f x, u.oneCell' = true) : ∀ u ∈ xs.flatMap f, u.oneCell' = true := fun u hu => by
 obtain ⟨x, _, hx⟩ := List.mem_flatMap.1 hu
 exact h1 x u hx
theorem St.freezeK {w0 : World} {zs : List PH} {hs : List Res} {w : World} {e : TypeId} {k : Nat} (h : St w0 zs (.row v e m k (xs.flatMap f) :: hs) w) (hm : k = xs.length) (hb : k ≤ 140737488355328) (hp : ∀ x ∈ xs, p x) : ∃ z, Sl (encK f m p hl h1) z v xs ∧ St w0 (z :: zs) hs w := by
 refine St.freeze (E := encK f m p hl h1) h (.inl rfl) hm hb fun i x hx => ⟨f x, ⟨rfl, hp x (List.mem_of_getElem? hx)⟩, fun j u hu => ?_⟩
 have hj : j < m := by rw [← hl x]; exact (List.getElem?_eq_some_iff.1 hu).1
 exact (fm_get hl hx hj).trans hu
end
section
variable {P : Program} {n : Nat} {w0 : World} {zs : List PH} {hs : List Res} {L : List (Nat × Value)} {d : Option Tmp} {ty t : TypeId} {pos : String} {af : Array Edge} {g : Option (Nat × Bool)} {x y : Operand} {u v : Value}
variable {α : Type} {f : α → List Value} {m : Nat} {p : α → Prop} {hl : ∀ x, (f x).length = m} {h1 : ∀ x, ∀ u ∈ f x, u.oneCell' = true} {z : PH} {xs : List α}
theorem src_slK {tx e : TypeId} {s by_ : Nat} {zv : Value} (ht : Tf P tx (.slice e) s by_ zv) (hS : Sl (encK f m p hl h1) z v xs) (hz : ZIn w0 zs z) (h0 : 0 < m) : SrcOk P w0 zs hs m tx v xs.length (xs.flatMap f) := by
 refine src_sl (E := encK f m p hl h1) ht hS hz _ (fm_len hl xs) (K_one xs h1) (fun i x cx hx hr j hj => ?_) h0
 rw [hr.1]
 exact fm_get hl hx hj
theorem q_ld_K [Dfs] (dflt : α) {dd : TypeDesc} {by_ : Nat} {zv : Value} (ht : Tf P t dd m by_ zv) {k : Nat} (hS : Sl (encK f m p hl h1) z v xs) (hz : ZIn w0 zs z) (h2 : opv L x = some (elemPtr v (k * m))) (hd : aggD dd = true) (h0 : 0 < m) (hk : k < xs.length) :
  Qt P n w0 zs hs L ⟨d, .load t x, ty, pos, af, g⟩ (.agg (f (xs.getD k dflt)).toArray) := by
 have := q_ld_slA (P := P) (n := n) (w0 := w0) (zs := zs) (hs := hs) (L := L) (d := d) (ty := ty) (pos := pos) (af := af) (g := g) (x := x) (E := encK f m p hl h1) ht (k := k) (m := k * m) rfl h0 hS hz h2 hd hk
 have e := (K_at dflt hS hk).1
 rw [← e]
 exact this
theorem q_fld_E [Dfs] {β : Type} {E : Enc β} {ys : List β} {fs : Array Field} {s by_ : Nat} {zv : Value} (ht : Tf P t (.struct fs) s by_ zv) {k : Nat} (hS : Sl E z v ys) (h2 : opv L x = some (elemPtr v (k * E.size))) (hk : k < ys.length) {j : Nat} {fd : Field} {s' : Nat} (hf : fs[j]? = some fd) (hsz : (P.info? fd.type).map (·.size) = some (s' + 1)) :
  Qt P n w0 zs hs L ⟨d, .fieldAddr t x j, ty, pos, af, g⟩ (elemPtr v (k * E.size + fd.offset)) := by
 obtain ⟨b, off, e1, e2⟩ := elemPtr_add hS hk
 rw [e1] at h2
 rw [e2]
 exact q_fieldAddr ht h2 hf hsz
theorem q_ld_K1 [Dfs] (dflt : α) {dd : TypeDesc} {s by_ : Nat} {zv : Value} (ht : Tf P t dd s by_ zv) {k j : Nat} (hS : Sl (encK f m p hl h1) z v xs) (hz : ZIn w0 zs z) (h2 : opv L x = some (elemPtr v (k * m + j))) (hd : aggD dd = false) (hk : k < xs.length) {u : Value} (hu : (f (xs.getD k dflt))[j]? = some u) :
  Qt P n w0 zs hs L ⟨d, .load t x, ty, pos, af, g⟩ u := by
 obtain ⟨b, off, cs, ty', fz, cx, hp, hzb, hr, hc⟩ := hS.at (kget dflt hk)
 obtain ⟨b', off', e1, e2⟩ := elemPtr_add hS hk
 have e3 : (Value.pointer (some ⟨b', off', none⟩)) = .pointer (some ⟨b, off, none⟩) := e1.symm.trans hp
 injection e3 with e3; injection e3 with e3; injection e3 with e4 e5
 subst e4; subst e5
 have e6 : elemPtr v (k * m + j) = .pointer (some ⟨b', off' + j, none⟩) := e2 j
 rw [e6] at h2
 refine q_ld_z ht h2 hd hz hzb (hc j u ?_)
 rw [hr.1]; exact hu
theorem ef_st_rowK [Dfs] (hl : ∀ x, (f x).length = m) {dd : TypeDesc} {by_ : Nat} {zv : Value} (ht : Tf P t dd 1 by_ zv) (q : Nat) {e : TypeId} {c k j : Nat} {a x' : α} (h2 : opv L x = some (elemPtr v (k * m + j))) (h3 : opv L y = some u) (hk : hs[q]? = some (.row v e m c (xs.flatMap f))) (ha : xs[k]? = some a) (hj : j < m) (ho : u.oneCell' = true) (hx : f x' = (f a).set j u) :
  Ef P n w0 zs hs L ⟨d, .store t x y, ty, pos, af, g⟩ (fun v' zs' hs' => v' = undef ∧ zs' = zs ∧ hs' = hs.set q (.row v e m c ((xs.set k x').flatMap f))) :=
 ef_of fun a9 ha9 w hw => by
  have hc : u.cells = [u].toArray := by cases u <;> first | rfl | (simp [Value.oneCell'] at ho)
  have hown := (hw.own _ (List.mem_of_getElem? hk)).1
  have hlc : (xs.flatMap f).length = c * m := hown.1
  have hlx := fm_len hl xs
  have hkx : k < xs.length := (List.getElem?_eq_some_iff.1 ha).1
  have hkm : k * m + j < c * m := by
   rw [← hlc, hlx]
   have := Nat.mul_le_mul_right m (show k + 1 ≤ xs.length by omega)
   rw [Nat.add_mul, Nat.one_mul] at this
   omega
  obtain ⟨b, cap, cur, rfl, _, hb, hlb, hS⟩ := hw.storeRow (c := [u]) hk (j := k * m + j) (show k * m + j + [u].length ≤ c * m by rw [List.length_singleton]; omega) (by
   rcases Nat.eq_zero_or_pos c with h | h
   ·rw [h, Nat.zero_mul] at hkm; omega
   ·exact h)
  have he : (xs.flatMap f).take (k * m + j) ++ [u] ++ (xs.flatMap f).drop (k * m + j + [u].length) = (xs.set k x').flatMap f := by
   rw [← fm_set hl ha hj hx]
   simp only [List.set_eq_take_append_cons_drop, if_pos (show k * m + j < (xs.flatMap f).length by omega), List.append_assoc, List.cons_append, List.nil_append, List.length_singleton]
  rw [he] at hS
  have hr := run_storeVar (v := u) ht (b := b) (off := k * m + j) (bt := e) (cs := cur.toList) (w := w) (by simpa using hb) (by rw [hc]; rfl) (by rw [hc]; simpa using ho) (by simpa using hlb)
  rw [hc] at hr
  refine ⟨undef, zs, _, _, .inr ⟨?_, rfl⟩, ⟨rfl, rfl, rfl⟩, hS⟩
  have hx9 : a9.eval x = .pointer (some ⟨b, k * m + j, none⟩) := (ha9.eval h2).trans (by simp [elemPtr, add_at])
  simp only [execOp, hx9, ha9.eval h3]
  simp [Instr.storeAt, Instr.sureAddr, hr]
theorem q_fld_row [Dfs] {fs : Array Field} {s by_ : Nat} {zv : Value} (ht : Tf P t (.struct fs) s by_ zv) (q : Nat) {e : TypeId} {c k size : Nat} {cs : List Value} (hq : hs[q]? = some (.row v e size c cs)) (h2 : opv L x = some (elemPtr v (k * size))) (hk : k < c) {j : Nat} {fd : Field} {s' : Nat} (hf : fs[j]? = some fd) (hsz : (P.info? fd.type).map (·.size) = some (s' + 1)) :
  Qt P n w0 zs hs L ⟨d, .fieldAddr t x j, ty, pos, af, g⟩ (elemPtr v (k * size + fd.offset)) :=
 qt_of fun a ha w hw => by
  have hown := (hw.own _ (List.mem_of_getElem? hq)).1
  rcases hown.2 with ⟨rfl, hn⟩ | ⟨b, cap, cur, rfl, _⟩
  ·omega
  ·have e1 : elemPtr (.slice (some ⟨b, 0, none⟩) c cap) (k * size) = .pointer (some ⟨b, k * size, none⟩) := by simp [elemPtr, add_at]
   have e2 : elemPtr (.slice (some ⟨b, 0, none⟩) c cap) (k * size + fd.offset) = .pointer (some ⟨b, k * size + fd.offset, none⟩) := by simp [elemPtr, add_at]
   rw [e1] at h2
   rw [e2]
   have hsz : (sizeOf fd.type).run P w = .ok (s' + 1) w := by
    cases hi : P.info? fd.type with
    | none => simp [hi] at hsz
    | some i => simp [hi] at hsz; simp [sizeOf, typeInfo, hi, hsz]
   simp only [execOp, ha.eval h2]
   simp [Instr.fieldAt, Instr.sureAddr, run_underlying ht.und, hf, fieldPlace, hsz, add_at]
theorem q_ld_rowK1 [Dfs] (hl : ∀ x, (f x).length = m) (dflt : α) {dd : TypeDesc} {s by_ : Nat} {zv : Value} (ht : Tf P t dd s by_ zv) (q : Nat) {e : TypeId} {c k j : Nat} (hq : hs[q]? = some (.row v e m c (xs.flatMap f))) (h2 : opv L x = some (elemPtr v (k * m + j))) (hd : aggD dd = false) (hk : k < xs.length) (hj : j < m) {u : Value} (hu : (f (xs.getD k dflt))[j]? = some u) :
  Qt P n w0 zs hs L ⟨d, .load t x, ty, pos, af, g⟩ u :=
 q_ld_row ht q hq h2 (by rw [fm_get hl (kget dflt hk) hj]; exact hu) hd
end
def kvC (x : List UInt8 × List UInt8) : List Value := [vs x.1, vs x.2]
def kvP (x : List UInt8 × List UInt8) : Prop := x.1.length ≤ 140737488355328 ∧ x.2.length ≤ 140737488355328
theorem kvC_len (x : List UInt8 × List UInt8) : (kvC x).length = 2 := rfl
theorem kvC_one (x : List UInt8 × List UInt8) : ∀ u ∈ kvC x, u.oneCell' = true := fun u hu => by
 simp only [kvC, List.mem_cons, List.not_mem_nil, or_false] at hu
 rcases hu with rfl | rfl <;> rfl
def encF : Enc (List UInt8 × List UInt8) := encK kvC 2 kvP kvC_len kvC_one
def kv0 : List UInt8 × List UInt8 := ([], [])
section
variable {P : Program} {n : Nat} {w0 : World} {zs : List PH} {hs : List Res} {L : List (Nat × Value)} {d : Option Tmp} {ty t : TypeId} {pos : String} {af : Array Edge} {g : Option (Nat × Bool)} {x y : Operand} {u v : Value} {z : PH} {xs : List (List UInt8 × List UInt8)}
theorem q_ld_F [Dfs] {dd : TypeDesc} {by_ : Nat} {zv : Value} (ht : Tf P t dd 2 by_ zv) {k : Nat} (hS : Sl encF z v xs) (hz : ZIn w0 zs z) (h2 : opv L x = some (elemPtr v (k * 2))) (hd : aggD dd = true) (hk : k < xs.length) :
  Qt P n w0 zs hs L ⟨d, .load t x, ty, pos, af, g⟩ (.agg [vs (xs.getD k kv0).1, vs (xs.getD k kv0).2].toArray) := q_ld_K kv0 ht hS hz h2 hd deQ hk
theorem q_ld_FK [Dfs] {dd : TypeDesc} {s by_ : Nat} {zv : Value} (ht : Tf P t dd s by_ zv) {k : Nat} (hS : Sl encF z v xs) (hz : ZIn w0 zs z) (h2 : opv L x = some (elemPtr v (k * 2 + 0))) (hd : aggD dd = false) (hk : k < xs.length) :
  Qt P n w0 zs hs L ⟨d, .load t x, ty, pos, af, g⟩ (vs (xs.getD k kv0).1) := q_ld_K1 kv0 ht hS hz h2 hd hk rfl
theorem q_ld_FV [Dfs] {dd : TypeDesc} {s by_ : Nat} {zv : Value} (ht : Tf P t dd s by_ zv) {k : Nat} (hS : Sl encF z v xs) (hz : ZIn w0 zs z) (h2 : opv L x = some (elemPtr v (k * 2 + 1))) (hd : aggD dd = false) (hk : k < xs.length) :
  Qt P n w0 zs hs L ⟨d, .load t x, ty, pos, af, g⟩ (vs (xs.getD k kv0).2) := q_ld_K1 kv0 ht hS hz h2 hd hk rfl
theorem q_fld_F [Dfs] {fs : Array Field} {s by_ : Nat} {zv : Value} (ht : Tf P t (.struct fs) s by_ zv) {k : Nat} (hS : Sl encF z v xs) (h2 : opv L x = some (elemPtr v (k * 2))) (hk : k < xs.length) {j : Nat} {fd : Field} {s' : Nat} (hf : fs[j]? = some fd) (hsz : (P.info? fd.type).map (·.size) = some (s' + 1)) :
  Qt P n w0 zs hs L ⟨d, .fieldAddr t x j, ty, pos, af, g⟩ (elemPtr v (k * 2 + fd.offset)) := q_fld_E (E := encF) ht hS h2 hk hf hsz
end
theorem F_all {z : PH} {v : Value} {xs : List (List UInt8 × List UInt8)} (hS : Sl encF z v xs) : ∀ x ∈ xs, kvP x := K_all hS
theorem St.freezeF {w0 : World} {zs : List PH} {hs : List Res} {w : World} {e : TypeId} {v : Value} {k : Nat} {xs : List (List UInt8 × List UInt8)} (h : St w0 zs (.row v e 2 k (xs.flatMap kvC) :: hs) w) (hm : k = xs.length) (hb : k ≤ 140737488355328) (hp : ∀ x ∈ xs, kvP x) : ∃ z, Sl encF z v xs ∧ St w0 (z :: zs) hs w := St.freezeK h hm hb hp
end Go.Fw
end

section
namespace Go.Fw
section
variable {P : Program} {n : Nat} {w0 : World} {zs : List PH} {hs : List Res} {L : List (Nat × Value)} {d : Option Tmp} {ty t t' : TypeId} {pos : String} {af : Array Edge} {g : Option (Nat × Bool)} {x y : Operand} {u v : Value}
theorem q_ges [Dfs] {p q : List UInt8} (h1 : opv L x = some (vs p)) (h2 : opv L y = some (vs q)) : Qt P n w0 zs hs L ⟨d, .binOp .geq t x y t', ty, pos, af, g⟩ (.bool (!Op.bytesLess p q)) :=
 q_bin h1 h2 eqg_str fun w => by simp [binOp, Op.stringOp]
theorem q_les [Dfs] {p q : List UInt8} (h1 : opv L x = some (vs p)) (h2 : opv L y = some (vs q)) : Qt P n w0 zs hs L ⟨d, .binOp .leq t x y t', ty, pos, af, g⟩ (.bool (Op.bytesLess p q || decide (p = q))) :=
 q_bin h1 h2 eqg_str fun w => by
  have : (p == q) = decide (p = q) := by rw [Bool.eq_iff_iff]; simp
  simp [binOp, Op.stringOp, this]
def wr (n : Int) : Int := IntKind.i64.wrap n
theorem wr_in {n : Int} (h : -9223372036854775808 ≤ n ∧ n ≤ 9223372036854775807) : wr n = n := IntWalk.i64_in _ h
theorem wr_bd (n : Int) : -9223372036854775808 ≤ wr n ∧ wr n ≤ 9223372036854775807 := by unfold wr; rw [IntKind.wrap_i64]; omega
theorem q_addiW [Dfs] {p q : Int} (h1 : opv L x = some (vi p)) (h2 : opv L y = some (vi q)) : Qt P n w0 zs hs L ⟨d, .binOp .add t x y t', ty, pos, af, g⟩ (vi (wr (p + q))) :=
 q_bin h1 h2 eqg_int fun w => by simp [binOp, Op.intArith, wr]
theorem q_subiW [Dfs] {p q : Int} (h1 : opv L x = some (vi p)) (h2 : opv L y = some (vi q)) : Qt P n w0 zs hs L ⟨d, .binOp .sub t x y t', ty, pos, af, g⟩ (vi (wr (p - q))) :=
 q_bin h1 h2 eqg_int fun w => by simp [binOp, Op.intArith, wr]
theorem q_cmps [Dfs] {f : FuncId} {fn : Func} (hf : P.funcs[f]? = some fn) (hname : (fn.name == "runtime.NumGoroutine") = false) (hb : fn.body.isNone = true) (hn : Extern.findNext fn = none) (he : Extern.find fn = some Extern.BytealgCompare.compare) {ats : Array TypeId} {a b : List UInt8} (h1 : opv L x = some (vs a)) (h2 : opv L y = some (vs b)) :
  Qt P n w0 zs hs L ⟨d, .call ⟨.value (.func f), #[x, y], ats⟩, ty, pos, af, g⟩ (vi (Lib.compareBytes a b)) :=
 qt_of fun a9 ha w hw => by
  have hr := run_callFunc_extern hf hname hb hn he #[vs a, vs b] w
  have hrn := Lib.run_compareString (P := P) (w := w) ⟨a.toArray⟩ ⟨b.toArray⟩
  rw [show #[vs a, vs b] = #[.string ⟨a.toArray⟩, .string ⟨b.toArray⟩] from rfl, hrn] at hr
  simp only [execOp]
  simp only [resolve, Act.eval, Deferred.ofValue, invoke, Sem.run_bind, Sem.run_pure, Result.andThen_ok]
  have hev : (#[x, y].map a9.eval) = #[vs a, vs b] := by simp [ha.eval h1, ha.eval h2]
  rw [hev]
  exact hr
end
end Go.Fw
end

section
namespace Go.Fw
section
variable {P : Program} {n : Nat} {w0 : World} {zs : List PH} {hs : List Res} {L : List (Nat × Value)} {d : Option Tmp} {ty t t' : TypeId} {pos : String} {af : Array Edge} {g : Option (Nat × Bool)} {x y : Operand} {u v : Value}
theorem q_slrowS_lo [Dfs] {e e' : TypeId} {s by_ m size : Nat} {zv : Value} (ht : Tf P t (.slice e) s by_ zv) {de : TypeDesc} {be : Nat} {ze : Value} (hte : Tf P e de size be ze) (q : Nat) {cs : List Value} {k : IntKind} {i : Int} (hk : hs[q]? = some (.row v e' size m cs)) (h1 : opv L x = some v) (h2 : opv L y = some (.int k i)) (hb : 0 ≤ i ∧ i ≤ m) :
  Qt P n w0 zs hs L ⟨d, .slice t x (some y) none none, ty, pos, af, g⟩ (slV v size i.toNat m) :=
 qt_of fun a ha w hw => by
  have hown := (hw.own _ (List.mem_of_getElem? hk)).1
  obtain ⟨ad, cc, rfl, hcc⟩ : ∃ ad cc, v = .slice ad m cc ∧ m ≤ cc := by
   rcases hown.2 with ⟨rfl, rfl⟩ | ⟨b, cap, cur, rfl, _, _, hnc, _⟩
   ·exact ⟨none, 0, rfl, Nat.le_refl _⟩
   ·exact ⟨_, cap, rfl, hnc⟩
  simp only [execOp, ha.eval h1, Option.map_some, ha.eval h2, Option.map_none]
  have e2 : (Instr.sliceBound (.int k i) m .sliceB).run P w = .ok i.toNat w := run_sliceBound (P := P) (w := w) k i m .sliceB omQ omQ
  simp [Instr.sliceAt, Instr.slice, run_underlying ht.und, Instr.sliceBounds, hte.sizeOf, e2, slV]
theorem q_slrowS_hi [Dfs] {e e' : TypeId} {s by_ m size : Nat} {zv : Value} (ht : Tf P t (.slice e) s by_ zv) {de : TypeDesc} {be : Nat} {ze : Value} (hte : Tf P e de size be ze) (q : Nat) {cs : List Value} {k : IntKind} {i : Int} (hk : hs[q]? = some (.row v e' size m cs)) (h1 : opv L x = some v) (h2 : opv L y = some (.int k i)) (hb : 0 ≤ i ∧ i ≤ m) :
  Qt P n w0 zs hs L ⟨d, .slice t x none (some y) none, ty, pos, af, g⟩ (slV v size 0 i.toNat) :=
 qt_of fun a ha w hw => by
  have hown := (hw.own _ (List.mem_of_getElem? hk)).1
  obtain ⟨ad, cc, rfl, hcc⟩ : ∃ ad cc, v = .slice ad m cc ∧ m ≤ cc := by
   rcases hown.2 with ⟨rfl, rfl⟩ | ⟨b, cap, cur, rfl, _, _, hnc, _⟩
   ·exact ⟨none, 0, rfl, Nat.le_refl _⟩
   ·exact ⟨_, cap, rfl, hnc⟩
  simp only [execOp, ha.eval h1, Option.map_some, ha.eval h2, Option.map_none]
  have e2 : (Instr.sliceBound (.int k i) cc .sliceAcap).run P w = .ok i.toNat w := run_sliceBound (P := P) (w := w) k i cc .sliceAcap omQ omQ
  cases ad <;> simp [Instr.sliceAt, Instr.slice, run_underlying ht.und, Instr.sliceBounds, hte.sizeOf, e2, slV, Addr.add]
theorem src_slrowS {tx e e' : TypeId} {s by_ m size : Nat} {zv v : Value} (ht : Tf P tx (.slice e) s by_ zv) {q : Nat} {cs : List Value} (hk : hs[q]? = some (.row v e' size m cs)) (h1 : ∀ u ∈ cs, u.oneCell' = true) {lo hi : Nat} (hb : lo ≤ hi ∧ hi ≤ m) : SrcOk P w0 zs hs size tx (slV v size lo hi) (hi - lo) ((cs.take (hi * size)).drop (lo * size)) := by
 intro w hw
 have h := (hw.own _ (List.mem_of_getElem? hk)).1
 have hlen : cs.length = m * size := h.1
 have hlh : lo * size ≤ hi * size := Nat.mul_le_mul_right _ hb.1
 have hhm : hi * size ≤ m * size := Nat.mul_le_mul_right _ hb.2
 have hl2 : ((cs.take (hi * size)).drop (lo * size)).length = (hi - lo) * size := by rw [List.length_drop, List.length_take, Nat.sub_mul]; omega
 have ho : ∀ u ∈ (cs.take (hi * size)).drop (lo * size), u.oneCell' = true := fun u hu => h1 u (List.mem_of_mem_take (List.mem_of_mem_drop hu))
 rcases h.2 with ⟨rfl, hn⟩ | ⟨b, cap, cur, rfl, hb', hg, hnc, hcm, hcs, htake⟩
 ·obtain rfl : hi = 0 := by omega
  obtain rfl : lo = 0 := by omega
  simpa [slV] using Src.ofNil w ht.und 0
 ·by_cases hc : cap = lo
  ·have e1 : hi - lo = 0 := by omega
   have e0 : (cs.take (hi * size)).drop (lo * size) = [] := List.eq_nil_of_length_eq_zero (by rw [hl2, e1, Nat.zero_mul])
   simp only [slV, if_pos hc]
   rw [e0, e1]
   exact Src.ofSlice w ht.und ⟨b, 0, none⟩ 0 _ [] (by simp) (fun j u hu => by simp at hu) (by simp)
  ·simp only [slV, if_neg hc, Option.map_some]
   refine Src.ofSlice w ht.und (Addr.add ⟨b, 0, none⟩ (lo * size)) (hi - lo) (cap - lo) _ hl2 (fun j u hu => ?_) ho
   rw [add_at, add_at, cell_of_row w b _ cur e' (0, 0) hg]
   rw [List.getElem?_drop, List.getElem?_take] at hu
   split at hu
   ·rw [← htake, List.getElem?_take] at hu
    split at hu
    ·simpa using hu
    ·cases hu
   ·cases hu
theorem ef_append_cutS [Dfs] {e : TypeId} {de : TypeDesc} {by_ st bt size : Nat} {zv zt : Value} (ht : Tf P t (.slice e) st bt zt) (hte : Tf P e de size by_ zv) (q : Nat) {m k k' : Nat} {cs : List Value} (h1 : opv L x = some (slV v size 0 k)) (h2 : opv L y = some (slV v size k' m)) (hk' : k' = k + 1) (hk : hs[q]? = some (.row v e size m cs)) (hkm : k < m)
  (hb : m * by_ ≤ 140737488355328 ∧ m ≤ 140737488355328) (h1c : ∀ u ∈ cs, u.oneCell' = true) (hzs : zv.cells.size = size) (h0 : 0 < size) :
  Ef P n w0 zs hs L ⟨d, .call ⟨.builtin .append, #[x, y], #[t, t]⟩, ty, pos, af, g⟩ (fun v' zs' hs' => zs' = zs ∧ hs' = hs.set q (.row v' e size (m - 1) (cs.take (k * size) ++ cs.drop ((k + 1) * size)))) :=
 ef_of fun a ha w hw => by
  subst hk'
  have hown := (hw.own _ (List.mem_of_getElem? hk)).1
  have hlc : cs.length = m * size := hown.1
  have hsrc := src_slrowS ht hk h1c (lo := k + 1) (hi := m) omQ w hw
  rw [List.take_of_length_le omQ] at hsrc
  rcases hown.2 with ⟨_, hn⟩ | ⟨b, cap, cur, rfl, hbb, hg, hnc, hcm, hcs, htake⟩
  ·omega
  have hv : slV (.slice (some ⟨b, 0, none⟩) m cap) size 0 k = .slice (some ⟨b, 0, none⟩) k cap := by
   simp only [slV]
   by_cases h : cap = 0
   ·omega
   ·rw [if_neg h]; simp [Addr.add]
  rw [hv] at h1
  have hkms : k * size ≤ m * size := Nat.mul_le_mul_right _ omQ
  have hown2 : w.ownsRow w0.heap.size e size (.slice (some ⟨b, 0, none⟩) k cap) k (cs.take (k * size)) := by
   refine ⟨by rw [List.length_take]; omega, .inr ⟨b, cap, cur, rfl, hbb, hg, by omega, hcm, hcs, ?_⟩⟩
   rw [← htake, List.take_take]
   congr 1
   omega
  have hm1 : k + (m - (k + 1)) = m - 1 := by omega
  have hle : (k + (m - (k + 1))) * by_ ≤ m * by_ := Nat.mul_le_mul_right _ omQ
  obtain ⟨v', w', hr, ho, hgr, hn⟩ := run_append_src (ty := ty) hte ht hzs h0 hown2 hsrc omQ omQ (le_size hw.ext)
  rw [hm1] at ho
  refine ⟨v', zs, _, w', .inl ?_, ⟨rfl, rfl⟩, hw.append hk hgr ho hn⟩
  have hx : a.eval x = .slice (some ⟨b, 0, none⟩) k cap := ha.eval h1
  simp only [execOp]
  simp [resolve, invoke, builtin, hx, ha.eval h2, hr]
theorem ef_st_cell [Dfs] {dd : TypeDesc} {by_ size : Nat} {zv : Value} (ht : Tf P t dd 1 by_ zv) (k : Nat) {e : TypeId} {m j : Nat} {cs : List Value} (h1 : opv L x = some (elemPtr v j)) (h2 : opv L y = some u) (hk : hs[k]? = some (.row v e size m cs)) (hj : j < m * size) (ho : u.oneCell' = true) :
  Ef P n w0 zs hs L ⟨d, .store t x y, ty, pos, af, g⟩ (fun v' zs' hs' => v' = undef ∧ zs' = zs ∧ hs' = hs.set k (.row v e size m (cs.set j u))) :=
 ef_of fun a ha w hw => by
  have hc : u.cells = [u].toArray := by cases u <;> first | rfl | (simp [Value.oneCell'] at ho)
  have hlc : cs.length = m * size := (hw.own _ (List.mem_of_getElem? hk)).1.1
  obtain ⟨b, cap, cur, rfl, _, hb, hl, hS⟩ := hw.storeRow (c := [u]) hk (j := j) (by rw [List.length_singleton]; omega) (by
   rcases Nat.eq_zero_or_pos m with h | h
   ·rw [h, Nat.zero_mul] at hj; omega
   ·exact h)
  have he : cs.take j ++ [u] ++ cs.drop (j + [u].length) = cs.set j u := by
   simp only [List.set_eq_take_append_cons_drop, if_pos (show j < cs.length by omega), List.append_assoc, List.cons_append, List.nil_append, List.length_singleton]
  rw [he] at hS
  have hr := run_storeVar (v := u) ht (b := b) (off := j) (bt := e) (cs := cur.toList) (w := w) (by simpa using hb) (by rw [hc]; rfl) (by rw [hc]; simpa using ho) (by simpa using hl)
  rw [hc] at hr
  refine ⟨undef, zs, _, _, .inr ⟨?_, rfl⟩, ⟨rfl, rfl, rfl⟩, hS⟩
  have hx : a.eval x = .pointer (some ⟨b, j, none⟩) := (ha.eval h1).trans (by simp [elemPtr, add_at])
  simp only [execOp, hx, ha.eval h2]
  simp [Instr.storeAt, Instr.sureAddr, hr]
theorem q_idx_rowE [Dfs] {m9 size c kk : Nat} {e e' : TypeId} {s by_ : Nat} {zv : Value} (ht : Tf P t (.array m9 e) s by_ zv) {de : TypeDesc} {be : Nat} {ze : Value} (hte : Tf P e de 1 be ze) (q : Nat) {cs : List Value} {i : Int} {ik : IntKind} (hq : hs[q]? = some (.row v e' size c cs)) (h2 : opv L x = some (elemPtr v (kk * size))) (h3 : opv L y = some (.int ik i)) (hk : kk < c) (hb : 0 ≤ i ∧ i < m9) :
  Qt P n w0 zs hs L ⟨d, .indexAddr t x y, ty, pos, af, g⟩ (elemPtr v (kk * size + i.toNat)) := fun a ha w hw => by
 have hown := (hw.own _ (List.mem_of_getElem? hq)).1
 rcases hown.2 with ⟨rfl, hn⟩ | ⟨b, cap, cur, rfl, _⟩
 ·omega
 ·have e1 : elemPtr (.slice (some ⟨b, 0, none⟩) c cap) (kk * size) = .pointer (some ⟨b, kk * size, none⟩) := by simp [elemPtr, add_at]
  have e2 : elemPtr (.slice (some ⟨b, 0, none⟩) c cap) (kk * size + i.toNat) = .pointer (some ⟨b, kk * size + i.toNat, none⟩) := by simp [elemPtr, add_at]
  rw [e1] at h2
  rw [e2]
  have := q_idx_arr (P := P) (n := n) (w0 := w0) (zs := zs) (hs := hs) (d := d) (ty := ty) (pos := pos) (af := af) (g := g) ht hte h2 h3 hb
  rw [Nat.mul_one] at this
  exact this a ha w hw
theorem flat_at {xs : List (List UInt8)} {m : Nat} (hl : ∀ x ∈ xs, x.length = m) {k i : Nat} (hk : k < xs.length) (hi : i < m) : (xs.flatten.map vb)[k * m + i]? = some (vb ((xs.getD k []).getD i 0)) := by
 have h1 := flat_map_get hl (i := k) (x := xs[k]) (by simp [hk]) hi
 rw [h1]
 have h2 : (xs[k]).length = m := hl _ (List.getElem_mem hk)
 have e1 : xs.getD k [] = xs[k] := by rw [List.getD_eq_getElem?_getD, List.getElem?_eq_getElem hk]; rfl
 rw [e1, List.getElem?_map, List.getD_eq_getElem?_getD, List.getElem?_eq_getElem omQ]
 rfl
theorem flat_set1 {m : Nat} : ∀ {xs : List (List UInt8)} (_ : ∀ x ∈ xs, x.length = m) {k i : Nat} (_ : k < xs.length) (_ : i < m) (b : UInt8), (xs.flatten.map vb).set (k * m + i) (vb b) = ((xs.set k ((xs.getD k []).set i b)).flatten.map vb)
 | [], _, k, i, hk, _, b => by simp at hk
 | c :: t, hl, 0, i, hk, hi, b => by
  have hc : c.length = m := hl c (List.mem_cons_self ..)
  rw [List.flatten_cons, List.map_append, Nat.zero_mul, Nat.zero_add, List.set_append_left _ _ (by rw [List.length_map]; omega), List.set_cons_zero, List.flatten_cons, List.map_append, List.map_set]
  rfl
 | c :: t, hl, k + 1, i, hk, hi, b => by
  have hc : c.length = m := hl c (List.mem_cons_self ..)
  rw [List.flatten_cons, List.map_append, List.set_append_right _ _ (by rw [List.length_map, hc, Nat.add_mul]; omega), List.length_map, hc, show (k + 1) * m + i - m = k * m + i by rw [Nat.add_mul]; omega, flat_set1 (fun x hx => hl x (List.mem_cons_of_mem _ hx)) (by simpa using hk) hi b, List.set_cons_succ, List.flatten_cons, List.map_append, List.getD_cons_succ]
theorem flat_cut {xs : List (List UInt8)} {m : Nat} (hl : ∀ x ∈ xs, x.length = m) (k : Nat) : (xs.flatten.map vb).take (k * m) ++ (xs.flatten.map vb).drop ((k + 1) * m) = ((xs.take k ++ xs.drop (k + 1)).flatten.map vb) := by
 have ht : ∀ (xs : List (List UInt8)) (_ : ∀ x ∈ xs, x.length = m) (k : Nat), xs.flatten.take (k * m) = (xs.take k).flatten := by
  intro xs
  induction xs with
  | nil => intro _ k; simp
  | cons c t ih =>
   intro hl k
   have hc : c.length = m := hl c (List.mem_cons_self ..)
   cases k with
   | zero => simp
   | succ k => rw [List.flatten_cons, List.take_succ_cons, List.flatten_cons, Nat.add_mul, Nat.one_mul, Nat.add_comm, List.take_append, hc, List.take_of_length_le omQ, show m + k * m - m = k * m by omega, ih (fun x hx => hl x (List.mem_cons_of_mem _ hx))]
 have hd : ∀ (xs : List (List UInt8)) (_ : ∀ x ∈ xs, x.length = m) (k : Nat), xs.flatten.drop (k * m) = (xs.drop k).flatten := by
  intro xs
  induction xs with
  | nil => intro _ k; simp
  | cons c t ih =>
   intro hl k
   have hc : c.length = m := hl c (List.mem_cons_self ..)
   cases k with
   | zero => simp
   | succ k => rw [List.flatten_cons, List.drop_succ_cons, Nat.add_mul, Nat.one_mul, Nat.add_comm, List.drop_append, hc, List.drop_of_length_le omQ, show m + k * m - m = k * m by omega, ih (fun x hx => hl x (List.mem_cons_of_mem _ hx)), List.nil_append]
 rw [← List.map_take, ← List.map_drop, ht xs hl, hd xs hl, List.flatten_append, List.map_append]
end
end Go.Fw
end

section
namespace Go.Fw
open Go.ChangeShapes Go.WideShapes Go.ChangeAt Go.RowKit
section
variable {H : Type} {enc : TypeId × Value → H} {P : Program} {W : World} {t e : TypeId}
end
section
variable {P : Program} {n : Nat} {w0 : World} {zs : List PH} {hs : List Res} {L : List (Nat × Value)} {d : Option Tmp} {ty t : TypeId} {pos : String} {af : Array Edge} {g : Option (Nat × Bool)} {x y : Operand} {v : Value}
end
end Go.Fw
end

section
/- A range over a function in whose rounds more than one thing is changed; s[lo:hi:max]. -/
namespace Go.Fw
section
variable {P : Program} {n : Nat} {w0 : World} {zs : List PH} {L : List (Nat × Value)}
theorem wp_rangeG {γ : Type} {g : Operand} {p d : Tmp} {ia : Nat} {ta : TypeId} {pa : String} {aa : Array Edge} {body : Code} {Q : Exit → Act → World → Prop} {a : Act} {w : World} {gf : FuncId} {cs : List Value} (hsf : γ → List Res) (inv : Nat → γ → Prop) (N : Nat) (it : Nat → Value) (r0 : γ)
  (hF : Fr n L a) (hS : St w0 zs (hsf r0) w) (hg : opv L g = some (.func (.func gf) #[] cs.toArray)) (hp : Nat.blt p n = true) (hdn : Nat.blt d n = true) (hf : FnOk P gf) (h0 : inv 0 r0)
  (hit : ∀ (Y : Value) (zs1 : List PH), (∀ z ∈ zs, z ∈ zs1) → (∀ k r, k < N → inv k r → Yd P Y (it k) (St w0 zs1 (hsf r)) fun w' => ∃ r', inv (k + 1) r' ∧ St w0 zs1 (hsf r') w') →
   ∀ w, St w0 zs1 (hsf r0) w → Calls P gf (Y :: cs).toArray w fun e w' => (∃ v, e = .returned v) ∧ ∃ r, inv N r ∧ St w0 zs1 (hsf r) w')
  (hbody : ∀ (l m : Nat) (zB zD : PH) (k : Nat) (r : γ) (a : Act) (w : World), k < N → inv k r → Fr n ((d, it k) :: (p, it k) :: L) a → St w0 (zB :: zD :: zs) (hsf r) w →
   body.wpIn (Fe (some l)) m P (QJ fun _ w' => ∃ r', inv (k + 1) r' ∧ St w0 (zB :: zD :: zs) (hsf r') w') a w)
  (hK : ∀ (I : Dfs) (D : Nat) (zD : PH) (a : Act) (w : World) (r : γ), (∀ z ∈ zs, z D = none) → I.ds = [{ target := .collected D, args := #[] }] → zD = ph1 D (.deferred (some [])) → inv N r → Fr (I := I) n L a → St w0 (zD :: zs) (hsf r) w → Q .normal a w) :
  (Code.rangeFunc g #[p] (.region ia [⟨some d, .assign (.tmp p), ta, pa, aa, none⟩].toArray false) body).wp P Q a w := by
 refine wpIn_wide (n := 0).1 (wpIn_rangeFunc ?_)
 intro fn _
 obtain ⟨rec, hrec⟩ : ∃ rec : LoopState → Option Code → Loop, rec = fun st pe => { state := st, pending := pe, fn, tmps := a.tmps, params := #[p], assign := (.region ia [⟨some d, .assign (.tmp p), ta, pa, aa, none⟩].toArray false), body, defers := w.heap.size } := ⟨_, rfl⟩
 have hzn : ∀ b, w.heap.size ≤ b → ∀ z ∈ zs, z b = none := fun b hb z hz => by
  cases hzb : z b with
  | none => rfl
  | some o => exact absurd (ph_some ((hS.zone z hz).1 b o hzb)) omQ
 have hS1 : St w0 (ph1 w.heap.size (.deferred (some [])) :: zs) (hsf r0) (w.alloc (.deferred (some []))) :=
  hS.frozen _ (by simp) (fun b hb => heap_alloc_old w _ hb) (heap_alloc_new w _) ⟨rfl, rfl, rfl⟩
 have hS2 : St w0 (ph1 (w.heap.size + 1) (.loop (rec .ready none)) :: ph1 w.heap.size (.deferred (some [])) :: zs) (hsf r0) ((w.alloc (.deferred (some []))).alloc (.loop (rec .ready none))) := by
  have := hS1.frozen (w' := (w.alloc (.deferred (some []))).alloc (.loop (rec .ready none))) (.loop (rec .ready none)) (by simp) (fun b hb => heap_alloc_old _ _ hb) (heap_alloc_new _ _) ⟨rfl, rfl, rfl⟩
  rwa [World.size_alloc] at this
 obtain ⟨zD, hzD⟩ : ∃ z, z = ph1 w.heap.size (.deferred (some [])) := ⟨_, rfl⟩
 have hzl : ∀ z ∈ zD :: zs, z (w.heap.size + 1) = none := by
  intro z hz
  rcases List.mem_cons.1 hz with rfl | hz
  ·rw [hzD]; unfold ph1; rw [if_neg omQ]
  ·exact hzn _ omQ z hz
 rw [← hzD] at hS2
 generalize hW1 : (w.alloc (.deferred (some []))).alloc (.loop (rec .ready none)) = W1 at hS2
 obtain ⟨fnr, hfn1, hfn2, hfn3⟩ := hf
 refine ⟨w.heap.size + 1, [{ target := .collected w.heap.size, args := #[] }], W1, { target := .fn (.func gf) cs.toArray, args := #[.func (.yield (w.heap.size + 1)) #[] #[]] }, W1, gf,
  (.func (.yield (w.heap.size + 1)) #[] #[] :: cs).toArray, W1, ?_, ?_, fun _ _ => trivial, ?_, fun h => (by cases h), ?_⟩
 ·rw [← hW1, hrec]; exact run_enterLoop_outer _ _ _ _ _
 ·have he := hF.eval hg
  simp only [resolve, rangeCall, he]
  simp [Deferred.ofValue, Act.eval]
 ·simp only [invoke, Sem.run_bind, Sem.run_pure, Result.andThen_ok, callFunc, run_program, hfn1, hfn2, hfn3]
  simp
 ·refine (calls_in (ro := none) (hit (.func (.yield (w.heap.size + 1)) #[] #[]) (ph1 (w.heap.size + 1) (.loop (rec .ready none)) :: zD :: zs) (fun z hz => List.mem_cons_of_mem _ (List.mem_cons_of_mem _ hz)) ?_ W1 hS2)).mono ?_
  ·
   intro k r hk hi W hW
   have hl : W.heap[w.heap.size + 1]? = some (.loop (rec .ready none)) := (hW.zone _ List.mem_cons_self).1 _ _ (by unfold ph1; rw [if_pos rfl])
   have hy := run_yield (P := P) (args := #[it k]) hl (by rw [hrec]; simp)
   rw [hrec] at hy
   refine ⟨_, fn, _, _, body, rfl, hy, fun m => roundIn_of_wpIn (l := w.heap.size + 1) trivial ?_⟩
   have hF0 : Fr n ((p, it k) :: L) { tmps := (#[p].zip #[it k]).foldl (fun tmps (x : Tmp × Value) => tmps.setIfInBounds x.1 x.2) a.tmps, defers := [] } := by
    have h1 := hF.put (d := p) (v := it k) (Nat.blt_eq.mp hp)
    refine ⟨?_, rfl, fun t v hv => ?_⟩
    ·have := h1.size; simpa [Act.put] using this
    ·have := h1.get t v hv; simpa [Act.put] using this
   refine regR (ro := some (w.heap.size + 1)) rfl hF0 hW (sq hdn (q_assign (v := it k) (by show look _ p = _; unfold look; rw [Nat.beq_refl]; rfl)) <| sq_end) fun a1 w1 hF1 hS1 => ?_
   have hl1 : w1.heap[w.heap.size + 1]? = some (.loop (rec .ready none)) := (hS1.zone _ List.mem_cons_self).1 _ _ (by unfold ph1; rw [if_pos rfl])
   refine ⟨_, run_beginRound hl1 (by rw [hrec]), ?_⟩
   have hS2 := hS1.swap hzl (.loop { rec .ready none with state := .busy })
   refine wpIn_mono (hbody _ m _ zD k r a1 _ hk hi hF1 hS2) fun e a3 w3 hq => ?_
   obtain ⟨rfl, r', hi', hS4⟩ := hq
   have hl4 : w3.heap[w.heap.size + 1]? = some (.loop { rec .ready none with state := .busy }) := (hS4.zone _ List.mem_cons_self).1 _ _ (by unfold ph1; rw [if_pos rfl])
   have hend := run_endRound (P := P) none hl4
   refine ⟨_, _, hend, rfl, r', hi', ?_⟩
   have := hS4.swap hzl (.loop (rec .ready none))
   rw [hrec] at this ⊢
   exact this
  ·rintro e W2 ⟨⟨v, rfl⟩, r, hi, hS3⟩
   have hl : W2.heap[w.heap.size + 1]? = some (.loop (rec .ready none)) := (hS3.zone _ List.mem_cons_self).1 _ _ (by unfold ph1; rw [if_pos rfl])
   refine ⟨none, _, (by have := run_endLoop (P := P) hl (by rw [hrec]; simp); rw [hrec] at this; exact this), ?_⟩
   have hnd : a.defers = [] := hF.nodef
   refine hK ⟨[{ target := .collected w.heap.size, args := #[] }]⟩ w.heap.size zD _ _ r (fun z hz => hzn _ (Nat.le_refl _) z hz) rfl hzD hi (@Fr.mk ⟨[{ target := .collected w.heap.size, args := #[] }]⟩ n L _ hF.size (by rw [hnd]; rfl) hF.get) (((hS3.swap hzl _)).keep (List.sublist_cons_self _ _) (List.Sublist.refl _))
theorem St.shutK {w0 w : World} {zs zs2 : List PH} {hs : List Res} {b : Nat} {o o' : Obj} (h : St w0 zs hs w) (hz : ph1 b o ∈ zs) (h2 : ∀ z ∈ zs2, z ∈ zs) (hn : ∀ z ∈ zs2, z b = none) : w.heap[b]? = some o ∧ St w0 zs2 hs (w.putObj b o') := by
 have h1 : St w0 (ph1 b o :: zs2) hs w := by
  refine ⟨h.ext, fun z hz' => ?_, fun r hr => ⟨(h.own r hr).1, fun k hk z hz' => ?_⟩, h.nd, h.io⟩
  ·rcases List.mem_cons.1 hz' with rfl | hz'
   ·exact h.zone _ hz
   ·exact h.zone _ (h2 z hz')
  ·rcases List.mem_cons.1 hz' with rfl | hz'
   ·exact (h.own r hr).2 k hk _ hz
   ·exact (h.own r hr).2 k hk _ (h2 z hz')
 exact ⟨(h1.zone _ List.mem_cons_self).1 b o (by unfold ph1; rw [if_pos rfl]), (h1.swap hn o').keep (List.sublist_cons_self _ _) (List.Sublist.refl _)⟩
theorem fn_retG [I : Dfs] {D : Nat} {zD : PH} {fn : Func} {w : World} {hs : List Res} {a : Act} {R : Value → List PH → List Res → Prop} {rs : List ResultVar} (zs2 : List PH) (hI : I.ds = [{ target := .collected D, args := #[] }]) (hD : zD = ph1 D (.deferred (some []))) (hz : zD ∈ zs) (h2 : ∀ z ∈ zs2, z ∈ zs) (hn : ∀ z ∈ zs2, z D = none) (hrs : fn.results = rs.toArray) (hF : Fr n L a) (hS : St w0 zs hs w) {vs : List Value} (hv : ResVs P L hs rs vs)
  (hR : ∀ W, St w0 zs2 hs W → ∃ zs' hs', St w0 zs' hs' W ∧ R (resVal vs) zs' hs') :
  bodyPostM (Fe none) 0 P fn (fun e w' => ∃ v zs hs, e = .returned v ∧ St w0 zs hs w' ∧ R v zs hs) .ret a w := by
 have hnd : a.defers = [{ target := .collected D, args := #[] }] := hF.nodef.trans hI
 subst hD
 obtain ⟨hb, hS'⟩ := hS.shutK (o' := .deferred none) hz h2 hn
 show LeavesInM (Fe none) 0 P fn a.tmps _ a.defers .returning w
 rw [hnd]
 refine ⟨by simp, .inl ⟨D, _, rfl, run_takeDeferred hb, ?_⟩⟩
 obtain ⟨zs', hs', hS2, hr⟩ := hR _ hS'
 exact ⟨_, run_results hrs hF hS' hv, _, _, _, rfl, hS2, hr⟩
theorem regJR [Dfs] {id : Nat} {Q : Exit → Act → World → Prop} {J : Act → World → Prop} {a : Act} {w : World} {l : List Oper} {hs : List Res} {ro : Option Nat} {m : Nat} (ls : Array Bool) (f : Nat) (hm : P.follows .mixedOrders = true) (hls : Array.replicate l.length false = ls) (hf : l.length = f)
  (h : ∀ w, Fr n L a → St w0 zs hs w → GoW P l.toArray J f [] ls a w) (K : ∀ a w, J a w → Q .normal a w) (hd : l.all ndB = true) : Fr n L a → St w0 zs hs w → (Code.region id l.toArray true).wpIn (Fe ro) m P Q a w := by
 intro hF hS
 subst hls hf
 have e : (QJ J .normal) = J := funext fun a => funext fun w => propext ⟨And.right, fun h => ⟨rfl, h⟩⟩
 refine wpIn_mono (region_in (Q := QJ J) hm (by simpa using hd) ?_) (fun e a w q => by obtain ⟨rfl, hj⟩ := q; exact K _ _ hj)
 rw [e]
 refine wpAny_of_wpW _ [] _ _ _ ?_
 have := h _ hF (hS.drew (w.drawn + 1)) (fun k o _ hk => ?_) trivial
 ·simpa using this
 ·exact absurd hk (by simp [Array.getD_eq_getD_getElem?, Array.getElem?_replicate]; split <;> simp)
theorem CxH.full2 {f : FuncId} {args : List Value} {zsr : List PH} {r1 r2 ra rb : Res} {hsr : List Res} {J : Res × Res → Prop} (h : CxH P f args w0 zsr [r1, r2, ra, rb] hsr (fun _ zs1 hs1 => zs1 = [] ∧ ∃ r : Res × Res, hs1 = [r1, r2, r.1, r.2] ∧ J r)) (w : World) (hS : St w0 zsr (r1 :: r2 :: ra :: rb :: hsr) w) :
  Calls P f args.toArray w fun e w' => (∃ v, e = .returned v) ∧ ∃ r : Res × Res, J r ∧ St w0 zsr (r1 :: r2 :: r.1 :: r.2 :: hsr) w' :=
 Calls.mono (h w hS) fun e w' ⟨v, zs1, hs1, he, hS', h1, r, h2, h3⟩ => by
  subst h1 h2
  exact ⟨⟨v, he⟩, r, h3, hS'⟩
end
section
variable {P : Program} {n : Nat} {w0 : World} {zs : List PH} {hs : List Res} {L : List (Nat × Value)} {d : Option Tmp} {ty t : TypeId} {pos : String} {af : Array Edge} {g : Option (Nat × Bool)} {x y y2 c : Operand} {v : Value}
theorem q_slsl_3 [Dfs] {α : Type} {E : Enc α} {z : PH} {xs : List α} {e : TypeId} {s by_ : Nat} {zv : Value} (ht : Tf P t (.slice e) s by_ zv) {de : TypeDesc} {be : Nat} {ze : Value} (hte : Tf P e de E.size be ze) {k0 k k' : IntKind} {i0 i j : Int} (hS : Sl E z v xs) (h1 : opv L x = some v) (h0 : opv L y = some (.int k0 i0)) (h2 : opv L y2 = some (.int k i)) (h3 : opv L c = some (.int k' j)) (hb : 0 ≤ i0 ∧ i0 < i ∧ i ≤ xs.length) (hj : j = i) :
  Qt P n w0 zs hs L ⟨d, .slice t x (some y) (some y2) (some c), ty, pos, af, g⟩ (fullV (slV v E.size i0.toNat i.toNat)) :=
 qt_of fun a ha w hw => by
  obtain ⟨_, ad, cc, rfl, hcc, _⟩ := hS
  subst hj
  simp only [execOp, ha.eval h1, Option.map_some, ha.eval h0, ha.eval h2, ha.eval h3]
  have e1 : (Instr.sliceBound (.int k' j) cc .slice3Acap).run P w = .ok j.toNat w := run_sliceBound (P := P) (w := w) k' j cc .slice3Acap omQ omQ
  have e2 : (Instr.sliceBound (.int k j) j.toNat .slice3B).run P w = .ok j.toNat w := run_sliceBound (P := P) (w := w) k j j.toNat .slice3B omQ omQ
  have e3 : (Instr.sliceBound (.int k0 i0) j.toNat .slice3C).run P w = .ok i0.toNat w := run_sliceBound (P := P) (w := w) k0 i0 j.toNat .slice3C omQ omQ
  have n1 : ¬ j.toNat = i0.toNat := by omega
  have n2 : ¬ cc = i0.toNat := by omega
  have n3 : ¬ j.toNat - i0.toNat = 0 := by omega
  simp [Instr.sliceAt, Instr.slice, run_underlying ht.und, Instr.sliceBounds, hte.sizeOf, e1, e2, e3, fullV, slV, n1, n2, n3]
  cases ad <;> rfl
end
end Go.Fw
end
