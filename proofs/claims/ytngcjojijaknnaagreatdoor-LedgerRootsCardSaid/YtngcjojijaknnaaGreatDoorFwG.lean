/- A text of a proof over this seat: walks over the program's functions and the plain laws that they need. -/
import Derived.Test.YtngcjojijaknnaaGreatDoorFwB
import Derived.Test.YtngcjojijaknnaaGreatDoorFwD
import Derived.Test.YtngcjojijaknnaaGreatDoorJnA
import Derived.Test.YtngcjojijaknnaaGreatDoorFwE
import Derived.Shelf.SlIter.Sorted
import Derived.Shelf.Strings.Repeat
set_option linter.all false
section
namespace Go.Fw
open Go Go.Sem Go.RowKit Go.Shelf Go.Proofs
end Go.Fw
end

section
namespace Go.Fw
section
variable {P : Program} {n : Nat} {w0 : World} {zs : List PH} {hs : List Res} {L : List (Nat × Value)} {d : Option Tmp} {ty t t' : TypeId} {pos : String} {af : Array Edge} {g : Option (Nat × Bool)}
variable {x y : Operand}
theorem part_of {dd : TypeDesc} {s b : Nat} {z : Value} (ht : Tf P t dd s b z) (ha : aggD dd = false) {xs : Array Value} {i : Nat} {v : Value} (h : xs[i]? = some v) (w : World) : (part t xs i).run P w = .ok v w := by
 unfold part
 rw [Sem.run_bind, ht.isAgg, ha]
 simp [h]
end
end Go.Fw
end

section
namespace Go.Fw
open Go.ChangeShapes Go.WideShapes Go.ChangeAt Go.RowKit
structure Stp where
 k : Int
 i : Int
 b : Int
 n : Int
 f : UInt8
 ps : List Int
def encSt : Enc Stp where
 size := 6
 rep z o c := ∃ pv, c = [vi o.k, vi o.i, vi o.b, vi o.n, vb o.f, pv] ∧ (-9223372036854775808 ≤ o.k ∧ o.k ≤ 9223372036854775807) ∧ (-9223372036854775808 ≤ o.i ∧ o.i ≤ 9223372036854775807) ∧ (-9223372036854775808 ≤ o.b ∧ o.b ≤ 9223372036854775807) ∧ (-9223372036854775808 ≤ o.n ∧ o.n ≤ 9223372036854775807) ∧ Sl encI z pv o.ps
 mono hz h := by obtain ⟨pv, h1, h2, h3, h4, h5, h6⟩ := h; exact ⟨pv, h1, h2, h3, h4, h5, h6.mono hz⟩
 len h := by obtain ⟨pv, h1, _⟩ := h; rw [h1]; rfl
 one h u hu := by
  obtain ⟨pv, h1, h2, h3, h4, h5, h6⟩ := h
  rw [h1] at hu
  simp only [List.mem_cons, List.not_mem_nil, or_false] at hu
  rcases hu with rfl | rfl | rfl | rfl | rfl | rfl
  ·rfl
  ·rfl
  ·rfl
  ·rfl
  ·rfl
  ·exact sl_one' h6
def st0 : Stp := ⟨0, 0, 0, 0, 0, []⟩
section
variable {H : Type} {enc : TypeId × Value → H} {P : Program} {W : World} {t : TypeId}
end
end Go.Fw
end

section
namespace Go.Fw
def YdX (P : Program) (Y : Value) (vs : List Value) (I : World → Prop) (J : Bool → World → Prop) : Prop :=
 ∀ w, I w → ∃ (l : Nat) (f : FuncId) (tmps : Array Value) (assign body : Code), Y = .func (.yield l) #[] #[] ∧ (Instr.yield l vs.toArray).run P w = .ok (.round l f tmps assign body) w ∧
  ∀ m, RoundIn (Fe none) m P l f tmps assign body w fun e w' => ∃ b, e = .returned (.bool b) ∧ J b w'
def CxX (P : Program) (f : FuncId) (args : List Value) (w0 : World) (zsr zst : List PH) (own hsr : List Res) (R : Bool → List Res → Prop) : Prop :=
 ∀ (w : World), St w0 zsr (own ++ hsr) w → Calls P f args.toArray w fun e w' => ∃ b v hs1, e = .returned v ∧ St w0 (if b = true then zsr else zst) (hs1 ++ hsr) w' ∧ R b hs1
section
variable {P : Program} {n : Nat} {w0 : World} {zs : List PH} {L : List (Nat × Value)}
theorem fn_enterX {f : FuncId} {fn : Func} {cd : Code} (hf : P.funcs[f]? = some fn) (hb : fn.body = some cd) {k : Nat} (hk : fn.ntmps = k) {args : List Value} (hn : args.length ≤ k) {w0 : World} {zsr zst : List PH} {own hsr : List Res} {R : Bool → List Res → Prop}
  (h : ∀ a w, Fr k (enterL 0 args) a → St w0 zsr (own ++ hsr) w → cd.wp P (bodyPost P fn fun e w' => ∃ b v hs1, e = .returned v ∧ St w0 (if b = true then zsr else zst) (hs1 ++ hsr) w' ∧ R b hs1) a w) : CxX P f args w0 zsr zst own hsr R := by
 subst hk
 intro w hS
 exact calls_of_wp hf hb (h _ w (Fr.enter _ _ hn) hS)
theorem fn_fallX [Dfs] {fn : Func} {w : World} {hs : List Res} {a : Act} {R : Bool → List Res → Prop} {zsr zst : List PH} {hsr : List Res} (b : Bool) (hrs : fn.results = #[]) (hd : Dfs.ds = []) (hF : Fr n L a) (hS : St w0 zs hs w) (hs1 : List Res) (h1 : (if b = true then zsr else zst).Sublist zs) (h2 : (hs1 ++ hsr).Sublist hs) (hR : R b hs1) :
  bodyPost P fn (fun e w' => ∃ b v hs1, e = .returned v ∧ St w0 (if b = true then zsr else zst) (hs1 ++ hsr) w' ∧ R b hs1) .normal a w :=
 ⟨hF.nodef.trans hd, _, run_results (rs := []) (vs := []) hrs hF hS trivial, b, _, _, rfl, hS.keep h1 h2, hR⟩
theorem fn_retX [Dfs] {fn : Func} {w : World} {hs : List Res} {a : Act} {R : Bool → List Res → Prop} {zsr zst : List PH} {hsr : List Res} (b : Bool) (hrs : fn.results = #[]) (hd : Dfs.ds = []) (hF : Fr n L a) (hS : St w0 zs hs w) (hs1 : List Res) (h1 : (if b = true then zsr else zst).Sublist zs) (h2 : (hs1 ++ hsr).Sublist hs) (hR : R b hs1) :
  bodyPost P fn (fun e w' => ∃ b v hs1, e = .returned v ∧ St w0 (if b = true then zsr else zst) (hs1 ++ hsr) w' ∧ R b hs1) .ret a w :=
 ⟨hF.nodef.trans hd, _, run_results (rs := []) (vs := []) hrs hF hS trivial, b, _, _, rfl, hS.keep h1 h2, hR⟩
def QX (A B : World → Prop) : Exit → Act → World → Prop := fun e _ w => (e = .normal ∧ A w) ∨ (e = .ret ∧ B w)
theorem wp_rangeX {γ ξ : Type} {g : Operand} {ps : List Tmp} {asg : Code} {body : Code} {Q : Exit → Act → World → Prop} {a : Act} {w : World} {gf : FuncId} {cs : List Value} (hsf : γ → List Res) (inv : Nat → γ → Prop) (invR : γ → Prop) (N : Nat) (it : Nat → List Value) (r0 : γ) (L1 : Nat → γ → ξ → List (Nat × Value)) (hs1 : Nat → γ → ξ → List Res)
  (hF : Fr n L a) (hS : St w0 zs (hsf r0) w) (hg : opv L g = some (.func (.func gf) #[] cs.toArray)) (hp : ps.all (fun p => Nat.blt p n) = true) (hpl : ∀ k, (it k).length = ps.length) (hf : FnOk P gf) (h0 : inv 0 r0)
  (hasg : ∀ (ro : Option Nat) (m : Nat) (zB zD : PH) (k : Nat) (r : γ) (a : Act) (w : World), k < N → inv k r → Fr n (argsL ps (it k) L) a → St w0 (zB :: zD :: zs) (hsf r) w → asg.wpIn (Fe ro) m P (QJ fun a w => ∃ x, Fr n (L1 k r x) a ∧ St w0 (zB :: zD :: zs) (hs1 k r x) w) a w)
  (hit : ∀ (Y : Value) (zs1 zst : List PH), (∀ z ∈ zs, z ∈ zs1) → (∀ z ∈ zs, z ∈ zst) → (∀ k r, k < N → inv k r → YdX P Y (it k) (St w0 zs1 (hsf r)) fun b w' => if b = true then ∃ r', inv (k + 1) r' ∧ St w0 zs1 (hsf r') w' else ∃ r', invR r' ∧ St w0 zst (hsf r') w') →
   ∀ w, St w0 zs1 (hsf r0) w → Calls P gf (Y :: cs).toArray w fun e w' => (∃ v, e = .returned v) ∧ ((∃ r, inv N r ∧ St w0 zs1 (hsf r) w') ∨ ∃ r, invR r ∧ St w0 zst (hsf r) w'))
  (hbody : ∀ (l m : Nat) (zB zD : PH) (k : Nat) (r : γ) (x : ξ) (a : Act) (w : World), k < N → inv k r → Fr n (L1 k r x) a → St w0 (zB :: zD :: zs) (hs1 k r x) w →
   body.wpIn (Fe (some l)) m P (QX (fun w' => ∃ r', inv (k + 1) r' ∧ St w0 (zB :: zD :: zs) (hsf r') w') (fun w' => ∃ r', invR r' ∧ St w0 (zB :: zD :: zs) (hsf r') w')) a w)
  (hR : ∀ (I : Dfs) (D : Nat) (zD : PH) (a : Act) (w : World) (r : γ), (∀ z ∈ zs, z D = none) → I.ds = [{ target := .collected D, args := #[] }] → zD = ph1 D (.deferred (some [])) → invR r → Fr (I := I) n L a → St w0 (zD :: zs) (hsf r) w → Q .ret a w)
  (hK : ∀ (I : Dfs) (D : Nat) (zD : PH) (a : Act) (w : World) (r : γ), (∀ z ∈ zs, z D = none) → I.ds = [{ target := .collected D, args := #[] }] → zD = ph1 D (.deferred (some [])) → inv N r → Fr (I := I) n L a → St w0 (zD :: zs) (hsf r) w → Q .normal a w) :
  (Code.rangeFunc g ps.toArray asg body).wp P Q a w := by
 refine wpIn_wide (n := 0).1 (wpIn_rangeFunc ?_)
 intro fn _
 obtain ⟨rec, hrec⟩ : ∃ rec : LoopState → Option Code → Loop, rec = fun st pe => { state := st, pending := pe, fn, tmps := a.tmps, params := ps.toArray, assign := asg, body, defers := w.heap.size } := ⟨_, rfl⟩
 have hzn : ∀ b, w.heap.size ≤ b → ∀ z ∈ zs, z b = none := fun b hb z hz => by
  cases hzb : z b with
  | none => rfl
  | some o => exact absurd (ph_some ((hS.zone z hz).1 b o hzb)) (by omega)
 have hS1 : St w0 (ph1 w.heap.size (.deferred (some [])) :: zs) (hsf r0) (w.alloc (.deferred (some []))) :=
  hS.frozen _ (by simp) (fun b hb => heap_alloc_old w _ hb) (heap_alloc_new w _) ⟨rfl, rfl, rfl⟩
 have hS2 : St w0 (ph1 (w.heap.size + 1) (.loop (rec .ready none)) :: ph1 w.heap.size (.deferred (some [])) :: zs) (hsf r0) ((w.alloc (.deferred (some []))).alloc (.loop (rec .ready none))) := by
  have := hS1.frozen (w' := (w.alloc (.deferred (some []))).alloc (.loop (rec .ready none))) (.loop (rec .ready none)) (by simp) (fun b hb => heap_alloc_old _ _ hb) (heap_alloc_new _ _) ⟨rfl, rfl, rfl⟩
  rwa [World.size_alloc] at this
 obtain ⟨zD, hzD⟩ : ∃ z, z = ph1 w.heap.size (.deferred (some [])) := ⟨_, rfl⟩
 have hzl : ∀ z ∈ zD :: zs, z (w.heap.size + 1) = none := by
  intro z hz
  rcases List.mem_cons.1 hz with rfl | hz
  ·rw [hzD]; unfold ph1; rw [if_neg (by omega)]
  ·exact hzn _ (by omega) z hz
 rw [← hzD] at hS2
 generalize hW1 : (w.alloc (.deferred (some []))).alloc (.loop (rec .ready none)) = W1 at hS2
 obtain ⟨fnr, hfn1, hfn2, hfn3⟩ := hf
 refine ⟨w.heap.size + 1, [{ target := .collected w.heap.size, args := #[] }], W1, { target := .fn (.func gf) cs.toArray, args := #[.func (.yield (w.heap.size + 1)) #[] #[]] }, W1, gf,
  (.func (.yield (w.heap.size + 1)) #[] #[] :: cs).toArray, W1, ?_, ?_, fun _ _ => trivial, ?_, fun h => (by cases h), ?_⟩
 ·rw [← hW1, hrec]; exact run_enterLoop_outer _ _ _ _ _
 ·have he := hF.eval hg
  simp only [resolve, rangeCall, he]
  simp [Deferred.ofValue, Act.eval]
 ·simp only [invoke, Sem.run_bind, Sem.run_pure, Result.andThen_ok, callFunc, run_program, hfn1, hfn2, hfn3]
  simp
 ·refine (calls_in (ro := none) (hit (.func (.yield (w.heap.size + 1)) #[] #[]) (ph1 (w.heap.size + 1) (.loop (rec .ready none)) :: zD :: zs) (ph1 (w.heap.size + 1) (.loop (rec .done (some .ret))) :: zD :: zs) (fun z hz => List.mem_cons_of_mem _ (List.mem_cons_of_mem _ hz)) (fun z hz => List.mem_cons_of_mem _ (List.mem_cons_of_mem _ hz)) ?_ W1 hS2)).mono ?_
  ·
   intro k r hk hi W hW
   have hl : W.heap[w.heap.size + 1]? = some (.loop (rec .ready none)) := (hW.zone _ List.mem_cons_self).1 _ _ (by unfold ph1; rw [if_pos rfl])
   have hy := run_yield (P := P) (args := (it k).toArray) hl (by rw [hrec]; simp [hpl k])
   rw [hrec] at hy
   refine ⟨_, fn, _, _, body, rfl, hy, fun m => roundIn_of_wpIn (l := w.heap.size + 1) trivial ?_⟩
   have hF0 : Fr n (argsL ps (it k) L) { tmps := (ps.toArray.zip (it k).toArray).foldl (fun tmps (x : Tmp × Value) => tmps.setIfInBounds x.1 x.2) a.tmps, defers := [] } := by
    have h1 := fr_args ps (it k) L { tmps := a.tmps, defers := [] } hp (hpl k).symm ⟨hF.size, rfl, hF.get⟩
    have e : (ps.toArray.zip (it k).toArray).foldl (fun tmps (x : Tmp × Value) => tmps.setIfInBounds x.1 x.2) a.tmps = (ps.zip (it k)).foldl (fun tmps (x : Tmp × Value) => tmps.setIfInBounds x.1 x.2) a.tmps := by
     simp
    rw [e]
    exact h1
   refine wpIn_mono (hasg (some (w.heap.size + 1)) _ _ _ k r _ _ hk hi hF0 hW) fun e a1 w1 hq1 => ?_
   obtain ⟨rfl, x, hF1, hS1⟩ := hq1
   have hl1 : w1.heap[w.heap.size + 1]? = some (.loop (rec .ready none)) := (hS1.zone _ List.mem_cons_self).1 _ _ (by unfold ph1; rw [if_pos rfl])
   refine ⟨_, run_beginRound hl1 (by rw [hrec]), ?_⟩
   have hS2 := hS1.swap hzl (.loop { rec .ready none with state := .busy })
   refine wpIn_mono (hbody _ m _ zD k r x a1 _ hk hi hF1 hS2) fun e a3 w3 hq => ?_
   rcases hq with ⟨rfl, r', hi', hS4⟩ | ⟨rfl, r', hi', hS4⟩
   ·have hl4 : w3.heap[w.heap.size + 1]? = some (.loop { rec .ready none with state := .busy }) := (hS4.zone _ List.mem_cons_self).1 _ _ (by unfold ph1; rw [if_pos rfl])
    have hend := run_endRound (P := P) none hl4
    refine ⟨_, _, hend, true, rfl, ?_⟩
    refine (show ∃ r'', inv (k + 1) r'' ∧ St w0 (ph1 (w.heap.size + 1) (.loop (rec .ready none)) :: zD :: zs) (hsf r'') _ from ⟨r', hi', ?_⟩)
    have := hS4.swap hzl (.loop (rec .ready none))
    rw [hrec] at this ⊢
    exact this
   ·have hl4 : w3.heap[w.heap.size + 1]? = some (.loop { rec .ready none with state := .busy }) := (hS4.zone _ List.mem_cons_self).1 _ _ (by unfold ph1; rw [if_pos rfl])
    have hend := run_endRound (P := P) (some .ret) hl4
    refine ⟨_, _, hend, false, rfl, ?_⟩
    refine (show ∃ r'', invR r'' ∧ St w0 (ph1 (w.heap.size + 1) (.loop (rec .done (some .ret))) :: zD :: zs) (hsf r'') _ from ⟨r', hi', ?_⟩)
    have := hS4.swap hzl (.loop (rec .done (some .ret)))
    rw [hrec] at this ⊢
    exact this
  ·have hnd : a.defers = [] := hF.nodef
   have hFr : @Fr ⟨[{ target := .collected w.heap.size, args := #[] }]⟩ n L { a with defers := [{ target := .collected w.heap.size, args := #[] }] ++ a.defers } := @Fr.mk ⟨[{ target := .collected w.heap.size, args := #[] }]⟩ n L _ hF.size (by rw [hnd]; rfl) hF.get
   rintro e W2 ⟨⟨v, rfl⟩, ⟨r, hi, hS3⟩ | ⟨r, hi, hS3⟩⟩
   ·have hl : W2.heap[w.heap.size + 1]? = some (.loop (rec .ready none)) := (hS3.zone _ List.mem_cons_self).1 _ _ (by unfold ph1; rw [if_pos rfl])
    refine ⟨none, _, (by have := run_endLoop (P := P) hl (by rw [hrec]; simp); rw [hrec] at this; exact this), ?_⟩
    exact hK ⟨[{ target := .collected w.heap.size, args := #[] }]⟩ w.heap.size zD _ _ r (fun z hz => hzn _ (Nat.le_refl _) z hz) rfl hzD hi hFr (((hS3.swap hzl _)).keep (List.sublist_cons_self _ _) (List.Sublist.refl _))
   ·have hl : W2.heap[w.heap.size + 1]? = some (.loop (rec .done (some .ret))) := (hS3.zone _ List.mem_cons_self).1 _ _ (by unfold ph1; rw [if_pos rfl])
    refine ⟨some .ret, _, (by have := run_endLoop (P := P) hl (by rw [hrec]; simp); rw [hrec] at this; exact this), ?_⟩
    exact wpIn_ret (hR ⟨[{ target := .collected w.heap.size, args := #[] }]⟩ w.heap.size zD _ _ r (fun z hz => hzn _ (Nat.le_refl _) z hz) rfl hzD hi hFr (((hS3.swap hzl _)).keep (List.sublist_cons_self _ _) (List.Sublist.refl _)))
theorem ycallX [Dfs] {hs : List Res} {ops : Array Oper} {Q : Exit → Act → World → Prop} {d : Tmp} {ty : TypeId} {pos : String} {af : Array Edge} {gd : Option (Nat × Bool)} {x : Operand} {ys : List Operand} {ats : Array TypeId} {rest : List Oper} {Y : Value} {vs : List Value} {J : Bool → World → Prop} {a : Act} {w : World}
  (hd : Nat.blt d n = true) (hw : Region.wanted ⟨some d, .call ⟨.value x, ys.toArray, ats⟩, ty, pos, af, gd⟩ (yielded ops a.tmps) = true) (hF : Fr n L a) (hS : St w0 zs hs w) (h1 : opv L x = some Y) (h2 : ys.map (opv L) = vs.map some) (hY : YdX P Y vs (St w0 zs hs) J)
  (K : ∀ b a w, Fr n ((d, .bool b) :: L) a → J b w → wpListIn (Fe none) 0 P ops Q rest a w) : wpListIn (Fe none) 0 P ops Q (⟨some d, .call ⟨.value x, ys.toArray, ats⟩, ty, pos, af, gd⟩ :: rest) a w := by
 obtain ⟨l, f, tmps, assign, body, rfl, hy, hr⟩ := hY w hS
 unfold wpListIn
 simp only [hw, if_true]
 refine ⟨fun _ _ => trivial, ?_⟩
 rw [show (Fe none).round = none from rfl, Oper.semAt_none]
 have hev : ∀ (ys : List Operand) (vs : List Value), ys.map (opv L) = vs.map some → ys.map a.eval = vs := by
  intro ys
  induction ys with
  | nil => intro vs h; cases vs with
   | nil => rfl
   | cons => simp at h
  | cons y ys ih => intro vs h; cases vs with
   | nil => simp at h
   | cons v vs =>
    simp only [List.map_cons, List.cons.injEq] at h
    rw [List.map_cons, hF.eval h.1, ih vs h.2]
 have he : (execOp a.eval ⟨some d, .call ⟨.value x, ys.toArray, ats⟩, ty, pos, af, gd⟩).run P w = .ok (.round l f tmps assign body) w := by
  simp only [execOp]
  simp only [resolve, hF.eval h1, Deferred.ofValue, invoke, Sem.run_bind, Sem.run_pure, Result.andThen_ok]
  rw [List.map_toArray, hev ys vs h2]
  simp [hy]
 rw [he]
 refine ⟨fun h' => (by cases h'), (hr _).mono fun e w' ⟨b, he, hj⟩ => ?_⟩
 subst he
 exact K b _ _ (hF.put (Nat.blt_eq.mp hd)) hj
end
end Go.Fw
end

section
namespace Go.Fw
open Go Go.Sem Go.RowKit Go.Maps Go.Shelf Go.Proofs
theorem bs_beq (a b : List UInt8) : ((⟨a.toArray⟩ : ByteArray) == ⟨b.toArray⟩) = decide (a = b) := by
 rw [beq_toListBytes, ByteArray.toList_eq, ByteArray.toList_eq]
 show (a == b) = _
 rw [Bool.eq_iff_iff]; simp
theorem key_S {P : Program} {kt : TypeId} {s b : Nat} {z : Value} (ht : Tf P kt .string s b z) : KeyOk P kt vs (fun _ => True) where
 chk em a w _ := by
  unfold Instr.checkKey
  rw [Sem.run_bind, run_underlying ht.und]
  simp [vs]
 find a w l es hM _ _ := by
  have key : ∀ (l : List (List UInt8 × Value)) (es : List MapEntry) (i : Nat), MpR vs l es → Instr.findNow .string (vs a) es i = some (fnd a l i) := by
   intro l
   induction l with
   | nil =>
    intro es i h
    have : es = [] := by unfold MpR at h; simpa using h
    subst this; rfl
   | cons p l ih =>
    intro es i h
    cases es with
    | nil => unfold MpR at h; simp at h
    | cons e es =>
     unfold MpR at h
     simp only [List.map_cons, List.cons.injEq, Prod.mk.injEq] at h
     obtain ⟨⟨h1, h2⟩, h3⟩ := h
     unfold Instr.findNow fnd
     rw [h1]
     have e1 : Instr.sameNow .string (vs a) (vs p.1) = some ((⟨a.toArray⟩ : ByteArray) == ⟨p.1.toArray⟩) := rfl
     rw [e1]
     by_cases h4 : a = p.1
     ·rw [if_pos h4, h4, show ((⟨p.1.toArray⟩ : ByteArray) == ⟨p.1.toArray⟩) = true by rw [bs_beq]; simp, h2]
     ·rw [if_neg h4, show ((⟨a.toArray⟩ : ByteArray) == ⟨p.1.toArray⟩) = false by rw [bs_beq]; simpa using h4]
      exact ih es (i + 1) h3
  unfold Instr.findKey
  rw [Sem.run_bind, run_underlying ht.und]
  simp only [Result.andThen_ok, key l es 0 hM]
  rfl
 bits a := by
  show ((⟨a.toArray⟩ : ByteArray) == ⟨a.toArray⟩) = true
  rw [bs_beq]; simp
theorem key_tyS {P : Program} {kt : TypeId} (h : P.underlying kt = some .string) {i : List UInt8} (hi : i.length ≤ maxLen) : Go.keyOf P kt (vs i) = some (.string i) := by
 have : (bs i).size ≤ maxLen := by show i.toArray.size ≤ maxLen; simpa using hi
 simp [Go.keyOf, h, mapKey, vs, this]
theorem sortedS_cx {P : Program} {ρk ρs : Ren} (Lk : SlLaysZ.n7 P ρk) (Ls : SlLaysZ.n6 P ρs) (hsort : AnyZ.SortsIn P ρs Fence.wide 4) (kt : TypeId) (hkt : ρk.t 26 = kt) (hst : ρs.t 26 = kt) (hi64 : P.underlying kt = some .string)
  (e9 : ∀ args w, (callFunc (ρs.f 9) args).run P w = .ok (.enter (ρs.f 9) args) w) (eg : ∀ args w, (callFunc (ρk.f 10) args).run P w = .ok (.enter (ρk.f 10) args) w)
  {l : List (List UInt8 × Value)} {es : List MapEntry} {c e b : Nat} {TM : TypeId} (hM : MpT vs l es c) (hn : (l.map (·.1)).Nodup) (hk : ∀ i ∈ l.map (·.1), i.length ≤ maxLen) (hl : l.length ≤ 4096) (w0 : World) (zsr : List PH) :
  Cx P (ρs.f 6) [.func (.func (ρk.f 10)) (List.nil : List Value).toArray [.pointer (some ⟨e, 0, none⟩)].toArray] w0 zsr [.blk e TM [.map (some b)], .mp b es c] (fun v zs1 hs1 => zs1 = [] ∧ hs1 = [.row v kt 1 ((l.map (·.1)).mergeSort (fun x y => decide (x ≤ y))).length (((l.map (·.1)).mergeSort (fun x y => decide (x ≤ y))).map vs), .blk e TM [.map (some b)], .mp b es c]) := by
 intro hsr w hS
 have h1 := (hS.own (.blk e TM [.map (some b)]) (by simp)).1
 have h2 := (hS.own (.mp b es c) (by simp)).1
 obtain ⟨hR, hB, hN⟩ := hM
 have hel : es.length = l.length := mpR_len hR
 let R : Value → Option (DataW Unit × List MemPlace) := fun _ => some (.nil, [])
 have hkey : ∀ x ∈ es, ∃ i, x.key = vs i ∧ i ∈ l.map (·.1) := fun x hx => by
  have : (x.key, x.val) ∈ es.map (fun e => (e.key, e.val)) := List.mem_map_of_mem hx
  rw [hR] at this
  obtain ⟨p, hp, he⟩ := List.mem_map.1 this
  exact ⟨p.1, by simpa using (congrArg Prod.fst he).symm, List.mem_map_of_mem hp⟩
 have hrd : ∀ x ∈ es, ∃ i, x.key = vs i ∧ i ∈ l.map (·.1) ∧ WideElems.rd P kt R x = some (.string i, .nil) := fun x hx => by
  obtain ⟨i, h3, h4⟩ := hkey x hx
  refine ⟨i, h3, h4, ?_⟩
  unfold WideElems.rd
  rw [h3, key_tyS hi64 (hk i h4)]
  rfl
 have hkeys : es.map (·.key) = l.map (fun p => vs p.1) := by
  have := congrArg (List.map Prod.fst) hR
  simpa [List.map_map, Function.comp_def] using this
 have hst1 : MapKept.Stamped es.toArray c := by
  refine ⟨by simpa using hB, by simpa using hN, ?_⟩
  rw [show (es.toArray.toList.map (·.key)) = l.map (fun p => vs p.1) by simpa using hkeys]
  have : l.map (fun p => vs p.1) = (l.map (·.1)).map vs := by rw [List.map_map]; rfl
  rw [this]
  exact List.Pairwise.map vs (fun a b hne e => hne (by simpa [vs, bs] using e)) hn
 have hfit : WideElems.Fit P kt R es.toArray c := ⟨by simp only [List.size_toArray]; unfold maxLen; omega, hst1, fun x hx => by
  obtain ⟨i, _, _, h5⟩ := hrd x (by simpa using hx)
  exact ⟨_, h5⟩⟩
 have hown : w.ownsMap P kt R b es.length (.map ((es.toArray.toList.map (WideElems.rg P kt R)).foldr DataW.insert [])) := ⟨es.toArray, c, h2.2, hfit, by simp, rfl⟩
 obtain ⟨D0, hD0⟩ : ∃ D : DataW Unit, D = .map ((es.toArray.toList.map (WideElems.rg P kt R)).foldr DataW.insert []) := ⟨_, rfl⟩
 rw [← hD0] at hown
 have hperm := WideShapes.sorted_perm (es.toArray.toList.map (WideElems.rg P kt R))
 have hik : (strKeys D0).Perm (l.map (·.1)) := by
  rw [hD0]
  show (((es.toArray.toList.map (WideElems.rg P kt R)).foldr DataW.insert []).map fun p => strOf p.1).Perm _
  refine (hperm.map _).trans ?_
  rw [List.map_map]
  have : es.toArray.toList.map ((fun p => strOf p.1) ∘ WideElems.rg P kt R) = l.map (·.1) := by
   show es.map _ = _
   have h6 : es.map ((fun p => strOf p.1) ∘ WideElems.rg P kt R) = (es.map (·.key)).map (fun v => match v with | .string s => s.data.toList | _ => []) := by
    rw [List.map_map]
    refine List.map_congr_left fun x hx => ?_
    obtain ⟨i, h7, _, h8⟩ := hrd x hx
    simp only [Function.comp, WideElems.rg_of h8, h7, vs, strOf]
   rw [h6, hkeys, List.map_map]
   rfl
  rw [this]
 have hsz : Maps.size D0 = l.length := by
  rw [hD0]
  show ((es.toArray.toList.map (WideElems.rg P kt R)).foldr DataW.insert []).length = _
  rw [hperm.length_eq, List.length_map]
  exact hel
 have hel2 : e < w.heap.size := (Array.getElem?_eq_some_iff.1 h1.2).1
 have hcell : w.cell? ⟨e, 0, none⟩ = some (.map (some b)) := by
  rw [cell_of_row w e 0 [Value.map (some b)].toArray TM (0, 0) h1.2]; rfl
 have hseq : SeqGives Fence.wide 2 P (ρk.f 10) #[.pointer (some ⟨e, 0, none⟩)] encStr (fun ss => ss.Perm (strKeys D0)) (Maps.size D0) w :=
  AnyZ.keys_gives (ρ := ρk) { Lk with } Fence.wide 2 trivial rfl (by omega) e b es.length D0 w hel2 hcell (by rw [hkt]; exact hown)
 have cS := AnyZ.sorted_in Ls Fence.wide 5 trivial trivial trivial trivial rfl (by omega) hsort e9 (ρk.f 10) #[.pointer (some ⟨e, 0, none⟩)] trivial eg _ _ (by rw [hsz]; unfold maxLen; omega) (by rw [hsz]; omega) w hseq
 refine Calls.mono (callsIn_wide.1 cS) fun e' w' ⟨v, ss, he, hp, hrow, _, hb⟩ => ?_
 have hss : ss.mergeSort (fun x y => decide (x ≤ y)) = (l.map (·.1)).mergeSort (fun x y => decide (x ≤ y)) := mergeSort_of_perm (hp.trans hik)
 have hlen : ss.length = ((l.map (·.1)).mergeSort (fun x y => decide (x ≤ y))).length := by rw [← hss, List.length_mergeSort]
 rw [hss, hlen, hst] at hrow
 exact ⟨v, [], _, he, hS.call (st_row hb hrow), rfl, rfl⟩
end Go.Fw
end
