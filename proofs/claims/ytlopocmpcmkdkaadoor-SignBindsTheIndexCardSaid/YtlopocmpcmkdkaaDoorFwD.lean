/- A text of a proof over this seat: walks over the program's functions and the plain laws that they need. -/
import Derived.Test.YtlopocmpcmkdkaaDoorFwC
import Derived.RangeFuncLeaves
import Derived.RangeFuncRecord
import Derived.OrdersIn
import Derived.TacticsIn
import Derived.Test.YtlopocmpcmkdkaaDoorFwB
import Derived.Lib.UnsafeStr
import Derived.Lib.Builder
import Derived.Laws.Externs
import Derived.LaidEql
set_option linter.all false
section
namespace Go.Fw

/-! ### a range over a function: regions within a round -/
/-- The wide fence, in a round or not. -/
@[reducible] def Fe (ro : Option Nat) : Fence := { Fence.wide with round := ro }
def ndB (o : Oper) : Bool := match o.op with | .defer _ => false | _ => true
section
variable {P : Program} {ops : Array Oper} {ro : Option Nat} {m : Nat}

end

section
variable {P : Program} {n : Nat} {w0 : World} {zs : List PH} {hs : List Res} {L L' : List (Nat × Value)} {l : List Oper} {k : Nat} {ro : Option Nat} {m : Nat}
end
end Go.Fw
end

section
namespace Go.Fw

/-! ### a range over a function: the statement -/
theorem putObj_io (w : World) (b : Nat) (o : Obj) : Io w (w.putObj b o) := ⟨rfl, rfl, rfl⟩
theorem St.swap {w0 w : World} {zs : List PH} {hs : List Res} {b : Nat} {o : Obj} (h : St w0 (ph1 b o :: zs) hs w) (hz : ∀ z ∈ zs, z b = none) (o' : Obj) : St w0 (ph1 b o' :: zs) hs (w.putObj b o') := by
  have hz0 := h.zone _ List.mem_cons_self
  have hb : w.heap[b]? = some o := hz0.1 b o (by unfold ph1; rw [if_pos rfl])
  have hge : w0.heap.size ≤ b := hz0.2 b o (by unfold ph1; rw [if_pos rfl])
  have hlt : b < w.heap.size := (Array.getElem?_eq_some_iff.1 hb).1
  have hown : ∀ r ∈ hs, r.id ≠ some b := fun r hr e => by
    have := (h.own r hr).2 b e _ List.mem_cons_self
    unfold ph1 at this
    rw [if_pos rfl] at this
    cases this
  refine ⟨fun k ob hk => ?_, fun z hz' => ?_, fun r hr => ⟨Res.ok_of (h.own r hr).1 fun k hk => World.putObj_heap_other (fun e => hown r hr (by rw [hk, e])), fun k hk z hz' => ?_⟩, h.nd, h.io.trans (putObj_io _ _ _)⟩
  · have h1 := h.ext k ob hk
    have hkb : k ≠ b := by have := ph_some hk; omega
    simp only [ph] at h1 ⊢
    rw [World.putObj_heap_other hkb]; exact h1
  · rcases List.mem_cons.1 hz' with rfl | hz2
    · refine ⟨fun k ob hk => ?_, fun k ob hk => ?_⟩
      · obtain ⟨rfl, rfl⟩ := ph1_some hk; exact World.putObj_heap_same hlt
      · obtain ⟨rfl, rfl⟩ := ph1_some hk; exact hge
    · refine ⟨fun k ob hk => ?_, (h.zone z (List.mem_cons_of_mem _ hz2)).2⟩
      have h1 := (h.zone z (List.mem_cons_of_mem _ hz2)).1 k ob hk
      have hkb : k ≠ b := by
        intro e
        rw [e, hz z hz2] at hk
        cases hk
      simp only [ph] at h1 ⊢
      rw [World.putObj_heap_other hkb]; exact h1
  · rcases List.mem_cons.1 hz' with rfl | hz2
    · have := hown r hr
      unfold ph1
      rw [if_neg (fun e => this (by rw [hk, e]))]
    · exact (h.own r hr).2 k hk z (List.mem_cons_of_mem _ hz2)
/-- What a call of yield asks and gives. -/
def Yd (P : Program) (Y v : Value) (I J : World → Prop) : Prop :=
  ∀ w, I w → ∃ (l : Nat) (f : FuncId) (tmps : Array Value) (assign body : Code), Y = .func (.yield l) #[] #[] ∧ (Instr.yield l #[v]).run P w = .ok (.round l f tmps assign body) w ∧
    ∀ m, RoundIn (Fe none) m P l f tmps assign body w fun e w' => e = .returned (.bool true) ∧ J w'

section
variable {P : Program} {n : Nat} {w0 : World} {zs : List PH} {L : List (Nat × Value)}

/-! ### the function that holds it -/
/-! ### the iterator's side: a call of yield -/
/-! ### an iterator: the rest of what is owned is told -/
def CxH (P : Program) (f : FuncId) (args : List Value) (w0 : World) (zsr : List PH) (own hsr : List Res) (R : Value → List PH → List Res → Prop) : Prop :=
  ∀ (w : World), St w0 zsr (own ++ hsr) w → Calls P f args.toArray w fun e w' => ∃ v zs1 hs1, e = .returned v ∧ St w0 (zs1 ++ zsr) (hs1 ++ hsr) w' ∧ R v zs1 hs1
theorem fn_fallx {fn : Func} {w : World} {hs : List Res} {a : Act} {R : Value → List PH → List Res → Prop} {zsr : List PH} {hsr : List Res} (hrs : fn.results = #[]) (hF : Fr n L a) (hS : St w0 zs hs w) (zs1 : List PH) (hs1 : List Res) (h1 : (zs1 ++ zsr).Sublist zs) (h2 : (hs1 ++ hsr).Sublist hs) (hR : R (.tuple #[]) zs1 hs1) :
    bodyPost P fn (fun e w' => ∃ v zs1 hs1, e = .returned v ∧ St w0 (zs1 ++ zsr) (hs1 ++ hsr) w' ∧ R v zs1 hs1) .normal a w :=
  ⟨hF.nodef, _, run_results (rs := []) (vs := []) hrs hF hS trivial, _, _, _, rfl, hS.keep h1 h2, hR⟩
end
end Go.Fw
namespace Go.Fw
section
variable {P : Program} {n : Nat} {w0 : World} {zs : List PH} {L : List (Nat × Value)} {m : Nat}
end
end Go.Fw
end

section
/-! maps: how many there are, and one taken out -/
namespace Go.Fw
open Go Go.Sem
def adel {α : Type} [DecidableEq α] (a : α) (l : List (α × Value)) : List (α × Value) := match fnd a l 0 with
  | some (i, _) => l.eraseIdx i
  | none => l
section
variable {P : Program} {n : Nat} {w0 : World} {zs : List PH} {hs : List Res} {L : List (Nat × Value)} {d : Option Tmp} {ty t t2 : TypeId} {pos : String} {af : Array Edge} {g : Option (Nat × Bool)} {x y o3 : Operand} {u v : Value}
variable {α : Type} [DecidableEq α] {kf : α → Value} {V : α → Prop} {kt e : TypeId}
theorem q_lookupk2 [Dfs] {s by_ : Nat} {zv : Value} (ht : Tf P t (.map kt e) s by_ zv) {de : TypeDesc} {se be : Nat} {ze : Value} (hte : Tf P e de se be ze) (hK : KeyOk P kt kf V) (k : Nat) {l : List (α × Value)} {es : List MapEntry} {c b : Nat} (h1 : opv L x = some (.map (some b))) {a : α} (h2 : opv L y = some (kf a)) (hk : hs[k]? = some (.mp b es c)) (hM : MpR kf l es) (hV : ∀ p ∈ l, V p.1) (ha : V a) {ok : Bool} (hu : (aget l a).getD ze = u) (ho : (aget l a).isSome = ok) :
    Qt P n w0 zs hs L ⟨d, .lookup t x y true, ty, pos, af, g⟩ (.tuple [u, .bool ok].toArray) := by
  have := q_lookupk (P := P) (n := n) (w0 := w0) (zs := zs) (d := d) (ty := ty) (pos := pos) (af := af) (g := g) ht hte hK k h1 h2 hk hM hV ha
  rwa [hu, ho] at this
end
end Go.Fw
end

section
namespace Go.Fw
open Go Go.Sem
section
variable {P : Program} {n : Nat} {w0 : World} {zs : List PH} {hs : List Res} {L : List (Nat × Value)} {d : Option Tmp} {ty t : TypeId} {pos : String} {af : Array Edge} {g : Option (Nat × Bool)} {x y : Operand} {v : Value}
theorem q_s2ap_sl [Dfs] {z : PH} {xs : List UInt8} {e arr : TypeId} {m s by_ : Nat} {zv : Value} (ht : Tf P arr (.array m e) s by_ zv) (hS : Sl encB z v xs) (h1 : opv L x = some v) (hm : m ≤ xs.length) (h0 : 0 < m) :
    Qt P n w0 zs hs L ⟨d, .sliceToArrayPointer arr x, ty, pos, af, g⟩ (elemPtr v 0) :=
  qt_of fun a ha w hw => by
    obtain ⟨_, aa, cc, rfl, hcc, h⟩ := hS
    obtain ⟨b, off, cs, ty', fz, cx, rfl, _⟩ := h 0 (xs[0]'(by omega)) (by simp)
    have hlt : ¬ xs.length < m := by omega
    simp only [execOp, ha.eval h1]
    simp [Instr.arrayAt, run_underlying ht.und, hlt, elemPtr, add_at]
theorem q_ld_B16 [Dfs] {z : PH} {xs : List UInt8} {dd : TypeDesc} {m by_ : Nat} {zv : Value} (ht : Tf P t dd m by_ zv) (hS : Sl encB z v xs) (hz : ZIn w0 zs z) (h1 : opv L x = some (elemPtr v 0)) (hd : aggD dd = true) (hm : xs.length = m) (h0 : 0 < m) :
    Qt P n w0 zs hs L ⟨d, .load t x, ty, pos, af, g⟩ (.agg (xs.map vb).toArray) :=
  qt_of fun a ha w hw => by
    obtain ⟨_, aa, cc, rfl, hcc, h⟩ := hS
    obtain ⟨b, off, cs, ty', fz, cx, rfl, hzb, _⟩ := h 0 (xs[0]'(by omega)) (by simp)
    have hb := hw.le hz _ _ hzb
    have hc : ∀ i, i < xs.length → cs[off + i]? = some (vb (xs.getD i 0)) := by
      intro i hi
      obtain ⟨b2, off2, cs2, ty2, fz2, cx2, e1, e2, e3, e4⟩ := h i xs[i] (by simp [hi])
      simp only [Option.some.injEq, Addr.mk.injEq, and_true] at e1
      obtain ⟨rfl, rfl⟩ := e1
      rw [hzb] at e2
      simp only [Option.some.injEq, Obj.cells.injEq] at e2
      obtain ⟨rfl, rfl, rfl⟩ := e2
      have := e4 0 (vb xs[i]) (by rw [e3.1]; rfl)
      have e5 : xs.getD i 0 = xs[i] := by simp [hi]
      rw [e5]
      simpa [encB, encV] using this
    have hfit : off + m ≤ cs.size := by
      have := hc (m - 1) (by omega)
      have := (Array.getElem?_eq_some_iff.1 this).1
      omega
    have hr := run_loadA ht hd hb hfit
    have he : (cs.toList.drop off).take m = xs.map vb := by
      apply List.ext_getElem?
      intro i
      rw [List.getElem?_take, List.getElem?_drop, List.getElem?_map]
      split
      · rename_i hi
        have := hc i (by omega)
        have e5 : xs.getD i 0 = xs[i] := by simp [show i < xs.length by omega]
        rw [e5] at this
        rw [List.getElem?_eq_getElem (show i < xs.length by omega)]
        simpa using this
      · rw [List.getElem?_eq_none (by omega)]; rfl
    rw [he] at hr
    have hev : a.eval x = .pointer (some ⟨b, off, none⟩) := (ha.eval h1).trans (by simp [elemPtr, add_at])
    simp only [execOp, hev]
    simp [Instr.loadAt, Instr.sureAddr, hr]
end
end Go.Fw
end

section
namespace Go.Fw
/-- An own array that nobody will write any more, as a slice. -/
theorem St.freezeBlk {α : Type} {f : α → Value} {p : α → Prop} {h0 : ∀ x, (f x).oneCell' = true} {w0 : World} {zs : List PH} {hs : List Res} {w : World} {ty : TypeId} {b : Nat} {xs : List α} (h : St w0 zs (.blk b ty (xs.map f) :: hs) w) {m : Nat} (hm : m = xs.length) (hb : m ≤ 140737488355328) (hp : ∀ x ∈ xs, p x) : ∃ z, Sl (encV f p h0) z (.slice (some ⟨b, 0, none⟩) m m) xs ∧ St w0 (z :: zs) hs w := by
  subst hm
  have hown := h.own _ List.mem_cons_self
  obtain ⟨hbase, hheap⟩ := hown.1
  let z : PH := fun k => if k = b then w.heap[k]? else none
  have hzw : z.le (ph w) := by
    intro k o hk
    replace hk : (if k = b then w.heap[k]? else none) = some o := hk
    split at hk
    · exact hk
    · cases hk
  refine ⟨z, ⟨hb, _, _, rfl, Nat.le_refl _, fun i x hx => ?_⟩, h.ext, ?_, ?_, ?_, h.io⟩
  · refine ⟨b, 0, (xs.map f).toArray, ty, (0, 0), [f x], rfl, ?_, ⟨rfl, hp x (List.mem_of_getElem? hx)⟩, fun j u hu => ?_⟩
    · show (if b = b then w.heap[b]? else none) = _
      rw [if_pos rfl]; exact hheap
    · cases j with
      | zero =>
        simp only [List.getElem?_cons_zero, Option.some.injEq] at hu
        subst hu
        show (xs.map f).toArray[0 + i * 1 + 0]? = _
        simp [hx]
      | succ j => simp at hu
  · intro z' hz'
    rcases List.mem_cons.1 hz' with rfl | hz'
    · refine ⟨hzw, fun k o hk => ?_⟩
      replace hk : (if k = b then w.heap[k]? else none) = some o := hk
      split at hk
      · rename_i e; subst e; exact hbase
      · cases hk
    · exact h.zone z' hz'
  · intro r hr
    refine ⟨(h.own r (List.mem_cons_of_mem _ hr)).1, fun k hk z' hz' => ?_⟩
    rcases List.mem_cons.1 hz' with rfl | hz'
    · have hnd := h.nd
      have hne : k ≠ b := by
        intro e
        subst e
        simp only [List.filterMap_cons, Res.id, List.nodup_cons] at hnd
        exact hnd.1 (List.mem_filterMap.2 ⟨r, hr, hk⟩)
      show (if k = b then w.heap[k]? else none) = none
      rw [if_neg hne]
    · exact (h.own r (List.mem_cons_of_mem _ hr)).2 k hk z' hz'
  · have hnd := h.nd
    simp only [List.filterMap_cons, Res.id, List.nodup_cons] at hnd
    exact hnd.2
end Go.Fw
end

section
/-! strings.Builder: a string over own bytes -/
namespace Go.Fw
open Go Go.Sem
theorem freeze_ne (w : World) (a : Addr) (n : Nat) {b : Nat} (h : b ≠ a.block) : (w.freeze a n).heap[b]? = w.heap[b]? := by
  unfold World.freeze
  split
  · rfl
  · simp only [Array.getElem?_modify]
    rw [if_neg (fun e => h e.symm)]
theorem freeze_io {w0 w : World} (h : Io w0 w) (a : Addr) (n : Nat) : Io w0 (w.freeze a n) := by
  unfold World.freeze
  split
  · exact h
  · exact ⟨h.os, h.tape, h.output⟩
/-- A row is given away: its block has turned, nothing else has. -/
theorem St.giveRow {w0 : World} {zs : List PH} {hs : List Res} {w w' : World} {k : Nat} {e : TypeId} {size m g : Nat} {c : Nat} {cs : List Value} (h : St w0 zs hs w) (hk : hs[k]? = some (.row (.slice (some ⟨g, 0, none⟩) m c) e size m cs)) (hne : ∀ b, b ≠ g → w'.heap[b]? = w.heap[b]?) (hio : Io w0 w') : St w0 zs (hs.set k (.row (.slice none 0 0) e size 0 [])) w' := by
  have hown := h.own _ (List.mem_of_getElem? hk)
  have hg0 := Res.ok_ge hown.1 g rfl
  have hkl := (List.getElem?_eq_some_iff.1 hk).1
  have hle : ∀ z : PH, z g = none → z.le (ph w) → z.le (ph w') := fun z hz hl b o hb => by
    by_cases hbg : b = g
    · subst hbg; rw [hz] at hb; cases hb
    · show w'.heap[b]? = some o
      rw [hne b hbg]; exact hl b o hb
  have hset : hs.set k (.row (.slice none 0 0) e size 0 []) = hs.take k ++ .row (.slice none 0 0) e size 0 [] :: hs.drop (k + 1) := by rw [List.set_eq_take_append_cons_drop, if_pos hkl]
  have horig : hs = hs.take k ++ .row (.slice (some ⟨g, 0, none⟩) m c) e size m cs :: hs.drop (k + 1) := by
    have e1 : hs[k] = .row (.slice (some ⟨g, 0, none⟩) m c) e size m cs := (List.getElem?_eq_some_iff.1 hk).2
    rw [← e1, ← List.drop_eq_getElem_cons hkl, List.take_append_drop]
  have hnd := h.nd
  rw [horig, List.filterMap_append, List.filterMap_cons] at hnd
  have hid : (Res.row (.slice (some ⟨g, 0, none⟩) m c) e size m cs).id = some g := rfl
  rw [hid] at hnd
  have hnid : (Res.row (.slice none 0 0) e size 0 []).id = none := rfl
  refine ⟨?_, fun z hz => ⟨hle z (hown.2 g rfl z hz) (h.zone z hz).1, (h.zone z hz).2⟩, fun r hr => ?_, ?_, hio⟩
  · refine fun b o hb => ?_
    have hbl : b < w0.heap.size := ph_some hb
    show w'.heap[b]? = some o
    rw [hne b (by omega)]
    exact h.ext b o hb
  · rw [hset] at hr
    rcases List.mem_append.1 hr with hr | hr
    · have hm : r ∈ hs := List.mem_of_mem_take hr
      refine ⟨Res.ok_of (h.own r hm).1 fun b hb => hne b fun e => ?_, (h.own r hm).2⟩
      subst e
      exact (List.nodup_append.1 hnd).2.2 b (List.mem_filterMap.2 ⟨r, hr, hb⟩) b List.mem_cons_self rfl
    · rcases List.mem_cons.1 hr with rfl | hr
      · exact ⟨World.ownsRow_nil w' _ e size, fun b hb => by cases hb⟩
      · have hm : r ∈ hs := List.mem_of_mem_drop hr
        refine ⟨Res.ok_of (h.own r hm).1 fun b hb => hne b fun e => ?_, (h.own r hm).2⟩
        subst e
        exact (List.nodup_cons.1 (List.nodup_append.1 hnd).2.1).1 (List.mem_filterMap.2 ⟨r, hr, hb⟩)
  · rw [hset, List.filterMap_append, List.filterMap_cons, hnid]
    have h1 := List.nodup_append.1 hnd
    refine List.nodup_append.2 ⟨h1.1, (List.nodup_cons.1 h1.2.1).2, fun x hx y hy => h1.2.2 x hx y (List.mem_cons_of_mem _ hy)⟩
section
variable {P : Program} {n : Nat} {w0 : World} {zs : List PH} {hs : List Res} {L : List (Nat × Value)} {d : Option Tmp} {ty t : TypeId} {pos : String} {af : Array Edge} {g : Option (Nat × Bool)} {x y : Operand} {v : Value}
theorem q_usd [Dfs] {e : TypeId} {size m : Nat} {cs : List Value} {ats : Array TypeId} (k : Nat) (hk : hs[k]? = some (.row v e size m cs)) (h1 : opv L x = some v) (hm : 0 < m) :
    Qt P n w0 zs hs L ⟨d, .call ⟨.builtin .unsafeSliceData, #[x], ats⟩, ty, pos, af, g⟩ (elemPtr v 0) :=
  qt_builtin fun a ha w hw => by
    have hown := (hw.own _ (List.mem_of_getElem? hk)).1
    rcases hown.2 with ⟨rfl, rfl⟩ | ⟨b, cap, cur, rfl, hgb, hg, hnc, hcm, hcs, htake⟩
    · omega
    · have hr := Lib.run_unsafeSliceData_row (P := P) (w := w) ats ty ⟨b, 0, none⟩ m cap (by omega)
      have he : (#[x].map a.eval) = #[.slice (some ⟨b, 0, none⟩) m cap] := by simp [ha.eval h1]
      rw [he]
      simp only [builtin, Sem.run_bind, hr, Result.andThen_ok, Sem.run_pure]
      simp [elemPtr, add_at]
theorem ef_ustr [Dfs] {e pt it : TypeId} {xs : List UInt8} {s1 b1 : Nat} {z1 : Value} (htp : Tf P pt (.pointer e) s1 b1 z1) (hc : P.cellsOf e = 1) (k : Nat) (hk : hs[k]? = some (.row v e 1 xs.length (xs.map vb))) (h1 : opv L x = some (elemPtr v 0)) (h2 : opv L y = some (vi (xs.length : Int))) (h0 : 0 < xs.length) (hb : xs.length ≤ 140737488355328) :
    Ef P n w0 zs hs L ⟨d, .call ⟨.builtin .unsafeString, #[x, y], #[pt, it]⟩, ty, pos, af, g⟩ (fun r zs' hs' => r = vs xs ∧ zs' = zs ∧ hs' = hs.set k (.row (.slice none 0 0) e 1 0 [])) :=
  ef_of fun a ha w hw => by
    have hown := (hw.own _ (List.mem_of_getElem? hk)).1
    rcases hown.2 with ⟨rfl, hn⟩ | ⟨b, cap, cur, rfl, hgb, hg, hnc, hcm, hcs, htake⟩
    · omega
    · have hsh : w.shape? b = some (e, cur.size) := by simp [World.shape?, hg]
      have hlen : (cur.toList.take (xs.length * 1)).length = xs.length := by rw [htake, List.length_map]
      have hcur : xs.length ≤ cur.size := by
        rw [List.length_take] at hlen
        simp at hlen
        omega
      have hcell : ∀ j x, xs[j]? = some x → w.cell? ((⟨b, 0, none⟩ : Addr).add j) = some (.int .u8 x.toNat) := fun j x hx => by
        have hj := (List.getElem?_eq_some_iff.1 hx).1
        have h3 : (cur.toList.take (xs.length * 1))[j]? = some (vb x) := by rw [htake, List.getElem?_map, hx]; rfl
        rw [List.getElem?_take] at h3
        rw [add_at, cell_of_row w b _ _ e _ hg]
        split at h3
        · simpa using h3
        · cases h3
      have hr := Lib.run_unsafeString_row (P := P) w pt it ty e htp.und hc b cur.size hsh xs (by intro e0; rw [e0] at h0; cases h0) hcur (by omega) hcell
      refine ⟨vs xs, zs, _, w.freeze ⟨b, 0, none⟩ xs.length, .inl ?_, ⟨rfl, rfl, rfl⟩, hw.giveRow hk (fun b' hb' => freeze_ne _ _ _ hb') (freeze_io hw.io _ _)⟩
      have he : (#[x, y].map a.eval) = #[.pointer (some ⟨b, 0, none⟩), .int .i64 (xs.length : Int)] := by
        simp [ha.eval h1, ha.eval h2, elemPtr, add_at]
      simp only [execOp]
      simp only [resolve, invoke, Sem.run_bind, Sem.run_pure, Result.andThen_ok]
      rw [he]
      simp only [builtin, Sem.run_bind, hr, Result.andThen_ok, Sem.run_pure]
end
end Go.Fw
end

section
/-! pointers compared, turned into unsafe ones and back; a call of an outside function that hands back what it is given -/
namespace Go.Fw
open Go Go.Sem
section
variable {P : Program} {n : Nat} {w0 : World} {zs : List PH} {hs : List Res} {L : List (Nat × Value)} {d : Option Tmp} {ty t t' : TypeId} {pos : String} {af : Array Edge} {g : Option (Nat × Bool)} {x y : Operand} {v : Value}
theorem eqg_ptr {op : BinOp} {p q : Option Addr} (w : World) : (eqGuard op t x y (.pointer p) (.pointer q)).run P w = .ok () w := by
  cases op <;> simp [eqGuard]
theorem equalIn_pn (dd : Nat) {e : TypeId} (hu : P.underlying t = some (.pointer e)) (p : Option Addr) (w : World) : (Op.equalIn (dd + 1) t (.pointer p) (.pointer none)).run P w = .ok p.isNone w := by
  cases p <;> simp [Op.equalIn, run_underlying hu]
theorem equalIn_pp (dd : Nat) {e : TypeId} (hu : P.underlying t = some (.pointer e)) {de : TypeDesc} {se be : Nat} {ze : Value} (hte : Tf P e de se be ze) (h0 : se ≠ 0) (a : Addr) (w : World) : (Op.equalIn (dd + 1) t (.pointer (some a)) (.pointer (some a))).run P w = .ok true w := by
  simp [Op.equalIn, run_underlying hu, hte.sizeOf, h0, run_sameAddr_same]
theorem q_eqpn [Dfs] {e : TypeId} {s b : Nat} {zv : Value} (ht : Tf P t (.pointer e) s b zv) {p : Option Addr} (h1 : opv L x = some (.pointer p)) (h2 : opv L y = some (.pointer none)) :
    Qt P n w0 zs hs L ⟨d, .binOp .eql t x y t', ty, pos, af, g⟩ (.bool p.isNone) :=
  q_bin h1 h2 eqg_ptr fun w => by
    simp only [binOp]
    simp [Op.equal, Op.maxDepth, equalIn_pn 9999 ht.und p w]
theorem q_nepp [Dfs] {e : TypeId} {s b : Nat} {zv : Value} (ht : Tf P t (.pointer e) s b zv) {de : TypeDesc} {se be : Nat} {ze : Value} (hte : Tf P e de se be ze) (h0 : se ≠ 0) {a : Addr} (h1 : opv L x = some (.pointer (some a))) (h2 : opv L y = some (.pointer (some a))) :
    Qt P n w0 zs hs L ⟨d, .binOp .neq t x y t', ty, pos, af, g⟩ (.bool false) :=
  q_bin h1 h2 eqg_ptr fun w => by
    simp only [binOp]
    simp [Op.equal, Op.maxDepth, equalIn_pp 9999 ht.und hte h0 a w]
theorem q_toun [Dfs] {e : TypeId} {s b : Nat} {zv : Value} (ht : Tf P t (.pointer e) s b zv) {s' b' : Nat} {zv' : Value} (ht' : Tf P t' .unsafePointer s' b' zv') {de : TypeDesc} {se be : Nat} {ze : Value} (hte : Tf P e de se be ze) (h0 : se ≠ 0) (k : Nat) {bb : Nat} {bt : TypeId} {cs : List Value} (hk : hs[k]? = some (.blk bb bt cs)) (hcs : 0 < cs.length) (h1 : opv L x = some (.pointer (some ⟨bb, 0, none⟩))) :
    Qt P n w0 zs hs L ⟨d, .convert t t' x, ty, pos, af, g⟩ (.pointer (some ⟨bb, 0, none⟩)) :=
  qt_of fun a ha w hw => by
    have hown := (hw.own _ (List.mem_of_getElem? hk)).1
    have hsh : w.shape? bb = some (bt, cs.length) := by simp [World.shape?, hown.2]
    obtain ⟨i, hj, hi1, _⟩ := hte.info
    have hr := Lib.run_to_unsafe (P := P) (w := w) (src := t) (dst := t') ⟨bb, 0, none⟩ ht.und ht'.und hj (by rw [hi1]; exact h0) hsh hcs
    simp only [execOp, ha.eval h1]
    simp [hr]
theorem q_fromun [Dfs] {e : TypeId} {s b : Nat} {zv : Value} (ht : Tf P t .unsafePointer s b zv) {s' b' : Nat} {zv' : Value} (ht' : Tf P t' (.pointer e) s' b' zv') {de : TypeDesc} {se be : Nat} {ze : Value} (hte : Tf P e de se be ze) (k : Nat) {bb : Nat} {bt : TypeId} {cs : List Value} (hk : hs[k]? = some (.blk bb bt cs)) (hlies : liesAt P P.depth bt (cs.length / P.cellsOf bt) 0 e 1 = true) (h1 : opv L x = some (.pointer (some ⟨bb, 0, none⟩))) :
    Qt P n w0 zs hs L ⟨d, .convert t t' x, ty, pos, af, g⟩ (.pointer (some ⟨bb, 0, none⟩)) :=
  qt_of fun a ha w hw => by
    have hown := (hw.own _ (List.mem_of_getElem? hk)).1
    have hsh : w.shape? bb = some (bt, cs.length) := by simp [World.shape?, hown.2]
    obtain ⟨i, hj, hi1, _⟩ := hte.info
    have hr := Lib.run_from_unsafe (P := P) (w := w) (src := t) (dst := t') ⟨bb, 0, none⟩ ht.und ht'.und hj hsh hlies
    simp only [execOp, ha.eval h1]
    simp [hr]
/-- A call of an outside function that hands back what it is given. -/
theorem q_noesc [Dfs] {f : FuncId} {fn : Func} (hf : P.funcs[f]? = some fn) (hname : (fn.name == "runtime.NumGoroutine") = false) (hb : fn.body.isNone = true) (hn : Extern.findNext fn = none) (he : Extern.find fn = some Extern.AbiNoEscape.same) {ats : Array TypeId} (h1 : opv L x = some v) :
    Qt P n w0 zs hs L ⟨d, .call ⟨.value (.func f), #[x], ats⟩, ty, pos, af, g⟩ v :=
  qt_of fun a ha w hw => by
    have hr := run_callFunc_extern hf hname hb hn he #[v] w
    have hrn := Lib.run_noEscape (P := P) (w := w) v
    rw [hrn] at hr
    simp only [execOp]
    simp only [resolve, Act.eval, Deferred.ofValue, invoke, Sem.run_bind, Sem.run_pure, Result.andThen_ok]
    have hev : (#[x].map a.eval) = #[v] := by simp [ha.eval h1]
    rw [hev]
    exact hr
/-- What is lent lies in front. -/
theorem ef_callxN [Dfs] (m : Nat) {f : FuncId} (hf : FnOk P f) {os : List Operand} {vs : List Value} {ats : Array TypeId} {R : Value → List PH → List Res → Prop} (h1 : opvs L os = some vs) (hc : Cx P f vs w0 zs (hs.take m) R) :
    Ef P n w0 zs hs L ⟨d, .call ⟨.value (.func f), os.toArray, ats⟩, ty, pos, af, g⟩ (fun v zs' hs' => ∃ z1 h1, zs' = z1 ++ zs ∧ hs' = h1 ++ hs.drop m ∧ R v z1 h1) :=
  ef_callx hf h1 (rest := hs.drop m) (by rw [List.take_append_drop]) hc
end
end Go.Fw
end

section
/-! keys that are arrays of numbers; function values that give digests -/
namespace Go.Fw
open Go Go.Sem
def aiv (l : List Int) : Value := .agg (l.map vi).toArray
section
variable {P : Program}
theorem run_chk_i64 {e : TypeId} {be : Nat} {ze : Value} (hte : Tf P e (.int .i64) 1 be ze) (em : Bool) (k : Nat) (b : Int) (w : World) : (Instr.checkKey em (k + 1) e (vi b)).run P w = .ok () w := by
  unfold Instr.checkKey
  rw [Sem.run_bind, run_underlying hte.und]
  simp [vi]
theorem run_items_i {e : TypeId} {be : Nat} {ze : Value} (hte : Tf P e (.int .i64) 1 be ze) (k : Nat) (xs ys : List Int) (w : World) : ∀ (is : List Nat), (∀ i ∈ is, i < xs.length ∧ i < ys.length) →
    (Op.eqItems (k + 1) e 1 (xs.map vi).toArray (ys.map vi).toArray is).run P w = .ok (decide (∀ i ∈ is, xs.getD i 0 = ys.getD i 0)) w
  | [], _ => by simp [Op.eqItems]
  | i :: is, h => by
    have hi := h i (by simp)
    have ih := run_items_i hte k xs ys w is fun j hj => h j (by simp [hj])
    have pt : ∀ (l : List Int), i < l.length → (part e (l.map vi).toArray (i * 1)).run P w = .ok (vi (l.getD i 0)) w := by
      intro l hl
      unfold part
      rw [Sem.run_bind, hte.isAgg]
      simp [aggD, hl]
    have he : (Op.equalIn (k + 1) e (vi (xs.getD i 0)) (vi (ys.getD i 0))).run P w = .ok (decide (xs.getD i 0 = ys.getD i 0)) w := by
      generalize xs.getD i 0 = a
      generalize ys.getD i 0 = b
      simp only [Op.equalIn, Sem.run_bind, run_underlying hte.und, Result.andThen_ok]
      rfl
    simp only [Op.eqItems, Sem.run_bind, pt xs hi.1, pt ys hi.2, Result.andThen_ok, he]
    by_cases hx : xs.getD i 0 = ys.getD i 0
    · have e1 : decide (xs.getD i 0 = ys.getD i 0) = true := decide_eq_true hx
      rw [e1]
      simp only [Bool.not_true, Bool.false_eq_true, if_false]
      rw [ih]
      congr 1
      rw [Bool.eq_iff_iff]
      simp only [decide_eq_true_eq, List.mem_cons, forall_eq_or_imp, hx, true_and]
    · have e1 : decide (xs.getD i 0 = ys.getD i 0) = false := decide_eq_false hx
      rw [e1]
      simp only [Bool.not_false, if_true, Sem.run_pure]
      congr 1
      refine (decide_eq_false fun h => hx (h i (by simp))).symm
theorem key_AI {kt e : TypeId} {s by_ m : Nat} {zv : Value} (ht : Tf P kt (.array m e) s by_ zv) {be : Nat} {ze : Value} (hte : Tf P e (.int .i64) 1 be ze) : KeyOk P kt aiv (fun l => l.length = m) where
  chk em a w ha := by
    unfold Instr.checkKey
    rw [Sem.run_bind, run_underlying ht.und]
    simp only [Result.andThen_ok, aiv, Std.Legacy.Range.forIn_eq_forIn_range', Sem.run_bind]
    rw [run_for_yield]
    · simp
    · intro i hi
      have hi' : i < a.length := by
        rw [List.mem_range'_1] at hi
        have : i < m := by simpa [Std.Legacy.Range.size] using hi
        omega
      have pt : (part e (a.map vi).toArray (i * 1)).run P w = .ok (vi (a.getD i 0)) w := by
        unfold part
        rw [Sem.run_bind, hte.isAgg]
        simp [aggD, hi']
      simp only [Sem.run_bind, hte.sizeOf, Result.andThen_ok, pt, run_chk_i64 hte em 9998 _ w]
      simp
  find a w l es hM hV ha := by
    have hcells : P.cellsOf e = 1 := by
      cases hi : P.info? e with
      | none => have := hte.inf; simp [hi] at this
      | some i => have := hte.inf; simp [hi] at this; simp [Program.cellsOf, hi, this.1]
    have heq : ∀ b : List Int, b.length = m → (Op.equal kt (aiv a) (aiv b)).run P w = .ok (decide (a = b)) w := fun b hb => by
      cases hi : P.info? e with
      | none => have := hte.inf; simp [hi] at this
      | some i =>
        unfold Op.equal aiv
        rw [show Op.maxDepth = 9999 + 1 from rfl, run_equalIn_array w 9999 _ _ ht.und hi, hcells, run_items_i hte 9998 a b w _ (fun j hj => by rw [List.mem_range] at hj; omega)]
        congr 1
        rw [Bool.eq_iff_iff]
        simp only [decide_eq_true_eq, List.mem_range]
        constructor
        · intro h
          apply List.ext_getElem (by omega)
          intro j hj1 hj2
          have := h j (by omega)
          rwa [List.getD_eq_getElem?_getD, List.getD_eq_getElem?_getD, List.getElem?_eq_getElem hj1, List.getElem?_eq_getElem hj2] at this
        · intro h j _; rw [h]
    have key : ∀ (l : List (List Int × Value)) (es : List MapEntry) (i : Nat), MpR aiv l es → (∀ p ∈ l, p.1.length = m) → (Instr.findAsking kt (aiv a) es i).run P w = .ok (fnd a l i) w := by
      intro l
      induction l with
      | nil =>
        intro es i h _
        have : es = [] := by unfold MpR at h; simpa using h
        subst this; rfl
      | cons p l ih =>
        intro es i h hv
        cases es with
        | nil => unfold MpR at h; simp at h
        | cons e' es =>
          unfold MpR at h
          simp only [List.map_cons, List.cons.injEq, Prod.mk.injEq] at h
          obtain ⟨⟨h1, h2⟩, h3⟩ := h
          unfold Instr.findAsking fnd
          rw [Sem.run_bind, h1, heq _ (hv p (by simp))]
          simp only [Result.andThen_ok]
          by_cases h4 : a = p.1
          · rw [if_pos h4, if_pos (decide_eq_true h4), h2]
            rfl
          · rw [if_neg h4, if_neg (by simpa using h4)]
            exact ih es (i + 1) h3 fun q hq => hv q (by simp [hq])
    unfold Instr.findKey
    rw [Sem.run_bind, run_underlying ht.und]
    simp only [Result.andThen_ok]
    cases es with
    | nil =>
      have : l = [] := by unfold MpR at hM; cases l with | nil => rfl | cons _ _ => simp at hM
      subst this
      rfl
    | cons e' es =>
      have : Instr.findNow (.array m e) (aiv a) (e' :: es) 0 = none := by
        unfold Instr.findNow
        rfl
      rw [this]
      exact key l _ 0 hM hV
  bits a := by
    have key : ∀ (l : List Int), ((l.map vi).zip (l.map vi)).all (fun x => Instr.sameBits 9999 x.1 x.2) = true := by
      intro l
      induction l with
      | nil => rfl
      | cons b l ih => simp only [List.map_cons, List.zip_cons_cons, List.all_cons, ih, Bool.and_true]; simp [Instr.sameBits, vi]
    unfold aiv
    show ((_ == _) && _) = true
    simp only [beq_self_eq_true, Bool.true_and]
    exact key a
end
/-- A function of one number that gives a digest, and leaves all as it is. -/
def FnD (P : Program) (w : World) (fv : Value) (q : Int → Prop) (f : Int → List UInt8) : Prop :=
  ∃ g fs cs, fv = .func (.func g) fs.toArray cs.toArray ∧ FnOk P g ∧ ∀ w', (ph w).le (ph w') → ∀ x, q x → Ct P g (fs ++ [vi x] ++ cs) w' (fun r _ _ => r = .agg ((f x).map vb).toArray)
theorem FnD.mono {P : Program} {w w' : World} {fv : Value} {q : Int → Prop} {f : Int → List UInt8} (h : FnD P w fv q f) (hle : (ph w).le (ph w')) : FnD P w' fv q f := by
  obtain ⟨g, fs, cs, h1, h2, h3⟩ := h
  exact ⟨g, fs, cs, h1, h2, fun w2 h4 => h3 w2 (PH.le_tr hle h4)⟩
section
variable {P : Program} {n : Nat} {w0 : World} {zs : List PH} {hs : List Res} {L : List (Nat × Value)} {d : Option Tmp} {ty t : TypeId} {pos : String} {af : Array Edge} {g : Option (Nat × Bool)} {x : Operand}
theorem q_fnD [Dfs] {fv : Value} {q : Int → Prop} {f : Int → List UInt8} (hf : FnD P w0 fv q f) (h0 : opv L x = some fv) {y : Operand} {m : Int} (h1 : opv L y = some (vi m)) {ats : Array TypeId} (hq : q m) :
    Qt P n w0 zs hs L ⟨d, .call ⟨.value x, #[y], ats⟩, ty, pos, af, g⟩ (.agg ((f m).map vb).toArray) := by
  obtain ⟨f, fs, cs, rfl, h2, h3⟩ := hf
  have h1' : opvs L [y] = some [vi m] := by simp only [opvs, h1]
  exact q_callv h2 h0 h1' (fun w hS => h3 w hS.ext m hq) (fun _ _ _ h => h)
end
end Go.Fw
end

section
/-! a side with a guarded side within, under a known guard -/
namespace Go.Fw
open Go Go.Sem
section
variable {P : Program} {n : Nat} {w0 : World} {zs : List PH} {hs : List Res} {ops : Array Oper} {L L' : List (Nat × Value)} {k : Nat}
end
end Go.Fw
end

section
/-! an array of numbers as an argument -/
namespace Go.Fw
open Go Go.Sem
section
variable {P : Program} {W : World} {H : Type} {enc : TypeId × Value → H} {t e : TypeId}
end
end Go.Fw
end
