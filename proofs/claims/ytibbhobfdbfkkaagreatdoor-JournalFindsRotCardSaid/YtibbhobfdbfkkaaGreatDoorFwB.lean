/- A text of a proof over this seat: walks over the program's functions and the plain laws that they need. -/
import Derived.Test.YtibbhobfdbfkkaaGreatDoorFwA
import Derived.ChangeKeysEq
import Derived.Laws.StructEq
import Derived.Below
import Derived.Carry
import Derived.OpenShut
import Derived.WalkKit
import Derived.ProofKit
import Derived.Deep.DeepHandedRow
import Derived.Lib.LaidTab
import Derived.Stop.LaidErr
import Derived.Laws.Cover3
set_option linter.all false
section
namespace Go.Fw
section
variable {P : Program} {n : Nat} {w0 : World} {zs : List PH} {hs : List Res} {L : List (Nat × Value)} {d : Option Tmp} {ty t t' : TypeId} {pos : String} {af : Array Edge} {g : Option (Nat × Bool)}
variable {x y c o1 o2 o3 : Operand} {u v : Value} {ops : Array Oper} {rest : List Oper}

/-! ### function values -/
theorem q_mkf [Dfs] {fn : Fn} {fi ca : List Operand} {fs cs : List Value} (h1 : opvs L fi = some fs) (h2 : opvs L ca = some cs) :
    Qt P n w0 zs hs L ⟨d, .makeFunc fn fi.toArray ca.toArray, ty, pos, af, g⟩ (.func fn fs.toArray cs.toArray) :=
  qt_of fun a ha w hw => by
    have e1 := ha.evals h1
    have e2 := ha.evals h2
    simp only [execOp]
    simp [Instr.makeFunc, e1, e2]
end
end Go.Fw
namespace Go.Fw
section
variable {P : Program} {n : Nat} {w0 : World} {zs : List PH} {hs : List Res} {L : List (Nat × Value)}
/-- Two ways meet. -/
theorem wp_cutx [Dfs] {cx cy : Code} {Q : Exit → Act → World → Prop} {a : Act} {w : World} {γ : Type} (Lm : γ → List (Nat × Value)) (Lk : List (Nat × Value)) (hsf : γ → List Res) (fact : γ → Prop) (hk : Fr n Lk a) (hS : St w0 zs hs w)
    (hx : cx.wp P (Exit.then (fun a w => ∃ g, fact g ∧ Fr n (Lm g ++ Lk) a ∧ St w0 zs (hsf g) w) Q) a w)
    (hy : ∀ g a w, fact g → Fr n (Lm g ++ Lk) a → St w0 zs (hsf g) w → cy.wp P Q a w) : (Code.seq cx cy).wp P Q a w :=
  wp_cut _ hx fun _ _ ⟨g, h1, h2, h3⟩ => hy g _ _ h1 h2 h3
end
end Go.Fw
end

section
namespace Go.Fw
section
variable {P : Program} {n : Nat} {w0 : World} {zs : List PH} {hs : List Res} {L : List (Nat × Value)} {d : Option Tmp} {ty t t' : TypeId} {pos : String} {af : Array Edge} {g : Option (Nat × Bool)}
variable {x y c o1 o2 o3 : Operand} {u v : Value} {ops : Array Oper} {rest : List Oper}
end
end Go.Fw
namespace Go.Fw
/-- A row that nobody will write any more. -/
theorem St.freeze {α : Type} {E : Enc α} {w0 : World} {zs : List PH} {hs : List Res} {w : World} {e : TypeId} {v : Value} {m : Nat} {cs : List Value} (h : St w0 zs (.row v e E.size m cs :: hs) w) {z' : PH} (hz' : z' = (fun _ => none) ∨ z' ∈ zs) {xs : List α} (hm : m = xs.length) (hb : m ≤ 140737488355328)
    (hr : ∀ i x, xs[i]? = some x → ∃ cx, E.rep z' x cx ∧ ∀ j u, cx[j]? = some u → cs[i * E.size + j]? = some u) : ∃ z, Sl E z v xs ∧ St w0 (z :: zs) hs w := by
  have hown := h.own _ List.mem_cons_self
  have hle' : z'.le (ph w) := by
    rcases hz' with rfl | hz'
    · intro b o hb; cases hb
    · exact (h.zone z' hz').1
  have hno : ∀ b, v.ownBlock = some b → z' b = none := by
    intro b hvb
    rcases hz' with rfl | hz'
    · rfl
    · exact hown.2 b hvb z' hz'
  let z : PH := fun k => if v.ownBlock = some k then w.heap[k]? else z' k
  have hzz : z'.le z := by
    intro k o hk
    show (if v.ownBlock = some k then w.heap[k]? else z' k) = some o
    split
    · rename_i hv; rw [hno k hv] at hk; cases hk
    · exact hk
  have hzw : z.le (ph w) := by
    intro k o hk
    replace hk : (if v.ownBlock = some k then w.heap[k]? else z' k) = some o := hk
    split at hk
    · exact hk
    · exact hle' k o hk
  refine ⟨z, ?_, h.ext, ?_, ?_, ?_, h.io⟩
  · subst hm
    refine ⟨hb, ?_⟩
    rcases hown.1.2 with ⟨rfl, hn⟩ | ⟨b, cap, cur, rfl, hgb, hg, hnc, hcm, hcs, htake⟩
    · refine ⟨none, 0, by rw [hn], by omega, fun i x hx => ?_⟩
      have := (List.getElem?_eq_some_iff.1 hx).1
      omega
    · refine ⟨some ⟨b, 0, none⟩, cap, rfl, hnc, fun i x hx => ?_⟩
      obtain ⟨cx, h1, h2⟩ := hr i x hx
      refine ⟨b, 0, cur, e, (0, 0), cx, rfl, ?_, E.mono hzz h1, fun j u hu => ?_⟩
      · show (if _ = some b then w.heap[b]? else z' b) = _
        rw [if_pos (show (Value.slice (some ⟨b, 0, none⟩) xs.length cap).ownBlock = some b from rfl)]; exact hg
      · have h3 := h2 j u hu
        rw [← htake, List.getElem?_take] at h3
        split at h3
        · simpa [Nat.zero_add] using h3
        · cases h3
  · intro y hy
    rcases List.mem_cons.1 hy with rfl | hy
    · refine ⟨hzw, fun b o hbo => ?_⟩
      replace hbo : (if v.ownBlock = some b then w.heap[b]? else z' b) = some o := hbo
      split at hbo
      · rename_i hv; exact (Res.ok_ge hown.1 b hv).1
      · rcases hz' with rfl | hz'
        · cases hbo
        · exact (h.zone z' hz').2 b o hbo
    · exact h.zone y hy
  · intro r hr'
    have h1 := h.own r (List.mem_cons_of_mem _ hr')
    refine ⟨h1.1, fun b hb y hy => ?_⟩
    rcases List.mem_cons.1 hy with rfl | hy
    · show (if v.ownBlock = some b then w.heap[b]? else z' b) = none
      split
      · rename_i hv
        exfalso
        have hnd := h.nd
        rw [List.filterMap_cons] at hnd
        have e1 : (Res.row v e E.size m cs).id = some b := hv
        rw [e1] at hnd
        exact (List.nodup_cons.1 hnd).1 (List.mem_filterMap.2 ⟨r, hr', hb⟩)
      · rcases hz' with rfl | hz'
        · rfl
        · exact h1.2 b hb z' hz'
    · exact h1.2 b hb y hy
  · have hnd := h.nd
    exact filterMap_sub (List.sublist_cons_self _ _) hnd
theorem St.freezeV {α : Type} {f : α → Value} {p : α → Prop} {h0 : ∀ x, (f x).oneCell' = true} {w0 : World} {zs : List PH} {hs : List Res} {w : World} {e : TypeId} {v : Value} {m : Nat} {xs : List α} (h : St w0 zs (.row v e 1 m (xs.map f) :: hs) w) (hm : m = xs.length) (hb : m ≤ 140737488355328) (hp : ∀ x ∈ xs, p x) : ∃ z, Sl (encV f p h0) z v xs ∧ St w0 (z :: zs) hs w :=
  St.freeze (E := encV f p h0) h (z' := fun _ => none) (.inl rfl) hm hb fun i x hx => ⟨[f x], ⟨rfl, hp x (List.mem_of_getElem? hx)⟩, fun j u hu => by
    cases j with
    | zero => simp only [List.getElem?_cons_zero, Option.some.injEq] at hu; subst hu; show (xs.map f)[i * 1 + 0]? = _; simp [hx]
    | succ j => simp at hu⟩
theorem St.freezeB {w0 : World} {zs : List PH} {hs : List Res} {w : World} {e : TypeId} {v : Value} {m : Nat} {xs : List UInt8} (h : St w0 zs (.row v e 1 m (xs.map vb) :: hs) w) (hm : m = xs.length) (hb : m ≤ 140737488355328) : ∃ z, Sl encB z v xs ∧ St w0 (z :: zs) hs w :=
  h.freezeV (f := vb) hm hb fun _ _ => trivial
end Go.Fw
namespace Go.Fw
section
variable {P : Program} {n : Nat} {w0 : World} {zs : List PH} {hs : List Res} {L : List (Nat × Value)} {d : Option Tmp} {ty t t' : TypeId} {pos : String} {af : Array Edge} {g : Option (Nat × Bool)}
theorem q_buildA1 [Dfs] {m : Nat} {e : TypeId} {s by_ : Nat} {zc : List Value} (ht : Tf P t (.array m e) s by_ (.agg zc.toArray)) {de : TypeDesc} {be : Nat} {ze : Value} (hte : Tf P e de 1 be ze) {parts : Array (Nat × Operand)} {vs : List Value} (h1 : opvs L (parts.toList.map (·.2)) = some vs)
    (hix : parts.toList.map (·.1) = List.range' 0 vs.length) (h1c : ∀ v ∈ vs, v.oneCell' = true) (hz : zc.length = m) (hl : vs.length = m) :
    Qt P n w0 zs hs L ⟨d, .build t parts, ty, pos, af, g⟩ (.agg vs.toArray) :=
  q_build (opvs_mapM _ _ h1) (run_build_arr ht hte (by rw [hix]; exact fill_full (m := m) (show (Value.agg zc.toArray).cells.size = m from by show zc.toArray.size = m; simpa using hz) hl h1c))
end
end Go.Fw
end

section
namespace Go.Fw
section
variable {P : Program} {n : Nat} {w0 : World} {zs : List PH} {hs : List Res} {L : List (Nat × Value)} {d : Option Tmp} {ty t t' : TypeId} {pos : String} {af : Array Edge} {g : Option (Nat × Bool)}
variable {x y c o1 o2 o3 : Operand} {u v : Value} {ops : Array Oper} {rest : List Oper}
theorem run_items_b {e : TypeId} {be : Nat} {ze : Value} (hte : Tf P e (.int .u8) 1 be ze) (k : Nat) (xs ys : List UInt8) (w : World) : ∀ (is : List Nat), (∀ i ∈ is, i < xs.length ∧ i < ys.length) →
    (Op.eqItems (k + 1) e 1 (xs.map vb).toArray (ys.map vb).toArray is).run P w = .ok (decide (∀ i ∈ is, xs.getD i 0 = ys.getD i 0)) w
  | [], _ => by simp [Op.eqItems]
  | i :: is, h => by
    have hi := h i (by simp)
    have ih := run_items_b hte k xs ys w is fun j hj => h j (by simp [hj])
    have pt : ∀ (l : List UInt8), i < l.length → (part e (l.map vb).toArray (i * 1)).run P w = .ok (vb (l.getD i 0)) w := by
      intro l hl
      unfold part
      rw [Sem.run_bind, hte.isAgg]
      simp [aggD, hl]
    have he : (Op.equalIn (k + 1) e (vb (xs.getD i 0)) (vb (ys.getD i 0))).run P w = .ok (decide (xs.getD i 0 = ys.getD i 0)) w := by
      generalize xs.getD i 0 = a
      generalize ys.getD i 0 = b
      simp only [Op.equalIn, Sem.run_bind, run_underlying hte.und, Result.andThen_ok]
      have : (((a.toNat : Int) == (b.toNat : Int)) : Bool) = decide (a = b) := by
        rw [Bool.eq_iff_iff]
        simp only [beq_iff_eq, decide_eq_true_eq]
        constructor
        · intro h; exact UInt8.toNat.inj (by omega)
        · intro h; rw [h]
      simp [this]
    simp only [Op.eqItems, Sem.run_bind, pt xs hi.1, pt ys hi.2, Result.andThen_ok, he]
    by_cases hx : xs.getD i 0 = ys.getD i 0
    · have e1 : decide (xs.getD i 0 = ys.getD i 0) = true := decide_eq_true hx
      rw [e1]
      simp only [Bool.not_true, Bool.false_eq_true, if_false]
      rw [ih]
      congr 1
      rw [Bool.eq_iff_iff]
      simp only [decide_eq_true_eq, List.mem_cons, forall_eq_or_imp, hx, true_and]
    · have e1 : decide (xs.getD i 0 = ys.getD i 0) = false := decide_eq_false hx
      rw [e1]
      simp only [Bool.not_false, if_true, Sem.run_pure]
      congr 1
      refine (decide_eq_false fun h => hx (h i (by simp))).symm
theorem q_eqAB [Dfs] {m : Nat} {e : TypeId} {s by_ : Nat} {zv : Value} (ht : Tf P t (.array m e) s by_ zv) {be : Nat} {ze : Value} (hte : Tf P e (.int .u8) 1 be ze) (hg : P.eqGuardType P.depth t = false) {xs ys : List UInt8} (h1 : opv L x = some (.agg (xs.map vb).toArray)) (h2 : opv L y = some (.agg (ys.map vb).toArray)) (hx : xs.length = m) (hy : ys.length = m) :
    Qt P n w0 zs hs L ⟨d, .binOp .eql t x y t', ty, pos, af, g⟩ (.bool (decide (xs = ys))) :=
  q_bin h1 h2 (fun w => run_eqGuard_agg w _ _ _ _ _ _ hg) fun w => by
    cases hi : P.info? e with
    | none => have := hte.inf; simp [hi] at this
    | some i =>
      have hc : P.cellsOf e = 1 := by have := hte.inf; simp [hi] at this; simp [Program.cellsOf, hi, this.1]
      rw [run_eql_struct, run_equalIn_array w 9999 _ _ ht.und hi, hc, run_items_b hte 9998 xs ys w _ (fun j hj => by rw [List.mem_range] at hj; omega)]
      simp only [Result.andThen_ok]
      congr 2
      rw [Bool.eq_iff_iff]
      simp only [decide_eq_true_eq, List.mem_range]
      constructor
      · intro h
        apply List.ext_getElem (by omega)
        intro j hj1 hj2
        have := h j (by omega)
        rwa [List.getD_eq_getElem?_getD, List.getD_eq_getElem?_getD, List.getElem?_eq_getElem hj1, List.getElem?_eq_getElem hj2] at this
      · intro h j _; rw [h]
end
end Go.Fw
end

section
namespace Go.Fw
open Go.ChangeShapes Go.WideShapes Go.ChangeAt Go.RowKit

theorem St.below {W W' : World} {zs : List PH} {hs : List Res} (h : St W zs hs W') : Below W.heap.size W W' :=
  ⟨h.io.os, h.io.tape, h.io.output, le_size h.ext, fun _ hk => le_eq h.ext hk⟩

section
variable {H : Type} {enc : TypeId × Value → H} {P : Program}

theorem stays_all (hl : laidOutB P = true) {W W' : World} (hb : Below W.heap.size W W') : ∀ {ts : List TypeId} {vs : List Value} {ds : List (DataW H)} {ps : List MemPlace}, (ts.all fun t => P.readableRec t && decide (t < P.types.size)) = true →
    DataW.TrodAll enc P W 0 (fun _ => true) true ts vs ds ps → (∀ x ∈ ps, x.block < W.heap.size) → DataW.TrodAll enc P W' 0 (fun b => decide (b < W.heap.size)) true ts vs ds ps
  | [], [], [], _, _, h, _ => h
  | t :: ts, v :: vs, d :: ds, _, hT, ⟨p, q, h1, h2, e⟩, hs => by
    subst e
    simp only [List.all_cons, Bool.and_eq_true, decide_eq_true_eq] at hT
    exact ⟨p, q, Below.trod hl hT.1.1 hT.1.2 h1 hb fun x hx => hs x (List.mem_append_left _ hx), stays_all hl hb hT.2 h2 fun x hx => hs x (List.mem_append_right _ hx), rfl⟩

/-- The end of a law's row: it returned true, and nothing that was there has turned. -/
theorem law_post {f : Func} {s : ChangeSpec} {W W' : World} {args : Array Value} {ds gs : List (DataW H)} {before : List MemPlace} {zs : List PH} {hs : List Res} {tb : TypeId}
    (hl : laidOutB P = true) (hT : (f.params.toList.all fun t => P.readableRec t && decide (t < P.types.size)) = true) (hr : f.resultTypes = #[tb]) (htb : P.underlying tb = some .bool)
    (hv : s.vars = []) (hfn : s.fn H (ds ++ gs) = { results := [.lit (.bool true)], args := ds })
    (hW : DataW.Whole enc P f.params.toList s.vars false W args.toList ds gs before) (hS : St W zs hs W') :
    s.post enc P f false true false false W args (.bool true) W' := by
  have hb := hS.below
  have hW' := hW
  have hlt := hW.lt
  obtain ⟨p, q, hA, hV, rfl, hfz, hnd⟩ := hW
  refine ⟨ds, gs, _, [], p, q, hW', ?_, ?_, ?_, hb.frame _, fun h => by cases h⟩
  · rw [hr, hfn]
    exact trodAll_cons_mk (shut_bool htb true) trodAll_mk0
  · rw [hfn]
    exact stays_all hl hb hT hA fun x hx => hlt x (List.mem_append_left _ hx)
  · rw [hv] at hV ⊢
    rw [hfn]
    obtain ⟨rfl, rfl⟩ := trodVars_none hV
    exact rfl

/-! ### what an argument reads as -/
/-- Whatever can be read at this type is so laid. -/
def Rd {α : Type} (enc : TypeId × Value → H) (P : Program) (W : World) (E : Enc α) (t : TypeId) : Prop :=
  ∀ fuel cs x, DataW.trod enc P W 0 (fun _ => true) true fuel t cs = some x → (x.1.weights P t).all (· ≤ reachBytes) = true → ∃ a, E.rep (ph W) a cs

variable {W : World} {t e : TypeId}

theorem wf_i64 {n : Int} (h : (Lit.int .i64 n).wf = true) : -9223372036854775808 ≤ n ∧ n ≤ 9223372036854775807 := by
  simpa [Lit.wf, IntKind.min, IntKind.max, IntKind.signed, IntKind.bits] using h
theorem wf_u8 {n : Int} (h : (Lit.int .u8 n).wf = true) : 0 ≤ n ∧ n ≤ 255 := by
  simpa [Lit.wf, IntKind.min, IntKind.max, IntKind.signed, IntKind.bits] using h
theorem vb_of {n : Int} (h : 0 ≤ n ∧ n ≤ 255) : Value.int .u8 n = vb (UInt8.ofNat n.toNat) := by
  have : (UInt8.ofNat n.toNat).toNat = n.toNat := by rw [UInt8.toNat_ofNat']; exact Nat.mod_eq_of_lt (by omega)
  show _ = Value.int .u8 ((UInt8.ofNat n.toNat).toNat : Int)
  rw [this]
  congr 1
  omega

theorem rd_I (ht : P.underlying t = some (.int .i64)) : Rd enc P W encI t := fun _ _ _ h _ => by
  obtain ⟨n, rfl, _, hw⟩ := DataW.trod_int ht h
  exact ⟨n, rfl, wf_i64 hw⟩
theorem rd_B (ht : P.underlying t = some (.int .u8)) : Rd enc P W encB t := fun _ _ _ h _ => by
  obtain ⟨n, rfl, _, hw⟩ := DataW.trod_int ht h
  exact ⟨_, by rw [vb_of (wf_u8 hw)], trivial⟩
theorem choose_list {α : Type} (Q : Nat → α → Prop) : ∀ (n : Nat), (∀ i, i < n → ∃ x, Q i x) → ∃ xs : List α, xs.length = n ∧ ∀ i x, xs[i]? = some x → Q i x
  | 0, _ => ⟨[], rfl, fun i x h => by simp at h⟩
  | n + 1, h => by
    obtain ⟨xs, h1, h2⟩ := choose_list Q n fun i hi => h i (by omega)
    obtain ⟨x, hx⟩ := h n (by omega)
    refine ⟨xs ++ [x], by simp [h1], fun i y hy => ?_⟩
    rcases Nat.lt_or_ge i n with hi | hi
    · rw [List.getElem?_append_left (by omega)] at hy
      exact h2 i y hy
    · have hi' : i < n + 1 := by have := (List.getElem?_eq_some_iff.1 hy).1; simp at this; omega
      obtain rfl : i = n := by omega
      rw [List.getElem?_append_right (by omega), h1, Nat.sub_self] at hy
      simp only [List.getElem?_cons_zero, Option.some.injEq] at hy
      exact hy ▸ hx

theorem weightsAll_mem {ds : List (DataW H)} {d : DataW H} (hd : d ∈ ds) (h : (DataW.weightsAll P e ds).all (· ≤ reachBytes) = true) : (d.weights P e).all (· ≤ reachBytes) = true := by
  induction ds with
  | nil => cases hd
  | cons x ds ih =>
    simp only [DataW.weightsAll, List.all_append, Bool.and_eq_true] at h
    rcases List.mem_cons.1 hd with rfl | hd
    · exact h.1
    · exact ih hd h.2

theorem sl_of_trod {α : Type} {E : Enc α} (ht : P.underlying t = some (.slice e)) (hc : P.cellsOf e = E.size) (h0 : 0 < E.size) (hb : 0 < P.bytesOf e) (hE : Rd enc P W E e) {fuel : Nat} {cs : List Value} {x : DataW H × List MemPlace}
    (h : DataW.trod enc P W 0 (fun _ => true) true fuel t cs = some x) (hw : (x.1.weights P t).all (· ≤ reachBytes) = true) : ∃ v xs, cs = [v] ∧ Sl E (ph W) v xs := by
  rcases DataW.trod_slice ht h with ⟨rfl, rfl⟩ | ⟨a, len, cap, elems, rest, n, rfl, rfl, rfl, _, hlc, _, hle, hel, _, _⟩
  · exact ⟨_, [], rfl, by simp, none, 0, rfl, Nat.le_refl _, fun i x h => by simp at h⟩
  · simp only [DataW.weights, ht, List.all_cons, List.all_append, Bool.and_eq_true, decide_eq_true_eq, List.length_map] at hw
    obtain ⟨hw1, hw2, hw3⟩ := hw
    have hlen : len ≤ 140737488355328 := by
      unfold reachBytes at hw1
      have : elems.length + rest.length ≤ (elems.length + rest.length) * P.bytesOf e := Nat.le_mul_of_pos_right _ hb
      omega
    have hsp : 0 < len → ∃ b off cs' ty fz, a = ⟨b, off, none⟩ ∧ W.heap[b]? = some (.cells cs' ty fz) := by
      intro hi
      have h1 := hel 0 hi
      rw [List.getElem?_eq_getElem (by omega), Option.bind_eq_some_iff] at h1
      obtain ⟨cx, h2, h3⟩ := h1
      obtain ⟨_, hl, hcells⟩ := World.cells?_some h2
      rw [hc] at hl hcells
      have hz := hcells 0 (by omega)
      rw [List.getElem?_eq_getElem (by omega)] at hz
      obtain ⟨b, off, spot⟩ := a
      simp only [Nat.zero_mul, Addr.add, if_true, World.cell?] at hz
      split at hz
      · rename_i c1 t1 f1 hh
        cases spot with
        | none => exact ⟨b, off, c1, t1, f1, rfl, hh⟩
        | some s => simp at hz
      · cases hz
    have each : ∀ i, i < len → ∃ y, ∃ b off cs' ty fz cx, some a = some ⟨b, off, none⟩ ∧ ph W b = some (.cells cs' ty fz) ∧ E.rep (ph W) y cx ∧ ∀ j u, cx[j]? = some u → cs'[off + i * E.size + j]? = some u := by
      intro i hi
      obtain ⟨b, off, cs', ty, fz, rfl, hh⟩ := hsp (by omega)
      have h1 := hel i hi
      rw [List.getElem?_eq_getElem (by omega), Option.bind_eq_some_iff] at h1
      obtain ⟨cx, h2, h3⟩ := h1
      have hwi := weightsAll_mem (d := (elems[i]'(by omega)).1) (List.mem_map.2 ⟨_, List.getElem_mem _, rfl⟩) hw2
      obtain ⟨y, hy⟩ := hE _ _ _ h3 hwi
      obtain ⟨_, hl, hcells⟩ := World.cells?_some h2
      rw [hc] at hl hcells
      refine ⟨y, b, off, cs', ty, fz, cx, rfl, hh, hy, fun j u hj => ?_⟩
      have hjl : j < E.size := by have := (List.getElem?_eq_some_iff.1 hj).1; omega
      have h4 := hcells j hjl
      rw [hj, add_at, add_at, cell_of_row W b _ cs' ty fz hh] at h4
      exact h4
    obtain ⟨xs, hxl, hxs⟩ := choose_list _ len each
    subst hxl
    exact ⟨_, xs, rfl, hlen, some a, cap, rfl, hlc, fun i x hx => hxs i x hx⟩

/-! ### the arguments themselves -/
theorem arg_sl {α : Type} {E : Enc α} {base : Nat} {v : Value} {d : DataW H} {p : List MemPlace} (ht : P.underlying t = some (.slice e)) (hc : P.cellsOf e = E.size) (h0 : 0 < E.size) (hb : 0 < P.bytesOf e) (hE : Rd enc P W E e)
    (hv : Value.okWide P W .any base t v) (h : DataW.Trod enc P W 0 (fun _ => true) true t v d p) (hw : (d.weights P t).all (· ≤ reachBytes) = true) : ∃ xs, Sl E (ph W) v xs := by
  obtain ⟨a, len, cap, rfl⟩ := okWide_slice ht hv
  obtain ⟨fuel, hf⟩ := h
  obtain ⟨v, xs, hcs, hs⟩ := sl_of_trod ht hc h0 hb hE hf hw
  simp only [Value.cells] at hcs
  obtain rfl : Value.slice a len cap = v := by simpa using hcs
  exact ⟨xs, hs⟩
theorem arg_i {base : Nat} {v : Value} {d : DataW H} {p : List MemPlace} (ht : P.underlying t = some (.int .i64)) (hv : Value.okWide P W .any base t v) (h : DataW.Trod enc P W 0 (fun _ => true) true t v d p) :
    ∃ n : Int, v = vi n ∧ -9223372036854775808 ≤ n ∧ n ≤ 9223372036854775807 := by
  obtain ⟨n, rfl⟩ := okWide_int ht hv
  obtain ⟨fuel, hf⟩ := h
  obtain ⟨n', hcs, _, hw⟩ := DataW.trod_int ht hf
  obtain rfl : n = n' := by simpa [Value.cells] using hcs
  exact ⟨n, rfl, wf_i64 hw⟩
theorem arg_b {base : Nat} {v : Value} {d : DataW H} {p : List MemPlace} (ht : P.underlying t = some (.int .u8)) (hv : Value.okWide P W .any base t v) (h : DataW.Trod enc P W 0 (fun _ => true) true t v d p) :
    ∃ n : UInt8, v = vb n := by
  obtain ⟨n, rfl⟩ := okWide_int ht hv
  obtain ⟨fuel, hf⟩ := h
  obtain ⟨n', hcs, _, hw⟩ := DataW.trod_int ht hf
  obtain rfl : n = n' := by simpa [Value.cells] using hcs
  exact ⟨_, vb_of (wf_u8 hw)⟩
theorem weightsEach_cons {ts : List TypeId} {d : DataW H} {ds : List (DataW H)} (h : (DataW.weightsEach P (t :: ts) (d :: ds)).all (· ≤ reachBytes) = true) : (d.weights P t).all (· ≤ reachBytes) = true ∧ (DataW.weightsEach P ts ds).all (· ≤ reachBytes) = true := by
  simpa only [DataW.weightsEach, List.all_append, Bool.and_eq_true] using h

/-- A table that the row lists, as a block. -/
theorem tab_block {P : Program} {W : World} {name : String} {k : IntKind} {zs : List Int} {g : Nat} (hg : P.globalNamed name = some g) (h : Lib.TabIs P W name k zs) : ∃ bt fz, W.heap[g]? = some (.cells (zs.map fun z => Value.int k z).toArray bt fz) := by
  unfold Lib.TabIs World.var? at h
  rw [hg] at h
  simp only [Option.bind_some] at h
  split at h
  · rename_i cs bt fz hh
    simp only [Option.some.injEq] at h
    subst h
    exact ⟨bt, fz, hh⟩
  · cases h
end
end Go.Fw
end

section
namespace Go.Fw
section
variable {P : Program} {n : Nat} {w0 : World} {zs : List PH} {hs : List Res} {ops : Array Oper} {L L' : List (Nat × Value)} {k : Nat}

theorem wanted_go [Dfs] {d : Option Tmp} {op : Op} {t : TypeId} {p : String} {af : Array Edge} {g : Nat} {b : Bool} (gt : Nat) (hgt : (ops[g]?).bind (·.dst) = some gt) (hgl : look L gt = some (.bool b)) :
    ∀ a, Fr n L a → Region.wanted ⟨d, op, t, p, af, some (g, b)⟩ (yielded ops a.tmps) = true :=
  fun a ha => by simp [Region.wanted, yielded_of ha hgt hgl]
/-! ### guarded operations in a region that draws and writes -/
variable {J : Act → World → Prop}
/-- A guarded operation that writes, in the text's order. -/
theorem wpl_efg [Dfs] {op : Op} {d : Option Tmp} {ty : TypeId} {pos : String} {af : Array Edge} {g : Option (Nat × Bool)} {rest : List Oper} {Q : Exit → Act → World → Prop} {a : Act} {w : World} {K : Value → List PH → List Res → Prop} (hF : Fr n L a) (hS : St w0 zs hs w) (hg : ∀ a, Fr n L a → Region.wanted ⟨d, op, ty, pos, af, g⟩ (yielded ops a.tmps) = true) (hd : (match d with | some k => Nat.blt k n | none => true) = true) (e : Ef P n w0 zs hs L ⟨d, op, ty, pos, af, g⟩ K)
    (h : ∀ v zs' hs' a w, K v zs' hs' → Fr n (upL d v L) a → St w0 zs' hs' w → wpList P ops Q rest a w) : wpList P ops Q (⟨d, op, ty, pos, af, g⟩ :: rest) a w := by
  unfold wpList
  rw [if_pos (hg a hF)]
  refine .inl (e a hF w hS _ _ fun v zs' hs' w' hK hS' => h v zs' hs' _ w' hK (hF.up ?_) hS')
  cases d with
  | none => trivial
  | some k => exact Nat.blt_eq.mp hd

/-! ### '&&' and '||' whose left side is not known: a group of guarded operations, and the pick behind them -/
def frB (L : List (Nat × Value)) (o : Oper) : Bool := match o.dst with | some d => !(L.any fun p => Nat.beq p.1 d) | none => true
def grpB (n : Nat) (L : List (Nat × Value)) (g : Nat) (b : Bool) (l : List Oper) : Bool :=
  l.all fun o => (match o.guard with | some (g', b') => Nat.beq g g' && (b' == b) | none => false) && frB L o && (match o.dst with | some d => Nat.blt d n | none => true)

theorem look_of_any : ∀ {L : List (Nat × Value)} {t : Nat} {v : Value}, look L t = some v → (L.any fun p => Nat.beq p.1 t) = true
  | (s, u) :: r, t, v, h => by
    unfold look at h
    cases hb : Nat.beq s t with
    | true => simp [hb]
    | false => rw [hb] at h; simp only [cond_false] at h; simp [look_of_any h]

theorem look_up {d : Option Tmp} {v u : Value} {t : Nat} (h : look L t = some u) (hd : (match d with | some d => !(L.any fun p => Nat.beq p.1 d) | none => true) = true) : look (upL d v L) t = some u := by
  cases d with
  | none => exact h
  | some d =>
    simp only [upL]
    unfold look
    cases hb : Nat.beq d t with
    | true =>
      have : d = t := Nat.eq_of_beq_eq_true hb
      subst this
      have h9 : (!(L.any fun p => Nat.beq p.1 d)) = true := hd
      rw [look_of_any h] at h9
      cases h9
    | false => simpa using h

/-- L stands in L1. -/
def Sub (L L1 : List (Nat × Value)) : Prop := ∀ t v, look L t = some v → look L1 t = some v
theorem Fr.of_sub [Dfs] {L1 : List (Nat × Value)} {a : Act} (h : Fr n L1 a) (hs : Sub L L1) : Fr n L a := ⟨h.size, h.nodef, fun t v hv => h.get t v (hs t v hv)⟩

theorem sq_sub [Dfs] {l1 : List Oper} {L1 : List (Nat × Value)} {g : Nat} {b : Bool} : ∀ {m : Nat} {l : List Oper} {L0 : List (Nat × Value)}, Sq P n w0 zs hs ops m L0 l L1 l1 → grpB n L g b (l.take m) = true → Sub L L0 → Sub L L1
  | 0, _, _, h, _, hs => by obtain ⟨rfl, _⟩ := h; exact hs
  | m + 1, _, _, h, hg, hs => by
    obtain ⟨o, r, v, rfl, hd, hq, hr⟩ := h
    rw [List.take_succ_cons] at hg
    unfold grpB at hg
    rw [List.all_cons, Bool.and_eq_true, Bool.and_eq_true, Bool.and_eq_true] at hg
    refine sq_sub (m := m) (g := g) (b := b) hr hg.2 fun t u hu => ?_
    have hfr := hg.1.1.2
    unfold frB at hfr
    cases hod : o.dst with
    | none => exact hs t u hu
    | some d =>
      rw [hod] at hfr
      simp only [upL]
      unfold look
      cases hb : Nat.beq d t with
      | true =>
        have : d = t := Nat.eq_of_beq_eq_true hb
        subst this
        have h9 : (!(L.any fun p => Nat.beq p.1 d)) = true := hfr
        rw [look_of_any hu] at h9
        cases h9
      | false => simpa using hs t u hu

theorem wpl_skips [Dfs] {Q : Exit → Act → World → Prop} {g gt : Nat} {b c : Bool} (hdst : (ops[g]?).bind (·.dst) = some gt) (hbc : (!b) = c) : ∀ {m : Nat} {l : List Oper} {a : Act} {w : World}, Fr n L a → look L gt = some (.bool c) → grpB n L g b (l.take m) = true →
    (∀ a, Fr n L a → wpList P ops Q (l.drop m) a w) → wpList P ops Q l a w
  | 0, _, a, _, hF, _, _, K => K a hF
  | m + 1, [], a, _, hF, _, _, K => K a hF
  | m + 1, o :: r, a, w, hF, hl, hg, K => by
    rw [List.take_succ_cons] at hg
    unfold grpB at hg
    rw [List.all_cons, Bool.and_eq_true, Bool.and_eq_true, Bool.and_eq_true] at hg
    obtain ⟨⟨⟨h1, h2⟩, h3⟩, h4⟩ := hg
    have hw : Region.wanted o (yielded ops a.tmps) = false := by
      cases hog : o.guard with
      | none => rw [hog] at h1; cases h1
      | some gb =>
        obtain ⟨g', b'⟩ := gb
        rw [hog] at h1
        simp only [Bool.and_eq_true, beq_iff_eq] at h1
        have e1 : g = g' := Nat.eq_of_beq_eq_true h1.1
        subst e1
        obtain ⟨-, rfl⟩ := h1
        subst hbc
        simp [Region.wanted, hog, yielded_of hF hdst hl]
    unfold wpList
    rw [if_neg (by rw [hw]; simp)]
    have hF2 : Fr n (upL o.dst undef L) (a.put o.dst undef) := hF.up (by
      cases hod : o.dst with
      | none => trivial
      | some d => rw [hod] at h3; exact Nat.blt_eq.mp h3)
    exact wpl_skips (m := m) hdst hbc (hF2.of_sub fun t v hv => look_up hv (by unfold frB at h2; exact h2)) hl h4 K

/-- The left side of '||' is the Bool c. -/
theorem wpl_or [Dfs] {c q : Bool} (g gt m : Nat) {rest l : List Oper} {L1 : List (Nat × Value)} {pd : Tmp} {pt : TypeId} {pp : String} {pa : Array Edge} {x y : Operand} {Q : Exit → Act → World → Prop} {a : Act} {w : World}
    (hF : Fr n L a) (hS : St w0 zs hs w) (hgt : look L gt = some (.bool c)) (hdst : (ops[g]?).bind (·.dst) = some gt) (hl : l.drop m = ⟨some pd, .pick (.tmp gt) x y, pt, pp, pa, none⟩ :: rest) (hall : grpB n L g false (l.take m) = true) (hpd : Nat.blt pd n = true)
    (hgo : c = false → Sq P n w0 zs hs ops m ((gt, .bool false) :: L) l L1 (⟨some pd, .pick (.tmp gt) x y, pt, pp, pa, none⟩ :: rest)) (hx : opv L x = some (.bool true)) (hy : opv L1 y = some (.bool q))
    (K : ∀ a w, Fr n ((pd, .bool (c || q)) :: L) a → St w0 zs hs w → wpList P ops Q rest a w) : wpList P ops Q l a w := by
  have hb : dstOk n (some pd) := Nat.blt_eq.mp hpd
  cases c with
  | true =>
    refine wpl_skips (m := m) (b := false) (c := true) hdst rfl hF hgt hall fun a hF => ?_
    rw [hl]
    exact wpl_sq hF hS (sq hpd (q_pick_t hgt hx) sq_end) K
  | false =>
    have hs := hgo rfl
    have h1 : Sub L ((gt, .bool false) :: L) := fun t v hv => by
      unfold look
      cases hb : Nat.beq gt t with
      | true =>
        have : gt = t := Nat.eq_of_beq_eq_true hb
        subst this
        rw [hgt] at hv
        exact hv
      | false => simpa using hv
    have hF1 : Fr n ((gt, .bool false) :: L) a := ⟨hF.size, hF.nodef, fun t v hv => by
      unfold look at hv
      cases hb : Nat.beq gt t with
      | true =>
        have : gt = t := Nat.eq_of_beq_eq_true hb
        subst this
        simp only [hb, cond_true, Option.some.injEq] at hv
        subst hv
        exact hF.get _ _ hgt
      | false =>
        rw [hb] at hv
        exact hF.get t v hv⟩
    have hsub := sq_sub (g := g) (b := false) hs hall h1
    refine wpl_sq hF1 hS hs fun a w hF2 hS => ?_
    refine wpl_sq hF2 hS (sq hpd (q_pick_f (hsub gt _ hgt) hy) sq_end) fun a w hF3 hS => K a w ?_ hS
    refine hF3.of_sub fun t v hv => ?_
    unfold look at hv ⊢
    cases hb : Nat.beq pd t with
    | true => rw [hb] at hv; simpa using hv
    | false => rw [hb] at hv; exact hsub t v hv
/-- The left side of '&&' is the Bool c. -/
theorem wpl_and [Dfs] {c q : Bool} (g gt m : Nat) {rest l : List Oper} {L1 : List (Nat × Value)} {pd : Tmp} {pt : TypeId} {pp : String} {pa : Array Edge} {x y : Operand} {Q : Exit → Act → World → Prop} {a : Act} {w : World}
    (hF : Fr n L a) (hS : St w0 zs hs w) (hgt : look L gt = some (.bool c)) (hdst : (ops[g]?).bind (·.dst) = some gt) (hl : l.drop m = ⟨some pd, .pick (.tmp gt) x y, pt, pp, pa, none⟩ :: rest) (hall : grpB n L g true (l.take m) = true) (hpd : Nat.blt pd n = true)
    (hgo : c = true → Sq P n w0 zs hs ops m ((gt, .bool true) :: L) l L1 (⟨some pd, .pick (.tmp gt) x y, pt, pp, pa, none⟩ :: rest)) (hx : opv L1 x = some (.bool q)) (hy : opv L y = some (.bool false))
    (K : ∀ a w, Fr n ((pd, .bool (c && q)) :: L) a → St w0 zs hs w → wpList P ops Q rest a w) : wpList P ops Q l a w := by
  have hb : dstOk n (some pd) := Nat.blt_eq.mp hpd
  cases c with
  | false =>
    refine wpl_skips (m := m) (b := true) (c := false) hdst rfl hF hgt hall fun a hF => ?_
    rw [hl]
    exact wpl_sq hF hS (sq hpd (q_pick_f hgt hy) sq_end) K
  | true =>
    have hs := hgo rfl
    have h1 : Sub L ((gt, .bool true) :: L) := fun t v hv => by
      unfold look
      cases hb : Nat.beq gt t with
      | true =>
        have : gt = t := Nat.eq_of_beq_eq_true hb
        subst this
        rw [hgt] at hv
        exact hv
      | false => simpa using hv
    have hF1 : Fr n ((gt, .bool true) :: L) a := ⟨hF.size, hF.nodef, fun t v hv => by
      unfold look at hv
      cases hb : Nat.beq gt t with
      | true =>
        have : gt = t := Nat.eq_of_beq_eq_true hb
        subst this
        simp only [hb, cond_true, Option.some.injEq] at hv
        subst hv
        exact hF.get _ _ hgt
      | false =>
        rw [hb] at hv
        exact hF.get t v hv⟩
    have hsub := sq_sub (g := g) (b := true) hs hall h1
    refine wpl_sq hF1 hS hs fun a w hF2 hS => ?_
    refine wpl_sq hF2 hS (sq hpd (q_pick_t (hsub gt _ hgt) hx) sq_end) fun a w hF3 hS => K a w ?_ hS
    refine hF3.of_sub fun t v hv => ?_
    unfold look at hv ⊢
    cases hb : Nat.beq pd t with
    | true => rw [hb] at hv; simpa using hv
    | false => rw [hb] at hv; exact hsub t v hv

/-! ### the same in a region that draws its order -/
theorem wpq_seg [Dfs] : ∀ {k : Nat} {L l L' l'} {Q : Act → Prop} {a : Act}, Fr n L a → Sq P n w0 zs hs ops k L l L' l' →
    (∀ a, Fr n L' a → wpQuiet P ops (St w0 zs hs) Q l' a) → wpQuiet P ops (St w0 zs hs) Q l a
  | 0, _, _, _, _, _, a, hF, h, K => by obtain ⟨rfl, rfl⟩ := h; exact K a hF
  | k + 1, _, _, _, _, _, a, hF, h, K => by
    obtain ⟨o, r, v, rfl, hd, hq, hr⟩ := h
    unfold wpQuiet
    rcases hq a hF with ⟨hw, hq⟩ | ⟨hw, rfl⟩
    · simp only [hw, if_true]
      exact ⟨v, fun w hw => hq w hw, wpq_seg (hF.up hd) hr K⟩
    · simp only [hw, Bool.false_eq_true, if_false]
      exact wpq_seg (hF.up hd) hr K
theorem wpq_nil {Q : Act → Prop} {a : Act} (h : Q a) : wpQuiet P ops (St w0 zs hs) Q [] a := h
theorem regq {l : List Oper} {id : Nat} {Q : Exit → Act → World → Prop} {a : Act} {w : World} (hm : P.follows .mixedOrders = true) (hB : Region.lexB .any l.toArray = true) (hS : St w0 zs hs w)
    (h : wpQuiet P l.toArray (St w0 zs hs) (fun a => ∀ w, St w0 zs hs w → Q .normal a w) l a) : (Code.region id l.toArray true).wp P Q a w :=
  wp_region_quiet (C := St w0 zs hs) hm hB (hS.drew _) h
theorem wpq_skips [Dfs] {Q : Act → Prop} {g gt : Nat} {b c : Bool} (hdst : (ops[g]?).bind (·.dst) = some gt) (hbc : (!b) = c) : ∀ {m : Nat} {l : List Oper} {a : Act}, Fr n L a → look L gt = some (.bool c) → grpB n L g b (l.take m) = true →
    (∀ a, Fr n L a → wpQuiet P ops (St w0 zs hs) Q (l.drop m) a) → wpQuiet P ops (St w0 zs hs) Q l a
  | 0, _, a, hF, _, _, K => K a hF
  | m + 1, [], a, hF, _, _, K => K a hF
  | m + 1, o :: r, a, hF, hl, hg, K => by
    rw [List.take_succ_cons] at hg
    unfold grpB at hg
    rw [List.all_cons, Bool.and_eq_true, Bool.and_eq_true, Bool.and_eq_true] at hg
    obtain ⟨⟨⟨h1, h2⟩, h3⟩, h4⟩ := hg
    have hw : Region.wanted o (yielded ops a.tmps) = false := by
      cases hog : o.guard with
      | none => rw [hog] at h1; cases h1
      | some gb =>
        obtain ⟨g', b'⟩ := gb
        rw [hog] at h1
        simp only [Bool.and_eq_true, beq_iff_eq] at h1
        have e1 : g = g' := Nat.eq_of_beq_eq_true h1.1
        subst e1
        obtain ⟨-, rfl⟩ := h1
        subst hbc
        simp [Region.wanted, hog, yielded_of hF hdst hl]
    unfold wpQuiet
    simp only [hw, Bool.false_eq_true, if_false]
    have hF2 : Fr n (upL o.dst undef L) (a.put o.dst undef) := hF.up (by
      cases hod : o.dst with
      | none => trivial
      | some d => rw [hod] at h3; exact Nat.blt_eq.mp h3)
    exact wpq_skips (m := m) hdst hbc (hF2.of_sub fun t v hv => look_up hv (by unfold frB at h2; exact h2)) hl h4 K

/-- The left side of '||' is the Bool c. -/
theorem wpq_or [Dfs] {c q : Bool} (g gt m : Nat) {rest l : List Oper} {L1 : List (Nat × Value)} {pd : Tmp} {pt : TypeId} {pp : String} {pa : Array Edge} {x y : Operand} {Q : Act → Prop} {a : Act}
    (hF : Fr n L a) (hgt : look L gt = some (.bool c)) (hdst : (ops[g]?).bind (·.dst) = some gt) (hl : l.drop m = ⟨some pd, .pick (.tmp gt) x y, pt, pp, pa, none⟩ :: rest) (hall : grpB n L g false (l.take m) = true) (hpd : Nat.blt pd n = true)
    (hgo : c = false → Sq P n w0 zs hs ops m ((gt, .bool false) :: L) l L1 (⟨some pd, .pick (.tmp gt) x y, pt, pp, pa, none⟩ :: rest)) (hx : opv L x = some (.bool true)) (hy : opv L1 y = some (.bool q))
    (K : ∀ a, Fr n ((pd, .bool (c || q)) :: L) a → wpQuiet P ops (St w0 zs hs) Q rest a) : wpQuiet P ops (St w0 zs hs) Q l a := by
  have hb : dstOk n (some pd) := Nat.blt_eq.mp hpd
  cases c with
  | true =>
    refine wpq_skips (m := m) (b := false) (c := true) hdst rfl hF hgt hall fun a hF => ?_
    rw [hl]
    exact wpq_seg hF (sq hpd (q_pick_t hgt hx) sq_end) K
  | false =>
    have hs := hgo rfl
    have h1 : Sub L ((gt, .bool false) :: L) := fun t v hv => by
      unfold look
      cases hb : Nat.beq gt t with
      | true =>
        have : gt = t := Nat.eq_of_beq_eq_true hb
        subst this
        rw [hgt] at hv
        exact hv
      | false => simpa using hv
    have hF1 : Fr n ((gt, .bool false) :: L) a := ⟨hF.size, hF.nodef, fun t v hv => by
      unfold look at hv
      cases hb : Nat.beq gt t with
      | true =>
        have : gt = t := Nat.eq_of_beq_eq_true hb
        subst this
        simp only [hb, cond_true, Option.some.injEq] at hv
        subst hv
        exact hF.get _ _ hgt
      | false =>
        rw [hb] at hv
        exact hF.get t v hv⟩
    have hsub := sq_sub (g := g) (b := false) hs hall h1
    refine wpq_seg hF1 hs fun a hF2 => ?_
    refine wpq_seg hF2 (sq hpd (q_pick_f (hsub gt _ hgt) hy) sq_end) fun a hF3 => K a ?_
    refine hF3.of_sub fun t v hv => ?_
    unfold look at hv ⊢
    cases hb : Nat.beq pd t with
    | true => rw [hb] at hv; simpa using hv
    | false => rw [hb] at hv; exact hsub t v hv
/-- The left side of '&&' is the Bool c. -/
theorem wpq_and [Dfs] {c q : Bool} (g gt m : Nat) {rest l : List Oper} {L1 : List (Nat × Value)} {pd : Tmp} {pt : TypeId} {pp : String} {pa : Array Edge} {x y : Operand} {Q : Act → Prop} {a : Act}
    (hF : Fr n L a) (hgt : look L gt = some (.bool c)) (hdst : (ops[g]?).bind (·.dst) = some gt) (hl : l.drop m = ⟨some pd, .pick (.tmp gt) x y, pt, pp, pa, none⟩ :: rest) (hall : grpB n L g true (l.take m) = true) (hpd : Nat.blt pd n = true)
    (hgo : c = true → Sq P n w0 zs hs ops m ((gt, .bool true) :: L) l L1 (⟨some pd, .pick (.tmp gt) x y, pt, pp, pa, none⟩ :: rest)) (hx : opv L1 x = some (.bool q)) (hy : opv L y = some (.bool false))
    (K : ∀ a, Fr n ((pd, .bool (c && q)) :: L) a → wpQuiet P ops (St w0 zs hs) Q rest a) : wpQuiet P ops (St w0 zs hs) Q l a := by
  have hb : dstOk n (some pd) := Nat.blt_eq.mp hpd
  cases c with
  | false =>
    refine wpq_skips (m := m) (b := true) (c := false) hdst rfl hF hgt hall fun a hF => ?_
    rw [hl]
    exact wpq_seg hF (sq hpd (q_pick_f hgt hy) sq_end) K
  | true =>
    have hs := hgo rfl
    have h1 : Sub L ((gt, .bool true) :: L) := fun t v hv => by
      unfold look
      cases hb : Nat.beq gt t with
      | true =>
        have : gt = t := Nat.eq_of_beq_eq_true hb
        subst this
        rw [hgt] at hv
        exact hv
      | false => simpa using hv
    have hF1 : Fr n ((gt, .bool true) :: L) a := ⟨hF.size, hF.nodef, fun t v hv => by
      unfold look at hv
      cases hb : Nat.beq gt t with
      | true =>
        have : gt = t := Nat.eq_of_beq_eq_true hb
        subst this
        simp only [hb, cond_true, Option.some.injEq] at hv
        subst hv
        exact hF.get _ _ hgt
      | false =>
        rw [hb] at hv
        exact hF.get t v hv⟩
    have hsub := sq_sub (g := g) (b := true) hs hall h1
    refine wpq_seg hF1 hs fun a hF2 => ?_
    refine wpq_seg hF2 (sq hpd (q_pick_t (hsub gt _ hgt) hx) sq_end) fun a hF3 => K a ?_
    refine hF3.of_sub fun t v hv => ?_
    unfold look at hv ⊢
    cases hb : Nat.beq pd t with
    | true => rw [hb] at hv; simpa using hv
    | false => rw [hb] at hv; exact hsub t v hv
end
end Go.Fw
end

section
namespace Go.Fw
/-- An own block turns into what is frozen. -/
theorem St.mark {w0 : World} {zs : List PH} {r : Res} {hs : List Res} {w w' : World} {b : Nat} (o : Obj) (h : St w0 zs (r :: hs) w) (hid : r.id = some b) (hw : ∀ k, k ≠ b → w'.heap[k]? = w.heap[k]?) (hn : w'.heap[b]? = some o) (hio : Io w w') : St w0 (ph1 b o :: zs) hs w' := by
  have hown := h.own r List.mem_cons_self
  have hge := Res.ok_ge hown.1 b hid
  have hne : ∀ s ∈ hs, s.id ≠ some b := by
    intro s hs' e
    have hnd := h.nd
    rw [List.filterMap_cons, hid] at hnd
    exact (List.nodup_cons.1 hnd).1 (List.mem_filterMap.2 ⟨s, hs', e⟩)
  refine ⟨fun k ob hk => ?_, fun z hz => ?_, fun s hs' => ⟨?_, fun k hk z hz => ?_⟩, filterMap_sub (List.sublist_cons_self _ _) h.nd, h.io.trans hio⟩
  · have h1 := h.ext k ob hk
    have hkb : k ≠ b := by have := ph_some hk; omega
    simp only [ph] at h1 ⊢
    rw [hw k hkb]; exact h1
  · rcases List.mem_cons.1 hz with rfl | hz2
    · refine ⟨fun k ob hk => ?_, fun k ob hk => ?_⟩
      · obtain ⟨rfl, rfl⟩ := ph1_some hk; exact hn
      · obtain ⟨rfl, rfl⟩ := ph1_some hk; exact hge.1
    · refine ⟨fun k ob hk => ?_, (h.zone z hz2).2⟩
      have h1 := (h.zone z hz2).1 k ob hk
      have hkb : k ≠ b := by
        intro e
        rw [e, hown.2 b hid z hz2] at hk
        cases hk
      simp only [ph] at h1 ⊢
      rw [hw k hkb]; exact h1
  · exact Res.ok_of (h.own s (List.mem_cons_of_mem _ hs')).1 fun k hk => hw k fun e => hne s hs' (by rw [← e]; exact hk)
  · rcases List.mem_cons.1 hz with rfl | hz
    · unfold ph1
      rw [if_neg (fun e => hne s hs' (by rw [← e]; exact hk))]
    · exact (h.own s (List.mem_cons_of_mem _ hs')).2 k hk z hz
section
variable {P : Program} {n : Nat} {w0 : World} {zs : List PH} {hs : List Res} {L : List (Nat × Value)} {d : Option Tmp} {ty t t' : TypeId} {pos : String} {af : Array Edge} {g : Option (Nat × Bool)}
variable {x y c o1 o2 o3 : Operand} {u v : Value}
theorem q_dt [Dfs] {o : Oper} {p : Prop} [Decidable p] (q : Qt P n w0 zs hs L o (.bool (decide p))) (h : p) : Qt P n w0 zs hs L o (.bool true) := by rwa [decide_eq_true h] at q
theorem q_df [Dfs] {o : Oper} {p : Prop} [Decidable p] (q : Qt P n w0 zs hs L o (.bool (decide p))) (h : ¬ p) : Qt P n w0 zs hs L o (.bool false) := by rwa [decide_eq_false h] at q
theorem q_nt [Dfs] {o : Oper} {p : Prop} [Decidable p] (q : Qt P n w0 zs hs L o (.bool (!decide p))) (h : ¬ p) : Qt P n w0 zs hs L o (.bool true) := by rwa [decide_eq_false h] at q
theorem q_nf [Dfs] {o : Oper} {p : Prop} [Decidable p] (q : Qt P n w0 zs hs L o (.bool (!decide p))) (h : p) : Qt P n w0 zs hs L o (.bool false) := by rwa [decide_eq_true h] at q
end
end Go.Fw
end

section
namespace Go.Fw
section
variable {P : Program} {n : Nat} {w0 : World} {zs : List PH} {hs : List Res} {L : List (Nat × Value)} {d : Option Tmp} {ty t t' : TypeId} {pos : String} {af : Array Edge} {g : Option (Nat × Bool)}
variable {x y c o1 o2 o3 : Operand} {u v : Value}

/-- A part of what a call hands back. -/
theorem q_extract [Dfs] {k : Nat} {vs : List Value} (h1 : opv L x = some (.tuple vs.toArray)) (hk : vs[k]? = some v) : Qt P n w0 zs hs L ⟨d, .extract x k, ty, pos, af, g⟩ v :=
  qt_of fun a ha w hw => by
    simp only [execOp, ha.eval h1]
    simp [Instr.extract, hk]
/-! ### a callee that writes what the caller owns -/
/-- 'own': what the callee is lent; it hands back what it made of it, and all that it made besides. -/
def Cx (P : Program) (f : FuncId) (args : List Value) (w0 : World) (zsr : List PH) (own : List Res) (R : Value → List PH → List Res → Prop) : Prop :=
  ∀ (hsr : List Res) (w : World), St w0 zsr (own ++ hsr) w → Calls P f args.toArray w fun e w' => ∃ v zs1 hs1, e = .returned v ∧ St w0 (zs1 ++ zsr) (hs1 ++ hsr) w' ∧ R v zs1 hs1
theorem fn_enterx {f : FuncId} {fn : Func} {cd : Code} (hf : P.funcs[f]? = some fn) (hb : fn.body = some cd) {k : Nat} (hk : fn.ntmps = k) {args : List Value} (hn : args.length ≤ k) {w0 : World} {zsr : List PH} {own : List Res} {R : Value → List PH → List Res → Prop}
    (h : ∀ (hsr : List Res) a w, Fr k (enterL 0 args) a → St w0 zsr (own ++ hsr) w → cd.wp P (bodyPost P fn fun e w' => ∃ v zs1 hs1, e = .returned v ∧ St w0 (zs1 ++ zsr) (hs1 ++ hsr) w' ∧ R v zs1 hs1) a w) : Cx P f args w0 zsr own R := by
  subst hk
  intro hsr w hS
  exact calls_of_wp hf hb (h hsr _ w (Fr.enter _ _ hn) hS)
theorem fn_retx {fn : Func} {w : World} {a : Act} {R : Value → List PH → List Res → Prop} {rs : List ResultVar} {zsr : List PH} {hsr : List Res} (hrs : fn.results = rs.toArray) (hF : Fr n L a) (hS : St w0 zs hs w) {vs : List Value} (hv : ResVs P L hs rs vs) (zs1 : List PH) (hs1 : List Res) (h1 : (zs1 ++ zsr).Sublist zs) (h2 : (hs1 ++ hsr).Sublist hs) (hR : R (resVal vs) zs1 hs1) :
    bodyPost P fn (fun e w' => ∃ v zs1 hs1, e = .returned v ∧ St w0 (zs1 ++ zsr) (hs1 ++ hsr) w' ∧ R v zs1 hs1) .ret a w :=
  ⟨hF.nodef, _, run_results hrs hF hS hv, _, _, _, rfl, hS.keep h1 h2, hR⟩
theorem ef_callx [Dfs] {f : FuncId} (hf : FnOk P f) {os : List Operand} {vs : List Value} {ats : Array TypeId} {R : Value → List PH → List Res → Prop} {own rest : List Res} (h1 : opvs L os = some vs) (hp : (own ++ rest).Perm hs) (hc : Cx P f vs w0 zs own R) :
    Ef P n w0 zs hs L ⟨d, .call ⟨.value (.func f), os.toArray, ats⟩, ty, pos, af, g⟩ (fun v zs' hs' => ∃ z1 h1, zs' = z1 ++ zs ∧ hs' = h1 ++ rest ∧ R v z1 h1) := by
  intro a ha w hw next Q hn
  unfold Oper.wp
  rw [run_call hf ha h1]
  exact Calls.mono (hc rest w (hw.perm hp)) fun e w' ⟨v', zs', hs', he, hS, hr⟩ => by
    subst he
    exact hn v' _ _ w' ⟨zs', hs', rfl, rfl, hr⟩ hS
/-- What needs nothing of the caller's serves, too. -/
theorem Ct.cx {f : FuncId} {args : List Value} {zsr : List PH} {R : Value → List PH → List Res → Prop} (h : ∀ w, St w0 zsr [] w → Ct P f args w R) : Cx P f args w0 zsr [] R := by
  intro hsr w hS
  refine Calls.mono (h w (hS.keep (List.Sublist.refl _) (List.nil_sublist _))) fun e w' ⟨v, zs, hs, he, hS', hr⟩ => ⟨v, zs, hs, he, hS.call hS', hr⟩

/-! ### s[lo:hi:max], and append behind it -/
/-- The whole of a slice, without room behind it. -/
def fullV (v : Value) : Value :=
  match v with
  | .slice a m _ => .slice (if m = 0 then a else a.map (·.add 0)) m m
  | _ => undef
theorem Sl.full {α : Type} {E : Enc α} {z : PH} {xs : List α} (h : Sl E z v xs) : Sl E z (fullV v) xs := by
  obtain ⟨hb, a, c, rfl, hc, h⟩ := h
  refine ⟨hb, _, xs.length, rfl, Nat.le_refl _, fun i xx hx => ?_⟩
  have hi := (List.getElem?_eq_some_iff.1 hx).1
  obtain ⟨b, off, cs, ty, fz, cx, rfl, h2, h3, h4⟩ := h i xx hx
  refine ⟨b, off, cs, ty, fz, cx, ?_, h2, h3, h4⟩
  rw [if_neg (by omega)]
  rfl
end
end Go.Fw
end

section
namespace Go.Fw
section
variable {P : Program} {n : Nat} {w0 : World} {zs : List PH} {hs : List Res} {ops : Array Oper} {L : List (Nat × Value)} {d : Option Tmp} {ty t t' : TypeId} {pos : String} {af : Array Edge} {g : Option (Nat × Bool)}
variable {x y c o1 o2 o3 : Operand} {u v : Value}

/-! ### arrays of bytes in a slice -/
theorem elemPtr_add {α : Type} {E : Enc α} {z : PH} {xs : List α} (hS : Sl E z v xs) {k : Nat} (hk : k < xs.length) : ∃ b off, elemPtr v (k * E.size) = .pointer (some ⟨b, off, none⟩) ∧ ∀ j, elemPtr v (k * E.size + j) = .pointer (some ⟨b, off + j, none⟩) := by
  obtain ⟨_, a, cc, rfl, _, h⟩ := hS
  obtain ⟨b, off, cs, ty', fz, cx, rfl, _⟩ := h k xs[k] (by simp [hk])
  exact ⟨b, off + k * E.size, by simp [elemPtr, add_at], fun j => by simp [elemPtr, add_at, Nat.add_assoc]⟩
theorem q_neAB [Dfs] {m : Nat} {e : TypeId} {s by_ : Nat} {zv : Value} (ht : Tf P t (.array m e) s by_ zv) {be : Nat} {ze : Value} (hte : Tf P e (.int .u8) 1 be ze) (hg : P.eqGuardType P.depth t = false) {xs ys : List UInt8} (h1 : opv L x = some (.agg (xs.map vb).toArray)) (h2 : opv L y = some (.agg (ys.map vb).toArray)) (hx : xs.length = m) (hy : ys.length = m) :
    Qt P n w0 zs hs L ⟨d, .binOp .neq t x y t', ty, pos, af, g⟩ (.bool (!decide (xs = ys))) :=
  q_bin h1 h2 (fun w => run_eqGuard_agg w _ _ _ _ _ _ hg) fun w => by
    cases hi : P.info? e with
    | none => have := hte.inf; simp [hi] at this
    | some i =>
      have hc : P.cellsOf e = 1 := by have := hte.inf; simp [hi] at this; simp [Program.cellsOf, hi, this.1]
      rw [run_neq_struct, run_equalIn_array w 9999 _ _ ht.und hi, hc, run_items_b hte 9998 xs ys w _ (fun j hj => by rw [List.mem_range] at hj; omega)]
      simp only [Result.andThen_ok]
      congr 3
      rw [Bool.eq_iff_iff]
      simp only [decide_eq_true_eq, List.mem_range]
      constructor
      · intro h
        apply List.ext_getElem (by omega)
        intro j hj1 hj2
        have := h j (by omega)
        rwa [List.getD_eq_getElem?_getD, List.getD_eq_getElem?_getD, List.getElem?_eq_getElem hj1, List.getElem?_eq_getElem hj2] at this
      · intro h j _; rw [h]

/-! ### append of a part of an own box -/
/-! ### a new slice of arrays -/
theorem foldl_set : ∀ (cs : List Value) (k : Nat) (A : Array Value), A.size = k + cs.length → (cs.zipIdx k).foldl (fun A x => A.setIfInBounds x.2 x.1) A = (A.toList.take k ++ cs).toArray
  | [], k, A, h => by
    simp only [List.zipIdx_nil, List.foldl_nil, List.append_nil]
    rw [List.take_of_length_le (by simpa using Nat.le_of_eq h)]
  | c :: cs, k, A, h => by
    rw [List.zipIdx_cons, List.foldl_cons, foldl_set cs (k + 1) _ (by simp at h ⊢; omega)]
    congr 1
    simp only [List.length_cons] at h
    have hk : k < A.toList.length := by simp; omega
    rw [Array.toList_setIfInBounds, List.take_succ_eq_append_getElem (by simpa using hk), List.take_set, List.getElem_set_self, List.append_assoc]
    congr 1
    rw [List.set_eq_of_length_le (by simp; omega)]
theorem ef_bsliceW [Dfs] {e : TypeId} {s by_ : Nat} {zv : Value} (ht : Tf P t (.slice e) s by_ zv) {de : TypeDesc} {m be : Nat} {zc : List Value} (hte : Tf P e de m be (.agg zc.toArray)) {cs : List Value} (h1 : opv L x = some (.agg cs.toArray)) (hl : cs.length = m) (hz : zc.length = m) (h1c : ∀ v ∈ cs, v.oneCell' = true) (hb : 1 * m ≤ 16777216) (h0 : 0 < m) :
    Ef P n w0 zs hs L ⟨d, .buildSlice t 1 #[(0, x)], ty, pos, af, g⟩ (fun v zs' hs' => zs' = zs ∧ hs' = .row v e m 1 cs :: hs) := by
  refine ef_bslice ht hte (vparts := [(0, .agg cs.toArray)]) (by simp [h1]) ?_ hb (by simp; omega) (by simpa using hl)
  subst hl
  simp only [Instr.fill, Value.cells, Nat.zero_mul, Nat.one_mul]
  simp [Instr.fill, Value.cells]
  have := foldl_set cs 0 (Array.map (fun x => zc[x % zc.length]?.getD default) (Array.range cs.length)) (by simp)
  simpa using this
end
end Go.Fw
end

section
namespace Go.Fw
section
variable {P : Program} {n : Nat} {w0 : World} {zs : List PH} {hs : List Res} {ops : Array Oper} {L : List (Nat × Value)}
/-- What these operations write stands nowhere in L. -/
def frsB (L : List (Nat × Value)) (l : List Oper) : Bool := l.all (frB L)
theorem sq_sub2 [Dfs] {l1 : List Oper} {L1 : List (Nat × Value)} : ∀ {m : Nat} {l : List Oper} {L0 : List (Nat × Value)}, Sq P n w0 zs hs ops m L0 l L1 l1 → frsB L (l.take m) = true → Sub L L0 → Sub L L1
  | 0, _, _, h, _, hs => by obtain ⟨rfl, _⟩ := h; exact hs
  | m + 1, _, _, h, hg, hs => by
    obtain ⟨o, r, v, rfl, hd, hq, hr⟩ := h
    rw [List.take_succ_cons] at hg
    unfold frsB at hg
    rw [List.all_cons, Bool.and_eq_true] at hg
    refine sq_sub2 (m := m) hr hg.2 fun t u hu => ?_
    have hfr := hg.1
    unfold frB at hfr
    cases hod : o.dst with
    | none => exact hs t u hu
    | some d =>
      rw [hod] at hfr
      simp only [upL]
      unfold look
      cases hb : Nat.beq d t with
      | true =>
        have : d = t := Nat.eq_of_beq_eq_true hb
        subst this
        have h9 : (!(L.any fun p => Nat.beq p.1 d)) = true := hfr
        rw [look_of_any hu] at h9
        cases h9
      | false => simpa using hs t u hu
theorem sub_pre {gt : Nat} {b : Bool} (hgt : look L gt = some (.bool b)) : Sub L ((gt, .bool b) :: L) := fun t v hv => by
  unfold look
  cases hb : Nat.beq gt t with
  | true =>
    have : gt = t := Nat.eq_of_beq_eq_true hb
    subst this
    rw [hgt] at hv
    exact hv
  | false => simpa using hv
theorem fr_pre [Dfs] {gt : Nat} {b : Bool} {a : Act} (hF : Fr n L a) (hgt : look L gt = some (.bool b)) : Fr n ((gt, .bool b) :: L) a := ⟨hF.size, hF.nodef, fun t v hv => by
  unfold look at hv
  cases hb : Nat.beq gt t with
  | true =>
    have : gt = t := Nat.eq_of_beq_eq_true hb
    subst this
    simp only [hb, cond_true, Option.some.injEq] at hv
    subst hv
    exact hF.get _ _ hgt
  | false =>
    rw [hb] at hv
    exact hF.get t v hv⟩
theorem sub_top {pd : Nat} {v : Value} {L1 : List (Nat × Value)} (h : Sub L L1) : Sub ((pd, v) :: L) ((pd, v) :: L1) := fun t u hu => by
  unfold look at hu ⊢
  cases hb : Nat.beq pd t with
  | true => rw [hb] at hu; simpa using hu
  | false => rw [hb] at hu; exact h t u hu
end
end Go.Fw
namespace Go.Fw
theorem nd_false {p : Prop} [Decidable p] (h : (!decide p) = false) : p := by simpa using h
end Go.Fw
end

section
namespace Go.Fw
open Go.ChangeShapes Go.WideShapes Go.ChangeAt Go.RowKit
variable {H : Type} {enc : TypeId × Value → H} {P : Program} {W : World} {t e : TypeId}

/-! ### arguments with their bulk -/
/-- What the bulk of a Rows text is: the equations that are needed here. -/
structure Bk (bk : DataW H → Nat) (bkA : List (DataW H) → Nat) : Prop where
  str : ∀ b, bk (.lit (.string b)) = b.length + 1
  sl : ∀ e s, bk (.slice e s) = bkA e + bkA s + 1
  nil : bkA [] = 0
  cons : ∀ d r, bkA (d :: r) = bk d + bkA r
  pos : ∀ d, 1 ≤ bk d

/-- Whatever can be read at this type is so laid, and its size is at most its bulk. -/
def RdS {α : Type} (enc : TypeId × Value → H) (P : Program) (W : World) (E : Enc α) (t : TypeId) (bk : DataW H → Nat) (sz : α → Nat) : Prop :=
  ∀ fuel cs x, DataW.trod enc P W 0 (fun _ => true) true fuel t cs = some x → (x.1.weights P t).all (· ≤ reachBytes) = true → ∃ a, E.rep (ph W) a cs ∧ sz a ≤ bk x.1

theorem sum_len {α : Type} {sz : α → Nat} (h : ∀ x, 1 ≤ sz x) : ∀ (xs : List α), xs.length ≤ (xs.map sz).sum
  | [] => by simp
  | y :: ys => by
    have := sum_len h ys
    have := h y
    simp only [List.map_cons, List.sum_cons, List.length_cons]
    omega
end Go.Fw
end

section
namespace Go.Fw
theorem row_one {base : Nat} {w : World} {v : Value} {e : TypeId} {s m : Nat} {cs : List Value} (h : (Res.row v e s m cs).ok base w) : v.oneCell' = true := by
  rcases h.2 with ⟨rfl, _⟩ | ⟨b, cap, cur, rfl, _⟩ <;> rfl
theorem sl_one' {α : Type} {E : Enc α} {z : PH} {v : Value} {xs : List α} (h : Sl E z v xs) : v.oneCell' = true := by obtain ⟨_, a, c, rfl, _⟩ := h; rfl
/-- Slices, one by one. -/
def Sl2 {α : Type} (E : Enc α) (z : PH) : List Value → List (List α) → Prop
  | [], [] => True
  | v :: vs, x :: xs => Sl E z v x ∧ Sl2 E z vs xs
  | _, _ => False
theorem Sl2.get {α : Type} {E : Enc α} {z : PH} : ∀ {vs : List Value} {xs : List (List α)}, Sl2 E z vs xs → ∀ (i : Nat) (x : List α), xs[i]? = some x → ∃ v, vs[i]? = some v ∧ Sl E z v x
  | [], [], _, i, x, hx => by simp at hx
  | v :: vs, y :: xs, h, 0, x, hx => by
    simp only [List.getElem?_cons_zero, Option.some.injEq] at hx
    subst hx
    exact ⟨v, rfl, h.1⟩
  | v :: vs, y :: xs, h, i + 1, x, hx => by
    simp only [List.getElem?_cons_succ] at hx ⊢
    exact Sl2.get h.2 i x hx
end Go.Fw
end

section
namespace Go.Fw
/-! ### function values that are handed on -/
/-- A function of one number that says yes or no, and leaves all as it is. q: what its argument keeps to. -/
def Fn1 (P : Program) (w : World) (fv : Value) (q : Int → Prop) (p : Int → Bool) : Prop :=
  ∃ g fs cs, fv = .func (.func g) fs.toArray cs.toArray ∧ FnOk P g ∧ ∀ w', (ph w).le (ph w') → ∀ x, q x → Ct P g (fs ++ [vi x] ++ cs) w' (fun r _ _ => r = .bool (p x))
/-- The same, of two numbers. -/
def Fn2 (P : Program) (w : World) (fv : Value) (q : Int → Int → Prop) (p : Int → Int → Bool) : Prop :=
  ∃ g fs cs, fv = .func (.func g) fs.toArray cs.toArray ∧ FnOk P g ∧ ∀ w', (ph w).le (ph w') → ∀ x y, q x y → Ct P g (fs ++ [vi x, vi y] ++ cs) w' (fun r _ _ => r = .bool (p x y))
theorem PH.le_tr {a b c : PH} (h1 : a.le b) (h2 : b.le c) : a.le c := fun k o h => h2 k o (h1 k o h)
theorem Fn1.mono {P : Program} {w w' : World} {fv : Value} {q : Int → Prop} {p : Int → Bool} (h : Fn1 P w fv q p) (hle : (ph w).le (ph w')) : Fn1 P w' fv q p := by
  obtain ⟨g, fs, cs, h1, h2, h3⟩ := h
  exact ⟨g, fs, cs, h1, h2, fun w2 h4 => h3 w2 (PH.le_tr hle h4)⟩
theorem Fn2.mono {P : Program} {w w' : World} {fv : Value} {q : Int → Int → Prop} {p : Int → Int → Bool} (h : Fn2 P w fv q p) (hle : (ph w).le (ph w')) : Fn2 P w' fv q p := by
  obtain ⟨g, fs, cs, h1, h2, h3⟩ := h
  exact ⟨g, fs, cs, h1, h2, fun w2 h4 => h3 w2 (PH.le_tr hle h4)⟩
theorem Fn1.one {P : Program} {w : World} {fv : Value} {q : Int → Prop} {p : Int → Bool} (h : Fn1 P w fv q p) : fv.oneCell' = true := by obtain ⟨g, fs, cs, rfl, _⟩ := h; rfl
theorem Fn2.one {P : Program} {w : World} {fv : Value} {q : Int → Int → Prop} {p : Int → Int → Bool} (h : Fn2 P w fv q p) : fv.oneCell' = true := by obtain ⟨g, fs, cs, rfl, _⟩ := h; rfl

section
variable {P : Program} {n : Nat} {w0 : World} {zs : List PH} {hs : List Res} {L : List (Nat × Value)} {d : Option Tmp} {ty t : TypeId} {pos : String} {af : Array Edge} {g : Option (Nat × Bool)} {x : Operand}
end

/-! ### structs of slices and numbers -/
section
variable {P : Program} {n : Nat} {w0 : World} {zs : List PH} {hs : List Res} {L : List (Nat × Value)} {d : Option Tmp} {ty t : TypeId} {pos : String} {af : Array Edge} {g : Option (Nat × Bool)} {x : Operand} {v : Value}
end

/-! ### what a function gives that makes a slice -/
/-- A fresh slice, that stands in a zone of its own. -/
def SlR {α : Type} (E : Enc α) (xs : List α) : Value → List PH → List Res → Prop := fun r zs hs => ∃ z, Sl E z r xs ∧ zs = [z] ∧ hs = []
/-- The same, with an error behind it. -/
def SlE {α : Type} (E : Enc α) (xs : List α) (e : Int) : Value → List PH → List Res → Prop := fun r zs hs => ∃ v z, Sl E z v xs ∧ r = .tuple #[v, vi e] ∧ zs = [z] ∧ hs = []
theorem getD_mem {xs : List Int} {k : Nat} (h : k < xs.length) : xs.getD k 0 ∈ xs := by rw [List.getD_eq_getElem?_getD, List.getElem?_eq_getElem h]; exact List.getElem_mem h
/-- What a decoder of a list hands back. -/
def LsR {α : Type} (E : Enc α) (f : List α × Int × Int) (r : Value) (zs : List PH) (hs : List Res) : Prop :=
  ∃ v z, r = .tuple [v, vi f.2.1, vi f.2.2].toArray ∧ Sl E z v f.1 ∧ zs = [z] ∧ hs = []
end Go.Fw
end

section
namespace Go.Fw
section
variable {P : Program} {n : Nat} {w0 : World} {zs : List PH} {hs : List Res} {ops : Array Oper} {L L' : List (Nat × Value)} {k : Nat}
theorem wpl_andP [Dfs] {c q b0 : Bool} (g gt m g0 gt0 : Nat) {rest l : List Oper} {L1 : List (Nat × Value)} {pd : Tmp} {pt : TypeId} {pp : String} {pa : Array Edge} {x y : Operand} {Q : Exit → Act → World → Prop} {a : Act} {w : World}
    (hF : Fr n L a) (hS : St w0 zs hs w) (hgt : look L gt = some (.bool c)) (hdst : (ops[g]?).bind (·.dst) = some gt) (hl : l.drop m = ⟨some pd, .pick (.tmp gt) x y, pt, pp, pa, some (g0, b0)⟩ :: rest) (hall : grpB n L g true (l.take m) = true) (hpd : Nat.blt pd n = true) (hpg : (ops[g0]?).bind (·.dst) = some gt0) (hpv : look L gt0 = some (.bool b0))
    (hgo : c = true → Sq P n w0 zs hs ops m ((gt, .bool true) :: L) l L1 (⟨some pd, .pick (.tmp gt) x y, pt, pp, pa, some (g0, b0)⟩ :: rest)) (hx : opv L1 x = some (.bool q)) (hy : opv L y = some (.bool false))
    (K : ∀ a w, Fr n ((pd, .bool (c && q)) :: L) a → St w0 zs hs w → wpList P ops Q rest a w) : wpList P ops Q l a w := by
  have hb : dstOk n (some pd) := Nat.blt_eq.mp hpd
  cases c with
  | false =>
    refine wpl_skips (m := m) (b := true) (c := false) hdst rfl hF hgt hall fun a hF => ?_
    rw [hl]
    exact wpl_sq hF hS (sq_go gt0 hpg hpv hpd (q_pick_f hgt hy) sq_end) K
  | true =>
    have hs := hgo rfl
    have h1 : Sub L ((gt, .bool true) :: L) := fun t v hv => by
      unfold look
      cases hb : Nat.beq gt t with
      | true =>
        have : gt = t := Nat.eq_of_beq_eq_true hb
        subst this
        rw [hgt] at hv
        exact hv
      | false => simpa using hv
    have hF1 : Fr n ((gt, .bool true) :: L) a := ⟨hF.size, hF.nodef, fun t v hv => by
      unfold look at hv
      cases hb : Nat.beq gt t with
      | true =>
        have : gt = t := Nat.eq_of_beq_eq_true hb
        subst this
        simp only [hb, cond_true, Option.some.injEq] at hv
        subst hv
        exact hF.get _ _ hgt
      | false =>
        rw [hb] at hv
        exact hF.get t v hv⟩
    have hsub := sq_sub (g := g) (b := true) hs hall h1
    refine wpl_sq hF1 hS hs fun a w hF2 hS => ?_
    refine wpl_sq hF2 hS (sq_go gt0 hpg (hsub gt0 _ hpv) hpd (q_pick_t (hsub gt _ hgt) hx) sq_end) fun a w hF3 hS => K a w ?_ hS
    refine hF3.of_sub fun t v hv => ?_
    unfold look at hv ⊢
    cases hb : Nat.beq pd t with
    | true => rw [hb] at hv; simpa using hv
    | false => rw [hb] at hv; exact hsub t v hv

/-! ### the same in a region that draws its order -/
theorem wpq_andP [Dfs] {c q b0 : Bool} (g gt m g0 gt0 : Nat) {rest l : List Oper} {L1 : List (Nat × Value)} {pd : Tmp} {pt : TypeId} {pp : String} {pa : Array Edge} {x y : Operand} {Q : Act → Prop} {a : Act}
    (hF : Fr n L a) (hgt : look L gt = some (.bool c)) (hdst : (ops[g]?).bind (·.dst) = some gt) (hl : l.drop m = ⟨some pd, .pick (.tmp gt) x y, pt, pp, pa, some (g0, b0)⟩ :: rest) (hall : grpB n L g true (l.take m) = true) (hpd : Nat.blt pd n = true) (hpg : (ops[g0]?).bind (·.dst) = some gt0) (hpv : look L gt0 = some (.bool b0))
    (hgo : c = true → Sq P n w0 zs hs ops m ((gt, .bool true) :: L) l L1 (⟨some pd, .pick (.tmp gt) x y, pt, pp, pa, some (g0, b0)⟩ :: rest)) (hx : opv L1 x = some (.bool q)) (hy : opv L y = some (.bool false))
    (K : ∀ a, Fr n ((pd, .bool (c && q)) :: L) a → wpQuiet P ops (St w0 zs hs) Q rest a) : wpQuiet P ops (St w0 zs hs) Q l a := by
  have hb : dstOk n (some pd) := Nat.blt_eq.mp hpd
  cases c with
  | false =>
    refine wpq_skips (m := m) (b := true) (c := false) hdst rfl hF hgt hall fun a hF => ?_
    rw [hl]
    exact wpq_seg hF (sq_go gt0 hpg hpv hpd (q_pick_f hgt hy) sq_end) K
  | true =>
    have hs := hgo rfl
    have h1 : Sub L ((gt, .bool true) :: L) := fun t v hv => by
      unfold look
      cases hb : Nat.beq gt t with
      | true =>
        have : gt = t := Nat.eq_of_beq_eq_true hb
        subst this
        rw [hgt] at hv
        exact hv
      | false => simpa using hv
    have hF1 : Fr n ((gt, .bool true) :: L) a := ⟨hF.size, hF.nodef, fun t v hv => by
      unfold look at hv
      cases hb : Nat.beq gt t with
      | true =>
        have : gt = t := Nat.eq_of_beq_eq_true hb
        subst this
        simp only [hb, cond_true, Option.some.injEq] at hv
        subst hv
        exact hF.get _ _ hgt
      | false =>
        rw [hb] at hv
        exact hF.get t v hv⟩
    have hsub := sq_sub (g := g) (b := true) hs hall h1
    refine wpq_seg hF1 hs fun a hF2 => ?_
    refine wpq_seg hF2 (sq_go gt0 hpg (hsub gt0 _ hpv) hpd (q_pick_t (hsub gt _ hgt) hx) sq_end) fun a hF3 => K a ?_
    refine hF3.of_sub fun t v hv => ?_
    unfold look at hv ⊢
    cases hb : Nat.beq pd t with
    | true => rw [hb] at hv; simpa using hv
    | false => rw [hb] at hv; exact hsub t v hv
theorem sub_drop {L0 : List (Nat × Value)} : ∀ (K : Nat) (M : List (Nat × Value)), M.drop K = L0 → ((M.take K).all fun e => !(L0.any fun p => Nat.beq p.1 e.1)) = true → Sub L0 M
  | 0, M, h, _ => by rw [List.drop_zero] at h; subst h; exact fun t v hv => hv
  | K + 1, [], h, _ => by subst h; exact fun t v hv => hv
  | K + 1, (d, u) :: M, h, hf => by
    rw [List.take_succ_cons, List.all_cons, Bool.and_eq_true] at hf
    have ih := sub_drop K M h hf.2
    intro t v hv
    unfold look
    cases hb : Nat.beq d t with
    | true =>
      have : d = t := Nat.eq_of_beq_eq_true hb
      subst this
      have h9 := hf.1
      simp only [Bool.not_eq_true'] at h9
      rw [look_of_any hv] at h9
      cases h9
    | false => simpa using ih t v hv
theorem Fr.under [Dfs] {pd : Nat} {v : Value} {M L0 : List (Nat × Value)} {a : Act} (K : Nat) (h : Fr n ((pd, v) :: M) a) (hd : M.drop K = L0) (hf : ((M.take K).all fun e => !(L0.any fun p => Nat.beq p.1 e.1)) = true) : Fr n ((pd, v) :: L0) a :=
  h.of_sub (sub_top (sub_drop K M hd hf))

theorem wpl_orG [Dfs] {c q : Bool} (gt m : Nat) {rest l : List Oper} {L2 : List (Nat × Value)} {pd : Tmp} {pt : TypeId} {pp : String} {pa : Array Edge} {x y : Operand} {Q : Exit → Act → World → Prop} {a : Act} {w : World}
    (hF : Fr n L a) (hS : St w0 zs hs w) (hgt : look L gt = some (.bool c)) (hall : frsB L (l.take m) = true) (hpd : Nat.blt pd n = true)
    (hsk : c = true → Sq P n w0 zs hs ops m ((gt, .bool true) :: L) l L2 (⟨some pd, .pick (.tmp gt) x y, pt, pp, pa, none⟩ :: rest)) (hx : opv L2 x = some (.bool true))
    (hgo : c = false → ∀ a w, Fr n ((gt, .bool false) :: L) a → St w0 zs hs w → (∀ a w, Fr n ((pd, .bool q) :: (gt, .bool false) :: L) a → St w0 zs hs w → wpList P ops Q rest a w) → wpList P ops Q l a w)
    (K : ∀ a w, Fr n ((pd, .bool (c || q)) :: L) a → St w0 zs hs w → wpList P ops Q rest a w) : wpList P ops Q l a w := by
  cases c with
  | true =>
    have hs1 := hsk rfl
    have hsub := sq_sub2 hs1 hall (sub_pre hgt)
    exact wpl_sq (fr_pre hF hgt) hS hs1 fun a w hF2 hS => wpl_sq hF2 hS (sq hpd (q_pick_t (hsub gt _ hgt) hx) sq_end) fun a w hF3 hS => K a w (hF3.of_sub (sub_top hsub)) hS
  | false => exact hgo rfl a w (fr_pre hF hgt) hS fun a w hF hS => K a w (hF.of_sub (sub_top (sub_pre hgt))) hS
end
end Go.Fw
end

section
namespace Go.Fw
theorem take_mid {α : Type} {A cs c : List α} {j M : Nat} (hM : M ≤ A.length) (hj : j + c.length ≤ M) (h : A.take M = cs) : (A.take j ++ c ++ A.drop (j + c.length)).take M = cs.take j ++ c ++ cs.drop (j + c.length) := by
  obtain ⟨t, ht⟩ : ∃ t, t = A.drop M := ⟨_, rfl⟩
  have hA : A = cs ++ t := by rw [← h, ht, List.take_append_drop]
  have hl : cs.length = M := by rw [← h, List.length_take]; omega
  have e1 : A.take j = cs.take j := by rw [hA, List.take_append_of_le_length (by omega)]
  have e2 : A.drop (j + c.length) = cs.drop (j + c.length) ++ t := by rw [hA, List.drop_append_of_le_length (by omega)]
  have e3 : (cs.take j ++ c ++ cs.drop (j + c.length)).length = M := by simp only [List.length_append, List.length_take, List.length_drop]; omega
  rw [e1, e2, ← List.append_assoc, List.take_append_of_le_length (by omega), List.take_of_length_le (by omega)]
/-- Some cells of an own row are written. -/
theorem St.storeRow {w0 : World} {zs : List PH} {hs : List Res} {w : World} (h : St w0 zs hs w) {k : Nat} {v : Value} {e : TypeId} {s m : Nat} {cs : List Value} (hk : hs[k]? = some (.row v e s m cs)) {j : Nat} {c : List Value} (hl : j + c.length ≤ m * s) (h0 : 0 < m) :
    ∃ g cap cur, v = .slice (some ⟨g, 0, none⟩) m cap ∧ m ≤ cap ∧ w.heap[g]? = some (.cells cur e (0, 0)) ∧ j + c.length ≤ cur.size ∧ St w0 zs (hs.set k (.row v e s m (cs.take j ++ c ++ cs.drop (j + c.length)))) (w.setRow g (cur.toList.take j ++ c ++ cur.toList.drop (j + c.length)).toArray) := by
  have hown := (h.own _ (List.mem_of_getElem? hk)).1
  rcases hown.2 with ⟨_, hn⟩ | ⟨g, cap, cur, rfl, hb, hg, hnc, hcm, hcs, htake⟩
  · omega
  · have hms : m * s ≤ cap * s := Nat.mul_le_mul_right s hnc
    refine ⟨g, cap, cur, rfl, hnc, hg, by omega, ?_⟩
    refine h.set hk rfl (fun b hb => setRow_other w g b _ (fun e => hb (by rw [← e]; rfl))) ⟨?_, .inr ⟨g, cap, _, rfl, hb, setRow_heap w g cur _ e (0, 0) hg, hnc, hcm, ?_, ?_⟩⟩ (by simp) ⟨rfl, rfl, rfl⟩
    · have := hown.1
      simp only [List.length_append, List.length_take, List.length_drop]
      omega
    · simp only [List.size_toArray, List.length_append, List.length_take, List.length_drop, Array.length_toList]
      omega
    · simp only []
      exact take_mid (by rw [Array.length_toList]; omega) hl htake

section
variable {P : Program} {n : Nat} {w0 : World} {zs : List PH} {hs : List Res} {L : List (Nat × Value)} {d : Option Tmp} {ty t t' : TypeId} {pos : String} {af : Array Edge} {g : Option (Nat × Bool)}
variable {x y c : Operand} {u v : Value}
/-- A store into a row. -/
theorem ef_st_row [Dfs] {dd : TypeDesc} {by_ : Nat} {zv : Value} (ht : Tf P t dd 1 by_ zv) (k : Nat) {e : TypeId} {m j : Nat} {cs : List Value} (h1 : opv L x = some (elemPtr v (j * 1))) (h2 : opv L y = some u) (hk : hs[k]? = some (.row v e 1 m cs)) (hj : j < m) (ho : u.oneCell' = true) :
    Ef P n w0 zs hs L ⟨d, .store t x y, ty, pos, af, g⟩ (fun v' zs' hs' => v' = undef ∧ zs' = zs ∧ hs' = hs.set k (.row v e 1 m (cs.set j u))) :=
  ef_of fun a ha w hw => by
    have hc : u.cells = [u].toArray := by cases u <;> first | rfl | (simp [Value.oneCell'] at ho)
    have hlc : cs.length = m := by have := (hw.own _ (List.mem_of_getElem? hk)).1.1; omega
    obtain ⟨b, cap, cur, rfl, _, hb, hl, hS⟩ := hw.storeRow (c := [u]) hk (j := j) (by simp; omega) (by omega)
    have he : cs.take j ++ [u] ++ cs.drop (j + [u].length) = cs.set j u := by
      simp only [List.set_eq_take_append_cons_drop, if_pos (show j < cs.length by omega), List.append_assoc, List.cons_append, List.nil_append, List.length_singleton]
    rw [he] at hS
    have hr := run_storeVar (v := u) ht (b := b) (off := j) (bt := e) (cs := cur.toList) (w := w) (by simpa using hb) (by rw [hc]; rfl) (by rw [hc]; simpa using ho) (by simpa using hl)
    rw [hc] at hr
    refine ⟨undef, zs, _, _, .inr ⟨?_, rfl⟩, ⟨rfl, rfl, rfl⟩, hS⟩
    have hx : a.eval x = .pointer (some ⟨b, j, none⟩) := (ha.eval h1).trans (by simp [elemPtr, add_at])
    simp only [execOp, hx, ha.eval h2]
    simp [Instr.storeAt, Instr.sureAddr, hr]
/-- Is this slice nil? -/
def nilS : Value → Bool
  | .slice a _ _ => a.isNone
  | _ => false
theorem nilS_nil {α : Type} {E : Enc α} {z : PH} {xs : List α} (hS : Sl E z v xs) (h : nilS v = true) : xs = [] := by
  obtain ⟨_, a, cc, rfl, _, h2⟩ := hS
  cases xs with
  | nil => rfl
  | cons y ys =>
    obtain ⟨b, off, cs, ty', fz, cx, rfl, _⟩ := h2 0 y rfl
    simp [nilS] at h
theorem q_eqnil [Dfs] {α : Type} {E : Enc α} {z : PH} {xs : List α} {e : TypeId} {s by_ : Nat} {zv : Value} (ht : Tf P t (.slice e) s by_ zv) (hS : Sl E z v xs) (h1 : opv L x = some v) (h2 : opv L y = some (.slice none 0 0)) : Qt P n w0 zs hs L ⟨d, .binOp .eql t x y t', ty, pos, af, g⟩ (.bool (nilS v)) := by
  obtain ⟨_, a, cc, rfl, _, _⟩ := hS
  exact q_bin h1 h2 (fun w => by simp [eqGuard]) fun w => by
    simp only [binOp]
    simp [run_equal_slice_nil w t e a _ cc ht.und, nilS]
end
end Go.Fw
end

section
namespace Go.Fw
section
variable {P : Program} {n : Nat} {w0 : World} {zs : List PH} {hs : List Res} {L : List (Nat × Value)}
end
theorem Sl2.mono {α : Type} {E : Enc α} {z z' : PH} (h : z.le z') : ∀ {vs : List Value} {xs : List (List α)}, Sl2 E z vs xs → Sl2 E z' vs xs
  | [], [], _ => trivial
  | _ :: _, _ :: _, ⟨h1, h2⟩ => ⟨h1.mono h, h2.mono h⟩
theorem Sl2.len {α : Type} {E : Enc α} {z : PH} : ∀ {vs : List Value} {xs : List (List α)}, Sl2 E z vs xs → vs.length = xs.length
  | [], [], _ => rfl
  | _ :: _, _ :: _, ⟨_, h2⟩ => by rw [List.length_cons, List.length_cons, Sl2.len h2]
theorem Sl2.one {α : Type} {E : Enc α} {z : PH} : ∀ {vs : List Value} {xs : List (List α)}, Sl2 E z vs xs → ∀ v ∈ vs, v.oneCell' = true
  | _ :: _, _ :: _, ⟨h1, h2⟩, v, h => by
    rcases List.mem_cons.1 h with rfl | h
    · exact sl_one' h1
    · exact Sl2.one h2 v h
end Go.Fw
end

section
namespace Go.Fw
section
variable {P : Program} {n : Nat} {w0 : World} {zs : List PH} {hs : List Res} {ops : Array Oper} {L L' : List (Nat × Value)} {k : Nat}
/-- The guard of a pick is met. -/
def PkOk (ops : Array Oper) (L : List (Nat × Value)) (pg : Option (Nat × Bool)) : Prop := match pg with
  | none => True
  | some (g0, b0) => ∃ gt0, (ops[g0]?).bind (·.dst) = some gt0 ∧ look L gt0 = some (.bool b0)
theorem PkOk.sub {L1 : List (Nat × Value)} {pg : Option (Nat × Bool)} (h : PkOk ops L pg) (hs : Sub L L1) : PkOk ops L1 pg := by
  cases pg with
  | none => trivial
  | some p => obtain ⟨g0, b0⟩ := p; obtain ⟨gt0, h1, h2⟩ := h; exact ⟨gt0, h1, hs _ _ h2⟩
theorem sqp [Dfs] {d : Tmp} {op : Op} {t : TypeId} {p : String} {af : Array Edge} {v : Value} {pg : Option (Nat × Bool)} {l l' : List Oper} (hd : Nat.blt d n = true) (hpk : PkOk ops L pg)
    (q : Qt P n w0 zs hs L ⟨some d, op, t, p, af, pg⟩ v) (r : Sq P n w0 zs hs ops k ((d, v) :: L) l L' l') : Sq P n w0 zs hs ops (k + 1) L (⟨some d, op, t, p, af, pg⟩ :: l) L' l' := by
  cases pg with
  | none => exact sq hd q r
  | some g => obtain ⟨g0, b0⟩ := g; obtain ⟨gt0, h1, h2⟩ := hpk; exact sq_go gt0 h1 h2 hd q r
theorem wpq_orG [Dfs] {c q : Bool} (gt m : Nat) {rest l : List Oper} {L2 : List (Nat × Value)} {pd : Tmp} {pt : TypeId} {pp : String} {pa : Array Edge} {pg : Option (Nat × Bool)} {x y : Operand} {Q : Act → Prop} {a : Act}
    (hF : Fr n L a) (hgt : look L gt = some (.bool c)) (hall : frsB L (l.take m) = true) (hpd : Nat.blt pd n = true) (hpk : PkOk ops L pg)
    (hsk : c = true → Sq P n w0 zs hs ops m ((gt, .bool true) :: L) l L2 (⟨some pd, .pick (.tmp gt) x y, pt, pp, pa, pg⟩ :: rest)) (hx : opv L2 x = some (.bool true))
    (hgo : c = false → ∀ a, Fr n ((gt, .bool false) :: L) a → (∀ a, Fr n ((pd, .bool q) :: (gt, .bool false) :: L) a → wpQuiet P ops (St w0 zs hs) Q rest a) → wpQuiet P ops (St w0 zs hs) Q l a)
    (K : ∀ a, Fr n ((pd, .bool (c || q)) :: L) a → wpQuiet P ops (St w0 zs hs) Q rest a) : wpQuiet P ops (St w0 zs hs) Q l a := by
  cases c with
  | true =>
    have hs1 := hsk rfl
    have hsub := sq_sub2 hs1 hall (sub_pre hgt)
    exact wpq_seg (fr_pre hF hgt) hs1 fun a hF2 => wpq_seg hF2 (sqp hpd (hpk.sub hsub) (q_pick_t (hsub gt _ hgt) hx) sq_end) fun a hF3 => K a (hF3.of_sub (sub_top hsub))
  | false => exact hgo rfl a (fr_pre hF hgt) fun a hF => K a (hF.of_sub (sub_top (sub_pre hgt)))
theorem St.rowEq {w : World} {v : Value} {e : TypeId} {s m m' : Nat} {cs cs' : List Value} (h : St w0 zs (.row v e s m cs :: hs) w) (hm : m = m') (hc : cs = cs') : St w0 zs (.row v e s m' cs' :: hs) w := by subst hm; subst hc; exact h
end
end Go.Fw
end

section
namespace Go.Fw
/-- Elements of m cells, of which nothing more is told. -/
def encC (m : Nat) : Enc (List Value) where
  size := m
  rep _ x c := c = x ∧ x.length = m ∧ ∀ u ∈ x, u.oneCell' = true
  mono _ h := h
  len h := by rw [h.1, h.2.1]
  one h u hu := by rw [h.1] at hu; exact h.2.2 u hu
theorem flat_get {α : Type} {m : Nat} : ∀ {l : List (List α)} (_ : ∀ x ∈ l, x.length = m) {i : Nat} {x : List α} (_ : l[i]? = some x) (j : Nat), j < m → l.flatten[i * m + j]? = x[j]?
  | [], _, i, x, hx, j, _ => by simp at hx
  | y :: ys, h, 0, x, hx, j, hj => by
    simp only [List.getElem?_cons_zero, Option.some.injEq] at hx
    subst hx
    have := h y (by simp)
    rw [List.flatten_cons, List.getElem?_append_left (by omega), Nat.zero_mul, Nat.zero_add]
  | y :: ys, h, i + 1, x, hx, j, hj => by
    simp only [List.getElem?_cons_succ] at hx
    have hy := h y (by simp)
    have := flat_get (fun z hz => h z (by simp [hz])) hx j hj
    have e : (i + 1) * m + j = i * m + j + m := by rw [Nat.add_mul]; omega
    rw [List.flatten_cons, List.getElem?_append_right (by omega), hy, e, Nat.add_sub_cancel]
    exact this
theorem flat_len {α : Type} {m : Nat} : ∀ {l : List (List α)}, (∀ x ∈ l, x.length = m) → l.flatten.length = l.length * m
  | [], _ => by simp
  | y :: ys, h => by
    rw [List.flatten_cons, List.length_append, h y (by simp), flat_len (fun z hz => h z (by simp [hz])), List.length_cons, Nat.add_mul]
    omega
section
variable {P : Program} {n : Nat} {w0 : World} {zs : List PH} {hs : List Res} {v : Value}
end
end Go.Fw
end

section
namespace Go.Fw
def J7 [Dfs] {α0 α1 α2 α3 α4 α5 α6 : Type} (n : Nat) (w0 : World) (F : α0 → α1 → α2 → α3 → α4 → α5 → α6 → Prop) (L : α0 → α1 → α2 → α3 → α4 → α5 → α6 → List (Nat × Value)) (Z : α0 → α1 → α2 → α3 → α4 → α5 → α6 → List PH) (H : α0 → α1 → α2 → α3 → α4 → α5 → α6 → List Res) : Act → World → Prop := fun a w => ∃ (x0 : α0) (x1 : α1) (x2 : α2) (x3 : α3) (x4 : α4) (x5 : α5) (x6 : α6), F x0 x1 x2 x3 x4 x5 x6 ∧ Fr n (L x0 x1 x2 x3 x4 x5 x6) a ∧ St w0 (Z x0 x1 x2 x3 x4 x5 x6) (H x0 x1 x2 x3 x4 x5 x6) w
def J8 [Dfs] {α0 α1 α2 α3 α4 α5 α6 α7 : Type} (n : Nat) (w0 : World) (F : α0 → α1 → α2 → α3 → α4 → α5 → α6 → α7 → Prop) (L : α0 → α1 → α2 → α3 → α4 → α5 → α6 → α7 → List (Nat × Value)) (Z : α0 → α1 → α2 → α3 → α4 → α5 → α6 → α7 → List PH) (H : α0 → α1 → α2 → α3 → α4 → α5 → α6 → α7 → List Res) : Act → World → Prop := fun a w => ∃ (x0 : α0) (x1 : α1) (x2 : α2) (x3 : α3) (x4 : α4) (x5 : α5) (x6 : α6) (x7 : α7), F x0 x1 x2 x3 x4 x5 x6 x7 ∧ Fr n (L x0 x1 x2 x3 x4 x5 x6 x7) a ∧ St w0 (Z x0 x1 x2 x3 x4 x5 x6 x7) (H x0 x1 x2 x3 x4 x5 x6 x7) w
def J9 [Dfs] {α0 α1 α2 α3 α4 α5 α6 α7 α8 : Type} (n : Nat) (w0 : World) (F : α0 → α1 → α2 → α3 → α4 → α5 → α6 → α7 → α8 → Prop) (L : α0 → α1 → α2 → α3 → α4 → α5 → α6 → α7 → α8 → List (Nat × Value)) (Z : α0 → α1 → α2 → α3 → α4 → α5 → α6 → α7 → α8 → List PH) (H : α0 → α1 → α2 → α3 → α4 → α5 → α6 → α7 → α8 → List Res) : Act → World → Prop := fun a w => ∃ (x0 : α0) (x1 : α1) (x2 : α2) (x3 : α3) (x4 : α4) (x5 : α5) (x6 : α6) (x7 : α7) (x8 : α8), F x0 x1 x2 x3 x4 x5 x6 x7 x8 ∧ Fr n (L x0 x1 x2 x3 x4 x5 x6 x7 x8) a ∧ St w0 (Z x0 x1 x2 x3 x4 x5 x6 x7 x8) (H x0 x1 x2 x3 x4 x5 x6 x7 x8) w
section
variable {P : Program} {n : Nat} {w0 : World} {zs : List PH} {hs : List Res} {L : List (Nat × Value)} {d : Option Tmp} {ty t : TypeId} {pos : String} {af : Array Edge} {g : Option (Nat × Bool)} {x y : Operand} {v : Value}
end
end Go.Fw
end

section
namespace Go.Fw
open Go Go.Sem
section
variable {P : Program} {n : Nat} {w0 : World} {zs : List PH} {hs : List Res} {L : List (Nat × Value)} {d : Option Tmp} {ty t : TypeId} {pos : String} {af : Array Edge} {g : Option (Nat × Bool)} {x : Operand} {v : Value}
theorem flat_take {α : Type} {m : Nat} {l : List (List α)} (hl : ∀ x ∈ l, x.length = m) {j : Nat} (hj : j < l.length) : (l.flatten.drop (j * m)).take m = l.getD j [] := by
  have hx : l[j]? = some l[j] := by simp [hj]
  have hm : l[j].length = m := hl _ (List.getElem_mem hj)
  have hfl := flat_len hl
  have hjm : j * m + m ≤ l.length * m := by
    have := Nat.mul_le_mul_right m (show j + 1 ≤ l.length from hj)
    rwa [Nat.add_mul, Nat.one_mul] at this
  rw [List.getD_eq_getElem?_getD, hx]
  show _ = l[j]
  apply List.ext_getElem?
  intro i
  rw [List.getElem?_take]
  split
  · rw [List.getElem?_drop, flat_get hl hx i ‹_›]
  · rw [List.getElem?_eq_none (by omega)]
/-- An element of several cells of an own row. -/
theorem q_ld_rowC [Dfs] {e' : TypeId} {m size : Nat} {dd : TypeDesc} {by_ : Nat} {zv : Value} (ht : Tf P t dd size by_ zv) (k : Nat) (l : List (List Value)) (j : Nat) (hk : hs[k]? = some (.row v e' size m l.flatten)) (hl : ∀ x ∈ l, x.length = size) (h1 : opv L x = some (elemPtr v (j * size))) (hj : j < l.length) (h0 : 0 < size) (hd : aggD dd = true) :
    Qt P n w0 zs hs L ⟨d, .load t x, ty, pos, af, g⟩ (.agg (l.getD j []).toArray) :=
  qt_of fun a ha w hw => by
    have hown := (hw.own _ (List.mem_of_getElem? hk)).1
    have hft := flat_take hl hj
    have hfl := flat_len hl
    have hjm : j * size + size ≤ l.length * size := by
      have := Nat.mul_le_mul_right size (show j + 1 ≤ l.length from hj)
      rwa [Nat.add_mul, Nat.one_mul] at this
    rcases hown.2 with ⟨rfl, rfl⟩ | ⟨b, cap, cur, rfl, hb, hg, hnc, hcm, hcs, htake⟩
    · have := hown.1
      omega
    · have hsz : cur.toList.length = cur.size := by simp
      have hcl : l.flatten.length ≤ cur.size := by rw [← htake, List.length_take]; omega
      have he : a.eval x = .pointer (some ⟨b, 0 + j * size, none⟩) := (ha.eval h1).trans (by simp [elemPtr, add_at])
      rw [Nat.zero_add] at he
      have hr := run_loadA ht hd (off := j * size) hg (by omega)
      have e2 : (cur.toList.drop (j * size)).take size = l.getD j [] := by
        rw [← hft, ← htake, List.drop_take, List.take_take]
        have h9 : l.flatten.length = m * size := hown.1
        have h10 : j * size + size ≤ m * size := by omega
        congr 1
        omega
      simp only [execOp, he]
      simp [Instr.loadAt, Instr.sureAddr, hr, e2]
end
end Go.Fw
end

section
namespace Go.Fw
open Go Go.Sem
section
variable {P : Program} {n : Nat} {w0 : World} {zs : List PH} {hs : List Res} {L : List (Nat × Value)} {d : Option Tmp} {ty t : TypeId} {pos : String} {af : Array Edge} {g : Option (Nat × Bool)} {x y : Operand} {v : Value}
/-- make([]T, m), whose elements are of one cell. -/
theorem ef_mks [Dfs] {e : TypeId} {s by_ : Nat} {zv : Value} (ht : Tf P t (.slice e) s by_ zv) {de : TypeDesc} {be : Nat} {ze : Value} (hte : Tf P e de 1 be ze) {m : Nat} (h1 : opv L x = some (vi (m : Int))) (h2 : opv L y = some (vi (m : Int))) (hb : be * m ≤ 140737488355328) (hm : m ≤ 140737488355328) (ho : ze.oneCell' = true) :
    Ef P n w0 zs hs L ⟨d, .makeSlice t x y, ty, pos, af, g⟩ (fun v zs' hs' => zs' = zs ∧ hs' = .row v e 1 m (List.replicate m ze) :: hs) :=
  ef_of fun a ha w hw => by
    have hst := hw.newRow e (List.replicate m ze) 1 m m (by simp) (Nat.le_refl _) (by unfold maxLen; omega)
    rw [List.take_of_length_le (by simp)] at hst
    refine ⟨_, zs, _, _, .inl ?_, ⟨rfl, rfl⟩, hst⟩
    have hc : ze.cells = #[ze] := by cases ze <;> first | rfl | (simp [Value.oneCell'] at ho)
    obtain ⟨i, hi, hi1, hi2, hi3⟩ := hte.tinfo w
    have hw1 : IntKind.i64.wrap (m : Int) = m := by
      simp [IntKind.wrap, IntKind.bits, IntKind.signed]
      omega
    have hbm : ((be : Int) * (m : Int)) = ((be * m : Nat) : Int) := by simp
    have hbig : ¬ ((m : Int) < 0 ∨ (i.bytes : Int) * m > 2 ^ 48) := by rw [hi2, hbm]; omega
    simp only [execOp, ha.eval h1, ha.eval h2]
    have hr : (Instr.makeSlice t (vi m) (vi m)).run P w = .ok (.slice (some ⟨w.heap.size, 0, none⟩) m m) { w with heap := w.heap.push (.cells (List.replicate m ze).toArray e (0, 0)) } := by
      unfold Instr.makeSlice
      rw [Sem.run_bind, run_underlying ht.und]
      simp only [Result.andThen_ok]
      have ha : (asIntOf (vi (m : Int))).run P w = .ok (.i64, (m : Int)) w := by simp [asIntOf, vi]
      simp only [asInt, Sem.run_bind, Sem.run_map, ha, Sem.run_pure, Result.andThen_ok, hi, hw1]
      have hroom : ¬ ((m : Int).toNat * i.bytes > roomBytes) := by
        rw [hi2, Int.toNat_natCast, Nat.mul_comm]
        unfold roomBytes
        omega
      have hd : (decide ((m : Int) < 0) || decide ((i.bytes : Int) * m > 2 ^ 48)) = false := by
        simpa using hbig
      have hd2 : ¬ ((m : Int) < 0) := by omega
      simp only [hd, hd2, Bool.false_eq_true, false_or, gt_iff_lt, Int.lt_irrefl, if_false, decide_false, Bool.false_or, or_self, if_neg, not_false_eq_true, Sem.run_bind, Sem.run_pure, Result.andThen_ok]
      unfold askRoom
      rw [if_neg hroom]
      simp only [Sem.run_bind, Sem.run_pure, Result.andThen_ok, hte.sizeOf, Nat.mul_one, Int.toNat_natCast]
      by_cases h0 : m = 0
      · subst h0
        have e0 : ∀ f : Nat → Value, Array.map f (Array.range 0) = #[] := fun f => Array.eq_empty_of_size_eq_zero (by simp)
        simp [newRow, e0, hte.sizeOf]
      · have hlt : decide ((2 : Int) ^ 48 < (i.bytes : Int) * m) = false := by
          rw [decide_eq_false_iff_not]
          omega
        rw [if_neg (by rw [hlt]; decide)]
        simp only [Sem.run_bind, Sem.run_pure, Result.andThen_ok, hte.sizeOf, Nat.mul_one]
        rw [if_neg h0]
        simp only [Sem.run_bind, Sem.run_pure, hte.zero, Result.andThen_ok, hc]
        have e0 : Array.map (fun x => #[ze][x % #[ze].size]!) (Array.range m) = (List.replicate m ze).toArray := by
          apply Array.ext'
          apply List.ext_getElem (by simp)
          intro j h1 h2
          simp [Nat.mod_one]
        rw [e0]
        simp [newRow]
    rw [Sem.run_bind, hr]
    rfl
/-- A struct or its zero, some of whose fields are given. -/
theorem q_buildP [Dfs] {fs : List Field} {s by_ : Nat} {zv : Value} (ht : Tf P t (.struct fs.toArray) s by_ zv) {places : List (Nat × Nat)} (hp : (fs.mapM fun f => (P.info? f.type).map fun i => (f.offset, i.size)) = some places) {parts : Array (Nat × Operand)} {vs cells : List Value} (h1 : opvs L (parts.toList.map (·.2)) = some vs)
    (hf : Instr.fill (places.toArray[·]?) zv.cells (List.zip (parts.toList.map (·.1)) vs) = some cells.toArray) :
    Qt P n w0 zs hs L ⟨d, .build t parts, ty, pos, af, g⟩ (.agg cells.toArray) :=
  q_build (opvs_mapM _ _ h1) (run_build_struct ht hp hf)
end
/-! ### lattices as elements -/
def encL : Enc (List (List Value) × List Int × List Bool) where
  size := 3
  rep z x c := ∃ nv sv bv, c = [nv, sv, bv] ∧ Sl (encC 2) z nv x.1 ∧ Sl encI z sv x.2.1 ∧ Sl encT z bv x.2.2
  mono hz h := by obtain ⟨nv, sv, bv, h1, h2, h3, h4⟩ := h; exact ⟨nv, sv, bv, h1, h2.mono hz, h3.mono hz, h4.mono hz⟩
  len h := by obtain ⟨nv, sv, bv, h1, _⟩ := h; rw [h1]; rfl
  one h u hu := by
    obtain ⟨nv, sv, bv, h1, h2, h3, h4⟩ := h
    rw [h1] at hu
    simp only [List.mem_cons, List.not_mem_nil, or_false] at hu
    rcases hu with rfl | rfl | rfl
    · exact sl_one' h2
    · exact sl_one' h3
    · exact sl_one' h4
section
variable {P : Program} {n : Nat} {w0 : World} {zs : List PH} {hs : List Res} {L : List (Nat × Value)} {d : Option Tmp} {ty t : TypeId} {pos : String} {af : Array Edge} {g : Option (Nat × Bool)} {x y : Operand} {v : Value}
end
section
variable {P : Program} {n : Nat} {w0 : World} {zs : List PH} {hs : List Res} {L : List (Nat × Value)} {d : Option Tmp} {ty t : TypeId} {pos : String} {af : Array Edge} {g : Option (Nat × Bool)} {x y : Operand} {v : Value}
end
/-- Lattices, one by one. -/
def L2 (z : PH) : List (List Value) → List (List (List Value) × List Int × List Bool) → Prop
  | [], [] => True
  | c :: cs, x :: xs => encL.rep z x c ∧ L2 z cs xs
  | _, _ => False
theorem L2.get {z : PH} : ∀ {cs : List (List Value)} {xs : List (List (List Value) × List Int × List Bool)}, L2 z cs xs → ∀ (i : Nat) (x : List (List Value) × List Int × List Bool), xs[i]? = some x → ∃ c, cs[i]? = some c ∧ encL.rep z x c
  | [], [], _, i, x, hx => by simp at hx
  | v :: vs, y :: xs, h, 0, x, hx => by
    simp only [List.getElem?_cons_zero, Option.some.injEq] at hx
    subst hx
    exact ⟨v, rfl, h.1⟩
  | v :: vs, y :: xs, h, i + 1, x, hx => by
    simp only [List.getElem?_cons_succ] at hx ⊢
    exact L2.get h.2 i x hx
theorem L2.all {z : PH} : ∀ {cs : List (List Value)} {xs : List (List (List Value) × List Int × List Bool)}, L2 z cs xs → ∀ c ∈ cs, c.length = 3
  | [], [], _, c, hc => by cases hc
  | v :: vs, y :: xs, h, c, hc => by
    rcases List.mem_cons.1 hc with rfl | hc
    · exact encL.len h.1
    · exact L2.all h.2 c hc
end Go.Fw
end

section
/-! short words for the walks -/
namespace Go.Fw
theorem bQ {p : Prop} (h : p := by first | omega | (rw [List.length_map]; omega) | (simp; omega) | (simp [*]; done) | decide | (simp [*]; omega)) : p := h
theorem kQ {p : Prop} (h : p := by kernel_rfl) : p := h
theorem iQ {p q : Prop} (h : p := by kernel_rfl) : p ∨ q := .inl h
theorem oQ {vs : List Value} (h : ∀ v ∈ vs, v.oneCell' = true := by first | ((repeat first | ((with_reducible refine oc_map ?_); intro _; rfl) | (with_reducible refine oc_app ?_ ?_) | ((with_reducible refine oc_cons ?_ ?_); rfl) | (with_reducible exact oc_nil) | ((with_reducible refine oc_rep ?_); rfl)); done) | (simp [Value.oneCell']; done) | (simp; decide)) : ∀ v ∈ vs, v.oneCell' = true := h
theorem zQ {α : Type} {l : List α} : [].Sublist l := List.nil_sublist _
theorem sQ {α : Type} {l : List α} : l.Sublist l := List.Sublist.refl _
theorem _root_.List.Sublist.k {α : Type} {x : α} {l m : List α} (h : l.Sublist m) : (x :: l).Sublist (x :: m) := h.cons_cons x
theorem _root_.List.Sublist.n {α : Type} {x : α} {l m : List α} (h : l.Sublist m) : l.Sublist (x :: m) := h.cons x
theorem St.k0 {w0 w : World} {zs : List PH} {hs : List Res} (h : St w0 zs hs w) : St w0 [] [] w := h.keep zQ zQ
theorem St.k1 {w0 w : World} {zs : List PH} {hs hs' : List Res} (h : St w0 zs hs w) (h2 : hs'.Sublist hs) : St w0 [] hs' w := h.keep zQ h2
section
variable {P : Program} {J : Act → World → Prop} {n : Nat} {w0 : World} {L : List (Nat × Value)}
/-- One operation that is ready, and writes. -/
theorem gQ [Dfs] {l : List Oper} {f : Nat} {W : Wt} {ls : Array Bool} {a : Act} {w : World} (i : Nat) {ls' : Array Bool} {d : Option Tmp} {op : Op} {ty : TypeId} {pos : String} {af : Array Edge} {zs : List PH} {hs : List Res} {K : Value → List PH → List Res → Prop}
    (hi : l[i]? = some ⟨d, op, ty, pos, af, none⟩) (hls : ls.setIfInBounds i true = ls') (hF : Fr n L a) (hS : St w0 zs hs w) (hd : (match d with | some k => Nat.blt k n | none => true) = true) (e : Ef P n w0 zs hs L ⟨d, op, ty, pos, af, none⟩ K)
    (h : ∀ v zs' hs' a w, K v zs' hs' → Fr n (upL d v L) a → St w0 zs' hs' w → Held .any l.toArray ls' w [] W ∧ GoW P l.toArray J f W ls' a w) (hr : Region.ready .any l.toArray ls = [i] := by kernel_rfl) : GoW P l.toArray J (f + 1) W ls a w :=
  goW_fork [i] hr rfl ⟨stepW_ef ls' hi hls hF hS hd e h, trivial⟩
end
end Go.Fw
end
