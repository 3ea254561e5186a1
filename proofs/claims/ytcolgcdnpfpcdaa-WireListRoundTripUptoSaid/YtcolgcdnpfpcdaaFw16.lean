/- A text of a proof over this seat: walks over the program's functions and the plain laws that they need. -/
import Derived.Test.YtcolgcdnpfpcdaaFw15
import Derived.Below
import Derived.Carry
import Derived.OpenShut
import Derived.WalkKit
import Derived.ProofKit
import Derived.Deep.DeepHandedRow
import Derived.Lib.LaidTab
import Derived.Stop.LaidErr
set_option linter.all false
namespace Go.Fw
open Go.ChangeShapes Go.WideShapes Go.ChangeAt Go.RowKit

theorem St.below {W W' : World} {zs : List PH} {hs : List Res} (h : St W zs hs W') : Below W.heap.size W W' :=
  ⟨h.io.os, h.io.tape, h.io.output, le_size h.ext, fun _ hk => le_eq h.ext hk⟩

section
variable {H : Type} {enc : TypeId × Value → H} {P : Program}

theorem stays_all (hl : laidOutB P = true) {W W' : World} (hb : Below W.heap.size W W') : ∀ {ts : List TypeId} {vs : List Value} {ds : List (DataW H)} {ps : List MemPlace}, (ts.all fun t => P.readableRec t && decide (t < P.types.size)) = true →
    DataW.TrodAll enc P W 0 (fun _ => true) true ts vs ds ps → (∀ x ∈ ps, x.block < W.heap.size) → DataW.TrodAll enc P W' 0 (fun b => decide (b < W.heap.size)) true ts vs ds ps
  | [], [], [], _, _, h, _ => h
  | t :: ts, v :: vs, d :: ds, _, hT, ⟨p, q, h1, h2, e⟩, hs => by
    subst e
    simp only [List.all_cons, Bool.and_eq_true, decide_eq_true_eq] at hT
    exact ⟨p, q, Below.trod hl hT.1.1 hT.1.2 h1 hb fun x hx => hs x (List.mem_append_left _ hx), stays_all hl hb hT.2 h2 fun x hx => hs x (List.mem_append_right _ hx), rfl⟩

/-- The end of a law's row: it returned true, and nothing that was there has turned. -/
theorem law_post {f : Func} {s : ChangeSpec} {W W' : World} {args : Array Value} {ds gs : List (DataW H)} {before : List MemPlace} {zs : List PH} {hs : List Res} {tb : TypeId}
    (hl : laidOutB P = true) (hT : (f.params.toList.all fun t => P.readableRec t && decide (t < P.types.size)) = true) (hr : f.resultTypes = #[tb]) (htb : P.underlying tb = some .bool)
    (hv : s.vars = []) (hfn : s.fn H (ds ++ gs) = { results := [.lit (.bool true)], args := ds })
    (hW : DataW.Whole enc P f.params.toList s.vars false W args.toList ds gs before) (hS : St W zs hs W') :
    s.post enc P f false true false false W args (.bool true) W' := by
  have hb := hS.below
  have hW' := hW
  have hlt := hW.lt
  obtain ⟨p, q, hA, hV, rfl, hfz, hnd⟩ := hW
  refine ⟨ds, gs, _, [], p, q, hW', ?_, ?_, ?_, hb.frame _, fun h => by cases h⟩
  · rw [hr, hfn]
    exact trodAll_cons_mk (shut_bool htb true) trodAll_mk0
  · rw [hfn]
    exact stays_all hl hb hT hA fun x hx => hlt x (List.mem_append_left _ hx)
  · rw [hv] at hV ⊢
    rw [hfn]
    obtain ⟨rfl, rfl⟩ := trodVars_none hV
    exact rfl

/-! ### what an argument reads as -/
/-- Whatever can be read at this type is so laid. -/
def Rd {α : Type} (enc : TypeId × Value → H) (P : Program) (W : World) (E : Enc α) (t : TypeId) : Prop :=
  ∀ fuel cs x, DataW.trod enc P W 0 (fun _ => true) true fuel t cs = some x → (x.1.weights P t).all (· ≤ reachBytes) = true → ∃ a, E.rep (ph W) a cs

variable {W : World} {t e : TypeId}

theorem wf_i64 {n : Int} (h : (Lit.int .i64 n).wf = true) : -9223372036854775808 ≤ n ∧ n ≤ 9223372036854775807 := by
  simpa [Lit.wf, IntKind.min, IntKind.max, IntKind.signed, IntKind.bits] using h
theorem wf_u8 {n : Int} (h : (Lit.int .u8 n).wf = true) : 0 ≤ n ∧ n ≤ 255 := by
  simpa [Lit.wf, IntKind.min, IntKind.max, IntKind.signed, IntKind.bits] using h
theorem wf_u32 {n : Int} (h : (Lit.int .u32 n).wf = true) : 0 ≤ n ∧ n ≤ 4294967295 := by
  simpa [Lit.wf, IntKind.min, IntKind.max, IntKind.signed, IntKind.bits] using h
theorem vb_of {n : Int} (h : 0 ≤ n ∧ n ≤ 255) : Value.int .u8 n = vb (UInt8.ofNat n.toNat) := by
  have : (UInt8.ofNat n.toNat).toNat = n.toNat := by rw [UInt8.toNat_ofNat']; exact Nat.mod_eq_of_lt (by omega)
  show _ = Value.int .u8 ((UInt8.ofNat n.toNat).toNat : Int)
  rw [this]
  congr 1
  omega

theorem rd_I (ht : P.underlying t = some (.int .i64)) : Rd enc P W encI t := fun _ _ _ h _ => by
  obtain ⟨n, rfl, _, hw⟩ := DataW.trod_int ht h
  exact ⟨n, rfl, wf_i64 hw⟩
theorem rd_B (ht : P.underlying t = some (.int .u8)) : Rd enc P W encB t := fun _ _ _ h _ => by
  obtain ⟨n, rfl, _, hw⟩ := DataW.trod_int ht h
  exact ⟨_, by rw [vb_of (wf_u8 hw)], trivial⟩
theorem rd_T (ht : P.underlying t = some .bool) : Rd enc P W encT t := fun _ _ _ h _ => by
  obtain ⟨b, rfl, _⟩ := DataW.trod_bool ht h
  exact ⟨b, rfl, trivial⟩
theorem rd_S (ht : P.underlying t = some .string) : Rd enc P W encS t := fun _ _ x h hw => by
  obtain ⟨s, rfl, rfl, _⟩ := DataW.trod_string ht h
  refine ⟨s.data.toList, rfl, ?_⟩
  simp only [DataW.weights, List.all_cons, List.all_nil, Bool.and_true, decide_eq_true_eq] at hw
  unfold reachBytes at hw
  omega

theorem choose_list {α : Type} (Q : Nat → α → Prop) : ∀ (n : Nat), (∀ i, i < n → ∃ x, Q i x) → ∃ xs : List α, xs.length = n ∧ ∀ i x, xs[i]? = some x → Q i x
  | 0, _ => ⟨[], rfl, fun i x h => by simp at h⟩
  | n + 1, h => by
    obtain ⟨xs, h1, h2⟩ := choose_list Q n fun i hi => h i (by omega)
    obtain ⟨x, hx⟩ := h n (by omega)
    refine ⟨xs ++ [x], by simp [h1], fun i y hy => ?_⟩
    rcases Nat.lt_or_ge i n with hi | hi
    · rw [List.getElem?_append_left (by omega)] at hy
      exact h2 i y hy
    · have hi' : i < n + 1 := by have := (List.getElem?_eq_some_iff.1 hy).1; simp at this; omega
      obtain rfl : i = n := by omega
      rw [List.getElem?_append_right (by omega), h1, Nat.sub_self] at hy
      simp only [List.getElem?_cons_zero, Option.some.injEq] at hy
      exact hy ▸ hx

theorem weightsAll_mem {ds : List (DataW H)} {d : DataW H} (hd : d ∈ ds) (h : (DataW.weightsAll P e ds).all (· ≤ reachBytes) = true) : (d.weights P e).all (· ≤ reachBytes) = true := by
  induction ds with
  | nil => cases hd
  | cons x ds ih =>
    simp only [DataW.weightsAll, List.all_append, Bool.and_eq_true] at h
    rcases List.mem_cons.1 hd with rfl | hd
    · exact h.1
    · exact ih hd h.2

theorem sl_of_trod {α : Type} {E : Enc α} (ht : P.underlying t = some (.slice e)) (hc : P.cellsOf e = E.size) (h0 : 0 < E.size) (hb : 0 < P.bytesOf e) (hE : Rd enc P W E e) {fuel : Nat} {cs : List Value} {x : DataW H × List MemPlace}
    (h : DataW.trod enc P W 0 (fun _ => true) true fuel t cs = some x) (hw : (x.1.weights P t).all (· ≤ reachBytes) = true) : ∃ v xs, cs = [v] ∧ Sl E (ph W) v xs := by
  rcases DataW.trod_slice ht h with ⟨rfl, rfl⟩ | ⟨a, len, cap, elems, rest, n, rfl, rfl, rfl, _, hlc, _, hle, hel, _, _⟩
  · exact ⟨_, [], rfl, by simp, none, 0, rfl, Nat.le_refl _, fun i x h => by simp at h⟩
  · simp only [DataW.weights, ht, List.all_cons, List.all_append, Bool.and_eq_true, decide_eq_true_eq, List.length_map] at hw
    obtain ⟨hw1, hw2, hw3⟩ := hw
    have hlen : len ≤ 140737488355328 := by
      unfold reachBytes at hw1
      have : elems.length + rest.length ≤ (elems.length + rest.length) * P.bytesOf e := Nat.le_mul_of_pos_right _ hb
      omega
    have hsp : 0 < len → ∃ b off cs' ty fz, a = ⟨b, off, none⟩ ∧ W.heap[b]? = some (.cells cs' ty fz) := by
      intro hi
      have h1 := hel 0 hi
      rw [List.getElem?_eq_getElem (by omega), Option.bind_eq_some_iff] at h1
      obtain ⟨cx, h2, h3⟩ := h1
      obtain ⟨_, hl, hcells⟩ := World.cells?_some h2
      rw [hc] at hl hcells
      have hz := hcells 0 (by omega)
      rw [List.getElem?_eq_getElem (by omega)] at hz
      obtain ⟨b, off, spot⟩ := a
      simp only [Nat.zero_mul, Addr.add, if_true, World.cell?] at hz
      split at hz
      · rename_i c1 t1 f1 hh
        cases spot with
        | none => exact ⟨b, off, c1, t1, f1, rfl, hh⟩
        | some s => simp at hz
      · cases hz
    have each : ∀ i, i < len → ∃ y, ∃ b off cs' ty fz cx, some a = some ⟨b, off, none⟩ ∧ ph W b = some (.cells cs' ty fz) ∧ E.rep (ph W) y cx ∧ ∀ j u, cx[j]? = some u → cs'[off + i * E.size + j]? = some u := by
      intro i hi
      obtain ⟨b, off, cs', ty, fz, rfl, hh⟩ := hsp (by omega)
      have h1 := hel i hi
      rw [List.getElem?_eq_getElem (by omega), Option.bind_eq_some_iff] at h1
      obtain ⟨cx, h2, h3⟩ := h1
      have hwi := weightsAll_mem (d := (elems[i]'(by omega)).1) (List.mem_map.2 ⟨_, List.getElem_mem _, rfl⟩) hw2
      obtain ⟨y, hy⟩ := hE _ _ _ h3 hwi
      obtain ⟨_, hl, hcells⟩ := World.cells?_some h2
      rw [hc] at hl hcells
      refine ⟨y, b, off, cs', ty, fz, cx, rfl, hh, hy, fun j u hj => ?_⟩
      have hjl : j < E.size := by have := (List.getElem?_eq_some_iff.1 hj).1; omega
      have h4 := hcells j hjl
      rw [hj, add_at, add_at, cell_of_row W b _ cs' ty fz hh] at h4
      exact h4
    obtain ⟨xs, hxl, hxs⟩ := choose_list _ len each
    subst hxl
    exact ⟨_, xs, rfl, hlen, some a, cap, rfl, hlc, fun i x hx => hxs i x hx⟩

theorem rd_sl {α : Type} {E : Enc α} (ht : P.underlying t = some (.slice e)) (hc : P.cellsOf e = E.size) (h0 : 0 < E.size) (hb : 0 < P.bytesOf e) (hE : Rd enc P W E e) : Rd enc P W (encSl E) t := fun _ _ _ h hw => by
  obtain ⟨v, xs, rfl, hs⟩ := sl_of_trod ht hc h0 hb hE h hw
  exact ⟨xs, v, rfl, hs⟩

/-! ### the arguments themselves -/
theorem arg_sl {α : Type} {E : Enc α} {base : Nat} {v : Value} {d : DataW H} {p : List MemPlace} (ht : P.underlying t = some (.slice e)) (hc : P.cellsOf e = E.size) (h0 : 0 < E.size) (hb : 0 < P.bytesOf e) (hE : Rd enc P W E e)
    (hv : Value.okWide P W .any base t v) (h : DataW.Trod enc P W 0 (fun _ => true) true t v d p) (hw : (d.weights P t).all (· ≤ reachBytes) = true) : ∃ xs, Sl E (ph W) v xs := by
  obtain ⟨a, len, cap, rfl⟩ := okWide_slice ht hv
  obtain ⟨fuel, hf⟩ := h
  obtain ⟨v, xs, hcs, hs⟩ := sl_of_trod ht hc h0 hb hE hf hw
  simp only [Value.cells] at hcs
  obtain rfl : Value.slice a len cap = v := by simpa using hcs
  exact ⟨xs, hs⟩
theorem arg_s {base : Nat} {v : Value} {d : DataW H} {p : List MemPlace} (ht : P.underlying t = some .string) (hv : Value.okWide P W .any base t v) (h : DataW.Trod enc P W 0 (fun _ => true) true t v d p) (hw : (d.weights P t).all (· ≤ reachBytes) = true) :
    ∃ s : List UInt8, v = vs s ∧ s.length ≤ 140737488355328 := by
  obtain ⟨s, rfl⟩ := okWide_string ht hv
  obtain ⟨fuel, hf⟩ := h
  obtain ⟨s', hcs, hdp, _⟩ := DataW.trod_string ht hf
  obtain ⟨rfl, rfl⟩ := Prod.mk.inj hdp
  obtain rfl : s = s' := by simpa [Value.cells] using hcs
  simp only [DataW.weights, List.all_cons, List.all_nil, Bool.and_true, decide_eq_true_eq] at hw
  unfold reachBytes at hw
  exact ⟨s.data.toList, rfl, by omega⟩
theorem arg_i {base : Nat} {v : Value} {d : DataW H} {p : List MemPlace} (ht : P.underlying t = some (.int .i64)) (hv : Value.okWide P W .any base t v) (h : DataW.Trod enc P W 0 (fun _ => true) true t v d p) :
    ∃ n : Int, v = vi n ∧ -9223372036854775808 ≤ n ∧ n ≤ 9223372036854775807 := by
  obtain ⟨n, rfl⟩ := okWide_int ht hv
  obtain ⟨fuel, hf⟩ := h
  obtain ⟨n', hcs, _, hw⟩ := DataW.trod_int ht hf
  obtain rfl : n = n' := by simpa [Value.cells] using hcs
  exact ⟨n, rfl, wf_i64 hw⟩
theorem arg_b {base : Nat} {v : Value} {d : DataW H} {p : List MemPlace} (ht : P.underlying t = some (.int .u8)) (hv : Value.okWide P W .any base t v) (h : DataW.Trod enc P W 0 (fun _ => true) true t v d p) :
    ∃ n : UInt8, v = vb n := by
  obtain ⟨n, rfl⟩ := okWide_int ht hv
  obtain ⟨fuel, hf⟩ := h
  obtain ⟨n', hcs, _, hw⟩ := DataW.trod_int ht hf
  obtain rfl : n = n' := by simpa [Value.cells] using hcs
  exact ⟨_, vb_of (wf_u8 hw)⟩
theorem arg_t {base : Nat} {v : Value} {d : DataW H} {p : List MemPlace} (ht : P.underlying t = some .bool) (hv : Value.okWide P W .any base t v) (h : DataW.Trod enc P W 0 (fun _ => true) true t v d p) :
    ∃ b : Bool, v = vt b := by
  obtain ⟨b, rfl, _⟩ := open_bool ht hv h
  exact ⟨b, rfl⟩
theorem arg_ab {base m : Nat} {v : Value} {d : DataW H} {p : List MemPlace} (ht : P.underlying t = some (.array m e)) (he : P.underlying e = some (.int .u8)) (hce : P.cellsOf e = 1) (hct : P.cellsOf t = m) (hv : Value.okWide P W .any base t v) (h : DataW.Trod enc P W 0 (fun _ => true) true t v d p) :
    ∃ xs : List UInt8, v = .agg (xs.map vb).toArray ∧ xs.length = m := by
  have : ∃ cs, v = .agg cs := by
    unfold Value.okWide at hv
    rw [ht] at hv
    obtain ⟨cs, rfl, _⟩ := hv
    exact ⟨cs, rfl⟩
  obtain ⟨cs, rfl⟩ := this
  obtain ⟨fuel, hf⟩ := h
  obtain ⟨xs, n, rfl, _, hl, hxl, hx⟩ := DataW.trod_array ht hf
  rw [hct] at hl
  rw [hce] at hx
  have hcl : cs.toList.length = m := hl
  have each : ∀ i, i < m → ∃ b : UInt8, cs.toList[i]? = some (vb b) := by
    intro i hi
    have h1 := hx i hi
    rw [List.getElem?_eq_getElem (by omega)] at h1
    obtain ⟨n', hcs, _, hw⟩ := DataW.trod_int he h1
    refine ⟨UInt8.ofNat n'.toNat, ?_⟩
    rw [← vb_of (wf_u8 hw)]
    have := congrArg (·[0]?) hcs
    simp only [Value.cells, Array.getElem?_toList, List.getElem?_take, List.getElem?_drop, Nat.mul_one, Nat.add_zero, List.getElem?_cons_zero, if_pos Nat.zero_lt_one] at this ⊢
    exact this
  obtain ⟨bs', hbl, hbs⟩ := choose_list _ m each
  refine ⟨bs', ?_, hbl⟩
  congr 1
  apply Array.ext'
  apply List.ext_getElem?
  intro i
  rw [List.getElem?_map]
  rcases Nat.lt_or_ge i m with hi | hi
  · rw [List.getElem?_eq_getElem (show i < bs'.length by omega)]
    exact hbs i _ (List.getElem?_eq_getElem (by omega))
  · rw [List.getElem?_eq_none (by omega), List.getElem?_eq_none (by omega)]
    rfl

theorem weightsEach_cons {ts : List TypeId} {d : DataW H} {ds : List (DataW H)} (h : (DataW.weightsEach P (t :: ts) (d :: ds)).all (· ≤ reachBytes) = true) : (d.weights P t).all (· ≤ reachBytes) = true ∧ (DataW.weightsEach P ts ds).all (· ≤ reachBytes) = true := by
  simpa only [DataW.weightsEach, List.all_append, Bool.and_eq_true] using h

/-- A table that the row lists, as a block. -/
theorem tab_block {P : Program} {W : World} {name : String} {k : IntKind} {zs : List Int} {g : Nat} (hg : P.globalNamed name = some g) (h : Lib.TabIs P W name k zs) : ∃ bt fz, W.heap[g]? = some (.cells (zs.map fun z => Value.int k z).toArray bt fz) := by
  unfold Lib.TabIs World.var? at h
  rw [hg] at h
  simp only [Option.bind_some] at h
  split at h
  · rename_i cs bt fz hh
    simp only [Option.some.injEq] at h
    subst h
    exact ⟨bt, fz, hh⟩
  · cases h
end
end Go.Fw
