/- A text of a proof over this seat: walks over the program's functions and the plain laws that they need. -/
import Derived.Test.YtcolgcdnpfpcdaaFw18
import Derived.Test.YtcolgcdnpfpcdaaFw20
set_option linter.all false
namespace Go.Fw
open Go.ChangeShapes Go.WideShapes Go.ChangeAt Go.RowKit
variable {H : Type} {enc : TypeId × Value → H} {P : Program} {W : World} {t e : TypeId}

/-! ### arguments with their bulk -/
/-- What the bulk of a Rows text is: the equations that are needed here. -/
structure Bk (bk : DataW H → Nat) (bkA : List (DataW H) → Nat) : Prop where
  str : ∀ b, bk (.lit (.string b)) = b.length + 1
  sl : ∀ e s, bk (.slice e s) = bkA e + bkA s + 1
  nil : bkA [] = 0
  cons : ∀ d r, bkA (d :: r) = bk d + bkA r
  pos : ∀ d, 1 ≤ bk d

/-- Whatever can be read at this type is so laid, and its size is at most its bulk. -/
def RdS {α : Type} (enc : TypeId × Value → H) (P : Program) (W : World) (E : Enc α) (t : TypeId) (bk : DataW H → Nat) (sz : α → Nat) : Prop :=
  ∀ fuel cs x, DataW.trod enc P W 0 (fun _ => true) true fuel t cs = some x → (x.1.weights P t).all (· ≤ reachBytes) = true → ∃ a, E.rep (ph W) a cs ∧ sz a ≤ bk x.1

theorem rds_one {α : Type} {E : Enc α} {bk : DataW H → Nat} {bkA : List (DataW H) → Nat} (hk : Bk bk bkA) (h : Rd enc P W E t) : RdS enc P W E t bk (fun _ => 1) := fun fuel cs x h1 h2 => by
  obtain ⟨a, ha⟩ := h fuel cs x h1 h2
  exact ⟨a, ha, hk.pos _⟩

theorem rds_S {bk : DataW H → Nat} {bkA : List (DataW H) → Nat} (hk : Bk bk bkA) (ht : P.underlying t = some .string) : RdS enc P W encS t bk (fun s => s.length + 1) := fun _ _ x h hw => by
  obtain ⟨s, rfl, rfl, _⟩ := DataW.trod_string ht h
  refine ⟨s.data.toList, ⟨rfl, ?_⟩, ?_⟩
  · simp only [DataW.weights, List.all_cons, List.all_nil, Bool.and_true, decide_eq_true_eq] at hw
    unfold reachBytes at hw
    omega
  · rw [hk.str]
    exact Nat.le_refl _

theorem rd_A {m : Nat} (ht : P.underlying t = some (.array m e)) (he : P.underlying e = some (.int .u8)) (hce : P.cellsOf e = 1) (hct : P.cellsOf t = m) : Rd enc P W (encA m) t := fun _ cs x h _ => by
  obtain ⟨xs, n, rfl, _, hl, hxl, hx⟩ := DataW.trod_array ht h
  rw [hct] at hl
  rw [hce] at hx
  have each : ∀ i, i < m → ∃ b : UInt8, cs[i]? = some (vb b) := by
    intro i hi
    have h1 := hx i hi
    rw [List.getElem?_eq_getElem (by omega)] at h1
    obtain ⟨n', hcs, _, hw⟩ := DataW.trod_int he h1
    refine ⟨UInt8.ofNat n'.toNat, ?_⟩
    rw [← vb_of (wf_u8 hw)]
    have := congrArg (·[0]?) hcs
    simp only [List.getElem?_take, List.getElem?_drop, Nat.mul_one, Nat.add_zero, List.getElem?_cons_zero, if_pos Nat.zero_lt_one] at this ⊢
    exact this
  obtain ⟨bs', hbl, hbs⟩ := choose_list _ m each
  refine ⟨bs', hbl, ?_⟩
  apply List.ext_getElem?
  intro i
  rw [List.getElem?_map]
  rcases Nat.lt_or_ge i m with hi | hi
  · rw [List.getElem?_eq_getElem (show i < bs'.length by omega)]
    exact hbs i _ (List.getElem?_eq_getElem (by omega))
  · rw [List.getElem?_eq_none (by omega), List.getElem?_eq_none (by omega)]
    rfl

theorem sum_le_bk {α : Type} {bk : DataW H → Nat} {bkA : List (DataW H) → Nat} (hk : Bk bk bkA) (sz : α → Nat) : ∀ (xs : List α) (ds : List (DataW H)), xs.length = ds.length → (∀ (i : Nat) (x : α) (d : DataW H), xs[i]? = some x → ds[i]? = some d → sz x ≤ bk d) → (xs.map sz).sum ≤ bkA ds
  | [], [], _, _ => by rw [hk.nil]; simp
  | x :: xs, d :: ds, hl, h => by
    have h1 := sum_le_bk hk sz xs ds (by simpa using hl) fun i x d hx hd => h (i + 1) x d (by simpa using hx) (by simpa using hd)
    have h2 := h 0 x d rfl rfl
    rw [hk.cons]
    simp only [List.map_cons, List.sum_cons]
    omega

theorem slS_of_trod {α : Type} {E : Enc α} {bk : DataW H → Nat} {bkA : List (DataW H) → Nat} (hk : Bk bk bkA) {sz : α → Nat} (ht : P.underlying t = some (.slice e)) (hc : P.cellsOf e = E.size) (h0 : 0 < E.size) (hb : 0 < P.bytesOf e) (hE : RdS enc P W E e bk sz) {fuel : Nat} {cs : List Value} {x : DataW H × List MemPlace}
    (h : DataW.trod enc P W 0 (fun _ => true) true fuel t cs = some x) (hw : (x.1.weights P t).all (· ≤ reachBytes) = true) : ∃ v xs, cs = [v] ∧ Sl E (ph W) v xs ∧ (xs.map sz).sum + 1 ≤ bk x.1 := by
  rcases DataW.trod_slice ht h with ⟨rfl, rfl⟩ | ⟨a, len, cap, elems, rest, n, rfl, rfl, rfl, _, hlc, _, hle, hel, _, _⟩
  · exact ⟨_, [], rfl, ⟨by simp, none, 0, rfl, Nat.le_refl _, fun i x h => by simp at h⟩, hk.pos _⟩
  · simp only [DataW.weights, ht, List.all_cons, List.all_append, Bool.and_eq_true, decide_eq_true_eq, List.length_map] at hw
    obtain ⟨hw1, hw2, hw3⟩ := hw
    have hlen : len ≤ 140737488355328 := by
      unfold reachBytes at hw1
      have : elems.length + rest.length ≤ (elems.length + rest.length) * P.bytesOf e := Nat.le_mul_of_pos_right _ hb
      omega
    have hsp : 0 < len → ∃ b off cs' ty fz, a = ⟨b, off, none⟩ ∧ W.heap[b]? = some (.cells cs' ty fz) := by
      intro hi
      have h1 := hel 0 hi
      rw [List.getElem?_eq_getElem (by omega), Option.bind_eq_some_iff] at h1
      obtain ⟨cx, h2, h3⟩ := h1
      obtain ⟨_, hl, hcells⟩ := World.cells?_some h2
      rw [hc] at hl hcells
      have hz := hcells 0 (by omega)
      rw [List.getElem?_eq_getElem (by omega)] at hz
      obtain ⟨b, off, spot⟩ := a
      simp only [Nat.zero_mul, Addr.add, if_true, World.cell?] at hz
      split at hz
      · rename_i c1 t1 f1 hh
        cases spot with
        | none => exact ⟨b, off, c1, t1, f1, rfl, hh⟩
        | some s => simp at hz
      · cases hz
    have each : ∀ i, i < len → ∃ y, (∃ b off cs' ty fz cx, some a = some ⟨b, off, none⟩ ∧ ph W b = some (.cells cs' ty fz) ∧ E.rep (ph W) y cx ∧ ∀ j u, cx[j]? = some u → cs'[off + i * E.size + j]? = some u) ∧ ∀ d, (elems.map (·.1))[i]? = some d → sz y ≤ bk d := by
      intro i hi
      obtain ⟨b, off, cs', ty, fz, rfl, hh⟩ := hsp (by omega)
      have h1 := hel i hi
      rw [List.getElem?_eq_getElem (by omega), Option.bind_eq_some_iff] at h1
      obtain ⟨cx, h2, h3⟩ := h1
      have hwi := weightsAll_mem (d := (elems[i]'(by omega)).1) (List.mem_map.2 ⟨_, List.getElem_mem _, rfl⟩) hw2
      obtain ⟨y, hy, hys⟩ := hE _ _ _ h3 hwi
      obtain ⟨_, hl, hcells⟩ := World.cells?_some h2
      rw [hc] at hl hcells
      refine ⟨y, ⟨b, off, cs', ty, fz, cx, rfl, hh, hy, fun j u hj => ?_⟩, fun d hd => ?_⟩
      · have hjl : j < E.size := by have := (List.getElem?_eq_some_iff.1 hj).1; omega
        have h4 := hcells j hjl
        rw [hj, add_at, add_at, cell_of_row W b _ cs' ty fz hh] at h4
        exact h4
      · rw [List.getElem?_map, List.getElem?_eq_getElem (by omega)] at hd
        obtain rfl := Option.some.inj hd
        exact hys
    obtain ⟨xs, hxl, hxs⟩ := choose_list _ len each
    subst hxl
    refine ⟨_, xs, rfl, ⟨hlen, some a, cap, rfl, hlc, fun i x hx => (hxs i x hx).1⟩, ?_⟩
    have := sum_le_bk hk sz xs (elems.map (·.1)) (by simp [hle]) fun i x d hx hd => (hxs i x hx).2 d hd
    rw [hk.sl]
    omega

theorem rds_sl {α : Type} {E : Enc α} {bk : DataW H → Nat} {bkA : List (DataW H) → Nat} (hk : Bk bk bkA) {sz : α → Nat} (ht : P.underlying t = some (.slice e)) (hc : P.cellsOf e = E.size) (h0 : 0 < E.size) (hb : 0 < P.bytesOf e) (hE : RdS enc P W E e bk sz) : RdS enc P W (encSl E) t bk (fun xs => (xs.map sz).sum + 1) := fun _ _ _ h hw => by
  obtain ⟨v, xs, rfl, hs, hz⟩ := slS_of_trod hk ht hc h0 hb hE h hw
  exact ⟨xs, ⟨v, rfl, hs⟩, hz⟩

theorem arg_slS {α : Type} {E : Enc α} {bk : DataW H → Nat} {bkA : List (DataW H) → Nat} (hk : Bk bk bkA) {sz : α → Nat} {base : Nat} {v : Value} {d : DataW H} {p : List MemPlace} (ht : P.underlying t = some (.slice e)) (hc : P.cellsOf e = E.size) (h0 : 0 < E.size) (hb : 0 < P.bytesOf e) (hE : RdS enc P W E e bk sz)
    (hv : Value.okWide P W .any base t v) (h : DataW.Trod enc P W 0 (fun _ => true) true t v d p) (hw : (d.weights P t).all (· ≤ reachBytes) = true) : ∃ xs, Sl E (ph W) v xs ∧ (xs.map sz).sum + 1 ≤ bk d := by
  obtain ⟨a, len, cap, rfl⟩ := okWide_slice ht hv
  obtain ⟨fuel, hf⟩ := h
  obtain ⟨v, xs, hcs, hs, hz⟩ := slS_of_trod hk ht hc h0 hb hE hf hw
  simp only [Value.cells] at hcs
  obtain rfl : Value.slice a len cap = v := by simpa using hcs
  exact ⟨xs, hs, hz⟩

theorem arg_sS {bk : DataW H → Nat} {bkA : List (DataW H) → Nat} (hk : Bk bk bkA) {base : Nat} {v : Value} {d : DataW H} {p : List MemPlace} (ht : P.underlying t = some .string) (hv : Value.okWide P W .any base t v) (h : DataW.Trod enc P W 0 (fun _ => true) true t v d p) (hw : (d.weights P t).all (· ≤ reachBytes) = true) :
    ∃ s : List UInt8, v = vs s ∧ s.length ≤ 140737488355328 ∧ s.length + 1 ≤ bk d := by
  obtain ⟨s, rfl⟩ := okWide_string ht hv
  obtain ⟨fuel, hf⟩ := h
  obtain ⟨s', hcs, hdp, _⟩ := DataW.trod_string ht hf
  obtain ⟨rfl, rfl⟩ := Prod.mk.inj hdp
  obtain rfl : s = s' := by simpa [Value.cells] using hcs
  simp only [DataW.weights, List.all_cons, List.all_nil, Bool.and_true, decide_eq_true_eq] at hw
  unfold reachBytes at hw
  refine ⟨s.data.toList, rfl, by omega, ?_⟩
  rw [hk.str]
  omega

theorem sum_mem {α : Type} {sz : α → Nat} : ∀ {xs : List α} {x : α}, x ∈ xs → sz x ≤ (xs.map sz).sum
  | y :: ys, x, h => by
    simp only [List.map_cons, List.sum_cons]
    rcases List.mem_cons.1 h with rfl | h
    · omega
    · have := sum_mem (sz := sz) h
      omega
theorem sum_len {α : Type} {sz : α → Nat} (h : ∀ x, 1 ≤ sz x) : ∀ (xs : List α), xs.length ≤ (xs.map sz).sum
  | [] => by simp
  | y :: ys => by
    have := sum_len h ys
    have := h y
    simp only [List.map_cons, List.sum_cons, List.length_cons]
    omega
theorem sum_flat : ∀ (xs : List (List UInt8)), xs.length + xs.flatten.length = (xs.map fun s => s.length + 1).sum
  | [] => by simp
  | y :: ys => by
    have := sum_flat ys
    simp only [List.map_cons, List.sum_cons, List.length_cons, List.flatten_cons, List.length_append]
    omega
end Go.Fw
