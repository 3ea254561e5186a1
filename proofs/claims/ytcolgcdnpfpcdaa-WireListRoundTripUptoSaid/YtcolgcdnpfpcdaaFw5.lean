/- A text of a proof over this seat: walks over the program's functions and the plain laws that they need. -/
import Derived.Test.YtcolgcdnpfpcdaaFw4
import Derived.Deep.AppendSrc
set_option linter.all false
namespace Go.Fw

/-- An operation that writes, makes memory, or calls what does: all that may come of it. -/
def Ef (P : Program) (n : Nat) (w0 : World) (zs : List PH) (hs : List Res) (L : List (Nat × Value)) (o : Oper) (K : Value → List PH → List Res → Prop) : Prop :=
  ∀ a, Fr n L a → ∀ w, St w0 zs hs w → ∀ (next : Act → World → Prop) (Q : Exit → Act → World → Prop),
    (∀ v zs' hs' w', K v zs' hs' → St w0 zs' hs' w' → next (a.put o.dst v) w') → o.wp P a w next Q

section
variable {P : Program} {n : Nat} {w0 : World} {zs : List PH} {hs : List Res} {L : List (Nat × Value)} {d : Option Tmp} {ty t t' : TypeId} {pos : String} {af : Array Edge} {g : Option (Nat × Bool)}
variable {x y c o1 o2 o3 : Operand} {u v : Value} {ops : Array Oper} {rest : List Oper}

theorem wpl_ef {op : Op} {Q : Exit → Act → World → Prop} {a : Act} {w : World} {K : Value → List PH → List Res → Prop} (hF : Fr n L a) (hS : St w0 zs hs w) (hd : (match d with | some k => Nat.blt k n | none => true) = true) (e : Ef P n w0 zs hs L ⟨d, op, ty, pos, af, none⟩ K)
    (h : ∀ v zs' hs' a w, K v zs' hs' → Fr n (upL d v L) a → St w0 zs' hs' w → wpList P ops Q rest a w) : wpList P ops Q (⟨d, op, ty, pos, af, none⟩ :: rest) a w := by
  unfold wpList
  rw [if_pos (show Region.wanted ⟨d, op, ty, pos, af, none⟩ (yielded ops a.tmps) = true from rfl)]
  refine .inl (e a hF w hS _ _ fun v zs' hs' w' hK hS' => h v zs' hs' _ w' hK (hF.up ?_) hS')
  cases d with
  | none => trivial
  | some k => exact Nat.blt_eq.mp hd

/-- From a run equation. -/
theorem ef_of {o : Oper} {K : Value → List PH → List Res → Prop} (h : ∀ a, Fr n L a → ∀ w, St w0 zs hs w → ∃ v zs' hs' w', ((execOp a.eval o).run P w = .ok (.value v) w' ∨ ((execOp a.eval o).run P w = .ok .skip w' ∧ v = undef)) ∧ K v zs' hs' ∧ St w0 zs' hs' w') : Ef P n w0 zs hs L o K := by
  intro a ha w hw next Q hn
  obtain ⟨v, zs', hs', w', hr, hK, hS⟩ := h a ha w hw
  unfold Oper.wp
  rcases hr with hr | ⟨hr, rfl⟩ <;> rw [hr] <;> exact hn _ _ _ _ hK hS

/-! ### new memory -/
theorem ef_alloc {dd : TypeDesc} {s by_ : Nat} {zv : Value} (ht : Tf P t dd s by_ zv) :
    Ef P n w0 zs hs L ⟨d, .alloc t, ty, pos, af, g⟩ (fun v zs' hs' => ∃ b, v = .pointer (some ⟨b, 0, none⟩) ∧ zs' = zs ∧ hs' = .blk b t zv.cells.toList :: hs) :=
  ef_of fun a ha w hw => ⟨_, _, _, _, .inl (by
      simp only [execOp]
      simp [Instr.alloc, ht.zero, newVar, newRow]
      rfl), ⟨w.heap.size, rfl, rfl, rfl⟩, by simpa using hw.new t zv.cells.toList⟩
theorem ef_box (h1 : opv L x = some v) :
    Ef P n w0 zs hs L ⟨d, .box t x, ty, pos, af, g⟩ (fun v' zs' hs' => ∃ b, v' = .pointer (some ⟨b, 0, none⟩) ∧ zs' = zs ∧ hs' = .blk b t v.cells.toList :: hs) :=
  ef_of fun a ha w hw => ⟨_, _, _, _, .inl (by
      simp only [execOp, ha.eval h1]
      simp [Instr.box, newVar, newRow]
      rfl), ⟨w.heap.size, rfl, rfl, rfl⟩, by simpa using hw.new t v.cells.toList⟩

theorem ef_allocA {dd : TypeDesc} {s by_ : Nat} {cs : List Value} (ht : Tf P t dd s by_ (.agg cs.toArray)) :
    Ef P n w0 zs hs L ⟨d, .alloc t, ty, pos, af, g⟩ (fun v zs' hs' => ∃ b, v = .pointer (some ⟨b, 0, none⟩) ∧ zs' = zs ∧ hs' = .blk b t cs :: hs) :=
  ef_alloc ht
theorem ef_alloc1 {dd : TypeDesc} {by_ : Nat} {zv : Value} (ht : Tf P t dd 1 by_ zv) (ho : zv.oneCell' = true) :
    Ef P n w0 zs hs L ⟨d, .alloc t, ty, pos, af, g⟩ (fun v zs' hs' => ∃ b, v = .pointer (some ⟨b, 0, none⟩) ∧ zs' = zs ∧ hs' = .blk b t [zv] :: hs) := by
  have hc : zv.cells.toList = [zv] := by cases zv <;> first | rfl | (simp [Value.oneCell'] at ho)
  have := ef_alloc (P := P) (n := n) (w0 := w0) (zs := zs) (hs := hs) (L := L) (d := d) (ty := ty) (pos := pos) (af := af) (g := g) ht
  rwa [hc] at this
theorem ef_boxA {cs : List Value} (h1 : opv L x = some (.agg cs.toArray)) :
    Ef P n w0 zs hs L ⟨d, .box t x, ty, pos, af, g⟩ (fun v' zs' hs' => ∃ b, v' = .pointer (some ⟨b, 0, none⟩) ∧ zs' = zs ∧ hs' = .blk b t cs :: hs) :=
  ef_box h1
theorem ef_box1 (h1 : opv L x = some v) (ho : v.oneCell' = true) :
    Ef P n w0 zs hs L ⟨d, .box t x, ty, pos, af, g⟩ (fun v' zs' hs' => ∃ b, v' = .pointer (some ⟨b, 0, none⟩) ∧ zs' = zs ∧ hs' = .blk b t [v] :: hs) := by
  have hc : v.cells.toList = [v] := by cases v <;> first | rfl | (simp [Value.oneCell'] at ho)
  have := ef_box (P := P) (n := n) (w0 := w0) (zs := zs) (hs := hs) (L := L) (d := d) (ty := ty) (t := t) (pos := pos) (af := af) (g := g) h1
  rwa [hc] at this

/-! ### stores into boxes -/
theorem St.store {w0 : World} {zs : List PH} {hs : List Res} {w : World} (h : St w0 zs hs w) {k : Nat} {b off : Nat} {bt : TypeId} {cs c : List Value} (hk : hs[k]? = some (.blk b bt cs)) (hl : off + c.length ≤ cs.length) :
    St w0 zs (hs.set k (.blk b bt (cs.take off ++ c ++ cs.drop (off + c.length)))) (w.setRow b (cs.take off ++ c ++ cs.drop (off + c.length)).toArray) := by
  have hb := (h.own _ (List.mem_of_getElem? hk)).1
  refine h.set hk rfl (fun j hj => setRow_other w b j _ (fun e => hj (by rw [← e]; rfl))) ⟨hb.1, ?_⟩ (by simp) ⟨rfl, rfl, rfl⟩
  exact setRow_heap w b cs.toArray _ bt (0, 0) hb.2

theorem run_storeVar {dd : TypeDesc} {s by_ : Nat} {zv : Value} (ht : Tf P t dd s by_ zv) {w : World} {b off : Nat} {bt : TypeId} {cs : List Value} (hb : w.heap[b]? = some (.cells cs.toArray bt (0, 0))) (hc : v.cells.size = s) (h1 : ∀ u ∈ v.cells, u.oneCell' = true) (hl : off + s ≤ cs.length) :
    (storeVar t ⟨b, off, none⟩ v).run P w = .ok () (w.setRow b (cs.take off ++ v.cells.toList ++ cs.drop (off + v.cells.toList.length)).toArray) := by
  have := run_storeCells_at P b off bt v.cells.toList 0 cs.toArray w hb (by simpa [hc] using hl) (by simpa using h1)
  simp only [Nat.add_zero] at this
  simp [storeVar, ht.sizeOf, hc, this]

theorem ef_store {dd : TypeDesc} {s by_ : Nat} {zv : Value} (ht : Tf P t dd s by_ zv) (k : Nat) {b off : Nat} {bt : TypeId} {cs c cs' : List Value} (h1 : opv L x = some (.pointer (some ⟨b, off, none⟩))) (h2 : opv L y = some v) (hk : hs[k]? = some (.blk b bt cs)) (hc : v.cells = c.toArray) (hcs : c.length = s) (ho : ∀ u ∈ c, u.oneCell' = true) (hl : off + s ≤ cs.length) (he : cs.take off ++ c ++ cs.drop (off + s) = cs') :
    Ef P n w0 zs hs L ⟨d, .store t x y, ty, pos, af, g⟩ (fun v zs' hs' => v = undef ∧ zs' = zs ∧ hs' = hs.set k (.blk b bt cs')) :=
  ef_of fun a ha w hw => by
    subst hcs
    have hb := (hw.own _ (List.mem_of_getElem? hk)).1
    have hr := run_storeVar (v := v) ht hb.2 (off := off) (by rw [hc]; simp) (by rw [hc]; simpa using ho) hl
    rw [hc] at hr
    rw [← he]
    refine ⟨undef, zs, _, _, .inr ⟨?_, rfl⟩, ⟨rfl, rfl, rfl⟩, hw.store hk hl⟩
    simp only [execOp, ha.eval h1, ha.eval h2]
    simp [Instr.storeAt, Instr.sureAddr, hr]
/-- One cell. -/
theorem ef_store1 {dd : TypeDesc} {by_ : Nat} {zv : Value} (ht : Tf P t dd 1 by_ zv) (k : Nat) {b off : Nat} {bt : TypeId} {cs : List Value} (h1 : opv L x = some (.pointer (some ⟨b, off, none⟩))) (h2 : opv L y = some v) (hk : hs[k]? = some (.blk b bt cs)) (ho : v.oneCell' = true) (hl : off < cs.length) :
    Ef P n w0 zs hs L ⟨d, .store t x y, ty, pos, af, g⟩ (fun v' zs' hs' => v' = undef ∧ zs' = zs ∧ hs' = hs.set k (.blk b bt (cs.set off v))) := by
  have hc : v.cells = [v].toArray := by cases v <;> first | rfl | (simp [Value.oneCell'] at ho)
  refine ef_store (c := [v]) ht k h1 h2 hk hc rfl (by simpa using ho) hl ?_
  simp only [List.set_eq_take_append_cons_drop, if_pos hl, List.append_assoc, List.cons_append, List.nil_append]

/-! ### rows of the call's own: append -/
theorem St.le_ph {w0 : World} {zs : List PH} {hs : List Res} {w : World} {z : PH} (h : St w0 zs hs w) (hz : ZIn w0 zs z ∨ z = ph w) : z.le (ph w) := by
  rcases hz with hz | rfl
  · exact h.le hz
  · exact PH.le_refl _

/-- What an own row reads as. -/
theorem own_sl {α : Type} {E : Enc α} {base : Nat} {w : World} {e : TypeId} {v : Value} {m : Nat} {cs : List Value} (h : w.ownsRow base e E.size v m cs) {xs : List α} (hm : m = xs.length) (hb : m ≤ 140737488355328)
    (hr : ∀ i x, xs[i]? = some x → ∃ cx, E.rep (ph w) x cx ∧ ∀ j u, cx[j]? = some u → cs[i * E.size + j]? = some u) : Sl E (ph w) v xs := by
  subst hm
  refine ⟨hb, ?_⟩
  rcases h.2 with ⟨rfl, hn⟩ | ⟨b, cap, cur, rfl, hb, hg, hnc, hcm, hcs, htake⟩
  · refine ⟨none, 0, by rw [hn], by omega, fun i x hx => ?_⟩
    have := (List.getElem?_eq_some_iff.1 hx).1
    omega
  · refine ⟨some ⟨b, 0, none⟩, cap, rfl, hnc, fun i x hx => ?_⟩
    obtain ⟨cx, h1, h2⟩ := hr i x hx
    refine ⟨b, 0, cur, e, (0, 0), cx, rfl, hg, h1, fun j u hu => ?_⟩
    have h3 := h2 j u hu
    rw [← htake, List.getElem?_take] at h3
    split at h3
    · simpa [Nat.zero_add] using h3
    · cases h3

theorem own_slV {α : Type} {f : α → Value} {p : α → Prop} {h0 : ∀ x, (f x).oneCell' = true} {base : Nat} {w : World} {e : TypeId} {v : Value} {m : Nat} {xs : List α} (h : w.ownsRow base e 1 v m (xs.map f)) (hp : ∀ x ∈ xs, p x) (hm : m = xs.length) (hb : m ≤ 140737488355328) : Sl (encV f p h0) (ph w) v xs :=
  own_sl (E := encV f p h0) h hm hb fun i x hx => ⟨[f x], ⟨rfl, hp x (List.mem_of_getElem? hx)⟩, fun j u hu => by
    cases j with
    | zero => simp only [List.getElem?_cons_zero, Option.some.injEq] at hu; subst hu; show (xs.map f)[i * 1 + 0]? = _; simp [hx]
    | succ j => simp at hu⟩

/-- What is appended. -/
def SrcOk (P : Program) (w0 : World) (zs : List PH) (hs : List Res) (size : Nat) (tx : TypeId) (x : Value) (m : Nat) (news : List Value) : Prop :=
  ∀ w, St w0 zs hs w → Src P size tx x m news w

theorem drew_st {w0 zs hs w} (h : St w0 zs hs w) : St w0 zs hs w.drew := h.drew _

theorem src_str {tx : TypeId} {s by_ : Nat} {zv : Value} (ht : Tf P tx .string s by_ zv) (l : List UInt8) : SrcOk P w0 zs hs 1 tx (vs l) l.length (l.map vb) := by
  intro w _
  have := Src.ofString (P := P) w ht.und (bs l)
  have e1 : byteCells (bs l) = l.map vb := by simp [byteCells]
  have e2 : (bs l).size = l.length := by simp [ByteArray.size]
  rw [e1, e2] at this
  exact this
theorem src_sl {α : Type} {E : Enc α} {z : PH} {xs : List α} {tx e : TypeId} {s by_ : Nat} {zv : Value} (ht : Tf P tx (.slice e) s by_ zv) (hS : Sl E z v xs) (hz : ZIn w0 zs z) (cs : List Value) (hl : cs.length = xs.length * E.size) (h1 : ∀ u ∈ cs, u.oneCell' = true)
    (hc : ∀ i x cx, xs[i]? = some x → E.rep z x cx → ∀ j, j < E.size → cs[i * E.size + j]? = cx[j]?) (h0 : 0 < E.size) : SrcOk P w0 zs hs E.size tx v xs.length cs := by
  intro w hw
  obtain ⟨hb, a, c, rfl, hlc, h⟩ := hS
  cases a with
  | none =>
    have hx : xs = [] := by
      cases xs with
      | nil => rfl
      | cons x xs => obtain ⟨_, _, _, _, _, _, hh, _⟩ := h 0 x rfl; cases hh
    subst hx
    have : cs = [] := List.eq_nil_of_length_eq_zero (by simpa using hl)
    subst this
    exact Src.ofNil w ht.und c
  | some ad =>
    refine Src.ofSlice w ht.und ad xs.length c cs hl (fun j u hu => ?_) h1
    have hj : j < cs.length := (List.getElem?_eq_some_iff.1 hu).1
    have hi : j / E.size < xs.length := by rw [hl] at hj; exact Nat.div_lt_of_lt_mul (by rwa [Nat.mul_comm])
    obtain ⟨b, off, cc, ty', fz, cx, hh, h2, h3, h4⟩ := h (j / E.size) xs[j / E.size] (by simp [hi])
    simp only [Option.some.injEq] at hh
    subst hh
    have h5 := hc (j / E.size) _ cx (by simp [hi]) h3 (j % E.size) (Nat.mod_lt _ h0)
    have e1 : j / E.size * E.size + j % E.size = j := by rw [Nat.mul_comm]; exact Nat.div_add_mod _ _
    rw [e1, hu] at h5
    have h6 := h4 _ _ h5.symm
    rw [add_at, cell_of_row w b _ cc ty' fz (hw.le hz _ _ h2)]
    rw [← h6]
    congr 1
    omega
theorem src_slV {α : Type} {f : α → Value} {p : α → Prop} {h0 : ∀ x, (f x).oneCell' = true} {z : PH} {xs : List α} {tx e : TypeId} {s by_ : Nat} {zv : Value} (ht : Tf P tx (.slice e) s by_ zv) (hS : Sl (encV f p h0) z v xs) (hz : ZIn w0 zs z) : SrcOk P w0 zs hs 1 tx v xs.length (xs.map f) :=
  src_sl (E := encV f p h0) ht hS hz (xs.map f) (by simp [encV]) (fun u hu => by obtain ⟨y, _, rfl⟩ := List.mem_map.1 hu; exact h0 y) (fun i x cx hx hr j hj => by
    have : j = 0 := by simp [encV] at hj; omega
    subst this
    rw [hr.1]
    show (xs.map f)[i * 1 + 0]? = _
    simp [hx]) Nat.one_pos
theorem src_row {tx e e' : TypeId} {s by_ size m : Nat} {zv : Value} (ht : Tf P tx (.slice e) s by_ zv) {k : Nat} {cs : List Value} (hk : hs[k]? = some (.row v e' size m cs)) (h1 : ∀ u ∈ cs, u.oneCell' = true) : SrcOk P w0 zs hs size tx v m cs := by
  intro w hw
  have h := (hw.own _ (List.mem_of_getElem? hk)).1
  have hlen := h.1
  rcases h.2 with ⟨rfl, hn⟩ | ⟨b, cap, cur, rfl, hb, hg, hnc, hcm, hcs, htake⟩
  · subst hn
    have : cs = [] := List.eq_nil_of_length_eq_zero (by simpa using hlen)
    subst this
    exact Src.ofNil w ht.und 0
  · refine Src.ofSlice w ht.und ⟨b, 0, none⟩ m cap cs hlen (fun j u hu => ?_) h1
    rw [add_at, cell_of_row w b _ cur e' (0, 0) hg]
    rw [← htake, List.getElem?_take] at hu
    split at hu
    · simpa using hu
    · cases hu

theorem run_append_src {base : Nat} {w : World} {e : TypeId} {de : TypeDesc} {size by_ st bt : Nat} {zv zt : Value} (hte : Tf P e de size by_ zv) (ht : Tf P t (.slice e) st bt zt) (hzs : zv.cells.size = size) (h0 : 0 < size) {m k : Nat} {xs news : List Value} {tx : TypeId} (hown : w.ownsRow base e size v m xs) (hsrc : Src P size tx u k news w)
    (hb : (m + k) * by_ ≤ 140737488355328) (h63 : m + k ≤ 140737488355328) (hbase : base ≤ w.heap.size) :
    ∃ v' w', (Builtin.append_ #[t, tx] ty #[v, u]).run P w = .ok v' w' ∧ w'.ownsRow base e size v' (m + k) (xs ++ news) ∧ w.grownBy w' v.ownBlock ∧ (∀ b, v'.ownBlock = some b → v.ownBlock = some b ∨ w.heap.size ≤ b) := by
  obtain ⟨i, hi, rfl, rfl, hz⟩ := hte.info
  have hlen : (xs ++ news).length = (m + k) * i.size := by rw [List.length_append, hown.1, hsrc.newsLen, Nat.add_mul]
  have hml : m + k ≤ maxLen := by unfold maxLen; omega
  have grown : ∀ (old : Nat), old < m + k → ∀ (row : Option Nat),
      (w.drew.alloc (.cells ((xs ++ news).toArray ++ Builtin.zeroCells zv.cells (grownCap w (m + k) old e - (m + k))) e)).ownsRow base e i.size
        (.slice (some ⟨w.heap.size, 0, none⟩) (m + k) (grownCap w (m + k) old e)) (m + k) (xs ++ news) ∧
      w.grownBy (w.drew.alloc (.cells ((xs ++ news).toArray ++ Builtin.zeroCells zv.cells (grownCap w (m + k) old e - (m + k))) e)) row := by
    intro old ho row
    have hge := grownCap_ge w (m + k) old e
    have hcm : grownCap w (m + k) old e ≤ maxLen := grownCap_le_maxLen w (m + k) old e hml
    refine ⟨⟨hlen, .inr ⟨w.heap.size, _, _, rfl, hbase, heap_alloc_new w.drew _, hge, hcm, ?_, ?_⟩⟩, ⟨rfl, rfl, rfl, by simp, fun q hq _ => heap_alloc_old _ _ hq⟩⟩
    · simp only [Array.size_append, List.size_toArray, size_zeroCells, hzs, hlen, ← Nat.add_mul]
      congr 1
      omega
    · simp only [Array.toList_append]
      rw [← hlen]
      exact List.take_left
  rcases hown.2 with ⟨rfl, rfl⟩ | ⟨b, cap, cur, rfl, hbg, hg, hnc, hcm, hcs, htake⟩
  · have hx : xs = [] := List.eq_nil_of_length_eq_zero (by simpa using hown.1)
    subst hx
    by_cases hm : k = 0
    · subst hm
      have hn : news = [] := List.eq_nil_of_length_eq_zero (by simpa using hsrc.newsLen)
      subst hn
      refine ⟨.slice none 0 0, w, ?_, World.ownsRow_nil w base e i.size, ⟨rfl, rfl, rfl, Nat.le_refl _, fun _ _ _ => rfl⟩, fun b hb => .inl hb⟩
      rcases hsrc.kind with ⟨e', hk⟩ | hk <;> simp [Builtin.append_, run_underlying ht.und, run_underlying hk, sizeOf, typeInfo, hi, hsrc.len, hsrc.cells]
    · have hr := run_append_grow_src (P := P) w t tx ty e i zv ht.und hi hz none 0 0 [] (run_firstCells_none w.drew i.size 0 0 0) u k news hsrc (by omega) (by omega) (by have := growslice_fits (bytes := i.bytes) (need := 0 + k) (old := 0) (by omega) hb; exact this)
      have hgr := grown 0 (by omega) (Value.ownBlock (.slice none 0 0))
      exact ⟨_, _, hr, hgr.1, hgr.2, fun b hb => .inr (by simp [Value.ownBlock] at hb; omega)⟩
  · by_cases hroom : m + k ≤ cap
    · have hfit : m * i.size + news.length ≤ cur.size := by rw [hsrc.newsLen, hcs, ← Nat.add_mul]; exact Nat.mul_le_mul_right _ hroom
      have hr : (Builtin.append_ #[t, tx] ty #[.slice (some ⟨b, 0, none⟩) m cap, u]).run P w =
          .ok (.slice (some ⟨b, 0, none⟩) (m + k) cap) (w.setRow b (cur.toList.take (m * i.size) ++ news ++ cur.toList.drop (m * i.size + news.length)).toArray) := by
        have hst := run_storeCells_at P b (m * i.size) e news 0 cur w hg (by simpa using hfit) hsrc.one
        simp only [Nat.add_zero] at hst
        rcases hsrc.kind with ⟨e', hk⟩ | hk <;> simp [Builtin.append_, run_underlying ht.und, run_underlying hk, sizeOf, typeInfo, hi, hsrc.len, hroom, hsrc.cells, Addr.add_lit, hst]
      refine ⟨_, _, hr, ⟨hlen, .inr ⟨b, cap, _, rfl, hbg, setRow_heap w b cur _ e _ hg, hroom, hcm, ?_, ?_⟩⟩, ⟨rfl, rfl, rfl, by simp, fun k _ hk => setRow_other w b k _ (fun e => hk (by simp [Value.ownBlock, e]))⟩, fun b hb => .inl hb⟩
      · simp only [List.size_toArray, List.length_append, List.length_take, List.length_drop, Array.length_toList]
        omega
      · rw [htake, ← hlen]
        exact List.take_left
    · have holds : ∀ j u, xs[j]? = some u → w.cell? ((⟨b, 0, none⟩ : Addr).add j) = some u := hown.cells (g := b) rfl
      have hold := run_firstCells_some (P := P) w.drew i.size m ⟨b, 0, none⟩ m cap xs hown.1 (by simpa using holds)
      have hr := run_append_grow_src (P := P) w t tx ty e i zv ht.und hi hz (some ⟨b, 0, none⟩) m cap xs hold u k news hsrc (by omega) (by omega) (growslice_fits (by omega) hb)
      have hgr := grown cap (by omega) (Value.ownBlock (.slice (some ⟨b, 0, none⟩) m cap))
      exact ⟨_, _, hr, hgr.1, hgr.2, fun b hb => .inr (by simp [Value.ownBlock] at hb; omega)⟩

theorem St.append {w0 : World} {zs : List PH} {hs : List Res} {w w' : World} (h : St w0 zs hs w) {q : Nat} {v v' : Value} {e : TypeId} {size m m' : Nat} {xs xs' : List Value} (hk : hs[q]? = some (.row v e size m xs)) (hg : w.grownBy w' v.ownBlock) (ho : w'.ownsRow w0.heap.size e size v' m' xs') (hn : ∀ b, v'.ownBlock = some b → v.ownBlock = some b ∨ w.heap.size ≤ b) :
    St w0 zs (hs.set q (.row v' e size m' xs')) w' := by
  have hmem : Res.row v e size m xs ∈ hs := List.mem_of_getElem? hk
  have hkl : q < hs.length := (List.getElem?_eq_some_iff.1 hk).1
  -- the block that is left alone or new
  have keep : ∀ b, b < w.heap.size → v.ownBlock ≠ some b → w'.heap[b]? = w.heap[b]? := fun b hb hne => hg.block b hb (fun e => hne e.symm)
  have hne : ∀ b o, (ph w0 b = some o ∨ ∃ z ∈ zs, z b = some o) → v.ownBlock ≠ some b ∧ b < w.heap.size := by
    intro b o hb
    rcases hb with hb | ⟨z, hz, hzb⟩
    · refine ⟨fun e => ?_, Nat.lt_of_lt_of_le (ph_some hb) (le_size h.ext)⟩
      have := (Res.ok_ge (h.own _ hmem).1 b e).1
      have := ph_some hb
      omega
    · refine ⟨fun e => ?_, ph_some ((h.zone z hz).1 b o hzb)⟩
      have := (h.own _ hmem).2 b e z hz
      rw [this] at hzb
      cases hzb
  have key : ∀ (l : List Res) (i k : Nat) (s r : Res) (b : Nat), i ≠ k → l[i]? = some s → l[k]? = some r → s.id = some b → r.id = some b → ¬ (l.filterMap Res.id).Nodup := by
    intro l
    induction l with
    | nil => intro i k s r b _ hi; simp at hi
    | cons x l ih =>
      intro i k s r b hne hi hk hb e hn
      cases i with
      | zero =>
        cases k with
        | zero => exact hne rfl
        | succ k =>
          simp at hi hk
          subst hi
          rw [List.filterMap_cons, hb] at hn
          simp at hn
          exact hn.1 r (List.mem_of_getElem? hk) e
      | succ i =>
        cases k with
        | zero =>
          simp at hi hk
          subst hk
          rw [List.filterMap_cons, e] at hn
          simp at hn
          exact hn.1 s (List.mem_of_getElem? hi) hb
        | succ k =>
          simp at hi hk
          refine ih i k s r b (by omega) hi hk hb e ?_
          rw [List.filterMap_cons] at hn
          split at hn
          · exact hn
          · exact (List.nodup_cons.1 hn).2
  refine ⟨fun b o hb => ?_, fun z hz => ⟨fun b o hb => ?_, (h.zone z hz).2⟩, fun s hs1 => ?_, ?_, h.io.trans ⟨hg.os, hg.tape, hg.output⟩⟩
  · have := h.ext b o hb
    obtain ⟨h1, h2⟩ := hne b o (.inl hb)
    simp only [ph] at this ⊢
    rw [keep b h2 h1]
    exact this
  · have := (h.zone z hz).1 b o hb
    obtain ⟨h1, h2⟩ := hne b o (.inr ⟨z, hz, hb⟩)
    simp only [ph] at this ⊢
    rw [keep b h2 h1]
    exact this
  · obtain ⟨i, hi⟩ := List.mem_iff_getElem?.1 hs1
    rw [List.getElem?_set] at hi
    split at hi
    · rename_i hki
      subst hki
      try rw [if_pos hkl] at hi
      simp only [Option.some.injEq] at hi
      subst hi
      refine ⟨ho, fun b hb z hz => ?_⟩
      rcases hn b hb with h1 | h1
      · exact (h.own _ hmem).2 b h1 z hz
      · cases hzb : z b with
        | none => rfl
        | some o => have := ph_some ((h.zone z hz).1 b o hzb); omega
    · rename_i hki
      have hsm : s ∈ hs := List.mem_of_getElem? hi
      refine ⟨Res.ok_of (h.own s hsm).1 fun b hb => keep b (Res.ok_ge (h.own s hsm).1 b hb).2 fun e => ?_, (h.own s hsm).2⟩
      exact key hs i q s _ b (by omega) hi hk hb e h.nd
  · -- the ids of the rest do not hold the new one
    have gen : ∀ (l : List Res) (k : Nat), l[k]? = some (.row v e size m xs) → (∀ r ∈ l, r ∈ hs) → (l.filterMap Res.id).Nodup → ((l.set k (.row v' e size m' xs')).filterMap Res.id).Nodup := by
      intro l
      induction l with
      | nil => intro k hk; simp at hk
      | cons x l ih =>
        intro k hk hsub hnd
        cases k with
        | zero =>
          simp at hk
          subst hk
          rw [List.set_cons_zero, List.filterMap_cons]
          rw [List.filterMap_cons] at hnd
          have hnd' : (l.filterMap Res.id).Nodup := by
            split at hnd
            · exact hnd
            · exact (List.nodup_cons.1 hnd).2
          split
          · exact hnd'
          · rename_i b hb
            refine List.nodup_cons.2 ⟨fun hm => ?_, hnd'⟩
            obtain ⟨r, hr, er⟩ := List.mem_filterMap.1 hm
            rcases hn b hb with h1 | h1
            · have h2 : Res.id (.row v e size m xs) = some b := h1
              rw [h2] at hnd
              exact (List.nodup_cons.1 hnd).1 (List.mem_filterMap.2 ⟨r, hr, er⟩)
            · have := (Res.ok_ge (h.own r (hsub r (List.mem_cons_of_mem _ hr))).1 b er).2
              omega
        | succ k =>
          simp at hk
          have hr0 := ih k hk (fun r hr => hsub r (List.mem_cons_of_mem _ hr)) (by
            rw [List.filterMap_cons] at hnd
            split at hnd
            · exact hnd
            · exact (List.nodup_cons.1 hnd).2)
          rw [List.set_cons_succ, List.filterMap_cons]
          split
          · exact hr0
          · rename_i b hb
            refine List.nodup_cons.2 ⟨fun hm => ?_, hr0⟩
            obtain ⟨r, hr, er⟩ := List.mem_filterMap.1 hm
            rw [List.filterMap_cons, hb] at hnd
            have hnd1 := (List.nodup_cons.1 hnd).1
            obtain ⟨i, hi⟩ := List.mem_iff_getElem?.1 hr
            rw [List.getElem?_set] at hi
            split at hi
            · split at hi
              · simp only [Option.some.injEq] at hi
                subst hi
                rcases hn b er with h1 | h1
                · exact hnd1 (List.mem_filterMap.2 ⟨_, List.mem_of_getElem? hk, h1⟩)
                · have := (Res.ok_ge (h.own x (hsub x (List.mem_cons_self ..))).1 b hb).2
                  omega
              · cases hi
            · exact hnd1 (List.mem_filterMap.2 ⟨r, List.mem_of_getElem? hi, er⟩)
    exact gen hs q hk (fun r hr => hr) h.nd

theorem ef_append {e : TypeId} {de : TypeDesc} {size by_ st bt : Nat} {zv zt : Value} (ht : Tf P t (.slice e) st bt zt) (hte : Tf P e de size by_ zv) (q : Nat) {m k : Nat} {xs news : List Value} {tx : TypeId} (h1 : opv L x = some v) (h2 : opv L y = some u) (hk : hs[q]? = some (.row v e size m xs)) (hsrc : SrcOk P w0 zs hs size tx u k news)
    (hb : (m + k) * by_ ≤ 140737488355328 ∧ m + k ≤ 140737488355328) (hzs : zv.cells.size = size) (h0 : 0 < size) :
    Ef P n w0 zs hs L ⟨d, .call ⟨.builtin .append, #[x, y], #[t, tx]⟩, ty, pos, af, g⟩ (fun v' zs' hs' => zs' = zs ∧ hs' = hs.set q (.row v' e size (m + k) (xs ++ news))) :=
  ef_of fun a ha w hw => by
    have hown := (hw.own _ (List.mem_of_getElem? hk)).1
    obtain ⟨v', w', hr, ho, hg, hn⟩ := run_append_src (ty := ty) hte ht hzs h0 hown (hsrc w hw) hb.1 hb.2 (le_size hw.ext)
    refine ⟨v', zs, _, w', .inl ?_, ⟨rfl, rfl⟩, hw.append hk hg ho hn⟩
    simp only [execOp]
    simp [resolve, invoke, builtin, ha.eval h1, ha.eval h2, hr]

/-- A nil slice is an own row. -/
theorem St.nilRow {w0 : World} {zs : List PH} {hs : List Res} {w : World} (h : St w0 zs hs w) (e : TypeId) (size : Nat) : St w0 zs (.row (.slice none 0 0) e size 0 [] :: hs) w := by
  refine ⟨h.ext, h.zone, fun r hr => ?_, ?_, h.io⟩
  · rcases List.mem_cons.1 hr with rfl | hr
    · exact ⟨World.ownsRow_nil w _ e size, fun b hb => by simp [Res.id, Value.ownBlock] at hb⟩
    · exact h.own r hr
  · rw [List.filterMap_cons]
    exact h.nd

/-- A box that holds a new row. -/
theorem St.newRow {w0 : World} {zs : List PH} {hs : List Res} {w : World} (h : St w0 zs hs w) (e : TypeId) (cells : List Value) (size m c : Nat) (hl : cells.length = c * size) (hm : m ≤ c) (hc : c ≤ maxLen) :
    St w0 zs (.row (.slice (some ⟨w.heap.size, 0, none⟩) m c) e size m (cells.take (m * size)) :: hs) { w with heap := w.heap.push (.cells cells.toArray e (0, 0)) } := by
  have h1 := h.new e cells
  refine ⟨h1.ext, h1.zone, fun r hr => ?_, ?_, h1.io⟩
  · rcases List.mem_cons.1 hr with rfl | hr
    · refine ⟨⟨?_, .inr ⟨w.heap.size, c, cells.toArray, rfl, le_size h.ext, by simp, hm, hc, by simpa using hl, by simp⟩⟩, fun b hb => ?_⟩
      · rw [List.length_take, hl]
        exact Nat.min_eq_left (Nat.mul_le_mul_right _ hm)
      · have := (h1.own (.blk w.heap.size e cells) (by simp)).2 b
        simp only [Res.id, Value.ownBlock, Option.some.injEq] at hb this
        exact this hb
    · exact h1.own r (by simp [hr])
  · have := h1.nd
    rw [List.filterMap_cons] at this ⊢
    exact this

end
end Go.Fw
