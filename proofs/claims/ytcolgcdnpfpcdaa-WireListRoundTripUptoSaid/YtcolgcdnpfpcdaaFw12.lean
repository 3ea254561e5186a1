/- A text of a proof over this seat: walks over the program's functions and the plain laws that they need. -/
import Derived.Test.YtcolgcdnpfpcdaaFw11
set_option linter.all false
namespace Go.Fw
section
variable {P : Program} {n : Nat} {w0 : World} {zs : List PH} {hs : List Res} {L : List (Nat × Value)} {d : Option Tmp} {ty t t' : TypeId} {pos : String} {af : Array Edge} {g : Option (Nat × Bool)}
variable {x y c o1 o2 o3 : Operand} {u v : Value} {ops : Array Oper} {rest : List Oper}
/-- A whole named variable. -/
theorem q_ld_oldW {dd : TypeDesc} {s by_ : Nat} {zv : Value} (ht : Tf P t dd s by_ zv) {b : Nat} {bt : TypeId} {cs : List Value} {fz : Nat × Nat} (h1 : opv L x = some (.pointer (some ⟨b, 0, none⟩))) (hk : w0.heap[b]? = some (.cells cs.toArray bt fz)) (hl : cs.length = s) (hd : aggD dd = true) :
    Qt P n w0 zs hs L ⟨d, .load t x, ty, pos, af, g⟩ (.agg cs.toArray) :=
  q_ld_oldA ht h1 hk (by simp only [List.drop_zero]; rw [List.take_of_length_le (by omega)]) (by simp; omega) hd

theorem opvs_mapM {L : List (Nat × Value)} : ∀ (l : List (Nat × Operand)) (vs : List Value), opvs L (l.map (·.2)) = some vs → (l.mapM fun p => (opv L p.2).map fun v => (p.1, v)) = some (List.zip (l.map (·.1)) vs)
  | [], vs, h => by simp [opvs] at h; subst h; rfl
  | p :: l, vs, h => by
    rw [List.mapM_cons]
    simp only [List.map_cons] at h
    cases ho : opv L p.2 with
    | none => simp [opvs, ho] at h
    | some u =>
      cases hm : opvs L (l.map (·.2)) with
      | none => simp [opvs, ho, hm] at h
      | some r =>
        simp [opvs, ho, hm] at h
        subst h
        simp [opvs_mapM l r hm]

/-- An array all of whose elements (one cell each) are given. -/
theorem q_buildA {m : Nat} {e : TypeId} {s by_ : Nat} {zv : Value} (ht : Tf P t (.array m e) s by_ zv) {de : TypeDesc} {se be : Nat} {ze : Value} (hte : Tf P e de se be ze) {parts : Array (Nat × Operand)} {vs : List Value} (h1 : opvs L (parts.toList.map (·.2)) = some vs)
    (hf : Instr.fill (fun i => some (i * se, se)) zv.cells (List.zip (parts.toList.map (·.1)) vs) = some vs.toArray) :
    Qt P n w0 zs hs L ⟨d, .build t parts, ty, pos, af, g⟩ (.agg vs.toArray) :=
  q_build (opvs_mapM _ _ h1) (run_build_arr ht hte hf)

/-! ### boxes that hold several things one after the other -/
@[reducible, simp] def segs : List (List Value) → List Value → List Value
  | [], r => r
  | p :: ps, r => p ++ segs ps r
@[reducible, simp] def segLen : List (List Value) → Nat
  | [] => 0
  | p :: ps => p.length + segLen ps
theorem segs_eq : ∀ (ps : List (List Value)) (r : List Value), segs ps r = ps.flatten ++ r
  | [], _ => rfl
  | p :: ps, r => by simp [segs, segs_eq ps r]
theorem segLen_eq : ∀ (ps : List (List Value)), segLen ps = ps.flatten.length
  | [] => rfl
  | p :: ps => by simp [segLen, segLen_eq ps]

theorem q_ld_seg {α : Type} {f : α → Value} {dd : TypeDesc} {s by_ : Nat} {zv : Value} (ht : Tf P t dd s by_ zv) (k : Nat) (ps : List (List Value)) {b off : Nat} {bt : TypeId} {post : List Value} {xs : List α} (h1 : opv L x = some (.pointer (some ⟨b, off, none⟩))) (hk : hs[k]? = some (.blk b bt (segs ps (xs.map f ++ post)))) (ho : off = segLen ps) (hl : xs.length = s) (hd : aggD dd = true) :
    Qt P n w0 zs hs L ⟨d, .load t x, ty, pos, af, g⟩ (.agg (xs.map f).toArray) := by
  subst ho hl
  rw [segs_eq] at hk
  refine q_ld_blkA ht k h1 hk ?_ ?_ hd
  · rw [segLen_eq, List.drop_left, List.take_left' (by simp)]
  · rw [segLen_eq]; simp
theorem q_ld_seg1 {dd : TypeDesc} {s by_ : Nat} {zv : Value} (ht : Tf P t dd s by_ zv) (k : Nat) (ps : List (List Value)) {b off : Nat} {bt : TypeId} {post : List Value} {r : Value} (h1 : opv L x = some (.pointer (some ⟨b, off, none⟩))) (hk : hs[k]? = some (.blk b bt (segs ps (r :: post)))) (ho : off = segLen ps) (hd : aggD dd = false) :
    Qt P n w0 zs hs L ⟨d, .load t x, ty, pos, af, g⟩ r := by
  subst ho
  rw [segs_eq] at hk
  refine q_ld_blk1 ht k h1 hk ?_ hd
  rw [segLen_eq]
  simp
theorem q_ld_segM {α : Type} {f : α → Value} {dd : TypeDesc} {s by_ : Nat} {zv : Value} (ht : Tf P t dd s by_ zv) (k : Nat) (ps : List (List Value)) (dflt : α) {b o0 j : Nat} {bt : TypeId} {post : List Value} {xs : List α} (h1 : opv L x = some (.pointer (some ⟨b, o0 + j * 1, none⟩))) (hk : hs[k]? = some (.blk b bt (segs ps (xs.map f ++ post)))) (ho : o0 = segLen ps) (hl : j < xs.length) (hd : aggD dd = false) :
    Qt P n w0 zs hs L ⟨d, .load t x, ty, pos, af, g⟩ (f (xs.getD j dflt)) := by
  subst ho
  rw [segs_eq] at hk
  refine q_ld_blkM' ht k j dflt h1 hk ?_ hl hd
  rw [segLen_eq]
  simp
theorem ef_st_seg {α : Type} {f : α → Value} {dd : TypeDesc} {s by_ : Nat} {zv : Value} (ht : Tf P t dd s by_ zv) (k : Nat) (ps : List (List Value)) {b off : Nat} {bt : TypeId} {post : List Value} {xs ys : List α} (h1 : opv L x = some (.pointer (some ⟨b, off, none⟩))) (h2 : opv L y = some (.agg (ys.map f).toArray)) (hk : hs[k]? = some (.blk b bt (segs ps (xs.map f ++ post)))) (ho : off = segLen ps) (hl : xs.length = s) (hl2 : ys.length = s) (h1c : ∀ u, (f u).oneCell' = true) :
    Ef P n w0 zs hs L ⟨d, .store t x y, ty, pos, af, g⟩ (fun v zs' hs' => v = undef ∧ zs' = zs ∧ hs' = hs.set k (.blk b bt (segs ps (ys.map f ++ post)))) := by
  subst ho hl
  rw [segs_eq] at hk
  refine ef_store ht k h1 h2 hk rfl (by simp [hl2]) (by simp [h1c]) ?_ ?_
  · rw [segLen_eq]; simp
  · rw [segLen_eq, segs_eq, List.take_left, ← List.drop_drop, List.drop_left, List.drop_left' (by simp), List.append_assoc]
theorem ef_st_seg1 {dd : TypeDesc} {by_ : Nat} {zv : Value} (ht : Tf P t dd 1 by_ zv) (k : Nat) (ps : List (List Value)) {b off : Nat} {bt : TypeId} {post : List Value} {r r' : Value} (h1 : opv L x = some (.pointer (some ⟨b, off, none⟩))) (h2 : opv L y = some r') (hk : hs[k]? = some (.blk b bt (segs ps (r :: post)))) (ho : off = segLen ps) (h1c : r'.oneCell' = true) :
    Ef P n w0 zs hs L ⟨d, .store t x y, ty, pos, af, g⟩ (fun v zs' hs' => v = undef ∧ zs' = zs ∧ hs' = hs.set k (.blk b bt (segs ps (r' :: post)))) := by
  subst ho
  rw [segs_eq] at hk
  have := ef_store1 (ty := ty) (pos := pos) (af := af) (g := g) (d := d) (n := n) (w0 := w0) (zs := zs) ht k h1 h2 hk h1c (by rw [segLen_eq]; simp)
  rwa [show (ps.flatten ++ r :: post).set (segLen ps) r' = segs ps (r' :: post) by rw [segLen_eq, segs_eq]; simp] at this
theorem ef_st_segM {α : Type} {f : α → Value} {dd : TypeDesc} {by_ : Nat} {zv : Value} (ht : Tf P t dd 1 by_ zv) (k : Nat) (ps : List (List Value)) {b o0 j : Nat} {bt : TypeId} {post : List Value} {xs : List α} {e : α} (h1 : opv L x = some (.pointer (some ⟨b, o0 + j * 1, none⟩))) (h2 : opv L y = some (f e)) (hk : hs[k]? = some (.blk b bt (segs ps (xs.map f ++ post)))) (ho : o0 = segLen ps) (hl : j < xs.length) (h1c : (f e).oneCell' = true) :
    Ef P n w0 zs hs L ⟨d, .store t x y, ty, pos, af, g⟩ (fun v zs' hs' => v = undef ∧ zs' = zs ∧ hs' = hs.set k (.blk b bt (segs ps ((xs.set j e).map f ++ post)))) := by
  subst ho
  rw [segs_eq] at hk
  have := ef_st_blkM' (ty := ty) (pos := pos) (af := af) (g := g) (d := d) (n := n) (w0 := w0) (zs := zs) ht k (pre := ps.flatten) j h1 h2 hk (by rw [segLen_eq]; simp) hl h1c
  rwa [← segs_eq] at this

theorem seg_take {α : Type} {f : α → Value} (ps : List (List Value)) (xs : List α) (post : List Value) : ((segs ps (xs.map f ++ post)).drop (segLen ps)).take xs.length = xs.map f := by
  rw [segs_eq, segLen_eq, List.drop_left, List.take_left' (by simp)]
/-- A slice of a whole array that lies in a box among others. -/
theorem blk_segV {α : Type} {f : α → Value} {p : α → Prop} {h0 : ∀ x, (f x).oneCell' = true} {w : World} (hS : St w0 zs hs w) (k : Nat) (ps : List (List Value)) {b off m c : Nat} {bt : TypeId} {post : List Value} {xs : List α} (hk : hs[k]? = some (.blk b bt (segs ps (xs.map f ++ post)))) (ho : off = segLen ps) (hm : m = xs.length ∧ m ≤ c ∧ m ≤ 140737488355328) (hp : ∀ x ∈ xs, p x) :
    Sl (encV f p h0) (ph w) (.slice (some ⟨b, off, none⟩) m c) xs :=
  blk_slV hS k hk (by subst ho; rw [hm.1]; exact seg_take ps xs post) hm hp

theorem oc_nil : ∀ u ∈ ([] : List Value), u.oneCell' = true := fun _ h => absurd h (by simp)
theorem oc_app {a b : List Value} (h1 : ∀ u ∈ a, u.oneCell' = true) (h2 : ∀ u ∈ b, u.oneCell' = true) : ∀ u ∈ a ++ b, u.oneCell' = true := fun u h => (List.mem_append.1 h).elim (h1 u) (h2 u)
theorem oc_map {α : Type} {f : α → Value} {l : List α} (h1 : ∀ u, (f u).oneCell' = true) : ∀ u ∈ l.map f, u.oneCell' = true := fun u h => by obtain ⟨x, _, rfl⟩ := List.mem_map.1 h; exact h1 x
theorem oc_cons {v : Value} {l : List Value} (h1 : v.oneCell' = true) (h2 : ∀ u ∈ l, u.oneCell' = true) : ∀ u ∈ v :: l, u.oneCell' = true := fun u h => by (rcases List.mem_cons.1 h with rfl | h; exact h1; exact h2 u h)
theorem oc_rep {v : Value} {n : Nat} (h1 : v.oneCell' = true) : ∀ u ∈ List.replicate n v, u.oneCell' = true := fun u h => by rw [(List.mem_replicate.1 h).2]; exact h1

/-! ### a struct that is built -/
theorem run_places {fs : List Field} {w : World} : ∀ {places : List (Nat × Nat)}, (fs.mapM fun f => (P.info? f.type).map fun i => (f.offset, i.size)) = some places → (fs.mapM fun f => (do pure (f.offset, ← sizeOf f.type) : Sem (Nat × Nat))).run P w = .ok places w := by
  induction fs with
  | nil => intro places h; simp at h; subst h; simp
  | cons f fs ih =>
    intro places h
    rw [List.mapM_cons] at h
    cases hi : P.info? f.type with
    | none => simp [hi] at h
    | some i =>
      cases hm : (fs.mapM fun f => (P.info? f.type).map fun i => (f.offset, i.size)) with
      | none => simp [hi, hm] at h
      | some r =>
        simp [hi, hm] at h
        subst h
        rw [List.mapM_cons]
        have e0 : (sizeOf f.type).run P w = .ok i.size w := by simp [sizeOf, typeInfo, hi]
        simp only [Sem.run_bind, e0, Result.andThen_ok, Sem.run_pure]
        have := ih hm
        rw [this]
        simp
theorem run_build_struct {fs : List Field} {s by_ : Nat} {zv : Value} (ht : Tf P t (.struct fs.toArray) s by_ zv) {places : List (Nat × Nat)} (hp : (fs.mapM fun f => (P.info? f.type).map fun i => (f.offset, i.size)) = some places) {parts : List (Nat × Value)} {cells : List Value} (hf : Instr.fill (places.toArray[·]?) zv.cells parts = some cells.toArray) (w : World) :
    (Instr.build t parts.toArray).run P w = .ok (.agg cells.toArray) w := by
  have h1 := run_places (P := P) (w := w) hp
  have h2 : (fs.toArray.mapM fun f => (do pure (f.offset, ← sizeOf f.type) : Sem (Nat × Nat))).run P w = .ok places.toArray w := by
    rw [List.mapM_toArray, Sem.run_map, h1]
    rfl
  simp only [Instr.build, ht.zero, Sem.run_bind, Result.andThen_ok, run_underlying ht.und]
  rw [h2]
  simp only [List.getElem?_toArray] at hf
  simp [hf]
/-- The string of a whole array's bytes. -/
theorem q_b2s_blkM {xs : List UInt8} {e : TypeId} {b m c : Nat} {bt : TypeId} {s by_ s' b' s'' b'' : Nat} {zv zv' zv'' : Value} (ht : Tf P t (.slice e) s by_ zv) (ht' : Tf P t' .string s' b' zv') (hte : Tf P e (.int .u8) s'' b'' zv'') (k : Nat) (h1 : opv L x = some (.slice (some ⟨b, 0, none⟩) m c)) (hk : hs[k]? = some (.blk b bt (xs.map vb))) (hm : xs.length = m) :
    Qt P n w0 zs hs L ⟨d, .convert t t' x, ty, pos, af, g⟩ (vs xs) := by
  subst hm
  exact q_b2s_blk ht ht' hte k h1 hk (by rw [List.drop_zero, List.take_of_length_le (by simp)])
theorem fill_go : ∀ (vs pre post : List Value), (∀ v ∈ vs, v.oneCell' = true) → post.length = vs.length → Instr.fill (fun i => some (i * 1, 1)) (pre ++ post).toArray (List.zip (List.range' pre.length vs.length) vs) = some (pre ++ vs).toArray
  | [], pre, post, _, hp => by
    have : post = [] := List.eq_nil_of_length_eq_zero (by simpa using hp)
    subst this
    simp [Instr.fill]
  | v :: vs, pre, post, h1, hp => by
    cases post with
    | nil => simp at hp
    | cons p post =>
      have hv := h1 v (by simp)
      have hc : v.cells = #[v] := by cases v <;> first | rfl | (simp [Value.oneCell'] at hv)
      rw [List.length_cons, List.range'_succ, List.zip_cons_cons]
      simp only [Instr.fill, hc]
      rw [if_neg (by simp)]
      have e : (Array.foldl (fun cs (x : Value × Nat) => cs.setIfInBounds (pre.length * 1 + x.2) x.1) (pre ++ p :: post).toArray (#[v].zipIdx)) = ((pre ++ [v]) ++ post).toArray := by
        simp
      have ih := fill_go vs (pre ++ [v]) post (fun u hu => h1 u (by simp [hu])) (by simpa using hp)
      rw [show (pre ++ [v]).length = pre.length + 1 by simp] at ih
      refine Eq.trans ?_ (ih.trans (by simp))
      rw [← e]
theorem fill_full {m : Nat} {cells : Array Value} {vs : List Value} (hm : cells.size = m) (hl : vs.length = m) (h1 : ∀ v ∈ vs, v.oneCell' = true) : Instr.fill (fun i => some (i * 1, 1)) cells (List.zip (List.range' 0 vs.length) vs) = some vs.toArray := by
  have := fill_go vs [] cells.toList h1 (by simp [hm, hl])
  simpa using this
/-- A slice all of whose elements (one cell each) are given. -/
theorem ef_bsliceA {e : TypeId} {s by_ : Nat} {zv : Value} (ht : Tf P t (.slice e) s by_ zv) {de : TypeDesc} {be : Nat} {ze : Value} (hte : Tf P e de 1 be ze) {m : Nat} {parts : Array (Nat × Operand)} {vs : List Value} (h1 : opvs L (parts.toList.map (·.2)) = some vs)
    (hix : parts.toList.map (·.1) = List.range' 0 vs.length) (h1c : ∀ v ∈ vs, v.oneCell' = true) (hb : m * 1 ≤ 16777216) (h0 : (m * 1 == 0) = false) (hl : vs.length = m) :
    Ef P n w0 zs hs L ⟨d, .buildSlice t m parts, ty, pos, af, g⟩ (fun v zs' hs' => zs' = zs ∧ hs' = .row v e 1 m vs :: hs) :=
  ef_bslice ht hte (opvs_mapM _ _ h1) (by rw [hix]; exact fill_full (m := m) (by simp) hl h1c) hb h0 (by simpa using hl)
/-- A struct all of whose fields (one cell each) are given. -/
theorem q_buildS {fs : List Field} {s by_ : Nat} {zv : Value} (ht : Tf P t (.struct fs.toArray) s by_ zv) {places : List (Nat × Nat)} (hp : (fs.mapM fun f => (P.info? f.type).map fun i => (f.offset, i.size)) = some places) {parts : Array (Nat × Operand)} {vs : List Value} (h1 : opvs L (parts.toList.map (·.2)) = some vs)
    (hf : Instr.fill (places.toArray[·]?) zv.cells (List.zip (parts.toList.map (·.1)) vs) = some vs.toArray) :
    Qt P n w0 zs hs L ⟨d, .build t parts, ty, pos, af, g⟩ (.agg vs.toArray) :=
  q_build (opvs_mapM _ _ h1) (run_build_struct ht hp hf)

/-! ### copy of a string's bytes into a box -/
theorem run_copy_str {e sT : TypeId} {s by_ : Nat} {zv : Value} (ht : Tf P t (.slice e) s by_ zv) {de : TypeDesc} {be : Nat} {ze : Value} (hte : Tf P e de 1 be ze) {w : World} {b off dl dc : Nat} {bt : TypeId} {cs : List Value} (tx : List UInt8) (hb : w.heap[b]? = some (.cells cs.toArray bt (0, 0))) (hl : off + dl ≤ cs.length) (ty : TypeId) :
    (Builtin.copy_ #[t, sT] ty #[.slice (some ⟨b, off, none⟩) dl dc, vs tx]).run P w = .ok (vi (min tx.length dl)) (w.setRow b (cs.take off ++ (tx.take (min tx.length dl)).map vb ++ cs.drop (off + min tx.length dl)).toArray) := by
  have hst := run_storeCells_at P b off bt ((tx.take (min tx.length dl)).map vb) 0 cs.toArray w hb (by simp; omega) (by intro v hv; obtain ⟨_, _, rfl⟩ := List.mem_map.1 hv; rfl)
  simp only [Nat.add_zero] at hst
  have hm : ∀ a b : Nat, Nat.min a b = min a b := fun _ _ => rfl
  simp [Builtin.copy_, run_underlying ht.und, Builtin.lenOf, Builtin.firstCells, hte.sizeOf, hm]
  have hsz : (bs tx).size = tx.length := by simp [bs, ByteArray.size]
  rw [hsz]
  have e1 : List.take (min tx.length dl) (List.map (fun b => Value.int IntKind.u8 ↑b.toNat) tx) = List.map vb (List.take (min tx.length dl) tx) := by rw [List.map_take]
  rw [e1, hst]
  have hlen : (List.map vb (List.take (min tx.length dl) tx)).length = min tx.length dl := by simp
  rw [hlen]
  simp only [Result.andThen_ok, List.append_assoc, List.map_take]
  have : goInt ((min tx.length dl : Nat) : Int) = vi (min (tx.length : Int) (dl : Int)) := by
    rw [show ((min tx.length dl : Nat) : Int) = min (tx.length : Int) (dl : Int) by omega]
    rfl
  rw [this]

/-- copy(a[i:], s) where a is an array that lies in a box among others. -/
theorem ef_copy_segM {e sT : TypeId} {s by_ : Nat} {zv : Value} (ht : Tf P t (.slice e) s by_ zv) {de : TypeDesc} {be : Nat} {ze : Value} (hte : Tf P e de 1 be ze) (k : Nat) (ps : List (List Value)) {b o0 j dl dc : Nat} {bt : TypeId} {post : List Value} {xs tx : List UInt8}
    (h1 : opv L x = some (.slice (some ⟨b, o0 + j * 1, none⟩) dl dc)) (h2 : opv L y = some (vs tx)) (hk : hs[k]? = some (.blk b bt (segs ps (xs.map vb ++ post)))) (ho : o0 = segLen ps) (hl : j + dl ≤ xs.length) :
    Ef P n w0 zs hs L ⟨d, .call ⟨.builtin .copy, #[x, y], #[t, sT]⟩, ty, pos, af, g⟩ (fun v zs' hs' => v = vi (min tx.length dl) ∧ zs' = zs ∧ hs' = hs.set k (.blk b bt (segs ps ((xs.take j ++ (tx.take (min tx.length dl) ++ xs.drop (j + min tx.length dl))).map vb ++ post)))) :=
  ef_of fun a ha w hw => by
    subst ho
    have hb := (hw.own _ (List.mem_of_getElem? hk)).1
    have hr := run_copy_str (sT := sT) ht hte (w := w) (off := segLen ps + j * 1) (dl := dl) (dc := dc) tx hb.2 (by rw [segs_eq, segLen_eq]; simp; omega) ty
    have he : (List.take (segLen ps + j * 1) (segs ps (xs.map vb ++ post)) ++ List.map vb (List.take (min tx.length dl) tx) ++ List.drop (segLen ps + j * 1 + min tx.length dl) (segs ps (xs.map vb ++ post))) = segs ps ((xs.take j ++ (tx.take (min tx.length dl) ++ xs.drop (j + min tx.length dl))).map vb ++ post) := by
      rw [segs_eq, segs_eq, segLen_eq, Nat.mul_one, List.take_length_add_append, Nat.add_assoc, List.drop_length_add_append, List.take_append_of_le_length (by simp; omega), List.drop_append_of_le_length (by simp; omega)]
      simp
    have hS := hw.store (off := segLen ps + j * 1) (c := (tx.take (min tx.length dl)).map vb) hk (by rw [segs_eq, segLen_eq]; simp; omega)
    rw [show ((tx.take (min tx.length dl)).map vb).length = min tx.length dl by simp] at hS
    rw [he] at hr hS
    generalize w.setRow b _ = w2 at hr hS
    refine ⟨_, zs, _, _, .inl ?_, ⟨rfl, rfl, rfl⟩, hS⟩
    simp only [Nat.mul_one] at hr
    simp only [execOp, resolve]
    simp [invoke, builtin, ha.eval h1, ha.eval h2, hr]
end
end Go.Fw
