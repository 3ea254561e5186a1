/- A text of a proof over this seat: walks over the program's functions and the plain laws that they need. -/
import Derived.Test.YtcolgcdnpfpcdaaFw5
import Derived.Laws.BytesArg
set_option linter.all false
namespace Go.Fw

section
variable {P : Program} {n : Nat} {w0 : World} {zs : List PH} {hs : List Res} {L : List (Nat × Value)} {d : Option Tmp} {ty t t' : TypeId} {pos : String} {af : Array Edge} {g : Option (Nat × Bool)}
variable {x y c o1 o2 o3 : Operand} {u v : Value} {ops : Array Oper} {rest : List Oper}

/-! ### len -/
theorem qt_builtin {b : Builtin} {args : Array Operand} {ats : Array TypeId} (h : ∀ a, Fr n L a → ∀ w, St w0 zs hs w → (builtin b ats ty (args.map fun | .const _ => true | _ => false) (args.map a.eval)).run P w = .ok (.value v) w) :
    Qt P n w0 zs hs L ⟨d, .call ⟨.builtin b, args, ats⟩, ty, pos, af, g⟩ v :=
  qt_of fun a ha w hw => by
    have := h a ha w hw
    simp only [execOp]
    simp only [resolve, invoke, Sem.run_bind, Sem.run_pure, Result.andThen_ok]
    exact this
theorem q_len_s {s b : Nat} {z : Value} (ht : Tf P t .string s b z) {l : List UInt8} (h1 : opv L x = some (vs l)) :
    Qt P n w0 zs hs L ⟨d, .call ⟨.builtin .len, #[x], #[t]⟩, ty, pos, af, g⟩ (vi l.length) :=
  qt_builtin fun a ha w hw => by
    have hsz : (bs l).size = l.length := by simp [ByteArray.size]
    simp [builtin, Builtin.len_, run_underlying ht.und, ha.eval h1, goInt, hsz]
theorem q_len_sl {α : Type} {E : Enc α} {z : PH} {xs : List α} {e : TypeId} {s b : Nat} {zv : Value} (ht : Tf P t (.slice e) s b zv) (hS : Sl E z v xs) (h1 : opv L x = some v) :
    Qt P n w0 zs hs L ⟨d, .call ⟨.builtin .len, #[x], #[t]⟩, ty, pos, af, g⟩ (vi xs.length) :=
  qt_builtin fun a ha w hw => by
    obtain ⟨_, ad, c, rfl, _⟩ := hS
    simp [builtin, Builtin.len_, run_underlying ht.und, ha.eval h1, goInt]
theorem q_len_row {e e' : TypeId} {s b size m : Nat} {zv : Value} {xs : List Value} (ht : Tf P t (.slice e) s b zv) (k : Nat) (hk : hs[k]? = some (.row v e' size m xs)) (h1 : opv L x = some v) :
    Qt P n w0 zs hs L ⟨d, .call ⟨.builtin .len, #[x], #[t]⟩, ty, pos, af, g⟩ (vi m) :=
  qt_builtin fun a ha w hw => by
    have hown := (hw.own _ (List.mem_of_getElem? hk)).1
    rcases hown.2 with ⟨rfl, rfl⟩ | ⟨b, cap, cur, rfl, _⟩ <;> simp [builtin, Builtin.len_, run_underlying ht.und, ha.eval h1, goInt]
theorem q_len_slv {e : TypeId} {s b m c : Nat} {ad : Option Addr} {zv : Value} (ht : Tf P t (.slice e) s b zv) (h1 : opv L x = some (.slice ad m c)) :
    Qt P n w0 zs hs L ⟨d, .call ⟨.builtin .len, #[x], #[t]⟩, ty, pos, af, g⟩ (vi m) :=
  qt_builtin fun a ha w hw => by simp [builtin, Builtin.len_, run_underlying ht.und, ha.eval h1, goInt]
theorem q_len_arr {e : TypeId} {s b m : Nat} {zv : Value} (ht : Tf P t (.array m e) s b zv) (h1 : opv L x = some v) :
    Qt P n w0 zs hs L ⟨d, .call ⟨.builtin .len, #[x], #[t]⟩, ty, pos, af, g⟩ (vi m) :=
  qt_builtin fun a ha w hw => by simp [builtin, Builtin.len_, run_underlying ht.und, goInt]
theorem q_min {k : IntKind} {p q : Int} (h1 : opv L x = some (.int k p)) (h2 : opv L y = some (.int k q)) {ats : Array TypeId} :
    Qt P n w0 zs hs L ⟨d, .call ⟨.builtin .min, #[x, y], ats⟩, ty, pos, af, g⟩ (.int k (min p q)) :=
  qt_builtin fun a ha w hw => by
    have e : (if q < p then q else p) = min p q := by omega
    simp [builtin, Builtin.min_, Builtin.min2, ha.eval h1, ha.eval h2, e]
theorem q_max {k : IntKind} {p q : Int} (h1 : opv L x = some (.int k p)) (h2 : opv L y = some (.int k q)) {ats : Array TypeId} :
    Qt P n w0 zs hs L ⟨d, .call ⟨.builtin .max, #[x, y], ats⟩, ty, pos, af, g⟩ (.int k (max p q)) :=
  qt_builtin fun a ha w hw => by
    have e : (if q > p then q else p) = max p q := by omega
    simp only [gt_iff_lt] at e
    simp [builtin, Builtin.max_, Builtin.max2, ha.eval h1, ha.eval h2, e]

/-! ### strings -/
theorem q_idx_s {s b : Nat} {z : Value} (ht : Tf P t .string s b z) {l : List UInt8} {k : IntKind} {i : Int} (h1 : opv L x = some (vs l)) (h2 : opv L y = some (.int k i)) (hb : 0 ≤ i ∧ i < l.length) :
    Qt P n w0 zs hs L ⟨d, .index t x y, ty, pos, af, g⟩ (vb (l.getD i.toNat 0)) :=
  qt_of fun a ha w hw => by
    simp only [execOp, ha.eval h1, ha.eval h2]
    have hi : i.toNat < l.length := by omega
    have e1 : (bs l)[i.toNat]? = some (l.getD i.toNat 0) := by
      have hsz : i.toNat < (bs l).size := by simpa [ByteArray.size] using hi
      rw [ByteArray.getElem?_lt' _ _ hsz]
      simp [hi]
      rfl
    simp [Instr.index, asIntOf, run_underlying ht.und, hb.1, e1]
theorem bs_extract (l : List UInt8) (lo hi : Nat) : (bs l).extract lo hi = bs ((l.take hi).drop lo) := by
  apply ByteArray.ext
  apply Array.ext'
  simp [bs, ByteArray.data_extract]
  rw [List.drop_take]
theorem q_sl_s {s b : Nat} {z : Value} (ht : Tf P t .string s b z) {l : List UInt8} {k k' : IntKind} {i j : Int} (h1 : opv L x = some (vs l)) (h2 : opv L y = some (.int k i)) (h3 : opv L c = some (.int k' j)) (hb : 0 ≤ i ∧ i ≤ j ∧ j ≤ l.length) :
    Qt P n w0 zs hs L ⟨d, .slice t x (some y) (some c) none, ty, pos, af, g⟩ (vs ((l.take j.toNat).drop i.toNat)) :=
  qt_of fun a ha w hw => by
    simp only [execOp, ha.eval h1, Option.map_some, ha.eval h2, ha.eval h3, Option.map_none]
    have hsz : (bs l).size = l.length := by simp [ByteArray.size]
    have e1 : (Instr.sliceBound (.int k' j) (bs l).size .sliceAlen).run P w = .ok j.toNat w := run_sliceBound (P := P) (w := w) k' j (bs l).size .sliceAlen (by omega) (by omega)
    have e2 : (Instr.sliceBound (.int k i) j.toNat .sliceB).run P w = .ok i.toNat w := run_sliceBound (P := P) (w := w) k i j.toNat .sliceB (by omega) (by omega)
    simp only [hsz] at e1
    simp [Instr.sliceAt, Instr.slice, run_underlying ht.und, Instr.sliceBounds, hsz, e1, e2, bs_extract]
theorem q_sl_s_lo {s b : Nat} {z : Value} (ht : Tf P t .string s b z) {l : List UInt8} {k : IntKind} {i : Int} (h1 : opv L x = some (vs l)) (h2 : opv L y = some (.int k i)) (hb : 0 ≤ i ∧ i ≤ l.length) :
    Qt P n w0 zs hs L ⟨d, .slice t x (some y) none none, ty, pos, af, g⟩ (vs (l.drop i.toNat)) :=
  qt_of fun a ha w hw => by
    simp only [execOp, ha.eval h1, Option.map_some, ha.eval h2, Option.map_none]
    have hsz : (bs l).size = l.length := by simp [ByteArray.size]
    have e2 : (Instr.sliceBound (.int k i) l.length .sliceB).run P w = .ok i.toNat w := run_sliceBound (P := P) (w := w) k i l.length .sliceB (by omega) (by omega)
    simp [Instr.sliceAt, Instr.slice, run_underlying ht.und, Instr.sliceBounds, hsz, e2, bs_extract]
theorem q_sl_s_hi {s b : Nat} {z : Value} (ht : Tf P t .string s b z) {l : List UInt8} {k : IntKind} {i : Int} (h1 : opv L x = some (vs l)) (h2 : opv L y = some (.int k i)) (hb : 0 ≤ i ∧ i ≤ l.length) :
    Qt P n w0 zs hs L ⟨d, .slice t x none (some y) none, ty, pos, af, g⟩ (vs (l.take i.toNat)) :=
  qt_of fun a ha w hw => by
    simp only [execOp, ha.eval h1, Option.map_some, ha.eval h2, Option.map_none]
    have hsz : (bs l).size = l.length := by simp [ByteArray.size]
    have e2 : (Instr.sliceBound (.int k i) l.length .sliceAlen).run P w = .ok i.toNat w := run_sliceBound (P := P) (w := w) k i l.length .sliceAlen (by omega) (by omega)
    simp [Instr.sliceAt, Instr.slice, run_underlying ht.und, Instr.sliceBounds, hsz, e2, bs_extract]

/-! ### bytes to a string -/
theorem strOfNums_bs (l : List UInt8) : strOfNums (l.map fun b => (b.toNat : Int)) = bs l := by
  apply ByteArray.ext
  apply Array.ext'
  have := strOfNums_data (l.map fun b => (b.toNat : Int))
  rw [this]
  simp only [List.map_map]
  have e : ((fun n : Int => UInt8.ofNat n.toNat) ∘ fun b : UInt8 => (b.toNat : Int)) = id := by
    funext b
    simp
  rw [e]
  simp
theorem run_b2s {e : TypeId} {s b s' b' s'' b'' : Nat} {zv zv' zv'' : Value} (ht : Tf P t (.slice e) s b zv) (ht' : Tf P t' .string s' b' zv') (hte : Tf P e (.int .u8) s'' b'' zv'') {w : World} {ad : Option Addr} {xs : List UInt8} {c : Nat}
    (h : ∀ j (hj : j < xs.length), ∃ b off, ad = some ⟨b, off, none⟩ ∧ w.cell? ⟨b, off + j, none⟩ = some (vb xs[j])) : (convert t t' (.slice ad xs.length c)).run P w = .ok (vs xs) w := by
  cases ad with
  | none =>
    have hx : xs = [] := by
      cases xs with
      | nil => rfl
      | cons x xs => obtain ⟨_, _, hh, _⟩ := h 0 (by simp); cases hh
    subst hx
    show (convert t t' (Value.slice none 0 c)).run P w = _
    rw [run_convert_bytes_nil (P := P) w t e ht.und hte.und 0 c t' ht'.und]
    rfl
  | some ad =>
    cases xs with
    | nil =>
      show (convert t t' (Value.slice (some ad) 0 c)).run P w = _
      rw [run_convert_bytes_string w t t' e (some ad) 0 c ht.und hte.und ht'.und]
      simp [Conv.bytesToString, loadCells, loadCellsFrom]
      rfl
    | cons x0 xs =>
      obtain ⟨b, off, hh, _⟩ := h 0 (by simp)
      simp only [Option.some.injEq] at hh
      subst hh
      have := run_convert_bytes_arg (P := P) w t e ht.und hte.und b off (x0 :: xs).length c ((x0 :: xs).map fun b => (b.toNat : Int)) (by simp) (fun i hi => by
        obtain ⟨b', off', hh, h2⟩ := h i hi
        simp only [Option.some.injEq, Addr.mk.injEq] at hh
        obtain ⟨rfl, rfl, _⟩ := hh
        rw [h2]
        simp only [List.getD_eq_getElem?_getD, List.getElem?_map, List.getElem?_eq_getElem hi, Option.map_some, Option.getD_some]) t' ht'.und
      rw [this, strOfNums_bs]
theorem q_b2s_sl {z : PH} {xs : List UInt8} {e : TypeId} {s b s' b' s'' b'' : Nat} {zv zv' zv'' : Value} (ht : Tf P t (.slice e) s b zv) (ht' : Tf P t' .string s' b' zv') (hte : Tf P e (.int .u8) s'' b'' zv'') (hS : Sl encB z v xs) (hz : ZIn w0 zs z) (h1 : opv L x = some v) :
    Qt P n w0 zs hs L ⟨d, .convert t t' x, ty, pos, af, g⟩ (vs xs) :=
  qt_of fun a ha w hw => by
    obtain ⟨_, ad, c, rfl, hlc, h⟩ := hS
    simp only [execOp, ha.eval h1]
    rw [Sem.run_bind, run_b2s ht ht' hte fun j hj => by
      obtain ⟨b, off, cs, ty', fz, cx, rfl, h2, h3, h4⟩ := h j xs[j] (by simp [hj])
      refine ⟨b, off, rfl, ?_⟩
      rw [cell_of_row w b _ cs ty' fz (hw.le hz _ _ h2)]
      have := h4 0 (vb xs[j]) (by rw [h3.1]; rfl)
      simpa [encB, encV] using this]
    rfl
theorem q_b2s_row {xs : List UInt8} {e e' : TypeId} {m : Nat} {s b s' b' s'' b'' : Nat} {zv zv' zv'' : Value} (ht : Tf P t (.slice e) s b zv) (ht' : Tf P t' .string s' b' zv') (hte : Tf P e (.int .u8) s'' b'' zv'') (k : Nat) (hk : hs[k]? = some (.row v e' 1 m (xs.map vb))) (h1 : opv L x = some v) :
    Qt P n w0 zs hs L ⟨d, .convert t t' x, ty, pos, af, g⟩ (vs xs) :=
  qt_of fun a ha w hw => by
    have hown := (hw.own _ (List.mem_of_getElem? hk)).1
    have hlen : m = xs.length := by have := hown.1; simp at this; omega
    subst hlen
    simp only [execOp, ha.eval h1]
    rcases hown.2 with ⟨rfl, hn⟩ | ⟨b, cap, cur, rfl, hb, hg, hnc, hcm, hcs, htake⟩
    · have : xs = [] := List.eq_nil_of_length_eq_zero hn
      subst this
      rw [Sem.run_bind, show (Value.slice none 0 0) = .slice none ([] : List UInt8).length 0 from rfl, run_b2s ht ht' hte (fun j hj => by simp at hj)]
      rfl
    · rw [Sem.run_bind, run_b2s ht ht' hte fun j hj => ⟨b, 0, rfl, by
        rw [cell_of_row w b _ cur e' (0, 0) hg]
        have : (cur.toList.take (xs.length * 1))[j]? = some (vb xs[j]) := by rw [htake]; simp [hj]
        rw [List.getElem?_take] at this
        split at this
        · simpa using this
        · cases this⟩]
      rfl
/-- A part of an array that lies in a box. -/
theorem q_b2s_blk {xs : List UInt8} {e : TypeId} {b off c : Nat} {bt : TypeId} {cs : List Value} {s by_ s' b' s'' b'' : Nat} {zv zv' zv'' : Value} (ht : Tf P t (.slice e) s by_ zv) (ht' : Tf P t' .string s' b' zv') (hte : Tf P e (.int .u8) s'' b'' zv'') (k : Nat) (h1 : opv L x = some (.slice (some ⟨b, off, none⟩) xs.length c)) (hk : hs[k]? = some (.blk b bt cs)) (hc : (cs.drop off).take xs.length = xs.map vb) :
    Qt P n w0 zs hs L ⟨d, .convert t t' x, ty, pos, af, g⟩ (vs xs) :=
  qt_of fun a ha w hw => by
    have hb := (hw.own _ (List.mem_of_getElem? hk)).1.2
    simp only [execOp, ha.eval h1]
    rw [Sem.run_bind, run_b2s ht ht' hte fun j hj => ⟨b, off, rfl, by
      rw [cell_of_row w b _ _ bt (0, 0) hb]
      have h3 : ((cs.drop off).take xs.length)[j]? = some (vb xs[j]) := by rw [hc]; simp [hj]
      rw [List.getElem?_take, if_pos hj, List.getElem?_drop] at h3
      simpa using h3⟩]
    rfl

/-! ### a string to bytes: a row that is frozen from the begin -/
def ph1 (b : Nat) (o : Obj) : PH := fun k => if k = b then some o else none
theorem ph1_some {b k : Nat} {o o' : Obj} (h : ph1 b o k = some o') : k = b ∧ o = o' := by
  unfold ph1 at h
  split at h
  · exact ⟨by assumption, by simpa using h⟩
  · cases h
theorem St.frozen {w0 : World} {zs : List PH} {hs : List Res} {w w' : World} (h : St w0 zs hs w) (o : Obj) (hsz : w'.heap.size = w.heap.size + 1) (hw : ∀ b, b < w.heap.size → w'.heap[b]? = w.heap[b]?) (hn : w'.heap[w.heap.size]? = some o) (hio : Io w w') : St w0 (ph1 w.heap.size o :: zs) hs w' := by
  have hl : (ph w).le (ph w') := fun b ob hb => by
    have := ph_some hb
    simp only [ph] at hb ⊢
    rw [hw b this]
    exact hb
  have h1 := h.later hl hio
  refine ⟨h1.ext, fun z hz => ?_, fun r hr => ⟨(h1.own r hr).1, fun b hb z hz => ?_⟩, h1.nd, h1.io⟩
  · rcases List.mem_cons.1 hz with rfl | hz
    · refine ⟨fun b ob hb => ?_, fun b ob hb => ?_⟩
      · obtain ⟨rfl, rfl⟩ := ph1_some hb; exact hn
      · obtain ⟨rfl, rfl⟩ := ph1_some hb; exact le_size h.ext
    · exact h1.zone z hz
  · rcases List.mem_cons.1 hz with rfl | hz
    · have := (Res.ok_ge (h.own r hr).1 b hb).2
      unfold ph1
      rw [if_neg (by omega)]
    · exact (h1.own r hr).2 b hb z hz
theorem ef_s2b {e : TypeId} {s b s' b' s'' b'' : Nat} {zv zv' zv'' : Value} (ht : Tf P t .string s b zv) (ht' : Tf P t' (.slice e) s' b' zv') (hte : Tf P e (.int .u8) s'' b'' zv'') {l : List UInt8} (h1 : opv L x = some (vs l)) (hl : l.length ≤ 140737488355328) :
    Ef P n w0 zs hs L ⟨d, .convert t t' x, ty, pos, af, g⟩ (fun v zs' hs' => ∃ z, zs' = z :: zs ∧ hs' = hs ∧ Sl encB z v l) :=
  ef_of fun a ha w hw => by
    have hsz : (bs l).size = l.length := by simp [ByteArray.size]
    have hr := run_bytes_of_string (P := P) w t t' e (bs l) ht.und ht'.und hte.und
    rw [hsz] at hr
    generalize hcp : grownCap w l.length 0 e = cap at hr
    have hcap : l.length ≤ cap := by rw [← hcp]; exact grownCap_ge w l.length 0 e
    generalize hob : Obj.cells (bytesRow (bs l) cap) e ((bytesRow (bs l) cap).size, (bytesRow (bs l) cap).size + 1) = ob at hr
    have hst := hw.frozen (w' := w.drew.alloc ob) ob (by simp) (fun b hb => heap_alloc_old w ob hb) (heap_alloc_new w ob) ⟨rfl, rfl, rfl⟩
    refine ⟨.slice (some ⟨w.heap.size, 0, none⟩) l.length cap, ph1 w.heap.size ob :: zs, hs, w.drew.alloc ob, .inl ?_, ⟨_, rfl, rfl, hl, some ⟨w.heap.size, 0, none⟩, cap, rfl, hcap, fun i xx hx => ?_⟩, hst⟩
    · simp only [execOp, ha.eval h1]
      rw [Sem.run_bind, hr]
      rfl
    · have hi := (List.getElem?_eq_some_iff.1 hx).1
      subst hob
      refine ⟨w.heap.size, 0, bytesRow (bs l) cap, e, _, [vb xx], rfl, by unfold ph1; rw [if_pos rfl], ⟨rfl, trivial⟩, fun j uu hu => ?_⟩
      cases j with
      | zero =>
        simp only [List.getElem?_cons_zero, Option.some.injEq] at hu
        subst hu
        show (bytesRow (bs l) cap)[0 + i * 1 + 0]? = _
        unfold bytesRow
        rw [Array.getElem?_append_left (by simp; omega)]
        simp [hx]
      | succ j => simp at hu
end
end Go.Fw
