/- A text of a proof over this seat: walks over the program's functions and the plain laws that they need. -/
import Derived.Test.YtcolgcdnpfpcdaaWi5
import Derived.Test.YtcolgcdnpfpcdaaFw20
set_option linter.all false
namespace Go.Fw
theorem Sl.nil {α : Type} {E : Enc α} {z : PH} : Sl E z (.slice none 0 0) [] := ⟨by simp, none, 0, rfl, Nat.le_refl _, fun i x h => by simp at h⟩
theorem St.zone0 {w0 : World} {zs : List PH} {hs : List Res} {w : World} (h : St w0 zs hs w) : St w0 ((fun _ => none) :: zs) hs w :=
  ⟨h.ext, fun z hz => by
    rcases List.mem_cons.1 hz with rfl | hz
    · exact ⟨fun b o hb => by simp at hb, fun b o hb => by simp at hb⟩
    · exact h.zone z hz, fun r hr => ⟨(h.own r hr).1, fun b hb z hz => by
    rcases List.mem_cons.1 hz with rfl | hz
    · rfl
    · exact (h.own r hr).2 b hb z hz⟩, h.nd, h.io⟩
/-- What a decoder of a list hands back. -/
def LsR {α : Type} (E : Enc α) (f : List α × Int × Int) (r : Value) (zs : List PH) (hs : List Res) : Prop :=
  ∃ v z, r = .tuple [v, vi f.2.1, vi f.2.2].toArray ∧ Sl E z v f.1 ∧ zs = [z] ∧ hs = []
theorem ret_nil {α : Type} {E : Enc α} {f : List α × Int × Int} {e : Int} (h : f = ([], 0, e)) : LsR E f (.tuple [.slice none 0 0, vi 0, vi e].toArray) [fun _ => none] [] := ⟨_, _, by rw [h], by rw [h]; exact Sl.nil, rfl, rfl⟩
theorem ret_sl {α : Type} {E : Enc α} {f : List α × Int × Int} {l : List α} {p : Int} {v : Value} {z : PH} (h : f = (l, p, 0)) (hs : Sl E z v l) : LsR E f (.tuple [v, vi p, vi 0].toArray) [z] [] := ⟨_, _, by rw [h], by rw [h]; exact hs, rfl, rfl⟩
namespace Wi
theorem getInt_bd (b : List UInt8) : 0 ≤ (getInt b).2.1 ∧ (getInt b).2.1 ≤ b.length ∧ (getInt b).2.1 ≤ 9 := by
  rcases getInt_e b with h | ⟨h, _⟩
  · have := getInt_pos h; omega
  · have e : (getInt b).2.1 = 0 := by rw [h]
    omega
theorem getBytes_pos {b : List UInt8} (h : (getBytes b).2.2 = 0) : 1 ≤ (getBytes b).2.1 ∧ (getBytes b).2.1 ≤ b.length ∧ (getBytes b).1.length ≤ b.length := by
  unfold getBytes at h ⊢
  split at h
  · rename_i h1; exact absurd h h1
  rename_i h1
  rw [if_neg h1]
  obtain ⟨_, h2, h3, h4, _⟩ := cnt_ok (size := 1) (b := b) (by omega)
  refine ⟨by dsimp only; omega, by dsimp only; omega, ?_⟩
  dsimp only
  rw [List.length_take, List.length_drop]
  omega
section
variable {α : Type} {dec : List UInt8 → α × Int × Int}
theorem run_next {b : List UInt8} {at0 : Int} {j : Nat} {acc : List α} {at_ : Int} (h : run dec b at0 j = (acc, at_, 0)) (h1 : (dec (b.drop at_.toNat)).2.2 = 0) : run dec b at0 (j + 1) = (acc ++ [(dec (b.drop at_.toNat)).1], at_ + (dec (b.drop at_.toNat)).2.1, 0) := by
  rw [run_succ, h, if_neg (by simp), if_neg (by dsimp only; omega)]
theorem run_stop {b : List UInt8} {at0 : Int} {j n : Nat} {acc : List α} {at_ : Int} (h : run dec b at0 j = (acc, at_, 0)) (h1 : ¬ (dec (b.drop at_.toNat)).2.2 = 0) (hj : j < n) : run dec b at0 n = ([], 0, (dec (b.drop at_.toNat)).2.2) := by
  have e : run dec b at0 (j + 1) = ([], 0, (dec (b.drop at_.toNat)).2.2) := by
    rw [run_succ, h, if_neg (by simp)]
    dsimp only
    rw [if_pos h1]
  rw [run_err' _ _ (show j + 1 ≤ n by omega) (by rw [e]; exact h1), e]
theorem getList_err {b : List UInt8} (h : ¬ (cnt 1 b).2.2 = 0) : getList dec b = ([], 0, (cnt 1 b).2.2) := by unfold getList; rw [if_pos h]
theorem getList_run {b : List UInt8} (h : (cnt 1 b).2.2 = 0) : getList dec b = run dec b (cnt 1 b).2.1 (cnt 1 b).1.toNat := by unfold getList; rw [if_neg (by omega)]
theorem getList_stop {b : List UInt8} (h : (cnt 1 b).2.2 = 0) {j : Int} (hj0 : 0 ≤ j) {acc : List α} {at_ : Int} (hr : run dec b (cnt 1 b).2.1 j.toNat = (acc, at_, 0)) (h1 : ¬ (dec (b.drop at_.toNat)).2.2 = 0) (hj : j < (cnt 1 b).1) : getList dec b = ([], 0, (dec (b.drop at_.toNat)).2.2) := by
  rw [getList_run h]
  exact run_stop hr h1 (by omega)
theorem getList_end {b : List UInt8} (h : (cnt 1 b).2.2 = 0) {j : Int} (hj0 : 0 ≤ j) {acc : List α} {at_ : Int} (hr : run dec b (cnt 1 b).2.1 j.toNat = (acc, at_, 0)) (h1 : j ≤ (cnt 1 b).1) (hj : ¬ j < (cnt 1 b).1) : getList dec b = (acc, at_, 0) := by
  rw [getList_run h, ← hr, show (cnt 1 b).1.toNat = j.toNat by omega]
theorem run_range {enc : α → List UInt8} {p : α → Prop} (hc : Codec enc dec p) {b : List UInt8} {at0 : Int} (h0 : 0 ≤ at0 ∧ at0 ≤ b.length) {j : Nat} {acc : List α} {at_ : Int} (hr : run dec b at0 j = (acc, at_, 0)) : acc.length = j ∧ ∀ x ∈ acc, p x := by
  obtain ⟨n, rfl⟩ := Int.eq_ofNat_of_zero_le h0.1
  have := run_canon hc b n (by omega) j acc at_ hr
  exact ⟨this.1, this.2.1⟩
end
end Wi
end Go.Fw
namespace Go.Fw
namespace Wi
theorem mem_flat_le {α : Type} (enc : α → List UInt8) {xs : List α} {x : α} (h : x ∈ xs) : (enc x).length ≤ (xs.flatMap enc).length := by
  induction xs with
  | nil => cases h
  | cons y xs ih =>
    rw [List.flatMap_cons, List.length_append]
    rcases List.mem_cons.1 h with rfl | h
    · omega
    · have := ih h; omega
theorem str_small {b : List UInt8} {at0 : Int} (h0 : 0 ≤ at0 ∧ at0 ≤ b.length) {j : Nat} {acc : List (List UInt8)} {at_ : Int} (hr : run getBytes b at0 j = (acc, at_, 0)) : ∀ x ∈ acc, x.length ≤ b.length := by
  obtain ⟨n, rfl⟩ := Int.eq_ofNat_of_zero_le h0.1
  obtain ⟨_, _, _, t, h4⟩ := run_canon codec_bytes b n (by omega) j acc at_ hr
  intro x hx
  have h1 := mem_flat_le bytes hx
  have h2 := congrArg List.length h4
  rw [List.length_drop, List.length_append] at h2
  have h3 : x.length ≤ (bytes x).length := by unfold bytes; rw [List.length_append]; omega
  omega
/-- The digests read so far. -/
def dgL (b : List UInt8) (a j : Nat) : List (List UInt8) := (List.range j).map fun k => (b.drop (a + 16 * k)).take 16
theorem dgL_len (b : List UInt8) (a j : Nat) : (dgL b a j).length = j := by simp [dgL]
theorem dgL_succ (b : List UInt8) (a j : Nat) : dgL b a (j + 1) = dgL b a j ++ [(b.drop (a + 16 * j)).take 16] := by
  unfold dgL
  rw [List.range_succ, List.map_append]
  rfl
theorem dgL_16 (b : List UInt8) (a j : Nat) (h : a + 16 * j ≤ b.length) : ∀ x ∈ dgL b a j, x.length = 16 := by
  intro x hx
  unfold dgL at hx
  obtain ⟨k, hk, rfl⟩ := List.mem_map.1 hx
  rw [List.mem_range] at hk
  rw [List.length_take, List.length_drop]
  omega
theorem getDigs_err {b : List UInt8} (h : ¬ (cnt 16 b).2.2 = 0) : getDigs b = ([], 0, (cnt 16 b).2.2) := by unfold getDigs; rw [if_pos h]
theorem getDigs_ok {b : List UInt8} (h : (cnt 16 b).2.2 = 0) {j : Int} (h1 : j = (cnt 16 b).1) : getDigs b = (dgL b (cnt 16 b).2.1.toNat j.toNat, (cnt 16 b).2.1 + 16 * j, 0) := by
  subst h1
  unfold getDigs dgL
  rw [if_neg (by omega)]
end Wi
theorem flat_cells {l : List (List UInt8)} (h : ∀ x ∈ l, x.length = 16) {i : Nat} {x : List UInt8} (hx : l[i]? = some x) (j : Nat) (u : Value) (hu : (x.map vb)[j]? = some u) : (l.flatMap (fun y => y.map vb))[i * 16 + j]? = some u := by
  induction l generalizing i with
  | nil => simp at hx
  | cons y l ih =>
    rw [List.flatMap_cons]
    have hy := h y (by simp)
    cases i with
    | zero =>
      simp only [List.getElem?_cons_zero, Option.some.injEq] at hx
      subst hx
      have hj : j < (y.map vb).length := (List.getElem?_eq_some_iff.1 hu).1
      rw [Nat.zero_mul, Nat.zero_add, List.getElem?_append_left hj]
      exact hu
    | succ i =>
      rw [List.getElem?_append_right (by simp [hy]; omega)]
      have := ih (fun z hz => h z (by simp [hz])) (by simpa using hx)
      rw [List.length_map, hy, show (i + 1) * 16 + j - 16 = i * 16 + j by omega]
      exact this
theorem St.freezeA {w0 : World} {zs : List PH} {hs : List Res} {w : World} {e : TypeId} {v : Value} {m : Nat} {l : List (List UInt8)} (h : St w0 zs (.row v e 16 m (l.flatMap (fun y => y.map vb)) :: hs) w) (hm : m = l.length) (hb : m ≤ 140737488355328) (h16 : ∀ x ∈ l, x.length = 16) : ∃ z, Sl (encA 16) z v l ∧ St w0 (z :: zs) hs w :=
  St.freeze (E := encA 16) h (z' := fun _ => none) (.inl rfl) hm hb fun i x hx => ⟨x.map vb, ⟨h16 x (List.mem_of_getElem? hx), rfl⟩, fun j u hu => flat_cells h16 hx j u hu⟩
section
variable {P : Program} {n : Nat} {w0 : World} {zs : List PH} {hs : List Res} {L : List (Nat × Value)} {d : Option Tmp} {ty t t' : TypeId} {pos : String} {af : Array Edge} {g : Option (Nat × Bool)}
variable {x y c : Operand} {u v : Value}
/-- A part of a slice of bytes as an array. -/
theorem q_s2ap_sl {z : PH} {xs : List UInt8} {e arr : TypeId} {m s by_ : Nat} {zv : Value} (ht : Tf P arr (.array m e) s by_ zv) (hS : Sl encB z v xs) (h1 : opv L x = some v) (hm : m ≤ xs.length) (h0 : 0 < m) :
    Qt P n w0 zs hs L ⟨d, .sliceToArrayPointer arr x, ty, pos, af, g⟩ (elemPtr v 0) :=
  qt_of fun a ha w hw => by
    obtain ⟨_, aa, cc, rfl, hcc, h⟩ := hS
    obtain ⟨b, off, cs, ty', fz, cx, rfl, _⟩ := h 0 (xs[0]'(by omega)) (by simp)
    have hlt : ¬ xs.length < m := by omega
    simp only [execOp, ha.eval h1]
    simp [Instr.arrayAt, run_underlying ht.und, hlt, elemPtr, add_at]
theorem q_ld_B16 {z : PH} {xs : List UInt8} {dd : TypeDesc} {m by_ : Nat} {zv : Value} (ht : Tf P t dd m by_ zv) (hS : Sl encB z v xs) (hz : ZIn w0 zs z) (h1 : opv L x = some (elemPtr v 0)) (hd : aggD dd = true) (hm : xs.length = m) (h0 : 0 < m) :
    Qt P n w0 zs hs L ⟨d, .load t x, ty, pos, af, g⟩ (.agg (xs.map vb).toArray) :=
  qt_of fun a ha w hw => by
    obtain ⟨_, aa, cc, rfl, hcc, h⟩ := hS
    obtain ⟨b, off, cs, ty', fz, cx, rfl, hzb, _⟩ := h 0 (xs[0]'(by omega)) (by simp)
    have hb := hw.le hz _ _ hzb
    have hc : ∀ i, i < xs.length → cs[off + i]? = some (vb (xs.getD i 0)) := by
      intro i hi
      obtain ⟨b2, off2, cs2, ty2, fz2, cx2, e1, e2, e3, e4⟩ := h i xs[i] (by simp [hi])
      simp only [Option.some.injEq, Addr.mk.injEq, and_true] at e1
      obtain ⟨rfl, rfl⟩ := e1
      rw [hzb] at e2
      simp only [Option.some.injEq, Obj.cells.injEq] at e2
      obtain ⟨rfl, rfl, rfl⟩ := e2
      have := e4 0 (vb xs[i]) (by rw [e3.1]; rfl)
      have e5 : xs.getD i 0 = xs[i] := by simp [hi]
      rw [e5]
      simpa [encB, encV] using this
    have hfit : off + m ≤ cs.size := by
      have := hc (m - 1) (by omega)
      have := (Array.getElem?_eq_some_iff.1 this).1
      omega
    have hr := run_loadA ht hd hb hfit
    have he : (cs.toList.drop off).take m = xs.map vb := by
      apply List.ext_getElem?
      intro i
      rw [List.getElem?_take, List.getElem?_drop, List.getElem?_map]
      split
      · rename_i hi
        have := hc i (by omega)
        have e5 : xs.getD i 0 = xs[i] := by simp [show i < xs.length by omega]
        rw [e5] at this
        rw [List.getElem?_eq_getElem (show i < xs.length by omega)]
        simpa using this
      · rw [List.getElem?_eq_none (by omega)]; rfl
    rw [he] at hr
    have hev : a.eval x = .pointer (some ⟨b, off, none⟩) := (ha.eval h1).trans (by simp [elemPtr, add_at])
    simp only [execOp, hev]
    simp [Instr.loadAt, Instr.sureAddr, hr]
end
end Go.Fw
namespace Go.Fw
theorem Ls.take_snoc {α : Type} (d : α) {l : List α} {i : Nat} (h : i < l.length) : l.take (i + 1) = l.take i ++ [l.getD i d] := by
  rw [List.take_succ_eq_append_getElem h, List.getD_eq_getElem?_getD, List.getElem?_eq_getElem h]
  rfl
end Go.Fw
namespace Go.Fw
theorem own_slA {base : Nat} {w : World} {e : TypeId} {v : Value} {m : Nat} {l : List (List UInt8)} (h : w.ownsRow base e 16 v m (l.flatMap (fun y => y.map vb))) (h16 : ∀ x ∈ l, x.length = 16) (hm : m = l.length) (hb : m ≤ 140737488355328) : Sl (encA 16) (ph w) v l :=
  own_sl (E := encA 16) h hm hb fun i x hx => ⟨x.map vb, ⟨h16 x (List.mem_of_getElem? hx), rfl⟩, fun j u hu => flat_cells h16 hx j u hu⟩
end Go.Fw
