/- A text of a proof over this seat: walks over the program's functions and the plain laws that they need. -/
import Derived.Test.YtibbhobfdbfkkaaGreatDoorFwD
import Derived.Shelf.Strings.Repeat
import Derived.Test.YtibbhobfdbfkkaaGreatDoorFwB
import Derived.Test.YtibbhobfdbfkkaaGreatDoorFwE
import Derived.Test.YtibbhobfdbfkkaaGreatDoorJnA
set_option linter.all false
section
/-! strings.Repeat, by the library's contract -/
namespace Go.Fw
open Go Go.Sem Go.RowKit Go.Shelf Go.Proofs
theorem repeat_ct {P : Program} {ρ : Ren} (L : Lays.n105 P ρ) (X : Builder.Extra P ρ) (w : World) (s : List UInt8) (c : Nat) (hc : 2 ≤ c) (h0 : 0 < s.length) (hl : s.length * c ≤ 140737488355328) :
    Ct P (ρ.f 105) [vs s, vi (c : Int)] w (fun r _ _ => r = vs (Lib.repeatL s c)) := by
  have h1 : c ≤ s.length * c := Nat.le_mul_of_pos_left c h0
  have hsz : (⟨s.toArray⟩ : ByteArray).size = s.length := by show s.toArray.size = _; simp
  refine Calls.mono (Any.strings_Repeat_main L X ⟨s.toArray⟩ c w hc (by omega) (by rw [hsz]; exact hl) (by rw [hsz]; exact h0)) fun e w' ⟨he, hb⟩ => ?_
  refine ⟨_, [], [], he, ⟨below_le hb, by simp, by simp, by simp, below_io hb⟩, ?_⟩
  rfl
end Go.Fw
end

section
/-! structs of three integers, a string and a bool, compared: the same -/
namespace Go.Fw
section
variable {P : Program} {n : Nat} {w0 : World} {zs : List PH} {hs : List Res} {L : List (Nat × Value)} {d : Option Tmp} {ty t t' : TypeId} {pos : String} {af : Array Edge} {g : Option (Nat × Bool)}
variable {x y : Operand}
end
end Go.Fw
end

section
/-! steps of a script, as elements and as arguments; a flag of a journal, read -/
namespace Go.Fw
open Go.ChangeShapes Go.WideShapes Go.ChangeAt Go.RowKit
structure Stp where
  k : Int
  i : Int
  b : Int
  n : Int
  f : UInt8
  ps : List Int
def encSt : Enc Stp where
  size := 6
  rep z o c := ∃ pv, c = [vi o.k, vi o.i, vi o.b, vi o.n, vb o.f, pv] ∧ (-9223372036854775808 ≤ o.k ∧ o.k ≤ 9223372036854775807) ∧ (-9223372036854775808 ≤ o.i ∧ o.i ≤ 9223372036854775807) ∧ (-9223372036854775808 ≤ o.b ∧ o.b ≤ 9223372036854775807) ∧ (-9223372036854775808 ≤ o.n ∧ o.n ≤ 9223372036854775807) ∧ Sl encI z pv o.ps
  mono hz h := by obtain ⟨pv, h1, h2, h3, h4, h5, h6⟩ := h; exact ⟨pv, h1, h2, h3, h4, h5, h6.mono hz⟩
  len h := by obtain ⟨pv, h1, _⟩ := h; rw [h1]; rfl
  one h u hu := by
    obtain ⟨pv, h1, h2, h3, h4, h5, h6⟩ := h
    rw [h1] at hu
    simp only [List.mem_cons, List.not_mem_nil, or_false] at hu
    rcases hu with rfl | rfl | rfl | rfl | rfl | rfl
    · rfl
    · rfl
    · rfl
    · rfl
    · rfl
    · exact sl_one' h6
def st0 : Stp := ⟨0, 0, 0, 0, 0, []⟩
theorem st_get {os : List Stp} {k : Nat} (hk : k < os.length) : os[k]? = some (os.getD k st0) := by
  rw [List.getD_eq_getElem?_getD, List.getElem?_eq_getElem hk]; rfl
theorem st_at {z : PH} {v : Value} {os : List Stp} (hS : Sl encSt z v os) {k : Nat} (hk : k < os.length) :
    ∃ pv, cellsV z (elemPtr v (k * 6)) 6 = [vi (os.getD k st0).k, vi (os.getD k st0).i, vi (os.getD k st0).b, vi (os.getD k st0).n, vb (os.getD k st0).f, pv] ∧ (-9223372036854775808 ≤ (os.getD k st0).k ∧ (os.getD k st0).k ≤ 9223372036854775807) ∧ (-9223372036854775808 ≤ (os.getD k st0).i ∧ (os.getD k st0).i ≤ 9223372036854775807) ∧ (-9223372036854775808 ≤ (os.getD k st0).b ∧ (os.getD k st0).b ≤ 9223372036854775807) ∧ (-9223372036854775808 ≤ (os.getD k st0).n ∧ (os.getD k st0).n ≤ 9223372036854775807) ∧ Sl encI z pv (os.getD k st0).ps := hS.rep (st_get hk)
theorem q_ld_st [Dfs] {P : Program} {n : Nat} {w0 : World} {zs : List PH} {hs : List Res} {L : List (Nat × Value)} {d : Option Tmp} {ty t : TypeId} {pos : String} {af : Array Edge} {g : Option (Nat × Bool)} {x : Operand} {v : Value} {z : PH} {os : List Stp} {dd : TypeDesc} {by_ : Nat} {zv : Value} (ht : Tf P t dd 6 by_ zv) {k : Nat} (hS : Sl encSt z v os) (hz : ZIn w0 zs z) {o : List Value} (hc : cellsV z (elemPtr v (k * 6)) 6 = o) (h1 : opv L x = some (elemPtr v (k * 6))) (hd : aggD dd = true) (hk : k < os.length) :
    Qt P n w0 zs hs L ⟨d, .load t x, ty, pos, af, g⟩ (.agg o.toArray) := by
  have := q_ld_slA (P := P) (n := n) (w0 := w0) (zs := zs) (hs := hs) (L := L) (d := d) (ty := ty) (pos := pos) (af := af) (g := g) (x := x) (E := encSt) ht (k := k) (m := k * 6) rfl (by decide) hS hz h1 hd hk
  rw [← hc]
  exact this
section
variable {H : Type} {enc : TypeId × Value → H} {P : Program} {W : World} {t : TypeId}
theorem rd_St {f1 f2 f3 f4 f5 f6 : Field} {e : TypeId} (ht : P.underlying t = some (.struct #[f1, f2, f3, f4, f5, f6])) (ho : f1.offset = 0 ∧ f2.offset = 1 ∧ f3.offset = 2 ∧ f4.offset = 3 ∧ f5.offset = 4 ∧ f6.offset = 5) (hc : P.cellsOf t = 6) (hc1 : P.cellsOf f1.type = 1) (hc2 : P.cellsOf f2.type = 1) (hc3 : P.cellsOf f3.type = 1) (hc4 : P.cellsOf f4.type = 1) (hc5 : P.cellsOf f5.type = 1) (hc6 : P.cellsOf f6.type = 1)
    (h1 : P.underlying f1.type = some (.int .i64)) (h2 : P.underlying f2.type = some (.int .i64)) (h3 : P.underlying f3.type = some (.int .i64)) (h4 : P.underlying f4.type = some (.int .i64)) (h5 : P.underlying f5.type = some (.int .u8)) (h6 : P.underlying f6.type = some (.slice e)) (h7 : P.underlying e = some (.int .i64)) (hce : P.cellsOf e = 1) (hbe : 0 < P.bytesOf e) : Rd enc P W encSt t := fun fuel cs x h hw => by
  obtain ⟨xs, n, _, hx, hl, hxl, hg⟩ := DataW.trod_struct ht h
  subst hx
  rw [hc] at hl
  have g1 := hg 0 f1 rfl
  have g2 := hg 1 f2 rfl
  have g3 := hg 2 f3 rfl
  have g4 := hg 3 f4 rfl
  have g5 := hg 4 f5 rfl
  have g6 := hg 5 f6 rfl
  rw [ho.1, hc1] at g1
  rw [ho.2.1, hc2] at g2
  rw [ho.2.2.1, hc3] at g3
  rw [ho.2.2.2.1, hc4] at g4
  rw [ho.2.2.2.2.1, hc5] at g5
  rw [ho.2.2.2.2.2, hc6] at g6
  match xs, hxl with
  | [x1, x2, x3, x4, x5, x6], _ =>
    match cs, hl with
    | [a, b, c, d, e9, e8], _ =>
      simp only [DataW.weights, ht, List.map_cons, List.map_nil, DataW.weightsEach, List.all_append, Bool.and_eq_true] at hw
      obtain ⟨hw1, hw2, hw3, hw4, hw5, hw6, _⟩ := hw
      obtain ⟨n1, v1, e1⟩ := rd_I h1 _ _ _ g1 hw1
      obtain ⟨n2, v2, e2⟩ := rd_I h2 _ _ _ g2 hw2
      obtain ⟨n3, v3, e3⟩ := rd_I h3 _ _ _ g3 hw3
      obtain ⟨n4, v4, e4⟩ := rd_I h4 _ _ _ g4 hw4
      obtain ⟨n5, v5, _⟩ := rd_B h5 _ _ _ g5 hw5
      obtain ⟨v6, ys, k6, e6⟩ := sl_of_trod (E := encI) h6 hce (by decide) hbe (rd_I h7) g6 hw6
      simp only [List.drop_zero, List.drop_succ_cons, List.take_succ_cons, List.take_zero] at v1 v2 v3 v4 v5 k6
      obtain rfl : a = vi n1 := by simpa using v1
      obtain rfl : b = vi n2 := by simpa using v2
      obtain rfl : c = vi n3 := by simpa using v3
      obtain rfl : d = vi n4 := by simpa using v4
      obtain rfl : e9 = vb n5 := by simpa using v5
      obtain rfl : e8 = v6 := by simpa using k6
      exact ⟨⟨n1, n2, n3, n4, n5, ys⟩, e8, rfl, e1, e2, e3, e4, e6⟩
end
end Go.Fw
end

section
/-! a step as an argument -/
namespace Go.Fw
open Go.ChangeShapes Go.WideShapes Go.ChangeAt Go.RowKit
section
variable {H : Type} {enc : TypeId × Value → H} {P : Program} {W : World} {t : TypeId}
end
end Go.Fw
end

section
/-! words of 16 bits, told by integers -/
namespace Go.Fw
open Go.RowKit
abbrev vh (x : Int) : Value := .int .u16 x
def encH : Enc Int := encV vh (fun x => 0 ≤ x ∧ x ≤ 65535) fun _ => rfl
section
variable {P : Program} {n : Nat} {w0 : World} {zs : List PH} {hs : List Res} {L : List (Nat × Value)} {d : Option Tmp} {ty t t' : TypeId} {pos : String} {af : Array Edge} {g : Option (Nat × Bool)}
variable {x y : Operand} {v : Value}
theorem q_ld_H [Dfs] {z : PH} {xs : List Int} {dd : TypeDesc} {s by_ : Nat} {zv : Value} (ht : Tf P t dd s by_ zv) {k : Nat} (hS : Sl encH z v xs) (hz : ZIn w0 zs z) (h1 : opv L x = some (elemPtr v (k * 1))) (hd : aggD dd = false) (hk : k < xs.length) :
    Qt P n w0 zs hs L ⟨d, .load t x, ty, pos, af, g⟩ (vh (xs.getD k 0)) :=
  q_ld_sl1 ht hd hS hz h1 (by simp [hk])
theorem h_at {z : PH} {xs : List Int} (hS : Sl encH z v xs) {k : Nat} (hk : k < xs.length) : 0 ≤ xs.getD k 0 ∧ xs.getD k 0 ≤ 65535 := by
  obtain ⟨_, a, c, _, _, h⟩ := hS
  obtain ⟨_, _, _, _, _, _, _, _, h3, _⟩ := h k (xs.getD k 0) (by simp [hk])
  exact h3.2
theorem wrap_u16 (n : Int) : IntKind.u16.wrap n = n % 65536 := by simp [IntKind.wrap, IntKind.bits, IntKind.signed]
theorem q_shrh [Dfs] {k : IntKind} {p q : Int} (h1 : opv L x = some (vh p)) (h2 : opv L y = some (.int k q)) (hq : 0 ≤ q ∧ q ≤ 16) (hp : 0 ≤ p ∧ p ≤ 65535) : Qt P n w0 zs hs L ⟨d, .binOp .shr t x y t', ty, pos, af, g⟩ (vh (p / 2 ^ q.toNat)) :=
  q_bin h1 h2 eqg_int fun w => by
    have : ¬ q < 0 := by omega
    have h3 : min q.toNat 16 = q.toNat := by omega
    have h2 : (0 : Int) ≤ 2 ^ q.toNat := Int.pow_nonneg (by omega)
    simp [binOp, Op.shift, this, IntKind.bits, h3, Int.fdiv_eq_ediv_of_nonneg _ h2]
theorem q_remh [Dfs] {p q : Int} (h1 : opv L x = some (vh p)) (h2 : opv L y = some (vh q)) (hb : (0 ≤ p ∧ p ≤ 65535) ∧ 1 ≤ q) :
    Qt P n w0 zs hs L ⟨d, .binOp .rem t x y t', ty, pos, af, g⟩ (vh (p % q)) :=
  q_bin h1 h2 eqg_int fun w => by
    have h0 : ¬ q = 0 := by omega
    have h3 := Int.emod_nonneg p h0
    have h4 : p % q ≤ p := by
      have := Int.mul_ediv_add_emod p q
      have h5 : 0 ≤ q * (p / q) := Int.mul_nonneg (by omega) (Int.ediv_nonneg (by omega) (by omega))
      omega
    have h6 : IntKind.u16.wrap (p.tmod q) = p % q := by rw [wrap_u16, Int.tmod_eq_emod_of_nonneg hb.1.1]; exact Int.emod_eq_of_lt h3 (by omega)
    simp [binOp, Op.intDiv, h0, h6]
    exact Int.tmod_eq_emod_of_nonneg hb.1.1
theorem q_shr9 [Dfs] {k : IntKind} {p : Int} (h1 : opv L x = some (vh p)) (h2 : opv L y = some (.int k 9)) (hp : 0 ≤ p ∧ p ≤ 65535) : Qt P n w0 zs hs L ⟨d, .binOp .shr t x y t', ty, pos, af, g⟩ (vh (p / 512)) :=
  q_shrh h1 h2 (by decide) hp
theorem q_rem512 [Dfs] {p : Int} (h1 : opv L x = some (vh p)) (h2 : opv L y = some (vh 512)) (hp : 0 ≤ p ∧ p ≤ 65535) : Qt P n w0 zs hs L ⟨d, .binOp .rem t x y t', ty, pos, af, g⟩ (vh (p % 512)) :=
  q_remh h1 h2 ⟨hp, by decide⟩
theorem q_cv_hi [Dfs] {p : Int} {s1 b1 s2 b2 : Nat} {z1 z2 : Value} (ht : Tf P t (.int .u16) s1 b1 z1) (ht' : Tf P t' (.int .i64) s2 b2 z2) (h1 : opv L x = some (vh p)) (hp : 0 ≤ p ∧ p ≤ 65535) :
    Qt P n w0 zs hs L ⟨d, .convert t t' x, ty, pos, af, g⟩ (vi p) :=
  q_conv ht ht' rfl rfl h1 (IntWalk.i64_in _ (by omega))
end
theorem wf_u16 {n : Int} (h : (Lit.int .u16 n).wf = true) : 0 ≤ n ∧ n ≤ 65535 := by
  simpa [Lit.wf, IntKind.min, IntKind.max, IntKind.signed, IntKind.bits] using h
section
variable {H : Type} {enc : TypeId × Value → H} {P : Program} {W : World} {t : TypeId}
theorem rd_H (ht : P.underlying t = some (.int .u16)) : Rd enc P W encH t := fun _ _ _ h _ => by
  obtain ⟨n, rfl, _, hw⟩ := DataW.trod_int ht h
  exact ⟨n, rfl, wf_u16 hw⟩
end
end Go.Fw
end
