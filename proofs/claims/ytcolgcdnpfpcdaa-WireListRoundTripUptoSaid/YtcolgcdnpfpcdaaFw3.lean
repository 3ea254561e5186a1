/- A text of a proof over this seat: walks over the program's functions and the plain laws that they need. -/
import Derived.Test.YtcolgcdnpfpcdaaFw2
set_option linter.all false
namespace Go.Fw

abbrev vi (x : Int) : Value := .int .i64 x
abbrev vb (x : UInt8) : Value := .int .u8 (x.toNat : Int)
abbrev vw (x : UInt32) : Value := .int .u32 (x.toNat : Int)
abbrev vq (x : UInt64) : Value := .int .u64 (x.toNat : Int)
abbrev vt (b : Bool) : Value := .bool b
@[reducible] def bs (l : List UInt8) : ByteArray := ⟨l.toArray⟩
abbrev vs (l : List UInt8) : Value := .string (bs l)

/-- What is known of a type. -/
structure Tf (P : Program) (t : TypeId) (d : TypeDesc) (s b : Nat) (z : Value) : Prop where
  und : P.underlying t = some d
  inf : (P.info? t).map (fun i => (i.size, i.bytes, i.zero)) = some (s, b, some z)

/-- Bits of integers. -/
def iand (x y : Int) : Int := IntKind.i64.wrap (BitVec.ofInt 64 x &&& BitVec.ofInt 64 y).toNat
def ior (x y : Int) : Int := IntKind.i64.wrap (BitVec.ofInt 64 x ||| BitVec.ofInt 64 y).toNat
def ixor (x y : Int) : Int := IntKind.i64.wrap (BitVec.ofInt 64 x ^^^ BitVec.ofInt 64 y).toNat
def iandNot (x y : Int) : Int := IntKind.i64.wrap (BitVec.ofInt 64 x &&& ~~~(BitVec.ofInt 64 y)).toNat
/-- A number of 64 bits, read with a sign. -/
def sgn (x : UInt64) : Int := if x.toNat < 9223372036854775808 then x.toNat else (x.toNat : Int) - 18446744073709551616

theorem toNat8 (x : UInt8) : 0 ≤ (x.toNat : Int) ∧ (x.toNat : Int) < 256 := ⟨by omega, by have := x.toNat_lt; omega⟩
theorem toNat32 (x : UInt32) : 0 ≤ (x.toNat : Int) ∧ (x.toNat : Int) < 4294967296 := ⟨by omega, by have := x.toNat_lt; omega⟩
theorem toNat64 (x : UInt64) : 0 ≤ (x.toNat : Int) ∧ (x.toNat : Int) < 18446744073709551616 := ⟨by omega, by have := x.toNat_lt; omega⟩

section
variable {P : Program} {n : Nat} {w0 : World} {zs : List PH} {hs : List Res} {L : List (Nat × Value)} {d : Option Tmp} {ty t t' : TypeId} {pos : String} {af : Array Edge} {g : Option (Nat × Bool)}
variable {x y z c o1 o2 o3 : Operand} {u v : Value}

/-- From a run equation. -/
theorem qt_of {o : Oper} (h : ∀ a, Fr n L a → ∀ w, St w0 zs hs w → (execOp a.eval o).run P w = .ok (.value v) w) : Qt P n w0 zs hs L o v :=
  fun a ha w hw => by rw [h a ha w hw]; exact ⟨rfl, rfl⟩

theorem q_move (h : opv L x = some v) : Qt P n w0 zs hs L ⟨d, .move x, ty, pos, af, g⟩ v :=
  qt_of fun a ha w _ => by simp [execOp, ha.eval h]
theorem q_assign (h : opv L x = some v) : Qt P n w0 zs hs L ⟨d, .assign x, ty, pos, af, g⟩ v :=
  qt_of fun a ha w _ => by simp [execOp, ha.eval h]
theorem q_pick {b : Bool} (h : opv L c = some (.bool b)) (h1 : opv L x = some u) (h2 : opv L y = some v) : Qt P n w0 zs hs L ⟨d, .pick c x y, ty, pos, af, g⟩ (bif b then u else v) :=
  qt_of fun a ha w _ => by cases b <;> simp [execOp, ha.eval h, ha.eval h1, ha.eval h2, asBool]
theorem q_pick_t (h : opv L c = some (.bool true)) (h1 : opv L x = some u) : Qt P n w0 zs hs L ⟨d, .pick c x y, ty, pos, af, g⟩ u :=
  qt_of fun a ha w _ => by simp [execOp, ha.eval h, ha.eval h1, asBool]
theorem q_pick_f (h : opv L c = some (.bool false)) (h2 : opv L y = some v) : Qt P n w0 zs hs L ⟨d, .pick c x y, ty, pos, af, g⟩ v :=
  qt_of fun a ha w _ => by simp [execOp, ha.eval h, ha.eval h2, asBool]

/-! binary operators -/
theorem q_bin {op : BinOp} {p q r : Value} (h1 : opv L x = some p) (h2 : opv L y = some q) (hg : ∀ w, (eqGuard op t x y p q).run P w = .ok () w) (h : ∀ w, (binOp op t p q).run P w = .ok r w) :
    Qt P n w0 zs hs L ⟨d, .binOp op t x y t', ty, pos, af, g⟩ r :=
  qt_of fun a ha w _ => by
    simp only [execOp, ha.eval h1, ha.eval h2]
    simp [hg w, h w]

theorem eqg_int {op : BinOp} {k k' : IntKind} {p q : Int} (w : World) : (eqGuard op t x y (.int k p) (.int k' q)).run P w = .ok () w := by
  cases op <;> simp [eqGuard]
theorem eqg_str {op : BinOp} {p q : ByteArray} (w : World) : (eqGuard op t x y (.string p) (.string q)).run P w = .ok () w := by
  cases op <;> simp [eqGuard]
theorem eqg_bool {op : BinOp} {p q : Bool} (w : World) : (eqGuard op t x y (.bool p) (.bool q)).run P w = .ok () w := by
  cases op <;> simp [eqGuard]

/-! int -/
theorem q_addi {p q : Int} (h1 : opv L x = some (vi p)) (h2 : opv L y = some (vi q)) (hb : -9223372036854775808 ≤ p + q ∧ p + q ≤ 9223372036854775807) :
    Qt P n w0 zs hs L ⟨d, .binOp .add t x y t', ty, pos, af, g⟩ (vi (p + q)) :=
  q_bin h1 h2 eqg_int fun w => by simp [binOp, Op.intArith, IntWalk.i64_in _ hb]
theorem q_subi {p q : Int} (h1 : opv L x = some (vi p)) (h2 : opv L y = some (vi q)) (hb : -9223372036854775808 ≤ p - q ∧ p - q ≤ 9223372036854775807) :
    Qt P n w0 zs hs L ⟨d, .binOp .sub t x y t', ty, pos, af, g⟩ (vi (p - q)) :=
  q_bin h1 h2 eqg_int fun w => by simp [binOp, Op.intArith, IntWalk.i64_in _ hb]
theorem q_muli {p q : Int} (h1 : opv L x = some (vi p)) (h2 : opv L y = some (vi q)) (hb : -9223372036854775808 ≤ p * q ∧ p * q ≤ 9223372036854775807) :
    Qt P n w0 zs hs L ⟨d, .binOp .mul t x y t', ty, pos, af, g⟩ (vi (p * q)) :=
  q_bin h1 h2 eqg_int fun w => by simp [binOp, Op.intArith, IntWalk.i64_in _ hb]
theorem q_addi_w {p q : Int} (h1 : opv L x = some (vi p)) (h2 : opv L y = some (vi q)) :
    Qt P n w0 zs hs L ⟨d, .binOp .add t x y t', ty, pos, af, g⟩ (vi (IntKind.i64.wrap (p + q))) :=
  q_bin h1 h2 eqg_int fun w => by simp [binOp, Op.intArith]
theorem q_subi_w {p q : Int} (h1 : opv L x = some (vi p)) (h2 : opv L y = some (vi q)) :
    Qt P n w0 zs hs L ⟨d, .binOp .sub t x y t', ty, pos, af, g⟩ (vi (IntKind.i64.wrap (p - q))) :=
  q_bin h1 h2 eqg_int fun w => by simp [binOp, Op.intArith]
theorem q_muli_w {p q : Int} (h1 : opv L x = some (vi p)) (h2 : opv L y = some (vi q)) :
    Qt P n w0 zs hs L ⟨d, .binOp .mul t x y t', ty, pos, af, g⟩ (vi (IntKind.i64.wrap (p * q))) :=
  q_bin h1 h2 eqg_int fun w => by simp [binOp, Op.intArith]
theorem q_quoi {p q : Int} (h1 : opv L x = some (vi p)) (h2 : opv L y = some (vi q)) (hb : 0 ≤ p ∧ p ≤ 9223372036854775807 ∧ 1 ≤ q) :
    Qt P n w0 zs hs L ⟨d, .binOp .quo t x y t', ty, pos, af, g⟩ (vi (p / q)) :=
  q_bin h1 h2 eqg_int fun w => by
    have : ¬ q = 0 := by omega
    simp [binOp, Op.intDiv, this, IntWalk.i64_quo _ _ hb]
theorem q_remi {p q : Int} (h1 : opv L x = some (vi p)) (h2 : opv L y = some (vi q)) (hb : 0 ≤ p ∧ 1 ≤ q) :
    Qt P n w0 zs hs L ⟨d, .binOp .rem t x y t', ty, pos, af, g⟩ (vi (p % q)) :=
  q_bin h1 h2 eqg_int fun w => by
    have : ¬ q = 0 := by omega
    simp [binOp, Op.intDiv, this, IntWalk.rem_in _ _ hb.1]
theorem q_quoi' {p q : Int} (h1 : opv L x = some (vi p)) (h2 : opv L y = some (vi q)) (hb : -9223372036854775808 ≤ p ∧ p ≤ 9223372036854775807 ∧ 1 ≤ q) :
    Qt P n w0 zs hs L ⟨d, .binOp .quo t x y t', ty, pos, af, g⟩ (vi (p.tdiv q)) :=
  q_bin h1 h2 eqg_int fun w => by
    have : ¬ q = 0 := by omega
    simp [binOp, Op.intDiv, this, IntWalk.i64_quo' _ _ hb]
theorem q_remi' {p q : Int} (h1 : opv L x = some (vi p)) (h2 : opv L y = some (vi q)) (hb : q ≠ 0) :
    Qt P n w0 zs hs L ⟨d, .binOp .rem t x y t', ty, pos, af, g⟩ (vi (p.tmod q)) :=
  q_bin h1 h2 eqg_int fun w => by simp [binOp, Op.intDiv, hb]
theorem q_eqi {p q : Int} (h1 : opv L x = some (vi p)) (h2 : opv L y = some (vi q)) : Qt P n w0 zs hs L ⟨d, .binOp .eql t x y t', ty, pos, af, g⟩ (.bool (decide (p = q))) :=
  q_bin h1 h2 eqg_int fun w => by simp [binOp, Op.intCmp]; rfl
theorem q_nei {p q : Int} (h1 : opv L x = some (vi p)) (h2 : opv L y = some (vi q)) : Qt P n w0 zs hs L ⟨d, .binOp .neq t x y t', ty, pos, af, g⟩ (.bool (!decide (p = q))) :=
  q_bin h1 h2 eqg_int fun w => by simp [binOp, Op.intCmp]; rfl
theorem q_lti {p q : Int} (h1 : opv L x = some (vi p)) (h2 : opv L y = some (vi q)) : Qt P n w0 zs hs L ⟨d, .binOp .lss t x y t', ty, pos, af, g⟩ (.bool (decide (p < q))) :=
  q_bin h1 h2 eqg_int fun w => by simp [binOp, Op.intCmp]
theorem q_lei {p q : Int} (h1 : opv L x = some (vi p)) (h2 : opv L y = some (vi q)) : Qt P n w0 zs hs L ⟨d, .binOp .leq t x y t', ty, pos, af, g⟩ (.bool (decide (p ≤ q))) :=
  q_bin h1 h2 eqg_int fun w => by simp [binOp, Op.intCmp]
theorem q_gti {p q : Int} (h1 : opv L x = some (vi p)) (h2 : opv L y = some (vi q)) : Qt P n w0 zs hs L ⟨d, .binOp .gtr t x y t', ty, pos, af, g⟩ (.bool (decide (q < p))) :=
  q_bin h1 h2 eqg_int fun w => by simp [binOp, Op.intCmp]
theorem q_gei {p q : Int} (h1 : opv L x = some (vi p)) (h2 : opv L y = some (vi q)) : Qt P n w0 zs hs L ⟨d, .binOp .geq t x y t', ty, pos, af, g⟩ (.bool (decide (q ≤ p))) :=
  q_bin h1 h2 eqg_int fun w => by simp [binOp, Op.intCmp]
theorem q_andi {p q : Int} (h1 : opv L x = some (vi p)) (h2 : opv L y = some (vi q)) : Qt P n w0 zs hs L ⟨d, .binOp .and t x y t', ty, pos, af, g⟩ (vi (iand p q)) :=
  q_bin h1 h2 eqg_int fun w => rfl
theorem q_ori {p q : Int} (h1 : opv L x = some (vi p)) (h2 : opv L y = some (vi q)) : Qt P n w0 zs hs L ⟨d, .binOp .or t x y t', ty, pos, af, g⟩ (vi (ior p q)) :=
  q_bin h1 h2 eqg_int fun w => rfl
theorem q_xori {p q : Int} (h1 : opv L x = some (vi p)) (h2 : opv L y = some (vi q)) : Qt P n w0 zs hs L ⟨d, .binOp .xor t x y t', ty, pos, af, g⟩ (vi (ixor p q)) :=
  q_bin h1 h2 eqg_int fun w => rfl
theorem q_andnoti {p q : Int} (h1 : opv L x = some (vi p)) (h2 : opv L y = some (vi q)) : Qt P n w0 zs hs L ⟨d, .binOp .andNot t x y t', ty, pos, af, g⟩ (vi (iandNot p q)) :=
  q_bin h1 h2 eqg_int fun w => rfl
theorem q_shli {k : IntKind} {p q : Int} (h1 : opv L x = some (vi p)) (h2 : opv L y = some (.int k q)) (hq : 0 ≤ q) (hb : -9223372036854775808 ≤ p * 2 ^ (min q.toNat 64) ∧ p * 2 ^ (min q.toNat 64) ≤ 9223372036854775807) :
    Qt P n w0 zs hs L ⟨d, .binOp .shl t x y t', ty, pos, af, g⟩ (vi (p * 2 ^ (min q.toNat 64))) :=
  q_bin h1 h2 eqg_int fun w => by
    have : ¬ q < 0 := by omega
    simp [binOp, Op.shift, this, IntKind.bits, IntWalk.i64_in _ hb]
theorem q_shli_w {k : IntKind} {p q : Int} (h1 : opv L x = some (vi p)) (h2 : opv L y = some (.int k q)) (hq : 0 ≤ q) :
    Qt P n w0 zs hs L ⟨d, .binOp .shl t x y t', ty, pos, af, g⟩ (vi (IntKind.i64.wrap (p * 2 ^ (min q.toNat 64)))) :=
  q_bin h1 h2 eqg_int fun w => by
    have : ¬ q < 0 := by omega
    simp [binOp, Op.shift, this, IntKind.bits]
theorem q_shri {k : IntKind} {p q : Int} (h1 : opv L x = some (vi p)) (h2 : opv L y = some (.int k q)) (hq : 0 ≤ q) :
    Qt P n w0 zs hs L ⟨d, .binOp .shr t x y t', ty, pos, af, g⟩ (vi (p / 2 ^ (min q.toNat 64))) :=
  q_bin h1 h2 eqg_int fun w => by
    have : ¬ q < 0 := by omega
    have h2 : (0 : Int) ≤ 2 ^ (min q.toNat 64) := Int.pow_nonneg (by omega)
    simp [binOp, Op.shift, this, IntKind.bits, Int.fdiv_eq_ediv_of_nonneg _ h2]
theorem q_negi {p : Int} (h1 : opv L x = some (vi p)) (hb : -9223372036854775808 ≤ -p ∧ -p ≤ 9223372036854775807) : Qt P n w0 zs hs L ⟨d, .unOp .neg t x, ty, pos, af, g⟩ (vi (-p)) :=
  qt_of fun a ha w _ => by
    simp only [execOp, ha.eval h1]
    simp [Op.unary, Op.intArith, IntWalk.i64_in _ hb]
theorem q_noti {p : Int} (h1 : opv L x = some (vi p)) : Qt P n w0 zs hs L ⟨d, .unOp .xor t x, ty, pos, af, g⟩ (vi (ixor (-1) p)) :=
  qt_of fun a ha w _ => by
    simp only [execOp, ha.eval h1]
    rfl
theorem q_not {b : Bool} (h1 : opv L x = some (.bool b)) : Qt P n w0 zs hs L ⟨d, .unOp .not t x, ty, pos, af, g⟩ (.bool (!b)) :=
  qt_of fun a ha w _ => by
    simp only [execOp, ha.eval h1]
    simp [Op.unary]


/-! UInt8 -/
theorem wrap_u8 (n : Int) : IntKind.u8.wrap n = n % 256 := by simp [IntKind.wrap, IntKind.bits, IntKind.signed]
def ofb (n : Int) : UInt8 := UInt8.ofNat (n % 256).toNat
theorem ofb_toNat (n : Int) : ((ofb n).toNat : Int) = n % 256 := by
  unfold ofb
  have h1 : 0 ≤ n % 256 := Int.emod_nonneg _ (by omega)
  have h2 : n % 256 < 256 := Int.emod_lt_of_pos _ (by omega)
  rw [UInt8.toNat_ofNat']
  have : (n % 256).toNat < 2 ^ 8 := by simp; omega
  rw [Nat.mod_eq_of_lt this]
  exact Int.toNat_of_nonneg h1
theorem bvb (a : UInt8) : BitVec.ofInt 8 (a.toNat : Int) = a.toBitVec := by
  rw [BitVec.ofInt_natCast]
  simp

theorem q_addb {p q : UInt8} (h1 : opv L x = some (vb p)) (h2 : opv L y = some (vb q)) : Qt P n w0 zs hs L ⟨d, .binOp .add t x y t', ty, pos, af, g⟩ (vb (p + q)) :=
  q_bin h1 h2 eqg_int fun w => by
    have e : IntKind.u8.wrap ((p.toNat : Int) + q.toNat) = ((p + q).toNat : Int) := by
      have hp := toNat8 p
      have hq := toNat8 q
      rw [wrap_u8, UInt8.toNat_add]
      omega
    simp [binOp, Op.intArith, e]

theorem q_subb {p q : UInt8} (h1 : opv L x = some (vb p)) (h2 : opv L y = some (vb q)) : Qt P n w0 zs hs L ⟨d, .binOp .sub t x y t', ty, pos, af, g⟩ (vb (p - q)) :=
  q_bin h1 h2 eqg_int fun w => by
    have e : IntKind.u8.wrap ((p.toNat : Int) - q.toNat) = ((p - q).toNat : Int) := by
      have hp := toNat8 p
      have hq := toNat8 q
      rw [wrap_u8, UInt8.toNat_sub]
      omega
    simp [binOp, Op.intArith, e]

theorem q_mulb {p q : UInt8} (h1 : opv L x = some (vb p)) (h2 : opv L y = some (vb q)) : Qt P n w0 zs hs L ⟨d, .binOp .mul t x y t', ty, pos, af, g⟩ (vb (p * q)) :=
  q_bin h1 h2 eqg_int fun w => by
    have e : IntKind.u8.wrap ((p.toNat : Int) * q.toNat) = ((p * q).toNat : Int) := by
      have hp := toNat8 p
      have hq := toNat8 q
      rw [wrap_u8, UInt8.toNat_mul]
      simp
    simp [binOp, Op.intArith, e]

theorem q_andb {p q : UInt8} (h1 : opv L x = some (vb p)) (h2 : opv L y = some (vb q)) : Qt P n w0 zs hs L ⟨d, .binOp .and t x y t', ty, pos, af, g⟩ (vb (p &&& q)) :=
  q_bin h1 h2 eqg_int fun w => by
    have e : IntKind.u8.wrap ((BitVec.ofInt 8 (p.toNat : Int) &&& BitVec.ofInt 8 (q.toNat : Int)).toNat : Int) = ((p &&& q).toNat : Int) := by
      rw [bvb, bvb, ← UInt8.toBitVec_and, UInt8.toNat_toBitVec, wrap_u8]
      have := toNat8 (p &&& q)
      omega
    exact congrArg (fun z => Result.ok (Value.int IntKind.u8 z) w) e

theorem q_orb {p q : UInt8} (h1 : opv L x = some (vb p)) (h2 : opv L y = some (vb q)) : Qt P n w0 zs hs L ⟨d, .binOp .or t x y t', ty, pos, af, g⟩ (vb (p ||| q)) :=
  q_bin h1 h2 eqg_int fun w => by
    have e : IntKind.u8.wrap ((BitVec.ofInt 8 (p.toNat : Int) ||| BitVec.ofInt 8 (q.toNat : Int)).toNat : Int) = ((p ||| q).toNat : Int) := by
      rw [bvb, bvb, ← UInt8.toBitVec_or, UInt8.toNat_toBitVec, wrap_u8]
      have := toNat8 (p ||| q)
      omega
    exact congrArg (fun z => Result.ok (Value.int IntKind.u8 z) w) e

theorem q_xorb {p q : UInt8} (h1 : opv L x = some (vb p)) (h2 : opv L y = some (vb q)) : Qt P n w0 zs hs L ⟨d, .binOp .xor t x y t', ty, pos, af, g⟩ (vb (p ^^^ q)) :=
  q_bin h1 h2 eqg_int fun w => by
    have e : IntKind.u8.wrap ((BitVec.ofInt 8 (p.toNat : Int) ^^^ BitVec.ofInt 8 (q.toNat : Int)).toNat : Int) = ((p ^^^ q).toNat : Int) := by
      rw [bvb, bvb, ← UInt8.toBitVec_xor, UInt8.toNat_toBitVec, wrap_u8]
      have := toNat8 (p ^^^ q)
      omega
    exact congrArg (fun z => Result.ok (Value.int IntKind.u8 z) w) e

theorem q_andnotb {p q : UInt8} (h1 : opv L x = some (vb p)) (h2 : opv L y = some (vb q)) : Qt P n w0 zs hs L ⟨d, .binOp .andNot t x y t', ty, pos, af, g⟩ (vb (p &&& ~~~q)) :=
  q_bin h1 h2 eqg_int fun w => by
    have e : IntKind.u8.wrap ((BitVec.ofInt 8 (p.toNat : Int) &&& ~~~(BitVec.ofInt 8 (q.toNat : Int))).toNat : Int) = ((p &&& ~~~q).toNat : Int) := by
      rw [bvb, bvb, ← UInt8.toBitVec_not, ← UInt8.toBitVec_and, UInt8.toNat_toBitVec, wrap_u8]
      have := toNat8 (p &&& ~~~q)
      omega
    exact congrArg (fun z => Result.ok (Value.int IntKind.u8 z) w) e
theorem q_notb {p : UInt8} (h1 : opv L x = some (vb p)) : Qt P n w0 zs hs L ⟨d, .unOp .xor t x, ty, pos, af, g⟩ (vb (~~~p)) :=
  qt_of fun a ha w _ => by
    have e0 : BitVec.ofInt 8 (IntKind.u8.max) = BitVec.allOnes 8 := by decide
    have e : IntKind.u8.wrap ((BitVec.ofInt 8 (IntKind.u8.max) ^^^ BitVec.ofInt 8 (p.toNat : Int)).toNat : Int) = ((~~~p).toNat : Int) := by
      rw [bvb, e0, BitVec.allOnes_xor, ← UInt8.toBitVec_not, UInt8.toNat_toBitVec, wrap_u8]
      have := toNat8 (~~~p)
      omega
    simp only [execOp, ha.eval h1]
    exact congrArg (fun z => Result.ok (Next.value (Value.int IntKind.u8 z)) w) e
theorem q_quob {p q : UInt8} (h1 : opv L x = some (vb p)) (h2 : opv L y = some (vb q)) (hq : q ≠ 0) : Qt P n w0 zs hs L ⟨d, .binOp .quo t x y t', ty, pos, af, g⟩ (vb (p / q)) :=
  q_bin h1 h2 eqg_int fun w => by
    have h0 : ¬ ((q.toNat : Int) = 0) := fun h => hq (by apply UInt8.toNat_inj.1; simp at h ⊢; omega)
    have e : IntKind.u8.wrap (Int.tdiv (p.toNat : Int) q.toNat) = ((p / q).toNat : Int) := by
      rw [wrap_u8, UInt8.toNat_div]
      have h1 := toNat8 (p / q)
      rw [UInt8.toNat_div] at h1
      have : (p.toNat : Int).tdiv q.toNat = ((p.toNat / q.toNat : Nat) : Int) := by
        rw [Int.tdiv_eq_ediv_of_nonneg (by omega)]; rfl
      rw [this]
      omega
    have e3 : (binOp .quo t (vb p) (vb q)).run P w = (if (q.toNat : Int) = 0 then runtimePanic (.error "integer divide by zero") else pure (.int .u8 (IntKind.u8.wrap (Int.tdiv (p.toNat : Int) q.toNat)))).run P w := rfl
    rw [e3, if_neg h0, e]
    rfl
theorem q_remb {p q : UInt8} (h1 : opv L x = some (vb p)) (h2 : opv L y = some (vb q)) (hq : q ≠ 0) : Qt P n w0 zs hs L ⟨d, .binOp .rem t x y t', ty, pos, af, g⟩ (vb (p % q)) :=
  q_bin h1 h2 eqg_int fun w => by
    have h0 : ¬ ((q.toNat : Int) = 0) := fun h => hq (by apply UInt8.toNat_inj.1; simp at h ⊢; omega)
    have e : (Int.tmod (p.toNat : Int) q.toNat) = ((p % q).toNat : Int) := by
      rw [UInt8.toNat_mod, Int.tmod_eq_emod_of_nonneg (by omega)]; rfl
    have e3 : (binOp .rem t (vb p) (vb q)).run P w = (if (q.toNat : Int) = 0 then runtimePanic (.error "integer divide by zero") else pure (.int .u8 (Int.tmod (p.toNat : Int) q.toNat))).run P w := rfl
    rw [e3, if_neg h0, e]
    rfl
theorem q_shlb {k : IntKind} {p : UInt8} {q : Int} (h1 : opv L x = some (vb p)) (h2 : opv L y = some (.int k q)) (hq : 0 ≤ q) : Qt P n w0 zs hs L ⟨d, .binOp .shl t x y t', ty, pos, af, g⟩ (vb (ofb ((p.toNat : Int) * 2 ^ (min q.toNat 8)))) :=
  q_bin h1 h2 eqg_int fun w => by
    have : ¬ q < 0 := by omega
    show _ = Result.ok (Value.int .u8 ((ofb ((p.toNat : Int) * 2 ^ (min q.toNat 8))).toNat : Int)) w
    rw [ofb_toNat, ← wrap_u8]
    simp [binOp, Op.shift, this, IntKind.bits]
theorem q_shrb {k : IntKind} {p : UInt8} {q : Int} (h1 : opv L x = some (vb p)) (h2 : opv L y = some (.int k q)) (hq : 0 ≤ q) : Qt P n w0 zs hs L ⟨d, .binOp .shr t x y t', ty, pos, af, g⟩ (vb (UInt8.ofNat (p.toNat / 2 ^ (min q.toNat 8)))) :=
  q_bin h1 h2 eqg_int fun w => by
    have : ¬ q < 0 := by omega
    have h2 : (0 : Int) ≤ 2 ^ (min q.toNat 8) := Int.pow_nonneg (by omega)
    have e : ((UInt8.ofNat (p.toNat / 2 ^ (min q.toNat 8))).toNat : Int) = (p.toNat : Int) / 2 ^ (min q.toNat 8) := by
      rw [UInt8.toNat_ofNat']
      have h3 : p.toNat / 2 ^ (min q.toNat 8) ≤ p.toNat := Nat.div_le_self _ _
      have h4 := p.toNat_lt
      rw [Nat.mod_eq_of_lt (by omega)]
      push_cast
      rfl
    show _ = Result.ok (Value.int .u8 ((UInt8.ofNat (p.toNat / 2 ^ (min q.toNat 8))).toNat : Int)) w
    rw [e]
    simp [binOp, Op.shift, this, IntKind.bits, Int.fdiv_eq_ediv_of_nonneg _ h2]

theorem q_eqb {p q : UInt8} (h1 : opv L x = some (vb p)) (h2 : opv L y = some (vb q)) : Qt P n w0 zs hs L ⟨d, .binOp .eql t x y t', ty, pos, af, g⟩ (.bool (decide (p = q))) :=
  q_bin h1 h2 eqg_int fun w => by
    have e : ((p.toNat : Int) == (q.toNat : Int)) = decide (p = q) := by
      rw [Bool.eq_iff_iff]; simp [← UInt8.toNat_inj, Int.ofNat_inj]
    simp [binOp, Op.intCmp, bne, e]

theorem q_neb {p q : UInt8} (h1 : opv L x = some (vb p)) (h2 : opv L y = some (vb q)) : Qt P n w0 zs hs L ⟨d, .binOp .neq t x y t', ty, pos, af, g⟩ (.bool (!decide (p = q))) :=
  q_bin h1 h2 eqg_int fun w => by
    have e : ((p.toNat : Int) == (q.toNat : Int)) = decide (p = q) := by
      rw [Bool.eq_iff_iff]; simp [← UInt8.toNat_inj, Int.ofNat_inj]
    simp [binOp, Op.intCmp, bne, e]

theorem q_ltb {p q : UInt8} (h1 : opv L x = some (vb p)) (h2 : opv L y = some (vb q)) : Qt P n w0 zs hs L ⟨d, .binOp .lss t x y t', ty, pos, af, g⟩ (.bool (decide (p < q))) :=
  q_bin h1 h2 eqg_int fun w => by
    simp [binOp, Op.intCmp, UInt8.lt_iff_toNat_lt]

theorem q_leb {p q : UInt8} (h1 : opv L x = some (vb p)) (h2 : opv L y = some (vb q)) : Qt P n w0 zs hs L ⟨d, .binOp .leq t x y t', ty, pos, af, g⟩ (.bool (decide (p ≤ q))) :=
  q_bin h1 h2 eqg_int fun w => by
    simp [binOp, Op.intCmp, UInt8.le_iff_toNat_le]

theorem q_gtb {p q : UInt8} (h1 : opv L x = some (vb p)) (h2 : opv L y = some (vb q)) : Qt P n w0 zs hs L ⟨d, .binOp .gtr t x y t', ty, pos, af, g⟩ (.bool (decide (q < p))) :=
  q_bin h1 h2 eqg_int fun w => by
    simp [binOp, Op.intCmp, UInt8.lt_iff_toNat_lt]

theorem q_geb {p q : UInt8} (h1 : opv L x = some (vb p)) (h2 : opv L y = some (vb q)) : Qt P n w0 zs hs L ⟨d, .binOp .geq t x y t', ty, pos, af, g⟩ (.bool (decide (q ≤ p))) :=
  q_bin h1 h2 eqg_int fun w => by
    simp [binOp, Op.intCmp, UInt8.le_iff_toNat_le]


/-! UInt32 -/
theorem wrap_u32 (n : Int) : IntKind.u32.wrap n = n % 4294967296 := by simp [IntKind.wrap, IntKind.bits, IntKind.signed]
def ofw (n : Int) : UInt32 := UInt32.ofNat (n % 4294967296).toNat
theorem ofw_toNat (n : Int) : ((ofw n).toNat : Int) = n % 4294967296 := by
  unfold ofw
  have h1 : 0 ≤ n % 4294967296 := Int.emod_nonneg _ (by omega)
  have h2 : n % 4294967296 < 4294967296 := Int.emod_lt_of_pos _ (by omega)
  rw [UInt32.toNat_ofNat']
  have : (n % 4294967296).toNat < 2 ^ 32 := by simp; omega
  rw [Nat.mod_eq_of_lt this]
  exact Int.toNat_of_nonneg h1
theorem bvw (a : UInt32) : BitVec.ofInt 32 (a.toNat : Int) = a.toBitVec := by
  rw [BitVec.ofInt_natCast]
  simp

theorem q_addw {p q : UInt32} (h1 : opv L x = some (vw p)) (h2 : opv L y = some (vw q)) : Qt P n w0 zs hs L ⟨d, .binOp .add t x y t', ty, pos, af, g⟩ (vw (p + q)) :=
  q_bin h1 h2 eqg_int fun w => by
    have e : IntKind.u32.wrap ((p.toNat : Int) + q.toNat) = ((p + q).toNat : Int) := by
      have hp := toNat32 p
      have hq := toNat32 q
      rw [wrap_u32, UInt32.toNat_add]
      omega
    simp [binOp, Op.intArith, e]

theorem q_subw {p q : UInt32} (h1 : opv L x = some (vw p)) (h2 : opv L y = some (vw q)) : Qt P n w0 zs hs L ⟨d, .binOp .sub t x y t', ty, pos, af, g⟩ (vw (p - q)) :=
  q_bin h1 h2 eqg_int fun w => by
    have e : IntKind.u32.wrap ((p.toNat : Int) - q.toNat) = ((p - q).toNat : Int) := by
      have hp := toNat32 p
      have hq := toNat32 q
      rw [wrap_u32, UInt32.toNat_sub]
      omega
    simp [binOp, Op.intArith, e]

theorem q_mulw {p q : UInt32} (h1 : opv L x = some (vw p)) (h2 : opv L y = some (vw q)) : Qt P n w0 zs hs L ⟨d, .binOp .mul t x y t', ty, pos, af, g⟩ (vw (p * q)) :=
  q_bin h1 h2 eqg_int fun w => by
    have e : IntKind.u32.wrap ((p.toNat : Int) * q.toNat) = ((p * q).toNat : Int) := by
      have hp := toNat32 p
      have hq := toNat32 q
      rw [wrap_u32, UInt32.toNat_mul]
      simp
    simp [binOp, Op.intArith, e]

theorem q_andw {p q : UInt32} (h1 : opv L x = some (vw p)) (h2 : opv L y = some (vw q)) : Qt P n w0 zs hs L ⟨d, .binOp .and t x y t', ty, pos, af, g⟩ (vw (p &&& q)) :=
  q_bin h1 h2 eqg_int fun w => by
    have e : IntKind.u32.wrap ((BitVec.ofInt 32 (p.toNat : Int) &&& BitVec.ofInt 32 (q.toNat : Int)).toNat : Int) = ((p &&& q).toNat : Int) := by
      rw [bvw, bvw, ← UInt32.toBitVec_and, UInt32.toNat_toBitVec, wrap_u32]
      have := toNat32 (p &&& q)
      omega
    exact congrArg (fun z => Result.ok (Value.int IntKind.u32 z) w) e

theorem q_orw {p q : UInt32} (h1 : opv L x = some (vw p)) (h2 : opv L y = some (vw q)) : Qt P n w0 zs hs L ⟨d, .binOp .or t x y t', ty, pos, af, g⟩ (vw (p ||| q)) :=
  q_bin h1 h2 eqg_int fun w => by
    have e : IntKind.u32.wrap ((BitVec.ofInt 32 (p.toNat : Int) ||| BitVec.ofInt 32 (q.toNat : Int)).toNat : Int) = ((p ||| q).toNat : Int) := by
      rw [bvw, bvw, ← UInt32.toBitVec_or, UInt32.toNat_toBitVec, wrap_u32]
      have := toNat32 (p ||| q)
      omega
    exact congrArg (fun z => Result.ok (Value.int IntKind.u32 z) w) e

theorem q_xorw {p q : UInt32} (h1 : opv L x = some (vw p)) (h2 : opv L y = some (vw q)) : Qt P n w0 zs hs L ⟨d, .binOp .xor t x y t', ty, pos, af, g⟩ (vw (p ^^^ q)) :=
  q_bin h1 h2 eqg_int fun w => by
    have e : IntKind.u32.wrap ((BitVec.ofInt 32 (p.toNat : Int) ^^^ BitVec.ofInt 32 (q.toNat : Int)).toNat : Int) = ((p ^^^ q).toNat : Int) := by
      rw [bvw, bvw, ← UInt32.toBitVec_xor, UInt32.toNat_toBitVec, wrap_u32]
      have := toNat32 (p ^^^ q)
      omega
    exact congrArg (fun z => Result.ok (Value.int IntKind.u32 z) w) e

theorem q_andnotw {p q : UInt32} (h1 : opv L x = some (vw p)) (h2 : opv L y = some (vw q)) : Qt P n w0 zs hs L ⟨d, .binOp .andNot t x y t', ty, pos, af, g⟩ (vw (p &&& ~~~q)) :=
  q_bin h1 h2 eqg_int fun w => by
    have e : IntKind.u32.wrap ((BitVec.ofInt 32 (p.toNat : Int) &&& ~~~(BitVec.ofInt 32 (q.toNat : Int))).toNat : Int) = ((p &&& ~~~q).toNat : Int) := by
      rw [bvw, bvw, ← UInt32.toBitVec_not, ← UInt32.toBitVec_and, UInt32.toNat_toBitVec, wrap_u32]
      have := toNat32 (p &&& ~~~q)
      omega
    exact congrArg (fun z => Result.ok (Value.int IntKind.u32 z) w) e
theorem q_notw {p : UInt32} (h1 : opv L x = some (vw p)) : Qt P n w0 zs hs L ⟨d, .unOp .xor t x, ty, pos, af, g⟩ (vw (~~~p)) :=
  qt_of fun a ha w _ => by
    have e0 : BitVec.ofInt 32 (IntKind.u32.max) = BitVec.allOnes 32 := by decide
    have e : IntKind.u32.wrap ((BitVec.ofInt 32 (IntKind.u32.max) ^^^ BitVec.ofInt 32 (p.toNat : Int)).toNat : Int) = ((~~~p).toNat : Int) := by
      rw [bvw, e0, BitVec.allOnes_xor, ← UInt32.toBitVec_not, UInt32.toNat_toBitVec, wrap_u32]
      have := toNat32 (~~~p)
      omega
    simp only [execOp, ha.eval h1]
    exact congrArg (fun z => Result.ok (Next.value (Value.int IntKind.u32 z)) w) e
theorem q_quow {p q : UInt32} (h1 : opv L x = some (vw p)) (h2 : opv L y = some (vw q)) (hq : q ≠ 0) : Qt P n w0 zs hs L ⟨d, .binOp .quo t x y t', ty, pos, af, g⟩ (vw (p / q)) :=
  q_bin h1 h2 eqg_int fun w => by
    have h0 : ¬ ((q.toNat : Int) = 0) := fun h => hq (by apply UInt32.toNat_inj.1; simp at h ⊢; omega)
    have e : IntKind.u32.wrap (Int.tdiv (p.toNat : Int) q.toNat) = ((p / q).toNat : Int) := by
      rw [wrap_u32, UInt32.toNat_div]
      have h1 := toNat32 (p / q)
      rw [UInt32.toNat_div] at h1
      have : (p.toNat : Int).tdiv q.toNat = ((p.toNat / q.toNat : Nat) : Int) := by
        rw [Int.tdiv_eq_ediv_of_nonneg (by omega)]; rfl
      rw [this]
      omega
    have e3 : (binOp .quo t (vw p) (vw q)).run P w = (if (q.toNat : Int) = 0 then runtimePanic (.error "integer divide by zero") else pure (.int .u32 (IntKind.u32.wrap (Int.tdiv (p.toNat : Int) q.toNat)))).run P w := rfl
    rw [e3, if_neg h0, e]
    rfl
theorem q_remw {p q : UInt32} (h1 : opv L x = some (vw p)) (h2 : opv L y = some (vw q)) (hq : q ≠ 0) : Qt P n w0 zs hs L ⟨d, .binOp .rem t x y t', ty, pos, af, g⟩ (vw (p % q)) :=
  q_bin h1 h2 eqg_int fun w => by
    have h0 : ¬ ((q.toNat : Int) = 0) := fun h => hq (by apply UInt32.toNat_inj.1; simp at h ⊢; omega)
    have e : (Int.tmod (p.toNat : Int) q.toNat) = ((p % q).toNat : Int) := by
      rw [UInt32.toNat_mod, Int.tmod_eq_emod_of_nonneg (by omega)]; rfl
    have e3 : (binOp .rem t (vw p) (vw q)).run P w = (if (q.toNat : Int) = 0 then runtimePanic (.error "integer divide by zero") else pure (.int .u32 (Int.tmod (p.toNat : Int) q.toNat))).run P w := rfl
    rw [e3, if_neg h0, e]
    rfl
theorem q_shlw {k : IntKind} {p : UInt32} {q : Int} (h1 : opv L x = some (vw p)) (h2 : opv L y = some (.int k q)) (hq : 0 ≤ q) : Qt P n w0 zs hs L ⟨d, .binOp .shl t x y t', ty, pos, af, g⟩ (vw (ofw ((p.toNat : Int) * 2 ^ (min q.toNat 32)))) :=
  q_bin h1 h2 eqg_int fun w => by
    have : ¬ q < 0 := by omega
    show _ = Result.ok (Value.int .u32 ((ofw ((p.toNat : Int) * 2 ^ (min q.toNat 32))).toNat : Int)) w
    rw [ofw_toNat, ← wrap_u32]
    simp [binOp, Op.shift, this, IntKind.bits]
theorem q_shrw {k : IntKind} {p : UInt32} {q : Int} (h1 : opv L x = some (vw p)) (h2 : opv L y = some (.int k q)) (hq : 0 ≤ q) : Qt P n w0 zs hs L ⟨d, .binOp .shr t x y t', ty, pos, af, g⟩ (vw (UInt32.ofNat (p.toNat / 2 ^ (min q.toNat 32)))) :=
  q_bin h1 h2 eqg_int fun w => by
    have : ¬ q < 0 := by omega
    have h2 : (0 : Int) ≤ 2 ^ (min q.toNat 32) := Int.pow_nonneg (by omega)
    have e : ((UInt32.ofNat (p.toNat / 2 ^ (min q.toNat 32))).toNat : Int) = (p.toNat : Int) / 2 ^ (min q.toNat 32) := by
      rw [UInt32.toNat_ofNat']
      have h3 : p.toNat / 2 ^ (min q.toNat 32) ≤ p.toNat := Nat.div_le_self _ _
      have h4 := p.toNat_lt
      rw [Nat.mod_eq_of_lt (by omega)]
      push_cast
      rfl
    show _ = Result.ok (Value.int .u32 ((UInt32.ofNat (p.toNat / 2 ^ (min q.toNat 32))).toNat : Int)) w
    rw [e]
    simp [binOp, Op.shift, this, IntKind.bits, Int.fdiv_eq_ediv_of_nonneg _ h2]

theorem q_eqw {p q : UInt32} (h1 : opv L x = some (vw p)) (h2 : opv L y = some (vw q)) : Qt P n w0 zs hs L ⟨d, .binOp .eql t x y t', ty, pos, af, g⟩ (.bool (decide (p = q))) :=
  q_bin h1 h2 eqg_int fun w => by
    have e : ((p.toNat : Int) == (q.toNat : Int)) = decide (p = q) := by
      rw [Bool.eq_iff_iff]; simp [← UInt32.toNat_inj, Int.ofNat_inj]
    simp [binOp, Op.intCmp, bne, e]

theorem q_new {p q : UInt32} (h1 : opv L x = some (vw p)) (h2 : opv L y = some (vw q)) : Qt P n w0 zs hs L ⟨d, .binOp .neq t x y t', ty, pos, af, g⟩ (.bool (!decide (p = q))) :=
  q_bin h1 h2 eqg_int fun w => by
    have e : ((p.toNat : Int) == (q.toNat : Int)) = decide (p = q) := by
      rw [Bool.eq_iff_iff]; simp [← UInt32.toNat_inj, Int.ofNat_inj]
    simp [binOp, Op.intCmp, bne, e]

theorem q_ltw {p q : UInt32} (h1 : opv L x = some (vw p)) (h2 : opv L y = some (vw q)) : Qt P n w0 zs hs L ⟨d, .binOp .lss t x y t', ty, pos, af, g⟩ (.bool (decide (p < q))) :=
  q_bin h1 h2 eqg_int fun w => by
    simp [binOp, Op.intCmp, UInt32.lt_iff_toNat_lt]

theorem q_lew {p q : UInt32} (h1 : opv L x = some (vw p)) (h2 : opv L y = some (vw q)) : Qt P n w0 zs hs L ⟨d, .binOp .leq t x y t', ty, pos, af, g⟩ (.bool (decide (p ≤ q))) :=
  q_bin h1 h2 eqg_int fun w => by
    simp [binOp, Op.intCmp, UInt32.le_iff_toNat_le]

theorem q_gtw {p q : UInt32} (h1 : opv L x = some (vw p)) (h2 : opv L y = some (vw q)) : Qt P n w0 zs hs L ⟨d, .binOp .gtr t x y t', ty, pos, af, g⟩ (.bool (decide (q < p))) :=
  q_bin h1 h2 eqg_int fun w => by
    simp [binOp, Op.intCmp, UInt32.lt_iff_toNat_lt]

theorem q_gew {p q : UInt32} (h1 : opv L x = some (vw p)) (h2 : opv L y = some (vw q)) : Qt P n w0 zs hs L ⟨d, .binOp .geq t x y t', ty, pos, af, g⟩ (.bool (decide (q ≤ p))) :=
  q_bin h1 h2 eqg_int fun w => by
    simp [binOp, Op.intCmp, UInt32.le_iff_toNat_le]


/-! UInt64 -/
theorem wrap_u64 (n : Int) : IntKind.u64.wrap n = n % 18446744073709551616 := by simp [IntKind.wrap, IntKind.bits, IntKind.signed]
def ofq (n : Int) : UInt64 := UInt64.ofNat (n % 18446744073709551616).toNat
theorem ofq_toNat (n : Int) : ((ofq n).toNat : Int) = n % 18446744073709551616 := by
  unfold ofq
  have h1 : 0 ≤ n % 18446744073709551616 := Int.emod_nonneg _ (by omega)
  have h2 : n % 18446744073709551616 < 18446744073709551616 := Int.emod_lt_of_pos _ (by omega)
  rw [UInt64.toNat_ofNat']
  have : (n % 18446744073709551616).toNat < 2 ^ 64 := by simp; omega
  rw [Nat.mod_eq_of_lt this]
  exact Int.toNat_of_nonneg h1
theorem bvq (a : UInt64) : BitVec.ofInt 64 (a.toNat : Int) = a.toBitVec := by
  rw [BitVec.ofInt_natCast]
  simp

theorem q_addq {p q : UInt64} (h1 : opv L x = some (vq p)) (h2 : opv L y = some (vq q)) : Qt P n w0 zs hs L ⟨d, .binOp .add t x y t', ty, pos, af, g⟩ (vq (p + q)) :=
  q_bin h1 h2 eqg_int fun w => by
    have e : IntKind.u64.wrap ((p.toNat : Int) + q.toNat) = ((p + q).toNat : Int) := by
      have hp := toNat64 p
      have hq := toNat64 q
      rw [wrap_u64, UInt64.toNat_add]
      omega
    simp [binOp, Op.intArith, e]

theorem q_subq {p q : UInt64} (h1 : opv L x = some (vq p)) (h2 : opv L y = some (vq q)) : Qt P n w0 zs hs L ⟨d, .binOp .sub t x y t', ty, pos, af, g⟩ (vq (p - q)) :=
  q_bin h1 h2 eqg_int fun w => by
    have e : IntKind.u64.wrap ((p.toNat : Int) - q.toNat) = ((p - q).toNat : Int) := by
      have hp := toNat64 p
      have hq := toNat64 q
      rw [wrap_u64, UInt64.toNat_sub]
      omega
    simp [binOp, Op.intArith, e]

theorem q_mulq {p q : UInt64} (h1 : opv L x = some (vq p)) (h2 : opv L y = some (vq q)) : Qt P n w0 zs hs L ⟨d, .binOp .mul t x y t', ty, pos, af, g⟩ (vq (p * q)) :=
  q_bin h1 h2 eqg_int fun w => by
    have e : IntKind.u64.wrap ((p.toNat : Int) * q.toNat) = ((p * q).toNat : Int) := by
      have hp := toNat64 p
      have hq := toNat64 q
      rw [wrap_u64, UInt64.toNat_mul]
      simp
    simp [binOp, Op.intArith, e]

theorem q_andq {p q : UInt64} (h1 : opv L x = some (vq p)) (h2 : opv L y = some (vq q)) : Qt P n w0 zs hs L ⟨d, .binOp .and t x y t', ty, pos, af, g⟩ (vq (p &&& q)) :=
  q_bin h1 h2 eqg_int fun w => by
    have e : IntKind.u64.wrap ((BitVec.ofInt 64 (p.toNat : Int) &&& BitVec.ofInt 64 (q.toNat : Int)).toNat : Int) = ((p &&& q).toNat : Int) := by
      rw [bvq, bvq, ← UInt64.toBitVec_and, UInt64.toNat_toBitVec, wrap_u64]
      have := toNat64 (p &&& q)
      omega
    exact congrArg (fun z => Result.ok (Value.int IntKind.u64 z) w) e

theorem q_orq {p q : UInt64} (h1 : opv L x = some (vq p)) (h2 : opv L y = some (vq q)) : Qt P n w0 zs hs L ⟨d, .binOp .or t x y t', ty, pos, af, g⟩ (vq (p ||| q)) :=
  q_bin h1 h2 eqg_int fun w => by
    have e : IntKind.u64.wrap ((BitVec.ofInt 64 (p.toNat : Int) ||| BitVec.ofInt 64 (q.toNat : Int)).toNat : Int) = ((p ||| q).toNat : Int) := by
      rw [bvq, bvq, ← UInt64.toBitVec_or, UInt64.toNat_toBitVec, wrap_u64]
      have := toNat64 (p ||| q)
      omega
    exact congrArg (fun z => Result.ok (Value.int IntKind.u64 z) w) e

theorem q_xorq {p q : UInt64} (h1 : opv L x = some (vq p)) (h2 : opv L y = some (vq q)) : Qt P n w0 zs hs L ⟨d, .binOp .xor t x y t', ty, pos, af, g⟩ (vq (p ^^^ q)) :=
  q_bin h1 h2 eqg_int fun w => by
    have e : IntKind.u64.wrap ((BitVec.ofInt 64 (p.toNat : Int) ^^^ BitVec.ofInt 64 (q.toNat : Int)).toNat : Int) = ((p ^^^ q).toNat : Int) := by
      rw [bvq, bvq, ← UInt64.toBitVec_xor, UInt64.toNat_toBitVec, wrap_u64]
      have := toNat64 (p ^^^ q)
      omega
    exact congrArg (fun z => Result.ok (Value.int IntKind.u64 z) w) e

theorem q_andnotq {p q : UInt64} (h1 : opv L x = some (vq p)) (h2 : opv L y = some (vq q)) : Qt P n w0 zs hs L ⟨d, .binOp .andNot t x y t', ty, pos, af, g⟩ (vq (p &&& ~~~q)) :=
  q_bin h1 h2 eqg_int fun w => by
    have e : IntKind.u64.wrap ((BitVec.ofInt 64 (p.toNat : Int) &&& ~~~(BitVec.ofInt 64 (q.toNat : Int))).toNat : Int) = ((p &&& ~~~q).toNat : Int) := by
      rw [bvq, bvq, ← UInt64.toBitVec_not, ← UInt64.toBitVec_and, UInt64.toNat_toBitVec, wrap_u64]
      have := toNat64 (p &&& ~~~q)
      omega
    exact congrArg (fun z => Result.ok (Value.int IntKind.u64 z) w) e
theorem q_notq {p : UInt64} (h1 : opv L x = some (vq p)) : Qt P n w0 zs hs L ⟨d, .unOp .xor t x, ty, pos, af, g⟩ (vq (~~~p)) :=
  qt_of fun a ha w _ => by
    have e0 : BitVec.ofInt 64 (IntKind.u64.max) = BitVec.allOnes 64 := by decide
    have e : IntKind.u64.wrap ((BitVec.ofInt 64 (IntKind.u64.max) ^^^ BitVec.ofInt 64 (p.toNat : Int)).toNat : Int) = ((~~~p).toNat : Int) := by
      rw [bvq, e0, BitVec.allOnes_xor, ← UInt64.toBitVec_not, UInt64.toNat_toBitVec, wrap_u64]
      have := toNat64 (~~~p)
      omega
    simp only [execOp, ha.eval h1]
    exact congrArg (fun z => Result.ok (Next.value (Value.int IntKind.u64 z)) w) e
theorem q_quoq {p q : UInt64} (h1 : opv L x = some (vq p)) (h2 : opv L y = some (vq q)) (hq : q ≠ 0) : Qt P n w0 zs hs L ⟨d, .binOp .quo t x y t', ty, pos, af, g⟩ (vq (p / q)) :=
  q_bin h1 h2 eqg_int fun w => by
    have h0 : ¬ ((q.toNat : Int) = 0) := fun h => hq (by apply UInt64.toNat_inj.1; simp at h ⊢; omega)
    have e : IntKind.u64.wrap (Int.tdiv (p.toNat : Int) q.toNat) = ((p / q).toNat : Int) := by
      rw [wrap_u64, UInt64.toNat_div]
      have h1 := toNat64 (p / q)
      rw [UInt64.toNat_div] at h1
      have : (p.toNat : Int).tdiv q.toNat = ((p.toNat / q.toNat : Nat) : Int) := by
        rw [Int.tdiv_eq_ediv_of_nonneg (by omega)]; rfl
      rw [this]
      omega
    have e3 : (binOp .quo t (vq p) (vq q)).run P w = (if (q.toNat : Int) = 0 then runtimePanic (.error "integer divide by zero") else pure (.int .u64 (IntKind.u64.wrap (Int.tdiv (p.toNat : Int) q.toNat)))).run P w := rfl
    rw [e3, if_neg h0, e]
    rfl
theorem q_remq {p q : UInt64} (h1 : opv L x = some (vq p)) (h2 : opv L y = some (vq q)) (hq : q ≠ 0) : Qt P n w0 zs hs L ⟨d, .binOp .rem t x y t', ty, pos, af, g⟩ (vq (p % q)) :=
  q_bin h1 h2 eqg_int fun w => by
    have h0 : ¬ ((q.toNat : Int) = 0) := fun h => hq (by apply UInt64.toNat_inj.1; simp at h ⊢; omega)
    have e : (Int.tmod (p.toNat : Int) q.toNat) = ((p % q).toNat : Int) := by
      rw [UInt64.toNat_mod, Int.tmod_eq_emod_of_nonneg (by omega)]; rfl
    have e3 : (binOp .rem t (vq p) (vq q)).run P w = (if (q.toNat : Int) = 0 then runtimePanic (.error "integer divide by zero") else pure (.int .u64 (Int.tmod (p.toNat : Int) q.toNat))).run P w := rfl
    rw [e3, if_neg h0, e]
    rfl
theorem q_shlq {k : IntKind} {p : UInt64} {q : Int} (h1 : opv L x = some (vq p)) (h2 : opv L y = some (.int k q)) (hq : 0 ≤ q) : Qt P n w0 zs hs L ⟨d, .binOp .shl t x y t', ty, pos, af, g⟩ (vq (ofq ((p.toNat : Int) * 2 ^ (min q.toNat 64)))) :=
  q_bin h1 h2 eqg_int fun w => by
    have : ¬ q < 0 := by omega
    show _ = Result.ok (Value.int .u64 ((ofq ((p.toNat : Int) * 2 ^ (min q.toNat 64))).toNat : Int)) w
    rw [ofq_toNat, ← wrap_u64]
    simp [binOp, Op.shift, this, IntKind.bits]
theorem q_shrq {k : IntKind} {p : UInt64} {q : Int} (h1 : opv L x = some (vq p)) (h2 : opv L y = some (.int k q)) (hq : 0 ≤ q) : Qt P n w0 zs hs L ⟨d, .binOp .shr t x y t', ty, pos, af, g⟩ (vq (UInt64.ofNat (p.toNat / 2 ^ (min q.toNat 64)))) :=
  q_bin h1 h2 eqg_int fun w => by
    have : ¬ q < 0 := by omega
    have h2 : (0 : Int) ≤ 2 ^ (min q.toNat 64) := Int.pow_nonneg (by omega)
    have e : ((UInt64.ofNat (p.toNat / 2 ^ (min q.toNat 64))).toNat : Int) = (p.toNat : Int) / 2 ^ (min q.toNat 64) := by
      rw [UInt64.toNat_ofNat']
      have h3 : p.toNat / 2 ^ (min q.toNat 64) ≤ p.toNat := Nat.div_le_self _ _
      have h4 := p.toNat_lt
      rw [Nat.mod_eq_of_lt (by omega)]
      push_cast
      rfl
    show _ = Result.ok (Value.int .u64 ((UInt64.ofNat (p.toNat / 2 ^ (min q.toNat 64))).toNat : Int)) w
    rw [e]
    simp [binOp, Op.shift, this, IntKind.bits, Int.fdiv_eq_ediv_of_nonneg _ h2]

theorem q_eqq {p q : UInt64} (h1 : opv L x = some (vq p)) (h2 : opv L y = some (vq q)) : Qt P n w0 zs hs L ⟨d, .binOp .eql t x y t', ty, pos, af, g⟩ (.bool (decide (p = q))) :=
  q_bin h1 h2 eqg_int fun w => by
    have e : ((p.toNat : Int) == (q.toNat : Int)) = decide (p = q) := by
      rw [Bool.eq_iff_iff]; simp [← UInt64.toNat_inj, Int.ofNat_inj]
    simp [binOp, Op.intCmp, bne, e]

theorem q_neq {p q : UInt64} (h1 : opv L x = some (vq p)) (h2 : opv L y = some (vq q)) : Qt P n w0 zs hs L ⟨d, .binOp .neq t x y t', ty, pos, af, g⟩ (.bool (!decide (p = q))) :=
  q_bin h1 h2 eqg_int fun w => by
    have e : ((p.toNat : Int) == (q.toNat : Int)) = decide (p = q) := by
      rw [Bool.eq_iff_iff]; simp [← UInt64.toNat_inj, Int.ofNat_inj]
    simp [binOp, Op.intCmp, bne, e]

theorem q_ltq {p q : UInt64} (h1 : opv L x = some (vq p)) (h2 : opv L y = some (vq q)) : Qt P n w0 zs hs L ⟨d, .binOp .lss t x y t', ty, pos, af, g⟩ (.bool (decide (p < q))) :=
  q_bin h1 h2 eqg_int fun w => by
    simp [binOp, Op.intCmp, UInt64.lt_iff_toNat_lt]

theorem q_leq {p q : UInt64} (h1 : opv L x = some (vq p)) (h2 : opv L y = some (vq q)) : Qt P n w0 zs hs L ⟨d, .binOp .leq t x y t', ty, pos, af, g⟩ (.bool (decide (p ≤ q))) :=
  q_bin h1 h2 eqg_int fun w => by
    simp [binOp, Op.intCmp, UInt64.le_iff_toNat_le]

theorem q_gtq {p q : UInt64} (h1 : opv L x = some (vq p)) (h2 : opv L y = some (vq q)) : Qt P n w0 zs hs L ⟨d, .binOp .gtr t x y t', ty, pos, af, g⟩ (.bool (decide (q < p))) :=
  q_bin h1 h2 eqg_int fun w => by
    simp [binOp, Op.intCmp, UInt64.lt_iff_toNat_lt]

theorem q_geq {p q : UInt64} (h1 : opv L x = some (vq p)) (h2 : opv L y = some (vq q)) : Qt P n w0 zs hs L ⟨d, .binOp .geq t x y t', ty, pos, af, g⟩ (.bool (decide (q ≤ p))) :=
  q_bin h1 h2 eqg_int fun w => by
    simp [binOp, Op.intCmp, UInt64.le_iff_toNat_le]


/-! conversions -/
theorem q_conv {k : IntKind} {p q : Int} {k' : IntKind} {d1 d2 : TypeDesc} {s1 b1 s2 b2 : Nat} {z1 z2 : Value} (ht : Tf P t d1 s1 b1 z1) (ht' : Tf P t' d2 s2 b2 z2) (hd1 : d1 = .int k) (hd2 : d2 = .int k') (h1 : opv L x = some (.int k p)) (hq : k'.wrap p = q) :
    Qt P n w0 zs hs L ⟨d, .convert t t' x, ty, pos, af, g⟩ (.int k' q) :=
  qt_of fun a ha w _ => by
    have e1 := run_underlying ht.und (w := w)
    have e2 := run_underlying ht'.und (w := w)
    subst hd1 hd2
    simp only [execOp, ha.eval h1]
    simp [convert, e1, e2, Conv.intToInt, hq]

theorem q_cv_ii {p : Int} {s1 b1 s2 b2 : Nat} {z1 z2 : Value} (ht : Tf P t (.int .i64) s1 b1 z1) (ht' : Tf P t' (.int .i64) s2 b2 z2) (h1 : opv L x = some (vi p)) (hb : -9223372036854775808 ≤ p ∧ p ≤ 9223372036854775807) :
    Qt P n w0 zs hs L ⟨d, .convert t t' x, ty, pos, af, g⟩ (vi (p)) :=
  q_conv ht ht' rfl rfl h1 (IntWalk.i64_in _ hb)

theorem q_cv_ib {p : Int} {s1 b1 s2 b2 : Nat} {z1 z2 : Value} (ht : Tf P t (.int .i64) s1 b1 z1) (ht' : Tf P t' (.int .u8) s2 b2 z2) (h1 : opv L x = some (vi p)) :
    Qt P n w0 zs hs L ⟨d, .convert t t' x, ty, pos, af, g⟩ (vb (ofb p)) :=
  q_conv ht ht' rfl rfl h1 (by rw [ofb_toNat, wrap_u8])

theorem q_cv_iw {p : Int} {s1 b1 s2 b2 : Nat} {z1 z2 : Value} (ht : Tf P t (.int .i64) s1 b1 z1) (ht' : Tf P t' (.int .u32) s2 b2 z2) (h1 : opv L x = some (vi p)) :
    Qt P n w0 zs hs L ⟨d, .convert t t' x, ty, pos, af, g⟩ (vw (ofw p)) :=
  q_conv ht ht' rfl rfl h1 (by rw [ofw_toNat, wrap_u32])

theorem q_cv_iq {p : Int} {s1 b1 s2 b2 : Nat} {z1 z2 : Value} (ht : Tf P t (.int .i64) s1 b1 z1) (ht' : Tf P t' (.int .u64) s2 b2 z2) (h1 : opv L x = some (vi p)) :
    Qt P n w0 zs hs L ⟨d, .convert t t' x, ty, pos, af, g⟩ (vq (ofq p)) :=
  q_conv ht ht' rfl rfl h1 (by rw [ofq_toNat, wrap_u64])

theorem q_cv_bi {p : UInt8} {s1 b1 s2 b2 : Nat} {z1 z2 : Value} (ht : Tf P t (.int .u8) s1 b1 z1) (ht' : Tf P t' (.int .i64) s2 b2 z2) (h1 : opv L x = some (vb p)) :
    Qt P n w0 zs hs L ⟨d, .convert t t' x, ty, pos, af, g⟩ (vi (p.toNat)) :=
  q_conv ht ht' rfl rfl h1 (IntWalk.i64_in _ (by have := toNat8 p; omega))

theorem q_cv_bb {p : UInt8} {s1 b1 s2 b2 : Nat} {z1 z2 : Value} (ht : Tf P t (.int .u8) s1 b1 z1) (ht' : Tf P t' (.int .u8) s2 b2 z2) (h1 : opv L x = some (vb p)) :
    Qt P n w0 zs hs L ⟨d, .convert t t' x, ty, pos, af, g⟩ (vb (ofb (p.toNat : Int))) :=
  q_conv ht ht' rfl rfl h1 (by rw [ofb_toNat, wrap_u8])

theorem q_cv_bw {p : UInt8} {s1 b1 s2 b2 : Nat} {z1 z2 : Value} (ht : Tf P t (.int .u8) s1 b1 z1) (ht' : Tf P t' (.int .u32) s2 b2 z2) (h1 : opv L x = some (vb p)) :
    Qt P n w0 zs hs L ⟨d, .convert t t' x, ty, pos, af, g⟩ (vw (ofw (p.toNat : Int))) :=
  q_conv ht ht' rfl rfl h1 (by rw [ofw_toNat, wrap_u32])

theorem q_cv_bq {p : UInt8} {s1 b1 s2 b2 : Nat} {z1 z2 : Value} (ht : Tf P t (.int .u8) s1 b1 z1) (ht' : Tf P t' (.int .u64) s2 b2 z2) (h1 : opv L x = some (vb p)) :
    Qt P n w0 zs hs L ⟨d, .convert t t' x, ty, pos, af, g⟩ (vq (ofq (p.toNat : Int))) :=
  q_conv ht ht' rfl rfl h1 (by rw [ofq_toNat, wrap_u64])

theorem q_cv_wi {p : UInt32} {s1 b1 s2 b2 : Nat} {z1 z2 : Value} (ht : Tf P t (.int .u32) s1 b1 z1) (ht' : Tf P t' (.int .i64) s2 b2 z2) (h1 : opv L x = some (vw p)) :
    Qt P n w0 zs hs L ⟨d, .convert t t' x, ty, pos, af, g⟩ (vi (p.toNat)) :=
  q_conv ht ht' rfl rfl h1 (IntWalk.i64_in _ (by have := toNat32 p; omega))

theorem q_cv_wb {p : UInt32} {s1 b1 s2 b2 : Nat} {z1 z2 : Value} (ht : Tf P t (.int .u32) s1 b1 z1) (ht' : Tf P t' (.int .u8) s2 b2 z2) (h1 : opv L x = some (vw p)) :
    Qt P n w0 zs hs L ⟨d, .convert t t' x, ty, pos, af, g⟩ (vb (ofb (p.toNat : Int))) :=
  q_conv ht ht' rfl rfl h1 (by rw [ofb_toNat, wrap_u8])

theorem q_cv_ww {p : UInt32} {s1 b1 s2 b2 : Nat} {z1 z2 : Value} (ht : Tf P t (.int .u32) s1 b1 z1) (ht' : Tf P t' (.int .u32) s2 b2 z2) (h1 : opv L x = some (vw p)) :
    Qt P n w0 zs hs L ⟨d, .convert t t' x, ty, pos, af, g⟩ (vw (ofw (p.toNat : Int))) :=
  q_conv ht ht' rfl rfl h1 (by rw [ofw_toNat, wrap_u32])

theorem q_cv_wq {p : UInt32} {s1 b1 s2 b2 : Nat} {z1 z2 : Value} (ht : Tf P t (.int .u32) s1 b1 z1) (ht' : Tf P t' (.int .u64) s2 b2 z2) (h1 : opv L x = some (vw p)) :
    Qt P n w0 zs hs L ⟨d, .convert t t' x, ty, pos, af, g⟩ (vq (ofq (p.toNat : Int))) :=
  q_conv ht ht' rfl rfl h1 (by rw [ofq_toNat, wrap_u64])

theorem q_cv_qi {p : UInt64} {s1 b1 s2 b2 : Nat} {z1 z2 : Value} (ht : Tf P t (.int .u64) s1 b1 z1) (ht' : Tf P t' (.int .i64) s2 b2 z2) (h1 : opv L x = some (vq p)) :
    Qt P n w0 zs hs L ⟨d, .convert t t' x, ty, pos, af, g⟩ (vi (sgn p)) :=
  q_conv ht ht' rfl rfl h1 (by have := toNat64 p; rw [IntKind.wrap_i64]; unfold sgn; split <;> omega)

theorem q_cv_qb {p : UInt64} {s1 b1 s2 b2 : Nat} {z1 z2 : Value} (ht : Tf P t (.int .u64) s1 b1 z1) (ht' : Tf P t' (.int .u8) s2 b2 z2) (h1 : opv L x = some (vq p)) :
    Qt P n w0 zs hs L ⟨d, .convert t t' x, ty, pos, af, g⟩ (vb (ofb (p.toNat : Int))) :=
  q_conv ht ht' rfl rfl h1 (by rw [ofb_toNat, wrap_u8])

theorem q_cv_qw {p : UInt64} {s1 b1 s2 b2 : Nat} {z1 z2 : Value} (ht : Tf P t (.int .u64) s1 b1 z1) (ht' : Tf P t' (.int .u32) s2 b2 z2) (h1 : opv L x = some (vq p)) :
    Qt P n w0 zs hs L ⟨d, .convert t t' x, ty, pos, af, g⟩ (vw (ofw (p.toNat : Int))) :=
  q_conv ht ht' rfl rfl h1 (by rw [ofw_toNat, wrap_u32])

theorem q_cv_qq {p : UInt64} {s1 b1 s2 b2 : Nat} {z1 z2 : Value} (ht : Tf P t (.int .u64) s1 b1 z1) (ht' : Tf P t' (.int .u64) s2 b2 z2) (h1 : opv L x = some (vq p)) :
    Qt P n w0 zs hs L ⟨d, .convert t t' x, ty, pos, af, g⟩ (vq (ofq (p.toNat : Int))) :=
  q_conv ht ht' rfl rfl h1 (by rw [ofq_toNat, wrap_u64])


/-! strings -/
theorem bs_append (a b : List UInt8) : bs a ++ bs b = bs (a ++ b) := by
  apply ByteArray.ext
  simp [bs, ByteArray.data_append]
theorem bs_inj {a b : List UInt8} (h : bs a = bs b) : a = b := by
  have := congrArg (fun x => x.data.toList) h
  simpa using this
theorem q_adds {p q : List UInt8} (h1 : opv L x = some (vs p)) (h2 : opv L y = some (vs q)) (hb : p.length + q.length ≤ 9223372036854775807) :
    Qt P n w0 zs hs L ⟨d, .binOp .add t x y t', ty, pos, af, g⟩ (vs (p ++ q)) :=
  q_bin h1 h2 eqg_str fun w => by
    have hm : IntKind.i64.max = 9223372036854775807 := by decide
    have : ¬ ((((bs p).size + (bs q).size : Nat) : Int) > IntKind.i64.max) := by rw [hm]; simp [ByteArray.size]; omega
    simp only [binOp, Op.stringOp]
    rw [if_neg this, bs_append]
    rfl
theorem q_eqs {p q : List UInt8} (h1 : opv L x = some (vs p)) (h2 : opv L y = some (vs q)) : Qt P n w0 zs hs L ⟨d, .binOp .eql t x y t', ty, pos, af, g⟩ (.bool (decide (p = q))) :=
  q_bin h1 h2 eqg_str fun w => by
    have : (p == q) = decide (p = q) := by rw [Bool.eq_iff_iff]; simp
    simp [binOp, Op.stringOp, this]
theorem q_nes {p q : List UInt8} (h1 : opv L x = some (vs p)) (h2 : opv L y = some (vs q)) : Qt P n w0 zs hs L ⟨d, .binOp .neq t x y t', ty, pos, af, g⟩ (.bool (!decide (p = q))) :=
  q_bin h1 h2 eqg_str fun w => by
    have : (p == q) = decide (p = q) := by rw [Bool.eq_iff_iff]; simp
    simp [binOp, Op.stringOp, this]
theorem q_lts {p q : List UInt8} (h1 : opv L x = some (vs p)) (h2 : opv L y = some (vs q)) : Qt P n w0 zs hs L ⟨d, .binOp .lss t x y t', ty, pos, af, g⟩ (.bool (Op.bytesLess p q)) :=
  q_bin h1 h2 eqg_str fun w => by simp [binOp, Op.stringOp]

theorem equalIn_bool (dd : Nat) {p q : Bool} (hu : P.underlying t = some .bool) (w : World) : (Op.equalIn (dd + 1) t (.bool p) (.bool q)).run P w = .ok (p == q) w := by
  simp [Op.equalIn, run_underlying hu]
theorem q_eqt {p q : Bool} {s b : Nat} {zv : Value} (ht : Tf P t .bool s b zv) (h1 : opv L x = some (.bool p)) (h2 : opv L y = some (.bool q)) : Qt P n w0 zs hs L ⟨d, .binOp .eql t x y t', ty, pos, af, g⟩ (.bool (p == q)) :=
  q_bin h1 h2 eqg_bool fun w => by
    simp only [binOp]
    simp [Op.equal, Op.maxDepth, equalIn_bool 9999 ht.und w]
theorem q_net {p q : Bool} {s b : Nat} {zv : Value} (ht : Tf P t .bool s b zv) (h1 : opv L x = some (.bool p)) (h2 : opv L y = some (.bool q)) : Qt P n w0 zs hs L ⟨d, .binOp .neq t x y t', ty, pos, af, g⟩ (.bool (!(p == q))) :=
  q_bin h1 h2 eqg_bool fun w => by
    simp only [binOp]
    simp [Op.equal, Op.maxDepth, equalIn_bool 9999 ht.und w]

end
end Go.Fw
