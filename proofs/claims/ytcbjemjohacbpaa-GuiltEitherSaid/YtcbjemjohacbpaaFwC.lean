/- A text of a proof over this seat: walks over the program's functions and the plain laws that they need. -/
import Derived.Test.YtcbjemjohacbpaaFwB
set_option linter.all false
namespace Go.Fw
open Go Go.Sem
section
variable {P : Program} {n : Nat} {w0 : World} {zs : List PH} {hs : List Res} {L : List (Nat × Value)} {d : Option Tmp} {ty t : TypeId} {pos : String} {af : Array Edge} {g : Option (Nat × Bool)} {x y : Operand} {v : Value}
/-- A struct of fields of one cell, one of which is given. -/
theorem q_build1 {fs : List Field} {s by_ : Nat} {zc : List Value} (ht : Tf P t (.struct fs.toArray) s by_ (.agg zc.toArray)) (m : Nat) (hp : (fs.mapM fun f => (P.info? f.type).map fun i => (f.offset, i.size)) = some ((List.range' 0 m).map fun i => (i, 1))) {i : Nat} (h1 : opv L x = some v) (ho : v.oneCell' = true) (hz : zc.length = m) (hi : i < m) :
    Qt P n w0 zs hs L ⟨d, .build t #[(i, x)], ty, pos, af, g⟩ (.agg (zc.set i v).toArray) :=
  q_buildP (vs := [v]) ht hp (by simp [opvs, h1]) (by
    have hc : v.cells = #[v] := by cases v <;> first | rfl | (simp [Value.oneCell'] at ho)
    have hg := places_get m i hi
    simp only [List.map_cons, List.map_nil, List.zip_cons_cons, List.zip_nil_left, Instr.fill, hg, hc]
    have : (Value.agg zc.toArray).cells = zc.toArray := rfl
    rw [this, if_neg (by simp; omega)]
    simp)
end
end Go.Fw
namespace Go.Fw
open Go Go.Sem
section
variable {P : Program} {w0 : World} {zs : List PH} {hs : List Res} {l : List Oper}
/-- A region that draws its order: m quiet operations (guards to any depth), then the others in the text's order. -/
theorem regqt {id : Nat} {Q : Exit → Act → World → Prop} {a : Act} {w : World} (m : Nat) (hm : P.follows .mixedOrders = true) (hB : Region.lexTailB .any l.toArray m = true) (hS : St w0 zs hs w)
    (h : wpQuiet P l.toArray (St w0 zs hs) (fun a => ∀ w, St w0 zs hs w → wpList P l.toArray Q (l.drop m) a w) (l.take m) a) : (Code.region id l.toArray true).wp P Q a w :=
  wp_region_quiet_tail (C := St w0 zs hs) m hm hB (hS.drew _) h
end
end Go.Fw
