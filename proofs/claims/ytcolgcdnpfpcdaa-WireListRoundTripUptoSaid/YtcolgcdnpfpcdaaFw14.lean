/- A text of a proof over this seat: walks over the program's functions and the plain laws that they need. -/
import Derived.Test.YtcolgcdnpfpcdaaFw13
set_option linter.all false
namespace Go.Fw
section
variable {P : Program} {n : Nat} {w0 : World} {zs : List PH} {hs : List Res} {L : List (Nat × Value)} {d : Option Tmp} {ty t t' : TypeId} {pos : String} {af : Array Edge} {g : Option (Nat × Bool)}
variable {x y c o1 o2 o3 : Operand} {u v : Value} {ops : Array Oper} {rest : List Oper}
/-- A part of an array that lies in a box of its own. -/
theorem q_ld_blkAM {α : Type} {f : α → Value} {dd : TypeDesc} {s by_ : Nat} {zv : Value} (ht : Tf P t dd s by_ zv) (k : Nat) {b off : Nat} {bt : TypeId} {xs : List α} (h1 : opv L x = some (.pointer (some ⟨b, off, none⟩))) (hk : hs[k]? = some (.blk b bt (xs.map f))) (hl : off + s ≤ xs.length) (hd : aggD dd = true) :
    Qt P n w0 zs hs L ⟨d, .load t x, ty, pos, af, g⟩ (.agg (((xs.drop off).take s).map f).toArray) :=
  q_ld_blkA ht k h1 hk (by rw [List.map_take, List.map_drop]) (by simpa using hl) hd
end
end Go.Fw
namespace Go.Fw
/-- A row that nobody will write any more. -/
theorem St.freeze {α : Type} {E : Enc α} {w0 : World} {zs : List PH} {hs : List Res} {w : World} {e : TypeId} {v : Value} {m : Nat} {cs : List Value} (h : St w0 zs (.row v e E.size m cs :: hs) w) {z' : PH} (hz' : z' = (fun _ => none) ∨ z' ∈ zs) {xs : List α} (hm : m = xs.length) (hb : m ≤ 140737488355328)
    (hr : ∀ i x, xs[i]? = some x → ∃ cx, E.rep z' x cx ∧ ∀ j u, cx[j]? = some u → cs[i * E.size + j]? = some u) : ∃ z, Sl E z v xs ∧ St w0 (z :: zs) hs w := by
  have hown := h.own _ List.mem_cons_self
  have hle' : z'.le (ph w) := by
    rcases hz' with rfl | hz'
    · intro b o hb; cases hb
    · exact (h.zone z' hz').1
  have hno : ∀ b, v.ownBlock = some b → z' b = none := by
    intro b hvb
    rcases hz' with rfl | hz'
    · rfl
    · exact hown.2 b hvb z' hz'
  let z : PH := fun k => if v.ownBlock = some k then w.heap[k]? else z' k
  have hzz : z'.le z := by
    intro k o hk
    show (if v.ownBlock = some k then w.heap[k]? else z' k) = some o
    split
    · rename_i hv; rw [hno k hv] at hk; cases hk
    · exact hk
  have hzw : z.le (ph w) := by
    intro k o hk
    replace hk : (if v.ownBlock = some k then w.heap[k]? else z' k) = some o := hk
    split at hk
    · exact hk
    · exact hle' k o hk
  refine ⟨z, ?_, h.ext, ?_, ?_, ?_, h.io⟩
  · subst hm
    refine ⟨hb, ?_⟩
    rcases hown.1.2 with ⟨rfl, hn⟩ | ⟨b, cap, cur, rfl, hgb, hg, hnc, hcm, hcs, htake⟩
    · refine ⟨none, 0, by rw [hn], by omega, fun i x hx => ?_⟩
      have := (List.getElem?_eq_some_iff.1 hx).1
      omega
    · refine ⟨some ⟨b, 0, none⟩, cap, rfl, hnc, fun i x hx => ?_⟩
      obtain ⟨cx, h1, h2⟩ := hr i x hx
      refine ⟨b, 0, cur, e, (0, 0), cx, rfl, ?_, E.mono hzz h1, fun j u hu => ?_⟩
      · show (if _ = some b then w.heap[b]? else z' b) = _
        rw [if_pos (show (Value.slice (some ⟨b, 0, none⟩) xs.length cap).ownBlock = some b from rfl)]; exact hg
      · have h3 := h2 j u hu
        rw [← htake, List.getElem?_take] at h3
        split at h3
        · simpa [Nat.zero_add] using h3
        · cases h3
  · intro y hy
    rcases List.mem_cons.1 hy with rfl | hy
    · refine ⟨hzw, fun b o hbo => ?_⟩
      replace hbo : (if v.ownBlock = some b then w.heap[b]? else z' b) = some o := hbo
      split at hbo
      · rename_i hv; exact (Res.ok_ge hown.1 b hv).1
      · rcases hz' with rfl | hz'
        · cases hbo
        · exact (h.zone z' hz').2 b o hbo
    · exact h.zone y hy
  · intro r hr'
    have h1 := h.own r (List.mem_cons_of_mem _ hr')
    refine ⟨h1.1, fun b hb y hy => ?_⟩
    rcases List.mem_cons.1 hy with rfl | hy
    · show (if v.ownBlock = some b then w.heap[b]? else z' b) = none
      split
      · rename_i hv
        exfalso
        have hnd := h.nd
        rw [List.filterMap_cons] at hnd
        have e1 : (Res.row v e E.size m cs).id = some b := hv
        rw [e1] at hnd
        exact (List.nodup_cons.1 hnd).1 (List.mem_filterMap.2 ⟨r, hr', hb⟩)
      · rcases hz' with rfl | hz'
        · rfl
        · exact h1.2 b hb z' hz'
    · exact h1.2 b hb y hy
  · have hnd := h.nd
    exact filterMap_sub (List.sublist_cons_self _ _) hnd
theorem St.freezeV {α : Type} {f : α → Value} {p : α → Prop} {h0 : ∀ x, (f x).oneCell' = true} {w0 : World} {zs : List PH} {hs : List Res} {w : World} {e : TypeId} {v : Value} {m : Nat} {xs : List α} (h : St w0 zs (.row v e 1 m (xs.map f) :: hs) w) (hm : m = xs.length) (hb : m ≤ 140737488355328) (hp : ∀ x ∈ xs, p x) : ∃ z, Sl (encV f p h0) z v xs ∧ St w0 (z :: zs) hs w :=
  St.freeze (E := encV f p h0) h (z' := fun _ => none) (.inl rfl) hm hb fun i x hx => ⟨[f x], ⟨rfl, hp x (List.mem_of_getElem? hx)⟩, fun j u hu => by
    cases j with
    | zero => simp only [List.getElem?_cons_zero, Option.some.injEq] at hu; subst hu; show (xs.map f)[i * 1 + 0]? = _; simp [hx]
    | succ j => simp at hu⟩
theorem St.freezeB {w0 : World} {zs : List PH} {hs : List Res} {w : World} {e : TypeId} {v : Value} {m : Nat} {xs : List UInt8} (h : St w0 zs (.row v e 1 m (xs.map vb) :: hs) w) (hm : m = xs.length) (hb : m ≤ 140737488355328) : ∃ z, Sl encB z v xs ∧ St w0 (z :: zs) hs w :=
  h.freezeV (f := vb) hm hb fun _ _ => trivial
end Go.Fw
namespace Go.Fw
section
variable {P : Program} {n : Nat} {w0 : World} {zs : List PH} {hs : List Res} {L : List (Nat × Value)} {d : Option Tmp} {ty t t' : TypeId} {pos : String} {af : Array Edge} {g : Option (Nat × Bool)}
theorem q_buildA1 {m : Nat} {e : TypeId} {s by_ : Nat} {zc : List Value} (ht : Tf P t (.array m e) s by_ (.agg zc.toArray)) {de : TypeDesc} {be : Nat} {ze : Value} (hte : Tf P e de 1 be ze) {parts : Array (Nat × Operand)} {vs : List Value} (h1 : opvs L (parts.toList.map (·.2)) = some vs)
    (hix : parts.toList.map (·.1) = List.range' 0 vs.length) (h1c : ∀ v ∈ vs, v.oneCell' = true) (hz : zc.length = m) (hl : vs.length = m) :
    Qt P n w0 zs hs L ⟨d, .build t parts, ty, pos, af, g⟩ (.agg vs.toArray) :=
  q_build (opvs_mapM _ _ h1) (run_build_arr ht hte (by rw [hix]; exact fill_full (m := m) (show (Value.agg zc.toArray).cells.size = m from by show zc.toArray.size = m; simpa using hz) hl h1c))
end
end Go.Fw
