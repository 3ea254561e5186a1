/- A text of a proof over this seat: walks over the program's functions and the plain laws that they need. -/
import Derived.Test.YtdojfnigffeblaaDoorFwA
import Derived.Test.YtdojfnigffeblaaDoorFwB
import Derived.Test.YtdojfnigffeblaaDoorFwD
set_option linter.all false
namespace Go.Fw
section
variable {P : Program} {n : Nat} {w0 : World} {L : List (Nat × Value)}
structure Rdy (ops : Array Oper) (b : Nat → Bool) (i : Nat) : Prop where
 dn : ∀ k, reachB .any ops 12 i k = true → b k = true
 no : ∀ k, reachB .any ops 12 k i = true → b k = false
 me : b i = false
def updB (b : Nat → Bool) (i : Nat) : Nat → Bool := fun k => bif Nat.beq k i then true else b k
def updX (X : Nat → Value) (i : Nat) (v : Value) : Nat → Value := fun k => bif Nat.beq k i then v else X k
theorem rdy_of {ops : Array Oper} {ls : Array Bool} {i : Nat} (hc : Closed .any ops ls) (hi : i ∈ Region.ready .any ops ls) : Rdy ops (fun k => ls.getD k false) i := by
 obtain ⟨h1, o, ho, hall⟩ := mem_ready.1 hi
 have hme := getD_both h1
 refine ⟨fun k hk => ?_, fun k hk => ?_, hme⟩
 ·unfold reachB at hk
  rw [ho] at hk
  simp only [Array.any_eq_true, Bool.and_eq_true, Bool.or_eq_true, beq_iff_eq] at hk
  obtain ⟨j, hj, hb, h⟩ := hk
  have h2 := hall o.after[j] (by simp) hb
  rcases h with h | h
  ·rwa [h] at h2
  ·exact hc.reach _ _ _ h h2
 ·cases hb : ls.getD k false with
  | false => rfl
  | true => have := hc.reach _ _ _ hk hb; rw [hme] at this; cases this
def topoB (ops : Array Oper) : List Nat → List Nat → Bool
 | _, [] => true
 | dn, i :: r => (match ops[i]? with | some o => o.after.all (fun e => !Region.binds .any e || dn.contains e.on) | none => false) && topoB ops (i :: dn) r
theorem topo_all {ops : Array Oper} {ls : Array Bool} (hr : Region.ready .any ops ls = []) (hsz : ls.size = ops.size) : ∀ (tl dn : List Nat), topoB ops dn tl = true → (∀ k ∈ dn, ls.getD k false = true) → ∀ k ∈ tl, ls.getD k false = true
 | [], _, _, _, k, hk => by cases hk
 | i :: r, dn, h, hd, k, hk => by
  unfold topoB at h
  rw [Bool.and_eq_true] at h
  obtain ⟨h1, h2⟩ := h
  cases ho : ops[i]? with
  | none => rw [ho] at h1; cases h1
  | some o =>
   rw [ho] at h1
   have hlt : i < ops.size := by
    rcases Nat.lt_or_ge i ops.size with h | h
    ·exact h
    ·rw [Array.getElem?_eq_none h] at ho; cases ho
   have hi : ls.getD i false = true := by
    cases hb : ls.getD i false with
    | true => rfl
    | false =>
     exfalso
     have hb' : ls.getD i true = false := by
      rw [Array.getD_eq_getD_getElem?, Array.getElem?_eq_getElem omQ] at hb ⊢
      exact hb
     have : i ∈ Region.ready .any ops ls := mem_ready.2 ⟨hb', o, ho, fun e he hbd => by
      rw [Array.all_eq_true] at h1
      obtain ⟨j, hj, rfl⟩ := Array.mem_iff_getElem.1 he
      have := h1 j hj
      rw [hbd] at this
      simp only [Bool.not_true, Bool.false_or, List.contains_eq_mem, decide_eq_true_eq] at this
      exact hd _ this⟩
     rw [hr] at this
     cases this
   rcases List.mem_cons.1 hk with rfl | hk
   ·exact hi
   ·exact topo_all hr hsz r (i :: dn) h2 (fun q hq => by
     rcases List.mem_cons.1 hq with rfl | hq
     ·exact hi
     ·exact hd _ hq) k hk
theorem upd_eq {ls : Array Bool} {i : Nat} (hi : i < ls.size) : (fun k => (ls.setIfInBounds i true).getD k false) = updB (fun k => ls.getD k false) i := by
 funext k
 unfold updB
 cases hb : Nat.beq k i with
 | true => obtain rfl := Nat.eq_of_beq_eq_true hb; rw [cond_true, Array.getD_eq_getD_getElem?, Array.getElem?_setIfInBounds_self, if_pos hi]; rfl
 | false => rw [cond_false]; exact getD_set_ne false (Ne.symm (Nat.ne_of_beq_eq_false hb))
theorem cnt_set {ls : Array Bool} {i : Nat} (hi : i < ls.size) (h : ls.getD i false = false) : (ls.setIfInBounds i true).toList.count false + 1 = ls.toList.count false := by
 have hl : i < ls.toList.length := by simpa using hi
 have e : ls.toList[i] = false := by
  rw [Array.getD_eq_getD_getElem?, Array.getElem?_eq_getElem hi] at h
  simpa using h
 have hp : 0 < ls.toList.count false := List.count_pos_iff.2 (e ▸ List.getElem_mem hl)
 rw [Array.toList_setIfInBounds, List.count_set hl, e, if_pos (by rfl), if_neg deQ, Nat.add_zero, Nat.sub_add_cancel hp]
theorem goI {ops : Array Oper} {J : Act → World → Prop} (I : (Nat → Bool) → Act → World → Prop) (tl : List Nat) (ht : topoB ops [] tl = true)
  (hstep : ∀ i, i < ops.size → ∀ b a w, Rdy ops b i → I b a w → wpOp P ops (QJ J) i (fun a' w' => I (updB b i) a' w') a w)
  (hend : ∀ b a w, (∀ k ∈ tl, b k = true) → I b a w → J a w) :
  ∀ f ls a w, ls.size = ops.size → Closed .any ops ls → ls.toList.count false ≤ f → I (fun k => ls.getD k false) a w → wpAny P .any ops (QJ J) f ls a w := by
 intro f
 induction f with
 | zero =>
  intro ls a w hsz hc hcnt hI
  have hr : Region.ready .any ops ls = [] := by
   rw [List.eq_nil_iff_forall_not_mem]
   intro i hi
   obtain ⟨h1, o, ho, _⟩ := mem_ready.1 hi
   have hlt : i < ls.size := by
    rcases Nat.lt_or_ge i ls.size with h | h
    ·exact h
    ·rw [Array.getD_eq_getD_getElem?, Array.getElem?_eq_none h] at h1; cases h1
   have := cnt_set hlt (getD_both h1)
   omega
  exact ⟨hr, rfl, hend _ a w (topo_all hr hsz tl [] ht (fun k hk => by cases hk)) hI⟩
 | succ f ih =>
  intro ls a w hsz hc hcnt hI
  refine ⟨fun hr => ⟨rfl, hend _ a w (topo_all hr hsz tl [] ht (fun k hk => by cases hk)) hI⟩, fun i hi => ?_⟩
  obtain ⟨h1, o, ho, _⟩ := mem_ready.1 hi
  have hlt : i < ls.size := by
   rcases Nat.lt_or_ge i ls.size with h | h
   ·exact h
   ·rw [Array.getD_eq_getD_getElem?, Array.getElem?_eq_none h] at h1; cases h1
  have hs := cnt_set hlt (getD_both h1)
  refine wpOp_mono (fun a' w' h' => ?_) (hstep i omQ _ a w (rdy_of hc hi) hI)
  refine ih _ a' w' (by simpa using hsz) (hc.set hi) omQ ?_
  rw [upd_eq hlt]
  exact h'
theorem regI [Dfs] {id : Nat} {Q : Exit → Act → World → Prop} {a : Act} {w : World} {l : List Oper} {zs : List PH} {hs : List Res} (I : (Nat → Bool) → Act → World → Prop) (tl : List Nat) (hm : P.follows .mixedOrders = true) (ht : topoB l.toArray [] tl = true)
  (h0 : ∀ w, Fr n L a → St w0 zs hs w → I (fun _ => false) a w)
  {is : List Nat} (his : List.range l.length = is) (hstep : AllW (fun i => ∀ b a w, Rdy l.toArray b i → I b a w → wpOp P l.toArray (QJ fun a w => Q .normal a w) i (fun a' w' => I (updB b i) a' w') a w) is)
  (hend : ∀ b a w, (∀ k ∈ tl, b k = true) → I b a w → Q .normal a w) : Fr n L a → St w0 zs hs w → (Code.region id l.toArray true).wp P Q a w := by
 intro hF hS
 refine Code.wp_mono (Q := QJ fun a w => Q .normal a w) (fun e a w q => ?_) (wp_region_any hm (goI I tl ht (fun i hi => hstep.mem i (his ▸ List.mem_range.2 (by simpa using hi))) hend _ _ _ _ (by simp) (fun k o _ hk => ?_) (by simp) ?_))
 ·obtain ⟨rfl, hj⟩ := q; exact hj
 ·exact absurd hk (by simp [Array.getD_eq_getD_getElem?, Array.getElem?_replicate]; split <;> simp)
 ·have e : (fun k => (Array.replicate l.toArray.size false).getD k false) = fun _ => false := by
   funext k
   rw [Array.getD_eq_getD_getElem?, Array.getElem?_replicate]
   split <;> rfl
  rw [e]
  exact h0 _ hF (hS.drew (w.drawn + 1))
theorem opI_ef [Dfs] {l : List Oper} {J I' : Act → World → Prop} {i : Nat} {a : Act} {w : World} {d : Option Tmp} {op : Op} {ty : TypeId} {pos : String} {af : Array Edge} {zs : List PH} {hs : List Res} {K : Value → List PH → List Res → Prop}
  (hi : l[i]? = some ⟨d, op, ty, pos, af, none⟩) (hF : Fr n L a) (hS : St w0 zs hs w) (hd : (match d with | some k => Nat.blt k n | none => true) = true) (e : Ef P n w0 zs hs L ⟨d, op, ty, pos, af, none⟩ K)
  (h : ∀ v zs' hs' a w, K v zs' hs' → Fr n (upL d v L) a → St w0 zs' hs' w → I' a w) : wpOp P l.toArray (QJ J) i I' a w := by
 replace hi : l.toArray[i]? = some ⟨d, op, ty, pos, af, none⟩ := by simpa using hi
 unfold wpOp
 simp only [hi]
 rw [if_pos (show Region.wanted ⟨d, op, ty, pos, af, none⟩ (yielded l.toArray a.tmps) = true from rfl)]
 exact .inl (e a hF w hS _ _ fun v zs' hs' w' hK hS' => h v zs' hs' _ w' hK (hF.up (by cases d with | none => trivial | some k => exact Nat.blt_eq.mp hd)) hS')
theorem Ef.weak [Dfs] {L' : List (Nat × Value)} {zs : List PH} {hs : List Res} {o : Oper} {K : Value → List PH → List Res → Prop} (h : ∀ a, Fr n L a → Fr n L' a) (e : Ef P n w0 zs hs L' o K) : Ef P n w0 zs hs L o K := fun a ha => e a (h a ha)
def slF (sl : List (Nat × Nat)) (X : Nat → Value) (L : List (Nat × Value)) : List (Nat × Value) := sl.map (fun p => (p.2, X p.1)) ++ L
def IS [Dfs] (n : Nat) (w0 : World) (sl : List (Nat × Nat)) (L : List (Nat × Value)) (zs0 : List PH) (hsF : (Nat → Bool) → (Nat → Value) → List Res) (F : PH → Nat → Value → Prop) (b : Nat → Bool) (a : Act) (w : World) : Prop :=
 ∃ X zu, Fr n (slF sl X L) a ∧ St w0 (zu :: zs0) (hsF b X) w ∧ (∀ z ∈ zs0, z.le zu) ∧ ∀ k, b k = true → F zu k (X k)
theorem slF_0 [Dfs] {a : Act} {L : List (Nat × Value)} (h : Fr n L a) : ∀ (sl : List (Nat × Nat)), sl.all (fun p => Nat.blt p.2 n) = true → (∀ p ∈ sl, ∀ q ∈ sl, p.1 = q.1 → p.2 = q.2) → ∃ X, Fr n (slF sl X L) a := by
 intro sl hl hin
 refine ⟨fun k => match sl.find? (fun p => Nat.beq p.1 k) with | some p => a.tmps.getD p.2 undef | none => undef, h.size, h.nodef, ?_⟩
 suffices H : ∀ (X : Nat → Value) (sl2 : List (Nat × Nat)), (∀ p ∈ sl2, p.2 < n ∧ X p.1 = a.tmps.getD p.2 undef) → ∀ t v, look (slF sl2 X L) t = some v → a.tmps[t]? = some v by
  refine H _ sl fun p hp => ⟨Nat.blt_eq.mp (List.all_eq_true.1 hl p hp), ?_⟩
  cases hf : sl.find? (fun q => Nat.beq q.1 p.1) with
  | none => have := List.find?_eq_none.1 hf p hp; simp at this
  | some q =>
   have h1 := List.find?_some hf
   have h2 := List.mem_of_find?_eq_some hf
   dsimp only
   rw [hin q h2 p hp (Nat.eq_of_beq_eq_true h1)]
 intro X sl2
 induction sl2 with
 | nil => intro _ t v hv; exact h.get t v hv
 | cons p r ih =>
  intro hp t v hv
  unfold slF at hv
  rw [List.map_cons, List.cons_append] at hv
  unfold look at hv
  cases hb : Nat.beq p.2 t with
  | true =>
   rw [hb, cond_true] at hv
   obtain rfl := Nat.eq_of_beq_eq_true hb
   obtain ⟨h1, h2⟩ := hp p List.mem_cons_self
   rw [← Option.some.inj hv, h2, Array.getD_eq_getD_getElem?, Array.getElem?_eq_getElem (by rw [h.size]; exact h1)]
   rfl
  | false => rw [hb, cond_false] at hv; exact ih (fun q hq => hp q (List.mem_cons_of_mem _ hq)) t v hv
theorem slF_up [Dfs] {a : Act} {X : Nat → Value} {i d : Nat} {v : Value} : ∀ {sl : List (Nat × Nat)}, (sl.all (fun p => Nat.beq p.1 i == Nat.beq p.2 d) && sl.any (fun p => Nat.beq p.2 d)) = true → Fr n ((d, v) :: slF sl X L) a → Fr n (slF sl (updX X i v) L) a := by
 intro sl h hF
 rw [Bool.and_eq_true] at h
 refine ⟨hF.size, hF.nodef, fun t u hu => hF.get t u ?_⟩
 unfold look
 have H : ∀ (s2 : List (Nat × Nat)), s2.all (fun p => Nat.beq p.1 i == Nat.beq p.2 d) = true → (Nat.beq d t = true → s2.any (fun p => Nat.beq p.2 d) = true) → look (slF s2 (updX X i v) L) t = some u → (bif Nat.beq d t then some v else look (slF s2 X L) t) = some u := by
  intro s2
  induction s2 with
  | nil =>
   intro _ h2 h3
   cases hb : Nat.beq d t with
   | true => have := h2 hb; simp at this
   | false => exact h3
  | cons p r ih =>
   intro h1 h2 h3
   rw [List.all_cons, Bool.and_eq_true] at h1
   have e1 : Nat.beq p.1 i = Nat.beq p.2 d := by simpa using h1.1
   unfold slF at h3 ⊢
   rw [List.map_cons, List.cons_append] at h3 ⊢
   unfold look at h3 ⊢
   cases hp : Nat.beq p.2 t with
   | true =>
    rw [hp, cond_true] at h3
    obtain e2 := Nat.eq_of_beq_eq_true hp
    unfold updX at h3
    rw [e1, e2] at h3
    have sy : Nat.beq t d = Nat.beq d t := by rw [Bool.eq_iff_iff, Nat.beq_eq, Nat.beq_eq]; exact eq_comm
    rw [sy] at h3
    rw [cond_true]
    cases hb : Nat.beq d t with
    | true => rw [hb] at h3; exact h3
    | false => rw [hb] at h3; exact h3
   | false =>
    rw [hp, cond_false] at h3
    rw [cond_false]
    refine ih h1.2 (fun hb => ?_) h3
    have := h2 hb
    rw [List.any_cons, Bool.or_eq_true] at this
    rcases this with h4 | h4
    ·exfalso
     have e3 := Nat.eq_of_beq_eq_true h4
     have e4 := Nat.eq_of_beq_eq_true hb
     rw [e3, e4, Nat.beq_refl] at hp
     cases hp
    ·exact h4
 exact H sl h.1 (fun _ => h.2) hu
theorem IS.start [Dfs] {sl : List (Nat × Nat)} {zs : List PH} {hs : List Res} {hsF : (Nat → Bool) → (Nat → Value) → List Res} {F : PH → Nat → Value → Prop} {a : Act} {w : World} (hl : (sl.all (fun p => Nat.blt p.2 n) && sl.all (fun p => sl.all fun q => !Nat.beq p.1 q.1 || Nat.beq p.2 q.2)) = true) (hh : ∀ X, hsF (fun _ => false) X = hs)
  (hF : Fr n L a) (hS : St w0 zs hs w) : IS n w0 sl L zs hsF F (fun _ => false) a w := by
 rw [Bool.and_eq_true] at hl
 obtain ⟨X, hX⟩ := slF_0 hF sl hl.1 fun p hp q hq e => by
  have := List.all_eq_true.1 (List.all_eq_true.1 hl.2 p hp) q hq
  rw [e, Nat.beq_refl] at this
  exact Nat.eq_of_beq_eq_true (by simpa using this)
 obtain ⟨zu, hzu, hS⟩ := hS.union
 exact ⟨X, zu, hX, by rw [hh]; exact hS, hzu, fun k hk => by cases hk⟩
theorem IS.step [Dfs] {sl : List (Nat × Nat)} {zs0 zs' : List PH} {hs' : List Res} {hsF : (Nat → Bool) → (Nat → Value) → List Res} {F : PH → Nat → Value → Prop} {b : Nat → Bool} {X : Nat → Value} {zu : PH} {a : Act} {w : World} {v : Value} (i d : Nat)
  (hsl : (sl.all (fun p => Nat.beq p.1 i == Nat.beq p.2 d) && sl.any (fun p => Nat.beq p.2 d)) = true) (hF : Fr n ((d, v) :: slF sl X L) a) (hS : St w0 zs' hs' w) (hz : zu ∈ zs') (hk : zs0.Sublist zs') (hh : hs' = hsF (updB b i) (updX X i v))
  (hle : ∀ z ∈ zs0, z.le zu) (hf : ∀ k, b k = true → F zu k (X k)) (hm : ∀ z z' k v, z.le z' → F z k v → F z' k v) (hn : ∀ z', (∀ z ∈ zs', z.le z') → F z' i v) : IS n w0 sl L zs0 hsF F (updB b i) a w := by
 subst hh
 obtain ⟨z', hz', hS⟩ := hS.union
 refine ⟨updX X i v, z', slF_up hsl hF, hS.keep (hk.cons_cons _) (List.Sublist.refl _), fun z h => PH.le_trans (hle z h) (hz' _ hz), fun k hk => ?_⟩
 unfold updX
 cases hb : Nat.beq k i with
 | true => rw [cond_true]; obtain rfl := Nat.eq_of_beq_eq_true hb; exact hn z' hz'
 | false =>
  rw [cond_false]
  unfold updB at hk
  rw [hb, cond_false] at hk
  exact hm _ _ _ _ (hz' _ hz) (hf k hk)
end
end Go.Fw
