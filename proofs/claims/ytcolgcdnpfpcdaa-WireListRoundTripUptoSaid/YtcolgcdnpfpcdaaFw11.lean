/- A text of a proof over this seat: walks over the program's functions and the plain laws that they need. -/
import Derived.Test.YtcolgcdnpfpcdaaFw10
set_option linter.all false
namespace Go.Fw

/-! ### a region that draws its order and writes: quiet operations are taken first, each under its own condition; the others are branched over -/
section
variable {P : Program} {ops : Array Oper} {md : Region.Mode}

abbrev Wt := List (Nat × (World → Prop))

/-- k waits for i, through at most so many. -/
def reachB (md : Region.Mode) (ops : Array Oper) : Nat → Nat → Nat → Bool
  | 0, _, _ => false
  | f + 1, k, i => match ops[k]? with
    | some o => o.after.any fun e => Region.binds md e && (e.on == i || reachB md ops f e.on i)
    | none => false

/-- Somebody who waits for i has come up. -/
def relB (md : Region.Mode) (ops : Array Oper) (ls : Array Bool) (seen : List Nat) (i : Nat) : Bool :=
  (List.range ops.size).any fun k => ls.getD k false && !seen.contains k && reachB md ops 2 k i

def Held (md : Region.Mode) (ops : Array Oper) (ls : Array Bool) (w : World) : List Nat → Wt → Prop
  | _, [] => True
  | seen, (i, C) :: W => (relB md ops ls (i :: seen) i = true ∨ C w) ∧ Held md ops ls w (i :: seen) W

def Closed (md : Region.Mode) (ops : Array Oper) (ls : Array Bool) : Prop :=
  ∀ k o, ops[k]? = some o → ls.getD k false = true → ∀ e ∈ o.after, Region.binds md e = true → ls.getD e.on false = true

theorem Closed.reach {ls : Array Bool} (hc : Closed md ops ls) : ∀ (f k i : Nat), reachB md ops f k i = true → ls.getD k false = true → ls.getD i false = true
  | 0, _, _, h, _ => by simp [reachB] at h
  | f + 1, k, i, h, hk => by
    unfold reachB at h
    cases ho : ops[k]? with
    | none => rw [ho] at h; simp at h
    | some o =>
      rw [ho] at h
      simp only [Array.any_eq_true, Bool.and_eq_true, Bool.or_eq_true, beq_iff_eq] at h
      obtain ⟨j, hj, hb, h⟩ := h
      have h1 := hc k o ho hk o.after[j] (by simp) hb
      rcases h with h | h
      · rwa [h] at h1
      · exact hc.reach f _ _ h h1

theorem Closed.set {ls : Array Bool} {i : Nat} (hc : Closed md ops ls) (hi : i ∈ Region.ready md ops ls) : Closed md ops (ls.setIfInBounds i true) := by
  obtain ⟨_, oi, hoi, hall⟩ := mem_ready.1 hi
  intro k o ho hk e he hb
  by_cases hik : i = k
  · subst hik
    have : o = oi := Option.some.inj (ho.symm.trans hoi)
    subst this
    exact getD_set_true (hall e he hb)
  · rw [getD_set_ne false hik] at hk
    exact getD_set_true (hc k o ho hk e he hb)

def wpW (P : Program) (md : Region.Mode) (ops : Array Oper) (Q : Exit → Act → World → Prop) : Nat → Wt → Array Bool → Act → World → Prop
  | 0, _, ls, a, w => Region.ready md ops ls = [] ∧ Q .normal a w
  | f + 1, W, ls, a, w => (Region.ready md ops ls = [] → Q .normal a w) ∧
    ∀ i ∈ Region.ready md ops ls, wpOp P ops Q i (fun a' w' => Held md ops (ls.setIfInBounds i true) w' [] W ∧ wpW P md ops Q f W (ls.setIfInBounds i true) a' w') a w

theorem wpAny_of_wpW {Q : Exit → Act → World → Prop} : ∀ (f : Nat) (W : Wt) (ls : Array Bool) (a : Act) (w : World), wpW P md ops Q f W ls a w → wpAny P md ops Q f ls a w
  | 0, _, _, _, _, h => h
  | f + 1, _, _, _, _, h => ⟨h.1, fun i hi => wpOp_mono (fun a' w' h' => wpAny_of_wpW f _ _ a' w' h'.2) (h.2 i hi)⟩

/-- What was released by the others than i. -/
theorem Held.less {ls : Array Bool} {i : Nat} {w : World} : ∀ (W : Wt) (seen seen' : List Nat), (∀ k ∈ seen', k ∈ seen ∨ k = i) → (∀ k ∈ seen, k ∈ seen') → i ∈ seen' →
    Held md ops (ls.setIfInBounds i true) w seen' W → Held md ops ls w seen W
  | [], _, _, _, _, _, _ => trivial
  | (j, C) :: W, seen, seen', h1, h2, h3, h => by
    refine ⟨?_, Held.less W (j :: seen) (j :: seen') (fun k hk => ?_) (fun k hk => ?_) (List.mem_cons_of_mem _ h3) h.2⟩
    · rcases h.1 with h | h
      · left
        unfold relB at *
        rw [List.any_eq_true] at *
        obtain ⟨k, hk, hr⟩ := h
        simp only [Bool.and_eq_true, Bool.not_eq_true', List.contains_eq_mem, List.mem_cons, decide_eq_false_iff_not, not_or] at hr ⊢
        obtain ⟨⟨h4, h5⟩, h6⟩ := hr
        have hki : i ≠ k := fun e => h5.2 (e ▸ h3)
        refine ⟨k, hk, ⟨?_, h5.1, fun hh => h5.2 (h2 _ hh)⟩, h6⟩
        rwa [getD_set_ne false hki] at h4
      · exact .inr h
    · rcases List.mem_cons.1 hk with e | hk
      · exact .inl (e ▸ List.mem_cons_self)
      · exact (h1 k hk).imp (List.mem_cons_of_mem _) id
    · rcases List.mem_cons.1 hk with e | hk
      · exact e ▸ List.mem_cons_self
      · exact List.mem_cons_of_mem _ (h2 k hk)

theorem Held.mono {ls : Array Bool} {w : World} : ∀ (W : Wt) (seen seen' : List Nat), (∀ k ∈ seen, k ∈ seen') → Held md ops ls w seen' W → Held md ops ls w seen W
  | [], _, _, _, _ => trivial
  | (j, C) :: W, seen, seen', h2, h => by
    have h2' : ∀ k ∈ j :: seen, k ∈ j :: seen' := fun k hk => by
      rcases List.mem_cons.1 hk with e | hk
      · exact e ▸ List.mem_cons_self
      · exact List.mem_cons_of_mem _ (h2 k hk)
    refine ⟨h.1.imp (fun h => ?_) id, Held.mono W _ _ h2' h.2⟩
    unfold relB at *
    rw [List.any_eq_true] at *
    obtain ⟨k, hk, hr⟩ := h
    simp only [Bool.and_eq_true, Bool.not_eq_true', List.contains_eq_mem, decide_eq_false_iff_not] at hr ⊢
    exact ⟨k, hk, ⟨hr.1.1, fun hh => hr.1.2 (h2' _ hh)⟩, hr.2⟩

theorem Held.more {ls : Array Bool} {i : Nat} {w : World} (hun : ls.getD i false = false) : ∀ (W : Wt) (seen seen' : List Nat), (∀ k ∈ seen', k ∈ seen ∨ k = i) → Held md ops ls w seen W → Held md ops (ls.setIfInBounds i true) w seen' W
  | [], _, _, _, _ => trivial
  | (j, C) :: W, seen, seen', h2, h => by
    have h2' : ∀ k ∈ j :: seen', k ∈ j :: seen ∨ k = i := fun k hk => by
      rcases List.mem_cons.1 hk with e | hk
      · exact .inl (e ▸ List.mem_cons_self)
      · exact (h2 k hk).imp (List.mem_cons_of_mem _) id
    refine ⟨h.1.imp (fun h => ?_) id, Held.more hun W _ _ h2' h.2⟩
    unfold relB at *
    rw [List.any_eq_true] at *
    obtain ⟨k, hk, hr⟩ := h
    simp only [Bool.and_eq_true, Bool.not_eq_true', List.contains_eq_mem, decide_eq_false_iff_not] at hr ⊢
    refine ⟨k, hk, ⟨getD_set_true hr.1.1, fun hh => ?_⟩, hr.2⟩
    rcases h2' k hh with h3 | rfl
    · exact hr.1.2 h3
    · rw [hun] at hr; exact absurd hr.1.1 (by simp)

theorem wpW_drop {Q : Exit → Act → World → Prop} {p : Nat × (World → Prop)} {W : Wt} : ∀ (f : Nat) (ls : Array Bool) (a : Act) (w : World), wpW P md ops Q f (p :: W) ls a w → wpW P md ops Q f W ls a w
  | 0, _, _, _, h => h
  | f + 1, _, _, _, h => ⟨h.1, fun i hi => wpOp_mono (fun a' w' h' => ⟨Held.mono W [] [p.1] (by simp) h'.1.2, wpW_drop f _ _ _ h'.2⟩) (h.2 i hi)⟩

/-- What holds of the world at hand. -/
theorem Held.all {ls : Array Bool} {w : World} : ∀ {W : Wt} {seen : List Nat}, (∀ p ∈ W, p.2 w) → Held md ops ls w seen W
  | [], _, _ => trivial
  | _ :: _, _, h => ⟨.inr (h _ List.mem_cons_self), Held.all fun p hp => h p (List.mem_cons_of_mem _ hp)⟩

def QJ (J : Act → World → Prop) : Exit → Act → World → Prop := fun e a w => e = .normal ∧ J a w

/-- One operation 'oj', apart from 'oi'. -/
theorem wpOp_putIn {C : World → Prop} {J : Act → World → Prop} {j : Nat} {oi oj : Oper} {v : Value} (hj : ops[j]? = some oj) (hap : oi.apart ops oj = true)
    (hsi : ∀ cs b, oi.op ≠ .select cs b) (hsj : ∀ cs b, oj.op ≠ .select cs b) {K : Act → World → Prop} {a : Act} {w : World}
    (hy : YieldsIn P ops C oi v a) (h : wpOp P ops (QJ J) j K (a.put oi.dst v) w) :
    wpOp P ops (QJ J) j (fun a' w' => YieldsIn P ops C oi v a' ∧ K (a'.put oi.dst v) w') a w := by
  obtain ⟨h1, h2, h3⟩ := Oper.apart_spec hap
  have keep : ∀ (a : Act), YieldsIn P ops C oi v a → ∀ u, YieldsIn P ops C oi v (a.put oj.dst u) := fun a hy u =>
    hy.of_same (execOp_put oi hsi a oj.dst u h3) (wanted_put oi a oj.dst u h3)
  have keepD : ∀ d, YieldsIn P ops C oi v { a with defers := d :: a.defers } := fun d => hy.of_same rfl rfl
  unfold wpOp at *
  simp only [hj] at *
  rw [wanted_put oj a oi.dst v h1] at h
  split
  · rename_i hw
    simp only [hw, if_true] at h
    rcases h with h | ⟨hasks, hlets⟩
    case inr => exact .inr ⟨by unfold Oper.asks at *; rw [execOp_put oj hsj a oi.dst v h1] at hasks; exact hasks, hlets⟩
    refine .inl ?_
    unfold Oper.wp at *
    rw [execOp_put oj hsj a oi.dst v h1] at h
    generalize (execOp a.eval oj).run P w = r at *
    cases r with
    | ok n w' =>
      cases n <;> simp only [Oper.upon] at h ⊢
      case value u => exact ⟨keep a hy u, by rw [← Act.put_comm a v u h2]; exact h⟩
      case skip => exact ⟨keep a hy _, by rw [← Act.put_comm a v undef h2]; exact h⟩
      case defer d =>
        refine ⟨keep _ (keepD d) _, ?_⟩
        rw [← Act.put_comm _ v undef h2, ← Act.put_defers]
        exact h
      case enter f args =>
        refine Calls.mono h fun e w'' he => ?_
        cases e with
        | returned u => exact ⟨keep a hy u, by rw [← Act.put_comm a v u h2]; exact he⟩
        | panicked c => exact absurd he.1 (by simp)
        | outgrown => exact he
      case row row args => exact Rows.mono h fun u w'' he => ⟨keep a hy u, by rw [← Act.put_comm a v u h2]; exact he⟩
    | halt x w' =>
      cases x <;> simp only [Oper.upon] at h ⊢
      case panic u => exact absurd h.1 (by simp)
  · rename_i hw
    simp only [hw] at h
    exact ⟨keep a hy _, by rw [← Act.put_comm a v undef h2]; exact h⟩

theorem yin_wpOp {C : World → Prop} {i : Nat} {o : Oper} {v : Value} {a : Act} {Q : Exit → Act → World → Prop} (hi : ops[i]? = some o) (hy : YieldsIn P ops C o v a)
    {K : Act → World → Prop} {w : World} (hC : C w) (h : ∀ w', C w' → K (a.put o.dst v) w') : wpOp P ops Q i K a w := by
  unfold Go.wpOp
  simp only [hi]
  rcases hy with ⟨hw, hv⟩ | ⟨hw, rfl⟩
  · simp only [hw, if_true]
    refine .inl ?_
    have h3 := hv w hC
    unfold Oper.quietAt at h3
    unfold Oper.wp
    generalize (execOp a.eval o).run P w = r at *
    cases r with
    | ok n w' =>
      cases n <;> simp only [Oper.quietUpon] at h3 <;> simp only [Oper.upon]
      case value u => obtain ⟨e1, e2⟩ := h3; rw [e1, e2]; exact h _ hC
      case skip => obtain ⟨e1, e2⟩ := h3; rw [e1, ← e2]; exact h _ hC
      case enter f args =>
        obtain ⟨e1, hc⟩ := h3
        rw [e1]
        exact hc.mono fun e w'' ⟨he, hw''⟩ => by subst he; exact h _ hw''
    | halt x w' => simp only [Oper.quietUpon] at h3
  · simp only [hw, Bool.false_eq_true, if_false]; exact h _ hC

/-- These hand back a value or nothing: they call nobody. -/
def plainB (o : Oper) : Bool :=
  match o.op with
  | .move _ | .assign _ | .pick _ _ _ | .build _ _ | .load _ _ | .binOp _ _ _ _ _ | .unOp _ _ _ | .convert _ _ _ | .sliceToArrayPointer _ _ | .slice _ _ _ _ _ | .fieldAddr _ _ _ | .field _ _ _ | .indexAddr _ _ _ | .index _ _ _ | .lookup _ _ _ _ | .extract _ _ => true
  | .call c => match c.callee with
    | .builtin b => (match b with | .len | .cap | .min | .max => true | _ => false)
    | _ => false
  | _ => false

theorem run_v {s : Sem Value} {w w' : World} {f : FuncId} {args : Array Value} : Sem.run P (do pure (Next.value (← s))) w ≠ .ok (.enter f args) w' := by
  rw [Sem.run_bind]
  cases h : s.run P w <;> simp [Result.andThen]

theorem plain_no {o : Oper} (h : plainB o = true) {ρ : Operand → Value} {w w' : World} {f : FuncId} {args : Array Value} : (execOp ρ o).run P w ≠ .ok (.enter f args) w' := by
  unfold plainB at h
  unfold execOp
  cases ho : o.op <;> simp only [ho] at h ⊢ <;> first
    | exact run_v
    | (simp at h; done)
    | skip
  case move => simp
  case assign => simp
  case pick c a b =>
    rw [Sem.run_bind]
    cases h : (asBool (ρ c)).run P w <;> simp [Result.andThen]
  case call c =>
    cases hc : c.callee <;> simp only [hc] at h
    case builtin b =>
      cases b <;> simp only [] at h <;> first | (simp at h; done) | skip
      all_goals
        simp only [resolve, hc, Sem.run_bind, Sem.run_pure, Result.andThen_ok, invoke, builtin]
        have := @run_v P
        simp only [Sem.run_bind] at this
        exact this
    all_goals (simp at h; done)

/-- A plain operation that is quiet leaves the very world. -/
theorem plain_same {C : World → Prop} {o : Oper} {v : Value} {a : Act} {w : World} (hp : plainB o = true) (h : o.quietAt P a C w v) :
    (execOp a.eval o).run P w = .ok (.value v) w ∨ ((execOp a.eval o).run P w = .ok .skip w ∧ v = undef) := by
  unfold Oper.quietAt at h
  generalize hr : (execOp a.eval o).run P w = r at *
  cases r with
  | ok n w' =>
    cases n <;> simp only [Oper.quietUpon] at h
    case value u => obtain ⟨rfl, rfl⟩ := h; exact .inl rfl
    case skip => obtain ⟨rfl, rfl⟩ := h; exact .inr ⟨rfl, rfl⟩
    case enter f args => exact absurd hr (plain_no hp)
  | halt x w' => simp only [Oper.quietUpon] at h

theorem yin_wpOpP {C : World → Prop} {i : Nat} {o : Oper} {v : Value} {a : Act} {Q : Exit → Act → World → Prop} (hi : ops[i]? = some o) (hp : plainB o = true) (hy : YieldsIn P ops C o v a)
    {K : Act → World → Prop} {w : World} (hC : C w) (h : K (a.put o.dst v) w) : wpOp P ops Q i K a w := by
  unfold Go.wpOp
  simp only [hi]
  rcases hy with ⟨hw, hv⟩ | ⟨hw, rfl⟩
  · simp only [hw, if_true]
    refine .inl ?_
    unfold Oper.wp
    rcases plain_same hp (hv w hC) with h3 | ⟨h3, rfl⟩ <;> rw [h3] <;> exact h
  · simp only [hw, Bool.false_eq_true, if_false]; exact h

/-- It may come first: C: where it yields its value, whenever it comes up. -/
theorem wpW_first {J : Act → World → Prop} {C : World → Prop} {i : Nat} {oi : Oper} {v : Value} (hi : ops[i]? = some oi) (hp : plainB oi = true) (hsel : ∀ (j : Nat) (o : Oper) cs b, ops[j]? = some o → o.op ≠ .select cs b) (W : Wt) :
    ∀ (f : Nat) (ls : Array Bool) (a : Act) (w : World), Closed md ops ls →
      (∀ j oj, ops[j]? = some oj → j ≠ i → ls.getD j true = false → (∀ e ∈ oj.after, Region.binds md e = true → e.on ≠ i) → oi.apart ops oj = true) →
      i ∈ Region.ready md ops ls → YieldsIn P ops C oi v a → C w → Held md ops (ls.setIfInBounds i true) w [] W →
      wpW P md ops (QJ J) f ((i, C) :: W) (ls.setIfInBounds i true) (a.put oi.dst v) w → wpW P md ops (QJ J) (f + 1) W ls a w := by
  intro f
  induction f with
  | zero =>
    intro ls a w _ _ hr hy hC hW H
    refine ⟨fun h => (by rw [h] at hr; cases hr), fun j hj => ?_⟩
    by_cases hji : j = i
    · subst hji; exact yin_wpOpP hi hp hy hC ⟨hW, wpW_drop _ _ _ _ H⟩
    · have := ready_mono hj hji
      rw [H.1] at this
      cases this
  | succ f ih =>
    intro ls a w hcl hfree hr hy hC hW H
    refine ⟨fun h => (by rw [h] at hr; cases hr), fun j hj => ?_⟩
    by_cases hji : j = i
    · subst hji; exact yin_wpOpP hi hp hy hC ⟨hW, wpW_drop _ _ _ _ H⟩
    · have h1 := H.2 j (ready_mono hj hji)
      obtain ⟨hjun, oj, hoj, hall⟩ := mem_ready.1 hj
      have hiun := (mem_ready.1 hr).1
      have hnot : ∀ e ∈ oj.after, Region.binds md e = true → e.on ≠ i := fun e he hb heq => by
        have h1 := hall e he hb
        rw [heq, getD_both hiun] at h1
        cases h1
      have h2 := wpOp_putIn hoj (hfree j oj hoj hji hjun hnot) (fun cs b => hsel i oi cs b hi) (fun cs b => hsel j oj cs b hoj) hy h1
      have hcl' := hcl.set hj
      refine wpOp_mono (fun a' w' h3 => ?_) h2
      obtain ⟨hy', ⟨hrel, hHW⟩, hT⟩ := h3
      have hcomm : (ls.setIfInBounds j true).setIfInBounds i true = (ls.setIfInBounds i true).setIfInBounds j true := Array.setIfInBounds_comm _ _ hji
      have hiun' : (ls.setIfInBounds j true).getD i false = false := by rw [getD_set_ne false hji]; exact getD_both hiun
      have hCw' : C w' := by
        rcases hrel with hrel | hC'
        · exfalso
          unfold relB at hrel
          rw [List.any_eq_true] at hrel
          obtain ⟨k, _, hk⟩ := hrel
          simp only [Bool.and_eq_true, Bool.not_eq_true', List.contains_eq_mem, List.mem_cons, List.not_mem_nil, or_false, decide_eq_false_iff_not] at hk
          obtain ⟨⟨h4, h5⟩, h6⟩ := hk
          rw [← hcomm, getD_set_ne false (fun e => h5 e.symm)] at h4
          have := hcl'.reach _ _ _ h6 h4
          rw [hiun'] at this
          cases this
        · exact hC'
      have hHW' : Held md ops ((ls.setIfInBounds j true).setIfInBounds i true) w' [] W := by rw [hcomm]; exact Held.mono W [] [i] (by simp) hHW
      refine ⟨Held.less W [] [i] (fun k hk => .inr (by simpa using hk)) (by simp) (by simp) (by rw [hcomm]; exact hHW), ?_⟩
      refine ih (ls.setIfInBounds j true) a' w' hcl' (fun k ok hk hki hun hno => ?_) (ready_mono hr (Ne.symm hji)) hy' hCw' hHW' ?_
      · refine hfree k ok hk hki ?_ hno
        by_cases hjk : j = k
        · subst hjk; exact hjun
        · rwa [getD_set_ne true hjk] at hun
      · rw [hcomm]
        exact hT

/-! ### the moves -/
variable {n : Nat} {w0 : World} {L : List (Nat × Value)} {J : Act → World → Prop}

/-- What the chain of moves carries: the frame, what has come up, how many are left, which are watched. -/
def GoW (P : Program) (ops : Array Oper) (J : Act → World → Prop) (f : Nat) (W : Wt) (ls : Array Bool) (a : Act) (w : World) : Prop :=
  Closed .any ops ls → Held .any ops ls w [] W → wpW P .any ops (QJ J) f W ls a w

theorem goW_take {l : List Oper} {f : Nat} {W : Wt} {ls : Array Bool} {a : Act} {w : World} (i : Nat) (ls' : Array Bool) {d : Option Tmp} {op : Op} {t : TypeId} {p : String} {af : Array Edge} {v : Value} {zs : List PH} {hs : List Res}
    (hi : l[i]? = some ⟨d, op, t, p, af, none⟩) (hB : (plainB ⟨d, op, t, p, af, none⟩ && Region.noSelect l.toArray && Region.free .any l.toArray ls i && (Region.ready .any l.toArray ls).contains i && (match d with | some k => Nat.blt k n | none => true)) = true)
    (hls : ls.setIfInBounds i true = ls') (hF : Fr n L a) (hS : St w0 zs hs w) (q : Qt P n w0 zs hs L ⟨d, op, t, p, af, none⟩ v)
    (K : ∀ a, Fr n (upL d v L) a → GoW P l.toArray J f ((i, St w0 zs hs) :: W) ls' a w) : GoW P l.toArray J (f + 1) W ls a w := by
  intro hcl hW
  subst hls
  replace hi : l.toArray[i]? = some ⟨d, op, t, p, af, none⟩ := by simpa using hi
  simp only [Bool.and_eq_true] at hB
  obtain ⟨⟨⟨⟨hp, hsel⟩, hf⟩, hr⟩, hd⟩ := hB
  have hr : i ∈ Region.ready .any l.toArray ls := by simpa using hr
  have hy : YieldsIn P l.toArray (St w0 zs hs) ⟨d, op, t, p, af, none⟩ v a := .inl ⟨rfl, fun w hw => q a hF w hw⟩
  have hF' : Fr n (upL d v L) (a.put d v) := hF.up (by cases d with | none => trivial | some k => exact Nat.blt_eq.mp hd)
  have hun := getD_both (mem_ready.1 hr).1
  have hW' : Held .any l.toArray (ls.setIfInBounds i true) w [] W := Held.more hun W [] [] (by simp) hW
  refine wpW_first (C := St w0 zs hs) hi hp (Region.noSelect_spec hsel) W f ls a w hcl (Region.free_spec hi hf) hr hy hS hW' ?_
  exact K _ hF' (hcl.set hr) ⟨.inr hS, Held.more hun W [] [i] (by simp) hW⟩

/-- i comes up. -/
def StepW (P : Program) (ops : Array Oper) (J : Act → World → Prop) (f : Nat) (W : Wt) (ls : Array Bool) (a : Act) (w : World) (i : Nat) : Prop :=
  i ∈ Region.ready .any ops ls → Closed .any ops ls → wpOp P ops (QJ J) i (fun a' w' => Held .any ops (ls.setIfInBounds i true) w' [] W ∧ wpW P .any ops (QJ J) f W (ls.setIfInBounds i true) a' w') a w
def AllW (p : Nat → Prop) : List Nat → Prop
  | [] => True
  | i :: r => p i ∧ AllW p r
theorem AllW.mem {p : Nat → Prop} : ∀ {l : List Nat}, AllW p l → ∀ i ∈ l, p i
  | _ :: _, h, i, hi => by
    rcases List.mem_cons.1 hi with rfl | hi
    · exact h.1
    · exact h.2.mem i hi

theorem goW_fork {f : Nat} {W : Wt} {ls : Array Bool} {a : Act} {w : World} (rs : List Nat) (hr : Region.ready .any ops ls = rs) (hne : rs.isEmpty = false) (h : AllW (StepW P ops J f W ls a w) rs) : GoW P ops J (f + 1) W ls a w := by
  intro hcl hW
  refine ⟨fun h0 => ?_, fun i hi => ?_⟩
  · rw [hr] at h0; subst h0; cases hne
  · exact h.mem i (hr ▸ hi) hi hcl

theorem stepW_ef {l : List Oper} {f : Nat} {W : Wt} {ls : Array Bool} {a : Act} {w : World} {i : Nat} (ls' : Array Bool) {d : Option Tmp} {op : Op} {ty : TypeId} {pos : String} {af : Array Edge} {zs : List PH} {hs : List Res} {K : Value → List PH → List Res → Prop}
    (hi : l[i]? = some ⟨d, op, ty, pos, af, none⟩) (hls : ls.setIfInBounds i true = ls') (hF : Fr n L a) (hS : St w0 zs hs w) (hd : (match d with | some k => Nat.blt k n | none => true) = true) (e : Ef P n w0 zs hs L ⟨d, op, ty, pos, af, none⟩ K)
    (h : ∀ v zs' hs' a w, K v zs' hs' → Fr n (upL d v L) a → St w0 zs' hs' w → Held .any l.toArray ls' w [] W ∧ GoW P l.toArray J f W ls' a w) : StepW P l.toArray J f W ls a w i := by
  intro hr hcl
  subst hls
  replace hi : l.toArray[i]? = some ⟨d, op, ty, pos, af, none⟩ := by simpa using hi
  unfold wpOp
  simp only [hi]
  rw [if_pos (show Region.wanted ⟨d, op, ty, pos, af, none⟩ (yielded l.toArray a.tmps) = true from rfl)]
  refine .inl (e a hF w hS _ _ fun v zs' hs' w' hK hS' => ?_)
  have := h v zs' hs' _ w' hK (hF.up (by cases d with | none => trivial | some k => exact Nat.blt_eq.mp hd)) hS'
  exact ⟨this.1, this.2 (hcl.set hr) this.1⟩

theorem goW_done {f : Nat} {W : Wt} {ls : Array Bool} {a : Act} {w : World} (hr : Region.ready .any ops ls = []) (h : J a w) : GoW P ops J f W ls a w := by
  intro _ _
  cases f with
  | zero => exact ⟨hr, rfl, h⟩
  | succ f => exact ⟨fun _ => ⟨rfl, h⟩, by rw [hr]; simp⟩

theorem regJ {id : Nat} {Q : Exit → Act → World → Prop} {a : Act} {w : World} {l : List Oper} {zs : List PH} {hs : List Res} (ls : Array Bool) (f : Nat) (hm : P.follows .mixedOrders = true) (hls : Array.replicate l.length false = ls) (hf : l.length = f)
    (h : ∀ w, Fr n L a → St w0 zs hs w → GoW P l.toArray J f [] ls a w) (K : ∀ a w, J a w → Q .normal a w) : Fr n L a → St w0 zs hs w → (Code.region id l.toArray true).wp P Q a w := by
  intro hF hS
  subst hls hf
  refine Code.wp_mono (Q := QJ J) (fun e a w q => ?_) (wp_region_any hm (wpAny_of_wpW _ [] _ _ _ ?_))
  · obtain ⟨rfl, hj⟩ := q; exact K _ _ hj
  · have := h _ hF (hS.drew (w.drawn + 1)) (fun k o _ hk => ?_) trivial
    · simpa using this
    · exact absurd hk (by simp [Array.getD_eq_getD_getElem?, Array.getElem?_replicate]; split <;> simp)

/-- A quiet one among those that are branched over. -/
theorem ef_qt {o : Oper} {v : Value} {zs : List PH} {hs : List Res} (q : Qt P n w0 zs hs L o v) : Ef P n w0 zs hs L o (fun v' zs' hs' => v' = v ∧ zs' = zs ∧ hs' = hs) := by
  intro a ha w hw next Q hn
  have := q a ha w hw
  unfold Oper.wp
  generalize (execOp a.eval o).run P w = res at this
  cases res with
  | halt x w' => simp only [Oper.quietUpon] at this
  | ok nx w' =>
    cases nx <;> simp only [Oper.quietUpon] at this <;> simp only [Oper.upon]
    case value u => obtain ⟨rfl, rfl⟩ := this; exact hn _ _ _ _ ⟨rfl, rfl, rfl⟩ hw
    case skip => obtain ⟨rfl, rfl⟩ := this; exact hn _ _ _ _ ⟨rfl, rfl, rfl⟩ hw
    case enter f args =>
      obtain ⟨rfl, hc⟩ := this
      exact hc.mono fun e w'' ⟨he, hw''⟩ => by subst he; exact hn _ _ _ _ ⟨rfl, rfl, rfl⟩ hw''

end
def J0 (n : Nat) (w0 : World) (F : Prop) (L : List (Nat × Value)) (Z : List PH) (H : List Res) : Act → World → Prop := fun a w => F ∧ Fr n (L) a ∧ St w0 (Z) (H) w
theorem j0_mk {n : Nat} {w0 : World} {F : Prop} {L : List (Nat × Value)} {Z : List PH} {H : List Res} {a : Act} {w : World} (hf : F) (hF : Fr n (L) a) (hS : St w0 (Z) (H) w) : J0 n w0 F L Z H a w := ⟨hf, hF, hS⟩
def J1 {α0 : Type} (n : Nat) (w0 : World) (F : α0 → Prop) (L : α0 → List (Nat × Value)) (Z : α0 → List PH) (H : α0 → List Res) : Act → World → Prop := fun a w => ∃ (x0 : α0), F x0 ∧ Fr n (L x0) a ∧ St w0 (Z x0) (H x0) w
theorem j1_mk {α0 : Type} {n : Nat} {w0 : World} {F : α0 → Prop} {L : α0 → List (Nat × Value)} {Z : α0 → List PH} {H : α0 → List Res} {a : Act} {w : World} (x0 : α0) (hf : F x0) (hF : Fr n (L x0) a) (hS : St w0 (Z x0) (H x0) w) : J1 n w0 F L Z H a w := ⟨x0, hf, hF, hS⟩
def J2 {α0 α1 : Type} (n : Nat) (w0 : World) (F : α0 → α1 → Prop) (L : α0 → α1 → List (Nat × Value)) (Z : α0 → α1 → List PH) (H : α0 → α1 → List Res) : Act → World → Prop := fun a w => ∃ (x0 : α0) (x1 : α1), F x0 x1 ∧ Fr n (L x0 x1) a ∧ St w0 (Z x0 x1) (H x0 x1) w
theorem j2_mk {α0 α1 : Type} {n : Nat} {w0 : World} {F : α0 → α1 → Prop} {L : α0 → α1 → List (Nat × Value)} {Z : α0 → α1 → List PH} {H : α0 → α1 → List Res} {a : Act} {w : World} (x0 : α0) (x1 : α1) (hf : F x0 x1) (hF : Fr n (L x0 x1) a) (hS : St w0 (Z x0 x1) (H x0 x1) w) : J2 n w0 F L Z H a w := ⟨x0, x1, hf, hF, hS⟩
def J3 {α0 α1 α2 : Type} (n : Nat) (w0 : World) (F : α0 → α1 → α2 → Prop) (L : α0 → α1 → α2 → List (Nat × Value)) (Z : α0 → α1 → α2 → List PH) (H : α0 → α1 → α2 → List Res) : Act → World → Prop := fun a w => ∃ (x0 : α0) (x1 : α1) (x2 : α2), F x0 x1 x2 ∧ Fr n (L x0 x1 x2) a ∧ St w0 (Z x0 x1 x2) (H x0 x1 x2) w
theorem j3_mk {α0 α1 α2 : Type} {n : Nat} {w0 : World} {F : α0 → α1 → α2 → Prop} {L : α0 → α1 → α2 → List (Nat × Value)} {Z : α0 → α1 → α2 → List PH} {H : α0 → α1 → α2 → List Res} {a : Act} {w : World} (x0 : α0) (x1 : α1) (x2 : α2) (hf : F x0 x1 x2) (hF : Fr n (L x0 x1 x2) a) (hS : St w0 (Z x0 x1 x2) (H x0 x1 x2) w) : J3 n w0 F L Z H a w := ⟨x0, x1, x2, hf, hF, hS⟩
def J4 {α0 α1 α2 α3 : Type} (n : Nat) (w0 : World) (F : α0 → α1 → α2 → α3 → Prop) (L : α0 → α1 → α2 → α3 → List (Nat × Value)) (Z : α0 → α1 → α2 → α3 → List PH) (H : α0 → α1 → α2 → α3 → List Res) : Act → World → Prop := fun a w => ∃ (x0 : α0) (x1 : α1) (x2 : α2) (x3 : α3), F x0 x1 x2 x3 ∧ Fr n (L x0 x1 x2 x3) a ∧ St w0 (Z x0 x1 x2 x3) (H x0 x1 x2 x3) w
theorem j4_mk {α0 α1 α2 α3 : Type} {n : Nat} {w0 : World} {F : α0 → α1 → α2 → α3 → Prop} {L : α0 → α1 → α2 → α3 → List (Nat × Value)} {Z : α0 → α1 → α2 → α3 → List PH} {H : α0 → α1 → α2 → α3 → List Res} {a : Act} {w : World} (x0 : α0) (x1 : α1) (x2 : α2) (x3 : α3) (hf : F x0 x1 x2 x3) (hF : Fr n (L x0 x1 x2 x3) a) (hS : St w0 (Z x0 x1 x2 x3) (H x0 x1 x2 x3) w) : J4 n w0 F L Z H a w := ⟨x0, x1, x2, x3, hf, hF, hS⟩
def J5 {α0 α1 α2 α3 α4 : Type} (n : Nat) (w0 : World) (F : α0 → α1 → α2 → α3 → α4 → Prop) (L : α0 → α1 → α2 → α3 → α4 → List (Nat × Value)) (Z : α0 → α1 → α2 → α3 → α4 → List PH) (H : α0 → α1 → α2 → α3 → α4 → List Res) : Act → World → Prop := fun a w => ∃ (x0 : α0) (x1 : α1) (x2 : α2) (x3 : α3) (x4 : α4), F x0 x1 x2 x3 x4 ∧ Fr n (L x0 x1 x2 x3 x4) a ∧ St w0 (Z x0 x1 x2 x3 x4) (H x0 x1 x2 x3 x4) w
theorem j5_mk {α0 α1 α2 α3 α4 : Type} {n : Nat} {w0 : World} {F : α0 → α1 → α2 → α3 → α4 → Prop} {L : α0 → α1 → α2 → α3 → α4 → List (Nat × Value)} {Z : α0 → α1 → α2 → α3 → α4 → List PH} {H : α0 → α1 → α2 → α3 → α4 → List Res} {a : Act} {w : World} (x0 : α0) (x1 : α1) (x2 : α2) (x3 : α3) (x4 : α4) (hf : F x0 x1 x2 x3 x4) (hF : Fr n (L x0 x1 x2 x3 x4) a) (hS : St w0 (Z x0 x1 x2 x3 x4) (H x0 x1 x2 x3 x4) w) : J5 n w0 F L Z H a w := ⟨x0, x1, x2, x3, x4, hf, hF, hS⟩
def J6 {α0 α1 α2 α3 α4 α5 : Type} (n : Nat) (w0 : World) (F : α0 → α1 → α2 → α3 → α4 → α5 → Prop) (L : α0 → α1 → α2 → α3 → α4 → α5 → List (Nat × Value)) (Z : α0 → α1 → α2 → α3 → α4 → α5 → List PH) (H : α0 → α1 → α2 → α3 → α4 → α5 → List Res) : Act → World → Prop := fun a w => ∃ (x0 : α0) (x1 : α1) (x2 : α2) (x3 : α3) (x4 : α4) (x5 : α5), F x0 x1 x2 x3 x4 x5 ∧ Fr n (L x0 x1 x2 x3 x4 x5) a ∧ St w0 (Z x0 x1 x2 x3 x4 x5) (H x0 x1 x2 x3 x4 x5) w
theorem j6_mk {α0 α1 α2 α3 α4 α5 : Type} {n : Nat} {w0 : World} {F : α0 → α1 → α2 → α3 → α4 → α5 → Prop} {L : α0 → α1 → α2 → α3 → α4 → α5 → List (Nat × Value)} {Z : α0 → α1 → α2 → α3 → α4 → α5 → List PH} {H : α0 → α1 → α2 → α3 → α4 → α5 → List Res} {a : Act} {w : World} (x0 : α0) (x1 : α1) (x2 : α2) (x3 : α3) (x4 : α4) (x5 : α5) (hf : F x0 x1 x2 x3 x4 x5) (hF : Fr n (L x0 x1 x2 x3 x4 x5) a) (hS : St w0 (Z x0 x1 x2 x3 x4 x5) (H x0 x1 x2 x3 x4 x5) w) : J6 n w0 F L Z H a w := ⟨x0, x1, x2, x3, x4, x5, hf, hF, hS⟩

end Go.Fw
