/- A text of a proof over this seat: walks over the program's functions and the plain laws that they need. -/
import Derived.Test.YtcolgcdnpfpcdaaFw17
set_option linter.all false
namespace Go.Fw
/-- An own block turns into what is frozen. -/
theorem St.mark {w0 : World} {zs : List PH} {r : Res} {hs : List Res} {w w' : World} {b : Nat} (o : Obj) (h : St w0 zs (r :: hs) w) (hid : r.id = some b) (hw : ∀ k, k ≠ b → w'.heap[k]? = w.heap[k]?) (hn : w'.heap[b]? = some o) (hio : Io w w') : St w0 (ph1 b o :: zs) hs w' := by
  have hown := h.own r List.mem_cons_self
  have hge := Res.ok_ge hown.1 b hid
  have hne : ∀ s ∈ hs, s.id ≠ some b := by
    intro s hs' e
    have hnd := h.nd
    rw [List.filterMap_cons, hid] at hnd
    exact (List.nodup_cons.1 hnd).1 (List.mem_filterMap.2 ⟨s, hs', e⟩)
  refine ⟨fun k ob hk => ?_, fun z hz => ?_, fun s hs' => ⟨?_, fun k hk z hz => ?_⟩, filterMap_sub (List.sublist_cons_self _ _) h.nd, h.io.trans hio⟩
  · have h1 := h.ext k ob hk
    have hkb : k ≠ b := by have := ph_some hk; omega
    simp only [ph] at h1 ⊢
    rw [hw k hkb]; exact h1
  · rcases List.mem_cons.1 hz with rfl | hz2
    · refine ⟨fun k ob hk => ?_, fun k ob hk => ?_⟩
      · obtain ⟨rfl, rfl⟩ := ph1_some hk; exact hn
      · obtain ⟨rfl, rfl⟩ := ph1_some hk; exact hge.1
    · refine ⟨fun k ob hk => ?_, (h.zone z hz2).2⟩
      have h1 := (h.zone z hz2).1 k ob hk
      have hkb : k ≠ b := by
        intro e
        rw [e, hown.2 b hid z hz2] at hk
        cases hk
      simp only [ph] at h1 ⊢
      rw [hw k hkb]; exact h1
  · exact Res.ok_of (h.own s (List.mem_cons_of_mem _ hs')).1 fun k hk => hw k fun e => hne s hs' (by rw [← e]; exact hk)
  · rcases List.mem_cons.1 hz with rfl | hz
    · unfold ph1
      rw [if_neg (fun e => hne s hs' (by rw [← e]; exact hk))]
    · exact (h.own s (List.mem_cons_of_mem _ hs')).2 k hk z hz
section
variable {P : Program} {n : Nat} {w0 : World} {zs : List PH} {hs : List Res} {L : List (Nat × Value)} {d : Option Tmp} {ty t t' : TypeId} {pos : String} {af : Array Edge} {g : Option (Nat × Bool)}
variable {x y c o1 o2 o3 : Operand} {u v : Value}
theorem q_dt {o : Oper} {p : Prop} [Decidable p] (q : Qt P n w0 zs hs L o (.bool (decide p))) (h : p) : Qt P n w0 zs hs L o (.bool true) := by rwa [decide_eq_true h] at q
theorem q_df {o : Oper} {p : Prop} [Decidable p] (q : Qt P n w0 zs hs L o (.bool (decide p))) (h : ¬ p) : Qt P n w0 zs hs L o (.bool false) := by rwa [decide_eq_false h] at q
theorem q_nt {o : Oper} {p : Prop} [Decidable p] (q : Qt P n w0 zs hs L o (.bool (!decide p))) (h : ¬ p) : Qt P n w0 zs hs L o (.bool true) := by rwa [decide_eq_false h] at q
theorem q_nf {o : Oper} {p : Prop} [Decidable p] (q : Qt P n w0 zs hs L o (.bool (!decide p))) (h : p) : Qt P n w0 zs hs L o (.bool false) := by rwa [decide_eq_true h] at q
theorem q_bt {o : Oper} {b : Bool} (q : Qt P n w0 zs hs L o (.bool b)) (h : b = true) : Qt P n w0 zs hs L o (.bool true) := by rwa [h] at q
theorem q_bf {o : Oper} {b : Bool} (q : Qt P n w0 zs hs L o (.bool b)) (h : b = false) : Qt P n w0 zs hs L o (.bool false) := by rwa [h] at q
/-- A string's literal made into bytes by the translator. -/
theorem ef_cv_lit {xs : List UInt8} {e e' : TypeId} {m : Nat} {s b s'' b'' : Nat} {zv zv'' : Value} (ht : Tf P t (.slice e) s b zv) (hte : Tf P e (.int .u8) s'' b'' zv'') (h1 : opv L x = some v) (hm : m = xs.length) (h0 : 0 < m) (hb : m ≤ 140737488355328) :
    Ef P n w0 zs (.row v e' 1 m (xs.map vb) :: hs) L ⟨d, .convert t t x, ty, pos, af, g⟩ (fun v' zs' hs' => v' = v ∧ ∃ z, zs' = z :: zs ∧ hs' = hs ∧ Sl encB z v xs) :=
  ef_of fun a ha w hw => by
    have hown := (hw.own _ List.mem_cons_self).1
    rcases hown.2 with ⟨rfl, hn⟩ | ⟨b, cap, cur, rfl, hgb, hg, hnc, hcm, hcs, htake⟩
    · omega
    · have hr : (convert t t (Value.slice (some ⟨b, 0, none⟩) m cap)).run P w = .ok (Value.slice (some ⟨b, 0, none⟩) m cap) (w.freeze ⟨b, cur.size, none⟩ 1) := by
        simp [convert, run_underlying ht.und, run_underlying hte.und, markStringish, World.shape?, hg]
      have hn : (w.freeze ⟨b, cur.size, none⟩ 1).heap[b]? = some (.cells cur e' (cur.size, cur.size + 1)) := by
        simp [World.freeze, Array.getElem?_modify, hg]
      refine ⟨_, ph1 b (.cells cur e' (cur.size, cur.size + 1)) :: zs, hs, w.freeze ⟨b, cur.size, none⟩ 1, .inl ?_, ⟨rfl, _, rfl, rfl, ?_⟩, hw.mark _ (by rfl) (fun k hk => ?_) hn ⟨rfl, rfl, rfl⟩⟩
      · simp only [execOp, ha.eval h1]
        rw [Sem.run_bind, hr]
        rfl
      · subst hm
        refine ⟨hb, some ⟨b, 0, none⟩, cap, rfl, hnc, fun i xx hx => ?_⟩
        refine ⟨b, 0, cur, e', _, [vb xx], rfl, by unfold ph1; rw [if_pos rfl], ⟨rfl, trivial⟩, fun j uu hu => ?_⟩
        cases j with
        | zero =>
          simp only [List.getElem?_cons_zero, Option.some.injEq] at hu
          subst hu
          have h3 : (xs.map vb)[i]? = some (vb xx) := by simp [hx]
          rw [← htake, List.getElem?_take] at h3
          split at h3
          · show cur[0 + i * 1 + 0]? = _
            simpa using h3
          · cases h3
        | succ j => simp at hu
      · simp [World.freeze, Array.getElem?_modify, Ne.symm hk]
end
end Go.Fw
