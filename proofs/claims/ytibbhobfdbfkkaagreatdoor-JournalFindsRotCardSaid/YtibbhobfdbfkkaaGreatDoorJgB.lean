/- A text of a proof over this seat: walks over the program's functions and the plain laws that they need. -/
import Derived.Test.YtibbhobfdbfkkaaGreatDoorJnB
import Derived.Test.YtibbhobfdbfkkaaGreatDoorDkA
import Derived.Test.YtibbhobfdbfkkaaGreatDoorJnA
set_option linter.all false
section
/-! a journal that was filled without a failure: where its records lie, and of what texts -/
namespace Jn
open Go Go.Fw
/-- An Append on a disk without worn sectors, and what stands there then. -/
theorem fil_lay2 {S : Dk.Dsk} {J : JS} (h : Fil S J) {t : List UInt8} (ht : t.length ≤ 8000) (hn : J.next ≤ 4096) (hr : ¬ room J S < cnt t.length) :
    ∃ F, app J S t = (J3 J t, F, J.next, 0) ∧ Fil F (J3 J t) ∧ F.s.length = S.s.length ∧ (∀ j, j < J.en.toNat → txa F j = txa S j) ∧ ∀ i, i < (cnt t.length).toNat → txa F (J.en.toNat + i) = sec J.next t i := by
  obtain ⟨F, b, hG, hw, hlen, hat, hb⟩ := gon_app h.g ht hn hr
  obtain ⟨F', hF, hw', hl'⟩ := fil_app h ht hn hr
  obtain ⟨rfl, _⟩ := Prod.mk.inj (hw.symm.trans hw')
  have hc0 := cnt_rng t.length
  have hsl := secs_len J.next t
  have he1 := h.g.wf.e1
  have hR := hr
  unfold room at hR
  refine ⟨F, ?_, hF, hl', fun j hj => ?_, fun i hi => ?_⟩
  · rw [app_6 (by rw [h.g.cl]; simp) ⟨ht, hn⟩ hr (by rw [hw']) (by rw [hw']; simp), hw']
  · unfold txa; rw [hat j (by omega), wdone_lo hj]
  · have hwn : (S.s.getD (J.en.toNat + i) Dk.s0).wn = false := h.wn _ (Dk.getD_mem (by omega))
    unfold txa
    rw [hat _ (by omega), wdone_in (by omega), hwn, if_neg (by simp), secs_at _ _ hi]
def cz (t : List UInt8) : Nat := (cnt t.length).toNat
def cs (l : List (List UInt8)) : Nat := (l.map cz).sum
theorem cs_snoc (l : List (List UInt8)) (t : List UInt8) : cs (l ++ [t]) = cs l + cz t := by unfold cs; simp
theorem cs_take {l : List (List UInt8)} {k : Nat} (h : k < l.length) : cs (l.take (k + 1)) = cs (l.take k) + cz (l.getD k []) := by rw [take_snoc (d := []) h, cs_snoc]
theorem cs_mono {l : List (List UInt8)} {i j : Nat} (h : i ≤ j) : cs (l.take i) ≤ cs (l.take j) := by
  have : l.take i = (l.take j).take i := by rw [List.take_take, Nat.min_eq_left h]
  obtain ⟨d, hd⟩ : ∃ d, l.take j = l.take i ++ d := ⟨(l.take j).drop i, by rw [this, List.take_append_drop]⟩
  rw [hd]; unfold cs; simp
theorem cs_all {l : List (List UInt8)} {i : Nat} (h : i ≤ l.length) : cs (l.take i) ≤ cs l := by
  have := cs_mono (l := l) h
  rwa [List.take_length] at this
theorem gd_snoc (q : List (List UInt8)) (f : List UInt8) (i : Nat) : (q ++ [f]).getD i [] = if i < q.length then q.getD i [] else if i = q.length then f else [] := by
  split
  · rename_i h; rw [List.getD_eq_getElem?_getD, List.getElem?_append_left h, List.getD_eq_getElem?_getD]
  · rename_i h
    split
    · rename_i h2; subst h2; rw [List.getD_eq_getElem?_getD, List.getElem?_append_right (Nat.le_refl _), Nat.sub_self]; rfl
    · rename_i h2; rw [List.getD_eq_getElem?_getD, List.getElem?_append_right (by omega), List.getElem?_eq_none (by simp; omega)]; rfl
structure FilT (S : Dk.Dsk) (J : JS) : Prop extends Fil S J where
  cse : J.en = cs J.tx
  tq : ∀ t ∈ J.tx, t.length ≤ 8000 ∧ ∃ m c, t = txt m c
  lay : ∀ i, i < J.tx.length → ∀ k, k < cz (J.tx.getD i []) → txa S (cs (J.tx.take i) + k) = sec ((i : Int) + 1) (J.tx.getD i []) k
theorem filt_nil {n : Nat} (h1 : 1 ≤ n) (h2 : n ≤ 4096) : FilT (Dk.new n) jnil := ⟨fil_nil h1 h2, rfl, fun t h => (by cases h), fun i h => absurd h (Nat.not_lt_zero _)⟩
theorem filt_step {S : Dk.Dsk} {J : JS} (h : FilT S J) (m : Int) (c : UInt8) : FilT (app J S (txt m c)).2.1 (app J S (txt m c)).1 ∧ (app J S (txt m c)).2.1.s.length = S.s.length ∧
    (((app J S (txt m c)).2.2.2 = 0 ∧ (txt m c).length ≤ 8000 ∧ (app J S (txt m c)).1.tx = J.tx ++ [txt m c]) ∨ ((app J S (txt m c)).2.2.2 ≠ 0 ∧ (app J S (txt m c)).1.tx = J.tx)) := by
  have hcl : ¬ J.cl = true := by rw [h.g.cl]; simp
  by_cases h2 : 8000 < (txt m c).length ∨ 4096 < J.next
  · rw [app_2 hcl h2]
    exact ⟨h, rfl, .inr ⟨by show (4 : Int) ≠ 0; decide, rfl⟩⟩
  have h2' : (txt m c).length ≤ 8000 ∧ J.next ≤ 4096 := by omega
  by_cases h3 : room J S < cnt (txt m c).length
  · rw [app_3 hcl h2' h3]
    exact ⟨h, rfl, .inr ⟨by show (22 : Int) ≠ 0; decide, rfl⟩⟩
  obtain ⟨F, hA, hF, hl, hlo, hin⟩ := fil_lay2 h.toFil h2'.1 h2'.2 h3
  rw [hA]
  have hnx := h.next
  have hen := h.cse
  have hent : J.en.toNat = cs J.tx := by omega
  rw [hent] at hlo hin
  refine ⟨⟨hF, ?_, fun t ht => ?_, fun i hi k hk => ?_⟩, hl, .inl ⟨rfl, h2'.1, rfl⟩⟩
  · show J.en + ((secs J.next (txt m c)).length : Int) = _
    show _ = ((cs (J.tx ++ [txt m c]) : Nat) : Int)
    rw [cs_snoc, secs_len, hen]; unfold cz; omega
  · rcases List.mem_append.1 ht with h1 | h1
    · exact h.tq t h1
    · obtain rfl : t = txt m c := by simpa using h1
      exact ⟨h2'.1, m, c, rfl⟩
  · change i < (J.tx ++ [txt m c]).length at hi
    change k < cz ((J.tx ++ [txt m c]).getD i []) at hk
    show txa F (cs ((J.tx ++ [txt m c]).take i) + k) = sec ((i : Int) + 1) ((J.tx ++ [txt m c]).getD i []) k
    rw [List.length_append, List.length_singleton] at hi
    rw [gd_snoc] at hk ⊢
    by_cases h1 : i < J.tx.length
    · rw [if_pos h1] at hk ⊢
      have hm := cs_mono (l := J.tx) (i := i + 1) (j := J.tx.length) (by omega)
      rw [cs_take h1, List.take_length] at hm
      rw [List.take_append_of_le_length (by omega), hlo _ (by omega)]
      exact h.lay i h1 k hk
    · obtain rfl : i = J.tx.length := by omega
      rw [if_neg h1, if_pos rfl] at hk ⊢
      rw [List.take_left' rfl, hin k hk, hnx]
end Jn
end

section
/-! sectors of a record that rot: none of them is good, unless two given texts have sums that begin alike -/
namespace Jn
open Go Go.Fw
/-- No two of the sectors in question have the same sum. -/
def NoCol : Prop := ∀ (n n' L i : Nat) (c : UInt8), 1 ≤ n → n ≤ 12 → 1 ≤ n' → n' ≤ 12 → (∃ k, k < 4 ∧ n' = n ^^^ 2 ^ k) → L ≤ 8000 → i < (cnt (L : Int)).toNat → 2 * (cnt (L : Int)).toNat + max n n' ≤ 202 →
  ¬ (Sha.sum (hd n i ((txtN c L).drop (48 * i)))).take 8 = (Sha.sum (hd n' i ((txtN c L).drop (48 * i)))).take 8
/-- A disk of which some sectors of a stretch have lost a bit. -/
structure Rotd (S M : Dk.Dsk) (at_ n : Nat) (T : List Int) : Prop where
  ok : Dk.Ok M
  still : Still M
  len : M.s.length = S.s.length
  out : ∀ j : Nat, (∀ i ∈ T, (j : Int) ≠ at_ + i) → txa M j = txa S j
  hit : ∀ i ∈ T, (0 ≤ i ∧ i < n) ∧ ∃ b : Int, (0 ≤ b ∧ b < 512) ∧ txa M (at_ + i.toNat) = Dk.flip (txa S (at_ + i.toNat)) b
  nd : T.Nodup
theorem rotd_nil {S : Dk.Dsk} (hO : Dk.Ok S) (hS : Still S) (at_ n : Nat) : Rotd S S at_ n [] := ⟨hO, hS, rfl, fun _ _ => rfl, fun i h => (by cases h), List.nodup_nil⟩
theorem rotd_step {S M : Dk.Dsk} {at_ n : Nat} {T : List Int} (h : Rotd S M at_ n T) {i b : Int} (hi : 0 ≤ i ∧ i < n) (hT : i ∉ T) (hl : at_ + n ≤ S.s.length) (hb : 0 ≤ b ∧ b < 512) :
    Rotd S (Dk.rot M ((at_ : Int) + i) b).1 at_ n (T ++ [i]) ∧ (Dk.rot M ((at_ : Int) + i) b).2 = 0 := by
  have hlen := h.len
  have hst := h.still
  have hin : 0 ≤ (at_ : Int) + i ∧ (at_ : Int) + i < M.s.length := by omega
  have hr := Dk.rot_ok (S := M) (i := (at_ : Int) + i) (b := b) hin hb
  have hk : ((at_ : Int) + i).toNat = at_ + i.toNat := by omega
  have hgd : ∀ j, (Dk.rot M ((at_ : Int) + i) b).1.s.getD j Dk.s0 = if j = at_ + i.toNat then ⟨Dk.flip (M.at ((at_ : Int) + i)).tx b, (M.at ((at_ : Int) + i)).nx, (M.at ((at_ : Int) + i)).dt, (M.at ((at_ : Int) + i)).wn⟩ else M.s.getD j Dk.s0 := fun j => by
    rw [hr]
    unfold Dk.Dsk.put
    rw [hk]
    show (M.s.set _ _).getD j Dk.s0 = _
    rw [getD_set]
    by_cases hjk : j = at_ + i.toNat
    · rw [if_pos ⟨hjk, by omega⟩, if_pos hjk]
    · rw [if_neg (fun h9 => hjk h9.1), if_neg hjk]
  have hl2 : (Dk.rot M ((at_ : Int) + i) b).1.s.length = M.s.length := Dk.rot_len _ _ _
  have hat : M.at ((at_ : Int) + i) = M.s.getD (at_ + i.toNat) Dk.s0 := by unfold Dk.Dsk.at; rw [hk]
  refine ⟨⟨Dk.ok_rot h.ok _ _, ⟨by rw [hr]; exact hst.off, by rw [hr]; exact hst.left, fun x hx => ?_⟩, hl2.trans hlen, fun j hj => ?_, fun j hj => ?_, ?_⟩, by rw [hr]⟩
  · obtain ⟨j, hj, rfl⟩ := mem_at (d := Dk.s0) hx
    rw [hl2] at hj
    rw [hgd j]
    split
    · show (M.at ((at_ : Int) + i)).dt = false
      rw [hat]; exact dt_at hst.dt (by omega)
    · exact dt_at hst.dt hj
  · have h1 := hj i (List.mem_append_right _ (List.mem_singleton.2 rfl))
    unfold txa
    rw [hgd j, if_neg (by omega)]
    exact h.out j fun k hk => hj k (List.mem_append_left _ hk)
  · by_cases he : j = i
    · subst he
      refine ⟨hi, b, hb, ?_⟩
      have ho := h.out (at_ + j.toNat) fun k hk he => hT (by rw [show j = k by omega]; exact hk)
      unfold txa at ho ⊢
      rw [hgd, if_pos rfl, hat, ho]
    · have hj' : j ∈ T := by
        rcases List.mem_append.1 hj with h1 | h1
        · exact h1
        · exact absurd (List.mem_singleton.1 h1) he
      obtain ⟨h1, b', hb', h2⟩ := h.hit j hj'
      refine ⟨h1, b', hb', ?_⟩
      unfold txa at h2 ⊢
      rw [hgd, if_neg (by omega)]
      exact h2
  · rw [List.nodup_append]
    refine ⟨h.nd, by simp, fun a ha c hc he => ?_⟩
    rw [List.mem_singleton.1 hc] at he
    exact hT (he ▸ ha)
/-! ### sizes -/
theorem cz_pos {t : List UInt8} (h : t.length ≤ 8000) : 1 ≤ cz t := cnt_1le h
theorem cs_lo {l : List (List UInt8)} (h : ∀ t ∈ l, t.length ≤ 8000) {i : Nat} : ∀ j, i ≤ j → j ≤ l.length → cs (l.take i) + (j - i) ≤ cs (l.take j)
  | 0, hi, _ => by rw [show i = 0 by omega]; omega
  | j + 1, hi, hj => by
    by_cases he : i = j + 1
    · rw [he]; omega
    · have ih := cs_lo h (i := i) j (by omega) (by omega)
      have hp := cz_pos (h (l.getD j []) (by rw [List.getD_eq_getElem?_getD, List.getElem?_eq_getElem (by omega)]; exact List.getElem_mem _))
      rw [cs_take (by omega)]
      omega
theorem cs_two {l : List (List UInt8)} (h : ∀ t ∈ l, t.length ≤ 8000) {i j : Nat} (hij : i < j) (hj : j < l.length) : cz (l.getD i []) + cz (l.getD j []) + j ≤ cs l + 1 := by
  have h0 := cs_lo h (i := 0) i (by omega) (by omega)
  have h1 := cs_take (l := l) (k := i) (by omega)
  have h2 := cs_lo h (i := i + 1) j (by omega) (by omega)
  have h3 := cs_take (l := l) (k := j) (by omega)
  have h4 := cs_all (l := l) (i := j + 1) (by omega)
  omega
/-! ### one bit of a sector -/
theorem flip_take {x : List UInt8} {b : Int} {m : Nat} (h : m ≤ (b / 8).toNat) : (Dk.flip x b).take m = x.take m := by
  unfold Dk.flip; exact List.take_set_of_le h
theorem flip_drop {x : List UInt8} {b : Int} {k m : Nat} (h : (b / 8).toNat < k) : List.drop k ((Dk.flip x b).take m) = List.drop k (x.take m) := by
  unfold Dk.flip; rw [List.take_set, List.drop_set_of_lt h]
theorem flip_drop' {x : List UInt8} {b : Int} {k : Nat} (h : (b / 8).toNat < k) : List.drop k (Dk.flip x b) = List.drop k x := by
  unfold Dk.flip; rw [List.drop_set_of_lt h]
theorem num_bits : ∀ (n : Fin 13) (b : Fin 32), nb ([UInt8.ofNat n.val, 0, 0, 0].set (((b.val : Nat) : Int) / 8).toNat ([UInt8.ofNat n.val, 0, 0, 0].getD (((b.val : Nat) : Int) / 8).toNat 0 ^^^ Dk.bitv ((b.val : Nat) : Int))) ≤ 12 →
    ∃ k : Fin 4, nb ([UInt8.ofNat n.val, 0, 0, 0].set (((b.val : Nat) : Int) / 8).toNat ([UInt8.ofNat n.val, 0, 0, 0].getD (((b.val : Nat) : Int) / 8).toNat 0 ^^^ Dk.bitv ((b.val : Nat) : Int))) = n.val ^^^ 2 ^ k.val := by decide +kernel
theorem num_flip {n : Nat} (hn : n ≤ 12) {t : List UInt8} {i : Nat} {b : Int} (hb : 0 ≤ b ∧ b < 32) (h : num (Dk.flip (sec n t i) b) ≤ 12) : ∃ k, k < 4 ∧ num (Dk.flip (sec n t i) b) = n ^^^ 2 ^ k := by
  have hl := sec_len n t i
  have h4 : (sec (n : Int) t i).take 4 = [UInt8.ofNat n, 0, 0, 0] := by
    rw [take_take56 _ (by decide : 4 ≤ 56), sec_take, hd_4, Int.toNat_natCast, lb4 (by omega)]
  have hg : (sec (n : Int) t i).getD (b / 8).toNat 0 = [UInt8.ofNat n, 0, 0, 0].getD (b / 8).toNat 0 := by
    rw [← h4, List.getD_eq_getElem?_getD, List.getD_eq_getElem?_getD, List.getElem?_take, if_pos (by omega)]
  have e : (Dk.flip (sec (n : Int) t i) b).take 4 = [UInt8.ofNat n, 0, 0, 0].set (b / 8).toNat ([UInt8.ofNat n, 0, 0, 0].getD (b / 8).toNat 0 ^^^ Dk.bitv b) := by
    unfold Dk.flip
    rw [List.take_set, h4, hg]
  have hbb : b = (((⟨b.toNat, by omega⟩ : Fin 32).val : Nat) : Int) := by show b = ((b.toNat : Nat) : Int); omega
  have hx := num_bits ⟨n, by omega⟩ ⟨b.toNat, by omega⟩
  unfold num at h ⊢
  rw [e] at h ⊢
  rw [hbb] at h ⊢
  obtain ⟨k, hk⟩ := hx h
  exact ⟨k.val, k.isLt, hk⟩
theorem tq_len {t : List UInt8} {m : Int} {c : UInt8} (h : t = txt m c) : t = txtN c t.length := by
  subst h
  unfold txt
  rw [txtN_len]
theorem txtN_at (c : UInt8) {k i : Nat} (h : i < k) : (txtN c k).getD i 0 = c + ofb (i : Int) := map_getD _ h _
/-- A rotted sector that passes as genuine is not good. -/
theorem flip_bad {T : List (List UInt8)} (nc : NoCol) (hq : ∀ t ∈ T, t.length ≤ 8000 ∧ ∃ m c, t = txt m c) (hs : cs T ≤ 200) (hl : T.length ≤ 12) {h i : Nat} {b : Int} (hh : h < T.length) (hi : i < cz (T.getD h [])) (hb : 0 ≤ b ∧ b < 512)
    (hg : gen1 T (Dk.flip (sec ((h : Int) + 1) (T.getD h []) i) b)) : (unp (Dk.flip (sec ((h : Int) + 1) (T.getD h []) i) b)).ok = false := by
  have hmem : ∀ j, j < T.length → T.getD j [] ∈ T := fun j hj => by
    rw [List.getD_eq_getElem?_getD, List.getElem?_eq_getElem hj]; exact List.getElem_mem _
  obtain ⟨t, htt⟩ : ∃ t, t = T.getD h [] := ⟨_, rfl⟩
  have hq1 := hq _ (hmem h hh)
  rw [← htt] at hi hg hq1 ⊢
  obtain ⟨x, hx⟩ : ∃ x, x = sec ((h : Int) + 1) t i := ⟨_, rfl⟩
  have hxl : x.length = 64 := by rw [hx]; exact sec_len _ _ _
  have hck := cnt_k hq1.1 hi
  refine Bool.eq_false_iff.2 fun ho => ?_
  have hgd := ok_good ho
  have hsn : (unp (Dk.flip (sec ((h : Int) + 1) t i) b)).n ≤ T.length := (hg ho).1
  obtain ⟨h1, h2, h3⟩ := gen_sec hg ho
  rw [unp_good hgd] at hsn
  dsimp only at hsn
  have hn1 := hgd.2.2.1
  rw [← hx] at h1 h2 h3 hsn hn1
  have hnx : (num x : Int) = (h : Int) + 1 := by rw [hx]; exact sec_num _ (by omega) _ _
  have hpx : par x = i := by rw [hx]; exact sec_par _ _ _ (by omega)
  have hlx : lft x = t.length - 48 * i := by rw [hx]; exact sec_lft _ _ _ (by omega)
  have hne := Dk.flip_ne (b := b) hxl hb
  by_cases hB : 4 ≤ (b / 8).toNat
  · have e1 : num (Dk.flip x b) = num x := by unfold num; rw [flip_take hB]
    rw [e1, hnx, show ((h : Int) + 1 - 1).toNat = h by omega, ← htt] at h1 h2 h3
    have hpi : par (Dk.flip x b) = i := by
      by_cases hB6 : 6 ≤ (b / 8).toNat
      · have : par (Dk.flip x b) = par x := by unfold par; rw [flip_take hB6]
        rw [this, hpx]
      · have e2 : lft (Dk.flip x b) = lft x := by unfold lft; rw [flip_drop (by omega)]
        have hck2 := cnt_k hq1.1 h2
        have e3 := sec_lft ((h : Int) + 1) t (par (Dk.flip x b)) (by omega)
        rw [h3, e2, hlx] at e3
        omega
    rw [hpi, ← hx] at h3
    exact hne h3
  · have e2 : par (Dk.flip x b) = i := by unfold par; rw [flip_drop (by omega)]; exact hpx
    have e3 : lft (Dk.flip x b) = lft x := by unfold lft; rw [flip_drop (by omega)]
    obtain ⟨n', hn'⟩ : ∃ n', n' = num (Dk.flip x b) := ⟨_, rfl⟩
    rw [← hn'] at hsn hn1
    have hk := num_flip (n := h + 1) (by omega) (t := t) (i := i) (b := b) (by omega) (by
      rw [show ((h + 1 : Nat) : Int) = (h : Int) + 1 by omega, ← hx, ← hn']; omega)
    rw [show ((h + 1 : Nat) : Int) = (h : Int) + 1 by omega, ← hx, ← hn'] at hk
    obtain ⟨k, hk4, hkx⟩ := hk
    rw [← hn', e2] at h2 h3
    rw [← hn'] at h1
    have hi' : ((n' : Int) - 1).toNat = n' - 1 := by omega
    rw [hi'] at h1 h2 h3
    obtain ⟨u, hu⟩ : ∃ u, u = T.getD (n' - 1) [] := ⟨_, rfl⟩
    have hq2 := hq _ (hmem (n' - 1) (by omega))
    rw [← hu] at h1 h2 h3 hq2
    have hcu := cnt_k hq2.1 h2
    have hul := sec_lft (n' : Int) u i (by omega)
    rw [h3, e3, hlx] at hul
    have hL : u.length = t.length := by omega
    -- the bytes from 8 on
    have h8 : List.drop 8 ((Dk.flip x b).take 56) = List.drop 8 (x.take 56) := flip_drop (by omega)
    rw [← h3, hx, sec_take, sec_take, hd_d8, hd_d8] at h8
    have h56 : List.drop 56 (Dk.flip x b) = List.drop 56 x := flip_drop' (by omega)
    rw [← h3, hx] at h56
    unfold sec chk at h56
    rw [List.drop_left' (hd_len _ _ _), List.drop_left' (hd_len _ _ _), Int.toNat_natCast, show ((h : Int) + 1).toNat = h + 1 by omega] at h56
    obtain ⟨hq18, m, c, hc⟩ := hq1
    obtain ⟨_, m', c', hc'⟩ := hq2
    have ht := tq_len hc
    have hut := tq_len hc'
    rw [hL] at hut
    have htu : u = t := by
      by_cases h0 : t.length = 0
      · rw [hut, ht, h0]; rfl
      · have hlt : 48 * i < t.length := by omega
        have hp : ∀ (v : List UInt8), v.length = t.length → (pay (v.drop (48 * i))).getD 0 0 = v.getD (48 * i) 0 := fun v hv => by
          unfold pay
          rw [List.getD_eq_getElem?_getD, List.getElem?_append_left (by rw [List.length_take, List.length_drop]; omega), List.getElem?_take, if_pos (by omega), List.getElem?_drop, List.getD_eq_getElem?_getD]; rfl
        have h9 := hp u hL
        rw [h8, hp t rfl, hut, ht, txtN_len, txtN_at _ hlt, txtN_at _ hlt] at h9
        have hcc : c = c' := by
          have := congrArg (fun z => z - ofb ((48 * i : Nat) : Int)) h9
          simpa using this
        rw [hut, ht, txtN_len, hcc]
    rw [htu] at h56 hu
    have hzz : cz (T.getD (n' - 1) []) = cz t := by rw [← hu]
    have hz2 : cz (T.getD h []) = cz t := by rw [← htt]
    have hkn : ¬ n' = h + 1 := fun e => by
      rw [e] at hkx
      have : (h + 1) ^^^ (h + 1) = (h + 1) ^^^ ((h + 1) ^^^ 2 ^ k) := by rw [← hkx]
      rw [← Nat.xor_assoc, Nat.xor_self, Nat.zero_xor] at this
      have := Nat.two_pow_pos k
      omega
    have h8t : ∀ t ∈ T, t.length ≤ 8000 := fun t ht => (hq t ht).1
    have htwo : 2 * cz t + max (h + 1) n' ≤ 202 := by
      rcases Nat.lt_or_ge h (n' - 1) with h9 | h9
      · have := cs_two h8t h9 (by omega); omega
      · have := cs_two h8t (i := n' - 1) (j := h) (by omega) hh; omega
    have hx := nc (h + 1) n' t.length i c (by omega) (by omega) (by omega) (by omega) ⟨k, hk4, hkx⟩ hq18 hi htwo
    rw [← ht] at hx
    exact hx h56.symm
end Jn
end

section
/-! what Open finds behind rotted sectors of one record -/
namespace Jn
open Go Go.Fw
def NoZero : Prop := ∀ n : Nat, 1 ≤ n → n ≤ 12 → ¬ (Sha.sum (hd n 0 [])).take 8 = List.replicate 8 0
/-- What is found in the first m records, without the record i. -/
def ac (q : List (List UInt8)) (i : Nat) : Nat → Acc
  | 0 => ([], [])
  | m + 1 => if m = i then ac q i m else addR (ac q i m) ((m : Int) + 1) (q.getD m [])
theorem ac_out (q : List (List UInt8)) {i m : Nat} (h : m ≠ i) : ac q i (m + 1) = addR (ac q i m) ((m : Int) + 1) (q.getD m []) := by
  show (if m = i then ac q i m else _) = _
  rw [if_neg h]
theorem ac_in (q : List (List UInt8)) (i : Nat) : ac q i (i + 1) = ac q i i := by
  show (if i = i then ac q i i else _) = _
  rw [if_pos rfl]
theorem ac_mem (q : List (List UInt8)) (i : Nat) : ∀ m x, x ∈ (ac q i m).1 ↔ ∃ j : Nat, j < m ∧ j ≠ i ∧ x = (j : Int) + 1
  | 0, x => ⟨fun h => (by cases h), fun ⟨j, h, _⟩ => absurd h (Nat.not_lt_zero _)⟩
  | m + 1, x => by
    have ih := ac_mem q i m
    by_cases hm : m = i
    · subst hm
      rw [ac_in, ih]
      exact ⟨fun ⟨j, h1, h2, h3⟩ => ⟨j, by omega, h2, h3⟩, fun ⟨j, h1, h2, h3⟩ => ⟨j, by omega, h2, h3⟩⟩
    · have hn : ¬ ((m : Int) + 1) ∈ (ac q i m).1 := fun h => by obtain ⟨j, h1, _, h3⟩ := (ih _).1 h; omega
      rw [ac_out q hm]
      unfold addR
      rw [if_neg hn]
      dsimp only
      rw [List.mem_append, ih, List.mem_singleton]
      refine ⟨fun h => ?_, fun ⟨j, h1, h2, h3⟩ => ?_⟩
      · rcases h with ⟨j, h1, h2, h3⟩ | h
        · exact ⟨j, by omega, h2, h3⟩
        · exact ⟨m, by omega, hm, h⟩
      · by_cases hj : j = m
        · exact .inr (by rw [h3, hj])
        · exact .inl ⟨j, by omega, h2, h3⟩
theorem ac_step (q : List (List UInt8)) {i m : Nat} (h : m ≠ i) : (ac q i (m + 1)).2 = (ac q i m).2 ++ [q.getD m []] := by
  have hn : ¬ ((m : Int) + 1) ∈ (ac q i m).1 := fun h => by obtain ⟨j, h1, _, h3⟩ := (ac_mem q i m _).1 h; omega
  rw [ac_out q h]
  unfold addR
  rw [if_neg hn]
theorem ac_lo (q : List (List UInt8)) (i : Nat) : ∀ m, m ≤ i → m ≤ q.length → (ac q i m).2 = q.take m
  | 0, _, _ => rfl
  | m + 1, h, hq => by
    rw [ac_step q (by omega), ac_lo q i m (by omega) (by omega), take_snoc (d := []) (by omega)]
theorem ac_hi (q : List (List UInt8)) {i : Nat} (hi : i < q.length) : ∀ m, i + 1 + m ≤ q.length → (ac q i (i + 1 + m)).2 = q.take i ++ (q.drop (i + 1)).take m
  | 0, _ => by rw [Nat.add_zero, ac_in, ac_lo q i i (Nat.le_refl _) (by omega), List.take_zero, List.append_nil]
  | m + 1, h => by
    rw [show i + 1 + (m + 1) = i + 1 + m + 1 by omega, ac_step q (by omega), ac_hi q hi m (by omega), take_snoc (l := q.drop (i + 1)) (d := []) (by rw [List.length_drop]; omega), ← List.append_assoc]
    congr 2
    rw [List.getD_eq_getElem?_getD, List.getD_eq_getElem?_getD, List.getElem?_drop]
theorem ac_all (q : List (List UInt8)) {i : Nat} (hi : i < q.length) : (ac q i q.length).2 = q.take i ++ q.drop (i + 1) := by
  have := ac_hi q hi (q.length - (i + 1)) (by omega)
  rw [show i + 1 + (q.length - (i + 1)) = q.length by omega] at this
  rw [this, List.take_of_length_le (l := q.drop (i + 1)) (by rw [List.length_drop]; omega)]
theorem ac_dm (q : List (List UInt8)) {i n : Nat} : ∀ m, m ≤ n → dmN (ac q i n).1 m = if i < m then [(i : Int) + 1] else []
  | 0, _ => by rw [if_neg (Nat.not_lt_zero _)]; rfl
  | m + 1, h => by
    by_cases hm : m = i
    · subst hm
      rw [dm_out (fun h => by obtain ⟨j, _, h2, h3⟩ := (ac_mem q m n _).1 h; omega), ac_dm q m (by omega), if_neg (by omega), if_pos (by omega)]; rfl
    · rw [dm_in ((ac_mem q i n _).2 ⟨m, by omega, hm, rfl⟩), ac_dm q m (by omega)]
      by_cases h2 : i < m
      · rw [if_pos h2, if_pos (by omega)]
      · rw [if_neg h2, if_neg (by omega)]
/-! ### numbers, bad sectors -/
theorem nx_ge {l : List (List UInt8)} {j : Nat} : ∀ k, j < k → (unp (l.getD j [])).n + 1 ≤ nxN l k
  | 0, h => absurd h (Nat.not_lt_zero _)
  | k + 1, h => by
    rw [nx_s]
    by_cases hj : j = k
    · rw [hj]; omega
    · have := nx_ge (l := l) (j := j) k (by omega); omega
theorem nx_le {l : List (List UInt8)} {B : Int} (hB : 0 ≤ B) : ∀ k, (∀ j, j < k → (unp (l.getD j [])).n ≤ B) → nxN l k ≤ B + 1
  | 0, _ => by show (1 : Int) ≤ _; omega
  | k + 1, h => by
    rw [nx_s]
    have := nx_le hB k fun j hj => h j (by omega)
    have := h k (by omega)
    omega
theorem bad_mem {l : List (List UInt8)} : ∀ k (x : Int), x ∈ badN l k ↔ ∃ j : Nat, j < k ∧ x = j ∧ (unp (l.getD j [])).ok = false ∧ l.getD j [] ≠ z64
  | 0, x => ⟨fun h => (by cases h), fun ⟨j, h, _⟩ => absurd h (Nat.not_lt_zero _)⟩
  | k + 1, x => by
    have ih := bad_mem (l := l) k x
    rw [badN]
    by_cases hc : (unp (l.getD k [])).ok = false ∧ l.getD k [] ≠ z64
    · rw [if_pos hc, List.mem_append, ih, List.mem_singleton]
      refine ⟨fun h => ?_, fun ⟨j, h1, h2, h3⟩ => ?_⟩
      · rcases h with ⟨j, h1, h2, h3⟩ | h
        · exact ⟨j, by omega, h2, h3⟩
        · exact ⟨k, by omega, h, hc⟩
      · by_cases hj : j = k
        · exact .inr (by rw [h2, hj])
        · exact .inl ⟨j, by omega, h2, h3⟩
    · rw [if_neg hc, ih]
      refine ⟨fun ⟨j, h1, h2, h3⟩ => ⟨j, by omega, h2, h3⟩, fun ⟨j, h1, h2, h3⟩ => ⟨j, ?_, h2, h3⟩⟩
      by_cases hj : j = k
      · exact absurd (hj ▸ h3) hc
      · omega
theorem bad_nd (l : List (List UInt8)) : ∀ k, (badN l k).Nodup
  | 0 => List.nodup_nil
  | k + 1 => by
    rw [badN]
    split
    · rw [List.nodup_append]
      refine ⟨bad_nd l k, by simp, fun a ha c hc he => ?_⟩
      rw [List.mem_singleton.1 hc] at he
      have := (bad_rng l k).2 a ha
      omega
    · exact bad_nd l k
theorem nd_le {α : Type} [DecidableEq α] : ∀ (l m : List α), l.Nodup → (∀ x ∈ l, x ∈ m) → l.length ≤ m.length
  | [], _, _, _ => Nat.zero_le _
  | x :: l, m, hn, h => by
    have h1 := h x List.mem_cons_self
    rw [List.nodup_cons] at hn
    have ih := nd_le l (m.erase x) hn.2 fun y hy => (List.mem_erase_of_ne (fun (e : y = x) => hn.1 (by rw [← e]; exact hy))).2 (h y (List.mem_cons_of_mem _ hy))
    have := List.length_erase_of_mem h1
    have := List.length_pos_of_mem h1
    rw [List.length_cons]; omega
/-- A sector with a bit turned is not blank. -/
theorem flip_nz {n i : Nat} {t : List UInt8} {b : Int} (nz : NoZero) (hn : 1 ≤ n ∧ n ≤ 12) (ht : t.length ≤ 8000) (hi : i < cz t) (hb : 0 ≤ b ∧ b < 512) : Dk.flip (sec (n : Int) t i) b ≠ z64 := fun he => by
  have hck := cnt_k ht hi
  have hnx := sec_num (n : Int) (by omega) t i
  by_cases hB : 4 ≤ (b / 8).toNat
  · have e1 : num (Dk.flip (sec (n : Int) t i) b) = num (sec (n : Int) t i) := by unfold num; rw [flip_take hB]
    rw [he, show num z64 = 0 by decide] at e1
    omega
  · have e3 : lft (Dk.flip (sec (n : Int) t i) b) = lft (sec (n : Int) t i) := by unfold lft; rw [flip_drop (by omega)]
    rw [he, sec_lft _ _ _ (by omega), show lft z64 = 0 by decide] at e3
    have h0 : t = [] := List.eq_nil_of_length_eq_zero (by omega)
    have hi0 : i = 0 := by
      rw [h0] at hi
      have : i < 1 := hi
      omega
    have h56 : List.drop 56 (Dk.flip (sec (n : Int) t i) b) = List.drop 56 (sec (n : Int) t i) := flip_drop' (by omega)
    rw [he] at h56
    unfold sec chk at h56
    rw [List.drop_left' (hd_len _ _ _), Int.toNat_natCast, h0, hi0] at h56
    exact nz n hn.1 hn.2 h56.symm
end Jn
end

section
/-! a record with rotted sectors is passed over, all else is found -/
namespace Jn
open Go Go.Fw
/-- What a disk holds of which sectors of record h are rotted and not good. -/
structure Lost (S M : Dk.Dsk) (q : List (List UInt8)) (h : Nat) (T : List Int) : Prop where
  still : Still M
  len : M.s.length = S.s.length
  lt : h < q.length
  out : ∀ j : Nat, (∀ i ∈ T, (j : Int) ≠ cs (q.take h) + i) → txa M j = txa S j
  hit : ∀ i ∈ T, (0 ≤ i ∧ i < cz (q.getD h [])) ∧ (unp (txa M (cs (q.take h) + i.toNat))).ok = false ∧ txa M (cs (q.take h) + i.toNat) ≠ z64
theorem seg_at {S : Dk.Dsk} {a c j : Nat} (hac : a + c ≤ S.s.length) (hj : j < c) : (((pts S).drop a).take c).getD j p0 = unp (txa S (a + j)) := by
  rw [List.getD_eq_getElem?_getD, List.getElem?_take, if_pos hj, List.getElem?_drop]
  unfold pts
  rw [List.getElem?_map, List.getElem?_range (by omega)]; rfl
theorem seg_ln {S : Dk.Dsk} {a c : Nat} (hac : a + c ≤ S.s.length) : (((pts S).drop a).take c).length = c := by
  rw [List.length_take, List.length_drop, pts_len]; omega
theorem gd_mem {l : List (List UInt8)} {j : Nat} (hj : j < l.length) : l.getD j [] ∈ l := by
  rw [List.getD_eq_getElem?_getD, List.getElem?_eq_getElem hj]; exact List.getElem_mem _
/-- Where a sector of another record, or one that did not rot, lies. -/
theorem lost_at {S M : Dk.Dsk} {J : JS} {h : Nat} {T : List Int} (hF : FilT S J) (hL : Lost S M J.tx h T) {m j : Nat} (hm : m < J.tx.length) (hj : j < cz (J.tx.getD m [])) (hne : m = h → (j : Int) ∉ T) : txa M (cs (J.tx.take m) + j) = sec ((m : Int) + 1) (J.tx.getD m []) j := by
  rw [hL.out _ fun i hi he => ?_]
  · exact hF.lay m hm j hj
  · have hr := (hL.hit i hi).1
    have h1 := cs_take (l := J.tx) (k := h) hL.lt
    have h2 := cs_take (l := J.tx) (k := m) hm
    rcases Nat.lt_trichotomy m h with h3 | h3 | h3
    · have := cs_mono (l := J.tx) (i := m + 1) (j := h) (by omega); omega
    · subst h3
      exact hne rfl (by rw [show (j : Int) = i by omega]; exact hi)
    · have := cs_mono (l := J.tx) (i := h + 1) (j := m) (by omega); omega
theorem lost_scan {S M : Dk.Dsk} {J : JS} {h : Nat} {T : List Int} (hF : FilT S J) (hL : Lost S M J.tx h T) (hT : T ≠ []) (hq : J.tx.length ≤ 12) : ∀ m, m ≤ J.tx.length → scan (pts M) ([], []) = scan ((pts M).drop (cs (J.tx.take m))) (ac J.tx h m)
  | 0, _ => by rw [List.take_zero]; rfl
  | m + 1, hm => by
    rw [lost_scan hF hL hT hq m (by omega)]
    have hs := (hF.tq _ (gd_mem (l := J.tx) (j := m) (by omega))).1
    have hut := cs_take (l := J.tx) (k := m) (by omega)
    have hum := cs_all (l := J.tx) (i := m + 1) hm
    have hen := hF.cse
    have hel := hF.g.en
    have hml := hL.len
    have hac : cs (J.tx.take m) + cz (J.tx.getD m []) ≤ M.s.length := by omega
    have hcl : (cnt ((J.tx.getD m []).length : Int)).toNat = cz (J.tx.getD m []) := rfl
    have hsplit : (pts M).drop (cs (J.tx.take m)) = ((pts M).drop (cs (J.tx.take m))).take (cz (J.tx.getD m [])) ++ (pts M).drop (cs (J.tx.take (m + 1))) := by
      rw [hut, ← List.drop_drop, List.take_append_drop]
    have hat : ∀ j, j < cz (J.tx.getD m []) → (m = h → (j : Int) ∉ T) → (((pts M).drop (cs (J.tx.take m))).take (cz (J.tx.getD m []))).getD j p0 = sp ((m : Int) + 1) (J.tx.getD m []) j := fun j hj hne => by
      rw [seg_at hac hj, lost_at hF hL (by omega) hj hne]
      exact unp_sec (by omega) hs hj
    rw [hsplit]
    by_cases hmi : m = h
    · subst hmi
      obtain ⟨i, hi⟩ := List.exists_mem_of_ne_nil T hT
      obtain ⟨hir, hib, _⟩ := hL.hit i hi
      rw [scan_hole (n := (m : Int) + 1) (t := J.tx.getD m []) hs ((seg_ln hac).trans hcl.symm) (fun j hj => ?_) (j := i.toNat) (by rw [seg_ln hac]; omega) (by rw [seg_at hac (by omega)]; exact hib), ac_in]
      rw [seg_ln hac] at hj
      by_cases hne : (j : Int) ∈ T
      · right; rw [seg_at hac hj]; exact (hL.hit _ hne).2.1
      · left; exact hat j hj fun _ => hne
    · have hall : ((pts M).drop (cs (J.tx.take m))).take (cz (J.tx.getD m [])) = sps ((m : Int) + 1) (J.tx.getD m []) := by
        refine List.ext_getElem (by rw [seg_ln hac, sps_len]; rfl) fun j h1 h2 => ?_
        rw [seg_ln hac] at h1
        have e1 := hat j h1 fun e => absurd e hmi
        have e2 := sps_at ((m : Int) + 1) (J.tx.getD m []) (k := j) h1
        rw [List.getD_eq_getElem?_getD, List.getElem?_eq_getElem (by rw [seg_ln hac]; exact h1)] at e1
        rw [List.getD_eq_getElem?_getD, List.getElem?_eq_getElem h2] at e2
        exact Eq.trans e1 e2.symm
      rw [hall, scan_whole hs, ac_out _ hmi]
theorem lost_found {S M : Dk.Dsk} {J : JS} {h : Nat} {T : List Int} (hF : FilT S J) (hL : Lost S M J.tx h T) (hT : T ≠ []) (hq : J.tx.length ≤ 12) : ((opn M).nums, (opn M).tx) = ac J.tx h J.tx.length := by
  have hen := hF.cse
  have hel := hF.g.en
  have hml := hL.len
  have e : scan ((rds M).map unp) ([], []) = ac J.tx h J.tx.length := by
    rw [still_pts hL.still, lost_scan hF hL hT hq J.tx.length (Nat.le_refl _), List.take_length, scan_blank]
    intro x hx
    obtain ⟨j, hj, rfl⟩ := mem_at (d := p0) hx
    rw [List.length_drop, pts_len] at hj
    rw [List.getD_eq_getElem?_getD, List.getElem?_drop, ← List.getD_eq_getElem?_getD]
    unfold pts
    have h1 := cs_all (l := J.tx) (i := h + 1) hL.lt
    have h2 := cs_take (l := J.tx) (k := h) hL.lt
    rw [map_getD _ (by omega), hL.out _ fun i hi he => (by have := (hL.hit i hi).1; omega), hF.g.bl _ (by omega) (by omega), unp_z64]; rfl
  show ((scan ((rds M).map unp) ([], [])).1, (scan ((rds M).map unp) ([], [])).2) = _
  rw [e]
theorem rl_opn {M : Dk.Dsk} (h : Still M) : (opn M).bad = badN (rl M) M.s.length ∧ (opn M).next = nxN (rl M) M.s.length := by
  have er : rds M = rl M := still_rds h
  unfold opn ofl
  rw [er, rl_len]
  exact ⟨rfl, rfl⟩
/-- What the law says. -/
theorem finds {S M : Dk.Dsk} {J : JS} {h : Nat} {T : List Int} (nc : NoCol) (nz : NoZero) (hF : FilT S J) (hS : S.s.length ≤ 200) (hq : J.tx.length ≤ 12) (hh : h < J.tx.length) (hR : Rotd S M (cs (J.tx.take h)) (cz (J.tx.getD h [])) T) (hT : T ≠ [])
    (hg : ∀ s ∈ Dk.image M, gen1 J.tx s) : (opn M).tx = J.tx.take h ++ J.tx.drop (h + 1) ∧ ¬ (opn M).bad.length = 0 ∧ (opn M).bad.length ≤ T.length ∧ (h + 1 = J.tx.length ∨ damaged (opn M) = [(h : Int) + 1]) := by
  have hen := hF.cse
  have hel := hF.g.en
  have hml := hR.len
  have hmem : ∀ j, j < M.s.length → txa M j ∈ Dk.image M := fun j hj => by
    unfold Dk.image txa
    exact List.mem_map.2 ⟨_, Dk.getD_mem hj, rfl⟩
  have h1 := cs_all (l := J.tx) (i := h + 1) hh
  have h2 := cs_take (l := J.tx) (k := h) hh
  have hL : Lost S M J.tx h T := ⟨hR.still, hR.len, hh, hR.out, fun i hi => by
    obtain ⟨hir, b, hb, hx⟩ := hR.hit i hi
    have hlay := hF.lay h hh i.toNat (by omega)
    rw [hlay] at hx
    refine ⟨hir, ?_, ?_⟩
    · have := hg _ (hmem (cs (J.tx.take h) + i.toNat) (by omega))
      rw [hx] at this ⊢
      exact flip_bad nc hF.tq (by omega) hq hh (by omega) hb this
    · rw [hx, show ((h : Int) + 1) = ((h + 1 : Nat) : Int) by omega]
      exact flip_nz nz (by omega) (hF.tq _ (gd_mem hh)).1 (by omega) hb⟩
  have hfd := lost_found hF hL hT hq
  obtain ⟨hbad, hnx⟩ := rl_opn hR.still
  have hrl : ∀ j, j < M.s.length → (rl M).getD j [] = txa M j := fun j hj => rl_at hj
  refine ⟨by rw [show (opn M).tx = ((opn M).nums, (opn M).tx).2 from rfl, hfd, ac_all _ hh], fun he => ?_, ?_, ?_⟩
  · obtain ⟨i, hi⟩ := List.exists_mem_of_ne_nil T hT
    obtain ⟨hir, hib, hiz⟩ := hL.hit i hi
    have : ((cs (J.tx.take h) + i.toNat : Nat) : Int) ∈ badN (rl M) M.s.length := (bad_mem _ _).2 ⟨_, by omega, rfl, by rw [hrl _ (by omega)]; exact ⟨hib, hiz⟩⟩
    rw [hbad] at he
    rw [List.eq_nil_of_length_eq_zero he] at this
    cases this
  · rw [hbad]
    have := nd_le (badN (rl M) M.s.length) (T.map fun i => (cs (J.tx.take h) : Int) + i) (bad_nd _ _) fun x hx => by
      obtain ⟨j, hj, rfl, hjb, hjz⟩ := (bad_mem _ _).1 hx
      rw [hrl j hj] at hjb hjz
      apply Classical.byContradiction
      intro hn
      rw [hR.out j fun i hi he => hn (List.mem_map.2 ⟨i, hi, he.symm⟩)] at hjb hjz
      have hSb := (rl_opn hF.g.still).1
      rw [fil_opn hF.toFil, hF.bad] at hSb
      have : (j : Int) ∈ badN (rl S) S.s.length := (bad_mem _ _).2 ⟨j, by omega, rfl, by rw [rl_at (by omega)]; exact ⟨hjb, hjz⟩⟩
      rw [← hSb] at this
      cases this
    rwa [List.length_map] at this
  · by_cases hl : h + 1 = J.tx.length
    · exact .inl hl
    · right
      obtain ⟨m, hm⟩ : ∃ m, J.tx.length = m + 1 := ⟨J.tx.length - 1, by omega⟩
      have hms := (hF.tq _ (gd_mem (l := J.tx) (j := m) (by omega))).1
      have hmz := cz_pos hms
      have hm1 := cs_all (l := J.tx) (i := m + 1) (by omega)
      have hm2 := cs_take (l := J.tx) (k := m) (by omega)
      have hat := lost_at hF hL (m := m) (j := 0) (by omega) (by omega) fun e => absurd e (by omega)
      have hge := nx_ge (l := rl M) (j := cs (J.tx.take m) + 0) M.s.length (by omega)
      rw [hrl _ (by omega), hat, unp_sec (by omega) hms (k := 0) hmz] at hge
      dsimp only at hge
      have hle := nx_le (l := rl M) (B := (J.tx.length : Int)) (by omega) M.s.length fun j hj => by
        rw [hrl j hj]
        by_cases ho : (unp (txa M j)).ok = true
        · exact (hg _ (hmem j hj) ho).1
        · have : ¬ good (txa M j) := fun hgd => ho (by rw [unp_good hgd])
          rw [unp_bad this]
          show (0 : Int) ≤ _
          omega
      unfold damaged
      rw [show (opn M).nums = ((opn M).nums, (opn M).tx).1 from rfl, hfd, hnx, show (nxN (rl M) M.s.length - 1).toNat = J.tx.length by omega, ac_dm _ _ (Nat.le_refl _), if_pos hh]
end Jn
end

section
/-! a set of numbers as a map; a record's place -/
namespace Jn
open Go Go.Fw
def mT (T : List Int) : List (Int × Value) := T.map fun i => (i, .bool true)
theorem mT_len (T : List Int) : (mT T).length = T.length := by simp [mT]
theorem mT_cons (i : Int) (T : List Int) : mT (i :: T) = (i, .bool true) :: mT T := rfl
theorem mT_set : ∀ {T : List Int} {i : Int}, i ∉ T → aset i (.bool true) (mT T) = mT (T ++ [i])
  | [], i, _ => rfl
  | x :: T, i, h => by
    have h1 : ¬ x = i := fun e => h (by rw [e]; exact List.mem_cons_self)
    have h2 : i ∉ T := fun e => h (List.mem_cons_of_mem _ e)
    rw [mT_cons, List.cons_append, mT_cons, aset, if_neg (fun e => h1 (show i = x from e).symm), mT_set h2]
theorem mT_aget (x : Int) : ∀ T : List Int, aget (mT T) x = if x ∈ T then some (.bool true) else none := by
  intro T
  have hg : ∀ (l : List (Int × Value)), (aget l x).isSome = true ↔ x ∈ l.map (·.1) := fun l => aget_some
  have hm : (mT T).map (·.1) = T := by
    unfold mT
    rw [List.map_map]
    exact List.map_id'' (fun _ => rfl) T
  have h1 := hg (mT T)
  rw [hm] at h1
  by_cases hx : x ∈ T
  · rw [if_pos hx]
    obtain ⟨v, hv⟩ := Option.isSome_iff_exists.1 (h1.2 hx)
    have h2 := aget_mem hv
    unfold mT at h2
    obtain ⟨i, _, h3⟩ := List.mem_map.1 h2
    rw [hv, ← (Prod.mk.inj h3).2]
  · rw [if_neg hx]
    cases h3 : aget (mT T) x with
    | none => rfl
    | some v => rw [h3] at h1; exact absurd (h1.1 rfl) hx
theorem mT_get (T : List Int) (x : Int) : (aget (mT T) x).getD (.bool false) = .bool (decide (x ∈ T)) := by
  rw [mT_aget]
  by_cases hx : x ∈ T
  · rw [if_pos hx, decide_eq_true hx]; rfl
  · rw [if_neg hx, decide_eq_false hx]; rfl
theorem cz_cnt {t : List UInt8} (h : t.length ≤ 8000) : ((cz t : Nat) : Int) = cnt (t.length : Int) := by
  have := cnt_rng t.length
  unfold cz; omega
theorem cs_0 (l : List (List UInt8)) : cs (l.take 0) = 0 := rfl
theorem tk_at (l : List (List UInt8)) {h i : Nat} (hi : i < h) : (l.take h).getD i [] = l.getD i [] := by
  rw [List.getD_eq_getElem?_getD, List.getElem?_take, if_pos hi, List.getD_eq_getElem?_getD]
theorem tk_at' (l : List (List UInt8)) {h i : Nat} (hi : i < h) : (List.drop 0 (List.take ((h : Int)).toNat l)).getD ((i : Int)).toNat [] = l.getD i [] := by
  rw [List.drop_zero, Int.toNat_natCast, Int.toNat_natCast, tk_at l hi]
theorem tk_len (l : List (List UInt8)) {h : Nat} (hh : h < l.length) : (List.drop 0 (List.take ((h : Int)).toNat l)).length = h := by
  rw [List.drop_zero, Int.toNat_natCast, List.length_take]; omega
theorem cut_eq (q : List (List UInt8)) (lo : Nat) : ([] ++ (List.drop 0 (List.take (lo : Int).toNat q)).map vs) ++ (List.drop ((lo : Int) + 1).toNat (List.take q.length q)).map vs = (q.take lo ++ q.drop (lo + 1)).map vs := by
  rw [List.nil_append, List.drop_zero, List.take_length, Int.toNat_natCast, show ((lo : Int) + 1).toNat = lo + 1 by omega, List.map_append]
theorem cut_len (q : List (List UInt8)) (lo : Nat) : 0 + (List.drop 0 (List.take (lo : Int).toNat q)).length + (List.drop ((lo : Int) + 1).toNat (List.take q.length q)).length = (q.take lo ++ q.drop (lo + 1)).length := by
  rw [List.drop_zero, List.take_length, Int.toNat_natCast, show ((lo : Int) + 1).toNat = lo + 1 by omega, List.length_append, Nat.zero_add]
end Jn
end
