/- JournalGoesOn: for every input the law returns true, and each argument reads behind the call as it read before; the listed tables are tied to the program's text. No further condition. -/
import Derived.Test.YtibbhobfdbfkkaaDoorCards
import Derived.Test.YtibbhobfdbfkkaaDoorTie
import Derived.Test.YtibbhobfdbfkkaaDoorFwB
import Derived.Test.YtibbhobfdbfkkaaDoorFwD
import Derived.Test.YtibbhobfdbfkkaaDoorFwG
import Derived.Test.YtibbhobfdbfkkaaDoorIj17
set_option linter.all false
namespace Go.Proofs.YtibbhobfdbfkkaaDoor
open Go.Fw Go.ChangeShapes Go.WideShapes Go.ChangeAt Go.RowKit
def kci : List Int := [1116352408, 1899447441, 3049323471, 3921009573, 961987163, 1508970993, 2453635748, 2870763221, 3624381080, 310598401, 607225278, 1426881987, 1925078388, 2162078206, 2614888103, 3248222580, 3835390401, 4022224774, 264347078, 604807628, 770255983, 1249150122, 1555081692, 1996064986, 2554220882, 2821834349, 2952996808, 3210313671, 3336571891, 3584528711, 113926993, 338241895, 666307205, 773529912, 1294757372, 1396182291, 1695183700, 1986661051, 2177026350, 2456956037, 2730485921, 2820302411, 3259730800, 3345764771, 3516065817, 3600352804, 4094571909, 275423344, 430227734, 506948616, 659060556, 883997877, 958139571, 1322822218, 1537002063, 1747873779, 1955562222, 2024104815, 2227730452, 2361852424, 2428436474, 2756734187, 3204031479, 3329325298]
theorem kci_vw : (kci.map fun z => Value.int .u32 z) = Sha.kc.map vw := by kernel_rfl
theorem cJournalGoesOn_own : ownKnob Tryd.prog.godebug = none := by kernel_rfl

set_option maxRecDepth 20000 in
theorem cJournalGoesOn_contract (H : Type) (enc : TypeId × Value → H) (W : World) (base : Nat) (args : Array Value) (ds gs : List (DataW H)) (before : List MemPlace)
    (hval : ∀ (j : Nat) t v, Tryd.f4.params[j]? = some t → args[j]? = some v → Value.okWide Tryd.prog W .any base t v)
    (hW : DataW.Whole enc Tryd.prog Tryd.f4.params.toList Rows.journalGoesOnSpec.vars false W args.toList ds gs before)
    (hz : (DataW.weightsEach Tryd.prog (Tryd.f4.params.toList ++ (OpenSpec.ofChange Rows.journalGoesOnSpec).bare.plain.varTypes Tryd.prog) (ds ++ gs)).all (· ≤ reachBytes) = true) (hL : laidMetH Tryd.prog Rows.journalGoesOnRow.laid W) :
    Calls Tryd.prog 4 args W fun e W' => ∃ v, e = .returned v ∧ Rows.journalGoesOnSpec.post enc Tryd.prog Tryd.f4 false true false false W args v W' := by
  have hW' := hW
  obtain ⟨p, q, hA0, hV, rfl, hfz, hnd⟩ := hW
  have hA : DataW.TrodAll enc Tryd.prog W 0 (fun _ => true) true Tryd.f4.params.toList args.toList ds p := hA0
  clear hA0
  rw [Tryd.params4] at hA hval
  obtain ⟨rfl, rfl⟩ := trodVars_none hV
  obtain ⟨v0, vs0, d0, ds0, p0, q0, hargs, rfl, rfl, h0, r0⟩ := trodAll_cons hA
  obtain ⟨v1, vs1, d1, ds1, p1, q1, rfl, rfl, rfl, h1, r1⟩ := trodAll_cons r0
  obtain ⟨v2, vs2, d2, ds2, p2, q2, rfl, rfl, rfl, h2, r2⟩ := trodAll_cons r1
  obtain ⟨rfl, rfl, rfl⟩ := trodAll_nil r2
  obtain rfl : args = #[v0, v1, v2] := by cases args; simp_all
  replace hz : (DataW.weightsEach Tryd.prog [3, 35, 36] [d0, d1, d2]).all (· ≤ reachBytes) = true := hz
  obtain ⟨hz0, hz⟩ := weightsEach_cons hz
  obtain ⟨hz1, hz⟩ := weightsEach_cons hz
  obtain ⟨hz2, hz⟩ := weightsEach_cons hz
  obtain ⟨x0, rfl, hl0⟩ := arg_i Tryd.underlying3 (hval 0 3 v0 rfl rfl) h0
  obtain ⟨x1, hs1⟩ := arg_sl (E := encSt) Tryd.underlying35 (by kernel_rfl) (by decide) (of_decide_eq_true (by kernel_rfl)) (rd_St Tryd.underlying46 ⟨rfl, rfl, rfl, rfl, rfl, rfl⟩ (by kernel_rfl) (by kernel_rfl) (by kernel_rfl) (by kernel_rfl) (by kernel_rfl) (by kernel_rfl) (by kernel_rfl) Tryd.underlying3 Tryd.underlying3 Tryd.underlying3 Tryd.underlying3 Tryd.underlying5 Tryd.underlying44 Tryd.underlying3 (by kernel_rfl) (of_decide_eq_true (by kernel_rfl))) (hval 1 35 v1 rfl rfl) h1 hz1
  obtain ⟨x2, hs2⟩ := arg_sl (E := encB) Tryd.underlying36 (by kernel_rfl) (by decide) (of_decide_eq_true (by kernel_rfl)) (rd_B Tryd.underlying5) (hval 2 36 v2 rfl rfl) h2 hz2
  obtain ⟨bt0, fz0, hg0⟩ := tab_block (P := Tryd.prog) (by kernel_rfl) (Lib.tabIs_of_head (name := "culprit/hash.constants") (k := .u32) (zs := kci) (g := 2) (by kernel_rfl) (by kernel_rfl) Tryd.underlying123 Tryd.underlying109 (by kernel_rfl) (by kernel_rfl) hL)
  have hc1 : W.heap[2]? = some (.cells (Sha.kc.map vw).toArray bt0 fz0) := by rw [← kci_vw]; exact hg0
  have hlaw := jlaw4_all x0 _ x1 _ x2 W hs1 hs2 hc1
  exact Calls.mono hlaw fun e W' ⟨v, zs, hs, he, hS, hr⟩ => ⟨v, he, by rw [hr]; exact law_post (by kernel_rfl) (by kernel_rfl) (tb := 4) (by kernel_rfl) Tryd.underlying4 rfl rfl hW' hS⟩

noncomputable def cJournalGoesOn_world (os : Os) : World :=
  { World.holding Tryd.prog os ⟨#[], #[], []⟩ with heap := (((World.holding Tryd.prog os ⟨#[], #[], []⟩).heap).modify 2 (fun o => match o with
      | .cells _ t frozen => .cells (kci.map fun z => Value.int .u32 z).toArray t frozen
      | o => o)) }

theorem cJournalGoesOn_laid_met (os : Os) : laidMet Tryd.prog Rows.journalGoesOnRow.laid ((cJournalGoesOn_world os).forCall (fun _ _ => 0) ⟨#[], #[.int .i64 0, .slice none 0 0, .slice none 0 0], []⟩).memory :=
  laidMet_of_run' 8 (by kernel_rfl) (by kernel_rfl)

theorem cJournalGoesOn_reads (os : Os) {H : Type} (enc : TypeId × Value → H) : ∃ places, DataW.whole enc Tryd.prog ((cJournalGoesOn_world os).forCall (fun _ _ => 0) ⟨#[], #[.int .i64 0, .slice none 0 0, .slice none 0 0], []⟩).memory Tryd.f4.params.toList Rows.journalGoesOnSpec.vars false (#[.int .i64 0, .slice none 0 0, .slice none 0 0] : Array Value).toList 8 = some ([.lit (.int .i64 0), .nil, .nil], [], places) :=
  ⟨[], by kernel_rfl⟩

set_option maxRecDepth 100000 in
theorem cJournalGoesOn_lifted (os : Os) (started : os.Started) (H : Type) (enc : TypeId × Value → H) (F : Stop.Interp) :
    ReturnsInHanded {} Tryd.checked os 4 .any ((OpenSpec.ofChange Rows.journalGoesOnSpec).preRow enc Tryd.prog Tryd.f4 Rows.journalGoesOnRow.domain false Rows.journalGoesOnRow.laid) (((OpenSpec.ofChange Rows.journalGoesOnSpec).at F).post enc Tryd.prog Tryd.f4 false true false false) := by
  obtain ⟨places, hx⟩ := cJournalGoesOn_reads os enc
  refine returnsInHanded_of_row (C := Tryd.checked) (s := OpenSpec.ofChange Rows.journalGoesOnSpec) cJournalGoesOn_own started (by kernel_rfl) Tryd.func4
    (witness_row_at (enc := enc) (C := Tryd.checked) false (cJournalGoesOn_world os) #[.int .i64 0, .slice none 0 0, .slice none 0 0] rfl (by kernel_rfl) (by kernel_rfl) (by kernel_rfl)
      (OpenSpec.preRow_of_cond 8 hx (by kernel_rfl) (fun k hk => by cases hk) (by kernel_rfl) (cJournalGoesOn_laid_met os))) ?_
  intro W base args ds gs before hval hW _ hcond hz hL _ _
  exact cJournalGoesOn_contract H enc W base args ds gs before hval hW hz hL

theorem cJournalGoesOn_said : Rows.JournalGoesOnSaid :=
  OpenClaim.holds_of_cond 4 Tryd.f4 rfl rfl rfl rfl rfl rfl rfl ⟨rfl, rfl, rfl, rfl, rfl⟩ rfl rfl rfl rfl rfl (by kernel_rfl) Tryd.func4 (by kernel_rfl)
    (of_decide_eq_true (by kernel_rfl)) (by unfold Func.isWrapper; first | (rw [if_pos (by decide +kernel)]; kernel_rfl) | (rw [if_neg (by decide +kernel)]; exact ⟨rfl, rfl⟩))
    (fun os started H enc _ F => by rw [OpenClaim.pre_eq_preRow]; exact cJournalGoesOn_lifted os started H enc F)

theorem cJournalGoesOn_plain (f : FuncId) (fn : Func) (hf : Tryd.pinned.checked.prog.funcNamed "culprit/culpritlaw40.JournalGoesOn" = some f) (hfn : Tryd.pinned.checked.prog.funcs[f]? = some fn) :
    false = Tryd.pinned.checked.prog.looks [] ∧ ∀ (j : Nat) t, fn.params[j]? = some t → Tryd.pinned.checked.prog.wantsStandIn t = false := by
  obtain rfl : f = 4 := Option.some.inj ((show Tryd.prog.funcNamed "culprit/culpritlaw40.JournalGoesOn" = some 4 by kernel_rfl).symm.trans hf) |>.symm
  obtain rfl : fn = Tryd.f4 := (Option.some.inj (Tryd.func4.symm.trans hfn)).symm
  refine ⟨by kernel_rfl, fun j t ht => ?_⟩
  rw [Tryd.params4] at ht
  have hm : t ∈ #[3, 35, 36] := Array.mem_of_getElem? ht
  have hall : (#[3, 35, 36] : Array TypeId).all (fun t => !Tryd.prog.wantsStandIn t) = true := by kernel_rfl
  have := Array.all_eq_true_iff_forall_mem.1 hall t hm
  have h2 : Tryd.prog.wantsStandIn t = false := by simpa using this
  exact h2

theorem journalGoesOn_holds : Rows.JournalGoesOnCardSaid :=
  Claim7.holds_tied_plain_at .later [] _ _ _ _ cJournalGoesOn_said (fun _ h => by cases h) (by kernel_rfl) (fun _ h => by cases h) journalGoesOn_row_tie rfl ⟨rfl, rfl⟩ (by kernel_rfl) rfl cJournalGoesOn_plain (by kernel_rfl)
end Go.Proofs.YtibbhobfdbfkkaaDoor
