/- JournalFindsRot: for every input the law returns true, and each argument reads behind the call as it read before; the listed tables are tied to the program's text. No further condition. -/
import Derived.Test.YtibbhobfdbfkkaaGreatDoorCards
import Derived.Test.YtibbhobfdbfkkaaGreatDoorTie
import Derived.Test.YtibbhobfdbfkkaaGreatDoorFwB
import Derived.Test.YtibbhobfdbfkkaaGreatDoorFwD
import Derived.Test.YtibbhobfdbfkkaaGreatDoorFwG
import Derived.Test.YtibbhobfdbfkkaaGreatDoorHx10
import Derived.Test.YtibbhobfdbfkkaaGreatDoorJj20
set_option linter.all false
namespace Go.Proofs.YtibbhobfdbfkkaaGreatDoor
open Go.Fw Go.ChangeShapes Go.WideShapes Go.ChangeAt Go.RowKit
def kci : List Int := [1116352408, 1899447441, 3049323471, 3921009573, 961987163, 1508970993, 2453635748, 2870763221, 3624381080, 310598401, 607225278, 1426881987, 1925078388, 2162078206, 2614888103, 3248222580, 3835390401, 4022224774, 264347078, 604807628, 770255983, 1249150122, 1555081692, 1996064986, 2554220882, 2821834349, 2952996808, 3210313671, 3336571891, 3584528711, 113926993, 338241895, 666307205, 773529912, 1294757372, 1396182291, 1695183700, 1986661051, 2177026350, 2456956037, 2730485921, 2820302411, 3259730800, 3345764771, 3516065817, 3600352804, 4094571909, 275423344, 430227734, 506948616, 659060556, 883997877, 958139571, 1322822218, 1537002063, 1747873779, 1955562222, 2024104815, 2227730452, 2361852424, 2428436474, 2756734187, 3204031479, 3329325298]
theorem kci_vw : (kci.map fun z => Value.int .u32 z) = Sha.kc.map vw := by kernel_rfl
theorem cJournalFindsRot_own : ownKnob Tryz.prog.godebug = none := by kernel_rfl

set_option maxRecDepth 20000 in
theorem cJournalFindsRot_contract (H : Type) (enc : TypeId × Value → H) (W : World) (base : Nat) (args : Array Value) (ds gs : List (DataW H)) (before : List MemPlace)
    (hval : ∀ (j : Nat) t v, Tryz.f4.params[j]? = some t → args[j]? = some v → Value.okWide Tryz.prog W .any base t v)
    (hW : DataW.Whole enc Tryz.prog Tryz.f4.params.toList Rows.journalFindsRotSpec.vars false W args.toList ds gs before)
    (hz : (DataW.weightsEach Tryz.prog (Tryz.f4.params.toList ++ (OpenSpec.ofChange Rows.journalFindsRotSpec).bare.plain.varTypes Tryz.prog) (ds ++ gs)).all (· ≤ reachBytes) = true) (hL : laidMetH Tryz.prog Rows.journalFindsRotRow.laid W) :
    Calls Tryz.prog 4 args W fun e W' => ∃ v, e = .returned v ∧ Rows.journalFindsRotSpec.post enc Tryz.prog Tryz.f4 false true false false W args v W' := by
  have hW' := hW
  obtain ⟨p, q, hA0, hV, rfl, hfz, hnd⟩ := hW
  have hA : DataW.TrodAll enc Tryz.prog W 0 (fun _ => true) true Tryz.f4.params.toList args.toList ds p := hA0
  clear hA0
  rw [Tryz.params4] at hA hval
  obtain ⟨rfl, rfl⟩ := trodVars_none hV
  obtain ⟨v0, vs0, d0, ds0, p0, q0, hargs, rfl, rfl, h0, r0⟩ := trodAll_cons hA
  obtain ⟨v1, vs1, d1, ds1, p1, q1, rfl, rfl, rfl, h1, r1⟩ := trodAll_cons r0
  obtain ⟨v2, vs2, d2, ds2, p2, q2, rfl, rfl, rfl, h2, r2⟩ := trodAll_cons r1
  obtain ⟨v3, vs3, d3, ds3, p3, q3, rfl, rfl, rfl, h3, r3⟩ := trodAll_cons r2
  obtain ⟨rfl, rfl, rfl⟩ := trodAll_nil r3
  obtain rfl : args = #[v0, v1, v2, v3] := by cases args; simp_all
  replace hz : (DataW.weightsEach Tryz.prog [3, 40, 5, 41] [d0, d1, d2, d3]).all (· ≤ reachBytes) = true := hz
  obtain ⟨hz0, hz⟩ := weightsEach_cons hz
  obtain ⟨hz1, hz⟩ := weightsEach_cons hz
  obtain ⟨hz2, hz⟩ := weightsEach_cons hz
  obtain ⟨hz3, hz⟩ := weightsEach_cons hz
  obtain ⟨x0, rfl, hl0⟩ := arg_i Tryz.underlying3 (hval 0 3 v0 rfl rfl) h0
  obtain ⟨x1, hs1⟩ := arg_sl (E := encSt) Tryz.underlying40 (by kernel_rfl) (by decide) (of_decide_eq_true (by kernel_rfl)) (rd_St Tryz.underlying56 ⟨rfl, rfl, rfl, rfl, rfl, rfl⟩ (by kernel_rfl) (by kernel_rfl) (by kernel_rfl) (by kernel_rfl) (by kernel_rfl) (by kernel_rfl) (by kernel_rfl) Tryz.underlying3 Tryz.underlying3 Tryz.underlying3 Tryz.underlying3 Tryz.underlying5 Tryz.underlying51 Tryz.underlying3 (by kernel_rfl) (of_decide_eq_true (by kernel_rfl))) (hval 1 40 v1 rfl rfl) h1 hz1
  obtain ⟨x2, rfl⟩ := arg_b Tryz.underlying5 (hval 2 5 v2 rfl rfl) h2
  obtain ⟨x3, hs3⟩ := arg_sl (E := Go.Fw.encH) Tryz.underlying41 (by kernel_rfl) (by decide) (of_decide_eq_true (by kernel_rfl)) (rd_H Tryz.underlying46) (hval 3 41 v3 rfl rfl) h3 hz3
  obtain ⟨bt0, fz0, hg0⟩ := tab_block (P := Tryz.prog) (by kernel_rfl) (Lib.tabIs_of_head (name := "culprit/culpritref02.constants") (k := .u32) (zs := kci) (g := 0) (by kernel_rfl) (by kernel_rfl) Tryz.underlying161 Tryz.underlying137 (by kernel_rfl) (by kernel_rfl) hL)
  have hc0 : W.heap[0]? = some (.cells (Sha.kc.map vw).toArray bt0 fz0) := by rw [← kci_vw]; exact hg0
  obtain ⟨bt1, fz1, hg1⟩ := tab_block (P := Tryz.prog) (by kernel_rfl) (Lib.tabIs_of_head (name := "culprit/hash.constants") (k := .u32) (zs := kci) (g := 2) (by kernel_rfl) (by kernel_rfl) Tryz.underlying161 Tryz.underlying137 (by kernel_rfl) (by kernel_rfl) (laidMet.tail hL))
  have hc1 : W.heap[2]? = some (.cells (Sha.kc.map vw).toArray bt1 fz1) := by rw [← kci_vw]; exact hg1
  have hlaw := jlaw6_all Hx.noCol Hx.noZero x0 _ x1 x2 _ x3 W hs1 hs3 hc0 hc1
  exact Calls.mono hlaw fun e W' ⟨v, zs, hs, he, hS, hr⟩ => ⟨v, he, by rw [hr]; exact law_post (by kernel_rfl) (by kernel_rfl) (tb := 4) (by kernel_rfl) Tryz.underlying4 rfl rfl hW' hS⟩

noncomputable def cJournalFindsRot_world (os : Os) : World :=
  { World.holding Tryz.prog os ⟨#[], #[], []⟩ with heap := (((((World.holding Tryz.prog os ⟨#[], #[], []⟩).heap).modify 0 (fun o => match o with
      | .cells _ t frozen => .cells (kci.map fun z => Value.int .u32 z).toArray t frozen
      | o => o))).modify 2 (fun o => match o with
      | .cells _ t frozen => .cells (kci.map fun z => Value.int .u32 z).toArray t frozen
      | o => o)) }

theorem cJournalFindsRot_laid_met (os : Os) : laidMet Tryz.prog Rows.journalFindsRotRow.laid ((cJournalFindsRot_world os).forCall (fun _ _ => 0) ⟨#[], #[.int .i64 0, .slice none 0 0, .int .u8 0, .slice none 0 0], []⟩).memory :=
  laidMet_of_run' 8 (by kernel_rfl) (by kernel_rfl)

theorem cJournalFindsRot_reads (os : Os) {H : Type} (enc : TypeId × Value → H) : ∃ places, DataW.whole enc Tryz.prog ((cJournalFindsRot_world os).forCall (fun _ _ => 0) ⟨#[], #[.int .i64 0, .slice none 0 0, .int .u8 0, .slice none 0 0], []⟩).memory Tryz.f4.params.toList Rows.journalFindsRotSpec.vars false (#[.int .i64 0, .slice none 0 0, .int .u8 0, .slice none 0 0] : Array Value).toList 8 = some ([.lit (.int .i64 0), .nil, .lit (.int .u8 0), .nil], [], places) :=
  ⟨[], by kernel_rfl⟩

set_option maxRecDepth 100000 in
theorem cJournalFindsRot_lifted (os : Os) (started : os.Started) (H : Type) (enc : TypeId × Value → H) (F : Stop.Interp) :
    ReturnsInHanded {} Tryz.checked os 4 .any ((OpenSpec.ofChange Rows.journalFindsRotSpec).preRow enc Tryz.prog Tryz.f4 Rows.journalFindsRotRow.domain false Rows.journalFindsRotRow.laid) (((OpenSpec.ofChange Rows.journalFindsRotSpec).at F).post enc Tryz.prog Tryz.f4 false true false false) := by
  obtain ⟨places, hx⟩ := cJournalFindsRot_reads os enc
  refine returnsInHanded_of_row (C := Tryz.checked) (s := OpenSpec.ofChange Rows.journalFindsRotSpec) cJournalFindsRot_own started (by kernel_rfl) Tryz.func4
    (witness_row_at (enc := enc) (C := Tryz.checked) false (cJournalFindsRot_world os) #[.int .i64 0, .slice none 0 0, .int .u8 0, .slice none 0 0] rfl (by kernel_rfl) (by kernel_rfl) (by kernel_rfl)
      (OpenSpec.preRow_of_cond 8 hx (by kernel_rfl) (fun k hk => by cases hk) (by kernel_rfl) (cJournalFindsRot_laid_met os))) ?_
  intro W base args ds gs before hval hW _ hcond hz hL _ _
  exact cJournalFindsRot_contract H enc W base args ds gs before hval hW hz hL

theorem cJournalFindsRot_said : Rows.JournalFindsRotSaid :=
  OpenClaim.holds_of_cond 4 Tryz.f4 rfl rfl rfl rfl rfl rfl rfl ⟨rfl, rfl, rfl, rfl, rfl⟩ rfl rfl rfl rfl rfl (by kernel_rfl) Tryz.func4 (by kernel_rfl)
    (of_decide_eq_true (by kernel_rfl)) (by unfold Func.isWrapper; first | (rw [if_pos (by decide +kernel)]; kernel_rfl) | (rw [if_neg (by decide +kernel)]; exact ⟨rfl, rfl⟩))
    (fun os started H enc _ F => by rw [OpenClaim.pre_eq_preRow]; exact cJournalFindsRot_lifted os started H enc F)

theorem cJournalFindsRot_plain (f : FuncId) (fn : Func) (hf : Tryz.pinned.checked.prog.funcNamed "culprit/culpritlaw40.JournalFindsRot" = some f) (hfn : Tryz.pinned.checked.prog.funcs[f]? = some fn) :
    false = Tryz.pinned.checked.prog.looks [] ∧ ∀ (j : Nat) t, fn.params[j]? = some t → Tryz.pinned.checked.prog.wantsStandIn t = false := by
  obtain rfl : f = 4 := Option.some.inj ((show Tryz.prog.funcNamed "culprit/culpritlaw40.JournalFindsRot" = some 4 by kernel_rfl).symm.trans hf) |>.symm
  obtain rfl : fn = Tryz.f4 := (Option.some.inj (Tryz.func4.symm.trans hfn)).symm
  refine ⟨by kernel_rfl, fun j t ht => ?_⟩
  rw [Tryz.params4] at ht
  have hm : t ∈ #[3, 40, 5, 41] := Array.mem_of_getElem? ht
  have hall : (#[3, 40, 5, 41] : Array TypeId).all (fun t => !Tryz.prog.wantsStandIn t) = true := by kernel_rfl
  have := Array.all_eq_true_iff_forall_mem.1 hall t hm
  have h2 : Tryz.prog.wantsStandIn t = false := by simpa using this
  exact h2

theorem journalFindsRot_holds : Rows.JournalFindsRotCardSaid :=
  Claim7.holds_tied_plain_at .later [] _ _ _ _ cJournalFindsRot_said (fun _ h => by cases h) (by kernel_rfl) (fun _ h => by cases h) journalFindsRot_row_tie rfl ⟨rfl, rfl⟩ (by kernel_rfl) rfl cJournalFindsRot_plain (by kernel_rfl)
end Go.Proofs.YtibbhobfdbfkkaaGreatDoor
