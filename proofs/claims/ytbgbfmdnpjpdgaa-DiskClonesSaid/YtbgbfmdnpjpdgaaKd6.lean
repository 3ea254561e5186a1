/- DiskClones: for every input the law returns true, and each argument reads behind the call as it read before. No further condition. -/
import Derived.Test.YtbgbfmdnpjpdgaaRows
import Derived.Test.YtbgbfmdnpjpdgaaFwB
import Derived.Test.YtbgbfmdnpjpdgaaDd16
set_option linter.all false
namespace Go.Proofs.Ytbgbfmdnpjpdgaa
open Go.Fw Go.ChangeShapes Go.WideShapes Go.ChangeAt Go.RowKit
theorem cDiskClones_own : ownKnob Try.prog.godebug = none := by kernel_rfl

set_option maxRecDepth 20000 in
theorem cDiskClones_contract (H : Type) (enc : TypeId × Value → H) (W : World) (base : Nat) (args : Array Value) (ds gs : List (DataW H)) (before : List MemPlace)
    (hval : ∀ (j : Nat) t v, Try.f8.params[j]? = some t → args[j]? = some v → Value.okWide Try.prog W .any base t v)
    (hW : DataW.Whole enc Try.prog Try.f8.params.toList Rows.diskClonesSpec.vars false W args.toList ds gs before)
    (hz : (DataW.weightsEach Try.prog (Try.f8.params.toList ++ (OpenSpec.ofChange Rows.diskClonesSpec).bare.plain.varTypes Try.prog) (ds ++ gs)).all (· ≤ reachBytes) = true) :
    Calls Try.prog 8 args W fun e W' => ∃ v, e = .returned v ∧ Rows.diskClonesSpec.post enc Try.prog Try.f8 false true false false W args v W' := by
  have hW' := hW
  obtain ⟨p, q, hA0, hV, rfl, hfz, hnd⟩ := hW
  have hA : DataW.TrodAll enc Try.prog W 0 (fun _ => true) true Try.f8.params.toList args.toList ds p := hA0
  clear hA0
  rw [Try.params8] at hA hval
  obtain ⟨rfl, rfl⟩ := trodVars_none hV
  obtain ⟨v0, vs0, d0, ds0, p0, q0, hargs, rfl, rfl, h0, r0⟩ := trodAll_cons hA
  obtain ⟨v1, vs1, d1, ds1, p1, q1, rfl, rfl, rfl, h1, r1⟩ := trodAll_cons r0
  obtain ⟨v2, vs2, d2, ds2, p2, q2, rfl, rfl, rfl, h2, r2⟩ := trodAll_cons r1
  obtain ⟨v3, vs3, d3, ds3, p3, q3, rfl, rfl, rfl, h3, r3⟩ := trodAll_cons r2
  obtain ⟨rfl, rfl, rfl⟩ := trodAll_nil r3
  obtain rfl : args = #[v0, v1, v2, v3] := by cases args; simp_all
  replace hz : (DataW.weightsEach Try.prog [3, 22, 22, 22] [d0, d1, d2, d3]).all (· ≤ reachBytes) = true := hz
  obtain ⟨hz0, hz⟩ := weightsEach_cons hz
  obtain ⟨hz1, hz⟩ := weightsEach_cons hz
  obtain ⟨hz2, hz⟩ := weightsEach_cons hz
  obtain ⟨hz3, hz⟩ := weightsEach_cons hz
  obtain ⟨x0, rfl, hl0⟩ := arg_i Try.underlying3 (hval 0 3 v0 rfl rfl) h0
  obtain ⟨x1, hs1⟩ := arg_sl (E := encO) Try.underlying22 (by kernel_rfl) (by decide) (of_decide_eq_true (by kernel_rfl)) (rd_O Try.underlying33 ⟨rfl, rfl, rfl, rfl, rfl⟩ (by kernel_rfl) (by kernel_rfl) (by kernel_rfl) (by kernel_rfl) (by kernel_rfl) (by kernel_rfl) Try.underlying3 Try.underlying3 Try.underlying3 Try.underlying9 Try.underlying31 Try.underlying3 (by kernel_rfl) (of_decide_eq_true (by kernel_rfl))) (hval 1 22 v1 rfl rfl) h1 hz1
  obtain ⟨x2, hs2⟩ := arg_sl (E := encO) Try.underlying22 (by kernel_rfl) (by decide) (of_decide_eq_true (by kernel_rfl)) (rd_O Try.underlying33 ⟨rfl, rfl, rfl, rfl, rfl⟩ (by kernel_rfl) (by kernel_rfl) (by kernel_rfl) (by kernel_rfl) (by kernel_rfl) (by kernel_rfl) Try.underlying3 Try.underlying3 Try.underlying3 Try.underlying9 Try.underlying31 Try.underlying3 (by kernel_rfl) (of_decide_eq_true (by kernel_rfl))) (hval 2 22 v2 rfl rfl) h2 hz2
  obtain ⟨x3, hs3⟩ := arg_sl (E := encO) Try.underlying22 (by kernel_rfl) (by decide) (of_decide_eq_true (by kernel_rfl)) (rd_O Try.underlying33 ⟨rfl, rfl, rfl, rfl, rfl⟩ (by kernel_rfl) (by kernel_rfl) (by kernel_rfl) (by kernel_rfl) (by kernel_rfl) (by kernel_rfl) Try.underlying3 Try.underlying3 Try.underlying3 Try.underlying9 Try.underlying31 Try.underlying3 (by kernel_rfl) (of_decide_eq_true (by kernel_rfl))) (hval 3 22 v3 rfl rfl) h3 hz3
  have hlaw := dlaw6_all x0 v1 x1 v2 x2 v3 x3 W hs1 hs2 hs3
  exact Calls.mono hlaw fun e W' ⟨v, zs, hs, he, hS, hr⟩ => ⟨v, he, by rw [hr]; exact law_post (by kernel_rfl) (by kernel_rfl) (tb := 4) (by kernel_rfl) Try.underlying4 rfl rfl hW' hS⟩

noncomputable def cDiskClones_world (os : Os) : World := World.holding Try.prog os ⟨#[], #[], []⟩

theorem cDiskClones_laid_met (os : Os) : laidMet Try.prog Rows.diskClonesRow.laid ((cDiskClones_world os).forCall (fun _ _ => 0) ⟨#[], #[.int .i64 0, .slice none 0 0, .slice none 0 0, .slice none 0 0], []⟩).memory :=
  laidMet_of_run' 8 (by kernel_rfl) (by kernel_rfl)

theorem cDiskClones_reads (os : Os) {H : Type} (enc : TypeId × Value → H) : ∃ places, DataW.whole enc Try.prog ((cDiskClones_world os).forCall (fun _ _ => 0) ⟨#[], #[.int .i64 0, .slice none 0 0, .slice none 0 0, .slice none 0 0], []⟩).memory Try.f8.params.toList Rows.diskClonesSpec.vars false (#[.int .i64 0, .slice none 0 0, .slice none 0 0, .slice none 0 0] : Array Value).toList 8 = some ([.lit (.int .i64 0), .nil, .nil, .nil], [], places) :=
  ⟨[], by kernel_rfl⟩

set_option maxRecDepth 100000 in
theorem cDiskClones_lifted (os : Os) (started : os.Started) (H : Type) (enc : TypeId × Value → H) (F : Stop.Interp) :
    ReturnsInHanded {} Try.checked os 8 .any ((OpenSpec.ofChange Rows.diskClonesSpec).preRow enc Try.prog Try.f8 Rows.diskClonesRow.domain false Rows.diskClonesRow.laid) (((OpenSpec.ofChange Rows.diskClonesSpec).at F).post enc Try.prog Try.f8 false true false false) := by
  obtain ⟨places, hx⟩ := cDiskClones_reads os enc
  refine returnsInHanded_of_row (C := Try.checked) (s := OpenSpec.ofChange Rows.diskClonesSpec) cDiskClones_own started (by kernel_rfl) Try.func8
    (witness_row_at (enc := enc) (C := Try.checked) false (cDiskClones_world os) #[.int .i64 0, .slice none 0 0, .slice none 0 0, .slice none 0 0] rfl (by kernel_rfl) (by kernel_rfl) (by kernel_rfl)
      (OpenSpec.preRow_of_cond 8 hx (by kernel_rfl) (fun k hk => by cases hk) (by kernel_rfl) (cDiskClones_laid_met os))) ?_
  intro W base args ds gs before hval hW _ hcond hz hL _ _
  exact cDiskClones_contract H enc W base args ds gs before hval hW hz

theorem cDiskClones_said : Rows.DiskClonesSaid :=
  OpenClaim.holds_of_cond 8 Try.f8 rfl rfl rfl rfl rfl rfl rfl ⟨rfl, rfl, rfl, rfl, rfl⟩ rfl rfl rfl rfl rfl (by kernel_rfl) Try.func8 (by kernel_rfl)
    (of_decide_eq_true (by kernel_rfl)) (by unfold Func.isWrapper; first | (rw [if_pos (by decide +kernel)]; kernel_rfl) | (rw [if_neg (by decide +kernel)]; exact ⟨rfl, rfl⟩))
    (fun os started H enc _ F => by rw [OpenClaim.pre_eq_preRow]; exact cDiskClones_lifted os started H enc F)

theorem diskClones_holds : Rows.DiskClonesSaid := cDiskClones_said
end Go.Proofs.Ytbgbfmdnpjpdgaa
