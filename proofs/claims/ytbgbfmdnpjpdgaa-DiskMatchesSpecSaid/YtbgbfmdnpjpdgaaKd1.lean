/- DiskMatchesSpec: for every input the law returns true, and each argument reads behind the call as it read before. No further condition. -/
import Derived.Test.YtbgbfmdnpjpdgaaRows
import Derived.Test.YtbgbfmdnpjpdgaaFwB
import Derived.Test.YtbgbfmdnpjpdgaaDd12
set_option linter.all false
namespace Go.Proofs.Ytbgbfmdnpjpdgaa
open Go.Fw Go.ChangeShapes Go.WideShapes Go.ChangeAt Go.RowKit
theorem cDiskMatchesSpec_own : ownKnob Try.prog.godebug = none := by kernel_rfl

set_option maxRecDepth 20000 in
theorem cDiskMatchesSpec_contract (H : Type) (enc : TypeId × Value → H) (W : World) (base : Nat) (args : Array Value) (ds gs : List (DataW H)) (before : List MemPlace)
    (hval : ∀ (j : Nat) t v, Try.f3.params[j]? = some t → args[j]? = some v → Value.okWide Try.prog W .any base t v)
    (hW : DataW.Whole enc Try.prog Try.f3.params.toList Rows.diskMatchesSpecSpec.vars false W args.toList ds gs before)
    (hz : (DataW.weightsEach Try.prog (Try.f3.params.toList ++ (OpenSpec.ofChange Rows.diskMatchesSpecSpec).bare.plain.varTypes Try.prog) (ds ++ gs)).all (· ≤ reachBytes) = true) :
    Calls Try.prog 3 args W fun e W' => ∃ v, e = .returned v ∧ Rows.diskMatchesSpecSpec.post enc Try.prog Try.f3 false true false false W args v W' := by
  have hW' := hW
  obtain ⟨p, q, hA0, hV, rfl, hfz, hnd⟩ := hW
  have hA : DataW.TrodAll enc Try.prog W 0 (fun _ => true) true Try.f3.params.toList args.toList ds p := hA0
  clear hA0
  rw [Try.params3] at hA hval
  obtain ⟨rfl, rfl⟩ := trodVars_none hV
  obtain ⟨v0, vs0, d0, ds0, p0, q0, hargs, rfl, rfl, h0, r0⟩ := trodAll_cons hA
  obtain ⟨v1, vs1, d1, ds1, p1, q1, rfl, rfl, rfl, h1, r1⟩ := trodAll_cons r0
  obtain ⟨rfl, rfl, rfl⟩ := trodAll_nil r1
  obtain rfl : args = #[v0, v1] := by cases args; simp_all
  replace hz : (DataW.weightsEach Try.prog [3, 22] [d0, d1]).all (· ≤ reachBytes) = true := hz
  obtain ⟨hz0, hz⟩ := weightsEach_cons hz
  obtain ⟨hz1, hz⟩ := weightsEach_cons hz
  obtain ⟨x0, rfl, hl0⟩ := arg_i Try.underlying3 (hval 0 3 v0 rfl rfl) h0
  obtain ⟨x1, hs1⟩ := arg_sl (E := encO) Try.underlying22 (by kernel_rfl) (by decide) (of_decide_eq_true (by kernel_rfl)) (rd_O Try.underlying33 ⟨rfl, rfl, rfl, rfl, rfl⟩ (by kernel_rfl) (by kernel_rfl) (by kernel_rfl) (by kernel_rfl) (by kernel_rfl) (by kernel_rfl) Try.underlying3 Try.underlying3 Try.underlying3 Try.underlying9 Try.underlying31 Try.underlying3 (by kernel_rfl) (of_decide_eq_true (by kernel_rfl))) (hval 1 22 v1 rfl rfl) h1 hz1
  have hlaw := dlaw1_all x0 v1 x1 W hs1
  exact Calls.mono hlaw fun e W' ⟨v, zs, hs, he, hS, hr⟩ => ⟨v, he, by rw [hr]; exact law_post (by kernel_rfl) (by kernel_rfl) (tb := 4) (by kernel_rfl) Try.underlying4 rfl rfl hW' hS⟩

noncomputable def cDiskMatchesSpec_world (os : Os) : World := World.holding Try.prog os ⟨#[], #[], []⟩

theorem cDiskMatchesSpec_laid_met (os : Os) : laidMet Try.prog Rows.diskMatchesSpecRow.laid ((cDiskMatchesSpec_world os).forCall (fun _ _ => 0) ⟨#[], #[.int .i64 0, .slice none 0 0], []⟩).memory :=
  laidMet_of_run' 8 (by kernel_rfl) (by kernel_rfl)

theorem cDiskMatchesSpec_reads (os : Os) {H : Type} (enc : TypeId × Value → H) : ∃ places, DataW.whole enc Try.prog ((cDiskMatchesSpec_world os).forCall (fun _ _ => 0) ⟨#[], #[.int .i64 0, .slice none 0 0], []⟩).memory Try.f3.params.toList Rows.diskMatchesSpecSpec.vars false (#[.int .i64 0, .slice none 0 0] : Array Value).toList 8 = some ([.lit (.int .i64 0), .nil], [], places) :=
  ⟨[], by kernel_rfl⟩

set_option maxRecDepth 100000 in
theorem cDiskMatchesSpec_lifted (os : Os) (started : os.Started) (H : Type) (enc : TypeId × Value → H) (F : Stop.Interp) :
    ReturnsInHanded {} Try.checked os 3 .any ((OpenSpec.ofChange Rows.diskMatchesSpecSpec).preRow enc Try.prog Try.f3 Rows.diskMatchesSpecRow.domain false Rows.diskMatchesSpecRow.laid) (((OpenSpec.ofChange Rows.diskMatchesSpecSpec).at F).post enc Try.prog Try.f3 false true false false) := by
  obtain ⟨places, hx⟩ := cDiskMatchesSpec_reads os enc
  refine returnsInHanded_of_row (C := Try.checked) (s := OpenSpec.ofChange Rows.diskMatchesSpecSpec) cDiskMatchesSpec_own started (by kernel_rfl) Try.func3
    (witness_row_at (enc := enc) (C := Try.checked) false (cDiskMatchesSpec_world os) #[.int .i64 0, .slice none 0 0] rfl (by kernel_rfl) (by kernel_rfl) (by kernel_rfl)
      (OpenSpec.preRow_of_cond 8 hx (by kernel_rfl) (fun k hk => by cases hk) (by kernel_rfl) (cDiskMatchesSpec_laid_met os))) ?_
  intro W base args ds gs before hval hW _ hcond hz hL _ _
  exact cDiskMatchesSpec_contract H enc W base args ds gs before hval hW hz

theorem cDiskMatchesSpec_said : Rows.DiskMatchesSpecSaid :=
  OpenClaim.holds_of_cond 3 Try.f3 rfl rfl rfl rfl rfl rfl rfl ⟨rfl, rfl, rfl, rfl, rfl⟩ rfl rfl rfl rfl rfl (by kernel_rfl) Try.func3 (by kernel_rfl)
    (of_decide_eq_true (by kernel_rfl)) (by unfold Func.isWrapper; first | (rw [if_pos (by decide +kernel)]; kernel_rfl) | (rw [if_neg (by decide +kernel)]; exact ⟨rfl, rfl⟩))
    (fun os started H enc _ F => by rw [OpenClaim.pre_eq_preRow]; exact cDiskMatchesSpec_lifted os started H enc F)

theorem diskMatchesSpec_holds : Rows.DiskMatchesSpecSaid := cDiskMatchesSpec_said
end Go.Proofs.Ytbgbfmdnpjpdgaa
