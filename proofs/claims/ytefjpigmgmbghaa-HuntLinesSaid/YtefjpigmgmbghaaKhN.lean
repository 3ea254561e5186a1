/- HuntLines: for every input the law returns true, and each argument reads behind the call as it read before. No further condition. -/
import Derived.Test.YtefjpigmgmbghaaRows
import Derived.Test.YtefjpigmgmbghaaFwB
import Derived.Test.YtefjpigmgmbghaaFwC
import Derived.Test.YtefjpigmgmbghaaHu18
set_option linter.all false
namespace Go.Proofs.Ytefjpigmgmbghaa
open Go.Fw Go.ChangeShapes Go.WideShapes Go.ChangeAt Go.RowKit
theorem cHuntLines_own : ownKnob Try.prog.godebug = none := by kernel_rfl

set_option maxRecDepth 20000 in
theorem cHuntLines_contract (H : Type) (enc : TypeId × Value → H) (W : World) (base : Nat) (args : Array Value) (ds gs : List (DataW H)) (before : List MemPlace)
    (hval : ∀ (j : Nat) t v, Try.f6.params[j]? = some t → args[j]? = some v → Value.okWide Try.prog W .any base t v)
    (hW : DataW.Whole enc Try.prog Try.f6.params.toList Rows.huntLinesSpec.vars false W args.toList ds gs before)
    (hz : (DataW.weightsEach Try.prog (Try.f6.params.toList ++ (OpenSpec.ofChange Rows.huntLinesSpec).bare.plain.varTypes Try.prog) (ds ++ gs)).all (· ≤ reachBytes) = true) :
    Calls Try.prog 6 args W fun e W' => ∃ v, e = .returned v ∧ Rows.huntLinesSpec.post enc Try.prog Try.f6 false true false false W args v W' := by
  have hW' := hW
  obtain ⟨p, q, hA0, hV, rfl, hfz, hnd⟩ := hW
  have hA : DataW.TrodAll enc Try.prog W 0 (fun _ => true) true Try.f6.params.toList args.toList ds p := hA0
  clear hA0
  rw [Try.params6] at hA hval
  obtain ⟨rfl, rfl⟩ := trodVars_none hV
  obtain ⟨v0, vs0, d0, ds0, p0, q0, hargs, rfl, rfl, h0, r0⟩ := trodAll_cons hA
  obtain ⟨v1, vs1, d1, ds1, p1, q1, rfl, rfl, rfl, h1, r1⟩ := trodAll_cons r0
  obtain ⟨v2, vs2, d2, ds2, p2, q2, rfl, rfl, rfl, h2, r2⟩ := trodAll_cons r1
  obtain ⟨v3, vs3, d3, ds3, p3, q3, rfl, rfl, rfl, h3, r3⟩ := trodAll_cons r2
  obtain ⟨v4, vs4, d4, ds4, p4, q4, rfl, rfl, rfl, h4, r4⟩ := trodAll_cons r3
  obtain ⟨v5, vs5, d5, ds5, p5, q5, rfl, rfl, rfl, h5, r5⟩ := trodAll_cons r4
  obtain ⟨v6, vs6, d6, ds6, p6, q6, rfl, rfl, rfl, h6, r6⟩ := trodAll_cons r5
  obtain ⟨rfl, rfl, rfl⟩ := trodAll_nil r6
  obtain rfl : args = #[v0, v1, v2, v3, v4, v5, v6] := by cases args; simp_all
  replace hz : (DataW.weightsEach Try.prog [22, 22, 22, 22, 3, 3, 22] [d0, d1, d2, d3, d4, d5, d6]).all (· ≤ reachBytes) = true := hz
  obtain ⟨hz0, hz⟩ := weightsEach_cons hz
  obtain ⟨hz1, hz⟩ := weightsEach_cons hz
  obtain ⟨hz2, hz⟩ := weightsEach_cons hz
  obtain ⟨hz3, hz⟩ := weightsEach_cons hz
  obtain ⟨hz4, hz⟩ := weightsEach_cons hz
  obtain ⟨hz5, hz⟩ := weightsEach_cons hz
  obtain ⟨hz6, hz⟩ := weightsEach_cons hz
  obtain ⟨x0, hs0⟩ := arg_sl (E := encI) Try.underlying22 (by kernel_rfl) (by decide) (of_decide_eq_true (by kernel_rfl)) (rd_I Try.underlying3) (hval 0 22 v0 rfl rfl) h0 hz0
  obtain ⟨x1, hs1⟩ := arg_sl (E := encI) Try.underlying22 (by kernel_rfl) (by decide) (of_decide_eq_true (by kernel_rfl)) (rd_I Try.underlying3) (hval 1 22 v1 rfl rfl) h1 hz1
  obtain ⟨x2, hs2⟩ := arg_sl (E := encI) Try.underlying22 (by kernel_rfl) (by decide) (of_decide_eq_true (by kernel_rfl)) (rd_I Try.underlying3) (hval 2 22 v2 rfl rfl) h2 hz2
  obtain ⟨x3, hs3⟩ := arg_sl (E := encI) Try.underlying22 (by kernel_rfl) (by decide) (of_decide_eq_true (by kernel_rfl)) (rd_I Try.underlying3) (hval 3 22 v3 rfl rfl) h3 hz3
  obtain ⟨x4, rfl, hl4⟩ := arg_i Try.underlying3 (hval 4 3 v4 rfl rfl) h4
  obtain ⟨x5, rfl, hl5⟩ := arg_i Try.underlying3 (hval 5 3 v5 rfl rfl) h5
  obtain ⟨x6, hs6⟩ := arg_sl (E := encI) Try.underlying22 (by kernel_rfl) (by decide) (of_decide_eq_true (by kernel_rfl)) (rd_I Try.underlying3) (hval 6 22 v6 rfl rfl) h6 hz6
  have hlaw := law34_ct v0 x0 v1 x1 v2 x2 v3 x3 x4 hl4 x5 hl5 v6 x6 W hs0 hs1 hs2 hs3 hs6
  exact Calls.mono hlaw fun e W' ⟨v, zs, hs, he, hS, hr⟩ => ⟨v, he, by rw [hr]; exact law_post (by kernel_rfl) (by kernel_rfl) (tb := 4) (by kernel_rfl) Try.underlying4 rfl rfl hW' hS⟩

noncomputable def cHuntLines_world (os : Os) : World := World.holding Try.prog os ⟨#[], #[], []⟩

theorem cHuntLines_laid_met (os : Os) : laidMet Try.prog Rows.huntLinesRow.laid ((cHuntLines_world os).forCall (fun _ _ => 0) ⟨#[], #[.slice none 0 0, .slice none 0 0, .slice none 0 0, .slice none 0 0, .int .i64 0, .int .i64 0, .slice none 0 0], []⟩).memory :=
  laidMet_of_run' 8 (by kernel_rfl) (by kernel_rfl)

theorem cHuntLines_reads (os : Os) {H : Type} (enc : TypeId × Value → H) : ∃ places, DataW.whole enc Try.prog ((cHuntLines_world os).forCall (fun _ _ => 0) ⟨#[], #[.slice none 0 0, .slice none 0 0, .slice none 0 0, .slice none 0 0, .int .i64 0, .int .i64 0, .slice none 0 0], []⟩).memory Try.f6.params.toList Rows.huntLinesSpec.vars false (#[.slice none 0 0, .slice none 0 0, .slice none 0 0, .slice none 0 0, .int .i64 0, .int .i64 0, .slice none 0 0] : Array Value).toList 8 = some ([.nil, .nil, .nil, .nil, .lit (.int .i64 0), .lit (.int .i64 0), .nil], [], places) :=
  ⟨[], by kernel_rfl⟩

set_option maxRecDepth 100000 in
theorem cHuntLines_lifted (os : Os) (started : os.Started) (H : Type) (enc : TypeId × Value → H) (F : Stop.Interp) :
    ReturnsInHanded {} Try.checked os 6 .any ((OpenSpec.ofChange Rows.huntLinesSpec).preRow enc Try.prog Try.f6 Rows.huntLinesRow.domain false Rows.huntLinesRow.laid) (((OpenSpec.ofChange Rows.huntLinesSpec).at F).post enc Try.prog Try.f6 false true false false) := by
  obtain ⟨places, hx⟩ := cHuntLines_reads os enc
  refine returnsInHanded_of_row (C := Try.checked) (s := OpenSpec.ofChange Rows.huntLinesSpec) cHuntLines_own started (by kernel_rfl) Try.func6
    (witness_row_at (enc := enc) (C := Try.checked) false (cHuntLines_world os) #[.slice none 0 0, .slice none 0 0, .slice none 0 0, .slice none 0 0, .int .i64 0, .int .i64 0, .slice none 0 0] rfl (by kernel_rfl) (by kernel_rfl) (by kernel_rfl)
      (OpenSpec.preRow_of_cond 8 hx (by kernel_rfl) (fun k hk => by cases hk) (by kernel_rfl) (cHuntLines_laid_met os))) ?_
  intro W base args ds gs before hval hW _ hcond hz hL _ _
  exact cHuntLines_contract H enc W base args ds gs before hval hW hz

theorem cHuntLines_said : Rows.HuntLinesSaid :=
  OpenClaim.holds_of_cond 6 Try.f6 rfl rfl rfl rfl rfl rfl rfl ⟨rfl, rfl, rfl, rfl, rfl⟩ rfl rfl rfl rfl rfl (by kernel_rfl) Try.func6 (by kernel_rfl)
    (of_decide_eq_true (by kernel_rfl)) (by unfold Func.isWrapper; first | (rw [if_pos (by decide +kernel)]; kernel_rfl) | (rw [if_neg (by decide +kernel)]; exact ⟨rfl, rfl⟩))
    (fun os started H enc _ F => by rw [OpenClaim.pre_eq_preRow]; exact cHuntLines_lifted os started H enc F)

theorem huntLines_holds : Rows.HuntLinesSaid := cHuntLines_said
end Go.Proofs.Ytefjpigmgmbghaa
