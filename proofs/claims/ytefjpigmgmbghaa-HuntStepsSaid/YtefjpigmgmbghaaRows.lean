/-
  No cell of these rows narrows 'for every input' (looked for: loops, veiled, ifaces, maps, wideKeys, modest, calm, conditions, laid).
  DERIVED. THE GIVEN ROWS OF THIS SEAT. 7 by the template 'for every input the law returns true; each argument reads behind the call as it read before'; 0 by the template 'total and deterministic' (their statements: YtefjpigmgmbghaaTotals.lean).
  GIVEN WITH THE SEED: the statements are not yours to turn. If you find one false, say at which input.
  Laid BY PROGRAM, IN A SANDBOX (cutbox-rows.mjs): the forced cells as the released guide's own fill.sh prints them over the translation 7be7371c62c5b4cc… (all of the seat's roots in one cut). By AI agents, Wed Nov 11 2026. No macro, syntax, notation, axiom, sorry.
-/
import Derived.Test.YtefjpigmgmbghaaChecked
import GoSem.Claim
import GoSem.ClaimJoined
import GoSem.ClaimMapViews
import Derived.JoinedTies
import Derived.KernelRfl
namespace Go.Proofs.Ytefjpigmgmbghaa
/- THE CELL 'sum', in the pinned program and in every row, IS THE sha256 OF THE DUMP (.gsa) THAT YtefjpigmgmbghaaProg.lean LOADS. Nothing in Lean hashes anything: it is a label: what it is worth is what the hold of that sum in a sandbox is worth. -/
noncomputable def Try.pinned : Pinned := { name := "ytefjpigmgmbghaa", sum := "7be7371c62c5b4cc67b4c687a542575cc1319b2f2ce913296bd02f73cc9cac74", checked := Try.checked }
namespace Rows
def none {H : Type} : Left H := { results := [], args := [] }

/-- 'culpritlaw28.HuntTells': WHATEVER THE INPUT: true; the input reads as it did. -/
def huntTellsSpec : ChangeSpec := { name := "huntTells", fn := fun _ => fun
  | [d1, d2, d3, d4, d5, d6, d7] => { results := [.lit (.bool true)], args := [d1, d2, d3, d4, d5, d6, d7] }
  | _ => none }
def huntTellsRow : OpenClaim := { program := "ytefjpigmgmbghaa", sum := "7be7371c62c5b4cc67b4c687a542575cc1319b2f2ce913296bd02f73cc9cac74", func := "culprit/culpritlaw28.HuntTells", spec := "huntTells", unfollowed := true, recurses := true, plainKeys := false, apart := false }
def HuntTellsSaid : Prop := huntTellsRow.holds Try.pinned (OpenSpec.ofChange huntTellsSpec)

/-- ITS FALSE NEIGHBOUR: 'it returns false'. Refute it at one input. -/
def huntTellsWrong : ChangeSpec := { name := "huntTells", fn := fun _ => fun
  | [d1, d2, d3, d4, d5, d6, d7] => { results := [.lit (.bool false)], args := [d1, d2, d3, d4, d5, d6, d7] }
  | _ => none }
def HuntTellsWrongFalsely : Prop := huntTellsRow.holds Try.pinned (OpenSpec.ofChange huntTellsWrong)

/-- 'culpritlaw28.HuntLooks': WHATEVER THE INPUT: true; the input reads as it did. -/
def huntLooksSpec : ChangeSpec := { name := "huntLooks", fn := fun _ => fun
  | [d1, d2, d3, d4, d5, d6] => { results := [.lit (.bool true)], args := [d1, d2, d3, d4, d5, d6] }
  | _ => none }
def huntLooksRow : OpenClaim := { program := "ytefjpigmgmbghaa", sum := "7be7371c62c5b4cc67b4c687a542575cc1319b2f2ce913296bd02f73cc9cac74", func := "culprit/culpritlaw28.HuntLooks", spec := "huntLooks", unfollowed := true, recurses := true, plainKeys := false, apart := false }
def HuntLooksSaid : Prop := huntLooksRow.holds Try.pinned (OpenSpec.ofChange huntLooksSpec)

/-- ITS FALSE NEIGHBOUR: 'it returns false'. Refute it at one input. -/
def huntLooksWrong : ChangeSpec := { name := "huntLooks", fn := fun _ => fun
  | [d1, d2, d3, d4, d5, d6] => { results := [.lit (.bool false)], args := [d1, d2, d3, d4, d5, d6] }
  | _ => none }
def HuntLooksWrongFalsely : Prop := huntLooksRow.holds Try.pinned (OpenSpec.ofChange huntLooksWrong)

/-- 'culpritlaw28.HuntRuns': WHATEVER THE INPUT: true; the input reads as it did. -/
def huntRunsSpec : ChangeSpec := { name := "huntRuns", fn := fun _ => fun
  | [d1, d2, d3, d4, d5, d6] => { results := [.lit (.bool true)], args := [d1, d2, d3, d4, d5, d6] }
  | _ => none }
def huntRunsRow : OpenClaim := { program := "ytefjpigmgmbghaa", sum := "7be7371c62c5b4cc67b4c687a542575cc1319b2f2ce913296bd02f73cc9cac74", func := "culprit/culpritlaw28.HuntRuns", spec := "huntRuns", unfollowed := true, recurses := true, plainKeys := false, apart := false }
def HuntRunsSaid : Prop := huntRunsRow.holds Try.pinned (OpenSpec.ofChange huntRunsSpec)

/-- ITS FALSE NEIGHBOUR: 'it returns false'. Refute it at one input. -/
def huntRunsWrong : ChangeSpec := { name := "huntRuns", fn := fun _ => fun
  | [d1, d2, d3, d4, d5, d6] => { results := [.lit (.bool false)], args := [d1, d2, d3, d4, d5, d6] }
  | _ => none }
def HuntRunsWrongFalsely : Prop := huntRunsRow.holds Try.pinned (OpenSpec.ofChange huntRunsWrong)

/-- 'culpritlaw28.HuntLines': WHATEVER THE INPUT: true; the input reads as it did. -/
def huntLinesSpec : ChangeSpec := { name := "huntLines", fn := fun _ => fun
  | [d1, d2, d3, d4, d5, d6, d7] => { results := [.lit (.bool true)], args := [d1, d2, d3, d4, d5, d6, d7] }
  | _ => none }
def huntLinesRow : OpenClaim := { program := "ytefjpigmgmbghaa", sum := "7be7371c62c5b4cc67b4c687a542575cc1319b2f2ce913296bd02f73cc9cac74", func := "culprit/culpritlaw28.HuntLines", spec := "huntLines", unfollowed := true, recurses := true, plainKeys := false, apart := false }
def HuntLinesSaid : Prop := huntLinesRow.holds Try.pinned (OpenSpec.ofChange huntLinesSpec)

/-- ITS FALSE NEIGHBOUR: 'it returns false'. Refute it at one input. -/
def huntLinesWrong : ChangeSpec := { name := "huntLines", fn := fun _ => fun
  | [d1, d2, d3, d4, d5, d6, d7] => { results := [.lit (.bool false)], args := [d1, d2, d3, d4, d5, d6, d7] }
  | _ => none }
def HuntLinesWrongFalsely : Prop := huntLinesRow.holds Try.pinned (OpenSpec.ofChange huntLinesWrong)

/-- 'culpritlaw28.HuntRight': WHATEVER THE INPUT: true; the input reads as it did. -/
def huntRightSpec : ChangeSpec := { name := "huntRight", fn := fun _ => fun
  | [d1, d2, d3, d4] => { results := [.lit (.bool true)], args := [d1, d2, d3, d4] }
  | _ => none }
def huntRightRow : OpenClaim := { program := "ytefjpigmgmbghaa", sum := "7be7371c62c5b4cc67b4c687a542575cc1319b2f2ce913296bd02f73cc9cac74", func := "culprit/culpritlaw28.HuntRight", spec := "huntRight", unfollowed := true, recurses := true, plainKeys := false, apart := false }
def HuntRightSaid : Prop := huntRightRow.holds Try.pinned (OpenSpec.ofChange huntRightSpec)

/-- ITS FALSE NEIGHBOUR: 'it returns false'. Refute it at one input. -/
def huntRightWrong : ChangeSpec := { name := "huntRight", fn := fun _ => fun
  | [d1, d2, d3, d4] => { results := [.lit (.bool false)], args := [d1, d2, d3, d4] }
  | _ => none }
def HuntRightWrongFalsely : Prop := huntRightRow.holds Try.pinned (OpenSpec.ofChange huntRightWrong)

/-- 'culpritlaw28.HuntNamed': WHATEVER THE INPUT: true; the input reads as it did. -/
def huntNamedSpec : ChangeSpec := { name := "huntNamed", fn := fun _ => fun
  | [d1, d2, d3, d4] => { results := [.lit (.bool true)], args := [d1, d2, d3, d4] }
  | _ => none }
def huntNamedRow : OpenClaim := { program := "ytefjpigmgmbghaa", sum := "7be7371c62c5b4cc67b4c687a542575cc1319b2f2ce913296bd02f73cc9cac74", func := "culprit/culpritlaw28.HuntNamed", spec := "huntNamed", unfollowed := true, recurses := true, plainKeys := false, apart := false }
def HuntNamedSaid : Prop := huntNamedRow.holds Try.pinned (OpenSpec.ofChange huntNamedSpec)

/-- ITS FALSE NEIGHBOUR: 'it returns false'. Refute it at one input. -/
def huntNamedWrong : ChangeSpec := { name := "huntNamed", fn := fun _ => fun
  | [d1, d2, d3, d4] => { results := [.lit (.bool false)], args := [d1, d2, d3, d4] }
  | _ => none }
def HuntNamedWrongFalsely : Prop := huntNamedRow.holds Try.pinned (OpenSpec.ofChange huntNamedWrong)

/-- 'culpritlaw28.HuntSteps': WHATEVER THE INPUT: true; the input reads as it did. -/
def huntStepsSpec : ChangeSpec := { name := "huntSteps", fn := fun _ => fun
  | [d1, d2] => { results := [.lit (.bool true)], args := [d1, d2] }
  | _ => none }
def huntStepsRow : OpenClaim := { program := "ytefjpigmgmbghaa", sum := "7be7371c62c5b4cc67b4c687a542575cc1319b2f2ce913296bd02f73cc9cac74", func := "culprit/culpritlaw28.HuntSteps", spec := "huntSteps", unfollowed := true, recurses := true, plainKeys := false, apart := false }
def HuntStepsSaid : Prop := huntStepsRow.holds Try.pinned (OpenSpec.ofChange huntStepsSpec)

/-- ITS FALSE NEIGHBOUR: 'it returns false'. Refute it at one input. -/
def huntStepsWrong : ChangeSpec := { name := "huntSteps", fn := fun _ => fun
  | [d1, d2] => { results := [.lit (.bool false)], args := [d1, d2] }
  | _ => none }
def HuntStepsWrongFalsely : Prop := huntStepsRow.holds Try.pinned (OpenSpec.ofChange huntStepsWrong)

/- THE SECOND FORM. 'bulk': how many values and letters a reading holds, each counted each time it is reached (what is shared counts as often as it is met; a slice's spare places count too). A statement '..UptoSaid' is the law's where the arguments, and the package variables that the reading takes, are together of bulk at most 1048576: NARROWER than '..Said'. Prove '..Said' where nothing that the law and all that it calls make is longer than what came in: it says more and counts as full. Else prove '..UptoSaid'. A law counts once. -/
mutual
def uptoBulk {H : Type} : DataW H → Nat
  | .lit (.string bytes) => bytes.length + 1
  | .lit _ => 1
  | .nil => 1
  | .ptr d => uptoBulk d + 1
  | .slice elems spare => uptoBulkAll elems + uptoBulkAll spare + 1
  | .agg parts => uptoBulkAll parts + 1
  | .iface _ d => uptoBulk d + 1
  | .map entries => uptoBulkEntries entries + 1
  | .held _ => 1
def uptoBulkAll {H : Type} : List (DataW H) → Nat
  | [] => 0
  | d :: r => uptoBulk d + uptoBulkAll r
def uptoBulkEntries {H : Type} : List (Lit × DataW H) → Nat
  | [] => 0
  | x :: r => uptoBulkEntry x + uptoBulkEntries r
def uptoBulkEntry {H : Type} : Lit × DataW H → Nat
  | (.string bytes, d) => bytes.length + uptoBulk d + 1
  | (_, d) => uptoBulk d + 1
 end
def uptoSmall : (H : Type) → List (DataW H) → Bool := fun _ ds => decide (uptoBulkAll ds ≤ 1048576)
def OpenSpec.upto (s : _root_.Go.ChangeSpec) : _root_.Go.OpenSpec := { _root_.Go.OpenSpec.ofChange s with cond := some uptoSmall }

/-- 'culpritlaw28.HuntTells', WHERE WHAT IT READS IS OF BULK AT MOST 1048576: true; the input reads as it did. -/
def huntTellsUptoRow : OpenClaim := { program := "ytefjpigmgmbghaa", sum := "7be7371c62c5b4cc67b4c687a542575cc1319b2f2ce913296bd02f73cc9cac74", func := "culprit/culpritlaw28.HuntTells", spec := "huntTells", unfollowed := true, recurses := true, plainKeys := false, apart := false, narrowed := true }
def HuntTellsUptoSaid : Prop := huntTellsUptoRow.holds Try.pinned (OpenSpec.upto huntTellsSpec)

/-- 'culpritlaw28.HuntLooks', WHERE WHAT IT READS IS OF BULK AT MOST 1048576: true; the input reads as it did. -/
def huntLooksUptoRow : OpenClaim := { program := "ytefjpigmgmbghaa", sum := "7be7371c62c5b4cc67b4c687a542575cc1319b2f2ce913296bd02f73cc9cac74", func := "culprit/culpritlaw28.HuntLooks", spec := "huntLooks", unfollowed := true, recurses := true, plainKeys := false, apart := false, narrowed := true }
def HuntLooksUptoSaid : Prop := huntLooksUptoRow.holds Try.pinned (OpenSpec.upto huntLooksSpec)

/-- 'culpritlaw28.HuntRuns', WHERE WHAT IT READS IS OF BULK AT MOST 1048576: true; the input reads as it did. -/
def huntRunsUptoRow : OpenClaim := { program := "ytefjpigmgmbghaa", sum := "7be7371c62c5b4cc67b4c687a542575cc1319b2f2ce913296bd02f73cc9cac74", func := "culprit/culpritlaw28.HuntRuns", spec := "huntRuns", unfollowed := true, recurses := true, plainKeys := false, apart := false, narrowed := true }
def HuntRunsUptoSaid : Prop := huntRunsUptoRow.holds Try.pinned (OpenSpec.upto huntRunsSpec)

/-- 'culpritlaw28.HuntLines', WHERE WHAT IT READS IS OF BULK AT MOST 1048576: true; the input reads as it did. -/
def huntLinesUptoRow : OpenClaim := { program := "ytefjpigmgmbghaa", sum := "7be7371c62c5b4cc67b4c687a542575cc1319b2f2ce913296bd02f73cc9cac74", func := "culprit/culpritlaw28.HuntLines", spec := "huntLines", unfollowed := true, recurses := true, plainKeys := false, apart := false, narrowed := true }
def HuntLinesUptoSaid : Prop := huntLinesUptoRow.holds Try.pinned (OpenSpec.upto huntLinesSpec)

/-- 'culpritlaw28.HuntRight', WHERE WHAT IT READS IS OF BULK AT MOST 1048576: true; the input reads as it did. -/
def huntRightUptoRow : OpenClaim := { program := "ytefjpigmgmbghaa", sum := "7be7371c62c5b4cc67b4c687a542575cc1319b2f2ce913296bd02f73cc9cac74", func := "culprit/culpritlaw28.HuntRight", spec := "huntRight", unfollowed := true, recurses := true, plainKeys := false, apart := false, narrowed := true }
def HuntRightUptoSaid : Prop := huntRightUptoRow.holds Try.pinned (OpenSpec.upto huntRightSpec)

/-- 'culpritlaw28.HuntNamed', WHERE WHAT IT READS IS OF BULK AT MOST 1048576: true; the input reads as it did. -/
def huntNamedUptoRow : OpenClaim := { program := "ytefjpigmgmbghaa", sum := "7be7371c62c5b4cc67b4c687a542575cc1319b2f2ce913296bd02f73cc9cac74", func := "culprit/culpritlaw28.HuntNamed", spec := "huntNamed", unfollowed := true, recurses := true, plainKeys := false, apart := false, narrowed := true }
def HuntNamedUptoSaid : Prop := huntNamedUptoRow.holds Try.pinned (OpenSpec.upto huntNamedSpec)

/-- 'culpritlaw28.HuntSteps', WHERE WHAT IT READS IS OF BULK AT MOST 1048576: true; the input reads as it did. -/
def huntStepsUptoRow : OpenClaim := { program := "ytefjpigmgmbghaa", sum := "7be7371c62c5b4cc67b4c687a542575cc1319b2f2ce913296bd02f73cc9cac74", func := "culprit/culpritlaw28.HuntSteps", spec := "huntSteps", unfollowed := true, recurses := true, plainKeys := false, apart := false, narrowed := true }
def HuntStepsUptoSaid : Prop := huntStepsUptoRow.holds Try.pinned (OpenSpec.upto huntStepsSpec)

end Rows
end Go.Proofs.Ytefjpigmgmbghaa
