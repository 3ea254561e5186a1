/-
  No cell of these rows narrows 'for every input' (looked for: loops, veiled, ifaces, maps, wideKeys, modest, calm, conditions, laid).
  DERIVED. THE GIVEN ROWS OF THIS SEAT. 5 by the template 'for every input the law returns true; each argument reads behind the call as it read before'; 0 by the template 'total and deterministic' (their statements: YtplceoanaoeejaaTotals.lean).
  GIVEN WITH THE SEED: the statements are not yours to turn. If you find one false, say at which input.
  Laid BY PROGRAM, IN A SANDBOX (cutbox-rows.mjs): the forced cells as the released guide's own fill.sh prints them over the translation c0322cd3498ef20b… (all of the seat's roots in one cut). By AI agents, Wed Nov 11 2026. No macro, syntax, notation, axiom, sorry.
-/
import Derived.Test.YtplceoanaoeejaaChecked
import GoSem.Claim
import GoSem.ClaimJoined
import GoSem.ClaimMapViews
import Derived.JoinedTies
import Derived.KernelRfl
namespace Go.Proofs.Ytplceoanaoeejaa
/- THE CELL 'sum', in the pinned program and in every row, IS THE sha256 OF THE DUMP (.gsa) THAT YtplceoanaoeejaaProg.lean LOADS. Nothing in Lean hashes anything: it is a label: what it is worth is what the hold of that sum in a sandbox is worth. -/
noncomputable def Try.pinned : Pinned := { name := "ytplceoanaoeejaa", sum := "c0322cd3498ef20bf1f46398791bcbc19a2275354bc15796d134e2f1c4a51a13", checked := Try.checked }
namespace Rows
def none {H : Type} : Left H := { results := [], args := [] }

/-- 'culpritlaw29.GroupTakes': WHATEVER THE INPUT: true; the input reads as it did. -/
def groupTakesSpec : ChangeSpec := { name := "groupTakes", fn := fun _ => fun
  | [d1, d2, d3, d4] => { results := [.lit (.bool true)], args := [d1, d2, d3, d4] }
  | _ => none }
def groupTakesRow : OpenClaim := { program := "ytplceoanaoeejaa", sum := "c0322cd3498ef20bf1f46398791bcbc19a2275354bc15796d134e2f1c4a51a13", func := "culprit/culpritlaw29.GroupTakes", spec := "groupTakes", unfollowed := true, recurses := true, apart := false }
def GroupTakesSaid : Prop := groupTakesRow.holds Try.pinned (OpenSpec.ofChange groupTakesSpec)

/-- ITS FALSE NEIGHBOUR: 'it returns false'. Refute it at one input. -/
def groupTakesWrong : ChangeSpec := { name := "groupTakes", fn := fun _ => fun
  | [d1, d2, d3, d4] => { results := [.lit (.bool false)], args := [d1, d2, d3, d4] }
  | _ => none }
def GroupTakesWrongFalsely : Prop := groupTakesRow.holds Try.pinned (OpenSpec.ofChange groupTakesWrong)

/-- 'culpritlaw29.GroupShares': WHATEVER THE INPUT: true; the input reads as it did. -/
def groupSharesSpec : ChangeSpec := { name := "groupShares", fn := fun _ => fun
  | [d1, d2, d3, d4, d5, d6, d7] => { results := [.lit (.bool true)], args := [d1, d2, d3, d4, d5, d6, d7] }
  | _ => none }
def groupSharesRow : OpenClaim := { program := "ytplceoanaoeejaa", sum := "c0322cd3498ef20bf1f46398791bcbc19a2275354bc15796d134e2f1c4a51a13", func := "culprit/culpritlaw29.GroupShares", spec := "groupShares", unfollowed := true, recurses := true, apart := false }
def GroupSharesSaid : Prop := groupSharesRow.holds Try.pinned (OpenSpec.ofChange groupSharesSpec)

/-- ITS FALSE NEIGHBOUR: 'it returns false'. Refute it at one input. -/
def groupSharesWrong : ChangeSpec := { name := "groupShares", fn := fun _ => fun
  | [d1, d2, d3, d4, d5, d6, d7] => { results := [.lit (.bool false)], args := [d1, d2, d3, d4, d5, d6, d7] }
  | _ => none }
def GroupSharesWrongFalsely : Prop := groupSharesRow.holds Try.pinned (OpenSpec.ofChange groupSharesWrong)

/-- 'culpritlaw29.GroupChecks': WHATEVER THE INPUT: true; the input reads as it did. -/
def groupChecksSpec : ChangeSpec := { name := "groupChecks", fn := fun _ => fun
  | [d1, d2, d3, d4, d5, d6] => { results := [.lit (.bool true)], args := [d1, d2, d3, d4, d5, d6] }
  | _ => none }
def groupChecksRow : OpenClaim := { program := "ytplceoanaoeejaa", sum := "c0322cd3498ef20bf1f46398791bcbc19a2275354bc15796d134e2f1c4a51a13", func := "culprit/culpritlaw29.GroupChecks", spec := "groupChecks", unfollowed := true, recurses := true, apart := false }
def GroupChecksSaid : Prop := groupChecksRow.holds Try.pinned (OpenSpec.ofChange groupChecksSpec)

/-- ITS FALSE NEIGHBOUR: 'it returns false'. Refute it at one input. -/
def groupChecksWrong : ChangeSpec := { name := "groupChecks", fn := fun _ => fun
  | [d1, d2, d3, d4, d5, d6] => { results := [.lit (.bool false)], args := [d1, d2, d3, d4, d5, d6] }
  | _ => none }
def GroupChecksWrongFalsely : Prop := groupChecksRow.holds Try.pinned (OpenSpec.ofChange groupChecksWrong)

/-- 'culpritlaw29.GroupWhole': WHATEVER THE INPUT: true; the input reads as it did. -/
def groupWholeSpec : ChangeSpec := { name := "groupWhole", fn := fun _ => fun
  | [d1, d2] => { results := [.lit (.bool true)], args := [d1, d2] }
  | _ => none }
def groupWholeRow : OpenClaim := { program := "ytplceoanaoeejaa", sum := "c0322cd3498ef20bf1f46398791bcbc19a2275354bc15796d134e2f1c4a51a13", func := "culprit/culpritlaw29.GroupWhole", spec := "groupWhole", unfollowed := true, recurses := true, apart := false }
def GroupWholeSaid : Prop := groupWholeRow.holds Try.pinned (OpenSpec.ofChange groupWholeSpec)

/-- ITS FALSE NEIGHBOUR: 'it returns false'. Refute it at one input. -/
def groupWholeWrong : ChangeSpec := { name := "groupWhole", fn := fun _ => fun
  | [d1, d2] => { results := [.lit (.bool false)], args := [d1, d2] }
  | _ => none }
def GroupWholeWrongFalsely : Prop := groupWholeRow.holds Try.pinned (OpenSpec.ofChange groupWholeWrong)

/-- 'culpritlaw29.GroupFew': WHATEVER THE INPUT: true; the input reads as it did. -/
def groupFewSpec : ChangeSpec := { name := "groupFew", fn := fun _ => fun
  | [d1, d2] => { results := [.lit (.bool true)], args := [d1, d2] }
  | _ => none }
def groupFewRow : OpenClaim := { program := "ytplceoanaoeejaa", sum := "c0322cd3498ef20bf1f46398791bcbc19a2275354bc15796d134e2f1c4a51a13", func := "culprit/culpritlaw29.GroupFew", spec := "groupFew", unfollowed := true, recurses := true, apart := false }
def GroupFewSaid : Prop := groupFewRow.holds Try.pinned (OpenSpec.ofChange groupFewSpec)

/-- ITS FALSE NEIGHBOUR: 'it returns false'. Refute it at one input. -/
def groupFewWrong : ChangeSpec := { name := "groupFew", fn := fun _ => fun
  | [d1, d2] => { results := [.lit (.bool false)], args := [d1, d2] }
  | _ => none }
def GroupFewWrongFalsely : Prop := groupFewRow.holds Try.pinned (OpenSpec.ofChange groupFewWrong)

/- THE SECOND FORM. 'bulk': how many values and letters a reading holds, each counted each time it is reached (what is shared counts as often as it is met; a slice's spare places count too). A statement '..UptoSaid' is the law's where the arguments, and the package variables that the reading takes, are together of bulk at most 1048576: NARROWER than '..Said'. Prove '..Said' where nothing that the law and all that it calls make is longer than what came in: it says more and counts as full. Else prove '..UptoSaid'. A law counts once. -/
mutual
def uptoBulk {H : Type} : DataW H → Nat
  | .lit (.string bytes) => bytes.length + 1
  | .lit _ => 1
  | .nil => 1
  | .ptr d => uptoBulk d + 1
  | .slice elems spare => uptoBulkAll elems + uptoBulkAll spare + 1
  | .agg parts => uptoBulkAll parts + 1
  | .iface _ d => uptoBulk d + 1
  | .map entries => uptoBulkEntries entries + 1
  | .held _ => 1
def uptoBulkAll {H : Type} : List (DataW H) → Nat
  | [] => 0
  | d :: r => uptoBulk d + uptoBulkAll r
def uptoBulkEntries {H : Type} : List (Lit × DataW H) → Nat
  | [] => 0
  | x :: r => uptoBulkEntry x + uptoBulkEntries r
def uptoBulkEntry {H : Type} : Lit × DataW H → Nat
  | (.string bytes, d) => bytes.length + uptoBulk d + 1
  | (_, d) => uptoBulk d + 1
 end
def uptoSmall : (H : Type) → List (DataW H) → Bool := fun _ ds => decide (uptoBulkAll ds ≤ 1048576)
def OpenSpec.upto (s : _root_.Go.ChangeSpec) : _root_.Go.OpenSpec := { _root_.Go.OpenSpec.ofChange s with cond := some uptoSmall }

/-- 'culpritlaw29.GroupTakes', WHERE WHAT IT READS IS OF BULK AT MOST 1048576: true; the input reads as it did. -/
def groupTakesUptoRow : OpenClaim := { program := "ytplceoanaoeejaa", sum := "c0322cd3498ef20bf1f46398791bcbc19a2275354bc15796d134e2f1c4a51a13", func := "culprit/culpritlaw29.GroupTakes", spec := "groupTakes", unfollowed := true, recurses := true, apart := false, narrowed := true }
def GroupTakesUptoSaid : Prop := groupTakesUptoRow.holds Try.pinned (OpenSpec.upto groupTakesSpec)

/-- 'culpritlaw29.GroupShares', WHERE WHAT IT READS IS OF BULK AT MOST 1048576: true; the input reads as it did. -/
def groupSharesUptoRow : OpenClaim := { program := "ytplceoanaoeejaa", sum := "c0322cd3498ef20bf1f46398791bcbc19a2275354bc15796d134e2f1c4a51a13", func := "culprit/culpritlaw29.GroupShares", spec := "groupShares", unfollowed := true, recurses := true, apart := false, narrowed := true }
def GroupSharesUptoSaid : Prop := groupSharesUptoRow.holds Try.pinned (OpenSpec.upto groupSharesSpec)

/-- 'culpritlaw29.GroupChecks', WHERE WHAT IT READS IS OF BULK AT MOST 1048576: true; the input reads as it did. -/
def groupChecksUptoRow : OpenClaim := { program := "ytplceoanaoeejaa", sum := "c0322cd3498ef20bf1f46398791bcbc19a2275354bc15796d134e2f1c4a51a13", func := "culprit/culpritlaw29.GroupChecks", spec := "groupChecks", unfollowed := true, recurses := true, apart := false, narrowed := true }
def GroupChecksUptoSaid : Prop := groupChecksUptoRow.holds Try.pinned (OpenSpec.upto groupChecksSpec)

/-- 'culpritlaw29.GroupWhole', WHERE WHAT IT READS IS OF BULK AT MOST 1048576: true; the input reads as it did. -/
def groupWholeUptoRow : OpenClaim := { program := "ytplceoanaoeejaa", sum := "c0322cd3498ef20bf1f46398791bcbc19a2275354bc15796d134e2f1c4a51a13", func := "culprit/culpritlaw29.GroupWhole", spec := "groupWhole", unfollowed := true, recurses := true, apart := false, narrowed := true }
def GroupWholeUptoSaid : Prop := groupWholeUptoRow.holds Try.pinned (OpenSpec.upto groupWholeSpec)

/-- 'culpritlaw29.GroupFew', WHERE WHAT IT READS IS OF BULK AT MOST 1048576: true; the input reads as it did. -/
def groupFewUptoRow : OpenClaim := { program := "ytplceoanaoeejaa", sum := "c0322cd3498ef20bf1f46398791bcbc19a2275354bc15796d134e2f1c4a51a13", func := "culprit/culpritlaw29.GroupFew", spec := "groupFew", unfollowed := true, recurses := true, apart := false, narrowed := true }
def GroupFewUptoSaid : Prop := groupFewUptoRow.holds Try.pinned (OpenSpec.upto groupFewSpec)

end Rows
end Go.Proofs.Ytplceoanaoeejaa
