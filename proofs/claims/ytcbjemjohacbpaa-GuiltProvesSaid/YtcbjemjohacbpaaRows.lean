/-
  No cell of these rows narrows 'for every input' (looked for: loops, veiled, ifaces, maps, wideKeys, modest, calm, conditions, laid).
  DERIVED. THE GIVEN ROWS OF THIS SEAT. 8 by the template 'for every input the law returns true; each argument reads behind the call as it read before'; 0 by the template 'total and deterministic' (their statements: YtcbjemjohacbpaaTotals.lean).
  GIVEN WITH THE SEED: the statements are not yours to turn. If you find one false, say at which input.
  Laid BY PROGRAM, IN A SANDBOX (cutbox-rows.mjs): the forced cells as the released guide's own fill.sh prints them over the translation 287ba28b0a278f0a… (all of the seat's roots in one cut). By AI agents, Wed Nov 11 2026. No macro, syntax, notation, axiom, sorry.
-/
import Derived.Test.YtcbjemjohacbpaaChecked
import GoSem.Claim
import GoSem.ClaimJoined
import GoSem.ClaimMapViews
import Derived.JoinedTies
import Derived.KernelRfl
namespace Go.Proofs.Ytcbjemjohacbpaa
/- THE CELL 'sum', in the pinned program and in every row, IS THE sha256 OF THE DUMP (.gsa) THAT YtcbjemjohacbpaaProg.lean LOADS. Nothing in Lean hashes anything: it is a label: what it is worth is what the hold of that sum in a sandbox is worth. -/
noncomputable def Try.pinned : Pinned := { name := "ytcbjemjohacbpaa", sum := "287ba28b0a278f0a948fa316ea76d30c7b8d56ac0ef73e8668a05cc1066e9afa", checked := Try.checked }
namespace Rows
def none {H : Type} : Left H := { results := [], args := [] }

/-- 'culpritlaw27.GuiltSets': WHATEVER THE INPUT: true; the input reads as it did. -/
def guiltSetsSpec : ChangeSpec := { name := "guiltSets", fn := fun _ => fun
  | [d1, d2, d3, d4, d5] => { results := [.lit (.bool true)], args := [d1, d2, d3, d4, d5] }
  | _ => none }
def guiltSetsRow : OpenClaim := { program := "ytcbjemjohacbpaa", sum := "287ba28b0a278f0a948fa316ea76d30c7b8d56ac0ef73e8668a05cc1066e9afa", func := "culprit/culpritlaw27.GuiltSets", spec := "guiltSets", unfollowed := true, recurses := true, plainKeys := false, apart := false }
def GuiltSetsSaid : Prop := guiltSetsRow.holds Try.pinned (OpenSpec.ofChange guiltSetsSpec)

/-- ITS FALSE NEIGHBOUR: 'it returns false'. Refute it at one input. -/
def guiltSetsWrong : ChangeSpec := { name := "guiltSets", fn := fun _ => fun
  | [d1, d2, d3, d4, d5] => { results := [.lit (.bool false)], args := [d1, d2, d3, d4, d5] }
  | _ => none }
def GuiltSetsWrongFalsely : Prop := guiltSetsRow.holds Try.pinned (OpenSpec.ofChange guiltSetsWrong)

/-- 'culpritlaw27.GuiltHides': WHATEVER THE INPUT: true; the input reads as it did. -/
def guiltHidesSpec : ChangeSpec := { name := "guiltHides", fn := fun _ => fun
  | [d1, d2, d3, d4, d5, d6] => { results := [.lit (.bool true)], args := [d1, d2, d3, d4, d5, d6] }
  | _ => none }
def guiltHidesRow : OpenClaim := { program := "ytcbjemjohacbpaa", sum := "287ba28b0a278f0a948fa316ea76d30c7b8d56ac0ef73e8668a05cc1066e9afa", func := "culprit/culpritlaw27.GuiltHides", spec := "guiltHides", unfollowed := true, recurses := true, plainKeys := false, apart := false }
def GuiltHidesSaid : Prop := guiltHidesRow.holds Try.pinned (OpenSpec.ofChange guiltHidesSpec)

/-- ITS FALSE NEIGHBOUR: 'it returns false'. Refute it at one input. -/
def guiltHidesWrong : ChangeSpec := { name := "guiltHides", fn := fun _ => fun
  | [d1, d2, d3, d4, d5, d6] => { results := [.lit (.bool false)], args := [d1, d2, d3, d4, d5, d6] }
  | _ => none }
def GuiltHidesWrongFalsely : Prop := guiltHidesRow.holds Try.pinned (OpenSpec.ofChange guiltHidesWrong)

/-- 'culpritlaw27.GuiltAll': WHATEVER THE INPUT: true; the input reads as it did. -/
def guiltAllSpec : ChangeSpec := { name := "guiltAll", fn := fun _ => fun
  | [d1, d2] => { results := [.lit (.bool true)], args := [d1, d2] }
  | _ => none }
def guiltAllRow : OpenClaim := { program := "ytcbjemjohacbpaa", sum := "287ba28b0a278f0a948fa316ea76d30c7b8d56ac0ef73e8668a05cc1066e9afa", func := "culprit/culpritlaw27.GuiltAll", spec := "guiltAll", unfollowed := true, recurses := true, plainKeys := false, apart := false }
def GuiltAllSaid : Prop := guiltAllRow.holds Try.pinned (OpenSpec.ofChange guiltAllSpec)

/-- ITS FALSE NEIGHBOUR: 'it returns false'. Refute it at one input. -/
def guiltAllWrong : ChangeSpec := { name := "guiltAll", fn := fun _ => fun
  | [d1, d2] => { results := [.lit (.bool false)], args := [d1, d2] }
  | _ => none }
def GuiltAllWrongFalsely : Prop := guiltAllRow.holds Try.pinned (OpenSpec.ofChange guiltAllWrong)

/-- 'culpritlaw27.GuiltEither': WHATEVER THE INPUT: true; the input reads as it did. -/
def guiltEitherSpec : ChangeSpec := { name := "guiltEither", fn := fun _ => fun
  | [d1, d2, d3] => { results := [.lit (.bool true)], args := [d1, d2, d3] }
  | _ => none }
def guiltEitherRow : OpenClaim := { program := "ytcbjemjohacbpaa", sum := "287ba28b0a278f0a948fa316ea76d30c7b8d56ac0ef73e8668a05cc1066e9afa", func := "culprit/culpritlaw27.GuiltEither", spec := "guiltEither", unfollowed := true, recurses := true, plainKeys := false, apart := false }
def GuiltEitherSaid : Prop := guiltEitherRow.holds Try.pinned (OpenSpec.ofChange guiltEitherSpec)

/-- ITS FALSE NEIGHBOUR: 'it returns false'. Refute it at one input. -/
def guiltEitherWrong : ChangeSpec := { name := "guiltEither", fn := fun _ => fun
  | [d1, d2, d3] => { results := [.lit (.bool false)], args := [d1, d2, d3] }
  | _ => none }
def GuiltEitherWrongFalsely : Prop := guiltEitherRow.holds Try.pinned (OpenSpec.ofChange guiltEitherWrong)

/-- 'culpritlaw27.GuiltMore': WHATEVER THE INPUT: true; the input reads as it did. -/
def guiltMoreSpec : ChangeSpec := { name := "guiltMore", fn := fun _ => fun
  | [d1, d2, d3] => { results := [.lit (.bool true)], args := [d1, d2, d3] }
  | _ => none }
def guiltMoreRow : OpenClaim := { program := "ytcbjemjohacbpaa", sum := "287ba28b0a278f0a948fa316ea76d30c7b8d56ac0ef73e8668a05cc1066e9afa", func := "culprit/culpritlaw27.GuiltMore", spec := "guiltMore", unfollowed := true, recurses := true, plainKeys := false, apart := false }
def GuiltMoreSaid : Prop := guiltMoreRow.holds Try.pinned (OpenSpec.ofChange guiltMoreSpec)

/-- ITS FALSE NEIGHBOUR: 'it returns false'. Refute it at one input. -/
def guiltMoreWrong : ChangeSpec := { name := "guiltMore", fn := fun _ => fun
  | [d1, d2, d3] => { results := [.lit (.bool false)], args := [d1, d2, d3] }
  | _ => none }
def GuiltMoreWrongFalsely : Prop := guiltMoreRow.holds Try.pinned (OpenSpec.ofChange guiltMoreWrong)

/-- 'culpritlaw27.GuiltWithin': WHATEVER THE INPUT: true; the input reads as it did. -/
def guiltWithinSpec : ChangeSpec := { name := "guiltWithin", fn := fun _ => fun
  | [d1, d2, d3] => { results := [.lit (.bool true)], args := [d1, d2, d3] }
  | _ => none }
def guiltWithinRow : OpenClaim := { program := "ytcbjemjohacbpaa", sum := "287ba28b0a278f0a948fa316ea76d30c7b8d56ac0ef73e8668a05cc1066e9afa", func := "culprit/culpritlaw27.GuiltWithin", spec := "guiltWithin", unfollowed := true, recurses := true, plainKeys := false, apart := false }
def GuiltWithinSaid : Prop := guiltWithinRow.holds Try.pinned (OpenSpec.ofChange guiltWithinSpec)

/-- ITS FALSE NEIGHBOUR: 'it returns false'. Refute it at one input. -/
def guiltWithinWrong : ChangeSpec := { name := "guiltWithin", fn := fun _ => fun
  | [d1, d2, d3] => { results := [.lit (.bool false)], args := [d1, d2, d3] }
  | _ => none }
def GuiltWithinWrongFalsely : Prop := guiltWithinRow.holds Try.pinned (OpenSpec.ofChange guiltWithinWrong)

/-- 'culpritlaw27.GuiltProves': WHATEVER THE INPUT: true; the input reads as it did. -/
def guiltProvesSpec : ChangeSpec := { name := "guiltProves", fn := fun _ => fun
  | [d1, d2, d3, d4, d5, d6, d7, d8] => { results := [.lit (.bool true)], args := [d1, d2, d3, d4, d5, d6, d7, d8] }
  | _ => none }
def guiltProvesRow : OpenClaim := { program := "ytcbjemjohacbpaa", sum := "287ba28b0a278f0a948fa316ea76d30c7b8d56ac0ef73e8668a05cc1066e9afa", func := "culprit/culpritlaw27.GuiltProves", spec := "guiltProves", unfollowed := true, recurses := true, plainKeys := false, apart := false }
def GuiltProvesSaid : Prop := guiltProvesRow.holds Try.pinned (OpenSpec.ofChange guiltProvesSpec)

/-- ITS FALSE NEIGHBOUR: 'it returns false'. Refute it at one input. -/
def guiltProvesWrong : ChangeSpec := { name := "guiltProves", fn := fun _ => fun
  | [d1, d2, d3, d4, d5, d6, d7, d8] => { results := [.lit (.bool false)], args := [d1, d2, d3, d4, d5, d6, d7, d8] }
  | _ => none }
def GuiltProvesWrongFalsely : Prop := guiltProvesRow.holds Try.pinned (OpenSpec.ofChange guiltProvesWrong)

/-- 'culpritlaw27.GuiltKnown': WHATEVER THE INPUT: true; the input reads as it did. -/
def guiltKnownSpec : ChangeSpec := { name := "guiltKnown", fn := fun _ => fun
  | [d1, d2, d3, d4] => { results := [.lit (.bool true)], args := [d1, d2, d3, d4] }
  | _ => none }
def guiltKnownRow : OpenClaim := { program := "ytcbjemjohacbpaa", sum := "287ba28b0a278f0a948fa316ea76d30c7b8d56ac0ef73e8668a05cc1066e9afa", func := "culprit/culpritlaw27.GuiltKnown", spec := "guiltKnown", unfollowed := true, recurses := true, plainKeys := false, apart := false }
def GuiltKnownSaid : Prop := guiltKnownRow.holds Try.pinned (OpenSpec.ofChange guiltKnownSpec)

/-- ITS FALSE NEIGHBOUR: 'it returns false'. Refute it at one input. -/
def guiltKnownWrong : ChangeSpec := { name := "guiltKnown", fn := fun _ => fun
  | [d1, d2, d3, d4] => { results := [.lit (.bool false)], args := [d1, d2, d3, d4] }
  | _ => none }
def GuiltKnownWrongFalsely : Prop := guiltKnownRow.holds Try.pinned (OpenSpec.ofChange guiltKnownWrong)

/- THE SECOND FORM. 'bulk': how many values and letters a reading holds, each counted each time it is reached (what is shared counts as often as it is met; a slice's spare places count too). A statement '..UptoSaid' is the law's where the arguments, and the package variables that the reading takes, are together of bulk at most 1048576: NARROWER than '..Said'. Prove '..Said' where nothing that the law and all that it calls make is longer than what came in: it says more and counts as full. Else prove '..UptoSaid'. A law counts once. -/
mutual
def uptoBulk {H : Type} : DataW H → Nat
  | .lit (.string bytes) => bytes.length + 1
  | .lit _ => 1
  | .nil => 1
  | .ptr d => uptoBulk d + 1
  | .slice elems spare => uptoBulkAll elems + uptoBulkAll spare + 1
  | .agg parts => uptoBulkAll parts + 1
  | .iface _ d => uptoBulk d + 1
  | .map entries => uptoBulkEntries entries + 1
  | .held _ => 1
def uptoBulkAll {H : Type} : List (DataW H) → Nat
  | [] => 0
  | d :: r => uptoBulk d + uptoBulkAll r
def uptoBulkEntries {H : Type} : List (Lit × DataW H) → Nat
  | [] => 0
  | x :: r => uptoBulkEntry x + uptoBulkEntries r
def uptoBulkEntry {H : Type} : Lit × DataW H → Nat
  | (.string bytes, d) => bytes.length + uptoBulk d + 1
  | (_, d) => uptoBulk d + 1
 end
def uptoSmall : (H : Type) → List (DataW H) → Bool := fun _ ds => decide (uptoBulkAll ds ≤ 1048576)
def OpenSpec.upto (s : _root_.Go.ChangeSpec) : _root_.Go.OpenSpec := { _root_.Go.OpenSpec.ofChange s with cond := some uptoSmall }

/-- 'culpritlaw27.GuiltSets', WHERE WHAT IT READS IS OF BULK AT MOST 1048576: true; the input reads as it did. -/
def guiltSetsUptoRow : OpenClaim := { program := "ytcbjemjohacbpaa", sum := "287ba28b0a278f0a948fa316ea76d30c7b8d56ac0ef73e8668a05cc1066e9afa", func := "culprit/culpritlaw27.GuiltSets", spec := "guiltSets", unfollowed := true, recurses := true, plainKeys := false, apart := false, narrowed := true }
def GuiltSetsUptoSaid : Prop := guiltSetsUptoRow.holds Try.pinned (OpenSpec.upto guiltSetsSpec)

/-- 'culpritlaw27.GuiltHides', WHERE WHAT IT READS IS OF BULK AT MOST 1048576: true; the input reads as it did. -/
def guiltHidesUptoRow : OpenClaim := { program := "ytcbjemjohacbpaa", sum := "287ba28b0a278f0a948fa316ea76d30c7b8d56ac0ef73e8668a05cc1066e9afa", func := "culprit/culpritlaw27.GuiltHides", spec := "guiltHides", unfollowed := true, recurses := true, plainKeys := false, apart := false, narrowed := true }
def GuiltHidesUptoSaid : Prop := guiltHidesUptoRow.holds Try.pinned (OpenSpec.upto guiltHidesSpec)

/-- 'culpritlaw27.GuiltAll', WHERE WHAT IT READS IS OF BULK AT MOST 1048576: true; the input reads as it did. -/
def guiltAllUptoRow : OpenClaim := { program := "ytcbjemjohacbpaa", sum := "287ba28b0a278f0a948fa316ea76d30c7b8d56ac0ef73e8668a05cc1066e9afa", func := "culprit/culpritlaw27.GuiltAll", spec := "guiltAll", unfollowed := true, recurses := true, plainKeys := false, apart := false, narrowed := true }
def GuiltAllUptoSaid : Prop := guiltAllUptoRow.holds Try.pinned (OpenSpec.upto guiltAllSpec)

/-- 'culpritlaw27.GuiltEither', WHERE WHAT IT READS IS OF BULK AT MOST 1048576: true; the input reads as it did. -/
def guiltEitherUptoRow : OpenClaim := { program := "ytcbjemjohacbpaa", sum := "287ba28b0a278f0a948fa316ea76d30c7b8d56ac0ef73e8668a05cc1066e9afa", func := "culprit/culpritlaw27.GuiltEither", spec := "guiltEither", unfollowed := true, recurses := true, plainKeys := false, apart := false, narrowed := true }
def GuiltEitherUptoSaid : Prop := guiltEitherUptoRow.holds Try.pinned (OpenSpec.upto guiltEitherSpec)

/-- 'culpritlaw27.GuiltMore', WHERE WHAT IT READS IS OF BULK AT MOST 1048576: true; the input reads as it did. -/
def guiltMoreUptoRow : OpenClaim := { program := "ytcbjemjohacbpaa", sum := "287ba28b0a278f0a948fa316ea76d30c7b8d56ac0ef73e8668a05cc1066e9afa", func := "culprit/culpritlaw27.GuiltMore", spec := "guiltMore", unfollowed := true, recurses := true, plainKeys := false, apart := false, narrowed := true }
def GuiltMoreUptoSaid : Prop := guiltMoreUptoRow.holds Try.pinned (OpenSpec.upto guiltMoreSpec)

/-- 'culpritlaw27.GuiltWithin', WHERE WHAT IT READS IS OF BULK AT MOST 1048576: true; the input reads as it did. -/
def guiltWithinUptoRow : OpenClaim := { program := "ytcbjemjohacbpaa", sum := "287ba28b0a278f0a948fa316ea76d30c7b8d56ac0ef73e8668a05cc1066e9afa", func := "culprit/culpritlaw27.GuiltWithin", spec := "guiltWithin", unfollowed := true, recurses := true, plainKeys := false, apart := false, narrowed := true }
def GuiltWithinUptoSaid : Prop := guiltWithinUptoRow.holds Try.pinned (OpenSpec.upto guiltWithinSpec)

/-- 'culpritlaw27.GuiltProves', WHERE WHAT IT READS IS OF BULK AT MOST 1048576: true; the input reads as it did. -/
def guiltProvesUptoRow : OpenClaim := { program := "ytcbjemjohacbpaa", sum := "287ba28b0a278f0a948fa316ea76d30c7b8d56ac0ef73e8668a05cc1066e9afa", func := "culprit/culpritlaw27.GuiltProves", spec := "guiltProves", unfollowed := true, recurses := true, plainKeys := false, apart := false, narrowed := true }
def GuiltProvesUptoSaid : Prop := guiltProvesUptoRow.holds Try.pinned (OpenSpec.upto guiltProvesSpec)

/-- 'culpritlaw27.GuiltKnown', WHERE WHAT IT READS IS OF BULK AT MOST 1048576: true; the input reads as it did. -/
def guiltKnownUptoRow : OpenClaim := { program := "ytcbjemjohacbpaa", sum := "287ba28b0a278f0a948fa316ea76d30c7b8d56ac0ef73e8668a05cc1066e9afa", func := "culprit/culpritlaw27.GuiltKnown", spec := "guiltKnown", unfollowed := true, recurses := true, plainKeys := false, apart := false, narrowed := true }
def GuiltKnownUptoSaid : Prop := guiltKnownUptoRow.holds Try.pinned (OpenSpec.upto guiltKnownSpec)

end Rows
end Go.Proofs.Ytcbjemjohacbpaa
