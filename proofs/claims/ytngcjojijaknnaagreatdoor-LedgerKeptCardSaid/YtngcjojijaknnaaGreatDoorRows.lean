/-
  NARROWER THAN 'FOR EVERY INPUT', by the rows' own cells (each row's printed sentence says how): LedgerCodes: laid · LedgerKnows: laid · LedgerRots: laid · LedgerThen: laid · LedgerRoots: laid · LedgerRuns: laid · LedgerKept: laid.
  DERIVED. THE GIVEN ROWS OF THIS SEAT. 7 by the template 'for every input the law returns true; each argument reads behind the call as it read before'; 0 by the template 'total and deterministic' (their statements: YtngcjojijaknnaaGreatDoorTotals.lean).
  GIVEN WITH THE SEED: the statements are not yours to turn. If you find one false, say at which input.
  Laid BY PROGRAM, IN A SANDBOX (cutbox-rows.mjs): the forced cells as the released guide's own fill.sh prints them over the translation 150d8e0de6db328a… (all of the seat's roots in one cut). By AI agents, Wed Nov 11 2026. No macro, syntax, notation, axiom, sorry.
-/
import Derived.Test.YtngcjojijaknnaaGreatDoorChecked
import GoSem.Claim
import GoSem.ClaimJoined
import GoSem.ClaimMapViews
import Derived.JoinedTies
import Derived.KernelRfl
namespace Go.Proofs.YtngcjojijaknnaaGreatDoor
/- THE CELL 'sum', in the pinned program and in every row, IS THE sha256 OF THE DUMP (.gsa) THAT YtngcjojijaknnaaGreatDoorProg.lean LOADS. Nothing in Lean hashes anything: it is a label: what it is worth is what the hold of that sum in a sandbox is worth. -/
noncomputable def Tryz.pinned : Pinned := { name := "ytngcjojijaknnaagreatdoor", sum := "150d8e0de6db328a3b17a36610f9d92564ccb50839c201d9ee2e509cdfae56a1", checked := Tryz.checked }
namespace Rows
def none {H : Type} : Left H := { results := [], args := [] }

/- WHAT THE LISTED PACKAGE-LEVEL VARIABLES READ AS WHEN THE CALL BEGINS. Each datum BY PROGRAM (the guide's laid-datum.mjs) off the statement by which the dump's own 'gosem.cut.vars' lays the variable. In a bare row this is a premise. The card (YtngcjojijaknnaaGreatDoorCards.lean) ties it to the program's text. -/
def laid_culprit_hash_constants {H : Type} : DataW H := .agg [.lit (.int .u32 1116352408), .lit (.int .u32 1899447441), .lit (.int .u32 3049323471), .lit (.int .u32 3921009573), .lit (.int .u32 961987163), .lit (.int .u32 1508970993), .lit (.int .u32 2453635748), .lit (.int .u32 2870763221), .lit (.int .u32 3624381080), .lit (.int .u32 310598401), .lit (.int .u32 607225278), .lit (.int .u32 1426881987), .lit (.int .u32 1925078388), .lit (.int .u32 2162078206), .lit (.int .u32 2614888103), .lit (.int .u32 3248222580), .lit (.int .u32 3835390401), .lit (.int .u32 4022224774), .lit (.int .u32 264347078), .lit (.int .u32 604807628), .lit (.int .u32 770255983), .lit (.int .u32 1249150122), .lit (.int .u32 1555081692), .lit (.int .u32 1996064986), .lit (.int .u32 2554220882), .lit (.int .u32 2821834349), .lit (.int .u32 2952996808), .lit (.int .u32 3210313671), .lit (.int .u32 3336571891), .lit (.int .u32 3584528711), .lit (.int .u32 113926993), .lit (.int .u32 338241895), .lit (.int .u32 666307205), .lit (.int .u32 773529912), .lit (.int .u32 1294757372), .lit (.int .u32 1396182291), .lit (.int .u32 1695183700), .lit (.int .u32 1986661051), .lit (.int .u32 2177026350), .lit (.int .u32 2456956037), .lit (.int .u32 2730485921), .lit (.int .u32 2820302411), .lit (.int .u32 3259730800), .lit (.int .u32 3345764771), .lit (.int .u32 3516065817), .lit (.int .u32 3600352804), .lit (.int .u32 4094571909), .lit (.int .u32 275423344), .lit (.int .u32 430227734), .lit (.int .u32 506948616), .lit (.int .u32 659060556), .lit (.int .u32 883997877), .lit (.int .u32 958139571), .lit (.int .u32 1322822218), .lit (.int .u32 1537002063), .lit (.int .u32 1747873779), .lit (.int .u32 1955562222), .lit (.int .u32 2024104815), .lit (.int .u32 2227730452), .lit (.int .u32 2361852424), .lit (.int .u32 2428436474), .lit (.int .u32 2756734187), .lit (.int .u32 3204031479), .lit (.int .u32 3329325298)]
def laid_culprit_culpritref02_constants {H : Type} : DataW H := .agg [.lit (.int .u32 1116352408), .lit (.int .u32 1899447441), .lit (.int .u32 3049323471), .lit (.int .u32 3921009573), .lit (.int .u32 961987163), .lit (.int .u32 1508970993), .lit (.int .u32 2453635748), .lit (.int .u32 2870763221), .lit (.int .u32 3624381080), .lit (.int .u32 310598401), .lit (.int .u32 607225278), .lit (.int .u32 1426881987), .lit (.int .u32 1925078388), .lit (.int .u32 2162078206), .lit (.int .u32 2614888103), .lit (.int .u32 3248222580), .lit (.int .u32 3835390401), .lit (.int .u32 4022224774), .lit (.int .u32 264347078), .lit (.int .u32 604807628), .lit (.int .u32 770255983), .lit (.int .u32 1249150122), .lit (.int .u32 1555081692), .lit (.int .u32 1996064986), .lit (.int .u32 2554220882), .lit (.int .u32 2821834349), .lit (.int .u32 2952996808), .lit (.int .u32 3210313671), .lit (.int .u32 3336571891), .lit (.int .u32 3584528711), .lit (.int .u32 113926993), .lit (.int .u32 338241895), .lit (.int .u32 666307205), .lit (.int .u32 773529912), .lit (.int .u32 1294757372), .lit (.int .u32 1396182291), .lit (.int .u32 1695183700), .lit (.int .u32 1986661051), .lit (.int .u32 2177026350), .lit (.int .u32 2456956037), .lit (.int .u32 2730485921), .lit (.int .u32 2820302411), .lit (.int .u32 3259730800), .lit (.int .u32 3345764771), .lit (.int .u32 3516065817), .lit (.int .u32 3600352804), .lit (.int .u32 4094571909), .lit (.int .u32 275423344), .lit (.int .u32 430227734), .lit (.int .u32 506948616), .lit (.int .u32 659060556), .lit (.int .u32 883997877), .lit (.int .u32 958139571), .lit (.int .u32 1322822218), .lit (.int .u32 1537002063), .lit (.int .u32 1747873779), .lit (.int .u32 1955562222), .lit (.int .u32 2024104815), .lit (.int .u32 2227730452), .lit (.int .u32 2361852424), .lit (.int .u32 2428436474), .lit (.int .u32 2756734187), .lit (.int .u32 3204031479), .lit (.int .u32 3329325298)]

/-- 'culpritlaw41.LedgerCodes': WHATEVER THE INPUT: true; the input reads as it did. -/
def ledgerCodesSpec : ChangeSpec := { name := "ledgerCodes", fn := fun _ => fun
  | [d1, d2, d3, d4, d5, d6] => { results := [.lit (.bool true)], args := [d1, d2, d3, d4, d5, d6] }
  | _ => none }
def ledgerCodesRow : OpenClaim := { program := "ytngcjojijaknnaagreatdoor", sum := "150d8e0de6db328a3b17a36610f9d92564ccb50839c201d9ee2e509cdfae56a1", func := "culprit/culpritlaw41.LedgerCodes", spec := "ledgerCodes", unfollowed := true, recurses := true, named := ["culprit/hash.constants"], apart := false, laid := [("culprit/hash.constants", laid_culprit_hash_constants)] }
def LedgerCodesSaid : Prop := ledgerCodesRow.holds Tryz.pinned (OpenSpec.ofChange ledgerCodesSpec)

/-- ITS FALSE NEIGHBOUR: 'it returns false'. Refute it at one input. -/
def ledgerCodesWrong : ChangeSpec := { name := "ledgerCodes", fn := fun _ => fun
  | [d1, d2, d3, d4, d5, d6] => { results := [.lit (.bool false)], args := [d1, d2, d3, d4, d5, d6] }
  | _ => none }
def LedgerCodesWrongFalsely : Prop := ledgerCodesRow.holds Tryz.pinned (OpenSpec.ofChange ledgerCodesWrong)

/-- 'culpritlaw41.LedgerKnows': WHATEVER THE INPUT: true; the input reads as it did. -/
def ledgerKnowsSpec : ChangeSpec := { name := "ledgerKnows", fn := fun _ => fun
  | [d1, d2, d3, d4, d5] => { results := [.lit (.bool true)], args := [d1, d2, d3, d4, d5] }
  | _ => none }
def ledgerKnowsRow : OpenClaim := { program := "ytngcjojijaknnaagreatdoor", sum := "150d8e0de6db328a3b17a36610f9d92564ccb50839c201d9ee2e509cdfae56a1", func := "culprit/culpritlaw41.LedgerKnows", spec := "ledgerKnows", unfollowed := true, recurses := true, named := ["culprit/hash.constants"], apart := false, laid := [("culprit/hash.constants", laid_culprit_hash_constants)] }
def LedgerKnowsSaid : Prop := ledgerKnowsRow.holds Tryz.pinned (OpenSpec.ofChange ledgerKnowsSpec)

/-- ITS FALSE NEIGHBOUR: 'it returns false'. Refute it at one input. -/
def ledgerKnowsWrong : ChangeSpec := { name := "ledgerKnows", fn := fun _ => fun
  | [d1, d2, d3, d4, d5] => { results := [.lit (.bool false)], args := [d1, d2, d3, d4, d5] }
  | _ => none }
def LedgerKnowsWrongFalsely : Prop := ledgerKnowsRow.holds Tryz.pinned (OpenSpec.ofChange ledgerKnowsWrong)

/-- 'culpritlaw41.LedgerRots': WHATEVER THE INPUT: true; the input reads as it did. -/
def ledgerRotsSpec : ChangeSpec := { name := "ledgerRots", fn := fun _ => fun
  | [d1, d2, d3] => { results := [.lit (.bool true)], args := [d1, d2, d3] }
  | _ => none }
def ledgerRotsRow : OpenClaim := { program := "ytngcjojijaknnaagreatdoor", sum := "150d8e0de6db328a3b17a36610f9d92564ccb50839c201d9ee2e509cdfae56a1", func := "culprit/culpritlaw41.LedgerRots", spec := "ledgerRots", unfollowed := true, recurses := true, named := ["culprit/hash.constants"], apart := false, laid := [("culprit/hash.constants", laid_culprit_hash_constants)] }
def LedgerRotsSaid : Prop := ledgerRotsRow.holds Tryz.pinned (OpenSpec.ofChange ledgerRotsSpec)

/-- ITS FALSE NEIGHBOUR: 'it returns false'. Refute it at one input. -/
def ledgerRotsWrong : ChangeSpec := { name := "ledgerRots", fn := fun _ => fun
  | [d1, d2, d3] => { results := [.lit (.bool false)], args := [d1, d2, d3] }
  | _ => none }
def LedgerRotsWrongFalsely : Prop := ledgerRotsRow.holds Tryz.pinned (OpenSpec.ofChange ledgerRotsWrong)

/-- 'culpritlaw41.LedgerThen': WHATEVER THE INPUT: true; the input reads as it did. -/
def ledgerThenSpec : ChangeSpec := { name := "ledgerThen", fn := fun _ => fun
  | [d1, d2, d3] => { results := [.lit (.bool true)], args := [d1, d2, d3] }
  | _ => none }
def ledgerThenRow : OpenClaim := { program := "ytngcjojijaknnaagreatdoor", sum := "150d8e0de6db328a3b17a36610f9d92564ccb50839c201d9ee2e509cdfae56a1", func := "culprit/culpritlaw41.LedgerThen", spec := "ledgerThen", unfollowed := true, recurses := true, named := ["culprit/hash.constants"], apart := false, laid := [("culprit/hash.constants", laid_culprit_hash_constants)] }
def LedgerThenSaid : Prop := ledgerThenRow.holds Tryz.pinned (OpenSpec.ofChange ledgerThenSpec)

/-- ITS FALSE NEIGHBOUR: 'it returns false'. Refute it at one input. -/
def ledgerThenWrong : ChangeSpec := { name := "ledgerThen", fn := fun _ => fun
  | [d1, d2, d3] => { results := [.lit (.bool false)], args := [d1, d2, d3] }
  | _ => none }
def LedgerThenWrongFalsely : Prop := ledgerThenRow.holds Tryz.pinned (OpenSpec.ofChange ledgerThenWrong)

/-- 'culpritlaw41.LedgerRoots': WHATEVER THE INPUT: true; the input reads as it did. -/
def ledgerRootsSpec : ChangeSpec := { name := "ledgerRoots", fn := fun _ => fun
  | [d1, d2, d3, d4] => { results := [.lit (.bool true)], args := [d1, d2, d3, d4] }
  | _ => none }
def ledgerRootsRow : OpenClaim := { program := "ytngcjojijaknnaagreatdoor", sum := "150d8e0de6db328a3b17a36610f9d92564ccb50839c201d9ee2e509cdfae56a1", func := "culprit/culpritlaw41.LedgerRoots", spec := "ledgerRoots", unfollowed := true, recurses := true, named := ["culprit/hash.constants", "culprit/culpritref02.constants"], apart := false, laid := [("culprit/culpritref02.constants", laid_culprit_culpritref02_constants), ("culprit/hash.constants", laid_culprit_hash_constants)] }
def LedgerRootsSaid : Prop := ledgerRootsRow.holds Tryz.pinned (OpenSpec.ofChange ledgerRootsSpec)

/-- ITS FALSE NEIGHBOUR: 'it returns false'. Refute it at one input. -/
def ledgerRootsWrong : ChangeSpec := { name := "ledgerRoots", fn := fun _ => fun
  | [d1, d2, d3, d4] => { results := [.lit (.bool false)], args := [d1, d2, d3, d4] }
  | _ => none }
def LedgerRootsWrongFalsely : Prop := ledgerRootsRow.holds Tryz.pinned (OpenSpec.ofChange ledgerRootsWrong)

/-- 'culpritlaw41.LedgerRuns': WHATEVER THE INPUT: true; the input reads as it did. -/
def ledgerRunsSpec : ChangeSpec := { name := "ledgerRuns", fn := fun _ => fun
  | [d1, d2] => { results := [.lit (.bool true)], args := [d1, d2] }
  | _ => none }
def ledgerRunsRow : OpenClaim := { program := "ytngcjojijaknnaagreatdoor", sum := "150d8e0de6db328a3b17a36610f9d92564ccb50839c201d9ee2e509cdfae56a1", func := "culprit/culpritlaw41.LedgerRuns", spec := "ledgerRuns", unfollowed := true, recurses := true, named := ["culprit/hash.constants", "culprit/culpritref02.constants"], apart := false, laid := [("culprit/culpritref02.constants", laid_culprit_culpritref02_constants), ("culprit/hash.constants", laid_culprit_hash_constants)] }
def LedgerRunsSaid : Prop := ledgerRunsRow.holds Tryz.pinned (OpenSpec.ofChange ledgerRunsSpec)

/-- ITS FALSE NEIGHBOUR: 'it returns false'. Refute it at one input. -/
def ledgerRunsWrong : ChangeSpec := { name := "ledgerRuns", fn := fun _ => fun
  | [d1, d2] => { results := [.lit (.bool false)], args := [d1, d2] }
  | _ => none }
def LedgerRunsWrongFalsely : Prop := ledgerRunsRow.holds Tryz.pinned (OpenSpec.ofChange ledgerRunsWrong)

/-- 'culpritlaw41.LedgerKept': WHATEVER THE INPUT: true; the input reads as it did. -/
def ledgerKeptSpec : ChangeSpec := { name := "ledgerKept", fn := fun _ => fun
  | [d1, d2, d3, d4, d5] => { results := [.lit (.bool true)], args := [d1, d2, d3, d4, d5] }
  | _ => none }
def ledgerKeptRow : OpenClaim := { program := "ytngcjojijaknnaagreatdoor", sum := "150d8e0de6db328a3b17a36610f9d92564ccb50839c201d9ee2e509cdfae56a1", func := "culprit/culpritlaw41.LedgerKept", spec := "ledgerKept", unfollowed := true, recurses := true, named := ["culprit/hash.constants", "culprit/culpritref02.constants"], apart := false, laid := [("culprit/culpritref02.constants", laid_culprit_culpritref02_constants), ("culprit/hash.constants", laid_culprit_hash_constants)] }
def LedgerKeptSaid : Prop := ledgerKeptRow.holds Tryz.pinned (OpenSpec.ofChange ledgerKeptSpec)

/-- ITS FALSE NEIGHBOUR: 'it returns false'. Refute it at one input. -/
def ledgerKeptWrong : ChangeSpec := { name := "ledgerKept", fn := fun _ => fun
  | [d1, d2, d3, d4, d5] => { results := [.lit (.bool false)], args := [d1, d2, d3, d4, d5] }
  | _ => none }
def LedgerKeptWrongFalsely : Prop := ledgerKeptRow.holds Tryz.pinned (OpenSpec.ofChange ledgerKeptWrong)

/- THE SECOND FORM. 'bulk': how many values and letters a reading holds, each counted each time it is reached (what is shared counts as often as it is met; a slice's spare places count too). A statement '..UptoSaid' is the law's where the arguments, and the package variables that the reading takes, are together of bulk at most 1048576: NARROWER than '..Said'. Prove '..Said' where nothing that the law and all that it calls make is longer than what came in: it says more and counts as full. Else prove '..UptoSaid'. A law counts once. -/
mutual
def uptoBulk {H : Type} : DataW H → Nat
  | .lit (.string bytes) => bytes.length + 1
  | .lit _ => 1
  | .nil => 1
  | .ptr d => uptoBulk d + 1
  | .slice elems spare => uptoBulkAll elems + uptoBulkAll spare + 1
  | .agg parts => uptoBulkAll parts + 1
  | .iface _ d => uptoBulk d + 1
  | .map entries => uptoBulkEntries entries + 1
  | .held _ => 1
def uptoBulkAll {H : Type} : List (DataW H) → Nat
  | [] => 0
  | d :: r => uptoBulk d + uptoBulkAll r
def uptoBulkEntries {H : Type} : List (Lit × DataW H) → Nat
  | [] => 0
  | x :: r => uptoBulkEntry x + uptoBulkEntries r
def uptoBulkEntry {H : Type} : Lit × DataW H → Nat
  | (.string bytes, d) => bytes.length + uptoBulk d + 1
  | (_, d) => uptoBulk d + 1
 end
def uptoSmall : (H : Type) → List (DataW H) → Bool := fun _ ds => decide (uptoBulkAll ds ≤ 1048576)
def OpenSpec.upto (s : _root_.Go.ChangeSpec) : _root_.Go.OpenSpec := { _root_.Go.OpenSpec.ofChange s with cond := some uptoSmall }

/-- 'culpritlaw41.LedgerCodes', WHERE WHAT IT READS IS OF BULK AT MOST 1048576: true; the input reads as it did. -/
def ledgerCodesUptoRow : OpenClaim := { program := "ytngcjojijaknnaagreatdoor", sum := "150d8e0de6db328a3b17a36610f9d92564ccb50839c201d9ee2e509cdfae56a1", func := "culprit/culpritlaw41.LedgerCodes", spec := "ledgerCodes", unfollowed := true, recurses := true, named := ["culprit/hash.constants"], apart := false, laid := [("culprit/hash.constants", laid_culprit_hash_constants)], narrowed := true }
def LedgerCodesUptoSaid : Prop := ledgerCodesUptoRow.holds Tryz.pinned (OpenSpec.upto ledgerCodesSpec)

/-- 'culpritlaw41.LedgerKnows', WHERE WHAT IT READS IS OF BULK AT MOST 1048576: true; the input reads as it did. -/
def ledgerKnowsUptoRow : OpenClaim := { program := "ytngcjojijaknnaagreatdoor", sum := "150d8e0de6db328a3b17a36610f9d92564ccb50839c201d9ee2e509cdfae56a1", func := "culprit/culpritlaw41.LedgerKnows", spec := "ledgerKnows", unfollowed := true, recurses := true, named := ["culprit/hash.constants"], apart := false, laid := [("culprit/hash.constants", laid_culprit_hash_constants)], narrowed := true }
def LedgerKnowsUptoSaid : Prop := ledgerKnowsUptoRow.holds Tryz.pinned (OpenSpec.upto ledgerKnowsSpec)

/-- 'culpritlaw41.LedgerRots', WHERE WHAT IT READS IS OF BULK AT MOST 1048576: true; the input reads as it did. -/
def ledgerRotsUptoRow : OpenClaim := { program := "ytngcjojijaknnaagreatdoor", sum := "150d8e0de6db328a3b17a36610f9d92564ccb50839c201d9ee2e509cdfae56a1", func := "culprit/culpritlaw41.LedgerRots", spec := "ledgerRots", unfollowed := true, recurses := true, named := ["culprit/hash.constants"], apart := false, laid := [("culprit/hash.constants", laid_culprit_hash_constants)], narrowed := true }
def LedgerRotsUptoSaid : Prop := ledgerRotsUptoRow.holds Tryz.pinned (OpenSpec.upto ledgerRotsSpec)

/-- 'culpritlaw41.LedgerThen', WHERE WHAT IT READS IS OF BULK AT MOST 1048576: true; the input reads as it did. -/
def ledgerThenUptoRow : OpenClaim := { program := "ytngcjojijaknnaagreatdoor", sum := "150d8e0de6db328a3b17a36610f9d92564ccb50839c201d9ee2e509cdfae56a1", func := "culprit/culpritlaw41.LedgerThen", spec := "ledgerThen", unfollowed := true, recurses := true, named := ["culprit/hash.constants"], apart := false, laid := [("culprit/hash.constants", laid_culprit_hash_constants)], narrowed := true }
def LedgerThenUptoSaid : Prop := ledgerThenUptoRow.holds Tryz.pinned (OpenSpec.upto ledgerThenSpec)

/-- 'culpritlaw41.LedgerRoots', WHERE WHAT IT READS IS OF BULK AT MOST 1048576: true; the input reads as it did. -/
def ledgerRootsUptoRow : OpenClaim := { program := "ytngcjojijaknnaagreatdoor", sum := "150d8e0de6db328a3b17a36610f9d92564ccb50839c201d9ee2e509cdfae56a1", func := "culprit/culpritlaw41.LedgerRoots", spec := "ledgerRoots", unfollowed := true, recurses := true, named := ["culprit/hash.constants", "culprit/culpritref02.constants"], apart := false, laid := [("culprit/culpritref02.constants", laid_culprit_culpritref02_constants), ("culprit/hash.constants", laid_culprit_hash_constants)], narrowed := true }
def LedgerRootsUptoSaid : Prop := ledgerRootsUptoRow.holds Tryz.pinned (OpenSpec.upto ledgerRootsSpec)

/-- 'culpritlaw41.LedgerRuns', WHERE WHAT IT READS IS OF BULK AT MOST 1048576: true; the input reads as it did. -/
def ledgerRunsUptoRow : OpenClaim := { program := "ytngcjojijaknnaagreatdoor", sum := "150d8e0de6db328a3b17a36610f9d92564ccb50839c201d9ee2e509cdfae56a1", func := "culprit/culpritlaw41.LedgerRuns", spec := "ledgerRuns", unfollowed := true, recurses := true, named := ["culprit/hash.constants", "culprit/culpritref02.constants"], apart := false, laid := [("culprit/culpritref02.constants", laid_culprit_culpritref02_constants), ("culprit/hash.constants", laid_culprit_hash_constants)], narrowed := true }
def LedgerRunsUptoSaid : Prop := ledgerRunsUptoRow.holds Tryz.pinned (OpenSpec.upto ledgerRunsSpec)

/-- 'culpritlaw41.LedgerKept', WHERE WHAT IT READS IS OF BULK AT MOST 1048576: true; the input reads as it did. -/
def ledgerKeptUptoRow : OpenClaim := { program := "ytngcjojijaknnaagreatdoor", sum := "150d8e0de6db328a3b17a36610f9d92564ccb50839c201d9ee2e509cdfae56a1", func := "culprit/culpritlaw41.LedgerKept", spec := "ledgerKept", unfollowed := true, recurses := true, named := ["culprit/hash.constants", "culprit/culpritref02.constants"], apart := false, laid := [("culprit/culpritref02.constants", laid_culprit_culpritref02_constants), ("culprit/hash.constants", laid_culprit_hash_constants)], narrowed := true }
def LedgerKeptUptoSaid : Prop := ledgerKeptUptoRow.holds Tryz.pinned (OpenSpec.upto ledgerKeptSpec)

end Rows
end Go.Proofs.YtngcjojijaknnaaGreatDoor
