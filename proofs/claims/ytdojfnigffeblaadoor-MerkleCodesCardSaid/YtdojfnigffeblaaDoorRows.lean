/-
  NARROWER THAN 'FOR EVERY INPUT', by the rows' own cells (each row's printed sentence says how): MerkleRoots: laid · MerkleProves: laid · MerkleChecks: laid · MerkleComplete: laid · MerkleSound: laid · MerkleBinds: laid · MerkleCodes: laid.
  DERIVED. THE GIVEN ROWS OF THIS SEAT. 7 by the template 'for every input the law returns true; each argument reads behind the call as it read before'; 0 by the template 'total and deterministic' (their statements: YtdojfnigffeblaaDoorTotals.lean).
  GIVEN WITH THE SEED: the statements are not yours to turn. If you find one false, say at which input.
  Laid BY PROGRAM, IN A SANDBOX (cutbox-rows.mjs): the forced cells as the released guide's own fill.sh prints them over the translation f470e5a45aaa1612… (all of the seat's roots in one cut). By AI agents, Wed Nov 11 2026. No macro, syntax, notation, axiom, sorry.
-/
import Derived.Test.YtdojfnigffeblaaDoorChecked
import GoSem.Claim
import GoSem.ClaimJoined
import GoSem.ClaimMapViews
import Derived.JoinedTies
import Derived.KernelRfl
namespace Go.Proofs.YtdojfnigffeblaaDoor
/- THE CELL 'sum', in the pinned program and in every row, IS THE sha256 OF THE DUMP (.gsa) THAT YtdojfnigffeblaaDoorProg.lean LOADS. Nothing in Lean hashes anything: it is a label: what it is worth is what the hold of that sum in a sandbox is worth. -/
noncomputable def Tryd.pinned : Pinned := { name := "ytdojfnigffeblaadoor", sum := "f470e5a45aaa1612bfa98c686de755ecc8d40cc585f06cba296edc812ebaf33a", checked := Tryd.checked }
namespace Rows
def none {H : Type} : Left H := { results := [], args := [] }

/- WHAT THE LISTED PACKAGE-LEVEL VARIABLES READ AS WHEN THE CALL BEGINS. Each datum BY PROGRAM (the guide's laid-datum.mjs) off the statement by which the dump's own 'gosem.cut.vars' lays the variable. In a bare row this is a premise. The card (YtdojfnigffeblaaDoorCards.lean) ties it to the program's text. -/
def laid_culprit_culpritref02_constants {H : Type} : DataW H := .agg [.lit (.int .u32 1116352408), .lit (.int .u32 1899447441), .lit (.int .u32 3049323471), .lit (.int .u32 3921009573), .lit (.int .u32 961987163), .lit (.int .u32 1508970993), .lit (.int .u32 2453635748), .lit (.int .u32 2870763221), .lit (.int .u32 3624381080), .lit (.int .u32 310598401), .lit (.int .u32 607225278), .lit (.int .u32 1426881987), .lit (.int .u32 1925078388), .lit (.int .u32 2162078206), .lit (.int .u32 2614888103), .lit (.int .u32 3248222580), .lit (.int .u32 3835390401), .lit (.int .u32 4022224774), .lit (.int .u32 264347078), .lit (.int .u32 604807628), .lit (.int .u32 770255983), .lit (.int .u32 1249150122), .lit (.int .u32 1555081692), .lit (.int .u32 1996064986), .lit (.int .u32 2554220882), .lit (.int .u32 2821834349), .lit (.int .u32 2952996808), .lit (.int .u32 3210313671), .lit (.int .u32 3336571891), .lit (.int .u32 3584528711), .lit (.int .u32 113926993), .lit (.int .u32 338241895), .lit (.int .u32 666307205), .lit (.int .u32 773529912), .lit (.int .u32 1294757372), .lit (.int .u32 1396182291), .lit (.int .u32 1695183700), .lit (.int .u32 1986661051), .lit (.int .u32 2177026350), .lit (.int .u32 2456956037), .lit (.int .u32 2730485921), .lit (.int .u32 2820302411), .lit (.int .u32 3259730800), .lit (.int .u32 3345764771), .lit (.int .u32 3516065817), .lit (.int .u32 3600352804), .lit (.int .u32 4094571909), .lit (.int .u32 275423344), .lit (.int .u32 430227734), .lit (.int .u32 506948616), .lit (.int .u32 659060556), .lit (.int .u32 883997877), .lit (.int .u32 958139571), .lit (.int .u32 1322822218), .lit (.int .u32 1537002063), .lit (.int .u32 1747873779), .lit (.int .u32 1955562222), .lit (.int .u32 2024104815), .lit (.int .u32 2227730452), .lit (.int .u32 2361852424), .lit (.int .u32 2428436474), .lit (.int .u32 2756734187), .lit (.int .u32 3204031479), .lit (.int .u32 3329325298)]
def laid_culprit_hash_constants {H : Type} : DataW H := .agg [.lit (.int .u32 1116352408), .lit (.int .u32 1899447441), .lit (.int .u32 3049323471), .lit (.int .u32 3921009573), .lit (.int .u32 961987163), .lit (.int .u32 1508970993), .lit (.int .u32 2453635748), .lit (.int .u32 2870763221), .lit (.int .u32 3624381080), .lit (.int .u32 310598401), .lit (.int .u32 607225278), .lit (.int .u32 1426881987), .lit (.int .u32 1925078388), .lit (.int .u32 2162078206), .lit (.int .u32 2614888103), .lit (.int .u32 3248222580), .lit (.int .u32 3835390401), .lit (.int .u32 4022224774), .lit (.int .u32 264347078), .lit (.int .u32 604807628), .lit (.int .u32 770255983), .lit (.int .u32 1249150122), .lit (.int .u32 1555081692), .lit (.int .u32 1996064986), .lit (.int .u32 2554220882), .lit (.int .u32 2821834349), .lit (.int .u32 2952996808), .lit (.int .u32 3210313671), .lit (.int .u32 3336571891), .lit (.int .u32 3584528711), .lit (.int .u32 113926993), .lit (.int .u32 338241895), .lit (.int .u32 666307205), .lit (.int .u32 773529912), .lit (.int .u32 1294757372), .lit (.int .u32 1396182291), .lit (.int .u32 1695183700), .lit (.int .u32 1986661051), .lit (.int .u32 2177026350), .lit (.int .u32 2456956037), .lit (.int .u32 2730485921), .lit (.int .u32 2820302411), .lit (.int .u32 3259730800), .lit (.int .u32 3345764771), .lit (.int .u32 3516065817), .lit (.int .u32 3600352804), .lit (.int .u32 4094571909), .lit (.int .u32 275423344), .lit (.int .u32 430227734), .lit (.int .u32 506948616), .lit (.int .u32 659060556), .lit (.int .u32 883997877), .lit (.int .u32 958139571), .lit (.int .u32 1322822218), .lit (.int .u32 1537002063), .lit (.int .u32 1747873779), .lit (.int .u32 1955562222), .lit (.int .u32 2024104815), .lit (.int .u32 2227730452), .lit (.int .u32 2361852424), .lit (.int .u32 2428436474), .lit (.int .u32 2756734187), .lit (.int .u32 3204031479), .lit (.int .u32 3329325298)]

/-- 'culpritlaw04.MerkleRoots': WHATEVER THE INPUT: true; the input reads as it did. -/
def merkleRootsSpec : ChangeSpec := { name := "merkleRoots", fn := fun _ => fun
  | [d1, d2, d3] => { results := [.lit (.bool true)], args := [d1, d2, d3] }
  | _ => none }
def merkleRootsRow : OpenClaim := { program := "ytdojfnigffeblaadoor", sum := "f470e5a45aaa1612bfa98c686de755ecc8d40cc585f06cba296edc812ebaf33a", func := "culprit/culpritlaw04.MerkleRoots", spec := "merkleRoots", inPlace := ["internal/bytealg.abigen_runtime_cmpstring"], unfollowed := true, recurses := true, named := ["culprit/hash.constants", "culprit/culpritref02.constants"], apart := false, laid := [("culprit/culpritref02.constants", laid_culprit_culpritref02_constants), ("culprit/hash.constants", laid_culprit_hash_constants)] }
def MerkleRootsSaid : Prop := merkleRootsRow.holds Tryd.pinned (OpenSpec.ofChange merkleRootsSpec)

/-- ITS FALSE NEIGHBOUR: 'it returns false'. Refute it at one input. -/
def merkleRootsWrong : ChangeSpec := { name := "merkleRoots", fn := fun _ => fun
  | [d1, d2, d3] => { results := [.lit (.bool false)], args := [d1, d2, d3] }
  | _ => none }
def MerkleRootsWrongFalsely : Prop := merkleRootsRow.holds Tryd.pinned (OpenSpec.ofChange merkleRootsWrong)

/-- 'culpritlaw04.MerkleProves': WHATEVER THE INPUT: true; the input reads as it did. -/
def merkleProvesSpec : ChangeSpec := { name := "merkleProves", fn := fun _ => fun
  | [d1, d2, d3, d4, d5] => { results := [.lit (.bool true)], args := [d1, d2, d3, d4, d5] }
  | _ => none }
def merkleProvesRow : OpenClaim := { program := "ytdojfnigffeblaadoor", sum := "f470e5a45aaa1612bfa98c686de755ecc8d40cc585f06cba296edc812ebaf33a", func := "culprit/culpritlaw04.MerkleProves", spec := "merkleProves", inPlace := ["internal/bytealg.abigen_runtime_cmpstring"], unfollowed := true, recurses := true, named := ["culprit/hash.constants", "culprit/culpritref02.constants"], apart := false, laid := [("culprit/culpritref02.constants", laid_culprit_culpritref02_constants), ("culprit/hash.constants", laid_culprit_hash_constants)] }
def MerkleProvesSaid : Prop := merkleProvesRow.holds Tryd.pinned (OpenSpec.ofChange merkleProvesSpec)

/-- ITS FALSE NEIGHBOUR: 'it returns false'. Refute it at one input. -/
def merkleProvesWrong : ChangeSpec := { name := "merkleProves", fn := fun _ => fun
  | [d1, d2, d3, d4, d5] => { results := [.lit (.bool false)], args := [d1, d2, d3, d4, d5] }
  | _ => none }
def MerkleProvesWrongFalsely : Prop := merkleProvesRow.holds Tryd.pinned (OpenSpec.ofChange merkleProvesWrong)

/-- 'culpritlaw04.MerkleChecks': WHATEVER THE INPUT: true; the input reads as it did. -/
def merkleChecksSpec : ChangeSpec := { name := "merkleChecks", fn := fun _ => fun
  | [d1, d2, d3, d4, d5, d6] => { results := [.lit (.bool true)], args := [d1, d2, d3, d4, d5, d6] }
  | _ => none }
def merkleChecksRow : OpenClaim := { program := "ytdojfnigffeblaadoor", sum := "f470e5a45aaa1612bfa98c686de755ecc8d40cc585f06cba296edc812ebaf33a", func := "culprit/culpritlaw04.MerkleChecks", spec := "merkleChecks", inPlace := ["internal/bytealg.abigen_runtime_cmpstring"], unfollowed := true, recurses := true, named := ["culprit/culpritref02.constants", "culprit/hash.constants"], apart := false, laid := [("culprit/culpritref02.constants", laid_culprit_culpritref02_constants), ("culprit/hash.constants", laid_culprit_hash_constants)] }
def MerkleChecksSaid : Prop := merkleChecksRow.holds Tryd.pinned (OpenSpec.ofChange merkleChecksSpec)

/-- ITS FALSE NEIGHBOUR: 'it returns false'. Refute it at one input. -/
def merkleChecksWrong : ChangeSpec := { name := "merkleChecks", fn := fun _ => fun
  | [d1, d2, d3, d4, d5, d6] => { results := [.lit (.bool false)], args := [d1, d2, d3, d4, d5, d6] }
  | _ => none }
def MerkleChecksWrongFalsely : Prop := merkleChecksRow.holds Tryd.pinned (OpenSpec.ofChange merkleChecksWrong)

/-- 'culpritlaw04.MerkleComplete': WHATEVER THE INPUT: true; the input reads as it did. -/
def merkleCompleteSpec : ChangeSpec := { name := "merkleComplete", fn := fun _ => fun
  | [d1, d2, d3] => { results := [.lit (.bool true)], args := [d1, d2, d3] }
  | _ => none }
def merkleCompleteRow : OpenClaim := { program := "ytdojfnigffeblaadoor", sum := "f470e5a45aaa1612bfa98c686de755ecc8d40cc585f06cba296edc812ebaf33a", func := "culprit/culpritlaw04.MerkleComplete", spec := "merkleComplete", inPlace := ["internal/bytealg.abigen_runtime_cmpstring"], unfollowed := true, recurses := true, named := ["culprit/hash.constants"], apart := false, laid := [("culprit/hash.constants", laid_culprit_hash_constants)] }
def MerkleCompleteSaid : Prop := merkleCompleteRow.holds Tryd.pinned (OpenSpec.ofChange merkleCompleteSpec)

/-- ITS FALSE NEIGHBOUR: 'it returns false'. Refute it at one input. -/
def merkleCompleteWrong : ChangeSpec := { name := "merkleComplete", fn := fun _ => fun
  | [d1, d2, d3] => { results := [.lit (.bool false)], args := [d1, d2, d3] }
  | _ => none }
def MerkleCompleteWrongFalsely : Prop := merkleCompleteRow.holds Tryd.pinned (OpenSpec.ofChange merkleCompleteWrong)

/-- 'culpritlaw04.MerkleSound': WHATEVER THE INPUT: true; the input reads as it did. -/
def merkleSoundSpec : ChangeSpec := { name := "merkleSound", fn := fun _ => fun
  | [d1, d2, d3, d4, d5, d6, d7] => { results := [.lit (.bool true)], args := [d1, d2, d3, d4, d5, d6, d7] }
  | _ => none }
def merkleSoundRow : OpenClaim := { program := "ytdojfnigffeblaadoor", sum := "f470e5a45aaa1612bfa98c686de755ecc8d40cc585f06cba296edc812ebaf33a", func := "culprit/culpritlaw04.MerkleSound", spec := "merkleSound", inPlace := ["internal/bytealg.abigen_runtime_cmpstring"], unfollowed := true, recurses := true, named := ["culprit/hash.constants", "culprit/culpritref02.constants"], apart := false, laid := [("culprit/culpritref02.constants", laid_culprit_culpritref02_constants), ("culprit/hash.constants", laid_culprit_hash_constants)] }
def MerkleSoundSaid : Prop := merkleSoundRow.holds Tryd.pinned (OpenSpec.ofChange merkleSoundSpec)

/-- ITS FALSE NEIGHBOUR: 'it returns false'. Refute it at one input. -/
def merkleSoundWrong : ChangeSpec := { name := "merkleSound", fn := fun _ => fun
  | [d1, d2, d3, d4, d5, d6, d7] => { results := [.lit (.bool false)], args := [d1, d2, d3, d4, d5, d6, d7] }
  | _ => none }
def MerkleSoundWrongFalsely : Prop := merkleSoundRow.holds Tryd.pinned (OpenSpec.ofChange merkleSoundWrong)

/-- 'culpritlaw04.MerkleBinds': WHATEVER THE INPUT: true; the input reads as it did. -/
def merkleBindsSpec : ChangeSpec := { name := "merkleBinds", fn := fun _ => fun
  | [d1, d2, d3, d4] => { results := [.lit (.bool true)], args := [d1, d2, d3, d4] }
  | _ => none }
def merkleBindsRow : OpenClaim := { program := "ytdojfnigffeblaadoor", sum := "f470e5a45aaa1612bfa98c686de755ecc8d40cc585f06cba296edc812ebaf33a", func := "culprit/culpritlaw04.MerkleBinds", spec := "merkleBinds", inPlace := ["internal/bytealg.abigen_runtime_cmpstring"], unfollowed := true, recurses := true, named := ["culprit/hash.constants", "culprit/culpritref02.constants"], apart := false, laid := [("culprit/culpritref02.constants", laid_culprit_culpritref02_constants), ("culprit/hash.constants", laid_culprit_hash_constants)] }
def MerkleBindsSaid : Prop := merkleBindsRow.holds Tryd.pinned (OpenSpec.ofChange merkleBindsSpec)

/-- ITS FALSE NEIGHBOUR: 'it returns false'. Refute it at one input. -/
def merkleBindsWrong : ChangeSpec := { name := "merkleBinds", fn := fun _ => fun
  | [d1, d2, d3, d4] => { results := [.lit (.bool false)], args := [d1, d2, d3, d4] }
  | _ => none }
def MerkleBindsWrongFalsely : Prop := merkleBindsRow.holds Tryd.pinned (OpenSpec.ofChange merkleBindsWrong)

/-- 'culpritlaw04.MerkleCodes': WHATEVER THE INPUT: true; the input reads as it did. -/
def merkleCodesSpec : ChangeSpec := { name := "merkleCodes", fn := fun _ => fun
  | [d1, d2, d3, d4, d5, d6] => { results := [.lit (.bool true)], args := [d1, d2, d3, d4, d5, d6] }
  | _ => none }
def merkleCodesRow : OpenClaim := { program := "ytdojfnigffeblaadoor", sum := "f470e5a45aaa1612bfa98c686de755ecc8d40cc585f06cba296edc812ebaf33a", func := "culprit/culpritlaw04.MerkleCodes", spec := "merkleCodes", inPlace := ["internal/bytealg.abigen_runtime_cmpstring"], unfollowed := true, recurses := true, named := ["culprit/culpritref02.constants", "culprit/hash.constants"], apart := false, laid := [("culprit/culpritref02.constants", laid_culprit_culpritref02_constants), ("culprit/hash.constants", laid_culprit_hash_constants)] }
def MerkleCodesSaid : Prop := merkleCodesRow.holds Tryd.pinned (OpenSpec.ofChange merkleCodesSpec)

/-- ITS FALSE NEIGHBOUR: 'it returns false'. Refute it at one input. -/
def merkleCodesWrong : ChangeSpec := { name := "merkleCodes", fn := fun _ => fun
  | [d1, d2, d3, d4, d5, d6] => { results := [.lit (.bool false)], args := [d1, d2, d3, d4, d5, d6] }
  | _ => none }
def MerkleCodesWrongFalsely : Prop := merkleCodesRow.holds Tryd.pinned (OpenSpec.ofChange merkleCodesWrong)

/- THE SECOND FORM. 'bulk': how many values and letters a reading holds, each counted each time it is reached (what is shared counts as often as it is met; a slice's spare places count too). A statement '..UptoSaid' is the law's where the arguments, and the package variables that the reading takes, are together of bulk at most 1048576: NARROWER than '..Said'. Prove '..Said' where nothing that the law and all that it calls make is longer than what came in: it says more and counts as full. Else prove '..UptoSaid'. A law counts once. -/
mutual
def uptoBulk {H : Type} : DataW H → Nat
  | .lit (.string bytes) => bytes.length + 1
  | .lit _ => 1
  | .nil => 1
  | .ptr d => uptoBulk d + 1
  | .slice elems spare => uptoBulkAll elems + uptoBulkAll spare + 1
  | .agg parts => uptoBulkAll parts + 1
  | .iface _ d => uptoBulk d + 1
  | .map entries => uptoBulkEntries entries + 1
  | .held _ => 1
def uptoBulkAll {H : Type} : List (DataW H) → Nat
  | [] => 0
  | d :: r => uptoBulk d + uptoBulkAll r
def uptoBulkEntries {H : Type} : List (Lit × DataW H) → Nat
  | [] => 0
  | x :: r => uptoBulkEntry x + uptoBulkEntries r
def uptoBulkEntry {H : Type} : Lit × DataW H → Nat
  | (.string bytes, d) => bytes.length + uptoBulk d + 1
  | (_, d) => uptoBulk d + 1
 end
def uptoSmall : (H : Type) → List (DataW H) → Bool := fun _ ds => decide (uptoBulkAll ds ≤ 1048576)
def OpenSpec.upto (s : _root_.Go.ChangeSpec) : _root_.Go.OpenSpec := { _root_.Go.OpenSpec.ofChange s with cond := some uptoSmall }

/-- 'culpritlaw04.MerkleRoots', WHERE WHAT IT READS IS OF BULK AT MOST 1048576: true; the input reads as it did. -/
def merkleRootsUptoRow : OpenClaim := { program := "ytdojfnigffeblaadoor", sum := "f470e5a45aaa1612bfa98c686de755ecc8d40cc585f06cba296edc812ebaf33a", func := "culprit/culpritlaw04.MerkleRoots", spec := "merkleRoots", inPlace := ["internal/bytealg.abigen_runtime_cmpstring"], unfollowed := true, recurses := true, named := ["culprit/hash.constants", "culprit/culpritref02.constants"], apart := false, laid := [("culprit/culpritref02.constants", laid_culprit_culpritref02_constants), ("culprit/hash.constants", laid_culprit_hash_constants)], narrowed := true }
def MerkleRootsUptoSaid : Prop := merkleRootsUptoRow.holds Tryd.pinned (OpenSpec.upto merkleRootsSpec)

/-- 'culpritlaw04.MerkleProves', WHERE WHAT IT READS IS OF BULK AT MOST 1048576: true; the input reads as it did. -/
def merkleProvesUptoRow : OpenClaim := { program := "ytdojfnigffeblaadoor", sum := "f470e5a45aaa1612bfa98c686de755ecc8d40cc585f06cba296edc812ebaf33a", func := "culprit/culpritlaw04.MerkleProves", spec := "merkleProves", inPlace := ["internal/bytealg.abigen_runtime_cmpstring"], unfollowed := true, recurses := true, named := ["culprit/hash.constants", "culprit/culpritref02.constants"], apart := false, laid := [("culprit/culpritref02.constants", laid_culprit_culpritref02_constants), ("culprit/hash.constants", laid_culprit_hash_constants)], narrowed := true }
def MerkleProvesUptoSaid : Prop := merkleProvesUptoRow.holds Tryd.pinned (OpenSpec.upto merkleProvesSpec)

/-- 'culpritlaw04.MerkleChecks', WHERE WHAT IT READS IS OF BULK AT MOST 1048576: true; the input reads as it did. -/
def merkleChecksUptoRow : OpenClaim := { program := "ytdojfnigffeblaadoor", sum := "f470e5a45aaa1612bfa98c686de755ecc8d40cc585f06cba296edc812ebaf33a", func := "culprit/culpritlaw04.MerkleChecks", spec := "merkleChecks", inPlace := ["internal/bytealg.abigen_runtime_cmpstring"], unfollowed := true, recurses := true, named := ["culprit/culpritref02.constants", "culprit/hash.constants"], apart := false, laid := [("culprit/culpritref02.constants", laid_culprit_culpritref02_constants), ("culprit/hash.constants", laid_culprit_hash_constants)], narrowed := true }
def MerkleChecksUptoSaid : Prop := merkleChecksUptoRow.holds Tryd.pinned (OpenSpec.upto merkleChecksSpec)

/-- 'culpritlaw04.MerkleComplete', WHERE WHAT IT READS IS OF BULK AT MOST 1048576: true; the input reads as it did. -/
def merkleCompleteUptoRow : OpenClaim := { program := "ytdojfnigffeblaadoor", sum := "f470e5a45aaa1612bfa98c686de755ecc8d40cc585f06cba296edc812ebaf33a", func := "culprit/culpritlaw04.MerkleComplete", spec := "merkleComplete", inPlace := ["internal/bytealg.abigen_runtime_cmpstring"], unfollowed := true, recurses := true, named := ["culprit/hash.constants"], apart := false, laid := [("culprit/hash.constants", laid_culprit_hash_constants)], narrowed := true }
def MerkleCompleteUptoSaid : Prop := merkleCompleteUptoRow.holds Tryd.pinned (OpenSpec.upto merkleCompleteSpec)

/-- 'culpritlaw04.MerkleSound', WHERE WHAT IT READS IS OF BULK AT MOST 1048576: true; the input reads as it did. -/
def merkleSoundUptoRow : OpenClaim := { program := "ytdojfnigffeblaadoor", sum := "f470e5a45aaa1612bfa98c686de755ecc8d40cc585f06cba296edc812ebaf33a", func := "culprit/culpritlaw04.MerkleSound", spec := "merkleSound", inPlace := ["internal/bytealg.abigen_runtime_cmpstring"], unfollowed := true, recurses := true, named := ["culprit/hash.constants", "culprit/culpritref02.constants"], apart := false, laid := [("culprit/culpritref02.constants", laid_culprit_culpritref02_constants), ("culprit/hash.constants", laid_culprit_hash_constants)], narrowed := true }
def MerkleSoundUptoSaid : Prop := merkleSoundUptoRow.holds Tryd.pinned (OpenSpec.upto merkleSoundSpec)

/-- 'culpritlaw04.MerkleBinds', WHERE WHAT IT READS IS OF BULK AT MOST 1048576: true; the input reads as it did. -/
def merkleBindsUptoRow : OpenClaim := { program := "ytdojfnigffeblaadoor", sum := "f470e5a45aaa1612bfa98c686de755ecc8d40cc585f06cba296edc812ebaf33a", func := "culprit/culpritlaw04.MerkleBinds", spec := "merkleBinds", inPlace := ["internal/bytealg.abigen_runtime_cmpstring"], unfollowed := true, recurses := true, named := ["culprit/hash.constants", "culprit/culpritref02.constants"], apart := false, laid := [("culprit/culpritref02.constants", laid_culprit_culpritref02_constants), ("culprit/hash.constants", laid_culprit_hash_constants)], narrowed := true }
def MerkleBindsUptoSaid : Prop := merkleBindsUptoRow.holds Tryd.pinned (OpenSpec.upto merkleBindsSpec)

/-- 'culpritlaw04.MerkleCodes', WHERE WHAT IT READS IS OF BULK AT MOST 1048576: true; the input reads as it did. -/
def merkleCodesUptoRow : OpenClaim := { program := "ytdojfnigffeblaadoor", sum := "f470e5a45aaa1612bfa98c686de755ecc8d40cc585f06cba296edc812ebaf33a", func := "culprit/culpritlaw04.MerkleCodes", spec := "merkleCodes", inPlace := ["internal/bytealg.abigen_runtime_cmpstring"], unfollowed := true, recurses := true, named := ["culprit/culpritref02.constants", "culprit/hash.constants"], apart := false, laid := [("culprit/culpritref02.constants", laid_culprit_culpritref02_constants), ("culprit/hash.constants", laid_culprit_hash_constants)], narrowed := true }
def MerkleCodesUptoSaid : Prop := merkleCodesUptoRow.holds Tryd.pinned (OpenSpec.upto merkleCodesSpec)

end Rows
end Go.Proofs.YtdojfnigffeblaaDoor
