/- MerkleCodes: for every input the law returns true, and each argument reads behind the call as it read before; the listed tables are tied to the program's text. No further condition. -/
import Derived.Test.YtdojfnigffeblaaDoorFwA
import Derived.Test.YtdojfnigffeblaaDoorFwB
import Derived.Test.YtdojfnigffeblaaDoorFwD
import Derived.Test.YtdojfnigffeblaaDoorC3
import Derived.Test.YtdojfnigffeblaaDoorCards
import Derived.Test.YtdojfnigffeblaaDoorTie
set_option linter.all false
namespace Go.Proofs.YtdojfnigffeblaaDoor
open Go.Fw Go.ChangeShapes Go.WideShapes Go.ChangeAt Go.RowKit
def kci : List Int := [1116352408, 1899447441, 3049323471, 3921009573, 961987163, 1508970993, 2453635748, 2870763221, 3624381080, 310598401, 607225278, 1426881987, 1925078388, 2162078206, 2614888103, 3248222580, 3835390401, 4022224774, 264347078, 604807628, 770255983, 1249150122, 1555081692, 1996064986, 2554220882, 2821834349, 2952996808, 3210313671, 3336571891, 3584528711, 113926993, 338241895, 666307205, 773529912, 1294757372, 1396182291, 1695183700, 1986661051, 2177026350, 2456956037, 2730485921, 2820302411, 3259730800, 3345764771, 3516065817, 3600352804, 4094571909, 275423344, 430227734, 506948616, 659060556, 883997877, 958139571, 1322822218, 1537002063, 1747873779, 1955562222, 2024104815, 2227730452, 2361852424, 2428436474, 2756734187, 3204031479, 3329325298]
theorem kci_vw : (kci.map fun z => Value.int .u32 z) = Sha.kc.map vw := by kernel_rfl
theorem cMerkleCodes_own : ownKnob Tryd.prog.godebug = none := by kernel_rfl

set_option maxRecDepth 20000 in
theorem cMerkleCodes_contract (H : Type) (enc : TypeId × Value → H) (W : World) (base : Nat) (args : Array Value) (ds gs : List (DataW H)) (before : List MemPlace)
    (hval : ∀ (j : Nat) t v, Tryd.f9.params[j]? = some t → args[j]? = some v → Value.okWide Tryd.prog W .any base t v)
    (hW : DataW.Whole enc Tryd.prog Tryd.f9.params.toList Rows.merkleCodesSpec.vars false W args.toList ds gs before)
    (hz : (DataW.weightsEach Tryd.prog (Tryd.f9.params.toList ++ (OpenSpec.ofChange Rows.merkleCodesSpec).bare.plain.varTypes Tryd.prog) (ds ++ gs)).all (· ≤ reachBytes) = true) (hL : laidMetH Tryd.prog Rows.merkleCodesRow.laid W) :
    Calls Tryd.prog 9 args W fun e W' => ∃ v, e = .returned v ∧ Rows.merkleCodesSpec.post enc Tryd.prog Tryd.f9 false true false false W args v W' := by
  have hW' := hW
  obtain ⟨p, q, hA0, hV, rfl, hfz, hnd⟩ := hW
  have hA : DataW.TrodAll enc Tryd.prog W 0 (fun _ => true) true Tryd.f9.params.toList args.toList ds p := hA0
  clear hA0
  rw [Tryd.params9] at hA hval
  obtain ⟨rfl, rfl⟩ := trodVars_none hV
  obtain ⟨v0, vs0, d0, ds0, p0, q0, hargs, rfl, rfl, h0, r0⟩ := trodAll_cons hA
  obtain ⟨v1, vs1, d1, ds1, p1, q1, rfl, rfl, rfl, h1, r1⟩ := trodAll_cons r0
  obtain ⟨v2, vs2, d2, ds2, p2, q2, rfl, rfl, rfl, h2, r2⟩ := trodAll_cons r1
  obtain ⟨v3, vs3, d3, ds3, p3, q3, rfl, rfl, rfl, h3, r3⟩ := trodAll_cons r2
  obtain ⟨v4, vs4, d4, ds4, p4, q4, rfl, rfl, rfl, h4, r4⟩ := trodAll_cons r3
  obtain ⟨v5, vs5, d5, ds5, p5, q5, rfl, rfl, rfl, h5, r5⟩ := trodAll_cons r4
  obtain ⟨rfl, rfl, rfl⟩ := trodAll_nil r5
  obtain rfl : args = #[v0, v1, v2, v3, v4, v5] := by cases args; simp_all
  replace hz : (DataW.weightsEach Tryd.prog [22, 3, 3, 3, 3, 39] [d0, d1, d2, d3, d4, d5]).all (· ≤ reachBytes) = true := hz
  obtain ⟨hz0, hz⟩ := weightsEach_cons hz
  obtain ⟨hz1, hz⟩ := weightsEach_cons hz
  obtain ⟨hz2, hz⟩ := weightsEach_cons hz
  obtain ⟨hz3, hz⟩ := weightsEach_cons hz
  obtain ⟨hz4, hz⟩ := weightsEach_cons hz
  obtain ⟨hz5, hz⟩ := weightsEach_cons hz
  obtain ⟨x0, hs0⟩ := arg_sl (E := encI) Tryd.underlying22 (by kernel_rfl) deQ (of_decide_eq_true (by kernel_rfl)) (rd_I Tryd.underlying3) (hval 0 22 v0 rfl rfl) h0 hz0
  obtain ⟨x1, rfl, hl1⟩ := arg_i Tryd.underlying3 (hval 1 3 v1 rfl rfl) h1
  obtain ⟨x2, rfl, hl2⟩ := arg_i Tryd.underlying3 (hval 2 3 v2 rfl rfl) h2
  obtain ⟨x3, rfl, hl3⟩ := arg_i Tryd.underlying3 (hval 3 3 v3 rfl rfl) h3
  obtain ⟨x4, rfl, hl4⟩ := arg_i Tryd.underlying3 (hval 4 3 v4 rfl rfl) h4
  obtain ⟨x5, hs5⟩ := arg_sl (E := encB) Tryd.underlying39 (by kernel_rfl) deQ (of_decide_eq_true (by kernel_rfl)) (rd_B Tryd.underlying5) (hval 5 39 v5 rfl rfl) h5 hz5
  obtain ⟨bt0, fz0, hg0⟩ := tab_block (P := Tryd.prog) (by kernel_rfl) (Lib.tabIs_of_head (name := "culprit/culpritref02.constants") (k := .u32) (zs := kci) (g := 0) (by kernel_rfl) (by kernel_rfl) Tryd.underlying162 Tryd.underlying151 (by kernel_rfl) (by kernel_rfl) hL)
  have hc0 : W.heap[0]? = some (.cells (Sha.kc.map vw).toArray bt0 fz0) := by rw [← kci_vw]; exact hg0
  obtain ⟨bt1, fz1, hg1⟩ := tab_block (P := Tryd.prog) (by kernel_rfl) (Lib.tabIs_of_head (name := "culprit/hash.constants") (k := .u32) (zs := kci) (g := 2) (by kernel_rfl) (by kernel_rfl) Tryd.underlying162 Tryd.underlying151 (by kernel_rfl) (by kernel_rfl) (laidMet.tail hL))
  have hc1 : W.heap[2]? = some (.cells (Sha.kc.map vw).toArray bt1 fz1) := by rw [← kci_vw]; exact hg1
  have hlaw := mlaw7_ct _ _ x0 x1 x2 x3 x4 x5 hl1 hl2 hl3 hl4 W hs0 hs5 hc0 hc1
  exact Calls.mono hlaw fun e W' ⟨v, zs, hs, he, hS, hr⟩ => ⟨v, he, by rw [hr]; exact law_post (by kernel_rfl) (by kernel_rfl) (tb := 4) (by kernel_rfl) Tryd.underlying4 rfl rfl hW' hS⟩

noncomputable def cMerkleCodes_world (os : Os) : World :=
  { World.holding Tryd.prog os ⟨#[], #[], []⟩ with heap := (((((World.holding Tryd.prog os ⟨#[], #[], []⟩).heap).modify 0 (fun o => match o with
      | .cells _ t frozen => .cells (kci.map fun z => Value.int .u32 z).toArray t frozen
      | o => o))).modify 2 (fun o => match o with
      | .cells _ t frozen => .cells (kci.map fun z => Value.int .u32 z).toArray t frozen
      | o => o)) }

theorem cMerkleCodes_laid_met (os : Os) : laidMet Tryd.prog Rows.merkleCodesRow.laid ((cMerkleCodes_world os).forCall (fun _ _ => 0) ⟨#[], #[.slice none 0 0, .int .i64 0, .int .i64 0, .int .i64 0, .int .i64 0, .slice none 0 0], []⟩).memory :=
  laidMet_of_run' 8 (by kernel_rfl) (by kernel_rfl)

theorem cMerkleCodes_reads (os : Os) {H : Type} (enc : TypeId × Value → H) : ∃ places, DataW.whole enc Tryd.prog ((cMerkleCodes_world os).forCall (fun _ _ => 0) ⟨#[], #[.slice none 0 0, .int .i64 0, .int .i64 0, .int .i64 0, .int .i64 0, .slice none 0 0], []⟩).memory Tryd.f9.params.toList Rows.merkleCodesSpec.vars false (#[.slice none 0 0, .int .i64 0, .int .i64 0, .int .i64 0, .int .i64 0, .slice none 0 0] : Array Value).toList 8 = some ([.nil, .lit (.int .i64 0), .lit (.int .i64 0), .lit (.int .i64 0), .lit (.int .i64 0), .nil], [], places) :=
  ⟨[], by kernel_rfl⟩

set_option maxRecDepth 100000 in
theorem cMerkleCodes_lifted (os : Os) (started : os.Started) (H : Type) (enc : TypeId × Value → H) (F : Stop.Interp) :
    ReturnsInHanded {} Tryd.checked os 9 .any ((OpenSpec.ofChange Rows.merkleCodesSpec).preRow enc Tryd.prog Tryd.f9 Rows.merkleCodesRow.domain false Rows.merkleCodesRow.laid) (((OpenSpec.ofChange Rows.merkleCodesSpec).at F).post enc Tryd.prog Tryd.f9 false true false false) := by
  obtain ⟨places, hx⟩ := cMerkleCodes_reads os enc
  refine returnsInHanded_of_row (C := Tryd.checked) (s := OpenSpec.ofChange Rows.merkleCodesSpec) cMerkleCodes_own started (by kernel_rfl) Tryd.func9
    (witness_row_at (enc := enc) (C := Tryd.checked) false (cMerkleCodes_world os) #[.slice none 0 0, .int .i64 0, .int .i64 0, .int .i64 0, .int .i64 0, .slice none 0 0] rfl (by kernel_rfl) (by kernel_rfl) (by kernel_rfl)
      (OpenSpec.preRow_of_cond 8 hx (by kernel_rfl) (fun k hk => by cases hk) (by kernel_rfl) (cMerkleCodes_laid_met os))) ?_
  intro W base args ds gs before hval hW _ hcond hz hL _ _
  exact cMerkleCodes_contract H enc W base args ds gs before hval hW hz hL

theorem cMerkleCodes_said : Rows.MerkleCodesSaid :=
  OpenClaim.holds_of_cond 9 Tryd.f9 rfl rfl rfl rfl rfl rfl rfl ⟨rfl, rfl, rfl, rfl, rfl⟩ rfl rfl rfl rfl rfl (by kernel_rfl) Tryd.func9 (by kernel_rfl)
    (of_decide_eq_true (by kernel_rfl)) (by unfold Func.isWrapper; first | (rw [if_pos (by decide +kernel)]; kernel_rfl) | (rw [if_neg (by decide +kernel)]; exact ⟨rfl, rfl⟩))
    (fun os started H enc _ F => by rw [OpenClaim.pre_eq_preRow]; exact cMerkleCodes_lifted os started H enc F)

theorem cMerkleCodes_plain (f : FuncId) (fn : Func) (hf : Tryd.pinned.checked.prog.funcNamed "culprit/culpritlaw04.MerkleCodes" = some f) (hfn : Tryd.pinned.checked.prog.funcs[f]? = some fn) :
    false = Tryd.pinned.checked.prog.looks [] ∧ ∀ (j : Nat) t, fn.params[j]? = some t → Tryd.pinned.checked.prog.wantsStandIn t = false := by
  obtain rfl : f = 9 := Option.some.inj ((show Tryd.prog.funcNamed "culprit/culpritlaw04.MerkleCodes" = some 9 by kernel_rfl).symm.trans hf) |>.symm
  obtain rfl : fn = Tryd.f9 := (Option.some.inj (Tryd.func9.symm.trans hfn)).symm
  refine ⟨by kernel_rfl, fun j t ht => ?_⟩
  rw [Tryd.params9] at ht
  have hm : t ∈ #[22, 3, 3, 3, 3, 39] := Array.mem_of_getElem? ht
  have hall : (#[22, 3, 3, 3, 3, 39] : Array TypeId).all (fun t => !Tryd.prog.wantsStandIn t) = true := by kernel_rfl
  have := Array.all_eq_true_iff_forall_mem.1 hall t hm
  have h2 : Tryd.prog.wantsStandIn t = false := by simpa using this
  exact h2

theorem merkleCodes_holds : Rows.MerkleCodesCardSaid :=
  Claim7.holds_tied_plain_at .later [] _ _ _ _ cMerkleCodes_said (fun _ h => by cases h) (by kernel_rfl) (fun _ h => by cases h) merkleCodes_row_tie rfl ⟨rfl, rfl⟩ (by kernel_rfl) rfl cMerkleCodes_plain (by kernel_rfl)
end Go.Proofs.YtdojfnigffeblaaDoor
