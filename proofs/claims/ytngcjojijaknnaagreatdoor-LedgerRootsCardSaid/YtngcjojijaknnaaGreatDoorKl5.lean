/- LedgerRoots: for every input the law returns true, and each argument reads behind the call as it read before; the listed tables are tied to the program's text. No further condition. -/
import Derived.Test.YtngcjojijaknnaaGreatDoorFwB
import Derived.Test.YtngcjojijaknnaaGreatDoorFwD
import Derived.Test.YtngcjojijaknnaaGreatDoorLgA
import Derived.Test.YtngcjojijaknnaaGreatDoorC3
import Derived.Test.YtngcjojijaknnaaGreatDoorCards
import Derived.Test.YtngcjojijaknnaaGreatDoorTie
set_option linter.all false
namespace Go.Proofs.YtngcjojijaknnaaGreatDoor
open Go.Fw Go.ChangeShapes Go.WideShapes Go.ChangeAt Go.RowKit
def kci : List Int := [1116352408, 1899447441, 3049323471, 3921009573, 961987163, 1508970993, 2453635748, 2870763221, 3624381080, 310598401, 607225278, 1426881987, 1925078388, 2162078206, 2614888103, 3248222580, 3835390401, 4022224774, 264347078, 604807628, 770255983, 1249150122, 1555081692, 1996064986, 2554220882, 2821834349, 2952996808, 3210313671, 3336571891, 3584528711, 113926993, 338241895, 666307205, 773529912, 1294757372, 1396182291, 1695183700, 1986661051, 2177026350, 2456956037, 2730485921, 2820302411, 3259730800, 3345764771, 3516065817, 3600352804, 4094571909, 275423344, 430227734, 506948616, 659060556, 883997877, 958139571, 1322822218, 1537002063, 1747873779, 1955562222, 2024104815, 2227730452, 2361852424, 2428436474, 2756734187, 3204031479, 3329325298]
theorem kci_vw : (kci.map fun z => Value.int .u32 z) = Sha.kc.map vw := by kernel_rfl
theorem cLedgerRoots_own : ownKnob Tryz.prog.godebug = none := by kernel_rfl

set_option maxRecDepth 20000 in
theorem cLedgerRoots_contract (H : Type) (enc : TypeId × Value → H) (W : World) (base : Nat) (args : Array Value) (ds gs : List (DataW H)) (before : List MemPlace)
    (hval : ∀ (j : Nat) t v, Tryz.f7.params[j]? = some t → args[j]? = some v → Value.okWide Tryz.prog W .any base t v)
    (hW : DataW.Whole enc Tryz.prog Tryz.f7.params.toList Rows.ledgerRootsSpec.vars false W args.toList ds gs before)
    (hz : (DataW.weightsEach Tryz.prog (Tryz.f7.params.toList ++ (OpenSpec.ofChange Rows.ledgerRootsSpec).bare.plain.varTypes Tryz.prog) (ds ++ gs)).all (· ≤ reachBytes) = true) (hL : laidMetH Tryz.prog Rows.ledgerRootsRow.laid W) :
    Calls Tryz.prog 7 args W fun e W' => ∃ v, e = .returned v ∧ Rows.ledgerRootsSpec.post enc Tryz.prog Tryz.f7 false true false false W args v W' := by
  have hW' := hW
  obtain ⟨p, q, hA0, hV, rfl, hfz, hnd⟩ := hW
  have hA : DataW.TrodAll enc Tryz.prog W 0 (fun _ => true) true Tryz.f7.params.toList args.toList ds p := hA0
  clear hA0
  rw [Tryz.params7] at hA hval
  obtain ⟨rfl, rfl⟩ := trodVars_none hV
  obtain ⟨v0, vs0, d0, ds0, p0, q0, hargs, rfl, rfl, h0, r0⟩ := trodAll_cons hA
  obtain ⟨v1, vs1, d1, ds1, p1, q1, rfl, rfl, rfl, h1, r1⟩ := trodAll_cons r0
  obtain ⟨v2, vs2, d2, ds2, p2, q2, rfl, rfl, rfl, h2, r2⟩ := trodAll_cons r1
  obtain ⟨v3, vs3, d3, ds3, p3, q3, rfl, rfl, rfl, h3, r3⟩ := trodAll_cons r2
  obtain ⟨rfl, rfl, rfl⟩ := trodAll_nil r3
  obtain rfl : args = #[v0, v1, v2, v3] := by cases args; simp_all
  replace hz : (DataW.weightsEach Tryz.prog [22, 22, 3, 3] [d0, d1, d2, d3]).all (· ≤ reachBytes) = true := hz
  obtain ⟨hz0, hz⟩ := weightsEach_cons hz
  obtain ⟨hz1, hz⟩ := weightsEach_cons hz
  obtain ⟨hz2, hz⟩ := weightsEach_cons hz
  obtain ⟨hz3, hz⟩ := weightsEach_cons hz
  obtain ⟨x0, hs0⟩ := arg_sl (E := Go.Fw.encI) Tryz.underlying22 (by kernel_rfl) (by decide) (of_decide_eq_true (by kernel_rfl)) (rd_I Tryz.underlying3) (hval 0 22 v0 rfl rfl) h0 hz0
  obtain ⟨x1, hs1⟩ := arg_sl (E := Go.Fw.encI) Tryz.underlying22 (by kernel_rfl) (by decide) (of_decide_eq_true (by kernel_rfl)) (rd_I Tryz.underlying3) (hval 1 22 v1 rfl rfl) h1 hz1
  obtain ⟨x2, rfl, hl2⟩ := arg_i Tryz.underlying3 (hval 2 3 v2 rfl rfl) h2
  obtain ⟨x3, rfl, hl3⟩ := arg_i Tryz.underlying3 (hval 3 3 v3 rfl rfl) h3
  obtain ⟨bt0, fz0, hg0⟩ := tab_block (P := Tryz.prog) (by kernel_rfl) (Lib.tabIs_of_head (name := "culprit/culpritref02.constants") (k := .u32) (zs := kci) (g := 0) (by kernel_rfl) (by kernel_rfl) Tryz.underlying239 Tryz.underlying220 (by kernel_rfl) (by kernel_rfl) hL)
  have hc0 : W.heap[0]? = some (.cells (Sha.kc.map vw).toArray bt0 fz0) := by rw [← kci_vw]; exact hg0
  obtain ⟨bt1, fz1, hg1⟩ := tab_block (P := Tryz.prog) (by kernel_rfl) (Lib.tabIs_of_head (name := "culprit/hash.constants") (k := .u32) (zs := kci) (g := 1) (by kernel_rfl) (by kernel_rfl) Tryz.underlying239 Tryz.underlying220 (by kernel_rfl) (by kernel_rfl) (laidMet.tail hL))
  have hc1 : W.heap[1]? = some (.cells (Sha.kc.map vw).toArray bt1 fz1) := by rw [← kci_vw]; exact hg1
  have hlaw := llaw5_ct _ x0 _ x1 x2 x3 hl2 hl3 W hs0 hs1 hc0 hc1
  exact Calls.mono hlaw fun e W' ⟨v, zs, hs, he, hS, hr⟩ => ⟨v, he, by rw [hr]; exact law_post (by kernel_rfl) (by kernel_rfl) (tb := 4) (by kernel_rfl) Tryz.underlying4 rfl rfl hW' hS⟩

noncomputable def cLedgerRoots_world (os : Os) : World :=
  { World.holding Tryz.prog os ⟨#[], #[], []⟩ with heap := (((((World.holding Tryz.prog os ⟨#[], #[], []⟩).heap).modify 0 (fun o => match o with
      | .cells _ t frozen => .cells (kci.map fun z => Value.int .u32 z).toArray t frozen
      | o => o))).modify 1 (fun o => match o with
      | .cells _ t frozen => .cells (kci.map fun z => Value.int .u32 z).toArray t frozen
      | o => o)) }

theorem cLedgerRoots_laid_met (os : Os) : laidMet Tryz.prog Rows.ledgerRootsRow.laid ((cLedgerRoots_world os).forCall (fun _ _ => 0) ⟨#[], #[.slice none 0 0, .slice none 0 0, .int .i64 0, .int .i64 0], []⟩).memory :=
  laidMet_of_run' 8 (by kernel_rfl) (by kernel_rfl)

theorem cLedgerRoots_reads (os : Os) {H : Type} (enc : TypeId × Value → H) : ∃ places, DataW.whole enc Tryz.prog ((cLedgerRoots_world os).forCall (fun _ _ => 0) ⟨#[], #[.slice none 0 0, .slice none 0 0, .int .i64 0, .int .i64 0], []⟩).memory Tryz.f7.params.toList Rows.ledgerRootsSpec.vars false (#[.slice none 0 0, .slice none 0 0, .int .i64 0, .int .i64 0] : Array Value).toList 8 = some ([.nil, .nil, .lit (.int .i64 0), .lit (.int .i64 0)], [], places) :=
  ⟨[], by kernel_rfl⟩

set_option maxRecDepth 100000 in
theorem cLedgerRoots_lifted (os : Os) (started : os.Started) (H : Type) (enc : TypeId × Value → H) (F : Stop.Interp) :
    ReturnsInHanded {} Tryz.checked os 7 .any ((OpenSpec.ofChange Rows.ledgerRootsSpec).preRow enc Tryz.prog Tryz.f7 Rows.ledgerRootsRow.domain false Rows.ledgerRootsRow.laid) (((OpenSpec.ofChange Rows.ledgerRootsSpec).at F).post enc Tryz.prog Tryz.f7 false true false false) := by
  obtain ⟨places, hx⟩ := cLedgerRoots_reads os enc
  refine returnsInHanded_of_row (C := Tryz.checked) (s := OpenSpec.ofChange Rows.ledgerRootsSpec) cLedgerRoots_own started (by kernel_rfl) Tryz.func7
    (witness_row_at (enc := enc) (C := Tryz.checked) false (cLedgerRoots_world os) #[.slice none 0 0, .slice none 0 0, .int .i64 0, .int .i64 0] rfl (by kernel_rfl) (by kernel_rfl) (by kernel_rfl)
      (OpenSpec.preRow_of_cond 8 hx (by kernel_rfl) (fun k hk => by cases hk) (by kernel_rfl) (cLedgerRoots_laid_met os))) ?_
  intro W base args ds gs before hval hW _ hcond hz hL _ _
  exact cLedgerRoots_contract H enc W base args ds gs before hval hW hz hL

theorem cLedgerRoots_said : Rows.LedgerRootsSaid :=
  OpenClaim.holds_of_cond 7 Tryz.f7 rfl rfl rfl rfl rfl rfl rfl ⟨rfl, rfl, rfl, rfl, rfl⟩ rfl rfl rfl rfl rfl (by kernel_rfl) Tryz.func7 (by kernel_rfl)
    (of_decide_eq_true (by kernel_rfl)) (by unfold Func.isWrapper; first | (rw [if_pos (by decide +kernel)]; kernel_rfl) | (rw [if_neg (by decide +kernel)]; exact ⟨rfl, rfl⟩))
    (fun os started H enc _ F => by rw [OpenClaim.pre_eq_preRow]; exact cLedgerRoots_lifted os started H enc F)

theorem cLedgerRoots_plain (f : FuncId) (fn : Func) (hf : Tryz.pinned.checked.prog.funcNamed "culprit/culpritlaw41.LedgerRoots" = some f) (hfn : Tryz.pinned.checked.prog.funcs[f]? = some fn) :
    false = Tryz.pinned.checked.prog.looks [] ∧ ∀ (j : Nat) t, fn.params[j]? = some t → Tryz.pinned.checked.prog.wantsStandIn t = false := by
  obtain rfl : f = 7 := Option.some.inj ((show Tryz.prog.funcNamed "culprit/culpritlaw41.LedgerRoots" = some 7 by kernel_rfl).symm.trans hf) |>.symm
  obtain rfl : fn = Tryz.f7 := (Option.some.inj (Tryz.func7.symm.trans hfn)).symm
  refine ⟨by kernel_rfl, fun j t ht => ?_⟩
  rw [Tryz.params7] at ht
  have hm : t ∈ #[22, 22, 3, 3] := Array.mem_of_getElem? ht
  have hall : (#[22, 22, 3, 3] : Array TypeId).all (fun t => !Tryz.prog.wantsStandIn t) = true := by kernel_rfl
  have := Array.all_eq_true_iff_forall_mem.1 hall t hm
  have h2 : Tryz.prog.wantsStandIn t = false := by simpa using this
  exact h2

theorem ledgerRoots_holds : Rows.LedgerRootsCardSaid :=
  Claim7.holds_tied_plain_at .later [] _ _ _ _ cLedgerRoots_said (fun _ h => by cases h) (by kernel_rfl) (fun _ h => by cases h) ledgerRoots_row_tie rfl ⟨rfl, rfl⟩ (by kernel_rfl) rfl cLedgerRoots_plain (by kernel_rfl)
end Go.Proofs.YtngcjojijaknnaaGreatDoor
