/- LedgerCodes: for every input of bulk at most 1048576 the law returns true, and each argument reads behind the call as it read before; the listed tables are tied to the program's text. No further condition. -/
import Derived.Test.YtngcjojijaknnaaGreatDoorCards
import Derived.Test.YtngcjojijaknnaaGreatDoorTie
import Derived.Test.YtngcjojijaknnaaGreatDoorFwB
import Derived.Test.YtngcjojijaknnaaGreatDoorFwD
import Derived.Test.YtngcjojijaknnaaGreatDoorLgA
import Derived.Test.YtngcjojijaknnaaGreatDoorLl12
set_option linter.all false
namespace Go.Proofs.YtngcjojijaknnaaGreatDoor
open Go.Fw Go.ChangeShapes Go.WideShapes Go.ChangeAt Go.RowKit
def kci : List Int := [1116352408, 1899447441, 3049323471, 3921009573, 961987163, 1508970993, 2453635748, 2870763221, 3624381080, 310598401, 607225278, 1426881987, 1925078388, 2162078206, 2614888103, 3248222580, 3835390401, 4022224774, 264347078, 604807628, 770255983, 1249150122, 1555081692, 1996064986, 2554220882, 2821834349, 2952996808, 3210313671, 3336571891, 3584528711, 113926993, 338241895, 666307205, 773529912, 1294757372, 1396182291, 1695183700, 1986661051, 2177026350, 2456956037, 2730485921, 2820302411, 3259730800, 3345764771, 3516065817, 3600352804, 4094571909, 275423344, 430227734, 506948616, 659060556, 883997877, 958139571, 1322822218, 1537002063, 1747873779, 1955562222, 2024104815, 2227730452, 2361852424, 2428436474, 2756734187, 3204031479, 3329325298]
theorem kci_vw : (kci.map fun z => Value.int .u32 z) = Sha.kc.map vw := by kernel_rfl
theorem bkR {H : Type} : Bk (Rows.uptoBulk (H := H)) Rows.uptoBulkAll where
  str b := by simp only [Rows.uptoBulk]
  sl e s := by simp only [Rows.uptoBulk]
  nil := by simp only [Rows.uptoBulkAll]
  cons d r := by simp only [Rows.uptoBulkAll]
  pos d := by unfold Rows.uptoBulk; split <;> omega
theorem cLedgerCodes_own : ownKnob Tryz.prog.godebug = none := by kernel_rfl

set_option maxRecDepth 20000 in
theorem cLedgerCodes_contract (H : Type) (enc : TypeId × Value → H) (W : World) (base : Nat) (args : Array Value) (ds gs : List (DataW H)) (before : List MemPlace)
    (hval : ∀ (j : Nat) t v, Tryz.f3.params[j]? = some t → args[j]? = some v → Value.okWide Tryz.prog W .any base t v)
    (hW : DataW.Whole enc Tryz.prog Tryz.f3.params.toList Rows.ledgerCodesSpec.vars false W args.toList ds gs before)
    (hz : (DataW.weightsEach Tryz.prog (Tryz.f3.params.toList ++ (OpenSpec.ofChange Rows.ledgerCodesSpec).bare.plain.varTypes Tryz.prog) (ds ++ gs)).all (· ≤ reachBytes) = true) (hL : laidMetH Tryz.prog Rows.ledgerCodesRow.laid W) (hk : Rows.uptoSmall H (ds ++ gs) = true) :
    Calls Tryz.prog 3 args W fun e W' => ∃ v, e = .returned v ∧ Rows.ledgerCodesSpec.post enc Tryz.prog Tryz.f3 false true false false W args v W' := by
  have hW' := hW
  obtain ⟨p, q, hA0, hV, rfl, hfz, hnd⟩ := hW
  have hA : DataW.TrodAll enc Tryz.prog W 0 (fun _ => true) true Tryz.f3.params.toList args.toList ds p := hA0
  clear hA0
  rw [Tryz.params3] at hA hval
  obtain ⟨rfl, rfl⟩ := trodVars_none hV
  obtain ⟨v0, vs0, d0, ds0, p0, q0, hargs, rfl, rfl, h0, r0⟩ := trodAll_cons hA
  obtain ⟨v1, vs1, d1, ds1, p1, q1, rfl, rfl, rfl, h1, r1⟩ := trodAll_cons r0
  obtain ⟨v2, vs2, d2, ds2, p2, q2, rfl, rfl, rfl, h2, r2⟩ := trodAll_cons r1
  obtain ⟨v3, vs3, d3, ds3, p3, q3, rfl, rfl, rfl, h3, r3⟩ := trodAll_cons r2
  obtain ⟨v4, vs4, d4, ds4, p4, q4, rfl, rfl, rfl, h4, r4⟩ := trodAll_cons r3
  obtain ⟨v5, vs5, d5, ds5, p5, q5, rfl, rfl, rfl, h5, r5⟩ := trodAll_cons r4
  obtain ⟨rfl, rfl, rfl⟩ := trodAll_nil r5
  obtain rfl : args = #[v0, v1, v2, v3, v4, v5] := by cases args; simp_all
  replace hz : (DataW.weightsEach Tryz.prog [22, 24, 3, 3, 3, 25] [d0, d1, d2, d3, d4, d5]).all (· ≤ reachBytes) = true := hz
  obtain ⟨hz0, hz⟩ := weightsEach_cons hz
  obtain ⟨hz1, hz⟩ := weightsEach_cons hz
  obtain ⟨hz2, hz⟩ := weightsEach_cons hz
  obtain ⟨hz3, hz⟩ := weightsEach_cons hz
  obtain ⟨hz4, hz⟩ := weightsEach_cons hz
  obtain ⟨hz5, hz⟩ := weightsEach_cons hz
  have hk9 := of_decide_eq_true hk
  simp only [List.cons_append, List.nil_append, List.append_nil, Rows.uptoBulkAll] at hk9
  have hp0 := (bkR (H := H)).pos d0
  have hp1 := (bkR (H := H)).pos d1
  have hp2 := (bkR (H := H)).pos d2
  have hp3 := (bkR (H := H)).pos d3
  have hp4 := (bkR (H := H)).pos d4
  have hp5 := (bkR (H := H)).pos d5
  obtain ⟨x0, hs0, hb0⟩ := arg_slS bkR (E := Go.Fw.encI) Tryz.underlying22 (by kernel_rfl) (by decide) (of_decide_eq_true (by kernel_rfl)) (rds_one bkR (rd_I Tryz.underlying3)) (hval 0 22 v0 rfl rfl) h0 hz0
  obtain ⟨x1, rfl, hl1, hb1⟩ := arg_Y Tryz.underlying24 (rds_Y bkR (by intro l; simp only [Rows.uptoBulk]) Tryz.underlying24 ⟨rfl, rfl, rfl⟩ (by kernel_rfl) (by kernel_rfl) (by kernel_rfl) (by kernel_rfl) Tryz.underlying3 Tryz.underlying9 Tryz.underlying9) (hval 1 24 v1 rfl rfl) h1 hz1
  obtain ⟨x2, rfl, hl2⟩ := arg_i Tryz.underlying3 (hval 2 3 v2 rfl rfl) h2
  obtain ⟨x3, rfl, hl3⟩ := arg_i Tryz.underlying3 (hval 3 3 v3 rfl rfl) h3
  obtain ⟨x4, rfl, hl4⟩ := arg_i Tryz.underlying3 (hval 4 3 v4 rfl rfl) h4
  obtain ⟨x5, hs5, hb5⟩ := arg_slS bkR (E := encB) Tryz.underlying25 (by kernel_rfl) (by decide) (of_decide_eq_true (by kernel_rfl)) (rds_one bkR (rd_B Tryz.underlying5)) (hval 5 25 v5 rfl rfl) h5 hz5
  obtain ⟨bt0, fz0, hg0⟩ := tab_block (P := Tryz.prog) (by kernel_rfl) (Lib.tabIs_of_head (name := "culprit/hash.constants") (k := .u32) (zs := kci) (g := 1) (by kernel_rfl) (by kernel_rfl) Tryz.underlying239 Tryz.underlying220 (by kernel_rfl) (by kernel_rfl) hL)
  have hc1 : W.heap[1]? = some (.cells (Sha.kc.map vw).toArray bt0 fz0) := by rw [← kci_vw]; exact hg0
  have hlaw := llaw1_ct _ x0 x1 x2 x3 x4 _ x5 hl1 ⟨by omega, by omega⟩ hl2 hl3 hl4 W hs0 hs5 hc1
  exact Calls.mono hlaw fun e W' ⟨v, zs, hs, he, hS, hr⟩ => ⟨v, he, by rw [hr]; exact law_post (by kernel_rfl) (by kernel_rfl) (tb := 4) (by kernel_rfl) Tryz.underlying4 rfl rfl hW' hS⟩

noncomputable def cLedgerCodes_world (os : Os) : World :=
  { World.holding Tryz.prog os ⟨#[], #[], []⟩ with heap := (((World.holding Tryz.prog os ⟨#[], #[], []⟩).heap).modify 1 (fun o => match o with
      | .cells _ t frozen => .cells (kci.map fun z => Value.int .u32 z).toArray t frozen
      | o => o)) }

theorem cLedgerCodes_laid_met (os : Os) : laidMet Tryz.prog Rows.ledgerCodesUptoRow.laid ((cLedgerCodes_world os).forCall (fun _ _ => 0) ⟨#[], #[.slice none 0 0, .agg #[.int .i64 0, .string ⟨#[]⟩, .string ⟨#[]⟩], .int .i64 0, .int .i64 0, .int .i64 0, .slice none 0 0], []⟩).memory :=
  laidMet_of_run' 8 (by kernel_rfl) (by kernel_rfl)

theorem cLedgerCodes_reads (os : Os) {H : Type} (enc : TypeId × Value → H) : ∃ places, DataW.whole enc Tryz.prog ((cLedgerCodes_world os).forCall (fun _ _ => 0) ⟨#[], #[.slice none 0 0, .agg #[.int .i64 0, .string ⟨#[]⟩, .string ⟨#[]⟩], .int .i64 0, .int .i64 0, .int .i64 0, .slice none 0 0], []⟩).memory Tryz.f3.params.toList Rows.ledgerCodesSpec.vars false (#[.slice none 0 0, .agg #[.int .i64 0, .string ⟨#[]⟩, .string ⟨#[]⟩], .int .i64 0, .int .i64 0, .int .i64 0, .slice none 0 0] : Array Value).toList 8 = some ([.nil, .agg [.lit (.int .i64 0), .lit (.string []), .lit (.string [])], .lit (.int .i64 0), .lit (.int .i64 0), .lit (.int .i64 0), .nil], [], places) :=
  ⟨[], by kernel_rfl⟩

set_option maxRecDepth 100000 in
theorem cLedgerCodes_lifted (os : Os) (started : os.Started) (H : Type) (enc : TypeId × Value → H) (F : Stop.Interp) :
    ReturnsInHanded {} Tryz.checked os 3 .any ((Rows.OpenSpec.upto Rows.ledgerCodesSpec).preRow enc Tryz.prog Tryz.f3 Rows.ledgerCodesUptoRow.domain false Rows.ledgerCodesUptoRow.laid) (((Rows.OpenSpec.upto Rows.ledgerCodesSpec).at F).post enc Tryz.prog Tryz.f3 false true false false) := by
  obtain ⟨places, hx⟩ := cLedgerCodes_reads os enc
  refine returnsInHanded_of_row (C := Tryz.checked) (s := Rows.OpenSpec.upto Rows.ledgerCodesSpec) cLedgerCodes_own started (by kernel_rfl) Tryz.func3
    (witness_row_at (enc := enc) (C := Tryz.checked) false (cLedgerCodes_world os) #[.slice none 0 0, .agg #[.int .i64 0, .string ⟨#[]⟩, .string ⟨#[]⟩], .int .i64 0, .int .i64 0, .int .i64 0, .slice none 0 0] rfl (by kernel_rfl) (by kernel_rfl) (by kernel_rfl)
      (OpenSpec.preRow_of_cond 8 hx (by kernel_rfl) (fun k hk => by cases hk; kernel_rfl) (by kernel_rfl) (cLedgerCodes_laid_met os))) ?_
  intro W base args ds gs before hval hW _ hcond hz hL _ _
  exact cLedgerCodes_contract H enc W base args ds gs before hval hW hz hL (hcond _ rfl)

theorem cLedgerCodes_said : Rows.LedgerCodesUptoSaid :=
  OpenClaim.holds_of_cond 3 Tryz.f3 rfl rfl rfl rfl rfl rfl rfl ⟨rfl, rfl, rfl, rfl, rfl⟩ rfl rfl rfl rfl rfl (by kernel_rfl) Tryz.func3 (by kernel_rfl)
    (of_decide_eq_true (by kernel_rfl)) (by unfold Func.isWrapper; first | (rw [if_pos (by decide +kernel)]; kernel_rfl) | (rw [if_neg (by decide +kernel)]; exact ⟨rfl, rfl⟩))
    (fun os started H enc _ F => by rw [OpenClaim.pre_eq_preRow]; exact cLedgerCodes_lifted os started H enc F)

theorem cLedgerCodes_plain (f : FuncId) (fn : Func) (hf : Tryz.pinned.checked.prog.funcNamed "culprit/culpritlaw41.LedgerCodes" = some f) (hfn : Tryz.pinned.checked.prog.funcs[f]? = some fn) :
    false = Tryz.pinned.checked.prog.looks [] ∧ ∀ (j : Nat) t, fn.params[j]? = some t → Tryz.pinned.checked.prog.wantsStandIn t = false := by
  obtain rfl : f = 3 := Option.some.inj ((show Tryz.prog.funcNamed "culprit/culpritlaw41.LedgerCodes" = some 3 by kernel_rfl).symm.trans hf) |>.symm
  obtain rfl : fn = Tryz.f3 := (Option.some.inj (Tryz.func3.symm.trans hfn)).symm
  refine ⟨by kernel_rfl, fun j t ht => ?_⟩
  rw [Tryz.params3] at ht
  have hm : t ∈ #[22, 24, 3, 3, 3, 25] := Array.mem_of_getElem? ht
  have hall : (#[22, 24, 3, 3, 3, 25] : Array TypeId).all (fun t => !Tryz.prog.wantsStandIn t) = true := by kernel_rfl
  have := Array.all_eq_true_iff_forall_mem.1 hall t hm
  have h2 : Tryz.prog.wantsStandIn t = false := by simpa using this
  exact h2

theorem ledgerCodes_holds : Rows.LedgerCodesUptoCardSaid :=
  Claim7.holds_tied_plain_at .later [] _ _ _ _ cLedgerCodes_said (fun _ h => by cases h) (by kernel_rfl) (fun _ h => by cases h) ledgerCodesUpto_row_tie rfl ⟨rfl, rfl⟩ (by kernel_rfl) rfl cLedgerCodes_plain (by kernel_rfl)
end Go.Proofs.YtngcjojijaknnaaGreatDoor
