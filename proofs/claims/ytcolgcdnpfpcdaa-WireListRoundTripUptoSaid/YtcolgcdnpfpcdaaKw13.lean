/- WireListRoundTrip: for every input of bulk at most 1048576 the law returns true, and each argument reads behind the call as it read before. No further condition. -/
import Derived.Test.YtcolgcdnpfpcdaaRows
import Derived.Test.YtcolgcdnpfpcdaaFw18
import Derived.Test.YtcolgcdnpfpcdaaFw22
import Derived.Test.YtcolgcdnpfpcdaaVw10
set_option linter.all false
namespace Go.Proofs.Ytcolgcdnpfpcdaa
open Go.Fw Go.ChangeShapes Go.WideShapes Go.ChangeAt Go.RowKit
theorem bkR {H : Type} : Bk (Rows.uptoBulk (H := H)) Rows.uptoBulkAll where
  str b := by simp only [Rows.uptoBulk]
  sl e s := by simp only [Rows.uptoBulk]
  nil := by simp only [Rows.uptoBulkAll]
  cons d r := by simp only [Rows.uptoBulkAll]
  pos d := by unfold Rows.uptoBulk; split <;> omega
theorem few_bd {ps : List (List UInt8)} (h : (ps.map fun s => s.length + 1).sum + 1 ≤ 1048576) (i : Nat) : fewN ps i < 4611686018427387904 := by
  have h1 := sum_flat ps
  have h2 : (ps.take i).flatten.length ≤ ps.flatten.length := by
    have : ps.flatten.length = (ps.take i).flatten.length + (ps.drop i).flatten.length := by rw [← List.length_append, ← List.flatten_append, List.take_append_drop]
    omega
  unfold fewN
  omega
theorem cWireListRoundTrip_own : ownKnob Try.prog.godebug = none := by kernel_rfl

theorem cWireListRoundTrip_contract (H : Type) (enc : TypeId × Value → H) (W : World) (base : Nat) (args : Array Value) (ds gs : List (DataW H)) (before : List MemPlace)
    (hval : ∀ (j : Nat) t v, Try.f8.params[j]? = some t → args[j]? = some v → Value.okWide Try.prog W .any base t v)
    (hW : DataW.Whole enc Try.prog Try.f8.params.toList Rows.wireListRoundTripSpec.vars false W args.toList ds gs before)
    (hz : (DataW.weightsEach Try.prog (Try.f8.params.toList ++ (OpenSpec.ofChange Rows.wireListRoundTripSpec).bare.plain.varTypes Try.prog) (ds ++ gs)).all (· ≤ reachBytes) = true) (hk : Rows.uptoSmall H (ds ++ gs) = true) :
    Calls Try.prog 8 args W fun e W' => ∃ v, e = .returned v ∧ Rows.wireListRoundTripSpec.post enc Try.prog Try.f8 false true false false W args v W' := by
  have hW' := hW
  obtain ⟨p, q, hA0, hV, rfl, hfz, hnd⟩ := hW
  have hA : DataW.TrodAll enc Try.prog W 0 (fun _ => true) true Try.f8.params.toList args.toList ds p := hA0
  clear hA0
  rw [Try.params8] at hA hval
  obtain ⟨rfl, rfl⟩ := trodVars_none hV
  obtain ⟨v0, vs0, d0, ds0, p0, q0, hargs, rfl, rfl, h0, r0⟩ := trodAll_cons hA
  obtain ⟨v1, vs1, d1, ds1, p1, q1, rfl, rfl, rfl, h1, r1⟩ := trodAll_cons r0
  obtain ⟨v2, vs2, d2, ds2, p2, q2, rfl, rfl, rfl, h2, r2⟩ := trodAll_cons r1
  obtain ⟨v3, vs3, d3, ds3, p3, q3, rfl, rfl, rfl, h3, r3⟩ := trodAll_cons r2
  obtain ⟨v4, vs4, d4, ds4, p4, q4, rfl, rfl, rfl, h4, r4⟩ := trodAll_cons r3
  obtain ⟨rfl, rfl, rfl⟩ := trodAll_nil r4
  obtain rfl : args = #[v0, v1, v2, v3, v4] := by cases args; simp_all
  replace hz : (DataW.weightsEach Try.prog [9, 22, 23, 24, 28] [d0, d1, d2, d3, d4]).all (· ≤ reachBytes) = true := hz
  obtain ⟨hz0, hz⟩ := weightsEach_cons hz
  obtain ⟨hz1, hz⟩ := weightsEach_cons hz
  obtain ⟨hz2, hz⟩ := weightsEach_cons hz
  obtain ⟨hz3, hz⟩ := weightsEach_cons hz
  obtain ⟨hz4, hz⟩ := weightsEach_cons hz
  have hk9 := of_decide_eq_true hk
  simp only [List.cons_append, List.nil_append, List.append_nil, Rows.uptoBulkAll] at hk9
  have hp0 := (bkR (H := H)).pos d0
  have hp1 := (bkR (H := H)).pos d1
  have hp2 := (bkR (H := H)).pos d2
  have hp3 := (bkR (H := H)).pos d3
  have hp4 := (bkR (H := H)).pos d4
  obtain ⟨x0, rfl, hl0, hb0⟩ := arg_sS bkR Try.underlying9 (hval 0 9 v0 rfl rfl) h0 hz0
  obtain ⟨x1, hs1, hb1⟩ := arg_slS bkR (E := encI) Try.underlying22 (by kernel_rfl) (by decide) (of_decide_eq_true (by kernel_rfl)) (rds_one bkR (rd_I Try.underlying3)) (hval 1 22 v1 rfl rfl) h1 hz1
  obtain ⟨x2, hs2, hb2⟩ := arg_slS bkR (E := encS) Try.underlying23 (by kernel_rfl) (by decide) (of_decide_eq_true (by kernel_rfl)) (rds_S bkR Try.underlying9) (hval 2 23 v2 rfl rfl) h2 hz2
  obtain ⟨x3, hs3, hb3⟩ := arg_slS bkR (E := (encA 16)) Try.underlying24 (by kernel_rfl) (by decide) (of_decide_eq_true (by kernel_rfl)) (rds_one bkR (rd_A Try.underlying57 Try.underlying5 (by kernel_rfl) (by kernel_rfl))) (hval 3 24 v3 rfl rfl) h3 hz3
  obtain ⟨x4, hs4, hb4⟩ := arg_slS bkR (E := encB) Try.underlying28 (by kernel_rfl) (by decide) (of_decide_eq_true (by kernel_rfl)) (rds_one bkR (rd_B Try.underlying5)) (hval 4 28 v4 rfl rfl) h4 hz4
  have hlaw := law13_ct x0 hl0 v1 x1 v2 x2 (fun i => few_bd (Nat.le_trans hb2 (by omega)) i) v3 x3 v4 x4 W hs1 hs2 hs3 hs4
  exact Calls.mono hlaw fun e W' ⟨v, zs, hs, he, hS, hr⟩ => ⟨v, he, by rw [hr]; exact law_post (by kernel_rfl) (by kernel_rfl) (tb := 4) (by kernel_rfl) Try.underlying4 rfl rfl hW' hS⟩

noncomputable def cWireListRoundTrip_world (os : Os) : World := World.holding Try.prog os ⟨#[], #[], []⟩

theorem cWireListRoundTrip_laid_met (os : Os) : laidMet Try.prog Rows.wireListRoundTripUptoRow.laid ((cWireListRoundTrip_world os).forCall (fun _ _ => 0) ⟨#[], #[.string ⟨#[]⟩, .slice none 0 0, .slice none 0 0, .slice none 0 0, .slice none 0 0], []⟩).memory :=
  laidMet_of_run' 8 (by kernel_rfl) (by kernel_rfl)

theorem cWireListRoundTrip_reads (os : Os) {H : Type} (enc : TypeId × Value → H) : ∃ places, DataW.whole enc Try.prog ((cWireListRoundTrip_world os).forCall (fun _ _ => 0) ⟨#[], #[.string ⟨#[]⟩, .slice none 0 0, .slice none 0 0, .slice none 0 0, .slice none 0 0], []⟩).memory Try.f8.params.toList Rows.wireListRoundTripSpec.vars false (#[.string ⟨#[]⟩, .slice none 0 0, .slice none 0 0, .slice none 0 0, .slice none 0 0] : Array Value).toList 8 = some ([.lit (.string []), .nil, .nil, .nil, .nil], [], places) :=
  ⟨[], by kernel_rfl⟩

set_option maxRecDepth 100000 in
theorem cWireListRoundTrip_lifted (os : Os) (started : os.Started) (H : Type) (enc : TypeId × Value → H) (F : Stop.Interp) :
    ReturnsInHanded {} Try.checked os 8 .any ((Rows.OpenSpec.upto Rows.wireListRoundTripSpec).preRow enc Try.prog Try.f8 Rows.wireListRoundTripUptoRow.domain false Rows.wireListRoundTripUptoRow.laid) (((Rows.OpenSpec.upto Rows.wireListRoundTripSpec).at F).post enc Try.prog Try.f8 false true false false) := by
  obtain ⟨places, hx⟩ := cWireListRoundTrip_reads os enc
  refine returnsInHanded_of_row (C := Try.checked) (s := Rows.OpenSpec.upto Rows.wireListRoundTripSpec) cWireListRoundTrip_own started (by kernel_rfl) Try.func8
    (witness_row_at (enc := enc) (C := Try.checked) false (cWireListRoundTrip_world os) #[.string ⟨#[]⟩, .slice none 0 0, .slice none 0 0, .slice none 0 0, .slice none 0 0] rfl (by kernel_rfl) (by kernel_rfl) (by kernel_rfl)
      (OpenSpec.preRow_of_cond 8 hx (by kernel_rfl) (fun k hk => by cases hk; kernel_rfl) (by kernel_rfl) (cWireListRoundTrip_laid_met os))) ?_
  intro W base args ds gs before hval hW _ hcond hz hL _ _
  exact cWireListRoundTrip_contract H enc W base args ds gs before hval hW hz (hcond _ rfl)

theorem cWireListRoundTrip_said : Rows.WireListRoundTripUptoSaid :=
  OpenClaim.holds_of_cond 8 Try.f8 rfl rfl rfl rfl rfl rfl rfl ⟨rfl, rfl, rfl, rfl, rfl⟩ rfl rfl rfl rfl rfl (by kernel_rfl) Try.func8 (by kernel_rfl)
    (of_decide_eq_true (by kernel_rfl)) (by unfold Func.isWrapper; first | (rw [if_pos (by decide +kernel)]; kernel_rfl) | (rw [if_neg (by decide +kernel)]; exact ⟨rfl, rfl⟩))
    (fun os started H enc _ F => by rw [OpenClaim.pre_eq_preRow]; exact cWireListRoundTrip_lifted os started H enc F)

theorem wireListRoundTripUpto_holds : Rows.WireListRoundTripUptoSaid := cWireListRoundTrip_said
end Go.Proofs.Ytcolgcdnpfpcdaa
