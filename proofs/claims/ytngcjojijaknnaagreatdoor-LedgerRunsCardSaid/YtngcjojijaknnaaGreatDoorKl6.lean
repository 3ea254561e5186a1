/- LedgerRuns: for every input the law returns true, and each argument reads behind the call as it read before; the listed tables are tied to the program's text. No further condition. -/
import Derived.Test.YtngcjojijaknnaaGreatDoorFwB
import Derived.Test.YtngcjojijaknnaaGreatDoorFwD
import Derived.Test.YtngcjojijaknnaaGreatDoorLgA
import Derived.Test.YtngcjojijaknnaaGreatDoorC4
import Derived.Test.YtngcjojijaknnaaGreatDoorCards
import Derived.Test.YtngcjojijaknnaaGreatDoorTie
set_option linter.all false
namespace Go.Proofs.YtngcjojijaknnaaGreatDoor
open Go.aJ Go.ChangeShapes Go.WideShapes Go.ChangeAt Go.RowKit
def yz:List Int:=[1116352408,1899447441,3049323471,3921009573,961987163,1508970993,2453635748,2870763221,3624381080,310598401,607225278,1426881987,1925078388,2162078206,2614888103,3248222580,3835390401,4022224774,264347078,604807628,770255983,1249150122,1555081692,1996064986,2554220882,2821834349,2952996808,3210313671,3336571891,3584528711,113926993,338241895,666307205,773529912,1294757372,1396182291,1695183700,1986661051,2177026350,2456956037,2730485921,2820302411,3259730800,3345764771,3516065817,3600352804,4094571909,275423344,430227734,506948616,659060556,883997877,958139571,1322822218,1537002063,1747873779,1955562222,2024104815,2227730452,2361852424,2428436474,2756734187,3204031479,3329325298]
theorem MW:(yz.map fun z=>Value.int .u32 z)=aK.ek.map cx:=by kernel_rfl
theorem Tt:ownKnob Tryz.prog.godebug=none:=by kernel_rfl
set_option maxRecDepth 20000 in
theorem Tq(H:Type)(enc:TypeId×Value→H)(W:World)(base:Nat)(args:Array Value)(ds gs:List (DataW H))(before:List MemPlace)
    (yq:∀ (j:Nat) t v,Tryz.f8.params[j]?=some t→args[j]?=some v→Value.okWide Tryz.prog W .any base t v)
    (eE:DataW.Whole enc Tryz.prog Tryz.f8.params.toList Rows.ledgerRunsSpec.vars false W args.toList ds gs before)
    (bj:(DataW.weightsEach Tryz.prog (Tryz.f8.params.toList++(OpenSpec.ofChange Rows.ledgerRunsSpec).bare.plain.varTypes Tryz.prog) (ds++gs)).all (· ≤ reachBytes)=true) (xU:laidMetH Tryz.prog Rows.ledgerRunsRow.laid W) :
    Calls Tryz.prog 8 args W fun e oM=>∃ v,e=.returned v∧Rows.ledgerRunsSpec.post enc Tryz.prog Tryz.f8 false true false false W args v oM:=by
  have tu:=eE
  obtain ⟨p,q,LR,j7,rfl,YB,fO⟩:=eE
  have j6:DataW.TrodAll enc Tryz.prog W 0 (fun _=>true) true Tryz.f8.params.toList args.toList ds p:=LR
  clear LR
  rw [Tryz.params8] at j6 yq
  obtain ⟨rfl,rfl⟩:=trodVars_none j7
  obtain ⟨v0,aof,d0,aiT,cu,ag,ajC,rfl,rfl,h0,hO⟩:=trodAll_cons j6
  obtain ⟨v1,aog,d1,aiU,iM,cj,rfl,rfl,rfl,h1,b8⟩:=trodAll_cons hO
  obtain ⟨rfl,rfl,rfl⟩:=trodAll_nil b8
  obtain rfl:args=#[v0,v1]:=by cases args;simp_all
  replace bj:(DataW.weightsEach Tryz.prog [22,3] [d0,d1]).all (· ≤ reachBytes)=true:=bj
  obtain ⟨vJ,bj⟩:=RK bj
  obtain ⟨BC,bj⟩:=RK bj
  obtain ⟨cv,bC⟩:=SK (E:=Go.aJ.encI) Tryz.underlying22 (by kernel_rfl) (by decide) (of_decide_eq_true (by kernel_rfl)) (aen Tryz.underlying3) (yq 0 22 v0 rfl rfl) h0 vJ
  obtain ⟨bT,rfl,rT⟩:=SJ Tryz.underlying3 (yq 1 3 v1 rfl rfl) h1
  obtain ⟨dJ, dK, dF⟩ := QF (P := Tryz.prog) (by kernel_rfl) (Lib.tabIs_of_head (name := "culprit/culpritref02.constants") (k := .u32) (zs := yz) (g := 0) (by kernel_rfl) (by kernel_rfl) Tryz.underlying239 Tryz.underlying220 (by kernel_rfl) (by kernel_rfl) xU)
  have h6:W.heap[0]?=some (.cells (aK.ek.map cx).toArray dJ dK):=by rw [← MW];exact dF
  obtain ⟨fT, fU, fp⟩ := QF (P := Tryz.prog) (by kernel_rfl) (Lib.tabIs_of_head (name := "culprit/hash.constants") (k := .u32) (zs := yz) (g := 1) (by kernel_rfl) (by kernel_rfl) Tryz.underlying239 Tryz.underlying220 (by kernel_rfl) (by kernel_rfl) (laidMet.tail xU))
  have aS:W.heap[1]?=some (.cells (aK.ek.map cx).toArray fT fU):=by rw [← MW];exact fp
  have YS:=abc _ cv bT rT W bC h6 aS
  exact Calls.mono YS fun e oM ⟨v,zs,hs,he,U,aY⟩=>⟨v,he,by rw [aY];exact aaX (by kernel_rfl) (by kernel_rfl) (tb:=4) (by kernel_rfl) Tryz.underlying4 rfl rfl tu U⟩
noncomputable def DY (os:Os):World:=
  { World.holding Tryz.prog os ⟨#[],#[],[]⟩ with heap:=(((((World.holding Tryz.prog os ⟨#[],#[],[]⟩).heap).modify 0 (fun o=>match o with
      | .cells _ t frozen=>.cells (yz.map fun z=>Value.int .u32 z).toArray t frozen
      | o=>o))).modify 1 (fun o=>match o with
      | .cells _ t frozen=>.cells (yz.map fun z=>Value.int .u32 z).toArray t frozen
      | o=>o)) }
theorem Tr(os:Os):laidMet Tryz.prog Rows.ledgerRunsRow.laid ((DY os).forCall (fun _ _=>0) ⟨#[],#[.slice none 0 0,.int .i64 0],[]⟩).memory:=
  laidMet_of_run' 8 (by kernel_rfl) (by kernel_rfl)
theorem Tv(os:Os){H:Type}(enc:TypeId×Value→H):∃ places,DataW.whole enc Tryz.prog ((DY os).forCall (fun _ _=>0) ⟨#[],#[.slice none 0 0,.int .i64 0],[]⟩).memory Tryz.f8.params.toList Rows.ledgerRunsSpec.vars false (#[.slice none 0 0,.int .i64 0]:Array Value).toList 8=some ([.nil,.lit (.int .i64 0)],[],places):=
  ⟨[],by kernel_rfl⟩
set_option maxRecDepth 100000 in
theorem Ts(os:Os)(started:os.Started)(H:Type)(enc:TypeId×Value→H)(F:Stop.Interp) :
    ReturnsInHanded {} Tryz.checked os 8 .any ((OpenSpec.ofChange Rows.ledgerRunsSpec).preRow enc Tryz.prog Tryz.f8 Rows.ledgerRunsRow.domain false Rows.ledgerRunsRow.laid) (((OpenSpec.ofChange Rows.ledgerRunsSpec).at F).post enc Tryz.prog Tryz.f8 false true false false):=by
  obtain ⟨places,aL⟩:=Tv os enc
  refine returnsInHanded_of_row (C:=Tryz.checked) (s:=OpenSpec.ofChange Rows.ledgerRunsSpec) Tt started (by kernel_rfl) Tryz.func8
    (witness_row_at (enc:=enc) (C:=Tryz.checked) false (DY os) #[.slice none 0 0,.int .i64 0] rfl (by kernel_rfl) (by kernel_rfl) (by kernel_rfl)
      (OpenSpec.preRow_of_cond 8 aL (by kernel_rfl) (fun k aD=>by cases aD) (by kernel_rfl) (Tr os))) ?_
  intro W base args ds gs before yq eE _ ajN bj xU _ _
  exact Tq H enc W base args ds gs before yq eE bj xU
theorem Tw:Rows.LedgerRunsSaid:=
  OpenClaim.holds_of_cond 8 Tryz.f8 rfl rfl rfl rfl rfl rfl rfl ⟨rfl,rfl,rfl,rfl,rfl⟩ rfl rfl rfl rfl rfl (by kernel_rfl) Tryz.func8 (by kernel_rfl)
    (of_decide_eq_true (by kernel_rfl)) (by unfold Func.isWrapper;first | (rw [if_pos (by decide +kernel)];kernel_rfl) | (rw [if_neg (by decide +kernel)];exact ⟨rfl,rfl⟩))
    (fun os started H enc _ F=>by rw [OpenClaim.pre_eq_preRow];exact Ts os started H enc F)
theorem Tu(f : FuncId)(fn : Func)(bw : Tryz.pinned.checked.prog.funcNamed "culprit/culpritlaw41.LedgerRuns" = some f)(x2 : Tryz.pinned.checked.prog.funcs[f]? = some fn) :
    false=Tryz.pinned.checked.prog.looks []∧∀ (j:Nat) t,fn.params[j]?=some t→Tryz.pinned.checked.prog.wantsStandIn t=false:=by
  obtain rfl : f = 8 := Option.some.inj ((show Tryz.prog.funcNamed "culprit/culpritlaw41.LedgerRuns" = some 8 by kernel_rfl).symm.trans bw) |>.symm
  obtain rfl:fn=Tryz.f8:=(Option.some.inj (Tryz.func8.symm.trans x2)).symm
  refine ⟨by kernel_rfl,fun j t aM=>?_⟩
  rw [Tryz.params8] at aM
  have hm:t∈#[22,3]:=Array.mem_of_getElem? aM
  have hi:(#[22,3]:Array TypeId).all (fun t => !Tryz.prog.wantsStandIn t)=true:=by kernel_rfl
  have:=Array.all_eq_true_iff_forall_mem.1 hi t hm
  have aq:Tryz.prog.wantsStandIn t=false:=by simpa using this
  exact aq
theorem ledgerRuns_holds:Rows.LedgerRunsCardSaid:=
  Claim7.holds_tied_plain_at .later [] _ _ _ _ Tw (fun _ h=>by cases h) (by kernel_rfl) (fun _ h=>by cases h) ledgerRuns_row_tie rfl ⟨rfl,rfl⟩ (by kernel_rfl) rfl Tu (by kernel_rfl)
end Go.Proofs.YtngcjojijaknnaaGreatDoor
