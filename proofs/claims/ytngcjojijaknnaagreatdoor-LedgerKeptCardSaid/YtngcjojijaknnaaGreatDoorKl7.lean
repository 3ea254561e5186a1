/- LedgerKept: for every input the law returns true, and each argument reads behind the call as it read before; the listed tables are tied to the program's text. No further condition. -/
import Derived.Test.YtngcjojijaknnaaGreatDoorFwA
import Derived.Test.YtngcjojijaknnaaGreatDoorFwB
import Derived.Test.YtngcjojijaknnaaGreatDoorFwD
import Derived.Test.YtngcjojijaknnaaGreatDoorLgA
import Derived.Test.YtngcjojijaknnaaGreatDoorC4
import Derived.Test.YtngcjojijaknnaaGreatDoorCards
import Derived.Test.YtngcjojijaknnaaGreatDoorTie
set_option linter.all false
namespace Go.Proofs.YtngcjojijaknnaaGreatDoor
open Go.aK Go.ChangeShapes Go.WideShapes Go.ChangeAt Go.RowKit
def zX:List Int:=[1116352408,1899447441,3049323471,3921009573,961987163,1508970993,2453635748,2870763221,3624381080,310598401,607225278,1426881987,1925078388,2162078206,2614888103,3248222580,3835390401,4022224774,264347078,604807628,770255983,1249150122,1555081692,1996064986,2554220882,2821834349,2952996808,3210313671,3336571891,3584528711,113926993,338241895,666307205,773529912,1294757372,1396182291,1695183700,1986661051,2177026350,2456956037,2730485921,2820302411,3259730800,3345764771,3516065817,3600352804,4094571909,275423344,430227734,506948616,659060556,883997877,958139571,1322822218,1537002063,1747873779,1955562222,2024104815,2227730452,2361852424,2428436474,2756734187,3204031479,3329325298]
theorem OT:(zX.map fun z=>Value.int .u32 z)=aL.eH.map cI:=by kernel_rfl
theorem VB:ownKnob Tryz.prog.godebug=none:=by kernel_rfl
set_option maxRecDepth 20000 in
theorem Vy(H:Type)(enc:TypeId×Value→H)(W:World)(base:Nat)(args:Array Value)(ds gs:List (DataW H))(before:List MemPlace)
    (s7:∀ (j:Nat) t v,Tryz.f9.params[j]?=some t→args[j]?=some v→Value.okWide Tryz.prog W .any base t v)
    (eZ:DataW.Whole enc Tryz.prog Tryz.f9.params.toList Rows.ledgerKeptSpec.vars false W args.toList ds gs before)
    (bj:(DataW.weightsEach Tryz.prog (Tryz.f9.params.toList++(OpenSpec.ofChange Rows.ledgerKeptSpec).bare.plain.varTypes Tryz.prog) (ds++gs)).all (· ≤ reachBytes)=true) (zf:laidMetH Tryz.prog Rows.ledgerKeptRow.laid W) :
    Calls Tryz.prog 9 args W fun e pA=>∃ v,e=.returned v∧Rows.ledgerKeptSpec.post enc Tryz.prog Tryz.f9 false true false false W args v pA:=by
  have uO:=eZ
  obtain ⟨p,q,NH,kH,rfl,aaL,gx⟩:=eZ
  have gw:DataW.TrodAll enc Tryz.prog W 0 (fun _=>true) true Tryz.f9.params.toList args.toList ds p:=NH
  clear NH
  rw [Tryz.params9] at gw s7
  obtain ⟨rfl,rfl⟩:=trodVars_none kH
  obtain ⟨v0,aro,d0,ala,cv,ae,al6,rfl,rfl,h0,il⟩:=trodAll_cons gw
  obtain ⟨v1,arp,d1,alb,jv,cu,rfl,rfl,rfl,h1,cm⟩:=trodAll_cons il
  obtain ⟨v2,arq,d2,alc,jw,ct,rfl,rfl,rfl,ar,cR⟩:=trodAll_cons cm
  obtain ⟨v3,ars,d3,ald,jx,cx,rfl,rfl,rfl,aQ,eW⟩:=trodAll_cons cR
  obtain ⟨v4,art,d4,ale,kc,cz,rfl,rfl,rfl,bF,e2⟩:=trodAll_cons eW
  obtain ⟨rfl,rfl,rfl⟩:=trodAll_nil e2
  obtain rfl:args=#[v0,v1,v2,v3,v4]:=by cases args;simp_all
  replace bj:(DataW.weightsEach Tryz.prog [22,3,3,22,3] [d0,d1,d2,d3,d4]).all (· ≤ reachBytes)=true:=bj
  obtain ⟨w8,bj⟩:=Bf bj
  obtain ⟨C1,bj⟩:=Bf bj
  obtain ⟨qB,bj⟩:=Bf bj
  obtain ⟨HX,bj⟩:=Bf bj
  obtain ⟨oX,bj⟩:=Bf bj
  obtain ⟨cE,bG⟩:=Le (E:=Go.aK.encI) Tryz.underlying22 (by kernel_rfl) a8 (of_decide_eq_true (by kernel_rfl)) (RC Tryz.underlying3) (s7 0 22 v0 rfl rfl) h0 w8
  obtain ⟨bZ,rfl,sY⟩:=Fc Tryz.underlying3 (s7 1 3 v1 rfl rfl) h1
  obtain ⟨cg,rfl,sZ⟩:=Fc Tryz.underlying3 (s7 2 3 v2 rfl rfl) ar
  obtain ⟨c7,abE⟩:=Le (E:=Go.aK.encI) Tryz.underlying22 (by kernel_rfl) a8 (of_decide_eq_true (by kernel_rfl)) (RC Tryz.underlying3) (s7 3 22 v3 rfl rfl) aQ HX
  obtain ⟨c9,rfl,u2⟩:=Fc Tryz.underlying3 (s7 4 3 v4 rfl rfl) bF
  obtain ⟨eb, ed, dF⟩ := SG (P := Tryz.prog) (by kernel_rfl) (Lib.tabIs_of_head (name := "culprit/culpritref02.constants") (k := .u32) (zs := zX) (g := 0) (by kernel_rfl) (by kernel_rfl) Tryz.underlying239 Tryz.underlying220 (by kernel_rfl) (by kernel_rfl) zf)
  have h9:W.heap[0]?=some (.cells (aL.eH.map cI).toArray eb ed):=by rw [← OT];exact dF
  obtain ⟨gC, gE, fW⟩ := SG (P := Tryz.prog) (by kernel_rfl) (Lib.tabIs_of_head (name := "culprit/hash.constants") (k := .u32) (zs := zX) (g := 1) (by kernel_rfl) (by kernel_rfl) Tryz.underlying239 Tryz.underlying220 (by kernel_rfl) (by kernel_rfl) (laidMet.tail zf))
  have aU:W.heap[1]?=some (.cells (aL.eH.map cI).toArray gC gE):=by rw [← OT];exact fW
  have aa1:=adn _ _ cE c7 bZ cg c9 sY sZ u2 W bG abE h9 aU
  exact Calls.mono aa1 fun e pA ⟨v,zs,hs,he,U,aY⟩=>⟨v,he,by rw [aY];exact ac6 (by kernel_rfl) (by kernel_rfl) (tb:=4) (by kernel_rfl) Tryz.underlying4 rfl rfl uO U⟩
noncomputable def Fp (os:Os):World:=
  { World.holding Tryz.prog os ⟨#[],#[],[]⟩ with heap:=(((((World.holding Tryz.prog os ⟨#[],#[],[]⟩).heap).modify 0 (fun o=>match o with
      | .cells _ t frozen=>.cells (zX.map fun z=>Value.int .u32 z).toArray t frozen
      | o=>o))).modify 1 (fun o=>match o with
      | .cells _ t frozen=>.cells (zX.map fun z=>Value.int .u32 z).toArray t frozen
      | o=>o)) }
theorem Vz(os:Os):laidMet Tryz.prog Rows.ledgerKeptRow.laid ((Fp os).forCall (fun _ _=>0) ⟨#[],#[.slice none 0 0,.int .i64 0,.int .i64 0,.slice none 0 0,.int .i64 0],[]⟩).memory:=
  laidMet_of_run' 8 (by kernel_rfl) (by kernel_rfl)
theorem VD(os:Os){H:Type}(enc:TypeId×Value→H):∃ places,DataW.whole enc Tryz.prog ((Fp os).forCall (fun _ _=>0) ⟨#[],#[.slice none 0 0,.int .i64 0,.int .i64 0,.slice none 0 0,.int .i64 0],[]⟩).memory Tryz.f9.params.toList Rows.ledgerKeptSpec.vars false (#[.slice none 0 0,.int .i64 0,.int .i64 0,.slice none 0 0,.int .i64 0]:Array Value).toList 8=some ([.nil,.lit (.int .i64 0),.lit (.int .i64 0),.nil,.lit (.int .i64 0)],[],places):=
  ⟨[],by kernel_rfl⟩
set_option maxRecDepth 100000 in
theorem VA(os:Os)(started:os.Started)(H:Type)(enc:TypeId×Value→H)(F:Stop.Interp) :
    ReturnsInHanded {} Tryz.checked os 9 .any ((OpenSpec.ofChange Rows.ledgerKeptSpec).preRow enc Tryz.prog Tryz.f9 Rows.ledgerKeptRow.domain false Rows.ledgerKeptRow.laid) (((OpenSpec.ofChange Rows.ledgerKeptSpec).at F).post enc Tryz.prog Tryz.f9 false true false false):=by
  obtain ⟨places,aM⟩:=VD os enc
  refine returnsInHanded_of_row (C:=Tryz.checked) (s:=OpenSpec.ofChange Rows.ledgerKeptSpec) VB started (by kernel_rfl) Tryz.func9
    (witness_row_at (enc:=enc) (C:=Tryz.checked) false (Fp os) #[.slice none 0 0,.int .i64 0,.int .i64 0,.slice none 0 0,.int .i64 0] rfl (by kernel_rfl) (by kernel_rfl) (by kernel_rfl)
      (OpenSpec.preRow_of_cond 8 aM (by kernel_rfl) (fun k aE=>by cases aE) (by kernel_rfl) (Vz os))) ?_
  intro W base args ds gs before s7 eZ _ amg bj zf _ _
  exact Vy H enc W base args ds gs before s7 eZ bj zf
theorem VE:Rows.LedgerKeptSaid:=
  OpenClaim.holds_of_cond 9 Tryz.f9 rfl rfl rfl rfl rfl rfl rfl ⟨rfl,rfl,rfl,rfl,rfl⟩ rfl rfl rfl rfl rfl (by kernel_rfl) Tryz.func9 (by kernel_rfl)
    (of_decide_eq_true (by kernel_rfl)) (by unfold Func.isWrapper;first | (rw [if_pos (by decide +kernel)];kernel_rfl) | (rw [if_neg (by decide +kernel)];exact ⟨rfl,rfl⟩))
    (fun os started H enc _ F=>by rw [OpenClaim.pre_eq_preRow];exact VA os started H enc F)
theorem VC(f : FuncId)(fn : Func)(bw : Tryz.pinned.checked.prog.funcNamed "culprit/culpritlaw41.LedgerKept" = some f)(zn : Tryz.pinned.checked.prog.funcs[f]? = some fn) :
    false=Tryz.pinned.checked.prog.looks []∧∀ (j:Nat) t,fn.params[j]?=some t→Tryz.pinned.checked.prog.wantsStandIn t=false:=by
  obtain rfl : f = 9 := Option.some.inj ((show Tryz.prog.funcNamed "culprit/culpritlaw41.LedgerKept" = some 9 by kernel_rfl).symm.trans bw) |>.symm
  obtain rfl:fn=Tryz.f9:=(Option.some.inj (Tryz.func9.symm.trans zn)).symm
  refine ⟨by kernel_rfl,fun j t aN=>?_⟩
  rw [Tryz.params9] at aN
  have hm:t∈#[22,3,3,22,3]:=Array.mem_of_getElem? aN
  have hP:(#[22,3,3,22,3]:Array TypeId).all (fun t => !Tryz.prog.wantsStandIn t)=true:=by kernel_rfl
  have:=Array.all_eq_true_iff_forall_mem.1 hP t hm
  have ar:Tryz.prog.wantsStandIn t=false:=by simpa using this
  exact ar
theorem ledgerKept_holds:Rows.LedgerKeptCardSaid:=
  Claim7.holds_tied_plain_at .later [] _ _ _ _ VE (fun _ h=>by cases h) (by kernel_rfl) (fun _ h=>by cases h) ledgerKept_row_tie rfl ⟨rfl,rfl⟩ (by kernel_rfl) rfl VC (by kernel_rfl)
end Go.Proofs.YtngcjojijaknnaaGreatDoor
