/- walks and plain laws -/
import Derived.Test.YtngcjojijaknnaaGreatDoorFwB
import Derived.Test.YtngcjojijaknnaaGreatDoorFwD
import Derived.Test.YtngcjojijaknnaaGreatDoorJnA
import Derived.Test.YtngcjojijaknnaaGreatDoorFwE
import Derived.Shelf.SlIter.Sorted
import Derived.Shelf.Strings.Repeat
set_option linter.all false
section
namespace Go.aJ
open Go Go.Sem Go.RowKit Go.Shelf Go.Proofs
end Go.aJ
end
section
namespace Go.aJ
section
variable {P:Program}{n:Nat}{w0:World}{zs:List aP}{hs:List av}{L:List (Nat×Value)}{d:Option Tmp}{ty t bZ:TypeId}{pos:String}{af:Array Edge}{g:Option (Nat×Bool)}
variable {x y:Operand}
theorem Cc{bM:TypeDesc}{s b:Nat}{z:Value}(aM:a1 P t bM s b z)(a7:eV bM=false){xs:Array Value}{i:Nat}{v:Value}(h:xs[i]?=some v)(w:World):(part t xs i).run P w=.ok v w:=by
 unfold part
 rw [Sem.run_bind,aM.isAgg,a7]
 simp [h]
end
end Go.aJ
end
section
namespace Go.aJ
open Go.ChangeShapes Go.WideShapes Go.ChangeAt Go.RowKit
structure DK where
 k:Int
 i:Int
 b:Int
 n:Int
 f:UInt8
 ps:List Int
def ai1:dO DK where
 size:=6
 rep z o c:=∃ gj,c=[az o.k,az o.i,az o.b,az o.n,bf o.f,gj]∧(-9223372036854775808≤o.k∧o.k≤9223372036854775807)∧(-9223372036854775808≤o.i∧o.i≤9223372036854775807)∧(-9223372036854775808≤o.b∧o.b≤9223372036854775807)∧(-9223372036854775808≤o.n∧o.n≤9223372036854775807)∧bg encI z gj o.ps
 mono bj h:=by obtain ⟨gj,h1,aq,aQ,bH,cN,dq⟩:=h;exact ⟨gj,h1,aq,aQ,bH,cN,dq.mono bj⟩
 len h:=by obtain ⟨gj,h1,_⟩:=h;rw [h1];rfl
 one h u hu:=by
  obtain ⟨gj,h1,aq,aQ,bH,cN,dq⟩:=h
  rw [h1] at hu
  simp only [List.mem_cons,List.not_mem_nil,or_false] at hu
  rcases hu with rfl | rfl | rfl | rfl | rfl | rfl
  ·rfl
  ·rfl
  ·rfl
  ·rfl
  ·rfl
  ·exact mL dq
def anc:DK:=⟨0,0,0,0,0,[]⟩
section
variable {H:Type}{enc:TypeId×Value→H}{P:Program}{W:World}{t:TypeId}
end
end Go.aJ
end
section
namespace Go.aJ
def uQ(P:Program)(Y:Value)(vs:List Value)(I:World→Prop)(J:Bool→World→Prop):Prop:=
 ∀ w,I w→∃ (l:Nat) (f:FuncId) (tmps:Array Value) (assign body:Code),Y=.func (.yield l) #[] #[]∧(Instr.yield l vs.toArray).run P w=.ok (.round l f tmps assign body) w ∧
  ∀ m,RoundIn (gA none) m P l f tmps assign body w fun e w'=>∃ b,e=.returned (.bool b)∧J b w'
def IJ(P:Program)(f:FuncId)(args:List Value)(w0:World)(bP zst:List aP)(own cw:List av)(R:Bool→List av→Prop):Prop:=
 ∀ (w:World),aC w0 bP (own++cw) w→Calls P f args.toArray w fun e w'=>∃ b v cV,e=.returned v∧aC w0 (if b=true then bP else zst) (cV++cw) w'∧R b cV
section
variable {P:Program}{n:Nat}{w0:World}{zs:List aP}{L:List (Nat×Value)}
theorem Wp{f:FuncId}{fn:Func}{cd:Code}(bw:P.funcs[f]?=some fn)(au:fn.body=some cd){k:Nat}(aD:fn.ntmps=k){args:List Value}(bA:args.length≤k){w0:World}{bP zst:List aP}{own cw:List av}{R:Bool→List av→Prop}
  (h:∀ a w,Fr k (oS 0 args) a→aC w0 bP (own++cw) w→cd.wp P (bodyPost P fn fun e w'=>∃ b v cV,e=.returned v∧aC w0 (if b=true then bP else zst) (cV++cw) w'∧R b cV) a w):IJ P f args w0 bP zst own cw R:=by
 subst aD
 intro w U
 exact calls_of_wp bw au (h _ w (Fr.enter _ _ bA) U)
theorem Wq[aW]{fn:Func}{w:World}{hs:List av}{a:Act}{R:Bool→List av→Prop}{bP zst:List aP}{cw:List av}(b:Bool)(lx:fn.results=#[])(aT:aW.ds=[])(ab:Fr n L a)(U:aC w0 zs hs w)(cV:List av)(h1:(if b=true then bP else zst).Sublist zs)(aq:(cV++cw).Sublist hs)(fH:R b cV) :
  bodyPost P fn (fun e w'=>∃ b v cV,e=.returned v∧aC w0 (if b=true then bP else zst) (cV++cw) w'∧R b cV) .normal a w:=
 ⟨ab.nodef.trans aT,_,sw (rs:=[]) (vs:=[]) lx ab U trivial,b,_,_,rfl,U.ak h1 aq,fH⟩
theorem Ws[aW]{fn:Func}{w:World}{hs:List av}{a:Act}{R:Bool→List av→Prop}{bP zst:List aP}{cw:List av}(b:Bool)(lx:fn.results=#[])(aT:aW.ds=[])(ab:Fr n L a)(U:aC w0 zs hs w)(cV:List av)(h1:(if b=true then bP else zst).Sublist zs)(aq:(cV++cw).Sublist hs)(fH:R b cV) :
  bodyPost P fn (fun e w'=>∃ b v cV,e=.returned v∧aC w0 (if b=true then bP else zst) (cV++cw) w'∧R b cV) .ret a w:=
 ⟨ab.nodef.trans aT,_,sw (rs:=[]) (vs:=[]) lx ab U trivial,b,_,_,rfl,U.ak h1 aq,fH⟩
def Sw(A B:World→Prop):Exit→Act→World→Prop:=fun e _ w=>(e=.normal∧A w)∨(e=.ret∧B w)
theorem aho{γ ξ:Type}{g:Operand}{ps:List Tmp}{asg:Code}{body:Code}{Q:Exit→Act→World→Prop}{a:Act}{w:World}{gf:FuncId}{cs:List Value}(fP:γ→List av)(inv:Nat→γ→Prop)(yy:γ→Prop)(N:Nat)(it:Nat→List Value)(hO:γ)(fM:Nat→γ→ξ→List (Nat×Value))(cV:Nat→γ→ξ→List av)
  (ab:Fr n L a) (U:aC w0 zs (fP hO) w) (aO:aU L g=some (.func (.func gf) #[] cs.toArray)) (bN:ps.all (fun p=>Nat.blt p n)=true) (hK:∀ k,(it k).length=ps.length) (bw:bU P gf) (h0:inv 0 hO)
  (Ft:∀ (ro:Option Nat) (m:Nat) (jl dD:aP) (k:Nat) (r:γ) (a:Act) (w:World),k<N→inv k r→Fr n (kx ps (it k) L) a→aC w0 (jl::dD::zs) (fP r) w→asg.wpIn (gA ro) m P (j2 fun a w=>∃ x,Fr n (fM k r x) a∧aC w0 (jl::dD::zs) (cV k r x) w) a w)
  (jv:∀ (Y:Value) (dj zst:List aP),(∀ z∈zs,z∈dj)→(∀ z∈zs,z∈zst)→(∀ k r,k<N→inv k r→uQ P Y (it k) (aC w0 dj (fP r)) fun b w'=>if b=true then ∃ eR,inv (k+1) eR∧aC w0 dj (fP eR) w' else ∃ eR,yy eR∧aC w0 zst (fP eR) w') →
   ∀ w,aC w0 dj (fP hO) w→Calls P gf (Y::cs).toArray w fun e w'=>(∃ v,e=.returned v)∧((∃ r,inv N r∧aC w0 dj (fP r) w')∨∃ r,yy r∧aC w0 zst (fP r) w'))
  (Fx:∀ (l m:Nat) (jl dD:aP) (k:Nat) (r:γ) (x:ξ) (a:Act) (w:World),k<N→inv k r→Fr n (fM k r x) a→aC w0 (jl::dD::zs) (cV k r x) w →
   body.wpIn (gA (some l)) m P (Sw (fun w'=>∃ eR,inv (k+1) eR∧aC w0 (jl::dD::zs) (fP eR) w') (fun w'=>∃ eR,yy eR∧aC w0 (jl::dD::zs) (fP eR) w')) a w)
  (fH:∀ (I:aW) (D:Nat) (dD:aP) (a:Act) (w:World) (r:γ),(∀ z∈zs,z D=none)→I.ds=[{ target:=.collected D,args:=#[] }]→dD=dU D (.deferred (some []))→yy r→Fr (I:=I) n L a→aC w0 (dD::zs) (fP r) w→Q .ret a w)
  (dE:∀ (I:aW) (D:Nat) (dD:aP) (a:Act) (w:World) (r:γ),(∀ z∈zs,z D=none)→I.ds=[{ target:=.collected D,args:=#[] }]→dD=dU D (.deferred (some []))→inv N r→Fr (I:=I) n L a→aC w0 (dD::zs) (fP r) w→Q .normal a w) :
  (Code.rangeFunc g ps.toArray asg body).wp P Q a w:=by
 refine wpIn_wide (n:=0).1 (wpIn_rangeFunc ?_)
 intro fn _
 obtain ⟨rec,kW⟩:∃ rec:LoopState→Option Code→Loop,rec=fun st pe=>{ state:=st,pending:=pe,fn,tmps:=a.tmps,params:=ps.toArray,assign:=asg,body,defers:=w.heap.size }:=⟨_,rfl⟩
 have r2:∀ b,w.heap.size≤b→∀ z∈zs,z b=none:=fun b au z bj=>by
  cases fK:z b with
  | none=>rfl
  | some o=>exact absurd (kJ ((U.zone z bj).1 b o fK)) (by omega)
 have qB:aC w0 (dU w.heap.size (.deferred (some []))::zs) (fP hO) (w.alloc (.deferred (some []))):=
  U.frozen _ (by simp) (fun b au=>heap_alloc_old w _ au) (heap_alloc_new w _) ⟨rfl,rfl,rfl⟩
 have ny:aC w0 (dU (w.heap.size+1) (.loop (rec .ready none))::dU w.heap.size (.deferred (some []))::zs) (fP hO) ((w.alloc (.deferred (some []))).alloc (.loop (rec .ready none))):=by
  have:=qB.frozen (w':=(w.alloc (.deferred (some []))).alloc (.loop (rec .ready none))) (.loop (rec .ready none)) (by simp) (fun b au=>heap_alloc_old _ _ au) (heap_alloc_new _ _) ⟨rfl,rfl,rfl⟩
  rwa [World.size_alloc] at this
 obtain ⟨dD,r0⟩:∃ z,z=dU w.heap.size (.deferred (some [])):=⟨_,rfl⟩
 have qM:∀ z∈dD::zs,z (w.heap.size+1)=none:=by
  intro z bj
  rcases List.mem_cons.1 bj with rfl | bj
  ·rw [r0];unfold dU;rw [if_neg (by omega)]
  ·exact r2 _ (by omega) z bj
 rw [← r0] at ny
 generalize Fq:(w.alloc (.deferred (some []))).alloc (.loop (rec .ready none))=ql at ny
 obtain ⟨fnr,FF,FG,FH⟩:=bw
 refine ⟨w.heap.size+1,[{ target:=.collected w.heap.size,args:=#[] }],ql, { target:=.fn (.func gf) cs.toArray,args:=#[.func (.yield (w.heap.size+1)) #[] #[]] },ql,gf,
  (.func (.yield (w.heap.size+1)) #[] #[]::cs).toArray,ql,?_,?_,fun _ _=>trivial,?_,fun h=>(by cases h),?_⟩
 ·rw [← Fq,kW];exact run_enterLoop_outer _ _ _ _ _
 ·have he:=ab.eval aO
  simp only [resolve,rangeCall,he]
  simp [Deferred.ofValue,Act.eval]
 ·simp only [invoke,Sem.run_bind,Sem.run_pure,Result.andThen_ok,callFunc,run_program,FF,FG,FH]
  simp
 ·refine (Au (ro:=none) (jv (.func (.yield (w.heap.size+1)) #[] #[]) (dU (w.heap.size+1) (.loop (rec .ready none))::dD::zs) (dU (w.heap.size+1) (.loop (rec .done (some .ret)))::dD::zs) (fun z bj=>List.mem_cons_of_mem _ (List.mem_cons_of_mem _ bj)) (fun z bj=>List.mem_cons_of_mem _ (List.mem_cons_of_mem _ bj)) ?_ ql ny)).mono ?_
  ·
   intro k r aD aG W eE
   have hl:W.heap[w.heap.size+1]?=some (.loop (rec .ready none)):=(eE.zone _ List.mem_cons_self).1 _ _ (by unfold dU;rw [if_pos rfl])
   have cS:=run_yield (P:=P) (args:=(it k).toArray) hl (by rw [kW];simp [hK k])
   rw [kW] at cS
   refine ⟨_,fn,_,_,body,rfl,cS,fun m=>roundIn_of_wpIn (l:=w.heap.size+1) trivial ?_⟩
   have E6:Fr n (kx ps (it k) L) { tmps:=(ps.toArray.zip (it k).toArray).foldl (fun tmps (x:Tmp×Value)=>tmps.setIfInBounds x.1 x.2) a.tmps,defers:=[] }:=by
    have h1:=EP ps (it k) L { tmps:=a.tmps,defers:=[] } bN (hK k).symm ⟨ab.size,rfl,ab.get⟩
    have e:(ps.toArray.zip (it k).toArray).foldl (fun tmps (x:Tmp×Value)=>tmps.setIfInBounds x.1 x.2) a.tmps=(ps.zip (it k)).foldl (fun tmps (x:Tmp×Value)=>tmps.setIfInBounds x.1 x.2) a.tmps:=by
     simp
    rw [e]
    exact h1
   refine wpIn_mono (Ft (some (w.heap.size+1)) _ _ _ k r _ _ aD aG E6 eE) fun e fl uI yk=>?_
   obtain ⟨rfl,x,mj,qB⟩:=yk
   have rT:uI.heap[w.heap.size+1]?=some (.loop (rec .ready none)):=(qB.zone _ List.mem_cons_self).1 _ _ (by unfold dU;rw [if_pos rfl])
   refine ⟨_,run_beginRound rT (by rw [kW]),?_⟩
   have ny:=qB.swap qM (.loop { rec .ready none with state:=.busy })
   refine wpIn_mono (Fx _ m _ dD k r x fl _ aD aG mj ny) fun e a3 wO cn=>?_
   rcases cn with ⟨rfl,eR,vy,rI⟩ | ⟨rfl,eR,vy,rI⟩
   ·have ya:wO.heap[w.heap.size+1]?=some (.loop { rec .ready none with state:=.busy }):=(rI.zone _ List.mem_cons_self).1 _ _ (by unfold dU;rw [if_pos rfl])
    have x0:=run_endRound (P:=P) none ya
    refine ⟨_,_,x0,true,rfl,?_⟩
    refine (show ∃ y4,inv (k+1) y4∧aC w0 (dU (w.heap.size+1) (.loop (rec .ready none))::dD::zs) (fP y4) _ from ⟨eR,vy,?_⟩)
    have:=rI.swap qM (.loop (rec .ready none))
    rw [kW] at this ⊢
    exact this
   ·have ya:wO.heap[w.heap.size+1]?=some (.loop { rec .ready none with state:=.busy }):=(rI.zone _ List.mem_cons_self).1 _ _ (by unfold dU;rw [if_pos rfl])
    have x0:=run_endRound (P:=P) (some .ret) ya
    refine ⟨_,_,x0,false,rfl,?_⟩
    refine (show ∃ y4,yy y4∧aC w0 (dU (w.heap.size+1) (.loop (rec .done (some .ret)))::dD::zs) (fP y4) _ from ⟨eR,vy,?_⟩)
    have:=rI.swap qM (.loop (rec .done (some .ret)))
    rw [kW] at this ⊢
    exact this
  ·have fO:a.defers=[]:=ab.nodef
   have LW:@Fr ⟨[{ target:=.collected w.heap.size,args:=#[] }]⟩ n L { a with defers:=[{ target:=.collected w.heap.size,args:=#[] }]++a.defers }:=@Fr.mk ⟨[{ target:=.collected w.heap.size,args:=#[] }]⟩ n L _ ab.size (by rw [fO];rfl) ab.get
   rintro e Ad ⟨⟨v,rfl⟩,⟨r,aG,rH⟩ | ⟨r,aG,rH⟩⟩
   ·have hl:Ad.heap[w.heap.size+1]?=some (.loop (rec .ready none)):=(rH.zone _ List.mem_cons_self).1 _ _ (by unfold dU;rw [if_pos rfl])
    refine ⟨none,_,(by have:=run_endLoop (P:=P) hl (by rw [kW];simp);rw [kW] at this;exact this),?_⟩
    exact dE ⟨[{ target:=.collected w.heap.size,args:=#[] }]⟩ w.heap.size dD _ _ r (fun z bj=>r2 _ (Nat.le_refl _) z bj) rfl r0 aG LW (((rH.swap qM _)).ak (List.sublist_cons_self _ _) (List.Sublist.refl _))
   ·have hl:Ad.heap[w.heap.size+1]?=some (.loop (rec .done (some .ret))):=(rH.zone _ List.mem_cons_self).1 _ _ (by unfold dU;rw [if_pos rfl])
    refine ⟨some .ret,_,(by have:=run_endLoop (P:=P) hl (by rw [kW];simp);rw [kW] at this;exact this),?_⟩
    exact wpIn_ret (fH ⟨[{ target:=.collected w.heap.size,args:=#[] }]⟩ w.heap.size dD _ _ r (fun z bj=>r2 _ (Nat.le_refl _) z bj) rfl r0 aG LW (((rH.swap qM _)).ak (List.sublist_cons_self _ _) (List.Sublist.refl _)))
theorem ahA[aW]{hs:List av}{ops:Array Oper}{Q:Exit→Act→World→Prop}{d:Tmp}{ty:TypeId}{pos:String}{af:Array Edge}{gd:Option (Nat×Bool)}{x:Operand}{ys:List Operand}{ats:Array TypeId}{rest:List Oper}{Y:Value}{vs:List Value}{J:Bool→World→Prop}{a:Act}{w:World}
  (aT:Nat.blt d n=true) (hw:Region.wanted ⟨some d,.call ⟨.value x,ys.toArray,ats⟩,ty,pos,af,gd⟩ (yielded ops a.tmps)=true) (ab:Fr n L a) (U:aC w0 zs hs w) (h1:aU L x=some Y) (aq:ys.map (aU L)=vs.map some) (kC:uQ P Y vs (aC w0 zs hs) J)
  (K:∀ b a w,Fr n ((d,.bool b)::L) a→J b w→wpListIn (gA none) 0 P ops Q rest a w):wpListIn (gA none) 0 P ops Q (⟨some d,.call ⟨.value x,ys.toArray,ats⟩,ty,pos,af,gd⟩::rest) a w:=by
 obtain ⟨l,f,tmps,assign,body,rfl,cS,aY⟩:=kC w U
 unfold wpListIn
 simp only [hw,if_true]
 refine ⟨fun _ _=>trivial,?_⟩
 rw [show (gA none).round=none from rfl,Oper.semAt_none]
 have tE:∀ (ys:List Operand) (vs:List Value),ys.map (aU L)=vs.map some→ys.map a.eval=vs:=by
  intro ys
  induction ys with
  | nil=>intro vs h;cases vs with
   | nil=>rfl
   | cons=>simp at h
  | cons y ys ih=>intro vs h;cases vs with
   | nil=>simp at h
   | cons v vs=>
    simp only [List.map_cons,List.cons.injEq] at h
    rw [List.map_cons,ab.eval h.1,ih vs h.2]
 have he:(execOp a.eval ⟨some d,.call ⟨.value x,ys.toArray,ats⟩,ty,pos,af,gd⟩).run P w=.ok (.round l f tmps assign body) w:=by
  simp only [execOp]
  simp only [resolve,ab.eval h1,Deferred.ofValue,invoke,Sem.run_bind,Sem.run_pure,Result.andThen_ok]
  rw [List.map_toArray,tE ys vs aq]
  simp [cS]
 rw [he]
 refine ⟨fun iA=>(by cases iA),(aY _).mono fun e w' ⟨b,he,a6⟩=>?_⟩
 subst he
 exact K b _ _ (ab.put (Nat.blt_eq.mp aT)) a6
end
end Go.aJ
end
section
namespace Go.aJ
open Go Go.Sem Go.RowKit Go.Maps Go.Shelf Go.Proofs
theorem DW(a b:List UInt8):((⟨a.toArray⟩:ByteArray) == ⟨b.toArray⟩)=decide (a=b):=by
 rw [beq_toListBytes,ByteArray.toList_eq,ByteArray.toList_eq]
 show (a == b)=_
 rw [Bool.eq_iff_iff];simp
theorem MZ{P:Program}{kt:TypeId}{s b:Nat}{z:Value}(aM:a1 P kt .string s b z):pv P kt vs (fun _=>True) where
 jr em a w _:=by
  unfold Instr.checkKey
  rw [Sem.run_bind,run_underlying aM.und]
  simp [vs]
 find a w l es fA _ _:=by
  have key:∀ (l:List (List UInt8×Value)) (es:List MapEntry) (i:Nat),gR vs l es→Instr.findNow .string (vs a) es i=some (ga a l i):=by
   intro l
   induction l with
   | nil=>
    intro es i h
    have:es=[]:=by unfold gR at h;simpa using h
    subst this;rfl
   | cons p l ih=>
    intro es i h
    cases es with
    | nil=>unfold gR at h;simp at h
    | cons e es=>
     unfold gR at h
     simp only [List.map_cons,List.cons.injEq,Prod.mk.injEq] at h
     obtain ⟨⟨h1,aq⟩,aQ⟩:=h
     unfold Instr.findNow ga
     rw [h1]
     have bK:Instr.sameNow .string (vs a) (vs p.1)=some ((⟨a.toArray⟩:ByteArray) == ⟨p.1.toArray⟩):=rfl
     rw [bK]
     by_cases bH:a=p.1
     ·rw [if_pos bH,bH,show ((⟨p.1.toArray⟩:ByteArray) == ⟨p.1.toArray⟩)=true by rw [DW];simp,aq]
     ·rw [if_neg bH,show ((⟨a.toArray⟩:ByteArray) == ⟨p.1.toArray⟩)=false by rw [DW];simpa using bH]
      exact ih es (i+1) aQ
  unfold Instr.findKey
  rw [Sem.run_bind,run_underlying aM.und]
  simp only [Result.andThen_ok,key l es 0 fA]
  rfl
 bits a:=by
  show ((⟨a.toArray⟩:ByteArray) == ⟨a.toArray⟩)=true
  rw [DW];simp
theorem aaB{P:Program}{kt:TypeId}(h:P.underlying kt=some .string){i:List UInt8}(aG:i.length≤maxLen):Go.keyOf P kt (vs i)=some (.string i):=by
 have:(cP i).size≤maxLen:=by show i.toArray.size≤maxLen;simpa using aG
 simp [Go.keyOf,h,mapKey,vs,this]
theorem afR{P:Program}{ρk ρs:Ren}(lg:SlLaysZ.n7 P ρk)(iw:SlLaysZ.n6 P ρs)(Gd:AnyZ.SortsIn P ρs Fence.wide 4)(kt:TypeId)(FY:ρk.t 26=kt)(fJ:ρs.t 26=kt)(FL:P.underlying kt=some .string)
  (xD:∀ args w,(callFunc (ρs.f 9) args).run P w=.ok (.enter (ρs.f 9) args) w) (eg:∀ args w,(callFunc (ρk.f 10) args).run P w=.ok (.enter (ρk.f 10) args) w)
  {l:List (List UInt8×Value)}{es:List MapEntry}{c e b:Nat}{qj:TypeId}(fA:j0 vs l es c) (bA:(l.map (·.1)).Nodup) (aD:∀ i∈l.map (·.1),i.length≤maxLen) (hl:l.length≤4096) (w0:World) (bP:List aP) :
  eH P (ρs.f 6) [.func (.func (ρk.f 10)) (List.nil:List Value).toArray [.pointer (some ⟨e,0,none⟩)].toArray] w0 bP [.blk e qj [.map (some b)],.mp b es c] (fun v dj cV=>dj=[]∧cV=[.row v kt 1 ((l.map (·.1)).mergeSort (fun x y=>decide (x≤y))).length (((l.map (·.1)).mergeSort (fun x y=>decide (x≤y))).map vs),.blk e qj [.map (some b)],.mp b es c]):=by
 intro cw w U
 have h1:=(U.own (.blk e qj [.map (some b)]) (by simp)).1
 have aq:=(U.own (.mp b es c) (by simp)).1
 obtain ⟨fH,gq,qz⟩:=fA
 have tD:es.length=l.length:=NN fH
 let R:Value→Option (DataW Unit×List MemPlace):=fun _=>some (.nil,[])
 have FX:∀ x∈es,∃ i,x.key=vs i∧i∈l.map (·.1):=fun x aL=>by
  have:(x.key,x.val)∈es.map (fun e=>(e.key,e.val)):=List.mem_map_of_mem aL
  rw [fH] at this
  obtain ⟨p,bN,he⟩:=List.mem_map.1 this
  exact ⟨p.1,by simpa using (congrArg Prod.fst he).symm,List.mem_map_of_mem bN⟩
 have rW:∀ x∈es,∃ i,x.key=vs i∧i∈l.map (·.1)∧WideElems.rd P kt R x=some (.string i,.nil):=fun x aL=>by
  obtain ⟨i,aQ,bH⟩:=FX x aL
  refine ⟨i,aQ,bH,?_⟩
  unfold WideElems.rd
  rw [aQ,aaB FL (aD i bH)]
  rfl
 have x8:es.map (·.key)=l.map (fun p=>vs p.1):=by
  have:=congrArg (List.map Prod.fst) fH
  simpa [List.map_map,Function.comp_def] using this
 have Gf:MapKept.Stamped es.toArray c:=by
  refine ⟨by simpa using gq,by simpa using qz,?_⟩
  rw [show (es.toArray.toList.map (·.key))=l.map (fun p=>vs p.1) by simpa using x8]
  have:l.map (fun p=>vs p.1)=(l.map (·.1)).map vs:=by rw [List.map_map];rfl
  rw [this]
  exact List.Pairwise.map vs (fun a b fq e=>fq (by simpa [vs,cP] using e)) bA
 have qE:WideElems.Fit P kt R es.toArray c:=⟨by simp only [List.size_toArray];unfold maxLen;omega,Gf,fun x aL=>by
  obtain ⟨i,_,_,cN⟩:=rW x (by simpa using aL)
  exact ⟨_,cN⟩⟩
 have eY:w.ownsMap P kt R b es.length (.map ((es.toArray.toList.map (WideElems.rg P kt R)).foldr DataW.insert [])):=⟨es.toArray,c,aq.2,qE,by simp,rfl⟩
 obtain ⟨oC,tm⟩:∃ D:DataW Unit,D=.map ((es.toArray.toList.map (WideElems.rg P kt R)).foldr DataW.insert []):=⟨_,rfl⟩
 rw [← tm] at eY
 have yi:=WideShapes.sorted_perm (es.toArray.toList.map (WideElems.rg P kt R))
 have rQ:(strKeys oC).Perm (l.map (·.1)):=by
  rw [tm]
  show (((es.toArray.toList.map (WideElems.rg P kt R)).foldr DataW.insert []).map fun p=>strOf p.1).Perm _
  refine (yi.map _).trans ?_
  rw [List.map_map]
  have:es.toArray.toList.map ((fun p=>strOf p.1) ∘ WideElems.rg P kt R)=l.map (·.1):=by
   show es.map _=_
   have dq:es.map ((fun p=>strOf p.1) ∘ WideElems.rg P kt R)=(es.map (·.key)).map (fun v=>match v with | .string s=>s.data.toList | _=>[]):=by
    rw [List.map_map]
    refine List.map_congr_left fun x aL=>?_
    obtain ⟨i,eX,_,dp⟩:=rW x aL
    simp only [Function.comp,WideElems.rg_of dp,eX,vs,strOf]
   rw [dq,x8,List.map_map]
   rfl
  rw [this]
 have dZ:Maps.size oC=l.length:=by
  rw [tm]
  show ((es.toArray.toList.map (WideElems.rg P kt R)).foldr DataW.insert []).length=_
  rw [yi.length_eq,List.length_map]
  exact tD
 have FC:e<w.heap.size:=(Array.getElem?_eq_some_iff.1 h1.2).1
 have m4:w.cell? ⟨e,0,none⟩=some (.map (some b)):=by
  rw [cell_of_row w e 0 [Value.map (some b)].toArray qj (0,0) h1.2];rfl
 have Gb:SeqGives Fence.wide 2 P (ρk.f 10) #[.pointer (some ⟨e,0,none⟩)] encStr (fun ss=>ss.Perm (strKeys oC)) (Maps.size oC) w:=
  AnyZ.keys_gives (ρ:=ρk) { lg with } Fence.wide 2 trivial rfl (by omega) e b es.length oC w FC m4 (by rw [FY];exact eY)
 have DZ:=AnyZ.sorted_in iw Fence.wide 5 trivial trivial trivial trivial rfl (by omega) Gd xD (ρk.f 10) #[.pointer (some ⟨e,0,none⟩)] trivial eg _ _ (by rw [dZ];unfold maxLen;omega) (by rw [dZ];omega) w Gb
 refine Calls.mono (callsIn_wide.1 DZ) fun eN w' ⟨v,ss,he,bN,ym,_,au⟩=>?_
 have yn:ss.mergeSort (fun x y=>decide (x≤y))=(l.map (·.1)).mergeSort (fun x y=>decide (x≤y)):=mergeSort_of_perm (bN.trans rQ)
 have hlen:ss.length=((l.map (·.1)).mergeSort (fun x y=>decide (x≤y))).length:=by rw [← yn,List.length_mergeSort]
 rw [yn,hlen,fJ] at ym
 exact ⟨v,[],_,he,U.call (Qz au ym),rfl,rfl⟩
end Go.aJ
end
