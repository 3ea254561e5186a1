/- walks and plain laws -/
import Derived.Test.YtngcjojijaknnaaGreatDoorFwA
import Derived.Test.YtngcjojijaknnaaGreatDoorFwB
import Derived.Test.YtngcjojijaknnaaGreatDoorFwD
import Derived.Test.YtngcjojijaknnaaGreatDoorJnA
import Derived.Test.YtngcjojijaknnaaGreatDoorFwE
import Derived.Shelf.SlIter.Sorted
import Derived.Shelf.Strings.Repeat
set_option linter.all false
section
namespace Go.aK
open Go Go.Sem Go.RowKit Go.Shelf Go.Proofs
end Go.aK
end
section
namespace Go.aK
section
variable {P:Program}{n:Nat}{w0:World}{zs:List aR}{hs:List aC}{L:List (Nat×Value)}{d:Option Tmp}{ty t b7:TypeId}{pos:String}{af:Array Edge}{g:Option (Nat×Bool)}
variable {x y:Operand}
theorem DB{bS:TypeDesc}{s b:Nat}{z:Value}(aN:ba P t bS s b z)(bg:fg bS=false){xs:Array Value}{i:Nat}{v:Value}(h:xs[i]?=some v)(w:World):(part t xs i).run P w=.ok v w:=by
 unfold part
 rw [Sem.run_bind,aN.isAgg,bg]
 simp [h]
end
end Go.aK
end
section
namespace Go.aK
open Go.ChangeShapes Go.WideShapes Go.ChangeAt Go.RowKit
structure E9 where
 k:Int
 i:Int
 b:Int
 n:Int
 f:UInt8
 ps:List Int
def aln:ej E9 where
 size:=6
 rep z o c:=∃ gM,c=[aA o.k,aA o.i,aA o.b,aA o.n,bn o.f,gM]∧(-9223372036854775808≤o.k∧o.k≤9223372036854775807)∧(-9223372036854775808≤o.i∧o.i≤9223372036854775807)∧(-9223372036854775808≤o.b∧o.b≤9223372036854775807)∧(-9223372036854775808≤o.n∧o.n≤9223372036854775807)∧bo encI z gM o.ps
 mono bj h:=by obtain ⟨gM,h1,ar,aQ,bF,cO,dR⟩:=h;exact ⟨gM,h1,ar,aQ,bF,cO,dR.mono bj⟩
 len h:=by obtain ⟨gM,h1,_⟩:=h;rw [h1];rfl
 one h u hu:=by
  obtain ⟨gM,h1,ar,aQ,bF,cO,dR⟩:=h
  rw [h1] at hu
  simp only [List.mem_cons,List.not_mem_nil,or_false] at hu
  rcases hu with rfl | rfl | rfl | rfl | rfl | rfl
  ·rfl
  ·rfl
  ·rfl
  ·rfl
  ·rfl
  ·exact mP dR
def aqc:E9:=⟨0,0,0,0,0,[]⟩
section
variable {H:Type}{enc:TypeId×Value→H}{P:Program}{W:World}{t:TypeId}
end
end Go.aK
end
section
namespace Go.aK
def wa(P:Program)(Y:Value)(vs:List Value)(I:World→Prop)(J:Bool→World→Prop):Prop:=
 ∀ w,I w→∃ (l:Nat) (f:FuncId) (tmps:Array Value) (assign body:Code),Y=.func (.yield l) #[] #[]∧(Instr.yield l vs.toArray).run P w=.ok (.round l f tmps assign body) w ∧
  ∀ m,RoundIn (gZ none) m P l f tmps assign body w fun e w'=>∃ b,e=.returned (.bool b)∧J b w'
def Ki(P:Program)(f:FuncId)(args:List Value)(w0:World)(bU zst:List aR)(own cF:List aC)(R:Bool→List aC→Prop):Prop:=
 ∀ (w:World),aB w0 bU (own++cF) w→Calls P f args.toArray w fun e w'=>∃ b v c5,e=.returned v∧aB w0 (if b=true then bU else zst) (c5++cF) w'∧R b c5
section
variable {P:Program}{n:Nat}{w0:World}{zs:List aR}{L:List (Nat×Value)}
theorem Yo{f:FuncId}{fn:Func}{cd:Code}(bw:P.funcs[f]?=some fn)(aw:fn.body=some cd){k:Nat}(aE:fn.ntmps=k){args:List Value}(bD:args.length≤k){w0:World}{bU zst:List aR}{own cF:List aC}{R:Bool→List aC→Prop}
  (h:∀ a w,Fr k (pI 0 args) a→aB w0 bU (own++cF) w→cd.wp P (bodyPost P fn fun e w'=>∃ b v c5,e=.returned v∧aB w0 (if b=true then bU else zst) (c5++cF) w'∧R b c5) a w):Ki P f args w0 bU zst own cF R:=by
 subst aE
 intro w U
 exact calls_of_wp bw aw (h _ w (Fr.enter _ _ bD) U)
theorem Yp[a1]{fn:Func}{w:World}{hs:List aC}{a:Act}{R:Bool→List aC→Prop}{bU zst:List aR}{cF:List aC}(b:Bool)(k7:fn.results=#[])(aT:a1.ds=[])(ab:Fr n L a)(U:aB w0 zs hs w)(c5:List aC)(h1:(if b=true then bU else zst).Sublist zs)(ar:(c5++cF).Sublist hs)(fD:R b c5) :
  bodyPost P fn (fun e w'=>∃ b v c5,e=.returned v∧aB w0 (if b=true then bU else zst) (c5++cF) w'∧R b c5) .normal a w:=
 ⟨ab.nodef.trans aT,_,tI (rs:=[]) (vs:=[]) k7 ab U trivial,b,_,_,rfl,U.ao h1 ar,fD⟩
theorem Yr[a1]{fn:Func}{w:World}{hs:List aC}{a:Act}{R:Bool→List aC→Prop}{bU zst:List aR}{cF:List aC}(b:Bool)(k7:fn.results=#[])(aT:a1.ds=[])(ab:Fr n L a)(U:aB w0 zs hs w)(c5:List aC)(h1:(if b=true then bU else zst).Sublist zs)(ar:(c5++cF).Sublist hs)(fD:R b c5) :
  bodyPost P fn (fun e w'=>∃ b v c5,e=.returned v∧aB w0 (if b=true then bU else zst) (c5++cF) w'∧R b c5) .ret a w:=
 ⟨ab.nodef.trans aT,_,tI (rs:=[]) (vs:=[]) k7 ab U trivial,b,_,_,rfl,U.ao h1 ar,fD⟩
def UG(A B:World→Prop):Exit→Act→World→Prop:=fun e _ w=>(e=.normal∧A w)∨(e=.ret∧B w)
theorem ajD{γ ξ:Type}{g:Operand}{ps:List Tmp}{asg:Code}{body:Code}{Q:Exit→Act→World→Prop}{a:Act}{w:World}{gf:FuncId}{cs:List Value}(gy:γ→List aC)(inv:Nat→γ→Prop)(zW:γ→Prop)(N:Nat)(it:Nat→List Value)(il:γ)(gu:Nat→γ→ξ→List (Nat×Value))(c5:Nat→γ→ξ→List aC)
  (ab:Fr n L a) (U:aB w0 zs (gy il) w) (aP:aW L g=some (.func (.func gf) #[] cs.toArray)) (bO:ps.all (fun p=>Nat.blt p n)=true) (ia:∀ k,(it k).length=ps.length) (bw:b1 P gf) (h0:inv 0 il)
  (G2:∀ (ro:Option Nat) (m:Nat) (jO dT:aR) (k:Nat) (r:γ) (a:Act) (w:World),k<N→inv k r→Fr n (k0 ps (it k) L) a→aB w0 (jO::dT::zs) (gy r) w→asg.wpIn (gZ ro) m P (kE fun a w=>∃ x,Fr n (gu k r x) a∧aB w0 (jO::dT::zs) (c5 k r x) w) a w)
  (jY:∀ (Y:Value) (dB zst:List aR),(∀ z∈zs,z∈dB)→(∀ z∈zs,z∈zst)→(∀ k r,k<N→inv k r→wa P Y (it k) (aB w0 dB (gy r)) fun b w'=>if b=true then ∃ fe,inv (k+1) fe∧aB w0 dB (gy fe) w' else ∃ fe,zW fe∧aB w0 zst (gy fe) w') →
   ∀ w,aB w0 dB (gy il) w→Calls P gf (Y::cs).toArray w fun e w'=>(∃ v,e=.returned v)∧((∃ r,inv N r∧aB w0 dB (gy r) w')∨∃ r,zW r∧aB w0 zst (gy r) w'))
  (G6:∀ (l m:Nat) (jO dT:aR) (k:Nat) (r:γ) (x:ξ) (a:Act) (w:World),k<N→inv k r→Fr n (gu k r x) a→aB w0 (jO::dT::zs) (c5 k r x) w →
   body.wpIn (gZ (some l)) m P (UG (fun w'=>∃ fe,inv (k+1) fe∧aB w0 (jO::dT::zs) (gy fe) w') (fun w'=>∃ fe,zW fe∧aB w0 (jO::dT::zs) (gy fe) w')) a w)
  (fD:∀ (I:a1) (D:Nat) (dT:aR) (a:Act) (w:World) (r:γ),(∀ z∈zs,z D=none)→I.ds=[{ target:=.collected D,args:=#[] }]→dT=ey D (.deferred (some []))→zW r→Fr (I:=I) n L a→aB w0 (dT::zs) (gy r) w→Q .ret a w)
  (dU:∀ (I:a1) (D:Nat) (dT:aR) (a:Act) (w:World) (r:γ),(∀ z∈zs,z D=none)→I.ds=[{ target:=.collected D,args:=#[] }]→dT=ey D (.deferred (some []))→inv N r→Fr (I:=I) n L a→aB w0 (dT::zs) (gy r) w→Q .normal a w) :
  (Code.rangeFunc g ps.toArray asg body).wp P Q a w:=by
 refine wpIn_wide (n:=0).1 (wpIn_rangeFunc ?_)
 intro fn _
 obtain ⟨rec,lG⟩:∃ rec:LoopState→Option Code→Loop,rec=fun st pe=>{ state:=st,pending:=pe,fn,tmps:=a.tmps,params:=ps.toArray,assign:=asg,body,defers:=w.heap.size }:=⟨_,rfl⟩
 have tc:∀ b,w.heap.size≤b→∀ z∈zs,z b=none:=fun b aw z bj=>by
  cases gn:z b with
  | none=>rfl
  | some o=>exact absurd (lb ((U.zone z bj).1 b o gn)) ag
 have nH:aB w0 (ey w.heap.size (.deferred (some []))::zs) (gy il) (w.alloc (.deferred (some []))):=
  U.frozen _ (by simp) (fun b aw=>heap_alloc_old w _ aw) (heap_alloc_new w _) ⟨rfl,rfl,rfl⟩
 have kG:aB w0 (ey (w.heap.size+1) (.loop (rec .ready none))::ey w.heap.size (.deferred (some []))::zs) (gy il) ((w.alloc (.deferred (some []))).alloc (.loop (rec .ready none))):=by
  have:=nH.frozen (w':=(w.alloc (.deferred (some []))).alloc (.loop (rec .ready none))) (.loop (rec .ready none)) (by simp) (fun b aw=>heap_alloc_old _ _ aw) (heap_alloc_new _ _) ⟨rfl,rfl,rfl⟩
  rwa [World.size_alloc] at this
 obtain ⟨dT,s9⟩:∃ z,z=ey w.heap.size (.deferred (some [])):=⟨_,rfl⟩
 have rO:∀ z∈dT::zs,z (w.heap.size+1)=none:=by
  intro z bj
  rcases List.mem_cons.1 bj with rfl | bj
  ·rw [s9];unfold ey;rw [if_neg ag]
  ·exact tc _ ag z bj
 rw [← s9] at kG
 generalize GZ:(w.alloc (.deferred (some []))).alloc (.loop (rec .ready none))=rf at kG
 obtain ⟨fnr,Hf,Hg,Hh⟩:=bw
 refine ⟨w.heap.size+1,[{ target:=.collected w.heap.size,args:=#[] }],rf, { target:=.fn (.func gf) cs.toArray,args:=#[.func (.yield (w.heap.size+1)) #[] #[]] },rf,gf,
  (.func (.yield (w.heap.size+1)) #[] #[]::cs).toArray,rf,?_,?_,fun _ _=>trivial,?_,fun h=>(by cases h),?_⟩
 ·rw [← GZ,lG];exact run_enterLoop_outer _ _ _ _ _
 ·have he:=ab.eval aP
  simp only [resolve,rangeCall,he]
  simp [Deferred.ofValue,Act.eval]
 ·simp only [invoke,Sem.run_bind,Sem.run_pure,Result.andThen_ok,callFunc,run_program,Hf,Hg,Hh]
  simp
 ·refine (BS (ro:=none) (jY (.func (.yield (w.heap.size+1)) #[] #[]) (ey (w.heap.size+1) (.loop (rec .ready none))::dT::zs) (ey (w.heap.size+1) (.loop (rec .done (some .ret)))::dT::zs) (fun z bj=>List.mem_cons_of_mem _ (List.mem_cons_of_mem _ bj)) (fun z bj=>List.mem_cons_of_mem _ (List.mem_cons_of_mem _ bj)) ?_ rf kG)).mono ?_
  ·
   intro k r aE aH W eZ
   have hl:W.heap[w.heap.size+1]?=some (.loop (rec .ready none)):=(eZ.zone _ List.mem_cons_self).1 _ _ (by unfold ey;rw [if_pos rfl])
   have cZ:=run_yield (P:=P) (args:=(it k).toArray) hl (by rw [lG];simp [ia k])
   rw [lG] at cZ
   refine ⟨_,fn,_,_,body,rfl,cZ,fun m=>roundIn_of_wpIn (l:=w.heap.size+1) trivial ?_⟩
   have GC:Fr n (k0 ps (it k) L) { tmps:=(ps.toArray.zip (it k).toArray).foldl (fun tmps (x:Tmp×Value)=>tmps.setIfInBounds x.1 x.2) a.tmps,defers:=[] }:=by
    have h1:=Gg ps (it k) L { tmps:=a.tmps,defers:=[] } bO (ia k).symm ⟨ab.size,rfl,ab.get⟩
    have e:(ps.toArray.zip (it k).toArray).foldl (fun tmps (x:Tmp×Value)=>tmps.setIfInBounds x.1 x.2) a.tmps=(ps.zip (it k)).foldl (fun tmps (x:Tmp×Value)=>tmps.setIfInBounds x.1 x.2) a.tmps:=by
     simp
    rw [e]
    exact h1
   refine wpIn_mono (G2 (some (w.heap.size+1)) _ _ _ k r _ _ aE aH GC eZ) fun e fT vT zJ=>?_
   obtain ⟨rfl,x,mZ,nH⟩:=zJ
   have sY:vT.heap[w.heap.size+1]?=some (.loop (rec .ready none)):=(nH.zone _ List.mem_cons_self).1 _ _ (by unfold ey;rw [if_pos rfl])
   refine ⟨_,run_beginRound sY (by rw [lG]),?_⟩
   have kG:=nH.swap rO (.loop { rec .ready none with state:=.busy })
   refine wpIn_mono (G6 _ m _ dT k r x fT _ aE aH mZ kG) fun e a3 yd ch=>?_
   rcases ch with ⟨rfl,fe,wX,sL⟩ | ⟨rfl,fe,wX,sL⟩
   ·have u2:yd.heap[w.heap.size+1]?=some (.loop { rec .ready none with state:=.busy }):=(sL.zone _ List.mem_cons_self).1 _ _ (by unfold ey;rw [if_pos rfl])
    have zk:=run_endRound (P:=P) none u2
    refine ⟨_,_,zk,true,rfl,?_⟩
    refine (show ∃ Ay,inv (k+1) Ay∧aB w0 (ey (w.heap.size+1) (.loop (rec .ready none))::dT::zs) (gy Ay) _ from ⟨fe,wX,?_⟩)
    have:=sL.swap rO (.loop (rec .ready none))
    rw [lG] at this ⊢
    exact this
   ·have u2:yd.heap[w.heap.size+1]?=some (.loop { rec .ready none with state:=.busy }):=(sL.zone _ List.mem_cons_self).1 _ _ (by unfold ey;rw [if_pos rfl])
    have zk:=run_endRound (P:=P) (some .ret) u2
    refine ⟨_,_,zk,false,rfl,?_⟩
    refine (show ∃ Ay,zW Ay∧aB w0 (ey (w.heap.size+1) (.loop (rec .done (some .ret)))::dT::zs) (gy Ay) _ from ⟨fe,wX,?_⟩)
    have:=sL.swap rO (.loop (rec .done (some .ret)))
    rw [lG] at this ⊢
    exact this
  ·have gx:a.defers=[]:=ab.nodef
   have NN:@Fr ⟨[{ target:=.collected w.heap.size,args:=#[] }]⟩ n L { a with defers:=[{ target:=.collected w.heap.size,args:=#[] }]++a.defers }:=@Fr.mk ⟨[{ target:=.collected w.heap.size,args:=#[] }]⟩ n L _ ab.size (by rw [gx];rfl) ab.get
   rintro e BC ⟨⟨v,rfl⟩,⟨r,aH,sK⟩ | ⟨r,aH,sK⟩⟩
   ·have hl:BC.heap[w.heap.size+1]?=some (.loop (rec .ready none)):=(sK.zone _ List.mem_cons_self).1 _ _ (by unfold ey;rw [if_pos rfl])
    refine ⟨none,_,(by have:=run_endLoop (P:=P) hl (by rw [lG];simp);rw [lG] at this;exact this),?_⟩
    exact dU ⟨[{ target:=.collected w.heap.size,args:=#[] }]⟩ w.heap.size dT _ _ r (fun z bj=>tc _ (Nat.le_refl _) z bj) rfl s9 aH NN (((sK.swap rO _)).ao (List.sublist_cons_self _ _) (List.Sublist.refl _))
   ·have hl:BC.heap[w.heap.size+1]?=some (.loop (rec .done (some .ret))):=(sK.zone _ List.mem_cons_self).1 _ _ (by unfold ey;rw [if_pos rfl])
    refine ⟨some .ret,_,(by have:=run_endLoop (P:=P) hl (by rw [lG];simp);rw [lG] at this;exact this),?_⟩
    exact wpIn_ret (fD ⟨[{ target:=.collected w.heap.size,args:=#[] }]⟩ w.heap.size dT _ _ r (fun z bj=>tc _ (Nat.le_refl _) z bj) rfl s9 aH NN (((sK.swap rO _)).ao (List.sublist_cons_self _ _) (List.Sublist.refl _)))
theorem ajQ[a1]{hs:List aC}{ops:Array Oper}{Q:Exit→Act→World→Prop}{d:Tmp}{ty:TypeId}{pos:String}{af:Array Edge}{gd:Option (Nat×Bool)}{x:Operand}{ys:List Operand}{ats:Array TypeId}{rest:List Oper}{Y:Value}{vs:List Value}{J:Bool→World→Prop}{a:Act}{w:World}
  (aT:Nat.blt d n=true) (hw:Region.wanted ⟨some d,.call ⟨.value x,ys.toArray,ats⟩,ty,pos,af,gd⟩ (yielded ops a.tmps)=true) (ab:Fr n L a) (U:aB w0 zs hs w) (h1:aW L x=some Y) (ar:ys.map (aW L)=vs.map some) (jn:wa P Y vs (aB w0 zs hs) J)
  (K:∀ b a w,Fr n ((d,.bool b)::L) a→J b w→wpListIn (gZ none) 0 P ops Q rest a w):wpListIn (gZ none) 0 P ops Q (⟨some d,.call ⟨.value x,ys.toArray,ats⟩,ty,pos,af,gd⟩::rest) a w:=by
 obtain ⟨l,f,tmps,assign,body,rfl,cZ,aY⟩:=jn w U
 unfold wpListIn
 simp only [hw,if_true]
 refine ⟨fun _ _=>trivial,?_⟩
 rw [show (gZ none).round=none from rfl,Oper.semAt_none]
 have uV:∀ (ys:List Operand) (vs:List Value),ys.map (aW L)=vs.map some→ys.map a.eval=vs:=by
  intro ys
  induction ys with
  | nil=>intro vs h;cases vs with
   | nil=>rfl
   | cons=>simp at h
  | cons y ys ih=>intro vs h;cases vs with
   | nil=>simp at h
   | cons v vs=>
    simp only [List.map_cons,List.cons.injEq] at h
    rw [List.map_cons,ab.eval h.1,ih vs h.2]
 have he:(execOp a.eval ⟨some d,.call ⟨.value x,ys.toArray,ats⟩,ty,pos,af,gd⟩).run P w=.ok (.round l f tmps assign body) w:=by
  simp only [execOp]
  simp only [resolve,ab.eval h1,Deferred.ofValue,invoke,Sem.run_bind,Sem.run_pure,Result.andThen_ok]
  rw [List.map_toArray,uV ys vs ar]
  simp [cZ]
 rw [he]
 refine ⟨fun jf=>(by cases jf),(aY _).mono fun e w' ⟨b,he,aV⟩=>?_⟩
 subst he
 exact K b _ _ (ab.put (Nat.blt_eq.mp aT)) aV
end
end Go.aK
end
section
namespace Go.aK
open Go Go.Sem Go.RowKit Go.Maps Go.Shelf Go.Proofs
theorem Fm(a b:List UInt8):((⟨a.toArray⟩:ByteArray) == ⟨b.toArray⟩)=decide (a=b):=by
 rw [beq_toListBytes,ByteArray.toList_eq,ByteArray.toList_eq]
 show (a == b)=_
 rw [Bool.eq_iff_iff];simp
theorem OW{P:Program}{kt:TypeId}{s b:Nat}{z:Value}(aN:ba P kt .string s b z):qc P kt vs (fun _=>True) where
 jT em a w _:=by
  unfold Instr.checkKey
  rw [Sem.run_bind,run_underlying aN.und]
  simp [vs]
 find a w l es eP _ _:=by
  have key:∀ (l:List (List UInt8×Value)) (es:List MapEntry) (i:Nat),hx vs l es→Instr.findNow .string (vs a) es i=some (gI a l i):=by
   intro l
   induction l with
   | nil=>
    intro es i h
    have:es=[]:=by unfold hx at h;simpa using h
    subst this;rfl
   | cons p l ih=>
    intro es i h
    cases es with
    | nil=>unfold hx at h;simp at h
    | cons e es=>
     unfold hx at h
     simp only [List.map_cons,List.cons.injEq,Prod.mk.injEq] at h
     obtain ⟨⟨h1,ar⟩,aQ⟩:=h
     unfold Instr.findNow gI
     rw [h1]
     have bL:Instr.sameNow .string (vs a) (vs p.1)=some ((⟨a.toArray⟩:ByteArray) == ⟨p.1.toArray⟩):=rfl
     rw [bL]
     by_cases bF:a=p.1
     ·rw [if_pos bF,bF,show ((⟨p.1.toArray⟩:ByteArray) == ⟨p.1.toArray⟩)=true by rw [Fm];simp,ar]
     ·rw [if_neg bF,show ((⟨a.toArray⟩:ByteArray) == ⟨p.1.toArray⟩)=false by rw [Fm];simpa using bF]
      exact ih es (i+1) aQ
  unfold Instr.findKey
  rw [Sem.run_bind,run_underlying aN.und]
  simp only [Result.andThen_ok,key l es 0 eP]
  rfl
 bits a:=by
  show ((⟨a.toArray⟩:ByteArray) == ⟨a.toArray⟩)=true
  rw [Fm];simp
theorem acL{P:Program}{kt:TypeId}(h:P.underlying kt=some .string){i:List UInt8}(aH:i.length≤maxLen):Go.keyOf P kt (vs i)=some (.string i):=by
 have:(cW i).size≤maxLen:=by show i.toArray.size≤maxLen;simpa using aH
 simp [Go.keyOf,h,mapKey,vs,this]
theorem ah3{P:Program}{ρk ρs:Ren}(lU:SlLaysZ.n7 P ρk)(ja:SlLaysZ.n6 P ρs)(HN:AnyZ.SortsIn P ρs Fence.wide 4)(kt:TypeId)(Hy:ρk.t 26=kt)(fH:ρs.t 26=kt)(Hl:P.underlying kt=some .string)
  (yT:∀ args w,(callFunc (ρs.f 9) args).run P w=.ok (.enter (ρs.f 9) args) w) (eg:∀ args w,(callFunc (ρk.f 10) args).run P w=.ok (.enter (ρk.f 10) args) w)
  {l:List (List UInt8×Value)}{es:List MapEntry}{c e b:Nat}{q9:TypeId}(eP:ll vs l es c) (bD:(l.map (·.1)).Nodup) (aE:∀ i∈l.map (·.1),i.length≤maxLen) (hl:l.length≤4096) (w0:World) (bU:List aR) :
  e1 P (ρs.f 6) [.func (.func (ρk.f 10)) (List.nil:List Value).toArray [.pointer (some ⟨e,0,none⟩)].toArray] w0 bU [.blk e q9 [.map (some b)],.mp b es c] (fun v dB c5=>dB=[]∧c5=[.row v kt 1 ((l.map (·.1)).mergeSort (fun x y=>decide (x≤y))).length (((l.map (·.1)).mergeSort (fun x y=>decide (x≤y))).map vs),.blk e q9 [.map (some b)],.mp b es c]):=by
 intro cF w U
 have h1:=(U.own (.blk e q9 [.map (some b)]) (by simp)).1
 have ar:=(U.own (.mp b es c) (by simp)).1
 obtain ⟨fD,gS,rB⟩:=eP
 have uU:es.length=l.length:=PJ fD
 let R:Value→Option (DataW Unit×List MemPlace):=fun _=>some (.nil,[])
 have Hx:∀ x∈es,∃ i,x.key=vs i∧i∈l.map (·.1):=fun x aM=>by
  have:(x.key,x.val)∈es.map (fun e=>(e.key,e.val)):=List.mem_map_of_mem aM
  rw [fD] at this
  obtain ⟨p,bO,he⟩:=List.mem_map.1 this
  exact ⟨p.1,by simpa using (congrArg Prod.fst he).symm,List.mem_map_of_mem bO⟩
 have pR:∀ x∈es,∃ i,x.key=vs i∧i∈l.map (·.1)∧WideElems.rd P kt R x=some (.string i,.nil):=fun x aM=>by
  obtain ⟨i,aQ,bF⟩:=Hx x aM
  refine ⟨i,aQ,bF,?_⟩
  unfold WideElems.rd
  rw [aQ,acL Hl (aE i bF)]
  rfl
 have zy:es.map (·.key)=l.map (fun p=>vs p.1):=by
  have:=congrArg (List.map Prod.fst) fD
  simpa [List.map_map,Function.comp_def] using this
 have HP:MapKept.Stamped es.toArray c:=by
  refine ⟨by simpa using gS,by simpa using rB,?_⟩
  rw [show (es.toArray.toList.map (·.key))=l.map (fun p=>vs p.1) by simpa using zy]
  have:l.map (fun p=>vs p.1)=(l.map (·.1)).map vs:=by rw [List.map_map];rfl
  rw [this]
  exact List.Pairwise.map vs (fun a b fG e=>fG (by simpa [vs,cW] using e)) bD
 have rG:WideElems.Fit P kt R es.toArray c:=⟨by simp only [List.size_toArray];unfold maxLen;omega,HP,fun x aM=>by
  obtain ⟨i,_,_,cO⟩:=pR x (by simpa using aM)
  exact ⟨_,cO⟩⟩
 have fj:w.ownsMap P kt R b es.length (.map ((es.toArray.toList.map (WideElems.rg P kt R)).foldr DataW.insert [])):=⟨es.toArray,c,ar.2,rG,by simp,rfl⟩
 obtain ⟨pn,uK⟩:∃ D:DataW Unit,D=.map ((es.toArray.toList.map (WideElems.rg P kt R)).foldr DataW.insert []):=⟨_,rfl⟩
 rw [← uK] at fj
 have zH:=WideShapes.sorted_perm (es.toArray.toList.map (WideElems.rg P kt R))
 have sV:(strKeys pn).Perm (l.map (·.1)):=by
  rw [uK]
  show (((es.toArray.toList.map (WideElems.rg P kt R)).foldr DataW.insert []).map fun p=>strOf p.1).Perm _
  refine (zH.map _).trans ?_
  rw [List.map_map]
  have:es.toArray.toList.map ((fun p=>strOf p.1) ∘ WideElems.rg P kt R)=l.map (·.1):=by
   show es.map _=_
   have dR:es.map ((fun p=>strOf p.1) ∘ WideElems.rg P kt R)=(es.map (·.key)).map (fun v=>match v with | .string s=>s.data.toList | _=>[]):=by
    rw [List.map_map]
    refine List.map_congr_left fun x aM=>?_
    obtain ⟨i,fh,_,dJ⟩:=pR x aM
    simp only [Function.comp,WideElems.rg_of dJ,fh,vs,strOf]
   rw [dR,zy,List.map_map]
   rfl
  rw [this]
 have eF:Maps.size pn=l.length:=by
  rw [uK]
  show ((es.toArray.toList.map (WideElems.rg P kt R)).foldr DataW.insert []).length=_
  rw [zH.length_eq,List.length_map]
  exact uU
 have Hb:e<w.heap.size:=(Array.getElem?_eq_some_iff.1 h1.2).1
 have nI:w.cell? ⟨e,0,none⟩=some (.map (some b)):=by
  rw [cell_of_row w e 0 [Value.map (some b)].toArray q9 (0,0) h1.2];rfl
 have HL:SeqGives Fence.wide 2 P (ρk.f 10) #[.pointer (some ⟨e,0,none⟩)] encStr (fun ss=>ss.Perm (strKeys pn)) (Maps.size pn) w:=
  AnyZ.keys_gives (ρ:=ρk) { lU with } Fence.wide 2 trivial rfl ag e b es.length pn w Hb nI (by rw [Hy];exact fj)
 have Fq:=AnyZ.sorted_in ja Fence.wide 5 trivial trivial trivial trivial rfl ag HN yT (ρk.f 10) #[.pointer (some ⟨e,0,none⟩)] trivial eg _ _ (by rw [eF];unfold maxLen;omega) (by rw [eF];omega) w HL
 refine Calls.mono (callsIn_wide.1 Fq) fun e5 w' ⟨v,ss,he,bO,zL,_,aw⟩=>?_
 have zM:ss.mergeSort (fun x y=>decide (x≤y))=(l.map (·.1)).mergeSort (fun x y=>decide (x≤y)):=mergeSort_of_perm (bO.trans sV)
 have hlen:ss.length=((l.map (·.1)).mergeSort (fun x y=>decide (x≤y))).length:=by rw [← zM,List.length_mergeSort]
 rw [zM,hlen,fH] at zL
 exact ⟨v,[],_,he,U.call (SA aw zL),rfl,rfl⟩
end Go.aK
end
