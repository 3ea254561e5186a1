/- walks and plain laws -/
import Derived.Test.YtngcjojijaknnaaGreatDoorFwA
import Derived.ChangeKeysEq
import Derived.Laws.StructEq
import Derived.Below
import Derived.Carry
import Derived.OpenShut
import Derived.WalkKit
import Derived.ProofKit
import Derived.Deep.DeepHandedRow
import Derived.Lib.LaidTab
import Derived.Stop.LaidErr
import Derived.Laws.Cover3
set_option linter.all false
section
namespace Go.aK
section
variable {P:Program}{n:Nat}{w0:World}{zs:List aR}{hs:List aC}{L:List (Nat×Value)}{d:Option Tmp}{ty t b7:TypeId}{pos:String}{af:Array Edge}{g:Option (Nat×Bool)}
variable {x y c ot ou kR:Operand}{u v:Value}{ops:Array Oper}{rest:List Oper}
theorem tC[a1]{fn:Fn}{fi ca:List Operand}{fs cs:List Value}(h1:iP L fi=some fs)(ar:iP L ca=some cs) :
  bR P n w0 zs hs L ⟨d,.makeFunc fn fi.toArray ca.toArray,ty,pos,af,g⟩ (.func fn fs.toArray cs.toArray):=
 eV fun a bg w hw=>by
  have bL:=bg.yU h1
  have bT:=bg.yU ar
  simp only [execOp]
  simp [Instr.makeFunc,bL,bT]
theorem ahl[a1]{f:FuncId}(bw:b1 P f){fs cs:List Value}(h0:aW L x=some (.func (.func f) fs.toArray cs.toArray)){os:List Operand}{vs:List Value}{ats:Array TypeId}{a:Act}(bg:Fr n L a)(h1:iP L os=some vs)(w:World) :
  (execOp a.eval ⟨d,.call ⟨.value x,os.toArray,ats⟩,ty,pos,af,g⟩).run P w=.ok (.enter f (fs++vs++cs).toArray) w:=by
 obtain ⟨fn,ar,aQ,bF⟩:=bw
 have he:=bg.yU h1
 simp only [execOp]
 simp only [resolve,bg.eval h0,Deferred.ofValue,invoke,Sem.run_bind,Sem.run_pure,Result.andThen_ok,callFunc,run_program,ar,bF,aQ]
 simp [he]
theorem Ak[a1]{f:FuncId}(bw:b1 P f){fs cs:List Value}(h0:aW L x=some (.func (.func f) fs.toArray cs.toArray)){os:List Operand}{vs:List Value}{ats:Array TypeId}{R:Value→List aR→List aC→Prop}(h1:iP L os=some vs)(bq:∀ w,aB w0 zs hs w→cC P f (fs++vs++cs) w R)(fD:∀ dr zs hs,R dr zs hs→dr=v) :
  bR P n w0 zs hs L ⟨d,.call ⟨.value x,os.toArray,ats⟩,ty,pos,af,g⟩ v:=
 fun a bg w hw=>by
  rw [ahl bw h0 bg h1]
  exact ⟨rfl,Calls.mono (bq w hw) fun e w' ⟨dr,zs',hs',he,U,aY⟩=>⟨by rw [he,fD _ _ _ aY],hw.later U.ext U.io⟩⟩
theorem j0{w:World}(U:aB w0 zs hs w)(k:Nat){b:Nat}{bt:TypeId}{cs:List Value}(aE:hs[k]?=some (.blk b bt cs)):w.heap[b]?=some (.cells cs.toArray bt (0,0)):=
 (U.own _ (List.mem_of_getElem? aE)).1.2
end
end Go.aK
namespace Go.aK
section
variable {P:Program}{n:Nat}{w0:World}{zs:List aR}{hs:List aC}{L:List (Nat×Value)}
theorem mn[a1]{dN cy:Code}{Q:Exit→Act→World→Prop}{a:Act}{w:World}{γ:Type}(oG:γ→List (Nat×Value))(lU:List (Nat×Value))(gy:γ→List aC)(fact:γ→Prop)(aE:Fr n lU a)(U:aB w0 zs hs w)
  (aM:dN.wp P (Exit.then (fun a w=>∃ g,fact g∧Fr n (oG g++lU) a∧aB w0 zs (gy g) w) Q) a w)
  (cZ:∀ g a w,fact g→Fr n (oG g++lU) a→aB w0 zs (gy g) w→cy.wp P Q a w):(Code.seq dN cy).wp P Q a w:=
 wp_cut _ aM fun _ _ ⟨g,h1,ar,aQ⟩=>cZ g _ _ h1 ar aQ
end
end Go.aK
end
section
namespace Go.aK
section
variable {P:Program}{n:Nat}{w0:World}{zs:List aR}{hs:List aC}{L:List (Nat×Value)}{d:Option Tmp}{ty t b7:TypeId}{pos:String}{af:Array Edge}{g:Option (Nat×Bool)}
variable {x y c ot ou kR:Operand}{u v:Value}{ops:Array Oper}{rest:List Oper}
theorem afF[a1]{α:Type}{f:α→Value}{bS:TypeDesc}{s bu:Nat}{zv:Value}(aN:ba P t bS s bu zv)(k:Nat){b off:Nat}{bt:TypeId}{xs:List α}(h1:aW L x=some (.pointer (some ⟨b,off,none⟩)))(aE:hs[k]?=some (.blk b bt (xs.map f)))(hl:off+s≤xs.length)(aT:fg bS=true) :
  bR P n w0 zs hs L ⟨d,.load t x,ty,pos,af,g⟩ (.agg (((xs.drop off).take s).map f).toArray):=
 Ap aN k h1 aE (by rw [List.map_take,List.map_drop]) (by simpa using hl) aT
end
end Go.aK
namespace Go.aK
theorem aB.freeze{α:Type}{E:ej α}{w0:World}{zs:List aR}{hs:List aC}{w:World}{e:TypeId}{v:Value}{m:Nat}{cs:List Value}(h:aB w0 zs (.row v e E.size m cs::hs) w){z':aR}(jH:z'=(fun _=>none)∨z'∈zs){xs:List α}(hm:m=xs.length)(aw:m≤140737488355328)
  (aY:∀ i x,xs[i]?=some x→∃ dN,E.rep z' x dN∧∀ j u,dN[j]?=some u→cs[i*E.size+j]?=some u):∃ z,bo E z v xs∧aB w0 (z::zs) hs w:=by
 have fj:=h.own _ List.mem_cons_self
 have aa2:z'.le (cf w):=by
  rcases jH with rfl | jH
  ·intro b o aw;cases aw
  ·exact (h.zone z' jH).1
 have iz:∀ b,v.ownBlock=some b→z' b=none:=by
  intro b abV
  rcases jH with rfl | jH
  ·rfl
  ·exact fj.2 b abV z' jH
 let z:aR:=fun k=>if v.ownBlock=some k then w.heap[k]? else z' k
 have pV:z'.le z:=by
  intro k o aE
  show (if v.ownBlock=some k then w.heap[k]? else z' k)=some o
  split
  ·rename_i bA;rw [iz k bA] at aE;cases aE
  ·exact aE
 have acf:z.le (cf w):=by
  intro k o aE
  replace aE:(if v.ownBlock=some k then w.heap[k]? else z' k)=some o:=aE
  split at aE
  ·exact aE
  ·exact aa2 k o aE
 refine ⟨z,?_,h.ext,?_,?_,?_,h.io⟩
 ·subst hm
  refine ⟨aw,?_⟩
  rcases fj.1.2 with ⟨rfl,bD⟩ | ⟨b,cap,cur,rfl,N5,aP,k4,oa,iT,kM⟩
  ·refine ⟨none,0,by rw [bD],by omega,fun i x aM=>?_⟩
   have:=(List.getElem?_eq_some_iff.1 aM).1
   omega
  ·refine ⟨some ⟨b,0,none⟩,cap,rfl,k4,fun i x aM=>?_⟩
   obtain ⟨dN,h1,ar⟩:=aY i x aM
   refine ⟨b,0,cur,e,(0,0),dN,rfl,?_,E.mono pV h1,fun j u hu=>?_⟩
   ·show (if _=some b then w.heap[b]? else z' b)=_
    rw [if_pos (show (Value.slice (some ⟨b,0,none⟩) xs.length cap).ownBlock=some b from rfl)];exact aP
   ·have aQ:=ar j u hu
    rw [← kM,List.getElem?_take] at aQ
    split at aQ
    ·simpa [Nat.zero_add] using aQ
    ·cases aQ
 ·intro y cZ
  rcases List.mem_cons.1 cZ with rfl | cZ
  ·refine ⟨acf,fun b o zi=>?_⟩
   replace zi:(if v.ownBlock=some b then w.heap[b]? else z' b)=some o:=zi
   split at zi
   ·rename_i bA;exact (aC.nc fj.1 b bA).1
   ·rcases jH with rfl | jH
    ·cases zi
    ·exact (h.zone z' jH).2 b o zi
  ·exact h.zone y cZ
 ·intro r qz
  have h1:=h.own r (List.mem_cons_of_mem _ qz)
  refine ⟨h1.1,fun b aw y cZ=>?_⟩
  rcases List.mem_cons.1 cZ with rfl | cZ
  ·show (if v.ownBlock=some b then w.heap[b]? else z' b)=none
   split
   ·rename_i bA
    exfalso
    have gx:=h.nd
    rw [List.filterMap_cons] at gx
    have bL:(aC.row v e E.size m cs).id=some b:=bA
    rw [bL] at gx
    exact (List.nodup_cons.1 gx).1 (List.mem_filterMap.2 ⟨r,qz,aw⟩)
   ·rcases jH with rfl | jH
    ·rfl
    ·exact h1.2 b aw z' jH
  ·exact h1.2 b aw y cZ
 ·have gx:=h.nd
  exact FT (List.sublist_cons_self _ _) gx
theorem aB.qo{α:Type}{f:α→Value}{p:α→Prop}{h0:∀ x,(f x).oneCell'=true}{w0:World}{zs:List aR}{hs:List aC}{w:World}{e:TypeId}{v:Value}{m:Nat}{xs:List α}(h:aB w0 zs (.row v e 1 m (xs.map f)::hs) w)(hm:m=xs.length)(aw:m≤140737488355328)(bO:∀ x∈xs,p x):∃ z,bo (ly f p h0) z v xs∧aB w0 (z::zs) hs w:=
 aB.freeze (E:=ly f p h0) h (z':=fun _=>none) (.inl rfl) hm aw fun i x aM=>⟨[f x],⟨rfl,bO x (List.mem_of_getElem? aM)⟩,fun j u hu=>by
  cases j with
  | zero=>simp only [List.getElem?_cons_zero,Option.some.injEq] at hu;subst hu;show (xs.map f)[i*1+0]?=_;simp [aM]
  | succ j=>simp at hu⟩
theorem aB.Nk{w0:World}{zs:List aR}{hs:List aC}{w:World}{e:TypeId}{v:Value}{m:Nat}{xs:List UInt8}(h:aB w0 zs (.row v e 1 m (xs.map bn)::hs) w)(hm:m=xs.length)(aw:m≤140737488355328):∃ z,bo hc z v xs∧aB w0 (z::zs) hs w:=
 h.qo (f:=bn) hm aw fun _ _=>trivial
end Go.aK
namespace Go.aK
section
variable {P:Program}{n:Nat}{w0:World}{zs:List aR}{hs:List aC}{L:List (Nat×Value)}{d:Option Tmp}{ty t b7:TypeId}{pos:String}{af:Array Edge}{g:Option (Nat×Bool)}
theorem Aj[a1]{m:Nat}{e:TypeId}{s bu:Nat}{zc:List Value}(aN:ba P t (.array m e) s bu (.agg zc.toArray)){de:TypeDesc}{be:Nat}{ze:Value}(cr:ba P e de 1 be ze){parts:Array (Nat×Operand)}{vs:List Value}(h1:iP L (parts.toList.map (·.2))=some vs)
  (u0:parts.toList.map (·.1)=List.range' 0 vs.length) (n0:∀ v∈vs,v.oneCell'=true) (bj:zc.length=m) (hl:vs.length=m) :
  bR P n w0 zs hs L ⟨d,.build t parts,ty,pos,af,g⟩ (.agg vs.toArray):=
 qP (xo _ _ h1) (vF aN cr (by rw [u0];exact Mk (m:=m) (show (Value.agg zc.toArray).cells.size=m from by show zc.toArray.size=m;simpa using bj) hl n0))
end
end Go.aK
end
section
namespace Go.aK
section
variable {P:Program}{n:Nat}{w0:World}{zs:List aR}{hs:List aC}{L:List (Nat×Value)}{d:Option Tmp}{ty t b7:TypeId}{pos:String}{af:Array Edge}{g:Option (Nat×Bool)}
variable {x y c ot ou kR:Operand}{u v:Value}{ops:Array Oper}{rest:List Oper}
theorem Jm{e:TypeId}{be:Nat}{ze:Value}(cr:ba P e (.int .u8) 1 be ze)(k:Nat)(xs ys:List UInt8)(w:World):∀ (is:List Nat),(∀ i∈is,i<xs.length∧i<ys.length) →
  (Op.eqItems (k+1) e 1 (xs.map bn).toArray (ys.map bn).toArray is).run P w=.ok (decide (∀ i∈is,xs.getD i 0=ys.getD i 0)) w
 | [],_=>by simp [Op.eqItems]
 | i::is,h=>by
  have aH:=h i (by simp)
  have ih:=Jm cr k xs ys w is fun j aV=>h j (by simp [aV])
  have pt:∀ (l:List UInt8),i<l.length→(part e (l.map bn).toArray (i*1)).run P w=.ok (bn (l.getD i 0)) w:=by
   intro l hl
   unfold part
   rw [Sem.run_bind,cr.isAgg]
   simp [fg,hl]
  have he:(Op.equalIn (k+1) e (bn (xs.getD i 0)) (bn (ys.getD i 0))).run P w=.ok (decide (xs.getD i 0=ys.getD i 0)) w:=by
   generalize xs.getD i 0=a
   generalize ys.getD i 0=b
   simp only [Op.equalIn,Sem.run_bind,run_underlying cr.und,Result.andThen_ok]
   have:(((a.toNat:Int) == (b.toNat:Int)):Bool)=decide (a=b):=by
    rw [Bool.eq_iff_iff]
    simp only [beq_iff_eq,decide_eq_true_eq]
    constructor
    ·intro h;exact UInt8.toNat.inj ag
    ·intro h;rw [h]
   simp [this]
  simp only [Op.eqItems,Sem.run_bind,pt xs aH.1,pt ys aH.2,Result.andThen_ok,he]
  by_cases aM:xs.getD i 0=ys.getD i 0
  ·have bL:decide (xs.getD i 0=ys.getD i 0)=true:=decide_eq_true aM
   rw [bL]
   simp only [Bool.not_true,Bool.false_eq_true,if_false]
   rw [ih]
   congr 1
   rw [Bool.eq_iff_iff]
   simp only [decide_eq_true_eq,List.mem_cons,forall_eq_or_imp,aM,true_and]
  ·have bL:decide (xs.getD i 0=ys.getD i 0)=false:=decide_eq_false aM
   rw [bL]
   simp only [Bool.not_false,if_true,Sem.run_pure]
   congr 1
   refine (decide_eq_false fun h=>aM (h i (by simp))).symm
theorem afu[a1]{m:Nat}{e:TypeId}{s bu:Nat}{zv:Value}(aN:ba P t (.array m e) s bu zv){be:Nat}{ze:Value}(cr:ba P e (.int .u8) 1 be ze)(aP:P.eqGuardType P.depth t=false){xs ys:List UInt8}(h1:aW L x=some (.agg (xs.map bn).toArray))(ar:aW L y=some (.agg (ys.map bn).toArray))(aM:xs.length=m)(cZ:ys.length=m) :
  bR P n w0 zs hs L ⟨d,.binOp .eql t x y b7,ty,pos,af,g⟩ (.bool (decide (xs=ys))):=
 fu h1 ar (fun w=>run_eqGuard_agg w _ _ _ _ _ _ aP) fun w=>by
  cases aH:P.info? e with
  | none=>have:=cr.inf;simp [aH] at this
  | some i=>
   have bq:P.cellsOf e=1:=by have:=cr.inf;simp [aH] at this;simp [Program.cellsOf,aH,this.1]
   rw [run_eql_struct,run_equalIn_array w 9999 _ _ aN.und aH,bq,Jm cr 9998 xs ys w _ (fun j aV=>by rw [List.mem_range] at aV;omega)]
   simp only [Result.andThen_ok]
   congr 2
   rw [Bool.eq_iff_iff]
   simp only [decide_eq_true_eq,List.mem_range]
   constructor
   ·intro h
    apply List.ext_getElem ag
    intro j qv l4
    have:=h j ag
    rwa [List.getD_eq_getElem?_getD,List.getD_eq_getElem?_getD,List.getElem?_eq_getElem qv,List.getElem?_eq_getElem l4] at this
   ·intro h j _;rw [h]
end
end Go.aK
end
section
namespace Go.aK
open Go.ChangeShapes Go.WideShapes Go.ChangeAt Go.RowKit
theorem aB.below{W pA:World}{zs:List aR}{hs:List aC}(h:aB W zs hs pA):Below W.heap.size W pA:=
 ⟨h.io.os,h.io.tape,h.io.output,le_size h.ext,fun _ aE=>le_eq h.ext aE⟩
section
variable {H:Type}{enc:TypeId×Value→H}{P:Program}
theorem SB(hl:laidOutB P=true){W pA:World}(aw:Below W.heap.size W pA):∀ {ts:List TypeId}{vs:List Value}{ds:List (DataW H)}{ps:List MemPlace},(ts.all fun t=>P.readableRec t&&decide (t<P.types.size))=true →
  DataW.TrodAll enc P W 0 (fun _=>true) true ts vs ds ps→(∀ x∈ps,x.block<W.heap.size)→DataW.TrodAll enc P pA 0 (fun b=>decide (b<W.heap.size)) true ts vs ds ps
 | [],[],[],_,_,h,_=>h
 | t::ts,v::vs,d::ds,_,lD,⟨p,q,h1,ar,e⟩,hs=>by
  subst e
  simp only [List.all_cons,Bool.and_eq_true,decide_eq_true_eq] at lD
  exact ⟨p,q,Below.trod hl lD.1.1 lD.1.2 h1 aw fun x aM=>hs x (List.mem_append_left _ aM),SB hl aw lD.2 ar fun x aM=>hs x (List.mem_append_right _ aM),rfl⟩
theorem ac6{f:Func}{s:ChangeSpec}{W pA:World}{args:Array Value}{ds gs:List (DataW H)}{before:List MemPlace}{zs:List aR}{hs:List aC}{tb:TypeId}
  (hl:laidOutB P=true) (lD:(f.params.toList.all fun t=>P.readableRec t&&decide (t<P.types.size))=true) (aY:f.resultTypes=#[tb]) (CX:P.underlying tb=some .bool)
  (bA:s.vars=[]) (zn:s.fn H (ds++gs)={ results:=[.lit (.bool true)],args:=ds })
  (eZ:DataW.Whole enc P f.params.toList s.vars false W args.toList ds gs before) (U:aB W zs hs pA) :
  s.post enc P f false true false false W args (.bool true) pA:=by
 have aw:=U.below
 have uO:=eZ
 have gK:=eZ.lt
 obtain ⟨p,q,gw,kH,rfl,aaL,gx⟩:=eZ
 refine ⟨ds,gs,_,[],p,q,uO,?_,?_,?_,aw.frame _,fun h=>by cases h⟩
 ·rw [aY,zn]
  exact trodAll_cons_mk (shut_bool CX true) trodAll_mk0
 ·rw [zn]
  exact SB hl aw lD gw fun x aM=>gK x (List.mem_append_left _ aM)
 ·rw [bA] at kH ⊢
  rw [zn]
  obtain ⟨rfl,rfl⟩:=trodVars_none kH
  exact rfl
def Rd{α:Type}(enc:TypeId×Value→H)(P:Program)(W:World)(E:ej α)(t:TypeId):Prop:=
 ∀ fuel cs x,DataW.trod enc P W 0 (fun _=>true) true fuel t cs=some x→(x.1.weights P t).all (· ≤ reachBytes)=true→∃ a,E.rep (cf W) a cs
variable {W:World}{t e:TypeId}
theorem wf_i64{n:Int}(h:(Lit.int .i64 n).wf=true) : -9223372036854775808≤n∧n≤9223372036854775807:=by
 simpa [Lit.wf,IntKind.min,IntKind.max,IntKind.signed,IntKind.bits] using h
theorem RC(aN:P.underlying t=some (.int .i64)):Rd enc P W encI t:=fun _ _ _ h _=>by
 obtain ⟨n,rfl,_,hw⟩:=DataW.trod_int aN h
 exact ⟨n,rfl,wf_i64 hw⟩
theorem Ly{α:Type}(Q:Nat→α→Prop):∀ (n:Nat),(∀ i,i<n→∃ x,Q i x)→∃ xs:List α,xs.length=n∧∀ i x,xs[i]?=some x→Q i x
 | 0,_=>⟨[],rfl,fun i x h=>by simp at h⟩
 | n+1,h=>by
  obtain ⟨xs,h1,ar⟩:=Ly Q n fun i aH=>h i ag
  obtain ⟨x,aM⟩:=h n ag
  refine ⟨xs++[x],by simp [h1],fun i y cZ=>?_⟩
  rcases Nat.lt_or_ge i n with aH | aH
  ·rw [List.getElem?_append_left ag] at cZ
   exact ar i y cZ
  ·have wX:i<n+1:=by have:=(List.getElem?_eq_some_iff.1 cZ).1;simp at this;omega
   obtain rfl:i=n:=by omega
   rw [List.getElem?_append_right ag,h1,Nat.sub_self] at cZ
   simp only [List.getElem?_cons_zero,Option.some.injEq] at cZ
   exact cZ ▸ aM
theorem ajs{ds:List (DataW H)}{d:DataW H}(aT:d∈ds)(h:(DataW.weightsAll P e ds).all (· ≤ reachBytes)=true):(d.weights P e).all (· ≤ reachBytes)=true:=by
 induction ds with
 | nil=>cases aT
 | cons x ds ih=>
  simp only [DataW.weightsAll,List.all_append,Bool.and_eq_true] at h
  rcases List.mem_cons.1 aT with rfl | aT
  ·exact h.1
  ·exact ih aT h.2
theorem ah0{α:Type}{E:ej α}(aN:P.underlying t=some (.slice e))(bq:P.cellsOf e=E.size)(h0:0<E.size)(aw:0<P.bytesOf e)(y8:Rd enc P W E e){fuel:Nat}{cs:List Value}{x:DataW H×List MemPlace}
  (h:DataW.trod enc P W 0 (fun _=>true) true fuel t cs=some x) (hw:(x.1.weights P t).all (· ≤ reachBytes)=true):∃ v xs,cs=[v]∧bo E (cf W) v xs:=by
 rcases DataW.trod_slice aN h with ⟨rfl,rfl⟩ | ⟨a,len,cap,elems,rest,n,rfl,rfl,rfl,_,u4,_,hle,uU,_,_⟩
 ·exact ⟨_,[],rfl,by simp,none,0,rfl,Nat.le_refl _,fun i x h=>by simp at h⟩
 ·simp only [DataW.weights,aN,List.all_cons,List.all_append,Bool.and_eq_true,decide_eq_true_eq,List.length_map] at hw
  obtain ⟨pU,vk,anT⟩:=hw
  have hlen:len≤140737488355328:=by
   unfold reachBytes at pU
   have:elems.length+rest.length≤(elems.length+rest.length)*P.bytesOf e:=Nat.le_mul_of_pos_right _ aw
   omega
  have Oq:0<len→∃ b off cs' ty fz,a=⟨b,off,none⟩∧W.heap[b]?=some (.cells cs' ty fz):=by
   intro aH
   have h1:=uU 0 aH
   rw [List.getElem?_eq_getElem ag,Option.bind_eq_some_iff] at h1
   obtain ⟨dN,ar,aQ⟩:=h1
   obtain ⟨_,hl,zj⟩:=World.cells?_some ar
   rw [bq] at hl zj
   have bj:=zj 0 ag
   rw [List.getElem?_eq_getElem ag] at bj
   obtain ⟨b,off,spot⟩:=a
   simp only [Nat.zero_mul,Addr.add,if_true,World.cell?] at bj
   split at bj
   ·rename_i hV t1 f1 fN
    cases spot with
    | none=>exact ⟨b,off,hV,t1,f1,rfl,fN⟩
    | some s=>simp at bj
   ·cases bj
  have each:∀ i,i<len→∃ y,∃ b off cs' ty fz dN,some a=some ⟨b,off,none⟩∧cf W b=some (.cells cs' ty fz)∧E.rep (cf W) y dN∧∀ j u,dN[j]?=some u→cs'[off+i*E.size+j]?=some u:=by
   intro i aH
   obtain ⟨b,off,cs',ty,fz,rfl,fN⟩:=Oq ag
   have h1:=uU i aH
   rw [List.getElem?_eq_getElem ag,Option.bind_eq_some_iff] at h1
   obtain ⟨dN,ar,aQ⟩:=h1
   have abZ:=ajs (d:=(elems[i]'ag).1) (List.mem_map.2 ⟨_,List.getElem_mem _,rfl⟩) vk
   obtain ⟨y,cZ⟩:=y8 _ _ _ aQ abZ
   obtain ⟨_,hl,zj⟩:=World.cells?_some ar
   rw [bq] at hl zj
   refine ⟨y,b,off,cs',ty,fz,dN,rfl,fN,cZ,fun j u aV=>?_⟩
   have u1:j<E.size:=by have:=(List.getElem?_eq_some_iff.1 aV).1;omega
   have bF:=zj j u1
   rw [aV,fU,fU,cell_of_row W b _ cs' ty fz fN] at bF
   exact bF
  obtain ⟨xs,rN,ab5⟩:=Ly _ len each
  subst rN
  exact ⟨_,xs,rfl,hlen,some a,cap,rfl,u4,fun i x aM=>ab5 i x aM⟩
theorem Le{α:Type}{E:ej α}{base:Nat}{v:Value}{d:DataW H}{p:List MemPlace}(aN:P.underlying t=some (.slice e))(bq:P.cellsOf e=E.size)(h0:0<E.size)(aw:0<P.bytesOf e)(y8:Rd enc P W E e)
  (bA:Value.okWide P W .any base t v) (h:DataW.Trod enc P W 0 (fun _=>true) true t v d p) (hw:(d.weights P t).all (· ≤ reachBytes)=true):∃ xs,bo E (cf W) v xs:=by
 obtain ⟨a,len,cap,rfl⟩:=okWide_slice aN bA
 obtain ⟨fuel,bw⟩:=h
 obtain ⟨v,xs,iT,hs⟩:=ah0 aN bq h0 aw y8 bw hw
 simp only [Value.cells] at iT
 obtain rfl:Value.slice a len cap=v:=by simpa using iT
 exact ⟨xs,hs⟩
theorem Fc{base:Nat}{v:Value}{d:DataW H}{p:List MemPlace}(aN:P.underlying t=some (.int .i64))(bA:Value.okWide P W .any base t v)(h:DataW.Trod enc P W 0 (fun _=>true) true t v d p) :
  ∃ n:Int,v=aA n ∧ -9223372036854775808≤n∧n≤9223372036854775807:=by
 obtain ⟨n,rfl⟩:=okWide_int aN bA
 obtain ⟨fuel,bw⟩:=h
 obtain ⟨vp,iT,_,hw⟩:=DataW.trod_int aN bw
 obtain rfl:n=vp:=by simpa [Value.cells] using iT
 exact ⟨n,rfl,wf_i64 hw⟩
theorem Bf{ts:List TypeId}{d:DataW H}{ds:List (DataW H)}(h:(DataW.weightsEach P (t::ts) (d::ds)).all (· ≤ reachBytes)=true):(d.weights P t).all (· ≤ reachBytes)=true∧(DataW.weightsEach P ts ds).all (· ≤ reachBytes)=true:=by
 simpa only [DataW.weightsEach,List.all_append,Bool.and_eq_true] using h
theorem SG{P:Program}{W:World}{name:String}{k:IntKind}{zs:List Int}{g:Nat}(aP:P.globalNamed name=some g)(h:Lib.TabIs P W name k zs):∃ bt fz,W.heap[g]?=some (.cells (zs.map fun z=>Value.int k z).toArray bt fz):=by
 unfold Lib.TabIs World.var? at h
 rw [aP] at h
 simp only [Option.bind_some] at h
 split at h
 ·rename_i cs bt fz fN
  simp only [Option.some.injEq] at h
  subst h
  exact ⟨bt,fz,fN⟩
 ·cases h
end
end Go.aK
end
section
namespace Go.aK
section
variable {P:Program}{n:Nat}{w0:World}{zs:List aR}{hs:List aC}{ops:Array Oper}{L L':List (Nat×Value)}{k:Nat}
theorem hn[a1]{d:Option Tmp}{op:Op}{t:TypeId}{p:String}{af:Array Edge}{g:Nat}{b:Bool}(gt:Nat)(eE:(ops[g]?).bind (·.dst)=some gt)(oe:look L gt=some (.bool b)) :
  ∀ a,Fr n L a→Region.wanted ⟨d,op,t,p,af,some (g,b)⟩ (yielded ops a.tmps)=true:=
 fun a bg=>by simp [Region.wanted,yh bg eE oe]
variable {J:Act→World→Prop}
theorem jW[a1]{l:List Oper}{f:Nat}{W:kZ}{ls:Array Bool}{a:Act}{w:World}(i:Nat)(js:Array Bool){d:Option Tmp}{op:Op}{t:TypeId}{p:String}{af:Array Edge}{g:Option (Nat×Bool)}{v:Value}{zs:List aR}{hs:List aC}
  (aH:l[i]?=some ⟨d,op,t,p,af,g⟩) (aP:∀ a,Fr n L a→Region.wanted ⟨d,op,t,p,af,g⟩ (yielded l.toArray a.tmps)=true) (gS:(tq ⟨d,op,t,p,af,g⟩&&Region.noSelect l.toArray&&Region.free .any l.toArray ls i&&(Region.ready .any l.toArray ls).contains i&&(match d with | some k=>Nat.blt k n | none=>true))=true)
  (m5:ls.setIfInBounds i true=js) (ab:Fr n L a) (U:aB w0 zs hs w) (q:bR P n w0 zs hs L ⟨d,op,t,p,af,g⟩ v)
  (K:∀ a,Fr n (lh d v L) a→nw P l.toArray J f ((i,aB w0 zs hs)::W) js a w):nw P l.toArray J (f+1) W ls a w:=by
 intro fE eZ
 subst m5
 replace aH:l.toArray[i]?=some ⟨d,op,t,p,af,g⟩:=by simpa using aH
 simp only [Bool.and_eq_true] at gS
 obtain ⟨⟨⟨⟨bO,om⟩,bw⟩,aY⟩,aT⟩:=gS
 have aY:i∈Region.ready .any l.toArray ls:=by simpa using aY
 have cZ:YieldsIn P l.toArray (aB w0 zs hs) ⟨d,op,t,p,af,g⟩ v a:=.inl ⟨aP a ab,fun w hw=>q a ab w hw⟩
 have GB:Fr n (lh d v L) (a.put d v):=ab.up (by cases d with | none=>trivial | some k=>exact Nat.blt_eq.mp aT)
 have m6:=getD_both (mem_ready.1 aY).1
 have uO:hG .any l.toArray (ls.setIfInBounds i true) w [] W:=hG.more m6 W [] [] (by simp) eZ
 refine TQ (C:=aB w0 zs hs) aH bO (Region.noSelect_spec om) W f ls a w fE (Region.free_spec aH bw) aY cZ U uO ?_
 exact K _ GB (fE.set aY) ⟨.inr U,hG.more m6 W [] [i] (by simp) eZ⟩
theorem vI[a1]{l:List Oper}{f:Nat}{W:kZ}{ls:Array Bool}{a:Act}{w:World}{i:Nat}(js:Array Bool){d:Option Tmp}{op:Op}{ty:TypeId}{pos:String}{af:Array Edge}{g:Option (Nat×Bool)}{zs:List aR}{hs:List aC}{K:Value→List aR→List aC→Prop}
  (aH:l[i]?=some ⟨d,op,ty,pos,af,g⟩) (aP:∀ a,Fr n L a→Region.wanted ⟨d,op,ty,pos,af,g⟩ (yielded l.toArray a.tmps)=true) (m5:ls.setIfInBounds i true=js) (ab:Fr n L a) (U:aB w0 zs hs w) (aT:(match d with | some k=>Nat.blt k n | none=>true)=true) (e:fJ P n w0 zs hs L ⟨d,op,ty,pos,af,g⟩ K)
  (h:∀ v zs' hs' a w,K v zs' hs'→Fr n (lh d v L) a→aB w0 zs' hs' w→hG .any l.toArray js w [] W∧nw P l.toArray J f W js a w):E8 P l.toArray J f W ls a w i:=by
 intro aY fE
 subst m5
 replace aH:l.toArray[i]?=some ⟨d,op,ty,pos,af,g⟩:=by simpa using aH
 unfold wpOp
 simp only [aH]
 rw [if_pos (aP a ab)]
 refine .inl (e a ab w U _ _ fun v zs' hs' w' dU jX=>?_)
 have:=h v zs' hs' _ w' dU (ab.up (by cases d with | none=>trivial | some k=>exact Nat.blt_eq.mp aT)) jX
 exact ⟨this.1,this.2 (fE.set aY) this.1⟩
theorem ye[a1]{op:Op}{d:Option Tmp}{ty:TypeId}{pos:String}{af:Array Edge}{g:Option (Nat×Bool)}{rest:List Oper}{Q:Exit→Act→World→Prop}{a:Act}{w:World}{K:Value→List aR→List aC→Prop}(ab:Fr n L a)(U:aB w0 zs hs w)(aP:∀ a,Fr n L a→Region.wanted ⟨d,op,ty,pos,af,g⟩ (yielded ops a.tmps)=true)(aT:(match d with | some k=>Nat.blt k n | none=>true)=true)(e:fJ P n w0 zs hs L ⟨d,op,ty,pos,af,g⟩ K)
  (h:∀ v zs' hs' a w,K v zs' hs'→Fr n (lh d v L) a→aB w0 zs' hs' w→wpList P ops Q rest a w):wpList P ops Q (⟨d,op,ty,pos,af,g⟩::rest) a w:=by
 unfold wpList
 rw [if_pos (aP a ab)]
 refine .inl (e a ab w U _ _ fun v zs' hs' w' dU jX=>h v zs' hs' _ w' dU (ab.up ?_) jX)
 cases d with
 | none=>trivial
 | some k=>exact Nat.blt_eq.mp aT
def wH(L:List (Nat×Value))(o:Oper):Bool:=match o.dst with | some d => !(L.any fun p=>Nat.beq p.1 d) | none=>true
def oQ(n:Nat)(L:List (Nat×Value))(g:Nat)(b:Bool)(l:List Oper):Bool:=
 l.all fun o=>(match o.guard with | some (h7,ha)=>Nat.beq g h7&&(ha == b) | none=>false)&&wH L o&&(match o.dst with | some d=>Nat.blt d n | none=>true)
theorem z1:∀ {L:List (Nat×Value)}{t:Nat}{v:Value},look L t=some v→(L.any fun p=>Nat.beq p.1 t)=true
 | (s,u)::r,t,v,h=>by
  unfold look at h
  cases aw:Nat.beq s t with
  | true=>simp [aw]
  | false=>rw [aw] at h;simp only [cond_false] at h;simp [z1 h]
theorem Pl{d:Option Tmp}{v u:Value}{t:Nat}(h:look L t=some u)(aT:(match d with | some d => !(L.any fun p=>Nat.beq p.1 d) | none=>true)=true):look (lh d v L) t=some u:=by
 cases d with
 | none=>exact h
 | some d=>
  simp only [lh]
  unfold look
  cases aw:Nat.beq d t with
  | true=>
   have:d=t:=Nat.eq_of_beq_eq_true aw
   subst this
   have cA:(!(L.any fun p=>Nat.beq p.1 d))=true:=aT
   rw [z1 h] at cA
   cases cA
  | false=>simpa using h
def Sub(L gu:List (Nat×Value)):Prop:=∀ t v,look L t=some v→look gu t=some v
theorem Fr.ov[a1]{gu:List (Nat×Value)}{a:Act}(h:Fr n gu a)(hs:Sub L gu):Fr n L a:=⟨h.size,h.nodef,fun t v bA=>h.get t v (hs t v bA)⟩
theorem vH[a1]{jr:List Oper}{gu:List (Nat×Value)}{g:Nat}{b:Bool}:∀ {m:Nat}{l:List Oper}{kl:List (Nat×Value)},fS P n w0 zs hs ops m kl l gu jr→oQ n L g b (l.take m)=true→Sub L kl→Sub L gu
 | 0,_,_,h,_,hs=>by obtain ⟨rfl,_⟩:=h;exact hs
 | m+1,_,_,h,aP,hs=>by
  obtain ⟨o,r,v,rfl,aT,ch,aY⟩:=h
  rw [List.take_succ_cons] at aP
  unfold oQ at aP
  rw [List.all_cons,Bool.and_eq_true,Bool.and_eq_true,Bool.and_eq_true] at aP
  refine vH (m:=m) (g:=g) (b:=b) aY aP.2 fun t u hu=>?_
  have uW:=aP.1.1.2
  unfold wH at uW
  cases vc:o.dst with
  | none=>exact hs t u hu
  | some d=>
   rw [vc] at uW
   simp only [lh]
   unfold look
   cases aw:Nat.beq d t with
   | true=>
    have:d=t:=Nat.eq_of_beq_eq_true aw
    subst this
    have cA:(!(L.any fun p=>Nat.beq p.1 d))=true:=uW
    rw [z1 hu] at cA
    cases cA
   | false=>simpa using hs t u hu
theorem Ew[a1]{Q:Exit→Act→World→Prop}{g gt:Nat}{b c:Bool}(l3:(ops[g]?).bind (·.dst)=some gt)(uQ:(!b)=c):∀ {m:Nat}{l:List Oper}{a:Act}{w:World},Fr n L a→look L gt=some (.bool c)→oQ n L g b (l.take m)=true →
  (∀ a,Fr n L a→wpList P ops Q (l.drop m) a w)→wpList P ops Q l a w
 | 0,_,a,_,ab,_,_,K=>K a ab
 | m+1,[],a,_,ab,_,_,K=>K a ab
 | m+1,o::r,a,w,ab,hl,aP,K=>by
  rw [List.take_succ_cons] at aP
  unfold oQ at aP
  rw [List.all_cons,Bool.and_eq_true,Bool.and_eq_true,Bool.and_eq_true] at aP
  obtain ⟨⟨⟨h1,ar⟩,aQ⟩,bF⟩:=aP
  have hw:Region.wanted o (yielded ops a.tmps)=false:=by
   cases vd:o.guard with
   | none=>rw [vd] at h1;cases h1
   | some gb=>
    obtain ⟨h7,ha⟩:=gb
    rw [vd] at h1
    simp only [Bool.and_eq_true,beq_iff_eq] at h1
    have bL:g=h7:=Nat.eq_of_beq_eq_true h1.1
    subst bL
    obtain ⟨-,rfl⟩:=h1
    subst uQ
    simp [Region.wanted,vd,yh ab l3 hl]
  unfold wpList
  rw [if_neg (by rw [hw];simp)]
  have k2:Fr n (lh o.dst undef L) (a.put o.dst undef):=ab.up (by
   cases vc:o.dst with
   | none=>trivial
   | some d=>rw [vc] at aQ;exact Nat.blt_eq.mp aQ)
  exact Ew (m:=m) l3 uQ (k2.ov fun t v bA=>Pl bA (by unfold wH at ar;exact ar)) hl bF K
theorem gA[a1]{c q:Bool}(g gt m:Nat){rest l:List Oper}{gu:List (Nat×Value)}{pd:Tmp}{pt:TypeId}{pp:String}{pa:Array Edge}{x y:Operand}{Q:Exit→Act→World→Prop}{a:Act}{w:World}
  (ab:Fr n L a) (U:aB w0 zs hs w) (eE:look L gt=some (.bool c)) (l3:(ops[g]?).bind (·.dst)=some gt) (hl:l.drop m=⟨some pd,.pick (.tmp gt) x y,pt,pp,pa,none⟩::rest) (hP:oQ n L g false (l.take m)=true) (iV:Nat.blt pd n=true)
  (m4:c=false→fS P n w0 zs hs ops m ((gt,.bool false)::L) l gu (⟨some pd,.pick (.tmp gt) x y,pt,pp,pa,none⟩::rest)) (aM:aW L x=some (.bool true)) (cZ:aW gu y=some (.bool q))
  (K:∀ a w,Fr n ((pd,.bool (c || q))::L) a→aB w0 zs hs w→wpList P ops Q rest a w):wpList P ops Q l a w:=by
 have aw:sw n (some pd):=Nat.blt_eq.mp iV
 cases c with
 | true=>
  refine Ew (m:=m) (b:=false) (c:=true) l3 rfl ab eE hP fun a ab=>?_
  rw [hl]
  exact lQ ab U (mR iV (kU eE aM) ah) K
 | false=>
  have hs:=m4 rfl
  have h1:Sub L ((gt,.bool false)::L):=fun t v bA=>by
   unfold look
   cases aw:Nat.beq gt t with
   | true=>
    have:gt=t:=Nat.eq_of_beq_eq_true aw
    subst this
    rw [eE] at bA
    exact bA
   | false=>simpa using bA
  have mZ:Fr n ((gt,.bool false)::L) a:=⟨ab.size,ab.nodef,fun t v bA=>by
   unfold look at bA
   cases aw:Nat.beq gt t with
   | true=>
    have:gt=t:=Nat.eq_of_beq_eq_true aw
    subst this
    simp only [aw,cond_true,Option.some.injEq] at bA
    subst bA
    exact ab.get _ _ eE
   | false=>
    rw [aw] at bA
    exact ab.get t v bA⟩
  have ib:=vH (g:=g) (b:=false) hs hP h1
  refine lQ mZ U hs fun a w k2 U=>?_
  refine lQ k2 U (mR iV (hB (ib gt _ eE) cZ) ah) fun a w m0 U=>K a w ?_ U
  refine m0.ov fun t v bA=>?_
  unfold look at bA ⊢
  cases aw:Nat.beq pd t with
  | true=>rw [aw] at bA;simpa using bA
  | false=>rw [aw] at bA;exact ib t v bA
theorem j3[a1]{c q:Bool}(g gt m:Nat){rest l:List Oper}{gu:List (Nat×Value)}{pd:Tmp}{pt:TypeId}{pp:String}{pa:Array Edge}{x y:Operand}{Q:Exit→Act→World→Prop}{a:Act}{w:World}
  (ab:Fr n L a) (U:aB w0 zs hs w) (eE:look L gt=some (.bool c)) (l3:(ops[g]?).bind (·.dst)=some gt) (hl:l.drop m=⟨some pd,.pick (.tmp gt) x y,pt,pp,pa,none⟩::rest) (hP:oQ n L g true (l.take m)=true) (iV:Nat.blt pd n=true)
  (m4:c=true→fS P n w0 zs hs ops m ((gt,.bool true)::L) l gu (⟨some pd,.pick (.tmp gt) x y,pt,pp,pa,none⟩::rest)) (aM:aW gu x=some (.bool q)) (cZ:aW L y=some (.bool false))
  (K:∀ a w,Fr n ((pd,.bool (c&&q))::L) a→aB w0 zs hs w→wpList P ops Q rest a w):wpList P ops Q l a w:=by
 have aw:sw n (some pd):=Nat.blt_eq.mp iV
 cases c with
 | false=>
  refine Ew (m:=m) (b:=true) (c:=false) l3 rfl ab eE hP fun a ab=>?_
  rw [hl]
  exact lQ ab U (mR iV (hB eE cZ) ah) K
 | true=>
  have hs:=m4 rfl
  have h1:Sub L ((gt,.bool true)::L):=fun t v bA=>by
   unfold look
   cases aw:Nat.beq gt t with
   | true=>
    have:gt=t:=Nat.eq_of_beq_eq_true aw
    subst this
    rw [eE] at bA
    exact bA
   | false=>simpa using bA
  have mZ:Fr n ((gt,.bool true)::L) a:=⟨ab.size,ab.nodef,fun t v bA=>by
   unfold look at bA
   cases aw:Nat.beq gt t with
   | true=>
    have:gt=t:=Nat.eq_of_beq_eq_true aw
    subst this
    simp only [aw,cond_true,Option.some.injEq] at bA
    subst bA
    exact ab.get _ _ eE
   | false=>
    rw [aw] at bA
    exact ab.get t v bA⟩
  have ib:=vH (g:=g) (b:=true) hs hP h1
  refine lQ mZ U hs fun a w k2 U=>?_
  refine lQ k2 U (mR iV (kU (ib gt _ eE) aM) ah) fun a w m0 U=>K a w ?_ U
  refine m0.ov fun t v bA=>?_
  unfold look at bA ⊢
  cases aw:Nat.beq pd t with
  | true=>rw [aw] at bA;simpa using bA
  | false=>rw [aw] at bA;exact ib t v bA
theorem jL[a1]:∀ {k:Nat}{L l L' l'}{Q:Act→Prop}{a:Act},Fr n L a→fS P n w0 zs hs ops k L l L' l' →
  (∀ a,Fr n L' a→wpQuiet P ops (aB w0 zs hs) Q l' a)→wpQuiet P ops (aB w0 zs hs) Q l a
 | 0,_,_,_,_,_,a,ab,h,K=>by obtain ⟨rfl,rfl⟩:=h;exact K a ab
 | k+1,_,_,_,_,_,a,ab,h,K=>by
  obtain ⟨o,r,v,rfl,aT,ch,aY⟩:=h
  unfold wpQuiet
  rcases ch a ab with ⟨hw,ch⟩ | ⟨hw,rfl⟩
  ·simp only [hw,if_true]
   exact ⟨v,fun w hw=>ch w hw,jL (ab.up aT) aY K⟩
  ·simp only [hw,Bool.false_eq_true,if_false]
   exact jL (ab.up aT) aY K
theorem Bh{Q:Act→Prop}{a:Act}(h:Q a):wpQuiet P ops (aB w0 zs hs) Q [] a:=h
theorem AI{l:List Oper}{id:Nat}{Q:Exit→Act→World→Prop}{a:Act}{w:World}(hm:P.follows .mixedOrders=true)(gS:Region.lexB .any l.toArray=true)(U:aB w0 zs hs w)
  (h:wpQuiet P l.toArray (aB w0 zs hs) (fun a=>∀ w,aB w0 zs hs w→Q .normal a w) l a):(Code.region id l.toArray true).wp P Q a w:=
 wp_region_quiet (C:=aB w0 zs hs) hm gS (U.drew _) h
theorem Ex[a1]{Q:Act→Prop}{g gt:Nat}{b c:Bool}(l3:(ops[g]?).bind (·.dst)=some gt)(uQ:(!b)=c):∀ {m:Nat}{l:List Oper}{a:Act},Fr n L a→look L gt=some (.bool c)→oQ n L g b (l.take m)=true →
  (∀ a,Fr n L a→wpQuiet P ops (aB w0 zs hs) Q (l.drop m) a)→wpQuiet P ops (aB w0 zs hs) Q l a
 | 0,_,a,ab,_,_,K=>K a ab
 | m+1,[],a,ab,_,_,K=>K a ab
 | m+1,o::r,a,ab,hl,aP,K=>by
  rw [List.take_succ_cons] at aP
  unfold oQ at aP
  rw [List.all_cons,Bool.and_eq_true,Bool.and_eq_true,Bool.and_eq_true] at aP
  obtain ⟨⟨⟨h1,ar⟩,aQ⟩,bF⟩:=aP
  have hw:Region.wanted o (yielded ops a.tmps)=false:=by
   cases vd:o.guard with
   | none=>rw [vd] at h1;cases h1
   | some gb=>
    obtain ⟨h7,ha⟩:=gb
    rw [vd] at h1
    simp only [Bool.and_eq_true,beq_iff_eq] at h1
    have bL:g=h7:=Nat.eq_of_beq_eq_true h1.1
    subst bL
    obtain ⟨-,rfl⟩:=h1
    subst uQ
    simp [Region.wanted,vd,yh ab l3 hl]
  unfold wpQuiet
  simp only [hw,Bool.false_eq_true,if_false]
  have k2:Fr n (lh o.dst undef L) (a.put o.dst undef):=ab.up (by
   cases vc:o.dst with
   | none=>trivial
   | some d=>rw [vc] at aQ;exact Nat.blt_eq.mp aQ)
  exact Ex (m:=m) l3 uQ (k2.ov fun t v bA=>Pl bA (by unfold wH at ar;exact ar)) hl bF K
theorem Bi[a1]{c q:Bool}(g gt m:Nat){rest l:List Oper}{gu:List (Nat×Value)}{pd:Tmp}{pt:TypeId}{pp:String}{pa:Array Edge}{x y:Operand}{Q:Act→Prop}{a:Act}
  (ab:Fr n L a) (eE:look L gt=some (.bool c)) (l3:(ops[g]?).bind (·.dst)=some gt) (hl:l.drop m=⟨some pd,.pick (.tmp gt) x y,pt,pp,pa,none⟩::rest) (hP:oQ n L g false (l.take m)=true) (iV:Nat.blt pd n=true)
  (m4:c=false→fS P n w0 zs hs ops m ((gt,.bool false)::L) l gu (⟨some pd,.pick (.tmp gt) x y,pt,pp,pa,none⟩::rest)) (aM:aW L x=some (.bool true)) (cZ:aW gu y=some (.bool q))
  (K:∀ a,Fr n ((pd,.bool (c || q))::L) a→wpQuiet P ops (aB w0 zs hs) Q rest a):wpQuiet P ops (aB w0 zs hs) Q l a:=by
 have aw:sw n (some pd):=Nat.blt_eq.mp iV
 cases c with
 | true=>
  refine Ex (m:=m) (b:=false) (c:=true) l3 rfl ab eE hP fun a ab=>?_
  rw [hl]
  exact jL ab (mR iV (kU eE aM) ah) K
 | false=>
  have hs:=m4 rfl
  have h1:Sub L ((gt,.bool false)::L):=fun t v bA=>by
   unfold look
   cases aw:Nat.beq gt t with
   | true=>
    have:gt=t:=Nat.eq_of_beq_eq_true aw
    subst this
    rw [eE] at bA
    exact bA
   | false=>simpa using bA
  have mZ:Fr n ((gt,.bool false)::L) a:=⟨ab.size,ab.nodef,fun t v bA=>by
   unfold look at bA
   cases aw:Nat.beq gt t with
   | true=>
    have:gt=t:=Nat.eq_of_beq_eq_true aw
    subst this
    simp only [aw,cond_true,Option.some.injEq] at bA
    subst bA
    exact ab.get _ _ eE
   | false=>
    rw [aw] at bA
    exact ab.get t v bA⟩
  have ib:=vH (g:=g) (b:=false) hs hP h1
  refine jL mZ hs fun a k2=>?_
  refine jL k2 (mR iV (hB (ib gt _ eE) cZ) ah) fun a m0=>K a ?_
  refine m0.ov fun t v bA=>?_
  unfold look at bA ⊢
  cases aw:Nat.beq pd t with
  | true=>rw [aw] at bA;simpa using bA
  | false=>rw [aw] at bA;exact ib t v bA
theorem Kb[a1]{c q:Bool}(g gt m:Nat){rest l:List Oper}{gu:List (Nat×Value)}{pd:Tmp}{pt:TypeId}{pp:String}{pa:Array Edge}{x y:Operand}{Q:Act→Prop}{a:Act}
  (ab:Fr n L a) (eE:look L gt=some (.bool c)) (l3:(ops[g]?).bind (·.dst)=some gt) (hl:l.drop m=⟨some pd,.pick (.tmp gt) x y,pt,pp,pa,none⟩::rest) (hP:oQ n L g true (l.take m)=true) (iV:Nat.blt pd n=true)
  (m4:c=true→fS P n w0 zs hs ops m ((gt,.bool true)::L) l gu (⟨some pd,.pick (.tmp gt) x y,pt,pp,pa,none⟩::rest)) (aM:aW gu x=some (.bool q)) (cZ:aW L y=some (.bool false))
  (K:∀ a,Fr n ((pd,.bool (c&&q))::L) a→wpQuiet P ops (aB w0 zs hs) Q rest a):wpQuiet P ops (aB w0 zs hs) Q l a:=by
 have aw:sw n (some pd):=Nat.blt_eq.mp iV
 cases c with
 | false=>
  refine Ex (m:=m) (b:=true) (c:=false) l3 rfl ab eE hP fun a ab=>?_
  rw [hl]
  exact jL ab (mR iV (hB eE cZ) ah) K
 | true=>
  have hs:=m4 rfl
  have h1:Sub L ((gt,.bool true)::L):=fun t v bA=>by
   unfold look
   cases aw:Nat.beq gt t with
   | true=>
    have:gt=t:=Nat.eq_of_beq_eq_true aw
    subst this
    rw [eE] at bA
    exact bA
   | false=>simpa using bA
  have mZ:Fr n ((gt,.bool true)::L) a:=⟨ab.size,ab.nodef,fun t v bA=>by
   unfold look at bA
   cases aw:Nat.beq gt t with
   | true=>
    have:gt=t:=Nat.eq_of_beq_eq_true aw
    subst this
    simp only [aw,cond_true,Option.some.injEq] at bA
    subst bA
    exact ab.get _ _ eE
   | false=>
    rw [aw] at bA
    exact ab.get t v bA⟩
  have ib:=vH (g:=g) (b:=true) hs hP h1
  refine jL mZ hs fun a k2=>?_
  refine jL k2 (mR iV (kU (ib gt _ eE) aM) ah) fun a m0=>K a ?_
  refine m0.ov fun t v bA=>?_
  unfold look at bA ⊢
  cases aw:Nat.beq pd t with
  | true=>rw [aw] at bA;simpa using bA
  | false=>rw [aw] at bA;exact ib t v bA
end
end Go.aK
end
section
namespace Go.aK
theorem aB.mark{w0:World}{zs:List aR}{r:aC}{hs:List aC}{w w':World}{b:Nat}(o:Obj)(h:aB w0 zs (r::hs) w)(nJ:r.id=some b)(hw:∀ k,k≠b→w'.heap[k]?=w.heap[k]?)(bD:w'.heap[b]?=some o)(rH:mW w w'):aB w0 (ey b o::zs) hs w':=by
 have fj:=h.own r List.mem_cons_self
 have m3:=aC.nc fj.1 b nJ
 have fG:∀ s∈hs,s.id≠some b:=by
  intro s hs' e
  have gx:=h.nd
  rw [List.filterMap_cons,nJ] at gx
  exact (List.nodup_cons.1 gx).1 (List.mem_filterMap.2 ⟨s,hs',e⟩)
 refine ⟨fun k ob aE=>?_,fun z bj=>?_,fun s hs'=>⟨?_,fun k aE z bj=>?_⟩,FT (List.sublist_cons_self _ _) h.nd,h.io.trans rH⟩
 ·have h1:=h.ext k ob aE
  have rJ:k≠b:=by have:=lb aE;omega
  simp only [cf] at h1 ⊢
  rw [hw k rJ];exact h1
 ·rcases List.mem_cons.1 bj with rfl | qB
  ·refine ⟨fun k ob aE=>?_,fun k ob aE=>?_⟩
   ·obtain ⟨rfl,rfl⟩:=tp aE;exact bD
   ·obtain ⟨rfl,rfl⟩:=tp aE;exact m3.1
  ·refine ⟨fun k ob aE=>?_,(h.zone z qB).2⟩
   have h1:=(h.zone z qB).1 k ob aE
   have rJ:k≠b:=by
    intro e
    rw [e,fj.2 b nJ z qB] at aE
    cases aE
   simp only [cf] at h1 ⊢
   rw [hw k rJ];exact h1
 ·exact aC.vu (h.own s (List.mem_cons_of_mem _ hs')).1 fun k aE=>hw k fun e=>fG s hs' (by rw [← e];exact aE)
 ·rcases List.mem_cons.1 bj with rfl | bj
  ·unfold ey
   rw [if_neg (fun e=>fG s hs' (by rw [← e];exact aE))]
  ·exact (h.own s (List.mem_cons_of_mem _ hs')).2 k aE z bj
section
variable {P:Program}{n:Nat}{w0:World}{zs:List aR}{hs:List aC}{L:List (Nat×Value)}{d:Option Tmp}{ty t b7:TypeId}{pos:String}{af:Array Edge}{g:Option (Nat×Bool)}
variable {x y c ot ou kR:Operand}{u v:Value}
theorem qQ[a1]{o:Oper}{p:Prop}[Decidable p](q:bR P n w0 zs hs L o (.bool (decide p)))(h:p):bR P n w0 zs hs L o (.bool true):=by rwa [decide_eq_true h] at q
theorem QI[a1]{o:Oper}{p:Prop}[Decidable p](q:bR P n w0 zs hs L o (.bool (decide p)))(h:¬ p):bR P n w0 zs hs L o (.bool false):=by rwa [decide_eq_false h] at q
theorem kT[a1]{o:Oper}{p:Prop}[Decidable p](q:bR P n w0 zs hs L o (.bool (!decide p)))(h:p):bR P n w0 zs hs L o (.bool false):=by rwa [decide_eq_true h] at q
theorem afr[a1]{o:Oper}{b:Bool}(q:bR P n w0 zs hs L o (.bool b))(h:b=true):bR P n w0 zs hs L o (.bool true):=by rwa [h] at q
theorem xt[a1]{o:Oper}{b:Bool}(q:bR P n w0 zs hs L o (.bool b))(h:b=false):bR P n w0 zs hs L o (.bool false):=by rwa [h] at q
end
end Go.aK
end
section
namespace Go.aK
section
variable {P:Program}{n:Nat}{w0:World}{zs:List aR}{hs:List aC}{L:List (Nat×Value)}{d:Option Tmp}{ty t b7:TypeId}{pos:String}{af:Array Edge}{g:Option (Nat×Bool)}
variable {x y c ot ou kR:Operand}{u v:Value}
theorem cQ[a1]{k:Nat}{vs:List Value}(h1:aW L x=some (.tuple vs.toArray))(aE:vs[k]?=some v):bR P n w0 zs hs L ⟨d,.extract x k,ty,pos,af,g⟩ v:=
 eV fun a bg w hw=>by
  simp only [execOp,bg.eval h1]
  simp [Instr.extract,aE]
def e1(P:Program)(f:FuncId)(args:List Value)(w0:World)(bU:List aR)(own:List aC)(R:Value→List aR→List aC→Prop):Prop:=
 ∀ (cF:List aC) (w:World),aB w0 bU (own++cF) w→Calls P f args.toArray w fun e w'=>∃ v dB c5,e=.returned v∧aB w0 (dB++bU) (c5++cF) w'∧R v dB c5
theorem gk{f:FuncId}{fn:Func}{cd:Code}(bw:P.funcs[f]?=some fn)(aw:fn.body=some cd){k:Nat}(aE:fn.ntmps=k){args:List Value}(bD:args.length≤k){w0:World}{bU:List aR}{own:List aC}{R:Value→List aR→List aC→Prop}
  (h:∀ (cF:List aC) a w,Fr k (pI 0 args) a→aB w0 bU (own++cF) w→cd.wp P (bodyPost P fn fun e w'=>∃ v dB c5,e=.returned v∧aB w0 (dB++bU) (c5++cF) w'∧R v dB c5) a w):e1 P f args w0 bU own R:=by
 subst aE
 intro cF w U
 exact calls_of_wp bw aw (h cF _ w (Fr.enter _ _ bD) U)
theorem cY{fn:Func}{w:World}{a:Act}{R:Value→List aR→List aC→Prop}{rs:List ResultVar}{bU:List aR}{cF:List aC}(k7:fn.results=rs.toArray)(ab:Fr n L a)(U:aB w0 zs hs w){vs:List Value}(bA:sk P L hs rs vs)(dB:List aR)(c5:List aC)(h1:(dB++bU).Sublist zs)(ar:(c5++cF).Sublist hs)(fD:R (vD vs) dB c5) :
  bodyPost P fn (fun e w'=>∃ v dB c5,e=.returned v∧aB w0 (dB++bU) (c5++cF) w'∧R v dB c5) .ret a w:=
 ⟨ab.nodef,_,tI k7 ab U bA,_,_,_,rfl,U.ao h1 ar,fD⟩
theorem dv[a1]{f:FuncId}(bw:b1 P f){os:List Operand}{vs:List Value}{ats:Array TypeId}{R:Value→List aR→List aC→Prop}{own rest:List aC}(h1:iP L os=some vs)(bO:(own++rest).Perm hs)(bq:e1 P f vs w0 zs own R) :
  fJ P n w0 zs hs L ⟨d,.call ⟨.value (.func f),os.toArray,ats⟩,ty,pos,af,g⟩ (fun v zs' hs'=>∃ iu h1,zs'=iu++zs∧hs'=h1++rest∧R v iu h1):=by
 intro a bg w hw next Q bD
 unfold Oper.wp
 rw [Jl bw bg h1]
 exact Calls.mono (bq rest w (hw.perm bO)) fun e w' ⟨dr,zs',hs',he,U,aY⟩=>by
  subst he
  exact bD dr _ _ w' ⟨zs',hs',rfl,rfl,aY⟩ U
theorem cC.dN{f:FuncId}{args:List Value}{bU:List aR}{R:Value→List aR→List aC→Prop}(h:∀ w,aB w0 bU [] w→cC P f args w R):e1 P f args w0 bU [] R:=by
 intro cF w U
 refine Calls.mono (h w (U.ao (List.Sublist.refl _) (List.nil_sublist _))) fun e w' ⟨v,zs,hs,he,jX,aY⟩=>⟨v,zs,hs,he,U.call jX,aY⟩
def YB(v:Value):Value:=
 match v with
 | .slice a m _=>.slice (if m=0 then a else a.map (·.add 0)) m m
 | _=>undef
theorem bo.full{α:Type}{E:ej α}{z:aR}{xs:List α}(h:bo E z v xs):bo E z (YB v) xs:=by
 obtain ⟨aw,a,c,rfl,bq,h⟩:=h
 refine ⟨aw,_,xs.length,rfl,Nat.le_refl _,fun i xx aM=>?_⟩
 have aH:=(List.getElem?_eq_some_iff.1 aM).1
 obtain ⟨b,off,cs,ty,fz,dN,rfl,ar,aQ,bF⟩:=h i xx aM
 refine ⟨b,off,cs,ty,fz,dN,?_,ar,aQ,bF⟩
 rw [if_neg ag]
 rfl
end
end Go.aK
end
section
namespace Go.aK
section
variable {P:Program}{n:Nat}{w0:World}{zs:List aR}{hs:List aC}{ops:Array Oper}{L:List (Nat×Value)}{d:Option Tmp}{ty t b7:TypeId}{pos:String}{af:Array Edge}{g:Option (Nat×Bool)}
variable {x y c ot ou kR:Operand}{u v:Value}
theorem afD[a1]{z:aR}{m:Nat}{xs:List (List UInt8)}{bS:TypeDesc}{bu:Nat}{zv:Value}(aN:ba P t bS m bu zv){k:Nat}(U:bo (pH m) z v xs)(bj:gQ w0 zs z)(h1:aW L x=some (dn v (k*m)))(aT:fg bS=true)(h0:0<m)(aE:k<xs.length) :
  bR P n w0 zs hs L ⟨d,.load t x,ty,pos,af,g⟩ (.agg ((xs.getD k []).map bn).toArray):=by
 have:=IV (P:=P) (n:=n) (w0:=w0) (zs:=zs) (hs:=hs) (d:=d) (ty:=ty) (pos:=pos) (af:=af) (g:=g) (E:=pH m) aN (k:=k) (m:=k*m) rfl h0 U bj h1 aT aE
 have aY:=U.rep (i:=k) (x:=xs[k]) (by simp [aE])
 have e:oH z (dn v (k*(pH m).size)) (pH m).size=(xs.getD k []).map bn:=by
  rw [aY.2]
  simp [aE]
 rwa [e] at this
theorem Ma{α:Type}{E:ej α}{z:aR}{xs:List α}(U:bo E z v xs){k:Nat}(aE:k<xs.length):∃ b off,dn v (k*E.size)=.pointer (some ⟨b,off,none⟩)∧∀ j,dn v (k*E.size+j)=.pointer (some ⟨b,off+j,none⟩):=by
 obtain ⟨_,a,cc,rfl,_,h⟩:=U
 obtain ⟨b,off,cs,mj,fz,dN,rfl,_⟩:=h k xs[k] (by simp [aE])
 exact ⟨b,off+k*E.size,by simp [dn,fU],fun j=>by simp [dn,fU,Nat.add_assoc]⟩
theorem QU[a1]{m:Nat}{e:TypeId}{s bu:Nat}{zv:Value}(aN:ba P t (.array m e) s bu zv){be:Nat}{ze:Value}(cr:ba P e (.int .u8) 1 be ze)(aP:P.eqGuardType P.depth t=false){xs ys:List UInt8}(h1:aW L x=some (.agg (xs.map bn).toArray))(ar:aW L y=some (.agg (ys.map bn).toArray))(aM:xs.length=m)(cZ:ys.length=m) :
  bR P n w0 zs hs L ⟨d,.binOp .neq t x y b7,ty,pos,af,g⟩ (.bool (!decide (xs=ys))):=
 fu h1 ar (fun w=>run_eqGuard_agg w _ _ _ _ _ _ aP) fun w=>by
  cases aH:P.info? e with
  | none=>have:=cr.inf;simp [aH] at this
  | some i=>
   have bq:P.cellsOf e=1:=by have:=cr.inf;simp [aH] at this;simp [Program.cellsOf,aH,this.1]
   rw [run_neq_struct,run_equalIn_array w 9999 _ _ aN.und aH,bq,Jm cr 9998 xs ys w _ (fun j aV=>by rw [List.mem_range] at aV;omega)]
   simp only [Result.andThen_ok]
   congr 3
   rw [Bool.eq_iff_iff]
   simp only [decide_eq_true_eq,List.mem_range]
   constructor
   ·intro h
    apply List.ext_getElem ag
    intro j qv l4
    have:=h j ag
    rwa [List.getD_eq_getElem?_getD,List.getD_eq_getElem?_getD,List.getElem?_eq_getElem qv,List.getElem?_eq_getElem l4] at this
   ·intro h j _;rw [h]
theorem Ni:∀ (cs:List Value) (k:Nat) (A:Array Value),A.size=k+cs.length→(cs.zipIdx k).foldl (fun A x=>A.setIfInBounds x.2 x.1) A=(A.toList.take k++cs).toArray
 | [],k,A,h=>by
  simp only [List.zipIdx_nil,List.foldl_nil,List.append_nil]
  rw [List.take_of_length_le (by simpa using Nat.le_of_eq h)]
 | c::cs,k,A,h=>by
  rw [List.zipIdx_cons,List.foldl_cons,Ni cs (k+1) _ (by simp at h ⊢;omega)]
  congr 1
  simp only [List.length_cons] at h
  have aE:k<A.toList.length:=by simp;omega
  rw [Array.toList_setIfInBounds,List.take_succ_eq_append_getElem (by simpa using aE),List.take_set,List.getElem_set_self,List.append_assoc]
  congr 1
  rw [List.set_eq_of_length_le (by simp;omega)]
theorem oN[a1]{e:TypeId}{s bu:Nat}{zv:Value}(aN:ba P t (.slice e) s bu zv){de:TypeDesc}{m be:Nat}{zc:List Value}(cr:ba P e de m be (.agg zc.toArray)){cs:List Value}(h1:aW L x=some (.agg cs.toArray))(hl:cs.length=m)(bj:zc.length=m)(n0:∀ v∈cs,v.oneCell'=true)(aw:1*m≤16777216)(h0:0<m) :
  fJ P n w0 zs hs L ⟨d,.buildSlice t 1 #[(0,x)],ty,pos,af,g⟩ (fun v zs' hs'=>zs'=zs∧hs'=.row v e m 1 cs::hs):=by
 refine FK aN cr (vparts:=[(0,.agg cs.toArray)]) (by simp [h1]) ?_ aw (by simp;omega) (by simpa using hl)
 subst hl
 simp only [Instr.fill,Value.cells,Nat.zero_mul,Nat.one_mul]
 simp [Instr.fill,Value.cells]
 have:=Ni cs 0 (Array.map (fun x=>zc[x%zc.length]?.getD default) (Array.range cs.length)) (by simp)
 simpa using this
end
end Go.aK
end
section
namespace Go.aK
section
variable {P:Program}{n:Nat}{w0:World}{zs:List aR}{hs:List aC}{ops:Array Oper}{L:List (Nat×Value)}
def Ch(L:List (Nat×Value))(l:List Oper):Bool:=l.all (wH L)
theorem JG[a1]{jr:List Oper}{gu:List (Nat×Value)}:∀ {m:Nat}{l:List Oper}{kl:List (Nat×Value)},fS P n w0 zs hs ops m kl l gu jr→Ch L (l.take m)=true→Sub L kl→Sub L gu
 | 0,_,_,h,_,hs=>by obtain ⟨rfl,_⟩:=h;exact hs
 | m+1,_,_,h,aP,hs=>by
  obtain ⟨o,r,v,rfl,aT,ch,aY⟩:=h
  rw [List.take_succ_cons] at aP
  unfold Ch at aP
  rw [List.all_cons,Bool.and_eq_true] at aP
  refine JG (m:=m) aY aP.2 fun t u hu=>?_
  have uW:=aP.1
  unfold wH at uW
  cases vc:o.dst with
  | none=>exact hs t u hu
  | some d=>
   rw [vc] at uW
   simp only [lh]
   unfold look
   cases aw:Nat.beq d t with
   | true=>
    have:d=t:=Nat.eq_of_beq_eq_true aw
    subst this
    have cA:(!(L.any fun p=>Nat.beq p.1 d))=true:=uW
    rw [z1 hu] at cA
    cases cA
   | false=>simpa using hs t u hu
theorem Ea{gt:Nat}{b:Bool}(eE:look L gt=some (.bool b)):Sub L ((gt,.bool b)::L):=fun t v bA=>by
 unfold look
 cases aw:Nat.beq gt t with
 | true=>
  have:gt=t:=Nat.eq_of_beq_eq_true aw
  subst this
  rw [eE] at bA
  exact bA
 | false=>simpa using bA
theorem Cg[a1]{gt:Nat}{b:Bool}{a:Act}(ab:Fr n L a)(eE:look L gt=some (.bool b)):Fr n ((gt,.bool b)::L) a:=⟨ab.size,ab.nodef,fun t v bA=>by
 unfold look at bA
 cases aw:Nat.beq gt t with
 | true=>
  have:gt=t:=Nat.eq_of_beq_eq_true aw
  subst this
  simp only [aw,cond_true,Option.some.injEq] at bA
  subst bA
  exact ab.get _ _ eE
 | false=>
  rw [aw] at bA
  exact ab.get t v bA⟩
theorem AV{pd:Nat}{v:Value}{gu:List (Nat×Value)}(h:Sub L gu):Sub ((pd,v)::L) ((pd,v)::gu):=fun t u hu=>by
 unfold look at hu ⊢
 cases aw:Nat.beq pd t with
 | true=>rw [aw] at hu;simpa using hu
 | false=>rw [aw] at hu;exact h t u hu
end
end Go.aK
namespace Go.aK
theorem Ad{p:Prop}[Decidable p](h:(!decide p)=false):p:=by simpa using h
end Go.aK
end
section
namespace Go.aK
open Go.ChangeShapes Go.WideShapes Go.ChangeAt Go.RowKit
variable {H:Type}{enc:TypeId×Value→H}{P:Program}{W:World}{t e:TypeId}
structure aj1 (bk:DataW H→Nat) (yL:List (DataW H)→Nat):Prop where
 str:∀ b,bk (.lit (.string b))=b.length+1
 sl:∀ e s,bk (.slice e s)=yL e+yL s+1
 nil:yL []=0
 cons:∀ d r,yL (d::r)=bk d+yL r
 pos:∀ d,1≤bk d
def akz{α:Type}(enc:TypeId×Value→H)(P:Program)(W:World)(E:ej α)(t:TypeId)(bk:DataW H→Nat)(ht:α→Nat):Prop:=
 ∀ fuel cs x,DataW.trod enc P W 0 (fun _=>true) true fuel t cs=some x→(x.1.weights P t).all (· ≤ reachBytes)=true→∃ a,E.rep (cf W) a cs∧ht a≤bk x.1
theorem pb{α:Type}{ht:α→Nat}(h:∀ x,1≤ht x):∀ (xs:List α),xs.length≤(xs.map ht).sum
 | []=>by simp
 | y::ys=>by
  have:=pb h ys
  have:=h y
  simp only [List.map_cons,List.sum_cons,List.length_cons]
  omega
end Go.aK
end
section
namespace Go.aK
theorem aB.union{w0:World}{zs:List aR}{hs:List aC}{w:World}(h:aB w0 zs hs w):∃ z,(∀ z'∈zs,z'.le z)∧aB w0 (z::zs) hs w:=by
 let z:aR:=fun b=>if zs.any (fun z'=>(z' b).isSome)=true then w.heap[b]? else none
 have bj:∀ b o,z b=some o→∃ z'∈zs,z' b=some o:=by
  intro b o aw
  replace aw:(if zs.any (fun z'=>(z' b).isSome)=true then w.heap[b]? else none)=some o:=aw
  split at aw
  ·rename_i bg
   obtain ⟨z',hm,hs⟩:=List.any_eq_true.1 bg
   obtain ⟨o',Og⟩:=Option.isSome_iff_exists.1 hs
   have:=(h.zone z' hm).1 _ _ Og
   have e:w.heap[b]?=some o':=this
   rw [e] at aw
   exact ⟨z',hm,by rw [Og,aw]⟩
  ·cases aw
 have tc:∀ b,(∀ z'∈zs,z' b=none)→z b=none:=by
  intro b aw
  cases gn:z b with
  | none=>rfl
  | some o=>
   obtain ⟨z',hm,he⟩:=bj b o gn
   rw [aw z' hm] at he
   cases he
 refine ⟨z,fun z' hm b o aw=>?_,h.ext,?_,?_,h.nd,h.io⟩
 ·show (if zs.any (fun z'=>(z' b).isSome)=true then w.heap[b]? else none)=some o
  rw [if_pos (List.any_eq_true.2 ⟨z',hm,by rw [aw];rfl⟩)]
  exact (h.zone z' hm).1 _ _ aw
 ·intro z' hm
  rcases List.mem_cons.1 hm with rfl | hm
  ·exact ⟨fun b o aw=>by obtain ⟨z',hm,he⟩:=bj b o aw;exact (h.zone z' hm).1 _ _ he,fun b o aw=>by obtain ⟨z',hm,he⟩:=bj b o aw;exact (h.zone z' hm).2 _ _ he⟩
  ·exact h.zone z' hm
 ·intro r aY
  refine ⟨(h.own r aY).1,fun b aw z' hm=>?_⟩
  rcases List.mem_cons.1 hm with rfl | hm
  ·exact tc b ((h.own r aY).2 b aw)
  ·exact (h.own r aY).2 b aw z' hm
theorem row_one{base:Nat}{w:World}{v:Value}{e:TypeId}{s m:Nat}{cs:List Value}(h:(aC.row v e s m cs).ok base w):v.oneCell'=true:=by
 rcases h.2 with ⟨rfl,_⟩ | ⟨b,cap,cur,rfl,_⟩ <;> rfl
theorem mP{α:Type}{E:ej α}{z:aR}{v:Value}{xs:List α}(h:bo E z v xs):v.oneCell'=true:=by obtain ⟨_,a,c,rfl,_⟩:=h;rfl
def lW{α:Type}(E:ej α)(z:aR):List Value→List (List α)→Prop
 | [],[]=>True
 | v::vs,x::xs=>bo E z v x∧lW E z vs xs
 | _,_=>False
theorem lW.get{α:Type}{E:ej α}{z:aR}:∀ {vs:List Value}{xs:List (List α)},lW E z vs xs→∀ (i:Nat) (x:List α),xs[i]?=some x→∃ v,vs[i]?=some v∧bo E z v x
 | [],[],_,i,x,aM=>by simp at aM
 | v::vs,y::xs,h,0,x,aM=>by
  simp only [List.getElem?_cons_zero,Option.some.injEq] at aM
  subst aM
  exact ⟨v,rfl,h.1⟩
 | v::vs,y::xs,h,i+1,x,aM=>by
  simp only [List.getElem?_cons_succ] at aM ⊢
  exact lW.get h.2 i x aM
end Go.aK
end
section
namespace Go.aK
def tV(P:Program)(w:World)(fv:Value)(q:Int→Prop)(p:Int→Bool):Prop:=
 ∃ g fs cs,fv=.func (.func g) fs.toArray cs.toArray∧b1 P g∧∀ w',(cf w).le (cf w')→∀ x,q x→cC P g (fs++[aA x]++cs) w' (fun r _ _=>r=.bool (p x))
def yj(P:Program)(w:World)(fv:Value)(q:Int→Int→Prop)(p:Int→Int→Bool):Prop:=
 ∃ g fs cs,fv=.func (.func g) fs.toArray cs.toArray∧b1 P g∧∀ w',(cf w).le (cf w')→∀ x y,q x y→cC P g (fs++[aA x,aA y]++cs) w' (fun r _ _=>r=.bool (p x y))
theorem aR.Dd{a b c:aR}(h1:a.le b)(ar:b.le c):a.le c:=fun k o h=>ar k o (h1 k o h)
theorem tV.mono{P:Program}{w w':World}{fv:Value}{q:Int→Prop}{p:Int→Bool}(h:tV P w fv q p)(hle:(cf w).le (cf w')):tV P w' fv q p:=by
 obtain ⟨g,fs,cs,h1,ar,aQ⟩:=h
 exact ⟨g,fs,cs,h1,ar,fun mm bF=>aQ mm (aR.Dd hle bF)⟩
theorem yj.mono{P:Program}{w w':World}{fv:Value}{q:Int→Int→Prop}{p:Int→Int→Bool}(h:yj P w fv q p)(hle:(cf w).le (cf w')):yj P w' fv q p:=by
 obtain ⟨g,fs,cs,h1,ar,aQ⟩:=h
 exact ⟨g,fs,cs,h1,ar,fun mm bF=>aQ mm (aR.Dd hle bF)⟩
theorem tV.one{P:Program}{w:World}{fv:Value}{q:Int→Prop}{p:Int→Bool}(h:tV P w fv q p):fv.oneCell'=true:=by obtain ⟨g,fs,cs,rfl,_⟩:=h;rfl
theorem yj.one{P:Program}{w:World}{fv:Value}{q:Int→Int→Prop}{p:Int→Int→Bool}(h:yj P w fv q p):fv.oneCell'=true:=by obtain ⟨g,fs,cs,rfl,_⟩:=h;rfl
section
variable {P:Program}{n:Nat}{w0:World}{zs:List aR}{hs:List aC}{L:List (Nat×Value)}{d:Option Tmp}{ty t:TypeId}{pos:String}{af:Array Edge}{g:Option (Nat×Bool)}{x:Operand}
theorem afx[a1]{fv:Value}{q:Int→Prop}{p:Int→Bool}(bw:tV P w0 fv q p)(h0:aW L x=some fv){y:Operand}{m:Int}(h1:aW L y=some (aA m)){ats:Array TypeId}(ch:q m) :
  bR P n w0 zs hs L ⟨d,.call ⟨.value x,#[y],ats⟩,ty,pos,af,g⟩ (.bool (p m)):=by
 obtain ⟨f,fs,cs,rfl,ar,aQ⟩:=bw
 have qq:iP L [y]=some [aA m]:=by simp only [iP,h1]
 exact Ak ar h0 qq (fun w U=>aQ w U.ext m ch) (fun _ _ _ h=>h)
end
theorem Mm(pl:Nat→Option (Nat×Nat)):∀ (vs pre post:List Value),(∀ k,k<pre.length+vs.length→pl k=some (k,1))→(∀ v∈vs,v.oneCell'=true)→post.length=vs.length→Instr.fill pl (pre++post).toArray (List.zip (List.range' pre.length vs.length) vs)=some (pre++vs).toArray
 | [],pre,post,_,_,bO=>by
  have:post=[]:=List.eq_nil_of_length_eq_zero (by simpa using bO)
  subst this
  simp [Instr.fill]
 | v::vs,pre,post,ia,h1,bO=>by
  cases post with
  | nil=>simp at bO
  | cons p post=>
   have bA:=h1 v (by simp)
   have bq:v.cells=#[v]:=by cases v <;> first | rfl | (simp [Value.oneCell'] at bA)
   rw [List.length_cons,List.range'_succ,List.zip_cons_cons]
   simp only [Instr.fill,bq,ia pre.length (by simp)]
   rw [if_neg (by simp)]
   have e:(Array.foldl (fun cs (x:Value×Nat)=>cs.setIfInBounds (pre.length+x.2) x.1) (pre++p::post).toArray (#[v].zipIdx))=((pre++[v])++post).toArray:=by
    simp
   have ih:=Mm pl vs (pre++[v]) post (fun k aE=>ia k (by simp at aE ⊢;omega)) (fun u hu=>h1 u (by simp [hu])) (by simpa using bO)
   rw [show (pre++[v]).length=pre.length+1 by simp] at ih
   refine Eq.trans ?_ (ih.trans (by simp))
   rw [← e]
theorem Qv(m:Nat)(k:Nat)(aE:k<m):((List.range' 0 m).map fun i=>(i,1)).toArray[k]?=some (k,1):=by
 simp [aE]
section
variable {P:Program}{n:Nat}{w0:World}{zs:List aR}{hs:List aC}{L:List (Nat×Value)}{d:Option Tmp}{ty t:TypeId}{pos:String}{af:Array Edge}{g:Option (Nat×Bool)}{x:Operand}{v:Value}
theorem ow[a1]{fs:List Field}{s bu:Nat}{zc:List Value}(aN:ba P t (.struct fs.toArray) s bu (.agg zc.toArray))(m:Nat)(bO:(fs.mapM fun f=>(P.info? f.type).map fun i=>(f.offset,i.size))=some ((List.range' 0 m).map fun i=>(i,1))){parts:Array (Nat×Operand)}{vs:List Value}(h1:iP L (parts.toList.map (·.2))=some vs)
  (u0:parts.toList.map (·.1)=List.range' 0 vs.length) (n0:∀ v∈vs,v.oneCell'=true) (bj:zc.length=m) (hl:vs.length=m) :
  bR P n w0 zs hs L ⟨d,.build t parts,ty,pos,af,g⟩ (.agg vs.toArray):=
 afs aN bO h1 (by
  rw [u0]
  show Instr.fill _ zc.toArray _=_
  have:=Mm (((List.range' 0 m).map fun i=>(i,1)).toArray[·]?) vs [] zc (fun k aE=>Qv m k (by simp at aE;omega)) n0 ag
  simpa using this)
end
def UH{α:Type}(E:ej α)(xs:List α):Value→List aR→List aC→Prop:=fun r zs hs=>∃ z,bo E z r xs∧zs=[z]∧hs=[]
def akC{α:Type}(E:ej α)(xs:List α)(e:Int):Value→List aR→List aC→Prop:=fun r zs hs=>∃ v z,bo E z v xs∧r=.tuple #[v,aA e]∧zs=[z]∧hs=[]
theorem xR{z:aR}{v:Value}{xs:List Int}(h:bo encI z v xs):∀ x∈xs, -9223372036854775808≤x∧x≤9223372036854775807:=fun x aM=>by
 obtain ⟨i,aH,rfl⟩:=List.mem_iff_getElem.1 aM
 exact (h.rep (i:=i) (x:=xs[i]) (by simp [aH])).2
theorem jm{xs:List Int}{k:Nat}(h:k<xs.length):xs.getD k 0∈xs:=by rw [List.getD_eq_getElem?_getD,List.getElem?_eq_getElem h];exact List.getElem_mem h
theorem aB.ajZ{w0:World}{zs:List aR}{hs:List aC}{w:World}(h:aB w0 zs hs w):aB w0 ((fun _=>none)::zs) hs w:=
 ⟨h.ext,fun z bj=>by
  rcases List.mem_cons.1 bj with rfl | bj
  ·exact ⟨fun b o aw=>by simp at aw,fun b o aw=>by simp at aw⟩
  ·exact h.zone z bj,fun r aY=>⟨(h.own r aY).1,fun b aw z bj=>by
  rcases List.mem_cons.1 bj with rfl | bj
  ·rfl
  ·exact (h.own r aY).2 b aw z bj⟩,h.nd,h.io⟩
def akp{α:Type}(E:ej α)(f:List α×Int×Int)(r:Value)(zs:List aR)(hs:List aC):Prop:=
 ∃ v z,r=.tuple [v,aA f.2.1,aA f.2.2].toArray∧bo E z v f.1∧zs=[z]∧hs=[]
theorem ahZ{α:Type}{E:ej α}{z:aR}:bo E z (.slice none 0 0) []:=⟨by simp,none,0,rfl,Nat.le_refl _,fun i x h=>by simp at h⟩
end Go.aK
end
section
namespace Go.aK
section
variable {P:Program}{n:Nat}{w0:World}{zs:List aR}{hs:List aC}{ops:Array Oper}{L L':List (Nat×Value)}{k:Nat}
theorem ajF[a1]{c q pE:Bool}(g gt m g0 lB:Nat){rest l:List Oper}{gu:List (Nat×Value)}{pd:Tmp}{pt:TypeId}{pp:String}{pa:Array Edge}{x y:Operand}{Q:Exit→Act→World→Prop}{a:Act}{w:World}
  (ab:Fr n L a) (U:aB w0 zs hs w) (eE:look L gt=some (.bool c)) (l3:(ops[g]?).bind (·.dst)=some gt) (hl:l.drop m=⟨some pd,.pick (.tmp gt) x y,pt,pp,pa,some (g0,pE)⟩::rest) (hP:oQ n L g true (l.take m)=true) (iV:Nat.blt pd n=true) (s5:(ops[g0]?).bind (·.dst)=some lB) (zI:look L lB=some (.bool pE))
  (m4:c=true→fS P n w0 zs hs ops m ((gt,.bool true)::L) l gu (⟨some pd,.pick (.tmp gt) x y,pt,pp,pa,some (g0,pE)⟩::rest)) (aM:aW gu x=some (.bool q)) (cZ:aW L y=some (.bool false))
  (K:∀ a w,Fr n ((pd,.bool (c&&q))::L) a→aB w0 zs hs w→wpList P ops Q rest a w):wpList P ops Q l a w:=by
 have aw:sw n (some pd):=Nat.blt_eq.mp iV
 cases c with
 | false=>
  refine Ew (m:=m) (b:=true) (c:=false) l3 rfl ab eE hP fun a ab=>?_
  rw [hl]
  exact lQ ab U (aO lB s5 zI iV (hB eE cZ) ah) K
 | true=>
  have hs:=m4 rfl
  have h1:Sub L ((gt,.bool true)::L):=fun t v bA=>by
   unfold look
   cases aw:Nat.beq gt t with
   | true=>
    have:gt=t:=Nat.eq_of_beq_eq_true aw
    subst this
    rw [eE] at bA
    exact bA
   | false=>simpa using bA
  have mZ:Fr n ((gt,.bool true)::L) a:=⟨ab.size,ab.nodef,fun t v bA=>by
   unfold look at bA
   cases aw:Nat.beq gt t with
   | true=>
    have:gt=t:=Nat.eq_of_beq_eq_true aw
    subst this
    simp only [aw,cond_true,Option.some.injEq] at bA
    subst bA
    exact ab.get _ _ eE
   | false=>
    rw [aw] at bA
    exact ab.get t v bA⟩
  have ib:=vH (g:=g) (b:=true) hs hP h1
  refine lQ mZ U hs fun a w k2 U=>?_
  refine lQ k2 U (aO lB s5 (ib lB _ zI) iV (kU (ib gt _ eE) aM) ah) fun a w m0 U=>K a w ?_ U
  refine m0.ov fun t v bA=>?_
  unfold look at bA ⊢
  cases aw:Nat.beq pd t with
  | true=>rw [aw] at bA;simpa using bA
  | false=>rw [aw] at bA;exact ib t v bA
theorem ajI[a1]{c q pE:Bool}(g gt m g0 lB:Nat){rest l:List Oper}{gu:List (Nat×Value)}{pd:Tmp}{pt:TypeId}{pp:String}{pa:Array Edge}{x y:Operand}{Q:Act→Prop}{a:Act}
  (ab:Fr n L a) (eE:look L gt=some (.bool c)) (l3:(ops[g]?).bind (·.dst)=some gt) (hl:l.drop m=⟨some pd,.pick (.tmp gt) x y,pt,pp,pa,some (g0,pE)⟩::rest) (hP:oQ n L g true (l.take m)=true) (iV:Nat.blt pd n=true) (s5:(ops[g0]?).bind (·.dst)=some lB) (zI:look L lB=some (.bool pE))
  (m4:c=true→fS P n w0 zs hs ops m ((gt,.bool true)::L) l gu (⟨some pd,.pick (.tmp gt) x y,pt,pp,pa,some (g0,pE)⟩::rest)) (aM:aW gu x=some (.bool q)) (cZ:aW L y=some (.bool false))
  (K:∀ a,Fr n ((pd,.bool (c&&q))::L) a→wpQuiet P ops (aB w0 zs hs) Q rest a):wpQuiet P ops (aB w0 zs hs) Q l a:=by
 have aw:sw n (some pd):=Nat.blt_eq.mp iV
 cases c with
 | false=>
  refine Ex (m:=m) (b:=true) (c:=false) l3 rfl ab eE hP fun a ab=>?_
  rw [hl]
  exact jL ab (aO lB s5 zI iV (hB eE cZ) ah) K
 | true=>
  have hs:=m4 rfl
  have h1:Sub L ((gt,.bool true)::L):=fun t v bA=>by
   unfold look
   cases aw:Nat.beq gt t with
   | true=>
    have:gt=t:=Nat.eq_of_beq_eq_true aw
    subst this
    rw [eE] at bA
    exact bA
   | false=>simpa using bA
  have mZ:Fr n ((gt,.bool true)::L) a:=⟨ab.size,ab.nodef,fun t v bA=>by
   unfold look at bA
   cases aw:Nat.beq gt t with
   | true=>
    have:gt=t:=Nat.eq_of_beq_eq_true aw
    subst this
    simp only [aw,cond_true,Option.some.injEq] at bA
    subst bA
    exact ab.get _ _ eE
   | false=>
    rw [aw] at bA
    exact ab.get t v bA⟩
  have ib:=vH (g:=g) (b:=true) hs hP h1
  refine jL mZ hs fun a k2=>?_
  refine jL k2 (aO lB s5 (ib lB _ zI) iV (kU (ib gt _ eE) aM) ah) fun a m0=>K a ?_
  refine m0.ov fun t v bA=>?_
  unfold look at bA ⊢
  cases aw:Nat.beq pd t with
  | true=>rw [aw] at bA;simpa using bA
  | false=>rw [aw] at bA;exact ib t v bA
theorem D9{kl:List (Nat×Value)}:∀ (K:Nat) (M:List (Nat×Value)),M.drop K=kl→((M.take K).all fun e => !(kl.any fun p=>Nat.beq p.1 e.1))=true→Sub kl M
 | 0,M,h,_=>by rw [List.drop_zero] at h;subst h;exact fun t v bA=>bA
 | K+1,[],h,_=>by subst h;exact fun t v bA=>bA
 | K+1,(d,u)::M,h,bw=>by
  rw [List.take_succ_cons,List.all_cons,Bool.and_eq_true] at bw
  have ih:=D9 K M h bw.2
  intro t v bA
  unfold look
  cases aw:Nat.beq d t with
  | true=>
   have:d=t:=Nat.eq_of_beq_eq_true aw
   subst this
   have cA:=bw.1
   simp only [Bool.not_eq_true'] at cA
   rw [z1 bA] at cA
   cases cA
  | false=>simpa using ih t v bA
theorem Fr.under[a1]{pd:Nat}{v:Value}{M kl:List (Nat×Value)}{a:Act}(K:Nat)(h:Fr n ((pd,v)::M) a)(aT:M.drop K=kl)(bw:((M.take K).all fun e => !(kl.any fun p=>Nat.beq p.1 e.1))=true):Fr n ((pd,v)::kl) a:=
 h.ov (AV (D9 K M aT bw))
theorem ajH[a1]{c q:Bool}(gt m:Nat){rest l:List Oper}{nU:List (Nat×Value)}{pd:Tmp}{pt:TypeId}{pp:String}{pa:Array Edge}{x y:Operand}{Q:Exit→Act→World→Prop}{a:Act}{w:World}
  (ab:Fr n L a) (U:aB w0 zs hs w) (eE:look L gt=some (.bool c)) (hP:Ch L (l.take m)=true) (iV:Nat.blt pd n=true)
  (CU:c=true→fS P n w0 zs hs ops m ((gt,.bool true)::L) l nU (⟨some pd,.pick (.tmp gt) x y,pt,pp,pa,none⟩::rest)) (aM:aW nU x=some (.bool true))
  (m4:c=false→∀ a w,Fr n ((gt,.bool false)::L) a→aB w0 zs hs w→(∀ a w,Fr n ((pd,.bool q)::(gt,.bool false)::L) a→aB w0 zs hs w→wpList P ops Q rest a w)→wpList P ops Q l a w)
  (K:∀ a w,Fr n ((pd,.bool (c || q))::L) a→aB w0 zs hs w→wpList P ops Q rest a w):wpList P ops Q l a w:=by
 cases c with
 | true=>
  have c5:=CU rfl
  have ib:=JG c5 hP (Ea eE)
  exact lQ (Cg ab eE) U c5 fun a w k2 U=>lQ k2 U (mR iV (kU (ib gt _ eE) aM) ah) fun a w m0 U=>K a w (m0.ov (AV ib)) U
 | false=>exact m4 rfl a w (Cg ab eE) U fun a w ab U=>K a w (ab.ov (AV (Ea eE))) U
end
end Go.aK
end
section
namespace Go.aK
theorem ait{α:Type}{A cs c:List α}{j M:Nat}(eP:M≤A.length)(aV:j+c.length≤M)(h:A.take M=cs):(A.take j++c++A.drop (j+c.length)).take M=cs.take j++c++cs.drop (j+c.length):=by
 obtain ⟨t,aN⟩:∃ t,t=A.drop M:=⟨_,rfl⟩
 have gw:A=cs++t:=by rw [← h,aN,List.take_append_drop]
 have hl:cs.length=M:=by rw [← h,List.length_take];omega
 have bL:A.take j=cs.take j:=by rw [gw,List.take_append_of_le_length ag]
 have bT:A.drop (j+c.length)=cs.drop (j+c.length)++t:=by rw [gw,List.drop_append_of_le_length ag]
 have fm:(cs.take j++c++cs.drop (j+c.length)).length=M:=by simp only [List.length_append,List.length_take,List.length_drop];omega
 rw [bL,bT,← List.append_assoc,List.take_append_of_le_length ag,List.take_of_length_le ag]
theorem aB.AT{w0:World}{zs:List aR}{hs:List aC}{w:World}(h:aB w0 zs hs w){k:Nat}{v:Value}{e:TypeId}{s m:Nat}{cs:List Value}(aE:hs[k]?=some (.row v e s m cs)){j:Nat}{c:List Value}(hl:j+c.length≤m*s)(h0:0<m) :
  ∃ g cap cur,v=.slice (some ⟨g,0,none⟩) m cap∧m≤cap∧w.heap[g]?=some (.cells cur e (0,0))∧j+c.length≤cur.size∧aB w0 zs (hs.set k (.row v e s m (cs.take j++c++cs.drop (j+c.length)))) (w.setRow g (cur.toList.take j++c++cur.toList.drop (j+c.length)).toArray):=by
 have fj:=(h.own _ (List.mem_of_getElem? aE)).1
 rcases fj.2 with ⟨_,bD⟩ | ⟨g,cap,cur,rfl,aw,aP,k4,oa,iT,kM⟩
 ·omega
 ·have s3:m*s≤cap*s:=Nat.mul_le_mul_right s k4
  refine ⟨g,cap,cur,rfl,k4,aP,by omega,?_⟩
  refine h.set aE rfl (fun b aw=>setRow_other w g b _ (fun e=>aw (by rw [← e];rfl))) ⟨?_,.inr ⟨g,cap,_,rfl,aw,setRow_heap w g cur _ e (0,0) aP,k4,oa,?_,?_⟩⟩ (by simp) ⟨rfl,rfl,rfl⟩
  ·have:=fj.1
   simp only [List.length_append,List.length_take,List.length_drop]
   omega
  ·simp only [List.size_toArray,List.length_append,List.length_take,List.length_drop,Array.length_toList]
   omega
  ·simp only []
   exact ait (by rw [Array.length_toList];omega) hl kM
section
variable {P:Program}{n:Nat}{w0:World}{zs:List aR}{hs:List aC}{L:List (Nat×Value)}{d:Option Tmp}{ty t b7:TypeId}{pos:String}{af:Array Edge}{g:Option (Nat×Bool)}
variable {x y c:Operand}{u v:Value}
theorem WQ[a1]{bS:TypeDesc}{bu:Nat}{zv:Value}(aN:ba P t bS 1 bu zv)(k:Nat){e:TypeId}{m j:Nat}{cs:List Value}(h1:aW L x=some (dn v (j*1)))(ar:aW L y=some u)(aE:hs[k]?=some (.row v e 1 m cs))(aV:j<m)(cH:u.oneCell'=true) :
  fJ P n w0 zs hs L ⟨d,.store t x y,ty,pos,af,g⟩ (fun dr zs' hs'=>dr=undef∧zs'=zs∧hs'=hs.set k (.row v e 1 m (cs.set j u))):=
 ka fun a bg w hw=>by
  have bq:u.cells=[u].toArray:=by cases u <;> first | rfl | (simp [Value.oneCell'] at cH)
  have u4:cs.length=m:=by have:=(hw.own _ (List.mem_of_getElem? aE)).1.1;omega
  obtain ⟨b,cap,cur,rfl,_,aw,hl,U⟩:=hw.AT (c:=[u]) aE (j:=j) (by simp;omega) ag
  have he:cs.take j++[u]++cs.drop (j+[u].length)=cs.set j u:=by
   simp only [List.set_eq_take_append_cons_drop,if_pos (show j<cs.length by omega),List.append_assoc,List.cons_append,List.nil_append,List.length_singleton]
  rw [he] at U
  have aY:=AP (v:=u) aN (b:=b) (off:=j) (bt:=e) (cs:=cur.toList) (w:=w) (by simpa using aw) (by rw [bq];rfl) (by rw [bq];simpa using cH) (by simpa using hl)
  rw [bq] at aY
  refine ⟨undef,zs,_,_,.inr ⟨?_,rfl⟩,⟨rfl,rfl,rfl⟩,U⟩
  have aM:a.eval x=.pointer (some ⟨b,j,none⟩):=(bg.eval h1).trans (by simp [dn,fU])
  simp only [execOp,aM,bg.eval ar]
  simp [Instr.storeAt,Instr.sureAddr,aY]
def Dn:Value→Bool
 | .slice a _ _=>a.isNone
 | _=>false
theorem P2{α:Type}{E:ej α}{z:aR}{xs:List α}(U:bo E z v xs)(h:Dn v=true):xs=[]:=by
 obtain ⟨_,a,cc,rfl,_,ar⟩:=U
 cases xs with
 | nil=>rfl
 | cons y ys=>
  obtain ⟨b,off,cs,mj,fz,dN,rfl,_⟩:=ar 0 y rfl
  simp [Dn] at h
theorem QJ[a1]{α:Type}{E:ej α}{z:aR}{xs:List α}{e:TypeId}{s bu:Nat}{zv:Value}(aN:ba P t (.slice e) s bu zv)(U:bo E z v xs)(h1:aW L x=some v)(ar:aW L y=some (.slice none 0 0)):bR P n w0 zs hs L ⟨d,.binOp .eql t x y b7,ty,pos,af,g⟩ (.bool (Dn v)):=by
 obtain ⟨_,a,cc,rfl,_,_⟩:=U
 exact fu h1 ar (fun w=>by simp [eqGuard]) fun w=>by
  simp only [binOp]
  simp [run_equal_slice_nil w t e a _ cc aN.und,Dn]
theorem aga[a1]{e e5:TypeId}{s bu m:Nat}{zv:Value}(aN:ba P t (.slice e) s bu zv){de:TypeDesc}{be:Nat}{ze:Value}(cr:ba P e de 1 be ze)(q:Nat){cs:List Value}{k:IntKind}{i:Int}(aE:hs[q]?=some (.row v e5 1 m cs))(h1:aW L x=some v)(ar:aW L y=some (.int k i))(aw:0≤i∧i≤m) :
  bR P n w0 zs hs L ⟨d,.slice t x (some y) none none,ty,pos,af,g⟩ (lO v 1 i.toNat m):=
 eV fun a bg w hw=>by
  have fj:=(hw.own _ (List.mem_of_getElem? aE)).1
  obtain ⟨ad,cc,rfl,oT⟩:∃ ad cc,v=.slice ad m cc∧m≤cc:=by
   rcases fj.2 with ⟨rfl,rfl⟩ | ⟨b,cap,cur,rfl,_,_,k4,_⟩
   ·exact ⟨none,0,rfl,Nat.le_refl _⟩
   ·exact ⟨_,cap,rfl,k4⟩
  simp only [execOp,bg.eval h1,Option.map_some,bg.eval ar,Option.map_none]
  have bT:(Instr.sliceBound (.int k i) m .sliceB).run P w=.ok i.toNat w:=run_sliceBound (P:=P) (w:=w) k i m .sliceB ag ag
  simp [Instr.sliceAt,Instr.slice,run_underlying aN.und,Instr.sliceBounds,cr.sizeOf,bT,lO]
theorem af9[a1]{e e5:TypeId}{s bu m:Nat}{zv:Value}(aN:ba P t (.slice e) s bu zv){de:TypeDesc}{be:Nat}{ze:Value}(cr:ba P e de 1 be ze)(q:Nat){cs:List Value}{k:IntKind}{i:Int}(aE:hs[q]?=some (.row v e5 1 m cs))(h1:aW L x=some v)(ar:aW L y=some (.int k i))(aw:0≤i∧i≤m) :
  bR P n w0 zs hs L ⟨d,.slice t x none (some y) none,ty,pos,af,g⟩ (lO v 1 0 i.toNat):=
 eV fun a bg w hw=>by
  have fj:=(hw.own _ (List.mem_of_getElem? aE)).1
  obtain ⟨ad,cc,rfl,oT⟩:∃ ad cc,v=.slice ad m cc∧m≤cc:=by
   rcases fj.2 with ⟨rfl,rfl⟩ | ⟨b,cap,cur,rfl,_,_,k4,_⟩
   ·exact ⟨none,0,rfl,Nat.le_refl _⟩
   ·exact ⟨_,cap,rfl,k4⟩
  simp only [execOp,bg.eval h1,Option.map_some,bg.eval ar,Option.map_none]
  have bT:(Instr.sliceBound (.int k i) cc .sliceAcap).run P w=.ok i.toNat w:=run_sliceBound (P:=P) (w:=w) k i cc .sliceAcap ag ag
  cases ad <;> simp [Instr.sliceAt,Instr.slice,run_underlying aN.und,Instr.sliceBounds,cr.sizeOf,bT,lO,Addr.add]
end
end Go.aK
end
section
namespace Go.aK
section
variable {P:Program}{n:Nat}{w0:World}{zs:List aR}{hs:List aC}{L:List (Nat×Value)}
theorem ajC[a1]{cb:Code}{Q:Exit→Act→World→Prop}{a:Act}{w:World}{γ:Type}(g0:γ)(zsf:γ→List aR)(oG:γ→List (Nat×Value))(lU:List (Nat×Value))(gy:γ→List aC)(fact:γ→Prop)(μ:γ→Nat)
  (ab:Fr n (oG g0++lU) a) (U:aB w0 (zsf g0) (gy g0) w) (bw:fact g0)
  (aY:∀ g a w,fact g→Fr n (oG g++lU) a→aB w0 (zsf g) (gy g) w→cb.wp P (Exit.then (fun a w=>∃ h7,μ h7<μ g∧fact h7∧Fr n (oG h7++lU) a∧aB w0 (zsf h7) (gy h7) w) Q) a w):(Code.loop cb).wp P Q a w:=by
 refine TR (fun m a w=>∃ g,m=μ g∧fact g∧Fr n (oG g++lU) a∧aB w0 (zsf g) (gy g) w) (μ g0) ⟨g0,rfl,bw,ab,U⟩ fun m a w ⟨g,hm,h1,ar,aQ⟩=>?_
 refine Code.wp_mono (fun e a w q=>?_) (aY g a w h1 ar aQ)
 cases e with
 | normal=>obtain ⟨h7,bF,cO,dR,fh⟩:=q;exact ⟨μ h7,by omega,h7,rfl,cO,dR,fh⟩
 | _=>exact q
end
theorem lW.mono{α:Type}{E:ej α}{z z':aR}(h:z.le z'):∀ {vs:List Value}{xs:List (List α)},lW E z vs xs→lW E z' vs xs
 | [],[],_=>trivial
 | _::_,_::_,⟨h1,ar⟩=>⟨h1.mono h,ar.mono h⟩
theorem lW.snoc{α:Type}{E:ej α}{z:aR}{v:Value}{x:List α}:∀ {vs:List Value}{xs:List (List α)},lW E z vs xs→bo E z v x→lW E z (vs++[v]) (xs++[x])
 | [],[],_,h=>⟨h,trivial⟩
 | _::_,_::_,⟨h1,ar⟩,h=>⟨h1,lW.snoc ar h⟩
theorem lW.len{α:Type}{E:ej α}{z:aR}:∀ {vs:List Value}{xs:List (List α)},lW E z vs xs→vs.length=xs.length
 | [],[],_=>rfl
 | _::_,_::_,⟨_,ar⟩=>by rw [List.length_cons,List.length_cons,lW.len ar]
theorem lW.one{α:Type}{E:ej α}{z:aR}:∀ {vs:List Value}{xs:List (List α)},lW E z vs xs→∀ v∈vs,v.oneCell'=true
 | _::_,_::_,⟨h1,ar⟩,v,h=>by
  rcases List.mem_cons.1 h with rfl | h
  ·exact mP h1
  ·exact lW.one ar v h
end Go.aK
end
section
namespace Go.aK
section
variable {P:Program}{n:Nat}{w0:World}{zs:List aR}{hs:List aC}{ops:Array Oper}{L L':List (Nat×Value)}{k:Nat}
def yw(ops:Array Oper)(L:List (Nat×Value))(pg:Option (Nat×Bool)):Prop:=match pg with
 | none=>True
 | some (g0,pE)=>∃ lB,(ops[g0]?).bind (·.dst)=some lB∧look L lB=some (.bool pE)
theorem yw.sub{gu:List (Nat×Value)}{pg:Option (Nat×Bool)}(h:yw ops L pg)(hs:Sub L gu):yw ops gu pg:=by
 cases pg with
 | none=>trivial
 | some p=>obtain ⟨g0,pE⟩:=p;obtain ⟨lB,h1,ar⟩:=h;exact ⟨lB,h1,hs _ _ ar⟩
theorem aie[a1]{d:Tmp}{op:Op}{t:TypeId}{p:String}{af:Array Edge}{v:Value}{pg:Option (Nat×Bool)}{l l':List Oper}(aT:Nat.blt d n=true)(qy:yw ops L pg)
  (q:bR P n w0 zs hs L ⟨some d,op,t,p,af,pg⟩ v) (r:fS P n w0 zs hs ops k ((d,v)::L) l L' l'):fS P n w0 zs hs ops (k+1) L (⟨some d,op,t,p,af,pg⟩::l) L' l':=by
 cases pg with
 | none=>exact mR aT q r
 | some g=>obtain ⟨g0,pE⟩:=g;obtain ⟨lB,h1,ar⟩:=qy;exact aO lB h1 ar aT q r
theorem ajJ[a1]{c q:Bool}(gt m:Nat){rest l:List Oper}{nU:List (Nat×Value)}{pd:Tmp}{pt:TypeId}{pp:String}{pa:Array Edge}{pg:Option (Nat×Bool)}{x y:Operand}{Q:Act→Prop}{a:Act}
  (ab:Fr n L a) (eE:look L gt=some (.bool c)) (hP:Ch L (l.take m)=true) (iV:Nat.blt pd n=true) (qy:yw ops L pg)
  (CU:c=true→fS P n w0 zs hs ops m ((gt,.bool true)::L) l nU (⟨some pd,.pick (.tmp gt) x y,pt,pp,pa,pg⟩::rest)) (aM:aW nU x=some (.bool true))
  (m4:c=false→∀ a,Fr n ((gt,.bool false)::L) a→(∀ a,Fr n ((pd,.bool q)::(gt,.bool false)::L) a→wpQuiet P ops (aB w0 zs hs) Q rest a)→wpQuiet P ops (aB w0 zs hs) Q l a)
  (K:∀ a,Fr n ((pd,.bool (c || q))::L) a→wpQuiet P ops (aB w0 zs hs) Q rest a):wpQuiet P ops (aB w0 zs hs) Q l a:=by
 cases c with
 | true=>
  have c5:=CU rfl
  have ib:=JG c5 hP (Ea eE)
  exact jL (Cg ab eE) c5 fun a k2=>jL k2 (aie iV (qy.sub ib) (kU (ib gt _ eE) aM) ah) fun a m0=>K a (m0.ov (AV ib))
 | false=>exact m4 rfl a (Cg ab eE) fun a ab=>K a (ab.ov (AV (Ea eE)))
theorem aB.DZ{w:World}{v:Value}{e:TypeId}{s m m':Nat}{cs cs':List Value}(h:aB w0 zs (.row v e s m cs::hs) w)(hm:m=m')(bq:cs=cs'):aB w0 zs (.row v e s m' cs'::hs) w:=by subst hm;subst bq;exact h
theorem xT{tx e e5:TypeId}{s bu m:Nat}{zv v:Value}(aN:ba P tx (.slice e) s bu zv){q:Nat}{cs:List Value}(aE:hs[q]?=some (.row v e5 1 m cs))(h1:∀ u∈cs,u.oneCell'=true){lo aH:Nat}(aw:lo≤aH∧aH≤m):ui P w0 zs hs 1 tx (lO v 1 lo aH) (aH-lo) ((cs.take aH).drop lo):=by
 intro w hw
 have h:=(hw.own _ (List.mem_of_getElem? aE)).1
 have hlen:cs.length=m:=by have:=h.1;omega
 have sZ:((cs.take aH).drop lo).length=(aH-lo)*1:=by rw [List.length_drop,List.length_take];omega
 have cH:∀ u∈(cs.take aH).drop lo,u.oneCell'=true:=fun u hu=>h1 u (List.mem_of_mem_take (List.mem_of_mem_drop hu))
 rcases h.2 with ⟨rfl,bD⟩ | ⟨b,cap,cur,rfl,CC,aP,k4,oa,iT,kM⟩
 ·obtain rfl:aH=0:=by omega
  obtain rfl:lo=0:=by omega
  simpa [lO] using Src.ofNil w aN.und 0
 ·by_cases bq:cap=lo
  ·have jU:(cs.take aH).drop lo=[]:=List.eq_nil_of_length_eq_zero (by rw [sZ];omega)
   have bL:aH-lo=0:=by omega
   simp only [lO,if_pos bq]
   rw [jU,bL]
   exact Src.ofSlice w aN.und ⟨b,0,none⟩ 0 _ [] rfl (fun j u hu=>by simp at hu) (by simp)
  ·simp only [lO,if_neg bq,Option.map_some,Nat.mul_one]
   refine Src.ofSlice w aN.und (Addr.add ⟨b,0,none⟩ lo) (aH-lo) (cap-lo) _ sZ (fun j u hu=>?_) cH
   rw [fU,fU,cell_of_row w b _ cur e5 (0,0) aP]
   rw [List.getElem?_drop,List.getElem?_take] at hu
   split at hu
   ·rw [← kM,List.getElem?_take] at hu
    split at hu
    ·simpa using hu
    ·cases hu
   ·cases hu
end
end Go.aK
end
section
namespace Go.aK
def WT(m:Nat):ej (List Value) where
 size:=m
 rep _ x c:=c=x∧x.length=m∧∀ u∈x,u.oneCell'=true
 mono _ h:=h
 len h:=by rw [h.1,h.2.1]
 one h u hu:=by rw [h.1] at hu;exact h.2.2 u hu
theorem FU{α:Type}{m:Nat}:∀ {l:List (List α)}(_:∀ x∈l,x.length=m) {i:Nat}{x:List α}(_:l[i]?=some x) (j:Nat),j<m→l.flatten[i*m+j]?=x[j]?
 | [],_,i,x,aM,j,_=>by simp at aM
 | y::ys,h,0,x,aM,j,aV=>by
  simp only [List.getElem?_cons_zero,Option.some.injEq] at aM
  subst aM
  have:=h y (by simp)
  rw [List.flatten_cons,List.getElem?_append_left ag,Nat.zero_mul,Nat.zero_add]
 | y::ys,h,i+1,x,aM,j,aV=>by
  simp only [List.getElem?_cons_succ] at aM
  have cZ:=h y (by simp)
  have:=FU (fun z bj=>h z (by simp [bj])) aM j aV
  have e:(i+1)*m+j=i*m+j+m:=by rw [Nat.add_mul];omega
  rw [List.flatten_cons,List.getElem?_append_right ag,cZ,e,Nat.add_sub_cancel]
  exact this
theorem sA{α:Type}{m:Nat}:∀ {l:List (List α)},(∀ x∈l,x.length=m)→l.flatten.length=l.length*m
 | [],_=>by simp
 | y::ys,h=>by
  rw [List.flatten_cons,List.length_append,h y (by simp),sA (fun z bj=>h z (by simp [bj])),List.length_cons,Nat.add_mul]
  omega
section
variable {P:Program}{n:Nat}{w0:World}{zs:List aR}{hs:List aC}{v:Value}
end
end Go.aK
end
section
namespace Go.aK
def Kl[a1]{α0 α1 α2 α3 α4 α5 α6:Type}(n:Nat)(w0:World)(F:α0→α1→α2→α3→α4→α5→α6→Prop)(L:α0→α1→α2→α3→α4→α5→α6→List (Nat×Value))(Z:α0→α1→α2→α3→α4→α5→α6→List aR)(H:α0→α1→α2→α3→α4→α5→α6→List aC):Act→World→Prop:=fun a w=>∃ (cE:α0) (bZ:α1) (cg:α2) (c7:α3) (c9:α4) (ep:α5) (eM:α6),F cE bZ cg c7 c9 ep eM∧Fr n (L cE bZ cg c7 c9 ep eM) a∧aB w0 (Z cE bZ cg c7 c9 ep eM) (H cE bZ cg c7 c9 ep eM) w
theorem acw[a1]{α0 α1 α2 α3 α4 α5 α6:Type}{n:Nat}{w0:World}{F:α0→α1→α2→α3→α4→α5→α6→Prop}{L:α0→α1→α2→α3→α4→α5→α6→List (Nat×Value)}{Z:α0→α1→α2→α3→α4→α5→α6→List aR}{H:α0→α1→α2→α3→α4→α5→α6→List aC}{a:Act}{w:World}(cE:α0)(bZ:α1)(cg:α2)(c7:α3)(c9:α4)(ep:α5)(eM:α6)(bw:F cE bZ cg c7 c9 ep eM)(ab:Fr n (L cE bZ cg c7 c9 ep eM) a)(U:aB w0 (Z cE bZ cg c7 c9 ep eM) (H cE bZ cg c7 c9 ep eM) w):Kl n w0 F L Z H a w:=⟨cE,bZ,cg,c7,c9,ep,eM,bw,ab,U⟩
def ake[a1]{α0 α1 α2 α3 α4 α5 α6 α7:Type}(n:Nat)(w0:World)(F:α0→α1→α2→α3→α4→α5→α6→α7→Prop)(L:α0→α1→α2→α3→α4→α5→α6→α7→List (Nat×Value))(Z:α0→α1→α2→α3→α4→α5→α6→α7→List aR)(H:α0→α1→α2→α3→α4→α5→α6→α7→List aC):Act→World→Prop:=fun a w=>∃ (cE:α0) (bZ:α1) (cg:α2) (c7:α3) (c9:α4) (ep:α5) (eM:α6) (fI:α7),F cE bZ cg c7 c9 ep eM fI∧Fr n (L cE bZ cg c7 c9 ep eM fI) a∧aB w0 (Z cE bZ cg c7 c9 ep eM fI) (H cE bZ cg c7 c9 ep eM fI) w
def EL[a1]{α0 α1 α2 α3 α4 α5 α6 α7 α8:Type}(n:Nat)(w0:World)(F:α0→α1→α2→α3→α4→α5→α6→α7→α8→Prop)(L:α0→α1→α2→α3→α4→α5→α6→α7→α8→List (Nat×Value))(Z:α0→α1→α2→α3→α4→α5→α6→α7→α8→List aR)(H:α0→α1→α2→α3→α4→α5→α6→α7→α8→List aC):Act→World→Prop:=fun a w=>∃ (cE:α0) (bZ:α1) (cg:α2) (c7:α3) (c9:α4) (ep:α5) (eM:α6) (fI:α7) (gr:α8),F cE bZ cg c7 c9 ep eM fI gr∧Fr n (L cE bZ cg c7 c9 ep eM fI gr) a∧aB w0 (Z cE bZ cg c7 c9 ep eM fI gr) (H cE bZ cg c7 c9 ep eM fI gr) w
theorem OP[a1]{α0 α1 α2 α3 α4 α5 α6 α7 α8:Type}{n:Nat}{w0:World}{F:α0→α1→α2→α3→α4→α5→α6→α7→α8→Prop}{L:α0→α1→α2→α3→α4→α5→α6→α7→α8→List (Nat×Value)}{Z:α0→α1→α2→α3→α4→α5→α6→α7→α8→List aR}{H:α0→α1→α2→α3→α4→α5→α6→α7→α8→List aC}{a:Act}{w:World}(cE:α0)(bZ:α1)(cg:α2)(c7:α3)(c9:α4)(ep:α5)(eM:α6)(fI:α7)(gr:α8)(bw:F cE bZ cg c7 c9 ep eM fI gr)(ab:Fr n (L cE bZ cg c7 c9 ep eM fI gr) a)(U:aB w0 (Z cE bZ cg c7 c9 ep eM fI gr) (H cE bZ cg c7 c9 ep eM fI gr) w):EL n w0 F L Z H a w:=⟨cE,bZ,cg,c7,c9,ep,eM,fI,gr,bw,ab,U⟩
section
variable {P:Program}{n:Nat}{w0:World}{zs:List aR}{hs:List aC}{L:List (Nat×Value)}{d:Option Tmp}{ty t:TypeId}{pos:String}{af:Array Edge}{g:Option (Nat×Bool)}{x y:Operand}{v:Value}
end
end Go.aK
end
section
namespace Go.aK
open Go Go.Sem
section
variable {P:Program}{n:Nat}{w0:World}{zs:List aR}{hs:List aC}{L:List (Nat×Value)}{d:Option Tmp}{ty t:TypeId}{pos:String}{af:Array Edge}{g:Option (Nat×Bool)}{x:Operand}{v:Value}
theorem Ms{α:Type}{m:Nat}{l:List (List α)}(hl:∀ x∈l,x.length=m){j:Nat}(aV:j<l.length):(l.flatten.drop (j*m)).take m=l.getD j []:=by
 have aM:l[j]?=some l[j]:=by simp [aV]
 have hm:l[j].length=m:=hl _ (List.getElem_mem aV)
 have eK:=sA hl
 have w1:j*m+m≤l.length*m:=by
  have:=Nat.mul_le_mul_right m (show j+1≤l.length from aV)
  rwa [Nat.add_mul,Nat.one_mul] at this
 rw [List.getD_eq_getElem?_getD,aM]
 show _=l[j]
 apply List.ext_getElem?
 intro i
 rw [List.getElem?_take]
 split
 ·rw [List.getElem?_drop,FU hl aM i ‹_›]
 ·rw [List.getElem?_eq_none ag]
theorem QQ[a1]{e5:TypeId}{m size:Nat}{bS:TypeDesc}{bu:Nat}{zv:Value}(aN:ba P t bS size bu zv)(k:Nat)(l:List (List Value))(j:Nat)(aE:hs[k]?=some (.row v e5 size m l.flatten))(hl:∀ x∈l,x.length=size)(h1:aW L x=some (dn v (j*size)))(aV:j<l.length)(h0:0<size)(aT:fg bS=true) :
  bR P n w0 zs hs L ⟨d,.load t x,ty,pos,af,g⟩ (.agg (l.getD j []).toArray):=
 eV fun a bg w hw=>by
  have fj:=(hw.own _ (List.mem_of_getElem? aE)).1
  have aaK:=Ms hl aV
  have eK:=sA hl
  have w1:j*size+size≤l.length*size:=by
   have:=Nat.mul_le_mul_right size (show j+1≤l.length from aV)
   rwa [Nat.add_mul,Nat.one_mul] at this
  rcases fj.2 with ⟨rfl,rfl⟩ | ⟨b,cap,cur,rfl,aw,aP,k4,oa,iT,kM⟩
  ·have:=fj.1
   omega
  ·have eF:cur.toList.length=cur.size:=by simp
   have fE:l.flatten.length≤cur.size:=by rw [← kM,List.length_take];omega
   have he:a.eval x=.pointer (some ⟨b,0+j*size,none⟩):=(bg.eval h1).trans (by simp [dn,fU])
   rw [Nat.zero_add] at he
   have aY:=xK aN aT (off:=j*size) aP ag
   have bT:(cur.toList.drop (j*size)).take size=l.getD j []:=by
    rw [← aaK,← kM,List.drop_take,List.take_take]
    have cA:l.flatten.length=m*size:=fj.1
    have l0:j*size+size≤m*size:=by omega
    congr 1
    omega
   simp only [execOp,he]
   simp [Instr.loadAt,Instr.sureAddr,aY,bT]
theorem Ml{m:Nat}:∀ (ls:List (List Value)) (pre post:List Value) (k:Nat),pre.length=k*m→(∀ c∈ls,c.length=m)→post.length=ls.length*m→Instr.fill (fun i=>some (i*m,m)) (pre++post).toArray (List.zip (List.range' k ls.length) (ls.map fun c=>Value.agg c.toArray))=some (pre++ls.flatten).toArray
 | [],pre,post,k,_,_,bO=>by
  have:post=[]:=List.eq_nil_of_length_eq_zero (by simpa using bO)
  subst this
  simp [Instr.fill]
 | c::ls,pre,post,k,aE,h1,bO=>by
  have bq:=h1 c (by simp)
  rw [List.length_cons,Nat.add_mul,Nat.one_mul] at bO
  rw [List.length_cons,List.range'_succ,List.map_cons,List.zip_cons_cons]
  simp only [Instr.fill]
  have oT:(Value.agg c.toArray).cells=c.toArray:=rfl
  rw [oT,if_neg (by simp;omega)]
  have e:(Array.foldl (fun cs (x:Value×Nat)=>cs.setIfInBounds (k*m+x.2) x.1) (pre++post).toArray c.toArray.zipIdx)=((pre++c)++post.drop m).toArray:=by
   have key:∀ (cs:List Value) (o j:Nat) (A:Array Value),o+j+cs.length≤A.size→(cs.zipIdx j).foldl (fun A x=>A.setIfInBounds (o+x.2) x.1) A=(A.toList.take (o+j)++cs++A.toList.drop (o+j+cs.length)).toArray:=by
    intro cs
    induction cs with
    | nil=>intro o j A h;simp
    | cons c cs ih=>
    intro o j A h
    simp only [List.length_cons] at h
    rw [List.zipIdx_cons,List.foldl_cons,ih o (j+1) _ (by simp;omega)]
    have aE:o+j<A.toList.length:=by simp;omega
    simp only [Array.toList_setIfInBounds]
    congr 1
    rw [show o+(j+1)=o+j+1 by omega,List.take_succ_eq_append_getElem (by simpa using aE),List.take_set,List.getElem_set_self,List.set_eq_of_length_le (by simp;omega),List.drop_set_of_lt ag,List.length_cons]
    simp only [List.append_assoc,List.singleton_append]
    rw [show o+j+1+cs.length=o+j+(cs.length+1) by omega]
   have:=key c (k*m) 0 (pre++post).toArray (by simp;omega)
   simp only [Nat.add_zero] at this
   refine Eq.trans ?_ (this.trans ?_)
   ·simp
   ·rw [← aE,← bq]
    simp
  have ih:=Ml ls (pre++c) (post.drop m) (k+1) (by simp [aE,bq,Nat.add_mul]) (fun u hu=>h1 u (by simp [hu])) (by simp;omega)
  refine Eq.trans ?_ (ih.trans (by simp))
  rw [← e]
theorem L8[a1]{e:TypeId}{s bu:Nat}{zv:Value}(aN:ba P t (.slice e) s bu zv){de:TypeDesc}{be size:Nat}{ze:Value}(cr:ba P e de size be ze){m:Nat}{parts:Array (Nat×Operand)}(ls:List (List Value))(h1:iP L (parts.toList.map (·.2))=some (ls.map fun c=>Value.agg c.toArray))
  (u0:parts.toList.map (·.1)=List.range' 0 ls.length) (bq:∀ c∈ls,c.length=size) (n0:∀ c∈ls,∀ v∈c,v.oneCell'=true) (aw:m*size≤16777216) (h0:(m*size == 0)=false) (hl:ls.length=m) :
  fJ P n w0 zs hs L ⟨d,.buildSlice t m parts,ty,pos,af,g⟩ (fun v zs' hs'=>zs'=zs∧hs'=.row v e size m ls.flatten::hs):=
 FK aN cr (xo _ _ h1) (by
  rw [u0]
  have:=Ml (m:=size) ls [] (List.range (m*size) |>.map (fun i=>ze.cells[i%ze.cells.size]!)) 0 (by simp) bq (by simp [hl])
  have jU:Array.map (fun i=>ze.cells[i%ze.cells.size]!) (Array.range (m*size))=(List.map (fun i=>ze.cells[i%ze.cells.size]!) (List.range (m*size))).toArray:=by
   apply Array.ext'
   simp
  rw [jU]
  simpa using this) aw h0 (by rw [sA bq,hl])
end
end Go.aK
end
section
namespace Go.aK
open Go Go.Sem
section
variable {P:Program}{n:Nat}{w0:World}{zs:List aR}{hs:List aC}{L:List (Nat×Value)}{d:Option Tmp}{ty t:TypeId}{pos:String}{af:Array Edge}{g:Option (Nat×Bool)}{x y:Operand}{v:Value}
theorem FN[a1]{e:TypeId}{s bu:Nat}{zv:Value}(aN:ba P t (.slice e) s bu zv){de:TypeDesc}{be:Nat}{ze:Value}(cr:ba P e de 1 be ze){m:Nat}(h1:aW L x=some (aA (m:Int)))(ar:aW L y=some (aA (m:Int)))(aw:be*m≤140737488355328)(hm:m≤140737488355328)(cH:ze.oneCell'=true) :
  fJ P n w0 zs hs L ⟨d,.makeSlice t x y,ty,pos,af,g⟩ (fun v zs' hs'=>zs'=zs∧hs'=.row v e 1 m (List.replicate m ze)::hs):=
 ka fun a bg w hw=>by
  have fH:=hw.newRow e (List.replicate m ze) 1 m m (by simp) (Nat.le_refl _) (by unfold maxLen;omega)
  rw [List.take_of_length_le (by simp)] at fH
  refine ⟨_,zs,_,_,.inl ?_,⟨rfl,rfl⟩,fH⟩
  have bq:ze.cells=#[ze]:=by cases ze <;> first | rfl | (simp [Value.oneCell'] at cH)
  obtain ⟨i,aH,kI,sU,aaR⟩:=cr.SH w
  have pU:IntKind.i64.wrap (m:Int)=m:=by
   simp [IntKind.wrap,IntKind.bits,IntKind.signed]
   omega
  have G5:((be:Int)*(m:Int))=((be*m:Nat):Int):=by simp
  have G3:¬ ((m:Int)<0∨(i.bytes:Int)*m>2^48):=by rw [sU,G5];omega
  simp only [execOp,bg.eval h1,bg.eval ar]
  have aY:(Instr.makeSlice t (aA m) (aA m)).run P w=.ok (.slice (some ⟨w.heap.size,0,none⟩) m m) { w with heap:=w.heap.push (.cells (List.replicate m ze).toArray e (0,0)) }:=by
   unfold Instr.makeSlice
   rw [Sem.run_bind,run_underlying aN.und]
   simp only [Result.andThen_ok]
   have bg:(asIntOf (aA (m:Int))).run P w=.ok (.i64,(m:Int)) w:=by simp [asIntOf,aA]
   simp only [asInt,Sem.run_bind,Sem.run_map,bg,Sem.run_pure,Result.andThen_ok,aH,pU]
   have vh:¬ ((m:Int).toNat*i.bytes>roomBytes):=by
    rw [sU,Int.toNat_natCast,Nat.mul_comm]
    unfold roomBytes
    omega
   have aT:(decide ((m:Int)<0) || decide ((i.bytes:Int)*m>2^48))=false:=by
    simpa using G3
   have rE:¬ ((m:Int)<0):=by omega
   simp only [aT,rE,Bool.false_eq_true,false_or,gt_iff_lt,Int.lt_irrefl,if_false,decide_false,Bool.false_or,or_self,if_neg,not_false_eq_true,Sem.run_bind,Sem.run_pure,Result.andThen_ok]
   unfold askRoom
   rw [if_neg vh]
   simp only [Sem.run_bind,Sem.run_pure,Result.andThen_ok,cr.sizeOf,Nat.mul_one,Int.toNat_natCast]
   by_cases h0:m=0
   ·subst h0
    have jU:∀ f:Nat→Value,Array.map f (Array.range 0)=#[]:=fun f=>Array.eq_empty_of_size_eq_zero (by simp)
    simp [newRow,jU,cr.sizeOf]
   ·have gK:decide ((2:Int)^48<(i.bytes:Int)*m)=false:=by
     rw [decide_eq_false_iff_not]
     omega
    rw [if_neg (by rw [gK];decide)]
    simp only [Sem.run_bind,Sem.run_pure,Result.andThen_ok,cr.sizeOf,Nat.mul_one]
    rw [if_neg h0]
    simp only [Sem.run_bind,Sem.run_pure,cr.zero,Result.andThen_ok,bq]
    have jU:Array.map (fun x=>#[ze][x % #[ze].size]!) (Array.range m)=(List.replicate m ze).toArray:=by
     apply Array.ext'
     apply List.ext_getElem (by simp)
     intro j h1 ar
     simp [Nat.mod_one]
    rw [jU]
    simp [newRow]
  rw [Sem.run_bind,aY]
  rfl
theorem hJ[a1]{fs:List Field}{s bu:Nat}{zv:Value}(aN:ba P t (.struct fs.toArray) s bu zv){places:List (Nat×Nat)}(bO:(fs.mapM fun f=>(P.info? f.type).map fun i=>(f.offset,i.size))=some places){parts:Array (Nat×Operand)}{vs cells:List Value}(h1:iP L (parts.toList.map (·.2))=some vs)
  (bw:Instr.fill (places.toArray[·]?) zv.cells (List.zip (parts.toList.map (·.1)) vs)=some cells.toArray) :
  bR P n w0 zs hs L ⟨d,.build t parts,ty,pos,af,g⟩ (.agg cells.toArray):=
 qP (xo _ _ h1) (Jk aN bO bw)
end
theorem Iy:∀ c∈([]:List (List Value)),∀ v∈c,v.oneCell'=true:=fun _ h=>by cases h
theorem Dt{c:List Value}{cs:List (List Value)}(h1:∀ v∈c,v.oneCell'=true)(ar:∀ c∈cs,∀ v∈c,v.oneCell'=true):∀ d∈c::cs,∀ v∈d,v.oneCell'=true:=fun d aT=>(List.mem_cons.1 aT).elim (fun e=>e ▸ h1) (ar d)
theorem aew{cs:List (List Value)}(h:∀ c∈cs,∀ v∈c,v.oneCell'=true):∀ v∈cs.flatten,v.oneCell'=true:=fun v bA=>by
 obtain ⟨c,bq,bA⟩:=List.mem_flatten.1 bA
 exact h c bq v bA
def FP:ej (List (List Value)×List Int×List Bool) where
 size:=3
 rep z x c:=∃ nv sv bv,c=[nv,sv,bv]∧bo (WT 2) z nv x.1∧bo encI z sv x.2.1∧bo sz z bv x.2.2
 mono bj h:=by obtain ⟨nv,sv,bv,h1,ar,aQ,bF⟩:=h;exact ⟨nv,sv,bv,h1,ar.mono bj,aQ.mono bj,bF.mono bj⟩
 len h:=by obtain ⟨nv,sv,bv,h1,_⟩:=h;rw [h1];rfl
 one h u hu:=by
  obtain ⟨nv,sv,bv,h1,ar,aQ,bF⟩:=h
  rw [h1] at hu
  simp only [List.mem_cons,List.not_mem_nil,or_false] at hu
  rcases hu with rfl | rfl | rfl
  ·exact mP ar
  ·exact mP aQ
  ·exact mP bF
section
variable {P:Program}{n:Nat}{w0:World}{zs:List aR}{hs:List aC}{L:List (Nat×Value)}{d:Option Tmp}{ty t:TypeId}{pos:String}{af:Array Edge}{g:Option (Nat×Bool)}{x y:Operand}{v:Value}
end
section
variable {P:Program}{n:Nat}{w0:World}{zs:List aR}{hs:List aC}{L:List (Nat×Value)}{d:Option Tmp}{ty t:TypeId}{pos:String}{af:Array Edge}{g:Option (Nat×Bool)}{x y:Operand}{v:Value}
end
def nU(z:aR):List (List Value)→List (List (List Value)×List Int×List Bool)→Prop
 | [],[]=>True
 | c::cs,x::xs=>FP.rep z x c∧nU z cs xs
 | _,_=>False
theorem nU.get{z:aR}:∀ {cs:List (List Value)}{xs:List (List (List Value)×List Int×List Bool)},nU z cs xs→∀ (i:Nat) (x:List (List Value)×List Int×List Bool),xs[i]?=some x→∃ c,cs[i]?=some c∧FP.rep z x c
 | [],[],_,i,x,aM=>by simp at aM
 | v::vs,y::xs,h,0,x,aM=>by
  simp only [List.getElem?_cons_zero,Option.some.injEq] at aM
  subst aM
  exact ⟨v,rfl,h.1⟩
 | v::vs,y::xs,h,i+1,x,aM=>by
  simp only [List.getElem?_cons_succ] at aM ⊢
  exact nU.get h.2 i x aM
theorem nU.all{z:aR}:∀ {cs:List (List Value)}{xs:List (List (List Value)×List Int×List Bool)},nU z cs xs→∀ c∈cs,c.length=3
 | [],[],_,c,bq=>by cases bq
 | v::vs,y::xs,h,c,bq=>by
  rcases List.mem_cons.1 bq with rfl | bq
  ·exact FP.len h.1
  ·exact nU.all h.2 c bq
end Go.aK
end
section
namespace Go.aK
theorem aI{p:Prop}(h:p:=by first | omega | (rw [List.length_map];omega) | (simp;omega) | (simp [*];done) | decide | (simp [*];omega)):p:=h
theorem az{p:Prop}(h:p:=by kernel_rfl):p:=h
theorem aq{p q:Prop}(h:p:=by kernel_rfl):p∨q:=.inl h
theorem bM{vs:List Value}(h:∀ v∈vs,v.oneCell'=true:=by first | ((repeat first | ((with_reducible refine aey ?_);intro _;rfl) | (with_reducible refine aex ?_ ?_) | ((with_reducible refine bp ?_ ?_);rfl) | (with_reducible exact dO) | ((with_reducible refine aez ?_);rfl));done) | (simp [Value.oneCell'];done) | (simp;decide)):∀ v∈vs,v.oneCell'=true:=h
theorem ay{α:Type}{l:List α}:[].Sublist l:=List.nil_sublist _
theorem al{α:Type}{l:List α}:l.Sublist l:=List.Sublist.refl _
theorem _root_.List.Sublist.k{α:Type}{x:α}{l m:List α}(h:l.Sublist m):(x::l).Sublist (x::m):=h.cons_cons x
theorem _root_.List.Sublist.n{α:Type}{x:α}{l m:List α}(h:l.Sublist m):l.Sublist (x::m):=h.cons x
theorem aB.ax{w0 w:World}{zs:List aR}{hs:List aC}(h:aB w0 zs hs w):aB w0 [] [] w:=h.ao ay ay
theorem aB.ew{w0 w:World}{zs:List aR}{hs hs':List aC}(h:aB w0 zs hs w)(ar:hs'.Sublist hs):aB w0 [] hs' w:=h.ao ay ar
section
variable {P:Program}{J:Act→World→Prop}{n:Nat}{w0:World}{L:List (Nat×Value)}
theorem bY[a1]{l:List Oper}{f:Nat}{W:kZ}{ls:Array Bool}{a:Act}{w:World}(i:Nat){js:Array Bool}{d:Option Tmp}{op:Op}{ty:TypeId}{pos:String}{af:Array Edge}{zs:List aR}{hs:List aC}{K:Value→List aR→List aC→Prop}
  (aH:l[i]?=some ⟨d,op,ty,pos,af,none⟩) (m5:ls.setIfInBounds i true=js) (ab:Fr n L a) (U:aB w0 zs hs w) (aT:(match d with | some k=>Nat.blt k n | none=>true)=true) (e:fJ P n w0 zs hs L ⟨d,op,ty,pos,af,none⟩ K)
  (h:∀ v zs' hs' a w,K v zs' hs'→Fr n (lh d v L) a→aB w0 zs' hs' w→hG .any l.toArray js w [] W∧nw P l.toArray J f W js a w) (aY:Region.ready .any l.toArray ls=[i]:=by kernel_rfl):nw P l.toArray J (f+1) W ls a w:=
 fB [i] aY rfl ⟨dW js aH m5 ab U aT e h,trivial⟩
end
end Go.aK
end
namespace Go.aK
section
variable {w0 w:World}{zs:List aR}{hs:List aC}
theorem aei{α:Type}(j:Nat)(l:List α):((l.drop j).take 1++(l.take j++l.drop (j+1))).Perm l:=by
  induction l generalizing j with
  | nil=>simp
  | cons a l ih=>
    cases j with
    | zero=>simp
    | succ j=>
      refine List.Perm.trans (List.perm_middle (a:=a) (l₁:=(l.drop j).take 1) (l₂:=l.take j++l.drop (j+1))) ((ih j).cons a)
def It{α:Type}:Nat→Nat→List α→List α
  | 0,j,l=>(l.drop j).take 1++(l.take j++l.drop (j+1))
  | i+1,j,a::l=>a::It i j l
  | _+1,_,[]=>[]
theorem PW{α:Type}:∀ (i j:Nat) (l:List α),(It i j l).Perm l
  | 0,j,l=>aei j l
  | i+1,j,a::l=>(PW i j l).cons a
  | _+1,_,[]=>.nil
theorem cL{α:Type}{l m:List α}(i j:Nat)(h:It i j l=m:=by rfl):m.Perm l:=h ▸ PW i j l
theorem aB.dp(h:aB w0 zs hs w)(i:Nat){r:aC}(e:hs[i]?=some r):r.ok w0.heap.size w:=(h.own r (List.mem_of_getElem? e)).1
theorem b4{n m:Nat}(h:Nat.ble n m=true:=by rfl):n≤m:=Nat.le_of_ble_eq_true h
theorem dd:(∀ (α:Type) (a b:α) (l:List α),(a::l).set 0 b=b::l)∧(∀ (α:Type) (a b:α) (l:List α) (n:Nat),(a::l).set (n+1) b=a::l.set n b):=⟨fun _ _ _ _=>rfl,fun _ _ _ _ _=>rfl⟩
theorem bP{α β γ:Type}{K:α→β→γ→Prop}:∀ a b c,K a b c→K a b c:=fun _ _ _ h=>h
theorem aB.c1(h:aB w0 zs hs w):∃ h,h=hs∧aB w0 zs h w:=⟨_,rfl,h⟩
theorem aB.aeR(h:aB w0 zs hs w):∃ z,z=zs∧aB w0 z hs w:=⟨_,rfl,h⟩
end
section
variable {α:Type}{a b c d e f g h i j k m n o p q r s t u v:α}{l:List α}
theorem c2:l.Sublist (a::l):=al.n
theorem fO:l.Sublist (a::b::l):=al.n.n
theorem eS:l.Sublist (a::b::c::l):=al.n.n.n
theorem e8:l.Sublist (a::b::c::d::l):=al.n.n.n.n
theorem mf:l.Sublist (a::b::c::d::e::f::l):=al.n.n.n.n.n.n
theorem im:l.Sublist (a::b::c::d::e::f::g::l):=al.n.n.n.n.n.n.n
theorem e3:l.Sublist (a::b::c::d::e::f::g::h::l):=al.n.n.n.n.n.n.n.n
theorem dG:l.Sublist (a::b::c::d::e::f::g::h::i::l):=al.n.n.n.n.n.n.n.n.n
theorem bQ:l.Sublist (a::b::c::d::e::f::g::h::i::j::l):=al.n.n.n.n.n.n.n.n.n.n
theorem oy:l.Sublist (a::b::c::d::e::f::g::h::i::j::k::l):=al.n.n.n.n.n.n.n.n.n.n.n
theorem mL:l.Sublist (a::b::c::d::e::f::g::h::i::j::k::m::l):=al.n.n.n.n.n.n.n.n.n.n.n.n
theorem p6:l.Sublist (a::b::c::d::e::f::g::h::i::j::k::m::n::l):=al.n.n.n.n.n.n.n.n.n.n.n.n.n
theorem tJ:l.Sublist (a::b::c::d::e::f::g::h::i::j::k::m::n::o::l):=al.n.n.n.n.n.n.n.n.n.n.n.n.n.n
theorem tK:l.Sublist (a::b::c::d::e::f::g::h::i::j::k::m::n::o::p::q::r::s::l):=al.n.n.n.n.n.n.n.n.n.n.n.n.n.n.n.n.n.n
theorem lg:l.Sublist (a::b::c::d::e::f::g::h::i::j::k::m::n::o::p::q::r::s::t::l):=al.n.n.n.n.n.n.n.n.n.n.n.n.n.n.n.n.n.n.n
theorem dw:l.Sublist (a::b::c::d::e::f::g::h::i::j::k::m::n::o::p::q::r::s::t::u::l):=al.n.n.n.n.n.n.n.n.n.n.n.n.n.n.n.n.n.n.n.n
theorem gW:l.Sublist (a::b::c::d::e::f::g::h::i::j::k::m::n::o::p::q::r::s::t::u::v::l):=al.n.n.n.n.n.n.n.n.n.n.n.n.n.n.n.n.n.n.n.n.n
theorem nV:(c::a::b::l).Perm (a::b::c::l):=cL 0 2
theorem q2:(d::a::b::c::l).Perm (a::b::c::d::l):=cL 0 3
theorem kD:(e::a::b::c::d::l).Perm (a::b::c::d::e::l):=cL 0 4
theorem qd:(f::a::b::c::d::e::l).Perm (a::b::c::d::e::f::l):=cL 0 5
theorem EU:(g::a::b::c::d::e::f::l).Perm (a::b::c::d::e::f::g::l):=cL 0 6
theorem yq:(h::a::b::c::d::e::f::g::l).Perm (a::b::c::d::e::f::g::h::l):=cL 0 7
theorem q3:(i::a::b::c::d::e::f::g::h::l).Perm (a::b::c::d::e::f::g::h::i::l):=cL 0 8
theorem Ku:(j::a::b::c::d::e::f::g::h::i::l).Perm (a::b::c::d::e::f::g::h::i::j::l):=cL 0 9
theorem Kv:(k::a::b::c::d::e::f::g::h::i::j::l).Perm (a::b::c::d::e::f::g::h::i::j::k::l):=cL 0 10
theorem Uj:(m::a::b::c::d::e::f::g::h::i::j::k::l).Perm (a::b::c::d::e::f::g::h::i::j::k::m::l):=cL 0 11
theorem Ks:(n::a::b::c::d::e::f::g::h::i::j::k::m::l).Perm (a::b::c::d::e::f::g::h::i::j::k::m::n::l):=cL 0 12
theorem Kt:(o::a::b::c::d::e::f::g::h::i::j::k::m::n::l).Perm (a::b::c::d::e::f::g::h::i::j::k::m::n::o::l):=cL 0 13
theorem Uk:(p::a::b::c::d::e::f::g::h::i::j::k::m::n::o::l).Perm (a::b::c::d::e::f::g::h::i::j::k::m::n::o::p::l):=cL 0 14
theorem Ul:(q::a::b::c::d::e::f::g::h::i::j::k::m::n::o::p::l).Perm (a::b::c::d::e::f::g::h::i::j::k::m::n::o::p::q::l):=cL 0 15
theorem ET:(t::a::b::c::d::e::f::g::h::i::j::k::m::n::o::p::q::r::s::l).Perm (a::b::c::d::e::f::g::h::i::j::k::m::n::o::p::q::r::s::t::l):=cL 0 18
theorem Um:(u::a::b::c::d::e::f::g::h::i::j::k::m::n::o::p::q::r::s::t::l).Perm (a::b::c::d::e::f::g::h::i::j::k::m::n::o::p::q::r::s::t::u::l):=cL 0 19
theorem Un:(v::a::b::c::d::e::f::g::h::i::j::k::m::n::o::p::q::r::s::t::u::l).Perm (a::b::c::d::e::f::g::h::i::j::k::m::n::o::p::q::r::s::t::u::v::l):=cL 0 20
theorem hN:(a::c::b::l).Perm (a::b::c::l):=cL 1 1
theorem mX:(a::d::b::c::l).Perm (a::b::c::d::l):=cL 1 2
theorem ua:(a::e::b::c::d::l).Perm (a::b::c::d::e::l):=cL 1 3
theorem ln:(a::f::b::c::d::e::l).Perm (a::b::c::d::e::f::l):=cL 1 4
theorem q4:(a::g::b::c::d::e::f::l).Perm (a::b::c::d::e::f::g::l):=cL 1 5
theorem Bv:(a::h::b::c::d::e::f::g::l).Perm (a::b::c::d::e::f::g::h::l):=cL 1 6
theorem Bw:(a::i::b::c::d::e::f::g::h::l).Perm (a::b::c::d::e::f::g::h::i::l):=cL 1 7
theorem qe:(a::j::b::c::d::e::f::g::h::i::l).Perm (a::b::c::d::e::f::g::h::i::j::l):=cL 1 8
theorem KG:(a::k::b::c::d::e::f::g::h::i::j::l).Perm (a::b::c::d::e::f::g::h::i::j::k::l):=cL 1 9
theorem KD:(a::m::b::c::d::e::f::g::h::i::j::k::l).Perm (a::b::c::d::e::f::g::h::i::j::k::m::l):=cL 1 10
theorem Uo:(a::n::b::c::d::e::f::g::h::i::j::k::m::l).Perm (a::b::c::d::e::f::g::h::i::j::k::m::n::l):=cL 1 11
theorem KE:(a::o::b::c::d::e::f::g::h::i::j::k::m::n::l).Perm (a::b::c::d::e::f::g::h::i::j::k::m::n::o::l):=cL 1 12
theorem KF:(a::p::b::c::d::e::f::g::h::i::j::k::m::n::o::l).Perm (a::b::c::d::e::f::g::h::i::j::k::m::n::o::p::l):=cL 1 13
theorem Up:(a::q::b::c::d::e::f::g::h::i::j::k::m::n::o::p::l).Perm (a::b::c::d::e::f::g::h::i::j::k::m::n::o::p::q::l):=cL 1 14
theorem Uq:(a::r::b::c::d::e::f::g::h::i::j::k::m::n::o::p::q::l).Perm (a::b::c::d::e::f::g::h::i::j::k::m::n::o::p::q::r::l):=cL 1 15
theorem EW:(a::u::b::c::d::e::f::g::h::i::j::k::m::n::o::p::q::r::s::t::l).Perm (a::b::c::d::e::f::g::h::i::j::k::m::n::o::p::q::r::s::t::u::l):=cL 1 18
theorem j6:(a::b::d::c::l).Perm (a::b::c::d::l):=cL 2 1
theorem pv:(a::b::e::c::d::l).Perm (a::b::c::d::e::l):=cL 2 2
theorem vW:(a::b::f::c::d::e::l).Perm (a::b::c::d::e::f::l):=cL 2 3
theorem lp:(a::b::g::c::d::e::f::l).Perm (a::b::c::d::e::f::g::l):=cL 2 4
theorem vX:(a::b::h::c::d::e::f::g::l).Perm (a::b::c::d::e::f::g::h::l):=cL 2 5
theorem KJ:(a::b::i::c::d::e::f::g::h::l).Perm (a::b::c::d::e::f::g::h::i::l):=cL 2 6
theorem EX:(a::b::j::c::d::e::f::g::h::i::l).Perm (a::b::c::d::e::f::g::h::i::j::l):=cL 2 7
theorem q5:(a::b::k::c::d::e::f::g::h::i::j::l).Perm (a::b::c::d::e::f::g::h::i::j::k::l):=cL 2 8
theorem Ur:(a::b::m::c::d::e::f::g::h::i::j::k::l).Perm (a::b::c::d::e::f::g::h::i::j::k::m::l):=cL 2 9
theorem KH:(a::b::p::c::d::e::f::g::h::i::j::k::m::n::o::l).Perm (a::b::c::d::e::f::g::h::i::j::k::m::n::o::p::l):=cL 2 12
theorem KI:(a::b::q::c::d::e::f::g::h::i::j::k::m::n::o::p::l).Perm (a::b::c::d::e::f::g::h::i::j::k::m::n::o::p::q::l):=cL 2 13
theorem Us:(a::b::r::c::d::e::f::g::h::i::j::k::m::n::o::p::q::l).Perm (a::b::c::d::e::f::g::h::i::j::k::m::n::o::p::q::r::l):=cL 2 14
theorem Ut:(a::b::s::c::d::e::f::g::h::i::j::k::m::n::o::p::q::r::l).Perm (a::b::c::d::e::f::g::h::i::j::k::m::n::o::p::q::r::s::l):=cL 2 15
theorem km:(a::b::c::e::d::l).Perm (a::b::c::d::e::l):=cL 3 1
theorem qf:(a::b::c::f::d::e::l).Perm (a::b::c::d::e::f::l):=cL 3 2
theorem vY:(a::b::c::g::d::e::f::l).Perm (a::b::c::d::e::f::g::l):=cL 3 3
theorem lV:(a::b::c::h::d::e::f::g::l).Perm (a::b::c::d::e::f::g::h::l):=cL 3 4
theorem vZ:(a::b::c::i::d::e::f::g::h::l).Perm (a::b::c::d::e::f::g::h::i::l):=cL 3 5
theorem KM:(a::b::c::j::d::e::f::g::h::i::l).Perm (a::b::c::d::e::f::g::h::i::j::l):=cL 3 6
theorem EY:(a::b::c::k::d::e::f::g::h::i::j::l).Perm (a::b::c::d::e::f::g::h::i::j::k::l):=cL 3 7
theorem q6:(a::b::c::m::d::e::f::g::h::i::j::k::l).Perm (a::b::c::d::e::f::g::h::i::j::k::m::l):=cL 3 8
theorem Uu:(a::b::c::n::d::e::f::g::h::i::j::k::m::l).Perm (a::b::c::d::e::f::g::h::i::j::k::m::n::l):=cL 3 9
theorem KK:(a::b::c::q::d::e::f::g::h::i::j::k::m::n::o::p::l).Perm (a::b::c::d::e::f::g::h::i::j::k::m::n::o::p::q::l):=cL 3 12
theorem KL:(a::b::c::r::d::e::f::g::h::i::j::k::m::n::o::p::q::l).Perm (a::b::c::d::e::f::g::h::i::j::k::m::n::o::p::q::r::l):=cL 3 13
theorem Uv:(a::b::c::s::d::e::f::g::h::i::j::k::m::n::o::p::q::r::l).Perm (a::b::c::d::e::f::g::h::i::j::k::m::n::o::p::q::r::s::l):=cL 3 14
theorem Uw:(a::b::c::t::d::e::f::g::h::i::j::k::m::n::o::p::q::r::s::l).Perm (a::b::c::d::e::f::g::h::i::j::k::m::n::o::p::q::r::s::t::l):=cL 3 15
theorem pw:(a::b::c::d::f::e::l).Perm (a::b::c::d::e::f::l):=cL 4 1
theorem uc:(a::b::c::d::g::e::f::l).Perm (a::b::c::d::e::f::g::l):=cL 4 2
theorem ud:(a::b::c::d::i::e::f::g::h::l).Perm (a::b::c::d::e::f::g::h::i::l):=cL 4 4
theorem Bx:(a::b::c::d::j::e::f::g::h::i::l).Perm (a::b::c::d::e::f::g::h::i::j::l):=cL 4 5
theorem Uz:(a::b::c::d::k::e::f::g::h::i::j::l).Perm (a::b::c::d::e::f::g::h::i::j::k::l):=cL 4 6
theorem KN:(a::b::c::d::m::e::f::g::h::i::j::k::l).Perm (a::b::c::d::e::f::g::h::i::j::k::m::l):=cL 4 7
theorem KO:(a::b::c::d::n::e::f::g::h::i::j::k::m::l).Perm (a::b::c::d::e::f::g::h::i::j::k::m::n::l):=cL 4 8
theorem Ux:(a::b::c::d::o::e::f::g::h::i::j::k::m::n::l).Perm (a::b::c::d::e::f::g::h::i::j::k::m::n::o::l):=cL 4 9
theorem KP:(a::b::c::d::r::e::f::g::h::i::j::k::m::n::o::p::q::l).Perm (a::b::c::d::e::f::g::h::i::j::k::m::n::o::p::q::r::l):=cL 4 12
theorem KQ:(a::b::c::d::s::e::f::g::h::i::j::k::m::n::o::p::q::r::l).Perm (a::b::c::d::e::f::g::h::i::j::k::m::n::o::p::q::r::s::l):=cL 4 13
theorem Uy:(a::b::c::d::u::e::f::g::h::i::j::k::m::n::o::p::q::r::s::t::l).Perm (a::b::c::d::e::f::g::h::i::j::k::m::n::o::p::q::r::s::t::u::l):=cL 4 15
theorem qg:(a::b::c::d::e::g::f::l).Perm (a::b::c::d::e::f::g::l):=cL 5 1
theorem qh:(a::b::c::d::e::h::f::g::l).Perm (a::b::c::d::e::f::g::h::l):=cL 5 2
theorem yr:(a::b::c::d::e::i::f::g::h::l).Perm (a::b::c::d::e::f::g::h::i::l):=cL 5 3
theorem EZ:(a::b::c::d::e::j::f::g::h::i::l).Perm (a::b::c::d::e::f::g::h::i::j::l):=cL 5 4
theorem UA:(a::b::c::d::e::m::f::g::h::i::j::k::l).Perm (a::b::c::d::e::f::g::h::i::j::k::m::l):=cL 5 6
theorem KR:(a::b::c::d::e::n::f::g::h::i::j::k::m::l).Perm (a::b::c::d::e::f::g::h::i::j::k::m::n::l):=cL 5 7
theorem KS:(a::b::c::d::e::o::f::g::h::i::j::k::m::n::l).Perm (a::b::c::d::e::f::g::h::i::j::k::m::n::o::l):=cL 5 8
theorem UB:(a::b::c::d::e::p::f::g::h::i::j::k::m::n::o::l).Perm (a::b::c::d::e::f::g::h::i::j::k::m::n::o::p::l):=cL 5 9
theorem KT:(a::b::c::d::e::s::f::g::h::i::j::k::m::n::o::p::q::r::l).Perm (a::b::c::d::e::f::g::h::i::j::k::m::n::o::p::q::r::s::l):=cL 5 12
theorem KU:(a::b::c::d::e::t::f::g::h::i::j::k::m::n::o::p::q::r::s::l).Perm (a::b::c::d::e::f::g::h::i::j::k::m::n::o::p::q::r::s::t::l):=cL 5 13
theorem UC:(a::b::c::d::e::v::f::g::h::i::j::k::m::n::o::p::q::r::s::t::u::l).Perm (a::b::c::d::e::f::g::h::i::j::k::m::n::o::p::q::r::s::t::u::v::l):=cL 5 15
theorem q7:(a::b::c::d::e::f::h::g::l).Perm (a::b::c::d::e::f::g::h::l):=cL 6 1
theorem ue:(a::b::c::d::e::f::i::g::h::l).Perm (a::b::c::d::e::f::g::h::i::l):=cL 6 2
theorem v7:(a::b::c::d::e::f::j::g::h::i::l).Perm (a::b::c::d::e::f::g::h::i::j::l):=cL 6 3
theorem KZ:(a::b::c::d::e::f::k::g::h::i::j::l).Perm (a::b::c::d::e::f::g::h::i::j::k::l):=cL 6 4
theorem KV:(a::b::c::d::e::f::o::g::h::i::j::k::m::n::l).Perm (a::b::c::d::e::f::g::h::i::j::k::m::n::o::l):=cL 6 7
theorem KW:(a::b::c::d::e::f::p::g::h::i::j::k::m::n::o::l).Perm (a::b::c::d::e::f::g::h::i::j::k::m::n::o::p::l):=cL 6 8
theorem UD:(a::b::c::d::e::f::s::g::h::i::j::k::m::n::o::p::q::r::l).Perm (a::b::c::d::e::f::g::h::i::j::k::m::n::o::p::q::r::s::l):=cL 6 11
theorem KX:(a::b::c::d::e::f::t::g::h::i::j::k::m::n::o::p::q::r::s::l).Perm (a::b::c::d::e::f::g::h::i::j::k::m::n::o::p::q::r::s::t::l):=cL 6 12
theorem KY:(a::b::c::d::e::f::u::g::h::i::j::k::m::n::o::p::q::r::s::t::l).Perm (a::b::c::d::e::f::g::h::i::j::k::m::n::o::p::q::r::s::t::u::l):=cL 6 13
theorem q8:(a::b::c::d::e::f::g::i::h::l).Perm (a::b::c::d::e::f::g::h::i::l):=cL 7 1
theorem yt:(a::b::c::d::e::f::g::j::h::i::l).Perm (a::b::c::d::e::f::g::h::i::j::l):=cL 7 2
theorem K2:(a::b::c::d::e::f::g::k::h::i::j::l).Perm (a::b::c::d::e::f::g::h::i::j::k::l):=cL 7 3
theorem K0:(a::b::c::d::e::f::g::m::h::i::j::k::l).Perm (a::b::c::d::e::f::g::h::i::j::k::m::l):=cL 7 4
theorem E0:(a::b::c::d::e::f::g::q::h::i::j::k::m::n::o::p::l).Perm (a::b::c::d::e::f::g::h::i::j::k::m::n::o::p::q::l):=cL 7 8
theorem UE:(a::b::c::d::e::f::g::t::h::i::j::k::m::n::o::p::q::r::s::l).Perm (a::b::c::d::e::f::g::h::i::j::k::m::n::o::p::q::r::s::t::l):=cL 7 11
theorem K1:(a::b::c::d::e::f::g::u::h::i::j::k::m::n::o::p::q::r::s::t::l).Perm (a::b::c::d::e::f::g::h::i::j::k::m::n::o::p::q::r::s::t::u::l):=cL 7 12
theorem UF:(a::b::c::d::e::f::g::v::h::i::j::k::m::n::o::p::q::r::s::t::u::l).Perm (a::b::c::d::e::f::g::h::i::j::k::m::n::o::p::q::r::s::t::u::v::l):=cL 7 13
theorem yu:(a::b::c::d::e::f::g::h::j::i::l).Perm (a::b::c::d::e::f::g::h::i::j::l):=cL 8 1
theorem By:(a::b::c::d::e::f::g::h::k::i::j::l).Perm (a::b::c::d::e::f::g::h::i::j::k::l):=cL 8 2
theorem K3:(a::b::c::d::e::f::g::h::m::i::j::k::l).Perm (a::b::c::d::e::f::g::h::i::j::k::m::l):=cL 8 3
theorem E1:(a::b::c::d::e::f::g::h::r::i::j::k::m::n::o::p::q::l).Perm (a::b::c::d::e::f::g::h::i::j::k::m::n::o::p::q::r::l):=cL 8 8
theorem yv:(a::b::c::d::e::f::g::h::i::k::j::l).Perm (a::b::c::d::e::f::g::h::i::j::k::l):=cL 9 1
theorem Bz:(a::b::c::d::e::f::g::h::i::m::j::k::l).Perm (a::b::c::d::e::f::g::h::i::j::k::m::l):=cL 9 2
theorem K4:(a::b::c::d::e::f::g::h::i::n::j::k::m::l).Perm (a::b::c::d::e::f::g::h::i::j::k::m::n::l):=cL 9 3
theorem E2:(a::b::c::d::e::f::g::h::i::s::j::k::m::n::o::p::q::r::l).Perm (a::b::c::d::e::f::g::h::i::j::k::m::n::o::p::q::r::s::l):=cL 9 8
theorem EV:(a::b::c::d::e::f::g::h::i::j::n::k::m::l).Perm (a::b::c::d::e::f::g::h::i::j::k::m::n::l):=cL 10 2
theorem Kw:(a::b::c::d::e::f::g::h::i::j::t::k::m::n::o::p::q::r::s::l).Perm (a::b::c::d::e::f::g::h::i::j::k::m::n::o::p::q::r::s::t::l):=cL 10 8
theorem Kx:(a::b::c::d::e::f::g::h::i::j::k::p::m::n::o::l).Perm (a::b::c::d::e::f::g::h::i::j::k::m::n::o::p::l):=cL 11 3
theorem Ky:(a::b::c::d::e::f::g::h::i::j::k::m::q::n::o::p::l).Perm (a::b::c::d::e::f::g::h::i::j::k::m::n::o::p::q::l):=cL 12 3
theorem Kz:(a::b::c::d::e::f::g::h::i::j::k::m::n::r::o::p::q::l).Perm (a::b::c::d::e::f::g::h::i::j::k::m::n::o::p::q::r::l):=cL 13 3
theorem KA:(a::b::c::d::e::f::g::h::i::j::k::m::n::o::s::p::q::r::l).Perm (a::b::c::d::e::f::g::h::i::j::k::m::n::o::p::q::r::s::l):=cL 14 3
theorem KB:(a::b::c::d::e::f::g::h::i::j::k::m::n::o::p::t::q::r::s::l).Perm (a::b::c::d::e::f::g::h::i::j::k::m::n::o::p::q::r::s::t::l):=cL 15 3
theorem KC:(a::b::c::d::e::f::g::h::i::j::k::m::n::o::p::q::u::r::s::t::l).Perm (a::b::c::d::e::f::g::h::i::j::k::m::n::o::p::q::r::s::t::u::l):=cL 16 3
end
section
variable {w0 w:World}{zs:List aR}{hs:List aC}
variable {z0:aR}{h0 h1 ar aQ bF cO dR fh dJ cA l0 oR sB sC sD sE jE sF sG sH Cl:aC}
theorem ic(h:aB w0 [] [] w):aB w0 [] [] w:=h
theorem ft(h:aB w0 [] [h0] w):aB w0 [] [h0] w:=h
theorem e7(h:aB w0 [] [h0,h1] w):aB w0 [] [h0,h1] w:=h
theorem eU(h:aB w0 [] [h0,h1,ar] w):aB w0 [] [h0,h1,ar] w:=h
theorem jt(h:aB w0 [] [h0,h1,ar,aQ] w):aB w0 [] [h0,h1,ar,aQ] w:=h
theorem na(h:aB w0 [] [h0,h1,ar,aQ,bF] w):aB w0 [] [h0,h1,ar,aQ,bF] w:=h
theorem qH(h:aB w0 [] [h0,h1,ar,aQ,bF,cO,dR,fh,dJ,cA,l0,oR] w):aB w0 [] [h0,h1,ar,aQ,bF,cO,dR,fh,dJ,cA,l0,oR] w:=h
theorem lJ(h:aB w0 [z0] [h0,h1] w):aB w0 [z0] [h0,h1] w:=h
theorem p0(h:aB w0 [z0] [h0,h1,ar] w):aB w0 [z0] [h0,h1,ar] w:=h
theorem rR(h:aB w0 [z0] [h0,h1,ar,aQ,bF] w):aB w0 [z0] [h0,h1,ar,aQ,bF] w:=h
theorem pZ(h:aB w0 [z0] [h0,h1,ar,aQ,bF,cO,dR,fh,dJ,cA,l0,oR,sB,sC,sD,sE,jE,sF,sG,sH] w):aB w0 [z0] [h0,h1,ar,aQ,bF,cO,dR,fh,dJ,cA,l0,oR,sB,sC,sD,sE,jE,sF,sG,sH] w:=h
theorem qI(h:aB w0 [z0] [h0,h1,ar,aQ,bF,cO,dR,fh,dJ,cA,l0,oR,sB,sC,sD,sE,jE,sF,sG,sH,Cl] w):aB w0 [z0] [h0,h1,ar,aQ,bF,cO,dR,fh,dJ,cA,l0,oR,sB,sC,sD,sE,jE,sF,sG,sH,Cl] w:=h
theorem gU(h:aB w0 (zs) (h0::h1::hs) w):aB w0 (zs) (h0::h1::hs) w:=h
theorem lK(h:aB w0 (zs) (h0::h1::ar::hs) w):aB w0 (zs) (h0::h1::ar::hs) w:=h
theorem fX(h:aB w0 (zs) (h0::h1::ar::aQ::hs) w):aB w0 (zs) (h0::h1::ar::aQ::hs) w:=h
theorem iW(h:aB w0 (zs) (h0::h1::ar::aQ::bF::hs) w):aB w0 (zs) (h0::h1::ar::aQ::bF::hs) w:=h
theorem l8(h:aB w0 (zs) (h0::h1::ar::aQ::bF::cO::hs) w):aB w0 (zs) (h0::h1::ar::aQ::bF::cO::hs) w:=h
theorem k9(h:aB w0 (zs) (h0::h1::ar::aQ::bF::cO::dR::hs) w):aB w0 (zs) (h0::h1::ar::aQ::bF::cO::dR::hs) w:=h
theorem iD(h:aB w0 (zs) (h0::h1::ar::aQ::bF::cO::dR::fh::hs) w):aB w0 (zs) (h0::h1::ar::aQ::bF::cO::dR::fh::hs) w:=h
theorem kq(h:aB w0 (zs) (h0::h1::ar::aQ::bF::cO::dR::fh::dJ::hs) w):aB w0 (zs) (h0::h1::ar::aQ::bF::cO::dR::fh::dJ::hs) w:=h
theorem nM(h:aB w0 (zs) (h0::h1::ar::aQ::bF::cO::dR::fh::dJ::cA::hs) w):aB w0 (zs) (h0::h1::ar::aQ::bF::cO::dR::fh::dJ::cA::hs) w:=h
theorem vq(h:aB w0 (zs) (h0::h1::ar::aQ::bF::cO::dR::fh::dJ::cA::l0::hs) w):aB w0 (zs) (h0::h1::ar::aQ::bF::cO::dR::fh::dJ::cA::l0::hs) w:=h
theorem l7(h:aB w0 (zs) (h0::h1::ar::aQ::bF::cO::dR::fh::dJ::cA::l0::oR::sB::sC::sD::sE::jE::sF::sG::sH::hs) w):aB w0 (zs) (h0::h1::ar::aQ::bF::cO::dR::fh::dJ::cA::l0::oR::sB::sC::sD::sE::jE::sF::sG::sH::hs) w:=h
theorem xl(h:aB w0 (zs) (h0::h1::ar::aQ::bF::cO::dR::fh::dJ::cA::l0::oR::sB::sC::sD::sE::jE::sF::sG::sH::Cl::hs) w):aB w0 (zs) (h0::h1::ar::aQ::bF::cO::dR::fh::dJ::cA::l0::oR::sB::sC::sD::sE::jE::sF::sG::sH::Cl::hs) w:=h
theorem rS(h:aB w0 (z0::zs) (h0::h1::ar::aQ::hs) w):aB w0 (z0::zs) (h0::h1::ar::aQ::hs) w:=h
theorem qM(h:aB w0 (z0::zs) (h0::h1::ar::aQ::bF::cO::dR::fh::hs) w):aB w0 (z0::zs) (h0::h1::ar::aQ::bF::cO::dR::fh::hs) w:=h
theorem rT(h:aB w0 (z0::zs) (h0::h1::ar::aQ::bF::cO::dR::fh::dJ::hs) w):aB w0 (z0::zs) (h0::h1::ar::aQ::bF::cO::dR::fh::dJ::hs) w:=h
theorem iN(h:aB w0 (z0::zs) (h0::h1::ar::aQ::bF::cO::dR::fh::dJ::cA::hs) w):aB w0 (z0::zs) (h0::h1::ar::aQ::bF::cO::dR::fh::dJ::cA::hs) w:=h
theorem qL(h:aB w0 (z0::zs) (h0::h1::ar::aQ::bF::cO::dR::fh::dJ::cA::l0::oR::hs) w):aB w0 (z0::zs) (h0::h1::ar::aQ::bF::cO::dR::fh::dJ::cA::l0::oR::hs) w:=h
end
theorem b6{P : Program}{f : FuncId}{fn : Func}(h : P.funcs[f]? = some fn)(h1 : fn.body.isNone = false := by rfl)(ar : (fn.name == "runtime.NumGoroutine") = false := by kernel_rfl) : b1 P f := ⟨fn, h, h1, ar⟩
theorem dj:(∀ a b:Bool,((a || b)=true)=(a=true∨b=true))∧(∀ a b:Bool,((a&&b)=true)=(a=true∧b=true))∧(∀ a b:Bool,((a || b)=false)↔(a=false∧b=false))∧(∀ a b:Bool,((a&&b)=false)↔(a=false∨b=false))∧(∀ (p:Prop) [Decidable p],(decide p=true)=p)∧(∀ (p:Prop) [Decidable p],(decide p=false)↔¬ p)∧(∀ b:Bool,((!b)=true)=(b=false))∧(∀ b:Bool,((!b)=false)=(b=true)):=
 ⟨Bool.or_eq_true,Bool.and_eq_true,@Bool.or_eq_false_iff,@Bool.and_eq_false_iff,fun p _=>decide_eq_true_eq,fun p _=>decide_eq_false_iff_not,fun b=>Bool.not_eq_true' b,fun b=>Bool.not_eq_false' b⟩
section
variable {P:Program}{n:Nat}{w0:World}{zs:List aR}{hs:List aC}{L L':List (Nat×Value)}{ops:Array Oper}{l l':List Oper}{k:Nat}{Q:Exit→Act→World→Prop}{a:Act}{w:World}
theorem ax{x y:Code}(h:∀ K:Act→World→Prop,(∀ a w,y.wp P Q a w→K a w)→x.wp P (Exit.then K Q) a w):(Code.seq x y).wp P Q a w:=wp_seq_k h
theorem aD[a1]{id:Nat}{y:Code}(ab:Fr n L a)(U:aB w0 zs hs w)(s:fS P n w0 zs hs l.toArray k L l L' [])(K:∀ a w,Fr n L' a→aB w0 zs hs w→y.wp P Q a w):(Code.seq (Code.region id l.toArray false) y).wp P Q a w:=wp_seq_k fun _ h=>bx ab U s fun a w ab U=>h a w (K a w ab U)
theorem iE[a1]{id:Nat}{y:Code}(hm:P.follows .mixedOrders=true)(gS:Region.lexB .any l.toArray=true)(ab:Fr n L a)(U:aB w0 zs hs w)(s:fS P n w0 zs hs l.toArray k L l L' [])(K:∀ a w,Fr n L' a→aB w0 zs hs w→y.wp P Q a w):(Code.seq (Code.region id l.toArray true) y).wp P Q a w:=wp_seq_k fun _ h=>agP hm gS ab U s fun a w ab U=>h a w (K a w ab U)
theorem bc{id:Nat}{y:Code}(h:∀ K:Act→World→Prop,(∀ a w,y.wp P Q a w→K a w)→wpList P l.toArray (Exit.then K Q) l a w):(Code.seq (Code.region id l.toArray false) y).wp P Q a w:=wp_seq_k fun K dU=>dM (h K dU)
theorem aG[a1](ab:Fr n L a)(U:aB w0 zs hs w)(s:fS P n w0 zs hs ops k L l L' l')(K:∀ a w,Fr n L' a→aB w0 zs hs w→wpList P ops Q l' a w):wpList P ops Q l a w:=lQ ab U s K
theorem aJ[a1]{d:Option Tmp}{op:Op}{ty:TypeId}{pos:String}{af:Array Edge}{rest:List Oper}{K:Value→List aR→List aC→Prop}(ab:Fr n L a)(U:aB w0 zs hs w)(aT:(match d with | some k=>Nat.blt k n | none=>true)=true)(e:fJ P n w0 zs hs L ⟨d,op,ty,pos,af,none⟩ K)
    (h:∀ v zs' hs' a w,K v zs' hs'→Fr n (lh d v L) a→aB w0 zs' hs' w→wpList P ops Q rest a w):wpList P ops Q (⟨d,op,ty,pos,af,none⟩::rest) a w:=ajG ab U aT e h
theorem ae[a1]{d:Tmp}{op:Op}{t:TypeId}{p:String}{af:Array Edge}{v:Value}(q:bR P n w0 zs hs L ⟨some d,op,t,p,af,none⟩ v)(r:fS P n w0 zs hs ops k ((d,v)::L) l L' l')(aT:Nat.blt d n=true:=by rfl):fS P n w0 zs hs ops (k+1) L (⟨some d,op,t,p,af,none⟩::l) L' l':=mR aT q r
theorem ai[a1]{d:Tmp}{x:Operand}{t:TypeId}{p:String}{af:Array Edge}{v:Value}(h:aW L x=some v)(r:fS P n w0 zs hs ops k ((d,v)::L) l L' l')(aT:Nat.blt d n=true:=by rfl):fS P n w0 zs hs ops (k+1) L (⟨some d,.move x,t,p,af,none⟩::l) L' l':=mR aT (bE h) r
theorem av[a1]{d:Tmp}{x:Operand}{t:TypeId}{p:String}{af:Array Edge}{v:Value}(h:aW L x=some v)(r:fS P n w0 zs hs ops k ((d,v)::L) l L' l')(aT:Nat.blt d n=true:=by rfl):fS P n w0 zs hs ops (k+1) L (⟨some d,.assign x,t,p,af,none⟩::l) L' l':=mR aT (kS h) r
theorem b5[a1]{d:Tmp}{x y:Operand}{t b7 t2:TypeId}{ps:String}{af:Array Edge}{p q:Int}(h1:aW L x=some (aA p))(ar:aW L y=some (aA q))(r:fS P n w0 zs hs ops k ((d,aA (p+q))::L) l L' l')(aw : -9223372036854775808≤p+q∧p+q≤9223372036854775807:=by omega)(aT:Nat.blt d n=true:=by rfl):fS P n w0 zs hs ops (k+1) L (⟨some d,.binOp .add t x y b7,t2,ps,af,none⟩::l) L' l':=mR aT (o4 h1 ar aw) r
theorem fy[a1]{d:Tmp}{x y:Operand}{t b7 t2:TypeId}{ps:String}{af:Array Edge}{p q:Int}(h1:aW L x=some (aA p))(ar:aW L y=some (aA q))(r:fS P n w0 zs hs ops k ((d,aA (p-q))::L) l L' l')(aw : -9223372036854775808≤p-q∧p-q≤9223372036854775807:=by omega)(aT:Nat.blt d n=true:=by rfl):fS P n w0 zs hs ops (k+1) L (⟨some d,.binOp .sub t x y b7,t2,ps,af,none⟩::l) L' l':=mR aT (nN h1 ar aw) r
theorem aS[a1]{J:Act→World→Prop}{l:List Oper}{f:Nat}{W:kZ}{ls:Array Bool}(i:Nat){js:Array Bool}{d:Option Tmp}{op:Op}{t:TypeId}{p:String}{af:Array Edge}{v:Value}
    (aH:l[i]?=some ⟨d,op,t,p,af,none⟩) (ab:Fr n L a) (U:aB w0 zs hs w) (q:bR P n w0 zs hs L ⟨d,op,t,p,af,none⟩ v) (K:∀ a,Fr n (lh d v L) a→nw P l.toArray J f ((i,aB w0 zs hs)::W) js a w)
    (gS:(tq ⟨d,op,t,p,af,none⟩&&Region.noSelect l.toArray&&Region.free .any l.toArray ls i&&(Region.ready .any l.toArray ls).contains i&&(match d with | some k=>Nat.blt k n | none=>true))=true:=by kernel_rfl) (m5:ls.setIfInBounds i true=js:=by rfl):nw P l.toArray J (f+1) W ls a w:=by cases d <;> exact Y0 i js aH gS m5 ab U q K
end
end Go.aK
