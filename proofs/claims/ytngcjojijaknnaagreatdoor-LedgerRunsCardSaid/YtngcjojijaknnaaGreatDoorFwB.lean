/- walks and plain laws -/
import Derived.Test.YtngcjojijaknnaaGreatDoorFwA
import Derived.ChangeKeysEq
import Derived.Laws.StructEq
import Derived.Below
import Derived.Carry
import Derived.OpenShut
import Derived.WalkKit
import Derived.ProofKit
import Derived.Deep.DeepHandedRow
import Derived.Lib.LaidTab
import Derived.Stop.LaidErr
import Derived.Laws.Cover3
set_option linter.all false
section
namespace Go.aJ
section
variable {P:Program}{n:Nat}{w0:World}{zs:List aP}{hs:List av}{L:List (Nat×Value)}{d:Option Tmp}{ty t bZ:TypeId}{pos:String}{af:Array Edge}{g:Option (Nat×Bool)}
variable {x y c nI nJ ki:Operand}{u v:Value}{ops:Array Oper}{rest:List Oper}
theorem sk[aW]{fn:Fn}{fi ca:List Operand}{fs cs:List Value}(h1:ic L fi=some fs)(aq:ic L ca=some cs) :
  bL P n w0 zs hs L ⟨d,.makeFunc fn fi.toArray ca.toArray,ty,pos,af,g⟩ (.func fn fs.toArray cs.toArray):=
 eC fun a a7 w hw=>by
  have bK:=a7.xE h1
  have bV:=a7.xE aq
  simp only [execOp]
  simp [Instr.makeFunc,bK,bV]
theorem ae8[aW]{f:FuncId}(bw:bU P f){fs cs:List Value}(h0:aU L x=some (.func (.func f) fs.toArray cs.toArray)){os:List Operand}{vs:List Value}{ats:Array TypeId}{a:Act}(a7:Fr n L a)(h1:ic L os=some vs)(w:World) :
  (execOp a.eval ⟨d,.call ⟨.value x,os.toArray,ats⟩,ty,pos,af,g⟩).run P w=.ok (.enter f (fs++vs++cs).toArray) w:=by
 obtain ⟨fn,aq,aQ,bH⟩:=bw
 have he:=a7.xE h1
 simp only [execOp]
 simp only [resolve,a7.eval h0,Deferred.ofValue,invoke,Sem.run_bind,Sem.run_pure,Result.andThen_ok,callFunc,run_program,aq,bH,aQ]
 simp [he]
theorem yR[aW]{f:FuncId}(bw:bU P f){fs cs:List Value}(h0:aU L x=some (.func (.func f) fs.toArray cs.toArray)){os:List Operand}{vs:List Value}{ats:Array TypeId}{R:Value→List aP→List av→Prop}(h1:ic L os=some vs)(bu:∀ w,aC w0 zs hs w→ch P f (fs++vs++cs) w R)(fH:∀ dd zs hs,R dd zs hs→dd=v) :
  bL P n w0 zs hs L ⟨d,.call ⟨.value x,os.toArray,ats⟩,ty,pos,af,g⟩ v:=
 fun a a7 w hw=>by
  rw [ae8 bw h0 a7 h1]
  exact ⟨rfl,Calls.mono (bu w hw) fun e w' ⟨dd,zs',hs',he,U,aY⟩=>⟨by rw [he,fH _ _ _ aY],hw.later U.ext U.io⟩⟩
theorem kj{w:World}(U:aC w0 zs hs w)(k:Nat){b:Nat}{bt:TypeId}{cs:List Value}(aD:hs[k]?=some (.blk b bt cs)):w.heap[b]?=some (.cells cs.toArray bt (0,0)):=
 (U.own _ (List.mem_of_getElem? aD)).1.2
end
end Go.aJ
namespace Go.aJ
section
variable {P:Program}{n:Nat}{w0:World}{zs:List aP}{hs:List av}{L:List (Nat×Value)}
theorem lK[aW]{dx cy:Code}{Q:Exit→Act→World→Prop}{a:Act}{w:World}{γ:Type}(nT:γ→List (Nat×Value))(lg:List (Nat×Value))(fP:γ→List av)(fact:γ→Prop)(aD:Fr n lg a)(U:aC w0 zs hs w)
  (aL:dx.wp P (Exit.then (fun a w=>∃ g,fact g∧Fr n (nT g++lg) a∧aC w0 zs (fP g) w) Q) a w)
  (cS:∀ g a w,fact g→Fr n (nT g++lg) a→aC w0 zs (fP g) w→cy.wp P Q a w):(Code.seq dx cy).wp P Q a w:=
 wp_cut _ aL fun _ _ ⟨g,h1,aq,aQ⟩=>cS g _ _ h1 aq aQ
end
end Go.aJ
end
section
namespace Go.aJ
section
variable {P:Program}{n:Nat}{w0:World}{zs:List aP}{hs:List av}{L:List (Nat×Value)}{d:Option Tmp}{ty t bZ:TypeId}{pos:String}{af:Array Edge}{g:Option (Nat×Bool)}
variable {x y c nI nJ ki:Operand}{u v:Value}{ops:Array Oper}{rest:List Oper}
theorem adz[aW]{α:Type}{f:α→Value}{bM:TypeDesc}{s bp:Nat}{zv:Value}(aM:a1 P t bM s bp zv)(k:Nat){b off:Nat}{bt:TypeId}{xs:List α}(h1:aU L x=some (.pointer (some ⟨b,off,none⟩)))(aD:hs[k]?=some (.blk b bt (xs.map f)))(hl:off+s≤xs.length)(aT:eV bM=true) :
  bL P n w0 zs hs L ⟨d,.load t x,ty,pos,af,g⟩ (.agg (((xs.drop off).take s).map f).toArray):=
 yW aM k h1 aD (by rw [List.map_take,List.map_drop]) (by simpa using hl) aT
end
end Go.aJ
namespace Go.aJ
theorem aC.freeze{α:Type}{E:dO α}{w0:World}{zs:List aP}{hs:List av}{w:World}{e:TypeId}{v:Value}{m:Nat}{cs:List Value}(h:aC w0 zs (.row v e E.size m cs::hs) w){z':aP}(ja:z'=(fun _=>none)∨z'∈zs){xs:List α}(hm:m=xs.length)(au:m≤140737488355328)
  (aY:∀ i x,xs[i]?=some x→∃ dx,E.rep z' x dx∧∀ j u,dx[j]?=some u→cs[i*E.size+j]?=some u):∃ z,bg E z v xs∧aC w0 (z::zs) hs w:=by
 have eY:=h.own _ List.mem_cons_self
 have YT:z'.le (b1 w):=by
  rcases ja with rfl | ja
  ·intro b o au;cases au
  ·exact (h.zone z' ja).1
 have il:∀ b,v.ownBlock=some b→z' b=none:=by
  intro b ZN
  rcases ja with rfl | ja
  ·rfl
  ·exact eY.2 b ZN z' ja
 let z:aP:=fun k=>if v.ownBlock=some k then w.heap[k]? else z' k
 have tZ:z'.le z:=by
  intro k o aD
  show (if v.ownBlock=some k then w.heap[k]? else z' k)=some o
  split
  ·rename_i bx;rw [il k bx] at aD;cases aD
  ·exact aD
 have Z7:z.le (b1 w):=by
  intro k o aD
  replace aD:(if v.ownBlock=some k then w.heap[k]? else z' k)=some o:=aD
  split at aD
  ·exact aD
  ·exact YT k o aD
 refine ⟨z,?_,h.ext,?_,?_,?_,h.io⟩
 ·subst hm
  refine ⟨au,?_⟩
  rcases eY.1.2 with ⟨rfl,bA⟩ | ⟨b,cap,cur,rfl,Mf,aO,kE,nB,ig,kc⟩
  ·refine ⟨none,0,by rw [bA],by omega,fun i x aL=>?_⟩
   have:=(List.getElem?_eq_some_iff.1 aL).1
   omega
  ·refine ⟨some ⟨b,0,none⟩,cap,rfl,kE,fun i x aL=>?_⟩
   obtain ⟨dx,h1,aq⟩:=aY i x aL
   refine ⟨b,0,cur,e,(0,0),dx,rfl,?_,E.mono tZ h1,fun j u hu=>?_⟩
   ·show (if _=some b then w.heap[b]? else z' b)=_
    rw [if_pos (show (Value.slice (some ⟨b,0,none⟩) xs.length cap).ownBlock=some b from rfl)];exact aO
   ·have aQ:=aq j u hu
    rw [← kc,List.getElem?_take] at aQ
    split at aQ
    ·simpa [Nat.zero_add] using aQ
    ·cases aQ
 ·intro y cS
  rcases List.mem_cons.1 cS with rfl | cS
  ·refine ⟨Z7,fun b o xY=>?_⟩
   replace xY:(if v.ownBlock=some b then w.heap[b]? else z' b)=some o:=xY
   split at xY
   ·rename_i bx;exact (av.mE eY.1 b bx).1
   ·rcases ja with rfl | ja
    ·cases xY
    ·exact (h.zone z' ja).2 b o xY
  ·exact h.zone y cS
 ·intro r pP
  have h1:=h.own r (List.mem_cons_of_mem _ pP)
  refine ⟨h1.1,fun b au y cS=>?_⟩
  rcases List.mem_cons.1 cS with rfl | cS
  ·show (if v.ownBlock=some b then w.heap[b]? else z' b)=none
   split
   ·rename_i bx
    exfalso
    have fO:=h.nd
    rw [List.filterMap_cons] at fO
    have bK:(av.row v e E.size m cs).id=some b:=bx
    rw [bK] at fO
    exact (List.nodup_cons.1 fO).1 (List.mem_filterMap.2 ⟨r,pP,au⟩)
   ·rcases ja with rfl | ja
    ·rfl
    ·exact h1.2 b au z' ja
  ·exact h1.2 b au y cS
 ·have fO:=h.nd
  exact Ep (List.sublist_cons_self _ _) fO
theorem aC.qx{α:Type}{f:α→Value}{p:α→Prop}{h0:∀ x,(f x).oneCell'=true}{w0:World}{zs:List aP}{hs:List av}{w:World}{e:TypeId}{v:Value}{m:Nat}{xs:List α}(h:aC w0 zs (.row v e 1 m (xs.map f)::hs) w)(hm:m=xs.length)(au:m≤140737488355328)(bN:∀ x∈xs,p x):∃ z,bg (kR f p h0) z v xs∧aC w0 (z::zs) hs w:=
 aC.freeze (E:=kR f p h0) h (z':=fun _=>none) (.inl rfl) hm au fun i x aL=>⟨[f x],⟨rfl,bN x (List.mem_of_getElem? aL)⟩,fun j u hu=>by
  cases j with
  | zero=>simp only [List.getElem?_cons_zero,Option.some.injEq] at hu;subst hu;show (xs.map f)[i*1+0]?=_;simp [aL]
  | succ j=>simp at hu⟩
theorem aC.Lv{w0:World}{zs:List aP}{hs:List av}{w:World}{e:TypeId}{v:Value}{m:Nat}{xs:List UInt8}(h:aC w0 zs (.row v e 1 m (xs.map bf)::hs) w)(hm:m=xs.length)(au:m≤140737488355328):∃ z,bg gE z v xs∧aC w0 (z::zs) hs w:=
 h.qx (f:=bf) hm au fun _ _=>trivial
end Go.aJ
namespace Go.aJ
section
variable {P:Program}{n:Nat}{w0:World}{zs:List aP}{hs:List av}{L:List (Nat×Value)}{d:Option Tmp}{ty t bZ:TypeId}{pos:String}{af:Array Edge}{g:Option (Nat×Bool)}
theorem yQ[aW]{m:Nat}{e:TypeId}{s bp:Nat}{zc:List Value}(aM:a1 P t (.array m e) s bp (.agg zc.toArray)){de:TypeDesc}{be:Nat}{ze:Value}(cg:a1 P e de 1 be ze){parts:Array (Nat×Operand)}{vs:List Value}(h1:ic L (parts.toList.map (·.2))=some vs)
  (tI:parts.toList.map (·.1)=List.range' 0 vs.length) (nw:∀ v∈vs,v.oneCell'=true) (bj:zc.length=m) (hl:vs.length=m) :
  bL P n w0 zs hs L ⟨d,.build t parts,ty,pos,af,g⟩ (.agg vs.toArray):=
 oo (vT _ _ h1) (q1 aM cg (by rw [tI];exact KF (m:=m) (show (Value.agg zc.toArray).cells.size=m from by show zc.toArray.size=m;simpa using bj) hl nw))
end
end Go.aJ
end
section
namespace Go.aJ
section
variable {P:Program}{n:Nat}{w0:World}{zs:List aP}{hs:List av}{L:List (Nat×Value)}{d:Option Tmp}{ty t bZ:TypeId}{pos:String}{af:Array Edge}{g:Option (Nat×Bool)}
variable {x y c nI nJ ki:Operand}{u v:Value}{ops:Array Oper}{rest:List Oper}
theorem HJ{e:TypeId}{be:Nat}{ze:Value}(cg:a1 P e (.int .u8) 1 be ze)(k:Nat)(xs ys:List UInt8)(w:World):∀ (is:List Nat),(∀ i∈is,i<xs.length∧i<ys.length) →
  (Op.eqItems (k+1) e 1 (xs.map bf).toArray (ys.map bf).toArray is).run P w=.ok (decide (∀ i∈is,xs.getD i 0=ys.getD i 0)) w
 | [],_=>by simp [Op.eqItems]
 | i::is,h=>by
  have aG:=h i (by simp)
  have ih:=HJ cg k xs ys w is fun j a6=>h j (by simp [a6])
  have pt:∀ (l:List UInt8),i<l.length→(part e (l.map bf).toArray (i*1)).run P w=.ok (bf (l.getD i 0)) w:=by
   intro l hl
   unfold part
   rw [Sem.run_bind,cg.isAgg]
   simp [eV,hl]
  have he:(Op.equalIn (k+1) e (bf (xs.getD i 0)) (bf (ys.getD i 0))).run P w=.ok (decide (xs.getD i 0=ys.getD i 0)) w:=by
   generalize xs.getD i 0=a
   generalize ys.getD i 0=b
   simp only [Op.equalIn,Sem.run_bind,run_underlying cg.und,Result.andThen_ok]
   have:(((a.toNat:Int) == (b.toNat:Int)):Bool)=decide (a=b):=by
    rw [Bool.eq_iff_iff]
    simp only [beq_iff_eq,decide_eq_true_eq]
    constructor
    ·intro h;exact UInt8.toNat.inj (by omega)
    ·intro h;rw [h]
   simp [this]
  simp only [Op.eqItems,Sem.run_bind,pt xs aG.1,pt ys aG.2,Result.andThen_ok,he]
  by_cases aL:xs.getD i 0=ys.getD i 0
  ·have bK:decide (xs.getD i 0=ys.getD i 0)=true:=decide_eq_true aL
   rw [bK]
   simp only [Bool.not_true,Bool.false_eq_true,if_false]
   rw [ih]
   congr 1
   rw [Bool.eq_iff_iff]
   simp only [decide_eq_true_eq,List.mem_cons,forall_eq_or_imp,aL,true_and]
  ·have bK:decide (xs.getD i 0=ys.getD i 0)=false:=decide_eq_false aL
   rw [bK]
   simp only [Bool.not_false,if_true,Sem.run_pure]
   congr 1
   refine (decide_eq_false fun h=>aL (h i (by simp))).symm
theorem OK[aW]{m:Nat}{e:TypeId}{s bp:Nat}{zv:Value}(aM:a1 P t (.array m e) s bp zv){be:Nat}{ze:Value}(cg:a1 P e (.int .u8) 1 be ze)(aO:P.eqGuardType P.depth t=false){xs ys:List UInt8}(h1:aU L x=some (.agg (xs.map bf).toArray))(aq:aU L y=some (.agg (ys.map bf).toArray))(aL:xs.length=m)(cS:ys.length=m) :
  bL P n w0 zs hs L ⟨d,.binOp .eql t x y bZ,ty,pos,af,g⟩ (.bool (decide (xs=ys))):=
 e0 h1 aq (fun w=>run_eqGuard_agg w _ _ _ _ _ _ aO) fun w=>by
  cases aG:P.info? e with
  | none=>have:=cg.inf;simp [aG] at this
  | some i=>
   have bu:P.cellsOf e=1:=by have:=cg.inf;simp [aG] at this;simp [Program.cellsOf,aG,this.1]
   rw [run_eql_struct,run_equalIn_array w 9999 _ _ aM.und aG,bu,HJ cg 9998 xs ys w _ (fun j a6=>by rw [List.mem_range] at a6;omega)]
   simp only [Result.andThen_ok]
   congr 2
   rw [Bool.eq_iff_iff]
   simp only [decide_eq_true_eq,List.mem_range]
   constructor
   ·intro h
    apply List.ext_getElem (by omega)
    intro j pL lu
    have:=h j (by omega)
    rwa [List.getD_eq_getElem?_getD,List.getD_eq_getElem?_getD,List.getElem?_eq_getElem pL,List.getElem?_eq_getElem lu] at this
   ·intro h j _;rw [h]
end
end Go.aJ
end
section
namespace Go.aJ
open Go.ChangeShapes Go.WideShapes Go.ChangeAt Go.RowKit
theorem aC.below{W oM:World}{zs:List aP}{hs:List av}(h:aC W zs hs oM):Below W.heap.size W oM:=
 ⟨h.io.os,h.io.tape,h.io.output,le_size h.ext,fun _ aD=>le_eq h.ext aD⟩
section
variable {H:Type}{enc:TypeId×Value→H}{P:Program}
theorem QA(hl:laidOutB P=true){W oM:World}(au:Below W.heap.size W oM):∀ {ts:List TypeId}{vs:List Value}{ds:List (DataW H)}{ps:List MemPlace},(ts.all fun t=>P.readableRec t&&decide (t<P.types.size))=true →
  DataW.TrodAll enc P W 0 (fun _=>true) true ts vs ds ps→(∀ x∈ps,x.block<W.heap.size)→DataW.TrodAll enc P oM 0 (fun b=>decide (b<W.heap.size)) true ts vs ds ps
 | [],[],[],_,_,h,_=>h
 | t::ts,v::vs,d::ds,_,kT,⟨p,q,h1,aq,e⟩,hs=>by
  subst e
  simp only [List.all_cons,Bool.and_eq_true,decide_eq_true_eq] at kT
  exact ⟨p,q,Below.trod hl kT.1.1 kT.1.2 h1 au fun x aL=>hs x (List.mem_append_left _ aL),QA hl au kT.2 aq fun x aL=>hs x (List.mem_append_right _ aL),rfl⟩
theorem aaX{f:Func}{s:ChangeSpec}{W oM:World}{args:Array Value}{ds gs:List (DataW H)}{before:List MemPlace}{zs:List aP}{hs:List av}{tb:TypeId}
  (hl:laidOutB P=true) (kT:(f.params.toList.all fun t=>P.readableRec t&&decide (t<P.types.size))=true) (aY:f.resultTypes=#[tb]) (By:P.underlying tb=some .bool)
  (bx:s.vars=[]) (x2:s.fn H (ds++gs)={ results:=[.lit (.bool true)],args:=ds })
  (eE:DataW.Whole enc P f.params.toList s.vars false W args.toList ds gs before) (U:aC W zs hs oM) :
  s.post enc P f false true false false W args (.bool true) oM:=by
 have au:=U.below
 have tu:=eE
 have gL:=eE.lt
 obtain ⟨p,q,j6,j7,rfl,YB,fO⟩:=eE
 refine ⟨ds,gs,_,[],p,q,tu,?_,?_,?_,au.frame _,fun h=>by cases h⟩
 ·rw [aY,x2]
  exact trodAll_cons_mk (shut_bool By true) trodAll_mk0
 ·rw [x2]
  exact QA hl au kT j6 fun x aL=>gL x (List.mem_append_left _ aL)
 ·rw [bx] at j7 ⊢
  rw [x2]
  obtain ⟨rfl,rfl⟩:=trodVars_none j7
  exact rfl
def Rd{α:Type}(enc:TypeId×Value→H)(P:Program)(W:World)(E:dO α)(t:TypeId):Prop:=
 ∀ fuel cs x,DataW.trod enc P W 0 (fun _=>true) true fuel t cs=some x→(x.1.weights P t).all (· ≤ reachBytes)=true→∃ a,E.rep (b1 W) a cs
variable {W:World}{t e:TypeId}
theorem wf_i64{n:Int}(h:(Lit.int .i64 n).wf=true) : -9223372036854775808≤n∧n≤9223372036854775807:=by
 simpa [Lit.wf,IntKind.min,IntKind.max,IntKind.signed,IntKind.bits] using h
theorem aen(aM:P.underlying t=some (.int .i64)):Rd enc P W encI t:=fun _ _ _ h _=>by
 obtain ⟨n,rfl,_,hw⟩:=DataW.trod_int aM h
 exact ⟨n,rfl,wf_i64 hw⟩
theorem JU{α:Type}(Q:Nat→α→Prop):∀ (n:Nat),(∀ i,i<n→∃ x,Q i x)→∃ xs:List α,xs.length=n∧∀ i x,xs[i]?=some x→Q i x
 | 0,_=>⟨[],rfl,fun i x h=>by simp at h⟩
 | n+1,h=>by
  obtain ⟨xs,h1,aq⟩:=JU Q n fun i aG=>h i (by omega)
  obtain ⟨x,aL⟩:=h n (by omega)
  refine ⟨xs++[x],by simp [h1],fun i y cS=>?_⟩
  rcases Nat.lt_or_ge i n with aG | aG
  ·rw [List.getElem?_append_left (by omega)] at cS
   exact aq i y cS
  ·have vy:i<n+1:=by have:=(List.getElem?_eq_some_iff.1 cS).1;simp at this;omega
   obtain rfl:i=n:=by omega
   rw [List.getElem?_append_right (by omega),h1,Nat.sub_self] at cS
   simp only [List.getElem?_cons_zero,Option.some.injEq] at cS
   exact cS ▸ aL
theorem ahd{ds:List (DataW H)}{d:DataW H}(aT:d∈ds)(h:(DataW.weightsAll P e ds).all (· ≤ reachBytes)=true):(d.weights P e).all (· ≤ reachBytes)=true:=by
 induction ds with
 | nil=>cases aT
 | cons x ds ih=>
  simp only [DataW.weightsAll,List.all_append,Bool.and_eq_true] at h
  rcases List.mem_cons.1 aT with rfl | aT
  ·exact h.1
  ·exact ih aT h.2
theorem afO{α:Type}{E:dO α}(aM:P.underlying t=some (.slice e))(bu:P.cellsOf e=E.size)(h0:0<E.size)(au:0<P.bytesOf e)(xP:Rd enc P W E e){fuel:Nat}{cs:List Value}{x:DataW H×List MemPlace}
  (h:DataW.trod enc P W 0 (fun _=>true) true fuel t cs=some x) (hw:(x.1.weights P t).all (· ≤ reachBytes)=true):∃ v xs,cs=[v]∧bg E (b1 W) v xs:=by
 rcases DataW.trod_slice aM h with ⟨rfl,rfl⟩ | ⟨a,len,cap,elems,rest,n,rfl,rfl,rfl,_,tL,_,hle,tD,_,_⟩
 ·exact ⟨_,[],rfl,by simp,none,0,rfl,Nat.le_refl _,fun i x h=>by simp at h⟩
 ·simp only [DataW.weights,aM,List.all_cons,List.all_append,Bool.and_eq_true,decide_eq_true_eq,List.length_map] at hw
  obtain ⟨o3,tY,alm⟩:=hw
  have hlen:len≤140737488355328:=by
   unfold reachBytes at o3
   have:elems.length+rest.length≤(elems.length+rest.length)*P.bytesOf e:=Nat.le_mul_of_pos_right _ au
   omega
  have ZC:0<len→∃ b off cs' ty fz,a=⟨b,off,none⟩∧W.heap[b]?=some (.cells cs' ty fz):=by
   intro aG
   have h1:=tD 0 aG
   rw [List.getElem?_eq_getElem (by omega),Option.bind_eq_some_iff] at h1
   obtain ⟨dx,aq,aQ⟩:=h1
   obtain ⟨_,hl,xZ⟩:=World.cells?_some aq
   rw [bu] at hl xZ
   have bj:=xZ 0 (by omega)
   rw [List.getElem?_eq_getElem (by omega)] at bj
   obtain ⟨b,off,spot⟩:=a
   simp only [Nat.zero_mul,Addr.add,if_true,World.cell?] at bj
   split at bj
   ·rename_i ht t1 f1 fB
    cases spot with
    | none=>exact ⟨b,off,ht,t1,f1,rfl,fB⟩
    | some s=>simp at bj
   ·cases bj
  have each:∀ i,i<len→∃ y,∃ b off cs' ty fz dx,some a=some ⟨b,off,none⟩∧b1 W b=some (.cells cs' ty fz)∧E.rep (b1 W) y dx∧∀ j u,dx[j]?=some u→cs'[off+i*E.size+j]?=some u:=by
   intro i aG
   obtain ⟨b,off,cs',ty,fz,rfl,fB⟩:=ZC (by omega)
   have h1:=tD i aG
   rw [List.getElem?_eq_getElem (by omega),Option.bind_eq_some_iff] at h1
   obtain ⟨dx,aq,aQ⟩:=h1
   have ZR:=ahd (d:=(elems[i]'(by omega)).1) (List.mem_map.2 ⟨_,List.getElem_mem _,rfl⟩) tY
   obtain ⟨y,cS⟩:=xP _ _ _ aQ ZR
   obtain ⟨_,hl,xZ⟩:=World.cells?_some aq
   rw [bu] at hl xZ
   refine ⟨y,b,off,cs',ty,fz,dx,rfl,fB,cS,fun j u a6=>?_⟩
   have tJ:j<E.size:=by have:=(List.getElem?_eq_some_iff.1 a6).1;omega
   have bH:=xZ j tJ
   rw [a6,fm,fm,cell_of_row W b _ cs' ty fz fB] at bH
   exact bH
  obtain ⟨xs,qK,ZX⟩:=JU _ len each
  subst qK
  exact ⟨_,xs,rfl,hlen,some a,cap,rfl,tL,fun i x aL=>ZX i x aL⟩
theorem SK{α:Type}{E:dO α}{base:Nat}{v:Value}{d:DataW H}{p:List MemPlace}(aM:P.underlying t=some (.slice e))(bu:P.cellsOf e=E.size)(h0:0<E.size)(au:0<P.bytesOf e)(xP:Rd enc P W E e)
  (bx:Value.okWide P W .any base t v) (h:DataW.Trod enc P W 0 (fun _=>true) true t v d p) (hw:(d.weights P t).all (· ≤ reachBytes)=true):∃ xs,bg E (b1 W) v xs:=by
 obtain ⟨a,len,cap,rfl⟩:=okWide_slice aM bx
 obtain ⟨fuel,bw⟩:=h
 obtain ⟨v,xs,ig,hs⟩:=afO aM bu h0 au xP bw hw
 simp only [Value.cells] at ig
 obtain rfl:Value.slice a len cap=v:=by simpa using ig
 exact ⟨xs,hs⟩
theorem SJ{base:Nat}{v:Value}{d:DataW H}{p:List MemPlace}(aM:P.underlying t=some (.int .i64))(bx:Value.okWide P W .any base t v)(h:DataW.Trod enc P W 0 (fun _=>true) true t v d p) :
  ∃ n:Int,v=az n ∧ -9223372036854775808≤n∧n≤9223372036854775807:=by
 obtain ⟨n,rfl⟩:=okWide_int aM bx
 obtain ⟨fuel,bw⟩:=h
 obtain ⟨uc,ig,_,hw⟩:=DataW.trod_int aM bw
 obtain rfl:n=uc:=by simpa [Value.cells] using ig
 exact ⟨n,rfl,wf_i64 hw⟩
theorem RK{ts:List TypeId}{d:DataW H}{ds:List (DataW H)}(h:(DataW.weightsEach P (t::ts) (d::ds)).all (· ≤ reachBytes)=true):(d.weights P t).all (· ≤ reachBytes)=true∧(DataW.weightsEach P ts ds).all (· ≤ reachBytes)=true:=by
 simpa only [DataW.weightsEach,List.all_append,Bool.and_eq_true] using h
theorem QF{P:Program}{W:World}{name:String}{k:IntKind}{zs:List Int}{g:Nat}(aO:P.globalNamed name=some g)(h:Lib.TabIs P W name k zs):∃ bt fz,W.heap[g]?=some (.cells (zs.map fun z=>Value.int k z).toArray bt fz):=by
 unfold Lib.TabIs World.var? at h
 rw [aO] at h
 simp only [Option.bind_some] at h
 split at h
 ·rename_i cs bt fz fB
  simp only [Option.some.injEq] at h
  subst h
  exact ⟨bt,fz,fB⟩
 ·cases h
end
end Go.aJ
end
section
namespace Go.aJ
section
variable {P:Program}{n:Nat}{w0:World}{zs:List aP}{hs:List av}{ops:Array Oper}{L L':List (Nat×Value)}{k:Nat}
theorem hg[aW]{d:Option Tmp}{op:Op}{t:TypeId}{p:String}{af:Array Edge}{g:Nat}{b:Bool}(gt:Nat)(dY:(ops[g]?).bind (·.dst)=some gt)(nD:look L gt=some (.bool b)) :
  ∀ a,Fr n L a→Region.wanted ⟨d,op,t,p,af,some (g,b)⟩ (yielded ops a.tmps)=true:=
 fun a a7=>by simp [Region.wanted,wU a7 dY nD]
variable {J:Act→World→Prop}
theorem jt[aW]{l:List Oper}{f:Nat}{W:ku}{ls:Array Bool}{a:Act}{w:World}(i:Nat)(iJ:Array Bool){d:Option Tmp}{op:Op}{t:TypeId}{p:String}{af:Array Edge}{g:Option (Nat×Bool)}{v:Value}{zs:List aP}{hs:List av}
  (aG:l[i]?=some ⟨d,op,t,p,af,g⟩) (aO:∀ a,Fr n L a→Region.wanted ⟨d,op,t,p,af,g⟩ (yielded l.toArray a.tmps)=true) (gq:(r9 ⟨d,op,t,p,af,g⟩&&Region.noSelect l.toArray&&Region.free .any l.toArray ls i&&(Region.ready .any l.toArray ls).contains i&&(match d with | some k=>Nat.blt k n | none=>true))=true)
  (mx:ls.setIfInBounds i true=iJ) (ab:Fr n L a) (U:aC w0 zs hs w) (q:bL P n w0 zs hs L ⟨d,op,t,p,af,g⟩ v)
  (K:∀ a,Fr n (kL d v L) a→mU P l.toArray J f ((i,aC w0 zs hs)::W) iJ a w):mU P l.toArray J (f+1) W ls a w:=by
 intro fb eE
 subst mx
 replace aG:l.toArray[i]?=some ⟨d,op,t,p,af,g⟩:=by simpa using aG
 simp only [Bool.and_eq_true] at gq
 obtain ⟨⟨⟨⟨bN,nG⟩,bw⟩,aY⟩,aT⟩:=gq
 have aY:i∈Region.ready .any l.toArray ls:=by simpa using aY
 have cS:YieldsIn P l.toArray (aC w0 zs hs) ⟨d,op,t,p,af,g⟩ v a:=.inl ⟨aO a ab,fun w hw=>q a ab w hw⟩
 have E5:Fr n (kL d v L) (a.put d v):=ab.up (by cases d with | none=>trivial | some k=>exact Nat.blt_eq.mp aT)
 have mz:=getD_both (mem_ready.1 aY).1
 have tu:gY .any l.toArray (ls.setIfInBounds i true) w [] W:=gY.more mz W [] [] (by simp) eE
 refine RO (C:=aC w0 zs hs) aG bN (Region.noSelect_spec nG) W f ls a w fb (Region.free_spec aG bw) aY cS U tu ?_
 exact K _ E5 (fb.set aY) ⟨.inr U,gY.more mz W [] [i] (by simp) eE⟩
theorem CK[aW]{l:List Oper}{f:Nat}{W:ku}{ls:Array Bool}{a:Act}{w:World}{i:Nat}(iJ:Array Bool){d:Option Tmp}{op:Op}{ty:TypeId}{pos:String}{af:Array Edge}{g:Option (Nat×Bool)}{zs:List aP}{hs:List av}{K:Value→List aP→List av→Prop}
  (aG:l[i]?=some ⟨d,op,ty,pos,af,g⟩) (aO:∀ a,Fr n L a→Region.wanted ⟨d,op,ty,pos,af,g⟩ (yielded l.toArray a.tmps)=true) (mx:ls.setIfInBounds i true=iJ) (ab:Fr n L a) (U:aC w0 zs hs w) (aT:(match d with | some k=>Nat.blt k n | none=>true)=true) (e:e7 P n w0 zs hs L ⟨d,op,ty,pos,af,g⟩ K)
  (h:∀ v zs' hs' a w,K v zs' hs'→Fr n (kL d v L) a→aC w0 zs' hs' w→gY .any l.toArray iJ w [] W∧mU P l.toArray J f W iJ a w):DJ P l.toArray J f W ls a w i:=by
 intro aY fb
 subst mx
 replace aG:l.toArray[i]?=some ⟨d,op,ty,pos,af,g⟩:=by simpa using aG
 unfold wpOp
 simp only [aG]
 rw [if_pos (aO a ab)]
 refine .inl (e a ab w U _ _ fun v zs' hs' w' dE ju=>?_)
 have:=h v zs' hs' _ w' dE (ab.up (by cases d with | none=>trivial | some k=>exact Nat.blt_eq.mp aT)) ju
 exact ⟨this.1,this.2 (fb.set aY) this.1⟩
theorem wQ[aW]{op:Op}{d:Option Tmp}{ty:TypeId}{pos:String}{af:Array Edge}{g:Option (Nat×Bool)}{rest:List Oper}{Q:Exit→Act→World→Prop}{a:Act}{w:World}{K:Value→List aP→List av→Prop}(ab:Fr n L a)(U:aC w0 zs hs w)(aO:∀ a,Fr n L a→Region.wanted ⟨d,op,ty,pos,af,g⟩ (yielded ops a.tmps)=true)(aT:(match d with | some k=>Nat.blt k n | none=>true)=true)(e:e7 P n w0 zs hs L ⟨d,op,ty,pos,af,g⟩ K)
  (h:∀ v zs' hs' a w,K v zs' hs'→Fr n (kL d v L) a→aC w0 zs' hs' w→wpList P ops Q rest a w):wpList P ops Q (⟨d,op,ty,pos,af,g⟩::rest) a w:=by
 unfold wpList
 rw [if_pos (aO a ab)]
 refine .inl (e a ab w U _ _ fun v zs' hs' w' dE ju=>h v zs' hs' _ w' dE (ab.up ?_) ju)
 cases d with
 | none=>trivial
 | some k=>exact Nat.blt_eq.mp aT
def vg(L:List (Nat×Value))(o:Oper):Bool:=match o.dst with | some d => !(L.any fun p=>Nat.beq p.1 d) | none=>true
def n1(n:Nat)(L:List (Nat×Value))(g:Nat)(b:Bool)(l:List Oper):Bool:=
 l.all fun o=>(match o.guard with | some (hJ,gB)=>Nat.beq g hJ&&(gB == b) | none=>false)&&vg L o&&(match o.dst with | some d=>Nat.blt d n | none=>true)
theorem yC:∀ {L:List (Nat×Value)}{t:Nat}{v:Value},look L t=some v→(L.any fun p=>Nat.beq p.1 t)=true
 | (s,u)::r,t,v,h=>by
  unfold look at h
  cases au:Nat.beq s t with
  | true=>simp [au]
  | false=>rw [au] at h;simp only [cond_false] at h;simp [yC h]
theorem Np{d:Option Tmp}{v u:Value}{t:Nat}(h:look L t=some u)(aT:(match d with | some d => !(L.any fun p=>Nat.beq p.1 d) | none=>true)=true):look (kL d v L) t=some u:=by
 cases d with
 | none=>exact h
 | some d=>
  simp only [kL]
  unfold look
  cases au:Nat.beq d t with
  | true=>
   have:d=t:=Nat.eq_of_beq_eq_true au
   subst this
   have cC:(!(L.any fun p=>Nat.beq p.1 d))=true:=aT
   rw [yC h] at cC
   cases cC
  | false=>simpa using h
def Sub(L fM:List (Nat×Value)):Prop:=∀ t v,look L t=some v→look fM t=some v
theorem Fr.nK[aW]{fM:List (Nat×Value)}{a:Act}(h:Fr n fM a)(hs:Sub L fM):Fr n L a:=⟨h.size,h.nodef,fun t v bx=>h.get t v (hs t v bx)⟩
theorem uz[aW]{iI:List Oper}{fM:List (Nat×Value)}{g:Nat}{b:Bool}:∀ {m:Nat}{l:List Oper}{jO:List (Nat×Value)},fk P n w0 zs hs ops m jO l fM iI→n1 n L g b (l.take m)=true→Sub L jO→Sub L fM
 | 0,_,_,h,_,hs=>by obtain ⟨rfl,_⟩:=h;exact hs
 | m+1,_,_,h,aO,hs=>by
  obtain ⟨o,r,v,rfl,aT,cn,aY⟩:=h
  rw [List.take_succ_cons] at aO
  unfold n1 at aO
  rw [List.all_cons,Bool.and_eq_true,Bool.and_eq_true,Bool.and_eq_true] at aO
  refine uz (m:=m) (g:=g) (b:=b) aY aO.2 fun t u hu=>?_
  have tF:=aO.1.1.2
  unfold vg at tF
  cases tP:o.dst with
  | none=>exact hs t u hu
  | some d=>
   rw [tP] at tF
   simp only [kL]
   unfold look
   cases au:Nat.beq d t with
   | true=>
    have:d=t:=Nat.eq_of_beq_eq_true au
    subst this
    have cC:(!(L.any fun p=>Nat.beq p.1 d))=true:=tF
    rw [yC hu] at cC
    cases cC
   | false=>simpa using hs t u hu
theorem C9[aW]{Q:Exit→Act→World→Prop}{g gt:Nat}{b c:Bool}(lr:(ops[g]?).bind (·.dst)=some gt)(tz:(!b)=c):∀ {m:Nat}{l:List Oper}{a:Act}{w:World},Fr n L a→look L gt=some (.bool c)→n1 n L g b (l.take m)=true →
  (∀ a,Fr n L a→wpList P ops Q (l.drop m) a w)→wpList P ops Q l a w
 | 0,_,a,_,ab,_,_,K=>K a ab
 | m+1,[],a,_,ab,_,_,K=>K a ab
 | m+1,o::r,a,w,ab,hl,aO,K=>by
  rw [List.take_succ_cons] at aO
  unfold n1 at aO
  rw [List.all_cons,Bool.and_eq_true,Bool.and_eq_true,Bool.and_eq_true] at aO
  obtain ⟨⟨⟨h1,aq⟩,aQ⟩,bH⟩:=aO
  have hw:Region.wanted o (yielded ops a.tmps)=false:=by
   cases tQ:o.guard with
   | none=>rw [tQ] at h1;cases h1
   | some gb=>
    obtain ⟨hJ,gB⟩:=gb
    rw [tQ] at h1
    simp only [Bool.and_eq_true,beq_iff_eq] at h1
    have bK:g=hJ:=Nat.eq_of_beq_eq_true h1.1
    subst bK
    obtain ⟨-,rfl⟩:=h1
    subst tz
    simp [Region.wanted,tQ,wU ab lr hl]
  unfold wpList
  rw [if_neg (by rw [hw];simp)]
  have kA:Fr n (kL o.dst undef L) (a.put o.dst undef):=ab.up (by
   cases tP:o.dst with
   | none=>trivial
   | some d=>rw [tP] at aQ;exact Nat.blt_eq.mp aQ)
  exact C9 (m:=m) lr tz (kA.nK fun t v bx=>Np bx (by unfold vg at aq;exact aq)) hl bH K
theorem fS[aW]{c q:Bool}(g gt m:Nat){rest l:List Oper}{fM:List (Nat×Value)}{pd:Tmp}{pt:TypeId}{pp:String}{pa:Array Edge}{x y:Operand}{Q:Exit→Act→World→Prop}{a:Act}{w:World}
  (ab:Fr n L a) (U:aC w0 zs hs w) (dY:look L gt=some (.bool c)) (lr:(ops[g]?).bind (·.dst)=some gt) (hl:l.drop m=⟨some pd,.pick (.tmp gt) x y,pt,pp,pa,none⟩::rest) (hi:n1 n L g false (l.take m)=true) (im:Nat.blt pd n=true)
  (mw:c=false→fk P n w0 zs hs ops m ((gt,.bool false)::L) l fM (⟨some pd,.pick (.tmp gt) x y,pt,pp,pa,none⟩::rest)) (aL:aU L x=some (.bool true)) (cS:aU fM y=some (.bool q))
  (K:∀ a w,Fr n ((pd,.bool (c || q))::L) a→aC w0 zs hs w→wpList P ops Q rest a w):wpList P ops Q l a w:=by
 have au:rq n (some pd):=Nat.blt_eq.mp im
 cases c with
 | true=>
  refine C9 (m:=m) (b:=false) (c:=true) lr rfl ab dY hi fun a ab=>?_
  rw [hl]
  exact k8 ab U (l7 im (iN dY aL) ah) K
 | false=>
  have hs:=mw rfl
  have h1:Sub L ((gt,.bool false)::L):=fun t v bx=>by
   unfold look
   cases au:Nat.beq gt t with
   | true=>
    have:gt=t:=Nat.eq_of_beq_eq_true au
    subst this
    rw [dY] at bx
    exact bx
   | false=>simpa using bx
  have mj:Fr n ((gt,.bool false)::L) a:=⟨ab.size,ab.nodef,fun t v bx=>by
   unfold look at bx
   cases au:Nat.beq gt t with
   | true=>
    have:gt=t:=Nat.eq_of_beq_eq_true au
    subst this
    simp only [au,cond_true,Option.some.injEq] at bx
    subst bx
    exact ab.get _ _ dY
   | false=>
    rw [au] at bx
    exact ab.get t v bx⟩
  have hL:=uz (g:=g) (b:=false) hs hi h1
  refine k8 mj U hs fun a w kA U=>?_
  refine k8 kA U (l7 im (hY (hL gt _ dY) cS) ah) fun a w mm U=>K a w ?_ U
  refine mm.nK fun t v bx=>?_
  unfold look at bx ⊢
  cases au:Nat.beq pd t with
  | true=>rw [au] at bx;simpa using bx
  | false=>rw [au] at bx;exact hL t v bx
theorem jJ[aW]{c q:Bool}(g gt m:Nat){rest l:List Oper}{fM:List (Nat×Value)}{pd:Tmp}{pt:TypeId}{pp:String}{pa:Array Edge}{x y:Operand}{Q:Exit→Act→World→Prop}{a:Act}{w:World}
  (ab:Fr n L a) (U:aC w0 zs hs w) (dY:look L gt=some (.bool c)) (lr:(ops[g]?).bind (·.dst)=some gt) (hl:l.drop m=⟨some pd,.pick (.tmp gt) x y,pt,pp,pa,none⟩::rest) (hi:n1 n L g true (l.take m)=true) (im:Nat.blt pd n=true)
  (mw:c=true→fk P n w0 zs hs ops m ((gt,.bool true)::L) l fM (⟨some pd,.pick (.tmp gt) x y,pt,pp,pa,none⟩::rest)) (aL:aU fM x=some (.bool q)) (cS:aU L y=some (.bool false))
  (K:∀ a w,Fr n ((pd,.bool (c&&q))::L) a→aC w0 zs hs w→wpList P ops Q rest a w):wpList P ops Q l a w:=by
 have au:rq n (some pd):=Nat.blt_eq.mp im
 cases c with
 | false=>
  refine C9 (m:=m) (b:=true) (c:=false) lr rfl ab dY hi fun a ab=>?_
  rw [hl]
  exact k8 ab U (l7 im (hY dY cS) ah) K
 | true=>
  have hs:=mw rfl
  have h1:Sub L ((gt,.bool true)::L):=fun t v bx=>by
   unfold look
   cases au:Nat.beq gt t with
   | true=>
    have:gt=t:=Nat.eq_of_beq_eq_true au
    subst this
    rw [dY] at bx
    exact bx
   | false=>simpa using bx
  have mj:Fr n ((gt,.bool true)::L) a:=⟨ab.size,ab.nodef,fun t v bx=>by
   unfold look at bx
   cases au:Nat.beq gt t with
   | true=>
    have:gt=t:=Nat.eq_of_beq_eq_true au
    subst this
    simp only [au,cond_true,Option.some.injEq] at bx
    subst bx
    exact ab.get _ _ dY
   | false=>
    rw [au] at bx
    exact ab.get t v bx⟩
  have hL:=uz (g:=g) (b:=true) hs hi h1
  refine k8 mj U hs fun a w kA U=>?_
  refine k8 kA U (l7 im (iN (hL gt _ dY) aL) ah) fun a w mm U=>K a w ?_ U
  refine mm.nK fun t v bx=>?_
  unfold look at bx ⊢
  cases au:Nat.beq pd t with
  | true=>rw [au] at bx;simpa using bx
  | false=>rw [au] at bx;exact hL t v bx
theorem ji[aW]:∀ {k:Nat}{L l L' l'}{Q:Act→Prop}{a:Act},Fr n L a→fk P n w0 zs hs ops k L l L' l' →
  (∀ a,Fr n L' a→wpQuiet P ops (aC w0 zs hs) Q l' a)→wpQuiet P ops (aC w0 zs hs) Q l a
 | 0,_,_,_,_,_,a,ab,h,K=>by obtain ⟨rfl,rfl⟩:=h;exact K a ab
 | k+1,_,_,_,_,_,a,ab,h,K=>by
  obtain ⟨o,r,v,rfl,aT,cn,aY⟩:=h
  unfold wpQuiet
  rcases cn a ab with ⟨hw,cn⟩ | ⟨hw,rfl⟩
  ·simp only [hw,if_true]
   exact ⟨v,fun w hw=>cn w hw,ji (ab.up aT) aY K⟩
  ·simp only [hw,Bool.false_eq_true,if_false]
   exact ji (ab.up aT) aY K
theorem zQ{Q:Act→Prop}{a:Act}(h:Q a):wpQuiet P ops (aC w0 zs hs) Q [] a:=h
theorem za{l:List Oper}{id:Nat}{Q:Exit→Act→World→Prop}{a:Act}{w:World}(hm:P.follows .mixedOrders=true)(gq:Region.lexB .any l.toArray=true)(U:aC w0 zs hs w)
  (h:wpQuiet P l.toArray (aC w0 zs hs) (fun a=>∀ w,aC w0 zs hs w→Q .normal a w) l a):(Code.region id l.toArray true).wp P Q a w:=
 wp_region_quiet (C:=aC w0 zs hs) hm gq (U.drew _) h
theorem Da[aW]{Q:Act→Prop}{g gt:Nat}{b c:Bool}(lr:(ops[g]?).bind (·.dst)=some gt)(tz:(!b)=c):∀ {m:Nat}{l:List Oper}{a:Act},Fr n L a→look L gt=some (.bool c)→n1 n L g b (l.take m)=true →
  (∀ a,Fr n L a→wpQuiet P ops (aC w0 zs hs) Q (l.drop m) a)→wpQuiet P ops (aC w0 zs hs) Q l a
 | 0,_,a,ab,_,_,K=>K a ab
 | m+1,[],a,ab,_,_,K=>K a ab
 | m+1,o::r,a,ab,hl,aO,K=>by
  rw [List.take_succ_cons] at aO
  unfold n1 at aO
  rw [List.all_cons,Bool.and_eq_true,Bool.and_eq_true,Bool.and_eq_true] at aO
  obtain ⟨⟨⟨h1,aq⟩,aQ⟩,bH⟩:=aO
  have hw:Region.wanted o (yielded ops a.tmps)=false:=by
   cases tQ:o.guard with
   | none=>rw [tQ] at h1;cases h1
   | some gb=>
    obtain ⟨hJ,gB⟩:=gb
    rw [tQ] at h1
    simp only [Bool.and_eq_true,beq_iff_eq] at h1
    have bK:g=hJ:=Nat.eq_of_beq_eq_true h1.1
    subst bK
    obtain ⟨-,rfl⟩:=h1
    subst tz
    simp [Region.wanted,tQ,wU ab lr hl]
  unfold wpQuiet
  simp only [hw,Bool.false_eq_true,if_false]
  have kA:Fr n (kL o.dst undef L) (a.put o.dst undef):=ab.up (by
   cases tP:o.dst with
   | none=>trivial
   | some d=>rw [tP] at aQ;exact Nat.blt_eq.mp aQ)
  exact Da (m:=m) lr tz (kA.nK fun t v bx=>Np bx (by unfold vg at aq;exact aq)) hl bH K
theorem zR[aW]{c q:Bool}(g gt m:Nat){rest l:List Oper}{fM:List (Nat×Value)}{pd:Tmp}{pt:TypeId}{pp:String}{pa:Array Edge}{x y:Operand}{Q:Act→Prop}{a:Act}
  (ab:Fr n L a) (dY:look L gt=some (.bool c)) (lr:(ops[g]?).bind (·.dst)=some gt) (hl:l.drop m=⟨some pd,.pick (.tmp gt) x y,pt,pp,pa,none⟩::rest) (hi:n1 n L g false (l.take m)=true) (im:Nat.blt pd n=true)
  (mw:c=false→fk P n w0 zs hs ops m ((gt,.bool false)::L) l fM (⟨some pd,.pick (.tmp gt) x y,pt,pp,pa,none⟩::rest)) (aL:aU L x=some (.bool true)) (cS:aU fM y=some (.bool q))
  (K:∀ a,Fr n ((pd,.bool (c || q))::L) a→wpQuiet P ops (aC w0 zs hs) Q rest a):wpQuiet P ops (aC w0 zs hs) Q l a:=by
 have au:rq n (some pd):=Nat.blt_eq.mp im
 cases c with
 | true=>
  refine Da (m:=m) (b:=false) (c:=true) lr rfl ab dY hi fun a ab=>?_
  rw [hl]
  exact ji ab (l7 im (iN dY aL) ah) K
 | false=>
  have hs:=mw rfl
  have h1:Sub L ((gt,.bool false)::L):=fun t v bx=>by
   unfold look
   cases au:Nat.beq gt t with
   | true=>
    have:gt=t:=Nat.eq_of_beq_eq_true au
    subst this
    rw [dY] at bx
    exact bx
   | false=>simpa using bx
  have mj:Fr n ((gt,.bool false)::L) a:=⟨ab.size,ab.nodef,fun t v bx=>by
   unfold look at bx
   cases au:Nat.beq gt t with
   | true=>
    have:gt=t:=Nat.eq_of_beq_eq_true au
    subst this
    simp only [au,cond_true,Option.some.injEq] at bx
    subst bx
    exact ab.get _ _ dY
   | false=>
    rw [au] at bx
    exact ab.get t v bx⟩
  have hL:=uz (g:=g) (b:=false) hs hi h1
  refine ji mj hs fun a kA=>?_
  refine ji kA (l7 im (hY (hL gt _ dY) cS) ah) fun a mm=>K a ?_
  refine mm.nK fun t v bx=>?_
  unfold look at bx ⊢
  cases au:Nat.beq pd t with
  | true=>rw [au] at bx;simpa using bx
  | false=>rw [au] at bx;exact hL t v bx
theorem IC[aW]{c q:Bool}(g gt m:Nat){rest l:List Oper}{fM:List (Nat×Value)}{pd:Tmp}{pt:TypeId}{pp:String}{pa:Array Edge}{x y:Operand}{Q:Act→Prop}{a:Act}
  (ab:Fr n L a) (dY:look L gt=some (.bool c)) (lr:(ops[g]?).bind (·.dst)=some gt) (hl:l.drop m=⟨some pd,.pick (.tmp gt) x y,pt,pp,pa,none⟩::rest) (hi:n1 n L g true (l.take m)=true) (im:Nat.blt pd n=true)
  (mw:c=true→fk P n w0 zs hs ops m ((gt,.bool true)::L) l fM (⟨some pd,.pick (.tmp gt) x y,pt,pp,pa,none⟩::rest)) (aL:aU fM x=some (.bool q)) (cS:aU L y=some (.bool false))
  (K:∀ a,Fr n ((pd,.bool (c&&q))::L) a→wpQuiet P ops (aC w0 zs hs) Q rest a):wpQuiet P ops (aC w0 zs hs) Q l a:=by
 have au:rq n (some pd):=Nat.blt_eq.mp im
 cases c with
 | false=>
  refine Da (m:=m) (b:=true) (c:=false) lr rfl ab dY hi fun a ab=>?_
  rw [hl]
  exact ji ab (l7 im (hY dY cS) ah) K
 | true=>
  have hs:=mw rfl
  have h1:Sub L ((gt,.bool true)::L):=fun t v bx=>by
   unfold look
   cases au:Nat.beq gt t with
   | true=>
    have:gt=t:=Nat.eq_of_beq_eq_true au
    subst this
    rw [dY] at bx
    exact bx
   | false=>simpa using bx
  have mj:Fr n ((gt,.bool true)::L) a:=⟨ab.size,ab.nodef,fun t v bx=>by
   unfold look at bx
   cases au:Nat.beq gt t with
   | true=>
    have:gt=t:=Nat.eq_of_beq_eq_true au
    subst this
    simp only [au,cond_true,Option.some.injEq] at bx
    subst bx
    exact ab.get _ _ dY
   | false=>
    rw [au] at bx
    exact ab.get t v bx⟩
  have hL:=uz (g:=g) (b:=true) hs hi h1
  refine ji mj hs fun a kA=>?_
  refine ji kA (l7 im (iN (hL gt _ dY) aL) ah) fun a mm=>K a ?_
  refine mm.nK fun t v bx=>?_
  unfold look at bx ⊢
  cases au:Nat.beq pd t with
  | true=>rw [au] at bx;simpa using bx
  | false=>rw [au] at bx;exact hL t v bx
end
end Go.aJ
end
section
namespace Go.aJ
theorem aC.mark{w0:World}{zs:List aP}{r:av}{hs:List av}{w w':World}{b:Nat}(o:Obj)(h:aC w0 zs (r::hs) w)(m5:r.id=some b)(hw:∀ k,k≠b→w'.heap[k]?=w.heap[k]?)(bA:w'.heap[b]?=some o)(qF:ma w w'):aC w0 (dU b o::zs) hs w':=by
 have eY:=h.own r List.mem_cons_self
 have mu:=av.mE eY.1 b m5
 have fq:∀ s∈hs,s.id≠some b:=by
  intro s hs' e
  have fO:=h.nd
  rw [List.filterMap_cons,m5] at fO
  exact (List.nodup_cons.1 fO).1 (List.mem_filterMap.2 ⟨s,hs',e⟩)
 refine ⟨fun k ob aD=>?_,fun z bj=>?_,fun s hs'=>⟨?_,fun k aD z bj=>?_⟩,Ep (List.sublist_cons_self _ _) h.nd,h.io.trans qF⟩
 ·have h1:=h.ext k ob aD
  have qH:k≠b:=by have:=kJ aD;omega
  simp only [b1] at h1 ⊢
  rw [hw k qH];exact h1
 ·rcases List.mem_cons.1 bj with rfl | qL
  ·refine ⟨fun k ob aD=>?_,fun k ob aD=>?_⟩
   ·obtain ⟨rfl,rfl⟩:=r8 aD;exact bA
   ·obtain ⟨rfl,rfl⟩:=r8 aD;exact mu.1
  ·refine ⟨fun k ob aD=>?_,(h.zone z qL).2⟩
   have h1:=(h.zone z qL).1 k ob aD
   have qH:k≠b:=by
    intro e
    rw [e,eY.2 b m5 z qL] at aD
    cases aD
   simp only [b1] at h1 ⊢
   rw [hw k qH];exact h1
 ·exact av.uh (h.own s (List.mem_cons_of_mem _ hs')).1 fun k aD=>hw k fun e=>fq s hs' (by rw [← e];exact aD)
 ·rcases List.mem_cons.1 bj with rfl | bj
  ·unfold dU
   rw [if_neg (fun e=>fq s hs' (by rw [← e];exact aD))]
  ·exact (h.own s (List.mem_cons_of_mem _ hs')).2 k aD z bj
section
variable {P:Program}{n:Nat}{w0:World}{zs:List aP}{hs:List av}{L:List (Nat×Value)}{d:Option Tmp}{ty t bZ:TypeId}{pos:String}{af:Array Edge}{g:Option (Nat×Bool)}
variable {x y c nI nJ ki:Operand}{u v:Value}
theorem l0[aW]{o:Oper}{p:Prop}[Decidable p](q:bL P n w0 zs hs L o (.bool (decide p)))(h:p):bL P n w0 zs hs L o (.bool true):=by rwa [decide_eq_true h] at q
theorem adp[aW]{o:Oper}{p:Prop}[Decidable p](q:bL P n w0 zs hs L o (.bool (decide p)))(h:¬ p):bL P n w0 zs hs L o (.bool false):=by rwa [decide_eq_false h] at q
theorem lF[aW]{o:Oper}{p:Prop}[Decidable p](q:bL P n w0 zs hs L o (.bool (!decide p)))(h:p):bL P n w0 zs hs L o (.bool false):=by rwa [decide_eq_true h] at q
theorem adm[aW]{o:Oper}{b:Bool}(q:bL P n w0 zs hs L o (.bool b))(h:b=true):bL P n w0 zs hs L o (.bool true):=by rwa [h] at q
theorem Ha[aW]{o:Oper}{b:Bool}(q:bL P n w0 zs hs L o (.bool b))(h:b=false):bL P n w0 zs hs L o (.bool false):=by rwa [h] at q
end
end Go.aJ
end
section
namespace Go.aJ
section
variable {P:Program}{n:Nat}{w0:World}{zs:List aP}{hs:List av}{L:List (Nat×Value)}{d:Option Tmp}{ty t bZ:TypeId}{pos:String}{af:Array Edge}{g:Option (Nat×Bool)}
variable {x y c nI nJ ki:Operand}{u v:Value}
theorem cE[aW]{k:Nat}{vs:List Value}(h1:aU L x=some (.tuple vs.toArray))(aD:vs[k]?=some v):bL P n w0 zs hs L ⟨d,.extract x k,ty,pos,af,g⟩ v:=
 eC fun a a7 w hw=>by
  simp only [execOp,a7.eval h1]
  simp [Instr.extract,aD]
def eH(P:Program)(f:FuncId)(args:List Value)(w0:World)(bP:List aP)(own:List av)(R:Value→List aP→List av→Prop):Prop:=
 ∀ (cw:List av) (w:World),aC w0 bP (own++cw) w→Calls P f args.toArray w fun e w'=>∃ v dj cV,e=.returned v∧aC w0 (dj++bP) (cV++cw) w'∧R v dj cV
theorem fF{f:FuncId}{fn:Func}{cd:Code}(bw:P.funcs[f]?=some fn)(au:fn.body=some cd){k:Nat}(aD:fn.ntmps=k){args:List Value}(bA:args.length≤k){w0:World}{bP:List aP}{own:List av}{R:Value→List aP→List av→Prop}
  (h:∀ (cw:List av) a w,Fr k (oS 0 args) a→aC w0 bP (own++cw) w→cd.wp P (bodyPost P fn fun e w'=>∃ v dj cV,e=.returned v∧aC w0 (dj++bP) (cV++cw) w'∧R v dj cV) a w):eH P f args w0 bP own R:=by
 subst aD
 intro cw w U
 exact calls_of_wp bw au (h cw _ w (Fr.enter _ _ bA) U)
theorem cQ{fn:Func}{w:World}{a:Act}{R:Value→List aP→List av→Prop}{rs:List ResultVar}{bP:List aP}{cw:List av}(lx:fn.results=rs.toArray)(ab:Fr n L a)(U:aC w0 zs hs w){vs:List Value}(bx:ri P L hs rs vs)(dj:List aP)(cV:List av)(h1:(dj++bP).Sublist zs)(aq:(cV++cw).Sublist hs)(fH:R (uw vs) dj cV) :
  bodyPost P fn (fun e w'=>∃ v dj cV,e=.returned v∧aC w0 (dj++bP) (cV++cw) w'∧R v dj cV) .ret a w:=
 ⟨ab.nodef,_,sw lx ab U bx,_,_,_,rfl,U.ak h1 aq,fH⟩
theorem dy[aW]{f:FuncId}(bw:bU P f){os:List Operand}{vs:List Value}{ats:Array TypeId}{R:Value→List aP→List av→Prop}{own rest:List av}(h1:ic L os=some vs)(bN:(own++rest).Perm hs)(bu:eH P f vs w0 zs own R) :
  e7 P n w0 zs hs L ⟨d,.call ⟨.value (.func f),os.toArray,ats⟩,ty,pos,af,g⟩ (fun v zs' hs'=>∃ hR h1,zs'=hR++zs∧hs'=h1++rest∧R v hR h1):=by
 intro a a7 w hw next Q bA
 unfold Oper.wp
 rw [HI bw a7 h1]
 exact Calls.mono (bu rest w (hw.perm bN)) fun e w' ⟨dd,zs',hs',he,U,aY⟩=>by
  subst he
  exact bA dd _ _ w' ⟨zs',hs',rfl,rfl,aY⟩ U
theorem ch.dx{f:FuncId}{args:List Value}{bP:List aP}{R:Value→List aP→List av→Prop}(h:∀ w,aC w0 bP [] w→ch P f args w R):eH P f args w0 bP [] R:=by
 intro cw w U
 refine Calls.mono (h w (U.ak (List.Sublist.refl _) (List.nil_sublist _))) fun e w' ⟨v,zs,hs,he,ju,aY⟩=>⟨v,zs,hs,he,U.call ju,aY⟩
def WC(v:Value):Value:=
 match v with
 | .slice a m _=>.slice (if m=0 then a else a.map (·.add 0)) m m
 | _=>undef
theorem bg.full{α:Type}{E:dO α}{z:aP}{xs:List α}(h:bg E z v xs):bg E z (WC v) xs:=by
 obtain ⟨au,a,c,rfl,bu,h⟩:=h
 refine ⟨au,_,xs.length,rfl,Nat.le_refl _,fun i xx aL=>?_⟩
 have aG:=(List.getElem?_eq_some_iff.1 aL).1
 obtain ⟨b,off,cs,ty,fz,dx,rfl,aq,aQ,bH⟩:=h i xx aL
 refine ⟨b,off,cs,ty,fz,dx,?_,aq,aQ,bH⟩
 rw [if_neg (by omega)]
 rfl
end
end Go.aJ
end
section
namespace Go.aJ
section
variable {P:Program}{n:Nat}{w0:World}{zs:List aP}{hs:List av}{ops:Array Oper}{L:List (Nat×Value)}{d:Option Tmp}{ty t bZ:TypeId}{pos:String}{af:Array Edge}{g:Option (Nat×Bool)}
variable {x y c nI nJ ki:Operand}{u v:Value}
theorem adx[aW]{z:aP}{m:Nat}{xs:List (List UInt8)}{bM:TypeDesc}{bp:Nat}{zv:Value}(aM:a1 P t bM m bp zv){k:Nat}(U:bg (oR m) z v xs)(bj:gp w0 zs z)(h1:aU L x=some (c6 v (k*m)))(aT:eV bM=true)(h0:0<m)(aD:k<xs.length) :
  bL P n w0 zs hs L ⟨d,.load t x,ty,pos,af,g⟩ (.agg ((xs.getD k []).map bf).toArray):=by
 have:=Hg (P:=P) (n:=n) (w0:=w0) (zs:=zs) (hs:=hs) (d:=d) (ty:=ty) (pos:=pos) (af:=af) (g:=g) (E:=oR m) aM (k:=k) (m:=k*m) rfl h0 U bj h1 aT aD
 have aY:=U.rep (i:=k) (x:=xs[k]) (by simp [aD])
 have e:nU z (c6 v (k*(oR m).size)) (oR m).size=(xs.getD k []).map bf:=by
  rw [aY.2]
  simp [aD]
 rwa [e] at this
theorem Kv{α:Type}{E:dO α}{z:aP}{xs:List α}(U:bg E z v xs){k:Nat}(aD:k<xs.length):∃ b off,c6 v (k*E.size)=.pointer (some ⟨b,off,none⟩)∧∀ j,c6 v (k*E.size+j)=.pointer (some ⟨b,off+j,none⟩):=by
 obtain ⟨_,a,cc,rfl,_,h⟩:=U
 obtain ⟨b,off,cs,lI,fz,dx,rfl,_⟩:=h k xs[k] (by simp [aD])
 exact ⟨b,off+k*E.size,by simp [c6,fm],fun j=>by simp [c6,fm,Nat.add_assoc]⟩
theorem OW[aW]{m:Nat}{e:TypeId}{s bp:Nat}{zv:Value}(aM:a1 P t (.array m e) s bp zv){be:Nat}{ze:Value}(cg:a1 P e (.int .u8) 1 be ze)(aO:P.eqGuardType P.depth t=false){xs ys:List UInt8}(h1:aU L x=some (.agg (xs.map bf).toArray))(aq:aU L y=some (.agg (ys.map bf).toArray))(aL:xs.length=m)(cS:ys.length=m) :
  bL P n w0 zs hs L ⟨d,.binOp .neq t x y bZ,ty,pos,af,g⟩ (.bool (!decide (xs=ys))):=
 e0 h1 aq (fun w=>run_eqGuard_agg w _ _ _ _ _ _ aO) fun w=>by
  cases aG:P.info? e with
  | none=>have:=cg.inf;simp [aG] at this
  | some i=>
   have bu:P.cellsOf e=1:=by have:=cg.inf;simp [aG] at this;simp [Program.cellsOf,aG,this.1]
   rw [run_neq_struct,run_equalIn_array w 9999 _ _ aM.und aG,bu,HJ cg 9998 xs ys w _ (fun j a6=>by rw [List.mem_range] at a6;omega)]
   simp only [Result.andThen_ok]
   congr 3
   rw [Bool.eq_iff_iff]
   simp only [decide_eq_true_eq,List.mem_range]
   constructor
   ·intro h
    apply List.ext_getElem (by omega)
    intro j pL lu
    have:=h j (by omega)
    rwa [List.getD_eq_getElem?_getD,List.getD_eq_getElem?_getD,List.getElem?_eq_getElem pL,List.getElem?_eq_getElem lu] at this
   ·intro h j _;rw [h]
theorem Lt:∀ (cs:List Value) (k:Nat) (A:Array Value),A.size=k+cs.length→(cs.zipIdx k).foldl (fun A x=>A.setIfInBounds x.2 x.1) A=(A.toList.take k++cs).toArray
 | [],k,A,h=>by
  simp only [List.zipIdx_nil,List.foldl_nil,List.append_nil]
  rw [List.take_of_length_le (by simpa using Nat.le_of_eq h)]
 | c::cs,k,A,h=>by
  rw [List.zipIdx_cons,List.foldl_cons,Lt cs (k+1) _ (by simp at h ⊢;omega)]
  congr 1
  simp only [List.length_cons] at h
  have aD:k<A.toList.length:=by simp;omega
  rw [Array.toList_setIfInBounds,List.take_succ_eq_append_getElem (by simpa using aD),List.take_set,List.getElem_set_self,List.append_assoc]
  congr 1
  rw [List.set_eq_of_length_le (by simp;omega)]
theorem qt[aW]{e:TypeId}{s bp:Nat}{zv:Value}(aM:a1 P t (.slice e) s bp zv){de:TypeDesc}{m be:Nat}{zc:List Value}(cg:a1 P e de m be (.agg zc.toArray)){cs:List Value}(h1:aU L x=some (.agg cs.toArray))(hl:cs.length=m)(bj:zc.length=m)(nw:∀ v∈cs,v.oneCell'=true)(au:1*m≤16777216)(h0:0<m) :
  e7 P n w0 zs hs L ⟨d,.buildSlice t 1 #[(0,x)],ty,pos,af,g⟩ (fun v zs' hs'=>zs'=zs∧hs'=.row v e m 1 cs::hs):=by
 refine Eg aM cg (vparts:=[(0,.agg cs.toArray)]) (by simp [h1]) ?_ au (by simp;omega) (by simpa using hl)
 subst hl
 simp only [Instr.fill,Value.cells,Nat.zero_mul,Nat.one_mul]
 simp [Instr.fill,Value.cells]
 have:=Lt cs 0 (Array.map (fun x=>zc[x%zc.length]?.getD default) (Array.range cs.length)) (by simp)
 simpa using this
end
end Go.aJ
end
section
namespace Go.aJ
section
variable {P:Program}{n:Nat}{w0:World}{zs:List aP}{hs:List av}{ops:Array Oper}{L:List (Nat×Value)}
def AX(L:List (Nat×Value))(l:List Oper):Bool:=l.all (vg L)
theorem H2[aW]{iI:List Oper}{fM:List (Nat×Value)}:∀ {m:Nat}{l:List Oper}{jO:List (Nat×Value)},fk P n w0 zs hs ops m jO l fM iI→AX L (l.take m)=true→Sub L jO→Sub L fM
 | 0,_,_,h,_,hs=>by obtain ⟨rfl,_⟩:=h;exact hs
 | m+1,_,_,h,aO,hs=>by
  obtain ⟨o,r,v,rfl,aT,cn,aY⟩:=h
  rw [List.take_succ_cons] at aO
  unfold AX at aO
  rw [List.all_cons,Bool.and_eq_true] at aO
  refine H2 (m:=m) aY aO.2 fun t u hu=>?_
  have tF:=aO.1
  unfold vg at tF
  cases tP:o.dst with
  | none=>exact hs t u hu
  | some d=>
   rw [tP] at tF
   simp only [kL]
   unfold look
   cases au:Nat.beq d t with
   | true=>
    have:d=t:=Nat.eq_of_beq_eq_true au
    subst this
    have cC:(!(L.any fun p=>Nat.beq p.1 d))=true:=tF
    rw [yC hu] at cC
    cases cC
   | false=>simpa using hs t u hu
theorem CP{gt:Nat}{b:Bool}(dY:look L gt=some (.bool b)):Sub L ((gt,.bool b)::L):=fun t v bx=>by
 unfold look
 cases au:Nat.beq gt t with
 | true=>
  have:gt=t:=Nat.eq_of_beq_eq_true au
  subst this
  rw [dY] at bx
  exact bx
 | false=>simpa using bx
theorem AW[aW]{gt:Nat}{b:Bool}{a:Act}(ab:Fr n L a)(dY:look L gt=some (.bool b)):Fr n ((gt,.bool b)::L) a:=⟨ab.size,ab.nodef,fun t v bx=>by
 unfold look at bx
 cases au:Nat.beq gt t with
 | true=>
  have:gt=t:=Nat.eq_of_beq_eq_true au
  subst this
  simp only [au,cond_true,Option.some.injEq] at bx
  subst bx
  exact ab.get _ _ dY
 | false=>
  rw [au] at bx
  exact ab.get t v bx⟩
theorem zq{pd:Nat}{v:Value}{fM:List (Nat×Value)}(h:Sub L fM):Sub ((pd,v)::L) ((pd,v)::fM):=fun t u hu=>by
 unfold look at hu ⊢
 cases au:Nat.beq pd t with
 | true=>rw [au] at hu;simpa using hu
 | false=>rw [au] at hu;exact h t u hu
end
end Go.aJ
namespace Go.aJ
theorem yI{p:Prop}[Decidable p](h:(!decide p)=false):p:=by simpa using h
end Go.aJ
end
section
namespace Go.aJ
open Go.ChangeShapes Go.WideShapes Go.ChangeAt Go.RowKit
variable {H:Type}{enc:TypeId×Value→H}{P:Program}{W:World}{t e:TypeId}
structure ahL (bk:DataW H→Nat) (xu:List (DataW H)→Nat):Prop where
 str:∀ b,bk (.lit (.string b))=b.length+1
 sl:∀ e s,bk (.slice e s)=xu e+xu s+1
 nil:xu []=0
 cons:∀ d r,xu (d::r)=bk d+xu r
 pos:∀ d,1≤bk d
def ail{α:Type}(enc:TypeId×Value→H)(P:Program)(W:World)(E:dO α)(t:TypeId)(bk:DataW H→Nat)(gO:α→Nat):Prop:=
 ∀ fuel cs x,DataW.trod enc P W 0 (fun _=>true) true fuel t cs=some x→(x.1.weights P t).all (· ≤ reachBytes)=true→∃ a,E.rep (b1 W) a cs∧gO a≤bk x.1
theorem ow{α:Type}{gO:α→Nat}(h:∀ x,1≤gO x):∀ (xs:List α),xs.length≤(xs.map gO).sum
 | []=>by simp
 | y::ys=>by
  have:=ow h ys
  have:=h y
  simp only [List.map_cons,List.sum_cons,List.length_cons]
  omega
end Go.aJ
end
section
namespace Go.aJ
theorem aC.union{w0:World}{zs:List aP}{hs:List av}{w:World}(h:aC w0 zs hs w):∃ z,(∀ z'∈zs,z'.le z)∧aC w0 (z::zs) hs w:=by
 let z:aP:=fun b=>if zs.any (fun z'=>(z' b).isSome)=true then w.heap[b]? else none
 have bj:∀ b o,z b=some o→∃ z'∈zs,z' b=some o:=by
  intro b o au
  replace au:(if zs.any (fun z'=>(z' b).isSome)=true then w.heap[b]? else none)=some o:=au
  split at au
  ·rename_i a7
   obtain ⟨z',hm,hs⟩:=List.any_eq_true.1 a7
   obtain ⟨o',Mq⟩:=Option.isSome_iff_exists.1 hs
   have:=(h.zone z' hm).1 _ _ Mq
   have e:w.heap[b]?=some o':=this
   rw [e] at au
   exact ⟨z',hm,by rw [Mq,au]⟩
  ·cases au
 have r2:∀ b,(∀ z'∈zs,z' b=none)→z b=none:=by
  intro b au
  cases fK:z b with
  | none=>rfl
  | some o=>
   obtain ⟨z',hm,he⟩:=bj b o fK
   rw [au z' hm] at he
   cases he
 refine ⟨z,fun z' hm b o au=>?_,h.ext,?_,?_,h.nd,h.io⟩
 ·show (if zs.any (fun z'=>(z' b).isSome)=true then w.heap[b]? else none)=some o
  rw [if_pos (List.any_eq_true.2 ⟨z',hm,by rw [au];rfl⟩)]
  exact (h.zone z' hm).1 _ _ au
 ·intro z' hm
  rcases List.mem_cons.1 hm with rfl | hm
  ·exact ⟨fun b o au=>by obtain ⟨z',hm,he⟩:=bj b o au;exact (h.zone z' hm).1 _ _ he,fun b o au=>by obtain ⟨z',hm,he⟩:=bj b o au;exact (h.zone z' hm).2 _ _ he⟩
  ·exact h.zone z' hm
 ·intro r aY
  refine ⟨(h.own r aY).1,fun b au z' hm=>?_⟩
  rcases List.mem_cons.1 hm with rfl | hm
  ·exact r2 b ((h.own r aY).2 b au)
  ·exact (h.own r aY).2 b au z' hm
theorem row_one{base:Nat}{w:World}{v:Value}{e:TypeId}{s m:Nat}{cs:List Value}(h:(av.row v e s m cs).ok base w):v.oneCell'=true:=by
 rcases h.2 with ⟨rfl,_⟩ | ⟨b,cap,cur,rfl,_⟩ <;> rfl
theorem mL{α:Type}{E:dO α}{z:aP}{v:Value}{xs:List α}(h:bg E z v xs):v.oneCell'=true:=by obtain ⟨_,a,c,rfl,_⟩:=h;rfl
def ll{α:Type}(E:dO α)(z:aP):List Value→List (List α)→Prop
 | [],[]=>True
 | v::vs,x::xs=>bg E z v x∧ll E z vs xs
 | _,_=>False
theorem ll.get{α:Type}{E:dO α}{z:aP}:∀ {vs:List Value}{xs:List (List α)},ll E z vs xs→∀ (i:Nat) (x:List α),xs[i]?=some x→∃ v,vs[i]?=some v∧bg E z v x
 | [],[],_,i,x,aL=>by simp at aL
 | v::vs,y::xs,h,0,x,aL=>by
  simp only [List.getElem?_cons_zero,Option.some.injEq] at aL
  subst aL
  exact ⟨v,rfl,h.1⟩
 | v::vs,y::xs,h,i+1,x,aL=>by
  simp only [List.getElem?_cons_succ] at aL ⊢
  exact ll.get h.2 i x aL
end Go.aJ
end
section
namespace Go.aJ
def sI(P:Program)(w:World)(fv:Value)(q:Int→Prop)(p:Int→Bool):Prop:=
 ∃ g fs cs,fv=.func (.func g) fs.toArray cs.toArray∧bU P g∧∀ w',(b1 w).le (b1 w')→∀ x,q x→ch P g (fs++[az x]++cs) w' (fun r _ _=>r=.bool (p x))
def wW(P:Program)(w:World)(fv:Value)(q:Int→Int→Prop)(p:Int→Int→Bool):Prop:=
 ∃ g fs cs,fv=.func (.func g) fs.toArray cs.toArray∧bU P g∧∀ w',(b1 w).le (b1 w')→∀ x y,q x y→ch P g (fs++[az x,az y]++cs) w' (fun r _ _=>r=.bool (p x y))
theorem aP.BN{a b c:aP}(h1:a.le b)(aq:b.le c):a.le c:=fun k o h=>aq k o (h1 k o h)
theorem sI.mono{P:Program}{w w':World}{fv:Value}{q:Int→Prop}{p:Int→Bool}(h:sI P w fv q p)(hle:(b1 w).le (b1 w')):sI P w' fv q p:=by
 obtain ⟨g,fs,cs,h1,aq,aQ⟩:=h
 exact ⟨g,fs,cs,h1,aq,fun lJ bH=>aQ lJ (aP.BN hle bH)⟩
theorem wW.mono{P:Program}{w w':World}{fv:Value}{q:Int→Int→Prop}{p:Int→Int→Bool}(h:wW P w fv q p)(hle:(b1 w).le (b1 w')):wW P w' fv q p:=by
 obtain ⟨g,fs,cs,h1,aq,aQ⟩:=h
 exact ⟨g,fs,cs,h1,aq,fun lJ bH=>aQ lJ (aP.BN hle bH)⟩
theorem sI.one{P:Program}{w:World}{fv:Value}{q:Int→Prop}{p:Int→Bool}(h:sI P w fv q p):fv.oneCell'=true:=by obtain ⟨g,fs,cs,rfl,_⟩:=h;rfl
theorem wW.one{P:Program}{w:World}{fv:Value}{q:Int→Int→Prop}{p:Int→Int→Bool}(h:wW P w fv q p):fv.oneCell'=true:=by obtain ⟨g,fs,cs,rfl,_⟩:=h;rfl
section
variable {P:Program}{n:Nat}{w0:World}{zs:List aP}{hs:List av}{L:List (Nat×Value)}{d:Option Tmp}{ty t:TypeId}{pos:String}{af:Array Edge}{g:Option (Nat×Bool)}{x:Operand}
theorem adr[aW]{fv:Value}{q:Int→Prop}{p:Int→Bool}(bw:sI P w0 fv q p)(h0:aU L x=some fv){y:Operand}{m:Int}(h1:aU L y=some (az m)){ats:Array TypeId}(cn:q m) :
  bL P n w0 zs hs L ⟨d,.call ⟨.value x,#[y],ats⟩,ty,pos,af,g⟩ (.bool (p m)):=by
 obtain ⟨f,fs,cs,rfl,aq,aQ⟩:=bw
 have xM:ic L [y]=some [az m]:=by simp only [ic,h1]
 exact yR aq h0 xM (fun w U=>aQ w U.ext m cn) (fun _ _ _ h=>h)
end
theorem KH(pl:Nat→Option (Nat×Nat)):∀ (vs pre post:List Value),(∀ k,k<pre.length+vs.length→pl k=some (k,1))→(∀ v∈vs,v.oneCell'=true)→post.length=vs.length→Instr.fill pl (pre++post).toArray (List.zip (List.range' pre.length vs.length) vs)=some (pre++vs).toArray
 | [],pre,post,_,_,bN=>by
  have:post=[]:=List.eq_nil_of_length_eq_zero (by simpa using bN)
  subst this
  simp [Instr.fill]
 | v::vs,pre,post,hK,h1,bN=>by
  cases post with
  | nil=>simp at bN
  | cons p post=>
   have bx:=h1 v (by simp)
   have bu:v.cells=#[v]:=by cases v <;> first | rfl | (simp [Value.oneCell'] at bx)
   rw [List.length_cons,List.range'_succ,List.zip_cons_cons]
   simp only [Instr.fill,bu,hK pre.length (by simp)]
   rw [if_neg (by simp)]
   have e:(Array.foldl (fun cs (x:Value×Nat)=>cs.setIfInBounds (pre.length+x.2) x.1) (pre++p::post).toArray (#[v].zipIdx))=((pre++[v])++post).toArray:=by
    simp
   have ih:=KH pl vs (pre++[v]) post (fun k aD=>hK k (by simp at aD ⊢;omega)) (fun u hu=>h1 u (by simp [hu])) (by simpa using bN)
   rw [show (pre++[v]).length=pre.length+1 by simp] at ih
   refine Eq.trans ?_ (ih.trans (by simp))
   rw [← e]
theorem Oy(m:Nat)(k:Nat)(aD:k<m):((List.range' 0 m).map fun i=>(i,1)).toArray[k]?=some (k,1):=by
 simp [aD]
section
variable {P:Program}{n:Nat}{w0:World}{zs:List aP}{hs:List av}{L:List (Nat×Value)}{d:Option Tmp}{ty t:TypeId}{pos:String}{af:Array Edge}{g:Option (Nat×Bool)}{x:Operand}{v:Value}
theorem oq[aW]{fs:List Field}{s bp:Nat}{zc:List Value}(aM:a1 P t (.struct fs.toArray) s bp (.agg zc.toArray))(m:Nat)(bN:(fs.mapM fun f=>(P.info? f.type).map fun i=>(f.offset,i.size))=some ((List.range' 0 m).map fun i=>(i,1))){parts:Array (Nat×Operand)}{vs:List Value}(h1:ic L (parts.toList.map (·.2))=some vs)
  (tI:parts.toList.map (·.1)=List.range' 0 vs.length) (nw:∀ v∈vs,v.oneCell'=true) (bj:zc.length=m) (hl:vs.length=m) :
  bL P n w0 zs hs L ⟨d,.build t parts,ty,pos,af,g⟩ (.agg vs.toArray):=
 adn aM bN h1 (by
  rw [tI]
  show Instr.fill _ zc.toArray _=_
  have:=KH (((List.range' 0 m).map fun i=>(i,1)).toArray[·]?) vs [] zc (fun k aD=>Oy m k (by simp at aD;omega)) nw (by omega)
  simpa using this)
end
def Sx{α:Type}(E:dO α)(xs:List α):Value→List aP→List av→Prop:=fun r zs hs=>∃ z,bg E z r xs∧zs=[z]∧hs=[]
def aio{α:Type}(E:dO α)(xs:List α)(e:Int):Value→List aP→List av→Prop:=fun r zs hs=>∃ v z,bg E z v xs∧r=.tuple #[v,az e]∧zs=[z]∧hs=[]
theorem wx{z:aP}{v:Value}{xs:List Int}(h:bg encI z v xs):∀ x∈xs, -9223372036854775808≤x∧x≤9223372036854775807:=fun x aL=>by
 obtain ⟨i,aG,rfl⟩:=List.mem_iff_getElem.1 aL
 exact (h.rep (i:=i) (x:=xs[i]) (by simp [aG])).2
theorem jE{xs:List Int}{k:Nat}(h:k<xs.length):xs.getD k 0∈xs:=by rw [List.getD_eq_getElem?_getD,List.getElem?_eq_getElem h];exact List.getElem_mem h
theorem aC.ahJ{w0:World}{zs:List aP}{hs:List av}{w:World}(h:aC w0 zs hs w):aC w0 ((fun _=>none)::zs) hs w:=
 ⟨h.ext,fun z bj=>by
  rcases List.mem_cons.1 bj with rfl | bj
  ·exact ⟨fun b o au=>by simp at au,fun b o au=>by simp at au⟩
  ·exact h.zone z bj,fun r aY=>⟨(h.own r aY).1,fun b au z bj=>by
  rcases List.mem_cons.1 bj with rfl | bj
  ·rfl
  ·exact (h.own r aY).2 b au z bj⟩,h.nd,h.io⟩
def aia{α:Type}(E:dO α)(f:List α×Int×Int)(r:Value)(zs:List aP)(hs:List av):Prop:=
 ∃ v z,r=.tuple [v,az f.2.1,az f.2.2].toArray∧bg E z v f.1∧zs=[z]∧hs=[]
theorem Qv{α:Type}{E:dO α}{z:aP}:bg E z (.slice none 0 0) []:=⟨by simp,none,0,rfl,Nat.le_refl _,fun i x h=>by simp at h⟩
end Go.aJ
end
section
namespace Go.aJ
section
variable {P:Program}{n:Nat}{w0:World}{zs:List aP}{hs:List av}{ops:Array Oper}{L L':List (Nat×Value)}{k:Nat}
theorem ahq[aW]{c q oP:Bool}(g gt m g0 kS:Nat){rest l:List Oper}{fM:List (Nat×Value)}{pd:Tmp}{pt:TypeId}{pp:String}{pa:Array Edge}{x y:Operand}{Q:Exit→Act→World→Prop}{a:Act}{w:World}
  (ab:Fr n L a) (U:aC w0 zs hs w) (dY:look L gt=some (.bool c)) (lr:(ops[g]?).bind (·.dst)=some gt) (hl:l.drop m=⟨some pd,.pick (.tmp gt) x y,pt,pp,pa,some (g0,oP)⟩::rest) (hi:n1 n L g true (l.take m)=true) (im:Nat.blt pd n=true) (rV:(ops[g0]?).bind (·.dst)=some kS) (yj:look L kS=some (.bool oP))
  (mw:c=true→fk P n w0 zs hs ops m ((gt,.bool true)::L) l fM (⟨some pd,.pick (.tmp gt) x y,pt,pp,pa,some (g0,oP)⟩::rest)) (aL:aU fM x=some (.bool q)) (cS:aU L y=some (.bool false))
  (K:∀ a w,Fr n ((pd,.bool (c&&q))::L) a→aC w0 zs hs w→wpList P ops Q rest a w):wpList P ops Q l a w:=by
 have au:rq n (some pd):=Nat.blt_eq.mp im
 cases c with
 | false=>
  refine C9 (m:=m) (b:=true) (c:=false) lr rfl ab dY hi fun a ab=>?_
  rw [hl]
  exact k8 ab U (aN kS rV yj im (hY dY cS) ah) K
 | true=>
  have hs:=mw rfl
  have h1:Sub L ((gt,.bool true)::L):=fun t v bx=>by
   unfold look
   cases au:Nat.beq gt t with
   | true=>
    have:gt=t:=Nat.eq_of_beq_eq_true au
    subst this
    rw [dY] at bx
    exact bx
   | false=>simpa using bx
  have mj:Fr n ((gt,.bool true)::L) a:=⟨ab.size,ab.nodef,fun t v bx=>by
   unfold look at bx
   cases au:Nat.beq gt t with
   | true=>
    have:gt=t:=Nat.eq_of_beq_eq_true au
    subst this
    simp only [au,cond_true,Option.some.injEq] at bx
    subst bx
    exact ab.get _ _ dY
   | false=>
    rw [au] at bx
    exact ab.get t v bx⟩
  have hL:=uz (g:=g) (b:=true) hs hi h1
  refine k8 mj U hs fun a w kA U=>?_
  refine k8 kA U (aN kS rV (hL kS _ yj) im (iN (hL gt _ dY) aL) ah) fun a w mm U=>K a w ?_ U
  refine mm.nK fun t v bx=>?_
  unfold look at bx ⊢
  cases au:Nat.beq pd t with
  | true=>rw [au] at bx;simpa using bx
  | false=>rw [au] at bx;exact hL t v bx
theorem aht[aW]{c q oP:Bool}(g gt m g0 kS:Nat){rest l:List Oper}{fM:List (Nat×Value)}{pd:Tmp}{pt:TypeId}{pp:String}{pa:Array Edge}{x y:Operand}{Q:Act→Prop}{a:Act}
  (ab:Fr n L a) (dY:look L gt=some (.bool c)) (lr:(ops[g]?).bind (·.dst)=some gt) (hl:l.drop m=⟨some pd,.pick (.tmp gt) x y,pt,pp,pa,some (g0,oP)⟩::rest) (hi:n1 n L g true (l.take m)=true) (im:Nat.blt pd n=true) (rV:(ops[g0]?).bind (·.dst)=some kS) (yj:look L kS=some (.bool oP))
  (mw:c=true→fk P n w0 zs hs ops m ((gt,.bool true)::L) l fM (⟨some pd,.pick (.tmp gt) x y,pt,pp,pa,some (g0,oP)⟩::rest)) (aL:aU fM x=some (.bool q)) (cS:aU L y=some (.bool false))
  (K:∀ a,Fr n ((pd,.bool (c&&q))::L) a→wpQuiet P ops (aC w0 zs hs) Q rest a):wpQuiet P ops (aC w0 zs hs) Q l a:=by
 have au:rq n (some pd):=Nat.blt_eq.mp im
 cases c with
 | false=>
  refine Da (m:=m) (b:=true) (c:=false) lr rfl ab dY hi fun a ab=>?_
  rw [hl]
  exact ji ab (aN kS rV yj im (hY dY cS) ah) K
 | true=>
  have hs:=mw rfl
  have h1:Sub L ((gt,.bool true)::L):=fun t v bx=>by
   unfold look
   cases au:Nat.beq gt t with
   | true=>
    have:gt=t:=Nat.eq_of_beq_eq_true au
    subst this
    rw [dY] at bx
    exact bx
   | false=>simpa using bx
  have mj:Fr n ((gt,.bool true)::L) a:=⟨ab.size,ab.nodef,fun t v bx=>by
   unfold look at bx
   cases au:Nat.beq gt t with
   | true=>
    have:gt=t:=Nat.eq_of_beq_eq_true au
    subst this
    simp only [au,cond_true,Option.some.injEq] at bx
    subst bx
    exact ab.get _ _ dY
   | false=>
    rw [au] at bx
    exact ab.get t v bx⟩
  have hL:=uz (g:=g) (b:=true) hs hi h1
  refine ji mj hs fun a kA=>?_
  refine ji kA (aN kS rV (hL kS _ yj) im (iN (hL gt _ dY) aL) ah) fun a mm=>K a ?_
  refine mm.nK fun t v bx=>?_
  unfold look at bx ⊢
  cases au:Nat.beq pd t with
  | true=>rw [au] at bx;simpa using bx
  | false=>rw [au] at bx;exact hL t v bx
theorem CO{jO:List (Nat×Value)}:∀ (K:Nat) (M:List (Nat×Value)),M.drop K=jO→((M.take K).all fun e => !(jO.any fun p=>Nat.beq p.1 e.1))=true→Sub jO M
 | 0,M,h,_=>by rw [List.drop_zero] at h;subst h;exact fun t v bx=>bx
 | K+1,[],h,_=>by subst h;exact fun t v bx=>bx
 | K+1,(d,u)::M,h,bw=>by
  rw [List.take_succ_cons,List.all_cons,Bool.and_eq_true] at bw
  have ih:=CO K M h bw.2
  intro t v bx
  unfold look
  cases au:Nat.beq d t with
  | true=>
   have:d=t:=Nat.eq_of_beq_eq_true au
   subst this
   have cC:=bw.1
   simp only [Bool.not_eq_true'] at cC
   rw [yC bx] at cC
   cases cC
  | false=>simpa using ih t v bx
theorem Fr.under[aW]{pd:Nat}{v:Value}{M jO:List (Nat×Value)}{a:Act}(K:Nat)(h:Fr n ((pd,v)::M) a)(aT:M.drop K=jO)(bw:((M.take K).all fun e => !(jO.any fun p=>Nat.beq p.1 e.1))=true):Fr n ((pd,v)::jO) a:=
 h.nK (zq (CO K M aT bw))
theorem ahs[aW]{c q:Bool}(gt m:Nat){rest l:List Oper}{ni:List (Nat×Value)}{pd:Tmp}{pt:TypeId}{pp:String}{pa:Array Edge}{x y:Operand}{Q:Exit→Act→World→Prop}{a:Act}{w:World}
  (ab:Fr n L a) (U:aC w0 zs hs w) (dY:look L gt=some (.bool c)) (hi:AX L (l.take m)=true) (im:Nat.blt pd n=true)
  (Bw:c=true→fk P n w0 zs hs ops m ((gt,.bool true)::L) l ni (⟨some pd,.pick (.tmp gt) x y,pt,pp,pa,none⟩::rest)) (aL:aU ni x=some (.bool true))
  (mw:c=false→∀ a w,Fr n ((gt,.bool false)::L) a→aC w0 zs hs w→(∀ a w,Fr n ((pd,.bool q)::(gt,.bool false)::L) a→aC w0 zs hs w→wpList P ops Q rest a w)→wpList P ops Q l a w)
  (K:∀ a w,Fr n ((pd,.bool (c || q))::L) a→aC w0 zs hs w→wpList P ops Q rest a w):wpList P ops Q l a w:=by
 cases c with
 | true=>
  have cV:=Bw rfl
  have hL:=H2 cV hi (CP dY)
  exact k8 (AW ab dY) U cV fun a w kA U=>k8 kA U (l7 im (iN (hL gt _ dY) aL) ah) fun a w mm U=>K a w (mm.nK (zq hL)) U
 | false=>exact mw rfl a w (AW ab dY) U fun a w ab U=>K a w (ab.nK (zq (CP dY))) U
end
end Go.aJ
end
section
namespace Go.aJ
theorem agj{α:Type}{A cs c:List α}{j M:Nat}(fA:M≤A.length)(a6:j+c.length≤M)(h:A.take M=cs):(A.take j++c++A.drop (j+c.length)).take M=cs.take j++c++cs.drop (j+c.length):=by
 obtain ⟨t,aM⟩:∃ t,t=A.drop M:=⟨_,rfl⟩
 have j6:A=cs++t:=by rw [← h,aM,List.take_append_drop]
 have hl:cs.length=M:=by rw [← h,List.length_take];omega
 have bK:A.take j=cs.take j:=by rw [j6,List.take_append_of_le_length (by omega)]
 have bV:A.drop (j+c.length)=cs.drop (j+c.length)++t:=by rw [j6,List.drop_append_of_le_length (by omega)]
 have fx:(cs.take j++c++cs.drop (j+c.length)).length=M:=by simp only [List.length_append,List.length_take,List.length_drop];omega
 rw [bK,bV,← List.append_assoc,List.take_append_of_le_length (by omega),List.take_of_length_le (by omega)]
theorem aC.zn{w0:World}{zs:List aP}{hs:List av}{w:World}(h:aC w0 zs hs w){k:Nat}{v:Value}{e:TypeId}{s m:Nat}{cs:List Value}(aD:hs[k]?=some (.row v e s m cs)){j:Nat}{c:List Value}(hl:j+c.length≤m*s)(h0:0<m) :
  ∃ g cap cur,v=.slice (some ⟨g,0,none⟩) m cap∧m≤cap∧w.heap[g]?=some (.cells cur e (0,0))∧j+c.length≤cur.size∧aC w0 zs (hs.set k (.row v e s m (cs.take j++c++cs.drop (j+c.length)))) (w.setRow g (cur.toList.take j++c++cur.toList.drop (j+c.length)).toArray):=by
 have eY:=(h.own _ (List.mem_of_getElem? aD)).1
 rcases eY.2 with ⟨_,bA⟩ | ⟨g,cap,cur,rfl,au,aO,kE,nB,ig,kc⟩
 ·omega
 ·have F1:m*s≤cap*s:=Nat.mul_le_mul_right s kE
  refine ⟨g,cap,cur,rfl,kE,aO,by omega,?_⟩
  refine h.set aD rfl (fun b au=>setRow_other w g b _ (fun e=>au (by rw [← e];rfl))) ⟨?_,.inr ⟨g,cap,_,rfl,au,setRow_heap w g cur _ e (0,0) aO,kE,nB,?_,?_⟩⟩ (by simp) ⟨rfl,rfl,rfl⟩
  ·have:=eY.1
   simp only [List.length_append,List.length_take,List.length_drop]
   omega
  ·simp only [List.size_toArray,List.length_append,List.length_take,List.length_drop,Array.length_toList]
   omega
  ·simp only []
   exact agj (by rw [Array.length_toList];omega) hl kc
section
variable {P:Program}{n:Nat}{w0:World}{zs:List aP}{hs:List av}{L:List (Nat×Value)}{d:Option Tmp}{ty t bZ:TypeId}{pos:String}{af:Array Edge}{g:Option (Nat×Bool)}
variable {x y c:Operand}{u v:Value}
theorem UH[aW]{bM:TypeDesc}{bp:Nat}{zv:Value}(aM:a1 P t bM 1 bp zv)(k:Nat){e:TypeId}{m j:Nat}{cs:List Value}(h1:aU L x=some (c6 v (j*1)))(aq:aU L y=some u)(aD:hs[k]?=some (.row v e 1 m cs))(a6:j<m)(cB:u.oneCell'=true) :
  e7 P n w0 zs hs L ⟨d,.store t x y,ty,pos,af,g⟩ (fun dd zs' hs'=>dd=undef∧zs'=zs∧hs'=hs.set k (.row v e 1 m (cs.set j u))):=
 jD fun a a7 w hw=>by
  have bu:u.cells=[u].toArray:=by cases u <;> first | rfl | (simp [Value.oneCell'] at cB)
  have tL:cs.length=m:=by have:=(hw.own _ (List.mem_of_getElem? aD)).1.1;omega
  obtain ⟨b,cap,cur,rfl,_,au,hl,U⟩:=hw.zn (c:=[u]) aD (j:=j) (by simp;omega) (by omega)
  have he:cs.take j++[u]++cs.drop (j+[u].length)=cs.set j u:=by
   simp only [List.set_eq_take_append_cons_drop,if_pos (show j<cs.length by omega),List.append_assoc,List.cons_append,List.nil_append,List.length_singleton]
  rw [he] at U
  have aY:=zj (v:=u) aM (b:=b) (off:=j) (bt:=e) (cs:=cur.toList) (w:=w) (by simpa using au) (by rw [bu];rfl) (by rw [bu];simpa using cB) (by simpa using hl)
  rw [bu] at aY
  refine ⟨undef,zs,_,_,.inr ⟨?_,rfl⟩,⟨rfl,rfl,rfl⟩,U⟩
  have aL:a.eval x=.pointer (some ⟨b,j,none⟩):=(a7.eval h1).trans (by simp [c6,fm])
  simp only [execOp,aL,a7.eval aq]
  simp [Instr.storeAt,Instr.sureAddr,aY]
def B1:Value→Bool
 | .slice a _ _=>a.isNone
 | _=>false
theorem N2{α:Type}{E:dO α}{z:aP}{xs:List α}(U:bg E z v xs)(h:B1 v=true):xs=[]:=by
 obtain ⟨_,a,cc,rfl,_,aq⟩:=U
 cases xs with
 | nil=>rfl
 | cons y ys=>
  obtain ⟨b,off,cs,lI,fz,dx,rfl,_⟩:=aq 0 y rfl
  simp [B1] at h
theorem OL[aW]{α:Type}{E:dO α}{z:aP}{xs:List α}{e:TypeId}{s bp:Nat}{zv:Value}(aM:a1 P t (.slice e) s bp zv)(U:bg E z v xs)(h1:aU L x=some v)(aq:aU L y=some (.slice none 0 0)):bL P n w0 zs hs L ⟨d,.binOp .eql t x y bZ,ty,pos,af,g⟩ (.bool (B1 v)):=by
 obtain ⟨_,a,cc,rfl,_,_⟩:=U
 exact e0 h1 aq (fun w=>by simp [eqGuard]) fun w=>by
  simp only [binOp]
  simp [run_equal_slice_nil w t e a _ cc aM.und,B1]
theorem ad3[aW]{e eN:TypeId}{s bp m:Nat}{zv:Value}(aM:a1 P t (.slice e) s bp zv){de:TypeDesc}{be:Nat}{ze:Value}(cg:a1 P e de 1 be ze)(q:Nat){cs:List Value}{k:IntKind}{i:Int}(aD:hs[q]?=some (.row v eN 1 m cs))(h1:aU L x=some v)(aq:aU L y=some (.int k i))(au:0≤i∧i≤m) :
  bL P n w0 zs hs L ⟨d,.slice t x (some y) none none,ty,pos,af,g⟩ (k5 v 1 i.toNat m):=
 eC fun a a7 w hw=>by
  have eY:=(hw.own _ (List.mem_of_getElem? aD)).1
  obtain ⟨ad,cc,rfl,n2⟩:∃ ad cc,v=.slice ad m cc∧m≤cc:=by
   rcases eY.2 with ⟨rfl,rfl⟩ | ⟨b,cap,cur,rfl,_,_,kE,_⟩
   ·exact ⟨none,0,rfl,Nat.le_refl _⟩
   ·exact ⟨_,cap,rfl,kE⟩
  simp only [execOp,a7.eval h1,Option.map_some,a7.eval aq,Option.map_none]
  have bV:(Instr.sliceBound (.int k i) m .sliceB).run P w=.ok i.toNat w:=run_sliceBound (P:=P) (w:=w) k i m .sliceB (by omega) (by omega)
  simp [Instr.sliceAt,Instr.slice,run_underlying aM.und,Instr.sliceBounds,cg.sizeOf,bV,k5]
theorem ad2[aW]{e eN:TypeId}{s bp m:Nat}{zv:Value}(aM:a1 P t (.slice e) s bp zv){de:TypeDesc}{be:Nat}{ze:Value}(cg:a1 P e de 1 be ze)(q:Nat){cs:List Value}{k:IntKind}{i:Int}(aD:hs[q]?=some (.row v eN 1 m cs))(h1:aU L x=some v)(aq:aU L y=some (.int k i))(au:0≤i∧i≤m) :
  bL P n w0 zs hs L ⟨d,.slice t x none (some y) none,ty,pos,af,g⟩ (k5 v 1 0 i.toNat):=
 eC fun a a7 w hw=>by
  have eY:=(hw.own _ (List.mem_of_getElem? aD)).1
  obtain ⟨ad,cc,rfl,n2⟩:∃ ad cc,v=.slice ad m cc∧m≤cc:=by
   rcases eY.2 with ⟨rfl,rfl⟩ | ⟨b,cap,cur,rfl,_,_,kE,_⟩
   ·exact ⟨none,0,rfl,Nat.le_refl _⟩
   ·exact ⟨_,cap,rfl,kE⟩
  simp only [execOp,a7.eval h1,Option.map_some,a7.eval aq,Option.map_none]
  have bV:(Instr.sliceBound (.int k i) cc .sliceAcap).run P w=.ok i.toNat w:=run_sliceBound (P:=P) (w:=w) k i cc .sliceAcap (by omega) (by omega)
  cases ad <;> simp [Instr.sliceAt,Instr.slice,run_underlying aM.und,Instr.sliceBounds,cg.sizeOf,bV,k5,Addr.add]
end
end Go.aJ
end
section
namespace Go.aJ
section
variable {P:Program}{n:Nat}{w0:World}{zs:List aP}{hs:List av}{L:List (Nat×Value)}
theorem ahn[aW]{cb:Code}{Q:Exit→Act→World→Prop}{a:Act}{w:World}{γ:Type}(g0:γ)(zsf:γ→List aP)(nT:γ→List (Nat×Value))(lg:List (Nat×Value))(fP:γ→List av)(fact:γ→Prop)(μ:γ→Nat)
  (ab:Fr n (nT g0++lg) a) (U:aC w0 (zsf g0) (fP g0) w) (bw:fact g0)
  (aY:∀ g a w,fact g→Fr n (nT g++lg) a→aC w0 (zsf g) (fP g) w→cb.wp P (Exit.then (fun a w=>∃ hJ,μ hJ<μ g∧fact hJ∧Fr n (nT hJ++lg) a∧aC w0 (zsf hJ) (fP hJ) w) Q) a w):(Code.loop cb).wp P Q a w:=by
 refine RP (fun m a w=>∃ g,m=μ g∧fact g∧Fr n (nT g++lg) a∧aC w0 (zsf g) (fP g) w) (μ g0) ⟨g0,rfl,bw,ab,U⟩ fun m a w ⟨g,hm,h1,aq,aQ⟩=>?_
 refine Code.wp_mono (fun e a w q=>?_) (aY g a w h1 aq aQ)
 cases e with
 | normal=>obtain ⟨hJ,bH,cN,dq,eX⟩:=q;exact ⟨μ hJ,by omega,hJ,rfl,cN,dq,eX⟩
 | _=>exact q
end
theorem ll.mono{α:Type}{E:dO α}{z z':aP}(h:z.le z'):∀ {vs:List Value}{xs:List (List α)},ll E z vs xs→ll E z' vs xs
 | [],[],_=>trivial
 | _::_,_::_,⟨h1,aq⟩=>⟨h1.mono h,aq.mono h⟩
theorem ll.snoc{α:Type}{E:dO α}{z:aP}{v:Value}{x:List α}:∀ {vs:List Value}{xs:List (List α)},ll E z vs xs→bg E z v x→ll E z (vs++[v]) (xs++[x])
 | [],[],_,h=>⟨h,trivial⟩
 | _::_,_::_,⟨h1,aq⟩,h=>⟨h1,ll.snoc aq h⟩
theorem ll.len{α:Type}{E:dO α}{z:aP}:∀ {vs:List Value}{xs:List (List α)},ll E z vs xs→vs.length=xs.length
 | [],[],_=>rfl
 | _::_,_::_,⟨_,aq⟩=>by rw [List.length_cons,List.length_cons,ll.len aq]
theorem ll.one{α:Type}{E:dO α}{z:aP}:∀ {vs:List Value}{xs:List (List α)},ll E z vs xs→∀ v∈vs,v.oneCell'=true
 | _::_,_::_,⟨h1,aq⟩,v,h=>by
  rcases List.mem_cons.1 h with rfl | h
  ·exact mL h1
  ·exact ll.one aq v h
end Go.aJ
end
section
namespace Go.aJ
section
variable {P:Program}{n:Nat}{w0:World}{zs:List aP}{hs:List av}{ops:Array Oper}{L L':List (Nat×Value)}{k:Nat}
def xc(ops:Array Oper)(L:List (Nat×Value))(pg:Option (Nat×Bool)):Prop:=match pg with
 | none=>True
 | some (g0,oP)=>∃ kS,(ops[g0]?).bind (·.dst)=some kS∧look L kS=some (.bool oP)
theorem xc.sub{fM:List (Nat×Value)}{pg:Option (Nat×Bool)}(h:xc ops L pg)(hs:Sub L fM):xc ops fM pg:=by
 cases pg with
 | none=>trivial
 | some p=>obtain ⟨g0,oP⟩:=p;obtain ⟨kS,h1,aq⟩:=h;exact ⟨kS,h1,hs _ _ aq⟩
theorem af2[aW]{d:Tmp}{op:Op}{t:TypeId}{p:String}{af:Array Edge}{v:Value}{pg:Option (Nat×Bool)}{l l':List Oper}(aT:Nat.blt d n=true)(pO:xc ops L pg)
  (q:bL P n w0 zs hs L ⟨some d,op,t,p,af,pg⟩ v) (r:fk P n w0 zs hs ops k ((d,v)::L) l L' l'):fk P n w0 zs hs ops (k+1) L (⟨some d,op,t,p,af,pg⟩::l) L' l':=by
 cases pg with
 | none=>exact l7 aT q r
 | some g=>obtain ⟨g0,oP⟩:=g;obtain ⟨kS,h1,aq⟩:=pO;exact aN kS h1 aq aT q r
theorem ahu[aW]{c q:Bool}(gt m:Nat){rest l:List Oper}{ni:List (Nat×Value)}{pd:Tmp}{pt:TypeId}{pp:String}{pa:Array Edge}{pg:Option (Nat×Bool)}{x y:Operand}{Q:Act→Prop}{a:Act}
  (ab:Fr n L a) (dY:look L gt=some (.bool c)) (hi:AX L (l.take m)=true) (im:Nat.blt pd n=true) (pO:xc ops L pg)
  (Bw:c=true→fk P n w0 zs hs ops m ((gt,.bool true)::L) l ni (⟨some pd,.pick (.tmp gt) x y,pt,pp,pa,pg⟩::rest)) (aL:aU ni x=some (.bool true))
  (mw:c=false→∀ a,Fr n ((gt,.bool false)::L) a→(∀ a,Fr n ((pd,.bool q)::(gt,.bool false)::L) a→wpQuiet P ops (aC w0 zs hs) Q rest a)→wpQuiet P ops (aC w0 zs hs) Q l a)
  (K:∀ a,Fr n ((pd,.bool (c || q))::L) a→wpQuiet P ops (aC w0 zs hs) Q rest a):wpQuiet P ops (aC w0 zs hs) Q l a:=by
 cases c with
 | true=>
  have cV:=Bw rfl
  have hL:=H2 cV hi (CP dY)
  exact ji (AW ab dY) cV fun a kA=>ji kA (af2 im (pO.sub hL) (iN (hL gt _ dY) aL) ah) fun a mm=>K a (mm.nK (zq hL))
 | false=>exact mw rfl a (AW ab dY) fun a ab=>K a (ab.nK (zq (CP dY)))
theorem aC.CD{w:World}{v:Value}{e:TypeId}{s m m':Nat}{cs cs':List Value}(h:aC w0 zs (.row v e s m cs::hs) w)(hm:m=m')(bu:cs=cs'):aC w0 zs (.row v e s m' cs'::hs) w:=by subst hm;subst bu;exact h
theorem wz{tx e eN:TypeId}{s bp m:Nat}{zv v:Value}(aM:a1 P tx (.slice e) s bp zv){q:Nat}{cs:List Value}(aD:hs[q]?=some (.row v eN 1 m cs))(h1:∀ u∈cs,u.oneCell'=true){lo aG:Nat}(au:lo≤aG∧aG≤m):sS P w0 zs hs 1 tx (k5 v 1 lo aG) (aG-lo) ((cs.take aG).drop lo):=by
 intro w hw
 have h:=(hw.own _ (List.mem_of_getElem? aD)).1
 have hlen:cs.length=m:=by have:=h.1;omega
 have vC:((cs.take aG).drop lo).length=(aG-lo)*1:=by rw [List.length_drop,List.length_take];omega
 have cB:∀ u∈(cs.take aG).drop lo,u.oneCell'=true:=fun u hu=>h1 u (List.mem_of_mem_take (List.mem_of_mem_drop hu))
 rcases h.2 with ⟨rfl,bA⟩ | ⟨b,cap,cur,rfl,Be,aO,kE,nB,ig,kc⟩
 ·obtain rfl:aG=0:=by omega
  obtain rfl:lo=0:=by omega
  simpa [k5] using Src.ofNil w aM.und 0
 ·by_cases bu:cap=lo
  ·have js:(cs.take aG).drop lo=[]:=List.eq_nil_of_length_eq_zero (by rw [vC];omega)
   have bK:aG-lo=0:=by omega
   simp only [k5,if_pos bu]
   rw [js,bK]
   exact Src.ofSlice w aM.und ⟨b,0,none⟩ 0 _ [] rfl (fun j u hu=>by simp at hu) (by simp)
  ·simp only [k5,if_neg bu,Option.map_some,Nat.mul_one]
   refine Src.ofSlice w aM.und (Addr.add ⟨b,0,none⟩ lo) (aG-lo) (cap-lo) _ vC (fun j u hu=>?_) cB
   rw [fm,fm,cell_of_row w b _ cur eN (0,0) aO]
   rw [List.getElem?_drop,List.getElem?_take] at hu
   split at hu
   ·rw [← kc,List.getElem?_take] at hu
    split at hu
    ·simpa using hu
    ·cases hu
   ·cases hu
end
end Go.aJ
end
section
namespace Go.aJ
def UK(m:Nat):dO (List Value) where
 size:=m
 rep _ x c:=c=x∧x.length=m∧∀ u∈x,u.oneCell'=true
 mono _ h:=h
 len h:=by rw [h.1,h.2.1]
 one h u hu:=by rw [h.1] at hu;exact h.2.2 u hu
theorem Er{α:Type}{m:Nat}:∀ {l:List (List α)}(_:∀ x∈l,x.length=m) {i:Nat}{x:List α}(_:l[i]?=some x) (j:Nat),j<m→l.flatten[i*m+j]?=x[j]?
 | [],_,i,x,aL,j,_=>by simp at aL
 | y::ys,h,0,x,aL,j,a6=>by
  simp only [List.getElem?_cons_zero,Option.some.injEq] at aL
  subst aL
  have:=h y (by simp)
  rw [List.flatten_cons,List.getElem?_append_left (by omega),Nat.zero_mul,Nat.zero_add]
 | y::ys,h,i+1,x,aL,j,a6=>by
  simp only [List.getElem?_cons_succ] at aL
  have cS:=h y (by simp)
  have:=Er (fun z bj=>h z (by simp [bj])) aL j a6
  have e:(i+1)*m+j=i*m+j+m:=by rw [Nat.add_mul];omega
  rw [List.flatten_cons,List.getElem?_append_right (by omega),cS,e,Nat.add_sub_cancel]
  exact this
theorem rv{α:Type}{m:Nat}:∀ {l:List (List α)},(∀ x∈l,x.length=m)→l.flatten.length=l.length*m
 | [],_=>by simp
 | y::ys,h=>by
  rw [List.flatten_cons,List.length_append,h y (by simp),rv (fun z bj=>h z (by simp [bj])),List.length_cons,Nat.add_mul]
  omega
section
variable {P:Program}{n:Nat}{w0:World}{zs:List aP}{hs:List av}{v:Value}
end
end Go.aJ
end
section
namespace Go.aJ
def IM[aW]{α0 α1 α2 α3 α4 α5 α6:Type}(n:Nat)(w0:World)(F:α0→α1→α2→α3→α4→α5→α6→Prop)(L:α0→α1→α2→α3→α4→α5→α6→List (Nat×Value))(Z:α0→α1→α2→α3→α4→α5→α6→List aP)(H:α0→α1→α2→α3→α4→α5→α6→List av):Act→World→Prop:=fun a w=>∃ (cv:α0) (bT:α1) (b5:α2) (cY:α3) (c0:α4) (dR:α5) (ev:α6),F cv bT b5 cY c0 dR ev∧Fr n (L cv bT b5 cY c0 dR ev) a∧aC w0 (Z cv bT b5 cY c0 dR ev) (H cv bT b5 cY c0 dR ev) w
theorem aal[aW]{α0 α1 α2 α3 α4 α5 α6:Type}{n:Nat}{w0:World}{F:α0→α1→α2→α3→α4→α5→α6→Prop}{L:α0→α1→α2→α3→α4→α5→α6→List (Nat×Value)}{Z:α0→α1→α2→α3→α4→α5→α6→List aP}{H:α0→α1→α2→α3→α4→α5→α6→List av}{a:Act}{w:World}(cv:α0)(bT:α1)(b5:α2)(cY:α3)(c0:α4)(dR:α5)(ev:α6)(bw:F cv bT b5 cY c0 dR ev)(ab:Fr n (L cv bT b5 cY c0 dR ev) a)(U:aC w0 (Z cv bT b5 cY c0 dR ev) (H cv bT b5 cY c0 dR ev) w):IM n w0 F L Z H a w:=⟨cv,bT,b5,cY,c0,dR,ev,bw,ab,U⟩
def ahZ[aW]{α0 α1 α2 α3 α4 α5 α6 α7:Type}(n:Nat)(w0:World)(F:α0→α1→α2→α3→α4→α5→α6→α7→Prop)(L:α0→α1→α2→α3→α4→α5→α6→α7→List (Nat×Value))(Z:α0→α1→α2→α3→α4→α5→α6→α7→List aP)(H:α0→α1→α2→α3→α4→α5→α6→α7→List av):Act→World→Prop:=fun a w=>∃ (cv:α0) (bT:α1) (b5:α2) (cY:α3) (c0:α4) (dR:α5) (ev:α6) (e6:α7),F cv bT b5 cY c0 dR ev e6∧Fr n (L cv bT b5 cY c0 dR ev e6) a∧aC w0 (Z cv bT b5 cY c0 dR ev e6) (H cv bT b5 cY c0 dR ev e6) w
def Dp[aW]{α0 α1 α2 α3 α4 α5 α6 α7 α8:Type}(n:Nat)(w0:World)(F:α0→α1→α2→α3→α4→α5→α6→α7→α8→Prop)(L:α0→α1→α2→α3→α4→α5→α6→α7→α8→List (Nat×Value))(Z:α0→α1→α2→α3→α4→α5→α6→α7→α8→List aP)(H:α0→α1→α2→α3→α4→α5→α6→α7→α8→List av):Act→World→Prop:=fun a w=>∃ (cv:α0) (bT:α1) (b5:α2) (cY:α3) (c0:α4) (dR:α5) (ev:α6) (e6:α7) (fL:α8),F cv bT b5 cY c0 dR ev e6 fL∧Fr n (L cv bT b5 cY c0 dR ev e6 fL) a∧aC w0 (Z cv bT b5 cY c0 dR ev e6 fL) (H cv bT b5 cY c0 dR ev e6 fL) w
theorem MT[aW]{α0 α1 α2 α3 α4 α5 α6 α7 α8:Type}{n:Nat}{w0:World}{F:α0→α1→α2→α3→α4→α5→α6→α7→α8→Prop}{L:α0→α1→α2→α3→α4→α5→α6→α7→α8→List (Nat×Value)}{Z:α0→α1→α2→α3→α4→α5→α6→α7→α8→List aP}{H:α0→α1→α2→α3→α4→α5→α6→α7→α8→List av}{a:Act}{w:World}(cv:α0)(bT:α1)(b5:α2)(cY:α3)(c0:α4)(dR:α5)(ev:α6)(e6:α7)(fL:α8)(bw:F cv bT b5 cY c0 dR ev e6 fL)(ab:Fr n (L cv bT b5 cY c0 dR ev e6 fL) a)(U:aC w0 (Z cv bT b5 cY c0 dR ev e6 fL) (H cv bT b5 cY c0 dR ev e6 fL) w):Dp n w0 F L Z H a w:=⟨cv,bT,b5,cY,c0,dR,ev,e6,fL,bw,ab,U⟩
section
variable {P:Program}{n:Nat}{w0:World}{zs:List aP}{hs:List av}{L:List (Nat×Value)}{d:Option Tmp}{ty t:TypeId}{pos:String}{af:Array Edge}{g:Option (Nat×Bool)}{x y:Operand}{v:Value}
end
end Go.aJ
end
section
namespace Go.aJ
open Go Go.Sem
section
variable {P:Program}{n:Nat}{w0:World}{zs:List aP}{hs:List av}{L:List (Nat×Value)}{d:Option Tmp}{ty t:TypeId}{pos:String}{af:Array Edge}{g:Option (Nat×Bool)}{x:Operand}{v:Value}
theorem KM{α:Type}{m:Nat}{l:List (List α)}(hl:∀ x∈l,x.length=m){j:Nat}(a6:j<l.length):(l.flatten.drop (j*m)).take m=l.getD j []:=by
 have aL:l[j]?=some l[j]:=by simp [a6]
 have hm:l[j].length=m:=hl _ (List.getElem_mem a6)
 have eG:=rv hl
 have vB:j*m+m≤l.length*m:=by
  have:=Nat.mul_le_mul_right m (show j+1≤l.length from a6)
  rwa [Nat.add_mul,Nat.one_mul] at this
 rw [List.getD_eq_getElem?_getD,aL]
 show _=l[j]
 apply List.ext_getElem?
 intro i
 rw [List.getElem?_take]
 split
 ·rw [List.getElem?_drop,Er hl aL i ‹_›]
 ·rw [List.getElem?_eq_none (by omega)]
theorem OS[aW]{eN:TypeId}{m size:Nat}{bM:TypeDesc}{bp:Nat}{zv:Value}(aM:a1 P t bM size bp zv)(k:Nat)(l:List (List Value))(j:Nat)(aD:hs[k]?=some (.row v eN size m l.flatten))(hl:∀ x∈l,x.length=size)(h1:aU L x=some (c6 v (j*size)))(a6:j<l.length)(h0:0<size)(aT:eV bM=true) :
  bL P n w0 zs hs L ⟨d,.load t x,ty,pos,af,g⟩ (.agg (l.getD j []).toArray):=
 eC fun a a7 w hw=>by
  have eY:=(hw.own _ (List.mem_of_getElem? aD)).1
  have YA:=KM hl a6
  have eG:=rv hl
  have vB:j*size+size≤l.length*size:=by
   have:=Nat.mul_le_mul_right size (show j+1≤l.length from a6)
   rwa [Nat.add_mul,Nat.one_mul] at this
  rcases eY.2 with ⟨rfl,rfl⟩ | ⟨b,cap,cur,rfl,au,aO,kE,nB,ig,kc⟩
  ·have:=eY.1
   omega
  ·have dZ:cur.toList.length=cur.size:=by simp
   have fb:l.flatten.length≤cur.size:=by rw [← kc,List.length_take];omega
   have he:a.eval x=.pointer (some ⟨b,0+j*size,none⟩):=(a7.eval h1).trans (by simp [c6,fm])
   rw [Nat.zero_add] at he
   have aY:=wo aM aT (off:=j*size) aO (by omega)
   have bV:(cur.toList.drop (j*size)).take size=l.getD j []:=by
    rw [← YA,← kc,List.drop_take,List.take_take]
    have cC:l.flatten.length=m*size:=eY.1
    have mh:j*size+size≤m*size:=by omega
    congr 1
    omega
   simp only [execOp,he]
   simp [Instr.loadAt,Instr.sureAddr,aY,bV]
theorem KG{m:Nat}:∀ (ls:List (List Value)) (pre post:List Value) (k:Nat),pre.length=k*m→(∀ c∈ls,c.length=m)→post.length=ls.length*m→Instr.fill (fun i=>some (i*m,m)) (pre++post).toArray (List.zip (List.range' k ls.length) (ls.map fun c=>Value.agg c.toArray))=some (pre++ls.flatten).toArray
 | [],pre,post,k,_,_,bN=>by
  have:post=[]:=List.eq_nil_of_length_eq_zero (by simpa using bN)
  subst this
  simp [Instr.fill]
 | c::ls,pre,post,k,aD,h1,bN=>by
  have bu:=h1 c (by simp)
  rw [List.length_cons,Nat.add_mul,Nat.one_mul] at bN
  rw [List.length_cons,List.range'_succ,List.map_cons,List.zip_cons_cons]
  simp only [Instr.fill]
  have n2:(Value.agg c.toArray).cells=c.toArray:=rfl
  rw [n2,if_neg (by simp;omega)]
  have e:(Array.foldl (fun cs (x:Value×Nat)=>cs.setIfInBounds (k*m+x.2) x.1) (pre++post).toArray c.toArray.zipIdx)=((pre++c)++post.drop m).toArray:=by
   have key:∀ (cs:List Value) (o j:Nat) (A:Array Value),o+j+cs.length≤A.size→(cs.zipIdx j).foldl (fun A x=>A.setIfInBounds (o+x.2) x.1) A=(A.toList.take (o+j)++cs++A.toList.drop (o+j+cs.length)).toArray:=by
    intro cs
    induction cs with
    | nil=>intro o j A h;simp
    | cons c cs ih=>
    intro o j A h
    simp only [List.length_cons] at h
    rw [List.zipIdx_cons,List.foldl_cons,ih o (j+1) _ (by simp;omega)]
    have aD:o+j<A.toList.length:=by simp;omega
    simp only [Array.toList_setIfInBounds]
    congr 1
    rw [show o+(j+1)=o+j+1 by omega,List.take_succ_eq_append_getElem (by simpa using aD),List.take_set,List.getElem_set_self,List.set_eq_of_length_le (by simp;omega),List.drop_set_of_lt (by omega),List.length_cons]
    simp only [List.append_assoc,List.singleton_append]
    rw [show o+j+1+cs.length=o+j+(cs.length+1) by omega]
   have:=key c (k*m) 0 (pre++post).toArray (by simp;omega)
   simp only [Nat.add_zero] at this
   refine Eq.trans ?_ (this.trans ?_)
   ·simp
   ·rw [← aD,← bu]
    simp
  have ih:=KG ls (pre++c) (post.drop m) (k+1) (by simp [aD,bu,Nat.add_mul]) (fun u hu=>h1 u (by simp [hu])) (by simp;omega)
  refine Eq.trans ?_ (ih.trans (by simp))
  rw [← e]
theorem Kt[aW]{e:TypeId}{s bp:Nat}{zv:Value}(aM:a1 P t (.slice e) s bp zv){de:TypeDesc}{be size:Nat}{ze:Value}(cg:a1 P e de size be ze){m:Nat}{parts:Array (Nat×Operand)}(ls:List (List Value))(h1:ic L (parts.toList.map (·.2))=some (ls.map fun c=>Value.agg c.toArray))
  (tI:parts.toList.map (·.1)=List.range' 0 ls.length) (bu:∀ c∈ls,c.length=size) (nw:∀ c∈ls,∀ v∈c,v.oneCell'=true) (au:m*size≤16777216) (h0:(m*size == 0)=false) (hl:ls.length=m) :
  e7 P n w0 zs hs L ⟨d,.buildSlice t m parts,ty,pos,af,g⟩ (fun v zs' hs'=>zs'=zs∧hs'=.row v e size m ls.flatten::hs):=
 Eg aM cg (vT _ _ h1) (by
  rw [tI]
  have:=KG (m:=size) ls [] (List.range (m*size) |>.map (fun i=>ze.cells[i%ze.cells.size]!)) 0 (by simp) bu (by simp [hl])
  have js:Array.map (fun i=>ze.cells[i%ze.cells.size]!) (Array.range (m*size))=(List.map (fun i=>ze.cells[i%ze.cells.size]!) (List.range (m*size))).toArray:=by
   apply Array.ext'
   simp
  rw [js]
  simpa using this) au h0 (by rw [rv bu,hl])
end
end Go.aJ
end
section
namespace Go.aJ
open Go Go.Sem
section
variable {P:Program}{n:Nat}{w0:World}{zs:List aP}{hs:List av}{L:List (Nat×Value)}{d:Option Tmp}{ty t:TypeId}{pos:String}{af:Array Edge}{g:Option (Nat×Bool)}{x y:Operand}{v:Value}
theorem Ei[aW]{e:TypeId}{s bp:Nat}{zv:Value}(aM:a1 P t (.slice e) s bp zv){de:TypeDesc}{be:Nat}{ze:Value}(cg:a1 P e de 1 be ze){m:Nat}(h1:aU L x=some (az (m:Int)))(aq:aU L y=some (az (m:Int)))(au:be*m≤140737488355328)(hm:m≤140737488355328)(cB:ze.oneCell'=true) :
  e7 P n w0 zs hs L ⟨d,.makeSlice t x y,ty,pos,af,g⟩ (fun v zs' hs'=>zs'=zs∧hs'=.row v e 1 m (List.replicate m ze)::hs):=
 jD fun a a7 w hw=>by
  have fJ:=hw.newRow e (List.replicate m ze) 1 m m (by simp) (Nat.le_refl _) (by unfold maxLen;omega)
  rw [List.take_of_length_le (by simp)] at fJ
  refine ⟨_,zs,_,_,.inl ?_,⟨rfl,rfl⟩,fJ⟩
  have bu:ze.cells=#[ze]:=by cases ze <;> first | rfl | (simp [Value.oneCell'] at cB)
  obtain ⟨i,aG,j8,rP,YH⟩:=cg.QG w
  have o3:IntKind.i64.wrap (m:Int)=m:=by
   simp [IntKind.wrap,IntKind.bits,IntKind.signed]
   omega
  have Fw:((be:Int)*(m:Int))=((be*m:Nat):Int):=by simp
  have Fu:¬ ((m:Int)<0∨(i.bytes:Int)*m>2^48):=by rw [rP,Fw];omega
  simp only [execOp,a7.eval h1,a7.eval aq]
  have aY:(Instr.makeSlice t (az m) (az m)).run P w=.ok (.slice (some ⟨w.heap.size,0,none⟩) m m) { w with heap:=w.heap.push (.cells (List.replicate m ze).toArray e (0,0)) }:=by
   unfold Instr.makeSlice
   rw [Sem.run_bind,run_underlying aM.und]
   simp only [Result.andThen_ok]
   have a7:(asIntOf (az (m:Int))).run P w=.ok (.i64,(m:Int)) w:=by simp [asIntOf,az]
   simp only [asInt,Sem.run_bind,Sem.run_map,a7,Sem.run_pure,Result.andThen_ok,aG,o3]
   have tV:¬ ((m:Int).toNat*i.bytes>roomBytes):=by
    rw [rP,Int.toNat_natCast,Nat.mul_comm]
    unfold roomBytes
    omega
   have aT:(decide ((m:Int)<0) || decide ((i.bytes:Int)*m>2^48))=false:=by
    simpa using Fu
   have qD:¬ ((m:Int)<0):=by omega
   simp only [aT,qD,Bool.false_eq_true,false_or,gt_iff_lt,Int.lt_irrefl,if_false,decide_false,Bool.false_or,or_self,if_neg,not_false_eq_true,Sem.run_bind,Sem.run_pure,Result.andThen_ok]
   unfold askRoom
   rw [if_neg tV]
   simp only [Sem.run_bind,Sem.run_pure,Result.andThen_ok,cg.sizeOf,Nat.mul_one,Int.toNat_natCast]
   by_cases h0:m=0
   ·subst h0
    have js:∀ f:Nat→Value,Array.map f (Array.range 0)=#[]:=fun f=>Array.eq_empty_of_size_eq_zero (by simp)
    simp [newRow,js,cg.sizeOf]
   ·have gL:decide ((2:Int)^48<(i.bytes:Int)*m)=false:=by
     rw [decide_eq_false_iff_not]
     omega
    rw [if_neg (by rw [gL];decide)]
    simp only [Sem.run_bind,Sem.run_pure,Result.andThen_ok,cg.sizeOf,Nat.mul_one]
    rw [if_neg h0]
    simp only [Sem.run_bind,Sem.run_pure,cg.zero,Result.andThen_ok,bu]
    have js:Array.map (fun x=>#[ze][x % #[ze].size]!) (Array.range m)=(List.replicate m ze).toArray:=by
     apply Array.ext'
     apply List.ext_getElem (by simp)
     intro j h1 aq
     simp [Nat.mod_one]
    rw [js]
    simp [newRow]
  rw [Sem.run_bind,aY]
  rfl
theorem hc[aW]{fs:List Field}{s bp:Nat}{zv:Value}(aM:a1 P t (.struct fs.toArray) s bp zv){places:List (Nat×Nat)}(bN:(fs.mapM fun f=>(P.info? f.type).map fun i=>(f.offset,i.size))=some places){parts:Array (Nat×Operand)}{vs cells:List Value}(h1:ic L (parts.toList.map (·.2))=some vs)
  (bw:Instr.fill (places.toArray[·]?) zv.cells (List.zip (parts.toList.map (·.1)) vs)=some cells.toArray) :
  bL P n w0 zs hs L ⟨d,.build t parts,ty,pos,af,g⟩ (.agg cells.toArray):=
 oo (vT _ _ h1) (HH aM bN bw)
end
theorem GW:∀ c∈([]:List (List Value)),∀ v∈c,v.oneCell'=true:=fun _ h=>by cases h
theorem B5{c:List Value}{cs:List (List Value)}(h1:∀ v∈c,v.oneCell'=true)(aq:∀ c∈cs,∀ v∈c,v.oneCell'=true):∀ d∈c::cs,∀ v∈d,v.oneCell'=true:=fun d aT=>(List.mem_cons.1 aT).elim (fun e=>e ▸ h1) (aq d)
theorem aci{cs:List (List Value)}(h:∀ c∈cs,∀ v∈c,v.oneCell'=true):∀ v∈cs.flatten,v.oneCell'=true:=fun v bx=>by
 obtain ⟨c,bu,bx⟩:=List.mem_flatten.1 bx
 exact h c bu v bx
def El:dO (List (List Value)×List Int×List Bool) where
 size:=3
 rep z x c:=∃ nv sv bv,c=[nv,sv,bv]∧bg (UK 2) z nv x.1∧bg encI z sv x.2.1∧bg ru z bv x.2.2
 mono bj h:=by obtain ⟨nv,sv,bv,h1,aq,aQ,bH⟩:=h;exact ⟨nv,sv,bv,h1,aq.mono bj,aQ.mono bj,bH.mono bj⟩
 len h:=by obtain ⟨nv,sv,bv,h1,_⟩:=h;rw [h1];rfl
 one h u hu:=by
  obtain ⟨nv,sv,bv,h1,aq,aQ,bH⟩:=h
  rw [h1] at hu
  simp only [List.mem_cons,List.not_mem_nil,or_false] at hu
  rcases hu with rfl | rfl | rfl
  ·exact mL aq
  ·exact mL aQ
  ·exact mL bH
section
variable {P:Program}{n:Nat}{w0:World}{zs:List aP}{hs:List av}{L:List (Nat×Value)}{d:Option Tmp}{ty t:TypeId}{pos:String}{af:Array Edge}{g:Option (Nat×Bool)}{x y:Operand}{v:Value}
end
section
variable {P:Program}{n:Nat}{w0:World}{zs:List aP}{hs:List av}{L:List (Nat×Value)}{d:Option Tmp}{ty t:TypeId}{pos:String}{af:Array Edge}{g:Option (Nat×Bool)}{x y:Operand}{v:Value}
end
def ni(z:aP):List (List Value)→List (List (List Value)×List Int×List Bool)→Prop
 | [],[]=>True
 | c::cs,x::xs=>El.rep z x c∧ni z cs xs
 | _,_=>False
theorem ni.get{z:aP}:∀ {cs:List (List Value)}{xs:List (List (List Value)×List Int×List Bool)},ni z cs xs→∀ (i:Nat) (x:List (List Value)×List Int×List Bool),xs[i]?=some x→∃ c,cs[i]?=some c∧El.rep z x c
 | [],[],_,i,x,aL=>by simp at aL
 | v::vs,y::xs,h,0,x,aL=>by
  simp only [List.getElem?_cons_zero,Option.some.injEq] at aL
  subst aL
  exact ⟨v,rfl,h.1⟩
 | v::vs,y::xs,h,i+1,x,aL=>by
  simp only [List.getElem?_cons_succ] at aL ⊢
  exact ni.get h.2 i x aL
theorem ni.all{z:aP}:∀ {cs:List (List Value)}{xs:List (List (List Value)×List Int×List Bool)},ni z cs xs→∀ c∈cs,c.length=3
 | [],[],_,c,bu=>by cases bu
 | v::vs,y::xs,h,c,bu=>by
  rcases List.mem_cons.1 bu with rfl | bu
  ·exact El.len h.1
  ·exact ni.all h.2 c bu
end Go.aJ
end
section
namespace Go.aJ
theorem aI{p:Prop}(h:p:=by first | omega | (rw [List.length_map];omega) | (simp;omega) | (simp [*];done) | decide | (simp [*];omega)):p:=h
theorem aA{p:Prop}(h:p:=by kernel_rfl):p:=h
theorem al{p q:Prop}(h:p:=by kernel_rfl):p∨q:=.inl h
theorem bJ{vs:List Value}(h:∀ v∈vs,v.oneCell'=true:=by first | ((repeat first | ((with_reducible refine ack ?_);intro _;rfl) | (with_reducible refine acj ?_ ?_) | ((with_reducible refine bn ?_ ?_);rfl) | (with_reducible exact dC) | ((with_reducible refine acm ?_);rfl));done) | (simp [Value.oneCell'];done) | (simp;decide)):∀ v∈vs,v.oneCell'=true:=h
theorem ay{α:Type}{l:List α}:[].Sublist l:=List.nil_sublist _
theorem ae{α:Type}{l:List α}:l.Sublist l:=List.Sublist.refl _
theorem _root_.List.Sublist.k{α:Type}{x:α}{l m:List α}(h:l.Sublist m):(x::l).Sublist (x::m):=h.cons_cons x
theorem _root_.List.Sublist.n{α:Type}{x:α}{l m:List α}(h:l.Sublist m):l.Sublist (x::m):=h.cons x
theorem aC.ax{w0 w:World}{zs:List aP}{hs:List av}(h:aC w0 zs hs w):aC w0 [] [] w:=h.ak ay ay
theorem aC.ea{w0 w:World}{zs:List aP}{hs hs':List av}(h:aC w0 zs hs w)(aq:hs'.Sublist hs):aC w0 [] hs' w:=h.ak ay aq
section
variable {P:Program}{J:Act→World→Prop}{n:Nat}{w0:World}{L:List (Nat×Value)}
theorem bW[aW]{l:List Oper}{f:Nat}{W:ku}{ls:Array Bool}{a:Act}{w:World}(i:Nat){iJ:Array Bool}{d:Option Tmp}{op:Op}{ty:TypeId}{pos:String}{af:Array Edge}{zs:List aP}{hs:List av}{K:Value→List aP→List av→Prop}
  (aG:l[i]?=some ⟨d,op,ty,pos,af,none⟩) (mx:ls.setIfInBounds i true=iJ) (ab:Fr n L a) (U:aC w0 zs hs w) (aT:(match d with | some k=>Nat.blt k n | none=>true)=true) (e:e7 P n w0 zs hs L ⟨d,op,ty,pos,af,none⟩ K)
  (h:∀ v zs' hs' a w,K v zs' hs'→Fr n (kL d v L) a→aC w0 zs' hs' w→gY .any l.toArray iJ w [] W∧mU P l.toArray J f W iJ a w) (aY:Region.ready .any l.toArray ls=[i]:=by kernel_rfl):mU P l.toArray J (f+1) W ls a w:=
 fy [i] aY rfl ⟨dQ iJ aG mx ab U aT e h,trivial⟩
end
end Go.aJ
end
namespace Go.aJ
section
variable {w0 w:World}{zs:List aP}{hs:List av}
theorem aC.cT(h:aC w0 zs hs w):∃ h,h=hs∧aC w0 zs h w:=⟨_,rfl,h⟩
theorem aC.acH(h:aC w0 zs hs w):∃ z,z=zs∧aC w0 z hs w:=⟨_,rfl,h⟩
theorem nj{a b c:av}{l:List av}:(c::a::b::l).Perm (a::b::c::l):=(List.perm_middle (l₁:=[a,b])).symm
theorem qe{a b c d:av}{l:List av}:(d::a::b::c::l).Perm (a::b::c::d::l):=(List.perm_middle (l₁:=[a,b,c])).symm
theorem kq{a b c d e:av}{l:List av}:(e::a::b::c::d::l).Perm (a::b::c::d::e::l):=(List.perm_middle (l₁:=[a,b,c,d])).symm
theorem pw{a b c d e f:av}{l:List av}:(f::a::b::c::d::e::l).Perm (a::b::c::d::e::f::l):=(List.perm_middle (l₁:=[a,b,c,d,e])).symm
theorem IY{a b c d e f g:av}{l:List av}:(g::a::b::c::d::e::f::l).Perm (a::b::c::d::e::f::g::l):=(List.perm_middle (l₁:=[a,b,c,d,e,f])).symm
theorem w4{a b c d e f g h:av}{l:List av}:(h::a::b::c::d::e::f::g::l).Perm (a::b::c::d::e::f::g::h::l):=(List.perm_middle (l₁:=[a,b,c,d,e,f,g])).symm
theorem q8{a b c d e f g h i:av}{l:List av}:(i::a::b::c::d::e::f::g::h::l).Perm (a::b::c::d::e::f::g::h::i::l):=(List.perm_middle (l₁:=[a,b,c,d,e,f,g,h])).symm
theorem Sm{a b c d e f g h i j:av}{l:List av}:(j::a::b::c::d::e::f::g::h::i::l).Perm (a::b::c::d::e::f::g::h::i::j::l):=(List.perm_middle (l₁:=[a,b,c,d,e,f,g,h,i])).symm
theorem IZ{a b c d e f g h i j k:av}{l:List av}:(k::a::b::c::d::e::f::g::h::i::j::l).Perm (a::b::c::d::e::f::g::h::i::j::k::l):=(List.perm_middle (l₁:=[a,b,c,d,e,f,g,h,i,j])).symm
theorem Sj{a b c d e f g h i j k m:av}{l:List av}:(m::a::b::c::d::e::f::g::h::i::j::k::l).Perm (a::b::c::d::e::f::g::h::i::j::k::m::l):=(List.perm_middle (l₁:=[a,b,c,d,e,f,g,h,i,j,k])).symm
theorem IV{a b c d e f g h i j k m n:av}{l:List av}:(n::a::b::c::d::e::f::g::h::i::j::k::m::l).Perm (a::b::c::d::e::f::g::h::i::j::k::m::n::l):=(List.perm_middle (l₁:=[a,b,c,d,e,f,g,h,i,j,k,m])).symm
theorem IW{a b c d e f g h i j k m n o:av}{l:List av}:(o::a::b::c::d::e::f::g::h::i::j::k::m::n::l).Perm (a::b::c::d::e::f::g::h::i::j::k::m::n::o::l):=(List.perm_middle (l₁:=[a,b,c,d,e,f,g,h,i,j,k,m,n])).symm
theorem IX{a b c d e f g h i j k m n o p q r s t:av}{l:List av}:(t::a::b::c::d::e::f::g::h::i::j::k::m::n::o::p::q::r::s::l).Perm (a::b::c::d::e::f::g::h::i::j::k::m::n::o::p::q::r::s::t::l):=(List.perm_middle (l₁:=[a,b,c,d,e,f,g,h,i,j,k,m,n,o,p,q,r,s])).symm
theorem Sk{a b c d e f g h i j k m n o p q r s t u:av}{l:List av}:(u::a::b::c::d::e::f::g::h::i::j::k::m::n::o::p::q::r::s::t::l).Perm (a::b::c::d::e::f::g::h::i::j::k::m::n::o::p::q::r::s::t::u::l):=(List.perm_middle (l₁:=[a,b,c,d,e,f,g,h,i,j,k,m,n,o,p,q,r,s,t])).symm
theorem Sl{a b c d e f g h i j k m n o p q r s t u v:av}{l:List av}:(v::a::b::c::d::e::f::g::h::i::j::k::m::n::o::p::q::r::s::t::u::l).Perm (a::b::c::d::e::f::g::h::i::j::k::m::n::o::p::q::r::s::t::u::v::l):=(List.perm_middle (l₁:=[a,b,c,d,e,f,g,h,i,j,k,m,n,o,p,q,r,s,t,u])).symm
theorem hF{a b c:av}{l:List av}:(a::c::b::l).Perm (a::b::c::l):=.cons _ ((List.perm_middle (l₁:=[b])).symm)
theorem mf{a b c d:av}{l:List av}:(a::d::b::c::l).Perm (a::b::c::d::l):=.cons _ ((List.perm_middle (l₁:=[b,c])).symm)
theorem sN{a b c d e:av}{l:List av}:(a::e::b::c::d::l).Perm (a::b::c::d::e::l):=.cons _ ((List.perm_middle (l₁:=[b,c,d])).symm)
theorem lh{a b c d e f:av}{l:List av}:(a::f::b::c::d::e::l).Perm (a::b::c::d::e::f::l):=.cons _ ((List.perm_middle (l₁:=[b,c,d,e])).symm)
theorem qf{a b c d e f g:av}{l:List av}:(a::g::b::c::d::e::f::l).Perm (a::b::c::d::e::f::g::l):=.cons _ ((List.perm_middle (l₁:=[b,c,d,e,f])).symm)
theorem Dy{a b c d e f g h:av}{l:List av}:(a::h::b::c::d::e::f::g::l).Perm (a::b::c::d::e::f::g::h::l):=.cons _ ((List.perm_middle (l₁:=[b,c,d,e,f,g])).symm)
theorem z6{a b c d e f g h i:av}{l:List av}:(a::i::b::c::d::e::f::g::h::l).Perm (a::b::c::d::e::f::g::h::i::l):=.cons _ ((List.perm_middle (l₁:=[b,c,d,e,f,g,h])).symm)
theorem qg{a b c d e f g h i j:av}{l:List av}:(a::j::b::c::d::e::f::g::h::i::l).Perm (a::b::c::d::e::f::g::h::i::j::l):=.cons _ ((List.perm_middle (l₁:=[b,c,d,e,f,g,h,i])).symm)
theorem Sp{a b c d e f g h i j k:av}{l:List av}:(a::k::b::c::d::e::f::g::h::i::j::l).Perm (a::b::c::d::e::f::g::h::i::j::k::l):=.cons _ ((List.perm_middle (l₁:=[b,c,d,e,f,g,h,i,j])).symm)
theorem I7{a b c d e f g h i j k m:av}{l:List av}:(a::m::b::c::d::e::f::g::h::i::j::k::l).Perm (a::b::c::d::e::f::g::h::i::j::k::m::l):=.cons _ ((List.perm_middle (l₁:=[b,c,d,e,f,g,h,i,j,k])).symm)
theorem Sn{a b c d e f g h i j k m n:av}{l:List av}:(a::n::b::c::d::e::f::g::h::i::j::k::m::l).Perm (a::b::c::d::e::f::g::h::i::j::k::m::n::l):=.cons _ ((List.perm_middle (l₁:=[b,c,d,e,f,g,h,i,j,k,m])).symm)
theorem I8{a b c d e f g h i j k m n o:av}{l:List av}:(a::o::b::c::d::e::f::g::h::i::j::k::m::n::l).Perm (a::b::c::d::e::f::g::h::i::j::k::m::n::o::l):=.cons _ ((List.perm_middle (l₁:=[b,c,d,e,f,g,h,i,j,k,m,n])).symm)
theorem I9{a b c d e f g h i j k m n o p:av}{l:List av}:(a::p::b::c::d::e::f::g::h::i::j::k::m::n::o::l).Perm (a::b::c::d::e::f::g::h::i::j::k::m::n::o::p::l):=.cons _ ((List.perm_middle (l₁:=[b,c,d,e,f,g,h,i,j,k,m,n,o])).symm)
theorem Ja{a b c d e f g h i j k m n o p q r s t u:av}{l:List av}:(a::u::b::c::d::e::f::g::h::i::j::k::m::n::o::p::q::r::s::t::l).Perm (a::b::c::d::e::f::g::h::i::j::k::m::n::o::p::q::r::s::t::u::l):=.cons _ ((List.perm_middle (l₁:=[b,c,d,e,f,g,h,i,j,k,m,n,o,p,q,r,s,t])).symm)
theorem j1{a b c d:av}{l:List av}:(a::b::d::c::l).Perm (a::b::c::d::l):=.cons _ (.cons _ ((List.perm_middle (l₁:=[c])).symm))
theorem oH{a b c d e:av}{l:List av}:(a::b::e::c::d::l).Perm (a::b::c::d::e::l):=.cons _ (.cons _ ((List.perm_middle (l₁:=[c,d])).symm))
theorem uK{a b c d e f:av}{l:List av}:(a::b::f::c::d::e::l).Perm (a::b::c::d::e::f::l):=.cons _ (.cons _ ((List.perm_middle (l₁:=[c,d,e])).symm))
theorem lj{a b c d e f g:av}{l:List av}:(a::b::g::c::d::e::f::l).Perm (a::b::c::d::e::f::g::l):=.cons _ (.cons _ ((List.perm_middle (l₁:=[c,d,e,f])).symm))
theorem uL{a b c d e f g h:av}{l:List av}:(a::b::h::c::d::e::f::g::l).Perm (a::b::c::d::e::f::g::h::l):=.cons _ (.cons _ ((List.perm_middle (l₁:=[c,d,e,f,g])).symm))
theorem Sq{a b c d e f g h i:av}{l:List av}:(a::b::i::c::d::e::f::g::h::l).Perm (a::b::c::d::e::f::g::h::i::l):=.cons _ (.cons _ ((List.perm_middle (l₁:=[c,d,e,f,g,h])).symm))
theorem Dz{a b c d e f g h i j:av}{l:List av}:(a::b::j::c::d::e::f::g::h::i::l).Perm (a::b::c::d::e::f::g::h::i::j::l):=.cons _ (.cons _ ((List.perm_middle (l₁:=[c,d,e,f,g,h,i])).symm))
theorem q9{a b c d e f g h i j k:av}{l:List av}:(a::b::k::c::d::e::f::g::h::i::j::l).Perm (a::b::c::d::e::f::g::h::i::j::k::l):=.cons _ (.cons _ ((List.perm_middle (l₁:=[c,d,e,f,g,h,i,j])).symm))
theorem Jb{a b c d e f g h i j k m n o p:av}{l:List av}:(a::b::p::c::d::e::f::g::h::i::j::k::m::n::o::l).Perm (a::b::c::d::e::f::g::h::i::j::k::m::n::o::p::l):=.cons _ (.cons _ ((List.perm_middle (l₁:=[c,d,e,f,g,h,i,j,k,m,n,o])).symm))
theorem Jc{a b c d e f g h i j k m n o p q:av}{l:List av}:(a::b::q::c::d::e::f::g::h::i::j::k::m::n::o::p::l).Perm (a::b::c::d::e::f::g::h::i::j::k::m::n::o::p::q::l):=.cons _ (.cons _ ((List.perm_middle (l₁:=[c,d,e,f,g,h,i,j,k,m,n,o,p])).symm))
theorem kr{a b c d e:av}{l:List av}:(a::b::c::e::d::l).Perm (a::b::c::d::e::l):=.cons _ (.cons _ (.cons _ ((List.perm_middle (l₁:=[d])).symm)))
theorem px{a b c d e f:av}{l:List av}:(a::b::c::f::d::e::l).Perm (a::b::c::d::e::f::l):=.cons _ (.cons _ (.cons _ ((List.perm_middle (l₁:=[d,e])).symm)))
theorem uM{a b c d e f g:av}{l:List av}:(a::b::c::g::d::e::f::l).Perm (a::b::c::d::e::f::g::l):=.cons _ (.cons _ (.cons _ ((List.perm_middle (l₁:=[d,e,f])).symm)))
theorem lQ{a b c d e f g h:av}{l:List av}:(a::b::c::h::d::e::f::g::l).Perm (a::b::c::d::e::f::g::h::l):=.cons _ (.cons _ (.cons _ ((List.perm_middle (l₁:=[d,e,f,g])).symm)))
theorem uN{a b c d e f g h i:av}{l:List av}:(a::b::c::i::d::e::f::g::h::l).Perm (a::b::c::d::e::f::g::h::i::l):=.cons _ (.cons _ (.cons _ ((List.perm_middle (l₁:=[d,e,f,g,h])).symm)))
theorem Sr{a b c d e f g h i j:av}{l:List av}:(a::b::c::j::d::e::f::g::h::i::l).Perm (a::b::c::d::e::f::g::h::i::j::l):=.cons _ (.cons _ (.cons _ ((List.perm_middle (l₁:=[d,e,f,g,h,i])).symm)))
theorem DA{a b c d e f g h i j k:av}{l:List av}:(a::b::c::k::d::e::f::g::h::i::j::l).Perm (a::b::c::d::e::f::g::h::i::j::k::l):=.cons _ (.cons _ (.cons _ ((List.perm_middle (l₁:=[d,e,f,g,h,i,j])).symm)))
theorem re{a b c d e f g h i j k m:av}{l:List av}:(a::b::c::m::d::e::f::g::h::i::j::k::l).Perm (a::b::c::d::e::f::g::h::i::j::k::m::l):=.cons _ (.cons _ (.cons _ ((List.perm_middle (l₁:=[d,e,f,g,h,i,j,k])).symm)))
theorem Jd{a b c d e f g h i j k m n o p q:av}{l:List av}:(a::b::c::q::d::e::f::g::h::i::j::k::m::n::o::p::l).Perm (a::b::c::d::e::f::g::h::i::j::k::m::n::o::p::q::l):=.cons _ (.cons _ (.cons _ ((List.perm_middle (l₁:=[d,e,f,g,h,i,j,k,m,n,o,p])).symm)))
theorem Je{a b c d e f g h i j k m n o p q r:av}{l:List av}:(a::b::c::r::d::e::f::g::h::i::j::k::m::n::o::p::q::l).Perm (a::b::c::d::e::f::g::h::i::j::k::m::n::o::p::q::r::l):=.cons _ (.cons _ (.cons _ ((List.perm_middle (l₁:=[d,e,f,g,h,i,j,k,m,n,o,p,q])).symm)))
theorem oI{a b c d e f:av}{l:List av}:(a::b::c::d::f::e::l).Perm (a::b::c::d::e::f::l):=.cons _ (.cons _ (.cons _ (.cons _ ((List.perm_middle (l₁:=[e])).symm))))
theorem sO{a b c d e f g:av}{l:List av}:(a::b::c::d::g::e::f::l).Perm (a::b::c::d::e::f::g::l):=.cons _ (.cons _ (.cons _ (.cons _ ((List.perm_middle (l₁:=[e,f])).symm))))
theorem uO{a b c d e f g h i:av}{l:List av}:(a::b::c::d::i::e::f::g::h::l).Perm (a::b::c::d::e::f::g::h::i::l):=.cons _ (.cons _ (.cons _ (.cons _ ((List.perm_middle (l₁:=[e,f,g,h])).symm))))
theorem z7{a b c d e f g h i j:av}{l:List av}:(a::b::c::d::j::e::f::g::h::i::l).Perm (a::b::c::d::e::f::g::h::i::j::l):=.cons _ (.cons _ (.cons _ (.cons _ ((List.perm_middle (l₁:=[e,f,g,h,i])).symm))))
theorem Ss{a b c d e f g h i j k:av}{l:List av}:(a::b::c::d::k::e::f::g::h::i::j::l).Perm (a::b::c::d::e::f::g::h::i::j::k::l):=.cons _ (.cons _ (.cons _ (.cons _ ((List.perm_middle (l₁:=[e,f,g,h,i,j])).symm))))
theorem Jf{a b c d e f g h i j k m:av}{l:List av}:(a::b::c::d::m::e::f::g::h::i::j::k::l).Perm (a::b::c::d::e::f::g::h::i::j::k::m::l):=.cons _ (.cons _ (.cons _ (.cons _ ((List.perm_middle (l₁:=[e,f,g,h,i,j,k])).symm))))
theorem Jg{a b c d e f g h i j k m n:av}{l:List av}:(a::b::c::d::n::e::f::g::h::i::j::k::m::l).Perm (a::b::c::d::e::f::g::h::i::j::k::m::n::l):=.cons _ (.cons _ (.cons _ (.cons _ ((List.perm_middle (l₁:=[e,f,g,h,i,j,k,m])).symm))))
theorem Jh{a b c d e f g h i j k m n o p q r:av}{l:List av}:(a::b::c::d::r::e::f::g::h::i::j::k::m::n::o::p::q::l).Perm (a::b::c::d::e::f::g::h::i::j::k::m::n::o::p::q::r::l):=.cons _ (.cons _ (.cons _ (.cons _ ((List.perm_middle (l₁:=[e,f,g,h,i,j,k,m,n,o,p,q])).symm))))
theorem Ji{a b c d e f g h i j k m n o p q r s:av}{l:List av}:(a::b::c::d::s::e::f::g::h::i::j::k::m::n::o::p::q::r::l).Perm (a::b::c::d::e::f::g::h::i::j::k::m::n::o::p::q::r::s::l):=.cons _ (.cons _ (.cons _ (.cons _ ((List.perm_middle (l₁:=[e,f,g,h,i,j,k,m,n,o,p,q,r])).symm))))
theorem py{a b c d e f g:av}{l:List av}:(a::b::c::d::e::g::f::l).Perm (a::b::c::d::e::f::g::l):=.cons _ (.cons _ (.cons _ (.cons _ (.cons _ ((List.perm_middle (l₁:=[f])).symm)))))
theorem pz{a b c d e f g h:av}{l:List av}:(a::b::c::d::e::h::f::g::l).Perm (a::b::c::d::e::f::g::h::l):=.cons _ (.cons _ (.cons _ (.cons _ (.cons _ ((List.perm_middle (l₁:=[f,g])).symm)))))
theorem w5{a b c d e f g h i:av}{l:List av}:(a::b::c::d::e::i::f::g::h::l).Perm (a::b::c::d::e::f::g::h::i::l):=.cons _ (.cons _ (.cons _ (.cons _ (.cons _ ((List.perm_middle (l₁:=[f,g,h])).symm)))))
theorem Jn{a b c d e f g h i j:av}{l:List av}:(a::b::c::d::e::j::f::g::h::i::l).Perm (a::b::c::d::e::f::g::h::i::j::l):=.cons _ (.cons _ (.cons _ (.cons _ (.cons _ ((List.perm_middle (l₁:=[f,g,h,i])).symm)))))
theorem St{a b c d e f g h i j k m:av}{l:List av}:(a::b::c::d::e::m::f::g::h::i::j::k::l).Perm (a::b::c::d::e::f::g::h::i::j::k::m::l):=.cons _ (.cons _ (.cons _ (.cons _ (.cons _ ((List.perm_middle (l₁:=[f,g,h,i,j,k])).symm)))))
theorem Jj{a b c d e f g h i j k m n:av}{l:List av}:(a::b::c::d::e::n::f::g::h::i::j::k::m::l).Perm (a::b::c::d::e::f::g::h::i::j::k::m::n::l):=.cons _ (.cons _ (.cons _ (.cons _ (.cons _ ((List.perm_middle (l₁:=[f,g,h,i,j,k,m])).symm)))))
theorem Jk{a b c d e f g h i j k m n o:av}{l:List av}:(a::b::c::d::e::o::f::g::h::i::j::k::m::n::l).Perm (a::b::c::d::e::f::g::h::i::j::k::m::n::o::l):=.cons _ (.cons _ (.cons _ (.cons _ (.cons _ ((List.perm_middle (l₁:=[f,g,h,i,j,k,m,n])).symm)))))
theorem Jl{a b c d e f g h i j k m n o p q r s:av}{l:List av}:(a::b::c::d::e::s::f::g::h::i::j::k::m::n::o::p::q::r::l).Perm (a::b::c::d::e::f::g::h::i::j::k::m::n::o::p::q::r::s::l):=.cons _ (.cons _ (.cons _ (.cons _ (.cons _ ((List.perm_middle (l₁:=[f,g,h,i,j,k,m,n,o,p,q,r])).symm)))))
theorem Jm{a b c d e f g h i j k m n o p q r s t:av}{l:List av}:(a::b::c::d::e::t::f::g::h::i::j::k::m::n::o::p::q::r::s::l).Perm (a::b::c::d::e::f::g::h::i::j::k::m::n::o::p::q::r::s::t::l):=.cons _ (.cons _ (.cons _ (.cons _ (.cons _ ((List.perm_middle (l₁:=[f,g,h,i,j,k,m,n,o,p,q,r,s])).symm)))))
theorem qh{a b c d e f g h:av}{l:List av}:(a::b::c::d::e::f::h::g::l).Perm (a::b::c::d::e::f::g::h::l):=.cons _ (.cons _ (.cons _ (.cons _ (.cons _ (.cons _ ((List.perm_middle (l₁:=[g])).symm))))))
theorem sP{a b c d e f g h i:av}{l:List av}:(a::b::c::d::e::f::i::g::h::l).Perm (a::b::c::d::e::f::g::h::i::l):=.cons _ (.cons _ (.cons _ (.cons _ (.cons _ (.cons _ ((List.perm_middle (l₁:=[g,h])).symm))))))
theorem w6{a b c d e f g h i j:av}{l:List av}:(a::b::c::d::e::f::j::g::h::i::l).Perm (a::b::c::d::e::f::g::h::i::j::l):=.cons _ (.cons _ (.cons _ (.cons _ (.cons _ (.cons _ ((List.perm_middle (l₁:=[g,h,i])).symm))))))
theorem Jo{a b c d e f g h i j k m n o:av}{l:List av}:(a::b::c::d::e::f::o::g::h::i::j::k::m::n::l).Perm (a::b::c::d::e::f::g::h::i::j::k::m::n::o::l):=.cons _ (.cons _ (.cons _ (.cons _ (.cons _ (.cons _ ((List.perm_middle (l₁:=[g,h,i,j,k,m,n])).symm))))))
theorem Jp{a b c d e f g h i j k m n o p:av}{l:List av}:(a::b::c::d::e::f::p::g::h::i::j::k::m::n::o::l).Perm (a::b::c::d::e::f::g::h::i::j::k::m::n::o::p::l):=.cons _ (.cons _ (.cons _ (.cons _ (.cons _ (.cons _ ((List.perm_middle (l₁:=[g,h,i,j,k,m,n,o])).symm))))))
theorem Jq{a b c d e f g h i j k m n o p q r s t:av}{l:List av}:(a::b::c::d::e::f::t::g::h::i::j::k::m::n::o::p::q::r::s::l).Perm (a::b::c::d::e::f::g::h::i::j::k::m::n::o::p::q::r::s::t::l):=.cons _ (.cons _ (.cons _ (.cons _ (.cons _ (.cons _ ((List.perm_middle (l₁:=[g,h,i,j,k,m,n,o,p,q,r,s])).symm))))))
theorem Jr{a b c d e f g h i j k m n o p q r s t u:av}{l:List av}:(a::b::c::d::e::f::u::g::h::i::j::k::m::n::o::p::q::r::s::t::l).Perm (a::b::c::d::e::f::g::h::i::j::k::m::n::o::p::q::r::s::t::u::l):=.cons _ (.cons _ (.cons _ (.cons _ (.cons _ (.cons _ ((List.perm_middle (l₁:=[g,h,i,j,k,m,n,o,p,q,r,s,t])).symm))))))
theorem qi{a b c d e f g h i:av}{l:List av}:(a::b::c::d::e::f::g::i::h::l).Perm (a::b::c::d::e::f::g::h::i::l):=.cons _ (.cons _ (.cons _ (.cons _ (.cons _ (.cons _ (.cons _ ((List.perm_middle (l₁:=[h])).symm)))))))
theorem w7{a b c d e f g h i j:av}{l:List av}:(a::b::c::d::e::f::g::j::h::i::l).Perm (a::b::c::d::e::f::g::h::i::j::l):=.cons _ (.cons _ (.cons _ (.cons _ (.cons _ (.cons _ (.cons _ ((List.perm_middle (l₁:=[h,i])).symm)))))))
theorem Su{a b c d e f g h i j k m:av}{l:List av}:(a::b::c::d::e::f::g::m::h::i::j::k::l).Perm (a::b::c::d::e::f::g::h::i::j::k::m::l):=.cons _ (.cons _ (.cons _ (.cons _ (.cons _ (.cons _ (.cons _ ((List.perm_middle (l₁:=[h,i,j,k])).symm)))))))
theorem DB{a b c d e f g h i j k m n o p q:av}{l:List av}:(a::b::c::d::e::f::g::q::h::i::j::k::m::n::o::p::l).Perm (a::b::c::d::e::f::g::h::i::j::k::m::n::o::p::q::l):=.cons _ (.cons _ (.cons _ (.cons _ (.cons _ (.cons _ (.cons _ ((List.perm_middle (l₁:=[h,i,j,k,m,n,o,p])).symm)))))))
theorem Js{a b c d e f g h i j k m n o p q r s t u:av}{l:List av}:(a::b::c::d::e::f::g::u::h::i::j::k::m::n::o::p::q::r::s::t::l).Perm (a::b::c::d::e::f::g::h::i::j::k::m::n::o::p::q::r::s::t::u::l):=.cons _ (.cons _ (.cons _ (.cons _ (.cons _ (.cons _ (.cons _ ((List.perm_middle (l₁:=[h,i,j,k,m,n,o,p,q,r,s,t])).symm)))))))
theorem Sv{a b c d e f g h i j k m n o p q r s t u v:av}{l:List av}:(a::b::c::d::e::f::g::v::h::i::j::k::m::n::o::p::q::r::s::t::u::l).Perm (a::b::c::d::e::f::g::h::i::j::k::m::n::o::p::q::r::s::t::u::v::l):=.cons _ (.cons _ (.cons _ (.cons _ (.cons _ (.cons _ (.cons _ ((List.perm_middle (l₁:=[h,i,j,k,m,n,o,p,q,r,s,t,u])).symm)))))))
theorem w8{a b c d e f g h i j:av}{l:List av}:(a::b::c::d::e::f::g::h::j::i::l).Perm (a::b::c::d::e::f::g::h::i::j::l):=.cons _ (.cons _ (.cons _ (.cons _ (.cons _ (.cons _ (.cons _ (.cons _ ((List.perm_middle (l₁:=[i])).symm))))))))
theorem z8{a b c d e f g h i j k:av}{l:List av}:(a::b::c::d::e::f::g::h::k::i::j::l).Perm (a::b::c::d::e::f::g::h::i::j::k::l):=.cons _ (.cons _ (.cons _ (.cons _ (.cons _ (.cons _ (.cons _ (.cons _ ((List.perm_middle (l₁:=[i,j])).symm))))))))
theorem DC{a b c d e f g h i j k m n o p q r:av}{l:List av}:(a::b::c::d::e::f::g::h::r::i::j::k::m::n::o::p::q::l).Perm (a::b::c::d::e::f::g::h::i::j::k::m::n::o::p::q::r::l):=.cons _ (.cons _ (.cons _ (.cons _ (.cons _ (.cons _ (.cons _ (.cons _ ((List.perm_middle (l₁:=[i,j,k,m,n,o,p,q])).symm))))))))
theorem w9{a b c d e f g h i j k:av}{l:List av}:(a::b::c::d::e::f::g::h::i::k::j::l).Perm (a::b::c::d::e::f::g::h::i::j::k::l):=.cons _ (.cons _ (.cons _ (.cons _ (.cons _ (.cons _ (.cons _ (.cons _ (.cons _ ((List.perm_middle (l₁:=[j])).symm)))))))))
theorem Aa{a b c d e f g h i j k m:av}{l:List av}:(a::b::c::d::e::f::g::h::i::m::j::k::l).Perm (a::b::c::d::e::f::g::h::i::j::k::m::l):=.cons _ (.cons _ (.cons _ (.cons _ (.cons _ (.cons _ (.cons _ (.cons _ (.cons _ ((List.perm_middle (l₁:=[j,k])).symm)))))))))
theorem DD{a b c d e f g h i j k m n o p q r s:av}{l:List av}:(a::b::c::d::e::f::g::h::i::s::j::k::m::n::o::p::q::r::l).Perm (a::b::c::d::e::f::g::h::i::j::k::m::n::o::p::q::r::s::l):=.cons _ (.cons _ (.cons _ (.cons _ (.cons _ (.cons _ (.cons _ (.cons _ (.cons _ ((List.perm_middle (l₁:=[j,k,m,n,o,p,q,r])).symm)))))))))
theorem Dx{a b c d e f g h i j k m n:av}{l:List av}:(a::b::c::d::e::f::g::h::i::j::n::k::m::l).Perm (a::b::c::d::e::f::g::h::i::j::k::m::n::l):=.cons _ (.cons _ (.cons _ (.cons _ (.cons _ (.cons _ (.cons _ (.cons _ (.cons _ (.cons _ ((List.perm_middle (l₁:=[k,m])).symm))))))))))
theorem I0{a b c d e f g h i j k m n o p q r s t:av}{l:List av}:(a::b::c::d::e::f::g::h::i::j::t::k::m::n::o::p::q::r::s::l).Perm (a::b::c::d::e::f::g::h::i::j::k::m::n::o::p::q::r::s::t::l):=.cons _ (.cons _ (.cons _ (.cons _ (.cons _ (.cons _ (.cons _ (.cons _ (.cons _ (.cons _ ((List.perm_middle (l₁:=[k,m,n,o,p,q,r,s])).symm))))))))))
theorem I1{a b c d e f g h i j k m n o p:av}{l:List av}:(a::b::c::d::e::f::g::h::i::j::k::p::m::n::o::l).Perm (a::b::c::d::e::f::g::h::i::j::k::m::n::o::p::l):=.cons _ (.cons _ (.cons _ (.cons _ (.cons _ (.cons _ (.cons _ (.cons _ (.cons _ (.cons _ (.cons _ ((List.perm_middle (l₁:=[m,n,o])).symm)))))))))))
theorem I2{a b c d e f g h i j k m n o p q:av}{l:List av}:(a::b::c::d::e::f::g::h::i::j::k::m::q::n::o::p::l).Perm (a::b::c::d::e::f::g::h::i::j::k::m::n::o::p::q::l):=.cons _ (.cons _ (.cons _ (.cons _ (.cons _ (.cons _ (.cons _ (.cons _ (.cons _ (.cons _ (.cons _ (.cons _ ((List.perm_middle (l₁:=[n,o,p])).symm))))))))))))
theorem I3{a b c d e f g h i j k m n o p q r:av}{l:List av}:(a::b::c::d::e::f::g::h::i::j::k::m::n::r::o::p::q::l).Perm (a::b::c::d::e::f::g::h::i::j::k::m::n::o::p::q::r::l):=.cons _ (.cons _ (.cons _ (.cons _ (.cons _ (.cons _ (.cons _ (.cons _ (.cons _ (.cons _ (.cons _ (.cons _ (.cons _ ((List.perm_middle (l₁:=[o,p,q])).symm)))))))))))))
theorem I4{a b c d e f g h i j k m n o p q r s:av}{l:List av}:(a::b::c::d::e::f::g::h::i::j::k::m::n::o::s::p::q::r::l).Perm (a::b::c::d::e::f::g::h::i::j::k::m::n::o::p::q::r::s::l):=.cons _ (.cons _ (.cons _ (.cons _ (.cons _ (.cons _ (.cons _ (.cons _ (.cons _ (.cons _ (.cons _ (.cons _ (.cons _ (.cons _ ((List.perm_middle (l₁:=[p,q,r])).symm))))))))))))))
theorem I5{a b c d e f g h i j k m n o p q r s t:av}{l:List av}:(a::b::c::d::e::f::g::h::i::j::k::m::n::o::p::t::q::r::s::l).Perm (a::b::c::d::e::f::g::h::i::j::k::m::n::o::p::q::r::s::t::l):=.cons _ (.cons _ (.cons _ (.cons _ (.cons _ (.cons _ (.cons _ (.cons _ (.cons _ (.cons _ (.cons _ (.cons _ (.cons _ (.cons _ (.cons _ ((List.perm_middle (l₁:=[q,r,s])).symm)))))))))))))))
theorem I6{a b c d e f g h i j k m n o p q r s t u:av}{l:List av}:(a::b::c::d::e::f::g::h::i::j::k::m::n::o::p::q::u::r::s::t::l).Perm (a::b::c::d::e::f::g::h::i::j::k::m::n::o::p::q::r::s::t::u::l):=.cons _ (.cons _ (.cons _ (.cons _ (.cons _ (.cons _ (.cons _ (.cons _ (.cons _ (.cons _ (.cons _ (.cons _ (.cons _ (.cons _ (.cons _ (.cons _ ((List.perm_middle (l₁:=[r,s,t])).symm))))))))))))))))
theorem hM(h:aC w0 [] [] w):aC w0 [] [] w:=h
theorem eJ{h0:av}(h:aC w0 [] [h0] w):aC w0 [] [h0] w:=h
theorem eK{h0 h1:av}(h:aC w0 [] [h0,h1] w):aC w0 [] [h0,h1] w:=h
theorem ez{h0 h1 aq:av}(h:aC w0 [] [h0,h1,aq] w):aC w0 [] [h0,h1,aq] w:=h
theorem iK{h0 h1 aq aQ:av}(h:aC w0 [] [h0,h1,aq,aQ] w):aC w0 [] [h0,h1,aq,aQ] w:=h
theorem mC{h0 h1 aq aQ bH:av}(h:aC w0 [] [h0,h1,aq,aQ,bH] w):aC w0 [] [h0,h1,aq,aQ,bH] w:=h
theorem kZ{z0:aP}{h0 h1:av}(h:aC w0 [z0] [h0,h1] w):aC w0 [z0] [h0,h1] w:=h
theorem o7{z0:aP}{h0 h1 aq:av}(h:aC w0 [z0] [h0,h1,aq] w):aC w0 [z0] [h0,h1,aq] w:=h
theorem qQ{z0:aP}{h0 h1 aq aQ bH:av}(h:aC w0 [z0] [h0,h1,aq,aQ,bH] w):aC w0 [z0] [h0,h1,aq,aQ,bH] w:=h
theorem yJ{z0:aP}{h0 h1 aq aQ bH cN dq eX dp cC mh oU ry rz rA rB iV rC rD rE:av}(h:aC w0 [z0] [h0,h1,aq,aQ,bH,cN,dq,eX,dp,cC,mh,oU,ry,rz,rA,rB,iV,rC,rD,rE] w):aC w0 [z0] [h0,h1,aq,aQ,bH,cN,dq,eX,dp,cC,mh,oU,ry,rz,rA,rB,iV,rC,rD,rE] w:=h
theorem gw{h0 h1:av}(h:aC w0 (zs) (h0::h1::hs) w):aC w0 (zs) (h0::h1::hs) w:=h
theorem k0{h0 h1 aq:av}(h:aC w0 (zs) (h0::h1::aq::hs) w):aC w0 (zs) (h0::h1::aq::hs) w:=h
theorem fr{h0 h1 aq aQ:av}(h:aC w0 (zs) (h0::h1::aq::aQ::hs) w):aC w0 (zs) (h0::h1::aq::aQ::hs) w:=h
theorem iq{h0 h1 aq aQ bH:av}(h:aC w0 (zs) (h0::h1::aq::aQ::bH::hs) w):aC w0 (zs) (h0::h1::aq::aQ::bH::hs) w:=h
theorem lB{h0 h1 aq aQ bH cN:av}(h:aC w0 (zs) (h0::h1::aq::aQ::bH::cN::hs) w):aC w0 (zs) (h0::h1::aq::aQ::bH::cN::hs) w:=h
theorem kH{h0 h1 aq aQ bH cN dq:av}(h:aC w0 (zs) (h0::h1::aq::aQ::bH::cN::dq::hs) w):aC w0 (zs) (h0::h1::aq::aQ::bH::cN::dq::hs) w:=h
theorem hW{h0 h1 aq aQ bH cN dq eX:av}(h:aC w0 (zs) (h0::h1::aq::aQ::bH::cN::dq::eX::hs) w):aC w0 (zs) (h0::h1::aq::aQ::bH::cN::dq::eX::hs) w:=h
theorem jT{h0 h1 aq aQ bH cN dq eX dp:av}(h:aC w0 (zs) (h0::h1::aq::aQ::bH::cN::dq::eX::dp::hs) w):aC w0 (zs) (h0::h1::aq::aQ::bH::cN::dq::eX::dp::hs) w:=h
theorem m8{h0 h1 aq aQ bH cN dq eX dp cC:av}(h:aC w0 (zs) (h0::h1::aq::aQ::bH::cN::dq::eX::dp::cC::hs) w):aC w0 (zs) (h0::h1::aq::aQ::bH::cN::dq::eX::dp::cC::hs) w:=h
theorem ud{h0 h1 aq aQ bH cN dq eX dp cC mh:av}(h:aC w0 (zs) (h0::h1::aq::aQ::bH::cN::dq::eX::dp::cC::mh::hs) w):aC w0 (zs) (h0::h1::aq::aQ::bH::cN::dq::eX::dp::cC::mh::hs) w:=h
theorem lA{h0 h1 aq aQ bH cN dq eX dp cC mh oU ry rz rA rB iV rC rD rE:av}(h:aC w0 (zs) (h0::h1::aq::aQ::bH::cN::dq::eX::dp::cC::mh::oU::ry::rz::rA::rB::iV::rC::rD::rE::hs) w):aC w0 (zs) (h0::h1::aq::aQ::bH::cN::dq::eX::dp::cC::mh::oU::ry::rz::rA::rB::iV::rC::rD::rE::hs) w:=h
theorem vS{h0 h1 aq aQ bH cN dq eX dp cC mh oU ry rz rA rB iV rC rD rE LQ:av}(h:aC w0 (zs) (h0::h1::aq::aQ::bH::cN::dq::eX::dp::cC::mh::oU::ry::rz::rA::rB::iV::rC::rD::rE::LQ::hs) w):aC w0 (zs) (h0::h1::aq::aQ::bH::cN::dq::eX::dp::cC::mh::oU::ry::rz::rA::rB::iV::rC::rD::rE::LQ::hs) w:=h
theorem qR{z0:aP}{h0 h1 aq aQ:av}(h:aC w0 (z0::zs) (h0::h1::aq::aQ::hs) w):aC w0 (z0::zs) (h0::h1::aq::aQ::hs) w:=h
theorem pY{z0:aP}{h0 h1 aq aQ bH cN dq eX:av}(h:aC w0 (z0::zs) (h0::h1::aq::aQ::bH::cN::dq::eX::hs) w):aC w0 (z0::zs) (h0::h1::aq::aQ::bH::cN::dq::eX::hs) w:=h
theorem qS{z0:aP}{h0 h1 aq aQ bH cN dq eX dp:av}(h:aC w0 (z0::zs) (h0::h1::aq::aQ::bH::cN::dq::eX::dp::hs) w):aC w0 (z0::zs) (h0::h1::aq::aQ::bH::cN::dq::eX::dp::hs) w:=h
theorem ib{z0:aP}{h0 h1 aq aQ bH cN dq eX dp cC:av}(h:aC w0 (z0::zs) (h0::h1::aq::aQ::bH::cN::dq::eX::dp::cC::hs) w):aC w0 (z0::zs) (h0::h1::aq::aQ::bH::cN::dq::eX::dp::cC::hs) w:=h
theorem pX{z0:aP}{h0 h1 aq aQ bH cN dq eX dp cC mh oU:av}(h:aC w0 (z0::zs) (h0::h1::aq::aQ::bH::cN::dq::eX::dp::cC::mh::oU::hs) w):aC w0 (z0::zs) (h0::h1::aq::aQ::bH::cN::dq::eX::dp::cC::mh::oU::hs) w:=h
end
theorem bY{P : Program}{f : FuncId}{fn : Func}(h : P.funcs[f]? = some fn)(h1 : fn.body.isNone = false := by rfl)(aq : (fn.name == "runtime.NumGoroutine") = false := by kernel_rfl) : bU P f := ⟨fn, h, h1, aq⟩
theorem c2:(∀ a b:Bool,((a || b)=true)=(a=true∨b=true))∧(∀ a b:Bool,((a&&b)=true)=(a=true∧b=true))∧(∀ a b:Bool,((a || b)=false)↔(a=false∧b=false))∧(∀ a b:Bool,((a&&b)=false)↔(a=false∨b=false))∧(∀ (p:Prop) [Decidable p],(decide p=true)=p)∧(∀ (p:Prop) [Decidable p],(decide p=false)↔¬ p)∧(∀ b:Bool,((!b)=true)=(b=false))∧(∀ b:Bool,((!b)=false)=(b=true)):=
 ⟨Bool.or_eq_true,Bool.and_eq_true,@Bool.or_eq_false_iff,@Bool.and_eq_false_iff,fun p _=>decide_eq_true_eq,fun p _=>decide_eq_false_iff_not,fun b=>Bool.not_eq_true' b,fun b=>Bool.not_eq_false' b⟩
section
variable {P:Program}{n:Nat}{w0:World}{zs:List aP}{hs:List av}{L L':List (Nat×Value)}{ops:Array Oper}{l l':List Oper}{k:Nat}{Q:Exit→Act→World→Prop}{a:Act}{w:World}
theorem ax{x y:Code}(h:∀ K:Act→World→Prop,(∀ a w,y.wp P Q a w→K a w)→x.wp P (Exit.then K Q) a w):(Code.seq x y).wp P Q a w:=wp_seq_k h
theorem aB[aW]{id:Nat}{y:Code}(ab:Fr n L a)(U:aC w0 zs hs w)(s:fk P n w0 zs hs l.toArray k L l L' [])(K:∀ a w,Fr n L' a→aC w0 zs hs w→y.wp P Q a w):(Code.seq (Code.region id l.toArray false) y).wp P Q a w:=wp_seq_k fun _ h=>bq ab U s fun a w ab U=>h a w (K a w ab U)
theorem hZ[aW]{id:Nat}{y:Code}(hm:P.follows .mixedOrders=true)(gq:Region.lexB .any l.toArray=true)(ab:Fr n L a)(U:aC w0 zs hs w)(s:fk P n w0 zs hs l.toArray k L l L' [])(K:∀ a w,Fr n L' a→aC w0 zs hs w→y.wp P Q a w):(Code.seq (Code.region id l.toArray true) y).wp P Q a w:=wp_seq_k fun _ h=>aeA hm gq ab U s fun a w ab U=>h a w (K a w ab U)
theorem a8{id:Nat}{y:Code}(h:∀ K:Act→World→Prop,(∀ a w,y.wp P Q a w→K a w)→wpList P l.toArray (Exit.then K Q) l a w):(Code.seq (Code.region id l.toArray false) y).wp P Q a w:=wp_seq_k fun K dE=>du (h K dE)
theorem aE[aW](ab:Fr n L a)(U:aC w0 zs hs w)(s:fk P n w0 zs hs ops k L l L' l')(K:∀ a w,Fr n L' a→aC w0 zs hs w→wpList P ops Q l' a w):wpList P ops Q l a w:=k8 ab U s K
theorem aH[aW]{d:Option Tmp}{op:Op}{ty:TypeId}{pos:String}{af:Array Edge}{rest:List Oper}{K:Value→List aP→List av→Prop}(ab:Fr n L a)(U:aC w0 zs hs w)(aT:(match d with | some k=>Nat.blt k n | none=>true)=true)(e:e7 P n w0 zs hs L ⟨d,op,ty,pos,af,none⟩ K)
    (h:∀ v zs' hs' a w,K v zs' hs'→Fr n (kL d v L) a→aC w0 zs' hs' w→wpList P ops Q rest a w):wpList P ops Q (⟨d,op,ty,pos,af,none⟩::rest) a w:=ahr ab U aT e h
theorem ag[aW]{d:Tmp}{op:Op}{t:TypeId}{p:String}{af:Array Edge}{v:Value}(q:bL P n w0 zs hs L ⟨some d,op,t,p,af,none⟩ v)(r:fk P n w0 zs hs ops k ((d,v)::L) l L' l')(aT:Nat.blt d n=true:=by rfl):fk P n w0 zs hs ops (k+1) L (⟨some d,op,t,p,af,none⟩::l) L' l':=l7 aT q r
theorem ai[aW]{d:Tmp}{x:Operand}{t:TypeId}{p:String}{af:Array Edge}{v:Value}(h:aU L x=some v)(r:fk P n w0 zs hs ops k ((d,v)::L) l L' l')(aT:Nat.blt d n=true:=by rfl):fk P n w0 zs hs ops (k+1) L (⟨some d,.move x,t,p,af,none⟩::l) L' l':=l7 aT (bE h) r
theorem ar[aW]{d:Tmp}{x:Operand}{t:TypeId}{p:String}{af:Array Edge}{v:Value}(h:aU L x=some v)(r:fk P n w0 zs hs ops k ((d,v)::L) l L' l')(aT:Nat.blt d n=true:=by rfl):fk P n w0 zs hs ops (k+1) L (⟨some d,.assign x,t,p,af,none⟩::l) L' l':=l7 aT (lD h) r
theorem bX[aW]{d:Tmp}{x y:Operand}{t bZ t2:TypeId}{ps:String}{af:Array Edge}{p q:Int}(h1:aU L x=some (az p))(aq:aU L y=some (az q))(r:fk P n w0 zs hs ops k ((d,az (p+q))::L) l L' l')(au : -9223372036854775808≤p+q∧p+q≤9223372036854775807:=by omega)(aT:Nat.blt d n=true:=by rfl):fk P n w0 zs hs ops (k+1) L (⟨some d,.binOp .add t x y bZ,t2,ps,af,none⟩::l) L' l':=l7 aT (pb h1 aq au) r
theorem e2[aW]{d:Tmp}{x y:Operand}{t bZ t2:TypeId}{ps:String}{af:Array Edge}{p q:Int}(h1:aU L x=some (az p))(aq:aU L y=some (az q))(r:fk P n w0 zs hs ops k ((d,az (p-q))::L) l L' l')(au : -9223372036854775808≤p-q∧p-q≤9223372036854775807:=by omega)(aT:Nat.blt d n=true:=by rfl):fk P n w0 zs hs ops (k+1) L (⟨some d,.binOp .sub t x y bZ,t2,ps,af,none⟩::l) L' l':=l7 aT (na h1 aq au) r
theorem aR[aW]{J:Act→World→Prop}{l:List Oper}{f:Nat}{W:ku}{ls:Array Bool}(i:Nat){iJ:Array Bool}{d:Option Tmp}{op:Op}{t:TypeId}{p:String}{af:Array Edge}{v:Value}
    (aG:l[i]?=some ⟨d,op,t,p,af,none⟩) (ab:Fr n L a) (U:aC w0 zs hs w) (q:bL P n w0 zs hs L ⟨d,op,t,p,af,none⟩ v) (K:∀ a,Fr n (kL d v L) a→mU P l.toArray J f ((i,aC w0 zs hs)::W) iJ a w)
    (gq:(r9 ⟨d,op,t,p,af,none⟩&&Region.noSelect l.toArray&&Region.free .any l.toArray ls i&&(Region.ready .any l.toArray ls).contains i&&(match d with | some k=>Nat.blt k n | none=>true))=true:=by kernel_rfl) (mx:ls.setIfInBounds i true=iJ:=by rfl):mU P l.toArray J (f+1) W ls a w:=by cases d <;> exact WY i iJ aG gq mx ab U q K
end
end Go.aJ
