/- walks and plain laws -/
import Derived.Test.YtngcjojijaknnaaGreatDoorFwB
import Derived.Deep.DeepAppendWide
set_option linter.all false
section
namespace Go.aJ
open Go Go.Sem
section
variable {P:Program}{n:Nat}{w0:World}{zs:List aP}{hs:List av}{L:List (Nat×Value)}{d:Option Tmp}{ty t:TypeId}{pos:String}{af:Array Edge}{g:Option (Nat×Bool)}{x y:Operand}{v:Value}
theorem Hb[aW]{fs:List Field}{s bp:Nat}{zc:List Value}(aM:a1 P t (.struct fs.toArray) s bp (.agg zc.toArray))(m:Nat)(bN:(fs.mapM fun f=>(P.info? f.type).map fun i=>(f.offset,i.size))=some ((List.range' 0 m).map fun i=>(i,1))){i:Nat}(h1:aU L x=some v)(cB:v.oneCell'=true)(bj:zc.length=m)(aG:i<m) :
  bL P n w0 zs hs L ⟨d,.build t #[(i,x)],ty,pos,af,g⟩ (.agg (zc.set i v).toArray):=
 hc (vs:=[v]) aM bN (by simp [ic,h1]) (by
  have bu:v.cells=#[v]:=by cases v <;> first | rfl | (simp [Value.oneCell'] at cB)
  have aO:=Oy m i aG
  simp only [List.map_cons,List.map_nil,List.zip_cons_cons,List.zip_nil_left,Instr.fill,aO,bu]
  have:(Value.agg zc.toArray).cells=zc.toArray:=rfl
  rw [this,if_neg (by simp;omega)]
  simp)
end
end Go.aJ
namespace Go.aJ
open Go Go.Sem
section
variable {P:Program}{w0:World}{zs:List aP}{hs:List av}{l:List Oper}
end
end Go.aJ
end
section
namespace Go.aJ
open Go Go.Sem
def gR{α:Type}(kf:α→Value)(l:List (α×Value))(es:List MapEntry):Prop:=es.map (fun e=>(e.key,e.val))=l.map (fun p=>(kf p.1,p.2))
def ga{α:Type}[DecidableEq α](a:α):List (α×Value)→Nat→Option (Nat×Value)
 | [],_=>none
 | p::l,i=>if a=p.1 then some (i,p.2) else ga a l (i+1)
def fN{α:Type}[DecidableEq α](l:List (α×Value))(a:α):Option Value:=(ga a l 0).map (·.2)
def h4{α:Type}[DecidableEq α](a:α)(v:Value):List (α×Value)→List (α×Value)
 | []=>[(a,v)]
 | p::l=>if a=p.1 then (a,v)::l else p::h4 a v l
theorem EO{α:Type}[DecidableEq α](a:α):∀ (l:List (α×Value)) (i:Nat),(ga a l i).map (·.2)=(ga a l 0).map (·.2)
 | [],_=>rfl
 | p::l,i=>by
  unfold ga
  split
  ·rfl
  ·rw [EO a l (i+1),EO a l (0+1)]
theorem qn{α:Type}[DecidableEq α](p:α×Value)(l:List (α×Value))(a:α):fN (p::l) a=if a=p.1 then some p.2 else fN l a:=by
 unfold fN
 rw [ga]
 split
 ·rfl
 ·exact EO a l 1
theorem sZ{α:Type}[DecidableEq α](a b:α)(v:Value):∀ l:List (α×Value),fN (h4 a v l) b=if b=a then some v else fN l b
 | []=>by rw [h4,qn]
 | p::l=>by
  rw [h4]
  split
  ·rename_i h
   rw [qn,qn]
   by_cases au:b=a
   ·rw [if_pos au,if_pos au]
   ·rw [if_neg au,if_neg au,if_neg (h ▸ au)]
  ·rename_i h
   rw [qn,qn,sZ a b v l]
   by_cases au:b=a
   ·subst au;rw [if_neg h,if_pos rfl,if_pos rfl]
   ·rw [if_neg au,if_neg au]
structure pv {α:Type} [DecidableEq α] (P:Program) (kt:TypeId) (kf:α→Value) (V:α→Prop):Prop where
 jr:∀ em a (w:World),V a→(Instr.checkKey em 10000 kt (kf a)).run P w=.ok () w
 find:∀ a (w:World) l es,gR kf l es→(∀ p∈l,V p.1)→V a→(Instr.findKey kt (kf a) es).run P w=.ok (ga a l 0) w
 bits:∀ a,Instr.sameBits 10000 (kf a) (kf a)=true
theorem vM{P:Program}{kt:TypeId}{s b:Nat}{z:Value}(aM:a1 P kt (.int .i64) s b z):pv P kt az (fun _=>True) where
 jr em a w _:=by
  unfold Instr.checkKey
  rw [Sem.run_bind,run_underlying aM.und]
  simp [az]
 find a w l es fA _ _:=by
  have key:∀ (l:List (Int×Value)) (es:List MapEntry) (i:Nat),gR az l es→Instr.findNow (.int .i64) (az a) es i=some (ga a l i):=by
   intro l
   induction l with
   | nil=>
    intro es i h
    have:es=[]:=by unfold gR at h;simpa using h
    subst this;rfl
   | cons p l ih=>
    intro es i h
    cases es with
    | nil=>unfold gR at h;simp at h
    | cons e es=>
     unfold gR at h
     simp only [List.map_cons,List.cons.injEq,Prod.mk.injEq] at h
     obtain ⟨⟨h1,aq⟩,aQ⟩:=h
     unfold Instr.findNow ga
     rw [h1]
     have bK:Instr.sameNow (.int .i64) (az a) (az p.1)=some (a == p.1):=rfl
     rw [bK]
     by_cases bH:a=p.1
     ·rw [if_pos bH,beq_iff_eq.2 bH,aq]
     ·rw [if_neg bH,show (a == p.1)=false by simpa using bH]
      exact ih es (i+1) aQ
  unfold Instr.findKey
  rw [Sem.run_bind,run_underlying aM.und]
  simp only [Result.andThen_ok,key l es 0 fA]
  rfl
 bits a:=by simp [Instr.sameBits,az]
section
variable {P:Program}{n:Nat}{w0:World}{zs:List aP}{hs:List av}{L:List (Nat×Value)}{d:Option Tmp}{ty t:TypeId}{pos:String}{af:Array Edge}{g:Option (Nat×Bool)}{x y ki:Operand}{u v:Value}
theorem AE[aW]:e7 P n w0 zs hs L ⟨d,.makeMap t none,ty,pos,af,g⟩ (fun v zs' hs'=>∃ b,v=.map (some b)∧zs'=zs∧hs'=.mp b [] 0::hs):=
 jD fun a a7 w hw=>by
  refine ⟨_,zs,_, { w with heap:=w.heap.push (.map #[] 0) },.inl ?_,⟨w.heap.size,rfl,rfl,rfl⟩,?_⟩
  ·simp only [execOp]
   rfl
  ·have hl:(b1 w).le (b1 { w with heap:=w.heap.push (.map #[] 0) }):=fun b o au=>by
    have:=kJ au
    simp only [b1] at au ⊢
    rw [Array.getElem?_push,if_neg (by omega)]
    exact au
   have h1:=hw.later hl ⟨rfl,rfl,rfl⟩
   refine ⟨h1.ext,h1.zone,fun r aY=>?_,?_,h1.io⟩
   ·rcases List.mem_cons.1 aY with rfl | aY
    ·refine ⟨⟨le_size hw.ext,by simp⟩,fun b au z bj=>?_⟩
     simp only [av.id,Option.some.injEq] at au
     subst au
     cases fK:z w.heap.size with
     | none=>rfl
     | some o=>
      have:=kJ ((hw.zone z bj).1 _ o fK)
      omega
    ·exact h1.own r aY
   ·rw [List.filterMap_cons]
    simp only [av.id]
    refine List.nodup_cons.2 ⟨fun hm=>?_,h1.nd⟩
    obtain ⟨r,aY,m5⟩:=List.mem_filterMap.1 hm
    have:=(av.mE (hw.own r aY).1 _ m5).2
    omega
variable {α:Type}[DecidableEq α]{kf:α→Value}{V:α→Prop}{kt e:TypeId}
theorem P9{s bp:Nat}{zv:Value}(aM:a1 P t (.map kt e) s bp zv){de:TypeDesc}{se be:Nat}{ze:Value}(cg:a1 P e de se be ze)(dE:pv P kt kf V){l:List (α×Value)}{es:List MapEntry}{c b:Nat}{w:World}(au:w.heap[b]?=some (.map es.toArray c))(fA:gR kf l es)(j7:∀ p∈l,V p.1){a:α}(a7:V a)(ok:Bool) :
  (Instr.lookup t (.map (some b)) (kf a) ok).run P w=.ok (if ok then .tuple #[(fN l a).getD ze,.bool (fN l a).isSome] else (fN l a).getD ze) w:=by
 unfold Instr.lookup
 rw [Sem.run_bind,run_underlying aM.und]
 simp only [Result.andThen_ok]
 have aO:(getObj b).run P w=.ok (.map es.toArray c) w:=by simp [getObj,Sem.run,au]
 simp only [Sem.run_bind,aO,Result.andThen_ok,Sem.run_pure,dE.jr _ _ _ a7,dE.find a w l es fA j7 a7]
 unfold fN
 cases bw:ga a l 0 with
 | none=>
  simp only [Sem.run_bind,cg.zero,Result.andThen_ok,Sem.run_pure]
  rfl
 | some p=>
  obtain ⟨i,v⟩:=p
  simp only [Sem.run_pure,Result.andThen_ok]
  rfl
theorem OT[aW]{s bp:Nat}{zv:Value}(aM:a1 P t (.map kt e) s bp zv){de:TypeDesc}{se be:Nat}{ze:Value}(cg:a1 P e de se be ze)(dE:pv P kt kf V)(k:Nat){l:List (α×Value)}{es:List MapEntry}{c b:Nat}(h1:aU L x=some (.map (some b))){a:α}(aq:aU L y=some (kf a))(aD:hs[k]?=some (.mp b es c))(fA:gR kf l es)(j7:∀ p∈l,V p.1)(a7:V a) :
  bL P n w0 zs hs L ⟨d,.lookup t x y false,ty,pos,af,g⟩ ((fN l a).getD ze):=
 eC fun ac kU w hw=>by
  have au:=(hw.own _ (List.mem_of_getElem? aD)).1.2
  have aY:=P9 (P:=P) (w:=w) aM cg dE au fA j7 a7 false
  simp only [execOp,kU.eval h1,kU.eval aq]
  rw [Sem.run_bind,aY]
  rfl
theorem adM[aW]{s bp:Nat}{zv:Value}(aM:a1 P t (.map kt e) s bp zv){de:TypeDesc}{se be:Nat}{ze:Value}(cg:a1 P e de se be ze)(dE:pv P kt kf V)(k:Nat){l:List (α×Value)}{es:List MapEntry}{c b:Nat}(h1:aU L x=some (.map (some b))){a:α}(aq:aU L y=some (kf a))(aD:hs[k]?=some (.mp b es c))(fA:gR kf l es)(j7:∀ p∈l,V p.1)(a7:V a) :
  bL P n w0 zs hs L ⟨d,.lookup t x y true,ty,pos,af,g⟩ (.tuple [(fN l a).getD ze,.bool (fN l a).isSome].toArray):=
 eC fun ac kU w hw=>by
  have au:=(hw.own _ (List.mem_of_getElem? aD)).1.2
  have aY:=P9 (P:=P) (w:=w) aM cg dE au fA j7 a7 true
  simp only [execOp,kU.eval h1,kU.eval aq]
  rw [Sem.run_bind,aY]
  rfl
theorem AV{a:α}:∀ {l:List (α×Value)}{i j:Nat}{v:Value},ga a l i=some (j,v)→i≤j
 | [],_,_,_,h=>by cases h
 | p::l,i,j,v,h=>by
  unfold ga at h
  split at h
  ·simp only [Option.some.injEq,Prod.mk.injEq] at h;omega
  ·have:=AV h;omega
theorem NO{a:α}{u:Value}{c:Nat}:∀ {l:List (α×Value)}{es:List MapEntry}{i:Nat},gR kf l es→ga a l i=none→gR kf (h4 a u l) (es++[(⟨kf a,u,c⟩:MapEntry)])
 | [],es,_,h,_=>by
  have:es=[]:=by unfold gR at h;simpa using h
  subst this;rfl
 | p::l,[],_,h,_=>by unfold gR at h;simp at h
 | p::l,e::es,i,h,bw=>by
  unfold gR at h
  rw [List.map_cons,List.map_cons,List.cons.injEq] at h
  unfold ga at bw
  split at bw
  ·cases bw
  ·rename_i fq
   have ih:=NO (u:=u) (c:=c) (show gR kf l es from h.2) bw
   rw [h4,if_neg fq]
   unfold gR at ih ⊢
   rw [List.cons_append,List.map_cons,List.map_cons,ih,h.1]
theorem NP{a:α}{u:Value}:∀ {l:List (α×Value)}{es:List MapEntry}{i j:Nat}{v:Value},gR kf l es→ga a l i=some (j,v)→∃ e,es[j-i]?=some e∧e.key=kf a∧gR kf (h4 a u l) (es.modify (j-i) fun e=>{ e with key:=kf a,val:=u })
 | [],_,_,_,_,_,bw=>by cases bw
 | p::l,[],_,_,_,h,_=>by unfold gR at h;simp at h
 | p::l,e::es,i,j,v,h,bw=>by
  unfold gR at h
  rw [List.map_cons,List.map_cons,List.cons.injEq] at h
  obtain ⟨h1,aq⟩:=h
  simp only [Prod.mk.injEq] at h1
  unfold ga at bw
  split at bw
  ·rename_i he
   simp only [Option.some.injEq,Prod.mk.injEq] at bw
   obtain ⟨rfl,rfl⟩:=bw
   rw [Nat.sub_self]
   refine ⟨e,rfl,by rw [h1.1,he],?_⟩
   rw [h4,if_pos he]
   unfold gR
   simp [aq]
  ·rename_i fq
   have mu:=AV bw
   obtain ⟨eN,aQ,bH,cN⟩:=NP (u:=u) (show gR kf l es from aq) bw
   obtain ⟨m,hm⟩:∃ m,j-i=m+1∧j-(i+1)=m:=⟨j-(i+1),by omega,rfl⟩
   rw [hm.1]
   rw [hm.2] at aQ cN
   refine ⟨eN,by simpa using aQ,bH,?_⟩
   rw [h4,if_neg fq]
   unfold gR at cN ⊢
   rw [List.modify_succ_cons,List.map_cons,List.map_cons,cN,h1.1,h1.2]
end
def xk(l:List UInt8):Value:=.agg (l.map bf).toArray
section
variable {P:Program}
end
end Go.aJ
end
section
namespace Go.aJ
open Go Go.Sem
theorem U1{m:Nat}{l:List (List UInt8)}(hl:∀ x∈l,x.length=m){i:Nat}{x:List UInt8}(aL:l[i]?=some x){j:Nat}(a6:j<m):(l.flatten.map bf)[i*m+j]?=(x.map bf)[j]?:=by
 rw [List.getElem?_map,List.getElem?_map,Er hl aL j a6]
section
variable {P:Program}{n:Nat}{w0:World}{zs:List aP}{hs:List av}{L:List (Nat×Value)}{d:Option Tmp}{ty t:TypeId}{pos:String}{af:Array Edge}{g:Option (Nat×Bool)}{x y:Operand}{v:Value}
theorem adL[aW]{α:Type}[DecidableEq α]{kf:α→Value}{V:α→Prop}{kt e:TypeId}{s bp:Nat}{zv:Value}(aM:a1 P t (.map kt e) s bp zv){de:TypeDesc}{se be:Nat}{ze:Value}(cg:a1 P e de se be ze)(dE:pv P kt kf V)(k:Nat){l:List (α×Value)}{es:List MapEntry}{c b:Nat}(h1:aU L x=some (.map (some b))){a:α}(aq:aU L y=some (kf a))(aD:hs[k]?=some (.mp b es c))(fA:gR kf l es)(j7:∀ p∈l,V p.1)(a7:V a){u:Value}(hu:fN l a=some u) :
  bL P n w0 zs hs L ⟨d,.lookup t x y false,ty,pos,af,g⟩ u:=by
 have:=OT (P:=P) (n:=n) (w0:=w0) (zs:=zs) (d:=d) (ty:=ty) (pos:=pos) (af:=af) (g:=g) aM cg dE k h1 aq aD fA j7 a7
 rwa [hu] at this
end
end Go.aJ
end
section
namespace Go.aJ
open Go Go.Sem
section
variable {P:Program}
end
section
variable {P:Program}{n:Nat}{w0:World}{zs:List aP}{hs:List av}{L:List (Nat×Value)}{d:Option Tmp}{ty t:TypeId}{pos:String}{af:Array Edge}{g:Option (Nat×Bool)}{x y:Operand}{u v:Value}
end
end Go.aJ
end
section
namespace Go.aJ
open Go.ChangeShapes Go.WideShapes Go.ChangeAt Go.RowKit
section
variable {H:Type}{enc:TypeId×Value→H}{P:Program}{W:World}{t:TypeId}
end
end Go.aJ
end
section
namespace Go.aJ
open Go Go.Sem
theorem s6{v:Value}(h:v.oneCell'=true):v.cells=[v].toArray:=by
 cases v <;> first | rfl | (simp [Value.oneCell'] at h)
theorem UX{pl:Nat→Option (Nat×Nat)}{cells:Array Value}{i off size:Nat}{v:Value}{rest:List (Nat×Value)}{c:List Value}{out:Option (Array Value)}(bN:pl i=some (off,size))(bx:v.cells=c.toArray)(hs:c.length=size)(au:off+c.length≤cells.size)
  (h:Instr.fill pl (c.toArray.zipIdx.foldl (fun cs (x:Value×Nat)=>cs.setIfInBounds (off+x.2) x.1) cells) rest=out):Instr.fill pl cells ((i,v)::rest)=out:=by
 rw [Instr.fill,bN]
 have h1:v.cells.size=size:=by rw [bx];simpa using hs
 have aq:¬ (v.cells.size≠size∨off+v.cells.size>cells.size):=by rw [h1];omega
 simp only [bne_iff_ne,ne_eq,Bool.or_eq_true,decide_eq_true_eq,gt_iff_lt] at aq ⊢
 rw [if_neg aq,bx]
 exact h
end Go.aJ
namespace Go.aJ
open Go Go.Sem
theorem bI[aW]{P:Program}{n:Nat}{w0:World}{zs:List aP}{hs:List av}{L:List (Nat×Value)}{d:Option Tmp}{ty:TypeId}{pos:String}{af:Array Edge}{g:Option (Nat×Bool)}{x:Operand}{a:Addr}(h:aU L x=some (.pointer (some a))):bL P n w0 zs hs L ⟨d,.nilCheck x,ty,pos,af,g⟩ (.pointer (some a)):=
 eC fun ac a7 w _=>by simp [execOp,a7.eval h]
end Go.aJ
namespace Go.aJ
open Go Go.Sem
theorem Wu:∀ (cs:List Value) (o j:Nat) (A:Array Value),o+j+cs.length≤A.size→(cs.zipIdx j).foldl (fun A x=>A.setIfInBounds (o+x.2) x.1) A=(A.toList.take (o+j)++cs++A.toList.drop (o+j+cs.length)).toArray:=by
 intro cs
 induction cs with
 | nil=>intro o j A h;simp
 | cons c cs ih=>
  intro o j A h
  simp only [List.length_cons] at h
  rw [List.zipIdx_cons,List.foldl_cons,ih o (j+1) _ (by simp;omega)]
  have aD:o+j<A.toList.length:=by simp;omega
  simp only [Array.toList_setIfInBounds]
  congr 1
  rw [show o+(j+1)=o+j+1 by omega,List.take_succ_eq_append_getElem (by simpa using aD),List.take_set,List.getElem_set_self,List.set_eq_of_length_le (by simp;omega),List.drop_set_of_lt (by omega),List.length_cons]
  simp only [List.append_assoc,List.singleton_append]
  rw [show o+j+1+cs.length=o+j+(cs.length+1) by omega]
theorem td{pl:Nat→Option (Nat×Nat)}{l l' c:List Value}{i off size:Nat}{v:Value}{rest:List (Nat×Value)}{out:Option (Array Value)}(bN:pl i=some (off,size))(bx:v.cells=c.toArray)(hs:c.length=size)(au:off+size≤l.length)
  (bA:l.take off++c++l.drop (off+size)=l') (h:Instr.fill pl l'.toArray rest=out):Instr.fill pl l.toArray ((i,v)::rest)=out:=by
 refine UX bN bx hs (by simpa using by omega) ?_
 have:=Wu c off 0 l.toArray (by simp;omega)
 simp only [Nat.add_zero,hs] at this
 have e:(c.toArray.zipIdx.foldl (fun cs (x:Value×Nat)=>cs.setIfInBounds (off+x.2) x.1) l.toArray)=(c.zipIdx 0).foldl (fun A x=>A.setIfInBounds (off+x.2) x.1) l.toArray:=by simp
 rw [e,this,bA]
 exact h
theorem KE{pl:Nat→Option (Nat×Nat)}{l out:List Value}(h:l=out):Instr.fill pl l.toArray []=some out.toArray:=by rw [← h];rfl
end Go.aJ
end
section
namespace Go.aJ
open Go Go.Sem
section
variable {P:Program}{n:Nat}{w0:World}{zs:List aP}{hs:List av}{L:List (Nat×Value)}{d:Option Tmp}{ty t:TypeId}{pos:String}{af:Array Edge}{g:Option (Nat×Bool)}{x y ki:Operand}{u v:Value}
variable {α:Type}[DecidableEq α]{kf:α→Value}{V:α→Prop}{kt e:TypeId}
end
end Go.aJ
end
section
namespace Go.aJ
open Go Go.Sem
def sQ{α:Type}(E:dO α)(z:aP):List (List Value)→List α→Prop
 | [],[]=>True
 | c::cs,x::xs=>E.rep z x c∧sQ E z cs xs
 | _,_=>False
theorem sQ.get{α:Type}{E:dO α}{z:aP}:∀ {cs:List (List Value)}{xs:List α},sQ E z cs xs→∀ (i:Nat) (x:α),xs[i]?=some x→∃ c,cs[i]?=some c∧E.rep z x c
 | [],[],_,i,x,aL=>by simp at aL
 | v::vs,y::xs,h,0,x,aL=>by
  simp only [List.getElem?_cons_zero,Option.some.injEq] at aL
  subst aL
  exact ⟨v,rfl,h.1⟩
 | v::vs,y::xs,h,i+1,x,aL=>by
  simp only [List.getElem?_cons_succ] at aL ⊢
  exact sQ.get h.2 i x aL
theorem sQ.all{α:Type}{E:dO α}{z:aP}:∀ {cs:List (List Value)}{xs:List α},sQ E z cs xs→∀ c∈cs,c.length=E.size
 | [],[],_,c,bu=>by cases bu
 | v::vs,y::xs,h,c,bu=>by
  rcases List.mem_cons.1 bu with rfl | bu
  ·exact E.len h.1
  ·exact sQ.all h.2 c bu
def ai0:dO (Int×List Int) where
 size:=2
 rep z x c:=∃ v,c=[az x.1,v]∧(-9223372036854775808≤x.1∧x.1≤9223372036854775807)∧bg encI z v x.2
 mono bj h:=by obtain ⟨v,h1,aq,aQ⟩:=h;exact ⟨v,h1,aq,aQ.mono bj⟩
 len h:=by obtain ⟨v,h1,_⟩:=h;rw [h1];rfl
 one h u hu:=by
  obtain ⟨v,h1,aq,aQ⟩:=h
  rw [h1] at hu
  simp only [List.mem_cons,List.not_mem_nil,or_false] at hu
  rcases hu with rfl | rfl
  ·rfl
  ·exact mL aQ
def ahU[aW]{α0 α1 α2 α3 α4 α5 α6 α7 α8 α9:Type}(n:Nat)(w0:World)(F:α0→α1→α2→α3→α4→α5→α6→α7→α8→α9→Prop)(L:α0→α1→α2→α3→α4→α5→α6→α7→α8→α9→List (Nat×Value))(Z:α0→α1→α2→α3→α4→α5→α6→α7→α8→α9→List aP)(H:α0→α1→α2→α3→α4→α5→α6→α7→α8→α9→List av):Act→World→Prop:=fun a w=>∃ (cv:α0) (bT:α1) (b5:α2) (cY:α3) (c0:α4) (dR:α5) (ev:α6) (e6:α7) (fL:α8) (gV:α9),F cv bT b5 cY c0 dR ev e6 fL gV∧Fr n (L cv bT b5 cY c0 dR ev e6 fL gV) a∧aC w0 (Z cv bT b5 cY c0 dR ev e6 fL gV) (H cv bT b5 cY c0 dR ev e6 fL gV) w
def ahV[aW]{α0 α1 α2 α3 α4 α5 α6 α7 α8 α9 α10:Type}(n:Nat)(w0:World)(F:α0→α1→α2→α3→α4→α5→α6→α7→α8→α9→α10→Prop)(L:α0→α1→α2→α3→α4→α5→α6→α7→α8→α9→α10→List (Nat×Value))(Z:α0→α1→α2→α3→α4→α5→α6→α7→α8→α9→α10→List aP)(H:α0→α1→α2→α3→α4→α5→α6→α7→α8→α9→α10→List av):Act→World→Prop:=fun a w=>∃ (cv:α0) (bT:α1) (b5:α2) (cY:α3) (c0:α4) (dR:α5) (ev:α6) (e6:α7) (fL:α8) (gV:α9) (iR:α10),F cv bT b5 cY c0 dR ev e6 fL gV iR∧Fr n (L cv bT b5 cY c0 dR ev e6 fL gV iR) a∧aC w0 (Z cv bT b5 cY c0 dR ev e6 fL gV iR) (H cv bT b5 cY c0 dR ev e6 fL gV iR) w
def ahW[aW]{α0 α1 α2 α3 α4 α5 α6 α7 α8 α9 α10 α11:Type}(n:Nat)(w0:World)(F:α0→α1→α2→α3→α4→α5→α6→α7→α8→α9→α10→α11→Prop)(L:α0→α1→α2→α3→α4→α5→α6→α7→α8→α9→α10→α11→List (Nat×Value))(Z:α0→α1→α2→α3→α4→α5→α6→α7→α8→α9→α10→α11→List aP)(H:α0→α1→α2→α3→α4→α5→α6→α7→α8→α9→α10→α11→List av):Act→World→Prop:=fun a w=>∃ (cv:α0) (bT:α1) (b5:α2) (cY:α3) (c0:α4) (dR:α5) (ev:α6) (e6:α7) (fL:α8) (gV:α9) (iR:α10) (kn:α11),F cv bT b5 cY c0 dR ev e6 fL gV iR kn∧Fr n (L cv bT b5 cY c0 dR ev e6 fL gV iR kn) a∧aC w0 (Z cv bT b5 cY c0 dR ev e6 fL gV iR kn) (H cv bT b5 cY c0 dR ev e6 fL gV iR kn) w
def ahX[aW]{α0 α1 α2 α3 α4 α5 α6 α7 α8 α9 α10 α11 α12:Type}(n:Nat)(w0:World)(F:α0→α1→α2→α3→α4→α5→α6→α7→α8→α9→α10→α11→α12→Prop)(L:α0→α1→α2→α3→α4→α5→α6→α7→α8→α9→α10→α11→α12→List (Nat×Value))(Z:α0→α1→α2→α3→α4→α5→α6→α7→α8→α9→α10→α11→α12→List aP)(H:α0→α1→α2→α3→α4→α5→α6→α7→α8→α9→α10→α11→α12→List av):Act→World→Prop:=fun a w=>∃ (cv:α0) (bT:α1) (b5:α2) (cY:α3) (c0:α4) (dR:α5) (ev:α6) (e6:α7) (fL:α8) (gV:α9) (iR:α10) (kn:α11) (mT:α12),F cv bT b5 cY c0 dR ev e6 fL gV iR kn mT∧Fr n (L cv bT b5 cY c0 dR ev e6 fL gV iR kn mT) a∧aC w0 (Z cv bT b5 cY c0 dR ev e6 fL gV iR kn mT) (H cv bT b5 cY c0 dR ev e6 fL gV iR kn mT) w
def IL[aW]{α0 α1 α2 α3 α4 α5 α6 α7 α8 α9 α10 α11 α12 α13:Type}(n:Nat)(w0:World)(F:α0→α1→α2→α3→α4→α5→α6→α7→α8→α9→α10→α11→α12→α13→Prop)(L:α0→α1→α2→α3→α4→α5→α6→α7→α8→α9→α10→α11→α12→α13→List (Nat×Value))(Z:α0→α1→α2→α3→α4→α5→α6→α7→α8→α9→α10→α11→α12→α13→List aP)(H:α0→α1→α2→α3→α4→α5→α6→α7→α8→α9→α10→α11→α12→α13→List av):Act→World→Prop:=fun a w=>∃ (cv:α0) (bT:α1) (b5:α2) (cY:α3) (c0:α4) (dR:α5) (ev:α6) (e6:α7) (fL:α8) (gV:α9) (iR:α10) (kn:α11) (mT:α12) (qb:α13),F cv bT b5 cY c0 dR ev e6 fL gV iR kn mT qb∧Fr n (L cv bT b5 cY c0 dR ev e6 fL gV iR kn mT qb) a∧aC w0 (Z cv bT b5 cY c0 dR ev e6 fL gV iR kn mT qb) (H cv bT b5 cY c0 dR ev e6 fL gV iR kn mT qb) w
theorem aaj[aW]{α0 α1 α2 α3 α4 α5 α6 α7 α8 α9 α10 α11 α12 α13:Type}{n:Nat}{w0:World}{F:α0→α1→α2→α3→α4→α5→α6→α7→α8→α9→α10→α11→α12→α13→Prop}{L:α0→α1→α2→α3→α4→α5→α6→α7→α8→α9→α10→α11→α12→α13→List (Nat×Value)}{Z:α0→α1→α2→α3→α4→α5→α6→α7→α8→α9→α10→α11→α12→α13→List aP}{H:α0→α1→α2→α3→α4→α5→α6→α7→α8→α9→α10→α11→α12→α13→List av}{a:Act}{w:World}(cv:α0)(bT:α1)(b5:α2)(cY:α3)(c0:α4)(dR:α5)(ev:α6)(e6:α7)(fL:α8)(gV:α9)(iR:α10)(kn:α11)(mT:α12)(qb:α13)(bw:F cv bT b5 cY c0 dR ev e6 fL gV iR kn mT qb)(ab:Fr n (L cv bT b5 cY c0 dR ev e6 fL gV iR kn mT qb) a)(U:aC w0 (Z cv bT b5 cY c0 dR ev e6 fL gV iR kn mT qb) (H cv bT b5 cY c0 dR ev e6 fL gV iR kn mT qb) w):IL n w0 F L Z H a w:=⟨cv,bT,b5,cY,c0,dR,ev,e6,fL,gV,iR,kn,mT,qb,bw,ab,U⟩
end Go.aJ
end
section
namespace Go.aJ
open Go Go.Sem
section
variable {P:Program}{n:Nat}{w0:World}{zs:List aP}{hs:List av}{L:List (Nat×Value)}{d:Option Tmp}{ty t:TypeId}{pos:String}{af:Array Edge}{g:Option (Nat×Bool)}{x y:Operand}{u v:Value}
end
end Go.aJ
namespace Go.aJ
open Go.ChangeShapes Go.WideShapes Go.ChangeAt Go.RowKit
section
variable {H:Type}{enc:TypeId×Value→H}{P:Program}{W:World}{t e:TypeId}
end
end Go.aJ
namespace Go.aJ
open Go Go.Sem
end Go.aJ
end
