/- walks and plain laws -/
import Derived.Test.YtngcjojijaknnaaGreatDoorFwA
import Derived.Test.YtngcjojijaknnaaGreatDoorFwB
import Derived.Deep.DeepAppendWide
set_option linter.all false
section
namespace Go.aK
open Go Go.Sem
section
variable {P:Program}{n:Nat}{w0:World}{zs:List aR}{hs:List aC}{L:List (Nat×Value)}{d:Option Tmp}{ty t:TypeId}{pos:String}{af:Array Edge}{g:Option (Nat×Bool)}{x y:Operand}{v:Value}
theorem IP[a1]{fs:List Field}{s bu:Nat}{zc:List Value}(aN:ba P t (.struct fs.toArray) s bu (.agg zc.toArray))(m:Nat)(bO:(fs.mapM fun f=>(P.info? f.type).map fun i=>(f.offset,i.size))=some ((List.range' 0 m).map fun i=>(i,1))){i:Nat}(h1:aW L x=some v)(cH:v.oneCell'=true)(bj:zc.length=m)(aH:i<m) :
  bR P n w0 zs hs L ⟨d,.build t #[(i,x)],ty,pos,af,g⟩ (.agg (zc.set i v).toArray):=
 hJ (vs:=[v]) aN bO (by simp [iP,h1]) (by
  have bq:v.cells=#[v]:=by cases v <;> first | rfl | (simp [Value.oneCell'] at cH)
  have aP:=Qv m i aH
  simp only [List.map_cons,List.map_nil,List.zip_cons_cons,List.zip_nil_left,Instr.fill,aP,bq]
  have:(Value.agg zc.toArray).cells=zc.toArray:=rfl
  rw [this,if_neg (by simp;omega)]
  simp)
end
end Go.aK
namespace Go.aK
open Go Go.Sem
section
variable {P:Program}{w0:World}{zs:List aR}{hs:List aC}{l:List Oper}
end
end Go.aK
end
section
namespace Go.aK
open Go Go.Sem
def hx{α:Type}(kf:α→Value)(l:List (α×Value))(es:List MapEntry):Prop:=es.map (fun e=>(e.key,e.val))=l.map (fun p=>(kf p.1,p.2))
def gI{α:Type}[DecidableEq α](a:α):List (α×Value)→Nat→Option (Nat×Value)
 | [],_=>none
 | p::l,i=>if a=p.1 then some (i,p.2) else gI a l (i+1)
def gv{α:Type}[DecidableEq α](l:List (α×Value))(a:α):Option Value:=(gI a l 0).map (·.2)
def iG{α:Type}[DecidableEq α](a:α)(v:Value):List (α×Value)→List (α×Value)
 | []=>[(a,v)]
 | p::l=>if a=p.1 then (a,v)::l else p::iG a v l
theorem Gf{α:Type}[DecidableEq α](a:α):∀ (l:List (α×Value)) (i:Nat),(gI a l i).map (·.2)=(gI a l 0).map (·.2)
 | [],_=>rfl
 | p::l,i=>by
  unfold gI
  split
  ·rfl
  ·rw [Gf a l (i+1),Gf a l (0+1)]
theorem rh{α:Type}[DecidableEq α](p:α×Value)(l:List (α×Value))(a:α):gv (p::l) a=if a=p.1 then some p.2 else gv l a:=by
 unfold gv
 rw [gI]
 split
 ·rfl
 ·exact Gf a l 1
theorem uv{α:Type}[DecidableEq α](a b:α)(v:Value):∀ l:List (α×Value),gv (iG a v l) b=if b=a then some v else gv l b
 | []=>by rw [iG,rh]
 | p::l=>by
  rw [iG]
  split
  ·rename_i h
   rw [rh,rh]
   by_cases aw:b=a
   ·rw [if_pos aw,if_pos aw]
   ·rw [if_neg aw,if_neg aw,if_neg (h ▸ aw)]
  ·rename_i h
   rw [rh,rh,uv a b v l]
   by_cases aw:b=a
   ·subst aw;rw [if_neg h,if_pos rfl,if_pos rfl]
   ·rw [if_neg aw,if_neg aw]
structure qc {α:Type} [DecidableEq α] (P:Program) (kt:TypeId) (kf:α→Value) (V:α→Prop):Prop where
 jT:∀ em a (w:World),V a→(Instr.checkKey em 10000 kt (kf a)).run P w=.ok () w
 find:∀ a (w:World) l es,hx kf l es→(∀ p∈l,V p.1)→V a→(Instr.findKey kt (kf a) es).run P w=.ok (gI a l 0) w
 bits:∀ a,Instr.sameBits 10000 (kf a) (kf a)=true
theorem xe{P:Program}{kt:TypeId}{s b:Nat}{z:Value}(aN:ba P kt (.int .i64) s b z):qc P kt aA (fun _=>True) where
 jT em a w _:=by
  unfold Instr.checkKey
  rw [Sem.run_bind,run_underlying aN.und]
  simp [aA]
 find a w l es eP _ _:=by
  have key:∀ (l:List (Int×Value)) (es:List MapEntry) (i:Nat),hx aA l es→Instr.findNow (.int .i64) (aA a) es i=some (gI a l i):=by
   intro l
   induction l with
   | nil=>
    intro es i h
    have:es=[]:=by unfold hx at h;simpa using h
    subst this;rfl
   | cons p l ih=>
    intro es i h
    cases es with
    | nil=>unfold hx at h;simp at h
    | cons e es=>
     unfold hx at h
     simp only [List.map_cons,List.cons.injEq,Prod.mk.injEq] at h
     obtain ⟨⟨h1,ar⟩,aQ⟩:=h
     unfold Instr.findNow gI
     rw [h1]
     have bL:Instr.sameNow (.int .i64) (aA a) (aA p.1)=some (a == p.1):=rfl
     rw [bL]
     by_cases bF:a=p.1
     ·rw [if_pos bF,beq_iff_eq.2 bF,ar]
     ·rw [if_neg bF,show (a == p.1)=false by simpa using bF]
      exact ih es (i+1) aQ
  unfold Instr.findKey
  rw [Sem.run_bind,run_underlying aN.und]
  simp only [Result.andThen_ok,key l es 0 eP]
  rfl
 bits a:=by simp [Instr.sameBits,aA]
section
variable {P:Program}{n:Nat}{w0:World}{zs:List aR}{hs:List aC}{L:List (Nat×Value)}{d:Option Tmp}{ty t:TypeId}{pos:String}{af:Array Edge}{g:Option (Nat×Bool)}{x y kR:Operand}{u v:Value}
theorem FM[a1]:fJ P n w0 zs hs L ⟨d,.makeMap t none,ty,pos,af,g⟩ (fun v zs' hs'=>∃ b,v=.map (some b)∧zs'=zs∧hs'=.mp b [] 0::hs):=
 ka fun a bg w hw=>by
  refine ⟨_,zs,_, { w with heap:=w.heap.push (.map #[] 0) },.inl ?_,⟨w.heap.size,rfl,rfl,rfl⟩,?_⟩
  ·simp only [execOp]
   rfl
  ·have hl:(cf w).le (cf { w with heap:=w.heap.push (.map #[] 0) }):=fun b o aw=>by
    have:=lb aw
    simp only [cf] at aw ⊢
    rw [Array.getElem?_push,if_neg ag]
    exact aw
   have h1:=hw.later hl ⟨rfl,rfl,rfl⟩
   refine ⟨h1.ext,h1.zone,fun r aY=>?_,?_,h1.io⟩
   ·rcases List.mem_cons.1 aY with rfl | aY
    ·refine ⟨⟨le_size hw.ext,by simp⟩,fun b aw z bj=>?_⟩
     simp only [aC.id,Option.some.injEq] at aw
     subst aw
     cases gn:z w.heap.size with
     | none=>rfl
     | some o=>
      have:=lb ((hw.zone z bj).1 _ o gn)
      omega
    ·exact h1.own r aY
   ·rw [List.filterMap_cons]
    simp only [aC.id]
    refine List.nodup_cons.2 ⟨fun hm=>?_,h1.nd⟩
    obtain ⟨r,aY,nJ⟩:=List.mem_filterMap.1 hm
    have:=(aC.nc (hw.own r aY).1 _ nJ).2
    omega
variable {α:Type}[DecidableEq α]{kf:α→Value}{V:α→Prop}{kt e:TypeId}
theorem Sa{s bu:Nat}{zv:Value}(aN:ba P t (.map kt e) s bu zv){de:TypeDesc}{se be:Nat}{ze:Value}(cr:ba P e de se be ze)(dU:qc P kt kf V){l:List (α×Value)}{es:List MapEntry}{c b:Nat}{w:World}(aw:w.heap[b]?=some (.map es.toArray c))(eP:hx kf l es)(kH:∀ p∈l,V p.1){a:α}(bg:V a)(ok:Bool) :
  (Instr.lookup t (.map (some b)) (kf a) ok).run P w=.ok (if ok then .tuple #[(gv l a).getD ze,.bool (gv l a).isSome] else (gv l a).getD ze) w:=by
 unfold Instr.lookup
 rw [Sem.run_bind,run_underlying aN.und]
 simp only [Result.andThen_ok]
 have aP:(getObj b).run P w=.ok (.map es.toArray c) w:=by simp [getObj,Sem.run,aw]
 simp only [Sem.run_bind,aP,Result.andThen_ok,Sem.run_pure,dU.jT _ _ _ bg,dU.find a w l es eP kH bg]
 unfold gv
 cases bw:gI a l 0 with
 | none=>
  simp only [Sem.run_bind,cr.zero,Result.andThen_ok,Sem.run_pure]
  rfl
 | some p=>
  obtain ⟨i,v⟩:=p
  simp only [Sem.run_pure,Result.andThen_ok]
  rfl
theorem QR[a1]{s bu:Nat}{zv:Value}(aN:ba P t (.map kt e) s bu zv){de:TypeDesc}{se be:Nat}{ze:Value}(cr:ba P e de se be ze)(dU:qc P kt kf V)(k:Nat){l:List (α×Value)}{es:List MapEntry}{c b:Nat}(h1:aW L x=some (.map (some b))){a:α}(ar:aW L y=some (kf a))(aE:hs[k]?=some (.mp b es c))(eP:hx kf l es)(kH:∀ p∈l,V p.1)(bg:V a) :
  bR P n w0 zs hs L ⟨d,.lookup t x y false,ty,pos,af,g⟩ ((gv l a).getD ze):=
 eV fun ac lE w hw=>by
  have aw:=(hw.own _ (List.mem_of_getElem? aE)).1.2
  have aY:=Sa (P:=P) (w:=w) aN cr dU aw eP kH bg false
  simp only [execOp,lE.eval h1,lE.eval ar]
  rw [Sem.run_bind,aY]
  rfl
theorem afT[a1]{s bu:Nat}{zv:Value}(aN:ba P t (.map kt e) s bu zv){de:TypeDesc}{se be:Nat}{ze:Value}(cr:ba P e de se be ze)(dU:qc P kt kf V)(k:Nat){l:List (α×Value)}{es:List MapEntry}{c b:Nat}(h1:aW L x=some (.map (some b))){a:α}(ar:aW L y=some (kf a))(aE:hs[k]?=some (.mp b es c))(eP:hx kf l es)(kH:∀ p∈l,V p.1)(bg:V a) :
  bR P n w0 zs hs L ⟨d,.lookup t x y true,ty,pos,af,g⟩ (.tuple [(gv l a).getD ze,.bool (gv l a).isSome].toArray):=
 eV fun ac lE w hw=>by
  have aw:=(hw.own _ (List.mem_of_getElem? aE)).1.2
  have aY:=Sa (P:=P) (w:=w) aN cr dU aw eP kH bg true
  simp only [execOp,lE.eval h1,lE.eval ar]
  rw [Sem.run_bind,aY]
  rfl
theorem Cf{a:α}:∀ {l:List (α×Value)}{i j:Nat}{v:Value},gI a l i=some (j,v)→i≤j
 | [],_,_,_,h=>by cases h
 | p::l,i,j,v,h=>by
  unfold gI at h
  split at h
  ·simp only [Option.some.injEq,Prod.mk.injEq] at h;omega
  ·have:=Cf h;omega
theorem PK{a:α}{u:Value}{c:Nat}:∀ {l:List (α×Value)}{es:List MapEntry}{i:Nat},hx kf l es→gI a l i=none→hx kf (iG a u l) (es++[(⟨kf a,u,c⟩:MapEntry)])
 | [],es,_,h,_=>by
  have:es=[]:=by unfold hx at h;simpa using h
  subst this;rfl
 | p::l,[],_,h,_=>by unfold hx at h;simp at h
 | p::l,e::es,i,h,bw=>by
  unfold hx at h
  rw [List.map_cons,List.map_cons,List.cons.injEq] at h
  unfold gI at bw
  split at bw
  ·cases bw
  ·rename_i fG
   have ih:=PK (u:=u) (c:=c) (show hx kf l es from h.2) bw
   rw [iG,if_neg fG]
   unfold hx at ih ⊢
   rw [List.cons_append,List.map_cons,List.map_cons,ih,h.1]
theorem PL{a:α}{u:Value}:∀ {l:List (α×Value)}{es:List MapEntry}{i j:Nat}{v:Value},hx kf l es→gI a l i=some (j,v)→∃ e,es[j-i]?=some e∧e.key=kf a∧hx kf (iG a u l) (es.modify (j-i) fun e=>{ e with key:=kf a,val:=u })
 | [],_,_,_,_,_,bw=>by cases bw
 | p::l,[],_,_,_,h,_=>by unfold hx at h;simp at h
 | p::l,e::es,i,j,v,h,bw=>by
  unfold hx at h
  rw [List.map_cons,List.map_cons,List.cons.injEq] at h
  obtain ⟨h1,ar⟩:=h
  simp only [Prod.mk.injEq] at h1
  unfold gI at bw
  split at bw
  ·rename_i he
   simp only [Option.some.injEq,Prod.mk.injEq] at bw
   obtain ⟨rfl,rfl⟩:=bw
   rw [Nat.sub_self]
   refine ⟨e,rfl,by rw [h1.1,he],?_⟩
   rw [iG,if_pos he]
   unfold hx
   simp [ar]
  ·rename_i fG
   have m3:=Cf bw
   obtain ⟨e5,aQ,bF,cO⟩:=PL (u:=u) (show hx kf l es from ar) bw
   obtain ⟨m,hm⟩:∃ m,j-i=m+1∧j-(i+1)=m:=⟨j-(i+1),by omega,rfl⟩
   rw [hm.1]
   rw [hm.2] at aQ cO
   refine ⟨e5,by simpa using aQ,bF,?_⟩
   rw [iG,if_neg fG]
   unfold hx at cO ⊢
   rw [List.modify_succ_cons,List.map_cons,List.map_cons,cO,h1.1,h1.2]
end
def yE(l:List UInt8):Value:=.agg (l.map bn).toArray
section
variable {P:Program}
end
end Go.aK
end
section
namespace Go.aK
open Go Go.Sem
theorem W6{m:Nat}{l:List (List UInt8)}(hl:∀ x∈l,x.length=m){i:Nat}{x:List UInt8}(aM:l[i]?=some x){j:Nat}(aV:j<m):(l.flatten.map bn)[i*m+j]?=(x.map bn)[j]?:=by
 rw [List.getElem?_map,List.getElem?_map,FU hl aM j aV]
section
variable {P:Program}{n:Nat}{w0:World}{zs:List aR}{hs:List aC}{L:List (Nat×Value)}{d:Option Tmp}{ty t:TypeId}{pos:String}{af:Array Edge}{g:Option (Nat×Bool)}{x y:Operand}{v:Value}
theorem afS[a1]{α:Type}[DecidableEq α]{kf:α→Value}{V:α→Prop}{kt e:TypeId}{s bu:Nat}{zv:Value}(aN:ba P t (.map kt e) s bu zv){de:TypeDesc}{se be:Nat}{ze:Value}(cr:ba P e de se be ze)(dU:qc P kt kf V)(k:Nat){l:List (α×Value)}{es:List MapEntry}{c b:Nat}(h1:aW L x=some (.map (some b))){a:α}(ar:aW L y=some (kf a))(aE:hs[k]?=some (.mp b es c))(eP:hx kf l es)(kH:∀ p∈l,V p.1)(bg:V a){u:Value}(hu:gv l a=some u) :
  bR P n w0 zs hs L ⟨d,.lookup t x y false,ty,pos,af,g⟩ u:=by
 have:=QR (P:=P) (n:=n) (w0:=w0) (zs:=zs) (d:=d) (ty:=ty) (pos:=pos) (af:=af) (g:=g) aN cr dU k h1 ar aE eP kH bg
 rwa [hu] at this
end
end Go.aK
end
section
namespace Go.aK
open Go Go.Sem
section
variable {P:Program}
end
section
variable {P:Program}{n:Nat}{w0:World}{zs:List aR}{hs:List aC}{L:List (Nat×Value)}{d:Option Tmp}{ty t:TypeId}{pos:String}{af:Array Edge}{g:Option (Nat×Bool)}{x y:Operand}{u v:Value}
end
end Go.aK
end
section
namespace Go.aK
open Go.ChangeShapes Go.WideShapes Go.ChangeAt Go.RowKit
section
variable {H:Type}{enc:TypeId×Value→H}{P:Program}{W:World}{t:TypeId}
end
end Go.aK
end
section
namespace Go.aK
open Go Go.Sem
theorem rn{v:Value}(h:v.oneCell'=true):v.cells=[v].toArray:=by
 cases v <;> first | rfl | (simp [Value.oneCell'] at h)
theorem W3{pl:Nat→Option (Nat×Nat)}{cells:Array Value}{i off size:Nat}{v:Value}{rest:List (Nat×Value)}{c:List Value}{out:Option (Array Value)}(bO:pl i=some (off,size))(bA:v.cells=c.toArray)(hs:c.length=size)(aw:off+c.length≤cells.size)
  (h:Instr.fill pl (c.toArray.zipIdx.foldl (fun cs (x:Value×Nat)=>cs.setIfInBounds (off+x.2) x.1) cells) rest=out):Instr.fill pl cells ((i,v)::rest)=out:=by
 rw [Instr.fill,bO]
 have h1:v.cells.size=size:=by rw [bA];simpa using hs
 have ar:¬ (v.cells.size≠size∨off+v.cells.size>cells.size):=by rw [h1];omega
 simp only [bne_iff_ne,ne_eq,Bool.or_eq_true,decide_eq_true_eq,gt_iff_lt] at ar ⊢
 rw [if_neg ar,bA]
 exact h
end Go.aK
namespace Go.aK
open Go Go.Sem
theorem bN[a1]{P:Program}{n:Nat}{w0:World}{zs:List aR}{hs:List aC}{L:List (Nat×Value)}{d:Option Tmp}{ty:TypeId}{pos:String}{af:Array Edge}{g:Option (Nat×Bool)}{x:Operand}{a:Addr}(h:aW L x=some (.pointer (some a))):bR P n w0 zs hs L ⟨d,.nilCheck x,ty,pos,af,g⟩ (.pointer (some a)):=
 eV fun ac bg w _=>by simp [execOp,bg.eval h]
end Go.aK
namespace Go.aK
open Go Go.Sem
theorem Yt:∀ (cs:List Value) (o j:Nat) (A:Array Value),o+j+cs.length≤A.size→(cs.zipIdx j).foldl (fun A x=>A.setIfInBounds (o+x.2) x.1) A=(A.toList.take (o+j)++cs++A.toList.drop (o+j+cs.length)).toArray:=by
 intro cs
 induction cs with
 | nil=>intro o j A h;simp
 | cons c cs ih=>
  intro o j A h
  simp only [List.length_cons] at h
  rw [List.zipIdx_cons,List.foldl_cons,ih o (j+1) _ (by simp;omega)]
  have aE:o+j<A.toList.length:=by simp;omega
  simp only [Array.toList_setIfInBounds]
  congr 1
  rw [show o+(j+1)=o+j+1 by omega,List.take_succ_eq_append_getElem (by simpa using aE),List.take_set,List.getElem_set_self,List.set_eq_of_length_le (by simp;omega),List.drop_set_of_lt ag,List.length_cons]
  simp only [List.append_assoc,List.singleton_append]
  rw [show o+j+1+cs.length=o+j+(cs.length+1) by omega]
theorem rr{pl:Nat→Option (Nat×Nat)}{l l' c:List Value}{i off size:Nat}{v:Value}{rest:List (Nat×Value)}{out:Option (Array Value)}(bO:pl i=some (off,size))(bA:v.cells=c.toArray)(hs:c.length=size)(aw:off+size≤l.length)
  (bD:l.take off++c++l.drop (off+size)=l') (h:Instr.fill pl l'.toArray rest=out):Instr.fill pl l.toArray ((i,v)::rest)=out:=by
 refine W3 bO bA hs (by simpa using by omega) ?_
 have:=Yt c off 0 l.toArray (by simp;omega)
 simp only [Nat.add_zero,hs] at this
 have e:(c.toArray.zipIdx.foldl (fun cs (x:Value×Nat)=>cs.setIfInBounds (off+x.2) x.1) l.toArray)=(c.zipIdx 0).foldl (fun A x=>A.setIfInBounds (off+x.2) x.1) l.toArray:=by simp
 rw [e,this,bD]
 exact h
theorem FQ{pl:Nat→Option (Nat×Nat)}{l out:List Value}(h:l=out):Instr.fill pl l.toArray []=some out.toArray:=by rw [← h];rfl
end Go.aK
end
section
namespace Go.aK
open Go Go.Sem
section
variable {P:Program}{n:Nat}{w0:World}{zs:List aR}{hs:List aC}{L:List (Nat×Value)}{d:Option Tmp}{ty t:TypeId}{pos:String}{af:Array Edge}{g:Option (Nat×Bool)}{x y kR:Operand}{u v:Value}
variable {α:Type}[DecidableEq α]{kf:α→Value}{V:α→Prop}{kt e:TypeId}
end
end Go.aK
end
section
namespace Go.aK
open Go Go.Sem
def uf{α:Type}(E:ej α)(z:aR):List (List Value)→List α→Prop
 | [],[]=>True
 | c::cs,x::xs=>E.rep z x c∧uf E z cs xs
 | _,_=>False
theorem uf.get{α:Type}{E:ej α}{z:aR}:∀ {cs:List (List Value)}{xs:List α},uf E z cs xs→∀ (i:Nat) (x:α),xs[i]?=some x→∃ c,cs[i]?=some c∧E.rep z x c
 | [],[],_,i,x,aM=>by simp at aM
 | v::vs,y::xs,h,0,x,aM=>by
  simp only [List.getElem?_cons_zero,Option.some.injEq] at aM
  subst aM
  exact ⟨v,rfl,h.1⟩
 | v::vs,y::xs,h,i+1,x,aM=>by
  simp only [List.getElem?_cons_succ] at aM ⊢
  exact uf.get h.2 i x aM
theorem uf.all{α:Type}{E:ej α}{z:aR}:∀ {cs:List (List Value)}{xs:List α},uf E z cs xs→∀ c∈cs,c.length=E.size
 | [],[],_,c,bq=>by cases bq
 | v::vs,y::xs,h,c,bq=>by
  rcases List.mem_cons.1 bq with rfl | bq
  ·exact E.len h.1
  ·exact uf.all h.2 c bq
def alm:ej (Int×List Int) where
 size:=2
 rep z x c:=∃ v,c=[aA x.1,v]∧(-9223372036854775808≤x.1∧x.1≤9223372036854775807)∧bo encI z v x.2
 mono bj h:=by obtain ⟨v,h1,ar,aQ⟩:=h;exact ⟨v,h1,ar,aQ.mono bj⟩
 len h:=by obtain ⟨v,h1,_⟩:=h;rw [h1];rfl
 one h u hu:=by
  obtain ⟨v,h1,ar,aQ⟩:=h
  rw [h1] at hu
  simp only [List.mem_cons,List.not_mem_nil,or_false] at hu
  rcases hu with rfl | rfl
  ·rfl
  ·exact mP aQ
def aj9[a1]{α0 α1 α2 α3 α4 α5 α6 α7 α8 α9:Type}(n:Nat)(w0:World)(F:α0→α1→α2→α3→α4→α5→α6→α7→α8→α9→Prop)(L:α0→α1→α2→α3→α4→α5→α6→α7→α8→α9→List (Nat×Value))(Z:α0→α1→α2→α3→α4→α5→α6→α7→α8→α9→List aR)(H:α0→α1→α2→α3→α4→α5→α6→α7→α8→α9→List aC):Act→World→Prop:=fun a w=>∃ (cE:α0) (bZ:α1) (cg:α2) (c7:α3) (c9:α4) (ep:α5) (eM:α6) (fI:α7) (gr:α8) (hD:α9),F cE bZ cg c7 c9 ep eM fI gr hD∧Fr n (L cE bZ cg c7 c9 ep eM fI gr hD) a∧aB w0 (Z cE bZ cg c7 c9 ep eM fI gr hD) (H cE bZ cg c7 c9 ep eM fI gr hD) w
def aka[a1]{α0 α1 α2 α3 α4 α5 α6 α7 α8 α9 α10:Type}(n:Nat)(w0:World)(F:α0→α1→α2→α3→α4→α5→α6→α7→α8→α9→α10→Prop)(L:α0→α1→α2→α3→α4→α5→α6→α7→α8→α9→α10→List (Nat×Value))(Z:α0→α1→α2→α3→α4→α5→α6→α7→α8→α9→α10→List aR)(H:α0→α1→α2→α3→α4→α5→α6→α7→α8→α9→α10→List aC):Act→World→Prop:=fun a w=>∃ (cE:α0) (bZ:α1) (cg:α2) (c7:α3) (c9:α4) (ep:α5) (eM:α6) (fI:α7) (gr:α8) (hD:α9) (jB:α10),F cE bZ cg c7 c9 ep eM fI gr hD jB∧Fr n (L cE bZ cg c7 c9 ep eM fI gr hD jB) a∧aB w0 (Z cE bZ cg c7 c9 ep eM fI gr hD jB) (H cE bZ cg c7 c9 ep eM fI gr hD jB) w
def akb[a1]{α0 α1 α2 α3 α4 α5 α6 α7 α8 α9 α10 α11:Type}(n:Nat)(w0:World)(F:α0→α1→α2→α3→α4→α5→α6→α7→α8→α9→α10→α11→Prop)(L:α0→α1→α2→α3→α4→α5→α6→α7→α8→α9→α10→α11→List (Nat×Value))(Z:α0→α1→α2→α3→α4→α5→α6→α7→α8→α9→α10→α11→List aR)(H:α0→α1→α2→α3→α4→α5→α6→α7→α8→α9→α10→α11→List aC):Act→World→Prop:=fun a w=>∃ (cE:α0) (bZ:α1) (cg:α2) (c7:α3) (c9:α4) (ep:α5) (eM:α6) (fI:α7) (gr:α8) (hD:α9) (jB:α10) (kV:α11),F cE bZ cg c7 c9 ep eM fI gr hD jB kV∧Fr n (L cE bZ cg c7 c9 ep eM fI gr hD jB kV) a∧aB w0 (Z cE bZ cg c7 c9 ep eM fI gr hD jB kV) (H cE bZ cg c7 c9 ep eM fI gr hD jB kV) w
def akc[a1]{α0 α1 α2 α3 α4 α5 α6 α7 α8 α9 α10 α11 α12:Type}(n:Nat)(w0:World)(F:α0→α1→α2→α3→α4→α5→α6→α7→α8→α9→α10→α11→α12→Prop)(L:α0→α1→α2→α3→α4→α5→α6→α7→α8→α9→α10→α11→α12→List (Nat×Value))(Z:α0→α1→α2→α3→α4→α5→α6→α7→α8→α9→α10→α11→α12→List aR)(H:α0→α1→α2→α3→α4→α5→α6→α7→α8→α9→α10→α11→α12→List aC):Act→World→Prop:=fun a w=>∃ (cE:α0) (bZ:α1) (cg:α2) (c7:α3) (c9:α4) (ep:α5) (eM:α6) (fI:α7) (gr:α8) (hD:α9) (jB:α10) (kV:α11) (nu:α12),F cE bZ cg c7 c9 ep eM fI gr hD jB kV nu∧Fr n (L cE bZ cg c7 c9 ep eM fI gr hD jB kV nu) a∧aB w0 (Z cE bZ cg c7 c9 ep eM fI gr hD jB kV nu) (H cE bZ cg c7 c9 ep eM fI gr hD jB kV nu) w
def Kk[a1]{α0 α1 α2 α3 α4 α5 α6 α7 α8 α9 α10 α11 α12 α13:Type}(n:Nat)(w0:World)(F:α0→α1→α2→α3→α4→α5→α6→α7→α8→α9→α10→α11→α12→α13→Prop)(L:α0→α1→α2→α3→α4→α5→α6→α7→α8→α9→α10→α11→α12→α13→List (Nat×Value))(Z:α0→α1→α2→α3→α4→α5→α6→α7→α8→α9→α10→α11→α12→α13→List aR)(H:α0→α1→α2→α3→α4→α5→α6→α7→α8→α9→α10→α11→α12→α13→List aC):Act→World→Prop:=fun a w=>∃ (cE:α0) (bZ:α1) (cg:α2) (c7:α3) (c9:α4) (ep:α5) (eM:α6) (fI:α7) (gr:α8) (hD:α9) (jB:α10) (kV:α11) (nu:α12) (q0:α13),F cE bZ cg c7 c9 ep eM fI gr hD jB kV nu q0∧Fr n (L cE bZ cg c7 c9 ep eM fI gr hD jB kV nu q0) a∧aB w0 (Z cE bZ cg c7 c9 ep eM fI gr hD jB kV nu q0) (H cE bZ cg c7 c9 ep eM fI gr hD jB kV nu q0) w
theorem acu[a1]{α0 α1 α2 α3 α4 α5 α6 α7 α8 α9 α10 α11 α12 α13:Type}{n:Nat}{w0:World}{F:α0→α1→α2→α3→α4→α5→α6→α7→α8→α9→α10→α11→α12→α13→Prop}{L:α0→α1→α2→α3→α4→α5→α6→α7→α8→α9→α10→α11→α12→α13→List (Nat×Value)}{Z:α0→α1→α2→α3→α4→α5→α6→α7→α8→α9→α10→α11→α12→α13→List aR}{H:α0→α1→α2→α3→α4→α5→α6→α7→α8→α9→α10→α11→α12→α13→List aC}{a:Act}{w:World}(cE:α0)(bZ:α1)(cg:α2)(c7:α3)(c9:α4)(ep:α5)(eM:α6)(fI:α7)(gr:α8)(hD:α9)(jB:α10)(kV:α11)(nu:α12)(q0:α13)(bw:F cE bZ cg c7 c9 ep eM fI gr hD jB kV nu q0)(ab:Fr n (L cE bZ cg c7 c9 ep eM fI gr hD jB kV nu q0) a)(U:aB w0 (Z cE bZ cg c7 c9 ep eM fI gr hD jB kV nu q0) (H cE bZ cg c7 c9 ep eM fI gr hD jB kV nu q0) w):Kk n w0 F L Z H a w:=⟨cE,bZ,cg,c7,c9,ep,eM,fI,gr,hD,jB,kV,nu,q0,bw,ab,U⟩
end Go.aK
end
section
namespace Go.aK
open Go Go.Sem
section
variable {P:Program}{n:Nat}{w0:World}{zs:List aR}{hs:List aC}{L:List (Nat×Value)}{d:Option Tmp}{ty t:TypeId}{pos:String}{af:Array Edge}{g:Option (Nat×Bool)}{x y:Operand}{u v:Value}
end
end Go.aK
namespace Go.aK
open Go.ChangeShapes Go.WideShapes Go.ChangeAt Go.RowKit
section
variable {H:Type}{enc:TypeId×Value→H}{P:Program}{W:World}{t e:TypeId}
end
end Go.aK
namespace Go.aK
open Go Go.Sem
end Go.aK
end
