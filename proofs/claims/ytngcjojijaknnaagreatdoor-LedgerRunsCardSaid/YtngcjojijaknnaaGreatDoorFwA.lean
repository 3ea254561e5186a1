/- walks and plain laws -/
import Derived.WalkKit
import Derived.Deep.Quiet
import Derived.Deep.AppendSrc
import Derived.Laws.BytesArg
import Derived.Laws.CopyOwn
import Derived.Laws.MakeOwn
import Derived.StillTail
set_option linter.all false
section
/- Frames and heaps told by relations: a framework for walks over Go code. -/
namespace Go.aJ
def look:List (Nat×Value)→Nat→Option Value
 | [],_=>none
 | (s,v)::r,t=>bif Nat.beq s t then some v else look r t
class aW where
 ds:List Deferred
instance aiS:aW:=⟨[]⟩
structure Fr [I:aW] (n:Nat) (L:List (Nat×Value)) (a:Act):Prop where
 size:a.tmps.size=n
 nodef:a.defers=I.ds
 get:∀ t v,look L t=some v→a.tmps[t]?=some v
def aU(L:List (Nat×Value)):Operand→Option Value
 | .tmp t=>look L t
 | .const v=>some v
 | .global g=>some (.pointer (some ⟨g,0,none⟩))
 | .func f=>some (.func (.func f) #[] #[])
theorem Fr.eval[aW]{n L a}(h:Fr n L a){o:Operand}{v:Value}(cB:aU L o=some v):a.eval o=v:=by
 cases o with
 | tmp t=>
  have:=h.get t v cB
  simp [Act.eval,Array.getD_eq_getD_getElem?,this]
 | const dd=>simpa [aU,Act.eval] using cB
 | global g=>simpa [aU,Act.eval] using cB
 | func f=>simpa [aU,Act.eval] using cB
theorem Fr.put[aW]{n L a}(h:Fr n L a){d:Nat}{v:Value}(aT:d<n):Fr n ((d,v)::L) (a.put (some d) v):=by
 refine ⟨by simp [Act.put,h.size],h.nodef,fun t u hu=>?_⟩
 simp only [Act.put]
 unfold look at hu
 cases au:Nat.beq d t with
 | true=>
  have:d=t:=Nat.eq_of_beq_eq_true au
  subst this
  simp only [au,cond_true,Option.some.injEq] at hu
  subst hu
  simp [h.size,aT]
 | false=>
  have fq:d≠t:=Nat.ne_of_beq_eq_false au
  simp only [au,cond_false] at hu
  rw [Array.getElem?_setIfInBounds_ne fq]
  exact h.get t u hu
def QB(L:List (Nat×Value)):List (Nat×Value)→Prop
 | []=>True
 | (t,v)::r=>look L t=some v∧QB L r
theorem Fr.sub[aW]{n L a}(h:Fr n L a):∀ {L'},QB L L'→Fr n L' a
 | [],_=>⟨h.size,h.nodef,fun t v bx=>by simp [look] at bx⟩
 | (s,u)::r,⟨h1,aq⟩=>by
  refine ⟨h.size,h.nodef,fun t v bx=>?_⟩
  unfold look at bx
  cases au:Nat.beq s t with
  | true=>
   have:s=t:=Nat.eq_of_beq_eq_true au
   subst this
   simp only [au,cond_true,Option.some.injEq] at bx
   subst bx
   exact h.get _ _ h1
  | false=>
   simp only [au,cond_false] at bx
   exact (h.sub aq).get t v bx
def oS:Nat→List Value→List (Nat×Value)
 | _,[]=>[]
 | k,v::r=>(k,v)::oS (k+1) r
theorem No:∀ (l:List Value) (k t:Nat) (v:Value),look (oS k l) t=some v→k≤t∧l[t-k]?=some v
 | [],_,_,_,h=>by simp [oS,look] at h
 | u::r,k,t,v,h=>by
  unfold oS look at h
  cases au:Nat.beq k t with
  | true=>
   have:k=t:=Nat.eq_of_beq_eq_true au
   subst this
   simp only [au,cond_true,Option.some.injEq] at h
   simp [h]
  | false=>
   have fq:k≠t:=Nat.ne_of_beq_eq_false au
   simp only [au,cond_false] at h
   obtain ⟨h1,aq⟩:=No r (k+1) t v h
   refine ⟨by omega,?_⟩
   have:t-k=(t-(k+1))+1:=by omega
   rw [this]
   simpa using aq
theorem Fr.enter(n:Nat)(l:List Value)(bA:l.length≤n):Fr n (oS 0 l) { tmps:=l.toArray++Array.replicate (n-l.toArray.size) undef,defers:=[] }:=by
 refine ⟨by simp;omega,rfl,fun t v bx=>?_⟩
 obtain ⟨_,h⟩:=No l 0 t v bx
 have gL:t<l.length:=by
  rcases Nat.lt_or_ge t l.length with iA | iA
  ·exact iA
  ·simp [List.getElem?_eq_none iA] at h
 simp only [Nat.sub_zero] at h
 rw [Array.getElem?_append_left (by simpa using gL)]
 simpa using h
abbrev aP:=Nat→Option Obj
def b1(w:World):aP:=fun b=>w.heap[b]?
def aP.le(z z':aP):Prop:=∀ b o,z b=some o→z' b=some o
theorem aP.le_refl(z:aP):z.le z:=fun _ _ h=>h
theorem aP.le_trans{a b c:aP}(h:a.le b)(iA:b.le c):a.le c:=fun x o e=>iA x o (h x o e)
inductive av where
 | blk (b:Nat) (ty:TypeId) (cells:List Value)
 | row (v:Value) (e:TypeId) (size n:Nat) (xs:List Value)
 | mp (b:Nat) (es:List MapEntry) (clock:Nat)
def av.id:av→Option Nat
 | .blk b _ _=>some b
 | .row v _ _ _ _=>v.ownBlock
 | .mp b _ _=>some b
def av.ok(base:Nat)(w:World):av→Prop
 | .blk b ty cells=>base≤b∧w.heap[b]?=some (.cells cells.toArray ty (0,0))
 | .row v e size n xs=>w.ownsRow base e size v n xs
 | .mp b es clock=>base≤b∧w.heap[b]?=some (.map es.toArray clock)
theorem av.mE{base w}:∀ {r:av},r.ok base w→∀ b,r.id=some b→base≤b∧b<w.heap.size
 | .blk b ty cells,h,k,aD=>by
  simp only [av.id,Option.some.injEq] at aD
  subst aD
  exact ⟨h.1,(Array.getElem?_eq_some_iff.1 h.2).1⟩
 | .row ..,h,k,aD=>World.ownsRow.lt h k aD
 | .mp b es clock,h,k,aD=>by
  simp only [av.id,Option.some.injEq] at aD
  subst aD
  exact ⟨h.1,(Array.getElem?_eq_some_iff.1 h.2).1⟩
theorem av.uh{base w w'}:∀ {r:av},r.ok base w→(∀ b,r.id=some b→w'.heap[b]?=w.heap[b]?)→r.ok base w'
 | .blk b ty cells,h,aD=>⟨h.1,by rw [aD b rfl];exact h.2⟩
 | .row v e size n xs,h,aD=>by
  refine ⟨h.1,?_⟩
  rcases h.2 with bA | ⟨g,cap,cur,rfl,au,YC,rest⟩
  ·exact .inl bA
  ·exact .inr ⟨g,cap,cur,rfl,au,by rw [aD g rfl];exact YC,rest⟩
 | .mp b es clock,h,aD=>⟨h.1,by rw [aD b rfl];exact h.2⟩
structure ma (w0 w:World):Prop where
 os:w.os=w0.os
 tape:w.tape=w0.tape
 output:w.output=w0.output
theorem ma.refl(w:World):ma w w:=⟨rfl,rfl,rfl⟩
theorem ma.trans{a b c:World}(h:ma a b)(k:ma b c):ma a c:=⟨k.os.trans h.os,k.tape.trans h.tape,k.output.trans h.output⟩
structure aC (w0:World) (zs:List aP) (hs:List av) (w:World):Prop where
 ext:(b1 w0).le (b1 w)
 zone:∀ z∈zs,z.le (b1 w)∧∀ b o,z b=some o→w0.heap.size≤b
 own:∀ r∈hs,r.ok w0.heap.size w∧∀ b,r.id=some b→∀ z∈zs,z b=none
 nd:(hs.filterMap av.id).Nodup
 io:ma w0 w
theorem kJ{w:World}{b:Nat}{o:Obj}(h:b1 w b=some o):b<w.heap.size:=(Array.getElem?_eq_some_iff.1 h).1
theorem Ov{w:World}{b:Nat}(h:b<w.heap.size):∃ o,b1 w b=some o:=⟨w.heap[b],by simp [b1,h]⟩
theorem le_size{w w':World}(h:(b1 w).le (b1 w')):w.heap.size≤w'.heap.size:=by
 rcases Nat.eq_zero_or_pos w.heap.size with h0 | h0
 ·omega
 ·obtain ⟨o,cB⟩:=Ov (w:=w) (b:=w.heap.size-1) (by omega)
  have:=kJ (h _ _ cB)
  omega
theorem le_eq{w w':World}(h:(b1 w).le (b1 w')){b:Nat}(au:b<w.heap.size):w'.heap[b]?=w.heap[b]?:=by
 obtain ⟨o,cB⟩:=Ov au
 have:=h _ _ cB
 simp only [b1] at cB this
 rw [cB,this]
theorem aC.start(w:World):aC w [] [] w:=
 ⟨aP.le_refl _,by simp,by simp,by simp,ma.refl _⟩
theorem aC.drew{w0 zs hs w}(h:aC w0 zs hs w)(n:Nat):aC w0 zs hs { w with drawn:=n }:=
 ⟨h.ext,h.zone,fun r aY=>⟨av.uh (h.own r aY).1 fun _ _=>rfl,(h.own r aY).2⟩,h.nd,h.io.trans ⟨rfl,rfl,rfl⟩⟩
theorem aC.later{w0 zs hs w w'}(h:aC w0 zs hs w)(hl:(b1 w).le (b1 w'))(qF:ma w w'):aC w0 zs hs w':=
 ⟨aP.le_trans h.ext hl,fun z bj=>⟨aP.le_trans (h.zone z bj).1 hl,(h.zone z bj).2⟩,
  fun r aY=>⟨av.uh (h.own r aY).1 fun b au=>le_eq hl (av.mE (h.own r aY).1 b au).2,(h.own r aY).2⟩,h.nd,h.io.trans qF⟩
theorem aC.call{w0 zs hs w zs' hs' w'}(h:aC w0 zs hs w)(bu:aC w zs' hs' w'):aC w0 (zs'++zs) (hs'++hs) w':=by
 have hl:=bu.ext
 have dZ:=le_size h.ext
 have h1:=h.later hl bu.io
 refine ⟨h1.ext,?_,?_,?_,h1.io⟩
 ·intro z bj
  rcases List.mem_append.1 bj with bj | bj
  ·exact ⟨(bu.zone z bj).1,fun b o au=>Nat.le_trans dZ ((bu.zone z bj).2 b o au)⟩
  ·exact h1.zone z bj
 ·intro r aY
  rcases List.mem_append.1 aY with aY | aY
  ·refine ⟨?_,fun b au z bj=>?_⟩
   ·have:=(bu.own r aY).1
    cases r with
    | blk b ty cells=>exact ⟨Nat.le_trans dZ this.1,this.2⟩
    | mp b es clock=>exact ⟨Nat.le_trans dZ this.1,this.2⟩
    | row v e size n xs=>
     refine ⟨this.1,?_⟩
     rcases this.2 with bA | ⟨g,cap,cur,bx,au,rest⟩
     ·exact .inl bA
     ·exact .inr ⟨g,cap,cur,bx,Nat.le_trans dZ au,rest⟩
   ·rcases List.mem_append.1 bj with bj | bj
    ·exact (bu.own r aY).2 b au z bj
    ·have mu:=(av.mE (bu.own r aY).1 b au).1
     cases fK:z b with
     | none=>rfl
     | some o=>
      have:=kJ ((h.zone z bj).1 b o fK)
      omega
  ·refine ⟨(h1.own r aY).1,fun b au z bj=>?_⟩
   rcases List.mem_append.1 bj with bj | bj
   ·have gL:=(av.mE (h.own r aY).1 b au).2
    cases fK:z b with
    | none=>rfl
    | some o=>
     have:=(bu.zone z bj).2 b o fK
     omega
   ·exact (h1.own r aY).2 b au z bj
 ·rw [List.filterMap_append,List.nodup_append]
  refine ⟨bu.nd,h.nd,fun b au gB Be e=>?_⟩
  subst e
  obtain ⟨r,aY,bK⟩:=List.mem_filterMap.1 au
  obtain ⟨eR,pP,bV⟩:=List.mem_filterMap.1 Be
  have h1:=(av.mE (bu.own r aY).1 b bK).1
  have aq:=(av.mE (h.own eR pP).1 b bV).2
  omega
theorem Ep{hs hs':List av}(h:hs'.Sublist hs)(bA:(hs.filterMap av.id).Nodup):(hs'.filterMap av.id).Nodup:=
 List.Sublist.nodup (h.filterMap _) bA
theorem aC.ak{w0 zs hs w}(h:aC w0 zs hs w){zs' hs'}(h1:zs'.Sublist zs)(aq:hs'.Sublist hs):aC w0 zs' hs' w:=
 ⟨h.ext,fun z bj=>h.zone z (h1.subset bj),fun r aY=>⟨(h.own r (aq.subset aY)).1,fun b au z bj=>(h.own r (aq.subset aY)).2 b au z (h1.subset bj)⟩,Ep aq h.nd,h.io⟩
theorem aC.perm{w0 zs hs w}(h:aC w0 zs hs w){hs'}(aq:hs'.Perm hs):aC w0 zs hs' w:=
 ⟨h.ext,h.zone,fun r aY=>h.own r (aq.subset aY),(List.Perm.nodup_iff (aq.filterMap _)).2 h.nd,h.io⟩
theorem aC.set{w0 zs hs w w'}(h:aC w0 zs hs w){k:Nat}{r eR:av}(aD:hs[k]?=some r)(m5:eR.id=r.id)(hw:∀ b,r.id≠some b→w'.heap[b]?=w.heap[b]?)(yh:eR.ok w0.heap.size w')(dZ:w.heap.size≤w'.heap.size)(qF:ma w w') :
  aC w0 zs (hs.set k eR) w':=by
 have pM:r∈hs:=List.mem_of_getElem? aD
 have oc:k<hs.length:=(List.getElem?_eq_some_iff.1 aD).1
 have fq:∀ b o,(b<w0.heap.size∨∃ z∈zs,z b=some o)→r.id≠some b:=by
  intro b o au e
  rcases au with au | ⟨z,bj,fK⟩
  ·have:=(av.mE (h.own r pM).1 b e).1;omega
  ·have:=(h.own r pM).2 b e z bj;rw [this] at fK;cases fK
 refine ⟨fun b o au=>?_,fun z bj=>⟨fun b o au=>?_,(h.zone z bj).2⟩,fun s cV=>?_,?_,h.io.trans qF⟩
 ·have:=h.ext b o au
  simp only [b1] at this ⊢
  rw [hw b (fq b o (.inl (kJ au)))]
  exact this
 ·have:=(h.zone z bj).1 b o au
  simp only [b1] at this ⊢
  rw [hw b (fq b o (.inr ⟨z,bj,au⟩))]
  exact this
 ·obtain ⟨i,aG⟩:=List.mem_iff_getElem?.1 cV
  rw [List.getElem?_set] at aG
  split at aG
  ·rename_i oY
   subst oY
   try rw [if_pos oc] at aG
   simp only [Option.some.injEq] at aG
   subst aG
   exact ⟨yh,fun b au=>(h.own r pM).2 b (m5 ▸ au)⟩
  ·rename_i oY
   have vH:s∈hs:=List.mem_of_getElem? aG
   refine ⟨av.uh (h.own s vH).1 fun b au=>hw b fun e=>?_,(h.own s vH).2⟩
   have fO:=h.nd
   have key:∀ (l:List av) (i k:Nat),i≠k→l[i]?=some s→l[k]?=some r→¬ (l.filterMap av.id).Nodup:=by
    intro l
    induction l with
    | nil=>intro i k _ aG;simp at aG
    | cons x l ih=>
     intro i k fq aG aD bA
     cases i with
     | zero=>
      cases k with
      | zero=>exact fq rfl
      | succ k=>
       simp at aG aD
       subst aG
       rw [List.filterMap_cons,au] at bA
       simp at bA
       exact bA.1 r (List.mem_of_getElem? aD) e
     | succ i=>
      cases k with
      | zero=>
       simp at aG aD
       subst aD
       rw [List.filterMap_cons,e] at bA
       simp at bA
       exact bA.1 s (List.mem_of_getElem? aG) au
      | succ k=>
       simp at aG aD
       refine ih i k (by omega) aG aD ?_
       rw [List.filterMap_cons] at bA
       split at bA
       ·exact bA
       ·exact (List.nodup_cons.1 bA).2
   exact key hs i k (by omega) aG aD fO
 ·have:(hs.set k eR).filterMap av.id=hs.filterMap av.id:=by
   have gen:∀ (l:List av) (k:Nat),l[k]?=some r→(l.set k eR).filterMap av.id=l.filterMap av.id:=by
    intro l
    induction l with
    | nil=>intro k aD;simp at aD
    | cons x l ih=>
     intro k aD
     cases k with
     | zero=>simp at aD;subst aD;simp [List.filterMap_cons,m5]
     | succ k=>simp at aD;simp [List.filterMap_cons,ih k aD]
   exact gen hs k aD
  rw [this]
  exact h.nd
theorem aC.new{w0 zs hs w}(h:aC w0 zs hs w)(ty:TypeId)(cells:List Value) :
  aC w0 zs (.blk w.heap.size ty cells::hs) { w with heap:=w.heap.push (.cells cells.toArray ty (0,0)) }:=by
 have hl:(b1 w).le (b1 { w with heap:=w.heap.push (.cells cells.toArray ty (0,0)) }):=fun b o au=>by
  have:=kJ au
  simp only [b1] at au ⊢
  rw [Array.getElem?_push]
  rw [if_neg (by omega)]
  exact au
 have h1:=h.later hl ⟨rfl,rfl,rfl⟩
 refine ⟨h1.ext,h1.zone,fun r aY=>?_,?_,h1.io⟩
 ·rcases List.mem_cons.1 aY with rfl | aY
  ·refine ⟨⟨le_size h.ext,by simp⟩,fun b au z bj=>?_⟩
   simp only [av.id,Option.some.injEq] at au
   subst au
   cases fK:z w.heap.size with
   | none=>rfl
   | some o=>have:=kJ ((h.zone z bj).1 _ o fK);omega
  ·exact h1.own r aY
 ·rw [List.filterMap_cons]
  simp only [av.id]
  refine List.nodup_cons.2 ⟨fun hm=>?_,h.nd⟩
  obtain ⟨r,aY,e⟩:=List.mem_filterMap.1 hm
  have:=(av.mE (h.own r aY).1 _ e).2
  omega
end Go.aJ
end
section
namespace Go.aJ
def bL[aW](P:Program)(n:Nat)(w0:World)(zs:List aP)(hs:List av)(L:List (Nat×Value))(o:Oper)(v:Value):Prop:=
 ∀ a,Fr n L a→∀ w,aC w0 zs hs w→Oper.quietUpon P (aC w0 zs hs) w v ((execOp a.eval o).run P w)
def kL(d:Option Tmp)(v:Value)(L:List (Nat×Value)):List (Nat×Value):=
 match d with
 | some t=>(t,v)::L
 | none=>L
def rq(n:Nat):Option Tmp→Prop
 | some t=>t<n
 | none=>True
theorem Fr.up[aW]{n L a}(h:Fr n L a){d:Option Tmp}{v:Value}(aT:rq n d):Fr n (kL d v L) (a.put d v):=by
 cases d with
 | none=>exact h
 | some t=>exact h.put aT
def fk[aW](P:Program)(n:Nat)(w0:World)(zs:List aP)(hs:List av)(ops:Array Oper):Nat→List (Nat×Value)→List Oper→List (Nat×Value)→List Oper→Prop
 | 0,L,l,L',l'=>L=L'∧l=l'
 | k+1,L,l,L',l'=>∃ o r v,l=o::r∧rq n o.dst ∧
   (∀ a,Fr n L a→((Region.wanted o (yielded ops a.tmps)=true∧∀ w,aC w0 zs hs w→Oper.quietUpon P (aC w0 zs hs) w v ((execOp a.eval o).run P w))∨(Region.wanted o (yielded ops a.tmps)=false∧v=undef))) ∧
   fk P n w0 zs hs ops k (kL o.dst v L) r L' l'
section
variable {P:Program}{n:Nat}{w0:World}{zs:List aP}{hs:List av}{ops:Array Oper}{L L':List (Nat×Value)}{l l':List Oper}{k:Nat}
theorem ah[aW]:fk P n w0 zs hs ops 0 L l L l:=⟨rfl,rfl⟩
theorem l7[aW]{d:Tmp}{op:Op}{t:TypeId}{p:String}{af:Array Edge}{v:Value}(aT:Nat.blt d n=true)
  (q:bL P n w0 zs hs L ⟨some d,op,t,p,af,none⟩ v) (r:fk P n w0 zs hs ops k ((d,v)::L) l L' l') :
  fk P n w0 zs hs ops (k+1) L (⟨some d,op,t,p,af,none⟩::l) L' l':=
 ⟨_,_,v,rfl,Nat.blt_eq.mp aT,fun a a7=>.inl ⟨rfl,fun w hw=>q a a7 w hw⟩,r⟩
theorem wU[aW]{a:Act}(a7:Fr n L a){g t:Nat}{v:Value}(aO:(ops[g]?).bind (·.dst)=some t)(hl:look L t=some v) :
  yielded ops a.tmps g=(match v with | .bool b=>some b | _=>none):=by
 unfold yielded
 rw [aO]
 simp only [Option.bind_some,a7.get t v hl]
 cases v <;> rfl
theorem aN[aW]{d:Tmp}{op:Op}{t:TypeId}{p:String}{af:Array Edge}{v:Value}{g:Nat}{b:Bool}(gt:Nat)(dY:(ops[g]?).bind (·.dst)=some gt)(nD:look L gt=some (.bool b))(aT:Nat.blt d n=true)
  (q:bL P n w0 zs hs L ⟨some d,op,t,p,af,some (g,b)⟩ v) (r:fk P n w0 zs hs ops k ((d,v)::L) l L' l') :
  fk P n w0 zs hs ops (k+1) L (⟨some d,op,t,p,af,some (g,b)⟩::l) L' l':=
 ⟨_,_,v,rfl,Nat.blt_eq.mp aT,fun a a7=>.inl ⟨by simp [Region.wanted,wU a7 dY nD],fun w hw=>q a a7 w hw⟩,r⟩
theorem h3[aW]{d:Tmp}{op:Op}{t:TypeId}{p:String}{af:Array Edge}{g:Nat}{b c:Bool}(gt:Nat)(dY:(ops[g]?).bind (·.dst)=some gt)(nD:look L gt=some (.bool c))(tz:(!b)=c)(aT:Nat.blt d n=true)
  (r:fk P n w0 zs hs ops k ((d,undef)::L) l L' l') :
  fk P n w0 zs hs ops (k+1) L (⟨some d,op,t,p,af,some (g,b)⟩::l) L' l':=
 ⟨_,_,undef,rfl,Nat.blt_eq.mp aT,fun a a7=>.inr ⟨by subst tz;simp [Region.wanted,wU a7 dY nD],rfl⟩,r⟩
theorem wy[aW]{d:Tmp}{op:Op}{t:TypeId}{p:String}{af:Array Edge}{g:Nat}{b:Bool}(gt:Nat)(dY:(ops[g]?).bind (·.dst)=some gt)(nD:look L gt=some undef)(aT:Nat.blt d n=true)
  (r:fk P n w0 zs hs ops k ((d,undef)::L) l L' l') :
  fk P n w0 zs hs ops (k+1) L (⟨some d,op,t,p,af,some (g,b)⟩::l) L' l':=
 ⟨_,_,undef,rfl,Nat.blt_eq.mp aT,fun a a7=>.inr ⟨by simp only [Region.wanted,wU a7 dY nD];exact beq_eq_false_iff_ne.2 (by simp [undef]),rfl⟩,r⟩
theorem k8[aW]{Q:Exit→Act→World→Prop}:∀ {k:Nat}{L l}{a:Act}{w:World},Fr n L a→aC w0 zs hs w→fk P n w0 zs hs ops k L l L' l' →
  (∀ a w,Fr n L' a→aC w0 zs hs w→wpList P ops Q l' a w)→wpList P ops Q l a w
 | 0,_,_,a,w,ab,U,h,K=>by obtain ⟨rfl,rfl⟩:=h;exact K a w ab U
 | k+1,_,_,a,w,ab,U,h,K=>by
  obtain ⟨o,r,v,rfl,aT,cn,aY⟩:=h
  unfold wpList
  rcases cn a ab with ⟨hw,cn⟩ | ⟨hw,rfl⟩
  ·simp only [hw,if_true]
   refine .inl ?_
   have:=cn w U
   unfold Oper.wp
   generalize (execOp a.eval o).run P w=res at this
   cases res with
   | halt x w'=>simp only [Oper.quietUpon] at this
   | ok nx w'=>
    cases nx <;> simp only [Oper.quietUpon] at this <;> simp only [Oper.upon]
    case value u=>obtain ⟨rfl,rfl⟩:=this;exact k8 (ab.up aT) U aY K
    case skip=>obtain ⟨rfl,rfl⟩:=this;exact k8 (ab.up aT) U aY K
    case enter f args=>
     obtain ⟨rfl,bu⟩:=this
     exact bu.mono fun e wN ⟨he,yr⟩=>by subst he;exact k8 (ab.up aT) yr aY K
  ·simp only [hw,Bool.false_eq_true,if_false]
   exact k8 (ab.up aT) U aY K
theorem Db[aW]:∀ {k:Nat}{L l}{Q:Act→Prop}{a:Act},Fr n L a→fk P n w0 zs hs ops k L l L' [] →
  (∀ a,Fr n L' a→Q a)→wpQuiet P ops (aC w0 zs hs) Q l a
 | 0,_,_,_,a,ab,h,K=>by obtain ⟨rfl,rfl⟩:=h;exact K a ab
 | k+1,_,_,_,a,ab,h,K=>by
  obtain ⟨o,r,v,rfl,aT,cn,aY⟩:=h
  unfold wpQuiet
  rcases cn a ab with ⟨hw,cn⟩ | ⟨hw,rfl⟩
  ·simp only [hw,if_true]
   exact ⟨v,fun w hw=>cn w hw,Db (ab.up aT) aY K⟩
  ·simp only [hw,Bool.false_eq_true,if_false]
   exact Db (ab.up aT) aY K
theorem bq[aW]{id:Nat}{Q:Exit→Act→World→Prop}{a:Act}{w:World}(ab:Fr n L a)(U:aC w0 zs hs w)
  (s:fk P n w0 zs hs l.toArray k L l L' []) (K:∀ a w,Fr n L' a→aC w0 zs hs w→Q .normal a w):(Code.region id l.toArray false).wp P Q a w:=
 wp_region_lit (k8 ab U s fun a w ab U=>wpList_nil (K a w ab U))
theorem aeA[aW]{id:Nat}{Q:Exit→Act→World→Prop}{a:Act}{w:World}(hm:P.follows .mixedOrders=true)(gq:Region.lexB .any l.toArray=true)(ab:Fr n L a)(U:aC w0 zs hs w)
  (s:fk P n w0 zs hs l.toArray k L l L' []) (K:∀ a w,Fr n L' a→aC w0 zs hs w→Q .normal a w):(Code.region id l.toArray true).wp P Q a w:=
 wp_region_quiet (C:=aC w0 zs hs) hm gq (U.drew _) (Db (by exact ab) s fun a ab w U=>K a w ab U)
theorem du{id:Nat}{Q:Exit→Act→World→Prop}{a:Act}{w:World}(h:wpList P l.toArray Q l a w):(Code.region id l.toArray false).wp P Q a w:=wp_region_lit h
end
end Go.aJ
end
section
namespace Go.aJ
abbrev az(x:Int):Value:=.int .i64 x
abbrev bf(x:UInt8):Value:=.int .u8 (x.toNat:Int)
abbrev cx(x:UInt32):Value:=.int .u32 (x.toNat:Int)
abbrev gy(x:UInt64):Value:=.int .u64 (x.toNat:Int)
abbrev iD(b:Bool):Value:=.bool b
@[reducible] def cP (l:List UInt8):ByteArray:=⟨l.toArray⟩
abbrev vs(l:List UInt8):Value:=.string (cP l)
structure a1 (P:Program) (t:TypeId) (d:TypeDesc) (s b:Nat) (z:Value):Prop where
 und:P.underlying t=some d
 inf:(P.info? t).map (fun i=>(i.size,i.bytes,i.zero))=some (s,b,some z)
def MO(x y:Int):Int:=IntKind.i64.wrap (BitVec.ofInt 64 x &&& BitVec.ofInt 64 y).toNat
def BE(x y:Int):Int:=IntKind.i64.wrap (BitVec.ofInt 64 x ||| BitVec.ofInt 64 y).toNat
def alC(x y:Int):Int:=IntKind.i64.wrap (BitVec.ofInt 64 x ^^^ BitVec.ofInt 64 y).toNat
def alz(x y:Int):Int:=IntKind.i64.wrap (BitVec.ofInt 64 x &&& ~~~(BitVec.ofInt 64 y)).toNat
def nO(x:UInt64):Int:=if x.toNat<9223372036854775808 then x.toNat else (x.toNat:Int)-18446744073709551616
theorem uA(x:UInt8):0≤(x.toNat:Int)∧(x.toNat:Int)<256:=⟨by omega,by have:=x.toNat_lt;omega⟩
theorem wC(x:UInt32):0≤(x.toNat:Int)∧(x.toNat:Int)<4294967296:=⟨by omega,by have:=x.toNat_lt;omega⟩
theorem p8(x:UInt64):0≤(x.toNat:Int)∧(x.toNat:Int)<18446744073709551616:=⟨by omega,by have:=x.toNat_lt;omega⟩
section
variable {P:Program}{n:Nat}{w0:World}{zs:List aP}{hs:List av}{L:List (Nat×Value)}{d:Option Tmp}{ty t bZ:TypeId}{pos:String}{af:Array Edge}{g:Option (Nat×Bool)}
variable {x y z c nI nJ ki:Operand}{u v:Value}
theorem eC[aW]{o:Oper}(h:∀ a,Fr n L a→∀ w,aC w0 zs hs w→(execOp a.eval o).run P w=.ok (.value v) w):bL P n w0 zs hs L o v:=
 fun a a7 w hw=>by rw [h a a7 w hw];exact ⟨rfl,rfl⟩
theorem bE[aW](h:aU L x=some v):bL P n w0 zs hs L ⟨d,.move x,ty,pos,af,g⟩ v:=
 eC fun a a7 w _=>by simp [execOp,a7.eval h]
theorem lD[aW](h:aU L x=some v):bL P n w0 zs hs L ⟨d,.assign x,ty,pos,af,g⟩ v:=
 eC fun a a7 w _=>by simp [execOp,a7.eval h]
theorem iN[aW](h:aU L c=some (.bool true))(h1:aU L x=some u):bL P n w0 zs hs L ⟨d,.pick c x y,ty,pos,af,g⟩ u:=
 eC fun a a7 w _=>by simp [execOp,a7.eval h,a7.eval h1,asBool]
theorem hY[aW](h:aU L c=some (.bool false))(aq:aU L y=some v):bL P n w0 zs hs L ⟨d,.pick c x y,ty,pos,af,g⟩ v:=
 eC fun a a7 w _=>by simp [execOp,a7.eval h,a7.eval aq,asBool]
theorem e0[aW]{op:BinOp}{p q r:Value}(h1:aU L x=some p)(aq:aU L y=some q)(aO:∀ w,(eqGuard op t x y p q).run P w=.ok () w)(h:∀ w,(binOp op t p q).run P w=.ok r w) :
  bL P n w0 zs hs L ⟨d,.binOp op t x y bZ,ty,pos,af,g⟩ r:=
 eC fun a a7 w _=>by
  simp only [execOp,a7.eval h1,a7.eval aq]
  simp [aO w,h w]
theorem gF{op:BinOp}{k iH:IntKind}{p q:Int}(w:World):(eqGuard op t x y (.int k p) (.int iH q)).run P w=.ok () w:=by
 cases op <;> simp [eqGuard]
theorem u9{op:BinOp}{p q:ByteArray}(w:World):(eqGuard op t x y (.string p) (.string q)).run P w=.ok () w:=by
 cases op <;> simp [eqGuard]
theorem UN{op:BinOp}{p q:Bool}(w:World):(eqGuard op t x y (.bool p) (.bool q)).run P w=.ok () w:=by
 cases op <;> simp [eqGuard]
theorem pb[aW]{p q:Int}(h1:aU L x=some (az p))(aq:aU L y=some (az q))(au : -9223372036854775808≤p+q∧p+q≤9223372036854775807) :
  bL P n w0 zs hs L ⟨d,.binOp .add t x y bZ,ty,pos,af,g⟩ (az (p+q)):=
 e0 h1 aq gF fun w=>by simp [binOp,Op.intArith,IntWalk.i64_in _ au]
theorem na[aW]{p q:Int}(h1:aU L x=some (az p))(aq:aU L y=some (az q))(au : -9223372036854775808≤p-q∧p-q≤9223372036854775807) :
  bL P n w0 zs hs L ⟨d,.binOp .sub t x y bZ,ty,pos,af,g⟩ (az (p-q)):=
 e0 h1 aq gF fun w=>by simp [binOp,Op.intArith,IntWalk.i64_in _ au]
theorem hd[aW]{p q:Int}(h1:aU L x=some (az p))(aq:aU L y=some (az q))(au : -9223372036854775808≤p*q∧p*q≤9223372036854775807) :
  bL P n w0 zs hs L ⟨d,.binOp .mul t x y bZ,ty,pos,af,g⟩ (az (p*q)):=
 e0 h1 aq gF fun w=>by simp [binOp,Op.intArith,IntWalk.i64_in _ au]
theorem nL[aW]{p q:Int}(h1:aU L x=some (az p))(aq:aU L y=some (az q))(au:0≤p∧p≤9223372036854775807∧1≤q) :
  bL P n w0 zs hs L ⟨d,.binOp .quo t x y bZ,ty,pos,af,g⟩ (az (p/q)):=
 e0 h1 aq gF fun w=>by
  have:¬ q=0:=by omega
  simp [binOp,Op.intDiv,this,IntWalk.i64_quo _ _ au]
theorem mI[aW]{p q:Int}(h1:aU L x=some (az p))(aq:aU L y=some (az q))(au:0≤p∧1≤q) :
  bL P n w0 zs hs L ⟨d,.binOp .rem t x y bZ,ty,pos,af,g⟩ (az (p%q)):=
 e0 h1 aq gF fun w=>by
  have:¬ q=0:=by omega
  simp [binOp,Op.intDiv,this,IntWalk.rem_in _ _ au.1]
theorem fc[aW]{p q:Int}(h1:aU L x=some (az p))(aq:aU L y=some (az q)):bL P n w0 zs hs L ⟨d,.binOp .eql t x y bZ,ty,pos,af,g⟩ (.bool (decide (p=q))):=
 e0 h1 aq gF fun w=>by simp [binOp,Op.intCmp];rfl
theorem dM[aW]{p q:Int}(h1:aU L x=some (az p))(aq:aU L y=some (az q)):bL P n w0 zs hs L ⟨d,.binOp .neq t x y bZ,ty,pos,af,g⟩ (.bool (!decide (p=q))):=
 e0 h1 aq gF fun w=>by simp [binOp,Op.intCmp];rfl
theorem cK[aW]{p q:Int}(h1:aU L x=some (az p))(aq:aU L y=some (az q)):bL P n w0 zs hs L ⟨d,.binOp .lss t x y bZ,ty,pos,af,g⟩ (.bool (decide (p<q))):=
 e0 h1 aq gF fun w=>by simp [binOp,Op.intCmp]
theorem vZ[aW]{p q:Int}(h1:aU L x=some (az p))(aq:aU L y=some (az q)):bL P n w0 zs hs L ⟨d,.binOp .leq t x y bZ,ty,pos,af,g⟩ (.bool (decide (p≤q))):=
 e0 h1 aq gF fun w=>by simp [binOp,Op.intCmp]
theorem eQ[aW]{p q:Int}(h1:aU L x=some (az p))(aq:aU L y=some (az q)):bL P n w0 zs hs L ⟨d,.binOp .gtr t x y bZ,ty,pos,af,g⟩ (.bool (decide (q<p))):=
 e0 h1 aq gF fun w=>by simp [binOp,Op.intCmp]
theorem jH[aW]{p q:Int}(h1:aU L x=some (az p))(aq:aU L y=some (az q)):bL P n w0 zs hs L ⟨d,.binOp .geq t x y bZ,ty,pos,af,g⟩ (.bool (decide (q≤p))):=
 e0 h1 aq gF fun w=>by simp [binOp,Op.intCmp]
theorem adU[aW]{p q:Int}(h1:aU L x=some (az p))(aq:aU L y=some (az q)):bL P n w0 zs hs L ⟨d,.binOp .or t x y bZ,ty,pos,af,g⟩ (az (BE p q)):=
 e0 h1 aq gF fun w=>rfl
theorem adX[aW]{k:IntKind}{p q:Int}(h1:aU L x=some (az p))(aq:aU L y=some (.int k q))(cn:0≤q)(au : -9223372036854775808≤p*2^(min q.toNat 64)∧p*2^(min q.toNat 64)≤9223372036854775807) :
  bL P n w0 zs hs L ⟨d,.binOp .shl t x y bZ,ty,pos,af,g⟩ (az (p*2^(min q.toNat 64))):=
 e0 h1 aq gF fun w=>by
  have:¬ q<0:=by omega
  simp [binOp,Op.shift,this,IntKind.bits,IntWalk.i64_in _ au]
theorem adZ[aW]{k:IntKind}{p q:Int}(h1:aU L x=some (az p))(aq:aU L y=some (.int k q))(cn:0≤q) :
  bL P n w0 zs hs L ⟨d,.binOp .shr t x y bZ,ty,pos,af,g⟩ (az (p/2^(min q.toNat 64))):=
 e0 h1 aq gF fun w=>by
  have:¬ q<0:=by omega
  have aq:(0:Int)≤2^(min q.toNat 64):=Int.pow_nonneg (by omega)
  simp [binOp,Op.shift,this,IntKind.bits,Int.fdiv_eq_ediv_of_nonneg _ aq]
theorem Cm[aW]{p:Int}(h1:aU L x=some (az p))(au : -9223372036854775808 ≤ -p ∧ -p≤9223372036854775807):bL P n w0 zs hs L ⟨d,.unOp .neg t x,ty,pos,af,g⟩ (az (-p)):=
 eC fun a a7 w _=>by
  simp only [execOp,a7.eval h1]
  simp [Op.unary,Op.intArith,IntWalk.i64_in _ au]
theorem fC[aW]{b:Bool}(h1:aU L x=some (.bool b)):bL P n w0 zs hs L ⟨d,.unOp .not t x,ty,pos,af,g⟩ (.bool (!b)):=
 eC fun a a7 w _=>by
  simp only [execOp,a7.eval h1]
  simp [Op.unary]
theorem wrap_u8(n:Int):IntKind.u8.wrap n=n%256:=by simp [IntKind.wrap,IntKind.bits,IntKind.signed]
def hb(n:Int):UInt8:=UInt8.ofNat (n%256).toNat
theorem qU(n:Int):((hb n).toNat:Int)=n%256:=by
 unfold hb
 have h1:0≤n%256:=Int.emod_nonneg _ (by omega)
 have aq:n%256<256:=Int.emod_lt_of_pos _ (by omega)
 rw [UInt8.toNat_ofNat']
 have:(n%256).toNat<2^8:=by simp;omega
 rw [Nat.mod_eq_of_lt this]
 exact Int.toNat_of_nonneg h1
theorem JO(a:UInt8):BitVec.ofInt 8 (a.toNat:Int)=a.toBitVec:=by
 rw [BitVec.ofInt_natCast]
 simp
theorem ad4[aW]{p q:UInt8}(h1:aU L x=some (bf p))(aq:aU L y=some (bf q)):bL P n w0 zs hs L ⟨d,.binOp .sub t x y bZ,ty,pos,af,g⟩ (bf (p-q)):=
 e0 h1 aq gF fun w=>by
  have e:IntKind.u8.wrap ((p.toNat:Int)-q.toNat)=((p-q).toNat:Int):=by
   have bN:=uA p
   have cn:=uA q
   rw [wrap_u8,UInt8.toNat_sub]
   omega
  simp [binOp,Op.intArith,e]
theorem uk[aW]{p q:UInt8}(h1:aU L x=some (bf p))(aq:aU L y=some (bf q)):bL P n w0 zs hs L ⟨d,.binOp .xor t x y bZ,ty,pos,af,g⟩ (bf (p ^^^ q)):=
 e0 h1 aq gF fun w=>by
  have e:IntKind.u8.wrap ((BitVec.ofInt 8 (p.toNat:Int) ^^^ BitVec.ofInt 8 (q.toNat:Int)).toNat:Int)=((p ^^^ q).toNat:Int):=by
   rw [JO,JO,← UInt8.toBitVec_xor,UInt8.toNat_toBitVec,wrap_u8]
   have:=uA (p ^^^ q)
   omega
  exact congrArg (fun z=>Result.ok (Value.int IntKind.u8 z) w) e
theorem OZ[aW]{k:IntKind}{p:UInt8}{q:Int}(h1:aU L x=some (bf p))(aq:aU L y=some (.int k q))(cn:0≤q):bL P n w0 zs hs L ⟨d,.binOp .shl t x y bZ,ty,pos,af,g⟩ (bf (hb ((p.toNat:Int)*2^(min q.toNat 8)))):=
 e0 h1 aq gF fun w=>by
  have:¬ q<0:=by omega
  show _=Result.ok (Value.int .u8 ((hb ((p.toNat:Int)*2^(min q.toNat 8))).toNat:Int)) w
  rw [qU,← wrap_u8]
  simp [binOp,Op.shift,this,IntKind.bits]
theorem adq[aW]{p q:UInt8}(h1:aU L x=some (bf p))(aq:aU L y=some (bf q)):bL P n w0 zs hs L ⟨d,.binOp .eql t x y bZ,ty,pos,af,g⟩ (.bool (decide (p=q))):=
 e0 h1 aq gF fun w=>by
  have e:((p.toNat:Int) == (q.toNat:Int))=decide (p=q):=by
   rw [Bool.eq_iff_iff];simp [← UInt8.toNat_inj,Int.ofNat_inj]
  simp [binOp,Op.intCmp,bne,e]
theorem Hj[aW]{p q:UInt8}(h1:aU L x=some (bf p))(aq:aU L y=some (bf q)):bL P n w0 zs hs L ⟨d,.binOp .neq t x y bZ,ty,pos,af,g⟩ (.bool (!decide (p=q))):=
 e0 h1 aq gF fun w=>by
  have e:((p.toNat:Int) == (q.toNat:Int))=decide (p=q):=by
   rw [Bool.eq_iff_iff];simp [← UInt8.toNat_inj,Int.ofNat_inj]
  simp [binOp,Op.intCmp,bne,e]
theorem adO[aW]{p q:UInt8}(h1:aU L x=some (bf p))(aq:aU L y=some (bf q)):bL P n w0 zs hs L ⟨d,.binOp .lss t x y bZ,ty,pos,af,g⟩ (.bool (decide (p<q))):=
 e0 h1 aq gF fun w=>by
  simp [binOp,Op.intCmp,UInt8.lt_iff_toNat_lt]
theorem adt[aW]{p q:UInt8}(h1:aU L x=some (bf p))(aq:aU L y=some (bf q)):bL P n w0 zs hs L ⟨d,.binOp .gtr t x y bZ,ty,pos,af,g⟩ (.bool (decide (q<p))):=
 e0 h1 aq gF fun w=>by
  simp [binOp,Op.intCmp,UInt8.lt_iff_toNat_lt]
theorem wrap_u32(n:Int):IntKind.u32.wrap n=n%4294967296:=by simp [IntKind.wrap,IntKind.bits,IntKind.signed]
def k1(n:Int):UInt32:=UInt32.ofNat (n%4294967296).toNat
theorem B8(n:Int):((k1 n).toNat:Int)=n%4294967296:=by
 unfold k1
 have h1:0≤n%4294967296:=Int.emod_nonneg _ (by omega)
 have aq:n%4294967296<4294967296:=Int.emod_lt_of_pos _ (by omega)
 rw [UInt32.toNat_ofNat']
 have:(n%4294967296).toNat<2^32:=by simp;omega
 rw [Nat.mod_eq_of_lt this]
 exact Int.toNat_of_nonneg h1
theorem s5(a:UInt32):BitVec.ofInt 32 (a.toNat:Int)=a.toBitVec:=by
 rw [BitVec.ofInt_natCast]
 simp
theorem hN[aW]{p q:UInt32}(h1:aU L x=some (cx p))(aq:aU L y=some (cx q)):bL P n w0 zs hs L ⟨d,.binOp .add t x y bZ,ty,pos,af,g⟩ (cx (p+q)):=
 e0 h1 aq gF fun w=>by
  have e:IntKind.u32.wrap ((p.toNat:Int)+q.toNat)=((p+q).toNat:Int):=by
   have bN:=wC p
   have cn:=wC q
   rw [wrap_u32,UInt32.toNat_add]
   omega
  simp [binOp,Op.intArith,e]
theorem p0[aW]{p q:UInt32}(h1:aU L x=some (cx p))(aq:aU L y=some (cx q)):bL P n w0 zs hs L ⟨d,.binOp .and t x y bZ,ty,pos,af,g⟩ (cx (p &&& q)):=
 e0 h1 aq gF fun w=>by
  have e:IntKind.u32.wrap ((BitVec.ofInt 32 (p.toNat:Int) &&& BitVec.ofInt 32 (q.toNat:Int)).toNat:Int)=((p &&& q).toNat:Int):=by
   rw [s5,s5,← UInt32.toBitVec_and,UInt32.toNat_toBitVec,wrap_u32]
   have:=wC (p &&& q)
   omega
  exact congrArg (fun z=>Result.ok (Value.int IntKind.u32 z) w) e
theorem v7[aW]{p q:UInt32}(h1:aU L x=some (cx p))(aq:aU L y=some (cx q)):bL P n w0 zs hs L ⟨d,.binOp .or t x y bZ,ty,pos,af,g⟩ (cx (p ||| q)):=
 e0 h1 aq gF fun w=>by
  have e:IntKind.u32.wrap ((BitVec.ofInt 32 (p.toNat:Int) ||| BitVec.ofInt 32 (q.toNat:Int)).toNat:Int)=((p ||| q).toNat:Int):=by
   rw [s5,s5,← UInt32.toBitVec_or,UInt32.toNat_toBitVec,wrap_u32]
   have:=wC (p ||| q)
   omega
  exact congrArg (fun z=>Result.ok (Value.int IntKind.u32 z) w) e
theorem jV[aW]{p q:UInt32}(h1:aU L x=some (cx p))(aq:aU L y=some (cx q)):bL P n w0 zs hs L ⟨d,.binOp .xor t x y bZ,ty,pos,af,g⟩ (cx (p ^^^ q)):=
 e0 h1 aq gF fun w=>by
  have e:IntKind.u32.wrap ((BitVec.ofInt 32 (p.toNat:Int) ^^^ BitVec.ofInt 32 (q.toNat:Int)).toNat:Int)=((p ^^^ q).toNat:Int):=by
   rw [s5,s5,← UInt32.toBitVec_xor,UInt32.toNat_toBitVec,wrap_u32]
   have:=wC (p ^^^ q)
   omega
  exact congrArg (fun z=>Result.ok (Value.int IntKind.u32 z) w) e
theorem adT[aW]{p:UInt32}(h1:aU L x=some (cx p)):bL P n w0 zs hs L ⟨d,.unOp .xor t x,ty,pos,af,g⟩ (cx (~~~p)):=
 eC fun a a7 w _=>by
  have js:BitVec.ofInt 32 (IntKind.u32.max)=BitVec.allOnes 32:=by decide
  have e:IntKind.u32.wrap ((BitVec.ofInt 32 (IntKind.u32.max) ^^^ BitVec.ofInt 32 (p.toNat:Int)).toNat:Int)=((~~~p).toNat:Int):=by
   rw [s5,js,BitVec.allOnes_xor,← UInt32.toBitVec_not,UInt32.toNat_toBitVec,wrap_u32]
   have:=wC (~~~p)
   omega
  simp only [execOp,a7.eval h1]
  exact congrArg (fun z=>Result.ok (Next.value (Value.int IntKind.u32 z)) w) e
theorem v8[aW]{k:IntKind}{p:UInt32}{q:Int}(h1:aU L x=some (cx p))(aq:aU L y=some (.int k q))(cn:0≤q):bL P n w0 zs hs L ⟨d,.binOp .shl t x y bZ,ty,pos,af,g⟩ (cx (k1 ((p.toNat:Int)*2^(min q.toNat 32)))):=
 e0 h1 aq gF fun w=>by
  have:¬ q<0:=by omega
  show _=Result.ok (Value.int .u32 ((k1 ((p.toNat:Int)*2^(min q.toNat 32))).toNat:Int)) w
  rw [B8,← wrap_u32]
  simp [binOp,Op.shift,this,IntKind.bits]
theorem sm[aW]{k:IntKind}{p:UInt32}{q:Int}(h1:aU L x=some (cx p))(aq:aU L y=some (.int k q))(cn:0≤q):bL P n w0 zs hs L ⟨d,.binOp .shr t x y bZ,ty,pos,af,g⟩ (cx (UInt32.ofNat (p.toNat/2^(min q.toNat 32)))):=
 e0 h1 aq gF fun w=>by
  have:¬ q<0:=by omega
  have aq:(0:Int)≤2^(min q.toNat 32):=Int.pow_nonneg (by omega)
  have e:((UInt32.ofNat (p.toNat/2^(min q.toNat 32))).toNat:Int)=(p.toNat:Int)/2^(min q.toNat 32):=by
   rw [UInt32.toNat_ofNat']
   have aQ:p.toNat/2^(min q.toNat 32)≤p.toNat:=Nat.div_le_self _ _
   have bH:=p.toNat_lt
   rw [Nat.mod_eq_of_lt (by omega)]
   push_cast
   rfl
  show _=Result.ok (Value.int .u32 ((UInt32.ofNat (p.toNat/2^(min q.toNat 32))).toNat:Int)) w
  rw [e]
  simp [binOp,Op.shift,this,IntKind.bits,Int.fdiv_eq_ediv_of_nonneg _ aq]
theorem wrap_u64(n:Int):IntKind.u64.wrap n=n%18446744073709551616:=by simp [IntKind.wrap,IntKind.bits,IntKind.signed]
def di(n:Int):UInt64:=UInt64.ofNat (n%18446744073709551616).toNat
theorem mD(n:Int):((di n).toNat:Int)=n%18446744073709551616:=by
 unfold di
 have h1:0≤n%18446744073709551616:=Int.emod_nonneg _ (by omega)
 have aq:n%18446744073709551616<18446744073709551616:=Int.emod_lt_of_pos _ (by omega)
 rw [UInt64.toNat_ofNat']
 have:(n%18446744073709551616).toNat<2^64:=by simp;omega
 rw [Nat.mod_eq_of_lt this]
 exact Int.toNat_of_nonneg h1
theorem xv(a:UInt64):BitVec.ofInt 64 (a.toNat:Int)=a.toBitVec:=by
 rw [BitVec.ofInt_natCast]
 simp
theorem adi[aW]{p q:UInt64}(h1:aU L x=some (gy p))(aq:aU L y=some (gy q)):bL P n w0 zs hs L ⟨d,.binOp .add t x y bZ,ty,pos,af,g⟩ (gy (p+q)):=
 e0 h1 aq gF fun w=>by
  have e:IntKind.u64.wrap ((p.toNat:Int)+q.toNat)=((p+q).toNat:Int):=by
   have bN:=p8 p
   have cn:=p8 q
   rw [wrap_u64,UInt64.toNat_add]
   omega
  simp [binOp,Op.intArith,e]
theorem ad6[aW]{p q:UInt64}(h1:aU L x=some (gy p))(aq:aU L y=some (gy q)):bL P n w0 zs hs L ⟨d,.binOp .sub t x y bZ,ty,pos,af,g⟩ (gy (p-q)):=
 e0 h1 aq gF fun w=>by
  have e:IntKind.u64.wrap ((p.toNat:Int)-q.toNat)=((p-q).toNat:Int):=by
   have bN:=p8 p
   have cn:=p8 q
   rw [wrap_u64,UInt64.toNat_sub]
   omega
  simp [binOp,Op.intArith,e]
theorem OV[aW]{p q:UInt64}(h1:aU L x=some (gy p))(aq:aU L y=some (gy q)):bL P n w0 zs hs L ⟨d,.binOp .mul t x y bZ,ty,pos,af,g⟩ (gy (p*q)):=
 e0 h1 aq gF fun w=>by
  have e:IntKind.u64.wrap ((p.toNat:Int)*q.toNat)=((p*q).toNat:Int):=by
   have bN:=p8 p
   have cn:=p8 q
   rw [wrap_u64,UInt64.toNat_mul]
   simp
  simp [binOp,Op.intArith,e]
theorem adj[aW]{p q:UInt64}(h1:aU L x=some (gy p))(aq:aU L y=some (gy q)):bL P n w0 zs hs L ⟨d,.binOp .and t x y bZ,ty,pos,af,g⟩ (gy (p &&& q)):=
 e0 h1 aq gF fun w=>by
  have e:IntKind.u64.wrap ((BitVec.ofInt 64 (p.toNat:Int) &&& BitVec.ofInt 64 (q.toNat:Int)).toNat:Int)=((p &&& q).toNat:Int):=by
   rw [xv,xv,← UInt64.toBitVec_and,UInt64.toNat_toBitVec,wrap_u64]
   have:=p8 (p &&& q)
   omega
  exact congrArg (fun z=>Result.ok (Value.int IntKind.u64 z) w) e
theorem adV[aW]{p q:UInt64}(h1:aU L x=some (gy p))(aq:aU L y=some (gy q)):bL P n w0 zs hs L ⟨d,.binOp .or t x y bZ,ty,pos,af,g⟩ (gy (p ||| q)):=
 e0 h1 aq gF fun w=>by
  have e:IntKind.u64.wrap ((BitVec.ofInt 64 (p.toNat:Int) ||| BitVec.ofInt 64 (q.toNat:Int)).toNat:Int)=((p ||| q).toNat:Int):=by
   rw [xv,xv,← UInt64.toBitVec_or,UInt64.toNat_toBitVec,wrap_u64]
   have:=p8 (p ||| q)
   omega
  exact congrArg (fun z=>Result.ok (Value.int IntKind.u64 z) w) e
theorem OY[aW]{p:UInt64}(h1:aU L x=some (gy p)):bL P n w0 zs hs L ⟨d,.unOp .xor t x,ty,pos,af,g⟩ (gy (~~~p)):=
 eC fun a a7 w _=>by
  have js:BitVec.ofInt 64 (IntKind.u64.max)=BitVec.allOnes 64:=by decide
  have e:IntKind.u64.wrap ((BitVec.ofInt 64 (IntKind.u64.max) ^^^ BitVec.ofInt 64 (p.toNat:Int)).toNat:Int)=((~~~p).toNat:Int):=by
   rw [xv,js,BitVec.allOnes_xor,← UInt64.toBitVec_not,UInt64.toNat_toBitVec,wrap_u64]
   have:=p8 (~~~p)
   omega
  simp only [execOp,a7.eval h1]
  exact congrArg (fun z=>Result.ok (Next.value (Value.int IntKind.u64 z)) w) e
theorem adW[aW]{p q:UInt64}(h1:aU L x=some (gy p))(aq:aU L y=some (gy q))(cn:q≠0):bL P n w0 zs hs L ⟨d,.binOp .rem t x y bZ,ty,pos,af,g⟩ (gy (p%q)):=
 e0 h1 aq gF fun w=>by
  have h0:¬ ((q.toNat:Int)=0):=fun h=>cn (by apply UInt64.toNat_inj.1;simp at h ⊢;omega)
  have e:(Int.tmod (p.toNat:Int) q.toNat)=((p%q).toNat:Int):=by
   rw [UInt64.toNat_mod,Int.tmod_eq_emod_of_nonneg (by omega)];rfl
  have fx : (binOp .rem t (gy p) (gy q)).run P w = (if (q.toNat : Int) = 0 then runtimePanic (.error "integer divide by zero") else pure (.int .u64 (Int.tmod (p.toNat : Int) q.toNat))).run P w := rfl
  rw [fx,if_neg h0,e]
  rfl
theorem adY[aW]{k:IntKind}{p:UInt64}{q:Int}(h1:aU L x=some (gy p))(aq:aU L y=some (.int k q))(cn:0≤q):bL P n w0 zs hs L ⟨d,.binOp .shl t x y bZ,ty,pos,af,g⟩ (gy (di ((p.toNat:Int)*2^(min q.toNat 64)))):=
 e0 h1 aq gF fun w=>by
  have:¬ q<0:=by omega
  show _=Result.ok (Value.int .u64 ((di ((p.toNat:Int)*2^(min q.toNat 64))).toNat:Int)) w
  rw [mD,← wrap_u64]
  simp [binOp,Op.shift,this,IntKind.bits]
theorem wa[aW]{k:IntKind}{p:UInt64}{q:Int}(h1:aU L x=some (gy p))(aq:aU L y=some (.int k q))(cn:0≤q):bL P n w0 zs hs L ⟨d,.binOp .shr t x y bZ,ty,pos,af,g⟩ (gy (UInt64.ofNat (p.toNat/2^(min q.toNat 64)))):=
 e0 h1 aq gF fun w=>by
  have:¬ q<0:=by omega
  have aq:(0:Int)≤2^(min q.toNat 64):=Int.pow_nonneg (by omega)
  have e:((UInt64.ofNat (p.toNat/2^(min q.toNat 64))).toNat:Int)=(p.toNat:Int)/2^(min q.toNat 64):=by
   rw [UInt64.toNat_ofNat']
   have aQ:p.toNat/2^(min q.toNat 64)≤p.toNat:=Nat.div_le_self _ _
   have bH:=p.toNat_lt
   rw [Nat.mod_eq_of_lt (by omega)]
   push_cast
   rfl
  show _=Result.ok (Value.int .u64 ((UInt64.ofNat (p.toNat/2^(min q.toNat 64))).toNat:Int)) w
  rw [e]
  simp [binOp,Op.shift,this,IntKind.bits,Int.fdiv_eq_ediv_of_nonneg _ aq]
theorem ON[aW]{p q:UInt64}(h1:aU L x=some (gy p))(aq:aU L y=some (gy q)):bL P n w0 zs hs L ⟨d,.binOp .gtr t x y bZ,ty,pos,af,g⟩ (.bool (decide (q<p))):=
 e0 h1 aq gF fun w=>by
  simp [binOp,Op.intCmp,UInt64.lt_iff_toNat_lt]
theorem sf[aW]{k:IntKind}{p q:Int}{iH:IntKind}{d1 d2:TypeDesc}{s1 b6 s2 dk:Nat}{hR z2:Value}(aM:a1 P t d1 s1 b6 hR)(gh:a1 P bZ d2 s2 dk z2)(qC:d1=.int k)(qD:d2=.int iH)(h1:aU L x=some (.int k p))(cn:iH.wrap p=q) :
  bL P n w0 zs hs L ⟨d,.convert t bZ x,ty,pos,af,g⟩ (.int iH q):=
 eC fun a a7 w _=>by
  have bK:=run_underlying aM.und (w:=w)
  have bV:=run_underlying gh.und (w:=w)
  subst qC qD
  simp only [execOp,a7.eval h1]
  simp [convert,bK,bV,Conv.intToInt,cn]
theorem qW[aW]{p:Int}{s1 b6 s2 dk:Nat}{hR z2:Value}(aM:a1 P t (.int .i64) s1 b6 hR)(gh:a1 P bZ (.int .u8) s2 dk z2)(h1:aU L x=some (az p)) :
  bL P n w0 zs hs L ⟨d,.convert t bZ x,ty,pos,af,g⟩ (bf (hb p)):=
 sf aM gh rfl rfl h1 (by rw [qU,wrap_u8])
theorem yU[aW]{p:Int}{s1 b6 s2 dk:Nat}{hR z2:Value}(aM:a1 P t (.int .i64) s1 b6 hR)(gh:a1 P bZ (.int .u64) s2 dk z2)(h1:aU L x=some (az p)) :
  bL P n w0 zs hs L ⟨d,.convert t bZ x,ty,pos,af,g⟩ (gy (di p)):=
 sf aM gh rfl rfl h1 (by rw [mD,wrap_u64])
theorem yS[aW]{p:UInt8}{s1 b6 s2 dk:Nat}{hR z2:Value}(aM:a1 P t (.int .u8) s1 b6 hR)(gh:a1 P bZ (.int .i64) s2 dk z2)(h1:aU L x=some (bf p)) :
  bL P n w0 zs hs L ⟨d,.convert t bZ x,ty,pos,af,g⟩ (az (p.toNat)):=
 sf aM gh rfl rfl h1 (IntWalk.i64_in _ (by have:=uA p;omega))
theorem yT[aW]{p:UInt8}{s1 b6 s2 dk:Nat}{hR z2:Value}(aM:a1 P t (.int .u8) s1 b6 hR)(gh:a1 P bZ (.int .u32) s2 dk z2)(h1:aU L x=some (bf p)) :
  bL P n w0 zs hs L ⟨d,.convert t bZ x,ty,pos,af,g⟩ (cx (k1 (p.toNat:Int))):=
 sf aM gh rfl rfl h1 (by rw [B8,wrap_u32])
theorem ado[aW]{p:UInt8}{s1 b6 s2 dk:Nat}{hR z2:Value}(aM:a1 P t (.int .u8) s1 b6 hR)(gh:a1 P bZ (.int .u64) s2 dk z2)(h1:aU L x=some (bf p)) :
  bL P n w0 zs hs L ⟨d,.convert t bZ x,ty,pos,af,g⟩ (gy (di (p.toNat:Int))):=
 sf aM gh rfl rfl h1 (by rw [mD,wrap_u64])
theorem OJ[aW]{p:UInt32}{s1 b6 s2 dk:Nat}{hR z2:Value}(aM:a1 P t (.int .u32) s1 b6 hR)(gh:a1 P bZ (.int .u8) s2 dk z2)(h1:aU L x=some (cx p)) :
  bL P n w0 zs hs L ⟨d,.convert t bZ x,ty,pos,af,g⟩ (bf (hb (p.toNat:Int))):=
 sf aM gh rfl rfl h1 (by rw [qU,wrap_u8])
theorem Cf[aW]{p:UInt64}{s1 b6 s2 dk:Nat}{hR z2:Value}(aM:a1 P t (.int .u64) s1 b6 hR)(gh:a1 P bZ (.int .i64) s2 dk z2)(h1:aU L x=some (gy p)) :
  bL P n w0 zs hs L ⟨d,.convert t bZ x,ty,pos,af,g⟩ (az (nO p)):=
 sf aM gh rfl rfl h1 (by have:=p8 p;rw [IntKind.wrap_i64];unfold nO;split <;> omega)
theorem Hc[aW]{p:UInt64}{s1 b6 s2 dk:Nat}{hR z2:Value}(aM:a1 P t (.int .u64) s1 b6 hR)(gh:a1 P bZ (.int .u8) s2 dk z2)(h1:aU L x=some (gy p)) :
  bL P n w0 zs hs L ⟨d,.convert t bZ x,ty,pos,af,g⟩ (bf (hb (p.toNat:Int))):=
 sf aM gh rfl rfl h1 (by rw [qU,wrap_u8])
theorem Te(a b:List UInt8):cP a++cP b=cP (a++b):=by
 apply ByteArray.ext
 simp [cP,ByteArray.data_append]
theorem Ce[aW]{p q:List UInt8}(h1:aU L x=some (vs p))(aq:aU L y=some (vs q))(au:p.length+q.length≤9223372036854775807) :
  bL P n w0 zs hs L ⟨d,.binOp .add t x y bZ,ty,pos,af,g⟩ (vs (p++q)):=
 e0 h1 aq u9 fun w=>by
  have hm:IntKind.i64.max=9223372036854775807:=by decide
  have:¬ ((((cP p).size+(cP q).size:Nat):Int)>IntKind.i64.max):=by rw [hm];simp [ByteArray.size];omega
  simp only [binOp,Op.stringOp]
  rw [if_neg this,Te]
  rfl
theorem vX[aW]{p q:List UInt8}(h1:aU L x=some (vs p))(aq:aU L y=some (vs q)):bL P n w0 zs hs L ⟨d,.binOp .eql t x y bZ,ty,pos,af,g⟩ (.bool (decide (p=q))):=
 e0 h1 aq u9 fun w=>by
  have:(p == q)=decide (p=q):=by rw [Bool.eq_iff_iff];simp
  simp [binOp,Op.stringOp,this]
theorem qX[aW]{p q:List UInt8}(h1:aU L x=some (vs p))(aq:aU L y=some (vs q)):bL P n w0 zs hs L ⟨d,.binOp .neq t x y bZ,ty,pos,af,g⟩ (.bool (!decide (p=q))):=
 e0 h1 aq u9 fun w=>by
  have:(p == q)=decide (p=q):=by rw [Bool.eq_iff_iff];simp
  simp [binOp,Op.stringOp,this]
theorem adP[aW]{p q:List UInt8}(h1:aU L x=some (vs p))(aq:aU L y=some (vs q)):bL P n w0 zs hs L ⟨d,.binOp .lss t x y bZ,ty,pos,af,g⟩ (.bool (Op.bytesLess p q)):=
 e0 h1 aq u9 fun w=>by simp [binOp,Op.stringOp]
theorem UO(bM:Nat){p q:Bool}(hu:P.underlying t=some .bool)(w:World):(Op.equalIn (bM+1) t (.bool p) (.bool q)).run P w=.ok (p == q) w:=by
 simp [Op.equalIn,run_underlying hu]
theorem adS[aW]{p q:Bool}{s b:Nat}{zv:Value}(aM:a1 P t .bool s b zv)(h1:aU L x=some (.bool p))(aq:aU L y=some (.bool q)):bL P n w0 zs hs L ⟨d,.binOp .neq t x y bZ,ty,pos,af,g⟩ (.bool (!(p == q))):=
 e0 h1 aq UN fun w=>by
  simp only [binOp]
  simp [Op.equal,Op.maxDepth,UO 9999 aM.und w]
end
end Go.aJ
end
section
namespace Go.aJ
structure dO (α:Type) where
 size:Nat
 rep:aP→α→List Value→Prop
 mono:∀ {z z':aP}{x:α}{c:List Value},z.le z'→rep z x c→rep z' x c
 len:∀ {z:aP}{x:α}{c:List Value},rep z x c→c.length=size
 one:∀ {z:aP}{x:α}{c:List Value},rep z x c→∀ u∈c,u.oneCell'=true
def c6(v:Value)(k:Nat):Value:=
 match v with
 | .slice (some a) _ _=>.pointer (some (a.add k))
 | _=>undef
def bg{α:Type}(E:dO α)(z:aP)(v:Value)(xs:List α):Prop:=
 xs.length≤140737488355328∧∃ a c,v=.slice a xs.length c∧xs.length≤c ∧
  ∀ (i:Nat) (x:α),xs[i]?=some x→∃ b off cs ty fz dx,a=some ⟨b,off,none⟩∧z b=some (.cells cs ty fz)∧E.rep z x dx∧∀ j u,dx[j]?=some u→cs[off+i*E.size+j]?=some u
theorem bg.mono{α:Type}{E:dO α}{z z':aP}{v:Value}{xs:List α}(bj:z.le z')(h:bg E z v xs):bg E z' v xs:=by
 obtain ⟨au,a,c,rfl,bu,h⟩:=h
 refine ⟨au,a,c,rfl,bu,fun i x aL=>?_⟩
 obtain ⟨b,off,cs,ty,fz,dx,h1,aq,aQ,bH⟩:=h i x aL
 exact ⟨b,off,cs,ty,fz,dx,h1,bj _ _ aq,E.mono bj aQ,bH⟩
def kR{α:Type}(f:α→Value)(p:α→Prop)(h0:∀ x,(f x).oneCell'=true):dO α where
 size:=1
 rep _ x c:=c=[f x]∧p x
 mono _ h:=h
 len h:=by rw [h.1];rfl
 one h u hu:=by rw [h.1] at hu;simp only [List.mem_singleton] at hu;subst hu;exact h0 _
def encI:dO Int:=kR az (fun x => -9223372036854775808≤x∧x≤9223372036854775807) fun _=>rfl
def gE:dO UInt8:=kR bf (fun _=>True) fun _=>rfl
def ai2:dO UInt32:=kR cx (fun _=>True) fun _=>rfl
def ru:dO Bool:=kR iD (fun _=>True) fun _=>rfl
def encS:dO (List UInt8):=kR vs (fun s=>s.length≤140737488355328) fun _=>rfl
def u6{α:Type}(E:dO α):dO (List α) where
 size:=1
 rep z x c:=∃ v,c=[v]∧bg E z v x
 mono bj h:=by obtain ⟨v,h1,aq⟩:=h;exact ⟨v,h1,aq.mono bj⟩
 len h:=by obtain ⟨v,h1,_⟩:=h;rw [h1];rfl
 one h u hu:=by
  obtain ⟨v,h1,_,a,c,aq,_⟩:=h
  rw [h1,aq] at hu
  simp only [List.mem_singleton] at hu
  rw [hu];rfl
def oR(m:Nat):dO (List UInt8) where
 size:=m
 rep _ x c:=x.length=m∧c=x.map bf
 mono _ h:=h
 len h:=by rw [h.2,List.length_map,h.1]
 one h u hu:=by rw [h.2] at hu;obtain ⟨x,_,rfl⟩:=List.mem_map.1 hu;rfl
def gp(w0:World)(zs:List aP)(z:aP):Prop:=z=b1 w0∨z∈zs
theorem aC.le{w0 zs hs w z}(h:aC w0 zs hs w)(bj:gp w0 zs z):z.le (b1 w):=by
 rcases bj with rfl | bj
 ·exact h.ext
 ·exact (h.zone z bj).1
theorem cD{w0:World}{zs:List aP}:gp w0 zs (b1 w0):=.inl rfl
def nU(z:aP)(p:Value)(m:Nat):List Value:=
 match p with
 | .pointer (some ⟨b,off,_⟩)=>match z b with
  | some (.cells cs _ _)=>(cs.toList.drop off).take m
  | _=>[]
 | _=>[]
theorem fm(b o n:Nat):(⟨b,o,none⟩:Addr).add n=⟨b,o+n,none⟩:=Addr.add_lit b o n
theorem bg.at{α:Type}{E:dO α}{z:aP}{v:Value}{xs:List α}(h:bg E z v xs){i:Nat}{x:α}(aL:xs[i]?=some x) :
  ∃ b off cs ty fz dx,c6 v (i*E.size)=.pointer (some ⟨b,off,none⟩)∧z b=some (.cells cs ty fz)∧E.rep z x dx∧(∀ j u,dx[j]?=some u→cs[off+j]?=some u):=by
 obtain ⟨_,a,c,rfl,_,h⟩:=h
 obtain ⟨b,off,cs,ty,fz,dx,rfl,aq,aQ,bH⟩:=h i x aL
 exact ⟨b,off+i*E.size,cs,ty,fz,dx,by simp [c6,fm],aq,aQ,bH⟩
theorem bg.rep{α:Type}{E:dO α}{z:aP}{v:Value}{xs:List α}(h:bg E z v xs){i:Nat}{x:α}(aL:xs[i]?=some x) :
  E.rep z x (nU z (c6 v (i*E.size)) E.size):=by
 obtain ⟨b,off,cs,ty,fz,dx,h1,aq,aQ,bH⟩:=h.at aL
 have hl:=E.len aQ
 have:nU z (c6 v (i*E.size)) E.size=dx:=by
  simp only [h1,nU,aq]
  apply List.ext_getElem?
  intro j
  rw [List.getElem?_take,List.getElem?_drop]
  split
  ·rename_i a6
   have rR:j<dx.length:=by omega
   have:=bH j dx[j] (by simp [rR])
   simp [rR,this]
  ·rename_i a6
   rw [List.getElem?_eq_none (by omega)]
 rw [this]
 exact aQ
section
variable {P:Program}{n:Nat}{w0:World}{zs:List aP}{hs:List av}{L:List (Nat×Value)}{d:Option Tmp}{ty t bZ:TypeId}{pos:String}{af:Array Edge}{g:Option (Nat×Bool)}
variable {x y c nI nJ ki:Operand}{u v:Value}
theorem a1.info{P:Program}{t:TypeId}{bM:TypeDesc}{s b:Nat}{z:Value}(h:a1 P t bM s b z):∃ i,P.info? t=some i∧i.size=s∧i.bytes=b∧i.zero=some z:=by
 have:=h.inf
 cases aG:P.info? t with
 | none=>simp [aG] at this
 | some i=>
  simp [aG] at this
  exact ⟨i,rfl,this.1,this.2.1,this.2.2⟩
theorem a1.sizeOf{P:Program}{t:TypeId}{bM:TypeDesc}{s b:Nat}{z:Value}(h:a1 P t bM s b z)(w:World):(Go.sizeOf t).run P w=.ok s w:=by
 obtain ⟨i,h1,aq,_⟩:=h.info
 simp [Go.sizeOf,typeInfo,h1,aq]
theorem a1.zero{P:Program}{t:TypeId}{bM:TypeDesc}{s b:Nat}{z:Value}(h:a1 P t bM s b z)(w:World):(zeroValue t).run P w=.ok z w:=by
 obtain ⟨i,h1,aq,aQ,bH⟩:=h.info
 simp [zeroValue,typeInfo,h1,bH]
theorem a1.QG{P:Program}{t:TypeId}{bM:TypeDesc}{s b:Nat}{z:Value}(h:a1 P t bM s b z)(w:World):∃ i,(typeInfo t).run P w=.ok i w∧i.size=s∧i.bytes=b∧i.zero=some z:=by
 obtain ⟨i,h1,aq⟩:=h.info
 exact ⟨i,by simp [typeInfo,h1],aq⟩
def eV:TypeDesc→Bool
 | .struct _ | .array _ _=>true
 | _=>false
theorem a1.isAgg{P:Program}{t:TypeId}{bM:TypeDesc}{s b:Nat}{z:Value}(h:a1 P t bM s b z)(w:World):(Go.isAgg t).run P w=.ok (eV bM) w:=by
 unfold Go.isAgg
 rw [Sem.run_bind,run_underlying h.und]
 cases bM <;> simp [eV]
theorem uy{bM:TypeDesc}{s bp:Nat}{z:Value}(aM:a1 P t bM s bp z)(aT:eV bM=false){w:World}{a:Addr}(h:w.cell? a=some v):(loadVar t a).run P w=.ok v w:=by
 unfold loadVar
 rw [Sem.run_bind,aM.isAgg]
 simp [aT,h]
theorem wo{bM:TypeDesc}{s bp:Nat}{z:Value}(aM:a1 P t bM s bp z)(aT:eV bM=true){w:World}{b off:Nat}{cs:Array Value}{bt:TypeId}{fz:Nat×Nat}(h:w.heap[b]?=some (.cells cs bt fz))(hs:off+s≤cs.size) :
  (loadVar t ⟨b,off,none⟩).run P w=.ok (.agg ((cs.toList.drop off).take s).toArray) w:=by
 have hl:(loadCells ⟨b,off,none⟩ ((cs.toList.drop off).take s).length).run P w=.ok ((cs.toList.drop off).take s).toArray w:=
  run_loadCells_list (P:=P) w ⟨b,off,none⟩ _ (fun j v bx=>by
   rw [fm,cell_of_row w b _ cs bt fz h]
   rw [List.getElem?_take,List.getElem?_drop] at bx
   split at bx
   ·simpa using bx
   ·cases bx)
 have hlen:((cs.toList.drop off).take s).length=s:=by simp;omega
 rw [hlen] at hl
 unfold loadVar
 rw [Sem.run_bind,aM.isAgg]
 simp [aT,aM.sizeOf,hl]
theorem bc[aW]{bM:TypeDesc}{s bp:Nat}{zv:Value}(aM:a1 P t bM s bp zv)(k:Nat){b off:Nat}{bt:TypeId}{cs:List Value}(h1:aU L x=some (.pointer (some ⟨b,off,none⟩)))(aD:hs[k]?=some (.blk b bt cs))(bx:cs[off]?=some v)(aT:eV bM=false) :
  bL P n w0 zs hs L ⟨d,.load t x,ty,pos,af,g⟩ v:=
 eC fun a a7 w hw=>by
  have au:=(hw.own _ (List.mem_of_getElem? aD)).1.2
  have bu:w.cell? ⟨b,off,none⟩=some v:=by rw [cell_of_row w b off _ bt _ au];simpa using bx
  simp only [execOp,a7.eval h1]
  simp [Instr.loadAt,Instr.sureAddr,uy aM aT bu]
theorem yW[aW]{bM:TypeDesc}{s bp:Nat}{zv:Value}(aM:a1 P t bM s bp zv)(k:Nat){b off:Nat}{bt:TypeId}{cs c:List Value}(h1:aU L x=some (.pointer (some ⟨b,off,none⟩)))(aD:hs[k]?=some (.blk b bt cs))(bx:(cs.drop off).take s=c)(hl:off+s≤cs.length)(aT:eV bM=true) :
  bL P n w0 zs hs L ⟨d,.load t x,ty,pos,af,g⟩ (.agg c.toArray):=
 eC fun a a7 w hw=>by
  have au:=(hw.own _ (List.mem_of_getElem? aD)).1.2
  have:=wo aM aT au (off:=off) (by simpa using hl)
  simp only [bx] at this
  simp only [execOp,a7.eval h1]
  simp [Instr.loadAt,Instr.sureAddr,this]
theorem iC[aW]{bM:TypeDesc}{s bp:Nat}{zv:Value}(aM:a1 P t bM s bp zv){b off:Nat}{bt:TypeId}{cs:Array Value}{fz:Nat×Nat}(h1:aU L x=some (.pointer (some ⟨b,off,none⟩)))(aD:w0.heap[b]?=some (.cells cs bt fz))(bx:cs[off]?=some v)(aT:eV bM=false) :
  bL P n w0 zs hs L ⟨d,.load t x,ty,pos,af,g⟩ v:=
 eC fun a a7 w hw=>by
  have au:=hw.ext _ _ aD
  have bu:w.cell? ⟨b,off,none⟩=some v:=by rw [cell_of_row w b off _ bt _ au];simpa using bx
  simp only [execOp,a7.eval h1]
  simp [Instr.loadAt,Instr.sureAddr,uy aM aT bu]
theorem adC[aW]{bM:TypeDesc}{s bp:Nat}{zv:Value}(aM:a1 P t bM s bp zv){b off:Nat}{bt:TypeId}{cs:Array Value}{fz:Nat×Nat}{c:List Value}(h1:aU L x=some (.pointer (some ⟨b,off,none⟩)))(aD:w0.heap[b]?=some (.cells cs bt fz))(bx:(cs.toList.drop off).take s=c)(hl:off+s≤cs.size)(aT:eV bM=true) :
  bL P n w0 zs hs L ⟨d,.load t x,ty,pos,af,g⟩ (.agg c.toArray):=
 eC fun a a7 w hw=>by
  have au:=hw.ext _ _ aD
  have:=wo aM aT au hl
  simp only [bx] at this
  simp only [execOp,a7.eval h1]
  simp [Instr.loadAt,Instr.sureAddr,this]
theorem aV[aW]{fs:Array Field}{s bp:Nat}{zv:Value}(aM:a1 P t (.struct fs) s bp zv){b off k:Nat}{f:Field}{s':Nat}(h1:aU L x=some (.pointer (some ⟨b,off,none⟩)))(bw:fs[k]?=some f)(dZ:(P.info? f.type).map (·.size)=some (s'+1)) :
  bL P n w0 zs hs L ⟨d,.fieldAddr t x k,ty,pos,af,g⟩ (.pointer (some ⟨b,off+f.offset,none⟩)):=
 eC fun a a7 w hw=>by
  have dZ:(sizeOf f.type).run P w=.ok (s'+1) w:=by
   cases aG:P.info? f.type with
   | none=>simp [aG] at dZ
   | some i=>simp [aG] at dZ;simp [sizeOf,typeInfo,aG,dZ]
  simp only [execOp,a7.eval h1]
  simp [Instr.fieldAt,Instr.sureAddr,run_underlying aM.und,bw,fieldPlace,dZ,fm]
theorem fV[aW]{m:Nat}{e:TypeId}{s bp:Nat}{zv:Value}(aM:a1 P t (.array m e) s bp zv){de:TypeDesc}{se be:Nat}{ze:Value}(cg:a1 P e de se be ze){b off:Nat}{i:Int}{k:IntKind}(h1:aU L x=some (.pointer (some ⟨b,off,none⟩)))(aq:aU L y=some (.int k i))(au:0≤i∧i<m) :
  bL P n w0 zs hs L ⟨d,.indexAddr t x y,ty,pos,af,g⟩ (.pointer (some ⟨b,off+i.toNat*se,none⟩)):=
 eC fun a a7 w hw=>by
  simp only [execOp,a7.eval h1,a7.eval aq]
  simp [Instr.indexAt,Instr.sureAddr,asIntOf,run_underlying aM.und,au,cg.sizeOf,fm]
theorem dG[aW]{α:Type}{E:dO α}{z:aP}{xs:List α}{e:TypeId}{s bp:Nat}{zv:Value}(aM:a1 P t (.slice e) s bp zv){de:TypeDesc}{be:Nat}{ze:Value}(cg:a1 P e de E.size be ze){i:Int}{k:IntKind}(U:bg E z v xs)(h1:aU L x=some v)(aq:aU L y=some (.int k i))(au:0≤i∧i<xs.length) :
  bL P n w0 zs hs L ⟨d,.indexAddr t x y,ty,pos,af,g⟩ (c6 v (i.toNat*E.size)):=
 eC fun a a7 w hw=>by
  obtain ⟨_,gK,hG,rfl,_,h⟩:=U
  have aG:i.toNat<xs.length:=by omega
  obtain ⟨b,off,cs,lI,fz,dx,rfl,_⟩:=h i.toNat xs[i.toNat] (by simp [aG])
  simp only [execOp,a7.eval h1,a7.eval aq]
  simp [Instr.indexAt,asIntOf,run_underlying aM.und,au,cg.sizeOf,fm,c6]
theorem Hf[aW]{α:Type}{f:α→Value}{p:α→Prop}{h0:∀ x,(f x).oneCell'=true}{z:aP}{xs:List α}{bM:TypeDesc}{s bp:Nat}{zv:Value}(aM:a1 P t bM s bp zv)(aT:eV bM=false){k:Nat}{e:α}(U:bg (kR f p h0) z v xs)(bj:gp w0 zs z)(h1:aU L x=some (c6 v (k*1)))(aD:xs[k]?=some e) :
  bL P n w0 zs hs L ⟨d,.load t x,ty,pos,af,g⟩ (f e):=
 eC fun a a7 w hw=>by
  obtain ⟨b,off,cs,lI,fz,dx,bN,fK,aY,bu⟩:=U.at aD
  have au:=hw.le bj _ _ fK
  have m4:w.cell? ⟨b,off,none⟩=some (f e):=by
   rw [cell_of_row w b off _ lI _ au]
   have:=bu 0 (f e) (by rw [aY.1];rfl)
   simpa using this
  have he:a.eval x=.pointer (some ⟨b,off,none⟩):=(a7.eval h1).trans bN
  simp only [execOp,he]
  simp [Instr.loadAt,Instr.sureAddr,uy aM aT m4]
theorem sh[aW]{z:aP}{xs:List Int}{bM:TypeDesc}{s bp:Nat}{zv:Value}(aM:a1 P t bM s bp zv){k:Nat}(U:bg encI z v xs)(bj:gp w0 zs z)(h1:aU L x=some (c6 v (k*1)))(aT:eV bM=false)(aD:k<xs.length) :
  bL P n w0 zs hs L ⟨d,.load t x,ty,pos,af,g⟩ (az (xs.getD k 0)):=
 Hf aM aT U bj h1 (by simp [aD])
theorem mH[aW]{z:aP}{xs:List UInt8}{bM:TypeDesc}{s bp:Nat}{zv:Value}(aM:a1 P t bM s bp zv){k:Nat}(U:bg gE z v xs)(bj:gp w0 zs z)(h1:aU L x=some (c6 v (k*1)))(aT:eV bM=false)(aD:k<xs.length) :
  bL P n w0 zs hs L ⟨d,.load t x,ty,pos,af,g⟩ (bf (xs.getD k 0)):=
 Hf aM aT U bj h1 (by simp [aD])
theorem si[aW]{z:aP}{xs:List (List UInt8)}{bM:TypeDesc}{s bp:Nat}{zv:Value}(aM:a1 P t bM s bp zv){k:Nat}(U:bg encS z v xs)(bj:gp w0 zs z)(h1:aU L x=some (c6 v (k*1)))(aT:eV bM=false)(aD:k<xs.length) :
  bL P n w0 zs hs L ⟨d,.load t x,ty,pos,af,g⟩ (vs (xs.getD k [])):=
 Hf aM aT U bj h1 (by simp [aD])
def elemV(z:aP)(v:Value)(k:Nat):Value:=((nU z (c6 v (k*1)) 1)[0]?).getD undef
theorem Kw{α:Type}{E:dO α}{z:aP}{v:Value}{xs:List (List α)}{k:Nat}(U:bg (u6 E) z v xs)(aD:k<xs.length):bg E z (elemV z v k) (xs.getD k []):=by
 have aL:xs[k]?=some (xs.getD k []):=by simp [aD]
 obtain ⟨u,h1,aq⟩:=U.rep aL
 have:(u6 E).size=1:=rfl
 simp only [this] at h1
 unfold elemV
 rw [h1]
 exact aq
theorem OR[aW]{α:Type}{E:dO α}{z:aP}{xs:List (List α)}{bM:TypeDesc}{s bp:Nat}{zv:Value}(aM:a1 P t bM s bp zv){k:Nat}(U:bg (u6 E) z v xs)(bj:gp w0 zs z)(h1:aU L x=some (c6 v (k*1)))(aT:eV bM=false)(aD:k<xs.length) :
  bL P n w0 zs hs L ⟨d,.load t x,ty,pos,af,g⟩ (elemV z v k):=
 eC fun a a7 w hw=>by
  have aL:xs[k]?=some (xs.getD k []):=by simp [aD]
  obtain ⟨b,off,cs,lI,fz,dx,bN,fK,aY,bu⟩:=U.at aL
  have au:=hw.le bj _ _ fK
  obtain ⟨u,hu,_⟩:=aY
  have h0:=bu 0 u (by rw [hu];rfl)
  have tE:elemV z v k=u:=by
   unfold elemV
   have Za:c6 v (k*1)=.pointer (some ⟨b,off,none⟩):=bN
   simp only [Za,nU,fK]
   rw [List.getElem?_take,List.getElem?_drop]
   simp at h0
   simp [h0]
  have m4:w.cell? ⟨b,off,none⟩=some u:=by
   rw [cell_of_row w b off _ lI _ au]
   simpa using h0
  have he:a.eval x=.pointer (some ⟨b,off,none⟩):=(a7.eval h1).trans bN
  simp only [execOp,he]
  simp [Instr.loadAt,Instr.sureAddr,uy aM aT m4,tE]
theorem Hg[aW]{α:Type}{E:dO α}{z:aP}{xs:List α}{bM:TypeDesc}{bp:Nat}{zv:Value}(aM:a1 P t bM E.size bp zv){k m:Nat}(hm:m=k*E.size)(h0:0<E.size)(U:bg E z v xs)(bj:gp w0 zs z)(h1:aU L x=some (c6 v m))(aT:eV bM=true)(aD:k<xs.length) :
  bL P n w0 zs hs L ⟨d,.load t x,ty,pos,af,g⟩ (.agg (nU z (c6 v (k*E.size)) E.size).toArray):=
 eC fun a a7 w hw=>by
  subst hm
  have aL:xs[k]?=some xs[k]:=by simp [aD]
  obtain ⟨b,off,cs,lI,fz,dx,bN,fK,aY,bu⟩:=U.at aL
  have au:=hw.le bj _ _ fK
  have hlen:=E.len aY
  have qE:off+E.size≤cs.size:=by
   have:=bu (E.size-1) (dx[E.size-1]'(by omega)) (by simp)
   have:=(Array.getElem?_eq_some_iff.1 this).1
   omega
  have:=wo aM aT au qE
  have he:a.eval x=.pointer (some ⟨b,off,none⟩):=(a7.eval h1).trans bN
  have X7:nU z (c6 v (k*E.size)) E.size=(cs.toList.drop off).take E.size:=by simp only [bN,nU,fK]
  simp only [execOp,he]
  simp [Instr.loadAt,Instr.sureAddr,this,X7]
end
end Go.aJ
end
section
namespace Go.aJ
def e7[aW](P:Program)(n:Nat)(w0:World)(zs:List aP)(hs:List av)(L:List (Nat×Value))(o:Oper)(K:Value→List aP→List av→Prop):Prop:=
 ∀ a,Fr n L a→∀ w,aC w0 zs hs w→∀ (next:Act→World→Prop) (Q:Exit→Act→World→Prop),
  (∀ v zs' hs' w',K v zs' hs'→aC w0 zs' hs' w'→next (a.put o.dst v) w')→o.wp P a w next Q
section
variable {P:Program}{n:Nat}{w0:World}{zs:List aP}{hs:List av}{L:List (Nat×Value)}{d:Option Tmp}{ty t bZ:TypeId}{pos:String}{af:Array Edge}{g:Option (Nat×Bool)}
variable {x y c nI nJ ki:Operand}{u v:Value}{ops:Array Oper}{rest:List Oper}
theorem ahr[aW]{op:Op}{Q:Exit→Act→World→Prop}{a:Act}{w:World}{K:Value→List aP→List av→Prop}(ab:Fr n L a)(U:aC w0 zs hs w)(aT:(match d with | some k=>Nat.blt k n | none=>true)=true)(e:e7 P n w0 zs hs L ⟨d,op,ty,pos,af,none⟩ K)
  (h:∀ v zs' hs' a w,K v zs' hs'→Fr n (kL d v L) a→aC w0 zs' hs' w→wpList P ops Q rest a w):wpList P ops Q (⟨d,op,ty,pos,af,none⟩::rest) a w:=by
 unfold wpList
 rw [if_pos (show Region.wanted ⟨d,op,ty,pos,af,none⟩ (yielded ops a.tmps)=true from rfl)]
 refine .inl (e a ab w U _ _ fun v zs' hs' w' dE ju=>h v zs' hs' _ w' dE (ab.up ?_) ju)
 cases d with
 | none=>trivial
 | some k=>exact Nat.blt_eq.mp aT
theorem jD[aW]{o:Oper}{K:Value→List aP→List av→Prop}(h:∀ a,Fr n L a→∀ w,aC w0 zs hs w→∃ v zs' hs' w',((execOp a.eval o).run P w=.ok (.value v) w'∨((execOp a.eval o).run P w=.ok .skip w'∧v=undef))∧K v zs' hs'∧aC w0 zs' hs' w'):e7 P n w0 zs hs L o K:=by
 intro a a7 w hw next Q bA
 obtain ⟨v,zs',hs',w',aY,dE,U⟩:=h a a7 w hw
 unfold Oper.wp
 rcases aY with aY | ⟨aY,rfl⟩ <;> rw [aY] <;> exact bA _ _ _ _ dE U
theorem Kr[aW]{bM:TypeDesc}{s bp:Nat}{zv:Value}(aM:a1 P t bM s bp zv) :
  e7 P n w0 zs hs L ⟨d,.alloc t,ty,pos,af,g⟩ (fun v zs' hs'=>∃ b,v=.pointer (some ⟨b,0,none⟩)∧zs'=zs∧hs'=.blk b t zv.cells.toList::hs):=
 jD fun a a7 w hw=>⟨_,_,_,_,.inl (by
   simp only [execOp]
   simp [Instr.alloc,aM.zero,newVar,newRow]
   rfl),⟨w.heap.size,rfl,rfl,rfl⟩,by simpa using hw.new t zv.cells.toList⟩
theorem Ks[aW](h1:aU L x=some v) :
  e7 P n w0 zs hs L ⟨d,.box t x,ty,pos,af,g⟩ (fun dd zs' hs'=>∃ b,dd=.pointer (some ⟨b,0,none⟩)∧zs'=zs∧hs'=.blk b t v.cells.toList::hs):=
 jD fun a a7 w hw=>⟨_,_,_,_,.inl (by
   simp only [execOp,a7.eval h1]
   simp [Instr.box,newVar,newRow]
   rfl),⟨w.heap.size,rfl,rfl,rfl⟩,by simpa using hw.new t v.cells.toList⟩
theorem c1[aW]{bM:TypeDesc}{s bp:Nat}{cs:List Value}(aM:a1 P t bM s bp (.agg cs.toArray)) :
  e7 P n w0 zs hs L ⟨d,.alloc t,ty,pos,af,g⟩ (fun v zs' hs'=>∃ b,v=.pointer (some ⟨b,0,none⟩)∧zs'=zs∧hs'=.blk b t cs::hs):=
 Kr aM
theorem u4[aW]{bM:TypeDesc}{bp:Nat}{zv:Value}(aM:a1 P t bM 1 bp zv)(cB:zv.oneCell'=true) :
  e7 P n w0 zs hs L ⟨d,.alloc t,ty,pos,af,g⟩ (fun v zs' hs'=>∃ b,v=.pointer (some ⟨b,0,none⟩)∧zs'=zs∧hs'=.blk b t [zv]::hs):=by
 have bu:zv.cells.toList=[zv]:=by cases zv <;> first | rfl | (simp [Value.oneCell'] at cB)
 have:=Kr (P:=P) (n:=n) (w0:=w0) (zs:=zs) (hs:=hs) (L:=L) (d:=d) (ty:=ty) (pos:=pos) (af:=af) (g:=g) aM
 rwa [bu] at this
theorem iT[aW]{cs:List Value}(h1:aU L x=some (.agg cs.toArray)) :
  e7 P n w0 zs hs L ⟨d,.box t x,ty,pos,af,g⟩ (fun dd zs' hs'=>∃ b,dd=.pointer (some ⟨b,0,none⟩)∧zs'=zs∧hs'=.blk b t cs::hs):=
 Ks h1
theorem m0[aW](h1:aU L x=some v)(cB:v.oneCell'=true) :
  e7 P n w0 zs hs L ⟨d,.box t x,ty,pos,af,g⟩ (fun dd zs' hs'=>∃ b,dd=.pointer (some ⟨b,0,none⟩)∧zs'=zs∧hs'=.blk b t [v]::hs):=by
 have bu:v.cells.toList=[v]:=by cases v <;> first | rfl | (simp [Value.oneCell'] at cB)
 have:=Ks (P:=P) (n:=n) (w0:=w0) (zs:=zs) (hs:=hs) (L:=L) (d:=d) (ty:=ty) (t:=t) (pos:=pos) (af:=af) (g:=g) h1
 rwa [bu] at this
theorem aC.store{w0:World}{zs:List aP}{hs:List av}{w:World}(h:aC w0 zs hs w){k:Nat}{b off:Nat}{bt:TypeId}{cs c:List Value}(aD:hs[k]?=some (.blk b bt cs))(hl:off+c.length≤cs.length) :
  aC w0 zs (hs.set k (.blk b bt (cs.take off++c++cs.drop (off+c.length)))) (w.setRow b (cs.take off++c++cs.drop (off+c.length)).toArray):=by
 have au:=(h.own _ (List.mem_of_getElem? aD)).1
 refine h.set aD rfl (fun j a6=>setRow_other w b j _ (fun e=>a6 (by rw [← e];rfl))) ⟨au.1,?_⟩ (by simp) ⟨rfl,rfl,rfl⟩
 exact setRow_heap w b cs.toArray _ bt (0,0) au.2
theorem zj{bM:TypeDesc}{s bp:Nat}{zv:Value}(aM:a1 P t bM s bp zv){w:World}{b off:Nat}{bt:TypeId}{cs:List Value}(au:w.heap[b]?=some (.cells cs.toArray bt (0,0)))(bu:v.cells.size=s)(h1:∀ u∈v.cells,u.oneCell'=true)(hl:off+s≤cs.length) :
  (storeVar t ⟨b,off,none⟩ v).run P w=.ok () (w.setRow b (cs.take off++v.cells.toList++cs.drop (off+v.cells.toList.length)).toArray):=by
 have:=run_storeCells_at P b off bt v.cells.toList 0 cs.toArray w au (by simpa [bu] using hl) (by simpa using h1)
 simp only [Nat.add_zero] at this
 simp [storeVar,aM.sizeOf,bu,this]
theorem Ej[aW]{bM:TypeDesc}{s bp:Nat}{zv:Value}(aM:a1 P t bM s bp zv)(k:Nat){b off:Nat}{bt:TypeId}{cs c cs':List Value}(h1:aU L x=some (.pointer (some ⟨b,off,none⟩)))(aq:aU L y=some v)(aD:hs[k]?=some (.blk b bt cs))(bu:v.cells=c.toArray)(ig:c.length=s)(cB:∀ u∈c,u.oneCell'=true)(hl:off+s≤cs.length)(he:cs.take off++c++cs.drop (off+s)=cs') :
  e7 P n w0 zs hs L ⟨d,.store t x y,ty,pos,af,g⟩ (fun v zs' hs'=>v=undef∧zs'=zs∧hs'=hs.set k (.blk b bt cs')):=
 jD fun a a7 w hw=>by
  subst ig
  have au:=(hw.own _ (List.mem_of_getElem? aD)).1
  have aY:=zj (v:=v) aM au.2 (off:=off) (by rw [bu];simp) (by rw [bu];simpa using cB) hl
  rw [bu] at aY
  rw [← he]
  refine ⟨undef,zs,_,_,.inr ⟨?_,rfl⟩,⟨rfl,rfl,rfl⟩,hw.store aD hl⟩
  simp only [execOp,a7.eval h1,a7.eval aq]
  simp [Instr.storeAt,Instr.sureAddr,aY]
theorem c7[aW]{bM:TypeDesc}{bp:Nat}{zv:Value}(aM:a1 P t bM 1 bp zv)(k:Nat){b off:Nat}{bt:TypeId}{cs:List Value}(h1:aU L x=some (.pointer (some ⟨b,off,none⟩)))(aq:aU L y=some v)(aD:hs[k]?=some (.blk b bt cs))(cB:v.oneCell'=true)(hl:off<cs.length) :
  e7 P n w0 zs hs L ⟨d,.store t x y,ty,pos,af,g⟩ (fun dd zs' hs'=>dd=undef∧zs'=zs∧hs'=hs.set k (.blk b bt (cs.set off v))):=by
 have bu:v.cells=[v].toArray:=by cases v <;> first | rfl | (simp [Value.oneCell'] at cB)
 refine Ej (c:=[v]) aM k h1 aq aD bu rfl (by simpa using cB) hl ?_
 simp only [List.set_eq_take_append_cons_drop,if_pos hl,List.append_assoc,List.cons_append,List.nil_append]
theorem G2{α:Type}{E:dO α}{base:Nat}{w:World}{e:TypeId}{v:Value}{m:Nat}{cs:List Value}(h:w.ownsRow base e E.size v m cs){xs:List α}(hm:m=xs.length)(au:m≤140737488355328)
  (aY:∀ i x,xs[i]?=some x→∃ dx,E.rep (b1 w) x dx∧∀ j u,dx[j]?=some u→cs[i*E.size+j]?=some u):bg E (b1 w) v xs:=by
 subst hm
 refine ⟨au,?_⟩
 rcases h.2 with ⟨rfl,bA⟩ | ⟨b,cap,cur,rfl,au,aO,kE,nB,ig,kc⟩
 ·refine ⟨none,0,by rw [bA],by omega,fun i x aL=>?_⟩
  have:=(List.getElem?_eq_some_iff.1 aL).1
  omega
 ·refine ⟨some ⟨b,0,none⟩,cap,rfl,kE,fun i x aL=>?_⟩
  obtain ⟨dx,h1,aq⟩:=aY i x aL
  refine ⟨b,0,cur,e,(0,0),dx,rfl,aO,h1,fun j u hu=>?_⟩
  have aQ:=aq j u hu
  rw [← kc,List.getElem?_take] at aQ
  split at aQ
  ·simpa [Nat.zero_add] using aQ
  ·cases aQ
theorem k2{α:Type}{f:α→Value}{p:α→Prop}{h0:∀ x,(f x).oneCell'=true}{base:Nat}{w:World}{e:TypeId}{v:Value}{m:Nat}{xs:List α}(h:w.ownsRow base e 1 v m (xs.map f))(bN:∀ x∈xs,p x)(hm:m=xs.length)(au:m≤140737488355328):bg (kR f p h0) (b1 w) v xs:=
 G2 (E:=kR f p h0) h hm au fun i x aL=>⟨[f x],⟨rfl,bN x (List.mem_of_getElem? aL)⟩,fun j u hu=>by
  cases j with
  | zero=>simp only [List.getElem?_cons_zero,Option.some.injEq] at hu;subst hu;show (xs.map f)[i*1+0]?=_;simp [aL]
  | succ j=>simp at hu⟩
def sS(P:Program)(w0:World)(zs:List aP)(hs:List av)(size:Nat)(tx:TypeId)(x:Value)(m:Nat)(news:List Value):Prop:=
 ∀ w,aC w0 zs hs w→Src P size tx x m news w
theorem af4{tx:TypeId}{s bp:Nat}{zv:Value}(aM:a1 P tx .string s bp zv)(l:List UInt8):sS P w0 zs hs 1 tx (vs l) l.length (l.map bf):=by
 intro w _
 have:=Src.ofString (P:=P) w aM.und (cP l)
 have bK:byteCells (cP l)=l.map bf:=by simp [byteCells]
 have bV:(cP l).size=l.length:=by simp [ByteArray.size]
 rw [bK,bV] at this
 exact this
theorem Qx{α:Type}{E:dO α}{z:aP}{xs:List α}{tx e:TypeId}{s bp:Nat}{zv:Value}(aM:a1 P tx (.slice e) s bp zv)(U:bg E z v xs)(bj:gp w0 zs z)(cs:List Value)(hl:cs.length=xs.length*E.size)(h1:∀ u∈cs,u.oneCell'=true)
  (bu:∀ i x dx,xs[i]?=some x→E.rep z x dx→∀ j,j<E.size→cs[i*E.size+j]?=dx[j]?) (h0:0<E.size):sS P w0 zs hs E.size tx v xs.length cs:=by
 intro w hw
 obtain ⟨au,a,c,rfl,tL,h⟩:=U
 cases a with
 | none=>
  have aL:xs=[]:=by
   cases xs with
   | nil=>rfl
   | cons x xs=>obtain ⟨_,_,_,_,_,_,fB,_⟩:=h 0 x rfl;cases fB
  subst aL
  have:cs=[]:=List.eq_nil_of_length_eq_zero (by simpa using hl)
  subst this
  exact Src.ofNil w aM.und c
 | some ad=>
  refine Src.ofSlice w aM.und ad xs.length c cs hl (fun j u hu=>?_) h1
  have a6:j<cs.length:=(List.getElem?_eq_some_iff.1 hu).1
  have aG:j/E.size<xs.length:=by rw [hl] at a6;exact Nat.div_lt_of_lt_mul (by rwa [Nat.mul_comm])
  obtain ⟨b,off,cc,lI,fz,dx,fB,aq,aQ,bH⟩:=h (j/E.size) xs[j/E.size] (by simp [aG])
  simp only [Option.some.injEq] at fB
  subst fB
  have cN:=bu (j/E.size) _ dx (by simp [aG]) aQ (j%E.size) (Nat.mod_lt _ h0)
  have bK:j/E.size*E.size+j%E.size=j:=by rw [Nat.mul_comm];exact Nat.div_add_mod _ _
  rw [bK,hu] at cN
  have dq:=bH _ _ cN.symm
  rw [fm,cell_of_row w b _ cc lI fz (hw.le bj _ _ aq)]
  rw [← dq]
  congr 1
  omega
theorem CJ{α:Type}{f:α→Value}{p:α→Prop}{h0:∀ x,(f x).oneCell'=true}{z:aP}{xs:List α}{tx e:TypeId}{s bp:Nat}{zv:Value}(aM:a1 P tx (.slice e) s bp zv)(U:bg (kR f p h0) z v xs)(bj:gp w0 zs z):sS P w0 zs hs 1 tx v xs.length (xs.map f):=
 Qx (E:=kR f p h0) aM U bj (xs.map f) (by simp [kR]) (fun u hu=>by obtain ⟨y,_,rfl⟩:=List.mem_map.1 hu;exact h0 y) (fun i x dx aL aY j a6=>by
  have:j=0:=by simp [kR] at a6;omega
  subst this
  rw [aY.1]
  show (xs.map f)[i*1+0]?=_
  simp [aL]) Nat.one_pos
theorem eA{tx e eN:TypeId}{s bp size m:Nat}{zv:Value}(aM:a1 P tx (.slice e) s bp zv){k:Nat}{cs:List Value}(aD:hs[k]?=some (.row v eN size m cs))(h1:∀ u∈cs,u.oneCell'=true):sS P w0 zs hs size tx v m cs:=by
 intro w hw
 have h:=(hw.own _ (List.mem_of_getElem? aD)).1
 have hlen:=h.1
 rcases h.2 with ⟨rfl,bA⟩ | ⟨b,cap,cur,rfl,au,aO,kE,nB,ig,kc⟩
 ·subst bA
  have:cs=[]:=List.eq_nil_of_length_eq_zero (by simpa using hlen)
  subst this
  exact Src.ofNil w aM.und 0
 ·refine Src.ofSlice w aM.und ⟨b,0,none⟩ m cap cs hlen (fun j u hu=>?_) h1
  rw [fm,cell_of_row w b _ cur eN (0,0) aO]
  rw [← kc,List.getElem?_take] at hu
  split at hu
  ·simpa using hu
  ·cases hu
theorem ae7{base:Nat}{w:World}{e:TypeId}{de:TypeDesc}{size bp st bt:Nat}{zv zt:Value}(cg:a1 P e de size bp zv)(aM:a1 P t (.slice e) st bt zt)(Gs:zv.cells.size=size)(h0:0<size){m k:Nat}{xs news:List Value}{tx:TypeId}(eY:w.ownsRow base e size v m xs)(m6:Src P size tx u k news w)
  (au:(m+k)*bp≤140737488355328) (ajl:m+k≤140737488355328) (XZ:base≤w.heap.size) :
  ∃ dd w',(Builtin.append_ #[t,tx] ty #[v,u]).run P w=.ok dd w'∧w'.ownsRow base e size dd (m+k) (xs++news)∧w.grownBy w' v.ownBlock∧(∀ b,dd.ownBlock=some b→v.ownBlock=some b∨w.heap.size≤b):=by
 obtain ⟨i,aG,rfl,rfl,bj⟩:=cg.info
 have hlen:(xs++news).length=(m+k)*i.size:=by rw [List.length_append,eY.1,m6.newsLen,Nat.add_mul]
 have Bp:m+k≤maxLen:=by unfold maxLen;omega
 have grown:∀ (old:Nat),old<m+k→∀ (row:Option Nat),
   (w.drew.alloc (.cells ((xs++news).toArray++Builtin.zeroCells zv.cells (grownCap w (m+k) old e-(m+k))) e)).ownsRow base e i.size
    (.slice (some ⟨w.heap.size,0,none⟩) (m+k) (grownCap w (m+k) old e)) (m+k) (xs++news) ∧
   w.grownBy (w.drew.alloc (.cells ((xs++news).toArray++Builtin.zeroCells zv.cells (grownCap w (m+k) old e-(m+k))) e)) row:=by
  intro old cB row
  have mu:=grownCap_ge w (m+k) old e
  have nB:grownCap w (m+k) old e≤maxLen:=grownCap_le_maxLen w (m+k) old e Bp
  refine ⟨⟨hlen,.inr ⟨w.heap.size,_,_,rfl,XZ,heap_alloc_new w.drew _,mu,nB,?_,?_⟩⟩,⟨rfl,rfl,rfl,by simp,fun q cn _=>heap_alloc_old _ _ cn⟩⟩
  ·simp only [Array.size_append,List.size_toArray,size_zeroCells,Gs,hlen,← Nat.add_mul]
   congr 1
   omega
  ·simp only [Array.toList_append]
   rw [← hlen]
   exact List.take_left
 rcases eY.2 with ⟨rfl,rfl⟩ | ⟨b,cap,cur,rfl,vr,aO,kE,nB,ig,kc⟩
 ·have aL:xs=[]:=List.eq_nil_of_length_eq_zero (by simpa using eY.1)
  subst aL
  by_cases hm:k=0
  ·subst hm
   have bA:news=[]:=List.eq_nil_of_length_eq_zero (by simpa using m6.newsLen)
   subst bA
   refine ⟨.slice none 0 0,w,?_,World.ownsRow_nil w base e i.size,⟨rfl,rfl,rfl,Nat.le_refl _,fun _ _ _=>rfl⟩,fun b au=>.inl au⟩
   rcases m6.kind with ⟨eN,aD⟩ | aD <;> simp [Builtin.append_,run_underlying aM.und,run_underlying aD,sizeOf,typeInfo,aG,m6.len,m6.cells]
  ·have aY:=run_append_grow_src (P:=P) w t tx ty e i zv aM.und aG bj none 0 0 [] (run_firstCells_none w.drew i.size 0 0 0) u k news m6 (by omega) (by omega) (by have:=growslice_fits (bytes:=i.bytes) (need:=0+k) (old:=0) (by omega) au;exact this)
   have hj:=grown 0 (by omega) (Value.ownBlock (.slice none 0 0))
   exact ⟨_,_,aY,hj.1,hj.2,fun b au=>.inr (by simp [Value.ownBlock] at au;omega)⟩
 ·by_cases tV:m+k≤cap
  ·have qE:m*i.size+news.length≤cur.size:=by rw [m6.newsLen,ig,← Nat.add_mul];exact Nat.mul_le_mul_right _ tV
   have aY:(Builtin.append_ #[t,tx] ty #[.slice (some ⟨b,0,none⟩) m cap,u]).run P w =
     .ok (.slice (some ⟨b,0,none⟩) (m+k) cap) (w.setRow b (cur.toList.take (m*i.size)++news++cur.toList.drop (m*i.size+news.length)).toArray):=by
    have fJ:=run_storeCells_at P b (m*i.size) e news 0 cur w aO (by simpa using qE) m6.one
    simp only [Nat.add_zero] at fJ
    rcases m6.kind with ⟨eN,aD⟩ | aD <;> simp [Builtin.append_,run_underlying aM.und,run_underlying aD,sizeOf,typeInfo,aG,m6.len,tV,m6.cells,Addr.add_lit,fJ]
   refine ⟨_,_,aY,⟨hlen,.inr ⟨b,cap,_,rfl,vr,setRow_heap w b cur _ e _ aO,tV,nB,?_,?_⟩⟩,⟨rfl,rfl,rfl,by simp,fun k _ aD=>setRow_other w b k _ (fun e=>aD (by simp [Value.ownBlock,e]))⟩,fun b au=>.inl au⟩
   ·simp only [List.size_toArray,List.length_append,List.length_take,List.length_drop,Array.length_toList]
    omega
   ·rw [kc,← hlen]
    exact List.take_left
  ·have holds:∀ j u,xs[j]?=some u→w.cell? ((⟨b,0,none⟩:Addr).add j)=some u:=eY.cells (g:=b) rfl
   have hold:=run_firstCells_some (P:=P) w.drew i.size m ⟨b,0,none⟩ m cap xs eY.1 (by simpa using holds)
   have aY:=run_append_grow_src (P:=P) w t tx ty e i zv aM.und aG bj (some ⟨b,0,none⟩) m cap xs hold u k news m6 (by omega) (by omega) (growslice_fits (by omega) au)
   have hj:=grown cap (by omega) (Value.ownBlock (.slice (some ⟨b,0,none⟩) m cap))
   exact ⟨_,_,aY,hj.1,hj.2,fun b au=>.inr (by simp [Value.ownBlock] at au;omega)⟩
theorem aC.append{w0:World}{zs:List aP}{hs:List av}{w w':World}(h:aC w0 zs hs w){q:Nat}{v dd:Value}{e:TypeId}{size m m':Nat}{xs IG:List Value}(aD:hs[q]?=some (.row v e size m xs))(aO:w.grownBy w' v.ownBlock)(cB:w'.ownsRow w0.heap.size e size dd m' IG)(bA:∀ b,dd.ownBlock=some b→v.ownBlock=some b∨w.heap.size≤b) :
  aC w0 zs (hs.set q (.row dd e size m' IG)) w':=by
 have pM:av.row v e size m xs∈hs:=List.mem_of_getElem? aD
 have oc:q<hs.length:=(List.getElem?_eq_some_iff.1 aD).1
 have ak:∀ b,b<w.heap.size→v.ownBlock≠some b→w'.heap[b]?=w.heap[b]?:=fun b au fq=>aO.block b au (fun e=>fq e.symm)
 have fq:∀ b o,(b1 w0 b=some o∨∃ z∈zs,z b=some o)→v.ownBlock≠some b∧b<w.heap.size:=by
  intro b o au
  rcases au with au | ⟨z,bj,fK⟩
  ·refine ⟨fun e=>?_,Nat.lt_of_lt_of_le (kJ au) (le_size h.ext)⟩
   have:=(av.mE (h.own _ pM).1 b e).1
   have:=kJ au
   omega
  ·refine ⟨fun e=>?_,kJ ((h.zone z bj).1 b o fK)⟩
   have:=(h.own _ pM).2 b e z bj
   rw [this] at fK
   cases fK
 have key:∀ (l:List av) (i k:Nat) (s r:av) (b:Nat),i≠k→l[i]?=some s→l[k]?=some r→s.id=some b→r.id=some b→¬ (l.filterMap av.id).Nodup:=by
  intro l
  induction l with
  | nil=>intro i k s r b _ aG;simp at aG
  | cons x l ih=>
   intro i k s r b fq aG aD au e bA
   cases i with
   | zero=>
    cases k with
    | zero=>exact fq rfl
    | succ k=>
     simp at aG aD
     subst aG
     rw [List.filterMap_cons,au] at bA
     simp at bA
     exact bA.1 r (List.mem_of_getElem? aD) e
   | succ i=>
    cases k with
    | zero=>
     simp at aG aD
     subst aD
     rw [List.filterMap_cons,e] at bA
     simp at bA
     exact bA.1 s (List.mem_of_getElem? aG) au
    | succ k=>
     simp at aG aD
     refine ih i k s r b (by omega) aG aD au e ?_
     rw [List.filterMap_cons] at bA
     split at bA
     ·exact bA
     ·exact (List.nodup_cons.1 bA).2
 refine ⟨fun b o au=>?_,fun z bj=>⟨fun b o au=>?_,(h.zone z bj).2⟩,fun s cV=>?_,?_,h.io.trans ⟨aO.os,aO.tape,aO.output⟩⟩
 ·have:=h.ext b o au
  obtain ⟨h1,aq⟩:=fq b o (.inl au)
  simp only [b1] at this ⊢
  rw [ak b aq h1]
  exact this
 ·have:=(h.zone z bj).1 b o au
  obtain ⟨h1,aq⟩:=fq b o (.inr ⟨z,bj,au⟩)
  simp only [b1] at this ⊢
  rw [ak b aq h1]
  exact this
 ·obtain ⟨i,aG⟩:=List.mem_iff_getElem?.1 cV
  rw [List.getElem?_set] at aG
  split at aG
  ·rename_i oY
   subst oY
   try rw [if_pos oc] at aG
   simp only [Option.some.injEq] at aG
   subst aG
   refine ⟨cB,fun b au z bj=>?_⟩
   rcases bA b au with h1 | h1
   ·exact (h.own _ pM).2 b h1 z bj
   ·cases fK:z b with
    | none=>rfl
    | some o=>have:=kJ ((h.zone z bj).1 b o fK);omega
  ·rename_i oY
   have vH:s∈hs:=List.mem_of_getElem? aG
   refine ⟨av.uh (h.own s vH).1 fun b au=>ak b (av.mE (h.own s vH).1 b au).2 fun e=>?_,(h.own s vH).2⟩
   exact key hs i q s _ b (by omega) aG aD au e h.nd
 ·
  have gen:∀ (l:List av) (k:Nat),l[k]?=some (.row v e size m xs)→(∀ r∈l,r∈hs)→(l.filterMap av.id).Nodup→((l.set k (.row dd e size m' IG)).filterMap av.id).Nodup:=by
   intro l
   induction l with
   | nil=>intro k aD;simp at aD
   | cons x l ih=>
    intro k aD hL fO
    cases k with
    | zero=>
     simp at aD
     subst aD
     rw [List.set_cons_zero,List.filterMap_cons]
     rw [List.filterMap_cons] at fO
     have Mm:(l.filterMap av.id).Nodup:=by
      split at fO
      ·exact fO
      ·exact (List.nodup_cons.1 fO).2
     split
     ·exact Mm
     ·rename_i b au
      refine List.nodup_cons.2 ⟨fun hm=>?_,Mm⟩
      obtain ⟨r,aY,er⟩:=List.mem_filterMap.1 hm
      rcases bA b au with h1 | h1
      ·have aq:av.id (.row v e size m xs)=some b:=h1
       rw [aq] at fO
       exact (List.nodup_cons.1 fO).1 (List.mem_filterMap.2 ⟨r,aY,er⟩)
      ·have:=(av.mE (h.own r (hL r (List.mem_cons_of_mem _ aY))).1 b er).2
       omega
    | succ k=>
     simp at aD
     have gH:=ih k aD (fun r aY=>hL r (List.mem_cons_of_mem _ aY)) (by
      rw [List.filterMap_cons] at fO
      split at fO
      ·exact fO
      ·exact (List.nodup_cons.1 fO).2)
     rw [List.set_cons_succ,List.filterMap_cons]
     split
     ·exact gH
     ·rename_i b au
      refine List.nodup_cons.2 ⟨fun hm=>?_,gH⟩
      obtain ⟨r,aY,er⟩:=List.mem_filterMap.1 hm
      rw [List.filterMap_cons,au] at fO
      have Mn:=(List.nodup_cons.1 fO).1
      obtain ⟨i,aG⟩:=List.mem_iff_getElem?.1 aY
      rw [List.getElem?_set] at aG
      split at aG
      ·split at aG
       ·simp only [Option.some.injEq] at aG
        subst aG
        rcases bA b er with h1 | h1
        ·exact Mn (List.mem_filterMap.2 ⟨_,List.mem_of_getElem? aD,h1⟩)
        ·have:=(av.mE (h.own x (hL x (List.mem_cons_self ..))).1 b au).2
         omega
       ·cases aG
      ·exact Mn (List.mem_filterMap.2 ⟨r,List.mem_of_getElem? aG,er⟩)
  exact gen hs q aD (fun r aY=>aY) h.nd
theorem dB[aW]{e:TypeId}{de:TypeDesc}{size bp st bt:Nat}{zv zt:Value}(aM:a1 P t (.slice e) st bt zt)(cg:a1 P e de size bp zv)(q:Nat){m k:Nat}{xs news:List Value}{tx:TypeId}(h1:aU L x=some v)(aq:aU L y=some u)(aD:hs[q]?=some (.row v e size m xs))(m6:sS P w0 zs hs size tx u k news)
  (au:(m+k)*bp≤140737488355328∧m+k≤140737488355328) (Gs:zv.cells.size=size) (h0:0<size) :
  e7 P n w0 zs hs L ⟨d,.call ⟨.builtin .append,#[x,y],#[t,tx]⟩,ty,pos,af,g⟩ (fun dd zs' hs'=>zs'=zs∧hs'=hs.set q (.row dd e size (m+k) (xs++news))):=
 jD fun a a7 w hw=>by
  have eY:=(hw.own _ (List.mem_of_getElem? aD)).1
  obtain ⟨dd,w',aY,cB,aO,bA⟩:=ae7 (ty:=ty) cg aM Gs h0 eY (m6 w hw) au.1 au.2 (le_size hw.ext)
  refine ⟨dd,zs,_,w',.inl ?_,⟨rfl,rfl⟩,hw.append aD aO cB bA⟩
  simp only [execOp]
  simp [resolve,invoke,builtin,a7.eval h1,a7.eval aq,aY]
theorem aC.hV{w0:World}{zs:List aP}{hs:List av}{w:World}(h:aC w0 zs hs w)(e:TypeId)(size:Nat):aC w0 zs (.row (.slice none 0 0) e size 0 []::hs) w:=by
 refine ⟨h.ext,h.zone,fun r aY=>?_,?_,h.io⟩
 ·rcases List.mem_cons.1 aY with rfl | aY
  ·exact ⟨World.ownsRow_nil w _ e size,fun b au=>by simp [av.id,Value.ownBlock] at au⟩
  ·exact h.own r aY
 ·rw [List.filterMap_cons]
  exact h.nd
theorem aC.newRow{w0:World}{zs:List aP}{hs:List av}{w:World}(h:aC w0 zs hs w)(e:TypeId)(cells:List Value)(size m c:Nat)(hl:cells.length=c*size)(hm:m≤c)(bu:c≤maxLen) :
  aC w0 zs (.row (.slice (some ⟨w.heap.size,0,none⟩) m c) e size m (cells.take (m*size))::hs) { w with heap:=w.heap.push (.cells cells.toArray e (0,0)) }:=by
 have h1:=h.new e cells
 refine ⟨h1.ext,h1.zone,fun r aY=>?_,?_,h1.io⟩
 ·rcases List.mem_cons.1 aY with rfl | aY
  ·refine ⟨⟨?_,.inr ⟨w.heap.size,c,cells.toArray,rfl,le_size h.ext,by simp,hm,bu,by simpa using hl,by simp⟩⟩,fun b au=>?_⟩
   ·rw [List.length_take,hl]
    exact Nat.min_eq_left (Nat.mul_le_mul_right _ hm)
   ·have:=(h1.own (.blk w.heap.size e cells) (by simp)).2 b
    simp only [av.id,Value.ownBlock,Option.some.injEq] at au this
    exact this au
  ·exact h1.own r (by simp [aY])
 ·have:=h1.nd
  rw [List.filterMap_cons] at this ⊢
  exact this
end
end Go.aJ
end
section
namespace Go.aJ
section
variable {P:Program}{n:Nat}{w0:World}{zs:List aP}{hs:List av}{L:List (Nat×Value)}{d:Option Tmp}{ty t bZ:TypeId}{pos:String}{af:Array Edge}{g:Option (Nat×Bool)}
variable {x y c nI nJ ki:Operand}{u v:Value}{ops:Array Oper}{rest:List Oper}
theorem wc[aW]{b:Builtin}{args:Array Operand}{ats:Array TypeId}(h:∀ a,Fr n L a→∀ w,aC w0 zs hs w→(builtin b ats ty (args.map fun | .const _=>true | _=>false) (args.map a.eval)).run P w=.ok (.value v) w) :
  bL P n w0 zs hs L ⟨d,.call ⟨.builtin b,args,ats⟩,ty,pos,af,g⟩ v:=
 eC fun a a7 w hw=>by
  have:=h a a7 w hw
  simp only [execOp]
  simp only [resolve,invoke,Sem.run_bind,Sem.run_pure,Result.andThen_ok]
  exact this
theorem hB[aW]{s b:Nat}{z:Value}(aM:a1 P t .string s b z){l:List UInt8}(h1:aU L x=some (vs l)) :
  bL P n w0 zs hs L ⟨d,.call ⟨.builtin .len,#[x],#[t]⟩,ty,pos,af,g⟩ (az l.length):=
 wc fun a a7 w hw=>by
  have dZ:(cP l).size=l.length:=by simp [ByteArray.size]
  simp [builtin,Builtin.len_,run_underlying aM.und,a7.eval h1,goInt,dZ]
theorem dL[aW]{α:Type}{E:dO α}{z:aP}{xs:List α}{e:TypeId}{s b:Nat}{zv:Value}(aM:a1 P t (.slice e) s b zv)(U:bg E z v xs)(h1:aU L x=some v) :
  bL P n w0 zs hs L ⟨d,.call ⟨.builtin .len,#[x],#[t]⟩,ty,pos,af,g⟩ (az xs.length):=
 wc fun a a7 w hw=>by
  obtain ⟨_,ad,c,rfl,_⟩:=U
  simp [builtin,Builtin.len_,run_underlying aM.und,a7.eval h1,goInt]
theorem hX[aW]{e eN:TypeId}{s b size m:Nat}{zv:Value}{xs:List Value}(aM:a1 P t (.slice e) s b zv)(k:Nat)(aD:hs[k]?=some (.row v eN size m xs))(h1:aU L x=some v) :
  bL P n w0 zs hs L ⟨d,.call ⟨.builtin .len,#[x],#[t]⟩,ty,pos,af,g⟩ (az m):=
 wc fun a a7 w hw=>by
  have eY:=(hw.own _ (List.mem_of_getElem? aD)).1
  rcases eY.2 with ⟨rfl,rfl⟩ | ⟨b,cap,cur,rfl,_⟩ <;> simp [builtin,Builtin.len_,run_underlying aM.und,a7.eval h1,goInt]
theorem Hh[aW]{e:TypeId}{s b m c:Nat}{ad:Option Addr}{zv:Value}(aM:a1 P t (.slice e) s b zv)(h1:aU L x=some (.slice ad m c)) :
  bL P n w0 zs hs L ⟨d,.call ⟨.builtin .len,#[x],#[t]⟩,ty,pos,af,g⟩ (az m):=
 wc fun a a7 w hw=>by simp [builtin,Builtin.len_,run_underlying aM.und,a7.eval h1,goInt]
theorem Hi[aW]{k:IntKind}{p q:Int}(h1:aU L x=some (.int k p))(aq:aU L y=some (.int k q)){ats:Array TypeId} :
  bL P n w0 zs hs L ⟨d,.call ⟨.builtin .min,#[x,y],ats⟩,ty,pos,af,g⟩ (.int k (min p q)):=
 wc fun a a7 w hw=>by
  have e:(if q<p then q else p)=min p q:=by omega
  simp [builtin,Builtin.min_,Builtin.min2,a7.eval h1,a7.eval aq,e]
theorem sj[aW]{k:IntKind}{p q:Int}(h1:aU L x=some (.int k p))(aq:aU L y=some (.int k q)){ats:Array TypeId} :
  bL P n w0 zs hs L ⟨d,.call ⟨.builtin .max,#[x,y],ats⟩,ty,pos,af,g⟩ (.int k (max p q)):=
 wc fun a a7 w hw=>by
  have e:(if q>p then q else p)=max p q:=by omega
  simp only [gt_iff_lt] at e
  simp [builtin,Builtin.max_,Builtin.max2,a7.eval h1,a7.eval aq,e]
theorem Ch[aW]{s b:Nat}{z:Value}(aM:a1 P t .string s b z){l:List UInt8}{k:IntKind}{i:Int}(h1:aU L x=some (vs l))(aq:aU L y=some (.int k i))(au:0≤i∧i<l.length) :
  bL P n w0 zs hs L ⟨d,.index t x y,ty,pos,af,g⟩ (bf (l.getD i.toNat 0)):=
 eC fun a a7 w hw=>by
  simp only [execOp,a7.eval h1,a7.eval aq]
  have aG:i.toNat<l.length:=by omega
  have bK:(cP l)[i.toNat]?=some (l.getD i.toNat 0):=by
   have dZ:i.toNat<(cP l).size:=by simpa [ByteArray.size] using aG
   rw [ByteArray.getElem?_lt' _ _ dZ]
   simp [aG]
   rfl
  simp [Instr.index,asIntOf,run_underlying aM.und,au.1,bK]
theorem DX(l:List UInt8)(lo aG:Nat):(cP l).extract lo aG=cP ((l.take aG).drop lo):=by
 apply ByteArray.ext
 apply Array.ext'
 simp [cP,ByteArray.data_extract]
 rw [List.drop_take]
theorem Cn[aW]{s b:Nat}{z:Value}(aM:a1 P t .string s b z){l:List UInt8}{k iH:IntKind}{i j:Int}(h1:aU L x=some (vs l))(aq:aU L y=some (.int k i))(aQ:aU L c=some (.int iH j))(au:0≤i∧i≤j∧j≤l.length) :
  bL P n w0 zs hs L ⟨d,.slice t x (some y) (some c) none,ty,pos,af,g⟩ (vs ((l.take j.toNat).drop i.toNat)):=
 eC fun a a7 w hw=>by
  simp only [execOp,a7.eval h1,Option.map_some,a7.eval aq,a7.eval aQ,Option.map_none]
  have dZ:(cP l).size=l.length:=by simp [ByteArray.size]
  have bK:(Instr.sliceBound (.int iH j) (cP l).size .sliceAlen).run P w=.ok j.toNat w:=run_sliceBound (P:=P) (w:=w) iH j (cP l).size .sliceAlen (by omega) (by omega)
  have bV:(Instr.sliceBound (.int k i) j.toNat .sliceB).run P w=.ok i.toNat w:=run_sliceBound (P:=P) (w:=w) k i j.toNat .sliceB (by omega) (by omega)
  simp only [dZ] at bK
  simp [Instr.sliceAt,Instr.slice,run_underlying aM.und,Instr.sliceBounds,dZ,bK,bV,DX]
theorem Co[aW]{s b:Nat}{z:Value}(aM:a1 P t .string s b z){l:List UInt8}{k:IntKind}{i:Int}(h1:aU L x=some (vs l))(aq:aU L y=some (.int k i))(au:0≤i∧i≤l.length) :
  bL P n w0 zs hs L ⟨d,.slice t x (some y) none none,ty,pos,af,g⟩ (vs (l.drop i.toNat)):=
 eC fun a a7 w hw=>by
  simp only [execOp,a7.eval h1,Option.map_some,a7.eval aq,Option.map_none]
  have dZ:(cP l).size=l.length:=by simp [ByteArray.size]
  have bV:(Instr.sliceBound (.int k i) l.length .sliceB).run P w=.ok i.toNat w:=run_sliceBound (P:=P) (w:=w) k i l.length .sliceB (by omega) (by omega)
  simp [Instr.sliceAt,Instr.slice,run_underlying aM.und,Instr.sliceBounds,dZ,bV,DX]
theorem Hm[aW]{s b:Nat}{z:Value}(aM:a1 P t .string s b z){l:List UInt8}{k:IntKind}{i:Int}(h1:aU L x=some (vs l))(aq:aU L y=some (.int k i))(au:0≤i∧i≤l.length) :
  bL P n w0 zs hs L ⟨d,.slice t x none (some y) none,ty,pos,af,g⟩ (vs (l.take i.toNat)):=
 eC fun a a7 w hw=>by
  simp only [execOp,a7.eval h1,Option.map_some,a7.eval aq,Option.map_none]
  have dZ:(cP l).size=l.length:=by simp [ByteArray.size]
  have bV:(Instr.sliceBound (.int k i) l.length .sliceAlen).run P w=.ok i.toNat w:=run_sliceBound (P:=P) (w:=w) k i l.length .sliceAlen (by omega) (by omega)
  simp [Instr.sliceAt,Instr.slice,run_underlying aM.und,Instr.sliceBounds,dZ,bV,DX]
theorem aga(l:List UInt8):strOfNums (l.map fun b=>(b.toNat:Int))=cP l:=by
 apply ByteArray.ext
 apply Array.ext'
 have:=strOfNums_data (l.map fun b=>(b.toNat:Int))
 rw [this]
 simp only [List.map_map]
 have e:((fun n:Int=>UInt8.ofNat n.toNat) ∘ fun b:UInt8=>(b.toNat:Int))=id:=by
  funext b
  simp
 rw [e]
 simp
theorem zi{e:TypeId}{s b s' gB lG lp:Nat}{zv lL lM:Value}(aM:a1 P t (.slice e) s b zv)(gh:a1 P bZ .string s' gB lL)(cg:a1 P e (.int .u8) lG lp lM){w:World}{ad:Option Addr}{xs:List UInt8}{c:Nat}
  (h:∀ j (a6:j<xs.length),∃ b off,ad=some ⟨b,off,none⟩∧w.cell? ⟨b,off+j,none⟩=some (bf xs[j])):(convert t bZ (.slice ad xs.length c)).run P w=.ok (vs xs) w:=by
 cases ad with
 | none=>
  have aL:xs=[]:=by
   cases xs with
   | nil=>rfl
   | cons x xs=>obtain ⟨_,_,fB,_⟩:=h 0 (by simp);cases fB
  subst aL
  show (convert t bZ (Value.slice none 0 c)).run P w=_
  rw [run_convert_bytes_nil (P:=P) w t e aM.und cg.und 0 c bZ gh.und]
  rfl
 | some ad=>
  cases xs with
  | nil=>
   show (convert t bZ (Value.slice (some ad) 0 c)).run P w=_
   rw [run_convert_bytes_string w t bZ e (some ad) 0 c aM.und cg.und gh.und]
   simp [Conv.bytesToString,loadCells,loadCellsFrom]
   rfl
  | cons cv xs=>
   obtain ⟨b,off,fB,_⟩:=h 0 (by simp)
   simp only [Option.some.injEq] at fB
   subst fB
   have:=run_convert_bytes_arg (P:=P) w t e aM.und cg.und b off (cv::xs).length c ((cv::xs).map fun b=>(b.toNat:Int)) (by simp) (fun i aG=>by
    obtain ⟨gB,GX,fB,aq⟩:=h i aG
    simp only [Option.some.injEq,Addr.mk.injEq] at fB
    obtain ⟨rfl,rfl,_⟩:=fB
    rw [aq]
    simp only [List.getD_eq_getElem?_getD,List.getElem?_map,List.getElem?_eq_getElem aG,Option.map_some,Option.getD_some]) bZ gh.und
   rw [this,aga]
theorem sa[aW]{z:aP}{xs:List UInt8}{e:TypeId}{s b s' gB lG lp:Nat}{zv lL lM:Value}(aM:a1 P t (.slice e) s b zv)(gh:a1 P bZ .string s' gB lL)(cg:a1 P e (.int .u8) lG lp lM)(U:bg gE z v xs)(bj:gp w0 zs z)(h1:aU L x=some v) :
  bL P n w0 zs hs L ⟨d,.convert t bZ x,ty,pos,af,g⟩ (vs xs):=
 eC fun a a7 w hw=>by
  obtain ⟨_,ad,c,rfl,tL,h⟩:=U
  simp only [execOp,a7.eval h1]
  rw [Sem.run_bind,zi aM gh cg fun j a6=>by
   obtain ⟨b,off,cs,lI,fz,dx,rfl,aq,aQ,bH⟩:=h j xs[j] (by simp [a6])
   refine ⟨b,off,rfl,?_⟩
   rw [cell_of_row w b _ cs lI fz (hw.le bj _ _ aq)]
   have:=bH 0 (bf xs[j]) (by rw [aQ.1];rfl)
   simpa [gE,kR] using this]
  rfl
theorem mF[aW]{xs:List UInt8}{e eN:TypeId}{m:Nat}{s b s' gB lG lp:Nat}{zv lL lM:Value}(aM:a1 P t (.slice e) s b zv)(gh:a1 P bZ .string s' gB lL)(cg:a1 P e (.int .u8) lG lp lM)(k:Nat)(aD:hs[k]?=some (.row v eN 1 m (xs.map bf)))(h1:aU L x=some v) :
  bL P n w0 zs hs L ⟨d,.convert t bZ x,ty,pos,af,g⟩ (vs xs):=
 eC fun a a7 w hw=>by
  have eY:=(hw.own _ (List.mem_of_getElem? aD)).1
  have hlen:m=xs.length:=by have:=eY.1;simp at this;omega
  subst hlen
  simp only [execOp,a7.eval h1]
  rcases eY.2 with ⟨rfl,bA⟩ | ⟨b,cap,cur,rfl,au,aO,kE,nB,ig,kc⟩
  ·have:xs=[]:=List.eq_nil_of_length_eq_zero bA
   subst this
   rw [Sem.run_bind,show (Value.slice none 0 0)=.slice none ([]:List UInt8).length 0 from rfl,zi aM gh cg (fun j a6=>by simp at a6)]
   rfl
  ·rw [Sem.run_bind,zi aM gh cg fun j a6=>⟨b,0,rfl,by
    rw [cell_of_row w b _ cur eN (0,0) aO]
    have:(cur.toList.take (xs.length*1))[j]?=some (bf xs[j]):=by rw [kc];simp [a6]
    rw [List.getElem?_take] at this
    split at this
    ·simpa using this
    ·cases this⟩]
   rfl
theorem OI[aW]{xs:List UInt8}{e:TypeId}{b off c:Nat}{bt:TypeId}{cs:List Value}{s bp s' gB lG lp:Nat}{zv lL lM:Value}(aM:a1 P t (.slice e) s bp zv)(gh:a1 P bZ .string s' gB lL)(cg:a1 P e (.int .u8) lG lp lM)(k:Nat)(h1:aU L x=some (.slice (some ⟨b,off,none⟩) xs.length c))(aD:hs[k]?=some (.blk b bt cs))(bu:(cs.drop off).take xs.length=xs.map bf) :
  bL P n w0 zs hs L ⟨d,.convert t bZ x,ty,pos,af,g⟩ (vs xs):=
 eC fun a a7 w hw=>by
  have au:=(hw.own _ (List.mem_of_getElem? aD)).1.2
  simp only [execOp,a7.eval h1]
  rw [Sem.run_bind,zi aM gh cg fun j a6=>⟨b,off,rfl,by
   rw [cell_of_row w b _ _ bt (0,0) au]
   have aQ:((cs.drop off).take xs.length)[j]?=some (bf xs[j]):=by rw [bu];simp [a6]
   rw [List.getElem?_take,if_pos a6,List.getElem?_drop] at aQ
   simpa using aQ⟩]
  rfl
def dU(b:Nat)(o:Obj):aP:=fun k=>if k=b then some o else none
theorem r8{b k:Nat}{o o':Obj}(h:dU b o k=some o'):k=b∧o=o':=by
 unfold dU at h
 split at h
 ·exact ⟨by assumption,by simpa using h⟩
 ·cases h
theorem aC.frozen{w0:World}{zs:List aP}{hs:List av}{w w':World}(h:aC w0 zs hs w)(o:Obj)(dZ:w'.heap.size=w.heap.size+1)(hw:∀ b,b<w.heap.size→w'.heap[b]?=w.heap[b]?)(bA:w'.heap[w.heap.size]?=some o)(qF:ma w w'):aC w0 (dU w.heap.size o::zs) hs w':=by
 have hl:(b1 w).le (b1 w'):=fun b ob au=>by
  have:=kJ au
  simp only [b1] at au ⊢
  rw [hw b this]
  exact au
 have h1:=h.later hl qF
 refine ⟨h1.ext,fun z bj=>?_,fun r aY=>⟨(h1.own r aY).1,fun b au z bj=>?_⟩,h1.nd,h1.io⟩
 ·rcases List.mem_cons.1 bj with rfl | bj
  ·refine ⟨fun b ob au=>?_,fun b ob au=>?_⟩
   ·obtain ⟨rfl,rfl⟩:=r8 au;exact bA
   ·obtain ⟨rfl,rfl⟩:=r8 au;exact le_size h.ext
  ·exact h1.zone z bj
 ·rcases List.mem_cons.1 bj with rfl | bj
  ·have:=(av.mE (h.own r aY).1 b au).2
   unfold dU
   rw [if_neg (by omega)]
  ·exact (h1.own r aY).2 b au z bj
theorem s8[aW]{e:TypeId}{s b s' gB lG lp:Nat}{zv lL lM:Value}(aM:a1 P t .string s b zv)(gh:a1 P bZ (.slice e) s' gB lL)(cg:a1 P e (.int .u8) lG lp lM){l:List UInt8}(h1:aU L x=some (vs l))(hl:l.length≤140737488355328) :
  e7 P n w0 zs hs L ⟨d,.convert t bZ x,ty,pos,af,g⟩ (fun v zs' hs'=>∃ z,zs'=z::zs∧hs'=hs∧bg gE z v l):=
 jD fun a a7 w hw=>by
  have dZ:(cP l).size=l.length:=by simp [ByteArray.size]
  have aY:=run_bytes_of_string (P:=P) w t bZ e (cP l) aM.und gh.und cg.und
  rw [dZ] at aY
  generalize rL:grownCap w l.length 0 e=cap at aY
  have FA:l.length≤cap:=by rw [← rL];exact grownCap_ge w l.length 0 e
  generalize yg:Obj.cells (bytesRow (cP l) cap) e ((bytesRow (cP l) cap).size,(bytesRow (cP l) cap).size+1)=ob at aY
  have fJ:=hw.frozen (w':=w.drew.alloc ob) ob (by simp) (fun b au=>heap_alloc_old w ob au) (heap_alloc_new w ob) ⟨rfl,rfl,rfl⟩
  refine ⟨.slice (some ⟨w.heap.size,0,none⟩) l.length cap,dU w.heap.size ob::zs,hs,w.drew.alloc ob,.inl ?_,⟨_,rfl,rfl,hl,some ⟨w.heap.size,0,none⟩,cap,rfl,FA,fun i xx aL=>?_⟩,fJ⟩
  ·simp only [execOp,a7.eval h1]
   rw [Sem.run_bind,aY]
   rfl
  ·have aG:=(List.getElem?_eq_some_iff.1 aL).1
   subst yg
   refine ⟨w.heap.size,0,bytesRow (cP l) cap,e,_,[bf xx],rfl,by unfold dU;rw [if_pos rfl],⟨rfl,trivial⟩,fun j uu hu=>?_⟩
   cases j with
   | zero=>
    simp only [List.getElem?_cons_zero,Option.some.injEq] at hu
    subst hu
    show (bytesRow (cP l) cap)[0+i*1+0]?=_
    unfold bytesRow
    rw [Array.getElem?_append_left (by simp;omega)]
    simp [aL]
   | succ j=>simp at hu
end
end Go.aJ
end
section
namespace Go.aJ
def ch(P:Program)(f:FuncId)(args:List Value)(w:World)(R:Value→List aP→List av→Prop):Prop:=
 Calls P f args.toArray w fun e w'=>∃ v zs hs,e=.returned v∧aC w zs hs w'∧R v zs hs
theorem ch.mono{P f args w}{R Jt:Value→List aP→List av→Prop}(h:ch P f args w R)(aY:∀ v zs hs,R v zs hs→Jt v zs hs):ch P f args w Jt:=
 Calls.mono h fun _ _ ⟨v,zs,hs,h1,aq,aQ⟩=>⟨v,zs,hs,h1,aq,aY _ _ _ aQ⟩
def bU(P : Program)(f : FuncId) : Prop := ∃ fn, P.funcs[f]? = some fn ∧ fn.body.isNone = false ∧ (fn.name == "runtime.NumGoroutine") = false
def ic(L:List (Nat×Value)):List Operand→Option (List Value)
 | []=>some []
 | o::r=>match aU L o,ic L r with
  | some v,some vs=>some (v::vs)
  | _,_=>none
theorem Fr.xE[aW]{n L a}(h:Fr n L a):∀ {os vs},ic L os=some vs→os.map a.eval=vs
 | [],vs,bx=>by simp [ic] at bx;simp [bx]
 | o::r,vs,bx=>by
  unfold ic at bx
  split at bx
  ·rename_i v aoe h1 aq
   simp only [Option.some.injEq] at bx
   subst bx
   simp [h.eval h1,h.xE aq]
  ·cases bx
section
variable {P:Program}{n:Nat}{w0:World}{zs:List aP}{hs:List av}{L:List (Nat×Value)}{d:Option Tmp}{ty t bZ:TypeId}{pos:String}{af:Array Edge}{g:Option (Nat×Bool)}
variable {x y c nI nJ ki:Operand}{u v:Value}{ops:Array Oper}{rest:List Oper}
theorem HI[aW]{f:FuncId}(bw:bU P f){os:List Operand}{vs:List Value}{ats:Array TypeId}{a:Act}(a7:Fr n L a)(h1:ic L os=some vs)(w:World) :
  (execOp a.eval ⟨d,.call ⟨.value (.func f),os.toArray,ats⟩,ty,pos,af,g⟩).run P w=.ok (.enter f vs.toArray) w:=by
 obtain ⟨fn,aq,aQ,bH⟩:=bw
 have he:=a7.xE h1
 simp only [execOp]
 simp only [resolve,Act.eval,Deferred.ofValue,invoke,Sem.run_bind,Sem.run_pure,Result.andThen_ok,callFunc,run_program,aq,bH,aQ]
 simp [he]
theorem bQ[aW]{f:FuncId}(bw:bU P f){os:List Operand}{vs:List Value}{ats:Array TypeId}{R:Value→List aP→List av→Prop}(h1:ic L os=some vs)(bu:∀ w,aC w0 zs hs w→ch P f vs w R)(fH:∀ dd zs hs,R dd zs hs→dd=v) :
  bL P n w0 zs hs L ⟨d,.call ⟨.value (.func f),os.toArray,ats⟩,ty,pos,af,g⟩ v:=
 fun a a7 w hw=>by
  rw [HI bw a7 h1]
  exact ⟨rfl,Calls.mono (bu w hw) fun e w' ⟨dd,zs',hs',he,U,aY⟩=>⟨by rw [he,fH _ _ _ aY],hw.later U.ext U.io⟩⟩
theorem eB[aW]{f:FuncId}(bw:bU P f){os:List Operand}{vs:List Value}{ats:Array TypeId}{R:Value→List aP→List av→Prop}(h1:ic L os=some vs)(bu:∀ w,aC w0 zs hs w→ch P f vs w R) :
  e7 P n w0 zs hs L ⟨d,.call ⟨.value (.func f),os.toArray,ats⟩,ty,pos,af,g⟩ (fun v zs' hs'=>∃ hR h1,zs'=hR++zs∧hs'=h1++hs∧R v hR h1):=by
 intro a a7 w hw next Q bA
 unfold Oper.wp
 rw [HI bw a7 h1]
 exact Calls.mono (bu w hw) fun e w' ⟨dd,zs',hs',he,U,aY⟩=>by
  subst he
  exact bA dd _ _ w' ⟨zs',hs',rfl,rfl,aY⟩ (hw.call U)
theorem cI{f:FuncId}{fn:Func}{cd:Code}(bw:P.funcs[f]?=some fn)(au:fn.body=some cd){k:Nat}(aD:fn.ntmps=k){args:List Value}(bA:args.length≤k){w:World}{R:Value→List aP→List av→Prop}
  (h:∀ a,Fr k (oS 0 args) a→aC w [] [] w→cd.wp P (bodyPost P fn fun e w'=>∃ v zs hs,e=.returned v∧aC w zs hs w'∧R v zs hs) a w):ch P f args w R:=by
 subst aD
 exact calls_of_wp bw au (h _ (Fr.enter _ _ bA) (aC.start w))
@[reducible] def uw:List Value→Value
 | [v]=>v
 | vs=>.tuple vs.toArray
def Ac(P:Program)(L:List (Nat×Value))(hs:List av):ResultVar→Value→Prop
 | .tmp t,v=>look L t=some v
 | .cell p t,v=>∃ b bt cs bM s bp zv,look L p=some (.pointer (some ⟨b,0,none⟩))∧av.blk b bt cs∈hs∧a1 P t bM s bp zv ∧
   ((eV bM=true∧cs.length=s∧v=.agg cs.toArray)∨(eV bM=false∧cs=[v]))
def ri(P:Program)(L:List (Nat×Value))(hs:List av):List ResultVar→List Value→Prop
 | [],[]=>True
 | r::rs,v::vs=>Ac P L hs r v∧ri P L hs rs vs
 | _,_=>False
theorem Ac.run[aW]{w:World}{r:ResultVar}{a:Act}(ab:Fr n L a)(U:aC w0 zs hs w)(h:Ac P L hs r v) :
  (match r with | .tmp t=>(pure (a.tmps.getD t undef):Sem Value) | .cell p t=>do loadVar t (← asAddr (a.tmps.getD p undef))).run P w=.ok v w:=by
 cases r with
 | tmp t=>
  have:=ab.get t v h
  simp [this]
 | cell p t=>
  obtain ⟨b,bt,cs,bM,s,bp,zv,h1,aq,aQ,bH⟩:=h
  have au:=(U.own _ aq).1.2
  have bN:=ab.get p _ h1
  have bx:a.tmps.getD p undef=.pointer (some ⟨b,0,none⟩):=by simp [bN]
  simp only [bx,asAddr,Sem.run_bind,Sem.run_pure,Result.andThen_ok]
  rcases bH with ⟨bH,cN,rfl⟩ | ⟨bH,rfl⟩
  ·have:=wo aQ bH au (off:=0) (by simp [cN])
   rw [this]
   simp [← cN]
  ·exact uy aQ bH (by rw [cell_of_row w b 0 _ bt _ au];rfl)
theorem sw[aW]{fn:Func}{w:World}{rs:List ResultVar}(lx:fn.results=rs.toArray){a:Act}(ab:Fr n L a)(U:aC w0 zs hs w){vs:List Value}(h:ri P L hs rs vs) :
  (results fn a.tmps).run P w=.ok (uw vs) w:=by
 have key:∀ (rs:List ResultVar) (vs:List Value),ri P L hs rs vs→Sem.run P (rs.mapM fun (r:ResultVar)=>(match r with | .tmp t=>(pure (a.tmps.getD t undef):Sem Value) | .cell p t=>do loadVar t (← asAddr (a.tmps.getD p undef)))) w=Result.ok vs w:=by
  intro rs
  induction rs with
  | nil=>
   intro vs bx
   cases vs with
   | nil=>simp
   | cons v vs=>exact bx.elim
  | cons r rs ih=>
   intro vs bx
   cases vs with
   | nil=>exact bx.elim
   | cons v vs=>
    have h1:=Ac.run ab U bx.1
    have aq:=ih vs bx.2
    rw [List.mapM_cons]
    simp only [Sem.run_bind,Sem.run_pure]
    rw [h1]
    simp only [Result.andThen_ok]
    rw [aq]
    rfl
 have aD:=key rs vs h
 unfold results
 rw [lx,List.mapM_toArray]
 have Bm:Sem.run P (Functor.map List.toArray (rs.mapM fun (r:ResultVar)=>(match r with | .tmp t=>(pure (a.tmps.getD t undef):Sem Value) | .cell p t=>do loadVar t (← asAddr (a.tmps.getD p undef))))) w=Result.ok vs.toArray w:=by
  rw [Sem.run_map,aD]
  rfl
 rw [Sem.run_bind]
 refine (congrArg (fun r=>Result.andThen r _) Bm).trans ?_
 simp only [Result.andThen_ok,Sem.run_pure]
 cases vs with
 | nil=>rfl
 | cons v vs=>
  cases vs with
  | nil=>rfl
  | cons v2 vs=>simp [uw]
theorem bR{fn:Func}{w:World}{a:Act}{R:Value→List aP→List av→Prop}{rs:List ResultVar}(lx:fn.results=rs.toArray)(ab:Fr n L a)(U:aC w0 zs hs w){vs:List Value}(bx:ri P L hs rs vs){zs' hs'}(h1:zs'.Sublist zs)(aq:hs'.Sublist hs)(fH:R (uw vs) zs' hs') :
  bodyPost P fn (fun e w'=>∃ v zs hs,e=.returned v∧aC w0 zs hs w'∧R v zs hs) .ret a w:=
 ⟨ab.nodef,_,sw lx ab U bx,_,_,_,rfl,U.ak h1 aq,fH⟩
theorem wp_cut{dx cy:Code}{Q:Exit→Act→World→Prop}{a:Act}{w:World}(J:Act→World→Prop)(aL:dx.wp P (Exit.then J Q) a w)(cS:∀ a w,J a w→cy.wp P Q a w):(Code.seq dx cy).wp P Q a w:=
 wp_seq (Code.wp_mono (fun e a w q=>by cases e <;> first | exact cS _ _ q | exact q) aL)
theorem cX[aW]{dx cy:Code}{Q:Exit→Act→World→Prop}{a:Act}{w:World}{b:Bool}(ab:Fr n L a)(h:aU L c=some (.bool b))(aM:b=true→dx.wp P Q a w)(bw:b=false→cy.wp P Q a w):(Code.cond c dx cy).wp P Q a w:=
 wp_cond_split (ab.eval h) aM bw
theorem b9[aW]{dx cy:Code}{Q:Exit→Act→World→Prop}{a:Act}{w:World}{p:Prop}[Decidable p](ab:Fr n L a)(h:aU L c=some (.bool (decide p)))(aM:p→dx.wp P Q a w)(bw:¬ p→cy.wp P Q a w):(Code.cond c dx cy).wp P Q a w:=
 wp_cond_split (ab.eval h) (fun e=>aM (of_decide_eq_true e)) (fun e=>bw (of_decide_eq_false e))
theorem eP[aW]{dx cy:Code}{Q:Exit→Act→World→Prop}{a:Act}{w:World}{p:Prop}[Decidable p](ab:Fr n L a)(h:aU L c=some (.bool (!decide p)))(aM:¬ p→dx.wp P Q a w)(bw:p→cy.wp P Q a w):(Code.cond c dx cy).wp P Q a w:=
 wp_cond_split (ab.eval h) (fun e=>aM (by simpa using e)) (fun e=>bw (by simpa using e))
theorem RP{cb:Code}{Q:Exit→Act→World→Prop}{a:Act}{w:World}(I:Nat→Act→World→Prop)(k:Nat)(h0:I k a w)
  (aY:∀ m a w,I m a w→cb.wp P (Exit.then (fun a w=>∃ m',m'<m∧I m' a w) Q) a w):(Code.loop cb).wp P Q a w:=by
 classical
 have hex:∀ a w,(∃ m,I m a w)→∃ m,I m a w∧∀ m',I m' a w→m≤m':=by
  intro a w ⟨m,hm⟩
  induction m using Nat.strongRecOn with
  | _ m ih=>
   by_cases gL:∃ m',m'<m∧I m' a w
   ·obtain ⟨m',h1,aq⟩:=gL
    exact ih m' h1 aq
   ·exact ⟨m,hm,fun m' iA=>Nat.le_of_not_lt fun h=>gL ⟨m',h,iA⟩⟩
 let μ:Act→World→Nat:=fun a w=>if h:∃ m,I m a w then (hex a w h).choose else 0
 have MN:∀ a w (h:∃ m,I m a w),I (μ a w) a w∧∀ m',I m' a w→μ a w≤m':=by
  intro a w h
  have:=(hex a w h).choose_spec
  simp only [μ,dif_pos h]
  exact this
 refine wp_loop (fun a w=>∃ m,I m a w) μ ⟨k,h0⟩ fun a w mn=>?_
 obtain ⟨h1,_⟩:=MN a w mn
 refine Code.wp_mono (fun e gK w' q=>?_) (aY _ a w h1)
 cases e with
 | normal=>
  obtain ⟨m',hm,E8⟩:=q
  exact ⟨⟨m',E8⟩,Nat.lt_of_le_of_lt ((MN gK w' ⟨m',E8⟩).2 m' E8) hm⟩
 | _=>exact q
end
end Go.aJ
namespace Go.aJ
section
variable {P:Program}{n:Nat}{w0:World}{zs:List aP}{hs:List av}{L:List (Nat×Value)}
theorem df[aW]{cb:Code}{Q:Exit→Act→World→Prop}{a:Act}{w:World}{γ:Type}(g0:γ)(nT:γ→List (Nat×Value))(lg:List (Nat×Value))(fP:γ→List av)(fact:γ→Prop)(μ:γ→Nat)
  (ab:Fr n (nT g0++lg) a) (U:aC w0 zs (fP g0) w) (bw:fact g0)
  (aY:∀ g a w,fact g→Fr n (nT g++lg) a→aC w0 zs (fP g) w→cb.wp P (Exit.then (fun a w=>∃ hJ,μ hJ<μ g∧fact hJ∧Fr n (nT hJ++lg) a∧aC w0 zs (fP hJ) w) Q) a w):(Code.loop cb).wp P Q a w:=by
 refine RP (fun m a w=>∃ g,m=μ g∧fact g∧Fr n (nT g++lg) a∧aC w0 zs (fP g) w) (μ g0) ⟨g0,rfl,bw,ab,U⟩ fun m a w ⟨g,hm,h1,aq,aQ⟩=>?_
 refine Code.wp_mono (fun e a w q=>?_) (aY g a w h1 aq aQ)
 cases e with
 | normal=>obtain ⟨hJ,bH,cN,dq,eX⟩:=q;exact ⟨μ hJ,by omega,hJ,rfl,cN,dq,eX⟩
 | _=>exact q
end
end Go.aJ
end
section
namespace Go.aJ
section
variable {P:Program}{n:Nat}{w0:World}{zs:List aP}{hs:List av}{L:List (Nat×Value)}{d:Option Tmp}{ty t bZ:TypeId}{pos:String}{af:Array Edge}{g:Option (Nat×Bool)}
variable {x y c nI nJ ki:Operand}{u v:Value}{ops:Array Oper}{rest:List Oper}
theorem jI[aW]{α:Type}{f:α→Value}{bM:TypeDesc}{s bp:Nat}{zv:Value}(aM:a1 P t bM s bp zv)(k:Nat){b off:Nat}{bt:TypeId}{xs:List α}(hI:α)(h1:aU L x=some (.pointer (some ⟨b,off,none⟩)))(aD:hs[k]?=some (.blk b bt (xs.map f)))(hl:off<xs.length)(aT:eV bM=false) :
  bL P n w0 zs hs L ⟨d,.load t x,ty,pos,af,g⟩ (f (xs.getD off hI)):=
 bc aM k h1 aD (by simp [hl]) aT
theorem adA[aW]{α:Type}{f:α→Value}{bM:TypeDesc}{s bp:Nat}{zv:Value}(aM:a1 P t bM s bp zv)(k:Nat){b off:Nat}{bt:TypeId}{pre post:List Value}{xs:List α}(j:Nat)(hI:α)(h1:aU L x=some (.pointer (some ⟨b,off,none⟩)))(aD:hs[k]?=some (.blk b bt (pre++(xs.map f++post))))(cB:off=pre.length+j)(hl:j<xs.length)(aT:eV bM=false) :
  bL P n w0 zs hs L ⟨d,.load t x,ty,pos,af,g⟩ (f (xs.getD j hI)):=
 bc aM k h1 aD (by
  subst cB
  rw [List.getElem?_append_right (by omega),Nat.add_sub_cancel_left,List.getElem?_append_left (by simpa using hl)]
  simp [hl]) aT
theorem qu[aW]{α:Type}{f:α→Value}{bM:TypeDesc}{bp:Nat}{zv:Value}(aM:a1 P t bM 1 bp zv)(k:Nat){b off:Nat}{bt:TypeId}{xs:List α}{e:α}(h1:aU L x=some (.pointer (some ⟨b,off,none⟩)))(aq:aU L y=some (f e))(aD:hs[k]?=some (.blk b bt (xs.map f)))(hl:off<xs.length)(cB:(f e).oneCell'=true) :
  e7 P n w0 zs hs L ⟨d,.store t x y,ty,pos,af,g⟩ (fun dd zs' hs'=>dd=undef∧zs'=zs∧hs'=hs.set k (.blk b bt ((xs.set off e).map f))):=by
 have:=c7 (ty:=ty) (pos:=pos) (af:=af) (g:=g) (d:=d) (n:=n) (w0:=w0) (zs:=zs) aM k h1 aq aD cB (by simpa using hl)
 rwa [← List.map_set] at this
theorem adu[aW]{m:Nat}{e:TypeId}{s bp:Nat}{zv:Value}(aM:a1 P t (.array m e) s bp zv){de:TypeDesc}{be:Nat}{ze:Value}(cg:a1 P e de 1 be ze){cs:List Value}{i:Int}{k:IntKind}(h1:aU L x=some (.agg cs.toArray))(aq:aU L y=some (.int k i))(au:0≤i∧i<m)(bx:cs[i.toNat]?=some v)(aT:eV de=false) :
  bL P n w0 zs hs L ⟨d,.index t x y,ty,pos,af,g⟩ v:=
 eC fun a a7 w hw=>by
  have bN:(part e cs.toArray (i.toNat*1)).run P w=.ok v w:=by
   unfold part
   rw [Sem.run_bind,cg.isAgg]
   simp [aT,bx]
  simp only [execOp,a7.eval h1,a7.eval aq]
  simp only [Nat.mul_one] at bN
  simp [Instr.index,asIntOf,run_underlying aM.und,au,cg.sizeOf,bN]
theorem adv[aW]{α:Type}{f:α→Value}{m:Nat}{e:TypeId}{s bp:Nat}{zv:Value}(aM:a1 P t (.array m e) s bp zv){de:TypeDesc}{be:Nat}{ze:Value}(cg:a1 P e de 1 be ze){xs:List α}(hI:α){i:Int}{k:IntKind}(h1:aU L x=some (.agg (xs.map f).toArray))(aq:aU L y=some (.int k i))(au:0≤i∧i<m)(hl:m=xs.length)(aT:eV de=false) :
    bL P n w0 zs hs L ⟨d,.index t x y,ty,pos,af,g⟩ (f (xs.getD i.toNat hI)):=
  adu aM cg h1 aq au (by have:i.toNat<xs.length:=by omega
                         simp [this]) aT
theorem qY[aW]{m:Nat}{e:TypeId}{s bp:Nat}{zv:Value}(aM:a1 P t (.array m e) s bp zv){de:TypeDesc}{se be:Nat}{ze:Value}(cg:a1 P e de se be ze){b off:Nat}(h1:aU L x=some (.pointer (some ⟨b,off,none⟩))) :
  bL P n w0 zs hs L ⟨d,.slice t x none none none,ty,pos,af,g⟩ (.slice (some ⟨b,off,none⟩) m m):=
 eC fun a a7 w hw=>by
  simp only [execOp,a7.eval h1,Option.map_none]
  simp [Instr.sliceAt,Instr.sureAddr,run_underlying aM.und,Instr.sliceBounds,cg.sizeOf,fm]
theorem Cp[aW]{m:Nat}{e:TypeId}{s bp:Nat}{zv:Value}(aM:a1 P t (.array m e) s bp zv){de:TypeDesc}{se be:Nat}{ze:Value}(cg:a1 P e de se be ze){b off:Nat}{k:IntKind}{i:Int}(h1:aU L x=some (.pointer (some ⟨b,off,none⟩)))(aq:aU L y=some (.int k i))(au:0≤i∧i<m) :
  bL P n w0 zs hs L ⟨d,.slice t x (some y) none none,ty,pos,af,g⟩ (.slice (some ⟨b,off+i.toNat*se,none⟩) (m-i.toNat) (m-i.toNat)):=
 eC fun a a7 w hw=>by
  simp only [execOp,a7.eval h1,Option.map_none,Option.map_some,a7.eval aq]
  have bV:(Instr.sliceBound (.int k i) m .sliceB).run P w=.ok i.toNat w:=run_sliceBound (P:=P) (w:=w) k i m .sliceB (by omega) (by omega)
  have aQ:¬ (m=i.toNat):=by omega
  simp [Instr.sliceAt,Instr.sureAddr,run_underlying aM.und,Instr.sliceBounds,cg.sizeOf,fm,bV,aQ]
theorem qZ[aW]{m:Nat}{e:TypeId}{s bp:Nat}{zv:Value}(aM:a1 P t (.array m e) s bp zv){de:TypeDesc}{se be:Nat}{ze:Value}(cg:a1 P e de se be ze){b off:Nat}{k:IntKind}{i:Int}(h1:aU L x=some (.pointer (some ⟨b,off,none⟩)))(aq:aU L y=some (.int k i))(au:0≤i∧i≤m) :
  bL P n w0 zs hs L ⟨d,.slice t x none (some y) none,ty,pos,af,g⟩ (.slice (some ⟨b,off,none⟩) i.toNat m):=
 eC fun a a7 w hw=>by
  simp only [execOp,a7.eval h1,Option.map_none,Option.map_some,a7.eval aq]
  have bV:(Instr.sliceBound (.int k i) m .sliceAlen).run P w=.ok i.toNat w:=run_sliceBound (P:=P) (w:=w) k i m .sliceAlen (by omega) (by omega)
  simp [Instr.sliceAt,Instr.sureAddr,run_underlying aM.und,Instr.sliceBounds,cg.sizeOf,fm,bV]
theorem Hk[aW]{m:Nat}{e:TypeId}{s bp:Nat}{zv:Value}(aM:a1 P t (.array m e) s bp zv){ad:Option Addr}{l c:Nat}(h1:aU L x=some (.slice ad l c))(au:m≤l) :
  bL P n w0 zs hs L ⟨d,.sliceToArrayPointer t x,ty,pos,af,g⟩ (.pointer ad):=
 eC fun a a7 w hw=>by
  have:¬ l<m:=by omega
  simp only [execOp,a7.eval h1]
  simp [Instr.arrayAt,run_underlying aM.und,this]
theorem JL{α:Type}{f:α→Value}{p:α→Prop}{h0:∀ x,(f x).oneCell'=true}{w:World}(U:aC w0 zs hs w)(k:Nat){b off m c:Nat}{bt:TypeId}{cs:List Value}{xs:List α}(aD:hs[k]?=some (.blk b bt cs))(bu:(cs.drop off).take m=xs.map f)(hm:m=xs.length∧m≤c∧m≤140737488355328)(bN:∀ x∈xs,p x) :
  bg (kR f p h0) (b1 w) (.slice (some ⟨b,off,none⟩) m c) xs:=by
 have au:=(U.own _ (List.mem_of_getElem? aD)).1.2
 obtain ⟨rfl,aq,aQ⟩:=hm
 refine ⟨aQ,_,c,rfl,aq,fun i x aL=>⟨b,off,cs.toArray,bt,(0,0),[f x],rfl,au,⟨rfl,bN x (List.mem_of_getElem? aL)⟩,fun j u hu=>?_⟩⟩
 cases j with
 | zero=>
  simp only [List.getElem?_cons_zero,Option.some.injEq] at hu
  subst hu
  have bH:((cs.drop off).take xs.length)[i]?=some (f x):=by rw [bu];simp [aL]
  rw [List.getElem?_take,if_pos (List.getElem?_eq_some_iff.1 aL).1,List.getElem?_drop] at bH
  show cs.toArray[off+i*1+0]?=_
  simpa using bH
 | succ j=>simp at hu
theorem ft[aW]{e eN:TypeId}{s bp size m:Nat}{zv:Value}(aM:a1 P t (.slice e) s bp zv){de:TypeDesc}{be:Nat}{ze:Value}(cg:a1 P e de size be ze)(k:Nat){cs:List Value}{i:Int}{ik:IntKind}(aD:hs[k]?=some (.row v eN size m cs))(h1:aU L x=some v)(aq:aU L y=some (.int ik i))(au:0≤i∧i<m) :
  bL P n w0 zs hs L ⟨d,.indexAddr t x y,ty,pos,af,g⟩ (c6 v (i.toNat*size)):=
 eC fun a a7 w hw=>by
  have eY:=(hw.own _ (List.mem_of_getElem? aD)).1
  rcases eY.2 with ⟨rfl,bA⟩ | ⟨b,cap,cur,rfl,_⟩
  ·omega
  ·simp only [execOp,a7.eval h1,a7.eval aq]
   simp [Instr.indexAt,asIntOf,run_underlying aM.und,au,cg.sizeOf,fm,c6]
theorem yX[aW]{eN:TypeId}{size m:Nat}{bM:TypeDesc}{s bp:Nat}{zv:Value}(aM:a1 P t bM s bp zv)(k:Nat){cs:List Value}{j:Nat}{r:Value}(aD:hs[k]?=some (.row v eN size m cs))(h1:aU L x=some (c6 v j))(a6:cs[j]?=some r)(aT:eV bM=false) :
  bL P n w0 zs hs L ⟨d,.load t x,ty,pos,af,g⟩ r:=
 eC fun a a7 w hw=>by
  have eY:=(hw.own _ (List.mem_of_getElem? aD)).1
  rcases eY.2 with ⟨rfl,rfl⟩ | ⟨b,cap,cur,rfl,au,aO,kE,nB,ig,kc⟩
  ·have:=eY.1
   have ig:cs=[]:=List.eq_nil_of_length_eq_zero (by simpa using this)
   subst ig
   simp at a6
  ·have m4:w.cell? ⟨b,0+j,none⟩=some r:=by
    rw [cell_of_row w b _ cur eN (0,0) aO]
    rw [← kc,List.getElem?_take] at a6
    split at a6
    ·simpa using a6
    ·cases a6
   have he:a.eval x=.pointer (some ⟨b,0+j,none⟩):=(a7.eval h1).trans (by simp [c6,fm])
   rw [Nat.zero_add] at m4 he
   simp only [execOp,he]
   simp [Instr.loadAt,Instr.sureAddr,uy aM aT m4]
theorem lE[aW]{α:Type}{f:α→Value}{eN:TypeId}{m:Nat}{bM:TypeDesc}{s bp:Nat}{zv:Value}(aM:a1 P t bM s bp zv)(k:Nat){xs:List α}(hI:α){j:Nat}(aD:hs[k]?=some (.row v eN 1 m (xs.map f)))(h1:aU L x=some (c6 v (j*1)))(a6:j<xs.length)(aT:eV bM=false) :
  bL P n w0 zs hs L ⟨d,.load t x,ty,pos,af,g⟩ (f (xs.getD j hI)):=
 yX aM k aD h1 (by simp [a6]) aT
theorem oo[aW]{parts:Array (Nat×Operand)}{vparts:List (Nat×Value)}(bN:(parts.toList.mapM fun p=>(aU L p.2).map fun v=>(p.1,v))=some vparts)(aY:∀ w,(Instr.build t vparts.toArray).run P w=.ok v w) :
  bL P n w0 zs hs L ⟨d,.build t parts,ty,pos,af,g⟩ v:=
 eC fun a a7 w hw=>by
  have key:∀ (l:List (Nat×Operand)) (vl:List (Nat×Value)),(l.mapM fun p=>(aU L p.2).map fun v=>(p.1,v))=some vl→l.map (fun p=>(p.1,a.eval p.2))=vl:=by
   intro l
   induction l with
   | nil=>intro vl h;simp at h;simp [h]
   | cons p l ih=>
    intro vl h
    rw [List.mapM_cons] at h
    cases cB:aU L p.2 with
    | none=>simp [cB] at h
    | some u=>
     simp [cB] at h
     cases hm:(l.mapM fun p=>(aU L p.2).map fun v=>(p.1,v)) with
     | none=>simp [hm] at h
     | some r=>
      simp [hm] at h
      subst h
      simp [a7.eval cB,ih r hm]
  have e:(parts.map fun (i,x)=>(i,a.eval x))=vparts.toArray:=by
   apply Array.ext'
   simp [← key _ _ bN]
  simp only [execOp,e]
  simp [aY w]
theorem q1{m:Nat}{e:TypeId}{s bp:Nat}{zv:Value}(aM:a1 P t (.array m e) s bp zv){de:TypeDesc}{se be:Nat}{ze:Value}(cg:a1 P e de se be ze){parts:List (Nat×Value)}{cells:List Value}(bw:Instr.fill (fun i=>some (i*se,se)) zv.cells parts=some cells.toArray)(w:World) :
  (Instr.build t parts.toArray).run P w=.ok (.agg cells.toArray) w:=by
 simp [Instr.build,aM.zero,run_underlying aM.und,cg.sizeOf,bw]
theorem Eg[aW]{e:TypeId}{s bp:Nat}{zv:Value}(aM:a1 P t (.slice e) s bp zv){de:TypeDesc}{se be:Nat}{ze:Value}(cg:a1 P e de se be ze){m:Nat}{parts:Array (Nat×Operand)}{vparts:List (Nat×Value)}{cells:List Value}(bN:(parts.toList.mapM fun p=>(aU L p.2).map fun v=>(p.1,v))=some vparts)
  (bw:Instr.fill (fun i=>some (i*se,se)) ((Array.range (m*se)).map (ze.cells[· % ze.cells.size]!)) vparts=some cells.toArray) (au:m*se≤16777216) (h0:(m*se == 0)=false) (hl:cells.length=m*se) :
  e7 P n w0 zs hs L ⟨d,.buildSlice t m parts,ty,pos,af,g⟩ (fun v zs' hs'=>zs'=zs∧hs'=.row v e se m cells::hs):=
 jD fun a a7 w hw=>by
  have key:∀ (l:List (Nat×Operand)) (vl:List (Nat×Value)),(l.mapM fun p=>(aU L p.2).map fun v=>(p.1,v))=some vl→l.map (fun p=>(p.1,a.eval p.2))=vl:=by
   intro l
   induction l with
   | nil=>intro vl h;simp at h;simp [h]
   | cons p l ih=>
    intro vl h
    rw [List.mapM_cons] at h
    cases cB:aU L p.2 with
    | none=>simp [cB] at h
    | some u=>
     simp [cB] at h
     cases hm:(l.mapM fun p=>(aU L p.2).map fun v=>(p.1,v)) with
     | none=>simp [hm] at h
     | some r=>
      simp [hm] at h
      subst h
      simp [a7.eval cB,ih r hm]
  have bK:(parts.map fun (i,x)=>(i,a.eval x))=vparts.toArray:=by
   apply Array.ext'
   simp [← key _ _ bN]
  have h1:¬ (m*se>2^24):=by simp;omega
  have aq:¬ (m*se=0):=by simpa using h0
  have tN:m≤maxLen:=by
   have:0<se:=Nat.pos_of_ne_zero (fun e=>aq (by simp [e]))
   have:=Nat.le_mul_of_pos_right m this
   unfold maxLen;omega
  have fJ:=hw.newRow e cells se m m hl (Nat.le_refl _) tN
  rw [List.take_of_length_le (by omega)] at fJ
  refine ⟨_,zs,_,_,.inl ?_,⟨rfl,rfl⟩,fJ⟩
  simp only [execOp,bK]
  have aY:(Instr.buildSlice t m vparts.toArray).run P w=.ok (.slice (some ⟨w.heap.size,0,none⟩) m m) { w with heap:=w.heap.push (.cells cells.toArray e (0,0)) }:=by
   unfold Instr.buildSlice
   rw [Sem.run_bind,run_underlying aM.und]
   simp only [Result.andThen_ok]
   rw [Sem.run_bind,cg.sizeOf]
   simp only [Result.andThen_ok]
   rw [if_neg h1]
   simp only [if_neg aq]
   simp only [Sem.run_bind,cg.zero,Result.andThen_ok,Sem.run_pure]
   simp only [bw]
   simp [newRow]
  rw [Sem.run_bind,aY]
  rfl
theorem u5[aW]{e:TypeId}{s bp:Nat}{zv:Value}(aM:a1 P t (.slice e) s bp zv){de:TypeDesc}{se be:Nat}{ze:Value}(cg:a1 P e de se be ze) :
  e7 P n w0 zs hs L ⟨d,.buildSlice t 0 #[],ty,pos,af,g⟩ (fun v zs' hs'=>zs'=zs∧hs'=.row v e se 0 []::hs):=
 jD fun a a7 w hw=>by
  have fJ:=hw.newRow e [] se 0 0 (by simp) (Nat.le_refl _) (by unfold maxLen;omega)
  refine ⟨_,zs,_,_,.inl ?_,⟨rfl,rfl⟩,by simpa using fJ⟩
  simp only [execOp]
  have aY:(Instr.buildSlice t 0 #[]).run P w=.ok (.slice (some ⟨w.heap.size,0,none⟩) 0 0) { w with heap:=w.heap.push (.cells ([]:List Value).toArray e (0,0)) }:=by
   unfold Instr.buildSlice
   rw [Sem.run_bind,run_underlying aM.und]
   simp only [Result.andThen_ok]
   rw [Sem.run_bind,cg.sizeOf]
   simp [Instr.fill,newRow]
   have js:(Array.map (fun _=>(default:Value)) (Array.range 0))=#[]:=Array.eq_empty_of_size_eq_zero (by simp)
   rw [js]
  simp only [Array.map_empty]
  rw [Sem.run_bind,aY]
  rfl
end
end Go.aJ
end
section
namespace Go.aJ
section
variable {P:Program}{ops:Array Oper}{md:Region.Mode}{C:World→Prop}
def wZ(P:Program)(md:Region.Mode)(ops:Array Oper)(C:World→Prop)(n:Nat)(T:Array Bool→Act→Prop):Nat→Array Bool→Act→Prop
 | 0,ls,a=>T ls a
 | f+1,ls,a=>Region.ready md ops ls≠[]∧∀ i∈Region.ready md ops ls,i<n∧qOp P ops C i (wZ P md ops C n T f (ls.setIfInBounds i true)) a
theorem SI{n k:Nat}{T:Array Bool→Act→Prop}{Q:Exit→Act→World→Prop}(kT:∀ ls a w,C w→T ls a→wpAny P md ops Q k ls a w) :
  ∀ (f:Nat) (ls:Array Bool) (a:Act) (w:World),C w→wZ P md ops C n T f ls a→wpAny P md ops Q (f+k) ls a w:=by
 intro f
 induction f with
 | zero=>intro ls a w hw h;rw [Nat.zero_add];exact kT ls a w hw h
 | succ f ih=>
  intro ls a w hw h
  have e:f+1+k=(f+k)+1:=by omega
  rw [e]
  refine ⟨fun h0=>absurd h0 h.1,fun i aG=>?_⟩
  exact wpOp_of_qOp hw (fun gK w' Gl iA=>ih _ gK w' Gl iA) (h.2 i aG).2
theorem Yp{n i:Nat}{oi:Oper}{v:Value}{T:Array Bool→Act→Prop}(aG:ops[i]?=some oi)(nG:∀ (j:Nat) (o:Oper) cs b,ops[j]?=some o→o.op≠.select cs b)
  (hs:Region.sinkB md ops n=true) (bu:Region.chainB md ops n=true) (bA:n<ops.size) (iB:i<n) (kT:∀ ls a,T ls a→∀ j∈Region.ready md ops ls,n≤j) :
  ∀ (f:Nat) (ls:Array Bool) (a:Act),HeadInv md ops n ls →
   (∀ j oj,ops[j]?=some oj→j≠i→ls.getD j true=false→(∀ e∈oj.after,Region.binds md e=true→e.on≠i)→oi.apart ops oj=true) →
   i∈Region.ready md ops ls→YieldsIn P ops C oi v a→wZ P md ops C n T f (ls.setIfInBounds i true) (a.put oi.dst v)→wZ P md ops C n T (f+1) ls a:=by
 intro f
 induction f with
 | zero=>
  intro ls a inv _ aY cS H
  have mz:=(mem_ready.1 aY).1
  refine ⟨List.ne_nil_of_mem aY,fun j a6=>?_⟩
  have x5:j<n:=Nat.lt_of_not_le fun h=>tail_waits hs bu bA inv _ i rfl iB mz j h a6
  refine ⟨x5,?_⟩
  by_cases j9:j=i
  ·subst j9;exact cS.qOp aG H
  ·exact absurd (kT _ _ H j (ready_mono a6 j9)) (by omega)
 | succ f ih=>
  intro ls a inv x3 aY cS H
  have mz:=(mem_ready.1 aY).1
  refine ⟨List.ne_nil_of_mem aY,fun j a6=>?_⟩
  have x5:j<n:=Nat.lt_of_not_le fun h=>tail_waits hs bu bA inv _ i rfl iB mz j h a6
  refine ⟨x5,?_⟩
  by_cases j9:j=i
  ·subst j9;exact cS.qOp aG H
  ·have h1:=(H.2 j (ready_mono a6 j9)).2
   obtain ⟨x6,oj,tR,hi⟩:=mem_ready.1 a6
   have F2:∀ e∈oj.after,Region.binds md e=true→e.on≠i:=fun e he au heq=>by
    have aq:=hi e he au
    rw [heq,getD_both mz] at aq
    cases aq
   have aq:=qOp_put tR (x3 j oj tR j9 x6 F2) (fun cs b=>nG i oi cs b aG) (fun cs b=>nG j oj cs b tR) cS h1
   refine qOp_mono (fun gK aQ=>ih (ls.setIfInBounds j true) gK (inv.set a6 x5) (fun k ok aD oY YR il=>?_) (ready_mono aY (Ne.symm j9)) aQ.1 ?_) aq
   ·refine x3 k ok aD oY ?_ il
    by_cases x4:j=k
    ·subst x4;exact x6
    ·rwa [getD_set_ne true x4] at YR
   ·rw [Array.setIfInBounds_comm _ _ j9]
    exact aQ.2
theorem Yq{n k:Nat}{T:Act→Prop}(nG:Region.noSelect ops=true)(hs:Region.sinkB md ops n=true)(bu:Region.chainB md ops n=true)(bA:n<ops.size) :
  ∀ (l:List Oper) (i:Nat) (ls:Array Bool) (a:Act),(∀ j,j<l.length→l[j]?=ops[i+j]?)→i+l.length=n→HeadInv md ops n ls →
  Region.lexHead md ops k l.length i ls=true→wpQuiet P ops C T l a→wZ P md ops C n (fun iJ gK=>Region.seqB md ops k n iJ=true∧T gK) l.length ls a:=by
 intro l
 induction l with
 | nil=>
  intro i ls a _ aD _ gq h
  have:i=n:=by simpa using aD
  subst this
  exact ⟨by simpa [Region.lexHead] using gq,h⟩
 | cons o l ih=>
  intro i ls a hl aD inv gq h
  have h0:ops[i]?=some o:=by simpa using (hl 0 (by simp)).symm
  simp only [List.length_cons,Region.lexHead,Bool.and_eq_true] at gq
  obtain ⟨⟨aY,bw⟩,W6⟩:=gq
  have iB:i<n:=by simp only [List.length_cons] at aD;omega
  have pP:i∈Region.ready md ops ls:=by simpa using aY
  have cn:qOp P ops C i (wpQuiet P ops C T l) a:=by unfold qOp;simp only [h0];exact h
  obtain ⟨v,cS,dE⟩:=yieldsIn_of_qOp h0 cn
  exact Yp h0 (Region.noSelect_spec nG) hs bu bA iB (fun iJ gK kT=>seqB_ready kT.1) l.length ls a inv (Region.free_spec h0 bw) pP cS
   (ih (i+1) _ _ (fun j a6=>by have:=hl (j+1) (by simp;omega);simpa [Nat.add_assoc,Nat.add_comm 1 j] using this) (by simp only [List.length_cons] at aD;omega) (inv.set pP iB) W6 dE)
theorem ahp{id:Nat}{Q:Exit→Act→World→Prop}{a:Act}{w:World}{l:List Oper}(n:Nat)(hm:P.follows .mixedOrders=true)(gq:Region.lexTailB .any l.toArray n=true)(tj:C { w with drawn:=w.drawn+1 })
  (h:wpQuiet P l.toArray C (fun gK=>∀ w',C w'→wpList P l.toArray Q (l.drop n) gK w') (l.take n) a):(Code.region id l.toArray true).wp P Q a w:=by
 simp only [Region.lexTailB,Bool.and_eq_true,decide_eq_true_eq] at gq
 obtain ⟨⟨⟨⟨nG,bA⟩,hs⟩,bu⟩,YV⟩:=gq
 have akL:n<l.length:=by simpa using bA
 have o2:(l.take n).length=n:=by simp;omega
 have rO:(l.drop n).length=l.toArray.size-n:=by simp
 have aab:HeadInv .any l.toArray n (Array.replicate l.toArray.size false):=
  ⟨by simp,fun j oj _ hl=>(by rw [getD_replicate_false] at hl;cases hl),fun t _ aM=>getD_in (by simpa using aM) (getD_replicate_false _ _)⟩
 have H:=Yq (C:=C) (md:=.any) (k:=l.toArray.size-n) nG hs bu bA (l.take n) 0 _ a (fun j a6=>by
  have rR:j<n:=by rw [o2] at a6;exact a6
  simp [rR]) (by simpa using o2) aab (by rw [o2];exact YV) h
 refine wp_region_any hm ?_
 have:=SI (C:=C) (Q:=Q) (k:=l.toArray.size-n) (fun ls gK w' Gl kT=>by
  have:=wpAny_of_seq (md:=.any) (Q':=Q) (l.drop n) n ls gK w' (fun j=>by simp [List.getElem?_drop]) (by rw [rO];exact kT.1) (kT.2 w' Gl)
  rwa [rO] at this) _ _ _ { w with drawn:=w.drawn+1 } tj H
 rw [o2,show n+(l.toArray.size-n)=l.toArray.size by omega] at this
 exact this
end
section
variable {P:Program}{n:Nat}{w0:World}{zs:List aP}{hs:List av}{L L':List (Nat×Value)}{l:List Oper}{k:Nat}
theorem h2[aW]{id:Nat}{Q:Exit→Act→World→Prop}{a:Act}{w:World}(m:Nat)(hm:P.follows .mixedOrders=true)(gq:Region.lexTailB .any l.toArray m=true)(ab:Fr n L a)(U:aC w0 zs hs w)
  (s:fk P n w0 zs hs l.toArray k L (l.take m) L' []) (K:∀ a w,Fr n L' a→aC w0 zs hs w→wpList P l.toArray Q (l.drop m) a w):(Code.region id l.toArray true).wp P Q a w:=
 ahp (C:=aC w0 zs hs) m hm gq (U.drew _) (Db (by exact ab) s fun a ab w U=>K a w ab U)
end
end Go.aJ
end
section
namespace Go.aJ
def k5(v:Value)(size lo aG:Nat):Value:=
 match v with
 | .slice a _ c=>.slice (if c=lo then a else a.map (·.add (lo*size))) (aG-lo) (c-lo)
 | _=>undef
theorem bg.cut{α:Type}{E:dO α}{z:aP}{v:Value}{xs:List α}(h:bg E z v xs){lo aG:Nat}(au:lo≤aG∧aG≤xs.length):bg E z (k5 v E.size lo aG) ((xs.take aG).drop lo):=by
 obtain ⟨hm,a,c,rfl,bu,h⟩:=h
 have hl:((xs.take aG).drop lo).length=aG-lo:=by simp;omega
 refine ⟨by omega,_,c-lo,by simp only [k5,hl];rfl,by omega,fun i x aL=>?_⟩
 rw [List.getElem?_drop,List.getElem?_take] at aL
 split at aL
 ·rename_i gL
  obtain ⟨b,off,cs,ty,fz,dx,rfl,aq,aQ,bH⟩:=h (lo+i) x aL
  refine ⟨b,off+lo*E.size,cs,ty,fz,dx,?_,aq,aQ,fun j u hu=>?_⟩
  ·rw [if_neg (by omega)]
   simp [fm]
  ·rw [← bH j u hu,Nat.add_mul]
   congr 1
   omega
 ·cases aL
section
variable {P:Program}{n:Nat}{w0:World}{zs:List aP}{hs:List av}{L:List (Nat×Value)}{d:Option Tmp}{ty t bZ:TypeId}{pos:String}{af:Array Edge}{g:Option (Nat×Bool)}
variable {x y c nI nJ ki:Operand}{u v:Value}{ops:Array Oper}{rest:List Oper}
theorem yZ[aW]{α:Type}{E:dO α}{z:aP}{xs:List α}{e:TypeId}{s bp:Nat}{zv:Value}(aM:a1 P t (.slice e) s bp zv){de:TypeDesc}{be:Nat}{ze:Value}(cg:a1 P e de E.size be ze){k iH:IntKind}{i j:Int}(U:bg E z v xs)(h1:aU L x=some v)(aq:aU L y=some (.int k i))(aQ:aU L c=some (.int iH j))(au:0≤i∧i≤j∧j≤xs.length) :
  bL P n w0 zs hs L ⟨d,.slice t x (some y) (some c) none,ty,pos,af,g⟩ (k5 v E.size i.toNat j.toNat):=
 eC fun a a7 w hw=>by
  obtain ⟨_,ad,cc,rfl,n2,_⟩:=U
  simp only [execOp,a7.eval h1,Option.map_some,a7.eval aq,a7.eval aQ,Option.map_none]
  have bK:(Instr.sliceBound (.int iH j) cc .sliceAcap).run P w=.ok j.toNat w:=run_sliceBound (P:=P) (w:=w) iH j cc .sliceAcap (by omega) (by omega)
  have bV:(Instr.sliceBound (.int k i) j.toNat .sliceB).run P w=.ok i.toNat w:=run_sliceBound (P:=P) (w:=w) k i j.toNat .sliceB (by omega) (by omega)
  simp [Instr.sliceAt,Instr.slice,run_underlying aM.und,Instr.sliceBounds,cg.sizeOf,bK,bV,k5]
theorem yY[aW]{α:Type}{E:dO α}{z:aP}{xs:List α}{e:TypeId}{s bp:Nat}{zv:Value}(aM:a1 P t (.slice e) s bp zv){de:TypeDesc}{be:Nat}{ze:Value}(cg:a1 P e de E.size be ze){k:IntKind}{i:Int}(U:bg E z v xs)(h1:aU L x=some v)(aq:aU L y=some (.int k i))(au:0≤i∧i≤xs.length) :
  bL P n w0 zs hs L ⟨d,.slice t x (some y) none none,ty,pos,af,g⟩ (k5 v E.size i.toNat xs.length):=
 eC fun a a7 w hw=>by
  obtain ⟨_,ad,cc,rfl,n2,_⟩:=U
  simp only [execOp,a7.eval h1,Option.map_some,a7.eval aq,Option.map_none]
  have bV:(Instr.sliceBound (.int k i) xs.length .sliceB).run P w=.ok i.toNat w:=run_sliceBound (P:=P) (w:=w) k i xs.length .sliceB (by omega) (by omega)
  simp [Instr.sliceAt,Instr.slice,run_underlying aM.und,Instr.sliceBounds,cg.sizeOf,bV,k5]
theorem Hn[aW]{α:Type}{E:dO α}{z:aP}{xs:List α}{e:TypeId}{s bp:Nat}{zv:Value}(aM:a1 P t (.slice e) s bp zv){de:TypeDesc}{be:Nat}{ze:Value}(cg:a1 P e de E.size be ze){k:IntKind}{i:Int}(U:bg E z v xs)(h1:aU L x=some v)(aq:aU L y=some (.int k i))(au:0≤i∧i≤xs.length) :
  bL P n w0 zs hs L ⟨d,.slice t x none (some y) none,ty,pos,af,g⟩ (k5 v E.size 0 i.toNat):=
 eC fun a a7 w hw=>by
  obtain ⟨_,ad,cc,rfl,n2,_⟩:=U
  simp only [execOp,a7.eval h1,Option.map_some,a7.eval aq,Option.map_none]
  have bV:(Instr.sliceBound (.int k i) cc .sliceAcap).run P w=.ok i.toNat w:=run_sliceBound (P:=P) (w:=w) k i cc .sliceAcap (by omega) (by omega)
  cases ad <;> simp [Instr.sliceAt,Instr.slice,run_underlying aM.und,Instr.sliceBounds,cg.sizeOf,bV,k5,Addr.add]
theorem hn[aW]{m:Nat}{e:TypeId}{s bp:Nat}{zv:Value}(aM:a1 P t (.array m e) s bp zv){de:TypeDesc}{be:Nat}{ze:Value}(cg:a1 P e de 1 be ze){b:Nat}{i:Int}{k:IntKind}(h1:aU L x=some (.pointer (some ⟨b,0,none⟩)))(aq:aU L y=some (.int k i))(au:0≤i∧i<m) :
  bL P n w0 zs hs L ⟨d,.indexAddr t x y,ty,pos,af,g⟩ (.pointer (some ⟨b,i.toNat,none⟩)):=by
 have:=fV (d:=d) (ty:=ty) (pos:=pos) (af:=af) (g:=g) (n:=n) (w0:=w0) (zs:=zs) (hs:=hs) aM cg h1 aq au
 simpa using this
theorem adB[aW]{α:Type}{f:α→Value}{bM:TypeDesc}{s bp:Nat}{zv:Value}(aM:a1 P t bM s bp zv){b off:Nat}{bt:TypeId}{xs:List α}{fz:Nat×Nat}(hI:α)(h1:aU L x=some (.pointer (some ⟨b,off,none⟩)))(aD:w0.heap[b]?=some (.cells (xs.map f).toArray bt fz))(hl:off<xs.length)(aT:eV bM=false) :
  bL P n w0 zs hs L ⟨d,.load t x,ty,pos,af,g⟩ (f (xs.getD off hI)):=
 iC aM h1 aD (by simp [hl]) aT
theorem fW[aW]{bM:TypeDesc}{s bp:Nat}{zv:Value}(aM:a1 P t bM s bp zv)(k:Nat){b:Nat}{bt:TypeId}{cs:List Value}(h1:aU L x=some (.pointer (some ⟨b,0,none⟩)))(aD:hs[k]?=some (.blk b bt cs))(hl:cs.length=s)(aT:eV bM=true) :
  bL P n w0 zs hs L ⟨d,.load t x,ty,pos,af,g⟩ (.agg cs.toArray):=
 yW aM k h1 aD (by rw [List.drop_zero,List.take_of_length_le (by omega)]) (by omega) aT
theorem cA[aW]{bM:TypeDesc}{s bp:Nat}{zv:Value}(aM:a1 P t bM s bp zv)(k:Nat){b:Nat}{bt:TypeId}{cs c:List Value}(h1:aU L x=some (.pointer (some ⟨b,0,none⟩)))(aq:aU L y=some v)(aD:hs[k]?=some (.blk b bt cs))(bu:v.cells=c.toArray)(ig:c.length=s)(cB:∀ u∈c,u.oneCell'=true)(hl:cs.length=s) :
  e7 P n w0 zs hs L ⟨d,.store t x y,ty,pos,af,g⟩ (fun v zs' hs'=>v=undef∧zs'=zs∧hs'=hs.set k (.blk b bt c)):=
 Ej aM k h1 aq aD bu ig cB (by omega) (by simp [hl])
end
end Go.aJ
end
section
namespace Go.aJ
section
variable {P:Program}{ops:Array Oper}{md:Region.Mode}
abbrev ku:=List (Nat×(World→Prop))
def y9(md:Region.Mode)(ops:Array Oper):Nat→Nat→Nat→Bool
 | 0,_,_=>false
 | f+1,k,i=>match ops[k]? with
  | some o=>o.after.any fun e=>Region.binds md e&&(e.on == i || y9 md ops f e.on i)
  | none=>false
def zb(md:Region.Mode)(ops:Array Oper)(ls:Array Bool)(seen:List Nat)(i:Nat):Bool:=
 (List.range ops.size).any fun k=>ls.getD k false && !seen.contains k&&y9 md ops 2 k i
def gY(md:Region.Mode)(ops:Array Oper)(ls:Array Bool)(w:World):List Nat→ku→Prop
 | _,[]=>True
 | seen,(i,C)::W=>(zb md ops ls (i::seen) i=true∨C w)∧gY md ops ls w (i::seen) W
def q6(md:Region.Mode)(ops:Array Oper)(ls:Array Bool):Prop:=
 ∀ k o,ops[k]?=some o→ls.getD k false=true→∀ e∈o.after,Region.binds md e=true→ls.getD e.on false=true
theorem q6.reach{ls:Array Bool}(bu:q6 md ops ls):∀ (f k i:Nat),y9 md ops f k i=true→ls.getD k false=true→ls.getD i false=true
 | 0,_,_,h,_=>by simp [y9] at h
 | f+1,k,i,h,aD=>by
  unfold y9 at h
  cases cB:ops[k]? with
  | none=>rw [cB] at h;simp at h
  | some o=>
   rw [cB] at h
   simp only [Array.any_eq_true,Bool.and_eq_true,Bool.or_eq_true,beq_iff_eq] at h
   obtain ⟨j,a6,au,h⟩:=h
   have h1:=bu k o cB aD o.after[j] (by simp) au
   rcases h with h | h
   ·rwa [h] at h1
   ·exact bu.reach f _ _ h h1
theorem q6.set{ls:Array Bool}{i:Nat}(bu:q6 md ops ls)(aG:i∈Region.ready md ops ls):q6 md ops (ls.setIfInBounds i true):=by
 obtain ⟨_,oi,Y6,hi⟩:=mem_ready.1 aG
 intro k o cB aD e he au
 by_cases rQ:i=k
 ·subst rQ
  have:o=oi:=Option.some.inj (cB.symm.trans Y6)
  subst this
  exact getD_set_true (hi e he au)
 ·rw [getD_set_ne false rQ] at aD
  exact getD_set_true (bu k o cB aD e he au)
def sE(P:Program)(md:Region.Mode)(ops:Array Oper)(Q:Exit→Act→World→Prop):Nat→ku→Array Bool→Act→World→Prop
 | 0,_,ls,a,w=>Region.ready md ops ls=[]∧Q .normal a w
 | f+1,W,ls,a,w=>(Region.ready md ops ls=[]→Q .normal a w) ∧
  ∀ i∈Region.ready md ops ls,wpOp P ops Q i (fun gK w'=>gY md ops (ls.setIfInBounds i true) w' [] W∧sE P md ops Q f W (ls.setIfInBounds i true) gK w') a w
theorem Iz{Q:Exit→Act→World→Prop}:∀ (f:Nat) (W:ku) (ls:Array Bool) (a:Act) (w:World),sE P md ops Q f W ls a w→wpAny P md ops Q f ls a w
 | 0,_,_,_,_,h=>h
 | f+1,_,_,_,_,h=>⟨h.1,fun i aG=>wpOp_mono (fun gK w' iA=>Iz f _ _ gK w' iA.2) (h.2 i aG)⟩
theorem gY.less{ls:Array Bool}{i:Nat}{w:World}:∀ (W:ku) (seen l4:List Nat),(∀ k∈l4,k∈seen∨k=i)→(∀ k∈seen,k∈l4)→i∈l4 →
  gY md ops (ls.setIfInBounds i true) w l4 W→gY md ops ls w seen W
 | [],_,_,_,_,_,_=>trivial
 | (j,C)::W,seen,l4,h1,aq,aQ,h=>by
  refine ⟨?_,gY.less W (j::seen) (j::l4) (fun k aD=>?_) (fun k aD=>?_) (List.mem_cons_of_mem _ aQ) h.2⟩
  ·rcases h.1 with h | h
   ·left
    unfold zb at *
    rw [List.any_eq_true] at *
    obtain ⟨k,aD,aY⟩:=h
    simp only [Bool.and_eq_true,Bool.not_eq_true',List.contains_eq_mem,List.mem_cons,decide_eq_false_iff_not,not_or] at aY ⊢
    obtain ⟨⟨bH,cN⟩,dq⟩:=aY
    have oY:i≠k:=fun e=>cN.2 (e ▸ aQ)
    refine ⟨k,aD,⟨?_,cN.1,fun fB=>cN.2 (aq _ fB)⟩,dq⟩
    rwa [getD_set_ne false oY] at bH
   ·exact .inr h
  ·rcases List.mem_cons.1 aD with e | aD
   ·exact .inl (e ▸ List.mem_cons_self)
   ·exact (h1 k aD).imp (List.mem_cons_of_mem _) id
  ·rcases List.mem_cons.1 aD with e | aD
   ·exact e ▸ List.mem_cons_self
   ·exact List.mem_cons_of_mem _ (aq k aD)
theorem gY.mono{ls:Array Bool}{w:World}:∀ (W:ku) (seen l4:List Nat),(∀ k∈seen,k∈l4)→gY md ops ls w l4 W→gY md ops ls w seen W
 | [],_,_,_,_=>trivial
 | (j,C)::W,seen,l4,aq,h=>by
  have th:∀ k∈j::seen,k∈j::l4:=fun k aD=>by
   rcases List.mem_cons.1 aD with e | aD
   ·exact e ▸ List.mem_cons_self
   ·exact List.mem_cons_of_mem _ (aq k aD)
  refine ⟨h.1.imp (fun h=>?_) id,gY.mono W _ _ th h.2⟩
  unfold zb at *
  rw [List.any_eq_true] at *
  obtain ⟨k,aD,aY⟩:=h
  simp only [Bool.and_eq_true,Bool.not_eq_true',List.contains_eq_mem,decide_eq_false_iff_not] at aY ⊢
  exact ⟨k,aD,⟨aY.1.1,fun fB=>aY.1.2 (th _ fB)⟩,aY.2⟩
theorem gY.more{ls:Array Bool}{i:Nat}{w:World}(mz:ls.getD i false=false):∀ (W:ku) (seen l4:List Nat),(∀ k∈l4,k∈seen∨k=i)→gY md ops ls w seen W→gY md ops (ls.setIfInBounds i true) w l4 W
 | [],_,_,_,_=>trivial
 | (j,C)::W,seen,l4,aq,h=>by
  have th:∀ k∈j::l4,k∈j::seen∨k=i:=fun k aD=>by
   rcases List.mem_cons.1 aD with e | aD
   ·exact .inl (e ▸ List.mem_cons_self)
   ·exact (aq k aD).imp (List.mem_cons_of_mem _) id
  refine ⟨h.1.imp (fun h=>?_) id,gY.more mz W _ _ th h.2⟩
  unfold zb at *
  rw [List.any_eq_true] at *
  obtain ⟨k,aD,aY⟩:=h
  simp only [Bool.and_eq_true,Bool.not_eq_true',List.contains_eq_mem,decide_eq_false_iff_not] at aY ⊢
  refine ⟨k,aD,⟨getD_set_true aY.1.1,fun fB=>?_⟩,aY.2⟩
  rcases th k fB with aQ | rfl
  ·exact aY.1.2 aQ
  ·rw [mz] at aY;exact absurd aY.1.1 (by simp)
theorem IA{Q:Exit→Act→World→Prop}{p:Nat×(World→Prop)}{W:ku}:∀ (f:Nat) (ls:Array Bool) (a:Act) (w:World),sE P md ops Q f (p::W) ls a w→sE P md ops Q f W ls a w
 | 0,_,_,_,h=>h
 | f+1,_,_,_,h=>⟨h.1,fun i aG=>wpOp_mono (fun gK w' iA=>⟨gY.mono W [] [p.1] (by simp) iA.1.2,IA f _ _ _ iA.2⟩) (h.2 i aG)⟩
theorem gY.all{ls:Array Bool}{w:World}:∀ {W:ku}{seen:List Nat},(∀ p∈W,p.2 w)→gY md ops ls w seen W
 | [],_,_=>trivial
 | _::_,_,h=>⟨.inr (h _ List.mem_cons_self),gY.all fun p bN=>h p (List.mem_cons_of_mem _ bN)⟩
def j2(J:Act→World→Prop):Exit→Act→World→Prop:=fun e a w=>e=.normal∧J a w
theorem ahl{C:World→Prop}{J:Act→World→Prop}{j:Nat}{oi oj:Oper}{v:Value}(a6:ops[j]?=some oj)(XT:oi.apart ops oj=true)
  (ZA:∀ cs b,oi.op≠.select cs b) (Gc:∀ cs b,oj.op≠.select cs b) {K:Act→World→Prop}{a:Act}{w:World}
  (cS:YieldsIn P ops C oi v a) (h:wpOp P ops (j2 J) j K (a.put oi.dst v) w) :
  wpOp P ops (j2 J) j (fun gK w'=>YieldsIn P ops C oi v gK∧K (gK.put oi.dst v) w') a w:=by
 obtain ⟨h1,aq,aQ⟩:=Oper.apart_spec XT
 have ak:∀ (a:Act),YieldsIn P ops C oi v a→∀ u,YieldsIn P ops C oi v (a.put oj.dst u):=fun a cS u=>
  cS.of_same (execOp_put oi ZA a oj.dst u aQ) (wanted_put oi a oj.dst u aQ)
 have aaw:∀ d,YieldsIn P ops C oi v { a with defers:=d::a.defers }:=fun d=>cS.of_same rfl rfl
 unfold wpOp at *
 simp only [a6] at *
 rw [wanted_put oj a oi.dst v h1] at h
 split
 ·rename_i hw
  simp only [hw,if_true] at h
  rcases h with h | ⟨L5,YU⟩
  case inr=>exact .inr ⟨by unfold Oper.asks at *;rw [execOp_put oj Gc a oi.dst v h1] at L5;exact L5,YU⟩
  refine .inl ?_
  unfold Oper.wp at *
  rw [execOp_put oj Gc a oi.dst v h1] at h
  generalize (execOp a.eval oj).run P w=r at *
  cases r with
  | ok n w'=>
   cases n <;> simp only [Oper.upon] at h ⊢
   case value u=>exact ⟨ak a cS u,by rw [← Act.put_comm a v u aq];exact h⟩
   case skip=>exact ⟨ak a cS _,by rw [← Act.put_comm a v undef aq];exact h⟩
   case defer d=>
    refine ⟨ak _ (aaw d) _,?_⟩
    rw [← Act.put_comm _ v undef aq,← Act.put_defers]
    exact h
   case enter f args=>
    refine Calls.mono h fun e wN he=>?_
    cases e with
    | returned u=>exact ⟨ak a cS u,by rw [← Act.put_comm a v u aq];exact he⟩
    | panicked c=>exact absurd he.1 (by simp)
    | outgrown=>exact he
   case row row args=>exact Rows.mono h fun u wN he=>⟨ak a cS u,by rw [← Act.put_comm a v u aq];exact he⟩
  | halt x w'=>
   cases x <;> simp only [Oper.upon] at h ⊢
   case panic u=>exact absurd h.1 (by simp)
 ·rename_i hw
  simp only [hw] at h
  exact ⟨ak a cS _,by rw [← Act.put_comm a v undef aq];exact h⟩
def r9(o:Oper):Bool:=
 match o.op with
 | .move _ | .assign _ | .pick _ _ _ | .build _ _ | .load _ _ | .binOp _ _ _ _ _ | .unOp _ _ _ | .convert _ _ _ | .sliceToArrayPointer _ _ | .slice _ _ _ _ _ | .fieldAddr _ _ _ | .field _ _ _ | .indexAddr _ _ _ | .index _ _ _ | .lookup _ _ _ _ | .extract _ _ | .nilCheck _=>true
 | .call c=>match c.callee with
  | .builtin b=>(match b with | .len | .cap | .min | .max=>true | _=>false)
  | _=>false
 | _=>false
theorem Qa{s:Sem Value}{w w':World}{f:FuncId}{args:Array Value}:Sem.run P (do pure (Next.value (← s))) w≠.ok (.enter f args) w':=by
 rw [Sem.run_bind]
 cases h:s.run P w <;> simp [Result.andThen]
theorem ac4{o:Oper}(h:r9 o=true){ρ:Operand→Value}{w w':World}{f:FuncId}{args:Array Value}:(execOp ρ o).run P w≠.ok (.enter f args) w':=by
 unfold r9 at h
 unfold execOp
 cases cB:o.op <;> simp only [cB] at h ⊢ <;> first
  | exact Qa
  | (simp at h;done)
  | skip
 case move=>simp
 case assign=>simp
 case nilCheck x=>
  split
  ·simp [runtimePanic]
  ·simp [runtimePanic]
  ·simp [runtimePanic]
  ·split
   ·simp [runtimePanic]
   ·simp only [Sem.run_bind]
    intro cC
    cases h1:Sem.run P program w <;> rw [h1] at cC <;> simp only [Result.andThen] at cC
    ·rename_i p uI
     generalize Sem.run P (nilAhead _ _ _ _) uI=r at cC
     cases r <;> simp only [Result.andThen] at cC
     ·split at cC
      ·simp [unsupported,Sem.run_bind,Result.andThen] at cC
      ·simp at cC
     ·cases cC
    ·cases cC
   ·simp
  ·simp
 case pick c a b=>
  rw [Sem.run_bind]
  cases h:(asBool (ρ c)).run P w <;> simp [Result.andThen]
 case call c=>
  cases bu:c.callee <;> simp only [bu] at h
  case builtin b=>
   cases b <;> simp only [] at h <;> first | (simp at h;done) | skip
   all_goals
    simp only [resolve,bu,Sem.run_bind,Sem.run_pure,Result.andThen_ok,invoke,builtin]
    have:=@Qa P
    simp only [Sem.run_bind] at this
    exact this
  all_goals (simp at h;done)
theorem ac5{C:World→Prop}{o:Oper}{v:Value}{a:Act}{w:World}(bN:r9 o=true)(h:o.quietAt P a C w v) :
  (execOp a.eval o).run P w=.ok (.value v) w∨((execOp a.eval o).run P w=.ok .skip w∧v=undef):=by
 unfold Oper.quietAt at h
 generalize aY:(execOp a.eval o).run P w=r at *
 cases r with
 | ok n w'=>
  cases n <;> simp only [Oper.quietUpon] at h
  case value u=>obtain ⟨rfl,rfl⟩:=h;exact .inl rfl
  case skip=>obtain ⟨rfl,rfl⟩:=h;exact .inr ⟨rfl,rfl⟩
  case enter f args=>exact absurd aY (ac4 bN)
 | halt x w'=>simp only [Oper.quietUpon] at h
theorem RY{C:World→Prop}{i:Nat}{o:Oper}{v:Value}{a:Act}{Q:Exit→Act→World→Prop}(aG:ops[i]?=some o)(bN:r9 o=true)(cS:YieldsIn P ops C o v a)
  {K:Act→World→Prop}{w:World}(tj:C w) (h:K (a.put o.dst v) w):wpOp P ops Q i K a w:=by
 unfold Go.wpOp
 simp only [aG]
 rcases cS with ⟨hw,bx⟩ | ⟨hw,rfl⟩
 ·simp only [hw,if_true]
  refine .inl ?_
  unfold Oper.wp
  rcases ac5 bN (bx w tj) with aQ | ⟨aQ,rfl⟩ <;> rw [aQ] <;> exact h
 ·simp only [hw,Bool.false_eq_true,if_false];exact h
theorem RO{J:Act→World→Prop}{C:World→Prop}{i:Nat}{oi:Oper}{v:Value}(aG:ops[i]?=some oi)(bN:r9 oi=true)(nG:∀ (j:Nat) (o:Oper) cs b,ops[j]?=some o→o.op≠.select cs b)(W:ku) :
  ∀ (f:Nat) (ls:Array Bool) (a:Act) (w:World),q6 md ops ls →
   (∀ j oj,ops[j]?=some oj→j≠i→ls.getD j true=false→(∀ e∈oj.after,Region.binds md e=true→e.on≠i)→oi.apart ops oj=true) →
   i∈Region.ready md ops ls→YieldsIn P ops C oi v a→C w→gY md ops (ls.setIfInBounds i true) w [] W →
   sE P md ops (j2 J) f ((i,C)::W) (ls.setIfInBounds i true) (a.put oi.dst v) w→sE P md ops (j2 J) (f+1) W ls a w:=by
 intro f
 induction f with
 | zero=>
  intro ls a w _ _ aY cS tj eE H
  refine ⟨fun h=>(by rw [h] at aY;cases aY),fun j a6=>?_⟩
  by_cases j9:j=i
  ·subst j9;exact RY aG bN cS tj ⟨eE,IA _ _ _ _ H⟩
  ·have:=ready_mono a6 j9
   rw [H.1] at this
   cases this
 | succ f ih=>
  intro ls a w fb x3 aY cS tj eE H
  refine ⟨fun h=>(by rw [h] at aY;cases aY),fun j a6=>?_⟩
  by_cases j9:j=i
  ·subst j9;exact RY aG bN cS tj ⟨eE,IA _ _ _ _ H⟩
  ·have h1:=H.2 j (ready_mono a6 j9)
   obtain ⟨x6,oj,tR,hi⟩:=mem_ready.1 a6
   have Mi:=(mem_ready.1 aY).1
   have F2:∀ e∈oj.after,Region.binds md e=true→e.on≠i:=fun e he au heq=>by
    have h1:=hi e he au
    rw [heq,getD_both Mi] at h1
    cases h1
   have aq:=ahl tR (x3 j oj tR j9 x6 F2) (fun cs b=>nG i oi cs b aG) (fun cs b=>nG j oj cs b tR) cS h1
   have L8:=fb.set a6
   refine wpOp_mono (fun gK w' aQ=>?_) aq
   obtain ⟨Z0,⟨yl,LX⟩,kT⟩:=aQ
   have Bh:(ls.setIfInBounds j true).setIfInBounds i true=(ls.setIfInBounds i true).setIfInBounds j true:=Array.setIfInBounds_comm _ _ j9
   have YK:(ls.setIfInBounds j true).getD i false=false:=by rw [getD_set_ne false j9];exact getD_both Mi
   have Xa:C w':=by
    rcases yl with yl | W9
    ·exfalso
     unfold zb at yl
     rw [List.any_eq_true] at yl
     obtain ⟨k,_,aD⟩:=yl
     simp only [Bool.and_eq_true,Bool.not_eq_true',List.contains_eq_mem,List.mem_cons,List.not_mem_nil,or_false,decide_eq_false_iff_not] at aD
     obtain ⟨⟨bH,cN⟩,dq⟩:=aD
     rw [← Bh,getD_set_ne false (fun e=>cN e.symm)] at bH
     have:=L8.reach _ _ _ dq bH
     rw [YK] at this
     cases this
    ·exact W9
   have Xj:gY md ops ((ls.setIfInBounds j true).setIfInBounds i true) w' [] W:=by rw [Bh];exact gY.mono W [] [i] (by simp) LX
   refine ⟨gY.less W [] [i] (fun k aD=>.inr (by simpa using aD)) (by simp) (by simp) (by rw [Bh];exact LX),?_⟩
   refine ih (ls.setIfInBounds j true) gK w' L8 (fun k ok aD oY mz il=>?_) (ready_mono aY (Ne.symm j9)) Z0 Xa Xj ?_
   ·refine x3 k ok aD oY ?_ il
    by_cases x4:j=k
    ·subst x4;exact x6
    ·rwa [getD_set_ne true x4] at mz
   ·rw [Bh]
    exact kT
variable {n:Nat}{w0:World}{L:List (Nat×Value)}{J:Act→World→Prop}
def mU(P:Program)(ops:Array Oper)(J:Act→World→Prop)(f:Nat)(W:ku)(ls:Array Bool)(a:Act)(w:World):Prop:=
 q6 .any ops ls→gY .any ops ls w [] W→sE P .any ops (j2 J) f W ls a w
theorem WY[aW]{l:List Oper}{f:Nat}{W:ku}{ls:Array Bool}{a:Act}{w:World}(i:Nat)(iJ:Array Bool){d:Option Tmp}{op:Op}{t:TypeId}{p:String}{af:Array Edge}{v:Value}{zs:List aP}{hs:List av}
  (aG:l[i]?=some ⟨d,op,t,p,af,none⟩) (gq:(r9 ⟨d,op,t,p,af,none⟩&&Region.noSelect l.toArray&&Region.free .any l.toArray ls i&&(Region.ready .any l.toArray ls).contains i&&(match d with | some k=>Nat.blt k n | none=>true))=true)
  (mx:ls.setIfInBounds i true=iJ) (ab:Fr n L a) (U:aC w0 zs hs w) (q:bL P n w0 zs hs L ⟨d,op,t,p,af,none⟩ v)
  (K:∀ a,Fr n (kL d v L) a→mU P l.toArray J f ((i,aC w0 zs hs)::W) iJ a w):mU P l.toArray J (f+1) W ls a w:=by
 intro fb eE
 subst mx
 replace aG:l.toArray[i]?=some ⟨d,op,t,p,af,none⟩:=by simpa using aG
 simp only [Bool.and_eq_true] at gq
 obtain ⟨⟨⟨⟨bN,nG⟩,bw⟩,aY⟩,aT⟩:=gq
 have aY:i∈Region.ready .any l.toArray ls:=by simpa using aY
 have cS:YieldsIn P l.toArray (aC w0 zs hs) ⟨d,op,t,p,af,none⟩ v a:=.inl ⟨rfl,fun w hw=>q a ab w hw⟩
 have E5:Fr n (kL d v L) (a.put d v):=ab.up (by cases d with | none=>trivial | some k=>exact Nat.blt_eq.mp aT)
 have mz:=getD_both (mem_ready.1 aY).1
 have tu:gY .any l.toArray (ls.setIfInBounds i true) w [] W:=gY.more mz W [] [] (by simp) eE
 refine RO (C:=aC w0 zs hs) aG bN (Region.noSelect_spec nG) W f ls a w fb (Region.free_spec aG bw) aY cS U tu ?_
 exact K _ E5 (fb.set aY) ⟨.inr U,gY.more mz W [] [i] (by simp) eE⟩
def DJ(P:Program)(ops:Array Oper)(J:Act→World→Prop)(f:Nat)(W:ku)(ls:Array Bool)(a:Act)(w:World)(i:Nat):Prop:=
 i∈Region.ready .any ops ls→q6 .any ops ls→wpOp P ops (j2 J) i (fun gK w'=>gY .any ops (ls.setIfInBounds i true) w' [] W∧sE P .any ops (j2 J) f W (ls.setIfInBounds i true) gK w') a w
def zW(p:Nat→Prop):List Nat→Prop
 | []=>True
 | i::r=>p i∧zW p r
theorem zW.mem{p:Nat→Prop}:∀ {l:List Nat},zW p l→∀ i∈l,p i
 | _::_,h,i,aG=>by
  rcases List.mem_cons.1 aG with rfl | aG
  ·exact h.1
  ·exact h.2.mem i aG
theorem fy{f:Nat}{W:ku}{ls:Array Bool}{a:Act}{w:World}(rs:List Nat)(aY:Region.ready .any ops ls=rs)(fq:rs.isEmpty=false)(h:zW (DJ P ops J f W ls a w) rs):mU P ops J (f+1) W ls a w:=by
 intro fb eE
 refine ⟨fun h0=>?_,fun i aG=>?_⟩
 ·rw [aY] at h0;subst h0;cases fq
 ·exact h.mem i (aY ▸ aG) aG fb
theorem dQ[aW]{l:List Oper}{f:Nat}{W:ku}{ls:Array Bool}{a:Act}{w:World}{i:Nat}(iJ:Array Bool){d:Option Tmp}{op:Op}{ty:TypeId}{pos:String}{af:Array Edge}{zs:List aP}{hs:List av}{K:Value→List aP→List av→Prop}
  (aG:l[i]?=some ⟨d,op,ty,pos,af,none⟩) (mx:ls.setIfInBounds i true=iJ) (ab:Fr n L a) (U:aC w0 zs hs w) (aT:(match d with | some k=>Nat.blt k n | none=>true)=true) (e:e7 P n w0 zs hs L ⟨d,op,ty,pos,af,none⟩ K)
  (h:∀ v zs' hs' a w,K v zs' hs'→Fr n (kL d v L) a→aC w0 zs' hs' w→gY .any l.toArray iJ w [] W∧mU P l.toArray J f W iJ a w):DJ P l.toArray J f W ls a w i:=by
 intro aY fb
 subst mx
 replace aG:l.toArray[i]?=some ⟨d,op,ty,pos,af,none⟩:=by simpa using aG
 unfold wpOp
 simp only [aG]
 rw [if_pos (show Region.wanted ⟨d,op,ty,pos,af,none⟩ (yielded l.toArray a.tmps)=true from rfl)]
 refine .inl (e a ab w U _ _ fun v zs' hs' w' dE ju=>?_)
 have:=h v zs' hs' _ w' dE (ab.up (by cases d with | none=>trivial | some k=>exact Nat.blt_eq.mp aT)) ju
 exact ⟨this.1,this.2 (fb.set aY) this.1⟩
theorem ei{f:Nat}{W:ku}{ls:Array Bool}{a:Act}{w:World}(aY:Region.ready .any ops ls=[])(h:J a w):mU P ops J f W ls a w:=by
 intro _ _
 cases f with
 | zero=>exact ⟨aY,rfl,h⟩
 | succ f=>exact ⟨fun _=>⟨rfl,h⟩,by rw [aY];simp⟩
theorem ho[aW]{id:Nat}{Q:Exit→Act→World→Prop}{a:Act}{w:World}{l:List Oper}{zs:List aP}{hs:List av}(ls:Array Bool)(f:Nat)(hm:P.follows .mixedOrders=true)(mx:Array.replicate l.length false=ls)(bw:l.length=f)
  (h:∀ w,Fr n L a→aC w0 zs hs w→mU P l.toArray J f [] ls a w) (K:∀ a w,J a w→Q .normal a w):Fr n L a→aC w0 zs hs w→(Code.region id l.toArray true).wp P Q a w:=by
 intro ab U
 subst mx bw
 refine Code.wp_mono (Q:=j2 J) (fun e a w q=>?_) (wp_region_any hm (Iz _ [] _ _ _ ?_))
 ·obtain ⟨rfl,a6⟩:=q;exact K _ _ a6
 ·have:=h _ ab (U.drew (w.drawn+1)) (fun k o _ aD=>?_) trivial
  ·simpa using this
  ·exact absurd aD (by simp [Array.getD_eq_getD_getElem?,Array.getElem?_replicate];split <;> simp)
theorem eI[aW]{o:Oper}{v:Value}{zs:List aP}{hs:List av}(q:bL P n w0 zs hs L o v):e7 P n w0 zs hs L o (fun dd zs' hs'=>dd=v∧zs'=zs∧hs'=hs):=by
 intro a a7 w hw next Q bA
 have:=q a a7 w hw
 unfold Oper.wp
 generalize (execOp a.eval o).run P w=res at this
 cases res with
 | halt x w'=>simp only [Oper.quietUpon] at this
 | ok nx w'=>
  cases nx <;> simp only [Oper.quietUpon] at this <;> simp only [Oper.upon]
  case value u=>obtain ⟨rfl,rfl⟩:=this;exact bA _ _ _ _ ⟨rfl,rfl,rfl⟩ hw
  case skip=>obtain ⟨rfl,rfl⟩:=this;exact bA _ _ _ _ ⟨rfl,rfl,rfl⟩ hw
  case enter f args=>
   obtain ⟨rfl,bu⟩:=this
   exact bu.mono fun e wN ⟨he,yr⟩=>by subst he;exact bA _ _ _ _ ⟨rfl,rfl,rfl⟩ yr
end
def IK[aW](n:Nat)(w0:World)(F:Prop)(L:List (Nat×Value))(Z:List aP)(H:List av):Act→World→Prop:=fun a w=>F∧Fr n (L) a∧aC w0 (Z) (H) w
theorem aah[aW]{n:Nat}{w0:World}{F:Prop}{L:List (Nat×Value)}{Z:List aP}{H:List av}{a:Act}{w:World}(bw:F)(ab:Fr n (L) a)(U:aC w0 (Z) (H) w):IK n w0 F L Z H a w:=⟨bw,ab,U⟩
def jL[aW]{α0:Type}(n:Nat)(w0:World)(F:α0→Prop)(L:α0→List (Nat×Value))(Z:α0→List aP)(H:α0→List av):Act→World→Prop:=fun a w=>∃ (cv:α0),F cv∧Fr n (L cv) a∧aC w0 (Z cv) (H cv) w
theorem ly[aW]{α0:Type}{n:Nat}{w0:World}{F:α0→Prop}{L:α0→List (Nat×Value)}{Z:α0→List aP}{H:α0→List av}{a:Act}{w:World}(cv:α0)(bw:F cv)(ab:Fr n (L cv) a)(U:aC w0 (Z cv) (H cv) w):jL n w0 F L Z H a w:=⟨cv,bw,ab,U⟩
def jM[aW]{α0 α1:Type}(n:Nat)(w0:World)(F:α0→α1→Prop)(L:α0→α1→List (Nat×Value))(Z:α0→α1→List aP)(H:α0→α1→List av):Act→World→Prop:=fun a w=>∃ (cv:α0) (bT:α1),F cv bT∧Fr n (L cv bT) a∧aC w0 (Z cv bT) (H cv bT) w
theorem kY[aW]{α0 α1:Type}{n:Nat}{w0:World}{F:α0→α1→Prop}{L:α0→α1→List (Nat×Value)}{Z:α0→α1→List aP}{H:α0→α1→List av}{a:Act}{w:World}(cv:α0)(bT:α1)(bw:F cv bT)(ab:Fr n (L cv bT) a)(U:aC w0 (Z cv bT) (H cv bT) w):jM n w0 F L Z H a w:=⟨cv,bT,bw,ab,U⟩
def iS[aW]{α0 α1 α2:Type}(n:Nat)(w0:World)(F:α0→α1→α2→Prop)(L:α0→α1→α2→List (Nat×Value))(Z:α0→α1→α2→List aP)(H:α0→α1→α2→List av):Act→World→Prop:=fun a w=>∃ (cv:α0) (bT:α1) (b5:α2),F cv bT b5∧Fr n (L cv bT b5) a∧aC w0 (Z cv bT b5) (H cv bT b5) w
theorem Gy[aW]{α0 α1 α2:Type}{n:Nat}{w0:World}{F:α0→α1→α2→Prop}{L:α0→α1→α2→List (Nat×Value)}{Z:α0→α1→α2→List aP}{H:α0→α1→α2→List av}{a:Act}{w:World}(cv:α0)(bT:α1)(b5:α2)(bw:F cv bT b5)(ab:Fr n (L cv bT b5) a)(U:aC w0 (Z cv bT b5) (H cv bT b5) w):iS n w0 F L Z H a w:=⟨cv,bT,b5,bw,ab,U⟩
def uJ[aW]{α0 α1 α2 α3:Type}(n:Nat)(w0:World)(F:α0→α1→α2→α3→Prop)(L:α0→α1→α2→α3→List (Nat×Value))(Z:α0→α1→α2→α3→List aP)(H:α0→α1→α2→α3→List av):Act→World→Prop:=fun a w=>∃ (cv:α0) (bT:α1) (b5:α2) (cY:α3),F cv bT b5 cY∧Fr n (L cv bT b5 cY) a∧aC w0 (Z cv bT b5 cY) (H cv bT b5 cY) w
theorem qN[aW]{α0 α1 α2 α3:Type}{n:Nat}{w0:World}{F:α0→α1→α2→α3→Prop}{L:α0→α1→α2→α3→List (Nat×Value)}{Z:α0→α1→α2→α3→List aP}{H:α0→α1→α2→α3→List av}{a:Act}{w:World}(cv:α0)(bT:α1)(b5:α2)(cY:α3)(bw:F cv bT b5 cY)(ab:Fr n (L cv bT b5 cY) a)(U:aC w0 (Z cv bT b5 cY) (H cv bT b5 cY) w):uJ n w0 F L Z H a w:=⟨cv,bT,b5,cY,bw,ab,U⟩
def w1[aW]{α0 α1 α2 α3 α4:Type}(n:Nat)(w0:World)(F:α0→α1→α2→α3→α4→Prop)(L:α0→α1→α2→α3→α4→List (Nat×Value))(Z:α0→α1→α2→α3→α4→List aP)(H:α0→α1→α2→α3→α4→List av):Act→World→Prop:=fun a w=>∃ (cv:α0) (bT:α1) (b5:α2) (cY:α3) (c0:α4),F cv bT b5 cY c0∧Fr n (L cv bT b5 cY c0) a∧aC w0 (Z cv bT b5 cY c0) (H cv bT b5 cY c0) w
theorem vK[aW]{α0 α1 α2 α3 α4:Type}{n:Nat}{w0:World}{F:α0→α1→α2→α3→α4→Prop}{L:α0→α1→α2→α3→α4→List (Nat×Value)}{Z:α0→α1→α2→α3→α4→List aP}{H:α0→α1→α2→α3→α4→List av}{a:Act}{w:World}(cv:α0)(bT:α1)(b5:α2)(cY:α3)(c0:α4)(bw:F cv bT b5 cY c0)(ab:Fr n (L cv bT b5 cY c0) a)(U:aC w0 (Z cv bT b5 cY c0) (H cv bT b5 cY c0) w):w1 n w0 F L Z H a w:=⟨cv,bT,b5,cY,c0,bw,ab,U⟩
def ahY[aW]{α0 α1 α2 α3 α4 α5:Type}(n:Nat)(w0:World)(F:α0→α1→α2→α3→α4→α5→Prop)(L:α0→α1→α2→α3→α4→α5→List (Nat×Value))(Z:α0→α1→α2→α3→α4→α5→List aP)(H:α0→α1→α2→α3→α4→α5→List av):Act→World→Prop:=fun a w=>∃ (cv:α0) (bT:α1) (b5:α2) (cY:α3) (c0:α4) (dR:α5),F cv bT b5 cY c0 dR∧Fr n (L cv bT b5 cY c0 dR) a∧aC w0 (Z cv bT b5 cY c0 dR) (H cv bT b5 cY c0 dR) w
end Go.aJ
end
section
namespace Go.aJ
section
variable {P:Program}{n:Nat}{w0:World}{zs:List aP}{hs:List av}{L:List (Nat×Value)}{d:Option Tmp}{ty t bZ:TypeId}{pos:String}{af:Array Edge}{g:Option (Nat×Bool)}
variable {x y c nI nJ ki:Operand}{u v:Value}{ops:Array Oper}{rest:List Oper}
theorem adD[aW]{bM:TypeDesc}{s bp:Nat}{zv:Value}(aM:a1 P t bM s bp zv){b:Nat}{bt:TypeId}{cs:List Value}{fz:Nat×Nat}(h1:aU L x=some (.pointer (some ⟨b,0,none⟩)))(aD:w0.heap[b]?=some (.cells cs.toArray bt fz))(hl:cs.length=s)(aT:eV bM=true) :
  bL P n w0 zs hs L ⟨d,.load t x,ty,pos,af,g⟩ (.agg cs.toArray):=
 adC aM h1 aD (by simp only [List.drop_zero];rw [List.take_of_length_le (by omega)]) (by simp;omega) aT
theorem vT{L:List (Nat×Value)}:∀ (l:List (Nat×Operand)) (vs:List Value),ic L (l.map (·.2))=some vs→(l.mapM fun p=>(aU L p.2).map fun v=>(p.1,v))=some (List.zip (l.map (·.1)) vs)
 | [],vs,h=>by simp [ic] at h;subst h;rfl
 | p::l,vs,h=>by
  rw [List.mapM_cons]
  simp only [List.map_cons] at h
  cases cB:aU L p.2 with
  | none=>simp [ic,cB] at h
  | some u=>
   cases hm:ic L (l.map (·.2)) with
   | none=>simp [ic,cB,hm] at h
   | some r=>
    simp [ic,cB,hm] at h
    subst h
    simp [vT l r hm]
@[reducible,simp] def hf:List (List Value)→List Value→List Value
 | [],r=>r
 | p::ps,r=>p++hf ps r
@[reducible,simp] def l5:List (List Value)→Nat
 | []=>0
 | p::ps=>p.length+l5 ps
theorem nN:∀ (ps:List (List Value)) (r:List Value),hf ps r=ps.flatten++r
 | [],_=>rfl
 | p::ps,r=>by simp [hf,nN ps r]
theorem nM:∀ (ps:List (List Value)),l5 ps=ps.flatten.length
 | []=>rfl
 | p::ps=>by simp [l5,nM ps]
theorem adG[aW]{α:Type}{f:α→Value}{bM:TypeDesc}{s bp:Nat}{zv:Value}(aM:a1 P t bM s bp zv)(k:Nat)(ps:List (List Value)){b off:Nat}{bt:TypeId}{post:List Value}{xs:List α}(h1:aU L x=some (.pointer (some ⟨b,off,none⟩)))(aD:hs[k]?=some (.blk b bt (hf ps (xs.map f++post))))(cB:off=l5 ps)(hl:xs.length=s)(aT:eV bM=true) :
  bL P n w0 zs hs L ⟨d,.load t x,ty,pos,af,g⟩ (.agg (xs.map f).toArray):=by
 subst cB hl
 rw [nN] at aD
 refine yW aM k h1 aD ?_ ?_ aT
 ·rw [nM,List.drop_left,List.take_left' (by simp)]
 ·rw [nM];simp
theorem Cl[aW]{bM:TypeDesc}{s bp:Nat}{zv:Value}(aM:a1 P t bM s bp zv)(k:Nat)(ps:List (List Value)){b off:Nat}{bt:TypeId}{post:List Value}{r:Value}(h1:aU L x=some (.pointer (some ⟨b,off,none⟩)))(aD:hs[k]?=some (.blk b bt (hf ps (r::post))))(cB:off=l5 ps)(aT:eV bM=false) :
  bL P n w0 zs hs L ⟨d,.load t x,ty,pos,af,g⟩ r:=by
 subst cB
 rw [nN] at aD
 refine bc aM k h1 aD ?_ aT
 rw [nM]
 simp
theorem adH[aW]{α:Type}{f:α→Value}{bM:TypeDesc}{s bp:Nat}{zv:Value}(aM:a1 P t bM s bp zv)(k:Nat)(ps:List (List Value))(hI:α){b uf j:Nat}{bt:TypeId}{post:List Value}{xs:List α}(h1:aU L x=some (.pointer (some ⟨b,uf+j*1,none⟩)))(aD:hs[k]?=some (.blk b bt (hf ps (xs.map f++post))))(cB:uf=l5 ps)(hl:j<xs.length)(aT:eV bM=false) :
  bL P n w0 zs hs L ⟨d,.load t x,ty,pos,af,g⟩ (f (xs.getD j hI)):=by
 subst cB
 rw [nN] at aD
 refine adA aM k j hI h1 aD ?_ hl aT
 rw [nM]
 simp
theorem UI[aW]{α:Type}{f:α→Value}{bM:TypeDesc}{s bp:Nat}{zv:Value}(aM:a1 P t bM s bp zv)(k:Nat)(ps:List (List Value)){b off:Nat}{bt:TypeId}{post:List Value}{xs ys:List α}(h1:aU L x=some (.pointer (some ⟨b,off,none⟩)))(aq:aU L y=some (.agg (ys.map f).toArray))(aD:hs[k]?=some (.blk b bt (hf ps (xs.map f++post))))(cB:off=l5 ps)(hl:xs.length=s)(vC:ys.length=s)(nw:∀ u,(f u).oneCell'=true) :
  e7 P n w0 zs hs L ⟨d,.store t x y,ty,pos,af,g⟩ (fun v zs' hs'=>v=undef∧zs'=zs∧hs'=hs.set k (.blk b bt (hf ps (ys.map f++post)))):=by
 subst cB hl
 rw [nN] at aD
 refine Ej aM k h1 aq aD rfl (by simp [vC]) (by simp [nw]) ?_ ?_
 ·rw [nM];simp
 ·rw [nM,nN,List.take_left,← List.drop_drop,List.drop_left,List.drop_left' (by simp),List.append_assoc]
theorem UJ[aW]{bM:TypeDesc}{bp:Nat}{zv:Value}(aM:a1 P t bM 1 bp zv)(k:Nat)(ps:List (List Value)){b off:Nat}{bt:TypeId}{post:List Value}{r eR:Value}(h1:aU L x=some (.pointer (some ⟨b,off,none⟩)))(aq:aU L y=some eR)(aD:hs[k]?=some (.blk b bt (hf ps (r::post))))(cB:off=l5 ps)(nw:eR.oneCell'=true) :
  e7 P n w0 zs hs L ⟨d,.store t x y,ty,pos,af,g⟩ (fun v zs' hs'=>v=undef∧zs'=zs∧hs'=hs.set k (.blk b bt (hf ps (eR::post)))):=by
 subst cB
 rw [nN] at aD
 have:=c7 (ty:=ty) (pos:=pos) (af:=af) (g:=g) (d:=d) (n:=n) (w0:=w0) (zs:=zs) aM k h1 aq aD nw (by rw [nM];simp)
 rwa [show (ps.flatten++r::post).set (l5 ps) eR=hf ps (eR::post) by rw [nM,nN];simp] at this
theorem afD{α:Type}{f:α→Value}(ps:List (List Value))(xs:List α)(post:List Value):((hf ps (xs.map f++post)).drop (l5 ps)).take xs.length=xs.map f:=by
 rw [nN,nM,List.drop_left,List.take_left' (by simp)]
theorem Tc{α:Type}{f:α→Value}{p:α→Prop}{h0:∀ x,(f x).oneCell'=true}{w:World}(U:aC w0 zs hs w)(k:Nat)(ps:List (List Value)){b off m c:Nat}{bt:TypeId}{post:List Value}{xs:List α}(aD:hs[k]?=some (.blk b bt (hf ps (xs.map f++post))))(cB:off=l5 ps)(hm:m=xs.length∧m≤c∧m≤140737488355328)(bN:∀ x∈xs,p x) :
  bg (kR f p h0) (b1 w) (.slice (some ⟨b,off,none⟩) m c) xs:=
 JL U k aD (by subst cB;rw [hm.1];exact afD ps xs post) hm bN
theorem dC:∀ u∈([]:List Value),u.oneCell'=true:=fun _ h=>absurd h (by simp)
theorem acj{a b:List Value}(h1:∀ u∈a,u.oneCell'=true)(aq:∀ u∈b,u.oneCell'=true):∀ u∈a++b,u.oneCell'=true:=fun u h=>(List.mem_append.1 h).elim (h1 u) (aq u)
theorem ack{α:Type}{f:α→Value}{l:List α}(h1:∀ u,(f u).oneCell'=true):∀ u∈l.map f,u.oneCell'=true:=fun u h=>by obtain ⟨x,_,rfl⟩:=List.mem_map.1 h;exact h1 x
theorem bn{v:Value}{l:List Value}(h1:v.oneCell'=true)(aq:∀ u∈l,u.oneCell'=true):∀ u∈v::l,u.oneCell'=true:=fun u h=>by (rcases List.mem_cons.1 h with rfl | h;exact h1;exact aq u h)
theorem acm{v:Value}{n:Nat}(h1:v.oneCell'=true):∀ u∈List.replicate n v,u.oneCell'=true:=fun u h=>by rw [(List.mem_replicate.1 h).2];exact h1
theorem run_places{fs:List Field}{w:World}:∀ {places:List (Nat×Nat)},(fs.mapM fun f=>(P.info? f.type).map fun i=>(f.offset,i.size))=some places→(fs.mapM fun f=>(do pure (f.offset,← sizeOf f.type):Sem (Nat×Nat))).run P w=.ok places w:=by
 induction fs with
 | nil=>intro places h;simp at h;subst h;simp
 | cons f fs ih=>
  intro places h
  rw [List.mapM_cons] at h
  cases aG:P.info? f.type with
  | none=>simp [aG] at h
  | some i=>
   cases hm:(fs.mapM fun f=>(P.info? f.type).map fun i=>(f.offset,i.size)) with
   | none=>simp [aG,hm] at h
   | some r=>
    simp [aG,hm] at h
    subst h
    rw [List.mapM_cons]
    have js:(sizeOf f.type).run P w=.ok i.size w:=by simp [sizeOf,typeInfo,aG]
    simp only [Sem.run_bind,js,Result.andThen_ok,Sem.run_pure]
    have:=ih hm
    rw [this]
    simp
theorem HH{fs:List Field}{s bp:Nat}{zv:Value}(aM:a1 P t (.struct fs.toArray) s bp zv){places:List (Nat×Nat)}(bN:(fs.mapM fun f=>(P.info? f.type).map fun i=>(f.offset,i.size))=some places){parts:List (Nat×Value)}{cells:List Value}(bw:Instr.fill (places.toArray[·]?) zv.cells parts=some cells.toArray)(w:World) :
  (Instr.build t parts.toArray).run P w=.ok (.agg cells.toArray) w:=by
 have h1:=run_places (P:=P) (w:=w) bN
 have aq:(fs.toArray.mapM fun f=>(do pure (f.offset,← sizeOf f.type):Sem (Nat×Nat))).run P w=.ok places.toArray w:=by
  rw [List.mapM_toArray,Sem.run_map,h1]
  rfl
 simp only [Instr.build,aM.zero,Sem.run_bind,Result.andThen_ok,run_underlying aM.und]
 rw [aq]
 simp only [List.getElem?_toArray] at bw
 simp [bw]
theorem yP[aW]{xs:List UInt8}{e:TypeId}{b m c:Nat}{bt:TypeId}{s bp s' gB lG lp:Nat}{zv lL lM:Value}(aM:a1 P t (.slice e) s bp zv)(gh:a1 P bZ .string s' gB lL)(cg:a1 P e (.int .u8) lG lp lM)(k:Nat)(h1:aU L x=some (.slice (some ⟨b,0,none⟩) m c))(aD:hs[k]?=some (.blk b bt (xs.map bf)))(hm:xs.length=m) :
  bL P n w0 zs hs L ⟨d,.convert t bZ x,ty,pos,af,g⟩ (vs xs):=by
 subst hm
 exact OI aM gh cg k h1 aD (by rw [List.drop_zero,List.take_of_length_le (by simp)])
theorem Eo:∀ (vs pre post:List Value),(∀ v∈vs,v.oneCell'=true)→post.length=vs.length→Instr.fill (fun i=>some (i*1,1)) (pre++post).toArray (List.zip (List.range' pre.length vs.length) vs)=some (pre++vs).toArray
 | [],pre,post,_,bN=>by
  have:post=[]:=List.eq_nil_of_length_eq_zero (by simpa using bN)
  subst this
  simp [Instr.fill]
 | v::vs,pre,post,h1,bN=>by
  cases post with
  | nil=>simp at bN
  | cons p post=>
   have bx:=h1 v (by simp)
   have bu:v.cells=#[v]:=by cases v <;> first | rfl | (simp [Value.oneCell'] at bx)
   rw [List.length_cons,List.range'_succ,List.zip_cons_cons]
   simp only [Instr.fill,bu]
   rw [if_neg (by simp)]
   have e:(Array.foldl (fun cs (x:Value×Nat)=>cs.setIfInBounds (pre.length*1+x.2) x.1) (pre++p::post).toArray (#[v].zipIdx))=((pre++[v])++post).toArray:=by
    simp
   have ih:=Eo vs (pre++[v]) post (fun u hu=>h1 u (by simp [hu])) (by simpa using bN)
   rw [show (pre++[v]).length=pre.length+1 by simp] at ih
   refine Eq.trans ?_ (ih.trans (by simp))
   rw [← e]
theorem KF{m:Nat}{cells:Array Value}{vs:List Value}(hm:cells.size=m)(hl:vs.length=m)(h1:∀ v∈vs,v.oneCell'=true):Instr.fill (fun i=>some (i*1,1)) cells (List.zip (List.range' 0 vs.length) vs)=some vs.toArray:=by
 have:=Eo vs [] cells.toList h1 (by simp [hm,hl])
 simpa using this
theorem dX[aW]{e:TypeId}{s bp:Nat}{zv:Value}(aM:a1 P t (.slice e) s bp zv){de:TypeDesc}{be:Nat}{ze:Value}(cg:a1 P e de 1 be ze){m:Nat}{parts:Array (Nat×Operand)}{vs:List Value}(h1:ic L (parts.toList.map (·.2))=some vs)
  (tI:parts.toList.map (·.1)=List.range' 0 vs.length) (nw:∀ v∈vs,v.oneCell'=true) (au:m*1≤16777216) (h0:(m*1 == 0)=false) (hl:vs.length=m) :
  e7 P n w0 zs hs L ⟨d,.buildSlice t m parts,ty,pos,af,g⟩ (fun v zs' hs'=>zs'=zs∧hs'=.row v e 1 m vs::hs):=
 Eg aM cg (vT _ _ h1) (by rw [tI];exact KF (m:=m) (by simp) hl nw) au h0 (by simpa using hl)
theorem adn[aW]{fs:List Field}{s bp:Nat}{zv:Value}(aM:a1 P t (.struct fs.toArray) s bp zv){places:List (Nat×Nat)}(bN:(fs.mapM fun f=>(P.info? f.type).map fun i=>(f.offset,i.size))=some places){parts:Array (Nat×Operand)}{vs:List Value}(h1:ic L (parts.toList.map (·.2))=some vs)
  (bw:Instr.fill (places.toArray[·]?) zv.cells (List.zip (parts.toList.map (·.1)) vs)=some vs.toArray) :
  bL P n w0 zs hs L ⟨d,.build t parts,ty,pos,af,g⟩ (.agg vs.toArray):=
 oo (vT _ _ h1) (HH aM bN bw)
theorem P8{e sT:TypeId}{s bp:Nat}{zv:Value}(aM:a1 P t (.slice e) s bp zv){de:TypeDesc}{be:Nat}{ze:Value}(cg:a1 P e de 1 be ze){w:World}{b off dl dc:Nat}{bt:TypeId}{cs:List Value}(tx:List UInt8)(au:w.heap[b]?=some (.cells cs.toArray bt (0,0)))(hl:off+dl≤cs.length)(ty:TypeId) :
  (Builtin.copy_ #[t,sT] ty #[.slice (some ⟨b,off,none⟩) dl dc,vs tx]).run P w=.ok (az (min tx.length dl)) (w.setRow b (cs.take off++(tx.take (min tx.length dl)).map bf++cs.drop (off+min tx.length dl)).toArray):=by
 have fJ:=run_storeCells_at P b off bt ((tx.take (min tx.length dl)).map bf) 0 cs.toArray w au (by simp;omega) (by intro v bx;obtain ⟨_,_,rfl⟩:=List.mem_map.1 bx;rfl)
 simp only [Nat.add_zero] at fJ
 have hm:∀ a b:Nat,Nat.min a b=min a b:=fun _ _=>rfl
 simp [Builtin.copy_,run_underlying aM.und,Builtin.lenOf,Builtin.firstCells,cg.sizeOf,hm]
 have dZ:(cP tx).size=tx.length:=by simp [cP,ByteArray.size]
 rw [dZ]
 have bK:List.take (min tx.length dl) (List.map (fun b=>Value.int IntKind.u8 ↑b.toNat) tx)=List.map bf (List.take (min tx.length dl) tx):=by rw [List.map_take]
 rw [bK,fJ]
 have hlen:(List.map bf (List.take (min tx.length dl) tx)).length=min tx.length dl:=by simp
 rw [hlen]
 simp only [Result.andThen_ok,List.append_assoc,List.map_take]
 have:goInt ((min tx.length dl:Nat):Int)=az (min (tx.length:Int) (dl:Int)):=by
  rw [show ((min tx.length dl:Nat):Int)=min (tx.length:Int) (dl:Int) by omega]
  rfl
 rw [this]
theorem UB[aW]{e sT:TypeId}{s bp:Nat}{zv:Value}(aM:a1 P t (.slice e) s bp zv){de:TypeDesc}{be:Nat}{ze:Value}(cg:a1 P e de 1 be ze)(k:Nat)(ps:List (List Value)){b uf j dl dc:Nat}{bt:TypeId}{post:List Value}{xs tx:List UInt8}
  (h1:aU L x=some (.slice (some ⟨b,uf+j*1,none⟩) dl dc)) (aq:aU L y=some (vs tx)) (aD:hs[k]?=some (.blk b bt (hf ps (xs.map bf++post)))) (cB:uf=l5 ps) (hl:j+dl≤xs.length) :
  e7 P n w0 zs hs L ⟨d,.call ⟨.builtin .copy,#[x,y],#[t,sT]⟩,ty,pos,af,g⟩ (fun v zs' hs'=>v=az (min tx.length dl)∧zs'=zs∧hs'=hs.set k (.blk b bt (hf ps ((xs.take j++(tx.take (min tx.length dl)++xs.drop (j+min tx.length dl))).map bf++post)))):=
 jD fun a a7 w hw=>by
  subst cB
  have au:=(hw.own _ (List.mem_of_getElem? aD)).1
  have aY:=P8 (sT:=sT) aM cg (w:=w) (off:=l5 ps+j*1) (dl:=dl) (dc:=dc) tx au.2 (by rw [nN,nM];simp;omega) ty
  have he:(List.take (l5 ps+j*1) (hf ps (xs.map bf++post))++List.map bf (List.take (min tx.length dl) tx)++List.drop (l5 ps+j*1+min tx.length dl) (hf ps (xs.map bf++post)))=hf ps ((xs.take j++(tx.take (min tx.length dl)++xs.drop (j+min tx.length dl))).map bf++post):=by
   rw [nN,nN,nM,Nat.mul_one,List.take_length_add_append,Nat.add_assoc,List.drop_length_add_append,List.take_append_of_le_length (by simp;omega),List.drop_append_of_le_length (by simp;omega)]
   simp
  have U:=hw.store (off:=l5 ps+j*1) (c:=(tx.take (min tx.length dl)).map bf) aD (by rw [nN,nM];simp;omega)
  rw [show ((tx.take (min tx.length dl)).map bf).length=min tx.length dl by simp] at U
  rw [he] at aY U
  generalize w.setRow b _=lJ at aY U
  refine ⟨_,zs,_,_,.inl ?_,⟨rfl,rfl,rfl⟩,U⟩
  simp only [Nat.mul_one] at aY
  simp only [execOp,resolve]
  simp [invoke,builtin,a7.eval h1,a7.eval aq,aY]
end
end Go.aJ
end
