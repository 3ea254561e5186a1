/- walks and plain laws -/
import Derived.WalkKit
import Derived.Deep.Quiet
import Derived.Deep.AppendSrc
import Derived.Laws.BytesArg
import Derived.Laws.CopyOwn
import Derived.Laws.MakeOwn
import Derived.StillTail
set_option linter.all false
theorem _root_.ag{p:Prop}(h:p:=by omega):p:=h
theorem _root_.a8{p:Prop}(h:p:=by decide):p:=h
section
/- Frames and heaps told by relations: a framework for walks over Go code. -/
namespace Go.aK
def look:List (Nat×Value)→Nat→Option Value
 | [],_=>none
 | (s,v)::r,t=>bif Nat.beq s t then some v else look r t
class a1 where
 ds:List Deferred
instance ak9:a1:=⟨[]⟩
structure Fr [I:a1] (n:Nat) (L:List (Nat×Value)) (a:Act):Prop where
 size:a.tmps.size=n
 nodef:a.defers=I.ds
 get:∀ t v,look L t=some v→a.tmps[t]?=some v
def aW(L:List (Nat×Value)):Operand→Option Value
 | .tmp t=>look L t
 | .const v=>some v
 | .global g=>some (.pointer (some ⟨g,0,none⟩))
 | .func f=>some (.func (.func f) #[] #[])
theorem Fr.eval[a1]{n L a}(h:Fr n L a){o:Operand}{v:Value}(cH:aW L o=some v):a.eval o=v:=by
 cases o with
 | tmp t=>
  have:=h.get t v cH
  simp [Act.eval,Array.getD_eq_getD_getElem?,this]
 | const dr=>simpa [aW,Act.eval] using cH
 | global g=>simpa [aW,Act.eval] using cH
 | func f=>simpa [aW,Act.eval] using cH
theorem Fr.put[a1]{n L a}(h:Fr n L a){d:Nat}{v:Value}(aT:d<n):Fr n ((d,v)::L) (a.put (some d) v):=by
 refine ⟨by simp [Act.put,h.size],h.nodef,fun t u hu=>?_⟩
 simp only [Act.put]
 unfold look at hu
 cases aw:Nat.beq d t with
 | true=>
  have:d=t:=Nat.eq_of_beq_eq_true aw
  subst this
  simp only [aw,cond_true,Option.some.injEq] at hu
  subst hu
  simp [h.size,aT]
 | false=>
  have fG:d≠t:=Nat.ne_of_beq_eq_false aw
  simp only [aw,cond_false] at hu
  rw [Array.getElem?_setIfInBounds_ne fG]
  exact h.get t u hu
def SC(L:List (Nat×Value)):List (Nat×Value)→Prop
 | []=>True
 | (t,v)::r=>look L t=some v∧SC L r
theorem Fr.sub[a1]{n L a}(h:Fr n L a):∀ {L'},SC L L'→Fr n L' a
 | [],_=>⟨h.size,h.nodef,fun t v bA=>by simp [look] at bA⟩
 | (s,u)::r,⟨h1,ar⟩=>by
  refine ⟨h.size,h.nodef,fun t v bA=>?_⟩
  unfold look at bA
  cases aw:Nat.beq s t with
  | true=>
   have:s=t:=Nat.eq_of_beq_eq_true aw
   subst this
   simp only [aw,cond_true,Option.some.injEq] at bA
   subst bA
   exact h.get _ _ h1
  | false=>
   simp only [aw,cond_false] at bA
   exact (h.sub ar).get t v bA
def pI:Nat→List Value→List (Nat×Value)
 | _,[]=>[]
 | k,v::r=>(k,v)::pI (k+1) r
theorem Pk:∀ (l:List Value) (k t:Nat) (v:Value),look (pI k l) t=some v→k≤t∧l[t-k]?=some v
 | [],_,_,_,h=>by simp [pI,look] at h
 | u::r,k,t,v,h=>by
  unfold pI look at h
  cases aw:Nat.beq k t with
  | true=>
   have:k=t:=Nat.eq_of_beq_eq_true aw
   subst this
   simp only [aw,cond_true,Option.some.injEq] at h
   simp [h]
  | false=>
   have fG:k≠t:=Nat.ne_of_beq_eq_false aw
   simp only [aw,cond_false] at h
   obtain ⟨h1,ar⟩:=Pk r (k+1) t v h
   refine ⟨by omega,?_⟩
   have:t-k=(t-(k+1))+1:=by omega
   rw [this]
   simpa using ar
theorem Fr.enter(n:Nat)(l:List Value)(bD:l.length≤n):Fr n (pI 0 l) { tmps:=l.toArray++Array.replicate (n-l.toArray.size) undef,defers:=[] }:=by
 refine ⟨by simp;omega,rfl,fun t v bA=>?_⟩
 obtain ⟨_,h⟩:=Pk l 0 t v bA
 have gK:t<l.length:=by
  rcases Nat.lt_or_ge t l.length with jf | jf
  ·exact jf
  ·simp [List.getElem?_eq_none jf] at h
 simp only [Nat.sub_zero] at h
 rw [Array.getElem?_append_left (by simpa using gK)]
 simpa using h
abbrev aR:=Nat→Option Obj
def cf(w:World):aR:=fun b=>w.heap[b]?
def aR.le(z z':aR):Prop:=∀ b o,z b=some o→z' b=some o
theorem aR.le_refl(z:aR):z.le z:=fun _ _ h=>h
theorem aR.le_trans{a b c:aR}(h:a.le b)(jf:b.le c):a.le c:=fun x o e=>jf x o (h x o e)
inductive aC where
 | blk (b:Nat) (ty:TypeId) (cells:List Value)
 | row (v:Value) (e:TypeId) (size n:Nat) (xs:List Value)
 | mp (b:Nat) (es:List MapEntry) (clock:Nat)
def aC.id:aC→Option Nat
 | .blk b _ _=>some b
 | .row v _ _ _ _=>v.ownBlock
 | .mp b _ _=>some b
def aC.ok(base:Nat)(w:World):aC→Prop
 | .blk b ty cells=>base≤b∧w.heap[b]?=some (.cells cells.toArray ty (0,0))
 | .row v e size n xs=>w.ownsRow base e size v n xs
 | .mp b es clock=>base≤b∧w.heap[b]?=some (.map es.toArray clock)
theorem aC.nc{base w}:∀ {r:aC},r.ok base w→∀ b,r.id=some b→base≤b∧b<w.heap.size
 | .blk b ty cells,h,k,aE=>by
  simp only [aC.id,Option.some.injEq] at aE
  subst aE
  exact ⟨h.1,(Array.getElem?_eq_some_iff.1 h.2).1⟩
 | .row ..,h,k,aE=>World.ownsRow.lt h k aE
 | .mp b es clock,h,k,aE=>by
  simp only [aC.id,Option.some.injEq] at aE
  subst aE
  exact ⟨h.1,(Array.getElem?_eq_some_iff.1 h.2).1⟩
theorem aC.vu{base w w'}:∀ {r:aC},r.ok base w→(∀ b,r.id=some b→w'.heap[b]?=w.heap[b]?)→r.ok base w'
 | .blk b ty cells,h,aE=>⟨h.1,by rw [aE b rfl];exact h.2⟩
 | .row v e size n xs,h,aE=>by
  refine ⟨h.1,?_⟩
  rcases h.2 with bD | ⟨g,cap,cur,rfl,aw,aaM,rest⟩
  ·exact .inl bD
  ·exact .inr ⟨g,cap,cur,rfl,aw,by rw [aE g rfl];exact aaM,rest⟩
 | .mp b es clock,h,aE=>⟨h.1,by rw [aE b rfl];exact h.2⟩
structure mW (w0 w:World):Prop where
 os:w.os=w0.os
 tape:w.tape=w0.tape
 output:w.output=w0.output
theorem mW.refl(w:World):mW w w:=⟨rfl,rfl,rfl⟩
theorem mW.trans{a b c:World}(h:mW a b)(k:mW b c):mW a c:=⟨k.os.trans h.os,k.tape.trans h.tape,k.output.trans h.output⟩
structure aB (w0:World) (zs:List aR) (hs:List aC) (w:World):Prop where
 ext:(cf w0).le (cf w)
 zone:∀ z∈zs,z.le (cf w)∧∀ b o,z b=some o→w0.heap.size≤b
 own:∀ r∈hs,r.ok w0.heap.size w∧∀ b,r.id=some b→∀ z∈zs,z b=none
 nd:(hs.filterMap aC.id).Nodup
 io:mW w0 w
theorem lb{w:World}{b:Nat}{o:Obj}(h:cf w b=some o):b<w.heap.size:=(Array.getElem?_eq_some_iff.1 h).1
theorem Qs{w:World}{b:Nat}(h:b<w.heap.size):∃ o,cf w b=some o:=⟨w.heap[b],by simp [cf,h]⟩
theorem le_size{w w':World}(h:(cf w).le (cf w')):w.heap.size≤w'.heap.size:=by
 rcases Nat.eq_zero_or_pos w.heap.size with h0 | h0
 ·omega
 ·obtain ⟨o,cH⟩:=Qs (w:=w) (b:=w.heap.size-1) ag
  have:=lb (h _ _ cH)
  omega
theorem le_eq{w w':World}(h:(cf w).le (cf w')){b:Nat}(aw:b<w.heap.size):w'.heap[b]?=w.heap[b]?:=by
 obtain ⟨o,cH⟩:=Qs aw
 have:=h _ _ cH
 simp only [cf] at cH this
 rw [cH,this]
theorem aB.start(w:World):aB w [] [] w:=
 ⟨aR.le_refl _,by simp,by simp,by simp,mW.refl _⟩
theorem aB.drew{w0 zs hs w}(h:aB w0 zs hs w)(n:Nat):aB w0 zs hs { w with drawn:=n }:=
 ⟨h.ext,h.zone,fun r aY=>⟨aC.vu (h.own r aY).1 fun _ _=>rfl,(h.own r aY).2⟩,h.nd,h.io.trans ⟨rfl,rfl,rfl⟩⟩
theorem aB.later{w0 zs hs w w'}(h:aB w0 zs hs w)(hl:(cf w).le (cf w'))(rH:mW w w'):aB w0 zs hs w':=
 ⟨aR.le_trans h.ext hl,fun z bj=>⟨aR.le_trans (h.zone z bj).1 hl,(h.zone z bj).2⟩,
  fun r aY=>⟨aC.vu (h.own r aY).1 fun b aw=>le_eq hl (aC.nc (h.own r aY).1 b aw).2,(h.own r aY).2⟩,h.nd,h.io.trans rH⟩
theorem aB.call{w0 zs hs w zs' hs' w'}(h:aB w0 zs hs w)(bq:aB w zs' hs' w'):aB w0 (zs'++zs) (hs'++hs) w':=by
 have hl:=bq.ext
 have eF:=le_size h.ext
 have h1:=h.later hl bq.io
 refine ⟨h1.ext,?_,?_,?_,h1.io⟩
 ·intro z bj
  rcases List.mem_append.1 bj with bj | bj
  ·exact ⟨(bq.zone z bj).1,fun b o aw=>Nat.le_trans eF ((bq.zone z bj).2 b o aw)⟩
  ·exact h1.zone z bj
 ·intro r aY
  rcases List.mem_append.1 aY with aY | aY
  ·refine ⟨?_,fun b aw z bj=>?_⟩
   ·have:=(bq.own r aY).1
    cases r with
    | blk b ty cells=>exact ⟨Nat.le_trans eF this.1,this.2⟩
    | mp b es clock=>exact ⟨Nat.le_trans eF this.1,this.2⟩
    | row v e size n xs=>
     refine ⟨this.1,?_⟩
     rcases this.2 with bD | ⟨g,cap,cur,bA,aw,rest⟩
     ·exact .inl bD
     ·exact .inr ⟨g,cap,cur,bA,Nat.le_trans eF aw,rest⟩
   ·rcases List.mem_append.1 bj with bj | bj
    ·exact (bq.own r aY).2 b aw z bj
    ·have m3:=(aC.nc (bq.own r aY).1 b aw).1
     cases gn:z b with
     | none=>rfl
     | some o=>
      have:=lb ((h.zone z bj).1 b o gn)
      omega
  ·refine ⟨(h1.own r aY).1,fun b aw z bj=>?_⟩
   rcases List.mem_append.1 bj with bj | bj
   ·have gK:=(aC.nc (h.own r aY).1 b aw).2
    cases gn:z b with
    | none=>rfl
    | some o=>
     have:=(bq.zone z bj).2 b o gn
     omega
   ·exact (h1.own r aY).2 b aw z bj
 ·rw [List.filterMap_append,List.nodup_append]
  refine ⟨bq.nd,h.nd,fun b aw ha CC e=>?_⟩
  subst e
  obtain ⟨r,aY,bL⟩:=List.mem_filterMap.1 aw
  obtain ⟨fe,qz,bT⟩:=List.mem_filterMap.1 CC
  have h1:=(aC.nc (bq.own r aY).1 b bL).1
  have ar:=(aC.nc (h.own fe qz).1 b bT).2
  omega
theorem FT{hs hs':List aC}(h:hs'.Sublist hs)(bD:(hs.filterMap aC.id).Nodup):(hs'.filterMap aC.id).Nodup:=
 List.Sublist.nodup (h.filterMap _) bD
theorem aB.ao{w0 zs hs w}(h:aB w0 zs hs w){zs' hs'}(h1:zs'.Sublist zs)(ar:hs'.Sublist hs):aB w0 zs' hs' w:=
 ⟨h.ext,fun z bj=>h.zone z (h1.subset bj),fun r aY=>⟨(h.own r (ar.subset aY)).1,fun b aw z bj=>(h.own r (ar.subset aY)).2 b aw z (h1.subset bj)⟩,FT ar h.nd,h.io⟩
theorem aB.perm{w0 zs hs w}(h:aB w0 zs hs w){hs'}(ar:hs'.Perm hs):aB w0 zs hs' w:=
 ⟨h.ext,h.zone,fun r aY=>h.own r (ar.subset aY),(List.Perm.nodup_iff (ar.filterMap _)).2 h.nd,h.io⟩
theorem aB.set{w0 zs hs w w'}(h:aB w0 zs hs w){k:Nat}{r fe:aC}(aE:hs[k]?=some r)(nJ:fe.id=r.id)(hw:∀ b,r.id≠some b→w'.heap[b]?=w.heap[b]?)(k5:fe.ok w0.heap.size w')(eF:w.heap.size≤w'.heap.size)(rH:mW w w') :
  aB w0 zs (hs.set k fe) w':=by
 have qw:r∈hs:=List.mem_of_getElem? aE
 have oW:k<hs.length:=(List.getElem?_eq_some_iff.1 aE).1
 have fG:∀ b o,(b<w0.heap.size∨∃ z∈zs,z b=some o)→r.id≠some b:=by
  intro b o aw e
  rcases aw with aw | ⟨z,bj,gn⟩
  ·have:=(aC.nc (h.own r qw).1 b e).1;omega
  ·have:=(h.own r qw).2 b e z bj;rw [this] at gn;cases gn
 refine ⟨fun b o aw=>?_,fun z bj=>⟨fun b o aw=>?_,(h.zone z bj).2⟩,fun s c5=>?_,?_,h.io.trans rH⟩
 ·have:=h.ext b o aw
  simp only [cf] at this ⊢
  rw [hw b (fG b o (.inl (lb aw)))]
  exact this
 ·have:=(h.zone z bj).1 b o aw
  simp only [cf] at this ⊢
  rw [hw b (fG b o (.inr ⟨z,bj,aw⟩))]
  exact this
 ·obtain ⟨i,aH⟩:=List.mem_iff_getElem?.1 c5
  rw [List.getElem?_set] at aH
  split at aH
  ·rename_i pN
   subst pN
   try rw [if_pos oW] at aH
   simp only [Option.some.injEq] at aH
   subst aH
   exact ⟨k5,fun b aw=>(h.own r qw).2 b (nJ ▸ aw)⟩
  ·rename_i pN
   have w6:s∈hs:=List.mem_of_getElem? aH
   refine ⟨aC.vu (h.own s w6).1 fun b aw=>hw b fun e=>?_,(h.own s w6).2⟩
   have gx:=h.nd
   have key:∀ (l:List aC) (i k:Nat),i≠k→l[i]?=some s→l[k]?=some r→¬ (l.filterMap aC.id).Nodup:=by
    intro l
    induction l with
    | nil=>intro i k _ aH;simp at aH
    | cons x l ih=>
     intro i k fG aH aE bD
     cases i with
     | zero=>
      cases k with
      | zero=>exact fG rfl
      | succ k=>
       simp at aH aE
       subst aH
       rw [List.filterMap_cons,aw] at bD
       simp at bD
       exact bD.1 r (List.mem_of_getElem? aE) e
     | succ i=>
      cases k with
      | zero=>
       simp at aH aE
       subst aE
       rw [List.filterMap_cons,e] at bD
       simp at bD
       exact bD.1 s (List.mem_of_getElem? aH) aw
      | succ k=>
       simp at aH aE
       refine ih i k ag aH aE ?_
       rw [List.filterMap_cons] at bD
       split at bD
       ·exact bD
       ·exact (List.nodup_cons.1 bD).2
   exact key hs i k ag aH aE gx
 ·have:(hs.set k fe).filterMap aC.id=hs.filterMap aC.id:=by
   have gen:∀ (l:List aC) (k:Nat),l[k]?=some r→(l.set k fe).filterMap aC.id=l.filterMap aC.id:=by
    intro l
    induction l with
    | nil=>intro k aE;simp at aE
    | cons x l ih=>
     intro k aE
     cases k with
     | zero=>simp at aE;subst aE;simp [List.filterMap_cons,nJ]
     | succ k=>simp at aE;simp [List.filterMap_cons,ih k aE]
   exact gen hs k aE
  rw [this]
  exact h.nd
theorem aB.new{w0 zs hs w}(h:aB w0 zs hs w)(ty:TypeId)(cells:List Value) :
  aB w0 zs (.blk w.heap.size ty cells::hs) { w with heap:=w.heap.push (.cells cells.toArray ty (0,0)) }:=by
 have hl:(cf w).le (cf { w with heap:=w.heap.push (.cells cells.toArray ty (0,0)) }):=fun b o aw=>by
  have:=lb aw
  simp only [cf] at aw ⊢
  rw [Array.getElem?_push]
  rw [if_neg ag]
  exact aw
 have h1:=h.later hl ⟨rfl,rfl,rfl⟩
 refine ⟨h1.ext,h1.zone,fun r aY=>?_,?_,h1.io⟩
 ·rcases List.mem_cons.1 aY with rfl | aY
  ·refine ⟨⟨le_size h.ext,by simp⟩,fun b aw z bj=>?_⟩
   simp only [aC.id,Option.some.injEq] at aw
   subst aw
   cases gn:z w.heap.size with
   | none=>rfl
   | some o=>have:=lb ((h.zone z bj).1 _ o gn);omega
  ·exact h1.own r aY
 ·rw [List.filterMap_cons]
  simp only [aC.id]
  refine List.nodup_cons.2 ⟨fun hm=>?_,h.nd⟩
  obtain ⟨r,aY,e⟩:=List.mem_filterMap.1 hm
  have:=(aC.nc (h.own r aY).1 _ e).2
  omega
end Go.aK
end
section
namespace Go.aK
def bR[a1](P:Program)(n:Nat)(w0:World)(zs:List aR)(hs:List aC)(L:List (Nat×Value))(o:Oper)(v:Value):Prop:=
 ∀ a,Fr n L a→∀ w,aB w0 zs hs w→Oper.quietUpon P (aB w0 zs hs) w v ((execOp a.eval o).run P w)
def lh(d:Option Tmp)(v:Value)(L:List (Nat×Value)):List (Nat×Value):=
 match d with
 | some t=>(t,v)::L
 | none=>L
def sw(n:Nat):Option Tmp→Prop
 | some t=>t<n
 | none=>True
theorem Fr.up[a1]{n L a}(h:Fr n L a){d:Option Tmp}{v:Value}(aT:sw n d):Fr n (lh d v L) (a.put d v):=by
 cases d with
 | none=>exact h
 | some t=>exact h.put aT
def fS[a1](P:Program)(n:Nat)(w0:World)(zs:List aR)(hs:List aC)(ops:Array Oper):Nat→List (Nat×Value)→List Oper→List (Nat×Value)→List Oper→Prop
 | 0,L,l,L',l'=>L=L'∧l=l'
 | k+1,L,l,L',l'=>∃ o r v,l=o::r∧sw n o.dst ∧
   (∀ a,Fr n L a→((Region.wanted o (yielded ops a.tmps)=true∧∀ w,aB w0 zs hs w→Oper.quietUpon P (aB w0 zs hs) w v ((execOp a.eval o).run P w))∨(Region.wanted o (yielded ops a.tmps)=false∧v=undef))) ∧
   fS P n w0 zs hs ops k (lh o.dst v L) r L' l'
section
variable {P:Program}{n:Nat}{w0:World}{zs:List aR}{hs:List aC}{ops:Array Oper}{L L':List (Nat×Value)}{l l':List Oper}{k:Nat}
theorem ah[a1]:fS P n w0 zs hs ops 0 L l L l:=⟨rfl,rfl⟩
theorem mR[a1]{d:Tmp}{op:Op}{t:TypeId}{p:String}{af:Array Edge}{v:Value}(aT:Nat.blt d n=true)
  (q:bR P n w0 zs hs L ⟨some d,op,t,p,af,none⟩ v) (r:fS P n w0 zs hs ops k ((d,v)::L) l L' l') :
  fS P n w0 zs hs ops (k+1) L (⟨some d,op,t,p,af,none⟩::l) L' l':=
 ⟨_,_,v,rfl,Nat.blt_eq.mp aT,fun a bg=>.inl ⟨rfl,fun w hw=>q a bg w hw⟩,r⟩
theorem yh[a1]{a:Act}(bg:Fr n L a){g t:Nat}{v:Value}(aP:(ops[g]?).bind (·.dst)=some t)(hl:look L t=some v) :
  yielded ops a.tmps g=(match v with | .bool b=>some b | _=>none):=by
 unfold yielded
 rw [aP]
 simp only [Option.bind_some,bg.get t v hl]
 cases v <;> rfl
theorem aO[a1]{d:Tmp}{op:Op}{t:TypeId}{p:String}{af:Array Edge}{v:Value}{g:Nat}{b:Bool}(gt:Nat)(eE:(ops[g]?).bind (·.dst)=some gt)(oe:look L gt=some (.bool b))(aT:Nat.blt d n=true)
  (q:bR P n w0 zs hs L ⟨some d,op,t,p,af,some (g,b)⟩ v) (r:fS P n w0 zs hs ops k ((d,v)::L) l L' l') :
  fS P n w0 zs hs ops (k+1) L (⟨some d,op,t,p,af,some (g,b)⟩::l) L' l':=
 ⟨_,_,v,rfl,Nat.blt_eq.mp aT,fun a bg=>.inl ⟨by simp [Region.wanted,yh bg eE oe],fun w hw=>q a bg w hw⟩,r⟩
theorem j1[a1]{d:Tmp}{op:Op}{t:TypeId}{p:String}{af:Array Edge}{g:Nat}{b c:Bool}(gt:Nat)(eE:(ops[g]?).bind (·.dst)=some gt)(oe:look L gt=some (.bool c))(uQ:(!b)=c)(aT:Nat.blt d n=true)
  (r:fS P n w0 zs hs ops k ((d,undef)::L) l L' l') :
  fS P n w0 zs hs ops (k+1) L (⟨some d,op,t,p,af,some (g,b)⟩::l) L' l':=
 ⟨_,_,undef,rfl,Nat.blt_eq.mp aT,fun a bg=>.inr ⟨by subst uQ;simp [Region.wanted,yh bg eE oe],rfl⟩,r⟩
theorem xS[a1]{d:Tmp}{op:Op}{t:TypeId}{p:String}{af:Array Edge}{g:Nat}{b:Bool}(gt:Nat)(eE:(ops[g]?).bind (·.dst)=some gt)(oe:look L gt=some undef)(aT:Nat.blt d n=true)
  (r:fS P n w0 zs hs ops k ((d,undef)::L) l L' l') :
  fS P n w0 zs hs ops (k+1) L (⟨some d,op,t,p,af,some (g,b)⟩::l) L' l':=
 ⟨_,_,undef,rfl,Nat.blt_eq.mp aT,fun a bg=>.inr ⟨by simp only [Region.wanted,yh bg eE oe];exact beq_eq_false_iff_ne.2 (by simp [undef]),rfl⟩,r⟩
theorem lQ[a1]{Q:Exit→Act→World→Prop}:∀ {k:Nat}{L l}{a:Act}{w:World},Fr n L a→aB w0 zs hs w→fS P n w0 zs hs ops k L l L' l' →
  (∀ a w,Fr n L' a→aB w0 zs hs w→wpList P ops Q l' a w)→wpList P ops Q l a w
 | 0,_,_,a,w,ab,U,h,K=>by obtain ⟨rfl,rfl⟩:=h;exact K a w ab U
 | k+1,_,_,a,w,ab,U,h,K=>by
  obtain ⟨o,r,v,rfl,aT,ch,aY⟩:=h
  unfold wpList
  rcases ch a ab with ⟨hw,ch⟩ | ⟨hw,rfl⟩
  ·simp only [hw,if_true]
   refine .inl ?_
   have:=ch w U
   unfold Oper.wp
   generalize (execOp a.eval o).run P w=res at this
   cases res with
   | halt x w'=>simp only [Oper.quietUpon] at this
   | ok nx w'=>
    cases nx <;> simp only [Oper.quietUpon] at this <;> simp only [Oper.upon]
    case value u=>obtain ⟨rfl,rfl⟩:=this;exact lQ (ab.up aT) U aY K
    case skip=>obtain ⟨rfl,rfl⟩:=this;exact lQ (ab.up aT) U aY K
    case enter f args=>
     obtain ⟨rfl,bq⟩:=this
     exact bq.mono fun e yc ⟨he,zP⟩=>by subst he;exact lQ (ab.up aT) zP aY K
  ·simp only [hw,Bool.false_eq_true,if_false]
   exact lQ (ab.up aT) U aY K
theorem Ey[a1]:∀ {k:Nat}{L l}{Q:Act→Prop}{a:Act},Fr n L a→fS P n w0 zs hs ops k L l L' [] →
  (∀ a,Fr n L' a→Q a)→wpQuiet P ops (aB w0 zs hs) Q l a
 | 0,_,_,_,a,ab,h,K=>by obtain ⟨rfl,rfl⟩:=h;exact K a ab
 | k+1,_,_,_,a,ab,h,K=>by
  obtain ⟨o,r,v,rfl,aT,ch,aY⟩:=h
  unfold wpQuiet
  rcases ch a ab with ⟨hw,ch⟩ | ⟨hw,rfl⟩
  ·simp only [hw,if_true]
   exact ⟨v,fun w hw=>ch w hw,Ey (ab.up aT) aY K⟩
  ·simp only [hw,Bool.false_eq_true,if_false]
   exact Ey (ab.up aT) aY K
theorem bx[a1]{id:Nat}{Q:Exit→Act→World→Prop}{a:Act}{w:World}(ab:Fr n L a)(U:aB w0 zs hs w)
  (s:fS P n w0 zs hs l.toArray k L l L' []) (K:∀ a w,Fr n L' a→aB w0 zs hs w→Q .normal a w):(Code.region id l.toArray false).wp P Q a w:=
 wp_region_lit (lQ ab U s fun a w ab U=>wpList_nil (K a w ab U))
theorem agP[a1]{id:Nat}{Q:Exit→Act→World→Prop}{a:Act}{w:World}(hm:P.follows .mixedOrders=true)(gS:Region.lexB .any l.toArray=true)(ab:Fr n L a)(U:aB w0 zs hs w)
  (s:fS P n w0 zs hs l.toArray k L l L' []) (K:∀ a w,Fr n L' a→aB w0 zs hs w→Q .normal a w):(Code.region id l.toArray true).wp P Q a w:=
 wp_region_quiet (C:=aB w0 zs hs) hm gS (U.drew _) (Ey (by exact ab) s fun a ab w U=>K a w ab U)
theorem dM{id:Nat}{Q:Exit→Act→World→Prop}{a:Act}{w:World}(h:wpList P l.toArray Q l a w):(Code.region id l.toArray false).wp P Q a w:=wp_region_lit h
end
end Go.aK
end
section
namespace Go.aK
abbrev aA(x:Int):Value:=.int .i64 x
abbrev bn(x:UInt8):Value:=.int .u8 (x.toNat:Int)
abbrev cI(x:UInt32):Value:=.int .u32 (x.toNat:Int)
abbrev gX(x:UInt64):Value:=.int .u64 (x.toNat:Int)
abbrev jk(b:Bool):Value:=.bool b
@[reducible] def cW (l:List UInt8):ByteArray:=⟨l.toArray⟩
abbrev vs(l:List UInt8):Value:=.string (cW l)
structure ba (P:Program) (t:TypeId) (d:TypeDesc) (s b:Nat) (z:Value):Prop where
 und:P.underlying t=some d
 inf:(P.info? t).map (fun i=>(i.size,i.bytes,i.zero))=some (s,b,some z)
def OK(x y:Int):Int:=IntKind.i64.wrap (BitVec.ofInt 64 x &&& BitVec.ofInt 64 y).toNat
def C4(x y:Int):Int:=IntKind.i64.wrap (BitVec.ofInt 64 x ||| BitVec.ofInt 64 y).toNat
def an8(x y:Int):Int:=IntKind.i64.wrap (BitVec.ofInt 64 x ^^^ BitVec.ofInt 64 y).toNat
def an5(x y:Int):Int:=IntKind.i64.wrap (BitVec.ofInt 64 x &&& ~~~(BitVec.ofInt 64 y)).toNat
def oB(x:UInt64):Int:=if x.toNat<9223372036854775808 then x.toNat else (x.toNat:Int)-18446744073709551616
theorem vK(x:UInt8):0≤(x.toNat:Int)∧(x.toNat:Int)<256:=⟨by omega,by have:=x.toNat_lt;omega⟩
theorem xW(x:UInt32):0≤(x.toNat:Int)∧(x.toNat:Int)<4294967296:=⟨by omega,by have:=x.toNat_lt;omega⟩
theorem qX(x:UInt64):0≤(x.toNat:Int)∧(x.toNat:Int)<18446744073709551616:=⟨by omega,by have:=x.toNat_lt;omega⟩
section
variable {P:Program}{n:Nat}{w0:World}{zs:List aR}{hs:List aC}{L:List (Nat×Value)}{d:Option Tmp}{ty t b7:TypeId}{pos:String}{af:Array Edge}{g:Option (Nat×Bool)}
variable {x y z c ot ou kR:Operand}{u v:Value}
theorem eV[a1]{o:Oper}(h:∀ a,Fr n L a→∀ w,aB w0 zs hs w→(execOp a.eval o).run P w=.ok (.value v) w):bR P n w0 zs hs L o v:=
 fun a bg w hw=>by rw [h a bg w hw];exact ⟨rfl,rfl⟩
theorem bE[a1](h:aW L x=some v):bR P n w0 zs hs L ⟨d,.move x,ty,pos,af,g⟩ v:=
 eV fun a bg w _=>by simp [execOp,bg.eval h]
theorem kS[a1](h:aW L x=some v):bR P n w0 zs hs L ⟨d,.assign x,ty,pos,af,g⟩ v:=
 eV fun a bg w _=>by simp [execOp,bg.eval h]
theorem kU[a1](h:aW L c=some (.bool true))(h1:aW L x=some u):bR P n w0 zs hs L ⟨d,.pick c x y,ty,pos,af,g⟩ u:=
 eV fun a bg w _=>by simp [execOp,bg.eval h,bg.eval h1,asBool]
theorem hB[a1](h:aW L c=some (.bool false))(ar:aW L y=some v):bR P n w0 zs hs L ⟨d,.pick c x y,ty,pos,af,g⟩ v:=
 eV fun a bg w _=>by simp [execOp,bg.eval h,bg.eval ar,asBool]
theorem fu[a1]{op:BinOp}{p q r:Value}(h1:aW L x=some p)(ar:aW L y=some q)(aP:∀ w,(eqGuard op t x y p q).run P w=.ok () w)(h:∀ w,(binOp op t p q).run P w=.ok r w) :
  bR P n w0 zs hs L ⟨d,.binOp op t x y b7,ty,pos,af,g⟩ r:=
 eV fun a bg w _=>by
  simp only [execOp,bg.eval h1,bg.eval ar]
  simp [aP w,h w]
theorem hd{op:BinOp}{k jq:IntKind}{p q:Int}(w:World):(eqGuard op t x y (.int k p) (.int jq q)).run P w=.ok () w:=by
 cases op <;> simp [eqGuard]
theorem wA{op:BinOp}{p q:ByteArray}(w:World):(eqGuard op t x y (.string p) (.string q)).run P w=.ok () w:=by
 cases op <;> simp [eqGuard]
theorem WW{op:BinOp}{p q:Bool}(w:World):(eqGuard op t x y (.bool p) (.bool q)).run P w=.ok () w:=by
 cases op <;> simp [eqGuard]
theorem o4[a1]{p q:Int}(h1:aW L x=some (aA p))(ar:aW L y=some (aA q))(aw : -9223372036854775808≤p+q∧p+q≤9223372036854775807) :
  bR P n w0 zs hs L ⟨d,.binOp .add t x y b7,ty,pos,af,g⟩ (aA (p+q)):=
 fu h1 ar hd fun w=>by simp [binOp,Op.intArith,IntWalk.i64_in _ aw]
theorem nN[a1]{p q:Int}(h1:aW L x=some (aA p))(ar:aW L y=some (aA q))(aw : -9223372036854775808≤p-q∧p-q≤9223372036854775807) :
  bR P n w0 zs hs L ⟨d,.binOp .sub t x y b7,ty,pos,af,g⟩ (aA (p-q)):=
 fu h1 ar hd fun w=>by simp [binOp,Op.intArith,IntWalk.i64_in _ aw]
theorem hK[a1]{p q:Int}(h1:aW L x=some (aA p))(ar:aW L y=some (aA q))(aw : -9223372036854775808≤p*q∧p*q≤9223372036854775807) :
  bR P n w0 zs hs L ⟨d,.binOp .mul t x y b7,ty,pos,af,g⟩ (aA (p*q)):=
 fu h1 ar hd fun w=>by simp [binOp,Op.intArith,IntWalk.i64_in _ aw]
theorem ox[a1]{p q:Int}(h1:aW L x=some (aA p))(ar:aW L y=some (aA q))(aw:0≤p∧p≤9223372036854775807∧1≤q) :
  bR P n w0 zs hs L ⟨d,.binOp .quo t x y b7,ty,pos,af,g⟩ (aA (p/q)):=
 fu h1 ar hd fun w=>by
  have:¬ q=0:=by omega
  simp [binOp,Op.intDiv,this,IntWalk.i64_quo _ _ aw]
theorem ni[a1]{p q:Int}(h1:aW L x=some (aA p))(ar:aW L y=some (aA q))(aw:0≤p∧1≤q) :
  bR P n w0 zs hs L ⟨d,.binOp .rem t x y b7,ty,pos,af,g⟩ (aA (p%q)):=
 fu h1 ar hd fun w=>by
  have:¬ q=0:=by omega
  simp [binOp,Op.intDiv,this,IntWalk.rem_in _ _ aw.1]
theorem gq[a1]{p q:Int}(h1:aW L x=some (aA p))(ar:aW L y=some (aA q)):bR P n w0 zs hs L ⟨d,.binOp .eql t x y b7,ty,pos,af,g⟩ (.bool (decide (p=q))):=
 fu h1 ar hd fun w=>by simp [binOp,Op.intCmp];rfl
theorem dS[a1]{p q:Int}(h1:aW L x=some (aA p))(ar:aW L y=some (aA q)):bR P n w0 zs hs L ⟨d,.binOp .neq t x y b7,ty,pos,af,g⟩ (.bool (!decide (p=q))):=
 fu h1 ar hd fun w=>by simp [binOp,Op.intCmp];rfl
theorem cU[a1]{p q:Int}(h1:aW L x=some (aA p))(ar:aW L y=some (aA q)):bR P n w0 zs hs L ⟨d,.binOp .lss t x y b7,ty,pos,af,g⟩ (.bool (decide (p<q))):=
 fu h1 ar hd fun w=>by simp [binOp,Op.intCmp]
theorem xw[a1]{p q:Int}(h1:aW L x=some (aA p))(ar:aW L y=some (aA q)):bR P n w0 zs hs L ⟨d,.binOp .leq t x y b7,ty,pos,af,g⟩ (.bool (decide (p≤q))):=
 fu h1 ar hd fun w=>by simp [binOp,Op.intCmp]
theorem fc[a1]{p q:Int}(h1:aW L x=some (aA p))(ar:aW L y=some (aA q)):bR P n w0 zs hs L ⟨d,.binOp .gtr t x y b7,ty,pos,af,g⟩ (.bool (decide (q<p))):=
 fu h1 ar hd fun w=>by simp [binOp,Op.intCmp]
theorem ke[a1]{p q:Int}(h1:aW L x=some (aA p))(ar:aW L y=some (aA q)):bR P n w0 zs hs L ⟨d,.binOp .geq t x y b7,ty,pos,af,g⟩ (.bool (decide (q≤p))):=
 fu h1 ar hd fun w=>by simp [binOp,Op.intCmp]
theorem af1[a1]{p q:Int}(h1:aW L x=some (aA p))(ar:aW L y=some (aA q)):bR P n w0 zs hs L ⟨d,.binOp .or t x y b7,ty,pos,af,g⟩ (aA (C4 p q)):=
 fu h1 ar hd fun w=>rfl
theorem af4[a1]{k:IntKind}{p q:Int}(h1:aW L x=some (aA p))(ar:aW L y=some (.int k q))(ch:0≤q)(aw : -9223372036854775808≤p*2^(min q.toNat 64)∧p*2^(min q.toNat 64)≤9223372036854775807) :
  bR P n w0 zs hs L ⟨d,.binOp .shl t x y b7,ty,pos,af,g⟩ (aA (p*2^(min q.toNat 64))):=
 fu h1 ar hd fun w=>by
  have:¬ q<0:=by omega
  simp [binOp,Op.shift,this,IntKind.bits,IntWalk.i64_in _ aw]
theorem af6[a1]{k:IntKind}{p q:Int}(h1:aW L x=some (aA p))(ar:aW L y=some (.int k q))(ch:0≤q) :
  bR P n w0 zs hs L ⟨d,.binOp .shr t x y b7,ty,pos,af,g⟩ (aA (p/2^(min q.toNat 64))):=
 fu h1 ar hd fun w=>by
  have:¬ q<0:=by omega
  have ar:(0:Int)≤2^(min q.toNat 64):=Int.pow_nonneg ag
  simp [binOp,Op.shift,this,IntKind.bits,Int.fdiv_eq_ediv_of_nonneg _ ar]
theorem DL[a1]{p:Int}(h1:aW L x=some (aA p))(aw : -9223372036854775808 ≤ -p ∧ -p≤9223372036854775807):bR P n w0 zs hs L ⟨d,.unOp .neg t x,ty,pos,af,g⟩ (aA (-p)):=
 eV fun a bg w _=>by
  simp only [execOp,bg.eval h1]
  simp [Op.unary,Op.intArith,IntWalk.i64_in _ aw]
theorem fZ[a1]{b:Bool}(h1:aW L x=some (.bool b)):bR P n w0 zs hs L ⟨d,.unOp .not t x,ty,pos,af,g⟩ (.bool (!b)):=
 eV fun a bg w _=>by
  simp only [execOp,bg.eval h1]
  simp [Op.unary]
theorem wrap_u8(n:Int):IntKind.u8.wrap n=n%256:=by simp [IntKind.wrap,IntKind.bits,IntKind.signed]
def hI(n:Int):UInt8:=UInt8.ofNat (n%256).toNat
theorem rV(n:Int):((hI n).toNat:Int)=n%256:=by
 unfold hI
 have h1:0≤n%256:=Int.emod_nonneg _ ag
 have ar:n%256<256:=Int.emod_lt_of_pos _ ag
 rw [UInt8.toNat_ofNat']
 have:(n%256).toNat<2^8:=by simp;omega
 rw [Nat.mod_eq_of_lt this]
 exact Int.toNat_of_nonneg h1
theorem Ls(a:UInt8):BitVec.ofInt 8 (a.toNat:Int)=a.toBitVec:=by
 rw [BitVec.ofInt_natCast]
 simp
theorem agb[a1]{p q:UInt8}(h1:aW L x=some (bn p))(ar:aW L y=some (bn q)):bR P n w0 zs hs L ⟨d,.binOp .sub t x y b7,ty,pos,af,g⟩ (bn (p-q)):=
 fu h1 ar hd fun w=>by
  have e:IntKind.u8.wrap ((p.toNat:Int)-q.toNat)=((p-q).toNat:Int):=by
   have bO:=vK p
   have ch:=vK q
   rw [wrap_u8,UInt8.toNat_sub]
   omega
  simp [binOp,Op.intArith,e]
theorem vx[a1]{p q:UInt8}(h1:aW L x=some (bn p))(ar:aW L y=some (bn q)):bR P n w0 zs hs L ⟨d,.binOp .xor t x y b7,ty,pos,af,g⟩ (bn (p ^^^ q)):=
 fu h1 ar hd fun w=>by
  have e:IntKind.u8.wrap ((BitVec.ofInt 8 (p.toNat:Int) ^^^ BitVec.ofInt 8 (q.toNat:Int)).toNat:Int)=((p ^^^ q).toNat:Int):=by
   rw [Ls,Ls,← UInt8.toBitVec_xor,UInt8.toNat_toBitVec,wrap_u8]
   have:=vK (p ^^^ q)
   omega
  exact congrArg (fun z=>Result.ok (Value.int IntKind.u8 z) w) e
theorem QX[a1]{k:IntKind}{p:UInt8}{q:Int}(h1:aW L x=some (bn p))(ar:aW L y=some (.int k q))(ch:0≤q):bR P n w0 zs hs L ⟨d,.binOp .shl t x y b7,ty,pos,af,g⟩ (bn (hI ((p.toNat:Int)*2^(min q.toNat 8)))):=
 fu h1 ar hd fun w=>by
  have:¬ q<0:=by omega
  show _=Result.ok (Value.int .u8 ((hI ((p.toNat:Int)*2^(min q.toNat 8))).toNat:Int)) w
  rw [rV,← wrap_u8]
  simp [binOp,Op.shift,this,IntKind.bits]
theorem afv[a1]{p q:UInt8}(h1:aW L x=some (bn p))(ar:aW L y=some (bn q)):bR P n w0 zs hs L ⟨d,.binOp .eql t x y b7,ty,pos,af,g⟩ (.bool (decide (p=q))):=
 fu h1 ar hd fun w=>by
  have e:((p.toNat:Int) == (q.toNat:Int))=decide (p=q):=by
   rw [Bool.eq_iff_iff];simp [← UInt8.toNat_inj,Int.ofNat_inj]
  simp [binOp,Op.intCmp,bne,e]
theorem IX[a1]{p q:UInt8}(h1:aW L x=some (bn p))(ar:aW L y=some (bn q)):bR P n w0 zs hs L ⟨d,.binOp .neq t x y b7,ty,pos,af,g⟩ (.bool (!decide (p=q))):=
 fu h1 ar hd fun w=>by
  have e:((p.toNat:Int) == (q.toNat:Int))=decide (p=q):=by
   rw [Bool.eq_iff_iff];simp [← UInt8.toNat_inj,Int.ofNat_inj]
  simp [binOp,Op.intCmp,bne,e]
theorem afV[a1]{p q:UInt8}(h1:aW L x=some (bn p))(ar:aW L y=some (bn q)):bR P n w0 zs hs L ⟨d,.binOp .lss t x y b7,ty,pos,af,g⟩ (.bool (decide (p<q))):=
 fu h1 ar hd fun w=>by
  simp [binOp,Op.intCmp,UInt8.lt_iff_toNat_lt]
theorem afz[a1]{p q:UInt8}(h1:aW L x=some (bn p))(ar:aW L y=some (bn q)):bR P n w0 zs hs L ⟨d,.binOp .gtr t x y b7,ty,pos,af,g⟩ (.bool (decide (q<p))):=
 fu h1 ar hd fun w=>by
  simp [binOp,Op.intCmp,UInt8.lt_iff_toNat_lt]
theorem wrap_u32(n:Int):IntKind.u32.wrap n=n%4294967296:=by simp [IntKind.wrap,IntKind.bits,IntKind.signed]
def lL(n:Int):UInt32:=UInt32.ofNat (n%4294967296).toNat
theorem Dw(n:Int):((lL n).toNat:Int)=n%4294967296:=by
 unfold lL
 have h1:0≤n%4294967296:=Int.emod_nonneg _ ag
 have ar:n%4294967296<4294967296:=Int.emod_lt_of_pos _ ag
 rw [UInt32.toNat_ofNat']
 have:(n%4294967296).toNat<2^32:=by simp;omega
 rw [Nat.mod_eq_of_lt this]
 exact Int.toNat_of_nonneg h1
theorem uA(a:UInt32):BitVec.ofInt 32 (a.toNat:Int)=a.toBitVec:=by
 rw [BitVec.ofInt_natCast]
 simp
theorem ij[a1]{p q:UInt32}(h1:aW L x=some (cI p))(ar:aW L y=some (cI q)):bR P n w0 zs hs L ⟨d,.binOp .add t x y b7,ty,pos,af,g⟩ (cI (p+q)):=
 fu h1 ar hd fun w=>by
  have e:IntKind.u32.wrap ((p.toNat:Int)+q.toNat)=((p+q).toNat:Int):=by
   have bO:=xW p
   have ch:=xW q
   rw [wrap_u32,UInt32.toNat_add]
   omega
  simp [binOp,Op.intArith,e]
theorem qO[a1]{p q:UInt32}(h1:aW L x=some (cI p))(ar:aW L y=some (cI q)):bR P n w0 zs hs L ⟨d,.binOp .and t x y b7,ty,pos,af,g⟩ (cI (p &&& q)):=
 fu h1 ar hd fun w=>by
  have e:IntKind.u32.wrap ((BitVec.ofInt 32 (p.toNat:Int) &&& BitVec.ofInt 32 (q.toNat:Int)).toNat:Int)=((p &&& q).toNat:Int):=by
   rw [uA,uA,← UInt32.toBitVec_and,UInt32.toNat_toBitVec,wrap_u32]
   have:=xW (p &&& q)
   omega
  exact congrArg (fun z=>Result.ok (Value.int IntKind.u32 z) w) e
theorem xy[a1]{p q:UInt32}(h1:aW L x=some (cI p))(ar:aW L y=some (cI q)):bR P n w0 zs hs L ⟨d,.binOp .or t x y b7,ty,pos,af,g⟩ (cI (p ||| q)):=
 fu h1 ar hd fun w=>by
  have e:IntKind.u32.wrap ((BitVec.ofInt 32 (p.toNat:Int) ||| BitVec.ofInt 32 (q.toNat:Int)).toNat:Int)=((p ||| q).toNat:Int):=by
   rw [uA,uA,← UInt32.toBitVec_or,UInt32.toNat_toBitVec,wrap_u32]
   have:=xW (p ||| q)
   omega
  exact congrArg (fun z=>Result.ok (Value.int IntKind.u32 z) w) e
theorem ku[a1]{p q:UInt32}(h1:aW L x=some (cI p))(ar:aW L y=some (cI q)):bR P n w0 zs hs L ⟨d,.binOp .xor t x y b7,ty,pos,af,g⟩ (cI (p ^^^ q)):=
 fu h1 ar hd fun w=>by
  have e:IntKind.u32.wrap ((BitVec.ofInt 32 (p.toNat:Int) ^^^ BitVec.ofInt 32 (q.toNat:Int)).toNat:Int)=((p ^^^ q).toNat:Int):=by
   rw [uA,uA,← UInt32.toBitVec_xor,UInt32.toNat_toBitVec,wrap_u32]
   have:=xW (p ^^^ q)
   omega
  exact congrArg (fun z=>Result.ok (Value.int IntKind.u32 z) w) e
theorem af0[a1]{p:UInt32}(h1:aW L x=some (cI p)):bR P n w0 zs hs L ⟨d,.unOp .xor t x,ty,pos,af,g⟩ (cI (~~~p)):=
 eV fun a bg w _=>by
  have jU:BitVec.ofInt 32 (IntKind.u32.max)=BitVec.allOnes 32:=by decide
  have e:IntKind.u32.wrap ((BitVec.ofInt 32 (IntKind.u32.max) ^^^ BitVec.ofInt 32 (p.toNat:Int)).toNat:Int)=((~~~p).toNat:Int):=by
   rw [uA,jU,BitVec.allOnes_xor,← UInt32.toBitVec_not,UInt32.toNat_toBitVec,wrap_u32]
   have:=xW (~~~p)
   omega
  simp only [execOp,bg.eval h1]
  exact congrArg (fun z=>Result.ok (Next.value (Value.int IntKind.u32 z)) w) e
theorem xz[a1]{k:IntKind}{p:UInt32}{q:Int}(h1:aW L x=some (cI p))(ar:aW L y=some (.int k q))(ch:0≤q):bR P n w0 zs hs L ⟨d,.binOp .shl t x y b7,ty,pos,af,g⟩ (cI (lL ((p.toNat:Int)*2^(min q.toNat 32)))):=
 fu h1 ar hd fun w=>by
  have:¬ q<0:=by omega
  show _=Result.ok (Value.int .u32 ((lL ((p.toNat:Int)*2^(min q.toNat 32))).toNat:Int)) w
  rw [Dw,← wrap_u32]
  simp [binOp,Op.shift,this,IntKind.bits]
theorem tD[a1]{k:IntKind}{p:UInt32}{q:Int}(h1:aW L x=some (cI p))(ar:aW L y=some (.int k q))(ch:0≤q):bR P n w0 zs hs L ⟨d,.binOp .shr t x y b7,ty,pos,af,g⟩ (cI (UInt32.ofNat (p.toNat/2^(min q.toNat 32)))):=
 fu h1 ar hd fun w=>by
  have:¬ q<0:=by omega
  have ar:(0:Int)≤2^(min q.toNat 32):=Int.pow_nonneg ag
  have e:((UInt32.ofNat (p.toNat/2^(min q.toNat 32))).toNat:Int)=(p.toNat:Int)/2^(min q.toNat 32):=by
   rw [UInt32.toNat_ofNat']
   have aQ:p.toNat/2^(min q.toNat 32)≤p.toNat:=Nat.div_le_self _ _
   have bF:=p.toNat_lt
   rw [Nat.mod_eq_of_lt ag]
   push_cast
   rfl
  show _=Result.ok (Value.int .u32 ((UInt32.ofNat (p.toNat/2^(min q.toNat 32))).toNat:Int)) w
  rw [e]
  simp [binOp,Op.shift,this,IntKind.bits,Int.fdiv_eq_ediv_of_nonneg _ ar]
theorem wrap_u64(n:Int):IntKind.u64.wrap n=n%18446744073709551616:=by simp [IntKind.wrap,IntKind.bits,IntKind.signed]
def dA(n:Int):UInt64:=UInt64.ofNat (n%18446744073709551616).toNat
theorem nb(n:Int):((dA n).toNat:Int)=n%18446744073709551616:=by
 unfold dA
 have h1:0≤n%18446744073709551616:=Int.emod_nonneg _ ag
 have ar:n%18446744073709551616<18446744073709551616:=Int.emod_lt_of_pos _ ag
 rw [UInt64.toNat_ofNat']
 have:(n%18446744073709551616).toNat<2^64:=by simp;omega
 rw [Nat.mod_eq_of_lt this]
 exact Int.toNat_of_nonneg h1
theorem yM(a:UInt64):BitVec.ofInt 64 (a.toNat:Int)=a.toBitVec:=by
 rw [BitVec.ofInt_natCast]
 simp
theorem afn[a1]{p q:UInt64}(h1:aW L x=some (gX p))(ar:aW L y=some (gX q)):bR P n w0 zs hs L ⟨d,.binOp .add t x y b7,ty,pos,af,g⟩ (gX (p+q)):=
 fu h1 ar hd fun w=>by
  have e:IntKind.u64.wrap ((p.toNat:Int)+q.toNat)=((p+q).toNat:Int):=by
   have bO:=qX p
   have ch:=qX q
   rw [wrap_u64,UInt64.toNat_add]
   omega
  simp [binOp,Op.intArith,e]
theorem agd[a1]{p q:UInt64}(h1:aW L x=some (gX p))(ar:aW L y=some (gX q)):bR P n w0 zs hs L ⟨d,.binOp .sub t x y b7,ty,pos,af,g⟩ (gX (p-q)):=
 fu h1 ar hd fun w=>by
  have e:IntKind.u64.wrap ((p.toNat:Int)-q.toNat)=((p-q).toNat:Int):=by
   have bO:=qX p
   have ch:=qX q
   rw [wrap_u64,UInt64.toNat_sub]
   omega
  simp [binOp,Op.intArith,e]
theorem QT[a1]{p q:UInt64}(h1:aW L x=some (gX p))(ar:aW L y=some (gX q)):bR P n w0 zs hs L ⟨d,.binOp .mul t x y b7,ty,pos,af,g⟩ (gX (p*q)):=
 fu h1 ar hd fun w=>by
  have e:IntKind.u64.wrap ((p.toNat:Int)*q.toNat)=((p*q).toNat:Int):=by
   have bO:=qX p
   have ch:=qX q
   rw [wrap_u64,UInt64.toNat_mul]
   simp
  simp [binOp,Op.intArith,e]
theorem afo[a1]{p q:UInt64}(h1:aW L x=some (gX p))(ar:aW L y=some (gX q)):bR P n w0 zs hs L ⟨d,.binOp .and t x y b7,ty,pos,af,g⟩ (gX (p &&& q)):=
 fu h1 ar hd fun w=>by
  have e:IntKind.u64.wrap ((BitVec.ofInt 64 (p.toNat:Int) &&& BitVec.ofInt 64 (q.toNat:Int)).toNat:Int)=((p &&& q).toNat:Int):=by
   rw [yM,yM,← UInt64.toBitVec_and,UInt64.toNat_toBitVec,wrap_u64]
   have:=qX (p &&& q)
   omega
  exact congrArg (fun z=>Result.ok (Value.int IntKind.u64 z) w) e
theorem af2[a1]{p q:UInt64}(h1:aW L x=some (gX p))(ar:aW L y=some (gX q)):bR P n w0 zs hs L ⟨d,.binOp .or t x y b7,ty,pos,af,g⟩ (gX (p ||| q)):=
 fu h1 ar hd fun w=>by
  have e:IntKind.u64.wrap ((BitVec.ofInt 64 (p.toNat:Int) ||| BitVec.ofInt 64 (q.toNat:Int)).toNat:Int)=((p ||| q).toNat:Int):=by
   rw [yM,yM,← UInt64.toBitVec_or,UInt64.toNat_toBitVec,wrap_u64]
   have:=qX (p ||| q)
   omega
  exact congrArg (fun z=>Result.ok (Value.int IntKind.u64 z) w) e
theorem QW[a1]{p:UInt64}(h1:aW L x=some (gX p)):bR P n w0 zs hs L ⟨d,.unOp .xor t x,ty,pos,af,g⟩ (gX (~~~p)):=
 eV fun a bg w _=>by
  have jU:BitVec.ofInt 64 (IntKind.u64.max)=BitVec.allOnes 64:=by decide
  have e:IntKind.u64.wrap ((BitVec.ofInt 64 (IntKind.u64.max) ^^^ BitVec.ofInt 64 (p.toNat:Int)).toNat:Int)=((~~~p).toNat:Int):=by
   rw [yM,jU,BitVec.allOnes_xor,← UInt64.toBitVec_not,UInt64.toNat_toBitVec,wrap_u64]
   have:=qX (~~~p)
   omega
  simp only [execOp,bg.eval h1]
  exact congrArg (fun z=>Result.ok (Next.value (Value.int IntKind.u64 z)) w) e
theorem af3[a1]{p q:UInt64}(h1:aW L x=some (gX p))(ar:aW L y=some (gX q))(ch:q≠0):bR P n w0 zs hs L ⟨d,.binOp .rem t x y b7,ty,pos,af,g⟩ (gX (p%q)):=
 fu h1 ar hd fun w=>by
  have h0:¬ ((q.toNat:Int)=0):=fun h=>ch (by apply UInt64.toNat_inj.1;simp at h ⊢;omega)
  have e:(Int.tmod (p.toNat:Int) q.toNat)=((p%q).toNat:Int):=by
   rw [UInt64.toNat_mod,Int.tmod_eq_emod_of_nonneg ag];rfl
  have fm : (binOp .rem t (gX p) (gX q)).run P w = (if (q.toNat : Int) = 0 then runtimePanic (.error "integer divide by zero") else pure (.int .u64 (Int.tmod (p.toNat : Int) q.toNat))).run P w := rfl
  rw [fm,if_neg h0,e]
  rfl
theorem af5[a1]{k:IntKind}{p:UInt64}{q:Int}(h1:aW L x=some (gX p))(ar:aW L y=some (.int k q))(ch:0≤q):bR P n w0 zs hs L ⟨d,.binOp .shl t x y b7,ty,pos,af,g⟩ (gX (dA ((p.toNat:Int)*2^(min q.toNat 64)))):=
 fu h1 ar hd fun w=>by
  have:¬ q<0:=by omega
  show _=Result.ok (Value.int .u64 ((dA ((p.toNat:Int)*2^(min q.toNat 64))).toNat:Int)) w
  rw [nb,← wrap_u64]
  simp [binOp,Op.shift,this,IntKind.bits]
theorem xA[a1]{k:IntKind}{p:UInt64}{q:Int}(h1:aW L x=some (gX p))(ar:aW L y=some (.int k q))(ch:0≤q):bR P n w0 zs hs L ⟨d,.binOp .shr t x y b7,ty,pos,af,g⟩ (gX (UInt64.ofNat (p.toNat/2^(min q.toNat 64)))):=
 fu h1 ar hd fun w=>by
  have:¬ q<0:=by omega
  have ar:(0:Int)≤2^(min q.toNat 64):=Int.pow_nonneg ag
  have e:((UInt64.ofNat (p.toNat/2^(min q.toNat 64))).toNat:Int)=(p.toNat:Int)/2^(min q.toNat 64):=by
   rw [UInt64.toNat_ofNat']
   have aQ:p.toNat/2^(min q.toNat 64)≤p.toNat:=Nat.div_le_self _ _
   have bF:=p.toNat_lt
   rw [Nat.mod_eq_of_lt ag]
   push_cast
   rfl
  show _=Result.ok (Value.int .u64 ((UInt64.ofNat (p.toNat/2^(min q.toNat 64))).toNat:Int)) w
  rw [e]
  simp [binOp,Op.shift,this,IntKind.bits,Int.fdiv_eq_ediv_of_nonneg _ ar]
theorem QL[a1]{p q:UInt64}(h1:aW L x=some (gX p))(ar:aW L y=some (gX q)):bR P n w0 zs hs L ⟨d,.binOp .gtr t x y b7,ty,pos,af,g⟩ (.bool (decide (q<p))):=
 fu h1 ar hd fun w=>by
  simp [binOp,Op.intCmp,UInt64.lt_iff_toNat_lt]
theorem tu[a1]{k:IntKind}{p q:Int}{jq:IntKind}{d1 d2:TypeDesc}{s1 ck s2 dD:Nat}{iu z2:Value}(aN:ba P t d1 s1 ck iu)(gL:ba P b7 d2 s2 dD z2)(rD:d1=.int k)(rE:d2=.int jq)(h1:aW L x=some (.int k p))(ch:jq.wrap p=q) :
  bR P n w0 zs hs L ⟨d,.convert t b7 x,ty,pos,af,g⟩ (.int jq q):=
 eV fun a bg w _=>by
  have bL:=run_underlying aN.und (w:=w)
  have bT:=run_underlying gL.und (w:=w)
  subst rD rE
  simp only [execOp,bg.eval h1]
  simp [convert,bL,bT,Conv.intToInt,ch]
theorem rX[a1]{p:Int}{s1 ck s2 dD:Nat}{iu z2:Value}(aN:ba P t (.int .i64) s1 ck iu)(gL:ba P b7 (.int .u8) s2 dD z2)(h1:aW L x=some (aA p)) :
  bR P n w0 zs hs L ⟨d,.convert t b7 x,ty,pos,af,g⟩ (bn (hI p)):=
 tu aN gL rfl rfl h1 (by rw [rV,wrap_u8])
theorem An[a1]{p:Int}{s1 ck s2 dD:Nat}{iu z2:Value}(aN:ba P t (.int .i64) s1 ck iu)(gL:ba P b7 (.int .u64) s2 dD z2)(h1:aW L x=some (aA p)) :
  bR P n w0 zs hs L ⟨d,.convert t b7 x,ty,pos,af,g⟩ (gX (dA p)):=
 tu aN gL rfl rfl h1 (by rw [nb,wrap_u64])
theorem Al[a1]{p:UInt8}{s1 ck s2 dD:Nat}{iu z2:Value}(aN:ba P t (.int .u8) s1 ck iu)(gL:ba P b7 (.int .i64) s2 dD z2)(h1:aW L x=some (bn p)) :
  bR P n w0 zs hs L ⟨d,.convert t b7 x,ty,pos,af,g⟩ (aA (p.toNat)):=
 tu aN gL rfl rfl h1 (IntWalk.i64_in _ (by have:=vK p;omega))
theorem Am[a1]{p:UInt8}{s1 ck s2 dD:Nat}{iu z2:Value}(aN:ba P t (.int .u8) s1 ck iu)(gL:ba P b7 (.int .u32) s2 dD z2)(h1:aW L x=some (bn p)) :
  bR P n w0 zs hs L ⟨d,.convert t b7 x,ty,pos,af,g⟩ (cI (lL (p.toNat:Int))):=
 tu aN gL rfl rfl h1 (by rw [Dw,wrap_u32])
theorem aft[a1]{p:UInt8}{s1 ck s2 dD:Nat}{iu z2:Value}(aN:ba P t (.int .u8) s1 ck iu)(gL:ba P b7 (.int .u64) s2 dD z2)(h1:aW L x=some (bn p)) :
  bR P n w0 zs hs L ⟨d,.convert t b7 x,ty,pos,af,g⟩ (gX (dA (p.toNat:Int))):=
 tu aN gL rfl rfl h1 (by rw [nb,wrap_u64])
theorem QH[a1]{p:UInt32}{s1 ck s2 dD:Nat}{iu z2:Value}(aN:ba P t (.int .u32) s1 ck iu)(gL:ba P b7 (.int .u8) s2 dD z2)(h1:aW L x=some (cI p)) :
  bR P n w0 zs hs L ⟨d,.convert t b7 x,ty,pos,af,g⟩ (bn (hI (p.toNat:Int))):=
 tu aN gL rfl rfl h1 (by rw [rV,wrap_u8])
theorem DE[a1]{p:UInt64}{s1 ck s2 dD:Nat}{iu z2:Value}(aN:ba P t (.int .u64) s1 ck iu)(gL:ba P b7 (.int .i64) s2 dD z2)(h1:aW L x=some (gX p)) :
  bR P n w0 zs hs L ⟨d,.convert t b7 x,ty,pos,af,g⟩ (aA (oB p)):=
 tu aN gL rfl rfl h1 (by have:=qX p;rw [IntKind.wrap_i64];unfold oB;split <;> omega)
theorem IQ[a1]{p:UInt64}{s1 ck s2 dD:Nat}{iu z2:Value}(aN:ba P t (.int .u64) s1 ck iu)(gL:ba P b7 (.int .u8) s2 dD z2)(h1:aW L x=some (gX p)) :
  bR P n w0 zs hs L ⟨d,.convert t b7 x,ty,pos,af,g⟩ (bn (hI (p.toNat:Int))):=
 tu aN gL rfl rfl h1 (by rw [rV,wrap_u8])
theorem Vn(a b:List UInt8):cW a++cW b=cW (a++b):=by
 apply ByteArray.ext
 simp [cW,ByteArray.data_append]
theorem DD[a1]{p q:List UInt8}(h1:aW L x=some (vs p))(ar:aW L y=some (vs q))(aw:p.length+q.length≤9223372036854775807) :
  bR P n w0 zs hs L ⟨d,.binOp .add t x y b7,ty,pos,af,g⟩ (vs (p++q)):=
 fu h1 ar wA fun w=>by
  have hm:IntKind.i64.max=9223372036854775807:=by decide
  have:¬ ((((cW p).size+(cW q).size:Nat):Int)>IntKind.i64.max):=by rw [hm];simp [ByteArray.size];omega
  simp only [binOp,Op.stringOp]
  rw [if_neg this,Vn]
  rfl
theorem xu[a1]{p q:List UInt8}(h1:aW L x=some (vs p))(ar:aW L y=some (vs q)):bR P n w0 zs hs L ⟨d,.binOp .eql t x y b7,ty,pos,af,g⟩ (.bool (decide (p=q))):=
 fu h1 ar wA fun w=>by
  have:(p == q)=decide (p=q):=by rw [Bool.eq_iff_iff];simp
  simp [binOp,Op.stringOp,this]
theorem rY[a1]{p q:List UInt8}(h1:aW L x=some (vs p))(ar:aW L y=some (vs q)):bR P n w0 zs hs L ⟨d,.binOp .neq t x y b7,ty,pos,af,g⟩ (.bool (!decide (p=q))):=
 fu h1 ar wA fun w=>by
  have:(p == q)=decide (p=q):=by rw [Bool.eq_iff_iff];simp
  simp [binOp,Op.stringOp,this]
theorem afW[a1]{p q:List UInt8}(h1:aW L x=some (vs p))(ar:aW L y=some (vs q)):bR P n w0 zs hs L ⟨d,.binOp .lss t x y b7,ty,pos,af,g⟩ (.bool (Op.bytesLess p q)):=
 fu h1 ar wA fun w=>by simp [binOp,Op.stringOp]
theorem WX(bS:Nat){p q:Bool}(hu:P.underlying t=some .bool)(w:World):(Op.equalIn (bS+1) t (.bool p) (.bool q)).run P w=.ok (p == q) w:=by
 simp [Op.equalIn,run_underlying hu]
theorem afZ[a1]{p q:Bool}{s b:Nat}{zv:Value}(aN:ba P t .bool s b zv)(h1:aW L x=some (.bool p))(ar:aW L y=some (.bool q)):bR P n w0 zs hs L ⟨d,.binOp .neq t x y b7,ty,pos,af,g⟩ (.bool (!(p == q))):=
 fu h1 ar WW fun w=>by
  simp only [binOp]
  simp [Op.equal,Op.maxDepth,WX 9999 aN.und w]
end
end Go.aK
end
section
namespace Go.aK
structure ej (α:Type) where
 size:Nat
 rep:aR→α→List Value→Prop
 mono:∀ {z z':aR}{x:α}{c:List Value},z.le z'→rep z x c→rep z' x c
 len:∀ {z:aR}{x:α}{c:List Value},rep z x c→c.length=size
 one:∀ {z:aR}{x:α}{c:List Value},rep z x c→∀ u∈c,u.oneCell'=true
def dn(v:Value)(k:Nat):Value:=
 match v with
 | .slice (some a) _ _=>.pointer (some (a.add k))
 | _=>undef
def bo{α:Type}(E:ej α)(z:aR)(v:Value)(xs:List α):Prop:=
 xs.length≤140737488355328∧∃ a c,v=.slice a xs.length c∧xs.length≤c ∧
  ∀ (i:Nat) (x:α),xs[i]?=some x→∃ b off cs ty fz dN,a=some ⟨b,off,none⟩∧z b=some (.cells cs ty fz)∧E.rep z x dN∧∀ j u,dN[j]?=some u→cs[off+i*E.size+j]?=some u
theorem bo.mono{α:Type}{E:ej α}{z z':aR}{v:Value}{xs:List α}(bj:z.le z')(h:bo E z v xs):bo E z' v xs:=by
 obtain ⟨aw,a,c,rfl,bq,h⟩:=h
 refine ⟨aw,a,c,rfl,bq,fun i x aM=>?_⟩
 obtain ⟨b,off,cs,ty,fz,dN,h1,ar,aQ,bF⟩:=h i x aM
 exact ⟨b,off,cs,ty,fz,dN,h1,bj _ _ ar,E.mono bj aQ,bF⟩
def ly{α:Type}(f:α→Value)(p:α→Prop)(h0:∀ x,(f x).oneCell'=true):ej α where
 size:=1
 rep _ x c:=c=[f x]∧p x
 mono _ h:=h
 len h:=by rw [h.1];rfl
 one h u hu:=by rw [h.1] at hu;simp only [List.mem_singleton] at hu;subst hu;exact h0 _
def encI:ej Int:=ly aA (fun x => -9223372036854775808≤x∧x≤9223372036854775807) fun _=>rfl
def hc:ej UInt8:=ly bn (fun _=>True) fun _=>rfl
def alo:ej UInt32:=ly cI (fun _=>True) fun _=>rfl
def sz:ej Bool:=ly jk (fun _=>True) fun _=>rfl
def encS:ej (List UInt8):=ly vs (fun s=>s.length≤140737488355328) fun _=>rfl
def wy{α:Type}(E:ej α):ej (List α) where
 size:=1
 rep z x c:=∃ v,c=[v]∧bo E z v x
 mono bj h:=by obtain ⟨v,h1,ar⟩:=h;exact ⟨v,h1,ar.mono bj⟩
 len h:=by obtain ⟨v,h1,_⟩:=h;rw [h1];rfl
 one h u hu:=by
  obtain ⟨v,h1,_,a,c,ar,_⟩:=h
  rw [h1,ar] at hu
  simp only [List.mem_singleton] at hu
  rw [hu];rfl
def pH(m:Nat):ej (List UInt8) where
 size:=m
 rep _ x c:=x.length=m∧c=x.map bn
 mono _ h:=h
 len h:=by rw [h.2,List.length_map,h.1]
 one h u hu:=by rw [h.2] at hu;obtain ⟨x,_,rfl⟩:=List.mem_map.1 hu;rfl
def gQ(w0:World)(zs:List aR)(z:aR):Prop:=z=cf w0∨z∈zs
theorem aB.le{w0 zs hs w z}(h:aB w0 zs hs w)(bj:gQ w0 zs z):z.le (cf w):=by
 rcases bj with rfl | bj
 ·exact h.ext
 ·exact (h.zone z bj).1
theorem cM{w0:World}{zs:List aR}:gQ w0 zs (cf w0):=.inl rfl
def oH(z:aR)(p:Value)(m:Nat):List Value:=
 match p with
 | .pointer (some ⟨b,off,_⟩)=>match z b with
  | some (.cells cs _ _)=>(cs.toList.drop off).take m
  | _=>[]
 | _=>[]
theorem fU(b o n:Nat):(⟨b,o,none⟩:Addr).add n=⟨b,o+n,none⟩:=Addr.add_lit b o n
theorem bo.at{α:Type}{E:ej α}{z:aR}{v:Value}{xs:List α}(h:bo E z v xs){i:Nat}{x:α}(aM:xs[i]?=some x) :
  ∃ b off cs ty fz dN,dn v (i*E.size)=.pointer (some ⟨b,off,none⟩)∧z b=some (.cells cs ty fz)∧E.rep z x dN∧(∀ j u,dN[j]?=some u→cs[off+j]?=some u):=by
 obtain ⟨_,a,c,rfl,_,h⟩:=h
 obtain ⟨b,off,cs,ty,fz,dN,rfl,ar,aQ,bF⟩:=h i x aM
 exact ⟨b,off+i*E.size,cs,ty,fz,dN,by simp [dn,fU],ar,aQ,bF⟩
theorem bo.rep{α:Type}{E:ej α}{z:aR}{v:Value}{xs:List α}(h:bo E z v xs){i:Nat}{x:α}(aM:xs[i]?=some x) :
  E.rep z x (oH z (dn v (i*E.size)) E.size):=by
 obtain ⟨b,off,cs,ty,fz,dN,h1,ar,aQ,bF⟩:=h.at aM
 have hl:=E.len aQ
 have:oH z (dn v (i*E.size)) E.size=dN:=by
  simp only [h1,oH,ar]
  apply List.ext_getElem?
  intro j
  rw [List.getElem?_take,List.getElem?_drop]
  split
  ·rename_i aV
   have sW:j<dN.length:=by omega
   have:=bF j dN[j] (by simp [sW])
   simp [sW,this]
  ·rename_i aV
   rw [List.getElem?_eq_none ag]
 rw [this]
 exact aQ
section
variable {P:Program}{n:Nat}{w0:World}{zs:List aR}{hs:List aC}{L:List (Nat×Value)}{d:Option Tmp}{ty t b7:TypeId}{pos:String}{af:Array Edge}{g:Option (Nat×Bool)}
variable {x y c ot ou kR:Operand}{u v:Value}
theorem ba.info{P:Program}{t:TypeId}{bS:TypeDesc}{s b:Nat}{z:Value}(h:ba P t bS s b z):∃ i,P.info? t=some i∧i.size=s∧i.bytes=b∧i.zero=some z:=by
 have:=h.inf
 cases aH:P.info? t with
 | none=>simp [aH] at this
 | some i=>
  simp [aH] at this
  exact ⟨i,rfl,this.1,this.2.1,this.2.2⟩
theorem ba.sizeOf{P:Program}{t:TypeId}{bS:TypeDesc}{s b:Nat}{z:Value}(h:ba P t bS s b z)(w:World):(Go.sizeOf t).run P w=.ok s w:=by
 obtain ⟨i,h1,ar,_⟩:=h.info
 simp [Go.sizeOf,typeInfo,h1,ar]
theorem ba.zero{P:Program}{t:TypeId}{bS:TypeDesc}{s b:Nat}{z:Value}(h:ba P t bS s b z)(w:World):(zeroValue t).run P w=.ok z w:=by
 obtain ⟨i,h1,ar,aQ,bF⟩:=h.info
 simp [zeroValue,typeInfo,h1,bF]
theorem ba.SH{P:Program}{t:TypeId}{bS:TypeDesc}{s b:Nat}{z:Value}(h:ba P t bS s b z)(w:World):∃ i,(typeInfo t).run P w=.ok i w∧i.size=s∧i.bytes=b∧i.zero=some z:=by
 obtain ⟨i,h1,ar⟩:=h.info
 exact ⟨i,by simp [typeInfo,h1],ar⟩
def fg:TypeDesc→Bool
 | .struct _ | .array _ _=>true
 | _=>false
theorem ba.isAgg{P:Program}{t:TypeId}{bS:TypeDesc}{s b:Nat}{z:Value}(h:ba P t bS s b z)(w:World):(Go.isAgg t).run P w=.ok (fg bS) w:=by
 unfold Go.isAgg
 rw [Sem.run_bind,run_underlying h.und]
 cases bS <;> simp [fg]
theorem vG{bS:TypeDesc}{s bu:Nat}{z:Value}(aN:ba P t bS s bu z)(aT:fg bS=false){w:World}{a:Addr}(h:w.cell? a=some v):(loadVar t a).run P w=.ok v w:=by
 unfold loadVar
 rw [Sem.run_bind,aN.isAgg]
 simp [aT,h]
theorem xK{bS:TypeDesc}{s bu:Nat}{z:Value}(aN:ba P t bS s bu z)(aT:fg bS=true){w:World}{b off:Nat}{cs:Array Value}{bt:TypeId}{fz:Nat×Nat}(h:w.heap[b]?=some (.cells cs bt fz))(hs:off+s≤cs.size) :
  (loadVar t ⟨b,off,none⟩).run P w=.ok (.agg ((cs.toList.drop off).take s).toArray) w:=by
 have hl:(loadCells ⟨b,off,none⟩ ((cs.toList.drop off).take s).length).run P w=.ok ((cs.toList.drop off).take s).toArray w:=
  run_loadCells_list (P:=P) w ⟨b,off,none⟩ _ (fun j v bA=>by
   rw [fU,cell_of_row w b _ cs bt fz h]
   rw [List.getElem?_take,List.getElem?_drop] at bA
   split at bA
   ·simpa using bA
   ·cases bA)
 have hlen:((cs.toList.drop off).take s).length=s:=by simp;omega
 rw [hlen] at hl
 unfold loadVar
 rw [Sem.run_bind,aN.isAgg]
 simp [aT,aN.sizeOf,hl]
theorem bf[a1]{bS:TypeDesc}{s bu:Nat}{zv:Value}(aN:ba P t bS s bu zv)(k:Nat){b off:Nat}{bt:TypeId}{cs:List Value}(h1:aW L x=some (.pointer (some ⟨b,off,none⟩)))(aE:hs[k]?=some (.blk b bt cs))(bA:cs[off]?=some v)(aT:fg bS=false) :
  bR P n w0 zs hs L ⟨d,.load t x,ty,pos,af,g⟩ v:=
 eV fun a bg w hw=>by
  have aw:=(hw.own _ (List.mem_of_getElem? aE)).1.2
  have bq:w.cell? ⟨b,off,none⟩=some v:=by rw [cell_of_row w b off _ bt _ aw];simpa using bA
  simp only [execOp,bg.eval h1]
  simp [Instr.loadAt,Instr.sureAddr,vG aN aT bq]
theorem Ap[a1]{bS:TypeDesc}{s bu:Nat}{zv:Value}(aN:ba P t bS s bu zv)(k:Nat){b off:Nat}{bt:TypeId}{cs c:List Value}(h1:aW L x=some (.pointer (some ⟨b,off,none⟩)))(aE:hs[k]?=some (.blk b bt cs))(bA:(cs.drop off).take s=c)(hl:off+s≤cs.length)(aT:fg bS=true) :
  bR P n w0 zs hs L ⟨d,.load t x,ty,pos,af,g⟩ (.agg c.toArray):=
 eV fun a bg w hw=>by
  have aw:=(hw.own _ (List.mem_of_getElem? aE)).1.2
  have:=xK aN aT aw (off:=off) (by simpa using hl)
  simp only [bA] at this
  simp only [execOp,bg.eval h1]
  simp [Instr.loadAt,Instr.sureAddr,this]
theorem ji[a1]{bS:TypeDesc}{s bu:Nat}{zv:Value}(aN:ba P t bS s bu zv){b off:Nat}{bt:TypeId}{cs:Array Value}{fz:Nat×Nat}(h1:aW L x=some (.pointer (some ⟨b,off,none⟩)))(aE:w0.heap[b]?=some (.cells cs bt fz))(bA:cs[off]?=some v)(aT:fg bS=false) :
  bR P n w0 zs hs L ⟨d,.load t x,ty,pos,af,g⟩ v:=
 eV fun a bg w hw=>by
  have aw:=hw.ext _ _ aE
  have bq:w.cell? ⟨b,off,none⟩=some v:=by rw [cell_of_row w b off _ bt _ aw];simpa using bA
  simp only [execOp,bg.eval h1]
  simp [Instr.loadAt,Instr.sureAddr,vG aN aT bq]
theorem afI[a1]{bS:TypeDesc}{s bu:Nat}{zv:Value}(aN:ba P t bS s bu zv){b off:Nat}{bt:TypeId}{cs:Array Value}{fz:Nat×Nat}{c:List Value}(h1:aW L x=some (.pointer (some ⟨b,off,none⟩)))(aE:w0.heap[b]?=some (.cells cs bt fz))(bA:(cs.toList.drop off).take s=c)(hl:off+s≤cs.size)(aT:fg bS=true) :
  bR P n w0 zs hs L ⟨d,.load t x,ty,pos,af,g⟩ (.agg c.toArray):=
 eV fun a bg w hw=>by
  have aw:=hw.ext _ _ aE
  have:=xK aN aT aw hl
  simp only [bA] at this
  simp only [execOp,bg.eval h1]
  simp [Instr.loadAt,Instr.sureAddr,this]
theorem aZ[a1]{fs:Array Field}{s bu:Nat}{zv:Value}(aN:ba P t (.struct fs) s bu zv){b off k:Nat}{f:Field}{s':Nat}(h1:aW L x=some (.pointer (some ⟨b,off,none⟩)))(bw:fs[k]?=some f)(eF:(P.info? f.type).map (·.size)=some (s'+1)) :
  bR P n w0 zs hs L ⟨d,.fieldAddr t x k,ty,pos,af,g⟩ (.pointer (some ⟨b,off+f.offset,none⟩)):=
 eV fun a bg w hw=>by
  have eF:(sizeOf f.type).run P w=.ok (s'+1) w:=by
   cases aH:P.info? f.type with
   | none=>simp [aH] at eF
   | some i=>simp [aH] at eF;simp [sizeOf,typeInfo,aH,eF]
  simp only [execOp,bg.eval h1]
  simp [Instr.fieldAt,Instr.sureAddr,run_underlying aN.und,bw,fieldPlace,eF,fU]
theorem gG[a1]{m:Nat}{e:TypeId}{s bu:Nat}{zv:Value}(aN:ba P t (.array m e) s bu zv){de:TypeDesc}{se be:Nat}{ze:Value}(cr:ba P e de se be ze){b off:Nat}{i:Int}{k:IntKind}(h1:aW L x=some (.pointer (some ⟨b,off,none⟩)))(ar:aW L y=some (.int k i))(aw:0≤i∧i<m) :
  bR P n w0 zs hs L ⟨d,.indexAddr t x y,ty,pos,af,g⟩ (.pointer (some ⟨b,off+i.toNat*se,none⟩)):=
 eV fun a bg w hw=>by
  simp only [execOp,bg.eval h1,bg.eval ar]
  simp [Instr.indexAt,Instr.sureAddr,asIntOf,run_underlying aN.und,aw,cr.sizeOf,fU]
theorem dV[a1]{α:Type}{E:ej α}{z:aR}{xs:List α}{e:TypeId}{s bu:Nat}{zv:Value}(aN:ba P t (.slice e) s bu zv){de:TypeDesc}{be:Nat}{ze:Value}(cr:ba P e de E.size be ze){i:Int}{k:IntKind}(U:bo E z v xs)(h1:aW L x=some v)(ar:aW L y=some (.int k i))(aw:0≤i∧i<xs.length) :
  bR P n w0 zs hs L ⟨d,.indexAddr t x y,ty,pos,af,g⟩ (dn v (i.toNat*E.size)):=
 eV fun a bg w hw=>by
  obtain ⟨_,hp,h4,rfl,_,h⟩:=U
  have aH:i.toNat<xs.length:=by omega
  obtain ⟨b,off,cs,mj,fz,dN,rfl,_⟩:=h i.toNat xs[i.toNat] (by simp [aH])
  simp only [execOp,bg.eval h1,bg.eval ar]
  simp [Instr.indexAt,asIntOf,run_underlying aN.und,aw,cr.sizeOf,fU,dn]
theorem IU[a1]{α:Type}{f:α→Value}{p:α→Prop}{h0:∀ x,(f x).oneCell'=true}{z:aR}{xs:List α}{bS:TypeDesc}{s bu:Nat}{zv:Value}(aN:ba P t bS s bu zv)(aT:fg bS=false){k:Nat}{e:α}(U:bo (ly f p h0) z v xs)(bj:gQ w0 zs z)(h1:aW L x=some (dn v (k*1)))(aE:xs[k]?=some e) :
  bR P n w0 zs hs L ⟨d,.load t x,ty,pos,af,g⟩ (f e):=
 eV fun a bg w hw=>by
  obtain ⟨b,off,cs,mj,fz,dN,bO,gn,aY,bq⟩:=U.at aE
  have aw:=hw.le bj _ _ gn
  have nI:w.cell? ⟨b,off,none⟩=some (f e):=by
   rw [cell_of_row w b off _ mj _ aw]
   have:=bq 0 (f e) (by rw [aY.1];rfl)
   simpa using this
  have he:a.eval x=.pointer (some ⟨b,off,none⟩):=(bg.eval h1).trans bO
  simp only [execOp,he]
  simp [Instr.loadAt,Instr.sureAddr,vG aN aT nI]
theorem tz[a1]{z:aR}{xs:List Int}{bS:TypeDesc}{s bu:Nat}{zv:Value}(aN:ba P t bS s bu zv){k:Nat}(U:bo encI z v xs)(bj:gQ w0 zs z)(h1:aW L x=some (dn v (k*1)))(aT:fg bS=false)(aE:k<xs.length) :
  bR P n w0 zs hs L ⟨d,.load t x,ty,pos,af,g⟩ (aA (xs.getD k 0)):=
 IU aN aT U bj h1 (by simp [aE])
theorem nh[a1]{z:aR}{xs:List UInt8}{bS:TypeDesc}{s bu:Nat}{zv:Value}(aN:ba P t bS s bu zv){k:Nat}(U:bo hc z v xs)(bj:gQ w0 zs z)(h1:aW L x=some (dn v (k*1)))(aT:fg bS=false)(aE:k<xs.length) :
  bR P n w0 zs hs L ⟨d,.load t x,ty,pos,af,g⟩ (bn (xs.getD k 0)):=
 IU aN aT U bj h1 (by simp [aE])
theorem tA[a1]{z:aR}{xs:List (List UInt8)}{bS:TypeDesc}{s bu:Nat}{zv:Value}(aN:ba P t bS s bu zv){k:Nat}(U:bo encS z v xs)(bj:gQ w0 zs z)(h1:aW L x=some (dn v (k*1)))(aT:fg bS=false)(aE:k<xs.length) :
  bR P n w0 zs hs L ⟨d,.load t x,ty,pos,af,g⟩ (vs (xs.getD k [])):=
 IU aN aT U bj h1 (by simp [aE])
def elemV(z:aR)(v:Value)(k:Nat):Value:=((oH z (dn v (k*1)) 1)[0]?).getD undef
theorem Mb{α:Type}{E:ej α}{z:aR}{v:Value}{xs:List (List α)}{k:Nat}(U:bo (wy E) z v xs)(aE:k<xs.length):bo E z (elemV z v k) (xs.getD k []):=by
 have aM:xs[k]?=some (xs.getD k []):=by simp [aE]
 obtain ⟨u,h1,ar⟩:=U.rep aM
 have:(wy E).size=1:=rfl
 simp only [this] at h1
 unfold elemV
 rw [h1]
 exact ar
theorem QP[a1]{α:Type}{E:ej α}{z:aR}{xs:List (List α)}{bS:TypeDesc}{s bu:Nat}{zv:Value}(aN:ba P t bS s bu zv){k:Nat}(U:bo (wy E) z v xs)(bj:gQ w0 zs z)(h1:aW L x=some (dn v (k*1)))(aT:fg bS=false)(aE:k<xs.length) :
  bR P n w0 zs hs L ⟨d,.load t x,ty,pos,af,g⟩ (elemV z v k):=
 eV fun a bg w hw=>by
  have aM:xs[k]?=some (xs.getD k []):=by simp [aE]
  obtain ⟨b,off,cs,mj,fz,dN,bO,gn,aY,bq⟩:=U.at aM
  have aw:=hw.le bj _ _ gn
  obtain ⟨u,hu,_⟩:=aY
  have h0:=bq 0 u (by rw [hu];rfl)
  have uV:elemV z v k=u:=by
   unfold elemV
   have abi:dn v (k*1)=.pointer (some ⟨b,off,none⟩):=bO
   simp only [abi,oH,gn]
   rw [List.getElem?_take,List.getElem?_drop]
   simp at h0
   simp [h0]
  have nI:w.cell? ⟨b,off,none⟩=some u:=by
   rw [cell_of_row w b off _ mj _ aw]
   simpa using h0
  have he:a.eval x=.pointer (some ⟨b,off,none⟩):=(bg.eval h1).trans bO
  simp only [execOp,he]
  simp [Instr.loadAt,Instr.sureAddr,vG aN aT nI,uV]
theorem IV[a1]{α:Type}{E:ej α}{z:aR}{xs:List α}{bS:TypeDesc}{bu:Nat}{zv:Value}(aN:ba P t bS E.size bu zv){k m:Nat}(hm:m=k*E.size)(h0:0<E.size)(U:bo E z v xs)(bj:gQ w0 zs z)(h1:aW L x=some (dn v m))(aT:fg bS=true)(aE:k<xs.length) :
  bR P n w0 zs hs L ⟨d,.load t x,ty,pos,af,g⟩ (.agg (oH z (dn v (k*E.size)) E.size).toArray):=
 eV fun a bg w hw=>by
  subst hm
  have aM:xs[k]?=some xs[k]:=by simp [aE]
  obtain ⟨b,off,cs,mj,fz,dN,bO,gn,aY,bq⟩:=U.at aM
  have aw:=hw.le bj _ _ gn
  have hlen:=E.len aY
  have rG:off+E.size≤cs.size:=by
   have:=bq (E.size-1) (dN[E.size-1]'ag) (by simp)
   have:=(Array.getElem?_eq_some_iff.1 this).1
   omega
  have:=xK aN aT aw rG
  have he:a.eval x=.pointer (some ⟨b,off,none⟩):=(bg.eval h1).trans bO
  have aaj:oH z (dn v (k*E.size)) E.size=(cs.toList.drop off).take E.size:=by simp only [bO,oH,gn]
  simp only [execOp,he]
  simp [Instr.loadAt,Instr.sureAddr,this,aaj]
end
end Go.aK
end
section
namespace Go.aK
def fJ[a1](P:Program)(n:Nat)(w0:World)(zs:List aR)(hs:List aC)(L:List (Nat×Value))(o:Oper)(K:Value→List aR→List aC→Prop):Prop:=
 ∀ a,Fr n L a→∀ w,aB w0 zs hs w→∀ (next:Act→World→Prop) (Q:Exit→Act→World→Prop),
  (∀ v zs' hs' w',K v zs' hs'→aB w0 zs' hs' w'→next (a.put o.dst v) w')→o.wp P a w next Q
section
variable {P:Program}{n:Nat}{w0:World}{zs:List aR}{hs:List aC}{L:List (Nat×Value)}{d:Option Tmp}{ty t b7:TypeId}{pos:String}{af:Array Edge}{g:Option (Nat×Bool)}
variable {x y c ot ou kR:Operand}{u v:Value}{ops:Array Oper}{rest:List Oper}
theorem ajG[a1]{op:Op}{Q:Exit→Act→World→Prop}{a:Act}{w:World}{K:Value→List aR→List aC→Prop}(ab:Fr n L a)(U:aB w0 zs hs w)(aT:(match d with | some k=>Nat.blt k n | none=>true)=true)(e:fJ P n w0 zs hs L ⟨d,op,ty,pos,af,none⟩ K)
  (h:∀ v zs' hs' a w,K v zs' hs'→Fr n (lh d v L) a→aB w0 zs' hs' w→wpList P ops Q rest a w):wpList P ops Q (⟨d,op,ty,pos,af,none⟩::rest) a w:=by
 unfold wpList
 rw [if_pos (show Region.wanted ⟨d,op,ty,pos,af,none⟩ (yielded ops a.tmps)=true from rfl)]
 refine .inl (e a ab w U _ _ fun v zs' hs' w' dU jX=>h v zs' hs' _ w' dU (ab.up ?_) jX)
 cases d with
 | none=>trivial
 | some k=>exact Nat.blt_eq.mp aT
theorem ka[a1]{o:Oper}{K:Value→List aR→List aC→Prop}(h:∀ a,Fr n L a→∀ w,aB w0 zs hs w→∃ v zs' hs' w',((execOp a.eval o).run P w=.ok (.value v) w'∨((execOp a.eval o).run P w=.ok .skip w'∧v=undef))∧K v zs' hs'∧aB w0 zs' hs' w'):fJ P n w0 zs hs L o K:=by
 intro a bg w hw next Q bD
 obtain ⟨v,zs',hs',w',aY,dU,U⟩:=h a bg w hw
 unfold Oper.wp
 rcases aY with aY | ⟨aY,rfl⟩ <;> rw [aY] <;> exact bD _ _ _ _ dU U
theorem L6[a1]{bS:TypeDesc}{s bu:Nat}{zv:Value}(aN:ba P t bS s bu zv) :
  fJ P n w0 zs hs L ⟨d,.alloc t,ty,pos,af,g⟩ (fun v zs' hs'=>∃ b,v=.pointer (some ⟨b,0,none⟩)∧zs'=zs∧hs'=.blk b t zv.cells.toList::hs):=
 ka fun a bg w hw=>⟨_,_,_,_,.inl (by
   simp only [execOp]
   simp [Instr.alloc,aN.zero,newVar,newRow]
   rfl),⟨w.heap.size,rfl,rfl,rfl⟩,by simpa using hw.new t zv.cells.toList⟩
theorem L7[a1](h1:aW L x=some v) :
  fJ P n w0 zs hs L ⟨d,.box t x,ty,pos,af,g⟩ (fun dr zs' hs'=>∃ b,dr=.pointer (some ⟨b,0,none⟩)∧zs'=zs∧hs'=.blk b t v.cells.toList::hs):=
 ka fun a bg w hw=>⟨_,_,_,_,.inl (by
   simp only [execOp,bg.eval h1]
   simp [Instr.box,newVar,newRow]
   rfl),⟨w.heap.size,rfl,rfl,rfl⟩,by simpa using hw.new t v.cells.toList⟩
theorem dg[a1]{bS:TypeDesc}{s bu:Nat}{cs:List Value}(aN:ba P t bS s bu (.agg cs.toArray)) :
  fJ P n w0 zs hs L ⟨d,.alloc t,ty,pos,af,g⟩ (fun v zs' hs'=>∃ b,v=.pointer (some ⟨b,0,none⟩)∧zs'=zs∧hs'=.blk b t cs::hs):=
 L6 aN
theorem wv[a1]{bS:TypeDesc}{bu:Nat}{zv:Value}(aN:ba P t bS 1 bu zv)(cH:zv.oneCell'=true) :
  fJ P n w0 zs hs L ⟨d,.alloc t,ty,pos,af,g⟩ (fun v zs' hs'=>∃ b,v=.pointer (some ⟨b,0,none⟩)∧zs'=zs∧hs'=.blk b t [zv]::hs):=by
 have bq:zv.cells.toList=[zv]:=by cases zv <;> first | rfl | (simp [Value.oneCell'] at cH)
 have:=L6 (P:=P) (n:=n) (w0:=w0) (zs:=zs) (hs:=hs) (L:=L) (d:=d) (ty:=ty) (pos:=pos) (af:=af) (g:=g) aN
 rwa [bq] at this
theorem jV[a1]{cs:List Value}(h1:aW L x=some (.agg cs.toArray)) :
  fJ P n w0 zs hs L ⟨d,.box t x,ty,pos,af,g⟩ (fun dr zs' hs'=>∃ b,dr=.pointer (some ⟨b,0,none⟩)∧zs'=zs∧hs'=.blk b t cs::hs):=
 L7 h1
theorem oM[a1](h1:aW L x=some v)(cH:v.oneCell'=true) :
  fJ P n w0 zs hs L ⟨d,.box t x,ty,pos,af,g⟩ (fun dr zs' hs'=>∃ b,dr=.pointer (some ⟨b,0,none⟩)∧zs'=zs∧hs'=.blk b t [v]::hs):=by
 have bq:v.cells.toList=[v]:=by cases v <;> first | rfl | (simp [Value.oneCell'] at cH)
 have:=L7 (P:=P) (n:=n) (w0:=w0) (zs:=zs) (hs:=hs) (L:=L) (d:=d) (ty:=ty) (t:=t) (pos:=pos) (af:=af) (g:=g) h1
 rwa [bq] at this
theorem aB.store{w0:World}{zs:List aR}{hs:List aC}{w:World}(h:aB w0 zs hs w){k:Nat}{b off:Nat}{bt:TypeId}{cs c:List Value}(aE:hs[k]?=some (.blk b bt cs))(hl:off+c.length≤cs.length) :
  aB w0 zs (hs.set k (.blk b bt (cs.take off++c++cs.drop (off+c.length)))) (w.setRow b (cs.take off++c++cs.drop (off+c.length)).toArray):=by
 have aw:=(h.own _ (List.mem_of_getElem? aE)).1
 refine h.set aE rfl (fun j aV=>setRow_other w b j _ (fun e=>aV (by rw [← e];rfl))) ⟨aw.1,?_⟩ (by simp) ⟨rfl,rfl,rfl⟩
 exact setRow_heap w b cs.toArray _ bt (0,0) aw.2
theorem AP{bS:TypeDesc}{s bu:Nat}{zv:Value}(aN:ba P t bS s bu zv){w:World}{b off:Nat}{bt:TypeId}{cs:List Value}(aw:w.heap[b]?=some (.cells cs.toArray bt (0,0)))(bq:v.cells.size=s)(h1:∀ u∈v.cells,u.oneCell'=true)(hl:off+s≤cs.length) :
  (storeVar t ⟨b,off,none⟩ v).run P w=.ok () (w.setRow b (cs.take off++v.cells.toList++cs.drop (off+v.cells.toList.length)).toArray):=by
 have:=run_storeCells_at P b off bt v.cells.toList 0 cs.toArray w aw (by simpa [bq] using hl) (by simpa using h1)
 simp only [Nat.add_zero] at this
 simp [storeVar,aN.sizeOf,bq,this]
theorem FO[a1]{bS:TypeDesc}{s bu:Nat}{zv:Value}(aN:ba P t bS s bu zv)(k:Nat){b off:Nat}{bt:TypeId}{cs c cs':List Value}(h1:aW L x=some (.pointer (some ⟨b,off,none⟩)))(ar:aW L y=some v)(aE:hs[k]?=some (.blk b bt cs))(bq:v.cells=c.toArray)(iT:c.length=s)(cH:∀ u∈c,u.oneCell'=true)(hl:off+s≤cs.length)(he:cs.take off++c++cs.drop (off+s)=cs') :
  fJ P n w0 zs hs L ⟨d,.store t x y,ty,pos,af,g⟩ (fun v zs' hs'=>v=undef∧zs'=zs∧hs'=hs.set k (.blk b bt cs')):=
 ka fun a bg w hw=>by
  subst iT
  have aw:=(hw.own _ (List.mem_of_getElem? aE)).1
  have aY:=AP (v:=v) aN aw.2 (off:=off) (by rw [bq];simp) (by rw [bq];simpa using cH) hl
  rw [bq] at aY
  rw [← he]
  refine ⟨undef,zs,_,_,.inr ⟨?_,rfl⟩,⟨rfl,rfl,rfl⟩,hw.store aE hl⟩
  simp only [execOp,bg.eval h1,bg.eval ar]
  simp [Instr.storeAt,Instr.sureAddr,aY]
theorem dq[a1]{bS:TypeDesc}{bu:Nat}{zv:Value}(aN:ba P t bS 1 bu zv)(k:Nat){b off:Nat}{bt:TypeId}{cs:List Value}(h1:aW L x=some (.pointer (some ⟨b,off,none⟩)))(ar:aW L y=some v)(aE:hs[k]?=some (.blk b bt cs))(cH:v.oneCell'=true)(hl:off<cs.length) :
  fJ P n w0 zs hs L ⟨d,.store t x y,ty,pos,af,g⟩ (fun dr zs' hs'=>dr=undef∧zs'=zs∧hs'=hs.set k (.blk b bt (cs.set off v))):=by
 have bq:v.cells=[v].toArray:=by cases v <;> first | rfl | (simp [Value.oneCell'] at cH)
 refine FO (c:=[v]) aN k h1 ar aE bq rfl (by simpa using cH) hl ?_
 simp only [List.set_eq_take_append_cons_drop,if_pos hl,List.append_assoc,List.cons_append,List.nil_append]
theorem IF{α:Type}{E:ej α}{base:Nat}{w:World}{e:TypeId}{v:Value}{m:Nat}{cs:List Value}(h:w.ownsRow base e E.size v m cs){xs:List α}(hm:m=xs.length)(aw:m≤140737488355328)
  (aY:∀ i x,xs[i]?=some x→∃ dN,E.rep (cf w) x dN∧∀ j u,dN[j]?=some u→cs[i*E.size+j]?=some u):bo E (cf w) v xs:=by
 subst hm
 refine ⟨aw,?_⟩
 rcases h.2 with ⟨rfl,bD⟩ | ⟨b,cap,cur,rfl,aw,aP,k4,oa,iT,kM⟩
 ·refine ⟨none,0,by rw [bD],by omega,fun i x aM=>?_⟩
  have:=(List.getElem?_eq_some_iff.1 aM).1
  omega
 ·refine ⟨some ⟨b,0,none⟩,cap,rfl,k4,fun i x aM=>?_⟩
  obtain ⟨dN,h1,ar⟩:=aY i x aM
  refine ⟨b,0,cur,e,(0,0),dN,rfl,aP,h1,fun j u hu=>?_⟩
  have aQ:=ar j u hu
  rw [← kM,List.getElem?_take] at aQ
  split at aQ
  ·simpa [Nat.zero_add] using aQ
  ·cases aQ
theorem lM{α:Type}{f:α→Value}{p:α→Prop}{h0:∀ x,(f x).oneCell'=true}{base:Nat}{w:World}{e:TypeId}{v:Value}{m:Nat}{xs:List α}(h:w.ownsRow base e 1 v m (xs.map f))(bO:∀ x∈xs,p x)(hm:m=xs.length)(aw:m≤140737488355328):bo (ly f p h0) (cf w) v xs:=
 IF (E:=ly f p h0) h hm aw fun i x aM=>⟨[f x],⟨rfl,bO x (List.mem_of_getElem? aM)⟩,fun j u hu=>by
  cases j with
  | zero=>simp only [List.getElem?_cons_zero,Option.some.injEq] at hu;subst hu;show (xs.map f)[i*1+0]?=_;simp [aM]
  | succ j=>simp at hu⟩
def ui(P:Program)(w0:World)(zs:List aR)(hs:List aC)(size:Nat)(tx:TypeId)(x:Value)(m:Nat)(news:List Value):Prop:=
 ∀ w,aB w0 zs hs w→Src P size tx x m news w
theorem aih{tx:TypeId}{s bu:Nat}{zv:Value}(aN:ba P tx .string s bu zv)(l:List UInt8):ui P w0 zs hs 1 tx (vs l) l.length (l.map bn):=by
 intro w _
 have:=Src.ofString (P:=P) w aN.und (cW l)
 have bL:byteCells (cW l)=l.map bn:=by simp [byteCells]
 have bT:(cW l).size=l.length:=by simp [ByteArray.size]
 rw [bL,bT] at this
 exact this
theorem Sy{α:Type}{E:ej α}{z:aR}{xs:List α}{tx e:TypeId}{s bu:Nat}{zv:Value}(aN:ba P tx (.slice e) s bu zv)(U:bo E z v xs)(bj:gQ w0 zs z)(cs:List Value)(hl:cs.length=xs.length*E.size)(h1:∀ u∈cs,u.oneCell'=true)
  (bq:∀ i x dN,xs[i]?=some x→E.rep z x dN→∀ j,j<E.size→cs[i*E.size+j]?=dN[j]?) (h0:0<E.size):ui P w0 zs hs E.size tx v xs.length cs:=by
 intro w hw
 obtain ⟨aw,a,c,rfl,u4,h⟩:=U
 cases a with
 | none=>
  have aM:xs=[]:=by
   cases xs with
   | nil=>rfl
   | cons x xs=>obtain ⟨_,_,_,_,_,_,fN,_⟩:=h 0 x rfl;cases fN
  subst aM
  have:cs=[]:=List.eq_nil_of_length_eq_zero (by simpa using hl)
  subst this
  exact Src.ofNil w aN.und c
 | some ad=>
  refine Src.ofSlice w aN.und ad xs.length c cs hl (fun j u hu=>?_) h1
  have aV:j<cs.length:=(List.getElem?_eq_some_iff.1 hu).1
  have aH:j/E.size<xs.length:=by rw [hl] at aV;exact Nat.div_lt_of_lt_mul (by rwa [Nat.mul_comm])
  obtain ⟨b,off,cc,mj,fz,dN,fN,ar,aQ,bF⟩:=h (j/E.size) xs[j/E.size] (by simp [aH])
  simp only [Option.some.injEq] at fN
  subst fN
  have cO:=bq (j/E.size) _ dN (by simp [aH]) aQ (j%E.size) (Nat.mod_lt _ h0)
  have bL:j/E.size*E.size+j%E.size=j:=by rw [Nat.mul_comm];exact Nat.div_add_mod _ _
  rw [bL,hu] at cO
  have dR:=bF _ _ cO.symm
  rw [fU,cell_of_row w b _ cc mj fz (hw.le bj _ _ ar)]
  rw [← dR]
  congr 1
  omega
theorem D4{α:Type}{f:α→Value}{p:α→Prop}{h0:∀ x,(f x).oneCell'=true}{z:aR}{xs:List α}{tx e:TypeId}{s bu:Nat}{zv:Value}(aN:ba P tx (.slice e) s bu zv)(U:bo (ly f p h0) z v xs)(bj:gQ w0 zs z):ui P w0 zs hs 1 tx v xs.length (xs.map f):=
 Sy (E:=ly f p h0) aN U bj (xs.map f) (by simp [ly]) (fun u hu=>by obtain ⟨y,_,rfl⟩:=List.mem_map.1 hu;exact h0 y) (fun i x dN aM aY j aV=>by
  have:j=0:=by simp [ly] at aV;omega
  subst this
  rw [aY.1]
  show (xs.map f)[i*1+0]?=_
  simp [aM]) Nat.one_pos
theorem eo{tx e e5:TypeId}{s bu size m:Nat}{zv:Value}(aN:ba P tx (.slice e) s bu zv){k:Nat}{cs:List Value}(aE:hs[k]?=some (.row v e5 size m cs))(h1:∀ u∈cs,u.oneCell'=true):ui P w0 zs hs size tx v m cs:=by
 intro w hw
 have h:=(hw.own _ (List.mem_of_getElem? aE)).1
 have hlen:=h.1
 rcases h.2 with ⟨rfl,bD⟩ | ⟨b,cap,cur,rfl,aw,aP,k4,oa,iT,kM⟩
 ·subst bD
  have:cs=[]:=List.eq_nil_of_length_eq_zero (by simpa using hlen)
  subst this
  exact Src.ofNil w aN.und 0
 ·refine Src.ofSlice w aN.und ⟨b,0,none⟩ m cap cs hlen (fun j u hu=>?_) h1
  rw [fU,cell_of_row w b _ cur e5 (0,0) aP]
  rw [← kM,List.getElem?_take] at hu
  split at hu
  ·simpa using hu
  ·cases hu
theorem ahk{base:Nat}{w:World}{e:TypeId}{de:TypeDesc}{size bu st bt:Nat}{zv zt:Value}(cr:ba P e de size bu zv)(aN:ba P t (.slice e) st bt zt)(H3:zv.cells.size=size)(h0:0<size){m k:Nat}{xs news:List Value}{tx:TypeId}(fj:w.ownsRow base e size v m xs)(nK:Src P size tx u k news w)
  (aw:(m+k)*bu≤140737488355328) (alK:m+k≤140737488355328) (aaa:base≤w.heap.size) :
  ∃ dr w',(Builtin.append_ #[t,tx] ty #[v,u]).run P w=.ok dr w'∧w'.ownsRow base e size dr (m+k) (xs++news)∧w.grownBy w' v.ownBlock∧(∀ b,dr.ownBlock=some b→v.ownBlock=some b∨w.heap.size≤b):=by
 obtain ⟨i,aH,rfl,rfl,bj⟩:=cr.info
 have hlen:(xs++news).length=(m+k)*i.size:=by rw [List.length_append,fj.1,nK.newsLen,Nat.add_mul]
 have s0:m+k≤maxLen:=by unfold maxLen;omega
 have grown:∀ (old:Nat),old<m+k→∀ (row:Option Nat),
   (w.drew.alloc (.cells ((xs++news).toArray++Builtin.zeroCells zv.cells (grownCap w (m+k) old e-(m+k))) e)).ownsRow base e i.size
    (.slice (some ⟨w.heap.size,0,none⟩) (m+k) (grownCap w (m+k) old e)) (m+k) (xs++news) ∧
   w.grownBy (w.drew.alloc (.cells ((xs++news).toArray++Builtin.zeroCells zv.cells (grownCap w (m+k) old e-(m+k))) e)) row:=by
  intro old cH row
  have m3:=grownCap_ge w (m+k) old e
  have oa:grownCap w (m+k) old e≤maxLen:=grownCap_le_maxLen w (m+k) old e s0
  refine ⟨⟨hlen,.inr ⟨w.heap.size,_,_,rfl,aaa,heap_alloc_new w.drew _,m3,oa,?_,?_⟩⟩,⟨rfl,rfl,rfl,by simp,fun q ch _=>heap_alloc_old _ _ ch⟩⟩
  ·simp only [Array.size_append,List.size_toArray,size_zeroCells,H3,hlen,← Nat.add_mul]
   congr 1
   omega
  ·simp only [Array.toList_append]
   rw [← hlen]
   exact List.take_left
 rcases fj.2 with ⟨rfl,rfl⟩ | ⟨b,cap,cur,rfl,wS,aP,k4,oa,iT,kM⟩
 ·have aM:xs=[]:=List.eq_nil_of_length_eq_zero (by simpa using fj.1)
  subst aM
  by_cases hm:k=0
  ·subst hm
   have bD:news=[]:=List.eq_nil_of_length_eq_zero (by simpa using nK.newsLen)
   subst bD
   refine ⟨.slice none 0 0,w,?_,World.ownsRow_nil w base e i.size,⟨rfl,rfl,rfl,Nat.le_refl _,fun _ _ _=>rfl⟩,fun b aw=>.inl aw⟩
   rcases nK.kind with ⟨e5,aE⟩ | aE <;> simp [Builtin.append_,run_underlying aN.und,run_underlying aE,sizeOf,typeInfo,aH,nK.len,nK.cells]
  ·have aY:=run_append_grow_src (P:=P) w t tx ty e i zv aN.und aH bj none 0 0 [] (run_firstCells_none w.drew i.size 0 0 0) u k news nK ag ag (by have:=growslice_fits (bytes:=i.bytes) (need:=0+k) (old:=0) ag aw;exact this)
   have hq:=grown 0 ag (Value.ownBlock (.slice none 0 0))
   exact ⟨_,_,aY,hq.1,hq.2,fun b aw=>.inr (by simp [Value.ownBlock] at aw;omega)⟩
 ·by_cases vh:m+k≤cap
  ·have rG:m*i.size+news.length≤cur.size:=by rw [nK.newsLen,iT,← Nat.add_mul];exact Nat.mul_le_mul_right _ vh
   have aY:(Builtin.append_ #[t,tx] ty #[.slice (some ⟨b,0,none⟩) m cap,u]).run P w =
     .ok (.slice (some ⟨b,0,none⟩) (m+k) cap) (w.setRow b (cur.toList.take (m*i.size)++news++cur.toList.drop (m*i.size+news.length)).toArray):=by
    have fH:=run_storeCells_at P b (m*i.size) e news 0 cur w aP (by simpa using rG) nK.one
    simp only [Nat.add_zero] at fH
    rcases nK.kind with ⟨e5,aE⟩ | aE <;> simp [Builtin.append_,run_underlying aN.und,run_underlying aE,sizeOf,typeInfo,aH,nK.len,vh,nK.cells,Addr.add_lit,fH]
   refine ⟨_,_,aY,⟨hlen,.inr ⟨b,cap,_,rfl,wS,setRow_heap w b cur _ e _ aP,vh,oa,?_,?_⟩⟩,⟨rfl,rfl,rfl,by simp,fun k _ aE=>setRow_other w b k _ (fun e=>aE (by simp [Value.ownBlock,e]))⟩,fun b aw=>.inl aw⟩
   ·simp only [List.size_toArray,List.length_append,List.length_take,List.length_drop,Array.length_toList]
    omega
   ·rw [kM,← hlen]
    exact List.take_left
  ·have holds:∀ j u,xs[j]?=some u→w.cell? ((⟨b,0,none⟩:Addr).add j)=some u:=fj.cells (g:=b) rfl
   have hold:=run_firstCells_some (P:=P) w.drew i.size m ⟨b,0,none⟩ m cap xs fj.1 (by simpa using holds)
   have aY:=run_append_grow_src (P:=P) w t tx ty e i zv aN.und aH bj (some ⟨b,0,none⟩) m cap xs hold u k news nK ag ag (growslice_fits ag aw)
   have hq:=grown cap ag (Value.ownBlock (.slice (some ⟨b,0,none⟩) m cap))
   exact ⟨_,_,aY,hq.1,hq.2,fun b aw=>.inr (by simp [Value.ownBlock] at aw;omega)⟩
theorem aB.append{w0:World}{zs:List aR}{hs:List aC}{w w':World}(h:aB w0 zs hs w){q:Nat}{v dr:Value}{e:TypeId}{size m m':Nat}{xs Kf:List Value}(aE:hs[q]?=some (.row v e size m xs))(aP:w.grownBy w' v.ownBlock)(cH:w'.ownsRow w0.heap.size e size dr m' Kf)(bD:∀ b,dr.ownBlock=some b→v.ownBlock=some b∨w.heap.size≤b) :
  aB w0 zs (hs.set q (.row dr e size m' Kf)) w':=by
 have qw:aC.row v e size m xs∈hs:=List.mem_of_getElem? aE
 have oW:q<hs.length:=(List.getElem?_eq_some_iff.1 aE).1
 have ao:∀ b,b<w.heap.size→v.ownBlock≠some b→w'.heap[b]?=w.heap[b]?:=fun b aw fG=>aP.block b aw (fun e=>fG e.symm)
 have fG:∀ b o,(cf w0 b=some o∨∃ z∈zs,z b=some o)→v.ownBlock≠some b∧b<w.heap.size:=by
  intro b o aw
  rcases aw with aw | ⟨z,bj,gn⟩
  ·refine ⟨fun e=>?_,Nat.lt_of_lt_of_le (lb aw) (le_size h.ext)⟩
   have:=(aC.nc (h.own _ qw).1 b e).1
   have:=lb aw
   omega
  ·refine ⟨fun e=>?_,lb ((h.zone z bj).1 b o gn)⟩
   have:=(h.own _ qw).2 b e z bj
   rw [this] at gn
   cases gn
 have key:∀ (l:List aC) (i k:Nat) (s r:aC) (b:Nat),i≠k→l[i]?=some s→l[k]?=some r→s.id=some b→r.id=some b→¬ (l.filterMap aC.id).Nodup:=by
  intro l
  induction l with
  | nil=>intro i k s r b _ aH;simp at aH
  | cons x l ih=>
   intro i k s r b fG aH aE aw e bD
   cases i with
   | zero=>
    cases k with
    | zero=>exact fG rfl
    | succ k=>
     simp at aH aE
     subst aH
     rw [List.filterMap_cons,aw] at bD
     simp at bD
     exact bD.1 r (List.mem_of_getElem? aE) e
   | succ i=>
    cases k with
    | zero=>
     simp at aH aE
     subst aE
     rw [List.filterMap_cons,e] at bD
     simp at bD
     exact bD.1 s (List.mem_of_getElem? aH) aw
    | succ k=>
     simp at aH aE
     refine ih i k s r b ag aH aE aw e ?_
     rw [List.filterMap_cons] at bD
     split at bD
     ·exact bD
     ·exact (List.nodup_cons.1 bD).2
 refine ⟨fun b o aw=>?_,fun z bj=>⟨fun b o aw=>?_,(h.zone z bj).2⟩,fun s c5=>?_,?_,h.io.trans ⟨aP.os,aP.tape,aP.output⟩⟩
 ·have:=h.ext b o aw
  obtain ⟨h1,ar⟩:=fG b o (.inl aw)
  simp only [cf] at this ⊢
  rw [ao b ar h1]
  exact this
 ·have:=(h.zone z bj).1 b o aw
  obtain ⟨h1,ar⟩:=fG b o (.inr ⟨z,bj,aw⟩)
  simp only [cf] at this ⊢
  rw [ao b ar h1]
  exact this
 ·obtain ⟨i,aH⟩:=List.mem_iff_getElem?.1 c5
  rw [List.getElem?_set] at aH
  split at aH
  ·rename_i pN
   subst pN
   try rw [if_pos oW] at aH
   simp only [Option.some.injEq] at aH
   subst aH
   refine ⟨cH,fun b aw z bj=>?_⟩
   rcases bD b aw with h1 | h1
   ·exact (h.own _ qw).2 b h1 z bj
   ·cases gn:z b with
    | none=>rfl
    | some o=>have:=lb ((h.zone z bj).1 b o gn);omega
  ·rename_i pN
   have w6:s∈hs:=List.mem_of_getElem? aH
   refine ⟨aC.vu (h.own s w6).1 fun b aw=>ao b (aC.nc (h.own s w6).1 b aw).2 fun e=>?_,(h.own s w6).2⟩
   exact key hs i q s _ b ag aH aE aw e h.nd
 ·
  have gen:∀ (l:List aC) (k:Nat),l[k]?=some (.row v e size m xs)→(∀ r∈l,r∈hs)→(l.filterMap aC.id).Nodup→((l.set k (.row dr e size m' Kf)).filterMap aC.id).Nodup:=by
   intro l
   induction l with
   | nil=>intro k aE;simp at aE
   | cons x l ih=>
    intro k aE ib gx
    cases k with
    | zero=>
     simp at aE
     subst aE
     rw [List.set_cons_zero,List.filterMap_cons]
     rw [List.filterMap_cons] at gx
     have Oc:(l.filterMap aC.id).Nodup:=by
      split at gx
      ·exact gx
      ·exact (List.nodup_cons.1 gx).2
     split
     ·exact Oc
     ·rename_i b aw
      refine List.nodup_cons.2 ⟨fun hm=>?_,Oc⟩
      obtain ⟨r,aY,er⟩:=List.mem_filterMap.1 hm
      rcases bD b aw with h1 | h1
      ·have ar:aC.id (.row v e size m xs)=some b:=h1
       rw [ar] at gx
       exact (List.nodup_cons.1 gx).1 (List.mem_filterMap.2 ⟨r,aY,er⟩)
      ·have:=(aC.nc (h.own r (ib r (List.mem_cons_of_mem _ aY))).1 b er).2
       omega
    | succ k=>
     simp at aE
     have hh:=ih k aE (fun r aY=>ib r (List.mem_cons_of_mem _ aY)) (by
      rw [List.filterMap_cons] at gx
      split at gx
      ·exact gx
      ·exact (List.nodup_cons.1 gx).2)
     rw [List.set_cons_succ,List.filterMap_cons]
     split
     ·exact hh
     ·rename_i b aw
      refine List.nodup_cons.2 ⟨fun hm=>?_,hh⟩
      obtain ⟨r,aY,er⟩:=List.mem_filterMap.1 hm
      rw [List.filterMap_cons,aw] at gx
      have Od:=(List.nodup_cons.1 gx).1
      obtain ⟨i,aH⟩:=List.mem_iff_getElem?.1 aY
      rw [List.getElem?_set] at aH
      split at aH
      ·split at aH
       ·simp only [Option.some.injEq] at aH
        subst aH
        rcases bD b er with h1 | h1
        ·exact Od (List.mem_filterMap.2 ⟨_,List.mem_of_getElem? aE,h1⟩)
        ·have:=(aC.nc (h.own x (ib x (List.mem_cons_self ..))).1 b aw).2
         omega
       ·cases aH
      ·exact Od (List.mem_filterMap.2 ⟨r,List.mem_of_getElem? aH,er⟩)
  exact gen hs q aE (fun r aY=>aY) h.nd
theorem dH[a1]{e:TypeId}{de:TypeDesc}{size bu st bt:Nat}{zv zt:Value}(aN:ba P t (.slice e) st bt zt)(cr:ba P e de size bu zv)(q:Nat){m k:Nat}{xs news:List Value}{tx:TypeId}(h1:aW L x=some v)(ar:aW L y=some u)(aE:hs[q]?=some (.row v e size m xs))(nK:ui P w0 zs hs size tx u k news)
  (aw:(m+k)*bu≤140737488355328∧m+k≤140737488355328) (H3:zv.cells.size=size) (h0:0<size) :
  fJ P n w0 zs hs L ⟨d,.call ⟨.builtin .append,#[x,y],#[t,tx]⟩,ty,pos,af,g⟩ (fun dr zs' hs'=>zs'=zs∧hs'=hs.set q (.row dr e size (m+k) (xs++news))):=
 ka fun a bg w hw=>by
  have fj:=(hw.own _ (List.mem_of_getElem? aE)).1
  obtain ⟨dr,w',aY,cH,aP,bD⟩:=ahk (ty:=ty) cr aN H3 h0 fj (nK w hw) aw.1 aw.2 (le_size hw.ext)
  refine ⟨dr,zs,_,w',.inl ?_,⟨rfl,rfl⟩,hw.append aE aP cH bD⟩
  simp only [execOp]
  simp [resolve,invoke,builtin,bg.eval h1,bg.eval ar,aY]
theorem aB.iC{w0:World}{zs:List aR}{hs:List aC}{w:World}(h:aB w0 zs hs w)(e:TypeId)(size:Nat):aB w0 zs (.row (.slice none 0 0) e size 0 []::hs) w:=by
 refine ⟨h.ext,h.zone,fun r aY=>?_,?_,h.io⟩
 ·rcases List.mem_cons.1 aY with rfl | aY
  ·exact ⟨World.ownsRow_nil w _ e size,fun b aw=>by simp [aC.id,Value.ownBlock] at aw⟩
  ·exact h.own r aY
 ·rw [List.filterMap_cons]
  exact h.nd
theorem aB.newRow{w0:World}{zs:List aR}{hs:List aC}{w:World}(h:aB w0 zs hs w)(e:TypeId)(cells:List Value)(size m c:Nat)(hl:cells.length=c*size)(hm:m≤c)(bq:c≤maxLen) :
  aB w0 zs (.row (.slice (some ⟨w.heap.size,0,none⟩) m c) e size m (cells.take (m*size))::hs) { w with heap:=w.heap.push (.cells cells.toArray e (0,0)) }:=by
 have h1:=h.new e cells
 refine ⟨h1.ext,h1.zone,fun r aY=>?_,?_,h1.io⟩
 ·rcases List.mem_cons.1 aY with rfl | aY
  ·refine ⟨⟨?_,.inr ⟨w.heap.size,c,cells.toArray,rfl,le_size h.ext,by simp,hm,bq,by simpa using hl,by simp⟩⟩,fun b aw=>?_⟩
   ·rw [List.length_take,hl]
    exact Nat.min_eq_left (Nat.mul_le_mul_right _ hm)
   ·have:=(h1.own (.blk w.heap.size e cells) (by simp)).2 b
    simp only [aC.id,Value.ownBlock,Option.some.injEq] at aw this
    exact this aw
  ·exact h1.own r (by simp [aY])
 ·have:=h1.nd
  rw [List.filterMap_cons] at this ⊢
  exact this
end
end Go.aK
end
section
namespace Go.aK
section
variable {P:Program}{n:Nat}{w0:World}{zs:List aR}{hs:List aC}{L:List (Nat×Value)}{d:Option Tmp}{ty t b7:TypeId}{pos:String}{af:Array Edge}{g:Option (Nat×Bool)}
variable {x y c ot ou kR:Operand}{u v:Value}{ops:Array Oper}{rest:List Oper}
theorem xC[a1]{b:Builtin}{args:Array Operand}{ats:Array TypeId}(h:∀ a,Fr n L a→∀ w,aB w0 zs hs w→(builtin b ats ty (args.map fun | .const _=>true | _=>false) (args.map a.eval)).run P w=.ok (.value v) w) :
  bR P n w0 zs hs L ⟨d,.call ⟨.builtin b,args,ats⟩,ty,pos,af,g⟩ v:=
 eV fun a bg w hw=>by
  have:=h a bg w hw
  simp only [execOp]
  simp only [resolve,invoke,Sem.run_bind,Sem.run_pure,Result.andThen_ok]
  exact this
theorem hZ[a1]{s b:Nat}{z:Value}(aN:ba P t .string s b z){l:List UInt8}(h1:aW L x=some (vs l)) :
  bR P n w0 zs hs L ⟨d,.call ⟨.builtin .len,#[x],#[t]⟩,ty,pos,af,g⟩ (aA l.length):=
 xC fun a bg w hw=>by
  have eF:(cW l).size=l.length:=by simp [ByteArray.size]
  simp [builtin,Builtin.len_,run_underlying aN.und,bg.eval h1,goInt,eF]
theorem ee[a1]{α:Type}{E:ej α}{z:aR}{xs:List α}{e:TypeId}{s b:Nat}{zv:Value}(aN:ba P t (.slice e) s b zv)(U:bo E z v xs)(h1:aW L x=some v) :
  bR P n w0 zs hs L ⟨d,.call ⟨.builtin .len,#[x],#[t]⟩,ty,pos,af,g⟩ (aA xs.length):=
 xC fun a bg w hw=>by
  obtain ⟨_,ad,c,rfl,_⟩:=U
  simp [builtin,Builtin.len_,run_underlying aN.und,bg.eval h1,goInt]
theorem hA[a1]{e e5:TypeId}{s b size m:Nat}{zv:Value}{xs:List Value}(aN:ba P t (.slice e) s b zv)(k:Nat)(aE:hs[k]?=some (.row v e5 size m xs))(h1:aW L x=some v) :
  bR P n w0 zs hs L ⟨d,.call ⟨.builtin .len,#[x],#[t]⟩,ty,pos,af,g⟩ (aA m):=
 xC fun a bg w hw=>by
  have fj:=(hw.own _ (List.mem_of_getElem? aE)).1
  rcases fj.2 with ⟨rfl,rfl⟩ | ⟨b,cap,cur,rfl,_⟩ <;> simp [builtin,Builtin.len_,run_underlying aN.und,bg.eval h1,goInt]
theorem afQ[a1]{e:TypeId}{s b m c:Nat}{ad:Option Addr}{zv:Value}(aN:ba P t (.slice e) s b zv)(h1:aW L x=some (.slice ad m c)) :
  bR P n w0 zs hs L ⟨d,.call ⟨.builtin .len,#[x],#[t]⟩,ty,pos,af,g⟩ (aA m):=
 xC fun a bg w hw=>by simp [builtin,Builtin.len_,run_underlying aN.und,bg.eval h1,goInt]
theorem IW[a1]{k:IntKind}{p q:Int}(h1:aW L x=some (.int k p))(ar:aW L y=some (.int k q)){ats:Array TypeId} :
  bR P n w0 zs hs L ⟨d,.call ⟨.builtin .min,#[x,y],ats⟩,ty,pos,af,g⟩ (.int k (min p q)):=
 xC fun a bg w hw=>by
  have e:(if q<p then q else p)=min p q:=by omega
  simp [builtin,Builtin.min_,Builtin.min2,bg.eval h1,bg.eval ar,e]
theorem tB[a1]{k:IntKind}{p q:Int}(h1:aW L x=some (.int k p))(ar:aW L y=some (.int k q)){ats:Array TypeId} :
  bR P n w0 zs hs L ⟨d,.call ⟨.builtin .max,#[x,y],ats⟩,ty,pos,af,g⟩ (.int k (max p q)):=
 xC fun a bg w hw=>by
  have e:(if q>p then q else p)=max p q:=by omega
  simp only [gt_iff_lt] at e
  simp [builtin,Builtin.max_,Builtin.max2,bg.eval h1,bg.eval ar,e]
theorem DG[a1]{s b:Nat}{z:Value}(aN:ba P t .string s b z){l:List UInt8}{k:IntKind}{i:Int}(h1:aW L x=some (vs l))(ar:aW L y=some (.int k i))(aw:0≤i∧i<l.length) :
  bR P n w0 zs hs L ⟨d,.index t x y,ty,pos,af,g⟩ (bn (l.getD i.toNat 0)):=
 eV fun a bg w hw=>by
  simp only [execOp,bg.eval h1,bg.eval ar]
  have aH:i.toNat<l.length:=by omega
  have bL:(cW l)[i.toNat]?=some (l.getD i.toNat 0):=by
   have eF:i.toNat<(cW l).size:=by simpa [ByteArray.size] using aH
   rw [ByteArray.getElem?_lt' _ _ eF]
   simp [aH]
   rfl
  simp [Instr.index,asIntOf,run_underlying aN.und,aw.1,bL]
theorem Fo(l:List UInt8)(lo aH:Nat):(cW l).extract lo aH=cW ((l.take aH).drop lo):=by
 apply ByteArray.ext
 apply Array.ext'
 simp [cW,ByteArray.data_extract]
 rw [List.drop_take]
theorem DM[a1]{s b:Nat}{z:Value}(aN:ba P t .string s b z){l:List UInt8}{k jq:IntKind}{i j:Int}(h1:aW L x=some (vs l))(ar:aW L y=some (.int k i))(aQ:aW L c=some (.int jq j))(aw:0≤i∧i≤j∧j≤l.length) :
  bR P n w0 zs hs L ⟨d,.slice t x (some y) (some c) none,ty,pos,af,g⟩ (vs ((l.take j.toNat).drop i.toNat)):=
 eV fun a bg w hw=>by
  simp only [execOp,bg.eval h1,Option.map_some,bg.eval ar,bg.eval aQ,Option.map_none]
  have eF:(cW l).size=l.length:=by simp [ByteArray.size]
  have bL:(Instr.sliceBound (.int jq j) (cW l).size .sliceAlen).run P w=.ok j.toNat w:=run_sliceBound (P:=P) (w:=w) jq j (cW l).size .sliceAlen ag ag
  have bT:(Instr.sliceBound (.int k i) j.toNat .sliceB).run P w=.ok i.toNat w:=run_sliceBound (P:=P) (w:=w) k i j.toNat .sliceB ag ag
  simp only [eF] at bL
  simp [Instr.sliceAt,Instr.slice,run_underlying aN.und,Instr.sliceBounds,eF,bL,bT,Fo]
theorem DN[a1]{s b:Nat}{z:Value}(aN:ba P t .string s b z){l:List UInt8}{k:IntKind}{i:Int}(h1:aW L x=some (vs l))(ar:aW L y=some (.int k i))(aw:0≤i∧i≤l.length) :
  bR P n w0 zs hs L ⟨d,.slice t x (some y) none none,ty,pos,af,g⟩ (vs (l.drop i.toNat)):=
 eV fun a bg w hw=>by
  simp only [execOp,bg.eval h1,Option.map_some,bg.eval ar,Option.map_none]
  have eF:(cW l).size=l.length:=by simp [ByteArray.size]
  have bT:(Instr.sliceBound (.int k i) l.length .sliceB).run P w=.ok i.toNat w:=run_sliceBound (P:=P) (w:=w) k i l.length .sliceB ag ag
  simp [Instr.sliceAt,Instr.slice,run_underlying aN.und,Instr.sliceBounds,eF,bT,Fo]
theorem I0[a1]{s b:Nat}{z:Value}(aN:ba P t .string s b z){l:List UInt8}{k:IntKind}{i:Int}(h1:aW L x=some (vs l))(ar:aW L y=some (.int k i))(aw:0≤i∧i≤l.length) :
  bR P n w0 zs hs L ⟨d,.slice t x none (some y) none,ty,pos,af,g⟩ (vs (l.take i.toNat)):=
 eV fun a bg w hw=>by
  simp only [execOp,bg.eval h1,Option.map_some,bg.eval ar,Option.map_none]
  have eF:(cW l).size=l.length:=by simp [ByteArray.size]
  have bT:(Instr.sliceBound (.int k i) l.length .sliceAlen).run P w=.ok i.toNat w:=run_sliceBound (P:=P) (w:=w) k i l.length .sliceAlen ag ag
  simp [Instr.sliceAt,Instr.slice,run_underlying aN.und,Instr.sliceBounds,eF,bT,Fo]
theorem ail(l:List UInt8):strOfNums (l.map fun b=>(b.toNat:Int))=cW l:=by
 apply ByteArray.ext
 apply Array.ext'
 have:=strOfNums_data (l.map fun b=>(b.toNat:Int))
 rw [this]
 simp only [List.map_map]
 have e:((fun n:Int=>UInt8.ofNat n.toNat) ∘ fun b:UInt8=>(b.toNat:Int))=id:=by
  funext b
  simp
 rw [e]
 simp
theorem AO{e:TypeId}{s b s' ha mc lY:Nat}{zv mo mq:Value}(aN:ba P t (.slice e) s b zv)(gL:ba P b7 .string s' ha mo)(cr:ba P e (.int .u8) mc lY mq){w:World}{ad:Option Addr}{xs:List UInt8}{c:Nat}
  (h:∀ j (aV:j<xs.length),∃ b off,ad=some ⟨b,off,none⟩∧w.cell? ⟨b,off+j,none⟩=some (bn xs[j])):(convert t b7 (.slice ad xs.length c)).run P w=.ok (vs xs) w:=by
 cases ad with
 | none=>
  have aM:xs=[]:=by
   cases xs with
   | nil=>rfl
   | cons x xs=>obtain ⟨_,_,fN,_⟩:=h 0 (by simp);cases fN
  subst aM
  show (convert t b7 (Value.slice none 0 c)).run P w=_
  rw [run_convert_bytes_nil (P:=P) w t e aN.und cr.und 0 c b7 gL.und]
  rfl
 | some ad=>
  cases xs with
  | nil=>
   show (convert t b7 (Value.slice (some ad) 0 c)).run P w=_
   rw [run_convert_bytes_string w t b7 e (some ad) 0 c aN.und cr.und gL.und]
   simp [Conv.bytesToString,loadCells,loadCellsFrom]
   rfl
  | cons cE xs=>
   obtain ⟨b,off,fN,_⟩:=h 0 (by simp)
   simp only [Option.some.injEq] at fN
   subst fN
   have:=run_convert_bytes_arg (P:=P) w t e aN.und cr.und b off (cE::xs).length c ((cE::xs).map fun b=>(b.toNat:Int)) (by simp) (fun i aH=>by
    obtain ⟨ha,Iz,fN,ar⟩:=h i aH
    simp only [Option.some.injEq,Addr.mk.injEq] at fN
    obtain ⟨rfl,rfl,_⟩:=fN
    rw [ar]
    simp only [List.getD_eq_getElem?_getD,List.getElem?_map,List.getElem?_eq_getElem aH,Option.map_some,Option.getD_some]) b7 gL.und
   rw [this,ail]
theorem tt[a1]{z:aR}{xs:List UInt8}{e:TypeId}{s b s' ha mc lY:Nat}{zv mo mq:Value}(aN:ba P t (.slice e) s b zv)(gL:ba P b7 .string s' ha mo)(cr:ba P e (.int .u8) mc lY mq)(U:bo hc z v xs)(bj:gQ w0 zs z)(h1:aW L x=some v) :
  bR P n w0 zs hs L ⟨d,.convert t b7 x,ty,pos,af,g⟩ (vs xs):=
 eV fun a bg w hw=>by
  obtain ⟨_,ad,c,rfl,u4,h⟩:=U
  simp only [execOp,bg.eval h1]
  rw [Sem.run_bind,AO aN gL cr fun j aV=>by
   obtain ⟨b,off,cs,mj,fz,dN,rfl,ar,aQ,bF⟩:=h j xs[j] (by simp [aV])
   refine ⟨b,off,rfl,?_⟩
   rw [cell_of_row w b _ cs mj fz (hw.le bj _ _ ar)]
   have:=bF 0 (bn xs[j]) (by rw [aQ.1];rfl)
   simpa [hc,ly] using this]
  rfl
theorem nf[a1]{xs:List UInt8}{e e5:TypeId}{m:Nat}{s b s' ha mc lY:Nat}{zv mo mq:Value}(aN:ba P t (.slice e) s b zv)(gL:ba P b7 .string s' ha mo)(cr:ba P e (.int .u8) mc lY mq)(k:Nat)(aE:hs[k]?=some (.row v e5 1 m (xs.map bn)))(h1:aW L x=some v) :
  bR P n w0 zs hs L ⟨d,.convert t b7 x,ty,pos,af,g⟩ (vs xs):=
 eV fun a bg w hw=>by
  have fj:=(hw.own _ (List.mem_of_getElem? aE)).1
  have hlen:m=xs.length:=by have:=fj.1;simp at this;omega
  subst hlen
  simp only [execOp,bg.eval h1]
  rcases fj.2 with ⟨rfl,bD⟩ | ⟨b,cap,cur,rfl,aw,aP,k4,oa,iT,kM⟩
  ·have:xs=[]:=List.eq_nil_of_length_eq_zero bD
   subst this
   rw [Sem.run_bind,show (Value.slice none 0 0)=.slice none ([]:List UInt8).length 0 from rfl,AO aN gL cr (fun j aV=>by simp at aV)]
   rfl
  ·rw [Sem.run_bind,AO aN gL cr fun j aV=>⟨b,0,rfl,by
    rw [cell_of_row w b _ cur e5 (0,0) aP]
    have:(cur.toList.take (xs.length*1))[j]?=some (bn xs[j]):=by rw [kM];simp [aV]
    rw [List.getElem?_take] at this
    split at this
    ·simpa using this
    ·cases this⟩]
   rfl
theorem QG[a1]{xs:List UInt8}{e:TypeId}{b off c:Nat}{bt:TypeId}{cs:List Value}{s bu s' ha mc lY:Nat}{zv mo mq:Value}(aN:ba P t (.slice e) s bu zv)(gL:ba P b7 .string s' ha mo)(cr:ba P e (.int .u8) mc lY mq)(k:Nat)(h1:aW L x=some (.slice (some ⟨b,off,none⟩) xs.length c))(aE:hs[k]?=some (.blk b bt cs))(bq:(cs.drop off).take xs.length=xs.map bn) :
  bR P n w0 zs hs L ⟨d,.convert t b7 x,ty,pos,af,g⟩ (vs xs):=
 eV fun a bg w hw=>by
  have aw:=(hw.own _ (List.mem_of_getElem? aE)).1.2
  simp only [execOp,bg.eval h1]
  rw [Sem.run_bind,AO aN gL cr fun j aV=>⟨b,off,rfl,by
   rw [cell_of_row w b _ _ bt (0,0) aw]
   have aQ:((cs.drop off).take xs.length)[j]?=some (bn xs[j]):=by rw [bq];simp [aV]
   rw [List.getElem?_take,if_pos aV,List.getElem?_drop] at aQ
   simpa using aQ⟩]
  rfl
def ey(b:Nat)(o:Obj):aR:=fun k=>if k=b then some o else none
theorem tp{b k:Nat}{o o':Obj}(h:ey b o k=some o'):k=b∧o=o':=by
 unfold ey at h
 split at h
 ·exact ⟨by assumption,by simpa using h⟩
 ·cases h
theorem aB.frozen{w0:World}{zs:List aR}{hs:List aC}{w w':World}(h:aB w0 zs hs w)(o:Obj)(eF:w'.heap.size=w.heap.size+1)(hw:∀ b,b<w.heap.size→w'.heap[b]?=w.heap[b]?)(bD:w'.heap[w.heap.size]?=some o)(rH:mW w w'):aB w0 (ey w.heap.size o::zs) hs w':=by
 have hl:(cf w).le (cf w'):=fun b ob aw=>by
  have:=lb aw
  simp only [cf] at aw ⊢
  rw [hw b this]
  exact aw
 have h1:=h.later hl rH
 refine ⟨h1.ext,fun z bj=>?_,fun r aY=>⟨(h1.own r aY).1,fun b aw z bj=>?_⟩,h1.nd,h1.io⟩
 ·rcases List.mem_cons.1 bj with rfl | bj
  ·refine ⟨fun b ob aw=>?_,fun b ob aw=>?_⟩
   ·obtain ⟨rfl,rfl⟩:=tp aw;exact bD
   ·obtain ⟨rfl,rfl⟩:=tp aw;exact le_size h.ext
  ·exact h1.zone z bj
 ·rcases List.mem_cons.1 bj with rfl | bj
  ·have:=(aC.nc (h.own r aY).1 b aw).2
   unfold ey
   rw [if_neg ag]
  ·exact (h1.own r aY).2 b aw z bj
theorem uD[a1]{e:TypeId}{s b s' ha mc lY:Nat}{zv mo mq:Value}(aN:ba P t .string s b zv)(gL:ba P b7 (.slice e) s' ha mo)(cr:ba P e (.int .u8) mc lY mq){l:List UInt8}(h1:aW L x=some (vs l))(hl:l.length≤140737488355328) :
  fJ P n w0 zs hs L ⟨d,.convert t b7 x,ty,pos,af,g⟩ (fun v zs' hs'=>∃ z,zs'=z::zs∧hs'=hs∧bo hc z v l):=
 ka fun a bg w hw=>by
  have eF:(cW l).size=l.length:=by simp [ByteArray.size]
  have aY:=run_bytes_of_string (P:=P) w t b7 e (cW l) aN.und gL.und cr.und
  rw [eF] at aY
  generalize sP:grownCap w l.length 0 e=cap at aY
  have G9:l.length≤cap:=by rw [← sP];exact grownCap_ge w l.length 0 e
  generalize zF:Obj.cells (bytesRow (cW l) cap) e ((bytesRow (cW l) cap).size,(bytesRow (cW l) cap).size+1)=ob at aY
  have fH:=hw.frozen (w':=w.drew.alloc ob) ob (by simp) (fun b aw=>heap_alloc_old w ob aw) (heap_alloc_new w ob) ⟨rfl,rfl,rfl⟩
  refine ⟨.slice (some ⟨w.heap.size,0,none⟩) l.length cap,ey w.heap.size ob::zs,hs,w.drew.alloc ob,.inl ?_,⟨_,rfl,rfl,hl,some ⟨w.heap.size,0,none⟩,cap,rfl,G9,fun i xx aM=>?_⟩,fH⟩
  ·simp only [execOp,bg.eval h1]
   rw [Sem.run_bind,aY]
   rfl
  ·have aH:=(List.getElem?_eq_some_iff.1 aM).1
   subst zF
   refine ⟨w.heap.size,0,bytesRow (cW l) cap,e,_,[bn xx],rfl,by unfold ey;rw [if_pos rfl],⟨rfl,trivial⟩,fun j uu hu=>?_⟩
   cases j with
   | zero=>
    simp only [List.getElem?_cons_zero,Option.some.injEq] at hu
    subst hu
    show (bytesRow (cW l) cap)[0+i*1+0]?=_
    unfold bytesRow
    rw [Array.getElem?_append_left (by simp;omega)]
    simp [aM]
   | succ j=>simp at hu
end
end Go.aK
end
section
namespace Go.aK
def cC(P:Program)(f:FuncId)(args:List Value)(w:World)(R:Value→List aR→List aC→Prop):Prop:=
 Calls P f args.toArray w fun e w'=>∃ v zs hs,e=.returned v∧aB w zs hs w'∧R v zs hs
theorem cC.mono{P f args w}{R K5:Value→List aR→List aC→Prop}(h:cC P f args w R)(aY:∀ v zs hs,R v zs hs→K5 v zs hs):cC P f args w K5:=
 Calls.mono h fun _ _ ⟨v,zs,hs,h1,ar,aQ⟩=>⟨v,zs,hs,h1,ar,aY _ _ _ aQ⟩
def b1(P : Program)(f : FuncId) : Prop := ∃ fn, P.funcs[f]? = some fn ∧ fn.body.isNone = false ∧ (fn.name == "runtime.NumGoroutine") = false
def iP(L:List (Nat×Value)):List Operand→Option (List Value)
 | []=>some []
 | o::r=>match aW L o,iP L r with
  | some v,some vs=>some (v::vs)
  | _,_=>none
theorem Fr.yU[a1]{n L a}(h:Fr n L a):∀ {os vs},iP L os=some vs→os.map a.eval=vs
 | [],vs,bA=>by simp [iP] at bA;simp [bA]
 | o::r,vs,bA=>by
  unfold iP at bA
  split at bA
  ·rename_i v arn h1 ar
   simp only [Option.some.injEq] at bA
   subst bA
   simp [h.eval h1,h.yU ar]
  ·cases bA
section
variable {P:Program}{n:Nat}{w0:World}{zs:List aR}{hs:List aC}{L:List (Nat×Value)}{d:Option Tmp}{ty t b7:TypeId}{pos:String}{af:Array Edge}{g:Option (Nat×Bool)}
variable {x y c ot ou kR:Operand}{u v:Value}{ops:Array Oper}{rest:List Oper}
theorem Jl[a1]{f:FuncId}(bw:b1 P f){os:List Operand}{vs:List Value}{ats:Array TypeId}{a:Act}(bg:Fr n L a)(h1:iP L os=some vs)(w:World) :
  (execOp a.eval ⟨d,.call ⟨.value (.func f),os.toArray,ats⟩,ty,pos,af,g⟩).run P w=.ok (.enter f vs.toArray) w:=by
 obtain ⟨fn,ar,aQ,bF⟩:=bw
 have he:=bg.yU h1
 simp only [execOp]
 simp only [resolve,Act.eval,Deferred.ofValue,invoke,Sem.run_bind,Sem.run_pure,Result.andThen_ok,callFunc,run_program,ar,bF,aQ]
 simp [he]
theorem bV[a1]{f:FuncId}(bw:b1 P f){os:List Operand}{vs:List Value}{ats:Array TypeId}{R:Value→List aR→List aC→Prop}(h1:iP L os=some vs)(bq:∀ w,aB w0 zs hs w→cC P f vs w R)(fD:∀ dr zs hs,R dr zs hs→dr=v) :
  bR P n w0 zs hs L ⟨d,.call ⟨.value (.func f),os.toArray,ats⟩,ty,pos,af,g⟩ v:=
 fun a bg w hw=>by
  rw [Jl bw bg h1]
  exact ⟨rfl,Calls.mono (bq w hw) fun e w' ⟨dr,zs',hs',he,U,aY⟩=>⟨by rw [he,fD _ _ _ aY],hw.later U.ext U.io⟩⟩
theorem eT[a1]{f:FuncId}(bw:b1 P f){os:List Operand}{vs:List Value}{ats:Array TypeId}{R:Value→List aR→List aC→Prop}(h1:iP L os=some vs)(bq:∀ w,aB w0 zs hs w→cC P f vs w R) :
  fJ P n w0 zs hs L ⟨d,.call ⟨.value (.func f),os.toArray,ats⟩,ty,pos,af,g⟩ (fun v zs' hs'=>∃ iu h1,zs'=iu++zs∧hs'=h1++hs∧R v iu h1):=by
 intro a bg w hw next Q bD
 unfold Oper.wp
 rw [Jl bw bg h1]
 exact Calls.mono (bq w hw) fun e w' ⟨dr,zs',hs',he,U,aY⟩=>by
  subst he
  exact bD dr _ _ w' ⟨zs',hs',rfl,rfl,aY⟩ (hw.call U)
theorem c4{f:FuncId}{fn:Func}{cd:Code}(bw:P.funcs[f]?=some fn)(aw:fn.body=some cd){k:Nat}(aE:fn.ntmps=k){args:List Value}(bD:args.length≤k){w:World}{R:Value→List aR→List aC→Prop}
  (h:∀ a,Fr k (pI 0 args) a→aB w [] [] w→cd.wp P (bodyPost P fn fun e w'=>∃ v zs hs,e=.returned v∧aB w zs hs w'∧R v zs hs) a w):cC P f args w R:=by
 subst aE
 exact calls_of_wp bw aw (h _ (Fr.enter _ _ bD) (aB.start w))
@[reducible] def vD:List Value→Value
 | [v]=>v
 | vs=>.tuple vs.toArray
def BB(P:Program)(L:List (Nat×Value))(hs:List aC):ResultVar→Value→Prop
 | .tmp t,v=>look L t=some v
 | .cell p t,v=>∃ b bt cs bS s bu zv,look L p=some (.pointer (some ⟨b,0,none⟩))∧aC.blk b bt cs∈hs∧ba P t bS s bu zv ∧
   ((fg bS=true∧cs.length=s∧v=.agg cs.toArray)∨(fg bS=false∧cs=[v]))
def sk(P:Program)(L:List (Nat×Value))(hs:List aC):List ResultVar→List Value→Prop
 | [],[]=>True
 | r::rs,v::vs=>BB P L hs r v∧sk P L hs rs vs
 | _,_=>False
theorem BB.run[a1]{w:World}{r:ResultVar}{a:Act}(ab:Fr n L a)(U:aB w0 zs hs w)(h:BB P L hs r v) :
  (match r with | .tmp t=>(pure (a.tmps.getD t undef):Sem Value) | .cell p t=>do loadVar t (← asAddr (a.tmps.getD p undef))).run P w=.ok v w:=by
 cases r with
 | tmp t=>
  have:=ab.get t v h
  simp [this]
 | cell p t=>
  obtain ⟨b,bt,cs,bS,s,bu,zv,h1,ar,aQ,bF⟩:=h
  have aw:=(U.own _ ar).1.2
  have bO:=ab.get p _ h1
  have bA:a.tmps.getD p undef=.pointer (some ⟨b,0,none⟩):=by simp [bO]
  simp only [bA,asAddr,Sem.run_bind,Sem.run_pure,Result.andThen_ok]
  rcases bF with ⟨bF,cO,rfl⟩ | ⟨bF,rfl⟩
  ·have:=xK aQ bF aw (off:=0) (by simp [cO])
   rw [this]
   simp [← cO]
  ·exact vG aQ bF (by rw [cell_of_row w b 0 _ bt _ aw];rfl)
theorem tI[a1]{fn:Func}{w:World}{rs:List ResultVar}(k7:fn.results=rs.toArray){a:Act}(ab:Fr n L a)(U:aB w0 zs hs w){vs:List Value}(h:sk P L hs rs vs) :
  (results fn a.tmps).run P w=.ok (vD vs) w:=by
 have key:∀ (rs:List ResultVar) (vs:List Value),sk P L hs rs vs→Sem.run P (rs.mapM fun (r:ResultVar)=>(match r with | .tmp t=>(pure (a.tmps.getD t undef):Sem Value) | .cell p t=>do loadVar t (← asAddr (a.tmps.getD p undef)))) w=Result.ok vs w:=by
  intro rs
  induction rs with
  | nil=>
   intro vs bA
   cases vs with
   | nil=>simp
   | cons v vs=>exact bA.elim
  | cons r rs ih=>
   intro vs bA
   cases vs with
   | nil=>exact bA.elim
   | cons v vs=>
    have h1:=BB.run ab U bA.1
    have ar:=ih vs bA.2
    rw [List.mapM_cons]
    simp only [Sem.run_bind,Sem.run_pure]
    rw [h1]
    simp only [Result.andThen_ok]
    rw [ar]
    rfl
 have aE:=key rs vs h
 unfold results
 rw [k7,List.mapM_toArray]
 have CL:Sem.run P (Functor.map List.toArray (rs.mapM fun (r:ResultVar)=>(match r with | .tmp t=>(pure (a.tmps.getD t undef):Sem Value) | .cell p t=>do loadVar t (← asAddr (a.tmps.getD p undef))))) w=Result.ok vs.toArray w:=by
  rw [Sem.run_map,aE]
  rfl
 rw [Sem.run_bind]
 refine (congrArg (fun r=>Result.andThen r _) CL).trans ?_
 simp only [Result.andThen_ok,Sem.run_pure]
 cases vs with
 | nil=>rfl
 | cons v vs=>
  cases vs with
  | nil=>rfl
  | cons v2 vs=>simp [vD]
theorem b0{fn:Func}{w:World}{a:Act}{R:Value→List aR→List aC→Prop}{rs:List ResultVar}(k7:fn.results=rs.toArray)(ab:Fr n L a)(U:aB w0 zs hs w){vs:List Value}(bA:sk P L hs rs vs){zs' hs'}(h1:zs'.Sublist zs)(ar:hs'.Sublist hs)(fD:R (vD vs) zs' hs') :
  bodyPost P fn (fun e w'=>∃ v zs hs,e=.returned v∧aB w0 zs hs w'∧R v zs hs) .ret a w:=
 ⟨ab.nodef,_,tI k7 ab U bA,_,_,_,rfl,U.ao h1 ar,fD⟩
theorem wp_cut{dN cy:Code}{Q:Exit→Act→World→Prop}{a:Act}{w:World}(J:Act→World→Prop)(aM:dN.wp P (Exit.then J Q) a w)(cZ:∀ a w,J a w→cy.wp P Q a w):(Code.seq dN cy).wp P Q a w:=
 wp_seq (Code.wp_mono (fun e a w q=>by cases e <;> first | exact cZ _ _ q | exact q) aM)
theorem df[a1]{dN cy:Code}{Q:Exit→Act→World→Prop}{a:Act}{w:World}{b:Bool}(ab:Fr n L a)(h:aW L c=some (.bool b))(aN:b=true→dN.wp P Q a w)(bw:b=false→cy.wp P Q a w):(Code.cond c dN cy).wp P Q a w:=
 wp_cond_split (ab.eval h) aN bw
theorem cn[a1]{dN cy:Code}{Q:Exit→Act→World→Prop}{a:Act}{w:World}{p:Prop}[Decidable p](ab:Fr n L a)(h:aW L c=some (.bool (decide p)))(aN:p→dN.wp P Q a w)(bw:¬ p→cy.wp P Q a w):(Code.cond c dN cy).wp P Q a w:=
 wp_cond_split (ab.eval h) (fun e=>aN (of_decide_eq_true e)) (fun e=>bw (of_decide_eq_false e))
theorem e9[a1]{dN cy:Code}{Q:Exit→Act→World→Prop}{a:Act}{w:World}{p:Prop}[Decidable p](ab:Fr n L a)(h:aW L c=some (.bool (!decide p)))(aN:¬ p→dN.wp P Q a w)(bw:p→cy.wp P Q a w):(Code.cond c dN cy).wp P Q a w:=
 wp_cond_split (ab.eval h) (fun e=>aN (by simpa using e)) (fun e=>bw (by simpa using e))
theorem TR{cb:Code}{Q:Exit→Act→World→Prop}{a:Act}{w:World}(I:Nat→Act→World→Prop)(k:Nat)(h0:I k a w)
  (aY:∀ m a w,I m a w→cb.wp P (Exit.then (fun a w=>∃ m',m'<m∧I m' a w) Q) a w):(Code.loop cb).wp P Q a w:=by
 classical
 have hex:∀ a w,(∃ m,I m a w)→∃ m,I m a w∧∀ m',I m' a w→m≤m':=by
  intro a w ⟨m,hm⟩
  induction m using Nat.strongRecOn with
  | _ m ih=>
   by_cases gK:∃ m',m'<m∧I m' a w
   ·obtain ⟨m',h1,ar⟩:=gK
    exact ih m' h1 ar
   ·exact ⟨m,hm,fun m' jf=>Nat.le_of_not_lt fun h=>gK ⟨m',h,jf⟩⟩
 let μ:Act→World→Nat:=fun a w=>if h:∃ m,I m a w then (hex a w h).choose else 0
 have OJ:∀ a w (h:∃ m,I m a w),I (μ a w) a w∧∀ m',I m' a w→μ a w≤m':=by
  intro a w h
  have:=(hex a w h).choose_spec
  simp only [μ,dif_pos h]
  exact this
 refine wp_loop (fun a w=>∃ m,I m a w) μ ⟨k,h0⟩ fun a w bP=>?_
 obtain ⟨h1,_⟩:=OJ a w bP
 refine Code.wp_mono (fun e hp w' q=>?_) (aY _ a w h1)
 cases e with
 | normal=>
  obtain ⟨m',hm,GG⟩:=q
  exact ⟨⟨m',GG⟩,Nat.lt_of_le_of_lt ((OJ hp w' ⟨m',GG⟩).2 m' GG) hm⟩
 | _=>exact q
end
end Go.aK
namespace Go.aK
section
variable {P:Program}{n:Nat}{w0:World}{zs:List aR}{hs:List aC}{L:List (Nat×Value)}
theorem dy[a1]{cb:Code}{Q:Exit→Act→World→Prop}{a:Act}{w:World}{γ:Type}(g0:γ)(oG:γ→List (Nat×Value))(lU:List (Nat×Value))(gy:γ→List aC)(fact:γ→Prop)(μ:γ→Nat)
  (ab:Fr n (oG g0++lU) a) (U:aB w0 zs (gy g0) w) (bw:fact g0)
  (aY:∀ g a w,fact g→Fr n (oG g++lU) a→aB w0 zs (gy g) w→cb.wp P (Exit.then (fun a w=>∃ h7,μ h7<μ g∧fact h7∧Fr n (oG h7++lU) a∧aB w0 zs (gy h7) w) Q) a w):(Code.loop cb).wp P Q a w:=by
 refine TR (fun m a w=>∃ g,m=μ g∧fact g∧Fr n (oG g++lU) a∧aB w0 zs (gy g) w) (μ g0) ⟨g0,rfl,bw,ab,U⟩ fun m a w ⟨g,hm,h1,ar,aQ⟩=>?_
 refine Code.wp_mono (fun e a w q=>?_) (aY g a w h1 ar aQ)
 cases e with
 | normal=>obtain ⟨h7,bF,cO,dR,fh⟩:=q;exact ⟨μ h7,by omega,h7,rfl,cO,dR,fh⟩
 | _=>exact q
end
end Go.aK
end
section
namespace Go.aK
section
variable {P:Program}{n:Nat}{w0:World}{zs:List aR}{hs:List aC}{L:List (Nat×Value)}{d:Option Tmp}{ty t b7:TypeId}{pos:String}{af:Array Edge}{g:Option (Nat×Bool)}
variable {x y c ot ou kR:Operand}{u v:Value}{ops:Array Oper}{rest:List Oper}
theorem kg[a1]{α:Type}{f:α→Value}{bS:TypeDesc}{s bu:Nat}{zv:Value}(aN:ba P t bS s bu zv)(k:Nat){b off:Nat}{bt:TypeId}{xs:List α}(h6:α)(h1:aW L x=some (.pointer (some ⟨b,off,none⟩)))(aE:hs[k]?=some (.blk b bt (xs.map f)))(hl:off<xs.length)(aT:fg bS=false) :
  bR P n w0 zs hs L ⟨d,.load t x,ty,pos,af,g⟩ (f (xs.getD off h6)):=
 bf aN k h1 aE (by simp [hl]) aT
theorem afG[a1]{α:Type}{f:α→Value}{bS:TypeDesc}{s bu:Nat}{zv:Value}(aN:ba P t bS s bu zv)(k:Nat){b off:Nat}{bt:TypeId}{pre post:List Value}{xs:List α}(j:Nat)(h6:α)(h1:aW L x=some (.pointer (some ⟨b,off,none⟩)))(aE:hs[k]?=some (.blk b bt (pre++(xs.map f++post))))(cH:off=pre.length+j)(hl:j<xs.length)(aT:fg bS=false) :
  bR P n w0 zs hs L ⟨d,.load t x,ty,pos,af,g⟩ (f (xs.getD j h6)):=
 bf aN k h1 aE (by
  subst cH
  rw [List.getElem?_append_right ag,Nat.add_sub_cancel_left,List.getElem?_append_left (by simpa using hl)]
  simp [hl]) aT
theorem rq[a1]{α:Type}{f:α→Value}{bS:TypeDesc}{bu:Nat}{zv:Value}(aN:ba P t bS 1 bu zv)(k:Nat){b off:Nat}{bt:TypeId}{xs:List α}{e:α}(h1:aW L x=some (.pointer (some ⟨b,off,none⟩)))(ar:aW L y=some (f e))(aE:hs[k]?=some (.blk b bt (xs.map f)))(hl:off<xs.length)(cH:(f e).oneCell'=true) :
  fJ P n w0 zs hs L ⟨d,.store t x y,ty,pos,af,g⟩ (fun dr zs' hs'=>dr=undef∧zs'=zs∧hs'=hs.set k (.blk b bt ((xs.set off e).map f))):=by
 have:=dq (ty:=ty) (pos:=pos) (af:=af) (g:=g) (d:=d) (n:=n) (w0:=w0) (zs:=zs) aN k h1 ar aE cH (by simpa using hl)
 rwa [← List.map_set] at this
theorem afA[a1]{m:Nat}{e:TypeId}{s bu:Nat}{zv:Value}(aN:ba P t (.array m e) s bu zv){de:TypeDesc}{be:Nat}{ze:Value}(cr:ba P e de 1 be ze){cs:List Value}{i:Int}{k:IntKind}(h1:aW L x=some (.agg cs.toArray))(ar:aW L y=some (.int k i))(aw:0≤i∧i<m)(bA:cs[i.toNat]?=some v)(aT:fg de=false) :
  bR P n w0 zs hs L ⟨d,.index t x y,ty,pos,af,g⟩ v:=
 eV fun a bg w hw=>by
  have bO:(part e cs.toArray (i.toNat*1)).run P w=.ok v w:=by
   unfold part
   rw [Sem.run_bind,cr.isAgg]
   simp [aT,bA]
  simp only [execOp,bg.eval h1,bg.eval ar]
  simp only [Nat.mul_one] at bO
  simp [Instr.index,asIntOf,run_underlying aN.und,aw,cr.sizeOf,bO]
theorem afB[a1]{α:Type}{f:α→Value}{m:Nat}{e:TypeId}{s bu:Nat}{zv:Value}(aN:ba P t (.array m e) s bu zv){de:TypeDesc}{be:Nat}{ze:Value}(cr:ba P e de 1 be ze){xs:List α}(h6:α){i:Int}{k:IntKind}(h1:aW L x=some (.agg (xs.map f).toArray))(ar:aW L y=some (.int k i))(aw:0≤i∧i<m)(hl:m=xs.length)(aT:fg de=false) :
    bR P n w0 zs hs L ⟨d,.index t x y,ty,pos,af,g⟩ (f (xs.getD i.toNat h6)):=
  afA aN cr h1 ar aw (by have:i.toNat<xs.length:=by omega
                         simp [this]) aT
theorem rZ[a1]{m:Nat}{e:TypeId}{s bu:Nat}{zv:Value}(aN:ba P t (.array m e) s bu zv){de:TypeDesc}{se be:Nat}{ze:Value}(cr:ba P e de se be ze){b off:Nat}(h1:aW L x=some (.pointer (some ⟨b,off,none⟩))) :
  bR P n w0 zs hs L ⟨d,.slice t x none none none,ty,pos,af,g⟩ (.slice (some ⟨b,off,none⟩) m m):=
 eV fun a bg w hw=>by
  simp only [execOp,bg.eval h1,Option.map_none]
  simp [Instr.sliceAt,Instr.sureAddr,run_underlying aN.und,Instr.sliceBounds,cr.sizeOf,fU]
theorem DO[a1]{m:Nat}{e:TypeId}{s bu:Nat}{zv:Value}(aN:ba P t (.array m e) s bu zv){de:TypeDesc}{se be:Nat}{ze:Value}(cr:ba P e de se be ze){b off:Nat}{k:IntKind}{i:Int}(h1:aW L x=some (.pointer (some ⟨b,off,none⟩)))(ar:aW L y=some (.int k i))(aw:0≤i∧i<m) :
  bR P n w0 zs hs L ⟨d,.slice t x (some y) none none,ty,pos,af,g⟩ (.slice (some ⟨b,off+i.toNat*se,none⟩) (m-i.toNat) (m-i.toNat)):=
 eV fun a bg w hw=>by
  simp only [execOp,bg.eval h1,Option.map_none,Option.map_some,bg.eval ar]
  have bT:(Instr.sliceBound (.int k i) m .sliceB).run P w=.ok i.toNat w:=run_sliceBound (P:=P) (w:=w) k i m .sliceB ag ag
  have aQ:¬ (m=i.toNat):=by omega
  simp [Instr.sliceAt,Instr.sureAddr,run_underlying aN.und,Instr.sliceBounds,cr.sizeOf,fU,bT,aQ]
theorem r0[a1]{m:Nat}{e:TypeId}{s bu:Nat}{zv:Value}(aN:ba P t (.array m e) s bu zv){de:TypeDesc}{se be:Nat}{ze:Value}(cr:ba P e de se be ze){b off:Nat}{k:IntKind}{i:Int}(h1:aW L x=some (.pointer (some ⟨b,off,none⟩)))(ar:aW L y=some (.int k i))(aw:0≤i∧i≤m) :
  bR P n w0 zs hs L ⟨d,.slice t x none (some y) none,ty,pos,af,g⟩ (.slice (some ⟨b,off,none⟩) i.toNat m):=
 eV fun a bg w hw=>by
  simp only [execOp,bg.eval h1,Option.map_none,Option.map_some,bg.eval ar]
  have bT:(Instr.sliceBound (.int k i) m .sliceAlen).run P w=.ok i.toNat w:=run_sliceBound (P:=P) (w:=w) k i m .sliceAlen ag ag
  simp [Instr.sliceAt,Instr.sureAddr,run_underlying aN.und,Instr.sliceBounds,cr.sizeOf,fU,bT]
theorem IY[a1]{m:Nat}{e:TypeId}{s bu:Nat}{zv:Value}(aN:ba P t (.array m e) s bu zv){ad:Option Addr}{l c:Nat}(h1:aW L x=some (.slice ad l c))(aw:m≤l) :
  bR P n w0 zs hs L ⟨d,.sliceToArrayPointer t x,ty,pos,af,g⟩ (.pointer ad):=
 eV fun a bg w hw=>by
  have:¬ l<m:=by omega
  simp only [execOp,bg.eval h1]
  simp [Instr.arrayAt,run_underlying aN.und,this]
theorem Lp{α:Type}{f:α→Value}{p:α→Prop}{h0:∀ x,(f x).oneCell'=true}{w:World}(U:aB w0 zs hs w)(k:Nat){b off m c:Nat}{bt:TypeId}{cs:List Value}{xs:List α}(aE:hs[k]?=some (.blk b bt cs))(bq:(cs.drop off).take m=xs.map f)(hm:m=xs.length∧m≤c∧m≤140737488355328)(bO:∀ x∈xs,p x) :
  bo (ly f p h0) (cf w) (.slice (some ⟨b,off,none⟩) m c) xs:=by
 have aw:=(U.own _ (List.mem_of_getElem? aE)).1.2
 obtain ⟨rfl,ar,aQ⟩:=hm
 refine ⟨aQ,_,c,rfl,ar,fun i x aM=>⟨b,off,cs.toArray,bt,(0,0),[f x],rfl,aw,⟨rfl,bO x (List.mem_of_getElem? aM)⟩,fun j u hu=>?_⟩⟩
 cases j with
 | zero=>
  simp only [List.getElem?_cons_zero,Option.some.injEq] at hu
  subst hu
  have bF:((cs.drop off).take xs.length)[i]?=some (f x):=by rw [bq];simp [aM]
  rw [List.getElem?_take,if_pos (List.getElem?_eq_some_iff.1 aM).1,List.getElem?_drop] at bF
  show cs.toArray[off+i*1+0]?=_
  simpa using bF
 | succ j=>simp at hu
theorem fY[a1]{e e5:TypeId}{s bu size m:Nat}{zv:Value}(aN:ba P t (.slice e) s bu zv){de:TypeDesc}{be:Nat}{ze:Value}(cr:ba P e de size be ze)(k:Nat){cs:List Value}{i:Int}{ik:IntKind}(aE:hs[k]?=some (.row v e5 size m cs))(h1:aW L x=some v)(ar:aW L y=some (.int ik i))(aw:0≤i∧i<m) :
  bR P n w0 zs hs L ⟨d,.indexAddr t x y,ty,pos,af,g⟩ (dn v (i.toNat*size)):=
 eV fun a bg w hw=>by
  have fj:=(hw.own _ (List.mem_of_getElem? aE)).1
  rcases fj.2 with ⟨rfl,bD⟩ | ⟨b,cap,cur,rfl,_⟩
  ·omega
  ·simp only [execOp,bg.eval h1,bg.eval ar]
   simp [Instr.indexAt,asIntOf,run_underlying aN.und,aw,cr.sizeOf,fU,dn]
theorem Aq[a1]{e5:TypeId}{size m:Nat}{bS:TypeDesc}{s bu:Nat}{zv:Value}(aN:ba P t bS s bu zv)(k:Nat){cs:List Value}{j:Nat}{r:Value}(aE:hs[k]?=some (.row v e5 size m cs))(h1:aW L x=some (dn v j))(aV:cs[j]?=some r)(aT:fg bS=false) :
  bR P n w0 zs hs L ⟨d,.load t x,ty,pos,af,g⟩ r:=
 eV fun a bg w hw=>by
  have fj:=(hw.own _ (List.mem_of_getElem? aE)).1
  rcases fj.2 with ⟨rfl,rfl⟩ | ⟨b,cap,cur,rfl,aw,aP,k4,oa,iT,kM⟩
  ·have:=fj.1
   have iT:cs=[]:=List.eq_nil_of_length_eq_zero (by simpa using this)
   subst iT
   simp at aV
  ·have nI:w.cell? ⟨b,0+j,none⟩=some r:=by
    rw [cell_of_row w b _ cur e5 (0,0) aP]
    rw [← kM,List.getElem?_take] at aV
    split at aV
    ·simpa using aV
    ·cases aV
   have he:a.eval x=.pointer (some ⟨b,0+j,none⟩):=(bg.eval h1).trans (by simp [dn,fU])
   rw [Nat.zero_add] at nI he
   simp only [execOp,he]
   simp [Instr.loadAt,Instr.sureAddr,vG aN aT nI]
theorem ma[a1]{α:Type}{f:α→Value}{e5:TypeId}{m:Nat}{bS:TypeDesc}{s bu:Nat}{zv:Value}(aN:ba P t bS s bu zv)(k:Nat){xs:List α}(h6:α){j:Nat}(aE:hs[k]?=some (.row v e5 1 m (xs.map f)))(h1:aW L x=some (dn v (j*1)))(aV:j<xs.length)(aT:fg bS=false) :
  bR P n w0 zs hs L ⟨d,.load t x,ty,pos,af,g⟩ (f (xs.getD j h6)):=
 Aq aN k aE h1 (by simp [aV]) aT
theorem qP[a1]{parts:Array (Nat×Operand)}{vparts:List (Nat×Value)}(bO:(parts.toList.mapM fun p=>(aW L p.2).map fun v=>(p.1,v))=some vparts)(aY:∀ w,(Instr.build t vparts.toArray).run P w=.ok v w) :
  bR P n w0 zs hs L ⟨d,.build t parts,ty,pos,af,g⟩ v:=
 eV fun a bg w hw=>by
  have key:∀ (l:List (Nat×Operand)) (vl:List (Nat×Value)),(l.mapM fun p=>(aW L p.2).map fun v=>(p.1,v))=some vl→l.map (fun p=>(p.1,a.eval p.2))=vl:=by
   intro l
   induction l with
   | nil=>intro vl h;simp at h;simp [h]
   | cons p l ih=>
    intro vl h
    rw [List.mapM_cons] at h
    cases cH:aW L p.2 with
    | none=>simp [cH] at h
    | some u=>
     simp [cH] at h
     cases hm:(l.mapM fun p=>(aW L p.2).map fun v=>(p.1,v)) with
     | none=>simp [hm] at h
     | some r=>
      simp [hm] at h
      subst h
      simp [bg.eval cH,ih r hm]
  have e:(parts.map fun (i,x)=>(i,a.eval x))=vparts.toArray:=by
   apply Array.ext'
   simp [← key _ _ bO]
  simp only [execOp,e]
  simp [aY w]
theorem vF{m:Nat}{e:TypeId}{s bu:Nat}{zv:Value}(aN:ba P t (.array m e) s bu zv){de:TypeDesc}{se be:Nat}{ze:Value}(cr:ba P e de se be ze){parts:List (Nat×Value)}{cells:List Value}(bw:Instr.fill (fun i=>some (i*se,se)) zv.cells parts=some cells.toArray)(w:World) :
  (Instr.build t parts.toArray).run P w=.ok (.agg cells.toArray) w:=by
 simp [Instr.build,aN.zero,run_underlying aN.und,cr.sizeOf,bw]
theorem FK[a1]{e:TypeId}{s bu:Nat}{zv:Value}(aN:ba P t (.slice e) s bu zv){de:TypeDesc}{se be:Nat}{ze:Value}(cr:ba P e de se be ze){m:Nat}{parts:Array (Nat×Operand)}{vparts:List (Nat×Value)}{cells:List Value}(bO:(parts.toList.mapM fun p=>(aW L p.2).map fun v=>(p.1,v))=some vparts)
  (bw:Instr.fill (fun i=>some (i*se,se)) ((Array.range (m*se)).map (ze.cells[· % ze.cells.size]!)) vparts=some cells.toArray) (aw:m*se≤16777216) (h0:(m*se == 0)=false) (hl:cells.length=m*se) :
  fJ P n w0 zs hs L ⟨d,.buildSlice t m parts,ty,pos,af,g⟩ (fun v zs' hs'=>zs'=zs∧hs'=.row v e se m cells::hs):=
 ka fun a bg w hw=>by
  have key:∀ (l:List (Nat×Operand)) (vl:List (Nat×Value)),(l.mapM fun p=>(aW L p.2).map fun v=>(p.1,v))=some vl→l.map (fun p=>(p.1,a.eval p.2))=vl:=by
   intro l
   induction l with
   | nil=>intro vl h;simp at h;simp [h]
   | cons p l ih=>
    intro vl h
    rw [List.mapM_cons] at h
    cases cH:aW L p.2 with
    | none=>simp [cH] at h
    | some u=>
     simp [cH] at h
     cases hm:(l.mapM fun p=>(aW L p.2).map fun v=>(p.1,v)) with
     | none=>simp [hm] at h
     | some r=>
      simp [hm] at h
      subst h
      simp [bg.eval cH,ih r hm]
  have bL:(parts.map fun (i,x)=>(i,a.eval x))=vparts.toArray:=by
   apply Array.ext'
   simp [← key _ _ bO]
  have h1:¬ (m*se>2^24):=by simp;omega
  have ar:¬ (m*se=0):=by simpa using h0
  have u9:m≤maxLen:=by
   have:0<se:=Nat.pos_of_ne_zero (fun e=>ar (by simp [e]))
   have:=Nat.le_mul_of_pos_right m this
   unfold maxLen;omega
  have fH:=hw.newRow e cells se m m hl (Nat.le_refl _) u9
  rw [List.take_of_length_le ag] at fH
  refine ⟨_,zs,_,_,.inl ?_,⟨rfl,rfl⟩,fH⟩
  simp only [execOp,bL]
  have aY:(Instr.buildSlice t m vparts.toArray).run P w=.ok (.slice (some ⟨w.heap.size,0,none⟩) m m) { w with heap:=w.heap.push (.cells cells.toArray e (0,0)) }:=by
   unfold Instr.buildSlice
   rw [Sem.run_bind,run_underlying aN.und]
   simp only [Result.andThen_ok]
   rw [Sem.run_bind,cr.sizeOf]
   simp only [Result.andThen_ok]
   rw [if_neg h1]
   simp only [if_neg ar]
   simp only [Sem.run_bind,cr.zero,Result.andThen_ok,Sem.run_pure]
   simp only [bw]
   simp [newRow]
  rw [Sem.run_bind,aY]
  rfl
theorem sx[a1]{e:TypeId}{s bu:Nat}{zv:Value}(aN:ba P t (.slice e) s bu zv){de:TypeDesc}{se be:Nat}{ze:Value}(cr:ba P e de se be ze) :
  fJ P n w0 zs hs L ⟨d,.buildSlice t 0 #[],ty,pos,af,g⟩ (fun v zs' hs'=>zs'=zs∧hs'=.row v e se 0 []::hs):=
 ka fun a bg w hw=>by
  have fH:=hw.newRow e [] se 0 0 (by simp) (Nat.le_refl _) (by unfold maxLen;omega)
  refine ⟨_,zs,_,_,.inl ?_,⟨rfl,rfl⟩,by simpa using fH⟩
  simp only [execOp]
  have aY:(Instr.buildSlice t 0 #[]).run P w=.ok (.slice (some ⟨w.heap.size,0,none⟩) 0 0) { w with heap:=w.heap.push (.cells ([]:List Value).toArray e (0,0)) }:=by
   unfold Instr.buildSlice
   rw [Sem.run_bind,run_underlying aN.und]
   simp only [Result.andThen_ok]
   rw [Sem.run_bind,cr.sizeOf]
   simp [Instr.fill,newRow]
   have jU:(Array.map (fun _=>(default:Value)) (Array.range 0))=#[]:=Array.eq_empty_of_size_eq_zero (by simp)
   rw [jU]
  simp only [Array.map_empty]
  rw [Sem.run_bind,aY]
  rfl
end
end Go.aK
end
section
namespace Go.aK
section
variable {P:Program}{ops:Array Oper}{md:Region.Mode}{C:World→Prop}
def ym(P:Program)(md:Region.Mode)(ops:Array Oper)(C:World→Prop)(n:Nat)(T:Array Bool→Act→Prop):Nat→Array Bool→Act→Prop
 | 0,ls,a=>T ls a
 | f+1,ls,a=>Region.ready md ops ls≠[]∧∀ i∈Region.ready md ops ls,i<n∧qOp P ops C i (ym P md ops C n T f (ls.setIfInBounds i true)) a
theorem US{n k:Nat}{T:Array Bool→Act→Prop}{Q:Exit→Act→World→Prop}(lD:∀ ls a w,C w→T ls a→wpAny P md ops Q k ls a w) :
  ∀ (f:Nat) (ls:Array Bool) (a:Act) (w:World),C w→ym P md ops C n T f ls a→wpAny P md ops Q (f+k) ls a w:=by
 intro f
 induction f with
 | zero=>intro ls a w hw h;rw [Nat.zero_add];exact lD ls a w hw h
 | succ f ih=>
  intro ls a w hw h
  have e:f+1+k=(f+k)+1:=by omega
  rw [e]
  refine ⟨fun h0=>absurd h0 h.1,fun i aH=>?_⟩
  exact wpOp_of_qOp hw (fun hp w' HW jf=>ih _ hp w' HW jf) (h.2 i aH).2
theorem aaB{n i:Nat}{oi:Oper}{v:Value}{T:Array Bool→Act→Prop}(aH:ops[i]?=some oi)(om:∀ (j:Nat) (o:Oper) cs b,ops[j]?=some o→o.op≠.select cs b)
  (hs:Region.sinkB md ops n=true) (bq:Region.chainB md ops n=true) (bD:n<ops.size) (iK:i<n) (lD:∀ ls a,T ls a→∀ j∈Region.ready md ops ls,n≤j) :
  ∀ (f:Nat) (ls:Array Bool) (a:Act),HeadInv md ops n ls →
   (∀ j oj,ops[j]?=some oj→j≠i→ls.getD j true=false→(∀ e∈oj.after,Region.binds md e=true→e.on≠i)→oi.apart ops oj=true) →
   i∈Region.ready md ops ls→YieldsIn P ops C oi v a→ym P md ops C n T f (ls.setIfInBounds i true) (a.put oi.dst v)→ym P md ops C n T (f+1) ls a:=by
 intro f
 induction f with
 | zero=>
  intro ls a inv _ aY cZ H
  have m6:=(mem_ready.1 aY).1
  refine ⟨List.ne_nil_of_mem aY,fun j aV=>?_⟩
  have zw:j<n:=Nat.lt_of_not_le fun h=>tail_waits hs bq bD inv _ i rfl iK m6 j h aV
  refine ⟨zw,?_⟩
  by_cases kJ:j=i
  ·subst kJ;exact cZ.qOp aH H
  ·exact absurd (lD _ _ H j (ready_mono aV kJ)) ag
 | succ f ih=>
  intro ls a inv zo aY cZ H
  have m6:=(mem_ready.1 aY).1
  refine ⟨List.ne_nil_of_mem aY,fun j aV=>?_⟩
  have zw:j<n:=Nat.lt_of_not_le fun h=>tail_waits hs bq bD inv _ i rfl iK m6 j h aV
  refine ⟨zw,?_⟩
  by_cases kJ:j=i
  ·subst kJ;exact cZ.qOp aH H
  ·have h1:=(H.2 j (ready_mono aV kJ)).2
   obtain ⟨zx,oj,ve,hP⟩:=mem_ready.1 aV
   have HB:∀ e∈oj.after,Region.binds md e=true→e.on≠i:=fun e he aw heq=>by
    have ar:=hP e he aw
    rw [heq,getD_both m6] at ar
    cases ar
   have ar:=qOp_put ve (zo j oj ve kJ zx HB) (fun cs b=>om i oi cs b aH) (fun cs b=>om j oj cs b ve) cZ h1
   refine qOp_mono (fun hp aQ=>ih (ls.setIfInBounds j true) hp (inv.set aV zw) (fun k ok aE pN aa0 iz=>?_) (ready_mono aY (Ne.symm kJ)) aQ.1 ?_) ar
   ·refine zo k ok aE pN ?_ iz
    by_cases zq:j=k
    ·subst zq;exact zx
    ·rwa [getD_set_ne true zq] at aa0
   ·rw [Array.setIfInBounds_comm _ _ kJ]
    exact aQ.2
theorem aaC{n k:Nat}{T:Act→Prop}(om:Region.noSelect ops=true)(hs:Region.sinkB md ops n=true)(bq:Region.chainB md ops n=true)(bD:n<ops.size) :
  ∀ (l:List Oper) (i:Nat) (ls:Array Bool) (a:Act),(∀ j,j<l.length→l[j]?=ops[i+j]?)→i+l.length=n→HeadInv md ops n ls →
  Region.lexHead md ops k l.length i ls=true→wpQuiet P ops C T l a→ym P md ops C n (fun js hp=>Region.seqB md ops k n js=true∧T hp) l.length ls a:=by
 intro l
 induction l with
 | nil=>
  intro i ls a _ aE _ gS h
  have:i=n:=by simpa using aE
  subst this
  exact ⟨by simpa [Region.lexHead] using gS,h⟩
 | cons o l ih=>
  intro i ls a hl aE inv gS h
  have h0:ops[i]?=some o:=by simpa using (hl 0 (by simp)).symm
  simp only [List.length_cons,Region.lexHead,Bool.and_eq_true] at gS
  obtain ⟨⟨aY,bw⟩,Y9⟩:=gS
  have iK:i<n:=by simp only [List.length_cons] at aE;omega
  have qz:i∈Region.ready md ops ls:=by simpa using aY
  have ch:qOp P ops C i (wpQuiet P ops C T l) a:=by unfold qOp;simp only [h0];exact h
  obtain ⟨v,cZ,dU⟩:=yieldsIn_of_qOp h0 ch
  exact aaB h0 (Region.noSelect_spec om) hs bq bD iK (fun js hp lD=>seqB_ready lD.1) l.length ls a inv (Region.free_spec h0 bw) qz cZ
   (ih (i+1) _ _ (fun j aV=>by have:=hl (j+1) (by simp;omega);simpa [Nat.add_assoc,Nat.add_comm 1 j] using this) (by simp only [List.length_cons] at aE;omega) (inv.set qz iK) Y9 dU)
theorem ajE{id:Nat}{Q:Exit→Act→World→Prop}{a:Act}{w:World}{l:List Oper}(n:Nat)(hm:P.follows .mixedOrders=true)(gS:Region.lexTailB .any l.toArray n=true)(uJ:C { w with drawn:=w.drawn+1 })
  (h:wpQuiet P l.toArray C (fun hp=>∀ w',C w'→wpList P l.toArray Q (l.drop n) hp w') (l.take n) a):(Code.region id l.toArray true).wp P Q a w:=by
 simp only [Region.lexTailB,Bool.and_eq_true,decide_eq_true_eq] at gS
 obtain ⟨⟨⟨⟨om,bD⟩,hs⟩,bq⟩,aa4⟩:=gS
 have ani:n<l.length:=by simpa using bD
 have pT:(l.take n).length=n:=by simp;omega
 have sS:(l.drop n).length=l.toArray.size-n:=by simp
 have ack:HeadInv .any l.toArray n (Array.replicate l.toArray.size false):=
  ⟨by simp,fun j oj _ hl=>(by rw [getD_replicate_false] at hl;cases hl),fun t _ aN=>getD_in (by simpa using aN) (getD_replicate_false _ _)⟩
 have H:=aaC (C:=C) (md:=.any) (k:=l.toArray.size-n) om hs bq bD (l.take n) 0 _ a (fun j aV=>by
  have sW:j<n:=by rw [pT] at aV;exact aV
  simp [sW]) (by simpa using pT) ack (by rw [pT];exact aa4) h
 refine wp_region_any hm ?_
 have:=US (C:=C) (Q:=Q) (k:=l.toArray.size-n) (fun ls hp w' HW lD=>by
  have:=wpAny_of_seq (md:=.any) (Q':=Q) (l.drop n) n ls hp w' (fun j=>by simp [List.getElem?_drop]) (by rw [sS];exact lD.1) (lD.2 w' HW)
  rwa [sS] at this) _ _ _ { w with drawn:=w.drawn+1 } uJ H
 rw [pT,show n+(l.toArray.size-n)=l.toArray.size by omega] at this
 exact this
end
section
variable {P:Program}{n:Nat}{w0:World}{zs:List aR}{hs:List aC}{L L':List (Nat×Value)}{l:List Oper}{k:Nat}
theorem h2[a1]{id:Nat}{Q:Exit→Act→World→Prop}{a:Act}{w:World}(m:Nat)(hm:P.follows .mixedOrders=true)(gS:Region.lexTailB .any l.toArray m=true)(ab:Fr n L a)(U:aB w0 zs hs w)
  (s:fS P n w0 zs hs l.toArray k L (l.take m) L' []) (K:∀ a w,Fr n L' a→aB w0 zs hs w→wpList P l.toArray Q (l.drop m) a w):(Code.region id l.toArray true).wp P Q a w:=
 ajE (C:=aB w0 zs hs) m hm gS (U.drew _) (Ey (by exact ab) s fun a ab w U=>K a w ab U)
end
end Go.aK
end
section
namespace Go.aK
def lO(v:Value)(size lo aH:Nat):Value:=
 match v with
 | .slice a _ c=>.slice (if c=lo then a else a.map (·.add (lo*size))) (aH-lo) (c-lo)
 | _=>undef
theorem bo.cut{α:Type}{E:ej α}{z:aR}{v:Value}{xs:List α}(h:bo E z v xs){lo aH:Nat}(aw:lo≤aH∧aH≤xs.length):bo E z (lO v E.size lo aH) ((xs.take aH).drop lo):=by
 obtain ⟨hm,a,c,rfl,bq,h⟩:=h
 have hl:((xs.take aH).drop lo).length=aH-lo:=by simp;omega
 refine ⟨by omega,_,c-lo,by simp only [lO,hl];rfl,by omega,fun i x aM=>?_⟩
 rw [List.getElem?_drop,List.getElem?_take] at aM
 split at aM
 ·rename_i gK
  obtain ⟨b,off,cs,ty,fz,dN,rfl,ar,aQ,bF⟩:=h (lo+i) x aM
  refine ⟨b,off+lo*E.size,cs,ty,fz,dN,?_,ar,aQ,fun j u hu=>?_⟩
  ·rw [if_neg ag]
   simp [fU]
  ·rw [← bF j u hu,Nat.add_mul]
   congr 1
   omega
 ·cases aM
section
variable {P:Program}{n:Nat}{w0:World}{zs:List aR}{hs:List aC}{L:List (Nat×Value)}{d:Option Tmp}{ty t b7:TypeId}{pos:String}{af:Array Edge}{g:Option (Nat×Bool)}
variable {x y c ot ou kR:Operand}{u v:Value}{ops:Array Oper}{rest:List Oper}
theorem As[a1]{α:Type}{E:ej α}{z:aR}{xs:List α}{e:TypeId}{s bu:Nat}{zv:Value}(aN:ba P t (.slice e) s bu zv){de:TypeDesc}{be:Nat}{ze:Value}(cr:ba P e de E.size be ze){k jq:IntKind}{i j:Int}(U:bo E z v xs)(h1:aW L x=some v)(ar:aW L y=some (.int k i))(aQ:aW L c=some (.int jq j))(aw:0≤i∧i≤j∧j≤xs.length) :
  bR P n w0 zs hs L ⟨d,.slice t x (some y) (some c) none,ty,pos,af,g⟩ (lO v E.size i.toNat j.toNat):=
 eV fun a bg w hw=>by
  obtain ⟨_,ad,cc,rfl,oT,_⟩:=U
  simp only [execOp,bg.eval h1,Option.map_some,bg.eval ar,bg.eval aQ,Option.map_none]
  have bL:(Instr.sliceBound (.int jq j) cc .sliceAcap).run P w=.ok j.toNat w:=run_sliceBound (P:=P) (w:=w) jq j cc .sliceAcap ag ag
  have bT:(Instr.sliceBound (.int k i) j.toNat .sliceB).run P w=.ok i.toNat w:=run_sliceBound (P:=P) (w:=w) k i j.toNat .sliceB ag ag
  simp [Instr.sliceAt,Instr.slice,run_underlying aN.und,Instr.sliceBounds,cr.sizeOf,bL,bT,lO]
theorem Ar[a1]{α:Type}{E:ej α}{z:aR}{xs:List α}{e:TypeId}{s bu:Nat}{zv:Value}(aN:ba P t (.slice e) s bu zv){de:TypeDesc}{be:Nat}{ze:Value}(cr:ba P e de E.size be ze){k:IntKind}{i:Int}(U:bo E z v xs)(h1:aW L x=some v)(ar:aW L y=some (.int k i))(aw:0≤i∧i≤xs.length) :
  bR P n w0 zs hs L ⟨d,.slice t x (some y) none none,ty,pos,af,g⟩ (lO v E.size i.toNat xs.length):=
 eV fun a bg w hw=>by
  obtain ⟨_,ad,cc,rfl,oT,_⟩:=U
  simp only [execOp,bg.eval h1,Option.map_some,bg.eval ar,Option.map_none]
  have bT:(Instr.sliceBound (.int k i) xs.length .sliceB).run P w=.ok i.toNat w:=run_sliceBound (P:=P) (w:=w) k i xs.length .sliceB ag ag
  simp [Instr.sliceAt,Instr.slice,run_underlying aN.und,Instr.sliceBounds,cr.sizeOf,bT,lO]
theorem I1[a1]{α:Type}{E:ej α}{z:aR}{xs:List α}{e:TypeId}{s bu:Nat}{zv:Value}(aN:ba P t (.slice e) s bu zv){de:TypeDesc}{be:Nat}{ze:Value}(cr:ba P e de E.size be ze){k:IntKind}{i:Int}(U:bo E z v xs)(h1:aW L x=some v)(ar:aW L y=some (.int k i))(aw:0≤i∧i≤xs.length) :
  bR P n w0 zs hs L ⟨d,.slice t x none (some y) none,ty,pos,af,g⟩ (lO v E.size 0 i.toNat):=
 eV fun a bg w hw=>by
  obtain ⟨_,ad,cc,rfl,oT,_⟩:=U
  simp only [execOp,bg.eval h1,Option.map_some,bg.eval ar,Option.map_none]
  have bT:(Instr.sliceBound (.int k i) cc .sliceAcap).run P w=.ok i.toNat w:=run_sliceBound (P:=P) (w:=w) k i cc .sliceAcap ag ag
  cases ad <;> simp [Instr.sliceAt,Instr.slice,run_underlying aN.und,Instr.sliceBounds,cr.sizeOf,bT,lO,Addr.add]
theorem hR[a1]{m:Nat}{e:TypeId}{s bu:Nat}{zv:Value}(aN:ba P t (.array m e) s bu zv){de:TypeDesc}{be:Nat}{ze:Value}(cr:ba P e de 1 be ze){b:Nat}{i:Int}{k:IntKind}(h1:aW L x=some (.pointer (some ⟨b,0,none⟩)))(ar:aW L y=some (.int k i))(aw:0≤i∧i<m) :
  bR P n w0 zs hs L ⟨d,.indexAddr t x y,ty,pos,af,g⟩ (.pointer (some ⟨b,i.toNat,none⟩)):=by
 have:=gG (d:=d) (ty:=ty) (pos:=pos) (af:=af) (g:=g) (n:=n) (w0:=w0) (zs:=zs) (hs:=hs) aN cr h1 ar aw
 simpa using this
theorem afH[a1]{α:Type}{f:α→Value}{bS:TypeDesc}{s bu:Nat}{zv:Value}(aN:ba P t bS s bu zv){b off:Nat}{bt:TypeId}{xs:List α}{fz:Nat×Nat}(h6:α)(h1:aW L x=some (.pointer (some ⟨b,off,none⟩)))(aE:w0.heap[b]?=some (.cells (xs.map f).toArray bt fz))(hl:off<xs.length)(aT:fg bS=false) :
  bR P n w0 zs hs L ⟨d,.load t x,ty,pos,af,g⟩ (f (xs.getD off h6)):=
 ji aN h1 aE (by simp [hl]) aT
theorem gh[a1]{bS:TypeDesc}{s bu:Nat}{zv:Value}(aN:ba P t bS s bu zv)(k:Nat){b:Nat}{bt:TypeId}{cs:List Value}(h1:aW L x=some (.pointer (some ⟨b,0,none⟩)))(aE:hs[k]?=some (.blk b bt cs))(hl:cs.length=s)(aT:fg bS=true) :
  bR P n w0 zs hs L ⟨d,.load t x,ty,pos,af,g⟩ (.agg cs.toArray):=
 Ap aN k h1 aE (by rw [List.drop_zero,List.take_of_length_le ag]) ag aT
theorem cJ[a1]{bS:TypeDesc}{s bu:Nat}{zv:Value}(aN:ba P t bS s bu zv)(k:Nat){b:Nat}{bt:TypeId}{cs c:List Value}(h1:aW L x=some (.pointer (some ⟨b,0,none⟩)))(ar:aW L y=some v)(aE:hs[k]?=some (.blk b bt cs))(bq:v.cells=c.toArray)(iT:c.length=s)(cH:∀ u∈c,u.oneCell'=true)(hl:cs.length=s) :
  fJ P n w0 zs hs L ⟨d,.store t x y,ty,pos,af,g⟩ (fun v zs' hs'=>v=undef∧zs'=zs∧hs'=hs.set k (.blk b bt c)):=
 FO aN k h1 ar aE bq iT cH ag (by simp [hl])
end
end Go.aK
end
section
namespace Go.aK
section
variable {P:Program}{ops:Array Oper}{md:Region.Mode}
abbrev kZ:=List (Nat×(World→Prop))
def AE(md:Region.Mode)(ops:Array Oper):Nat→Nat→Nat→Bool
 | 0,_,_=>false
 | f+1,k,i=>match ops[k]? with
  | some o=>o.after.any fun e=>Region.binds md e&&(e.on == i || AE md ops f e.on i)
  | none=>false
def AJ(md:Region.Mode)(ops:Array Oper)(ls:Array Bool)(seen:List Nat)(i:Nat):Bool:=
 (List.range ops.size).any fun k=>ls.getD k false && !seen.contains k&&AE md ops 2 k i
def hG(md:Region.Mode)(ops:Array Oper)(ls:Array Bool)(w:World):List Nat→kZ→Prop
 | _,[]=>True
 | seen,(i,C)::W=>(AJ md ops ls (i::seen) i=true∨C w)∧hG md ops ls w (i::seen) W
def sa(md:Region.Mode)(ops:Array Oper)(ls:Array Bool):Prop:=
 ∀ k o,ops[k]?=some o→ls.getD k false=true→∀ e∈o.after,Region.binds md e=true→ls.getD e.on false=true
theorem sa.reach{ls:Array Bool}(bq:sa md ops ls):∀ (f k i:Nat),AE md ops f k i=true→ls.getD k false=true→ls.getD i false=true
 | 0,_,_,h,_=>by simp [AE] at h
 | f+1,k,i,h,aE=>by
  unfold AE at h
  cases cH:ops[k]? with
  | none=>rw [cH] at h;simp at h
  | some o=>
   rw [cH] at h
   simp only [Array.any_eq_true,Bool.and_eq_true,Bool.or_eq_true,beq_iff_eq] at h
   obtain ⟨j,aV,aw,h⟩:=h
   have h1:=bq k o cH aE o.after[j] (by simp) aw
   rcases h with h | h
   ·rwa [h] at h1
   ·exact bq.reach f _ _ h h1
theorem sa.set{ls:Array Bool}{i:Nat}(bq:sa md ops ls)(aH:i∈Region.ready md ops ls):sa md ops (ls.setIfInBounds i true):=by
 obtain ⟨_,oi,abe,hP⟩:=mem_ready.1 aH
 intro k o cH aE e he aw
 by_cases sV:i=k
 ·subst sV
  have:o=oi:=Option.some.inj (cH.symm.trans abe)
  subst this
  exact getD_set_true (hP e he aw)
 ·rw [getD_set_ne false sV] at aE
  exact getD_set_true (bq k o cH aE e he aw)
def tR(P:Program)(md:Region.Mode)(ops:Array Oper)(Q:Exit→Act→World→Prop):Nat→kZ→Array Bool→Act→World→Prop
 | 0,_,ls,a,w=>Region.ready md ops ls=[]∧Q .normal a w
 | f+1,W,ls,a,w=>(Region.ready md ops ls=[]→Q .normal a w) ∧
  ∀ i∈Region.ready md ops ls,wpOp P ops Q i (fun hp w'=>hG md ops (ls.setIfInBounds i true) w' [] W∧tR P md ops Q f W (ls.setIfInBounds i true) hp w') a w
theorem J8{Q:Exit→Act→World→Prop}:∀ (f:Nat) (W:kZ) (ls:Array Bool) (a:Act) (w:World),tR P md ops Q f W ls a w→wpAny P md ops Q f ls a w
 | 0,_,_,_,_,h=>h
 | f+1,_,_,_,_,h=>⟨h.1,fun i aH=>wpOp_mono (fun hp w' jf=>J8 f _ _ hp w' jf.2) (h.2 i aH)⟩
theorem hG.less{ls:Array Bool}{i:Nat}{w:World}:∀ (W:kZ) (seen mN:List Nat),(∀ k∈mN,k∈seen∨k=i)→(∀ k∈seen,k∈mN)→i∈mN →
  hG md ops (ls.setIfInBounds i true) w mN W→hG md ops ls w seen W
 | [],_,_,_,_,_,_=>trivial
 | (j,C)::W,seen,mN,h1,ar,aQ,h=>by
  refine ⟨?_,hG.less W (j::seen) (j::mN) (fun k aE=>?_) (fun k aE=>?_) (List.mem_cons_of_mem _ aQ) h.2⟩
  ·rcases h.1 with h | h
   ·left
    unfold AJ at *
    rw [List.any_eq_true] at *
    obtain ⟨k,aE,aY⟩:=h
    simp only [Bool.and_eq_true,Bool.not_eq_true',List.contains_eq_mem,List.mem_cons,decide_eq_false_iff_not,not_or] at aY ⊢
    obtain ⟨⟨bF,cO⟩,dR⟩:=aY
    have pN:i≠k:=fun e=>cO.2 (e ▸ aQ)
    refine ⟨k,aE,⟨?_,cO.1,fun fN=>cO.2 (ar _ fN)⟩,dR⟩
    rwa [getD_set_ne false pN] at bF
   ·exact .inr h
  ·rcases List.mem_cons.1 aE with e | aE
   ·exact .inl (e ▸ List.mem_cons_self)
   ·exact (h1 k aE).imp (List.mem_cons_of_mem _) id
  ·rcases List.mem_cons.1 aE with e | aE
   ·exact e ▸ List.mem_cons_self
   ·exact List.mem_cons_of_mem _ (ar k aE)
theorem hG.mono{ls:Array Bool}{w:World}:∀ (W:kZ) (seen mN:List Nat),(∀ k∈seen,k∈mN)→hG md ops ls w mN W→hG md ops ls w seen W
 | [],_,_,_,_=>trivial
 | (j,C)::W,seen,mN,ar,h=>by
  have nE:∀ k∈j::seen,k∈j::mN:=fun k aE=>by
   rcases List.mem_cons.1 aE with e | aE
   ·exact e ▸ List.mem_cons_self
   ·exact List.mem_cons_of_mem _ (ar k aE)
  refine ⟨h.1.imp (fun h=>?_) id,hG.mono W _ _ nE h.2⟩
  unfold AJ at *
  rw [List.any_eq_true] at *
  obtain ⟨k,aE,aY⟩:=h
  simp only [Bool.and_eq_true,Bool.not_eq_true',List.contains_eq_mem,decide_eq_false_iff_not] at aY ⊢
  exact ⟨k,aE,⟨aY.1.1,fun fN=>aY.1.2 (nE _ fN)⟩,aY.2⟩
theorem hG.more{ls:Array Bool}{i:Nat}{w:World}(m6:ls.getD i false=false):∀ (W:kZ) (seen mN:List Nat),(∀ k∈mN,k∈seen∨k=i)→hG md ops ls w seen W→hG md ops (ls.setIfInBounds i true) w mN W
 | [],_,_,_,_=>trivial
 | (j,C)::W,seen,mN,ar,h=>by
  have nE:∀ k∈j::mN,k∈j::seen∨k=i:=fun k aE=>by
   rcases List.mem_cons.1 aE with e | aE
   ·exact .inl (e ▸ List.mem_cons_self)
   ·exact (ar k aE).imp (List.mem_cons_of_mem _) id
  refine ⟨h.1.imp (fun h=>?_) id,hG.more m6 W _ _ nE h.2⟩
  unfold AJ at *
  rw [List.any_eq_true] at *
  obtain ⟨k,aE,aY⟩:=h
  simp only [Bool.and_eq_true,Bool.not_eq_true',List.contains_eq_mem,decide_eq_false_iff_not] at aY ⊢
  refine ⟨k,aE,⟨getD_set_true aY.1.1,fun fN=>?_⟩,aY.2⟩
  rcases nE k fN with aQ | rfl
  ·exact aY.1.2 aQ
  ·rw [m6] at aY;exact absurd aY.1.1 (by simp)
theorem J9{Q:Exit→Act→World→Prop}{p:Nat×(World→Prop)}{W:kZ}:∀ (f:Nat) (ls:Array Bool) (a:Act) (w:World),tR P md ops Q f (p::W) ls a w→tR P md ops Q f W ls a w
 | 0,_,_,_,h=>h
 | f+1,_,_,_,h=>⟨h.1,fun i aH=>wpOp_mono (fun hp w' jf=>⟨hG.mono W [] [p.1] (by simp) jf.1.2,J9 f _ _ _ jf.2⟩) (h.2 i aH)⟩
theorem hG.all{ls:Array Bool}{w:World}:∀ {W:kZ}{seen:List Nat},(∀ p∈W,p.2 w)→hG md ops ls w seen W
 | [],_,_=>trivial
 | _::_,_,h=>⟨.inr (h _ List.mem_cons_self),hG.all fun p bO=>h p (List.mem_cons_of_mem _ bO)⟩
def kE(J:Act→World→Prop):Exit→Act→World→Prop:=fun e a w=>e=.normal∧J a w
theorem ajA{C:World→Prop}{J:Act→World→Prop}{j:Nat}{oi oj:Oper}{v:Value}(aV:ops[j]?=some oj)(Z4:oi.apart ops oj=true)
  (abK:∀ cs b,oi.op≠.select cs b) (HM:∀ cs b,oj.op≠.select cs b) {K:Act→World→Prop}{a:Act}{w:World}
  (cZ:YieldsIn P ops C oi v a) (h:wpOp P ops (kE J) j K (a.put oi.dst v) w) :
  wpOp P ops (kE J) j (fun hp w'=>YieldsIn P ops C oi v hp∧K (hp.put oi.dst v) w') a w:=by
 obtain ⟨h1,ar,aQ⟩:=Oper.apart_spec Z4
 have ao:∀ (a:Act),YieldsIn P ops C oi v a→∀ u,YieldsIn P ops C oi v (a.put oj.dst u):=fun a cZ u=>
  cZ.of_same (execOp_put oi abK a oj.dst u aQ) (wanted_put oi a oj.dst u aQ)
 have acG:∀ d,YieldsIn P ops C oi v { a with defers:=d::a.defers }:=fun d=>cZ.of_same rfl rfl
 unfold wpOp at *
 simp only [aV] at *
 rw [wanted_put oj a oi.dst v h1] at h
 split
 ·rename_i hw
  simp only [hw,if_true] at h
  rcases h with h | ⟨NX,aa3⟩
  case inr=>exact .inr ⟨by unfold Oper.asks at *;rw [execOp_put oj HM a oi.dst v h1] at NX;exact NX,aa3⟩
  refine .inl ?_
  unfold Oper.wp at *
  rw [execOp_put oj HM a oi.dst v h1] at h
  generalize (execOp a.eval oj).run P w=r at *
  cases r with
  | ok n w'=>
   cases n <;> simp only [Oper.upon] at h ⊢
   case value u=>exact ⟨ao a cZ u,by rw [← Act.put_comm a v u ar];exact h⟩
   case skip=>exact ⟨ao a cZ _,by rw [← Act.put_comm a v undef ar];exact h⟩
   case defer d=>
    refine ⟨ao _ (acG d) _,?_⟩
    rw [← Act.put_comm _ v undef ar,← Act.put_defers]
    exact h
   case enter f args=>
    refine Calls.mono h fun e yc he=>?_
    cases e with
    | returned u=>exact ⟨ao a cZ u,by rw [← Act.put_comm a v u ar];exact he⟩
    | panicked c=>exact absurd he.1 (by simp)
    | outgrown=>exact he
   case row row args=>exact Rows.mono h fun u yc he=>⟨ao a cZ u,by rw [← Act.put_comm a v u ar];exact he⟩
  | halt x w'=>
   cases x <;> simp only [Oper.upon] at h ⊢
   case panic u=>exact absurd h.1 (by simp)
 ·rename_i hw
  simp only [hw] at h
  exact ⟨ao a cZ _,by rw [← Act.put_comm a v undef ar];exact h⟩
def tq(o:Oper):Bool:=
 match o.op with
 | .move _ | .assign _ | .pick _ _ _ | .build _ _ | .load _ _ | .binOp _ _ _ _ _ | .unOp _ _ _ | .convert _ _ _ | .sliceToArrayPointer _ _ | .slice _ _ _ _ _ | .fieldAddr _ _ _ | .field _ _ _ | .indexAddr _ _ _ | .index _ _ _ | .lookup _ _ _ _ | .extract _ _ | .nilCheck _=>true
 | .call c=>match c.callee with
  | .builtin b=>(match b with | .len | .cap | .min | .max=>true | _=>false)
  | _=>false
 | _=>false
theorem Sb{s:Sem Value}{w w':World}{f:FuncId}{args:Array Value}:Sem.run P (do pure (Next.value (← s))) w≠.ok (.enter f args) w':=by
 rw [Sem.run_bind]
 cases h:s.run P w <;> simp [Result.andThen]
theorem afd{o:Oper}(h:tq o=true){ρ:Operand→Value}{w w':World}{f:FuncId}{args:Array Value}:(execOp ρ o).run P w≠.ok (.enter f args) w':=by
 unfold tq at h
 unfold execOp
 cases cH:o.op <;> simp only [cH] at h ⊢ <;> first
  | exact Sb
  | (simp at h;done)
  | skip
 case move=>simp
 case assign=>simp
 case nilCheck x=>
  split
  ·simp [runtimePanic]
  ·simp [runtimePanic]
  ·simp [runtimePanic]
  ·split
   ·simp [runtimePanic]
   ·simp only [Sem.run_bind]
    intro cA
    cases h1:Sem.run P program w <;> rw [h1] at cA <;> simp only [Result.andThen] at cA
    ·rename_i p vT
     generalize Sem.run P (nilAhead _ _ _ _) vT=r at cA
     cases r <;> simp only [Result.andThen] at cA
     ·split at cA
      ·simp [unsupported,Sem.run_bind,Result.andThen] at cA
      ·simp at cA
     ·cases cA
    ·cases cA
   ·simp
  ·simp
 case pick c a b=>
  rw [Sem.run_bind]
  cases h:(asBool (ρ c)).run P w <;> simp [Result.andThen]
 case call c=>
  cases bq:c.callee <;> simp only [bq] at h
  case builtin b=>
   cases b <;> simp only [] at h <;> first | (simp at h;done) | skip
   all_goals
    simp only [resolve,bq,Sem.run_bind,Sem.run_pure,Result.andThen_ok,invoke,builtin]
    have:=@Sb P
    simp only [Sem.run_bind] at this
    exact this
  all_goals (simp at h;done)
theorem afe{C:World→Prop}{o:Oper}{v:Value}{a:Act}{w:World}(bO:tq o=true)(h:o.quietAt P a C w v) :
  (execOp a.eval o).run P w=.ok (.value v) w∨((execOp a.eval o).run P w=.ok .skip w∧v=undef):=by
 unfold Oper.quietAt at h
 generalize aY:(execOp a.eval o).run P w=r at *
 cases r with
 | ok n w'=>
  cases n <;> simp only [Oper.quietUpon] at h
  case value u=>obtain ⟨rfl,rfl⟩:=h;exact .inl rfl
  case skip=>obtain ⟨rfl,rfl⟩:=h;exact .inr ⟨rfl,rfl⟩
  case enter f args=>exact absurd aY (afd bO)
 | halt x w'=>simp only [Oper.quietUpon] at h
theorem TZ{C:World→Prop}{i:Nat}{o:Oper}{v:Value}{a:Act}{Q:Exit→Act→World→Prop}(aH:ops[i]?=some o)(bO:tq o=true)(cZ:YieldsIn P ops C o v a)
  {K:Act→World→Prop}{w:World}(uJ:C w) (h:K (a.put o.dst v) w):wpOp P ops Q i K a w:=by
 unfold Go.wpOp
 simp only [aH]
 rcases cZ with ⟨hw,bA⟩ | ⟨hw,rfl⟩
 ·simp only [hw,if_true]
  refine .inl ?_
  unfold Oper.wp
  rcases afe bO (bA w uJ) with aQ | ⟨aQ,rfl⟩ <;> rw [aQ] <;> exact h
 ·simp only [hw,Bool.false_eq_true,if_false];exact h
theorem TQ{J:Act→World→Prop}{C:World→Prop}{i:Nat}{oi:Oper}{v:Value}(aH:ops[i]?=some oi)(bO:tq oi=true)(om:∀ (j:Nat) (o:Oper) cs b,ops[j]?=some o→o.op≠.select cs b)(W:kZ) :
  ∀ (f:Nat) (ls:Array Bool) (a:Act) (w:World),sa md ops ls →
   (∀ j oj,ops[j]?=some oj→j≠i→ls.getD j true=false→(∀ e∈oj.after,Region.binds md e=true→e.on≠i)→oi.apart ops oj=true) →
   i∈Region.ready md ops ls→YieldsIn P ops C oi v a→C w→hG md ops (ls.setIfInBounds i true) w [] W →
   tR P md ops (kE J) f ((i,C)::W) (ls.setIfInBounds i true) (a.put oi.dst v) w→tR P md ops (kE J) (f+1) W ls a w:=by
 intro f
 induction f with
 | zero=>
  intro ls a w _ _ aY cZ uJ eZ H
  refine ⟨fun h=>(by rw [h] at aY;cases aY),fun j aV=>?_⟩
  by_cases kJ:j=i
  ·subst kJ;exact TZ aH bO cZ uJ ⟨eZ,J9 _ _ _ _ H⟩
  ·have:=ready_mono aV kJ
   rw [H.1] at this
   cases this
 | succ f ih=>
  intro ls a w fE zo aY cZ uJ eZ H
  refine ⟨fun h=>(by rw [h] at aY;cases aY),fun j aV=>?_⟩
  by_cases kJ:j=i
  ·subst kJ;exact TZ aH bO cZ uJ ⟨eZ,J9 _ _ _ _ H⟩
  ·have h1:=H.2 j (ready_mono aV kJ)
   obtain ⟨zx,oj,ve,hP⟩:=mem_ready.1 aV
   have N8:=(mem_ready.1 aY).1
   have HB:∀ e∈oj.after,Region.binds md e=true→e.on≠i:=fun e he aw heq=>by
    have h1:=hP e he aw
    rw [heq,getD_both N8] at h1
    cases h1
   have ar:=ajA ve (zo j oj ve kJ zx HB) (fun cs b=>om i oi cs b aH) (fun cs b=>om j oj cs b ve) cZ h1
   have sO:=fE.set aV
   refine wpOp_mono (fun hp w' aQ=>?_) ar
   obtain ⟨ab8,⟨zK,NO⟩,lD⟩:=aQ
   have CG:(ls.setIfInBounds j true).setIfInBounds i true=(ls.setIfInBounds i true).setIfInBounds j true:=Array.setIfInBounds_comm _ _ kJ
   have aaU:(ls.setIfInBounds j true).getD i false=false:=by rw [getD_set_ne false kJ];exact getD_both N8
   have Zd:C w':=by
    rcases zK with zK | Zc
    ·exfalso
     unfold AJ at zK
     rw [List.any_eq_true] at zK
     obtain ⟨k,_,aE⟩:=zK
     simp only [Bool.and_eq_true,Bool.not_eq_true',List.contains_eq_mem,List.mem_cons,List.not_mem_nil,or_false,decide_eq_false_iff_not] at aE
     obtain ⟨⟨bF,cO⟩,dR⟩:=aE
     rw [← CG,getD_set_ne false (fun e=>cO e.symm)] at bF
     have:=sO.reach _ _ _ dR bF
     rw [aaU] at this
     cases this
    ·exact Zc
   have Zp:hG md ops ((ls.setIfInBounds j true).setIfInBounds i true) w' [] W:=by rw [CG];exact hG.mono W [] [i] (by simp) NO
   refine ⟨hG.less W [] [i] (fun k aE=>.inr (by simpa using aE)) (by simp) (by simp) (by rw [CG];exact NO),?_⟩
   refine ih (ls.setIfInBounds j true) hp w' sO (fun k ok aE pN m6 iz=>?_) (ready_mono aY (Ne.symm kJ)) ab8 Zd Zp ?_
   ·refine zo k ok aE pN ?_ iz
    by_cases zq:j=k
    ·subst zq;exact zx
    ·rwa [getD_set_ne true zq] at m6
   ·rw [CG]
    exact lD
variable {n:Nat}{w0:World}{L:List (Nat×Value)}{J:Act→World→Prop}
def nw(P:Program)(ops:Array Oper)(J:Act→World→Prop)(f:Nat)(W:kZ)(ls:Array Bool)(a:Act)(w:World):Prop:=
 sa .any ops ls→hG .any ops ls w [] W→tR P .any ops (kE J) f W ls a w
theorem Y0[a1]{l:List Oper}{f:Nat}{W:kZ}{ls:Array Bool}{a:Act}{w:World}(i:Nat)(js:Array Bool){d:Option Tmp}{op:Op}{t:TypeId}{p:String}{af:Array Edge}{v:Value}{zs:List aR}{hs:List aC}
  (aH:l[i]?=some ⟨d,op,t,p,af,none⟩) (gS:(tq ⟨d,op,t,p,af,none⟩&&Region.noSelect l.toArray&&Region.free .any l.toArray ls i&&(Region.ready .any l.toArray ls).contains i&&(match d with | some k=>Nat.blt k n | none=>true))=true)
  (m5:ls.setIfInBounds i true=js) (ab:Fr n L a) (U:aB w0 zs hs w) (q:bR P n w0 zs hs L ⟨d,op,t,p,af,none⟩ v)
  (K:∀ a,Fr n (lh d v L) a→nw P l.toArray J f ((i,aB w0 zs hs)::W) js a w):nw P l.toArray J (f+1) W ls a w:=by
 intro fE eZ
 subst m5
 replace aH:l.toArray[i]?=some ⟨d,op,t,p,af,none⟩:=by simpa using aH
 simp only [Bool.and_eq_true] at gS
 obtain ⟨⟨⟨⟨bO,om⟩,bw⟩,aY⟩,aT⟩:=gS
 have aY:i∈Region.ready .any l.toArray ls:=by simpa using aY
 have cZ:YieldsIn P l.toArray (aB w0 zs hs) ⟨d,op,t,p,af,none⟩ v a:=.inl ⟨rfl,fun w hw=>q a ab w hw⟩
 have GB:Fr n (lh d v L) (a.put d v):=ab.up (by cases d with | none=>trivial | some k=>exact Nat.blt_eq.mp aT)
 have m6:=getD_both (mem_ready.1 aY).1
 have uO:hG .any l.toArray (ls.setIfInBounds i true) w [] W:=hG.more m6 W [] [] (by simp) eZ
 refine TQ (C:=aB w0 zs hs) aH bO (Region.noSelect_spec om) W f ls a w fE (Region.free_spec aH bw) aY cZ U uO ?_
 exact K _ GB (fE.set aY) ⟨.inr U,hG.more m6 W [] [i] (by simp) eZ⟩
def E8(P:Program)(ops:Array Oper)(J:Act→World→Prop)(f:Nat)(W:kZ)(ls:Array Bool)(a:Act)(w:World)(i:Nat):Prop:=
 i∈Region.ready .any ops ls→sa .any ops ls→wpOp P ops (kE J) i (fun hp w'=>hG .any ops (ls.setIfInBounds i true) w' [] W∧tR P .any ops (kE J) f W (ls.setIfInBounds i true) hp w') a w
def Bn(p:Nat→Prop):List Nat→Prop
 | []=>True
 | i::r=>p i∧Bn p r
theorem Bn.mem{p:Nat→Prop}:∀ {l:List Nat},Bn p l→∀ i∈l,p i
 | _::_,h,i,aH=>by
  rcases List.mem_cons.1 aH with rfl | aH
  ·exact h.1
  ·exact h.2.mem i aH
theorem fB{f:Nat}{W:kZ}{ls:Array Bool}{a:Act}{w:World}(rs:List Nat)(aY:Region.ready .any ops ls=rs)(fG:rs.isEmpty=false)(h:Bn (E8 P ops J f W ls a w) rs):nw P ops J (f+1) W ls a w:=by
 intro fE eZ
 refine ⟨fun h0=>?_,fun i aH=>?_⟩
 ·rw [aY] at h0;subst h0;cases fG
 ·exact h.mem i (aY ▸ aH) aH fE
theorem dW[a1]{l:List Oper}{f:Nat}{W:kZ}{ls:Array Bool}{a:Act}{w:World}{i:Nat}(js:Array Bool){d:Option Tmp}{op:Op}{ty:TypeId}{pos:String}{af:Array Edge}{zs:List aR}{hs:List aC}{K:Value→List aR→List aC→Prop}
  (aH:l[i]?=some ⟨d,op,ty,pos,af,none⟩) (m5:ls.setIfInBounds i true=js) (ab:Fr n L a) (U:aB w0 zs hs w) (aT:(match d with | some k=>Nat.blt k n | none=>true)=true) (e:fJ P n w0 zs hs L ⟨d,op,ty,pos,af,none⟩ K)
  (h:∀ v zs' hs' a w,K v zs' hs'→Fr n (lh d v L) a→aB w0 zs' hs' w→hG .any l.toArray js w [] W∧nw P l.toArray J f W js a w):E8 P l.toArray J f W ls a w i:=by
 intro aY fE
 subst m5
 replace aH:l.toArray[i]?=some ⟨d,op,ty,pos,af,none⟩:=by simpa using aH
 unfold wpOp
 simp only [aH]
 rw [if_pos (show Region.wanted ⟨d,op,ty,pos,af,none⟩ (yielded l.toArray a.tmps)=true from rfl)]
 refine .inl (e a ab w U _ _ fun v zs' hs' w' dU jX=>?_)
 have:=h v zs' hs' _ w' dU (ab.up (by cases d with | none=>trivial | some k=>exact Nat.blt_eq.mp aT)) jX
 exact ⟨this.1,this.2 (fE.set aY) this.1⟩
theorem ev{f:Nat}{W:kZ}{ls:Array Bool}{a:Act}{w:World}(aY:Region.ready .any ops ls=[])(h:J a w):nw P ops J f W ls a w:=by
 intro _ _
 cases f with
 | zero=>exact ⟨aY,rfl,h⟩
 | succ f=>exact ⟨fun _=>⟨rfl,h⟩,by rw [aY];simp⟩
theorem hL[a1]{id:Nat}{Q:Exit→Act→World→Prop}{a:Act}{w:World}{l:List Oper}{zs:List aR}{hs:List aC}(ls:Array Bool)(f:Nat)(hm:P.follows .mixedOrders=true)(m5:Array.replicate l.length false=ls)(bw:l.length=f)
  (h:∀ w,Fr n L a→aB w0 zs hs w→nw P l.toArray J f [] ls a w) (K:∀ a w,J a w→Q .normal a w):Fr n L a→aB w0 zs hs w→(Code.region id l.toArray true).wp P Q a w:=by
 intro ab U
 subst m5 bw
 refine Code.wp_mono (Q:=kE J) (fun e a w q=>?_) (wp_region_any hm (J8 _ [] _ _ _ ?_))
 ·obtain ⟨rfl,aV⟩:=q;exact K _ _ aV
 ·have:=h _ ab (U.drew (w.drawn+1)) (fun k o _ aE=>?_) trivial
  ·simpa using this
  ·exact absurd aE (by simp [Array.getD_eq_getD_getElem?,Array.getElem?_replicate];split <;> simp)
theorem eC[a1]{o:Oper}{v:Value}{zs:List aR}{hs:List aC}(q:bR P n w0 zs hs L o v):fJ P n w0 zs hs L o (fun dr zs' hs'=>dr=v∧zs'=zs∧hs'=hs):=by
 intro a bg w hw next Q bD
 have:=q a bg w hw
 unfold Oper.wp
 generalize (execOp a.eval o).run P w=res at this
 cases res with
 | halt x w'=>simp only [Oper.quietUpon] at this
 | ok nx w'=>
  cases nx <;> simp only [Oper.quietUpon] at this <;> simp only [Oper.upon]
  case value u=>obtain ⟨rfl,rfl⟩:=this;exact bD _ _ _ _ ⟨rfl,rfl,rfl⟩ hw
  case skip=>obtain ⟨rfl,rfl⟩:=this;exact bD _ _ _ _ ⟨rfl,rfl,rfl⟩ hw
  case enter f args=>
   obtain ⟨rfl,bq⟩:=this
   exact bq.mono fun e yc ⟨he,zP⟩=>by subst he;exact bD _ _ _ _ ⟨rfl,rfl,rfl⟩ zP
end
def Kj[a1](n:Nat)(w0:World)(F:Prop)(L:List (Nat×Value))(Z:List aR)(H:List aC):Act→World→Prop:=fun a w=>F∧Fr n (L) a∧aB w0 (Z) (H) w
theorem acr[a1]{n:Nat}{w0:World}{F:Prop}{L:List (Nat×Value)}{Z:List aR}{H:List aC}{a:Act}{w:World}(bw:F)(ab:Fr n (L) a)(U:aB w0 (Z) (H) w):Kj n w0 F L Z H a w:=⟨bw,ab,U⟩
def ki[a1]{α0:Type}(n:Nat)(w0:World)(F:α0→Prop)(L:α0→List (Nat×Value))(Z:α0→List aR)(H:α0→List aC):Act→World→Prop:=fun a w=>∃ (cE:α0),F cE∧Fr n (L cE) a∧aB w0 (Z cE) (H cE) w
theorem l6[a1]{α0:Type}{n:Nat}{w0:World}{F:α0→Prop}{L:α0→List (Nat×Value)}{Z:α0→List aR}{H:α0→List aC}{a:Act}{w:World}(cE:α0)(bw:F cE)(ab:Fr n (L cE) a)(U:aB w0 (Z cE) (H cE) w):ki n w0 F L Z H a w:=⟨cE,bw,ab,U⟩
def kj[a1]{α0 α1:Type}(n:Nat)(w0:World)(F:α0→α1→Prop)(L:α0→α1→List (Nat×Value))(Z:α0→α1→List aR)(H:α0→α1→List aC):Act→World→Prop:=fun a w=>∃ (cE:α0) (bZ:α1),F cE bZ∧Fr n (L cE bZ) a∧aB w0 (Z cE bZ) (H cE bZ) w
theorem lI[a1]{α0 α1:Type}{n:Nat}{w0:World}{F:α0→α1→Prop}{L:α0→α1→List (Nat×Value)}{Z:α0→α1→List aR}{H:α0→α1→List aC}{a:Act}{w:World}(cE:α0)(bZ:α1)(bw:F cE bZ)(ab:Fr n (L cE bZ) a)(U:aB w0 (Z cE bZ) (H cE bZ) w):kj n w0 F L Z H a w:=⟨cE,bZ,bw,ab,U⟩
def jC[a1]{α0 α1 α2:Type}(n:Nat)(w0:World)(F:α0→α1→α2→Prop)(L:α0→α1→α2→List (Nat×Value))(Z:α0→α1→α2→List aR)(H:α0→α1→α2→List aC):Act→World→Prop:=fun a w=>∃ (cE:α0) (bZ:α1) (cg:α2),F cE bZ cg∧Fr n (L cE bZ cg) a∧aB w0 (Z cE bZ cg) (H cE bZ cg) w
theorem H8[a1]{α0 α1 α2:Type}{n:Nat}{w0:World}{F:α0→α1→α2→Prop}{L:α0→α1→α2→List (Nat×Value)}{Z:α0→α1→α2→List aR}{H:α0→α1→α2→List aC}{a:Act}{w:World}(cE:α0)(bZ:α1)(cg:α2)(bw:F cE bZ cg)(ab:Fr n (L cE bZ cg) a)(U:aB w0 (Z cE bZ cg) (H cE bZ cg) w):jC n w0 F L Z H a w:=⟨cE,bZ,cg,bw,ab,U⟩
def tX[a1]{α0 α1 α2 α3:Type}(n:Nat)(w0:World)(F:α0→α1→α2→α3→Prop)(L:α0→α1→α2→α3→List (Nat×Value))(Z:α0→α1→α2→α3→List aR)(H:α0→α1→α2→α3→List aC):Act→World→Prop:=fun a w=>∃ (cE:α0) (bZ:α1) (cg:α2) (c7:α3),F cE bZ cg c7∧Fr n (L cE bZ cg c7) a∧aB w0 (Z cE bZ cg c7) (H cE bZ cg c7) w
theorem oY[a1]{α0 α1 α2 α3:Type}{n:Nat}{w0:World}{F:α0→α1→α2→α3→Prop}{L:α0→α1→α2→α3→List (Nat×Value)}{Z:α0→α1→α2→α3→List aR}{H:α0→α1→α2→α3→List aC}{a:Act}{w:World}(cE:α0)(bZ:α1)(cg:α2)(c7:α3)(bw:F cE bZ cg c7)(ab:Fr n (L cE bZ cg c7) a)(U:aB w0 (Z cE bZ cg c7) (H cE bZ cg c7) w):tX n w0 F L Z H a w:=⟨cE,bZ,cg,c7,bw,ab,U⟩
def yn[a1]{α0 α1 α2 α3 α4:Type}(n:Nat)(w0:World)(F:α0→α1→α2→α3→α4→Prop)(L:α0→α1→α2→α3→α4→List (Nat×Value))(Z:α0→α1→α2→α3→α4→List aR)(H:α0→α1→α2→α3→α4→List aC):Act→World→Prop:=fun a w=>∃ (cE:α0) (bZ:α1) (cg:α2) (c7:α3) (c9:α4),F cE bZ cg c7 c9∧Fr n (L cE bZ cg c7 c9) a∧aB w0 (Z cE bZ cg c7 c9) (H cE bZ cg c7 c9) w
theorem xc[a1]{α0 α1 α2 α3 α4:Type}{n:Nat}{w0:World}{F:α0→α1→α2→α3→α4→Prop}{L:α0→α1→α2→α3→α4→List (Nat×Value)}{Z:α0→α1→α2→α3→α4→List aR}{H:α0→α1→α2→α3→α4→List aC}{a:Act}{w:World}(cE:α0)(bZ:α1)(cg:α2)(c7:α3)(c9:α4)(bw:F cE bZ cg c7 c9)(ab:Fr n (L cE bZ cg c7 c9) a)(U:aB w0 (Z cE bZ cg c7 c9) (H cE bZ cg c7 c9) w):yn n w0 F L Z H a w:=⟨cE,bZ,cg,c7,c9,bw,ab,U⟩
def akd[a1]{α0 α1 α2 α3 α4 α5:Type}(n:Nat)(w0:World)(F:α0→α1→α2→α3→α4→α5→Prop)(L:α0→α1→α2→α3→α4→α5→List (Nat×Value))(Z:α0→α1→α2→α3→α4→α5→List aR)(H:α0→α1→α2→α3→α4→α5→List aC):Act→World→Prop:=fun a w=>∃ (cE:α0) (bZ:α1) (cg:α2) (c7:α3) (c9:α4) (ep:α5),F cE bZ cg c7 c9 ep∧Fr n (L cE bZ cg c7 c9 ep) a∧aB w0 (Z cE bZ cg c7 c9 ep) (H cE bZ cg c7 c9 ep) w
end Go.aK
end
section
namespace Go.aK
section
variable {P:Program}{n:Nat}{w0:World}{zs:List aR}{hs:List aC}{L:List (Nat×Value)}{d:Option Tmp}{ty t b7:TypeId}{pos:String}{af:Array Edge}{g:Option (Nat×Bool)}
variable {x y c ot ou kR:Operand}{u v:Value}{ops:Array Oper}{rest:List Oper}
theorem afJ[a1]{bS:TypeDesc}{s bu:Nat}{zv:Value}(aN:ba P t bS s bu zv){b:Nat}{bt:TypeId}{cs:List Value}{fz:Nat×Nat}(h1:aW L x=some (.pointer (some ⟨b,0,none⟩)))(aE:w0.heap[b]?=some (.cells cs.toArray bt fz))(hl:cs.length=s)(aT:fg bS=true) :
  bR P n w0 zs hs L ⟨d,.load t x,ty,pos,af,g⟩ (.agg cs.toArray):=
 afI aN h1 aE (by simp only [List.drop_zero];rw [List.take_of_length_le ag]) (by simp;omega) aT
theorem xo{L:List (Nat×Value)}:∀ (l:List (Nat×Operand)) (vs:List Value),iP L (l.map (·.2))=some vs→(l.mapM fun p=>(aW L p.2).map fun v=>(p.1,v))=some (List.zip (l.map (·.1)) vs)
 | [],vs,h=>by simp [iP] at h;subst h;rfl
 | p::l,vs,h=>by
  rw [List.mapM_cons]
  simp only [List.map_cons] at h
  cases cH:aW L p.2 with
  | none=>simp [iP,cH] at h
  | some u=>
   cases hm:iP L (l.map (·.2)) with
   | none=>simp [iP,cH,hm] at h
   | some r=>
    simp [iP,cH,hm] at h
    subst h
    simp [xo l r hm]
@[reducible,simp] def hM:List (List Value)→List Value→List Value
 | [],r=>r
 | p::ps,r=>p++hM ps r
@[reducible,simp] def mO:List (List Value)→Nat
 | []=>0
 | p::ps=>p.length+mO ps
theorem oA:∀ (ps:List (List Value)) (r:List Value),hM ps r=ps.flatten++r
 | [],_=>rfl
 | p::ps,r=>by simp [hM,oA ps r]
theorem oz:∀ (ps:List (List Value)),mO ps=ps.flatten.length
 | []=>rfl
 | p::ps=>by simp [mO,oz ps]
theorem afM[a1]{α:Type}{f:α→Value}{bS:TypeDesc}{s bu:Nat}{zv:Value}(aN:ba P t bS s bu zv)(k:Nat)(ps:List (List Value)){b off:Nat}{bt:TypeId}{post:List Value}{xs:List α}(h1:aW L x=some (.pointer (some ⟨b,off,none⟩)))(aE:hs[k]?=some (.blk b bt (hM ps (xs.map f++post))))(cH:off=mO ps)(hl:xs.length=s)(aT:fg bS=true) :
  bR P n w0 zs hs L ⟨d,.load t x,ty,pos,af,g⟩ (.agg (xs.map f).toArray):=by
 subst cH hl
 rw [oA] at aE
 refine Ap aN k h1 aE ?_ ?_ aT
 ·rw [oz,List.drop_left,List.take_left' (by simp)]
 ·rw [oz];simp
theorem DK[a1]{bS:TypeDesc}{s bu:Nat}{zv:Value}(aN:ba P t bS s bu zv)(k:Nat)(ps:List (List Value)){b off:Nat}{bt:TypeId}{post:List Value}{r:Value}(h1:aW L x=some (.pointer (some ⟨b,off,none⟩)))(aE:hs[k]?=some (.blk b bt (hM ps (r::post))))(cH:off=mO ps)(aT:fg bS=false) :
  bR P n w0 zs hs L ⟨d,.load t x,ty,pos,af,g⟩ r:=by
 subst cH
 rw [oA] at aE
 refine bf aN k h1 aE ?_ aT
 rw [oz]
 simp
theorem afN[a1]{α:Type}{f:α→Value}{bS:TypeDesc}{s bu:Nat}{zv:Value}(aN:ba P t bS s bu zv)(k:Nat)(ps:List (List Value))(h6:α){b vt j:Nat}{bt:TypeId}{post:List Value}{xs:List α}(h1:aW L x=some (.pointer (some ⟨b,vt+j*1,none⟩)))(aE:hs[k]?=some (.blk b bt (hM ps (xs.map f++post))))(cH:vt=mO ps)(hl:j<xs.length)(aT:fg bS=false) :
  bR P n w0 zs hs L ⟨d,.load t x,ty,pos,af,g⟩ (f (xs.getD j h6)):=by
 subst cH
 rw [oA] at aE
 refine afG aN k j h6 h1 aE ?_ hl aT
 rw [oz]
 simp
theorem WR[a1]{α:Type}{f:α→Value}{bS:TypeDesc}{s bu:Nat}{zv:Value}(aN:ba P t bS s bu zv)(k:Nat)(ps:List (List Value)){b off:Nat}{bt:TypeId}{post:List Value}{xs ys:List α}(h1:aW L x=some (.pointer (some ⟨b,off,none⟩)))(ar:aW L y=some (.agg (ys.map f).toArray))(aE:hs[k]?=some (.blk b bt (hM ps (xs.map f++post))))(cH:off=mO ps)(hl:xs.length=s)(sZ:ys.length=s)(n0:∀ u,(f u).oneCell'=true) :
  fJ P n w0 zs hs L ⟨d,.store t x y,ty,pos,af,g⟩ (fun v zs' hs'=>v=undef∧zs'=zs∧hs'=hs.set k (.blk b bt (hM ps (ys.map f++post)))):=by
 subst cH hl
 rw [oA] at aE
 refine FO aN k h1 ar aE rfl (by simp [sZ]) (by simp [n0]) ?_ ?_
 ·rw [oz];simp
 ·rw [oz,oA,List.take_left,← List.drop_drop,List.drop_left,List.drop_left' (by simp),List.append_assoc]
theorem WS[a1]{bS:TypeDesc}{bu:Nat}{zv:Value}(aN:ba P t bS 1 bu zv)(k:Nat)(ps:List (List Value)){b off:Nat}{bt:TypeId}{post:List Value}{r fe:Value}(h1:aW L x=some (.pointer (some ⟨b,off,none⟩)))(ar:aW L y=some fe)(aE:hs[k]?=some (.blk b bt (hM ps (r::post))))(cH:off=mO ps)(n0:fe.oneCell'=true) :
  fJ P n w0 zs hs L ⟨d,.store t x y,ty,pos,af,g⟩ (fun v zs' hs'=>v=undef∧zs'=zs∧hs'=hs.set k (.blk b bt (hM ps (fe::post)))):=by
 subst cH
 rw [oA] at aE
 have:=dq (ty:=ty) (pos:=pos) (af:=af) (g:=g) (d:=d) (n:=n) (w0:=w0) (zs:=zs) aN k h1 ar aE n0 (by rw [oz];simp)
 rwa [show (ps.flatten++r::post).set (mO ps) fe=hM ps (fe::post) by rw [oz,oA];simp] at this
theorem ahN{α:Type}{f:α→Value}(ps:List (List Value))(xs:List α)(post:List Value):((hM ps (xs.map f++post)).drop (mO ps)).take xs.length=xs.map f:=by
 rw [oA,oz,List.drop_left,List.take_left' (by simp)]
theorem Vk{α:Type}{f:α→Value}{p:α→Prop}{h0:∀ x,(f x).oneCell'=true}{w:World}(U:aB w0 zs hs w)(k:Nat)(ps:List (List Value)){b off m c:Nat}{bt:TypeId}{post:List Value}{xs:List α}(aE:hs[k]?=some (.blk b bt (hM ps (xs.map f++post))))(cH:off=mO ps)(hm:m=xs.length∧m≤c∧m≤140737488355328)(bO:∀ x∈xs,p x) :
  bo (ly f p h0) (cf w) (.slice (some ⟨b,off,none⟩) m c) xs:=
 Lp U k aE (by subst cH;rw [hm.1];exact ahN ps xs post) hm bO
theorem dO:∀ u∈([]:List Value),u.oneCell'=true:=fun _ h=>absurd h (by simp)
theorem aex{a b:List Value}(h1:∀ u∈a,u.oneCell'=true)(ar:∀ u∈b,u.oneCell'=true):∀ u∈a++b,u.oneCell'=true:=fun u h=>(List.mem_append.1 h).elim (h1 u) (ar u)
theorem aey{α:Type}{f:α→Value}{l:List α}(h1:∀ u,(f u).oneCell'=true):∀ u∈l.map f,u.oneCell'=true:=fun u h=>by obtain ⟨x,_,rfl⟩:=List.mem_map.1 h;exact h1 x
theorem bp{v:Value}{l:List Value}(h1:v.oneCell'=true)(ar:∀ u∈l,u.oneCell'=true):∀ u∈v::l,u.oneCell'=true:=fun u h=>by (rcases List.mem_cons.1 h with rfl | h;exact h1;exact ar u h)
theorem aez{v:Value}{n:Nat}(h1:v.oneCell'=true):∀ u∈List.replicate n v,u.oneCell'=true:=fun u h=>by rw [(List.mem_replicate.1 h).2];exact h1
theorem run_places{fs:List Field}{w:World}:∀ {places:List (Nat×Nat)},(fs.mapM fun f=>(P.info? f.type).map fun i=>(f.offset,i.size))=some places→(fs.mapM fun f=>(do pure (f.offset,← sizeOf f.type):Sem (Nat×Nat))).run P w=.ok places w:=by
 induction fs with
 | nil=>intro places h;simp at h;subst h;simp
 | cons f fs ih=>
  intro places h
  rw [List.mapM_cons] at h
  cases aH:P.info? f.type with
  | none=>simp [aH] at h
  | some i=>
   cases hm:(fs.mapM fun f=>(P.info? f.type).map fun i=>(f.offset,i.size)) with
   | none=>simp [aH,hm] at h
   | some r=>
    simp [aH,hm] at h
    subst h
    rw [List.mapM_cons]
    have jU:(sizeOf f.type).run P w=.ok i.size w:=by simp [sizeOf,typeInfo,aH]
    simp only [Sem.run_bind,jU,Result.andThen_ok,Sem.run_pure]
    have:=ih hm
    rw [this]
    simp
theorem Jk{fs:List Field}{s bu:Nat}{zv:Value}(aN:ba P t (.struct fs.toArray) s bu zv){places:List (Nat×Nat)}(bO:(fs.mapM fun f=>(P.info? f.type).map fun i=>(f.offset,i.size))=some places){parts:List (Nat×Value)}{cells:List Value}(bw:Instr.fill (places.toArray[·]?) zv.cells parts=some cells.toArray)(w:World) :
  (Instr.build t parts.toArray).run P w=.ok (.agg cells.toArray) w:=by
 have h1:=run_places (P:=P) (w:=w) bO
 have ar:(fs.toArray.mapM fun f=>(do pure (f.offset,← sizeOf f.type):Sem (Nat×Nat))).run P w=.ok places.toArray w:=by
  rw [List.mapM_toArray,Sem.run_map,h1]
  rfl
 simp only [Instr.build,aN.zero,Sem.run_bind,Result.andThen_ok,run_underlying aN.und]
 rw [ar]
 simp only [List.getElem?_toArray] at bw
 simp [bw]
theorem Ai[a1]{xs:List UInt8}{e:TypeId}{b m c:Nat}{bt:TypeId}{s bu s' ha mc lY:Nat}{zv mo mq:Value}(aN:ba P t (.slice e) s bu zv)(gL:ba P b7 .string s' ha mo)(cr:ba P e (.int .u8) mc lY mq)(k:Nat)(h1:aW L x=some (.slice (some ⟨b,0,none⟩) m c))(aE:hs[k]?=some (.blk b bt (xs.map bn)))(hm:xs.length=m) :
  bR P n w0 zs hs L ⟨d,.convert t b7 x,ty,pos,af,g⟩ (vs xs):=by
 subst hm
 exact QG aN gL cr k h1 aE (by rw [List.drop_zero,List.take_of_length_le (by simp)])
theorem FR:∀ (vs pre post:List Value),(∀ v∈vs,v.oneCell'=true)→post.length=vs.length→Instr.fill (fun i=>some (i*1,1)) (pre++post).toArray (List.zip (List.range' pre.length vs.length) vs)=some (pre++vs).toArray
 | [],pre,post,_,bO=>by
  have:post=[]:=List.eq_nil_of_length_eq_zero (by simpa using bO)
  subst this
  simp [Instr.fill]
 | v::vs,pre,post,h1,bO=>by
  cases post with
  | nil=>simp at bO
  | cons p post=>
   have bA:=h1 v (by simp)
   have bq:v.cells=#[v]:=by cases v <;> first | rfl | (simp [Value.oneCell'] at bA)
   rw [List.length_cons,List.range'_succ,List.zip_cons_cons]
   simp only [Instr.fill,bq]
   rw [if_neg (by simp)]
   have e:(Array.foldl (fun cs (x:Value×Nat)=>cs.setIfInBounds (pre.length*1+x.2) x.1) (pre++p::post).toArray (#[v].zipIdx))=((pre++[v])++post).toArray:=by
    simp
   have ih:=FR vs (pre++[v]) post (fun u hu=>h1 u (by simp [hu])) (by simpa using bO)
   rw [show (pre++[v]).length=pre.length+1 by simp] at ih
   refine Eq.trans ?_ (ih.trans (by simp))
   rw [← e]
theorem Mk{m:Nat}{cells:Array Value}{vs:List Value}(hm:cells.size=m)(hl:vs.length=m)(h1:∀ v∈vs,v.oneCell'=true):Instr.fill (fun i=>some (i*1,1)) cells (List.zip (List.range' 0 vs.length) vs)=some vs.toArray:=by
 have:=FR vs [] cells.toList h1 (by simp [hm,hl])
 simpa using this
theorem eu[a1]{e:TypeId}{s bu:Nat}{zv:Value}(aN:ba P t (.slice e) s bu zv){de:TypeDesc}{be:Nat}{ze:Value}(cr:ba P e de 1 be ze){m:Nat}{parts:Array (Nat×Operand)}{vs:List Value}(h1:iP L (parts.toList.map (·.2))=some vs)
  (u0:parts.toList.map (·.1)=List.range' 0 vs.length) (n0:∀ v∈vs,v.oneCell'=true) (aw:m*1≤16777216) (h0:(m*1 == 0)=false) (hl:vs.length=m) :
  fJ P n w0 zs hs L ⟨d,.buildSlice t m parts,ty,pos,af,g⟩ (fun v zs' hs'=>zs'=zs∧hs'=.row v e 1 m vs::hs):=
 FK aN cr (xo _ _ h1) (by rw [u0];exact Mk (m:=m) (by simp) hl n0) aw h0 (by simpa using hl)
theorem afs[a1]{fs:List Field}{s bu:Nat}{zv:Value}(aN:ba P t (.struct fs.toArray) s bu zv){places:List (Nat×Nat)}(bO:(fs.mapM fun f=>(P.info? f.type).map fun i=>(f.offset,i.size))=some places){parts:Array (Nat×Operand)}{vs:List Value}(h1:iP L (parts.toList.map (·.2))=some vs)
  (bw:Instr.fill (places.toArray[·]?) zv.cells (List.zip (parts.toList.map (·.1)) vs)=some vs.toArray) :
  bR P n w0 zs hs L ⟨d,.build t parts,ty,pos,af,g⟩ (.agg vs.toArray):=
 qP (xo _ _ h1) (Jk aN bO bw)
theorem R9{e sT:TypeId}{s bu:Nat}{zv:Value}(aN:ba P t (.slice e) s bu zv){de:TypeDesc}{be:Nat}{ze:Value}(cr:ba P e de 1 be ze){w:World}{b off dl dc:Nat}{bt:TypeId}{cs:List Value}(tx:List UInt8)(aw:w.heap[b]?=some (.cells cs.toArray bt (0,0)))(hl:off+dl≤cs.length)(ty:TypeId) :
  (Builtin.copy_ #[t,sT] ty #[.slice (some ⟨b,off,none⟩) dl dc,vs tx]).run P w=.ok (aA (min tx.length dl)) (w.setRow b (cs.take off++(tx.take (min tx.length dl)).map bn++cs.drop (off+min tx.length dl)).toArray):=by
 have fH:=run_storeCells_at P b off bt ((tx.take (min tx.length dl)).map bn) 0 cs.toArray w aw (by simp;omega) (by intro v bA;obtain ⟨_,_,rfl⟩:=List.mem_map.1 bA;rfl)
 simp only [Nat.add_zero] at fH
 have hm:∀ a b:Nat,Nat.min a b=min a b:=fun _ _=>rfl
 simp [Builtin.copy_,run_underlying aN.und,Builtin.lenOf,Builtin.firstCells,cr.sizeOf,hm]
 have eF:(cW tx).size=tx.length:=by simp [cW,ByteArray.size]
 rw [eF]
 have bL:List.take (min tx.length dl) (List.map (fun b=>Value.int IntKind.u8 ↑b.toNat) tx)=List.map bn (List.take (min tx.length dl) tx):=by rw [List.map_take]
 rw [bL,fH]
 have hlen:(List.map bn (List.take (min tx.length dl) tx)).length=min tx.length dl:=by simp
 rw [hlen]
 simp only [Result.andThen_ok,List.append_assoc,List.map_take]
 have:goInt ((min tx.length dl:Nat):Int)=aA (min (tx.length:Int) (dl:Int)):=by
  rw [show ((min tx.length dl:Nat):Int)=min (tx.length:Int) (dl:Int) by omega]
  rfl
 rw [this]
theorem WJ[a1]{e sT:TypeId}{s bu:Nat}{zv:Value}(aN:ba P t (.slice e) s bu zv){de:TypeDesc}{be:Nat}{ze:Value}(cr:ba P e de 1 be ze)(k:Nat)(ps:List (List Value)){b vt j dl dc:Nat}{bt:TypeId}{post:List Value}{xs tx:List UInt8}
  (h1:aW L x=some (.slice (some ⟨b,vt+j*1,none⟩) dl dc)) (ar:aW L y=some (vs tx)) (aE:hs[k]?=some (.blk b bt (hM ps (xs.map bn++post)))) (cH:vt=mO ps) (hl:j+dl≤xs.length) :
  fJ P n w0 zs hs L ⟨d,.call ⟨.builtin .copy,#[x,y],#[t,sT]⟩,ty,pos,af,g⟩ (fun v zs' hs'=>v=aA (min tx.length dl)∧zs'=zs∧hs'=hs.set k (.blk b bt (hM ps ((xs.take j++(tx.take (min tx.length dl)++xs.drop (j+min tx.length dl))).map bn++post)))):=
 ka fun a bg w hw=>by
  subst cH
  have aw:=(hw.own _ (List.mem_of_getElem? aE)).1
  have aY:=R9 (sT:=sT) aN cr (w:=w) (off:=mO ps+j*1) (dl:=dl) (dc:=dc) tx aw.2 (by rw [oA,oz];simp;omega) ty
  have he:(List.take (mO ps+j*1) (hM ps (xs.map bn++post))++List.map bn (List.take (min tx.length dl) tx)++List.drop (mO ps+j*1+min tx.length dl) (hM ps (xs.map bn++post)))=hM ps ((xs.take j++(tx.take (min tx.length dl)++xs.drop (j+min tx.length dl))).map bn++post):=by
   rw [oA,oA,oz,Nat.mul_one,List.take_length_add_append,Nat.add_assoc,List.drop_length_add_append,List.take_append_of_le_length (by simp;omega),List.drop_append_of_le_length (by simp;omega)]
   simp
  have U:=hw.store (off:=mO ps+j*1) (c:=(tx.take (min tx.length dl)).map bn) aE (by rw [oA,oz];simp;omega)
  rw [show ((tx.take (min tx.length dl)).map bn).length=min tx.length dl by simp] at U
  rw [he] at aY U
  generalize w.setRow b _=mm at aY U
  refine ⟨_,zs,_,_,.inl ?_,⟨rfl,rfl,rfl⟩,U⟩
  simp only [Nat.mul_one] at aY
  simp only [execOp,resolve]
  simp [invoke,builtin,bg.eval h1,bg.eval ar,aY]
end
end Go.aK
end
