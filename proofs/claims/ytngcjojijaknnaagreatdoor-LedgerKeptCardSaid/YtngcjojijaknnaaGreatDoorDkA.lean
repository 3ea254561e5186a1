/- walks and plain laws -/
import Derived.Test.YtngcjojijaknnaaGreatDoorFwA
import Derived.Test.YtngcjojijaknnaaGreatDoorFwD
set_option linter.all false
section
namespace ak
open Go Go.aK
structure eB where
 tx:List UInt8
 nx:List UInt8
 dt:Bool
 wn:Bool
structure aX where
 s:List eB
 off:Bool
 left:Int
def b3:eB:=⟨[],[],false,false⟩
def z64:List UInt8:=List.replicate 64 0
def aX.at(S:aX)(i:Int):eB:=S.s.getD i.toNat b3
def aX.put(S:aX)(i:Int)(x:eB):aX:=⟨S.s.set i.toNat x,S.off,S.left⟩
def new(n:Nat):aX:=⟨List.replicate n ⟨z64,[],false,false⟩,false, -1⟩
def gR(p:Int):Nat:=(max 0 (min p 64)).toNat
def iQ(x:eB)(p:Int):eB:=⟨if x.wn then x.tx else x.nx.take (gR p)++x.tx.drop (gR p),[],false,x.wn⟩
def check(S:aX)(i:Int):Int:=if S.off then 23 else if 0≤i∧i<S.s.length then 0 else 1
def step(S:aX):aX×Int:=if S.left=0 then (⟨S.s,true,S.left⟩,23) else if 0<S.left then (⟨S.s,S.off,S.left-1⟩,0) else (S,0)
def read(S:aX)(i:Int):List UInt8×Int:=if check S i=0 then (if (S.at i).dt then (S.at i).nx else (S.at i).tx,0) else ([],check S i)
def mark(S:aX)(i:Int)(t:List UInt8):aX:=S.put i ⟨(S.at i).tx,t,true,(S.at i).wn⟩
def write(S:aX)(i:Int)(t:List UInt8):aX×Int:=
 if check S i≠0 then (S,check S i) else if t.length≠64 then (S,1) else if (step S).2≠0 then step S else (mark (step S).1 i t,0)
def kr(ps:List Int)(k:Nat):Int:=if k<ps.length then ps.getD k 0 else 64
def k8(ps:List Int)(m:Nat):Nat→List eB→List eB
 | _,[]=>[]
 | k,x::l=>if x.dt then (if k<m then iQ x (kr ps k) else x)::k8 ps m (k+1) l else x::k8 ps m k l
def fr(ps:List Int):Nat→List eB→List eB
 | _,[]=>[]
 | k,x::l=>if x.dt then iQ x (kr ps k)::fr ps (k+1) l else x::fr ps k l
def flush(S:aX):aX×Int:=if S.off then (S,23) else if (step S).2≠0 then step S else (⟨fr [] 0 (step S).1.s,(step S).1.off,(step S).1.left⟩,0)
def e6(S:aX)(ps:List Int):aX:=⟨fr ps 0 S.s,false, -1⟩
def dx(S:aX)(n:Int):aX:=⟨S.s,S.off,max (-1) n⟩
def uz(b:Int):UInt8:=hI (((1:UInt8).toNat:Int)*2^(min (b%8).toNat 8))
def flip(t:List UInt8)(b:Int):List UInt8:=t.set (b/8).toNat (t.getD (b/8).toNat 0 ^^^ uz b)
def hi(S:aX)(i b:Int):aX×Int:=if (0≤i∧i<S.s.length)∧0≤b∧b<512 then (S.put i ⟨flip (S.at i).tx b,(S.at i).nx,(S.at i).dt,(S.at i).wn⟩,0) else (S,1)
def lj(S:aX)(i:Int):aX×Int:=if 0≤i∧i<S.s.length then (S.put i ⟨(S.at i).tx,(S.at i).nx,(S.at i).dt,true⟩,0) else (S,1)
def image(S:aX):List (List UInt8):=S.s.map (·.tx)
def fK(p:eB→Bool):Nat→List eB→List Int
 | _,[]=>[]
 | k,x::l=>if p x then (k:Int)::fK p (k+1) l else fK p (k+1) l
def iv(S:aX):List Int:=fK (·.dt) 0 S.s
def arx(S:aX):List Int:=fK (·.wn) 0 S.s
structure Op where
 k:Int
 i:Int
 b:Int
 t:List UInt8
 ps:List Int
def fill:Nat→List UInt8→List UInt8
 | 0,s=>s
 | f+1,s=>if 0<s.length∧s.length<64 then fill f (s++s.drop (s.length-1)) else s
def JP(t:List UInt8):List UInt8:=fill 64 t
def act(S:aX)(o:Op):aX×List UInt8×Int:=
 if o.k=1 then ((write S o.i (JP o.t)).1,[],(write S o.i (JP o.t)).2)
 else if o.k=2 then (S,read S o.i)
 else if o.k=3 then ((flush S).1,[],(flush S).2)
 else if o.k=4 then (dx S o.i,[],0)
 else if o.k=5 then (e6 S o.ps,[],0)
 else if o.k=6 then ((hi S o.i o.b).1,[],(hi S o.i o.b).2)
 else if o.k=7 then ((lj S o.i).1,[],(lj S o.i).2)
 else (S,[],0)
def qi(x:eB):Prop:=x.tx.length=64∧(x.dt=true→x.nx.length=64)∧x.nx.length≤64
structure Ok (S:aX):Prop where
 sec:∀ x∈S.s,qi x
 lo:1≤S.s.length
 aH:S.s.length≤4096
 lf : -1≤S.left
 iM:S.left≤9223372036854775807
theorem at_mem{S:aX}{i:Int}(h:0≤i∧i<S.s.length):S.at i∈S.s:=by
 unfold aX.at
 rw [List.getD_eq_getElem?_getD,List.getElem?_eq_getElem ag]
 exact List.getElem_mem _
theorem Ok.at{S:aX}(h:Ok S){i:Int}(aH:0≤i∧i<S.s.length):qi (S.at i):=h.sec _ (at_mem aH)
theorem Ok.put{S:aX}(h:Ok S){i:Int}{x:eB}(aM:qi x):Ok (S.put i x):=by
 refine ⟨fun y cZ=>?_,by simpa [aX.put] using h.lo,by simpa [aX.put] using h.aH,h.lf,h.iM⟩
 rcases List.mem_or_eq_of_mem_set cZ with h1 | rfl
 ·exact h.sec y h1
 ·exact aM
theorem qN(S:aX)(i:Int)(x:eB):(S.put i x).s.length=S.s.length:=by simp [aX.put]
theorem Ah{S:aX}{i j:Int}{x:eB}(aH:0≤i∧i<S.s.length)(aV:0≤j):(S.put i x).at j=if j=i then x else S.at j:=by
 unfold aX.put aX.at
 dsimp only
 rw [List.getD_eq_getElem?_getD,List.getElem?_set]
 by_cases h:j=i
 ·subst h
  rw [if_pos rfl,if_pos rfl,if_pos ag];rfl
 ·rw [if_neg h,if_neg ag]
  rw [List.getD_eq_getElem?_getD]
theorem VK(p:Int):gR p≤64:=by unfold gR;omega
theorem JC{x:eB}(h:qi x)(aT:x.dt=true)(p:Int):qi (iQ x p):=by
 have:=VK p
 refine ⟨?_,fun h=>(by cases h),Nat.zero_le _⟩
 unfold iQ
 dsimp only
 split
 ·exact h.1
 ·rw [List.length_append,List.length_take,List.length_drop,h.1,h.2.1 aT];omega
theorem Dg(ps:List Int):∀ (l:List eB) (k:Nat),(∀ x∈l,qi x)→∀ x∈fr ps k l,qi x
 | [],_,_,x,aM=>by cases aM
 | y::l,k,h,x,aM=>by
  unfold fr at aM
  split at aM
  ·rename_i aT
   rcases List.mem_cons.1 aM with rfl | aM
   ·exact JC (h y List.mem_cons_self) aT _
   ·exact Dg ps l _ (fun z bj=>h z (List.mem_cons_of_mem _ bj)) x aM
  ·rcases List.mem_cons.1 aM with rfl | aM
   ·exact h _ List.mem_cons_self
   ·exact Dg ps l _ (fun z bj=>h z (List.mem_cons_of_mem _ bj)) x aM
theorem m8(ps:List Int):∀ (l:List eB) (k:Nat),(fr ps k l).length=l.length
 | [],_=>rfl
 | x::l,k=>by
  unfold fr
  split <;> rw [List.length_cons,List.length_cons,m8 ps l]
theorem IE{n:Nat}(h1:1≤n)(ar:n≤4096):Ok (new n):=by
 refine ⟨fun x aM=>?_,by simpa [new] using h1,by simpa [new] using ar,(by show (-1:Int) ≤ -1;decide),(by show (-1:Int)≤_;decide)⟩
 rw [(List.mem_replicate.1 aM).2]
 exact ⟨rfl,fun h=>(by cases h),Nat.zero_le _⟩
theorem D6(S:aX):(step S).1.s=S.s:=by unfold step;split <;> (try split) <;> rfl
theorem iO{S:aX}(h:Ok S):Ok (step S).1:=by
 have:=h.lf;have:=h.iM
 unfold step
 split
 ·exact ⟨h.sec,h.lo,h.aH,h.lf,h.iM⟩
 ·split
  ·exact ⟨h.sec,h.lo,h.aH,by dsimp only;omega,by dsimp only;omega⟩
  ·exact h
theorem P8{S:aX}(h:Ok S){i:Int}(aH:0≤i∧i<S.s.length){t:List UInt8}(aN:t.length=64):Ok (mark S i t):=
 h.put ⟨(h.at aH).1,fun _=>aN,by dsimp only;omega⟩
theorem BT{S:aX}{i:Int}(h:check S i=0):S.off=false∧0≤i∧i<S.s.length:=by
 unfold check at h
 split at h
 ·cases h
 ·rename_i cH
  split at h
  ·rename_i aH;exact ⟨by simpa using cH,aH⟩
  ·cases h
theorem aeK{S:aX}(h:Ok S)(i:Int)(t:List UInt8):Ok (write S i t).1:=by
 unfold write
 split
 ·exact h
 ·rename_i bq
  have bq:=BT (by omega:check S i=0)
  split
  ·exact h
  ·split
   ·exact iO h
   ·exact P8 (iO h) (by rw [D6];exact bq.2) ag
theorem P9{S:aX}(h:Ok S)(ps:List Int){o:Bool}{l:Int}(h1 : -1≤l)(ar:l≤9223372036854775807):Ok ⟨fr ps 0 S.s,o,l⟩:=
 ⟨Dg ps _ _ h.sec,by dsimp only;rw [m8];exact h.lo,by dsimp only;rw [m8];exact h.aH,h1,ar⟩
theorem ID{S:aX}(h:Ok S):Ok (flush S).1:=by
 unfold flush
 split
 ·exact h
 ·split
  ·exact iO h
  ·exact P9 (iO h) _ (iO h).lf (iO h).iM
theorem xn{S:aX}(h:Ok S)(ps:List Int):Ok (e6 S ps):=P9 h ps a8 a8
theorem Dx{S:aX}(h:Ok S){n:Int}(bD:n≤9223372036854775807):Ok (dx S n):=⟨h.sec,h.lo,h.aH,by unfold dx;dsimp only;omega,by unfold dx;dsimp only;omega⟩
theorem Mv(t:List UInt8)(b:Int):(flip t b).length=t.length:=by simp [flip]
theorem aeJ{S:aX}(h:Ok S)(i b:Int):Ok (hi S i b).1:=by
 unfold hi
 split
 ·rename_i aH
  have:=h.at aH.1
  exact h.put ⟨by rw [Mv];exact this.1,this.2⟩
 ·exact h
def kd(S:aX)(i:Int):Option Value:=if (0≤i∧i<S.s.length)∧(S.at i).dt=true then some (yE (S.at i).nx) else none
def p9(S:aX)(i:Int):Option Value:=if (0≤i∧i<S.s.length)∧(S.at i).wn=true then some (.bool true) else none
def jP(f:Int→Option Value)(l:List (Int×Value)):Prop:=(l.map (·.1)).Nodup∧∀ i,gv l i=f i
theorem Nh(a:Int):∀ (l:List (Int×Value)) (i:Nat),gI a l (i+1)=(gI a l i).map fun p=>(p.1+1,p.2)
 | [],_=>rfl
 | p::l,i=>by
  unfold gI
  split
  ·rfl
  ·exact Nh a l (i+1)
theorem UM(a:Int)(p:Int×Value)(l:List (Int×Value)):pD a (p::l)=if a=p.1 then l else p::pD a l:=by
 unfold pD
 rw [gI]
 by_cases h:a=p.1
 ·rw [if_pos h,if_pos h];rfl
 ·rw [if_neg h,if_neg h,Nh]
  cases gI a l 0 with
  | none=>rfl
  | some q=>rfl
theorem Ld(a b:Int):∀ {l:List (Int×Value)},(l.map (·.1)).Nodup→gv (pD a l) b=if b=a then none else gv l b
 | [],_=>by show none=_;rw [show gv ([]:List (Int×Value)) b=none from rfl];split <;> rfl
 | p::l,h=>by
  rw [List.map_cons,List.nodup_cons] at h
  have ih:=Ld a b h.2
  have bD:gv l p.1=none:=by
   cases aP:gv l p.1 with
   | none=>rfl
   | some v=>
    exfalso
    unfold gv at aP
    cases bw:gI p.1 l 0 with
    | none=>rw [bw] at aP;cases aP
    | some q=>
     have:=Ge bw
     rw [Nat.sub_zero,← List.getElem?_map] at this
     exact h.1 (List.mem_of_getElem? this)
  rw [UM,rh]
  by_cases h1:a=p.1
  ·rw [if_pos h1]
   by_cases ar:b=a
   ·rw [if_pos ar,ar,h1,bD]
   ·rw [if_neg ar,if_neg (fun e=>ar (e.trans h1.symm))]
  ·rw [if_neg h1,rh,ih]
   by_cases ar:b=p.1
   ·rw [if_pos ar,if_pos ar,if_neg (fun e=>h1 (e.symm.trans ar))]
   ·rw [if_neg ar,if_neg ar]
theorem jP.put{f g:Int→Option Value}{l:List (Int×Value)}(h:jP f l){a:Int}{v:Value}(aP:∀ i,g i=if i=a then some v else f i):jP g (iG a v l):=
 ⟨Ff h.1,fun i=>by rw [uv,aP,h.2]⟩
theorem jP.del{f g:Int→Option Value}{l:List (Int×Value)}(h:jP f l){a:Int}(aP:∀ i,g i=if i=a then none else f i):jP g (pD a l):=
 ⟨(UN h.1 (a:=a) (y:=a)).2,fun i=>by rw [Ld a i h.1,aP,h.2]⟩
theorem jP.nil{f:Int→Option Value}(h:∀ i,f i=none):jP f []:=⟨by simp,fun i=>(h i).symm⟩
theorem jP.eq{f g:Int→Option Value}{l:List (Int×Value)}(h:jP f l)(e:∀ i,g i=f i):jP g l:=⟨h.1,fun i=>(h.2 i).trans (e i).symm⟩
theorem jP.mem{f:Int→Option Value}:∀ {l:List (Int×Value)},jP f l→∀ i,i∈l.map (·.1)↔(f i).isSome=true:=by
 intro l h i
 rw [← h.2 i]
 have:∀ l:List (Int×Value),i∈l.map (·.1)↔(gv l i).isSome=true:=by
  intro l
  induction l with
  | nil=>simp [gv,gI]
  | cons p l ih=>
   rw [rh,List.map_cons,List.mem_cons]
   by_cases h:i=p.1
   ·rw [if_pos h];simp [h]
   ·rw [if_neg h,← ih];simp [h]
 exact this l
theorem C7(p:eB→Bool):∀ (l:List eB) (k:Nat) (i:Int),i∈fK p k l↔((k:Int)≤i∧i<k+l.length)∧p (l.getD (i-k).toNat b3)=true
 | [],k,i=>by simp [fK];intro h1 ar;omega
 | x::l,k,i=>by
  unfold fK
  have ih:=C7 p l (k+1) i
  have hlen:(x::l).length=l.length+1:=rfl
  have key:i∈fK p (k+1) l↔((k:Int)+1≤i∧i<k+(x::l).length)∧p ((x::l).getD (i-k).toNat b3)=true:=by
   rw [ih,hlen]
   constructor
   ·rintro ⟨⟨h1,ar⟩,aQ⟩
    refine ⟨⟨by omega,by omega⟩,?_⟩
    rw [show (i-(k:Int)).toNat=(i-((k+1:Nat):Int)).toNat+1 by omega,List.getD_cons_succ]
    exact aQ
   ·rintro ⟨⟨h1,ar⟩,aQ⟩
    refine ⟨⟨by omega,by omega⟩,?_⟩
    rw [show (i-(k:Int)).toNat=(i-((k+1:Nat):Int)).toNat+1 by omega,List.getD_cons_succ] at aQ
    exact aQ
  by_cases aE:i=k
  ·have jU:(x::l).getD (i-(k:Int)).toNat b3=x:=by rw [aE,Int.sub_self];rfl
   rw [jU]
   constructor
   ·intro h
    refine ⟨⟨by omega,by rw [hlen];omega⟩,?_⟩
    split at h
    ·assumption
    ·have:=(key.1 h).1.1;omega
   ·rintro ⟨_,h⟩
    rw [if_pos h,aE];exact List.mem_cons_self
  ·split
   ·rw [List.mem_cons,key]
    constructor
    ·rintro (h | h)
     ·exact absurd h aE
     ·exact ⟨⟨by omega,h.1.2⟩,h.2⟩
    ·rintro ⟨h1,ar⟩
     exact .inr ⟨⟨by omega,h1.2⟩,ar⟩
   ·rw [key]
    constructor
    ·rintro h;exact ⟨⟨by omega,h.1.2⟩,h.2⟩
    ·rintro ⟨h1,ar⟩;exact ⟨⟨by omega,h1.2⟩,ar⟩
theorem H7(p:eB→Bool):∀ (l:List eB) (k:Nat),(fK p k l).Pairwise (fun a b=>a<b)
 | [],_=>List.Pairwise.nil
 | x::l,k=>by
  unfold fK
  split
  ·refine List.pairwise_cons.2 ⟨fun b aw=>?_,H7 p l (k+1)⟩
   have:=(C7 p l (k+1) b).1 aw
   omega
  ·exact H7 p l (k+1)
theorem H6(p:eB→Bool):∀ (l:List eB) (k:Nat),(fK p k l).length≤l.length
 | [],_=>Nat.le_refl _
 | x::l,k=>by
  have:=H6 p l (k+1)
  unfold fK
  split <;> simp only [List.length_cons] <;> omega
theorem ah1(p:eB→Bool)(l:List eB)(k:Nat){ks:List Int}(bD:ks.Nodup)(hm:∀ i,i∈ks↔i∈fK p k l):ks.mergeSort (fun x y=>decide (x≤y))=fK p k l:=by
 have hs:=H7 p l k
 have gx:(fK p k l).Nodup:=hs.imp fun h e=>by omega
 have bO:ks.Perm (fK p k l):=(List.perm_ext_iff_of_nodup bD gx).2 hm
 have tr:∀ a b c:Int,decide (a≤b)=true→decide (b≤c)=true→decide (a≤c)=true:=fun a b c h1 ar=>by simp only [decide_eq_true_eq] at *;omega
 have to:∀ a b:Int,(decide (a≤b) || decide (b≤a))=true:=fun a b=>by simp only [Bool.or_eq_true,decide_eq_true_eq];omega
 refine List.Perm.eq_of_pairwise (le:=fun a b=>decide (a≤b)=true) (fun a b _ _ h1 ar=>?_) (List.pairwise_mergeSort tr to ks) (hs.imp fun h=>by simp only [decide_eq_true_eq];omega) ((List.mergeSort_perm ks _).trans bO)
 simp only [decide_eq_true_eq] at h1 ar
 omega
theorem Wp(S:aX)(i:Int):i∈iv S↔(kd S i).isSome=true:=by
 unfold iv kd aX.at
 rw [C7]
 simp only [Int.ofNat_zero,Int.zero_add,Int.sub_zero]
 constructor
 ·intro h;rw [if_pos (by simpa using h)];rfl
 ·intro h
  split at h
  ·rename_i h1;simpa using h1
  ·cases h
theorem O2{S:aX}{l:List (Int×Value)}(h:jP (kd S) l):(l.map (·.1)).mergeSort (fun x y=>decide (x≤y))=iv S:=ah1 _ _ _ h.1 fun i=>by rw [h.mem i];exact (Wp S i).symm
end ak
end
section
namespace ak
open Go Go.aK
def o8(x:eB):List Value:=[vs x.tx,vs x.nx,.bool x.dt,.bool x.wn]
theorem lN(x:eB):(o8 x).length=4:=rfl
theorem JA(x:eB):∀ u∈o8 x,u.oneCell'=true:=fun u hu=>by
 simp only [o8,List.mem_cons,List.not_mem_nil,or_false] at hu
 rcases hu with rfl | rfl | rfl | rfl <;> rfl
structure hT where
 b:Nat
 v:Value
 p:Nat
 w:Nat
def bl(S:aX):List (List UInt8):=S.s.map (·.tx)
theorem nB(S:aX):(bl S).length=S.s.length:=by simp [bl]
theorem nZ{S:aX}(h:Ok S):∀ x∈bl S,x.length=64:=fun x aM=>by
 obtain ⟨y,cZ,rfl⟩:=List.mem_map.1 aM
 exact (h.sec y cZ).1
theorem wk{S:aX}{i:Int}(h:0≤i∧i<S.s.length):(bl S).getD i.toNat []=(S.at i).tx:=by
 unfold bl aX.at
 rw [List.getD_eq_getElem?_getD,List.getD_eq_getElem?_getD,List.getElem?_map,List.getElem?_eq_getElem ag]
 rfl
theorem Fj{S:aX}(i:Int)(x:eB):bl (S.put i x)=(bl S).set i.toNat x.tx:=by
 unfold bl aX.put
 rw [List.map_set]
theorem Fk{S:aX}{i:Int}{x:eB}(h:0≤i∧i<S.s.length)(he:x.tx=(S.at i).tx):bl (S.put i x)=bl S:=by
 rw [Fj,he,← wk h]
 apply List.ext_getElem?
 intro j
 rw [List.getElem?_set]
 split
 ·rename_i e
  rw [← e,List.getD_eq_getElem?_getD]
  rw [if_pos (by rw [nB];omega),List.getElem?_eq_getElem (by rw [nB];omega)]
  rfl
 ·rfl
theorem adF{S:aX}{i:Int}(h:0≤i∧i<S.s.length)(t:List UInt8):bl (mark S i t)=bl S:=Fk h rfl
theorem Pz(S:aX)(i:Int)(t:List UInt8):(mark S i t).s.length=S.s.length:=qN _ _ _
def mV(lr lq:TypeId)(h:hT)(S:aX)(cm cR eW e2:aC):Prop:=
 ∃ (l:Int) (bL:List MapEntry) (hV:Nat) (hQ:List (Int×Value)) (bT:List MapEntry) (h5:Nat) (hr:List (Int×Value)),
  Ok S∧max (-1) l=S.left ∧ -9223372036854775808≤l∧ll aA hQ bL hV∧ll aA hr bT h5∧jP (kd S) hQ∧jP (p9 S) hr ∧
  cm=.blk h.b lr [h.v,.map (some h.p),.map (some h.w),.bool S.off,aA l]∧cR=.row h.v lq 64 S.s.length ((bl S).flatten.map bn)∧eW=.mp h.p bL hV∧e2=.mp h.w bT h5
def EI(lr lq:TypeId)(h:hT)(S:aX)(v:Value):Value→List aR→List aC→Prop:=fun r zs hs=>r=v∧zs=[]∧∃ cu ct cx cz,hs=[cu,ct,cx,cz]∧mV lr lq h S cu ct cx cz
theorem jl{lr lq:TypeId}{h:hT}{S pz:aX}{v dr r:Value}{zs:List aR}{hs:List aC}(aT:EI lr lq h S v r zs hs)(bL:S=pz)(bT:v=dr):EI lr lq h pz dr r zs hs:=bL ▸ bT ▸ aT
def yy(lX jQ:TypeId)(b:Nat)(S:aX)(cm cR:aC):Prop:=∃ v,Ok S∧cm=.blk b lX [v,.bool S.off,aA S.left]∧cR=.row v jQ 4 S.s.length (S.s.flatMap o8)
def akw(lX jQ:TypeId)(b:Nat)(S:aX)(v:Value):Value→List aR→List aC→Prop:=fun r zs hs=>r=v∧zs=[]∧∃ cu ct,hs=[cu,ct]∧yy lX jQ b S cu ct
theorem mV.ok{lr lq:TypeId}{h:hT}{S:aX}{cm cR eW e2:aC}(dz:mV lr lq h S cm cR eW e2):Ok S:=by
 obtain ⟨_,_,_,_,_,_,_,h,_⟩:=dz;exact h
theorem yy.ok{lX jQ:TypeId}{b:Nat}{S:aX}{cm cR:aC}(dz:yy lX jQ b S cm cR):Ok S:=by
 obtain ⟨_,h,_⟩:=dz;exact h
theorem wo{S:aX}{i:Int}(h:S.off=true):check S i=23:=by unfold check;rw [if_pos h]
theorem BU{S:aX}{i:Int}(h:¬ S.off=true)(aH:¬ (0≤i∧i<S.s.length)):check S i=1:=by unfold check;rw [if_neg h,if_neg aH]
theorem pG{S:aX}{i:Int}(h:¬ S.off=true)(aH:0≤i∧i<S.s.length):check S i=0:=by unfold check;rw [if_neg h,if_pos aH]
theorem AS{S:aX}(h:S.left=0):step S=(⟨S.s,true,S.left⟩,23):=by unfold step;rw [if_pos h]
theorem D5{S:aX}(h:0<S.left):step S=(⟨S.s,S.off,S.left-1⟩,0):=by unfold step;rw [if_neg ag,if_pos h]
theorem xU{S:aX}(h:S.left<0):step S=(S,0):=by unfold step;rw [if_neg ag,if_neg ag]
theorem I8{S:aX}{i:Int}(h:check S i≠0):read S i=([],check S i):=by unfold read;rw [if_neg h]
theorem RD{S:aX}{i:Int}(h:check S i=0)(aT:(S.at i).dt=true):read S i=((S.at i).nx,0):=by unfold read;rw [if_pos h,if_pos aT]
theorem AF{S:aX}{i:Int}(h:check S i=0)(aT:¬ (S.at i).dt=true):read S i=((S.at i).tx,0):=by unfold read;rw [if_pos h,if_neg aT]
theorem Bk{S:aX}{i:Int}{t:List UInt8}(h:check S i≠0):write S i t=(S,check S i):=by unfold write;rw [if_pos h]
theorem Kd{S:aX}{i:Int}{t:List UInt8}(h:check S i=0)(ar:t.length≠64):write S i t=(S,1):=by unfold write;rw [if_neg ag,if_pos ar]
theorem vU{S:aX}{i:Int}{t:List UInt8}(h:check S i=0)(ar:t.length=64)(aQ:(step S).2≠0):write S i t=step S:=by unfold write;rw [if_neg ag,if_neg ag,if_pos aQ]
theorem vV{S:aX}{i:Int}{t:List UInt8}(h:check S i=0)(ar:t.length=64)(aQ:(step S).2=0):write S i t=(mark (step S).1 i t,0):=by unfold write;rw [if_neg ag,if_neg ag,if_neg ag]
def jO:Value:=.agg (List.replicate 64 (Value.int .u8 0)).toArray
theorem ajR:jO=yE z64:=by unfold jO yE z64;rw [List.map_replicate];rfl
def tn(S:aX)(i:Int):List UInt8:=if (S.at i).dt=true then (S.at i).nx else z64
theorem Qo{S:aX}{m:List (Int×Value)}(h:jP (kd S) m){i:Int}(aH:0≤i∧i<S.s.length):(gv m i).getD jO=yE (tn S i):=by
 rw [h.2]
 unfold kd tn
 by_cases aT:(S.at i).dt=true
 ·rw [if_pos ⟨aH,aT⟩,if_pos aT];rfl
 ·rw [if_neg (fun e=>aT e.2),if_neg aT];exact ajR
theorem ae8{S:aX}{m:List (Int×Value)}(h:jP (kd S) m){i:Int}(aH:0≤i∧i<S.s.length):(gv m i).isSome=(S.at i).dt:=by
 rw [h.2]
 unfold kd
 by_cases aT:(S.at i).dt=true
 ·rw [if_pos ⟨aH,aT⟩,aT];rfl
 ·rw [if_neg (fun e=>aT e.2)]
  cases he:(S.at i).dt with
  | true=>exact absurd he aT
  | false=>rfl
theorem ajM{S:aX}{m:List (Int×Value)}(h:jP (p9 S) m){i:Int}(aH:0≤i∧i<S.s.length):(gv m i).getD (.bool false)=.bool (S.at i).wn:=by
 rw [h.2]
 unfold p9
 by_cases aT:(S.at i).wn=true
 ·rw [if_pos ⟨aH,aT⟩,aT];rfl
 ·rw [if_neg (fun e=>aT e.2)]
  cases he:(S.at i).wn with
  | true=>exact absurd he aT
  | false=>rfl
theorem IH{S:aX}{i:Int}(h:(S.at i).dt=true):tn S i=(S.at i).nx:=by unfold tn;rw [if_pos h]
theorem Qr{S:aX}(h:Ok S){i:Int}(aH:0≤i∧i<S.s.length):(tn S i).length=64:=by
 unfold tn
 split
 ·exact (h.at aH).2.1 ‹_›
 ·rfl
theorem ae9{S:aX}{i:Int}(aH:0≤i∧i<S.s.length)(t:List UInt8)(j:Int):kd (mark S i t) j=if j=i then some (yE t) else kd S j:=by
 unfold kd mark
 rw [qN]
 by_cases aV:0≤j
 ·rw [Ah aH aV]
  by_cases h:j=i
  ·rw [if_pos h,if_pos h,if_pos ⟨h ▸ aH,rfl⟩]
  ·rw [if_neg h,if_neg h]
 ·rw [if_neg (fun e=>aV e.1.1),if_neg (fun e:j=i=>aV (e ▸ aH.1)),if_neg (fun e=>aV e.1.1)]
theorem Ez{S:aX}{i:Int}(aH:0≤i∧i<S.s.length){x:eB}(aM:x.wn=(S.at i).wn)(j:Int):p9 (S.put i x) j=p9 S j:=by
 unfold p9
 rw [qN]
 by_cases aV:0≤j
 ·rw [Ah aH aV]
  by_cases h:j=i
  ·rw [if_pos h,h,aM]
  ·rw [if_neg h]
 ·rw [if_neg (fun e=>aV e.1.1),if_neg (fun e=>aV e.1.1)]
theorem Qp{S:aX}{i:Int}(aH:0≤i∧i<S.s.length){x:eB}(aM:x.dt=(S.at i).dt)(bD:x.nx=(S.at i).nx)(j:Int):kd (S.put i x) j=kd S j:=by
 unfold kd
 rw [qN]
 by_cases aV:0≤j
 ·rw [Ah aH aV]
  by_cases h:j=i
  ·rw [if_pos h,h,aM,bD]
  ·rw [if_neg h]
 ·rw [if_neg (fun e=>aV e.1.1),if_neg (fun e=>aV e.1.1)]
theorem Qq{S:aX}{i:Int}(aH:0≤i∧i<S.s.length){x:eB}(aM:x.dt=false)(j:Int):kd (S.put i x) j=if j=i then none else kd S j:=by
 unfold kd
 rw [qN]
 by_cases aV:0≤j
 ·rw [Ah aH aV]
  by_cases h:j=i
  ·rw [if_pos h,if_pos h,aM,if_neg (by simp)]
  ·rw [if_neg h,if_neg h]
 ·rw [if_neg (fun e=>aV e.1.1),if_neg (fun e:j=i=>aV (e ▸ aH.1)),if_neg (fun e=>aV e.1.1)]
theorem ajN{S:aX}{i:Int}(aH:0≤i∧i<S.s.length){x:eB}(aM:x.wn=true)(j:Int):p9 (S.put i x) j=if j=i then some (.bool true) else p9 S j:=by
 unfold p9
 rw [qN]
 by_cases aV:0≤j
 ·rw [Ah aH aV]
  by_cases h:j=i
  ·rw [if_pos h,if_pos h,if_pos ⟨h ▸ aH,aM⟩]
  ·rw [if_neg h,if_neg h]
 ·rw [if_neg (fun e=>aV e.1.1),if_neg (fun e:j=i=>aV (e ▸ aH.1)),if_neg (fun e=>aV e.1.1)]
theorem Su(S:aX)(i p:Int):(S.put i (iQ (S.at i) p)).s.length=S.s.length:=qN _ _ _
theorem ahR{S:aX}{i:Int}(aH:0≤i∧i<S.s.length)(aT:(S.at i).dt=true)(hw:(S.at i).wn=false)(p:Int):(bl S).set i.toNat ((tn S i).take (max 0 (min p 64)).toNat++((bl S).getD i.toNat []).drop (max 0 (min p 64)).toNat)=bl (S.put i (iQ (S.at i) p)):=by
 rw [Fj,wk aH,IH aT]
 unfold iQ gR
 rw [if_neg (by rw [hw];simp)]
theorem ahS{S:aX}(bC:Ok S){i:Int}(aH:0≤i∧i<S.s.length)(aT:(S.at i).dt=true)(h:(S.at i).wn=true∨tn S i=(bl S).getD i.toNat [])(p:Int):bl S=bl (S.put i (iQ (S.at i) p)):=by
 refine (Fk aH ?_).symm
 unfold iQ
 dsimp only
 split
 ·rfl
 ·rename_i hw
  rcases h with h | h
  ·exact absurd h hw
  ·rw [IH aT,wk aH] at h
   rw [h,List.take_append_drop]
theorem AK{S:aX}{i b:Int}(h:0≤i∧i<S.s.length)(aw:0≤b∧b<512):hi S i b=(S.put i ⟨flip (S.at i).tx b,(S.at i).nx,(S.at i).dt,(S.at i).wn⟩,0):=by unfold hi;rw [if_pos ⟨h,aw⟩]
theorem xJ{S:aX}{i b:Int}(h:¬ ((0≤i∧i<S.s.length)∧0≤b∧b<512)):hi S i b=(S,1):=by unfold hi;rw [if_neg h]
theorem Es{S:aX}{i:Int}(h:0≤i∧i<S.s.length):lj S i=(S.put i ⟨(S.at i).tx,(S.at i).nx,(S.at i).dt,true⟩,0):=by unfold lj;rw [if_pos h]
theorem Er{S:aX}{i:Int}(h:¬ (0≤i∧i<S.s.length)):lj S i=(S,1):=by unfold lj;rw [if_neg h]
theorem ajr{S:aX}{i:Int}(h:0≤i∧i<S.s.length):bl (S.put i ⟨(S.at i).tx,(S.at i).nx,(S.at i).dt,true⟩)=bl S:=Fk h rfl
theorem ag5{S:aX}{i b:Int}(h:0≤i∧i<S.s.length):(bl S).set i.toNat (((bl S).getD i.toNat []).set (b/8).toNat (((bl S).getD i.toNat []).getD (b/8).toNat 0 ^^^ uz b))=bl (S.put i ⟨flip (S.at i).tx b,(S.at i).nx,(S.at i).dt,(S.at i).wn⟩):=by
 rw [Fj,wk h]
 rfl
end ak
end
section
namespace ak
open Go Go.aK
theorem PH(ps:List Int)(m:Nat):∀ (l:List eB) (k:Nat),(k8 ps m k l).length=l.length
 | [],_=>rfl
 | x::l,k=>by
  unfold k8
  split <;> rw [List.length_cons,List.length_cons,PH ps m l]
theorem xj(ps:List Int)(m:Nat):∀ (l:List eB) (k:Nat),m≤k→k8 ps m k l=l
 | [],_,_=>rfl
 | x::l,k,h=>by
  unfold k8
  split
  ·rw [if_neg ag,xj ps m l (k+1) ag]
  ·rw [xj ps m l k h]
theorem Im(ps:List Int)(m:Nat):∀ (l:List eB) (k q:Nat),k+(fK (·.dt) q l).length≤m→k8 ps m k l=fr ps k l
 | [],_,_,_=>rfl
 | x::l,k,q,h=>by
  unfold fK at h
  unfold k8 fr
  by_cases aT:x.dt=true
  ·rw [if_pos aT,List.length_cons] at h
   rw [if_pos aT,if_pos aT,if_pos ag,Im ps m l (k+1) (q+1) ag]
  ·rw [if_neg aT] at h
   rw [if_neg aT,if_neg aT,Im ps m l k (q+1) h]
theorem Io(ps:List Int)(m:Nat):∀ (l:List eB) (k q:Nat),k≤m→m<k+(fK (·.dt) q l).length →
  ∃ j,(fK (·.dt) q l).getD (m-k) 0=(q:Int)+(j:Nat)∧j<l.length∧(l.getD j b3).dt=true∧(k8 ps m k l).getD j b3=l.getD j b3∧k8 ps (m+1) k l=(k8 ps m k l).set j (iQ (l.getD j b3) (kr ps m))
 | [],k,q,_,h=>by simp [fK] at h;omega
 | x::l,k,q,aE,h=>by
  by_cases aT:x.dt=true
  ·have e:fK (·.dt) q (x::l)=(q:Int)::fK (·.dt) (q+1) l:=by rw [fK,if_pos aT]
   rw [e] at h ⊢
   rw [List.length_cons] at h
   by_cases hm:m=k
   ·subst hm
    refine ⟨0,by simp,by simp,aT,?_,?_⟩
    ·rw [xj ps m _ _ (Nat.le_refl _)]
    ·rw [xj ps m _ _ (Nat.le_refl _)]
     unfold k8
     rw [if_pos aT,if_pos ag,xj ps (m+1) l (m+1) (Nat.le_refl _)]
     rfl
   ·obtain ⟨j,h1,ar,aQ,bF,cO⟩:=Io ps m l (k+1) (q+1) ag ag
    refine ⟨j+1,?_,by simpa using ar,by simpa using aQ,?_,?_⟩
    ·rw [show m-k=(m-(k+1))+1 by omega,List.getD_cons_succ,h1];omega
    ·rw [k8,if_pos aT,List.getD_cons_succ,bF,List.getD_cons_succ]
    ·rw [k8,if_pos aT,k8,if_pos aT,cO,if_pos ag,if_pos ag,List.getD_cons_succ,List.set_cons_succ]
  ·have e:fK (·.dt) q (x::l)=fK (·.dt) (q+1) l:=by rw [fK,if_neg aT]
   rw [e] at h ⊢
   obtain ⟨j,h1,ar,aQ,bF,cO⟩:=Io ps m l k (q+1) aE h
   refine ⟨j+1,?_,by simpa using ar,by simpa using aQ,?_,?_⟩
   ·rw [h1];omega
   ·rw [k8,if_neg aT,List.getD_cons_succ,bF,List.getD_cons_succ]
   ·rw [k8,if_neg aT,k8,if_neg aT,cO,List.getD_cons_succ,List.set_cons_succ]
def kQ(S:aX)(ps:List Int)(j:Nat):aX:=⟨k8 ps j 0 S.s,S.off,S.left⟩
theorem PO(S:aX)(ps:List Int):kQ S ps 0=S:=by unfold kQ;rw [xj ps 0 _ _ (Nat.le_refl _)]
theorem aef(S:aX)(ps:List Int)(j:Nat):(kQ S ps j).s.length=S.s.length:=PH _ _ _ _
theorem PQ(S:aX)(ps:List Int){j:Nat}(h:(iv S).length≤j):kQ S ps j=⟨fr ps 0 S.s,S.off,S.left⟩:=by unfold kQ;rw [Im ps j _ _ 0 (by unfold iv at h;omega)]
theorem PR(S:aX)(ps:List Int){j:Nat}(h:j<(iv S).length):(0≤(iv S).getD j 0∧(iv S).getD j 0<(kQ S ps j).s.length)∧((kQ S ps j).at ((iv S).getD j 0)).dt=true∧(kQ S ps j).put ((iv S).getD j 0) (iQ ((kQ S ps j).at ((iv S).getD j 0)) (kr ps j))=kQ S ps (j+1):=by
 obtain ⟨i,h1,ar,aQ,bF,cO⟩:=Io ps j S.s 0 0 (Nat.zero_le _) (by unfold iv at h;omega)
 have aH:(iv S).getD j 0=(i:Int):=by unfold iv;rw [show j=j-0 by omega,h1];simp
 rw [aH]
 have bg:(kQ S ps j).at (i:Int)=S.s.getD i b3:=by unfold kQ aX.at;rw [Int.toNat_natCast];exact bF
 refine ⟨⟨by omega,by rw [aef];omega⟩,by rw [bg];exact aQ,?_⟩
 rw [bg]
 unfold aX.put kQ
 rw [Int.toNat_natCast,cO]
theorem LM{S:aX}(h:Ok S){x:Int}(aM:x∈iv S):0≤x∧x<4096:=by
 have:=(C7 _ _ _ _).1 aM
 have:=h.aH
 omega
theorem jm{α:Type}{l:List α}{j:Nat}{d:α}(h:j<l.length):l.getD j d∈l:=by
 rw [List.getD_eq_getElem?_getD,List.getElem?_eq_getElem h];exact List.getElem_mem _
theorem FE(S:aX):(iv S).length≤S.s.length:=H6 _ _ _
theorem afc{ps:List Int}(h:∀ x∈ps, -9223372036854775808≤x∧x≤9223372036854775807)(j:Nat) : -9223372036854775808≤kr ps j∧kr ps j≤9223372036854775807:=by
 unfold kr
 split
 ·exact h _ (jm ‹_›)
 ·decide
theorem Qt{ps:List Int}{j:Nat}(h:j<ps.length):kr ps j=ps.getD j 0:=by unfold kr;rw [if_pos h]
theorem Qu{ps:List Int}{j:Nat}(h:¬ j<ps.length):kr ps j=64:=by unfold kr;rw [if_neg h]
theorem II(j:Nat):kr [] j=64:=rfl
theorem B7{S:aX}(h:S.off=true):flush S=(S,23):=by unfold flush;rw [if_pos h]
theorem B8{S:aX}(h:S.off=false)(ar:(step S).2≠0):flush S=step S:=by unfold flush;rw [if_neg (by rw [h];simp),if_pos ar]
theorem Mw{S:aX}(h:S.off=false)(ar:(step S).2=0):flush S=(kQ (step S).1 [] (iv (step S).1).length,0):=by unfold flush;rw [if_neg (by rw [h];simp),if_neg ag,PQ _ _ (Nat.le_refl _)]
theorem VF{S:aX}(h:Ok S):check S 0=if S.off then 23 else 0:=by
 unfold check
 split
 ·rfl
 ·rw [if_pos ⟨Int.le_refl _,by have:=h.lo;omega⟩]
theorem IA{S:aX}(h:Ok S)(bq:check S 0≠0):S.off=true∧check S 0=23:=by
 rw [VF h] at bq ⊢
 cases cH:S.off with
 | true=>exact ⟨rfl,rfl⟩
 | false=>rw [cH] at bq;simp at bq
theorem ad5{S:aX}{f:Int→Option Value}(bw:∀ i,(f i).isSome=true→0≤i∧i<S.s.length)(bC:Ok S){m:List (Int×Value)}(h:jP f m):∀ i∈m.map (·.1), -9223372036854775808≤i∧i≤9223372036854775807:=fun i aH=>by
 have:=bw i ((h.mem i).1 aH)
 have:=bC.aH
 omega
theorem afa{S:aX}(i:Int)(h:(kd S i).isSome=true):0≤i∧i<S.s.length:=by
 unfold kd at h
 split at h
 ·rename_i h1;exact h1.1
 ·cases h
theorem ada{S:aX}(bC:Ok S){m:List (Int×Value)}(h:jP (kd S) m):m.length≤4096:=by
 have h1:=congrArg List.length (O2 h)
 rw [List.length_mergeSort,List.length_map] at h1
 have:=FE S
 have:=bC.aH
 omega
def Bp(lr lq v8:TypeId)(h:hT)(S:aX)(n:Nat)(cs:List Value):Value→List aR→List aC→Prop:=fun r zs hs=>zs=[]∧∃ cu ct cx cz,hs=[.row r v8 1 n cs,cu,ct,cx,cz]∧mV lr lq h S cu ct cx cz
theorem Ws{lr lq v8:TypeId}{h:hT}{S:aX}{n vp:Nat}{cs cs':List Value}{r:Value}{zs:List aR}{hs:List aC}(aT:Bp lr lq v8 h S n cs r zs hs)(bL:n=vp)(bT:cs=cs'):Bp lr lq v8 h S vp cs' r zs hs:=bL ▸ bT ▸ aT
def ptr(b:Nat):Value:=.pointer (some ⟨b,0,none⟩)
def Ua(lr lq:TypeId)(S:aX)(f:Value→Value):Value→List aR→List aC→Prop:=fun r zs hs=>zs=[]∧∃ (h:hT) (cu ct cx cz:aC),r=f (.pointer (some ⟨h.b,0,none⟩))∧hs=[cu,ct,cx,cz]∧mV lr lq h S cu ct cx cz
def T9(lr lq:TypeId)(h:hT)(S:aX):Value→List aR→List aC→Prop:=fun r zs hs=>zs=[]∧∃ (ar:hT) (jv jw jx kc cu ct cx cz:aC),r=.pointer (some ⟨ar.b,0,none⟩)∧hs=[jv,jw,jx,kc,cu,ct,cx,cz]∧mV lr lq ar S jv jw jx kc∧mV lr lq h S cu ct cx cz
def an6(S:aX)(k:Nat):List (List UInt8):=(image S).take k++List.replicate (S.s.length-k) []
end ak
namespace ak
open Go Go.aK
theorem aeo(n:Nat):(List.replicate n (List.replicate 64 (Value.int .u8 0))).flatten=(bl (new n)).flatten.map bn:=by
 unfold bl new
 rw [List.map_replicate,List.map_flatten,List.map_replicate]
 rfl
theorem xk(n:Nat):(new n).s.length=n:=by simp [new]
theorem P1{n:Nat}{i:Int}(h:0≤i∧i<(new n).s.length):(new n).at i=⟨z64,[],false,false⟩:=by
 rw [xk] at h
 unfold aX.at new
 rw [List.getD_eq_getElem?_getD,List.getElem?_eq_getElem (by rw [List.length_replicate];omega),List.getElem_replicate]
 rfl
theorem aep(n:Nat)(i:Int):kd (new n) i=none:=by
 unfold kd
 split
 ·rename_i h;rw [P1 h.1] at h;exact absurd h.2 (by simp)
 ·rfl
theorem aes(n:Nat)(i:Int):p9 (new n) i=none:=by
 unfold p9
 split
 ·rename_i h;rw [P1 h.1] at h;exact absurd h.2 (by simp)
 ·rfl
theorem ad7(S:aX)(ps:List Int){j:Nat}(h:(iv S).length≤j):(⟨(kQ S ps j).s,false, -1⟩:aX)=e6 S ps:=by rw [PQ S ps h];rfl
end ak
end
section
namespace ak
open Go Go.aK
abbrev yx(lX:TypeId)(b:Nat)(v:Value)(S:aX):aC:=.blk b lX [v,.bool S.off,aA S.left]
abbrev sj(jQ:TypeId)(v:Value)(S:aX):aC:=.row v jQ 4 S.s.length (S.s.flatMap o8)
def E4(lX jQ:TypeId)(b:Nat)(v:Value)(S:aX)(x:Value):Value→List aR→List aC→Prop:=fun r zs hs=>r=x∧zs=[]∧hs=[yx lX b v S,sj jQ v S]
theorem jI{lX jQ:TypeId}{b:Nat}{v:Value}{S pz:aX}{x x' r:Value}{zs:List aR}{hs:List aC}(aT:E4 lX jQ b v S x r zs hs)(bL:S=pz)(bT:x=x'):E4 lX jQ b v pz x' r zs hs:=bL ▸ bT ▸ aT
def K7(lX jQ v8:TypeId)(b:Nat)(v:Value)(S:aX)(n:Nat)(cs:List Value):Value→List aR→List aC→Prop:=fun r zs hs=>zs=[]∧hs=[.row r v8 1 n cs,yx lX b v S,sj jQ v S]
theorem yI{S:aX}{i:Int}(h:0≤i∧i<S.s.length):S.s[i.toNat]?=some (S.at i):=by
 unfold aX.at
 rw [List.getD_eq_getElem?_getD,List.getElem?_eq_getElem ag]
 rfl
theorem ahM(l:List eB):∀ u∈l.flatMap o8,u.oneCell'=true:=fun u hu=>by
 obtain ⟨x,_,h⟩:=List.mem_flatMap.1 hu
 exact JA x u h
theorem Df(ps:List Int):∀ (jr l2:List eB) (k q:Nat),fr ps k (jr++l2)=fr ps k jr++fr ps (k+(fK (·.dt) q jr).length) l2
 | [],_,_,_=>rfl
 | x::jr,l2,k,q=>by
  rw [List.cons_append,fr,fr,fK]
  by_cases aT:x.dt=true
  ·rw [if_pos aT,if_pos aT,if_pos aT,Df ps jr l2 (k+1) (q+1),List.cons_append,List.length_cons]
   rw [show k+1+(fK (·.dt) (q+1) jr).length=k+((fK (·.dt) (q+1) jr).length+1) by omega]
  ·rw [if_neg aT,if_neg aT,if_neg aT,Df ps jr l2 k (q+1),List.cons_append]
theorem ON(p:eB→Bool):∀ (jr l2:List eB) (q:Nat),fK p q (jr++l2)=fK p q jr++fK p (q+jr.length) l2
 | [],_,_=>rfl
 | x::jr,l2,q=>by
  rw [List.cons_append,fK,fK,ON p jr l2 (q+1),List.length_cons,show q+1+jr.length=q+(jr.length+1) by omega]
  split <;> rfl
def a7(S:aX)(i:Nat):Nat:=(fK (·.dt) 0 (S.s.take i)).length
def gV(S:aX)(ps:List Int)(i:Nat):aX:=⟨fr ps 0 (S.s.take i)++S.s.drop i,S.off,S.left⟩
theorem R2(S:aX)(ps:List Int):gV S ps 0=S:=by unfold gV;rw [List.take_zero,List.drop_zero];rfl
theorem D0(S:aX)(ps:List Int)(i:Nat):(gV S ps i).s.length=S.s.length:=by
 unfold gV
 dsimp only
 rw [List.length_append,m8,List.length_take,List.length_drop];omega
theorem R3(S:aX)(ps:List Int){i:Nat}(h:S.s.length≤i):gV S ps i=⟨fr ps 0 S.s,S.off,S.left⟩:=by unfold gV;rw [List.take_of_length_le h,List.drop_eq_nil_of_le h,List.append_nil]
theorem AN(S:aX)(ps:List Int){i:Nat}(h:i<S.s.length):(gV S ps i).at (i:Int)=S.at (i:Int):=by
 unfold gV aX.at
 dsimp only
 rw [Int.toNat_natCast,List.getD_eq_getElem?_getD,List.getElem?_append_right (by rw [m8,List.length_take];omega),m8,List.length_take,show i-min i S.s.length=0 by omega,List.getElem?_drop,Nat.add_zero,← List.getD_eq_getElem?_getD]
theorem take_one(S:aX){i:Nat}(h:i<S.s.length):S.s.take (i+1)=S.s.take i++[S.at (i:Int)]:=by
 rw [List.take_add_one]
 have:=yI (S:=S) (i:=(i:Int)) ⟨by omega,by omega⟩
 rw [Int.toNat_natCast] at this
 rw [this];rfl
theorem yP(S:aX){i:Nat}(h:i<S.s.length):a7 S (i+1)=if (S.at (i:Int)).dt=true then a7 S i+1 else a7 S i:=by
 unfold a7
 rw [take_one S h,ON,List.length_append]
 rw [fK]
 split <;> rfl
theorem drop_one(S:aX){i:Nat}(h:i<S.s.length):S.s.drop i=S.at (i:Int)::S.s.drop (i+1):=by
 have:=yI (S:=S) (i:=(i:Int)) ⟨by omega,by omega⟩
 rw [Int.toNat_natCast,List.getElem?_eq_getElem h,Option.some.injEq] at this
 rw [← this]
 exact List.drop_eq_getElem_cons h
theorem R4(S:aX)(ps:List Int){i:Nat}(h:i<S.s.length)(aT:(S.at (i:Int)).dt=false):gV S ps i=gV S ps (i+1):=by
 unfold gV
 rw [take_one S h,Df ps _ _ 0 0,drop_one S h]
 have:fr ps (0+(fK (·.dt) 0 (S.s.take i)).length) [S.at (i:Int)]=[S.at (i:Int)]:=by
  rw [fr,if_neg (by rw [aT];simp)];rfl
 rw [this,List.append_assoc];rfl
theorem R5(S:aX)(ps:List Int){i:Nat}(h:i<S.s.length)(aT:(S.at (i:Int)).dt=true):(gV S ps i).put (i:Int) (iQ ((gV S ps i).at (i:Int)) (kr ps (a7 S i)))=gV S ps (i+1):=by
 rw [AN S ps h]
 unfold aX.put gV
 dsimp only
 rw [take_one S h,Df ps _ _ 0 0,drop_one S h,Int.toNat_natCast]
 have:fr ps (0+(fK (·.dt) 0 (S.s.take i)).length) [S.at (i:Int)]=[iQ (S.at (i:Int)) (kr ps (a7 S i))]:=by
  rw [fr,if_pos aT,Nat.zero_add];rfl
 rw [this,List.set_append_right _ _ (by rw [m8,List.length_take];omega),m8,List.length_take,show i-min i S.s.length=0 by omega,List.set_cons_zero,List.append_assoc];rfl
theorem kz{S:aX}(h:Ok S)(ps:List Int)(i:Nat):Ok (gV S ps i):=by
 refine ⟨fun x aM=>?_,by rw [D0];exact h.lo,by rw [D0];exact h.aH,h.lf,h.iM⟩
 unfold gV at aM
 rcases List.mem_append.1 aM with aM | aM
 ·exact Dg ps _ _ (fun y cZ=>h.sec y (List.mem_of_mem_take cZ)) x aM
 ·exact h.sec x (List.mem_of_mem_drop aM)
theorem Mx{S:aX}(h:S.off=false)(ar:(step S).2=0){i:Nat}(aH:(step S).1.s.length≤i):flush S=(gV (step S).1 [] i,0):=by unfold flush;rw [if_neg (by rw [h];simp),if_neg ag,R3 _ _ aH]
theorem ad8(S:aX)(ps:List Int){i:Nat}(h:S.s.length≤i):(⟨(gV S ps i).s,false, -1⟩:aX)=e6 S ps:=by rw [R3 S ps h];rfl
theorem aer(n:Nat):(new (n+1)).s=(new n).s++[⟨z64,[],false,false⟩]:=by unfold new;dsimp only;rw [List.replicate_succ']
def OO(p:eB→Bool)(S:aX)(i:Nat):List Int:=fK p 0 (S.s.take i)
theorem acq(p:eB→Bool)(S:aX)(i:Nat):(OO p S i).length≤S.s.length:=by
 have:=H6 p (S.s.take i) 0
 rw [List.length_take] at this
 unfold OO
 omega
end ak
namespace ak
open Go Go.aK
theorem ahP{S:aX}{i:Int}{x:eB}(h:0≤i∧i<S.s.length):(S.s.set i.toNat x)[i.toNat]?=some x:=by
 rw [List.getElem?_set,if_pos rfl,if_pos ag]
theorem AQ{jQ:TypeId}{v:Value}{S:aX}{i:Int}{x:eB}:aC.row v jQ 4 S.s.length ((S.s.set i.toNat x).flatMap o8)=sj jQ v (S.put i x):=by
 unfold sj aX.put
 dsimp only
 rw [List.length_set]
theorem aho{jQ:TypeId}{v:Value}{S:aX}{i:Int}{x y:eB}:aC.row v jQ 4 S.s.length (((S.s.set i.toNat x).set i.toNat y).flatMap o8)=sj jQ v (S.put i y):=by
 rw [List.set_set];exact AQ
theorem TJ{S:aX}{i:Int}{t:List UInt8}(h1:S.off=false)(ar:¬ (0≤i∧i<S.s.length)∨¬ (t.length:Int)=64):S=(write S i t).1∧(1:Int)=(write S i t).2:=by
  by_cases aH:0≤i∧i<S.s.length
  · have bq:=pG (S:=S) (i:=i) (by rw [h1];simp) aH
    rw [Kd bq (by rcases ar with h | h;· exact absurd aH h
                  · omega)]
    exact ⟨rfl,rfl⟩
  · have bq:=BU (S:=S) (i:=i) (by rw [h1];simp) aH
    rw [Bk ag,bq]
    exact ⟨rfl,rfl⟩
theorem St(x:eB)(p:Int):iQ x p=if x.wn then ⟨x.tx,[],false,x.wn⟩ else ⟨x.nx.take (gR p)++x.tx.drop (gR p),[],false,x.wn⟩:=by
 unfold iQ
 split <;> rfl
end ak
namespace ak
theorem RR{S:aX}{i b:Int}(h:(¬ (0≤i∧i<S.s.length)∨b<0)∨511<b):¬ ((0≤i∧i<S.s.length)∧0≤b∧b<512):=by
 rintro ⟨h1,ar⟩
 rcases h with (h | h) | h
 ·exact h h1
 ·omega
 ·omega
end ak
namespace ak
theorem aev{b:Bool}(h:(!b)=true):b=false:=by cases b <;> simp_all
theorem aeu{b:Bool}(h:(!b)=false):b=true:=by cases b <;> simp_all
end ak
namespace ak
theorem BW(S:aX)(i:Nat):a7 S i≤S.s.length:=acq _ S i
end ak
namespace ak
open Go Go.aK
theorem aeq{lX jQ:TypeId}{b:Nat}{v:Value}{i:Nat}:([.blk b lX [v,.bool false,aA (-1)],.row v jQ 4 i ((new i).s.flatMap o8)]:List aC)=[yx lX b v (new i),sj jQ v (new i)]:=by
 unfold yx sj
 rw [xk]
 rfl
end ak
end
section
namespace ak
open Go Go.aK
theorem FR{f:Nat}{s:List UInt8}(h:0<s.length∧s.length<64)(bw:64≤f+s.length):fill f s=fill (f-1) (s++s.drop (s.length-1)):=by
 obtain ⟨g,rfl⟩:∃ g,f=g+1:=⟨f-1,by omega⟩
 rw [fill,if_pos h];rfl
def ap9{α:Type}(d:α)(a b:List α)(i:Nat):Prop:=∀ k,k<i→a.getD k d=b.getD k d
def alw(c:UInt8)(i:Nat):List UInt8:=List.replicate i c++List.replicate (64-i) 0
end ak
namespace ak
end ak
end
section
namespace ak
open Go Go.aK
def a64:List UInt8:=List.replicate 64 97
def Lm:List UInt8:=List.replicate 64 98
def ae:aX:=new 2
def cu:aX:=(write ae 0 a64).1
def ct:aX:=e6 cu [3]
def cx:aX:=(write ct 1 a64).1
def cz:aX:=(flush cx).1
def IN:aX:=(hi cz 1 0).1
def afm:aX:=(lj IN 0).1
def QD:aX:=dx afm 1
def QE:aX:=(write QD 0 Lm).1
def QF:aX:=(flush QE).1
theorem bL:(write ae 0 a64).2=0:=by decide +kernel
theorem cm:read cu 0=(a64,0):=by decide +kernel
theorem i1:image cu=[z64,z64]:=by decide +kernel
theorem jv:iv cu=[0]:=by decide +kernel
theorem cR:read ct 0=([97,97,97]++z64.drop 3,0):=by decide +kernel
theorem iw:(flush cx).2=0:=by decide +kernel
theorem qm:(hi cz 1 0).2=0:=by decide +kernel
theorem xD:read IN 1=(96::List.replicate 63 97,0):=by decide +kernel
theorem L4:(lj IN 0).2=0:=by decide +kernel
theorem L5:(write QD 0 Lm).2=0:=by decide +kernel
theorem yT:(flush QE).2=23:=by decide +kernel
theorem nj:read QF 0=([],23):=by decide +kernel
theorem Dc:QF.s.length=2:=by decide +kernel
theorem jr:cu.s.length=2:=by decide +kernel
end ak
end
section
namespace ak
open Go Go.aK
end ak
end
section
namespace ak
open Go Go.aK
def now(x:eB):List UInt8:=if x.dt then x.nx else x.tx
def cur(S:aX):List (List UInt8):=S.s.map now
structure Calm (S:aX):Prop where
 off:S.off=false
 left:S.left = -1
 wn:∀ x∈S.s,x.wn=false
theorem Ip(ps:List Int):∀ (l:List eB) (k:Nat),(∀ x∈l,x.dt=false)→fr ps k l=l
 | [],_,_=>rfl
 | x::l,k,h=>by
  unfold fr
  rw [if_neg (by rw [h x List.mem_cons_self];simp),Ip ps l k fun y cZ=>h y (List.mem_cons_of_mem _ cZ)]
def b8(n i:Nat):List (List UInt8):=List.replicate i z64++List.replicate (n-i) []
end ak
end
section
namespace ak
open Go Go.aK
theorem vo(ps:List Int):∀ (l:List eB) (k q i:Nat),i<l.length→(fr ps k l).getD i b3=if (l.getD i b3).dt=true then iQ (l.getD i b3) (kr ps (k+(fK (·.dt) q (l.take i)).length)) else l.getD i b3
 | [],_,_,i,h=>by simp at h
 | x::l,k,q,0,_=>by
  unfold fr
  by_cases aT:x.dt=true
  ·rw [if_pos aT,List.getD_cons_zero,List.getD_cons_zero,if_pos aT];rfl
  ·rw [if_neg aT,List.getD_cons_zero,List.getD_cons_zero,if_neg aT]
 | x::l,k,q,i+1,h=>by
  have aH:i<l.length:=by simpa using h
  unfold fr
  rw [List.take_succ_cons,fK]
  by_cases aT:x.dt=true
  ·rw [if_pos aT,if_pos aT,List.getD_cons_succ,List.getD_cons_succ,vo ps l (k+1) (q+1) i aH,List.length_cons,show k+1+(fK (·.dt) (q+1) (l.take i)).length=k+((fK (·.dt) (q+1) (l.take i)).length+1) by omega]
  ·rw [if_neg aT,if_neg aT,List.getD_cons_succ,List.getD_cons_succ,vo ps l k (q+1) i aH]
theorem acg{S:aX}{i:Nat}(h:i<S.s.length):(image S).getD i []=(S.s.getD i b3).tx:=by
 unfold image
 rw [List.getD_eq_getElem?_getD,List.getD_eq_getElem?_getD,List.getElem?_map,List.getElem?_eq_getElem h]
 rfl
theorem Iq(S:aX)(ps:List Int):(e6 S ps).s.length=S.s.length:=m8 _ _ _
theorem Aa{S:aX}(ps:List Int){i:Nat}(h:i<S.s.length):(image (e6 S ps)).getD i []=(if (S.s.getD i b3).dt=true then iQ (S.s.getD i b3) (kr ps (a7 S i)) else S.s.getD i b3).tx:=by
 rw [acg (by rw [Iq];exact h)]
 unfold e6
 dsimp only
 rw [vo ps S.s 0 0 i h,Nat.zero_add]
 rfl
end ak
end
