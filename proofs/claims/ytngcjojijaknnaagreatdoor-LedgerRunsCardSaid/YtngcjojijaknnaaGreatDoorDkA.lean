/- walks and plain laws -/
import Derived.Test.YtngcjojijaknnaaGreatDoorFwD
set_option linter.all false
section
namespace ao
open Go Go.aJ
structure ee where
 tx:List UInt8
 nx:List UInt8
 dt:Bool
 wn:Bool
structure aX where
 s:List ee
 off:Bool
 left:Int
def cG:ee:=⟨[],[],false,false⟩
def z64:List UInt8:=List.replicate 64 0
def aX.at(S:aX)(i:Int):ee:=S.s.getD i.toNat cG
def aX.put(S:aX)(i:Int)(x:ee):aX:=⟨S.s.set i.toNat x,S.off,S.left⟩
def new(n:Nat):aX:=⟨List.replicate n ⟨z64,[],false,false⟩,false, -1⟩
def gZ(p:Int):Nat:=(max 0 (min p 64)).toNat
def jg(x:ee)(p:Int):ee:=⟨if x.wn then x.tx else x.nx.take (gZ p)++x.tx.drop (gZ p),[],false,x.wn⟩
def check(S:aX)(i:Int):Int:=if S.off then 23 else if 0≤i∧i<S.s.length then 0 else 1
def step(S:aX):aX×Int:=if S.left=0 then (⟨S.s,true,S.left⟩,23) else if 0<S.left then (⟨S.s,S.off,S.left-1⟩,0) else (S,0)
def read(S:aX)(i:Int):List UInt8×Int:=if check S i=0 then (if (S.at i).dt then (S.at i).nx else (S.at i).tx,0) else ([],check S i)
def mark(S:aX)(i:Int)(t:List UInt8):aX:=S.put i ⟨(S.at i).tx,t,true,(S.at i).wn⟩
def write(S:aX)(i:Int)(t:List UInt8):aX×Int:=
 if check S i≠0 then (S,check S i) else if t.length≠64 then (S,1) else if (step S).2≠0 then step S else (mark (step S).1 i t,0)
def k3(ps:List Int)(k:Nat):Int:=if k<ps.length then ps.getD k 0 else 64
def kG(ps:List Int)(m:Nat):Nat→List ee→List ee
 | _,[]=>[]
 | k,x::l=>if x.dt then (if k<m then jg x (k3 ps k) else x)::kG ps m (k+1) l else x::kG ps m k l
def gv(ps:List Int):Nat→List ee→List ee
 | _,[]=>[]
 | k,x::l=>if x.dt then jg x (k3 ps k)::gv ps (k+1) l else x::gv ps k l
def flush(S:aX):aX×Int:=if S.off then (S,23) else if (step S).2≠0 then step S else (⟨gv [] 0 (step S).1.s,(step S).1.off,(step S).1.left⟩,0)
def hz(S:aX)(ps:List Int):aX:=⟨gv ps 0 S.s,false, -1⟩
def hp(S:aX)(n:Int):aX:=⟨S.s,S.off,max (-1) n⟩
def s4(b:Int):UInt8:=hb (((1:UInt8).toNat:Int)*2^(min (b%8).toNat 8))
def flip(t:List UInt8)(b:Int):List UInt8:=t.set (b/8).toNat (t.getD (b/8).toNat 0 ^^^ s4 b)
def gN(S:aX)(i b:Int):aX×Int:=if (0≤i∧i<S.s.length)∧0≤b∧b<512 then (S.put i ⟨flip (S.at i).tx b,(S.at i).nx,(S.at i).dt,(S.at i).wn⟩,0) else (S,1)
def k7(S:aX)(i:Int):aX×Int:=if 0≤i∧i<S.s.length then (S.put i ⟨(S.at i).tx,(S.at i).nx,(S.at i).dt,true⟩,0) else (S,1)
def image(S:aX):List (List UInt8):=S.s.map (·.tx)
def e9(p:ee→Bool):Nat→List ee→List Int
 | _,[]=>[]
 | k,x::l=>if p x then (k:Int)::e9 p (k+1) l else e9 p (k+1) l
def hS(S:aX):List Int:=e9 (·.dt) 0 S.s
def aol(S:aX):List Int:=e9 (·.wn) 0 S.s
structure Op where
 k:Int
 i:Int
 b:Int
 t:List UInt8
 ps:List Int
def fill:Nat→List UInt8→List UInt8
 | 0,s=>s
 | f+1,s=>if 0<s.length∧s.length<64 then fill f (s++s.drop (s.length-1)) else s
def Ie(t:List UInt8):List UInt8:=fill 64 t
def act(S:aX)(o:Op):aX×List UInt8×Int:=
 if o.k=1 then ((write S o.i (Ie o.t)).1,[],(write S o.i (Ie o.t)).2)
 else if o.k=2 then (S,read S o.i)
 else if o.k=3 then ((flush S).1,[],(flush S).2)
 else if o.k=4 then (hp S o.i,[],0)
 else if o.k=5 then (hz S o.ps,[],0)
 else if o.k=6 then ((gN S o.i o.b).1,[],(gN S o.i o.b).2)
 else if o.k=7 then ((k7 S o.i).1,[],(k7 S o.i).2)
 else (S,[],0)
def rj(x:ee):Prop:=x.tx.length=64∧(x.dt=true→x.nx.length=64)∧x.nx.length≤64
structure Ok (S:aX):Prop where
 sec:∀ x∈S.s,rj x
 lo:1≤S.s.length
 aG:S.s.length≤4096
 lf : -1≤S.left
 h9:S.left≤9223372036854775807
theorem at_mem{S:aX}{i:Int}(h:0≤i∧i<S.s.length):S.at i∈S.s:=by
 unfold aX.at
 rw [List.getD_eq_getElem?_getD,List.getElem?_eq_getElem (by omega)]
 exact List.getElem_mem _
theorem Ok.at{S:aX}(h:Ok S){i:Int}(aG:0≤i∧i<S.s.length):rj (S.at i):=h.sec _ (at_mem aG)
theorem Ok.put{S:aX}(h:Ok S){i:Int}{x:ee}(aL:rj x):Ok (S.put i x):=by
 refine ⟨fun y cS=>?_,by simpa [aX.put] using h.lo,by simpa [aX.put] using h.aG,h.lf,h.h9⟩
 rcases List.mem_or_eq_of_mem_set cS with h1 | rfl
 ·exact h.sec y h1
 ·exact aL
theorem pZ(S:aX)(i:Int)(x:ee):(S.put i x).s.length=S.s.length:=by simp [aX.put]
theorem yO{S:aX}{i j:Int}{x:ee}(aG:0≤i∧i<S.s.length)(a6:0≤j):(S.put i x).at j=if j=i then x else S.at j:=by
 unfold aX.put aX.at
 dsimp only
 rw [List.getD_eq_getElem?_getD,List.getElem?_set]
 by_cases h:j=i
 ·subst h
  rw [if_pos rfl,if_pos rfl,if_pos (by omega)];rfl
 ·rw [if_neg h,if_neg (by omega)]
  rw [List.getD_eq_getElem?_getD]
theorem TC(p:Int):gZ p≤64:=by unfold gZ;omega
theorem HW{x:ee}(h:rj x)(aT:x.dt=true)(p:Int):rj (jg x p):=by
 have:=TC p
 refine ⟨?_,fun h=>(by cases h),Nat.zero_le _⟩
 unfold jg
 dsimp only
 split
 ·exact h.1
 ·rw [List.length_append,List.length_take,List.length_drop,h.1,h.2.1 aT];omega
theorem BT(ps:List Int):∀ (l:List ee) (k:Nat),(∀ x∈l,rj x)→∀ x∈gv ps k l,rj x
 | [],_,_,x,aL=>by cases aL
 | y::l,k,h,x,aL=>by
  unfold gv at aL
  split at aL
  ·rename_i aT
   rcases List.mem_cons.1 aL with rfl | aL
   ·exact HW (h y List.mem_cons_self) aT _
   ·exact BT ps l _ (fun z bj=>h z (List.mem_cons_of_mem _ bj)) x aL
  ·rcases List.mem_cons.1 aL with rfl | aL
   ·exact h _ List.mem_cons_self
   ·exact BT ps l _ (fun z bj=>h z (List.mem_cons_of_mem _ bj)) x aL
theorem o6(ps:List Int):∀ (l:List ee) (k:Nat),(gv ps k l).length=l.length
 | [],_=>rfl
 | x::l,k=>by
  unfold gv
  split <;> rw [List.length_cons,List.length_cons,o6 ps l]
theorem G1{n:Nat}(h1:1≤n)(aq:n≤4096):Ok (new n):=by
 refine ⟨fun x aL=>?_,by simpa [new] using h1,by simpa [new] using aq,(by show (-1:Int) ≤ -1;decide),(by show (-1:Int)≤_;decide)⟩
 rw [(List.mem_replicate.1 aL).2]
 exact ⟨rfl,fun h=>(by cases h),Nat.zero_le _⟩
theorem CM(S:aX):(step S).1.s=S.s:=by unfold step;split <;> (try split) <;> rfl
theorem ir{S:aX}(h:Ok S):Ok (step S).1:=by
 have:=h.lf;have:=h.h9
 unfold step
 split
 ·exact ⟨h.sec,h.lo,h.aG,h.lf,h.h9⟩
 ·split
  ·exact ⟨h.sec,h.lo,h.aG,by dsimp only;omega,by dsimp only;omega⟩
  ·exact h
theorem N8{S:aX}(h:Ok S){i:Int}(aG:0≤i∧i<S.s.length){t:List UInt8}(aM:t.length=64):Ok (mark S i t):=
 h.put ⟨(h.at aG).1,fun _=>aM,by dsimp only;omega⟩
theorem Av{S:aX}{i:Int}(h:check S i=0):S.off=false∧0≤i∧i<S.s.length:=by
 unfold check at h
 split at h
 ·cases h
 ·rename_i cB
  split at h
  ·rename_i aG;exact ⟨by simpa using cB,aG⟩
  ·cases h
theorem acy{S:aX}(h:Ok S)(i:Int)(t:List UInt8):Ok (write S i t).1:=by
 unfold write
 split
 ·exact h
 ·rename_i bu
  have bu:=Av (by omega:check S i=0)
  split
  ·exact h
  ·split
   ·exact ir h
   ·exact N8 (ir h) (by rw [CM];exact bu.2) (by omega)
theorem N9{S:aX}(h:Ok S)(ps:List Int){o:Bool}{l:Int}(h1 : -1≤l)(aq:l≤9223372036854775807):Ok ⟨gv ps 0 S.s,o,l⟩:=
 ⟨BT ps _ _ h.sec,by dsimp only;rw [o6];exact h.lo,by dsimp only;rw [o6];exact h.aG,h1,aq⟩
theorem N7{S:aX}(h:Ok S):Ok (flush S).1:=by
 unfold flush
 split
 ·exact h
 ·split
  ·exact ir h
  ·exact N9 (ir h) _ (ir h).lf (ir h).h9
theorem yL{S:aX}(h:Ok S)(ps:List Int):Ok (hz S ps):=N9 h ps (by decide) (by decide)
theorem acx{S:aX}(h:Ok S){n:Int}(bA:n≤9223372036854775807):Ok (hp S n):=⟨h.sec,h.lo,h.aG,by unfold hp;dsimp only;omega,by unfold hp;dsimp only;omega⟩
theorem KP(t:List UInt8)(b:Int):(flip t b).length=t.length:=by simp [flip]
theorem acw{S:aX}(h:Ok S)(i b:Int):Ok (gN S i b).1:=by
 unfold gN
 split
 ·rename_i aG
  have:=h.at aG.1
  exact h.put ⟨by rw [KP];exact this.1,this.2⟩
 ·exact h
def jG(S:aX)(i:Int):Option Value:=if (0≤i∧i<S.s.length)∧(S.at i).dt=true then some (xk (S.at i).nx) else none
def pq(S:aX)(i:Int):Option Value:=if (0≤i∧i<S.s.length)∧(S.at i).wn=true then some (.bool true) else none
def jm(f:Int→Option Value)(l:List (Int×Value)):Prop:=(l.map (·.1)).Nodup∧∀ i,fN l i=f i
theorem Ls(a:Int):∀ (l:List (Int×Value)) (i:Nat),ga a l (i+1)=(ga a l i).map fun p=>(p.1+1,p.2)
 | [],_=>rfl
 | p::l,i=>by
  unfold ga
  split
  ·rfl
  ·exact Ls a l (i+1)
theorem SD(a:Int)(p:Int×Value)(l:List (Int×Value)):oO a (p::l)=if a=p.1 then l else p::oO a l:=by
 unfold oO
 rw [ga]
 by_cases h:a=p.1
 ·rw [if_pos h,if_pos h];rfl
 ·rw [if_neg h,if_neg h,Ls]
  cases ga a l 0 with
  | none=>rfl
  | some q=>rfl
theorem JA(a b:Int):∀ {l:List (Int×Value)},(l.map (·.1)).Nodup→fN (oO a l) b=if b=a then none else fN l b
 | [],_=>by show none=_;rw [show fN ([]:List (Int×Value)) b=none from rfl];split <;> rfl
 | p::l,h=>by
  rw [List.map_cons,List.nodup_cons] at h
  have ih:=JA a b h.2
  have bA:fN l p.1=none:=by
   cases aO:fN l p.1 with
   | none=>rfl
   | some v=>
    exfalso
    unfold fN at aO
    cases bw:ga p.1 l 0 with
    | none=>rw [bw] at aO;cases aO
    | some q=>
     have:=EN bw
     rw [Nat.sub_zero,← List.getElem?_map] at this
     exact h.1 (List.mem_of_getElem? this)
  rw [SD,qn]
  by_cases h1:a=p.1
  ·rw [if_pos h1]
   by_cases aq:b=a
   ·rw [if_pos aq,aq,h1,bA]
   ·rw [if_neg aq,if_neg (fun e=>aq (e.trans h1.symm))]
  ·rw [if_neg h1,qn,ih]
   by_cases aq:b=p.1
   ·rw [if_pos aq,if_pos aq,if_neg (fun e=>h1 (e.symm.trans aq))]
   ·rw [if_neg aq,if_neg aq]
theorem jm.put{f g:Int→Option Value}{l:List (Int×Value)}(h:jm f l){a:Int}{v:Value}(aO:∀ i,g i=if i=a then some v else f i):jm g (h4 a v l):=
 ⟨DO h.1,fun i=>by rw [sZ,aO,h.2]⟩
theorem jm.del{f g:Int→Option Value}{l:List (Int×Value)}(h:jm f l){a:Int}(aO:∀ i,g i=if i=a then none else f i):jm g (oO a l):=
 ⟨(SE h.1 (a:=a) (y:=a)).2,fun i=>by rw [JA a i h.1,aO,h.2]⟩
theorem jm.nil{f:Int→Option Value}(h:∀ i,f i=none):jm f []:=⟨by simp,fun i=>(h i).symm⟩
theorem jm.eq{f g:Int→Option Value}{l:List (Int×Value)}(h:jm f l)(e:∀ i,g i=f i):jm g l:=⟨h.1,fun i=>(h.2 i).trans (e i).symm⟩
theorem jm.mem{f:Int→Option Value}:∀ {l:List (Int×Value)},jm f l→∀ i,i∈l.map (·.1)↔(f i).isSome=true:=by
 intro l h i
 rw [← h.2 i]
 have:∀ l:List (Int×Value),i∈l.map (·.1)↔(fN l i).isSome=true:=by
  intro l
  induction l with
  | nil=>simp [fN,ga]
  | cons p l ih=>
   rw [qn,List.map_cons,List.mem_cons]
   by_cases h:i=p.1
   ·rw [if_pos h];simp [h]
   ·rw [if_neg h,← ih];simp [h]
 exact this l
theorem BH(p:ee→Bool):∀ (l:List ee) (k:Nat) (i:Int),i∈e9 p k l↔((k:Int)≤i∧i<k+l.length)∧p (l.getD (i-k).toNat cG)=true
 | [],k,i=>by simp [e9];intro h1 aq;omega
 | x::l,k,i=>by
  unfold e9
  have ih:=BH p l (k+1) i
  have hlen:(x::l).length=l.length+1:=rfl
  have key:i∈e9 p (k+1) l↔((k:Int)+1≤i∧i<k+(x::l).length)∧p ((x::l).getD (i-k).toNat cG)=true:=by
   rw [ih,hlen]
   constructor
   ·rintro ⟨⟨h1,aq⟩,aQ⟩
    refine ⟨⟨by omega,by omega⟩,?_⟩
    rw [show (i-(k:Int)).toNat=(i-((k+1:Nat):Int)).toNat+1 by omega,List.getD_cons_succ]
    exact aQ
   ·rintro ⟨⟨h1,aq⟩,aQ⟩
    refine ⟨⟨by omega,by omega⟩,?_⟩
    rw [show (i-(k:Int)).toNat=(i-((k+1:Nat):Int)).toNat+1 by omega,List.getD_cons_succ] at aQ
    exact aQ
  by_cases aD:i=k
  ·have js:(x::l).getD (i-(k:Int)).toNat cG=x:=by rw [aD,Int.sub_self];rfl
   rw [js]
   constructor
   ·intro h
    refine ⟨⟨by omega,by rw [hlen];omega⟩,?_⟩
    split at h
    ·assumption
    ·have:=(key.1 h).1.1;omega
   ·rintro ⟨_,h⟩
    rw [if_pos h,aD];exact List.mem_cons_self
  ·split
   ·rw [List.mem_cons,key]
    constructor
    ·rintro (h | h)
     ·exact absurd h aD
     ·exact ⟨⟨by omega,h.1.2⟩,h.2⟩
    ·rintro ⟨h1,aq⟩
     exact .inr ⟨⟨by omega,h1.2⟩,aq⟩
   ·rw [key]
    constructor
    ·rintro h;exact ⟨⟨by omega,h.1.2⟩,h.2⟩
    ·rintro ⟨h1,aq⟩;exact ⟨⟨by omega,h1.2⟩,aq⟩
theorem Gx(p:ee→Bool):∀ (l:List ee) (k:Nat),(e9 p k l).Pairwise (fun a b=>a<b)
 | [],_=>List.Pairwise.nil
 | x::l,k=>by
  unfold e9
  split
  ·refine List.pairwise_cons.2 ⟨fun b au=>?_,Gx p l (k+1)⟩
   have:=(BH p l (k+1) b).1 au
   omega
  ·exact Gx p l (k+1)
theorem Gw(p:ee→Bool):∀ (l:List ee) (k:Nat),(e9 p k l).length≤l.length
 | [],_=>Nat.le_refl _
 | x::l,k=>by
  have:=Gw p l (k+1)
  unfold e9
  split <;> simp only [List.length_cons] <;> omega
theorem afP(p:ee→Bool)(l:List ee)(k:Nat){ks:List Int}(bA:ks.Nodup)(hm:∀ i,i∈ks↔i∈e9 p k l):ks.mergeSort (fun x y=>decide (x≤y))=e9 p k l:=by
 have hs:=Gx p l k
 have fO:(e9 p k l).Nodup:=hs.imp fun h e=>by omega
 have bN:ks.Perm (e9 p k l):=(List.perm_ext_iff_of_nodup bA fO).2 hm
 have tr:∀ a b c:Int,decide (a≤b)=true→decide (b≤c)=true→decide (a≤c)=true:=fun a b c h1 aq=>by simp only [decide_eq_true_eq] at *;omega
 have to:∀ a b:Int,(decide (a≤b) || decide (b≤a))=true:=fun a b=>by simp only [Bool.or_eq_true,decide_eq_true_eq];omega
 refine List.Perm.eq_of_pairwise (le:=fun a b=>decide (a≤b)=true) (fun a b _ _ h1 aq=>?_) (List.pairwise_mergeSort tr to ks) (hs.imp fun h=>by simp only [decide_eq_true_eq];omega) ((List.mergeSort_perm ks _).trans bN)
 simp only [decide_eq_true_eq] at h1 aq
 omega
theorem Ug(S:aX)(i:Int):i∈hS S↔(jG S i).isSome=true:=by
 unfold hS jG aX.at
 rw [BH]
 simp only [Int.ofNat_zero,Int.zero_add,Int.sub_zero]
 constructor
 ·intro h;rw [if_pos (by simpa using h)];rfl
 ·intro h
  split at h
  ·rename_i h1;simpa using h1
  ·cases h
theorem M5{S:aX}{l:List (Int×Value)}(h:jm (jG S) l):(l.map (·.1)).mergeSort (fun x y=>decide (x≤y))=hS S:=afP _ _ _ h.1 fun i=>by rw [h.mem i];exact (Ug S i).symm
end ao
end
section
namespace ao
open Go Go.aJ
def ov(x:ee):List Value:=[vs x.tx,vs x.nx,.bool x.dt,.bool x.wn]
theorem k4(x:ee):(ov x).length=4:=rfl
theorem HV(x:ee):∀ u∈ov x,u.oneCell'=true:=fun u hu=>by
 simp only [ov,List.mem_cons,List.not_mem_nil,or_false] at hu
 rcases hu with rfl | rfl | rfl | rfl <;> rfl
structure hr where
 b:Nat
 v:Value
 p:Nat
 w:Nat
def bl(S:aX):List (List UInt8):=S.s.map (·.tx)
theorem mX(S:aX):(bl S).length=S.s.length:=by simp [bl]
theorem nt{S:aX}(h:Ok S):∀ x∈bl S,x.length=64:=fun x aL=>by
 obtain ⟨y,cS,rfl⟩:=List.mem_map.1 aL
 exact (h.sec y cS).1
theorem uZ{S:aX}{i:Int}(h:0≤i∧i<S.s.length):(bl S).getD i.toNat []=(S.at i).tx:=by
 unfold bl aX.at
 rw [List.getD_eq_getElem?_getD,List.getD_eq_getElem?_getD,List.getElem?_map,List.getElem?_eq_getElem (by omega)]
 rfl
theorem DS{S:aX}(i:Int)(x:ee):bl (S.put i x)=(bl S).set i.toNat x.tx:=by
 unfold bl aX.put
 rw [List.map_set]
theorem DT{S:aX}{i:Int}{x:ee}(h:0≤i∧i<S.s.length)(he:x.tx=(S.at i).tx):bl (S.put i x)=bl S:=by
 rw [DS,he,← uZ h]
 apply List.ext_getElem?
 intro j
 rw [List.getElem?_set]
 split
 ·rename_i e
  rw [← e,List.getD_eq_getElem?_getD]
  rw [if_pos (by rw [mX];omega),List.getElem?_eq_getElem (by rw [mX];omega)]
  rfl
 ·rfl
theorem abw{S:aX}{i:Int}(h:0≤i∧i<S.s.length)(t:List UInt8):bl (mark S i t)=bl S:=DT h rfl
theorem NC(S:aX)(i:Int)(t:List UInt8):(mark S i t).s.length=S.s.length:=pZ _ _ _
def ng(kO kN:TypeId)(h:hr)(S:aX)(b8 cL eL eS:av):Prop:=
 ∃ (l:Int) (bK:List MapEntry) (ht:Nat) (hk:List (Int×Value)) (bV:List MapEntry) (hH:Nat) (gM:List (Int×Value)),
  Ok S∧max (-1) l=S.left ∧ -9223372036854775808≤l∧j0 az hk bK ht∧j0 az gM bV hH∧jm (jG S) hk∧jm (pq S) gM ∧
  b8=.blk h.b kO [h.v,.map (some h.p),.map (some h.w),.bool S.off,az l]∧cL=.row h.v kN 64 S.s.length ((bl S).flatten.map bf)∧eL=.mp h.p bK ht∧eS=.mp h.w bV hH
def Dl(kO kN:TypeId)(h:hr)(S:aX)(v:Value):Value→List aP→List av→Prop:=fun r zs hs=>r=v∧zs=[]∧∃ cj ck cr ct,hs=[cj,ck,cr,ct]∧ng kO kN h S cj ck cr ct
theorem iF{kO kN:TypeId}{h:hr}{S oL:aX}{v dd r:Value}{zs:List aP}{hs:List av}(aT:Dl kO kN h S v r zs hs)(bK:S=oL)(bV:v=dd):Dl kO kN h oL dd r zs hs:=bK ▸ bV ▸ aT
def xe(ln jn:TypeId)(b:Nat)(S:aX)(b8 cL:av):Prop:=∃ v,Ok S∧b8=.blk b ln [v,.bool S.off,az S.left]∧cL=.row v jn 4 S.s.length (S.s.flatMap ov)
def aii(ln jn:TypeId)(b:Nat)(S:aX)(v:Value):Value→List aP→List av→Prop:=fun r zs hs=>r=v∧zs=[]∧∃ cj ck,hs=[cj,ck]∧xe ln jn b S cj ck
theorem ng.ok{kO kN:TypeId}{h:hr}{S:aX}{b8 cL eL eS:av}(dh:ng kO kN h S b8 cL eL eS):Ok S:=by
 obtain ⟨_,_,_,_,_,_,_,h,_⟩:=dh;exact h
theorem xe.ok{ln jn:TypeId}{b:Nat}{S:aX}{b8 cL:av}(dh:xe ln jn b S b8 cL):Ok S:=by
 obtain ⟨_,h,_⟩:=dh;exact h
theorem u1{S:aX}{i:Int}(h:S.off=true):check S i=23:=by unfold check;rw [if_pos h]
theorem Aw{S:aX}{i:Int}(h:¬ S.off=true)(aG:¬ (0≤i∧i<S.s.length)):check S i=1:=by unfold check;rw [if_neg h,if_neg aG]
theorem pB{S:aX}{i:Int}(h:¬ S.off=true)(aG:0≤i∧i<S.s.length):check S i=0:=by unfold check;rw [if_neg h,if_pos aG]
theorem zm{S:aX}(h:S.left=0):step S=(⟨S.s,true,S.left⟩,23):=by unfold step;rw [if_pos h]
theorem CL{S:aX}(h:0<S.left):step S=(⟨S.s,S.off,S.left-1⟩,0):=by unfold step;rw [if_neg (by omega),if_pos h]
theorem wA{S:aX}(h:S.left<0):step S=(S,0):=by unfold step;rw [if_neg (by omega),if_neg (by omega)]
theorem Hv{S:aX}{i:Int}(h:check S i≠0):read S i=([],check S i):=by unfold read;rw [if_neg h]
theorem PC{S:aX}{i:Int}(h:check S i=0)(aT:(S.at i).dt=true):read S i=((S.at i).nx,0):=by unfold read;rw [if_pos h,if_pos aT]
theorem Cu{S:aX}{i:Int}(h:check S i=0)(aT:¬ (S.at i).dt=true):read S i=((S.at i).tx,0):=by unfold read;rw [if_pos h,if_neg aT]
theorem zT{S:aX}{i:Int}{t:List UInt8}(h:check S i≠0):write S i t=(S,check S i):=by unfold write;rw [if_pos h]
theorem IE{S:aX}{i:Int}{t:List UInt8}(h:check S i=0)(aq:t.length≠64):write S i t=(S,1):=by unfold write;rw [if_neg (by omega),if_pos aq]
theorem wR{S:aX}{i:Int}{t:List UInt8}(h:check S i=0)(aq:t.length=64)(aQ:(step S).2≠0):write S i t=step S:=by unfold write;rw [if_neg (by omega),if_neg (by omega),if_pos aQ]
theorem wS{S:aX}{i:Int}{t:List UInt8}(h:check S i=0)(aq:t.length=64)(aQ:(step S).2=0):write S i t=(mark (step S).1 i t,0):=by unfold write;rw [if_neg (by omega),if_neg (by omega),if_neg (by omega)]
def jl:Value:=.agg (List.replicate 64 (Value.int .u8 0)).toArray
theorem ahB:jl=xk z64:=by unfold jl xk z64;rw [List.map_replicate];rfl
def r7(S:aX)(i:Int):List UInt8:=if (S.at i).dt=true then (S.at i).nx else z64
theorem Oo{S:aX}{m:List (Int×Value)}(h:jm (jG S) m){i:Int}(aG:0≤i∧i<S.s.length):(fN m i).getD jl=xk (r7 S i):=by
 rw [h.2]
 unfold jG r7
 by_cases aT:(S.at i).dt=true
 ·rw [if_pos ⟨aG,aT⟩,if_pos aT];rfl
 ·rw [if_neg (fun e=>aT e.2),if_neg aT];exact ahB
theorem acY{S:aX}{m:List (Int×Value)}(h:jm (jG S) m){i:Int}(aG:0≤i∧i<S.s.length):(fN m i).isSome=(S.at i).dt:=by
 rw [h.2]
 unfold jG
 by_cases aT:(S.at i).dt=true
 ·rw [if_pos ⟨aG,aT⟩,aT];rfl
 ·rw [if_neg (fun e=>aT e.2)]
  cases he:(S.at i).dt with
  | true=>exact absurd he aT
  | false=>rfl
theorem ahw{S:aX}{m:List (Int×Value)}(h:jm (pq S) m){i:Int}(aG:0≤i∧i<S.s.length):(fN m i).getD (.bool false)=.bool (S.at i).wn:=by
 rw [h.2]
 unfold pq
 by_cases aT:(S.at i).wn=true
 ·rw [if_pos ⟨aG,aT⟩,aT];rfl
 ·rw [if_neg (fun e=>aT e.2)]
  cases he:(S.at i).wn with
  | true=>exact absurd he aT
  | false=>rfl
theorem G4{S:aX}{i:Int}(h:(S.at i).dt=true):r7 S i=(S.at i).nx:=by unfold r7;rw [if_pos h]
theorem Ou{S:aX}(h:Ok S){i:Int}(aG:0≤i∧i<S.s.length):(r7 S i).length=64:=by
 unfold r7
 split
 ·exact (h.at aG).2.1 ‹_›
 ·rfl
theorem acZ{S:aX}{i:Int}(aG:0≤i∧i<S.s.length)(t:List UInt8)(j:Int):jG (mark S i t) j=if j=i then some (xk t) else jG S j:=by
 unfold jG mark
 rw [pZ]
 by_cases a6:0≤j
 ·rw [yO aG a6]
  by_cases h:j=i
  ·rw [if_pos h,if_pos h,if_pos ⟨h ▸ aG,rfl⟩]
  ·rw [if_neg h,if_neg h]
 ·rw [if_neg (fun e=>a6 e.1.1),if_neg (fun e:j=i=>a6 (e ▸ aG.1)),if_neg (fun e=>a6 e.1.1)]
theorem Dc{S:aX}{i:Int}(aG:0≤i∧i<S.s.length){x:ee}(aL:x.wn=(S.at i).wn)(j:Int):pq (S.put i x) j=pq S j:=by
 unfold pq
 rw [pZ]
 by_cases a6:0≤j
 ·rw [yO aG a6]
  by_cases h:j=i
  ·rw [if_pos h,h,aL]
  ·rw [if_neg h]
 ·rw [if_neg (fun e=>a6 e.1.1),if_neg (fun e=>a6 e.1.1)]
theorem Oq{S:aX}{i:Int}(aG:0≤i∧i<S.s.length){x:ee}(aL:x.dt=(S.at i).dt)(bA:x.nx=(S.at i).nx)(j:Int):jG (S.put i x) j=jG S j:=by
 unfold jG
 rw [pZ]
 by_cases a6:0≤j
 ·rw [yO aG a6]
  by_cases h:j=i
  ·rw [if_pos h,h,aL,bA]
  ·rw [if_neg h]
 ·rw [if_neg (fun e=>a6 e.1.1),if_neg (fun e=>a6 e.1.1)]
theorem Ot{S:aX}{i:Int}(aG:0≤i∧i<S.s.length){x:ee}(aL:x.dt=false)(j:Int):jG (S.put i x) j=if j=i then none else jG S j:=by
 unfold jG
 rw [pZ]
 by_cases a6:0≤j
 ·rw [yO aG a6]
  by_cases h:j=i
  ·rw [if_pos h,if_pos h,aL,if_neg (by simp)]
  ·rw [if_neg h,if_neg h]
 ·rw [if_neg (fun e=>a6 e.1.1),if_neg (fun e:j=i=>a6 (e ▸ aG.1)),if_neg (fun e=>a6 e.1.1)]
theorem ahx{S:aX}{i:Int}(aG:0≤i∧i<S.s.length){x:ee}(aL:x.wn=true)(j:Int):pq (S.put i x) j=if j=i then some (.bool true) else pq S j:=by
 unfold pq
 rw [pZ]
 by_cases a6:0≤j
 ·rw [yO aG a6]
  by_cases h:j=i
  ·rw [if_pos h,if_pos h,if_pos ⟨h ▸ aG,aL⟩]
  ·rw [if_neg h,if_neg h]
 ·rw [if_neg (fun e=>a6 e.1.1),if_neg (fun e:j=i=>a6 (e ▸ aG.1)),if_neg (fun e=>a6 e.1.1)]
theorem Qt(S:aX)(i p:Int):(S.put i (jg (S.at i) p)).s.length=S.s.length:=pZ _ _ _
theorem afH{S:aX}{i:Int}(aG:0≤i∧i<S.s.length)(aT:(S.at i).dt=true)(hw:(S.at i).wn=false)(p:Int):(bl S).set i.toNat ((r7 S i).take (max 0 (min p 64)).toNat++((bl S).getD i.toNat []).drop (max 0 (min p 64)).toNat)=bl (S.put i (jg (S.at i) p)):=by
 rw [DS,uZ aG,G4 aT]
 unfold jg gZ
 rw [if_neg (by rw [hw];simp)]
theorem afI{S:aX}(bB:Ok S){i:Int}(aG:0≤i∧i<S.s.length)(aT:(S.at i).dt=true)(h:(S.at i).wn=true∨r7 S i=(bl S).getD i.toNat [])(p:Int):bl S=bl (S.put i (jg (S.at i) p)):=by
 refine (DT aG ?_).symm
 unfold jg
 dsimp only
 split
 ·rfl
 ·rename_i hw
  rcases h with h | h
  ·exact absurd h hw
  ·rw [G4 aT,uZ aG] at h
   rw [h,List.take_append_drop]
theorem zd{S:aX}{i b:Int}(h:0≤i∧i<S.s.length)(au:0≤b∧b<512):gN S i b=(S.put i ⟨flip (S.at i).tx b,(S.at i).nx,(S.at i).dt,(S.at i).wn⟩,0):=by unfold gN;rw [if_pos ⟨h,au⟩]
theorem wm{S:aX}{i b:Int}(h:¬ ((0≤i∧i<S.s.length)∧0≤b∧b<512)):gN S i b=(S,1):=by unfold gN;rw [if_neg h]
theorem C5{S:aX}{i:Int}(h:0≤i∧i<S.s.length):k7 S i=(S.put i ⟨(S.at i).tx,(S.at i).nx,(S.at i).dt,true⟩,0):=by unfold k7;rw [if_pos h]
theorem C4{S:aX}{i:Int}(h:¬ (0≤i∧i<S.s.length)):k7 S i=(S,1):=by unfold k7;rw [if_neg h]
theorem ahc{S:aX}{i:Int}(h:0≤i∧i<S.s.length):bl (S.put i ⟨(S.at i).tx,(S.at i).nx,(S.at i).dt,true⟩)=bl S:=DT h rfl
theorem aeR{S:aX}{i b:Int}(h:0≤i∧i<S.s.length):(bl S).set i.toNat (((bl S).getD i.toNat []).set (b/8).toNat (((bl S).getD i.toNat []).getD (b/8).toNat 0 ^^^ s4 b))=bl (S.put i ⟨flip (S.at i).tx b,(S.at i).nx,(S.at i).dt,(S.at i).wn⟩):=by
 rw [DS,uZ h]
 rfl
end ao
end
section
namespace ao
open Go Go.aJ
theorem NJ(ps:List Int)(m:Nat):∀ (l:List ee) (k:Nat),(kG ps m k l).length=l.length
 | [],_=>rfl
 | x::l,k=>by
  unfold kG
  split <;> rw [List.length_cons,List.length_cons,NJ ps m l]
theorem vQ(ps:List Int)(m:Nat):∀ (l:List ee) (k:Nat),m≤k→kG ps m k l=l
 | [],_,_=>rfl
 | x::l,k,h=>by
  unfold kG
  split
  ·rw [if_neg (by omega),vQ ps m l (k+1) (by omega)]
  ·rw [vQ ps m l k h]
theorem GO(ps:List Int)(m:Nat):∀ (l:List ee) (k q:Nat),k+(e9 (·.dt) q l).length≤m→kG ps m k l=gv ps k l
 | [],_,_,_=>rfl
 | x::l,k,q,h=>by
  unfold e9 at h
  unfold kG gv
  by_cases aT:x.dt=true
  ·rw [if_pos aT,List.length_cons] at h
   rw [if_pos aT,if_pos aT,if_pos (by omega),GO ps m l (k+1) (q+1) (by omega)]
  ·rw [if_neg aT] at h
   rw [if_neg aT,if_neg aT,GO ps m l k (q+1) h]
theorem GP(ps:List Int)(m:Nat):∀ (l:List ee) (k q:Nat),k≤m→m<k+(e9 (·.dt) q l).length →
  ∃ j,(e9 (·.dt) q l).getD (m-k) 0=(q:Int)+(j:Nat)∧j<l.length∧(l.getD j cG).dt=true∧(kG ps m k l).getD j cG=l.getD j cG∧kG ps (m+1) k l=(kG ps m k l).set j (jg (l.getD j cG) (k3 ps m))
 | [],k,q,_,h=>by simp [e9] at h;omega
 | x::l,k,q,aD,h=>by
  by_cases aT:x.dt=true
  ·have e:e9 (·.dt) q (x::l)=(q:Int)::e9 (·.dt) (q+1) l:=by rw [e9,if_pos aT]
   rw [e] at h ⊢
   rw [List.length_cons] at h
   by_cases hm:m=k
   ·subst hm
    refine ⟨0,by simp,by simp,aT,?_,?_⟩
    ·rw [vQ ps m _ _ (Nat.le_refl _)]
    ·rw [vQ ps m _ _ (Nat.le_refl _)]
     unfold kG
     rw [if_pos aT,if_pos (by omega),vQ ps (m+1) l (m+1) (Nat.le_refl _)]
     rfl
   ·obtain ⟨j,h1,aq,aQ,bH,cN⟩:=GP ps m l (k+1) (q+1) (by omega) (by omega)
    refine ⟨j+1,?_,by simpa using aq,by simpa using aQ,?_,?_⟩
    ·rw [show m-k=(m-(k+1))+1 by omega,List.getD_cons_succ,h1];omega
    ·rw [kG,if_pos aT,List.getD_cons_succ,bH,List.getD_cons_succ]
    ·rw [kG,if_pos aT,kG,if_pos aT,cN,if_pos (by omega),if_pos (by omega),List.getD_cons_succ,List.set_cons_succ]
  ·have e:e9 (·.dt) q (x::l)=e9 (·.dt) (q+1) l:=by rw [e9,if_neg aT]
   rw [e] at h ⊢
   obtain ⟨j,h1,aq,aQ,bH,cN⟩:=GP ps m l k (q+1) aD h
   refine ⟨j+1,?_,by simpa using aq,by simpa using aQ,?_,?_⟩
   ·rw [h1];omega
   ·rw [kG,if_neg aT,List.getD_cons_succ,bH,List.getD_cons_succ]
   ·rw [kG,if_neg aT,kG,if_neg aT,cN,List.getD_cons_succ,List.set_cons_succ]
def kh(S:aX)(ps:List Int)(j:Nat):aX:=⟨kG ps j 0 S.s,S.off,S.left⟩
theorem NS(S:aX)(ps:List Int):kh S ps 0=S:=by unfold kh;rw [vQ ps 0 _ _ (Nat.le_refl _)]
theorem ab1(S:aX)(ps:List Int)(j:Nat):(kh S ps j).s.length=S.s.length:=NJ _ _ _ _
theorem NT(S:aX)(ps:List Int){j:Nat}(h:(hS S).length≤j):kh S ps j=⟨gv ps 0 S.s,S.off,S.left⟩:=by unfold kh;rw [GO ps j _ _ 0 (by unfold hS at h;omega)]
theorem NU(S:aX)(ps:List Int){j:Nat}(h:j<(hS S).length):(0≤(hS S).getD j 0∧(hS S).getD j 0<(kh S ps j).s.length)∧((kh S ps j).at ((hS S).getD j 0)).dt=true∧(kh S ps j).put ((hS S).getD j 0) (jg ((kh S ps j).at ((hS S).getD j 0)) (k3 ps j))=kh S ps (j+1):=by
 obtain ⟨i,h1,aq,aQ,bH,cN⟩:=GP ps j S.s 0 0 (Nat.zero_le _) (by unfold hS at h;omega)
 have aG:(hS S).getD j 0=(i:Int):=by unfold hS;rw [show j=j-0 by omega,h1];simp
 rw [aG]
 have a7:(kh S ps j).at (i:Int)=S.s.getD i cG:=by unfold kh aX.at;rw [Int.toNat_natCast];exact bH
 refine ⟨⟨by omega,by rw [ab1];omega⟩,by rw [a7];exact aQ,?_⟩
 rw [a7]
 unfold aX.put kh
 rw [Int.toNat_natCast,cN]
theorem J6{S:aX}(h:Ok S){x:Int}(aL:x∈hS S):0≤x∧x<4096:=by
 have:=(BH _ _ _ _).1 aL
 have:=h.aG
 omega
theorem jE{α:Type}{l:List α}{j:Nat}{d:α}(h:j<l.length):l.getD j d∈l:=by
 rw [List.getD_eq_getElem?_getD,List.getElem?_eq_getElem h];exact List.getElem_mem _
theorem Ed(S:aX):(hS S).length≤S.s.length:=Gw _ _ _
theorem ac3{ps:List Int}(h:∀ x∈ps, -9223372036854775808≤x∧x≤9223372036854775807)(j:Nat) : -9223372036854775808≤k3 ps j∧k3 ps j≤9223372036854775807:=by
 unfold k3
 split
 ·exact h _ (jE ‹_›)
 ·decide
theorem Ow{ps:List Int}{j:Nat}(h:j<ps.length):k3 ps j=ps.getD j 0:=by unfold k3;rw [if_pos h]
theorem Ox{ps:List Int}{j:Nat}(h:¬ j<ps.length):k3 ps j=64:=by unfold k3;rw [if_neg h]
theorem ac2(j:Nat):k3 [] j=64:=rfl
theorem AL{S:aX}(h:S.off=true):flush S=(S,23):=by unfold flush;rw [if_pos h]
theorem AM{S:aX}(h:S.off=false)(aq:(step S).2≠0):flush S=step S:=by unfold flush;rw [if_neg (by rw [h];simp),if_pos aq]
theorem KQ{S:aX}(h:S.off=false)(aq:(step S).2=0):flush S=(kh (step S).1 [] (hS (step S).1).length,0):=by unfold flush;rw [if_neg (by rw [h];simp),if_neg (by omega),NT _ _ (Nat.le_refl _)]
theorem Tx{S:aX}(h:Ok S):check S 0=if S.off then 23 else 0:=by
 unfold check
 split
 ·rfl
 ·rw [if_pos ⟨Int.le_refl _,by have:=h.lo;omega⟩]
theorem GY{S:aX}(h:Ok S)(bu:check S 0≠0):S.off=true∧check S 0=23:=by
 rw [Tx h] at bu ⊢
 cases cB:S.off with
 | true=>exact ⟨rfl,rfl⟩
 | false=>rw [cB] at bu;simp at bu
theorem abS{S:aX}{f:Int→Option Value}(bw:∀ i,(f i).isSome=true→0≤i∧i<S.s.length)(bB:Ok S){m:List (Int×Value)}(h:jm f m):∀ i∈m.map (·.1), -9223372036854775808≤i∧i≤9223372036854775807:=fun i aG=>by
 have:=bw i ((h.mem i).1 aG)
 have:=bB.aG
 omega
theorem ac0{S:aX}(i:Int)(h:(jG S i).isSome=true):0≤i∧i<S.s.length:=by
 unfold jG at h
 split at h
 ·rename_i h1;exact h1.1
 ·cases h
theorem aa1{S:aX}(bB:Ok S){m:List (Int×Value)}(h:jm (jG S) m):m.length≤4096:=by
 have h1:=congrArg List.length (M5 h)
 rw [List.length_mergeSort,List.length_map] at h1
 have:=Ed S
 have:=bB.aG
 omega
def zY(kO kN uP:TypeId)(h:hr)(S:aX)(n:Nat)(cs:List Value):Value→List aP→List av→Prop:=fun r zs hs=>zs=[]∧∃ cj ck cr ct,hs=[.row r uP 1 n cs,cj,ck,cr,ct]∧ng kO kN h S cj ck cr ct
theorem Uk{kO kN uP:TypeId}{h:hr}{S:aX}{n uc:Nat}{cs cs':List Value}{r:Value}{zs:List aP}{hs:List av}(aT:zY kO kN uP h S n cs r zs hs)(bK:n=uc)(bV:cs=cs'):zY kO kN uP h S uc cs' r zs hs:=bK ▸ bV ▸ aT
def ptr(b:Nat):Value:=.pointer (some ⟨b,0,none⟩)
def R8(kO kN:TypeId)(S:aX)(f:Value→Value):Value→List aP→List av→Prop:=fun r zs hs=>zs=[]∧∃ (h:hr) (cj ck cr ct:av),r=f (.pointer (some ⟨h.b,0,none⟩))∧hs=[cj,ck,cr,ct]∧ng kO kN h S cj ck cr ct
def R7(kO kN:TypeId)(h:hr)(S:aX):Value→List aP→List av→Prop:=fun r zs hs=>zs=[]∧∃ (aq:hr) (iM jc jd jU cj ck cr ct:av),r=.pointer (some ⟨aq.b,0,none⟩)∧hs=[iM,jc,jd,jU,cj,ck,cr,ct]∧ng kO kN aq S iM jc jd jU∧ng kO kN h S cj ck cr ct
def alA(S:aX)(k:Nat):List (List UInt8):=(image S).take k++List.replicate (S.s.length-k) []
end ao
namespace ao
open Go Go.aJ
theorem ab9(n:Nat):(List.replicate n (List.replicate 64 (Value.int .u8 0))).flatten=(bl (new n)).flatten.map bf:=by
 unfold bl new
 rw [List.map_replicate,List.map_flatten,List.map_replicate]
 rfl
theorem vR(n:Nat):(new n).s.length=n:=by simp [new]
theorem N1{n:Nat}{i:Int}(h:0≤i∧i<(new n).s.length):(new n).at i=⟨z64,[],false,false⟩:=by
 rw [vR] at h
 unfold aX.at new
 rw [List.getD_eq_getElem?_getD,List.getElem?_eq_getElem (by rw [List.length_replicate];omega),List.getElem_replicate]
 rfl
theorem aca(n:Nat)(i:Int):jG (new n) i=none:=by
 unfold jG
 split
 ·rename_i h;rw [N1 h.1] at h;exact absurd h.2 (by simp)
 ·rfl
theorem ace(n:Nat)(i:Int):pq (new n) i=none:=by
 unfold pq
 split
 ·rename_i h;rw [N1 h.1] at h;exact absurd h.2 (by simp)
 ·rfl
theorem abT(S:aX)(ps:List Int){j:Nat}(h:(hS S).length≤j):(⟨(kh S ps j).s,false, -1⟩:aX)=hz S ps:=by rw [NT S ps h];rfl
end ao
end
section
namespace ao
open Go Go.aJ
abbrev xd(ln:TypeId)(b:Nat)(v:Value)(S:aX):av:=.blk b ln [v,.bool S.off,az S.left]
abbrev rh(jn:TypeId)(v:Value)(S:aX):av:=.row v jn 4 S.s.length (S.s.flatMap ov)
def DF(ln jn:TypeId)(b:Nat)(v:Value)(S:aX)(x:Value):Value→List aP→List av→Prop:=fun r zs hs=>r=x∧zs=[]∧hs=[xd ln b v S,rh jn v S]
theorem je{ln jn:TypeId}{b:Nat}{v:Value}{S oL:aX}{x x' r:Value}{zs:List aP}{hs:List av}(aT:DF ln jn b v S x r zs hs)(bK:S=oL)(bV:x=x'):DF ln jn b v oL x' r zs hs:=bK ▸ bV ▸ aT
def Jv(ln jn uP:TypeId)(b:Nat)(v:Value)(S:aX)(n:Nat)(cs:List Value):Value→List aP→List av→Prop:=fun r zs hs=>zs=[]∧hs=[.row r uP 1 n cs,xd ln b v S,rh jn v S]
theorem xq{S:aX}{i:Int}(h:0≤i∧i<S.s.length):S.s[i.toNat]?=some (S.at i):=by
 unfold aX.at
 rw [List.getD_eq_getElem?_getD,List.getElem?_eq_getElem (by omega)]
 rfl
theorem afC(l:List ee):∀ u∈l.flatMap ov,u.oneCell'=true:=fun u hu=>by
 obtain ⟨x,_,h⟩:=List.mem_flatMap.1 hu
 exact HV x u h
theorem BS(ps:List Int):∀ (iI l2:List ee) (k q:Nat),gv ps k (iI++l2)=gv ps k iI++gv ps (k+(e9 (·.dt) q iI).length) l2
 | [],_,_,_=>rfl
 | x::iI,l2,k,q=>by
  rw [List.cons_append,gv,gv,e9]
  by_cases aT:x.dt=true
  ·rw [if_pos aT,if_pos aT,if_pos aT,BS ps iI l2 (k+1) (q+1),List.cons_append,List.length_cons]
   rw [show k+1+(e9 (·.dt) (q+1) iI).length=k+((e9 (·.dt) (q+1) iI).length+1) by omega]
  ·rw [if_neg aT,if_neg aT,if_neg aT,BS ps iI l2 k (q+1),List.cons_append]
theorem MR(p:ee→Bool):∀ (iI l2:List ee) (q:Nat),e9 p q (iI++l2)=e9 p q iI++e9 p (q+iI.length) l2
 | [],_,_=>rfl
 | x::iI,l2,q=>by
  rw [List.cons_append,e9,e9,MR p iI l2 (q+1),List.length_cons,show q+1+iI.length=q+(iI.length+1) by omega]
  split <;> rfl
def bh(S:aX)(i:Nat):Nat:=(e9 (·.dt) 0 (S.s.take i)).length
def gx(S:aX)(ps:List Int)(i:Nat):aX:=⟨gv ps 0 (S.s.take i)++S.s.drop i,S.off,S.left⟩
theorem P2(S:aX)(ps:List Int):gx S ps 0=S:=by unfold gx;rw [List.take_zero,List.drop_zero];rfl
theorem CE(S:aX)(ps:List Int)(i:Nat):(gx S ps i).s.length=S.s.length:=by
 unfold gx
 dsimp only
 rw [List.length_append,o6,List.length_take,List.length_drop];omega
theorem P3(S:aX)(ps:List Int){i:Nat}(h:S.s.length≤i):gx S ps i=⟨gv ps 0 S.s,S.off,S.left⟩:=by unfold gx;rw [List.take_of_length_le h,List.drop_eq_nil_of_le h,List.append_nil]
theorem zh(S:aX)(ps:List Int){i:Nat}(h:i<S.s.length):(gx S ps i).at (i:Int)=S.at (i:Int):=by
 unfold gx aX.at
 dsimp only
 rw [Int.toNat_natCast,List.getD_eq_getElem?_getD,List.getElem?_append_right (by rw [o6,List.length_take];omega),o6,List.length_take,show i-min i S.s.length=0 by omega,List.getElem?_drop,Nat.add_zero,← List.getD_eq_getElem?_getD]
theorem take_one(S:aX){i:Nat}(h:i<S.s.length):S.s.take (i+1)=S.s.take i++[S.at (i:Int)]:=by
 rw [List.take_add_one]
 have:=xq (S:=S) (i:=(i:Int)) ⟨by omega,by omega⟩
 rw [Int.toNat_natCast] at this
 rw [this];rfl
theorem xy(S:aX){i:Nat}(h:i<S.s.length):bh S (i+1)=if (S.at (i:Int)).dt=true then bh S i+1 else bh S i:=by
 unfold bh
 rw [take_one S h,MR,List.length_append]
 rw [e9]
 split <;> rfl
theorem drop_one(S:aX){i:Nat}(h:i<S.s.length):S.s.drop i=S.at (i:Int)::S.s.drop (i+1):=by
 have:=xq (S:=S) (i:=(i:Int)) ⟨by omega,by omega⟩
 rw [Int.toNat_natCast,List.getElem?_eq_getElem h,Option.some.injEq] at this
 rw [← this]
 exact List.drop_eq_getElem_cons h
theorem P4(S:aX)(ps:List Int){i:Nat}(h:i<S.s.length)(aT:(S.at (i:Int)).dt=false):gx S ps i=gx S ps (i+1):=by
 unfold gx
 rw [take_one S h,BS ps _ _ 0 0,drop_one S h]
 have:gv ps (0+(e9 (·.dt) 0 (S.s.take i)).length) [S.at (i:Int)]=[S.at (i:Int)]:=by
  rw [gv,if_neg (by rw [aT];simp)];rfl
 rw [this,List.append_assoc];rfl
theorem P5(S:aX)(ps:List Int){i:Nat}(h:i<S.s.length)(aT:(S.at (i:Int)).dt=true):(gx S ps i).put (i:Int) (jg ((gx S ps i).at (i:Int)) (k3 ps (bh S i)))=gx S ps (i+1):=by
 rw [zh S ps h]
 unfold aX.put gx
 dsimp only
 rw [take_one S h,BS ps _ _ 0 0,drop_one S h,Int.toNat_natCast]
 have:gv ps (0+(e9 (·.dt) 0 (S.s.take i)).length) [S.at (i:Int)]=[jg (S.at (i:Int)) (k3 ps (bh S i))]:=by
  rw [gv,if_pos aT,Nat.zero_add];rfl
 rw [this,List.set_append_right _ _ (by rw [o6,List.length_take];omega),o6,List.length_take,show i-min i S.s.length=0 by omega,List.set_cons_zero,List.append_assoc];rfl
theorem kl{S:aX}(h:Ok S)(ps:List Int)(i:Nat):Ok (gx S ps i):=by
 refine ⟨fun x aL=>?_,by rw [CE];exact h.lo,by rw [CE];exact h.aG,h.lf,h.h9⟩
 unfold gx at aL
 rcases List.mem_append.1 aL with aL | aL
 ·exact BT ps _ _ (fun y cS=>h.sec y (List.mem_of_mem_take cS)) x aL
 ·exact h.sec x (List.mem_of_mem_drop aL)
theorem KR{S:aX}(h:S.off=false)(aq:(step S).2=0){i:Nat}(aG:(step S).1.s.length≤i):flush S=(gx (step S).1 [] i,0):=by unfold flush;rw [if_neg (by rw [h];simp),if_neg (by omega),P3 _ _ aG]
theorem abU(S:aX)(ps:List Int){i:Nat}(h:S.s.length≤i):(⟨(gx S ps i).s,false, -1⟩:aX)=hz S ps:=by rw [P3 S ps h];rfl
theorem acd(n:Nat):(new (n+1)).s=(new n).s++[⟨z64,[],false,false⟩]:=by unfold new;dsimp only;rw [List.replicate_succ']
def MS(p:ee→Bool)(S:aX)(i:Nat):List Int:=e9 p 0 (S.s.take i)
theorem aag(p:ee→Bool)(S:aX)(i:Nat):(MS p S i).length≤S.s.length:=by
 have:=Gw p (S.s.take i) 0
 rw [List.length_take] at this
 unfold MS
 omega
end ao
namespace ao
open Go Go.aJ
theorem afF{S:aX}{i:Int}{x:ee}(h:0≤i∧i<S.s.length):(S.s.set i.toNat x)[i.toNat]?=some x:=by
 rw [List.getElem?_set,if_pos rfl,if_pos (by omega)]
theorem zk{jn:TypeId}{v:Value}{S:aX}{i:Int}{x:ee}:av.row v jn 4 S.s.length ((S.s.set i.toNat x).flatMap ov)=rh jn v (S.put i x):=by
 unfold rh aX.put
 dsimp only
 rw [List.length_set]
theorem afb{jn:TypeId}{v:Value}{S:aX}{i:Int}{x y:ee}:av.row v jn 4 S.s.length (((S.s.set i.toNat x).set i.toNat y).flatMap ov)=rh jn v (S.put i y):=by
 rw [List.set_set];exact zk
theorem RG{S:aX}{i:Int}{t:List UInt8}(h1:S.off=false)(aq:¬ (0≤i∧i<S.s.length)∨¬ (t.length:Int)=64):S=(write S i t).1∧(1:Int)=(write S i t).2:=by
  by_cases aG:0≤i∧i<S.s.length
  · have bu:=pB (S:=S) (i:=i) (by rw [h1];simp) aG
    rw [IE bu (by rcases aq with h | h;· exact absurd aG h
                  · omega)]
    exact ⟨rfl,rfl⟩
  · have bu:=Aw (S:=S) (i:=i) (by rw [h1];simp) aG
    rw [zT (by omega),bu]
    exact ⟨rfl,rfl⟩
theorem Qs(x:ee)(p:Int):jg x p=if x.wn then ⟨x.tx,[],false,x.wn⟩ else ⟨x.nx.take (gZ p)++x.tx.drop (gZ p),[],false,x.wn⟩:=by
 unfold jg
 split <;> rfl
end ao
namespace ao
theorem PQ{S:aX}{i b:Int}(h:(¬ (0≤i∧i<S.s.length)∨b<0)∨511<b):¬ ((0≤i∧i<S.s.length)∧0≤b∧b<512):=by
 rintro ⟨h1,aq⟩
 rcases h with (h | h) | h
 ·exact h h1
 ·omega
 ·omega
end ao
namespace ao
theorem ach{b:Bool}(h:(!b)=true):b=false:=by cases b <;> simp_all
theorem acg{b:Bool}(h:(!b)=false):b=true:=by cases b <;> simp_all
end ao
namespace ao
theorem Az(S:aX)(i:Nat):bh S i≤S.s.length:=aag _ S i
end ao
namespace ao
open Go Go.aJ
theorem acb{ln jn:TypeId}{b:Nat}{v:Value}{i:Nat}:([.blk b ln [v,.bool false,az (-1)],.row v jn 4 i ((new i).s.flatMap ov)]:List av)=[xd ln b v (new i),rh jn v (new i)]:=by
 unfold xd rh
 rw [vR]
 rfl
end ao
end
section
namespace ao
open Go Go.aJ
theorem Eo{f:Nat}{s:List UInt8}(h:0<s.length∧s.length<64)(bw:64≤f+s.length):fill f s=fill (f-1) (s++s.drop (s.length-1)):=by
 obtain ⟨g,rfl⟩:∃ g,f=g+1:=⟨f-1,by omega⟩
 rw [fill,if_pos h];rfl
def am9{α:Type}(d:α)(a b:List α)(i:Nat):Prop:=∀ k,k<i→a.getD k d=b.getD k d
def ai8(c:UInt8)(i:Nat):List UInt8:=List.replicate i c++List.replicate (64-i) 0
end ao
namespace ao
end ao
end
section
namespace ao
open Go Go.aJ
def a64:List UInt8:=List.replicate 64 97
def JI:List UInt8:=List.replicate 64 98
def ag:aX:=new 2
def cj:aX:=(write ag 0 a64).1
def ck:aX:=hz cj [3]
def cr:aX:=(write ck 1 a64).1
def ct:aX:=(flush cr).1
def G9:aX:=(gN ct 1 0).1
def adh:aX:=(k7 G9 0).1
def OF:aX:=hp adh 1
def OG:aX:=(write OF 0 JI).1
def OH:aX:=(flush OG).1
theorem bK:(write ag 0 a64).2=0:=by decide +kernel
theorem b8:read cj 0=(a64,0):=by decide +kernel
theorem i1:image cj=[z64,z64]:=by decide +kernel
theorem iM:hS cj=[0]:=by decide +kernel
theorem cL:read ck 0=([97,97,97]++z64.drop 3,0):=by decide +kernel
theorem iy:(flush cr).2=0:=by decide +kernel
theorem pE:(gN ct 1 0).2=0:=by decide +kernel
theorem wg:read G9 1=(96::List.replicate 63 97,0):=by decide +kernel
theorem Kp:(k7 G9 0).2=0:=by decide +kernel
theorem Kq:(write OF 0 JI).2=0:=by decide +kernel
theorem xD:(flush OG).2=23:=by decide +kernel
theorem mJ:read OH 0=([],23):=by decide +kernel
theorem BM:OH.s.length=2:=by decide +kernel
theorem iI:cj.s.length=2:=by decide +kernel
end ao
end
section
namespace ao
open Go Go.aJ
end ao
end
section
namespace ao
open Go Go.aJ
def now(x:ee):List UInt8:=if x.dt then x.nx else x.tx
def cur(S:aX):List (List UInt8):=S.s.map now
structure Calm (S:aX):Prop where
 off:S.off=false
 left:S.left = -1
 wn:∀ x∈S.s,x.wn=false
theorem NK(ps:List Int):∀ (l:List ee) (k:Nat),(∀ x∈l,x.dt=false)→gv ps k l=l
 | [],_,_=>rfl
 | x::l,k,h=>by
  unfold gv
  rw [if_neg (by rw [h x List.mem_cons_self];simp),NK ps l k fun y cS=>h y (List.mem_cons_of_mem _ cS)]
def b0(n i:Nat):List (List UInt8):=List.replicate i z64++List.replicate (n-i) []
end ao
end
section
namespace ao
open Go Go.aJ
theorem GN(ps:List Int):∀ (l:List ee) (k q i:Nat),i<l.length→(gv ps k l).getD i cG=if (l.getD i cG).dt=true then jg (l.getD i cG) (k3 ps (k+(e9 (·.dt) q (l.take i)).length)) else l.getD i cG
 | [],_,_,i,h=>by simp at h
 | x::l,k,q,0,_=>by
  unfold gv
  by_cases aT:x.dt=true
  ·rw [if_pos aT,List.getD_cons_zero,List.getD_cons_zero,if_pos aT];rfl
  ·rw [if_neg aT,List.getD_cons_zero,List.getD_cons_zero,if_neg aT]
 | x::l,k,q,i+1,h=>by
  have aG:i<l.length:=by simpa using h
  unfold gv
  rw [List.take_succ_cons,e9]
  by_cases aT:x.dt=true
  ·rw [if_pos aT,if_pos aT,List.getD_cons_succ,List.getD_cons_succ,GN ps l (k+1) (q+1) i aG,List.length_cons,show k+1+(e9 (·.dt) (q+1) (l.take i)).length=k+((e9 (·.dt) (q+1) (l.take i)).length+1) by omega]
  ·rw [if_neg aT,if_neg aT,List.getD_cons_succ,List.getD_cons_succ,GN ps l k (q+1) i aG]
theorem NM(S:aX)(ps:List Int):(hz S ps).s.length=S.s.length:=o6 _ _ _
end ao
end
