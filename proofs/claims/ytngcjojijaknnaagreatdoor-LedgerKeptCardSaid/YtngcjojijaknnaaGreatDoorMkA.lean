/- walks and plain laws -/
import Derived.Test.YtngcjojijaknnaaGreatDoorFwA
import Derived.Test.YtngcjojijaknnaaGreatDoorFwD
import Derived.Test.YtngcjojijaknnaaGreatDoorGuA
import Derived.Test.YtngcjojijaknnaaGreatDoorShW
import Derived.Lib.Bytealg
set_option linter.all false
section
/- Keys in their order; rows of leaves, in plain words. -/
namespace Go.aK
namespace bs
abbrev cS:=List UInt8×List UInt8
def lt(a b:List UInt8):Bool:=Op.bytesLess a b
theorem Pu(a:List UInt8):lt a []=false:=by cases a <;> rfl
theorem Ij(a b:UInt8)(x y:List UInt8):lt (a::x) (b::y)=(decide (a<b) || (a == b&&lt x y)):=rfl
theorem Ps:∀ a:List UInt8,lt a a=false
 | []=>rfl
 | a::x=>by
  rw [Ij,Ps x]
  have:¬ a<a:=UInt8.lt_irrefl a
  simp [this]
theorem Pq:∀ {a b:List UInt8},lt a b=true→lt b a=false
 | _,[],h=>by rw [Pu] at h;cases h
 | [],b::y,_=>Pu _
 | a::x,b::y,h=>by
  rw [Ij] at h ⊢
  simp only [Bool.or_eq_true,decide_eq_true_eq,Bool.and_eq_true,beq_iff_eq] at h
  rw [Bool.or_eq_false_iff,decide_eq_false_iff_not]
  rcases h with h | ⟨rfl,h⟩
  ·refine ⟨fun ar=>UInt8.lt_irrefl _ (UInt8.lt_trans h ar),?_⟩
   have:b≠a:=fun e=>by subst e;exact UInt8.lt_irrefl _ h
   simp [this]
  ·exact ⟨UInt8.lt_irrefl _,by simp [Pq h]⟩
theorem Pr:∀ {a b:List UInt8},lt a b=false→lt b a=false→a=b
 | [],[],_,_=>rfl
 | [],b::y,h,_=>by cases h
 | a::x,[],_,h=>by cases h
 | a::x,b::y,h1,ar=>by
  rw [Ij] at h1 ar
  simp only [Bool.or_eq_false_iff,decide_eq_false_iff_not,UInt8.not_lt] at h1 ar
  have e:a=b:=UInt8.le_antisymm ar.1 h1.1
  subst e
  simp only [beq_self_eq_true,Bool.true_and] at h1 ar
  rw [Pr h1.2 ar.2]
end bs
end Go.aK
end
section
/- Trees of rows: digests, sides, and what is made of them. -/
namespace Go.aK
namespace bs
def half(n:Nat):Nat:=2^Nat.log2 (n-1)
theorem wQ(n:Nat):1≤half n:=Nat.one_le_two_pow
theorem uP{n:Nat}(h:2≤n):half n<n:=by
 have:=Nat.log2_self_le (n:=n-1) ag
 unfold half;omega
theorem Z3{n j:Nat}(h1:2^j<n)(ar:¬ 2*2^j<n):half n=2^j:=by
 unfold half
 congr 1
 refine (Nat.log2_eq_iff ag).2 ⟨by omega,?_⟩
 rw [Nat.pow_succ];omega
abbrev eG:=List UInt8
def rP(x:cS):eG:=aL.ju 3 [x.1,x.2]
def qJ(a b:eG):eG:=aL.ju 4 [a,b]
def kx(n:Nat)(d:eG):eG:=if n=0 then aL.ju 4 [aF.int 0] else aL.ju 4 [aF.int n,d]
theorem Ii(x:cS):(rP x).length=16:=aL.o2 _ _
theorem Ix(a b:eG):(qJ a b).length=16:=aL.o2 _ _
theorem DX(n:Nat)(d:eG):(kx n d).length=16:=by unfold kx;split <;> exact aL.o2 _ _
def p5:Nat→List cS→eG
 | 0,_=>[]
 | f+1,ls=>if ls.length≤1 then rP (ls.getD 0 dk) else qJ (p5 f (ls.take (half ls.length))) (p5 f (ls.drop (half ls.length)))
def jJ(ls:List cS):eG:=p5 ls.length ls
theorem D1:∀ (f g:Nat) (ls:List cS),1≤ls.length→ls.length≤f→ls.length≤g→p5 f ls=p5 g ls
 | 0,_,ls,h,h1,_=>absurd h ag
 | _+1,0,ls,h,_,ar=>absurd h ag
 | f+1,g+1,ls,h,h1,ar=>by
  rw [p5,p5]
  split
  ·rfl
  ·have hl:=uP (n:=ls.length) ag
   have bO:=wQ ls.length
   rw [D1 f g (ls.take _) (by rw [List.length_take];omega) (by rw [List.length_take];omega) (by rw [List.length_take];omega),D1 f g (ls.drop _) (by rw [List.length_drop];omega) (by rw [List.length_drop];omega) (by rw [List.length_drop];omega)]
theorem RT{ls:List cS}(h:ls.length=1):jJ ls=rP (ls.getD 0 dk):=by
 unfold jJ;rw [h,p5,if_pos ag]
theorem RU{ls:List cS}(h:2≤ls.length):jJ ls=qJ (jJ (ls.take (half ls.length))) (jJ (ls.drop (half ls.length))):=by
 have hl:=uP h
 have bO:=wQ ls.length
 have e:p5 ls.length ls=p5 (ls.length-1+1) ls:=by rw [show ls.length-1+1=ls.length by omega]
 unfold jJ
 rw [e,p5,if_neg ag,D1 (ls.length-1) (ls.take (half ls.length)).length _ (by rw [List.length_take];omega) (by rw [List.length_take];omega) (Nat.le_refl _),D1 (ls.length-1) (ls.drop (half ls.length)).length _ (by rw [List.length_drop];omega) (by rw [List.length_drop];omega) (Nat.le_refl _)]
theorem AL{ls:List cS}(h:1≤ls.length):(jJ ls).length=16:=by
 by_cases h1:ls.length=1
 ·rw [RT h1];exact Ii _
 ·rw [RU ag];exact Ix _ _
def Jz(first en:Nat):Nat→List cS→Nat→List eG
 | 0,_,_=>[]
 | f+1,ls,a=>if a+ls.length≤first∨en≤a then [jJ ls] else if ls.length≤1 then [] else Jz first en f (ls.take (half ls.length)) a++Jz first en f (ls.drop (half ls.length)) (a+half ls.length)
def ahY(first en:Nat)(ls:List cS)(a:Nat):List eG:=Jz first en ls.length ls a
def Fu(first:Nat)(lv:List cS):Nat→Nat→Nat→List eG→Option (eG×List eG)
 | 0,_,_,_=>none
 | f+1,n,a,sd=>
  if a+n≤first∨first+lv.length≤a then
   match sd with
   | []=>none
   | d::t=>some (d,t)
  else if n≤1 then some (rP (lv.getD (a-first) dk),sd)
  else match Fu first lv f (half n) a sd with
   | none=>none
   | some (x,s1)=>match Fu first lv f (n-half n) (a+half n) s1 with
    | none=>none
    | some (y,s2)=>some (qJ x y,s2)
def V3(first:Nat)(lv:List cS)(n a:Nat)(sd:List eG):Option (eG×List eG):=Fu first lv n n a sd
section
variable {first:Nat}{lv:List cS}{n a:Nat}{sd:List eG}
end
end bs
end Go.aK
end
section
/- Lists of leaves that are in order. -/
namespace Go.aK
namespace bs
def lx(x:cS):Bool:=decide (65536<x.1.length) || decide (65536<x.2.length)
def nW(ls:List cS):Nat→Bool
 | 0=>true
 | n+1=>nW ls n&&(decide (n=0) || lt (ls.getD (n-1) dk).1 (ls.getD n dk).1)
def jK(ls:List cS):Int:=if 4096<ls.length∨ls.any lx=true then 4 else if nW ls ls.length=true then 0 else 1
def T5(ls:List cS):Prop:=∀ i,i+1<ls.length→lt (ls.getD i dk).1 (ls.getD (i+1) dk).1=true
theorem Fe{ls:List cS}:∀ n,nW ls n=true→∀ i,i+1<n→lt (ls.getD i dk).1 (ls.getD (i+1) dk).1=true
 | 0,_,i,aH=>absurd aH ag
 | n+1,h,i,aH=>by
  rw [nW,Bool.and_eq_true] at h
  by_cases iK:i+1=n
  ·have ar:=h.2
   rw [show decide (n=0)=false from decide_eq_false ag,Bool.false_or,show n-1=i by omega,← iK] at ar
   exact ar
  ·exact Fe n h.1 i ag
theorem Td{ls:List cS}(h:jK ls=0):T5 ls∧ls.length≤4096∧∀ x∈ls,x.1.length≤65536∧x.2.length≤65536:=by
 unfold jK at h
 split at h
 ·cases h
 ·rename_i h1
  split at h
  ·rename_i ar
   refine ⟨fun i aH=>Fe _ ar i aH,by omega,fun x aM=>?_⟩
   have aQ:ls.any lx=false:=by
    cases bF:ls.any lx with
    | true=>exact absurd (.inr bF) h1
    | false=>rfl
   have:=List.any_eq_false.1 aQ x aM
   simp only [lx,Bool.or_eq_true,decide_eq_true_eq,not_or] at this
   omega
  ·cases h
def Nj(ls:List cS)(k:List UInt8):Nat→Nat
 | 0=>0
 | n+1=>Nj ls k n+(if lt (ls.getD n dk).1 k=true then 1 else 0)
def kn(ls:List cS)(k:List UInt8):Nat:=Nj ls k ls.length
def al7(ls:List cS)(k:List UInt8):Option Nat:=if kn ls k<ls.length∧(ls.getD (kn ls k) dk).1=k then some (kn ls k) else none
end bs
end Go.aK
end
section
/- What the small functions over leaves compute. -/
namespace Go.aK
namespace bs
def kN(p:cS→Bool)(xs:List cS):Int:=match xs.findIdx? p with
 | some k=>k
 | none => -1
theorem H5{p:cS→Bool}{xs:List cS}{i:Nat}(aH:i<xs.length)(bO:p (xs.getD i dk)=true)(bD:∀ j,j<i→p (xs.getD j dk)=false):kN p xs=i:=by
 have:xs.findIdx? p=some i:=by
  rw [List.findIdx?_eq_some_iff_getElem]
  refine ⟨aH,by simpa [aH] using bO,fun j aV=>?_⟩
  have:=bD j aV
  have sW:j<xs.length:=by omega
  simpa [sW] using this
 unfold kN
 rw [this]
theorem C6{p:cS→Bool}{xs:List cS}(bD:∀ j,j<xs.length→p (xs.getD j dk)=false):kN p xs = -1:=by
 have:xs.findIdx? p=none:=by
  rw [List.findIdx?_eq_none_iff]
  intro x aM
  obtain ⟨j,aV,rfl⟩:=List.mem_iff_getElem.1 aM
  have:=bD j aV
  simpa [aV] using this
 unfold kN
 rw [this]
theorem C5(p:cS→Bool)(xs:List cS):decide (0≤kN p xs)=xs.any p:=by
 unfold kN
 cases h:xs.findIdx? p with
 | none=>
  have h:=List.findIdx?_eq_none_iff.1 h
  have:xs.any p=false:=List.any_eq_false.2 fun x aM=>by simp [h x aM]
  rw [this];rfl
 | some k=>
  obtain ⟨h1,ar,_⟩:=List.findIdx?_eq_some_iff_getElem.1 h
  have:xs.any p=true:=List.any_eq_true.2 ⟨_,List.getElem_mem h1,ar⟩
  rw [this]
  exact decide_eq_true (Int.natCast_nonneg k)
theorem Dq{p:cS→Bool}{xs:List cS}{i:Int}(aH:0≤i)(bO:p (xs.getD i.toNat dk)=false)(bD:∀ j,j<i.toNat→p (xs.getD j dk)=false):∀ j,j<(i+1).toNat→p (xs.getD j dk)=false:=fun j aV=>by
 rcases Nat.lt_or_ge j i.toNat with h | h
 ·exact bD j h
 ·obtain rfl:j=i.toNat:=by omega
  exact bO
theorem UR{p:cS→Bool}{xs:List cS}(bD:∀ j,j<xs.length→p (xs.getD j dk)=false):xs.any p=false:=by
 rw [← C5,C6 bD];rfl
theorem UP{p:cS→Bool}{xs:List cS}{i:Nat}(aH:i<xs.length)(bO:p (xs.getD i dk)=true):xs.any p=true:=
 List.any_eq_true.2 ⟨_,List.getElem_mem aH,by rw [List.getD_eq_getElem?_getD,List.getElem?_eq_getElem aH,Option.getD_some] at bO;exact bO⟩
theorem Fh(x:cS):(decide ((65536:Int)<(x.1.length:Int)) || decide ((65536:Int)<(x.2.length:Int)))=lx x:=by
 unfold lx
 congr 1 <;> exact decide_eq_decide.2 ag
theorem Qw{n:Nat}{m:Int}{j:Nat}(hm:m=((2^j:Nat):Int))(h1:j=0∨2^j<n)(ar:¬ 2*m<(n:Int))(bD:2≤n):m=(half n:Int):=by
 have aQ:¬ 2*2^j<n:=by omega
 have bF:2^j<n:=by
  rcases h1 with rfl | h1
  ·omega
  ·exact h1
 rw [Z3 bF aQ];exact hm
def sub(ls:List cS)(a n:Nat):List cS:=(ls.drop a).take n
theorem xV{ls:List cS}{a n:Nat}(h:a+n≤ls.length):(sub ls a n).length=n:=by
 unfold sub;rw [List.length_take,List.length_drop];omega
theorem ain{ls:List cS}{a n i:Nat}(h:i<n):(sub ls a n).getD i dk=ls.getD (a+i) dk:=by
 unfold sub
 rw [List.getD_eq_getElem?_getD,List.getElem?_take,if_pos h,List.getElem?_drop,← List.getD_eq_getElem?_getD]
theorem aio{ls:List cS}{a n k:Nat}(h:k≤n):(sub ls a n).take k=sub ls a k:=by
 unfold sub;rw [List.take_take,Nat.min_eq_left h]
theorem D9{ls:List cS}{a n k:Nat}:(sub ls a n).drop k=sub ls (a+k) (n-k):=by
 unfold sub;rw [List.drop_take,List.drop_drop]
theorem JI(ls:List cS):sub ls 0 ls.length=ls:=by unfold sub;rw [List.drop_zero,List.take_length]
theorem RW{ls:List cS}{a:Nat}(h:a+1≤ls.length):jJ (sub ls a 1)=rP (ls.getD a dk):=by
 rw [RT (xV h),ain ag,Nat.add_zero]
theorem RV{ls:List cS}{a n:Nat}(h:a+n≤ls.length)(bD:2≤n):jJ (sub ls a n)=qJ (jJ (sub ls a (half n))) (jJ (sub ls (a+half n) (n-half n))):=by
 have hl:=uP bD
 rw [RU (by rw [xV h];exact bD),xV h,aio ag,D9]
end bs
end Go.aK
namespace Go.aK
namespace bs
theorem adN{s:Int}(h0:0≤s)(h1:s<4611686018427387904):oB (UInt64.ofNat ((dA s).toNat/2^(min (1:Int).toNat 64)))=s/2:=by
 have bL:(dA s).toNat=s.toNat:=by
  obtain ⟨n,rfl⟩:=Int.eq_ofNat_of_zero_le h0
  simp [dA]
  omega
 rw [bL,show (2:Nat)^(min (1:Int).toNat 64)=2 from rfl]
 have bT:(UInt64.ofNat (s.toNat/2)).toNat=s.toNat/2:=by simp;omega
 unfold oB
 rw [bT]
 rw [if_pos ag]
 omega
theorem Pf{a b:List UInt8}:(lt b a || decide (b=a)) = !lt a b:=by
 cases h:lt a b with
 | true=>
  have ar:=Pq h
  rw [ar]
  have:b≠a:=fun e=>by rw [e,Ps] at h;cases h
  simp [this]
 | false=>
  cases aQ:lt b a with
  | true=>rfl
  | false=>simp [Pr aQ h]
theorem Lf{ls:List cS}{i:Int}(h0:0≤i)(h:nW ls i.toNat=true)(bD:¬ (0<i∧(!lt (ls.getD (i-1).toNat dk).1 (ls.getD i.toNat dk).1)=true)):nW ls (i+1).toNat=true:=by
 rw [show (i+1).toNat=i.toNat+1 by omega,nW,h,Bool.true_and]
 by_cases aH:i=0
 ·subst aH;rfl
 ·rw [show (i-1).toNat=i.toNat-1 by omega] at bD
  have:lt (ls.getD (i.toNat-1) dk).1 (ls.getD i.toNat dk).1=true:=by
   cases aQ:lt (ls.getD (i.toNat-1) dk).1 (ls.getD i.toNat dk).1 with
   | true=>rfl
   | false=>exact absurd ⟨by omega,by rw [aQ];rfl⟩ bD
  rw [this];simp
theorem Lg{ls:List cS}{i:Int}(h0:0<i)(hl:i<ls.length)(h:lt (ls.getD (i-1).toNat dk).1 (ls.getD i.toNat dk).1=false):nW ls ls.length=false:=by
 cases ar:nW ls ls.length with
 | false=>rfl
 | true=>
  have:=Fe _ ar (i-1).toNat ag
  rw [show (i-1).toNat+1=i.toNat by omega,h] at this
  cases this
theorem JX{ls:List cS}(h:4096<ls.length∨ls.any lx=true):jK ls=4:=by unfold jK;rw [if_pos h]
theorem Tc{ls:List cS}(h:¬ (4096<ls.length∨ls.any lx=true))(ar:nW ls ls.length=false):jK ls=1:=by unfold jK;rw [if_neg h,if_neg (by rw [ar];simp)]
theorem Tb{ls:List cS}(h:¬ (4096<ls.length∨ls.any lx=true))(ar:nW ls ls.length=true):jK ls=0:=by unfold jK;rw [if_neg h,if_pos ar]
end bs
end Go.aK
namespace Go.aK
namespace bs
def gI(ls:List cS)(k:List UInt8):Bool:=decide (kn ls k<ls.length)&&decide ((ls.getD (kn ls k) dk).1=k)
end bs
end Go.aK
namespace Go.aK
namespace bs
theorem getD_in{xs:List cS}{k:Nat}(h:k<xs.length):xs.getD k dk∈xs:=by rw [List.getD_eq_getElem?_getD,List.getElem?_eq_getElem h];exact List.getElem_mem h
def mK(ls:List cS):eG×Int:=if jK ls=0 then (kx ls.length (jJ ls),0) else (List.replicate 16 0,jK ls)
theorem Jd{ls:List cS}(h:jK ls≠0):mK ls=(List.replicate 16 0,jK ls):=if_neg h
theorem DY{ls:List cS}(h:jK ls=0):mK ls=(kx ls.length (jJ ls),0):=if_pos h
theorem ag2{ls:List cS}(h:jK ls=0)(h0:ls.length=0):mK ls=(kx 0 (List.replicate 16 0),0):=by rw [DY h,h0];unfold kx;rw [if_pos rfl,if_pos rfl]
end bs
end Go.aK
namespace Go.aK
namespace bs
theorem YT{xs:List eG}{k:Nat}(h:k<xs.length):xs.getD k []∈xs:=by rw [List.getD_eq_getElem?_getD,List.getElem?_eq_getElem h];exact List.getElem_mem h
end bs
end Go.aK
namespace Go.aK
namespace bs
theorem JN{x y:List UInt8}(aM:x.length<1048576)(cZ:y.length<1048576):∀ p∈[x,y],p.length<1048576:=fun p bO=>by
 simp only [List.mem_cons,List.not_mem_nil,or_false] at bO
 rcases bO with rfl | rfl <;> assumption
theorem JM{x y:List UInt8}(aM:x.length≤140737488355328)(cZ:y.length≤140737488355328):∀ p∈[x,y],p.length≤140737488355328:=fun p bO=>by
 simp only [List.mem_cons,List.not_mem_nil,or_false] at bO
 rcases bO with rfl | rfl <;> assumption
end bs
end Go.aK
namespace Go.aK
namespace bs
end bs
end Go.aK
end
section
/- What the reference makes of a tree: the texts that are hashed, the sides that are used. -/
namespace Go.aK
namespace bs
def dT:eG:=List.replicate 16 0
theorem ajS:dT.length=16:=rfl
def Pg(x:cS):List UInt8:=aL.hY 3 [x.1,x.2]
def P4(a b:eG):List UInt8:=aL.hY 4 [a,b]
def xI(n:Nat)(d:eG):List UInt8:=if n=0 then aL.hY 4 [aF.int 0] else aL.hY 4 [aF.int n,d]
abbrev jR:=List (List UInt8)
def ez(first:Nat)(lv:List cS)(sd:List eG):Nat→Nat→Nat→jR→Nat→Bool→eG×jR×Nat×Bool
 | 0,_,_,T,u,s=>(dT,T,u,s)
 | f+1,n,a,T,u,s=>
  if a+n≤first∨first+lv.length≤a then
   (if sd.length≤u then (dT,T,u,true) else (sd.getD u [],T,u+1,s))
  else if n≤1 then (rP (lv.getD (a-first) dk),T++[Pg (lv.getD (a-first) dk)],u,s)
  else
   let cm:=ez first lv sd f (half n) a T u s
   let cR:=ez first lv sd f (n-half n) (a+half n) cm.2.1 cm.2.2.1 cm.2.2.2
   (qJ cm.1 cR.1,cR.2.1++[P4 cm.1 cR.1],cR.2.2.1,cR.2.2.2)
section
variable {first:Nat}{lv:List cS}{sd:List eG}{f n a:Nat}{T:jR}{u:Nat}{s:Bool}
theorem RY(cH:a+n≤first∨first+lv.length≤a)(h:sd.length≤u):ez first lv sd (f+1) n a T u s=(dT,T,u,true):=by rw [ez,if_pos cH,if_pos h]
theorem RZ(cH:a+n≤first∨first+lv.length≤a)(h:¬ sd.length≤u):ez first lv sd (f+1) n a T u s=(sd.getD u [],T,u+1,s):=by rw [ez,if_pos cH,if_neg h]
theorem Jh(cH:¬ (a+n≤first∨first+lv.length≤a))(h:n=1):ez first lv sd (f+1) n a T u s=(rP (lv.getD (a-first) dk),T++[Pg (lv.getD (a-first) dk)],u,s):=by rw [ez,if_neg cH,if_pos ag]
theorem Ji(cH:¬ (a+n≤first∨first+lv.length≤a))(h:2≤n){cm cR:eG×jR×Nat×Bool}(h1:cm=ez first lv sd f (half n) a T u s)(ar:cR=ez first lv sd f (n-half n) (a+half n) cm.2.1 cm.2.2.1 cm.2.2.2) :
  ez first lv sd (f+1) n a T u s=(qJ cm.1 cR.1,cR.2.1++[P4 cm.1 cR.1],cR.2.2.1,cR.2.2.2):=by
 subst h1;subst ar
 rw [ez,if_neg cH,if_neg ag]
end
theorem AM{first:Nat}{lv:List cS}{sd:List eG}(jE:∀ d∈sd,d.length=16):∀ (f n a:Nat) (T:jR) (u:Nat) (s:Bool),1≤n→n≤f →
  (ez first lv sd f n a T u s).1.length=16∧(ez first lv sd f n a T u s).2.1.length+1≤T.length+2*n∧(ez first lv sd f n a T u s).2.2.1≤u+n∧((ez first lv sd f n a T u s).2.2.1≤sd.length∨sd.length<u)
 | 0,n,a,T,u,s,h1,ar=>absurd h1 ag
 | f+1,n,a,T,u,s,h1,ar=>by
  by_cases cH:a+n≤first∨first+lv.length≤a
  ·by_cases h:sd.length≤u
   ·rw [RY cH h];exact ⟨ajS,by dsimp only;omega,by dsimp only;omega,by dsimp only;omega⟩
   ·rw [RZ cH h]
    refine ⟨?_,by dsimp only;omega,by dsimp only;omega,by dsimp only;omega⟩
    dsimp only
    rw [List.getD_eq_getElem?_getD,List.getElem?_eq_getElem ag,Option.getD_some]
    exact jE _ (List.getElem_mem _)
  ·by_cases h:n=1
   ·rw [Jh cH h];exact ⟨Ii _,by dsimp only;rw [List.length_append,List.length_singleton];omega,by dsimp only;omega,by dsimp only;omega⟩
   ·have bO:=wQ n
    have hl:=uP (n:=n) ag
    have ck:=AM jE (lv:=lv) (first:=first) f (half n) a T u s bO ag
    rw [Ji cH ag rfl rfl]
    generalize ez first lv sd f (half n) a T u s=cm at ck ⊢
    have dD:=AM jE (lv:=lv) (first:=first) f (n-half n) (a+half n) cm.2.1 cm.2.2.1 cm.2.2.2 ag ag
    generalize ez first lv sd f (n-half n) (a+half n) cm.2.1 cm.2.2.1 cm.2.2.2=cR at dD ⊢
    refine ⟨Ix _ _,by dsimp only;rw [List.length_append,List.length_singleton];omega,by dsimp only;omega,by dsimp only;omega⟩
def qT(first:Nat)(lv:List cS)(sd:List eG)(n:Nat):eG×jR×Nat×Bool:=
 if n=0 then (kx 0 dT,[xI 0 dT],0,false)
 else (kx n (ez first lv sd n n 0 [] 0 false).1,(ez first lv sd n n 0 [] 0 false).2.1++[xI n (ez first lv sd n n 0 [] 0 false).1],(ez first lv sd n n 0 [] 0 false).2.2.1,(ez first lv sd n n 0 [] 0 false).2.2.2)
end bs
end Go.aK
namespace Go.aK
namespace bs
theorem Jg{ls:List cS}{sd:List eG}:∀ (f n a:Nat) (T:jR) (u:Nat) (s:Bool),1≤n→n≤f→a+n≤ls.length →
  (ez 0 ls sd f n a T u s).1=jJ (sub ls a n)∧(ez 0 ls sd f n a T u s).2.2=(u,s)
 | 0,n,a,T,u,s,h1,ar,_=>absurd h1 ag
 | f+1,n,a,T,u,s,h1,ar,aQ=>by
  have cH:¬ (a+n≤0∨0+ls.length≤a):=by omega
  by_cases h:n=1
  ·subst h
   rw [Jh cH rfl,RW aQ]
   exact ⟨rfl,rfl⟩
  ·have bO:=wQ n
   have hl:=uP (n:=n) ag
   have ck:=Jg (ls:=ls) (sd:=sd) f (half n) a T u s bO ag ag
   rw [Ji cH ag rfl rfl]
   generalize ez 0 ls sd f (half n) a T u s=cm at ck ⊢
   have dD:=Jg (ls:=ls) (sd:=sd) f (n-half n) (a+half n) cm.2.1 cm.2.2.1 cm.2.2.2 ag ag ag
   generalize ez 0 ls sd f (n-half n) (a+half n) cm.2.1 cm.2.2.1 cm.2.2.2=cR at dD ⊢
   refine ⟨?_,?_⟩
   ·show qJ cm.1 cR.1=_
    rw [ck.1,dD.1,RV aQ ag]
   ·show (cR.2.2.1,cR.2.2.2)=_
    have bL:=ck.2
    have bT:=dD.2
    rw [Prod.ext_iff] at bL bT ⊢
    exact ⟨bT.1.trans bL.1,bT.2.trans bL.2⟩
theorem RX(ls:List cS)(sd:List eG):(qT 0 ls sd ls.length).1=kx ls.length (jJ ls):=by
 unfold qT
 split
 ·rename_i h;rw [h];unfold kx;rw [if_pos rfl,if_pos rfl]
 ·rename_i h
  have:=(Jg (ls:=ls) (sd:=sd) ls.length ls.length 0 [] 0 false ag (Nat.le_refl _) ag).1
  dsimp only
  rw [this,JI]
theorem ahe(first:Nat)(lv:List cS)(sd:List eG){n:Nat}(h:n=0):qT first lv sd n=(kx 0 dT,[xI 0 dT],0,false):=by unfold qT;rw [if_pos h]
theorem ahf{first:Nat}{lv:List cS}{sd:List eG}{n:Nat}(h:¬ n=0){r:eG×jR×Nat×Bool}(aY:r=ez first lv sd n n 0 [] 0 false):qT first lv sd n=(kx n r.1,r.2.1++[xI n r.1],r.2.2.1,r.2.2.2):=by subst aY;unfold qT;rw [if_neg h]
theorem ag3(d:eG):xI 0 d=aL.hY 4 [aF.int ((0:Nat):Int)]:=if_pos rfl
theorem ag0(d:eG):kx 0 d=aL.ju 4 [aF.int ((0:Nat):Int)]:=if_pos rfl
theorem ag4{n:Nat}(h:¬ n=0)(d:eG):xI n d=aL.hY 4 [aF.int (n:Int),d]:=if_neg h
theorem ag1{n:Nat}(h:¬ n=0)(d:eG):kx n d=aL.ju 4 [aF.int (n:Int),d]:=if_neg h
end bs
end Go.aK
namespace Go.aK
namespace bs
section
variable {ls:List cS}{first en a n:Nat}
end
structure iS where
 fst:Int
 ht:Int
 lv:List cS
 sd:List eG
def shown(ls:List cS)(first en:Nat):iS:=⟨first,ls.length,(ls.take en).drop first,if ls.length=0 then [] else ahY first en ls 0⟩
end bs
def akt(q:bs.iS)(lv sv:Value)(z:aR):Prop:=bo jD z lv q.lv∧bo (pH 16) z sv q.sd
def aks(q:bs.iS):Value→List aR→List aC→Prop:=fun r zs hs=>∃ lv sv z,r=.agg [aA q.fst,aA q.ht,lv,sv].toArray∧bo jD z lv q.lv∧bo (pH 16) z sv q.sd∧zs=[z]∧hs=[]
def akr(q:bs.iS)(e:Int):Value→List aR→List aC→Prop:=fun r zs hs=>∃ lv sv z,r=.tuple [.agg [aA q.fst,aA q.ht,lv,sv].toArray,aA e].toArray∧bo jD z lv q.lv∧bo (pH 16) z sv q.sd∧zs=[z]∧hs=[]
end Go.aK
end
section
/- What the reference's helpers and both Proves compute. -/
namespace Go.aK
namespace bs
def IG:iS:=⟨0,0,[],[]⟩
def aoJ(ls:List cS)(k:List UInt8):iS×Int:=
 if jK ls=0 then (if gI ls k=true then (shown ls (kn ls k) (kn ls k+1),0) else (shown ls (kn ls k-1) (min (kn ls k+1) ls.length),0)) else (IG,jK ls)
def ap4(ls:List cS)(k m:List UInt8):iS×Int:=
 if jK ls=0 then (if lt m k=true then (IG,5) else (shown ls (kn ls k-1) (min (kn ls m+1) ls.length),0)) else (IG,jK ls)
section
variable {ls:List cS}{k m:List UInt8}
end
def al8(ls:List cS)(k:List UInt8):Int:=kN (fun x=>decide (x.1=k)) ls
def ach(k m:List UInt8)(x:cS):Bool := !lt x.1 k&&lt x.1 m
def inside(ls:List cS)(k m:List UInt8):List cS:=ls.filter (ach k m)
theorem nP{α:Type}(d:α){xs:List α}{i:Nat}(h:i<xs.length):xs.take (i+1)=xs.take i++[xs.getD i d]:=by
 rw [List.take_add_one,List.getElem?_eq_getElem h,List.getD_eq_getElem?_getD,List.getElem?_eq_getElem h];rfl
def ap8(p q:iS):Bool:=((decide (p.fst=q.fst)&&decide (p.ht=q.ht))&&decide (p.lv=q.lv))&&decide (p.sd=q.sd)
def C8(n:Int):List UInt8:=if n%3=0 then [hI (97+n/3)] else [hI (97+n/3),hI (97+n%3)]
def ajj:List (List UInt8):=[[],[49],[50],[97,32,98],[49,50]]
def iB(l:List Int):Nat→List cS×Int
 | 0=>([], -1)
 | i+1=>((iB l i).1++[(C8 ((iB l i).2+1+cN.yG l (2*i) 3),ajj.getD (cN.yG l (2*i+1) 5).toNat [])],(iB l i).2+1+cN.yG l (2*i) 3)
def adz(l:List Int):Nat:=min 11 ((l.length+1)/2)
def aol(l:List Int):List cS:=(iB l (adz l)).1
def td(ls:List cS)(n:Int):List UInt8:=
 let k:=cN.fl n (3*ls.length+5)
 if k<ls.length then (ls.getD k.toNat dk).1 else if k<2*ls.length then (ls.getD (k-ls.length).toNat dk).1++[97] else if k=2*ls.length then [] else C8 k
def aom(raw:List cS):List cS:=(raw.take 8).map fun x=>(x.1.take 40,x.2.take 40)
end bs
end Go.aK
namespace Go.aK
namespace bs
end bs
end Go.aK
end
section
/- What Under, Check, CheckRange say, in both programs. -/
namespace Go.aK
namespace bs
def S4(first:Nat)(lv:List cS):Nat→Nat→Nat→List eG→Bool→eG×List eG×Bool
 | 0,_,_,sd,s=>(dT,sd,s)
 | f+1,n,a,sd,s=>
  if s=false then (dT,sd,false)
  else if a+n≤first∨first+lv.length≤a then (match sd with | []=>(dT,[],false) | d::t=>(d,t,true))
  else if n≤1 then (rP (lv.getD (a-first) dk),sd,s)
  else
   let cm:=S4 first lv f (half n) a sd s
   let cR:=S4 first lv f (n-half n) (a+half n) cm.2.1 cm.2.2
   (qJ cm.1 cR.1,cR.2.1,cR.2.2)
section
variable {first:Nat}{lv:List cS}{f n a:Nat}{sd:List eG}{s:Bool}
end
def IC(q:iS):Prop:=0≤q.ht∧q.ht≤4096∧0≤q.fst∧q.fst≤q.ht∧q.fst+q.lv.length≤q.ht∧jK q.lv=0
instance (q:iS):Decidable (IC q):=by unfold IC;infer_instance
def V2(q:iS)(r:eG):Bool:=match V3 q.fst.toNat q.lv q.ht.toNat 0 q.sd with
 | some (d,[])=>decide (kx q.ht.toNat d=r)
 | _=>false
def S5(q:iS)(r:eG):Bool:=if IC q then (if q.ht=0 then (decide (q.sd=[])&&decide (kx 0 dT=r)) else if q.lv=[] then false else V2 q r) else false
def ak4(r:eG)(k:List UInt8)(q:iS):List UInt8×Bool×Int:=
  if S5 q r=true then
    (if gI q.lv k=true then ((q.lv.getD (kn q.lv k) dk).2,true,0)
     else if (0<kn q.lv k∨q.fst=0)∧(kn q.lv k<q.lv.length∨q.fst+q.lv.length=q.ht) then ([],false,0) else ([],false,17))
  else ([],false,17)
def Fg(q:iS)(k m:List UInt8):Prop:=(0<q.fst∧kn q.lv k=0)∨(q.fst+q.lv.length<q.ht∧kn q.lv m=q.lv.length)
instance (q:iS) (k m:List UInt8):Decidable (Fg q k m):=by unfold Fg;infer_instance
def ak5(r:eG)(k m:List UInt8)(q:iS):List cS×Int:=
 if lt m k=true then ([],5) else if S5 q r=true then (if Fg q k m then ([],17) else ((q.lv.take (kn q.lv m)).drop (kn q.lv k),0)) else ([],17)
section
variable {r:eG}{k m:List UInt8}{q:iS}
end
end bs
end Go.aK
end
section
/- Texts: their lengths; when two of them collide. -/
namespace Go.aK
namespace bs
def wq(x:List UInt8):eG:=(aL.sum x).take 16
def VZ(t:jR):Bool:=(List.range t.length).any fun i=>(List.range i).any fun k => !decide (t.getD i []=t.getD k [])&&decide (wq (t.getD i [])=wq (t.getD k []))
def IB(q:iS):Prop:=0≤q.ht∧q.ht≤4096∧0≤q.fst∧q.fst≤q.ht∧(q.lv.length:Int)≤q.ht-q.fst
instance (q:iS):Decidable (IB q):=by unfold IB;infer_instance
def aiM(q:iS):jR:=if IB q then (qT q.fst.toNat q.lv q.sd q.ht.toNat).2.1 else []
def aiL(ls:List cS):jR:=(qT 0 ls [] ls.length).2.1
def V0(ls:List cS)(q:iS):Bool:=VZ (aiL ls++aiM q)
section
variable {t:jR}{i k:Nat}
def aou(t:jR)(i:Nat):Prop:=∀ j,j<i→∀ k,k<j→¬ (¬ t.getD j []=t.getD k []∧wq (t.getD j [])=wq (t.getD k []))
end
end bs
end Go.aK
namespace Go.aK
namespace bs
end bs
end Go.aK
namespace Go.aK
namespace bs
theorem th(l:List Int):∀ i,(iB l i).1.length=i
 | 0=>rfl
 | i+1=>by show ((iB l i).1++_).length=_;rw [List.length_append,th l i];rfl
end bs
end Go.aK
end
section
/- A proof with one thing changed. -/
namespace Go.aK
namespace bs
def nY(q:iS)(b:Int):Nat:=(cN.fl b (max (q.lv.length:Int) 1)).toNat
def BH(q:iS)(b:Int):Nat:=(cN.fl b (max (q.sd.length:Int) 1)).toNat
def aeM:eG:=1::List.replicate 15 0
def flip(d:eG)(b:Int):eG:=d.set (cN.fl (b.tdiv 8) 16).toNat (d.getD (cN.fl (b.tdiv 8) 16).toNat 0 ^^^ 1)
def akS(q:iS)(abh b:Int):iS:=
 let h:=cN.fl abh 11
 if h=0 then { q with fst:=wr (wr (q.fst+cN.fl b 5)-2) }
 else if h=1 then { q with ht:=wr (wr (q.ht+cN.fl b 5)-2) }
 else if h=2 then { q with ht:=[b,4096,4097, -1].getD (cN.fl b 4).toNat 0 }
 else if h=3 then { q with fst:=b }
 else if h=4 then (if 0<q.lv.length then { q with lv:=q.lv.set (nY q b) (C8 (cN.fl b 40),(q.lv.getD (nY q b) dk).2) } else q)
 else if h=5 then (if 0<q.lv.length then { q with lv:=q.lv.set (nY q b) ((q.lv.getD (nY q b) dk).1,(q.lv.getD (nY q b) dk).2++[120]) } else q)
 else if h=6 then (if 0<q.lv.length then { q with lv:=q.lv.take (nY q b)++q.lv.drop (nY q b+1) } else q)
 else if h=7 then { q with lv:=q.lv++[(C8 (cN.fl b 40),[])] }
 else if h=8 then (if 0<q.sd.length then { q with sd:=q.sd.set (BH q b) (flip (q.sd.getD (BH q b) []) b) } else q)
 else if h=9 then (if 0<q.sd.length then { q with sd:=q.sd.take (BH q b)++q.sd.drop (BH q b+1) } else q)
 else { q with sd:=q.sd++[aeM] }
def aqb(q:iS)(m b:Nat):Prop:=q.lv.length≤m∧q.sd.length≤m∧(∀ x∈q.lv,x.1.length≤b∧x.2.length≤b)∧∀ d∈q.sd,d.length=16
end bs
end Go.aK
namespace Go.aK
namespace bs
end bs
end Go.aK
end
section
/- Both directions: what is shown is accepted; what is accepted is true, or two texts collide. -/
namespace Go.aK
namespace bs
def cut(ls:List cS)(st en:Nat):List cS:=(ls.take en).drop st
def inj(X:jR):Prop:=∀ x∈X,∀ y∈X,wq x=wq y→x=y
def ap7(ls:List cS)(k:List UInt8)(v:List UInt8)(b:Bool):Bool:=if gI ls k=true then (b&&decide (v=(ls.getD (kn ls k) dk).2)) else !b
end bs
end Go.aK
end
