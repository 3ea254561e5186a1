/- walks and plain laws -/
import Derived.Test.YtngcjojijaknnaaGreatDoorFwD
import Derived.Test.YtngcjojijaknnaaGreatDoorGuA
import Derived.Test.YtngcjojijaknnaaGreatDoorShW
import Derived.Lib.Bytealg
set_option linter.all false
section
/- Keys in their order; rows of leaves, in plain words. -/
namespace Go.aJ
namespace bo
abbrev cJ:=List UInt8×List UInt8
def lt(a b:List UInt8):Bool:=Op.bytesLess a b
theorem Ny(a:List UInt8):lt a []=false:=by cases a <;> rfl
theorem GK(a b:UInt8)(x y:List UInt8):lt (a::x) (b::y)=(decide (a<b) || (a == b&&lt x y)):=rfl
theorem Nw:∀ a:List UInt8,lt a a=false
 | []=>rfl
 | a::x=>by
  rw [GK,Nw x]
  have:¬ a<a:=UInt8.lt_irrefl a
  simp [this]
theorem Nu:∀ {a b:List UInt8},lt a b=true→lt b a=false
 | _,[],h=>by rw [Ny] at h;cases h
 | [],b::y,_=>Ny _
 | a::x,b::y,h=>by
  rw [GK] at h ⊢
  simp only [Bool.or_eq_true,decide_eq_true_eq,Bool.and_eq_true,beq_iff_eq] at h
  rw [Bool.or_eq_false_iff,decide_eq_false_iff_not]
  rcases h with h | ⟨rfl,h⟩
  ·refine ⟨fun aq=>UInt8.lt_irrefl _ (UInt8.lt_trans h aq),?_⟩
   have:b≠a:=fun e=>by subst e;exact UInt8.lt_irrefl _ h
   simp [this]
  ·exact ⟨UInt8.lt_irrefl _,by simp [Nu h]⟩
theorem Nv:∀ {a b:List UInt8},lt a b=false→lt b a=false→a=b
 | [],[],_,_=>rfl
 | [],b::y,h,_=>by cases h
 | a::x,[],_,h=>by cases h
 | a::x,b::y,h1,aq=>by
  rw [GK] at h1 aq
  simp only [Bool.or_eq_false_iff,decide_eq_false_iff_not,UInt8.not_lt] at h1 aq
  have e:a=b:=UInt8.le_antisymm aq.1 h1.1
  subst e
  simp only [beq_self_eq_true,Bool.true_and] at h1 aq
  rw [Nv h1.2 aq.2]
end bo
end Go.aJ
end
section
/- Trees of rows: digests, sides, and what is made of them. -/
namespace Go.aJ
namespace bo
def half(n:Nat):Nat:=2^Nat.log2 (n-1)
theorem vp(n:Nat):1≤half n:=Nat.one_le_two_pow
theorem tw{n:Nat}(h:2≤n):half n<n:=by
 have:=Nat.log2_self_le (n:=n-1) (by omega)
 unfold half;omega
theorem XS{n j:Nat}(h1:2^j<n)(aq:¬ 2*2^j<n):half n=2^j:=by
 unfold half
 congr 1
 refine (Nat.log2_eq_iff (by omega)).2 ⟨by omega,?_⟩
 rw [Nat.pow_succ];omega
abbrev ed:=List UInt8
def qO(x:cJ):ed:=aK.iL 3 [x.1,x.2]
def pV(a b:ed):ed:=aK.iL 4 [a,b]
def jW(n:Nat)(d:ed):ed:=if n=0 then aK.iL 4 [aF.int 0] else aK.iL 4 [aF.int n,d]
theorem GI(x:cJ):(qO x).length=16:=aK.oh _ _
theorem GV(a b:ed):(pV a b).length=16:=aK.oh _ _
theorem CB(n:Nat)(d:ed):(jW n d).length=16:=by unfold jW;split <;> exact aK.oh _ _
def ph:Nat→List cJ→ed
 | 0,_=>[]
 | f+1,ls=>if ls.length≤1 then qO (ls.getD 0 c3) else pV (ph f (ls.take (half ls.length))) (ph f (ls.drop (half ls.length)))
def jf(ls:List cJ):ed:=ph ls.length ls
theorem CF:∀ (f g:Nat) (ls:List cJ),1≤ls.length→ls.length≤f→ls.length≤g→ph f ls=ph g ls
 | 0,_,ls,h,h1,_=>absurd h (by omega)
 | _+1,0,ls,h,_,aq=>absurd h (by omega)
 | f+1,g+1,ls,h,h1,aq=>by
  rw [ph,ph]
  split
  ·rfl
  ·have hl:=tw (n:=ls.length) (by omega)
   have bN:=vp ls.length
   rw [CF f g (ls.take _) (by rw [List.length_take];omega) (by rw [List.length_take];omega) (by rw [List.length_take];omega),CF f g (ls.drop _) (by rw [List.length_drop];omega) (by rw [List.length_drop];omega) (by rw [List.length_drop];omega)]
theorem PT{ls:List cJ}(h:ls.length=1):jf ls=qO (ls.getD 0 c3):=by
 unfold jf;rw [h,ph,if_pos (by omega)]
theorem PU{ls:List cJ}(h:2≤ls.length):jf ls=pV (jf (ls.take (half ls.length))) (jf (ls.drop (half ls.length))):=by
 have hl:=tw h
 have bN:=vp ls.length
 have e:ph ls.length ls=ph (ls.length-1+1) ls:=by rw [show ls.length-1+1=ls.length by omega]
 unfold jf
 rw [e,ph,if_neg (by omega),CF (ls.length-1) (ls.take (half ls.length)).length _ (by rw [List.length_take];omega) (by rw [List.length_take];omega) (Nat.le_refl _),CF (ls.length-1) (ls.drop (half ls.length)).length _ (by rw [List.length_drop];omega) (by rw [List.length_drop];omega) (Nat.le_refl _)]
theorem zf{ls:List cJ}(h:1≤ls.length):(jf ls).length=16:=by
 by_cases h1:ls.length=1
 ·rw [PT h1];exact GI _
 ·rw [PU (by omega)];exact GV _ _
def HU(first en:Nat):Nat→List cJ→Nat→List ed
 | 0,_,_=>[]
 | f+1,ls,a=>if a+ls.length≤first∨en≤a then [jf ls] else if ls.length≤1 then [] else HU first en f (ls.take (half ls.length)) a++HU first en f (ls.drop (half ls.length)) (a+half ls.length)
def afN(first en:Nat)(ls:List cJ)(a:Nat):List ed:=HU first en ls.length ls a
def D1(first:Nat)(lv:List cJ):Nat→Nat→Nat→List ed→Option (ed×List ed)
 | 0,_,_,_=>none
 | f+1,n,a,sd=>
  if a+n≤first∨first+lv.length≤a then
   match sd with
   | []=>none
   | d::t=>some (d,t)
  else if n≤1 then some (qO (lv.getD (a-first) c3),sd)
  else match D1 first lv f (half n) a sd with
   | none=>none
   | some (x,s1)=>match D1 first lv f (n-half n) (a+half n) s1 with
    | none=>none
    | some (y,s2)=>some (pV x y,s2)
def TU(first:Nat)(lv:List cJ)(n a:Nat)(sd:List ed):Option (ed×List ed):=D1 first lv n n a sd
section
variable {first:Nat}{lv:List cJ}{n a:Nat}{sd:List ed}
end
end bo
end Go.aJ
end
section
/- Lists of leaves that are in order. -/
namespace Go.aJ
namespace bo
def kQ(x:cJ):Bool:=decide (65536<x.1.length) || decide (65536<x.2.length)
def np(ls:List cJ):Nat→Bool
 | 0=>true
 | n+1=>np ls n&&(decide (n=0) || lt (ls.getD (n-1) c3).1 (ls.getD n c3).1)
def jh(ls:List cJ):Int:=if 4096<ls.length∨ls.any kQ=true then 4 else if np ls ls.length=true then 0 else 1
def R4(ls:List cJ):Prop:=∀ i,i+1<ls.length→lt (ls.getD i c3).1 (ls.getD (i+1) c3).1=true
theorem DN{ls:List cJ}:∀ n,np ls n=true→∀ i,i+1<n→lt (ls.getD i c3).1 (ls.getD (i+1) c3).1=true
 | 0,_,i,aG=>absurd aG (by omega)
 | n+1,h,i,aG=>by
  rw [np,Bool.and_eq_true] at h
  by_cases iB:i+1=n
  ·have aq:=h.2
   rw [show decide (n=0)=false from decide_eq_false (by omega),Bool.false_or,show n-1=i by omega,← iB] at aq
   exact aq
  ·exact DN n h.1 i (by omega)
theorem Q9{ls:List cJ}(h:jh ls=0):R4 ls∧ls.length≤4096∧∀ x∈ls,x.1.length≤65536∧x.2.length≤65536:=by
 unfold jh at h
 split at h
 ·cases h
 ·rename_i h1
  split at h
  ·rename_i aq
   refine ⟨fun i aG=>DN _ aq i aG,by omega,fun x aL=>?_⟩
   have aQ:ls.any kQ=false:=by
    cases bH:ls.any kQ with
    | true=>exact absurd (.inr bH) h1
    | false=>rfl
   have:=List.any_eq_false.1 aQ x aL
   simp only [kQ,Bool.or_eq_true,decide_eq_true_eq,not_or] at this
   omega
  ·cases h
def Lu(ls:List cJ)(k:List UInt8):Nat→Nat
 | 0=>0
 | n+1=>Lu ls k n+(if lt (ls.getD n c3).1 k=true then 1 else 0)
def jQ(ls:List cJ)(k:List UInt8):Nat:=Lu ls k ls.length
def ajD(ls:List cJ)(k:List UInt8):Option Nat:=if jQ ls k<ls.length∧(ls.getD (jQ ls k) c3).1=k then some (jQ ls k) else none
end bo
end Go.aJ
end
section
/- What the small functions over leaves compute. -/
namespace Go.aJ
namespace bo
def kd(p:cJ→Bool)(xs:List cJ):Int:=match xs.findIdx? p with
 | some k=>k
 | none => -1
theorem Gv{p:cJ→Bool}{xs:List cJ}{i:Nat}(aG:i<xs.length)(bN:p (xs.getD i c3)=true)(bA:∀ j,j<i→p (xs.getD j c3)=false):kd p xs=i:=by
 have:xs.findIdx? p=some i:=by
  rw [List.findIdx?_eq_some_iff_getElem]
  refine ⟨aG,by simpa [aG] using bN,fun j a6=>?_⟩
  have:=bA j a6
  have rR:j<xs.length:=by omega
  simpa [rR] using this
 unfold kd
 rw [this]
theorem BG{p:cJ→Bool}{xs:List cJ}(bA:∀ j,j<xs.length→p (xs.getD j c3)=false):kd p xs = -1:=by
 have:xs.findIdx? p=none:=by
  rw [List.findIdx?_eq_none_iff]
  intro x aL
  obtain ⟨j,a6,rfl⟩:=List.mem_iff_getElem.1 aL
  have:=bA j a6
  simpa [a6] using this
 unfold kd
 rw [this]
theorem BF(p:cJ→Bool)(xs:List cJ):decide (0≤kd p xs)=xs.any p:=by
 unfold kd
 cases h:xs.findIdx? p with
 | none=>
  have h:=List.findIdx?_eq_none_iff.1 h
  have:xs.any p=false:=List.any_eq_false.2 fun x aL=>by simp [h x aL]
  rw [this];rfl
 | some k=>
  obtain ⟨h1,aq,_⟩:=List.findIdx?_eq_some_iff_getElem.1 h
  have:xs.any p=true:=List.any_eq_true.2 ⟨_,List.getElem_mem h1,aq⟩
  rw [this]
  exact decide_eq_true (Int.natCast_nonneg k)
theorem B2{p:cJ→Bool}{xs:List cJ}{i:Int}(aG:0≤i)(bN:p (xs.getD i.toNat c3)=false)(bA:∀ j,j<i.toNat→p (xs.getD j c3)=false):∀ j,j<(i+1).toNat→p (xs.getD j c3)=false:=fun j a6=>by
 rcases Nat.lt_or_ge j i.toNat with h | h
 ·exact bA j h
 ·obtain rfl:j=i.toNat:=by omega
  exact bN
theorem SH{p:cJ→Bool}{xs:List cJ}(bA:∀ j,j<xs.length→p (xs.getD j c3)=false):xs.any p=false:=by
 rw [← BF,BG bA];rfl
theorem SG{p:cJ→Bool}{xs:List cJ}{i:Nat}(aG:i<xs.length)(bN:p (xs.getD i c3)=true):xs.any p=true:=
 List.any_eq_true.2 ⟨_,List.getElem_mem aG,by rw [List.getD_eq_getElem?_getD,List.getElem?_eq_getElem aG,Option.getD_some] at bN;exact bN⟩
theorem DQ(x:cJ):(decide ((65536:Int)<(x.1.length:Int)) || decide ((65536:Int)<(x.2.length:Int)))=kQ x:=by
 unfold kQ
 congr 1 <;> exact decide_eq_decide.2 (by omega)
theorem Oz{n:Nat}{m:Int}{j:Nat}(hm:m=((2^j:Nat):Int))(h1:j=0∨2^j<n)(aq:¬ 2*m<(n:Int))(bA:2≤n):m=(half n:Int):=by
 have aQ:¬ 2*2^j<n:=by omega
 have bH:2^j<n:=by
  rcases h1 with rfl | h1
  ·omega
  ·exact h1
 rw [XS bH aQ];exact hm
def sub(ls:List cJ)(a n:Nat):List cJ:=(ls.drop a).take n
theorem wB{ls:List cJ}{a n:Nat}(h:a+n≤ls.length):(sub ls a n).length=n:=by
 unfold sub;rw [List.length_take,List.length_drop];omega
theorem agc{ls:List cJ}{a n i:Nat}(h:i<n):(sub ls a n).getD i c3=ls.getD (a+i) c3:=by
 unfold sub
 rw [List.getD_eq_getElem?_getD,List.getElem?_take,if_pos h,List.getElem?_drop,← List.getD_eq_getElem?_getD]
theorem agd{ls:List cJ}{a n k:Nat}(h:k≤n):(sub ls a n).take k=sub ls a k:=by
 unfold sub;rw [List.take_take,Nat.min_eq_left h]
theorem CO{ls:List cJ}{a n k:Nat}:(sub ls a n).drop k=sub ls (a+k) (n-k):=by
 unfold sub;rw [List.drop_take,List.drop_drop]
theorem H4(ls:List cJ):sub ls 0 ls.length=ls:=by unfold sub;rw [List.drop_zero,List.take_length]
theorem PW{ls:List cJ}{a:Nat}(h:a+1≤ls.length):jf (sub ls a 1)=qO (ls.getD a c3):=by
 rw [PT (wB h),agc (by omega),Nat.add_zero]
theorem PV{ls:List cJ}{a n:Nat}(h:a+n≤ls.length)(bA:2≤n):jf (sub ls a n)=pV (jf (sub ls a (half n))) (jf (sub ls (a+half n) (n-half n))):=by
 have hl:=tw bA
 rw [PU (by rw [wB h];exact bA),wB h,agd (by omega),CO]
end bo
end Go.aJ
namespace Go.aJ
namespace bo
theorem abD{s:Int}(h0:0≤s)(h1:s<4611686018427387904):nO (UInt64.ofNat ((di s).toNat/2^(min (1:Int).toNat 64)))=s/2:=by
 have bK:(di s).toNat=s.toNat:=by
  obtain ⟨n,rfl⟩:=Int.eq_ofNat_of_zero_le h0
  simp [di]
  omega
 rw [bK,show (2:Nat)^(min (1:Int).toNat 64)=2 from rfl]
 have bV:(UInt64.ofNat (s.toNat/2)).toNat=s.toNat/2:=by simp;omega
 unfold nO
 rw [bV]
 rw [if_pos (by omega)]
 omega
theorem Nk{a b:List UInt8}:(lt b a || decide (b=a)) = !lt a b:=by
 cases h:lt a b with
 | true=>
  have aq:=Nu h
  rw [aq]
  have:b≠a:=fun e=>by rw [e,Nw] at h;cases h
  simp [this]
 | false=>
  cases aQ:lt b a with
  | true=>rfl
  | false=>simp [Nv aQ h]
theorem JB{ls:List cJ}{i:Int}(h0:0≤i)(h:np ls i.toNat=true)(bA:¬ (0<i∧(!lt (ls.getD (i-1).toNat c3).1 (ls.getD i.toNat c3).1)=true)):np ls (i+1).toNat=true:=by
 rw [show (i+1).toNat=i.toNat+1 by omega,np,h,Bool.true_and]
 by_cases aG:i=0
 ·subst aG;rfl
 ·rw [show (i-1).toNat=i.toNat-1 by omega] at bA
  have:lt (ls.getD (i.toNat-1) c3).1 (ls.getD i.toNat c3).1=true:=by
   cases aQ:lt (ls.getD (i.toNat-1) c3).1 (ls.getD i.toNat c3).1 with
   | true=>rfl
   | false=>exact absurd ⟨by omega,by rw [aQ];rfl⟩ bA
  rw [this];simp
theorem JC{ls:List cJ}{i:Int}(h0:0<i)(hl:i<ls.length)(h:lt (ls.getD (i-1).toNat c3).1 (ls.getD i.toNat c3).1=false):np ls ls.length=false:=by
 cases aq:np ls ls.length with
 | false=>rfl
 | true=>
  have:=DN _ aq (i-1).toNat (by omega)
  rw [show (i-1).toNat+1=i.toNat by omega,h] at this
  cases this
theorem Io{ls:List cJ}(h:4096<ls.length∨ls.any kQ=true):jh ls=4:=by unfold jh;rw [if_pos h]
theorem Q8{ls:List cJ}(h:¬ (4096<ls.length∨ls.any kQ=true))(aq:np ls ls.length=false):jh ls=1:=by unfold jh;rw [if_neg h,if_neg (by rw [aq];simp)]
theorem Q7{ls:List cJ}(h:¬ (4096<ls.length∨ls.any kQ=true))(aq:np ls ls.length=true):jh ls=0:=by unfold jh;rw [if_neg h,if_pos aq]
end bo
end Go.aJ
namespace Go.aJ
namespace bo
def ga(ls:List cJ)(k:List UInt8):Bool:=decide (jQ ls k<ls.length)&&decide ((ls.getD (jQ ls k) c3).1=k)
end bo
end Go.aJ
namespace Go.aJ
namespace bo
theorem getD_in{xs:List cJ}{k:Nat}(h:k<xs.length):xs.getD k c3∈xs:=by rw [List.getD_eq_getElem?_getD,List.getElem?_eq_getElem h];exact List.getElem_mem h
def mK(ls:List cJ):ed×Int:=if jh ls=0 then (jW ls.length (jf ls),0) else (List.replicate 16 0,jh ls)
theorem HA{ls:List cJ}(h:jh ls≠0):mK ls=(List.replicate 16 0,jh ls):=if_neg h
theorem CC{ls:List cJ}(h:jh ls=0):mK ls=(jW ls.length (jf ls),0):=if_pos h
theorem aeN{ls:List cJ}(h:jh ls=0)(h0:ls.length=0):mK ls=(jW 0 (List.replicate 16 0),0):=by rw [CC h,h0];unfold jW;rw [if_pos rfl,if_pos rfl]
end bo
end Go.aJ
namespace Go.aJ
namespace bo
theorem WR{xs:List ed}{k:Nat}(h:k<xs.length):xs.getD k []∈xs:=by rw [List.getD_eq_getElem?_getD,List.getElem?_eq_getElem h];exact List.getElem_mem h
end bo
end Go.aJ
namespace Go.aJ
namespace bo
theorem Ib{x y:List UInt8}(aL:x.length<1048576)(cS:y.length<1048576):∀ p∈[x,y],p.length<1048576:=fun p bN=>by
 simp only [List.mem_cons,List.not_mem_nil,or_false] at bN
 rcases bN with rfl | rfl <;> assumption
theorem Ia{x y:List UInt8}(aL:x.length≤140737488355328)(cS:y.length≤140737488355328):∀ p∈[x,y],p.length≤140737488355328:=fun p bN=>by
 simp only [List.mem_cons,List.not_mem_nil,or_false] at bN
 rcases bN with rfl | rfl <;> assumption
end bo
end Go.aJ
namespace Go.aJ
namespace bo
end bo
end Go.aJ
end
section
/- What the reference makes of a tree: the texts that are hashed, the sides that are used. -/
namespace Go.aJ
namespace bo
def dD:ed:=List.replicate 16 0
theorem ahC:dD.length=16:=rfl
def Nl(x:cJ):List UInt8:=aK.hy 3 [x.1,x.2]
def N4(a b:ed):List UInt8:=aK.hy 4 [a,b]
def wk(n:Nat)(d:ed):List UInt8:=if n=0 then aK.hy 4 [aF.int 0] else aK.hy 4 [aF.int n,d]
abbrev jo:=List (List UInt8)
def dV(first:Nat)(lv:List cJ)(sd:List ed):Nat→Nat→Nat→jo→Nat→Bool→ed×jo×Nat×Bool
 | 0,_,_,T,u,s=>(dD,T,u,s)
 | f+1,n,a,T,u,s=>
  if a+n≤first∨first+lv.length≤a then
   (if sd.length≤u then (dD,T,u,true) else (sd.getD u [],T,u+1,s))
  else if n≤1 then (qO (lv.getD (a-first) c3),T++[Nl (lv.getD (a-first) c3)],u,s)
  else
   let b8:=dV first lv sd f (half n) a T u s
   let cL:=dV first lv sd f (n-half n) (a+half n) b8.2.1 b8.2.2.1 b8.2.2.2
   (pV b8.1 cL.1,cL.2.1++[N4 b8.1 cL.1],cL.2.2.1,cL.2.2.2)
section
variable {first:Nat}{lv:List cJ}{sd:List ed}{f n a:Nat}{T:jo}{u:Nat}{s:Bool}
theorem PY(cB:a+n≤first∨first+lv.length≤a)(h:sd.length≤u):dV first lv sd (f+1) n a T u s=(dD,T,u,true):=by rw [dV,if_pos cB,if_pos h]
theorem PZ(cB:a+n≤first∨first+lv.length≤a)(h:¬ sd.length≤u):dV first lv sd (f+1) n a T u s=(sd.getD u [],T,u+1,s):=by rw [dV,if_pos cB,if_neg h]
theorem HE(cB:¬ (a+n≤first∨first+lv.length≤a))(h:n=1):dV first lv sd (f+1) n a T u s=(qO (lv.getD (a-first) c3),T++[Nl (lv.getD (a-first) c3)],u,s):=by rw [dV,if_neg cB,if_pos (by omega)]
theorem HF(cB:¬ (a+n≤first∨first+lv.length≤a))(h:2≤n){b8 cL:ed×jo×Nat×Bool}(h1:b8=dV first lv sd f (half n) a T u s)(aq:cL=dV first lv sd f (n-half n) (a+half n) b8.2.1 b8.2.2.1 b8.2.2.2) :
  dV first lv sd (f+1) n a T u s=(pV b8.1 cL.1,cL.2.1++[N4 b8.1 cL.1],cL.2.2.1,cL.2.2.2):=by
 subst h1;subst aq
 rw [dV,if_neg cB,if_neg (by omega)]
end
theorem zg{first:Nat}{lv:List cJ}{sd:List ed}(iV:∀ d∈sd,d.length=16):∀ (f n a:Nat) (T:jo) (u:Nat) (s:Bool),1≤n→n≤f →
  (dV first lv sd f n a T u s).1.length=16∧(dV first lv sd f n a T u s).2.1.length+1≤T.length+2*n∧(dV first lv sd f n a T u s).2.2.1≤u+n∧((dV first lv sd f n a T u s).2.2.1≤sd.length∨sd.length<u)
 | 0,n,a,T,u,s,h1,aq=>absurd h1 (by omega)
 | f+1,n,a,T,u,s,h1,aq=>by
  by_cases cB:a+n≤first∨first+lv.length≤a
  ·by_cases h:sd.length≤u
   ·rw [PY cB h];exact ⟨ahC,by dsimp only;omega,by dsimp only;omega,by dsimp only;omega⟩
   ·rw [PZ cB h]
    refine ⟨?_,by dsimp only;omega,by dsimp only;omega,by dsimp only;omega⟩
    dsimp only
    rw [List.getD_eq_getElem?_getD,List.getElem?_eq_getElem (by omega),Option.getD_some]
    exact iV _ (List.getElem_mem _)
  ·by_cases h:n=1
   ·rw [HE cB h];exact ⟨GI _,by dsimp only;rw [List.length_append,List.length_singleton];omega,by dsimp only;omega,by dsimp only;omega⟩
   ·have bN:=vp n
    have hl:=tw (n:=n) (by omega)
    have b6:=zg iV (lv:=lv) (first:=first) f (half n) a T u s bN (by omega)
    rw [HF cB (by omega) rfl rfl]
    generalize dV first lv sd f (half n) a T u s=b8 at b6 ⊢
    have dk:=zg iV (lv:=lv) (first:=first) f (n-half n) (a+half n) b8.2.1 b8.2.2.1 b8.2.2.2 (by omega) (by omega)
    generalize dV first lv sd f (n-half n) (a+half n) b8.2.1 b8.2.2.1 b8.2.2.2=cL at dk ⊢
    refine ⟨GV _ _,by dsimp only;rw [List.length_append,List.length_singleton];omega,by dsimp only;omega,by dsimp only;omega⟩
def p4(first:Nat)(lv:List cJ)(sd:List ed)(n:Nat):ed×jo×Nat×Bool:=
 if n=0 then (jW 0 dD,[wk 0 dD],0,false)
 else (jW n (dV first lv sd n n 0 [] 0 false).1,(dV first lv sd n n 0 [] 0 false).2.1++[wk n (dV first lv sd n n 0 [] 0 false).1],(dV first lv sd n n 0 [] 0 false).2.2.1,(dV first lv sd n n 0 [] 0 false).2.2.2)
end bo
end Go.aJ
namespace Go.aJ
namespace bo
theorem HD{ls:List cJ}{sd:List ed}:∀ (f n a:Nat) (T:jo) (u:Nat) (s:Bool),1≤n→n≤f→a+n≤ls.length →
  (dV 0 ls sd f n a T u s).1=jf (sub ls a n)∧(dV 0 ls sd f n a T u s).2.2=(u,s)
 | 0,n,a,T,u,s,h1,aq,_=>absurd h1 (by omega)
 | f+1,n,a,T,u,s,h1,aq,aQ=>by
  have cB:¬ (a+n≤0∨0+ls.length≤a):=by omega
  by_cases h:n=1
  ·subst h
   rw [HE cB rfl,PW aQ]
   exact ⟨rfl,rfl⟩
  ·have bN:=vp n
   have hl:=tw (n:=n) (by omega)
   have b6:=HD (ls:=ls) (sd:=sd) f (half n) a T u s bN (by omega) (by omega)
   rw [HF cB (by omega) rfl rfl]
   generalize dV 0 ls sd f (half n) a T u s=b8 at b6 ⊢
   have dk:=HD (ls:=ls) (sd:=sd) f (n-half n) (a+half n) b8.2.1 b8.2.2.1 b8.2.2.2 (by omega) (by omega) (by omega)
   generalize dV 0 ls sd f (n-half n) (a+half n) b8.2.1 b8.2.2.1 b8.2.2.2=cL at dk ⊢
   refine ⟨?_,?_⟩
   ·show pV b8.1 cL.1=_
    rw [b6.1,dk.1,PV aQ (by omega)]
   ·show (cL.2.2.1,cL.2.2.2)=_
    have bK:=b6.2
    have bV:=dk.2
    rw [Prod.ext_iff] at bK bV ⊢
    exact ⟨bV.1.trans bK.1,bV.2.trans bK.2⟩
theorem PX(ls:List cJ)(sd:List ed):(p4 0 ls sd ls.length).1=jW ls.length (jf ls):=by
 unfold p4
 split
 ·rename_i h;rw [h];unfold jW;rw [if_pos rfl,if_pos rfl]
 ·rename_i h
  have:=(HD (ls:=ls) (sd:=sd) ls.length ls.length 0 [] 0 false (by omega) (Nat.le_refl _) (by omega)).1
  dsimp only
  rw [this,H4]
theorem ae0(first:Nat)(lv:List cJ)(sd:List ed){n:Nat}(h:n=0):p4 first lv sd n=(jW 0 dD,[wk 0 dD],0,false):=by unfold p4;rw [if_pos h]
theorem ae1{first:Nat}{lv:List cJ}{sd:List ed}{n:Nat}(h:¬ n=0){r:ed×jo×Nat×Bool}(aY:r=dV first lv sd n n 0 [] 0 false):p4 first lv sd n=(jW n r.1,r.2.1++[wk n r.1],r.2.2.1,r.2.2.2):=by subst aY;unfold p4;rw [if_neg h]
theorem aeO(d:ed):wk 0 d=aK.hy 4 [aF.int ((0:Nat):Int)]:=if_pos rfl
theorem aeL(d:ed):jW 0 d=aK.iL 4 [aF.int ((0:Nat):Int)]:=if_pos rfl
theorem aeP{n:Nat}(h:¬ n=0)(d:ed):wk n d=aK.hy 4 [aF.int (n:Int),d]:=if_neg h
theorem aeM{n:Nat}(h:¬ n=0)(d:ed):jW n d=aK.iL 4 [aF.int (n:Int),d]:=if_neg h
end bo
end Go.aJ
namespace Go.aJ
namespace bo
section
variable {ls:List cJ}{first en a n:Nat}
end
structure ie where
 fst:Int
 gO:Int
 lv:List cJ
 sd:List ed
def shown(ls:List cJ)(first en:Nat):ie:=⟨first,ls.length,(ls.take en).drop first,if ls.length=0 then [] else afN first en ls 0⟩
end bo
def aie(q:bo.ie)(lv sv:Value)(z:aP):Prop:=bg iU z lv q.lv∧bg (oR 16) z sv q.sd
def aid(q:bo.ie):Value→List aP→List av→Prop:=fun r zs hs=>∃ lv sv z,r=.agg [az q.fst,az q.gO,lv,sv].toArray∧bg iU z lv q.lv∧bg (oR 16) z sv q.sd∧zs=[z]∧hs=[]
def aic(q:bo.ie)(e:Int):Value→List aP→List av→Prop:=fun r zs hs=>∃ lv sv z,r=.tuple [.agg [az q.fst,az q.gO,lv,sv].toArray,az e].toArray∧bg iU z lv q.lv∧bg (oR 16) z sv q.sd∧zs=[z]∧hs=[]
end Go.aJ
end
section
/- What the reference's helpers and both Proves compute. -/
namespace Go.aJ
namespace bo
def G3:ie:=⟨0,0,[],[]⟩
def al4(ls:List cJ)(k:List UInt8):ie×Int:=
 if jh ls=0 then (if ga ls k=true then (shown ls (jQ ls k) (jQ ls k+1),0) else (shown ls (jQ ls k-1) (min (jQ ls k+1) ls.length),0)) else (G3,jh ls)
def am4(ls:List cJ)(k m:List UInt8):ie×Int:=
 if jh ls=0 then (if lt m k=true then (G3,5) else (shown ls (jQ ls k-1) (min (jQ ls m+1) ls.length),0)) else (G3,jh ls)
section
variable {ls:List cJ}{k m:List UInt8}
end
def ajE(ls:List cJ)(k:List UInt8):Int:=kd (fun x=>decide (x.1=k)) ls
def Z8(k m:List UInt8)(x:cJ):Bool := !lt x.1 k&&lt x.1 m
def inside(ls:List cJ)(k m:List UInt8):List cJ:=ls.filter (Z8 k m)
theorem nb{α:Type}(d:α){xs:List α}{i:Nat}(h:i<xs.length):xs.take (i+1)=xs.take i++[xs.getD i d]:=by
 rw [List.take_add_one,List.getElem?_eq_getElem h,List.getD_eq_getElem?_getD,List.getElem?_eq_getElem h];rfl
def am8(p q:ie):Bool:=((decide (p.fst=q.fst)&&decide (p.gO=q.gO))&&decide (p.lv=q.lv))&&decide (p.sd=q.sd)
def BI(n:Int):List UInt8:=if n%3=0 then [hb (97+n/3)] else [hb (97+n/3),hb (97+n%3)]
def ag3:List (List UInt8):=[[],[49],[50],[97,32,98],[49,50]]
def ia(l:List Int):Nat→List cJ×Int
 | 0=>([], -1)
 | i+1=>((ia l i).1++[(BI ((ia l i).2+1+cM.xo l (2*i) 3),ag3.getD (cM.xo l (2*i+1) 5).toNat [])],(ia l i).2+1+cM.xo l (2*i) 3)
def abo(l:List Int):Nat:=min 11 ((l.length+1)/2)
def alL(l:List Int):List cJ:=(ia l (abo l)).1
def r3(ls:List cJ)(n:Int):List UInt8:=
 let k:=cM.fo n (3*ls.length+5)
 if k<ls.length then (ls.getD k.toNat c3).1 else if k<2*ls.length then (ls.getD (k-ls.length).toNat c3).1++[97] else if k=2*ls.length then [] else BI k
def alM(raw:List cJ):List cJ:=(raw.take 8).map fun x=>(x.1.take 40,x.2.take 40)
end bo
end Go.aJ
namespace Go.aJ
namespace bo
end bo
end Go.aJ
end
section
/- What Under, Check, CheckRange say, in both programs. -/
namespace Go.aJ
namespace bo
def QZ(first:Nat)(lv:List cJ):Nat→Nat→Nat→List ed→Bool→ed×List ed×Bool
 | 0,_,_,sd,s=>(dD,sd,s)
 | f+1,n,a,sd,s=>
  if s=false then (dD,sd,false)
  else if a+n≤first∨first+lv.length≤a then (match sd with | []=>(dD,[],false) | d::t=>(d,t,true))
  else if n≤1 then (qO (lv.getD (a-first) c3),sd,s)
  else
   let b8:=QZ first lv f (half n) a sd s
   let cL:=QZ first lv f (n-half n) (a+half n) b8.2.1 b8.2.2
   (pV b8.1 cL.1,cL.2.1,cL.2.2)
section
variable {first:Nat}{lv:List cJ}{f n a:Nat}{sd:List ed}{s:Bool}
end
def G0(q:ie):Prop:=0≤q.gO∧q.gO≤4096∧0≤q.fst∧q.fst≤q.gO∧q.fst+q.lv.length≤q.gO∧jh q.lv=0
instance (q:ie):Decidable (G0 q):=by unfold G0;infer_instance
def TT(q:ie)(r:ed):Bool:=match TU q.fst.toNat q.lv q.gO.toNat 0 q.sd with
 | some (d,[])=>decide (jW q.gO.toNat d=r)
 | _=>false
def Q0(q:ie)(r:ed):Bool:=if G0 q then (if q.gO=0 then (decide (q.sd=[])&&decide (jW 0 dD=r)) else if q.lv=[] then false else TT q r) else false
def aiN(r:ed)(k:List UInt8)(q:ie):List UInt8×Bool×Int:=
  if Q0 q r=true then
    (if ga q.lv k=true then ((q.lv.getD (jQ q.lv k) c3).2,true,0)
     else if (0<jQ q.lv k∨q.fst=0)∧(jQ q.lv k<q.lv.length∨q.fst+q.lv.length=q.gO) then ([],false,0) else ([],false,17))
  else ([],false,17)
def DP(q:ie)(k m:List UInt8):Prop:=(0<q.fst∧jQ q.lv k=0)∨(q.fst+q.lv.length<q.gO∧jQ q.lv m=q.lv.length)
instance (q:ie) (k m:List UInt8):Decidable (DP q k m):=by unfold DP;infer_instance
def aiO(r:ed)(k m:List UInt8)(q:ie):List cJ×Int:=
 if lt m k=true then ([],5) else if Q0 q r=true then (if DP q k m then ([],17) else ((q.lv.take (jQ q.lv m)).drop (jQ q.lv k),0)) else ([],17)
section
variable {r:ed}{k m:List UInt8}{q:ie}
end
end bo
end Go.aJ
end
section
/- Texts: their lengths; when two of them collide. -/
namespace Go.aJ
namespace bo
def u2(x:List UInt8):ed:=(aK.sum x).take 16
def TQ(t:jo):Bool:=(List.range t.length).any fun i=>(List.range i).any fun k => !decide (t.getD i []=t.getD k [])&&decide (u2 (t.getD i [])=u2 (t.getD k []))
def GZ(q:ie):Prop:=0≤q.gO∧q.gO≤4096∧0≤q.fst∧q.fst≤q.gO∧(q.lv.length:Int)≤q.gO-q.fst
instance (q:ie):Decidable (GZ q):=by unfold GZ;infer_instance
def agA(q:ie):jo:=if GZ q then (p4 q.fst.toNat q.lv q.sd q.gO.toNat).2.1 else []
def agz(ls:List cJ):jo:=(p4 0 ls [] ls.length).2.1
def TR(ls:List cJ)(q:ie):Bool:=TQ (agz ls++agA q)
section
variable {t:jo}{i k:Nat}
def alT(t:jo)(i:Nat):Prop:=∀ j,j<i→∀ k,k<j→¬ (¬ t.getD j []=t.getD k []∧u2 (t.getD j [])=u2 (t.getD k []))
end
end bo
end Go.aJ
namespace Go.aJ
namespace bo
end bo
end Go.aJ
namespace Go.aJ
namespace bo
theorem r5(l:List Int):∀ i,(ia l i).1.length=i
 | 0=>rfl
 | i+1=>by show ((ia l i).1++_).length=_;rw [List.length_append,r5 l i];rfl
end bo
end Go.aJ
end
section
/- A proof with one thing changed. -/
namespace Go.aJ
namespace bo
def ns(q:ie)(b:Int):Nat:=(cM.fo b (max (q.lv.length:Int) 1)).toNat
def Ai(q:ie)(b:Int):Nat:=(cM.fo b (max (q.sd.length:Int) 1)).toNat
def acA:ed:=1::List.replicate 15 0
def flip(d:ed)(b:Int):ed:=d.set (cM.fo (b.tdiv 8) 16).toNat (d.getD (cM.fo (b.tdiv 8) 16).toNat 0 ^^^ 1)
def aiD(q:ie)(Y9 b:Int):ie:=
 let h:=cM.fo Y9 11
 if h=0 then { q with fst:=wr (wr (q.fst+cM.fo b 5)-2) }
 else if h=1 then { q with gO:=wr (wr (q.gO+cM.fo b 5)-2) }
 else if h=2 then { q with gO:=[b,4096,4097, -1].getD (cM.fo b 4).toNat 0 }
 else if h=3 then { q with fst:=b }
 else if h=4 then (if 0<q.lv.length then { q with lv:=q.lv.set (ns q b) (BI (cM.fo b 40),(q.lv.getD (ns q b) c3).2) } else q)
 else if h=5 then (if 0<q.lv.length then { q with lv:=q.lv.set (ns q b) ((q.lv.getD (ns q b) c3).1,(q.lv.getD (ns q b) c3).2++[120]) } else q)
 else if h=6 then (if 0<q.lv.length then { q with lv:=q.lv.take (ns q b)++q.lv.drop (ns q b+1) } else q)
 else if h=7 then { q with lv:=q.lv++[(BI (cM.fo b 40),[])] }
 else if h=8 then (if 0<q.sd.length then { q with sd:=q.sd.set (Ai q b) (flip (q.sd.getD (Ai q b) []) b) } else q)
 else if h=9 then (if 0<q.sd.length then { q with sd:=q.sd.take (Ai q b)++q.sd.drop (Ai q b+1) } else q)
 else { q with sd:=q.sd++[acA] }
def anb(q:ie)(m b:Nat):Prop:=q.lv.length≤m∧q.sd.length≤m∧(∀ x∈q.lv,x.1.length≤b∧x.2.length≤b)∧∀ d∈q.sd,d.length=16
end bo
end Go.aJ
namespace Go.aJ
namespace bo
end bo
end Go.aJ
end
section
/- Both directions: what is shown is accepted; what is accepted is true, or two texts collide. -/
namespace Go.aJ
namespace bo
def cut(ls:List cJ)(st en:Nat):List cJ:=(ls.take en).drop st
def inj(X:jo):Prop:=∀ x∈X,∀ y∈X,u2 x=u2 y→x=y
def am7(ls:List cJ)(k:List UInt8)(v:List UInt8)(b:Bool):Bool:=if ga ls k=true then (b&&decide (v=(ls.getD (jQ ls k) c3).2)) else !b
end bo
end Go.aJ
end
