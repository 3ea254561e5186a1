/- walks and plain laws -/
import Derived.Test.YtngcjojijaknnaaGreatDoorFwA
import Derived.Test.YtngcjojijaknnaaGreatDoorFwB
import Derived.Test.YtngcjojijaknnaaGreatDoorFwC
import Derived.Test.YtngcjojijaknnaaGreatDoorFwD
import Derived.Test.YtngcjojijaknnaaGreatDoorGuA
import Derived.Test.YtngcjojijaknnaaGreatDoorShW
import Derived.Test.YtngcjojijaknnaaGreatDoorJnA
import Derived.Test.YtngcjojijaknnaaGreatDoorFwG
import Derived.Test.YtngcjojijaknnaaGreatDoorJnB
import Derived.Test.YtngcjojijaknnaaGreatDoorMkA
import Derived.Shelf.Spec.SlicesGrow
set_option linter.all false
section
namespace au
open Go Go.aK
structure bK where
 tk:Int
 ky:List UInt8
 vl:List UInt8
deriving DecidableEq
def f0:bK:=⟨0,[],[]⟩
def j4(x:bK):Prop:=(-9223372036854775808≤x.tk∧x.tk≤9223372036854775807)∧x.ky.length≤140737488355328∧x.vl.length≤140737488355328
def je(x:bK):List Value:=[aA x.tk,vs x.ky,vs x.vl]
theorem hO(x:bK):(je x).length=3:=rfl
theorem hy(x:bK):∀ u∈je x,u.oneCell'=true:=fun u hu=>by
 simp only [je,List.mem_cons,List.not_mem_nil,or_false] at hu
 rcases hu with rfl | rfl | rfl <;> rfl
abbrev alh:=mY je 3 j4 hO hy
def valid(f:bK):Int:=if (f.tk<0∨1048576<f.tk)∨f.ky=[] then 1 else if 256<f.ky.length∨7000<f.vl.length then 4 else 0
theorem J1{f:bK}(h:(f.tk<0∨1048576<f.tk)∨f.ky=[]):valid f=1:=by unfold valid;rw [if_pos h]
theorem J2{f:bK}(h:¬ ((f.tk<0∨1048576<f.tk)∨f.ky=[]))(ar:256<f.ky.length∨7000<f.vl.length):valid f=4:=by unfold valid;rw [if_neg h,if_pos ar]
theorem J3{f:bK}(h:¬ ((f.tk<0∨1048576<f.tk)∨f.ky=[]))(ar:¬ (256<f.ky.length∨7000<f.vl.length)):valid f=0:=by unfold valid;rw [if_neg h,if_neg ar]
theorem Bd{f:bK}(h:valid f=0):(0≤f.tk∧f.tk≤1048576)∧f.ky≠[]∧f.ky.length≤256∧f.vl.length≤7000:=by
 by_cases h1:(f.tk<0∨1048576<f.tk)∨f.ky=[]
 ·rw [J1 h1] at h;cases h
 by_cases ar:256<f.ky.length∨7000<f.vl.length
 ·rw [J2 h1 ar] at h;cases h
 exact ⟨⟨by omega,by omega⟩,fun e=>h1 (.inr e),by omega,by omega⟩
def enc(f:bK):List UInt8:=aF.int f.tk++aF.bytes f.ky++aF.bytes f.vl
theorem Me(f:bK):(enc f).length≤27+f.ky.length+f.vl.length:=by
 have h1:=aF.oo f.tk
 have ar:=aF.su f.ky
 have aQ:=aF.su f.vl
 unfold enc
 rw [List.length_append,List.length_append];omega
def d1(b:List UInt8):List UInt8×Int×Int:=aF.dZ (b.drop (aF.getInt b).2.1.toNat)
def d2(b:List UInt8):List UInt8×Int×Int:=aF.dZ (b.drop ((aF.getInt b).2.1+(d1 b).2.1).toNat)
def oL(b:List UInt8):bK:=⟨(aF.getInt b).1,(d1 b).1,(d2 b).1⟩
def dec(b:List UInt8):bK×Int:=
 if (aF.getInt b).2.2≠0 then (f0,(aF.getInt b).2.2)
 else if (d1 b).2.2≠0 then (f0,(d1 b).2.2)
 else if (d2 b).2.2≠0 then (f0,(d2 b).2.2)
 else if (aF.getInt b).2.1+(d1 b).2.1+(d2 b).2.1≠b.length∨valid (oL b)≠0 then (f0,2)
 else (oL b,0)
theorem FA{b:List UInt8}(h:(aF.getInt b).2.2≠0):dec b=(f0,(aF.getInt b).2.2):=by unfold dec;rw [if_pos h]
theorem FB{b:List UInt8}(h:(aF.getInt b).2.2=0)(h1:(d1 b).2.2≠0):dec b=(f0,(d1 b).2.2):=by unfold dec;rw [if_neg ag,if_pos h1]
theorem FC{b:List UInt8}(h:(aF.getInt b).2.2=0)(h1:(d1 b).2.2=0)(ar:(d2 b).2.2≠0):dec b=(f0,(d2 b).2.2):=by unfold dec;rw [if_neg ag,if_neg ag,if_pos ar]
theorem FD{b:List UInt8}(h:(aF.getInt b).2.2=0)(h1:(d1 b).2.2=0)(ar:(d2 b).2.2=0)(aQ:(aF.getInt b).2.1+(d1 b).2.1+(d2 b).2.1≠b.length∨valid (oL b)≠0):dec b=(f0,2):=by unfold dec;rw [if_neg ag,if_neg ag,if_neg ag,if_pos aQ]
theorem B0{b:List UInt8}(h:(aF.getInt b).2.2=0)(h1:(d1 b).2.2=0)(ar:(d2 b).2.2=0)(aQ:¬ ((aF.getInt b).2.1+(d1 b).2.1+(d2 b).2.1≠b.length∨valid (oL b)≠0)):dec b=(oL b,0):=by unfold dec;rw [if_neg ag,if_neg ag,if_neg ag,if_neg aQ]
theorem Wc(b:List UInt8):(dec b).2=0→valid (dec b).1=0:=by
 intro h
 by_cases h1:(aF.getInt b).2.2≠0
 ·rw [FA h1] at h;exact absurd h h1
 by_cases ar:(d1 b).2.2≠0
 ·rw [FB ag ar] at h;exact absurd h ar
 by_cases aQ:(d2 b).2.2≠0
 ·rw [FC ag ag aQ] at h;exact absurd h aQ
 by_cases bF:(aF.getInt b).2.1+(d1 b).2.1+(d2 b).2.1≠b.length∨valid (oL b)≠0
 ·rw [FD ag ag ag bF] at h;cases h
 ·rw [B0 ag ag ag bF]
  show valid (oL b)=0
  omega
def vM(a:List bK×Int)(s:List UInt8):List bK×Int:=if ((dec s).2=0∧a.2≤(dec s).1.tk)∧a.1.length<512 then (a.1++[(dec s).1],(dec s).1.tk) else a
def eX(l:List (List UInt8))(k:Nat):List bK×Int:=(l.take k).foldl vM ([],0)
def taken(l:List (List UInt8)):List bK:=(eX l l.length).1
theorem aiC(l:List (List UInt8)):eX l 0=([],0):=rfl
theorem qW{l:List (List UInt8)}{k:Nat}(h:k<l.length):eX l (k+1)=vM (eX l k) (l.getD k []):=by
 unfold eX
 rw [aj.nP (d:=([]:List UInt8)) h,List.foldl_append];rfl
theorem xX{a:List bK×Int}{s:List UInt8}(h:((dec s).2=0∧a.2≤(dec s).1.tk)∧a.1.length<512):vM a s=(a.1++[(dec s).1],(dec s).1.tk):=by unfold vM;rw [if_pos h]
theorem Ee{a:List bK×Int}{s:List UInt8}(h:¬ (((dec s).2=0∧a.2≤(dec s).1.tk)∧a.1.length<512)):vM a s=a:=by unfold vM;rw [if_neg h]
structure Good (l:List bK):Prop where
 len:l.length≤512
 ok:∀ f∈l,valid f=0
 srt:l.Pairwise (fun f g=>f.tk≤g.tk)
theorem wK:Good []:=⟨by decide,fun f h=>(by cases h),List.Pairwise.nil⟩
def clock(l:List bK):Int:=if l=[] then 0 else (l.getD (l.length-1) f0).tk
theorem y5{l:List bK}(h:Good l){f:bK}(bA:valid f=0)(bq:∀ g∈l,g.tk≤f.tk)(hl:l.length<512):Good (l++[f]):=by
 refine ⟨by rw [List.length_append];simp;omega,fun g aP=>?_,?_⟩
 ·rcases List.mem_append.1 aP with h1 | h1
  ·exact h.ok g h1
  ·have:g=f:=by simpa using h1
   rw [this];exact bA
 ·refine List.pairwise_append.2 ⟨h.srt,List.pairwise_singleton _ _,fun a bg b aw=>?_⟩
  have:b=f:=by simpa using aw
  rw [this];exact bq a bg
theorem JL(l:List (List UInt8)):∀ k,k≤l.length→Good (eX l k).1∧(∀ g∈(eX l k).1,g.tk≤(eX l k).2)∧0≤(eX l k).2∧(eX l k).2≤1048576
 | 0,_=>⟨wK,fun g h=>(by cases h),Int.le_refl _,by rw [aiC];decide⟩
 | k+1,aE=>by
  obtain ⟨h1,ar,aQ,bF⟩:=JL l k ag
  rw [qW ag]
  by_cases bq:((dec (l.getD k [])).2=0∧(eX l k).2≤(dec (l.getD k [])).1.tk)∧(eX l k).1.length<512
  ·rw [xX bq]
   have bA:=Wc _ bq.1.1
   have zO:=Bd bA
   refine ⟨y5 h1 bA (fun g aP=>Int.le_trans (ar g aP) bq.1.2) bq.2,fun g aP=>?_,zO.1.1,zO.1.2⟩
   rcases List.mem_append.1 aP with cO | cO
   ·exact Int.le_trans (ar g cO) bq.1.2
   ·have:g=(dec (l.getD k [])).1:=by simpa using cO
    rw [this];exact Int.le_refl _
  ·rw [Ee bq];exact ⟨h1,ar,aQ,bF⟩
theorem AW(l:List (List UInt8)):Good (taken l):=(JL l l.length (Nat.le_refl _)).1
theorem lA{l:List bK}(h:Good l):∀ f∈l,j4 f:=fun f bw=>by
 have:=Bd (h.ok f bw)
 exact ⟨⟨by omega,by omega⟩,by omega,by omega⟩
def jY(f:bK)(t:Int)(k:List UInt8):Bool:=decide (f.ky=k)&&decide (f.tk≤t)
def iL(t:Int)(k:List UInt8)(a:List UInt8×Bool)(f:bK):List UInt8×Bool:=if jY f t k=true then (f.vl,true) else a
def ek(l:List bK)(t:Int)(k:List UInt8):List UInt8×Bool:=l.foldl (iL t k) ([],false)
theorem ac0(l:List bK)(f:bK)(t:Int)(k:List UInt8):ek (l++[f]) t k=if jY f t k=true then (f.vl,true) else ek l t k:=by
 unfold ek;rw [List.foldl_append];rfl
theorem xf{l:List bK}{m:Nat}(h:m<l.length)(t:Int)(k:List UInt8):ek (l.take (m+1)) t k=if jY (l.getD m f0) t k=true then ((l.getD m f0).vl,true) else ek (l.take m) t k:=by
 rw [aj.nP (d:=f0) h,ac0]
def hS(l:List bK)(t:Int):List bK:=l.take (l.countP fun f=>decide (f.tk≤t))
theorem A2:∀ {l:List bK},l.Pairwise (fun f g=>f.tk≤g.tk)→∀ t,hS l t=l.filter (fun f=>decide (f.tk≤t))
 | [],_,_=>rfl
 | f::l,h,t=>by
  obtain ⟨h1,ar⟩:=List.pairwise_cons.1 h
  have ih:=A2 ar t
  unfold hS at ih ⊢
  by_cases bw:f.tk≤t
  ·rw [List.countP_cons_of_pos (by simpa using bw),List.filter_cons_of_pos (by simpa using bw),List.take_succ_cons,ih]
  ·have h0:l.countP (fun f=>decide (f.tk≤t))=0:=by
    rw [List.countP_eq_zero]
    intro g aP
    have:=h1 g aP
    simp;omega
   rw [List.countP_cons_of_neg (by simpa using bw),h0,List.take_zero,List.filter_cons_of_neg (by simpa using bw)]
   symm
   rw [List.filter_eq_nil_iff]
   intro g aP
   have:=h1 g aP
   simp;omega
theorem Ie(t:Int)(k:List UInt8):∀ (l:List bK) (a:List UInt8×Bool),(l.filter (fun f=>decide (f.tk≤t))).foldl (iL t k) a=l.foldl (iL t k) a
 | [],_=>rfl
 | f::l,a=>by
  by_cases bw:f.tk≤t
  ·rw [List.filter_cons_of_pos (by simpa using bw),List.foldl_cons,List.foldl_cons,Ie t k l]
  ·rw [List.filter_cons_of_neg (by simpa using bw),List.foldl_cons,Ie t k l]
   have:iL t k a f=a:=by
    unfold iL jY
    rw [decide_eq_false bw,Bool.and_false,if_neg (by simp)]
   rw [this]
theorem Pa{l:List bK}(h:l.Pairwise (fun f g=>f.tk≤g.tk))(t:Int)(k:List UInt8):ek (hS l t) t k=ek l t k:=by
 unfold ek
 rw [A2 h,Ie]
end au
end
section
namespace au
open Go Go.aK
theorem Fi:∀ (a b:List UInt8),Op.bytesLess a b=true↔a<b
 | [],[]=>by simp [Op.bytesLess]
 | [],b::l=>by simp [Op.bytesLess]
 | a::l,[]=>by simp [Op.bytesLess]
 | a::l,b::m=>by
  have ih:=Fi l m
  rw [List.cons_lt_cons_iff,Op.bytesLess]
  by_cases h1:a=b
  ·subst h1
   simp [ih]
  ·by_cases ar:a<b
   ·simp [h1,ar]
   ·simp [h1,ar]
def kO:List (List UInt8)→List UInt8→List (List UInt8)
 | [],k=>[k]
 | x::l,k=>if x<k then x::kO l k else if x=k then x::l else k::x::l
def oq(t:Int)(o:List (List UInt8))(f:bK):List (List UInt8):=if f.tk≤t then kO o f.ky else o
def keys(l:List bK)(t:Int):List (List UInt8):=l.foldl (oq t) []
theorem Ic(x:List UInt8):∀ (l:List (List UInt8)) (k:List UInt8),x∈kO l k↔x=k∨x∈l
 | [],k=>by simp [kO]
 | y::l,k=>by
  unfold kO
  split
  ·rw [List.mem_cons,Ic x l k,List.mem_cons]
   constructor
   ·rintro (h | h | h)
    ·exact .inr (.inl h)
    ·exact .inl h
    ·exact .inr (.inr h)
   ·rintro (h | h | h)
    ·exact .inr (.inl h)
    ·exact .inl h
    ·exact .inr (.inr h)
  ·split
   ·rename_i h
    subst h
    rw [List.mem_cons]
    constructor
    ·exact .inr
    ·rintro (h | h)
     ·exact .inl h
     ·exact h
   ·rw [List.mem_cons]
theorem adw{a b:List UInt8}(h1:¬ a<b)(ar:¬ a=b):b<a:=by
 rcases Classical.em (b<a) with h | h
 ·exact h
 ·exact absurd (List.le_antisymm (List.not_lt.1 h) (List.not_lt.1 h1)) ar
theorem O8:∀ (l:List (List UInt8)) (k:List UInt8),l.Pairwise (fun a b=>a<b)→(kO l k).Pairwise (fun a b=>a<b)
 | [],k,_=>List.pairwise_singleton _ _
 | x::l,k,h=>by
  obtain ⟨h1,ar⟩:=List.pairwise_cons.1 h
  unfold kO
  split
  ·rename_i aM
   refine List.pairwise_cons.2 ⟨fun y cZ=>?_,O8 l k ar⟩
   rcases (Ic y l k).1 cZ with rfl | cZ
   ·exact aM
   ·exact h1 y cZ
  ·split
   ·exact h
   ·rename_i aM bD
    have aE:=adw aM bD
    refine List.pairwise_cons.2 ⟨fun y cZ=>?_,h⟩
    rcases List.mem_cons.1 cZ with rfl | cZ
    ·exact aE
    ·exact List.lt_trans aE (h1 y cZ)
theorem acP(l:List bK)(t:Int):(keys l t).Pairwise (fun a b=>a<b):=by
 have:∀ (l:List bK) (o:List (List UInt8)),o.Pairwise (fun a b=>a<b)→(l.foldl (oq t) o).Pairwise (fun a b=>a<b):=by
  intro l
  induction l with
  | nil=>intro o h;exact h
  | cons f l ih=>
   intro o h
   refine ih _ ?_
   unfold oq
   split
   ·exact O8 _ _ h
   ·exact h
 exact this l [] List.Pairwise.nil
theorem Da(l:List bK)(t:Int)(x:List UInt8):x∈keys l t↔∃ f∈l,f.tk≤t∧f.ky=x:=by
 have:∀ (l:List bK) (o:List (List UInt8)),x∈l.foldl (oq t) o↔x∈o∨∃ f∈l,f.tk≤t∧f.ky=x:=by
  intro l
  induction l with
  | nil=>intro o;simp
  | cons f l ih=>
   intro o
   rw [List.foldl_cons,ih]
   have:x∈oq t o f↔x∈o∨f.tk≤t∧f.ky=x:=by
    unfold oq
    split
    ·rename_i h
     rw [Ic]
     constructor
     ·rintro (rfl | ar)
      ·exact .inr ⟨h,rfl⟩
      ·exact .inl ar
     ·rintro (ar | ⟨_,ar⟩)
      ·exact .inr ar
      ·exact .inl ar.symm
    ·rename_i h
     constructor
     ·exact .inl
     ·rintro (ar | ⟨ar,_⟩)
      ·exact ar
      ·exact absurd ar h
   rw [this]
   constructor
   ·rintro ((h | h) | ⟨g,aP,h⟩)
    ·exact .inl h
    ·exact .inr ⟨f,List.mem_cons_self,h⟩
    ·exact .inr ⟨g,List.mem_cons_of_mem _ aP,h⟩
   ·rintro (h | ⟨g,aP,h⟩)
    ·exact .inl (.inl h)
    ·rcases List.mem_cons.1 aP with rfl | aP
     ·exact .inl (.inr h)
     ·exact .inr ⟨g,aP,h⟩
 have h:=this l []
 simpa [keys] using h
theorem ah5{ks:List (List UInt8)}(bD:ks.Nodup){l:List bK}{t:Int}(hm:∀ x,x∈ks↔x∈keys l t):ks.mergeSort (fun x y=>decide (x≤y))=keys l t:=by
 have hs:=acP l t
 have gx:(keys l t).Nodup:=hs.imp fun h e=>by subst e;exact List.lt_irrefl _ h
 have bO:ks.Perm (keys l t):=(List.perm_ext_iff_of_nodup bD gx).2 hm
 have tr:∀ a b c:List UInt8,decide (a≤b)=true→decide (b≤c)=true→decide (a≤c)=true:=fun a b c h1 ar=>by simp only [decide_eq_true_eq] at *;exact List.le_trans h1 ar
 have aiI:∀ a b:List UInt8,(decide (a≤b) || decide (b≤a))=true:=fun a b=>by simp only [Bool.or_eq_true,decide_eq_true_eq];exact List.le_total a b
 refine List.Perm.eq_of_pairwise (le:=fun a b=>decide (a≤b)=true) (fun a b _ _ h1 ar=>?_) (List.pairwise_mergeSort tr aiI ks) (hs.imp fun h=>by simp only [decide_eq_true_eq];exact List.le_of_lt h) ((List.mergeSort_perm ks _).trans bO)
 simp only [decide_eq_true_eq] at h1 ar
 exact List.le_antisymm h1 ar
def mF(l:List bK)(k:Nat):List (List UInt8×Value):=(l.take k).foldl (fun m f=>iG f.ky (vs f.vl) m) []
theorem Di{l:List bK}{k:Nat}(h:k<l.length):mF l (k+1)=iG (l.getD k f0).ky (vs (l.getD k f0).vl) (mF l k):=by
 unfold mF
 rw [aj.nP (d:=f0) h,List.foldl_append];rfl
theorem UU{α:Type}[DecidableEq α](a:α)(v:Value):∀ (l:List (α×Value)) (x:α),x∈(iG a v l).map (·.1)↔x=a∨x∈l.map (·.1):=by
 intro l x
 have h1:∀ (m:List (α×Value)) (y:α),y∈m.map (·.1)↔(gv m y).isSome=true:=by
  intro m y
  induction m with
  | nil=>simp [gv,gI]
  | cons p m ih=>
   rw [rh,List.map_cons,List.mem_cons]
   by_cases h:y=p.1
   ·rw [if_pos h];simp [h]
   ·rw [if_neg h,← ih];simp [h]
 rw [h1,h1,uv]
 by_cases h:x=a
 ·rw [if_pos h];simp [h]
 ·rw [if_neg h];simp [h]
theorem Dh(l:List bK):∀ k,k≤l.length→((mF l k).map (·.1)).Nodup∧∀ x,x∈(mF l k).map (·.1)↔∃ f∈l.take k,f.ky=x
 | 0,_=>⟨List.nodup_nil,fun x=>by simp [mF]⟩
 | k+1,aE=>by
  obtain ⟨h1,ar⟩:=Dh l k ag
  rw [Di ag]
  refine ⟨Ff h1,fun x=>?_⟩
  rw [UU,ar,aj.nP (d:=f0) ag]
  constructor
  ·rintro (rfl | ⟨f,bw,rfl⟩)
   ·exact ⟨_,List.mem_append_right _ (by simp),rfl⟩
   ·exact ⟨f,List.mem_append_left _ bw,rfl⟩
  ·rintro ⟨f,bw,rfl⟩
   rcases List.mem_append.1 bw with bw | bw
   ·exact .inr ⟨f,bw,rfl⟩
   ·have:f=l.getD k f0:=by simpa using bw
    rw [this];exact .inl rfl
theorem Lh{α:Type}[DecidableEq α](a:α)(v:Value):∀ (l:List (α×Value)),(iG a v l).length≤l.length+1
 | []=>Nat.le_refl _
 | p::l=>by
  have:=Lh a v l
  unfold iG
  split
  ·simp
  ·simp only [List.length_cons];omega
theorem PN(l:List bK):∀ k,k≤l.length→(mF l k).length≤k
 | 0,_=>Nat.le_refl _
 | k+1,aE=>by
  have h:=PN l k ag
  rw [Di ag]
  have ar:=Lh (l.getD k f0).ky (vs (l.getD k f0).vl) (mF l k)
  omega
theorem O4{l:List bK}(h:l.Pairwise (fun f g=>f.tk≤g.tk))(t:Int):((mF (hS l t) (hS l t).length).map (·.1)).mergeSort (fun x y=>decide (x≤y))=keys l t:=by
 obtain ⟨h1,ar⟩:=Dh (hS l t) (hS l t).length (Nat.le_refl _)
 refine ah5 h1 fun x=>?_
 rw [ar,List.take_length,Da,A2 h]
 constructor
 ·rintro ⟨f,bw,rfl⟩
  obtain ⟨aQ,bF⟩:=List.mem_filter.1 bw
  exact ⟨f,aQ,by simpa using bF,rfl⟩
 ·rintro ⟨f,bw,aN,rfl⟩
  exact ⟨f,List.mem_filter.2 ⟨bw,by simpa using aN⟩,rfl⟩
end au
end
section
namespace au
open Go Go.aK
structure gg where
 J:aj.dC
 S:ak.aX
 F:List bK
def add(L:gg)(f:bK):gg×Int:=
 if valid f≠0 then (L,valid f)
 else if f.tk<clock L.F then (L,18)
 else if 512≤L.F.length then (L,4)
 else if (aj.app L.J L.S (enc f)).2.2.2≠0 then (⟨(aj.app L.J L.S (enc f)).1,(aj.app L.J L.S (enc f)).2.1,L.F⟩,(aj.app L.J L.S (enc f)).2.2.2)
 else (⟨(aj.app L.J L.S (enc f)).1,(aj.app L.J L.S (enc f)).2.1,L.F++[f]⟩,0)
theorem wb{L:gg}{f:bK}(h:valid f≠0):add L f=(L,valid f):=by unfold add;rw [if_pos h]
theorem uo{L:gg}{f:bK}(h:valid f=0)(ar:f.tk<clock L.F):add L f=(L,18):=by unfold add;rw [if_neg ag,if_pos ar]
theorem wc{L:gg}{f:bK}(h:valid f=0)(ar:¬ f.tk<clock L.F)(aQ:512≤L.F.length):add L f=(L,4):=by unfold add;rw [if_neg ag,if_neg ar,if_pos aQ]
theorem uq{L:gg}{f:bK}(h:valid f=0)(ar:¬ f.tk<clock L.F)(aQ:¬ 512≤L.F.length)(bF:(aj.app L.J L.S (enc f)).2.2.2≠0):add L f=(⟨(aj.app L.J L.S (enc f)).1,(aj.app L.J L.S (enc f)).2.1,L.F⟩,(aj.app L.J L.S (enc f)).2.2.2):=by unfold add;rw [if_neg ag,if_neg ar,if_neg aQ,if_pos bF]
theorem sn{L:gg}{f:bK}(h:valid f=0)(ar:¬ f.tk<clock L.F)(aQ:¬ 512≤L.F.length)(bF:(aj.app L.J L.S (enc f)).2.2.2=0):add L f=(⟨(aj.app L.J L.S (enc f)).1,(aj.app L.J L.S (enc f)).2.1,L.F++[f]⟩,0):=by unfold add;rw [if_neg ag,if_neg ar,if_neg aQ,if_neg ag]
def pX(S:ak.aX):gg:=⟨aj.bW S,S,taken (aj.bW S).tx⟩
theorem VL{l:List bK}(h:Good l){f:bK}(bq:¬ f.tk<clock l):∀ g∈l,g.tk≤f.tk:=fun g aP=>by
 unfold clock at bq
 by_cases h0:l=[]
 ·subst h0;cases aP
 rw [if_neg h0] at bq
 have hl:0<l.length:=List.length_pos_iff.2 h0
 obtain ⟨j,aV,rfl⟩:=List.getElem_of_mem aP
 have e:l.getD (l.length-1) f0=l[l.length-1]:=by rw [List.getD_eq_getElem?_getD,List.getElem?_eq_getElem ag];rfl
 rw [e] at bq
 by_cases l4:j=l.length-1
 ·subst l4;omega
 ·have:=List.pairwise_iff_getElem.1 h.srt j (l.length-1) aV ag ag
  omega
theorem K9{L:gg}(h:Good L.F)(f:bK):Good (add L f).1.F:=by
 by_cases h1:valid f≠0
 ·rw [wb h1];exact h
 by_cases ar:f.tk<clock L.F
 ·rw [uo ag ar];exact h
 by_cases aQ:512≤L.F.length
 ·rw [wc ag ar aQ];exact h
 by_cases bF:(aj.app L.J L.S (enc f)).2.2.2=0
 ·rw [sn ag ar aQ bF]
  exact y5 h ag (VL h ar) ag
 ·rw [uq ag ar aQ bF];exact h
def bZ:bK:=⟨3,[97],[120]⟩
def cg:bK:=⟨5,[97],[121]⟩
def c7:bK:=⟨4,[98],[122]⟩
def c9:bK:=⟨6,[98],[122]⟩
def eJ:aj.dC:=⟨[1],[enc bZ],[],2,1,false⟩
def cG:aj.dC:=⟨[1,2],[enc bZ,enc cg],[],3,2,false⟩
theorem Mh{S:ak.aX}{J:aj.dC}(h:aj.q1 S J){t:List UInt8}(aN:t.length≤8000)(bD:J.next≤4096)(aY:¬ aj.room J S<aj.a7 t.length) :
  ∃ F,aj.app J S t=(aj.jC J t,F,J.next,0)∧aj.q1 F (aj.jC J t)∧F.s.length=S.s.length:=by
 obtain ⟨F,gl,hw,hlen⟩:=aj.W1 h aN bD aY
 refine ⟨F,?_,gl,hlen⟩
 rw [aj.ri (by rw [h.g.gR];simp) ⟨aN,bD⟩ aY (by rw [hw]) (by rw [hw];simp),hw]
theorem down{S:ak.aX}{J:aj.dC}(h:aj.q1 S J){t:List UInt8}(aN:t.length≤8000)(bD:J.next≤4096)(aY:¬ aj.room J S<aj.a7 t.length) :
  aj.app J (ak.dx S 0) t=(aj.kj J t,⟨S.s,true,0⟩,0,23):=by
 have bC:=h.g.ok
 have he:=h.g.wf.bL
 have bq:=aj.yQ aN
 have hl:=aj.o9 J.next t
 have fD:=aY
 unfold aj.room at fD
 have HT:(ak.dx S 0).s=S.s:=rfl
 have zG:(ak.dx S 0).off=false:=h.g.still.off
 have fH:ak.step (ak.dx S 0)=(⟨S.s,true,0⟩,23):=ak.AS rfl
 have pU:aj.cX (ak.dx S 0) J.en (aj.cD J.next t) 1=(⟨S.s,true,0⟩,23):=by
  rw [aj.r8 (by rfl)]
  have fo:((aj.cD J.next t).getD 0 []).length=64:=aj.JB _ (ak.jm ag)
  have NY:ak.check (ak.dx S 0) (J.en+(0:Nat))=0:=ak.pG (by rw [zG];simp) (by rw [HT];omega)
  show ak.write (ak.dx S 0) (J.en+(0:Nat)) _=_
  rw [ak.vU NY fo (by rw [fH];show (23:Int)≠0;decide),fH]
 have abX:aj.cX (ak.dx S 0) J.en (aj.cD J.next t) (aj.cD J.next t).length=(⟨S.s,true,0⟩,23):=by
  rw [aj.Kc (k:=1) (by rw [pU];show (23:Int)≠0;decide) _ ag,pU]
 have OD:aj.fx (ak.dx S 0) J.en (aj.cD J.next t)=(⟨S.s,true,0⟩,23,false):=by
  unfold aj.fx
  rw [abX,if_pos (by show (23:Int)≠0;decide)]
 rw [aj.nz (by rw [h.g.gR];simp) ⟨aN,bD⟩ (by show ¬ aj.room J S<_;exact aY) (by rw [OD];show (23:Int)≠0;decide),OD]
theorem adb:∃ lT gY,aj.app aj.qC (ak.new 8) (enc bZ)=(eJ,lT,1,0)∧aj.app eJ lT (enc cg)=(cG,gY,2,0)∧aj.app cG (ak.dx gY 0) (enc c9)=(aj.kj cG (enc c9),⟨gY.s,true,0⟩,0,23)∧ak.e6 ⟨gY.s,true,0⟩ [0]=gY∧aj.bW gY=cG:=by
 have bL:enc bZ=[129,3,129,1,97,129,1,120]:=by decide +kernel
 have bT:enc cg=[129,5,129,1,97,129,1,121]:=by decide +kernel
 have iw:enc c9=[129,6,129,1,98,129,1,122]:=by decide +kernel
 have ak2:aj.a7 8=1:=by decide
 have f0:=aj.Mi (n:=8) a8 a8
 have n8:(ak.new 8).s.length=8:=ak.xk 8
 obtain ⟨lT,h1,g1,jr⟩:=Mh f0 (t:=enc bZ) (by rw [bL];decide) a8 (by rw [bL];decide)
 have acs:aj.jC aj.qC (enc bZ)=eJ:=by
  have:((aj.cD 1 (enc bZ)).length:Int)=1:=by rw [aj.o9,bL];rfl
  unfold aj.jC
  show (⟨[1],[enc bZ],[],2,0+((aj.cD 1 (enc bZ)).length:Int),false⟩:aj.dC)=eJ
  rw [this];rfl
 rw [acs] at h1 g1
 obtain ⟨gY,ar,g2,l2⟩:=Mh g1 (t:=enc cg) (by rw [bT];decide) a8 (by unfold aj.room;rw [jr,n8,bT];decide)
 have acv:aj.jC eJ (enc cg)=cG:=by
  have:((aj.cD 2 (enc cg)).length:Int)=1:=by rw [aj.o9,bT];rfl
  unfold aj.jC
  show (⟨[1,2],[enc bZ,enc cg],[],3,1+((aj.cD 2 (enc cg)).length:Int),false⟩:aj.dC)=cG
  rw [this];rfl
 rw [acv] at ar g2
 refine ⟨lT,gY,h1,ar,down g2 (by rw [iw];decide) a8 (by unfold aj.room;rw [l2,jr,n8,iw];decide),?_,aj.Mj g2⟩
 have aT:=g2.g.still
 have hm:=ak.Ip [0] gY.s 0 aT.dt
 unfold ak.e6
 rw [hm]
 have cH:=aT.off
 have ch:=aT.left
 cases gY
 simp_all
end au
namespace au
theorem aiA:taken aj.qC.tx=[]:=rfl
theorem aiB:taken cG.tx=[bZ,cg]:=by decide +kernel
theorem v1:valid bZ=0∧valid cg=0∧valid c7=0∧valid c9=0:=by decide
theorem UJ(J:aj.dC)(S:ak.aX):add ⟨J,S,[bZ,cg]⟩ c7=(⟨J,S,[bZ,cg]⟩,18):=uo v1.2.2.1 (by show c7.tk<clock [bZ,cg];decide)
theorem Ig:keys [bZ,cg] 4=[[97]]:=by decide
theorem acT:ek [] 9 [97]=([],false):=rfl
theorem acU:ek [bZ,cg] 2 [97]=([],false):=by decide
theorem acV:ek [bZ,cg] 4 [97]=([120],true):=by decide
theorem acW:ek [bZ,cg] 5 [97]=([121],true):=by decide
end au
end
section
namespace Go.aK
open Go.ChangeShapes Go.WideShapes Go.ChangeAt Go.RowKit
def hW:ej au.bK:=mY au.je 3 au.j4 au.hO au.hy
section
variable {P:Program}{n:Nat}{w0:World}{zs:List aR}{hs:List aC}{L:List (Nat×Value)}{d:Option Tmp}{ty t b7:TypeId}{pos:String}{af:Array Edge}{g:Option (Nat×Bool)}{x y:Operand}{u v:Value}{z:aR}{xs:List au.bK}
theorem DI[a1]{bS:TypeDesc}{bu:Nat}{zv:Value}(aN:ba P t bS 3 bu zv){k:Nat}(U:bo hW z v xs)(bj:gQ w0 zs z)(ar:aW L x=some (dn v (k*3)))(aT:fg bS=true)(aE:k<xs.length) :
  bR P n w0 zs hs L ⟨d,.load t x,ty,pos,af,g⟩ (.agg [aA (xs.getD k au.f0).tk,vs (xs.getD k au.f0).ky,vs (xs.getD k au.f0).vl].toArray):=IT au.f0 aN U bj ar aT a8 aE
theorem Ao[a1]{bS:TypeDesc}{s bu:Nat}{zv:Value}(aN:ba P t bS s bu zv){k:Nat}(U:bo hW z v xs)(bj:gQ w0 zs z)(ar:aW L x=some (dn v (k*3+0)))(aT:fg bS=false)(aE:k<xs.length) :
  bR P n w0 zs hs L ⟨d,.load t x,ty,pos,af,g⟩ (aA (xs.getD k au.f0).tk):=vw au.f0 aN U bj ar aT aE rfl
theorem DJ[a1]{bS:TypeDesc}{s bu:Nat}{zv:Value}(aN:ba P t bS s bu zv){k:Nat}(U:bo hW z v xs)(bj:gQ w0 zs z)(ar:aW L x=some (dn v (k*3+1)))(aT:fg bS=false)(aE:k<xs.length) :
  bR P n w0 zs hs L ⟨d,.load t x,ty,pos,af,g⟩ (vs (xs.getD k au.f0).ky):=vw au.f0 aN U bj ar aT aE rfl
theorem afE[a1]{bS:TypeDesc}{s bu:Nat}{zv:Value}(aN:ba P t bS s bu zv){k:Nat}(U:bo hW z v xs)(bj:gQ w0 zs z)(ar:aW L x=some (dn v (k*3+2)))(aT:fg bS=false)(aE:k<xs.length) :
  bR P n w0 zs hs L ⟨d,.load t x,ty,pos,af,g⟩ (vs (xs.getD k au.f0).vl):=vw au.f0 aN U bj ar aT aE rfl
theorem qR[a1]{fs:Array Field}{s bu:Nat}{zv:Value}(aN:ba P t (.struct fs) s bu zv){k:Nat}(U:bo hW z v xs)(ar:aW L x=some (dn v (k*3)))(aE:k<xs.length){j:Nat}{fd:Field}{s':Nat}(bw:fs[j]?=some fd)(eF:(P.info? fd.type).map (·.size)=some (s'+1)) :
  bR P n w0 zs hs L ⟨d,.fieldAddr t x j,ty,pos,af,g⟩ (dn v (k*3+fd.offset)):=DF (E:=hW) aN U ar aE bw eF
theorem Wd(a b:au.bK):decide (a=b)=(decide (a.tk=b.tk)&&(decide (a.ky=b.ky)&&decide (a.vl=b.vl))):=by
 obtain ⟨fT,a2,a3⟩:=a
 obtain ⟨ck,dD,k1⟩:=b
 simp only [au.bK.mk.injEq]
 by_cases h1:fT=ck <;> by_cases ar:a2=dD <;> by_cases aQ:a3=k1 <;> simp [h1,ar,aQ]
theorem ahm[a1]{f1 f2 f3:Field}{bu:Nat}{zv:Value}(aN:ba P t (.struct #[f1,f2,f3]) 3 bu zv){ti ts:TypeId}{ck dD:Nat}{iu z2:Value}(aH:ba P ti (.int .i64) 1 ck iu)(vj:ba P ts .string 1 dD z2)
  (h1 : f1.type = ti ∧ f1.offset = 0 ∧ f1.name ≠ "_") (ar : f2.type = ts ∧ f2.offset = 1 ∧ f2.name ≠ "_") (aQ : f3.type = ts ∧ f3.offset = 2 ∧ f3.name ≠ "_")
  (bO:P.stoodInHeld t=false) (a b:au.bK) (w:World):(Op.equalIn 10000 t (.agg [aA a.tk,vs a.ky,vs a.vl].toArray) (.agg [aA b.tk,vs b.ky,vs b.vl].toArray)).run P w=.ok (decide (a=b)) w:=by
 have k3:P.fieldsOf t=#[f1,f2,f3]:=by simp [Program.fieldsOf,aN.und]
 rw [run_equalIn_agg w 9999 t _ _ (by rw [k3];exact aN.und) bO,k3]
 have jv:∀ (q:au.bK) w,(part ti [aA q.tk,vs q.ky,vs q.vl].toArray 0).run P w=.ok (aA q.tk) w:=fun q=>DB aH rfl rfl
 have jw:∀ (q:au.bK) w,(part ts [aA q.tk,vs q.ky,vs q.vl].toArray 1).run P w=.ok (vs q.ky) w:=fun q=>DB vj rfl rfl
 have jx:∀ (q:au.bK) w,(part ts [aA q.tk,vs q.ky,vs q.vl].toArray 2).run P w=.ok (vs q.vl) w:=fun q=>DB vj rfl rfl
 have bL:∀ (q r:Int) w,(Op.equalIn 9999 ti (aA q) (aA r)).run P w=.ok (decide (q=r)) w:=fun q r w=>by
  have:=run_equalIn_int w 9998 ti .i64 .i64 q r aH.und
  rw [show (q == r)=decide (q=r) from rfl] at this
  exact this
 have iw:∀ (s r:List UInt8) w,(Op.equalIn 9999 ts (vs s) (vs r)).run P w=.ok (decide (s=r)) w:=fun s r w=>by
  have:=run_equalIn_string w 9998 ts ⟨s.toArray⟩ ⟨r.toArray⟩ vj.und
  rw [show ((⟨s.toArray⟩:ByteArray).toList == (⟨r.toArray⟩:ByteArray).toList)=decide (s=r) by rw [ByteArray.toList_eq,ByteArray.toList_eq,Bool.eq_iff_iff];simp] at this
  exact this
 rw [Wd]
 simp only [Op.eqFields,h1,ar,aQ,ne_eq,not_false_eq_true,if_true,Sem.run_bind,jv,jw,jx,bL,iw,Result.andThen_ok]
 generalize decide (a.tk=b.tk)=bZ
 cases bZ
 ·simp [Sem.run_pure]
 simp only [Bool.not_true,Bool.false_eq_true,if_false,Op.eqFields,ar,aQ,ne_eq,not_false_eq_true,if_true,Sem.run_bind,jw,iw,Result.andThen_ok,Bool.true_and]
 generalize decide (a.ky=b.ky)=cg
 cases cg
 ·simp [Sem.run_pure]
 simp only [Bool.not_true,Bool.false_eq_true,if_false,Op.eqFields,aQ,ne_eq,not_false_eq_true,if_true,Sem.run_bind,jx,iw,Result.andThen_ok,Bool.true_and]
 generalize decide (a.vl=b.vl)=c7
 cases c7
 ·simp [Sem.run_pure]
 simp [Sem.run_pure]
theorem afX[a1]{f1 f2 f3:Field}{bu:Nat}{zv:Value}(aN:ba P t (.struct #[f1,f2,f3]) 3 bu zv){ti ts:TypeId}{ck dD:Nat}{iu z2:Value}(aH:ba P ti (.int .i64) 1 ck iu)(vj:ba P ts .string 1 dD z2)
  (h1 : f1.type = ti ∧ f1.offset = 0 ∧ f1.name ≠ "_") (ar : f2.type = ts ∧ f2.offset = 1 ∧ f2.name ≠ "_") (aQ : f3.type = ts ∧ f3.offset = 2 ∧ f3.name ≠ "_")
  (aP:P.eqGuardType P.depth t=false) (bO:P.stoodInHeld t=false) {a b:au.bK}(aM:aW L x=some (.agg [aA a.tk,vs a.ky,vs a.vl].toArray)) (cZ:aW L y=some (.agg [aA b.tk,vs b.ky,vs b.vl].toArray)) :
  bR P n w0 zs hs L ⟨d,.binOp .neq t x y b7,ty,pos,af,g⟩ (.bool (!decide (a=b))):=
 fu aM cZ (fun w=>run_eqGuard_agg w _ _ _ _ _ _ aP) fun w=>by
  rw [run_neq_struct,ahm aN aH vj h1 ar aQ bO a b w]
  rfl
end
theorem yC{z:aR}{v:Value}{xs:List au.bK}(U:bo hW z v xs):∀ x∈xs,au.j4 x:=Kq U
end Go.aK
end
section
namespace Go.aK
open Go.ChangeShapes Go.WideShapes Go.ChangeAt Go.RowKit
section
variable {H:Type}{enc:TypeId×Value→H}{P:Program}{W:World}{t:TypeId}
end
end Go.aK
end
section
namespace Go.aK
open Go.ChangeShapes Go.WideShapes Go.ChangeAt Go.RowKit
section
variable {H:Type}{enc:TypeId×Value→H}{P:Program}{W:World}{t:TypeId}
end
end Go.aK
end
section
namespace Go.aK
open Go Go.Sem Go.RowKit Go.Shelf Go.Proofs
theorem Y6{P:Program}{ρ:Ren}(L:Lays8.n4 P ρ)(i0:TypeInfo)(z:Value)(eL:P.info? (ρ.t 25)=some i0)(w8:i0.zero=some z)(bG:i0.size=1)(Z8:i0.bytes=1)(H0:z.cells.size=1)(n:Nat)(bD:n≤140737488355328)(w:World) :
  cC P (ρ.f 4) [.slice none 0 0,aA (n:Int)] w (fun v zs hs=>zs=[]∧hs=[.row v (ρ.t 25) 1 0 []]):=by
 by_cases h0:n=0
 ·subst h0
  refine Calls.mono (Any8.slices_Grow_room L none 0 0 0 w (Nat.le_refl _) a8 a8 a8) fun e w' ⟨he,hw⟩=>?_
  subst hw
  exact ⟨_,[],_,he,(aB.start _).iC (ρ.t 25) 1,rfl,rfl⟩
 ·refine Calls.mono (Any8.slices_Grow_grow L i0 z eL w8 ag none 0 0 n [] w (Nat.le_refl _) ag (by rw [Z8];omega) ag (by simp) (fun _=>rfl) (fun a bg=>by cases bg)) fun e w' ⟨he,hw⟩=>?_
  obtain ⟨G,gl⟩:∃ G,G=grownCap w (0+n) 0 (ρ.t 25):=⟨_,rfl⟩
  have m3:0+n≤G:=by rw [gl];exact grownCap_ge w _ _ _
  have hle:G≤maxLen:=by rw [gl];exact grownCap_le_maxLen w (0+n) 0 (ρ.t 25) (by unfold maxLen;omega)
  rw [← gl] at he hw
  obtain ⟨cs,iT⟩:∃ cs:List Value,cs.toArray=([]:List Value).toArray++Builtin.zeroCells z.cells (0+n-0)++Builtin.zeroCells z.cells (G-(0+n)):=⟨_,Array.toArray_toList⟩
  have fE:cs.length=G*1:=by
   have:=congrArg Array.size iT
   simp only [Array.size_append,List.size_toArray,size_zeroCells,H0,List.length_nil] at this
   omega
  have fH:=(((aB.start w).drew (w.drew).drawn)).newRow (ρ.t 25) cs 1 0 G fE (Nat.zero_le _) hle
  refine ⟨_,[],_,he,?_,rfl,rfl⟩
  rw [hw,← iT]
  exact fH
theorem Y7{P:Program}{ρ:Ren}(L:Lays8.n4 P ρ){bS:TypeDesc}{z:Value}(aN:ba P (ρ.t 25) bS 1 1 z)(H0:z.cells.size=1)(n:Nat)(bD:n≤140737488355328)(w:World) :
  cC P (ρ.f 4) [.slice none 0 0,aA (n:Int)] w (fun v zs hs=>zs=[]∧hs=[.row v (ρ.t 25) 1 0 []]):=by
 obtain ⟨i,h1,ar,aQ,bF⟩:=aN.info
 exact Y6 L i z h1 bF ar aQ H0 n bD w
theorem aeQ{α:Type}{E:ej α}{base:Nat}{w:World}{e:TypeId}{v a b c:Value}(h:(aC.row v e 1 3 [a,b,c]).ok base w){x y z:List α}(h1:bo E (cf w) a x)(ar:bo E (cf w) b y)(aQ:bo E (cf w) c z):bo (wy E) (cf w) v [x,y,z]:=
  IF (E:=wy E) h rfl a8 fun i q ch=>by
    have one:∀ (u:Value) (j:Nat) (r:Value),[u][j]?=some r→j=0∧r=u:=fun u j r aV=>by
      cases j with
      | zero=>simp at aV;exact ⟨rfl,aV.symm⟩
      | succ j=>simp at aV
    match i,ch with
    | 0,ch=>obtain rfl:x=q:=by simpa using ch
            exact ⟨[a],⟨a,rfl,h1⟩,fun j u hu=>by obtain ⟨rfl,rfl⟩:=one _ _ _ hu;rfl⟩
    | 1,ch=>obtain rfl:y=q:=by simpa using ch
            exact ⟨[b],⟨b,rfl,ar⟩,fun j u hu=>by obtain ⟨rfl,rfl⟩:=one _ _ _ hu;rfl⟩
    | 2,ch=>obtain rfl:z=q:=by simpa using ch
            exact ⟨[c],⟨c,rfl,aQ⟩,fun j u hu=>by obtain ⟨rfl,rfl⟩:=one _ _ _ hu;rfl⟩
    | i+3,ch=>simp at ch
end Go.aK
end
section
namespace au
open Go Go.aK
theorem yN{xs:List (List UInt8)}{k:Nat}(h:k<xs.length):(xs.take (k+1)).flatten=(xs.take k).flatten++xs.getD k []:=by
 rw [List.take_add_one,List.flatten_append,List.getD_eq_getElem?_getD,List.getElem?_eq_getElem h]
 simp
theorem Fs{xs:List (List UInt8)}{m:Nat}(h:∀ x∈xs,x.length≤m):∀ k,(xs.take k).flatten.length≤k*m
 | 0=>by simp
 | k+1=>by
  by_cases aE:k<xs.length
  ·rw [yN aE,List.length_append]
   have h1:=Fs h k
   have ar:(xs.getD k []).length≤m:=h _ (by rw [List.getD_eq_getElem?_getD,List.getElem?_eq_getElem aE];exact List.getElem_mem aE)
   rw [Nat.add_mul];omega
  ·rw [List.take_of_length_le ag]
   have h1:=Fs h k
   rw [List.take_of_length_le ag] at h1
   rw [Nat.add_mul];omega
theorem WU(f:bK):[aF.int f.tk,aF.bytes f.ky,aF.bytes f.vl].flatten=enc f:=by unfold enc;simp
theorem vS{a b:Prop}{c:Prop}(h:(¬ a∧¬ b)∧¬ c):¬ ((a∨b)∨c):=by
 rintro ((h1 | h1) | h1)
 ·exact h.1.1 h1
 ·exact h.1.2 h1
 ·exact h.2 h1
theorem J4{l:List UInt8}:(l.length:Int)=0↔l=[]:=by rw [← List.length_eq_zero_iff];omega
def at_(b:List UInt8):Nat→Int
 | 0=>(aF.getInt b).2.1
 | 1=>(aF.getInt b).2.1+(d1 b).2.1
 | _=>(aF.getInt b).2.1+(d1 b).2.1+(d2 b).2.1
def B5(b:List UInt8):Nat→bK
 | 0=>⟨(aF.getInt b).1,[],[]⟩
 | 1=>⟨(aF.getInt b).1,(d1 b).1,[]⟩
 | _=>oL b
theorem yS{b:List UInt8}(h:(d1 b).2.2=0):1≤(d1 b).2.1∧(aF.getInt b).2.1+(d1 b).2.1≤b.length:=by
 have h1:=aF.y2 b
 have ar:=aF.Ny (b:=b.drop (aF.getInt b).2.1.toNat) h
 rw [List.length_drop] at ar
 have aQ:(d1 b).2.1=(aF.dZ (b.drop (aF.getInt b).2.1.toNat)).2.1:=rfl
 rw [aQ];omega
theorem Fy{b:List UInt8}(h:(d1 b).2.2=0)(jf:(d2 b).2.2=0):1≤(d2 b).2.1∧(aF.getInt b).2.1+(d1 b).2.1+(d2 b).2.1≤b.length:=by
 have h1:=aF.y2 b
 have bF:=yS h
 have ar:=aF.Ny (b:=b.drop ((aF.getInt b).2.1+(d1 b).2.1).toNat) jf
 rw [List.length_drop] at ar
 have aQ:(d2 b).2.1=(aF.dZ (b.drop ((aF.getInt b).2.1+(d1 b).2.1).toNat)).2.1:=rfl
 rw [aQ];omega
theorem UW{b:List UInt8}{k:Nat}(h1:0<k→(d1 b).2.2=0)(ar:1<k→(d2 b).2.2=0):0≤at_ b k∧at_ b k≤b.length:=by
 have h:=aF.y2 b
 match k with
 | 0=>exact ⟨h.1,h.2.1⟩
 | 1=>
  have aQ:=yS (h1 a8)
  show 0≤(aF.getInt b).2.1+(d1 b).2.1∧(aF.getInt b).2.1+(d1 b).2.1≤b.length
  omega
 | k+2=>
  have aQ:=yS (h1 ag)
  have bF:=Fy (h1 ag) (ar ag)
  show 0≤(aF.getInt b).2.1+(d1 b).2.1+(d2 b).2.1∧(aF.getInt b).2.1+(d1 b).2.1+(d2 b).2.1≤b.length
  omega
theorem UX{b:List UInt8}(h:(aF.dZ (b.drop (at_ b 0).toNat)).2.2=0):1≤(aF.dZ (b.drop (at_ b 0).toNat)).2.1∧at_ b 0+(aF.dZ (b.drop (at_ b 0).toNat)).2.1≤b.length:=yS h
theorem UY{b:List UInt8}(h0:(d1 b).2.2=0)(h:(aF.dZ (b.drop (at_ b 1).toNat)).2.2=0):1≤(aF.dZ (b.drop (at_ b 1).toNat)).2.1∧at_ b 1+(aF.dZ (b.drop (at_ b 1).toNat)).2.1≤b.length:=Fy h0 h
theorem YZ(b:List UInt8) : -9223372036854775808≤(aF.getInt b).1∧(aF.getInt b).1≤9223372036854775807:=by
 rcases aF.Nz b with h | ⟨h,_⟩
 ·have:=aF.Cj (b:=b) (n:=(aF.getInt b).1) (k:=(aF.getInt b).2.1) (by rw [← h])
  exact this.1
 ·rw [h];dsimp only;omega
theorem L3{b:List UInt8}(aw:b.length≤140737488355328):j4 (oL b):=by
 have h1:=aF.Nx (b.drop (aF.getInt b).2.1.toNat)
 have ar:=aF.Nx (b.drop ((aF.getInt b).2.1+(d1 b).2.1).toNat)
 rw [List.length_drop] at h1 ar
 refine ⟨YZ b,?_,?_⟩
 ·show (aF.dZ (b.drop (aF.getInt b).2.1.toNat)).1.length≤_;omega
 ·show (aF.dZ (b.drop ((aF.getInt b).2.1+(d1 b).2.1).toNat)).1.length≤_;omega
end au
end
section
namespace au
open Go Go.aK
theorem aii{l:List bK}(h:l.Pairwise (fun f g=>f.tk≤g.tk)){t:Int}{i j:Nat}(aaT:i≤j)(aV:j<l.length)(aH:t<(l.getD i f0).tk):t<(l.getD j f0).tk:=by
 by_cases e:i=j
 ·subst e;exact aH
 have:=List.pairwise_iff_getElem.1 h i j ag aV ag
 rw [List.getD_eq_getElem?_getD,List.getElem?_eq_getElem ag] at aH ⊢
 simp only [Option.getD_some] at aH ⊢
 omega
theorem Lz{l:List bK}(h:(l.length:Int)=0):clock l=0:=by
 have:l=[]:=List.length_eq_zero_iff.1 ag
 unfold clock;rw [if_pos this]
theorem LA{l:List bK}(h:¬ (l.length:Int)=0):clock l=(l.getD ((l.length:Int)-1).toNat f0).tk:=by
 have:¬ l=[]:=fun e=>h (by rw [e];rfl)
 unfold clock;rw [if_neg this,show ((l.length:Int)-1).toNat=l.length-1 by omega]
theorem Em{f:bK}(h:valid f=0):j4 f:=by
 obtain ⟨h1,_,aQ,bF⟩:=Bd h
 exact ⟨⟨by omega,by omega⟩,by omega,by omega⟩
theorem O9{l:List bK}{t:Int}{k:List UInt8}{i:Nat}(aH:i<l.length)(h:ek l t k=ek (l.take (i+1)) t k):(jY (l.getD i f0) t k=true→ek l t k=((l.getD i f0).vl,true))∧(jY (l.getD i f0) t k=false→ek l t k=ek (l.take i) t k):=by
 rw [xf aH] at h
 constructor
 ·intro ar;rw [h,if_pos ar]
 ·intro ar;rw [h,if_neg (by rw [ar];simp)]
end au
end
section
namespace au
open Go Go.aK
def a7(l:List bK)(t:Int):Nat:=l.countP fun f=>decide (f.tk≤t)
theorem BW(l:List bK)(t:Int):a7 l t≤l.length:=List.countP_le_length
theorem VW{l:List bK}(h:l.Pairwise (fun f g=>f.tk≤g.tk))(t:Int):∀ k:Int,0≤k→k<l.length→decide (t<(l.getD k.toNat f0).tk)=decide ((a7 l t:Int)≤k):=fun k h0 h1=>by
 obtain ⟨m,rfl⟩:∃ m:Nat,k=(m:Int):=⟨k.toNat,by omega⟩
 rw [Int.toNat_natCast,decide_eq_decide]
 have hm:m<l.length:=by omega
 constructor
 ·intro ar
  apply Classical.byContradiction
  intro aQ
  have gK:m<a7 l t:=by omega
  have e:l.getD m f0∈hS l t:=by
   unfold hS
   rw [List.getD_eq_getElem?_getD,List.getElem?_eq_getElem hm]
   exact List.mem_take_iff_getElem.2 ⟨m,by unfold a7 at gK;omega,rfl⟩
  rw [A2 h] at e
  have:=(List.mem_filter.1 e).2
  simp only [decide_eq_true_eq] at this
  omega
 ·intro ar
  apply Classical.byContradiction
  intro aQ
  have bF:l.countP (fun f=>decide (f.tk≤t))≥(l.take (m+1)).countP (fun f=>decide (f.tk≤t)):=by
   conv=>lhs;rw [← List.take_append_drop (m+1) l]
   rw [List.countP_append];omega
  have cO:(l.take (m+1)).countP (fun f=>decide (f.tk≤t))=m+1:=by
   rw [List.countP_eq_length.2 (fun f bw=>?_),List.length_take]
   ·omega
   ·obtain ⟨i,aH,rfl⟩:=List.getElem_of_mem bw
    rw [List.length_take] at aH
    rw [List.getElem_take]
    simp only [decide_eq_true_eq]
    apply Classical.byContradiction
    intro dR
    have:=aii h (t:=t) (i:=i) (j:=m) ag hm (by rw [List.getD_eq_getElem?_getD,List.getElem?_eq_getElem ag];simp only [Option.getD_some];omega)
    omega
  unfold a7 at ar
  omega
end au
namespace Go.aK
theorem Ej{z:aR}{v:Value}{l:List au.bK}{t:Int}(aw:bo hW z v l):bo hW z (lO v 3 0 (au.a7 l t)) (au.hS l t):=
 bo.cut aw ⟨Nat.zero_le _,au.BW l t⟩
theorem S8{l:List au.bK}{t:Int}:(au.hS l t).length≤l.length:=by unfold au.hS;rw [List.length_take];omega
end Go.aK
end
section
namespace au
open Go Go.aK
theorem ai8{l:List bK}{t:Int}{f:bK}(h:f∈hS l t):f∈l:=List.mem_of_mem_take h
theorem OY{l:List bK}(h:∀ f∈l,j4 f)(t:Int):∀ i∈(mF (hS l t) (hS l t).length).map (·.1),i.length≤maxLen:=fun i aH=>by
 obtain ⟨f,bw,rfl⟩:=((Dh (hS l t) (hS l t).length (Nat.le_refl _)).2 i).1 aH
 rw [List.take_length] at bw
 have:=(h f (ai8 bw)).2.1
 unfold maxLen;omega
theorem OX{l:List bK}(hl:l.length≤4096)(t:Int):(mF (hS l t) (hS l t).length).length≤4096:=by
 have h1:=PN (hS l t) (hS l t).length (Nat.le_refl _)
 have ar:=S8 (l:=l) (t:=t)
 omega
theorem OZ(l:List bK)(t:Int):((mF (hS l t) (hS l t).length).map (·.1)).Nodup:=(Dh _ _ (Nat.le_refl _)).1
def Lt(l:List bK)(k:Nat):List Value:=[aA ((l.length:Int)-1-k),.agg [aA (l.getD ((l.length:Int)-1-k).toNat f0).tk,vs (l.getD ((l.length:Int)-1-k).toNat f0).ky,vs (l.getD ((l.length:Int)-1-k).toNat f0).vl].toArray]
theorem acE{l:List bK}{t:Int}{q:List UInt8}{k:Nat}(aE:k<l.length)(h:ek l t q=ek (l.take (l.length-k)) t q)(fN:(l.getD ((l.length:Int)-1-k).toNat f0).ky=q∧(l.getD ((l.length:Int)-1-k).toNat f0).tk≤t) :
  ek l t q=((l.getD ((l.length:Int)-1-k).toNat f0).vl,true):=by
 have e:((l.length:Int)-1-k).toNat=l.length-1-k:=by omega
 rw [e] at fN ⊢
 refine (O9 (l:=l) (i:=l.length-1-k) ag (by rw [show l.length-1-k+1=l.length-k by omega];exact h)).1 ?_
 unfold jY;rw [decide_eq_true fN.1,decide_eq_true fN.2];rfl
theorem acF{l:List bK}{t:Int}{q:List UInt8}{k:Nat}(aE:k<l.length)(h:ek l t q=ek (l.take (l.length-k)) t q)(fN:¬ ((l.getD ((l.length:Int)-1-k).toNat f0).ky=q∧(l.getD ((l.length:Int)-1-k).toNat f0).tk≤t)) :
  ek l t q=ek (l.take (l.length-(k+1))) t q:=by
 have e:((l.length:Int)-1-k).toNat=l.length-1-k:=by omega
 rw [e] at fN
 have ar:=(O9 (l:=l) (i:=l.length-1-k) ag (by rw [show l.length-1-k+1=l.length-k by omega];exact h)).2 (by
  unfold jY
  by_cases h1:(l.getD (l.length-1-k) f0).ky=q
  ·rw [decide_eq_false (p:=_≤_) (fun aQ=>fN ⟨h1,aQ⟩),Bool.and_false]
  ·rw [decide_eq_false h1,Bool.false_and])
 rw [ar,show l.length-1-k=l.length-(k+1) by omega]
end au
end
section
namespace Go.aK
theorem wa.mono{P:Program}{Y:Value}{vs:List Value}{I:World→Prop}{J sf:Bool→World→Prop}(h:wa P Y vs I J)(aV:∀ b w,J b w→sf b w):wa P Y vs I sf:=fun w hw=>by
 obtain ⟨l,f,tmps,asg,body,h1,ar,aQ⟩:=h w hw
 refine ⟨l,f,tmps,asg,body,h1,ar,fun m=>?_⟩
 have:=aQ m
 exact RoundIn.mono this fun e w' ⟨b,aw,eD⟩=>⟨b,aw,aV b w' eD⟩
end Go.aK
end
section
namespace au
open Go Go.aK
theorem aiF(l:List (List UInt8))(i:Nat):∀ j,i≤j→j≤l.length→∃ t,(eX l j).1=(eX l i).1++t:=by
  intro j aaT
  induction j with
  | zero=>intro _;obtain rfl:i=0:=by omega
          exact ⟨[],by simp⟩
  | succ j ih=>
    intro aV
    by_cases h:i=j+1
    · subst h;exact ⟨[],by simp⟩
    obtain ⟨t,aN⟩:=ih ag ag
    rw [qW ag]
    unfold vM
    split
    · exact ⟨t++[(dec (l.getD j [])).1],by rw [aN,List.append_assoc]⟩
    · exact ⟨t,aN⟩
def Ec(l:List (List UInt8))(k:Nat):List Value:=[.agg [aA ((taken l).getD k f0).tk,vs ((taken l).getD k f0).ky,vs ((taken l).getD k f0).vl].toArray]
theorem aiD{l:List (List UInt8)}{i:Nat}(aH:i<l.length)(h:((dec (l.getD i [])).2=0∧(eX l i).2≤(dec (l.getD i [])).1.tk)∧(eX l i).1.length<512) :
  (eX l i).1.length<(taken l).length∧Ec l (eX l i).1.length=[.agg [aA (dec (l.getD i [])).1.tk,vs (dec (l.getD i [])).1.ky,vs (dec (l.getD i [])).1.vl].toArray]∧(eX l (i+1)).1.length=(eX l i).1.length+1∧(eX l (i+1)).2=(dec (l.getD i [])).1.tk:=by
 have e:=xX h
 rw [← qW aH] at e
 obtain ⟨t,aN⟩:=aiF l (i+1) l.length ag (Nat.le_refl _)
 rw [e] at aN
 have ar:taken l=(eX l i).1++[(dec (l.getD i [])).1]++t:=aN
 refine ⟨by rw [ar];simp,?_,by rw [e];simp,by rw [e]⟩
 have aQ:(taken l).getD (eX l i).1.length f0=(dec (l.getD i [])).1:=by
  rw [ar,List.getD_eq_getElem?_getD,List.append_assoc,List.getElem?_append_right (Nat.le_refl _)];simp
 unfold Ec
 rw [aQ]
theorem SM{l:List (List UInt8)}{i:Nat}(aH:i<l.length)(h:¬ (((dec (l.getD i [])).2=0∧(eX l i).2≤(dec (l.getD i [])).1.tk)∧(eX l i).1.length<512)):eX l (i+1)=eX l i:=by
 rw [qW aH,Ee h]
theorem SJ(l:List (List UInt8)){k:Nat}(aE:k≤l.length):(eX l k).1.length≤512∧0≤(eX l k).2∧(eX l k).2≤1048576:=by
 obtain ⟨h1,_,aQ,bF⟩:=JL l k aE
 exact ⟨h1.len,aQ,bF⟩
theorem aiE{l:List bK}{k:Nat}(aE:k<l.length):(l.take (k+1)).flatMap je=(l.take k).flatMap je++[aA (l.getD k f0).tk,vs (l.getD k f0).ky,vs (l.getD k f0).vl]:=by
 rw [aj.nP (d:=f0) aE,List.flatMap_append];simp [je]
end au
end
section
namespace Go.aK
section
variable {P:Program}{n:Nat}{w0:World}{zs:List aR}{L:List (Nat×Value)}
theorem Yn{f:FuncId}{fn:Func}{cd:Code}(bw:P.funcs[f]?=some fn)(aw:fn.body=some cd){k:Nat}(aE:fn.ntmps=k){args:List Value}(bD:args.length≤k){w0:World}{bU:List aR}{own:List aC}{R:Value→List aR→List aC→Prop}
  (h:∀ (cF:List aC) a w,Fr k (pI 0 args) a→aB w0 bU (own++cF) w→cd.wp P (bodyPostM (gZ none) 0 P fn fun e w'=>∃ v dB c5,e=.returned v∧aB w0 (dB++bU) (c5++cF) w'∧R v dB c5) a w):e1 P f args w0 bU own R:=by
 subst aE
 intro cF w U
 exact (callsIn_wide (n:=0)).1 (callsIn_of_wp_marks bw aw trivial ((wpIn_wide (n:=0)).2 (h cF _ w (Fr.enter _ _ bD) U)))
theorem Yq[I:a1]{D:Nat}{dT:aR}{fn:Func}{w:World}{hs:List aC}{a:Act}{R:Value→List aR→List aC→Prop}{rs:List ResultVar}{bU:List aR}{cF:List aC}(bP:I.ds=[{ target:=.collected D,args:=#[] }])(dz:dT=ey D (.deferred (some [])))(bj:dT∈zs)(ar:∀ z∈bU,z∈zs)(bD:∀ z∈bU,z D=none)(k7:fn.results=rs.toArray)(ab:Fr n L a)(U:aB w0 zs hs w){vs:List Value}(bA:sk P L hs rs vs)(c5:List aC)(aQ:(c5++cF).Sublist hs)(fD:R (vD vs) [] c5) :
  bodyPostM (gZ none) 0 P fn (fun e w'=>∃ v dB c5,e=.returned v∧aB w0 (dB++bU) (c5++cF) w'∧R v dB c5) .ret a w:=by
 have gx:a.defers=[{ target:=.collected D,args:=#[] }]:=ab.nodef.trans bP
 subst dz
 obtain ⟨aw,jX⟩:=U.Sv (o':=.deferred none) bj ar bD
 show LeavesInM (gZ none) 0 P fn a.tmps _ a.defers .returning w
 rw [gx]
 refine ⟨by simp,.inl ⟨D,_,rfl,run_takeDeferred aw,?_⟩⟩
 exact ⟨_,tI k7 ab jX bA,_,[],c5,rfl,jX.ao (List.Sublist.refl _) aQ,fD⟩
theorem mU.Yz{f:FuncId}{args:List Value}{bU:List aR}{cm ra rb:aC}{cF:List aC}{J:aC×aC→Prop}(h:mU P f args w0 bU [cm,ra,rb] cF (fun _ dB c5=>dB=[]∧∃ r:aC×aC,c5=[cm,r.1,r.2]∧J r))(w:World)(U:aB w0 bU (cm::ra::rb::cF) w) :
  Calls P f args.toArray w fun e w'=>(∃ v,e=.returned v)∧∃ r:aC×aC,J r∧aB w0 bU (cm::r.1::r.2::cF) w':=
 Calls.mono (h w U) fun e w' ⟨v,dB,c5,he,jX,h1,r,ar,aQ⟩=>by
  subst h1 ar
  exact ⟨⟨v,he⟩,r,aQ,jX⟩
end
end Go.aK
end
section
namespace au
open Go Go.aK
def ES(B:Value→aC)(W:Value→List bK→aC)(J:aj.dC→aC→aC→aC→aC→Prop)(D:ak.aX→aC→aC→aC→aC→Prop)(L:gg)(val:Value):Value→List aR→List aC→Prop:=fun r zs hs=>
 r=val∧zs=[]∧∃ fv cu ct cx cz bL bT fm iw,hs=[B fv,W fv L.F,cu,ct,cx,cz,bL,bT,fm,iw]∧J L.J cu ct cx cz∧D L.S bL bT fm iw
theorem zY{B:Value→aC}{W:Value→List bK→aC}{J:aj.dC→aC→aC→aC→aC→Prop}{D:ak.aX→aC→aC→aC→aC→Prop}{L L':gg}{v dr r:Value}{zs:List aR}{hs:List aC}(h:ES B W J D L v r zs hs)(bL:L=L')(bT:v=dr):ES B W J D L' dr r zs hs:=by subst bL bT;exact h
theorem wB(l:List bK)(f:bK):l.flatMap je++[aA f.tk,vs f.ky,vs f.vl]=(l++[f]).flatMap je:=by rw [List.flatMap_append];simp [je]
theorem xh(l:List bK)(f:bK):l.length+1=(l++[f]).length:=by simp
end au
end
section
namespace au
open Go Go.aK
def kW:gg:=⟨aj.qC,ak.new 8,[]⟩
def kB(lT:ak.aX):gg:=⟨eJ,lT,[bZ]⟩
def kC(gY:ak.aX):gg:=⟨cG,gY,[bZ,cg]⟩
def kX(gY:ak.aX):gg:=⟨cG,ak.dx gY 0,[bZ,cg]⟩
def lS(gY:ak.aX):gg:=⟨aj.kj cG (enc c9),⟨gY.s,true,0⟩,[bZ,cg]⟩
theorem Gk:Good [bZ]:=y5 wK v1.1 (fun g h=>by cases h) a8
theorem wJ:Good [bZ,cg]:=y5 Gk v1.2.1 (fun g h=>by
 have:g=bZ:=by simpa using h
 subst this;decide) a8
theorem ad3(S:ak.aX)(ps:List Int):(ak.e6 S ps).off=false:=rfl
attribute [local irreducible] ak.new aj.app ak.dx ak.e6 aj.bW enc in
theorem ade:∃ lT gY,add kW bZ=(kB lT,0)∧add (kB lT) cg=(kC gY,0)∧add (kC gY) c7=(kC gY,18)∧add (kX gY) c9=(lS gY,23)∧ak.e6 ⟨gY.s,true,0⟩ [0]=gY∧aj.bW gY=cG∧gY.off=false:=by
 obtain ⟨lT,gY,h1,ar,aQ,bF,cO⟩:=adb
 refine ⟨lT,gY,?_,?_,UJ _ _,?_,bF,cO,?_⟩
 ·rw [sn (L:=kW) v1.1 (by show ¬ bZ.tk<clock [];decide) (by show ¬ 512≤([]:List bK).length;decide) (by show (aj.app aj.qC (ak.new 8) (enc bZ)).2.2.2=0;rw [h1])]
  show ((⟨(aj.app aj.qC (ak.new 8) (enc bZ)).1,(aj.app aj.qC (ak.new 8) (enc bZ)).2.1,[]++[bZ]⟩:gg),(0:Int))=_
  rw [h1];rfl
 ·rw [sn (L:=kB lT) v1.2.1 (by show ¬ cg.tk<clock [bZ];decide) (by show ¬ 512≤[bZ].length;decide) (by show (aj.app eJ lT (enc cg)).2.2.2=0;rw [ar])]
  show ((⟨(aj.app eJ lT (enc cg)).1,(aj.app eJ lT (enc cg)).2.1,[bZ]++[cg]⟩:gg),(0:Int))=_
  rw [ar];rfl
 ·rw [uq (L:=kX gY) v1.2.2.2 (by show ¬ c9.tk<clock [bZ,cg];decide) (by show ¬ 512≤[bZ,cg].length;decide) (by show (aj.app cG (ak.dx gY 0) (enc c9)).2.2.2≠0;rw [aQ];show (23:Int)≠0;decide)]
  show ((⟨(aj.app cG (ak.dx gY 0) (enc c9)).1,(aj.app cG (ak.dx gY 0) (enc c9)).2.1,[bZ,cg]⟩:gg),(aj.app cG (ak.dx gY 0) (enc c9)).2.2.2)=_
  rw [aQ];rfl
 ·rw [← bF];exact ad3 _ _
theorem aeA:(ak.new 8).off=false:=rfl
theorem Qa:aj.bW (ak.new 8)=aj.qC:=aj.Mj (aj.Mi (n:=8) a8 a8)
theorem EA:j4 bZ∧j4 cg∧j4 c7∧j4 c9:=⟨Em v1.1,Em v1.2.1,Em v1.2.2.1,Em v1.2.2.2⟩
end au
end
section
namespace au
open Go Go.aK
theorem Hn{f:bK}{t:Int}{k:List UInt8}(h1:f.ky=k)(ar:f.tk≤t):jY f t k=true:=by unfold jY;rw [decide_eq_true h1,decide_eq_true ar];rfl
theorem N7{f:bK}{t:Int}{k:List UInt8}(h:¬ f.ky=k∨¬ f.tk≤t):¬ jY f t k=true:=by
 unfold jY
 rcases h with h | h
 ·rw [decide_eq_false h];simp
 ·rw [decide_eq_false h];simp
def td:List (List UInt8):=[[97],[98],[97,98],[118,101,114,100,105,99,116,47,49],[48],[97,0]]
def keyOf(n:Int):List UInt8:=td.getD (cN.fl n 6).toNat []
theorem OU:∀ k∈td,k≠[]∧k.length≤9:=by decide
theorem acI(i:Nat)(h:i<6):td.getD i []∈td:=by
 rw [List.getD_eq_getElem?_getD,List.getElem?_eq_getElem (show i<td.length from h)];exact List.getElem_mem _
structure yk (l:List bK):Prop where
 fb:Good l
 len:l.length≤12
 low:∀ f∈l,f.tk≤24
 sml:∀ f∈l,f.ky.length≤9∧f.vl.length≤60
structure tW (l:List bK) (c:Int):Prop where
 fb:Good l
 top:∀ f∈l,f.tk≤c
 sml:∀ f∈l,f.ky.length≤9∧f.vl.length≤60
theorem tW.start:tW [] 0:=⟨wK,fun f h=>(by cases h),fun f h=>(by cases h)⟩
theorem tW.add{l:List bK}{c d:Int}{k s:List UInt8}(h:tW l c)(bq:0≤c+d∧c+d≤1048576)(aT:0≤d)(hl:l.length<512)(aE:k∈td)(hs:s.length≤60):tW (l++[⟨c+d,k,s⟩]) (c+d):=by
 obtain ⟨oV,rI⟩:=OU k aE
 have bA:valid ⟨c+d,k,s⟩=0:=by
  refine J3 (f:=⟨c+d,k,s⟩) ?_ (by show ¬ (256<k.length∨7000<s.length);omega)
  show ¬ ((c+d<0∨1048576<c+d)∨k=[])
  rintro (h1 | h1)
  ·omega
  ·exact oV h1
 refine ⟨y5 h.fb bA (fun g aP=>by have:=h.top g aP;show g.tk≤c+d;omega) hl,fun f bw=>?_,fun f bw=>?_⟩
 ·rcases List.mem_append.1 bw with h1 | h1
  ·have:=h.top f h1;omega
  ·obtain rfl:f=⟨c+d,k,s⟩:=by simpa using h1
   exact Int.le_refl _
 ·rcases List.mem_append.1 bw with h1 | h1
  ·exact h.sml f h1
  ·obtain rfl:f=⟨c+d,k,s⟩:=by simpa using h1
   exact ⟨rI,hs⟩
theorem tW.gen{l:List bK}{c:Int}(h:tW l c)(hl:l.length≤12)(bq:c≤24):yk l:=⟨h.fb,hl,fun f bw=>by have:=h.top f bw;omega,h.sml⟩
end au
end
section
namespace au
open Go Go.aK
def swp(l:List bK)(i:Nat):List bK:=(l.set i (l.getD (i+1) f0)).set (i+1) (l.getD i f0)
theorem ac2(t:Int)(k:List UInt8)(acc:List UInt8×Bool){a b:bK}(h:a.ky≠b.ky):iL t k (iL t k acc b) a=iL t k (iL t k acc a) b:=by
 unfold iL
 by_cases bg:jY a t k=true
 ·have aw:¬ jY b t k=true:=fun aw=>by
   unfold jY at bg aw
   simp only [Bool.and_eq_true,decide_eq_true_eq] at bg aw
   exact h (bg.1.trans aw.1.symm)
  simp [bg,aw]
 ·simp [bg]
theorem SE(t:Int)(k:List UInt8):∀ (i:Nat) (l:List bK) (acc:List UInt8×Bool),i+1<l.length→(l.getD i f0).ky≠(l.getD (i+1) f0).ky→(swp l i).foldl (iL t k) acc=l.foldl (iL t k) acc
 | _,[],_,h,_=>by simp at h
 | _,[_],_,h,_=>by simp at h
 | 0,a::b::l,acc,_,h=>by
  show l.foldl (iL t k) (iL t k (iL t k acc b) a)=l.foldl (iL t k) (iL t k (iL t k acc a) b)
  rw [ac2 t k acc (a:=a) (b:=b) h]
 | i+1,a::b::l,acc,aH,h=>by
  show (swp (b::l) i).foldl (iL t k) (iL t k acc a)=(b::l).foldl (iL t k) (iL t k acc a)
  exact SE t k i (b::l) _ (by simpa using aH) h
theorem JJ:∀ (i:Nat) (l:List bK),i+1<l.length→∀ f,f∈swp l i↔f∈l
 | _,[],h,_=>by simp at h
 | _,[_],h,_=>by simp at h
 | 0,a::b::l,_,f=>by
  show f∈b::a::l↔f∈a::b::l
  simp only [List.mem_cons]
  constructor
  ·rintro (h | h | h)
   ·exact .inr (.inl h)
   ·exact .inl h
   ·exact .inr (.inr h)
  ·rintro (h | h | h)
   ·exact .inr (.inl h)
   ·exact .inl h
   ·exact .inr (.inr h)
 | i+1,a::b::l,aH,f=>by
  show f∈a::swp (b::l) i↔f∈a::b::l
  rw [List.mem_cons,JJ i (b::l) (by simpa using aH) f]
  exact List.mem_cons.symm
theorem SF:∀ (i:Nat) (l:List bK),i+1<l.length→(l.getD i f0).tk=(l.getD (i+1) f0).tk→l.Pairwise (fun f g=>f.tk≤g.tk)→(swp l i).Pairwise (fun f g=>f.tk≤g.tk)
 | _,[],h,_,_=>by simp at h
 | _,[_],h,_,_=>by simp at h
 | 0,a::b::l,_,he,h=>by
  obtain ⟨h1,ar⟩:=List.pairwise_cons.1 h
  obtain ⟨aQ,bF⟩:=List.pairwise_cons.1 ar
  have he:a.tk=b.tk:=he
  show (b::a::l).Pairwise _
  refine List.pairwise_cons.2 ⟨fun g aP=>?_,List.pairwise_cons.2 ⟨fun g aP=>h1 g (List.mem_cons_of_mem _ aP),bF⟩⟩
  rcases List.mem_cons.1 aP with rfl | aP
  ·omega
  ·exact aQ g aP
 | i+1,a::b::l,aH,he,h=>by
  obtain ⟨h1,ar⟩:=List.pairwise_cons.1 h
  show (a::swp (b::l) i).Pairwise _
  refine List.pairwise_cons.2 ⟨fun g aP=>h1 g ((JJ i (b::l) (by simpa using aH) g).1 aP),SF i (b::l) (by simpa using aH) he ar⟩
structure re (l q:List bK):Prop where
 len:q.length=l.length
 ek:∀ t k,au.ek q t k=au.ek l t k
 mem:∀ f,f∈q↔f∈l
 srt:l.Pairwise (fun f g=>f.tk≤g.tk)→q.Pairwise (fun f g=>f.tk≤g.tk)
theorem re.refl(l:List bK):re l l:=⟨rfl,fun _ _=>rfl,fun _=>Iff.rfl,id⟩
theorem re.step{l q:List bK}(h:re l q){i:Nat}(aH:i+1<q.length)(aN:(q.getD i f0).tk=(q.getD (i+1) f0).tk)(aE:(q.getD i f0).ky≠(q.getD (i+1) f0).ky):re l (swp q i):=
 ⟨by unfold swp;rw [List.length_set,List.length_set];exact h.len,fun t k=>(SE t k i q _ aH aE).trans (h.ek t k),fun f=>(JJ i q aH f).trans (h.mem f),fun hs=>SF i q aH aN (h.srt hs)⟩
theorem re.ok{l q:List bK}(h:re l q)(cH:∀ f∈l,j4 f):∀ f∈q,j4 f:=fun f bw=>cH f ((h.mem f).1 bw)
end au
end
section
namespace au
open Go Go.aK
end au
namespace au
theorem Yu{l:List bK}{i:Nat}(h:i<l.length):l.getD i f0∈l:=by
 rw [List.getD_eq_getElem?_getD,List.getElem?_eq_getElem h];exact List.getElem_mem h
end au
end
section
namespace Go.aK
section
variable {P:Program}{n:Nat}{w0:World}{zs:List aR}{hs:List aC}{L:List (Nat×Value)}{d:Option Tmp}{ty t:TypeId}{pos:String}{af:Array Edge}{g:Option (Nat×Bool)}{x y:Operand}
end
end Go.aK
end
section
namespace Go.aK
def ny{α:Type}(E:ej α)(z0 z:aR)(vl:List Value):Prop:=∀ v∈vl,∃ x,bo E z0 v x∨bo E z v x
section
variable {α:Type}{E:ej α}{z0 z z':aR}{vl ul:List Value}
theorem ny.nil:ny E z0 z []:=fun v h=>by cases h
theorem ny.cons{v:Value}{x:List α}(h:bo E z0 v x∨bo E z v x)(k:ny E z0 z vl):ny E z0 z (v::vl):=fun u hu=>by
 rcases List.mem_cons.1 hu with rfl | hu
 ·exact ⟨x,h⟩
 ·exact k u hu
theorem ny.mono(hl:z.le z')(h:ny E z0 z vl):ny E z0 z' vl:=fun v bA=>by
 obtain ⟨x,aM | aM⟩:=h v bA
 ·exact ⟨x,.inl aM⟩
 ·exact ⟨x,.inr (aM.mono hl)⟩
theorem ny.app(h:ny E z0 z vl)(k:ny E z0 z ul):ny E z0 z (vl++ul):=fun v bA=>by
 rcases List.mem_append.1 bA with bA | bA
 ·exact h v bA
 ·exact k v bA
theorem ny.at_(h:ny E z0 z vl){k:Nat}(aE:k<vl.length):∃ x z',(z'=z0∨z'=z)∧bo E z' (vl.getD k undef) x:=by
 have e:vl.getD k undef=vl[k]:=by rw [List.getD_eq_getElem?_getD,List.getElem?_eq_getElem aE];rfl
 rw [e]
 obtain ⟨x,aM | aM⟩:=h _ (List.getElem_mem aE)
 ·exact ⟨x,z0,.inl rfl,aM⟩
 ·exact ⟨x,z,.inr rfl,aM⟩
end
end Go.aK
end
section
namespace aj
open Go Go.aK
end aj
namespace au
open Go Go.aK
theorem Nv(s t:List UInt8)(hs:s.length<9223372036854775808):aF.dZ (aF.bytes s++t)=(s,((aF.bytes s).length:Int),0):=aF.VY.rt s t hs
theorem LG{f:bK}(h:valid f=0):dec (enc f)=(f,0):=by
 obtain ⟨⟨h1,ar⟩,_,aQ,bF⟩:=Bd h
 have bL:aF.getInt (enc f)=(f.tk,((aF.int f.tk).length:Int),0):=by
  unfold enc;rw [List.append_assoc];exact aF.Gj _ ag _
 have bT:d1 (enc f)=(f.ky,((aF.bytes f.ky).length:Int),0):=by
  unfold d1
  rw [bL]
  unfold enc
  rw [List.append_assoc,List.drop_left' (by show _=(((aF.int f.tk).length:Int)).toNat;omega)]
  exact Nv _ _ ag
 have fm:d2 (enc f)=(f.vl,((aF.bytes f.vl).length:Int),0):=by
  unfold d2
  rw [bL,bT]
  unfold enc
  rw [List.drop_left' (by show _=(((aF.int f.tk).length:Int)+((aF.bytes f.ky).length:Int)).toNat;rw [List.length_append];omega)]
  have:=Nv f.vl [] ag
  rwa [List.append_nil] at this
 have iw:oL (enc f)=f:=by unfold oL;rw [bL,bT,fm]
 rw [B0 (by rw [bL]) (by rw [bT]) (by rw [fm]) (by
  rw [bL,bT,fm,iw,h]
  rintro (cA | cA)
  ·apply cA
   show ((aF.int f.tk).length:Int)+((aF.bytes f.ky).length:Int)+((aF.bytes f.vl).length:Int)=((enc f).length:Int)
   unfold enc
   rw [List.length_append,List.length_append];omega
  ·exact cA rfl),iw]
def ht(f:bK):Nat:=(aj.a7 ((enc f).length:Int)).toNat
def us(l:List bK):Nat:=(l.map ht).sum
theorem ajb{l:List bK}{c:Nat}(h:∀ f∈l,ht f≤c):us l≤c*l.length:=by
 induction l with
 | nil=>simp [us]
 | cons f l ih=>
  have h1:=h f (by simp)
  have ar:=ih fun g aP=>h g (by simp [aP])
  show ht f+us l≤c*(l.length+1)
  rw [Nat.mul_add];omega
theorem air{f:bK}(h:(enc f).length≤96):1≤ht f∧ht f≤2:=by
 have h1:=aj.yQ (t:=enc f) ag
 unfold ht
 refine ⟨h1,?_⟩
 by_cases h0:(enc f).length=0
 ·rw [h0];decide
 ·rw [aj.Fv ag];omega
structure aj7 (q:List bK) (L:gg):Prop where
 F:L.F=q
 fb:Good q
 sml:∀ f∈q,(enc f).length≤96
 W0:aj.q1 L.S L.J
 len:L.S.s.length=200
 tx:L.J.tx=q.map enc
 en:L.J.en=us q
 lay:∀ i,i<q.length→∀ k,k<ht (q.getD i f0)→aj.dP L.S (us (q.take i)+k)=aj.sec ((i:Int)+1) (enc (q.getD i f0)) k
end au
end
section
namespace au
open Go Go.aK
def ac(q:List bK)(i:Nat):Nat→aj.Acc
 | 0=>([],[])
 | m+1=>if m=i then ac q i m else aj.pB (ac q i m) ((m:Int)+1) (enc (q.getD m f0))
structure aj8 (q:List bK) (L:gg) (S:ak.aX) (i k:Nat):Prop where
 still:aj.Still S
 len:S.s.length=200
 oth:∀ j,j≠k→aj.dP S j=aj.dP L.S j
 bad:(aj.c3 (aj.dP S k)).ok=false
 lt:i<q.length
 lo:us (q.take i)≤k
 aH:k<us (q.take (i+1))
end au
end
section
namespace au
open Go Go.aK
structure EJ (q:List bK):Prop where
 fb:Good q
 sml:∀ f∈q,(enc f).length≤96
 len:q.length≤40
theorem yk.W0{q:List bK}(h:yk q):EJ q:=⟨h.fb,fun f bw=>by have:=Me f;have:=h.sml f bw;omega,by have:=h.len;omega⟩
theorem EJ.us{q:List bK}(h:EJ q):us q≤80:=by
 have:=ajb (l:=q) (c:=2) fun f bw=>(air (h.sml f bw)).2
 have:=h.len
 omega
def ara(q:List bK)(k:Nat):List Int:=(List.range k).map fun i=>(us (q.take i):Int)
end au
namespace au
end au
namespace au
open Go Go.aK
end au
end
section
namespace au
open Go Go.aK
theorem Je(ls:List bs.cS):(bs.mK ls).1.length=16:=by
 by_cases h:bs.jK ls=0
 ·rw [bs.DY h];exact bs.DX _ _
 ·rw [bs.Jd h];exact List.length_replicate
theorem PM{l:List bK}{t:Int}(h:∀ f∈l,f.tk≤t)(key:List UInt8):∀ k,k≤l.length→gv (mF l k) key=if (ek (l.take k) t key).2=true then some (vs (ek (l.take k) t key).1) else none
 | 0,_=>rfl
 | k+1,aE=>by
  have aM:=h _ (Yu (l:=l) (i:=k) ag)
  rw [Di ag,uv,xf ag,PM h key k ag]
  by_cases he:key=(l.getD k f0).ky
  ·rw [if_pos he,if_pos (Hn he.symm aM)];rfl
  ·rw [if_neg he,if_neg (N7 (.inl fun cA=>he cA.symm))]
theorem acY{l:List bK}{t:Int}{key:List UInt8}:(∃ f∈l,f.tk≤t∧f.ky=key)→(ek l t key).2=true:=by
 intro h
 have:∀ (l:List bK) (a:List UInt8×Bool),(a.2=true∨∃ f∈l,f.tk≤t∧f.ky=key)→(l.foldl (iL t key) a).2=true:=by
  intro l
  induction l with
  | nil=>
   intro a h
   rcases h with h | ⟨f,bw,_⟩
   ·exact h
   ·cases bw
  | cons g l ih=>
   intro a h
   refine ih _ ?_
   unfold iL
   by_cases aP:jY g t key=true
   ·rw [if_pos aP];exact .inl rfl
   ·rw [if_neg aP]
    rcases h with h | ⟨f,bw,h1,ar⟩
    ·exact .inl h
    ·rcases List.mem_cons.1 bw with rfl | bw
     ·exact absurd (Hn ar h1) aP
     ·exact .inr ⟨f,bw,h1,ar⟩
 exact this l _ (.inr h)
def lv(l:List bK)(t:Int)(k:List UInt8):bs.cS:=(k,(ek l t k).1)
def iB(l:List bK)(t:Int):List bs.cS:=(keys l t).map (lv l t)
theorem th(l:List bK)(t:Int):(iB l t).length=(keys l t).length:=by simp [iB]
theorem ai9{l:List bK}(h:l.Pairwise (fun f g=>f.tk≤g.tk))(t:Int):∀ f∈hS l t,f.tk≤t:=fun f bw=>by
 rw [A2 h] at bw
 simpa using (List.mem_filter.1 bw).2
theorem adA{l:List bK}(h:l.Pairwise (fun f g=>f.tk≤g.tk)){t:Int}{k:List UInt8}(aE:k∈keys l t):gv (mF (hS l t) (hS l t).length) k=some (vs (ek l t k).1):=by
 rw [PM (ai9 h t) k _ (Nat.le_refl _),List.take_length,Pa h,if_pos (acY ((Da l t k).1 aE))]
theorem acJ{l:List bK}{t:Int}{j:Nat}(h:j<(keys l t).length):(keys l t).getD (j:Int).toNat []∈keys l t:=by
 rw [Int.toNat_natCast,List.getD_eq_getElem?_getD,List.getElem?_eq_getElem h];exact List.getElem_mem h
theorem Pw{l:List bK}{t:Int}{j:Nat}(h:j<(keys l t).length):((iB l t).take j).flatMap qD++[vs ((keys l t).getD (j:Int).toNat []),vs (ek l t ((keys l t).getD (j:Int).toNat [])).1]=((iB l t).take (j+1)).flatMap qD:=by
 have e:(iB l t)[j]'(by rw [th];exact h)=lv l t ((keys l t).getD (j:Int).toNat []):=by
  unfold iB
  rw [List.getElem_map,Int.toNat_natCast,List.getD_eq_getElem?_getD,List.getElem?_eq_getElem h];rfl
 rw [List.take_succ_eq_append_getElem (by rw [th];exact h),e,List.flatMap_append]
 rfl
theorem acZ{l:List bK}{t:Int}{k:List UInt8}:(ek l t k).1=[]∨∃ f∈l,(ek l t k).1=f.vl:=by
 have:∀ (l:List bK) (a:List UInt8×Bool),(l.foldl (iL t k) a).1=a.1∨∃ f∈l,(l.foldl (iL t k) a).1=f.vl:=by
  intro l
  induction l with
  | nil=>intro a;exact .inl rfl
  | cons g l ih=>
   intro a
   rcases ih (iL t k a g) with h | ⟨f,bw,h⟩
   ·rw [List.foldl_cons,h]
    unfold iL
    by_cases aP:jY g t k=true
    ·rw [if_pos aP];exact .inr ⟨g,List.mem_cons_self ..,rfl⟩
    ·rw [if_neg aP];exact .inl rfl
   ·exact .inr ⟨f,List.mem_cons_of_mem _ bw,h⟩
 exact this l _
theorem Pv{l:List bK}(h:∀ f∈l,j4 f)(t:Int):∀ x∈iB l t,Ih x:=fun x aM=>by
 obtain ⟨k,aE,rfl⟩:=List.mem_map.1 aM
 obtain ⟨f,bw,_,rfl⟩:=(Da l t k).1 aE
 refine ⟨(h f bw).2.1,?_⟩
 show (ek l t f.ky).1.length≤_
 rcases acZ (l:=l) (t:=t) (k:=f.ky) with h1 | ⟨g,aP,h1⟩
 ·rw [h1];simp
 ·rw [h1];exact (h g aP).2.2
end au
namespace au
theorem acQ(l:List (List UInt8))(k:List UInt8):(kO l k).length≤l.length+1:=by
 induction l with
 | nil=>simp [kO]
 | cons x l ih=>
  unfold kO
  split
  ·rw [List.length_cons,List.length_cons];omega
  ·split
   ·simp
   ·simp
theorem C9(l:List bK)(t:Int):(keys l t).length≤l.length:=by
 have:∀ (l:List bK) (o:List (List UInt8)),(l.foldl (oq t) o).length≤o.length+l.length:=by
  intro l
  induction l with
  | nil=>intro o;exact Nat.le_refl _
  | cons f l ih=>
   intro o
   have h1:=ih (oq t o f)
   have ar:(oq t o f).length≤o.length+1:=by
    unfold oq
    split
    ·exact acQ _ _
    ·omega
   rw [List.foldl_cons,List.length_cons];omega
 have h:=this l []
 rw [List.length_nil,Nat.zero_add] at h
 exact h
end au
end
section
namespace au
open Go Go.aK
def ahW(T:Int)(f:bK):bK:=⟨f.tk+T+1,f.ky,f.vl⟩
def aot(T:Int)(m:List bK)(j:Nat):List bK:=(m.take j).map (ahW T)++m.drop j
end au
namespace au
end au
namespace au
end au
end
section
namespace au
open Go Go.aK
theorem acN(l:List bK)(t:Int):keys (l.take 0) t=[]:=rfl
theorem O3{l:List bK}{i:Nat}(h:i<l.length)(t:Int):keys (l.take (i+1)) t=oq t (keys (l.take i) t) (l.getD i f0):=by
 unfold keys
 rw [aj.nP (d:=f0) h,List.foldl_append];rfl
theorem acO{l:List bK}{i:Nat}(h:i<l.length){t:Int}(aN:t<(l.getD (i:Int).toNat f0).tk):keys (l.take (i+1)) t=keys (l.take i) t:=by
 rw [O3 h]
 rw [Int.toNat_natCast] at aN
 unfold oq
 rw [if_neg ag]
theorem O5{l:List bK}{i:Nat}(h:i<l.length){t:Int}(aN:¬ t<(l.getD (i:Int).toNat f0).tk):keys (l.take (i+1)) t=kO (keys (l.take i) t) (l.getD (i:Int).toNat f0).ky:=by
 rw [O3 h]
 rw [Int.toNat_natCast] at aN ⊢
 unfold oq
 rw [if_pos ag]
theorem O6:∀ (O:List (List UInt8)) (key:List UInt8) (k:Nat),k≤O.length→(∀ j,j<k→O.getD j [] < key)→(k=O.length∨(¬ O.getD k [] < key∧¬ O.getD k []=key))→kO O key=O.take k++key::O.drop k
 | [],key,k,aE,_,_=>by
  obtain rfl:k=0:=by simpa using aE
  rfl
 | x::O,key,0,_,_,h=>by
  rcases h with h | ⟨h1,ar⟩
  ·cases h
  ·have h1:¬ x<key:=h1
   have ar:¬ x=key:=ar
   unfold kO
   rw [if_neg h1,if_neg ar];rfl
 | x::O,key,k+1,aE,fF,h=>by
  have h0:x<key:=fF 0 ag
  unfold kO
  rw [if_pos h0,O6 O key k (by simpa using aE) (fun j aV=>by have:=fF (j+1) ag;rwa [List.getD_cons_succ] at this) (by
   rcases h with h | h
   ·left;simpa using h
   ·right;rwa [List.getD_cons_succ] at h)]
  rfl
theorem O7:∀ (O:List (List UInt8)) (key:List UInt8) (k:Nat),k<O.length→(∀ j,j<k→O.getD j [] < key)→O.getD k []=key→kO O key=O
 | [],_,_,aE,_,_=>by simp at aE
 | x::O,key,0,_,_,h=>by
  have h:x=key:=h
  subst h
  unfold kO
  rw [if_neg (List.lt_irrefl x),if_pos rfl]
 | x::O,key,k+1,aE,fF,h=>by
  have h0:x<key:=fF 0 ag
  unfold kO
  rw [if_pos h0,O7 O key k (by simpa using aE) (fun j aV=>by have:=fF (j+1) ag;rwa [List.getD_cons_succ] at this) (by rwa [List.getD_cons_succ] at h)]
theorem U9{O:List (List UInt8)}{key:List UInt8}{k:Nat}(h:∀ j,j<k→O.getD j [] < key)(aw:Op.bytesLess (O.getD (k:Int).toNat []) key=true):∀ j,j<k+1→O.getD j [] < key:=fun j aV=>by
 rcases Nat.lt_or_ge j k with h1 | h1
 ·exact h j h1
 ·rw [Int.toNat_natCast] at aw
  rw [show j=k by omega];exact (Fi _ _).1 aw
theorem acR{O:List (List UInt8)}{key:List UInt8}{k:Nat}(aE:k≤O.length)(h:∀ j,j<k→O.getD j [] < key)(aM:¬ (k:Int)<O.length∨Op.bytesLess (O.getD (k:Int).toNat []) key=false)(aH:(k:Int)=O.length∨¬ O.getD (k:Int).toNat []=key):kO O key=O.take k++key::O.drop k:=
 O6 O key k aE h (by
  rw [Int.toNat_natCast] at aM aH
  by_cases h1:k=O.length
  ·exact .inl h1
  ·right
   have aQ:¬ O.getD k [] < key:=fun ar=>by
    rcases aM with aM | aM
    ·omega
    ·rw [(Fi _ _).2 ar] at aM;exact absurd aM (by simp)
   refine ⟨aQ,fun ar=>?_⟩
   rcases aH with aH | aH
   ·omega
   ·exact aH ar)
theorem acS{O:List (List UInt8)}{key:List UInt8}{k:Nat}(aE:k≤O.length)(h:∀ j,j<k→O.getD j [] < key)(aH:¬ (k:Int)=O.length∧O.getD (k:Int).toNat []=key):kO O key=O:=by
 rw [Int.toNat_natCast] at aH
 exact O7 O key k ag h aH.2
theorem aci(O:List (List UInt8))(key:List UInt8)(k:Nat):(([]++(List.drop 0 (List.take (k:Int).toNat (O.map vs))))++[vs key])++List.drop (k:Int).toNat (List.take O.length (O.map vs))=(O.take k++key::O.drop k).map vs:=by
 have e:List.take O.length (O.map vs)=O.map vs:=List.take_of_length_le (by simp)
 rw [Int.toNat_natCast,List.drop_zero,List.nil_append,e,List.append_assoc,List.map_append,List.map_take,List.map_cons,List.map_drop];rfl
theorem acj(O:List (List UInt8))(key:List UInt8){k:Nat}(aE:k≤O.length):0+((k:Int).toNat-0)+1+(O.length-(k:Int).toNat)=(O.take k++key::O.drop k).length:=by
 rw [Int.toNat_natCast,List.length_append,List.length_cons,List.length_take,List.length_drop];omega
end au
end
section
namespace au
open Go Go.aK
end au
namespace au
open Go Go.aK
theorem re.gen{l q:List bK}(h:re l q)(aP:yk l):yk q:=
 ⟨⟨by rw [h.len];exact aP.fb.len,fun f bw=>aP.fb.ok f ((h.mem f).1 bw),h.srt aP.fb.srt⟩,by rw [h.len];exact aP.len,fun f bw=>aP.low f ((h.mem f).1 bw),fun f bw=>aP.sml f ((h.mem f).1 bw)⟩
end au
end
section
namespace au
open Go Go.aK
theorem aiH{l:List (List UInt8)}{i:Nat}(aH:i<l.length)(h:((dec (l.getD (i:Int).toNat [])).2=0∧(eX l i).2≤(dec (l.getD (i:Int).toNat [])).1.tk)∧((eX l i).1.length:Int)<512) :
  eX l (i+1)=((eX l i).1++[(dec (l.getD (i:Int).toNat [])).1],(dec (l.getD (i:Int).toNat [])).1.tk):=by
 rw [Int.toNat_natCast] at h ⊢
 rw [qW aH,xX ⟨h.1,by omega⟩]
theorem aiG{l:List (List UInt8)}{i:Nat}(aH:i<l.length)(h:(¬ (dec (l.getD (i:Int).toNat [])).2=0∨¬ (eX l i).2≤(dec (l.getD (i:Int).toNat [])).1.tk)∨¬ ((eX l i).1.length:Int)<512):eX l (i+1)=eX l i:=by
 rw [Int.toNat_natCast] at h
 exact SM aH ag
def Bu(B:Value→aC)(W:Value→List bK→aC)(K:aj.dC→aC→aC→aC→aC→Prop)(Bo Bq:ak.aX→aC)(L:gg)(val:Value):Value→List aR→List aC→Prop:=fun r zs hs=>
 r=val∧zs=[]∧∃ fv cu ct cx cz,hs=[B fv,W fv L.F,cu,ct,cx,cz,Bo L.S,Bq L.S]∧K L.J cu ct cx cz
theorem z8{B:Value→aC}{W:Value→List bK→aC}{K:aj.dC→aC→aC→aC→aC→Prop}{Bo Bq:ak.aX→aC}{L L':gg}{v dr r:Value}{zs:List aR}{hs:List aC}(h:Bu B W K Bo Bq L v r zs hs)(bL:L=L')(bT:v=dr):Bu B W K Bo Bq L' dr r zs hs:=by subst bL bT;exact h
end au
end
section
namespace Go.aK
theorem QK[a1]{P:Program}{n:Nat}{w0:World}{zs:List aR}{hs:List aC}{L:List (Nat×Value)}{d:Option Tmp}{ty t:TypeId}{pos:String}{af:Array Edge}{g:Option (Nat×Bool)}{x:Operand}{fs:Array Field}{s bu:Nat}{zv:Value}(aN:ba P t (.struct fs) s bu zv){i:Nat}{f:Field}{te:TypeId}(bw:fs[i]?=some f)(wV:f.type=te){bS:TypeDesc}{s' ha:Nat}{z':Value}(cr:ba P te bS s' ha z')(aT:fg bS=false)
  {cs:Array Value}(h1:aW L x=some (.agg cs)) {u:Value}(hu:cs[f.offset]?=some u):bR P n w0 zs hs L ⟨d,.field t x i,ty,pos,af,g⟩ u:=
 eV fun a bg w hw=>by
  subst wV
  have bO:=DB (P:=P) cr aT hu w
  simp only [execOp,bg.eval h1]
  simp [Instr.field,run_underlying aN.und,bw,asAgg,bO]
end Go.aK
end
section
namespace au
open Go Go.aK
def tg(x y:ak.eB):Bool:=((x.dt && !decide (y.tx=x.tx)) && !decide (y.tx=x.nx))&&(aj.c3 y.tx).ok
def qF(S M:ak.aX)(lk:Bool):Nat→Bool
 | 0=>lk
 | k+1=>if tg (S.s.getD k ak.b3) (M.s.getD k ak.b3)=true then true else qF S M lk k
def vm(S M:ak.aX)(lk:Bool):Bool:=qF S M lk S.s.length
def tf(S:ak.aX)(i b:Int)(lk:Bool):Bool:=if (ak.hi S i b).2=0∧(aj.c3 ((ak.hi S i b).1.at i).tx).ok=true then true else lk
theorem ady{S M:ak.aX}{lk:Bool}{i:Nat}(h:(((S.s.getD (i:Int).toNat ak.b3).dt=true∧¬ (M.s.getD (i:Int).toNat ak.b3).tx=(S.s.getD (i:Int).toNat ak.b3).tx)∧¬ (M.s.getD (i:Int).toNat ak.b3).tx=(S.s.getD (i:Int).toNat ak.b3).nx)∧(aj.c3 (M.s.getD (i:Int).toNat ak.b3).tx).ok=true):qF S M lk (i+1)=true:=by
 rw [Int.toNat_natCast] at h
 obtain ⟨⟨⟨h1,ar⟩,aQ⟩,bF⟩:=h
 show (if tg (S.s.getD i ak.b3) (M.s.getD i ak.b3)=true then true else qF S M lk i)=true
 rw [if_pos]
 unfold tg
 rw [h1,decide_eq_false ar,decide_eq_false aQ,bF];rfl
theorem adx{S M:ak.aX}{lk:Bool}{i:Nat}(h:(((S.s.getD (i:Int).toNat ak.b3).dt=false∨(M.s.getD (i:Int).toNat ak.b3).tx=(S.s.getD (i:Int).toNat ak.b3).tx)∨(M.s.getD (i:Int).toNat ak.b3).tx=(S.s.getD (i:Int).toNat ak.b3).nx)∨(aj.c3 (M.s.getD (i:Int).toNat ak.b3).tx).ok=false):qF S M lk (i+1)=qF S M lk i:=by
 rw [Int.toNat_natCast] at h
 show (if tg (S.s.getD i ak.b3) (M.s.getD i ak.b3)=true then true else qF S M lk i)=_
 rw [if_neg]
 unfold tg
 rcases h with ((h | h) | h) | h
 ·rw [h];simp
 ·rw [decide_eq_true h];simp
 ·rw [decide_eq_true h];simp
 ·rw [h];simp
theorem Iq(S:ak.aX)(ps:List Int):(ak.e6 S ps).s.length=S.s.length:=by
 show (ak.fr ps 0 S.s).length=_
 rw [ak.m8]
theorem ag7{S:ak.aX}{i b:Int}(h:(ak.hi S i b).2=0):0≤i∧i<S.s.length:=by
 by_cases bq:(0≤i∧i<S.s.length)∧0≤b∧b<512
 ·exact bq.1
 ·rw [ak.xJ bq] at h;exact absurd (show (1:Int)=0 from h) a8
theorem ag6(S:ak.aX)(i b:Int):(ak.hi S i b).1.s.length=S.s.length:=by
 by_cases bq:(0≤i∧i<S.s.length)∧0≤b∧b<512
 ·rw [ak.AK bq.1 bq.2,ak.qN]
 ·rw [ak.xJ bq]
theorem adr{S:ak.aX}{i b:Int}{lk:Bool}(h:(ak.hi S i b).2=0)(ar:(aj.c3 ((ak.hi S i b).1.s.getD i.toNat ak.b3).tx).ok=true):tf S i b lk=true:=if_pos ⟨h,ar⟩
theorem adp{S:ak.aX}{i b:Int}{lk:Bool}(ar:(aj.c3 ((ak.hi S i b).1.s.getD i.toNat ak.b3).tx).ok=false):tf S i b lk=lk:=if_neg fun h=>by rw [show ((ak.hi S i b).1.at i).tx=((ak.hi S i b).1.s.getD i.toNat ak.b3).tx from rfl,ar] at h;exact absurd h.2 (by simp)
theorem adq{S:ak.aX}{i b:Int}{lk:Bool}(h:¬ (ak.hi S i b).2=0):tf S i b lk=lk:=if_neg fun cA=>h cA.1
end au
end
section
namespace au
open Go Go.aK
structure jc where
 k:Int
 n:Int
 la:Int
 ky:List UInt8
 vl:List UInt8
 ps:List Int
def mQ:jc:=⟨0,0,0,[],[],[]⟩
def yz(s:jc):Prop:=(0≤s.k∧s.k≤9)∧(0≤s.n∧s.n≤23)∧(-1≤s.la∧s.la≤3)∧s.ky.length≤9∧s.vl.length≤6400
def qV(t:jc×Value):List Value:=[aA t.1.k,aA t.1.n,aA t.1.la,vs t.1.ky,vs t.1.vl,t.2]
theorem Sx(t:jc×Value):(qV t).length=6:=rfl
theorem ah8(l:List (jc×Value))(t:jc×Value):l.flatMap qV++[aA t.1.k,aA t.1.n,aA t.1.la,vs t.1.ky,vs t.1.vl,t.2]=(l++[t]).flatMap qV:=by rw [List.flatMap_append];simp [qV]
theorem aib(l:List (jc×Value))(t:jc×Value):l.length+1=(l++[t]).length:=by simp
def wz:ej jc where
 size:=6
 rep z o c:=∃ gM,c=qV (o,gM)∧yz o∧bo encI z gM o.ps
 mono bj h:=by obtain ⟨gM,h1,ar,aQ⟩:=h;exact ⟨gM,h1,ar,aQ.mono bj⟩
 len h:=by obtain ⟨gM,h1,_⟩:=h;rw [h1];rfl
 one h u hu:=by
  obtain ⟨gM,h1,ar,aQ⟩:=h
  rw [h1] at hu
  simp only [qV,List.mem_cons,List.not_mem_nil,or_false] at hu
  rcases hu with rfl | rfl | rfl | rfl | rfl | rfl <;> first | rfl | exact mP aQ
def si(z:aR)(l:List (jc×Value)):Prop:=∀ t∈l,yz t.1∧bo encI z t.2 t.1.ps
theorem si.nil{z:aR}:si z []:=fun t h=>by cases h
theorem si.snoc{z z':aR}{l:List (jc×Value)}{t:jc×Value}(h:si z l)(hl:z.le z')(h1:yz t.1)(ar:bo encI z' t.2 t.1.ps):si z' (l++[t]):=fun u hu=>by
 rcases List.mem_append.1 hu with aQ | aQ
 ·exact ⟨(h u aQ).1,(h u aQ).2.mono hl⟩
 ·obtain rfl:u=t:=by simpa using aQ
  exact ⟨h1,ar⟩
theorem Yw{w0:World}{zs:List aR}{hs:List aC}{w:World}{e:TypeId}{v:Value}{m:Nat}{l:List (jc×Value)}(h:aB w0 zs (.row v e 6 m (l.flatMap qV)::hs) w){z:aR}(bj:z∈zs)(hm:m=l.length)(aw:m≤140737488355328)(bO:si z l):∃ z',bo wz z' v (l.map (·.1))∧aB w0 (z'::zs) hs w:=
 aB.freeze (E:=wz) h (.inr bj) (by rw [List.length_map];exact hm) aw fun i x aM=>by
  rw [List.getElem?_map,Option.map_eq_some_iff] at aM
  obtain ⟨t,aN,rfl⟩:=aM
  have qw:=List.mem_of_getElem? aN
  refine ⟨qV t,⟨t.2,rfl,(bO t qw).1,(bO t qw).2⟩,fun j y cZ=>?_⟩
  have aV:j<6:=by have:=(List.getElem?_eq_some_iff.1 cZ).1;rw [Sx] at this;exact this
  exact (wC Sx aN aV).trans cZ
theorem aia{l:List jc}{k:Nat}(aE:k<l.length):l[k]?=some (l.getD k mQ):=by
 rw [List.getD_eq_getElem?_getD,List.getElem?_eq_getElem aE];rfl
theorem ah9{z:aR}{v:Value}{l:List jc}(U:bo wz z v l){k:Nat}(aE:k<l.length):∃ gM,oH z (dn v (k*6)) 6=qV (l.getD k mQ,gM)∧yz (l.getD k mQ)∧bo encI z gM (l.getD k mQ).ps:=U.rep (aia aE)
theorem afO[a1]{P:Program}{n:Nat}{w0:World}{zs:List aR}{hs:List aC}{L:List (Nat×Value)}{d:Option Tmp}{ty t:TypeId}{pos:String}{af:Array Edge}{g:Option (Nat×Bool)}{x:Operand}{v:Value}{z:aR}{l:List jc}{bS:TypeDesc}{bu:Nat}{zv:Value}(aN:ba P t bS 6 bu zv){k:Nat}(U:bo wz z v l)(bj:gQ w0 zs z){o:List Value}(bq:oH z (dn v (k*6)) 6=o)(h1:aW L x=some (dn v (k*6)))(aT:fg bS=true)(aE:k<l.length) :
  bR P n w0 zs hs L ⟨d,.load t x,ty,pos,af,g⟩ (.agg o.toArray):=by
 have:=IV (P:=P) (n:=n) (w0:=w0) (zs:=zs) (hs:=hs) (L:=L) (d:=d) (ty:=ty) (pos:=pos) (af:=af) (g:=g) (x:=x) (E:=wz) aN (k:=k) (m:=k*6) rfl a8 U bj h1 aT aE
 rw [← bq]
 exact this
end au
namespace au
open Go Go.aK
theorem OV(n:Int):(keyOf n).length≤9:=by
 have h:=cN.qj (n:=n) (m:=6) a8
 exact (OU _ (acI (cN.fl n 6).toNat ag)).2
end au
end
section
namespace au
open Go Go.aK
def mB(M:gg)(x:jc):gg:=
 if x.k=6 then ⟨M.J,ak.dx M.S (x.n%6),M.F⟩
 else if x.k=7 then pX (ak.e6 M.S x.ps)
 else if x.k=8 then ⟨M.J,(ak.hi M.S x.n (((x.ky.length:Int)*41+7*(x.vl.length:Int))%512)).1,M.F⟩
 else if x.k=9 then ⟨M.J,(ak.lj M.S x.n).1,M.F⟩
 else (add M ⟨clock M.F+x.la,x.ky,x.vl⟩).1
theorem LP{M:gg}{x:jc}(h:x.k=6):mB M x=⟨M.J,ak.dx M.S (x.n%6),M.F⟩:=if_pos h
theorem FH{M:gg}{x:jc}(h:x.k=7):mB M x=pX (ak.e6 M.S x.ps):=by unfold mB;rw [if_neg ag,if_pos h]
theorem LQ{M:gg}{x:jc}(h:x.k=8):mB M x=⟨M.J,(ak.hi M.S x.n (((x.ky.length:Int)*41+7*(x.vl.length:Int))%512)).1,M.F⟩:=by unfold mB;rw [if_neg ag,if_neg ag,if_pos h]
theorem LR{M:gg}{x:jc}(h:x.k=9):mB M x=⟨M.J,(ak.lj M.S x.n).1,M.F⟩:=by unfold mB;rw [if_neg ag,if_neg ag,if_neg ag,if_pos h]
theorem LS{M:gg}{x:jc}(dR:¬ x.k=6)(fh:¬ x.k=7)(dJ:¬ x.k=8)(cA:¬ x.k=9):mB M x=(add M ⟨clock M.F+x.la,x.ky,x.vl⟩).1:=by unfold mB;rw [if_neg dR,if_neg fh,if_neg dJ,if_neg cA]
theorem Wq{M:gg}{x:jc}(h:Good M.F):Good (mB M x).F:=by
 by_cases dR:x.k=6
 ·rw [LP dR];exact h
 by_cases fh:x.k=7
 ·rw [FH fh];exact AW _
 by_cases dJ:x.k=8
 ·rw [LQ dJ];exact h
 by_cases cA:x.k=9
 ·rw [LR cA];exact h
 ·rw [LS dR fh dJ cA];exact K9 h _
theorem Ft{l:List bK}(h:Good l):0≤clock l∧clock l≤1048576:=by
 unfold clock
 by_cases h0:l=[]
 ·rw [if_pos h0];omega
 rw [if_neg h0]
 have hl:0<l.length:=List.length_pos_iff.2 h0
 have e:l.getD (l.length-1) f0=l[l.length-1]:=by rw [List.getD_eq_getElem?_getD,List.getElem?_eq_getElem ag];rfl
 rw [e]
 exact (Bd (h.ok _ (List.getElem_mem (by omega:l.length-1<l.length)))).1
end au
end
section
namespace aj
open Go Go.aK
theorem PU{f:Part}:∀ (l:List Part) (k:Nat),gT f k l=true→∀ q∈l,q.ok=true∧q.n=f.n
 | [],_,_,q,ch=>by cases ch
 | x::l,k,h,q,ch=>by
  unfold gT at h
  rw [Bool.and_eq_true] at h
  rcases List.mem_cons.1 ch with rfl | ch
  ·have h1:=h.1
   unfold mt at h1
   simp only [Bool.and_eq_true,decide_eq_true_eq] at h1
   exact ⟨h1.1.1.1,h1.1.1.2⟩
  ·exact PU l _ h.2 q ch
def tT(P X:List Part):Prop:=∀ p∈P,p.ok=true→∀ q∈X,q.ok=true→q.n≠p.n
theorem RG{f:Part}{l X:List Part}(h:tT (f::l) X):gi (f::l++X)=if f.ok=true∧f.p=0∧1≤a7 f.l∧a7 f.l≤(f::l).length∧gT f 0 ((f::l).take (a7 f.l).toNat)=true then some (mh ((f::l).take (a7 f.l).toNat),(a7 f.l).toNat) else none:=by
 rw [List.cons_append,AG]
 by_cases bq:a7 f.l≤((f::l).length:Int)
 ·have e:(f::(l++X)).take (a7 f.l).toNat=(f::l).take (a7 f.l).toNat:=by
   rw [← List.cons_append,List.take_append_of_le_length ag]
  rw [e]
  have bT:a7 f.l≤((f::(l++X)).length:Int):=by rw [← List.cons_append,List.length_append];omega
  by_cases h1:f.ok=true∧f.p=0∧1≤a7 f.l∧a7 f.l≤(f::l).length∧gT f 0 ((f::l).take (a7 f.l).toNat)=true
  ·rw [if_pos h1,if_pos ⟨h1.1,h1.2.1,h1.2.2.1,bT,h1.2.2.2.2⟩]
  ·rw [if_neg h1,if_neg fun ar=>h1 ⟨ar.1,ar.2.1,ar.2.2.1,bq,ar.2.2.2.2⟩]
 ·have fD:(if f.ok=true∧f.p=0∧1≤a7 f.l∧a7 f.l≤(f::l).length∧gT f 0 ((f::l).take (a7 f.l).toNat)=true then some (mh ((f::l).take (a7 f.l).toNat),(a7 f.l).toNat) else none)=none:=if_neg fun ar=>bq ar.2.2.2.1
  rw [fD]
  refine if_neg ?_
  rintro ⟨h1,_,_,bF,cO⟩
  rw [← List.cons_append] at bF cO
  have hl:(f::l).length<(f::l++X).length:=by omega
  have hm:(f::l++X)[(f::l).length]∈(f::l++X).take (a7 f.l).toNat:=by
   refine List.mem_of_getElem? (i:=(f::l).length) ?_
   rw [List.getElem?_take,if_pos ag,List.getElem?_eq_getElem hl]
  obtain ⟨dR,fh⟩:=PU _ _ cO _ hm
  have aM:(f::l++X)[(f::l).length]∈X:=by
   rw [List.getElem_append_right (Nat.le_refl _)]
   exact List.getElem_mem _
  exact h f (by simp) h1 _ aM dR fh
theorem tT.drop{P X:List Part}(h:tT P X)(n:Nat):tT (P.drop n) X:=fun p bO=>h p (List.mem_of_mem_drop bO)
theorem Ju{X Y:List Part}:∀ (n:Nat) (P:List Part) (a:Acc),P.length≤n→tT P X→tT P Y→∃ b,scan (P++X) a=scan X b∧scan (P++Y) a=scan Y b
 | _,[],a,_,_,_=>⟨a,rfl,rfl⟩
 | 0,f::l,_,h,_,_=>by simp at h
 | n+1,f::l,a,h,sM,jn=>by
  have e:=RG sM
  have bT:=RG jn
  have hl:l.length≤n:=by simpa using h
  by_cases h1:f.ok=true∧f.p=0∧1≤a7 f.l∧a7 f.l≤(f::l).length∧gT f 0 ((f::l).take (a7 f.l).toNat)=true
  ·rw [if_pos h1] at e bT
   have bq:=h1.2.2.1
   have bz:=h1.2.2.2.1
   rw [tM e,tM bT,List.drop_append_of_le_length ag,List.drop_append_of_le_length ag]
   exact Ju n _ _ (by rw [List.length_drop,List.length_cons];omega) (sM.drop _) (jn.drop _)
  ·rw [if_neg h1] at e bT
   rw [xM (by simp) e,xM (by simp) bT]
   exact Ju n l a hl (sM.drop 1) (jn.drop 1)
theorem Jv:∀ (n:Nat) (l:List Part) (a:Acc),l.length≤n→∀ x∈(scan l a).1,x∈a.1∨∃ p∈l,p.n=x
 | _,[],a,_,x,aM=>.inl aM
 | 0,_::_,_,h,_,_=>by simp at h
 | n+1,f::l,a,h,x,aM=>by
  have hl:l.length≤n:=by simpa using h
  cases aY:gi (f::l) with
  | none=>
   rw [xM (by simp) aY] at aM
   rcases Jv n l a hl x aM with h1 | ⟨p,bO,ar⟩
   ·exact .inl h1
   ·exact .inr ⟨p,by simp [bO],ar⟩
  | some r=>
   obtain ⟨t,m⟩:=r
   have bO:=AH aY
   rw [tM aY] at aM
   rcases Jv n _ _ (by rw [List.length_drop,List.length_cons];omega) x aM with h1 | ⟨p,bO,ar⟩
   ·unfold pB at h1
    split at h1
    ·exact .inl h1
    ·rcases List.mem_append.1 h1 with h1 | h1
     ·exact .inl h1
     ·exact .inr ⟨f,by simp,(show x=f.n by simpa using h1).symm⟩
   ·exact .inr ⟨p,List.mem_of_mem_drop bO,ar⟩
theorem P5(l:List (List UInt8)):∀ (k j:Nat),j<k→(c3 (l.getD j [])).n<gp l k
 | 0,j,h=>by omega
 | k+1,j,h=>by
  rw [gp]
  rcases Nat.lt_or_ge j k with h1 | h1
  ·have:=P5 l k j h1;omega
  ·rw [show j=k by omega];omega
theorem Mc{l:List (List UInt8)}{k j:Nat}(h:gH l k≤(j:Int))(aV:j<k):l.getD j []=z64:=by
 by_cases h1:l.getD j []=z64
 ·exact h1
 ·have:=B2 h1 k aV;omega
end aj
end
section
namespace aj
open Go Go.aK
structure tY (S W:ak.aX) (a:Nat) (l:List (List UInt8)):Prop where
 ok:ak.Ok W
 len:W.s.length=S.s.length
 out:∀ j,j<S.s.length→(j<a∨a+l.length≤j)→W.s.getD j ak.b3=S.s.getD j ak.b3
 ins:∀ i,i<l.length→((W.s.getD (a+i) ak.b3).dt=false∧((W.s.getD (a+i) ak.b3).tx=z64∨(W.s.getD (a+i) ak.b3).tx=l.getD i []))∨((W.s.getD (a+i) ak.b3).dt=true∧(W.s.getD (a+i) ak.b3).tx=z64∧(W.s.getD (a+i) ak.b3).nx=l.getD i [])
theorem PA{S W:ak.aX}(wO:ak.Ok W)(aT:∀ x∈S.s,x.dt=false){a m:Nat}{l:List (List UInt8)}(h8:a+l.length≤S.s.length)(bj:∀ j,a≤j→j<S.s.length→dP S j=z64)(hm:m≤l.length)
  (hw:W.s.length=S.s.length) (h:∀ j,j<S.s.length→W.s.getD j ak.b3=r7 S a l m j):tY S W a l:=by
 refine ⟨wO,hw,fun j aV aY=>?_,fun i aH=>?_⟩
 ·rw [h j aV];unfold r7;rw [if_neg ag]
 ·have pV:=bj (a+i) ag ag
  unfold dP at pV
  rw [h (a+i) ag]
  unfold r7
  by_cases h1:a+i<a+m
  ·rw [if_pos ⟨by omega,h1⟩]
   right
   exact ⟨rfl,pV,by rw [Nat.add_sub_cancel_left]⟩
  ·rw [if_neg ag]
   left
   exact ⟨rp aT ag,.inl pV⟩
theorem aeI{W:ak.aX}(h:ak.Ok W){j:Nat}(aV:j<W.s.length):ak.qi (W.s.getD j ak.b3):=h.sec _ (ak.jm aV)
theorem ahT{x:ak.eB}(h:ak.qi x)(aT:x.dt=true){p:Int}(bO:64≤p):(ak.iQ x p).tx=if x.wn then x.tx else x.nx:=by
 have h1:=h.1
 have ar:=h.2.1 aT
 have e:ak.gR p=64:=by unfold ak.gR;omega
 unfold ak.iQ
 dsimp only
 rw [e,List.take_of_length_le ag,List.drop_of_length_le ag,List.append_nil]
theorem II(k:Nat):ak.kr [] k=64:=by unfold ak.kr;rw [if_neg (by simp)]
theorem adO{S W:ak.aX}{a:Nat}{l:List (List UInt8)}(h8:a+l.length≤S.s.length)(aT:∀ x∈S.s,x.dt=false)(h:tY S W a l):tY S (ak.flush W).1 a l∧((ak.flush W).2=0→∀ x∈(ak.flush W).1.s,x.dt=false):=by
 have n1:=ak.ID h.ok
 unfold ak.flush at n1 ⊢
 by_cases cH:W.off=true
 ·rw [if_pos cH];exact ⟨h,fun e=>by cases e⟩
 rw [if_neg cH] at n1 ⊢
 rcases JH W with ⟨s1,s2,Jo⟩ | ⟨s1,s2⟩
 ·rw [if_neg ag] at n1 ⊢
  dsimp only at n1 ⊢
  have ix:∀ j,j<W.s.length→(ak.fr [] 0 (ak.step W).1.s).getD j ak.b3=if (W.s.getD j ak.b3).dt=true then ak.iQ (W.s.getD j ak.b3) 64 else W.s.getD j ak.b3:=fun j aV=>by
   rw [s2,ak.vo [] W.s 0 0 j aV,II]
  refine ⟨⟨n1,by show (ak.fr _ _ _).length=_;rw [ak.m8,s2];exact h.len,fun j aV aY=>?_,fun i aH=>?_⟩,fun _ x aM=>?_⟩
  ·show (ak.fr _ _ _).getD j ak.b3=_
   rw [ix j (by rw [h.len];exact aV),h.out j aV aY,rp aT aV,if_neg (by simp)]
  ·show ((ak.fr [] 0 (ak.step W).1.s).getD (a+i) ak.b3).dt=false∧_∨_
   have aV:a+i<W.s.length:=by rw [h.len];omega
   left
   rcases h.ins i aH with ⟨h1,ar⟩ | ⟨h1,ar,aQ⟩
   ·show ((ak.fr [] 0 (ak.step W).1.s).getD (a+i) ak.b3).dt=false∧(((ak.fr [] 0 (ak.step W).1.s).getD (a+i) ak.b3).tx=z64∨((ak.fr [] 0 (ak.step W).1.s).getD (a+i) ak.b3).tx=_)
    rw [ix _ aV,h1,if_neg (by simp)]
    exact ⟨h1,ar⟩
   ·show ((ak.fr [] 0 (ak.step W).1.s).getD (a+i) ak.b3).dt=false∧(((ak.fr [] 0 (ak.step W).1.s).getD (a+i) ak.b3).tx=z64∨((ak.fr [] 0 (ak.step W).1.s).getD (a+i) ak.b3).tx=_)
    rw [ix _ aV,h1,if_pos rfl]
    refine ⟨rfl,?_⟩
    rw [ahT (aeI h.ok aV) h1 a8,ar,aQ]
    by_cases hw:(W.s.getD (a+i) ak.b3).wn=true
    ·rw [if_pos hw];exact .inl rfl
    ·rw [if_neg hw];exact .inr rfl
  ·obtain ⟨j,aV,rfl⟩:=pY (d:=ak.b3) aM
   rw [ak.m8,s2] at aV
   rw [ix j aV]
   split
   ·rfl
   ·rename_i fN;simpa using fN
 ·rw [if_pos ag] at n1 ⊢
  refine ⟨⟨n1,by rw [s2];exact h.len,fun j aV aY=>by rw [s2];exact h.out j aV aY,fun i aH=>by rw [s2];exact h.ins i aH⟩,fun e=>by omega⟩
theorem RA{F:ak.aX}{a:Int}{l:List (List UInt8)}:∀ k,iX F a l k=(0,true)→∀ i,i<k→(ak.read F (a+i)).1=l.getD i []
 | 0,_,i,aH=>by omega
 | k+1,h,i,aH=>by
  rw [iX] at h
  by_cases h1:(iX F a l k).1=0
  ·rw [if_neg ag] at h
   by_cases ar:(ak.read F (a+k)).2=0
   ·rw [if_neg ag] at h
    have aQ:=congrArg Prod.snd h
    dsimp only at aQ
    rw [Bool.and_eq_true,decide_eq_true_eq] at aQ
    rcases Nat.lt_or_ge i k with bF | bF
    ·exact RA k (Prod.ext h1 aQ.1) i bF
    ·rw [show i=k by omega];exact aQ.2.symm
   ·rw [if_pos ar] at h
    exact absurd (congrArg Prod.snd h) (by simp)
  ·rw [if_pos h1] at h
   exact absurd (congrArg Prod.fst h) h1
end aj
end
section
namespace aj
open Go Go.aK
theorem adQ{S:ak.aX}(bC:ak.Ok S)(U:Still S){x:Int}(aM:0≤x)(zR:x≤255){a:Nat}{l:List (List UInt8)}(hl:∀ y∈l,y.length=64)(h8:a+l.length≤S.s.length)(bj:∀ j,a≤j→j<S.s.length→dP S j=z64) :
  tY S (fx (ak.dx S x) a l).1 a l∧((fx (ak.dx S x) a l).2=(0,true)→(∀ y∈(fx (ak.dx S x) a l).1.s,y.dt=false)∧∀ i,i<l.length→dP (fx (ak.dx S x) a l).1 (a+i)=l.getD i []):=by
 have ZW:ak.Ok (ak.dx S x):=ak.Dx bC ag
 have HT:(ak.dx S x).s=S.s:=rfl
 have zG:(ak.dx S x).off=false:=U.off
 have G1:(a:Int)+(l.length:Int)≤((ak.dx S x).s.length:Int):=by rw [HT];omega
 have wO:=yf ZW (a:Int) l l.length
 by_cases hw:(cX (ak.dx S x) a l l.length).2=0
 ·obtain ⟨i1,i2,i3⟩:=Bj zG ag G1 hl _ (Nat.le_refl _) hw
  rw [Int.toNat_natCast] at i3
  have eP:tY S (cX (ak.dx S x) a l l.length).1 a l:=PA wO U.dt h8 bj (Nat.le_refl _) i2 i3
  obtain ⟨ab,NM⟩:=adO h8 U.dt eP
  by_cases bw:(ak.flush (cX (ak.dx S x) a l l.length).1).2=0
  ·have e:fx (ak.dx S x) a l=((ak.flush (cX (ak.dx S x) a l l.length).1).1,iX (ak.flush (cX (ak.dx S x) a l l.length).1).1 a l l.length):=by
    unfold fx;rw [if_neg ag,if_neg ag]
   rw [e]
   refine ⟨ab,fun aY=>⟨NM bw,fun i aH=>?_⟩⟩
   have h1:=RA _ aY i aH
   have bq:ak.check (ak.flush (cX (ak.dx S x) a l l.length).1).1 ((a:Int)+i)=0:=by
    by_cases bq:ak.check (ak.flush (cX (ak.dx S x) a l l.length).1).1 ((a:Int)+i)=0
    ·exact bq
    ·unfold ak.read at h1
     rw [if_neg bq] at h1
     have:=hl _ (ak.jm (d:=[]) aH)
     rw [← h1] at this;cases this
   have ix:(ak.flush (cX (ak.dx S x) a l l.length).1).1.at ((a:Int)+i)=(ak.flush (cX (ak.dx S x) a l l.length).1).1.s.getD (a+i) ak.b3:=by
    unfold ak.aX.at;rw [show ((a:Int)+(i:Int)).toNat=a+i by omega]
   rw [ak.AF bq (by rw [ix,rp (NM bw) (by rw [ab.len];omega)];simp),ix] at h1
   exact h1
  ·have e:=r6 hw bw
   rw [e]
   exact ⟨ab,fun aY=>absurd (congrArg Prod.snd aY) (by simp)⟩
 ·obtain ⟨m,hm,u6,s3,anc⟩:=ajK zG ag G1 hl _ (Nat.le_refl _) hw
  have e:fx (ak.dx S x) a l=((cX (ak.dx S x) a l l.length).1,(cX (ak.dx S x) a l l.length).2,false):=by unfold fx;rw [if_pos hw]
  obtain ⟨i1,i2,i3⟩:=Bj zG ag G1 hl m ag u6
  rw [Int.toNat_natCast] at i3
  rw [e]
  exact ⟨PA wO U.dt h8 bj (m:=m) ag (by rw [s3];exact i2) (by rw [s3];exact i3),fun aY=>absurd (congrArg Prod.snd aY) (by simp)⟩
theorem adM{S:ak.aX}{J:dC}(bC:ak.Ok S)(U:Still S)(fE:J.gR=false)(he:0≤J.en)(bj:∀ j,J.en.toNat≤j→j<S.s.length→dP S j=z64)(t:List UInt8){x:Int}(aM:0≤x)(zR:x≤255) :
  ((app J (ak.dx S x) t).2.2.2≠0∧(app J (ak.dx S x) t).2.1=ak.dx S x) ∨
  (t.length≤8000∧J.next≤4096∧J.en.toNat+(cD J.next t).length≤S.s.length∧tY S (app J (ak.dx S x) t).2.1 J.en.toNat (cD J.next t) ∧
   ((app J (ak.dx S x) t).2.2.2=0→(∀ y∈(app J (ak.dx S x) t).2.1.s,y.dt=false)∧∀ i,i<(cD J.next t).length→dP (app J (ak.dx S x) t).2.1 (J.en.toNat+i)=(cD J.next t).getD i [])):=by
 have sO:¬ J.gR=true:=by rw [fE];simp
 by_cases ar:8000<t.length∨4096<J.next
 ·rw [uw sO ar];exact .inl ⟨by show (4:Int)≠0;decide,rfl⟩
 have nE:t.length≤8000∧J.next≤4096:=by omega
 by_cases aQ:room J (ak.dx S x)<a7 t.length
 ·rw [sq sO nE aQ];exact .inl ⟨by show (22:Int)≠0;decide,rfl⟩
 have fD:=aQ
 unfold room at fD
 rw [show (ak.dx S x).s=S.s from rfl] at fD
 have jh:=o9 J.next t
 have h9:=nD t.length
 have h8:J.en.toNat+(cD J.next t).length≤S.s.length:=by rw [jh];omega
 obtain ⟨eP,k5⟩:=adQ bC U aM zR (l:=cD J.next t) JB h8 bj
 rw [show ((J.en.toNat:Nat):Int)=J.en by omega] at eP k5
 refine .inr ⟨nE.1,nE.2,h8,?_⟩
 by_cases bF:(fx (ak.dx S x) J.en (cD J.next t)).2.1≠0
 ·rw [nz sO nE aQ bF]
  exact ⟨eP,fun e=>absurd e bF⟩
 have Gl:(fx (ak.dx S x) J.en (cD J.next t)).2.1=0:=by omega
 by_cases cO:(fx (ak.dx S x) J.en (cD J.next t)).2.2=false
 ·rw [ux sO nE aQ Gl cO]
  exact ⟨eP,fun e=>absurd e (by show (24:Int)≠0;decide)⟩
 ·rw [ri sO nE aQ Gl cO]
  exact ⟨eP,fun _=>k5 (Prod.ext Gl (by simpa using cO))⟩
end aj
end
section
namespace aj
open Go Go.aK
theorem S6{W M:ak.aX}{lk:Bool}:∀ (k:Nat),au.qF W M lk k=false→∀ j,j<k→(W.s.getD j ak.b3).dt=false∨dP M j=(W.s.getD j ak.b3).tx∨dP M j=(W.s.getD j ak.b3).nx∨(c3 (dP M j)).ok=false
 | 0,_,j,aV=>by omega
 | k+1,h,j,aV=>by
  have h1:(if au.tg (W.s.getD k ak.b3) (M.s.getD k ak.b3)=true then true else au.qF W M lk k)=false:=h
  by_cases ar:au.tg (W.s.getD k ak.b3) (M.s.getD k ak.b3)=true
  ·rw [if_pos ar] at h1;cases h1
  rw [if_neg ar] at h1
  rcases Nat.lt_or_ge j k with aQ | aQ
  ·exact S6 k h1 j aQ
  obtain rfl:j=k:=by omega
  unfold au.tg at ar
  simp only [Bool.and_eq_true,Bool.not_eq_true',decide_eq_false_iff_not,not_and,Bool.not_eq_true] at ar
  show _∨(M.s.getD j ak.b3).tx=_∨(M.s.getD j ak.b3).tx=_∨(c3 (M.s.getD j ak.b3).tx).ok=false
  by_cases bL:(W.s.getD j ak.b3).dt=true
  ·by_cases bT:(M.s.getD j ak.b3).tx=(W.s.getD j ak.b3).tx
   ·exact .inr (.inl bT)
   ·by_cases fm:(M.s.getD j ak.b3).tx=(W.s.getD j ak.b3).nx
    ·exact .inr (.inr (.inl fm))
    ·exact .inr (.inr (.inr (ar ⟨⟨bL,bT⟩,fm⟩)))
  ·exact .inl (by simpa using bL)
theorem Aa(W:ak.aX)(ps:List Int){j:Nat}(aV:j<W.s.length):(W.s.getD j ak.b3).dt=false→dP (ak.e6 W ps) j=(W.s.getD j ak.b3).tx:=fun h=>by
 show ((ak.fr ps 0 W.s).getD j ak.b3).tx=_
 rw [ak.vo ps W.s 0 0 j aV,h,if_neg (by simp)]
theorem Dp:(c3 z64).ok=false:=by rw [r5];rfl
theorem adP{S W:ak.aX}{a:Nat}{l:List (List UInt8)}(aT:∀ x∈S.s,x.dt=false)(h8:a+l.length≤S.s.length)(h:tY S W a l){ps:List Int}{lk:Bool}(u5:au.vm W (ak.e6 W ps) lk=false) :
  (∀ j,j<S.s.length→(j<a∨a+l.length≤j)→dP (ak.e6 W ps) j=dP S j)∧∀ i,i<l.length→dP (ak.e6 W ps) (a+i)=l.getD i []∨(c3 (dP (ak.e6 W ps) (a+i))).ok=false:=by
 refine ⟨fun j aV aY=>?_,fun i aH=>?_⟩
 ·have e:=h.out j aV aY
  have bT:=Aa W ps (j:=j) (by rw [h.len];exact aV)
  rw [e] at bT
  exact bT (rp aT aV)
 ·have aV:a+i<W.s.length:=by rw [h.len];omega
  rcases h.ins i aH with ⟨h1,ar | ar⟩ | ⟨h1,ar,aQ⟩
  ·right;rw [Aa W ps aV h1,ar];exact Dp
  ·left;rw [Aa W ps aV h1,ar]
  ·rcases S6 W.s.length u5 (a+i) aV with bF | bF | bF | bF
   ·rw [bF] at h1;cases h1
   ·right;rw [bF,ar];exact Dp
   ·left;rw [bF,aQ]
   ·exact .inr bF
theorem UQ{S M:ak.aX}(U:Still S)(ZU:Still M)(bC:ak.Ok S){t:List UInt8}(aN:t.length≤8000)(bD:(bW S).next≤4096)(h8:(bW S).en.toNat+(cD (bW S).next t).length≤S.s.length)(s0:M.s.length=S.s.length)
  (Oi:∀ j,j<S.s.length→(j<(bW S).en.toNat∨(bW S).en.toNat+(cD (bW S).next t).length≤j)→dP M j=dP S j)
  (iK:∀ i,i<(cD (bW S).next t).length→dP M ((bW S).en.toNat+i)=(cD (bW S).next t).getD i []∨(c3 (dP M ((bW S).en.toNat+i))).ok=false) :
  (bW M).tx=(bW S).tx++[t]∨(bW M).tx=(bW S).tx∧¬ ∀ i,i<(cD (bW S).next t).length→dP M ((bW S).en.toNat+i)=(cD (bW S).next t).getD i []:=by
 have rL:=AD S
 have k7:=vJ U
 have HC:=xm (cV S) (cV S).length
 have rF:=wx (cV S) (cV S).length
 have ZF:(bW S).next=gp (cV S) (cV S).length:=rfl
 have ZD:(bW S).en=gH (cV S) (cV S).length:=rfl
 have NT:(bW S).tx=(scan (ig S) ([],[])).2:=by rw [← D8 U];rfl
 have ZE:(bW S).nums=(scan (ig S) ([],[])).1:=by rw [← D8 U];rfl
 have pR:∀ j,j<S.s.length→(cV S).getD j []=dP S j:=fun j aV=>by rw [k7,oZ _ aV]
 have c6:∀ j,(bW S).en.toNat≤j→j<S.s.length→dP S j=z64:=fun j h1 ar=>by
  rw [← pR j ar];exact Mc (k:=(cV S).length) (by rw [← ZD];omega) ag
 have gK:∀ j,j<S.s.length→(c3 (dP S j)).n<(bW S).next:=fun j aV=>by
  rw [← pR j aV,ZF];exact P5 _ _ _ ag
 generalize eD:bW S=J at *
 have h9:=nD t.length
 have jh:=o9 J.next t
 have sM:∀ q∈(ig S).drop J.en.toNat,q.ok=false:=fun q ch=>by
  obtain ⟨j,aV,rfl⟩:=pY (d:=cv) ch
  rw [List.length_drop,Ag] at aV
  rw [List.getD_eq_getElem?_getD,List.getElem?_drop,← List.getD_eq_getElem?_getD]
  unfold ig
  rw [oZ _ ag,c6 _ ag ag];exact Dp
 have hf:∀ p∈(ig S).take J.en.toNat,p.n<J.next:=fun p bO=>by
  obtain ⟨j,aV,rfl⟩:=pY (d:=cv) (List.mem_of_mem_take bO)
  rw [Ag] at aV
  unfold ig
  rw [oZ _ aV];exact gK j aV
 have pS:∀ q∈(ig M).drop (J.en.toNat+(a7 t.length).toNat),q.ok=false:=fun q ch=>by
  obtain ⟨j,aV,rfl⟩:=pY (d:=cv) ch
  rw [List.length_drop,Ag] at aV
  rw [List.getD_eq_getElem?_getD,List.getElem?_drop,← List.getD_eq_getElem?_getD]
  unfold ig
  rw [oZ _ ag,Oi _ ag (.inr ag),c6 _ ag ag];exact Dp
 have Of:∀ i,i<(a7 t.length).toNat→c3 (sec J.next t i)=sp J.next t i:=fun i aH=>x0 ⟨by omega,bD⟩ aN aH
 have Gn:∀ i,i<(a7 t.length).toNat→c3 (dP M (J.en.toNat+i))=sp J.next t i∨(c3 (dP M (J.en.toNat+i))).ok=false:=fun i aH=>by
  rcases iK i ag with h1 | h1
  ·left;rw [h1,xP _ _ aH,Of i aH]
  ·exact .inr h1
 have fH:=QB (S:=S) (F:=M) (a:=J.en.toNat) (c:=(a7 t.length).toNat) s0 ag fun j aV=>Oi j ag (.inl aV)
 generalize gw:((List.range (a7 t.length).toNat).map fun i=>c3 (dP M (J.en.toNat+i)))=A at fH
 have Y8:A.length=(a7 t.length).toNat:=by rw [← gw,xF]
 have Gm:∀ i,i<A.length→A.getD i cv=c3 (dP M (J.en.toNat+i)):=fun i aH=>by rw [← gw,oZ _ ag]
 have jn:tT ((ig S).take J.en.toNat) (A++(ig M).drop (J.en.toNat+(a7 t.length).toNat)):=fun p bO _ q ch k5=>by
  have h1:=hf p bO
  rcases List.mem_append.1 ch with ar | ar
  ·obtain ⟨i,aH,rfl⟩:=pY (d:=cv) ar
   rw [Gm i aH] at k5 ⊢
   rcases Gn i ag with aQ | aQ
   ·rw [aQ];show J.next≠p.n;omega
   ·rw [aQ] at k5;cases k5
  ·rw [pS q ar] at k5;cases k5
 obtain ⟨b,fp,fV⟩:=Ju _ ((ig S).take J.en.toNat) (([],[]):Acc) (Nat.le_refl _) (fun p _ _ q ch k5=>by rw [sM q ch] at k5;cases k5) jn
 rw [List.take_append_drop,AR sM] at fp
 rw [fp] at NT ZE
 have CF:J.next ∉ b.1:=fun hm=>by
  rcases Jv _ (ig S) ([],[]) (Nat.le_refl _) J.next (by rw [fp];exact hm) with h1 | ⟨p,bO,h1⟩
  ·cases h1
  ·obtain ⟨j,aV,rfl⟩:=pY (d:=cv) bO
   rw [Ag] at aV
   unfold ig at h1
   rw [oZ _ aV] at h1
   have:=gK j aV;omega
 have eP:(bW M).tx=(scan (A++(ig M).drop (J.en.toNat+(a7 t.length).toNat)) b).2:=by
  have e:(cV M).map c3=(ig S).take J.en.toNat++(A++(ig M).drop (J.en.toNat+(a7 t.length).toNat)):=by
   rw [D8 ZU,← List.append_assoc,← fH,List.take_append_drop]
  unfold bW tj
  dsimp only
  rw [e,fV]
 rw [eP,NT]
 by_cases hw:∀ i,i<(a7 t.length).toNat→c3 (dP M (J.en.toNat+i))=sp J.next t i
 ·left
  have e:A=nO J.next t:=by rw [← gw];exact List.map_congr_left fun i aH=>hw i (List.mem_range.1 aH)
  rw [e,Si aN,AR pS]
  unfold pB
  rw [if_neg CF]
 ·right
  obtain ⟨i,aH,fG⟩:∃ i,i<(a7 t.length).toNat∧¬ c3 (dP M (J.en.toNat+i))=sp J.next t i:=by
   apply Classical.byContradiction
   intro iz
   exact hw fun i aH=>Classical.byContradiction fun he=>iz ⟨i,aH,he⟩
  refine ⟨?_,fun bO=>fG (by rw [bO i ag,xP _ _ aH,Of i aH])⟩
  rw [Sh (n:=J.next) (t:=t) aN Y8 (fun q ch=>by rw [Gm q ch];exact Gn q ag) (j:=i) ag (by rw [Gm i ag];exact (Gn i aH).resolve_left fG),AR pS]
end aj
end
section
namespace au
open Go Go.aK
theorem SK(l:List (List UInt8)):∀ k,k≤l.length→(eX l k).2=clock (eX l k).1
 | 0,_=>rfl
 | k+1,aE=>by
  rw [qW ag]
  by_cases bq:((dec (l.getD k [])).2=0∧(eX l k).2≤(dec (l.getD k [])).1.tk)∧(eX l k).1.length<512
  ·rw [xX bq]
   unfold clock
   rw [if_neg (by simp)]
   dsimp only
   generalize (dec (l.getD k [])).1=d
   generalize (eX l k).1=m
   have e:(m++[d]).getD m.length f0=d:=by rw [List.getD_eq_getElem?_getD,List.getElem?_append_right (Nat.le_refl _),Nat.sub_self];rfl
   rw [List.length_append,List.length_singleton,Nat.add_sub_cancel,e]
  ·rw [Ee bq];exact SK l k ag
theorem SI(l m:List (List UInt8)):∀ k,k≤l.length→eX (l++m) k=eX l k
 | 0,_=>rfl
 | k+1,aE=>by
  rw [qW (by rw [List.length_append];omega),qW ag,SI l m k ag]
  congr 1
  rw [List.getD_eq_getElem?_getD,List.getElem?_append_left ag,List.getD_eq_getElem?_getD]
theorem aiy{l:List (List UInt8)}{f:bK}(bA:valid f=0)(bq:¬ f.tk<clock (taken l))(hl:(taken l).length<512):taken (l++[enc f])=taken l++[f]:=by
 have e:=SI l [enc f] l.length (Nat.le_refl _)
 have bT:(l++[enc f]).getD l.length []=enc f:=by rw [List.getD_eq_getElem?_getD,List.getElem?_append_right (Nat.le_refl _),Nat.sub_self];rfl
 show (eX (l++[enc f]) (l++[enc f]).length).1=_
 rw [List.length_append,List.length_singleton,qW (by rw [List.length_append,List.length_singleton];omega),e,bT,xX,LG bA]
 ·rfl
 rw [LG bA,SK l _ (Nat.le_refl _)]
 exact ⟨⟨rfl,by show clock (taken l)≤f.tk;omega⟩,hl⟩
theorem SL(l:List (List UInt8)):∀ k,k≤l.length→(eX l k).1.length≤k
 | 0,_=>Nat.le_refl _
 | k+1,aE=>by
  rw [qW ag]
  have:=SL l k ag
  by_cases bq:((dec (l.getD k [])).2=0∧(eX l k).2≤(dec (l.getD k [])).1.tk)∧(eX l k).1.length<512
  ·rw [xX bq,List.length_append,List.length_singleton];omega
  ·rw [Ee bq];omega
theorem aix(l:List (List UInt8)):(taken l).length≤l.length:=SL l _ (Nat.le_refl _)
theorem UK{J:aj.dC}{S:ak.aX}{F:List bK}{f:bK}(h1:valid f=0)(ar:¬ f.tk<clock F)(aQ:¬ 512≤F.length):(add ⟨J,S,F⟩ f).1.S=(aj.app J S (enc f)).2.1∧(add ⟨J,S,F⟩ f).2=(aj.app J S (enc f)).2.2.2:=by
 by_cases bF:(aj.app J S (enc f)).2.2.2=0
 ·rw [sn h1 ar aQ bF];exact ⟨rfl,bF.symm⟩
 ·rw [uq h1 ar aQ bF];exact ⟨rfl,rfl⟩
theorem kept{S:ak.aX}(bC:ak.Ok S)(U:aj.Still S)(f:bK){x:Int}(aM:0≤x)(zR:x≤255){ps:List Int}{lk:Bool}{A:gg×Int}(gw:add ⟨aj.bW S,ak.dx S x,taken (aj.bW S).tx⟩ f=A)(u5:vm A.1.S (ak.e6 A.1.S ps) lk=false) :
  (A.2=0→taken (aj.bW (ak.e6 A.1.S ps)).tx=taken (aj.bW S).tx++[f])∧(taken (aj.bW (ak.e6 A.1.S ps)).tx=taken (aj.bW S).tx∨taken (aj.bW (ak.e6 A.1.S ps)).tx=taken (aj.bW S).tx++[f]):=by
 have CV:aj.bW (ak.e6 (ak.dx S x) ps)=aj.bW S:=by
  have s3:=aj.Ir (S:=ak.dx S x) ps (ak.Dx bC ag)
  have hs:=aj.ad6 (W:=ak.dx S x) U.dt ps
  have e:aj.cV (ak.e6 (ak.dx S x) ps)=aj.cV S:=by
   rw [aj.vJ s3,aj.vJ U]
   unfold aj.dP
   rw [hs];rfl
  unfold aj.bW
  rw [e]
 by_cases h1:valid f≠0
 ·rw [wb h1] at gw;subst gw
  dsimp only at u5 ⊢
  rw [CV];exact ⟨fun e=>absurd e h1,.inl rfl⟩
 have qq:valid f=0:=by omega
 by_cases ar:f.tk<clock (taken (aj.bW S).tx)
 ·rw [uo qq ar] at gw;subst gw
  dsimp only at u5 ⊢
  rw [CV];exact ⟨fun e=>(by cases e),.inl rfl⟩
 by_cases aQ:512≤(taken (aj.bW S).tx).length
 ·rw [wc qq ar aQ] at gw;subst gw
  dsimp only at u5 ⊢
  rw [CV];exact ⟨fun e=>(by cases e),.inl rfl⟩
 have Oo:=aiy qq ar ag
 have Cm:=UK (J:=aj.bW S) (S:=ak.dx S x) (F:=taken (aj.bW S).tx) qq ar aQ
 rw [gw] at Cm
 rw [Cm.1] at u5 ⊢
 rw [Cm.2]
 have rF:0≤(aj.bW S).en:=(aj.wx (aj.cV S) (aj.cV S).length).1
 have bj:∀ j,(aj.bW S).en.toNat≤j→j<S.s.length→aj.dP S j=aj.z64:=fun j bL bT=>by
  have:=aj.Mc (l:=aj.cV S) (k:=(aj.cV S).length) (j:=j) (by show (aj.bW S).en≤_;omega) (by rw [aj.AD];exact bT)
  rw [aj.vJ U,aj.oZ _ bT] at this;exact this
 rcases aj.adM bC U (J:=aj.bW S) rfl rF bj (enc f) aM zR with ⟨cO,dR⟩ | ⟨aN,bD,h8,eP,k5⟩
 ·rw [dR,CV];exact ⟨fun e=>absurd e cO,.inl rfl⟩
 ·obtain ⟨cH,aH⟩:=aj.adP U.dt h8 eP u5
  have s0:(ak.e6 (aj.app (aj.bW S) (ak.dx S x) (enc f)).2.1 ps).s.length=S.s.length:=by show (ak.fr _ _ _).length=_;rw [ak.m8,eP.len]
  rcases aj.UQ U (aj.Ir ps eP.ok) bC aN bD h8 s0 cH aH with fh | ⟨fh,dJ⟩
  ·rw [fh,Oo];exact ⟨fun _=>rfl,.inr rfl⟩
  ·rw [fh]
   refine ⟨fun e=>?_,.inl rfl⟩
   exfalso
   obtain ⟨cA,l0⟩:=k5 e
   refine dJ fun i aH=>?_
   have aV:(aj.bW S).en.toNat+i<(aj.app (aj.bW S) (ak.dx S x) (enc f)).2.1.s.length:=by rw [eP.len];omega
   rw [aj.Aa _ ps aV (aj.rp cA aV)]
   exact l0 i aH
end au
end
