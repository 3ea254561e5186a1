/- walks and plain laws -/
import Derived.Test.YtngcjojijaknnaaGreatDoorFwB
import Derived.Test.YtngcjojijaknnaaGreatDoorFwC
import Derived.Test.YtngcjojijaknnaaGreatDoorFwD
import Derived.Test.YtngcjojijaknnaaGreatDoorGuA
import Derived.Test.YtngcjojijaknnaaGreatDoorShW
import Derived.Test.YtngcjojijaknnaaGreatDoorFwG
import Derived.Test.YtngcjojijaknnaaGreatDoorJnB
import Derived.Test.YtngcjojijaknnaaGreatDoorMkA
import Derived.Shelf.Spec.SlicesGrow
set_option linter.all false
section
namespace aw
open Go Go.aJ
structure bO where
 tk:Int
 ky:List UInt8
 vl:List UInt8
deriving DecidableEq
def f0:bO:=⟨0,[],[]⟩
def jK(x:bO):Prop:=(-9223372036854775808≤x.tk∧x.tk≤9223372036854775807)∧x.ky.length≤140737488355328∧x.vl.length≤140737488355328
def j4(x:bO):List Value:=[az x.tk,vs x.ky,vs x.vl]
theorem jP(x:bO):(j4 x).length=3:=rfl
theorem j5(x:bO):∀ u∈j4 x,u.oneCell'=true:=fun u hu=>by
 simp only [j4,List.mem_cons,List.not_mem_nil,or_false] at hu
 rcases hu with rfl | rfl | rfl <;> rfl
abbrev aiW:=mg j4 3 jK jP j5
def valid(f:bO):Int:=if (f.tk<0∨1048576<f.tk)∨f.ky=[] then 1 else if 256<f.ky.length∨7000<f.vl.length then 4 else 0
theorem Is{f:bO}(h:(f.tk<0∨1048576<f.tk)∨f.ky=[]):valid f=1:=by unfold valid;rw [if_pos h]
theorem It{f:bO}(h:¬ ((f.tk<0∨1048576<f.tk)∨f.ky=[]))(aq:256<f.ky.length∨7000<f.vl.length):valid f=4:=by unfold valid;rw [if_neg h,if_pos aq]
theorem Iu{f:bO}(h:¬ ((f.tk<0∨1048576<f.tk)∨f.ky=[]))(aq:¬ (256<f.ky.length∨7000<f.vl.length)):valid f=0:=by unfold valid;rw [if_neg h,if_neg aq]
theorem C0{f:bO}(h:valid f=0):(0≤f.tk∧f.tk≤1048576)∧f.ky≠[]∧f.ky.length≤256∧f.vl.length≤7000:=by
 by_cases h1:(f.tk<0∨1048576<f.tk)∨f.ky=[]
 ·rw [Is h1] at h;cases h
 by_cases aq:256<f.ky.length∨7000<f.vl.length
 ·rw [It h1 aq] at h;cases h
 exact ⟨⟨by omega,by omega⟩,fun e=>h1 (.inr e),by omega,by omega⟩
def enc(f:bO):List UInt8:=aF.int f.tk++aF.bytes f.ky++aF.bytes f.vl
theorem Ky(f:bO):(enc f).length≤27+f.ky.length+f.vl.length:=by
 have h1:=aF.od f.tk
 have aq:=aF.rp f.ky
 have aQ:=aF.rp f.vl
 unfold enc
 rw [List.length_append,List.length_append];omega
def d1(b:List UInt8):List UInt8×Int×Int:=aF.ef (b.drop (aF.getInt b).2.1.toNat)
def d2(b:List UInt8):List UInt8×Int×Int:=aF.ef (b.drop ((aF.getInt b).2.1+(d1 b).2.1).toNat)
def pD(b:List UInt8):bO:=⟨(aF.getInt b).1,(d1 b).1,(d2 b).1⟩
def dec(b:List UInt8):bO×Int:=
 if (aF.getInt b).2.2≠0 then (f0,(aF.getInt b).2.2)
 else if (d1 b).2.2≠0 then (f0,(d1 b).2.2)
 else if (d2 b).2.2≠0 then (f0,(d2 b).2.2)
 else if (aF.getInt b).2.1+(d1 b).2.1+(d2 b).2.1≠b.length∨valid (pD b)≠0 then (f0,2)
 else (pD b,0)
theorem D8{b:List UInt8}(h:(aF.getInt b).2.2≠0):dec b=(f0,(aF.getInt b).2.2):=by unfold dec;rw [if_pos h]
theorem D9{b:List UInt8}(h:(aF.getInt b).2.2=0)(h1:(d1 b).2.2≠0):dec b=(f0,(d1 b).2.2):=by unfold dec;rw [if_neg (by omega),if_pos h1]
theorem Ea{b:List UInt8}(h:(aF.getInt b).2.2=0)(h1:(d1 b).2.2=0)(aq:(d2 b).2.2≠0):dec b=(f0,(d2 b).2.2):=by unfold dec;rw [if_neg (by omega),if_neg (by omega),if_pos aq]
theorem Eb{b:List UInt8}(h:(aF.getInt b).2.2=0)(h1:(d1 b).2.2=0)(aq:(d2 b).2.2=0)(aQ:(aF.getInt b).2.1+(d1 b).2.1+(d2 b).2.1≠b.length∨valid (pD b)≠0):dec b=(f0,2):=by unfold dec;rw [if_neg (by omega),if_neg (by omega),if_neg (by omega),if_pos aQ]
theorem Ec{b:List UInt8}(h:(aF.getInt b).2.2=0)(h1:(d1 b).2.2=0)(aq:(d2 b).2.2=0)(aQ:¬ ((aF.getInt b).2.1+(d1 b).2.1+(d2 b).2.1≠b.length∨valid (pD b)≠0)):dec b=(pD b,0):=by unfold dec;rw [if_neg (by omega),if_neg (by omega),if_neg (by omega),if_neg aQ]
theorem T3(b:List UInt8):(dec b).2=0→valid (dec b).1=0:=by
 intro h
 by_cases h1:(aF.getInt b).2.2≠0
 ·rw [D8 h1] at h;exact absurd h h1
 by_cases aq:(d1 b).2.2≠0
 ·rw [D9 (by omega) aq] at h;exact absurd h aq
 by_cases aQ:(d2 b).2.2≠0
 ·rw [Ea (by omega) (by omega) aQ] at h;exact absurd h aQ
 by_cases bH:(aF.getInt b).2.1+(d1 b).2.1+(d2 b).2.1≠b.length∨valid (pD b)≠0
 ·rw [Eb (by omega) (by omega) (by omega) bH] at h;cases h
 ·rw [Ec (by omega) (by omega) (by omega) bH]
  show valid (pD b)=0
  omega
def uC(a:List bO×Int)(s:List UInt8):List bO×Int:=if ((dec s).2=0∧a.2≤(dec s).1.tk)∧a.1.length<512 then (a.1++[(dec s).1],(dec s).1.tk) else a
def fe(l:List (List UInt8))(k:Nat):List bO×Int:=(l.take k).foldl uC ([],0)
def taken(l:List (List UInt8)):List bO:=(fe l l.length).1
theorem agq(l:List (List UInt8)):fe l 0=([],0):=rfl
theorem zw{l:List (List UInt8)}{k:Nat}(h:k<l.length):fe l (k+1)=uC (fe l k) (l.getD k []):=by
 unfold fe
 rw [aj.nb (d:=([]:List UInt8)) h,List.foldl_append];rfl
theorem H9{a:List bO×Int}{s:List UInt8}(h:((dec s).2=0∧a.2≤(dec s).1.tk)∧a.1.length<512):uC a s=(a.1++[(dec s).1],(dec s).1.tk):=by unfold uC;rw [if_pos h]
theorem QM{a:List bO×Int}{s:List UInt8}(h:¬ (((dec s).2=0∧a.2≤(dec s).1.tk)∧a.1.length<512)):uC a s=a:=by unfold uC;rw [if_neg h]
structure Good (l:List bO):Prop where
 len:l.length≤512
 ok:∀ f∈l,valid f=0
 srt:l.Pairwise (fun f g=>f.tk≤g.tk)
theorem vj:Good []:=⟨by decide,fun f h=>(by cases h),List.Pairwise.nil⟩
def clock(l:List bO):Int:=if l=[] then 0 else (l.getD (l.length-1) f0).tk
theorem xL{l:List bO}(h:Good l){f:bO}(bx:valid f=0)(bu:∀ g∈l,g.tk≤f.tk)(hl:l.length<512):Good (l++[f]):=by
 refine ⟨by rw [List.length_append];simp;omega,fun g aO=>?_,?_⟩
 ·rcases List.mem_append.1 aO with h1 | h1
  ·exact h.ok g h1
  ·have:g=f:=by simpa using h1
   rw [this];exact bx
 ·refine List.pairwise_append.2 ⟨h.srt,List.pairwise_singleton _ _,fun a a7 b au=>?_⟩
  have:b=f:=by simpa using au
  rw [this];exact bu a a7
theorem H8(l:List (List UInt8)):∀ k,k≤l.length→Good (fe l k).1∧(∀ g∈(fe l k).1,g.tk≤(fe l k).2)∧0≤(fe l k).2∧(fe l k).2≤1048576
 | 0,_=>⟨vj,fun g h=>(by cases h),Int.le_refl _,by rw [agq];decide⟩
 | k+1,aD=>by
  obtain ⟨h1,aq,aQ,bH⟩:=H8 l k (by omega)
  rw [zw (by omega)]
  by_cases bu:((dec (l.getD k [])).2=0∧(fe l k).2≤(dec (l.getD k [])).1.tk)∧(fe l k).1.length<512
  ·rw [H9 bu]
   have bx:=T3 _ bu.1.1
   have yp:=C0 bx
   refine ⟨xL h1 bx (fun g aO=>Int.le_trans (aq g aO) bu.1.2) bu.2,fun g aO=>?_,yp.1.1,yp.1.2⟩
   rcases List.mem_append.1 aO with cN | cN
   ·exact Int.le_trans (aq g cN) bu.1.2
   ·have:g=(dec (l.getD k [])).1:=by simpa using cN
    rw [this];exact Int.le_refl _
  ·rw [QM bu];exact ⟨h1,aq,aQ,bH⟩
theorem H7(l:List (List UInt8)):Good (taken l):=(H8 l l.length (Nat.le_refl _)).1
theorem pH{l:List bO}(h:Good l):∀ f∈l,jK f:=fun f bw=>by
 have:=C0 (h.ok f bw)
 exact ⟨⟨by omega,by omega⟩,by omega,by omega⟩
def jv(f:bO)(t:Int)(k:List UInt8):Bool:=decide (f.ky=k)&&decide (f.tk≤t)
def h8(t:Int)(k:List UInt8)(a:List UInt8×Bool)(f:bO):List UInt8×Bool:=if jv f t k=true then (f.vl,true) else a
def dN(l:List bO)(t:Int)(k:List UInt8):List UInt8×Bool:=l.foldl (h8 t k) ([],false)
theorem aaR(l:List bO)(f:bO)(t:Int)(k:List UInt8):dN (l++[f]) t k=if jv f t k=true then (f.vl,true) else dN l t k:=by
 unfold dN;rw [List.foldl_append];rfl
theorem vN{l:List bO}{m:Nat}(h:m<l.length)(t:Int)(k:List UInt8):dN (l.take (m+1)) t k=if jv (l.getD m f0) t k=true then ((l.getD m f0).vl,true) else dN (l.take m) t k:=by
 rw [aj.nb (d:=f0) h,aaR]
def hq(l:List bO)(t:Int):List bO:=l.take (l.countP fun f=>decide (f.tk≤t))
theorem zD:∀ {l:List bO},l.Pairwise (fun f g=>f.tk≤g.tk)→∀ t,hq l t=l.filter (fun f=>decide (f.tk≤t))
 | [],_,_=>rfl
 | f::l,h,t=>by
  obtain ⟨h1,aq⟩:=List.pairwise_cons.1 h
  have ih:=zD aq t
  unfold hq at ih ⊢
  by_cases bw:f.tk≤t
  ·rw [List.countP_cons_of_pos (by simpa using bw),List.filter_cons_of_pos (by simpa using bw),List.take_succ_cons,ih]
  ·have h0:l.countP (fun f=>decide (f.tk≤t))=0:=by
    rw [List.countP_eq_zero]
    intro g aO
    have:=h1 g aO
    simp;omega
   rw [List.countP_cons_of_neg (by simpa using bw),h0,List.take_zero,List.filter_cons_of_neg (by simpa using bw)]
   symm
   rw [List.filter_eq_nil_iff]
   intro g aO
   have:=h1 g aO
   simp;omega
theorem GF(t:Int)(k:List UInt8):∀ (l:List bO) (a:List UInt8×Bool),(l.filter (fun f=>decide (f.tk≤t))).foldl (h8 t k) a=l.foldl (h8 t k) a
 | [],_=>rfl
 | f::l,a=>by
  by_cases bw:f.tk≤t
  ·rw [List.filter_cons_of_pos (by simpa using bw),List.foldl_cons,List.foldl_cons,GF t k l]
  ·rw [List.filter_cons_of_neg (by simpa using bw),List.foldl_cons,GF t k l]
   have:h8 t k a f=a:=by
    unfold h8 jv
    rw [decide_eq_false bw,Bool.and_false,if_neg (by simp)]
   rw [this]
theorem Nd{l:List bO}(h:l.Pairwise (fun f g=>f.tk≤g.tk))(t:Int)(k:List UInt8):dN (hq l t) t k=dN l t k:=by
 unfold dN
 rw [zD h,GF]
end aw
end
section
namespace aw
open Go Go.aJ
theorem DR:∀ (a b:List UInt8),Op.bytesLess a b=true↔a<b
 | [],[]=>by simp [Op.bytesLess]
 | [],b::l=>by simp [Op.bytesLess]
 | a::l,[]=>by simp [Op.bytesLess]
 | a::l,b::m=>by
  have ih:=DR l m
  rw [List.cons_lt_cons_iff,Op.bytesLess]
  by_cases h1:a=b
  ·subst h1
   simp [ih]
  ·by_cases aq:a<b
   ·simp [h1,aq]
   ·simp [h1,aq]
def ke:List (List UInt8)→List UInt8→List (List UInt8)
 | [],k=>[k]
 | x::l,k=>if x<k then x::ke l k else if x=k then x::l else k::x::l
def nH(t:Int)(o:List (List UInt8))(f:bO):List (List UInt8):=if f.tk≤t then ke o f.ky else o
def keys(l:List bO)(t:Int):List (List UInt8):=l.foldl (nH t) []
theorem GD(x:List UInt8):∀ (l:List (List UInt8)) (k:List UInt8),x∈ke l k↔x=k∨x∈l
 | [],k=>by simp [ke]
 | y::l,k=>by
  unfold ke
  split
  ·rw [List.mem_cons,GD x l k,List.mem_cons]
   constructor
   ·rintro (h | h | h)
    ·exact .inr (.inl h)
    ·exact .inl h
    ·exact .inr (.inr h)
   ·rintro (h | h | h)
    ·exact .inr (.inl h)
    ·exact .inl h
    ·exact .inr (.inr h)
  ·split
   ·rename_i h
    subst h
    rw [List.mem_cons]
    constructor
    ·exact .inr
    ·rintro (h | h)
     ·exact .inl h
     ·exact h
   ·rw [List.mem_cons]
theorem abl{a b:List UInt8}(h1:¬ a<b)(aq:¬ a=b):b<a:=by
 rcases Classical.em (b<a) with h | h
 ·exact h
 ·exact absurd (List.le_antisymm (List.not_lt.1 h) (List.not_lt.1 h1)) aq
theorem Nb:∀ (l:List (List UInt8)) (k:List UInt8),l.Pairwise (fun a b=>a<b)→(ke l k).Pairwise (fun a b=>a<b)
 | [],k,_=>List.pairwise_singleton _ _
 | x::l,k,h=>by
  obtain ⟨h1,aq⟩:=List.pairwise_cons.1 h
  unfold ke
  split
  ·rename_i aL
   refine List.pairwise_cons.2 ⟨fun y cS=>?_,Nb l k aq⟩
   rcases (GD y l k).1 cS with rfl | cS
   ·exact aL
   ·exact h1 y cS
  ·split
   ·exact h
   ·rename_i aL bA
    have aD:=abl aL bA
    refine List.pairwise_cons.2 ⟨fun y cS=>?_,h⟩
    rcases List.mem_cons.1 cS with rfl | cS
    ·exact aD
    ·exact List.lt_trans aD (h1 y cS)
theorem aaF(l:List bO)(t:Int):(keys l t).Pairwise (fun a b=>a<b):=by
 have:∀ (l:List bO) (o:List (List UInt8)),o.Pairwise (fun a b=>a<b)→(l.foldl (nH t) o).Pairwise (fun a b=>a<b):=by
  intro l
  induction l with
  | nil=>intro o h;exact h
  | cons f l ih=>
   intro o h
   refine ih _ ?_
   unfold nH
   split
   ·exact Nb _ _ h
   ·exact h
 exact this l [] List.Pairwise.nil
theorem BK(l:List bO)(t:Int)(x:List UInt8):x∈keys l t↔∃ f∈l,f.tk≤t∧f.ky=x:=by
 have:∀ (l:List bO) (o:List (List UInt8)),x∈l.foldl (nH t) o↔x∈o∨∃ f∈l,f.tk≤t∧f.ky=x:=by
  intro l
  induction l with
  | nil=>intro o;simp
  | cons f l ih=>
   intro o
   rw [List.foldl_cons,ih]
   have:x∈nH t o f↔x∈o∨f.tk≤t∧f.ky=x:=by
    unfold nH
    split
    ·rename_i h
     rw [GD]
     constructor
     ·rintro (rfl | aq)
      ·exact .inr ⟨h,rfl⟩
      ·exact .inl aq
     ·rintro (aq | ⟨_,aq⟩)
      ·exact .inr aq
      ·exact .inl aq.symm
    ·rename_i h
     constructor
     ·exact .inl
     ·rintro (aq | ⟨aq,_⟩)
      ·exact aq
      ·exact absurd aq h
   rw [this]
   constructor
   ·rintro ((h | h) | ⟨g,aO,h⟩)
    ·exact .inl h
    ·exact .inr ⟨f,List.mem_cons_self,h⟩
    ·exact .inr ⟨g,List.mem_cons_of_mem _ aO,h⟩
   ·rintro (h | ⟨g,aO,h⟩)
    ·exact .inl (.inl h)
    ·rcases List.mem_cons.1 aO with rfl | aO
     ·exact .inl (.inr h)
     ·exact .inr ⟨g,aO,h⟩
 have h:=this l []
 simpa [keys] using h
theorem afT{ks:List (List UInt8)}(bA:ks.Nodup){l:List bO}{t:Int}(hm:∀ x,x∈ks↔x∈keys l t):ks.mergeSort (fun x y=>decide (x≤y))=keys l t:=by
 have hs:=aaF l t
 have fO:(keys l t).Nodup:=hs.imp fun h e=>by subst e;exact List.lt_irrefl _ h
 have bN:ks.Perm (keys l t):=(List.perm_ext_iff_of_nodup bA fO).2 hm
 have tr:∀ a b c:List UInt8,decide (a≤b)=true→decide (b≤c)=true→decide (a≤c)=true:=fun a b c h1 aq=>by simp only [decide_eq_true_eq] at *;exact List.le_trans h1 aq
 have agw:∀ a b:List UInt8,(decide (a≤b) || decide (b≤a))=true:=fun a b=>by simp only [Bool.or_eq_true,decide_eq_true_eq];exact List.le_total a b
 refine List.Perm.eq_of_pairwise (le:=fun a b=>decide (a≤b)=true) (fun a b _ _ h1 aq=>?_) (List.pairwise_mergeSort tr agw ks) (hs.imp fun h=>by simp only [decide_eq_true_eq];exact List.le_of_lt h) ((List.mergeSort_perm ks _).trans bN)
 simp only [decide_eq_true_eq] at h1 aq
 exact List.le_antisymm h1 aq
def lW(l:List bO)(k:Nat):List (List UInt8×Value):=(l.take k).foldl (fun m f=>h4 f.ky (vs f.vl) m) []
theorem BV{l:List bO}{k:Nat}(h:k<l.length):lW l (k+1)=h4 (l.getD k f0).ky (vs (l.getD k f0).vl) (lW l k):=by
 unfold lW
 rw [aj.nb (d:=f0) h,List.foldl_append];rfl
theorem SM{α:Type}[DecidableEq α](a:α)(v:Value):∀ (l:List (α×Value)) (x:α),x∈(h4 a v l).map (·.1)↔x=a∨x∈l.map (·.1):=by
 intro l x
 have h1:∀ (m:List (α×Value)) (y:α),y∈m.map (·.1)↔(fN m y).isSome=true:=by
  intro m y
  induction m with
  | nil=>simp [fN,ga]
  | cons p m ih=>
   rw [qn,List.map_cons,List.mem_cons]
   by_cases h:y=p.1
   ·rw [if_pos h];simp [h]
   ·rw [if_neg h,← ih];simp [h]
 rw [h1,h1,sZ]
 by_cases h:x=a
 ·rw [if_pos h];simp [h]
 ·rw [if_neg h];simp [h]
theorem BU(l:List bO):∀ k,k≤l.length→((lW l k).map (·.1)).Nodup∧∀ x,x∈(lW l k).map (·.1)↔∃ f∈l.take k,f.ky=x
 | 0,_=>⟨List.nodup_nil,fun x=>by simp [lW]⟩
 | k+1,aD=>by
  obtain ⟨h1,aq⟩:=BU l k (by omega)
  rw [BV (by omega)]
  refine ⟨DO h1,fun x=>?_⟩
  rw [SM,aq,aj.nb (d:=f0) (by omega)]
  constructor
  ·rintro (rfl | ⟨f,bw,rfl⟩)
   ·exact ⟨_,List.mem_append_right _ (by simp),rfl⟩
   ·exact ⟨f,List.mem_append_left _ bw,rfl⟩
  ·rintro ⟨f,bw,rfl⟩
   rcases List.mem_append.1 bw with bw | bw
   ·exact .inr ⟨f,bw,rfl⟩
   ·have:f=l.getD k f0:=by simpa using bw
    rw [this];exact .inl rfl
theorem JD{α:Type}[DecidableEq α](a:α)(v:Value):∀ (l:List (α×Value)),(h4 a v l).length≤l.length+1
 | []=>Nat.le_refl _
 | p::l=>by
  have:=JD a v l
  unfold h4
  split
  ·simp
  ·simp only [List.length_cons];omega
theorem NR(l:List bO):∀ k,k≤l.length→(lW l k).length≤k
 | 0,_=>Nat.le_refl _
 | k+1,aD=>by
  have h:=NR l k (by omega)
  rw [BV (by omega)]
  have aq:=JD (l.getD k f0).ky (vs (l.getD k f0).vl) (lW l k)
  omega
theorem M7{l:List bO}(h:l.Pairwise (fun f g=>f.tk≤g.tk))(t:Int):((lW (hq l t) (hq l t).length).map (·.1)).mergeSort (fun x y=>decide (x≤y))=keys l t:=by
 obtain ⟨h1,aq⟩:=BU (hq l t) (hq l t).length (Nat.le_refl _)
 refine afT h1 fun x=>?_
 rw [aq,List.take_length,BK,zD h]
 constructor
 ·rintro ⟨f,bw,rfl⟩
  obtain ⟨aQ,bH⟩:=List.mem_filter.1 bw
  exact ⟨f,aQ,by simpa using bH,rfl⟩
 ·rintro ⟨f,bw,aM,rfl⟩
  exact ⟨f,List.mem_filter.2 ⟨bw,by simpa using aM⟩,rfl⟩
end aw
end
section
namespace aw
open Go Go.aJ
structure fD where
 J:aj.dn
 S:ao.aX
 F:List bO
def add(L:fD)(f:bO):fD×Int:=
 if valid f≠0 then (L,valid f)
 else if f.tk<clock L.F then (L,18)
 else if 512≤L.F.length then (L,4)
 else if (aj.app L.J L.S (enc f)).2.2.2≠0 then (⟨(aj.app L.J L.S (enc f)).1,(aj.app L.J L.S (enc f)).2.1,L.F⟩,(aj.app L.J L.S (enc f)).2.2.2)
 else (⟨(aj.app L.J L.S (enc f)).1,(aj.app L.J L.S (enc f)).2.1,L.F++[f]⟩,0)
theorem xl{L:fD}{f:bO}(h:valid f≠0):add L f=(L,valid f):=by unfold add;rw [if_pos h]
theorem uR{L:fD}{f:bO}(h:valid f=0)(aq:f.tk<clock L.F):add L f=(L,18):=by unfold add;rw [if_neg (by omega),if_pos aq]
theorem xm{L:fD}{f:bO}(h:valid f=0)(aq:¬ f.tk<clock L.F)(aQ:512≤L.F.length):add L f=(L,4):=by unfold add;rw [if_neg (by omega),if_neg aq,if_pos aQ]
theorem uS{L:fD}{f:bO}(h:valid f=0)(aq:¬ f.tk<clock L.F)(aQ:¬ 512≤L.F.length)(bH:(aj.app L.J L.S (enc f)).2.2.2≠0):add L f=(⟨(aj.app L.J L.S (enc f)).1,(aj.app L.J L.S (enc f)).2.1,L.F⟩,(aj.app L.J L.S (enc f)).2.2.2):=by unfold add;rw [if_neg (by omega),if_neg aq,if_neg aQ,if_pos bH]
theorem sX{L:fD}{f:bO}(h:valid f=0)(aq:¬ f.tk<clock L.F)(aQ:¬ 512≤L.F.length)(bH:(aj.app L.J L.S (enc f)).2.2.2=0):add L f=(⟨(aj.app L.J L.S (enc f)).1,(aj.app L.J L.S (enc f)).2.1,L.F++[f]⟩,0):=by unfold add;rw [if_neg (by omega),if_neg aq,if_neg aQ,if_neg (by omega)]
def vO(S:ao.aX):fD:=⟨aj.eo S,S,taken (aj.eo S).tx⟩
theorem TD{l:List bO}(h:Good l){f:bO}(bu:¬ f.tk<clock l):∀ g∈l,g.tk≤f.tk:=fun g aO=>by
 unfold clock at bu
 by_cases h0:l=[]
 ·subst h0;cases aO
 rw [if_neg h0] at bu
 have hl:0<l.length:=List.length_pos_iff.2 h0
 obtain ⟨j,a6,rfl⟩:=List.getElem_of_mem aO
 have e:l.getD (l.length-1) f0=l[l.length-1]:=by rw [List.getD_eq_getElem?_getD,List.getElem?_eq_getElem (by omega)];rfl
 rw [e] at bu
 by_cases lu:j=l.length-1
 ·subst lu;omega
 ·have:=List.pairwise_iff_getElem.1 h.srt j (l.length-1) a6 (by omega) (by omega)
  omega
theorem SA{L:fD}(h:Good L.F)(f:bO):Good (add L f).1.F:=by
 by_cases h1:valid f≠0
 ·rw [xl h1];exact h
 by_cases aq:f.tk<clock L.F
 ·rw [uR (by omega) aq];exact h
 by_cases aQ:512≤L.F.length
 ·rw [xm (by omega) aq aQ];exact h
 by_cases bH:(aj.app L.J L.S (enc f)).2.2.2=0
 ·rw [sX (by omega) aq aQ bH]
  exact xL h (by omega) (TD h aq) (by omega)
 ·rw [uS (by omega) aq aQ bH];exact h
def bT:bO:=⟨3,[97],[120]⟩
def b5:bO:=⟨5,[97],[121]⟩
def cY:bO:=⟨4,[98],[122]⟩
def c0:bO:=⟨6,[98],[122]⟩
def dW:aj.dn:=⟨[1],[enc bT],[],2,1,false⟩
def cm:aj.dn:=⟨[1,2],[enc bT,enc b5],[],3,2,false⟩
theorem KB{S:ao.aX}{J:aj.dn}(h:aj.qc S J){t:List UInt8}(aM:t.length≤8000)(bA:J.next≤4096)(aY:¬ aj.room J S<aj.bh t.length) :
  ∃ F,aj.app J S t=(aj.iS J t,F,J.next,0)∧aj.qc F (aj.iS J t)∧F.s.length=S.s.length:=by
 obtain ⟨F,fG,hw,hlen⟩:=aj.UU h aM bA aY
 refine ⟨F,?_,fG,hlen⟩
 rw [aj.rl (by rw [h.g.gZ];simp) ⟨aM,bA⟩ aY (by rw [hw]) (by rw [hw];simp),hw]
theorem down{S:ao.aX}{J:aj.dn}(h:aj.qc S J){t:List UInt8}(aM:t.length≤8000)(bA:J.next≤4096)(aY:¬ aj.room J S<aj.bh t.length) :
  aj.app J (ao.hp S 0) t=(aj.jM J t,⟨S.s,true,0⟩,0,23):=by
 have bB:=h.g.ok
 have he:=h.g.wf.bK
 have bu:=aj.xz aM
 have hl:=aj.p6 J.next t
 have fH:=aY
 unfold aj.room at fH
 have ZK:(ao.hp S 0).s=S.s:=rfl
 have Y5:(ao.hp S 0).off=false:=h.g.still.off
 have fJ:ao.step (ao.hp S 0)=(⟨S.s,true,0⟩,23):=ao.zm rfl
 have o3:aj.c9 (ao.hp S 0) J.en (aj.cH J.next t) 1=(⟨S.s,true,0⟩,23):=by
  rw [aj.sF (by rfl)]
  have e4:((aj.cH J.next t).getD 0 []).length=64:=aj.Qr _ (ao.jE (by omega))
  have L7:ao.check (ao.hp S 0) (J.en+(0:Nat))=0:=ao.pB (by rw [Y5];simp) (by rw [ZK];omega)
  show ao.write (ao.hp S 0) (J.en+(0:Nat)) _=_
  rw [ao.wR L7 e4 (by rw [fJ];show (23:Int)≠0;decide),fJ]
 have ZP:aj.c9 (ao.hp S 0) J.en (aj.cH J.next t) (aj.cH J.next t).length=(⟨S.s,true,0⟩,23):=by
  rw [aj.ID (k:=1) (by rw [o3];show (23:Int)≠0;decide) _ (by omega),o3]
 have MH:aj.gn (ao.hp S 0) J.en (aj.cH J.next t)=(⟨S.s,true,0⟩,23,false):=by
  unfold aj.gn
  rw [ZP,if_pos (by show (23:Int)≠0;decide)]
 rw [aj.nk (by rw [h.g.gZ];simp) ⟨aM,bA⟩ (by show ¬ aj.room J S<_;exact aY) (by rw [MH];show (23:Int)≠0;decide),MH]
theorem aa2:∃ ld gz,aj.app aj.pR (ao.new 8) (enc bT)=(dW,ld,1,0)∧aj.app dW ld (enc b5)=(cm,gz,2,0)∧aj.app cm (ao.hp gz 0) (enc c0)=(aj.jM cm (enc c0),⟨gz.s,true,0⟩,0,23)∧ao.hz ⟨gz.s,true,0⟩ [0]=gz∧aj.eo gz=cm:=by
 have bK:enc bT=[129,3,129,1,97,129,1,120]:=by decide +kernel
 have bV:enc b5=[129,5,129,1,97,129,1,121]:=by decide +kernel
 have iy:enc c0=[129,6,129,1,98,129,1,122]:=by decide +kernel
 have aiL:aj.bh 8=1:=by decide
 have f0:=aj.KC (n:=8) (by decide) (by decide)
 have n8:(ao.new 8).s.length=8:=ao.vR 8
 obtain ⟨ld,h1,g1,iI⟩:=KB f0 (t:=enc bT) (by rw [bK];decide) (by decide) (by rw [bK];decide)
 have aai:aj.iS aj.pR (enc bT)=dW:=by
  have:((aj.cH 1 (enc bT)).length:Int)=1:=by rw [aj.p6,bK];rfl
  unfold aj.iS
  show (⟨[1],[enc bT],[],2,0+((aj.cH 1 (enc bT)).length:Int),false⟩:aj.dn)=dW
  rw [this];rfl
 rw [aai] at h1 g1
 obtain ⟨gz,aq,g2,l2⟩:=KB g1 (t:=enc b5) (by rw [bV];decide) (by decide) (by unfold aj.room;rw [iI,n8,bV];decide)
 have aak:aj.iS dW (enc b5)=cm:=by
  have:((aj.cH 2 (enc b5)).length:Int)=1:=by rw [aj.p6,bV];rfl
  unfold aj.iS
  show (⟨[1,2],[enc bT,enc b5],[],3,1+((aj.cH 2 (enc b5)).length:Int),false⟩:aj.dn)=cm
  rw [this];rfl
 rw [aak] at aq g2
 refine ⟨ld,gz,h1,aq,down g2 (by rw [iy];decide) (by decide) (by unfold aj.room;rw [l2,iI,n8,iy];decide),?_,aj.KD g2⟩
 have aT:=g2.g.still
 have hm:=ao.NK [0] gz.s 0 aT.dt
 unfold ao.hz
 rw [hm]
 have cB:=aT.off
 have cn:=aT.left
 cases gz
 simp_all
end aw
namespace aw
theorem ago:taken aj.pR.tx=[]:=rfl
theorem agp:taken cm.tx=[bT,b5]:=by decide +kernel
theorem v1:valid bT=0∧valid b5=0∧valid cY=0∧valid c0=0:=by decide
theorem Sz(J:aj.dn)(S:ao.aX):add ⟨J,S,[bT,b5]⟩ cY=(⟨J,S,[bT,b5]⟩,18):=uR v1.2.2.1 (by show cY.tk<clock [bT,b5];decide)
theorem GG:keys [bT,b5] 4=[[97]]:=by decide
theorem aaK:dN [] 9 [97]=([],false):=rfl
theorem aaL:dN [bT,b5] 2 [97]=([],false):=by decide
theorem aaM:dN [bT,b5] 4 [97]=([120],true):=by decide
theorem aaN:dN [bT,b5] 5 [97]=([121],true):=by decide
end aw
end
section
namespace Go.aJ
open Go.ChangeShapes Go.WideShapes Go.ChangeAt Go.RowKit
def hv:dO aw.bO:=mg aw.j4 3 aw.jK aw.jP aw.j5
section
variable {P:Program}{n:Nat}{w0:World}{zs:List aP}{hs:List av}{L:List (Nat×Value)}{d:Option Tmp}{ty t bZ:TypeId}{pos:String}{af:Array Edge}{g:Option (Nat×Bool)}{x y:Operand}{u v:Value}{z:aP}{xs:List aw.bO}
theorem Cj[aW]{bM:TypeDesc}{bp:Nat}{zv:Value}(aM:a1 P t bM 3 bp zv){k:Nat}(U:bg hv z v xs)(bj:gp w0 zs z)(aq:aU L x=some (c6 v (k*3)))(aT:eV bM=true)(aD:k<xs.length) :
  bL P n w0 zs hs L ⟨d,.load t x,ty,pos,af,g⟩ (.agg [az (xs.getD k aw.f0).tk,vs (xs.getD k aw.f0).ky,vs (xs.getD k aw.f0).vl].toArray):=He aw.f0 aM U bj aq aT (by decide) aD
theorem yV[aW]{bM:TypeDesc}{s bp:Nat}{zv:Value}(aM:a1 P t bM s bp zv){k:Nat}(U:bg hv z v xs)(bj:gp w0 zs z)(aq:aU L x=some (c6 v (k*3+0)))(aT:eV bM=false)(aD:k<xs.length) :
  bL P n w0 zs hs L ⟨d,.load t x,ty,pos,af,g⟩ (az (xs.getD k aw.f0).tk):=uj aw.f0 aM U bj aq aT aD rfl
theorem Ck[aW]{bM:TypeDesc}{s bp:Nat}{zv:Value}(aM:a1 P t bM s bp zv){k:Nat}(U:bg hv z v xs)(bj:gp w0 zs z)(aq:aU L x=some (c6 v (k*3+1)))(aT:eV bM=false)(aD:k<xs.length) :
  bL P n w0 zs hs L ⟨d,.load t x,ty,pos,af,g⟩ (vs (xs.getD k aw.f0).ky):=uj aw.f0 aM U bj aq aT aD rfl
theorem ady[aW]{bM:TypeDesc}{s bp:Nat}{zv:Value}(aM:a1 P t bM s bp zv){k:Nat}(U:bg hv z v xs)(bj:gp w0 zs z)(aq:aU L x=some (c6 v (k*3+2)))(aT:eV bM=false)(aD:k<xs.length) :
  bL P n w0 zs hs L ⟨d,.load t x,ty,pos,af,g⟩ (vs (xs.getD k aw.f0).vl):=uj aw.f0 aM U bj aq aT aD rfl
theorem p2[aW]{fs:Array Field}{s bp:Nat}{zv:Value}(aM:a1 P t (.struct fs) s bp zv){k:Nat}(U:bg hv z v xs)(aq:aU L x=some (c6 v (k*3)))(aD:k<xs.length){j:Nat}{fd:Field}{s':Nat}(bw:fs[j]?=some fd)(dZ:(P.info? fd.type).map (·.size)=some (s'+1)) :
  bL P n w0 zs hs L ⟨d,.fieldAddr t x j,ty,pos,af,g⟩ (c6 v (k*3+fd.offset)):=Cg (E:=hv) aM U aq aD bw dZ
theorem T4(a b:aw.bO):decide (a=b)=(decide (a.tk=b.tk)&&(decide (a.ky=b.ky)&&decide (a.vl=b.vl))):=by
 obtain ⟨fl,a2,a3⟩:=a
 obtain ⟨b6,dk,kz⟩:=b
 simp only [aw.bO.mk.injEq]
 by_cases h1:fl=b6 <;> by_cases aq:a2=dk <;> by_cases aQ:a3=kz <;> simp [h1,aq,aQ]
theorem ae9[aW]{f1 f2 f3:Field}{bp:Nat}{zv:Value}(aM:a1 P t (.struct #[f1,f2,f3]) 3 bp zv){ti ts:TypeId}{b6 dk:Nat}{hR z2:Value}(aG:a1 P ti (.int .i64) 1 b6 hR)(tX:a1 P ts .string 1 dk z2)
  (h1 : f1.type = ti ∧ f1.offset = 0 ∧ f1.name ≠ "_") (aq : f2.type = ts ∧ f2.offset = 1 ∧ f2.name ≠ "_") (aQ : f3.type = ts ∧ f3.offset = 2 ∧ f3.name ≠ "_")
  (bN:P.stoodInHeld t=false) (a b:aw.bO) (w:World):(Op.equalIn 10000 t (.agg [az a.tk,vs a.ky,vs a.vl].toArray) (.agg [az b.tk,vs b.ky,vs b.vl].toArray)).run P w=.ok (decide (a=b)) w:=by
 have lU:P.fieldsOf t=#[f1,f2,f3]:=by simp [Program.fieldsOf,aM.und]
 rw [run_equalIn_agg w 9999 t _ _ (by rw [lU];exact aM.und) bN,lU]
 have iM:∀ (q:aw.bO) w,(part ti [az q.tk,vs q.ky,vs q.vl].toArray 0).run P w=.ok (az q.tk) w:=fun q=>Cc aG rfl rfl
 have jc:∀ (q:aw.bO) w,(part ts [az q.tk,vs q.ky,vs q.vl].toArray 1).run P w=.ok (vs q.ky) w:=fun q=>Cc tX rfl rfl
 have jd:∀ (q:aw.bO) w,(part ts [az q.tk,vs q.ky,vs q.vl].toArray 2).run P w=.ok (vs q.vl) w:=fun q=>Cc tX rfl rfl
 have bK:∀ (q r:Int) w,(Op.equalIn 9999 ti (az q) (az r)).run P w=.ok (decide (q=r)) w:=fun q r w=>by
  have:=run_equalIn_int w 9998 ti .i64 .i64 q r aG.und
  rw [show (q == r)=decide (q=r) from rfl] at this
  exact this
 have iy:∀ (s r:List UInt8) w,(Op.equalIn 9999 ts (vs s) (vs r)).run P w=.ok (decide (s=r)) w:=fun s r w=>by
  have:=run_equalIn_string w 9998 ts ⟨s.toArray⟩ ⟨r.toArray⟩ tX.und
  rw [show ((⟨s.toArray⟩:ByteArray).toList == (⟨r.toArray⟩:ByteArray).toList)=decide (s=r) by rw [ByteArray.toList_eq,ByteArray.toList_eq,Bool.eq_iff_iff];simp] at this
  exact this
 rw [T4]
 simp only [Op.eqFields,h1,aq,aQ,ne_eq,not_false_eq_true,if_true,Sem.run_bind,iM,jc,jd,bK,iy,Result.andThen_ok]
 generalize decide (a.tk=b.tk)=bT
 cases bT
 ·simp [Sem.run_pure]
 simp only [Bool.not_true,Bool.false_eq_true,if_false,Op.eqFields,aq,aQ,ne_eq,not_false_eq_true,if_true,Sem.run_bind,jc,iy,Result.andThen_ok,Bool.true_and]
 generalize decide (a.ky=b.ky)=b5
 cases b5
 ·simp [Sem.run_pure]
 simp only [Bool.not_true,Bool.false_eq_true,if_false,Op.eqFields,aQ,ne_eq,not_false_eq_true,if_true,Sem.run_bind,jd,iy,Result.andThen_ok,Bool.true_and]
 generalize decide (a.vl=b.vl)=cY
 cases cY
 ·simp [Sem.run_pure]
 simp [Sem.run_pure]
theorem adQ[aW]{f1 f2 f3:Field}{bp:Nat}{zv:Value}(aM:a1 P t (.struct #[f1,f2,f3]) 3 bp zv){ti ts:TypeId}{b6 dk:Nat}{hR z2:Value}(aG:a1 P ti (.int .i64) 1 b6 hR)(tX:a1 P ts .string 1 dk z2)
  (h1 : f1.type = ti ∧ f1.offset = 0 ∧ f1.name ≠ "_") (aq : f2.type = ts ∧ f2.offset = 1 ∧ f2.name ≠ "_") (aQ : f3.type = ts ∧ f3.offset = 2 ∧ f3.name ≠ "_")
  (aO:P.eqGuardType P.depth t=false) (bN:P.stoodInHeld t=false) {a b:aw.bO}(aL:aU L x=some (.agg [az a.tk,vs a.ky,vs a.vl].toArray)) (cS:aU L y=some (.agg [az b.tk,vs b.ky,vs b.vl].toArray)) :
  bL P n w0 zs hs L ⟨d,.binOp .neq t x y bZ,ty,pos,af,g⟩ (.bool (!decide (a=b))):=
 e0 aL cS (fun w=>run_eqGuard_agg w _ _ _ _ _ _ aO) fun w=>by
  rw [run_neq_struct,ae9 aM aG tX h1 aq aQ bN a b w]
  rfl
end
theorem xi{z:aP}{v:Value}{xs:List aw.bO}(U:bg hv z v xs):∀ x∈xs,aw.jK x:=IT U
end Go.aJ
end
section
namespace Go.aJ
open Go.ChangeShapes Go.WideShapes Go.ChangeAt Go.RowKit
section
variable {H:Type}{enc:TypeId×Value→H}{P:Program}{W:World}{t:TypeId}
end
end Go.aJ
end
section
namespace Go.aJ
open Go.ChangeShapes Go.WideShapes Go.ChangeAt Go.RowKit
section
variable {H:Type}{enc:TypeId×Value→H}{P:Program}{W:World}{t:TypeId}
end
end Go.aJ
end
section
namespace Go.aJ
open Go Go.Sem Go.RowKit Go.Shelf Go.Proofs
theorem W4{P:Program}{ρ:Ren}(L:Lays8.n4 P ρ)(i0:TypeInfo)(z:Value)(eu:P.info? (ρ.t 25)=some i0)(vJ:i0.zero=some z)(bC:i0.size=1)(XX:i0.bytes=1)(Gp:z.cells.size=1)(n:Nat)(bA:n≤140737488355328)(w:World) :
  ch P (ρ.f 4) [.slice none 0 0,az (n:Int)] w (fun v zs hs=>zs=[]∧hs=[.row v (ρ.t 25) 1 0 []]):=by
 by_cases h0:n=0
 ·subst h0
  refine Calls.mono (Any8.slices_Grow_room L none 0 0 0 w (Nat.le_refl _) (by decide) (by decide) (by decide)) fun e w' ⟨he,hw⟩=>?_
  subst hw
  exact ⟨_,[],_,he,(aC.start _).hV (ρ.t 25) 1,rfl,rfl⟩
 ·refine Calls.mono (Any8.slices_Grow_grow L i0 z eu vJ (by omega) none 0 0 n [] w (Nat.le_refl _) (by omega) (by rw [XX];omega) (by omega) (by simp) (fun _=>rfl) (fun a a7=>by cases a7)) fun e w' ⟨he,hw⟩=>?_
  obtain ⟨G,fG⟩:∃ G,G=grownCap w (0+n) 0 (ρ.t 25):=⟨_,rfl⟩
  have mu:0+n≤G:=by rw [fG];exact grownCap_ge w _ _ _
  have hle:G≤maxLen:=by rw [fG];exact grownCap_le_maxLen w (0+n) 0 (ρ.t 25) (by unfold maxLen;omega)
  rw [← fG] at he hw
  obtain ⟨cs,ig⟩:∃ cs:List Value,cs.toArray=([]:List Value).toArray++Builtin.zeroCells z.cells (0+n-0)++Builtin.zeroCells z.cells (G-(0+n)):=⟨_,Array.toArray_toList⟩
  have fb:cs.length=G*1:=by
   have:=congrArg Array.size ig
   simp only [Array.size_append,List.size_toArray,size_zeroCells,Gp,List.length_nil] at this
   omega
  have fJ:=(((aC.start w).drew (w.drew).drawn)).newRow (ρ.t 25) cs 1 0 G fb (Nat.zero_le _) hle
  refine ⟨_,[],_,he,?_,rfl,rfl⟩
  rw [hw,← ig]
  exact fJ
theorem W5{P:Program}{ρ:Ren}(L:Lays8.n4 P ρ){bM:TypeDesc}{z:Value}(aM:a1 P (ρ.t 25) bM 1 1 z)(Gp:z.cells.size=1)(n:Nat)(bA:n≤140737488355328)(w:World) :
  ch P (ρ.f 4) [.slice none 0 0,az (n:Int)] w (fun v zs hs=>zs=[]∧hs=[.row v (ρ.t 25) 1 0 []]):=by
 obtain ⟨i,h1,aq,aQ,bH⟩:=aM.info
 exact W4 L i z h1 bH aq aQ Gp n bA w
theorem acG{α:Type}{E:dO α}{base:Nat}{w:World}{e:TypeId}{v a b c:Value}(h:(av.row v e 1 3 [a,b,c]).ok base w){x y z:List α}(h1:bg E (b1 w) a x)(aq:bg E (b1 w) b y)(aQ:bg E (b1 w) c z):bg (u6 E) (b1 w) v [x,y,z]:=
  G2 (E:=u6 E) h rfl (by decide) fun i q cn=>by
    have one:∀ (u:Value) (j:Nat) (r:Value),[u][j]?=some r→j=0∧r=u:=fun u j r a6=>by
      cases j with
      | zero=>simp at a6;exact ⟨rfl,a6.symm⟩
      | succ j=>simp at a6
    match i,cn with
    | 0,cn=>obtain rfl:x=q:=by simpa using cn
            exact ⟨[a],⟨a,rfl,h1⟩,fun j u hu=>by obtain ⟨rfl,rfl⟩:=one _ _ _ hu;rfl⟩
    | 1,cn=>obtain rfl:y=q:=by simpa using cn
            exact ⟨[b],⟨b,rfl,aq⟩,fun j u hu=>by obtain ⟨rfl,rfl⟩:=one _ _ _ hu;rfl⟩
    | 2,cn=>obtain rfl:z=q:=by simpa using cn
            exact ⟨[c],⟨c,rfl,aQ⟩,fun j u hu=>by obtain ⟨rfl,rfl⟩:=one _ _ _ hu;rfl⟩
    | i+3,cn=>simp at cn
end Go.aJ
end
section
namespace aw
open Go Go.aJ
theorem xw{xs:List (List UInt8)}{k:Nat}(h:k<xs.length):(xs.take (k+1)).flatten=(xs.take k).flatten++xs.getD k []:=by
 rw [List.take_add_one,List.flatten_append,List.getD_eq_getElem?_getD,List.getElem?_eq_getElem h]
 simp
theorem D0{xs:List (List UInt8)}{m:Nat}(h:∀ x∈xs,x.length≤m):∀ k,(xs.take k).flatten.length≤k*m
 | 0=>by simp
 | k+1=>by
  by_cases aD:k<xs.length
  ·rw [xw aD,List.length_append]
   have h1:=D0 h k
   have aq:(xs.getD k []).length≤m:=h _ (by rw [List.getD_eq_getElem?_getD,List.getElem?_eq_getElem aD];exact List.getElem_mem aD)
   rw [Nat.add_mul];omega
  ·rw [List.take_of_length_le (by omega)]
   have h1:=D0 h k
   rw [List.take_of_length_le (by omega)] at h1
   rw [Nat.add_mul];omega
theorem UL(f:bO):[aF.int f.tk,aF.bytes f.ky,aF.bytes f.vl].flatten=enc f:=by unfold enc;simp
theorem uH{a b:Prop}{c:Prop}(h:(¬ a∧¬ b)∧¬ c):¬ ((a∨b)∨c):=by
 rintro ((h1 | h1) | h1)
 ·exact h.1.1 h1
 ·exact h.1.2 h1
 ·exact h.2 h1
theorem Iv{l:List UInt8}:(l.length:Int)=0↔l=[]:=by rw [← List.length_eq_zero_iff];omega
def at_(b:List UInt8):Nat→Int
 | 0=>(aF.getInt b).2.1
 | 1=>(aF.getInt b).2.1+(d1 b).2.1
 | _=>(aF.getInt b).2.1+(d1 b).2.1+(d2 b).2.1
def AJ(b:List UInt8):Nat→bO
 | 0=>⟨(aF.getInt b).1,[],[]⟩
 | 1=>⟨(aF.getInt b).1,(d1 b).1,[]⟩
 | _=>pD b
theorem xB{b:List UInt8}(h:(d1 b).2.2=0):1≤(d1 b).2.1∧(aF.getInt b).2.1+(d1 b).2.1≤b.length:=by
 have h1:=aF.xI b
 have aq:=aF.LI (b:=b.drop (aF.getInt b).2.1.toNat) h
 rw [List.length_drop] at aq
 have aQ:(d1 b).2.1=(aF.ef (b.drop (aF.getInt b).2.1.toNat)).2.1:=rfl
 rw [aQ];omega
theorem D6{b:List UInt8}(h:(d1 b).2.2=0)(iA:(d2 b).2.2=0):1≤(d2 b).2.1∧(aF.getInt b).2.1+(d1 b).2.1+(d2 b).2.1≤b.length:=by
 have h1:=aF.xI b
 have bH:=xB h
 have aq:=aF.LI (b:=b.drop ((aF.getInt b).2.1+(d1 b).2.1).toNat) iA
 rw [List.length_drop] at aq
 have aQ:(d2 b).2.1=(aF.ef (b.drop ((aF.getInt b).2.1+(d1 b).2.1).toNat)).2.1:=rfl
 rw [aQ];omega
theorem SN{b:List UInt8}{k:Nat}(h1:0<k→(d1 b).2.2=0)(aq:1<k→(d2 b).2.2=0):0≤at_ b k∧at_ b k≤b.length:=by
 have h:=aF.xI b
 match k with
 | 0=>exact ⟨h.1,h.2.1⟩
 | 1=>
  have aQ:=xB (h1 (by decide))
  show 0≤(aF.getInt b).2.1+(d1 b).2.1∧(aF.getInt b).2.1+(d1 b).2.1≤b.length
  omega
 | k+2=>
  have aQ:=xB (h1 (by omega))
  have bH:=D6 (h1 (by omega)) (aq (by omega))
  show 0≤(aF.getInt b).2.1+(d1 b).2.1+(d2 b).2.1∧(aF.getInt b).2.1+(d1 b).2.1+(d2 b).2.1≤b.length
  omega
theorem SO{b:List UInt8}(h:(aF.ef (b.drop (at_ b 0).toNat)).2.2=0):1≤(aF.ef (b.drop (at_ b 0).toNat)).2.1∧at_ b 0+(aF.ef (b.drop (at_ b 0).toNat)).2.1≤b.length:=xB h
theorem SP{b:List UInt8}(h0:(d1 b).2.2=0)(h:(aF.ef (b.drop (at_ b 1).toNat)).2.2=0):1≤(aF.ef (b.drop (at_ b 1).toNat)).2.1∧at_ b 1+(aF.ef (b.drop (at_ b 1).toNat)).2.1≤b.length:=D6 h0 h
theorem WX(b:List UInt8) : -9223372036854775808≤(aF.getInt b).1∧(aF.getInt b).1≤9223372036854775807:=by
 rcases aF.LJ b with h | ⟨h,_⟩
 ·have:=aF.ET (b:=b) (n:=(aF.getInt b).1) (k:=(aF.getInt b).2.1) (by rw [← h])
  exact this.1
 ·rw [h];dsimp only;omega
theorem Ko{b:List UInt8}(au:b.length≤140737488355328):jK (pD b):=by
 have h1:=aF.LH (b.drop (aF.getInt b).2.1.toNat)
 have aq:=aF.LH (b.drop ((aF.getInt b).2.1+(d1 b).2.1).toNat)
 rw [List.length_drop] at h1 aq
 refine ⟨WX b,?_,?_⟩
 ·show (aF.ef (b.drop (aF.getInt b).2.1.toNat)).1.length≤_;omega
 ·show (aF.ef (b.drop ((aF.getInt b).2.1+(d1 b).2.1).toNat)).1.length≤_;omega
end aw
end
section
namespace aw
open Go Go.aJ
theorem af5{l:List bO}(h:l.Pairwise (fun f g=>f.tk≤g.tk)){t:Int}{i j:Nat}(YJ:i≤j)(a6:j<l.length)(aG:t<(l.getD i f0).tk):t<(l.getD j f0).tk:=by
 by_cases e:i=j
 ·subst e;exact aG
 have:=List.pairwise_iff_getElem.1 h i j (by omega) a6 (by omega)
 rw [List.getD_eq_getElem?_getD,List.getElem?_eq_getElem (by omega)] at aG ⊢
 simp only [Option.getD_some] at aG ⊢
 omega
theorem JV{l:List bO}(h:(l.length:Int)=0):clock l=0:=by
 have:l=[]:=List.length_eq_zero_iff.1 (by omega)
 unfold clock;rw [if_pos this]
theorem JW{l:List bO}(h:¬ (l.length:Int)=0):clock l=(l.getD ((l.length:Int)-1).toNat f0).tk:=by
 have:¬ l=[]:=fun e=>h (by rw [e];rfl)
 unfold clock;rw [if_neg this,show ((l.length:Int)-1).toNat=l.length-1 by omega]
theorem C1{f:bO}(h:valid f=0):jK f:=by
 obtain ⟨h1,_,aQ,bH⟩:=C0 h
 exact ⟨⟨by omega,by omega⟩,by omega,by omega⟩
theorem Nc{l:List bO}{t:Int}{k:List UInt8}{i:Nat}(aG:i<l.length)(h:dN l t k=dN (l.take (i+1)) t k):(jv (l.getD i f0) t k=true→dN l t k=((l.getD i f0).vl,true))∧(jv (l.getD i f0) t k=false→dN l t k=dN (l.take i) t k):=by
 rw [vN aG] at h
 constructor
 ·intro aq;rw [h,if_pos aq]
 ·intro aq;rw [h,if_neg (by rw [aq];simp)]
end aw
end
section
namespace aw
open Go Go.aJ
def bh(l:List bO)(t:Int):Nat:=l.countP fun f=>decide (f.tk≤t)
theorem Az(l:List bO)(t:Int):bh l t≤l.length:=List.countP_le_length
theorem TP{l:List bO}(h:l.Pairwise (fun f g=>f.tk≤g.tk))(t:Int):∀ k:Int,0≤k→k<l.length→decide (t<(l.getD k.toNat f0).tk)=decide ((bh l t:Int)≤k):=fun k h0 h1=>by
 obtain ⟨m,rfl⟩:∃ m:Nat,k=(m:Int):=⟨k.toNat,by omega⟩
 rw [Int.toNat_natCast,decide_eq_decide]
 have hm:m<l.length:=by omega
 constructor
 ·intro aq
  apply Classical.byContradiction
  intro aQ
  have gL:m<bh l t:=by omega
  have e:l.getD m f0∈hq l t:=by
   unfold hq
   rw [List.getD_eq_getElem?_getD,List.getElem?_eq_getElem hm]
   exact List.mem_take_iff_getElem.2 ⟨m,by unfold bh at gL;omega,rfl⟩
  rw [zD h] at e
  have:=(List.mem_filter.1 e).2
  simp only [decide_eq_true_eq] at this
  omega
 ·intro aq
  apply Classical.byContradiction
  intro aQ
  have bH:l.countP (fun f=>decide (f.tk≤t))≥(l.take (m+1)).countP (fun f=>decide (f.tk≤t)):=by
   conv=>lhs;rw [← List.take_append_drop (m+1) l]
   rw [List.countP_append];omega
  have cN:(l.take (m+1)).countP (fun f=>decide (f.tk≤t))=m+1:=by
   rw [List.countP_eq_length.2 (fun f bw=>?_),List.length_take]
   ·omega
   ·obtain ⟨i,aG,rfl⟩:=List.getElem_of_mem bw
    rw [List.length_take] at aG
    rw [List.getElem_take]
    simp only [decide_eq_true_eq]
    apply Classical.byContradiction
    intro dq
    have:=af5 h (t:=t) (i:=i) (j:=m) (by omega) hm (by rw [List.getD_eq_getElem?_getD,List.getElem?_eq_getElem (by omega)];simp only [Option.getD_some];omega)
    omega
  unfold bh at aq
  omega
end aw
namespace Go.aJ
theorem CX{z:aP}{v:Value}{l:List aw.bO}{t:Int}(au:bg hv z v l):bg hv z (k5 v 3 0 (aw.bh l t)) (aw.hq l t):=
 bg.cut au ⟨Nat.zero_le _,aw.Az l t⟩
theorem Q3{l:List aw.bO}{t:Int}:(aw.hq l t).length≤l.length:=by unfold aw.hq;rw [List.length_take];omega
end Go.aJ
end
section
namespace aw
open Go Go.aJ
theorem agT{l:List bO}{t:Int}{f:bO}(h:f∈hq l t):f∈l:=List.mem_of_mem_take h
theorem M1{l:List bO}(h:∀ f∈l,jK f)(t:Int):∀ i∈(lW (hq l t) (hq l t).length).map (·.1),i.length≤maxLen:=fun i aG=>by
 obtain ⟨f,bw,rfl⟩:=((BU (hq l t) (hq l t).length (Nat.le_refl _)).2 i).1 aG
 rw [List.take_length] at bw
 have:=(h f (agT bw)).2.1
 unfold maxLen;omega
theorem M0{l:List bO}(hl:l.length≤4096)(t:Int):(lW (hq l t) (hq l t).length).length≤4096:=by
 have h1:=NR (hq l t) (hq l t).length (Nat.le_refl _)
 have aq:=Q3 (l:=l) (t:=t)
 omega
theorem M3(l:List bO)(t:Int):((lW (hq l t) (hq l t).length).map (·.1)).Nodup:=(BU _ _ (Nat.le_refl _)).1
def JP(l:List bO)(k:Nat):List Value:=[az ((l.length:Int)-1-k),.agg [az (l.getD ((l.length:Int)-1-k).toNat f0).tk,vs (l.getD ((l.length:Int)-1-k).toNat f0).ky,vs (l.getD ((l.length:Int)-1-k).toNat f0).vl].toArray]
theorem aau{l:List bO}{t:Int}{q:List UInt8}{k:Nat}(aD:k<l.length)(h:dN l t q=dN (l.take (l.length-k)) t q)(fB:(l.getD ((l.length:Int)-1-k).toNat f0).ky=q∧(l.getD ((l.length:Int)-1-k).toNat f0).tk≤t) :
  dN l t q=((l.getD ((l.length:Int)-1-k).toNat f0).vl,true):=by
 have e:((l.length:Int)-1-k).toNat=l.length-1-k:=by omega
 rw [e] at fB ⊢
 refine (Nc (l:=l) (i:=l.length-1-k) (by omega) (by rw [show l.length-1-k+1=l.length-k by omega];exact h)).1 ?_
 unfold jv;rw [decide_eq_true fB.1,decide_eq_true fB.2];rfl
theorem aav{l:List bO}{t:Int}{q:List UInt8}{k:Nat}(aD:k<l.length)(h:dN l t q=dN (l.take (l.length-k)) t q)(fB:¬ ((l.getD ((l.length:Int)-1-k).toNat f0).ky=q∧(l.getD ((l.length:Int)-1-k).toNat f0).tk≤t)) :
  dN l t q=dN (l.take (l.length-(k+1))) t q:=by
 have e:((l.length:Int)-1-k).toNat=l.length-1-k:=by omega
 rw [e] at fB
 have aq:=(Nc (l:=l) (i:=l.length-1-k) (by omega) (by rw [show l.length-1-k+1=l.length-k by omega];exact h)).2 (by
  unfold jv
  by_cases h1:(l.getD (l.length-1-k) f0).ky=q
  ·rw [decide_eq_false (p:=_≤_) (fun aQ=>fB ⟨h1,aQ⟩),Bool.and_false]
  ·rw [decide_eq_false h1,Bool.false_and])
 rw [aq,show l.length-1-k=l.length-(k+1) by omega]
end aw
end
section
namespace Go.aJ
theorem uQ.mono{P:Program}{Y:Value}{vs:List Value}{I:World→Prop}{J q7:Bool→World→Prop}(h:uQ P Y vs I J)(a6:∀ b w,J b w→q7 b w):uQ P Y vs I q7:=fun w hw=>by
 obtain ⟨l,f,tmps,asg,body,h1,aq,aQ⟩:=h w hw
 refine ⟨l,f,tmps,asg,body,h1,aq,fun m=>?_⟩
 have:=aQ m
 exact RoundIn.mono this fun e w' ⟨b,au,ej⟩=>⟨b,au,a6 b w' ej⟩
end Go.aJ
end
section
namespace aw
open Go Go.aJ
theorem agt(l:List (List UInt8))(i:Nat):∀ j,i≤j→j≤l.length→∃ t,(fe l j).1=(fe l i).1++t:=by
  intro j YJ
  induction j with
  | zero=>intro _;obtain rfl:i=0:=by omega
          exact ⟨[],by simp⟩
  | succ j ih=>
    intro a6
    by_cases h:i=j+1
    · subst h;exact ⟨[],by simp⟩
    obtain ⟨t,aM⟩:=ih (by omega) (by omega)
    rw [zw (by omega)]
    unfold uC
    split
    · exact ⟨t++[(dec (l.getD j [])).1],by rw [aM,List.append_assoc]⟩
    · exact ⟨t,aM⟩
def CR(l:List (List UInt8))(k:Nat):List Value:=[.agg [az ((taken l).getD k f0).tk,vs ((taken l).getD k f0).ky,vs ((taken l).getD k f0).vl].toArray]
theorem agr{l:List (List UInt8)}{i:Nat}(aG:i<l.length)(h:((dec (l.getD i [])).2=0∧(fe l i).2≤(dec (l.getD i [])).1.tk)∧(fe l i).1.length<512) :
  (fe l i).1.length<(taken l).length∧CR l (fe l i).1.length=[.agg [az (dec (l.getD i [])).1.tk,vs (dec (l.getD i [])).1.ky,vs (dec (l.getD i [])).1.vl].toArray]∧(fe l (i+1)).1.length=(fe l i).1.length+1∧(fe l (i+1)).2=(dec (l.getD i [])).1.tk:=by
 have e:=H9 h
 rw [← zw aG] at e
 obtain ⟨t,aM⟩:=agt l (i+1) l.length (by omega) (Nat.le_refl _)
 rw [e] at aM
 have aq:taken l=(fe l i).1++[(dec (l.getD i [])).1]++t:=aM
 refine ⟨by rw [aq];simp,?_,by rw [e];simp,by rw [e]⟩
 have aQ:(taken l).getD (fe l i).1.length f0=(dec (l.getD i [])).1:=by
  rw [aq,List.getD_eq_getElem?_getD,List.append_assoc,List.getElem?_append_right (Nat.le_refl _)];simp
 unfold CR
 rw [aQ]
theorem QI{l:List (List UInt8)}{i:Nat}(aG:i<l.length)(h:¬ (((dec (l.getD i [])).2=0∧(fe l i).2≤(dec (l.getD i [])).1.tk)∧(fe l i).1.length<512)):fe l (i+1)=fe l i:=by
 rw [zw aG,QM h]
theorem QH(l:List (List UInt8)){k:Nat}(aD:k≤l.length):(fe l k).1.length≤512∧0≤(fe l k).2∧(fe l k).2≤1048576:=by
 obtain ⟨h1,_,aQ,bH⟩:=H8 l k aD
 exact ⟨h1.len,aQ,bH⟩
theorem ags{l:List bO}{k:Nat}(aD:k<l.length):(l.take (k+1)).flatMap j4=(l.take k).flatMap j4++[az (l.getD k f0).tk,vs (l.getD k f0).ky,vs (l.getD k f0).vl]:=by
 rw [aj.nb (d:=f0) aD,List.flatMap_append];simp [j4]
end aw
end
section
namespace Go.aJ
section
variable {P:Program}{n:Nat}{w0:World}{zs:List aP}{L:List (Nat×Value)}
theorem Wo{f:FuncId}{fn:Func}{cd:Code}(bw:P.funcs[f]?=some fn)(au:fn.body=some cd){k:Nat}(aD:fn.ntmps=k){args:List Value}(bA:args.length≤k){w0:World}{bP:List aP}{own:List av}{R:Value→List aP→List av→Prop}
  (h:∀ (cw:List av) a w,Fr k (oS 0 args) a→aC w0 bP (own++cw) w→cd.wp P (bodyPostM (gA none) 0 P fn fun e w'=>∃ v dj cV,e=.returned v∧aC w0 (dj++bP) (cV++cw) w'∧R v dj cV) a w):eH P f args w0 bP own R:=by
 subst aD
 intro cw w U
 exact (callsIn_wide (n:=0)).1 (callsIn_of_wp_marks bw au trivial ((wpIn_wide (n:=0)).2 (h cw _ w (Fr.enter _ _ bA) U)))
theorem Wr[I:aW]{D:Nat}{dD:aP}{fn:Func}{w:World}{hs:List av}{a:Act}{R:Value→List aP→List av→Prop}{rs:List ResultVar}{bP:List aP}{cw:List av}(mn:I.ds=[{ target:=.collected D,args:=#[] }])(dh:dD=dU D (.deferred (some [])))(bj:dD∈zs)(aq:∀ z∈bP,z∈zs)(bA:∀ z∈bP,z D=none)(lx:fn.results=rs.toArray)(ab:Fr n L a)(U:aC w0 zs hs w){vs:List Value}(bx:ri P L hs rs vs)(cV:List av)(aQ:(cV++cw).Sublist hs)(fH:R (uw vs) [] cV) :
  bodyPostM (gA none) 0 P fn (fun e w'=>∃ v dj cV,e=.returned v∧aC w0 (dj++bP) (cV++cw) w'∧R v dj cV) .ret a w:=by
 have fO:a.defers=[{ target:=.collected D,args:=#[] }]:=ab.nodef.trans mn
 subst dh
 obtain ⟨au,ju⟩:=U.Qu (o':=.deferred none) bj aq bA
 show LeavesInM (gA none) 0 P fn a.tmps _ a.defers .returning w
 rw [fO]
 refine ⟨by simp,.inl ⟨D,_,rfl,run_takeDeferred au,?_⟩⟩
 exact ⟨_,sw lx ab ju bx,_,[],cV,rfl,ju.ak (List.Sublist.refl _) aQ,fH⟩
theorem l9.WA{f:FuncId}{args:List Value}{bP:List aP}{b8 ra rb:av}{cw:List av}{J:av×av→Prop}(h:l9 P f args w0 bP [b8,ra,rb] cw (fun _ dj cV=>dj=[]∧∃ r:av×av,cV=[b8,r.1,r.2]∧J r))(w:World)(U:aC w0 bP (b8::ra::rb::cw) w) :
  Calls P f args.toArray w fun e w'=>(∃ v,e=.returned v)∧∃ r:av×av,J r∧aC w0 bP (b8::r.1::r.2::cw) w':=
 Calls.mono (h w U) fun e w' ⟨v,dj,cV,he,ju,h1,r,aq,aQ⟩=>by
  subst h1 aq
  exact ⟨⟨v,he⟩,r,aQ,ju⟩
end
end Go.aJ
end
section
namespace aw
open Go Go.aJ
def Dw(B:Value→av)(W:Value→List bO→av)(J:aj.dn→av→av→av→av→Prop)(D:ao.aX→av→av→av→av→Prop)(L:fD)(val:Value):Value→List aP→List av→Prop:=fun r zs hs=>
 r=val∧zs=[]∧∃ fv cj ck cr ct bK bV fx iy,hs=[B fv,W fv L.F,cj,ck,cr,ct,bK,bV,fx,iy]∧J L.J cj ck cr ct∧D L.S bK bV fx iy
theorem yB{B:Value→av}{W:Value→List bO→av}{J:aj.dn→av→av→av→av→Prop}{D:ao.aX→av→av→av→av→Prop}{L L':fD}{v dd r:Value}{zs:List aP}{hs:List av}(h:Dw B W J D L v r zs hs)(bK:L=L')(bV:v=dd):Dw B W J D L' dd r zs hs:=by subst bK bV;exact h
theorem En(l:List bO)(f:bO):l.flatMap j4++[az f.tk,vs f.ky,vs f.vl]=(l++[f]).flatMap j4:=by rw [List.flatMap_append];simp [j4]
theorem GJ(l:List bO)(f:bO):l.length+1=(l++[f]).length:=by simp
end aw
end
section
namespace aw
open Go Go.aJ
def ko:fD:=⟨aj.pR,ao.new 8,[]⟩
def jY(ld:ao.aX):fD:=⟨dW,ld,[bT]⟩
def jZ(gz:ao.aX):fD:=⟨cm,gz,[bT,b5]⟩
def kp(gz:ao.aX):fD:=⟨cm,ao.hp gz 0,[bT,b5]⟩
def lb(gz:ao.aX):fD:=⟨aj.jM cm (enc c0),⟨gz.s,true,0⟩,[bT,b5]⟩
theorem EU:Good [bT]:=xL vj v1.1 (fun g h=>by cases h) (by decide)
theorem vi:Good [bT,b5]:=xL EU v1.2.1 (fun g h=>by
 have:g=bT:=by simpa using h
 subst this;decide) (by decide)
theorem abQ(S:ao.aX)(ps:List Int):(ao.hz S ps).off=false:=rfl
attribute [local irreducible] ao.new aj.app ao.hp ao.hz aj.eo enc in
theorem aa3:∃ ld gz,add ko bT=(jY ld,0)∧add (jY ld) b5=(jZ gz,0)∧add (jZ gz) cY=(jZ gz,18)∧add (kp gz) c0=(lb gz,23)∧ao.hz ⟨gz.s,true,0⟩ [0]=gz∧aj.eo gz=cm∧gz.off=false:=by
 obtain ⟨ld,gz,h1,aq,aQ,bH,cN⟩:=aa2
 refine ⟨ld,gz,?_,?_,Sz _ _,?_,bH,cN,?_⟩
 ·rw [sX (L:=ko) v1.1 (by show ¬ bT.tk<clock [];decide) (by show ¬ 512≤([]:List bO).length;decide) (by show (aj.app aj.pR (ao.new 8) (enc bT)).2.2.2=0;rw [h1])]
  show ((⟨(aj.app aj.pR (ao.new 8) (enc bT)).1,(aj.app aj.pR (ao.new 8) (enc bT)).2.1,[]++[bT]⟩:fD),(0:Int))=_
  rw [h1];rfl
 ·rw [sX (L:=jY ld) v1.2.1 (by show ¬ b5.tk<clock [bT];decide) (by show ¬ 512≤[bT].length;decide) (by show (aj.app dW ld (enc b5)).2.2.2=0;rw [aq])]
  show ((⟨(aj.app dW ld (enc b5)).1,(aj.app dW ld (enc b5)).2.1,[bT]++[b5]⟩:fD),(0:Int))=_
  rw [aq];rfl
 ·rw [uS (L:=kp gz) v1.2.2.2 (by show ¬ c0.tk<clock [bT,b5];decide) (by show ¬ 512≤[bT,b5].length;decide) (by show (aj.app cm (ao.hp gz 0) (enc c0)).2.2.2≠0;rw [aQ];show (23:Int)≠0;decide)]
  show ((⟨(aj.app cm (ao.hp gz 0) (enc c0)).1,(aj.app cm (ao.hp gz 0) (enc c0)).2.1,[bT,b5]⟩:fD),(aj.app cm (ao.hp gz 0) (enc c0)).2.2.2)=_
  rw [aQ];rfl
 ·rw [← bH];exact abQ _ _
theorem acn:(ao.new 8).off=false:=rfl
theorem Oa:aj.eo (ao.new 8)=aj.pR:=aj.KD (aj.KC (n:=8) (by decide) (by decide))
theorem Dd:jK bT∧jK b5∧jK cY∧jK c0:=⟨C1 v1.1,C1 v1.2.1,C1 v1.2.2.1,C1 v1.2.2.2⟩
end aw
end
section
namespace aw
open Go Go.aJ
theorem FN{f:bO}{t:Int}{k:List UInt8}(h1:f.ky=k)(aq:f.tk≤t):jv f t k=true:=by unfold jv;rw [decide_eq_true h1,decide_eq_true aq];rfl
theorem Mh{f:bO}{t:Int}{k:List UInt8}(h:¬ f.ky=k∨¬ f.tk≤t):¬ jv f t k=true:=by
 unfold jv
 rcases h with h | h
 ·rw [decide_eq_false h];simp
 ·rw [decide_eq_false h];simp
def r3:List (List UInt8):=[[97],[98],[97,98],[118,101,114,100,105,99,116,47,49],[48],[97,0]]
def keyOf(n:Int):List UInt8:=r3.getD (cM.fo n 6).toNat []
theorem MX:∀ k∈r3,k≠[]∧k.length≤9:=by decide
theorem aay(i:Nat)(h:i<6):r3.getD i []∈r3:=by
 rw [List.getD_eq_getElem?_getD,List.getElem?_eq_getElem (show i<r3.length from h)];exact List.getElem_mem _
structure wX (l:List bO):Prop where
 eW:Good l
 len:l.length≤12
 low:∀ f∈l,f.tk≤24
 sml:∀ f∈l,f.ky.length≤9∧f.vl.length≤60
structure sJ (l:List bO) (c:Int):Prop where
 eW:Good l
 top:∀ f∈l,f.tk≤c
 sml:∀ f∈l,f.ky.length≤9∧f.vl.length≤60
theorem sJ.start:sJ [] 0:=⟨vj,fun f h=>(by cases h),fun f h=>(by cases h)⟩
theorem sJ.add{l:List bO}{c d:Int}{k s:List UInt8}(h:sJ l c)(bu:0≤c+d∧c+d≤1048576)(aT:0≤d)(hl:l.length<512)(aD:k∈r3)(hs:s.length≤60):sJ (l++[⟨c+d,k,s⟩]) (c+d):=by
 obtain ⟨qG,x7⟩:=MX k aD
 have bx:valid ⟨c+d,k,s⟩=0:=by
  refine Iu (f:=⟨c+d,k,s⟩) ?_ (by show ¬ (256<k.length∨7000<s.length);omega)
  show ¬ ((c+d<0∨1048576<c+d)∨k=[])
  rintro (h1 | h1)
  ·omega
  ·exact qG h1
 refine ⟨xL h.eW bx (fun g aO=>by have:=h.top g aO;show g.tk≤c+d;omega) hl,fun f bw=>?_,fun f bw=>?_⟩
 ·rcases List.mem_append.1 bw with h1 | h1
  ·have:=h.top f h1;omega
  ·obtain rfl:f=⟨c+d,k,s⟩:=by simpa using h1
   exact Int.le_refl _
 ·rcases List.mem_append.1 bw with h1 | h1
  ·exact h.sml f h1
  ·obtain rfl:f=⟨c+d,k,s⟩:=by simpa using h1
   exact ⟨x7,hs⟩
theorem sJ.gen{l:List bO}{c:Int}(h:sJ l c)(hl:l.length≤12)(bu:c≤24):wX l:=⟨h.eW,hl,fun f bw=>by have:=h.top f bw;omega,h.sml⟩
end aw
end
section
namespace aw
open Go Go.aJ
def swp(l:List bO)(i:Nat):List bO:=(l.set i (l.getD (i+1) f0)).set (i+1) (l.getD i f0)
theorem aaT(t:Int)(k:List UInt8)(acc:List UInt8×Bool){a b:bO}(h:a.ky≠b.ky):h8 t k (h8 t k acc b) a=h8 t k (h8 t k acc a) b:=by
 unfold h8
 by_cases a7:jv a t k=true
 ·have au:¬ jv b t k=true:=fun au=>by
   unfold jv at a7 au
   simp only [Bool.and_eq_true,decide_eq_true_eq] at a7 au
   exact h (a7.1.trans au.1.symm)
  simp [a7,au]
 ·simp [a7]
theorem QD(t:Int)(k:List UInt8):∀ (i:Nat) (l:List bO) (acc:List UInt8×Bool),i+1<l.length→(l.getD i f0).ky≠(l.getD (i+1) f0).ky→(swp l i).foldl (h8 t k) acc=l.foldl (h8 t k) acc
 | _,[],_,h,_=>by simp at h
 | _,[_],_,h,_=>by simp at h
 | 0,a::b::l,acc,_,h=>by
  show l.foldl (h8 t k) (h8 t k (h8 t k acc b) a)=l.foldl (h8 t k) (h8 t k (h8 t k acc a) b)
  rw [aaT t k acc (a:=a) (b:=b) h]
 | i+1,a::b::l,acc,aG,h=>by
  show (swp (b::l) i).foldl (h8 t k) (h8 t k acc a)=(b::l).foldl (h8 t k) (h8 t k acc a)
  exact QD t k i (b::l) _ (by simpa using aG) h
theorem H5:∀ (i:Nat) (l:List bO),i+1<l.length→∀ f,f∈swp l i↔f∈l
 | _,[],h,_=>by simp at h
 | _,[_],h,_=>by simp at h
 | 0,a::b::l,_,f=>by
  show f∈b::a::l↔f∈a::b::l
  simp only [List.mem_cons]
  constructor
  ·rintro (h | h | h)
   ·exact .inr (.inl h)
   ·exact .inl h
   ·exact .inr (.inr h)
  ·rintro (h | h | h)
   ·exact .inr (.inl h)
   ·exact .inl h
   ·exact .inr (.inr h)
 | i+1,a::b::l,aG,f=>by
  show f∈a::swp (b::l) i↔f∈a::b::l
  rw [List.mem_cons,H5 i (b::l) (by simpa using aG) f]
  exact List.mem_cons.symm
theorem QE:∀ (i:Nat) (l:List bO),i+1<l.length→(l.getD i f0).tk=(l.getD (i+1) f0).tk→l.Pairwise (fun f g=>f.tk≤g.tk)→(swp l i).Pairwise (fun f g=>f.tk≤g.tk)
 | _,[],h,_,_=>by simp at h
 | _,[_],h,_,_=>by simp at h
 | 0,a::b::l,_,he,h=>by
  obtain ⟨h1,aq⟩:=List.pairwise_cons.1 h
  obtain ⟨aQ,bH⟩:=List.pairwise_cons.1 aq
  have he:a.tk=b.tk:=he
  show (b::a::l).Pairwise _
  refine List.pairwise_cons.2 ⟨fun g aO=>?_,List.pairwise_cons.2 ⟨fun g aO=>h1 g (List.mem_cons_of_mem _ aO),bH⟩⟩
  rcases List.mem_cons.1 aO with rfl | aO
  ·omega
  ·exact aQ g aO
 | i+1,a::b::l,aG,he,h=>by
  obtain ⟨h1,aq⟩:=List.pairwise_cons.1 h
  show (a::swp (b::l) i).Pairwise _
  refine List.pairwise_cons.2 ⟨fun g aO=>h1 g ((H5 i (b::l) (by simpa using aG) g).1 aO),QE i (b::l) (by simpa using aG) he aq⟩
structure qk (l q:List bO):Prop where
 len:q.length=l.length
 dN:∀ t k,aw.dN q t k=aw.dN l t k
 mem:∀ f,f∈q↔f∈l
 srt:l.Pairwise (fun f g=>f.tk≤g.tk)→q.Pairwise (fun f g=>f.tk≤g.tk)
theorem qk.refl(l:List bO):qk l l:=⟨rfl,fun _ _=>rfl,fun _=>Iff.rfl,id⟩
theorem qk.step{l q:List bO}(h:qk l q){i:Nat}(aG:i+1<q.length)(aM:(q.getD i f0).tk=(q.getD (i+1) f0).tk)(aD:(q.getD i f0).ky≠(q.getD (i+1) f0).ky):qk l (swp q i):=
 ⟨by unfold swp;rw [List.length_set,List.length_set];exact h.len,fun t k=>(QD t k i q _ aG aD).trans (h.dN t k),fun f=>(H5 i q aG f).trans (h.mem f),fun hs=>QE i q aG aM (h.srt hs)⟩
theorem qk.ok{l q:List bO}(h:qk l q)(cB:∀ f∈l,jK f):∀ f∈q,jK f:=fun f bw=>cB f ((h.mem f).1 bw)
end aw
end
section
namespace aw
open Go Go.aJ
end aw
namespace aw
theorem Wv{l:List bO}{i:Nat}(h:i<l.length):l.getD i f0∈l:=by
 rw [List.getD_eq_getElem?_getD,List.getElem?_eq_getElem h];exact List.getElem_mem h
end aw
end
section
namespace Go.aJ
section
variable {P:Program}{n:Nat}{w0:World}{zs:List aP}{hs:List av}{L:List (Nat×Value)}{d:Option Tmp}{ty t:TypeId}{pos:String}{af:Array Edge}{g:Option (Nat×Bool)}{x y:Operand}
end
end Go.aJ
end
section
namespace Go.aJ
def mV{α:Type}(E:dO α)(z0 z:aP)(vl:List Value):Prop:=∀ v∈vl,∃ x,bg E z0 v x∨bg E z v x
section
variable {α:Type}{E:dO α}{z0 z z':aP}{vl ul:List Value}
theorem mV.nil:mV E z0 z []:=fun v h=>by cases h
theorem mV.cons{v:Value}{x:List α}(h:bg E z0 v x∨bg E z v x)(k:mV E z0 z vl):mV E z0 z (v::vl):=fun u hu=>by
 rcases List.mem_cons.1 hu with rfl | hu
 ·exact ⟨x,h⟩
 ·exact k u hu
theorem mV.mono(hl:z.le z')(h:mV E z0 z vl):mV E z0 z' vl:=fun v bx=>by
 obtain ⟨x,aL | aL⟩:=h v bx
 ·exact ⟨x,.inl aL⟩
 ·exact ⟨x,.inr (aL.mono hl)⟩
theorem mV.app(h:mV E z0 z vl)(k:mV E z0 z ul):mV E z0 z (vl++ul):=fun v bx=>by
 rcases List.mem_append.1 bx with bx | bx
 ·exact h v bx
 ·exact k v bx
theorem mV.at_(h:mV E z0 z vl){k:Nat}(aD:k<vl.length):∃ x z',(z'=z0∨z'=z)∧bg E z' (vl.getD k undef) x:=by
 have e:vl.getD k undef=vl[k]:=by rw [List.getD_eq_getElem?_getD,List.getElem?_eq_getElem aD];rfl
 rw [e]
 obtain ⟨x,aL | aL⟩:=h _ (List.getElem_mem aD)
 ·exact ⟨x,z0,.inl rfl,aL⟩
 ·exact ⟨x,z,.inr rfl,aL⟩
end
end Go.aJ
end
section
namespace aj
open Go Go.aJ
end aj
namespace aw
open Go Go.aJ
def gO(f:bO):Nat:=(aj.bh ((enc f).length:Int)).toNat
def us(l:List bO):Nat:=(l.map gO).sum
theorem agW{l:List bO}{c:Nat}(h:∀ f∈l,gO f≤c):us l≤c*l.length:=by
 induction l with
 | nil=>simp [us]
 | cons f l ih=>
  have h1:=h f (by simp)
  have aq:=ih fun g aO=>h g (by simp [aO])
  show gO f+us l≤c*(l.length+1)
  rw [Nat.mul_add];omega
theorem agh{f:bO}(h:(enc f).length≤96):1≤gO f∧gO f≤2:=by
 have h1:=aj.xz (t:=enc f) (by omega)
 unfold gO
 refine ⟨h1,?_⟩
 by_cases h0:(enc f).length=0
 ·rw [h0];decide
 ·rw [aj.D2 (by omega)];omega
structure ahS (q:List bO) (L:fD):Prop where
 F:L.F=q
 eW:Good q
 sml:∀ f∈q,(enc f).length≤96
 UT:aj.qc L.S L.J
 len:L.S.s.length=200
 tx:L.J.tx=q.map enc
 en:L.J.en=us q
 lay:∀ i,i<q.length→∀ k,k<gO (q.getD i f0)→aj.fR L.S (us (q.take i)+k)=aj.sec ((i:Int)+1) (enc (q.getD i f0)) k
end aw
end
section
namespace aw
open Go Go.aJ
def ac(q:List bO)(i:Nat):Nat→aj.Acc
 | 0=>([],[])
 | m+1=>if m=i then ac q i m else aj.qm (ac q i m) ((m:Int)+1) (enc (q.getD m f0))
structure ahT (q:List bO) (L:fD) (S:ao.aX) (i k:Nat):Prop where
 still:aj.Still S
 len:S.s.length=200
 oth:∀ j,j≠k→aj.fR S j=aj.fR L.S j
 bad:(aj.c8 (aj.fR S k)).ok=false
 lt:i<q.length
 lo:us (q.take i)≤k
 aG:k<us (q.take (i+1))
end aw
end
section
namespace aw
open Go Go.aJ
structure Dm (q:List bO):Prop where
 eW:Good q
 sml:∀ f∈q,(enc f).length≤96
 len:q.length≤40
theorem wX.UT{q:List bO}(h:wX q):Dm q:=⟨h.eW,fun f bw=>by have:=Ky f;have:=h.sml f bw;omega,by have:=h.len;omega⟩
theorem Dm.us{q:List bO}(h:Dm q):us q≤80:=by
 have:=agW (l:=q) (c:=2) fun f bw=>(agh (h.sml f bw)).2
 have:=h.len
 omega
def an4(q:List bO)(k:Nat):List Int:=(List.range k).map fun i=>(us (q.take i):Int)
end aw
namespace aw
end aw
namespace aw
open Go Go.aJ
end aw
end
section
namespace aw
open Go Go.aJ
theorem HB(ls:List bo.cJ):(bo.mK ls).1.length=16:=by
 by_cases h:bo.jh ls=0
 ·rw [bo.CC h];exact bo.CB _ _
 ·rw [bo.HA h];exact List.length_replicate
theorem NQ{l:List bO}{t:Int}(h:∀ f∈l,f.tk≤t)(key:List UInt8):∀ k,k≤l.length→fN (lW l k) key=if (dN (l.take k) t key).2=true then some (vs (dN (l.take k) t key).1) else none
 | 0,_=>rfl
 | k+1,aD=>by
  have aL:=h _ (Wv (l:=l) (i:=k) (by omega))
  rw [BV (by omega),sZ,vN (by omega),NQ h key k (by omega)]
  by_cases he:key=(l.getD k f0).ky
  ·rw [if_pos he,if_pos (FN he.symm aL)];rfl
  ·rw [if_neg he,if_neg (Mh (.inl fun cC=>he cC.symm))]
theorem aaP{l:List bO}{t:Int}{key:List UInt8}:(∃ f∈l,f.tk≤t∧f.ky=key)→(dN l t key).2=true:=by
 intro h
 have:∀ (l:List bO) (a:List UInt8×Bool),(a.2=true∨∃ f∈l,f.tk≤t∧f.ky=key)→(l.foldl (h8 t key) a).2=true:=by
  intro l
  induction l with
  | nil=>
   intro a h
   rcases h with h | ⟨f,bw,_⟩
   ·exact h
   ·cases bw
  | cons g l ih=>
   intro a h
   refine ih _ ?_
   unfold h8
   by_cases aO:jv g t key=true
   ·rw [if_pos aO];exact .inl rfl
   ·rw [if_neg aO]
    rcases h with h | ⟨f,bw,h1,aq⟩
    ·exact .inl h
    ·rcases List.mem_cons.1 bw with rfl | bw
     ·exact absurd (FN aq h1) aO
     ·exact .inr ⟨f,bw,h1,aq⟩
 exact this l _ (.inr h)
def lv(l:List bO)(t:Int)(k:List UInt8):bo.cJ:=(k,(dN l t k).1)
def ia(l:List bO)(t:Int):List bo.cJ:=(keys l t).map (lv l t)
theorem r5(l:List bO)(t:Int):(ia l t).length=(keys l t).length:=by simp [ia]
theorem agU{l:List bO}(h:l.Pairwise (fun f g=>f.tk≤g.tk))(t:Int):∀ f∈hq l t,f.tk≤t:=fun f bw=>by
 rw [zD h] at bw
 simpa using (List.mem_filter.1 bw).2
theorem abp{l:List bO}(h:l.Pairwise (fun f g=>f.tk≤g.tk)){t:Int}{k:List UInt8}(aD:k∈keys l t):fN (lW (hq l t) (hq l t).length) k=some (vs (dN l t k).1):=by
 rw [NQ (agU h t) k _ (Nat.le_refl _),List.take_length,Nd h,if_pos (aaP ((BK l t k).1 aD))]
theorem aaz{l:List bO}{t:Int}{j:Nat}(h:j<(keys l t).length):(keys l t).getD (j:Int).toNat []∈keys l t:=by
 rw [Int.toNat_natCast,List.getD_eq_getElem?_getD,List.getElem?_eq_getElem h];exact List.getElem_mem h
theorem NA{l:List bO}{t:Int}{j:Nat}(h:j<(keys l t).length):((ia l t).take j).flatMap pS++[vs ((keys l t).getD (j:Int).toNat []),vs (dN l t ((keys l t).getD (j:Int).toNat [])).1]=((ia l t).take (j+1)).flatMap pS:=by
 have e:(ia l t)[j]'(by rw [r5];exact h)=lv l t ((keys l t).getD (j:Int).toNat []):=by
  unfold ia
  rw [List.getElem_map,Int.toNat_natCast,List.getD_eq_getElem?_getD,List.getElem?_eq_getElem h];rfl
 rw [List.take_succ_eq_append_getElem (by rw [r5];exact h),e,List.flatMap_append]
 rfl
theorem aaQ{l:List bO}{t:Int}{k:List UInt8}:(dN l t k).1=[]∨∃ f∈l,(dN l t k).1=f.vl:=by
 have:∀ (l:List bO) (a:List UInt8×Bool),(l.foldl (h8 t k) a).1=a.1∨∃ f∈l,(l.foldl (h8 t k) a).1=f.vl:=by
  intro l
  induction l with
  | nil=>intro a;exact .inl rfl
  | cons g l ih=>
   intro a
   rcases ih (h8 t k a g) with h | ⟨f,bw,h⟩
   ·rw [List.foldl_cons,h]
    unfold h8
    by_cases aO:jv g t k=true
    ·rw [if_pos aO];exact .inr ⟨g,List.mem_cons_self ..,rfl⟩
    ·rw [if_neg aO];exact .inl rfl
   ·exact .inr ⟨f,List.mem_cons_of_mem _ bw,h⟩
 exact this l _
theorem Nz{l:List bO}(h:∀ f∈l,jK f)(t:Int):∀ x∈ia l t,GH x:=fun x aL=>by
 obtain ⟨k,aD,rfl⟩:=List.mem_map.1 aL
 obtain ⟨f,bw,_,rfl⟩:=(BK l t k).1 aD
 refine ⟨(h f bw).2.1,?_⟩
 show (dN l t f.ky).1.length≤_
 rcases aaQ (l:=l) (t:=t) (k:=f.ky) with h1 | ⟨g,aO,h1⟩
 ·rw [h1];simp
 ·rw [h1];exact (h g aO).2.2
end aw
namespace aw
theorem aaH(l:List (List UInt8))(k:List UInt8):(ke l k).length≤l.length+1:=by
 induction l with
 | nil=>simp [ke]
 | cons x l ih=>
  unfold ke
  split
  ·rw [List.length_cons,List.length_cons];omega
  ·split
   ·simp
   ·simp
theorem BJ(l:List bO)(t:Int):(keys l t).length≤l.length:=by
 have:∀ (l:List bO) (o:List (List UInt8)),(l.foldl (nH t) o).length≤o.length+l.length:=by
  intro l
  induction l with
  | nil=>intro o;exact Nat.le_refl _
  | cons f l ih=>
   intro o
   have h1:=ih (nH t o f)
   have aq:(nH t o f).length≤o.length+1:=by
    unfold nH
    split
    ·exact aaH _ _
    ·omega
   rw [List.foldl_cons,List.length_cons];omega
 have h:=this l []
 rw [List.length_nil,Nat.zero_add] at h
 exact h
end aw
end
section
namespace aw
open Go Go.aJ
def afL(T:Int)(f:bO):bO:=⟨f.tk+T+1,f.ky,f.vl⟩
def alS(T:Int)(m:List bO)(j:Nat):List bO:=(m.take j).map (afL T)++m.drop j
end aw
namespace aw
end aw
namespace aw
end aw
end
section
namespace aw
open Go Go.aJ
theorem aaD(l:List bO)(t:Int):keys (l.take 0) t=[]:=rfl
theorem M6{l:List bO}{i:Nat}(h:i<l.length)(t:Int):keys (l.take (i+1)) t=nH t (keys (l.take i) t) (l.getD i f0):=by
 unfold keys
 rw [aj.nb (d:=f0) h,List.foldl_append];rfl
theorem aaE{l:List bO}{i:Nat}(h:i<l.length){t:Int}(aM:t<(l.getD (i:Int).toNat f0).tk):keys (l.take (i+1)) t=keys (l.take i) t:=by
 rw [M6 h]
 rw [Int.toNat_natCast] at aM
 unfold nH
 rw [if_neg (by omega)]
theorem M8{l:List bO}{i:Nat}(h:i<l.length){t:Int}(aM:¬ t<(l.getD (i:Int).toNat f0).tk):keys (l.take (i+1)) t=ke (keys (l.take i) t) (l.getD (i:Int).toNat f0).ky:=by
 rw [M6 h]
 rw [Int.toNat_natCast] at aM ⊢
 unfold nH
 rw [if_pos (by omega)]
theorem M9:∀ (O:List (List UInt8)) (key:List UInt8) (k:Nat),k≤O.length→(∀ j,j<k→O.getD j [] < key)→(k=O.length∨(¬ O.getD k [] < key∧¬ O.getD k []=key))→ke O key=O.take k++key::O.drop k
 | [],key,k,aD,_,_=>by
  obtain rfl:k=0:=by simpa using aD
  rfl
 | x::O,key,0,_,_,h=>by
  rcases h with h | ⟨h1,aq⟩
  ·cases h
  ·have h1:¬ x<key:=h1
   have aq:¬ x=key:=aq
   unfold ke
   rw [if_neg h1,if_neg aq];rfl
 | x::O,key,k+1,aD,e5,h=>by
  have h0:x<key:=e5 0 (by omega)
  unfold ke
  rw [if_pos h0,M9 O key k (by simpa using aD) (fun j a6=>by have:=e5 (j+1) (by omega);rwa [List.getD_cons_succ] at this) (by
   rcases h with h | h
   ·left;simpa using h
   ·right;rwa [List.getD_cons_succ] at h)]
  rfl
theorem Na:∀ (O:List (List UInt8)) (key:List UInt8) (k:Nat),k<O.length→(∀ j,j<k→O.getD j [] < key)→O.getD k []=key→ke O key=O
 | [],_,_,aD,_,_=>by simp at aD
 | x::O,key,0,_,_,h=>by
  have h:x=key:=h
  subst h
  unfold ke
  rw [if_neg (List.lt_irrefl x),if_pos rfl]
 | x::O,key,k+1,aD,e5,h=>by
  have h0:x<key:=e5 0 (by omega)
  unfold ke
  rw [if_pos h0,Na O key k (by simpa using aD) (fun j a6=>by have:=e5 (j+1) (by omega);rwa [List.getD_cons_succ] at this) (by rwa [List.getD_cons_succ] at h)]
theorem S2{O:List (List UInt8)}{key:List UInt8}{k:Nat}(h:∀ j,j<k→O.getD j [] < key)(au:Op.bytesLess (O.getD (k:Int).toNat []) key=true):∀ j,j<k+1→O.getD j [] < key:=fun j a6=>by
 rcases Nat.lt_or_ge j k with h1 | h1
 ·exact h j h1
 ·rw [Int.toNat_natCast] at au
  rw [show j=k by omega];exact (DR _ _).1 au
theorem aaI{O:List (List UInt8)}{key:List UInt8}{k:Nat}(aD:k≤O.length)(h:∀ j,j<k→O.getD j [] < key)(aL:¬ (k:Int)<O.length∨Op.bytesLess (O.getD (k:Int).toNat []) key=false)(aG:(k:Int)=O.length∨¬ O.getD (k:Int).toNat []=key):ke O key=O.take k++key::O.drop k:=
 M9 O key k aD h (by
  rw [Int.toNat_natCast] at aL aG
  by_cases h1:k=O.length
  ·exact .inl h1
  ·right
   have aQ:¬ O.getD k [] < key:=fun aq=>by
    rcases aL with aL | aL
    ·omega
    ·rw [(DR _ _).2 aq] at aL;exact absurd aL (by simp)
   refine ⟨aQ,fun aq=>?_⟩
   rcases aG with aG | aG
   ·omega
   ·exact aG aq)
theorem aaJ{O:List (List UInt8)}{key:List UInt8}{k:Nat}(aD:k≤O.length)(h:∀ j,j<k→O.getD j [] < key)(aG:¬ (k:Int)=O.length∧O.getD (k:Int).toNat []=key):ke O key=O:=by
 rw [Int.toNat_natCast] at aG
 exact Na O key k (by omega) h aG.2
theorem Z9(O:List (List UInt8))(key:List UInt8)(k:Nat):(([]++(List.drop 0 (List.take (k:Int).toNat (O.map vs))))++[vs key])++List.drop (k:Int).toNat (List.take O.length (O.map vs))=(O.take k++key::O.drop k).map vs:=by
 have e:List.take O.length (O.map vs)=O.map vs:=List.take_of_length_le (by simp)
 rw [Int.toNat_natCast,List.drop_zero,List.nil_append,e,List.append_assoc,List.map_append,List.map_take,List.map_cons,List.map_drop];rfl
theorem aaa(O:List (List UInt8))(key:List UInt8){k:Nat}(aD:k≤O.length):0+((k:Int).toNat-0)+1+(O.length-(k:Int).toNat)=(O.take k++key::O.drop k).length:=by
 rw [Int.toNat_natCast,List.length_append,List.length_cons,List.length_take,List.length_drop];omega
end aw
end
section
namespace aw
open Go Go.aJ
end aw
namespace aw
open Go Go.aJ
theorem qk.gen{l q:List bO}(h:qk l q)(aO:wX l):wX q:=
 ⟨⟨by rw [h.len];exact aO.eW.len,fun f bw=>aO.eW.ok f ((h.mem f).1 bw),h.srt aO.eW.srt⟩,by rw [h.len];exact aO.len,fun f bw=>aO.low f ((h.mem f).1 bw),fun f bw=>aO.sml f ((h.mem f).1 bw)⟩
end aw
end
section
namespace aw
open Go Go.aJ
theorem agv{l:List (List UInt8)}{i:Nat}(aG:i<l.length)(h:((dec (l.getD (i:Int).toNat [])).2=0∧(fe l i).2≤(dec (l.getD (i:Int).toNat [])).1.tk)∧((fe l i).1.length:Int)<512) :
  fe l (i+1)=((fe l i).1++[(dec (l.getD (i:Int).toNat [])).1],(dec (l.getD (i:Int).toNat [])).1.tk):=by
 rw [Int.toNat_natCast] at h ⊢
 rw [zw aG,H9 ⟨h.1,by omega⟩]
theorem agu{l:List (List UInt8)}{i:Nat}(aG:i<l.length)(h:(¬ (dec (l.getD (i:Int).toNat [])).2=0∨¬ (fe l i).2≤(dec (l.getD (i:Int).toNat [])).1.tk)∨¬ ((fe l i).1.length:Int)<512):fe l (i+1)=fe l i:=by
 rw [Int.toNat_natCast] at h
 exact QI aG (by omega)
def z1(B:Value→av)(W:Value→List bO→av)(K:aj.dn→av→av→av→av→Prop)(zX zZ:ao.aX→av)(L:fD)(val:Value):Value→List aP→List av→Prop:=fun r zs hs=>
 r=val∧zs=[]∧∃ fv cj ck cr ct,hs=[B fv,W fv L.F,cj,ck,cr,ct,zX L.S,zZ L.S]∧K L.J cj ck cr ct
theorem yG{B:Value→av}{W:Value→List bO→av}{K:aj.dn→av→av→av→av→Prop}{zX zZ:ao.aX→av}{L L':fD}{v dd r:Value}{zs:List aP}{hs:List av}(h:z1 B W K zX zZ L v r zs hs)(bK:L=L')(bV:v=dd):z1 B W K zX zZ L' dd r zs hs:=by subst bK bV;exact h
end aw
end
section
namespace Go.aJ
theorem OM[aW]{P:Program}{n:Nat}{w0:World}{zs:List aP}{hs:List av}{L:List (Nat×Value)}{d:Option Tmp}{ty t:TypeId}{pos:String}{af:Array Edge}{g:Option (Nat×Bool)}{x:Operand}{fs:Array Field}{s bp:Nat}{zv:Value}(aM:a1 P t (.struct fs) s bp zv){i:Nat}{f:Field}{te:TypeId}(bw:fs[i]?=some f)(Yy:f.type=te){bM:TypeDesc}{s' gB:Nat}{z':Value}(cg:a1 P te bM s' gB z')(aT:eV bM=false)
  {cs:Array Value}(h1:aU L x=some (.agg cs)) {u:Value}(hu:cs[f.offset]?=some u):bL P n w0 zs hs L ⟨d,.field t x i,ty,pos,af,g⟩ u:=
 eC fun a a7 w hw=>by
  subst Yy
  have bN:=Cc (P:=P) cg aT hu w
  simp only [execOp,a7.eval h1]
  simp [Instr.field,run_underlying aM.und,bw,asAgg,bN]
end Go.aJ
end
section
namespace aw
open Go Go.aJ
def yD(x y:ao.ee):Bool:=((x.dt && !decide (y.tx=x.tx)) && !decide (y.tx=x.nx))&&(aj.c8 y.tx).ok
def r4(S M:ao.aX)(lk:Bool):Nat→Bool
 | 0=>lk
 | k+1=>if yD (S.s.getD k ao.cG) (M.s.getD k ao.cG)=true then true else r4 S M lk k
def BP(S M:ao.aX)(lk:Bool):Bool:=r4 S M lk S.s.length
def ua(S:ao.aX)(i b:Int)(lk:Bool):Bool:=if (ao.gN S i b).2=0∧(aj.c8 ((ao.gN S i b).1.at i).tx).ok=true then true else lk
theorem abn{S M:ao.aX}{lk:Bool}{i:Nat}(h:(((S.s.getD (i:Int).toNat ao.cG).dt=true∧¬ (M.s.getD (i:Int).toNat ao.cG).tx=(S.s.getD (i:Int).toNat ao.cG).tx)∧¬ (M.s.getD (i:Int).toNat ao.cG).tx=(S.s.getD (i:Int).toNat ao.cG).nx)∧(aj.c8 (M.s.getD (i:Int).toNat ao.cG).tx).ok=true):r4 S M lk (i+1)=true:=by
 rw [Int.toNat_natCast] at h
 obtain ⟨⟨⟨h1,aq⟩,aQ⟩,bH⟩:=h
 show (if yD (S.s.getD i ao.cG) (M.s.getD i ao.cG)=true then true else r4 S M lk i)=true
 rw [if_pos]
 unfold yD
 rw [h1,decide_eq_false aq,decide_eq_false aQ,bH];rfl
theorem abm{S M:ao.aX}{lk:Bool}{i:Nat}(h:(((S.s.getD (i:Int).toNat ao.cG).dt=false∨(M.s.getD (i:Int).toNat ao.cG).tx=(S.s.getD (i:Int).toNat ao.cG).tx)∨(M.s.getD (i:Int).toNat ao.cG).tx=(S.s.getD (i:Int).toNat ao.cG).nx)∨(aj.c8 (M.s.getD (i:Int).toNat ao.cG).tx).ok=false):r4 S M lk (i+1)=r4 S M lk i:=by
 rw [Int.toNat_natCast] at h
 show (if yD (S.s.getD i ao.cG) (M.s.getD i ao.cG)=true then true else r4 S M lk i)=_
 rw [if_neg]
 unfold yD
 rcases h with ((h | h) | h) | h
 ·rw [h];simp
 ·rw [decide_eq_true h];simp
 ·rw [decide_eq_true h];simp
 ·rw [h];simp
theorem NM(S:ao.aX)(ps:List Int):(ao.hz S ps).s.length=S.s.length:=by
 show (ao.gv ps 0 S.s).length=_
 rw [ao.o6]
theorem aeT{S:ao.aX}{i b:Int}(h:(ao.gN S i b).2=0):0≤i∧i<S.s.length:=by
 by_cases bu:(0≤i∧i<S.s.length)∧0≤b∧b<512
 ·exact bu.1
 ·rw [ao.wm bu] at h;exact absurd (show (1:Int)=0 from h) (by decide)
theorem aeS(S:ao.aX)(i b:Int):(ao.gN S i b).1.s.length=S.s.length:=by
 by_cases bu:(0≤i∧i<S.s.length)∧0≤b∧b<512
 ·rw [ao.zd bu.1 bu.2,ao.pZ]
 ·rw [ao.wm bu]
theorem abg{S:ao.aX}{i b:Int}{lk:Bool}(h:(ao.gN S i b).2=0)(aq:(aj.c8 ((ao.gN S i b).1.s.getD i.toNat ao.cG).tx).ok=true):ua S i b lk=true:=if_pos ⟨h,aq⟩
theorem abe{S:ao.aX}{i b:Int}{lk:Bool}(aq:(aj.c8 ((ao.gN S i b).1.s.getD i.toNat ao.cG).tx).ok=false):ua S i b lk=lk:=if_neg fun h=>by rw [show ((ao.gN S i b).1.at i).tx=((ao.gN S i b).1.s.getD i.toNat ao.cG).tx from rfl,aq] at h;exact absurd h.2 (by simp)
theorem abf{S:ao.aX}{i b:Int}{lk:Bool}(h:¬ (ao.gN S i b).2=0):ua S i b lk=lk:=if_neg fun cC=>h cC.1
end aw
end
section
namespace aw
open Go Go.aJ
structure ix where
 k:Int
 n:Int
 la:Int
 ky:List UInt8
 vl:List UInt8
 ps:List Int
def l6:ix:=⟨0,0,0,[],[],[]⟩
def xf(s:ix):Prop:=(0≤s.k∧s.k≤9)∧(0≤s.n∧s.n≤23)∧(-1≤s.la∧s.la≤3)∧s.ky.length≤9∧s.vl.length≤6400
def p7(t:ix×Value):List Value:=[az t.1.k,az t.1.n,az t.1.la,vs t.1.ky,vs t.1.vl,t.2]
theorem Qw(t:ix×Value):(p7 t).length=6:=rfl
theorem afW(l:List (ix×Value))(t:ix×Value):l.flatMap p7++[az t.1.k,az t.1.n,az t.1.la,vs t.1.ky,vs t.1.vl,t.2]=(l++[t]).flatMap p7:=by rw [List.flatMap_append];simp [p7]
theorem afZ(l:List (ix×Value))(t:ix×Value):l.length+1=(l++[t]).length:=by simp
def u7:dO ix where
 size:=6
 rep z o c:=∃ gj,c=p7 (o,gj)∧xf o∧bg encI z gj o.ps
 mono bj h:=by obtain ⟨gj,h1,aq,aQ⟩:=h;exact ⟨gj,h1,aq,aQ.mono bj⟩
 len h:=by obtain ⟨gj,h1,_⟩:=h;rw [h1];rfl
 one h u hu:=by
  obtain ⟨gj,h1,aq,aQ⟩:=h
  rw [h1] at hu
  simp only [p7,List.mem_cons,List.not_mem_nil,or_false] at hu
  rcases hu with rfl | rfl | rfl | rfl | rfl | rfl <;> first | rfl | exact mL aQ
def rf(z:aP)(l:List (ix×Value)):Prop:=∀ t∈l,xf t.1∧bg encI z t.2 t.1.ps
theorem rf.nil{z:aP}:rf z []:=fun t h=>by cases h
theorem rf.snoc{z z':aP}{l:List (ix×Value)}{t:ix×Value}(h:rf z l)(hl:z.le z')(h1:xf t.1)(aq:bg encI z' t.2 t.1.ps):rf z' (l++[t]):=fun u hu=>by
 rcases List.mem_append.1 hu with aQ | aQ
 ·exact ⟨(h u aQ).1,(h u aQ).2.mono hl⟩
 ·obtain rfl:u=t:=by simpa using aQ
  exact ⟨h1,aq⟩
theorem Wx{w0:World}{zs:List aP}{hs:List av}{w:World}{e:TypeId}{v:Value}{m:Nat}{l:List (ix×Value)}(h:aC w0 zs (.row v e 6 m (l.flatMap p7)::hs) w){z:aP}(bj:z∈zs)(hm:m=l.length)(au:m≤140737488355328)(bN:rf z l):∃ z',bg u7 z' v (l.map (·.1))∧aC w0 (z'::zs) hs w:=
 aC.freeze (E:=u7) h (.inr bj) (by rw [List.length_map];exact hm) au fun i x aL=>by
  rw [List.getElem?_map,Option.map_eq_some_iff] at aL
  obtain ⟨t,aM,rfl⟩:=aL
  have pM:=List.mem_of_getElem? aM
  refine ⟨p7 t,⟨t.2,rfl,(bN t pM).1,(bN t pM).2⟩,fun j y cS=>?_⟩
  have a6:j<6:=by have:=(List.getElem?_eq_some_iff.1 cS).1;rw [Qw] at this;exact this
  exact (vb Qw aM a6).trans cS
theorem afY{l:List ix}{k:Nat}(aD:k<l.length):l[k]?=some (l.getD k l6):=by
 rw [List.getD_eq_getElem?_getD,List.getElem?_eq_getElem aD];rfl
theorem afX{z:aP}{v:Value}{l:List ix}(U:bg u7 z v l){k:Nat}(aD:k<l.length):∃ gj,nU z (c6 v (k*6)) 6=p7 (l.getD k l6,gj)∧xf (l.getD k l6)∧bg encI z gj (l.getD k l6).ps:=U.rep (afY aD)
theorem adI[aW]{P:Program}{n:Nat}{w0:World}{zs:List aP}{hs:List av}{L:List (Nat×Value)}{d:Option Tmp}{ty t:TypeId}{pos:String}{af:Array Edge}{g:Option (Nat×Bool)}{x:Operand}{v:Value}{z:aP}{l:List ix}{bM:TypeDesc}{bp:Nat}{zv:Value}(aM:a1 P t bM 6 bp zv){k:Nat}(U:bg u7 z v l)(bj:gp w0 zs z){o:List Value}(bu:nU z (c6 v (k*6)) 6=o)(h1:aU L x=some (c6 v (k*6)))(aT:eV bM=true)(aD:k<l.length) :
  bL P n w0 zs hs L ⟨d,.load t x,ty,pos,af,g⟩ (.agg o.toArray):=by
 have:=Hg (P:=P) (n:=n) (w0:=w0) (zs:=zs) (hs:=hs) (L:=L) (d:=d) (ty:=ty) (pos:=pos) (af:=af) (g:=g) (x:=x) (E:=u7) aM (k:=k) (m:=k*6) rfl (by decide) U bj h1 aT aD
 rw [← bu]
 exact this
end aw
namespace aw
open Go Go.aJ
theorem MY(n:Int):(keyOf n).length≤9:=by
 have h:=cM.rm (n:=n) (m:=6) (by decide)
 exact (MX _ (aay (cM.fo n 6).toNat (by omega))).2
end aw
end
section
namespace aw
open Go Go.aJ
def mZ(M:fD)(x:ix):fD:=
 if x.k=6 then ⟨M.J,ao.hp M.S (x.n%6),M.F⟩
 else if x.k=7 then vO (ao.hz M.S x.ps)
 else if x.k=8 then ⟨M.J,(ao.gN M.S x.n (((x.ky.length:Int)*41+7*(x.vl.length:Int))%512)).1,M.F⟩
 else if x.k=9 then ⟨M.J,(ao.k7 M.S x.n).1,M.F⟩
 else (add M ⟨clock M.F+x.la,x.ky,x.vl⟩).1
theorem Ka{M:fD}{x:ix}(h:x.k=6):mZ M x=⟨M.J,ao.hp M.S (x.n%6),M.F⟩:=if_pos h
theorem Kb{M:fD}{x:ix}(h:x.k=7):mZ M x=vO (ao.hz M.S x.ps):=by unfold mZ;rw [if_neg (by omega),if_pos h]
theorem Kc{M:fD}{x:ix}(h:x.k=8):mZ M x=⟨M.J,(ao.gN M.S x.n (((x.ky.length:Int)*41+7*(x.vl.length:Int))%512)).1,M.F⟩:=by unfold mZ;rw [if_neg (by omega),if_neg (by omega),if_pos h]
theorem Kd{M:fD}{x:ix}(h:x.k=9):mZ M x=⟨M.J,(ao.k7 M.S x.n).1,M.F⟩:=by unfold mZ;rw [if_neg (by omega),if_neg (by omega),if_neg (by omega),if_pos h]
theorem Ke{M:fD}{x:ix}(dq:¬ x.k=6)(eX:¬ x.k=7)(dp:¬ x.k=8)(cC:¬ x.k=9):mZ M x=(add M ⟨clock M.F+x.la,x.ky,x.vl⟩).1:=by unfold mZ;rw [if_neg dq,if_neg eX,if_neg dp,if_neg cC]
theorem Ui{M:fD}{x:ix}(h:Good M.F):Good (mZ M x).F:=by
 by_cases dq:x.k=6
 ·rw [Ka dq];exact h
 by_cases eX:x.k=7
 ·rw [Kb eX];exact H7 _
 by_cases dp:x.k=8
 ·rw [Kc dp];exact h
 by_cases cC:x.k=9
 ·rw [Kd cC];exact h
 ·rw [Ke dq eX dp cC];exact SA h _
theorem JX{l:List bO}(h:Good l):0≤clock l∧clock l≤1048576:=by
 unfold clock
 by_cases h0:l=[]
 ·rw [if_pos h0];omega
 rw [if_neg h0]
 have hl:0<l.length:=List.length_pos_iff.2 h0
 have e:l.getD (l.length-1) f0=l[l.length-1]:=by rw [List.getD_eq_getElem?_getD,List.getElem?_eq_getElem (by omega)];rfl
 rw [e]
 exact (C0 (h.ok _ (List.getElem_mem (by omega:l.length-1<l.length)))).1
end aw
end
