/- walks and plain laws -/
import Derived.Test.YtngcjojijaknnaaGreatDoorFwA
import Derived.Test.YtngcjojijaknnaaGreatDoorFwC
set_option linter.all false
section
/- Plain laws of the package guilt and what it stands on. -/
namespace Go.aK
namespace cN
def kN(p:Int→Bool)(xs:List Int):Int:=match xs.findIdx? p with
 | some k=>k
 | none => -1
theorem H5{p:Int→Bool}{xs:List Int}{i:Nat}(aH:i<xs.length)(bO:p (xs.getD i 0)=true)(bD:∀ j,j<i→p (xs.getD j 0)=false):kN p xs=i:=by
 have:xs.findIdx? p=some i:=by
  rw [List.findIdx?_eq_some_iff_getElem]
  refine ⟨aH,by simpa [aH] using bO,fun j aV=>?_⟩
  have:=bD j aV
  have sW:j<xs.length:=by omega
  simpa [sW] using this
 unfold kN
 rw [this]
theorem C6{p:Int→Bool}{xs:List Int}(bD:∀ j,j<xs.length→p (xs.getD j 0)=false):kN p xs = -1:=by
 have:xs.findIdx? p=none:=by
  rw [List.findIdx?_eq_none_iff]
  intro x aM
  obtain ⟨j,aV,rfl⟩:=List.mem_iff_getElem.1 aM
  have:=bD j aV
  simpa [aV] using this
 unfold kN
 rw [this]
theorem C5(p:Int→Bool)(xs:List Int):decide (0≤kN p xs)=xs.any p:=by
 unfold kN
 cases h:xs.findIdx? p with
 | none=>
  have h:=List.findIdx?_eq_none_iff.1 h
  have:xs.any p=false:=List.any_eq_false.2 fun x aM=>by simp [h x aM]
  rw [this];rfl
 | some k=>
  obtain ⟨h1,ar,_⟩:=List.findIdx?_eq_some_iff_getElem.1 h
  have:xs.any p=true:=List.any_eq_true.2 ⟨_,List.getElem_mem h1,ar⟩
  rw [this]
  simp
theorem acn(n:Int)(xs:List Int):decide (0≤kN (fun x=>decide (n=x)) xs)=decide (n∈xs):=by
 rw [C5]
 by_cases h:n∈xs
 ·rw [decide_eq_true h]
  exact List.any_eq_true.2 ⟨n,h,by simp⟩
 ·rw [decide_eq_false h]
  exact List.any_eq_false.2 fun x aM=>by simp;rintro rfl;exact h aM
theorem Dq{p:Int→Bool}{xs:List Int}{i:Int}(aH:0≤i)(bO:p (xs.getD i.toNat 0)=false)(bD:∀ j,j<i.toNat→p (xs.getD j 0)=false):∀ j,j<(i+1).toNat→p (xs.getD j 0)=false:=fun j aV=>by
 rcases Nat.lt_or_ge j i.toNat with h | h
 ·exact bD j h
 ·obtain rfl:j=i.toNat:=by omega
  exact bO
def B6(p:Int→Int→Bool)(l:List Int):Nat→List Int
 | 0=>[]
 | k+1=>if p k (l.getD k 0) && !decide (l.getD k 0∈B6 p l k) then B6 p l k++[l.getD k 0] else B6 p l k
def yV(b:Int→Int→Bool)(l:List Int):Nat→List Int
 | 0=>[]
 | k+1=>if !decide (l.getD k 0∈yV b l k) && !(l.any fun t => !decide (t=l.getD k 0)&&b t (l.getD k 0)) then yV b l k++[l.getD k 0] else yV b l k
theorem YU{xs:List Int}{k:Nat}(h:k<xs.length):xs.getD k 0∈xs:=by rw [List.getD_eq_getElem?_getD,List.getElem?_eq_getElem h];exact List.getElem_mem h
def nt(a b:Int):Bool:=decide (OK a b=a)
end cN
end Go.aK
end
section
namespace Go.aK
namespace cN
theorem adK{n:Int}{xs:List Int}(h:∀ j,j<xs.length→xs.getD j 0≠n):decide (n∈xs)=false:=decide_eq_false fun hm=>by
 obtain ⟨j,aV,rfl⟩:=List.mem_iff_getElem.1 hm
 exact h j aV (by simp [aV])
theorem adL{n:Int}{xs:List Int}{j:Nat}(aV:j<xs.length)(h:xs.getD j 0=n):decide (n∈xs)=true:=decide_eq_true (h ▸ YU aV)
theorem aen{xs:List Int}{n i:Int}(aH:0≤i)(bO:¬ xs.getD i.toNat 0=n)(bD:∀ j,j<i.toNat→xs.getD j 0≠n):∀ j,j<(i+1).toNat→xs.getD j 0≠n:=fun j aV=>by
 rcases Nat.lt_or_ge j i.toNat with h | h
 ·exact bD j h
 ·obtain rfl:j=i.toNat:=by omega
  exact bO
def uH(s:Nat)(xb cW:List Bool):Bool:=decide (cW.length=s)&&decide (xb.length=s)&&(List.range cW.length).all fun j => !(cW.getD j false && !xb.getD j false)
def De(xs:List Int)(cW:List Bool):Nat→List Int
 | 0=>[]
 | k+1=>if cW.getD k false then De xs cW k++[xs.getD k 0] else De xs cW k
def adS(xs:List Int)(cW:List Bool):List Int:=yV nt (De xs cW xs.length) (De xs cW xs.length).length
def ai6(xs:List Int)(cW:List Bool)(x:Int)(k:Nat):Bool:=(List.range k).any fun j=>cW.getD j false && !decide (xs.getD j 0=x)&&nt (xs.getD j 0) x
def Jb(xs:List Int)(cW:List Bool):Nat→List Int
 | 0=>[]
 | k+1=>if (cW.getD k false && !decide (xs.getD k 0∈Jb xs cW k)) && !ai6 xs cW (xs.getD k 0) xs.length then Jb xs cW k++[xs.getD k 0] else Jb xs cW k
def qp(xs:List Int)(xb cW:List Bool):List Int:=if uH xs.length xb cW then adS xs cW else []
def ge(xs:List Int)(xb cW:List Bool):Int:=if uH xs.length xb cW then 0 else 1
end cN
end Go.aK
end
section
namespace Go.aK
namespace ja
theorem aiu{α:Type}(d:α){a b:List α}{i:Nat}(bg:i<a.length)(aw:i<b.length)(h:a.take i=b.take i):a.take (i+1)=b.take (i+1)↔a.getD i d=b.getD i d:=by
 rw [List.take_succ_eq_append_getElem bg,List.take_succ_eq_append_getElem aw,h,List.getD_eq_getElem?_getD,List.getD_eq_getElem?_getD,List.getElem?_eq_getElem bg,List.getElem?_eq_getElem aw]
 constructor
 ·intro h1
  have:=List.append_cancel_left h1
  injection this
 ·intro h1
  have ar:a[i]=b[i]:=h1
  rw [ar]
theorem Jq{α:Type}[DecidableEq α]{a b:List α}(h:¬ (a.length:Int)=b.length):Value.bool false=.bool (decide (a=b)):=by
 rw [decide_eq_false (fun e=>h (by rw [e]))]
theorem Jr{α:Type}[DecidableEq α]{a b:List α}(d:α){i:Int}(h:¬ a.getD i.toNat d=b.getD i.toNat d):Value.bool false=.bool (decide (a=b)):=by
 rw [decide_eq_false (fun e=>h (by rw [e]))]
theorem Jp{α:Type}[DecidableEq α]{a b:List α}{i:Int}(hl:(a.length:Int)=b.length)(aH:¬ i<a.length)(h:a.take i.toNat=b.take i.toNat):Value.bool true=.bool (decide (a=b)):=by
 rw [List.take_of_length_le ag,List.take_of_length_le ag] at h
 rw [decide_eq_true h]
theorem Js{α:Type}(d:α){a b:List α}{i:Int}(h0:0≤i)(bg:i<a.length)(hl:(a.length:Int)=b.length)(he:a.getD i.toNat d=b.getD i.toNat d)(h:a.take i.toNat=b.take i.toNat):a.take (i+1).toNat=b.take (i+1).toNat:=by
 rw [show (i+1).toNat=i.toNat+1 by omega]
 exact (aiu d ag ag h).2 he
theorem getD_some{α:Type}(d:α){l:List α}{i:Nat}(h:i<l.length):l[i]?=some (l.getD i d):=by
 rw [List.getD_eq_getElem?_getD,List.getElem?_eq_getElem h];rfl
end ja
end Go.aK
end
section
namespace Go.aK
namespace cN
def aeL(xs:List Int)(cW:List Bool):Bool:=(List.range cW.length).any fun j=>cW.getD j false&&decide (xs.getD j 0=0)
def alH(xs:List Int)(xb cW:List Bool):Bool:=uH xs.length xb cW&&aeL xs cW
def fl(n m:Int):Int:=(if n<0 then -(n+1) else n)%m
theorem qj{n m:Int}(hm:0<m):0≤fl n m∧fl n m<m:=by
 unfold fl
 exact ⟨Int.emod_nonneg _ ag,Int.emod_lt_of_pos _ hm⟩
def yG(l:List Int)(i m:Int):Int:=if i<0∨(l.length:Int)≤i then 0 else fl (l.getD i.toNat 0) m
end cN
end Go.aK
end
section
namespace Go.aK
namespace cN
def an7(l:List Int)(s:Int)(k:Nat):List Int:=(l.take k).filter fun y=>nt y s
theorem JK{l:List Int}{k:Nat}(h:k<l.length):l.take (k+1)=l.take k++[l.getD k 0]:=by
 rw [List.take_add_one,List.getElem?_eq_getElem h,List.getD_eq_getElem?_getD,List.getElem?_eq_getElem h]
 rfl
def bO(xb cW:List Bool)(g:List Int)(i x:Int):Bool:=(xb.getD i.toNat false && !cW.getD i.toNat false)&&g.any fun y=>nt y x
def nJ(xs:List Int)(xb cW:List Bool):List Int:=if uH xs.length xb cW then B6 (bO xb cW (qp xs xb cW)) xs xs.length else []
def amj(xs:List Int)(xb cW:List Bool)(s:Int):List Int:=if s∈nJ xs xb cW then (qp xs xb cW).filter fun y=>nt y s else []
def ami(xs:List Int)(xb cW:List Bool)(s:Int):Int:=if uH xs.length xb cW then (if s∈nJ xs xb cW then 0 else 6) else 1
end cN
end Go.aK
namespace Go.aK
namespace cN
variable {xs:List Int}{xb cW:List Bool}{s:Int}
def inr(xs:List Int)(s:Int):Nat→Int
 | 0=>0
 | k+1=>if nt (xs.getD k 0) s then C4 (inr xs s k) (xs.getD k 0) else inr xs s k
end cN
end Go.aK
end
section
namespace Go.aK
namespace cN
def del(s y:Int):Bool:=decide (y=s) || !nt y s
def kept(s:Int)(xs:List Int):List Int:=xs.filter fun y => !del s y
structure oE (s:Int) (xs ys:List Int) (i j:Int):Prop where
 i0:0≤i∧i<j∧j≤xs.length
 len:ys.length=xs.length
 head:ys.take i.toNat=kept s (xs.take j.toNat)
 tail:ys.drop j.toNat=xs.drop j.toNat
def Fl(xs:List Int)(s:Int):List Int:=yV (fun a b=>nt b a) (kept s xs) (kept s xs).length
theorem acH{s:Int}{xs:List Int}(h:∀ x∈xs,del s x=false):kept s xs=xs:=List.filter_eq_self.2 fun x aM=>by rw [h x aM];rfl
theorem oE.start{s:Int}{xs:List Int}{i:Int}(aH:0≤i∧i<xs.length)(bO:del s (xs.getD i.toNat 0)=true)(bD:∀ j,j<i.toNat→del s (xs.getD j 0)=false):oE s xs xs i (i+1):=by
 refine ⟨by omega,rfl,?_,rfl⟩
 rw [show (i+1).toNat=i.toNat+1 by omega,JK ag,kept,List.filter_append,List.filter_cons,if_neg (by rw [bO];decide),List.filter_nil,List.append_nil]
 refine (acH (s:=s) fun x aM=>?_).symm
 obtain ⟨j,aV,rfl⟩:=List.mem_iff_getElem.1 aM
 rw [List.length_take] at aV
 have:=bD j ag
 rw [List.getElem_take]
 rwa [List.getD_eq_getElem?_getD,List.getElem?_eq_getElem ag] at this
theorem oE.get{s:Int}{xs ys:List Int}{i j:Int}(h:oE s xs ys i j)(aV:j<xs.length):ys.getD j.toNat 0=xs.getD j.toNat 0:=by
 have:=congrArg (·[0]?) h.tail
 simp only [List.getElem?_drop,Nat.add_zero] at this
 rw [List.getD_eq_getElem?_getD,List.getD_eq_getElem?_getD,this]
theorem oE.skip{s:Int}{xs ys:List Int}{i j:Int}(h:oE s xs ys i j)(aV:j<xs.length)(bO:del s (ys.getD j.toNat 0)=true):oE s xs ys i (j+1):=by
 have aP:=h.get aV
 rw [aP] at bO
 have:=h.i0
 refine ⟨by omega,h.len,?_,?_⟩
 ·rw [h.head,show (j+1).toNat=j.toNat+1 by omega,JK ag]
  unfold kept
  rw [List.filter_append,List.filter_cons,if_neg (by rw [bO];decide),List.filter_nil,List.append_nil]
 ·have:=congrArg (List.drop 1) h.tail
  rwa [List.drop_drop,List.drop_drop,show j.toNat+1=(j+1).toNat by omega] at this
theorem oE.ao{s:Int}{xs ys:List Int}{i j:Int}(h:oE s xs ys i j)(aV:j<xs.length)(bO:del s (ys.getD j.toNat 0)=false):oE s xs (ys.set i.toNat (ys.getD j.toNat 0)) (i+1) (j+1):=by
 have aP:=h.get aV
 have h0:=h.i0
 have hl:=h.len
 refine ⟨by omega,by rw [List.length_set];exact hl,?_,?_⟩
 ·rw [aP] at bO ⊢
  rw [show (i+1).toNat=i.toNat+1 by omega,show (j+1).toNat=j.toNat+1 by omega,JK (show j.toNat<xs.length by omega),List.take_set,List.take_add_one,List.getElem?_eq_getElem ag]
  have gK:(ys.take i.toNat).length=i.toNat:=by rw [List.length_take];omega
  rw [List.set_append_right _ _ ag,gK,Nat.sub_self]
  simp only [Option.toList_some,List.set_cons_zero]
  rw [h.head]
  unfold kept
  rw [List.filter_append,List.filter_cons,if_pos (by rw [bO];rfl),List.filter_nil]
 ·have:=congrArg (List.drop 1) h.tail
  rw [List.drop_drop,List.drop_drop,show j.toNat+1=(j+1).toNat by omega] at this
  rw [List.drop_set_of_lt ag]
  exact this
theorem oE.done{s:Int}{xs ys:List Int}{i j:Int}(h:oE s xs ys i j)(aV:¬ j<xs.length):ys.take i.toNat=kept s xs:=by
 have:=h.i0
 rw [h.head,List.take_of_length_le ag]
end cN
end Go.aK
end
section
namespace Go.aK
namespace cN
def Vs(xs:List Int)(s x:Int)(k:Nat):Bool:=(List.range k).any fun j=>((!decide (xs.getD j 0=s)&&nt (xs.getD j 0) s) && !decide (xs.getD j 0=x))&&nt x (xs.getD j 0)
def I6(xs:List Int)(s:Int):Nat→List Int
 | 0=>[]
 | k+1=>if ((!decide (xs.getD k 0=s)&&nt (xs.getD k 0) s) && !decide (xs.getD k 0∈I6 xs s k)) && !Vs xs s (xs.getD k 0) xs.length then I6 xs s k++[xs.getD k 0] else I6 xs s k
end cN
end Go.aK
namespace Go.aK
namespace cN
def WD(xb:List Bool)(m:List Int):Nat→List Bool
 | 0=>[]
 | k+1=>WD xb m k++[xb.getD k false&&decide (yG m k 3=1)]
end cN
end Go.aK
end
section
namespace Go.aK
namespace cN
def Vi(xs:List Int)(xb:List Bool)(y:Int):Bool:=xb.getD (kN (fun t=>decide (y=t)) xs).toNat false
def aeH(xs:List Int)(xb:List Bool)(g:Int):Bool:=decide (1<(Fl xs g).length)&&(Fl xs g).all (Vi xs xb)
def SN(xs:List Int)(xb:List Bool)(qp:List Int):Nat→List (List Int)
 | 0=>[]
 | k+1=>if aeH xs xb (qp.getD k 0) then SN xs xb qp k++[qp.getD k 0::Fl xs (qp.getD k 0)] else SN xs xb qp k
end cN
end Go.aK
namespace Go.aK
namespace cN
def Vc(s i:Int):Bool:=decide (OK (s/2^i.toNat) 1=1)
def size(s:Int):Nat→Int
 | 0=>0
 | k+1=>if Vc s k then size s k+1 else size s k
end cN
end Go.aK
end
section
namespace Go.aK.cN
def PC(xs sets:List Int):Nat→List Bool
 | 0=>List.replicate xs.length false
 | k+1=>if 0≤kN (fun y=>decide (sets.getD k 0=y)) xs then (PC xs sets k).set (kN (fun y=>decide (sets.getD k 0=y)) xs).toNat true else PC xs sets k
def als:List Int:=[0,1,4,3,5,7]
def alr(b:Bool):List Bool:=[true,true,b,true,true,true]
end Go.aK.cN
namespace Go.aK.cN
end Go.aK.cN
end
section
namespace Go.aK.cN
def K6(x:Int):Prop := -9223372036854775808≤x∧x≤9223372036854775807
end Go.aK.cN
namespace Go.aK.cN
def aj6(xs:List Int):Prop:=xs.Nodup∧(∀ x∈xs,0≤x∧x<32)∧xs.Pairwise fun a b=>size a 64≤size b 64
end Go.aK.cN
end
section
namespace Go.aK.cN
end Go.aK.cN
end
section
namespace Go.aK.cN
variable {xs:List Int}{M:List Bool}{k:Nat}
variable (bD:xs.Nodup)(aY:∀ x∈xs,K6 x)(aE:k<xs.length)(aaX:k<M.length)(hu:M.getD k false=false)
include bD aY aE aaX hu
end Go.aK.cN
end
section
namespace Go.aK.cN
def QA(xs:List Int)(s:Int):Nat→List Int
 | 0=>[]
 | k+1=>if nt (xs.getD k 0) s then QA xs s k++[xs.getD k 0] else QA xs s k
def Qy(xs:List Int)(s:Int)(cW:List Bool):Nat→List Bool
 | 0=>[]
 | k+1=>if nt (xs.getD k 0) s then Qy xs s cW k++[cW.getD k false] else Qy xs s cW k
end Go.aK.cN
namespace Go.aK.cN
end Go.aK.cN
end
section
namespace Go.aK.cN
def akI(xs:List Int)(xb M:List Bool)(i:Nat):Prop:=∀ a,a<i→∀ k,k<a→xb.getD a false=true→M.getD k false=true→nt (xs.getD k 0) (xs.getD a 0)=true→M.getD a false=true
def akJ(xs:List Int)(xb M:List Bool)(a k:Nat):Prop:=∀ j,j<k→xb.getD a false=true→M.getD j false=true→nt (xs.getD j 0) (xs.getD a 0)=true→M.getD a false=true
def aqa(x:Int):Int:=[0,1,1,2,1,2,2,3,1,2,2,3,2,3,3,4,1,2,2,3,2,3,3,4,2,3,3,4,3,4,4,5].getD x.toNat 0
section
variable {xs:List Int}{xb M:List Bool}(bD:xs.Nodup)(aY:∀ x∈xs,K6 x)(bw:uH xs.length xb M=true)
include bD bw
end
end Go.aK.cN
namespace Go.aK.cN
end Go.aK.cN
end
section
namespace Go.aK.cN
def pm(f:Nat→Int)(n i:Nat):List Int:=(List.range n).map fun j=>if j<i then f j else 0
def lZ(xb:List Bool)(ks:List (List UInt8))(i:Nat)(key:List UInt8):Option Nat:=(List.range i).find? fun j=>xb.getD j false&&decide (ks.getD j []=key)
def oI(xb:List Bool)(ks:List (List UInt8))(i:Nat):Int:=if xb.getD i false then ((lZ xb ks (i+1) (ks.getD i [])).map Int.ofNat).getD (-1) else -1
def cls(xb:List Bool)(ks:List (List UInt8)):List Int:=pm (oI xb ks) ks.length ks.length
theorem Gi(xb:List Bool)(ks:List (List UInt8))(i:Nat)(key:List UInt8):lZ xb ks (i+1) key=(lZ xb ks i key).or (if xb.getD i false&&decide (ks.getD i []=key) then some i else none):=by
 unfold lZ
 rw [List.range_succ,List.find?_append]
 congr 1
 rw [List.find?_cons,List.find?_nil]
 cases (xb.getD i false&&decide (ks.getD i []=key)) <;> rfl
theorem Yx{xb:List Bool}{ks:List (List UInt8)}{i:Nat}{key:List UInt8}(h:xb.getD i false=false):lZ xb ks (i+1) key=lZ xb ks i key:=by
 rw [Gi,h];simp
theorem Nn{xb:List Bool}{ks:List (List UInt8)}{i:Nat}(h:(lZ xb ks i (ks.getD i [])).isSome=true)(key:List UInt8):lZ xb ks (i+1) key=lZ xb ks i key:=by
 rw [Gi]
 by_cases aE:ks.getD i []=key
 ·subst aE
  obtain ⟨j,aV⟩:=Option.isSome_iff_exists.1 h
  rw [aV];rfl
 ·rw [decide_eq_false aE,Bool.and_false];simp
theorem Nl{xb:List Bool}{ks:List (List UInt8)}{i:Nat}(aw:xb.getD i false=true)(h:(lZ xb ks i (ks.getD i [])).isSome=false)(key:List UInt8):lZ xb ks (i+1) key=if key=ks.getD i [] then some i else lZ xb ks i key:=by
 rw [Gi,aw]
 by_cases aE:key=ks.getD i []
 ·subst aE
  rw [Option.isSome_eq_false_iff,Option.isNone_iff_eq_none] at h
  rw [h,if_pos rfl]
  simp
 ·rw [if_neg aE]
  have:¬ ks.getD i []=key:=fun e=>aE e.symm
  simp only [this,decide_false,Bool.and_false,Bool.false_eq_true,if_false,Option.or_none]
theorem VO{xb:List Bool}{ks:List (List UInt8)}{i:Nat}(aw:xb.getD i false=true)(h:(lZ xb ks i (ks.getD i [])).isSome=false):oI xb ks i=i:=by
 unfold oI
 rw [if_pos aw,Nl aw h,if_pos rfl]
 rfl
theorem VP{xb:List Bool}{ks:List (List UInt8)}{i j:Nat}(aw:xb.getD i false=true)(h:lZ xb ks i (ks.getD i [])=some j):oI xb ks i=j:=by
 unfold oI
 rw [if_pos aw,Nn (by rw [h];rfl),h]
 rfl
def nT(xb:List Bool)(ks:List (List UInt8))(i:Nat)(ml:List (List UInt8×Value)):Prop:=(∀ p∈ml,p.1.length=16)∧∀ key,gv ml key=(lZ xb ks i key).map fun j=>aA (j:Int)
theorem nT.start(xb:List Bool)(ks:List (List UInt8)):nT xb ks 0 []:=⟨fun p h=>(by cases h),fun key=>rfl⟩
theorem nT.no{xb:List Bool}{ks:List (List UInt8)}{i:Nat}{ml:List (List UInt8×Value)}(h:nT xb ks i ml)(aw:xb.getD i false=false):nT xb ks (i+1) ml:=⟨h.1,fun key=>by rw [Yx aw];exact h.2 key⟩
theorem nT.OM{xb:List Bool}{ks:List (List UInt8)}{i:Nat}{ml:List (List UInt8×Value)}(h:nT xb ks i ml):(gv ml (ks.getD i [])).isSome=(lZ xb ks i (ks.getD i [])).isSome:=by rw [h.2];cases lZ xb ks i (ks.getD i []) <;> rfl
theorem nT.old{xb:List Bool}{ks:List (List UInt8)}{i:Nat}{ml:List (List UInt8×Value)}(h:nT xb ks i ml)(aw:xb.getD i false=true)(hs:(gv ml (ks.getD i [])).isSome=true):nT xb ks (i+1) ml∧gv ml (ks.getD i [])=Option.some (aA (oI xb ks i)):=by
 rw [h.OM] at hs
 refine ⟨⟨h.1,fun key=>by rw [Nn hs];exact h.2 key⟩,?_⟩
 obtain ⟨j,aV⟩:=Option.isSome_iff_exists.1 hs
 rw [h.2,aV,VP aw aV]
 rfl
theorem Li{a:List UInt8}{v:Value}:∀ {l:List (List UInt8×Value)}{p},p∈iG a v l→p=(a,v)∨p∈l
 | [],p,h=>by simp [iG] at h;exact .inl h
 | q::l,p,h=>by
  rw [iG] at h
  split at h
  ·rcases List.mem_cons.1 h with h | h
   ·exact .inl h
   ·exact .inr (List.mem_cons_of_mem _ h)
  ·rcases List.mem_cons.1 h with h | h
   ·exact .inr (by rw [h];simp)
   ·rcases Li h with h | h
    ·exact .inl h
    ·exact .inr (List.mem_cons_of_mem _ h)
theorem nT.new{xb:List Bool}{ks:List (List UInt8)}{i:Nat}{ml:List (List UInt8×Value)}(h:nT xb ks i ml)(aE:(ks.getD i []).length=16)(aw:xb.getD i false=true)(hs:(gv ml (ks.getD i [])).isSome=false):nT xb ks (i+1) (iG (ks.getD i []) (aA (i:Int)) ml)∧oI xb ks i=i∧gv (iG (ks.getD i []) (aA (i:Int)) ml) (ks.getD i [])=Option.some (aA (i:Int)):=by
 rw [h.OM] at hs
 refine ⟨⟨fun p bO=>?_,fun key=>?_⟩,VO aw hs,by rw [uv,if_pos rfl]⟩
 ·rcases Li bO with rfl | bO
  ·exact aE
  ·exact h.1 p bO
 ·rw [uv,Nl aw hs]
  split
  ·rfl
  ·exact h.2 key
end Go.aK.cN
namespace Go.aK.cN
def ac3(m:List Int)(i:Int):List UInt8:=hI (yG m i 6)::List.replicate 15 0
def aoj(m:List Int)(n:Nat):List (List UInt8):=(List.range n).map fun (j:Nat)=>ac3 m (j:Int)
end Go.aK.cN
namespace Go.aK.cN
end Go.aK.cN
namespace Go.aK.cN
def Wg(xb:List Bool)(ks:List (List UInt8))(cW:List Bool)(i:Nat):Bool:=decide (0≤oI xb ks i)&&(cW.getD (oI xb ks i).toNat false != cW.getD i false)
def gM(xs:List Int)(xb:List Bool)(ks:List (List UInt8))(cW:List Bool):List Int×List Int×List Bool×Int:=
 if uH xs.length xb cW=true then
  if ks.length=xs.length then
   if ((List.range ks.length).any fun i=>Wg xb ks cW i)=true then ([],[],[],16) else (qp xs xb cW,cls xb ks,cW,0)
  else ([],[],[],1)
 else ([],[],[],1)
end Go.aK.cN
namespace Go.aK.cN
end Go.aK.cN
end
section
namespace Go.aK.cN
def adZ(bits:Int)(b:UInt8):Bool := !decide ((bits/2^(min ((dA (b.toNat:Int)).toNat:Int).toNat 64)).tmod 2=0)
def aeb(xb:List Bool)(ks:List (List UInt8))(bits:Int)(j:Nat):Bool:=xb.getD j false&&adZ bits ((ks.getD j []).getD 0 0)
def aea(xb:List Bool)(ks:List (List UInt8))(bits:Int):Nat→List Bool
 | 0=>[]
 | k+1=>aea xb ks bits k++[aeb xb ks bits k]
def acX(F:List Int)(B:List Bool)(j:Nat):Int:=if F.getD j 0=(j:Int) then (if B.getD j false then 2 else 1) else 0
def ek(F:List Int)(B:List Bool):List Int:=pm (acX F B) F.length F.length
def VJ(k:Int):Bool:=decide (k<0) || decide (2<k)
def VI(xb:List Bool)(ks:List (List UInt8))(K:List Int)(B:List Bool)(i:Nat):Bool:=decide (0≤oI xb ks i)&&(decide (K.getD (oI xb ks i).toNat 0=0) || !(decide (K.getD (oI xb ks i).toNat 0=2) == B.getD i false))
def jT(xs:List Int)(xb:List Bool)(ks:List (List UInt8))(K S F:List Int)(B:List Bool):Int:=
 if (xb.length=xs.length∧ks.length=xs.length∧K.length=xs.length)∧K.any VJ=false then
  if (ge xs xb B=0∧qp xs xb B=S)∧cls xb ks=F then
   if ((List.range ks.length).any fun i=>VI xb ks K B i)=true then 17 else 0
  else 17
 else 1
section
variable {xs:List Int}{xb:List Bool}{ks:List (List UInt8)}{K S F:List Int}{B:List Bool}
end
end Go.aK.cN
namespace Go.aK.cN
end Go.aK.cN
end
section
namespace Go.aK.cN
def nY(B:List Bool)(b:Int):Int:=fl b (max (B.length:Int) 1)
def dj(S:List Int)(h b:Int):List Int:=if fl h 6=2 then S.tail else if fl h 6=3 then S++[fl b 32] else S
def akQ(F:List Int)(B:List Bool)(h b:Int):List Int:=
 if fl h 6=1 then (if nY B b<F.length then F.set (nY B b).toNat (fl b ((F.length:Int)+2)-1) else F)
 else if fl h 6=5 then F++[b] else F
def akP(B:List Bool)(h b:Int):List Bool:=
 if fl h 6=0 then (if nY B b<B.length then B.set (nY B b).toNat (!B.getD (nY B b).toNat false) else B)
 else if fl h 6=4 then B++[decide (b.tmod 2=0)] else B
section
variable {S F:List Int}{B:List Bool}{h b:Int}
end
end Go.aK.cN
end
section
namespace Go.aK.cN
section
variable {xs:List Int}{xb:List Bool}{ks:List (List UInt8)}{M:List Bool}
end
theorem UT{k m:Int}(h0:0≤k)(h1:k<m):fl k m=k:=by
 unfold fl
 rw [if_neg ag]
 exact Int.emod_eq_of_lt h0 h1
end Go.aK.cN
end
