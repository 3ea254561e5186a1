/- walks and plain laws -/
import Derived.Test.YtngcjojijaknnaaGreatDoorFwA
import Derived.Test.YtngcjojijaknnaaGreatDoorFwC
set_option linter.all false
section
/- Plain laws of the package guilt and what it stands on. -/
namespace Go.aJ
namespace cM
def kd(p:Int→Bool)(xs:List Int):Int:=match xs.findIdx? p with
 | some k=>k
 | none => -1
theorem Gv{p:Int→Bool}{xs:List Int}{i:Nat}(aG:i<xs.length)(bN:p (xs.getD i 0)=true)(bA:∀ j,j<i→p (xs.getD j 0)=false):kd p xs=i:=by
 have:xs.findIdx? p=some i:=by
  rw [List.findIdx?_eq_some_iff_getElem]
  refine ⟨aG,by simpa [aG] using bN,fun j a6=>?_⟩
  have:=bA j a6
  have rR:j<xs.length:=by omega
  simpa [rR] using this
 unfold kd
 rw [this]
theorem BG{p:Int→Bool}{xs:List Int}(bA:∀ j,j<xs.length→p (xs.getD j 0)=false):kd p xs = -1:=by
 have:xs.findIdx? p=none:=by
  rw [List.findIdx?_eq_none_iff]
  intro x aL
  obtain ⟨j,a6,rfl⟩:=List.mem_iff_getElem.1 aL
  have:=bA j a6
  simpa [a6] using this
 unfold kd
 rw [this]
theorem BF(p:Int→Bool)(xs:List Int):decide (0≤kd p xs)=xs.any p:=by
 unfold kd
 cases h:xs.findIdx? p with
 | none=>
  have h:=List.findIdx?_eq_none_iff.1 h
  have:xs.any p=false:=List.any_eq_false.2 fun x aL=>by simp [h x aL]
  rw [this];rfl
 | some k=>
  obtain ⟨h1,aq,_⟩:=List.findIdx?_eq_some_iff_getElem.1 h
  have:xs.any p=true:=List.any_eq_true.2 ⟨_,List.getElem_mem h1,aq⟩
  rw [this]
  simp
theorem aad(n:Int)(xs:List Int):decide (0≤kd (fun x=>decide (n=x)) xs)=decide (n∈xs):=by
 rw [BF]
 by_cases h:n∈xs
 ·rw [decide_eq_true h]
  exact List.any_eq_true.2 ⟨n,h,by simp⟩
 ·rw [decide_eq_false h]
  exact List.any_eq_false.2 fun x aL=>by simp;rintro rfl;exact h aL
theorem B2{p:Int→Bool}{xs:List Int}{i:Int}(aG:0≤i)(bN:p (xs.getD i.toNat 0)=false)(bA:∀ j,j<i.toNat→p (xs.getD j 0)=false):∀ j,j<(i+1).toNat→p (xs.getD j 0)=false:=fun j a6=>by
 rcases Nat.lt_or_ge j i.toNat with h | h
 ·exact bA j h
 ·obtain rfl:j=i.toNat:=by omega
  exact bN
def AK(p:Int→Int→Bool)(l:List Int):Nat→List Int
 | 0=>[]
 | k+1=>if p k (l.getD k 0) && !decide (l.getD k 0∈AK p l k) then AK p l k++[l.getD k 0] else AK p l k
def xF(b:Int→Int→Bool)(l:List Int):Nat→List Int
 | 0=>[]
 | k+1=>if !decide (l.getD k 0∈xF b l k) && !(l.any fun t => !decide (t=l.getD k 0)&&b t (l.getD k 0)) then xF b l k++[l.getD k 0] else xF b l k
theorem WS{xs:List Int}{k:Nat}(h:k<xs.length):xs.getD k 0∈xs:=by rw [List.getD_eq_getElem?_getD,List.getElem?_eq_getElem h];exact List.getElem_mem h
def mS(a b:Int):Bool:=decide (MO a b=a)
end cM
end Go.aJ
end
section
namespace Go.aJ
namespace cM
theorem abB{n:Int}{xs:List Int}(h:∀ j,j<xs.length→xs.getD j 0≠n):decide (n∈xs)=false:=decide_eq_false fun hm=>by
 obtain ⟨j,a6,rfl⟩:=List.mem_iff_getElem.1 hm
 exact h j a6 (by simp [a6])
theorem abC{n:Int}{xs:List Int}{j:Nat}(a6:j<xs.length)(h:xs.getD j 0=n):decide (n∈xs)=true:=decide_eq_true (h ▸ WS a6)
theorem ab8{xs:List Int}{n i:Int}(aG:0≤i)(bN:¬ xs.getD i.toNat 0=n)(bA:∀ j,j<i.toNat→xs.getD j 0≠n):∀ j,j<(i+1).toNat→xs.getD j 0≠n:=fun j a6=>by
 rcases Nat.lt_or_ge j i.toNat with h | h
 ·exact bA j h
 ·obtain rfl:j=i.toNat:=by omega
  exact bN
def tf(s:Nat)(xb cP:List Bool):Bool:=decide (cP.length=s)&&decide (xb.length=s)&&(List.range cP.length).all fun j => !(cP.getD j false && !xb.getD j false)
def BR(xs:List Int)(cP:List Bool):Nat→List Int
 | 0=>[]
 | k+1=>if cP.getD k false then BR xs cP k++[xs.getD k 0] else BR xs cP k
def abF(xs:List Int)(cP:List Bool):List Int:=xF mS (BR xs cP xs.length) (BR xs cP xs.length).length
def agR(xs:List Int)(cP:List Bool)(x:Int)(k:Nat):Bool:=(List.range k).any fun j=>cP.getD j false && !decide (xs.getD j 0=x)&&mS (xs.getD j 0) x
def Hy(xs:List Int)(cP:List Bool):Nat→List Int
 | 0=>[]
 | k+1=>if (cP.getD k false && !decide (xs.getD k 0∈Hy xs cP k)) && !agR xs cP (xs.getD k 0) xs.length then Hy xs cP k++[xs.getD k 0] else Hy xs cP k
def pG(xs:List Int)(xb cP:List Bool):List Int:=if tf xs.length xb cP then abF xs cP else []
def ge(xs:List Int)(xb cP:List Bool):Int:=if tf xs.length xb cP then 0 else 1
end cM
end Go.aJ
end
section
namespace Go.aJ
namespace iw
theorem agk{α:Type}(d:α){a b:List α}{i:Nat}(a7:i<a.length)(au:i<b.length)(h:a.take i=b.take i):a.take (i+1)=b.take (i+1)↔a.getD i d=b.getD i d:=by
 rw [List.take_succ_eq_append_getElem a7,List.take_succ_eq_append_getElem au,h,List.getD_eq_getElem?_getD,List.getD_eq_getElem?_getD,List.getElem?_eq_getElem a7,List.getElem?_eq_getElem au]
 constructor
 ·intro h1
  have:=List.append_cancel_left h1
  injection this
 ·intro h1
  have aq:a[i]=b[i]:=h1
  rw [aq]
theorem HM{α:Type}[DecidableEq α]{a b:List α}(h:¬ (a.length:Int)=b.length):Value.bool false=.bool (decide (a=b)):=by
 rw [decide_eq_false (fun e=>h (by rw [e]))]
theorem HN{α:Type}[DecidableEq α]{a b:List α}(d:α){i:Int}(h:¬ a.getD i.toNat d=b.getD i.toNat d):Value.bool false=.bool (decide (a=b)):=by
 rw [decide_eq_false (fun e=>h (by rw [e]))]
theorem HL{α:Type}[DecidableEq α]{a b:List α}{i:Int}(hl:(a.length:Int)=b.length)(aG:¬ i<a.length)(h:a.take i.toNat=b.take i.toNat):Value.bool true=.bool (decide (a=b)):=by
 rw [List.take_of_length_le (by omega),List.take_of_length_le (by omega)] at h
 rw [decide_eq_true h]
theorem HO{α:Type}(d:α){a b:List α}{i:Int}(h0:0≤i)(a7:i<a.length)(hl:(a.length:Int)=b.length)(he:a.getD i.toNat d=b.getD i.toNat d)(h:a.take i.toNat=b.take i.toNat):a.take (i+1).toNat=b.take (i+1).toNat:=by
 rw [show (i+1).toNat=i.toNat+1 by omega]
 exact (agk d (by omega) (by omega) h).2 he
theorem getD_some{α:Type}(d:α){l:List α}{i:Nat}(h:i<l.length):l[i]?=some (l.getD i d):=by
 rw [List.getD_eq_getElem?_getD,List.getElem?_eq_getElem h];rfl
end iw
end Go.aJ
end
section
namespace Go.aJ
namespace cM
def acz(xs:List Int)(cP:List Bool):Bool:=(List.range cP.length).any fun j=>cP.getD j false&&decide (xs.getD j 0=0)
def aji(xs:List Int)(xb cP:List Bool):Bool:=tf xs.length xb cP&&acz xs cP
def fo(n m:Int):Int:=(if n<0 then -(n+1) else n)%m
theorem rm{n m:Int}(hm:0<m):0≤fo n m∧fo n m<m:=by
 unfold fo
 exact ⟨Int.emod_nonneg _ (by omega),Int.emod_lt_of_pos _ hm⟩
def xo(l:List Int)(i m:Int):Int:=if i<0∨(l.length:Int)≤i then 0 else fo (l.getD i.toNat 0) m
end cM
end Go.aJ
end
section
namespace Go.aJ
namespace cM
def alB(l:List Int)(s:Int)(k:Nat):List Int:=(l.take k).filter fun y=>mS y s
theorem H6{l:List Int}{k:Nat}(h:k<l.length):l.take (k+1)=l.take k++[l.getD k 0]:=by
 rw [List.take_add_one,List.getElem?_eq_getElem h,List.getD_eq_getElem?_getD,List.getElem?_eq_getElem h]
 rfl
def bN(xb cP:List Bool)(g:List Int)(i x:Int):Bool:=(xb.getD i.toNat false && !cP.getD i.toNat false)&&g.any fun y=>mS y x
def m5(xs:List Int)(xb cP:List Bool):List Int:=if tf xs.length xb cP then AK (bN xb cP (pG xs xb cP)) xs xs.length else []
def ajQ(xs:List Int)(xb cP:List Bool)(s:Int):List Int:=if s∈m5 xs xb cP then (pG xs xb cP).filter fun y=>mS y s else []
def ajP(xs:List Int)(xb cP:List Bool)(s:Int):Int:=if tf xs.length xb cP then (if s∈m5 xs xb cP then 0 else 6) else 1
end cM
end Go.aJ
namespace Go.aJ
namespace cM
variable {xs:List Int}{xb cP:List Bool}{s:Int}
def inr(xs:List Int)(s:Int):Nat→Int
 | 0=>0
 | k+1=>if mS (xs.getD k 0) s then BE (inr xs s k) (xs.getD k 0) else inr xs s k
end cM
end Go.aJ
end
section
namespace Go.aJ
namespace cM
def del(s y:Int):Bool:=decide (y=s) || !mS y s
def kept(s:Int)(xs:List Int):List Int:=xs.filter fun y => !del s y
structure nS (s:Int) (xs ys:List Int) (i j:Int):Prop where
 i0:0≤i∧i<j∧j≤xs.length
 len:ys.length=xs.length
 head:ys.take i.toNat=kept s (xs.take j.toNat)
 tail:ys.drop j.toNat=xs.drop j.toNat
def DU(xs:List Int)(s:Int):List Int:=xF (fun a b=>mS b a) (kept s xs) (kept s xs).length
theorem aax{s:Int}{xs:List Int}(h:∀ x∈xs,del s x=false):kept s xs=xs:=List.filter_eq_self.2 fun x aL=>by rw [h x aL];rfl
theorem nS.start{s:Int}{xs:List Int}{i:Int}(aG:0≤i∧i<xs.length)(bN:del s (xs.getD i.toNat 0)=true)(bA:∀ j,j<i.toNat→del s (xs.getD j 0)=false):nS s xs xs i (i+1):=by
 refine ⟨by omega,rfl,?_,rfl⟩
 rw [show (i+1).toNat=i.toNat+1 by omega,H6 (by omega),kept,List.filter_append,List.filter_cons,if_neg (by rw [bN];decide),List.filter_nil,List.append_nil]
 refine (aax (s:=s) fun x aL=>?_).symm
 obtain ⟨j,a6,rfl⟩:=List.mem_iff_getElem.1 aL
 rw [List.length_take] at a6
 have:=bA j (by omega)
 rw [List.getElem_take]
 rwa [List.getD_eq_getElem?_getD,List.getElem?_eq_getElem (by omega)] at this
theorem nS.get{s:Int}{xs ys:List Int}{i j:Int}(h:nS s xs ys i j)(a6:j<xs.length):ys.getD j.toNat 0=xs.getD j.toNat 0:=by
 have:=congrArg (·[0]?) h.tail
 simp only [List.getElem?_drop,Nat.add_zero] at this
 rw [List.getD_eq_getElem?_getD,List.getD_eq_getElem?_getD,this]
theorem nS.skip{s:Int}{xs ys:List Int}{i j:Int}(h:nS s xs ys i j)(a6:j<xs.length)(bN:del s (ys.getD j.toNat 0)=true):nS s xs ys i (j+1):=by
 have aO:=h.get a6
 rw [aO] at bN
 have:=h.i0
 refine ⟨by omega,h.len,?_,?_⟩
 ·rw [h.head,show (j+1).toNat=j.toNat+1 by omega,H6 (by omega)]
  unfold kept
  rw [List.filter_append,List.filter_cons,if_neg (by rw [bN];decide),List.filter_nil,List.append_nil]
 ·have:=congrArg (List.drop 1) h.tail
  rwa [List.drop_drop,List.drop_drop,show j.toNat+1=(j+1).toNat by omega] at this
theorem nS.ak{s:Int}{xs ys:List Int}{i j:Int}(h:nS s xs ys i j)(a6:j<xs.length)(bN:del s (ys.getD j.toNat 0)=false):nS s xs (ys.set i.toNat (ys.getD j.toNat 0)) (i+1) (j+1):=by
 have aO:=h.get a6
 have h0:=h.i0
 have hl:=h.len
 refine ⟨by omega,by rw [List.length_set];exact hl,?_,?_⟩
 ·rw [aO] at bN ⊢
  rw [show (i+1).toNat=i.toNat+1 by omega,show (j+1).toNat=j.toNat+1 by omega,H6 (show j.toNat<xs.length by omega),List.take_set,List.take_add_one,List.getElem?_eq_getElem (by omega)]
  have gL:(ys.take i.toNat).length=i.toNat:=by rw [List.length_take];omega
  rw [List.set_append_right _ _ (by omega),gL,Nat.sub_self]
  simp only [Option.toList_some,List.set_cons_zero]
  rw [h.head]
  unfold kept
  rw [List.filter_append,List.filter_cons,if_pos (by rw [bN];rfl),List.filter_nil]
 ·have:=congrArg (List.drop 1) h.tail
  rw [List.drop_drop,List.drop_drop,show j.toNat+1=(j+1).toNat by omega] at this
  rw [List.drop_set_of_lt (by omega)]
  exact this
theorem nS.done{s:Int}{xs ys:List Int}{i j:Int}(h:nS s xs ys i j)(a6:¬ j<xs.length):ys.take i.toNat=kept s xs:=by
 have:=h.i0
 rw [h.head,List.take_of_length_le (by omega)]
end cM
end Go.aJ
end
section
namespace Go.aJ
namespace cM
def Tj(xs:List Int)(s x:Int)(k:Nat):Bool:=(List.range k).any fun j=>((!decide (xs.getD j 0=s)&&mS (xs.getD j 0) s) && !decide (xs.getD j 0=x))&&mS x (xs.getD j 0)
def Hs(xs:List Int)(s:Int):Nat→List Int
 | 0=>[]
 | k+1=>if ((!decide (xs.getD k 0=s)&&mS (xs.getD k 0) s) && !decide (xs.getD k 0∈Hs xs s k)) && !Tj xs s (xs.getD k 0) xs.length then Hs xs s k++[xs.getD k 0] else Hs xs s k
end cM
end Go.aJ
namespace Go.aJ
namespace cM
def Uv(xb:List Bool)(m:List Int):Nat→List Bool
 | 0=>[]
 | k+1=>Uv xb m k++[xb.getD k false&&decide (xo m k 3=1)]
end cM
end Go.aJ
end
section
namespace Go.aJ
namespace cM
def Ta(xs:List Int)(xb:List Bool)(y:Int):Bool:=xb.getD (kd (fun t=>decide (y=t)) xs).toNat false
def acv(xs:List Int)(xb:List Bool)(g:Int):Bool:=decide (1<(DU xs g).length)&&(DU xs g).all (Ta xs xb)
def QJ(xs:List Int)(xb:List Bool)(pG:List Int):Nat→List (List Int)
 | 0=>[]
 | k+1=>if acv xs xb (pG.getD k 0) then QJ xs xb pG k++[pG.getD k 0::DU xs (pG.getD k 0)] else QJ xs xb pG k
end cM
end Go.aJ
namespace Go.aJ
namespace cM
def S5(s i:Int):Bool:=decide (MO (s/2^i.toNat) 1=1)
def size(s:Int):Nat→Int
 | 0=>0
 | k+1=>if S5 s k then size s k+1 else size s k
end cM
end Go.aJ
end
section
namespace Go.aJ.cM
def NF(xs sets:List Int):Nat→List Bool
 | 0=>List.replicate xs.length false
 | k+1=>if 0≤kd (fun y=>decide (sets.getD k 0=y)) xs then (NF xs sets k).set (kd (fun y=>decide (sets.getD k 0=y)) xs).toNat true else NF xs sets k
def ai5:List Int:=[0,1,4,3,5,7]
def ai4(b:Bool):List Bool:=[true,true,b,true,true,true]
end Go.aJ.cM
namespace Go.aJ.cM
end Go.aJ.cM
end
section
namespace Go.aJ.cM
def Ju(x:Int):Prop := -9223372036854775808≤x∧x≤9223372036854775807
end Go.aJ.cM
namespace Go.aJ.cM
def ahR(xs:List Int):Prop:=xs.Nodup∧(∀ x∈xs,0≤x∧x<32)∧xs.Pairwise fun a b=>size a 64≤size b 64
end Go.aJ.cM
end
section
namespace Go.aJ.cM
end Go.aJ.cM
end
section
namespace Go.aJ.cM
variable {xs:List Int}{M:List Bool}{k:Nat}
variable (bA:xs.Nodup)(aY:∀ x∈xs,Ju x)(aD:k<xs.length)(YO:k<M.length)(hu:M.getD k false=false)
include bA aY aD YO hu
end Go.aJ.cM
end
section
namespace Go.aJ.cM
def OD(xs:List Int)(s:Int):Nat→List Int
 | 0=>[]
 | k+1=>if mS (xs.getD k 0) s then OD xs s k++[xs.getD k 0] else OD xs s k
def OB(xs:List Int)(s:Int)(cP:List Bool):Nat→List Bool
 | 0=>[]
 | k+1=>if mS (xs.getD k 0) s then OB xs s cP k++[cP.getD k false] else OB xs s cP k
end Go.aJ.cM
namespace Go.aJ.cM
end Go.aJ.cM
end
section
namespace Go.aJ.cM
def aiu(xs:List Int)(xb M:List Bool)(i:Nat):Prop:=∀ a,a<i→∀ k,k<a→xb.getD a false=true→M.getD k false=true→mS (xs.getD k 0) (xs.getD a 0)=true→M.getD a false=true
def aiv(xs:List Int)(xb M:List Bool)(a k:Nat):Prop:=∀ j,j<k→xb.getD a false=true→M.getD j false=true→mS (xs.getD j 0) (xs.getD a 0)=true→M.getD a false=true
def ana(x:Int):Int:=[0,1,1,2,1,2,2,3,1,2,2,3,2,3,3,4,1,2,2,3,2,3,3,4,2,3,3,4,3,4,4,5].getD x.toNat 0
section
variable {xs:List Int}{xb M:List Bool}(bA:xs.Nodup)(aY:∀ x∈xs,Ju x)(bw:tf xs.length xb M=true)
include bA bw
end
end Go.aJ.cM
namespace Go.aJ.cM
end Go.aJ.cM
end
section
namespace Go.aJ.cM
def pm(f:Nat→Int)(n i:Nat):List Int:=(List.range n).map fun j=>if j<i then f j else 0
def lq(xb:List Bool)(ks:List (List UInt8))(i:Nat)(key:List UInt8):Option Nat:=(List.range i).find? fun j=>xb.getD j false&&decide (ks.getD j []=key)
def nV(xb:List Bool)(ks:List (List UInt8))(i:Nat):Int:=if xb.getD i false then ((lq xb ks (i+1) (ks.getD i [])).map Int.ofNat).getD (-1) else -1
def cls(xb:List Bool)(ks:List (List UInt8)):List Int:=pm (nV xb ks) ks.length ks.length
theorem ES(xb:List Bool)(ks:List (List UInt8))(i:Nat)(key:List UInt8):lq xb ks (i+1) key=(lq xb ks i key).or (if xb.getD i false&&decide (ks.getD i []=key) then some i else none):=by
 unfold lq
 rw [List.range_succ,List.find?_append]
 congr 1
 rw [List.find?_cons,List.find?_nil]
 cases (xb.getD i false&&decide (ks.getD i []=key)) <;> rfl
theorem Wy{xb:List Bool}{ks:List (List UInt8)}{i:Nat}{key:List UInt8}(h:xb.getD i false=false):lq xb ks (i+1) key=lq xb ks i key:=by
 rw [ES,h];simp
theorem Lx{xb:List Bool}{ks:List (List UInt8)}{i:Nat}(h:(lq xb ks i (ks.getD i [])).isSome=true)(key:List UInt8):lq xb ks (i+1) key=lq xb ks i key:=by
 rw [ES]
 by_cases aD:ks.getD i []=key
 ·subst aD
  obtain ⟨j,a6⟩:=Option.isSome_iff_exists.1 h
  rw [a6];rfl
 ·rw [decide_eq_false aD,Bool.and_false];simp
theorem Lw{xb:List Bool}{ks:List (List UInt8)}{i:Nat}(au:xb.getD i false=true)(h:(lq xb ks i (ks.getD i [])).isSome=false)(key:List UInt8):lq xb ks (i+1) key=if key=ks.getD i [] then some i else lq xb ks i key:=by
 rw [ES,au]
 by_cases aD:key=ks.getD i []
 ·subst aD
  rw [Option.isSome_eq_false_iff,Option.isNone_iff_eq_none] at h
  rw [h,if_pos rfl]
  simp
 ·rw [if_neg aD]
  have:¬ ks.getD i []=key:=fun e=>aD e.symm
  simp only [this,decide_false,Bool.and_false,Bool.false_eq_true,if_false,Option.or_none]
theorem TH{xb:List Bool}{ks:List (List UInt8)}{i:Nat}(au:xb.getD i false=true)(h:(lq xb ks i (ks.getD i [])).isSome=false):nV xb ks i=i:=by
 unfold nV
 rw [if_pos au,Lw au h,if_pos rfl]
 rfl
theorem TI{xb:List Bool}{ks:List (List UInt8)}{i j:Nat}(au:xb.getD i false=true)(h:lq xb ks i (ks.getD i [])=some j):nV xb ks i=j:=by
 unfold nV
 rw [if_pos au,Lx (by rw [h];rfl),h]
 rfl
def nh(xb:List Bool)(ks:List (List UInt8))(i:Nat)(ml:List (List UInt8×Value)):Prop:=(∀ p∈ml,p.1.length=16)∧∀ key,fN ml key=(lq xb ks i key).map fun j=>az (j:Int)
theorem nh.start(xb:List Bool)(ks:List (List UInt8)):nh xb ks 0 []:=⟨fun p h=>(by cases h),fun key=>rfl⟩
theorem nh.no{xb:List Bool}{ks:List (List UInt8)}{i:Nat}{ml:List (List UInt8×Value)}(h:nh xb ks i ml)(au:xb.getD i false=false):nh xb ks (i+1) ml:=⟨h.1,fun key=>by rw [Wy au];exact h.2 key⟩
theorem nh.MQ{xb:List Bool}{ks:List (List UInt8)}{i:Nat}{ml:List (List UInt8×Value)}(h:nh xb ks i ml):(fN ml (ks.getD i [])).isSome=(lq xb ks i (ks.getD i [])).isSome:=by rw [h.2];cases lq xb ks i (ks.getD i []) <;> rfl
theorem nh.old{xb:List Bool}{ks:List (List UInt8)}{i:Nat}{ml:List (List UInt8×Value)}(h:nh xb ks i ml)(au:xb.getD i false=true)(hs:(fN ml (ks.getD i [])).isSome=true):nh xb ks (i+1) ml∧fN ml (ks.getD i [])=Option.some (az (nV xb ks i)):=by
 rw [h.MQ] at hs
 refine ⟨⟨h.1,fun key=>by rw [Lx hs];exact h.2 key⟩,?_⟩
 obtain ⟨j,a6⟩:=Option.isSome_iff_exists.1 hs
 rw [h.2,a6,TI au a6]
 rfl
theorem JE{a:List UInt8}{v:Value}:∀ {l:List (List UInt8×Value)}{p},p∈h4 a v l→p=(a,v)∨p∈l
 | [],p,h=>by simp [h4] at h;exact .inl h
 | q::l,p,h=>by
  rw [h4] at h
  split at h
  ·rcases List.mem_cons.1 h with h | h
   ·exact .inl h
   ·exact .inr (List.mem_cons_of_mem _ h)
  ·rcases List.mem_cons.1 h with h | h
   ·exact .inr (by rw [h];simp)
   ·rcases JE h with h | h
    ·exact .inl h
    ·exact .inr (List.mem_cons_of_mem _ h)
theorem nh.new{xb:List Bool}{ks:List (List UInt8)}{i:Nat}{ml:List (List UInt8×Value)}(h:nh xb ks i ml)(aD:(ks.getD i []).length=16)(au:xb.getD i false=true)(hs:(fN ml (ks.getD i [])).isSome=false):nh xb ks (i+1) (h4 (ks.getD i []) (az (i:Int)) ml)∧nV xb ks i=i∧fN (h4 (ks.getD i []) (az (i:Int)) ml) (ks.getD i [])=Option.some (az (i:Int)):=by
 rw [h.MQ] at hs
 refine ⟨⟨fun p bN=>?_,fun key=>?_⟩,TH au hs,by rw [sZ,if_pos rfl]⟩
 ·rcases JE bN with rfl | bN
  ·exact aD
  ·exact h.1 p bN
 ·rw [sZ,Lw au hs]
  split
  ·rfl
  ·exact h.2 key
end Go.aJ.cM
namespace Go.aJ.cM
def aaU(m:List Int)(i:Int):List UInt8:=hb (xo m i 6)::List.replicate 15 0
def alJ(m:List Int)(n:Nat):List (List UInt8):=(List.range n).map fun (j:Nat)=>aaU m (j:Int)
end Go.aJ.cM
namespace Go.aJ.cM
end Go.aJ.cM
namespace Go.aJ.cM
def T7(xb:List Bool)(ks:List (List UInt8))(cP:List Bool)(i:Nat):Bool:=decide (0≤nV xb ks i)&&(cP.getD (nV xb ks i).toNat false != cP.getD i false)
def gj(xs:List Int)(xb:List Bool)(ks:List (List UInt8))(cP:List Bool):List Int×List Int×List Bool×Int:=
 if tf xs.length xb cP=true then
  if ks.length=xs.length then
   if ((List.range ks.length).any fun i=>T7 xb ks cP i)=true then ([],[],[],16) else (pG xs xb cP,cls xb ks,cP,0)
  else ([],[],[],1)
 else ([],[],[],1)
end Go.aJ.cM
namespace Go.aJ.cM
end Go.aJ.cM
end
section
namespace Go.aJ.cM
def abM(bits:Int)(b:UInt8):Bool := !decide ((bits/2^(min ((di (b.toNat:Int)).toNat:Int).toNat 64)).tmod 2=0)
def abX(xb:List Bool)(ks:List (List UInt8))(bits:Int)(j:Nat):Bool:=xb.getD j false&&abM bits ((ks.getD j []).getD 0 0)
def abW(xb:List Bool)(ks:List (List UInt8))(bits:Int):Nat→List Bool
 | 0=>[]
 | k+1=>abW xb ks bits k++[abX xb ks bits k]
def aaO(F:List Int)(B:List Bool)(j:Nat):Int:=if F.getD j 0=(j:Int) then (if B.getD j false then 2 else 1) else 0
def dN(F:List Int)(B:List Bool):List Int:=pm (aaO F B) F.length F.length
def TB(k:Int):Bool:=decide (k<0) || decide (2<k)
def TA(xb:List Bool)(ks:List (List UInt8))(K:List Int)(B:List Bool)(i:Nat):Bool:=decide (0≤nV xb ks i)&&(decide (K.getD (nV xb ks i).toNat 0=0) || !(decide (K.getD (nV xb ks i).toNat 0=2) == B.getD i false))
def jr(xs:List Int)(xb:List Bool)(ks:List (List UInt8))(K S F:List Int)(B:List Bool):Int:=
 if (xb.length=xs.length∧ks.length=xs.length∧K.length=xs.length)∧K.any TB=false then
  if (ge xs xb B=0∧pG xs xb B=S)∧cls xb ks=F then
   if ((List.range ks.length).any fun i=>TA xb ks K B i)=true then 17 else 0
  else 17
 else 1
section
variable {xs:List Int}{xb:List Bool}{ks:List (List UInt8)}{K S F:List Int}{B:List Bool}
end
end Go.aJ.cM
namespace Go.aJ.cM
end Go.aJ.cM
end
section
namespace Go.aJ.cM
def ns(B:List Bool)(b:Int):Int:=fo b (max (B.length:Int) 1)
def c2(S:List Int)(h b:Int):List Int:=if fo h 6=2 then S.tail else if fo h 6=3 then S++[fo b 32] else S
def aiB(F:List Int)(B:List Bool)(h b:Int):List Int:=
 if fo h 6=1 then (if ns B b<F.length then F.set (ns B b).toNat (fo b ((F.length:Int)+2)-1) else F)
 else if fo h 6=5 then F++[b] else F
def aiA(B:List Bool)(h b:Int):List Bool:=
 if fo h 6=0 then (if ns B b<B.length then B.set (ns B b).toNat (!B.getD (ns B b).toNat false) else B)
 else if fo h 6=4 then B++[decide (b.tmod 2=0)] else B
section
variable {S F:List Int}{B:List Bool}{h b:Int}
end
end Go.aJ.cM
end
section
namespace Go.aJ.cM
section
variable {xs:List Int}{xb:List Bool}{ks:List (List UInt8)}{M:List Bool}
end
theorem SL{k m:Int}(h0:0≤k)(h1:k<m):fo k m=k:=by
 unfold fo
 rw [if_neg (by omega)]
 exact Int.emod_eq_of_lt h0 h1
end Go.aJ.cM
end
