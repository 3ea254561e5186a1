/- walks and plain laws -/
import Derived.Test.YtngcjojijaknnaaGreatDoorFwA
import Derived.Test.YtngcjojijaknnaaGreatDoorFwD
import Derived.Test.YtngcjojijaknnaaGreatDoorDkA
import Derived.Test.YtngcjojijaknnaaGreatDoorGuA
import Derived.Test.YtngcjojijaknnaaGreatDoorShW
set_option linter.all false
section
namespace aj
open Go Go.aK
def c0(n k:Nat):List UInt8:=(List.range k).map fun i=>UInt8.ofNat (n/256^i)
def eA(s:List UInt8):Nat:=s.foldr (fun c n=>256*n+c.toNat) 0
def a7(n:Int):Int:=if n<0∨8000<n then 0 else if n=0 then 1 else (n+47)/48
def p2(rest:List UInt8):List UInt8:=rest.take 48++List.replicate (48-rest.length) 0
def aT(n k:Nat)(rest:List UInt8):List UInt8:=c0 n 4++c0 k 2++c0 rest.length 2++p2 rest
def jT(b:List UInt8):List UInt8:=b++(aL.sum b).take 8
def sec(n:Int)(t:List UInt8)(k:Nat):List UInt8:=jT (aT n.toNat k (t.drop (48*k)))
def cD(n:Int)(t:List UInt8):List (List UInt8):=(List.range (a7 t.length).toNat).map (sec n t)
def pack(n:Int)(t:List UInt8):List (List UInt8)×Int:=if n<1∨4096<n then ([],1) else if 8000<t.length then ([],4) else (cD n t,0)
structure Part where
 n:Int
 p:Int
 l:Int
 t:List UInt8
 ok:Bool
deriving DecidableEq
def cv:Part:=⟨0,0,0,[],false⟩
def num(s:List UInt8):Nat:=eA (s.take 4)
def par(s:List UInt8):Nat:=eA (List.drop 4 (s.take 6))
def jZ(s:List UInt8):Nat:=eA (List.drop 6 (s.take 8))
def eR(s:List UInt8):Nat:=min (jZ s) 48
def fb(s:List UInt8):Prop:=
 s.length=64∧jT (s.take 56)=s∧1≤num s∧num s≤4096∧48*par s+jZ s≤8000∧¬ (jZ s=0∧0<par s)∧List.drop (8+eR s) (s.take 56)=List.replicate (48-eR s) 0
instance (s:List UInt8):Decidable (fb s):=by unfold fb;infer_instance
def c3(s:List UInt8):Part:=if fb s then ⟨num s,par s,jZ s,List.drop 8 (s.take (8+eR s)),true⟩ else cv
def mt(f:Part)(k:Nat)(q:Part):Bool:=q.ok&&decide (q.n=f.n)&&decide (q.p=k)&&decide (q.l=f.l-48*k)
def gT(f:Part):Nat→List Part→Bool
 | _,[]=>true
 | k,q::l=>mt f k q&&gT f (k+1) l
def mh(l:List Part):List UInt8:=l.flatMap (·.t)
def gi:List Part→Option (List UInt8×Nat)
 | []=>none
 | f::l=>if f.ok=true∧f.p=0∧1≤a7 f.l∧a7 f.l≤(f::l).length∧gT f 0 ((f::l).take (a7 f.l).toNat)=true then some (mh ((f::l).take (a7 f.l).toNat),(a7 f.l).toNat) else none
abbrev Acc:=List Int×List (List UInt8)
def pB(a:Acc)(n:Int)(t:List UInt8):Acc:=if n∈a.1 then a else (a.1++[n],a.2++[t])
def tL:Nat→List Part→Acc→Acc
 | 0,_,a=>a
 | _+1,[],a=>a
 | f+1,p::l,a=>match gi (p::l) with
  | none=>tL f l a
  | some (t,n)=>tL f ((p::l).drop n) (pB a p.n t)
def scan(l:List Part)(a:Acc):Acc:=tL l.length l a
theorem AG(f:Part)(l:List Part):gi (f::l)=if f.ok=true∧f.p=0∧1≤a7 f.l∧a7 f.l≤(f::l).length∧gT f 0 ((f::l).take (a7 f.l).toNat)=true then some (mh ((f::l).take (a7 f.l).toNat),(a7 f.l).toNat) else none:=rfl
theorem AH{l:List Part}{t:List UInt8}{n:Nat}(h:gi l=some (t,n)):1≤n∧n≤l.length:=by
 cases l with
 | nil=>cases h
 | cons f l=>
  rw [AG] at h
  by_cases bq:f.ok=true∧f.p=0∧1≤a7 f.l∧a7 f.l≤(f::l).length∧gT f 0 ((f::l).take (a7 f.l).toNat)=true
  ·rw [if_pos bq] at h
   injection h with h
   injection h with h ar
   obtain ⟨_,_,aQ,bF,_⟩:=bq
   omega
  ·rw [if_neg bq] at h;cases h
theorem Jt:∀ (f g:Nat) (l:List Part) (a:Acc),l.length≤f→l.length≤g→tL f l a=tL g l a
 | 0,0,_,_,_,_=>rfl
 | 0,g+1,[],_,_,_=>rfl
 | 0,_+1,_::_,_,h,_=>by simp at h
 | f+1,0,[],_,_,_=>rfl
 | _+1,0,_::_,_,_,h=>by simp at h
 | f+1,g+1,[],a,_,_=>rfl
 | f+1,g+1,p::l,a,h1,ar=>by
  have qq:l.length≤f:=by simpa using h1
  have nE:l.length≤g:=by simpa using ar
  unfold tL
  split
  ·exact Jt f g l a qq nE
  ·rename_i t n aY
   have:=AH aY
   exact Jt f g _ _ (by rw [List.length_drop,List.length_cons];omega) (by rw [List.length_drop,List.length_cons];omega)
theorem ahz(a:Acc):scan [] a=a:=rfl
theorem xM{l:List Part}{a:Acc}(h0:l≠[])(h:gi l=none):scan l a=scan (l.drop 1) a:=by
 cases l with
 | nil=>exact absurd rfl h0
 | cons p l=>unfold scan;rw [List.length_cons,tL,h];rfl
theorem tM{l:List Part}{a:Acc}{t:List UInt8}{n:Nat}(h:gi l=some (t,n)):scan l a=scan (l.drop n) (pB a (l.getD 0 cv).n t):=by
 cases l with
 | nil=>cases h
 | cons p l=>
  have:=AH h
  unfold scan
  rw [List.length_cons,tL,h]
  exact Jt _ _ _ _ (by rw [List.length_drop,List.length_cons];omega) (Nat.le_refl _)
structure dC where
 nums:List Int
 tx:List (List UInt8)
 bad:List Int
 next:Int
 en:Int
 gR:Bool
def z64:List UInt8:=List.replicate 64 0
def cV(S:ak.aX):List (List UInt8):=(List.range S.s.length).map fun (k:Nat)=>(ak.read S (k:Int)).1
def gH(l:List (List UInt8)):Nat→Int
 | 0=>0
 | k+1=>if l.getD k []=z64 then gH l k else ((k:Int)+1)
def hb(l:List (List UInt8)):Nat→List Int
 | 0=>[]
 | k+1=>if (c3 (l.getD k [])).ok=false∧l.getD k []≠z64 then hb l k++[(k:Int)] else hb l k
def gp(l:List (List UInt8)):Nat→Int
 | 0=>1
 | k+1=>max (gp l k) ((c3 (l.getD k [])).n+1)
def tj(l:List (List UInt8)):dC:=⟨(scan (l.map c3) ([],[])).1,(scan (l.map c3) ([],[])).2,hb l l.length,gp l l.length,gH l l.length,false⟩
def bW(S:ak.aX):dC:=tj (cV S)
def FF(l:List Int):Nat→List Int
 | 0=>[]
 | k+1=>if (k:Int)+1∈l then FF l k else FF l k++[(k:Int)+1]
def ak8(J:dC):List Int:=FF J.nums (J.next-1).toNat
def room(J:dC)(S:ak.aX):Int:=S.s.length-J.en
def cX(S:ak.aX)(at_:Int)(l:List (List UInt8)):Nat→ak.aX×Int
 | 0=>(S,0)
 | k+1=>if (cX S at_ l k).2≠0 then cX S at_ l k else ak.write (cX S at_ l k).1 (at_+k) (l.getD k [])
def iX(S:ak.aX)(at_:Int)(l:List (List UInt8)):Nat→Int×Bool
 | 0=>(0,true)
 | k+1=>if (iX S at_ l k).1≠0 then iX S at_ l k else
  if (ak.read S (at_+k)).2≠0 then ((ak.read S (at_+k)).2,false) else (0,(iX S at_ l k).2&&decide (l.getD k []=(ak.read S (at_+k)).1))
def fx(S:ak.aX)(at_:Int)(l:List (List UInt8)):ak.aX×Int×Bool:=
 if (cX S at_ l l.length).2≠0 then ((cX S at_ l l.length).1,(cX S at_ l l.length).2,false)
 else if (ak.flush (cX S at_ l l.length).1).2≠0 then ((ak.flush (cX S at_ l l.length).1).1,(ak.flush (cX S at_ l l.length).1).2,false)
 else ((ak.flush (cX S at_ l l.length).1).1,iX (ak.flush (cX S at_ l l.length).1).1 at_ l l.length)
def app(J:dC)(S:ak.aX)(t:List UInt8):dC×ak.aX×Int×Int:=
 if J.gR then (J,S,0,23)
 else if 8000<t.length∨4096<J.next then (J,S,0,4)
 else if room J S<a7 t.length then (J,S,0,22)
 else if (fx S J.en (cD J.next t)).2.1≠0 then (⟨J.nums,J.tx,J.bad,J.next+1,J.en+(cD J.next t).length,true⟩,(fx S J.en (cD J.next t)).1,0,(fx S J.en (cD J.next t)).2.1)
 else if (fx S J.en (cD J.next t)).2.2=false then (⟨J.nums,J.tx,J.bad,J.next+1,J.en+(cD J.next t).length,J.gR⟩,(fx S J.en (cD J.next t)).1,0,24)
 else (⟨J.nums++[J.next],J.tx++[t],J.bad,J.next+1,J.en+(cD J.next t).length,J.gR⟩,(fx S J.en (cD J.next t)).1,J.next,0)
theorem kP(n k:Nat):(c0 n k).length=k:=by simp [c0]
theorem Pe(n k:Nat):c0 n (k+1)=c0 n k++[UInt8.ofNat (n/256^k)]:=by
 unfold c0
 rw [List.range_succ,List.map_append];rfl
theorem Ac:∀ (s:List UInt8),eA s<256^s.length
 | []=>by simp [eA]
 | c::s=>by
  have:=Ac s
  have bq:=c.toNat_lt
  show 256*eA s+c.toNat<256^(s.length+1)
  rw [Nat.pow_succ];omega
theorem PX(c:UInt8)(s:List UInt8):eA (c::s)=256*eA s+c.toNat:=rfl
theorem nD(n:Int):0≤a7 n∧a7 n≤167:=by unfold a7;split <;> (try split) <;> omega
theorem BY{n:Int}(h:0≤n∧n≤8000):1≤a7 n:=by unfold a7;rw [if_neg ag];split <;> omega
theorem Fw{n:Int}(h:0≤n∧n≤8000):48*(a7 n-1)≤n∧n≤48*a7 n:=by unfold a7;rw [if_neg ag];split <;> omega
theorem aeZ(r:List UInt8):(p2 r).length=48:=by unfold p2;rw [List.length_append,List.length_take,List.length_replicate];omega
theorem uT(n k:Nat)(r:List UInt8):(aT n k r).length=56:=by unfold aT;simp [kP,aeZ]
theorem VH{b:List UInt8}(h:b.length=56):(jT b).length=64:=by unfold jT;rw [List.length_append,List.length_take,h,aL.pb];rfl
theorem xN(n:Int)(t:List UInt8)(k:Nat):(sec n t k).length=64:=VH (uT _ _ _)
theorem o9(n:Int)(t:List UInt8):(cD n t).length=(a7 t.length).toNat:=by simp [cD]
end aj
end
section
namespace aj
open Go Go.aK
theorem yP{n:Int}(h:n<0∨8000<n):a7 n=0:=by unfold a7;rw [if_pos h]
theorem VU{n:Int}(h:0≤n∧n≤8000):a7 n=max 1 ((n+48-1)/48):=by unfold a7;rw [if_neg ag];split <;> omega
theorem VV:a7 0=1:=rfl
theorem Fv{n:Int}(h:0<n∧n≤8000):a7 n=(n+47)/48:=by unfold a7;rw [if_neg ag,if_neg ag]
theorem aeG(n:Nat):hI ((n:Int)%256)=UInt8.ofNat n:=by
 rw [show ((n:Int)%256)=((n%256:Nat):Int) by omega,aF.Dv]
 apply UInt8.toNat_inj.1
 simp
def ql(n k:Nat):Nat:=n/256^k
theorem L0(n:Nat):ql n 0=n:=by unfold ql;rw [Nat.pow_zero,Nat.div_one]
theorem ac8(n k:Nat):(c0 n k).map bn++[bn (hI ((ql n k:Int)%256))]=(c0 n (k+1)).map bn:=by
 rw [aeG,Pe,List.map_append];rfl
theorem L2(n k:Nat):(ql n k:Int)/256=(ql n (k+1):Int):=by
 unfold ql
 rw [Nat.pow_succ,← Nat.div_div_eq_div_mul];omega
theorem L1(n k:Nat):ql n k≤n:=Nat.div_le_self _ _
def l9(xs:List UInt8)(off n k:Nat):List UInt8:=xs.take off++c0 n k++xs.drop (off+k)
theorem afj{xs:List UInt8}{off n k:Nat}(h:off+k≤xs.length):(l9 xs off n k).length=xs.length:=by
 unfold l9;rw [List.length_append,List.length_append,List.length_take,List.length_drop,kP];omega
theorem afi{xs:List UInt8}{off n:Nat}:l9 xs off n 0=xs:=by
 unfold l9 c0;simp
theorem afk{xs:List UInt8}{off n k:Nat}(h:off+k<xs.length):(l9 xs off n k).set (off+k) (hI (ql n k:Int))=l9 xs off n (k+1):=by
 rw [aF.Dv]
 unfold l9
 have hl:(xs.take off++c0 n k).length=off+k:=by rw [List.length_append,List.length_take,kP];omega
 rw [List.set_append_right _ _ ag,hl,Nat.sub_self,Pe,← List.append_assoc,List.append_assoc (xs.take off++c0 n k)]
 congr 1
 rw [List.drop_eq_getElem_cons h,List.set_cons_zero,← Nat.add_assoc];rfl
theorem PY{s:List UInt8}{k:Nat}(h:k<s.length):eA (s.drop k)=256*eA (s.drop (k+1))+(s.getD k 0).toNat:=by
 rw [List.drop_eq_getElem_cons h,PX,List.getD_eq_getElem?_getD,List.getElem?_eq_getElem h];rfl
theorem Iv(s:List UInt8):eA (s.drop s.length)=0:=by rw [List.drop_length];rfl
theorem Dl{s:List UInt8}(h:s.length≤4)(k:Nat):eA (s.drop k)<4294967296:=by
 have:=Ac (s.drop k)
 have ar:256^(s.drop k).length≤256^4:=Nat.pow_le_pow_right a8 (by rw [List.length_drop];omega)
 omega
theorem acm(p:Nat)(c:UInt8)(bO:p<4294967296):C4 ((p:Int)*2^(min (Int.toNat 8) 64)) (c.toNat:Int)=((256*p+c.toNat:Nat):Int):=by
 have bq:=c.toNat_lt
 have bL:((p:Int)*2^(min (Int.toNat 8) 64))=((256*p:Nat):Int):=by
  rw [show (2:Int)^(min (Int.toNat 8) 64)=256 from rfl];omega
 have bT:256*p ||| c.toNat=256*p+c.toNat:=(Nat.two_pow_add_eq_or_of_lt (i:=8) bq p).symm
 rw [bL]
 unfold C4
 rw [BitVec.ofInt_natCast,BitVec.ofInt_natCast,BitVec.toNat_or,BitVec.toNat_ofNat,BitVec.toNat_ofNat,Nat.mod_eq_of_lt ag,Nat.mod_eq_of_lt ag,bT]
 unfold IntKind.wrap
 have fm:(2:Int)^IntKind.i64.bits=18446744073709551616:=rfl
 have iw:(2:Int)^(IntKind.i64.bits-1)=9223372036854775808:=rfl
 have qm:IntKind.i64.signed=true:=rfl
 simp only [fm,iw,qm,Bool.true_and,decide_eq_true_eq]
 split <;> omega
theorem aej{s:List UInt8}{k:Nat}(h:k<s.length):eA (s.drop (s.length-(k+1)))=256*eA (s.drop (s.length-k))+(s.getD ((s.length:Int)-1-k).toNat 0).toNat:=by
 rw [PY (k:=s.length-(k+1)) ag,show s.length-(k+1)+1=s.length-k by omega,show ((s.length:Int)-1-k).toNat=s.length-(k+1) by omega]
theorem ajV{s:List UInt8}{k:Nat}(h:∀ j,j<k→s.getD j 0=0)(h1:s.getD k 0=0):∀ j,j<k+1→s.getD j 0=0:=fun j aV=>by
 rcases Nat.lt_or_ge j k with ar | ar
 ·exact h j ar
 ·rw [show j=k by omega];exact h1
theorem ajT{s:List UInt8}(h:∀ j,j<s.length→s.getD j 0=0)(ar:s.length=64):s=z64:=by
 refine List.eq_replicate_iff.2 ⟨ar,fun x aM=>?_⟩
 obtain ⟨j,aV,rfl⟩:=List.getElem_of_mem aM
 have:=h j aV
 rwa [List.getD_eq_getElem?_getD,List.getElem?_eq_getElem aV] at this
theorem ajU{s:List UInt8}{k:Nat}(h:s.getD k 0≠0):s≠z64:=fun e=>h (by
 subst e
 rw [z64,List.getD_eq_getElem?_getD,List.getElem?_replicate]
 split <;> rfl)
def Lu(s:List UInt8)(k:Nat):List Value:=[aA ((s.length:Int)-1-k),bn (s.getD ((s.length:Int)-1-k).toNat 0)]
end aj
end
section
namespace aj
open Go Go.aK
def Qi(p:Part):Value:=.agg [aA p.n,aA p.p,aA p.l,vs p.t,.bool p.ok].toArray
theorem r4{s:List UInt8}(h:¬ fb s):c3 s=cv:=by unfold c3;rw [if_neg h]
theorem S7{s:List UInt8}(h:¬ s.length=64):c3 s=cv:=r4 fun aP=>h aP.1
theorem A1{s:List UInt8}(h:fb s):c3 s=⟨num s,par s,jZ s,List.drop 8 (s.take (8+eR s)),true⟩:=by unfold c3;rw [if_pos h]
theorem VG{s:List UInt8}(h:s.length=64):jT (s.take 56)=s↔(aL.sum (s.take 56)).take 8=s.drop 56:=by
 unfold jT
 conv=>lhs;rhs;rw [← List.take_append_drop 56 s]
 exact ⟨fun e=>List.append_cancel_left e,fun e=>by rw [e]⟩
theorem Jc(s:List UInt8):num s<4294967296∧par s<65536∧jZ s<65536:=by
 have h1:=Ac (s.take 4)
 have ar:=Ac (List.drop 4 (s.take 6))
 have aQ:=Ac (List.drop 6 (s.take 8))
 have jr:256^(s.take 4).length≤256^4:=Nat.pow_le_pow_right a8 (by rw [List.length_take];omega)
 have l2:256^(List.drop 4 (s.take 6)).length≤256^2:=Nat.pow_le_pow_right a8 (by rw [List.length_drop,List.length_take];omega)
 have aok:256^(List.drop 6 (s.take 8)).length≤256^2:=Nat.pow_le_pow_right a8 (by rw [List.length_drop,List.length_take];omega)
 unfold num par jZ
 omega
theorem zV(s:List UInt8):eR s≤48:=by unfold eR;omega
theorem Sc{s:List UInt8}(h:s.length=64):(List.drop 0 (List.take (0+Int.toNat 8) (aL.sum (List.drop 0 (List.take (0+Int.toNat 56) s))))=List.drop (0+Int.toNat 56*1) (List.take (0+Int.toNat 56*1+(64-Int.toNat 56)) s))↔jT (s.take 56)=s:=by
 rw [VG h]
 have bL:List.drop 0 (List.take (0+Int.toNat 8) (aL.sum (List.drop 0 (List.take (0+Int.toNat 56) s))))=(aL.sum (s.take 56)).take 8:=rfl
 have bT:List.drop (0+Int.toNat 56*1) (List.take (0+Int.toNat 56*1+(64-Int.toNat 56)) s)=s.drop 56:=by
  rw [show 0+Int.toNat 56*1+(64-Int.toNat 56)=64 from rfl,List.take_of_length_le ag];rfl
 rw [bL,bT]
theorem Se(s:List UInt8):(List.drop (0+(8+(eR s:Int)).toNat*1) (List.take (0+(8+(eR s:Int)).toNat*1+(Int.toNat 56-(8+(eR s:Int)).toNat)) s)=List.replicate (48-eR s) 0)↔List.drop (8+eR s) (s.take 56)=List.replicate (48-eR s) 0:=by
 have:=zV s
 rw [show 0+(8+(eR s:Int)).toNat*1=8+eR s by omega,show 8+eR s+(Int.toNat 56-(8+(eR s:Int)).toNat)=56 by rw [show Int.toNat 56=56 from rfl];omega]
theorem Y4{s:List UInt8}(fo:s.length=64)(h:((((List.drop 0 (List.take (0+Int.toNat 8) (aL.sum (List.drop 0 (List.take (0+Int.toNat 56) s))))=List.drop (0+Int.toNat 56*1) (List.take (0+Int.toNat 56*1+(64-Int.toNat 56)) s)∧¬ (num s:Int)=0)∧¬ 4096<(num s:Int))∧¬ 8000<48*(par s:Int)+(jZ s:Int))∧(¬ (jZ s:Int)=0∨¬ 0<(par s:Int)))∧List.drop (0+(8+(eR s:Int)).toNat*1) (List.take (0+(8+(eR s:Int)).toNat*1+(Int.toNat 56-(8+(eR s:Int)).toNat)) s)=List.replicate (48-eR s) 0):fb s:=by
 obtain ⟨⟨⟨⟨⟨h1,ar⟩,aQ⟩,bF⟩,cO⟩,dR⟩:=h
 exact ⟨fo,(Sc fo).1 h1,by omega,by omega,by omega,by omega,(Se s).1 dR⟩
theorem U5{s:List UInt8}(fo:s.length=64)(h:((((¬ List.drop 0 (List.take (0+Int.toNat 8) (aL.sum (List.drop 0 (List.take (0+Int.toNat 56) s))))=List.drop (0+Int.toNat 56*1) (List.take (0+Int.toNat 56*1+(64-Int.toNat 56)) s)∨(num s:Int)=0)∨4096<(num s:Int))∨8000<48*(par s:Int)+(jZ s:Int))∨(jZ s:Int)=0∧0<(par s:Int))∨¬ List.drop (0+(8+(eR s:Int)).toNat*1) (List.take (0+(8+(eR s:Int)).toNat*1+(Int.toNat 56-(8+(eR s:Int)).toNat)) s)=List.replicate (48-eR s) 0):¬ fb s:=by
 rintro ⟨_,g1,g2,g3,g4,g5,g6⟩
 rcases h with ((((h | h) | h) | h) | h) | h
 ·exact h ((Sc fo).2 g1)
 ·omega
 ·omega
 ·omega
 ·omega
 ·exact h ((Se s).2 g6)
end aj
end
section
namespace aj
open Go Go.aK
theorem ajX{s:List UInt8}(fo:s.length=64)(h:∀ j,8+eR s≤j→j<56→s.getD j 0=0):List.drop (8+eR s) (s.take 56)=List.replicate (48-eR s) 0:=by
 have:=zV s
 refine List.eq_replicate_iff.2 ⟨by rw [List.length_drop,List.length_take];omega,fun x aM=>?_⟩
 obtain ⟨j,aV,rfl⟩:=List.getElem_of_mem aM
 rw [List.length_drop,List.length_take] at aV
 have:=h (8+eR s+j) ag ag
 rw [List.getD_eq_getElem?_getD,List.getElem?_eq_getElem ag] at this
 rw [List.getElem_drop,List.getElem_take]
 exact this
theorem ajY{s:List UInt8}(fo:s.length=64){k:Nat}(h1:8+eR s≤k)(ar:k<56)(h:s.getD k 0≠0):¬ fb s:=by
 rintro ⟨_,_,_,_,_,_,g6⟩
 apply h
 have aM:(List.drop (8+eR s) (s.take 56))[k-(8+eR s)]?=(List.replicate (48-eR s) (0:UInt8))[k-(8+eR s)]?:=by rw [g6]
 rw [List.getElem?_drop,List.getElem?_take,if_pos ag,List.getElem?_replicate,if_pos ag,show 8+eR s+(k-(8+eR s))=k by omega] at aM
 rw [List.getD_eq_getElem?_getD,aM];rfl
theorem ajW{s:List UInt8}{b k:Nat}(h:∀ j,b≤j→j<k→s.getD j 0=0)(h1:s.getD k 0=0):∀ j,b≤j→j<k+1→s.getD j 0=0:=fun j h0 aV=>by
 rcases Nat.lt_or_ge j k with ar | ar
 ·exact h j h0 ar
 ·rw [show j=k by omega];exact h1
theorem agU{s:List UInt8}(fo:s.length=64)(h:(((jT (s.take 56)=s∧¬ (num s:Int)<1)∧¬ 4096<(num s:Int))∧¬ 8000<48*(par s:Int)+(jZ s:Int))∧(¬ (jZ s:Int)<1∨¬ 0<(par s:Int)))(bj:∀ j,8+eR s≤j→j<56→s.getD j 0=0):fb s:=by
 obtain ⟨⟨⟨⟨h1,ar⟩,aQ⟩,bF⟩,cO⟩:=h
 exact ⟨fo,h1,by omega,by omega,by omega,by omega,ajX fo bj⟩
theorem agz{s:List UInt8}(h:(((¬ jT (s.take 56)=s∨(num s:Int)<1)∨4096<(num s:Int))∨8000<48*(par s:Int)+(jZ s:Int))∨(jZ s:Int)<1∧0<(par s:Int)):¬ fb s:=by
 rintro ⟨_,g1,g2,g3,g4,g5,g6⟩
 rcases h with (((h | h) | h) | h) | h
 ·exact h g1
 all_goals omega
end aj
end
section
namespace aj
open Go Go.aK
theorem IM{A B C:List UInt8}{n k:Nat}(aw:B.length=k):l9 (A++(B++C)) A.length n k=A++(c0 n k++C):=by
 unfold l9
 subst aw
 rw [List.take_left,List.append_assoc,← List.append_assoc A B C,show A.length+B.length=(A++B).length by simp,List.drop_left]
def z(n:Nat):List UInt8:=List.replicate n 0
theorem adU(n:Nat):l9 (z 64) 0 n 4=c0 n 4++z 60:=by
 have:=IM (A:=[]) (B:=z 4) (C:=z 60) (n:=n) (k:=4) rfl
 exact this
theorem adV(n k:Nat):l9 (c0 n 4++z 60) 4 k 2=c0 n 4++(c0 k 2++z 58):=by
 have:=IM (A:=c0 n 4) (B:=z 2) (C:=z 58) (n:=k) (k:=2) rfl
 rw [kP] at this
 exact this
theorem adW(n k m:Nat):l9 (c0 n 4++(c0 k 2++z 58)) 6 m 2=c0 n 4++(c0 k 2++(c0 m 2++z 56)):=by
 have:=IM (A:=c0 n 4++c0 k 2) (B:=z 2) (C:=z 56) (n:=m) (k:=2) rfl
 rw [List.length_append,kP,kP,List.append_assoc] at this
 rw [List.append_assoc] at this
 exact this
theorem adX(n k:Nat)(r:List UInt8):(c0 n 4++(c0 k 2++(c0 r.length 2++z 56))).take 8++r.take (min r.length 48)++(c0 n 4++(c0 k 2++(c0 r.length 2++z 56))).drop (8+min r.length 48)=aT n k r++z 8:=by
 have e:c0 n 4++(c0 k 2++(c0 r.length 2++z 56))=(c0 n 4++c0 k 2++c0 r.length 2)++z 56:=by simp only [List.append_assoc]
 have hl:(c0 n 4++c0 k 2++c0 r.length 2).length=8:=by simp [kP]
 have eh:aT n k r=(c0 n 4++c0 k 2++c0 r.length 2)++p2 r:=rfl
 rw [eh]
 rw [e]
 generalize c0 n 4++c0 k 2++c0 r.length 2=A at hl
 have bT:(A++z 56).drop (8+min r.length 48)=(z 56).drop (min r.length 48):=by
  rw [← List.drop_drop,← hl,List.drop_left]
 have fm:(z 56).drop (min r.length 48)=z (48-r.length)++z 8:=by
  unfold z
  rw [List.drop_replicate,List.replicate_append_replicate]
  congr 1;omega
 have iw:(A++z 56).take 8=A:=by rw [← hl,List.take_left]
 have qm:r.take (min r.length 48)=r.take 48:=by
  rcases Nat.le_total r.length 48 with h | h
  ·rw [Nat.min_eq_left h,List.take_of_length_le (Nat.le_refl _),List.take_of_length_le h]
  ·rw [Nat.min_eq_right h]
 rw [bT,fm,iw,qm]
 unfold p2 z
 simp only [List.append_assoc]
theorem PD(n k:Nat)(r:List UInt8):(aT n k r++z 8).take 56=aT n k r:=by
 rw [List.take_append_of_le_length (by rw [uT];omega),List.take_of_length_le (by rw [uT];omega)]
theorem adY(n k:Nat)(r:List UInt8):(aT n k r++z 8).take 56++(aL.sum (aT n k r)).take 8++(aT n k r++z 8).drop 64=jT (aT n k r):=by
 rw [PD,List.drop_of_length_le (by rw [List.length_append,uT];exact Nat.le_refl _),List.append_nil];rfl
def Qz(n:Nat)(t:List UInt8)(k:Nat):List Value:=[.agg ((sec (n:Int) t k).map bn).toArray]
end aj
namespace aj
open Go Go.aK
def p7(n:Int)(t:List UInt8)(k:Nat):List (List UInt8):=(List.range k).map (sec n t)
theorem Sn(n:Int)(t:List UInt8)(k:Nat):(p7 n t k).length=k:=by simp [p7]
theorem Sp(n:Int)(t:List UInt8)(k:Nat):(p7 n t k).map vs++[vs (sec n t k)]=(p7 n t (k+1)).map vs:=by
 unfold p7;rw [List.range_succ,List.map_append,List.map_append];rfl
theorem Sm(n:Int)(t:List UInt8):p7 n t (a7 t.length).toNat=cD n t:=rfl
theorem Ql{n:Int}{t:List UInt8}(h:n<1∨4096<n):pack n t=([],1):=by unfold pack;rw [if_pos h]
theorem Qm{n:Int}{t:List UInt8}(h:1≤n∧n≤4096)(ar:8000<t.length):pack n t=([],4):=by unfold pack;rw [if_neg ag,if_pos ar]
theorem DA{n:Int}{t:List UInt8}(h:1≤n∧n≤4096)(ar:t.length≤8000):pack n t=(cD n t,0):=by unfold pack;rw [if_neg ag,if_neg ag]
def E3(T:TypeId)(d:List (List UInt8)×Int):Value→List aR→List aC→Prop:=fun r zs hs=>∃ v,r=.tuple [v,aA d.2].toArray∧zs=[]∧hs=[.row v T 1 d.1.length (d.1.map vs)]
theorem xp{T:TypeId}{q:List (List UInt8)}{e:Int}{d:List (List UInt8)×Int}{r:Value}{zs:List aR}{hs:List aC}(h:∃ v,r=.tuple [v,aA e].toArray∧zs=[]∧hs=[.row v T 1 q.length (q.map vs)])(h1:d=(q,e)):E3 T d r zs hs:=by subst h1;exact h
end aj
end
section
namespace aj
open Go Go.aK
def sR(n k:Nat)(r:List UInt8)(i:Nat):List UInt8:=c0 n 4++c0 k 2++c0 r.length 2++(List.range i).map fun j=>r.getD j 0
theorem aal(n k:Nat)(r:List UInt8):(c0 n 4).map bn++(c0 k 2).map bn++(c0 r.length 2).map bn=(sR n k r 0).map bn:=by
 unfold sR;simp
theorem aan(n k:Nat)(r:List UInt8)(i:Nat):(sR n k r i).map bn++[bn (r.getD i 0)]=(sR n k r (i+1)).map bn:=by
 unfold sR;rw [List.range_succ];simp
theorem aam(n k:Nat)(r:List UInt8):sR n k r 48=aT n k r:=by
 unfold sR aT p2
 congr 1
 apply List.ext_getElem?
 intro j
 rw [List.getElem?_map,List.getElem?_append,List.length_take,List.getElem?_take,List.getElem?_replicate]
 by_cases h:j<48
 ·rw [List.getElem?_range h]
  by_cases ar:j<r.length
  ·rw [if_pos ag,if_pos h,Option.map_some,List.getD_eq_getElem?_getD,List.getElem?_eq_getElem ar];rfl
  ·rw [if_neg ag,if_pos ag,Option.map_some,List.getD_eq_getElem?_getD,List.getElem?_eq_none ag];rfl
 ·rw [List.getElem?_eq_none (by simp;omega),if_neg ag,if_neg ag];rfl
theorem ahJ(n k:Nat)(t:List UInt8):jT (aT n k (t.drop (48*k)))=sec (n:Int) t k:=by unfold sec;rw [Int.toNat_natCast]
end aj
end
section
namespace aj
open Go Go.aK
def px(x:Part):Prop:=(0≤x.n∧x.n≤4096)∧(0≤x.p∧x.p≤65535)∧(0≤x.l∧x.l≤8000)∧x.t.length≤48
def rW(x:Part):List Value:=[aA x.n,aA x.p,aA x.l,vs x.t,.bool x.ok]
theorem IJ(x:Part):(rW x).length=5:=rfl
theorem IK(x:Part):∀ u∈rW x,u.oneCell'=true:=fun u hu=>by
 simp only [rW,List.mem_cons,List.not_mem_nil,or_false] at hu
 rcases hu with rfl | rfl | rfl | rfl | rfl <;> rfl
abbrev Md:=mY rW 5 px IJ IK
theorem xZ(s:List UInt8):px (c3 s):=by
 obtain ⟨h1,ar,aQ⟩:=Jc s
 by_cases h:fb s
 ·rw [A1 h]
  obtain ⟨g0,_,g1,g2,g3,g4,_⟩:=h
  refine ⟨⟨by dsimp only;omega,by dsimp only;omega⟩,⟨by dsimp only;omega,by dsimp only;omega⟩,⟨by dsimp only;omega,by dsimp only;omega⟩,?_⟩
  dsimp only
  have:=zV s
  rw [List.length_drop,List.length_take];omega
 ·rw [r4 h]
  exact ⟨by decide,by decide,by decide,by decide⟩
def mJ(l:List Part):List UInt8×Int×Bool:=match gi l with
 | none=>([],0,false)
 | some (t,n)=>(t,n,true)
def f0(l:List Part):Part:=l.getD 0 cv
theorem RF{l:List Part}(h:gi l=none):mJ l=([],0,false):=by unfold mJ;rw [h]
theorem vC{l:List Part}(h0:l≠[]):gi l=if (f0 l).ok=true∧(f0 l).p=0∧1≤a7 (f0 l).l∧a7 (f0 l).l≤l.length∧gT (f0 l) 0 (l.take (a7 (f0 l).l).toNat)=true then some (mh (l.take (a7 (f0 l).l).toNat),(a7 (f0 l).l).toNat) else none:=by
 cases l with
 | nil=>exact absurd rfl h0
 | cons f l=>exact AG f l
theorem rec_1{l:List Part}(h0:l≠[])(h:((f0 l).ok=false∨¬ (f0 l).p=0)∨(l.length:Int)<a7 (f0 l).l):mJ l=([],0,false):=by
 apply RF
 rw [vC h0,if_neg]
 rintro ⟨h1,ar,_,bF,_⟩
 rcases h with (h | h) | h
 ·rw [h1] at h;cases h
 ·exact h ar
 ·omega
theorem rec_2{l:List Part}(h0:l≠[])(h:gT (f0 l) 0 (l.take (a7 (f0 l).l).toNat)=false):mJ l=([],0,false):=by
 apply RF
 rw [vC h0,if_neg]
 rintro ⟨_,_,_,_,bF⟩
 rw [bF] at h;cases h
theorem rec_3{l:List Part}(h0:l≠[])(h:((f0 l).ok=true∧(f0 l).p=0)∧¬ (l.length:Int)<a7 (f0 l).l)(h1:1≤a7 (f0 l).l)(ar:gT (f0 l) 0 (l.take (a7 (f0 l).l).toNat)=true):mJ l=(mh (l.take (a7 (f0 l).l).toNat),(((a7 (f0 l).l).toNat:Nat):Int),true):=by
 unfold mJ
 rw [vC h0,if_pos ⟨h.1.1,h.1.2,h1,by omega,ar⟩]
theorem Dj(f:Part):∀ (l:List Part) (k:Nat) (q:Part),gT f k (l++[q])=(gT f k l&&mt f (k+l.length) q)
 | [],k,q=>by show (mt f k q&&true)=(true&&_);simp
 | x::l,k,q=>by
  show (mt f k x&&gT f (k+1) (l++[q]))=((mt f k x&&gT f (k+1) l)&&_)
  rw [Dj f l,List.length_cons,Bool.and_assoc,show k+1+l.length=k+(l.length+1) by omega]
theorem Is(f:Part):∀ (l m:List Part) (k:Nat),gT f k (l++m)=(gT f k l&&gT f (k+l.length) m)
 | [],m,k=>by show gT f k m=(true&&_);rw [Bool.true_and];rfl
 | x::l,m,k=>by
  show (mt f k x&&gT f (k+1) (l++m))=((mt f k x&&gT f (k+1) l)&&_)
  rw [Is f l,List.length_cons,Bool.and_assoc,show k+1+l.length=k+(l.length+1) by omega]
theorem nP{α:Type}{d:α}{l:List α}{k:Nat}(h:k<l.length):l.take (k+1)=l.take k++[l.getD k d]:=by
 rw [List.take_add_one,List.getElem?_eq_getElem h,List.getD_eq_getElem?_getD,List.getElem?_eq_getElem h];rfl
theorem aeg{f:Part}{l:List Part}{k:Nat}(h:k<l.length)(h1:gT f 0 (l.take k)=true)(ar:((((l.getD k cv).ok=true∧(l.getD k cv).n=f.n)∧(l.getD k cv).p=k)∧(l.getD k cv).l=f.l-48*k)):gT f 0 (l.take (k+1))=true:=by
 obtain ⟨⟨⟨fT,a2⟩,a3⟩,a4⟩:=ar
 rw [nP (d:=cv) h,Dj,h1,List.length_take,Nat.min_eq_left ag,Nat.zero_add]
 unfold mt
 rw [fT,a2,a3,a4];simp
theorem PV{f:Part}{l:List Part}{k:Nat}(h:k<l.length)(ar:(((l.getD k cv).ok=false∨¬ (l.getD k cv).n=f.n)∨¬ (l.getD k cv).p=k)∨¬ (l.getD k cv).l=f.l-48*k):gT f 0 l=false:=by
 have e:l=l.take (k+1)++l.drop (k+1):=(List.take_append_drop _ _).symm
 rw [e,Is,nP (d:=cv) h,Dj,List.length_take,Nat.min_eq_left ag,Nat.zero_add]
 have:mt f k (l.getD k cv)=false:=by
  unfold mt
  rcases ar with ((h | h) | h) | h
  ·rw [h];rfl
  ·rw [decide_eq_false h];simp
  ·rw [decide_eq_false h];simp
  ·rw [decide_eq_false h];simp
 rw [this];simp
theorem SR{l:List Part}{k:Nat}(h:k<l.length):mh (l.take (k+1))=mh (l.take k)++(l.getD k cv).t:=by
 rw [nP (d:=cv) h];unfold mh;simp
theorem JO{l:List Part}(h:∀ x∈l,px x):(mh l).length≤48*l.length:=by
 induction l with
 | nil=>simp [mh]
 | cons a t ih=>
  have:=ih fun x aM=>h x (List.mem_cons_of_mem _ aM)
  have ar:=(h a List.mem_cons_self).2.2.2
  unfold mh at this ⊢
  rw [List.flatMap_cons,List.length_append,List.length_cons];omega
end aj
namespace Go.aK
section
variable {P:Program}{n:Nat}{w0:World}{zs:List aR}{hs:List aC}{L:List (Nat×Value)}{d:Option Tmp}{ty t:TypeId}{pos:String}{af:Array Edge}{g:Option (Nat×Bool)}{x:Operand}{v:Value}
theorem DH[a1]{bS:TypeDesc}{bu:Nat}{zv:Value}(aN:ba P t bS 5 bu zv){z:aR}{xs:List aj.Part}{k:Nat}(U:bo aj.Md z v xs)(bj:gQ w0 zs z)(ar:aW L x=some (dn v (k*5)))(aT:fg bS=true)(aE:k<xs.length) :
  bR P n w0 zs hs L ⟨d,.load t x,ty,pos,af,g⟩ (.agg [aA (xs.getD k aj.cv).n,aA (xs.getD k aj.cv).p,aA (xs.getD k aj.cv).l,vs (xs.getD k aj.cv).t,.bool (xs.getD k aj.cv).ok].toArray):=
 IT aj.cv aN U bj ar aT a8 aE
end
end Go.aK
namespace aj
theorem adI{xs:List Part}{m k:Nat}(h:k<(List.drop 0 (List.take m xs)).length):(List.drop 0 (List.take m xs)).getD k cv∈xs:=by
 rw [List.getD_eq_getElem?_getD,List.getElem?_eq_getElem h]
 exact List.mem_of_mem_take (List.mem_of_mem_drop (List.getElem_mem h))
theorem adJ{xs:List Part}{m k:Nat}:∀ x∈(List.drop 0 (List.take m xs)).take k,x∈xs:=fun _ h=>List.mem_of_mem_take (List.mem_of_mem_drop (List.mem_of_mem_take h))
end aj
end
section
namespace aj
open Go Go.aK
structure lu (J:dC):Prop where
 mH:1≤J.next
 o0:J.next≤4097
 bL:0≤J.en
 bT:J.en≤4096
 nl:(J.nums.length:Int)≤J.en
 tl:J.tx.length=J.nums.length
 bl:(J.bad.length:Int)≤4096
 nr:∀ x∈J.nums,1≤x∧x≤4096
 br:∀ x∈J.bad,0≤x∧x≤4096
 tr:∀ x∈J.tx,x.length≤8064
theorem lu.qK{J:dC}(h:lu J):∀ x∈J.nums, -9223372036854775808≤x∧x≤9223372036854775807:=fun x aM=>by have:=h.nr x aM;omega
theorem lu.qk{J:dC}(h:lu J):∀ x∈J.bad, -9223372036854775808≤x∧x≤9223372036854775807:=fun x aM=>by have:=h.br x aM;omega
theorem lu.pc{J:dC}(h:lu J):∀ x∈J.tx,x.length≤140737488355328:=fun x aM=>by have:=h.tr x aM;omega
def EM(yA uj yB:TypeId)(b pd:Nat)(J:dC)(cm cR eW e2:aC):Prop:=
 ∃ vn vbd jk,lu J∧cm=.blk b yA [.pointer (some ⟨pd,0,none⟩),vn,vbd,jk,aA J.next,aA J.en,.bool J.gR]∧cR=.row vn uj 1 J.nums.length (J.nums.map aA)∧eW=.row vbd uj 1 J.bad.length (J.bad.map aA)∧e2=.row jk yB 1 J.tx.length (J.tx.map vs)
def yy(yA uj yB:TypeId)(b pd:Nat)(J:dC)(cm cR eW e2:aC):Prop:=
 ∃ vn vbd jk,lu J∧cm=.blk b yA [.pointer (some ⟨pd,0,none⟩),vn,jk,vbd,aA J.next,aA J.en,.bool J.gR]∧cR=.row vn uj 1 J.nums.length (J.nums.map aA)∧eW=.row vbd uj 1 J.bad.length (J.bad.map aA)∧e2=.row jk yB 1 J.tx.length (J.tx.map vs)
def akf(K:dC→aC→aC→aC→aC→Prop)(J:dC)(v:Value):Value→List aR→List aC→Prop:=fun r zs hs=>r=v∧zs=[]∧∃ cu ct cx cz,hs=[cu,ct,cx,cz]∧K J cu ct cx cz
def EN(K:dC→aC→aC→aC→aC→Prop)(T:TypeId)(J:dC)(n:Nat)(cs:List Value):Value→List aR→List aC→Prop:=fun r zs hs=>zs=[]∧∃ cu ct cx cz,hs=[.row r T 1 n cs,cu,ct,cx,cz]∧K J cu ct cx cz
theorem acA{K:dC→aC→aC→aC→aC→Prop}{T:TypeId}{J:dC}{n vp:Nat}{cs cs':List Value}{r:Value}{zs:List aR}{hs:List aC}(h:EN K T J n cs r zs hs)(bL:n=vp)(bT:cs=cs'):EN K T J vp cs' r zs hs:=bL ▸ bT ▸ h
def yo(K:dC→aC→aC→aC→aC→Prop)(D:ak.aX→aC→aC→aC→aC→Prop)(J:dC)(S:ak.aX)(v:Value):Value→List aR→List aC→Prop:=fun r zs hs=>r=v∧zs=[]∧∃ cu ct cx cz d1 d2 d3 d4,hs=[cu,ct,cx,cz,d1,d2,d3,d4]∧K J cu ct cx cz∧D S d1 d2 d3 d4
theorem pW{K:dC→aC→aC→aC→aC→Prop}{D:ak.aX→aC→aC→aC→aC→Prop}{J sf:dC}{S pz:ak.aX}{v dr r:Value}{zs:List aR}{hs:List aC}(h:yo K D J S v r zs hs)(bL:J=sf)(bT:S=pz)(fm:v=dr):yo K D sf pz dr r zs hs:=bL ▸ bT ▸ fm ▸ h
end aj
end
section
namespace aj
open Go Go.aK
def tZ(l:List Int)(i:Nat)(m:List (Int×Value)):Prop:=∀ x,gv m x=if x∈l.take i then some (.bool true) else none
theorem tZ.start(l:List Int):tZ l 0 []:=fun x=>by rw [List.take_zero,if_neg (by simp)];rfl
theorem tZ.step{l:List Int}{i:Nat}{m:List (Int×Value)}(h:tZ l i m)(aH:i<l.length):tZ l (i+1) (iG (l.getD i 0) (.bool true) m):=fun x=>by
 rw [uv,h x,nP (d:=(0:Int)) aH]
 by_cases aM:x=l.getD i 0
 ·rw [if_pos aM,if_pos (by rw [aM];simp)]
 ·rw [if_neg aM]
  by_cases ar:x∈l.take i
  ·rw [if_pos ar,if_pos (List.mem_append_left _ ar)]
  ·rw [if_neg ar,if_neg (fun e=>by
    rcases List.mem_append.1 e with e | e
    ·exact ar e
    ·exact aM (by simpa using e))]
theorem tZ.get{l:List Int}{m:List (Int×Value)}(h:tZ l l.length m)(x:Int):(gv m x).getD (.bool false)=.bool (decide (x∈l)):=by
 rw [h x,List.take_length]
 by_cases aM:x∈l
 ·rw [if_pos aM,decide_eq_true aM];rfl
 ·rw [if_neg aM,decide_eq_false aM];rfl
end aj
end
section
namespace aj
open Go Go.aK
theorem r8{S:ak.aX}{a:Int}{l:List (List UInt8)}{k:Nat}(h:(cX S a l k).2=0):cX S a l (k+1)=ak.write (cX S a l k).1 (a+k) (l.getD k []):=by rw [cX,if_neg ag]
theorem Kc{S:ak.aX}{a:Int}{l:List (List UInt8)}{k:Nat}(h:(cX S a l k).2≠0):∀ m,k≤m→cX S a l m=cX S a l k
 | 0,hm=>by rw [show k=0 by omega]
 | m+1,hm=>by
  rcases Nat.lt_or_ge m k with ar | ar
  ·rw [show m+1=k by omega]
  ·have:=Kc h m ar
   rw [cX,if_pos (by rw [this];exact h),this]
theorem AB{S:ak.aX}{a:Int}{l:List (List UInt8)}{k:Nat}(h:(iX S a l k).1=0)(ar:(ak.read S (a+k)).2=0):iX S a l (k+1)=(0,(iX S a l k).2&&decide (l.getD k []=(ak.read S (a+k)).1)):=by rw [iX,if_neg ag,if_neg ag]
theorem agC{S:ak.aX}{a:Int}{l:List (List UInt8)}{k:Nat}(h:(iX S a l k).1=0)(ar:(ak.read S (a+k)).2≠0):iX S a l (k+1)=((ak.read S (a+k)).2,false):=by rw [iX,if_neg ag,if_pos ar]
theorem RB{S:ak.aX}{a:Int}{l:List (List UInt8)}{k:Nat}(h:(iX S a l k).1≠0):∀ m,k≤m→iX S a l m=iX S a l k
 | 0,hm=>by rw [show k=0 by omega]
 | m+1,hm=>by
  rcases Nat.lt_or_ge m k with ar | ar
  ·rw [show m+1=k by omega]
  ·have:=RB h m ar
   rw [iX,if_pos (by rw [this];exact h),this]
theorem tP{S:ak.aX}{a:Int}{l:List (List UInt8)}{k:Nat}(aE:k<l.length)(h:(cX S a l k).2=0)(ar:(ak.write (cX S a l k).1 (a+k) (l.getD k [])).2≠0) :
  fx S a l=((ak.write (cX S a l k).1 (a+k) (l.getD k [])).1,(ak.write (cX S a l k).1 (a+k) (l.getD k [])).2,false):=by
 have e:=r8 h
 have bT:=Kc (S:=S) (a:=a) (l:=l) (k:=k+1) (by rw [e];exact ar) l.length aE
 unfold fx
 rw [bT,e,if_pos ar]
theorem r6{S:ak.aX}{a:Int}{l:List (List UInt8)}(h:(cX S a l l.length).2=0)(ar:(ak.flush (cX S a l l.length).1).2≠0):fx S a l=((ak.flush (cX S a l l.length).1).1,(ak.flush (cX S a l l.length).1).2,false):=by
 unfold fx;rw [if_neg ag,if_pos ar]
theorem tQ{S F:ak.aX}{a:Int}{l:List (List UInt8)}{k:Nat}(ab:F=(ak.flush (cX S a l l.length).1).1)(aE:k<l.length)(h:(cX S a l l.length).2=0)(ar:(ak.flush (cX S a l l.length).1).2=0)(aQ:(iX F a l k).1=0)(bF:(ak.read F (a+k)).2≠0) :
  fx S a l=(F,(ak.read F (a+k)).2,false):=by
 subst ab
 have e:=agC aQ bF
 have bT:=RB (S:=(ak.flush (cX S a l l.length).1).1) (a:=a) (l:=l) (k:=k+1) (by rw [e];exact bF) l.length aE
 unfold fx;rw [if_neg ag,if_neg ag,bT,e]
theorem kA{S F:ak.aX}{a:Int}{l:List (List UInt8)}(ab:F=(ak.flush (cX S a l l.length).1).1)(h:(cX S a l l.length).2=0)(ar:(ak.flush (cX S a l l.length).1).2=0)(aQ:(iX F a l l.length).1=0):fx S a l=(F,0,(iX F a l l.length).2):=by
 subst ab
 unfold fx;rw [if_neg ag,if_neg ag]
 exact congrArg _ (Prod.ext aQ rfl)
end aj
end
section
namespace aj
open Go Go.aK
def ki(J:dC)(t:List UInt8):dC:=⟨J.nums,J.tx,J.bad,J.next+1,J.en+(cD J.next t).length,J.gR⟩
def kj(J:dC)(t:List UInt8):dC:=⟨J.nums,J.tx,J.bad,J.next+1,J.en+(cD J.next t).length,true⟩
def jC(J:dC)(t:List UInt8):dC:=⟨J.nums++[J.next],J.tx++[t],J.bad,J.next+1,J.en+(cD J.next t).length,J.gR⟩
theorem app_1{J:dC}{S:ak.aX}{t:List UInt8}(h:J.gR=true):app J S t=(J,S,0,23):=by unfold app;rw [if_pos h]
theorem uw{J:dC}{S:ak.aX}{t:List UInt8}(h:¬ J.gR=true)(ar:8000<t.length∨4096<J.next):app J S t=(J,S,0,4):=by unfold app;rw [if_neg h,if_pos ar]
theorem sq{J:dC}{S:ak.aX}{t:List UInt8}(h:¬ J.gR=true)(ar:t.length≤8000∧J.next≤4096)(aQ:room J S<a7 t.length):app J S t=(J,S,0,22):=by unfold app;rw [if_neg h,if_neg ag,if_pos aQ]
theorem nz{J:dC}{S:ak.aX}{t:List UInt8}(h:¬ J.gR=true)(ar:t.length≤8000∧J.next≤4096)(aQ:¬ room J S<a7 t.length)(bF:(fx S J.en (cD J.next t)).2.1≠0):app J S t=(kj J t,(fx S J.en (cD J.next t)).1,0,(fx S J.en (cD J.next t)).2.1):=by unfold app;rw [if_neg h,if_neg ag,if_neg aQ,if_pos bF];rfl
theorem ux{J:dC}{S:ak.aX}{t:List UInt8}(h:¬ J.gR=true)(ar:t.length≤8000∧J.next≤4096)(aQ:¬ room J S<a7 t.length)(bF:(fx S J.en (cD J.next t)).2.1=0)(cO:(fx S J.en (cD J.next t)).2.2=false):app J S t=(ki J t,(fx S J.en (cD J.next t)).1,0,24):=by unfold app;rw [if_neg h,if_neg ag,if_neg aQ,if_neg ag,if_pos cO];rfl
theorem ri{J:dC}{S:ak.aX}{t:List UInt8}(h:¬ J.gR=true)(ar:t.length≤8000∧J.next≤4096)(aQ:¬ room J S<a7 t.length)(bF:(fx S J.en (cD J.next t)).2.1=0)(cO:¬ (fx S J.en (cD J.next t)).2.2=false):app J S t=(jC J t,(fx S J.en (cD J.next t)).1,J.next,0):=by unfold app;rw [if_neg h,if_neg ag,if_neg aQ,if_neg ag,if_neg cO];rfl
theorem J6{J:dC}{S:ak.aX}{t:List UInt8}(eD:lu J)(U:(S.s.length:Int)≤4096)(ar:t.length≤8000∧J.next≤4096)(aQ:¬ room J S<a7 t.length):lu (ki J t):=by
 have bq:=nD t.length
 unfold room at aQ
 exact ⟨by have:=eD.mH;show 1≤J.next+1;omega,by show J.next+1≤4097;omega,by have:=eD.bL;show 0≤J.en+_;omega,by show J.en+((cD J.next t).length:Int)≤4096;rw [o9];omega,by have:=eD.nl;show (J.nums.length:Int)≤J.en+_;omega,eD.tl,eD.bl,eD.nr,eD.br,eD.tr⟩
theorem Et{J:dC}{t:List UInt8}(h:lu (ki J t)):lu (kj J t):=⟨h.mH,h.o0,h.bL,h.bT,h.nl,h.tl,h.bl,h.nr,h.br,h.tr⟩
theorem J7{J:dC}{t:List UInt8}(eD:lu J)(h:lu (ki J t))(ar:t.length≤8000∧J.next≤4096): lu (jC J t):=by
 have hl:=eD.nl
 have bO:=BY (n:=t.length) ag
 refine ⟨h.mH,h.o0,h.bL,h.bT,?_,?_,h.bl,?_,h.br,?_⟩
 ·show ((J.nums++[J.next]).length:Int)≤J.en+((cD J.next t).length:Int)
  rw [List.length_append,o9];simp;omega
 ·show (J.tx++[t]).length=(J.nums++[J.next]).length
  rw [List.length_append,List.length_append,eD.tl];rfl
 ·intro x aM
  rcases List.mem_append.1 aM with aM | aM
  ·exact eD.nr x aM
  ·have:x=J.next:=by simpa using aM
   have:=eD.mH
   omega
 ·intro x aM
  rcases List.mem_append.1 aM with aM | aM
  ·exact eD.tr x aM
  ·have:x=t:=by simpa using aM
   subst this;omega
theorem ahL{n:Int}{t:List UInt8}:∀ x∈cD n t,x.length≤140737488355328:=fun x aM=>by
 obtain ⟨k,_,rfl⟩:=List.mem_map.1 aM
 rw [xN];decide
end aj
end
section
namespace aj
open Go Go.aK
def aiQ(f:UInt8)(k:Nat):List UInt8:=(List.range k).map fun (j:Nat)=>f+hI (j:Int)
def JP(n:Int)(f:UInt8):List UInt8:=aiQ f (min (max n 0) 8100).toNat
def BA(K:dC→aC→aC→aC→aC→Prop)(B W:ak.aX→aC)(J:dC)(S:ak.aX)(v:Value):Value→List aR→List aC→Prop:=fun r zs hs=>r=v∧zs=[]∧∃ cu ct cx cz,hs=[cu,ct,cx,cz,B S,W S]∧K J cu ct cx cz
theorem r1{K:dC→aC→aC→aC→aC→Prop}{B W:ak.aX→aC}{J sf:dC}{S pz:ak.aX}{v dr r:Value}{zs:List aR}{hs:List aC}(h:BA K B W J S v r zs hs)(bL:J=sf)(bT:S=pz)(fm:v=dr):BA K B W sf pz dr r zs hs:=bL ▸ bT ▸ fm ▸ h
theorem yf{S:ak.aX}(h:ak.Ok S)(a:Int)(l:List (List UInt8)):∀ k,ak.Ok (cX S a l k).1
 | 0=>h
 | k+1=>by
  rw [cX]
  split
  ·exact yf h a l k
  ·exact ak.aeK (yf h a l k) _ _
end aj
end
section
namespace aj
open Go Go.aK
theorem AD(S:ak.aX):(cV S).length=S.s.length:=by simp [cV]
theorem o6{S:ak.aX}{k:Nat}(h:k<S.s.length):(cV S).getD k []=(ak.read S (k:Int)).1:=by
 unfold cV
 rw [List.getD_eq_getElem?_getD,List.getElem?_map,List.getElem?_range h];rfl
theorem RE{S:ak.aX}(bC:ak.Ok S)(bw:S.off=false){k:Nat}(h:k<S.s.length):(ak.read S (k:Int)).2=0∧(ak.read S (k:Int)).1.length=64:=by
 have aH:0≤(k:Int)∧(k:Int)<S.s.length:=by omega
 have bq:=ak.pG (S:=S) (by rw [bw];simp) aH
 have hs:=bC.at aH
 unfold ak.read
 rw [if_pos bq]
 refine ⟨rfl,?_⟩
 dsimp only
 split
 ·exact hs.2.1 ‹_›
 ·exact hs.1
def eI(R:List (List UInt8))(k:Nat):List Part:=(R.take k).map c3
theorem Af{R:List (List UInt8)}{k:Nat}(h:k≤R.length):(eI R k).length=k:=by unfold eI;rw [List.length_map,List.length_take];omega
theorem o3{R:List (List UInt8)}{k:Nat}(h:k<R.length):(eI R k).flatMap rW++rW (c3 (R.getD k []))=(eI R (k+1)).flatMap rW:=by
 unfold eI
 rw [nP (d:=([]:List UInt8)) h,List.map_append,List.flatMap_append];simp
theorem xr{R:List (List UInt8)}{k:Nat}:∀ x∈eI R k,px x:=fun x aM=>by
 obtain ⟨s,_,rfl⟩:=List.mem_map.1 aM
 exact xZ s
theorem uF{l:List (List UInt8)}{k:Nat}(h:l.getD k []=z64):gH l (k+1)=gH l k:=by rw [gH,if_pos h]
theorem uE{l:List (List UInt8)}{k:Nat}(h:l.getD k []≠z64):gH l (k+1)=(k:Int)+1:=by rw [gH,if_neg h]
theorem uy{l:List (List UInt8)}{k:Nat}(h:(c3 (l.getD k [])).ok=false∧l.getD k []≠z64):hb l (k+1)=hb l k++[(k:Int)]:=by rw [hb,if_pos h]
theorem rm{l:List (List UInt8)}{k:Nat}(h:¬ ((c3 (l.getD k [])).ok=false∧l.getD k []≠z64)):hb l (k+1)=hb l k:=by rw [hb,if_neg h]
theorem wx(l:List (List UInt8)):∀ k,0≤gH l k∧gH l k≤k
 | 0=>⟨Int.le_refl _,Int.le_refl _⟩
 | k+1=>by
  have:=wx l k
  rw [gH]
  split <;> omega
theorem xm(l:List (List UInt8)):∀ k,1≤gp l k∧gp l k≤4097
 | 0=>⟨Int.le_refl _,by show (1:Int)≤4097;decide⟩
 | k+1=>by
  have:=xm l k
  have h:=(xZ (l.getD k [])).1
  rw [gp];omega
theorem BJ(l:List (List UInt8)):∀ k,(hb l k).length≤k∧∀ x∈hb l k,0≤x∧x<k
 | 0=>⟨Nat.le_refl _,fun x aM=>by cases aM⟩
 | k+1=>by
  obtain ⟨h1,ar⟩:=BJ l k
  rw [hb]
  split
  ·refine ⟨by rw [List.length_append];simpa using h1,fun x aM=>?_⟩
   rcases List.mem_append.1 aM with aM | aM
   ·have:=ar x aM;omega
   ·have:x=(k:Int):=by simpa using aM
    omega
  ·exact ⟨by omega,fun x aM=>by have:=ar x aM;omega⟩
def mT(k:Nat)(a:Acc):Prop:=(a.1.length:Int)≤k∧a.2.length=a.1.length∧(∀ x∈a.1,1≤x∧x≤4096)∧∀ x∈a.2,x.length≤8064
theorem mT.start:mT 0 ([],[]):=by
 refine ⟨Int.le_refl _,rfl,?_,?_⟩
 ·intro x aM;cases aM
 ·intro x aM;cases aM
theorem mT.up{k m:Nat}{a:Acc}(h:mT k a)(hm:k≤m):mT m a:=⟨by have:=h.1;omega,h.2⟩
theorem mT.add{k m:Nat}{a:Acc}(h:mT k a)(hm:k<m){n:Int}{t:List UInt8}(bD:1≤n∧n≤4096)(aN:t.length≤8064):mT m (a.1++[n],a.2++[t]):=by
 obtain ⟨h1,ar,aQ,bF⟩:=h
 refine ⟨by simp;omega,by simp [ar],fun x aM=>?_,fun x aM=>?_⟩
 ·rcases List.mem_append.1 aM with aM | aM
  ·exact aQ x aM
  ·have:x=n:=by simpa using aM
   omega
 ·rcases List.mem_append.1 aM with aM | aM
  ·exact bF x aM
  ·have:x=t:=by simpa using aM
   subst this;exact aN
theorem agE{l:List Part}(h:(mJ l).2.2=false):gi l=none:=by
 unfold mJ at h
 cases aY:gi l with
 | none=>rfl
 | some q=>rw [aY] at h;cases h
theorem agF{l:List Part}(h:(mJ l).2.2=true):∃ n:Nat,gi l=some ((mJ l).1,n)∧(mJ l).2.1=n:=by
 unfold mJ at h ⊢
 cases aY:gi l with
 | none=>rw [aY] at h;cases h
 | some q=>exact ⟨q.2,rfl,rfl⟩
theorem RH{l:List Part}{t:List UInt8}{n:Nat}(h:gi l=some (t,n))(hl:∀ x∈l,px x):(f0 l).ok=true∧t.length≤8064:=by
 cases l with
 | nil=>cases h
 | cons f l=>
  rw [AG] at h
  by_cases bq:f.ok=true∧f.p=0∧1≤a7 f.l∧a7 f.l≤(f::l).length∧gT f 0 ((f::l).take (a7 f.l).toNat)=true
  ·rw [if_pos bq] at h
   injection h with h
   injection h with h ar
   refine ⟨bq.1,?_⟩
   have aQ:=JO (l:=(f::l).take (a7 f.l).toNat) fun x aM=>hl x (List.mem_of_mem_take aM)
   have bF:=nD f.l
   rw [List.length_take] at aQ
   rw [← h];omega
  ·rw [if_neg bq] at h;cases h
theorem JT{s:List UInt8}(h:(c3 s).ok=true):1≤(c3 s).n:=by
 by_cases aP:fb s
 ·rw [A1 aP];have:=aP.2.2.1;dsimp only;omega
 ·rw [r4 aP] at h;cases h
end aj
end
section
namespace aj
open Go Go.aK
theorem vr(l:List (List UInt8))(k:Nat):gp l (k+1)=max (gp l k) ((c3 (l.getD k [])).n+1):=rfl
theorem BO{s:List UInt8}(h:(c3 s).ok=true):s≠z64:=fun e=>by
 have:=JT h
 subst e
 have ar:¬ fb z64:=fun aP=>by
  have aQ:=aP.2.2.1
  have bF:num z64=0:=by decide
  omega
 rw [r4 ar] at h;cases h
theorem B2{l:List (List UInt8)}{m:Nat}(h:l.getD m []≠z64):∀ k,m<k→(m:Int)+1≤gH l k
 | 0,aE=>by omega
 | k+1,aE=>by
  rw [gH]
  split
  ·rename_i bj
   rcases Nat.lt_or_ge m k with ar | ar
   ·exact B2 h k ar
   ·rw [show k=m by omega] at bj;exact absurd bj h
  ·omega
theorem DC{R:List (List UInt8)}{k n:Nat}(h:k<n)(bD:n≤R.length):(eI R n).getD k cv=c3 (R.getD k []):=by
 unfold eI
 rw [List.getD_eq_getElem?_getD,List.getElem?_map,List.getElem?_take,if_pos h,List.getElem?_eq_getElem ag,List.getD_eq_getElem?_getD,List.getElem?_eq_getElem ag];rfl
theorem oO(l:List Part)(m:Nat):f0 (l.drop m)=l.getD m cv:=by
 unfold f0
 rw [List.getD_eq_getElem?_getD,List.getElem?_drop,List.getD_eq_getElem?_getD];rfl
theorem Qd{S:ak.aX}{acc:Acc}(h:scan ((eI (cV S) S.s.length).drop S.s.length) acc=scan (eI (cV S) S.s.length) ([],[])) :
  bW S=⟨acc.1,acc.2,hb (cV S) S.s.length,gp (cV S) S.s.length,gH (cV S) S.s.length,false⟩:=by
 have hl:=AD S
 rw [List.drop_of_length_le (by rw [Af ag];exact Nat.le_refl _),ahz] at h
 have e:(cV S).map c3=eI (cV S) S.s.length:=by unfold eI;rw [List.take_of_length_le ag]
 unfold bW tj
 rw [hl,e,← h]
theorem TN{S:ak.aX}{acc:Acc}(bC:ak.Ok S)(bg:mT S.s.length acc)(aw:(acc.1.length:Int)≤gH (cV S) S.s.length):lu ⟨acc.1,acc.2,hb (cV S) S.s.length,gp (cV S) S.s.length,gH (cV S) S.s.length,false⟩:=by
 have fN:=bC.aH
 have h1:=xm (cV S) S.s.length
 have ar:=wx (cV S) S.s.length
 have aQ:=BJ (cV S) S.s.length
 exact ⟨h1.1,h1.2,ar.1,by show gH _ _≤4096;omega,aw,bg.2.1,by show ((hb _ _).length:Int)≤4096;omega,bg.2.2.1,fun x aM=>by have:=aQ.2 x aM;omega,bg.2.2.2⟩
end aj
end
section
namespace aj
open Go Go.aK
def tO(l:List Part):Bool:=(f0 l).ok&&decide ((f0 l).p=0)&&decide (a7 (f0 l).l≤l.length)
theorem aeh{f:Part}{l:List Part}{i:Nat}(h:gT f 0 (l.take i)=false){n:Nat}(bD:i≤n):gT f 0 (l.take n)=false:=by
 have e:l.take n=l.take i++(l.take n).drop i:=by
  have ar:=List.take_append_drop i (l.take n)
  rw [List.take_take,Nat.min_eq_left bD] at ar
  exact ar.symm
 rw [e,Is,h];rfl
theorem agH{l:List Part}(hl:l≠[])(bq:1≤a7 (f0 l).l){i:Nat}(h:(tO l&&gT (f0 l) 0 (l.take i))=true)(aH:(i:Int)=a7 (f0 l).l):gi l=some (mh (l.take i),i):=by
 simp only [tO,Bool.and_eq_true,decide_eq_true_eq] at h
 obtain ⟨⟨⟨h1,ar⟩,aQ⟩,bF⟩:=h
 have e:(a7 (f0 l).l).toNat=i:=by omega
 rw [vC hl,e,if_pos ⟨h1,ar,bq,aQ,bF⟩]
theorem agG{l:List Part}(hl:l≠[]){i:Nat}(h:(tO l&&gT (f0 l) 0 (l.take i))=false)(aH:(i:Int)≤a7 (f0 l).l):gi l=none:=by
 rw [vC hl,if_neg]
 rintro ⟨h1,ar,aQ,bF,cO⟩
 have hw:tO l=true:=by simp only [tO,Bool.and_eq_true,decide_eq_true_eq];exact ⟨⟨h1,ar⟩,bF⟩
 rw [hw,Bool.true_and] at h
 have:=aeh h (n:=(a7 (f0 l).l).toNat) ag
 rw [this] at cO;cases cO
end aj
end
section
namespace aj
open Go Go.aK
theorem ac7(n k:Nat):c0 n (k+1)=UInt8.ofNat n::c0 (n/256) k:=by
 unfold c0
 rw [List.range_succ_eq_map,List.map_cons,List.map_map,Nat.pow_zero,Nat.div_one]
 congr 1
 refine List.map_congr_left fun i _=>?_
 show UInt8.ofNat (n/256^(i+1))=UInt8.ofNat (n/256/256^i)
 rw [Nat.pow_succ,Nat.mul_comm,Nat.div_div_eq_div_mul]
theorem Dm:∀ (k n:Nat),eA (c0 n k)=n%256^k
 | 0,n=>by show 0=n%1;omega
 | k+1,n=>by
  rw [ac7,PX,Dm k,Nat.pow_succ,Nat.mul_comm (256^k),Nat.mod_mul]
  have:(UInt8.ofNat n).toNat=n%256:=by simp
  omega
theorem aao(n k:Nat)(r:List UInt8):(aT n k r).take 4=c0 n 4:=by
 unfold aT;rw [List.append_assoc,List.append_assoc,List.take_append_of_le_length (by rw [kP];omega),List.take_of_length_le (by rw [kP];omega)]
theorem aap(n k:Nat)(r:List UInt8):List.drop 4 ((aT n k r).take 6)=c0 k 2:=by
 unfold aT
 rw [List.append_assoc,List.take_append_of_le_length (by simp [kP]),List.take_of_length_le (by simp [kP]),List.drop_left' (kP n 4)]
theorem aaq(n k:Nat)(r:List UInt8):List.drop 6 ((aT n k r).take 8)=c0 r.length 2:=by
 unfold aT
 rw [List.take_append_of_le_length (by simp [kP]),List.take_of_length_le (by simp [kP]),List.drop_left' (by simp [kP])]
theorem N0(n k:Nat)(r:List UInt8):(aT n k r).drop 8=p2 r:=by
 unfold aT;rw [List.drop_left' (by simp [kP])]
theorem xO(n:Int)(t:List UInt8)(k:Nat):(sec n t k).take 56=aT n.toNat k (t.drop (48*k)):=by
 unfold sec jT;rw [List.take_left' (uT _ _ _)]
theorem Eb(s:List UInt8){m:Nat}(h:m≤56):s.take m=(s.take 56).take m:=by rw [List.take_take,Nat.min_eq_left h]
theorem Sr(n:Int)(bD:0≤n∧n<4294967296)(t:List UInt8)(k:Nat):(num (sec n t k):Int)=n:=by
 unfold num;rw [Eb _ (by decide:4≤56),xO,aao,Dm];omega
theorem Ss(n:Int)(t:List UInt8)(k:Nat)(aE:k<65536):par (sec n t k)=k:=by
 unfold par;rw [Eb _ (by decide:6≤56),xO,aap,Dm];omega
theorem Sq(n:Int)(t:List UInt8)(k:Nat)(aN:t.length<65536):jZ (sec n t k)=t.length-48*k:=by
 unfold jZ;rw [Eb _ (by decide:8≤56),xO,aaq,Dm,List.length_drop];omega
theorem LC{t:List UInt8}(aN:t.length≤8000){k:Nat}(aE:k<(a7 t.length).toNat):k≤166∧48*k≤t.length∧(0<k→48*k<t.length):=by
 have h:=nD t.length
 by_cases h0:t.length=0
 ·rw [h0] at aE
  have:k<1:=aE
  omega
 ·rw [Fv ag] at aE;omega
theorem aeY(r:List UInt8):(p2 r).drop (min r.length 48)=List.replicate (48-min r.length 48) 0:=by
 unfold p2
 rw [List.drop_left' (by rw [List.length_take];omega)]
 congr 1;omega
theorem ae0(r:List UInt8):(p2 r).take (min r.length 48)=r.take 48:=by
 unfold p2
 rw [List.take_left' (by rw [List.length_take];omega)]
theorem ahK{n:Int}(bD:1≤n∧n≤4096){t:List UInt8}(aN:t.length≤8000){k:Nat}(aE:k<(a7 t.length).toNat):fb (sec n t k):=by
 have bq:=LC aN aE
 have h1:=Sr n ag t k
 have ar:=Ss n t k ag
 have aQ:=Sq n t k ag
 refine ⟨xN _ _ _,by rw [xO];rfl,by omega,by omega,by omega,by omega,?_⟩
 have e:eR (sec n t k)=min (t.drop (48*k)).length 48:=by unfold eR;rw [aQ,List.length_drop]
 rw [e,xO,← List.drop_drop,N0,aeY]
theorem x0{n:Int}(bD:1≤n∧n≤4096){t:List UInt8}(aN:t.length≤8000){k:Nat}(aE:k<(a7 t.length).toNat):c3 (sec n t k)=⟨n,k,t.length-48*k,(t.drop (48*k)).take 48,true⟩:=by
 have bq:=LC aN aE
 have h1:=Sr n ag t k
 have ar:=Ss n t k ag
 have aQ:=Sq n t k ag
 rw [A1 (ahK bD aN aE)]
 have e:eR (sec n t k)=min (t.drop (48*k)).length 48:=by unfold eR;rw [aQ,List.length_drop]
 have iw:List.drop 8 ((sec n t k).take (8+eR (sec n t k)))=(t.drop (48*k)).take 48:=by
  rw [e,Eb _ ag,xO,List.drop_take,N0,Nat.add_sub_cancel_left,ae0]
 rw [iw,h1,ar,aQ]
 congr 1
 omega
theorem PT{f:Part}:∀ (l:List Part) (k:Nat),(∀ i,i<l.length→mt f (k+i) (l.getD i cv)=true)→gT f k l=true
 | [],_,_=>rfl
 | q::l,k,h=>by
  show (mt f k q&&gT f (k+1) l)=true
  have cA:mt f k q=true:=h 0 (by simp)
  rw [cA,PT l (k+1) fun i aH=>by
   have:=h (i+1) (by simpa using aH)
   rwa [List.getD_cons_succ,show k+(i+1)=k+1+i by omega] at this]
  rfl
def sp(n:Int)(t:List UInt8)(k:Nat):Part:=⟨n,k,t.length-48*k,(t.drop (48*k)).take 48,true⟩
def nO(n:Int)(t:List UInt8):List Part:=(List.range (a7 t.length).toNat).map (sp n t)
theorem JF(n:Int)(t:List UInt8):(nO n t).length=(a7 t.length).toNat:=by simp [nO]
theorem JE(n:Int)(t:List UInt8){k:Nat}(aE:k<(a7 t.length).toNat):(nO n t).getD k cv=sp n t k:=by
 unfold nO
 rw [List.getD_eq_getElem?_getD,List.getElem?_map,List.getElem?_range aE];rfl
theorem SQ(t:List UInt8):∀ c:Nat,(List.range c).flatMap (fun k=>(t.drop (48*k)).take 48)=t.take (48*c)
 | 0=>rfl
 | c+1=>by
  rw [List.range_succ,List.flatMap_append,SQ t c,show 48*(c+1)=48*c+48 by omega,List.take_add]
  simp
theorem aid{n:Int}{t:List UInt8}(aN:t.length≤8000):mh (nO n t)=t:=by
 unfold mh nO
 rw [List.flatMap_map]
 have h:=Fw (n:=t.length) ag
 have:=SQ t (a7 t.length).toNat
 have e:(List.range (a7 t.length).toNat).flatMap (fun a=>(sp n t a).t)=(List.range (a7 t.length).toNat).flatMap (fun k=>(t.drop (48*k)).take 48):=rfl
 rw [e,this,List.take_of_length_le ag]
theorem aic(n:Int)(t:List UInt8):gT (sp n t 0) 0 (nO n t)=true:=PT _ _ fun i aH=>by
 rw [JE n t (by rw [JF] at aH;exact aH),Nat.zero_add]
 unfold mt sp
 simp
theorem yQ{t:List UInt8}(aN:t.length≤8000):1≤(a7 t.length).toNat:=by
 have:=BY (n:=t.length) ag;omega
theorem agJ{n:Int}{t:List UInt8}(aN:t.length≤8000)(Q:List Part):gi (nO n t++Q)=some (t,(a7 t.length).toNat):=by
 have bq:=yQ aN
 have hl:=JF n t
 have h0:nO n t++Q≠[]:=fun e=>by
  have:=congrArg List.length e
  rw [List.length_append,hl] at this
  have:(a7 t.length).toNat+Q.length=0:=this
  omega
 have bw:f0 (nO n t++Q)=sp n t 0:=by
  unfold f0
  rw [List.getD_eq_getElem?_getD,List.getElem?_append_left ag,← List.getD_eq_getElem?_getD,JE n t ag]
 have sZ:(sp n t 0).l=t.length:=by unfold sp;dsimp only;omega
 rw [vC h0,bw,sZ,List.take_left' hl,if_pos ⟨rfl,rfl,by omega,by rw [List.length_append,hl];omega,aic n t⟩,aid aN]
theorem Jw{l:List Part}{a:Acc}:∀ m,(∀ i,i<m→gi (l.drop i)=none)→scan l a=scan (l.drop m) a
 | 0,_=>by rw [List.drop_zero]
 | m+1,h=>by
  rw [Jw m fun i aH=>h i ag]
  by_cases aT:l.drop m=[]
  ·have e:l.drop (m+1)=[]:=by rw [← List.drop_drop,aT];rfl
   rw [aT,e]
  ·rw [xM aT (h m ag),List.drop_drop]
theorem I9{l:List Part}(h:(f0 l).ok=false∨(f0 l).p≠0):gi l=none:=by
 cases l with
 | nil=>rfl
 | cons f l=>
  rw [AG,if_neg]
  rintro ⟨h1,ar,_⟩
  rcases h with h | h
  ·rw [show f0 (f::l)=f from rfl,h1] at h;cases h
  ·exact h ar
theorem agI{l:List Part}{j:Nat}(aV:(j:Int)<a7 (f0 l).l)(aw:(l.getD j cv).ok=false):gi l=none:=by
 by_cases h0:l=[]
 ·rw [h0];rfl
 rw [vC h0,if_neg]
 rintro ⟨_,_,_,bF,cO⟩
 have hlen:(l.take (a7 (f0 l).l).toNat).length=(a7 (f0 l).l).toNat:=by rw [List.length_take];omega
 have e:(l.take (a7 (f0 l).l).toNat).getD j cv=l.getD j cv:=by
  rw [List.getD_eq_getElem?_getD,List.getElem?_take,if_pos ag,List.getD_eq_getElem?_getD]
 rw [PV (l:=l.take (a7 (f0 l).l).toNat) (k:=j) ag (.inl (.inl (.inl (by rw [e];exact aw))))] at cO
 cases cO
theorem Sh{n:Int}{t:List UInt8}{A Q:List Part}{a:Acc}(aN:t.length≤8000)(hl:A.length=(a7 t.length).toNat)(gw:∀ i,i<A.length→A.getD i cv=sp n t i∨(A.getD i cv).ok=false){j:Nat}(aV:j<A.length)(aw:(A.getD j cv).ok=false):scan (A++Q) a=scan Q a:=by
 have aT:(A++Q).drop A.length=Q:=List.drop_left' rfl
 rw [Jw A.length,aT]
 intro i aH
 have bw:f0 ((A++Q).drop i)=A.getD i cv:=by
  rw [oO,List.getD_eq_getElem?_getD,List.getElem?_append_left aH,List.getD_eq_getElem?_getD]
 rcases gw i aH with h | h
 ·by_cases h0:i=0
  ·subst h0
   rw [List.drop_zero] at bw ⊢
   refine agI (j:=j) ?_ ?_
   ·rw [bw,h];show (j:Int)<a7 ((t.length:Int)-48*(0:Nat));rw [show ((t.length:Int)-48*(0:Nat))=t.length by omega];omega
   ·rw [List.getD_eq_getElem?_getD,List.getElem?_append_left aV,← List.getD_eq_getElem?_getD];exact aw
  ·exact I9 (.inr (by rw [bw,h];show (i:Int)≠0;omega))
 ·exact I9 (.inl (by rw [bw];exact h))
theorem Si{n:Int}{t:List UInt8}{Q:List Part}{a:Acc}(aN:t.length≤8000):scan (nO n t++Q) a=scan Q (pB a n t):=by
 have bq:=yQ aN
 have hl:=JF n t
 rw [tM (agJ aN Q),List.drop_left' hl]
 have:(nO n t++Q).getD 0 cv=sp n t 0:=by rw [List.getD_eq_getElem?_getD,List.getElem?_append_left ag,← List.getD_eq_getElem?_getD,JE n t ag]
 rw [this];rfl
theorem AR{Q:List Part}{a:Acc}(h:∀ x∈Q,x.ok=false):scan Q a=a:=by
 rw [Jw Q.length,List.drop_length];rfl
 intro i aH
 refine I9 (.inl ?_)
 rw [oO,List.getD_eq_getElem?_getD,List.getElem?_eq_getElem aH]
 exact h _ (List.getElem_mem aH)
theorem r5:c3 z64=cv:=r4 fun aP=>by
 have aQ:=aP.2.2.1
 have bF:num z64=0:=by decide
 omega
end aj
end
section
namespace aj
open Go Go.aK
structure Still (S:ak.aX):Prop where
 off:S.off=false
 left:S.left = -1
 dt:∀ x∈S.s,x.dt=false
theorem JH(S:ak.aX):((ak.step S).2=0∧(ak.step S).1.s=S.s∧(ak.step S).1.off=S.off)∨((ak.step S).2=23∧(ak.step S).1.s=S.s):=by
 unfold ak.step
 split
 ·exact .inr ⟨rfl,rfl⟩
 ·split
  ·exact .inl ⟨rfl,rfl,rfl⟩
  ·exact .inl ⟨rfl,rfl,rfl⟩
theorem YV{α:Type}(l:List α)(i j:Nat)(x d:α):(l.set i x).getD j d=if j=i∧i<l.length then x else l.getD j d:=by
 rw [List.getD_eq_getElem?_getD,List.getElem?_set,List.getD_eq_getElem?_getD]
 by_cases h:i=j
 ·subst h
  by_cases ar:i<l.length
  ·rw [if_pos rfl,if_pos ar,if_pos ⟨rfl,ar⟩];rfl
  ·rw [if_pos rfl,if_neg ar,if_neg (fun e=>ar e.2),List.getElem?_eq_none ag]
 ·rw [if_neg h,if_neg (fun e=>h e.1.symm)]
def r7(S:ak.aX)(a:Nat)(l:List (List UInt8))(k j:Nat):ak.eB:=if a≤j∧j<a+k then ⟨(S.s.getD j ak.b3).tx,l.getD (j-a) [],true,(S.s.getD j ak.b3).wn⟩ else S.s.getD j ak.b3
theorem Bj{S:ak.aX}(bw:S.off=false){a:Int}{l:List (List UInt8)}(bg:0≤a)(h8:a+l.length≤S.s.length)(hl:∀ x∈l,x.length=64):∀ k,k≤l.length→(cX S a l k).2=0 →
  (cX S a l k).1.off=false∧(cX S a l k).1.s.length=S.s.length∧∀ j,j<S.s.length→(cX S a l k).1.s.getD j ak.b3=r7 S a.toNat l k j:=by
 intro k
 induction k with
 | zero=>intro _ _;refine ⟨bw,rfl,fun j aV=>?_⟩;unfold r7;rw [if_neg ag];rfl
 | succ k ih=>
  intro aE h
  have h0:(cX S a l k).2=0:=by
   by_cases h1:(cX S a l k).2=0
   ·exact h1
   ·rw [cX,if_pos h1] at h;exact h
  obtain ⟨i1,i2,i3⟩:=ih ag h0
  rw [r8 h0] at h ⊢
  generalize (cX S a l k).1=W at i1 i2 i3 h ⊢
  have bq:ak.check W (a+k)=0:=ak.pG (by rw [i1];simp) (by rw [i2];omega)
  have fo:(l.getD k []).length=64:=hl _ (ak.jm ag)
  rcases JH W with ⟨s1,s2,Jo⟩ | ⟨s1,s2⟩
  ·rw [ak.vV bq fo s1]
   refine ⟨by unfold ak.mark ak.aX.put;dsimp only;rw [Jo];exact i1,by rw [ak.Pz,s2];exact i2,fun j aV=>?_⟩
   unfold ak.mark ak.aX.put ak.aX.at
   dsimp only
   rw [s2,YV,show (a+(k:Int)).toNat=a.toNat+k by omega]
   by_cases l4:j=a.toNat+k
   ·rw [if_pos ⟨l4,by omega⟩,l4,i3 _ ag]
    unfold r7
    rw [if_neg ag,if_pos ag,Nat.add_sub_cancel_left]
   ·rw [if_neg (fun e=>l4 e.1),i3 j aV]
    unfold r7
    by_cases wZ:a.toNat≤j∧j<a.toNat+k
    ·rw [if_pos wZ,if_pos ag]
    ·rw [if_neg wZ,if_neg ag]
  ·rw [ak.vU bq fo ag] at h;omega
theorem ajK{S:ak.aX}(bw:S.off=false){a:Int}{l:List (List UInt8)}(bg:0≤a)(h8:a+l.length≤S.s.length)(hl:∀ x∈l,x.length=64):∀ k,k≤l.length→(cX S a l k).2≠0 →
  ∃ m,m<k∧(cX S a l m).2=0∧(cX S a l k).1.s=(cX S a l m).1.s∧(cX S a l k).2=23:=by
 intro k
 induction k with
 | zero=>intro _ h;exact absurd rfl h
 | succ k ih=>
  intro aE h
  by_cases h1:(cX S a l k).2=0
  ·obtain ⟨i1,i2,i3⟩:=Bj bw bg h8 hl k ag h1
   refine ⟨k,by omega,h1,?_⟩
   rw [r8 h1] at h ⊢
   generalize (cX S a l k).1=W at i1 i2 i3 h ⊢
   have bq:ak.check W (a+k)=0:=ak.pG (by rw [i1];simp) (by rw [i2];omega)
   have fo:(l.getD k []).length=64:=hl _ (ak.jm ag)
   rcases JH W with ⟨s1,s2,Jo⟩ | ⟨s1,s2⟩
   ·rw [ak.vV bq fo s1] at h;exact absurd rfl h
   ·rw [ak.vU bq fo ag];exact ⟨s2,s1⟩
  ·obtain ⟨m,ar,aQ,bF,cO⟩:=ih ag h1
   rw [cX,if_pos h1]
   exact ⟨m,by omega,aQ,bF,cO⟩
theorem ajL{S:ak.aX}(bw:S.off=false)(ch:S.left = -1){a:Int}{l:List (List UInt8)}(bg:0≤a)(h8:a+l.length≤S.s.length)(hl:∀ x∈l,x.length=64):∀ k,k≤l.length→(cX S a l k).2=0∧(cX S a l k).1.left = -1:=by
 intro k
 induction k with
 | zero=>intro _;exact ⟨rfl,ch⟩
 | succ k ih=>
  intro aE
  obtain ⟨h1,ar⟩:=ih ag
  obtain ⟨i1,i2,i3⟩:=Bj bw bg h8 hl k ag h1
  rw [r8 h1]
  generalize (cX S a l k).1=W at i1 i2 i3 ar ⊢
  have bq:ak.check W (a+k)=0:=ak.pG (by rw [i1];simp) (by rw [i2];omega)
  have fo:(l.getD k []).length=64:=hl _ (ak.jm ag)
  have hs:=ak.xU (S:=W) ag
  rw [ak.vV bq fo (by rw [hs]),hs]
  exact ⟨rfl,ar⟩
def ph(S:ak.aX)(a:Nat)(l:List (List UInt8))(j:Nat):ak.eB:=if a≤j∧j<a+l.length then ⟨if (S.s.getD j ak.b3).wn then (S.s.getD j ak.b3).tx else l.getD (j-a) [],[],false,(S.s.getD j ak.b3).wn⟩ else S.s.getD j ak.b3
theorem ahQ{x:ak.eB}(h1:x.nx.length=64)(ar:x.tx.length=64):ak.iQ x 64=⟨if x.wn then x.tx else x.nx,[],false,x.wn⟩:=by
 unfold ak.iQ
 rw [show ak.gR 64=64 from by decide,List.take_of_length_le ag,List.drop_eq_nil_of_le ag,List.append_nil]
theorem ahI{S:ak.aX}(bC:ak.Ok S){j:Nat}(aV:j<S.s.length):ak.qi (S.s.getD j ak.b3):=bC.sec _ (ak.jm aV)
theorem rp{S:ak.aX}(h:∀ x∈S.s,x.dt=false){j:Nat}(aV:j<S.s.length):(S.s.getD j ak.b3).dt=false:=h _ (ak.jm aV)
theorem pY{α:Type}{l:List α}{x d:α}(h:x∈l):∃ j,j<l.length∧x=l.getD j d:=by
 obtain ⟨j,aV,rfl⟩:=List.getElem_of_mem h
 exact ⟨j,aV,by rw [List.getD_eq_getElem?_getD,List.getElem?_eq_getElem aV];rfl⟩
theorem W8{S W:ak.aX}(bC:ak.Ok S)(aT:∀ x∈S.s,x.dt=false){a:Nat}{l:List (List UInt8)}(hl:∀ x∈l,x.length=64)(h8:a+l.length≤S.s.length)
  (hw:W.s.length=S.s.length) (h:∀ j,j<S.s.length→W.s.getD j ak.b3=r7 S a l l.length j):∀ j,j<S.s.length→(ak.fr [] 0 W.s).getD j ak.b3=ph S a l j:=by
 intro j aV
 rw [ak.vo [] W.s 0 0 j ag,h j aV]
 have aM:=ahI bC aV
 unfold r7 ph
 by_cases aY:a≤j∧j<a+l.length
 ·rw [if_pos aY,if_pos aY,if_pos rfl,ak.II]
  exact ahQ (x:=⟨_,l.getD (j-a) [],true,_⟩) (hl _ (ak.jm ag)) aM.1
 ·rw [if_neg aY,if_neg aY,if_neg (by rw [rp aT aV];simp)]
theorem agB{F:ak.aX}{a:Nat}{l:List (List UInt8)}(bw:F.off=false)(aT:∀ x∈F.s,x.dt=false)(h8:a+l.length≤F.s.length):∀ k,k≤l.length →
  iX F (a:Int) l k=(0,decide (∀ i,i<k→l.getD i []=(F.s.getD (a+i) ak.b3).tx)):=by
 intro k
 induction k with
 | zero=>intro _;show ((0:Int),true)=_;rw [decide_eq_true];intro i aH;omega
 | succ k ih=>
  intro aE
  have h1:=ih ag
  have aH:0≤(a:Int)+k∧(a:Int)+k<F.s.length:=by omega
  have bq:=ak.pG (S:=F) (by rw [bw];simp) aH
  have aY:ak.read F (a+k)=((F.s.getD (a+k) ak.b3).tx,0):=by
   have aN:F.at ((a:Int)+k)=F.s.getD (a+k) ak.b3:=by unfold ak.aX.at;rw [show ((a:Int)+k).toNat=a+k by omega]
   rw [ak.AF bq (by rw [aN,rp aT ag];simp),aN]
  rw [AB (by rw [h1]) (by rw [aY]),aY,h1]
  congr 1
  rw [← Bool.decide_and]
  refine decide_eq_decide.2 ⟨fun aM i aH=>?_,fun aM=>⟨fun i aH=>aM i ag,aM k ag⟩⟩
  rcases Nat.lt_or_ge i k with ar | ar
  ·exact aM.1 i ar
  ·rw [show i=k by omega];exact aM.2
theorem ajt{S:ak.aX}(bC:ak.Ok S)(U:Still S){a:Nat}{l:List (List UInt8)}(hl:∀ x∈l,x.length=64)(h8:a+l.length≤S.s.length) :
  ∃ F,Still F∧ak.Ok F∧F.s.length=S.s.length∧(∀ j,j<S.s.length→F.s.getD j ak.b3=ph S a l j)∧fx S (a:Int) l=(F,0,decide (∀ i,i<l.length→l.getD i []=(F.s.getD (a+i) ak.b3).tx)):=by
 obtain ⟨h1,ar⟩:=ajL U.off U.left (a:=(a:Int)) (l:=l) ag ag hl l.length (Nat.le_refl _)
 obtain ⟨i1,i2,i3⟩:=Bj U.off (a:=(a:Int)) (l:=l) ag ag hl l.length (Nat.le_refl _) h1
 rw [Int.toNat_natCast] at i3
 have wO:=yf bC (a:Int) l l.length
 have eK:ak.flush (cX S a l l.length).1=(⟨ak.fr [] 0 (cX S a l l.length).1.s,false, -1⟩,0):=by
  unfold ak.flush
  have hs:=ak.xU (S:=(cX S a l l.length).1) ag
  rw [if_neg (by rw [i1];simp),hs,if_neg (by simp),i1,ar]
 have N4:=W8 bC U.dt hl h8 i2 i3
 have hlen:(ak.fr [] 0 (cX S a l l.length).1.s).length=S.s.length:=by rw [ak.m8,i2]
 have N1:∀ x∈ak.fr [] 0 (cX S a l l.length).1.s,x.dt=false:=fun x aM=>by
  obtain ⟨j,aV,rfl⟩:=pY (d:=ak.b3) aM
  rw [N4 j ag]
  unfold ph
  split
  ·rfl
  ·exact rp U.dt ag
 have n1:=ak.ID wO
 rw [eK] at n1
 refine ⟨⟨ak.fr [] 0 (cX S a l l.length).1.s,false, -1⟩,⟨rfl,rfl,N1⟩,n1,hlen,N4,?_⟩
 have pR:=agB (F:=⟨ak.fr [] 0 (cX S a l l.length).1.s,false, -1⟩) (a:=a) (l:=l) rfl N1 (by show a+l.length≤(ak.fr _ _ _).length;omega) l.length (Nat.le_refl _)
 rw [kA (F:=⟨ak.fr [] 0 (cX S a l l.length).1.s,false, -1⟩) (by rw [eK]) h1 (by rw [eK]) (by rw [pR]),pR]
end aj
end
section
namespace aj
open Go Go.aK
def dP(S:ak.aX)(j:Nat):List UInt8:=(S.s.getD j ak.b3).tx
def ig(S:ak.aX):List Part:=(List.range S.s.length).map fun j=>c3 (dP S j)
theorem aij{S:ak.aX}(U:Still S){k:Nat}(aE:k<S.s.length):(ak.read S (k:Int)).1=dP S k:=by
 have bq:=ak.pG (S:=S) (i:=(k:Int)) (by rw [U.off];simp) ag
 have aN:S.at (k:Int)=S.s.getD k ak.b3:=by unfold ak.aX.at;rw [Int.toNat_natCast]
 rw [ak.AF bq (by rw [aN,rp U.dt aE];simp),aN];rfl
theorem vJ{S:ak.aX}(U:Still S):cV S=(List.range S.s.length).map (dP S):=List.map_congr_left fun k aE=>aij U (List.mem_range.1 aE)
theorem D8{S:ak.aX}(U:Still S):(cV S).map c3=ig S:=by rw [vJ U,List.map_map];rfl
theorem Ag(S:ak.aX):(ig S).length=S.s.length:=by simp [ig]
theorem xP(n:Int)(t:List UInt8){k:Nat}(aE:k<(a7 t.length).toNat):(cD n t).getD k []=sec n t k:=by
 unfold cD
 rw [List.getD_eq_getElem?_getD,List.getElem?_map,List.getElem?_range aE];rfl
theorem JB{n:Int}{t:List UInt8}:∀ x∈cD n t,x.length=64:=fun x aM=>by
 obtain ⟨k,_,rfl⟩:=List.mem_map.1 aM
 exact xN _ _ _
theorem QC{S:ak.aX}{a:Nat}(h:a≤S.s.length):(ig S).take a=(List.range a).map fun j=>c3 (dP S j):=by
 unfold ig;rw [← List.map_take,List.take_range,Nat.min_eq_left h]
theorem QB{S F:ak.aX}{a c:Nat}(hl:F.s.length=S.s.length)(h8:a+c≤S.s.length)(h:∀ j,j<a→dP F j=dP S j) :
  (ig F).take (a+c)=(ig S).take a++(List.range c).map fun i=>c3 (dP F (a+i)):=by
 rw [QC ag,QC ag,List.range_add,List.map_append,List.map_map]
 congr 1
 exact List.map_congr_left fun j aV=>by rw [h j (List.mem_range.1 aV)]
structure yl (S:ak.aX) (J:dC):Prop where
 ok:ak.Ok S
 still:Still S
 gR:J.gR=false
 wf:lu J
 en:J.en≤S.s.length
 lt:∀ x∈J.nums,x<J.next
 sc:∀ Q,scan ((ig S).take J.en.toNat++Q) ([],[])=scan Q (J.nums,J.tx)
 bl:∀ j,J.en.toNat≤j→j<S.s.length→dP S j=z64
theorem oZ{α:Type}(f:Nat→α){c i:Nat}(h:i<c)(d:α):((List.range c).map f).getD i d=f i:=by
 rw [List.getD_eq_getElem?_getD,List.getElem?_map,List.getElem?_range h];rfl
theorem xF{α:Type}(f:Nat→α)(c:Nat):((List.range c).map f).length=c:=by simp
theorem TM{S:ak.aX}{a:Nat}{l:List (List UInt8)}{j:Nat}(h:j<a):ph S a l j=S.s.getD j ak.b3:=by unfold ph;rw [if_neg ag]
theorem ajq{S:ak.aX}{a:Nat}{l:List (List UInt8)}{j:Nat}(h:a+l.length≤j):ph S a l j=S.s.getD j ak.b3:=by unfold ph;rw [if_neg ag]
theorem TL{S:ak.aX}{a:Nat}{l:List (List UInt8)}{i:Nat}(h:i<l.length):(ph S a l (a+i)).tx=if (S.s.getD (a+i) ak.b3).wn then dP S (a+i) else l.getD i []:=by
 unfold ph;rw [if_pos ag,Nat.add_sub_cancel_left];rfl
theorem Y1{S:ak.aX}{J:dC}(h:yl S J){t:List UInt8}(aN:t.length≤8000)(bD:J.next≤4096)(aY:¬ room J S<a7 t.length) :
  ∃ F b,yl F (if b=true then jC J t else ki J t)∧fx S J.en (cD J.next t)=(F,0,b)∧F.s.length=S.s.length∧(∀ j,j<S.s.length→F.s.getD j ak.b3=ph S J.en.toNat (cD J.next t) j)∧(b=true↔∀ i,i<(a7 t.length).toNat→dP F (J.en.toNat+i)=sec J.next t i):=by
 have lF:=h.wf.mH
 have aay:=h.wf.bL
 have h9:=nD t.length
 have jh:=o9 J.next t
 have fD:=aY
 unfold room at fD
 have aaA:((J.en.toNat:Nat):Int)=J.en:=by omega
 obtain ⟨F,ab,n1,hlen,ix,hw⟩:=ajt h.ok h.still (a:=J.en.toNat) (l:=cD J.next t) JB (by rw [jh];omega)
 rw [aaA] at hw
 have iK:∀ i,i<(a7 t.length).toNat→dP F (J.en.toNat+i)=if (S.s.getD (J.en.toNat+i) ak.b3).wn then z64 else sec J.next t i:=fun i aH=>by
  unfold dP
  rw [ix _ ag,TL ag,xP _ _ aH,h.bl _ ag ag]
 have fF:∀ j,j<J.en.toNat→dP F j=dP S j:=fun j aV=>by unfold dP;rw [ix _ ag,TM aV]
 have gJ:∀ j,J.en.toNat+(a7 t.length).toNat≤j→j<S.s.length→dP F j=z64:=fun j aV l4=>by
  have:=h.bl j ag l4
  unfold dP at this ⊢
  rw [ix _ ag,ajq ag];exact this
 have fH:=QB (c:=(a7 t.length).toNat) hlen ag fF
 have am6:((cD J.next t).length:Int)=a7 t.length:=by rw [jh];omega
 have OE:=J6 h.wf (by have:=h.ok.aH;omega) ⟨aN,bD⟩ aY
 have rF:(J.en+((cD J.next t).length:Int)).toNat=J.en.toNat+(a7 t.length).toNat:=by omega
 by_cases aw:∀ i,i<(a7 t.length).toNat→dP F (J.en.toNat+i)=sec J.next t i
 ·refine ⟨F,true,?_,?_,hlen,ix,⟨fun _=>aw,fun _=>rfl⟩⟩
  ·rw [if_pos rfl]
   have gw:((List.range (a7 t.length).toNat).map fun i=>c3 (dP F (J.en.toNat+i)))=nO J.next t:=List.map_congr_left fun i aH=>by
    have aH:=List.mem_range.1 aH
    rw [aw i aH];exact x0 ⟨lF,bD⟩ aN aH
   refine ⟨n1,ab,h.gR,J7 h.wf OE ⟨aN,bD⟩,?_,?_,?_,?_⟩
   ·show J.en+((cD J.next t).length:Int)≤F.s.length
    omega
   ·intro x aM
    show x<J.next+1
    rcases List.mem_append.1 aM with aM | aM
    ·have:=h.lt x aM;omega
    ·have:x=J.next:=by simpa using aM
     omega
   ·intro Q
    show scan ((ig F).take (J.en+((cD J.next t).length:Int)).toNat++Q) ([],[])=scan Q (J.nums++[J.next],J.tx++[t])
    rw [rF,fH,gw,List.append_assoc,h.sc,Si aN]
    unfold pB
    rw [if_neg (fun hm=>by have:=h.lt _ hm;omega)]
   ·intro j aV l4
    exact gJ j (by rw [← rF];exact aV) ag
  ·rw [hw,decide_eq_true]
   intro i aH
   rw [jh] at aH
   rw [xP _ _ aH];exact (aw i aH).symm
 ·refine ⟨F,false,?_,?_,hlen,ix,⟨fun e=>(by cases e),fun e=>absurd e aw⟩⟩
  ·rw [if_neg (by simp)]
   refine ⟨n1,ab,h.gR,OE,?_,?_,?_,?_⟩
   ·show J.en+((cD J.next t).length:Int)≤F.s.length
    omega
   ·intro x aM
    show x<J.next+1
    have:=h.lt x aM;omega
   ·intro Q
    show scan ((ig F).take (J.en+((cD J.next t).length:Int)).toNat++Q) ([],[])=scan Q (J.nums,J.tx)
    rw [rF,fH,List.append_assoc,h.sc]
    have aM:∀ i,i<(a7 t.length).toNat→c3 (dP F (J.en.toNat+i))=sp J.next t i∨(c3 (dP F (J.en.toNat+i))).ok=false:=fun i aH=>by
     rw [iK i aH]
     split
     ·right;rw [r5];rfl
     ·left;exact x0 ⟨lF,bD⟩ aN aH
    obtain ⟨i,aH,fG⟩:∃ i,i<(a7 t.length).toNat∧¬ dP F (J.en.toNat+i)=sec J.next t i:=by
     apply Classical.byContradiction
     intro iz
     exact aw fun i aH=>Classical.byContradiction fun he=>iz ⟨i,aH,he⟩
    refine Sh (n:=J.next) (t:=t) aN (xF _ _) (fun i aH=>?_) (j:=i) (by rw [xF];exact aH) ?_
    ·rw [xF] at aH
     rw [oZ _ aH];exact aM i aH
    ·rw [oZ _ aH,iK i aH]
     rw [iK i aH] at fG
     split
     ·rw [r5];rfl
     ·rename_i vk;rw [if_neg vk] at fG;exact absurd rfl fG
   ·intro j aV l4
    exact gJ j (by rw [← rF];exact aV) ag
  ·rw [hw,decide_eq_false]
   intro he
   refine aw fun i aH=>?_
   have:=he i ag
   rw [xP _ _ aH] at this;exact this.symm
theorem Vh{l:List (List UInt8)}(h:∀ j,j<l.length→l.getD j []=z64):tj l=⟨[],[],[],1,0,false⟩:=by
 have h1:∀ k,k≤l.length→hb l k=[]∧gp l k=1∧gH l k=0:=by
  intro k
  induction k with
  | zero=>intro _;exact ⟨rfl,rfl,rfl⟩
  | succ k ih=>
   intro aE
   obtain ⟨fT,a2,a3⟩:=ih ag
   have bj:=h k ag
   refine ⟨by rw [hb,if_neg (fun e=>e.2 bj),fT],by rw [gp,a2,bj,r5];rfl,by rw [gH,if_pos bj,a3]⟩
 have ar:scan (l.map c3) ([],[])=([],[]):=AR fun x aM=>by
  obtain ⟨s,hs,rfl⟩:=List.mem_map.1 aM
  obtain ⟨j,aV,rfl⟩:=pY (d:=([]:List UInt8)) hs
  rw [h j aV,r5];rfl
 obtain ⟨fT,a2,a3⟩:=h1 l.length (Nat.le_refl _)
 unfold tj
 rw [ar,fT,a2,a3]
theorem Dy{S:ak.aX}(U:Still S)(h:∀ j,j<S.s.length→dP S j=z64):bW S=⟨[],[],[],1,0,false⟩:=by
 unfold bW
 rw [vJ U]
 refine Vh fun j aV=>?_
 rw [xF] at aV
 rw [oZ _ aV];exact h j aV
theorem Y3{S:ak.aX}(bC:ak.Ok S)(U:Still S)(h:∀ j,j<S.s.length→dP S j=z64):yl S (bW S):=by
 rw [Dy U h]
 refine ⟨bC,U,rfl,⟨by decide,by decide,by decide,by decide,by decide,rfl,by decide,?_,?_,?_⟩,by show (0:Int)≤_;omega,?_,fun Q=>by show scan ([]++Q) _=_;rfl,fun j _ aV=>h j aV⟩
 ·intro x aM;cases aM
 ·intro x aM;cases aM
 ·intro x aM;cases aM
 ·intro x aM;cases aM
theorem Y2{S:ak.aX}{J:dC}(h:yl S J):(bW S).nums=J.nums∧(bW S).tx=J.tx:=by
 have he:=h.en
 have e:(cV S).map c3=(ig S).take J.en.toNat++(ig S).drop J.en.toNat:=by rw [D8 h.still,List.take_append_drop]
 have hs:scan ((ig S).drop J.en.toNat) (J.nums,J.tx)=(J.nums,J.tx):=AR fun x aM=>by
  obtain ⟨j,aV,rfl⟩:=pY (d:=cv) aM
  rw [List.length_drop,Ag] at aV
  rw [List.getD_eq_getElem?_getD,List.getElem?_drop,← List.getD_eq_getElem?_getD]
  unfold ig
  rw [oZ _ ag,h.bl _ ag ag,r5];rfl
 unfold bW tj
 dsimp only
 rw [e,h.sc,hs]
 exact ⟨rfl,rfl⟩
theorem D7{n:Nat}:Still (ak.new n):=⟨rfl,rfl,fun x aM=>by rw [(List.mem_replicate.1 aM).2]⟩
theorem Iw{n j:Nat}(h:j<n):dP (ak.new n) j=z64:=by
 unfold dP ak.new
 rw [List.getD_eq_getElem?_getD,List.getElem?_replicate,if_pos h];rfl
end aj
end
section
namespace aj
open Go Go.aK
def qS(S:ak.aX):List (List UInt8):=(List.range S.s.length).map (dP S)
theorem DW{S:ak.aX}{j:Nat}(h:j<S.s.length):(qS S).getD j []=dP S j:=oZ _ h _
theorem agW(S:ak.aX):(qS S).length=S.s.length:=xF _ _
theorem TW{l m:List (List UInt8)}:∀ k,(∀ j,j<k→l.getD j []=m.getD j [])→gp l k=gp m k∧gH l k=gH m k∧hb l k=hb m k
 | 0,_=>⟨rfl,rfl,rfl⟩
 | k+1,h=>by
  obtain ⟨h1,ar,aQ⟩:=TW k fun j aV=>h j ag
  have aE:=h k ag
  refine ⟨by rw [gp,gp,h1,aE],by rw [gH,gH,ar,aE],by rw [hb,hb,aQ,aE]⟩
theorem TX{l:List (List UInt8)}{a:Nat}{n:Int}{t:List UInt8}(bD:1≤n∧n≤4096)(aN:t.length≤8000):∀ k,k≤(a7 t.length).toNat→(∀ i,i<k→l.getD (a+i) []=sec n t i) →
  gp l (a+k)=(if k=0 then gp l a else max (gp l a) (n+1))∧gH l (a+k)=(if k=0 then gH l a else (a:Int)+k)∧hb l (a+k)=hb l a
 | 0,_,_=>⟨rfl,rfl,rfl⟩
 | k+1,aE,h=>by
  obtain ⟨h1,ar,aQ⟩:=TX bD aN k ag fun i aH=>h i ag
  have hs:=h k ag
  have hu:=x0 bD aN (k:=k) ag
  have bj:sec n t k≠z64:=BO (by rw [hu])
  refine ⟨?_,?_,?_⟩
  ·rw [← Nat.add_assoc,gp,h1,hs,hu,if_neg (Nat.succ_ne_zero k)]
   dsimp only
   split <;> omega
  ·rw [← Nat.add_assoc,gH,hs,if_neg bj,if_neg (Nat.succ_ne_zero k)];omega
  ·rw [← Nat.add_assoc,hb,hs,hu,if_neg (fun e=>by cases e.1),aQ]
theorem TV{l:List (List UInt8)}{a:Nat}:∀ k,(∀ i,i<k→l.getD (a+i) []=z64)→gp l (a+k)=gp l a∧gH l (a+k)=gH l a∧hb l (a+k)=hb l a
 | 0,_=>⟨rfl,rfl,rfl⟩
 | k+1,h=>by
  obtain ⟨h1,ar,aQ⟩:=TV k fun i aH=>h i ag
  have hs:=h k ag
  have aY:=xm l a
  refine ⟨by rw [← Nat.add_assoc,gp,h1,hs,r5];show max _ (0+1)=_;omega,by rw [← Nat.add_assoc,gH,if_pos hs,ar],by rw [← Nat.add_assoc,hb,if_neg (fun e=>e.2 hs),aQ]⟩
structure q1 (S:ak.aX) (J:dC):Prop where
 g:yl S J
 wn:∀ x∈S.s,x.wn=false
 bad:J.bad=[]
 sum:gp (qS S) J.en.toNat=J.next∧gH (qS S) J.en.toNat=J.en∧hb (qS S) J.en.toNat=[]
 nums:J.nums=(List.range J.tx.length).map fun (i:Nat)=>(i:Int)+1
 next:J.next=J.tx.length+1
theorem Mj{S:ak.aX}{J:dC}(h:q1 S J):bW S=J:=by
 obtain ⟨h1,ar⟩:=Y2 h.g
 have he:=h.g.en
 have amk:=h.g.wf.bL
 obtain ⟨fT,a2,a3⟩:=h.sum
 obtain ⟨ck,dD,k1⟩:=TV (l:=qS S) (a:=J.en.toNat) (S.s.length-J.en.toNat) fun i aH=>by rw [DW ag];exact h.g.bl _ ag ag
 have e:J.en.toNat+(S.s.length-J.en.toNat)=S.s.length:=by omega
 rw [e] at ck dD k1
 have er:cV S=qS S:=vJ h.g.still
 have c:=h.g.gR
 have aw:=h.bad
 unfold bW tj at h1 ar ⊢
 dsimp only at h1 ar
 rw [er] at h1 ar ⊢
 rw [h1,ar,agW,ck,dD,k1,fT,a2,a3]
 cases J
 simp_all
theorem W2{n:Nat}(h1:1≤n)(ar:n≤4096):q1 (ak.new n) (bW (ak.new n)):=by
 have hl:(ak.new n).s.length=n:=ak.xk n
 have aw:∀ j,j<(ak.new n).s.length→dP (ak.new n) j=z64:=fun j aV=>Iw ag
 have aP:=Y3 (ak.IE h1 ar) D7 aw
 rw [Dy D7 aw] at aP ⊢
 exact ⟨aP,fun x aM=>by rw [(List.mem_replicate.1 aM).2],rfl,⟨rfl,rfl,rfl⟩,rfl,rfl⟩
theorem W1{S:ak.aX}{J:dC}(h:q1 S J){t:List UInt8}(aN:t.length≤8000)(bD:J.next≤4096)(aY:¬ room J S<a7 t.length) :
  ∃ F,q1 F (jC J t)∧fx S J.en (cD J.next t)=(F,0,true)∧F.s.length=S.s.length:=by
 obtain ⟨F,b,gl,hw,hlen,ix,aw⟩:=Y1 h.g aN bD aY
 have lF:=h.g.wf.mH
 have aay:=h.g.wf.bL
 have h9:=nD t.length
 have aU:=yQ aN
 have jh:=o9 J.next t
 have fD:=aY
 unfold room at fD
 have hP:∀ i,i<(a7 t.length).toNat→dP F (J.en.toNat+i)=sec J.next t i:=fun i aH=>by
  have ab0:(S.s.getD (J.en.toNat+i) ak.b3).wn=false:=h.wn _ (ak.jm ag)
  unfold dP
  rw [ix _ ag,TL ag,ab0,if_neg (by simp),xP _ _ aH]
 have aaf:=aw.2 hP
 subst aaf
 rw [if_pos rfl] at gl
 refine ⟨F,⟨gl,fun x aM=>?_,h.bad,?_,?_,?_⟩,hw,hlen⟩
 ·obtain ⟨j,aV,rfl⟩:=pY (d:=ak.b3) aM
  rw [ix j ag]
  unfold ph
  have ch:(S.s.getD j ak.b3).wn=false:=h.wn _ (ak.jm ag)
  split
  ·exact ch
  ·exact ch
 ·obtain ⟨fT,a2,a3⟩:=h.sum
  obtain ⟨hV,h5,Vx⟩:=TW (l:=qS F) (m:=qS S) J.en.toNat fun j aV=>by
   rw [DW ag,DW ag];unfold dP;rw [ix j ag,TM aV]
  obtain ⟨d1,d2,d3⟩:=TX (l:=qS F) (a:=J.en.toNat) ⟨lF,bD⟩ aN (a7 t.length).toNat (Nat.le_refl _) fun i aH=>by rw [DW ag];exact hP i aH
  have rF:(J.en+((cD J.next t).length:Int)).toNat=J.en.toNat+(a7 t.length).toNat:=by omega
  have bL:(jC J t).en=J.en+((cD J.next t).length:Int):=rfl
  have bT:(jC J t).next=J.next+1:=rfl
  rw [bL,bT,rF,d1,d2,d3,hV,Vx,fT,a3,if_neg ag,if_neg ag]
  exact ⟨by omega,by omega,rfl⟩
 ·show J.nums++[J.next]=(List.range (J.tx++[t]).length).map fun (i:Nat)=>(i:Int)+1
  rw [List.length_append,List.length_singleton,List.range_succ,List.map_append,h.nums,h.next];rfl
 ·show J.next+1=((J.tx++[t]).length:Int)+1
  rw [List.length_append,List.length_singleton,h.next];omega
end aj
end
section
namespace aj
open Go Go.aK
def aiz(x:List UInt8)(p:Nat):List UInt8:=x.take p++z64.drop p
structure akF (S M:ak.aX) (a:Nat) (l:List (List UInt8)) (p:Nat→Nat):Prop where
 ok:ak.Ok M
 still:Still M
 len:M.s.length=S.s.length
 out:∀ j,j<S.s.length→(j<a∨a+l.length≤j)→dP M j=dP S j
 ins:∀ i,i<l.length→dP M (a+i)=aiz (l.getD i []) (p i)
 aoz:∀ i,p i≤64
theorem Ir{S:ak.aX}(ps:List Int)(bC:ak.Ok S):Still (ak.e6 S ps):=⟨rfl,rfl,fun x aM=>by
 obtain ⟨j,aV,rfl⟩:=pY (d:=ak.b3) aM
 unfold ak.e6 at aV ⊢
 dsimp only at aV ⊢
 rw [ak.m8] at aV
 rw [ak.vo ps S.s 0 0 j aV]
 split
 ·rfl
 ·rename_i h;simpa using h⟩
theorem ad6{W:ak.aX}(h:∀ x∈W.s,x.dt=false)(ps:List Int):(ak.e6 W ps).s=W.s:=ak.Ip ps _ _ h
end aj
end
section
namespace aj
open Go Go.aK
def Nw(T:List (List UInt8))(s:List UInt8):Prop:=
 (c3 s).ok=true→(c3 s).n≤T.length∧(pack (c3 s).n (T.getD ((c3 s).n-1).toNat [])).2=0∧(c3 s).p<(pack (c3 s).n (T.getD ((c3 s).n-1).toNat [])).1.length∧(pack (c3 s).n (T.getD ((c3 s).n-1).toNat [])).1.getD (c3 s).p.toNat []=s
end aj
namespace aj
end aj
end
section
namespace aj
open Go Go.aK
def pk(PS:List Part)(m i:Nat):Bool:=tO (PS.drop m)&&gT (f0 (PS.drop m)) 0 ((PS.drop m).take i)
def qY(PS:List Part)(m i:Nat):List UInt8:=mh ((PS.drop m).take i)
theorem LX(PS:List Part)(m i:Nat):(PS.drop m).getD i cv=PS.getD (m+i) cv:=by
 rw [List.getD_eq_getElem?_getD,List.getElem?_drop,List.getD_eq_getElem?_getD]
theorem ajw{PS:List Part}{m:Nat}(hm:m≤PS.length):(((PS.getD m cv).ok&&decide ((PS.getD m cv).p=0))&&decide ((m:Int)+a7 (PS.getD m cv).l≤(PS.length:Int)))=pk PS m 0:=by
 unfold pk tO
 rw [List.take_zero,oO,List.length_drop,show gT (PS.getD m cv) 0 []=true from rfl,Bool.and_true]
 congr 1
 exact decide_eq_decide.2 ⟨fun h=>by omega,fun h=>by omega⟩
theorem aju{PS:List Part}{m i:Nat}(h:pk PS m i=true)(aH:(i:Int)<a7 (PS.getD m cv).l)(hm:m≤PS.length):m+i<PS.length:=by
 simp only [pk,tO,Bool.and_eq_true,decide_eq_true_eq] at h
 have:=h.1.2
 rw [oO,List.length_drop] at this
 omega
theorem ajx{PS:List Part}{m i:Nat}(h:pk PS m i=true)(aH:m+i<PS.length):mt (PS.getD m cv) i (PS.getD (m+i) cv)=pk PS m (i+1):=by
 unfold pk at h ⊢
 rw [Bool.and_eq_true] at h
 rw [nP (d:=cv) (by rw [List.length_drop];omega),Dj,h.1,h.2,oO,LX,List.length_take,List.length_drop,Nat.min_eq_left ag,Nat.zero_add];rfl
theorem aiP{PS:List Part}{m i:Nat}(aH:m+i<PS.length):qY PS m i++(PS.getD (m+i) cv).t=qY PS m (i+1):=by
 unfold qY
 rw [SR (by rw [List.length_drop];omega),LX]
theorem aiN(PS:List Part)(m:Nat):qY PS m 0=[]:=rfl
theorem aiO{PS:List Part}(h:∀ x∈PS,px x)(m i:Nat):(qY PS m i).length≤48*i:=by
 have:=JO (l:=(PS.drop m).take i) fun x aM=>h x (List.mem_of_mem_drop (List.mem_of_mem_take aM))
 rw [List.length_take] at this
 unfold qY;omega
theorem FI{PS:List Part}{m:Nat}(h:m<PS.length):PS.drop m≠[]:=fun e=>by
 have:=congrArg List.length e
 rw [List.length_drop] at this
 have:PS.length-m=0:=this
 omega
theorem ajy{PS:List Part}{m i:Nat}(hm:m<PS.length)(hl:px (PS.getD m cv))(h:pk PS m i=true)(h1:¬ (i:Int)<a7 (PS.getD m cv).l)(ar:(i:Int)≤a7 (PS.getD m cv).l):gi (PS.drop m)=some (qY PS m i,i)∧(i:Int)=a7 (PS.getD m cv).l:=by
 have he:(i:Int)=a7 (PS.getD m cv).l:=by omega
 refine ⟨?_,he⟩
 obtain ⟨_,_,aQ,_⟩:=hl
 exact agH (FI hm) (by rw [oO];exact BY aQ) h (by rw [oO];exact he)
theorem ajv{PS:List Part}{m i:Nat}(hm:m<PS.length)(h:pk PS m i=false)(ar:(i:Int)≤a7 (PS.getD m cv).l):gi (PS.drop m)=none:=
 agG (FI hm) h (by rw [oO];exact ar)
theorem Ds{l:List (List UInt8)}{k:Nat}(h:gp l k≤(c3 (l.getD k [])).n):gp l (k+1)=(c3 (l.getD k [])).n+1:=by rw [gp];omega
theorem Dr{l:List (List UInt8)}{k:Nat}(h:¬ gp l k≤(c3 (l.getD k [])).n):gp l (k+1)=gp l k:=by rw [gp];omega
theorem Qx{R:List (List UInt8)}{k m:Nat}(h:m<(eI R k).length):px ((eI R k).getD m cv):=xr _ (by
 rw [List.getD_eq_getElem?_getD,List.getElem?_eq_getElem h];exact List.getElem_mem h)
end aj
end
section
namespace aj
open Go Go.aK
def jM:List UInt8:=[1,0,0,0,0,0,1,0,97,0,0,0,0,0,0,0,0,0,0,0,0,0,0,0,0,0,0,0,0,0,0,0,0,0,0,0,0,0,0,0,0,0,0,0,0,0,0,0,0,0,0,0,0,0,0,0,84,154,118,26,131,73,143,214]
def Bl:List UInt8:=[2,0,0,0,0,0,50,0,120,120,120,120,120,120,120,120,120,120,120,120,120,120,120,120,120,120,120,120,120,120,120,120,120,120,120,120,120,120,120,120,120,120,120,120,120,120,120,120,120,120,120,120,120,120,120,120,172,130,184,27,18,198,7,61]
def jN:List UInt8:=[2,0,0,0,1,0,2,0,120,120,0,0,0,0,0,0,0,0,0,0,0,0,0,0,0,0,0,0,0,0,0,0,0,0,0,0,0,0,0,0,0,0,0,0,0,0,0,0,0,0,0,0,0,0,0,0,208,101,239,173,36,191,246,241]
def Bm:List UInt8:=[3,0,0,0,0,0,1,0,98,0,0,0,0,0,0,0,0,0,0,0,0,0,0,0,0,0,0,0,0,0,0,0,0,0,0,0,0,0,0,0,0,0,0,0,0,0,0,0,0,0,0,0,0,0,0,0,57,239,201,0,98,120,49,119]
def lR:List UInt8:=[2,0,0,0,0,0,50,0,56,120,120,120,120,120,120,120,120,120,120,120,120,120,120,120,120,120,120,120,120,120,120,120,120,120,120,120,120,120,120,120,120,120,120,120,120,120,120,120,120,120,120,120,120,120,120,120,172,130,184,27,18,198,7,61]
def yg:List UInt8:=List.replicate 50 120
theorem Sd:sec 1 [97] 0=jM:=by decide +kernel
theorem aht:sec 2 yg 0=Bl:=by decide +kernel
theorem Sf:sec 2 yg 1=jN:=by decide +kernel
theorem ahu:sec 3 [98] 0=Bm:=by decide +kernel
theorem JS:c3 lR=cv:=r4 (by decide +kernel)
end aj
end
section
namespace aj
open Go Go.aK
def mG(x:List UInt8):ak.eB:=⟨x,[],false,false⟩
def EC:ak.aX:=ak.new 4
def ED:ak.aX:=⟨[mG jM,mG z64,mG z64,mG z64],false, -1⟩
def TY:ak.aX:=⟨[mG jM,mG Bl,mG jN,mG z64],false, -1⟩
def EE:ak.aX:=⟨[mG jM,mG lR,mG jN,mG z64],false, -1⟩
def EF:ak.aX:=⟨[mG jM,mG lR,mG jN,mG Bm],false, -1⟩
def TS:dC:=⟨[],[],[],1,0,false⟩
def TT:dC:=⟨[1],[[97]],[],2,1,false⟩
def ajO:dC:=⟨[1,2],[[97],yg],[],3,3,false⟩
def TU:dC:=⟨[1],[[97]],[1],3,3,false⟩
def Ke:dC:=⟨[1,3],[[97],[98]],[1],4,4,false⟩
theorem Fb{J:dC}{S F:ak.aX}{t:List UInt8}{l:List (List UInt8)}(bq:J.gR=false)(aN:t.length≤8000)(bD:J.next≤4096)(aY:¬ room J S<a7 t.length)(hs:cD J.next t=l)(hw:fx S J.en l=(F,0,true)) :
  app J S t=(⟨J.nums++[J.next],J.tx++[t],J.bad,J.next+1,J.en+l.length,J.gR⟩,F,J.next,0):=by
 rw [ri (by rw [bq];simp) ⟨aN,bD⟩ aY (by rw [hs,hw]) (by rw [hs,hw];simp),hs,hw]
 unfold jC
 rw [hs]
theorem ew:cD 1 [97]=[jM]:=by rw [← Sd];rfl
theorem acC:cD 2 yg=[Bl,jN]:=by rw [← aht,← Sf];rfl
theorem acD:cD 3 [98]=[Bm]:=by rw [← ahu];rfl
theorem vT:fx EC 0 [jM]=(ED,0,true):=by kernel_rfl
theorem mm:fx ED 1 [Bl,jN]=(TY,0,true):=by kernel_rfl
theorem yd:fx EE 3 [Bm]=(EF,0,true):=by kernel_rfl
theorem vt:bW EC=TS:=Dy D7 fun j aV=>Iw (by rw [show EC.s.length=4 from rfl] at aV;exact aV)
theorem fT:app TS EC [97]=(TT,ED,1,0):=Fb (l:=[jM]) rfl a8 a8 a8 ew vT
theorem a2:app TT ED yg=(ajO,TY,2,0):=Fb (l:=[Bl,jN]) rfl a8 a8 a8 acC mm
theorem a3:app TU EE [98]=(Ke,EF,3,0):=Fb (l:=[Bm]) rfl a8 a8 a8 acD yd
theorem a4:app Ke EF [99]=(Ke,EF,0,22):=sq a8 a8 a8
theorem JR:c3 jM=⟨1,0,1,[97],true⟩:=by
 have:=x0 (n:=1) a8 (t:=[97]) a8 (k:=0) a8
 rw [Sd] at this
 rw [this];rfl
theorem Ei:c3 jN=⟨2,1,2,[120,120],true⟩:=by
 have:=x0 (n:=2) a8 (t:=yg) a8 (k:=1) a8
 rw [Sf] at this
 rw [this];rfl
theorem eW:cV EE=[jM,lR,jN,z64]:=by kernel_rfl
theorem kR:bW EE=TU:=by
 unfold bW
 rw [eW]
 have fp:hb [jM,lR,jN,z64] 1=[]:=rm (by show ¬ ((c3 jM).ok=false∧jM≠z64);rw [JR];simp)
 have fV:hb [jM,lR,jN,z64] 2=[1]:=by rw [uy (by show (c3 lR).ok=false∧lR≠z64;rw [JS];exact ⟨rfl,by decide⟩),fp];rfl
 have qt:hb [jM,lR,jN,z64] 3=[1]:=by rw [rm (by show ¬ ((c3 jN).ok=false∧jN≠z64);rw [Ei];simp),fV]
 have Z9:hb [jM,lR,jN,z64] 4=[1]:=by rw [rm (by show ¬ ((c3 z64).ok=false∧z64≠z64);simp),qt]
 have lF:gp [jM,lR,jN,z64] 1=2:=by show max 1 ((c3 jM).n+1)=2;rw [JR];rfl
 have pO:gp [jM,lR,jN,z64] 2=2:=by rw [vr,lF];show max 2 ((c3 lR).n+1)=2;rw [JS];rfl
 have zD:gp [jM,lR,jN,z64] 3=3:=by rw [vr,pO];show max 2 ((c3 jN).n+1)=3;rw [Ei];rfl
 have aa9:gp [jM,lR,jN,z64] 4=3:=by rw [vr,zD];show max 3 ((c3 z64).n+1)=3;rw [r5];rfl
 have aaz:gH [jM,lR,jN,z64] 4=3:=by
  rw [uF (by rfl),uE (by show jN≠z64;exact BO (by rw [Ei]))];rfl
 have bO:[jM,lR,jN,z64].map c3=[⟨1,0,1,[97],true⟩,cv,⟨2,1,2,[120,120],true⟩,cv]:=by
  rw [List.map_cons,List.map_cons,List.map_cons,List.map_cons,List.map_nil,JR,JS,Ei,r5]
 have hs:scan [⟨1,0,1,[97],true⟩,cv,⟨2,1,2,[120,120],true⟩,cv] ([],[])=([1],[[97]]):=by kernel_rfl
 unfold tj
 rw [bO,hs,show [jM,lR,jN,z64].length=4 from rfl,Z9,aa9,aaz];rfl
end aj
namespace aj
end aj
end
