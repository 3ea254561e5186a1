/- walks and plain laws -/
import Derived.Test.YtngcjojijaknnaaGreatDoorFwD
import Derived.Test.YtngcjojijaknnaaGreatDoorDkA
import Derived.Test.YtngcjojijaknnaaGreatDoorGuA
import Derived.Test.YtngcjojijaknnaaGreatDoorShW
set_option linter.all false
section
namespace aj
open Go Go.aJ
def cU(n k:Nat):List UInt8:=(List.range k).map fun i=>UInt8.ofNat (n/256^i)
def eb(s:List UInt8):Nat:=s.foldr (fun c n=>256*n+c.toNat) 0
def bh(n:Int):Int:=if n<0∨8000<n then 0 else if n=0 then 1 else (n+47)/48
def o9(rest:List UInt8):List UInt8:=rest.take 48++List.replicate (48-rest.length) 0
def aT(n k:Nat)(rest:List UInt8):List UInt8:=cU n 4++cU k 2++cU rest.length 2++o9 rest
def jr(b:List UInt8):List UInt8:=b++(aK.sum b).take 8
def sec(n:Int)(t:List UInt8)(k:Nat):List UInt8:=jr (aT n.toNat k (t.drop (48*k)))
def cH(n:Int)(t:List UInt8):List (List UInt8):=(List.range (bh t.length).toNat).map (sec n t)
def pack(n:Int)(t:List UInt8):List (List UInt8)×Int:=if n<1∨4096<n then ([],1) else if 8000<t.length then ([],4) else (cH n t,0)
structure Part where
 n:Int
 p:Int
 l:Int
 t:List UInt8
 ok:Bool
deriving DecidableEq
def cu:Part:=⟨0,0,0,[],false⟩
def num(s:List UInt8):Nat:=eb (s.take 4)
def par(s:List UInt8):Nat:=eb (List.drop 4 (s.take 6))
def jx(s:List UInt8):Nat:=eb (List.drop 6 (s.take 8))
def ey(s:List UInt8):Nat:=min (jx s) 48
def eW(s:List UInt8):Prop:=
 s.length=64∧jr (s.take 56)=s∧1≤num s∧num s≤4096∧48*par s+jx s≤8000∧¬ (jx s=0∧0<par s)∧List.drop (8+ey s) (s.take 56)=List.replicate (48-ey s) 0
instance (s:List UInt8):Decidable (eW s):=by unfold eW;infer_instance
def c8(s:List UInt8):Part:=if eW s then ⟨num s,par s,jx s,List.drop 8 (s.take (8+ey s)),true⟩ else cu
def mt(f:Part)(k:Nat)(q:Part):Bool:=q.ok&&decide (q.n=f.n)&&decide (q.p=k)&&decide (q.l=f.l-48*k)
def hA(f:Part):Nat→List Part→Bool
 | _,[]=>true
 | k,q::l=>mt f k q&&hA f (k+1) l
def mM(l:List Part):List UInt8:=l.flatMap (·.t)
def fX:List Part→Option (List UInt8×Nat)
 | []=>none
 | f::l=>if f.ok=true∧f.p=0∧1≤bh f.l∧bh f.l≤(f::l).length∧hA f 0 ((f::l).take (bh f.l).toNat)=true then some (mM ((f::l).take (bh f.l).toNat),(bh f.l).toNat) else none
abbrev Acc:=List Int×List (List UInt8)
def qm(a:Acc)(n:Int)(t:List UInt8):Acc:=if n∈a.1 then a else (a.1++[n],a.2++[t])
def sx:Nat→List Part→Acc→Acc
 | 0,_,a=>a
 | _+1,[],a=>a
 | f+1,p::l,a=>match fX (p::l) with
  | none=>sx f l a
  | some (t,n)=>sx f ((p::l).drop n) (qm a p.n t)
def scan(l:List Part)(a:Acc):Acc:=sx l.length l a
theorem Cv(f:Part)(l:List Part):fX (f::l)=if f.ok=true∧f.p=0∧1≤bh f.l∧bh f.l≤(f::l).length∧hA f 0 ((f::l).take (bh f.l).toNat)=true then some (mM ((f::l).take (bh f.l).toNat),(bh f.l).toNat) else none:=rfl
theorem Cw{l:List Part}{t:List UInt8}{n:Nat}(h:fX l=some (t,n)):1≤n∧n≤l.length:=by
 cases l with
 | nil=>cases h
 | cons f l=>
  rw [Cv] at h
  by_cases bu:f.ok=true∧f.p=0∧1≤bh f.l∧bh f.l≤(f::l).length∧hA f 0 ((f::l).take (bh f.l).toNat)=true
  ·rw [if_pos bu] at h
   injection h with h
   injection h with h aq
   obtain ⟨_,_,aQ,bH,_⟩:=bu
   omega
  ·rw [if_neg bu] at h;cases h
theorem HP:∀ (f g:Nat) (l:List Part) (a:Acc),l.length≤f→l.length≤g→sx f l a=sx g l a
 | 0,0,_,_,_,_=>rfl
 | 0,g+1,[],_,_,_=>rfl
 | 0,_+1,_::_,_,h,_=>by simp at h
 | f+1,0,[],_,_,_=>rfl
 | _+1,0,_::_,_,_,h=>by simp at h
 | f+1,g+1,[],a,_,_=>rfl
 | f+1,g+1,p::l,a,h1,aq=>by
  have xM:l.length≤f:=by simpa using h1
  have th:l.length≤g:=by simpa using aq
  unfold sx
  split
  ·exact HP f g l a xM th
  ·rename_i t n aY
   have:=Cw aY
   exact HP f g _ _ (by rw [List.length_drop,List.length_cons];omega) (by rw [List.length_drop,List.length_cons];omega)
theorem afo(a:Acc):scan [] a=a:=rfl
theorem HQ{l:List Part}{a:Acc}(h0:l≠[])(h:fX l=none):scan l a=scan (l.drop 1) a:=by
 cases l with
 | nil=>exact absurd rfl h0
 | cons p l=>unfold scan;rw [List.length_cons,sx,h];rfl
theorem zl{l:List Part}{a:Acc}{t:List UInt8}{n:Nat}(h:fX l=some (t,n)):scan l a=scan (l.drop n) (qm a (l.getD 0 cu).n t):=by
 cases l with
 | nil=>cases h
 | cons p l=>
  have:=Cw h
  unfold scan
  rw [List.length_cons,sx,h]
  exact HP _ _ _ _ (by rw [List.length_drop,List.length_cons];omega) (Nat.le_refl _)
structure dn where
 nums:List Int
 tx:List (List UInt8)
 bad:List Int
 next:Int
 en:Int
 gZ:Bool
def z64:List UInt8:=List.replicate 64 0
def c4(S:ao.aX):List (List UInt8):=(List.range S.s.length).map fun (k:Nat)=>(ao.read S (k:Int)).1
def gD(l:List (List UInt8)):Nat→Int
 | 0=>0
 | k+1=>if l.getD k []=z64 then gD l k else ((k:Int)+1)
def gC(l:List (List UInt8)):Nat→List Int
 | 0=>[]
 | k+1=>if (c8 (l.getD k [])).ok=false∧l.getD k []≠z64 then gC l k++[(k:Int)] else gC l k
def gi(l:List (List UInt8)):Nat→Int
 | 0=>1
 | k+1=>max (gi l k) ((c8 (l.getD k [])).n+1)
def ug(l:List (List UInt8)):dn:=⟨(scan (l.map c8) ([],[])).1,(scan (l.map c8) ([],[])).2,gC l l.length,gi l l.length,gD l l.length,false⟩
def eo(S:ao.aX):dn:=ug (c4 S)
def Ee(l:List Int):Nat→List Int
 | 0=>[]
 | k+1=>if (k:Int)+1∈l then Ee l k else Ee l k++[(k:Int)+1]
def aiR(J:dn):List Int:=Ee J.nums (J.next-1).toNat
def room(J:dn)(S:ao.aX):Int:=S.s.length-J.en
def c9(S:ao.aX)(at_:Int)(l:List (List UInt8)):Nat→ao.aX×Int
 | 0=>(S,0)
 | k+1=>if (c9 S at_ l k).2≠0 then c9 S at_ l k else ao.write (c9 S at_ l k).1 (at_+k) (l.getD k [])
def jy(S:ao.aX)(at_:Int)(l:List (List UInt8)):Nat→Int×Bool
 | 0=>(0,true)
 | k+1=>if (jy S at_ l k).1≠0 then jy S at_ l k else
  if (ao.read S (at_+k)).2≠0 then ((ao.read S (at_+k)).2,false) else (0,(jy S at_ l k).2&&decide (l.getD k []=(ao.read S (at_+k)).1))
def gn(S:ao.aX)(at_:Int)(l:List (List UInt8)):ao.aX×Int×Bool:=
 if (c9 S at_ l l.length).2≠0 then ((c9 S at_ l l.length).1,(c9 S at_ l l.length).2,false)
 else if (ao.flush (c9 S at_ l l.length).1).2≠0 then ((ao.flush (c9 S at_ l l.length).1).1,(ao.flush (c9 S at_ l l.length).1).2,false)
 else ((ao.flush (c9 S at_ l l.length).1).1,jy (ao.flush (c9 S at_ l l.length).1).1 at_ l l.length)
def app(J:dn)(S:ao.aX)(t:List UInt8):dn×ao.aX×Int×Int:=
 if J.gZ then (J,S,0,23)
 else if 8000<t.length∨4096<J.next then (J,S,0,4)
 else if room J S<bh t.length then (J,S,0,22)
 else if (gn S J.en (cH J.next t)).2.1≠0 then (⟨J.nums,J.tx,J.bad,J.next+1,J.en+(cH J.next t).length,true⟩,(gn S J.en (cH J.next t)).1,0,(gn S J.en (cH J.next t)).2.1)
 else if (gn S J.en (cH J.next t)).2.2=false then (⟨J.nums,J.tx,J.bad,J.next+1,J.en+(cH J.next t).length,J.gZ⟩,(gn S J.en (cH J.next t)).1,0,24)
 else (⟨J.nums++[J.next],J.tx++[t],J.bad,J.next+1,J.en+(cH J.next t).length,J.gZ⟩,(gn S J.en (cH J.next t)).1,J.next,0)
theorem kg(n k:Nat):(cU n k).length=k:=by simp [cU]
theorem Nj(n k:Nat):cU n (k+1)=cU n k++[UInt8.ofNat (n/256^k)]:=by
 unfold cU
 rw [List.range_succ,List.map_append];rfl
theorem yH:∀ (s:List UInt8),eb s<256^s.length
 | []=>by simp [eb]
 | c::s=>by
  have:=yH s
  have bu:=c.toNat_lt
  show 256*eb s+c.toNat<256^(s.length+1)
  rw [Nat.pow_succ];omega
theorem NX(c:UInt8)(s:List UInt8):eb (c::s)=256*eb s+c.toNat:=rfl
theorem nW(n:Int):0≤bh n∧bh n≤167:=by unfold bh;split <;> (try split) <;> omega
theorem AA{n:Int}(h:0≤n∧n≤8000):1≤bh n:=by unfold bh;rw [if_neg (by omega)];split <;> omega
theorem D3{n:Int}(h:0≤n∧n≤8000):48*(bh n-1)≤n∧n≤48*bh n:=by unfold bh;rw [if_neg (by omega)];split <;> omega
theorem acP(r:List UInt8):(o9 r).length=48:=by unfold o9;rw [List.length_append,List.length_take,List.length_replicate];omega
theorem tC(n k:Nat)(r:List UInt8):(aT n k r).length=56:=by unfold aT;simp [kg,acP]
theorem Tz{b:List UInt8}(h:b.length=56):(jr b).length=64:=by unfold jr;rw [List.length_append,List.length_take,h,aK.ow];rfl
theorem wq(n:Int)(t:List UInt8)(k:Nat):(sec n t k).length=64:=Tz (tC _ _ _)
theorem p6(n:Int)(t:List UInt8):(cH n t).length=(bh t.length).toNat:=by simp [cH]
end aj
end
section
namespace aj
open Go Go.aJ
theorem xy{n:Int}(h:n<0∨8000<n):bh n=0:=by unfold bh;rw [if_pos h]
theorem TN{n:Int}(h:0≤n∧n≤8000):bh n=max 1 ((n+48-1)/48):=by unfold bh;rw [if_neg (by omega)];split <;> omega
theorem TO:bh 0=1:=rfl
theorem D2{n:Int}(h:0<n∧n≤8000):bh n=(n+47)/48:=by unfold bh;rw [if_neg (by omega),if_neg (by omega)]
theorem acu(n:Nat):hb ((n:Int)%256)=UInt8.ofNat n:=by
 rw [show ((n:Int)%256)=((n%256:Nat):Int) by omega,aF.B7]
 apply UInt8.toNat_inj.1
 simp
def pC(n k:Nat):Nat:=n/256^k
theorem Kl(n:Nat):pC n 0=n:=by unfold pC;rw [Nat.pow_zero,Nat.div_one]
theorem aaZ(n k:Nat):(cU n k).map bf++[bf (hb ((pC n k:Int)%256))]=(cU n (k+1)).map bf:=by
 rw [acu,Nj,List.map_append];rfl
theorem Kn(n k:Nat):(pC n k:Int)/256=(pC n (k+1):Int):=by
 unfold pC
 rw [Nat.pow_succ,← Nat.div_div_eq_div_mul];omega
theorem Km(n k:Nat):pC n k≤n:=Nat.div_le_self _ _
def lC(xs:List UInt8)(off n k:Nat):List UInt8:=xs.take off++cU n k++xs.drop (off+k)
theorem ade{xs:List UInt8}{off n k:Nat}(h:off+k≤xs.length):(lC xs off n k).length=xs.length:=by
 unfold lC;rw [List.length_append,List.length_append,List.length_take,List.length_drop,kg];omega
theorem adb{xs:List UInt8}{off n:Nat}:lC xs off n 0=xs:=by
 unfold lC cU;simp
theorem adf{xs:List UInt8}{off n k:Nat}(h:off+k<xs.length):(lC xs off n k).set (off+k) (hb (pC n k:Int))=lC xs off n (k+1):=by
 rw [aF.B7]
 unfold lC
 have hl:(xs.take off++cU n k).length=off+k:=by rw [List.length_append,List.length_take,kg];omega
 rw [List.set_append_right _ _ (by omega),hl,Nat.sub_self,Nj,← List.append_assoc,List.append_assoc (xs.take off++cU n k)]
 congr 1
 rw [List.drop_eq_getElem_cons h,List.set_cons_zero,← Nat.add_assoc];rfl
theorem NY{s:List UInt8}{k:Nat}(h:k<s.length):eb (s.drop k)=256*eb (s.drop (k+1))+(s.getD k 0).toNat:=by
 rw [List.drop_eq_getElem_cons h,NX,List.getD_eq_getElem?_getD,List.getElem?_eq_getElem h];rfl
theorem GS(s:List UInt8):eb (s.drop s.length)=0:=by rw [List.drop_length];rfl
theorem BY{s:List UInt8}(h:s.length≤4)(k:Nat):eb (s.drop k)<4294967296:=by
 have:=yH (s.drop k)
 have aq:256^(s.drop k).length≤256^4:=Nat.pow_le_pow_right (by decide) (by rw [List.length_drop];omega)
 omega
theorem aac(p:Nat)(c:UInt8)(bN:p<4294967296):BE ((p:Int)*2^(min (Int.toNat 8) 64)) (c.toNat:Int)=((256*p+c.toNat:Nat):Int):=by
 have bu:=c.toNat_lt
 have bK:((p:Int)*2^(min (Int.toNat 8) 64))=((256*p:Nat):Int):=by
  rw [show (2:Int)^(min (Int.toNat 8) 64)=256 from rfl];omega
 have bV:256*p ||| c.toNat=256*p+c.toNat:=(Nat.two_pow_add_eq_or_of_lt (i:=8) bu p).symm
 rw [bK]
 unfold BE
 rw [BitVec.ofInt_natCast,BitVec.ofInt_natCast,BitVec.toNat_or,BitVec.toNat_ofNat,BitVec.toNat_ofNat,Nat.mod_eq_of_lt (by omega),Nat.mod_eq_of_lt (by omega),bV]
 unfold IntKind.wrap
 have fx:(2:Int)^IntKind.i64.bits=18446744073709551616:=rfl
 have iy:(2:Int)^(IntKind.i64.bits-1)=9223372036854775808:=rfl
 have pE:IntKind.i64.signed=true:=rfl
 simp only [fx,iy,pE,Bool.true_and,decide_eq_true_eq]
 split <;> omega
theorem ab4{s:List UInt8}{k:Nat}(h:k<s.length):eb (s.drop (s.length-(k+1)))=256*eb (s.drop (s.length-k))+(s.getD ((s.length:Int)-1-k).toNat 0).toNat:=by
 rw [NY (k:=s.length-(k+1)) (by omega),show s.length-(k+1)+1=s.length-k by omega,show ((s.length:Int)-1-k).toNat=s.length-(k+1) by omega]
theorem ahF{s:List UInt8}{k:Nat}(h:∀ j,j<k→s.getD j 0=0)(h1:s.getD k 0=0):∀ j,j<k+1→s.getD j 0=0:=fun j a6=>by
 rcases Nat.lt_or_ge j k with aq | aq
 ·exact h j aq
 ·rw [show j=k by omega];exact h1
theorem ahD{s:List UInt8}(h:∀ j,j<s.length→s.getD j 0=0)(aq:s.length=64):s=z64:=by
 refine List.eq_replicate_iff.2 ⟨aq,fun x aL=>?_⟩
 obtain ⟨j,a6,rfl⟩:=List.getElem_of_mem aL
 have:=h j a6
 rwa [List.getD_eq_getElem?_getD,List.getElem?_eq_getElem a6] at this
theorem ahE{s:List UInt8}{k:Nat}(h:s.getD k 0≠0):s≠z64:=fun e=>h (by
 subst e
 rw [z64,List.getD_eq_getElem?_getD,List.getElem?_replicate]
 split <;> rfl)
def JQ(s:List UInt8)(k:Nat):List Value:=[az ((s.length:Int)-1-k),bf (s.getD ((s.length:Int)-1-k).toNat 0)]
end aj
end
section
namespace aj
open Go Go.aJ
def Oh(p:Part):Value:=.agg [az p.n,az p.p,az p.l,vs p.t,.bool p.ok].toArray
theorem q4{s:List UInt8}(h:¬ eW s):c8 s=cu:=by unfold c8;rw [if_neg h]
theorem Q2{s:List UInt8}(h:¬ s.length=64):c8 s=cu:=q4 fun aO=>h aO.1
theorem zB{s:List UInt8}(h:eW s):c8 s=⟨num s,par s,jx s,List.drop 8 (s.take (8+ey s)),true⟩:=by unfold c8;rw [if_pos h]
theorem Ty{s:List UInt8}(h:s.length=64):jr (s.take 56)=s↔(aK.sum (s.take 56)).take 8=s.drop 56:=by
 unfold jr
 conv=>lhs;rhs;rw [← List.take_append_drop 56 s]
 exact ⟨fun e=>List.append_cancel_left e,fun e=>by rw [e]⟩
theorem Hz(s:List UInt8):num s<4294967296∧par s<65536∧jx s<65536:=by
 have h1:=yH (s.take 4)
 have aq:=yH (List.drop 4 (s.take 6))
 have aQ:=yH (List.drop 6 (s.take 8))
 have iI:256^(s.take 4).length≤256^4:=Nat.pow_le_pow_right (by decide) (by rw [List.length_take];omega)
 have l2:256^(List.drop 4 (s.take 6)).length≤256^2:=Nat.pow_le_pow_right (by decide) (by rw [List.length_drop,List.length_take];omega)
 have alK:256^(List.drop 6 (s.take 8)).length≤256^2:=Nat.pow_le_pow_right (by decide) (by rw [List.length_drop,List.length_take];omega)
 unfold num par jx
 omega
theorem yx(s:List UInt8):ey s≤48:=by unfold ey;omega
theorem Qb{s:List UInt8}(h:s.length=64):(List.drop 0 (List.take (0+Int.toNat 8) (aK.sum (List.drop 0 (List.take (0+Int.toNat 56) s))))=List.drop (0+Int.toNat 56*1) (List.take (0+Int.toNat 56*1+(64-Int.toNat 56)) s))↔jr (s.take 56)=s:=by
 rw [Ty h]
 have bK:List.drop 0 (List.take (0+Int.toNat 8) (aK.sum (List.drop 0 (List.take (0+Int.toNat 56) s))))=(aK.sum (s.take 56)).take 8:=rfl
 have bV:List.drop (0+Int.toNat 56*1) (List.take (0+Int.toNat 56*1+(64-Int.toNat 56)) s)=s.drop 56:=by
  rw [show 0+Int.toNat 56*1+(64-Int.toNat 56)=64 from rfl,List.take_of_length_le (by omega)];rfl
 rw [bK,bV]
theorem Qd(s:List UInt8):(List.drop (0+(8+(ey s:Int)).toNat*1) (List.take (0+(8+(ey s:Int)).toNat*1+(Int.toNat 56-(8+(ey s:Int)).toNat)) s)=List.replicate (48-ey s) 0)↔List.drop (8+ey s) (s.take 56)=List.replicate (48-ey s) 0:=by
 have:=yx s
 rw [show 0+(8+(ey s:Int)).toNat*1=8+ey s by omega,show 8+ey s+(Int.toNat 56-(8+(ey s:Int)).toNat)=56 by rw [show Int.toNat 56=56 from rfl];omega]
theorem W2{s:List UInt8}(e4:s.length=64)(h:((((List.drop 0 (List.take (0+Int.toNat 8) (aK.sum (List.drop 0 (List.take (0+Int.toNat 56) s))))=List.drop (0+Int.toNat 56*1) (List.take (0+Int.toNat 56*1+(64-Int.toNat 56)) s)∧¬ (num s:Int)=0)∧¬ 4096<(num s:Int))∧¬ 8000<48*(par s:Int)+(jx s:Int))∧(¬ (jx s:Int)=0∨¬ 0<(par s:Int)))∧List.drop (0+(8+(ey s:Int)).toNat*1) (List.take (0+(8+(ey s:Int)).toNat*1+(Int.toNat 56-(8+(ey s:Int)).toNat)) s)=List.replicate (48-ey s) 0):eW s:=by
 obtain ⟨⟨⟨⟨⟨h1,aq⟩,aQ⟩,bH⟩,cN⟩,dq⟩:=h
 exact ⟨e4,(Qb e4).1 h1,by omega,by omega,by omega,by omega,(Qd s).1 dq⟩
theorem SY{s:List UInt8}(e4:s.length=64)(h:((((¬ List.drop 0 (List.take (0+Int.toNat 8) (aK.sum (List.drop 0 (List.take (0+Int.toNat 56) s))))=List.drop (0+Int.toNat 56*1) (List.take (0+Int.toNat 56*1+(64-Int.toNat 56)) s)∨(num s:Int)=0)∨4096<(num s:Int))∨8000<48*(par s:Int)+(jx s:Int))∨(jx s:Int)=0∧0<(par s:Int))∨¬ List.drop (0+(8+(ey s:Int)).toNat*1) (List.take (0+(8+(ey s:Int)).toNat*1+(Int.toNat 56-(8+(ey s:Int)).toNat)) s)=List.replicate (48-ey s) 0):¬ eW s:=by
 rintro ⟨_,g1,g2,g3,g4,g5,g6⟩
 rcases h with ((((h | h) | h) | h) | h) | h
 ·exact h ((Qb e4).2 g1)
 ·omega
 ·omega
 ·omega
 ·omega
 ·exact h ((Qd s).2 g6)
end aj
end
section
namespace aj
open Go Go.aJ
theorem ahH{s:List UInt8}(e4:s.length=64)(h:∀ j,8+ey s≤j→j<56→s.getD j 0=0):List.drop (8+ey s) (s.take 56)=List.replicate (48-ey s) 0:=by
 have:=yx s
 refine List.eq_replicate_iff.2 ⟨by rw [List.length_drop,List.length_take];omega,fun x aL=>?_⟩
 obtain ⟨j,a6,rfl⟩:=List.getElem_of_mem aL
 rw [List.length_drop,List.length_take] at a6
 have:=h (8+ey s+j) (by omega) (by omega)
 rw [List.getD_eq_getElem?_getD,List.getElem?_eq_getElem (by omega)] at this
 rw [List.getElem_drop,List.getElem_take]
 exact this
theorem ahI{s:List UInt8}(e4:s.length=64){k:Nat}(h1:8+ey s≤k)(aq:k<56)(h:s.getD k 0≠0):¬ eW s:=by
 rintro ⟨_,_,_,_,_,_,g6⟩
 apply h
 have aL:(List.drop (8+ey s) (s.take 56))[k-(8+ey s)]?=(List.replicate (48-ey s) (0:UInt8))[k-(8+ey s)]?:=by rw [g6]
 rw [List.getElem?_drop,List.getElem?_take,if_pos (by omega),List.getElem?_replicate,if_pos (by omega),show 8+ey s+(k-(8+ey s))=k by omega] at aL
 rw [List.getD_eq_getElem?_getD,aL];rfl
theorem ahG{s:List UInt8}{b k:Nat}(h:∀ j,b≤j→j<k→s.getD j 0=0)(h1:s.getD k 0=0):∀ j,b≤j→j<k+1→s.getD j 0=0:=fun j h0 a6=>by
 rcases Nat.lt_or_ge j k with aq | aq
 ·exact h j h0 aq
 ·rw [show j=k by omega];exact h1
theorem aeF{s:List UInt8}(e4:s.length=64)(h:(((jr (s.take 56)=s∧¬ (num s:Int)<1)∧¬ 4096<(num s:Int))∧¬ 8000<48*(par s:Int)+(jx s:Int))∧(¬ (jx s:Int)<1∨¬ 0<(par s:Int)))(bj:∀ j,8+ey s≤j→j<56→s.getD j 0=0):eW s:=by
 obtain ⟨⟨⟨⟨h1,aq⟩,aQ⟩,bH⟩,cN⟩:=h
 exact ⟨e4,h1,by omega,by omega,by omega,by omega,ahH e4 bj⟩
theorem aej{s:List UInt8}(h:(((¬ jr (s.take 56)=s∨(num s:Int)<1)∨4096<(num s:Int))∨8000<48*(par s:Int)+(jx s:Int))∨(jx s:Int)<1∧0<(par s:Int)):¬ eW s:=by
 rintro ⟨_,g1,g2,g3,g4,g5,g6⟩
 rcases h with (((h | h) | h) | h) | h
 ·exact h g1
 all_goals omega
end aj
end
section
namespace aj
open Go Go.aJ
theorem G8{A B C:List UInt8}{n k:Nat}(au:B.length=k):lC (A++(B++C)) A.length n k=A++(cU n k++C):=by
 unfold lC
 subst au
 rw [List.take_left,List.append_assoc,← List.append_assoc A B C,show A.length+B.length=(A++B).length by simp,List.drop_left]
def z(n:Nat):List UInt8:=List.replicate n 0
theorem abH(n:Nat):lC (z 64) 0 n 4=cU n 4++z 60:=by
 have:=G8 (A:=[]) (B:=z 4) (C:=z 60) (n:=n) (k:=4) rfl
 exact this
theorem abI(n k:Nat):lC (cU n 4++z 60) 4 k 2=cU n 4++(cU k 2++z 58):=by
 have:=G8 (A:=cU n 4) (B:=z 2) (C:=z 58) (n:=k) (k:=2) rfl
 rw [kg] at this
 exact this
theorem abJ(n k m:Nat):lC (cU n 4++(cU k 2++z 58)) 6 m 2=cU n 4++(cU k 2++(cU m 2++z 56)):=by
 have:=G8 (A:=cU n 4++cU k 2) (B:=z 2) (C:=z 56) (n:=m) (k:=2) rfl
 rw [List.length_append,kg,kg,List.append_assoc] at this
 rw [List.append_assoc] at this
 exact this
theorem abK(n k:Nat)(r:List UInt8):(cU n 4++(cU k 2++(cU r.length 2++z 56))).take 8++r.take (min r.length 48)++(cU n 4++(cU k 2++(cU r.length 2++z 56))).drop (8+min r.length 48)=aT n k r++z 8:=by
 have e:cU n 4++(cU k 2++(cU r.length 2++z 56))=(cU n 4++cU k 2++cU r.length 2)++z 56:=by simp only [List.append_assoc]
 have hl:(cU n 4++cU k 2++cU r.length 2).length=8:=by simp [kg]
 have eh:aT n k r=(cU n 4++cU k 2++cU r.length 2)++o9 r:=rfl
 rw [eh]
 rw [e]
 generalize cU n 4++cU k 2++cU r.length 2=A at hl
 have bV:(A++z 56).drop (8+min r.length 48)=(z 56).drop (min r.length 48):=by
  rw [← List.drop_drop,← hl,List.drop_left]
 have fx:(z 56).drop (min r.length 48)=z (48-r.length)++z 8:=by
  unfold z
  rw [List.drop_replicate,List.replicate_append_replicate]
  congr 1;omega
 have iy:(A++z 56).take 8=A:=by rw [← hl,List.take_left]
 have pE:r.take (min r.length 48)=r.take 48:=by
  rcases Nat.le_total r.length 48 with h | h
  ·rw [Nat.min_eq_left h,List.take_of_length_le (Nat.le_refl _),List.take_of_length_le h]
  ·rw [Nat.min_eq_right h]
 rw [bV,fx,iy,pE]
 unfold o9 z
 simp only [List.append_assoc]
theorem NG(n k:Nat)(r:List UInt8):(aT n k r++z 8).take 56=aT n k r:=by
 rw [List.take_append_of_le_length (by rw [tC];omega),List.take_of_length_le (by rw [tC];omega)]
theorem abL(n k:Nat)(r:List UInt8):(aT n k r++z 8).take 56++(aK.sum (aT n k r)).take 8++(aT n k r++z 8).drop 64=jr (aT n k r):=by
 rw [NG,List.drop_of_length_le (by rw [List.length_append,tC];exact Nat.le_refl _),List.append_nil];rfl
def OC(n:Nat)(t:List UInt8)(k:Nat):List Value:=[.agg ((sec (n:Int) t k).map bf).toArray]
end aj
namespace aj
open Go Go.aJ
def pk(n:Int)(t:List UInt8)(k:Nat):List (List UInt8):=(List.range k).map (sec n t)
theorem Qm(n:Int)(t:List UInt8)(k:Nat):(pk n t k).length=k:=by simp [pk]
theorem Qn(n:Int)(t:List UInt8)(k:Nat):(pk n t k).map vs++[vs (sec n t k)]=(pk n t (k+1)).map vs:=by
 unfold pk;rw [List.range_succ,List.map_append,List.map_append];rfl
theorem Ql(n:Int)(t:List UInt8):pk n t (bh t.length).toNat=cH n t:=rfl
theorem Ol{n:Int}{t:List UInt8}(h:n<1∨4096<n):pack n t=([],1):=by unfold pack;rw [if_pos h]
theorem Om{n:Int}{t:List UInt8}(h:1≤n∧n≤4096)(aq:8000<t.length):pack n t=([],4):=by unfold pack;rw [if_neg (by omega),if_pos aq]
theorem Cb{n:Int}{t:List UInt8}(h:1≤n∧n≤4096)(aq:t.length≤8000):pack n t=(cH n t,0):=by unfold pack;rw [if_neg (by omega),if_neg (by omega)]
def DE(T:TypeId)(d:List (List UInt8)×Int):Value→List aP→List av→Prop:=fun r zs hs=>∃ v,r=.tuple [v,az d.2].toArray∧zs=[]∧hs=[.row v T 1 d.1.length (d.1.map vs)]
theorem vU{T:TypeId}{q:List (List UInt8)}{e:Int}{d:List (List UInt8)×Int}{r:Value}{zs:List aP}{hs:List av}(h:∃ v,r=.tuple [v,az e].toArray∧zs=[]∧hs=[.row v T 1 q.length (q.map vs)])(h1:d=(q,e)):DE T d r zs hs:=by subst h1;exact h
end aj
end
section
namespace aj
open Go Go.aJ
def rN(n k:Nat)(r:List UInt8)(i:Nat):List UInt8:=cU n 4++cU k 2++cU r.length 2++(List.range i).map fun j=>r.getD j 0
theorem X9(n k:Nat)(r:List UInt8):(cU n 4).map bf++(cU k 2).map bf++(cU r.length 2).map bf=(rN n k r 0).map bf:=by
 unfold rN;simp
theorem Yb(n k:Nat)(r:List UInt8)(i:Nat):(rN n k r i).map bf++[bf (r.getD i 0)]=(rN n k r (i+1)).map bf:=by
 unfold rN;rw [List.range_succ];simp
theorem Ya(n k:Nat)(r:List UInt8):rN n k r 48=aT n k r:=by
 unfold rN aT o9
 congr 1
 apply List.ext_getElem?
 intro j
 rw [List.getElem?_map,List.getElem?_append,List.length_take,List.getElem?_take,List.getElem?_replicate]
 by_cases h:j<48
 ·rw [List.getElem?_range h]
  by_cases aq:j<r.length
  ·rw [if_pos (by omega),if_pos h,Option.map_some,List.getD_eq_getElem?_getD,List.getElem?_eq_getElem aq];rfl
  ·rw [if_neg (by omega),if_pos (by omega),Option.map_some,List.getD_eq_getElem?_getD,List.getElem?_eq_none (by omega)];rfl
 ·rw [List.getElem?_eq_none (by simp;omega),if_neg (by omega),if_neg (by omega)];rfl
theorem afz(n k:Nat)(t:List UInt8):jr (aT n k (t.drop (48*k)))=sec (n:Int) t k:=by unfold sec;rw [Int.toNat_natCast]
end aj
end
section
namespace aj
open Go Go.aJ
def oJ(x:Part):Prop:=(0≤x.n∧x.n≤4096)∧(0≤x.p∧x.p≤65535)∧(0≤x.l∧x.l≤8000)∧x.t.length≤48
def qV(x:Part):List Value:=[az x.n,az x.p,az x.l,vs x.t,.bool x.ok]
theorem G5(x:Part):(qV x).length=5:=rfl
theorem G6(x:Part):∀ u∈qV x,u.oneCell'=true:=fun u hu=>by
 simp only [qV,List.mem_cons,List.not_mem_nil,or_false] at hu
 rcases hu with rfl | rfl | rfl | rfl | rfl <;> rfl
abbrev Kx:=mg qV 5 oJ G5 G6
theorem wE(s:List UInt8):oJ (c8 s):=by
 obtain ⟨h1,aq,aQ⟩:=Hz s
 by_cases h:eW s
 ·rw [zB h]
  obtain ⟨g0,_,g1,g2,g3,g4,_⟩:=h
  refine ⟨⟨by dsimp only;omega,by dsimp only;omega⟩,⟨by dsimp only;omega,by dsimp only;omega⟩,⟨by dsimp only;omega,by dsimp only;omega⟩,?_⟩
  dsimp only
  have:=yx s
  rw [List.length_drop,List.length_take];omega
 ·rw [q4 h]
  exact ⟨by decide,by decide,by decide,by decide⟩
def l1(l:List Part):List UInt8×Int×Bool:=match fX l with
 | none=>([],0,false)
 | some (t,n)=>(t,n,true)
def f0(l:List Part):Part:=l.getD 0 cu
theorem PE{l:List Part}(h:fX l=none):l1 l=([],0,false):=by unfold l1;rw [h]
theorem uv{l:List Part}(h0:l≠[]):fX l=if (f0 l).ok=true∧(f0 l).p=0∧1≤bh (f0 l).l∧bh (f0 l).l≤l.length∧hA (f0 l) 0 (l.take (bh (f0 l).l).toNat)=true then some (mM (l.take (bh (f0 l).l).toNat),(bh (f0 l).l).toNat) else none:=by
 cases l with
 | nil=>exact absurd rfl h0
 | cons f l=>exact Cv f l
theorem rec_1{l:List Part}(h0:l≠[])(h:((f0 l).ok=false∨¬ (f0 l).p=0)∨(l.length:Int)<bh (f0 l).l):l1 l=([],0,false):=by
 apply PE
 rw [uv h0,if_neg]
 rintro ⟨h1,aq,_,bH,_⟩
 rcases h with (h | h) | h
 ·rw [h1] at h;cases h
 ·exact h aq
 ·omega
theorem rec_2{l:List Part}(h0:l≠[])(h:hA (f0 l) 0 (l.take (bh (f0 l).l).toNat)=false):l1 l=([],0,false):=by
 apply PE
 rw [uv h0,if_neg]
 rintro ⟨_,_,_,_,bH⟩
 rw [bH] at h;cases h
theorem rec_3{l:List Part}(h0:l≠[])(h:((f0 l).ok=true∧(f0 l).p=0)∧¬ (l.length:Int)<bh (f0 l).l)(h1:1≤bh (f0 l).l)(aq:hA (f0 l) 0 (l.take (bh (f0 l).l).toNat)=true):l1 l=(mM (l.take (bh (f0 l).l).toNat),(((bh (f0 l).l).toNat:Nat):Int),true):=by
 unfold l1
 rw [uv h0,if_pos ⟨h.1.1,h.1.2,h1,by omega,aq⟩]
theorem BW(f:Part):∀ (l:List Part) (k:Nat) (q:Part),hA f k (l++[q])=(hA f k l&&mt f (k+l.length) q)
 | [],k,q=>by show (mt f k q&&true)=(true&&_);simp
 | x::l,k,q=>by
  show (mt f k x&&hA f (k+1) (l++[q]))=((mt f k x&&hA f (k+1) l)&&_)
  rw [BW f l,List.length_cons,Bool.and_assoc,show k+1+l.length=k+(l.length+1) by omega]
theorem GQ(f:Part):∀ (l m:List Part) (k:Nat),hA f k (l++m)=(hA f k l&&hA f (k+l.length) m)
 | [],m,k=>by show hA f k m=(true&&_);rw [Bool.true_and];rfl
 | x::l,m,k=>by
  show (mt f k x&&hA f (k+1) (l++m))=((mt f k x&&hA f (k+1) l)&&_)
  rw [GQ f l,List.length_cons,Bool.and_assoc,show k+1+l.length=k+(l.length+1) by omega]
theorem nb{α:Type}{d:α}{l:List α}{k:Nat}(h:k<l.length):l.take (k+1)=l.take k++[l.getD k d]:=by
 rw [List.take_add_one,List.getElem?_eq_getElem h,List.getD_eq_getElem?_getD,List.getElem?_eq_getElem h];rfl
theorem ab2{f:Part}{l:List Part}{k:Nat}(h:k<l.length)(h1:hA f 0 (l.take k)=true)(aq:((((l.getD k cu).ok=true∧(l.getD k cu).n=f.n)∧(l.getD k cu).p=k)∧(l.getD k cu).l=f.l-48*k)):hA f 0 (l.take (k+1))=true:=by
 obtain ⟨⟨⟨fl,a2⟩,a3⟩,a4⟩:=aq
 rw [nb (d:=cu) h,BW,h1,List.length_take,Nat.min_eq_left (by omega),Nat.zero_add]
 unfold mt
 rw [fl,a2,a3,a4];simp
theorem NW{f:Part}{l:List Part}{k:Nat}(h:k<l.length)(aq:(((l.getD k cu).ok=false∨¬ (l.getD k cu).n=f.n)∨¬ (l.getD k cu).p=k)∨¬ (l.getD k cu).l=f.l-48*k):hA f 0 l=false:=by
 have e:l=l.take (k+1)++l.drop (k+1):=(List.take_append_drop _ _).symm
 rw [e,GQ,nb (d:=cu) h,BW,List.length_take,Nat.min_eq_left (by omega),Nat.zero_add]
 have:mt f k (l.getD k cu)=false:=by
  unfold mt
  rcases aq with ((h | h) | h) | h
  ·rw [h];rfl
  ·rw [decide_eq_false h];simp
  ·rw [decide_eq_false h];simp
  ·rw [decide_eq_false h];simp
 rw [this];simp
theorem QO{l:List Part}{k:Nat}(h:k<l.length):mM (l.take (k+1))=mM (l.take k)++(l.getD k cu).t:=by
 rw [nb (d:=cu) h];unfold mM;simp
theorem Ic{l:List Part}(h:∀ x∈l,oJ x):(mM l).length≤48*l.length:=by
 induction l with
 | nil=>simp [mM]
 | cons a t ih=>
  have:=ih fun x aL=>h x (List.mem_cons_of_mem _ aL)
  have aq:=(h a List.mem_cons_self).2.2.2
  unfold mM at this ⊢
  rw [List.flatMap_cons,List.length_append,List.length_cons];omega
end aj
namespace Go.aJ
section
variable {P:Program}{n:Nat}{w0:World}{zs:List aP}{hs:List av}{L:List (Nat×Value)}{d:Option Tmp}{ty t:TypeId}{pos:String}{af:Array Edge}{g:Option (Nat×Bool)}{x:Operand}{v:Value}
theorem Ci[aW]{bM:TypeDesc}{bp:Nat}{zv:Value}(aM:a1 P t bM 5 bp zv){z:aP}{xs:List aj.Part}{k:Nat}(U:bg aj.Kx z v xs)(bj:gp w0 zs z)(aq:aU L x=some (c6 v (k*5)))(aT:eV bM=true)(aD:k<xs.length) :
  bL P n w0 zs hs L ⟨d,.load t x,ty,pos,af,g⟩ (.agg [az (xs.getD k aj.cu).n,az (xs.getD k aj.cu).p,az (xs.getD k aj.cu).l,vs (xs.getD k aj.cu).t,.bool (xs.getD k aj.cu).ok].toArray):=
 He aj.cu aM U bj aq aT (by decide) aD
end
end Go.aJ
namespace aj
theorem abz{xs:List Part}{m k:Nat}(h:k<(List.drop 0 (List.take m xs)).length):(List.drop 0 (List.take m xs)).getD k cu∈xs:=by
 rw [List.getD_eq_getElem?_getD,List.getElem?_eq_getElem h]
 exact List.mem_of_mem_take (List.mem_of_mem_drop (List.getElem_mem h))
theorem abA{xs:List Part}{m k:Nat}:∀ x∈(List.drop 0 (List.take m xs)).take k,x∈xs:=fun _ h=>List.mem_of_mem_take (List.mem_of_mem_drop (List.mem_of_mem_take h))
end aj
end
section
namespace aj
open Go Go.aJ
structure kP (J:dn):Prop where
 lY:1≤J.next
 oe:J.next≤4097
 bK:0≤J.en
 bV:J.en≤4096
 nl:(J.nums.length:Int)≤J.en
 tl:J.tx.length=J.nums.length
 bl:(J.bad.length:Int)≤4096
 nr:∀ x∈J.nums,1≤x∧x≤4096
 br:∀ x∈J.bad,0≤x∧x≤4096
 tr:∀ x∈J.tx,x.length≤8064
theorem kP.pW{J:dn}(h:kP J):∀ x∈J.nums, -9223372036854775808≤x∧x≤9223372036854775807:=fun x aL=>by have:=h.nr x aL;omega
theorem kP.pA{J:dn}(h:kP J):∀ x∈J.bad, -9223372036854775808≤x∧x≤9223372036854775807:=fun x aL=>by have:=h.br x aL;omega
theorem kP.ox{J:dn}(h:kP J):∀ x∈J.tx,x.length≤140737488355328:=fun x aL=>by have:=h.tr x aL;omega
def Dq(xg sU xh:TypeId)(b pd:Nat)(J:dn)(b8 cL eL eS:av):Prop:=
 ∃ vn vbd iD,kP J∧b8=.blk b xg [.pointer (some ⟨pd,0,none⟩),vn,vbd,iD,az J.next,az J.en,.bool J.gZ]∧cL=.row vn sU 1 J.nums.length (J.nums.map az)∧eL=.row vbd sU 1 J.bad.length (J.bad.map az)∧eS=.row iD xh 1 J.tx.length (J.tx.map vs)
def xe(xg sU xh:TypeId)(b pd:Nat)(J:dn)(b8 cL eL eS:av):Prop:=
 ∃ vn vbd iD,kP J∧b8=.blk b xg [.pointer (some ⟨pd,0,none⟩),vn,iD,vbd,az J.next,az J.en,.bool J.gZ]∧cL=.row vn sU 1 J.nums.length (J.nums.map az)∧eL=.row vbd sU 1 J.bad.length (J.bad.map az)∧eS=.row iD xh 1 J.tx.length (J.tx.map vs)
def ah0(K:dn→av→av→av→av→Prop)(J:dn)(v:Value):Value→List aP→List av→Prop:=fun r zs hs=>r=v∧zs=[]∧∃ cj ck cr ct,hs=[cj,ck,cr,ct]∧K J cj ck cr ct
def Dr(K:dn→av→av→av→av→Prop)(T:TypeId)(J:dn)(n:Nat)(cs:List Value):Value→List aP→List av→Prop:=fun r zs hs=>zs=[]∧∃ cj ck cr ct,hs=[.row r T 1 n cs,cj,ck,cr,ct]∧K J cj ck cr ct
theorem aap{K:dn→av→av→av→av→Prop}{T:TypeId}{J:dn}{n uc:Nat}{cs cs':List Value}{r:Value}{zs:List aP}{hs:List av}(h:Dr K T J n cs r zs hs)(bK:n=uc)(bV:cs=cs'):Dr K T J uc cs' r zs hs:=bK ▸ bV ▸ h
def w2(K:dn→av→av→av→av→Prop)(D:ao.aX→av→av→av→av→Prop)(J:dn)(S:ao.aX)(v:Value):Value→List aP→List av→Prop:=fun r zs hs=>r=v∧zs=[]∧∃ cj ck cr ct d1 d2 d3 d4,hs=[cj,ck,cr,ct,d1,d2,d3,d4]∧K J cj ck cr ct∧D S d1 d2 d3 d4
theorem o5{K:dn→av→av→av→av→Prop}{D:ao.aX→av→av→av→av→Prop}{J q7:dn}{S oL:ao.aX}{v dd r:Value}{zs:List aP}{hs:List av}(h:w2 K D J S v r zs hs)(bK:J=q7)(bV:S=oL)(fx:v=dd):w2 K D q7 oL dd r zs hs:=bK ▸ bV ▸ fx ▸ h
end aj
end
section
namespace aj
open Go Go.aJ
def sM(l:List Int)(i:Nat)(m:List (Int×Value)):Prop:=∀ x,fN m x=if x∈l.take i then some (.bool true) else none
theorem sM.start(l:List Int):sM l 0 []:=fun x=>by rw [List.take_zero,if_neg (by simp)];rfl
theorem sM.step{l:List Int}{i:Nat}{m:List (Int×Value)}(h:sM l i m)(aG:i<l.length):sM l (i+1) (h4 (l.getD i 0) (.bool true) m):=fun x=>by
 rw [sZ,h x,nb (d:=(0:Int)) aG]
 by_cases aL:x=l.getD i 0
 ·rw [if_pos aL,if_pos (by rw [aL];simp)]
 ·rw [if_neg aL]
  by_cases aq:x∈l.take i
  ·rw [if_pos aq,if_pos (List.mem_append_left _ aq)]
  ·rw [if_neg aq,if_neg (fun e=>by
    rcases List.mem_append.1 e with e | e
    ·exact aq e
    ·exact aL (by simpa using e))]
theorem sM.get{l:List Int}{m:List (Int×Value)}(h:sM l l.length m)(x:Int):(fN m x).getD (.bool false)=.bool (decide (x∈l)):=by
 rw [h x,List.take_length]
 by_cases aL:x∈l
 ·rw [if_pos aL,decide_eq_true aL];rfl
 ·rw [if_neg aL,decide_eq_false aL];rfl
end aj
end
section
namespace aj
open Go Go.aJ
theorem sF{S:ao.aX}{a:Int}{l:List (List UInt8)}{k:Nat}(h:(c9 S a l k).2=0):c9 S a l (k+1)=ao.write (c9 S a l k).1 (a+k) (l.getD k []):=by rw [c9,if_neg (by omega)]
theorem ID{S:ao.aX}{a:Int}{l:List (List UInt8)}{k:Nat}(h:(c9 S a l k).2≠0):∀ m,k≤m→c9 S a l m=c9 S a l k
 | 0,hm=>by rw [show k=0 by omega]
 | m+1,hm=>by
  rcases Nat.lt_or_ge m k with aq | aq
  ·rw [show m+1=k by omega]
  ·have:=ID h m aq
   rw [c9,if_pos (by rw [this];exact h),this]
theorem y8{S:ao.aX}{a:Int}{l:List (List UInt8)}{k:Nat}(h:(jy S a l k).1=0)(aq:(ao.read S (a+k)).2=0):jy S a l (k+1)=(0,(jy S a l k).2&&decide (l.getD k []=(ao.read S (a+k)).1)):=by rw [jy,if_neg (by omega),if_neg (by omega)]
theorem aem{S:ao.aX}{a:Int}{l:List (List UInt8)}{k:Nat}(h:(jy S a l k).1=0)(aq:(ao.read S (a+k)).2≠0):jy S a l (k+1)=((ao.read S (a+k)).2,false):=by rw [jy,if_neg (by omega),if_pos aq]
theorem PB{S:ao.aX}{a:Int}{l:List (List UInt8)}{k:Nat}(h:(jy S a l k).1≠0):∀ m,k≤m→jy S a l m=jy S a l k
 | 0,hm=>by rw [show k=0 by omega]
 | m+1,hm=>by
  rcases Nat.lt_or_ge m k with aq | aq
  ·rw [show m+1=k by omega]
  ·have:=PB h m aq
   rw [jy,if_pos (by rw [this];exact h),this]
theorem sB{S:ao.aX}{a:Int}{l:List (List UInt8)}{k:Nat}(aD:k<l.length)(h:(c9 S a l k).2=0)(aq:(ao.write (c9 S a l k).1 (a+k) (l.getD k [])).2≠0) :
  gn S a l=((ao.write (c9 S a l k).1 (a+k) (l.getD k [])).1,(ao.write (c9 S a l k).1 (a+k) (l.getD k [])).2,false):=by
 have e:=sF h
 have bV:=ID (S:=S) (a:=a) (l:=l) (k:=k+1) (by rw [e];exact aq) l.length aD
 unfold gn
 rw [bV,e,if_pos aq]
theorem sC{S:ao.aX}{a:Int}{l:List (List UInt8)}(h:(c9 S a l l.length).2=0)(aq:(ao.flush (c9 S a l l.length).1).2≠0):gn S a l=((ao.flush (c9 S a l l.length).1).1,(ao.flush (c9 S a l l.length).1).2,false):=by
 unfold gn;rw [if_neg (by omega),if_pos aq]
theorem sD{S F:ao.aX}{a:Int}{l:List (List UInt8)}{k:Nat}(ab:F=(ao.flush (c9 S a l l.length).1).1)(aD:k<l.length)(h:(c9 S a l l.length).2=0)(aq:(ao.flush (c9 S a l l.length).1).2=0)(aQ:(jy F a l k).1=0)(bH:(ao.read F (a+k)).2≠0) :
  gn S a l=(F,(ao.read F (a+k)).2,false):=by
 subst ab
 have e:=aem aQ bH
 have bV:=PB (S:=(ao.flush (c9 S a l l.length).1).1) (a:=a) (l:=l) (k:=k+1) (by rw [e];exact bH) l.length aD
 unfold gn;rw [if_neg (by omega),if_neg (by omega),bV,e]
theorem jX{S F:ao.aX}{a:Int}{l:List (List UInt8)}(ab:F=(ao.flush (c9 S a l l.length).1).1)(h:(c9 S a l l.length).2=0)(aq:(ao.flush (c9 S a l l.length).1).2=0)(aQ:(jy F a l l.length).1=0):gn S a l=(F,0,(jy F a l l.length).2):=by
 subst ab
 unfold gn;rw [if_neg (by omega),if_neg (by omega)]
 exact congrArg _ (Prod.ext aQ rfl)
end aj
end
section
namespace aj
open Go Go.aJ
def jL(J:dn)(t:List UInt8):dn:=⟨J.nums,J.tx,J.bad,J.next+1,J.en+(cH J.next t).length,J.gZ⟩
def jM(J:dn)(t:List UInt8):dn:=⟨J.nums,J.tx,J.bad,J.next+1,J.en+(cH J.next t).length,true⟩
def iS(J:dn)(t:List UInt8):dn:=⟨J.nums++[J.next],J.tx++[t],J.bad,J.next+1,J.en+(cH J.next t).length,J.gZ⟩
theorem app_1{J:dn}{S:ao.aX}{t:List UInt8}(h:J.gZ=true):app J S t=(J,S,0,23):=by unfold app;rw [if_pos h]
theorem uT{J:dn}{S:ao.aX}{t:List UInt8}(h:¬ J.gZ=true)(aq:8000<t.length∨4096<J.next):app J S t=(J,S,0,4):=by unfold app;rw [if_neg h,if_pos aq]
theorem s0{J:dn}{S:ao.aX}{t:List UInt8}(h:¬ J.gZ=true)(aq:t.length≤8000∧J.next≤4096)(aQ:room J S<bh t.length):app J S t=(J,S,0,22):=by unfold app;rw [if_neg h,if_neg (by omega),if_pos aQ]
theorem nk{J:dn}{S:ao.aX}{t:List UInt8}(h:¬ J.gZ=true)(aq:t.length≤8000∧J.next≤4096)(aQ:¬ room J S<bh t.length)(bH:(gn S J.en (cH J.next t)).2.1≠0):app J S t=(jM J t,(gn S J.en (cH J.next t)).1,0,(gn S J.en (cH J.next t)).2.1):=by unfold app;rw [if_neg h,if_neg (by omega),if_neg aQ,if_pos bH];rfl
theorem uU{J:dn}{S:ao.aX}{t:List UInt8}(h:¬ J.gZ=true)(aq:t.length≤8000∧J.next≤4096)(aQ:¬ room J S<bh t.length)(bH:(gn S J.en (cH J.next t)).2.1=0)(cN:(gn S J.en (cH J.next t)).2.2=false):app J S t=(jL J t,(gn S J.en (cH J.next t)).1,0,24):=by unfold app;rw [if_neg h,if_neg (by omega),if_neg aQ,if_neg (by omega),if_pos cN];rfl
theorem rl{J:dn}{S:ao.aX}{t:List UInt8}(h:¬ J.gZ=true)(aq:t.length≤8000∧J.next≤4096)(aQ:¬ room J S<bh t.length)(bH:(gn S J.en (cH J.next t)).2.1=0)(cN:¬ (gn S J.en (cH J.next t)).2.2=false):app J S t=(iS J t,(gn S J.en (cH J.next t)).1,J.next,0):=by unfold app;rw [if_neg h,if_neg (by omega),if_neg aQ,if_neg (by omega),if_neg cN];rfl
theorem Ix{J:dn}{S:ao.aX}{t:List UInt8}(ej:kP J)(U:(S.s.length:Int)≤4096)(aq:t.length≤8000∧J.next≤4096)(aQ:¬ room J S<bh t.length):kP (jL J t):=by
 have bu:=nW t.length
 unfold room at aQ
 exact ⟨by have:=ej.lY;show 1≤J.next+1;omega,by show J.next+1≤4097;omega,by have:=ej.bK;show 0≤J.en+_;omega,by show J.en+((cH J.next t).length:Int)≤4096;rw [p6];omega,by have:=ej.nl;show (J.nums.length:Int)≤J.en+_;omega,ej.tl,ej.bl,ej.nr,ej.br,ej.tr⟩
theorem C6{J:dn}{t:List UInt8}(h:kP (jL J t)):kP (jM J t):=⟨h.lY,h.oe,h.bK,h.bV,h.nl,h.tl,h.bl,h.nr,h.br,h.tr⟩
theorem Iy{J:dn}{t:List UInt8}(ej:kP J)(h:kP (jL J t))(aq:t.length≤8000∧J.next≤4096): kP (iS J t):=by
 have hl:=ej.nl
 have bN:=AA (n:=t.length) (by omega)
 refine ⟨h.lY,h.oe,h.bK,h.bV,?_,?_,h.bl,?_,h.br,?_⟩
 ·show ((J.nums++[J.next]).length:Int)≤J.en+((cH J.next t).length:Int)
  rw [List.length_append,p6];simp;omega
 ·show (J.tx++[t]).length=(J.nums++[J.next]).length
  rw [List.length_append,List.length_append,ej.tl];rfl
 ·intro x aL
  rcases List.mem_append.1 aL with aL | aL
  ·exact ej.nr x aL
  ·have:x=J.next:=by simpa using aL
   have:=ej.lY
   omega
 ·intro x aL
  rcases List.mem_append.1 aL with aL | aL
  ·exact ej.tr x aL
  ·have:x=t:=by simpa using aL
   subst this;omega
theorem afB{n:Int}{t:List UInt8}:∀ x∈cH n t,x.length≤140737488355328:=fun x aL=>by
 obtain ⟨k,_,rfl⟩:=List.mem_map.1 aL
 rw [wq];decide
end aj
end
section
namespace aj
open Go Go.aJ
def agE(f:UInt8)(k:Nat):List UInt8:=(List.range k).map fun (j:Nat)=>f+hb (j:Int)
def Ie(n:Int)(f:UInt8):List UInt8:=agE f (min (max n 0) 8100).toNat
def Ab(K:dn→av→av→av→av→Prop)(B W:ao.aX→av)(J:dn)(S:ao.aX)(v:Value):Value→List aP→List av→Prop:=fun r zs hs=>r=v∧zs=[]∧∃ cj ck cr ct,hs=[cj,ck,cr,ct,B S,W S]∧K J cj ck cr ct
theorem q0{K:dn→av→av→av→av→Prop}{B W:ao.aX→av}{J q7:dn}{S oL:ao.aX}{v dd r:Value}{zs:List aP}{hs:List av}(h:Ab K B W J S v r zs hs)(bK:J=q7)(bV:S=oL)(fx:v=dd):Ab K B W q7 oL dd r zs hs:=bK ▸ bV ▸ fx ▸ h
theorem zS{S:ao.aX}(h:ao.Ok S)(a:Int)(l:List (List UInt8)):∀ k,ao.Ok (c9 S a l k).1
 | 0=>h
 | k+1=>by
  rw [c9]
  split
  ·exact zS h a l k
  ·exact ao.acy (zS h a l k) _ _
end aj
end
section
namespace aj
open Go Go.aJ
theorem Hu(S:ao.aX):(c4 S).length=S.s.length:=by simp [c4]
theorem ot{S:ao.aX}{k:Nat}(h:k<S.s.length):(c4 S).getD k []=(ao.read S (k:Int)).1:=by
 unfold c4
 rw [List.getD_eq_getElem?_getD,List.getElem?_map,List.getElem?_range h];rfl
theorem PD{S:ao.aX}(bB:ao.Ok S)(bw:S.off=false){k:Nat}(h:k<S.s.length):(ao.read S (k:Int)).2=0∧(ao.read S (k:Int)).1.length=64:=by
 have aG:0≤(k:Int)∧(k:Int)<S.s.length:=by omega
 have bu:=ao.pB (S:=S) (by rw [bw];simp) aG
 have hs:=bB.at aG
 unfold ao.read
 rw [if_pos bu]
 refine ⟨rfl,?_⟩
 dsimp only
 split
 ·exact hs.2.1 ‹_›
 ·exact hs.1
def ep(R:List (List UInt8))(k:Nat):List Part:=(R.take k).map c8
theorem yN{R:List (List UInt8)}{k:Nat}(h:k≤R.length):(ep R k).length=k:=by unfold ep;rw [List.length_map,List.length_take];omega
theorem om{R:List (List UInt8)}{k:Nat}(h:k<R.length):(ep R k).flatMap qV++qV (c8 (R.getD k []))=(ep R (k+1)).flatMap qV:=by
 unfold ep
 rw [nb (d:=([]:List UInt8)) h,List.map_append,List.flatMap_append];simp
theorem vW{R:List (List UInt8)}{k:Nat}:∀ x∈ep R k,oJ x:=fun x aL=>by
 obtain ⟨s,_,rfl⟩:=List.mem_map.1 aL
 exact wE s
theorem ta{l:List (List UInt8)}{k:Nat}(h:l.getD k []=z64):gD l (k+1)=gD l k:=by rw [gD,if_pos h]
theorem s9{l:List (List UInt8)}{k:Nat}(h:l.getD k []≠z64):gD l (k+1)=(k:Int)+1:=by rw [gD,if_neg h]
theorem s3{l:List (List UInt8)}{k:Nat}(h:(c8 (l.getD k [])).ok=false∧l.getD k []≠z64):gC l (k+1)=gC l k++[(k:Int)]:=by rw [gC,if_pos h]
theorem qs{l:List (List UInt8)}{k:Nat}(h:¬ ((c8 (l.getD k [])).ok=false∧l.getD k []≠z64)):gC l (k+1)=gC l k:=by rw [gC,if_neg h]
theorem AG(l:List (List UInt8)):∀ k,0≤gD l k∧gD l k≤k
 | 0=>⟨Int.le_refl _,Int.le_refl _⟩
 | k+1=>by
  have:=AG l k
  rw [gD]
  split <;> omega
theorem yK(l:List (List UInt8)):∀ k,1≤gi l k∧gi l k≤4097
 | 0=>⟨Int.le_refl _,by show (1:Int)≤4097;decide⟩
 | k+1=>by
  have:=yK l k
  have h:=(wE (l.getD k [])).1
  rw [gi];omega
theorem Ak(l:List (List UInt8)):∀ k,(gC l k).length≤k∧∀ x∈gC l k,0≤x∧x<k
 | 0=>⟨Nat.le_refl _,fun x aL=>by cases aL⟩
 | k+1=>by
  obtain ⟨h1,aq⟩:=Ak l k
  rw [gC]
  split
  ·refine ⟨by rw [List.length_append];simpa using h1,fun x aL=>?_⟩
   rcases List.mem_append.1 aL with aL | aL
   ·have:=aq x aL;omega
   ·have:x=(k:Int):=by simpa using aL
    omega
  ·exact ⟨by omega,fun x aL=>by have:=aq x aL;omega⟩
def l8(k:Nat)(a:Acc):Prop:=(a.1.length:Int)≤k∧a.2.length=a.1.length∧(∀ x∈a.1,1≤x∧x≤4096)∧∀ x∈a.2,x.length≤8064
theorem l8.start:l8 0 ([],[]):=by
 refine ⟨Int.le_refl _,rfl,?_,?_⟩
 ·intro x aL;cases aL
 ·intro x aL;cases aL
theorem l8.up{k m:Nat}{a:Acc}(h:l8 k a)(hm:k≤m):l8 m a:=⟨by have:=h.1;omega,h.2⟩
theorem l8.add{k m:Nat}{a:Acc}(h:l8 k a)(hm:k<m){n:Int}{t:List UInt8}(bA:1≤n∧n≤4096)(aM:t.length≤8064):l8 m (a.1++[n],a.2++[t]):=by
 obtain ⟨h1,aq,aQ,bH⟩:=h
 refine ⟨by simp;omega,by simp [aq],fun x aL=>?_,fun x aL=>?_⟩
 ·rcases List.mem_append.1 aL with aL | aL
  ·exact aQ x aL
  ·have:x=n:=by simpa using aL
   omega
 ·rcases List.mem_append.1 aL with aL | aL
  ·exact bH x aL
  ·have:x=t:=by simpa using aL
   subst this;exact aM
theorem aep{l:List Part}(h:(l1 l).2.2=false):fX l=none:=by
 unfold l1 at h
 cases aY:fX l with
 | none=>rfl
 | some q=>rw [aY] at h;cases h
theorem aeq{l:List Part}(h:(l1 l).2.2=true):∃ n:Nat,fX l=some ((l1 l).1,n)∧(l1 l).2.1=n:=by
 unfold l1 at h ⊢
 cases aY:fX l with
 | none=>rw [aY] at h;cases h
 | some q=>exact ⟨q.2,rfl,rfl⟩
theorem PF{l:List Part}{t:List UInt8}{n:Nat}(h:fX l=some (t,n))(hl:∀ x∈l,oJ x):(f0 l).ok=true∧t.length≤8064:=by
 cases l with
 | nil=>cases h
 | cons f l=>
  rw [Cv] at h
  by_cases bu:f.ok=true∧f.p=0∧1≤bh f.l∧bh f.l≤(f::l).length∧hA f 0 ((f::l).take (bh f.l).toNat)=true
  ·rw [if_pos bu] at h
   injection h with h
   injection h with h aq
   refine ⟨bu.1,?_⟩
   have aQ:=Ic (l:=(f::l).take (bh f.l).toNat) fun x aL=>hl x (List.mem_of_mem_take aL)
   have bH:=nW f.l
   rw [List.length_take] at aQ
   rw [← h];omega
  ·rw [if_neg bu] at h;cases h
theorem Ij{s:List UInt8}(h:(c8 s).ok=true):1≤(c8 s).n:=by
 by_cases aO:eW s
 ·rw [zB aO];have:=aO.2.2.1;dsimp only;omega
 ·rw [q4 aO] at h;cases h
end aj
end
section
namespace aj
open Go Go.aJ
theorem ue(l:List (List UInt8))(k:Nat):gi l (k+1)=max (gi l k) ((c8 (l.getD k [])).n+1):=rfl
theorem Ap{s:List UInt8}(h:(c8 s).ok=true):s≠z64:=fun e=>by
 have:=Ij h
 subst e
 have aq:¬ eW z64:=fun aO=>by
  have aQ:=aO.2.2.1
  have bH:num z64=0:=by decide
  omega
 rw [q4 aq] at h;cases h
theorem Ek{l:List (List UInt8)}{m:Nat}(h:l.getD m []≠z64):∀ k,m<k→(m:Int)+1≤gD l k
 | 0,aD=>by omega
 | k+1,aD=>by
  rw [gD]
  split
  ·rename_i bj
   rcases Nat.lt_or_ge m k with aq | aq
   ·exact Ek h k aq
   ·rw [show k=m by omega] at bj;exact absurd bj h
  ·omega
theorem Cd{R:List (List UInt8)}{k n:Nat}(h:k<n)(bA:n≤R.length):(ep R n).getD k cu=c8 (R.getD k []):=by
 unfold ep
 rw [List.getD_eq_getElem?_getD,List.getElem?_map,List.getElem?_take,if_pos h,List.getElem?_eq_getElem (by omega),List.getD_eq_getElem?_getD,List.getElem?_eq_getElem (by omega)];rfl
theorem nZ(l:List Part)(m:Nat):f0 (l.drop m)=l.getD m cu:=by
 unfold f0
 rw [List.getD_eq_getElem?_getD,List.getElem?_drop,List.getD_eq_getElem?_getD];rfl
theorem Oc{S:ao.aX}{acc:Acc}(h:scan ((ep (c4 S) S.s.length).drop S.s.length) acc=scan (ep (c4 S) S.s.length) ([],[])) :
  eo S=⟨acc.1,acc.2,gC (c4 S) S.s.length,gi (c4 S) S.s.length,gD (c4 S) S.s.length,false⟩:=by
 have hl:=Hu S
 rw [List.drop_of_length_le (by rw [yN (by omega)];exact Nat.le_refl _),afo] at h
 have e:(c4 S).map c8=ep (c4 S) S.s.length:=by unfold ep;rw [List.take_of_length_le (by omega)]
 unfold eo ug
 rw [hl,e,← h]
theorem RL{S:ao.aX}{acc:Acc}(bB:ao.Ok S)(a7:l8 S.s.length acc)(au:(acc.1.length:Int)≤gD (c4 S) S.s.length):kP ⟨acc.1,acc.2,gC (c4 S) S.s.length,gi (c4 S) S.s.length,gD (c4 S) S.s.length,false⟩:=by
 have fB:=bB.aG
 have h1:=yK (c4 S) S.s.length
 have aq:=AG (c4 S) S.s.length
 have aQ:=Ak (c4 S) S.s.length
 exact ⟨h1.1,h1.2,aq.1,by show gD _ _≤4096;omega,au,a7.2.1,by show ((gC _ _).length:Int)≤4096;omega,a7.2.2.1,fun x aL=>by have:=aQ.2 x aL;omega,a7.2.2.2⟩
end aj
end
section
namespace aj
open Go Go.aJ
def sA(l:List Part):Bool:=(f0 l).ok&&decide ((f0 l).p=0)&&decide (bh (f0 l).l≤l.length)
theorem ab3{f:Part}{l:List Part}{i:Nat}(h:hA f 0 (l.take i)=false){n:Nat}(bA:i≤n):hA f 0 (l.take n)=false:=by
 have e:l.take n=l.take i++(l.take n).drop i:=by
  have aq:=List.take_append_drop i (l.take n)
  rw [List.take_take,Nat.min_eq_left bA] at aq
  exact aq.symm
 rw [e,GQ,h];rfl
theorem aes{l:List Part}(hl:l≠[])(bu:1≤bh (f0 l).l){i:Nat}(h:(sA l&&hA (f0 l) 0 (l.take i))=true)(aG:(i:Int)=bh (f0 l).l):fX l=some (mM (l.take i),i):=by
 simp only [sA,Bool.and_eq_true,decide_eq_true_eq] at h
 obtain ⟨⟨⟨h1,aq⟩,aQ⟩,bH⟩:=h
 have e:(bh (f0 l).l).toNat=i:=by omega
 rw [uv hl,e,if_pos ⟨h1,aq,bu,aQ,bH⟩]
theorem aer{l:List Part}(hl:l≠[]){i:Nat}(h:(sA l&&hA (f0 l) 0 (l.take i))=false)(aG:(i:Int)≤bh (f0 l).l):fX l=none:=by
 rw [uv hl,if_neg]
 rintro ⟨h1,aq,aQ,bH,cN⟩
 have hw:sA l=true:=by simp only [sA,Bool.and_eq_true,decide_eq_true_eq];exact ⟨⟨h1,aq⟩,bH⟩
 rw [hw,Bool.true_and] at h
 have:=ab3 h (n:=(bh (f0 l).l).toNat) (by omega)
 rw [this] at cN;cases cN
end aj
end
section
namespace aj
open Go Go.aJ
theorem aaY(n k:Nat):cU n (k+1)=UInt8.ofNat n::cU (n/256) k:=by
 unfold cU
 rw [List.range_succ_eq_map,List.map_cons,List.map_map,Nat.pow_zero,Nat.div_one]
 congr 1
 refine List.map_congr_left fun i _=>?_
 show UInt8.ofNat (n/256^(i+1))=UInt8.ofNat (n/256/256^i)
 rw [Nat.pow_succ,Nat.mul_comm,Nat.div_div_eq_div_mul]
theorem BZ:∀ (k n:Nat),eb (cU n k)=n%256^k
 | 0,n=>by show 0=n%1;omega
 | k+1,n=>by
  rw [aaY,NX,BZ k,Nat.pow_succ,Nat.mul_comm (256^k),Nat.mod_mul]
  have:(UInt8.ofNat n).toNat=n%256:=by simp
  omega
theorem Yc(n k:Nat)(r:List UInt8):(aT n k r).take 4=cU n 4:=by
 unfold aT;rw [List.append_assoc,List.append_assoc,List.take_append_of_le_length (by rw [kg];omega),List.take_of_length_le (by rw [kg];omega)]
theorem Yd(n k:Nat)(r:List UInt8):List.drop 4 ((aT n k r).take 6)=cU k 2:=by
 unfold aT
 rw [List.append_assoc,List.take_append_of_le_length (by simp [kg]),List.take_of_length_le (by simp [kg]),List.drop_left' (kg n 4)]
theorem Ye(n k:Nat)(r:List UInt8):List.drop 6 ((aT n k r).take 8)=cU r.length 2:=by
 unfold aT
 rw [List.take_append_of_le_length (by simp [kg]),List.take_of_length_le (by simp [kg]),List.drop_left' (by simp [kg])]
theorem Ma(n k:Nat)(r:List UInt8):(aT n k r).drop 8=o9 r:=by
 unfold aT;rw [List.drop_left' (by simp [kg])]
theorem wu(n:Int)(t:List UInt8)(k:Nat):(sec n t k).take 56=aT n.toNat k (t.drop (48*k)):=by
 unfold sec jr;rw [List.take_left' (tC _ _ _)]
theorem CQ(s:List UInt8){m:Nat}(h:m≤56):s.take m=(s.take 56).take m:=by rw [List.take_take,Nat.min_eq_left h]
theorem Qp(n:Int)(bA:0≤n∧n<4294967296)(t:List UInt8)(k:Nat):(num (sec n t k):Int)=n:=by
 unfold num;rw [CQ _ (by decide:4≤56),wu,Yc,BZ];omega
theorem Qq(n:Int)(t:List UInt8)(k:Nat)(aD:k<65536):par (sec n t k)=k:=by
 unfold par;rw [CQ _ (by decide:6≤56),wu,Yd,BZ];omega
theorem Qo(n:Int)(t:List UInt8)(k:Nat)(aM:t.length<65536):jx (sec n t k)=t.length-48*k:=by
 unfold jx;rw [CQ _ (by decide:8≤56),wu,Ye,BZ,List.length_drop];omega
theorem JY{t:List UInt8}(aM:t.length≤8000){k:Nat}(aD:k<(bh t.length).toNat):k≤166∧48*k≤t.length∧(0<k→48*k<t.length):=by
 have h:=nW t.length
 by_cases h0:t.length=0
 ·rw [h0] at aD
  have:k<1:=aD
  omega
 ·rw [D2 (by omega)] at aD;omega
theorem acO(r:List UInt8):(o9 r).drop (min r.length 48)=List.replicate (48-min r.length 48) 0:=by
 unfold o9
 rw [List.drop_left' (by rw [List.length_take];omega)]
 congr 1;omega
theorem acQ(r:List UInt8):(o9 r).take (min r.length 48)=r.take 48:=by
 unfold o9
 rw [List.take_left' (by rw [List.length_take];omega)]
theorem afA{n:Int}(bA:1≤n∧n≤4096){t:List UInt8}(aM:t.length≤8000){k:Nat}(aD:k<(bh t.length).toNat):eW (sec n t k):=by
 have bu:=JY aM aD
 have h1:=Qp n (by omega) t k
 have aq:=Qq n t k (by omega)
 have aQ:=Qo n t k (by omega)
 refine ⟨wq _ _ _,by rw [wu];rfl,by omega,by omega,by omega,by omega,?_⟩
 have e:ey (sec n t k)=min (t.drop (48*k)).length 48:=by unfold ey;rw [aQ,List.length_drop]
 rw [e,wu,← List.drop_drop,Ma,acO]
theorem zC{n:Int}(bA:1≤n∧n≤4096){t:List UInt8}(aM:t.length≤8000){k:Nat}(aD:k<(bh t.length).toNat):c8 (sec n t k)=⟨n,k,t.length-48*k,(t.drop (48*k)).take 48,true⟩:=by
 have bu:=JY aM aD
 have h1:=Qp n (by omega) t k
 have aq:=Qq n t k (by omega)
 have aQ:=Qo n t k (by omega)
 rw [zB (afA bA aM aD)]
 have e:ey (sec n t k)=min (t.drop (48*k)).length 48:=by unfold ey;rw [aQ,List.length_drop]
 have iy:List.drop 8 ((sec n t k).take (8+ey (sec n t k)))=(t.drop (48*k)).take 48:=by
  rw [e,CQ _ (by omega),wu,List.drop_take,Ma,Nat.add_sub_cancel_left,acQ]
 rw [iy,h1,aq,aQ]
 congr 1
 omega
theorem NV{f:Part}:∀ (l:List Part) (k:Nat),(∀ i,i<l.length→mt f (k+i) (l.getD i cu)=true)→hA f k l=true
 | [],_,_=>rfl
 | q::l,k,h=>by
  show (mt f k q&&hA f (k+1) l)=true
  have cC:mt f k q=true:=h 0 (by simp)
  rw [cC,NV l (k+1) fun i aG=>by
   have:=h (i+1) (by simpa using aG)
   rwa [List.getD_cons_succ,show k+(i+1)=k+1+i by omega] at this]
  rfl
def sp(n:Int)(t:List UInt8)(k:Nat):Part:=⟨n,k,t.length-48*k,(t.drop (48*k)).take 48,true⟩
def nP(n:Int)(t:List UInt8):List Part:=(List.range (bh t.length).toNat).map (sp n t)
theorem H0(n:Int)(t:List UInt8):(nP n t).length=(bh t.length).toNat:=by simp [nP]
theorem HZ(n:Int)(t:List UInt8){k:Nat}(aD:k<(bh t.length).toNat):(nP n t).getD k cu=sp n t k:=by
 unfold nP
 rw [List.getD_eq_getElem?_getD,List.getElem?_map,List.getElem?_range aD];rfl
theorem QN(t:List UInt8):∀ c:Nat,(List.range c).flatMap (fun k=>(t.drop (48*k)).take 48)=t.take (48*c)
 | 0=>rfl
 | c+1=>by
  rw [List.range_succ,List.flatMap_append,QN t c,show 48*(c+1)=48*c+48 by omega,List.take_add]
  simp
theorem af1{n:Int}{t:List UInt8}(aM:t.length≤8000):mM (nP n t)=t:=by
 unfold mM nP
 rw [List.flatMap_map]
 have h:=D3 (n:=t.length) (by omega)
 have:=QN t (bh t.length).toNat
 have e:(List.range (bh t.length).toNat).flatMap (fun a=>(sp n t a).t)=(List.range (bh t.length).toNat).flatMap (fun k=>(t.drop (48*k)).take 48):=rfl
 rw [e,this,List.take_of_length_le (by omega)]
theorem af0(n:Int)(t:List UInt8):hA (sp n t 0) 0 (nP n t)=true:=NV _ _ fun i aG=>by
 rw [HZ n t (by rw [H0] at aG;exact aG),Nat.zero_add]
 unfold mt sp
 simp
theorem xz{t:List UInt8}(aM:t.length≤8000):1≤(bh t.length).toNat:=by
 have:=AA (n:=t.length) (by omega);omega
theorem aeu{n:Int}{t:List UInt8}(aM:t.length≤8000)(Q:List Part):fX (nP n t++Q)=some (t,(bh t.length).toNat):=by
 have bu:=xz aM
 have hl:=H0 n t
 have h0:nP n t++Q≠[]:=fun e=>by
  have:=congrArg List.length e
  rw [List.length_append,hl] at this
  have:(bh t.length).toNat+Q.length=0:=this
  omega
 have bw:f0 (nP n t++Q)=sp n t 0:=by
  unfold f0
  rw [List.getD_eq_getElem?_getD,List.getElem?_append_left (by omega),← List.getD_eq_getElem?_getD,HZ n t (by omega)]
 have vC:(sp n t 0).l=t.length:=by unfold sp;dsimp only;omega
 rw [uv h0,bw,vC,List.take_left' hl,if_pos ⟨rfl,rfl,by omega,by rw [List.length_append,hl];omega,af0 n t⟩,af1 aM]
theorem HR{l:List Part}{a:Acc}:∀ m,(∀ i,i<m→fX (l.drop i)=none)→scan l a=scan (l.drop m) a
 | 0,_=>by rw [List.drop_zero]
 | m+1,h=>by
  rw [HR m fun i aG=>h i (by omega)]
  by_cases aT:l.drop m=[]
  ·have e:l.drop (m+1)=[]:=by rw [← List.drop_drop,aT];rfl
   rw [aT,e]
  ·rw [HQ aT (h m (by omega)),List.drop_drop]
theorem Hw{l:List Part}(h:(f0 l).ok=false∨(f0 l).p≠0):fX l=none:=by
 cases l with
 | nil=>rfl
 | cons f l=>
  rw [Cv,if_neg]
  rintro ⟨h1,aq,_⟩
  rcases h with h | h
  ·rw [show f0 (f::l)=f from rfl,h1] at h;cases h
  ·exact h aq
theorem aet{l:List Part}{j:Nat}(a6:(j:Int)<bh (f0 l).l)(au:(l.getD j cu).ok=false):fX l=none:=by
 by_cases h0:l=[]
 ·rw [h0];rfl
 rw [uv h0,if_neg]
 rintro ⟨_,_,_,bH,cN⟩
 have hlen:(l.take (bh (f0 l).l).toNat).length=(bh (f0 l).l).toNat:=by rw [List.length_take];omega
 have e:(l.take (bh (f0 l).l).toNat).getD j cu=l.getD j cu:=by
  rw [List.getD_eq_getElem?_getD,List.getElem?_take,if_pos (by omega),List.getD_eq_getElem?_getD]
 rw [NW (l:=l.take (bh (f0 l).l).toNat) (k:=j) (by omega) (.inl (.inl (.inl (by rw [e];exact au))))] at cN
 cases cN
theorem afn{n:Int}{t:List UInt8}{A Q:List Part}{a:Acc}(aM:t.length≤8000)(hl:A.length=(bh t.length).toNat)(j6:∀ i,i<A.length→A.getD i cu=sp n t i∨(A.getD i cu).ok=false){j:Nat}(a6:j<A.length)(au:(A.getD j cu).ok=false):scan (A++Q) a=scan Q a:=by
 have aT:(A++Q).drop A.length=Q:=List.drop_left' rfl
 rw [HR A.length,aT]
 intro i aG
 have bw:f0 ((A++Q).drop i)=A.getD i cu:=by
  rw [nZ,List.getD_eq_getElem?_getD,List.getElem?_append_left aG,List.getD_eq_getElem?_getD]
 rcases j6 i aG with h | h
 ·by_cases h0:i=0
  ·subst h0
   rw [List.drop_zero] at bw ⊢
   refine aet (j:=j) ?_ ?_
   ·rw [bw,h];show (j:Int)<bh ((t.length:Int)-48*(0:Nat));rw [show ((t.length:Int)-48*(0:Nat))=t.length by omega];omega
   ·rw [List.getD_eq_getElem?_getD,List.getElem?_append_left a6,← List.getD_eq_getElem?_getD];exact au
  ·exact Hw (.inr (by rw [bw,h];show (i:Int)≠0;omega))
 ·exact Hw (.inl (by rw [bw];exact h))
theorem afp{n:Int}{t:List UInt8}{Q:List Part}{a:Acc}(aM:t.length≤8000):scan (nP n t++Q) a=scan Q (qm a n t):=by
 have bu:=xz aM
 have hl:=H0 n t
 rw [zl (aeu aM Q),List.drop_left' hl]
 have:(nP n t++Q).getD 0 cu=sp n t 0:=by rw [List.getD_eq_getElem?_getD,List.getElem?_append_left (by omega),← List.getD_eq_getElem?_getD,HZ n t (by omega)]
 rw [this];rfl
theorem Qh{Q:List Part}{a:Acc}(h:∀ x∈Q,x.ok=false):scan Q a=a:=by
 rw [HR Q.length,List.drop_length];rfl
 intro i aG
 refine Hw (.inl ?_)
 rw [nZ,List.getD_eq_getElem?_getD,List.getElem?_eq_getElem aG]
 exact h _ (List.getElem_mem aG)
theorem sy:c8 z64=cu:=q4 fun aO=>by
 have aQ:=aO.2.2.1
 have bH:num z64=0:=by decide
 omega
end aj
end
section
namespace aj
open Go Go.aJ
structure Still (S:ao.aX):Prop where
 off:S.off=false
 left:S.left = -1
 dt:∀ x∈S.s,x.dt=false
theorem af6(S:ao.aX):((ao.step S).2=0∧(ao.step S).1.s=S.s∧(ao.step S).1.off=S.off)∨((ao.step S).2=23∧(ao.step S).1.s=S.s):=by
 unfold ao.step
 split
 ·exact .inr ⟨rfl,rfl⟩
 ·split
  ·exact .inl ⟨rfl,rfl,rfl⟩
  ·exact .inl ⟨rfl,rfl,rfl⟩
theorem WT{α:Type}(l:List α)(i j:Nat)(x d:α):(l.set i x).getD j d=if j=i∧i<l.length then x else l.getD j d:=by
 rw [List.getD_eq_getElem?_getD,List.getElem?_set,List.getD_eq_getElem?_getD]
 by_cases h:i=j
 ·subst h
  by_cases aq:i<l.length
  ·rw [if_pos rfl,if_pos aq,if_pos ⟨rfl,aq⟩];rfl
  ·rw [if_pos rfl,if_neg aq,if_neg (fun e=>aq e.2),List.getElem?_eq_none (by omega)]
 ·rw [if_neg h,if_neg (fun e=>h e.1.symm)]
def wP(S:ao.aX)(a:Nat)(l:List (List UInt8))(k j:Nat):ao.ee:=if a≤j∧j<a+k then ⟨(S.s.getD j ao.cG).tx,l.getD (j-a) [],true,(S.s.getD j ao.cG).wn⟩ else S.s.getD j ao.cG
theorem RQ{S:ao.aX}(bw:S.off=false){a:Int}{l:List (List UInt8)}(a7:0≤a)(m3:a+l.length≤S.s.length)(hl:∀ x∈l,x.length=64):∀ k,k≤l.length→(c9 S a l k).2=0 →
  (c9 S a l k).1.off=false∧(c9 S a l k).1.s.length=S.s.length∧∀ j,j<S.s.length→(c9 S a l k).1.s.getD j ao.cG=wP S a.toNat l k j:=by
 intro k
 induction k with
 | zero=>intro _ _;refine ⟨bw,rfl,fun j a6=>?_⟩;unfold wP;rw [if_neg (by omega)];rfl
 | succ k ih=>
  intro aD h
  have h0:(c9 S a l k).2=0:=by
   by_cases h1:(c9 S a l k).2=0
   ·exact h1
   ·rw [c9,if_pos h1] at h;exact h
  obtain ⟨i1,i2,i3⟩:=ih (by omega) h0
  rw [sF h0] at h ⊢
  generalize (c9 S a l k).1=W at i1 i2 i3 h ⊢
  have bu:ao.check W (a+k)=0:=ao.pB (by rw [i1];simp) (by rw [i2];omega)
  have e4:(l.getD k []).length=64:=hl _ (ao.jE (by omega))
  rcases af6 W with ⟨s1,s2,aff⟩ | ⟨s1,s2⟩
  ·rw [ao.wS bu e4 s1]
   refine ⟨by unfold ao.mark ao.aX.put;dsimp only;rw [aff];exact i1,by rw [ao.NC,s2];exact i2,fun j a6=>?_⟩
   unfold ao.mark ao.aX.put ao.aX.at
   dsimp only
   rw [s2,WT,show (a+(k:Int)).toNat=a.toNat+k by omega]
   by_cases lu:j=a.toNat+k
   ·rw [if_pos ⟨lu,by omega⟩,lu,i3 _ (by omega)]
    unfold wP
    rw [if_neg (by omega),if_pos (by omega),Nat.add_sub_cancel_left]
   ·rw [if_neg (fun e=>lu e.1),i3 j a6]
    unfold wP
    by_cases vA:a.toNat≤j∧j<a.toNat+k
    ·rw [if_pos vA,if_pos (by omega)]
    ·rw [if_neg vA,if_neg (by omega)]
  ·rw [ao.wR bu e4 (by omega)] at h;omega
theorem ahv{S:ao.aX}(bw:S.off=false)(cn:S.left = -1){a:Int}{l:List (List UInt8)}(a7:0≤a)(m3:a+l.length≤S.s.length)(hl:∀ x∈l,x.length=64):∀ k,k≤l.length→(c9 S a l k).2=0∧(c9 S a l k).1.left = -1:=by
 intro k
 induction k with
 | zero=>intro _;exact ⟨rfl,cn⟩
 | succ k ih=>
  intro aD
  obtain ⟨h1,aq⟩:=ih (by omega)
  obtain ⟨i1,i2,i3⟩:=RQ bw a7 m3 hl k (by omega) h1
  rw [sF h1]
  generalize (c9 S a l k).1=W at i1 i2 i3 aq ⊢
  have bu:ao.check W (a+k)=0:=ao.pB (by rw [i1];simp) (by rw [i2];omega)
  have e4:(l.getD k []).length=64:=hl _ (ao.jE (by omega))
  have hs:=ao.wA (S:=W) (by omega)
  rw [ao.wS bu e4 (by rw [hs]),hs]
  exact ⟨rfl,aq⟩
def oA(S:ao.aX)(a:Nat)(l:List (List UInt8))(j:Nat):ao.ee:=if a≤j∧j<a+l.length then ⟨if (S.s.getD j ao.cG).wn then (S.s.getD j ao.cG).tx else l.getD (j-a) [],[],false,(S.s.getD j ao.cG).wn⟩ else S.s.getD j ao.cG
theorem afG{x:ao.ee}(h1:x.nx.length=64)(aq:x.tx.length=64):ao.jg x 64=⟨if x.wn then x.tx else x.nx,[],false,x.wn⟩:=by
 unfold ao.jg
 rw [show ao.gZ 64=64 from by decide,List.take_of_length_le (by omega),List.drop_eq_nil_of_le (by omega),List.append_nil]
theorem afy{S:ao.aX}(bB:ao.Ok S){j:Nat}(a6:j<S.s.length):ao.rj (S.s.getD j ao.cG):=bB.sec _ (ao.jE a6)
theorem AD{S:ao.aX}(h:∀ x∈S.s,x.dt=false){j:Nat}(a6:j<S.s.length):(S.s.getD j ao.cG).dt=false:=h _ (ao.jE a6)
theorem BQ{α:Type}{l:List α}{x d:α}(h:x∈l):∃ j,j<l.length∧x=l.getD j d:=by
 obtain ⟨j,a6,rfl⟩:=List.getElem_of_mem h
 exact ⟨j,a6,by rw [List.getD_eq_getElem?_getD,List.getElem?_eq_getElem a6];rfl⟩
theorem U3{S W:ao.aX}(bB:ao.Ok S)(aT:∀ x∈S.s,x.dt=false){a:Nat}{l:List (List UInt8)}(hl:∀ x∈l,x.length=64)(m3:a+l.length≤S.s.length)
  (hw:W.s.length=S.s.length) (h:∀ j,j<S.s.length→W.s.getD j ao.cG=wP S a l l.length j):∀ j,j<S.s.length→(ao.gv [] 0 W.s).getD j ao.cG=oA S a l j:=by
 intro j a6
 rw [ao.GN [] W.s 0 0 j (by omega),h j a6]
 have aL:=afy bB a6
 unfold wP oA
 by_cases aY:a≤j∧j<a+l.length
 ·rw [if_pos aY,if_pos aY,if_pos rfl,ao.ac2]
  exact afG (x:=⟨_,l.getD (j-a) [],true,_⟩) (hl _ (ao.jE (by omega))) aL.1
 ·rw [if_neg aY,if_neg aY,if_neg (by rw [AD aT a6];simp)]
theorem ael{F:ao.aX}{a:Nat}{l:List (List UInt8)}(bw:F.off=false)(aT:∀ x∈F.s,x.dt=false)(m3:a+l.length≤F.s.length):∀ k,k≤l.length →
  jy F (a:Int) l k=(0,decide (∀ i,i<k→l.getD i []=(F.s.getD (a+i) ao.cG).tx)):=by
 intro k
 induction k with
 | zero=>intro _;show ((0:Int),true)=_;rw [decide_eq_true];intro i aG;omega
 | succ k ih=>
  intro aD
  have h1:=ih (by omega)
  have aG:0≤(a:Int)+k∧(a:Int)+k<F.s.length:=by omega
  have bu:=ao.pB (S:=F) (by rw [bw];simp) aG
  have aY:ao.read F (a+k)=((F.s.getD (a+k) ao.cG).tx,0):=by
   have aM:F.at ((a:Int)+k)=F.s.getD (a+k) ao.cG:=by unfold ao.aX.at;rw [show ((a:Int)+k).toNat=a+k by omega]
   rw [ao.Cu bu (by rw [aM,AD aT (by omega)];simp),aM]
  rw [y8 (by rw [h1]) (by rw [aY]),aY,h1]
  congr 1
  rw [← Bool.decide_and]
  refine decide_eq_decide.2 ⟨fun aL i aG=>?_,fun aL=>⟨fun i aG=>aL i (by omega),aL k (by omega)⟩⟩
  rcases Nat.lt_or_ge i k with aq | aq
  ·exact aL.1 i aq
  ·rw [show i=k by omega];exact aL.2
theorem ahe{S:ao.aX}(bB:ao.Ok S)(U:Still S){a:Nat}{l:List (List UInt8)}(hl:∀ x∈l,x.length=64)(m3:a+l.length≤S.s.length) :
  ∃ F,Still F∧ao.Ok F∧F.s.length=S.s.length∧(∀ j,j<S.s.length→F.s.getD j ao.cG=oA S a l j)∧gn S (a:Int) l=(F,0,decide (∀ i,i<l.length→l.getD i []=(F.s.getD (a+i) ao.cG).tx)):=by
 obtain ⟨h1,aq⟩:=ahv U.off U.left (a:=(a:Int)) (l:=l) (by omega) (by omega) hl l.length (Nat.le_refl _)
 obtain ⟨i1,i2,i3⟩:=RQ U.off (a:=(a:Int)) (l:=l) (by omega) (by omega) hl l.length (Nat.le_refl _) h1
 rw [Int.toNat_natCast] at i3
 have XK:=zS bB (a:Int) l l.length
 have eG:ao.flush (c9 S a l l.length).1=(⟨ao.gv [] 0 (c9 S a l l.length).1.s,false, -1⟩,0):=by
  unfold ao.flush
  have hs:=ao.wA (S:=(c9 S a l l.length).1) (by omega)
  rw [if_neg (by rw [i1];simp),hs,if_neg (by simp),i1,aq]
 have Md:=U3 bB U.dt hl m3 i2 i3
 have hlen:(ao.gv [] 0 (c9 S a l l.length).1.s).length=S.s.length:=by rw [ao.o6,i2]
 have Mb:∀ x∈ao.gv [] 0 (c9 S a l l.length).1.s,x.dt=false:=fun x aL=>by
  obtain ⟨j,a6,rfl⟩:=BQ (d:=ao.cG) aL
  rw [Md j (by omega)]
  unfold oA
  split
  ·rfl
  ·exact AD U.dt (by omega)
 have xV:=ao.N7 XK
 rw [eG] at xV
 refine ⟨⟨ao.gv [] 0 (c9 S a l l.length).1.s,false, -1⟩,⟨rfl,rfl,Mb⟩,xV,hlen,Md,?_⟩
 have rW:=ael (F:=⟨ao.gv [] 0 (c9 S a l l.length).1.s,false, -1⟩) (a:=a) (l:=l) rfl Mb (by show a+l.length≤(ao.gv _ _ _).length;omega) l.length (Nat.le_refl _)
 rw [jX (F:=⟨ao.gv [] 0 (c9 S a l l.length).1.s,false, -1⟩) (by rw [eG]) h1 (by rw [eG]) (by rw [rW]),rW]
end aj
end
section
namespace aj
open Go Go.aJ
def fR(S:ao.aX)(j:Nat):List UInt8:=(S.s.getD j ao.cG).tx
def m9(S:ao.aX):List Part:=(List.range S.s.length).map fun j=>c8 (fR S j)
theorem af8{S:ao.aX}(U:Still S){k:Nat}(aD:k<S.s.length):(ao.read S (k:Int)).1=fR S k:=by
 have bu:=ao.pB (S:=S) (i:=(k:Int)) (by rw [U.off];simp) (by omega)
 have aM:S.at (k:Int)=S.s.getD k ao.cG:=by unfold ao.aX.at;rw [Int.toNat_natCast]
 rw [ao.Cu bu (by rw [aM,AD U.dt aD];simp),aM];rfl
theorem H3{S:ao.aX}(U:Still S):c4 S=(List.range S.s.length).map (fR S):=List.map_congr_left fun k aD=>af8 U (List.mem_range.1 aD)
theorem af7{S:ao.aX}(U:Still S):(c4 S).map c8=m9 S:=by rw [H3 U,List.map_map];rfl
theorem ac7(S:ao.aX):(m9 S).length=S.s.length:=by simp [m9]
theorem CH(n:Int)(t:List UInt8){k:Nat}(aD:k<(bh t.length).toNat):(cH n t).getD k []=sec n t k:=by
 unfold cH
 rw [List.getD_eq_getElem?_getD,List.getElem?_map,List.getElem?_range aD];rfl
theorem Qr{n:Int}{t:List UInt8}:∀ x∈cH n t,x.length=64:=fun x aL=>by
 obtain ⟨k,_,rfl⟩:=List.mem_map.1 aL
 exact wq _ _ _
theorem OE{S:ao.aX}{a:Nat}(h:a≤S.s.length):(m9 S).take a=(List.range a).map fun j=>c8 (fR S j):=by
 unfold m9;rw [← List.map_take,List.take_range,Nat.min_eq_left h]
theorem ac8{S F:ao.aX}{a c:Nat}(hl:F.s.length=S.s.length)(m3:a+c≤S.s.length)(h:∀ j,j<a→fR F j=fR S j) :
  (m9 F).take (a+c)=(m9 S).take a++(List.range c).map fun i=>c8 (fR F (a+i)):=by
 rw [OE (by omega),OE (by omega),List.range_add,List.map_append,List.map_map]
 congr 1
 exact List.map_congr_left fun j a6=>by rw [h j (List.mem_range.1 a6)]
structure wY (S:ao.aX) (J:dn):Prop where
 ok:ao.Ok S
 still:Still S
 gZ:J.gZ=false
 wf:kP J
 en:J.en≤S.s.length
 lt:∀ x∈J.nums,x<J.next
 sc:∀ Q,scan ((m9 S).take J.en.toNat++Q) ([],[])=scan Q (J.nums,J.tx)
 bl:∀ j,J.en.toNat≤j→j<S.s.length→fR S j=z64
theorem yF{α:Type}(f:Nat→α){c i:Nat}(h:i<c)(d:α):((List.range c).map f).getD i d=f i:=by
 rw [List.getD_eq_getElem?_getD,List.getElem?_map,List.getElem?_range h];rfl
theorem y7{α:Type}(f:Nat→α)(c:Nat):((List.range c).map f).length=c:=by simp
theorem RJ{S:ao.aX}{a:Nat}{l:List (List UInt8)}{j:Nat}(h:j<a):oA S a l j=S.s.getD j ao.cG:=by unfold oA;rw [if_neg (by omega)]
theorem ahb{S:ao.aX}{a:Nat}{l:List (List UInt8)}{j:Nat}(h:a+l.length≤j):oA S a l j=S.s.getD j ao.cG:=by unfold oA;rw [if_neg (by omega)]
theorem RI{S:ao.aX}{a:Nat}{l:List (List UInt8)}{i:Nat}(h:i<l.length):(oA S a l (a+i)).tx=if (S.s.getD (a+i) ao.cG).wn then fR S (a+i) else l.getD i []:=by
 unfold oA;rw [if_pos (by omega),Nat.add_sub_cancel_left];rfl
theorem WZ{S:ao.aX}{J:dn}(h:wY S J){t:List UInt8}(aM:t.length≤8000)(bA:J.next≤4096)(aY:¬ room J S<bh t.length) :
  ∃ F b,wY F (if b=true then iS J t else jL J t)∧gn S J.en (cH J.next t)=(F,0,b)∧F.s.length=S.s.length∧(∀ j,j<S.s.length→F.s.getD j ao.cG=oA S J.en.toNat (cH J.next t) j)∧(b=true↔∀ i,i<(bh t.length).toNat→fR F (J.en.toNat+i)=sec J.next t i):=by
 have kV:=h.wf.lY
 have Ym:=h.wf.bK
 have h6:=nW t.length
 have jw:=p6 J.next t
 have fH:=aY
 unfold room at fH
 have Yo:((J.en.toNat:Nat):Int)=J.en:=by omega
 obtain ⟨F,ab,xV,hlen,jR,hw⟩:=ahe h.ok h.still (a:=J.en.toNat) (l:=cH J.next t) Qr (by rw [jw];omega)
 rw [Yo] at hw
 have iB:∀ i,i<(bh t.length).toNat→fR F (J.en.toNat+i)=if (S.s.getD (J.en.toNat+i) ao.cG).wn then z64 else sec J.next t i:=fun i aG=>by
  unfold fR
  rw [jR _ (by omega),RI (by omega),CH _ _ aG,h.bl _ (by omega) (by omega)]
 have e5:∀ j,j<J.en.toNat→fR F j=fR S j:=fun j a6=>by unfold fR;rw [jR _ (by omega),RJ a6]
 have gg:∀ j,J.en.toNat+(bh t.length).toNat≤j→j<S.s.length→fR F j=z64:=fun j a6 lu=>by
  have:=h.bl j (by omega) lu
  unfold fR at this ⊢
  rw [jR _ (by omega),ahb (by omega)];exact this
 have fJ:=ac8 (c:=(bh t.length).toNat) hlen (by omega) e5
 have akB:((cH J.next t).length:Int)=bh t.length:=by rw [jw];omega
 have MI:=Ix h.wf (by have:=h.ok.aG;omega) ⟨aM,bA⟩ aY
 have vu:(J.en+((cH J.next t).length:Int)).toNat=J.en.toNat+(bh t.length).toNat:=by omega
 by_cases au:∀ i,i<(bh t.length).toNat→fR F (J.en.toNat+i)=sec J.next t i
 ·refine ⟨F,true,?_,?_,hlen,jR,⟨fun _=>au,fun _=>rfl⟩⟩
  ·rw [if_pos rfl]
   have j6:((List.range (bh t.length).toNat).map fun i=>c8 (fR F (J.en.toNat+i)))=nP J.next t:=List.map_congr_left fun i aG=>by
    have aG:=List.mem_range.1 aG
    rw [au i aG];exact zC ⟨kV,bA⟩ aM aG
   refine ⟨xV,ab,h.gZ,Iy h.wf MI ⟨aM,bA⟩,?_,?_,?_,?_⟩
   ·show J.en+((cH J.next t).length:Int)≤F.s.length
    omega
   ·intro x aL
    show x<J.next+1
    rcases List.mem_append.1 aL with aL | aL
    ·have:=h.lt x aL;omega
    ·have:x=J.next:=by simpa using aL
     omega
   ·intro Q
    show scan ((m9 F).take (J.en+((cH J.next t).length:Int)).toNat++Q) ([],[])=scan Q (J.nums++[J.next],J.tx++[t])
    rw [vu,fJ,j6,List.append_assoc,h.sc,afp aM]
    unfold qm
    rw [if_neg (fun hm=>by have:=h.lt _ hm;omega)]
   ·intro j a6 lu
    exact gg j (by rw [← vu];exact a6) (by omega)
  ·rw [hw,decide_eq_true]
   intro i aG
   rw [jw] at aG
   rw [CH _ _ aG];exact (au i aG).symm
 ·refine ⟨F,false,?_,?_,hlen,jR,⟨fun e=>(by cases e),fun e=>absurd e au⟩⟩
  ·rw [if_neg (by simp)]
   refine ⟨xV,ab,h.gZ,MI,?_,?_,?_,?_⟩
   ·show J.en+((cH J.next t).length:Int)≤F.s.length
    omega
   ·intro x aL
    show x<J.next+1
    have:=h.lt x aL;omega
   ·intro Q
    show scan ((m9 F).take (J.en+((cH J.next t).length:Int)).toNat++Q) ([],[])=scan Q (J.nums,J.tx)
    rw [vu,fJ,List.append_assoc,h.sc]
    have aL:∀ i,i<(bh t.length).toNat→c8 (fR F (J.en.toNat+i))=sp J.next t i∨(c8 (fR F (J.en.toNat+i))).ok=false:=fun i aG=>by
     rw [iB i aG]
     split
     ·right;rw [sy];rfl
     ·left;exact zC ⟨kV,bA⟩ aM aG
    obtain ⟨i,aG,fq⟩:∃ i,i<(bh t.length).toNat∧¬ fR F (J.en.toNat+i)=sec J.next t i:=by
     apply Classical.byContradiction
     intro il
     exact au fun i aG=>Classical.byContradiction fun he=>il ⟨i,aG,he⟩
    refine afn (n:=J.next) (t:=t) aM (y7 _ _) (fun i aG=>?_) (j:=i) (by rw [y7];exact aG) ?_
    ·rw [y7] at aG
     rw [yF _ aG];exact aL i aG
    ·rw [yF _ aG,iB i aG]
     rw [iB i aG] at fq
     split
     ·rw [sy];rfl
     ·rename_i tY;rw [if_neg tY] at fq;exact absurd rfl fq
   ·intro j a6 lu
    exact gg j (by rw [← vu];exact a6) (by omega)
  ·rw [hw,decide_eq_false]
   intro he
   refine au fun i aG=>?_
   have:=he i (by omega)
   rw [CH _ _ aG] at this;exact this.symm
theorem S9{l:List (List UInt8)}(h:∀ j,j<l.length→l.getD j []=z64):ug l=⟨[],[],[],1,0,false⟩:=by
 have h1:∀ k,k≤l.length→gC l k=[]∧gi l k=1∧gD l k=0:=by
  intro k
  induction k with
  | zero=>intro _;exact ⟨rfl,rfl,rfl⟩
  | succ k ih=>
   intro aD
   obtain ⟨fl,a2,a3⟩:=ih (by omega)
   have bj:=h k (by omega)
   refine ⟨by rw [gC,if_neg (fun e=>e.2 bj),fl],by rw [gi,a2,bj,sy];rfl,by rw [gD,if_pos bj,a3]⟩
 have aq:scan (l.map c8) ([],[])=([],[]):=Qh fun x aL=>by
  obtain ⟨s,hs,rfl⟩:=List.mem_map.1 aL
  obtain ⟨j,a6,rfl⟩:=BQ (d:=([]:List UInt8)) hs
  rw [h j a6,sy];rfl
 obtain ⟨fl,a2,a3⟩:=h1 l.length (Nat.le_refl _)
 unfold ug
 rw [aq,fl,a2,a3]
theorem B9{S:ao.aX}(U:Still S)(h:∀ j,j<S.s.length→fR S j=z64):eo S=⟨[],[],[],1,0,false⟩:=by
 unfold eo
 rw [H3 U]
 refine S9 fun j a6=>?_
 rw [y7] at a6
 rw [yF _ a6];exact h j a6
theorem W1{S:ao.aX}(bB:ao.Ok S)(U:Still S)(h:∀ j,j<S.s.length→fR S j=z64):wY S (eo S):=by
 rw [B9 U h]
 refine ⟨bB,U,rfl,⟨by decide,by decide,by decide,by decide,by decide,rfl,by decide,?_,?_,?_⟩,by show (0:Int)≤_;omega,?_,fun Q=>by show scan ([]++Q) _=_;rfl,fun j _ a6=>h j a6⟩
 ·intro x aL;cases aL
 ·intro x aL;cases aL
 ·intro x aL;cases aL
 ·intro x aL;cases aL
theorem W0{S:ao.aX}{J:dn}(h:wY S J):(eo S).nums=J.nums∧(eo S).tx=J.tx:=by
 have he:=h.en
 have e:(c4 S).map c8=(m9 S).take J.en.toNat++(m9 S).drop J.en.toNat:=by rw [af7 h.still,List.take_append_drop]
 have hs:scan ((m9 S).drop J.en.toNat) (J.nums,J.tx)=(J.nums,J.tx):=Qh fun x aL=>by
  obtain ⟨j,a6,rfl⟩:=BQ (d:=cu) aL
  rw [List.length_drop,ac7] at a6
  rw [List.getD_eq_getElem?_getD,List.getElem?_drop,← List.getD_eq_getElem?_getD]
  unfold m9
  rw [yF _ (by omega),h.bl _ (by omega) (by omega),sy];rfl
 unfold eo ug
 dsimp only
 rw [e,h.sc,hs]
 exact ⟨rfl,rfl⟩
theorem CN{n:Nat}:Still (ao.new n):=⟨rfl,rfl,fun x aL=>by rw [(List.mem_replicate.1 aL).2]⟩
theorem GU{n j:Nat}(h:j<n):fR (ao.new n) j=z64:=by
 unfold fR ao.new
 rw [List.getD_eq_getElem?_getD,List.getElem?_replicate,if_pos h];rfl
end aj
end
section
namespace aj
open Go Go.aJ
def p3(S:ao.aX):List (List UInt8):=(List.range S.s.length).map (fR S)
theorem CA{S:ao.aX}{j:Nat}(h:j<S.s.length):(p3 S).getD j []=fR S j:=yF _ h _
theorem aeH(S:ao.aX):(p3 S).length=S.s.length:=y7 _ _
theorem RV{l m:List (List UInt8)}:∀ k,(∀ j,j<k→l.getD j []=m.getD j [])→gi l k=gi m k∧gD l k=gD m k∧gC l k=gC m k
 | 0,_=>⟨rfl,rfl,rfl⟩
 | k+1,h=>by
  obtain ⟨h1,aq,aQ⟩:=RV k fun j a6=>h j (by omega)
  have aD:=h k (by omega)
  refine ⟨by rw [gi,gi,h1,aD],by rw [gD,gD,aq,aD],by rw [gC,gC,aQ,aD]⟩
theorem RW{l:List (List UInt8)}{a:Nat}{n:Int}{t:List UInt8}(bA:1≤n∧n≤4096)(aM:t.length≤8000):∀ k,k≤(bh t.length).toNat→(∀ i,i<k→l.getD (a+i) []=sec n t i) →
  gi l (a+k)=(if k=0 then gi l a else max (gi l a) (n+1))∧gD l (a+k)=(if k=0 then gD l a else (a:Int)+k)∧gC l (a+k)=gC l a
 | 0,_,_=>⟨rfl,rfl,rfl⟩
 | k+1,aD,h=>by
  obtain ⟨h1,aq,aQ⟩:=RW bA aM k (by omega) fun i aG=>h i (by omega)
  have hs:=h k (by omega)
  have hu:=zC bA aM (k:=k) (by omega)
  have bj:sec n t k≠z64:=Ap (by rw [hu])
  refine ⟨?_,?_,?_⟩
  ·rw [← Nat.add_assoc,gi,h1,hs,hu,if_neg (Nat.succ_ne_zero k)]
   dsimp only
   split <;> omega
  ·rw [← Nat.add_assoc,gD,hs,if_neg bj,if_neg (Nat.succ_ne_zero k)];omega
  ·rw [← Nat.add_assoc,gC,hs,hu,if_neg (fun e=>by cases e.1),aQ]
theorem RU{l:List (List UInt8)}{a:Nat}:∀ k,(∀ i,i<k→l.getD (a+i) []=z64)→gi l (a+k)=gi l a∧gD l (a+k)=gD l a∧gC l (a+k)=gC l a
 | 0,_=>⟨rfl,rfl,rfl⟩
 | k+1,h=>by
  obtain ⟨h1,aq,aQ⟩:=RU k fun i aG=>h i (by omega)
  have hs:=h k (by omega)
  have aY:=yK l a
  refine ⟨by rw [← Nat.add_assoc,gi,h1,hs,sy];show max _ (0+1)=_;omega,by rw [← Nat.add_assoc,gD,if_pos hs,aq],by rw [← Nat.add_assoc,gC,if_neg (fun e=>e.2 hs),aQ]⟩
structure qc (S:ao.aX) (J:dn):Prop where
 g:wY S J
 wn:∀ x∈S.s,x.wn=false
 bad:J.bad=[]
 sum:gi (p3 S) J.en.toNat=J.next∧gD (p3 S) J.en.toNat=J.en∧gC (p3 S) J.en.toNat=[]
 nums:J.nums=(List.range J.tx.length).map fun (i:Nat)=>(i:Int)+1
 next:J.next=J.tx.length+1
theorem KD{S:ao.aX}{J:dn}(h:qc S J):eo S=J:=by
 obtain ⟨h1,aq⟩:=W0 h.g
 have he:=h.g.en
 have ajR:=h.g.wf.bK
 obtain ⟨fl,a2,a3⟩:=h.sum
 obtain ⟨b6,dk,kz⟩:=RU (l:=p3 S) (a:=J.en.toNat) (S.s.length-J.en.toNat) fun i aG=>by rw [CA (by omega)];exact h.g.bl _ (by omega) (by omega)
 have e:J.en.toNat+(S.s.length-J.en.toNat)=S.s.length:=by omega
 rw [e] at b6 dk kz
 have er:c4 S=p3 S:=H3 h.g.still
 have c:=h.g.gZ
 have au:=h.bad
 unfold eo ug at h1 aq ⊢
 dsimp only at h1 aq
 rw [er] at h1 aq ⊢
 rw [h1,aq,aeH,b6,dk,kz,fl,a2,a3]
 cases J
 simp_all
theorem UW{n:Nat}(h1:1≤n)(aq:n≤4096):qc (ao.new n) (eo (ao.new n)):=by
 have hl:(ao.new n).s.length=n:=ao.vR n
 have au:∀ j,j<(ao.new n).s.length→fR (ao.new n) j=z64:=fun j a6=>GU (by omega)
 have aO:=W1 (ao.G1 h1 aq) CN au
 rw [B9 CN au] at aO ⊢
 exact ⟨aO,fun x aL=>by rw [(List.mem_replicate.1 aL).2],rfl,⟨rfl,rfl,rfl⟩,rfl,rfl⟩
theorem UU{S:ao.aX}{J:dn}(h:qc S J){t:List UInt8}(aM:t.length≤8000)(bA:J.next≤4096)(aY:¬ room J S<bh t.length) :
  ∃ F,qc F (iS J t)∧gn S J.en (cH J.next t)=(F,0,true)∧F.s.length=S.s.length:=by
 obtain ⟨F,b,fG,hw,hlen,jR,au⟩:=WZ h.g aM bA aY
 have kV:=h.g.wf.lY
 have Ym:=h.g.wf.bK
 have h6:=nW t.length
 have aS:=xz aM
 have jw:=p6 J.next t
 have fH:=aY
 unfold room at fH
 have hi:∀ i,i<(bh t.length).toNat→fR F (J.en.toNat+i)=sec J.next t i:=fun i aG=>by
  have ZS:(S.s.getD (J.en.toNat+i) ao.cG).wn=false:=h.wn _ (ao.jE (by omega))
  unfold fR
  rw [jR _ (by omega),RI (by omega),ZS,if_neg (by simp),CH _ _ aG]
 have X3:=au.2 hi
 subst X3
 rw [if_pos rfl] at fG
 refine ⟨F,⟨fG,fun x aL=>?_,h.bad,?_,?_,?_⟩,hw,hlen⟩
 ·obtain ⟨j,a6,rfl⟩:=BQ (d:=ao.cG) aL
  rw [jR j (by omega)]
  unfold oA
  have cn:(S.s.getD j ao.cG).wn=false:=h.wn _ (ao.jE (by omega))
  split
  ·exact cn
  ·exact cn
 ·obtain ⟨fl,a2,a3⟩:=h.sum
  obtain ⟨ht,hH,Tp⟩:=RV (l:=p3 F) (m:=p3 S) J.en.toNat fun j a6=>by
   rw [CA (by omega),CA (by omega)];unfold fR;rw [jR j (by omega),RJ a6]
  obtain ⟨d1,d2,d3⟩:=RW (l:=p3 F) (a:=J.en.toNat) ⟨kV,bA⟩ aM (bh t.length).toNat (Nat.le_refl _) fun i aG=>by rw [CA (by omega)];exact hi i aG
  have vu:(J.en+((cH J.next t).length:Int)).toNat=J.en.toNat+(bh t.length).toNat:=by omega
  have bK:(iS J t).en=J.en+((cH J.next t).length:Int):=rfl
  have bV:(iS J t).next=J.next+1:=rfl
  rw [bK,bV,vu,d1,d2,d3,ht,Tp,fl,a3,if_neg (by omega),if_neg (by omega)]
  exact ⟨by omega,by omega,rfl⟩
 ·show J.nums++[J.next]=(List.range (J.tx++[t]).length).map fun (i:Nat)=>(i:Int)+1
  rw [List.length_append,List.length_singleton,List.range_succ,List.map_append,h.nums,h.next];rfl
 ·show J.next+1=((J.tx++[t]).length:Int)+1
  rw [List.length_append,List.length_singleton,h.next];omega
end aj
end
section
namespace aj
open Go Go.aJ
def agn(x:List UInt8)(p:Nat):List UInt8:=x.take p++z64.drop p
structure air (S M:ao.aX) (a:Nat) (l:List (List UInt8)) (p:Nat→Nat):Prop where
 ok:ao.Ok M
 still:Still M
 len:M.s.length=S.s.length
 out:∀ j,j<S.s.length→(j<a∨a+l.length≤j)→fR M j=fR S j
 ins:∀ i,i<l.length→fR M (a+i)=agn (l.getD i []) (p i)
 alY:∀ i,p i≤64
end aj
end
section
namespace aj
open Go Go.aJ
def LG(T:List (List UInt8))(s:List UInt8):Prop:=
 (c8 s).ok=true→(c8 s).n≤T.length∧(pack (c8 s).n (T.getD ((c8 s).n-1).toNat [])).2=0∧(c8 s).p<(pack (c8 s).n (T.getD ((c8 s).n-1).toNat [])).1.length∧(pack (c8 s).n (T.getD ((c8 s).n-1).toNat [])).1.getD (c8 s).p.toNat []=s
end aj
namespace aj
end aj
end
section
namespace aj
open Go Go.aJ
def oB(PS:List Part)(m i:Nat):Bool:=sA (PS.drop m)&&hA (f0 (PS.drop m)) 0 ((PS.drop m).take i)
def p9(PS:List Part)(m i:Nat):List UInt8:=mM ((PS.drop m).take i)
theorem Kh(PS:List Part)(m i:Nat):(PS.drop m).getD i cu=PS.getD (m+i) cu:=by
 rw [List.getD_eq_getElem?_getD,List.getElem?_drop,List.getD_eq_getElem?_getD]
theorem ahh{PS:List Part}{m:Nat}(hm:m≤PS.length):(((PS.getD m cu).ok&&decide ((PS.getD m cu).p=0))&&decide ((m:Int)+bh (PS.getD m cu).l≤(PS.length:Int)))=oB PS m 0:=by
 unfold oB sA
 rw [List.take_zero,nZ,List.length_drop,show hA (PS.getD m cu) 0 []=true from rfl,Bool.and_true]
 congr 1
 exact decide_eq_decide.2 ⟨fun h=>by omega,fun h=>by omega⟩
theorem ahf{PS:List Part}{m i:Nat}(h:oB PS m i=true)(aG:(i:Int)<bh (PS.getD m cu).l)(hm:m≤PS.length):m+i<PS.length:=by
 simp only [oB,sA,Bool.and_eq_true,decide_eq_true_eq] at h
 have:=h.1.2
 rw [nZ,List.length_drop] at this
 omega
theorem ahi{PS:List Part}{m i:Nat}(h:oB PS m i=true)(aG:m+i<PS.length):mt (PS.getD m cu) i (PS.getD (m+i) cu)=oB PS m (i+1):=by
 unfold oB at h ⊢
 rw [Bool.and_eq_true] at h
 rw [nb (d:=cu) (by rw [List.length_drop];omega),BW,h.1,h.2,nZ,Kh,List.length_take,List.length_drop,Nat.min_eq_left (by omega),Nat.zero_add];rfl
theorem agD{PS:List Part}{m i:Nat}(aG:m+i<PS.length):p9 PS m i++(PS.getD (m+i) cu).t=p9 PS m (i+1):=by
 unfold p9
 rw [QO (by rw [List.length_drop];omega),Kh]
theorem agB(PS:List Part)(m:Nat):p9 PS m 0=[]:=rfl
theorem agC{PS:List Part}(h:∀ x∈PS,oJ x)(m i:Nat):(p9 PS m i).length≤48*i:=by
 have:=Ic (l:=(PS.drop m).take i) fun x aL=>h x (List.mem_of_mem_drop (List.mem_of_mem_take aL))
 rw [List.length_take] at this
 unfold p9;omega
theorem Ef{PS:List Part}{m:Nat}(h:m<PS.length):PS.drop m≠[]:=fun e=>by
 have:=congrArg List.length e
 rw [List.length_drop] at this
 have:PS.length-m=0:=this
 omega
theorem ahj{PS:List Part}{m i:Nat}(hm:m<PS.length)(hl:oJ (PS.getD m cu))(h:oB PS m i=true)(h1:¬ (i:Int)<bh (PS.getD m cu).l)(aq:(i:Int)≤bh (PS.getD m cu).l):fX (PS.drop m)=some (p9 PS m i,i)∧(i:Int)=bh (PS.getD m cu).l:=by
 have he:(i:Int)=bh (PS.getD m cu).l:=by omega
 refine ⟨?_,he⟩
 obtain ⟨_,_,aQ,_⟩:=hl
 exact aes (Ef hm) (by rw [nZ];exact AA aQ) h (by rw [nZ];exact he)
theorem ahg{PS:List Part}{m i:Nat}(hm:m<PS.length)(h:oB PS m i=false)(aq:(i:Int)≤bh (PS.getD m cu).l):fX (PS.drop m)=none:=
 aer (Ef hm) h (by rw [nZ];exact aq)
theorem B4{l:List (List UInt8)}{k:Nat}(h:gi l k≤(c8 (l.getD k [])).n):gi l (k+1)=(c8 (l.getD k [])).n+1:=by rw [gi];omega
theorem B3{l:List (List UInt8)}{k:Nat}(h:¬ gi l k≤(c8 (l.getD k [])).n):gi l (k+1)=gi l k:=by rw [gi];omega
theorem OA{R:List (List UInt8)}{k m:Nat}(h:m<(ep R k).length):oJ ((ep R k).getD m cu):=vW _ (by
 rw [List.getD_eq_getElem?_getD,List.getElem?_eq_getElem h];exact List.getElem_mem h)
end aj
end
section
namespace aj
open Go Go.aJ
def jj:List UInt8:=[1,0,0,0,0,0,1,0,97,0,0,0,0,0,0,0,0,0,0,0,0,0,0,0,0,0,0,0,0,0,0,0,0,0,0,0,0,0,0,0,0,0,0,0,0,0,0,0,0,0,0,0,0,0,0,0,84,154,118,26,131,73,143,214]
def zU:List UInt8:=[2,0,0,0,0,0,50,0,120,120,120,120,120,120,120,120,120,120,120,120,120,120,120,120,120,120,120,120,120,120,120,120,120,120,120,120,120,120,120,120,120,120,120,120,120,120,120,120,120,120,120,120,120,120,120,120,172,130,184,27,18,198,7,61]
def jk:List UInt8:=[2,0,0,0,1,0,2,0,120,120,0,0,0,0,0,0,0,0,0,0,0,0,0,0,0,0,0,0,0,0,0,0,0,0,0,0,0,0,0,0,0,0,0,0,0,0,0,0,0,0,0,0,0,0,0,0,208,101,239,173,36,191,246,241]
def zV:List UInt8:=[3,0,0,0,0,0,1,0,98,0,0,0,0,0,0,0,0,0,0,0,0,0,0,0,0,0,0,0,0,0,0,0,0,0,0,0,0,0,0,0,0,0,0,0,0,0,0,0,0,0,0,0,0,0,0,0,57,239,201,0,98,120,49,119]
def k9:List UInt8:=[2,0,0,0,0,0,50,0,56,120,120,120,120,120,120,120,120,120,120,120,120,120,120,120,120,120,120,120,120,120,120,120,120,120,120,120,120,120,120,120,120,120,120,120,120,120,120,120,120,120,120,120,120,120,120,120,172,130,184,27,18,198,7,61]
def wT:List UInt8:=List.replicate 50 120
theorem Qc:sec 1 [97] 0=jj:=by decide +kernel
theorem afh:sec 2 wT 0=zU:=by decide +kernel
theorem Qe:sec 2 wT 1=jk:=by decide +kernel
theorem afi:sec 3 [98] 0=zV:=by decide +kernel
theorem Ii:c8 k9=cu:=q4 (by decide +kernel)
end aj
end
section
namespace aj
open Go Go.aJ
def lX(x:List UInt8):ao.ee:=⟨x,[],false,false⟩
def Df:ao.aX:=ao.new 4
def Dg:ao.aX:=⟨[lX jj,lX z64,lX z64,lX z64],false, -1⟩
def RX:ao.aX:=⟨[lX jj,lX zU,lX jk,lX z64],false, -1⟩
def Dh:ao.aX:=⟨[lX jj,lX k9,lX jk,lX z64],false, -1⟩
def Di:ao.aX:=⟨[lX jj,lX k9,lX jk,lX zV],false, -1⟩
def RR:dn:=⟨[],[],[],1,0,false⟩
def RS:dn:=⟨[1],[[97]],[],2,1,false⟩
def ahy:dn:=⟨[1,2],[[97],wT],[],3,3,false⟩
def RT:dn:=⟨[1],[[97]],[1],3,3,false⟩
def IF:dn:=⟨[1,3],[[97],[98]],[1],4,4,false⟩
theorem DM{J:dn}{S F:ao.aX}{t:List UInt8}{l:List (List UInt8)}(bu:J.gZ=false)(aM:t.length≤8000)(bA:J.next≤4096)(aY:¬ room J S<bh t.length)(hs:cH J.next t=l)(hw:gn S J.en l=(F,0,true)) :
  app J S t=(⟨J.nums++[J.next],J.tx++[t],J.bad,J.next+1,J.en+l.length,J.gZ⟩,F,J.next,0):=by
 rw [rl (by rw [bu];simp) ⟨aM,bA⟩ aY (by rw [hs,hw]) (by rw [hs,hw];simp),hs,hw]
 unfold iS
 rw [hs]
theorem ea:cH 1 [97]=[jj]:=by rw [← Qc];rfl
theorem aas:cH 2 wT=[zU,jk]:=by rw [← afh,← Qe];rfl
theorem aat:cH 3 [98]=[zV]:=by rw [← afi];rfl
theorem uI:gn Df 0 [jj]=(Dg,0,true):=by kernel_rfl
theorem lJ:gn Dg 1 [zU,jk]=(RX,0,true):=by kernel_rfl
theorem wO:gn Dh 3 [zV]=(Di,0,true):=by kernel_rfl
theorem uf:eo Df=RR:=B9 CN fun j a6=>GU (by rw [show Df.s.length=4 from rfl] at a6;exact a6)
theorem fl:app RR Df [97]=(RS,Dg,1,0):=DM (l:=[jj]) rfl (by decide) (by decide) (by decide) ea uI
theorem a2:app RS Dg wT=(ahy,RX,2,0):=DM (l:=[zU,jk]) rfl (by decide) (by decide) (by decide) aas lJ
theorem a3:app RT Dh [98]=(IF,Di,3,0):=DM (l:=[zV]) rfl (by decide) (by decide) (by decide) aat wO
theorem a4:app IF Di [99]=(IF,Di,0,22):=s0 (by decide) (by decide) (by decide)
theorem Ih:c8 jj=⟨1,0,1,[97],true⟩:=by
 have:=zC (n:=1) (by decide) (t:=[97]) (by decide) (k:=0) (by decide)
 rw [Qc] at this
 rw [this];rfl
theorem CW:c8 jk=⟨2,1,2,[120,120],true⟩:=by
 have:=zC (n:=2) (by decide) (t:=wT) (by decide) (k:=1) (by decide)
 rw [Qe] at this
 rw [this];rfl
theorem eL:c4 Dh=[jj,k9,jk,z64]:=by kernel_rfl
theorem ki:eo Dh=RT:=by
 unfold eo
 rw [eL]
 have e8:gC [jj,k9,jk,z64] 1=[]:=qs (by show ¬ ((c8 jj).ok=false∧jj≠z64);rw [Ih];simp)
 have gu:gC [jj,k9,jk,z64] 2=[1]:=by rw [s3 (by show (c8 k9).ok=false∧k9≠z64;rw [Ii];exact ⟨rfl,by decide⟩),e8];rfl
 have pJ:gC [jj,k9,jk,z64] 3=[1]:=by rw [qs (by show ¬ ((c8 jk).ok=false∧jk≠z64);rw [CW];simp),gu]
 have XY:gC [jj,k9,jk,z64] 4=[1]:=by rw [qs (by show ¬ ((c8 z64).ok=false∧z64≠z64);simp),pJ]
 have kV:gi [jj,k9,jk,z64] 1=2:=by show max 1 ((c8 jj).n+1)=2;rw [Ih];rfl
 have oZ:gi [jj,k9,jk,z64] 2=2:=by rw [ue,kV];show max 2 ((c8 k9).n+1)=2;rw [Ii];rfl
 have yf:gi [jj,k9,jk,z64] 3=3:=by rw [ue,oZ];show max 2 ((c8 jk).n+1)=3;rw [CW];rfl
 have Y0:gi [jj,k9,jk,z64] 4=3:=by rw [ue,yf];show max 3 ((c8 z64).n+1)=3;rw [sy];rfl
 have Yn:gD [jj,k9,jk,z64] 4=3:=by
  rw [ta (by rfl),s9 (by show jk≠z64;exact Ap (by rw [CW]))];rfl
 have bN:[jj,k9,jk,z64].map c8=[⟨1,0,1,[97],true⟩,cu,⟨2,1,2,[120,120],true⟩,cu]:=by
  rw [List.map_cons,List.map_cons,List.map_cons,List.map_cons,List.map_nil,Ih,Ii,CW,sy]
 have hs:scan [⟨1,0,1,[97],true⟩,cu,⟨2,1,2,[120,120],true⟩,cu] ([],[])=([1],[[97]]):=by kernel_rfl
 unfold ug
 rw [bN,hs,show [jj,k9,jk,z64].length=4 from rfl,XY,Y0,Yn];rfl
end aj
namespace aj
end aj
end
