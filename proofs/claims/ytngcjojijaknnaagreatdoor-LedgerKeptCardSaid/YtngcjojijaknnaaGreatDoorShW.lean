/- walks and plain laws -/
import Derived.Test.YtngcjojijaknnaaGreatDoorFwA
import Derived.Test.YtngcjojijaknnaaGreatDoorFwB
import Derived.Test.YtngcjojijaknnaaGreatDoorFwD
import Derived.Test.YtngcjojijaknnaaGreatDoorGuA
set_option linter.all false
section
/- SHA-256 in plain words: what the walks compute, and that it is one thing. -/
namespace Go.aK
namespace aL
def eH:List UInt32:=[1116352408,1899447441,3049323471,3921009573,961987163,1508970993,2453635748,2870763221,3624381080,310598401,607225278,1426881987,1925078388,2162078206,2614888103,3248222580,3835390401,4022224774,264347078,604807628,770255983,1249150122,1555081692,1996064986,2554220882,2821834349,2952996808,3210313671,3336571891,3584528711,113926993,338241895,666307205,773529912,1294757372,1396182291,1695183700,1986661051,2177026350,2456956037,2730485921,2820302411,3259730800,3345764771,3516065817,3600352804,4094571909,275423344,430227734,506948616,659060556,883997877,958139571,1322822218,1537002063,1747873779,1955562222,2024104815,2227730452,2361852424,2428436474,2756734187,3204031479,3329325298]
def jy(x:UInt32)(n:UInt32):UInt32:=(x >>> n) ||| (x <<< (32-n))
def word(b:List UInt8)(t:Nat):UInt32:=
 ((b.getD (4*t) 0).toUInt32 <<< 24) ||| ((b.getD (4*t+1) 0).toUInt32 <<< 16) ||| ((b.getD (4*t+2) 0).toUInt32 <<< 8) ||| (b.getD (4*t+3) 0).toUInt32
def b3(x:UInt32):UInt32:=jy x 7 ^^^ jy x 18 ^^^ (x >>> 3)
def s1(x:UInt32):UInt32:=jy x 17 ^^^ jy x 19 ^^^ (x >>> 10)
def h3(b:List UInt8):Nat→List UInt32
 | 0=>[]
 | t+1=>let w:=h3 b t;w++[if t<16 then word b t else w.getD (t-16) 0+b3 (w.getD (t-15) 0)+w.getD (t-7) 0+s1 (w.getD (t-2) 0)]
abbrev uh:=UInt32×UInt32×UInt32×UInt32×UInt32×UInt32×UInt32×UInt32
def Vb(e:UInt32):UInt32:=jy e 6 ^^^ jy e 11 ^^^ jy e 25
def Va(a:UInt32):UInt32:=jy a 2 ^^^ jy a 13 ^^^ jy a 22
def RQ(s:uh)(k w:UInt32):uh:=
 match s with
 | (a,b,c,d,e,f,g,h)=>
  let x:=h+Vb e+((e &&& f) ^^^ (~~~e &&& g))+k+w
  let y:=Va a+((a &&& b) ^^^ (a &&& c) ^^^ (b &&& c))
  (x+y,a,b,c,d+x,e,f,g)
def rounds(ws:List UInt32)(s:uh):Nat→uh
 | 0=>s
 | t+1=>RQ (rounds ws s t) (eH.getD t 0) (ws.getD t 0)
def Db(s:uh):List UInt32:=match s with | (a,b,c,d,e,f,g,h)=>[a,b,c,d,e,f,g,h]
def ahs(l:List UInt32):uh:=(l.getD 0 0,l.getD 1 0,l.getD 2 0,l.getD 3 0,l.getD 4 0,l.getD 5 0,l.getD 6 0,l.getD 7 0)
def comp(s:List UInt32)(b:List UInt8):List UInt32:=List.zipWith (· + ·) s (Db (rounds (h3 b 64) (ahs s) 64))
def init:List UInt32:=[0x6a09e667,0xbb67ae85,0x3c6ef372,0xa54ff53a,0x510e527f,0x9b05688c,0x1f83d9ab,0x5be0cd19]
structure kF where
 st:List UInt32
 bl:List UInt8
 n:UInt64
def um(s:kF)(c:UInt8):kF:=
 let bl:=s.bl.set (s.n.toNat%64) c
 { st:=if s.n.toNat%64=63 then comp s.st bl else s.st,bl:=bl,n:=s.n+1 }
def gj(s:kF)(t:List UInt8):kF:=t.foldl um s
def jS:kF:=⟨init,List.replicate 64 0,0⟩
def nA(n:UInt64):List UInt8:=(List.range 8).map fun i=>UInt8.ofNat (n.toNat/2^(56-8*i))
def hE(n:Nat):Nat:=(119-n%64)%64
def pad(n:UInt64):List UInt8:=128::(List.replicate (hE n.toNat) 0++nA (8*n))
def tm(st:List UInt32):List UInt8:=(List.range 32).map fun i=>UInt8.ofNat ((st.getD (i/4) 0).toNat/2^(24-8*(i%4)))
def fin(s:kF):List UInt8:=tm (gj s (pad s.n)).st
def sum(m:List UInt8):List UInt8:=fin (gj jS m)
theorem mM(b:List UInt8):∀ t,(h3 b t).length=t
 | 0=>rfl
 | t+1=>by simp [h3,mM b t]
theorem BZ(s:List UInt32)(b:List UInt8)(h:s.length=8):(comp s b).length=8:=by
 simp [comp,h,Db]
def rotl(x:UInt32)(k:Int):UInt32:=lL ((x.toNat:Int)*2^(min (((dA k &&& 31).toNat:Int)).toNat 32)) ||| UInt32.ofNat (x.toNat/2^(min (((32:UInt64)-(dA k &&& 31)).toNat:Int).toNat 32))
theorem xQ(x:UInt32)(k:Nat)(aE:k<32):lL ((x.toNat:Int)*2^k)=x <<< UInt32.ofNat k:=by
 apply UInt32.toNat_inj.1
 have h1:=Dw ((x.toNat:Int)*2^k)
 have ar:(UInt32.ofNat k).toNat=k:=by rw [UInt32.toNat_ofNat'];exact Nat.mod_eq_of_lt ag
 rw [UInt32.toNat_shiftLeft,ar,Nat.mod_eq_of_lt aE,Nat.shiftLeft_eq]
 have aQ:((x.toNat:Int)*2^k)=((x.toNat*2^k:Nat):Int):=by simp
 rw [aQ] at h1 ⊢
 omega
theorem D3(x:UInt32)(k:Nat)(aE:k<32):UInt32.ofNat (x.toNat/2^k)=x >>> UInt32.ofNat k:=by
 apply UInt32.toNat_inj.1
 have ar:(UInt32.ofNat k).toNat=k:=by rw [UInt32.toNat_ofNat'];exact Nat.mod_eq_of_lt ag
 rw [UInt32.toNat_shiftRight,ar,Nat.mod_eq_of_lt aE,Nat.shiftRight_eq_div_pow,UInt32.toNat_ofNat']
 have:=Nat.div_le_self x.toNat (2^k)
 have:=x.toNat_lt
 exact Nat.mod_eq_of_lt ag
theorem yR(c:UInt8):lL (c.toNat:Int)=c.toUInt32:=by
 apply UInt32.toNat_inj.1
 have h1:=Dw (c.toNat:Int)
 have:=c.toNat_lt
 rw [UInt8.toNat_toUInt32]
 omega
theorem Jf(x:UInt32)(k:Nat)(h1:0<k)(ar:k<32):rotl x (-(k:Int))=jy x (UInt32.ofNat k):=by
 have bL:((dA (-(k:Int)) &&& 31).toNat)=32-k:=by
  have aQ:=nb (-(k:Int))
  rw [UInt64.toNat_and]
  have bF:(dA (-(k:Int))).toNat=18446744073709551616-k:=by omega
  rw [bF,show (31:UInt64).toNat=2^5-1 from rfl,Nat.and_two_pow_sub_one_eq_mod]
  omega
 have bT:(((32:UInt64)-(dA (-(k:Int)) &&& 31)).toNat)=k:=by
  rw [UInt64.toNat_sub,bL,show (32:UInt64).toNat=32 from rfl]
  omega
 unfold rotl jy
 rw [bL,bT,Int.toNat_natCast,Int.toNat_natCast,Nat.min_eq_left ag,Nat.min_eq_left ag,xQ x _ ag,D3 x k ar,UInt32.or_comm]
 congr 1
 congr 1
 apply UInt32.toNat_inj.1
 rw [UInt32.toNat_sub,UInt32.toNat_ofNat',UInt32.toNat_ofNat',show (32:UInt32).toNat=32 from rfl]
 omega
def sm(b:List UInt8)(t:Nat):Nat→UInt32
 | 0=>0
 | j+1=>(sm b t j <<< 8) ||| (b.getD (4*t+j) 0).toUInt32
theorem K8(b:List UInt8)(t:Nat):sm b t 4=word b t:=by
 simp only [sm,word,Nat.add_zero]
 apply UInt32.toBitVec_inj.1
 have L5:(8:UInt32).toBitVec%32#32=8#32:=by decide
 have WA:(24:UInt32).toBitVec%32#32=24#32:=by decide
 have Wv:(16:UInt32).toBitVec%32#32=16#32:=by decide
 have jU:(0:UInt32).toBitVec=0#32:=rfl
 simp only [UInt32.toBitVec_or,UInt32.toBitVec_shiftLeft,L5,WA,Wv,jU]
 simp [BitVec.shiftLeft_or_distrib,← BitVec.shiftLeft_add]
def gz(b:List UInt8)(t:Nat):List UInt32:=h3 b t++List.replicate (64-t) 0
def mg(b:List UInt8)(t j:Nat):List UInt32:=h3 b t++(sm b t j::List.replicate (63-t) 0)
theorem Jy(b:List UInt8)(t:Nat)(h:t≤64):(gz b t).length=64:=by simp [gz,mM];omega
theorem ahB(b:List UInt8)(t j:Nat)(h:t<64):(mg b t j).length=64:=by simp [mg,mM];omega
theorem Jx(b:List UInt8)(t:Nat)(h:t<64):gz b t=mg b t 0:=by
 unfold gz mg sm
 rw [show 64-t=(63-t)+1 by omega,List.replicate_succ]
theorem ahA(b:List UInt8)(t j:Nat):(mg b t j).getD t 0=sm b t j:=by
 simp [mg,mM]
theorem ahC(b:List UInt8)(t j:Nat)(x:UInt32)(aM:x=sm b t (j+1)):(mg b t j).set t x=mg b t (j+1):=by
 subst aM
 unfold mg
 rw [List.set_append_right _ _ (by rw [mM];exact Nat.le_refl _),mM,Nat.sub_self,List.set_cons_zero]
theorem Sj(b:List UInt8)(t:Nat)(h:t<16):mg b t 4=gz b (t+1):=by
 unfold mg gz
 rw [K8,h3]
 simp only [if_pos h,List.append_assoc,List.cons_append,List.nil_append]
 rw [show 64-(t+1)=63-t by omega]
theorem D2(b:List UInt8)(t k:Nat)(h:k<t):(gz b t).getD k 0=(h3 b t).getD k 0:=by
 unfold gz
 simp only [List.getD_eq_getElem?_getD]
 rw [List.getElem?_append_left (by rw [mM];exact h)]
theorem ahD(b:List UInt8)(t:Nat)(h1:16≤t)(ar:t<64)(x:UInt32)
  (aM:x=(h3 b t).getD (t-16) 0+b3 ((h3 b t).getD (t-15) 0)+(h3 b t).getD (t-7) 0+s1 ((h3 b t).getD (t-2) 0)):(gz b t).set t x=gz b (t+1):=by
 subst aM
 rw [Jx b t ar]
 unfold mg gz
 rw [List.set_append_right _ _ (by rw [mM];exact Nat.le_refl _),mM,Nat.sub_self,List.set_cons_zero,h3]
 simp only [if_neg (show ¬ t<16 by omega),List.append_assoc,List.cons_append,List.nil_append]
 rw [show 64-(t+1)=63-t by omega]
theorem Sk(b:List UInt8):gz b 64=h3 b 64:=by simp [gz]
theorem UI(bb:List UInt8)(t j:Int)(h0:0≤t)(h1:t<16)(ar:0≤j)(aQ:j<4)(hl:bb.length=64) :
  (mg bb t.toNat j.toNat).set t.toNat (lL (((mg bb t.toNat j.toNat).getD t.toNat 0).toNat*2^min (Int.toNat 8) 32) ||| lL (((List.drop (4*t).toNat (List.take (4*t+4).toNat bb)).getD j.toNat 0).toNat:Int))=mg bb t.toNat (j+1).toNat:=by
 obtain ⟨t,rfl⟩:=Int.eq_ofNat_of_zero_le h0
 obtain ⟨j,rfl⟩:=Int.eq_ofNat_of_zero_le ar
 simp only [Int.toNat_natCast]
 rw [show ((j:Int)+1).toNat=j+1 by omega,show (4*(t:Int)).toNat=4*t by omega,show (4*(t:Int)+4).toNat=4*t+4 by omega,show min (Int.toNat 8) 32=8 from rfl]
 refine ahC bb t j _ ?_
 rw [ahA,xQ _ 8 ag,yR,sm]
 congr 2
 simp only [List.getD_eq_getElem?_getD]
 rw [List.getElem?_drop,List.getElem?_take,if_pos ag]
theorem Sl(bb:List UInt8)(t:Int)(h1:16≤t)(ar:t<64) :
  ((gz bb t.toNat).set t.toNat ((gz bb t.toNat).getD (t-16).toNat 0+(rotl ((gz bb t.toNat).getD (t-15).toNat 0) (-7) ^^^ rotl ((gz bb t.toNat).getD (t-15).toNat 0) (-18) ^^^ UInt32.ofNat (((gz bb t.toNat).getD (t-15).toNat 0).toNat/2^min (Int.toNat 3) 32))+(gz bb t.toNat).getD (t-7).toNat 0 +
   (rotl ((gz bb t.toNat).getD (t-2).toNat 0) (-17) ^^^ rotl ((gz bb t.toNat).getD (t-2).toNat 0) (-19) ^^^ UInt32.ofNat (((gz bb t.toNat).getD (t-2).toNat 0).toNat/2^min (Int.toNat 10) 32))))=gz bb (t+1).toNat:=by
 obtain ⟨t,rfl⟩:=Int.eq_ofNat_of_zero_le (show 0≤t by omega)
 simp only [Int.toNat_natCast]
 rw [show ((t:Int)+1).toNat=t+1 by omega,show ((t:Int)-16).toNat=t-16 by omega,show ((t:Int)-15).toNat=t-15 by omega,show ((t:Int)-7).toNat=t-7 by omega,show ((t:Int)-2).toNat=t-2 by omega,show min (Int.toNat 3) 32=3 from rfl,show min (Int.toNat 10) 32=10 from rfl]
 refine ahD bb t ag ag _ ?_
 rw [D2 bb t _ ag,D2 bb t _ ag,D2 bb t _ ag,D2 bb t _ ag,D3 _ 3 ag,D3 _ 10 ag]
 have e:=Jf
 have WC:=fun x=>e x 7 ag ag
 have Wx:=fun x=>e x 18 ag ag
 have Ww:=fun x=>e x 17 ag ag
 have Wy:=fun x=>e x 19 ag ag
 unfold b3 s1
 rw [show (-7:Int) = -((7:Nat):Int) from rfl,show (-18:Int) = -((18:Nat):Int) from rfl,show (-17:Int) = -((17:Nat):Int) from rfl,show (-19:Int) = -((19:Nat):Int) from rfl,WC,Wx,Ww,Wy]
 rfl
def Ek(ss fin:List UInt32)(i:Nat):List UInt32:=(List.range 8).map fun j=>if j%4<i then ss.getD j 0+fin.getD j 0 else ss.getD j 0
theorem Ta(ss fin:List UInt32)(i:Nat):(Ek ss fin i).length=8:=by simp [Ek]
theorem Ph{l:List UInt32}(h:l.length=8):∃ a b c d e f g k,l=[a,b,c,d,e,f,g,k]:=by
 match l,h with
 | [a,b,c,d,e,f,g,k],_=>exact ⟨a,b,c,d,e,f,g,k,rfl⟩
theorem adT(x:UInt32)(i j k:Int)(aH:0<i∧i<32)(aV:0<j∧j<32)(aE:0<k∧k<32) :
  rotl x (-i) ^^^ rotl x (-j) ^^^ rotl x (-k)=jy x (UInt32.ofNat i.toNat) ^^^ jy x (UInt32.ofNat j.toNat) ^^^ jy x (UInt32.ofNat k.toNat):=by
 have e:=fun (n:Int) (h:0<n∧n<32)=>Jf x n.toNat ag ag
 have bL:=e i aH
 have bT:=e j aV
 have fm:=e k aE
 rw [Int.toNat_of_nonneg ag] at bL bT fm
 rw [bL,bT,fm]
theorem rounds_succ(ws:List UInt32)(s:uh)(i:Int)(h:0≤i):rounds ws s (i+1).toNat=RQ (rounds ws s i.toNat) (eH.getD i.toNat 0) (ws.getD i.toNat 0):=by
 rw [show (i+1).toNat=i.toNat+1 by omega]
 rfl
end aL
end Go.aK
end
section
namespace Go.aK
namespace aL
theorem UZ(n:UInt64):oB (n%64)=((n.toNat%64:Nat):Int):=by
 have h:(n%64).toNat=n.toNat%64:=by simp
 unfold oB
 rw [h]
 split <;> omega
theorem Lj(n:UInt64)(m:Nat):(n+dA (m:Int)).toNat%64=(n.toNat%64+m)%64:=by
 have h1:=nb (m:Int)
 rw [UInt64.toNat_add]
 omega
theorem yF(s:kF)(a b:List UInt8):gj s (a++b)=gj (gj s a) b:=by simp [gj]
theorem UL(s:kF)(a:List UInt8)(c:UInt8):gj s (a++[c])=um (gj s a) c:=by simp [gj]
theorem ahO(l:List UInt8)(v:List UInt8)(q:Nat)(c:UInt8)(h:q+v.length<l.length) :
  (l.take q++(v++l.drop (q+v.length))).set (q+v.length) c=l.take q++((v++[c])++l.drop (q+(v++[c]).length)):=by
 have e:(l.take q).length=q:=by simp;omega
 rw [List.set_append_right _ _ ag,e,Nat.add_sub_cancel_left,List.set_append_right _ _ ag,Nat.sub_self,List.append_assoc]
 congr 2
 rw [List.drop_eq_getElem_cons h]
 simp [Nat.add_assoc]
theorem P7(a b:Nat):dA ((a+b:Nat):Int)=dA (a:Int)+dA (b:Int):=by
 apply UInt64.toNat.inj
 rw [UInt64.toNat_add]
 have h1:=nb ((a+b:Nat):Int)
 have ar:=nb (a:Int)
 have aQ:=nb (b:Int)
 omega
theorem Lc(s:kF)(q:Nat)(ch:s.n.toNat%64=q)(fo:s.bl.length=64):∀ (m:Nat) (u:List UInt8),u.length=m→q+m≤64 →
  gj s u=⟨if q+m=64 then comp s.st (s.bl.take q++(u++s.bl.drop (q+m))) else s.st,s.bl.take q++(u++s.bl.drop (q+m)),s.n+dA (m:Int)⟩:=by
 intro m
 induction m with
 | zero=>
  intro u hu hm
  have w4:q<64:=by omega
  have:u=[]:=List.eq_nil_of_length_eq_zero hu
  subst this
  have h0:dA ((0:Nat):Int)=0:=by decide
  rw [h0,if_neg ag]
  simp [gj]
 | succ m ih=>
  intro u hu hm
  obtain ⟨v,c,rfl⟩:∃ v c,u=v++[c]:=by
   refine ⟨u.dropLast,u.getLast (by intro e;rw [e] at hu;simp at hu),?_⟩
   exact (List.dropLast_concat_getLast _).symm
  have bA:v.length=m:=by simpa using hu
  subst bA
  rw [UL,ih v rfl ag,if_neg ag]
  have bg:(s.n+dA (v.length:Int)).toNat%64=q+v.length:=by rw [Lj,ch];omega
  unfold um
  simp only [bg]
  have hs:=ahO s.bl v q c ag
  have hl:(v++[c]).length=v.length+1:=by simp
  rw [hs,hl]
  congr 1
  ·by_cases h:q+v.length=63
   ·rw [if_pos h,if_pos ag]
   ·rw [if_neg h,if_neg ag]
  ·rw [P7,UInt64.add_assoc]
   rfl
theorem La(s:kF)(t:List UInt8)(q k:Nat)(ch:s.n.toNat%64=q)(fo:s.bl.length=64)(aE:k≤t.length)(rI:q+k≤64) :
  gj s t=gj ⟨if q+k=64 then comp s.st (s.bl.take q++(t.take k++s.bl.drop (q+k))) else s.st,s.bl.take q++(t.take k++s.bl.drop (q+k)),s.n+dA (k:Int)⟩ (t.drop k):=by
 rw [← Lc s q ch fo k (t.take k) (by simp;omega) rI,← yF,List.take_append_drop]
theorem ur(s:kF)(dJ:s.st.length=8)(fo:s.bl.length=64)(t:List UInt8):(gj s t).st.length=8∧(gj s t).bl.length=64:=by
 induction t generalizing s with
 | nil=>exact ⟨dJ,fo⟩
 | cons c t ih=>
  refine ih (um s c) ?_ ?_
  ·unfold um;dsimp only;split
   ·exact BZ _ _ dJ
   ·exact dJ
  ·simp [um,fo]
end aL
end Go.aK
end
section
namespace Go.aK
namespace aL
theorem EH(n:Nat):hE n<64:=by unfold hE;omega
theorem Kh(n:Nat):(n+(1+hE n))%64=56:=by unfold hE;omega
theorem T3(n j:Nat)(h:j≤hE n)(h1:(n+(1+j))%64=56):j=hE n:=by unfold hE at *;omega
theorem BL(n:UInt64):(nA n).length=8:=by simp [nA]
theorem Ln(n:UInt64)(i:Nat)(h:i<8):(nA n).take (i+1)=(nA n).take i++[UInt8.ofNat (n.toNat/2^(56-8*i))]:=by
 rw [List.take_add_one]
 simp [nA,h]
theorem Lv(n:UInt64)(i:Int)(h:0≤i∧i<8):hI ((UInt64.ofNat (n.toNat/2^(min (56-8*i).toNat 64))).toNat:Int)=UInt8.ofNat (n.toNat/2^(56-8*i.toNat)):=by
 have e:min (56-8*i).toNat 64=56-8*i.toNat:=by omega
 rw [e]
 have h1:n.toNat/2^(56-8*i.toNat)<18446744073709551616:=Nat.lt_of_le_of_lt (Nat.div_le_self _ _) (by have:=n.toNat_lt;omega)
 have ar:(UInt64.ofNat (n.toNat/2^(56-8*i.toNat))).toNat=n.toNat/2^(56-8*i.toNat):=by
  rw [UInt64.toNat_ofNat']
  exact Nat.mod_eq_of_lt h1
 rw [ar]
 apply UInt8.toNat.inj
 have aQ:=rV ((n.toNat/2^(56-8*i.toNat):Nat):Int)
 rw [UInt8.toNat_ofNat']
 omega
def BQ(st:List UInt32)(i:Nat):UInt8:=UInt8.ofNat ((st.getD (i/4) 0).toNat/2^(24-8*(i%4)))
def p1(st:List UInt32)(i:Nat):List UInt8:=(List.range 32).map fun j=>if j<i then BQ st j else 0
theorem Qg(st:List UInt32)(i:Nat):(p1 st i).length=32:=by simp [p1]
theorem Qf(st:List UInt32):p1 st 32=tm st:=by
 unfold p1 tm
 apply List.map_congr_left
 intro j aV
 rw [List.mem_range] at aV
 rw [if_pos aV]
 rfl
theorem Qh(st:List UInt32)(i:Nat)(h:i<32):(p1 st i).set i (BQ st i)=p1 st (i+1):=by
 apply List.ext_getElem
 ·simp [p1]
 ·intro j h1 ar
  simp [p1] at h1 ar
  rw [List.getElem_set]
  simp only [p1,List.getElem_map,List.getElem_range]
  by_cases aV:i=j
  ·subst aV;simp
  ·simp only [aV,if_false]
   by_cases aQ:j<i
   ·rw [if_pos aQ,if_pos ag]
   ·rw [if_neg aQ,if_neg ag]
theorem Lw(st:List UInt32)(i:Int)(h:0≤i∧i<32):hI ((UInt32.ofNat ((st.getD (i/4).toNat 0).toNat/2^(min (24-8*(i%4)).toNat 32))).toNat:Int)=BQ st i.toNat:=by
 have e:min (24-8*(i%4)).toNat 32=24-8*(i.toNat%4):=by omega
 have bT:(i/4).toNat=i.toNat/4:=by omega
 rw [e,bT]
 unfold BQ
 generalize st.getD (i.toNat/4) 0=x
 have h1:x.toNat/2^(24-8*(i.toNat%4))<4294967296:=Nat.lt_of_le_of_lt (Nat.div_le_self _ _) (by have:=x.toNat_lt;omega)
 have ar:(UInt32.ofNat (x.toNat/2^(24-8*(i.toNat%4)))).toNat=x.toNat/2^(24-8*(i.toNat%4)):=by
  rw [UInt32.toNat_ofNat']
  exact Nat.mod_eq_of_lt h1
 rw [ar]
 apply UInt8.toNat.inj
 have aQ:=rV ((x.toNat/2^(24-8*(i.toNat%4)):Nat):Int)
 rw [UInt8.toNat_ofNat']
 omega
theorem aeV(n:UInt64):(pad n).length<100:=by
 have:=EH n.toNat
 simp [pad,nA]
 omega
theorem Qe(st:List UInt32):(tm st).length=32:=by simp [tm]
end aL
end Go.aK
namespace Go.aK
namespace aL
theorem Lb(s:kF)(t:List UInt8):(gj s t).n=s.n+dA (t.length:Int):=by
 induction t generalizing s with
 | nil=>show s.n=s.n+dA 0;rw [show dA (0:Int)=0 by decide];simp
 | cons c t ih=>
  show (gj (um s c) t).n=_
  rw [ih]
  show s.n+1+dA (t.length:Int)=s.n+dA ((t.length+1:Nat):Int)
  rw [P7,UInt64.add_assoc,show dA ((1:Nat):Int)=1 by decide,UInt64.add_comm 1]
theorem Fa(s:kF)(t:List UInt8)(h:s.n.toNat+t.length<18446744073709551616):(gj s t).n.toNat=s.n.toNat+t.length:=by
 rw [Lb,UInt64.toNat_add]
 have:=nb (t.length:Int)
 omega
theorem BN:jS.st.length=8:=rfl
theorem BM:jS.bl.length=64:=rfl
theorem yK:jS.n.toNat=0:=rfl
theorem B4(s:kF):(fin s).length=32:=Qe _
theorem pb(m:List UInt8):(sum m).length=32:=B4 _
def Ae(key:List UInt8)(c:UInt8):List UInt8:=(key.take (min key.length 64)++(List.replicate 64 (0:UInt8)).drop (min key.length 64)).map (· ^^^ c)
def aoC(key:List UInt8)(c:UInt8)(i:Nat):List UInt8:=
 let b:=key.take (min key.length 64)++(List.replicate 64 (0:UInt8)).drop (min key.length 64)
 (b.take i).map (· ^^^ c)++b.drop i
def keyOf(key:List UInt8):List UInt8:=if 64<key.length then sum key else key
def qG(key text:List UInt8):List UInt8:=
 fin (gj (gj jS (Ae (keyOf key) 92)) (fin (gj (gj jS (Ae (keyOf key) 54)) text)))
end aL
end Go.aK
namespace Go.aK
namespace aL
end aL
end Go.aK
end
section
/- The wire's encodings in plain words. -/
namespace Go.aK
namespace aF
def nL(m:UInt64):Nat→Nat
 | 0=>0
 | k+1=>if m.toNat/2^(8*k)=0 then nL m k else k+1
def eA(m:UInt64):Nat:=nL m 8
theorem Iu(m:UInt64):∀ k,nL m k≤k
 | 0=>Nat.le_refl _
 | k+1=>by unfold nL;split;exact Nat.le_succ_of_le (Iu m k);exact Nat.le_refl _
theorem Ab(m:UInt64):eA m≤8:=Iu m 8
def ei(n:Int):UInt64:=if n<0 then ~~~(dA n) else dA n
def gD(n:Int):UInt8:=if n<0 then 255 else 0
def digit(m:UInt64)(b8:UInt8)(i:Nat):UInt8:=UInt8.ofNat (m.toNat/2^(8*i)) ^^^ b8
def hH(m:UInt64)(b8:UInt8)(k i:Nat):List UInt8:=((List.range (k-i)).map fun j=>digit m b8 (k-1-j))
def int(n:Int):List UInt8:=(UInt8.ofNat (128+eA (ei n)) ^^^ gD n)::hH (ei n) (gD n) (eA (ei n)) 0
theorem C3(n:Int):(int n).length=1+eA (ei n):=by simp [int,hH];omega
theorem oo(n:Int):1≤(int n).length∧(int n).length≤9:=by have:=C3 n;have:=Ab (ei n);omega
def bytes(s:List UInt8):List UInt8:=int s.length++s
theorem LL(m:UInt64)(b8:UInt8)(k i:Nat)(h:i<k):hH m b8 k (i+1)++[digit m b8 i]=hH m b8 k i:=by
 unfold hH
 rw [show k-i=(k-(i+1))+1 by omega,List.range_succ,List.map_append]
 congr 1
 simp
 congr 1
 omega
theorem uC(m:UInt64)(b8:UInt8)(k i:Nat):(hH m b8 k i).length=k-i:=by simp [hH]
theorem Wl(m:UInt64)(b8:UInt8)(i:Int)(h:0≤i∧i<8):hI ((UInt64.ofNat (m.toNat/2^(min (8*i).toNat 64))).toNat:Int) ^^^ b8=digit m b8 i.toNat:=by
 have e:min (8*i).toNat 64=8*i.toNat:=by omega
 rw [e]
 unfold digit
 congr 1
 have h1:m.toNat/2^(8*i.toNat)<18446744073709551616:=Nat.lt_of_le_of_lt (Nat.div_le_self _ _) (by have:=m.toNat_lt;omega)
 have ar:(UInt64.ofNat (m.toNat/2^(8*i.toNat))).toNat=m.toNat/2^(8*i.toNat):=by
  rw [UInt64.toNat_ofNat']
  exact Nat.mod_eq_of_lt h1
 rw [ar]
 apply UInt8.toNat.inj
 have aQ:=rV ((m.toNat/2^(8*i.toNat):Nat):Int)
 rw [UInt8.toNat_ofNat']
 omega
theorem SP(m:UInt64)(k:Nat)(h:k<8):(0:UInt64)<UInt64.ofNat (m.toNat/2^(min (8*(k:Int)).toNat 64))↔¬ m.toNat/2^(8*k)=0:=by
 have e:min (8*(k:Int)).toNat 64=8*k:=by omega
 rw [e]
 have h1:m.toNat/2^(8*k)<18446744073709551616:=Nat.lt_of_le_of_lt (Nat.div_le_self _ _) (by have:=m.toNat_lt;omega)
 have ar:(UInt64.ofNat (m.toNat/2^(8*k))).toNat=m.toNat/2^(8*k):=by
  rw [UInt64.toNat_ofNat']
  exact Nat.mod_eq_of_lt h1
 rw [UInt64.lt_iff_toNat_lt,ar]
 show 0<_↔_
 omega
end aF
end Go.aK
namespace Go.aK
namespace aF
theorem Dv(n:Nat):hI (n:Int)=UInt8.ofNat n:=by
 apply UInt8.toNat.inj
 have aQ:=rV (n:Int)
 rw [UInt8.toNat_ofNat']
 omega
end aF
end Go.aK
namespace Go.aK
namespace aF
theorem sA(ps:List (List UInt8))(bO:∀ p∈ps,p.length<1048576):(ps.flatMap bytes).length≤ps.length*1048585:=by
 induction ps with
 | nil=>simp
 | cons p ps ih=>
  have h1:=ih fun q ch=>bO q (by simp [ch])
  have ar:=bO p (by simp)
  have aQ:=oo p.length
  simp only [List.flatMap_cons,List.length_append,List.length_cons,bytes]
  omega
end aF
namespace aL
def mI(tag:Int)(ps:List (List UInt8)):kF:=gj (gj jS [hI tag]) (ps.flatMap aF.bytes)
def ju(tag:Int)(ps:List (List UInt8)):List UInt8:=(fin (mI tag ps)).take 16
theorem P6(tag:Int)(ps:List (List UInt8)):(mI tag ps).st.length=8∧(mI tag ps).bl.length=64:=
 let h:=ur jS BN BM [hI tag]
 ur _ h.1 h.2 _
theorem aeD(tag:Int)(ps:List (List UInt8))(bO:∀ p∈ps,p.length<1048576)(hl:ps.length<1048576):(mI tag ps).n.toNat<2199023255552:=by
 have h1:=Fa jS [hI tag] (by rw [yK];simp)
 have ar:=aF.sA ps bO
 have aQ:=Fa (gj jS [hI tag]) (ps.flatMap aF.bytes) (by rw [h1,yK];simp only [List.length_cons,List.length_nil];omega)
 unfold mI
 rw [aQ,h1,yK]
 simp only [List.length_cons,List.length_nil]
 omega
theorem aeC(tag:Int):mI tag []=gj jS [hI tag]:=rfl
theorem aeE(tag:Int)(ps:List (List UInt8))(i:Nat)(h:i<ps.length):gj (mI tag (ps.take i)) (aF.bytes ps[i])=mI tag (ps.take (i+1)):=by
 unfold mI
 rw [← yF,List.take_add_one,List.getElem?_eq_getElem h,List.flatMap_append]
 simp
theorem o2(tag:Int)(ps:List (List UInt8)):(ju tag ps).length=16:=by unfold ju;rw [List.length_take,B4];rfl
end aL
end Go.aK
namespace Go.aK
namespace aL
theorem aeF(tag:Int)(ps:List (List UInt8))(i:Nat)(h:i<ps.length):gj (mI tag (ps.take i)) (aF.bytes (ps.getD i []))=mI tag (ps.take (i+1)):=by
 rw [← aeE tag ps i h,List.getD_eq_getElem?_getD,List.getElem?_eq_getElem h]
 rfl
theorem jm(ps:List (List UInt8))(i:Nat)(h:i<ps.length):ps.getD i []∈ps:=by
 rw [List.getD_eq_getElem?_getD,List.getElem?_eq_getElem h]
 exact List.getElem_mem h
end aL
end Go.aK
namespace Go.aK
theorem aF.su(p:List UInt8):(aF.bytes p).length≤p.length+9:=by
 have:=aF.oo p.length
 simp only [aF.bytes,List.length_append]
 omega
end Go.aK
end
section
namespace Go.aK
namespace aF
def rQ(n:Int):Int:=if n<0 then -1-n else n
theorem Il(n:Int)(h : -9223372036854775808≤n∧n≤9223372036854775807):((ei n).toNat:Int)=rQ n:=by
 have ch:=nb n
 unfold ei rQ
 split
 ·have:(~~~(dA n)).toNat=18446744073709551615-(dA n).toNat:=by
   rw [UInt64.toNat_not]
   rfl
  omega
 ·omega
theorem Dk(m:UInt64):∀ k,(∀ i,i<nL m k→0<m.toNat/2^(8*i))∧(nL m k<k→m.toNat/2^(8*nL m k)=0)
 | 0=>⟨fun i h=>absurd h (Nat.not_lt_zero _),fun h=>absurd h (Nat.not_lt_zero _)⟩
 | k+1=>by
  have ih:=Dk m k
  have hle:=Iu m k
  unfold nL
  split
  ·rename_i h0
   refine ⟨ih.1,fun _=>?_⟩
   rcases Nat.lt_or_ge (nL m k) k with h | h
   ·exact ih.2 h
   ·rw [show nL m k=k by omega];exact h0
  ·rename_i h0
   refine ⟨fun i aH=>?_,fun h=>absurd h (Nat.lt_irrefl _)⟩
   have h1:0<m.toNat/2^(8*k):=Nat.pos_of_ne_zero h0
   have ar:2^(8*i)≤2^(8*k):=Nat.pow_le_pow_right ag ag
   exact Nat.lt_of_lt_of_le h1 (Nat.div_le_div_left ar (Nat.pow_pos ag))
theorem P0(m:UInt64):m.toNat/2^(8*eA m)=0:=by
 rcases Nat.lt_or_ge (eA m) 8 with h | h
 ·exact (Dk m 8).2 h
 ·have:=Ab m
  rw [show eA m=8 by omega]
  have:=m.toNat_lt
  omega
theorem PZ(m:UInt64)(j:Nat)(h0:m.toNat/2^(8*j)=0)(h1:∀ i,i<j→0<m.toNat/2^(8*i)):j=eA m:=by
 rcases Nat.lt_trichotomy j (eA m) with h | h | h
 ·have:=(Dk m 8).1 j h;omega
 ·exact h
 ·have:=h1 _ h;have:=P0 m;omega
end aF
end Go.aK
namespace Go.aK
namespace aF
theorem W5(d:UInt8):255-d=d ^^^ 255:=by
 apply UInt8.toBitVec_inj.1
 show 255#8-d.toBitVec=d.toBitVec ^^^ 255#8
 generalize d.toBitVec=b
 revert b
 decide +kernel
theorem aaE(k:Nat)(h:k≤8):hI (127-(k:Int))=UInt8.ofNat (128+k) ^^^ 255:=by
 have:∀ k:Nat,k≤8→hI (127-(k:Int))=UInt8.ofNat (128+k) ^^^ 255:=by decide
 exact this k h
def oK(m:Nat)(j:Nat):List UInt8:=(List.range j).map fun i=>UInt8.ofNat (m/2^(8*i))
theorem LI(m j:Nat):(oK m j).length=j:=by simp [oK]
theorem Wh(m:Nat)(j:Nat)(mi:Int)(h:mi=((m/2^(8*j):Nat):Int)):oK m j++[hI (mi%256)]=oK m (j+1):=by
 unfold oK
 rw [List.range_succ,List.map_append]
 congr 1
 simp only [List.map_cons,List.map_nil]
 congr 1
 subst h
 apply UInt8.toNat.inj
 have aQ:=rV (((m/2^(8*j):Nat):Int)%256)
 rw [UInt8.toNat_ofNat']
 omega
theorem LH(m j i:Nat)(h:i<j):(oK m j).getD i 0=UInt8.ofNat (m/2^(8*i)):=by
 rw [List.getD_eq_getElem?_getD,List.getElem?_eq_getElem (by rw [LI];exact h)]
 simp [oK]
theorem Wo(m j:Nat)(mi:Int)(h:mi=((m/2^(8*j):Nat):Int)):mi/256=((m/2^(8*(j+1)):Nat):Int):=by
 subst h
 rw [show 8*(j+1)=8*j+8 by omega,Nat.pow_add,← Nat.div_div_eq_div_mul]
 omega
end aF
end Go.aK
namespace Go.aK
theorem aF.ael(m:UInt64)(j:Nat)(h:∀ i,i<j→0<m.toNat/2^(8*i)):j≤8:=by
 rcases Nat.lt_or_ge 8 j with h1 | h1
 ·have ar:=h 8 h1
  have aQ:=m.toNat_lt
  have bF:m.toNat/2^(8*8)=0:=Nat.div_eq_of_lt aQ
  omega
 ·exact h1
theorem aF.Wm(a b:Nat):((a/b:Nat):Int)≤a:=by have:=Nat.div_le_self a b;omega
end Go.aK
namespace Go.aK
def aL.hY(tag:Int)(ps:List (List UInt8)):List UInt8:=hI tag::ps.flatMap aF.bytes
theorem aL.OL(tag:Int)(ps:List (List UInt8))(i:Nat)(h:i<ps.length):hY tag (ps.take i)++aF.bytes (ps.getD i [])=hY tag (ps.take (i+1)):=by
 unfold hY
 rw [List.take_add_one,List.getElem?_eq_getElem h,List.flatMap_append,List.getD_eq_getElem?_getD,List.getElem?_eq_getElem h,List.cons_append]
 simp
theorem aL.H4(tag:Int)(ps:List (List UInt8))(bO:∀ p∈ps,p.length<1048576):(hY tag ps).length≤1+ps.length*1048585:=by
 have:=aF.sA ps bO
 unfold hY
 rw [List.length_cons]
 omega
theorem aL.aeB(tag:Int)(ps:List (List UInt8)):ju tag ps=(sum (hY tag ps)).take 16:=by
 unfold ju mI sum hY
 rw [← yF]
 rfl
end Go.aK
end
section
namespace Go.aK
namespace aL
theorem ag8(x:UInt32)(n:Int)(h:0<n∧n<32):UInt32.ofNat (x.toNat/2^(min n.toNat 32)) ||| lL ((x.toNat:Int)*2^(min (32-n).toNat 32))=jy x (UInt32.ofNat n.toNat):=by
 obtain ⟨k,rfl⟩:=Int.eq_ofNat_of_zero_le (show 0≤n by omega)
 rw [Int.toNat_natCast,show min k 32=k by omega,show min (32-(k:Int)).toNat 32=32-k by omega,xQ _ _ ag,D3 _ _ ag]
 unfold jy
 have e:UInt32.ofNat (32-k)=32-UInt32.ofNat k:=by
  apply UInt32.toNat.inj
  rw [UInt32.toNat_ofNat',UInt32.toNat_sub,UInt32.toNat_ofNat']
  simp
  omega
 rw [e]
theorem ahE(b:List UInt8)(t:Nat)(h:t<16):(gz b t).set t (word b t)=gz b (t+1):=by
 rw [Jx b t ag,← K8,← Sj b t h]
 unfold mg
 rw [List.set_append_right _ _ (by rw [mM];exact Nat.le_refl _),mM,Nat.sub_self,List.set_cons_zero]
theorem ajz(bb:List UInt8)(t:Int)(h0:0≤t)(h1:t<16) :
  (gz bb t.toNat).set t.toNat (lL (((lL (((bb.getD (4*t).toNat 0).toNat:Int))).toNat:Int)*2^min (Int.toNat 24) 32) ||| lL (((lL (((bb.getD (4*t+1).toNat 0).toNat:Int))).toNat:Int)*2^min (Int.toNat 16) 32) ||| lL (((lL (((bb.getD (4*t+2).toNat 0).toNat:Int))).toNat:Int)*2^min (Int.toNat 8) 32) ||| lL (((bb.getD (4*t+3).toNat 0).toNat:Int)))=gz bb (t+1).toNat:=by
 obtain ⟨t,rfl⟩:=Int.eq_ofNat_of_zero_le h0
 rw [show ((t:Int)+1).toNat=t+1 by omega,← ahE bb t ag]
 simp only [Int.toNat_natCast]
 rw [show (4*(t:Int)).toNat=4*t by omega,show (4*(t:Int)+1).toNat=4*t+1 by omega,show (4*(t:Int)+2).toNat=4*t+2 by omega,show (4*(t:Int)+3).toNat=4*t+3 by omega,
  show min (Int.toNat 24) 32=24 from rfl,show min (Int.toNat 16) 32=16 from rfl,show min (Int.toNat 8) 32=8 from rfl,yR,yR,yR,yR,xQ _ 24 ag,xQ _ 16 ag,xQ _ 8 ag]
 rfl
theorem agN(bb:List UInt8)(t:Int)(h1:16≤t)(ar:t<64) :
  ((gz bb t.toNat).set t.toNat ((gz bb t.toNat).getD (t-16).toNat 0+(jy ((gz bb t.toNat).getD (t-15).toNat 0) (UInt32.ofNat (Int.toNat 7)) ^^^ jy ((gz bb t.toNat).getD (t-15).toNat 0) (UInt32.ofNat (Int.toNat 18)) ^^^ UInt32.ofNat (((gz bb t.toNat).getD (t-15).toNat 0).toNat/2^min (Int.toNat 3) 32))+(gz bb t.toNat).getD (t-7).toNat 0 +
   (jy ((gz bb t.toNat).getD (t-2).toNat 0) (UInt32.ofNat (Int.toNat 17)) ^^^ jy ((gz bb t.toNat).getD (t-2).toNat 0) (UInt32.ofNat (Int.toNat 19)) ^^^ UInt32.ofNat (((gz bb t.toNat).getD (t-2).toNat 0).toNat/2^min (Int.toNat 10) 32))))=gz bb (t+1).toNat:=by
 rw [← Sl bb t h1 ar]
 have e:=Jf
 rw [show (-7:Int) = -((7:Nat):Int) from rfl,show (-18:Int) = -((18:Nat):Int) from rfl,show (-17:Int) = -((17:Nat):Int) from rfl,show (-19:Int) = -((19:Nat):Int) from rfl,e _ 7 ag ag,e _ 18 ag ag,e _ 17 ag ag,e _ 19 ag ag]
 rfl
end aL
end Go.aK
end
section
namespace Go.aK
namespace aL
def pF(m:List UInt8)(i:Nat):List UInt8:=(m.take (64*i+64)).drop (64*i)
def p4(m:List UInt8):Nat→List UInt32
 | 0=>init
 | i+1=>comp (p4 m i) (pF m i)
theorem Ja(m:List UInt8):∀ i,(p4 m i).length=8
 | 0=>rfl
 | i+1=>BZ _ _ (Ja m i)
theorem Vj(m:List UInt8)(i:Nat)(h:64*i+64≤m.length):(pF m i).length=64:=by simp [pF];omega
theorem RI(m:List UInt8):∀ i,64*i≤m.length→(gj jS (m.take (64*i))).st=p4 m i∧(gj jS (m.take (64*i))).n.toNat%64=0
 | 0,_=>by simp [gj,p4,jS]
 | i+1,h=>by
  have ih:=RI m i ag
  have hl:=ur jS BN BM (m.take (64*i))
  have e:m.take (64*(i+1))=m.take (64*i)++pF m i:=by
   unfold pF
   rw [List.drop_take,show 64*i+64-64*i=64 by omega,show 64*(i+1)=64*i+64 by omega,List.take_add]
  have aw:=Vj m i ag
  rw [e,yF,Lc _ 0 ih.2 hl.2 64 (pF m i) aw ag]
  refine ⟨?_,?_⟩
  ·dsimp only
   rw [if_pos ag,ih.1,List.drop_of_length_le ag]
   simp [p4]
  ·dsimp only
   rw [Lj,ih.2]
theorem Qn(n:Nat)(h:n<18446744073709551616):(pad (dA (n:Int))).length=1+hE n+8:=by
 have ch:(dA (n:Int)).toNat=n:=by have:=nb (n:Int);omega
 simp only [pad,ch,List.length_cons,List.length_append,List.length_replicate,BL]
 omega
theorem aip(xs:List UInt8)(h:xs.length<18446744073709551616)(k:Nat)(aE:(xs++pad (dA (xs.length:Int))).length=64*k):sum xs=tm (p4 (xs++pad (dA (xs.length:Int))) k):=by
 have h1:=RI (xs++pad (dA (xs.length:Int))) k ag
 rw [List.take_of_length_le ag] at h1
 rw [← h1.1]
 unfold sum fin
 rw [yF,Lb jS xs]
 have:jS.n+dA (xs.length:Int)=dA (xs.length:Int):=by show (0:UInt64)+_=_;simp
 rw [this]
theorem ad4(xs:List UInt8)(h:xs.length<18446744073709551616):(xs++pad (dA (xs.length:Int))).length%64=0:=by
 have:=Kh xs.length
 rw [List.length_append,Qn _ h]
 omega
theorem ajP(x:UInt32):x ^^^ 4294967295 = ~~~x:=by
 apply UInt32.toBitVec_inj.1
 show x.toBitVec ^^^ 4294967295#32 = ~~~x.toBitVec
 rw [show (4294967295#32:BitVec 32)=BitVec.allOnes 32 by decide,BitVec.xor_allOnes]
end aL
end Go.aK
end
section
namespace Go.aK
namespace aL
theorem OV(key:List UInt8):(keyOf key).length≤64:=by
 unfold keyOf
 split
 ·rw [pb];omega
 ·omega
end aL
end Go.aK
namespace Go.aK
namespace aL
end aL
end Go.aK
namespace Go.aK
namespace aL
def oJ(xs:List UInt8)(n i:Nat):List UInt8:=xs.take i++List.replicate (n-i) 0
theorem V8(xs:List UInt8)(n i:Nat)(h:i≤n)(aM:n≤xs.length):(oJ xs n i).length=n:=by simp [oJ];omega
theorem V7(xs:List UInt8)(n:Nat):oJ xs n 0=List.replicate n 0:=by simp [oJ]
theorem LF(xs:List UInt8)(n:Nat):oJ xs n n=xs.take n:=by simp [oJ]
theorem V9(xs:List UInt8)(n i:Nat)(h:i<n)(aM:n≤xs.length):(oJ xs n i).set i (xs.getD i 0)=oJ xs n (i+1):=by
 unfold oJ
 have e:(xs.take i).length=i:=by simp;omega
 rw [List.set_append_right _ _ ag,e,Nat.sub_self,show n-i=(n-(i+1))+1 by omega,List.replicate_succ,List.set_cons_zero,List.take_add_one,List.getElem?_eq_getElem ag,List.getD_eq_getElem?_getD,List.getElem?_eq_getElem ag]
 rw [List.append_assoc]
 rfl
end aL
end Go.aK
end
section
namespace Go.aK
namespace aF
def ga(l:List UInt8):Nat:=l.foldl (fun a d=>a*256+d.toNat) 0
theorem Ys(l:List UInt8):∀ a,l.foldl (fun a d=>a*256+d.toNat) a=a*256^l.length+ga l:=by
 induction l with
 | nil=>intro a;simp [ga]
 | cons d l ih=>
  intro a
  unfold ga
  simp only [List.foldl_cons,List.length_cons]
  rw [ih,ih (0*256+d.toNat),Nat.pow_succ,Nat.add_mul,Nat.mul_comm (256^l.length) 256,← Nat.mul_assoc,Nat.zero_mul,Nat.zero_add]
  omega
theorem Bb(d:UInt8)(l:List UInt8):ga (d::l)=d.toNat*256^l.length+ga l:=by
 have:=Ys l (0*256+d.toNat)
 unfold ga
 rw [List.foldl_cons,this]
 simp [ga]
theorem LJ(m:UInt64)(b8:UInt8)(k:Nat):hH m b8 (k+1) 0=digit m b8 k::hH m b8 k 0:=by
 unfold hH
 rw [Nat.sub_zero,Nat.sub_zero,List.range_succ_eq_map,List.map_cons,List.map_map]
 congr 1
 apply List.map_congr_left
 intro j aV
 simp only [Function.comp]
 congr 1
 omega
theorem xq(k:Nat):2^(8*k)=256^k:=by rw [Nat.pow_mul]
theorem TC(m:UInt64):∀ k,ga (hH m 0 k 0)=m.toNat%256^k
 | 0=>by simp [hH,ga,Nat.mod_one]
 | k+1=>by
  rw [LJ,Bb,TC m k,uC,Nat.sub_zero]
  have aT:(digit m 0 k).toNat=m.toNat/256^k%256:=by
   unfold digit
   rw [UInt8.xor_zero,UInt8.toNat_ofNat',xq]
  rw [aT,Nat.pow_succ,Nat.mod_mul,Nat.mul_comm]
  omega
theorem Pt(m:UInt64):m.toNat<256^eA m:=by
 have h:=P0 m
 rw [xq] at h
 exact (Nat.div_eq_zero_iff.1 h).resolve_left (Nat.ne_of_gt (Nat.pow_pos ag))
theorem TD(m:UInt64):ga (hH m 0 (eA m) 0)=m.toNat:=by
 rw [TC]
 exact Nat.mod_eq_of_lt (Pt m)
theorem adE(n:Nat)(h:n<9223372036854775808):(ei (n:Int)).toNat=n:=by
 have ch:=nb (n:Int)
 unfold ei
 rw [if_neg ag]
 omega
theorem W4(n:Nat):gD (n:Int)=0:=by
 unfold gD
 rw [if_neg ag]
end aF
namespace aL
end aL
end Go.aK
end
section
namespace Go.aK
namespace aF
def fA(h:UInt8):UInt8:=if h<128 then 255 else 0
def getInt(b:List UInt8):Int×Int×Int:=
 match b with
 | []=>(0,0,3)
 | h::t=>
  if 8<(h ^^^ fA h).toNat-128 then (0,0,2)
  else if t.length<(h ^^^ fA h).toNat-128 then (0,0,3)
  else if 0<(h ^^^ fA h).toNat-128∧t.getD 0 0 ^^^ fA h=0 then (0,0,2)
  else if 9223372036854775808≤ga ((t.take ((h ^^^ fA h).toNat-128)).map (· ^^^ fA h)) then (0,0,2)
  else (if fA h=0 then (ga ((t.take ((h ^^^ fA h).toNat-128)).map (· ^^^ fA h)):Int) else -1-(ga ((t.take ((h ^^^ fA h).toNat-128)).map (· ^^^ fA h)):Int),((h ^^^ fA h).toNat-128:Nat)+1,0)
theorem LK(m:UInt64)(b8:UInt8)(k i:Nat):hH m b8 k i=(hH m 0 k i).map (· ^^^ b8):=by
 unfold hH
 rw [List.map_map]
 apply List.map_congr_left
 intro j _
 unfold digit
 simp
theorem EB(a b:UInt8):a ^^^ b ^^^ b=a:=by rw [UInt8.xor_assoc,UInt8.xor_self,UInt8.xor_zero]
theorem Py(l:List UInt8)(b8:UInt8):(l.map (· ^^^ b8)).map (· ^^^ b8)=l:=by
 rw [List.map_map]
 conv=>rhs;rw [← List.map_id l]
 apply List.map_congr_left
 intro x _
 exact EB x b8
theorem Mn(n:Int):(n<0∧gD n=255)∨(0≤n∧gD n=0):=by
 unfold gD
 by_cases h:n<0
 ·exact .inl ⟨h,if_pos h⟩
 ·exact .inr ⟨by omega,if_neg h⟩
theorem N3:∀ k:Nat,k≤8→(∀ b8:UInt8,b8=0∨b8=255→fA (UInt8.ofNat (128+k) ^^^ b8)=b8∧(UInt8.ofNat (128+k) ^^^ b8 ^^^ b8).toNat-128=k):=by
 have:∀ k:Nat,k≤8→fA (UInt8.ofNat (128+k) ^^^ 0)=0∧fA (UInt8.ofNat (128+k) ^^^ 255)=255∧(UInt8.ofNat (128+k)).toNat-128=k:=by decide
 intro k aE b8 eK
 obtain ⟨h1,ar,aQ⟩:=this k aE
 rw [EB]
 rcases eK with rfl | rfl
 ·exact ⟨h1,aQ⟩
 ·exact ⟨ar,aQ⟩
theorem aek(m:UInt64)(h:0<eA m):256^(eA m-1)≤m.toNat:=by
 have h1:=(Dk m 8).1 (eA m-1) (show eA m-1<nL m 8 by show eA m-1<eA m;omega)
 rw [xq] at h1
 exact Nat.le_of_not_lt fun ar=>by rw [Nat.div_eq_of_lt ar] at h1;omega
theorem Mo(n:Int):gD n=0∨gD n=255:=by
 rcases Mn n with ⟨_,h⟩ | ⟨_,h⟩ <;> simp [h]
theorem Gj(n:Int)(bD : -9223372036854775808≤n∧n≤9223372036854775807)(t:List UInt8):getInt (int n++t)=(n,((int n).length:Int),0):=by
 have hm:=Il n bD
 have aE:=Ab (ei n)
 obtain ⟨f1,f2⟩:=N3 (eA (ei n)) aE (gD n) (Mo n)
 have hlen:=C3 n
 unfold int at hlen ⊢
 rw [List.cons_append]
 unfold getInt
 simp only [f1,f2]
 have sS:(hH (ei n) (gD n) (eA (ei n)) 0).length=eA (ei n):=by rw [uC];omega
 have lH:(hH (ei n) (gD n) (eA (ei n)) 0++t).take (eA (ei n))=hH (ei n) (gD n) (eA (ei n)) 0:=by
  rw [List.take_append_of_le_length ag,List.take_of_length_le ag]
 have bA:ga ((hH (ei n) (gD n) (eA (ei n)) 0).map (· ^^^ gD n))=(ei n).toNat:=by
  rw [LK,Py,TD]
 have aak:¬ (0<eA (ei n)∧(hH (ei n) (gD n) (eA (ei n)) 0++t).getD 0 0 ^^^ gD n=0):=by
  rintro ⟨h1,ar⟩
  obtain ⟨k,CL⟩:∃ k,eA (ei n)=k+1:=⟨eA (ei n)-1,by omega⟩
  have fF:=aek (ei n) h1
  have gJ:=Pt (ei n)
  rw [CL,LJ,List.cons_append,List.getD_cons_zero] at ar
  unfold digit at ar
  rw [EB,xq] at ar
  rw [CL] at fF gJ
  have aQ:=congrArg UInt8.toNat ar
  rw [UInt8.toNat_ofNat'] at aQ
  have bF:1≤(ei n).toNat/256^k:=(Nat.le_div_iff_mul_le (Nat.pow_pos ag)).2 (by simpa using fF)
  have cO:(ei n).toNat/256^k<256:=Nat.div_lt_of_lt_mul (by rw [Nat.pow_succ] at gJ;exact gJ)
  rw [Nat.mod_eq_of_lt cO] at aQ
  have:(0:UInt8).toNat=0:=rfl
  omega
 rw [if_neg ag,if_neg (by rw [List.length_append];omega),if_neg aak,lH,bA,if_neg (by unfold rQ at hm;split at hm <;> omega)]
 refine Prod.ext ?_ (Prod.ext ?_ rfl)
 ·rcases Mn n with ⟨h,e⟩ | ⟨h,e⟩
  ·simp only [e]
   rw [if_neg a8,hm];unfold rQ;rw [if_pos h];omega
  ·simp only [e,if_true]
   rw [hm];unfold rQ;rw [if_neg ag]
 ·show ((eA (ei n):Nat):Int)+1=_
  rw [hlen]
  show ((eA (ei n):Nat):Int)+1=((1+eA (ei n):Nat):Int)
  omega
theorem YX(n:Int)(i:Nat)(h:i<(int n).length):getInt ((int n).take i)=(0,0,3):=by
 have aE:=Ab (ei n)
 obtain ⟨f1,f2⟩:=N3 (eA (ei n)) aE (gD n) (Mo n)
 have hlen:=C3 n
 cases i with
 | zero=>rfl
 | succ i=>
  unfold int at h ⊢
  rw [List.take_succ_cons]
  rw [List.length_cons,uC] at h
  unfold getInt
  simp only [f1,f2]
  rw [if_neg ag,if_pos (by rw [List.length_take,uC];omega)]
theorem Bc:∀ (l:List UInt8),ga l<256^l.length
 | []=>by simp [ga]
 | d::l=>by
  rw [Bb,List.length_cons,Nat.pow_succ]
  have h1:=Bc l
  have ar:=d.toNat_lt
  have aQ:d.toNat*256^l.length≤255*256^l.length:=Nat.mul_le_mul_right _ ag
  omega
theorem TB:∀ (a b:List UInt8),a.length=b.length→ga a=ga b→a=b
 | [],[],_,_=>rfl
 | c::a,d::b,hl,bA=>by
  have zz:a.length=b.length:=by simpa using hl
  rw [Bb,Bb,zz] at bA
  have h1:=Bc a
  have ar:=Bc b
  rw [zz] at h1
  have bO:0<256^b.length:=Nat.pow_pos ag
  have bL:c.toNat=d.toNat:=by
   have aQ:(c.toNat*256^b.length+ga a)/256^b.length=c.toNat:=by
    rw [Nat.mul_comm,Nat.mul_add_div bO,Nat.div_eq_of_lt h1];rfl
   have bF:(d.toNat*256^b.length+ga b)/256^b.length=d.toNat:=by
    rw [Nat.mul_comm,Nat.mul_add_div bO,Nat.div_eq_of_lt ar];rfl
   rw [← aQ,bA,bF]
  rw [UInt8.toNat.inj bL,TB a b zz (by rw [bL] at bA;omega)]
theorem adD(m:Nat)(h:m<9223372036854775808)(b8:UInt8)(eK:b8=0∨b8=255):(ei (if b8=0 then (m:Int) else -1-(m:Int))).toNat=m∧gD (if b8=0 then (m:Int) else -1-(m:Int))=b8:=by
 rcases eK with rfl | rfl
 ·rw [if_pos rfl]
  exact ⟨adE m h,W4 m⟩
 ·rw [if_neg a8]
  refine ⟨?_,by unfold gD;rw [if_pos ag]⟩
  have:=Il (-1-(m:Int)) ag
  unfold rQ at this
  rw [if_pos ag] at this
  omega
theorem Mt(h:UInt8):fA h=0∨fA h=255:=by
 unfold fA
 split <;> simp
theorem Mu:∀ h:UInt8,128≤(h ^^^ fA h).toNat:=by
 intro h
 have:∀ b:BitVec 8,128≤((UInt8.ofBitVec b) ^^^ fA (UInt8.ofBitVec b)).toNat:=by decide +kernel
 exact this h.toBitVec
theorem Cj{b:List UInt8}{n k:Int}(h:getInt b=(n,k,0)):(-9223372036854775808≤n∧n≤9223372036854775807)∧k=(int n).length∧∃ t,b=int n++t:=by
 unfold getInt at h
 split at h
 ·simp at h
 ·rename_i aT t
  have m3:=Mu aT
  have eK:=Mt aT
  generalize dU:(aT ^^^ fA aT).toNat-128=K at h
  generalize ab:fA aT=b8 at h m3 eK dU
  split at h
  ·simp at h
  rename_i dJ
  split at h
  ·simp at h
  rename_i hl
  split at h
  ·simp at h
  rename_i h0
  split at h
  ·simp at h
  rename_i hm
  generalize dz:(t.take K).map (· ^^^ b8)=D at h hm
  have y7:D.length=K:=by rw [← dz];simp;omega
  obtain ⟨bL,bT⟩:=adD (ga D) ag b8 eK
  simp only [Prod.mk.injEq,and_true] at h
  obtain ⟨rfl,rfl⟩:=h
  generalize bD:(if b8=0 then (ga D:Int) else -1-(ga D:Int))=n at bL bT
  have abx : -9223372036854775808≤n∧n≤9223372036854775807:=by
   rw [← bD];split <;> omega
  have og:eA (ei n)=K:=by
   symm
   refine PZ (ei n) K ?_ fun i aH=>?_
   ·rw [xq,bL]
    exact Nat.div_eq_of_lt (by have:=Bc D;rwa [y7] at this)
   ·rw [xq,bL]
    have ZG:0<K:=by omega
    obtain ⟨c,tU,GA⟩:∃ c tU,D=c::tU:=by
     cases D with
     | nil=>simp at y7;omega
     | cons c tU=>exact ⟨c,tU,rfl⟩
    have bq:c≠0:=by
     intro h9
     apply h0
     refine ⟨ZG,?_⟩
     cases t with
     | nil=>simp at hl;omega
     | cons t0 b7=>
      obtain ⟨Km,rfl⟩:∃ Km,K=Km+1:=⟨K-1,by omega⟩
      rw [List.take_succ_cons,List.map_cons,GA] at dz
      rw [List.getD_cons_zero]
      exact (List.cons.inj dz).1.trans h9
    have aU:1≤c.toNat:=by
     rcases Nat.eq_zero_or_pos c.toNat with cA | cA
     ·exact absurd (UInt8.toNat.inj (cA.trans (show 0=(0:UInt8).toNat from rfl))) bq
     ·exact cA
    have bA:ga D=c.toNat*256^tU.length+ga tU:=by rw [GA,Bb]
    have Zn:tU.length=K-1:=by rw [GA] at y7;simp at y7;omega
    have h1:256^i≤256^(K-1):=Nat.pow_le_pow_right ag ag
    have ar:256^(K-1)≤c.toNat*256^(K-1):=Nat.le_mul_of_pos_left _ ag
    rw [Zn] at bA
    exact Nat.div_pos ag (Nat.pow_pos ag)
  refine ⟨abx,?_,t.drop K,?_⟩
  ·rw [C3,og];omega
  ·have aat:hH (ei n) (gD n) K 0=t.take K:=by
    rw [LK,bT]
    have:hH (ei n) 0 K 0=D:=by
     refine TB _ _ (by rw [uC,y7];omega) ?_
     have:=TD (ei n)
     rw [og] at this
     rw [this,bL]
    rw [this,← dz,Py]
   unfold int
   rw [og,aat,bT]
   have aaP:aT=UInt8.ofNat (128+K) ^^^ b8:=by
    have h1:aT ^^^ b8=UInt8.ofNat (128+K):=by
     apply UInt8.toNat.inj
     rw [UInt8.toNat_ofNat']
     omega
    rw [← h1,EB]
   rw [← aaP,List.cons_append,List.take_append_drop]
end aF
end Go.aK
end
section
namespace Go.aK
namespace aF
def ints(l:List Int):List UInt8:=int l.length++l.flatMap int
def strs(l:List (List UInt8)):List UInt8:=int l.length++l.flatMap bytes
def wu(l:List (List UInt8)):List UInt8:=int l.length++l.flatten
def a7(size:Nat)(b:List UInt8):Int×Int×Int:=
 if (getInt b).2.2≠0 then (0,0,(getInt b).2.2)
 else if (getInt b).1<0 then (0,0,2)
 else if (b.length:Int)-(getInt b).2.1<(getInt b).1*size then (0,0,3)
 else getInt b
def dZ(b:List UInt8):List UInt8×Int×Int:=
 if (a7 1 b).2.2≠0 then ([],0,(a7 1 b).2.2)
 else ((b.drop (a7 1 b).2.1.toNat).take (a7 1 b).1.toNat,(a7 1 b).2.1+(a7 1 b).1,0)
def run{α:Type}(dec:List UInt8→α×Int×Int)(b:List UInt8)(rj:Int):Nat→List α×Int×Int
 | 0=>([],rj,0)
 | k+1=>
  if (run dec b rj k).2.2≠0 then run dec b rj k
  else if (dec (b.drop (run dec b rj k).2.1.toNat)).2.2≠0 then ([],0,(dec (b.drop (run dec b rj k).2.1.toNat)).2.2)
  else ((run dec b rj k).1++[(dec (b.drop (run dec b rj k).2.1.toNat)).1],(run dec b rj k).2.1+(dec (b.drop (run dec b rj k).2.1.toNat)).2.1,0)
def Ck{α:Type}(dec:List UInt8→α×Int×Int)(b:List UInt8):List α×Int×Int:=
 if (a7 1 b).2.2≠0 then ([],0,(a7 1 b).2.2) else run dec b (a7 1 b).2.1 (a7 1 b).1.toNat
def alI(b:List UInt8):List Int×Int×Int:=Ck getInt b
def alJ(b:List UInt8):List (List UInt8)×Int×Int:=Ck dZ b
def YW(b:List UInt8):List (List UInt8)×Int×Int:=
 if (a7 16 b).2.2≠0 then ([],0,(a7 16 b).2.2)
 else ((List.range (a7 16 b).1.toNat).map (fun k=>(b.drop ((a7 16 b).2.1.toNat+16*k)).take 16),(a7 16 b).2.1+16*(a7 16 b).1,0)
theorem NA{b:List UInt8}{n k:Int}(h:getInt b=(n,k,0)):1≤k∧k≤b.length∧k≤9:=by
 obtain ⟨_,rfl,t,rfl⟩:=Cj h
 have:=oo n
 rw [List.length_append]
 omega
theorem Nz(b:List UInt8):(getInt b).2.2=0∨getInt b=(0,0,(getInt b).2.2)∧((getInt b).2.2=2∨(getInt b).2.2=3):=by
 unfold getInt
 split
 ·simp
 ·repeat (first | split | simp)
theorem BX{size:Nat}{b:List UInt8}(h:(a7 size b).2.2=0):a7 size b=getInt b∧0≤(a7 size b).1∧1≤(a7 size b).2.1∧(a7 size b).2.1+(a7 size b).1*size≤b.length∧getInt b=((a7 size b).1,(a7 size b).2.1,0):=by
 unfold a7 at h ⊢
 split at h
 ·rename_i h1;exact absurd h h1
 rename_i h1
 rw [if_neg h1]
 split at h
 ·simp at h
 rename_i ar
 rw [if_neg ar]
 split at h
 ·simp at h
 rename_i aQ
 rw [if_neg aQ]
 have e:getInt b=((getInt b).1,(getInt b).2.1,0):=by
  have:(getInt b).2.2=0:=by omega
  rw [← this]
 have:=NA e
 exact ⟨rfl,by omega,by omega,by omega,e⟩
theorem LB(size n:Nat)(bD:n<9223372036854775808)(t:List UInt8):a7 size (int (n:Int)++t)=if t.length<n*size then (0,0,3) else ((n:Int),((int (n:Int)).length:Int),0):=by
 unfold a7
 rw [Gj n ag]
 dsimp only
 rw [if_neg (by simp),if_neg ag,List.length_append]
 have e:(((int (n:Int)).length+t.length:Nat):Int)-((int (n:Int)).length:Int)<(n:Int)*size↔t.length<n*size:=by
  have:(n:Int)*size=((n*size:Nat):Int):=by simp
  rw [this];omega
 by_cases h:t.length<n*size
 ·rw [if_pos (e.2 h),if_pos h]
 ·rw [if_neg (fun ar=>h (e.1 ar)),if_neg h]
theorem VX(size n:Nat)(i:Nat)(h:i<(int (n:Int)).length):a7 size ((int (n:Int)).take i)=(0,0,3):=by
 unfold a7
 rw [YX _ _ h]
 rfl
structure T6 {α:Type}(enc:α→List UInt8) (dec:List UInt8→α×Int×Int) (p:α→Prop):Prop where
 rt:∀ x t,p x→dec (enc x++t)=(x,((enc x).length:Int),0)
 canon:∀ b x k,dec b=(x,k,0)→p x∧k=((enc x).length:Int)∧∃ t,b=enc x++t
 short:∀ x i,p x→i<(enc x).length→(dec ((enc x).take i)).2.2=3
 pos:∀ x,1≤(enc x).length
theorem VY:T6 bytes dZ (fun s=>s.length<9223372036854775808):=by
 refine ⟨fun s t h=>?_,fun b s k h=>?_,fun s i hs h=>?_,fun s=>by have:=oo s.length;unfold bytes;rw [List.length_append];omega⟩
 ·unfold dZ bytes
  have aU:=LB 1 s.length h (s++t)
  rw [if_neg (by rw [List.length_append];omega)] at aU
  rw [List.append_assoc,aU]
  dsimp only
  rw [if_neg (by simp),Int.toNat_natCast,Int.toNat_natCast,List.drop_left',List.take_left',List.length_append]
  ·simp
  ·rfl
  ·rfl
 ·unfold dZ at h
  split at h
  ·rename_i h1
   simp only [Prod.mk.injEq] at h
   exact absurd h.2.2 h1
  ·rename_i h1
   have bq:=BX (size:=1) (b:=b) ag
   obtain ⟨_,ar,aQ,bF,cO⟩:=bq
   obtain ⟨aY,aE,t,aN⟩:=Cj cO
   generalize (a7 1 b).1=n at h ar aQ bF cO aY aE aN
   generalize (a7 1 b).2.1=m at h aQ bF cO aE
   simp only [Prod.mk.injEq,and_true] at h
   obtain ⟨rfl,rfl⟩:=h
   subst aN aE
   rw [List.length_append] at bF
   have bL:(int n++t).drop (Int.toNat ((int n).length:Int))=t:=by rw [Int.toNat_natCast,List.drop_left'];rfl
   rw [bL]
   have hl:(t.take n.toNat).length=n.toNat:=by rw [List.length_take];omega
   have bT:(((t.take n.toNat).length:Nat):Int)=n:=by rw [hl];omega
   refine ⟨by rw [hl];omega,?_,t.drop n.toNat,?_⟩
   ·unfold bytes
    rw [bT,List.length_append,hl]
    omega
   ·unfold bytes
    rw [bT,List.append_assoc,List.take_append_drop]
 ·unfold bytes at h ⊢
  rw [List.length_append] at h
  rcases Nat.lt_or_ge i (int (s.length:Int)).length with aH | aH
  ·rw [List.take_append_of_le_length ag]
   unfold dZ
   rw [VX 1 _ _ aH]
   rfl
  ·rw [List.take_append,List.take_of_length_le aH]
   have aU:=LB 1 s.length hs (s.take (i-(int (s.length:Int)).length))
   rw [if_pos (by rw [List.length_take];omega)] at aU
   unfold dZ
   rw [aU]
   rfl
section
variable {α:Type}{enc:α→List UInt8}{dec:List UInt8→α×Int×Int}{p:α→Prop}
def ali(enc:α→List UInt8)(xs:List α):List UInt8:=int (xs.length:Int)++xs.flatMap enc
end
end aF
end Go.aK
end
section
namespace Go.aK
namespace ja
def sz{α:Type}(enc:α→List UInt8)(xs:List α)(i:Nat):List UInt8:=aF.int (xs.length:Int)++(xs.take i).flatMap enc
end ja
end Go.aK
end
section
namespace Go.aK
namespace aF
theorem y3(h:UInt8)(t:List UInt8):getInt (h::t)=if 8<(h ^^^ fA h).toNat-128 then (0,0,2)
  else if t.length<(h ^^^ fA h).toNat-128 then (0,0,3)
  else if 0<(h ^^^ fA h).toNat-128∧t.getD 0 0 ^^^ fA h=0 then (0,0,2)
  else if 9223372036854775808≤ga ((t.take ((h ^^^ fA h).toNat-128)).map (· ^^^ fA h)) then (0,0,2)
  else (if fA h=0 then (ga ((t.take ((h ^^^ fA h).toNat-128)).map (· ^^^ fA h)):Int) else -1-(ga ((t.take ((h ^^^ fA h).toNat-128)).map (· ^^^ fA h)):Int),(((h ^^^ fA h).toNat-128:Nat):Int)+1,0):=rfl
section
variable {h:UInt8}{t:List UInt8}{K:Nat}{b8:UInt8}
theorem NB(eK:b8=fA h)(dU:K=(h ^^^ b8).toNat-128)(dJ:8<K):getInt (h::t)=(0,0,2):=by
 rw [y3,← eK,← dU,if_pos dJ]
theorem ND(eK:b8=fA h)(dU:K=(h ^^^ b8).toNat-128)(dJ:¬ 8<K)(hl:t.length<K):getInt (h::t)=(0,0,3):=by
 rw [y3,← eK,← dU,if_neg dJ,if_pos hl]
theorem NG(eK:b8=fA h)(dU:K=(h ^^^ b8).toNat-128)(dJ:¬ 8<K)(hl:¬ t.length<K)(h0:0<K∧t.getD 0 0 ^^^ b8=0):getInt (h::t)=(0,0,2):=by
 rw [y3,← eK,← dU,if_neg dJ,if_neg hl,if_pos h0]
theorem NC(eK:b8=fA h)(dU:K=(h ^^^ b8).toNat-128)(dJ:¬ 8<K)(hl:¬ t.length<K)(hm:9223372036854775808≤ga ((t.take K).map (· ^^^ b8))):getInt (h::t)=(0,0,2):=by
 rw [y3,← eK,← dU,if_neg dJ,if_neg hl]
 split
 ·rfl
 ·first | rfl | rw [if_pos hm]
theorem NF(eK:b8=fA h)(dU:K=(h ^^^ b8).toNat-128)(dJ:¬ 8<K)(hl:¬ t.length<K)(h0:¬ (0<K∧t.getD 0 0 ^^^ b8=0))(hm:¬ 9223372036854775808≤ga ((t.take K).map (· ^^^ b8))) :
  getInt (h::t)=(if b8=0 then (ga ((t.take K).map (· ^^^ b8)):Int) else -1-(ga ((t.take K).map (· ^^^ b8)):Int),(K:Int)+1,0):=by
 rw [y3,← eK,← dU,if_neg dJ,if_neg hl,if_neg h0,if_neg hm]
end
theorem oP{xs:List UInt8}{a b c:Int}(h:getInt xs=(a,b,c)):Value.tuple [aA a,aA b,aA c].toArray=.tuple [aA (getInt xs).1,aA (getInt xs).2.1,aA (getInt xs).2.2].toArray:=by rw [h]
theorem ajg(l:List UInt8)(d:UInt8):ga (l++[d])=ga l*256+d.toNat:=by
 unfold ga
 rw [List.foldl_append]
 rfl
def iY(t:List UInt8)(b8:UInt8)(K j:Nat):Nat:=ga (((t.take K).take j).map (· ^^^ b8))
theorem TG(t:List UInt8)(b8:UInt8)(K:Nat):iY t b8 K 0=0:=by simp [iY,ga]
theorem Be(t:List UInt8)(b8:UInt8)(K:Nat):iY t b8 K K=ga ((t.take K).map (· ^^^ b8)):=by
 unfold iY
 rw [List.take_take,Nat.min_self]
theorem En(t:List UInt8)(b8:UInt8)(K j:Nat)(aV:j<K)(hl:K≤t.length):iY t b8 K (j+1)=iY t b8 K j*256+(t.getD j 0 ^^^ b8).toNat:=by
 unfold iY
 rw [List.take_succ_eq_append_getElem (by rw [List.length_take];omega),List.map_append,List.map_cons,List.map_nil,ajg,List.getElem_take,List.getD_eq_getElem?_getD,List.getElem?_eq_getElem ag]
 rfl
theorem ajk(t:List UInt8)(b8:UInt8)(K j:Nat)(aV:j≤7):iY t b8 K j<72057594037927936:=by
 have h1:=Bc (((t.take K).take j).map (· ^^^ b8))
 have ar:(((t.take K).take j).map (· ^^^ b8)).length≤7:=by simp;omega
 have aQ:256^(((t.take K).take j).map (· ^^^ b8)).length≤256^7:=Nat.pow_le_pow_right ag ar
 have bF:256^7=72057594037927936:=by decide
 unfold iY
 omega
theorem ajl(t:List UInt8)(b8:UInt8)(K i:Nat)(aH:i<K)(hl:K≤t.length):iY t b8 K i*256≤iY t b8 K K:=by
 have:∀ d,i+1+d≤K→iY t b8 K i*256≤iY t b8 K (i+1+d):=by
  intro d
  induction d with
  | zero=>intro _;rw [Nat.add_zero,En t b8 K i aH hl];omega
  | succ d ih=>
   intro aT
   have:=ih ag
   rw [show i+1+(d+1)=(i+1+d)+1 by omega,En t b8 K (i+1+d) ag hl]
   omega
 have h:=this (K-(i+1)) ag
 rwa [show i+1+(K-(i+1))=K by omega] at h
theorem ahX(m:UInt64)(c:UInt8)(h:m.toNat<72057594037927936):(dA ((m.toNat:Int)*2^min (Int.toNat 8) 64) ||| dA (c.toNat:Int)).toNat=m.toNat*256+c.toNat:=by
 have h1:=nb ((m.toNat:Int)*2^min (Int.toNat 8) 64)
 have ar:=nb (c.toNat:Int)
 have aQ:=c.toNat_lt
 have e:(2:Int)^min (Int.toNat 8) 64=256:=by decide
 rw [e] at h1
 rw [UInt64.toNat_or,e]
 have bL:(dA ((m.toNat:Int)*256)).toNat=2^8*m.toNat:=by omega
 have bT:(dA (c.toNat:Int)).toNat=c.toNat:=by omega
 rw [bL,bT,← Nat.two_pow_add_eq_or_of_lt ag]
 omega
theorem SO(m:UInt64):(0:UInt64)<UInt64.ofNat (m.toNat/2^min (Int.toNat 63) 64)↔9223372036854775808≤m.toNat:=by
 have e:2^min (Int.toNat 63) 64=9223372036854775808:=by decide
 rw [e,UInt64.lt_iff_toNat_lt,UInt64.toNat_ofNat',Nat.mod_eq_of_lt (Nat.lt_of_le_of_lt (Nat.div_le_self _ _) (by have:=m.toNat_lt;omega))]
 show 0<_↔_
 omega
theorem ahV(m:UInt64)(h:¬ 9223372036854775808≤m.toNat):oB m=m.toNat:=by
 unfold oB;rw [if_pos ag]
theorem ahU(m:UInt64)(h:¬ 9223372036854775808≤m.toNat):oB (~~~m) = -1-(m.toNat:Int):=by
 have e:(~~~m).toNat=18446744073709551615-m.toNat:=by rw [UInt64.toNat_not];rfl
 have:=m.toNat_lt
 unfold oB
 rw [e,if_neg ag]
 omega
theorem Mp{b8:UInt8}(h:b8=0∨b8=255):0<b8↔¬ b8=0:=by
 rcases h with rfl | rfl <;> decide
theorem ais{h:UInt8}{t:List UInt8}{K:Nat}:(((h::t).take ((K:Int)+1).toNat).drop (1:Int).toNat)=t.take K:=by
 rw [show ((K:Int)+1).toNat=K+1 by omega,show (1:Int).toNat=1 from rfl]
 rfl
theorem agM{xs:List UInt8}{n:Int}{K:Nat}(bD : -9223372036854775808≤n∧n≤9223372036854775807)(hl:K+1≤xs.length)(h:int n=xs.take (K+1)):getInt xs=(n,(K:Int)+1,0):=by
 have e:xs=int n++xs.drop (K+1):=by rw [h,List.take_append_drop]
 have aE:(int n).length=K+1:=by rw [h,List.length_take];omega
 rw [e,Gj n bD,aE]
 rfl
theorem agL{h:UInt8}{t:List UInt8}{K:Nat}{b8:UInt8}{n:Int}(eK:b8=fA h)(dU:K=(h ^^^ b8).toNat-128)(dJ:¬ 8<K)(hl:¬ t.length<K)(hm:¬ 9223372036854775808≤iY t b8 K K)(bD:n=if b8=0 then (iY t b8 K K:Int) else -1-(iY t b8 K K:Int))(fG:¬ int n=(h::t).take (K+1)):getInt (h::t)=(0,0,2):=by
 by_cases h0:0<K∧t.getD 0 0 ^^^ b8=0
 ·exact NG eK dU dJ hl h0
 ·exfalso
  rw [Be] at hm bD
  have aP:=NF eK dU dJ hl h0 hm
  rw [← bD] at aP
  obtain ⟨_,ar,b7,aQ⟩:=Cj aP
  apply fG
  rw [aQ,List.take_left' ag]
theorem aaD(h:UInt8):(h.toNat<128→fA h=255∧(h ^^^ 255).toNat-128=127-h.toNat)∧(¬ h.toNat<128→fA h=0∧(h ^^^ 0).toNat-128=h.toNat-128):=by
 have:∀ b:BitVec 8,((UInt8.ofBitVec b).toNat<128→fA (UInt8.ofBitVec b)=255∧((UInt8.ofBitVec b) ^^^ 255).toNat-128=127-(UInt8.ofBitVec b).toNat)∧(¬ (UInt8.ofBitVec b).toNat<128→fA (UInt8.ofBitVec b)=0∧((UInt8.ofBitVec b) ^^^ 0).toNat-128=(UInt8.ofBitVec b).toNat-128):=by decide +kernel
 exact this h.toBitVec
theorem aim(d:UInt8):(255:Int)-(d.toNat:Int)=((d ^^^ 255).toNat:Int):=by
 have:∀ b:BitVec 8,(255:Int)-((UInt8.ofBitVec b).toNat:Int)=(((UInt8.ofBitVec b) ^^^ 255).toNat:Int):=by decide +kernel
 exact this d.toBitVec
end aF
end Go.aK
namespace Go.aK
namespace aF
def ir(size:Nat)(b:List UInt8):Int×Int×Int:=
 if (getInt b).2.2≠0 then getInt b
 else if (getInt b).1<0 then ((getInt b).1,(getInt b).2.1,2)
 else if ((b.length:Int)-(getInt b).2.1)/size<(getInt b).1 then ((getInt b).1,(getInt b).2.1,3)
 else getInt b
theorem y4{b:List UInt8}(h:(getInt b).2.2=0):1≤(getInt b).2.1∧(getInt b).2.1≤b.length∧(getInt b).2.1≤9:=by
 have e:getInt b=((getInt b).1,(getInt b).2.1,0):=by rw [← h]
 exact NA e
theorem Wn(L n:Int)(s:Nat)(hs:0<s)(zf:0≤L):L/s<n↔L<n*s:=by
 have hs':(0:Int)<s:=by omega
 exact Int.ediv_lt_iff_lt_mul hs'
theorem TK(s:Nat)(hs:0<s)(b:List UInt8):(ir s b).2.2=(a7 s b).2.2∧((a7 s b).2.2=0→ir s b=a7 s b):=by
 unfold ir a7
 split
 ·rename_i h;exact ⟨rfl,fun ar=>absurd ar h⟩
 rename_i h
 have bO:=y4 (b:=b) ag
 split
 ·exact ⟨rfl,fun ar=>by simp at ar⟩
 have e:=Wn ((b.length:Int)-(getInt b).2.1) (getInt b).1 s hs ag
 by_cases aQ:((b.length:Int)-(getInt b).2.1)/s<(getInt b).1
 ·rw [if_pos aQ,if_pos (e.1 aQ)]
  exact ⟨rfl,fun ar=>by simp at ar⟩
 ·rw [if_neg aQ,if_neg (fun bF=>aQ (e.2 bF))]
  exact ⟨rfl,fun _=>rfl⟩
theorem ajo{s:Nat}(hs:0<s){b:List UInt8}(h:(ir s b).2.2=0):ir s b=a7 s b∧0≤(ir s b).1∧1≤(ir s b).2.1∧(ir s b).2.1+(ir s b).1*s≤b.length:=by
 obtain ⟨h1,ar⟩:=TK s hs b
 rw [h1] at h
 have e:=ar h
 obtain ⟨_,aQ,bF,cO,_⟩:=BX h
 rw [e]
 exact ⟨rfl,aQ,bF,cO⟩
theorem ajm{s:Nat}{xs:List UInt8}{e:Int}(h:e=(ir s xs).2.2)(h1:(ir s xs).1=(getInt xs).1)(ar:(ir s xs).2.1=(getInt xs).2.1):Value.tuple [aA (getInt xs).1,aA (getInt xs).2.1,aA e].toArray=.tuple [aA (ir s xs).1,aA (ir s xs).2.1,aA (ir s xs).2.2].toArray:=by rw [h,h1,ar]
theorem ajn(s:Nat)(b:List UInt8):(ir s b).1=(getInt b).1∧(ir s b).2.1=(getInt b).2.1:=by
 unfold ir
 split
 ·exact ⟨rfl,rfl⟩
 split
 ·exact ⟨rfl,rfl⟩
 split <;> exact ⟨rfl,rfl⟩
theorem BV{s:Nat}{xs:List UInt8}{a b c:Int}(h:a7 s xs=(a,b,c)):Value.tuple [aA a,aA b,aA c].toArray=.tuple [aA (a7 s xs).1,aA (a7 s xs).2.1,aA (a7 s xs).2.2].toArray:=by rw [h]
theorem VQ{s:Nat}{xs:List UInt8}(h:¬ (getInt xs).2.2=0):a7 s xs=(0,0,(getInt xs).2.2):=by unfold a7;rw [if_pos h]
theorem VS{s:Nat}{xs:List UInt8}(h:(getInt xs).2.2=0)(h1:(getInt xs).1<0):a7 s xs=(0,0,2):=by unfold a7;rw [if_neg ag,if_pos h1]
theorem VR{s:Nat}(hs:0<s){xs:List UInt8}(h:(getInt xs).2.2=0)(h1:¬ (getInt xs).1<0)(ar:(xs.length:Int)<(getInt xs).1∨(xs.length:Int)-(getInt xs).2.1<(getInt xs).1*s):a7 s xs=(0,0,3):=by
 have bO:=y4 h
 have aQ:(xs.length:Int)-(getInt xs).2.1<(getInt xs).1*s:=by
  rcases ar with ar | ar
  ·have:(getInt xs).1*1≤(getInt xs).1*s:=Int.mul_le_mul_of_nonneg_left ag ag
   omega
  ·exact ar
 unfold a7;rw [if_neg ag,if_neg h1,if_pos aQ]
theorem VT{s:Nat}{xs:List UInt8}(h:(getInt xs).2.2=0)(h1:¬ (getInt xs).1<0)(ar:¬ (xs.length:Int)<(getInt xs).1∧¬ (xs.length:Int)-(getInt xs).2.1<(getInt xs).1*s):a7 s xs=((getInt xs).1,(getInt xs).2.1,0):=by
 unfold a7;rw [if_neg ag,if_neg h1,if_neg ar.2,← h]
theorem Nt{c:Int×Int×Int}{xs:List UInt8}(bq:c.2.2=(a7 1 xs).2.2)(h:¬ c.2.2=0):Value.tuple [vs [],aA 0,aA c.2.2].toArray=.tuple [vs (dZ xs).1,aA (dZ xs).2.1,aA (dZ xs).2.2].toArray:=by
 have e:dZ xs=([],0,(a7 1 xs).2.2):=by unfold dZ;rw [if_pos (by rw [← bq];exact h)]
 rw [e,bq]
theorem Nu{c:Int×Int×Int}{xs:List UInt8}(bq:c=a7 1 xs)(h:c.2.2=0)(h0:0≤c.1∧0≤c.2.1):Value.tuple [vs ((xs.take (c.2.1+c.1).toNat).drop c.2.1.toNat),aA (c.2.1+c.1),aA 0].toArray=.tuple [vs (dZ xs).1,aA (dZ xs).2.1,aA (dZ xs).2.2].toArray:=by
 subst bq
 have e:dZ xs=((xs.drop (a7 1 xs).2.1.toNat).take (a7 1 xs).1.toNat,(a7 1 xs).2.1+(a7 1 xs).1,0):=by unfold dZ;rw [if_neg ag]
 rw [e,List.drop_take,show ((a7 1 xs).2.1+(a7 1 xs).1).toNat-(a7 1 xs).2.1.toNat=(a7 1 xs).1.toNat by omega]
end aF
end Go.aK
end
section
namespace Go.aK
theorem bo.nil{α:Type}{E:ej α}{z:aR}:bo E z (.slice none 0 0) []:=⟨by simp,none,0,rfl,Nat.le_refl _,fun i x h=>by simp at h⟩
namespace aF
theorem y2(b:List UInt8):0≤(getInt b).2.1∧(getInt b).2.1≤b.length∧(getInt b).2.1≤9:=by
 rcases Nz b with h | ⟨h,_⟩
 ·have:=y4 h;omega
 ·have e:(getInt b).2.1=0:=by rw [h]
  omega
theorem Ny{b:List UInt8}(h:(dZ b).2.2=0):1≤(dZ b).2.1∧(dZ b).2.1≤b.length∧(dZ b).1.length≤b.length:=by
 unfold dZ at h ⊢
 split at h
 ·rename_i h1;exact absurd h h1
 rename_i h1
 rw [if_neg h1]
 obtain ⟨_,ar,aQ,bF,_⟩:=BX (size:=1) (b:=b) ag
 refine ⟨by dsimp only;omega,by dsimp only;omega,?_⟩
 dsimp only
 rw [List.length_take,List.length_drop]
 omega
section
variable {α:Type}{dec:List UInt8→α×Int×Int}
end
end aF
end Go.aK
namespace Go.aK
namespace aF
def Wf(b:List UInt8)(a j:Nat):List (List UInt8):=(List.range j).map fun k=>(b.drop (a+16*k)).take 16
end aF
section
variable {P:Program}{n:Nat}{w0:World}{zs:List aR}{hs:List aC}{L:List (Nat×Value)}{d:Option Tmp}{ty t b7:TypeId}{pos:String}{af:Array Edge}{g:Option (Nat×Bool)}
variable {x y c:Operand}{u v:Value}
end
end Go.aK
namespace Go.aK
theorem ja.nP{α:Type}(d:α){l:List α}{i:Nat}(h:i<l.length):l.take (i+1)=l.take i++[l.getD i d]:=by
 rw [List.take_succ_eq_append_getElem h,List.getD_eq_getElem?_getD,List.getElem?_eq_getElem h]
 rfl
end Go.aK
namespace Go.aK
end Go.aK
end
section
namespace Go.aK
namespace aF
def akA(n:Int):Prop := -9223372036854775808≤n∧n≤9223372036854775807
end aF
end Go.aK
end
section
namespace Go.aK
namespace aF
theorem Nx(xs:List UInt8):(dZ xs).1.length≤xs.length:=by
 unfold dZ
 split
 ·simp
 ·dsimp only
  rw [List.length_take,List.length_drop]
  omega
end aF
end Go.aK
namespace Go.aK
namespace aF
end aF
end Go.aK
end
