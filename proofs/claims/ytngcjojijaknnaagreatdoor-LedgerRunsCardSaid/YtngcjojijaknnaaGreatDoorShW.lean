/- walks and plain laws -/
import Derived.Test.YtngcjojijaknnaaGreatDoorFwA
import Derived.Test.YtngcjojijaknnaaGreatDoorFwB
import Derived.Test.YtngcjojijaknnaaGreatDoorFwD
import Derived.Test.YtngcjojijaknnaaGreatDoorGuA
set_option linter.all false
section
/- SHA-256 in plain words: what the walks compute, and that it is one thing. -/
namespace Go.aJ
namespace aK
def ek:List UInt32:=[1116352408,1899447441,3049323471,3921009573,961987163,1508970993,2453635748,2870763221,3624381080,310598401,607225278,1426881987,1925078388,2162078206,2614888103,3248222580,3835390401,4022224774,264347078,604807628,770255983,1249150122,1555081692,1996064986,2554220882,2821834349,2952996808,3210313671,3336571891,3584528711,113926993,338241895,666307205,773529912,1294757372,1396182291,1695183700,1986661051,2177026350,2456956037,2730485921,2820302411,3259730800,3345764771,3516065817,3600352804,4094571909,275423344,430227734,506948616,659060556,883997877,958139571,1322822218,1537002063,1747873779,1955562222,2024104815,2227730452,2361852424,2428436474,2756734187,3204031479,3329325298]
def iO(x:UInt32)(n:UInt32):UInt32:=(x >>> n) ||| (x <<< (32-n))
def word(b:List UInt8)(t:Nat):UInt32:=
 ((b.getD (4*t) 0).toUInt32 <<< 24) ||| ((b.getD (4*t+1) 0).toUInt32 <<< 16) ||| ((b.getD (4*t+2) 0).toUInt32 <<< 8) ||| (b.getD (4*t+3) 0).toUInt32
def cG(x:UInt32):UInt32:=iO x 7 ^^^ iO x 18 ^^^ (x >>> 3)
def s1(x:UInt32):UInt32:=iO x 17 ^^^ iO x 19 ^^^ (x >>> 10)
def hC(b:List UInt8):Nat→List UInt32
 | 0=>[]
 | t+1=>let w:=hC b t;w++[if t<16 then word b t else w.getD (t-16) 0+cG (w.getD (t-15) 0)+w.getD (t-7) 0+s1 (w.getD (t-2) 0)]
abbrev sR:=UInt32×UInt32×UInt32×UInt32×UInt32×UInt32×UInt32×UInt32
def S4(e:UInt32):UInt32:=iO e 6 ^^^ iO e 11 ^^^ iO e 25
def S3(a:UInt32):UInt32:=iO a 2 ^^^ iO a 13 ^^^ iO a 22
def PO(s:sR)(k w:UInt32):sR:=
 match s with
 | (a,b,c,d,e,f,g,h)=>
  let x:=h+S4 e+((e &&& f) ^^^ (~~~e &&& g))+k+w
  let y:=S3 a+((a &&& b) ^^^ (a &&& c) ^^^ (b &&& c))
  (x+y,a,b,c,d+x,e,f,g)
def rounds(ws:List UInt32)(s:sR):Nat→sR
 | 0=>s
 | t+1=>PO (rounds ws s t) (ek.getD t 0) (ws.getD t 0)
def BL(s:sR):List UInt32:=match s with | (a,b,c,d,e,f,g,h)=>[a,b,c,d,e,f,g,h]
def afg(l:List UInt32):sR:=(l.getD 0 0,l.getD 1 0,l.getD 2 0,l.getD 3 0,l.getD 4 0,l.getD 5 0,l.getD 6 0,l.getD 7 0)
def comp(s:List UInt32)(b:List UInt8):List UInt32:=List.zipWith (· + ·) s (BL (rounds (hC b 64) (afg s) 64))
def init:List UInt32:=[0x6a09e667,0xbb67ae85,0x3c6ef372,0xa54ff53a,0x510e527f,0x9b05688c,0x1f83d9ab,0x5be0cd19]
structure j3 where
 st:List UInt32
 bl:List UInt8
 n:UInt64
def sW(s:j3)(c:UInt8):j3:=
 let bl:=s.bl.set (s.n.toNat%64) c
 { st:=if s.n.toNat%64=63 then comp s.st bl else s.st,bl:=bl,n:=s.n+1 }
def fE(s:j3)(t:List UInt8):j3:=t.foldl sW s
def jq:j3:=⟨init,List.replicate 64 0,0⟩
def mW(n:UInt64):List UInt8:=(List.range 8).map fun i=>UInt8.ofNat (n.toNat/2^(56-8*i))
def gW(n:Nat):Nat:=(119-n%64)%64
def pad(n:UInt64):List UInt8:=128::(List.replicate (gW n.toNat) 0++mW (8*n))
def r6(st:List UInt32):List UInt8:=(List.range 32).map fun i=>UInt8.ofNat ((st.getD (i/4) 0).toNat/2^(24-8*(i%4)))
def fin(s:j3):List UInt8:=r6 (fE s (pad s.n)).st
def sum(m:List UInt8):List UInt8:=fin (fE jq m)
theorem l3(b:List UInt8):∀ t,(hC b t).length=t
 | 0=>rfl
 | t+1=>by simp [hC,l3 b t]
theorem AB(s:List UInt32)(b:List UInt8)(h:s.length=8):(comp s b).length=8:=by
 simp [comp,h,BL]
def rotl(x:UInt32)(k:Int):UInt32:=k1 ((x.toNat:Int)*2^(min (((di k &&& 31).toNat:Int)).toNat 32)) ||| UInt32.ofNat (x.toNat/2^(min (((32:UInt64)-(di k &&& 31)).toNat:Int).toNat 32))
theorem wv(x:UInt32)(k:Nat)(aD:k<32):k1 ((x.toNat:Int)*2^k)=x <<< UInt32.ofNat k:=by
 apply UInt32.toNat_inj.1
 have h1:=B8 ((x.toNat:Int)*2^k)
 have aq:(UInt32.ofNat k).toNat=k:=by rw [UInt32.toNat_ofNat'];exact Nat.mod_eq_of_lt (by omega)
 rw [UInt32.toNat_shiftLeft,aq,Nat.mod_eq_of_lt aD,Nat.shiftLeft_eq]
 have aQ:((x.toNat:Int)*2^k)=((x.toNat*2^k:Nat):Int):=by simp
 rw [aQ] at h1 ⊢
 omega
theorem CI(x:UInt32)(k:Nat)(aD:k<32):UInt32.ofNat (x.toNat/2^k)=x >>> UInt32.ofNat k:=by
 apply UInt32.toNat_inj.1
 have aq:(UInt32.ofNat k).toNat=k:=by rw [UInt32.toNat_ofNat'];exact Nat.mod_eq_of_lt (by omega)
 rw [UInt32.toNat_shiftRight,aq,Nat.mod_eq_of_lt aD,Nat.shiftRight_eq_div_pow,UInt32.toNat_ofNat']
 have:=Nat.div_le_self x.toNat (2^k)
 have:=x.toNat_lt
 exact Nat.mod_eq_of_lt (by omega)
theorem xA(c:UInt8):k1 (c.toNat:Int)=c.toUInt32:=by
 apply UInt32.toNat_inj.1
 have h1:=B8 (c.toNat:Int)
 have:=c.toNat_lt
 rw [UInt8.toNat_toUInt32]
 omega
theorem HC(x:UInt32)(k:Nat)(h1:0<k)(aq:k<32):rotl x (-(k:Int))=iO x (UInt32.ofNat k):=by
 have bK:((di (-(k:Int)) &&& 31).toNat)=32-k:=by
  have aQ:=mD (-(k:Int))
  rw [UInt64.toNat_and]
  have bH:(di (-(k:Int))).toNat=18446744073709551616-k:=by omega
  rw [bH,show (31:UInt64).toNat=2^5-1 from rfl,Nat.and_two_pow_sub_one_eq_mod]
  omega
 have bV:(((32:UInt64)-(di (-(k:Int)) &&& 31)).toNat)=k:=by
  rw [UInt64.toNat_sub,bK,show (32:UInt64).toNat=32 from rfl]
  omega
 unfold rotl iO
 rw [bK,bV,Int.toNat_natCast,Int.toNat_natCast,Nat.min_eq_left (by omega),Nat.min_eq_left (by omega),wv x _ (by omega),CI x k aq,UInt32.or_comm]
 congr 1
 congr 1
 apply UInt32.toNat_inj.1
 rw [UInt32.toNat_sub,UInt32.toNat_ofNat',UInt32.toNat_ofNat',show (32:UInt32).toNat=32 from rfl]
 omega
def rk(b:List UInt8)(t:Nat):Nat→UInt32
 | 0=>0
 | j+1=>(rk b t j <<< 8) ||| (b.getD (4*t+j) 0).toUInt32
theorem Jw(b:List UInt8)(t:Nat):rk b t 4=word b t:=by
 simp only [rk,word,Nat.add_zero]
 apply UInt32.toBitVec_inj.1
 have Kq:(8:UInt32).toBitVec%32#32=8#32:=by decide
 have Us:(24:UInt32).toBitVec%32#32=24#32:=by decide
 have Un:(16:UInt32).toBitVec%32#32=16#32:=by decide
 have js:(0:UInt32).toBitVec=0#32:=rfl
 simp only [UInt32.toBitVec_or,UInt32.toBitVec_shiftLeft,Kq,Us,Un,js]
 simp [BitVec.shiftLeft_or_distrib,← BitVec.shiftLeft_add]
def fQ(b:List UInt8)(t:Nat):List UInt32:=hC b t++List.replicate (64-t) 0
def lH(b:List UInt8)(t j:Nat):List UInt32:=hC b t++(rk b t j::List.replicate (63-t) 0)
theorem HT(b:List UInt8)(t:Nat)(h:t≤64):(fQ b t).length=64:=by simp [fQ,l3];omega
theorem afr(b:List UInt8)(t j:Nat)(h:t<64):(lH b t j).length=64:=by simp [lH,l3];omega
theorem HS(b:List UInt8)(t:Nat)(h:t<64):fQ b t=lH b t 0:=by
 unfold fQ lH rk
 rw [show 64-t=(63-t)+1 by omega,List.replicate_succ]
theorem afq(b:List UInt8)(t j:Nat):(lH b t j).getD t 0=rk b t j:=by
 simp [lH,l3]
theorem afs(b:List UInt8)(t j:Nat)(x:UInt32)(aL:x=rk b t (j+1)):(lH b t j).set t x=lH b t (j+1):=by
 subst aL
 unfold lH
 rw [List.set_append_right _ _ (by rw [l3];exact Nat.le_refl _),l3,Nat.sub_self,List.set_cons_zero]
theorem Qi(b:List UInt8)(t:Nat)(h:t<16):lH b t 4=fQ b (t+1):=by
 unfold lH fQ
 rw [Jw,hC]
 simp only [if_pos h,List.append_assoc,List.cons_append,List.nil_append]
 rw [show 64-(t+1)=63-t by omega]
theorem CG(b:List UInt8)(t k:Nat)(h:k<t):(fQ b t).getD k 0=(hC b t).getD k 0:=by
 unfold fQ
 simp only [List.getD_eq_getElem?_getD]
 rw [List.getElem?_append_left (by rw [l3];exact h)]
theorem aft(b:List UInt8)(t:Nat)(h1:16≤t)(aq:t<64)(x:UInt32)
  (aL:x=(hC b t).getD (t-16) 0+cG ((hC b t).getD (t-15) 0)+(hC b t).getD (t-7) 0+s1 ((hC b t).getD (t-2) 0)):(fQ b t).set t x=fQ b (t+1):=by
 subst aL
 rw [HS b t aq]
 unfold lH fQ
 rw [List.set_append_right _ _ (by rw [l3];exact Nat.le_refl _),l3,Nat.sub_self,List.set_cons_zero,hC]
 simp only [if_neg (show ¬ t<16 by omega),List.append_assoc,List.cons_append,List.nil_append]
 rw [show 64-(t+1)=63-t by omega]
theorem Qj(b:List UInt8):fQ b 64=hC b 64:=by simp [fQ]
theorem Sy(bb:List UInt8)(t j:Int)(h0:0≤t)(h1:t<16)(aq:0≤j)(aQ:j<4)(hl:bb.length=64) :
  (lH bb t.toNat j.toNat).set t.toNat (k1 (((lH bb t.toNat j.toNat).getD t.toNat 0).toNat*2^min (Int.toNat 8) 32) ||| k1 (((List.drop (4*t).toNat (List.take (4*t+4).toNat bb)).getD j.toNat 0).toNat:Int))=lH bb t.toNat (j+1).toNat:=by
 obtain ⟨t,rfl⟩:=Int.eq_ofNat_of_zero_le h0
 obtain ⟨j,rfl⟩:=Int.eq_ofNat_of_zero_le aq
 simp only [Int.toNat_natCast]
 rw [show ((j:Int)+1).toNat=j+1 by omega,show (4*(t:Int)).toNat=4*t by omega,show (4*(t:Int)+4).toNat=4*t+4 by omega,show min (Int.toNat 8) 32=8 from rfl]
 refine afs bb t j _ ?_
 rw [afq,wv _ 8 (by omega),xA,rk]
 congr 2
 simp only [List.getD_eq_getElem?_getD]
 rw [List.getElem?_drop,List.getElem?_take,if_pos (by omega)]
theorem Qk(bb:List UInt8)(t:Int)(h1:16≤t)(aq:t<64) :
  ((fQ bb t.toNat).set t.toNat ((fQ bb t.toNat).getD (t-16).toNat 0+(rotl ((fQ bb t.toNat).getD (t-15).toNat 0) (-7) ^^^ rotl ((fQ bb t.toNat).getD (t-15).toNat 0) (-18) ^^^ UInt32.ofNat (((fQ bb t.toNat).getD (t-15).toNat 0).toNat/2^min (Int.toNat 3) 32))+(fQ bb t.toNat).getD (t-7).toNat 0 +
   (rotl ((fQ bb t.toNat).getD (t-2).toNat 0) (-17) ^^^ rotl ((fQ bb t.toNat).getD (t-2).toNat 0) (-19) ^^^ UInt32.ofNat (((fQ bb t.toNat).getD (t-2).toNat 0).toNat/2^min (Int.toNat 10) 32))))=fQ bb (t+1).toNat:=by
 obtain ⟨t,rfl⟩:=Int.eq_ofNat_of_zero_le (show 0≤t by omega)
 simp only [Int.toNat_natCast]
 rw [show ((t:Int)+1).toNat=t+1 by omega,show ((t:Int)-16).toNat=t-16 by omega,show ((t:Int)-15).toNat=t-15 by omega,show ((t:Int)-7).toNat=t-7 by omega,show ((t:Int)-2).toNat=t-2 by omega,show min (Int.toNat 3) 32=3 from rfl,show min (Int.toNat 10) 32=10 from rfl]
 refine aft bb t (by omega) (by omega) _ ?_
 rw [CG bb t _ (by omega),CG bb t _ (by omega),CG bb t _ (by omega),CG bb t _ (by omega),CI _ 3 (by omega),CI _ 10 (by omega)]
 have e:=HC
 have Uu:=fun x=>e x 7 (by omega) (by omega)
 have Up:=fun x=>e x 18 (by omega) (by omega)
 have Uo:=fun x=>e x 17 (by omega) (by omega)
 have Uq:=fun x=>e x 19 (by omega) (by omega)
 unfold cG s1
 rw [show (-7:Int) = -((7:Nat):Int) from rfl,show (-18:Int) = -((18:Nat):Int) from rfl,show (-17:Int) = -((17:Nat):Int) from rfl,show (-19:Int) = -((19:Nat):Int) from rfl,Uu,Up,Uo,Uq]
 rfl
def CY(ss fin:List UInt32)(i:Nat):List UInt32:=(List.range 8).map fun j=>if j%4<i then ss.getD j 0+fin.getD j 0 else ss.getD j 0
theorem Q6(ss fin:List UInt32)(i:Nat):(CY ss fin i).length=8:=by simp [CY]
theorem Nn{l:List UInt32}(h:l.length=8):∃ a b c d e f g k,l=[a,b,c,d,e,f,g,k]:=by
 match l,h with
 | [a,b,c,d,e,f,g,k],_=>exact ⟨a,b,c,d,e,f,g,k,rfl⟩
theorem abG(x:UInt32)(i j k:Int)(aG:0<i∧i<32)(a6:0<j∧j<32)(aD:0<k∧k<32) :
  rotl x (-i) ^^^ rotl x (-j) ^^^ rotl x (-k)=iO x (UInt32.ofNat i.toNat) ^^^ iO x (UInt32.ofNat j.toNat) ^^^ iO x (UInt32.ofNat k.toNat):=by
 have e:=fun (n:Int) (h:0<n∧n<32)=>HC x n.toNat (by omega) (by omega)
 have bK:=e i aG
 have bV:=e j a6
 have fx:=e k aD
 rw [Int.toNat_of_nonneg (by omega)] at bK bV fx
 rw [bK,bV,fx]
theorem rounds_succ(ws:List UInt32)(s:sR)(i:Int)(h:0≤i):rounds ws s (i+1).toNat=PO (rounds ws s i.toNat) (ek.getD i.toNat 0) (ws.getD i.toNat 0):=by
 rw [show (i+1).toNat=i.toNat+1 by omega]
 rfl
end aK
end Go.aJ
end
section
namespace Go.aJ
namespace aK
theorem SQ(n:UInt64):nO (n%64)=((n.toNat%64:Nat):Int):=by
 have h:(n%64).toNat=n.toNat%64:=by simp
 unfold nO
 rw [h]
 split <;> omega
theorem JF(n:UInt64)(m:Nat):(n+di (m:Int)).toNat%64=(n.toNat%64+m)%64:=by
 have h1:=mD (m:Int)
 rw [UInt64.toNat_add]
 omega
theorem xn(s:j3)(a b:List UInt8):fE s (a++b)=fE (fE s a) b:=by simp [fE]
theorem SC(s:j3)(a:List UInt8)(c:UInt8):fE s (a++[c])=sW (fE s a) c:=by simp [fE]
theorem afE(l:List UInt8)(v:List UInt8)(q:Nat)(c:UInt8)(h:q+v.length<l.length) :
  (l.take q++(v++l.drop (q+v.length))).set (q+v.length) c=l.take q++((v++[c])++l.drop (q+(v++[c]).length)):=by
 have e:(l.take q).length=q:=by simp;omega
 rw [List.set_append_right _ _ (by omega),e,Nat.add_sub_cancel_left,List.set_append_right _ _ (by omega),Nat.sub_self,List.append_assoc]
 congr 2
 rw [List.drop_eq_getElem_cons h]
 simp [Nat.add_assoc]
theorem N6(a b:Nat):di ((a+b:Nat):Int)=di (a:Int)+di (b:Int):=by
 apply UInt64.toNat.inj
 rw [UInt64.toNat_add]
 have h1:=mD ((a+b:Nat):Int)
 have aq:=mD (a:Int)
 have aQ:=mD (b:Int)
 omega
theorem Jz(s:j3)(q:Nat)(cn:s.n.toNat%64=q)(e4:s.bl.length=64):∀ (m:Nat) (u:List UInt8),u.length=m→q+m≤64 →
  fE s u=⟨if q+m=64 then comp s.st (s.bl.take q++(u++s.bl.drop (q+m))) else s.st,s.bl.take q++(u++s.bl.drop (q+m)),s.n+di (m:Int)⟩:=by
 intro m
 induction m with
 | zero=>
  intro u hu hm
  have vF:q<64:=by omega
  have:u=[]:=List.eq_nil_of_length_eq_zero hu
  subst this
  have h0:di ((0:Nat):Int)=0:=by decide
  rw [h0,if_neg (by omega)]
  simp [fE]
 | succ m ih=>
  intro u hu hm
  obtain ⟨v,c,rfl⟩:∃ v c,u=v++[c]:=by
   refine ⟨u.dropLast,u.getLast (by intro e;rw [e] at hu;simp at hu),?_⟩
   exact (List.dropLast_concat_getLast _).symm
  have bx:v.length=m:=by simpa using hu
  subst bx
  rw [SC,ih v rfl (by omega),if_neg (by omega)]
  have a7:(s.n+di (v.length:Int)).toNat%64=q+v.length:=by rw [JF,cn];omega
  unfold sW
  simp only [a7]
  have hs:=afE s.bl v q c (by omega)
  have hl:(v++[c]).length=v.length+1:=by simp
  rw [hs,hl]
  congr 1
  ·by_cases h:q+v.length=63
   ·rw [if_pos h,if_pos (by omega)]
   ·rw [if_neg h,if_neg (by omega)]
  ·rw [N6,UInt64.add_assoc]
   rfl
theorem Jx(s:j3)(t:List UInt8)(q k:Nat)(cn:s.n.toNat%64=q)(e4:s.bl.length=64)(aD:k≤t.length)(x7:q+k≤64) :
  fE s t=fE ⟨if q+k=64 then comp s.st (s.bl.take q++(t.take k++s.bl.drop (q+k))) else s.st,s.bl.take q++(t.take k++s.bl.drop (q+k)),s.n+di (k:Int)⟩ (t.drop k):=by
 rw [← Jz s q cn e4 k (t.take k) (by simp;omega) x7,← xn,List.take_append_drop]
theorem sY(s:j3)(dp:s.st.length=8)(e4:s.bl.length=64)(t:List UInt8):(fE s t).st.length=8∧(fE s t).bl.length=64:=by
 induction t generalizing s with
 | nil=>exact ⟨dp,e4⟩
 | cons c t ih=>
  refine ih (sW s c) ?_ ?_
  ·unfold sW;dsimp only;split
   ·exact AB _ _ dp
   ·exact dp
  ·simp [sW,e4]
end aK
end Go.aJ
end
section
namespace Go.aJ
namespace aK
theorem Dk(n:Nat):gW n<64:=by unfold gW;omega
theorem II(n:Nat):(n+(1+gW n))%64=56:=by unfold gW;omega
theorem R2(n j:Nat)(h:j≤gW n)(h1:(n+(1+j))%64=56):j=gW n:=by unfold gW at *;omega
theorem Am(n:UInt64):(mW n).length=8:=by simp [mW]
theorem JJ(n:UInt64)(i:Nat)(h:i<8):(mW n).take (i+1)=(mW n).take i++[UInt8.ofNat (n.toNat/2^(56-8*i))]:=by
 rw [List.take_add_one]
 simp [mW,h]
theorem JR(n:UInt64)(i:Int)(h:0≤i∧i<8):hb ((UInt64.ofNat (n.toNat/2^(min (56-8*i).toNat 64))).toNat:Int)=UInt8.ofNat (n.toNat/2^(56-8*i.toNat)):=by
 have e:min (56-8*i).toNat 64=56-8*i.toNat:=by omega
 rw [e]
 have h1:n.toNat/2^(56-8*i.toNat)<18446744073709551616:=Nat.lt_of_le_of_lt (Nat.div_le_self _ _) (by have:=n.toNat_lt;omega)
 have aq:(UInt64.ofNat (n.toNat/2^(56-8*i.toNat))).toNat=n.toNat/2^(56-8*i.toNat):=by
  rw [UInt64.toNat_ofNat']
  exact Nat.mod_eq_of_lt h1
 rw [aq]
 apply UInt8.toNat.inj
 have aQ:=qU ((n.toNat/2^(56-8*i.toNat):Nat):Int)
 rw [UInt8.toNat_ofNat']
 omega
def Ar(st:List UInt32)(i:Nat):UInt8:=UInt8.ofNat ((st.getD (i/4) 0).toNat/2^(24-8*(i%4)))
def o8(st:List UInt32)(i:Nat):List UInt8:=(List.range 32).map fun j=>if j<i then Ar st j else 0
theorem Of(st:List UInt32)(i:Nat):(o8 st i).length=32:=by simp [o8]
theorem Oe(st:List UInt32):o8 st 32=r6 st:=by
 unfold o8 r6
 apply List.map_congr_left
 intro j a6
 rw [List.mem_range] at a6
 rw [if_pos a6]
 rfl
theorem Og(st:List UInt32)(i:Nat)(h:i<32):(o8 st i).set i (Ar st i)=o8 st (i+1):=by
 apply List.ext_getElem
 ·simp [o8]
 ·intro j h1 aq
  simp [o8] at h1 aq
  rw [List.getElem_set]
  simp only [o8,List.getElem_map,List.getElem_range]
  by_cases a6:i=j
  ·subst a6;simp
  ·simp only [a6,if_false]
   by_cases aQ:j<i
   ·rw [if_pos aQ,if_pos (by omega)]
   ·rw [if_neg aQ,if_neg (by omega)]
theorem JS(st:List UInt32)(i:Int)(h:0≤i∧i<32):hb ((UInt32.ofNat ((st.getD (i/4).toNat 0).toNat/2^(min (24-8*(i%4)).toNat 32))).toNat:Int)=Ar st i.toNat:=by
 have e:min (24-8*(i%4)).toNat 32=24-8*(i.toNat%4):=by omega
 have bV:(i/4).toNat=i.toNat/4:=by omega
 rw [e,bV]
 unfold Ar
 generalize st.getD (i.toNat/4) 0=x
 have h1:x.toNat/2^(24-8*(i.toNat%4))<4294967296:=Nat.lt_of_le_of_lt (Nat.div_le_self _ _) (by have:=x.toNat_lt;omega)
 have aq:(UInt32.ofNat (x.toNat/2^(24-8*(i.toNat%4)))).toNat=x.toNat/2^(24-8*(i.toNat%4)):=by
  rw [UInt32.toNat_ofNat']
  exact Nat.mod_eq_of_lt h1
 rw [aq]
 apply UInt8.toNat.inj
 have aQ:=qU ((x.toNat/2^(24-8*(i.toNat%4)):Nat):Int)
 rw [UInt8.toNat_ofNat']
 omega
theorem acL(n:UInt64):(pad n).length<100:=by
 have:=Dk n.toNat
 simp [pad,mW]
 omega
theorem Od(st:List UInt32):(r6 st).length=32:=by simp [r6]
end aK
end Go.aJ
namespace Go.aJ
namespace aK
theorem Jy(s:j3)(t:List UInt8):(fE s t).n=s.n+di (t.length:Int):=by
 induction t generalizing s with
 | nil=>show s.n=s.n+di 0;rw [show di (0:Int)=0 by decide];simp
 | cons c t ih=>
  show (fE (sW s c) t).n=_
  rw [ih]
  show s.n+1+di (t.length:Int)=s.n+di ((t.length+1:Nat):Int)
  rw [N6,UInt64.add_assoc,show di ((1:Nat):Int)=1 by decide,UInt64.add_comm 1]
theorem DL(s:j3)(t:List UInt8)(h:s.n.toNat+t.length<18446744073709551616):(fE s t).n.toNat=s.n.toNat+t.length:=by
 rw [Jy,UInt64.toNat_add]
 have:=mD (t.length:Int)
 omega
theorem Ao:jq.st.length=8:=rfl
theorem An:jq.bl.length=64:=rfl
theorem xt:jq.n.toNat=0:=rfl
theorem AI(s:j3):(fin s).length=32:=Od _
theorem ow(m:List UInt8):(sum m).length=32:=AI _
def yM(key:List UInt8)(c:UInt8):List UInt8:=(key.take (min key.length 64)++(List.replicate 64 (0:UInt8)).drop (min key.length 64)).map (· ^^^ c)
def al0(key:List UInt8)(c:UInt8)(i:Nat):List UInt8:=
 let b:=key.take (min key.length 64)++(List.replicate 64 (0:UInt8)).drop (min key.length 64)
 (b.take i).map (· ^^^ c)++b.drop i
def keyOf(key:List UInt8):List UInt8:=if 64<key.length then sum key else key
def pU(key text:List UInt8):List UInt8:=
 fin (fE (fE jq (yM (keyOf key) 92)) (fin (fE (fE jq (yM (keyOf key) 54)) text)))
end aK
end Go.aJ
namespace Go.aJ
namespace aK
end aK
end Go.aJ
end
section
/- The wire's encodings in plain words. -/
namespace Go.aJ
namespace aF
def m7(m:UInt64):Nat→Nat
 | 0=>0
 | k+1=>if m.toNat/2^(8*k)=0 then m7 m k else k+1
def eb(m:UInt64):Nat:=m7 m 8
theorem GR(m:UInt64):∀ k,m7 m k≤k
 | 0=>Nat.le_refl _
 | k+1=>by unfold m7;split;exact Nat.le_succ_of_le (GR m k);exact Nat.le_refl _
theorem B0(m:UInt64):eb m≤8:=GR m 8
def dT(n:Int):UInt64:=if n<0 then ~~~(di n) else di n
def fZ(n:Int):UInt8:=if n<0 then 255 else 0
def digit(m:UInt64)(b0:UInt8)(i:Nat):UInt8:=UInt8.ofNat (m.toNat/2^(8*i)) ^^^ b0
def ha(m:UInt64)(b0:UInt8)(k i:Nat):List UInt8:=((List.range (k-i)).map fun j=>digit m b0 (k-1-j))
def int(n:Int):List UInt8:=(UInt8.ofNat (128+eb (dT n)) ^^^ fZ n)::ha (dT n) (fZ n) (eb (dT n)) 0
theorem Gu(n:Int):(int n).length=1+eb (dT n):=by simp [int,ha];omega
theorem od(n:Int):1≤(int n).length∧(int n).length≤9:=by have:=Gu n;have:=B0 (dT n);omega
def bytes(s:List UInt8):List UInt8:=int s.length++s
theorem J5(m:UInt64)(b0:UInt8)(k i:Nat)(h:i<k):ha m b0 k (i+1)++[digit m b0 i]=ha m b0 k i:=by
 unfold ha
 rw [show k-i=(k-(i+1))+1 by omega,List.range_succ,List.map_append]
 congr 1
 simp
 congr 1
 omega
theorem xC(m:UInt64)(b0:UInt8)(k i:Nat):(ha m b0 k i).length=k-i:=by simp [ha]
theorem Uc(m:UInt64)(b0:UInt8)(i:Int)(h:0≤i∧i<8):hb ((UInt64.ofNat (m.toNat/2^(min (8*i).toNat 64))).toNat:Int) ^^^ b0=digit m b0 i.toNat:=by
 have e:min (8*i).toNat 64=8*i.toNat:=by omega
 rw [e]
 unfold digit
 congr 1
 have h1:m.toNat/2^(8*i.toNat)<18446744073709551616:=Nat.lt_of_le_of_lt (Nat.div_le_self _ _) (by have:=m.toNat_lt;omega)
 have aq:(UInt64.ofNat (m.toNat/2^(8*i.toNat))).toNat=m.toNat/2^(8*i.toNat):=by
  rw [UInt64.toNat_ofNat']
  exact Nat.mod_eq_of_lt h1
 rw [aq]
 apply UInt8.toNat.inj
 have aQ:=qU ((m.toNat/2^(8*i.toNat):Nat):Int)
 rw [UInt8.toNat_ofNat']
 omega
theorem QL(m:UInt64)(k:Nat)(h:k<8):(0:UInt64)<UInt64.ofNat (m.toNat/2^(min (8*(k:Int)).toNat 64))↔¬ m.toNat/2^(8*k)=0:=by
 have e:min (8*(k:Int)).toNat 64=8*k:=by omega
 rw [e]
 have h1:m.toNat/2^(8*k)<18446744073709551616:=Nat.lt_of_le_of_lt (Nat.div_le_self _ _) (by have:=m.toNat_lt;omega)
 have aq:(UInt64.ofNat (m.toNat/2^(8*k))).toNat=m.toNat/2^(8*k):=by
  rw [UInt64.toNat_ofNat']
  exact Nat.mod_eq_of_lt h1
 rw [UInt64.lt_iff_toNat_lt,aq]
 show 0<_↔_
 omega
end aF
end Go.aJ
namespace Go.aJ
namespace aF
theorem B7(n:Nat):hb (n:Int)=UInt8.ofNat n:=by
 apply UInt8.toNat.inj
 have aQ:=qU (n:Int)
 rw [UInt8.toNat_ofNat']
 omega
end aF
end Go.aJ
namespace Go.aJ
namespace aF
theorem rv(ps:List (List UInt8))(bN:∀ p∈ps,p.length<1048576):(ps.flatMap bytes).length≤ps.length*1048585:=by
 induction ps with
 | nil=>simp
 | cons p ps ih=>
  have h1:=ih fun q cn=>bN q (by simp [cn])
  have aq:=bN p (by simp)
  have aQ:=od p.length
  simp only [List.flatMap_cons,List.length_append,List.length_cons,bytes]
  omega
end aF
namespace aK
def lZ(tag:Int)(ps:List (List UInt8)):j3:=fE (fE jq [hb tag]) (ps.flatMap aF.bytes)
def iL(tag:Int)(ps:List (List UInt8)):List UInt8:=(fin (lZ tag ps)).take 16
theorem N5(tag:Int)(ps:List (List UInt8)):(lZ tag ps).st.length=8∧(lZ tag ps).bl.length=64:=
 let h:=sY jq Ao An [hb tag]
 sY _ h.1 h.2 _
theorem acq(tag:Int)(ps:List (List UInt8))(bN:∀ p∈ps,p.length<1048576)(hl:ps.length<1048576):(lZ tag ps).n.toNat<2199023255552:=by
 have h1:=DL jq [hb tag] (by rw [xt];simp)
 have aq:=aF.rv ps bN
 have aQ:=DL (fE jq [hb tag]) (ps.flatMap aF.bytes) (by rw [h1,xt];simp only [List.length_cons,List.length_nil];omega)
 unfold lZ
 rw [aQ,h1,xt]
 simp only [List.length_cons,List.length_nil]
 omega
theorem acp(tag:Int):lZ tag []=fE jq [hb tag]:=rfl
theorem acr(tag:Int)(ps:List (List UInt8))(i:Nat)(h:i<ps.length):fE (lZ tag (ps.take i)) (aF.bytes ps[i])=lZ tag (ps.take (i+1)):=by
 unfold lZ
 rw [← xn,List.take_add_one,List.getElem?_eq_getElem h,List.flatMap_append]
 simp
theorem oh(tag:Int)(ps:List (List UInt8)):(iL tag ps).length=16:=by unfold iL;rw [List.length_take,AI];rfl
end aK
end Go.aJ
namespace Go.aJ
namespace aK
theorem acs(tag:Int)(ps:List (List UInt8))(i:Nat)(h:i<ps.length):fE (lZ tag (ps.take i)) (aF.bytes (ps.getD i []))=lZ tag (ps.take (i+1)):=by
 rw [← acr tag ps i h,List.getD_eq_getElem?_getD,List.getElem?_eq_getElem h]
 rfl
theorem jE(ps:List (List UInt8))(i:Nat)(h:i<ps.length):ps.getD i []∈ps:=by
 rw [List.getD_eq_getElem?_getD,List.getElem?_eq_getElem h]
 exact List.getElem_mem h
end aK
end Go.aJ
namespace Go.aJ
theorem aF.rp(p:List UInt8):(aF.bytes p).length≤p.length+9:=by
 have:=aF.od p.length
 simp only [aF.bytes,List.length_append]
 omega
end Go.aJ
end
section
namespace Go.aJ
namespace aF
def qP(n:Int):Int:=if n<0 then -1-n else n
theorem GM(n:Int)(h : -9223372036854775808≤n∧n≤9223372036854775807):((dT n).toNat:Int)=qP n:=by
 have cn:=mD n
 unfold dT qP
 split
 ·have:(~~~(di n)).toNat=18446744073709551615-(di n).toNat:=by
   rw [UInt64.toNat_not]
   rfl
  omega
 ·omega
theorem BX(m:UInt64):∀ k,(∀ i,i<m7 m k→0<m.toNat/2^(8*i))∧(m7 m k<k→m.toNat/2^(8*m7 m k)=0)
 | 0=>⟨fun i h=>absurd h (Nat.not_lt_zero _),fun h=>absurd h (Nat.not_lt_zero _)⟩
 | k+1=>by
  have ih:=BX m k
  have hle:=GR m k
  unfold m7
  split
  ·rename_i h0
   refine ⟨ih.1,fun _=>?_⟩
   rcases Nat.lt_or_ge (m7 m k) k with h | h
   ·exact ih.2 h
   ·rw [show m7 m k=k by omega];exact h0
  ·rename_i h0
   refine ⟨fun i aG=>?_,fun h=>absurd h (Nat.lt_irrefl _)⟩
   have h1:0<m.toNat/2^(8*k):=Nat.pos_of_ne_zero h0
   have aq:2^(8*i)≤2^(8*k):=Nat.pow_le_pow_right (by omega) (by omega)
   exact Nat.lt_of_lt_of_le h1 (Nat.div_le_div_left aq (Nat.pow_pos (by omega)))
theorem N0(m:UInt64):m.toNat/2^(8*eb m)=0:=by
 rcases Nat.lt_or_ge (eb m) 8 with h | h
 ·exact (BX m 8).2 h
 ·have:=B0 m
  rw [show eb m=8 by omega]
  have:=m.toNat_lt
  omega
theorem NZ(m:UInt64)(j:Nat)(h0:m.toNat/2^(8*j)=0)(h1:∀ i,i<j→0<m.toNat/2^(8*i)):j=eb m:=by
 rcases Nat.lt_trichotomy j (eb m) with h | h | h
 ·have:=(BX m 8).1 j h;omega
 ·exact h
 ·have:=h1 _ h;have:=N0 m;omega
end aF
end Go.aJ
namespace Go.aJ
namespace aF
theorem U0(d:UInt8):255-d=d ^^^ 255:=by
 apply UInt8.toBitVec_inj.1
 show 255#8-d.toBitVec=d.toBitVec ^^^ 255#8
 generalize d.toBitVec=b
 revert b
 decide +kernel
theorem Yt(k:Nat)(h:k≤8):hb (127-(k:Int))=UInt8.ofNat (128+k) ^^^ 255:=by
 have:∀ k:Nat,k≤8→hb (127-(k:Int))=UInt8.ofNat (128+k) ^^^ 255:=by decide
 exact this k h
def nY(m:Nat)(j:Nat):List UInt8:=(List.range j).map fun i=>UInt8.ofNat (m/2^(8*i))
theorem J2(m j:Nat):(nY m j).length=j:=by simp [nY]
theorem T8(m:Nat)(j:Nat)(mi:Int)(h:mi=((m/2^(8*j):Nat):Int)):nY m j++[hb (mi%256)]=nY m (j+1):=by
 unfold nY
 rw [List.range_succ,List.map_append]
 congr 1
 simp only [List.map_cons,List.map_nil]
 congr 1
 subst h
 apply UInt8.toNat.inj
 have aQ:=qU (((m/2^(8*j):Nat):Int)%256)
 rw [UInt8.toNat_ofNat']
 omega
theorem J1(m j i:Nat)(h:i<j):(nY m j).getD i 0=UInt8.ofNat (m/2^(8*i)):=by
 rw [List.getD_eq_getElem?_getD,List.getElem?_eq_getElem (by rw [J2];exact h)]
 simp [nY]
theorem Uf(m j:Nat)(mi:Int)(h:mi=((m/2^(8*j):Nat):Int)):mi/256=((m/2^(8*(j+1)):Nat):Int):=by
 subst h
 rw [show 8*(j+1)=8*j+8 by omega,Nat.pow_add,← Nat.div_div_eq_div_mul]
 omega
end aF
end Go.aJ
namespace Go.aJ
theorem aF.ab6(m:UInt64)(j:Nat)(h:∀ i,i<j→0<m.toNat/2^(8*i)):j≤8:=by
 rcases Nat.lt_or_ge 8 j with h1 | h1
 ·have aq:=h 8 h1
  have aQ:=m.toNat_lt
  have bH:m.toNat/2^(8*8)=0:=Nat.div_eq_of_lt aQ
  omega
 ·exact h1
theorem aF.Ud(a b:Nat):((a/b:Nat):Int)≤a:=by have:=Nat.div_le_self a b;omega
end Go.aJ
namespace Go.aJ
def aK.hy(tag:Int)(ps:List (List UInt8)):List UInt8:=hb tag::ps.flatMap aF.bytes
theorem aK.MP(tag:Int)(ps:List (List UInt8))(i:Nat)(h:i<ps.length):hy tag (ps.take i)++aF.bytes (ps.getD i [])=hy tag (ps.take (i+1)):=by
 unfold hy
 rw [List.take_add_one,List.getElem?_eq_getElem h,List.flatMap_append,List.getD_eq_getElem?_getD,List.getElem?_eq_getElem h,List.cons_append]
 simp
theorem aK.Gt(tag:Int)(ps:List (List UInt8))(bN:∀ p∈ps,p.length<1048576):(hy tag ps).length≤1+ps.length*1048585:=by
 have:=aF.rv ps bN
 unfold hy
 rw [List.length_cons]
 omega
theorem aK.aco(tag:Int)(ps:List (List UInt8)):iL tag ps=(sum (hy tag ps)).take 16:=by
 unfold iL lZ sum hy
 rw [← xn]
 rfl
end Go.aJ
end
section
namespace Go.aJ
namespace aK
theorem aeU(x:UInt32)(n:Int)(h:0<n∧n<32):UInt32.ofNat (x.toNat/2^(min n.toNat 32)) ||| k1 ((x.toNat:Int)*2^(min (32-n).toNat 32))=iO x (UInt32.ofNat n.toNat):=by
 obtain ⟨k,rfl⟩:=Int.eq_ofNat_of_zero_le (show 0≤n by omega)
 rw [Int.toNat_natCast,show min k 32=k by omega,show min (32-(k:Int)).toNat 32=32-k by omega,wv _ _ (by omega),CI _ _ (by omega)]
 unfold iO
 have e:UInt32.ofNat (32-k)=32-UInt32.ofNat k:=by
  apply UInt32.toNat.inj
  rw [UInt32.toNat_ofNat',UInt32.toNat_sub,UInt32.toNat_ofNat']
  simp
  omega
 rw [e]
theorem afu(b:List UInt8)(t:Nat)(h:t<16):(fQ b t).set t (word b t)=fQ b (t+1):=by
 rw [HS b t (by omega),← Jw,← Qi b t h]
 unfold lH
 rw [List.set_append_right _ _ (by rw [l3];exact Nat.le_refl _),l3,Nat.sub_self,List.set_cons_zero]
theorem ahk(bb:List UInt8)(t:Int)(h0:0≤t)(h1:t<16) :
  (fQ bb t.toNat).set t.toNat (k1 (((k1 (((bb.getD (4*t).toNat 0).toNat:Int))).toNat:Int)*2^min (Int.toNat 24) 32) ||| k1 (((k1 (((bb.getD (4*t+1).toNat 0).toNat:Int))).toNat:Int)*2^min (Int.toNat 16) 32) ||| k1 (((k1 (((bb.getD (4*t+2).toNat 0).toNat:Int))).toNat:Int)*2^min (Int.toNat 8) 32) ||| k1 (((bb.getD (4*t+3).toNat 0).toNat:Int)))=fQ bb (t+1).toNat:=by
 obtain ⟨t,rfl⟩:=Int.eq_ofNat_of_zero_le h0
 rw [show ((t:Int)+1).toNat=t+1 by omega,← afu bb t (by omega)]
 simp only [Int.toNat_natCast]
 rw [show (4*(t:Int)).toNat=4*t by omega,show (4*(t:Int)+1).toNat=4*t+1 by omega,show (4*(t:Int)+2).toNat=4*t+2 by omega,show (4*(t:Int)+3).toNat=4*t+3 by omega,
  show min (Int.toNat 24) 32=24 from rfl,show min (Int.toNat 16) 32=16 from rfl,show min (Int.toNat 8) 32=8 from rfl,xA,xA,xA,xA,wv _ 24 (by omega),wv _ 16 (by omega),wv _ 8 (by omega)]
 rfl
theorem aey(bb:List UInt8)(t:Int)(h1:16≤t)(aq:t<64) :
  ((fQ bb t.toNat).set t.toNat ((fQ bb t.toNat).getD (t-16).toNat 0+(iO ((fQ bb t.toNat).getD (t-15).toNat 0) (UInt32.ofNat (Int.toNat 7)) ^^^ iO ((fQ bb t.toNat).getD (t-15).toNat 0) (UInt32.ofNat (Int.toNat 18)) ^^^ UInt32.ofNat (((fQ bb t.toNat).getD (t-15).toNat 0).toNat/2^min (Int.toNat 3) 32))+(fQ bb t.toNat).getD (t-7).toNat 0 +
   (iO ((fQ bb t.toNat).getD (t-2).toNat 0) (UInt32.ofNat (Int.toNat 17)) ^^^ iO ((fQ bb t.toNat).getD (t-2).toNat 0) (UInt32.ofNat (Int.toNat 19)) ^^^ UInt32.ofNat (((fQ bb t.toNat).getD (t-2).toNat 0).toNat/2^min (Int.toNat 10) 32))))=fQ bb (t+1).toNat:=by
 rw [← Qk bb t h1 aq]
 have e:=HC
 rw [show (-7:Int) = -((7:Nat):Int) from rfl,show (-18:Int) = -((18:Nat):Int) from rfl,show (-17:Int) = -((17:Nat):Int) from rfl,show (-19:Int) = -((19:Nat):Int) from rfl,e _ 7 (by omega) (by omega),e _ 18 (by omega) (by omega),e _ 17 (by omega) (by omega),e _ 19 (by omega) (by omega)]
 rfl
end aK
end Go.aJ
end
section
namespace Go.aJ
namespace aK
def oQ(m:List UInt8)(i:Nat):List UInt8:=(m.take (64*i+64)).drop (64*i)
def pf(m:List UInt8):Nat→List UInt32
 | 0=>init
 | i+1=>comp (pf m i) (oQ m i)
theorem Hx(m:List UInt8):∀ i,(pf m i).length=8
 | 0=>rfl
 | i+1=>AB _ _ (Hx m i)
theorem Tb(m:List UInt8)(i:Nat)(h:64*i+64≤m.length):(oQ m i).length=64:=by simp [oQ];omega
theorem PG(m:List UInt8):∀ i,64*i≤m.length→(fE jq (m.take (64*i))).st=pf m i∧(fE jq (m.take (64*i))).n.toNat%64=0
 | 0,_=>by simp [fE,pf,jq]
 | i+1,h=>by
  have ih:=PG m i (by omega)
  have hl:=sY jq Ao An (m.take (64*i))
  have e:m.take (64*(i+1))=m.take (64*i)++oQ m i:=by
   unfold oQ
   rw [List.drop_take,show 64*i+64-64*i=64 by omega,show 64*(i+1)=64*i+64 by omega,List.take_add]
  have au:=Tb m i (by omega)
  rw [e,xn,Jz _ 0 ih.2 hl.2 64 (oQ m i) au (by omega)]
  refine ⟨?_,?_⟩
  ·dsimp only
   rw [if_pos (by omega),ih.1,List.drop_of_length_le (by omega)]
   simp [pf]
  ·dsimp only
   rw [JF,ih.2]
theorem On(n:Nat)(h:n<18446744073709551616):(pad (di (n:Int))).length=1+gW n+8:=by
 have cn:(di (n:Int)).toNat=n:=by have:=mD (n:Int);omega
 simp only [pad,cn,List.length_cons,List.length_append,List.length_replicate,Am]
 omega
theorem age(xs:List UInt8)(h:xs.length<18446744073709551616)(k:Nat)(aD:(xs++pad (di (xs.length:Int))).length=64*k):sum xs=r6 (pf (xs++pad (di (xs.length:Int))) k):=by
 have h1:=PG (xs++pad (di (xs.length:Int))) k (by omega)
 rw [List.take_of_length_le (by omega)] at h1
 rw [← h1.1]
 unfold sum fin
 rw [xn,Jy jq xs]
 have:jq.n+di (xs.length:Int)=di (xs.length:Int):=by show (0:UInt64)+_=_;simp
 rw [this]
theorem abR(xs:List UInt8)(h:xs.length<18446744073709551616):(xs++pad (di (xs.length:Int))).length%64=0:=by
 have:=II xs.length
 rw [List.length_append,On _ h]
 omega
theorem ahz(x:UInt32):x ^^^ 4294967295 = ~~~x:=by
 apply UInt32.toBitVec_inj.1
 show x.toBitVec ^^^ 4294967295#32 = ~~~x.toBitVec
 rw [show (4294967295#32:BitVec 32)=BitVec.allOnes 32 by decide,BitVec.xor_allOnes]
end aK
end Go.aJ
end
section
namespace Go.aJ
namespace aK
theorem MY(key:List UInt8):(keyOf key).length≤64:=by
 unfold keyOf
 split
 ·rw [ow];omega
 ·omega
end aK
end Go.aJ
namespace Go.aJ
namespace aK
end aK
end Go.aJ
namespace Go.aJ
namespace aK
def nX(xs:List UInt8)(n i:Nat):List UInt8:=xs.take i++List.replicate (n-i) 0
theorem TZ(xs:List UInt8)(n i:Nat)(h:i≤n)(aL:n≤xs.length):(nX xs n i).length=n:=by simp [nX];omega
theorem TY(xs:List UInt8)(n:Nat):nX xs n 0=List.replicate n 0:=by simp [nX]
theorem J0(xs:List UInt8)(n:Nat):nX xs n n=xs.take n:=by simp [nX]
theorem T0(xs:List UInt8)(n i:Nat)(h:i<n)(aL:n≤xs.length):(nX xs n i).set i (xs.getD i 0)=nX xs n (i+1):=by
 unfold nX
 have e:(xs.take i).length=i:=by simp;omega
 rw [List.set_append_right _ _ (by omega),e,Nat.sub_self,show n-i=(n-(i+1))+1 by omega,List.replicate_succ,List.set_cons_zero,List.take_add_one,List.getElem?_eq_getElem (by omega),List.getD_eq_getElem?_getD,List.getElem?_eq_getElem (by omega)]
 rw [List.append_assoc]
 rfl
end aK
end Go.aJ
end
section
namespace Go.aJ
namespace aF
def fu(l:List UInt8):Nat:=l.foldl (fun a d=>a*256+d.toNat) 0
theorem Wt(l:List UInt8):∀ a,l.foldl (fun a d=>a*256+d.toNat) a=a*256^l.length+fu l:=by
 induction l with
 | nil=>intro a;simp [fu]
 | cons d l ih=>
  intro a
  unfold fu
  simp only [List.foldl_cons,List.length_cons]
  rw [ih,ih (0*256+d.toNat),Nat.pow_succ,Nat.add_mul,Nat.mul_comm (256^l.length) 256,← Nat.mul_assoc,Nat.zero_mul,Nat.zero_add]
  omega
theorem zM(d:UInt8)(l:List UInt8):fu (d::l)=d.toNat*256^l.length+fu l:=by
 have:=Wt l (0*256+d.toNat)
 unfold fu
 rw [List.foldl_cons,this]
 simp [fu]
theorem J3(m:UInt64)(b0:UInt8)(k:Nat):ha m b0 (k+1) 0=digit m b0 k::ha m b0 k 0:=by
 unfold ha
 rw [Nat.sub_zero,Nat.sub_zero,List.range_succ_eq_map,List.map_cons,List.map_map]
 congr 1
 apply List.map_congr_left
 intro j a6
 simp only [Function.comp]
 congr 1
 omega
theorem vV(k:Nat):2^(8*k)=256^k:=by rw [Nat.pow_mul]
theorem RA(m:UInt64):∀ k,fu (ha m 0 k 0)=m.toNat%256^k
 | 0=>by simp [ha,fu,Nat.mod_one]
 | k+1=>by
  rw [J3,zM,RA m k,xC,Nat.sub_zero]
  have aT:(digit m 0 k).toNat=m.toNat/256^k%256:=by
   unfold digit
   rw [UInt8.xor_zero,UInt8.toNat_ofNat',vV]
  rw [aT,Nat.pow_succ,Nat.mod_mul,Nat.mul_comm]
  omega
theorem Nx(m:UInt64):m.toNat<256^eb m:=by
 have h:=N0 m
 rw [vV] at h
 exact (Nat.div_eq_zero_iff.1 h).resolve_left (Nat.ne_of_gt (Nat.pow_pos (by omega)))
theorem RB(m:UInt64):fu (ha m 0 (eb m) 0)=m.toNat:=by
 rw [RA]
 exact Nat.mod_eq_of_lt (Nx m)
theorem abu(n:Nat)(h:n<9223372036854775808):(dT (n:Int)).toNat=n:=by
 have cn:=mD (n:Int)
 unfold dT
 rw [if_neg (by omega)]
 omega
theorem UY(n:Nat):fZ (n:Int)=0:=by
 unfold fZ
 rw [if_neg (by omega)]
end aF
namespace aK
end aK
end Go.aJ
end
section
namespace Go.aJ
namespace aF
def e3(h:UInt8):UInt8:=if h<128 then 255 else 0
def getInt(b:List UInt8):Int×Int×Int:=
 match b with
 | []=>(0,0,3)
 | h::t=>
  if 8<(h ^^^ e3 h).toNat-128 then (0,0,2)
  else if t.length<(h ^^^ e3 h).toNat-128 then (0,0,3)
  else if 0<(h ^^^ e3 h).toNat-128∧t.getD 0 0 ^^^ e3 h=0 then (0,0,2)
  else if 9223372036854775808≤fu ((t.take ((h ^^^ e3 h).toNat-128)).map (· ^^^ e3 h)) then (0,0,2)
  else (if e3 h=0 then (fu ((t.take ((h ^^^ e3 h).toNat-128)).map (· ^^^ e3 h)):Int) else -1-(fu ((t.take ((h ^^^ e3 h).toNat-128)).map (· ^^^ e3 h)):Int),((h ^^^ e3 h).toNat-128:Nat)+1,0)
theorem J4(m:UInt64)(b0:UInt8)(k i:Nat):ha m b0 k i=(ha m 0 k i).map (· ^^^ b0):=by
 unfold ha
 rw [List.map_map]
 apply List.map_congr_left
 intro j _
 unfold digit
 simp
theorem De(a b:UInt8):a ^^^ b ^^^ b=a:=by rw [UInt8.xor_assoc,UInt8.xor_self,UInt8.xor_zero]
theorem NB(l:List UInt8)(b0:UInt8):(l.map (· ^^^ b0)).map (· ^^^ b0)=l:=by
 rw [List.map_map]
 conv=>rhs;rw [← List.map_id l]
 apply List.map_congr_left
 intro x _
 exact De x b0
theorem KI(n:Int):(n<0∧fZ n=255)∨(0≤n∧fZ n=0):=by
 unfold fZ
 by_cases h:n<0
 ·exact .inl ⟨h,if_pos h⟩
 ·exact .inr ⟨by omega,if_neg h⟩
theorem Yr:∀ k:Nat,k≤8→(∀ b0:UInt8,b0=0∨b0=255→e3 (UInt8.ofNat (128+k) ^^^ b0)=b0∧(UInt8.ofNat (128+k) ^^^ b0 ^^^ b0).toNat-128=k):=by
 have:∀ k:Nat,k≤8→e3 (UInt8.ofNat (128+k) ^^^ 0)=0∧e3 (UInt8.ofNat (128+k) ^^^ 255)=255∧(UInt8.ofNat (128+k)).toNat-128=k:=by decide
 intro k aD b0 eG
 obtain ⟨h1,aq,aQ⟩:=this k aD
 rw [De]
 rcases eG with rfl | rfl
 ·exact ⟨h1,aQ⟩
 ·exact ⟨aq,aQ⟩
theorem ab5(m:UInt64)(h:0<eb m):256^(eb m-1)≤m.toNat:=by
 have h1:=(BX m 8).1 (eb m-1) (show eb m-1<m7 m 8 by show eb m-1<eb m;omega)
 rw [vV] at h1
 exact Nat.le_of_not_lt fun aq=>by rw [Nat.div_eq_of_lt aq] at h1;omega
theorem UZ(n:Int):fZ n=0∨fZ n=255:=by
 rcases KI n with ⟨_,h⟩ | ⟨_,h⟩ <;> simp [h]
theorem WV(n:Int)(bA : -9223372036854775808≤n∧n≤9223372036854775807)(t:List UInt8):getInt (int n++t)=(n,((int n).length:Int),0):=by
 have hm:=GM n bA
 have aD:=B0 (dT n)
 obtain ⟨f1,f2⟩:=Yr (eb (dT n)) aD (fZ n) (UZ n)
 have hlen:=Gu n
 unfold int at hlen ⊢
 rw [List.cons_append]
 unfold getInt
 simp only [f1,f2]
 have rO:(ha (dT n) (fZ n) (eb (dT n)) 0).length=eb (dT n):=by rw [xC];omega
 have kX:(ha (dT n) (fZ n) (eb (dT n)) 0++t).take (eb (dT n))=ha (dT n) (fZ n) (eb (dT n)) 0:=by
  rw [List.take_append_of_le_length (by omega),List.take_of_length_le (by omega)]
 have bx:fu ((ha (dT n) (fZ n) (eb (dT n)) 0).map (· ^^^ fZ n))=(dT n).toNat:=by
  rw [J4,NB,RB]
 have X8:¬ (0<eb (dT n)∧(ha (dT n) (fZ n) (eb (dT n)) 0++t).getD 0 0 ^^^ fZ n=0):=by
  rintro ⟨h1,aq⟩
  obtain ⟨k,Bm⟩:∃ k,eb (dT n)=k+1:=⟨eb (dT n)-1,by omega⟩
  have e5:=ab5 (dT n) h1
  have gg:=Nx (dT n)
  rw [Bm,J3,List.cons_append,List.getD_cons_zero] at aq
  unfold digit at aq
  rw [De,vV] at aq
  rw [Bm] at e5 gg
  have aQ:=congrArg UInt8.toNat aq
  rw [UInt8.toNat_ofNat'] at aQ
  have bH:1≤(dT n).toNat/256^k:=(Nat.le_div_iff_mul_le (Nat.pow_pos (by omega))).2 (by simpa using e5)
  have cN:(dT n).toNat/256^k<256:=Nat.div_lt_of_lt_mul (by rw [Nat.pow_succ] at gg;exact gg)
  rw [Nat.mod_eq_of_lt cN] at aQ
  have:(0:UInt8).toNat=0:=rfl
  omega
 rw [if_neg (by omega),if_neg (by rw [List.length_append];omega),if_neg X8,kX,bx,if_neg (by unfold qP at hm;split at hm <;> omega)]
 refine Prod.ext ?_ (Prod.ext ?_ rfl)
 ·rcases KI n with ⟨h,e⟩ | ⟨h,e⟩
  ·simp only [e]
   rw [if_neg (by decide),hm];unfold qP;rw [if_pos h];omega
  ·simp only [e,if_true]
   rw [hm];unfold qP;rw [if_neg (by omega)]
 ·show ((eb (dT n):Nat):Int)+1=_
  rw [hlen]
  show ((eb (dT n):Nat):Int)+1=((1+eb (dT n):Nat):Int)
  omega
theorem zN:∀ (l:List UInt8),fu l<256^l.length
 | []=>by simp [fu]
 | d::l=>by
  rw [zM,List.length_cons,Nat.pow_succ]
  have h1:=zN l
  have aq:=d.toNat_lt
  have aQ:d.toNat*256^l.length≤255*256^l.length:=Nat.mul_le_mul_right _ (by omega)
  omega
theorem Rz:∀ (a b:List UInt8),a.length=b.length→fu a=fu b→a=b
 | [],[],_,_=>rfl
 | c::a,d::b,hl,bx=>by
  have x9:a.length=b.length:=by simpa using hl
  rw [zM,zM,x9] at bx
  have h1:=zN a
  have aq:=zN b
  rw [x9] at h1
  have bN:0<256^b.length:=Nat.pow_pos (by omega)
  have bK:c.toNat=d.toNat:=by
   have aQ:(c.toNat*256^b.length+fu a)/256^b.length=c.toNat:=by
    rw [Nat.mul_comm,Nat.mul_add_div bN,Nat.div_eq_of_lt h1];rfl
   have bH:(d.toNat*256^b.length+fu b)/256^b.length=d.toNat:=by
    rw [Nat.mul_comm,Nat.mul_add_div bN,Nat.div_eq_of_lt aq];rfl
   rw [← aQ,bx,bH]
  rw [UInt8.toNat.inj bK,Rz a b x9 (by rw [bK] at bx;omega)]
theorem abt(m:Nat)(h:m<9223372036854775808)(b0:UInt8)(eG:b0=0∨b0=255):(dT (if b0=0 then (m:Int) else -1-(m:Int))).toNat=m∧fZ (if b0=0 then (m:Int) else -1-(m:Int))=b0:=by
 rcases eG with rfl | rfl
 ·rw [if_pos rfl]
  exact ⟨abu m h,UY m⟩
 ·rw [if_neg (by decide)]
  refine ⟨?_,by unfold fZ;rw [if_pos (by omega)]⟩
  have:=GM (-1-(m:Int)) (by omega)
  unfold qP at this
  rw [if_pos (by omega)] at this
  omega
theorem KN(h:UInt8):e3 h=0∨e3 h=255:=by
 unfold e3
 split <;> simp
theorem KO:∀ h:UInt8,128≤(h ^^^ e3 h).toNat:=by
 intro h
 have:∀ b:BitVec 8,128≤((UInt8.ofBitVec b) ^^^ e3 (UInt8.ofBitVec b)).toNat:=by decide +kernel
 exact this h.toBitVec
theorem ET{b:List UInt8}{n k:Int}(h:getInt b=(n,k,0)):(-9223372036854775808≤n∧n≤9223372036854775807)∧k=(int n).length∧∃ t,b=int n++t:=by
 unfold getInt at h
 split at h
 ·simp at h
 ·rename_i aT t
  have mu:=KO aT
  have eG:=KN aT
  generalize dE:(aT ^^^ e3 aT).toNat-128=K at h
  generalize ab:e3 aT=b0 at h mu eG dE
  split at h
  ·simp at h
  rename_i dp
  split at h
  ·simp at h
  rename_i hl
  split at h
  ·simp at h
  rename_i h0
  split at h
  ·simp at h
  rename_i hm
  generalize dh:(t.take K).map (· ^^^ b0)=D at h hm
  have xO:D.length=K:=by rw [← dh];simp;omega
  obtain ⟨bK,bV⟩:=abt (fu D) (by omega) b0 eG
  simp only [Prod.mk.injEq,and_true] at h
  obtain ⟨rfl,rfl⟩:=h
  generalize bA:(if b0=0 then (fu D:Int) else -1-(fu D:Int))=n at bK bV
  have Zo : -9223372036854775808≤n∧n≤9223372036854775807:=by
   rw [← bA];split <;> omega
  have nE:eb (dT n)=K:=by
   symm
   refine NZ (dT n) K ?_ fun i aG=>?_
   ·rw [vV,bK]
    exact Nat.div_eq_of_lt (by have:=zN D;rwa [xO] at this)
   ·rw [vV,bK]
    have Xu:0<K:=by omega
    obtain ⟨c,sH,E4⟩:∃ c sH,D=c::sH:=by
     cases D with
     | nil=>simp at xO;omega
     | cons c sH=>exact ⟨c,sH,rfl⟩
    have bu:c≠0:=by
     intro h6
     apply h0
     refine ⟨Xu,?_⟩
     cases t with
     | nil=>simp at hl;omega
     | cons t0 bZ=>
      obtain ⟨IN,rfl⟩:∃ IN,K=IN+1:=⟨K-1,by omega⟩
      rw [List.take_succ_cons,List.map_cons,E4] at dh
      rw [List.getD_cons_zero]
      exact (List.cons.inj dh).1.trans h6
    have aS:1≤c.toNat:=by
     rcases Nat.eq_zero_or_pos c.toNat with cC | cC
     ·exact absurd (UInt8.toNat.inj (cC.trans (show 0=(0:UInt8).toNat from rfl))) bu
     ·exact cC
    have bx:fu D=c.toNat*256^sH.length+fu sH:=by rw [E4,zM]
    have Xi:sH.length=K-1:=by rw [E4] at xO;simp at xO;omega
    have h1:256^i≤256^(K-1):=Nat.pow_le_pow_right (by omega) (by omega)
    have aq:256^(K-1)≤c.toNat*256^(K-1):=Nat.le_mul_of_pos_left _ (by omega)
    rw [Xi] at bx
    exact Nat.div_pos (by omega) (Nat.pow_pos (by omega))
  refine ⟨Zo,?_,t.drop K,?_⟩
  ·rw [Gu,nE];omega
  ·have Yh:ha (dT n) (fZ n) K 0=t.take K:=by
    rw [J4,bV]
    have:ha (dT n) 0 K 0=D:=by
     refine Rz _ _ (by rw [xC,xO];omega) ?_
     have:=RB (dT n)
     rw [nE] at this
     rw [this,bK]
    rw [this,← dh,NB]
   unfold int
   rw [nE,Yh,bV]
   have YF:aT=UInt8.ofNat (128+K) ^^^ b0:=by
    have h1:aT ^^^ b0=UInt8.ofNat (128+K):=by
     apply UInt8.toNat.inj
     rw [UInt8.toNat_ofNat']
     omega
    rw [← h1,De]
   rw [← YF,List.cons_append,List.take_append_drop]
end aF
end Go.aJ
end
section
namespace Go.aJ
namespace aF
def ints(l:List Int):List UInt8:=int l.length++l.flatMap int
def strs(l:List (List UInt8)):List UInt8:=int l.length++l.flatMap bytes
def u3(l:List (List UInt8)):List UInt8:=int l.length++l.flatten
def bh(size:Nat)(b:List UInt8):Int×Int×Int:=
 if (getInt b).2.2≠0 then (0,0,(getInt b).2.2)
 else if (getInt b).1<0 then (0,0,2)
 else if (b.length:Int)-(getInt b).2.1<(getInt b).1*size then (0,0,3)
 else getInt b
def ef(b:List UInt8):List UInt8×Int×Int:=
 if (bh 1 b).2.2≠0 then ([],0,(bh 1 b).2.2)
 else ((b.drop (bh 1 b).2.1.toNat).take (bh 1 b).1.toNat,(bh 1 b).2.1+(bh 1 b).1,0)
def run{α:Type}(dec:List UInt8→α×Int×Int)(b:List UInt8)(qo:Int):Nat→List α×Int×Int
 | 0=>([],qo,0)
 | k+1=>
  if (run dec b qo k).2.2≠0 then run dec b qo k
  else if (dec (b.drop (run dec b qo k).2.1.toNat)).2.2≠0 then ([],0,(dec (b.drop (run dec b qo k).2.1.toNat)).2.2)
  else ((run dec b qo k).1++[(dec (b.drop (run dec b qo k).2.1.toNat)).1],(run dec b qo k).2.1+(dec (b.drop (run dec b qo k).2.1.toNat)).2.1,0)
def AZ{α:Type}(dec:List UInt8→α×Int×Int)(b:List UInt8):List α×Int×Int:=
 if (bh 1 b).2.2≠0 then ([],0,(bh 1 b).2.2) else run dec b (bh 1 b).2.1 (bh 1 b).1.toNat
def ajj(b:List UInt8):List Int×Int×Int:=AZ getInt b
def ajk(b:List UInt8):List (List UInt8)×Int×Int:=AZ ef b
def WU(b:List UInt8):List (List UInt8)×Int×Int:=
 if (bh 16 b).2.2≠0 then ([],0,(bh 16 b).2.2)
 else ((List.range (bh 16 b).1.toNat).map (fun k=>(b.drop ((bh 16 b).2.1.toNat+16*k)).take 16),(bh 16 b).2.1+16*(bh 16 b).1,0)
theorem LK{b:List UInt8}{n k:Int}(h:getInt b=(n,k,0)):1≤k∧k≤b.length∧k≤9:=by
 obtain ⟨_,rfl,t,rfl⟩:=ET h
 have:=od n
 rw [List.length_append]
 omega
theorem LJ(b:List UInt8):(getInt b).2.2=0∨getInt b=(0,0,(getInt b).2.2)∧((getInt b).2.2=2∨(getInt b).2.2=3):=by
 unfold getInt
 split
 ·simp
 ·repeat (first | split | simp)
theorem D4{size:Nat}{b:List UInt8}(h:(bh size b).2.2=0):bh size b=getInt b∧0≤(bh size b).1∧1≤(bh size b).2.1∧(bh size b).2.1+(bh size b).1*size≤b.length∧getInt b=((bh size b).1,(bh size b).2.1,0):=by
 unfold bh at h ⊢
 split at h
 ·rename_i h1;exact absurd h h1
 rename_i h1
 rw [if_neg h1]
 split at h
 ·simp at h
 rename_i aq
 rw [if_neg aq]
 split at h
 ·simp at h
 rename_i aQ
 rw [if_neg aQ]
 have e:getInt b=((getInt b).1,(getInt b).2.1,0):=by
  have:(getInt b).2.2=0:=by omega
  rw [← this]
 have:=LK e
 exact ⟨rfl,by omega,by omega,by omega,e⟩
structure ahO {α:Type}(enc:α→List UInt8) (dec:List UInt8→α×Int×Int) (p:α→Prop):Prop where
 rt:∀ x t,p x→dec (enc x++t)=(x,((enc x).length:Int),0)
 canon:∀ b x k,dec b=(x,k,0)→p x∧k=((enc x).length:Int)∧∃ t,b=enc x++t
 short:∀ x i,p x→i<(enc x).length→(dec ((enc x).take i)).2.2=3
 pos:∀ x,1≤(enc x).length
section
variable {α:Type}{enc:α→List UInt8}{dec:List UInt8→α×Int×Int}{p:α→Prop}
def aiX(enc:α→List UInt8)(xs:List α):List UInt8:=int (xs.length:Int)++xs.flatMap enc
end
end aF
end Go.aJ
end
section
namespace Go.aJ
namespace iw
def ru{α:Type}(enc:α→List UInt8)(xs:List α)(i:Nat):List UInt8:=aF.int (xs.length:Int)++(xs.take i).flatMap enc
end iw
end Go.aJ
end
section
namespace Go.aJ
namespace aF
theorem xJ(h:UInt8)(t:List UInt8):getInt (h::t)=if 8<(h ^^^ e3 h).toNat-128 then (0,0,2)
  else if t.length<(h ^^^ e3 h).toNat-128 then (0,0,3)
  else if 0<(h ^^^ e3 h).toNat-128∧t.getD 0 0 ^^^ e3 h=0 then (0,0,2)
  else if 9223372036854775808≤fu ((t.take ((h ^^^ e3 h).toNat-128)).map (· ^^^ e3 h)) then (0,0,2)
  else (if e3 h=0 then (fu ((t.take ((h ^^^ e3 h).toNat-128)).map (· ^^^ e3 h)):Int) else -1-(fu ((t.take ((h ^^^ e3 h).toNat-128)).map (· ^^^ e3 h)):Int),(((h ^^^ e3 h).toNat-128:Nat):Int)+1,0):=rfl
section
variable {h:UInt8}{t:List UInt8}{K:Nat}{b0:UInt8}
theorem LL(eG:b0=e3 h)(dE:K=(h ^^^ b0).toNat-128)(dp:8<K):getInt (h::t)=(0,0,2):=by
 rw [xJ,← eG,← dE,if_pos dp]
theorem LN(eG:b0=e3 h)(dE:K=(h ^^^ b0).toNat-128)(dp:¬ 8<K)(hl:t.length<K):getInt (h::t)=(0,0,3):=by
 rw [xJ,← eG,← dE,if_neg dp,if_pos hl]
theorem LP(eG:b0=e3 h)(dE:K=(h ^^^ b0).toNat-128)(dp:¬ 8<K)(hl:¬ t.length<K)(h0:0<K∧t.getD 0 0 ^^^ b0=0):getInt (h::t)=(0,0,2):=by
 rw [xJ,← eG,← dE,if_neg dp,if_neg hl,if_pos h0]
theorem LM(eG:b0=e3 h)(dE:K=(h ^^^ b0).toNat-128)(dp:¬ 8<K)(hl:¬ t.length<K)(hm:9223372036854775808≤fu ((t.take K).map (· ^^^ b0))):getInt (h::t)=(0,0,2):=by
 rw [xJ,← eG,← dE,if_neg dp,if_neg hl]
 split
 ·rfl
 ·first | rfl | rw [if_pos hm]
theorem LO(eG:b0=e3 h)(dE:K=(h ^^^ b0).toNat-128)(dp:¬ 8<K)(hl:¬ t.length<K)(h0:¬ (0<K∧t.getD 0 0 ^^^ b0=0))(hm:¬ 9223372036854775808≤fu ((t.take K).map (· ^^^ b0))) :
  getInt (h::t)=(if b0=0 then (fu ((t.take K).map (· ^^^ b0)):Int) else -1-(fu ((t.take K).map (· ^^^ b0)):Int),(K:Int)+1,0):=by
 rw [xJ,← eG,← dE,if_neg dp,if_neg hl,if_neg h0,if_neg hm]
end
theorem n0{xs:List UInt8}{a b c:Int}(h:getInt xs=(a,b,c)):Value.tuple [az a,az b,az c].toArray=.tuple [az (getInt xs).1,az (getInt xs).2.1,az (getInt xs).2.2].toArray:=by rw [h]
theorem ag0(l:List UInt8)(d:UInt8):fu (l++[d])=fu l*256+d.toNat:=by
 unfold fu
 rw [List.foldl_append]
 rfl
def iu(t:List UInt8)(b0:UInt8)(K j:Nat):Nat:=fu (((t.take K).take j).map (· ^^^ b0))
theorem RD(t:List UInt8)(b0:UInt8)(K:Nat):iu t b0 K 0=0:=by simp [iu,fu]
theorem zO(t:List UInt8)(b0:UInt8)(K:Nat):iu t b0 K K=fu ((t.take K).map (· ^^^ b0)):=by
 unfold iu
 rw [List.take_take,Nat.min_self]
theorem C2(t:List UInt8)(b0:UInt8)(K j:Nat)(a6:j<K)(hl:K≤t.length):iu t b0 K (j+1)=iu t b0 K j*256+(t.getD j 0 ^^^ b0).toNat:=by
 unfold iu
 rw [List.take_succ_eq_append_getElem (by rw [List.length_take];omega),List.map_append,List.map_cons,List.map_nil,ag0,List.getElem_take,List.getD_eq_getElem?_getD,List.getElem?_eq_getElem (by omega)]
 rfl
theorem ag5(t:List UInt8)(b0:UInt8)(K j:Nat)(a6:j≤7):iu t b0 K j<72057594037927936:=by
 have h1:=zN (((t.take K).take j).map (· ^^^ b0))
 have aq:(((t.take K).take j).map (· ^^^ b0)).length≤7:=by simp;omega
 have aQ:256^(((t.take K).take j).map (· ^^^ b0)).length≤256^7:=Nat.pow_le_pow_right (by omega) aq
 have bH:256^7=72057594037927936:=by decide
 unfold iu
 omega
theorem ag6(t:List UInt8)(b0:UInt8)(K i:Nat)(aG:i<K)(hl:K≤t.length):iu t b0 K i*256≤iu t b0 K K:=by
 have:∀ d,i+1+d≤K→iu t b0 K i*256≤iu t b0 K (i+1+d):=by
  intro d
  induction d with
  | zero=>intro _;rw [Nat.add_zero,C2 t b0 K i aG hl];omega
  | succ d ih=>
   intro aT
   have:=ih (by omega)
   rw [show i+1+(d+1)=(i+1+d)+1 by omega,C2 t b0 K (i+1+d) (by omega) hl]
   omega
 have h:=this (K-(i+1)) (by omega)
 rwa [show i+1+(K-(i+1))=K by omega] at h
theorem afM(m:UInt64)(c:UInt8)(h:m.toNat<72057594037927936):(di ((m.toNat:Int)*2^min (Int.toNat 8) 64) ||| di (c.toNat:Int)).toNat=m.toNat*256+c.toNat:=by
 have h1:=mD ((m.toNat:Int)*2^min (Int.toNat 8) 64)
 have aq:=mD (c.toNat:Int)
 have aQ:=c.toNat_lt
 have e:(2:Int)^min (Int.toNat 8) 64=256:=by decide
 rw [e] at h1
 rw [UInt64.toNat_or,e]
 have bK:(di ((m.toNat:Int)*256)).toNat=2^8*m.toNat:=by omega
 have bV:(di (c.toNat:Int)).toNat=c.toNat:=by omega
 rw [bK,bV,← Nat.two_pow_add_eq_or_of_lt (by omega)]
 omega
theorem QK(m:UInt64):(0:UInt64)<UInt64.ofNat (m.toNat/2^min (Int.toNat 63) 64)↔9223372036854775808≤m.toNat:=by
 have e:2^min (Int.toNat 63) 64=9223372036854775808:=by decide
 rw [e,UInt64.lt_iff_toNat_lt,UInt64.toNat_ofNat',Nat.mod_eq_of_lt (Nat.lt_of_le_of_lt (Nat.div_le_self _ _) (by have:=m.toNat_lt;omega))]
 show 0<_↔_
 omega
theorem afK(m:UInt64)(h:¬ 9223372036854775808≤m.toNat):nO m=m.toNat:=by
 unfold nO;rw [if_pos (by omega)]
theorem afJ(m:UInt64)(h:¬ 9223372036854775808≤m.toNat):nO (~~~m) = -1-(m.toNat:Int):=by
 have e:(~~~m).toNat=18446744073709551615-m.toNat:=by rw [UInt64.toNat_not];rfl
 have:=m.toNat_lt
 unfold nO
 rw [e,if_neg (by omega)]
 omega
theorem KJ{b0:UInt8}(h:b0=0∨b0=255):0<b0↔¬ b0=0:=by
 rcases h with rfl | rfl <;> decide
theorem agi{h:UInt8}{t:List UInt8}{K:Nat}:(((h::t).take ((K:Int)+1).toNat).drop (1:Int).toNat)=t.take K:=by
 rw [show ((K:Int)+1).toNat=K+1 by omega,show (1:Int).toNat=1 from rfl]
 rfl
theorem aex{xs:List UInt8}{n:Int}{K:Nat}(bA : -9223372036854775808≤n∧n≤9223372036854775807)(hl:K+1≤xs.length)(h:int n=xs.take (K+1)):getInt xs=(n,(K:Int)+1,0):=by
 have e:xs=int n++xs.drop (K+1):=by rw [h,List.take_append_drop]
 have aD:(int n).length=K+1:=by rw [h,List.length_take];omega
 rw [e,WV n bA,aD]
 rfl
theorem aew{h:UInt8}{t:List UInt8}{K:Nat}{b0:UInt8}{n:Int}(eG:b0=e3 h)(dE:K=(h ^^^ b0).toNat-128)(dp:¬ 8<K)(hl:¬ t.length<K)(hm:¬ 9223372036854775808≤iu t b0 K K)(bA:n=if b0=0 then (iu t b0 K K:Int) else -1-(iu t b0 K K:Int))(fq:¬ int n=(h::t).take (K+1)):getInt (h::t)=(0,0,2):=by
 by_cases h0:0<K∧t.getD 0 0 ^^^ b0=0
 ·exact LP eG dE dp hl h0
 ·exfalso
  rw [zO] at hm bA
  have aO:=LO eG dE dp hl h0 hm
  rw [← bA] at aO
  obtain ⟨_,aq,bZ,aQ⟩:=ET aO
  apply fq
  rw [aQ,List.take_left' (by omega)]
theorem Ys(h:UInt8):(h.toNat<128→e3 h=255∧(h ^^^ 255).toNat-128=127-h.toNat)∧(¬ h.toNat<128→e3 h=0∧(h ^^^ 0).toNat-128=h.toNat-128):=by
 have:∀ b:BitVec 8,((UInt8.ofBitVec b).toNat<128→e3 (UInt8.ofBitVec b)=255∧((UInt8.ofBitVec b) ^^^ 255).toNat-128=127-(UInt8.ofBitVec b).toNat)∧(¬ (UInt8.ofBitVec b).toNat<128→e3 (UInt8.ofBitVec b)=0∧((UInt8.ofBitVec b) ^^^ 0).toNat-128=(UInt8.ofBitVec b).toNat-128):=by decide +kernel
 exact this h.toBitVec
theorem agb(d:UInt8):(255:Int)-(d.toNat:Int)=((d ^^^ 255).toNat:Int):=by
 have:∀ b:BitVec 8,(255:Int)-((UInt8.ofBitVec b).toNat:Int)=(((UInt8.ofBitVec b) ^^^ 255).toNat:Int):=by decide +kernel
 exact this d.toBitVec
end aF
end Go.aJ
namespace Go.aJ
namespace aF
def hQ(size:Nat)(b:List UInt8):Int×Int×Int:=
 if (getInt b).2.2≠0 then getInt b
 else if (getInt b).1<0 then ((getInt b).1,(getInt b).2.1,2)
 else if ((b.length:Int)-(getInt b).2.1)/size<(getInt b).1 then ((getInt b).1,(getInt b).2.1,3)
 else getInt b
theorem xK{b:List UInt8}(h:(getInt b).2.2=0):1≤(getInt b).2.1∧(getInt b).2.1≤b.length∧(getInt b).2.1≤9:=by
 have e:getInt b=((getInt b).1,(getInt b).2.1,0):=by rw [← h]
 exact LK e
theorem Ue(L n:Int)(s:Nat)(hs:0<s)(xU:0≤L):L/s<n↔L<n*s:=by
 have hs':(0:Int)<s:=by omega
 exact Int.ediv_lt_iff_lt_mul hs'
theorem RH(s:Nat)(hs:0<s)(b:List UInt8):(hQ s b).2.2=(bh s b).2.2∧((bh s b).2.2=0→hQ s b=bh s b):=by
 unfold hQ bh
 split
 ·rename_i h;exact ⟨rfl,fun aq=>absurd aq h⟩
 rename_i h
 have bN:=xK (b:=b) (by omega)
 split
 ·exact ⟨rfl,fun aq=>by simp at aq⟩
 have e:=Ue ((b.length:Int)-(getInt b).2.1) (getInt b).1 s hs (by omega)
 by_cases aQ:((b.length:Int)-(getInt b).2.1)/s<(getInt b).1
 ·rw [if_pos aQ,if_pos (e.1 aQ)]
  exact ⟨rfl,fun aq=>by simp at aq⟩
 ·rw [if_neg aQ,if_neg (fun bH=>aQ (e.2 bH))]
  exact ⟨rfl,fun _=>rfl⟩
theorem ag9{s:Nat}(hs:0<s){b:List UInt8}(h:(hQ s b).2.2=0):hQ s b=bh s b∧0≤(hQ s b).1∧1≤(hQ s b).2.1∧(hQ s b).2.1+(hQ s b).1*s≤b.length:=by
 obtain ⟨h1,aq⟩:=RH s hs b
 rw [h1] at h
 have e:=aq h
 obtain ⟨_,aQ,bH,cN,_⟩:=D4 h
 rw [e]
 exact ⟨rfl,aQ,bH,cN⟩
theorem ag7{s:Nat}{xs:List UInt8}{e:Int}(h:e=(hQ s xs).2.2)(h1:(hQ s xs).1=(getInt xs).1)(aq:(hQ s xs).2.1=(getInt xs).2.1):Value.tuple [az (getInt xs).1,az (getInt xs).2.1,az e].toArray=.tuple [az (hQ s xs).1,az (hQ s xs).2.1,az (hQ s xs).2.2].toArray:=by rw [h,h1,aq]
theorem ag8(s:Nat)(b:List UInt8):(hQ s b).1=(getInt b).1∧(hQ s b).2.1=(getInt b).2.1:=by
 unfold hQ
 split
 ·exact ⟨rfl,rfl⟩
 split
 ·exact ⟨rfl,rfl⟩
 split <;> exact ⟨rfl,rfl⟩
theorem Ay{s:Nat}{xs:List UInt8}{a b c:Int}(h:bh s xs=(a,b,c)):Value.tuple [az a,az b,az c].toArray=.tuple [az (bh s xs).1,az (bh s xs).2.1,az (bh s xs).2.2].toArray:=by rw [h]
theorem TJ{s:Nat}{xs:List UInt8}(h:¬ (getInt xs).2.2=0):bh s xs=(0,0,(getInt xs).2.2):=by unfold bh;rw [if_pos h]
theorem TL{s:Nat}{xs:List UInt8}(h:(getInt xs).2.2=0)(h1:(getInt xs).1<0):bh s xs=(0,0,2):=by unfold bh;rw [if_neg (by omega),if_pos h1]
theorem TK{s:Nat}(hs:0<s){xs:List UInt8}(h:(getInt xs).2.2=0)(h1:¬ (getInt xs).1<0)(aq:(xs.length:Int)<(getInt xs).1∨(xs.length:Int)-(getInt xs).2.1<(getInt xs).1*s):bh s xs=(0,0,3):=by
 have bN:=xK h
 have aQ:(xs.length:Int)-(getInt xs).2.1<(getInt xs).1*s:=by
  rcases aq with aq | aq
  ·have:(getInt xs).1*1≤(getInt xs).1*s:=Int.mul_le_mul_of_nonneg_left (by omega) (by omega)
   omega
  ·exact aq
 unfold bh;rw [if_neg (by omega),if_neg h1,if_pos aQ]
theorem TM{s:Nat}{xs:List UInt8}(h:(getInt xs).2.2=0)(h1:¬ (getInt xs).1<0)(aq:¬ (xs.length:Int)<(getInt xs).1∧¬ (xs.length:Int)-(getInt xs).2.1<(getInt xs).1*s):bh s xs=((getInt xs).1,(getInt xs).2.1,0):=by
 unfold bh;rw [if_neg (by omega),if_neg h1,if_neg aq.2,← h]
theorem LD{c:Int×Int×Int}{xs:List UInt8}(bu:c.2.2=(bh 1 xs).2.2)(h:¬ c.2.2=0):Value.tuple [vs [],az 0,az c.2.2].toArray=.tuple [vs (ef xs).1,az (ef xs).2.1,az (ef xs).2.2].toArray:=by
 have e:ef xs=([],0,(bh 1 xs).2.2):=by unfold ef;rw [if_pos (by rw [← bu];exact h)]
 rw [e,bu]
theorem LF{c:Int×Int×Int}{xs:List UInt8}(bu:c=bh 1 xs)(h:c.2.2=0)(h0:0≤c.1∧0≤c.2.1):Value.tuple [vs ((xs.take (c.2.1+c.1).toNat).drop c.2.1.toNat),az (c.2.1+c.1),az 0].toArray=.tuple [vs (ef xs).1,az (ef xs).2.1,az (ef xs).2.2].toArray:=by
 subst bu
 have e:ef xs=((xs.drop (bh 1 xs).2.1.toNat).take (bh 1 xs).1.toNat,(bh 1 xs).2.1+(bh 1 xs).1,0):=by unfold ef;rw [if_neg (by omega)]
 rw [e,List.drop_take,show ((bh 1 xs).2.1+(bh 1 xs).1).toNat-(bh 1 xs).2.1.toNat=(bh 1 xs).1.toNat by omega]
end aF
end Go.aJ
end
section
namespace Go.aJ
theorem bg.nil{α:Type}{E:dO α}{z:aP}:bg E z (.slice none 0 0) []:=⟨by simp,none,0,rfl,Nat.le_refl _,fun i x h=>by simp at h⟩
namespace aF
theorem xI(b:List UInt8):0≤(getInt b).2.1∧(getInt b).2.1≤b.length∧(getInt b).2.1≤9:=by
 rcases LJ b with h | ⟨h,_⟩
 ·have:=xK h;omega
 ·have e:(getInt b).2.1=0:=by rw [h]
  omega
theorem LI{b:List UInt8}(h:(ef b).2.2=0):1≤(ef b).2.1∧(ef b).2.1≤b.length∧(ef b).1.length≤b.length:=by
 unfold ef at h ⊢
 split at h
 ·rename_i h1;exact absurd h h1
 rename_i h1
 rw [if_neg h1]
 obtain ⟨_,aq,aQ,bH,_⟩:=D4 (size:=1) (b:=b) (by omega)
 refine ⟨by dsimp only;omega,by dsimp only;omega,?_⟩
 dsimp only
 rw [List.length_take,List.length_drop]
 omega
section
variable {α:Type}{dec:List UInt8→α×Int×Int}
end
end aF
end Go.aJ
namespace Go.aJ
namespace aF
def T6(b:List UInt8)(a j:Nat):List (List UInt8):=(List.range j).map fun k=>(b.drop (a+16*k)).take 16
end aF
section
variable {P:Program}{n:Nat}{w0:World}{zs:List aP}{hs:List av}{L:List (Nat×Value)}{d:Option Tmp}{ty t bZ:TypeId}{pos:String}{af:Array Edge}{g:Option (Nat×Bool)}
variable {x y c:Operand}{u v:Value}
end
end Go.aJ
namespace Go.aJ
theorem iw.nb{α:Type}(d:α){l:List α}{i:Nat}(h:i<l.length):l.take (i+1)=l.take i++[l.getD i d]:=by
 rw [List.take_succ_eq_append_getElem h,List.getD_eq_getElem?_getD,List.getElem?_eq_getElem h]
 rfl
end Go.aJ
namespace Go.aJ
end Go.aJ
end
section
namespace Go.aJ
namespace aF
def aim(n:Int):Prop := -9223372036854775808≤n∧n≤9223372036854775807
end aF
end Go.aJ
end
section
namespace Go.aJ
namespace aF
theorem LH(xs:List UInt8):(ef xs).1.length≤xs.length:=by
 unfold ef
 split
 ·simp
 ·dsimp only
  rw [List.length_take,List.length_drop]
  omega
end aF
end Go.aJ
namespace Go.aJ
namespace aF
end aF
end Go.aJ
end
