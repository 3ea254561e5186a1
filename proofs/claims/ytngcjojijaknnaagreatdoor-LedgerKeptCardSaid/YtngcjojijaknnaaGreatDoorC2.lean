/- walks and plain laws -/
import Derived.Test.YtngcjojijaknnaaGreatDoorFwA
import Derived.Test.YtngcjojijaknnaaGreatDoorFwD
import Derived.Test.YtngcjojijaknnaaGreatDoorJnA
import Derived.Test.YtngcjojijaknnaaGreatDoorFwG
import Derived.Test.YtngcjojijaknnaaGreatDoorLgA
import Derived.Test.YtngcjojijaknnaaGreatDoorC1
import Derived.Test.YtngcjojijaknnaaGreatDoorLlay2
import Derived.Test.YtngcjojijaknnaaGreatDoorFwB
set_option linter.all false
namespace Go.Proofs.YtngcjojijaknnaaGreatDoor
open Go.aK
set_option maxRecDepth 4000
set_option maxHeartbeats 2000000
section
attribute [local irreducible] aL.sum
theorem Fx(n:Int)(bD : -9223372036854775808≤n∧n≤9223372036854775807)(w:World):cC Tryz.prog 27 [aA n] w (fun r _ _=>r=aA (aj.a7 n)):=by
 refine c4 Tryz.func27 rfl Tryz.ntmps27 b4 fun a ab U=>aD ab U (av rfl<|ah) fun a w ab U=>ax fun cG bJ=>bc fun dX cq=>aG ab U (ai rfl<|ae (cU rfl rfl)<|ai rfl<|ah) fun a w ab U=>?_
 refine gA 2 5 2 ab U rfl rfl rfl rfl rfl (fun aP=>have aP:=(by first | exact of_decide_eq_false aP | exact aP);aO 5 rfl rfl rfl (bE rfl)<|aO 5 rfl rfl rfl (fc rfl rfl)<|ah) rfl rfl fun a w ab U=>?_
 refine wpList_nil (cq _ _ ?_)
 refine df ab rfl (fun aU=>?_) (fun aU=>?_)
 ·(try simp only [dj] at aU)
  refine aD ab U (av rfl<|ah) fun a w ab U=>wp_ret ?_
  exact b0 (rs:=[.tmp 2]) rfl ab U (vs:=[_]) ⟨rfl,trivial⟩ ay ay (by rw [aj.yP ag])
 ·(try simp only [dj] at aU)
  refine wp_skip<|bJ _ _<|aD ab U (ai rfl<|b5 rfl rfl<|fy rfl rfl<|ae (ox rfl rfl ag)<|ae (tB rfl rfl)<|av rfl<|ah) fun a w ab U=>wp_ret ?_
  exact b0 (rs:=[.tmp 2]) rfl ab U (vs:=[_]) ⟨rfl,trivial⟩ ay ay (by rw [aj.VU ag])
theorem H9(n:Int)(bD : -9223372036854775808≤n∧n≤9223372036854775807)(w:World):cC Tryz.prog 128 [aA n] w (fun r _ _=>r=aA (aj.a7 n)):=by
 refine c4 Tryz.func128 rfl Tryz.ntmps128 b4 fun a ab U=>aD ab U (av rfl<|ah) fun a w ab U=>ax fun cG bJ=>bc fun dX cq=>aG ab U (ai rfl<|ae (cU rfl rfl)<|ai rfl<|ah) fun a w ab U=>?_
 refine gA 2 5 2 ab U rfl rfl rfl rfl rfl (fun aP=>have aP:=(by first | exact of_decide_eq_false aP | exact aP);aO 5 rfl rfl rfl (bE rfl)<|aO 5 rfl rfl rfl (fc rfl rfl)<|ah) rfl rfl fun a w ab U=>?_
 refine wpList_nil (cq _ _ ?_)
 refine df ab rfl (fun aU=>?_) (fun aU=>?_)
 ·(try simp only [dj] at aU)
  refine aD ab U (av rfl<|ah) fun a w ab U=>wp_ret ?_
  exact b0 (rs:=[.tmp 2]) rfl ab U (vs:=[_]) ⟨rfl,trivial⟩ ay ay (by rw [aj.yP ag])
 ·(try simp only [dj] at aU)
  refine wp_skip<|bJ _ _<|ax fun dL b9=>aD ab U (ai rfl<|ae (gq rfl rfl)<|ah) fun a w ab U=>cn ab rfl (fun bz=>?_) (fun bz=>?_)
  ·refine ax fun fa cT=>bx ab U (av rfl<|ah) fun a w ab U=>cT _ _ ?_
   refine wp_ret<|b0 (rs:=[.tmp 2]) rfl ab U (vs:=[_]) ⟨rfl,trivial⟩ ay ay (by rw [bz,aj.VV])
  ·refine wp_skip<|b9 _ _<|aD ab U (ai rfl<|b5 rfl rfl<|ae (ox rfl rfl ag)<|av rfl<|ah) fun a w ab U=>wp_ret ?_
   exact b0 (rs:=[.tmp 2]) rfl ab U (vs:=[_]) ⟨rfl,trivial⟩ ay ay (by rw [aj.Fv ag])
theorem JD(n m:Nat)(bD:n<9223372036854775808)(hm:m≤8)(w:World):cC Tryz.prog 160 [aA (n:Int),aA (m:Int)] w (fun v zs hs=>zs=[]∧hs=[.row v 5 1 m ((aj.c0 n m).map bn)]):=by
 refine c4 Tryz.func160 rfl Tryz.ntmps160 b4 fun a ab U=>aD ab U (av rfl<|ah) fun a w ab U=>ax fun cG bJ=>bx ab U (av rfl<|ah) fun a w ab U=>?_
 replace U:=U.iC 5 1
 refine bJ _ _<|ax fun dX cq=>aD ab U (av rfl<|ah) fun a w ab U=>wp_block ?_
 obtain ⟨bG,a6,U⟩:=U.c1
 refine dy (γ:=Value×Nat) ((Value.slice none 0 0),0) (fun (u,k)=>[(0,aA (aj.ql n k:Int)),(5,u),(6,aA (k:Int))]) [(1,_)] (fun (u,k)=>(bG.set 0 (.row u 5 1 k ((aj.c0 n k).map bn)))) (fun (u,k)=>k≤m) (fun (u,k)=>m-k) (ab.sub ⟨(by show some (aA _)=some (aA _);rw [aj.L0]),rfl,rfl,rfl,trivial⟩) (by subst a6;exact U) (by exact Nat.zero_le _) ?_
 rintro ⟨u,k⟩ a w bh ab U
 subst a6;(try dsimp only at bh ab U)
 have l5:=bh
 replace U:=ft U
 have sS:=aj.L1 n k
 refine ax fun dL b9=>aD ab U (ai rfl<|ai rfl<|ae (cU rfl rfl)<|ah) fun a w ab U=>cn ab rfl (fun aU=>?_) (fun aU=>?_)
 ·refine wp_skip<|b9 _ _<|ax fun fa cT=>wp_block ?_
  refine bc fun fk cP=>aG ab U (ai rfl<|ai rfl<|ae (ni rfl rfl ag)<|ae (rX bH bI rfl)<|ah) fun a w ab U=>aJ ab U rfl (eu bX bI rfl rfl bM a8 rfl rfl) ?_
  rintro v2 _ _ a w ⟨rfl,rfl⟩ ab U
  replace U:=e7 U
  refine aJ ab U rfl (dH bX bI 1 rfl rfl rfl (eo bX (k:=0) rfl bM) aI rfl a8) ?_
  rintro v4 _ _ a w ⟨rfl,rfl⟩ ab U
  replace U:=e7 U
  refine aG ab U (av rfl<|ah) fun a w ab U=>wpList_nil (cP _ _ ?_)
  refine bx ab U (ai rfl<|ae (ox rfl rfl ag)<|av rfl<|ah) fun a w ab U=>cT _ _ ?_
  refine bx ab U (ai rfl<|b5 rfl rfl<|av rfl<|ah) fun a w ab U=>?_
  replace U:=U.ao ay (c2)
  refine ⟨(v4,k+1),?_,?_,ab.sub ⟨(by show some (aA _)=some (aA _);rw [← aj.L2]),rfl,rfl,rfl,trivial⟩,?_⟩
  ·(try dsimp only);omega
  ·omega
  ·rw [aj.ac8] at U
   exact U
 ·refine wp_exit<|cq _ _<|aD ab U (ai rfl<|av rfl<|ah) fun a w ab U=>wp_ret ?_
  obtain rfl:m=k:=by omega
  exact b0 (rs:=[.tmp 4]) rfl ab U (vs:=[_]) ⟨rfl,trivial⟩ al al ⟨rfl,rfl⟩
theorem rU(s:List UInt8)(abF:s.length≤4)(w:World):cC Tryz.prog 137 [vs s] w (fun r _ _=>r=aA (aj.eA s:Int)):=by
 refine c4 Tryz.func137 rfl Tryz.ntmps137 b4 fun a ab U=>aD ab U (av rfl<|ah) fun a w ab U=>aD ab U (av rfl<|ah) fun a w ab U=>ax fun dX cq=>aD ab U (ai rfl<|ae (hZ bB rfl)<|fy rfl rfl<|av rfl<|ah) fun a w ab U=>?_
 refine wp_block ?_
 obtain ⟨bG,a6,U⟩:=U.c1
 refine dy (γ:=Nat) (s.length) (fun (k:Nat)=>[(3,aA (aj.eA (s.drop k):Int)),(4,aA ((k:Int)-1))]) [(0,_)] (fun (k:Nat)=>bG) (fun (k:Nat)=>k≤s.length) (fun (k:Nat)=>k) (ab.sub ⟨(by show some (aA _)=some (aA _);rw [aj.Iv];rfl),rfl,rfl,trivial⟩) (by subst a6;exact U) (by exact Nat.le_refl _) ?_
 rintro k a w bh ab U
 subst a6;(try dsimp only at bh ab U)
 have l5:=bh
 replace U:=ic U
 have CE:=aj.Dl abF k
 have amc:=(s.getD ((k:Int)-1).toNat 0).toNat_lt
 refine ax fun dL b9=>aD ab U (ai rfl<|ae (ke rfl rfl)<|ah) fun a w ab U=>cn ab rfl (fun aU=>?_) (fun aU=>?_)
 ·refine wp_skip<|b9 _ _<|ax fun fa cT=>wp_block ?_
  refine bx ab U (ai rfl<|ae (hK rfl rfl ag)<|ai rfl<|ai rfl<|ae (DG bB rfl rfl ag)<|ae (Al bI bH rfl)<|b5 rfl rfl<|av rfl<|ah) fun a w ab U=>cT _ _ ?_
  refine bx ab U (ai rfl<|fy rfl rfl<|av rfl<|ah) fun a w ab U=>⟨(k-1),?_,?_,ab.sub ⟨(by show some (aA _)=some (aA _);rw [aj.PY (k:=k-1) ag,show k-1+1=k by omega,show ((k:Int)-1).toNat=k-1 by omega];congr 2),(by show some (aA _)=some (aA _);congr 2;omega),rfl,trivial⟩,?_⟩
  ·(try dsimp only);omega
  ·omega
  ·exact U
 ·refine wp_exit<|cq _ _<|aD ab U (ai rfl<|av rfl<|ah) fun a w ab U=>wp_ret ?_
  exact b0 (rs:=[.tmp 2]) rfl ab U (vs:=[_]) ⟨rfl,trivial⟩ ay ay (by rw [show k=0 by omega,List.drop_zero])
theorem Vg(s:List UInt8)(abG:s.length=64)(w:World):cC Tryz.prog 165 [vs s] w (fun r _ _=>r=.bool (decide (s=aj.z64))):=by
 refine c4 Tryz.func165 rfl Tryz.ntmps165 b4 fun a ab U=>aD ab U (av rfl<|ah) fun a w ab U=>ax fun cG bJ=>aD ab U (av rfl<|ah) fun a w ab U=>wp_block ?_
 obtain ⟨bG,a6,U⟩:=U.c1
 refine dy (γ:=Nat) (0) (fun (k:Nat)=>[(3,aA (k:Int))]) [(0,_)] (fun (k:Nat)=>bG) (fun (k:Nat)=>k≤64∧∀ j,j<k→s.getD j 0=0) (fun (k:Nat)=>64-k) (ab.sub ⟨rfl,rfl,trivial⟩) (by subst a6;exact U) (by exact ⟨Nat.zero_le _,fun j aV=>absurd aV (Nat.not_lt_zero _)⟩) ?_
 rintro k a w bh ab U
 subst a6;(try dsimp only at bh ab U)
 obtain ⟨l5,bj⟩:=bh
 replace U:=ic U
 refine ax fun et cB=>aD ab U (ai rfl<|ai rfl<|ae (hZ bB rfl)<|ae (cU rfl rfl)<|ah) fun a w ab U=>cn ab rfl (fun aU=>?_) (fun aU=>?_)
 ·refine wp_skip<|cB _ _<|ax fun eN cK=>wp_block ?_
  refine aD ab U (ai rfl<|ai rfl<|ae (DG bB rfl rfl ag)<|ae (IX (q:=0) rfl rfl)<|ah) fun a w ab U=>e9 ab rfl (fun bz=>?_) (fun bz=>?_)
  ·refine ax fun fk cP=>bx ab U (av rfl<|ah) fun a w ab U=>cP _ _ ?_
   refine wp_ret<|b0 (rs:=[.tmp 2]) rfl ab U (vs:=[_]) ⟨rfl,trivial⟩ ay ay (by rw [decide_eq_false (aj.ajU (by simpa using bz))])
  ·refine wp_skip<|cK _ _<|bx ab U (ai rfl<|b5 rfl rfl<|av rfl<|ah) fun a w ab U=>⟨(k+1),?_,?_,ab.sub ⟨rfl,rfl,trivial⟩,?_⟩
   ·(try dsimp only);omega
   ·exact ⟨by omega,aj.ajV bj (by simpa using bz)⟩
   ·exact U
 ·refine wp_exit<|bJ _ _<|aD ab U (av rfl<|ah) fun a w ab U=>wp_ret ?_
  exact b0 (rs:=[.tmp 2]) rfl ab U (vs:=[_]) ⟨rfl,trivial⟩ ay ay (by rw [decide_eq_true (aj.ajT (fun j aV=>bj j ag) abG)])
theorem Lo(v u:Value)(xs ys:List UInt8)(w:World)(aw:bo hc (cf w) v xs)(fV:bo hc (cf w) u ys):cC Tryz.prog 103 [v,u] w (fun r _ _=>r=.bool (decide (xs=ys))):=by
 refine c4 Tryz.func103 rfl Tryz.ntmps103 b4 fun a ab U=>?_
 have c6:=aw.1
 have aae:=fV.1
 refine aD ab U (av rfl<|ah) fun a w ab U=>aD ab U (ai rfl<|ae (tt bX bB bI aw cM rfl)<|ai rfl<|ae (tt bX bB bI fV cM rfl)<|ae (xu rfl rfl)<|av rfl<|ah) fun a w ab U=>wp_ret ?_
 exact b0 (rs:=[.tmp 4]) rfl ab U (vs:=[_]) ⟨rfl,trivial⟩ ay ay (rfl)
theorem Z6(v:Value)(xs:List Int)(n:Int)(w:World)(aw:bo Go.aK.encI (cf w) v xs):cC Tryz.prog 166 [v,aA n] w (fun r _ _=>r=.bool (decide (n∈xs))):=by
 refine c4 Tryz.func166 rfl Tryz.ntmps166 b4 fun a ab U=>?_
 have c6:=aw.1
 refine aD ab U (av rfl<|ah) fun a w ab U=>ax fun cG bJ=>aD ab U (av rfl<|ah) fun a w ab U=>wp_block ?_
 obtain ⟨bG,a6,U⟩:=U.c1
 refine dy (γ:=Int) (0) (fun (i:Int)=>[(5,aA i)]) [(0,_),(1,_)] (fun (i:Int)=>bG) (fun (i:Int)=>0≤i∧i≤xs.length∧∀ j,j<i.toNat→xs.getD j 0≠n) (fun (i:Int)=>(xs.length-i).toNat) (ab.sub ⟨rfl,rfl,rfl,trivial⟩) (by subst a6;exact U) (by exact ⟨Int.le_refl _,by omega,fun j aV=>absurd aV (by simp)⟩) ?_
 rintro i a w bh ab U
 subst a6;(try dsimp only at bh ab U)
 obtain ⟨eL,kI,iz⟩:=bh
 replace U:=ic U
 refine ax fun et cB=>aD ab U (ai rfl<|ai rfl<|ae (ee dm aw rfl)<|ae (cU rfl rfl)<|ah) fun a w ab U=>cn ab rfl (fun aU=>?_) (fun aU=>?_)
 ·refine wp_skip<|cB _ _<|ax fun eN cK=>wp_block ?_
  refine aD ab U (ai rfl<|ai rfl<|ae (dV dm bH aw rfl rfl ag)<|ae (tz bH aw cM rfl rfl ag)<|ai rfl<|ae (gq rfl rfl)<|ah) fun a w ab U=>cn ab rfl (fun bz=>?_) (fun bz=>?_)
  ·refine ax fun fk cP=>bx ab U (av rfl<|ah) fun a w ab U=>cP _ _ ?_
   refine wp_ret<|b0 (rs:=[.tmp 4]) rfl ab U (vs:=[_]) ⟨rfl,trivial⟩ ay ay (by rw [cN.adL (j:=i.toNat) ag bz])
  ·refine wp_skip<|cK _ _<|bx ab U (ai rfl<|b5 rfl rfl<|av rfl<|ah) fun a w ab U=>⟨(i+1),?_,?_,ab.sub ⟨rfl,rfl,rfl,trivial⟩,?_⟩
   ·(try dsimp only);omega
   ·exact ⟨by omega,by omega,cN.aen eL bz iz⟩
   ·exact U
 ·refine wp_exit<|bJ _ _<|aD ab U (av rfl<|ah) fun a w ab U=>wp_ret ?_
  exact b0 (rs:=[.tmp 4]) rfl ab U (vs:=[_]) ⟨rfl,trivial⟩ ay ay (by rw [cN.adK (fun j aV=>iz j ag)])
end
section
theorem Xy:b1 Tryz.prog 145:=b6 Tryz.func145
theorem XN:b1 Tryz.prog 168:=b6 Tryz.func168
attribute [local irreducible] aL.sum
theorem IL(b:Nat)(bt:TypeId)(off m cc n:Nat)(xs:List UInt8)(hm:m≤8)(bD:n<9223372036854775808)(aM:off+m≤xs.length)(w0:World)(bU:List aR):e1 Tryz.prog 181 [.slice (some ⟨b,off,none⟩) m cc,aA (n:Int)] w0 bU [.blk b bt (xs.map bn)] (fun r dB c5=>r=.tuple #[]∧dB=[]∧c5=[.blk b bt ((aj.l9 xs off n m).map bn)]):=by
 refine gk Tryz.func181 rfl Tryz.ntmps181 b4 fun cF a w ab U=>?_
 replace U:aB _ (_) (_::_) _:=U
 refine aD ab U (ai rfl<|ae (afQ bX rfl)<|ai rfl<|ah) fun a w ab U=>wp_block ?_
 obtain ⟨bG,a6,U⟩:=U.c1
 refine dy (γ:=Nat) (0) (fun (k:Nat)=>[(7,aA (k:Int)),(1,aA (aj.ql n k:Int))]) [(0,_),(6,_)] (fun (k:Nat)=>(bG.set 0 (.blk b bt ((aj.l9 xs off n k).map bn)))) (fun (k:Nat)=>k≤m) (fun (k:Nat)=>m-k) (ab.sub ⟨rfl,(by show some (aA _)=some (aA _);rw [aj.L0]),rfl,rfl,trivial⟩) (by subst a6;(try dsimp only);rw [aj.afi];exact U) (by exact Nat.zero_le _) ?_
 rintro k a w bh ab U
 subst a6;(try dsimp only at bh ab U)
 have l5:=bh
 replace U:aB _ (_) (_::_) _:=U
 have sS:=aj.L1 n k
 refine aD ab U (ae (cU rfl rfl)<|ah) fun a w ab U=>ax fun dX cq=>cn ab rfl (fun aU=>?_) (fun aU=>?_)
 ·refine wp_skip<|cq _ _<|ax fun et cB=>wp_block ?_
  refine aD ab U (ai rfl<|av rfl<|ah) fun a w ab U=>bc fun eN cK=>aG ab U (ai rfl<|ai rfl<|ai rfl<|ae (rX bH bI rfl)<|ae (afC bX bI rfl rfl ag)<|ah) fun a w ab U=>aJ ab U rfl (dq bI 0 rfl rfl rfl rfl (by rw [List.length_map,aj.afj ag];omega)) ?_
  rintro _ _ _ a w ⟨rfl,rfl,rfl⟩ ab U
  replace U:aB _ (_) (_::_) _:=U
  refine wpList_nil (cK _ _ ?_)
  refine bx ab U (ai rfl<|ae (af6 rfl rfl ag)<|av rfl<|ah) fun a w ab U=>cB _ _ ?_
  refine bx ab U (b5 rfl rfl<|ai rfl<|ah) fun a w ab U=>⟨(k+1),?_,?_,ab.sub ⟨rfl,(by show some (aA _)=some (aA _);rw [← aj.L2];rfl),rfl,rfl,trivial⟩,?_⟩
  ·(try dsimp only);omega
  ·omega
  ·rw [show ((k:Int)).toNat=k from Int.toNat_natCast k,← List.map_set,aj.afk ag] at U
   exact U
 ·refine wp_exit ?_
  -- falls off the end
  obtain rfl:m=k:=by omega
  exact cY (rs:=[]) rfl ab U (vs:=[]) trivial [] [_] al al ⟨rfl,rfl,rfl⟩
theorem U4(v:Value)(bA:v.oneCell'=true)(w:World):cC Tryz.prog 145 [v] w (fun r zs hs=>∃ ck,r=.func (.func 168) (List.nil:List Value).toArray [Value.pointer (some ⟨ck,0,none⟩)].toArray∧zs=[]∧hs=[.blk ck 25 [v]]):=by
 refine c4 Tryz.func145 rfl Tryz.ntmps145 b4 fun a ab U=>bc fun eJ c8=>aJ ab U rfl (oM rfl bA) ?_
 rintro _ _ _ a w ⟨ck,rfl,rfl,rfl⟩ ab U
 refine aG ab U (av rfl<|ah) fun a w ab U=>wpList_nil (c8 _ _ ?_)
 refine aD ab U (ae (tC rfl rfl)<|av rfl<|ah) fun a w ab U=>wp_ret ?_
 exact b0 (rs:=[.tmp 2]) rfl ab U (vs:=[_]) ⟨rfl,trivial⟩ al al ⟨_,rfl,rfl,rfl⟩
theorem Vu(ck:Nat)(v:Value)(xs:List UInt8)(Y:Value)(z:aR)(w0:World)(bU:List aR)(cF:List aC)(inv:Nat→aC→Prop)(ra:aC)(bj:gQ w0 bU z)(aw:bo hc z v xs)(h0:inv 0 ra)(jn:∀ k r,k<xs.length→inv k r→yD Tryz.prog Y (aj.Lu xs k) (aB w0 bU (.blk ck 25 [v]::r::cF)) fun w'=>∃ fe,inv (k+1) fe∧aB w0 bU (.blk ck 25 [v]::fe::cF) w'):mU Tryz.prog 168 [Y,Value.pointer (some ⟨ck,0,none⟩)] w0 bU [.blk ck 25 [v],ra] cF (fun _ dB c5=>dB=[]∧∃ r:aC,c5=[.blk ck 25 [v],r]∧inv xs.length r):=by
 refine Gc Tryz.func168 rfl Tryz.ntmps168 b4 fun a w ab U=>?_
 replace U:=gU U
 have c6:=aw.1
 refine aD ab U (ae (bf bX 0 rfl rfl rfl rfl)<|ae (ee bX aw rfl)<|fy rfl rfl<|av rfl<|ah) fun a w ab U=>wp_block ?_
 obtain ⟨bG,a6,U⟩:=U.c1
 refine dy (γ:=aC×Nat) (ra,0) (fun (ez,k)=>[(3,aA ((xs.length:Int)-1-k))]) [(0,_),(1,_)] (fun (ez,k)=>(bG.set 1 (ez))) (fun (ez,k)=>k≤xs.length∧inv k ez) (fun (ez,k)=>xs.length-k) (ab.sub ⟨(by show some (aA _)=some (aA _);congr 2;omega),rfl,rfl,trivial⟩) (by subst a6;exact U) (by exact ⟨Nat.zero_le _,h0⟩) ?_
 rintro ⟨ez,k⟩ a w bh ab U
 subst a6;(try dsimp only at bh ab U)
 obtain ⟨l5,iK⟩:=bh
 replace U:=gU U
 refine ax fun cG bJ=>aD ab U (ai rfl<|ae (ke rfl rfl)<|ah) fun a w ab U=>cn ab rfl (fun aU=>?_) (fun aU=>?_)
 ·refine wp_skip<|bJ _ _<|ax fun et cB=>wp_block ?_
  refine ax fun dL b9=>DT 6 rfl ?_
  refine aG ab U (ai rfl<|ai rfl<|ae (bf bX 0 rfl rfl rfl rfl)<|ai rfl<|ae (dV bX bI aw rfl rfl ag)<|ae (nh bI aw bj rfl rfl ag)<|ah) fun a w ab U=>qE ?_
  ·skip
   have s8:=jn k ez ag iK
   refine Kg (ys:=[_,_]) (by rfl) rfl ab U rfl rfl s8 ?_
   rintro a w ab ⟨cR,uY,U⟩
   refine r9 rfl ab U (ae (fZ rfl)<|ah) fun a w ab U=>wpListIn_nil ?_
   refine b9 _ _<|df ab rfl (fun h=>absurd h (by simp)) (fun _=>?_)
   refine wp_skip<|cB _ _<|bx ab U (ai rfl<|fy rfl rfl<|av rfl<|ah) fun a w ab U=>⟨(cR,k+1),?_,?_,ab.sub ⟨(by show some (aA _)=some (aA _);congr 2;omega),rfl,rfl,trivial⟩,?_⟩
   ·(try dsimp only);omega
   ·exact ⟨by omega,uY⟩
   ·exact U
 ·obtain rfl:k=xs.length:=by omega
  refine wp_exit ?_
  -- falls off the end
  exact Gd rfl ab U [] [_,_] al al ⟨rfl,_,rfl,iK⟩
theorem ry(v:Value)(xs:List UInt8)(aM:xs.length≤4)(w:World)(aw:bo hc (cf w) v xs):cC Tryz.prog 102 [v] w (fun r _ _=>r=aA (aj.eA xs:Int)):=by
 refine Gb Tryz.func102 rfl Tryz.ntmps102 b4 fun a ab U=>?_
 have c6:=aw.1
 refine aD ab U (av rfl<|ah) fun a w ab U=>bc fun cG bJ=>aJ ab U rfl (wv bH (by rfl)) ?_
 rintro _ _ _ a w ⟨ck,rfl,rfl,rfl⟩ ab U
 refine aJ ab U rfl (dq bH 0 rfl rfl rfl rfl (by simp)) ?_
 rintro _ _ _ a w ⟨rfl,rfl,rfl⟩ ab U
 (try simp only [dd] at U)
 replace U:=ft U
 refine wpList_nil (bJ _ _ ?_)
 refine ax fun dX cq=>bc fun et cB=>aG ab U (ai rfl<|ah) fun a w ab U=>aJ ab U rfl (eT Xy rfl (fun w U=>U4 _ (mP aw) w )) ?_
 rintro _ _ _ a w ⟨_,_,rfl,rfl,⟨bL,rfl,rfl,rfl⟩⟩ ab U
 replace U:=e7 U
 refine wpList_nil (cB _ _ ?_)
 refine wp_block ?_
 replace U:=e7 U
 obtain ⟨bG,a6,U⟩:=U.c1
 obtain ⟨kl,jG,ab⟩:∃ l,l=_∧Fr _ l _:=⟨_,rfl,ab⟩
 refine Ka (ps:=[8,9]) (γ:=aC) (ξ:=Unit) (fun r=>bG.set 1 r) (fun (k:Nat) (r:aC)=>r=.blk ck 3 [aA (aj.eA (xs.drop (xs.length-k)):Int)]) (xs.length) (fun k=>aj.Lu xs k) (.blk ck 3 [aA 0]) (fun k r x=>(5,bn (xs.getD ((xs.length:Int)-1-k).toNat 0))::(9,bn (xs.getD ((xs.length:Int)-1-k).toNat 0))::(8,aA ((xs.length:Int)-1-k))::kl) (fun k r x=>bG.set 1 r) ab (by subst a6;exact U) (by subst jG;rfl) rfl (fun _=>rfl) (XN) (by rw [Nat.sub_zero,aj.Iv];rfl) (fun ro Ik jO dT m7 nj a w pM jo ab U=>?_) (fun Y dB pV jn w U=>?_) (fun Dc mE jO dT m7 nj hD a w pM jo ab U=>?_) (fun I D dT a w nj iz bP dz jo ab U=>?_)
 ·subst a6 jG
  (try dsimp only [k0] at ab);(try dsimp only [dd] at U)
  replace U:aB _ [_,_] [_,_] _:=U
  subst jo
  have aac:=aj.Dl aM (xs.length-m7)
  have abJ:(aj.eA (xs.drop (xs.length-m7)):Int)*2^(min (Int.toNat 8) 64)=(aj.eA (xs.drop (xs.length-m7)):Int)*256:=rfl
  replace U:aB _ [_,_] [_,_] _:=U
  refine agO (by rfl) ab U (av rfl<|ah) fun a w ab U=>⟨rfl,(),ab,U⟩
 ·subst a6 jG
  exact mU.Yy (Vu bL _ xs Y _ _ dB _ (fun k r=>r=.blk ck 3 [aA (aj.eA (xs.drop (xs.length-k)):Int)]) _ cM aw (by rw [Nat.sub_zero,aj.Iv];rfl) jn) w U
 ·subst a6 jG
  (try dsimp only [k0] at ab);(try dsimp only [dd] at U)
  replace U:aB _ [_,_] [_,_] _:=U
  subst jo
  have aac:=aj.Dl aM (xs.length-m7)
  have abJ:(aj.eA (xs.drop (xs.length-m7)):Int)*2^(min (Int.toNat 8) 64)=(aj.eA (xs.drop (xs.length-m7)):Int)*256:=rfl
  replace U:aB _ [_,_] [_,_] _:=U
  refine wpIn_block<|xH (by rfl) ?_
  refine aG ab U (ae (bf bH 1 rfl rfl rfl rfl)<|ae (af4 rfl rfl ag ag)<|ai rfl<|ae (Al bI bH rfl)<|ae (af1 rfl rfl)<|ah) fun a w ab U=>aJ ab U rfl (dq bH 1 rfl rfl rfl rfl (by simp)) ?_
  rintro _ _ _ a w ⟨rfl,rfl,rfl⟩ ab U
  (try simp only [dd] at U)
  replace U:aB _ [_,_] [_,_] _:=U
  refine qE ?_
  rw [aj.acm _ _ (aj.Dl aM _),← aj.aej pM] at U
  exact ⟨rfl,_,rfl,U⟩
 subst a6 jG
 (try dsimp only [k0] at ab);(try dsimp only [dd] at U)
 replace U:=lJ U
 subst jo
 replace U:=lJ U
 refine cq _ _<|aD ab U (ae (bf bH 1 rfl rfl rfl rfl)<|av rfl<|ah) fun a w ab U=>wp_ret ?_
 rw [Nat.sub_self,List.drop_zero] at ab
 exact Ce [] bP dz (by simp) (by simp) (by simp) (rs:=[.tmp 2]) rfl ab U (vs:=[_]) ⟨rfl,trivial⟩ (fun W U=>⟨[],[],U.ao ay ay,rfl⟩)
end
section
theorem ea : ba Tryz.prog 130 (.struct #[⟨ "number", 3, 0, false, "", "culprit/journal", 0⟩, ⟨ "part", 3, 1, false, "", "culprit/journal", 8⟩, ⟨ "left", 3, 2, false, "", "culprit/journal", 16⟩, ⟨ "payload", 9, 3, false, "", "culprit/journal", 24⟩, ⟨ "ok", 4, 4, false, "", "culprit/journal", 40⟩]) 5 48 (.agg ([Value.int .i64 0, Value.int .i64 0, Value.int .i64 0] ++ [Value.string ⟨(List.nil : List UInt8).toArray⟩] ++ [Value.bool false]).toArray) := ⟨Tryz.underlying130, by kernel_rfl⟩
theorem dQ : ba Tryz.prog 168 (.struct #[⟨ "Number", 3, 0, false, "", "", 0⟩, ⟨ "Part", 3, 1, false, "", "", 8⟩, ⟨ "Left", 3, 2, false, "", "", 16⟩, ⟨ "Payload", 9, 3, false, "", "", 24⟩, ⟨ "Ok", 4, 4, false, "", "", 40⟩]) 5 48 (.agg ([Value.int .i64 0, Value.int .i64 0, Value.int .i64 0] ++ [Value.string ⟨(List.nil : List UInt8).toArray⟩] ++ [Value.bool false]).toArray) := ⟨Tryz.underlying168, by kernel_rfl⟩
theorem jA:ba Tryz.prog 174 (.array 64 5) 64 64 (.agg (List.replicate 64 (Value.int .u8 0)).toArray):=⟨Tryz.underlying174,by kernel_rfl⟩
theorem X2:b1 Tryz.prog 67:=b6 Tryz.func67
theorem MA:b1 Tryz.prog 101:=b6 Tryz.func101
theorem ru:b1 Tryz.prog 102:=b6 Tryz.func102
theorem MB:b1 Tryz.prog 103:=b6 Tryz.func103
theorem rv:b1 Tryz.prog 137:=b6 Tryz.func137
theorem MG:b1 Tryz.prog 138:=b6 Tryz.func138
attribute [local irreducible] aL.sum aj.fb
theorem Lx(v:Value)(xs:List UInt8)(aM:xs.length=56)(w:World)(aw:bo hc (cf w) v xs){ed:Nat×Nat}{eb:TypeId}(dF:w.heap[0]?=some (.cells (aL.eH.map cI).toArray eb ed)):cC Tryz.prog 138 [v] w (fun r _ _=>r=vs (aj.jT xs)):=by
 refine c4 Tryz.func138 rfl Tryz.ntmps138 b4 fun a ab U=>?_
 have c6:=aw.1
 have jh:=aL.pb xs
 refine aD ab U (av rfl<|ah) fun a w ab U=>bc fun cG bJ=>aG ab U (ai rfl<|ae (bV MC rfl (fun w U=>R7 _ _ (by first | assumption | omega) w (bo.mono (U.le cM) aw) (U.ext _ _ dF)) bP)<|ah) fun a w ab U=>aJ ab U rfl (dg iq) ?_
 rintro _ _ _ a w ⟨ck,rfl,rfl,rfl⟩ ab U
 rw [show List.replicate 32 (Value.int .u8 0)=(List.replicate 32 (0:UInt8)).map bn from by rw [List.map_replicate] <;> rfl] at U
 refine aJ ab U rfl (cJ iq 0 rfl rfl rfl rfl aI bM aI) ?_
 rintro _ _ _ a w ⟨rfl,rfl,rfl⟩ ab U
 replace U:=ft U
 refine wpList_nil (bJ _ _ ?_)
 refine iE mixed az ab U (ai rfl<|ae (tt bX bB bI aw cM rfl)<|ae (r0 iq bI rfl rfl ag)<|ae (afp bX bB bI 0 rfl rfl (by first | omega | (simp;omega)))<|ae (DD rfl rfl aI)<|av rfl<|ah) fun a w ab U=>wp_ret ?_
 exact b0 (rs:=[.tmp 2]) rfl ab U (vs:=[_]) ⟨rfl,trivial⟩ ay ay (rfl)
theorem ai7(s:List UInt8)(w:World){ed:Nat×Nat}{eb:TypeId}(dF:w.heap[1]?=some (.cells (aL.eH.map cI).toArray eb ed)):cC Tryz.prog 67 [vs s] w (fun r _ _=>r=aj.Qi (aj.c3 s)):=by
 refine c4 Tryz.func67 rfl Tryz.ntmps67 b4 fun a ab U=>?_
 have jh:∀ t,(aL.sum t).length=32:=aL.pb
 refine bc fun eJ c8=>aJ ab U rfl (dg ea) ?_
 rintro _ _ _ a w ⟨ck,rfl,rfl,rfl⟩ ab U
 refine wpList_nil (c8 _ _ ?_)
 refine ax fun cG bJ=>aD ab U (ai rfl<|ae (hZ bB rfl)<|ae (dS rfl rfl)<|ah) fun a w ab U=>e9 ab rfl (fun aU=>?_) (fun aU=>?_)
 ·refine ax fun et cB=>dM ?_
  refine aG ab U (ae (hJ (places:=[(0,1),(1,1),(2,1),(3,1),(4,1)]) (cells:=[.int .i64 0,.int .i64 0,.int .i64 0,.string ⟨(List.nil:List UInt8).toArray⟩,.bool false]) ea az rfl (by rfl))<|ah) fun a w ab U=>aJ ab U rfl (cJ ea 0 rfl rfl rfl rfl aI (bp rfl (bp rfl (bp rfl (bp rfl (bp rfl dO))))) aI) ?_
  rintro _ _ _ a w ⟨rfl,rfl,rfl⟩ ab U
  replace U:=ft U
  refine wpList_nil (cB _ _ ?_)
  refine wp_ret<|b0 (rs:=[.cell 2 130]) rfl ab U (vs:=[_]) ⟨⟨_,_,_,_,_,_,_,rfl,List.mem_of_getElem? (i:=0) rfl,ea,.inl ⟨rfl,aI,rfl⟩⟩,trivial⟩ ay ay (by rw [aj.S7 ag];rfl)
 ·have fo:s.length=64:=by omega
  refine wp_skip<|bJ _ _<|bc fun dL b9=>aG ab U (ai rfl<|ah) fun a w ab U=>aJ ab U rfl (uD bB bX bI rfl ag) ?_
  rintro v2 _ _ a w ⟨z3,rfl,rfl,oX⟩ ab U
  refine aG ab U (ae (IZ jA oX rfl aI a8)<|ae (IS jA oX (.inr (by simp)) rfl rfl aI a8)<|ah) fun a w ab U=>aJ ab U rfl (dg jA) ?_
  rintro _ _ _ a w ⟨wg,rfl,rfl,rfl⟩ ab U
  rw [show List.replicate 64 (Value.int .u8 0)=(List.replicate 64 (0:UInt8)).map bn from by rw [List.map_replicate] <;> rfl] at U
  refine aJ ab U rfl (cJ jA 0 rfl rfl rfl rfl aI bM aI) ?_
  rintro _ _ _ a w ⟨rfl,rfl,rfl⟩ ab U
  replace U:=lJ U
  refine wpList_nil (b9 _ _ ?_)
  refine bc fun eN cK=>aG ab U (ae (r0 jA bI rfl rfl ag)<|ae (bV MA rfl (fun w U=>SD _ _ (by rw [List.length_drop,List.length_take];omega) w (nC U 0 rfl (by first | omega | (simp;omega) | (simp [*];done) | (simp [*];omega))) (U.ext _ _ dF)) bP)<|ah) fun a w ab U=>aJ ab U rfl (dg iq) ?_
  rintro _ _ _ a w ⟨Ll,rfl,rfl,rfl⟩ ab U
  rw [show List.replicate 32 (Value.int .u8 0)=(List.replicate 32 (0:UInt8)).map bn from by rw [List.map_replicate] <;> rfl] at U
  refine aJ ab U rfl (cJ iq 0 rfl rfl rfl rfl aI bM aI) ?_
  rintro _ _ _ a w ⟨rfl,rfl,rfl⟩ ab U
  replace U:=p0 U
  refine wpList_nil (cK _ _ ?_)
  refine ax fun fa cT=>?_
  revert U;revert ab;apply hL (J:=ki (α0:=Nat) 79 _ _ _ _ _) #[false,false,false,false,false,false,false,false,false] 9 mixed rfl rfl
  ·intro w ab U
   refine aS 0 rfl ab (U.ao al (ay.k.n)) (r0 jA bI rfl rfl ag) fun a ab=>aS 2 rfl ab (U.ao al (ay.k.n)) (xB jA bI rfl rfl rfl ag) fun a ab=>aS 4 rfl ab (U.ao al (ay.k.n)) (xB jA bI rfl rfl rfl ag) fun a ab=>fB [1,7] az rfl ⟨?_,?_,trivial⟩
   ·refine dW _ rfl rfl ab U rfl (eC (bV ru rfl (fun w U=>ry _ _ (by rw [List.length_drop,List.length_take];omega) w (nC U 1 rfl (by first | omega | (simp;omega) | (simp [*];done) | (simp [*];omega)))) bP)) ?_
    rintro _ _ _ a w ⟨rfl,rfl,rfl⟩ ab U
    refine ⟨⟨.inr (U.ao al (ay.k.n)),.inr (U.ao al (ay.k.n)),aq,trivial⟩,?_⟩
    refine fB [3,7] az rfl ⟨?_,?_,trivial⟩
    ·refine dW _ rfl rfl ab U rfl (eC (bV ru rfl (fun w U=>ry _ _ (by rw [List.length_drop,List.length_take];omega) w (nC U 1 rfl (by first | omega | (simp;omega) | (simp [*];done) | (simp [*];omega)))) bP)) ?_
     rintro _ _ _ a w ⟨rfl,rfl,rfl⟩ ab U
     refine ⟨⟨.inr (U.ao al (ay.k.n)),aq,aq,trivial⟩,?_⟩
     refine fB [5,7] az rfl ⟨?_,?_,trivial⟩
     ·refine dW _ rfl rfl ab U rfl (eC (bV ru rfl (fun w U=>ry _ _ (by rw [List.length_drop,List.length_take];omega) w (nC U 1 rfl (by first | omega | (simp;omega) | (simp [*];done) | (simp [*];omega)))) bP)) ?_
      rintro _ _ _ a w ⟨rfl,rfl,rfl⟩ ab U
      refine ⟨⟨aq,aq,aq,trivial⟩,?_⟩
      refine aS 6 rfl ab (U.ao al ay) (hJ (places:=[(0,1),(1,1),(2,1),(3,1),(4,1)]) (cells:=[_,_,_,.string ⟨(List.nil:List UInt8).toArray⟩,_]) ea az rfl (by rfl)) fun a ab=>bY 7 rfl rfl ab U rfl (dg ea) ?_
      rintro _ _ _ a w ⟨rl,rfl,rfl,rfl⟩ ab U
      refine ⟨⟨.inr (U.ao al ay),aq,aq,aq,trivial⟩,?_⟩
      refine bY 8 rfl rfl ab U rfl (cJ ea 0 rfl rfl rfl rfl aI (bp rfl (bp rfl (bp rfl (bp rfl (bp rfl dO))))) aI) ?_
      rintro _ _ _ a w ⟨rfl,rfl,rfl⟩ ab U
      refine ⟨⟨aq,aq,aq,aq,trivial⟩,?_⟩
      exact ev az (l6 rl (trivial) (ab.sub (L':=[(0,_),(2,_),(3,_),(4,_),(5,_)]) ⟨rfl,rfl,rfl,rfl,rfl,trivial⟩) U)
     ·refine dW _ rfl rfl ab U rfl (dg ea) ?_
      rintro _ _ _ a w ⟨rl,rfl,rfl,rfl⟩ ab U
      refine ⟨⟨.inr (U.ao al (ay.k.n.n)),aq,aq,trivial⟩,?_⟩
      refine bY 5 rfl rfl ab U rfl (eC (bV ru rfl (fun w U=>ry _ _ (by rw [List.length_drop,List.length_take];omega) w (nC U 2 rfl (by first | omega | (simp;omega) | (simp [*];done) | (simp [*];omega)))) bP)) ?_
      rintro _ _ _ a w ⟨rfl,rfl,rfl⟩ ab U
      refine ⟨⟨aq,aq,aq,trivial⟩,?_⟩
      refine aS 6 rfl ab (U.ao al ay) (hJ (places:=[(0,1),(1,1),(2,1),(3,1),(4,1)]) (cells:=[_,_,_,.string ⟨(List.nil:List UInt8).toArray⟩,_]) ea az rfl (by rfl)) fun a ab=>bY 8 rfl rfl ab U rfl (cJ ea 0 rfl rfl rfl rfl aI (bp rfl (bp rfl (bp rfl (bp rfl (bp rfl dO))))) aI) ?_
      rintro _ _ _ a w ⟨rfl,rfl,rfl⟩ ab U
      refine ⟨⟨aq,aq,aq,aq,trivial⟩,?_⟩
      exact ev az (l6 rl (trivial) (ab.sub (L':=[(0,_),(2,_),(3,_),(4,_),(5,_)]) ⟨rfl,rfl,rfl,rfl,rfl,trivial⟩) U)
    ·refine dW _ rfl rfl ab U rfl (dg ea) ?_
     rintro _ _ _ a w ⟨rl,rfl,rfl,rfl⟩ ab U
     refine ⟨⟨.inr (U.ao al (ay.k.n.n)),.inr (U.ao al (ay.k.n.n)),aq,trivial⟩,?_⟩
     refine bY 3 rfl rfl ab U rfl (eC (bV ru rfl (fun w U=>ry _ _ (by rw [List.length_drop,List.length_take];omega) w (nC U 2 rfl (by first | omega | (simp;omega) | (simp [*];done) | (simp [*];omega)))) bP)) ?_
     rintro _ _ _ a w ⟨rfl,rfl,rfl⟩ ab U
     refine ⟨⟨.inr (U.ao al (ay.k.n.n)),aq,aq,trivial⟩,?_⟩
     refine bY 5 rfl rfl ab U rfl (eC (bV ru rfl (fun w U=>ry _ _ (by rw [List.length_drop,List.length_take];omega) w (nC U 2 rfl (by first | omega | (simp;omega) | (simp [*];done) | (simp [*];omega)))) bP)) ?_
     rintro _ _ _ a w ⟨rfl,rfl,rfl⟩ ab U
     refine ⟨⟨aq,aq,aq,trivial⟩,?_⟩
     refine aS 6 rfl ab (U.ao al ay) (hJ (places:=[(0,1),(1,1),(2,1),(3,1),(4,1)]) (cells:=[_,_,_,.string ⟨(List.nil:List UInt8).toArray⟩,_]) ea az rfl (by rfl)) fun a ab=>bY 8 rfl rfl ab U rfl (cJ ea 0 rfl rfl rfl rfl aI (bp rfl (bp rfl (bp rfl (bp rfl (bp rfl dO))))) aI) ?_
     rintro _ _ _ a w ⟨rfl,rfl,rfl⟩ ab U
     refine ⟨⟨aq,aq,aq,aq,trivial⟩,?_⟩
     exact ev az (l6 rl (trivial) (ab.sub (L':=[(0,_),(2,_),(3,_),(4,_),(5,_)]) ⟨rfl,rfl,rfl,rfl,rfl,trivial⟩) U)
   ·refine dW _ rfl rfl ab U rfl (dg ea) ?_
    rintro _ _ _ a w ⟨rl,rfl,rfl,rfl⟩ ab U
    refine ⟨⟨.inr (U.ao al (ay.k.n.n)),.inr (U.ao al (ay.k.n.n)),.inr (U.ao al (ay.k.n.n)),trivial⟩,?_⟩
    refine bY 1 rfl rfl ab U rfl (eC (bV ru rfl (fun w U=>ry _ _ (by rw [List.length_drop,List.length_take];omega) w (nC U 2 rfl (by first | omega | (simp;omega) | (simp [*];done) | (simp [*];omega)))) bP)) ?_
    rintro _ _ _ a w ⟨rfl,rfl,rfl⟩ ab U
    refine ⟨⟨.inr (U.ao al (ay.k.n.n)),.inr (U.ao al (ay.k.n.n)),aq,trivial⟩,?_⟩
    refine bY 3 rfl rfl ab U rfl (eC (bV ru rfl (fun w U=>ry _ _ (by rw [List.length_drop,List.length_take];omega) w (nC U 2 rfl (by first | omega | (simp;omega) | (simp [*];done) | (simp [*];omega)))) bP)) ?_
    rintro _ _ _ a w ⟨rfl,rfl,rfl⟩ ab U
    refine ⟨⟨.inr (U.ao al (ay.k.n.n)),aq,aq,trivial⟩,?_⟩
    refine bY 5 rfl rfl ab U rfl (eC (bV ru rfl (fun w U=>ry _ _ (by rw [List.length_drop,List.length_take];omega) w (nC U 2 rfl (by first | omega | (simp;omega) | (simp [*];done) | (simp [*];omega)))) bP)) ?_
    rintro _ _ _ a w ⟨rfl,rfl,rfl⟩ ab U
    refine ⟨⟨aq,aq,aq,trivial⟩,?_⟩
    refine aS 6 rfl ab (U.ao al ay) (hJ (places:=[(0,1),(1,1),(2,1),(3,1),(4,1)]) (cells:=[_,_,_,.string ⟨(List.nil:List UInt8).toArray⟩,_]) ea az rfl (by rfl)) fun a ab=>bY 8 rfl rfl ab U rfl (cJ ea 0 rfl rfl rfl rfl aI (bp rfl (bp rfl (bp rfl (bp rfl (bp rfl dO))))) aI) ?_
    rintro _ _ _ a w ⟨rfl,rfl,rfl⟩ ab U
    refine ⟨⟨aq,aq,aq,aq,trivial⟩,?_⟩
    exact ev az (l6 rl (trivial) (ab.sub (L':=[(0,_),(2,_),(3,_),(4,_),(5,_)]) ⟨rfl,rfl,rfl,rfl,rfl,trivial⟩) U)
  rintro a w ⟨rl, -,ab,U⟩
  (try dsimp only at ab U)
  replace U:aB _ [_] [.blk rl 130 [aA (aj.num s:Int),aA (aj.par s:Int),aA (aj.jZ s:Int),vs [],.bool true],_,_,_] _:=U
  obtain ⟨vb,CQ,iU⟩:=aj.Jc s
  have iK:=aj.zV s
  refine cT _ _<|ax fun fk cP=>bx ab U (ae (aZ ea rfl rfl (s':=0) az)<|ae (bf bH 0 rfl rfl rfl rfl)<|ae (IW rfl rfl)<|av rfl<|ah) fun a w ab U=>?_
  rw [show (min (aj.jZ s:Int) 48)=((aj.eR s:Nat):Int) by unfold aj.eR;omega] at ab
  refine cP _ _<|bc fun gB du=>aG ab U (ai rfl<|ae (agc (r:=((48-aj.eR s:Nat):Int)) rfl rfl ag ag)<|ah) fun a w ab U=>aJ ab U rfl (FN bX bI rfl rfl aI aI rfl) ?_
  rintro ns _ _ a w ⟨rfl,rfl⟩ ab U
  replace U:=rR U
  refine aG ab U (av rfl<|ah) fun a w ab U=>wpList_nil ?_
  rw [show List.replicate (48-aj.eR s) (Value.int .u8 0)=(List.replicate (48-aj.eR s) (0:UInt8)).map bn from by rw [List.map_replicate];rfl] at U
  refine du _ _<|ax fun hU ef=>ax fun ho dK=>AI mixed az U ?_
  refine jL ab (ae (r0 iq bI rfl rfl ag)<|ae (DO jA bI rfl rfl ag)<|ae (bV MB rfl (fun w U=>Lo _ _ _ _ w (nC U 2 rfl (by first | omega | (simp;omega) | (simp [*];done) | (simp [*];omega))) (nC U 3 rfl (by first | omega | (simp;omega) | (simp [*];done) | (simp [*];omega)))) bP)<|ae (fZ rfl)<|ai rfl<|ah) fun a ab=>Bi 4 35 3 ab rfl rfl rfl rfl rfl (fun aP=>have aP:=(Ad aP);aO 35 rfl rfl rfl (aZ ea rfl rfl (s':=0) az)<|aO 35 rfl rfl rfl (bf bH 1 rfl rfl rfl rfl)<|aO 35 rfl rfl rfl (gq rfl rfl)<|ah) rfl rfl fun a ab=>?_
  refine jL ab (ai rfl<|ah) fun a ab=>Bi 9 40 3 ab rfl rfl rfl rfl rfl (fun aP=>have aP:=aP;aO 40 rfl rfl rfl (aZ ea rfl rfl (s':=0) az)<|aO 40 rfl rfl rfl (bf bH 1 rfl rfl rfl rfl)<|aO 40 rfl rfl rfl (fc rfl rfl)<|ah) rfl rfl fun a ab=>?_
  refine jL ab (ai rfl<|ah) fun a ab=>Bi 14 45 7 ab rfl rfl rfl rfl rfl (fun aP=>have aP:=aP;aO 45 rfl rfl rfl (aZ ea rfl rfl (s':=0) az)<|aO 45 rfl rfl rfl (bf bH 1 rfl rfl rfl rfl)<|aO 45 rfl rfl rfl (hK rfl rfl ag)<|aO 45 rfl rfl rfl (aZ ea rfl rfl (s':=0) az)<|aO 45 rfl rfl rfl (bf bH 1 rfl rfl rfl rfl)<|aO 45 rfl rfl rfl (o4 rfl rfl ag)<|aO 45 rfl rfl rfl (fc rfl rfl)<|ah) rfl rfl fun a ab=>?_
  refine jL ab (ai rfl<|ah) fun a ab=>ajJ (q:=(decide ((aj.jZ s:Int)=0)&&decide ((0:Int)<(aj.par s:Int)))) 54 8 ab rfl (by rfl) rfl (by exact trivial) (fun _=>j1 54 rfl rfl rfl rfl<|j1 54 rfl rfl rfl rfl<|j1 54 rfl rfl rfl rfl<|j1 54 rfl rfl rfl rfl<|xS 58 rfl rfl rfl<|xS 58 rfl rfl rfl<|xS 58 rfl rfl rfl<|j1 54 rfl rfl rfl rfl<|ah) rfl (fun aP a ab ER=>?_) ?_
  ·have aP:=aP
   refine jL ab (aO 54 rfl rfl rfl (aZ ea rfl rfl (s':=0) az)<|aO 54 rfl rfl rfl (bf bH 1 rfl rfl rfl rfl)<|aO 54 rfl rfl rfl (gq rfl rfl)<|aO 54 rfl rfl rfl (bE rfl)<|ah) fun a ab=>ajI 27 58 3 23 54 ab rfl rfl rfl rfl rfl rfl rfl (fun aP=>have aP:=(by first | exact of_decide_eq_true aP | exact aP);aO 58 rfl rfl rfl (aZ ea rfl rfl (s':=0) az)<|aO 58 rfl rfl rfl (bf bH 1 rfl rfl rfl rfl)<|aO 58 rfl rfl rfl (fc rfl rfl)<|ah) rfl rfl fun a ab=>?_
   refine jL ab (ae (hB rfl rfl)<|ah) fun a ab=>ER _ (ab.under 5 rfl rfl)
  clear ab;intro a ab
  refine jL ab (ai rfl<|ah) fun a ab=>Bi 33 64 6 ab rfl rfl rfl rfl rfl (fun aP=>have aP:=aP;aO 64 rfl rfl rfl (bE rfl)<|aO 64 rfl rfl rfl (o4 rfl rfl ag)<|aO 64 rfl rfl rfl (xB jA bI rfl rfl rfl ag)<|aO 64 rfl rfl rfl (bE rfl)<|aO 64 rfl rfl rfl (bV MB rfl (fun w U=>Lo _ _ _ _ w (nC U 3 rfl (by first | omega | (simp;omega) | (simp [*];done) | (simp [*];omega))) (lM (U.dp 0 rfl) (by first | assumption | (simp;done)) (by first | rfl | (simp;done) | (simp;omega) | omega) (by first | omega | (simp;omega)))) bP)<|aO 64 rfl rfl rfl (fZ rfl)<|ah) rfl rfl fun a ab=>?_
  refine Bh ?_
  clear U;intro w U
  refine dK _ _<|df ab rfl (fun bz=>?_) (fun bz=>?_)
  ·(try simp only [dj] at bz)
   refine bc fun iZ eY=>aG ab U (ae (hJ (places:=[(0,1),(1,1),(2,1),(3,1),(4,1)]) (cells:=[.int .i64 0,.int .i64 0,.int .i64 0,.string ⟨(List.nil:List UInt8).toArray⟩,.bool false]) ea az rfl (by rfl))<|ah) fun a w ab U=>aJ ab U rfl (cJ ea 4 rfl rfl rfl rfl aI (bp rfl (bp rfl (bp rfl (bp rfl (bp rfl dO))))) aI) ?_
   rintro _ _ _ a w ⟨rfl,rfl,rfl⟩ ab U
   replace U:=rR U
   refine wpList_nil (eY _ _ ?_)
   refine wp_ret<|b0 (rs:=[.cell 2 130]) rfl ab U (vs:=[_]) ⟨⟨_,_,_,_,_,_,_,rfl,List.mem_of_getElem? (i:=4) rfl,ea,.inl ⟨rfl,aI,rfl⟩⟩,trivial⟩ ay ay (by rw [aj.r4 (aj.U5 fo bz)];rfl)
  ·(try simp only [dj] at bz)
   refine wp_skip<|ef _ _<|bc fun iR eO=>aG ab U (ai rfl<|ai rfl<|b5 rfl rfl<|ae (DM bB rfl rfl rfl ag)<|ae (aZ ea rfl rfl (s':=0) az)<|ah) fun a w ab U=>aJ ab U rfl (dq bB 1 rfl rfl rfl rfl (by simp)) ?_
   rintro _ _ _ a w ⟨rfl,rfl,rfl⟩ ab U
   replace U:aB _ [_] [_,.blk _ _ ([_,_,_,_,_].set 3 _),_,_,_] _:=U
   simp only [dd] at U
   replace U:=rR U
   refine wpList_nil (eO _ _ ?_)
   refine bc fun kY gF=>aG ab U (ae (gh ea 1 rfl rfl aI rfl)<|ah) fun a w ab U=>aJ ab U rfl (cJ ea 4 rfl rfl rfl rfl aI (bp rfl (bp rfl (bp rfl (bp rfl (bp rfl dO))))) aI) ?_
   rintro _ _ _ a w ⟨rfl,rfl,rfl⟩ ab U
   replace U:=rR U
   refine wpList_nil (gF _ _ ?_)
   refine wp_ret<|b0 (rs:=[.cell 2 130]) rfl ab U (vs:=[_]) ⟨⟨_,_,_,_,_,_,_,rfl,List.mem_of_getElem? (i:=4) rfl,ea,.inl ⟨rfl,aI,rfl⟩⟩,trivial⟩ ay ay (by rw [aj.A1 (aj.Y4 fo bz),show (8+(aj.eR s:Int)).toNat=8+aj.eR s by omega];rfl)
theorem Jn(s:List UInt8)(w:World){ed:Nat×Nat}{eb:TypeId}(dF:w.heap[0]?=some (.cells (aL.eH.map cI).toArray eb ed)):cC Tryz.prog 91 [vs s] w (fun r _ _=>r=aj.Qi (aj.c3 s)):=by
 refine c4 Tryz.func91 rfl Tryz.ntmps91 b4 fun a ab U=>bc fun eJ c8=>aJ ab U rfl (dg dQ) ?_
 rintro _ _ _ a w ⟨ck,rfl,rfl,rfl⟩ ab U
 refine wpList_nil (c8 _ _ ?_)
 refine ax fun cG bJ=>aD ab U (ai rfl<|ae (hZ bB rfl)<|ae (dS rfl rfl)<|ah) fun a w ab U=>e9 ab rfl (fun aU=>?_) (fun aU=>?_)
 ·refine ax fun et cB=>dM ?_
  refine aG ab U (ae (hJ (places:=[(0,1),(1,1),(2,1),(3,1),(4,1)]) (cells:=[.int .i64 0,.int .i64 0,.int .i64 0,.string ⟨(List.nil:List UInt8).toArray⟩,.bool false]) dQ az rfl (by rfl))<|ah) fun a w ab U=>aJ ab U rfl (cJ dQ 0 rfl rfl rfl rfl aI (bp rfl (bp rfl (bp rfl (bp rfl (bp rfl dO))))) aI) ?_
  rintro _ _ _ a w ⟨rfl,rfl,rfl⟩ ab U
  replace U:=ft U
  refine wpList_nil (cB _ _ ?_)
  refine wp_ret<|b0 (rs:=[.cell 2 168]) rfl ab U (vs:=[_]) ⟨⟨_,_,_,_,_,_,_,rfl,List.mem_of_getElem? (i:=0) rfl,dQ,.inl ⟨rfl,aI,rfl⟩⟩,trivial⟩ ay ay (by rw [aj.S7 ag];rfl)
 ·have fo:s.length=64:=by omega
  have anB:(List.take (Int.toNat 56) s).length=56:=by rw [List.length_take];omega
  refine wp_skip<|bJ _ _<|ax fun dL b9=>?_
  revert U;revert ab;apply hL (J:=ki (α0:=Nat) 77 _ _ _ _ _) #[false,false,false,false,false,false,false,false,false,false,false,false] 12 mixed rfl rfl
  ·intro w ab U
   refine aS 0 rfl ab (U.ao al ay) (bE rfl) fun a ab=>aS 1 rfl ab (U.ao al ay) (I0 bB rfl rfl ag) fun a ab=>aS 3 rfl ab (U.ao al ay) (bE rfl) fun a ab=>aS 4 rfl ab (U.ao al ay) (DM bB rfl rfl rfl ag) fun a ab=>aS 6 rfl ab (U.ao al ay) (bE rfl) fun a ab=>?_
   refine aS 7 rfl ab (U.ao al ay) (DM bB rfl rfl rfl ag) fun a ab=>fB [2,10] az rfl ⟨?_,?_,trivial⟩
   ·refine dW _ rfl rfl ab U rfl (eC (bV rv rfl (fun w U=>rU _ (by first | (rw [List.length_drop,List.length_take];omega) | (rw [List.length_take];omega)) w ) bP)) ?_
    rintro _ _ _ a w ⟨rfl,rfl,rfl⟩ ab U
    refine ⟨⟨.inr U.ax,.inr U.ax,.inr U.ax,.inr U.ax,aq,aq,trivial⟩,?_⟩
    refine fB [5,10] az rfl ⟨?_,?_,trivial⟩
    ·refine dW _ rfl rfl ab U rfl (eC (bV rv rfl (fun w U=>rU _ (by first | (rw [List.length_drop,List.length_take];omega) | (rw [List.length_take];omega)) w ) bP)) ?_
     rintro _ _ _ a w ⟨rfl,rfl,rfl⟩ ab U
     refine ⟨⟨.inr U.ax,.inr U.ax,aq,aq,aq,aq,trivial⟩,?_⟩
     refine fB [8,10] az rfl ⟨?_,?_,trivial⟩
     ·refine dW _ rfl rfl ab U rfl (eC (bV rv rfl (fun w U=>rU _ (by first | (rw [List.length_drop,List.length_take];omega) | (rw [List.length_take];omega)) w ) bP)) ?_
      rintro _ _ _ a w ⟨rfl,rfl,rfl⟩ ab U
      refine ⟨⟨aq,aq,aq,aq,aq,aq,trivial⟩,?_⟩
      refine aS 9 rfl ab (U.ao al ay) (hJ (places:=[(0,1),(1,1),(2,1),(3,1),(4,1)]) (cells:=[_,_,_,.string ⟨(List.nil:List UInt8).toArray⟩,_]) dQ az rfl (by rfl)) fun a ab=>bY 10 rfl rfl ab U rfl (dg dQ) ?_
      rintro _ _ _ a w ⟨rk,rfl,rfl,rfl⟩ ab U
      refine ⟨⟨.inr U.ax,aq,aq,aq,aq,aq,aq,trivial⟩,?_⟩
      refine bY 11 rfl rfl ab U rfl (cJ dQ 0 rfl rfl rfl rfl aI (bp rfl (bp rfl (bp rfl (bp rfl (bp rfl dO))))) aI) ?_
      rintro _ _ _ a w ⟨rfl,rfl,rfl⟩ ab U
      refine ⟨⟨aq,aq,aq,aq,aq,aq,aq,trivial⟩,?_⟩
      exact ev az (l6 rk (trivial) (ab.sub (L':=[(0,_),(2,_),(3,_)]) ⟨rfl,rfl,rfl,trivial⟩) U)
     ·refine dW _ rfl rfl ab U rfl (dg dQ) ?_
      rintro _ _ _ a w ⟨rk,rfl,rfl,rfl⟩ ab U
      refine ⟨⟨.inr U.ax,.inr U.ax,aq,aq,aq,aq,trivial⟩,?_⟩
      refine bY 8 rfl rfl ab U rfl (eC (bV rv rfl (fun w U=>rU _ (by first | (rw [List.length_drop,List.length_take];omega) | (rw [List.length_take];omega)) w ) bP)) ?_
      rintro _ _ _ a w ⟨rfl,rfl,rfl⟩ ab U
      refine ⟨⟨aq,aq,aq,aq,aq,aq,trivial⟩,?_⟩
      refine aS 9 rfl ab (U.ao al ay) (hJ (places:=[(0,1),(1,1),(2,1),(3,1),(4,1)]) (cells:=[_,_,_,.string ⟨(List.nil:List UInt8).toArray⟩,_]) dQ az rfl (by rfl)) fun a ab=>bY 11 rfl rfl ab U rfl (cJ dQ 0 rfl rfl rfl rfl aI (bp rfl (bp rfl (bp rfl (bp rfl (bp rfl dO))))) aI) ?_
      rintro _ _ _ a w ⟨rfl,rfl,rfl⟩ ab U
      refine ⟨⟨aq,aq,aq,aq,aq,aq,aq,trivial⟩,?_⟩
      exact ev az (l6 rk (trivial) (ab.sub (L':=[(0,_),(2,_),(3,_)]) ⟨rfl,rfl,rfl,trivial⟩) U)
    ·refine dW _ rfl rfl ab U rfl (dg dQ) ?_
     rintro _ _ _ a w ⟨rk,rfl,rfl,rfl⟩ ab U
     refine ⟨⟨.inr U.ax,.inr U.ax,.inr U.ax,.inr U.ax,aq,aq,trivial⟩,?_⟩
     refine bY 5 rfl rfl ab U rfl (eC (bV rv rfl (fun w U=>rU _ (by first | (rw [List.length_drop,List.length_take];omega) | (rw [List.length_take];omega)) w ) bP)) ?_
     rintro _ _ _ a w ⟨rfl,rfl,rfl⟩ ab U
     refine ⟨⟨.inr U.ax,.inr U.ax,aq,aq,aq,aq,trivial⟩,?_⟩
     refine bY 8 rfl rfl ab U rfl (eC (bV rv rfl (fun w U=>rU _ (by first | (rw [List.length_drop,List.length_take];omega) | (rw [List.length_take];omega)) w ) bP)) ?_
     rintro _ _ _ a w ⟨rfl,rfl,rfl⟩ ab U
     refine ⟨⟨aq,aq,aq,aq,aq,aq,trivial⟩,?_⟩
     refine aS 9 rfl ab (U.ao al ay) (hJ (places:=[(0,1),(1,1),(2,1),(3,1),(4,1)]) (cells:=[_,_,_,.string ⟨(List.nil:List UInt8).toArray⟩,_]) dQ az rfl (by rfl)) fun a ab=>bY 11 rfl rfl ab U rfl (cJ dQ 0 rfl rfl rfl rfl aI (bp rfl (bp rfl (bp rfl (bp rfl (bp rfl dO))))) aI) ?_
     rintro _ _ _ a w ⟨rfl,rfl,rfl⟩ ab U
     refine ⟨⟨aq,aq,aq,aq,aq,aq,aq,trivial⟩,?_⟩
     exact ev az (l6 rk (trivial) (ab.sub (L':=[(0,_),(2,_),(3,_)]) ⟨rfl,rfl,rfl,trivial⟩) U)
   ·refine dW _ rfl rfl ab U rfl (dg dQ) ?_
    rintro _ _ _ a w ⟨rk,rfl,rfl,rfl⟩ ab U
    refine ⟨⟨.inr U.ax,.inr U.ax,.inr U.ax,.inr U.ax,.inr U.ax,.inr U.ax,trivial⟩,?_⟩
    refine bY 2 rfl rfl ab U rfl (eC (bV rv rfl (fun w U=>rU _ (by first | (rw [List.length_drop,List.length_take];omega) | (rw [List.length_take];omega)) w ) bP)) ?_
    rintro _ _ _ a w ⟨rfl,rfl,rfl⟩ ab U
    refine ⟨⟨.inr U.ax,.inr U.ax,.inr U.ax,.inr U.ax,aq,aq,trivial⟩,?_⟩
    refine bY 5 rfl rfl ab U rfl (eC (bV rv rfl (fun w U=>rU _ (by first | (rw [List.length_drop,List.length_take];omega) | (rw [List.length_take];omega)) w ) bP)) ?_
    rintro _ _ _ a w ⟨rfl,rfl,rfl⟩ ab U
    refine ⟨⟨.inr U.ax,.inr U.ax,aq,aq,aq,aq,trivial⟩,?_⟩
    refine bY 8 rfl rfl ab U rfl (eC (bV rv rfl (fun w U=>rU _ (by first | (rw [List.length_drop,List.length_take];omega) | (rw [List.length_take];omega)) w ) bP)) ?_
    rintro _ _ _ a w ⟨rfl,rfl,rfl⟩ ab U
    refine ⟨⟨aq,aq,aq,aq,aq,aq,trivial⟩,?_⟩
    refine aS 9 rfl ab (U.ao al ay) (hJ (places:=[(0,1),(1,1),(2,1),(3,1),(4,1)]) (cells:=[_,_,_,.string ⟨(List.nil:List UInt8).toArray⟩,_]) dQ az rfl (by rfl)) fun a ab=>bY 11 rfl rfl ab U rfl (cJ dQ 0 rfl rfl rfl rfl aI (bp rfl (bp rfl (bp rfl (bp rfl (bp rfl dO))))) aI) ?_
    rintro _ _ _ a w ⟨rfl,rfl,rfl⟩ ab U
    refine ⟨⟨aq,aq,aq,aq,aq,aq,aq,trivial⟩,?_⟩
    exact ev az (l6 rk (trivial) (ab.sub (L':=[(0,_),(2,_),(3,_)]) ⟨rfl,rfl,rfl,trivial⟩) U)
  rintro a w ⟨rk, -,ab,U⟩
  (try dsimp only at ab U)
  replace U:aB _ [] [.blk rk 168 [aA (aj.num s:Int),aA (aj.par s:Int),aA (aj.jZ s:Int),vs [],.bool true],_] _:=U
  obtain ⟨vb,CQ,iU⟩:=aj.Jc s
  have iK:=aj.zV s
  refine b9 _ _<|ax fun eN cK=>bc fun fa cT=>aG ab U (ai rfl<|ae (I0 bB rfl rfl ag)<|ah) fun a w ab U=>aJ ab U rfl (uD bB bX bI rfl ag) ?_
  rintro v2 _ _ a w ⟨z3,rfl,rfl,oX⟩ ab U
  refine aG ab U (ae (bV MG rfl (fun w U=>Lx _ _ (by first | (rw [List.length_drop,List.length_take];omega) | (rw [List.length_take];omega)) w (bo.mono (U.le (.inr (by simp))) oX) (U.ext _ _ dF)) bP)<|ai rfl<|ae (rY rfl rfl)<|ai rfl<|ah) fun a w ab U=>gA 6 26 3 ab U rfl rfl rfl rfl rfl (fun aP=>have aP:=(Ad aP);aO 26 rfl rfl rfl (aZ dQ rfl rfl (s':=0) az)<|aO 26 rfl rfl rfl (bf bH 0 rfl rfl rfl rfl)<|aO 26 rfl rfl rfl (cU rfl rfl)<|ah) rfl rfl fun a w ab U=>?_
  refine aG ab U (ai rfl<|ah) fun a w ab U=>gA 11 31 3 ab U rfl rfl rfl rfl rfl (fun aP=>have aP:=aP;aO 31 rfl rfl rfl (aZ dQ rfl rfl (s':=0) az)<|aO 31 rfl rfl rfl (bf bH 0 rfl rfl rfl rfl)<|aO 31 rfl rfl rfl (fc rfl rfl)<|ah) rfl rfl fun a w ab U=>?_
  refine aG ab U (ai rfl<|ah) fun a w ab U=>gA 16 36 7 ab U rfl rfl rfl rfl rfl (fun aP=>have aP:=aP;aO 36 rfl rfl rfl (aZ dQ rfl rfl (s':=0) az)<|aO 36 rfl rfl rfl (bf bH 0 rfl rfl rfl rfl)<|aO 36 rfl rfl rfl (hK rfl rfl ag)<|aO 36 rfl rfl rfl (aZ dQ rfl rfl (s':=0) az)<|aO 36 rfl rfl rfl (bf bH 0 rfl rfl rfl rfl)<|aO 36 rfl rfl rfl (o4 rfl rfl ag)<|aO 36 rfl rfl rfl (fc rfl rfl)<|ah) rfl rfl fun a w ab U=>?_
  refine aG ab U (ai rfl<|ah) fun a w ab U=>ajH (q:=(decide ((aj.jZ s:Int)<1)&&decide ((0:Int)<(aj.par s:Int)))) 45 8 ab U rfl (by rfl) rfl (fun _=>j1 45 rfl rfl rfl rfl<|j1 45 rfl rfl rfl rfl<|j1 45 rfl rfl rfl rfl<|j1 45 rfl rfl rfl rfl<|xS 49 rfl rfl rfl<|xS 49 rfl rfl rfl<|xS 49 rfl rfl rfl<|j1 45 rfl rfl rfl rfl<|ah) rfl (fun aP a w ab U ER=>?_) ?_
  ·have aP:=aP
   refine aG ab U (aO 45 rfl rfl rfl (aZ dQ rfl rfl (s':=0) az)<|aO 45 rfl rfl rfl (bf bH 0 rfl rfl rfl rfl)<|aO 45 rfl rfl rfl (cU rfl rfl)<|aO 45 rfl rfl rfl (bE rfl)<|ah) fun a w ab U=>ajF 29 49 3 25 45 ab U rfl rfl rfl rfl rfl rfl rfl (fun Hj=>have Hj:=(by first | exact of_decide_eq_true Hj | exact Hj);aO 49 rfl rfl rfl (aZ dQ rfl rfl (s':=0) az)<|aO 49 rfl rfl rfl (bf bH 0 rfl rfl rfl rfl)<|aO 49 rfl rfl rfl (fc rfl rfl)<|ah) rfl rfl fun a w ab U=>?_
   refine aG ab U (ae (hB rfl rfl)<|ah) fun a w ab U=>ER _ _ (ab.under 5 rfl rfl) U
  clear ab U;intro a w ab U
  refine wpList_nil (cT _ _ ?_)
  refine df ab rfl (fun bz=>?_) (fun bz=>?_)
  ·(try simp only [dj] at bz)
   refine bc fun fk cP=>aG ab U (ae (hJ (places:=[(0,1),(1,1),(2,1),(3,1),(4,1)]) (cells:=[.int .i64 0,.int .i64 0,.int .i64 0,.string ⟨(List.nil:List UInt8).toArray⟩,.bool false]) dQ az rfl (by rfl))<|ah) fun a w ab U=>aJ ab U rfl (cJ dQ 1 rfl rfl rfl rfl aI (bp rfl (bp rfl (bp rfl (bp rfl (bp rfl dO))))) aI) ?_
   rintro _ _ _ a w ⟨rfl,rfl,rfl⟩ ab U
   replace U:=lJ U
   refine wpList_nil (cP _ _ ?_)
   refine wp_ret<|b0 (rs:=[.cell 2 168]) rfl ab U (vs:=[_]) ⟨⟨_,_,_,_,_,_,_,rfl,List.mem_of_getElem? (i:=1) rfl,dQ,.inl ⟨rfl,aI,rfl⟩⟩,trivial⟩ ay ay (by rw [aj.r4 (aj.agz bz)];rfl)
  ·(try simp only [dj] at bz)
   refine wp_skip<|cK _ _<|aD ab U (ae (aZ dQ rfl rfl (s':=0) az)<|ae (bf bH 0 rfl rfl rfl rfl)<|av rfl<|ah) fun a w ab U=>?_
   obtain ⟨bG,a6,U⟩:=U.c1
   refine mn (γ:=Int) (fun (m:Int)=>[(4,aA m)]) [(0,_),(2,_),(3,_)] (fun (m:Int)=>bG) (fun (m:Int)=>m=(aj.eR s:Int)) (ab.sub ⟨rfl,rfl,rfl,trivial⟩) U ?_ ?_
   ·subst a6
    refine aD ab U (ai rfl<|ae (fc rfl rfl)<|ah) fun a w ab U=>cn ab rfl (fun cl=>?_) (fun cl=>?_)
    ·refine bx ab U (av rfl<|ah) fun a w ab U=>⟨(48),?_,ab.sub ⟨rfl,rfl,rfl,rfl,trivial⟩,?_⟩
     ·unfold aj.eR;omega
     ·exact U
    ·refine wp_skip<|⟨((aj.jZ s:Int)),?_,ab.sub ⟨rfl,rfl,rfl,rfl,trivial⟩,?_⟩
     ·unfold aj.eR;omega
     ·exact U
   rintro m a w bh ab U
   subst a6;(try dsimp only at bh ab U)
   have hm:=bh
   replace U:=lJ U
   refine ax fun ho dK=>aD ab U (ai rfl<|b5 rfl rfl<|av rfl<|ah) fun a w ab U=>wp_block ?_
   obtain ⟨bG,a6,U⟩:=U.c1
   refine dy (γ:=Nat) (8+aj.eR s) (fun (k:Nat)=>[(5,aA (k:Int))]) [(0,_),(2,_),(3,_),(4,_)] (fun (k:Nat)=>bG) (fun (k:Nat)=>(8+aj.eR s≤k∧k≤56)∧∀ j,8+aj.eR s≤j→j<k→s.getD j 0=0) (fun (k:Nat)=>56-k) (ab.sub ⟨(by show some (aA _)=some (aA _);congr 2;omega),rfl,rfl,rfl,rfl,trivial⟩) (by subst a6;exact U) (by exact ⟨by omega,fun j h1 ar=>absurd ar ag⟩) ?_
   rintro k a w bh ab U
   subst a6;(try dsimp only at bh ab U)
   obtain ⟨l5,bj⟩:=bh
   replace U:=lJ U
   refine ax fun iR eO=>aD ab U (ai rfl<|ae (cU rfl rfl)<|ah) fun a w ab U=>cn ab rfl (fun dI=>?_) (fun dI=>?_)
   ·refine wp_skip<|eO _ _<|ax fun j5 fC=>wp_block ?_
    refine aD ab U (ai rfl<|ai rfl<|ae (DG bB rfl rfl ag)<|ae (IX (q:=0) rfl rfl)<|ah) fun a w ab U=>e9 ab rfl (fun dE=>?_) (fun dE=>?_)
    ·refine ax fun oF jg=>dM ?_
     refine aG ab U (ae (hJ (places:=[(0,1),(1,1),(2,1),(3,1),(4,1)]) (cells:=[.int .i64 0,.int .i64 0,.int .i64 0,.string ⟨(List.nil:List UInt8).toArray⟩,.bool false]) dQ az rfl (by rfl))<|ah) fun a w ab U=>aJ ab U rfl (cJ dQ 1 rfl rfl rfl rfl aI (bp rfl (bp rfl (bp rfl (bp rfl (bp rfl dO))))) aI) ?_
     rintro _ _ _ a w ⟨rfl,rfl,rfl⟩ ab U
     replace U:=lJ U
     refine wpList_nil (jg _ _ ?_)
     refine wp_ret<|b0 (rs:=[.cell 2 168]) rfl ab U (vs:=[_]) ⟨⟨_,_,_,_,_,_,_,rfl,List.mem_of_getElem? (i:=1) rfl,dQ,.inl ⟨rfl,aI,rfl⟩⟩,trivial⟩ ay ay (by rw [aj.r4 (aj.ajY (k:=k) fo ag ag (by simpa using dE))];rfl)
    ·refine wp_skip<|fC _ _<|bx ab U (ai rfl<|b5 rfl rfl<|av rfl<|ah) fun a w ab U=>⟨(k+1),?_,?_,ab.sub ⟨rfl,rfl,rfl,rfl,rfl,trivial⟩,?_⟩
     ·(try dsimp only);omega
     ·exact ⟨by omega,aj.ajW bj (by simpa using dE)⟩
     ·exact U
   ·refine wp_exit<|dK _ _<|bc fun pq jF=>aG ab U (ai rfl<|ai rfl<|b5 rfl rfl<|ae (DM bB rfl rfl rfl ag)<|ae (aZ dQ rfl rfl (s':=0) az)<|ah) fun a w ab U=>aJ ab U rfl (dq bB 0 rfl rfl rfl rfl (by simp)) ?_
    rintro _ _ _ a w ⟨rfl,rfl,rfl⟩ ab U
    replace U:aB _ [_] [.blk _ _ ([_,_,_,_,_].set 3 _),_] _:=U
    simp only [dd] at U
    replace U:=lJ U
    refine wpList_nil (jF _ _ ?_)
    refine bc fun qa ko=>aG ab U (ae (gh dQ 0 rfl rfl aI rfl)<|ah) fun a w ab U=>aJ ab U rfl (cJ dQ 1 rfl rfl rfl rfl aI (bp rfl (bp rfl (bp rfl (bp rfl (bp rfl dO))))) aI) ?_
    rintro _ _ _ a w ⟨rfl,rfl,rfl⟩ ab U
    replace U:=lJ U
    refine wpList_nil (ko _ _ ?_)
    refine wp_ret<|b0 (rs:=[.cell 2 168]) rfl ab U (vs:=[_]) ⟨⟨_,_,_,_,_,_,_,rfl,List.mem_of_getElem? (i:=1) rfl,dQ,.inl ⟨rfl,aI,rfl⟩⟩,trivial⟩ ay ay (by rw [aj.A1 (aj.agU fo bz (fun j h1 ar=>bj j h1 ag)),hm,show (8+(aj.eR s:Int)).toNat=8+aj.eR s by omega];rfl)
end
section
theorem F4:b1 Tryz.prog 27:=b6 Tryz.func27
theorem Xz:b1 Tryz.prog 149:=b6 Tryz.func149
theorem XP:b1 Tryz.prog 180:=b6 Tryz.func180
theorem F2:b1 Tryz.prog 181:=b6 Tryz.func181
attribute [local irreducible] aL.sum aj.fb aj.aT aj.c0
theorem aeX(n:Int)(t:List UInt8)(w:World):cC Tryz.prog 149 [aA n,vs t] w (fun r zs hs=>∃ ck dD,r=.func (.func 180) (List.nil:List Value).toArray [Value.pointer (some ⟨ck,0,none⟩),Value.pointer (some ⟨dD,0,none⟩)].toArray∧zs=[]∧hs=[.blk ck 9 [vs t],.blk dD 3 [aA n]]):=by
 refine c4 Tryz.func149 rfl Tryz.ntmps149 b4 fun a ab U=>bc fun eJ c8=>aJ ab U rfl (oM rfl rfl) ?_
 rintro _ _ _ a w ⟨ck,rfl,rfl,rfl⟩ ab U
 refine aJ ab U rfl (oM rfl rfl) ?_
 rintro _ _ _ a w ⟨dD,rfl,rfl,rfl⟩ ab U
 refine aG ab U (av rfl<|ah) fun a w ab U=>wpList_nil (c8 _ _ ?_)
 refine aD ab U (ae (tC rfl rfl)<|av rfl<|ah) fun a w ab U=>wp_ret ?_
 exact b0 (rs:=[.tmp 4]) rfl ab U (vs:=[_]) ⟨rfl,trivial⟩ al al ⟨_,_,rfl,rfl,rfl⟩
theorem aeW(bZ cg:Nat)(t:List UInt8)(n:Nat)(bD:n<9223372036854775808)(aN:t.length≤8000)(Y:Value)(w0:World)(bU:List aR)(cF:List aC)(inv:Nat→aC×aC→Prop)(ra rb:aC){ed:Nat×Nat}{eb:TypeId}(dF:w0.heap[1]?=some (.cells (aL.eH.map cI).toArray eb ed))(h0:inv 0 (ra,rb))(jn:∀ k r,k<(aj.a7 t.length).toNat→inv k r→yD Tryz.prog Y (aj.Qz n t k) (aB w0 bU (.blk bZ 9 [vs t]::.blk cg 3 [aA (n:Int)]::r.1::r.2::cF)) fun w'=>∃ fe,inv (k+1) fe∧aB w0 bU (.blk bZ 9 [vs t]::.blk cg 3 [aA (n:Int)]::fe.1::fe.2::cF) w'):mU Tryz.prog 180 [Y,Value.pointer (some ⟨bZ,0,none⟩),Value.pointer (some ⟨cg,0,none⟩)] w0 bU [.blk bZ 9 [vs t],.blk cg 3 [aA (n:Int)],ra,rb] cF (fun _ dB c5=>dB=[]∧∃ r:aC×aC,c5=[.blk bZ 9 [vs t],.blk cg 3 [aA (n:Int)],r.1,r.2]∧inv (aj.a7 t.length).toNat r):=by
 refine Gc Tryz.func180 rfl Tryz.ntmps180 b4 fun a w ab U=>?_
 replace U:=fX U
 have oc:=aj.nD t.length
 have jh:∀ t,(aL.sum t).length=32:=aL.pb
 refine aD ab U (ae (bf bB 0 rfl rfl rfl rfl)<|ae (hZ bB rfl)<|ae (bV F4 rfl (fun w U=>Fx _ (by first | assumption | omega) w ) bP)<|ai rfl<|ah) fun a w ab U=>wp_block ?_
 obtain ⟨bG,a6,U⟩:=U.c1
 refine dy (γ:=(aC×aC)×Nat) ((ra,rb),0) (fun (ez,k)=>[(11,aA (k:Int))]) [(0,_),(1,_),(2,_),(10,_)] (fun (ez,k)=>((bG.set 2 (ez.1)).set 3 (ez.2))) (fun (ez,k)=>k≤(aj.a7 t.length).toNat∧inv k ez) (fun (ez,k)=>(aj.a7 t.length).toNat-k) (ab.sub ⟨rfl,rfl,rfl,rfl,rfl,trivial⟩) (by subst a6;exact U) (by exact ⟨Nat.zero_le _,h0⟩) ?_
 rintro ⟨ez,k⟩ a w bh ab U
 subst a6;(try dsimp only at bh ab U)
 obtain ⟨l5,iK⟩:=bh
 replace U:=fX U
 have aah:=aj.Fw (n:=t.length) ag
 refine aD ab U (ae (cU rfl rfl)<|ah) fun a w ab U=>ax fun dX cq=>cn ab rfl (fun aU=>?_) (fun aU=>?_)
 ·refine wp_skip<|cq _ _<|ax fun et cB=>wp_block ?_
  refine aD ab U (ai rfl<|av rfl<|ah) fun a w ab U=>bc fun eN cK=>aJ ab U rfl (dg jA) ?_
  rintro _ _ _ a w ⟨ck,rfl,rfl,rfl⟩ ab U
  rw [show List.replicate 64 (Value.int .u8 0)=(List.replicate 64 (0:UInt8)).map bn from by rw [List.map_replicate] <;> rfl] at U
  refine wpList_nil (cK _ _ ?_)
  refine ax fun fa cT=>bx ab U (ae (bf bB 1 rfl rfl rfl rfl)<|ai rfl<|ae (hK rfl rfl ag)<|ae (DN bB rfl rfl ag)<|av rfl<|ah) fun a w ab U=>?_
  rw [show (48*(k:Int)).toNat=48*k by omega] at ab
  obtain ⟨rest,pS⟩:∃ r,r=List.drop (48*k) t:=⟨_,rfl⟩
  rw [← pS] at ab
  have rL:rest.length≤8000:=by rw [pS,List.length_drop];omega
  refine cT _ _<|ax fun fk cP=>h2 2 mixed az ab U (ae (r0 jA bI rfl rfl ag)<|ae (bf bH 2 rfl rfl rfl rfl)<|ah) fun a w ab U=>aJ ab U rfl (dv F2 rfl (List.Perm.refl _) (by exact (IL _ 174 _ _ _ _ (aj.z 64) a8 ag (by first | decide | (simp;done) | (simp [aj.kP,aj.z];done)) _ _ ))) ?_
  rintro _ _ _ a w ⟨_,_,rfl,rfl,⟨rfl,rfl,rfl⟩⟩ ab U
  replace U:=iW U
  refine wpList_nil ?_
  rw [show aj.l9 (aj.z 64) 0 n (Int.toNat 4)=_ from aj.adU n] at U
  refine cP _ _<|bc fun gB du=>aG ab U (ae (xB jA bI rfl rfl rfl ag)<|ai rfl<|ah) fun a w ab U=>aJ ab U rfl (dv F2 rfl (List.Perm.refl _) (by exact (IL _ 174 _ _ _ _ (aj.c0 n 4++aj.z 60) a8 ag (by first | decide | (simp;done) | (simp [aj.kP,aj.z];done)) _ _ ))) ?_
  rintro _ _ _ a w ⟨_,_,rfl,rfl,⟨rfl,rfl,rfl⟩⟩ ab U
  replace U:=iW U
  refine wpList_nil ?_
  rw [show aj.l9 (aj.c0 n 4++aj.z 60) (0+Int.toNat 4*1) k (Int.toNat 6-Int.toNat 4)=_ from aj.adV n k] at U
  refine du _ _<|bc fun hU ef=>aG ab U (ae (xB jA bI rfl rfl rfl ag)<|ai rfl<|ae (hZ bB rfl)<|ah) fun a w ab U=>aJ ab U rfl (dv F2 rfl (List.Perm.refl _) (by exact (IL _ 174 _ _ _ _ (aj.c0 n 4++(aj.c0 k 2++aj.z 58)) a8 ag (by first | decide | (simp;done) | (simp [aj.kP,aj.z];done)) _ _ ))) ?_
  rintro _ _ _ a w ⟨_,_,rfl,rfl,⟨rfl,rfl,rfl⟩⟩ ab U
  replace U:=iW U
  refine wpList_nil ?_
  rw [show aj.l9 (aj.c0 n 4++(aj.c0 k 2++aj.z 58)) (0+Int.toNat 6*1) rest.length (Int.toNat 8-Int.toNat 6)=_ from aj.adW n k rest.length] at U
  refine ef _ _<|bc fun ho dK=>aG ab U (ae (xB jA bI rfl rfl rfl ag)<|ai rfl<|ah) fun a w ab U=>aJ ab U rfl (WH bX bI 0 rfl rfl rfl (by simp [aj.kP,aj.z])) ?_
  rintro _ _ _ a w ⟨rfl,rfl,rfl⟩ ab U
  replace U:=iW U
  refine wpList_nil ?_
  rw [show List.take (0+Int.toNat 8*1) (aj.c0 n 4++(aj.c0 k 2++(aj.c0 rest.length 2++aj.z 56)))++List.take (min rest.length (Int.toNat 56-Int.toNat 8)) rest++List.drop (0+Int.toNat 8*1+min rest.length (Int.toNat 56-Int.toNat 8)) (aj.c0 n 4++(aj.c0 k 2++(aj.c0 rest.length 2++aj.z 56)))=_ from aj.adX n k rest] at U
  have CJ:(aj.aT n k rest++aj.z 8).length=64:=by rw [List.length_append,aj.uT];rfl
  refine dK _ _<|bc fun iZ eY=>aG ab U (ae (r0 jA bI rfl rfl ag)<|ae (bV MA rfl (fun w U=>SD _ _ (by rw [List.length_drop,List.length_take];omega) w (nC U 0 rfl (by first | omega | (simp;omega) | (simp [*];done) | (simp [*];omega))) (U.ext _ _ dF)) bP)<|ah) fun a w ab U=>aJ ab U rfl (dg iq) ?_
  rintro _ _ _ a w ⟨wg,rfl,rfl,rfl⟩ ab U
  rw [show List.replicate 32 (Value.int .u8 0)=(List.replicate 32 (0:UInt8)).map bn from by rw [List.map_replicate] <;> rfl] at U
  refine aJ ab U rfl (cJ iq 0 rfl rfl rfl rfl aI bM aI) ?_
  rintro _ _ _ a w ⟨rfl,rfl,rfl⟩ ab U
  replace U:=l8 U
  refine wpList_nil ?_
  rw [show List.drop 0 (List.take (0+Int.toNat 56) (aj.aT n k rest++aj.z 8))=_ from aj.PD n k rest] at U
  refine eY _ _<|ax fun iR eO=>h2 2 mixed az ab U (ae (DO jA bI rfl rfl ag)<|ae (rZ iq bI rfl)<|ah) fun a w ab U=>aJ ab U rfl (WG bX bI 1 0 rfl rfl rfl rfl (by rw [CJ];decide) a8 (by rw [aL.pb];decide)) ?_
  rintro _ _ _ a w ⟨rfl,rfl,rfl⟩ ab U
  replace U:=l8 U
  refine wpList_nil ?_
  rw [show List.take (0+Int.toNat 56*1) (aj.aT n k rest++aj.z 8)++List.take (64-Int.toNat 56) (aL.sum (aj.aT n k rest))++List.drop (0+Int.toNat 56*1+(64-Int.toNat 56)) (aj.aT n k rest++aj.z 8)=_ from aj.adY n k rest,show aj.jT (aj.aT n k rest)=aj.sec n t k by rw [pS];unfold aj.sec;rw [Int.toNat_natCast]] at U
  have w5:=aj.xN n t k
  refine eO _ _<|ax fun kY gF=>DT 2 rfl ?_
  refine aG ab U (ai rfl<|ae (gh jA 1 rfl rfl aI rfl)<|ah) fun a w ab U=>qE ?_
  ·skip
   replace U:=U.ao al (fO)
   have s8:=jn k ez ag iK
   refine Kg (ys:=[_]) (by rfl) rfl ab U rfl rfl s8 ?_
   rintro a w ab ⟨cR,uY,U⟩
   refine r9 rfl ab U (ae (fZ rfl)<|ah) fun a w ab U=>wpListIn_nil ?_
   refine gF _ _<|df ab rfl (fun h=>absurd h (by simp)) (fun _=>?_)
   refine wp_skip<|cB _ _<|bx ab U (b5 rfl rfl<|ai rfl<|ah) fun a w ab U=>⟨(cR,k+1),?_,?_,ab.sub ⟨rfl,rfl,rfl,rfl,rfl,trivial⟩,?_⟩
   ·(try dsimp only);omega
   ·exact ⟨by omega,uY⟩
   ·exact U
 ·refine wp_exit ?_
  -- falls off the end
  obtain rfl:k=(aj.a7 t.length).toNat:=by omega
  exact Gd rfl ab U [] [_,_,_,_] al al ⟨rfl,_,rfl,iK⟩
theorem aeU(n:Int)(t:List UInt8)(bD : -9223372036854775808≤n∧n≤9223372036854775807)(w:World){ed:Nat×Nat}{eb:TypeId}(dF:w.heap[1]?=some (.cells (aL.eH.map cI).toArray eb ed)):cC Tryz.prog 109 [aA n,vs t] w (aj.E3 9 (aj.pack n t)):=by
 refine Gb Tryz.func109 rfl Tryz.ntmps109 b4 fun a ab U=>?_
 have oc:=aj.nD t.length
 refine aD ab U (av rfl<|av rfl<|ah) fun a w ab U=>ax fun cG bJ=>wp_block ?_
 refine bc fun dX cq=>aG ab U (ai rfl<|ae (cU rfl rfl)<|ai rfl<|ah) fun a w ab U=>gA 2 11 2 ab U rfl rfl rfl rfl rfl (fun aP=>have aP:=(by first | exact of_decide_eq_false aP | exact aP);aO 11 rfl rfl rfl (bE rfl)<|aO 11 rfl rfl rfl (fc rfl rfl)<|ah) rfl rfl fun a w ab U=>?_
 refine aG ab U (av rfl<|ah) fun a w ab U=>wpList_nil (cq _ _ ?_)
 refine df ab rfl (fun aU=>?_) (fun aU=>?_)
 ·(try simp only [dj] at aU)
  refine aD ab U (av rfl<|av rfl<|ah) fun a w ab U=>wp_ret ?_
  replace U:=U.iC 9 1
  exact Nf (rs:=[.tmp 4,.tmp 5]) rfl ab U (vs:=[_,_]) ⟨rfl,rfl,trivial⟩ ay ((ay.k)) (aj.xp ⟨_,rfl,rfl,rfl⟩ (by rw [aj.Ql ag]))
 ·(try simp only [dj] at aU)
  refine aD ab U (ai rfl<|ae (hZ bB rfl)<|ae (fc rfl rfl)<|av rfl<|ah) fun a w ab U=>cn ab rfl (fun bz=>?_) (fun bz=>?_)
  ·refine ax fun eN cK=>bx ab U (av rfl<|av rfl<|ah) fun a w ab U=>cK _ _ ?_
   refine wp_ret ?_
   replace U:=U.iC 9 1
   exact Nf (rs:=[.tmp 4,.tmp 5]) rfl ab U (vs:=[_,_]) ⟨rfl,rfl,trivial⟩ ay ((ay.k)) (aj.xp ⟨_,rfl,rfl,rfl⟩ (by rw [aj.Qm ag ag]))
  ·refine wp_skip<|bJ _ _<|bc fun fa cT=>aJ ab U rfl (wv cw (by rfl)) ?_
   rintro _ _ _ a w ⟨ck,rfl,rfl,rfl⟩ ab U
   refine wpList_nil (cT _ _ ?_)
   refine ax fun fk cP=>bc fun gB du=>aG ab U (ai rfl<|ai rfl<|ah) fun a w ab U=>aJ ab U rfl (eT Xz rfl (fun w U=>aeX _ _ w )) ?_
   rintro _ _ _ a w ⟨_,_,rfl,rfl,⟨bL,bT,rfl,rfl,rfl⟩⟩ ab U
   replace U:=eU U
   refine wpList_nil (du _ _ ?_)
   refine wp_block ?_
   obtain ⟨m9,rfl⟩:∃ m:Nat,n=(m:Int):=⟨n.toNat,by omega⟩
   replace U:=U.iC 9 1
   replace U:=jt U
   replace U:=((U.perm (.swap _ _ _)).perm hN).perm j6
   replace U:=jt U
   obtain ⟨bG,a6,U⟩:=U.c1
   obtain ⟨kl,jG,ab⟩:∃ l,l=_∧Fr _ l _:=⟨_,rfl,ab⟩
   refine Ka (ps:=[22]) (γ:=(aC×aC)) (ξ:=Nat) (fun r=>(bG.set 2 r.1).set 3 r.2) (fun (k:Nat) (r:aC×aC)=>∃ u,r=(.blk ck 40 [u],.row u 9 1 k ((aj.p7 (m9:Int) t k).map vs))) ((aj.a7 t.length).toNat) (fun k=>aj.Qz m9 t k) ((.blk ck 40 [(Value.slice none 0 0)],.row (Value.slice none 0 0) 9 1 0 [])) (fun k r x=>(7,Value.pointer (some ⟨x,0,none⟩))::(22,.agg ((aj.sec (m9:Int) t k).map bn).toArray)::kl) (fun k r x=>.blk x 174 ((aj.sec (m9:Int) t k).map bn)::(bG.set 2 r.1).set 3 r.2) ab (by subst a6;exact U) (by subst jG;rfl) rfl (fun _=>rfl) (XP) (⟨_,rfl⟩) (fun ro Ik jO dT m7 nj a w pM jo ab U=>?_) (fun Y dB pV jn w U=>?_) (fun Dc mE jO dT m7 nj hD a w pM jo ab U=>?_) (fun I D dT a w nj iz bP dz jo ab U=>?_)
   ·subst a6 jG
    (try dsimp only [k0] at ab);(try dsimp only [dd] at U)
    replace U:aB _ [_,_] [_,_,_,_] _:=U
    obtain ⟨u,rfl⟩:=jo
    (try dsimp only at U)
    have w5:=aj.xN (m9:Int) t m7
    replace U:aB _ [_,_] [_,_,_,_] _:=U
    refine xH (by rfl) ?_
    refine aJ ab U rfl (dg jA) ?_
    rintro _ _ _ a w ⟨k1,rfl,rfl,rfl⟩ ab U
    rw [show List.replicate 64 (Value.int .u8 0)=(List.replicate 64 (0:UInt8)).map bn from by rw [List.map_replicate] <;> rfl] at U
    refine aJ ab U rfl (cJ jA 0 rfl rfl rfl rfl aI bM aI) ?_
    rintro _ _ _ a w ⟨rfl,rfl,rfl⟩ ab U
    replace U:aB _ [_,_] [_,_,_,_,_] _:=U
    refine qE<|⟨rfl,k1,ab,U⟩
   ·subst a6 jG
    exact mU.YA (aeW bL bT t m9 ag ag Y _ dB _ (fun (k:Nat) (r:aC×aC)=>∃ u,r=(.blk ck 40 [u],.row u 9 1 k ((aj.p7 (m9:Int) t k).map vs))) _ _ dF ⟨_,rfl⟩ jn) w U
   ·subst a6 jG
    (try dsimp only [k0] at ab);(try dsimp only [dd] at U)
    replace U:aB _ [_,_] [_,_,_,_,_] _:=U
    obtain ⟨u,rfl⟩:=jo
    (try dsimp only at U)
    have w5:=aj.xN (m9:Int) t m7
    replace U:aB _ [_,_] [_,_,_,_,_] _:=U
    refine wpIn_block ?_
    revert U;revert ab;apply RJ (J:=kj (α0:=Value) (α1:=Value) 29 _ _ _ _ _) #[false,false,false,false,false,false] 6 mixed rfl rfl;case aT=>rfl
    ·intro w ab U
     refine aS 0 rfl ab (U.ao al (ay.k.n.n.n)) (bf cw 0 rfl rfl rfl rfl) fun a ab=>aS 1 rfl ab (U.ao al (ay.k)) (rZ jA bI rfl) fun a ab=>aS 2 rfl ab (U.ao al (ay.k)) (Ai bX bB bI 0 rfl rfl aI) fun a ab=>bY 3 rfl rfl ab U rfl (eu cw bB rfl rfl bM a8 rfl rfl) ?_
     rintro Tw _ _ a w ⟨rfl,rfl⟩ ab U
     refine ⟨⟨aq,aq,.inr (U.ao al (ay.k.n.n.n.n)),trivial⟩,?_⟩
     refine bY 4 rfl rfl ab U rfl (dH cw bB 5 rfl rfl rfl (eo cw (k:=0) rfl bM) aI rfl a8) ?_
     rintro Tx _ _ a w ⟨rfl,rfl⟩ ab U
     refine ⟨⟨aq,aq,aq,trivial⟩,?_⟩
     refine bY 5 rfl rfl ab U rfl (dq cw 4 rfl rfl rfl (row_one (U.dp 5 rfl)) (by simp)) ?_
     rintro _ _ _ a w ⟨rfl,rfl,rfl⟩ ab U
     (try simp only [dd] at U)
     replace U:aB _ [_,_] [_,_,_,_,_,_] _:=U
     refine ⟨⟨aq,aq,aq,trivial⟩,?_⟩
     exact ev az (lI Tw Tx (trivial) (ab.sub (L':=[]) trivial) U)
    rintro a w ⟨Tw,Tx, -,ab,U⟩
    (try dsimp only at ab U)
    replace U:=(((U.perm nV).perm mX).perm pv).perm qf
    rw [aj.Sp] at U
    exact ⟨rfl,(_,_),⟨_,rfl⟩,U.ao al (fO.k.k.k.k)⟩
   subst a6 jG
   (try dsimp only [k0] at ab);(try dsimp only [dd] at U)
   replace U:aB _ [_] [_,_,_,_] _:=U
   obtain ⟨u,rfl⟩:=jo
   (try dsimp only at U)
   replace U:aB _ [_] [_,_,_,_] _:=U
   refine cP _ _<|aD ab U (ae (bf cw 2 rfl rfl rfl rfl)<|av rfl<|av rfl<|ah) fun a w ab U=>wp_ret ?_
   replace U:=U.perm q2
   exact Ce [] bP dz (by simp) (by simp) (by simp) (rs:=[.tmp 4,.tmp 5]) rfl ab U (vs:=[_,_]) ⟨rfl,rfl,trivial⟩ (fun W U=>⟨[],_,U.ao ay ((ay.k)),aj.xp (q:=aj.p7 (m9:Int) t (aj.a7 t.length).toNat) ⟨u,rfl,rfl,by rw [aj.Sn]⟩ (by rw [aj.DA ag ag,aj.Sm])⟩)
end
section
theorem F0:b1 Tryz.prog 128:=b6 Tryz.func128
theorem F1:b1 Tryz.prog 160:=b6 Tryz.func160
attribute [local irreducible] aL.sum aj.fb aj.aT aj.c0
theorem ahc(n:Int)(t:List UInt8)(bD : -9223372036854775808≤n∧n≤9223372036854775807)(w:World){ed:Nat×Nat}{eb:TypeId}(dF:w.heap[0]?=some (.cells (aL.eH.map cI).toArray eb ed)):cC Tryz.prog 130 [aA n,vs t] w (aj.E3 9 (aj.pack n t)):=by
 refine c4 Tryz.func130 rfl Tryz.ntmps130 b4 fun a ab U=>?_
 have oc:=aj.nD t.length
 refine aD ab U (av rfl<|av rfl<|ah) fun a w ab U=>ax fun cG bJ=>bc fun dX cq=>aG ab U (ai rfl<|ae (cU rfl rfl)<|ai rfl<|ah) fun a w ab U=>gA 2 14 2 ab U rfl rfl rfl rfl rfl (fun aP=>have aP:=(by first | exact of_decide_eq_false aP | exact aP);aO 14 rfl rfl rfl (bE rfl)<|aO 14 rfl rfl rfl (fc rfl rfl)<|ah) rfl rfl fun a w ab U=>?_
 refine wpList_nil (cq _ _ ?_)
 refine df ab rfl (fun aU=>?_) (fun aU=>?_)
 ·(try simp only [dj] at aU)
  refine aD ab U (av rfl<|av rfl<|ah) fun a w ab U=>wp_ret ?_
  replace U:=U.iC 9 1
  exact b0 (rs:=[.tmp 4,.tmp 5]) rfl ab U (vs:=[_,_]) ⟨rfl,rfl,trivial⟩ ay ((ay.k)) (aj.xp ⟨_,rfl,rfl,rfl⟩ (by rw [aj.Ql ag]))
 ·(try simp only [dj] at aU)
  refine wp_skip<|bJ _ _<|ax fun dL b9=>aD ab U (ai rfl<|ae (hZ bB rfl)<|ae (fc rfl rfl)<|ah) fun a w ab U=>cn ab rfl (fun bz=>?_) (fun bz=>?_)
  ·refine ax fun fa cT=>bx ab U (av rfl<|av rfl<|ah) fun a w ab U=>cT _ _ ?_
   refine wp_ret ?_
   replace U:=U.iC 9 1
   exact b0 (rs:=[.tmp 4,.tmp 5]) rfl ab U (vs:=[_,_]) ⟨rfl,rfl,trivial⟩ ay ((ay.k)) (aj.xp ⟨_,rfl,rfl,rfl⟩ (by rw [aj.Qm ag ag]))
  ·obtain ⟨m9,rfl⟩:∃ m:Nat,n=(m:Int):=⟨n.toNat,by omega⟩
   refine wp_skip<|b9 _ _<|ax fun fk cP=>bx ab U (av rfl<|ah) fun a w ab U=>?_
   replace U:=U.iC 9 1
   refine cP _ _<|ax fun gB du=>aD ab U (av rfl<|ah) fun a w ab U=>wp_block ?_
   obtain ⟨bG,a6,U⟩:=U.c1
   refine dy (γ:=Value×Nat) ((Value.slice none 0 0),0) (fun (u,k)=>[(6,u),(7,aA (k:Int))]) [(0,_),(1,_)] (fun (u,k)=>(bG.set 0 (.row u 9 1 k ((aj.p7 (m9:Int) t k).map vs)))) (fun (u,k)=>k≤(aj.a7 t.length).toNat) (fun (u,k)=>(aj.a7 t.length).toNat-k) (ab.sub ⟨rfl,rfl,rfl,rfl,trivial⟩) (by subst a6;exact U) (by exact Nat.zero_le _) ?_
   rintro ⟨u,k⟩ a w bh ab U
   subst a6;(try dsimp only at bh ab U)
   have l5:=bh
   replace U:=ft U
   have aah:=aj.Fw (n:=t.length) ag
   refine ax fun ho dK=>aD ab U (ai rfl<|ai rfl<|ae (hZ bB rfl)<|ae (bV F0 rfl (fun w U=>H9 _ (by first | assumption | omega) w ) bP)<|ae (cU rfl rfl)<|ah) fun a w ab U=>cn ab rfl (fun cl=>?_) (fun cl=>?_)
   ·refine wp_skip<|dK _ _<|ax fun iR eO=>wp_block ?_
    refine ax fun kY gF=>bx ab U (ai rfl<|ai rfl<|ae (hK rfl rfl ag)<|ae (DN bB rfl rfl ag)<|av rfl<|ah) fun a w ab U=>?_
    rw [show (48*(k:Int)).toNat=48*k by omega] at ab
    obtain ⟨rest,pS⟩:∃ r,r=List.drop (48*k) t:=⟨_,rfl⟩
    rw [← pS] at ab
    have rL:rest.length≤8000:=by rw [pS,List.length_drop];omega
    refine gF _ _<|bc fun j5 fC=>aG ab U (ai rfl<|ah) fun a w ab U=>aJ ab U rfl (eT F1 rfl (fun w U=>JD m9 4 ag ag w )) ?_
    rintro v2 _ _ a w ⟨_,_,rfl,rfl,rfl,rfl⟩ ab U
    replace U:=e7 U
    refine aG ab U (av rfl<|ah) fun a w ab U=>wpList_nil (fC _ _ ?_)
    refine bc fun mw hz=>aG ab U (ai rfl<|ai rfl<|ah) fun a w ab U=>aJ ab U rfl (eT F1 rfl (fun w U=>JD k 2 ag ag w )) ?_
    rintro v4 _ _ a w ⟨_,_,rfl,rfl,rfl,rfl⟩ ab U
    replace U:=eU U
    refine aJ ab U rfl (dH bX bI 1 rfl rfl rfl (eo bX (k:=0) rfl bM) aI rfl a8) ?_
    rintro v6 _ _ a w ⟨rfl,rfl⟩ ab U
    replace U:=eU U
    refine aG ab U (av rfl<|ah) fun a w ab U=>wpList_nil (hz _ _ ?_)
    refine bc fun oF jg=>aG ab U (ai rfl<|ai rfl<|ae (hZ bB rfl)<|ah) fun a w ab U=>aJ ab U rfl (eT F1 rfl (fun w U=>JD rest.length 2 ag ag w )) ?_
    rintro ns _ _ a w ⟨_,_,rfl,rfl,rfl,rfl⟩ ab U
    replace U:=jt U
    refine aJ ab U rfl (dH bX bI 2 rfl rfl rfl (eo bX (k:=0) rfl bM) aI rfl a8) ?_
    rintro v9 _ _ a w ⟨rfl,rfl⟩ ab U
    replace U:=jt U
    refine aG ab U (av rfl<|ah) fun a w ab U=>wpList_nil (jg _ _ ?_)
    refine ax fun pq jF=>aD ab U (av rfl<|ah) fun a w ab U=>wp_block ?_
    obtain ⟨bG,a6,U⟩:=U.c1
    refine dy (γ:=Value×Nat) (v9,0) (fun (xY,i)=>[(9,xY),(10,aA (i:Int))]) [(0,_),(1,_),(6,_),(7,_),(8,_)] (fun (xY,i)=>(bG.set 2 (.row xY 5 1 (8+i) ((aj.sR m9 k rest i).map bn)))) (fun (xY,i)=>i≤48) (fun (xY,i)=>48-i) (ab.sub ⟨rfl,rfl,rfl,rfl,rfl,rfl,rfl,trivial⟩) (by subst a6;rw [aj.aal] at U;exact U) (by exact Nat.zero_le _) ?_
    rintro ⟨xY,i⟩ a w bh ab U
    subst a6;(try dsimp only at bh ab U)
    have eL:=bh
    replace U:=jt U
    refine ax fun qb kb=>aD ab U (ai rfl<|ae (cU rfl rfl)<|ah) fun a w ab U=>cn ab rfl (fun dI=>?_) (fun dI=>?_)
    ·refine wp_skip<|kb _ _<|ax fun sh l1=>wp_block ?_
     refine aD ab U (av rfl<|ah) fun a w ab U=>?_
     obtain ⟨bG,a6,U⟩:=U.c1
     refine mn (γ:=UInt8) (fun (c:UInt8)=>[(11,bn c)]) [(0,_),(1,_),(6,_),(7,_),(8,_),(9,_),(10,_)] (fun (c:UInt8)=>bG) (fun (c:UInt8)=>c=rest.getD i 0) (ab.sub ⟨rfl,rfl,rfl,rfl,rfl,rfl,rfl,trivial⟩) U ?_ ?_
     ·subst a6
      refine aD ab U (ai rfl<|ai rfl<|ae (hZ bB rfl)<|ae (cU rfl rfl)<|ah) fun a w ab U=>cn ab rfl (fun dE=>?_) (fun dE=>?_)
      ·refine bx ab U (ai rfl<|ai rfl<|ae (DG bB rfl rfl ag)<|av rfl<|ah) fun a w ab U=>⟨(rest.getD (i:Int).toNat 0),?_,ab.sub ⟨rfl,rfl,rfl,rfl,rfl,rfl,rfl,rfl,trivial⟩,?_⟩
       ·rw [Int.toNat_natCast]
       ·exact U
      ·refine wp_skip<|⟨(0),?_,ab.sub ⟨rfl,rfl,rfl,rfl,rfl,rfl,rfl,rfl,trivial⟩,?_⟩
       ·rw [List.getD_eq_getElem?_getD,List.getElem?_eq_none ag];rfl
       ·exact U
     rintro c a w bh ab U
     subst a6;(try dsimp only at bh ab U)
     have oT:=bh
     replace U:=jt U
     refine dM<|aG ab U (ai rfl<|ai rfl<|ah) fun a w ab U=>aJ ab U rfl (eu bX bI rfl rfl bM a8 rfl rfl) ?_
     rintro v10 _ _ a w ⟨rfl,rfl⟩ ab U
     replace U:=na U
     refine aJ ab U rfl (dH bX bI 3 rfl rfl rfl (eo bX (k:=0) rfl bM) aI rfl a8) ?_
     rintro v12 _ _ a w ⟨rfl,rfl⟩ ab U
     replace U:=na U
     refine aG ab U (av rfl<|ah) fun a w ab U=>wpList_nil (l1 _ _ ?_)
     refine bx ab U (ai rfl<|b5 rfl rfl<|av rfl<|ah) fun a w ab U=>?_
     replace U:=U.ao ay (c2)
     refine ⟨(v12,i+1),?_,?_,ab.sub ⟨rfl,rfl,rfl,rfl,rfl,rfl,rfl,trivial⟩,?_⟩
     ·(try dsimp only);omega
     ·omega
     ·subst oT
      rw [aj.aan] at U
      exact U
    ·obtain rfl:i=48:=by omega
     rw [aj.aam] at U
     have CJ:=aj.uT m9 k rest
     refine wp_exit<|jF _ _<|dM ?_
     refine aG ab U (ai rfl<|ai rfl<|ae (bV MG rfl (fun w U=>Lx _ _ (by first | assumption | omega) w (lM (U.dp 2 rfl) (by first | assumption | (simp;done)) (by first | rfl | (simp;done) | (simp;omega) | omega) (by first | omega | (simp;omega))) (U.ext _ _ dF)) bP)<|ah) fun a w ab U=>aJ ab U rfl (eu cw bB rfl rfl bM a8 rfl rfl) ?_
     rintro x1 _ _ a w ⟨rfl,rfl⟩ ab U
     replace U:=na U
     refine aJ ab U rfl (dH cw bB 4 rfl rfl rfl (eo cw (k:=0) rfl bM) aI rfl a8) ?_
     rintro JV _ _ a w ⟨rfl,rfl⟩ ab U
     replace U:=na U
     refine aG ab U (av rfl<|ah) fun a w ab U=>wpList_nil (eO _ _ ?_)
     refine bx ab U (ai rfl<|b5 rfl rfl<|av rfl<|ah) fun a w ab U=>?_
     replace U:=U.ao ay (e8)
     refine ⟨(JV,k+1),?_,?_,ab.sub ⟨rfl,rfl,rfl,rfl,trivial⟩,?_⟩
     ·(try dsimp only);omega
     ·omega
     ·rw [pS,aj.ahJ,aj.Sp] at U
      exact U
   ·obtain rfl:k=(aj.a7 t.length).toNat:=by omega
    refine wp_exit<|du _ _<|aD ab U (ai rfl<|av rfl<|av rfl<|ah) fun a w ab U=>wp_ret ?_
    exact b0 (rs:=[.tmp 4,.tmp 5]) rfl ab U (vs:=[_,_]) ⟨rfl,rfl,trivial⟩ ay ((ay.k)) (aj.xp (q:=aj.p7 (m9:Int) t (aj.a7 t.length).toNat) ⟨u,rfl,rfl,by rw [aj.Sn]⟩ (by rw [aj.DA ag ag,aj.Sm]))
end
section
theorem pf:ba Tryz.prog 173 (.slice 130) 1 24 (Value.slice none 0 0):=⟨Tryz.underlying173,by kernel_rfl⟩
attribute [local irreducible] aL.sum aj.fb aj.aT aj.c0 aj.a7
theorem agK(v:Value)(xs:List aj.Part)(h0:xs≠[])(w:World)(aw:bo aj.Md (cf w) v xs):cC Tryz.prog 94 [v] w (fun r _ _=>r=.tuple [vs (aj.mJ xs).1,aA (aj.mJ xs).2.1,.bool (aj.mJ xs).2.2].toArray):=by
 refine c4 Tryz.func94 rfl Tryz.ntmps94 b4 fun a ab U=>?_
 have c6:=aw.1
 have k6:=Kq aw
 have ab1:0<xs.length:=List.length_pos_iff.2 h0
 have bw:aj.px (aj.f0 xs):=(Kr aj.cv aw ab1).2
 obtain ⟨⟨wU,Hc⟩,⟨Hd,aaG⟩,⟨aaH,aaI⟩,amn⟩:=bw
 refine aD ab U (av rfl<|av rfl<|av rfl<|ah) fun a w ab U=>bc fun cG bJ=>aG ab U (ai rfl<|ae (dV pf ea aw rfl rfl ag)<|ae (DH ea aw cM rfl rfl (by first | omega | (simp;omega)))<|ah) fun a w ab U=>aJ ab U rfl (dg ea) ?_
 rintro _ _ _ a w ⟨ck,rfl,rfl,rfl⟩ ab U
 refine aJ ab U rfl (cJ ea 0 rfl rfl rfl rfl aI (bp rfl (bp rfl (bp rfl (bp rfl (bp rfl dO))))) aI) ?_
 rintro _ _ _ a w ⟨rfl,rfl,rfl⟩ ab U
 replace U:=ft U
 refine wpList_nil ?_
 replace U:aB _ [] [.blk ck 130 [aA (aj.f0 xs).n,aA (aj.f0 xs).p,aA (aj.f0 xs).l,vs (aj.f0 xs).t,.bool (aj.f0 xs).ok]] _:=U
 refine bJ _ _<|ax fun dX cq=>bx ab U (ae (aZ ea rfl rfl (s':=0) az)<|ae (bf bH 0 rfl rfl rfl rfl)<|ae (bV F4 rfl (fun w U=>Fx _ (by first | assumption | omega) w ) bP)<|av rfl<|ah) fun a w ab U=>?_
 have sP:=aj.BY ⟨aaH,aaI⟩
 have oc:=aj.nD (aj.f0 xs).l
 refine cq _ _<|ax fun et cB=>bc fun dL b9=>aG ab U (ae (aZ ea rfl rfl (s':=0) az)<|ae (bf fL 0 rfl rfl rfl rfl)<|ae (fZ rfl)<|ai rfl<|ah) fun a w ab U=>gA 3 19 3 ab U rfl rfl rfl rfl rfl (fun aP=>have aP:=aP;aO 19 rfl rfl rfl (aZ ea rfl rfl (s':=0) az)<|aO 19 rfl rfl rfl (bf bH 0 rfl rfl rfl rfl)<|aO 19 rfl rfl rfl (dS rfl rfl)<|ah) rfl rfl fun a w ab U=>?_
 refine aG ab U (ai rfl<|ah) fun a w ab U=>gA 8 24 4 ab U rfl rfl rfl rfl rfl (fun aP=>have aP:=aP;aO 24 rfl rfl rfl (bE rfl)<|aO 24 rfl rfl rfl (bE rfl)<|aO 24 rfl rfl rfl (ee pf aw rfl)<|aO 24 rfl rfl rfl (fc rfl rfl)<|ah) rfl rfl fun a w ab U=>?_
 refine wpList_nil (b9 _ _ ?_)
 refine df ab rfl (fun aU=>?_) (fun aU=>?_)
 ·(try simp only [dj] at aU)
  refine aD ab U (av rfl<|av rfl<|av rfl<|ah) fun a w ab U=>wp_ret ?_
  exact b0 (rs:=[.tmp 2,.tmp 3,.tmp 4]) rfl ab U (vs:=[_,_,_]) ⟨rfl,rfl,rfl,trivial⟩ ay ay (by rw [aj.rec_1 h0 aU])
 ·(try simp only [dj] at aU)
  refine wp_skip<|cB _ _<|aD ab U (av rfl<|ah) fun a w ab U=>ax fun fk cP=>ax fun gB du=>?_
  refine bx ab U (ai rfl<|ai rfl<|ae (I1 pf ea aw rfl rfl ag)<|ae (ee pf (bo.cut aw ag) rfl)<|ai rfl<|ah) fun a w ab U=>?_
  have s0:(List.drop 0 (List.take (aj.a7 (aj.f0 xs).l).toNat xs)).length=(aj.a7 (aj.f0 xs).l).toNat:=by rw [List.length_drop,List.length_take];omega
  refine du _ _<|wp_block ?_
  obtain ⟨bG,a6,U⟩:=U.c1
  refine dy (γ:=Nat) (0) (fun (k:Nat)=>[(7,vs (aj.mh ((List.drop 0 (List.take (aj.a7 (aj.f0 xs).l).toNat xs)).take k))),(34,aA (k:Int))]) [(5,_),(6,_),(32,_),(33,_)] (fun (k:Nat)=>bG) (fun (k:Nat)=>k≤(aj.a7 (aj.f0 xs).l).toNat∧aj.gT (aj.f0 xs) 0 ((List.drop 0 (List.take (aj.a7 (aj.f0 xs).l).toNat xs)).take k)=true) (fun (k:Nat)=>(aj.a7 (aj.f0 xs).l).toNat-k) (ab.sub ⟨rfl,rfl,rfl,rfl,rfl,rfl,trivial⟩) (by subst a6;exact U) (by exact ⟨Nat.zero_le _,rfl⟩) ?_
  rintro k a w bh ab U
  subst a6;(try dsimp only at bh ab U)
  obtain ⟨l5,zC⟩:=bh
  replace U:=ft U
  have pT:=aj.JO (l:=(List.drop 0 (List.take (aj.a7 (aj.f0 xs).l).toNat xs)).take k) (fun x aM=>k6 x (aj.adJ x aM))
  rw [List.length_take] at pT
  refine aD ab U (ae (cU rfl rfl)<|ah) fun a w ab U=>ax fun ho dK=>cn ab rfl (fun bz=>?_) (fun bz=>?_)
  ·have sM:=k6 _ (aj.adI (xs:=xs) (m:=(aj.a7 (aj.f0 xs).l).toNat) (k:=k) ag)
   obtain ⟨⟨anX,zR⟩,⟨anY,anZ⟩,⟨an0,an1⟩,an2⟩:=sM
   refine wp_skip<|dK _ _<|ax fun iZ eY=>wp_block ?_
   refine bc fun iR eO=>aG ab U (ai rfl<|ae (dV pf ea (bo.cut aw ag) rfl rfl ag)<|ae (DH ea (bo.cut aw ag) cM rfl rfl (by first | omega | (simp;omega)))<|ah) fun a w ab U=>aJ ab U rfl (dg ea) ?_
   rintro _ _ _ a w ⟨dD,rfl,rfl,rfl⟩ ab U
   refine aG ab U (av rfl<|ah) fun a w ab U=>aJ ab U rfl (cJ ea 0 rfl rfl rfl rfl aI (bp rfl (bp rfl (bp rfl (bp rfl (bp rfl dO))))) aI) ?_
   rintro _ _ _ a w ⟨rfl,rfl,rfl⟩ ab U
   replace U:=e7 U
   refine wpList_nil ?_
   rw [show ((k:Int)).toNat=k from Int.toNat_natCast k] at U
   replace U:aB _ [] [.blk dD 130 [aA ((List.drop 0 (List.take (aj.a7 (aj.f0 xs).l).toNat xs)).getD k aj.cv).n,aA ((List.drop 0 (List.take (aj.a7 (aj.f0 xs).l).toNat xs)).getD k aj.cv).p,aA ((List.drop 0 (List.take (aj.a7 (aj.f0 xs).l).toNat xs)).getD k aj.cv).l,vs ((List.drop 0 (List.take (aj.a7 (aj.f0 xs).l).toNat xs)).getD k aj.cv).t,.bool ((List.drop 0 (List.take (aj.a7 (aj.f0 xs).l).toNat xs)).getD k aj.cv).ok],_] _:=U
   refine eO _ _<|ax fun kY gF=>bc fun j5 fC=>aG ab U (ae (aZ ea rfl rfl (s':=0) az)<|ae (bf fL 0 rfl rfl rfl rfl)<|ae (fZ rfl)<|ai rfl<|ah) fun a w ab U=>gA 3 42 5 ab U rfl rfl rfl rfl rfl (fun aP=>have aP:=aP;aO 42 rfl rfl rfl (aZ ea rfl rfl (s':=0) az)<|aO 42 rfl rfl rfl (bf bH 0 rfl rfl rfl rfl)<|aO 42 rfl rfl rfl (aZ ea rfl rfl (s':=0) az)<|aO 42 rfl rfl rfl (bf bH 1 rfl rfl rfl rfl)<|aO 42 rfl rfl rfl (dS rfl rfl)<|ah) rfl rfl fun a w ab U=>?_
   refine aG ab U (ai rfl<|ah) fun a w ab U=>gA 10 49 4 ab U rfl rfl rfl rfl rfl (fun aP=>have aP:=aP;aO 49 rfl rfl rfl (aZ ea rfl rfl (s':=0) az)<|aO 49 rfl rfl rfl (bf bH 0 rfl rfl rfl rfl)<|aO 49 rfl rfl rfl (bE rfl)<|aO 49 rfl rfl rfl (dS rfl rfl)<|ah) rfl rfl fun a w ab U=>?_
   refine aG ab U (ai rfl<|ah) fun a w ab U=>gA 16 55 8 ab U rfl rfl rfl rfl rfl (fun aP=>have aP:=aP;aO 55 rfl rfl rfl (aZ ea rfl rfl (s':=0) az)<|aO 55 rfl rfl rfl (bf bH 0 rfl rfl rfl rfl)<|aO 55 rfl rfl rfl (aZ ea rfl rfl (s':=0) az)<|aO 55 rfl rfl rfl (bf bH 1 rfl rfl rfl rfl)<|aO 55 rfl rfl rfl (bE rfl)<|aO 55 rfl rfl rfl (hK rfl rfl ag)<|aO 55 rfl rfl rfl (nN rfl rfl ag)<|aO 55 rfl rfl rfl (dS rfl rfl)<|ah) rfl rfl fun a w ab U=>?_
   refine wpList_nil (fC _ _ ?_)
   refine df ab rfl (fun cl=>?_) (fun cl=>?_)
   ·(try simp only [dj] at cl)
    refine aD ab U (av rfl<|av rfl<|av rfl<|ah) fun a w ab U=>wp_ret ?_
    exact b0 (rs:=[.tmp 2,.tmp 3,.tmp 4]) rfl ab U (vs:=[_,_,_]) ⟨rfl,rfl,rfl,trivial⟩ ay ay (by rw [aj.rec_2 h0 (aj.PV (l:=(List.drop 0 (List.take (aj.a7 (aj.f0 xs).l).toNat xs))) (k:=k) ag cl)])
   ·(try simp only [dj] at cl)
    refine wp_skip<|gF _ _<|bx ab U (ai rfl<|ae (aZ ea rfl rfl (s':=0) az)<|ae (bf bB 0 rfl rfl rfl rfl)<|ae (DD rfl rfl aI)<|av rfl<|ah) fun a w ab U=>eY _ _ ?_
    refine bx ab U (b5 rfl rfl<|ai rfl<|ah) fun a w ab U=>?_
    replace U:=U.ao ay (c2)
    refine ⟨(k+1),?_,?_,ab.sub ⟨(by show some (vs _)=some (vs _);rw [aj.SR ag]),rfl,rfl,rfl,rfl,rfl,trivial⟩,?_⟩
    ·(try dsimp only);omega
    ·exact ⟨by omega,aj.aeg ag zC cl⟩
    ·exact U
  ·have am1:k=(aj.a7 (aj.f0 xs).l).toNat:=by omega
   rw [show (List.drop 0 (List.take (aj.a7 (aj.f0 xs).l).toNat xs)).take k=xs.take (aj.a7 (aj.f0 xs).l).toNat from by rw [List.take_of_length_le ag];rfl] at ab zC
   refine wp_exit<|cP _ _<|aD ab U (ai rfl<|ai rfl<|av rfl<|av rfl<|av rfl<|ah) fun a w ab U=>wp_ret ?_
   exact b0 (rs:=[.tmp 2,.tmp 3,.tmp 4]) rfl ab U (vs:=[_,_,_]) ⟨rfl,rfl,rfl,trivial⟩ ay ay (by rw [aj.rec_3 h0 aU sP zC,Int.toNat_of_nonneg oc.1])
theorem VN(v:Value)(xs:List (List UInt8))(hl:xs.length<1048576)(w:World)(aw:bo Go.aK.encS (cf w) v xs):cC Tryz.prog 96 [v] w (fun r zs hs=>zs=[]∧hs=[.row r 9 1 xs.length (xs.map vs)]):=by
 refine c4 Tryz.func96 rfl Tryz.ntmps96 b4 fun a ab U=>?_
 have c6:=aw.1
 refine aD ab U (av rfl<|ah) fun a w ab U=>ax fun cG bJ=>aD ab U (ai rfl<|ae (QJ cw aw rfl rfl)<|ah) fun a w ab U=>df ab rfl (fun aU=>?_) (fun aU=>?_)
 ·obtain rfl:=P2 aw aU
  refine ax fun et cB=>bx ab U (av rfl<|ah) fun a w ab U=>?_
  replace U:=U.iC 9 1
  refine cB _ _<|wp_ret ?_
  exact b0 (rs:=[.tmp 2]) rfl ab U (vs:=[_]) ⟨rfl,trivial⟩ al al ⟨rfl,rfl⟩
 ·refine wp_skip<|bJ _ _<|bc fun dL b9=>aJ ab U rfl (sx cw bB) ?_
  rintro v1 _ _ a w ⟨rfl,rfl⟩ ab U
  replace U:=ft U
  refine aG ab U (ai rfl<|ah) fun a w ab U=>aJ ab U rfl (dH cw bB 0 rfl rfl rfl (D4 cw aw cM) aI rfl a8) ?_
  rintro v3 _ _ a w ⟨rfl,rfl⟩ ab U
  replace U:=ft U
  refine aG ab U (av rfl<|ah) fun a w ab U=>wpList_nil ?_
  replace U:=U.DZ (Nat.zero_add _) (List.nil_append _)
  refine b9 _ _<|wp_ret ?_
  exact b0 (rs:=[.tmp 2]) rfl ab U (vs:=[_]) ⟨rfl,trivial⟩ al al ⟨rfl,rfl⟩
end
section
theorem fP : ba Tryz.prog 172 (.struct #[⟨ "d", 46, 0, false, "", "culprit/journal", 0⟩, ⟨ "numbers", 22, 1, false, "", "culprit/journal", 8⟩, ⟨ "bad", 22, 2, false, "", "culprit/journal", 32⟩, ⟨ "texts", 40, 3, false, "", "culprit/journal", 56⟩, ⟨ "next", 3, 4, false, "", "culprit/journal", 80⟩, ⟨ "end", 3, 5, false, "", "culprit/journal", 88⟩, ⟨ "closed", 4, 6, false, "", "culprit/journal", 96⟩]) 7 104 (.agg ([Value.pointer none] ++ [Value.slice none 0 0, Value.slice none 0 0, Value.slice none 0 0] ++ [Value.int .i64 0, Value.int .i64 0] ++ [Value.bool false]).toArray) := ⟨Tryz.underlying172, by kernel_rfl⟩
theorem Yj:b1 Tryz.prog 96:=b6 Tryz.func96
abbrev mu:=aj.EM 172 3 9
attribute [local irreducible] aL.sum aj.fb aj.aT aj.c0 aj.a7
theorem OS(b pd:Nat)(J:aj.dC)(w0:World)(bU:List aR){cu ct cx cz:aC}(eD:mu b pd J cu ct cx cz):e1 Tryz.prog 53 [.pointer (some ⟨b,0,none⟩)] w0 bU [cu,ct,cx,cz] (aj.EN (mu b pd) 9 J J.tx.length (J.tx.map vs)):=by
 refine gk Tryz.func53 rfl Tryz.ntmps53 b4 fun cF a w ab U=>?_
 replace U:=fX U
 obtain ⟨vn,vbd,jk,e0,rfl,rfl,rfl,rfl⟩:=eD
 have qv:=e0.mH
 have l4:=e0.o0
 have wZ:=e0.bL
 have Hp:=e0.bT
 have Hq:=e0.nl
 have Hr:=e0.tl
 have Hs:=e0.bl
 have CK:=e0.qK
 have Ht:=e0.qk
 have Ho:=e0.pc
 replace U:=fX U
 refine aD ab U (av rfl<|ah) fun a w ab U=>bc fun cG bJ=>aG ab U (ai rfl<|ae (bN rfl)<|ae (aZ fP rfl rfl (s':=0) az)<|ae (bf cw 0 rfl rfl rfl rfl)<|ah) fun a w ab U=>aJ ab U rfl (eT Yj rfl (fun w U=>VN _ _ (by first | assumption | omega) w (lM (U.dp 3 rfl) (by first | assumption | (simp;done)) (by first | rfl | (simp;done) | (simp;omega) | omega) (by first | omega | (simp;omega))))) ?_
 rintro v1 _ _ a w ⟨_,_,rfl,rfl,⟨rfl,rfl⟩⟩ ab U
 replace U:=iW U
 refine aG ab U (av rfl<|ah) fun a w ab U=>wpList_nil (bJ _ _ ?_)
 refine wp_ret<|cY (rs:=[.tmp 2]) rfl ab U (vs:=[_]) ⟨rfl,trivial⟩ [] [_,_,_,_,_] al al (aj.acA ⟨rfl,_,_,_,_,rfl,⟨vn,vbd,jk,e0,rfl,rfl,rfl,rfl⟩⟩ rfl rfl)
end
section
theorem mS:ba Tryz.prog 46 (.pointer 124) 1 8 (Value.pointer none):=⟨Tryz.underlying46,by kernel_rfl⟩
theorem MO:b1 Tryz.prog 29:=b6 Tryz.func29
theorem Nd:b1 Tryz.prog 93:=b6 Tryz.func93
theorem Xb:b1 Tryz.prog 108:=b6 Tryz.func108
theorem Xc:b1 Tryz.prog 109:=b6 Tryz.func109
theorem Xd:b1 Tryz.prog 110:=b6 Tryz.func110
theorem XB:b1 Tryz.prog 150:=b6 Tryz.func150
theorem XC:b1 Tryz.prog 151:=b6 Tryz.func151
attribute [local irreducible] aL.sum aj.fb aj.aT aj.c0 aj.a7
theorem acz(h:ak.hT)(b:Nat)(J:aj.dC)(S:ak.aX)(w0:World)(bU:List aR){cu ct cx cz d1 d2 d3 d4:aC}(eD:mu b h.b J cu ct cx cz)(dz:hF h S d1 d2 d3 d4):e1 Tryz.prog 108 [.pointer (some ⟨b,0,none⟩)] w0 bU [cu,ct,cx,cz,d1,d2,d3,d4] (aj.yo (mu b h.b) (hF h) J S (aA (aj.room J S))):=by
 refine gk Tryz.func108 rfl Tryz.ntmps108 b4 fun cF a w ab U=>?_
 replace U:=iD U
 obtain ⟨vn,vbd,jk,e0,rfl,rfl,rfl,rfl⟩:=eD
 have qv:=e0.mH
 have l4:=e0.o0
 have wZ:=e0.bL
 have Hp:=e0.bT
 have Hq:=e0.nl
 have Hr:=e0.tl
 have Hs:=e0.bl
 have CK:=e0.qK
 have Ht:=e0.qk
 have Ho:=e0.pc
 replace U:=iD U
 have bC:=dz.ok
 have fF:=bC.lo
 have gJ:=bC.aH
 refine aD ab U (av rfl<|ah) fun a w ab U=>ax fun cG bJ=>?_
 revert U;revert ab;apply hL (J:=tX (α0:=aC) (α1:=aC) (α2:=aC) (α3:=aC) 13 _ _ _ _ _) #[false,false,false,false,false,false,false,false,false,false,false] 11 mixed rfl rfl
 ·intro w ab U
  refine aS 0 rfl ab (U.ao al (e3)) (bE rfl) fun a ab=>aS 1 rfl ab (U.ao al (e3)) (bN rfl) fun a ab=>aS 2 rfl ab (U.ao al (e3)) (aZ fP rfl rfl (s':=0) az) fun a ab=>aS 3 rfl ab (U.ao al (im.k)) (bf mS 0 rfl rfl rfl rfl) fun a ab=>aS 5 rfl ab (U.ao al (e3)) (bE rfl) fun a ab=>?_
  refine aS 6 rfl ab (U.ao al (e3)) (bN rfl) fun a ab=>aS 7 rfl ab (U.ao al (e3)) (aZ fP rfl rfl (s':=0) az) fun a ab=>aS 8 rfl ab (U.ao al (im.k)) (bf bH 0 rfl rfl rfl rfl) fun a ab=>fB [4] az rfl ⟨?_,trivial⟩
  replace U:=(((U.perm kD).perm ln).perm lp).perm lV
  replace U:=iD U
  refine dW _ rfl rfl ab U rfl (dv Nd rfl (List.Perm.refl _) (by exact (LN _ _ _ _  dz))) ?_
  rintro _ _ _ a w ⟨_,_,rfl,rfl,⟨rfl,rfl,Q3,Rc,Rm,Rv,rfl,Gy⟩⟩ ab U
  replace U:=iD U
  refine ⟨⟨.inr (U.ao al (eS.k.n.n.n.n)),.inr (U.ao al (e3)),.inr (U.ao al (e3)),.inr (U.ao al (e3)),aq,aq,.inr (U.ao al (e3)),.inr (U.ao al (e3)),trivial⟩,?_⟩
  refine aS 9 rfl ab (U.ao al (e3)) (nN rfl rfl ag) fun a ab=>aS 10 rfl ab (U.ao al (e3)) (kS rfl) fun a ab=>ev az (oY Q3 Rc Rm Rv ((And.intro Gy trivial)) (ab.sub (L':=[(2,_)]) ⟨rfl,trivial⟩) U)
 rintro a w ⟨Q3,Rc,Rm,Rv,⟨Gy, -⟩,ab,U⟩
 (try dsimp only at ab U)
 refine bJ _ _<|wp_ret ?_
 replace U:=(((U.perm kD).perm ln).perm lp).perm lV
 exact cY (rs:=[.tmp 2]) rfl ab U (vs:=[_]) ⟨rfl,trivial⟩ [] [_,_,_,_,_,_,_,_] al al (aj.pW (J:=J) (S:=S) ⟨rfl,rfl,_,_,_,_,_,_,_,_,rfl,⟨vn,vbd,jk,e0,rfl,rfl,rfl,rfl⟩,Gy⟩ (rfl) (rfl) (rfl))
theorem acB(h:ak.hT)(b:Nat)(J:aj.dC)(S:ak.aX)(at9:Int)(v:Value)(l:List (List UInt8))(bg:0≤at9∧at9≤4096)(hl:l.length≤200)(w0:World)(bU:List aR){cu ct cx cz d1 d2 d3 d4:aC}(z:aR)(aw:bo Go.aK.encS z v l)(bj:gQ w0 bU z)(eD:mu b h.b J cu ct cx cz)(dz:hF h S d1 d2 d3 d4):e1 Tryz.prog 110 [.pointer (some ⟨b,0,none⟩),aA at9,v] w0 bU [cu,ct,cx,cz,d1,d2,d3,d4] (aj.yo (mu b h.b) (hF h) J (aj.fx S at9 l).1 (.tuple [aA (aj.fx S at9 l).2.1,.bool (aj.fx S at9 l).2.2].toArray)):=by
 refine gk Tryz.func110 rfl Tryz.ntmps110 b4 fun cF a w ab U=>?_
 replace U:=iD U
 obtain ⟨vn,vbd,jk,e0,rfl,rfl,rfl,rfl⟩:=eD
 have qv:=e0.mH
 have l4:=e0.o0
 have wZ:=e0.bL
 have Hp:=e0.bT
 have Hq:=e0.nl
 have Hr:=e0.tl
 have Hs:=e0.bl
 have CK:=e0.qK
 have Ht:=e0.qk
 have Ho:=e0.pc
 replace U:=iD U
 have bC:=dz.ok
 have fF:=bC.lo
 have gJ:=bC.aH
 refine aD ab U (av rfl<|av rfl<|ah) fun a w ab U=>ax fun cG bJ=>aD ab U (ai rfl<|ae (ee cw aw rfl)<|ai rfl<|ah) fun a w ab U=>wp_block ?_
 obtain ⟨bG,a6,U⟩:=U.c1
 refine dy (γ:=aC×aC×aC×aC×Nat) (d1,d2,d3,d4,0) (fun (cu,ct,cx,cz,i)=>[(19,aA (i:Int))]) [(0,_),(1,_),(2,_),(17,_),(18,_)] (fun (cu,ct,cx,cz,i)=>((((bG.set 4 (cu)).set 5 (ct)).set 6 (cx)).set 7 (cz))) (fun (cu,ct,cx,cz,i)=>(i≤l.length∧(aj.cX S at9 l i).2=0)∧hF h ((aj.cX S at9 l i).1) cu ct cx cz) (fun (cu,ct,cx,cz,i)=>l.length-i) (ab.sub ⟨rfl,rfl,rfl,rfl,rfl,rfl,trivial⟩) (by subst a6;exact U) (by exact ⟨⟨Nat.zero_le _,rfl⟩,dz⟩) ?_
 rintro ⟨cu,ct,cx,cz,i⟩ a w bh ab U
 subst a6;(try dsimp only at bh ab U)
 obtain ⟨⟨eL,fq⟩,nG⟩:=bh
 replace U:=iD U
 refine aD ab U (ae (cU rfl rfl)<|ah) fun a w ab U=>ax fun dL b9=>cn ab rfl (fun aU=>?_) (fun aU=>?_)
 ·refine wp_skip<|b9 _ _<|ax fun eN cK=>wp_block ?_
  refine ax fun fa cT=>bx ab U (ai rfl<|ae (dV cw bB aw rfl rfl ag)<|ae (tA bB aw bj rfl rfl ag)<|av rfl<|av rfl<|ah) fun a w ab U=>?_
  rw [Int.toNat_natCast] at ab
  refine cT _ _<|bc fun fk cP=>aG ab U (ai rfl<|ae (bN rfl)<|ae (aZ fP rfl rfl (s':=0) az)<|ae (bf mS 0 rfl rfl rfl rfl)<|ai rfl<|ai rfl<|b5 rfl rfl<|ai rfl<|ah) fun a w ab U=>?_
  replace U:=(((U.perm kD).perm ln).perm lp).perm lV
  replace U:=iD U
  refine aJ ab U rfl (dv XB rfl (List.Perm.refl _) (by exact (Wu _ _ _ ag _ _ _  nG))) ?_
  rintro _ _ _ a w ⟨_,_,rfl,rfl,⟨rfl,rfl,tE,tF,tG,tH,rfl,nF⟩⟩ ab U
  replace U:=iD U
  refine aG ab U (av rfl<|ah) fun a w ab U=>wpList_nil (cP _ _ ?_)
  refine aD ab U (ai rfl<|ae (dS rfl rfl)<|ah) fun a w ab U=>e9 ab rfl (fun bz=>?_) (fun bz=>?_)
  ·refine ax fun hU ef=>bx ab U (ai rfl<|av rfl<|av rfl<|ah) fun a w ab U=>ef _ _ ?_
   refine wp_ret ?_
   replace U:=(((U.perm kD).perm ln).perm lp).perm lV
   exact cY (rs:=[.tmp 6,.tmp 7]) rfl ab U (vs:=[_,_]) ⟨rfl,rfl,trivial⟩ [] [_,_,_,_,_,_,_,_] al al (aj.pW (J:=J) (S:=(ak.write (aj.cX S at9 l i).1 (at9+i) (l.getD i [])).1) ⟨rfl,rfl,_,_,_,_,_,_,_,_,rfl,⟨vn,vbd,jk,e0,rfl,rfl,rfl,rfl⟩,nF⟩ (rfl) (by rw [aj.tP ag fq bz]) (by rw [aj.tP ag fq bz]))
  ·refine wp_skip<|cK _ _<|bx ab U (b5 rfl rfl<|ai rfl<|ah) fun a w ab U=>?_
   replace U:=(((U.perm kD).perm ln).perm lp).perm lV
   replace U:=U.ao al al
   refine ⟨(tE,tF,tG,tH,i+1),?_,?_,ab.sub ⟨rfl,rfl,rfl,rfl,rfl,rfl,trivial⟩,?_⟩
   ·(try dsimp only);omega
   ·exact ⟨⟨by omega,by rw [aj.r8 fq];omega⟩,by rw [aj.r8 fq];exact nF⟩
   ·exact U
 ·obtain rfl:i=l.length:=by omega
  refine wp_exit<|bJ _ _<|ax fun ho dK=>bc fun iZ eY=>aG ab U (ai rfl<|ae (bN rfl)<|ae (aZ fP rfl rfl (s':=0) az)<|ae (bf mS 0 rfl rfl rfl rfl)<|ah) fun a w ab U=>?_
  replace U:=(((U.perm kD).perm ln).perm lp).perm lV
  replace U:=iD U
  refine aJ ab U rfl (dv XC rfl (List.Perm.refl _) (by exact (We _ _ _ _  nG))) ?_
  rintro _ _ _ a w ⟨_,_,rfl,rfl,⟨rfl,rfl,I2,I3,I4,I5,rfl,qs⟩⟩ ab U
  replace U:=iD U
  refine aG ab U (av rfl<|ah) fun a w ab U=>wpList_nil (eY _ _ ?_)
  refine aD ab U (ai rfl<|ae (dS rfl rfl)<|ah) fun a w ab U=>e9 ab rfl (fun cl=>?_) (fun cl=>?_)
  ·refine ax fun kY gF=>bx ab U (ai rfl<|av rfl<|av rfl<|ah) fun a w ab U=>gF _ _ ?_
   refine wp_ret ?_
   replace U:=(((U.perm kD).perm ln).perm lp).perm lV
   exact cY (rs:=[.tmp 6,.tmp 7]) rfl ab U (vs:=[_,_]) ⟨rfl,rfl,trivial⟩ [] [_,_,_,_,_,_,_,_] al al (aj.pW (J:=J) (S:=(ak.flush (aj.cX S at9 l l.length).1).1) ⟨rfl,rfl,_,_,_,_,_,_,_,_,rfl,⟨vn,vbd,jk,e0,rfl,rfl,rfl,rfl⟩,qs⟩ (rfl) (by rw [aj.r6 fq cl]) (by rw [aj.r6 fq cl]))
  ·refine wp_skip<|dK _ _<|aD ab U (av rfl<|ah) fun a w ab U=>ax fun mw hz=>aD ab U (ai rfl<|ae (ee cw aw rfl)<|ai rfl<|ah) fun a w ab U=>?_
   refine wp_block ?_
   obtain ⟨bG,a6,U⟩:=U.c1
   refine dy (γ:=aC×aC×aC×aC×Nat) (I2,I3,I4,I5,0) (fun (cu,ct,cx,cz,i)=>[(47,aA (i:Int)),(12,.bool (aj.iX (ak.flush (aj.cX S at9 l l.length).1).1 at9 l i).2)]) [(0,_),(1,_),(45,_),(46,_)] (fun (cu,ct,cx,cz,i)=>((((bG.set 0 (cu)).set 1 (ct)).set 2 (cx)).set 3 (cz))) (fun (cu,ct,cx,cz,i)=>(i≤l.length∧(aj.iX (ak.flush (aj.cX S at9 l l.length).1).1 at9 l i).1=0)∧hF h ((ak.flush (aj.cX S at9 l l.length).1).1) cu ct cx cz) (fun (cu,ct,cx,cz,i)=>l.length-i) (ab.sub ⟨rfl,rfl,rfl,rfl,rfl,rfl,trivial⟩) (by subst a6;exact U) (by exact ⟨⟨Nat.zero_le _,rfl⟩,qs⟩) ?_
   rintro ⟨cu,ct,cx,cz,i⟩ a w bh ab U
   subst a6;(try dsimp only at bh ab U)
   obtain ⟨⟨eL,hh⟩,nG⟩:=bh
   replace U:=iD U
   refine aD ab U (ae (cU rfl rfl)<|ah) fun a w ab U=>ax fun qa ko=>cn ab rfl (fun dI=>?_) (fun dI=>?_)
   ·refine wp_skip<|ko _ _<|ax fun qb kb=>wp_block ?_
    refine ax fun sg lC=>bx ab U (ai rfl<|ae (dV cw bB aw rfl rfl ag)<|ae (tA bB aw bj rfl rfl ag)<|av rfl<|av rfl<|ah) fun a w ab U=>?_
    rw [Int.toNat_natCast] at ab
    refine lC _ _<|bc fun sh l1=>aG ab U (ai rfl<|ae (bN rfl)<|ae (aZ fP rfl rfl (s':=0) az)<|ae (bf mS 4 rfl rfl rfl rfl)<|ai rfl<|ai rfl<|b5 rfl rfl<|ah) fun a w ab U=>aJ ab U rfl (dv MO rfl (List.Perm.refl _) (by exact (LW _ _ _ ag _ _  nG))) ?_
    rintro _ _ _ a w ⟨_,_,rfl,rfl,⟨rfl,rfl,DP,DQ,DR,DS,rfl,Cn⟩⟩ ab U
    replace U:=iD U
    refine aG ab U (ai rfl<|ae (cQ rfl rfl)<|ae (cQ rfl rfl)<|av rfl<|av rfl<|ah) fun a w ab U=>wpList_nil (l1 _ _ ?_)
    refine ax fun Br rz=>aD ab U (ai rfl<|ae (dS rfl rfl)<|ah) fun a w ab U=>e9 ab rfl (fun dE=>?_) (fun dE=>?_)
    ·refine ax fun Bs rA=>bx ab U (ai rfl<|av rfl<|av rfl<|ah) fun a w ab U=>rA _ _ ?_
     refine wp_ret ?_
     replace U:=(((U.perm kD).perm ln).perm lp).perm lV
     exact cY (rs:=[.tmp 6,.tmp 7]) rfl ab U (vs:=[_,_]) ⟨rfl,rfl,trivial⟩ [] [_,_,_,_,_,_,_,_] al al (aj.pW (J:=J) (S:=(ak.flush (aj.cX S at9 l l.length).1).1) ⟨rfl,rfl,_,_,_,_,_,_,_,_,rfl,⟨vn,vbd,jk,e0,rfl,rfl,rfl,rfl⟩,Cn⟩ (rfl) (by rw [aj.tQ rfl ag fq ag hh dE]) (by rw [aj.tQ rfl ag fq ag hh dE]))
    ·refine wp_skip<|rz _ _<|dM ?_
     refine aG ab U (ai rfl<|ai rfl<|ah) fun a w ab U=>j3 1 67 3 ab U rfl rfl rfl rfl rfl (fun aP=>have aP:=aP;aO 67 rfl rfl rfl (bE rfl)<|aO 67 rfl rfl rfl (bE rfl)<|aO 67 rfl rfl rfl (xu rfl rfl)<|ah) rfl rfl fun a w ab U=>?_
     refine aG ab U (av rfl<|ah) fun a w ab U=>wpList_nil (kb _ _ ?_)
     refine bx ab U (b5 rfl rfl<|ai rfl<|ah) fun a w ab U=>⟨(DP,DQ,DR,DS,i+1),?_,?_,ab.sub ⟨rfl,(by show some (Value.bool _)=some (Value.bool _);rw [aj.AB hh ag]),rfl,rfl,rfl,rfl,trivial⟩,?_⟩
     ·(try dsimp only);omega
     ·exact ⟨⟨by omega,by rw [aj.AB hh ag]⟩,Cn⟩
     ·exact U
   ·refine wp_exit<|hz _ _<|aD ab U (ai rfl<|av rfl<|av rfl<|ah) fun a w ab U=>wp_ret ?_
    replace U:=(((U.perm kD).perm ln).perm lp).perm lV
    obtain rfl:i=l.length:=by omega
    exact cY (rs:=[.tmp 6,.tmp 7]) rfl ab U (vs:=[_,_]) ⟨rfl,rfl,trivial⟩ [] [_,_,_,_,_,_,_,_] al al (aj.pW (J:=J) (S:=(ak.flush (aj.cX S at9 l l.length).1).1) ⟨rfl,rfl,_,_,_,_,_,_,_,_,rfl,⟨vn,vbd,jk,e0,rfl,rfl,rfl,rfl⟩,nG⟩ (rfl) (by rw [aj.kA rfl fq ag hh]) (by rw [aj.kA rfl fq ag hh]))
theorem acx(h:ak.hT)(b:Nat)(J:aj.dC)(S:ak.aX)(t:List UInt8)(w0:World)(bU:List aR){cu ct cx cz d1 d2 d3 d4:aC}{ed:Nat×Nat}{eb:TypeId}(dF:w0.heap[1]?=some (.cells (aL.eH.map cI).toArray eb ed))(eD:mu b h.b J cu ct cx cz)(dz:hF h S d1 d2 d3 d4):e1 Tryz.prog 72 [.pointer (some ⟨b,0,none⟩),vs t] w0 bU [cu,ct,cx,cz,d1,d2,d3,d4] (aj.yo (mu b h.b) (hF h) (aj.app J S t).1 (aj.app J S t).2.1 (.tuple [aA (aj.app J S t).2.2.1,aA (aj.app J S t).2.2.2].toArray)):=by
 refine gk Tryz.func72 rfl Tryz.ntmps72 b4 fun cF a w ab U=>?_
 replace U:=iD U
 obtain ⟨vn,vbd,jk,e0,rfl,rfl,rfl,rfl⟩:=eD
 have qv:=e0.mH
 have l4:=e0.o0
 have wZ:=e0.bL
 have Hp:=e0.bT
 have Hq:=e0.nl
 have Hr:=e0.tl
 have Hs:=e0.bl
 have CK:=e0.qK
 have Ht:=e0.qk
 have Ho:=e0.pc
 replace U:=iD U
 have bC:=dz.ok
 have fF:=bC.lo
 have gJ:=bC.aH
 refine aD ab U (av rfl<|av rfl<|ah) fun a w ab U=>ax fun cG bJ=>wp_block ?_
 refine aD ab U (ai rfl<|ae (bN rfl)<|ae (aZ fP rfl rfl (s':=0) az)<|ae (bf fL 0 rfl rfl rfl rfl)<|av rfl<|ah) fun a w ab U=>df ab rfl (fun aU=>?_) (fun aU=>?_)
 ·refine ax fun et cB=>bx ab U (av rfl<|av rfl<|ah) fun a w ab U=>cB _ _ ?_
  refine wp_ret<|cY (rs:=[.tmp 4,.tmp 5]) rfl ab U (vs:=[_,_]) ⟨rfl,rfl,trivial⟩ [] [_,_,_,_,_,_,_,_] al al (aj.pW (J:=J) (S:=S) ⟨rfl,rfl,_,_,_,_,_,_,_,_,rfl,⟨vn,vbd,jk,e0,rfl,rfl,rfl,rfl⟩,dz⟩ (by rw [aj.app_1 aU]) (by rw [aj.app_1 aU]) (by rw [aj.app_1 aU]))
 ·skip
  refine bc fun dL b9=>aG ab U (ai rfl<|ae (hZ bB rfl)<|ae (fc rfl rfl)<|ai rfl<|ah) fun a w ab U=>gA 3 21 5 ab U rfl rfl rfl rfl rfl (fun aP=>have aP:=(by first | exact of_decide_eq_false aP | exact aP);aO 21 rfl rfl rfl (bE rfl)<|aO 21 rfl rfl rfl (bN rfl)<|aO 21 rfl rfl rfl (aZ fP rfl rfl (s':=0) az)<|aO 21 rfl rfl rfl (bf bH 0 rfl rfl rfl rfl)<|aO 21 rfl rfl rfl (fc rfl rfl)<|ah) rfl rfl fun a w ab U=>?_
  refine aG ab U (av rfl<|ah) fun a w ab U=>wpList_nil (b9 _ _ ?_)
  refine df ab rfl (fun bz=>?_) (fun bz=>?_)
  ·(try simp only [dj] at bz)
   refine aD ab U (av rfl<|av rfl<|ah) fun a w ab U=>wp_ret ?_
   exact cY (rs:=[.tmp 4,.tmp 5]) rfl ab U (vs:=[_,_]) ⟨rfl,rfl,trivial⟩ [] [_,_,_,_,_,_,_,_] al al (aj.pW (J:=J) (S:=S) ⟨rfl,rfl,_,_,_,_,_,_,_,_,rfl,⟨vn,vbd,jk,e0,rfl,rfl,rfl,rfl⟩,dz⟩ (by rw [aj.uw (by rw [aU];simp) ag]) (by rw [aj.uw (by rw [aU];simp) ag]) (by rw [aj.uw (by rw [aU];simp) ag]))
  ·(try simp only [dj] at bz)
   refine bc fun fa cT=>aG ab U (ai rfl<|ae (hZ bB rfl)<|ae (bV F4 rfl (fun w U=>Fx _ (by first | assumption | omega) w ) bP)<|ai rfl<|ah) fun a w ab U=>aJ ab U rfl (dv Xb rfl (List.Perm.refl _) (by exact (acz _ _ J S _ _  ⟨vn,vbd,jk,e0,rfl,rfl,rfl,rfl⟩ dz))) ?_
   rintro _ _ _ a w ⟨_,_,rfl,rfl,⟨rfl,rfl,tE,tF,tG,tH,aqq,aqE,aqS,aq8,rfl,Zq,NJ⟩⟩ ab U
   replace U:=iD U
   refine aG ab U (ae (fc rfl rfl)<|av rfl<|ah) fun a w ab U=>wpList_nil ?_
   obtain ⟨vS,TF,TH,pL,rfl,rfl,rfl,rfl⟩:=Zq
   have amJ:=pL.mH
   have amL:=pL.o0
   have amN:=pL.bL
   have amP:=pL.bT
   have amR:=pL.nl
   have amT:=pL.tl
   have amV:=pL.bl
   have amX:=pL.qK
   have amZ:=pL.qk
   have amH:=pL.pc
   replace U:=iD U
   refine cT _ _<|cn ab rfl (fun cl=>?_) (fun cl=>?_)
   ·refine ax fun fk cP=>bx ab U (av rfl<|av rfl<|ah) fun a w ab U=>cP _ _ ?_
    refine wp_ret<|cY (rs:=[.tmp 4,.tmp 5]) rfl ab U (vs:=[_,_]) ⟨rfl,rfl,trivial⟩ [] [_,_,_,_,_,_,_,_] al al (aj.pW (J:=J) (S:=S) ⟨rfl,rfl,_,_,_,_,_,_,_,_,rfl,⟨vS,TF,TH,pL,rfl,rfl,rfl,rfl⟩,NJ⟩ (by rw [aj.sq (by rw [aU];simp) ag ag]) (by rw [aj.sq (by rw [aU];simp) ag ag]) (by rw [aj.sq (by rw [aU];simp) ag ag]))
   ·have c6:¬ J.gR=true:=by rw [aU];simp
    have iy:t.length≤8000∧J.next≤4096:=by omega
    have iA:¬ aj.room J S<aj.a7 t.length:=by omega
    have oc:=aj.nD t.length
    have abL:((aj.cD J.next t).length:Int)=aj.a7 t.length:=by rw [aj.o9,Int.toNat_of_nonneg oc.1]
    have HG:=iA
    unfold aj.room at HG
    refine wp_skip<|bJ _ _<|iE mixed az ab U (ai rfl<|ae (bN rfl)<|ae (aZ fP rfl rfl (s':=0) az)<|ae (bf bH 0 rfl rfl rfl rfl)<|ai rfl<|ae (bN rfl)<|ae (aZ fP rfl rfl (s':=0) az)<|ae (bf bH 0 rfl rfl rfl rfl)<|av rfl<|av rfl<|ah) fun a w ab U=>bc fun hU ef=>aG ab U (ai rfl<|ai rfl<|ah) fun a w ab U=>?_
    refine aJ ab U rfl (eT Xc rfl (fun w U=>aeU _ _ ag w (U.ext _ _ dF))) ?_
    rintro _ _ _ a w ⟨_,_,rfl,rfl,⟨x1,rfl,rfl,rfl⟩⟩ ab U
    replace U:=kq U
    refine aG ab U (ai rfl<|ae (cQ rfl rfl)<|ae (cQ rfl rfl)<|av rfl<|av rfl<|ah) fun a w ab U=>wpList_nil ?_
    rw [aj.DA ag ag] at U ab
    dsimp only at U ab
    refine ef _ _<|bc fun ho dK=>aG ab U (ai rfl<|ai rfl<|ai rfl<|b5 rfl rfl<|ai rfl<|ai rfl<|ae (hA cw 0 rfl rfl)<|b5 rfl rfl<|ae (bN rfl)<|ae (aZ fP rfl rfl (s':=0) az)<|ah) fun a w ab U=>aJ ab U rfl (dq bH 1 rfl rfl rfl rfl (by simp)) ?_
    rintro _ _ _ a w ⟨rfl,rfl,rfl⟩ ab U
    replace U:aB _ (_) (_::.blk _ _ ([_,_,_,_,_,_,_].set 4 _)::_::_::_::_::_::_::_::_) _:=U
    simp only [dd] at U
    replace U:=kq U
    refine aG ab U (ae (bN rfl)<|ae (aZ fP rfl rfl (s':=0) az)<|ah) fun a w ab U=>aJ ab U rfl (dq bH 1 rfl rfl rfl rfl (by simp)) ?_
    rintro _ _ _ a w ⟨rfl,rfl,rfl⟩ ab U
    replace U:aB _ (_) (_::.blk _ _ ([_,_,_,_,_,_,_].set 5 _)::_::_::_::_::_::_::_::_) _:=U
    simp only [dd] at U
    replace U:=kq U
    refine wpList_nil (dK _ _ ?_)
    refine ax fun iZ eY=>bc fun iR eO=>aG ab U (ai rfl<|ai rfl<|ai rfl<|ah) fun a w ab U=>?_
    obtain ⟨arA,acb,U⟩:=aB.qo (h0:=fun _=>rfl) (f:=vs) (p:=fun s=>s.length≤140737488355328) (xs:=aj.cD J.next t) U (by first | rfl | (simp;done)) (by first | decide | omega | (simp;omega)) (aj.ahL)
    replace U:=qM U
    refine aJ ab U rfl (dv Xd rfl (List.Perm.refl _) (by exact (acB _ _ (aj.ki J t) _ _ _ (aj.cD J.next t) ag (by rw [aj.o9];omega) _ _ _ acb (.inr (by simp)) ⟨vS,TF,TH,aj.J6 e0 ag iy iA,rfl,rfl,rfl,rfl⟩ NJ))) ?_
    rintro _ _ _ a w ⟨_,_,rfl,rfl,⟨rfl,rfl,aoR,apb,apw,apR,aql,aqz,aqN,aq2,rfl,GH,wM⟩⟩ ab U
    replace U:=qM U
    refine aG ab U (ai rfl<|ae (cQ rfl rfl)<|ae (cQ rfl rfl)<|av rfl<|av rfl<|ah) fun a w ab U=>wpList_nil ?_
    obtain ⟨ark,ari,aru,n2,rfl,rfl,rfl,rfl⟩:=GH
    have amK:=n2.mH
    have amM:=n2.o0
    have amO:=n2.bL
    have amQ:=n2.bT
    have amS:=n2.nl
    have amU:=n2.tl
    have amW:=n2.bl
    have amY:=n2.qK
    have am0:=n2.qk
    have amI:=n2.pc
    replace U:=qM U
    refine eO _ _<|wp_block ?_
    refine aD ab U (ai rfl<|ae (dS rfl rfl)<|av rfl<|ah) fun a w ab U=>e9 ab rfl (fun dI=>?_) (fun dI=>?_)
    ·refine ax fun j5 fC=>dM ?_
     refine aG ab U (ai rfl<|ae (bN rfl)<|ae (aZ fP rfl rfl (s':=0) az)<|ah) fun a w ab U=>aJ ab U rfl (dq fL 0 rfl rfl rfl rfl (by simp)) ?_
     rintro _ _ _ a w ⟨rfl,rfl,rfl⟩ ab U
     replace U:aB _ (_::_) (.blk _ _ ([_,_,_,_,_,_,_].set 6 _)::_::_::_::_::_::_::_::_) _:=U
     simp only [dd] at U
     replace U:=qM U
     refine wpList_nil (fC _ _ ?_)
     refine aD ab U (ai rfl<|av rfl<|av rfl<|ah) fun a w ab U=>wp_ret ?_
     exact cY (rs:=[.tmp 4,.tmp 5]) rfl ab U (vs:=[_,_]) ⟨rfl,rfl,trivial⟩ [] [_,_,_,_,_,_,_,_] (c2) al (aj.pW (J:=aj.kj J t) (S:=(aj.fx S J.en (aj.cD J.next t)).1) ⟨rfl,rfl,_,_,_,_,_,_,_,_,rfl,⟨_,_,_,aj.Et n2,rfl,rfl,rfl,rfl⟩,wM⟩ (by rw [aj.nz c6 iy iA dI]) (by rw [aj.nz c6 iy iA dI]) (by rw [aj.nz c6 iy iA dI]))
    ·refine ax fun oF jg=>bx ab U (ai rfl<|ae (fZ rfl)<|av rfl<|ah) fun a w ab U=>jg _ _ ?_
     refine df ab rfl (fun dE=>?_) (fun dE=>?_)
     ·refine ax fun pq jF=>bx ab U (av rfl<|av rfl<|ah) fun a w ab U=>jF _ _ ?_
      refine wp_ret<|cY (rs:=[.tmp 4,.tmp 5]) rfl ab U (vs:=[_,_]) ⟨rfl,rfl,trivial⟩ [] [_,_,_,_,_,_,_,_] (c2) al (aj.pW (J:=aj.ki J t) (S:=(aj.fx S J.en (aj.cD J.next t)).1) ⟨rfl,rfl,_,_,_,_,_,_,_,_,rfl,⟨_,_,_,n2,rfl,rfl,rfl,rfl⟩,wM⟩ (by rw [aj.ux c6 iy iA ag (by simpa using dE)]) (by rw [aj.ux c6 iy iA ag (by simpa using dE)]) (by rw [aj.ux c6 iy iA ag (by simpa using dE)]))
     ·refine wp_skip<|eY _ _<|ax fun qa ko=>?_
      revert U;revert ab;apply hL (J:=tX (α0:=Value) (α1:=Value) (α2:=Value) (α3:=Value) 99 _ _ _ _ _) #[false,false,false,false,false,false,false,false,false,false,false,false,false,false,false,false,false,false,false,false,false,false] 22 mixed rfl rfl
      ·intro w ab U
       refine aS 0 rfl ab (U.ao al (e3)) (bE rfl) fun a ab=>aS 1 rfl ab (U.ao al (e3)) (bE rfl) fun a ab=>aS 2 rfl ab (U.ao al (e3)) (bE rfl) fun a ab=>aS 3 rfl ab (U.ao al (e3)) (bN rfl) fun a ab=>aS 4 rfl ab (U.ao al (e3)) (aZ fP rfl rfl (s':=0) az) fun a ab=>?_
       refine aS 5 rfl ab (U.ao al (im.k)) (bf dm 0 rfl rfl rfl rfl) fun a ab=>aS 6 rfl ab (U.ao al (e3)) (bE rfl) fun a ab=>aS 9 rfl ab (U.ao al (e3)) (bE rfl) fun a ab=>aS 10 rfl ab (U.ao al (e3)) (bN rfl) fun a ab=>aS 11 rfl ab (U.ao al (e3)) (aZ fP rfl rfl (s':=0) az) fun a ab=>?_
       refine aS 12 rfl ab (U.ao al (im.k)) (bf cw 0 rfl rfl rfl rfl) fun a ab=>aS 13 rfl ab (U.ao al (e3)) (bE rfl) fun a ab=>fB [7,14] az rfl ⟨?_,?_,trivial⟩
       ·refine dW _ rfl rfl ab U rfl (eu dm bH rfl rfl bM a8 rfl rfl) ?_
        rintro A4 _ _ a w ⟨rfl,rfl⟩ ab U
        replace U:=rT U
        refine ⟨⟨.inr (U.ao al (dG)),.inr (U.ao al (im.k.n)),.inr (U.ao al (dG)),.inr (U.ao al (dG)),.inr (U.ao al (dG)),aq,.inr (U.ao al (im.k.n)),.inr (U.ao al (dG)),.inr (U.ao al (dG)),.inr (U.ao al (dG)),.inr (U.ao al (dG)),.inr (U.ao al (dG)),trivial⟩,?_⟩
        refine fB [8,14] az rfl ⟨?_,?_,trivial⟩
        ·refine dW _ rfl rfl ab U rfl (dH dm bH 2 rfl rfl rfl (eo dm (k:=0) rfl bM) aI rfl a8) ?_
         rintro x7 _ _ a w ⟨rfl,rfl⟩ ab U
         replace U:=rT U
         refine ⟨⟨.inr (U.ao al (dG)),.inr (U.ao al (im.k.n)),.inr (U.ao al (dG)),.inr (U.ao al (dG)),.inr (U.ao al (dG)),aq,aq,aq,.inr (U.ao al (dG)),.inr (U.ao al (dG)),.inr (U.ao al (dG)),.inr (U.ao al (dG)),trivial⟩,?_⟩
         refine bY 14 rfl rfl ab U rfl (eu cw bB rfl rfl bM a8 rfl rfl) ?_
         rintro x5 _ _ a w ⟨rfl,rfl⟩ ab U
         replace U:=iN U
         refine ⟨⟨aq,.inr (U.ao al (im.k.n.n)),.inr (U.ao al (bQ)),.inr (U.ao al (bQ)),.inr (U.ao al (bQ)),aq,aq,aq,.inr (U.ao al (bQ)),.inr (U.ao al (bQ)),.inr (U.ao al (bQ)),.inr (U.ao al (bQ)),trivial⟩,?_⟩
         refine bY 15 rfl rfl ab U rfl (dH cw bB 5 rfl rfl rfl (eo cw (k:=0) rfl bM) aI rfl a8) ?_
         rintro x6 _ _ a w ⟨rfl,rfl⟩ ab U
         replace U:=iN U
         refine ⟨⟨aq,aq,aq,.inr (U.ao al (bQ)),.inr (U.ao al (bQ)),aq,aq,aq,.inr (U.ao al (bQ)),.inr (U.ao al (bQ)),.inr (U.ao al (bQ)),.inr (U.ao al (bQ)),trivial⟩,?_⟩
         refine aS 16 rfl ab (U.ao al (bQ)) (bN rfl) fun a ab=>aS 17 rfl ab (U.ao al (bQ)) (aZ fP rfl rfl (s':=0) az) fun a ab=>bY 18 rfl rfl ab U rfl (dq dm 2 rfl rfl rfl (row_one (U.dp 3 rfl)) (by simp)) ?_
         rintro _ _ _ a w ⟨rfl,rfl,rfl⟩ ab U
         replace U:aB _ (_::_) (_::_::.blk _ _ ([_,_,_,_,_,_,_].set 1 _)::_::_::_::_::_::_::_::_) _:=U
         simp only [dd] at U
         replace U:=iN U
         refine ⟨⟨aq,aq,aq,aq,aq,.inr (U.ao al (bQ)),.inr (U.ao al (bQ)),aq,aq,aq,aq,aq,.inr (U.ao al (bQ)),aq,trivial⟩,?_⟩
         refine aS 19 rfl ab (U.ao al (bQ)) (bN rfl) fun a ab=>aS 20 rfl ab (U.ao al (bQ)) (aZ fP rfl rfl (s':=0) az) fun a ab=>bY 21 rfl rfl ab U rfl (dq cw 2 rfl rfl rfl (row_one (U.dp 5 rfl)) (by simp)) ?_
         rintro _ _ _ a w ⟨rfl,rfl,rfl⟩ ab U
         replace U:aB _ (_::_) (_::_::.blk _ _ ([_,_,_,_,_,_,_].set 3 _)::_::_::_::_::_::_::_::_) _:=U
         simp only [dd] at U
         replace U:=iN U
         refine ⟨⟨aq,aq,aq,aq,aq,aq,aq,aq,aq,aq,aq,aq,aq,aq,aq,aq,trivial⟩,?_⟩
         exact ev az (oY A4 x7 x5 x6 (trivial) (ab.sub (L':=[(6,_)]) ⟨rfl,trivial⟩) U)
        ·refine dW _ rfl rfl ab U rfl (eu cw bB rfl rfl bM a8 rfl rfl) ?_
         rintro x5 _ _ a w ⟨rfl,rfl⟩ ab U
         replace U:=iN U
         refine ⟨⟨aq,.inr (U.ao al (im.k.n.n)),.inr (U.ao al (bQ)),.inr (U.ao al (bQ)),.inr (U.ao al (bQ)),aq,.inr (U.ao al (im.k.n.n)),.inr (U.ao al (bQ)),.inr (U.ao al (bQ)),.inr (U.ao al (bQ)),.inr (U.ao al (bQ)),.inr (U.ao al (bQ)),trivial⟩,?_⟩
         refine bY 8 rfl rfl ab U rfl (dH dm bH 3 rfl rfl rfl (eo dm (k:=1) rfl bM) aI rfl a8) ?_
         rintro x7 _ _ a w ⟨rfl,rfl⟩ ab U
         replace U:=iN U
         refine ⟨⟨aq,.inr (U.ao al (im.k.n.n)),.inr (U.ao al (bQ)),.inr (U.ao al (bQ)),.inr (U.ao al (bQ)),aq,aq,aq,.inr (U.ao al (bQ)),.inr (U.ao al (bQ)),.inr (U.ao al (bQ)),.inr (U.ao al (bQ)),trivial⟩,?_⟩
         refine bY 15 rfl rfl ab U rfl (dH cw bB 5 rfl rfl rfl (eo cw (k:=0) rfl bM) aI rfl a8) ?_
         rintro x6 _ _ a w ⟨rfl,rfl⟩ ab U
         replace U:=iN U
         refine ⟨⟨aq,aq,aq,.inr (U.ao al (bQ)),.inr (U.ao al (bQ)),aq,aq,aq,.inr (U.ao al (bQ)),.inr (U.ao al (bQ)),.inr (U.ao al (bQ)),.inr (U.ao al (bQ)),trivial⟩,?_⟩
         refine aS 16 rfl ab (U.ao al (bQ)) (bN rfl) fun a ab=>aS 17 rfl ab (U.ao al (bQ)) (aZ fP rfl rfl (s':=0) az) fun a ab=>bY 18 rfl rfl ab U rfl (dq dm 2 rfl rfl rfl (row_one (U.dp 3 rfl)) (by simp)) ?_
         rintro _ _ _ a w ⟨rfl,rfl,rfl⟩ ab U
         replace U:aB _ (_::_) (_::_::.blk _ _ ([_,_,_,_,_,_,_].set 1 _)::_::_::_::_::_::_::_::_) _:=U
         simp only [dd] at U
         replace U:=iN U
         refine ⟨⟨aq,aq,aq,aq,aq,.inr (U.ao al (bQ)),.inr (U.ao al (bQ)),aq,aq,aq,aq,aq,.inr (U.ao al (bQ)),aq,trivial⟩,?_⟩
         refine aS 19 rfl ab (U.ao al (bQ)) (bN rfl) fun a ab=>aS 20 rfl ab (U.ao al (bQ)) (aZ fP rfl rfl (s':=0) az) fun a ab=>bY 21 rfl rfl ab U rfl (dq cw 2 rfl rfl rfl (row_one (U.dp 5 rfl)) (by simp)) ?_
         rintro _ _ _ a w ⟨rfl,rfl,rfl⟩ ab U
         replace U:aB _ (_::_) (_::_::.blk _ _ ([_,_,_,_,_,_,_].set 3 _)::_::_::_::_::_::_::_::_) _:=U
         simp only [dd] at U
         replace U:=iN U
         refine ⟨⟨aq,aq,aq,aq,aq,aq,aq,aq,aq,aq,aq,aq,aq,aq,aq,aq,trivial⟩,?_⟩
         exact ev az (oY A4 x7 x5 x6 (trivial) (ab.sub (L':=[(6,_)]) ⟨rfl,trivial⟩) U)
       ·refine dW _ rfl rfl ab U rfl (eu cw bB rfl rfl bM a8 rfl rfl) ?_
        rintro x5 _ _ a w ⟨rfl,rfl⟩ ab U
        replace U:=rT U
        refine ⟨⟨aq,.inr (U.ao al (im.k.n)),.inr (U.ao al (dG)),.inr (U.ao al (dG)),.inr (U.ao al (dG)),.inr (U.ao al (dG)),.inr (U.ao al (im.k.n)),.inr (U.ao al (dG)),.inr (U.ao al (dG)),.inr (U.ao al (dG)),.inr (U.ao al (dG)),.inr (U.ao al (dG)),trivial⟩,?_⟩
        refine bY 7 rfl rfl ab U rfl (eu dm bH rfl rfl bM a8 rfl rfl) ?_
        rintro A4 _ _ a w ⟨rfl,rfl⟩ ab U
        replace U:=iN U
        refine ⟨⟨aq,.inr (U.ao al (im.k.n.n)),.inr (U.ao al (bQ)),.inr (U.ao al (bQ)),.inr (U.ao al (bQ)),aq,.inr (U.ao al (im.k.n.n)),.inr (U.ao al (bQ)),.inr (U.ao al (bQ)),.inr (U.ao al (bQ)),.inr (U.ao al (bQ)),.inr (U.ao al (bQ)),trivial⟩,?_⟩
        refine bY 8 rfl rfl ab U rfl (dH dm bH 3 rfl rfl rfl (eo dm (k:=0) rfl bM) aI rfl a8) ?_
        rintro x7 _ _ a w ⟨rfl,rfl⟩ ab U
        replace U:=iN U
        refine ⟨⟨aq,.inr (U.ao al (im.k.n.n)),.inr (U.ao al (bQ)),.inr (U.ao al (bQ)),.inr (U.ao al (bQ)),aq,aq,aq,.inr (U.ao al (bQ)),.inr (U.ao al (bQ)),.inr (U.ao al (bQ)),.inr (U.ao al (bQ)),trivial⟩,?_⟩
        refine bY 15 rfl rfl ab U rfl (dH cw bB 5 rfl rfl rfl (eo cw (k:=1) rfl bM) aI rfl a8) ?_
        rintro x6 _ _ a w ⟨rfl,rfl⟩ ab U
        replace U:=iN U
        refine ⟨⟨aq,aq,aq,.inr (U.ao al (bQ)),.inr (U.ao al (bQ)),aq,aq,aq,.inr (U.ao al (bQ)),.inr (U.ao al (bQ)),.inr (U.ao al (bQ)),.inr (U.ao al (bQ)),trivial⟩,?_⟩
        refine aS 16 rfl ab (U.ao al (bQ)) (bN rfl) fun a ab=>aS 17 rfl ab (U.ao al (bQ)) (aZ fP rfl rfl (s':=0) az) fun a ab=>bY 18 rfl rfl ab U rfl (dq dm 2 rfl rfl rfl (row_one (U.dp 3 rfl)) (by simp)) ?_
        rintro _ _ _ a w ⟨rfl,rfl,rfl⟩ ab U
        replace U:aB _ (_::_) (_::_::.blk _ _ ([_,_,_,_,_,_,_].set 1 _)::_::_::_::_::_::_::_::_) _:=U
        simp only [dd] at U
        replace U:=iN U
        refine ⟨⟨aq,aq,aq,aq,aq,.inr (U.ao al (bQ)),.inr (U.ao al (bQ)),aq,aq,aq,aq,aq,.inr (U.ao al (bQ)),aq,trivial⟩,?_⟩
        refine aS 19 rfl ab (U.ao al (bQ)) (bN rfl) fun a ab=>aS 20 rfl ab (U.ao al (bQ)) (aZ fP rfl rfl (s':=0) az) fun a ab=>bY 21 rfl rfl ab U rfl (dq cw 2 rfl rfl rfl (row_one (U.dp 5 rfl)) (by simp)) ?_
        rintro _ _ _ a w ⟨rfl,rfl,rfl⟩ ab U
        replace U:aB _ (_::_) (_::_::.blk _ _ ([_,_,_,_,_,_,_].set 3 _)::_::_::_::_::_::_::_::_) _:=U
        simp only [dd] at U
        replace U:=iN U
        refine ⟨⟨aq,aq,aq,aq,aq,aq,aq,aq,aq,aq,aq,aq,aq,aq,aq,aq,trivial⟩,?_⟩
        exact ev az (oY A4 x7 x5 x6 (trivial) (ab.sub (L':=[(6,_)]) ⟨rfl,trivial⟩) (U.perm (.swap _ _ _)))
      rintro a w ⟨A4,x7,x5,x6, -,ab,U⟩
      (try dsimp only at ab U)
      refine ko _ _<|aD ab U (ai rfl<|av rfl<|av rfl<|ah) fun a w ab U=>wp_ret ?_
      replace U:=(((((((U.perm nV).perm mX).perm pv).perm qf).perm uc).perm qh).perm ue).perm yt
      exact cY (rs:=[.tmp 4,.tmp 5]) rfl ab U (vs:=[_,_]) ⟨rfl,rfl,trivial⟩ [] [_,_,_,_,_,_,_,_] (c2) (fO.k.k.k.k.k.k.k.k) (aj.pW (J:=aj.jC J t) (S:=(aj.fx S J.en (aj.cD J.next t)).1) ⟨rfl,rfl,_,_,_,_,_,_,_,_,rfl,⟨_,_,_,aj.J7 e0 n2 iy,rfl,(by simp [aj.jC,aj.ki]),rfl,(by simp [aj.jC,aj.ki])⟩,wM⟩ (by rw [aj.ri c6 iy iA ag (by simpa using dE)]) (by rw [aj.ri c6 iy iA ag (by simpa using dE)]) (by rw [aj.ri c6 iy iA ag (by simpa using dE)]))
end
section
theorem oC:ba Tryz.prog 90 (.pointer 162) 1 8 (Value.pointer none):=⟨Tryz.underlying90,by kernel_rfl⟩
theorem gN : ba Tryz.prog 207 (.struct #[⟨ "D", 90, 0, false, "", "", 0⟩, ⟨ "Nums", 22, 1, false, "", "", 8⟩, ⟨ "L", 40, 2, false, "", "", 32⟩, ⟨ "BadOnes", 22, 3, false, "", "", 56⟩, ⟨ "Next", 3, 4, false, "", "", 80⟩, ⟨ "End", 3, 5, false, "", "", 88⟩, ⟨ "Closed", 4, 6, false, "", "", 96⟩]) 7 104 (.agg ([Value.pointer none] ++ [Value.slice none 0 0, Value.slice none 0 0, Value.slice none 0 0] ++ [Value.int .i64 0, Value.int .i64 0] ++ [Value.bool false]).toArray) := ⟨Tryz.underlying207, by kernel_rfl⟩
theorem MJ:b1 Tryz.prog 159:=b6 Tryz.func159
abbrev mr:=aj.yy 207 3 9
attribute [local irreducible] aL.sum aj.fb aj.aT aj.c0 aj.a7
theorem aby(b bd:Nat)(v:Value)(J:aj.dC)(S:ak.aX)(w0:World)(bU:List aR){cu ct cx cz:aC}(eD:mr b bd J cu ct cx cz)(bC:ak.Ok S):e1 Tryz.prog 129 [.pointer (some ⟨b,0,none⟩)] w0 bU [cu,ct,cx,cz,fQ bd v S,fR v S] (aj.BA (mr b bd) (fQ bd v) (fR v) J S (aA (aj.room J S))):=by
 refine gk Tryz.func129 rfl Tryz.ntmps129 b4 fun cF a w ab U=>?_
 replace U:=l8 U
 obtain ⟨un,ubd,ut,gm,rfl,rfl,rfl,rfl⟩:=eD
 have Ov:=gm.mH
 have zO:=gm.o0
 have Ox:=gm.bL
 have CZ:=gm.bT
 have Oy:=gm.nl
 have Oz:=gm.tl
 have OA:=gm.bl
 have OB:=gm.qK
 have OC:=gm.qk
 have Ow:=gm.pc
 replace U:=l8 U
 have fF:=bC.lo
 have gJ:=bC.aH
 refine aD ab U (av rfl<|ah) fun a w ab U=>ax fun cG bJ=>?_
 revert U;revert ab;apply hL (J:=Kj 13 _ _ _ _ _) #[false,false,false,false,false,false,false,false,false,false,false] 11 mixed rfl rfl
 ·intro w ab U
  refine aS 0 rfl ab (U.ao al (mf)) (bE rfl) fun a ab=>aS 1 rfl ab (U.ao al (mf)) (bN rfl) fun a ab=>aS 2 rfl ab (U.ao al (mf)) (aZ gN rfl rfl (s':=0) az) fun a ab=>aS 3 rfl ab (U.ao al (al.n.n.n.n.n.k)) (bf oC 0 rfl rfl rfl rfl) fun a ab=>aS 5 rfl ab (U.ao al (mf)) (bE rfl) fun a ab=>?_
  refine aS 6 rfl ab (U.ao al (mf)) (bN rfl) fun a ab=>aS 7 rfl ab (U.ao al (mf)) (aZ gN rfl rfl (s':=0) az) fun a ab=>aS 8 rfl ab (U.ao al (al.n.n.n.n.n.k)) (bf bH 0 rfl rfl rfl rfl) fun a ab=>fB [4] az rfl ⟨?_,trivial⟩
  replace U:=(U.perm kD).perm ln
  replace U:=l8 U
  refine dW _ rfl rfl ab U rfl (dv MJ rfl (List.Perm.refl _) (by exact (RP _ _  (by first | assumption | exact ak.iO (by assumption) | exact ak.kz (by assumption) _ _) (S:=S) (v:=v)))) ?_
  rintro _ _ _ a w ⟨_,_,rfl,rfl,⟨rfl,rfl,rfl⟩⟩ ab U
  replace U:=l8 U
  refine ⟨⟨.inr (U.ao al (eS.k.n.n)),.inr (U.ao al (mf)),.inr (U.ao al (mf)),.inr (U.ao al (mf)),aq,aq,.inr (U.ao al (mf)),.inr (U.ao al (mf)),trivial⟩,?_⟩
  refine aS 9 rfl ab (U.ao al (mf)) (nN rfl rfl ag) fun a ab=>aS 10 rfl ab (U.ao al (mf)) (kS rfl) fun a ab=>ev az (acr  (trivial) (ab.sub (L':=[(2,_)]) ⟨rfl,trivial⟩) U)
 rintro a w ⟨-,ab,U⟩
 (try dsimp only at ab U)
 refine bJ _ _<|wp_ret ?_
 replace U:=(((U.perm nV).perm mX).perm pv).perm qf
 exact cY (rs:=[.tmp 2]) rfl ab U (vs:=[_]) ⟨rfl,trivial⟩ [] [_,_,_,_,_,_] al al (aj.r1 (B:=fQ bd v) (W:=fR v) (J:=J) (S:=S) ⟨rfl,rfl,_,_,_,_,rfl,⟨un,ubd,ut,gm,rfl,rfl,rfl,rfl⟩⟩ (rfl) (rfl) (rfl))
end
section
theorem Xp:b1 Tryz.prog 129:=b6 Tryz.func129
theorem Xq:b1 Tryz.prog 130:=b6 Tryz.func130
theorem Xr:b1 Tryz.prog 131:=b6 Tryz.func131
theorem Xs:b1 Tryz.prog 132:=b6 Tryz.func132
theorem ME:b1 Tryz.prog 133:=b6 Tryz.func133
attribute [local irreducible] aL.sum aj.fb aj.aT aj.c0 aj.a7 aj.cD
theorem Z5(b bd:Nat)(v:Value)(J:aj.dC)(S:ak.aX)(t:List UInt8)(w0:World)(bU:List aR){cu ct cx cz:aC}{ed:Nat×Nat}{eb:TypeId}(dF:w0.heap[0]?=some (.cells (aL.eH.map cI).toArray eb ed))(eD:mr b bd J cu ct cx cz)(bC:ak.Ok S):e1 Tryz.prog 87 [.pointer (some ⟨b,0,none⟩),vs t] w0 bU [cu,ct,cx,cz,fQ bd v S,fR v S] (aj.BA (mr b bd) (fQ bd v) (fR v) (aj.app J S t).1 (aj.app J S t).2.1 (.tuple [aA (aj.app J S t).2.2.1,aA (aj.app J S t).2.2.2].toArray)):=by
 refine gk Tryz.func87 rfl Tryz.ntmps87 b4 fun cF a w ab U=>?_
 replace U:=l8 U
 obtain ⟨un,ubd,ut,gm,rfl,rfl,rfl,rfl⟩:=eD
 have Ov:=gm.mH
 have zO:=gm.o0
 have Ox:=gm.bL
 have CZ:=gm.bT
 have Oy:=gm.nl
 have Oz:=gm.tl
 have OA:=gm.bl
 have OB:=gm.qK
 have OC:=gm.qk
 have Ow:=gm.pc
 replace U:=l8 U
 have fF:=bC.lo
 have gJ:=bC.aH
 refine aD ab U (av rfl<|av rfl<|ah) fun a w ab U=>ax fun cG bJ=>aD ab U (ai rfl<|ae (bN rfl)<|ae (aZ gN rfl rfl (s':=0) az)<|ae (bf fL 0 rfl rfl rfl rfl)<|ah) fun a w ab U=>df ab rfl (fun aU=>?_) (fun aU=>?_)
 ·refine ax fun et cB=>bx ab U (av rfl<|av rfl<|ah) fun a w ab U=>cB _ _ ?_
  refine wp_ret<|cY (rs:=[.tmp 4,.tmp 5]) rfl ab U (vs:=[_,_]) ⟨rfl,rfl,trivial⟩ [] [_,_,_,_,_,_] al al (aj.r1 (B:=fQ bd v) (W:=fR v) (J:=J) (S:=S) ⟨rfl,rfl,_,_,_,_,rfl,⟨un,ubd,ut,gm,rfl,rfl,rfl,rfl⟩⟩ (by rw [aj.app_1 aU]) (by rw [aj.app_1 aU]) (by rw [aj.app_1 aU]))
 ·refine wp_skip<|bJ _ _<|ax fun dL b9=>bc fun eN cK=>aG ab U (ai rfl<|ae (hZ bB rfl)<|ae (fc rfl rfl)<|ai rfl<|ah) fun a w ab U=>?_
  refine gA 3 24 5 ab U rfl rfl rfl rfl rfl (fun aP=>have aP:=(by first | exact of_decide_eq_false aP | exact aP);aO 24 rfl rfl rfl (bE rfl)<|aO 24 rfl rfl rfl (bN rfl)<|aO 24 rfl rfl rfl (aZ gN rfl rfl (s':=0) az)<|aO 24 rfl rfl rfl (bf bH 0 rfl rfl rfl rfl)<|aO 24 rfl rfl rfl (fc rfl rfl)<|ah) rfl rfl fun a w ab U=>?_
  refine wpList_nil (cK _ _ ?_)
  refine df ab rfl (fun bz=>?_) (fun bz=>?_)
  ·(try simp only [dj] at bz)
   refine aD ab U (av rfl<|av rfl<|ah) fun a w ab U=>wp_ret ?_
   exact cY (rs:=[.tmp 4,.tmp 5]) rfl ab U (vs:=[_,_]) ⟨rfl,rfl,trivial⟩ [] [_,_,_,_,_,_] al al (aj.r1 (B:=fQ bd v) (W:=fR v) (J:=J) (S:=S) ⟨rfl,rfl,_,_,_,_,rfl,⟨un,ubd,ut,gm,rfl,rfl,rfl,rfl⟩⟩ (by rw [aj.uw (by rw [aU];simp) ag]) (by rw [aj.uw (by rw [aU];simp) ag]) (by rw [aj.uw (by rw [aU];simp) ag]))
  ·(try simp only [dj] at bz)
   refine wp_skip<|b9 _ _<|ax fun fk cP=>bc fun gB du=>aG ab U (ai rfl<|ae (hZ bB rfl)<|ae (bV F0 rfl (fun w U=>H9 _ (by first | assumption | omega) w ) bP)<|ai rfl<|ah) fun a w ab U=>?_
   refine aJ ab U rfl (dv Xp rfl (List.Perm.refl _) (by exact (aby _ bd v J S _ _  ⟨un,ubd,ut,gm,rfl,rfl,rfl,rfl⟩ (by assumption)))) ?_
   rintro _ _ _ a w ⟨_,_,rfl,rfl,⟨rfl,rfl,tE,tF,tG,tH,rfl,Zz⟩⟩ ab U
   replace U:=l8 U
   refine aG ab U (ae (fc rfl rfl)<|ah) fun a w ab U=>wpList_nil ?_
   obtain ⟨ai5,aiY,ajc,pK,rfl,rfl,rfl,rfl⟩:=Zz
   have anJ:=pK.mH
   have anK:=pK.o0
   have anL:=pK.bL
   have anM:=pK.bT
   have anN:=pK.nl
   have anO:=pK.tl
   have anP:=pK.bl
   have anQ:=pK.qK
   have anS:=pK.qk
   have anI:=pK.pc
   replace U:=l8 U
   refine du _ _<|cn ab rfl (fun cl=>?_) (fun cl=>?_)
   ·refine ax fun hU ef=>bx ab U (av rfl<|av rfl<|ah) fun a w ab U=>ef _ _ ?_
    refine wp_ret<|cY (rs:=[.tmp 4,.tmp 5]) rfl ab U (vs:=[_,_]) ⟨rfl,rfl,trivial⟩ [] [_,_,_,_,_,_] al al (aj.r1 (B:=fQ bd v) (W:=fR v) (J:=J) (S:=S) ⟨rfl,rfl,_,_,_,_,rfl,⟨ai5,aiY,ajc,pK,rfl,rfl,rfl,rfl⟩⟩ (by rw [aj.sq (by rw [aU];simp) ag ag]) (by rw [aj.sq (by rw [aU];simp) ag ag]) (by rw [aj.sq (by rw [aU];simp) ag ag]))
   ·have c6:¬ J.gR=true:=by rw [aU];simp
    have iy:t.length≤8000∧J.next≤4096:=by omega
    have iA:¬ aj.room J S<aj.a7 t.length:=by omega
    have oc:=aj.nD t.length
    have abL:((aj.cD J.next t).length:Int)=aj.a7 t.length:=by rw [aj.o9,Int.toNat_of_nonneg oc.1]
    have HG:=iA
    unfold aj.room at HG
    have zg:=aj.J6 gm ag iy iA
    refine wp_skip<|cP _ _<|aD ab U (ai rfl<|ae (bN rfl)<|ae (aZ gN rfl rfl (s':=0) az)<|ae (bf bH 0 rfl rfl rfl rfl)<|av rfl<|ah) fun a w ab U=>aD ab U (ai rfl<|ae (bN rfl)<|ae (aZ gN rfl rfl (s':=0) az)<|ae (bf bH 0 rfl rfl rfl rfl)<|av rfl<|ah) fun a w ab U=>bc fun iR eO=>?_
    refine aG ab U (ai rfl<|ai rfl<|ah) fun a w ab U=>aJ ab U rfl (eT Xq rfl (fun w U=>ahc _ _ ag w (U.ext _ _ dF))) ?_
    rintro _ _ _ a w ⟨_,_,rfl,rfl,⟨vO,rfl,rfl,rfl⟩⟩ ab U
    replace U:=k9 U
    refine aG ab U (ai rfl<|ae (cQ rfl rfl)<|ae (cQ rfl rfl)<|av rfl<|av rfl<|ah) fun a w ab U=>wpList_nil ?_
    rw [aj.DA ag ag] at U ab
    dsimp only at U ab
    refine eO _ _<|bc fun kY gF=>aG ab U (ai rfl<|ai rfl<|b5 rfl rfl<|ae (bN rfl)<|ae (aZ gN rfl rfl (s':=0) az)<|ah) fun a w ab U=>aJ ab U rfl (dq bH 1 rfl rfl rfl rfl (by simp)) ?_
    rintro _ _ _ a w ⟨rfl,rfl,rfl⟩ ab U
    replace U:aB _ (_) (_::.blk _ _ ([_,_,_,_,_,_,_].set 4 _)::_::_::_::_::_::_) _:=U
    simp only [dd] at U
    replace U:=k9 U
    refine wpList_nil (gF _ _ ?_)
    refine bc fun j5 fC=>aG ab U (ai rfl<|ai rfl<|ai rfl<|ae (hA cw 0 rfl rfl)<|b5 rfl rfl<|ae (bN rfl)<|ae (aZ gN rfl rfl (s':=0) az)<|ah) fun a w ab U=>aJ ab U rfl (dq bH 1 rfl rfl rfl rfl (by simp)) ?_
    rintro _ _ _ a w ⟨rfl,rfl,rfl⟩ ab U
    replace U:aB _ (_) (_::.blk _ _ ([_,_,_,_,_,_,_].set 5 _)::_::_::_::_::_::_) _:=U
    simp only [dd] at U
    replace U:=k9 U
    refine wpList_nil (fC _ _ ?_)
    refine ax fun mw hz=>aD ab U (av rfl<|ah) fun a w ab U=>wp_block ?_
    obtain ⟨bG,a6,U⟩:=U.c1
    refine dy (γ:=Nat) (0) (fun (i:Nat)=>[(10,aA (i:Int))]) [(0,_),(1,_),(6,_),(7,_),(8,_)] (fun (i:Nat)=>((bG.set 5 (fQ bd v (aj.cX S J.en (aj.cD J.next t) i).1)).set 6 (fR v (aj.cX S J.en (aj.cD J.next t) i).1))) (fun (i:Nat)=>i≤(aj.cD J.next t).length∧(aj.cX S J.en (aj.cD J.next t) i).2=0) (fun (i:Nat)=>(aj.cD J.next t).length-i) (ab.sub ⟨rfl,rfl,rfl,rfl,rfl,rfl,trivial⟩) (by subst a6;exact U) (by exact ⟨Nat.zero_le _,rfl⟩) ?_
    rintro i a w bh ab U
    subst a6;(try dsimp only at bh ab U)
    obtain ⟨eL,fq⟩:=bh
    replace U:=k9 U
    have al3:=aj.yf bC J.en (aj.cD J.next t) i
    refine ax fun pq jF=>aD ab U (ai rfl<|ai rfl<|ae (hA cw 0 rfl rfl)<|ae (cU rfl rfl)<|ah) fun a w ab U=>cn ab rfl (fun dI=>?_) (fun dI=>?_)
    ·refine wp_skip<|jF _ _<|ax fun qb kb=>wp_block ?_
     refine ax fun sg lC=>h2 11 mixed az ab U (ai rfl<|ae (bN rfl)<|ae (aZ gN rfl rfl (s':=0) az)<|ae (bf oC 1 rfl rfl rfl rfl)<|ai rfl<|ai rfl<|b5 rfl rfl<|ai rfl<|ai rfl<|ae (fY cw bB 0 rfl rfl rfl ag)<|ae (ma bB 0 default rfl rfl aI rfl)<|ah) fun a w ab U=>?_
     replace U:=(U.perm qd).perm q4
     replace U:=k9 U
     refine aJ ab U rfl (dv Xr rfl (List.Perm.refl _) (by exact (ahr _ _ _ _  (by first | assumption | exact ak.iO (by assumption) | exact ak.kz (by assumption) _ _) (S:=(aj.cX S J.en (aj.cD J.next t) i).1) (v:=v)))) ?_
     rintro _ _ _ a w ⟨_,_,rfl,rfl,⟨rfl,rfl,rfl⟩⟩ ab U
     replace U:=k9 U
     refine aG ab U (av rfl<|ah) fun a w ab U=>wpList_nil ?_
     rw [Int.toNat_natCast,show (default:List UInt8)=[] from rfl] at ab U
     refine lC _ _<|aD ab U (ai rfl<|ae (dS rfl rfl)<|ah) fun a w ab U=>e9 ab rfl (fun dE=>?_) (fun dE=>?_)
     ·refine ax fun Br rz=>dM ?_
      refine aG ab U (ai rfl<|ae (bN rfl)<|ae (aZ gN rfl rfl (s':=0) az)<|ah) fun a w ab U=>aJ ab U rfl (dq fL 3 rfl rfl rfl rfl (by simp)) ?_
      rintro _ _ _ a w ⟨rfl,rfl,rfl⟩ ab U
      replace U:aB _ (_) (_::_::_::.blk _ _ ([_,_,_,_,_,_,_].set 6 _)::_::_::_::_) _:=U
      simp only [dd] at U
      replace U:=k9 U
      refine wpList_nil (rz _ _ ?_)
      refine aD ab U (ai rfl<|av rfl<|av rfl<|ah) fun a w ab U=>wp_ret ?_
      replace U:=(((U.perm q2).perm ua).perm vW).perm vY
      exact cY (rs:=[.tmp 4,.tmp 5]) rfl ab U (vs:=[_,_]) ⟨rfl,rfl,trivial⟩ [] [_,_,_,_,_,_] al (c2.k.k.k.k.k.k) (aj.r1 (B:=fQ bd v) (W:=fR v) (J:=aj.kj J t) (S:=(ak.write (aj.cX S J.en (aj.cD J.next t) i).1 (J.en+i) ((aj.cD J.next t).getD i [])).1) ⟨rfl,rfl,_,_,_,_,rfl,⟨_,_,_,aj.Et zg,rfl,rfl,rfl,rfl⟩⟩ (by rw [aj.nz c6 iy iA (by rw [aj.tP ag fq dE];first | exact dE | exact iI | exact iJ),aj.tP ag fq dE]) (by rw [aj.nz c6 iy iA (by rw [aj.tP ag fq dE];first | exact dE | exact iI | exact iJ),aj.tP ag fq dE]) (by rw [aj.nz c6 iy iA (by rw [aj.tP ag fq dE];first | exact dE | exact iI | exact iJ),aj.tP ag fq dE]))
     ·refine wp_skip<|kb _ _<|bx ab U (ai rfl<|b5 rfl rfl<|av rfl<|ah) fun a w ab U=>?_
      replace U:=((((U.perm nV).perm mX).perm pv).perm qf).perm uc
      replace U:=U.ao al al
      refine ⟨(i+1),?_,?_,ab.sub ⟨rfl,rfl,rfl,rfl,rfl,rfl,trivial⟩,?_⟩
      ·(try dsimp only);omega
      ·exact ⟨by omega,by rw [aj.r8 fq];omega⟩
      ·rw [aj.r8 fq];exact U
    ·obtain rfl:i=(aj.cD J.next t).length:=by omega
     have ZX:=aj.yf bC J.en (aj.cD J.next t) (aj.cD J.next t).length
     refine wp_exit<|hz _ _<|bc fun Bs rA=>aG ab U (ai rfl<|ae (bN rfl)<|ae (aZ gN rfl rfl (s':=0) az)<|ae (bf oC 1 rfl rfl rfl rfl)<|ah) fun a w ab U=>?_
     replace U:=(U.perm qd).perm q4
     replace U:=k9 U
     refine aJ ab U rfl (dv Xs rfl (List.Perm.refl _) (by exact (agT _ _  (by first | assumption | exact ak.iO (by assumption) | exact ak.kz (by assumption) _ _) (S:=(aj.cX S J.en (aj.cD J.next t) (aj.cD J.next t).length).1) (v:=v)))) ?_
     rintro _ _ _ a w ⟨_,_,rfl,rfl,⟨rfl,rfl,rfl⟩⟩ ab U
     replace U:=k9 U
     refine aG ab U (av rfl<|ah) fun a w ab U=>wpList_nil (rA _ _ ?_)
     refine ax fun EO uM=>aD ab U (ai rfl<|ae (dS rfl rfl)<|ah) fun a w ab U=>e9 ab rfl (fun iI=>?_) (fun iI=>?_)
     ·refine ax fun Ko za=>dM ?_
      refine aG ab U (ai rfl<|ae (bN rfl)<|ae (aZ gN rfl rfl (s':=0) az)<|ah) fun a w ab U=>aJ ab U rfl (dq fL 3 rfl rfl rfl rfl (by simp)) ?_
      rintro _ _ _ a w ⟨rfl,rfl,rfl⟩ ab U
      replace U:aB _ (_) (_::_::_::.blk _ _ ([_,_,_,_,_,_,_].set 6 _)::_::_::_::_) _:=U
      simp only [dd] at U
      replace U:=k9 U
      refine wpList_nil (za _ _ ?_)
      refine aD ab U (ai rfl<|av rfl<|av rfl<|ah) fun a w ab U=>wp_ret ?_
      replace U:=(((U.perm q2).perm ua).perm vW).perm vY
      exact cY (rs:=[.tmp 4,.tmp 5]) rfl ab U (vs:=[_,_]) ⟨rfl,rfl,trivial⟩ [] [_,_,_,_,_,_] al (c2.k.k.k.k.k.k) (aj.r1 (B:=fQ bd v) (W:=fR v) (J:=aj.kj J t) (S:=(ak.flush (aj.cX S J.en (aj.cD J.next t) (aj.cD J.next t).length).1).1) ⟨rfl,rfl,_,_,_,_,rfl,⟨_,_,_,aj.Et zg,rfl,rfl,rfl,rfl⟩⟩ (by rw [aj.nz c6 iy iA (by rw [aj.r6 fq iI];first | exact dE | exact iI | exact iJ),aj.r6 fq iI]) (by rw [aj.nz c6 iy iA (by rw [aj.r6 fq iI];first | exact dE | exact iI | exact iJ),aj.r6 fq iI]) (by rw [aj.nz c6 iy iA (by rw [aj.r6 fq iI];first | exact dE | exact iI | exact iJ),aj.r6 fq iI]))
     ·have al0:=ak.ID ZX
      refine wp_skip<|uM _ _<|aD ab U (av rfl<|ah) fun a w ab U=>ax fun Uc GR=>aD ab U (av rfl<|ah) fun a w ab U=>?_
      refine wp_block ?_
      obtain ⟨bG,a6,U⟩:=U.c1
      refine dy (γ:=Nat) (0) (fun (i:Nat)=>[(14,aA (i:Int)),(13,.bool (aj.iX (ak.flush (aj.cX S J.en (aj.cD J.next t) (aj.cD J.next t).length).1).1 J.en (aj.cD J.next t) i).2)]) [(0,_),(1,_),(6,_),(7,_),(8,_)] (fun (i:Nat)=>((bG.set 0 (fQ bd v (ak.flush (aj.cX S J.en (aj.cD J.next t) (aj.cD J.next t).length).1).1)).set 1 (fR v (ak.flush (aj.cX S J.en (aj.cD J.next t) (aj.cD J.next t).length).1).1))) (fun (i:Nat)=>i≤(aj.cD J.next t).length∧(aj.iX (ak.flush (aj.cX S J.en (aj.cD J.next t) (aj.cD J.next t).length).1).1 J.en (aj.cD J.next t) i).1=0) (fun (i:Nat)=>(aj.cD J.next t).length-i) (ab.sub ⟨rfl,rfl,rfl,rfl,rfl,rfl,rfl,trivial⟩) (by subst a6;exact U) (by exact ⟨Nat.zero_le _,rfl⟩) ?_
      rintro i a w bh ab U
      subst a6;(try dsimp only at bh ab U)
      obtain ⟨eL,hh⟩:=bh
      replace U:=k9 U
      refine ax fun Ud GS=>aD ab U (ai rfl<|ai rfl<|ae (hA cw 2 rfl rfl)<|ae (cU rfl rfl)<|ah) fun a w ab U=>cn ab rfl (fun kp=>?_) (fun kp=>?_)
      ·refine wp_skip<|GS _ _<|ax fun Ue GU=>wp_block ?_
       refine bc fun Uf GV=>aG ab U (ai rfl<|ae (bN rfl)<|ae (aZ gN rfl rfl (s':=0) az)<|ae (bf oC 3 rfl rfl rfl rfl)<|ai rfl<|ai rfl<|b5 rfl rfl<|ah) fun a w ab U=>aJ ab U rfl (dv ME rfl (List.Perm.refl _) (by exact (R0 _ _ _  (by first | assumption | exact ak.iO (by assumption) | exact ak.kz (by assumption) _ _) (S:=(ak.flush (aj.cX S J.en (aj.cD J.next t) (aj.cD J.next t).length).1).1) (v:=v)))) ?_
       rintro _ _ _ a w ⟨_,_,rfl,rfl,⟨rfl,rfl,rfl⟩⟩ ab U
       replace U:=k9 U
       refine aG ab U (ai rfl<|ae (cQ rfl rfl)<|ae (cQ rfl rfl)<|av rfl<|av rfl<|ah) fun a w ab U=>wpList_nil (GV _ _ ?_)
       refine ax fun Ug GW=>aD ab U (ai rfl<|ae (dS rfl rfl)<|ah) fun a w ab U=>e9 ab rfl (fun iJ=>?_) (fun iJ=>?_)
       ·refine ax fun Uh GX=>dM ?_
        refine aG ab U (ai rfl<|ae (bN rfl)<|ae (aZ gN rfl rfl (s':=0) az)<|ah) fun a w ab U=>aJ ab U rfl (dq fL 3 rfl rfl rfl rfl (by simp)) ?_
        rintro _ _ _ a w ⟨rfl,rfl,rfl⟩ ab U
        replace U:aB _ (_) (_::_::_::.blk _ _ ([_,_,_,_,_,_,_].set 6 _)::_::_::_::_) _:=U
        simp only [dd] at U
        replace U:=k9 U
        refine wpList_nil (GX _ _ ?_)
        refine aD ab U (ai rfl<|av rfl<|av rfl<|ah) fun a w ab U=>wp_ret ?_
        replace U:=(((U.perm q2).perm ua).perm vW).perm vY
        exact cY (rs:=[.tmp 4,.tmp 5]) rfl ab U (vs:=[_,_]) ⟨rfl,rfl,trivial⟩ [] [_,_,_,_,_,_] al (c2.k.k.k.k.k.k) (aj.r1 (B:=fQ bd v) (W:=fR v) (J:=aj.kj J t) (S:=(ak.flush (aj.cX S J.en (aj.cD J.next t) (aj.cD J.next t).length).1).1) ⟨rfl,rfl,_,_,_,_,rfl,⟨_,_,_,aj.Et zg,rfl,rfl,rfl,rfl⟩⟩ (by rw [aj.nz c6 iy iA (by rw [aj.tQ rfl ag fq ag hh iJ];first | exact dE | exact iI | exact iJ),aj.tQ rfl ag fq ag hh iJ]) (by rw [aj.nz c6 iy iA (by rw [aj.tQ rfl ag fq ag hh iJ];first | exact dE | exact iI | exact iJ),aj.tQ rfl ag fq ag hh iJ]) (by rw [aj.nz c6 iy iA (by rw [aj.tQ rfl ag fq ag hh iJ];first | exact dE | exact iI | exact iJ),aj.tQ rfl ag fq ag hh iJ]))
       ·refine wp_skip<|GW _ _<|dM ?_
        refine aG ab U (ai rfl<|ai rfl<|ah) fun a w ab U=>j3 1 122 6 ab U rfl rfl rfl rfl rfl (fun aP=>have aP:=aP;aO 122 rfl rfl rfl (bE rfl)<|aO 122 rfl rfl rfl (bE rfl)<|aO 122 rfl rfl rfl (bE rfl)<|aO 122 rfl rfl rfl (fY cw bB 2 rfl rfl rfl ag)<|aO 122 rfl rfl rfl (ma bB 2 default rfl rfl aI rfl)<|aO 122 rfl rfl rfl (xu rfl rfl)<|ah) rfl rfl fun a w ab U=>?_
        refine aG ab U (av rfl<|ah) fun a w ab U=>wpList_nil ?_
        rw [Int.toNat_natCast,show (default:List UInt8)=[] from rfl] at ab
        refine GU _ _<|bx ab U (ai rfl<|b5 rfl rfl<|av rfl<|ah) fun a w ab U=>⟨(i+1),?_,?_,ab.sub ⟨rfl,(by show some (Value.bool _)=some (Value.bool _);rw [aj.AB hh ag];dsimp only;rw [show decide ((aj.cD J.next t).getD i []=(ak.read (ak.flush (aj.cX S J.en (aj.cD J.next t) (aj.cD J.next t).length).1).1 (J.en+i)).1)=decide ((ak.read (ak.flush (aj.cX S J.en (aj.cD J.next t) (aj.cD J.next t).length).1).1 (J.en+i)).1=(aj.cD J.next t).getD i []) from decide_eq_decide.2 eq_comm]),rfl,rfl,rfl,rfl,rfl,trivial⟩,?_⟩
        ·(try dsimp only);omega
        ·exact ⟨by omega,by rw [aj.AB hh ag]⟩
        ·exact U
      ·obtain rfl:i=(aj.cD J.next t).length:=by omega
       refine wp_exit<|GR _ _<|ax fun akj ZK=>aD ab U (ai rfl<|ae (fZ rfl)<|ah) fun a w ab U=>df ab rfl (fun m2=>?_) (fun m2=>?_)
       ·refine ax fun akk ZL=>bx ab U (av rfl<|av rfl<|ah) fun a w ab U=>ZL _ _ ?_
        refine wp_ret ?_
        replace U:=(((U.perm q2).perm ua).perm vW).perm vY
        exact cY (rs:=[.tmp 4,.tmp 5]) rfl ab U (vs:=[_,_]) ⟨rfl,rfl,trivial⟩ [] [_,_,_,_,_,_] al (c2.k.k.k.k.k.k) (aj.r1 (B:=fQ bd v) (W:=fR v) (J:=aj.ki J t) (S:=(ak.flush (aj.cX S J.en (aj.cD J.next t) (aj.cD J.next t).length).1).1) ⟨rfl,rfl,_,_,_,_,rfl,⟨_,_,_,zg,rfl,rfl,rfl,rfl⟩⟩ (by rw [aj.ux c6 iy iA (by rw [aj.kA rfl fq ag hh]) (by rw [aj.kA rfl fq ag hh];simpa using m2),aj.kA rfl fq ag hh]) (by rw [aj.ux c6 iy iA (by rw [aj.kA rfl fq ag hh]) (by rw [aj.kA rfl fq ag hh];simpa using m2),aj.kA rfl fq ag hh]) (by rw [aj.ux c6 iy iA (by rw [aj.kA rfl fq ag hh]) (by rw [aj.kA rfl fq ag hh];simpa using m2),aj.kA rfl fq ag hh]))
       ·refine wp_skip<|ZK _ _<|bc fun Ui Ct=>aG ab U (ai rfl<|ai rfl<|ae (bN rfl)<|ae (aZ gN rfl rfl (s':=0) az)<|ae (bf dm 3 rfl rfl rfl rfl)<|ai rfl<|ah) fun a w ab U=>aJ ab U rfl (eu dm bH rfl rfl bM a8 rfl rfl) ?_
        rintro x1 _ _ a w ⟨rfl,rfl⟩ ab U
        replace U:=iD U
        refine aJ ab U rfl (dH dm bH 5 rfl rfl rfl (eo dm (k:=0) rfl bM) aI rfl a8) ?_
        rintro JV _ _ a w ⟨rfl,rfl⟩ ab U
        replace U:=iD U
        refine aG ab U (ae (bN rfl)<|ae (aZ gN rfl rfl (s':=0) az)<|ah) fun a w ab U=>aJ ab U rfl (dq dm 4 rfl rfl rfl (row_one (U.dp 5 rfl)) (by simp)) ?_
        rintro _ _ _ a w ⟨rfl,rfl,rfl⟩ ab U
        replace U:aB _ (_) (_::_::_::_::.blk _ _ ([_,_,_,_,_,_,_].set 1 _)::_::_::_::_) _:=U
        simp only [dd] at U
        replace U:=iD U
        refine wpList_nil (Ct _ _ ?_)
        refine bc fun akl ZM=>aG ab U (ai rfl<|ai rfl<|ae (bN rfl)<|ae (aZ gN rfl rfl (s':=0) az)<|ae (bf cw 4 rfl rfl rfl rfl)<|ai rfl<|ah) fun a w ab U=>aJ ab U rfl (eu cw bB rfl rfl bM a8 rfl rfl) ?_
        rintro ajd _ _ a w ⟨rfl,rfl⟩ ab U
        replace U:=kq U
        refine aJ ab U rfl (dH cw bB 8 rfl rfl rfl (eo cw (k:=0) rfl bM) aI rfl a8) ?_
        rintro JW _ _ a w ⟨rfl,rfl⟩ ab U
        replace U:=kq U
        refine aG ab U (ae (bN rfl)<|ae (aZ gN rfl rfl (s':=0) az)<|ah) fun a w ab U=>aJ ab U rfl (dq cw 5 rfl rfl rfl (row_one (U.dp 8 rfl)) (by simp)) ?_
        rintro _ _ _ a w ⟨rfl,rfl,rfl⟩ ab U
        replace U:aB _ (_) (_::_::_::_::_::.blk _ _ ([_,_,_,_,_,_,_].set 2 _)::_::_::_::_) _:=U
        simp only [dd] at U
        replace U:=kq U
        refine wpList_nil (ZM _ _ ?_)
        refine aD ab U (ai rfl<|av rfl<|av rfl<|ah) fun a w ab U=>wp_ret ?_
        replace U:=(((((U.perm qd).perm q4).perm vX).perm vZ).perm uc).perm qh
        exact cY (rs:=[.tmp 4,.tmp 5]) rfl ab U (vs:=[_,_]) ⟨rfl,rfl,trivial⟩ [] [_,_,_,_,_,_] al (eS.k.k.k.k.k.k) (aj.r1 (B:=fQ bd v) (W:=fR v) (J:=aj.jC J t) (S:=(ak.flush (aj.cX S J.en (aj.cD J.next t) (aj.cD J.next t).length).1).1) ⟨rfl,rfl,_,_,_,_,rfl,⟨_,_,_,aj.J7 gm zg iy,rfl,(by simp [aj.jC,aj.ki]),rfl,(by simp [aj.jC,aj.ki])⟩⟩ (by rw [aj.ri c6 iy iA (by rw [aj.kA rfl fq ag hh]) (by rw [aj.kA rfl fq ag hh];simpa using m2),aj.kA rfl fq ag hh]) (by rw [aj.ri c6 iy iA (by rw [aj.kA rfl fq ag hh]) (by rw [aj.kA rfl fq ag hh];simpa using m2),aj.kA rfl fq ag hh]) (by rw [aj.ri c6 iy iA (by rw [aj.kA rfl fq ag hh]) (by rw [aj.kA rfl fq ag hh];simpa using m2),aj.kA rfl fq ag hh]))
end
section
theorem Yh:b1 Tryz.prog 94:=b6 Tryz.func94
theorem Yi:b1 Tryz.prog 95:=b6 Tryz.func95
attribute [local irreducible] aL.sum aj.fb aj.aT aj.c0 aj.a7 aj.c3 aj.gi
theorem Qb(h:ak.hT)(S:ak.aX)(oh:S.off=false)(w0:World)(bU:List aR){d1 d2 d3 d4:aC}{ed:Nat×Nat}{eb:TypeId}(dF:w0.heap[1]?=some (.cells (aL.eH.map cI).toArray eb ed))(dz:hF h S d1 d2 d3 d4):e1 Tryz.prog 52 [.pointer (some ⟨h.b,0,none⟩)] w0 bU [d1,d2,d3,d4] (fun r zs hs=>zs=[]∧∃ b cu ct cx cz bL bT fm iw,r=.tuple [.pointer (some ⟨b,0,none⟩),aA 0].toArray∧hs=[cu,ct,cx,cz,bL,bT,fm,iw]∧mu b h.b (aj.bW S) cu ct cx cz∧hF h S bL bT fm iw):=by
 refine gk Tryz.func52 rfl Tryz.ntmps52 b4 fun cF a w ab U=>?_
 replace U:=fX U
 have bC:=ak.mV.ok dz
 have fF:=bC.lo
 have gJ:=bC.aH
 have rL:=aj.AD S
 refine aD ab U (av rfl<|av rfl<|ah) fun a w ab U=>bc fun cG bJ=>aG ab U (ai rfl<|ae (hJ (places:=[(0,1),(1,1),(2,1),(3,1),(4,1),(5,1),(6,1)]) (cells:=[_,.slice none 0 0,.slice none 0 0,.slice none 0 0,_,.int .i64 0,.bool false]) fP az rfl (by rfl))<|ah) fun a w ab U=>aJ ab U rfl (jV rfl) ?_
 rintro _ _ _ a w ⟨ck,rfl,rfl,rfl⟩ ab U
 refine aG ab U (av rfl<|ah) fun a w ab U=>wpList_nil ?_
 replace U:=U.iC 9 1
 replace U:=U.iC 3 1
 replace U:=U.iC 3 1
 replace U:=iD U
 refine bJ _ _<|ax fun dX cq=>bx ab U (av rfl<|ah) fun a w ab U=>?_
 replace U:=U.iC 130 5
 replace U:=kq U
 refine cq _ _<|ax fun et cB=>bc fun dL b9=>aG ab U (ai rfl<|ah) fun a w ab U=>?_
 replace U:=(((U.perm qd).perm q4).perm vX).perm vZ
 replace U:=kq U
 refine aJ ab U rfl (dv Nd rfl (List.Perm.refl _) (by exact (LN _ _ _ _  dz))) ?_
 rintro _ _ _ a w ⟨_,_,rfl,rfl,⟨rfl,rfl,Au,Av,Aw,Ax,rfl,y6⟩⟩ ab U
 replace U:=kq U
 refine aG ab U (ai rfl<|ah) fun a w ab U=>wpList_nil (b9 _ _ ?_)
 refine wp_block ?_
 obtain ⟨bG,a6,U⟩:=U.c1
 refine dy (γ:=aC×aC×aC×aC×Value×Value×Nat) (Au,Av,Aw,Ax,(Value.slice none 0 0),(Value.slice none 0 0),0) (fun (cu,ct,cx,cz,ub,ul,k)=>[(5,ul),(20,aA (k:Int))]) [(0,_),(4,_),(19,_)] (fun (cu,ct,cx,cz,ub,ul,k)=>(((((((bG.set 0 (cu)).set 1 (ct)).set 2 (cx)).set 3 (cz)).set 8 (.blk ck 172 [.pointer (some ⟨h.b,0,none⟩),(Value.slice none 0 0),ub,(Value.slice none 0 0),aA (aj.gp (aj.cV S) k),aA (aj.gH (aj.cV S) k),.bool false])).set 6 (.row ub 3 1 (aj.hb (aj.cV S) k).length ((aj.hb (aj.cV S) k).map aA))).set 4 (.row ul 130 5 k ((aj.eI (aj.cV S) k).flatMap aj.rW)))) (fun (cu,ct,cx,cz,ub,ul,k)=>k≤S.s.length∧hF h S cu ct cx cz) (fun (cu,ct,cx,cz,ub,ul,k)=>S.s.length-k) (ab.sub ⟨rfl,rfl,rfl,rfl,rfl,trivial⟩) (by subst a6;exact U) (by exact ⟨Nat.zero_le _,y6⟩) ?_
 rintro ⟨cu,ct,cx,cz,ub,ul,k⟩ a w bh ab U
 subst a6;(try dsimp only at bh ab U)
 obtain ⟨l5,nG⟩:=bh
 replace U:=kq U
 obtain ⟨fp,fV⟩:=aj.BJ (aj.cV S) k
 have HC:=aj.xm (aj.cV S) k
 have zE:=(aj.xZ (ak.read S (k:Int)).1).1
 refine aD ab U (ae (cU rfl rfl)<|ah) fun a w ab U=>ax fun fa cT=>cn ab rfl (fun aU=>?_) (fun aU=>?_)
 ·obtain ⟨HF,Ol⟩:=aj.RE bC oh (k:=k) ag
  refine wp_skip<|cT _ _<|ax fun fk cP=>wp_block ?_
  refine aD ab U (ai rfl<|av rfl<|ah) fun a w ab U=>bc fun hU ef=>aG ab U (ai rfl<|ai rfl<|ah) fun a w ab U=>aJ ab U rfl (dv MO rfl (List.Perm.refl _) (by exact (LW _ _ _ ag _ _  nG))) ?_
  rintro _ _ _ a w ⟨_,_,rfl,rfl,⟨rfl,rfl,vy,vz,vA,vB,rfl,wL⟩⟩ ab U
  replace U:=kq U
  refine aG ab U (ai rfl<|ae (cQ rfl rfl)<|ae (cQ rfl rfl)<|av rfl<|av rfl<|ah) fun a w ab U=>wpList_nil (ef _ _ ?_)
  refine ax fun ho dK=>aD ab U (ai rfl<|ae (dS rfl rfl)<|ah) fun a w ab U=>e9 ab rfl (fun bz=>?_) (fun bz=>?_)
  ·exact absurd HF bz
  ·refine wp_skip<|dK _ _<|bc fun iR eO=>aG ab U (ai rfl<|ae (bV X2 rfl (fun w U=>ai7 _ w (U.ext _ _ dF)) bP)<|ah) fun a w ab U=>aJ ab U rfl (dg ea) ?_
   rintro _ _ _ a w ⟨BE,rfl,rfl,rfl⟩ ab U
   refine aJ ab U rfl (cJ ea 0 rfl rfl rfl rfl aI (bp rfl (bp rfl (bp rfl (bp rfl (bp rfl dO))))) aI) ?_
   rintro _ _ _ a w ⟨rfl,rfl,rfl⟩ ab U
   replace U:=nM U
   refine wpList_nil (eO _ _ ?_)
   refine bc fun kY gF=>aG ab U (ai rfl<|ae (gh ea 0 rfl rfl aI rfl)<|ah) fun a w ab U=>aJ ab U rfl (oN pf ea rfl aI a8 bM a8 a8) ?_
   rintro JV _ _ a w ⟨rfl,rfl⟩ ab U
   replace U:=vq U
   refine aJ ab U rfl (dH pf ea 6 rfl rfl rfl (eo pf (k:=0) rfl bM) aI rfl a8) ?_
   rintro El _ _ a w ⟨rfl,rfl⟩ ab U
   replace U:=vq U
   refine aG ab U (av rfl<|ah) fun a w ab U=>wpList_nil (gF _ _ ?_)
   refine bc fun j5 fC=>aG ab U (ai rfl<|ae (hZ bB rfl)<|ae (qQ (gq rfl rfl) (by simp [Ol]))<|ai rfl<|aO 41 rfl rfl rfl (bE rfl)<|ah) fun a w ab U=>ye ab U (hn 41 rfl rfl) rfl (uD bB bX bI rfl ag) ?_
   rintro JW _ _ a w ⟨arB,rfl,rfl,OG⟩ ab U
   refine aG ab U (aO 41 rfl rfl rfl (IZ jA OG rfl aI a8)<|aO 41 rfl rfl rfl (IS jA OG (.inr (by simp)) rfl rfl aI a8)<|aO 41 rfl rfl rfl (qP rfl (vF jA bI rfl))<|aO 41 rfl rfl rfl (afu (ys:=aj.z64) jA bI az rfl rfl ag a8)<|ae (kU rfl rfl)<|av rfl<|ah) fun a w ab U=>wpList_nil (fC _ _ ?_)
   refine ax fun mw hz=>aD ab U (ai rfl<|ae (fZ rfl)<|ah) fun a w ab U=>e9 ab rfl (fun cl=>?_) (fun cl=>?_)
   ·refine dM<|aG ab U (ai rfl<|ai rfl<|b5 rfl rfl<|ae (bN rfl)<|ae (aZ fP rfl rfl (s':=0) az)<|ah) fun a w ab U=>aJ ab U rfl (dq bH 10 rfl rfl rfl rfl (by simp)) ?_
    rintro _ _ _ a w ⟨rfl,rfl,rfl⟩ ab U
    replace U:aB _ (_::_) (_::_::_::_::_::_::_::_::_::_::.blk _ _ ([_,_,_,_,_,_,_].set 5 _)::_) _:=U
    simp only [dd] at U
    replace U:aB _ (_::_) (_::_::_::_::_::_::_::_::_::_::_::_) _:=U
    refine wpList_nil (hz _ _ ?_)
    refine ax fun pq jF=>bc fun qa ko=>aG ab U (ae (aZ ea rfl rfl (s':=0) az)<|ae (bf fL 1 rfl rfl rfl rfl)<|ae (fZ rfl)<|ai rfl<|ah) fun a w ab U=>j3 3 59 2 ab U rfl rfl rfl rfl rfl (fun aP=>have aP:=aP;aO 59 rfl rfl rfl (bE rfl)<|aO 59 rfl rfl rfl (fZ rfl)<|ah) rfl rfl fun a w ab U=>?_
    refine wpList_nil (ko _ _ ?_)
    refine df ab rfl (fun dI=>?_) (fun dI=>?_)
    ·(try simp only [dj] at dI)
     refine dM<|aG ab U (ai rfl<|ai rfl<|ae (bN rfl)<|ae (aZ fP rfl rfl (s':=0) az)<|ae (bf dm 10 rfl rfl rfl rfl)<|ai rfl<|ah) fun a w ab U=>aJ ab U rfl (eu dm bH rfl rfl bM a8 rfl rfl) ?_
     rintro v21 _ _ a w ⟨rfl,rfl⟩ ab U
     replace U:=qL U
     refine aJ ab U rfl (dH dm bH 9 rfl rfl rfl (eo dm (k:=0) rfl bM) aI rfl a8) ?_
     rintro v23 _ _ a w ⟨rfl,rfl⟩ ab U
     replace U:=qL U
     refine aG ab U (ae (bN rfl)<|ae (aZ fP rfl rfl (s':=0) az)<|ah) fun a w ab U=>aJ ab U rfl (dq dm 11 rfl rfl rfl (row_one (U.dp 9 rfl)) (by simp)) ?_
     rintro _ _ _ a w ⟨rfl,rfl,rfl⟩ ab U
     replace U:aB _ (_::_) (_::_::_::_::_::_::_::_::_::_::_::.blk _ _ ([_,_,_,_,_,_,_].set 2 _)::_) _:=U
     simp only [dd] at U
     replace U:=qL U
     refine wpList_nil (jF _ _ ?_)
     refine h2 11 mixed az ab U (ai rfl<|ai rfl<|ae (bN rfl)<|ae (aZ fP rfl rfl (s':=0) az)<|ae (bf bH 11 rfl rfl rfl rfl)<|ae (aZ ea rfl rfl (s':=0) az)<|ae (bf bH 2 rfl rfl rfl rfl)<|b5 rfl rfl<|ae (tB rfl rfl)<|ae (bN rfl)<|ae (aZ fP rfl rfl (s':=0) az)<|ah) fun a w ab U=>aJ ab U rfl (dq bH 11 rfl rfl rfl rfl (by simp)) ?_
     rintro _ _ _ a w ⟨rfl,rfl,rfl⟩ ab U
     replace U:aB _ (_::_) (_::_::_::_::_::_::_::_::_::_::_::.blk _ _ ([_,_,_,_,_,_,_].set 4 _)::_) _:=U
     simp only [dd] at U
     replace U:=qL U
     refine wpList_nil (cP _ _ ?_)
     refine bx ab U (b5 rfl rfl<|ai rfl<|ah) fun a w ab U=>?_
     replace U:=U.ao (c2) (eS)
     refine ⟨(vy,vz,vA,vB,v23,El,k+1),?_,?_,ab.sub ⟨rfl,rfl,rfl,rfl,rfl,trivial⟩,?_⟩
     ·(try dsimp only);omega
     ·exact ⟨by omega,wL⟩
     ·have eQ:=aj.o6 (S:=S) (k:=k) ag
      (try dsimp only [List.set_cons_zero,List.set_cons_succ])
      rw [aj.uE (by rw [eQ];exact cl),aj.uy (by rw [eQ];exact dI),aj.vr,← aj.o3 ag,eQ,List.length_append,List.map_append]
      exact U
    ·(try simp only [dj] at dI)
     refine wp_skip<|jF _ _<|h2 11 mixed az ab U (ai rfl<|ai rfl<|ae (bN rfl)<|ae (aZ fP rfl rfl (s':=0) az)<|ae (bf bH 10 rfl rfl rfl rfl)<|ae (aZ ea rfl rfl (s':=0) az)<|ae (bf bH 1 rfl rfl rfl rfl)<|b5 rfl rfl<|ae (tB rfl rfl)<|ae (bN rfl)<|ae (aZ fP rfl rfl (s':=0) az)<|ah) fun a w ab U=>aJ ab U rfl (dq bH 10 rfl rfl rfl rfl (by simp)) ?_
     rintro _ _ _ a w ⟨rfl,rfl,rfl⟩ ab U
     replace U:aB _ (_::_) (_::_::_::_::_::_::_::_::_::_::.blk _ _ ([_,_,_,_,_,_,_].set 4 _)::_) _:=U
     simp only [dd] at U
     replace U:aB _ (_::_) (_::_::_::_::_::_::_::_::_::_::_::_) _:=U
     refine wpList_nil (cP _ _ ?_)
     refine bx ab U (b5 rfl rfl<|ai rfl<|ah) fun a w ab U=>?_
     replace U:=U.ao (c2) (fO)
     refine ⟨(vy,vz,vA,vB,ub,El,k+1),?_,?_,ab.sub ⟨rfl,rfl,rfl,rfl,rfl,trivial⟩,?_⟩
     ·(try dsimp only);omega
     ·exact ⟨by omega,wL⟩
     ·have eQ:=aj.o6 (S:=S) (k:=k) ag
      (try dsimp only [List.set_cons_zero,List.set_cons_succ])
      rw [aj.uE (by rw [eQ];exact cl),aj.rm (by rw [eQ];intro ch;rcases dI with cA | cA;(rw [cA] at ch;exact absurd ch.1 (by simp));exact ch.2 cA),aj.vr,← aj.o3 ag,eQ]
      exact U
   ·refine wp_skip<|hz _ _<|ax fun qb kb=>bc fun sg lC=>aG ab U (ae (aZ ea rfl rfl (s':=0) az)<|ae (bf fL 1 rfl rfl rfl rfl)<|ae (fZ rfl)<|ai rfl<|ah) fun a w ab U=>?_
    refine j3 3 59 2 ab U rfl rfl rfl rfl rfl (fun aP=>have aP:=aP;aO 59 rfl rfl rfl (bE rfl)<|aO 59 rfl rfl rfl (fZ rfl)<|ah) rfl rfl fun a w ab U=>?_
    refine wpList_nil (lC _ _ ?_)
    refine df ab rfl (fun dE=>?_) (fun dE=>?_)
    ·(try simp only [dj] at dE)
     refine dM<|aG ab U (ai rfl<|ai rfl<|ae (bN rfl)<|ae (aZ fP rfl rfl (s':=0) az)<|ae (bf dm 10 rfl rfl rfl rfl)<|ai rfl<|ah) fun a w ab U=>aJ ab U rfl (eu dm bH rfl rfl bM a8 rfl rfl) ?_
     rintro v24 _ _ a w ⟨rfl,rfl⟩ ab U
     replace U:=qL U
     refine aJ ab U rfl (dH dm bH 9 rfl rfl rfl (eo dm (k:=0) rfl bM) aI rfl a8) ?_
     rintro v26 _ _ a w ⟨rfl,rfl⟩ ab U
     replace U:=qL U
     refine aG ab U (ae (bN rfl)<|ae (aZ fP rfl rfl (s':=0) az)<|ah) fun a w ab U=>aJ ab U rfl (dq dm 11 rfl rfl rfl (row_one (U.dp 9 rfl)) (by simp)) ?_
     rintro _ _ _ a w ⟨rfl,rfl,rfl⟩ ab U
     replace U:aB _ (_::_) (_::_::_::_::_::_::_::_::_::_::_::.blk _ _ ([_,_,_,_,_,_,_].set 2 _)::_) _:=U
     simp only [dd] at U
     replace U:=qL U
     refine wpList_nil (kb _ _ ?_)
     refine h2 11 mixed az ab U (ai rfl<|ai rfl<|ae (bN rfl)<|ae (aZ fP rfl rfl (s':=0) az)<|ae (bf bH 11 rfl rfl rfl rfl)<|ae (aZ ea rfl rfl (s':=0) az)<|ae (bf bH 2 rfl rfl rfl rfl)<|b5 rfl rfl<|ae (tB rfl rfl)<|ae (bN rfl)<|ae (aZ fP rfl rfl (s':=0) az)<|ah) fun a w ab U=>aJ ab U rfl (dq bH 11 rfl rfl rfl rfl (by simp)) ?_
     rintro _ _ _ a w ⟨rfl,rfl,rfl⟩ ab U
     replace U:aB _ (_::_) (_::_::_::_::_::_::_::_::_::_::_::.blk _ _ ([_,_,_,_,_,_,_].set 4 _)::_) _:=U
     simp only [dd] at U
     replace U:=qL U
     refine wpList_nil (cP _ _ ?_)
     refine bx ab U (b5 rfl rfl<|ai rfl<|ah) fun a w ab U=>?_
     replace U:=U.ao (c2) (eS)
     refine ⟨(vy,vz,vA,vB,v26,El,k+1),?_,?_,ab.sub ⟨rfl,rfl,rfl,rfl,rfl,trivial⟩,?_⟩
     ·(try dsimp only);omega
     ·exact ⟨by omega,wL⟩
     ·have eQ:=aj.o6 (S:=S) (k:=k) ag
      (try dsimp only [List.set_cons_zero,List.set_cons_succ])
      rw [aj.uF (by rw [eQ];exact cl),aj.uy (by rw [eQ];exact dE),aj.vr,← aj.o3 ag,eQ,List.length_append,List.map_append]
      exact U
    ·(try simp only [dj] at dE)
     refine wp_skip<|kb _ _<|h2 11 mixed az ab U (ai rfl<|ai rfl<|ae (bN rfl)<|ae (aZ fP rfl rfl (s':=0) az)<|ae (bf bH 10 rfl rfl rfl rfl)<|ae (aZ ea rfl rfl (s':=0) az)<|ae (bf bH 1 rfl rfl rfl rfl)<|b5 rfl rfl<|ae (tB rfl rfl)<|ae (bN rfl)<|ae (aZ fP rfl rfl (s':=0) az)<|ah) fun a w ab U=>aJ ab U rfl (dq bH 10 rfl rfl rfl rfl (by simp)) ?_
     rintro _ _ _ a w ⟨rfl,rfl,rfl⟩ ab U
     replace U:aB _ (_::_) (_::_::_::_::_::_::_::_::_::_::.blk _ _ ([_,_,_,_,_,_,_].set 4 _)::_) _:=U
     simp only [dd] at U
     replace U:aB _ (_::_) (_::_::_::_::_::_::_::_::_::_::_::_) _:=U
     refine wpList_nil (cP _ _ ?_)
     refine bx ab U (b5 rfl rfl<|ai rfl<|ah) fun a w ab U=>?_
     replace U:=U.ao (c2) (fO)
     refine ⟨(vy,vz,vA,vB,ub,El,k+1),?_,?_,ab.sub ⟨rfl,rfl,rfl,rfl,rfl,trivial⟩,?_⟩
     ·(try dsimp only);omega
     ·exact ⟨by omega,wL⟩
     ·have eQ:=aj.o6 (S:=S) (k:=k) ag
      (try dsimp only [List.set_cons_zero,List.set_cons_succ])
      rw [aj.uF (by rw [eQ];exact cl),aj.rm (by rw [eQ];intro ch;rcases dE with cA | cA;(rw [cA] at ch;exact absurd ch.1 (by simp));exact ch.2 cA),aj.vr,← aj.o3 ag,eQ]
      exact U
 ·obtain rfl:k=S.s.length:=by omega
  refine wp_exit<|cB _ _<|ax fun sh l1=>ax fun Br rz=>bx ab U (av rfl<|ah) fun a w ab U=>?_
  replace U:=U.perm kD
  obtain ⟨zp,ia,U⟩:=aB.Gh (hl:=aj.IJ) (h1:=aj.IK) (p:=aj.px) (xs:=(aj.eI (aj.cV S) S.s.length)) U (by rw [aj.Af ag]) ag aj.xr
  have abo:(aj.eI (aj.cV S) S.s.length).length=S.s.length:=aj.Af ag
  replace U:=qM U
  refine rz _ _<|wp_block ?_
  obtain ⟨bG,a6,U⟩:=U.c1
  refine dy (γ:=Value×Value×aj.Acc×Nat) ((Value.slice none 0 0),(Value.slice none 0 0),([],[]),0) (fun (un,ut,acc,m)=>[(11,aA (m:Int))]) [(4,_),(5,_)] (fun (un,ut,acc,m)=>(((bG.set 7 (.blk ck 172 [.pointer (some ⟨h.b,0,none⟩),un,ub,ut,aA (aj.gp (aj.cV S) S.s.length),aA (aj.gH (aj.cV S) S.s.length),.bool false])).set 4 (.row un 3 1 acc.1.length (acc.1.map aA))).set 6 (.row ut 9 1 acc.2.length (acc.2.map vs)))) (fun (un,ut,acc,m)=>m≤S.s.length∧(aj.mT m acc∧(acc.1.length:Int)≤aj.gH (aj.cV S) S.s.length)∧aj.scan ((aj.eI (aj.cV S) S.s.length).drop m) acc=aj.scan (aj.eI (aj.cV S) S.s.length) ([],[])) (fun (un,ut,acc,m)=>S.s.length-m) (ab.sub ⟨rfl,rfl,rfl,trivial⟩) (by subst a6;exact U) (by exact ⟨Nat.zero_le _,⟨aj.mT.start,(aj.wx _ _).1⟩,rfl⟩) ?_
  rintro ⟨un,ut,acc,m⟩ a w bh ab U
  subst a6;(try dsimp only at bh ab U)
  obtain ⟨u6,⟨n3,sN⟩,rM⟩:=bh
  replace U:=qM U
  obtain ⟨h8,wP,rC,ix⟩:=n3
  have n3:aj.mT m acc:=⟨h8,wP,rC,ix⟩
  have Z7:∀ x∈acc.1, -9223372036854775808≤x∧x≤9223372036854775807:=fun x aM=>by have:=rC x aM;omega
  refine ax fun Kn y9=>aD ab U (ai rfl<|ai rfl<|ae (ee pf ia rfl)<|ae (cU rfl rfl)<|ah) fun a w ab U=>cn ab rfl (fun iI=>?_) (fun iI=>?_)
  ·have aau:(aj.eI (aj.cV S) S.s.length).drop m≠[]:=by intro e;have:=congrArg List.length e;simp at this;omega
   refine wp_skip<|y9 _ _<|wp_block ?_
   refine ax fun EO uM=>bx ab U (ai rfl<|ai rfl<|ae (Ar pf ea ia rfl rfl ag)<|ae (bV Yh rfl (fun w U=>agK _ _ (by intro e;have:=congrArg List.length e;simp at this;omega) w (bo.mono (U.le (.inr (by simp))) (bo.cut ia ag))) bP)<|ai rfl<|ae (cQ rfl rfl)<|ae (cQ rfl rfl)<|ae (cQ rfl rfl)<|av rfl<|av rfl<|av rfl<|ah) fun a w ab U=>?_
   rw [List.take_length,Int.toNat_natCast] at ab
   refine uM _ _<|ax fun EP uN=>aD ab U (ai rfl<|ae (fZ rfl)<|ah) fun a w ab U=>df ab rfl (fun kp=>?_) (fun kp=>?_)
   ·refine ax fun Ub GQ=>bx ab U (ai rfl<|b5 rfl rfl<|av rfl<|ah) fun a w ab U=>GQ _ _ ?_
    refine wp_exit<|⟨(un,ut,acc,m+1),?_,?_,ab.sub ⟨(by first | rfl | (show some (aA _)=some (aA _);rw [vg];congr 2 <;> omega)),rfl,rfl,trivial⟩,?_⟩
    ·(try dsimp only);omega
    ·exact ⟨by omega,⟨n3.up ag,sN⟩,by rw [← rM,aj.xM (l:=(aj.eI (aj.cV S) S.s.length).drop m) aau (aj.agE (by simpa using kp)),List.drop_drop]⟩
    ·exact U
   ·obtain ⟨nn,rK,vg⟩:=aj.agF (l:=(aj.eI (aj.cV S) S.s.length).drop m) (by simpa using kp)
    have HH:=aj.AH rK
    rw [List.length_drop] at HH
    obtain ⟨k3,HI⟩:=aj.RH rK (fun x aM=>aj.xr x (List.mem_of_mem_drop aM))
    rw [aj.oO,aj.DC ag ag] at k3
    have vb:1≤((aj.eI (aj.cV S) S.s.length).getD m aj.cv).n∧((aj.eI (aj.cV S) S.s.length).getD m aj.cv).n≤4096:=by rw [aj.DC ag ag];exact ⟨aj.JT k3,(aj.xZ _).1.2⟩
    have aaF:=aj.B2 (aj.BO k3) S.s.length ag
    have qu:((aj.eI (aj.cV S) S.s.length).drop m).getD 0 aj.cv=(aj.eI (aj.cV S) S.s.length).getD m aj.cv:=aj.oO _ _
    refine wp_skip<|uN _ _<|ax fun Kp wN=>iE mixed az ab U (ai rfl<|ae (bN rfl)<|ae (aZ fP rfl rfl (s':=0) az)<|ae (bf dm 7 rfl rfl rfl rfl)<|ai rfl<|ai rfl<|ae (dV pf ea ia rfl rfl ag)<|ae (DF (j:=0) (s':=0) ea ia rfl (by first | omega | (simp;omega)) rfl az)<|ae (vw (j:=0) aj.cv bH ia (.inr (by simp)) rfl rfl (by first | omega | (simp;omega)) rfl)<|ae (bV Yi rfl (fun w U=>V6 _ _ _ w (lM (U.dp 4 rfl) (by first | assumption | (simp;done)) (by first | rfl | (simp;done) | (simp;omega) | omega) (by first | omega | (simp;omega)))) bP)<|ae (fZ rfl)<|ah) fun a w ab U=>e9 ab rfl (fun iJ=>?_) (fun iJ=>?_)
    ·revert U;revert ab;apply hL (J:=tX (α0:=Value) (α1:=Value) (α2:=Value) (α3:=Value) 140 _ _ _ _ _) #[false,false,false,false,false,false,false,false,false,false,false,false,false,false,false,false,false,false,false,false,false,false,false,false,false,false] 26 mixed rfl rfl
     ·intro w ab U
      refine aS 0 rfl ab (U.ao al (e3)) (bE rfl) fun a ab=>aS 1 rfl ab (U.ao al (e3)) (bE rfl) fun a ab=>aS 2 rfl ab (U.ao al (e3)) (bE rfl) fun a ab=>aS 3 rfl ab (U.ao al (e3)) (bN rfl) fun a ab=>aS 4 rfl ab (U.ao al (e3)) (aZ fP rfl rfl (s':=0) az) fun a ab=>?_
      refine aS 5 rfl ab (U.ao al (im)) (bf dm 0 rfl rfl rfl rfl) fun a ab=>aS 6 rfl ab (U.ao al (e3)) (bE rfl) fun a ab=>aS 7 rfl ab (U.ao al (e3)) (bE rfl) fun a ab=>aS 8 rfl ab (U.ao al (e3)) (dV pf ea ia rfl rfl ag) fun a ab=>aS 9 rfl ab (U.ao al (e3)) (DF (j:=0) (s':=0) ea ia rfl (by first | omega | (simp;omega)) rfl az) fun a ab=>?_
      refine aS 10 rfl ab (U.ao al (e3)) (vw (j:=0) aj.cv bH ia (.inr (by simp)) rfl rfl (by first | omega | (simp;omega)) rfl) fun a ab=>aS 13 rfl ab (U.ao al (e3)) (bE rfl) fun a ab=>aS 14 rfl ab (U.ao al (e3)) (bN rfl) fun a ab=>aS 15 rfl ab (U.ao al (e3)) (aZ fP rfl rfl (s':=0) az) fun a ab=>aS 16 rfl ab (U.ao al (im)) (bf cw 0 rfl rfl rfl rfl) fun a ab=>?_
      refine aS 17 rfl ab (U.ao al (e3)) (bE rfl) fun a ab=>fB [11,18] az rfl ⟨?_,?_,trivial⟩
      ·refine dW _ rfl rfl ab U rfl (eu dm bH rfl rfl bM a8 rfl rfl) ?_
       rintro A9 _ _ a w ⟨rfl,rfl⟩ ab U
       replace U:=rT U
       refine ⟨⟨.inr (U.ao al (dG)),.inr (U.ao al (e3)),.inr (U.ao al (dG)),.inr (U.ao al (dG)),.inr (U.ao al (dG)),aq,aq,.inr (U.ao al (dG)),.inr (U.ao al (dG)),.inr (U.ao al (dG)),.inr (U.ao al (e3)),.inr (U.ao al (dG)),.inr (U.ao al (dG)),.inr (U.ao al (dG)),.inr (U.ao al (dG)),.inr (U.ao al (dG)),trivial⟩,?_⟩
       refine fB [12,18] az rfl ⟨?_,?_,trivial⟩
       ·refine dW _ rfl rfl ab U rfl (dH dm bH 5 rfl rfl rfl (eo dm (k:=0) rfl bM) aI rfl a8) ?_
        rintro vQ _ _ a w ⟨rfl,rfl⟩ ab U
        replace U:=rT U
        refine ⟨⟨.inr (U.ao al (dG)),.inr (U.ao al (e3)),.inr (U.ao al (dG)),.inr (U.ao al (dG)),.inr (U.ao al (dG)),aq,aq,.inr (U.ao al (dG)),.inr (U.ao al (dG)),.inr (U.ao al (dG)),aq,aq,.inr (U.ao al (dG)),.inr (U.ao al (dG)),.inr (U.ao al (dG)),.inr (U.ao al (dG)),trivial⟩,?_⟩
        refine bY 18 rfl rfl ab U rfl (eu cw bB rfl rfl bM a8 rfl rfl) ?_
        rintro x8 _ _ a w ⟨rfl,rfl⟩ ab U
        replace U:=iN U
        refine ⟨⟨aq,.inr (U.ao al (dG)),.inr (U.ao al (bQ)),.inr (U.ao al (bQ)),.inr (U.ao al (bQ)),aq,aq,.inr (U.ao al (bQ)),.inr (U.ao al (bQ)),.inr (U.ao al (bQ)),aq,aq,.inr (U.ao al (bQ)),.inr (U.ao al (bQ)),.inr (U.ao al (bQ)),.inr (U.ao al (bQ)),trivial⟩,?_⟩
        refine bY 19 rfl rfl ab U rfl (dH cw bB 8 rfl rfl rfl (eo cw (k:=0) rfl bM) aI rfl a8) ?_
        rintro vR _ _ a w ⟨rfl,rfl⟩ ab U
        replace U:=iN U
        refine ⟨⟨aq,aq,aq,.inr (U.ao al (bQ)),.inr (U.ao al (bQ)),aq,aq,.inr (U.ao al (bQ)),.inr (U.ao al (bQ)),.inr (U.ao al (bQ)),aq,aq,.inr (U.ao al (bQ)),.inr (U.ao al (bQ)),.inr (U.ao al (bQ)),.inr (U.ao al (bQ)),trivial⟩,?_⟩
        refine aS 20 rfl ab (U.ao al (bQ)) (bN rfl) fun a ab=>aS 21 rfl ab (U.ao al (bQ)) (aZ fP rfl rfl (s':=0) az) fun a ab=>bY 22 rfl rfl ab U rfl (dq dm 9 rfl rfl rfl (row_one (U.dp 6 rfl)) (by simp)) ?_
        rintro _ _ _ a w ⟨rfl,rfl,rfl⟩ ab U
        replace U:aB _ (_::_) (_::_::_::_::_::_::_::_::_::.blk _ _ ([_,_,_,_,_,_,_].set 1 _)::_) _:=U
        simp only [dd] at U
        replace U:=iN U
        refine ⟨⟨aq,aq,aq,aq,aq,.inr (U.ao al (bQ)),.inr (U.ao al (bQ)),aq,aq,aq,aq,aq,aq,aq,aq,aq,.inr (U.ao al (bQ)),aq,trivial⟩,?_⟩
        refine aS 23 rfl ab (U.ao al (bQ)) (bN rfl) fun a ab=>aS 24 rfl ab (U.ao al (bQ)) (aZ fP rfl rfl (s':=0) az) fun a ab=>bY 25 rfl rfl ab U rfl (dq cw 9 rfl rfl rfl (row_one (U.dp 8 rfl)) (by simp)) ?_
        rintro _ _ _ a w ⟨rfl,rfl,rfl⟩ ab U
        replace U:aB _ (_::_) (_::_::_::_::_::_::_::_::_::.blk _ _ ([_,_,_,_,_,_,_].set 3 _)::_) _:=U
        simp only [dd] at U
        replace U:=iN U
        refine ⟨⟨aq,aq,aq,aq,aq,aq,aq,aq,aq,aq,aq,aq,aq,aq,aq,aq,aq,aq,aq,aq,trivial⟩,?_⟩
        exact ev az (oY A9 vQ x8 vR (trivial) (ab.sub (L':=[(4,_),(5,_),(11,_),(13,_)]) ⟨rfl,rfl,rfl,rfl,trivial⟩) U)
       ·refine dW _ rfl rfl ab U rfl (eu cw bB rfl rfl bM a8 rfl rfl) ?_
        rintro x8 _ _ a w ⟨rfl,rfl⟩ ab U
        replace U:=iN U
        refine ⟨⟨aq,.inr (U.ao al (dG)),.inr (U.ao al (bQ)),.inr (U.ao al (bQ)),.inr (U.ao al (bQ)),aq,aq,.inr (U.ao al (bQ)),.inr (U.ao al (bQ)),.inr (U.ao al (bQ)),.inr (U.ao al (dG)),.inr (U.ao al (bQ)),.inr (U.ao al (bQ)),.inr (U.ao al (bQ)),.inr (U.ao al (bQ)),.inr (U.ao al (bQ)),trivial⟩,?_⟩
        refine bY 12 rfl rfl ab U rfl (dH dm bH 6 rfl rfl rfl (eo dm (k:=1) rfl bM) aI rfl a8) ?_
        rintro vQ _ _ a w ⟨rfl,rfl⟩ ab U
        replace U:=iN U
        refine ⟨⟨aq,.inr (U.ao al (dG)),.inr (U.ao al (bQ)),.inr (U.ao al (bQ)),.inr (U.ao al (bQ)),aq,aq,.inr (U.ao al (bQ)),.inr (U.ao al (bQ)),.inr (U.ao al (bQ)),aq,aq,.inr (U.ao al (bQ)),.inr (U.ao al (bQ)),.inr (U.ao al (bQ)),.inr (U.ao al (bQ)),trivial⟩,?_⟩
        refine bY 19 rfl rfl ab U rfl (dH cw bB 8 rfl rfl rfl (eo cw (k:=0) rfl bM) aI rfl a8) ?_
        rintro vR _ _ a w ⟨rfl,rfl⟩ ab U
        replace U:=iN U
        refine ⟨⟨aq,aq,aq,.inr (U.ao al (bQ)),.inr (U.ao al (bQ)),aq,aq,.inr (U.ao al (bQ)),.inr (U.ao al (bQ)),.inr (U.ao al (bQ)),aq,aq,.inr (U.ao al (bQ)),.inr (U.ao al (bQ)),.inr (U.ao al (bQ)),.inr (U.ao al (bQ)),trivial⟩,?_⟩
        refine aS 20 rfl ab (U.ao al (bQ)) (bN rfl) fun a ab=>aS 21 rfl ab (U.ao al (bQ)) (aZ fP rfl rfl (s':=0) az) fun a ab=>bY 22 rfl rfl ab U rfl (dq dm 9 rfl rfl rfl (row_one (U.dp 6 rfl)) (by simp)) ?_
        rintro _ _ _ a w ⟨rfl,rfl,rfl⟩ ab U
        replace U:aB _ (_::_) (_::_::_::_::_::_::_::_::_::.blk _ _ ([_,_,_,_,_,_,_].set 1 _)::_) _:=U
        simp only [dd] at U
        replace U:=iN U
        refine ⟨⟨aq,aq,aq,aq,aq,.inr (U.ao al (bQ)),.inr (U.ao al (bQ)),aq,aq,aq,aq,aq,aq,aq,aq,aq,.inr (U.ao al (bQ)),aq,trivial⟩,?_⟩
        refine aS 23 rfl ab (U.ao al (bQ)) (bN rfl) fun a ab=>aS 24 rfl ab (U.ao al (bQ)) (aZ fP rfl rfl (s':=0) az) fun a ab=>bY 25 rfl rfl ab U rfl (dq cw 9 rfl rfl rfl (row_one (U.dp 8 rfl)) (by simp)) ?_
        rintro _ _ _ a w ⟨rfl,rfl,rfl⟩ ab U
        replace U:aB _ (_::_) (_::_::_::_::_::_::_::_::_::.blk _ _ ([_,_,_,_,_,_,_].set 3 _)::_) _:=U
        simp only [dd] at U
        replace U:=iN U
        refine ⟨⟨aq,aq,aq,aq,aq,aq,aq,aq,aq,aq,aq,aq,aq,aq,aq,aq,aq,aq,aq,aq,trivial⟩,?_⟩
        exact ev az (oY A9 vQ x8 vR (trivial) (ab.sub (L':=[(4,_),(5,_),(11,_),(13,_)]) ⟨rfl,rfl,rfl,rfl,trivial⟩) U)
      ·refine dW _ rfl rfl ab U rfl (eu cw bB rfl rfl bM a8 rfl rfl) ?_
       rintro x8 _ _ a w ⟨rfl,rfl⟩ ab U
       replace U:=rT U
       refine ⟨⟨aq,.inr (U.ao al (e3)),.inr (U.ao al (dG)),.inr (U.ao al (dG)),.inr (U.ao al (dG)),.inr (U.ao al (dG)),.inr (U.ao al (dG)),.inr (U.ao al (dG)),.inr (U.ao al (dG)),.inr (U.ao al (dG)),.inr (U.ao al (e3)),.inr (U.ao al (dG)),.inr (U.ao al (dG)),.inr (U.ao al (dG)),.inr (U.ao al (dG)),.inr (U.ao al (dG)),trivial⟩,?_⟩
       refine bY 11 rfl rfl ab U rfl (eu dm bH rfl rfl bM a8 rfl rfl) ?_
       rintro A9 _ _ a w ⟨rfl,rfl⟩ ab U
       replace U:=iN U
       refine ⟨⟨aq,.inr (U.ao al (dG)),.inr (U.ao al (bQ)),.inr (U.ao al (bQ)),.inr (U.ao al (bQ)),aq,aq,.inr (U.ao al (bQ)),.inr (U.ao al (bQ)),.inr (U.ao al (bQ)),.inr (U.ao al (dG)),.inr (U.ao al (bQ)),.inr (U.ao al (bQ)),.inr (U.ao al (bQ)),.inr (U.ao al (bQ)),.inr (U.ao al (bQ)),trivial⟩,?_⟩
       refine bY 12 rfl rfl ab U rfl (dH dm bH 6 rfl rfl rfl (eo dm (k:=0) rfl bM) aI rfl a8) ?_
       rintro vQ _ _ a w ⟨rfl,rfl⟩ ab U
       replace U:=iN U
       refine ⟨⟨aq,.inr (U.ao al (dG)),.inr (U.ao al (bQ)),.inr (U.ao al (bQ)),.inr (U.ao al (bQ)),aq,aq,.inr (U.ao al (bQ)),.inr (U.ao al (bQ)),.inr (U.ao al (bQ)),aq,aq,.inr (U.ao al (bQ)),.inr (U.ao al (bQ)),.inr (U.ao al (bQ)),.inr (U.ao al (bQ)),trivial⟩,?_⟩
       refine bY 19 rfl rfl ab U rfl (dH cw bB 8 rfl rfl rfl (eo cw (k:=1) rfl bM) aI rfl a8) ?_
       rintro vR _ _ a w ⟨rfl,rfl⟩ ab U
       replace U:=iN U
       refine ⟨⟨aq,aq,aq,.inr (U.ao al (bQ)),.inr (U.ao al (bQ)),aq,aq,.inr (U.ao al (bQ)),.inr (U.ao al (bQ)),.inr (U.ao al (bQ)),aq,aq,.inr (U.ao al (bQ)),.inr (U.ao al (bQ)),.inr (U.ao al (bQ)),.inr (U.ao al (bQ)),trivial⟩,?_⟩
       refine aS 20 rfl ab (U.ao al (bQ)) (bN rfl) fun a ab=>aS 21 rfl ab (U.ao al (bQ)) (aZ fP rfl rfl (s':=0) az) fun a ab=>bY 22 rfl rfl ab U rfl (dq dm 9 rfl rfl rfl (row_one (U.dp 6 rfl)) (by simp)) ?_
       rintro _ _ _ a w ⟨rfl,rfl,rfl⟩ ab U
       replace U:aB _ (_::_) (_::_::_::_::_::_::_::_::_::.blk _ _ ([_,_,_,_,_,_,_].set 1 _)::_) _:=U
       simp only [dd] at U
       replace U:=iN U
       refine ⟨⟨aq,aq,aq,aq,aq,.inr (U.ao al (bQ)),.inr (U.ao al (bQ)),aq,aq,aq,aq,aq,aq,aq,aq,aq,.inr (U.ao al (bQ)),aq,trivial⟩,?_⟩
       refine aS 23 rfl ab (U.ao al (bQ)) (bN rfl) fun a ab=>aS 24 rfl ab (U.ao al (bQ)) (aZ fP rfl rfl (s':=0) az) fun a ab=>bY 25 rfl rfl ab U rfl (dq cw 9 rfl rfl rfl (row_one (U.dp 8 rfl)) (by simp)) ?_
       rintro _ _ _ a w ⟨rfl,rfl,rfl⟩ ab U
       replace U:aB _ (_::_) (_::_::_::_::_::_::_::_::_::.blk _ _ ([_,_,_,_,_,_,_].set 3 _)::_) _:=U
       simp only [dd] at U
       replace U:=iN U
       refine ⟨⟨aq,aq,aq,aq,aq,aq,aq,aq,aq,aq,aq,aq,aq,aq,aq,aq,aq,aq,aq,aq,trivial⟩,?_⟩
       exact ev az (oY A9 vQ x8 vR (trivial) (ab.sub (L':=[(4,_),(5,_),(11,_),(13,_)]) ⟨rfl,rfl,rfl,rfl,trivial⟩) (U.perm (.swap _ _ _)))
     rintro a w ⟨A9,vQ,x8,vR, -,ab,U⟩
     (try dsimp only at ab U)
     refine wN _ _<|bx ab U (ai rfl<|ai rfl<|b5 rfl rfl<|av rfl<|ah) fun a w ab U=>?_
     replace U:=U.ao al (fO)
     refine ⟨(vQ,vR,(acc.1++[((aj.eI (aj.cV S) S.s.length).getD m aj.cv).n],acc.2++[(aj.mJ ((aj.eI (aj.cV S) S.s.length).drop m)).1]),m+nn),?_,?_,ab.sub ⟨(by first | rfl | (show some (aA _)=some (aA _);rw [vg];congr 2 <;> omega)),rfl,rfl,trivial⟩,?_⟩
     ·(try dsimp only);omega
     ·exact ⟨by omega,⟨n3.add ag vb HI,by simp;omega⟩,by rw [← rM,aj.tM rK,List.drop_drop];unfold aj.pB;rw [qu,if_neg (by simpa using iJ)]⟩
     ·(try dsimp only [List.set_cons_zero,List.set_cons_succ])
      rw [List.length_append,List.length_append,List.map_append,List.map_append]
      exact U
    ·refine wp_skip<|wN _ _<|bx ab U (ai rfl<|ai rfl<|b5 rfl rfl<|av rfl<|ah) fun a w ab U=>⟨(un,ut,acc,m+nn),?_,?_,ab.sub ⟨(by first | rfl | (show some (aA _)=some (aA _);rw [vg];congr 2 <;> omega)),rfl,rfl,trivial⟩,?_⟩
     ·(try dsimp only);omega
     ·exact ⟨by omega,⟨n3.up ag,sN⟩,by rw [← rM,aj.tM rK,List.drop_drop];unfold aj.pB;rw [qu,if_pos (by simpa using iJ)]⟩
     ·exact U
  ·refine wp_exit<|l1 _ _<|aD ab U (ai rfl<|av rfl<|av rfl<|ah) fun a w ab U=>wp_ret ?_
   replace U:=(((U.perm yq).perm ln).perm lp).perm lV
   obtain rfl:m=S.s.length:=by omega
   exact cY (rs:=[.tmp 2,.tmp 3]) rfl ab U (vs:=[_,_]) ⟨rfl,rfl,trivial⟩ [] [_,_,_,_,_,_,_,_] (c2) al ⟨rfl,ck,_,_,_,_,_,_,_,_,rfl,rfl,(by rw [aj.Qd rM];exact ⟨_,_,_,aj.TN bC n3 sN,rfl,rfl,rfl,rfl⟩),nG⟩
end
section
theorem vN:ba Tryz.prog 244 (.slice 168) 1 24 (Value.slice none 0 0):=⟨Tryz.underlying244,by kernel_rfl⟩
theorem Ga:b1 Tryz.prog 91:=b6 Tryz.func91
theorem XK:b1 Tryz.prog 165:=b6 Tryz.func165
theorem XL:b1 Tryz.prog 166:=b6 Tryz.func166
attribute [local irreducible] aL.sum aj.fb aj.aT aj.c0 aj.a7 aj.c3 aj.gi aj.pk aj.qY
theorem abg(bd:Nat)(v:Value)(S:ak.aX)(oh:S.off=false)(w0:World)(bU:List aR){ed:Nat×Nat}{eb:TypeId}(dF:w0.heap[0]?=some (.cells (aL.eH.map cI).toArray eb ed))(bC:ak.Ok S):e1 Tryz.prog 139 [.pointer (some ⟨bd,0,none⟩)] w0 bU [fQ bd v S,fR v S] (fun r zs hs=>zs=[]∧∃ b cu ct cx cz,r=.tuple [.pointer (some ⟨b,0,none⟩),aA 0].toArray∧hs=[cu,ct,cx,cz,fQ bd v S,fR v S]∧mr b bd (aj.bW S) cu ct cx cz):=by
 refine gk Tryz.func139 rfl Tryz.ntmps139 b4 fun cF a w ab U=>?_
 replace U:=gU U
 have fF:=bC.lo
 have gJ:=bC.aH
 have rL:=aj.AD S
 refine aD ab U (av rfl<|av rfl<|ah) fun a w ab U=>bc fun cG bJ=>aG ab U (ai rfl<|ae (hJ (places:=[(0,1),(1,1),(2,1),(3,1),(4,1),(5,1),(6,1)]) (cells:=[_,.slice none 0 0,.slice none 0 0,.slice none 0 0,_,.int .i64 0,.bool false]) gN az rfl (by rfl))<|ah) fun a w ab U=>aJ ab U rfl (jV rfl) ?_
 rintro _ _ _ a w ⟨ck,rfl,rfl,rfl⟩ ab U
 refine aG ab U (av rfl<|ah) fun a w ab U=>wpList_nil ?_
 replace U:=U.iC 9 1
 replace U:=U.iC 3 1
 replace U:=U.iC 3 1
 replace U:=l8 U
 refine bJ _ _<|ax fun dX cq=>bx ab U (av rfl<|ah) fun a w ab U=>?_
 replace U:=U.iC 168 5
 replace U:=k9 U
 refine cq _ _<|ax fun et cB=>aD ab U (av rfl<|ah) fun a w ab U=>wp_block ?_
 obtain ⟨bG,a6,U⟩:=U.c1
 refine dy (γ:=Value×Value×Nat) ((Value.slice none 0 0),(Value.slice none 0 0),0) (fun (ub,ul,k)=>[(5,ul),(6,aA (k:Int))]) [(0,_),(4,_)] (fun (ub,ul,k)=>(((bG.set 4 (.blk ck 207 [.pointer (some ⟨bd,0,none⟩),(Value.slice none 0 0),(Value.slice none 0 0),ub,aA (aj.gp (aj.cV S) k),aA (aj.gH (aj.cV S) k),.bool false])).set 2 (.row ub 3 1 (aj.hb (aj.cV S) k).length ((aj.hb (aj.cV S) k).map aA))).set 0 (.row ul 168 5 k ((aj.eI (aj.cV S) k).flatMap aj.rW)))) (fun (ub,ul,k)=>k≤S.s.length) (fun (ub,ul,k)=>S.s.length-k) (ab.sub ⟨rfl,rfl,rfl,rfl,trivial⟩) (by subst a6;exact U) (by exact Nat.zero_le _) ?_
 rintro ⟨ub,ul,k⟩ a w bh ab U
 subst a6;(try dsimp only at bh ab U)
 have l5:=bh
 replace U:=k9 U
 obtain ⟨fp,fV⟩:=aj.BJ (aj.cV S) k
 have HC:=aj.xm (aj.cV S) k
 have zE:=(aj.xZ (ak.read S (k:Int)).1).1
 refine ax fun eN cK=>bc fun fa cT=>aG ab U (ai rfl<|ai rfl<|ah) fun a w ab U=>?_
 replace U:=(U.perm qd).perm q4
 replace U:=k9 U
 refine aJ ab U rfl (dv MJ rfl (List.Perm.refl _) (by exact (RP _ _  (by first | assumption | exact ak.iO (by assumption) | exact ak.kz (by assumption) _ _) (S:=S) (v:=v)))) ?_
 rintro _ _ _ a w ⟨_,_,rfl,rfl,⟨rfl,rfl,rfl⟩⟩ ab U
 replace U:=k9 U
 refine aG ab U (ae (cU rfl rfl)<|ah) fun a w ab U=>wpList_nil (cT _ _ ?_)
 refine cn ab rfl (fun aU=>?_) (fun aU=>?_)
 ·obtain ⟨HF,Ol⟩:=aj.RE bC oh (k:=k) ag
  refine wp_skip<|cK _ _<|ax fun fk cP=>wp_block ?_
  refine bc fun gB du=>aG ab U (ai rfl<|ai rfl<|ah) fun a w ab U=>aJ ab U rfl (dv ME rfl (List.Perm.refl _) (by exact (R0 _ _ _  (by first | assumption | exact ak.iO (by assumption) | exact ak.kz (by assumption) _ _) (S:=S) (v:=v)))) ?_
  rintro _ _ _ a w ⟨_,_,rfl,rfl,⟨rfl,rfl,rfl⟩⟩ ab U
  replace U:=k9 U
  refine aG ab U (ai rfl<|ae (cQ rfl rfl)<|ae (cQ rfl rfl)<|av rfl<|av rfl<|ah) fun a w ab U=>wpList_nil (du _ _ ?_)
  refine ax fun hU ef=>aD ab U (ai rfl<|ae (dS rfl rfl)<|ah) fun a w ab U=>e9 ab rfl (fun bz=>?_) (fun bz=>?_)
  ·exact absurd HF bz
  ·refine wp_skip<|ef _ _<|bc fun iZ eY=>aG ab U (ai rfl<|ae (bV Ga rfl (fun w U=>Jn _ w (U.ext _ _ dF)) bP)<|ah) fun a w ab U=>aJ ab U rfl (dg dQ) ?_
   rintro _ _ _ a w ⟨yJ,rfl,rfl,rfl⟩ ab U
   refine aJ ab U rfl (cJ dQ 0 rfl rfl rfl rfl aI (bp rfl (bp rfl (bp rfl (bp rfl (bp rfl dO))))) aI) ?_
   rintro _ _ _ a w ⟨rfl,rfl,rfl⟩ ab U
   replace U:=iD U
   refine wpList_nil (eY _ _ ?_)
   refine bc fun iR eO=>aG ab U (ai rfl<|ae (gh dQ 0 rfl rfl aI rfl)<|ah) fun a w ab U=>aJ ab U rfl (oN vN dQ rfl aI a8 bM a8 a8) ?_
   rintro v5 _ _ a w ⟨rfl,rfl⟩ ab U
   replace U:=kq U
   refine aJ ab U rfl (dH vN dQ 4 rfl rfl rfl (eo vN (k:=0) rfl bM) aI rfl a8) ?_
   rintro ns _ _ a w ⟨rfl,rfl⟩ ab U
   replace U:=kq U
   refine aG ab U (av rfl<|ah) fun a w ab U=>wpList_nil (eO _ _ ?_)
   refine aD ab U (ai rfl<|ae (bV XK rfl (fun w U=>Vg _ ag w ) bP)<|av rfl<|ah) fun a w ab U=>ax fun j5 fC=>aD ab U (ai rfl<|ae (fZ rfl)<|ah) fun a w ab U=>e9 ab rfl (fun cl=>?_) (fun cl=>?_)
   ·refine dM<|aG ab U (ai rfl<|ai rfl<|b5 rfl rfl<|ae (bN rfl)<|ae (aZ gN rfl rfl (s':=0) az)<|ah) fun a w ab U=>aJ ab U rfl (dq bH 8 rfl rfl rfl rfl (by simp)) ?_
    rintro _ _ _ a w ⟨rfl,rfl,rfl⟩ ab U
    replace U:aB _ (_) (_::_::_::_::_::_::_::_::.blk _ _ ([_,_,_,_,_,_,_].set 5 _)::_) _:=U
    simp only [dd] at U
    replace U:=kq U
    refine wpList_nil (fC _ _ ?_)
    refine ax fun oF jg=>bc fun pq jF=>aG ab U (ae (aZ dQ rfl rfl (s':=0) az)<|ae (bf fL 1 rfl rfl rfl rfl)<|ae (fZ rfl)<|ai rfl<|ah) fun a w ab U=>j3 3 55 2 ab U rfl rfl rfl rfl rfl (fun aP=>have aP:=aP;aO 55 rfl rfl rfl (bE rfl)<|aO 55 rfl rfl rfl (fZ rfl)<|ah) rfl rfl fun a w ab U=>?_
    refine wpList_nil (jF _ _ ?_)
    refine df ab rfl (fun dI=>?_) (fun dI=>?_)
    ·(try simp only [dj] at dI)
     refine dM<|aG ab U (ai rfl<|ai rfl<|ae (bN rfl)<|ae (aZ gN rfl rfl (s':=0) az)<|ae (bf dm 8 rfl rfl rfl rfl)<|ai rfl<|ah) fun a w ab U=>aJ ab U rfl (eu dm bH rfl rfl bM a8 rfl rfl) ?_
     rintro vO _ _ a w ⟨rfl,rfl⟩ ab U
     replace U:=nM U
     refine aJ ab U rfl (dH dm bH 7 rfl rfl rfl (eo dm (k:=0) rfl bM) aI rfl a8) ?_
     rintro v10 _ _ a w ⟨rfl,rfl⟩ ab U
     replace U:=nM U
     refine aG ab U (ae (bN rfl)<|ae (aZ gN rfl rfl (s':=0) az)<|ah) fun a w ab U=>aJ ab U rfl (dq dm 9 rfl rfl rfl (row_one (U.dp 7 rfl)) (by simp)) ?_
     rintro _ _ _ a w ⟨rfl,rfl,rfl⟩ ab U
     replace U:aB _ (_) (_::_::_::_::_::_::_::_::_::.blk _ _ ([_,_,_,_,_,_,_].set 3 _)::_) _:=U
     simp only [dd] at U
     replace U:=nM U
     refine wpList_nil (jg _ _ ?_)
     refine iE mixed az ab U (ae (aZ dQ rfl rfl (s':=0) az)<|ae (bf bH 2 rfl rfl rfl rfl)<|ai rfl<|ae (bN rfl)<|ae (aZ gN rfl rfl (s':=0) az)<|ae (bf bH 9 rfl rfl rfl rfl)<|ae (ke rfl rfl)<|ah) fun a w ab U=>cn ab rfl (fun dE=>?_) (fun dE=>?_)
     ·refine dM<|aG ab U (ai rfl<|ae (aZ dQ rfl rfl (s':=0) az)<|ae (bf bH 2 rfl rfl rfl rfl)<|b5 rfl rfl<|ae (bN rfl)<|ae (aZ gN rfl rfl (s':=0) az)<|ah) fun a w ab U=>aJ ab U rfl (dq bH 9 rfl rfl rfl rfl (by simp)) ?_
      rintro _ _ _ a w ⟨rfl,rfl,rfl⟩ ab U
      replace U:aB _ (_) (_::_::_::_::_::_::_::_::_::.blk _ _ ([_,_,_,_,_,_,_].set 4 _)::_) _:=U
      simp only [dd] at U
      replace U:=nM U
      refine wpList_nil (cP _ _ ?_)
      refine bx ab U (ai rfl<|b5 rfl rfl<|av rfl<|ah) fun a w ab U=>?_
      replace U:=((((((U.perm qd).perm q4).perm vX).perm vZ).perm Bx).perm yr).perm v7
      replace U:=U.ao al (eS.k.k.k.k.k.k.k)
      refine ⟨(v10,ns,k+1),?_,?_,ab.sub ⟨rfl,rfl,rfl,rfl,trivial⟩,?_⟩
      ·(try dsimp only);omega
      ·omega
      ·have eQ:=aj.o6 (S:=S) (k:=k) ag
       (try dsimp only [List.set_cons_zero,List.set_cons_succ])
       rw [aj.uE (by rw [eQ];exact cl),aj.uy (by rw [eQ];exact dI),aj.Ds (by rw [eQ];omega),← aj.o3 ag,eQ,List.length_append,List.map_append]
       exact U
     ·refine wp_skip<|cP _ _<|bx ab U (ai rfl<|b5 rfl rfl<|av rfl<|ah) fun a w ab U=>?_
      replace U:=((((((U.perm qd).perm q4).perm vX).perm vZ).perm Bx).perm yr).perm v7
      replace U:=U.ao al (eS.k.k.k.k.k.k.k)
      refine ⟨(v10,ns,k+1),?_,?_,ab.sub ⟨rfl,rfl,rfl,rfl,trivial⟩,?_⟩
      ·(try dsimp only);omega
      ·omega
      ·have eQ:=aj.o6 (S:=S) (k:=k) ag
       (try dsimp only [List.set_cons_zero,List.set_cons_succ])
       rw [aj.uE (by rw [eQ];exact cl),aj.uy (by rw [eQ];exact dI),aj.Dr (by rw [eQ];omega),← aj.o3 ag,eQ,List.length_append,List.map_append]
       exact U
    ·(try simp only [dj] at dI)
     refine wp_skip<|jg _ _<|iE mixed az ab U (ae (aZ dQ rfl rfl (s':=0) az)<|ae (bf bH 1 rfl rfl rfl rfl)<|ai rfl<|ae (bN rfl)<|ae (aZ gN rfl rfl (s':=0) az)<|ae (bf bH 8 rfl rfl rfl rfl)<|ae (ke rfl rfl)<|ah) fun a w ab U=>cn ab rfl (fun iI=>?_) (fun iI=>?_)
     ·refine dM<|aG ab U (ai rfl<|ae (aZ dQ rfl rfl (s':=0) az)<|ae (bf bH 1 rfl rfl rfl rfl)<|b5 rfl rfl<|ae (bN rfl)<|ae (aZ gN rfl rfl (s':=0) az)<|ah) fun a w ab U=>aJ ab U rfl (dq bH 8 rfl rfl rfl rfl (by simp)) ?_
      rintro _ _ _ a w ⟨rfl,rfl,rfl⟩ ab U
      replace U:aB _ (_) (_::_::_::_::_::_::_::_::.blk _ _ ([_,_,_,_,_,_,_].set 4 _)::_) _:=U
      simp only [dd] at U
      replace U:=kq U
      refine wpList_nil (cP _ _ ?_)
      refine bx ab U (ai rfl<|b5 rfl rfl<|av rfl<|ah) fun a w ab U=>?_
      replace U:=((((((U.perm kD).perm ln).perm lp).perm lV).perm ud).perm qh).perm ue
      replace U:=U.ao al (fO.k.k.k.k.k.k.k)
      refine ⟨(ub,ns,k+1),?_,?_,ab.sub ⟨rfl,rfl,rfl,rfl,trivial⟩,?_⟩
      ·(try dsimp only);omega
      ·omega
      ·have eQ:=aj.o6 (S:=S) (k:=k) ag
       (try dsimp only [List.set_cons_zero,List.set_cons_succ])
       rw [aj.uE (by rw [eQ];exact cl),aj.rm (by rw [eQ];intro ch;rcases dI with cA | cA;(rw [cA] at ch;exact absurd ch.1 (by simp));exact ch.2 cA),aj.Ds (by rw [eQ];omega),← aj.o3 ag,eQ]
       exact U
     ·refine wp_skip<|cP _ _<|bx ab U (ai rfl<|b5 rfl rfl<|av rfl<|ah) fun a w ab U=>?_
      replace U:=((((((U.perm kD).perm ln).perm lp).perm lV).perm ud).perm qh).perm ue
      replace U:=U.ao al (fO.k.k.k.k.k.k.k)
      refine ⟨(ub,ns,k+1),?_,?_,ab.sub ⟨rfl,rfl,rfl,rfl,trivial⟩,?_⟩
      ·(try dsimp only);omega
      ·omega
      ·have eQ:=aj.o6 (S:=S) (k:=k) ag
       (try dsimp only [List.set_cons_zero,List.set_cons_succ])
       rw [aj.uE (by rw [eQ];exact cl),aj.rm (by rw [eQ];intro ch;rcases dI with cA | cA;(rw [cA] at ch;exact absurd ch.1 (by simp));exact ch.2 cA),aj.Dr (by rw [eQ];omega),← aj.o3 ag,eQ]
       exact U
   ·refine wp_skip<|fC _ _<|ax fun sg lC=>bc fun sh l1=>aG ab U (ae (aZ dQ rfl rfl (s':=0) az)<|ae (bf fL 1 rfl rfl rfl rfl)<|ae (fZ rfl)<|ai rfl<|ah) fun a w ab U=>?_
    refine j3 3 55 2 ab U rfl rfl rfl rfl rfl (fun aP=>have aP:=aP;aO 55 rfl rfl rfl (bE rfl)<|aO 55 rfl rfl rfl (fZ rfl)<|ah) rfl rfl fun a w ab U=>?_
    refine wpList_nil (l1 _ _ ?_)
    refine df ab rfl (fun kp=>?_) (fun kp=>?_)
    ·(try simp only [dj] at kp)
     refine dM<|aG ab U (ai rfl<|ai rfl<|ae (bN rfl)<|ae (aZ gN rfl rfl (s':=0) az)<|ae (bf dm 8 rfl rfl rfl rfl)<|ai rfl<|ah) fun a w ab U=>aJ ab U rfl (eu dm bH rfl rfl bM a8 rfl rfl) ?_
     rintro v11 _ _ a w ⟨rfl,rfl⟩ ab U
     replace U:=nM U
     refine aJ ab U rfl (dH dm bH 7 rfl rfl rfl (eo dm (k:=0) rfl bM) aI rfl a8) ?_
     rintro x1 _ _ a w ⟨rfl,rfl⟩ ab U
     replace U:=nM U
     refine aG ab U (ae (bN rfl)<|ae (aZ gN rfl rfl (s':=0) az)<|ah) fun a w ab U=>aJ ab U rfl (dq dm 9 rfl rfl rfl (row_one (U.dp 7 rfl)) (by simp)) ?_
     rintro _ _ _ a w ⟨rfl,rfl,rfl⟩ ab U
     replace U:aB _ (_) (_::_::_::_::_::_::_::_::_::.blk _ _ ([_,_,_,_,_,_,_].set 3 _)::_) _:=U
     simp only [dd] at U
     replace U:=nM U
     refine wpList_nil (lC _ _ ?_)
     refine iE mixed az ab U (ae (aZ dQ rfl rfl (s':=0) az)<|ae (bf bH 2 rfl rfl rfl rfl)<|ai rfl<|ae (bN rfl)<|ae (aZ gN rfl rfl (s':=0) az)<|ae (bf bH 9 rfl rfl rfl rfl)<|ae (ke rfl rfl)<|ah) fun a w ab U=>cn ab rfl (fun iJ=>?_) (fun iJ=>?_)
     ·refine dM<|aG ab U (ai rfl<|ae (aZ dQ rfl rfl (s':=0) az)<|ae (bf bH 2 rfl rfl rfl rfl)<|b5 rfl rfl<|ae (bN rfl)<|ae (aZ gN rfl rfl (s':=0) az)<|ah) fun a w ab U=>aJ ab U rfl (dq bH 9 rfl rfl rfl rfl (by simp)) ?_
      rintro _ _ _ a w ⟨rfl,rfl,rfl⟩ ab U
      replace U:aB _ (_) (_::_::_::_::_::_::_::_::_::.blk _ _ ([_,_,_,_,_,_,_].set 4 _)::_) _:=U
      simp only [dd] at U
      replace U:=nM U
      refine wpList_nil (cP _ _ ?_)
      refine bx ab U (ai rfl<|b5 rfl rfl<|av rfl<|ah) fun a w ab U=>?_
      replace U:=((((((U.perm qd).perm q4).perm vX).perm vZ).perm Bx).perm yr).perm v7
      replace U:=U.ao al (eS.k.k.k.k.k.k.k)
      refine ⟨(x1,ns,k+1),?_,?_,ab.sub ⟨rfl,rfl,rfl,rfl,trivial⟩,?_⟩
      ·(try dsimp only);omega
      ·omega
      ·have eQ:=aj.o6 (S:=S) (k:=k) ag
       (try dsimp only [List.set_cons_zero,List.set_cons_succ])
       rw [aj.uF (by rw [eQ];exact cl),aj.uy (by rw [eQ];exact kp),aj.Ds (by rw [eQ];omega),← aj.o3 ag,eQ,List.length_append,List.map_append]
       exact U
     ·refine wp_skip<|cP _ _<|bx ab U (ai rfl<|b5 rfl rfl<|av rfl<|ah) fun a w ab U=>?_
      replace U:=((((((U.perm qd).perm q4).perm vX).perm vZ).perm Bx).perm yr).perm v7
      replace U:=U.ao al (eS.k.k.k.k.k.k.k)
      refine ⟨(x1,ns,k+1),?_,?_,ab.sub ⟨rfl,rfl,rfl,rfl,trivial⟩,?_⟩
      ·(try dsimp only);omega
      ·omega
      ·have eQ:=aj.o6 (S:=S) (k:=k) ag
       (try dsimp only [List.set_cons_zero,List.set_cons_succ])
       rw [aj.uF (by rw [eQ];exact cl),aj.uy (by rw [eQ];exact kp),aj.Dr (by rw [eQ];omega),← aj.o3 ag,eQ,List.length_append,List.map_append]
       exact U
    ·(try simp only [dj] at kp)
     refine wp_skip<|lC _ _<|iE mixed az ab U (ae (aZ dQ rfl rfl (s':=0) az)<|ae (bf bH 1 rfl rfl rfl rfl)<|ai rfl<|ae (bN rfl)<|ae (aZ gN rfl rfl (s':=0) az)<|ae (bf bH 8 rfl rfl rfl rfl)<|ae (ke rfl rfl)<|ah) fun a w ab U=>cn ab rfl (fun m2=>?_) (fun m2=>?_)
     ·refine dM<|aG ab U (ai rfl<|ae (aZ dQ rfl rfl (s':=0) az)<|ae (bf bH 1 rfl rfl rfl rfl)<|b5 rfl rfl<|ae (bN rfl)<|ae (aZ gN rfl rfl (s':=0) az)<|ah) fun a w ab U=>aJ ab U rfl (dq bH 8 rfl rfl rfl rfl (by simp)) ?_
      rintro _ _ _ a w ⟨rfl,rfl,rfl⟩ ab U
      replace U:aB _ (_) (_::_::_::_::_::_::_::_::.blk _ _ ([_,_,_,_,_,_,_].set 4 _)::_) _:=U
      simp only [dd] at U
      replace U:=kq U
      refine wpList_nil (cP _ _ ?_)
      refine bx ab U (ai rfl<|b5 rfl rfl<|av rfl<|ah) fun a w ab U=>?_
      replace U:=((((((U.perm kD).perm ln).perm lp).perm lV).perm ud).perm qh).perm ue
      replace U:=U.ao al (fO.k.k.k.k.k.k.k)
      refine ⟨(ub,ns,k+1),?_,?_,ab.sub ⟨rfl,rfl,rfl,rfl,trivial⟩,?_⟩
      ·(try dsimp only);omega
      ·omega
      ·have eQ:=aj.o6 (S:=S) (k:=k) ag
       (try dsimp only [List.set_cons_zero,List.set_cons_succ])
       rw [aj.uF (by rw [eQ];exact cl),aj.rm (by rw [eQ];intro ch;rcases kp with cA | cA;(rw [cA] at ch;exact absurd ch.1 (by simp));exact ch.2 cA),aj.Ds (by rw [eQ];omega),← aj.o3 ag,eQ]
       exact U
     ·refine wp_skip<|cP _ _<|bx ab U (ai rfl<|b5 rfl rfl<|av rfl<|ah) fun a w ab U=>?_
      replace U:=((((((U.perm kD).perm ln).perm lp).perm lV).perm ud).perm qh).perm ue
      replace U:=U.ao al (fO.k.k.k.k.k.k.k)
      refine ⟨(ub,ns,k+1),?_,?_,ab.sub ⟨rfl,rfl,rfl,rfl,trivial⟩,?_⟩
      ·(try dsimp only);omega
      ·omega
      ·have eQ:=aj.o6 (S:=S) (k:=k) ag
       (try dsimp only [List.set_cons_zero,List.set_cons_succ])
       rw [aj.uF (by rw [eQ];exact cl),aj.rm (by rw [eQ];intro ch;rcases kp with cA | cA;(rw [cA] at ch;exact absurd ch.1 (by simp));exact ch.2 cA),aj.Dr (by rw [eQ];omega),← aj.o3 ag,eQ]
       exact U
 ·obtain rfl:k=S.s.length:=by omega
  refine wp_exit<|cB _ _<|ax fun Bs rA=>bx ab U (av rfl<|ah) fun a w ab U=>?_
  replace U:=U.perm nV
  obtain ⟨zp,ia,U⟩:=aB.Gh (hl:=aj.IJ) (h1:=aj.IK) (p:=aj.px) (xs:=(aj.eI (aj.cV S) S.s.length)) U (by rw [aj.Af ag]) ag aj.xr
  have abo:(aj.eI (aj.cV S) S.s.length).length=S.s.length:=aj.Af ag
  replace U:aB _ (_::_) (_::_::_::_::_::_::_) _:=U
  refine rA _ _<|ax fun EO uM=>wp_block ?_
  obtain ⟨bG,a6,U⟩:=U.c1
  refine dy (γ:=Value×Value×aj.Acc×Nat) ((Value.slice none 0 0),(Value.slice none 0 0),([],[]),0) (fun (un,ut,acc,m)=>[(11,aA (m:Int))]) [(4,_),(5,_)] (fun (un,ut,acc,m)=>(((bG.set 5 (.blk ck 207 [.pointer (some ⟨bd,0,none⟩),un,ut,ub,aA (aj.gp (aj.cV S) S.s.length),aA (aj.gH (aj.cV S) S.s.length),.bool false])).set 2 (.row un 3 1 acc.1.length (acc.1.map aA))).set 4 (.row ut 9 1 acc.2.length (acc.2.map vs)))) (fun (un,ut,acc,m)=>m≤S.s.length∧(aj.mT m acc∧(acc.1.length:Int)≤aj.gH (aj.cV S) S.s.length)∧aj.scan ((aj.eI (aj.cV S) S.s.length).drop m) acc=aj.scan (aj.eI (aj.cV S) S.s.length) ([],[])) (fun (un,ut,acc,m)=>S.s.length-m) (ab.sub ⟨rfl,rfl,rfl,trivial⟩) (by subst a6;exact U) (by exact ⟨Nat.zero_le _,⟨aj.mT.start,(aj.wx _ _).1⟩,rfl⟩) ?_
  rintro ⟨un,ut,acc,m⟩ a w bh ab U
  subst a6;(try dsimp only at bh ab U)
  obtain ⟨u6,⟨n3,sN⟩,rM⟩:=bh
  replace U:aB _ (_::_) (_::_::_::_::_::_::_) _:=U
  obtain ⟨h8,wP,rC,ix⟩:=n3
  have n3:aj.mT m acc:=⟨h8,wP,rC,ix⟩
  have Z7:∀ x∈acc.1, -9223372036854775808≤x∧x≤9223372036854775807:=fun x aM=>by have:=rC x aM;omega
  refine ax fun EP uN=>aD ab U (ai rfl<|ai rfl<|ae (ee vN ia rfl)<|ae (cU rfl rfl)<|ah) fun a w ab U=>cn ab rfl (fun aag=>?_) (fun aag=>?_)
  ·have k3:=aj.Qx (R:=aj.cV S) (k:=S.s.length) (m:=m) ag
   obtain ⟨wU,Hc,Hd,aaG⟩:=id k3
   refine wp_skip<|uN _ _<|wp_block ?_
   refine bc fun Ub GQ=>aG ab U (ai rfl<|ai rfl<|ae (dV vN dQ ia rfl rfl ag)<|ae (DH dQ ia (.inr (by simp)) rfl rfl (by first | omega | (simp;omega)))<|ah) fun a w ab U=>aJ ab U rfl (dg dQ) ?_
   rintro _ _ _ a w ⟨BE,rfl,rfl,rfl⟩ ab U
   refine aJ ab U rfl (cJ dQ 0 rfl rfl rfl rfl aI (bp rfl (bp rfl (bp rfl (bp rfl (bp rfl dO))))) aI) ?_
   rintro _ _ _ a w ⟨rfl,rfl,rfl⟩ ab U
   replace U:aB _ (_::_) (_::_::_::_::_::_::_::_) _:=U
   refine wpList_nil ?_
   rw [show ((m:Int)).toNat=m from by omega] at U
   replace U:aB _ (_::_) (.blk BE 168 [aA ((aj.eI (aj.cV S) S.s.length).getD m aj.cv).n,aA ((aj.eI (aj.cV S) S.s.length).getD m aj.cv).p,aA ((aj.eI (aj.cV S) S.s.length).getD m aj.cv).l,vs ((aj.eI (aj.cV S) S.s.length).getD m aj.cv).t,.bool ((aj.eI (aj.cV S) S.s.length).getD m aj.cv).ok]::_::_::_::_::_::_::_) _:=U
   refine GQ _ _<|ax fun Kp wN=>bx ab U (ae (aZ dQ rfl rfl (s':=0) az)<|ae (bf bH 0 rfl rfl rfl rfl)<|ae (bV F0 rfl (fun w U=>H9 _ (by first | assumption | omega) w ) bP)<|av rfl<|ah) fun a w ab U=>?_
   have oc:=aj.nD ((aj.eI (aj.cV S) S.s.length).getD m aj.cv).l
   refine wN _ _<|aD ab U (av rfl<|ah) fun a w ab U=>bc fun akg ZH=>aG ab U (ae (aZ dQ rfl rfl (s':=0) az)<|ae (bf fL 0 rfl rfl rfl rfl)<|ai rfl<|ah) fun a w ab U=>j3 2 95 3 ab U rfl rfl rfl rfl rfl (fun aP=>have aP:=aP;aO 95 rfl rfl rfl (aZ dQ rfl rfl (s':=0) az)<|aO 95 rfl rfl rfl (bf bH 0 rfl rfl rfl rfl)<|aO 95 rfl rfl rfl (gq rfl rfl)<|ah) rfl rfl fun a w ab U=>?_
   refine aG ab U (ai rfl<|ah) fun a w ab U=>j3 7 100 6 ab U rfl rfl rfl rfl rfl (fun aP=>have aP:=aP;aO 100 rfl rfl rfl (bE rfl)<|aO 100 rfl rfl rfl (bE rfl)<|aO 100 rfl rfl rfl (o4 rfl rfl ag)<|aO 100 rfl rfl rfl (bE rfl)<|aO 100 rfl rfl rfl (ee vN ia rfl)<|aO 100 rfl rfl rfl (xw rfl rfl)<|ah) rfl rfl fun a w ab U=>?_
   refine aG ab U (av rfl<|ah) fun a w ab U=>wpList_nil (ZH _ _ ?_)
   refine ax fun Ud GS=>aD ab U (av rfl<|ah) fun a w ab U=>wp_block ?_
   obtain ⟨bG,a6,U⟩:=U.c1
   refine dy (γ:=Nat) (0) (fun (i:Nat)=>[(14,vs (aj.qY (aj.eI (aj.cV S) S.s.length) m i)),(15,.bool (aj.pk (aj.eI (aj.cV S) S.s.length) m i)),(16,aA (i:Int))]) [(4,_),(5,_),(11,_),(12,_),(13,_)] (fun (i:Nat)=>bG) (fun (i:Nat)=>(i:Int)≤aj.a7 ((aj.eI (aj.cV S) S.s.length).getD m aj.cv).l) (fun (i:Nat)=>(aj.a7 ((aj.eI (aj.cV S) S.s.length).getD m aj.cv).l).toNat-i) (ab.sub ⟨(by show some (vs [])=some (vs _);rw [aj.aiN]),(by show some (Value.bool _)=some (Value.bool _);rw [← aj.ajw ag]),rfl,rfl,rfl,rfl,rfl,rfl,trivial⟩) (by subst a6;exact U) (by exact oc.1) ?_
   rintro i a w bh ab U
   subst a6;(try dsimp only at bh ab U)
   have eL:=bh
   replace U:aB _ (_::_) (_::_::_::_::_::_::_::_) _:=U
   refine ax fun Ue GU=>bc fun Uf GV=>aG ab U (ai rfl<|ai rfl<|ah) fun a w ab U=>j3 1 109 3 ab U rfl rfl rfl rfl rfl (fun aP=>have aP:=aP;aO 109 rfl rfl rfl (bE rfl)<|aO 109 rfl rfl rfl (bE rfl)<|aO 109 rfl rfl rfl (cU rfl rfl)<|ah) rfl rfl fun a w ab U=>?_
   refine wpList_nil (GV _ _ ?_)
   refine df ab rfl (fun uS=>?_) (fun uS=>?_)
   ·(try simp only [dj] at uS)
    have oU:=aj.aju uS.1 uS.2 ag
    have abv:=aj.Qx (R:=aj.cV S) (k:=S.s.length) (m:=m+i) oU
    obtain ⟨zJ,w4,ans,ant⟩:=abv
    have anE:=aj.aiO (PS:=(aj.eI (aj.cV S) S.s.length)) aj.xr m i
    refine wp_skip<|GU _ _<|ax fun Ug GW=>wp_block ?_
    refine bc fun akh ZI=>aG ab U (ai rfl<|ai rfl<|ai rfl<|b5 rfl rfl<|ae (dV vN dQ ia rfl rfl ag)<|ae (DH dQ ia (.inr (by simp)) rfl rfl (by first | omega | (simp;omega)))<|ah) fun a w ab U=>aJ ab U rfl (dg dQ) ?_
    rintro _ _ _ a w ⟨Lk,rfl,rfl,rfl⟩ ab U
    refine aJ ab U rfl (cJ dQ 0 rfl rfl rfl rfl aI (bp rfl (bp rfl (bp rfl (bp rfl (bp rfl dO))))) aI) ?_
    rintro _ _ _ a w ⟨rfl,rfl,rfl⟩ ab U
    replace U:=qM U
    refine wpList_nil ?_
    rw [show ((m:Int)+(i:Int)).toNat=m+i from by omega] at U
    replace U:aB _ (_::_) (.blk Lk 168 [aA ((aj.eI (aj.cV S) S.s.length).getD (m+i) aj.cv).n,aA ((aj.eI (aj.cV S) S.s.length).getD (m+i) aj.cv).p,aA ((aj.eI (aj.cV S) S.s.length).getD (m+i) aj.cv).l,vs ((aj.eI (aj.cV S) S.s.length).getD (m+i) aj.cv).t,.bool ((aj.eI (aj.cV S) S.s.length).getD (m+i) aj.cv).ok]::_::_::_::_::_::_::_::_) _:=U
    refine ZI _ _<|bc fun Uh GX=>aG ab U (ae (aZ dQ rfl rfl (s':=0) az)<|ae (bf fL 0 rfl rfl rfl rfl)<|ai rfl<|ah) fun a w ab U=>j3 2 124 5 ab U rfl rfl rfl rfl rfl (fun aP=>have aP:=aP;aO 124 rfl rfl rfl (aZ dQ rfl rfl (s':=0) az)<|aO 124 rfl rfl rfl (bf bH 0 rfl rfl rfl rfl)<|aO 124 rfl rfl rfl (aZ dQ rfl rfl (s':=0) az)<|aO 124 rfl rfl rfl (bf bH 1 rfl rfl rfl rfl)<|aO 124 rfl rfl rfl (gq rfl rfl)<|ah) rfl rfl fun a w ab U=>?_
    refine aG ab U (ai rfl<|ah) fun a w ab U=>j3 9 131 4 ab U rfl rfl rfl rfl rfl (fun aP=>have aP:=aP;aO 131 rfl rfl rfl (aZ dQ rfl rfl (s':=0) az)<|aO 131 rfl rfl rfl (bf bH 0 rfl rfl rfl rfl)<|aO 131 rfl rfl rfl (bE rfl)<|aO 131 rfl rfl rfl (gq rfl rfl)<|ah) rfl rfl fun a w ab U=>?_
    refine aG ab U (ai rfl<|ah) fun a w ab U=>j3 15 137 8 ab U rfl rfl rfl rfl rfl (fun aP=>have aP:=aP;aO 137 rfl rfl rfl (aZ dQ rfl rfl (s':=0) az)<|aO 137 rfl rfl rfl (bf bH 0 rfl rfl rfl rfl)<|aO 137 rfl rfl rfl (aZ dQ rfl rfl (s':=0) az)<|aO 137 rfl rfl rfl (bf bH 1 rfl rfl rfl rfl)<|aO 137 rfl rfl rfl (bE rfl)<|aO 137 rfl rfl rfl (hK rfl rfl ag)<|aO 137 rfl rfl rfl (nN rfl rfl ag)<|aO 137 rfl rfl rfl (gq rfl rfl)<|ah) rfl rfl fun a w ab U=>?_
    refine aG ab U (av rfl<|ah) fun a w ab U=>wpList_nil (GX _ _ ?_)
    refine bx ab U (ai rfl<|ae (aZ dQ rfl rfl (s':=0) az)<|ae (bf bB 0 rfl rfl rfl rfl)<|ae (DD rfl rfl aI)<|av rfl<|ah) fun a w ab U=>GW _ _ ?_
    refine bx ab U (ai rfl<|b5 rfl rfl<|av rfl<|ah) fun a w ab U=>?_
    replace U:=U.ao al (c2)
    refine ⟨(i+1),?_,?_,ab.sub ⟨(by show some (vs _)=some (vs _);rw [← aj.aiP oU]),(by show some (Value.bool _)=some (Value.bool _);rw [← aj.ajx uS.1 oU];rfl),rfl,rfl,rfl,rfl,rfl,rfl,trivial⟩,?_⟩
    ·(try dsimp only);omega
    ·omega
    ·exact U
   ·(try simp only [dj] at uS)
    refine wp_exit<|GS _ _<|ax fun aki ZJ=>aD ab U (ai rfl<|ae (fZ rfl)<|ah) fun a w ab U=>df ab rfl (fun G7=>?_) (fun G7=>?_)
    ·have abc:=aj.ajv ag (by simpa using G7) eL
     refine aD ab U (ai rfl<|b5 rfl rfl<|av rfl<|ah) fun a w ab U=>wp_exit ?_
     replace U:=U.ao al (c2)
     refine ⟨(un,ut,acc,m+1),?_,?_,ab.sub ⟨(by first | rfl | (show some (aA _)=some (aA _);congr 2;omega)),rfl,rfl,trivial⟩,?_⟩
     ·(try dsimp only);omega
     ·exact ⟨by omega,⟨n3.up ag,sN⟩,by rw [← rM,aj.xM (l:=(aj.eI (aj.cV S) S.s.length).drop m) (aj.FI ag) abc,List.drop_drop]⟩
     ·exact U
    ·have OF:aj.pk (aj.eI (aj.cV S) S.s.length) m i=true:=by simpa using G7
     have abb:¬ (i:Int)<aj.a7 ((aj.eI (aj.cV S) S.s.length).getD m aj.cv).l:=by rcases uS with cA | cA;(rw [OF] at cA;cases cA);exact cA
     obtain ⟨rK,amz⟩:=aj.ajy ag k3 OF abb eL
     have HH:=aj.AH rK
     rw [List.length_drop] at HH
     obtain ⟨Hi,HI⟩:=aj.RH rK (fun x aM=>aj.xr x (List.mem_of_mem_drop aM))
     rw [aj.oO,aj.DC ag ag] at Hi
     have vb:1≤((aj.eI (aj.cV S) S.s.length).getD m aj.cv).n∧((aj.eI (aj.cV S) S.s.length).getD m aj.cv).n≤4096:=by rw [aj.DC ag ag];exact ⟨aj.JT Hi,(aj.xZ _).1.2⟩
     have aaF:=aj.B2 (aj.BO Hi) S.s.length ag
     have qu:((aj.eI (aj.cV S) S.s.length).drop m).getD 0 aj.cv=((aj.eI (aj.cV S) S.s.length).getD m aj.cv):=aj.oO _ _
     refine wp_skip<|ZJ _ _<|iE mixed az ab U (ai rfl<|ae (bN rfl)<|ae (aZ gN rfl rfl (s':=0) az)<|ae (bf dm 6 rfl rfl rfl rfl)<|ae (aZ dQ rfl rfl (s':=0) az)<|ae (bf bH 0 rfl rfl rfl rfl)<|ae (bV XL rfl (fun w U=>Z6 _ _ _ w (lM (U.dp 3 rfl) (by first | assumption | (simp;done)) (by first | rfl | (simp;done) | (simp;omega) | omega) (by first | omega | (simp;omega)))) bP)<|av rfl<|ah) fun a w ab U=>ax fun Ui Ct=>aD ab U (ai rfl<|ae (fZ rfl)<|ah) fun a w ab U=>?_
     refine e9 ab rfl (fun G8=>?_) (fun G8=>?_)
     ·refine ax fun akm ZN=>?_
      revert U;revert ab;apply hL (J:=kj (α0:=Value) (α1:=Value) 189 _ _ _ _ _) #[false,false,false,false,false,false,false,false,false,false,false,false] 12 mixed rfl rfl
      ·intro w ab U
       refine aS 0 rfl ab (U.ao al (im)) (bE rfl) fun a ab=>aS 1 rfl ab (U.ao al (im)) (bE rfl) fun a ab=>aS 2 rfl ab (U.ao al (im)) (bN rfl) fun a ab=>aS 3 rfl ab (U.ao al (im)) (aZ gN rfl rfl (s':=0) az) fun a ab=>aS 4 rfl ab (U.ao al (mf)) (bf dm 0 rfl rfl rfl rfl) fun a ab=>?_
       refine aS 5 rfl ab (U.ao al (im)) (aZ dQ rfl rfl (s':=0) az) fun a ab=>aS 6 rfl ab (U.ao al (mf.k)) (bf bH 0 rfl rfl rfl rfl) fun a ab=>bY 7 rfl rfl ab U rfl (eu dm bH rfl rfl bM a8 rfl rfl) ?_
       rintro To _ _ a w ⟨rfl,rfl⟩ ab U
       replace U:=qM U
       refine ⟨⟨aq,aq,.inr (U.ao al (im)),.inr (U.ao al (e3)),.inr (U.ao al (e3)),.inr (U.ao al (e3)),.inr (U.ao al (e3)),trivial⟩,?_⟩
       refine bY 8 rfl rfl ab U rfl (dH dm bH 4 rfl rfl rfl (eo dm (k:=0) rfl bM) aI rfl a8) ?_
       rintro JZ _ _ a w ⟨rfl,rfl⟩ ab U
       replace U:=qM U
       refine ⟨⟨aq,aq,aq,aq,.inr (U.ao al (e3)),.inr (U.ao al (e3)),.inr (U.ao al (e3)),trivial⟩,?_⟩
       refine aS 9 rfl ab (U.ao al (e3)) (bN rfl) fun a ab=>aS 10 rfl ab (U.ao al (e3)) (aZ gN rfl rfl (s':=0) az) fun a ab=>bY 11 rfl rfl ab U rfl (dq dm 7 rfl rfl rfl (row_one (U.dp 4 rfl)) (by simp)) ?_
       rintro _ _ _ a w ⟨rfl,rfl,rfl⟩ ab U
       replace U:aB _ (_::_) (_::_::_::_::_::_::_::.blk _ _ ([_,_,_,_,_,_,_].set 1 _)::_) _:=U
       simp only [dd] at U
       replace U:=qM U
       refine ⟨⟨aq,aq,aq,aq,aq,aq,aq,aq,aq,trivial⟩,?_⟩
       exact ev az (lI To JZ (trivial) (ab.sub (L':=[(4,_),(5,_),(11,_),(13,_),(14,_)]) ⟨rfl,rfl,rfl,rfl,rfl,trivial⟩) U)
      rintro a w ⟨To,JZ, -,ab,U⟩
      (try dsimp only at ab U)
      refine ZN _ _<|dM ?_
      refine aG ab U (ai rfl<|ai rfl<|ae (bN rfl)<|ae (aZ gN rfl rfl (s':=0) az)<|ae (bf cw 7 rfl rfl rfl rfl)<|ai rfl<|ah) fun a w ab U=>aJ ab U rfl (eu cw bB rfl rfl bM a8 rfl rfl) ?_
      rintro ajd _ _ a w ⟨rfl,rfl⟩ ab U
      replace U:=rT U
      refine aJ ab U rfl (dH cw bB 7 rfl rfl rfl (eo cw (k:=0) rfl bM) aI rfl a8) ?_
      rintro JW _ _ a w ⟨rfl,rfl⟩ ab U
      replace U:=rT U
      refine aG ab U (ae (bN rfl)<|ae (aZ gN rfl rfl (s':=0) az)<|ah) fun a w ab U=>aJ ab U rfl (dq cw 8 rfl rfl rfl (row_one (U.dp 7 rfl)) (by simp)) ?_
      rintro _ _ _ a w ⟨rfl,rfl,rfl⟩ ab U
      replace U:aB _ (_::_) (_::_::_::_::_::_::_::_::.blk _ _ ([_,_,_,_,_,_,_].set 2 _)::_) _:=U
      simp only [dd] at U
      replace U:=rT U
      refine wpList_nil (Ct _ _ ?_)
      refine bx ab U (ai rfl<|ai rfl<|b5 rfl rfl<|av rfl<|ah) fun a w ab U=>?_
      replace U:=U.ao al (eS)
      refine ⟨(JZ,JW,(acc.1++[((aj.eI (aj.cV S) S.s.length).getD m aj.cv).n],acc.2++[aj.qY (aj.eI (aj.cV S) S.s.length) m i]),m+i),?_,?_,ab.sub ⟨(by first | rfl | (show some (aA _)=some (aA _);congr 2;omega)),rfl,rfl,trivial⟩,?_⟩
      ·(try dsimp only);omega
      ·exact ⟨by omega,⟨n3.add ag vb HI,by simp;omega⟩,by rw [← rM,aj.tM rK,List.drop_drop];unfold aj.pB;rw [qu,if_neg (by simpa using G8)]⟩
      ·(try dsimp only [List.set_cons_zero,List.set_cons_succ])
       rw [List.length_append,List.length_append,List.map_append,List.map_append]
       exact U
     ·refine wp_skip<|Ct _ _<|bx ab U (ai rfl<|ai rfl<|b5 rfl rfl<|av rfl<|ah) fun a w ab U=>?_
      replace U:=U.ao al (c2)
      refine ⟨(un,ut,acc,m+i),?_,?_,ab.sub ⟨(by first | rfl | (show some (aA _)=some (aA _);congr 2;omega)),rfl,rfl,trivial⟩,?_⟩
      ·(try dsimp only);omega
      ·exact ⟨by omega,⟨n3.up ag,sN⟩,by rw [← rM,aj.tM rK,List.drop_drop];unfold aj.pB;rw [qu,if_pos (by simpa using G8)]⟩
      ·exact U
  ·refine wp_exit<|uM _ _<|aD ab U (ai rfl<|av rfl<|av rfl<|ah) fun a w ab U=>wp_ret ?_
   replace U:=(((U.perm qd).perm mX).perm pv).perm qf
   obtain rfl:m=S.s.length:=by omega
   exact cY (rs:=[.tmp 2,.tmp 3]) rfl ab U (vs:=[_,_]) ⟨rfl,rfl,trivial⟩ [] [_,_,_,_,_,_] (c2) al ⟨rfl,ck,_,_,_,_,rfl,rfl,(by rw [aj.Qd rM];exact ⟨_,_,_,aj.TN bC n3 sN,rfl,rfl,rfl,rfl⟩)⟩
end
section
attribute [local irreducible] aL.sum aj.fb aj.aT aj.c0 aj.a7 aj.c3 aj.gi aj.app aj.bW
theorem ahy(va p8:Value)(xs:List (List UInt8))(w:World)(fp:bo Go.aK.encS (cf w) va xs)(fV:bo Go.aK.encS (cf w) p8 xs):cC Tryz.prog 37 [va,p8] w (fun r _ _=>r=.bool true):=by
 have h:=Sg va p8 xs xs w fp fV
 rw [decide_eq_true (rfl:xs=xs)] at h
 exact h
end
section
theorem b2 : ba Tryz.prog 24 (.struct #[⟨ "Tick", 3, 0, false, "", "", 0⟩, ⟨ "Key", 9, 1, false, "", "", 8⟩, ⟨ "Value", 9, 2, false, "", "", 24⟩]) 3 40 (.agg ([Value.int .i64 0] ++ [Value.string ⟨(List.nil : List UInt8).toArray⟩, Value.string ⟨(List.nil : List UInt8).toArray⟩]).toArray) := ⟨Tryz.underlying24, by kernel_rfl⟩
theorem dh:ba Tryz.prog 26 (.slice 24) 1 24 (Value.slice none 0 0):=⟨Tryz.underlying26,by kernel_rfl⟩
theorem A0:ba Tryz.prog 29 (.slice 25) 1 24 (Value.slice none 0 0):=⟨Tryz.underlying29,by kernel_rfl⟩
theorem Yk:b1 Tryz.prog 97:=b6 Tryz.func97
attribute [local irreducible] aF.int aF.bytes aF.getInt aF.dZ
theorem Ns(f:au.bK)(bw:au.j4 f)(w:World):cC Tryz.prog 13 [.agg [aA f.tk,vs f.ky,vs f.vl].toArray] w (fun r _ _=>r=aA (au.valid f)):=by
 refine c4 Tryz.func13 rfl Tryz.ntmps13 b4 fun a ab U=>?_
 have wU:=bw.1
 have Hc:=bw.2.1
 have Hd:=bw.2.2
 refine bc fun eJ c8=>aJ ab U rfl (jV rfl) ?_
 rintro _ _ _ a w ⟨ck,rfl,rfl,rfl⟩ ab U
 refine aG ab U (av rfl<|ah) fun a w ab U=>wpList_nil (c8 _ _ ?_)
 refine ax fun cG bJ=>wp_block ?_
 refine bc fun dX cq=>aG ab U (ae (aZ b2 rfl rfl (s':=0) az)<|ae (bf bH 0 rfl rfl rfl rfl)<|ae (cU rfl rfl)<|ai rfl<|ah) fun a w ab U=>gA 3 7 3 ab U rfl rfl rfl rfl rfl (fun aP=>have aP:=(by first | exact of_decide_eq_false aP | exact aP);aO 7 rfl rfl rfl (aZ b2 rfl rfl (s':=0) az)<|aO 7 rfl rfl rfl (bf bH 0 rfl rfl rfl rfl)<|aO 7 rfl rfl rfl (fc rfl rfl)<|ah) rfl rfl fun a w ab U=>?_
 refine aG ab U (ai rfl<|ah) fun a w ab U=>gA 8 12 3 ab U rfl rfl rfl rfl rfl (fun aP=>have aP:=aP;aO 12 rfl rfl rfl (aZ b2 rfl rfl (s':=0) az)<|aO 12 rfl rfl rfl (bf bB 0 rfl rfl rfl rfl)<|aO 12 rfl rfl rfl (xu (q:=[]) rfl rfl)<|ah) rfl rfl fun a w ab U=>?_
 refine aG ab U (av rfl<|ah) fun a w ab U=>wpList_nil (cq _ _ ?_)
 refine df ab rfl (fun aU=>?_) (fun aU=>?_)
 ·(try simp only [dj] at aU)
  refine aD ab U (av rfl<|ah) fun a w ab U=>wp_ret ?_
  exact b0 (rs:=[.tmp 2]) rfl ab U (vs:=[_]) ⟨rfl,trivial⟩ ay ay (by rw [au.J1 aU])
 ·(try simp only [dj] at aU)
  refine bc fun dL b9=>aG ab U (ae (aZ b2 rfl rfl (s':=0) az)<|ae (bf bB 0 rfl rfl rfl rfl)<|ae (hZ bB rfl)<|ae (fc rfl rfl)<|ai rfl<|ah) fun a w ab U=>gA 4 22 4 ab U rfl rfl rfl rfl rfl (fun aP=>have aP:=(by first | exact of_decide_eq_false aP | exact aP);aO 22 rfl rfl rfl (aZ b2 rfl rfl (s':=0) az)<|aO 22 rfl rfl rfl (bf bB 0 rfl rfl rfl rfl)<|aO 22 rfl rfl rfl (hZ bB rfl)<|aO 22 rfl rfl rfl (fc rfl rfl)<|ah) rfl rfl fun a w ab U=>?_
  refine aG ab U (av rfl<|ah) fun a w ab U=>wpList_nil (b9 _ _ ?_)
  refine df ab rfl (fun bz=>?_) (fun bz=>?_)
  ·(try simp only [dj] at bz)
   refine aD ab U (av rfl<|ah) fun a w ab U=>wp_ret ?_
   exact b0 (rs:=[.tmp 2]) rfl ab U (vs:=[_]) ⟨rfl,trivial⟩ ay ay (by rw [au.J2 (au.vS aU) ag])
  ·(try simp only [dj] at bz)
   refine wp_skip<|bJ _ _<|aD ab U (av rfl<|ah) fun a w ab U=>wp_ret ?_
   exact b0 (rs:=[.tmp 2]) rfl ab U (vs:=[_]) ⟨rfl,trivial⟩ ay ay (by rw [au.J3 (au.vS aU) ag])
theorem RK(f:au.bK)(bw:au.j4 f)(w:World):cC Tryz.prog 14 [.agg [aA f.tk,vs f.ky,vs f.vl].toArray] w (fun r _ _=>r=aA (au.valid f)):=by
 refine c4 Tryz.func14 rfl Tryz.ntmps14 b4 fun a ab U=>?_
 have wU:=bw.1
 have Hc:=bw.2.1
 have Hd:=bw.2.2
 refine bc fun eJ c8=>aJ ab U rfl (jV rfl) ?_
 rintro _ _ _ a w ⟨ck,rfl,rfl,rfl⟩ ab U
 refine aG ab U (av rfl<|ah) fun a w ab U=>wpList_nil (c8 _ _ ?_)
 refine ax fun cG bJ=>bc fun dX cq=>aG ab U (ae (aZ b2 rfl rfl (s':=0) az)<|ae (bf bH 0 rfl rfl rfl rfl)<|ae (cU rfl rfl)<|ai rfl<|ah) fun a w ab U=>gA 3 6 3 ab U rfl rfl rfl rfl rfl (fun aP=>have aP:=(by first | exact of_decide_eq_false aP | exact aP);aO 6 rfl rfl rfl (aZ b2 rfl rfl (s':=0) az)<|aO 6 rfl rfl rfl (bf bH 0 rfl rfl rfl rfl)<|aO 6 rfl rfl rfl (fc rfl rfl)<|ah) rfl rfl fun a w ab U=>?_
 refine aG ab U (ai rfl<|ah) fun a w ab U=>gA 8 11 4 ab U rfl rfl rfl rfl rfl (fun aP=>have aP:=aP;aO 11 rfl rfl rfl (aZ b2 rfl rfl (s':=0) az)<|aO 11 rfl rfl rfl (bf bB 0 rfl rfl rfl rfl)<|aO 11 rfl rfl rfl (hZ bB rfl)<|aO 11 rfl rfl rfl (gq rfl rfl)<|ah) rfl rfl fun a w ab U=>?_
 refine wpList_nil (cq _ _ ?_)
 refine df ab rfl (fun aU=>?_) (fun aU=>?_)
 ·(try simp only [dj] at aU)
  refine aD ab U (av rfl<|ah) fun a w ab U=>wp_ret ?_
  exact b0 (rs:=[.tmp 2]) rfl ab U (vs:=[_]) ⟨rfl,trivial⟩ ay ay (by rw [au.J1 (by rw [au.J4] at aU;exact aU)])
 ·(try simp only [dj] at aU)
  refine wp_skip<|bJ _ _<|ax fun dL b9=>bc fun eN cK=>aG ab U (ae (aZ b2 rfl rfl (s':=0) az)<|ae (bf bB 0 rfl rfl rfl rfl)<|ae (hZ bB rfl)<|ae (fc rfl rfl)<|ai rfl<|ah) fun a w ab U=>?_
  refine gA 4 21 4 ab U rfl rfl rfl rfl rfl (fun aP=>have aP:=(by first | exact of_decide_eq_false aP | exact aP);aO 21 rfl rfl rfl (aZ b2 rfl rfl (s':=0) az)<|aO 21 rfl rfl rfl (bf bB 0 rfl rfl rfl rfl)<|aO 21 rfl rfl rfl (hZ bB rfl)<|aO 21 rfl rfl rfl (fc rfl rfl)<|ah) rfl rfl fun a w ab U=>?_
  refine wpList_nil (cK _ _ ?_)
  refine df ab rfl (fun bz=>?_) (fun bz=>?_)
  ·(try simp only [dj] at bz)
   refine aD ab U (av rfl<|ah) fun a w ab U=>wp_ret ?_
   exact b0 (rs:=[.tmp 2]) rfl ab U (vs:=[_]) ⟨rfl,trivial⟩ ay ay (by rw [au.J2 (au.vS (by rw [au.J4] at aU;exact aU)) ag])
  ·(try simp only [dj] at bz)
   refine wp_skip<|b9 _ _<|aD ab U (av rfl<|ah) fun a w ab U=>wp_ret ?_
   exact b0 (rs:=[.tmp 2]) rfl ab U (vs:=[_]) ⟨rfl,trivial⟩ ay ay (by rw [au.J3 (au.vS (by rw [au.J4] at aU;exact aU)) ag])
theorem agR(f:au.bK)(bw:au.j4 f)(hs:f.ky.length≤1048576∧f.vl.length≤1048576)(w:World):cC Tryz.prog 12 [.agg [aA f.tk,vs f.ky,vs f.vl].toArray] w (fun v zs hs=>zs=[]∧hs=[.row v 5 1 (au.enc f).length ((au.enc f).map bn)]):=by
 refine c4 Tryz.func12 rfl Tryz.ntmps12 b4 fun a ab U=>?_
 have wU:=bw.1
 have oU:=aF.oo f.tk
 have oW:=aF.su f.ky
 have HV:=aF.su f.vl
 refine bc fun eJ c8=>aJ ab U rfl (jV rfl) ?_
 rintro _ _ _ a w ⟨ck,rfl,rfl,rfl⟩ ab U
 refine aG ab U (av rfl<|ah) fun a w ab U=>wpList_nil (c8 _ _ ?_)
 refine ax fun cG bJ=>?_
 revert U;revert ab;apply hL (J:=yn (α0:=Value) (α1:=Value) (α2:=Value) (α3:=Value) (α4:=Value) 14 _ _ _ _ _) #[false,false,false,false,false,false,false,false,false,false,false,false] 12 mixed rfl rfl
 ·intro w ab U
  refine aS 0 rfl ab (U.ao al ay) (aZ b2 rfl rfl (s':=0) az) fun a ab=>aS 1 rfl ab (U.ao al al) (bf bH 0 rfl rfl rfl rfl) fun a ab=>aS 3 rfl ab (U.ao al ay) (aZ b2 rfl rfl (s':=0) az) fun a ab=>aS 4 rfl ab (U.ao al al) (bf bB 0 rfl rfl rfl rfl) fun a ab=>aS 7 rfl ab (U.ao al ay) (aZ b2 rfl rfl (s':=0) az) fun a ab=>?_
  refine aS 8 rfl ab (U.ao al al) (bf bB 0 rfl rfl rfl rfl) fun a ab=>bY 2 rfl rfl ab U rfl (eT Cc rfl (fun w U=>DU _ ag w )) ?_
  rintro A6 _ _ a w ⟨_,_,rfl,rfl,rfl,rfl⟩ ab U
  refine ⟨⟨.inr (U.ew (c2)),.inr U.ax,.inr (U.ew (c2)),.inr U.ax,aq,aq,trivial⟩,?_⟩
  refine bY 5 rfl rfl ab U rfl (eT F7 rfl (fun w U=>I7 _ (by first | with_reducible assumption | omega) w )) ?_
  rintro A7 _ _ a w ⟨_,_,rfl,rfl,rfl,rfl⟩ ab U
  refine ⟨⟨.inr (U.ew (fO)),.inr U.ax,aq,aq,aq,aq,trivial⟩,?_⟩
  refine bY 6 rfl rfl ab U rfl (dH bX bI 1 rfl rfl rfl (eo bX (k:=0) rfl bM) aI rfl a8) ?_
  rintro Tk _ _ a w ⟨rfl,rfl⟩ ab U
  refine ⟨⟨.inr (U.ew (fO)),.inr U.ax,aq,aq,aq,aq,trivial⟩,?_⟩
  refine bY 9 rfl rfl ab U rfl (eT F7 rfl (fun w U=>I7 _ (by first | with_reducible assumption | omega) w )) ?_
  rintro A8 _ _ a w ⟨_,_,rfl,rfl,rfl,rfl⟩ ab U
  refine ⟨⟨aq,aq,aq,aq,aq,aq,trivial⟩,?_⟩
  refine bY 10 rfl rfl ab U rfl (dH bX bI 2 rfl rfl rfl (eo bX (k:=0) rfl bM) aI rfl a8) ?_
  rintro A5 _ _ a w ⟨rfl,rfl⟩ ab U
  refine ⟨⟨aq,aq,aq,aq,aq,aq,trivial⟩,?_⟩
  refine aS 11 rfl ab (U.ao al ay) (kS rfl) fun a ab=>ev az (xc A6 A7 Tk A8 A5 (trivial) (ab.sub (L':=[(2,_)]) ⟨rfl,trivial⟩) U)
 rintro a w ⟨A6,A7,Tk,A8,A5, -,ab,U⟩
 (try dsimp only at ab U)
 refine bJ _ _<|wp_ret ?_
 replace U:=U.perm nV
 rw [← List.map_append,← List.map_append,← List.length_append,← List.length_append] at U
 exact b0 (rs:=[.tmp 2]) rfl ab U (vs:=[_]) ⟨rfl,trivial⟩ ay ((ay.k)) ⟨rfl,rfl⟩
theorem ahw(v1 v2:Value)(xa xb:List au.bK)(w:World)(fp:bo Go.aK.hW (cf w) v1 xa)(fV:bo Go.aK.hW (cf w) v2 xb):cC Tryz.prog 32 [v1,v2] w (fun r _ _=>r=.bool (decide (xa=xb))):=by
 refine c4 Tryz.func32 rfl Tryz.ntmps32 b4 fun a ab U=>?_
 have Oa:=fp.1
 have u3:=fV.1
 refine aD ab U (av rfl<|ah) fun a w ab U=>ax fun cG bJ=>aD ab U (ai rfl<|ae (ee dh fp rfl)<|ai rfl<|ae (ee dh fV rfl)<|ae (dS rfl rfl)<|ah) fun a w ab U=>e9 ab rfl (fun aU=>?_) (fun aU=>?_)
 ·refine ax fun et cB=>bx ab U (av rfl<|ah) fun a w ab U=>cB _ _ ?_
  refine wp_ret<|b0 (rs:=[.tmp 4]) rfl ab U (vs:=[_]) ⟨rfl,trivial⟩ ay ay (ja.Jq aU)
 ·refine wp_skip<|bJ _ _<|ax fun dL b9=>aD ab U (av rfl<|ah) fun a w ab U=>wp_block ?_
  obtain ⟨bG,a6,U⟩:=U.c1
  refine dy (γ:=Int) (0) (fun (i:Int)=>[(5,aA i)]) [(0,_),(1,_)] (fun (i:Int)=>bG) (fun (i:Int)=>0≤i∧i≤xa.length∧xa.take i.toNat=xb.take i.toNat) (fun (i:Int)=>(xa.length-i).toNat) (ab.sub ⟨rfl,rfl,rfl,trivial⟩) (by subst a6;exact U) (by exact ⟨Int.le_refl _,by omega,rfl⟩) ?_
  rintro i a w bh ab U
  subst a6;(try dsimp only at bh ab U)
  obtain ⟨eL,kI,lH⟩:=bh
  replace U:=ic U
  refine ax fun fa cT=>aD ab U (ai rfl<|ai rfl<|ae (ee dh fp rfl)<|ae (cU rfl rfl)<|ah) fun a w ab U=>cn ab rfl (fun bz=>?_) (fun bz=>?_)
  ·have sU:i<xb.length:=by omega
   refine wp_skip<|cT _ _<|ax fun gB du=>wp_block ?_
   refine iE mixed az ab U (ai rfl<|ai rfl<|ae (dV dh b2 fp rfl rfl ag)<|ae (DI b2 fp cM rfl rfl ag)<|ai rfl<|ai rfl<|ae (dV dh b2 fV rfl rfl ag)<|ae (DI b2 fV cM rfl rfl ag)<|ae (afX b2 bH bB ⟨rfl,rfl,by decide⟩ ⟨rfl,rfl,by decide⟩ ⟨rfl,rfl,by decide⟩ az az rfl rfl)<|ah) fun a w ab U=>e9 ab rfl (fun cl=>?_) (fun cl=>?_)
   ·refine ax fun ho dK=>bx ab U (av rfl<|ah) fun a w ab U=>dK _ _ ?_
    refine wp_ret<|b0 (rs:=[.tmp 4]) rfl ab U (vs:=[_]) ⟨rfl,trivial⟩ ay ay (ja.Jr au.f0 cl)
   ·refine wp_skip<|du _ _<|bx ab U (ai rfl<|b5 rfl rfl<|av rfl<|ah) fun a w ab U=>⟨(i+1),?_,?_,ab.sub ⟨rfl,rfl,rfl,trivial⟩,?_⟩
    ·(try dsimp only);omega
    ·refine ⟨by omega,by omega,ja.Js au.f0 eL ag aU cl lH⟩
    ·exact U
  ·refine wp_exit<|b9 _ _<|aD ab U (av rfl<|ah) fun a w ab U=>wp_ret ?_
   exact b0 (rs:=[.tmp 4]) rfl ab U (vs:=[_]) ⟨rfl,trivial⟩ ay ay (ja.Jp aU bz lH)
theorem Y5(n:Nat)(bD:n≤140737488355328)(w:World):cC Tryz.prog 97 [.slice none 0 0,aA (n:Int)] w (fun v zs hs=>zs=[]∧hs=[.row v 5 1 0 []]):=Y7 ac4 bI rfl n bD w
theorem V4(v:Value)(xs:List (List UInt8))(hl:xs.length≤4)(aM:∀ x∈xs,x.length≤1099511627776)(w:World)(aw:bo (wy hc) (cf w) v xs):cC Tryz.prog 56 [v] w (fun v zs hs=>zs=[]∧hs=[.row v 5 1 (xs.flatten).length ((xs.flatten).map bn)]):=by
 refine c4 Tryz.func56 rfl Tryz.ntmps56 b4 fun a ab U=>?_
 have c6:=aw.1
 have fE:=au.Fs aM
 refine aD ab U (av rfl<|ah) fun a w ab U=>aD ab U (av rfl<|ah) fun a w ab U=>ax fun dX cq=>aD ab U (ai rfl<|ae (ee A0 aw rfl)<|ai rfl<|ah) fun a w ab U=>wp_block ?_
 obtain ⟨bG,a6,U⟩:=U.c1
 refine dy (γ:=Nat) (0) (fun (k:Nat)=>[(3,aA ((xs.take k).flatten.length:Int)),(11,aA (k:Int))]) [(0,_),(9,_),(10,_)] (fun (k:Nat)=>bG) (fun (k:Nat)=>k≤xs.length) (fun (k:Nat)=>xs.length-k) (ab.sub ⟨rfl,rfl,rfl,rfl,rfl,trivial⟩) (by subst a6;exact U) (by exact Nat.zero_le _) ?_
 rintro k a w bh ab U
 subst a6;(try dsimp only at bh ab U)
 have l5:=bh
 replace U:=ic U
 have NY:=fE k
 refine aD ab U (ae (cU rfl rfl)<|ah) fun a w ab U=>ax fun eN cK=>cn ab rfl (fun aU=>?_) (fun aU=>?_)
 ·have CU:(List.take (k+1) xs).flatten.length=(List.take k xs).flatten.length+(xs.getD (k:Int).toNat []).length:=by rw [Int.toNat_natCast,au.yN ag,List.length_append]
  have amf:=fE (k+1)
  refine wp_skip<|cK _ _<|ax fun fa cT=>wp_block ?_
  refine aD ab U (ae (dV A0 bX aw rfl rfl ag)<|ae (QP bX aw cM rfl rfl ag)<|av rfl<|ah) fun a w ab U=>aD ab U (ai rfl<|ai rfl<|ae (ee bX (Mb aw ag) rfl)<|b5 rfl rfl<|av rfl<|ah) fun a w ab U=>aD ab U (ai rfl<|ae (cU rfl rfl)<|ah) fun a w ab U=>cn ab rfl (fun bz=>?_) (fun bz=>?_)
  ·exfalso;omega
  ·refine wp_skip<|cT _ _<|bx ab U (b5 rfl rfl<|ai rfl<|ah) fun a w ab U=>⟨(k+1),?_,?_,ab.sub ⟨(by show some (aA _)=some (aA _);rw [au.yN ag,List.length_append,Int.toNat_natCast];congr 2),rfl,rfl,rfl,rfl,trivial⟩,?_⟩
   ·(try dsimp only);omega
   ·omega
   ·exact U
 ·refine wp_exit<|cq _ _<|bc fun ho dK=>aG ab U (ai rfl<|ah) fun a w ab U=>aJ ab U rfl (eT Yk rfl (fun w U=>Y5 _ ag w )) ?_
  rintro v1 _ _ a w ⟨_,_,rfl,rfl,rfl,rfl⟩ ab U
  replace U:=ft U
  refine aG ab U (av rfl<|ah) fun a w ab U=>wpList_nil (dK _ _ ?_)
  refine ax fun iZ eY=>aD ab U (ai rfl<|ae (ee A0 aw rfl)<|ai rfl<|ah) fun a w ab U=>wp_block ?_
  obtain ⟨bG,a6,U⟩:=U.c1
  refine dy (γ:=Value×Nat) (v1,0) (fun (u,j)=>[(6,u),(27,aA (j:Int))]) [(25,_),(26,_)] (fun (u,j)=>(bG.set 0 (.row u 5 1 (xs.take j).flatten.length ((xs.take j).flatten.map bn)))) (fun (u,j)=>j≤xs.length) (fun (u,j)=>xs.length-j) (ab.sub ⟨rfl,rfl,rfl,rfl,trivial⟩) (by subst a6;exact U) (by exact Nat.zero_le _) ?_
  rintro ⟨u,j⟩ a w bh ab U
  subst a6;(try dsimp only at bh ab U)
  have sX:=bh
  replace U:=ft U
  have amd:=fE j
  refine aD ab U (ae (cU rfl rfl)<|ah) fun a w ab U=>ax fun j5 fC=>cn ab rfl (fun cl=>?_) (fun cl=>?_)
  ·have HM:(List.take (j+1) xs).flatten.length=(List.take j xs).flatten.length+(xs.getD (j:Int).toNat []).length:=by rw [Int.toNat_natCast,au.yN ag,List.length_append]
   have ame:=fE (j+1)
   refine wp_skip<|fC _ _<|ax fun mw hz=>wp_block ?_
   refine aD ab U (ae (dV A0 bX aw rfl rfl ag)<|ae (QP bX aw cM rfl rfl ag)<|av rfl<|ah) fun a w ab U=>dM ?_
   refine aG ab U (ai rfl<|ai rfl<|ah) fun a w ab U=>aJ ab U rfl (dH bX bI 0 rfl rfl rfl (D4 bX (Mb aw ag) cM) aI rfl a8) ?_
   rintro v3 _ _ a w ⟨rfl,rfl⟩ ab U
   replace U:=ft U
   refine aG ab U (av rfl<|ah) fun a w ab U=>wpList_nil (hz _ _ ?_)
   refine bx ab U (b5 rfl rfl<|ai rfl<|ah) fun a w ab U=>⟨(v3,j+1),?_,?_,ab.sub ⟨rfl,rfl,rfl,rfl,trivial⟩,?_⟩
   ·(try dsimp only);omega
   ·omega
   ·rw [← List.map_append,← List.length_append,Int.toNat_natCast,← au.yN ag] at U
    exact U
  ·refine wp_exit<|eY _ _<|aD ab U (ai rfl<|av rfl<|ah) fun a w ab U=>wp_ret ?_
   obtain rfl:j=xs.length:=by omega
   rw [List.take_length] at U
   exact b0 (rs:=[.tmp 2]) rfl ab U (vs:=[_]) ⟨rfl,trivial⟩ ay al ⟨rfl,rfl⟩
end
end Go.Proofs.YtngcjojijaknnaaGreatDoor
