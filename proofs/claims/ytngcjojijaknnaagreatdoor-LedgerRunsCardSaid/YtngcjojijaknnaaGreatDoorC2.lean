/- walks and plain laws -/
import Derived.Test.YtngcjojijaknnaaGreatDoorFwD
import Derived.Test.YtngcjojijaknnaaGreatDoorJnA
import Derived.Test.YtngcjojijaknnaaGreatDoorFwG
import Derived.Test.YtngcjojijaknnaaGreatDoorC1
import Derived.Test.YtngcjojijaknnaaGreatDoorFwB
set_option linter.all false
namespace Go.Proofs.YtngcjojijaknnaaGreatDoor
open Go.aJ
set_option maxRecDepth 4000
set_option maxHeartbeats 2000000
section
attribute [local irreducible] aK.sum
theorem D5(n:Int)(bA : -9223372036854775808≤n∧n≤9223372036854775807)(w:World):ch Tryz.prog 27 [az n] w (fun r _ _=>r=az (aj.bh n)):=by
 refine cI Tryz.func27 rfl Tryz.ntmps27 (Nat.le_of_ble_eq_true rfl) fun a ab U=>aB ab U (ar rfl<|ah) fun a w ab U=>ax fun cm bD=>a8 fun dH cf=>aE ab U (ai rfl<|ag (cK rfl rfl)<|ai rfl<|ah) fun a w ab U=>?_
 refine fS 2 5 2 ab U rfl rfl rfl rfl rfl (fun aO=>have aO:=(by first | exact of_decide_eq_false aO | exact aO);aN 5 rfl rfl rfl (bE rfl)<|aN 5 rfl rfl rfl (eQ rfl rfl)<|ah) rfl rfl fun a w ab U=>?_
 refine wpList_nil (cf _ _ ?_)
 refine cX ab rfl (fun aS=>?_) (fun aS=>?_)
 ·(try simp only [c2] at aS)
  refine aB ab U (ar rfl<|ah) fun a w ab U=>wp_ret ?_
  exact bR (rs:=[.tmp 2]) rfl ab U (vs:=[_]) ⟨rfl,trivial⟩ ay ay (by rw [aj.xy (by omega)])
 ·(try simp only [c2] at aS)
  refine wp_skip<|bD _ _<|aB ab U (ai rfl<|bX rfl rfl<|e2 rfl rfl<|ag (nL rfl rfl (by omega))<|ag (sj rfl rfl)<|ar rfl<|ah) fun a w ab U=>wp_ret ?_
  exact bR (rs:=[.tmp 2]) rfl ab U (vs:=[_]) ⟨rfl,trivial⟩ ay ay (by rw [aj.TN (by omega)])
theorem Gz(n:Int)(bA : -9223372036854775808≤n∧n≤9223372036854775807)(w:World):ch Tryz.prog 128 [az n] w (fun r _ _=>r=az (aj.bh n)):=by
 refine cI Tryz.func128 rfl Tryz.ntmps128 (Nat.le_of_ble_eq_true rfl) fun a ab U=>aB ab U (ar rfl<|ah) fun a w ab U=>ax fun cm bD=>a8 fun dH cf=>aE ab U (ai rfl<|ag (cK rfl rfl)<|ai rfl<|ah) fun a w ab U=>?_
 refine fS 2 5 2 ab U rfl rfl rfl rfl rfl (fun aO=>have aO:=(by first | exact of_decide_eq_false aO | exact aO);aN 5 rfl rfl rfl (bE rfl)<|aN 5 rfl rfl rfl (eQ rfl rfl)<|ah) rfl rfl fun a w ab U=>?_
 refine wpList_nil (cf _ _ ?_)
 refine cX ab rfl (fun aS=>?_) (fun aS=>?_)
 ·(try simp only [c2] at aS)
  refine aB ab U (ar rfl<|ah) fun a w ab U=>wp_ret ?_
  exact bR (rs:=[.tmp 2]) rfl ab U (vs:=[_]) ⟨rfl,trivial⟩ ay ay (by rw [aj.xy (by omega)])
 ·(try simp only [c2] at aS)
  refine wp_skip<|bD _ _<|ax fun dw b3=>aB ab U (ai rfl<|ag (fc rfl rfl)<|ah) fun a w ab U=>b9 ab rfl (fun bs=>?_) (fun bs=>?_)
  ·refine ax fun eU cO=>bq ab U (ar rfl<|ah) fun a w ab U=>cO _ _ ?_
   refine wp_ret<|bR (rs:=[.tmp 2]) rfl ab U (vs:=[_]) ⟨rfl,trivial⟩ ay ay (by rw [bs,aj.TO])
  ·refine wp_skip<|b3 _ _<|aB ab U (ai rfl<|bX rfl rfl<|ag (nL rfl rfl (by omega))<|ar rfl<|ah) fun a w ab U=>wp_ret ?_
   exact bR (rs:=[.tmp 2]) rfl ab U (vs:=[_]) ⟨rfl,trivial⟩ ay ay (by rw [aj.D2 (by omega)])
theorem HX(n m:Nat)(bA:n<9223372036854775808)(hm:m≤8)(w:World):ch Tryz.prog 160 [az (n:Int),az (m:Int)] w (fun v zs hs=>zs=[]∧hs=[.row v 5 1 m ((aj.cU n m).map bf)]):=by
 refine cI Tryz.func160 rfl Tryz.ntmps160 (Nat.le_of_ble_eq_true rfl) fun a ab U=>aB ab U (ar rfl<|ah) fun a w ab U=>ax fun cm bD=>bq ab U (ar rfl<|ah) fun a w ab U=>?_
 replace U:=U.hV 5 1
 refine bD _ _<|ax fun dH cf=>aB ab U (ar rfl<|ah) fun a w ab U=>wp_block ?_
 obtain ⟨bC,aZ,U⟩:=U.cT
 refine df (γ:=Value×Nat) ((Value.slice none 0 0),0) (fun (u,k)=>[(0,az (aj.pC n k:Int)),(5,u),(6,az (k:Int))]) [(1,_)] (fun (u,k)=>(bC.set 0 (.row u 5 1 k ((aj.cU n k).map bf)))) (fun (u,k)=>k≤m) (fun (u,k)=>m-k) (ab.sub ⟨(by show some (az _)=some (az _);rw [aj.Kl]),rfl,rfl,rfl,trivial⟩) (by subst aZ;exact U) (by exact Nat.zero_le _) ?_
 rintro ⟨u,k⟩ a w ba ab U
 subst aZ;(try dsimp only at ba ab U)
 have kD:=ba
 replace U:=eJ U
 have rO:=aj.Km n k
 refine ax fun dw b3=>aB ab U (ai rfl<|ai rfl<|ag (cK rfl rfl)<|ah) fun a w ab U=>b9 ab rfl (fun aS=>?_) (fun aS=>?_)
 ·refine wp_skip<|b3 _ _<|ax fun eU cO=>wp_block ?_
  refine a8 fun e1 cF=>aE ab U (ai rfl<|ai rfl<|ag (mI rfl rfl (by omega))<|ag (qW bG bF rfl)<|ah) fun a w ab U=>aH ab U rfl (dX bS bF rfl rfl bJ (by decide) rfl rfl) ?_
  rintro v2 _ _ a w ⟨rfl,rfl⟩ ab U
  replace U:=eK U
  refine aH ab U rfl (dB bS bF 1 rfl rfl rfl (eA bS (k:=0) rfl bJ) aI rfl (by decide)) ?_
  rintro v4 _ _ a w ⟨rfl,rfl⟩ ab U
  replace U:=eK U
  refine aE ab U (ar rfl<|ah) fun a w ab U=>wpList_nil (cF _ _ ?_)
  refine bq ab U (ai rfl<|ag (nL rfl rfl (by omega))<|ar rfl<|ah) fun a w ab U=>cO _ _ ?_
  refine bq ab U (ai rfl<|bX rfl rfl<|ar rfl<|ah) fun a w ab U=>?_
  replace U:=U.ak ay (ae.n)
  refine ⟨(v4,k+1),?_,?_,ab.sub ⟨(by show some (az _)=some (az _);rw [← aj.Kn]),rfl,rfl,rfl,trivial⟩,?_⟩
  ·(try dsimp only);omega
  ·omega
  ·rw [aj.aaZ] at U
   exact U
 ·refine wp_exit<|cf _ _<|aB ab U (ai rfl<|ar rfl<|ah) fun a w ab U=>wp_ret ?_
  obtain rfl:m=k:=by omega
  exact bR (rs:=[.tmp 4]) rfl ab U (vs:=[_]) ⟨rfl,trivial⟩ ae ae ⟨rfl,rfl⟩
theorem qT(s:List UInt8)(Zv:s.length≤4)(w:World):ch Tryz.prog 137 [vs s] w (fun r _ _=>r=az (aj.eb s:Int)):=by
 refine cI Tryz.func137 rfl Tryz.ntmps137 (Nat.le_of_ble_eq_true rfl) fun a ab U=>aB ab U (ar rfl<|ah) fun a w ab U=>aB ab U (ar rfl<|ah) fun a w ab U=>ax fun dH cf=>aB ab U (ai rfl<|ag (hB bz rfl)<|e2 rfl rfl<|ar rfl<|ah) fun a w ab U=>?_
 refine wp_block ?_
 obtain ⟨bC,aZ,U⟩:=U.cT
 refine df (γ:=Nat) (s.length) (fun (k:Nat)=>[(3,az (aj.eb (s.drop k):Int)),(4,az ((k:Int)-1))]) [(0,_)] (fun (k:Nat)=>bC) (fun (k:Nat)=>k≤s.length) (fun (k:Nat)=>k) (ab.sub ⟨(by show some (az _)=some (az _);rw [aj.GS];rfl),rfl,rfl,trivial⟩) (by subst aZ;exact U) (by exact Nat.le_refl _) ?_
 rintro k a w ba ab U
 subst aZ;(try dsimp only at ba ab U)
 have kD:=ba
 replace U:=hM U
 have Bg:=aj.BY Zv k
 have ajJ:=(s.getD ((k:Int)-1).toNat 0).toNat_lt
 refine ax fun dw b3=>aB ab U (ai rfl<|ag (jH rfl rfl)<|ah) fun a w ab U=>b9 ab rfl (fun aS=>?_) (fun aS=>?_)
 ·refine wp_skip<|b3 _ _<|ax fun eU cO=>wp_block ?_
  refine bq ab U (ai rfl<|ag (hd rfl rfl (by omega))<|ai rfl<|ai rfl<|ag (Ch bz rfl rfl (by omega))<|ag (yS bF bG rfl)<|bX rfl rfl<|ar rfl<|ah) fun a w ab U=>cO _ _ ?_
  refine bq ab U (ai rfl<|e2 rfl rfl<|ar rfl<|ah) fun a w ab U=>⟨(k-1),?_,?_,ab.sub ⟨(by show some (az _)=some (az _);rw [aj.NY (k:=k-1) (by omega),show k-1+1=k by omega,show ((k:Int)-1).toNat=k-1 by omega];congr 2),(by show some (az _)=some (az _);congr 2;omega),rfl,trivial⟩,?_⟩
  ·(try dsimp only);omega
  ·omega
  ·exact U
 ·refine wp_exit<|cf _ _<|aB ab U (ai rfl<|ar rfl<|ah) fun a w ab U=>wp_ret ?_
  exact bR (rs:=[.tmp 2]) rfl ab U (vs:=[_]) ⟨rfl,trivial⟩ ay ay (by rw [show k=0 by omega,List.drop_zero])
theorem S8(s:List UInt8)(Zw:s.length=64)(w:World):ch Tryz.prog 165 [vs s] w (fun r _ _=>r=.bool (decide (s=aj.z64))):=by
 refine cI Tryz.func165 rfl Tryz.ntmps165 (Nat.le_of_ble_eq_true rfl) fun a ab U=>aB ab U (ar rfl<|ah) fun a w ab U=>ax fun cm bD=>aB ab U (ar rfl<|ah) fun a w ab U=>wp_block ?_
 obtain ⟨bC,aZ,U⟩:=U.cT
 refine df (γ:=Nat) (0) (fun (k:Nat)=>[(3,az (k:Int))]) [(0,_)] (fun (k:Nat)=>bC) (fun (k:Nat)=>k≤64∧∀ j,j<k→s.getD j 0=0) (fun (k:Nat)=>64-k) (ab.sub ⟨rfl,rfl,trivial⟩) (by subst aZ;exact U) (by exact ⟨Nat.zero_le _,fun j a6=>absurd a6 (Nat.not_lt_zero _)⟩) ?_
 rintro k a w ba ab U
 subst aZ;(try dsimp only at ba ab U)
 obtain ⟨kD,bj⟩:=ba
 replace U:=hM U
 refine ax fun dP cq=>aB ab U (ai rfl<|ai rfl<|ag (hB bz rfl)<|ag (cK rfl rfl)<|ah) fun a w ab U=>b9 ab rfl (fun aS=>?_) (fun aS=>?_)
 ·refine wp_skip<|cq _ _<|ax fun et cz=>wp_block ?_
  refine aB ab U (ai rfl<|ai rfl<|ag (Ch bz rfl rfl (by omega))<|ag (Hj (q:=0) rfl rfl)<|ah) fun a w ab U=>eP ab rfl (fun bs=>?_) (fun bs=>?_)
  ·refine ax fun e1 cF=>bq ab U (ar rfl<|ah) fun a w ab U=>cF _ _ ?_
   refine wp_ret<|bR (rs:=[.tmp 2]) rfl ab U (vs:=[_]) ⟨rfl,trivial⟩ ay ay (by rw [decide_eq_false (aj.ahE (by simpa using bs))])
  ·refine wp_skip<|cz _ _<|bq ab U (ai rfl<|bX rfl rfl<|ar rfl<|ah) fun a w ab U=>⟨(k+1),?_,?_,ab.sub ⟨rfl,rfl,trivial⟩,?_⟩
   ·(try dsimp only);omega
   ·exact ⟨by omega,aj.ahF bj (by simpa using bs)⟩
   ·exact U
 ·refine wp_exit<|bD _ _<|aB ab U (ar rfl<|ah) fun a w ab U=>wp_ret ?_
  exact bR (rs:=[.tmp 2]) rfl ab U (vs:=[_]) ⟨rfl,trivial⟩ ay ay (by rw [decide_eq_true (aj.ahD (fun j a6=>bj j (by omega)) Zw)])
theorem JK(v u:Value)(xs ys:List UInt8)(w:World)(au:bg gE (b1 w) v xs)(gu:bg gE (b1 w) u ys):ch Tryz.prog 103 [v,u] w (fun r _ _=>r=.bool (decide (xs=ys))):=by
 refine cI Tryz.func103 rfl Tryz.ntmps103 (Nat.le_of_ble_eq_true rfl) fun a ab U=>?_
 have cZ:=au.1
 have ajG:=gu.1
 refine aB ab U (ar rfl<|ah) fun a w ab U=>aB ab U (ai rfl<|ag (sa bS bz bF au cD rfl)<|ai rfl<|ag (sa bS bz bF gu cD rfl)<|ag (vX rfl rfl)<|ar rfl<|ah) fun a w ab U=>wp_ret ?_
 exact bR (rs:=[.tmp 4]) rfl ab U (vs:=[_]) ⟨rfl,trivial⟩ ay ay (rfl)
theorem XV(v:Value)(xs:List Int)(n:Int)(w:World)(au:bg Go.aJ.encI (b1 w) v xs):ch Tryz.prog 166 [v,az n] w (fun r _ _=>r=.bool (decide (n∈xs))):=by
 refine cI Tryz.func166 rfl Tryz.ntmps166 (Nat.le_of_ble_eq_true rfl) fun a ab U=>?_
 have cZ:=au.1
 refine aB ab U (ar rfl<|ah) fun a w ab U=>ax fun cm bD=>aB ab U (ar rfl<|ah) fun a w ab U=>wp_block ?_
 obtain ⟨bC,aZ,U⟩:=U.cT
 refine df (γ:=Int) (0) (fun (i:Int)=>[(5,az i)]) [(0,_),(1,_)] (fun (i:Int)=>bC) (fun (i:Int)=>0≤i∧i≤xs.length∧∀ j,j<i.toNat→xs.getD j 0≠n) (fun (i:Int)=>(xs.length-i).toNat) (ab.sub ⟨rfl,rfl,rfl,trivial⟩) (by subst aZ;exact U) (by exact ⟨Int.le_refl _,by omega,fun j a6=>absurd a6 (by simp)⟩) ?_
 rintro i a w ba ab U
 subst aZ;(try dsimp only at ba ab U)
 obtain ⟨eu,j8,il⟩:=ba
 replace U:=hM U
 refine ax fun dP cq=>aB ab U (ai rfl<|ai rfl<|ag (dL c5 au rfl)<|ag (cK rfl rfl)<|ah) fun a w ab U=>b9 ab rfl (fun aS=>?_) (fun aS=>?_)
 ·refine wp_skip<|cq _ _<|ax fun et cz=>wp_block ?_
  refine aB ab U (ai rfl<|ai rfl<|ag (dG c5 bG au rfl rfl (by omega))<|ag (sh bG au cD rfl rfl (by omega))<|ai rfl<|ag (fc rfl rfl)<|ah) fun a w ab U=>b9 ab rfl (fun bs=>?_) (fun bs=>?_)
  ·refine ax fun e1 cF=>bq ab U (ar rfl<|ah) fun a w ab U=>cF _ _ ?_
   refine wp_ret<|bR (rs:=[.tmp 4]) rfl ab U (vs:=[_]) ⟨rfl,trivial⟩ ay ay (by rw [cM.abC (j:=i.toNat) (by omega) bs])
  ·refine wp_skip<|cz _ _<|bq ab U (ai rfl<|bX rfl rfl<|ar rfl<|ah) fun a w ab U=>⟨(i+1),?_,?_,ab.sub ⟨rfl,rfl,rfl,trivial⟩,?_⟩
   ·(try dsimp only);omega
   ·exact ⟨by omega,by omega,cM.ab8 eu bs il⟩
   ·exact U
 ·refine wp_exit<|bD _ _<|aB ab U (ar rfl<|ah) fun a w ab U=>wp_ret ?_
  exact bR (rs:=[.tmp 4]) rfl ab U (vs:=[_]) ⟨rfl,trivial⟩ ay ay (by rw [cM.abB (fun j a6=>il j (by omega))])
end
section
theorem Vt:bU Tryz.prog 145:=bY Tryz.func145
theorem VI:bU Tryz.prog 168:=bY Tryz.func168
attribute [local irreducible] aK.sum
theorem G7(b:Nat)(bt:TypeId)(off m cc n:Nat)(xs:List UInt8)(hm:m≤8)(bA:n<9223372036854775808)(aL:off+m≤xs.length)(w0:World)(bP:List aP):eH Tryz.prog 181 [.slice (some ⟨b,off,none⟩) m cc,az (n:Int)] w0 bP [.blk b bt (xs.map bf)] (fun r dj cV=>r=.tuple #[]∧dj=[]∧cV=[.blk b bt ((aj.lC xs off n m).map bf)]):=by
 refine fF Tryz.func181 rfl Tryz.ntmps181 (Nat.le_of_ble_eq_true rfl) fun cw a w ab U=>?_
 replace U:aC _ (_) (_::_) _:=U
 refine aB ab U (ai rfl<|ag (Hh bS rfl)<|ai rfl<|ah) fun a w ab U=>wp_block ?_
 obtain ⟨bC,aZ,U⟩:=U.cT
 refine df (γ:=Nat) (0) (fun (k:Nat)=>[(7,az (k:Int)),(1,az (aj.pC n k:Int))]) [(0,_),(6,_)] (fun (k:Nat)=>(bC.set 0 (.blk b bt ((aj.lC xs off n k).map bf)))) (fun (k:Nat)=>k≤m) (fun (k:Nat)=>m-k) (ab.sub ⟨rfl,(by show some (az _)=some (az _);rw [aj.Kl]),rfl,rfl,trivial⟩) (by subst aZ;(try dsimp only);rw [aj.adb];exact U) (by exact Nat.zero_le _) ?_
 rintro k a w ba ab U
 subst aZ;(try dsimp only at ba ab U)
 have kD:=ba
 replace U:aC _ (_) (_::_) _:=U
 have rO:=aj.Km n k
 refine aB ab U (ag (cK rfl rfl)<|ah) fun a w ab U=>ax fun dH cf=>b9 ab rfl (fun aS=>?_) (fun aS=>?_)
 ·refine wp_skip<|cf _ _<|ax fun dP cq=>wp_block ?_
  refine aB ab U (ai rfl<|ar rfl<|ah) fun a w ab U=>a8 fun et cz=>aE ab U (ai rfl<|ai rfl<|ai rfl<|ag (qW bG bF rfl)<|ag (adw bS bF rfl rfl (by omega))<|ah) fun a w ab U=>aH ab U rfl (c7 bF 0 rfl rfl rfl rfl (by rw [List.length_map,aj.ade (by omega)];omega)) ?_
  rintro _ _ _ a w ⟨rfl,rfl,rfl⟩ ab U
  replace U:aC _ (_) (_::_) _:=U
  refine wpList_nil (cz _ _ ?_)
  refine bq ab U (ai rfl<|ag (adZ rfl rfl (by omega))<|ar rfl<|ah) fun a w ab U=>cq _ _ ?_
  refine bq ab U (bX rfl rfl<|ai rfl<|ah) fun a w ab U=>⟨(k+1),?_,?_,ab.sub ⟨rfl,(by show some (az _)=some (az _);rw [← aj.Kn];rfl),rfl,rfl,trivial⟩,?_⟩
  ·(try dsimp only);omega
  ·omega
  ·rw [show ((k:Int)).toNat=k from Int.toNat_natCast k,← List.map_set,aj.adf (by omega)] at U
   exact U
 ·refine wp_exit ?_
  -- falls off the end
  obtain rfl:m=k:=by omega
  exact cQ (rs:=[]) rfl ab U (vs:=[]) trivial [] [_] ae ae ⟨rfl,rfl,rfl⟩
theorem SX(v:Value)(bx:v.oneCell'=true)(w:World):ch Tryz.prog 145 [v] w (fun r zs hs=>∃ b6,r=.func (.func 168) (List.nil:List Value).toArray [Value.pointer (some ⟨b6,0,none⟩)].toArray∧zs=[]∧hs=[.blk b6 25 [v]]):=by
 refine cI Tryz.func145 rfl Tryz.ntmps145 (Nat.le_of_ble_eq_true rfl) fun a ab U=>a8 fun dW cR=>aH ab U rfl (m0 rfl bx) ?_
 rintro _ _ _ a w ⟨b6,rfl,rfl,rfl⟩ ab U
 refine aE ab U (ar rfl<|ah) fun a w ab U=>wpList_nil (cR _ _ ?_)
 refine aB ab U (ag (sk rfl rfl)<|ar rfl<|ah) fun a w ab U=>wp_ret ?_
 exact bR (rs:=[.tmp 2]) rfl ab U (vs:=[_]) ⟨rfl,trivial⟩ ae ae ⟨_,rfl,rfl,rfl⟩
theorem Tl(b6:Nat)(v:Value)(xs:List UInt8)(Y:Value)(z:aP)(w0:World)(bP:List aP)(cw:List av)(inv:Nat→av→Prop)(ra:av)(bj:gp w0 bP z)(au:bg gE z v xs)(h0:inv 0 ra)(kC:∀ k r,k<xs.length→inv k r→xj Tryz.prog Y (aj.JQ xs k) (aC w0 bP (.blk b6 25 [v]::r::cw)) fun w'=>∃ eR,inv (k+1) eR∧aC w0 bP (.blk b6 25 [v]::eR::cw) w'):l9 Tryz.prog 168 [Y,Value.pointer (some ⟨b6,0,none⟩)] w0 bP [.blk b6 25 [v],ra] cw (fun _ dj cV=>dj=[]∧∃ r:av,cV=[.blk b6 25 [v],r]∧inv xs.length r):=by
 refine EL Tryz.func168 rfl Tryz.ntmps168 (Nat.le_of_ble_eq_true rfl) fun a w ab U=>?_
 replace U:=gw U
 have cZ:=au.1
 refine aB ab U (ag (bc bS 0 rfl rfl rfl rfl)<|ag (dL bS au rfl)<|e2 rfl rfl<|ar rfl<|ah) fun a w ab U=>wp_block ?_
 obtain ⟨bC,aZ,U⟩:=U.cT
 refine df (γ:=av×Nat) (ra,0) (fun (dV,k)=>[(3,az ((xs.length:Int)-1-k))]) [(0,_),(1,_)] (fun (dV,k)=>(bC.set 1 (dV))) (fun (dV,k)=>k≤xs.length∧inv k dV) (fun (dV,k)=>xs.length-k) (ab.sub ⟨(by show some (az _)=some (az _);congr 2;omega),rfl,rfl,trivial⟩) (by subst aZ;exact U) (by exact ⟨Nat.zero_le _,h0⟩) ?_
 rintro ⟨dV,k⟩ a w ba ab U
 subst aZ;(try dsimp only at ba ab U)
 obtain ⟨kD,iB⟩:=ba
 replace U:=gw U
 refine ax fun cm bD=>aB ab U (ai rfl<|ag (jH rfl rfl)<|ah) fun a w ab U=>b9 ab rfl (fun aS=>?_) (fun aS=>?_)
 ·refine wp_skip<|bD _ _<|ax fun dP cq=>wp_block ?_
  refine ax fun dw b3=>Cx 6 rfl ?_
  refine aE ab U (ai rfl<|ai rfl<|ag (bc bS 0 rfl rfl rfl rfl)<|ai rfl<|ag (dG bS bF au rfl rfl (by omega))<|ag (mH bF au bj rfl rfl (by omega))<|ah) fun a w ab U=>pT ?_
  ·skip
   have rZ:=kC k dV (by omega) iB
   refine IH (ys:=[_,_]) (by rfl) rfl ab U rfl rfl rZ ?_
   rintro a w ab ⟨cL,tG,U⟩
   refine q5 rfl ab U (ag (fC rfl)<|ah) fun a w ab U=>wpListIn_nil ?_
   refine b3 _ _<|cX ab rfl (fun h=>absurd h (by simp)) (fun _=>?_)
   refine wp_skip<|cq _ _<|bq ab U (ai rfl<|e2 rfl rfl<|ar rfl<|ah) fun a w ab U=>⟨(cL,k+1),?_,?_,ab.sub ⟨(by show some (az _)=some (az _);congr 2;omega),rfl,rfl,trivial⟩,?_⟩
   ·(try dsimp only);omega
   ·exact ⟨by omega,tG⟩
   ·exact U
 ·obtain rfl:k=xs.length:=by omega
  refine wp_exit ?_
  -- falls off the end
  exact EM rfl ab U [] [_,_] ae ae ⟨rfl,_,rfl,iB⟩
theorem qy(v:Value)(xs:List UInt8)(aL:xs.length≤4)(w:World)(au:bg gE (b1 w) v xs):ch Tryz.prog 102 [v] w (fun r _ _=>r=az (aj.eb xs:Int)):=by
 refine EK Tryz.func102 rfl Tryz.ntmps102 (Nat.le_of_ble_eq_true rfl) fun a ab U=>?_
 have cZ:=au.1
 refine aB ab U (ar rfl<|ah) fun a w ab U=>a8 fun cm bD=>aH ab U rfl (u4 bG (by rfl)) ?_
 rintro _ _ _ a w ⟨b6,rfl,rfl,rfl⟩ ab U
 refine aH ab U rfl (c7 bG 0 rfl rfl rfl rfl (by simp)) ?_
 rintro _ _ _ a w ⟨rfl,rfl,rfl⟩ ab U
 (try simp only [List.set_cons_zero,List.set_cons_succ] at U)
 replace U:=eJ U
 refine wpList_nil (bD _ _ ?_)
 refine ax fun dH cf=>a8 fun dP cq=>aE ab U (ai rfl<|ah) fun a w ab U=>aH ab U rfl (eB Vt rfl (fun w U=>SX _ (mL au) w )) ?_
 rintro _ _ _ a w ⟨_,_,rfl,rfl,⟨bK,rfl,rfl,rfl⟩⟩ ab U
 replace U:=eK U
 refine wpList_nil (cq _ _ ?_)
 refine wp_block ?_
 replace U:=eK U
 obtain ⟨bC,aZ,U⟩:=U.cT
 obtain ⟨jO,iY,ab⟩:∃ l,l=_∧Fr _ l _:=⟨_,rfl,ab⟩
 refine IB (ps:=[8,9]) (γ:=av) (ξ:=Unit) (fun r=>bC.set 1 r) (fun (k:Nat) (r:av)=>r=.blk b6 3 [az (aj.eb (xs.drop (xs.length-k)):Int)]) (xs.length) (fun k=>aj.JQ xs k) (.blk b6 3 [az 0]) (fun k r x=>(5,bf (xs.getD ((xs.length:Int)-1-k).toNat 0))::(9,bf (xs.getD ((xs.length:Int)-1-k).toNat 0))::(8,az ((xs.length:Int)-1-k))::jO) (fun k r x=>bC.set 1 r) ab (by subst aZ;exact U) (by subst iY;rfl) rfl (fun _=>rfl) (VI) (by rw [Nat.sub_zero,aj.GS];rfl) (fun ro GL jl dD mA mJ a w oX iG ab U=>?_) (fun Y dj tZ kC w U=>?_) (fun BM lV jl dD mA mJ gV a w oX iG ab U=>?_) (fun I D dD a w mJ il mn dh iG ab U=>?_)
 ·subst aZ iY
  (try dsimp only [kx] at ab);(try dsimp only [List.set_cons_zero,List.set_cons_succ] at U)
  replace U:aC _ [_,_] [_,_] _:=U
  subst iG
  have X1:=aj.BY aL (xs.length-mA)
  have Zz:(aj.eb (xs.drop (xs.length-mA)):Int)*2^(min (Int.toNat 8) 64)=(aj.eb (xs.drop (xs.length-mA)):Int)*256:=rfl
  replace U:aC _ [_,_] [_,_] _:=U
  refine aez (by rfl) ab U (ar rfl<|ah) fun a w ab U=>⟨rfl,(),ab,U⟩
 ·subst aZ iY
  exact l9.Wz (Tl bK _ xs Y _ _ dj _ (fun k r=>r=.blk b6 3 [az (aj.eb (xs.drop (xs.length-k)):Int)]) _ cD au (by rw [Nat.sub_zero,aj.GS];rfl) kC) w U
 ·subst aZ iY
  (try dsimp only [kx] at ab);(try dsimp only [List.set_cons_zero,List.set_cons_succ] at U)
  replace U:aC _ [_,_] [_,_] _:=U
  subst iG
  have X1:=aj.BY aL (xs.length-mA)
  have Zz:(aj.eb (xs.drop (xs.length-mA)):Int)*2^(min (Int.toNat 8) 64)=(aj.eb (xs.drop (xs.length-mA)):Int)*256:=rfl
  replace U:aC _ [_,_] [_,_] _:=U
  refine wpIn_block<|wj (by rfl) ?_
  refine aE ab U (ag (bc bG 1 rfl rfl rfl rfl)<|ag (adX rfl rfl (by omega) (by omega))<|ai rfl<|ag (yS bF bG rfl)<|ag (adU rfl rfl)<|ah) fun a w ab U=>aH ab U rfl (c7 bG 1 rfl rfl rfl rfl (by simp)) ?_
  rintro _ _ _ a w ⟨rfl,rfl,rfl⟩ ab U
  (try simp only [List.set_cons_zero,List.set_cons_succ] at U)
  replace U:aC _ [_,_] [_,_] _:=U
  refine pT ?_
  rw [aj.aac _ _ (aj.BY aL _),← aj.ab4 oX] at U
  exact ⟨rfl,_,rfl,U⟩
 subst aZ iY
 (try dsimp only [kx] at ab);(try dsimp only [List.set_cons_zero,List.set_cons_succ] at U)
 replace U:=kZ U
 subst iG
 replace U:=kZ U
 refine cf _ _<|aB ab U (ag (bc bG 1 rfl rfl rfl rfl)<|ar rfl<|ah) fun a w ab U=>wp_ret ?_
 rw [Nat.sub_self,List.drop_zero] at ab
 exact AU [] mn dh (by simp) (by simp) (by simp) (rs:=[.tmp 2]) rfl ab U (vs:=[_]) ⟨rfl,trivial⟩ (fun W U=>⟨[],[],U.ak ay ay,rfl⟩)
end
section
theorem dI : a1 Tryz.prog 130 (.struct #[⟨ "number", 3, 0, false, "", "culprit/journal", 0⟩, ⟨ "part", 3, 1, false, "", "culprit/journal", 8⟩, ⟨ "left", 3, 2, false, "", "culprit/journal", 16⟩, ⟨ "payload", 9, 3, false, "", "culprit/journal", 24⟩, ⟨ "ok", 4, 4, false, "", "culprit/journal", 40⟩]) 5 48 (.agg ([Value.int .i64 0, Value.int .i64 0, Value.int .i64 0] ++ [Value.string ⟨(List.nil : List UInt8).toArray⟩] ++ [Value.bool false]).toArray) := ⟨Tryz.underlying130, by kernel_rfl⟩
theorem dA : a1 Tryz.prog 168 (.struct #[⟨ "Number", 3, 0, false, "", "", 0⟩, ⟨ "Part", 3, 1, false, "", "", 8⟩, ⟨ "Left", 3, 2, false, "", "", 16⟩, ⟨ "Payload", 9, 3, false, "", "", 24⟩, ⟨ "Ok", 4, 4, false, "", "", 40⟩]) 5 48 (.agg ([Value.int .i64 0, Value.int .i64 0, Value.int .i64 0] ++ [Value.string ⟨(List.nil : List UInt8).toArray⟩] ++ [Value.bool false]).toArray) := ⟨Tryz.underlying168, by kernel_rfl⟩
theorem iQ:a1 Tryz.prog 174 (.array 64 5) 64 64 (.agg (List.replicate 64 (Value.int .u8 0)).toArray):=⟨Tryz.underlying174,by kernel_rfl⟩
theorem V3:bU Tryz.prog 67:=bY Tryz.func67
theorem KU:bU Tryz.prog 101:=bY Tryz.func101
theorem qv:bU Tryz.prog 102:=bY Tryz.func102
theorem KV:bU Tryz.prog 103:=bY Tryz.func103
theorem qw:bU Tryz.prog 137:=bY Tryz.func137
theorem K0:bU Tryz.prog 138:=bY Tryz.func138
attribute [local irreducible] aK.sum aj.eW
theorem JT(v:Value)(xs:List UInt8)(aL:xs.length=56)(w:World)(au:bg gE (b1 w) v xs){dK:Nat×Nat}{dJ:TypeId}(dF:w.heap[0]?=some (.cells (aK.ek.map cx).toArray dJ dK)):ch Tryz.prog 138 [v] w (fun r _ _=>r=vs (aj.jr xs)):=by
 refine cI Tryz.func138 rfl Tryz.ntmps138 (Nat.le_of_ble_eq_true rfl) fun a ab U=>?_
 have cZ:=au.1
 have jw:=aK.ow xs
 refine aB ab U (ar rfl<|ah) fun a w ab U=>a8 fun cm bD=>aE ab U (ai rfl<|ag (bQ KW rfl (fun w U=>P7 _ _ (by first | assumption | omega) w (bg.mono (U.le cD) au) (U.ext _ _ dF)) (fun _ _ _ h=>h))<|ah) fun a w ab U=>aH ab U rfl (c1 hP) ?_
 rintro _ _ _ a w ⟨b6,rfl,rfl,rfl⟩ ab U
 rw [show List.replicate 32 (Value.int .u8 0)=(List.replicate 32 (0:UInt8)).map bf from by rw [List.map_replicate] <;> rfl] at U
 refine aH ab U rfl (cA hP 0 rfl rfl rfl rfl aI bJ aI) ?_
 rintro _ _ _ a w ⟨rfl,rfl,rfl⟩ ab U
 replace U:=eJ U
 refine wpList_nil (bD _ _ ?_)
 refine hZ mixed aA ab U (ai rfl<|ag (sa bS bz bF au cD rfl)<|ag (qZ hP bF rfl rfl (by omega))<|ag (adk bS bz bF 0 rfl rfl (by first | omega | (simp;omega)))<|ag (Ce rfl rfl aI)<|ar rfl<|ah) fun a w ab U=>wp_ret ?_
 exact bR (rs:=[.tmp 2]) rfl ab U (vs:=[_]) ⟨rfl,trivial⟩ ay ay (rfl)
theorem agS(s:List UInt8)(w:World){dK:Nat×Nat}{dJ:TypeId}(dF:w.heap[1]?=some (.cells (aK.ek.map cx).toArray dJ dK)):ch Tryz.prog 67 [vs s] w (fun r _ _=>r=aj.Oh (aj.c8 s)):=by
 refine cI Tryz.func67 rfl Tryz.ntmps67 (Nat.le_of_ble_eq_true rfl) fun a ab U=>?_
 have jw:∀ t,(aK.sum t).length=32:=aK.ow
 refine a8 fun dW cR=>aH ab U rfl (c1 dI) ?_
 rintro _ _ _ a w ⟨b6,rfl,rfl,rfl⟩ ab U
 refine wpList_nil (cR _ _ ?_)
 refine ax fun cm bD=>aB ab U (ai rfl<|ag (hB bz rfl)<|ag (dM rfl rfl)<|ah) fun a w ab U=>eP ab rfl (fun aS=>?_) (fun aS=>?_)
 ·refine ax fun dP cq=>du ?_
  refine aE ab U (ag (hc (places:=[(0,1),(1,1),(2,1),(3,1),(4,1)]) (cells:=[.int .i64 0,.int .i64 0,.int .i64 0,.string ⟨(List.nil:List UInt8).toArray⟩,.bool false]) dI aA rfl (by rfl))<|ah) fun a w ab U=>aH ab U rfl (cA dI 0 rfl rfl rfl rfl aI (bn rfl (bn rfl (bn rfl (bn rfl (bn rfl dC))))) aI) ?_
  rintro _ _ _ a w ⟨rfl,rfl,rfl⟩ ab U
  replace U:=eJ U
  refine wpList_nil (cq _ _ ?_)
  refine wp_ret<|bR (rs:=[.cell 2 130]) rfl ab U (vs:=[_]) ⟨⟨_,_,_,_,_,_,_,rfl,List.mem_of_getElem? (i:=0) rfl,dI,.inl ⟨rfl,aI,rfl⟩⟩,trivial⟩ ay ay (by rw [aj.Q2 (by omega)];rfl)
 ·have e4:s.length=64:=by omega
  refine wp_skip<|bD _ _<|a8 fun dw b3=>aE ab U (ai rfl<|ah) fun a w ab U=>aH ab U rfl (s8 bz bS bF rfl (by omega)) ?_
  rintro v2 _ _ a w ⟨z3,rfl,rfl,o4⟩ ab U
  refine aE ab U (ag (Hl iQ o4 rfl aI (by decide))<|ag (Hd iQ o4 (.inr (by simp)) rfl rfl aI (by decide))<|ah) fun a w ab U=>aH ab U rfl (c1 iQ) ?_
  rintro _ _ _ a w ⟨uV,rfl,rfl,rfl⟩ ab U
  rw [show List.replicate 64 (Value.int .u8 0)=(List.replicate 64 (0:UInt8)).map bf from by rw [List.map_replicate] <;> rfl] at U
  refine aH ab U rfl (cA iQ 0 rfl rfl rfl rfl aI bJ aI) ?_
  rintro _ _ _ a w ⟨rfl,rfl,rfl⟩ ab U
  replace U:=kZ U
  refine wpList_nil (b3 _ _ ?_)
  refine a8 fun et cz=>aE ab U (ag (qZ iQ bF rfl rfl (by omega))<|ag (bQ KU rfl (fun w U=>QC _ _ (by rw [List.length_drop,List.length_take];omega) w (mY U 0 rfl (by first | omega | (simp;omega) | (simp [*];done) | (simp [*];omega))) (U.ext _ _ dF)) (fun _ _ _ h=>h))<|ah) fun a w ab U=>aH ab U rfl (c1 hP) ?_
  rintro _ _ _ a w ⟨JH,rfl,rfl,rfl⟩ ab U
  rw [show List.replicate 32 (Value.int .u8 0)=(List.replicate 32 (0:UInt8)).map bf from by rw [List.map_replicate] <;> rfl] at U
  refine aH ab U rfl (cA hP 0 rfl rfl rfl rfl aI bJ aI) ?_
  rintro _ _ _ a w ⟨rfl,rfl,rfl⟩ ab U
  replace U:=o7 U
  refine wpList_nil (cz _ _ ?_)
  refine ax fun eU cO=>?_
  revert U;revert ab;apply ho (J:=jL (α0:=Nat) 79 _ _ _ _ _) #[false,false,false,false,false,false,false,false,false] 9 mixed rfl rfl
  ·intro w ab U
   refine aR 0 rfl ab (U.ak ae (ay.k.n)) (qZ iQ bF rfl rfl (by omega)) fun a ab=>aR 2 rfl ab (U.ak ae (ay.k.n)) (wb iQ bF rfl rfl rfl (by omega)) fun a ab=>aR 4 rfl ab (U.ak ae (ay.k.n)) (wb iQ bF rfl rfl rfl (by omega)) fun a ab=>fy [1,7] aA rfl ⟨?_,?_,trivial⟩
   ·refine dQ _ rfl rfl ab U rfl (eI (bQ qv rfl (fun w U=>qy _ _ (by rw [List.length_drop,List.length_take];omega) w (mY U 1 rfl (by first | omega | (simp;omega) | (simp [*];done) | (simp [*];omega)))) (fun _ _ _ h=>h))) ?_
    rintro _ _ _ a w ⟨rfl,rfl,rfl⟩ ab U
    refine ⟨⟨.inr (U.ak ae (ay.k.n)),.inr (U.ak ae (ay.k.n)),al,trivial⟩,?_⟩
    refine fy [3,7] aA rfl ⟨?_,?_,trivial⟩
    ·refine dQ _ rfl rfl ab U rfl (eI (bQ qv rfl (fun w U=>qy _ _ (by rw [List.length_drop,List.length_take];omega) w (mY U 1 rfl (by first | omega | (simp;omega) | (simp [*];done) | (simp [*];omega)))) (fun _ _ _ h=>h))) ?_
     rintro _ _ _ a w ⟨rfl,rfl,rfl⟩ ab U
     refine ⟨⟨.inr (U.ak ae (ay.k.n)),al,al,trivial⟩,?_⟩
     refine fy [5,7] aA rfl ⟨?_,?_,trivial⟩
     ·refine dQ _ rfl rfl ab U rfl (eI (bQ qv rfl (fun w U=>qy _ _ (by rw [List.length_drop,List.length_take];omega) w (mY U 1 rfl (by first | omega | (simp;omega) | (simp [*];done) | (simp [*];omega)))) (fun _ _ _ h=>h))) ?_
      rintro _ _ _ a w ⟨rfl,rfl,rfl⟩ ab U
      refine ⟨⟨al,al,al,trivial⟩,?_⟩
      refine aR 6 rfl ab (U.ak ae ay) (hc (places:=[(0,1),(1,1),(2,1),(3,1),(4,1)]) (cells:=[_,_,_,.string ⟨(List.nil:List UInt8).toArray⟩,_]) dI aA rfl (by rfl)) fun a ab=>bW 7 rfl rfl ab U rfl (c1 dI) ?_
      rintro _ _ _ a w ⟨qq,rfl,rfl,rfl⟩ ab U
      refine ⟨⟨.inr (U.ak ae ay),al,al,al,trivial⟩,?_⟩
      refine bW 8 rfl rfl ab U rfl (cA dI 0 rfl rfl rfl rfl aI (bn rfl (bn rfl (bn rfl (bn rfl (bn rfl dC))))) aI) ?_
      rintro _ _ _ a w ⟨rfl,rfl,rfl⟩ ab U
      refine ⟨⟨al,al,al,al,trivial⟩,?_⟩
      exact ei aA (ly qq (trivial) (ab.sub (L':=[(0,_),(2,_),(3,_),(4,_),(5,_)]) ⟨rfl,rfl,rfl,rfl,rfl,trivial⟩) U)
     ·refine dQ _ rfl rfl ab U rfl (c1 dI) ?_
      rintro _ _ _ a w ⟨qq,rfl,rfl,rfl⟩ ab U
      refine ⟨⟨.inr (U.ak ae (ay.k.n.n)),al,al,trivial⟩,?_⟩
      refine bW 5 rfl rfl ab U rfl (eI (bQ qv rfl (fun w U=>qy _ _ (by rw [List.length_drop,List.length_take];omega) w (mY U 2 rfl (by first | omega | (simp;omega) | (simp [*];done) | (simp [*];omega)))) (fun _ _ _ h=>h))) ?_
      rintro _ _ _ a w ⟨rfl,rfl,rfl⟩ ab U
      refine ⟨⟨al,al,al,trivial⟩,?_⟩
      refine aR 6 rfl ab (U.ak ae ay) (hc (places:=[(0,1),(1,1),(2,1),(3,1),(4,1)]) (cells:=[_,_,_,.string ⟨(List.nil:List UInt8).toArray⟩,_]) dI aA rfl (by rfl)) fun a ab=>bW 8 rfl rfl ab U rfl (cA dI 0 rfl rfl rfl rfl aI (bn rfl (bn rfl (bn rfl (bn rfl (bn rfl dC))))) aI) ?_
      rintro _ _ _ a w ⟨rfl,rfl,rfl⟩ ab U
      refine ⟨⟨al,al,al,al,trivial⟩,?_⟩
      exact ei aA (ly qq (trivial) (ab.sub (L':=[(0,_),(2,_),(3,_),(4,_),(5,_)]) ⟨rfl,rfl,rfl,rfl,rfl,trivial⟩) U)
    ·refine dQ _ rfl rfl ab U rfl (c1 dI) ?_
     rintro _ _ _ a w ⟨qq,rfl,rfl,rfl⟩ ab U
     refine ⟨⟨.inr (U.ak ae (ay.k.n.n)),.inr (U.ak ae (ay.k.n.n)),al,trivial⟩,?_⟩
     refine bW 3 rfl rfl ab U rfl (eI (bQ qv rfl (fun w U=>qy _ _ (by rw [List.length_drop,List.length_take];omega) w (mY U 2 rfl (by first | omega | (simp;omega) | (simp [*];done) | (simp [*];omega)))) (fun _ _ _ h=>h))) ?_
     rintro _ _ _ a w ⟨rfl,rfl,rfl⟩ ab U
     refine ⟨⟨.inr (U.ak ae (ay.k.n.n)),al,al,trivial⟩,?_⟩
     refine bW 5 rfl rfl ab U rfl (eI (bQ qv rfl (fun w U=>qy _ _ (by rw [List.length_drop,List.length_take];omega) w (mY U 2 rfl (by first | omega | (simp;omega) | (simp [*];done) | (simp [*];omega)))) (fun _ _ _ h=>h))) ?_
     rintro _ _ _ a w ⟨rfl,rfl,rfl⟩ ab U
     refine ⟨⟨al,al,al,trivial⟩,?_⟩
     refine aR 6 rfl ab (U.ak ae ay) (hc (places:=[(0,1),(1,1),(2,1),(3,1),(4,1)]) (cells:=[_,_,_,.string ⟨(List.nil:List UInt8).toArray⟩,_]) dI aA rfl (by rfl)) fun a ab=>bW 8 rfl rfl ab U rfl (cA dI 0 rfl rfl rfl rfl aI (bn rfl (bn rfl (bn rfl (bn rfl (bn rfl dC))))) aI) ?_
     rintro _ _ _ a w ⟨rfl,rfl,rfl⟩ ab U
     refine ⟨⟨al,al,al,al,trivial⟩,?_⟩
     exact ei aA (ly qq (trivial) (ab.sub (L':=[(0,_),(2,_),(3,_),(4,_),(5,_)]) ⟨rfl,rfl,rfl,rfl,rfl,trivial⟩) U)
   ·refine dQ _ rfl rfl ab U rfl (c1 dI) ?_
    rintro _ _ _ a w ⟨qq,rfl,rfl,rfl⟩ ab U
    refine ⟨⟨.inr (U.ak ae (ay.k.n.n)),.inr (U.ak ae (ay.k.n.n)),.inr (U.ak ae (ay.k.n.n)),trivial⟩,?_⟩
    refine bW 1 rfl rfl ab U rfl (eI (bQ qv rfl (fun w U=>qy _ _ (by rw [List.length_drop,List.length_take];omega) w (mY U 2 rfl (by first | omega | (simp;omega) | (simp [*];done) | (simp [*];omega)))) (fun _ _ _ h=>h))) ?_
    rintro _ _ _ a w ⟨rfl,rfl,rfl⟩ ab U
    refine ⟨⟨.inr (U.ak ae (ay.k.n.n)),.inr (U.ak ae (ay.k.n.n)),al,trivial⟩,?_⟩
    refine bW 3 rfl rfl ab U rfl (eI (bQ qv rfl (fun w U=>qy _ _ (by rw [List.length_drop,List.length_take];omega) w (mY U 2 rfl (by first | omega | (simp;omega) | (simp [*];done) | (simp [*];omega)))) (fun _ _ _ h=>h))) ?_
    rintro _ _ _ a w ⟨rfl,rfl,rfl⟩ ab U
    refine ⟨⟨.inr (U.ak ae (ay.k.n.n)),al,al,trivial⟩,?_⟩
    refine bW 5 rfl rfl ab U rfl (eI (bQ qv rfl (fun w U=>qy _ _ (by rw [List.length_drop,List.length_take];omega) w (mY U 2 rfl (by first | omega | (simp;omega) | (simp [*];done) | (simp [*];omega)))) (fun _ _ _ h=>h))) ?_
    rintro _ _ _ a w ⟨rfl,rfl,rfl⟩ ab U
    refine ⟨⟨al,al,al,trivial⟩,?_⟩
    refine aR 6 rfl ab (U.ak ae ay) (hc (places:=[(0,1),(1,1),(2,1),(3,1),(4,1)]) (cells:=[_,_,_,.string ⟨(List.nil:List UInt8).toArray⟩,_]) dI aA rfl (by rfl)) fun a ab=>bW 8 rfl rfl ab U rfl (cA dI 0 rfl rfl rfl rfl aI (bn rfl (bn rfl (bn rfl (bn rfl (bn rfl dC))))) aI) ?_
    rintro _ _ _ a w ⟨rfl,rfl,rfl⟩ ab U
    refine ⟨⟨al,al,al,al,trivial⟩,?_⟩
    exact ei aA (ly qq (trivial) (ab.sub (L':=[(0,_),(2,_),(3,_),(4,_),(5,_)]) ⟨rfl,rfl,rfl,rfl,rfl,trivial⟩) U)
  rintro a w ⟨qq, -,ab,U⟩
  (try dsimp only at ab U)
  replace U:aC _ [_] [.blk qq 130 [az (aj.num s:Int),az (aj.par s:Int),az (aj.jx s:Int),vs [],.bool true],_,_,_] _:=U
  obtain ⟨tO,Bs,ij⟩:=aj.Hz s
  have iB:=aj.yx s
  refine cO _ _<|ax fun e1 cF=>bq ab U (ag (aV dI rfl rfl (s':=0) aA)<|ag (bc bG 0 rfl rfl rfl rfl)<|ag (Hi rfl rfl)<|ar rfl<|ah) fun a w ab U=>?_
  rw [show (min (aj.jx s:Int) 48)=((aj.ey s:Nat):Int) by unfold aj.ey;omega] at ab
  refine cF _ _<|a8 fun fY dg=>aE ab U (ai rfl<|ag (ad5 (r:=((48-aj.ey s:Nat):Int)) rfl rfl (by omega) (by omega))<|ah) fun a w ab U=>aH ab U rfl (Ei bS bF rfl rfl aI aI rfl) ?_
  rintro mR _ _ a w ⟨rfl,rfl⟩ ab U
  replace U:=qQ U
  refine aE ab U (ar rfl<|ah) fun a w ab U=>wpList_nil ?_
  rw [show List.replicate (48-aj.ey s) (Value.int .u8 0)=(List.replicate (48-aj.ey s) (0:UInt8)).map bf from by rw [List.map_replicate];rfl] at U
  refine dg _ _<|ax fun hE dS=>ax fun gQ dz=>za mixed aA U ?_
  refine ji ab (ag (qZ hP bF rfl rfl (by omega))<|ag (Cp iQ bF rfl rfl (by omega))<|ag (bQ KV rfl (fun w U=>JK _ _ _ _ w (mY U 2 rfl (by first | omega | (simp;omega) | (simp [*];done) | (simp [*];omega))) (mY U 3 rfl (by first | omega | (simp;omega) | (simp [*];done) | (simp [*];omega)))) (fun _ _ _ h=>h))<|ag (fC rfl)<|ai rfl<|ah) fun a ab=>zR 4 35 3 ab rfl rfl rfl rfl rfl (fun aO=>have aO:=(yI aO);aN 35 rfl rfl rfl (aV dI rfl rfl (s':=0) aA)<|aN 35 rfl rfl rfl (bc bG 1 rfl rfl rfl rfl)<|aN 35 rfl rfl rfl (fc rfl rfl)<|ah) rfl rfl fun a ab=>?_
  refine ji ab (ai rfl<|ah) fun a ab=>zR 9 40 3 ab rfl rfl rfl rfl rfl (fun aO=>have aO:=aO;aN 40 rfl rfl rfl (aV dI rfl rfl (s':=0) aA)<|aN 40 rfl rfl rfl (bc bG 1 rfl rfl rfl rfl)<|aN 40 rfl rfl rfl (eQ rfl rfl)<|ah) rfl rfl fun a ab=>?_
  refine ji ab (ai rfl<|ah) fun a ab=>zR 14 45 7 ab rfl rfl rfl rfl rfl (fun aO=>have aO:=aO;aN 45 rfl rfl rfl (aV dI rfl rfl (s':=0) aA)<|aN 45 rfl rfl rfl (bc bG 1 rfl rfl rfl rfl)<|aN 45 rfl rfl rfl (hd rfl rfl (by omega))<|aN 45 rfl rfl rfl (aV dI rfl rfl (s':=0) aA)<|aN 45 rfl rfl rfl (bc bG 1 rfl rfl rfl rfl)<|aN 45 rfl rfl rfl (pb rfl rfl (by omega))<|aN 45 rfl rfl rfl (eQ rfl rfl)<|ah) rfl rfl fun a ab=>?_
  refine ji ab (ai rfl<|ah) fun a ab=>ahu (q:=(decide ((aj.jx s:Int)=0)&&decide ((0:Int)<(aj.par s:Int)))) 54 8 ab rfl (by rfl) rfl (by exact trivial) (fun _=>h3 54 rfl rfl rfl rfl<|h3 54 rfl rfl rfl rfl<|h3 54 rfl rfl rfl rfl<|h3 54 rfl rfl rfl rfl<|wy 58 rfl rfl rfl<|wy 58 rfl rfl rfl<|wy 58 rfl rfl rfl<|h3 54 rfl rfl rfl rfl<|ah) rfl (fun aO a ab Dv=>?_) ?_
  ·have aO:=aO
   refine ji ab (aN 54 rfl rfl rfl (aV dI rfl rfl (s':=0) aA)<|aN 54 rfl rfl rfl (bc bG 1 rfl rfl rfl rfl)<|aN 54 rfl rfl rfl (fc rfl rfl)<|aN 54 rfl rfl rfl (bE rfl)<|ah) fun a ab=>aht 27 58 3 23 54 ab rfl rfl rfl rfl rfl rfl rfl (fun aO=>have aO:=(by first | exact of_decide_eq_true aO | exact aO);aN 58 rfl rfl rfl (aV dI rfl rfl (s':=0) aA)<|aN 58 rfl rfl rfl (bc bG 1 rfl rfl rfl rfl)<|aN 58 rfl rfl rfl (eQ rfl rfl)<|ah) rfl rfl fun a ab=>?_
   refine ji ab (ag (hY rfl rfl)<|ah) fun a ab=>Dv _ (ab.under 5 rfl rfl)
  clear ab;intro a ab
  refine ji ab (ai rfl<|ah) fun a ab=>zR 33 64 6 ab rfl rfl rfl rfl rfl (fun aO=>have aO:=aO;aN 64 rfl rfl rfl (bE rfl)<|aN 64 rfl rfl rfl (pb rfl rfl (by omega))<|aN 64 rfl rfl rfl (wb iQ bF rfl rfl rfl (by omega))<|aN 64 rfl rfl rfl (bE rfl)<|aN 64 rfl rfl rfl (bQ KV rfl (fun w U=>JK _ _ _ _ w (mY U 3 rfl (by first | omega | (simp;omega) | (simp [*];done) | (simp [*];omega))) (k2 (U.own _ (List.mem_of_getElem? (i:=0) rfl)).1 (by first | assumption | (simp;done)) (by first | rfl | (simp;done) | (simp;omega) | omega) (by first | omega | (simp;omega)))) (fun _ _ _ h=>h))<|aN 64 rfl rfl rfl (fC rfl)<|ah) rfl rfl fun a ab=>?_
  refine zQ ?_
  clear U;intro w U
  refine dz _ _<|cX ab rfl (fun bs=>?_) (fun bs=>?_)
  ·(try simp only [c2] at bs)
   refine a8 fun iE eO=>aE ab U (ag (hc (places:=[(0,1),(1,1),(2,1),(3,1),(4,1)]) (cells:=[.int .i64 0,.int .i64 0,.int .i64 0,.string ⟨(List.nil:List UInt8).toArray⟩,.bool false]) dI aA rfl (by rfl))<|ah) fun a w ab U=>aH ab U rfl (cA dI 4 rfl rfl rfl rfl aI (bn rfl (bn rfl (bn rfl (bn rfl (bn rfl dC))))) aI) ?_
   rintro _ _ _ a w ⟨rfl,rfl,rfl⟩ ab U
   replace U:=qQ U
   refine wpList_nil (eO _ _ ?_)
   refine wp_ret<|bR (rs:=[.cell 2 130]) rfl ab U (vs:=[_]) ⟨⟨_,_,_,_,_,_,_,rfl,List.mem_of_getElem? (i:=4) rfl,dI,.inl ⟨rfl,aI,rfl⟩⟩,trivial⟩ ay ay (by rw [aj.q4 (aj.SY e4 bs)];rfl)
  ·(try simp only [c2] at bs)
   refine wp_skip<|dS _ _<|a8 fun iv eD=>aE ab U (ai rfl<|ai rfl<|bX rfl rfl<|ag (Cn bz rfl rfl rfl (by omega))<|ag (aV dI rfl rfl (s':=0) aA)<|ah) fun a w ab U=>aH ab U rfl (c7 bz 1 rfl rfl rfl rfl (by simp)) ?_
   rintro _ _ _ a w ⟨rfl,rfl,rfl⟩ ab U
   replace U:aC _ [_] [_,.blk _ _ ([_,_,_,_,_].set 3 _),_,_,_] _:=U
   simp only [List.set_cons_zero,List.set_cons_succ] at U
   replace U:=qQ U
   refine wpList_nil (eD _ _ ?_)
   refine a8 fun kM gr=>aE ab U (ag (fW dI 1 rfl rfl aI rfl)<|ah) fun a w ab U=>aH ab U rfl (cA dI 4 rfl rfl rfl rfl aI (bn rfl (bn rfl (bn rfl (bn rfl (bn rfl dC))))) aI) ?_
   rintro _ _ _ a w ⟨rfl,rfl,rfl⟩ ab U
   replace U:=qQ U
   refine wpList_nil (gr _ _ ?_)
   refine wp_ret<|bR (rs:=[.cell 2 130]) rfl ab U (vs:=[_]) ⟨⟨_,_,_,_,_,_,_,rfl,List.mem_of_getElem? (i:=4) rfl,dI,.inl ⟨rfl,aI,rfl⟩⟩,trivial⟩ ay ay (by rw [aj.zB (aj.W2 e4 bs),show (8+(aj.ey s:Int)).toNat=8+aj.ey s by omega];rfl)
theorem HK(s:List UInt8)(w:World){dK:Nat×Nat}{dJ:TypeId}(dF:w.heap[0]?=some (.cells (aK.ek.map cx).toArray dJ dK)):ch Tryz.prog 91 [vs s] w (fun r _ _=>r=aj.Oh (aj.c8 s)):=by
 refine cI Tryz.func91 rfl Tryz.ntmps91 (Nat.le_of_ble_eq_true rfl) fun a ab U=>a8 fun dW cR=>aH ab U rfl (c1 dA) ?_
 rintro _ _ _ a w ⟨b6,rfl,rfl,rfl⟩ ab U
 refine wpList_nil (cR _ _ ?_)
 refine ax fun cm bD=>aB ab U (ai rfl<|ag (hB bz rfl)<|ag (dM rfl rfl)<|ah) fun a w ab U=>eP ab rfl (fun aS=>?_) (fun aS=>?_)
 ·refine ax fun dP cq=>du ?_
  refine aE ab U (ag (hc (places:=[(0,1),(1,1),(2,1),(3,1),(4,1)]) (cells:=[.int .i64 0,.int .i64 0,.int .i64 0,.string ⟨(List.nil:List UInt8).toArray⟩,.bool false]) dA aA rfl (by rfl))<|ah) fun a w ab U=>aH ab U rfl (cA dA 0 rfl rfl rfl rfl aI (bn rfl (bn rfl (bn rfl (bn rfl (bn rfl dC))))) aI) ?_
  rintro _ _ _ a w ⟨rfl,rfl,rfl⟩ ab U
  replace U:=eJ U
  refine wpList_nil (cq _ _ ?_)
  refine wp_ret<|bR (rs:=[.cell 2 168]) rfl ab U (vs:=[_]) ⟨⟨_,_,_,_,_,_,_,rfl,List.mem_of_getElem? (i:=0) rfl,dA,.inl ⟨rfl,aI,rfl⟩⟩,trivial⟩ ay ay (by rw [aj.Q2 (by omega)];rfl)
 ·have e4:s.length=64:=by omega
  have ak4:(List.take (Int.toNat 56) s).length=56:=by rw [List.length_take];omega
  refine wp_skip<|bD _ _<|ax fun dw b3=>?_
  revert U;revert ab;apply ho (J:=jL (α0:=Nat) 77 _ _ _ _ _) #[false,false,false,false,false,false,false,false,false,false,false,false] 12 mixed rfl rfl
  ·intro w ab U
   refine aR 0 rfl ab (U.ak ae ay) (bE rfl) fun a ab=>aR 1 rfl ab (U.ak ae ay) (Hm bz rfl rfl (by omega)) fun a ab=>aR 3 rfl ab (U.ak ae ay) (bE rfl) fun a ab=>aR 4 rfl ab (U.ak ae ay) (Cn bz rfl rfl rfl (by omega)) fun a ab=>aR 6 rfl ab (U.ak ae ay) (bE rfl) fun a ab=>?_
   refine aR 7 rfl ab (U.ak ae ay) (Cn bz rfl rfl rfl (by omega)) fun a ab=>fy [2,10] aA rfl ⟨?_,?_,trivial⟩
   ·refine dQ _ rfl rfl ab U rfl (eI (bQ qw rfl (fun w U=>qT _ (by first | (rw [List.length_drop,List.length_take];omega) | (rw [List.length_take];omega)) w ) (fun _ _ _ h=>h))) ?_
    rintro _ _ _ a w ⟨rfl,rfl,rfl⟩ ab U
    refine ⟨⟨.inr U.ax,.inr U.ax,.inr U.ax,.inr U.ax,al,al,trivial⟩,?_⟩
    refine fy [5,10] aA rfl ⟨?_,?_,trivial⟩
    ·refine dQ _ rfl rfl ab U rfl (eI (bQ qw rfl (fun w U=>qT _ (by first | (rw [List.length_drop,List.length_take];omega) | (rw [List.length_take];omega)) w ) (fun _ _ _ h=>h))) ?_
     rintro _ _ _ a w ⟨rfl,rfl,rfl⟩ ab U
     refine ⟨⟨.inr U.ax,.inr U.ax,al,al,al,al,trivial⟩,?_⟩
     refine fy [8,10] aA rfl ⟨?_,?_,trivial⟩
     ·refine dQ _ rfl rfl ab U rfl (eI (bQ qw rfl (fun w U=>qT _ (by first | (rw [List.length_drop,List.length_take];omega) | (rw [List.length_take];omega)) w ) (fun _ _ _ h=>h))) ?_
      rintro _ _ _ a w ⟨rfl,rfl,rfl⟩ ab U
      refine ⟨⟨al,al,al,al,al,al,trivial⟩,?_⟩
      refine aR 9 rfl ab (U.ak ae ay) (hc (places:=[(0,1),(1,1),(2,1),(3,1),(4,1)]) (cells:=[_,_,_,.string ⟨(List.nil:List UInt8).toArray⟩,_]) dA aA rfl (by rfl)) fun a ab=>bW 10 rfl rfl ab U rfl (c1 dA) ?_
      rintro _ _ _ a w ⟨qp,rfl,rfl,rfl⟩ ab U
      refine ⟨⟨.inr U.ax,al,al,al,al,al,al,trivial⟩,?_⟩
      refine bW 11 rfl rfl ab U rfl (cA dA 0 rfl rfl rfl rfl aI (bn rfl (bn rfl (bn rfl (bn rfl (bn rfl dC))))) aI) ?_
      rintro _ _ _ a w ⟨rfl,rfl,rfl⟩ ab U
      refine ⟨⟨al,al,al,al,al,al,al,trivial⟩,?_⟩
      exact ei aA (ly qp (trivial) (ab.sub (L':=[(0,_),(2,_),(3,_)]) ⟨rfl,rfl,rfl,trivial⟩) U)
     ·refine dQ _ rfl rfl ab U rfl (c1 dA) ?_
      rintro _ _ _ a w ⟨qp,rfl,rfl,rfl⟩ ab U
      refine ⟨⟨.inr U.ax,.inr U.ax,al,al,al,al,trivial⟩,?_⟩
      refine bW 8 rfl rfl ab U rfl (eI (bQ qw rfl (fun w U=>qT _ (by first | (rw [List.length_drop,List.length_take];omega) | (rw [List.length_take];omega)) w ) (fun _ _ _ h=>h))) ?_
      rintro _ _ _ a w ⟨rfl,rfl,rfl⟩ ab U
      refine ⟨⟨al,al,al,al,al,al,trivial⟩,?_⟩
      refine aR 9 rfl ab (U.ak ae ay) (hc (places:=[(0,1),(1,1),(2,1),(3,1),(4,1)]) (cells:=[_,_,_,.string ⟨(List.nil:List UInt8).toArray⟩,_]) dA aA rfl (by rfl)) fun a ab=>bW 11 rfl rfl ab U rfl (cA dA 0 rfl rfl rfl rfl aI (bn rfl (bn rfl (bn rfl (bn rfl (bn rfl dC))))) aI) ?_
      rintro _ _ _ a w ⟨rfl,rfl,rfl⟩ ab U
      refine ⟨⟨al,al,al,al,al,al,al,trivial⟩,?_⟩
      exact ei aA (ly qp (trivial) (ab.sub (L':=[(0,_),(2,_),(3,_)]) ⟨rfl,rfl,rfl,trivial⟩) U)
    ·refine dQ _ rfl rfl ab U rfl (c1 dA) ?_
     rintro _ _ _ a w ⟨qp,rfl,rfl,rfl⟩ ab U
     refine ⟨⟨.inr U.ax,.inr U.ax,.inr U.ax,.inr U.ax,al,al,trivial⟩,?_⟩
     refine bW 5 rfl rfl ab U rfl (eI (bQ qw rfl (fun w U=>qT _ (by first | (rw [List.length_drop,List.length_take];omega) | (rw [List.length_take];omega)) w ) (fun _ _ _ h=>h))) ?_
     rintro _ _ _ a w ⟨rfl,rfl,rfl⟩ ab U
     refine ⟨⟨.inr U.ax,.inr U.ax,al,al,al,al,trivial⟩,?_⟩
     refine bW 8 rfl rfl ab U rfl (eI (bQ qw rfl (fun w U=>qT _ (by first | (rw [List.length_drop,List.length_take];omega) | (rw [List.length_take];omega)) w ) (fun _ _ _ h=>h))) ?_
     rintro _ _ _ a w ⟨rfl,rfl,rfl⟩ ab U
     refine ⟨⟨al,al,al,al,al,al,trivial⟩,?_⟩
     refine aR 9 rfl ab (U.ak ae ay) (hc (places:=[(0,1),(1,1),(2,1),(3,1),(4,1)]) (cells:=[_,_,_,.string ⟨(List.nil:List UInt8).toArray⟩,_]) dA aA rfl (by rfl)) fun a ab=>bW 11 rfl rfl ab U rfl (cA dA 0 rfl rfl rfl rfl aI (bn rfl (bn rfl (bn rfl (bn rfl (bn rfl dC))))) aI) ?_
     rintro _ _ _ a w ⟨rfl,rfl,rfl⟩ ab U
     refine ⟨⟨al,al,al,al,al,al,al,trivial⟩,?_⟩
     exact ei aA (ly qp (trivial) (ab.sub (L':=[(0,_),(2,_),(3,_)]) ⟨rfl,rfl,rfl,trivial⟩) U)
   ·refine dQ _ rfl rfl ab U rfl (c1 dA) ?_
    rintro _ _ _ a w ⟨qp,rfl,rfl,rfl⟩ ab U
    refine ⟨⟨.inr U.ax,.inr U.ax,.inr U.ax,.inr U.ax,.inr U.ax,.inr U.ax,trivial⟩,?_⟩
    refine bW 2 rfl rfl ab U rfl (eI (bQ qw rfl (fun w U=>qT _ (by first | (rw [List.length_drop,List.length_take];omega) | (rw [List.length_take];omega)) w ) (fun _ _ _ h=>h))) ?_
    rintro _ _ _ a w ⟨rfl,rfl,rfl⟩ ab U
    refine ⟨⟨.inr U.ax,.inr U.ax,.inr U.ax,.inr U.ax,al,al,trivial⟩,?_⟩
    refine bW 5 rfl rfl ab U rfl (eI (bQ qw rfl (fun w U=>qT _ (by first | (rw [List.length_drop,List.length_take];omega) | (rw [List.length_take];omega)) w ) (fun _ _ _ h=>h))) ?_
    rintro _ _ _ a w ⟨rfl,rfl,rfl⟩ ab U
    refine ⟨⟨.inr U.ax,.inr U.ax,al,al,al,al,trivial⟩,?_⟩
    refine bW 8 rfl rfl ab U rfl (eI (bQ qw rfl (fun w U=>qT _ (by first | (rw [List.length_drop,List.length_take];omega) | (rw [List.length_take];omega)) w ) (fun _ _ _ h=>h))) ?_
    rintro _ _ _ a w ⟨rfl,rfl,rfl⟩ ab U
    refine ⟨⟨al,al,al,al,al,al,trivial⟩,?_⟩
    refine aR 9 rfl ab (U.ak ae ay) (hc (places:=[(0,1),(1,1),(2,1),(3,1),(4,1)]) (cells:=[_,_,_,.string ⟨(List.nil:List UInt8).toArray⟩,_]) dA aA rfl (by rfl)) fun a ab=>bW 11 rfl rfl ab U rfl (cA dA 0 rfl rfl rfl rfl aI (bn rfl (bn rfl (bn rfl (bn rfl (bn rfl dC))))) aI) ?_
    rintro _ _ _ a w ⟨rfl,rfl,rfl⟩ ab U
    refine ⟨⟨al,al,al,al,al,al,al,trivial⟩,?_⟩
    exact ei aA (ly qp (trivial) (ab.sub (L':=[(0,_),(2,_),(3,_)]) ⟨rfl,rfl,rfl,trivial⟩) U)
  rintro a w ⟨qp, -,ab,U⟩
  (try dsimp only at ab U)
  replace U:aC _ [] [.blk qp 168 [az (aj.num s:Int),az (aj.par s:Int),az (aj.jx s:Int),vs [],.bool true],_] _:=U
  obtain ⟨tO,Bs,ij⟩:=aj.Hz s
  have iB:=aj.yx s
  refine b3 _ _<|ax fun et cz=>a8 fun eU cO=>aE ab U (ai rfl<|ag (Hm bz rfl rfl (by omega))<|ah) fun a w ab U=>aH ab U rfl (s8 bz bS bF rfl (by omega)) ?_
  rintro v2 _ _ a w ⟨z3,rfl,rfl,o4⟩ ab U
  refine aE ab U (ag (bQ K0 rfl (fun w U=>JT _ _ (by first | (rw [List.length_drop,List.length_take];omega) | (rw [List.length_take];omega)) w (bg.mono (U.le (.inr (by simp))) o4) (U.ext _ _ dF)) (fun _ _ _ h=>h))<|ai rfl<|ag (qX rfl rfl)<|ai rfl<|ah) fun a w ab U=>fS 6 26 3 ab U rfl rfl rfl rfl rfl (fun aO=>have aO:=(yI aO);aN 26 rfl rfl rfl (aV dA rfl rfl (s':=0) aA)<|aN 26 rfl rfl rfl (bc bG 0 rfl rfl rfl rfl)<|aN 26 rfl rfl rfl (cK rfl rfl)<|ah) rfl rfl fun a w ab U=>?_
  refine aE ab U (ai rfl<|ah) fun a w ab U=>fS 11 31 3 ab U rfl rfl rfl rfl rfl (fun aO=>have aO:=aO;aN 31 rfl rfl rfl (aV dA rfl rfl (s':=0) aA)<|aN 31 rfl rfl rfl (bc bG 0 rfl rfl rfl rfl)<|aN 31 rfl rfl rfl (eQ rfl rfl)<|ah) rfl rfl fun a w ab U=>?_
  refine aE ab U (ai rfl<|ah) fun a w ab U=>fS 16 36 7 ab U rfl rfl rfl rfl rfl (fun aO=>have aO:=aO;aN 36 rfl rfl rfl (aV dA rfl rfl (s':=0) aA)<|aN 36 rfl rfl rfl (bc bG 0 rfl rfl rfl rfl)<|aN 36 rfl rfl rfl (hd rfl rfl (by omega))<|aN 36 rfl rfl rfl (aV dA rfl rfl (s':=0) aA)<|aN 36 rfl rfl rfl (bc bG 0 rfl rfl rfl rfl)<|aN 36 rfl rfl rfl (pb rfl rfl (by omega))<|aN 36 rfl rfl rfl (eQ rfl rfl)<|ah) rfl rfl fun a w ab U=>?_
  refine aE ab U (ai rfl<|ah) fun a w ab U=>ahs (q:=(decide ((aj.jx s:Int)<1)&&decide ((0:Int)<(aj.par s:Int)))) 45 8 ab U rfl (by rfl) rfl (fun _=>h3 45 rfl rfl rfl rfl<|h3 45 rfl rfl rfl rfl<|h3 45 rfl rfl rfl rfl<|h3 45 rfl rfl rfl rfl<|wy 49 rfl rfl rfl<|wy 49 rfl rfl rfl<|wy 49 rfl rfl rfl<|h3 45 rfl rfl rfl rfl<|ah) rfl (fun aO a w ab U Dv=>?_) ?_
  ·have aO:=aO
   refine aE ab U (aN 45 rfl rfl rfl (aV dA rfl rfl (s':=0) aA)<|aN 45 rfl rfl rfl (bc bG 0 rfl rfl rfl rfl)<|aN 45 rfl rfl rfl (cK rfl rfl)<|aN 45 rfl rfl rfl (bE rfl)<|ah) fun a w ab U=>ahq 29 49 3 25 45 ab U rfl rfl rfl rfl rfl rfl rfl (fun FJ=>have FJ:=(by first | exact of_decide_eq_true FJ | exact FJ);aN 49 rfl rfl rfl (aV dA rfl rfl (s':=0) aA)<|aN 49 rfl rfl rfl (bc bG 0 rfl rfl rfl rfl)<|aN 49 rfl rfl rfl (eQ rfl rfl)<|ah) rfl rfl fun a w ab U=>?_
   refine aE ab U (ag (hY rfl rfl)<|ah) fun a w ab U=>Dv _ _ (ab.under 5 rfl rfl) U
  clear ab U;intro a w ab U
  refine wpList_nil (cO _ _ ?_)
  refine cX ab rfl (fun bs=>?_) (fun bs=>?_)
  ·(try simp only [c2] at bs)
   refine a8 fun e1 cF=>aE ab U (ag (hc (places:=[(0,1),(1,1),(2,1),(3,1),(4,1)]) (cells:=[.int .i64 0,.int .i64 0,.int .i64 0,.string ⟨(List.nil:List UInt8).toArray⟩,.bool false]) dA aA rfl (by rfl))<|ah) fun a w ab U=>aH ab U rfl (cA dA 1 rfl rfl rfl rfl aI (bn rfl (bn rfl (bn rfl (bn rfl (bn rfl dC))))) aI) ?_
   rintro _ _ _ a w ⟨rfl,rfl,rfl⟩ ab U
   replace U:=kZ U
   refine wpList_nil (cF _ _ ?_)
   refine wp_ret<|bR (rs:=[.cell 2 168]) rfl ab U (vs:=[_]) ⟨⟨_,_,_,_,_,_,_,rfl,List.mem_of_getElem? (i:=1) rfl,dA,.inl ⟨rfl,aI,rfl⟩⟩,trivial⟩ ay ay (by rw [aj.q4 (aj.aej bs)];rfl)
  ·(try simp only [c2] at bs)
   refine wp_skip<|cz _ _<|aB ab U (ag (aV dA rfl rfl (s':=0) aA)<|ag (bc bG 0 rfl rfl rfl rfl)<|ar rfl<|ah) fun a w ab U=>?_
   obtain ⟨bC,aZ,U⟩:=U.cT
   refine lK (γ:=Int) (fun (m:Int)=>[(4,az m)]) [(0,_),(2,_),(3,_)] (fun (m:Int)=>bC) (fun (m:Int)=>m=(aj.ey s:Int)) (ab.sub ⟨rfl,rfl,rfl,trivial⟩) U ?_ ?_
   ·subst aZ
    refine aB ab U (ai rfl<|ag (eQ rfl rfl)<|ah) fun a w ab U=>b9 ab rfl (fun b7=>?_) (fun b7=>?_)
    ·refine bq ab U (ar rfl<|ah) fun a w ab U=>⟨(48),?_,ab.sub ⟨rfl,rfl,rfl,rfl,trivial⟩,?_⟩
     ·unfold aj.ey;omega
     ·exact U
    ·refine wp_skip<|⟨((aj.jx s:Int)),?_,ab.sub ⟨rfl,rfl,rfl,rfl,trivial⟩,?_⟩
     ·unfold aj.ey;omega
     ·exact U
   rintro m a w ba ab U
   subst aZ;(try dsimp only at ba ab U)
   have hm:=ba
   replace U:=kZ U
   refine ax fun gQ dz=>aB ab U (ai rfl<|bX rfl rfl<|ar rfl<|ah) fun a w ab U=>wp_block ?_
   obtain ⟨bC,aZ,U⟩:=U.cT
   refine df (γ:=Nat) (8+aj.ey s) (fun (k:Nat)=>[(5,az (k:Int))]) [(0,_),(2,_),(3,_),(4,_)] (fun (k:Nat)=>bC) (fun (k:Nat)=>(8+aj.ey s≤k∧k≤56)∧∀ j,8+aj.ey s≤j→j<k→s.getD j 0=0) (fun (k:Nat)=>56-k) (ab.sub ⟨(by show some (az _)=some (az _);congr 2;omega),rfl,rfl,rfl,rfl,trivial⟩) (by subst aZ;exact U) (by exact ⟨by omega,fun j h1 aq=>absurd aq (by omega)⟩) ?_
   rintro k a w ba ab U
   subst aZ;(try dsimp only at ba ab U)
   obtain ⟨kD,bj⟩:=ba
   replace U:=kZ U
   refine ax fun iv eD=>aB ab U (ai rfl<|ag (cK rfl rfl)<|ah) fun a w ab U=>b9 ab rfl (fun dr=>?_) (fun dr=>?_)
   ·refine wp_skip<|eD _ _<|ax fun jN fa=>wp_block ?_
    refine aB ab U (ai rfl<|ai rfl<|ag (Ch bz rfl rfl (by omega))<|ag (Hj (q:=0) rfl rfl)<|ah) fun a w ab U=>eP ab rfl (fun dm=>?_) (fun dm=>?_)
    ·refine ax fun oE iW=>du ?_
     refine aE ab U (ag (hc (places:=[(0,1),(1,1),(2,1),(3,1),(4,1)]) (cells:=[.int .i64 0,.int .i64 0,.int .i64 0,.string ⟨(List.nil:List UInt8).toArray⟩,.bool false]) dA aA rfl (by rfl))<|ah) fun a w ab U=>aH ab U rfl (cA dA 1 rfl rfl rfl rfl aI (bn rfl (bn rfl (bn rfl (bn rfl (bn rfl dC))))) aI) ?_
     rintro _ _ _ a w ⟨rfl,rfl,rfl⟩ ab U
     replace U:=kZ U
     refine wpList_nil (iW _ _ ?_)
     refine wp_ret<|bR (rs:=[.cell 2 168]) rfl ab U (vs:=[_]) ⟨⟨_,_,_,_,_,_,_,rfl,List.mem_of_getElem? (i:=1) rfl,dA,.inl ⟨rfl,aI,rfl⟩⟩,trivial⟩ ay ay (by rw [aj.q4 (aj.ahI (k:=k) e4 (by omega) (by omega) (by simpa using dm))];rfl)
    ·refine wp_skip<|fa _ _<|bq ab U (ai rfl<|bX rfl rfl<|ar rfl<|ah) fun a w ab U=>⟨(k+1),?_,?_,ab.sub ⟨rfl,rfl,rfl,rfl,rfl,trivial⟩,?_⟩
     ·(try dsimp only);omega
     ·exact ⟨by omega,aj.ahG bj (by simpa using dm)⟩
     ·exact U
   ·refine wp_exit<|dz _ _<|a8 fun oF iX=>aE ab U (ai rfl<|ai rfl<|bX rfl rfl<|ag (Cn bz rfl rfl rfl (by omega))<|ag (aV dA rfl rfl (s':=0) aA)<|ah) fun a w ab U=>aH ab U rfl (c7 bz 0 rfl rfl rfl rfl (by simp)) ?_
    rintro _ _ _ a w ⟨rfl,rfl,rfl⟩ ab U
    replace U:aC _ [_] [.blk _ _ ([_,_,_,_,_].set 3 _),_] _:=U
    simp only [List.set_cons_zero,List.set_cons_succ] at U
    replace U:=kZ U
    refine wpList_nil (iX _ _ ?_)
    refine a8 fun qd kB=>aE ab U (ag (fW dA 0 rfl rfl aI rfl)<|ah) fun a w ab U=>aH ab U rfl (cA dA 1 rfl rfl rfl rfl aI (bn rfl (bn rfl (bn rfl (bn rfl (bn rfl dC))))) aI) ?_
    rintro _ _ _ a w ⟨rfl,rfl,rfl⟩ ab U
    replace U:=kZ U
    refine wpList_nil (kB _ _ ?_)
    refine wp_ret<|bR (rs:=[.cell 2 168]) rfl ab U (vs:=[_]) ⟨⟨_,_,_,_,_,_,_,rfl,List.mem_of_getElem? (i:=1) rfl,dA,.inl ⟨rfl,aI,rfl⟩⟩,trivial⟩ ay ay (by rw [aj.zB (aj.aeF e4 bs (fun j h1 aq=>bj j h1 (by omega))),hm,show (8+(aj.ey s:Int)).toNat=8+aj.ey s by omega];rfl)
end
section
theorem EB:bU Tryz.prog 27:=bY Tryz.func27
theorem Vu:bU Tryz.prog 149:=bY Tryz.func149
theorem VK:bU Tryz.prog 180:=bY Tryz.func180
theorem Ez:bU Tryz.prog 181:=bY Tryz.func181
attribute [local irreducible] aK.sum aj.eW aj.aT aj.cU
theorem acN(n:Int)(t:List UInt8)(w:World):ch Tryz.prog 149 [az n,vs t] w (fun r zs hs=>∃ b6 dk,r=.func (.func 180) (List.nil:List Value).toArray [Value.pointer (some ⟨b6,0,none⟩),Value.pointer (some ⟨dk,0,none⟩)].toArray∧zs=[]∧hs=[.blk b6 9 [vs t],.blk dk 3 [az n]]):=by
 refine cI Tryz.func149 rfl Tryz.ntmps149 (Nat.le_of_ble_eq_true rfl) fun a ab U=>a8 fun dW cR=>aH ab U rfl (m0 rfl rfl) ?_
 rintro _ _ _ a w ⟨b6,rfl,rfl,rfl⟩ ab U
 refine aH ab U rfl (m0 rfl rfl) ?_
 rintro _ _ _ a w ⟨dk,rfl,rfl,rfl⟩ ab U
 refine aE ab U (ar rfl<|ah) fun a w ab U=>wpList_nil (cR _ _ ?_)
 refine aB ab U (ag (sk rfl rfl)<|ar rfl<|ah) fun a w ab U=>wp_ret ?_
 exact bR (rs:=[.tmp 4]) rfl ab U (vs:=[_]) ⟨rfl,trivial⟩ ae ae ⟨_,_,rfl,rfl,rfl⟩
theorem acM(bT b5:Nat)(t:List UInt8)(n:Nat)(bA:n<9223372036854775808)(aM:t.length≤8000)(Y:Value)(w0:World)(bP:List aP)(cw:List av)(inv:Nat→av×av→Prop)(ra rb:av){dK:Nat×Nat}{dJ:TypeId}(dF:w0.heap[1]?=some (.cells (aK.ek.map cx).toArray dJ dK))(h0:inv 0 (ra,rb))(kC:∀ k r,k<(aj.bh t.length).toNat→inv k r→xj Tryz.prog Y (aj.OC n t k) (aC w0 bP (.blk bT 9 [vs t]::.blk b5 3 [az (n:Int)]::r.1::r.2::cw)) fun w'=>∃ eR,inv (k+1) eR∧aC w0 bP (.blk bT 9 [vs t]::.blk b5 3 [az (n:Int)]::eR.1::eR.2::cw) w'):l9 Tryz.prog 180 [Y,Value.pointer (some ⟨bT,0,none⟩),Value.pointer (some ⟨b5,0,none⟩)] w0 bP [.blk bT 9 [vs t],.blk b5 3 [az (n:Int)],ra,rb] cw (fun _ dj cV=>dj=[]∧∃ r:av×av,cV=[.blk bT 9 [vs t],.blk b5 3 [az (n:Int)],r.1,r.2]∧inv (aj.bh t.length).toNat r):=by
 refine EL Tryz.func180 rfl Tryz.ntmps180 (Nat.le_of_ble_eq_true rfl) fun a w ab U=>?_
 replace U:=fr U
 have n3:=aj.nW t.length
 have jw:∀ t,(aK.sum t).length=32:=aK.ow
 refine aB ab U (ag (bc bz 0 rfl rfl rfl rfl)<|ag (hB bz rfl)<|ag (bQ EB rfl (fun w U=>D5 _ (by first | assumption | omega) w ) (fun _ _ _ h=>h))<|ai rfl<|ah) fun a w ab U=>wp_block ?_
 obtain ⟨bC,aZ,U⟩:=U.cT
 refine df (γ:=(av×av)×Nat) ((ra,rb),0) (fun (dV,k)=>[(11,az (k:Int))]) [(0,_),(1,_),(2,_),(10,_)] (fun (dV,k)=>((bC.set 2 (dV.1)).set 3 (dV.2))) (fun (dV,k)=>k≤(aj.bh t.length).toNat∧inv k dV) (fun (dV,k)=>(aj.bh t.length).toNat-k) (ab.sub ⟨rfl,rfl,rfl,rfl,rfl,trivial⟩) (by subst aZ;exact U) (by exact ⟨Nat.zero_le _,h0⟩) ?_
 rintro ⟨dV,k⟩ a w ba ab U
 subst aZ;(try dsimp only at ba ab U)
 obtain ⟨kD,iB⟩:=ba
 replace U:=fr U
 have X5:=aj.D3 (n:=t.length) (by omega)
 refine aB ab U (ag (cK rfl rfl)<|ah) fun a w ab U=>ax fun dH cf=>b9 ab rfl (fun aS=>?_) (fun aS=>?_)
 ·refine wp_skip<|cf _ _<|ax fun dP cq=>wp_block ?_
  refine aB ab U (ai rfl<|ar rfl<|ah) fun a w ab U=>a8 fun et cz=>aH ab U rfl (c1 iQ) ?_
  rintro _ _ _ a w ⟨b6,rfl,rfl,rfl⟩ ab U
  rw [show List.replicate 64 (Value.int .u8 0)=(List.replicate 64 (0:UInt8)).map bf from by rw [List.map_replicate] <;> rfl] at U
  refine wpList_nil (cz _ _ ?_)
  refine ax fun eU cO=>bq ab U (ag (bc bz 1 rfl rfl rfl rfl)<|ai rfl<|ag (hd rfl rfl (by omega))<|ag (Co bz rfl rfl (by omega))<|ar rfl<|ah) fun a w ab U=>?_
  rw [show (48*(k:Int)).toNat=48*k by omega] at ab
  obtain ⟨rest,tT⟩:∃ r,r=List.drop (48*k) t:=⟨_,rfl⟩
  rw [← tT] at ab
  have rX:rest.length≤8000:=by rw [tT,List.length_drop];omega
  refine cO _ _<|ax fun e1 cF=>h2 2 mixed aA ab U (ag (qZ iQ bF rfl rfl (by omega))<|ag (bc bG 2 rfl rfl rfl rfl)<|ah) fun a w ab U=>aH ab U rfl (dy Ez rfl (List.Perm.refl _) (by exact (G7 _ 174 _ _ _ _ (aj.z 64) (by decide) (by omega) (by first | decide | (simp;done) | (simp [aj.kg,aj.z];done)) _ _ ))) ?_
  rintro _ _ _ a w ⟨_,_,rfl,rfl,⟨rfl,rfl,rfl⟩⟩ ab U
  replace U:=iq U
  refine wpList_nil ?_
  rw [show aj.lC (aj.z 64) 0 n (Int.toNat 4)=_ from aj.abH n] at U
  refine cF _ _<|a8 fun fY dg=>aE ab U (ag (wb iQ bF rfl rfl rfl (by omega))<|ai rfl<|ah) fun a w ab U=>aH ab U rfl (dy Ez rfl (List.Perm.refl _) (by exact (G7 _ 174 _ _ _ _ (aj.cU n 4++aj.z 60) (by decide) (by omega) (by first | decide | (simp;done) | (simp [aj.kg,aj.z];done)) _ _ ))) ?_
  rintro _ _ _ a w ⟨_,_,rfl,rfl,⟨rfl,rfl,rfl⟩⟩ ab U
  replace U:=iq U
  refine wpList_nil ?_
  rw [show aj.lC (aj.cU n 4++aj.z 60) (0+Int.toNat 4*1) k (Int.toNat 6-Int.toNat 4)=_ from aj.abI n k] at U
  refine dg _ _<|a8 fun hE dS=>aE ab U (ag (wb iQ bF rfl rfl rfl (by omega))<|ai rfl<|ag (hB bz rfl)<|ah) fun a w ab U=>aH ab U rfl (dy Ez rfl (List.Perm.refl _) (by exact (G7 _ 174 _ _ _ _ (aj.cU n 4++(aj.cU k 2++aj.z 58)) (by decide) (by omega) (by first | decide | (simp;done) | (simp [aj.kg,aj.z];done)) _ _ ))) ?_
  rintro _ _ _ a w ⟨_,_,rfl,rfl,⟨rfl,rfl,rfl⟩⟩ ab U
  replace U:=iq U
  refine wpList_nil ?_
  rw [show aj.lC (aj.cU n 4++(aj.cU k 2++aj.z 58)) (0+Int.toNat 6*1) rest.length (Int.toNat 8-Int.toNat 6)=_ from aj.abJ n k rest.length] at U
  refine dS _ _<|a8 fun gQ dz=>aE ab U (ag (wb iQ bF rfl rfl rfl (by omega))<|ai rfl<|ah) fun a w ab U=>aH ab U rfl (Uz bS bF 0 rfl rfl rfl (by simp [aj.kg,aj.z])) ?_
  rintro _ _ _ a w ⟨rfl,rfl,rfl⟩ ab U
  replace U:=iq U
  refine wpList_nil ?_
  rw [show List.take (0+Int.toNat 8*1) (aj.cU n 4++(aj.cU k 2++(aj.cU rest.length 2++aj.z 56)))++List.take (min rest.length (Int.toNat 56-Int.toNat 8)) rest++List.drop (0+Int.toNat 8*1+min rest.length (Int.toNat 56-Int.toNat 8)) (aj.cU n 4++(aj.cU k 2++(aj.cU rest.length 2++aj.z 56)))=_ from aj.abK n k rest] at U
  have Bk:(aj.aT n k rest++aj.z 8).length=64:=by rw [List.length_append,aj.tC];rfl
  refine dz _ _<|a8 fun iE eO=>aE ab U (ag (qZ iQ bF rfl rfl (by omega))<|ag (bQ KU rfl (fun w U=>QC _ _ (by rw [List.length_drop,List.length_take];omega) w (mY U 0 rfl (by first | omega | (simp;omega) | (simp [*];done) | (simp [*];omega))) (U.ext _ _ dF)) (fun _ _ _ h=>h))<|ah) fun a w ab U=>aH ab U rfl (c1 hP) ?_
  rintro _ _ _ a w ⟨uV,rfl,rfl,rfl⟩ ab U
  rw [show List.replicate 32 (Value.int .u8 0)=(List.replicate 32 (0:UInt8)).map bf from by rw [List.map_replicate] <;> rfl] at U
  refine aH ab U rfl (cA hP 0 rfl rfl rfl rfl aI bJ aI) ?_
  rintro _ _ _ a w ⟨rfl,rfl,rfl⟩ ab U
  replace U:=lB U
  refine wpList_nil ?_
  rw [show List.drop 0 (List.take (0+Int.toNat 56) (aj.aT n k rest++aj.z 8))=_ from aj.NG n k rest] at U
  refine eO _ _<|ax fun iv eD=>h2 2 mixed aA ab U (ag (Cp iQ bF rfl rfl (by omega))<|ag (qY hP bF rfl)<|ah) fun a w ab U=>aH ab U rfl (Uy bS bF 1 0 rfl rfl rfl rfl (by rw [Bk];decide) (by decide) (by rw [aK.ow];decide)) ?_
  rintro _ _ _ a w ⟨rfl,rfl,rfl⟩ ab U
  replace U:=lB U
  refine wpList_nil ?_
  rw [show List.take (0+Int.toNat 56*1) (aj.aT n k rest++aj.z 8)++List.take (64-Int.toNat 56) (aK.sum (aj.aT n k rest))++List.drop (0+Int.toNat 56*1+(64-Int.toNat 56)) (aj.aT n k rest++aj.z 8)=_ from aj.abL n k rest,show aj.jr (aj.aT n k rest)=aj.sec n t k by rw [tT];unfold aj.sec;rw [Int.toNat_natCast]] at U
  have vG:=aj.wq n t k
  refine eD _ _<|ax fun kM gr=>Cx 2 rfl ?_
  refine aE ab U (ai rfl<|ag (fW iQ 1 rfl rfl aI rfl)<|ah) fun a w ab U=>pT ?_
  ·skip
   replace U:=U.ak ae (ae.n.n)
   have rZ:=kC k dV (by omega) iB
   refine IH (ys:=[_]) (by rfl) rfl ab U rfl rfl rZ ?_
   rintro a w ab ⟨cL,tG,U⟩
   refine q5 rfl ab U (ag (fC rfl)<|ah) fun a w ab U=>wpListIn_nil ?_
   refine gr _ _<|cX ab rfl (fun h=>absurd h (by simp)) (fun _=>?_)
   refine wp_skip<|cq _ _<|bq ab U (bX rfl rfl<|ai rfl<|ah) fun a w ab U=>⟨(cL,k+1),?_,?_,ab.sub ⟨rfl,rfl,rfl,rfl,rfl,trivial⟩,?_⟩
   ·(try dsimp only);omega
   ·exact ⟨by omega,tG⟩
   ·exact U
 ·refine wp_exit ?_
  -- falls off the end
  obtain rfl:k=(aj.bh t.length).toNat:=by omega
  exact EM rfl ab U [] [_,_,_,_] ae ae ⟨rfl,_,rfl,iB⟩
theorem acK(n:Int)(t:List UInt8)(bA : -9223372036854775808≤n∧n≤9223372036854775807)(w:World){dK:Nat×Nat}{dJ:TypeId}(dF:w.heap[1]?=some (.cells (aK.ek.map cx).toArray dJ dK)):ch Tryz.prog 109 [az n,vs t] w (aj.DE 9 (aj.pack n t)):=by
 refine EK Tryz.func109 rfl Tryz.ntmps109 (Nat.le_of_ble_eq_true rfl) fun a ab U=>?_
 have n3:=aj.nW t.length
 refine aB ab U (ar rfl<|ar rfl<|ah) fun a w ab U=>ax fun cm bD=>wp_block ?_
 refine a8 fun dH cf=>aE ab U (ai rfl<|ag (cK rfl rfl)<|ai rfl<|ah) fun a w ab U=>fS 2 11 2 ab U rfl rfl rfl rfl rfl (fun aO=>have aO:=(by first | exact of_decide_eq_false aO | exact aO);aN 11 rfl rfl rfl (bE rfl)<|aN 11 rfl rfl rfl (eQ rfl rfl)<|ah) rfl rfl fun a w ab U=>?_
 refine aE ab U (ar rfl<|ah) fun a w ab U=>wpList_nil (cf _ _ ?_)
 refine cX ab rfl (fun aS=>?_) (fun aS=>?_)
 ·(try simp only [c2] at aS)
  refine aB ab U (ar rfl<|ar rfl<|ah) fun a w ab U=>wp_ret ?_
  replace U:=U.hV 9 1
  exact Lq (rs:=[.tmp 4,.tmp 5]) rfl ab U (vs:=[_,_]) ⟨rfl,rfl,trivial⟩ ay ((ay.k)) (aj.vU ⟨_,rfl,rfl,rfl⟩ (by rw [aj.Ol (by omega)]))
 ·(try simp only [c2] at aS)
  refine aB ab U (ai rfl<|ag (hB bz rfl)<|ag (eQ rfl rfl)<|ar rfl<|ah) fun a w ab U=>b9 ab rfl (fun bs=>?_) (fun bs=>?_)
  ·refine ax fun et cz=>bq ab U (ar rfl<|ar rfl<|ah) fun a w ab U=>cz _ _ ?_
   refine wp_ret ?_
   replace U:=U.hV 9 1
   exact Lq (rs:=[.tmp 4,.tmp 5]) rfl ab U (vs:=[_,_]) ⟨rfl,rfl,trivial⟩ ay ((ay.k)) (aj.vU ⟨_,rfl,rfl,rfl⟩ (by rw [aj.Om (by omega) (by omega)]))
  ·refine wp_skip<|bD _ _<|a8 fun eU cO=>aH ab U rfl (u4 cl (by rfl)) ?_
   rintro _ _ _ a w ⟨b6,rfl,rfl,rfl⟩ ab U
   refine wpList_nil (cO _ _ ?_)
   refine ax fun e1 cF=>a8 fun fY dg=>aE ab U (ai rfl<|ai rfl<|ah) fun a w ab U=>aH ab U rfl (eB Vu rfl (fun w U=>acN _ _ w )) ?_
   rintro _ _ _ a w ⟨_,_,rfl,rfl,⟨bK,bV,rfl,rfl,rfl⟩⟩ ab U
   replace U:=ez U
   refine wpList_nil (dg _ _ ?_)
   refine wp_block ?_
   obtain ⟨mB,rfl⟩:∃ m:Nat,n=(m:Int):=⟨n.toNat,by omega⟩
   replace U:=U.hV 9 1
   replace U:=iK U
   replace U:=((U.perm (.swap _ _ _)).perm hF).perm j1
   replace U:=iK U
   obtain ⟨bC,aZ,U⟩:=U.cT
   obtain ⟨jO,iY,ab⟩:∃ l,l=_∧Fr _ l _:=⟨_,rfl,ab⟩
   refine IB (ps:=[22]) (γ:=(av×av)) (ξ:=Nat) (fun r=>(bC.set 2 r.1).set 3 r.2) (fun (k:Nat) (r:av×av)=>∃ u,r=(.blk b6 40 [u],.row u 9 1 k ((aj.pk (mB:Int) t k).map vs))) ((aj.bh t.length).toNat) (fun k=>aj.OC mB t k) ((.blk b6 40 [(Value.slice none 0 0)],.row (Value.slice none 0 0) 9 1 0 [])) (fun k r x=>(7,Value.pointer (some ⟨x,0,none⟩))::(22,.agg ((aj.sec (mB:Int) t k).map bf).toArray)::jO) (fun k r x=>.blk x 174 ((aj.sec (mB:Int) t k).map bf)::(bC.set 2 r.1).set 3 r.2) ab (by subst aZ;exact U) (by subst iY;rfl) rfl (fun _=>rfl) (VK) (⟨_,rfl⟩) (fun ro GL jl dD mA mJ a w oX iG ab U=>?_) (fun Y dj tZ kC w U=>?_) (fun BM lV jl dD mA mJ gV a w oX iG ab U=>?_) (fun I D dD a w mJ il mn dh iG ab U=>?_)
   ·subst aZ iY
    (try dsimp only [kx] at ab);(try dsimp only [List.set_cons_zero,List.set_cons_succ] at U)
    replace U:aC _ [_,_] [_,_,_,_] _:=U
    obtain ⟨u,rfl⟩:=iG
    (try dsimp only at U)
    have vG:=aj.wq (mB:Int) t mA
    replace U:aC _ [_,_] [_,_,_,_] _:=U
    refine wj (by rfl) ?_
    refine aH ab U rfl (c1 iQ) ?_
    rintro _ _ _ a w ⟨kz,rfl,rfl,rfl⟩ ab U
    rw [show List.replicate 64 (Value.int .u8 0)=(List.replicate 64 (0:UInt8)).map bf from by rw [List.map_replicate] <;> rfl] at U
    refine aH ab U rfl (cA iQ 0 rfl rfl rfl rfl aI bJ aI) ?_
    rintro _ _ _ a w ⟨rfl,rfl,rfl⟩ ab U
    replace U:aC _ [_,_] [_,_,_,_,_] _:=U
    refine pT<|⟨rfl,kz,ab,U⟩
   ·subst aZ iY
    exact l9.WB (acM bK bV t mB (by omega) (by omega) Y _ dj _ (fun (k:Nat) (r:av×av)=>∃ u,r=(.blk b6 40 [u],.row u 9 1 k ((aj.pk (mB:Int) t k).map vs))) _ _ dF ⟨_,rfl⟩ kC) w U
   ·subst aZ iY
    (try dsimp only [kx] at ab);(try dsimp only [List.set_cons_zero,List.set_cons_succ] at U)
    replace U:aC _ [_,_] [_,_,_,_,_] _:=U
    obtain ⟨u,rfl⟩:=iG
    (try dsimp only at U)
    have vG:=aj.wq (mB:Int) t mA
    replace U:aC _ [_,_] [_,_,_,_,_] _:=U
    refine wpIn_block ?_
    revert U;revert ab;apply PH (J:=jM (α0:=Value) (α1:=Value) 29 _ _ _ _ _) #[false,false,false,false,false,false] 6 mixed rfl rfl;case aT=>rfl
    ·intro w ab U
     refine aR 0 rfl ab (U.ak ae (ay.k.n.n.n)) (bc cl 0 rfl rfl rfl rfl) fun a ab=>aR 1 rfl ab (U.ak ae (ay.k)) (qY iQ bF rfl) fun a ab=>aR 2 rfl ab (U.ak ae (ay.k)) (yP bS bz bF 0 rfl rfl aI) fun a ab=>bW 3 rfl rfl ab U rfl (dX cl bz rfl rfl bJ (by decide) rfl rfl) ?_
     rintro Ru _ _ a w ⟨rfl,rfl⟩ ab U
     refine ⟨⟨al,al,.inr (U.ak ae (ay.k.n.n.n.n)),trivial⟩,?_⟩
     refine bW 4 rfl rfl ab U rfl (dB cl bz 5 rfl rfl rfl (eA cl (k:=0) rfl bJ) aI rfl (by decide)) ?_
     rintro Rv _ _ a w ⟨rfl,rfl⟩ ab U
     refine ⟨⟨al,al,al,trivial⟩,?_⟩
     refine bW 5 rfl rfl ab U rfl (c7 cl 4 rfl rfl rfl (row_one (U.own _ (List.mem_of_getElem? (i:=5) rfl)).1) (by simp)) ?_
     rintro _ _ _ a w ⟨rfl,rfl,rfl⟩ ab U
     (try simp only [List.set_cons_zero,List.set_cons_succ] at U)
     replace U:aC _ [_,_] [_,_,_,_,_,_] _:=U
     refine ⟨⟨al,al,al,trivial⟩,?_⟩
     exact ei aA (kY Ru Rv (trivial) (ab.sub (L':=[]) trivial) U)
    rintro a w ⟨Ru,Rv, -,ab,U⟩
    (try dsimp only at ab U)
    replace U:=(((U.perm nj).perm mf).perm oH).perm px
    rw [aj.Qn] at U
    exact ⟨rfl,(_,_),⟨_,rfl⟩,U.ak ae (ae.n.n.k.k.k.k)⟩
   subst aZ iY
   (try dsimp only [kx] at ab);(try dsimp only [List.set_cons_zero,List.set_cons_succ] at U)
   replace U:aC _ [_] [_,_,_,_] _:=U
   obtain ⟨u,rfl⟩:=iG
   (try dsimp only at U)
   replace U:aC _ [_] [_,_,_,_] _:=U
   refine cF _ _<|aB ab U (ag (bc cl 2 rfl rfl rfl rfl)<|ar rfl<|ar rfl<|ah) fun a w ab U=>wp_ret ?_
   replace U:=U.perm qe
   exact AU [] mn dh (by simp) (by simp) (by simp) (rs:=[.tmp 4,.tmp 5]) rfl ab U (vs:=[_,_]) ⟨rfl,rfl,trivial⟩ (fun W U=>⟨[],_,U.ak ay ((ay.k)),aj.vU (q:=aj.pk (mB:Int) t (aj.bh t.length).toNat) ⟨u,rfl,rfl,by rw [aj.Qm]⟩ (by rw [aj.Cb (by omega) (by omega),aj.Ql])⟩)
end
section
theorem Ex:bU Tryz.prog 128:=bY Tryz.func128
theorem Ey:bU Tryz.prog 160:=bY Tryz.func160
attribute [local irreducible] aK.sum aj.eW aj.aT aj.cU
theorem aeY(n:Int)(t:List UInt8)(bA : -9223372036854775808≤n∧n≤9223372036854775807)(w:World){dK:Nat×Nat}{dJ:TypeId}(dF:w.heap[0]?=some (.cells (aK.ek.map cx).toArray dJ dK)):ch Tryz.prog 130 [az n,vs t] w (aj.DE 9 (aj.pack n t)):=by
 refine cI Tryz.func130 rfl Tryz.ntmps130 (Nat.le_of_ble_eq_true rfl) fun a ab U=>?_
 have n3:=aj.nW t.length
 refine aB ab U (ar rfl<|ar rfl<|ah) fun a w ab U=>ax fun cm bD=>a8 fun dH cf=>aE ab U (ai rfl<|ag (cK rfl rfl)<|ai rfl<|ah) fun a w ab U=>fS 2 14 2 ab U rfl rfl rfl rfl rfl (fun aO=>have aO:=(by first | exact of_decide_eq_false aO | exact aO);aN 14 rfl rfl rfl (bE rfl)<|aN 14 rfl rfl rfl (eQ rfl rfl)<|ah) rfl rfl fun a w ab U=>?_
 refine wpList_nil (cf _ _ ?_)
 refine cX ab rfl (fun aS=>?_) (fun aS=>?_)
 ·(try simp only [c2] at aS)
  refine aB ab U (ar rfl<|ar rfl<|ah) fun a w ab U=>wp_ret ?_
  replace U:=U.hV 9 1
  exact bR (rs:=[.tmp 4,.tmp 5]) rfl ab U (vs:=[_,_]) ⟨rfl,rfl,trivial⟩ ay ((ay.k)) (aj.vU ⟨_,rfl,rfl,rfl⟩ (by rw [aj.Ol (by omega)]))
 ·(try simp only [c2] at aS)
  refine wp_skip<|bD _ _<|ax fun dw b3=>aB ab U (ai rfl<|ag (hB bz rfl)<|ag (eQ rfl rfl)<|ah) fun a w ab U=>b9 ab rfl (fun bs=>?_) (fun bs=>?_)
  ·refine ax fun eU cO=>bq ab U (ar rfl<|ar rfl<|ah) fun a w ab U=>cO _ _ ?_
   refine wp_ret ?_
   replace U:=U.hV 9 1
   exact bR (rs:=[.tmp 4,.tmp 5]) rfl ab U (vs:=[_,_]) ⟨rfl,rfl,trivial⟩ ay ((ay.k)) (aj.vU ⟨_,rfl,rfl,rfl⟩ (by rw [aj.Om (by omega) (by omega)]))
  ·obtain ⟨mB,rfl⟩:∃ m:Nat,n=(m:Int):=⟨n.toNat,by omega⟩
   refine wp_skip<|b3 _ _<|ax fun e1 cF=>bq ab U (ar rfl<|ah) fun a w ab U=>?_
   replace U:=U.hV 9 1
   refine cF _ _<|ax fun fY dg=>aB ab U (ar rfl<|ah) fun a w ab U=>wp_block ?_
   obtain ⟨bC,aZ,U⟩:=U.cT
   refine df (γ:=Value×Nat) ((Value.slice none 0 0),0) (fun (u,k)=>[(6,u),(7,az (k:Int))]) [(0,_),(1,_)] (fun (u,k)=>(bC.set 0 (.row u 9 1 k ((aj.pk (mB:Int) t k).map vs)))) (fun (u,k)=>k≤(aj.bh t.length).toNat) (fun (u,k)=>(aj.bh t.length).toNat-k) (ab.sub ⟨rfl,rfl,rfl,rfl,trivial⟩) (by subst aZ;exact U) (by exact Nat.zero_le _) ?_
   rintro ⟨u,k⟩ a w ba ab U
   subst aZ;(try dsimp only at ba ab U)
   have kD:=ba
   replace U:=eJ U
   have X5:=aj.D3 (n:=t.length) (by omega)
   refine ax fun gQ dz=>aB ab U (ai rfl<|ai rfl<|ag (hB bz rfl)<|ag (bQ Ex rfl (fun w U=>Gz _ (by first | assumption | omega) w ) (fun _ _ _ h=>h))<|ag (cK rfl rfl)<|ah) fun a w ab U=>b9 ab rfl (fun b7=>?_) (fun b7=>?_)
   ·refine wp_skip<|dz _ _<|ax fun iv eD=>wp_block ?_
    refine ax fun kM gr=>bq ab U (ai rfl<|ai rfl<|ag (hd rfl rfl (by omega))<|ag (Co bz rfl rfl (by omega))<|ar rfl<|ah) fun a w ab U=>?_
    rw [show (48*(k:Int)).toNat=48*k by omega] at ab
    obtain ⟨rest,tT⟩:∃ r,r=List.drop (48*k) t:=⟨_,rfl⟩
    rw [← tT] at ab
    have rX:rest.length≤8000:=by rw [tT,List.length_drop];omega
    refine gr _ _<|a8 fun jN fa=>aE ab U (ai rfl<|ah) fun a w ab U=>aH ab U rfl (eB Ey rfl (fun w U=>HX mB 4 (by omega) (by omega) w )) ?_
    rintro v2 _ _ a w ⟨_,_,rfl,rfl,rfl,rfl⟩ ab U
    replace U:=eK U
    refine aE ab U (ar rfl<|ah) fun a w ab U=>wpList_nil (fa _ _ ?_)
    refine a8 fun mc hh=>aE ab U (ai rfl<|ai rfl<|ah) fun a w ab U=>aH ab U rfl (eB Ey rfl (fun w U=>HX k 2 (by omega) (by omega) w )) ?_
    rintro v4 _ _ a w ⟨_,_,rfl,rfl,rfl,rfl⟩ ab U
    replace U:=ez U
    refine aH ab U rfl (dB bS bF 1 rfl rfl rfl (eA bS (k:=0) rfl bJ) aI rfl (by decide)) ?_
    rintro v6 _ _ a w ⟨rfl,rfl⟩ ab U
    replace U:=ez U
    refine aE ab U (ar rfl<|ah) fun a w ab U=>wpList_nil (hh _ _ ?_)
    refine a8 fun oE iW=>aE ab U (ai rfl<|ai rfl<|ag (hB bz rfl)<|ah) fun a w ab U=>aH ab U rfl (eB Ey rfl (fun w U=>HX rest.length 2 (by omega) (by omega) w )) ?_
    rintro mR _ _ a w ⟨_,_,rfl,rfl,rfl,rfl⟩ ab U
    replace U:=iK U
    refine aH ab U rfl (dB bS bF 2 rfl rfl rfl (eA bS (k:=0) rfl bJ) aI rfl (by decide)) ?_
    rintro v9 _ _ a w ⟨rfl,rfl⟩ ab U
    replace U:=iK U
    refine aE ab U (ar rfl<|ah) fun a w ab U=>wpList_nil (iW _ _ ?_)
    refine ax fun oF iX=>aB ab U (ar rfl<|ah) fun a w ab U=>wp_block ?_
    obtain ⟨bC,aZ,U⟩:=U.cT
    refine df (γ:=Value×Nat) (v9,0) (fun (wD,i)=>[(9,wD),(10,az (i:Int))]) [(0,_),(1,_),(6,_),(7,_),(8,_)] (fun (wD,i)=>(bC.set 2 (.row wD 5 1 (8+i) ((aj.rN mB k rest i).map bf)))) (fun (wD,i)=>i≤48) (fun (wD,i)=>48-i) (ab.sub ⟨rfl,rfl,rfl,rfl,rfl,rfl,rfl,trivial⟩) (by subst aZ;rw [aj.X9] at U;exact U) (by exact Nat.zero_le _) ?_
    rintro ⟨wD,i⟩ a w ba ab U
    subst aZ;(try dsimp only at ba ab U)
    have eu:=ba
    replace U:=iK U
    refine ax fun pr jF=>aB ab U (ai rfl<|ag (cK rfl rfl)<|ah) fun a w ab U=>b9 ab rfl (fun dr=>?_) (fun dr=>?_)
    ·refine wp_skip<|jF _ _<|ax fun sL mo=>wp_block ?_
     refine aB ab U (ar rfl<|ah) fun a w ab U=>?_
     obtain ⟨bC,aZ,U⟩:=U.cT
     refine lK (γ:=UInt8) (fun (c:UInt8)=>[(11,bf c)]) [(0,_),(1,_),(6,_),(7,_),(8,_),(9,_),(10,_)] (fun (c:UInt8)=>bC) (fun (c:UInt8)=>c=rest.getD i 0) (ab.sub ⟨rfl,rfl,rfl,rfl,rfl,rfl,rfl,trivial⟩) U ?_ ?_
     ·subst aZ
      refine aB ab U (ai rfl<|ai rfl<|ag (hB bz rfl)<|ag (cK rfl rfl)<|ah) fun a w ab U=>b9 ab rfl (fun dm=>?_) (fun dm=>?_)
      ·refine bq ab U (ai rfl<|ai rfl<|ag (Ch bz rfl rfl (by omega))<|ar rfl<|ah) fun a w ab U=>⟨(rest.getD (i:Int).toNat 0),?_,ab.sub ⟨rfl,rfl,rfl,rfl,rfl,rfl,rfl,rfl,trivial⟩,?_⟩
       ·rw [Int.toNat_natCast]
       ·exact U
      ·refine wp_skip<|⟨(0),?_,ab.sub ⟨rfl,rfl,rfl,rfl,rfl,rfl,rfl,rfl,trivial⟩,?_⟩
       ·rw [List.getD_eq_getElem?_getD,List.getElem?_eq_none (by omega)];rfl
       ·exact U
     rintro c a w ba ab U
     subst aZ;(try dsimp only at ba ab U)
     have n2:=ba
     replace U:=iK U
     refine du<|aE ab U (ai rfl<|ai rfl<|ah) fun a w ab U=>aH ab U rfl (dX bS bF rfl rfl bJ (by decide) rfl rfl) ?_
     rintro v10 _ _ a w ⟨rfl,rfl⟩ ab U
     replace U:=mC U
     refine aH ab U rfl (dB bS bF 3 rfl rfl rfl (eA bS (k:=0) rfl bJ) aI rfl (by decide)) ?_
     rintro v12 _ _ a w ⟨rfl,rfl⟩ ab U
     replace U:=mC U
     refine aE ab U (ar rfl<|ah) fun a w ab U=>wpList_nil (mo _ _ ?_)
     refine bq ab U (ai rfl<|bX rfl rfl<|ar rfl<|ah) fun a w ab U=>?_
     replace U:=U.ak ay (ae.n)
     refine ⟨(v12,i+1),?_,?_,ab.sub ⟨rfl,rfl,rfl,rfl,rfl,rfl,rfl,trivial⟩,?_⟩
     ·(try dsimp only);omega
     ·omega
     ·subst n2
      rw [aj.Yb] at U
      exact U
    ·obtain rfl:i=48:=by omega
     rw [aj.Ya] at U
     have Bk:=aj.tC mB k rest
     refine wp_exit<|iX _ _<|du ?_
     refine aE ab U (ai rfl<|ai rfl<|ag (bQ K0 rfl (fun w U=>JT _ _ (by first | assumption | omega) w (k2 (U.own _ (List.mem_of_getElem? (i:=2) rfl)).1 (by first | assumption | (simp;done)) (by first | rfl | (simp;done) | (simp;omega) | omega) (by first | omega | (simp;omega))) (U.ext _ _ dF)) (fun _ _ _ h=>h))<|ah) fun a w ab U=>aH ab U rfl (dX cl bz rfl rfl bJ (by decide) rfl rfl) ?_
     rintro wF _ _ a w ⟨rfl,rfl⟩ ab U
     replace U:=mC U
     refine aH ab U rfl (dB cl bz 4 rfl rfl rfl (eA cl (k:=0) rfl bJ) aI rfl (by decide)) ?_
     rintro Il _ _ a w ⟨rfl,rfl⟩ ab U
     replace U:=mC U
     refine aE ab U (ar rfl<|ah) fun a w ab U=>wpList_nil (eD _ _ ?_)
     refine bq ab U (ai rfl<|bX rfl rfl<|ar rfl<|ah) fun a w ab U=>?_
     replace U:=U.ak ay (ae.n.n.n.n)
     refine ⟨(Il,k+1),?_,?_,ab.sub ⟨rfl,rfl,rfl,rfl,trivial⟩,?_⟩
     ·(try dsimp only);omega
     ·omega
     ·rw [tT,aj.afz,aj.Qn] at U
      exact U
   ·obtain rfl:k=(aj.bh t.length).toNat:=by omega
    refine wp_exit<|dg _ _<|aB ab U (ai rfl<|ar rfl<|ar rfl<|ah) fun a w ab U=>wp_ret ?_
    exact bR (rs:=[.tmp 4,.tmp 5]) rfl ab U (vs:=[_,_]) ⟨rfl,rfl,trivial⟩ ay ((ay.k)) (aj.vU (q:=aj.pk (mB:Int) t (aj.bh t.length).toNat) ⟨u,rfl,rfl,by rw [aj.Qm]⟩ (by rw [aj.Cb (by omega) (by omega),aj.Ql]))
end
section
theorem oy:a1 Tryz.prog 173 (.slice 130) 1 24 (Value.slice none 0 0):=⟨Tryz.underlying173,by kernel_rfl⟩
attribute [local irreducible] aK.sum aj.eW aj.aT aj.cU aj.bh
theorem aev(v:Value)(xs:List aj.Part)(h0:xs≠[])(w:World)(au:bg aj.Kx (b1 w) v xs):ch Tryz.prog 94 [v] w (fun r _ _=>r=.tuple [vs (aj.l1 xs).1,az (aj.l1 xs).2.1,.bool (aj.l1 xs).2.2].toArray):=by
 refine cI Tryz.func94 rfl Tryz.ntmps94 (Nat.le_of_ble_eq_true rfl) fun a ab U=>?_
 have cZ:=au.1
 have kF:=IT au
 have ZT:0<xs.length:=List.length_pos_iff.2 h0
 have bw:aj.oJ (aj.f0 xs):=(IU aj.cu au ZT).2
 obtain ⟨⟨vw,FD⟩,⟨FE,Yv⟩,⟨Yw,Yx⟩,ajU⟩:=bw
 refine aB ab U (ar rfl<|ar rfl<|ar rfl<|ah) fun a w ab U=>a8 fun cm bD=>aE ab U (ai rfl<|ag (dG oy dI au rfl rfl (by omega))<|ag (Ci dI au cD rfl rfl (by first | omega | (simp;omega)))<|ah) fun a w ab U=>aH ab U rfl (c1 dI) ?_
 rintro _ _ _ a w ⟨b6,rfl,rfl,rfl⟩ ab U
 refine aH ab U rfl (cA dI 0 rfl rfl rfl rfl aI (bn rfl (bn rfl (bn rfl (bn rfl (bn rfl dC))))) aI) ?_
 rintro _ _ _ a w ⟨rfl,rfl,rfl⟩ ab U
 replace U:=eJ U
 refine wpList_nil ?_
 replace U:aC _ [] [.blk b6 130 [az (aj.f0 xs).n,az (aj.f0 xs).p,az (aj.f0 xs).l,vs (aj.f0 xs).t,.bool (aj.f0 xs).ok]] _:=U
 refine bD _ _<|ax fun dH cf=>bq ab U (ag (aV dI rfl rfl (s':=0) aA)<|ag (bc bG 0 rfl rfl rfl rfl)<|ag (bQ EB rfl (fun w U=>D5 _ (by first | assumption | omega) w ) (fun _ _ _ h=>h))<|ar rfl<|ah) fun a w ab U=>?_
 have rL:=aj.AA ⟨Yw,Yx⟩
 have n3:=aj.nW (aj.f0 xs).l
 refine cf _ _<|ax fun dP cq=>a8 fun dw b3=>aE ab U (ag (aV dI rfl rfl (s':=0) aA)<|ag (bc fg 0 rfl rfl rfl rfl)<|ag (fC rfl)<|ai rfl<|ah) fun a w ab U=>fS 3 19 3 ab U rfl rfl rfl rfl rfl (fun aO=>have aO:=aO;aN 19 rfl rfl rfl (aV dI rfl rfl (s':=0) aA)<|aN 19 rfl rfl rfl (bc bG 0 rfl rfl rfl rfl)<|aN 19 rfl rfl rfl (dM rfl rfl)<|ah) rfl rfl fun a w ab U=>?_
 refine aE ab U (ai rfl<|ah) fun a w ab U=>fS 8 24 4 ab U rfl rfl rfl rfl rfl (fun aO=>have aO:=aO;aN 24 rfl rfl rfl (bE rfl)<|aN 24 rfl rfl rfl (bE rfl)<|aN 24 rfl rfl rfl (dL oy au rfl)<|aN 24 rfl rfl rfl (eQ rfl rfl)<|ah) rfl rfl fun a w ab U=>?_
 refine wpList_nil (b3 _ _ ?_)
 refine cX ab rfl (fun aS=>?_) (fun aS=>?_)
 ·(try simp only [c2] at aS)
  refine aB ab U (ar rfl<|ar rfl<|ar rfl<|ah) fun a w ab U=>wp_ret ?_
  exact bR (rs:=[.tmp 2,.tmp 3,.tmp 4]) rfl ab U (vs:=[_,_,_]) ⟨rfl,rfl,rfl,trivial⟩ ay ay (by rw [aj.rec_1 h0 aS])
 ·(try simp only [c2] at aS)
  refine wp_skip<|cq _ _<|aB ab U (ar rfl<|ah) fun a w ab U=>ax fun e1 cF=>ax fun fY dg=>?_
  refine bq ab U (ai rfl<|ai rfl<|ag (Hn oy dI au rfl rfl (by omega))<|ag (dL oy (bg.cut au (by omega)) rfl)<|ai rfl<|ah) fun a w ab U=>?_
  have Bp:(List.drop 0 (List.take (aj.bh (aj.f0 xs).l).toNat xs)).length=(aj.bh (aj.f0 xs).l).toNat:=by rw [List.length_drop,List.length_take];omega
  refine dg _ _<|wp_block ?_
  obtain ⟨bC,aZ,U⟩:=U.cT
  refine df (γ:=Nat) (0) (fun (k:Nat)=>[(7,vs (aj.mM ((List.drop 0 (List.take (aj.bh (aj.f0 xs).l).toNat xs)).take k))),(34,az (k:Int))]) [(5,_),(6,_),(32,_),(33,_)] (fun (k:Nat)=>bC) (fun (k:Nat)=>k≤(aj.bh (aj.f0 xs).l).toNat∧aj.hA (aj.f0 xs) 0 ((List.drop 0 (List.take (aj.bh (aj.f0 xs).l).toNat xs)).take k)=true) (fun (k:Nat)=>(aj.bh (aj.f0 xs).l).toNat-k) (ab.sub ⟨rfl,rfl,rfl,rfl,rfl,rfl,trivial⟩) (by subst aZ;exact U) (by exact ⟨Nat.zero_le _,rfl⟩) ?_
  rintro k a w ba ab U
  subst aZ;(try dsimp only at ba ab U)
  obtain ⟨kD,ye⟩:=ba
  replace U:=eJ U
  have o2:=aj.Ic (l:=(List.drop 0 (List.take (aj.bh (aj.f0 xs).l).toNat xs)).take k) (fun x aL=>kF x (aj.abA x aL))
  rw [List.length_take] at o2
  refine aB ab U (ag (cK rfl rfl)<|ah) fun a w ab U=>ax fun gQ dz=>b9 ab rfl (fun bs=>?_) (fun bs=>?_)
  ·have XQ:=kF _ (aj.abz (xs:=xs) (m:=(aj.bh (aj.f0 xs).l).toNat) (k:=k) (by omega))
   obtain ⟨⟨alq,alr⟩,⟨als,alu⟩,⟨alv,alw⟩,alx⟩:=XQ
   refine wp_skip<|dz _ _<|ax fun iE eO=>wp_block ?_
   refine a8 fun iv eD=>aE ab U (ai rfl<|ag (dG oy dI (bg.cut au (by omega)) rfl rfl (by omega))<|ag (Ci dI (bg.cut au (by omega)) cD rfl rfl (by first | omega | (simp;omega)))<|ah) fun a w ab U=>aH ab U rfl (c1 dI) ?_
   rintro _ _ _ a w ⟨dk,rfl,rfl,rfl⟩ ab U
   refine aE ab U (ar rfl<|ah) fun a w ab U=>aH ab U rfl (cA dI 0 rfl rfl rfl rfl aI (bn rfl (bn rfl (bn rfl (bn rfl (bn rfl dC))))) aI) ?_
   rintro _ _ _ a w ⟨rfl,rfl,rfl⟩ ab U
   replace U:=eK U
   refine wpList_nil ?_
   rw [show ((k:Int)).toNat=k from Int.toNat_natCast k] at U
   replace U:aC _ [] [.blk dk 130 [az ((List.drop 0 (List.take (aj.bh (aj.f0 xs).l).toNat xs)).getD k aj.cu).n,az ((List.drop 0 (List.take (aj.bh (aj.f0 xs).l).toNat xs)).getD k aj.cu).p,az ((List.drop 0 (List.take (aj.bh (aj.f0 xs).l).toNat xs)).getD k aj.cu).l,vs ((List.drop 0 (List.take (aj.bh (aj.f0 xs).l).toNat xs)).getD k aj.cu).t,.bool ((List.drop 0 (List.take (aj.bh (aj.f0 xs).l).toNat xs)).getD k aj.cu).ok],_] _:=U
   refine eD _ _<|ax fun kM gr=>a8 fun jN fa=>aE ab U (ag (aV dI rfl rfl (s':=0) aA)<|ag (bc fg 0 rfl rfl rfl rfl)<|ag (fC rfl)<|ai rfl<|ah) fun a w ab U=>fS 3 42 5 ab U rfl rfl rfl rfl rfl (fun aO=>have aO:=aO;aN 42 rfl rfl rfl (aV dI rfl rfl (s':=0) aA)<|aN 42 rfl rfl rfl (bc bG 0 rfl rfl rfl rfl)<|aN 42 rfl rfl rfl (aV dI rfl rfl (s':=0) aA)<|aN 42 rfl rfl rfl (bc bG 1 rfl rfl rfl rfl)<|aN 42 rfl rfl rfl (dM rfl rfl)<|ah) rfl rfl fun a w ab U=>?_
   refine aE ab U (ai rfl<|ah) fun a w ab U=>fS 10 49 4 ab U rfl rfl rfl rfl rfl (fun aO=>have aO:=aO;aN 49 rfl rfl rfl (aV dI rfl rfl (s':=0) aA)<|aN 49 rfl rfl rfl (bc bG 0 rfl rfl rfl rfl)<|aN 49 rfl rfl rfl (bE rfl)<|aN 49 rfl rfl rfl (dM rfl rfl)<|ah) rfl rfl fun a w ab U=>?_
   refine aE ab U (ai rfl<|ah) fun a w ab U=>fS 16 55 8 ab U rfl rfl rfl rfl rfl (fun aO=>have aO:=aO;aN 55 rfl rfl rfl (aV dI rfl rfl (s':=0) aA)<|aN 55 rfl rfl rfl (bc bG 0 rfl rfl rfl rfl)<|aN 55 rfl rfl rfl (aV dI rfl rfl (s':=0) aA)<|aN 55 rfl rfl rfl (bc bG 1 rfl rfl rfl rfl)<|aN 55 rfl rfl rfl (bE rfl)<|aN 55 rfl rfl rfl (hd rfl rfl (by omega))<|aN 55 rfl rfl rfl (na rfl rfl (by omega))<|aN 55 rfl rfl rfl (dM rfl rfl)<|ah) rfl rfl fun a w ab U=>?_
   refine wpList_nil (fa _ _ ?_)
   refine cX ab rfl (fun b7=>?_) (fun b7=>?_)
   ·(try simp only [c2] at b7)
    refine aB ab U (ar rfl<|ar rfl<|ar rfl<|ah) fun a w ab U=>wp_ret ?_
    exact bR (rs:=[.tmp 2,.tmp 3,.tmp 4]) rfl ab U (vs:=[_,_,_]) ⟨rfl,rfl,rfl,trivial⟩ ay ay (by rw [aj.rec_2 h0 (aj.NW (l:=(List.drop 0 (List.take (aj.bh (aj.f0 xs).l).toNat xs))) (k:=k) (by omega) b7)])
   ·(try simp only [c2] at b7)
    refine wp_skip<|gr _ _<|bq ab U (ai rfl<|ag (aV dI rfl rfl (s':=0) aA)<|ag (bc bz 0 rfl rfl rfl rfl)<|ag (Ce rfl rfl aI)<|ar rfl<|ah) fun a w ab U=>eO _ _ ?_
    refine bq ab U (bX rfl rfl<|ai rfl<|ah) fun a w ab U=>?_
    replace U:=U.ak ay (ae.n)
    refine ⟨(k+1),?_,?_,ab.sub ⟨(by show some (vs _)=some (vs _);rw [aj.QO (by omega)]),rfl,rfl,rfl,rfl,rfl,trivial⟩,?_⟩
    ·(try dsimp only);omega
    ·exact ⟨by omega,aj.ab2 (by omega) ye b7⟩
    ·exact U
  ·have akx:k=(aj.bh (aj.f0 xs).l).toNat:=by omega
   rw [show (List.drop 0 (List.take (aj.bh (aj.f0 xs).l).toNat xs)).take k=xs.take (aj.bh (aj.f0 xs).l).toNat from by rw [List.take_of_length_le (by omega)];rfl] at ab ye
   refine wp_exit<|cF _ _<|aB ab U (ai rfl<|ai rfl<|ar rfl<|ar rfl<|ar rfl<|ah) fun a w ab U=>wp_ret ?_
   exact bR (rs:=[.tmp 2,.tmp 3,.tmp 4]) rfl ab U (vs:=[_,_,_]) ⟨rfl,rfl,rfl,trivial⟩ ay ay (by rw [aj.rec_3 h0 aS rL ye,Int.toNat_of_nonneg n3.1])
theorem TG(v:Value)(xs:List (List UInt8))(hl:xs.length<1048576)(w:World)(au:bg Go.aJ.encS (b1 w) v xs):ch Tryz.prog 96 [v] w (fun r zs hs=>zs=[]∧hs=[.row r 9 1 xs.length (xs.map vs)]):=by
 refine cI Tryz.func96 rfl Tryz.ntmps96 (Nat.le_of_ble_eq_true rfl) fun a ab U=>?_
 have cZ:=au.1
 refine aB ab U (ar rfl<|ah) fun a w ab U=>ax fun cm bD=>aB ab U (ai rfl<|ag (OL cl au rfl rfl)<|ah) fun a w ab U=>cX ab rfl (fun aS=>?_) (fun aS=>?_)
 ·obtain rfl:=N2 au aS
  refine ax fun dP cq=>bq ab U (ar rfl<|ah) fun a w ab U=>?_
  replace U:=U.hV 9 1
  refine cq _ _<|wp_ret ?_
  exact bR (rs:=[.tmp 2]) rfl ab U (vs:=[_]) ⟨rfl,trivial⟩ ae ae ⟨rfl,rfl⟩
 ·refine wp_skip<|bD _ _<|a8 fun dw b3=>aH ab U rfl (u5 cl bz) ?_
  rintro v1 _ _ a w ⟨rfl,rfl⟩ ab U
  replace U:=eJ U
  refine aE ab U (ai rfl<|ah) fun a w ab U=>aH ab U rfl (dB cl bz 0 rfl rfl rfl (CJ cl au cD) aI rfl (by decide)) ?_
  rintro v3 _ _ a w ⟨rfl,rfl⟩ ab U
  replace U:=eJ U
  refine aE ab U (ar rfl<|ah) fun a w ab U=>wpList_nil ?_
  replace U:=U.CD (Nat.zero_add _) (List.nil_append _)
  refine b3 _ _<|wp_ret ?_
  exact bR (rs:=[.tmp 2]) rfl ab U (vs:=[_]) ⟨rfl,trivial⟩ ae ae ⟨rfl,rfl⟩
end
section
theorem ff : a1 Tryz.prog 172 (.struct #[⟨ "d", 46, 0, false, "", "culprit/journal", 0⟩, ⟨ "numbers", 22, 1, false, "", "culprit/journal", 8⟩, ⟨ "bad", 22, 2, false, "", "culprit/journal", 32⟩, ⟨ "texts", 40, 3, false, "", "culprit/journal", 56⟩, ⟨ "next", 3, 4, false, "", "culprit/journal", 80⟩, ⟨ "end", 3, 5, false, "", "culprit/journal", 88⟩, ⟨ "closed", 4, 6, false, "", "culprit/journal", 96⟩]) 7 104 (.agg ([Value.pointer none] ++ [Value.slice none 0 0, Value.slice none 0 0, Value.slice none 0 0] ++ [Value.int .i64 0, Value.int .i64 0] ++ [Value.bool false]).toArray) := ⟨Tryz.underlying172, by kernel_rfl⟩
theorem Wk:bU Tryz.prog 96:=bY Tryz.func96
abbrev lO:=aj.Dq 172 3 9
attribute [local irreducible] aK.sum aj.eW aj.aT aj.cU aj.bh
theorem aaq(b pd:Nat)(J:aj.dn)(w0:World)(bP:List aP){cj ck cr ct:av}(ej:lO b pd J cj ck cr ct):eH Tryz.prog 53 [.pointer (some ⟨b,0,none⟩)] w0 bP [cj,ck,cr,ct] (aj.Dr (lO b pd) 9 J J.tx.length (J.tx.map vs)):=by
 refine fF Tryz.func53 rfl Tryz.ntmps53 (Nat.le_of_ble_eq_true rfl) fun cw a w ab U=>?_
 replace U:=fr U
 obtain ⟨vn,vbd,iD,eF,rfl,rfl,rfl,rfl⟩:=ej
 have pL:=eF.lY
 have lu:=eF.oe
 have vA:=eF.bK
 have FP:=eF.bV
 have FQ:=eF.nl
 have FR:=eF.tl
 have FT:=eF.bl
 have Bl:=eF.pW
 have FU:=eF.pA
 have FO:=eF.ox
 replace U:=fr U
 refine aB ab U (ar rfl<|ah) fun a w ab U=>a8 fun cm bD=>aE ab U (ai rfl<|ag (bI rfl)<|ag (aV ff rfl rfl (s':=0) aA)<|ag (bc cl 0 rfl rfl rfl rfl)<|ah) fun a w ab U=>aH ab U rfl (eB Wk rfl (fun w U=>TG _ _ (by first | assumption | omega) w (k2 (U.own _ (List.mem_of_getElem? (i:=3) rfl)).1 (by first | assumption | (simp;done)) (by first | rfl | (simp;done) | (simp;omega) | omega) (by first | omega | (simp;omega))))) ?_
 rintro v1 _ _ a w ⟨_,_,rfl,rfl,⟨rfl,rfl⟩⟩ ab U
 replace U:=iq U
 refine aE ab U (ar rfl<|ah) fun a w ab U=>wpList_nil (bD _ _ ?_)
 refine wp_ret<|cQ (rs:=[.tmp 2]) rfl ab U (vs:=[_]) ⟨rfl,trivial⟩ [] [_,_,_,_,_] ae ae (aj.aap ⟨rfl,_,_,_,_,rfl,⟨vn,vbd,iD,eF,rfl,rfl,rfl,rfl⟩⟩ rfl rfl)
end
section
theorem nQ:a1 Tryz.prog 46 (.pointer 124) 1 8 (Value.pointer none):=⟨Tryz.underlying46,by kernel_rfl⟩
theorem K9:bU Tryz.prog 29:=bY Tryz.func29
theorem Lp:bU Tryz.prog 93:=bY Tryz.func93
theorem U6:bU Tryz.prog 108:=bY Tryz.func108
theorem U7:bU Tryz.prog 109:=bY Tryz.func109
theorem U8:bU Tryz.prog 110:=bY Tryz.func110
theorem Vw:bU Tryz.prog 150:=bY Tryz.func150
theorem Vx:bU Tryz.prog 151:=bY Tryz.func151
attribute [local irreducible] aK.sum aj.eW aj.aT aj.cU aj.bh
theorem aao(h:ao.hr)(b:Nat)(J:aj.dn)(S:ao.aX)(w0:World)(bP:List aP){cj ck cr ct d1 d2 d3 d4:av}(ej:lO b h.b J cj ck cr ct)(dh:gX h S d1 d2 d3 d4):eH Tryz.prog 108 [.pointer (some ⟨b,0,none⟩)] w0 bP [cj,ck,cr,ct,d1,d2,d3,d4] (aj.w2 (lO b h.b) (gX h) J S (az (aj.room J S))):=by
 refine fF Tryz.func108 rfl Tryz.ntmps108 (Nat.le_of_ble_eq_true rfl) fun cw a w ab U=>?_
 replace U:=hW U
 obtain ⟨vn,vbd,iD,eF,rfl,rfl,rfl,rfl⟩:=ej
 have pL:=eF.lY
 have lu:=eF.oe
 have vA:=eF.bK
 have FP:=eF.bV
 have FQ:=eF.nl
 have FR:=eF.tl
 have FT:=eF.bl
 have Bl:=eF.pW
 have FU:=eF.pA
 have FO:=eF.ox
 replace U:=hW U
 have bB:=dh.ok
 have e5:=bB.lo
 have gg:=bB.aG
 refine aB ab U (ar rfl<|ah) fun a w ab U=>ax fun cm bD=>?_
 revert U;revert ab;apply ho (J:=uJ (α0:=av) (α1:=av) (α2:=av) (α3:=av) 13 _ _ _ _ _) #[false,false,false,false,false,false,false,false,false,false,false] 11 mixed rfl rfl
 ·intro w ab U
  refine aR 0 rfl ab (U.ak ae (ae.n.n.n.n.n.n.n.n)) (bE rfl) fun a ab=>aR 1 rfl ab (U.ak ae (ae.n.n.n.n.n.n.n.n)) (bI rfl) fun a ab=>aR 2 rfl ab (U.ak ae (ae.n.n.n.n.n.n.n.n)) (aV ff rfl rfl (s':=0) aA) fun a ab=>aR 3 rfl ab (U.ak ae (ae.n.n.n.n.n.n.n.k)) (bc nQ 0 rfl rfl rfl rfl) fun a ab=>aR 5 rfl ab (U.ak ae (ae.n.n.n.n.n.n.n.n)) (bE rfl) fun a ab=>?_
  refine aR 6 rfl ab (U.ak ae (ae.n.n.n.n.n.n.n.n)) (bI rfl) fun a ab=>aR 7 rfl ab (U.ak ae (ae.n.n.n.n.n.n.n.n)) (aV ff rfl rfl (s':=0) aA) fun a ab=>aR 8 rfl ab (U.ak ae (ae.n.n.n.n.n.n.n.k)) (bc bG 0 rfl rfl rfl rfl) fun a ab=>fy [4] aA rfl ⟨?_,trivial⟩
  replace U:=(((U.perm kq).perm lh).perm lj).perm lQ
  replace U:=hW U
  refine dQ _ rfl rfl ab U rfl (dy Lp rfl (List.Perm.refl _) (by exact (J7 _ _ _ _  dh))) ?_
  rintro _ _ _ a w ⟨_,_,rfl,rfl,⟨rfl,rfl,O4,Pd,Pn,Pw,rfl,E2⟩⟩ ab U
  replace U:=hW U
  refine ⟨⟨.inr (U.ak ae (ae.n.n.n.k.n.n.n.n)),.inr (U.ak ae (ae.n.n.n.n.n.n.n.n)),.inr (U.ak ae (ae.n.n.n.n.n.n.n.n)),.inr (U.ak ae (ae.n.n.n.n.n.n.n.n)),al,al,.inr (U.ak ae (ae.n.n.n.n.n.n.n.n)),.inr (U.ak ae (ae.n.n.n.n.n.n.n.n)),trivial⟩,?_⟩
  refine aR 9 rfl ab (U.ak ae (ae.n.n.n.n.n.n.n.n)) (na rfl rfl (by omega)) fun a ab=>aR 10 rfl ab (U.ak ae (ae.n.n.n.n.n.n.n.n)) (lD rfl) fun a ab=>ei aA (qN O4 Pd Pn Pw ((And.intro E2 trivial)) (ab.sub (L':=[(2,_)]) ⟨rfl,trivial⟩) U)
 rintro a w ⟨O4,Pd,Pn,Pw,⟨E2, -⟩,ab,U⟩
 (try dsimp only at ab U)
 refine bD _ _<|wp_ret ?_
 replace U:=(((U.perm kq).perm lh).perm lj).perm lQ
 exact cQ (rs:=[.tmp 2]) rfl ab U (vs:=[_]) ⟨rfl,trivial⟩ [] [_,_,_,_,_,_,_,_] ae ae (aj.o5 (J:=J) (S:=S) ⟨rfl,rfl,_,_,_,_,_,_,_,_,rfl,⟨vn,vbd,iD,eF,rfl,rfl,rfl,rfl⟩,E2⟩ (rfl) (rfl) (rfl))
theorem aar(h:ao.hr)(b:Nat)(J:aj.dn)(S:ao.aX)(at9:Int)(v:Value)(l:List (List UInt8))(a7:0≤at9∧at9≤4096)(hl:l.length≤200)(w0:World)(bP:List aP){cj ck cr ct d1 d2 d3 d4:av}(z:aP)(au:bg Go.aJ.encS z v l)(bj:gp w0 bP z)(ej:lO b h.b J cj ck cr ct)(dh:gX h S d1 d2 d3 d4):eH Tryz.prog 110 [.pointer (some ⟨b,0,none⟩),az at9,v] w0 bP [cj,ck,cr,ct,d1,d2,d3,d4] (aj.w2 (lO b h.b) (gX h) J (aj.gn S at9 l).1 (.tuple [az (aj.gn S at9 l).2.1,.bool (aj.gn S at9 l).2.2].toArray)):=by
 refine fF Tryz.func110 rfl Tryz.ntmps110 (Nat.le_of_ble_eq_true rfl) fun cw a w ab U=>?_
 replace U:=hW U
 obtain ⟨vn,vbd,iD,eF,rfl,rfl,rfl,rfl⟩:=ej
 have pL:=eF.lY
 have lu:=eF.oe
 have vA:=eF.bK
 have FP:=eF.bV
 have FQ:=eF.nl
 have FR:=eF.tl
 have FT:=eF.bl
 have Bl:=eF.pW
 have FU:=eF.pA
 have FO:=eF.ox
 replace U:=hW U
 have bB:=dh.ok
 have e5:=bB.lo
 have gg:=bB.aG
 refine aB ab U (ar rfl<|ar rfl<|ah) fun a w ab U=>ax fun cm bD=>aB ab U (ai rfl<|ag (dL cl au rfl)<|ai rfl<|ah) fun a w ab U=>wp_block ?_
 obtain ⟨bC,aZ,U⟩:=U.cT
 refine df (γ:=av×av×av×av×Nat) (d1,d2,d3,d4,0) (fun (cj,ck,cr,ct,i)=>[(19,az (i:Int))]) [(0,_),(1,_),(2,_),(17,_),(18,_)] (fun (cj,ck,cr,ct,i)=>((((bC.set 4 (cj)).set 5 (ck)).set 6 (cr)).set 7 (ct))) (fun (cj,ck,cr,ct,i)=>(i≤l.length∧(aj.c9 S at9 l i).2=0)∧gX h ((aj.c9 S at9 l i).1) cj ck cr ct) (fun (cj,ck,cr,ct,i)=>l.length-i) (ab.sub ⟨rfl,rfl,rfl,rfl,rfl,rfl,trivial⟩) (by subst aZ;exact U) (by exact ⟨⟨Nat.zero_le _,rfl⟩,dh⟩) ?_
 rintro ⟨cj,ck,cr,ct,i⟩ a w ba ab U
 subst aZ;(try dsimp only at ba ab U)
 obtain ⟨⟨eu,eZ⟩,m2⟩:=ba
 replace U:=hW U
 refine aB ab U (ag (cK rfl rfl)<|ah) fun a w ab U=>ax fun dw b3=>b9 ab rfl (fun aS=>?_) (fun aS=>?_)
 ·refine wp_skip<|b3 _ _<|ax fun et cz=>wp_block ?_
  refine ax fun eU cO=>bq ab U (ai rfl<|ag (dG cl bz au rfl rfl (by omega))<|ag (si bz au bj rfl rfl (by omega))<|ar rfl<|ar rfl<|ah) fun a w ab U=>?_
  rw [Int.toNat_natCast] at ab
  refine cO _ _<|a8 fun e1 cF=>aE ab U (ai rfl<|ag (bI rfl)<|ag (aV ff rfl rfl (s':=0) aA)<|ag (bc nQ 0 rfl rfl rfl rfl)<|ai rfl<|ai rfl<|bX rfl rfl<|ai rfl<|ah) fun a w ab U=>?_
  replace U:=(((U.perm kq).perm lh).perm lj).perm lQ
  replace U:=hW U
  refine aH ab U rfl (dy Vw rfl (List.Perm.refl _) (by exact (Um _ _ _ (by omega) _ _ _  m2))) ?_
  rintro _ _ _ a w ⟨_,_,rfl,rfl,⟨rfl,rfl,sn,sq,sr,su,rfl,m1⟩⟩ ab U
  replace U:=hW U
  refine aE ab U (ar rfl<|ah) fun a w ab U=>wpList_nil (cF _ _ ?_)
  refine aB ab U (ai rfl<|ag (dM rfl rfl)<|ah) fun a w ab U=>eP ab rfl (fun bs=>?_) (fun bs=>?_)
  ·refine ax fun hE dS=>bq ab U (ai rfl<|ar rfl<|ar rfl<|ah) fun a w ab U=>dS _ _ ?_
   refine wp_ret ?_
   replace U:=(((U.perm kq).perm lh).perm lj).perm lQ
   exact cQ (rs:=[.tmp 6,.tmp 7]) rfl ab U (vs:=[_,_]) ⟨rfl,rfl,trivial⟩ [] [_,_,_,_,_,_,_,_] ae ae (aj.o5 (J:=J) (S:=(ao.write (aj.c9 S at9 l i).1 (at9+i) (l.getD i [])).1) ⟨rfl,rfl,_,_,_,_,_,_,_,_,rfl,⟨vn,vbd,iD,eF,rfl,rfl,rfl,rfl⟩,m1⟩ (rfl) (by rw [aj.sB (by omega) eZ bs]) (by rw [aj.sB (by omega) eZ bs]))
  ·refine wp_skip<|cz _ _<|bq ab U (bX rfl rfl<|ai rfl<|ah) fun a w ab U=>?_
   replace U:=(((U.perm kq).perm lh).perm lj).perm lQ
   replace U:=U.ak ae ae
   refine ⟨(sn,sq,sr,su,i+1),?_,?_,ab.sub ⟨rfl,rfl,rfl,rfl,rfl,rfl,trivial⟩,?_⟩
   ·(try dsimp only);omega
   ·exact ⟨⟨by omega,by rw [aj.sF eZ];omega⟩,by rw [aj.sF eZ];exact m1⟩
   ·exact U
 ·obtain rfl:i=l.length:=by omega
  refine wp_exit<|bD _ _<|ax fun gQ dz=>a8 fun iE eO=>aE ab U (ai rfl<|ag (bI rfl)<|ag (aV ff rfl rfl (s':=0) aA)<|ag (bc nQ 0 rfl rfl rfl rfl)<|ah) fun a w ab U=>?_
  replace U:=(((U.perm kq).perm lh).perm lj).perm lQ
  replace U:=hW U
  refine aH ab U rfl (dy Vx rfl (List.Perm.refl _) (by exact (T5 _ _ _ _  m2))) ?_
  rintro _ _ _ a w ⟨_,_,rfl,rfl,⟨rfl,rfl,Ho,Hp,Hq,Hr,rfl,pI⟩⟩ ab U
  replace U:=hW U
  refine aE ab U (ar rfl<|ah) fun a w ab U=>wpList_nil (eO _ _ ?_)
  refine aB ab U (ai rfl<|ag (dM rfl rfl)<|ah) fun a w ab U=>eP ab rfl (fun b7=>?_) (fun b7=>?_)
  ·refine ax fun kM gr=>bq ab U (ai rfl<|ar rfl<|ar rfl<|ah) fun a w ab U=>gr _ _ ?_
   refine wp_ret ?_
   replace U:=(((U.perm kq).perm lh).perm lj).perm lQ
   exact cQ (rs:=[.tmp 6,.tmp 7]) rfl ab U (vs:=[_,_]) ⟨rfl,rfl,trivial⟩ [] [_,_,_,_,_,_,_,_] ae ae (aj.o5 (J:=J) (S:=(ao.flush (aj.c9 S at9 l l.length).1).1) ⟨rfl,rfl,_,_,_,_,_,_,_,_,rfl,⟨vn,vbd,iD,eF,rfl,rfl,rfl,rfl⟩,pI⟩ (rfl) (by rw [aj.sC eZ b7]) (by rw [aj.sC eZ b7]))
  ·refine wp_skip<|dz _ _<|aB ab U (ar rfl<|ah) fun a w ab U=>ax fun mc hh=>aB ab U (ai rfl<|ag (dL cl au rfl)<|ai rfl<|ah) fun a w ab U=>?_
   refine wp_block ?_
   obtain ⟨bC,aZ,U⟩:=U.cT
   refine df (γ:=av×av×av×av×Nat) (Ho,Hp,Hq,Hr,0) (fun (cj,ck,cr,ct,i)=>[(47,az (i:Int)),(12,.bool (aj.jy (ao.flush (aj.c9 S at9 l l.length).1).1 at9 l i).2)]) [(0,_),(1,_),(45,_),(46,_)] (fun (cj,ck,cr,ct,i)=>((((bC.set 0 (cj)).set 1 (ck)).set 2 (cr)).set 3 (ct))) (fun (cj,ck,cr,ct,i)=>(i≤l.length∧(aj.jy (ao.flush (aj.c9 S at9 l l.length).1).1 at9 l i).1=0)∧gX h ((ao.flush (aj.c9 S at9 l l.length).1).1) cj ck cr ct) (fun (cj,ck,cr,ct,i)=>l.length-i) (ab.sub ⟨rfl,rfl,rfl,rfl,rfl,rfl,trivial⟩) (by subst aZ;exact U) (by exact ⟨⟨Nat.zero_le _,rfl⟩,pI⟩) ?_
   rintro ⟨cj,ck,cr,ct,i⟩ a w ba ab U
   subst aZ;(try dsimp only at ba ab U)
   obtain ⟨⟨eu,gH⟩,m2⟩:=ba
   replace U:=hW U
   refine aB ab U (ag (cK rfl rfl)<|ah) fun a w ab U=>ax fun qd kB=>b9 ab rfl (fun dr=>?_) (fun dr=>?_)
   ·refine wp_skip<|kB _ _<|ax fun pr jF=>wp_block ?_
    refine ax fun sK lS=>bq ab U (ai rfl<|ag (dG cl bz au rfl rfl (by omega))<|ag (si bz au bj rfl rfl (by omega))<|ar rfl<|ar rfl<|ah) fun a w ab U=>?_
    rw [Int.toNat_natCast] at ab
    refine lS _ _<|a8 fun sL mo=>aE ab U (ai rfl<|ag (bI rfl)<|ag (aV ff rfl rfl (s':=0) aA)<|ag (bc nQ 4 rfl rfl rfl rfl)<|ai rfl<|ai rfl<|bX rfl rfl<|ah) fun a w ab U=>aH ab U rfl (dy K9 rfl (List.Perm.refl _) (by exact (Kg _ _ _ (by omega) _ _  m2))) ?_
    rintro _ _ _ a w ⟨_,_,rfl,rfl,⟨rfl,rfl,Cq,Cr,Cs,Ct,rfl,A0⟩⟩ ab U
    replace U:=hW U
    refine aE ab U (ai rfl<|ag (cE rfl rfl)<|ag (cE rfl rfl)<|ar rfl<|ar rfl<|ah) fun a w ab U=>wpList_nil (mo _ _ ?_)
    refine ax fun Ds tp=>aB ab U (ai rfl<|ag (dM rfl rfl)<|ah) fun a w ab U=>eP ab rfl (fun dm=>?_) (fun dm=>?_)
    ·refine ax fun Dt tq=>bq ab U (ai rfl<|ar rfl<|ar rfl<|ah) fun a w ab U=>tq _ _ ?_
     refine wp_ret ?_
     replace U:=(((U.perm kq).perm lh).perm lj).perm lQ
     exact cQ (rs:=[.tmp 6,.tmp 7]) rfl ab U (vs:=[_,_]) ⟨rfl,rfl,trivial⟩ [] [_,_,_,_,_,_,_,_] ae ae (aj.o5 (J:=J) (S:=(ao.flush (aj.c9 S at9 l l.length).1).1) ⟨rfl,rfl,_,_,_,_,_,_,_,_,rfl,⟨vn,vbd,iD,eF,rfl,rfl,rfl,rfl⟩,A0⟩ (rfl) (by rw [aj.sD rfl (by omega) eZ (by omega) gH dm]) (by rw [aj.sD rfl (by omega) eZ (by omega) gH dm]))
    ·refine wp_skip<|tp _ _<|du ?_
     refine aE ab U (ai rfl<|ai rfl<|ah) fun a w ab U=>jJ 1 67 3 ab U rfl rfl rfl rfl rfl (fun aO=>have aO:=aO;aN 67 rfl rfl rfl (bE rfl)<|aN 67 rfl rfl rfl (bE rfl)<|aN 67 rfl rfl rfl (vX rfl rfl)<|ah) rfl rfl fun a w ab U=>?_
     refine aE ab U (ar rfl<|ah) fun a w ab U=>wpList_nil (jF _ _ ?_)
     refine bq ab U (bX rfl rfl<|ai rfl<|ah) fun a w ab U=>⟨(Cq,Cr,Cs,Ct,i+1),?_,?_,ab.sub ⟨rfl,(by show some (Value.bool _)=some (Value.bool _);rw [aj.y8 gH (by omega)]),rfl,rfl,rfl,rfl,trivial⟩,?_⟩
     ·(try dsimp only);omega
     ·exact ⟨⟨by omega,by rw [aj.y8 gH (by omega)]⟩,A0⟩
     ·exact U
   ·refine wp_exit<|hh _ _<|aB ab U (ai rfl<|ar rfl<|ar rfl<|ah) fun a w ab U=>wp_ret ?_
    replace U:=(((U.perm kq).perm lh).perm lj).perm lQ
    obtain rfl:i=l.length:=by omega
    exact cQ (rs:=[.tmp 6,.tmp 7]) rfl ab U (vs:=[_,_]) ⟨rfl,rfl,trivial⟩ [] [_,_,_,_,_,_,_,_] ae ae (aj.o5 (J:=J) (S:=(ao.flush (aj.c9 S at9 l l.length).1).1) ⟨rfl,rfl,_,_,_,_,_,_,_,_,rfl,⟨vn,vbd,iD,eF,rfl,rfl,rfl,rfl⟩,m2⟩ (rfl) (by rw [aj.jX rfl eZ (by omega) gH]) (by rw [aj.jX rfl eZ (by omega) gH]))
theorem aam(h:ao.hr)(b:Nat)(J:aj.dn)(S:ao.aX)(t:List UInt8)(w0:World)(bP:List aP){cj ck cr ct d1 d2 d3 d4:av}{dK:Nat×Nat}{dJ:TypeId}(dF:w0.heap[1]?=some (.cells (aK.ek.map cx).toArray dJ dK))(ej:lO b h.b J cj ck cr ct)(dh:gX h S d1 d2 d3 d4):eH Tryz.prog 72 [.pointer (some ⟨b,0,none⟩),vs t] w0 bP [cj,ck,cr,ct,d1,d2,d3,d4] (aj.w2 (lO b h.b) (gX h) (aj.app J S t).1 (aj.app J S t).2.1 (.tuple [az (aj.app J S t).2.2.1,az (aj.app J S t).2.2.2].toArray)):=by
 refine fF Tryz.func72 rfl Tryz.ntmps72 (Nat.le_of_ble_eq_true rfl) fun cw a w ab U=>?_
 replace U:=hW U
 obtain ⟨vn,vbd,iD,eF,rfl,rfl,rfl,rfl⟩:=ej
 have pL:=eF.lY
 have lu:=eF.oe
 have vA:=eF.bK
 have FP:=eF.bV
 have FQ:=eF.nl
 have FR:=eF.tl
 have FT:=eF.bl
 have Bl:=eF.pW
 have FU:=eF.pA
 have FO:=eF.ox
 replace U:=hW U
 have bB:=dh.ok
 have e5:=bB.lo
 have gg:=bB.aG
 refine aB ab U (ar rfl<|ar rfl<|ah) fun a w ab U=>ax fun cm bD=>wp_block ?_
 refine aB ab U (ai rfl<|ag (bI rfl)<|ag (aV ff rfl rfl (s':=0) aA)<|ag (bc fg 0 rfl rfl rfl rfl)<|ar rfl<|ah) fun a w ab U=>cX ab rfl (fun aS=>?_) (fun aS=>?_)
 ·refine ax fun dP cq=>bq ab U (ar rfl<|ar rfl<|ah) fun a w ab U=>cq _ _ ?_
  refine wp_ret<|cQ (rs:=[.tmp 4,.tmp 5]) rfl ab U (vs:=[_,_]) ⟨rfl,rfl,trivial⟩ [] [_,_,_,_,_,_,_,_] ae ae (aj.o5 (J:=J) (S:=S) ⟨rfl,rfl,_,_,_,_,_,_,_,_,rfl,⟨vn,vbd,iD,eF,rfl,rfl,rfl,rfl⟩,dh⟩ (by rw [aj.app_1 aS]) (by rw [aj.app_1 aS]) (by rw [aj.app_1 aS]))
 ·skip
  refine a8 fun dw b3=>aE ab U (ai rfl<|ag (hB bz rfl)<|ag (eQ rfl rfl)<|ai rfl<|ah) fun a w ab U=>fS 3 21 5 ab U rfl rfl rfl rfl rfl (fun aO=>have aO:=(by first | exact of_decide_eq_false aO | exact aO);aN 21 rfl rfl rfl (bE rfl)<|aN 21 rfl rfl rfl (bI rfl)<|aN 21 rfl rfl rfl (aV ff rfl rfl (s':=0) aA)<|aN 21 rfl rfl rfl (bc bG 0 rfl rfl rfl rfl)<|aN 21 rfl rfl rfl (eQ rfl rfl)<|ah) rfl rfl fun a w ab U=>?_
  refine aE ab U (ar rfl<|ah) fun a w ab U=>wpList_nil (b3 _ _ ?_)
  refine cX ab rfl (fun bs=>?_) (fun bs=>?_)
  ·(try simp only [c2] at bs)
   refine aB ab U (ar rfl<|ar rfl<|ah) fun a w ab U=>wp_ret ?_
   exact cQ (rs:=[.tmp 4,.tmp 5]) rfl ab U (vs:=[_,_]) ⟨rfl,rfl,trivial⟩ [] [_,_,_,_,_,_,_,_] ae ae (aj.o5 (J:=J) (S:=S) ⟨rfl,rfl,_,_,_,_,_,_,_,_,rfl,⟨vn,vbd,iD,eF,rfl,rfl,rfl,rfl⟩,dh⟩ (by rw [aj.uT (by rw [aS];simp) (by omega)]) (by rw [aj.uT (by rw [aS];simp) (by omega)]) (by rw [aj.uT (by rw [aS];simp) (by omega)]))
  ·(try simp only [c2] at bs)
   refine a8 fun eU cO=>aE ab U (ai rfl<|ag (hB bz rfl)<|ag (bQ EB rfl (fun w U=>D5 _ (by first | assumption | omega) w ) (fun _ _ _ h=>h))<|ai rfl<|ah) fun a w ab U=>aH ab U rfl (dy U6 rfl (List.Perm.refl _) (by exact (aao _ _ J S _ _  ⟨vn,vbd,iD,eF,rfl,rfl,rfl,rfl⟩ dh))) ?_
   rintro _ _ _ a w ⟨_,_,rfl,rfl,⟨rfl,rfl,sn,sq,sr,su,anp,anD,anP,an3,rfl,Xk,LU⟩⟩ ab U
   replace U:=hW U
   refine aE ab U (ag (eQ rfl rfl)<|ar rfl<|ah) fun a w ab U=>wpList_nil ?_
   obtain ⟨uH,RC,RE,oW,rfl,rfl,rfl,rfl⟩:=Xk
   have akf:=oW.lY
   have akh:=oW.oe
   have akj:=oW.bK
   have akl:=oW.bV
   have akn:=oW.nl
   have akp:=oW.tl
   have akr:=oW.bl
   have akt:=oW.pW
   have akv:=oW.pA
   have akd:=oW.ox
   replace U:=hW U
   refine cO _ _<|b9 ab rfl (fun b7=>?_) (fun b7=>?_)
   ·refine ax fun e1 cF=>bq ab U (ar rfl<|ar rfl<|ah) fun a w ab U=>cF _ _ ?_
    refine wp_ret<|cQ (rs:=[.tmp 4,.tmp 5]) rfl ab U (vs:=[_,_]) ⟨rfl,rfl,trivial⟩ [] [_,_,_,_,_,_,_,_] ae ae (aj.o5 (J:=J) (S:=S) ⟨rfl,rfl,_,_,_,_,_,_,_,_,rfl,⟨uH,RC,RE,oW,rfl,rfl,rfl,rfl⟩,LU⟩ (by rw [aj.s0 (by rw [aS];simp) (by omega) (by omega)]) (by rw [aj.s0 (by rw [aS];simp) (by omega) (by omega)]) (by rw [aj.s0 (by rw [aS];simp) (by omega) (by omega)]))
   ·have cZ:¬ J.gZ=true:=by rw [aS];simp
    have hT:t.length≤8000∧J.next≤4096:=by omega
    have hU:¬ aj.room J S<aj.bh t.length:=by omega
    have n3:=aj.nW t.length
    have ZB:((aj.cH J.next t).length:Int)=aj.bh t.length:=by rw [aj.p6,Int.toNat_of_nonneg n3.1]
    have F6:=hU
    unfold aj.room at F6
    refine wp_skip<|bD _ _<|hZ mixed aA ab U (ai rfl<|ag (bI rfl)<|ag (aV ff rfl rfl (s':=0) aA)<|ag (bc bG 0 rfl rfl rfl rfl)<|ai rfl<|ag (bI rfl)<|ag (aV ff rfl rfl (s':=0) aA)<|ag (bc bG 0 rfl rfl rfl rfl)<|ar rfl<|ar rfl<|ah) fun a w ab U=>a8 fun hE dS=>aE ab U (ai rfl<|ai rfl<|ah) fun a w ab U=>?_
    refine aH ab U rfl (eB U7 rfl (fun w U=>acK _ _ (by omega) w (U.ext _ _ dF))) ?_
    rintro _ _ _ a w ⟨_,_,rfl,rfl,⟨wF,rfl,rfl,rfl⟩⟩ ab U
    replace U:=jT U
    refine aE ab U (ai rfl<|ag (cE rfl rfl)<|ag (cE rfl rfl)<|ar rfl<|ar rfl<|ah) fun a w ab U=>wpList_nil ?_
    rw [aj.Cb (by omega) (by omega)] at U ab
    dsimp only at U ab
    refine dS _ _<|a8 fun gQ dz=>aE ab U (ai rfl<|ai rfl<|ai rfl<|bX rfl rfl<|ai rfl<|ai rfl<|ag (hX cl 0 rfl rfl)<|bX rfl rfl<|ag (bI rfl)<|ag (aV ff rfl rfl (s':=0) aA)<|ah) fun a w ab U=>aH ab U rfl (c7 bG 1 rfl rfl rfl rfl (by simp)) ?_
    rintro _ _ _ a w ⟨rfl,rfl,rfl⟩ ab U
    replace U:aC _ (_) (_::.blk _ _ ([_,_,_,_,_,_,_].set 4 _)::_::_::_::_::_::_::_::_) _:=U
    simp only [List.set_cons_zero,List.set_cons_succ] at U
    replace U:=jT U
    refine aE ab U (ag (bI rfl)<|ag (aV ff rfl rfl (s':=0) aA)<|ah) fun a w ab U=>aH ab U rfl (c7 bG 1 rfl rfl rfl rfl (by simp)) ?_
    rintro _ _ _ a w ⟨rfl,rfl,rfl⟩ ab U
    replace U:aC _ (_) (_::.blk _ _ ([_,_,_,_,_,_,_].set 5 _)::_::_::_::_::_::_::_::_) _:=U
    simp only [List.set_cons_zero,List.set_cons_succ] at U
    replace U:=jT U
    refine wpList_nil (dz _ _ ?_)
    refine ax fun iE eO=>a8 fun iv eD=>aE ab U (ai rfl<|ai rfl<|ai rfl<|ah) fun a w ab U=>?_
    obtain ⟨aoo,Z3,U⟩:=aC.qx (h0:=fun _=>rfl) (f:=vs) (p:=fun s=>s.length≤140737488355328) (xs:=aj.cH J.next t) U (by first | rfl | (simp;done)) (by first | decide | omega | (simp;omega)) (aj.afB)
    replace U:=pY U
    refine aH ab U rfl (dy U8 rfl (List.Perm.refl _) (by exact (aar _ _ (aj.jL J t) _ _ _ (aj.cH J.next t) (by omega) (by rw [aj.p6];omega) _ _ _ Z3 (.inr (by simp)) ⟨uH,RC,RE,aj.Ix eF (by omega) hT hU,rfl,rfl,rfl,rfl⟩ LU))) ?_
    rintro _ _ _ a w ⟨_,_,rfl,rfl,⟨rfl,rfl,al8,amn,amC,amS,ank,anw,anJ,anW,rfl,LZ,A1⟩⟩ ab U
    replace U:=pY U
    refine aE ab U (ai rfl<|ag (cE rfl rfl)<|ag (cE rfl rfl)<|ar rfl<|ar rfl<|ah) fun a w ab U=>wpList_nil ?_
    obtain ⟨aoc,aoa,aoh,nz,rfl,rfl,rfl,rfl⟩:=LZ
    have akg:=nz.lY
    have aki:=nz.oe
    have akk:=nz.bK
    have akm:=nz.bV
    have ako:=nz.nl
    have akq:=nz.tl
    have aks:=nz.bl
    have aku:=nz.pW
    have akw:=nz.pA
    have ake:=nz.ox
    replace U:=pY U
    refine eD _ _<|wp_block ?_
    refine aB ab U (ai rfl<|ag (dM rfl rfl)<|ar rfl<|ah) fun a w ab U=>eP ab rfl (fun dr=>?_) (fun dr=>?_)
    ·refine ax fun jN fa=>du ?_
     refine aE ab U (ai rfl<|ag (bI rfl)<|ag (aV ff rfl rfl (s':=0) aA)<|ah) fun a w ab U=>aH ab U rfl (c7 fg 0 rfl rfl rfl rfl (by simp)) ?_
     rintro _ _ _ a w ⟨rfl,rfl,rfl⟩ ab U
     replace U:aC _ (_::_) (.blk _ _ ([_,_,_,_,_,_,_].set 6 _)::_::_::_::_::_::_::_::_) _:=U
     simp only [List.set_cons_zero,List.set_cons_succ] at U
     replace U:=pY U
     refine wpList_nil (fa _ _ ?_)
     refine aB ab U (ai rfl<|ar rfl<|ar rfl<|ah) fun a w ab U=>wp_ret ?_
     exact cQ (rs:=[.tmp 4,.tmp 5]) rfl ab U (vs:=[_,_]) ⟨rfl,rfl,trivial⟩ [] [_,_,_,_,_,_,_,_] (ae.n) ae (aj.o5 (J:=aj.jM J t) (S:=(aj.gn S J.en (aj.cH J.next t)).1) ⟨rfl,rfl,_,_,_,_,_,_,_,_,rfl,⟨_,_,_,aj.C6 nz,rfl,rfl,rfl,rfl⟩,A1⟩ (by rw [aj.nk cZ hT hU dr]) (by rw [aj.nk cZ hT hU dr]) (by rw [aj.nk cZ hT hU dr]))
    ·refine ax fun oE iW=>bq ab U (ai rfl<|ag (fC rfl)<|ar rfl<|ah) fun a w ab U=>iW _ _ ?_
     refine cX ab rfl (fun dm=>?_) (fun dm=>?_)
     ·refine ax fun oF iX=>bq ab U (ar rfl<|ar rfl<|ah) fun a w ab U=>iX _ _ ?_
      refine wp_ret<|cQ (rs:=[.tmp 4,.tmp 5]) rfl ab U (vs:=[_,_]) ⟨rfl,rfl,trivial⟩ [] [_,_,_,_,_,_,_,_] (ae.n) ae (aj.o5 (J:=aj.jL J t) (S:=(aj.gn S J.en (aj.cH J.next t)).1) ⟨rfl,rfl,_,_,_,_,_,_,_,_,rfl,⟨_,_,_,nz,rfl,rfl,rfl,rfl⟩,A1⟩ (by rw [aj.uU cZ hT hU (by omega) (by simpa using dm)]) (by rw [aj.uU cZ hT hU (by omega) (by simpa using dm)]) (by rw [aj.uU cZ hT hU (by omega) (by simpa using dm)]))
     ·refine wp_skip<|eO _ _<|ax fun qd kB=>?_
      revert U;revert ab;apply ho (J:=uJ (α0:=Value) (α1:=Value) (α2:=Value) (α3:=Value) 99 _ _ _ _ _) #[false,false,false,false,false,false,false,false,false,false,false,false,false,false,false,false,false,false,false,false,false,false] 22 mixed rfl rfl
      ·intro w ab U
       refine aR 0 rfl ab (U.ak ae (ae.n.n.n.n.n.n.n.n)) (bE rfl) fun a ab=>aR 1 rfl ab (U.ak ae (ae.n.n.n.n.n.n.n.n)) (bE rfl) fun a ab=>aR 2 rfl ab (U.ak ae (ae.n.n.n.n.n.n.n.n)) (bE rfl) fun a ab=>aR 3 rfl ab (U.ak ae (ae.n.n.n.n.n.n.n.n)) (bI rfl) fun a ab=>aR 4 rfl ab (U.ak ae (ae.n.n.n.n.n.n.n.n)) (aV ff rfl rfl (s':=0) aA) fun a ab=>?_
       refine aR 5 rfl ab (U.ak ae (ae.n.n.n.n.n.n.n.k)) (bc c5 0 rfl rfl rfl rfl) fun a ab=>aR 6 rfl ab (U.ak ae (ae.n.n.n.n.n.n.n.n)) (bE rfl) fun a ab=>aR 9 rfl ab (U.ak ae (ae.n.n.n.n.n.n.n.n)) (bE rfl) fun a ab=>aR 10 rfl ab (U.ak ae (ae.n.n.n.n.n.n.n.n)) (bI rfl) fun a ab=>aR 11 rfl ab (U.ak ae (ae.n.n.n.n.n.n.n.n)) (aV ff rfl rfl (s':=0) aA) fun a ab=>?_
       refine aR 12 rfl ab (U.ak ae (ae.n.n.n.n.n.n.n.k)) (bc cl 0 rfl rfl rfl rfl) fun a ab=>aR 13 rfl ab (U.ak ae (ae.n.n.n.n.n.n.n.n)) (bE rfl) fun a ab=>fy [7,14] aA rfl ⟨?_,?_,trivial⟩
       ·refine dQ _ rfl rfl ab U rfl (dX c5 bG rfl rfl bJ (by decide) rfl rfl) ?_
        rintro zF _ _ a w ⟨rfl,rfl⟩ ab U
        replace U:=qS U
        refine ⟨⟨.inr (U.ak ae (ae.n.n.n.n.n.n.n.n.n)),.inr (U.ak ae (ae.n.n.n.n.n.n.n.k.n)),.inr (U.ak ae (ae.n.n.n.n.n.n.n.n.n)),.inr (U.ak ae (ae.n.n.n.n.n.n.n.n.n)),.inr (U.ak ae (ae.n.n.n.n.n.n.n.n.n)),al,.inr (U.ak ae (ae.n.n.n.n.n.n.n.k.n)),.inr (U.ak ae (ae.n.n.n.n.n.n.n.n.n)),.inr (U.ak ae (ae.n.n.n.n.n.n.n.n.n)),.inr (U.ak ae (ae.n.n.n.n.n.n.n.n.n)),.inr (U.ak ae (ae.n.n.n.n.n.n.n.n.n)),.inr (U.ak ae (ae.n.n.n.n.n.n.n.n.n)),trivial⟩,?_⟩
        refine fy [8,14] aA rfl ⟨?_,?_,trivial⟩
        ·refine dQ _ rfl rfl ab U rfl (dB c5 bG 2 rfl rfl rfl (eA c5 (k:=0) rfl bJ) aI rfl (by decide)) ?_
         rintro wL _ _ a w ⟨rfl,rfl⟩ ab U
         replace U:=qS U
         refine ⟨⟨.inr (U.ak ae (ae.n.n.n.n.n.n.n.n.n)),.inr (U.ak ae (ae.n.n.n.n.n.n.n.k.n)),.inr (U.ak ae (ae.n.n.n.n.n.n.n.n.n)),.inr (U.ak ae (ae.n.n.n.n.n.n.n.n.n)),.inr (U.ak ae (ae.n.n.n.n.n.n.n.n.n)),al,al,al,.inr (U.ak ae (ae.n.n.n.n.n.n.n.n.n)),.inr (U.ak ae (ae.n.n.n.n.n.n.n.n.n)),.inr (U.ak ae (ae.n.n.n.n.n.n.n.n.n)),.inr (U.ak ae (ae.n.n.n.n.n.n.n.n.n)),trivial⟩,?_⟩
         refine bW 14 rfl rfl ab U rfl (dX cl bz rfl rfl bJ (by decide) rfl rfl) ?_
         rintro wJ _ _ a w ⟨rfl,rfl⟩ ab U
         replace U:=ib U
         refine ⟨⟨al,.inr (U.ak ae (ae.n.n.n.n.n.n.n.k.n.n)),.inr (U.ak ae (ae.n.n.n.n.n.n.n.n.n.n)),.inr (U.ak ae (ae.n.n.n.n.n.n.n.n.n.n)),.inr (U.ak ae (ae.n.n.n.n.n.n.n.n.n.n)),al,al,al,.inr (U.ak ae (ae.n.n.n.n.n.n.n.n.n.n)),.inr (U.ak ae (ae.n.n.n.n.n.n.n.n.n.n)),.inr (U.ak ae (ae.n.n.n.n.n.n.n.n.n.n)),.inr (U.ak ae (ae.n.n.n.n.n.n.n.n.n.n)),trivial⟩,?_⟩
         refine bW 15 rfl rfl ab U rfl (dB cl bz 5 rfl rfl rfl (eA cl (k:=0) rfl bJ) aI rfl (by decide)) ?_
         rintro wK _ _ a w ⟨rfl,rfl⟩ ab U
         replace U:=ib U
         refine ⟨⟨al,al,al,.inr (U.ak ae (ae.n.n.n.n.n.n.n.n.n.n)),.inr (U.ak ae (ae.n.n.n.n.n.n.n.n.n.n)),al,al,al,.inr (U.ak ae (ae.n.n.n.n.n.n.n.n.n.n)),.inr (U.ak ae (ae.n.n.n.n.n.n.n.n.n.n)),.inr (U.ak ae (ae.n.n.n.n.n.n.n.n.n.n)),.inr (U.ak ae (ae.n.n.n.n.n.n.n.n.n.n)),trivial⟩,?_⟩
         refine aR 16 rfl ab (U.ak ae (ae.n.n.n.n.n.n.n.n.n.n)) (bI rfl) fun a ab=>aR 17 rfl ab (U.ak ae (ae.n.n.n.n.n.n.n.n.n.n)) (aV ff rfl rfl (s':=0) aA) fun a ab=>bW 18 rfl rfl ab U rfl (c7 c5 2 rfl rfl rfl (row_one (U.own _ (List.mem_of_getElem? (i:=3) rfl)).1) (by simp)) ?_
         rintro _ _ _ a w ⟨rfl,rfl,rfl⟩ ab U
         replace U:aC _ (_::_) (_::_::.blk _ _ ([_,_,_,_,_,_,_].set 1 _)::_::_::_::_::_::_::_::_) _:=U
         simp only [List.set_cons_zero,List.set_cons_succ] at U
         replace U:=ib U
         refine ⟨⟨al,al,al,al,al,.inr (U.ak ae (ae.n.n.n.n.n.n.n.n.n.n)),.inr (U.ak ae (ae.n.n.n.n.n.n.n.n.n.n)),al,al,al,al,al,.inr (U.ak ae (ae.n.n.n.n.n.n.n.n.n.n)),al,trivial⟩,?_⟩
         refine aR 19 rfl ab (U.ak ae (ae.n.n.n.n.n.n.n.n.n.n)) (bI rfl) fun a ab=>aR 20 rfl ab (U.ak ae (ae.n.n.n.n.n.n.n.n.n.n)) (aV ff rfl rfl (s':=0) aA) fun a ab=>bW 21 rfl rfl ab U rfl (c7 cl 2 rfl rfl rfl (row_one (U.own _ (List.mem_of_getElem? (i:=5) rfl)).1) (by simp)) ?_
         rintro _ _ _ a w ⟨rfl,rfl,rfl⟩ ab U
         replace U:aC _ (_::_) (_::_::.blk _ _ ([_,_,_,_,_,_,_].set 3 _)::_::_::_::_::_::_::_::_) _:=U
         simp only [List.set_cons_zero,List.set_cons_succ] at U
         replace U:=ib U
         refine ⟨⟨al,al,al,al,al,al,al,al,al,al,al,al,al,al,al,al,trivial⟩,?_⟩
         exact ei aA (qN zF wL wJ wK (trivial) (ab.sub (L':=[(6,_)]) ⟨rfl,trivial⟩) U)
        ·refine dQ _ rfl rfl ab U rfl (dX cl bz rfl rfl bJ (by decide) rfl rfl) ?_
         rintro wJ _ _ a w ⟨rfl,rfl⟩ ab U
         replace U:=ib U
         refine ⟨⟨al,.inr (U.ak ae (ae.n.n.n.n.n.n.n.k.n.n)),.inr (U.ak ae (ae.n.n.n.n.n.n.n.n.n.n)),.inr (U.ak ae (ae.n.n.n.n.n.n.n.n.n.n)),.inr (U.ak ae (ae.n.n.n.n.n.n.n.n.n.n)),al,.inr (U.ak ae (ae.n.n.n.n.n.n.n.k.n.n)),.inr (U.ak ae (ae.n.n.n.n.n.n.n.n.n.n)),.inr (U.ak ae (ae.n.n.n.n.n.n.n.n.n.n)),.inr (U.ak ae (ae.n.n.n.n.n.n.n.n.n.n)),.inr (U.ak ae (ae.n.n.n.n.n.n.n.n.n.n)),.inr (U.ak ae (ae.n.n.n.n.n.n.n.n.n.n)),trivial⟩,?_⟩
         refine bW 8 rfl rfl ab U rfl (dB c5 bG 3 rfl rfl rfl (eA c5 (k:=1) rfl bJ) aI rfl (by decide)) ?_
         rintro wL _ _ a w ⟨rfl,rfl⟩ ab U
         replace U:=ib U
         refine ⟨⟨al,.inr (U.ak ae (ae.n.n.n.n.n.n.n.k.n.n)),.inr (U.ak ae (ae.n.n.n.n.n.n.n.n.n.n)),.inr (U.ak ae (ae.n.n.n.n.n.n.n.n.n.n)),.inr (U.ak ae (ae.n.n.n.n.n.n.n.n.n.n)),al,al,al,.inr (U.ak ae (ae.n.n.n.n.n.n.n.n.n.n)),.inr (U.ak ae (ae.n.n.n.n.n.n.n.n.n.n)),.inr (U.ak ae (ae.n.n.n.n.n.n.n.n.n.n)),.inr (U.ak ae (ae.n.n.n.n.n.n.n.n.n.n)),trivial⟩,?_⟩
         refine bW 15 rfl rfl ab U rfl (dB cl bz 5 rfl rfl rfl (eA cl (k:=0) rfl bJ) aI rfl (by decide)) ?_
         rintro wK _ _ a w ⟨rfl,rfl⟩ ab U
         replace U:=ib U
         refine ⟨⟨al,al,al,.inr (U.ak ae (ae.n.n.n.n.n.n.n.n.n.n)),.inr (U.ak ae (ae.n.n.n.n.n.n.n.n.n.n)),al,al,al,.inr (U.ak ae (ae.n.n.n.n.n.n.n.n.n.n)),.inr (U.ak ae (ae.n.n.n.n.n.n.n.n.n.n)),.inr (U.ak ae (ae.n.n.n.n.n.n.n.n.n.n)),.inr (U.ak ae (ae.n.n.n.n.n.n.n.n.n.n)),trivial⟩,?_⟩
         refine aR 16 rfl ab (U.ak ae (ae.n.n.n.n.n.n.n.n.n.n)) (bI rfl) fun a ab=>aR 17 rfl ab (U.ak ae (ae.n.n.n.n.n.n.n.n.n.n)) (aV ff rfl rfl (s':=0) aA) fun a ab=>bW 18 rfl rfl ab U rfl (c7 c5 2 rfl rfl rfl (row_one (U.own _ (List.mem_of_getElem? (i:=3) rfl)).1) (by simp)) ?_
         rintro _ _ _ a w ⟨rfl,rfl,rfl⟩ ab U
         replace U:aC _ (_::_) (_::_::.blk _ _ ([_,_,_,_,_,_,_].set 1 _)::_::_::_::_::_::_::_::_) _:=U
         simp only [List.set_cons_zero,List.set_cons_succ] at U
         replace U:=ib U
         refine ⟨⟨al,al,al,al,al,.inr (U.ak ae (ae.n.n.n.n.n.n.n.n.n.n)),.inr (U.ak ae (ae.n.n.n.n.n.n.n.n.n.n)),al,al,al,al,al,.inr (U.ak ae (ae.n.n.n.n.n.n.n.n.n.n)),al,trivial⟩,?_⟩
         refine aR 19 rfl ab (U.ak ae (ae.n.n.n.n.n.n.n.n.n.n)) (bI rfl) fun a ab=>aR 20 rfl ab (U.ak ae (ae.n.n.n.n.n.n.n.n.n.n)) (aV ff rfl rfl (s':=0) aA) fun a ab=>bW 21 rfl rfl ab U rfl (c7 cl 2 rfl rfl rfl (row_one (U.own _ (List.mem_of_getElem? (i:=5) rfl)).1) (by simp)) ?_
         rintro _ _ _ a w ⟨rfl,rfl,rfl⟩ ab U
         replace U:aC _ (_::_) (_::_::.blk _ _ ([_,_,_,_,_,_,_].set 3 _)::_::_::_::_::_::_::_::_) _:=U
         simp only [List.set_cons_zero,List.set_cons_succ] at U
         replace U:=ib U
         refine ⟨⟨al,al,al,al,al,al,al,al,al,al,al,al,al,al,al,al,trivial⟩,?_⟩
         exact ei aA (qN zF wL wJ wK (trivial) (ab.sub (L':=[(6,_)]) ⟨rfl,trivial⟩) U)
       ·refine dQ _ rfl rfl ab U rfl (dX cl bz rfl rfl bJ (by decide) rfl rfl) ?_
        rintro wJ _ _ a w ⟨rfl,rfl⟩ ab U
        replace U:=qS U
        refine ⟨⟨al,.inr (U.ak ae (ae.n.n.n.n.n.n.n.k.n)),.inr (U.ak ae (ae.n.n.n.n.n.n.n.n.n)),.inr (U.ak ae (ae.n.n.n.n.n.n.n.n.n)),.inr (U.ak ae (ae.n.n.n.n.n.n.n.n.n)),.inr (U.ak ae (ae.n.n.n.n.n.n.n.n.n)),.inr (U.ak ae (ae.n.n.n.n.n.n.n.k.n)),.inr (U.ak ae (ae.n.n.n.n.n.n.n.n.n)),.inr (U.ak ae (ae.n.n.n.n.n.n.n.n.n)),.inr (U.ak ae (ae.n.n.n.n.n.n.n.n.n)),.inr (U.ak ae (ae.n.n.n.n.n.n.n.n.n)),.inr (U.ak ae (ae.n.n.n.n.n.n.n.n.n)),trivial⟩,?_⟩
        refine bW 7 rfl rfl ab U rfl (dX c5 bG rfl rfl bJ (by decide) rfl rfl) ?_
        rintro zF _ _ a w ⟨rfl,rfl⟩ ab U
        replace U:=ib U
        refine ⟨⟨al,.inr (U.ak ae (ae.n.n.n.n.n.n.n.k.n.n)),.inr (U.ak ae (ae.n.n.n.n.n.n.n.n.n.n)),.inr (U.ak ae (ae.n.n.n.n.n.n.n.n.n.n)),.inr (U.ak ae (ae.n.n.n.n.n.n.n.n.n.n)),al,.inr (U.ak ae (ae.n.n.n.n.n.n.n.k.n.n)),.inr (U.ak ae (ae.n.n.n.n.n.n.n.n.n.n)),.inr (U.ak ae (ae.n.n.n.n.n.n.n.n.n.n)),.inr (U.ak ae (ae.n.n.n.n.n.n.n.n.n.n)),.inr (U.ak ae (ae.n.n.n.n.n.n.n.n.n.n)),.inr (U.ak ae (ae.n.n.n.n.n.n.n.n.n.n)),trivial⟩,?_⟩
        refine bW 8 rfl rfl ab U rfl (dB c5 bG 3 rfl rfl rfl (eA c5 (k:=0) rfl bJ) aI rfl (by decide)) ?_
        rintro wL _ _ a w ⟨rfl,rfl⟩ ab U
        replace U:=ib U
        refine ⟨⟨al,.inr (U.ak ae (ae.n.n.n.n.n.n.n.k.n.n)),.inr (U.ak ae (ae.n.n.n.n.n.n.n.n.n.n)),.inr (U.ak ae (ae.n.n.n.n.n.n.n.n.n.n)),.inr (U.ak ae (ae.n.n.n.n.n.n.n.n.n.n)),al,al,al,.inr (U.ak ae (ae.n.n.n.n.n.n.n.n.n.n)),.inr (U.ak ae (ae.n.n.n.n.n.n.n.n.n.n)),.inr (U.ak ae (ae.n.n.n.n.n.n.n.n.n.n)),.inr (U.ak ae (ae.n.n.n.n.n.n.n.n.n.n)),trivial⟩,?_⟩
        refine bW 15 rfl rfl ab U rfl (dB cl bz 5 rfl rfl rfl (eA cl (k:=1) rfl bJ) aI rfl (by decide)) ?_
        rintro wK _ _ a w ⟨rfl,rfl⟩ ab U
        replace U:=ib U
        refine ⟨⟨al,al,al,.inr (U.ak ae (ae.n.n.n.n.n.n.n.n.n.n)),.inr (U.ak ae (ae.n.n.n.n.n.n.n.n.n.n)),al,al,al,.inr (U.ak ae (ae.n.n.n.n.n.n.n.n.n.n)),.inr (U.ak ae (ae.n.n.n.n.n.n.n.n.n.n)),.inr (U.ak ae (ae.n.n.n.n.n.n.n.n.n.n)),.inr (U.ak ae (ae.n.n.n.n.n.n.n.n.n.n)),trivial⟩,?_⟩
        refine aR 16 rfl ab (U.ak ae (ae.n.n.n.n.n.n.n.n.n.n)) (bI rfl) fun a ab=>aR 17 rfl ab (U.ak ae (ae.n.n.n.n.n.n.n.n.n.n)) (aV ff rfl rfl (s':=0) aA) fun a ab=>bW 18 rfl rfl ab U rfl (c7 c5 2 rfl rfl rfl (row_one (U.own _ (List.mem_of_getElem? (i:=3) rfl)).1) (by simp)) ?_
        rintro _ _ _ a w ⟨rfl,rfl,rfl⟩ ab U
        replace U:aC _ (_::_) (_::_::.blk _ _ ([_,_,_,_,_,_,_].set 1 _)::_::_::_::_::_::_::_::_) _:=U
        simp only [List.set_cons_zero,List.set_cons_succ] at U
        replace U:=ib U
        refine ⟨⟨al,al,al,al,al,.inr (U.ak ae (ae.n.n.n.n.n.n.n.n.n.n)),.inr (U.ak ae (ae.n.n.n.n.n.n.n.n.n.n)),al,al,al,al,al,.inr (U.ak ae (ae.n.n.n.n.n.n.n.n.n.n)),al,trivial⟩,?_⟩
        refine aR 19 rfl ab (U.ak ae (ae.n.n.n.n.n.n.n.n.n.n)) (bI rfl) fun a ab=>aR 20 rfl ab (U.ak ae (ae.n.n.n.n.n.n.n.n.n.n)) (aV ff rfl rfl (s':=0) aA) fun a ab=>bW 21 rfl rfl ab U rfl (c7 cl 2 rfl rfl rfl (row_one (U.own _ (List.mem_of_getElem? (i:=5) rfl)).1) (by simp)) ?_
        rintro _ _ _ a w ⟨rfl,rfl,rfl⟩ ab U
        replace U:aC _ (_::_) (_::_::.blk _ _ ([_,_,_,_,_,_,_].set 3 _)::_::_::_::_::_::_::_::_) _:=U
        simp only [List.set_cons_zero,List.set_cons_succ] at U
        replace U:=ib U
        refine ⟨⟨al,al,al,al,al,al,al,al,al,al,al,al,al,al,al,al,trivial⟩,?_⟩
        exact ei aA (qN zF wL wJ wK (trivial) (ab.sub (L':=[(6,_)]) ⟨rfl,trivial⟩) (U.perm (.swap _ _ _)))
      rintro a w ⟨zF,wL,wJ,wK, -,ab,U⟩
      (try dsimp only at ab U)
      refine kB _ _<|aB ab U (ai rfl<|ar rfl<|ar rfl<|ah) fun a w ab U=>wp_ret ?_
      replace U:=(((((((U.perm nj).perm mf).perm oH).perm px).perm sO).perm pz).perm sP).perm w7
      exact cQ (rs:=[.tmp 4,.tmp 5]) rfl ab U (vs:=[_,_]) ⟨rfl,rfl,trivial⟩ [] [_,_,_,_,_,_,_,_] (ae.n) (ae.n.n.k.k.k.k.k.k.k.k) (aj.o5 (J:=aj.iS J t) (S:=(aj.gn S J.en (aj.cH J.next t)).1) ⟨rfl,rfl,_,_,_,_,_,_,_,_,rfl,⟨_,_,_,aj.Iy eF nz hT,rfl,(by simp [aj.iS,aj.jL]),rfl,(by simp [aj.iS,aj.jL])⟩,A1⟩ (by rw [aj.rl cZ hT hU (by omega) (by simpa using dm)]) (by rw [aj.rl cZ hT hU (by omega) (by simpa using dm)]) (by rw [aj.rl cZ hT hU (by omega) (by simpa using dm)]))
end
section
theorem oz:a1 Tryz.prog 90 (.pointer 162) 1 8 (Value.pointer none):=⟨Tryz.underlying90,by kernel_rfl⟩
theorem gk : a1 Tryz.prog 207 (.struct #[⟨ "D", 90, 0, false, "", "", 0⟩, ⟨ "Nums", 22, 1, false, "", "", 8⟩, ⟨ "L", 40, 2, false, "", "", 32⟩, ⟨ "BadOnes", 22, 3, false, "", "", 56⟩, ⟨ "Next", 3, 4, false, "", "", 80⟩, ⟨ "End", 3, 5, false, "", "", 88⟩, ⟨ "Closed", 4, 6, false, "", "", 96⟩]) 7 104 (.agg ([Value.pointer none] ++ [Value.slice none 0 0, Value.slice none 0 0, Value.slice none 0 0] ++ [Value.int .i64 0, Value.int .i64 0] ++ [Value.bool false]).toArray) := ⟨Tryz.underlying207, by kernel_rfl⟩
theorem K3:bU Tryz.prog 159:=bY Tryz.func159
abbrev lN:=aj.xe 207 3 9
attribute [local irreducible] aK.sum aj.eW aj.aT aj.cU aj.bh
theorem Zp(b bd:Nat)(v:Value)(J:aj.dn)(S:ao.aX)(w0:World)(bP:List aP){cj ck cr ct:av}(ej:lN b bd J cj ck cr ct)(bB:ao.Ok S):eH Tryz.prog 129 [.pointer (some ⟨b,0,none⟩)] w0 bP [cj,ck,cr,ct,fh bd v S,fj v S] (aj.Ab (lN b bd) (fh bd v) (fj v) J S (az (aj.room J S))):=by
 refine fF Tryz.func129 rfl Tryz.ntmps129 (Nat.le_of_ble_eq_true rfl) fun cw a w ab U=>?_
 replace U:=lB U
 obtain ⟨un,ubd,ut,fI,rfl,rfl,rfl,rfl⟩:=ej
 have Mz:=fI.lY
 have yp:=fI.oe
 have MB:=fI.bK
 have BA:=fI.bV
 have MC:=fI.nl
 have MD:=fI.tl
 have ME:=fI.bl
 have MF:=fI.pW
 have MG:=fI.pA
 have MA:=fI.ox
 replace U:=lB U
 have e5:=bB.lo
 have gg:=bB.aG
 refine aB ab U (ar rfl<|ah) fun a w ab U=>ax fun cm bD=>?_
 revert U;revert ab;apply ho (J:=IK 13 _ _ _ _ _) #[false,false,false,false,false,false,false,false,false,false,false] 11 mixed rfl rfl
 ·intro w ab U
  refine aR 0 rfl ab (U.ak ae (ae.n.n.n.n.n.n)) (bE rfl) fun a ab=>aR 1 rfl ab (U.ak ae (ae.n.n.n.n.n.n)) (bI rfl) fun a ab=>aR 2 rfl ab (U.ak ae (ae.n.n.n.n.n.n)) (aV gk rfl rfl (s':=0) aA) fun a ab=>aR 3 rfl ab (U.ak ae (ae.n.n.n.n.n.k)) (bc oz 0 rfl rfl rfl rfl) fun a ab=>aR 5 rfl ab (U.ak ae (ae.n.n.n.n.n.n)) (bE rfl) fun a ab=>?_
  refine aR 6 rfl ab (U.ak ae (ae.n.n.n.n.n.n)) (bI rfl) fun a ab=>aR 7 rfl ab (U.ak ae (ae.n.n.n.n.n.n)) (aV gk rfl rfl (s':=0) aA) fun a ab=>aR 8 rfl ab (U.ak ae (ae.n.n.n.n.n.k)) (bc bG 0 rfl rfl rfl rfl) fun a ab=>fy [4] aA rfl ⟨?_,trivial⟩
  replace U:=(U.perm kq).perm lh
  replace U:=lB U
  refine dQ _ rfl rfl ab U rfl (dy K3 rfl (List.Perm.refl _) (by exact (PN _ _  (by first | assumption | exact ao.ir (by assumption) | exact ao.kl (by assumption) _ _) (S:=S) (v:=v)))) ?_
  rintro _ _ _ a w ⟨_,_,rfl,rfl,⟨rfl,rfl,rfl⟩⟩ ab U
  replace U:=lB U
  refine ⟨⟨.inr (U.ak ae (ae.n.n.n.k.n.n)),.inr (U.ak ae (ae.n.n.n.n.n.n)),.inr (U.ak ae (ae.n.n.n.n.n.n)),.inr (U.ak ae (ae.n.n.n.n.n.n)),al,al,.inr (U.ak ae (ae.n.n.n.n.n.n)),.inr (U.ak ae (ae.n.n.n.n.n.n)),trivial⟩,?_⟩
  refine aR 9 rfl ab (U.ak ae (ae.n.n.n.n.n.n)) (na rfl rfl (by omega)) fun a ab=>aR 10 rfl ab (U.ak ae (ae.n.n.n.n.n.n)) (lD rfl) fun a ab=>ei aA (aah  (trivial) (ab.sub (L':=[(2,_)]) ⟨rfl,trivial⟩) U)
 rintro a w ⟨-,ab,U⟩
 (try dsimp only at ab U)
 refine bD _ _<|wp_ret ?_
 replace U:=(((U.perm nj).perm mf).perm oH).perm px
 exact cQ (rs:=[.tmp 2]) rfl ab U (vs:=[_]) ⟨rfl,trivial⟩ [] [_,_,_,_,_,_] ae ae (aj.q0 (B:=fh bd v) (W:=fj v) (J:=J) (S:=S) ⟨rfl,rfl,_,_,_,_,rfl,⟨un,ubd,ut,fI,rfl,rfl,rfl,rfl⟩⟩ (rfl) (rfl) (rfl))
end
section
theorem Vk:bU Tryz.prog 129:=bY Tryz.func129
theorem Vl:bU Tryz.prog 130:=bY Tryz.func130
theorem Vm:bU Tryz.prog 131:=bY Tryz.func131
theorem Vn:bU Tryz.prog 132:=bY Tryz.func132
theorem KY:bU Tryz.prog 133:=bY Tryz.func133
attribute [local irreducible] aK.sum aj.eW aj.aT aj.cU aj.bh aj.cH
theorem XU(b bd:Nat)(v:Value)(J:aj.dn)(S:ao.aX)(t:List UInt8)(w0:World)(bP:List aP){cj ck cr ct:av}{dK:Nat×Nat}{dJ:TypeId}(dF:w0.heap[0]?=some (.cells (aK.ek.map cx).toArray dJ dK))(ej:lN b bd J cj ck cr ct)(bB:ao.Ok S):eH Tryz.prog 87 [.pointer (some ⟨b,0,none⟩),vs t] w0 bP [cj,ck,cr,ct,fh bd v S,fj v S] (aj.Ab (lN b bd) (fh bd v) (fj v) (aj.app J S t).1 (aj.app J S t).2.1 (.tuple [az (aj.app J S t).2.2.1,az (aj.app J S t).2.2.2].toArray)):=by
 refine fF Tryz.func87 rfl Tryz.ntmps87 (Nat.le_of_ble_eq_true rfl) fun cw a w ab U=>?_
 replace U:=lB U
 obtain ⟨un,ubd,ut,fI,rfl,rfl,rfl,rfl⟩:=ej
 have Mz:=fI.lY
 have yp:=fI.oe
 have MB:=fI.bK
 have BA:=fI.bV
 have MC:=fI.nl
 have MD:=fI.tl
 have ME:=fI.bl
 have MF:=fI.pW
 have MG:=fI.pA
 have MA:=fI.ox
 replace U:=lB U
 have e5:=bB.lo
 have gg:=bB.aG
 refine aB ab U (ar rfl<|ar rfl<|ah) fun a w ab U=>ax fun cm bD=>aB ab U (ai rfl<|ag (bI rfl)<|ag (aV gk rfl rfl (s':=0) aA)<|ag (bc fg 0 rfl rfl rfl rfl)<|ah) fun a w ab U=>cX ab rfl (fun aS=>?_) (fun aS=>?_)
 ·refine ax fun dP cq=>bq ab U (ar rfl<|ar rfl<|ah) fun a w ab U=>cq _ _ ?_
  refine wp_ret<|cQ (rs:=[.tmp 4,.tmp 5]) rfl ab U (vs:=[_,_]) ⟨rfl,rfl,trivial⟩ [] [_,_,_,_,_,_] ae ae (aj.q0 (B:=fh bd v) (W:=fj v) (J:=J) (S:=S) ⟨rfl,rfl,_,_,_,_,rfl,⟨un,ubd,ut,fI,rfl,rfl,rfl,rfl⟩⟩ (by rw [aj.app_1 aS]) (by rw [aj.app_1 aS]) (by rw [aj.app_1 aS]))
 ·refine wp_skip<|bD _ _<|ax fun dw b3=>a8 fun et cz=>aE ab U (ai rfl<|ag (hB bz rfl)<|ag (eQ rfl rfl)<|ai rfl<|ah) fun a w ab U=>?_
  refine fS 3 24 5 ab U rfl rfl rfl rfl rfl (fun aO=>have aO:=(by first | exact of_decide_eq_false aO | exact aO);aN 24 rfl rfl rfl (bE rfl)<|aN 24 rfl rfl rfl (bI rfl)<|aN 24 rfl rfl rfl (aV gk rfl rfl (s':=0) aA)<|aN 24 rfl rfl rfl (bc bG 0 rfl rfl rfl rfl)<|aN 24 rfl rfl rfl (eQ rfl rfl)<|ah) rfl rfl fun a w ab U=>?_
  refine wpList_nil (cz _ _ ?_)
  refine cX ab rfl (fun bs=>?_) (fun bs=>?_)
  ·(try simp only [c2] at bs)
   refine aB ab U (ar rfl<|ar rfl<|ah) fun a w ab U=>wp_ret ?_
   exact cQ (rs:=[.tmp 4,.tmp 5]) rfl ab U (vs:=[_,_]) ⟨rfl,rfl,trivial⟩ [] [_,_,_,_,_,_] ae ae (aj.q0 (B:=fh bd v) (W:=fj v) (J:=J) (S:=S) ⟨rfl,rfl,_,_,_,_,rfl,⟨un,ubd,ut,fI,rfl,rfl,rfl,rfl⟩⟩ (by rw [aj.uT (by rw [aS];simp) (by omega)]) (by rw [aj.uT (by rw [aS];simp) (by omega)]) (by rw [aj.uT (by rw [aS];simp) (by omega)]))
  ·(try simp only [c2] at bs)
   refine wp_skip<|b3 _ _<|ax fun e1 cF=>a8 fun fY dg=>aE ab U (ai rfl<|ag (hB bz rfl)<|ag (bQ Ex rfl (fun w U=>Gz _ (by first | assumption | omega) w ) (fun _ _ _ h=>h))<|ai rfl<|ah) fun a w ab U=>?_
   refine aH ab U rfl (dy Vk rfl (List.Perm.refl _) (by exact (Zp _ bd v J S _ _  ⟨un,ubd,ut,fI,rfl,rfl,rfl,rfl⟩ (by assumption)))) ?_
   rintro _ _ _ a w ⟨_,_,rfl,rfl,⟨rfl,rfl,sn,sq,sr,su,rfl,Xr⟩⟩ ab U
   replace U:=lB U
   refine aE ab U (ag (eQ rfl rfl)<|ah) fun a w ab U=>wpList_nil ?_
   obtain ⟨agQ,agL,agX,oV,rfl,rfl,rfl,rfl⟩:=Xr
   have alc:=oV.lY
   have ald:=oV.oe
   have ale:=oV.bK
   have alf:=oV.bV
   have alg:=oV.nl
   have alh:=oV.tl
   have ali:=oV.bl
   have alj:=oV.pW
   have alk:=oV.pA
   have alb:=oV.ox
   replace U:=lB U
   refine dg _ _<|b9 ab rfl (fun b7=>?_) (fun b7=>?_)
   ·refine ax fun hE dS=>bq ab U (ar rfl<|ar rfl<|ah) fun a w ab U=>dS _ _ ?_
    refine wp_ret<|cQ (rs:=[.tmp 4,.tmp 5]) rfl ab U (vs:=[_,_]) ⟨rfl,rfl,trivial⟩ [] [_,_,_,_,_,_] ae ae (aj.q0 (B:=fh bd v) (W:=fj v) (J:=J) (S:=S) ⟨rfl,rfl,_,_,_,_,rfl,⟨agQ,agL,agX,oV,rfl,rfl,rfl,rfl⟩⟩ (by rw [aj.s0 (by rw [aS];simp) (by omega) (by omega)]) (by rw [aj.s0 (by rw [aS];simp) (by omega) (by omega)]) (by rw [aj.s0 (by rw [aS];simp) (by omega) (by omega)]))
   ·have cZ:¬ J.gZ=true:=by rw [aS];simp
    have hT:t.length≤8000∧J.next≤4096:=by omega
    have hU:¬ aj.room J S<aj.bh t.length:=by omega
    have n3:=aj.nW t.length
    have ZB:((aj.cH J.next t).length:Int)=aj.bh t.length:=by rw [aj.p6,Int.toNat_of_nonneg n3.1]
    have F6:=hU
    unfold aj.room at F6
    have xW:=aj.Ix fI (by omega) hT hU
    refine wp_skip<|cF _ _<|aB ab U (ai rfl<|ag (bI rfl)<|ag (aV gk rfl rfl (s':=0) aA)<|ag (bc bG 0 rfl rfl rfl rfl)<|ar rfl<|ah) fun a w ab U=>aB ab U (ai rfl<|ag (bI rfl)<|ag (aV gk rfl rfl (s':=0) aA)<|ag (bc bG 0 rfl rfl rfl rfl)<|ar rfl<|ah) fun a w ab U=>a8 fun iv eD=>?_
    refine aE ab U (ai rfl<|ai rfl<|ah) fun a w ab U=>aH ab U rfl (eB Vl rfl (fun w U=>aeY _ _ (by omega) w (U.ext _ _ dF))) ?_
    rintro _ _ _ a w ⟨_,_,rfl,rfl,⟨sz,rfl,rfl,rfl⟩⟩ ab U
    replace U:=kH U
    refine aE ab U (ai rfl<|ag (cE rfl rfl)<|ag (cE rfl rfl)<|ar rfl<|ar rfl<|ah) fun a w ab U=>wpList_nil ?_
    rw [aj.Cb (by omega) (by omega)] at U ab
    dsimp only at U ab
    refine eD _ _<|a8 fun kM gr=>aE ab U (ai rfl<|ai rfl<|bX rfl rfl<|ag (bI rfl)<|ag (aV gk rfl rfl (s':=0) aA)<|ah) fun a w ab U=>aH ab U rfl (c7 bG 1 rfl rfl rfl rfl (by simp)) ?_
    rintro _ _ _ a w ⟨rfl,rfl,rfl⟩ ab U
    replace U:aC _ (_) (_::.blk _ _ ([_,_,_,_,_,_,_].set 4 _)::_::_::_::_::_::_) _:=U
    simp only [List.set_cons_zero,List.set_cons_succ] at U
    replace U:=kH U
    refine wpList_nil (gr _ _ ?_)
    refine a8 fun jN fa=>aE ab U (ai rfl<|ai rfl<|ai rfl<|ag (hX cl 0 rfl rfl)<|bX rfl rfl<|ag (bI rfl)<|ag (aV gk rfl rfl (s':=0) aA)<|ah) fun a w ab U=>aH ab U rfl (c7 bG 1 rfl rfl rfl rfl (by simp)) ?_
    rintro _ _ _ a w ⟨rfl,rfl,rfl⟩ ab U
    replace U:aC _ (_) (_::.blk _ _ ([_,_,_,_,_,_,_].set 5 _)::_::_::_::_::_::_) _:=U
    simp only [List.set_cons_zero,List.set_cons_succ] at U
    replace U:=kH U
    refine wpList_nil (fa _ _ ?_)
    refine ax fun mc hh=>aB ab U (ar rfl<|ah) fun a w ab U=>wp_block ?_
    obtain ⟨bC,aZ,U⟩:=U.cT
    refine df (γ:=Nat) (0) (fun (i:Nat)=>[(10,az (i:Int))]) [(0,_),(1,_),(6,_),(7,_),(8,_)] (fun (i:Nat)=>((bC.set 5 (fh bd v (aj.c9 S J.en (aj.cH J.next t) i).1)).set 6 (fj v (aj.c9 S J.en (aj.cH J.next t) i).1))) (fun (i:Nat)=>i≤(aj.cH J.next t).length∧(aj.c9 S J.en (aj.cH J.next t) i).2=0) (fun (i:Nat)=>(aj.cH J.next t).length-i) (ab.sub ⟨rfl,rfl,rfl,rfl,rfl,rfl,trivial⟩) (by subst aZ;exact U) (by exact ⟨Nat.zero_le _,rfl⟩) ?_
    rintro i a w ba ab U
    subst aZ;(try dsimp only at ba ab U)
    obtain ⟨eu,eZ⟩:=ba
    replace U:=kH U
    have ajA:=aj.zS bB J.en (aj.cH J.next t) i
    refine ax fun oF iX=>aB ab U (ai rfl<|ai rfl<|ag (hX cl 0 rfl rfl)<|ag (cK rfl rfl)<|ah) fun a w ab U=>b9 ab rfl (fun dr=>?_) (fun dr=>?_)
    ·refine wp_skip<|iX _ _<|ax fun pr jF=>wp_block ?_
     refine ax fun sK lS=>h2 11 mixed aA ab U (ai rfl<|ag (bI rfl)<|ag (aV gk rfl rfl (s':=0) aA)<|ag (bc oz 1 rfl rfl rfl rfl)<|ai rfl<|ai rfl<|bX rfl rfl<|ai rfl<|ai rfl<|ag (ft cl bz 0 rfl rfl rfl (by omega))<|ag (lE bz 0 default rfl rfl aI rfl)<|ah) fun a w ab U=>?_
     replace U:=(U.perm pw).perm qf
     replace U:=kH U
     refine aH ab U rfl (dy Vm rfl (List.Perm.refl _) (by exact (afe _ _ _ _  (by first | assumption | exact ao.ir (by assumption) | exact ao.kl (by assumption) _ _) (S:=(aj.c9 S J.en (aj.cH J.next t) i).1) (v:=v)))) ?_
     rintro _ _ _ a w ⟨_,_,rfl,rfl,⟨rfl,rfl,rfl⟩⟩ ab U
     replace U:=kH U
     refine aE ab U (ar rfl<|ah) fun a w ab U=>wpList_nil ?_
     rw [Int.toNat_natCast,show (default:List UInt8)=[] from rfl] at ab U
     refine lS _ _<|aB ab U (ai rfl<|ag (dM rfl rfl)<|ah) fun a w ab U=>eP ab rfl (fun dm=>?_) (fun dm=>?_)
     ·refine ax fun Ds tp=>du ?_
      refine aE ab U (ai rfl<|ag (bI rfl)<|ag (aV gk rfl rfl (s':=0) aA)<|ah) fun a w ab U=>aH ab U rfl (c7 fg 3 rfl rfl rfl rfl (by simp)) ?_
      rintro _ _ _ a w ⟨rfl,rfl,rfl⟩ ab U
      replace U:aC _ (_) (_::_::_::.blk _ _ ([_,_,_,_,_,_,_].set 6 _)::_::_::_::_) _:=U
      simp only [List.set_cons_zero,List.set_cons_succ] at U
      replace U:=kH U
      refine wpList_nil (tp _ _ ?_)
      refine aB ab U (ai rfl<|ar rfl<|ar rfl<|ah) fun a w ab U=>wp_ret ?_
      replace U:=(((U.perm qe).perm sN).perm uK).perm uM
      exact cQ (rs:=[.tmp 4,.tmp 5]) rfl ab U (vs:=[_,_]) ⟨rfl,rfl,trivial⟩ [] [_,_,_,_,_,_] ae (ae.n.k.k.k.k.k.k) (aj.q0 (B:=fh bd v) (W:=fj v) (J:=aj.jM J t) (S:=(ao.write (aj.c9 S J.en (aj.cH J.next t) i).1 (J.en+i) ((aj.cH J.next t).getD i [])).1) ⟨rfl,rfl,_,_,_,_,rfl,⟨_,_,_,aj.C6 xW,rfl,rfl,rfl,rfl⟩⟩ (by rw [aj.nk cZ hT hU (by rw [aj.sB (by omega) eZ dm];first | exact dm | exact iZ | exact h7),aj.sB (by omega) eZ dm]) (by rw [aj.nk cZ hT hU (by rw [aj.sB (by omega) eZ dm];first | exact dm | exact iZ | exact h7),aj.sB (by omega) eZ dm]) (by rw [aj.nk cZ hT hU (by rw [aj.sB (by omega) eZ dm];first | exact dm | exact iZ | exact h7),aj.sB (by omega) eZ dm]))
     ·refine wp_skip<|jF _ _<|bq ab U (ai rfl<|bX rfl rfl<|ar rfl<|ah) fun a w ab U=>?_
      replace U:=((((U.perm nj).perm mf).perm oH).perm px).perm sO
      replace U:=U.ak ae ae
      refine ⟨(i+1),?_,?_,ab.sub ⟨rfl,rfl,rfl,rfl,rfl,rfl,trivial⟩,?_⟩
      ·(try dsimp only);omega
      ·exact ⟨by omega,by rw [aj.sF eZ];omega⟩
      ·rw [aj.sF eZ];exact U
    ·obtain rfl:i=(aj.cH J.next t).length:=by omega
     have XL:=aj.zS bB J.en (aj.cH J.next t) (aj.cH J.next t).length
     refine wp_exit<|hh _ _<|a8 fun Dt tq=>aE ab U (ai rfl<|ag (bI rfl)<|ag (aV gk rfl rfl (s':=0) aA)<|ag (bc oz 1 rfl rfl rfl rfl)<|ah) fun a w ab U=>?_
     replace U:=(U.perm pw).perm qf
     replace U:=kH U
     refine aH ab U rfl (dy Vn rfl (List.Perm.refl _) (by exact (aeE _ _  (by first | assumption | exact ao.ir (by assumption) | exact ao.kl (by assumption) _ _) (S:=(aj.c9 S J.en (aj.cH J.next t) (aj.cH J.next t).length).1) (v:=v)))) ?_
     rintro _ _ _ a w ⟨_,_,rfl,rfl,⟨rfl,rfl,rfl⟩⟩ ab U
     replace U:=kH U
     refine aE ab U (ar rfl<|ah) fun a w ab U=>wpList_nil (tq _ _ ?_)
     refine ax fun Du tt=>aB ab U (ai rfl<|ag (dM rfl rfl)<|ah) fun a w ab U=>eP ab rfl (fun iZ=>?_) (fun iZ=>?_)
     ·refine ax fun IQ xR=>du ?_
      refine aE ab U (ai rfl<|ag (bI rfl)<|ag (aV gk rfl rfl (s':=0) aA)<|ah) fun a w ab U=>aH ab U rfl (c7 fg 3 rfl rfl rfl rfl (by simp)) ?_
      rintro _ _ _ a w ⟨rfl,rfl,rfl⟩ ab U
      replace U:aC _ (_) (_::_::_::.blk _ _ ([_,_,_,_,_,_,_].set 6 _)::_::_::_::_) _:=U
      simp only [List.set_cons_zero,List.set_cons_succ] at U
      replace U:=kH U
      refine wpList_nil (xR _ _ ?_)
      refine aB ab U (ai rfl<|ar rfl<|ar rfl<|ah) fun a w ab U=>wp_ret ?_
      replace U:=(((U.perm qe).perm sN).perm uK).perm uM
      exact cQ (rs:=[.tmp 4,.tmp 5]) rfl ab U (vs:=[_,_]) ⟨rfl,rfl,trivial⟩ [] [_,_,_,_,_,_] ae (ae.n.k.k.k.k.k.k) (aj.q0 (B:=fh bd v) (W:=fj v) (J:=aj.jM J t) (S:=(ao.flush (aj.c9 S J.en (aj.cH J.next t) (aj.cH J.next t).length).1).1) ⟨rfl,rfl,_,_,_,_,rfl,⟨_,_,_,aj.C6 xW,rfl,rfl,rfl,rfl⟩⟩ (by rw [aj.nk cZ hT hU (by rw [aj.sC eZ iZ];first | exact dm | exact iZ | exact h7),aj.sC eZ iZ]) (by rw [aj.nk cZ hT hU (by rw [aj.sC eZ iZ];first | exact dm | exact iZ | exact h7),aj.sC eZ iZ]) (by rw [aj.nk cZ hT hU (by rw [aj.sC eZ iZ];first | exact dm | exact iZ | exact h7),aj.sC eZ iZ]))
     ·have ajy:=ao.N7 XL
      refine wp_skip<|tt _ _<|aB ab U (ar rfl<|ah) fun a w ab U=>ax fun Sb Fj=>aB ab U (ar rfl<|ah) fun a w ab U=>?_
      refine wp_block ?_
      obtain ⟨bC,aZ,U⟩:=U.cT
      refine df (γ:=Nat) (0) (fun (i:Nat)=>[(14,az (i:Int)),(13,.bool (aj.jy (ao.flush (aj.c9 S J.en (aj.cH J.next t) (aj.cH J.next t).length).1).1 J.en (aj.cH J.next t) i).2)]) [(0,_),(1,_),(6,_),(7,_),(8,_)] (fun (i:Nat)=>((bC.set 0 (fh bd v (ao.flush (aj.c9 S J.en (aj.cH J.next t) (aj.cH J.next t).length).1).1)).set 1 (fj v (ao.flush (aj.c9 S J.en (aj.cH J.next t) (aj.cH J.next t).length).1).1))) (fun (i:Nat)=>i≤(aj.cH J.next t).length∧(aj.jy (ao.flush (aj.c9 S J.en (aj.cH J.next t) (aj.cH J.next t).length).1).1 J.en (aj.cH J.next t) i).1=0) (fun (i:Nat)=>(aj.cH J.next t).length-i) (ab.sub ⟨rfl,rfl,rfl,rfl,rfl,rfl,rfl,trivial⟩) (by subst aZ;exact U) (by exact ⟨Nat.zero_le _,rfl⟩) ?_
      rintro i a w ba ab U
      subst aZ;(try dsimp only at ba ab U)
      obtain ⟨eu,gH⟩:=ba
      replace U:=kH U
      refine ax fun Sc Fk=>aB ab U (ai rfl<|ai rfl<|ag (hX cl 2 rfl rfl)<|ag (cK rfl rfl)<|ah) fun a w ab U=>b9 ab rfl (fun jS=>?_) (fun jS=>?_)
      ·refine wp_skip<|Fk _ _<|ax fun Sd Fl=>wp_block ?_
       refine a8 fun Se Fm=>aE ab U (ai rfl<|ag (bI rfl)<|ag (aV gk rfl rfl (s':=0) aA)<|ag (bc oz 3 rfl rfl rfl rfl)<|ai rfl<|ai rfl<|bX rfl rfl<|ah) fun a w ab U=>aH ab U rfl (dy KY rfl (List.Perm.refl _) (by exact (P0 _ _ _  (by first | assumption | exact ao.ir (by assumption) | exact ao.kl (by assumption) _ _) (S:=(ao.flush (aj.c9 S J.en (aj.cH J.next t) (aj.cH J.next t).length).1).1) (v:=v)))) ?_
       rintro _ _ _ a w ⟨_,_,rfl,rfl,⟨rfl,rfl,rfl⟩⟩ ab U
       replace U:=kH U
       refine aE ab U (ai rfl<|ag (cE rfl rfl)<|ag (cE rfl rfl)<|ar rfl<|ar rfl<|ah) fun a w ab U=>wpList_nil (Fm _ _ ?_)
       refine ax fun Sf Fo=>aB ab U (ai rfl<|ag (dM rfl rfl)<|ah) fun a w ab U=>eP ab rfl (fun h7=>?_) (fun h7=>?_)
       ·refine ax fun Sg Fp=>du ?_
        refine aE ab U (ai rfl<|ag (bI rfl)<|ag (aV gk rfl rfl (s':=0) aA)<|ah) fun a w ab U=>aH ab U rfl (c7 fg 3 rfl rfl rfl rfl (by simp)) ?_
        rintro _ _ _ a w ⟨rfl,rfl,rfl⟩ ab U
        replace U:aC _ (_) (_::_::_::.blk _ _ ([_,_,_,_,_,_,_].set 6 _)::_::_::_::_) _:=U
        simp only [List.set_cons_zero,List.set_cons_succ] at U
        replace U:=kH U
        refine wpList_nil (Fp _ _ ?_)
        refine aB ab U (ai rfl<|ar rfl<|ar rfl<|ah) fun a w ab U=>wp_ret ?_
        replace U:=(((U.perm qe).perm sN).perm uK).perm uM
        exact cQ (rs:=[.tmp 4,.tmp 5]) rfl ab U (vs:=[_,_]) ⟨rfl,rfl,trivial⟩ [] [_,_,_,_,_,_] ae (ae.n.k.k.k.k.k.k) (aj.q0 (B:=fh bd v) (W:=fj v) (J:=aj.jM J t) (S:=(ao.flush (aj.c9 S J.en (aj.cH J.next t) (aj.cH J.next t).length).1).1) ⟨rfl,rfl,_,_,_,_,rfl,⟨_,_,_,aj.C6 xW,rfl,rfl,rfl,rfl⟩⟩ (by rw [aj.nk cZ hT hU (by rw [aj.sD rfl (by omega) eZ (by omega) gH h7];first | exact dm | exact iZ | exact h7),aj.sD rfl (by omega) eZ (by omega) gH h7]) (by rw [aj.nk cZ hT hU (by rw [aj.sD rfl (by omega) eZ (by omega) gH h7];first | exact dm | exact iZ | exact h7),aj.sD rfl (by omega) eZ (by omega) gH h7]) (by rw [aj.nk cZ hT hU (by rw [aj.sD rfl (by omega) eZ (by omega) gH h7];first | exact dm | exact iZ | exact h7),aj.sD rfl (by omega) eZ (by omega) gH h7]))
       ·refine wp_skip<|Fo _ _<|du ?_
        refine aE ab U (ai rfl<|ai rfl<|ah) fun a w ab U=>jJ 1 122 6 ab U rfl rfl rfl rfl rfl (fun aO=>have aO:=aO;aN 122 rfl rfl rfl (bE rfl)<|aN 122 rfl rfl rfl (bE rfl)<|aN 122 rfl rfl rfl (bE rfl)<|aN 122 rfl rfl rfl (ft cl bz 2 rfl rfl rfl (by omega))<|aN 122 rfl rfl rfl (lE bz 2 default rfl rfl aI rfl)<|aN 122 rfl rfl rfl (vX rfl rfl)<|ah) rfl rfl fun a w ab U=>?_
        refine aE ab U (ar rfl<|ah) fun a w ab U=>wpList_nil ?_
        rw [Int.toNat_natCast,show (default:List UInt8)=[] from rfl] at ab
        refine Fl _ _<|bq ab U (ai rfl<|bX rfl rfl<|ar rfl<|ah) fun a w ab U=>⟨(i+1),?_,?_,ab.sub ⟨rfl,(by show some (Value.bool _)=some (Value.bool _);rw [aj.y8 gH (by omega)];dsimp only;rw [show decide ((aj.cH J.next t).getD i []=(ao.read (ao.flush (aj.c9 S J.en (aj.cH J.next t) (aj.cH J.next t).length).1).1 (J.en+i)).1)=decide ((ao.read (ao.flush (aj.c9 S J.en (aj.cH J.next t) (aj.cH J.next t).length).1).1 (J.en+i)).1=(aj.cH J.next t).getD i []) from decide_eq_decide.2 eq_comm]),rfl,rfl,rfl,rfl,rfl,trivial⟩,?_⟩
        ·(try dsimp only);omega
        ·exact ⟨by omega,by rw [aj.y8 gH (by omega)]⟩
        ·exact U
      ·obtain rfl:i=(aj.cH J.next t).length:=by omega
       refine wp_exit<|Fj _ _<|ax fun ah4 Xy=>aB ab U (ai rfl<|ag (fC rfl)<|ah) fun a w ab U=>cX ab rfl (fun mr=>?_) (fun mr=>?_)
       ·refine ax fun ah5 Xz=>bq ab U (ar rfl<|ar rfl<|ah) fun a w ab U=>Xz _ _ ?_
        refine wp_ret ?_
        replace U:=(((U.perm qe).perm sN).perm uK).perm uM
        exact cQ (rs:=[.tmp 4,.tmp 5]) rfl ab U (vs:=[_,_]) ⟨rfl,rfl,trivial⟩ [] [_,_,_,_,_,_] ae (ae.n.k.k.k.k.k.k) (aj.q0 (B:=fh bd v) (W:=fj v) (J:=aj.jL J t) (S:=(ao.flush (aj.c9 S J.en (aj.cH J.next t) (aj.cH J.next t).length).1).1) ⟨rfl,rfl,_,_,_,_,rfl,⟨_,_,_,xW,rfl,rfl,rfl,rfl⟩⟩ (by rw [aj.uU cZ hT hU (by rw [aj.jX rfl eZ (by omega) gH]) (by rw [aj.jX rfl eZ (by omega) gH];simpa using mr),aj.jX rfl eZ (by omega) gH]) (by rw [aj.uU cZ hT hU (by rw [aj.jX rfl eZ (by omega) gH]) (by rw [aj.jX rfl eZ (by omega) gH];simpa using mr),aj.jX rfl eZ (by omega) gH]) (by rw [aj.uU cZ hT hU (by rw [aj.jX rfl eZ (by omega) gH]) (by rw [aj.jX rfl eZ (by omega) gH];simpa using mr),aj.jX rfl eZ (by omega) gH]))
       ·refine wp_skip<|Xy _ _<|a8 fun Sh A6=>aE ab U (ai rfl<|ai rfl<|ag (bI rfl)<|ag (aV gk rfl rfl (s':=0) aA)<|ag (bc c5 3 rfl rfl rfl rfl)<|ai rfl<|ah) fun a w ab U=>aH ab U rfl (dX c5 bG rfl rfl bJ (by decide) rfl rfl) ?_
        rintro wF _ _ a w ⟨rfl,rfl⟩ ab U
        replace U:=hW U
        refine aH ab U rfl (dB c5 bG 5 rfl rfl rfl (eA c5 (k:=0) rfl bJ) aI rfl (by decide)) ?_
        rintro Il _ _ a w ⟨rfl,rfl⟩ ab U
        replace U:=hW U
        refine aE ab U (ag (bI rfl)<|ag (aV gk rfl rfl (s':=0) aA)<|ah) fun a w ab U=>aH ab U rfl (c7 c5 4 rfl rfl rfl (row_one (U.own _ (List.mem_of_getElem? (i:=5) rfl)).1) (by simp)) ?_
        rintro _ _ _ a w ⟨rfl,rfl,rfl⟩ ab U
        replace U:aC _ (_) (_::_::_::_::.blk _ _ ([_,_,_,_,_,_,_].set 1 _)::_::_::_::_) _:=U
        simp only [List.set_cons_zero,List.set_cons_succ] at U
        replace U:=hW U
        refine wpList_nil (A6 _ _ ?_)
        refine a8 fun ah6 XA=>aE ab U (ai rfl<|ai rfl<|ag (bI rfl)<|ag (aV gk rfl rfl (s':=0) aA)<|ag (bc cl 4 rfl rfl rfl rfl)<|ai rfl<|ah) fun a w ab U=>aH ab U rfl (dX cl bz rfl rfl bJ (by decide) rfl rfl) ?_
        rintro agY _ _ a w ⟨rfl,rfl⟩ ab U
        replace U:=jT U
        refine aH ab U rfl (dB cl bz 8 rfl rfl rfl (eA cl (k:=0) rfl bJ) aI rfl (by decide)) ?_
        rintro Im _ _ a w ⟨rfl,rfl⟩ ab U
        replace U:=jT U
        refine aE ab U (ag (bI rfl)<|ag (aV gk rfl rfl (s':=0) aA)<|ah) fun a w ab U=>aH ab U rfl (c7 cl 5 rfl rfl rfl (row_one (U.own _ (List.mem_of_getElem? (i:=8) rfl)).1) (by simp)) ?_
        rintro _ _ _ a w ⟨rfl,rfl,rfl⟩ ab U
        replace U:aC _ (_) (_::_::_::_::_::.blk _ _ ([_,_,_,_,_,_,_].set 2 _)::_::_::_::_) _:=U
        simp only [List.set_cons_zero,List.set_cons_succ] at U
        replace U:=jT U
        refine wpList_nil (XA _ _ ?_)
        refine aB ab U (ai rfl<|ar rfl<|ar rfl<|ah) fun a w ab U=>wp_ret ?_
        replace U:=(((((U.perm pw).perm qf).perm uL).perm uN).perm sO).perm pz
        exact cQ (rs:=[.tmp 4,.tmp 5]) rfl ab U (vs:=[_,_]) ⟨rfl,rfl,trivial⟩ [] [_,_,_,_,_,_] ae (ae.n.n.n.k.k.k.k.k.k) (aj.q0 (B:=fh bd v) (W:=fj v) (J:=aj.iS J t) (S:=(ao.flush (aj.c9 S J.en (aj.cH J.next t) (aj.cH J.next t).length).1).1) ⟨rfl,rfl,_,_,_,_,rfl,⟨_,_,_,aj.Iy fI xW hT,rfl,(by simp [aj.iS,aj.jL]),rfl,(by simp [aj.iS,aj.jL])⟩⟩ (by rw [aj.rl cZ hT hU (by rw [aj.jX rfl eZ (by omega) gH]) (by rw [aj.jX rfl eZ (by omega) gH];simpa using mr),aj.jX rfl eZ (by omega) gH]) (by rw [aj.rl cZ hT hU (by rw [aj.jX rfl eZ (by omega) gH]) (by rw [aj.jX rfl eZ (by omega) gH];simpa using mr),aj.jX rfl eZ (by omega) gH]) (by rw [aj.rl cZ hT hU (by rw [aj.jX rfl eZ (by omega) gH]) (by rw [aj.jX rfl eZ (by omega) gH];simpa using mr),aj.jX rfl eZ (by omega) gH]))
end
section
theorem Wi:bU Tryz.prog 94:=bY Tryz.func94
theorem Wj:bU Tryz.prog 95:=bY Tryz.func95
attribute [local irreducible] aK.sum aj.eW aj.aT aj.cU aj.bh aj.c8 aj.fX
theorem acB(h:ao.hr)(S:ao.aX)(nF:S.off=false)(w0:World)(bP:List aP){d1 d2 d3 d4:av}{dK:Nat×Nat}{dJ:TypeId}(dF:w0.heap[1]?=some (.cells (aK.ek.map cx).toArray dJ dK))(dh:gX h S d1 d2 d3 d4):eH Tryz.prog 52 [.pointer (some ⟨h.b,0,none⟩)] w0 bP [d1,d2,d3,d4] (fun r zs hs=>zs=[]∧∃ b cj ck cr ct bK bV fx iy,r=.tuple [.pointer (some ⟨b,0,none⟩),az 0].toArray∧hs=[cj,ck,cr,ct,bK,bV,fx,iy]∧lO b h.b (aj.eo S) cj ck cr ct∧gX h S bK bV fx iy):=by
 refine fF Tryz.func52 rfl Tryz.ntmps52 (Nat.le_of_ble_eq_true rfl) fun cw a w ab U=>?_
 replace U:=fr U
 have bB:=ao.ng.ok dh
 have e5:=bB.lo
 have gg:=bB.aG
 have rX:=aj.Hu S
 refine aB ab U (ar rfl<|ar rfl<|ah) fun a w ab U=>a8 fun cm bD=>aE ab U (ai rfl<|ag (hc (places:=[(0,1),(1,1),(2,1),(3,1),(4,1),(5,1),(6,1)]) (cells:=[_,.slice none 0 0,.slice none 0 0,.slice none 0 0,_,.int .i64 0,.bool false]) ff aA rfl (by rfl))<|ah) fun a w ab U=>aH ab U rfl (iT rfl) ?_
 rintro _ _ _ a w ⟨b6,rfl,rfl,rfl⟩ ab U
 refine aE ab U (ar rfl<|ah) fun a w ab U=>wpList_nil ?_
 replace U:=U.hV 9 1
 replace U:=U.hV 3 1
 replace U:=U.hV 3 1
 replace U:=hW U
 refine bD _ _<|ax fun dH cf=>bq ab U (ar rfl<|ah) fun a w ab U=>?_
 replace U:=U.hV 130 5
 replace U:=jT U
 refine cf _ _<|ax fun dP cq=>a8 fun dw b3=>aE ab U (ai rfl<|ah) fun a w ab U=>?_
 replace U:=(((U.perm pw).perm qf).perm uL).perm uN
 replace U:=jT U
 refine aH ab U rfl (dy Lp rfl (List.Perm.refl _) (by exact (J7 _ _ _ _  dh))) ?_
 rintro _ _ _ a w ⟨_,_,rfl,rfl,⟨rfl,rfl,y0,y1,y2,y3,rfl,xN⟩⟩ ab U
 replace U:=jT U
 refine aE ab U (ai rfl<|ah) fun a w ab U=>wpList_nil (b3 _ _ ?_)
 refine wp_block ?_
 obtain ⟨bC,aZ,U⟩:=U.cT
 refine df (γ:=av×av×av×av×Value×Value×Nat) (y0,y1,y2,y3,(Value.slice none 0 0),(Value.slice none 0 0),0) (fun (cj,ck,cr,ct,ub,ul,k)=>[(5,ul),(20,az (k:Int))]) [(0,_),(4,_),(19,_)] (fun (cj,ck,cr,ct,ub,ul,k)=>(((((((bC.set 0 (cj)).set 1 (ck)).set 2 (cr)).set 3 (ct)).set 8 (.blk b6 172 [.pointer (some ⟨h.b,0,none⟩),(Value.slice none 0 0),ub,(Value.slice none 0 0),az (aj.gi (aj.c4 S) k),az (aj.gD (aj.c4 S) k),.bool false])).set 6 (.row ub 3 1 (aj.gC (aj.c4 S) k).length ((aj.gC (aj.c4 S) k).map az))).set 4 (.row ul 130 5 k ((aj.ep (aj.c4 S) k).flatMap aj.qV)))) (fun (cj,ck,cr,ct,ub,ul,k)=>k≤S.s.length∧gX h S cj ck cr ct) (fun (cj,ck,cr,ct,ub,ul,k)=>S.s.length-k) (ab.sub ⟨rfl,rfl,rfl,rfl,rfl,trivial⟩) (by subst aZ;exact U) (by exact ⟨Nat.zero_le _,xN⟩) ?_
 rintro ⟨cj,ck,cr,ct,ub,ul,k⟩ a w ba ab U
 subst aZ;(try dsimp only at ba ab U)
 obtain ⟨kD,m2⟩:=ba
 replace U:=jT U
 obtain ⟨e8,gu⟩:=aj.Ak (aj.c4 S) k
 have Mp:=aj.yK (aj.c4 S) k
 have Bq:=(aj.wE (ao.read S (k:Int)).1).1
 refine aB ab U (ag (cK rfl rfl)<|ah) fun a w ab U=>ax fun eU cO=>b9 ab rfl (fun aS=>?_) (fun aS=>?_)
 ·obtain ⟨F5,Mu⟩:=aj.PD bB nF (k:=k) (by omega)
  refine wp_skip<|cO _ _<|ax fun e1 cF=>wp_block ?_
  refine aB ab U (ai rfl<|ar rfl<|ah) fun a w ab U=>a8 fun hE dS=>aE ab U (ai rfl<|ai rfl<|ah) fun a w ab U=>aH ab U rfl (dy K9 rfl (List.Perm.refl _) (by exact (Kg _ _ _ (by omega) _ _  m2))) ?_
  rintro _ _ _ a w ⟨_,_,rfl,rfl,⟨rfl,rfl,um,uo,uq,ur,rfl,vk⟩⟩ ab U
  replace U:=jT U
  refine aE ab U (ai rfl<|ag (cE rfl rfl)<|ag (cE rfl rfl)<|ar rfl<|ar rfl<|ah) fun a w ab U=>wpList_nil (dS _ _ ?_)
  refine ax fun gQ dz=>aB ab U (ai rfl<|ag (dM rfl rfl)<|ah) fun a w ab U=>eP ab rfl (fun bs=>?_) (fun bs=>?_)
  ·exact absurd F5 bs
  ·refine wp_skip<|dz _ _<|a8 fun iv eD=>aE ab U (ai rfl<|ag (bQ V3 rfl (fun w U=>agS _ w (U.ext _ _ dF)) (fun _ _ _ h=>h))<|ah) fun a w ab U=>aH ab U rfl (c1 dI) ?_
   rintro _ _ _ a w ⟨Af,rfl,rfl,rfl⟩ ab U
   refine aH ab U rfl (cA dI 0 rfl rfl rfl rfl aI (bn rfl (bn rfl (bn rfl (bn rfl (bn rfl dC))))) aI) ?_
   rintro _ _ _ a w ⟨rfl,rfl,rfl⟩ ab U
   replace U:=m8 U
   refine wpList_nil (eD _ _ ?_)
   refine a8 fun kM gr=>aE ab U (ai rfl<|ag (fW dI 0 rfl rfl aI rfl)<|ah) fun a w ab U=>aH ab U rfl (qt oy dI rfl aI (by decide) bJ (by decide) (by decide)) ?_
   rintro Il _ _ a w ⟨rfl,rfl⟩ ab U
   replace U:=ud U
   refine aH ab U rfl (dB oy dI 6 rfl rfl rfl (eA oy (k:=0) rfl bJ) aI rfl (by decide)) ?_
   rintro CZ _ _ a w ⟨rfl,rfl⟩ ab U
   replace U:=ud U
   refine aE ab U (ar rfl<|ah) fun a w ab U=>wpList_nil (gr _ _ ?_)
   refine a8 fun jN fa=>aE ab U (ai rfl<|ag (hB bz rfl)<|ag (l0 (fc rfl rfl) (by simp [Mu]))<|ai rfl<|aN 41 rfl rfl rfl (bE rfl)<|ah) fun a w ab U=>wQ ab U (hg 41 rfl rfl) rfl (s8 bz bS bF rfl (by omega)) ?_
   rintro Im _ _ a w ⟨aop,rfl,rfl,MK⟩ ab U
   refine aE ab U (aN 41 rfl rfl rfl (Hl iQ MK rfl aI (by decide))<|aN 41 rfl rfl rfl (Hd iQ MK (.inr (by simp)) rfl rfl aI (by decide))<|aN 41 rfl rfl rfl (oo rfl (q1 iQ bF rfl))<|aN 41 rfl rfl rfl (OK (ys:=aj.z64) iQ bF aA rfl rfl (by omega) (by decide))<|ag (iN rfl rfl)<|ar rfl<|ah) fun a w ab U=>wpList_nil (fa _ _ ?_)
   refine ax fun mc hh=>aB ab U (ai rfl<|ag (fC rfl)<|ah) fun a w ab U=>eP ab rfl (fun b7=>?_) (fun b7=>?_)
   ·refine du<|aE ab U (ai rfl<|ai rfl<|bX rfl rfl<|ag (bI rfl)<|ag (aV ff rfl rfl (s':=0) aA)<|ah) fun a w ab U=>aH ab U rfl (c7 bG 10 rfl rfl rfl rfl (by simp)) ?_
    rintro _ _ _ a w ⟨rfl,rfl,rfl⟩ ab U
    replace U:aC _ (_::_) (_::_::_::_::_::_::_::_::_::_::.blk _ _ ([_,_,_,_,_,_,_].set 5 _)::_) _:=U
    simp only [List.set_cons_zero,List.set_cons_succ] at U
    replace U:aC _ (_::_) (_::_::_::_::_::_::_::_::_::_::_::_) _:=U
    refine wpList_nil (hh _ _ ?_)
    refine ax fun oF iX=>a8 fun qd kB=>aE ab U (ag (aV dI rfl rfl (s':=0) aA)<|ag (bc fg 1 rfl rfl rfl rfl)<|ag (fC rfl)<|ai rfl<|ah) fun a w ab U=>jJ 3 59 2 ab U rfl rfl rfl rfl rfl (fun aO=>have aO:=aO;aN 59 rfl rfl rfl (bE rfl)<|aN 59 rfl rfl rfl (fC rfl)<|ah) rfl rfl fun a w ab U=>?_
    refine wpList_nil (kB _ _ ?_)
    refine cX ab rfl (fun dr=>?_) (fun dr=>?_)
    ·(try simp only [c2] at dr)
     refine du<|aE ab U (ai rfl<|ai rfl<|ag (bI rfl)<|ag (aV ff rfl rfl (s':=0) aA)<|ag (bc c5 10 rfl rfl rfl rfl)<|ai rfl<|ah) fun a w ab U=>aH ab U rfl (dX c5 bG rfl rfl bJ (by decide) rfl rfl) ?_
     rintro v21 _ _ a w ⟨rfl,rfl⟩ ab U
     replace U:=pX U
     refine aH ab U rfl (dB c5 bG 9 rfl rfl rfl (eA c5 (k:=0) rfl bJ) aI rfl (by decide)) ?_
     rintro v23 _ _ a w ⟨rfl,rfl⟩ ab U
     replace U:=pX U
     refine aE ab U (ag (bI rfl)<|ag (aV ff rfl rfl (s':=0) aA)<|ah) fun a w ab U=>aH ab U rfl (c7 c5 11 rfl rfl rfl (row_one (U.own _ (List.mem_of_getElem? (i:=9) rfl)).1) (by simp)) ?_
     rintro _ _ _ a w ⟨rfl,rfl,rfl⟩ ab U
     replace U:aC _ (_::_) (_::_::_::_::_::_::_::_::_::_::_::.blk _ _ ([_,_,_,_,_,_,_].set 2 _)::_) _:=U
     simp only [List.set_cons_zero,List.set_cons_succ] at U
     replace U:=pX U
     refine wpList_nil (iX _ _ ?_)
     refine h2 11 mixed aA ab U (ai rfl<|ai rfl<|ag (bI rfl)<|ag (aV ff rfl rfl (s':=0) aA)<|ag (bc bG 11 rfl rfl rfl rfl)<|ag (aV dI rfl rfl (s':=0) aA)<|ag (bc bG 2 rfl rfl rfl rfl)<|bX rfl rfl<|ag (sj rfl rfl)<|ag (bI rfl)<|ag (aV ff rfl rfl (s':=0) aA)<|ah) fun a w ab U=>aH ab U rfl (c7 bG 11 rfl rfl rfl rfl (by simp)) ?_
     rintro _ _ _ a w ⟨rfl,rfl,rfl⟩ ab U
     replace U:aC _ (_::_) (_::_::_::_::_::_::_::_::_::_::_::.blk _ _ ([_,_,_,_,_,_,_].set 4 _)::_) _:=U
     simp only [List.set_cons_zero,List.set_cons_succ] at U
     replace U:=pX U
     refine wpList_nil (cF _ _ ?_)
     refine bq ab U (bX rfl rfl<|ai rfl<|ah) fun a w ab U=>?_
     replace U:=U.ak (ae.n) (ae.n.n.n)
     refine ⟨(um,uo,uq,ur,v23,CZ,k+1),?_,?_,ab.sub ⟨rfl,rfl,rfl,rfl,rfl,trivial⟩,?_⟩
     ·(try dsimp only);omega
     ·exact ⟨by omega,vk⟩
     ·have ew:=aj.ot (S:=S) (k:=k) (by omega)
      (try dsimp only [List.set_cons_zero,List.set_cons_succ])
      rw [aj.s9 (by rw [ew];exact b7),aj.s3 (by rw [ew];exact dr),aj.ue,← aj.om (by omega),ew,List.length_append,List.map_append]
      exact U
    ·(try simp only [c2] at dr)
     refine wp_skip<|iX _ _<|h2 11 mixed aA ab U (ai rfl<|ai rfl<|ag (bI rfl)<|ag (aV ff rfl rfl (s':=0) aA)<|ag (bc bG 10 rfl rfl rfl rfl)<|ag (aV dI rfl rfl (s':=0) aA)<|ag (bc bG 1 rfl rfl rfl rfl)<|bX rfl rfl<|ag (sj rfl rfl)<|ag (bI rfl)<|ag (aV ff rfl rfl (s':=0) aA)<|ah) fun a w ab U=>aH ab U rfl (c7 bG 10 rfl rfl rfl rfl (by simp)) ?_
     rintro _ _ _ a w ⟨rfl,rfl,rfl⟩ ab U
     replace U:aC _ (_::_) (_::_::_::_::_::_::_::_::_::_::.blk _ _ ([_,_,_,_,_,_,_].set 4 _)::_) _:=U
     simp only [List.set_cons_zero,List.set_cons_succ] at U
     replace U:aC _ (_::_) (_::_::_::_::_::_::_::_::_::_::_::_) _:=U
     refine wpList_nil (cF _ _ ?_)
     refine bq ab U (bX rfl rfl<|ai rfl<|ah) fun a w ab U=>?_
     replace U:=U.ak (ae.n) (ae.n.n)
     refine ⟨(um,uo,uq,ur,ub,CZ,k+1),?_,?_,ab.sub ⟨rfl,rfl,rfl,rfl,rfl,trivial⟩,?_⟩
     ·(try dsimp only);omega
     ·exact ⟨by omega,vk⟩
     ·have ew:=aj.ot (S:=S) (k:=k) (by omega)
      (try dsimp only [List.set_cons_zero,List.set_cons_succ])
      rw [aj.s9 (by rw [ew];exact b7),aj.qs (by rw [ew];intro cn;rcases dr with cC | cC;(rw [cC] at cn;exact absurd cn.1 (by simp));exact cn.2 cC),aj.ue,← aj.om (by omega),ew]
      exact U
   ·refine wp_skip<|hh _ _<|ax fun pr jF=>a8 fun sK lS=>aE ab U (ag (aV dI rfl rfl (s':=0) aA)<|ag (bc fg 1 rfl rfl rfl rfl)<|ag (fC rfl)<|ai rfl<|ah) fun a w ab U=>?_
    refine jJ 3 59 2 ab U rfl rfl rfl rfl rfl (fun aO=>have aO:=aO;aN 59 rfl rfl rfl (bE rfl)<|aN 59 rfl rfl rfl (fC rfl)<|ah) rfl rfl fun a w ab U=>?_
    refine wpList_nil (lS _ _ ?_)
    refine cX ab rfl (fun dm=>?_) (fun dm=>?_)
    ·(try simp only [c2] at dm)
     refine du<|aE ab U (ai rfl<|ai rfl<|ag (bI rfl)<|ag (aV ff rfl rfl (s':=0) aA)<|ag (bc c5 10 rfl rfl rfl rfl)<|ai rfl<|ah) fun a w ab U=>aH ab U rfl (dX c5 bG rfl rfl bJ (by decide) rfl rfl) ?_
     rintro v24 _ _ a w ⟨rfl,rfl⟩ ab U
     replace U:=pX U
     refine aH ab U rfl (dB c5 bG 9 rfl rfl rfl (eA c5 (k:=0) rfl bJ) aI rfl (by decide)) ?_
     rintro v26 _ _ a w ⟨rfl,rfl⟩ ab U
     replace U:=pX U
     refine aE ab U (ag (bI rfl)<|ag (aV ff rfl rfl (s':=0) aA)<|ah) fun a w ab U=>aH ab U rfl (c7 c5 11 rfl rfl rfl (row_one (U.own _ (List.mem_of_getElem? (i:=9) rfl)).1) (by simp)) ?_
     rintro _ _ _ a w ⟨rfl,rfl,rfl⟩ ab U
     replace U:aC _ (_::_) (_::_::_::_::_::_::_::_::_::_::_::.blk _ _ ([_,_,_,_,_,_,_].set 2 _)::_) _:=U
     simp only [List.set_cons_zero,List.set_cons_succ] at U
     replace U:=pX U
     refine wpList_nil (jF _ _ ?_)
     refine h2 11 mixed aA ab U (ai rfl<|ai rfl<|ag (bI rfl)<|ag (aV ff rfl rfl (s':=0) aA)<|ag (bc bG 11 rfl rfl rfl rfl)<|ag (aV dI rfl rfl (s':=0) aA)<|ag (bc bG 2 rfl rfl rfl rfl)<|bX rfl rfl<|ag (sj rfl rfl)<|ag (bI rfl)<|ag (aV ff rfl rfl (s':=0) aA)<|ah) fun a w ab U=>aH ab U rfl (c7 bG 11 rfl rfl rfl rfl (by simp)) ?_
     rintro _ _ _ a w ⟨rfl,rfl,rfl⟩ ab U
     replace U:aC _ (_::_) (_::_::_::_::_::_::_::_::_::_::_::.blk _ _ ([_,_,_,_,_,_,_].set 4 _)::_) _:=U
     simp only [List.set_cons_zero,List.set_cons_succ] at U
     replace U:=pX U
     refine wpList_nil (cF _ _ ?_)
     refine bq ab U (bX rfl rfl<|ai rfl<|ah) fun a w ab U=>?_
     replace U:=U.ak (ae.n) (ae.n.n.n)
     refine ⟨(um,uo,uq,ur,v26,CZ,k+1),?_,?_,ab.sub ⟨rfl,rfl,rfl,rfl,rfl,trivial⟩,?_⟩
     ·(try dsimp only);omega
     ·exact ⟨by omega,vk⟩
     ·have ew:=aj.ot (S:=S) (k:=k) (by omega)
      (try dsimp only [List.set_cons_zero,List.set_cons_succ])
      rw [aj.ta (by rw [ew];exact b7),aj.s3 (by rw [ew];exact dm),aj.ue,← aj.om (by omega),ew,List.length_append,List.map_append]
      exact U
    ·(try simp only [c2] at dm)
     refine wp_skip<|jF _ _<|h2 11 mixed aA ab U (ai rfl<|ai rfl<|ag (bI rfl)<|ag (aV ff rfl rfl (s':=0) aA)<|ag (bc bG 10 rfl rfl rfl rfl)<|ag (aV dI rfl rfl (s':=0) aA)<|ag (bc bG 1 rfl rfl rfl rfl)<|bX rfl rfl<|ag (sj rfl rfl)<|ag (bI rfl)<|ag (aV ff rfl rfl (s':=0) aA)<|ah) fun a w ab U=>aH ab U rfl (c7 bG 10 rfl rfl rfl rfl (by simp)) ?_
     rintro _ _ _ a w ⟨rfl,rfl,rfl⟩ ab U
     replace U:aC _ (_::_) (_::_::_::_::_::_::_::_::_::_::.blk _ _ ([_,_,_,_,_,_,_].set 4 _)::_) _:=U
     simp only [List.set_cons_zero,List.set_cons_succ] at U
     replace U:aC _ (_::_) (_::_::_::_::_::_::_::_::_::_::_::_) _:=U
     refine wpList_nil (cF _ _ ?_)
     refine bq ab U (bX rfl rfl<|ai rfl<|ah) fun a w ab U=>?_
     replace U:=U.ak (ae.n) (ae.n.n)
     refine ⟨(um,uo,uq,ur,ub,CZ,k+1),?_,?_,ab.sub ⟨rfl,rfl,rfl,rfl,rfl,trivial⟩,?_⟩
     ·(try dsimp only);omega
     ·exact ⟨by omega,vk⟩
     ·have ew:=aj.ot (S:=S) (k:=k) (by omega)
      (try dsimp only [List.set_cons_zero,List.set_cons_succ])
      rw [aj.ta (by rw [ew];exact b7),aj.qs (by rw [ew];intro cn;rcases dm with cC | cC;(rw [cC] at cn;exact absurd cn.1 (by simp));exact cn.2 cC),aj.ue,← aj.om (by omega),ew]
      exact U
 ·obtain rfl:k=S.s.length:=by omega
  refine wp_exit<|cq _ _<|ax fun sL mo=>ax fun Ds tp=>bq ab U (ar rfl<|ah) fun a w ab U=>?_
  replace U:=U.perm kq
  obtain ⟨zp,hK,U⟩:=aC.ER (hl:=aj.G5) (h1:=aj.G6) (p:=aj.oJ) (xs:=(aj.ep (aj.c4 S) S.s.length)) U (by rw [aj.yN (by omega)]) (by omega) aj.vW
  have Zg:(aj.ep (aj.c4 S) S.s.length).length=S.s.length:=aj.yN (by omega)
  replace U:=pY U
  refine tp _ _<|wp_block ?_
  obtain ⟨bC,aZ,U⟩:=U.cT
  refine df (γ:=Value×Value×aj.Acc×Nat) ((Value.slice none 0 0),(Value.slice none 0 0),([],[]),0) (fun (un,ut,acc,m)=>[(11,az (m:Int))]) [(4,_),(5,_)] (fun (un,ut,acc,m)=>(((bC.set 7 (.blk b6 172 [.pointer (some ⟨h.b,0,none⟩),un,ub,ut,az (aj.gi (aj.c4 S) S.s.length),az (aj.gD (aj.c4 S) S.s.length),.bool false])).set 4 (.row un 3 1 acc.1.length (acc.1.map az))).set 6 (.row ut 9 1 acc.2.length (acc.2.map vs)))) (fun (un,ut,acc,m)=>m≤S.s.length∧(aj.l8 m acc∧(acc.1.length:Int)≤aj.gD (aj.c4 S) S.s.length)∧aj.scan ((aj.ep (aj.c4 S) S.s.length).drop m) acc=aj.scan (aj.ep (aj.c4 S) S.s.length) ([],[])) (fun (un,ut,acc,m)=>S.s.length-m) (ab.sub ⟨rfl,rfl,rfl,trivial⟩) (by subst aZ;exact U) (by exact ⟨Nat.zero_le _,⟨aj.l8.start,(aj.AG _ _).1⟩,rfl⟩) ?_
  rintro ⟨un,ut,acc,m⟩ a w ba ab U
  subst aZ;(try dsimp only at ba ab U)
  obtain ⟨yb,⟨nA,rJ⟩,qJ⟩:=ba
  replace U:=pY U
  obtain ⟨m3,vo,rK,jR⟩:=nA
  have nA:aj.l8 m acc:=⟨m3,vo,rK,jR⟩
  have XW:∀ x∈acc.1, -9223372036854775808≤x∧x≤9223372036854775807:=fun x aL=>by have:=rK x aL;omega
  refine ax fun R9 Fh=>aB ab U (ai rfl<|ai rfl<|ag (dL oy hK rfl)<|ag (cK rfl rfl)<|ah) fun a w ab U=>b9 ab rfl (fun iZ=>?_) (fun iZ=>?_)
  ·have Yi:(aj.ep (aj.c4 S) S.s.length).drop m≠[]:=by intro e;have:=congrArg List.length e;simp at this;omega
   refine wp_skip<|Fh _ _<|wp_block ?_
   refine ax fun Du tt=>bq ab U (ai rfl<|ai rfl<|ag (yY oy dI hK rfl rfl (by omega))<|ag (bQ Wi rfl (fun w U=>aev _ _ (by intro e;have:=congrArg List.length e;simp at this;omega) w (bg.mono (U.le (.inr (by simp))) (bg.cut hK (by omega)))) (fun _ _ _ h=>h))<|ai rfl<|ag (cE rfl rfl)<|ag (cE rfl rfl)<|ag (cE rfl rfl)<|ar rfl<|ar rfl<|ar rfl<|ah) fun a w ab U=>?_
   rw [List.take_length,Int.toNat_natCast] at ab
   refine tt _ _<|ax fun IP xQ=>aB ab U (ai rfl<|ag (fC rfl)<|ah) fun a w ab U=>cX ab rfl (fun jS=>?_) (fun jS=>?_)
   ·refine ax fun Sa Fi=>bq ab U (ai rfl<|bX rfl rfl<|ar rfl<|ah) fun a w ab U=>Fi _ _ ?_
    refine wp_exit<|⟨(un,ut,acc,m+1),?_,?_,ab.sub ⟨(by first | rfl | (show some (az _)=some (az _);rw [tU];congr 2 <;> omega)),rfl,rfl,trivial⟩,?_⟩
    ·(try dsimp only);omega
    ·exact ⟨by omega,⟨nA.up (by omega),rJ⟩,by rw [← qJ,aj.HQ (l:=(aj.ep (aj.c4 S) S.s.length).drop m) Yi (aj.aep (by simpa using jS)),List.drop_drop]⟩
    ·exact U
   ·obtain ⟨nn,qI,tU⟩:=aj.aeq (l:=(aj.ep (aj.c4 S) S.s.length).drop m) (by simpa using jS)
    have F7:=aj.Cw qI
    rw [List.length_drop] at F7
    obtain ⟨lU,F8⟩:=aj.PF qI (fun x aL=>aj.vW x (List.mem_of_mem_drop aL))
    rw [aj.nZ,aj.Cd (by omega) (by omega)] at lU
    have tO:1≤((aj.ep (aj.c4 S) S.s.length).getD m aj.cu).n∧((aj.ep (aj.c4 S) S.s.length).getD m aj.cu).n≤4096:=by rw [aj.Cd (by omega) (by omega)];exact ⟨aj.Ij lU,(aj.wE _).1.2⟩
    have Yu:=aj.Ek (aj.Ap lU) S.s.length (by omega)
    have pK:((aj.ep (aj.c4 S) S.s.length).drop m).getD 0 aj.cu=(aj.ep (aj.c4 S) S.s.length).getD m aj.cu:=aj.nZ _ _
    refine wp_skip<|xQ _ _<|ax fun IS vm=>hZ mixed aA ab U (ai rfl<|ag (bI rfl)<|ag (aV ff rfl rfl (s':=0) aA)<|ag (bc c5 7 rfl rfl rfl rfl)<|ai rfl<|ai rfl<|ag (dG oy dI hK rfl rfl (by omega))<|ag (Cg (j:=0) (s':=0) dI hK rfl (by first | omega | (simp;omega)) rfl aA)<|ag (uj (j:=0) aj.cu bG hK (.inr (by simp)) rfl rfl (by first | omega | (simp;omega)) rfl)<|ag (bQ Wj rfl (fun w U=>TX _ _ _ w (k2 (U.own _ (List.mem_of_getElem? (i:=4) rfl)).1 (by first | assumption | (simp;done)) (by first | rfl | (simp;done) | (simp;omega) | omega) (by first | omega | (simp;omega)))) (fun _ _ _ h=>h))<|ag (fC rfl)<|ah) fun a w ab U=>eP ab rfl (fun h7=>?_) (fun h7=>?_)
    ·revert U;revert ab;apply ho (J:=uJ (α0:=Value) (α1:=Value) (α2:=Value) (α3:=Value) 140 _ _ _ _ _) #[false,false,false,false,false,false,false,false,false,false,false,false,false,false,false,false,false,false,false,false,false,false,false,false,false,false] 26 mixed rfl rfl
     ·intro w ab U
      refine aR 0 rfl ab (U.ak ae (ae.n.n.n.n.n.n.n.n)) (bE rfl) fun a ab=>aR 1 rfl ab (U.ak ae (ae.n.n.n.n.n.n.n.n)) (bE rfl) fun a ab=>aR 2 rfl ab (U.ak ae (ae.n.n.n.n.n.n.n.n)) (bE rfl) fun a ab=>aR 3 rfl ab (U.ak ae (ae.n.n.n.n.n.n.n.n)) (bI rfl) fun a ab=>aR 4 rfl ab (U.ak ae (ae.n.n.n.n.n.n.n.n)) (aV ff rfl rfl (s':=0) aA) fun a ab=>?_
      refine aR 5 rfl ab (U.ak ae (ae.n.n.n.n.n.n.n)) (bc c5 0 rfl rfl rfl rfl) fun a ab=>aR 6 rfl ab (U.ak ae (ae.n.n.n.n.n.n.n.n)) (bE rfl) fun a ab=>aR 7 rfl ab (U.ak ae (ae.n.n.n.n.n.n.n.n)) (bE rfl) fun a ab=>aR 8 rfl ab (U.ak ae (ae.n.n.n.n.n.n.n.n)) (dG oy dI hK rfl rfl (by omega)) fun a ab=>aR 9 rfl ab (U.ak ae (ae.n.n.n.n.n.n.n.n)) (Cg (j:=0) (s':=0) dI hK rfl (by first | omega | (simp;omega)) rfl aA) fun a ab=>?_
      refine aR 10 rfl ab (U.ak ae (ae.n.n.n.n.n.n.n.n)) (uj (j:=0) aj.cu bG hK (.inr (by simp)) rfl rfl (by first | omega | (simp;omega)) rfl) fun a ab=>aR 13 rfl ab (U.ak ae (ae.n.n.n.n.n.n.n.n)) (bE rfl) fun a ab=>aR 14 rfl ab (U.ak ae (ae.n.n.n.n.n.n.n.n)) (bI rfl) fun a ab=>aR 15 rfl ab (U.ak ae (ae.n.n.n.n.n.n.n.n)) (aV ff rfl rfl (s':=0) aA) fun a ab=>aR 16 rfl ab (U.ak ae (ae.n.n.n.n.n.n.n)) (bc cl 0 rfl rfl rfl rfl) fun a ab=>?_
      refine aR 17 rfl ab (U.ak ae (ae.n.n.n.n.n.n.n.n)) (bE rfl) fun a ab=>fy [11,18] aA rfl ⟨?_,?_,trivial⟩
      ·refine dQ _ rfl rfl ab U rfl (dX c5 bG rfl rfl bJ (by decide) rfl rfl) ?_
       rintro zK _ _ a w ⟨rfl,rfl⟩ ab U
       replace U:=qS U
       refine ⟨⟨.inr (U.ak ae (ae.n.n.n.n.n.n.n.n.n)),.inr (U.ak ae (ae.n.n.n.n.n.n.n.n)),.inr (U.ak ae (ae.n.n.n.n.n.n.n.n.n)),.inr (U.ak ae (ae.n.n.n.n.n.n.n.n.n)),.inr (U.ak ae (ae.n.n.n.n.n.n.n.n.n)),al,al,.inr (U.ak ae (ae.n.n.n.n.n.n.n.n.n)),.inr (U.ak ae (ae.n.n.n.n.n.n.n.n.n)),.inr (U.ak ae (ae.n.n.n.n.n.n.n.n.n)),.inr (U.ak ae (ae.n.n.n.n.n.n.n.n)),.inr (U.ak ae (ae.n.n.n.n.n.n.n.n.n)),.inr (U.ak ae (ae.n.n.n.n.n.n.n.n.n)),.inr (U.ak ae (ae.n.n.n.n.n.n.n.n.n)),.inr (U.ak ae (ae.n.n.n.n.n.n.n.n.n)),.inr (U.ak ae (ae.n.n.n.n.n.n.n.n.n)),trivial⟩,?_⟩
       refine fy [12,18] aA rfl ⟨?_,?_,trivial⟩
       ·refine dQ _ rfl rfl ab U rfl (dB c5 bG 5 rfl rfl rfl (eA c5 (k:=0) rfl bJ) aI rfl (by decide)) ?_
        rintro uF _ _ a w ⟨rfl,rfl⟩ ab U
        replace U:=qS U
        refine ⟨⟨.inr (U.ak ae (ae.n.n.n.n.n.n.n.n.n)),.inr (U.ak ae (ae.n.n.n.n.n.n.n.n)),.inr (U.ak ae (ae.n.n.n.n.n.n.n.n.n)),.inr (U.ak ae (ae.n.n.n.n.n.n.n.n.n)),.inr (U.ak ae (ae.n.n.n.n.n.n.n.n.n)),al,al,.inr (U.ak ae (ae.n.n.n.n.n.n.n.n.n)),.inr (U.ak ae (ae.n.n.n.n.n.n.n.n.n)),.inr (U.ak ae (ae.n.n.n.n.n.n.n.n.n)),al,al,.inr (U.ak ae (ae.n.n.n.n.n.n.n.n.n)),.inr (U.ak ae (ae.n.n.n.n.n.n.n.n.n)),.inr (U.ak ae (ae.n.n.n.n.n.n.n.n.n)),.inr (U.ak ae (ae.n.n.n.n.n.n.n.n.n)),trivial⟩,?_⟩
        refine bW 18 rfl rfl ab U rfl (dX cl bz rfl rfl bJ (by decide) rfl rfl) ?_
        rintro wM _ _ a w ⟨rfl,rfl⟩ ab U
        replace U:=ib U
        refine ⟨⟨al,.inr (U.ak ae (ae.n.n.n.n.n.n.n.n.n)),.inr (U.ak ae (ae.n.n.n.n.n.n.n.n.n.n)),.inr (U.ak ae (ae.n.n.n.n.n.n.n.n.n.n)),.inr (U.ak ae (ae.n.n.n.n.n.n.n.n.n.n)),al,al,.inr (U.ak ae (ae.n.n.n.n.n.n.n.n.n.n)),.inr (U.ak ae (ae.n.n.n.n.n.n.n.n.n.n)),.inr (U.ak ae (ae.n.n.n.n.n.n.n.n.n.n)),al,al,.inr (U.ak ae (ae.n.n.n.n.n.n.n.n.n.n)),.inr (U.ak ae (ae.n.n.n.n.n.n.n.n.n.n)),.inr (U.ak ae (ae.n.n.n.n.n.n.n.n.n.n)),.inr (U.ak ae (ae.n.n.n.n.n.n.n.n.n.n)),trivial⟩,?_⟩
        refine bW 19 rfl rfl ab U rfl (dB cl bz 8 rfl rfl rfl (eA cl (k:=0) rfl bJ) aI rfl (by decide)) ?_
        rintro uG _ _ a w ⟨rfl,rfl⟩ ab U
        replace U:=ib U
        refine ⟨⟨al,al,al,.inr (U.ak ae (ae.n.n.n.n.n.n.n.n.n.n)),.inr (U.ak ae (ae.n.n.n.n.n.n.n.n.n.n)),al,al,.inr (U.ak ae (ae.n.n.n.n.n.n.n.n.n.n)),.inr (U.ak ae (ae.n.n.n.n.n.n.n.n.n.n)),.inr (U.ak ae (ae.n.n.n.n.n.n.n.n.n.n)),al,al,.inr (U.ak ae (ae.n.n.n.n.n.n.n.n.n.n)),.inr (U.ak ae (ae.n.n.n.n.n.n.n.n.n.n)),.inr (U.ak ae (ae.n.n.n.n.n.n.n.n.n.n)),.inr (U.ak ae (ae.n.n.n.n.n.n.n.n.n.n)),trivial⟩,?_⟩
        refine aR 20 rfl ab (U.ak ae (ae.n.n.n.n.n.n.n.n.n.n)) (bI rfl) fun a ab=>aR 21 rfl ab (U.ak ae (ae.n.n.n.n.n.n.n.n.n.n)) (aV ff rfl rfl (s':=0) aA) fun a ab=>bW 22 rfl rfl ab U rfl (c7 c5 9 rfl rfl rfl (row_one (U.own _ (List.mem_of_getElem? (i:=6) rfl)).1) (by simp)) ?_
        rintro _ _ _ a w ⟨rfl,rfl,rfl⟩ ab U
        replace U:aC _ (_::_) (_::_::_::_::_::_::_::_::_::.blk _ _ ([_,_,_,_,_,_,_].set 1 _)::_) _:=U
        simp only [List.set_cons_zero,List.set_cons_succ] at U
        replace U:=ib U
        refine ⟨⟨al,al,al,al,al,.inr (U.ak ae (ae.n.n.n.n.n.n.n.n.n.n)),.inr (U.ak ae (ae.n.n.n.n.n.n.n.n.n.n)),al,al,al,al,al,al,al,al,al,.inr (U.ak ae (ae.n.n.n.n.n.n.n.n.n.n)),al,trivial⟩,?_⟩
        refine aR 23 rfl ab (U.ak ae (ae.n.n.n.n.n.n.n.n.n.n)) (bI rfl) fun a ab=>aR 24 rfl ab (U.ak ae (ae.n.n.n.n.n.n.n.n.n.n)) (aV ff rfl rfl (s':=0) aA) fun a ab=>bW 25 rfl rfl ab U rfl (c7 cl 9 rfl rfl rfl (row_one (U.own _ (List.mem_of_getElem? (i:=8) rfl)).1) (by simp)) ?_
        rintro _ _ _ a w ⟨rfl,rfl,rfl⟩ ab U
        replace U:aC _ (_::_) (_::_::_::_::_::_::_::_::_::.blk _ _ ([_,_,_,_,_,_,_].set 3 _)::_) _:=U
        simp only [List.set_cons_zero,List.set_cons_succ] at U
        replace U:=ib U
        refine ⟨⟨al,al,al,al,al,al,al,al,al,al,al,al,al,al,al,al,al,al,al,al,trivial⟩,?_⟩
        exact ei aA (qN zK uF wM uG (trivial) (ab.sub (L':=[(4,_),(5,_),(11,_),(13,_)]) ⟨rfl,rfl,rfl,rfl,trivial⟩) U)
       ·refine dQ _ rfl rfl ab U rfl (dX cl bz rfl rfl bJ (by decide) rfl rfl) ?_
        rintro wM _ _ a w ⟨rfl,rfl⟩ ab U
        replace U:=ib U
        refine ⟨⟨al,.inr (U.ak ae (ae.n.n.n.n.n.n.n.n.n)),.inr (U.ak ae (ae.n.n.n.n.n.n.n.n.n.n)),.inr (U.ak ae (ae.n.n.n.n.n.n.n.n.n.n)),.inr (U.ak ae (ae.n.n.n.n.n.n.n.n.n.n)),al,al,.inr (U.ak ae (ae.n.n.n.n.n.n.n.n.n.n)),.inr (U.ak ae (ae.n.n.n.n.n.n.n.n.n.n)),.inr (U.ak ae (ae.n.n.n.n.n.n.n.n.n.n)),.inr (U.ak ae (ae.n.n.n.n.n.n.n.n.n)),.inr (U.ak ae (ae.n.n.n.n.n.n.n.n.n.n)),.inr (U.ak ae (ae.n.n.n.n.n.n.n.n.n.n)),.inr (U.ak ae (ae.n.n.n.n.n.n.n.n.n.n)),.inr (U.ak ae (ae.n.n.n.n.n.n.n.n.n.n)),.inr (U.ak ae (ae.n.n.n.n.n.n.n.n.n.n)),trivial⟩,?_⟩
        refine bW 12 rfl rfl ab U rfl (dB c5 bG 6 rfl rfl rfl (eA c5 (k:=1) rfl bJ) aI rfl (by decide)) ?_
        rintro uF _ _ a w ⟨rfl,rfl⟩ ab U
        replace U:=ib U
        refine ⟨⟨al,.inr (U.ak ae (ae.n.n.n.n.n.n.n.n.n)),.inr (U.ak ae (ae.n.n.n.n.n.n.n.n.n.n)),.inr (U.ak ae (ae.n.n.n.n.n.n.n.n.n.n)),.inr (U.ak ae (ae.n.n.n.n.n.n.n.n.n.n)),al,al,.inr (U.ak ae (ae.n.n.n.n.n.n.n.n.n.n)),.inr (U.ak ae (ae.n.n.n.n.n.n.n.n.n.n)),.inr (U.ak ae (ae.n.n.n.n.n.n.n.n.n.n)),al,al,.inr (U.ak ae (ae.n.n.n.n.n.n.n.n.n.n)),.inr (U.ak ae (ae.n.n.n.n.n.n.n.n.n.n)),.inr (U.ak ae (ae.n.n.n.n.n.n.n.n.n.n)),.inr (U.ak ae (ae.n.n.n.n.n.n.n.n.n.n)),trivial⟩,?_⟩
        refine bW 19 rfl rfl ab U rfl (dB cl bz 8 rfl rfl rfl (eA cl (k:=0) rfl bJ) aI rfl (by decide)) ?_
        rintro uG _ _ a w ⟨rfl,rfl⟩ ab U
        replace U:=ib U
        refine ⟨⟨al,al,al,.inr (U.ak ae (ae.n.n.n.n.n.n.n.n.n.n)),.inr (U.ak ae (ae.n.n.n.n.n.n.n.n.n.n)),al,al,.inr (U.ak ae (ae.n.n.n.n.n.n.n.n.n.n)),.inr (U.ak ae (ae.n.n.n.n.n.n.n.n.n.n)),.inr (U.ak ae (ae.n.n.n.n.n.n.n.n.n.n)),al,al,.inr (U.ak ae (ae.n.n.n.n.n.n.n.n.n.n)),.inr (U.ak ae (ae.n.n.n.n.n.n.n.n.n.n)),.inr (U.ak ae (ae.n.n.n.n.n.n.n.n.n.n)),.inr (U.ak ae (ae.n.n.n.n.n.n.n.n.n.n)),trivial⟩,?_⟩
        refine aR 20 rfl ab (U.ak ae (ae.n.n.n.n.n.n.n.n.n.n)) (bI rfl) fun a ab=>aR 21 rfl ab (U.ak ae (ae.n.n.n.n.n.n.n.n.n.n)) (aV ff rfl rfl (s':=0) aA) fun a ab=>bW 22 rfl rfl ab U rfl (c7 c5 9 rfl rfl rfl (row_one (U.own _ (List.mem_of_getElem? (i:=6) rfl)).1) (by simp)) ?_
        rintro _ _ _ a w ⟨rfl,rfl,rfl⟩ ab U
        replace U:aC _ (_::_) (_::_::_::_::_::_::_::_::_::.blk _ _ ([_,_,_,_,_,_,_].set 1 _)::_) _:=U
        simp only [List.set_cons_zero,List.set_cons_succ] at U
        replace U:=ib U
        refine ⟨⟨al,al,al,al,al,.inr (U.ak ae (ae.n.n.n.n.n.n.n.n.n.n)),.inr (U.ak ae (ae.n.n.n.n.n.n.n.n.n.n)),al,al,al,al,al,al,al,al,al,.inr (U.ak ae (ae.n.n.n.n.n.n.n.n.n.n)),al,trivial⟩,?_⟩
        refine aR 23 rfl ab (U.ak ae (ae.n.n.n.n.n.n.n.n.n.n)) (bI rfl) fun a ab=>aR 24 rfl ab (U.ak ae (ae.n.n.n.n.n.n.n.n.n.n)) (aV ff rfl rfl (s':=0) aA) fun a ab=>bW 25 rfl rfl ab U rfl (c7 cl 9 rfl rfl rfl (row_one (U.own _ (List.mem_of_getElem? (i:=8) rfl)).1) (by simp)) ?_
        rintro _ _ _ a w ⟨rfl,rfl,rfl⟩ ab U
        replace U:aC _ (_::_) (_::_::_::_::_::_::_::_::_::.blk _ _ ([_,_,_,_,_,_,_].set 3 _)::_) _:=U
        simp only [List.set_cons_zero,List.set_cons_succ] at U
        replace U:=ib U
        refine ⟨⟨al,al,al,al,al,al,al,al,al,al,al,al,al,al,al,al,al,al,al,al,trivial⟩,?_⟩
        exact ei aA (qN zK uF wM uG (trivial) (ab.sub (L':=[(4,_),(5,_),(11,_),(13,_)]) ⟨rfl,rfl,rfl,rfl,trivial⟩) U)
      ·refine dQ _ rfl rfl ab U rfl (dX cl bz rfl rfl bJ (by decide) rfl rfl) ?_
       rintro wM _ _ a w ⟨rfl,rfl⟩ ab U
       replace U:=qS U
       refine ⟨⟨al,.inr (U.ak ae (ae.n.n.n.n.n.n.n.n)),.inr (U.ak ae (ae.n.n.n.n.n.n.n.n.n)),.inr (U.ak ae (ae.n.n.n.n.n.n.n.n.n)),.inr (U.ak ae (ae.n.n.n.n.n.n.n.n.n)),.inr (U.ak ae (ae.n.n.n.n.n.n.n.n.n)),.inr (U.ak ae (ae.n.n.n.n.n.n.n.n.n)),.inr (U.ak ae (ae.n.n.n.n.n.n.n.n.n)),.inr (U.ak ae (ae.n.n.n.n.n.n.n.n.n)),.inr (U.ak ae (ae.n.n.n.n.n.n.n.n.n)),.inr (U.ak ae (ae.n.n.n.n.n.n.n.n)),.inr (U.ak ae (ae.n.n.n.n.n.n.n.n.n)),.inr (U.ak ae (ae.n.n.n.n.n.n.n.n.n)),.inr (U.ak ae (ae.n.n.n.n.n.n.n.n.n)),.inr (U.ak ae (ae.n.n.n.n.n.n.n.n.n)),.inr (U.ak ae (ae.n.n.n.n.n.n.n.n.n)),trivial⟩,?_⟩
       refine bW 11 rfl rfl ab U rfl (dX c5 bG rfl rfl bJ (by decide) rfl rfl) ?_
       rintro zK _ _ a w ⟨rfl,rfl⟩ ab U
       replace U:=ib U
       refine ⟨⟨al,.inr (U.ak ae (ae.n.n.n.n.n.n.n.n.n)),.inr (U.ak ae (ae.n.n.n.n.n.n.n.n.n.n)),.inr (U.ak ae (ae.n.n.n.n.n.n.n.n.n.n)),.inr (U.ak ae (ae.n.n.n.n.n.n.n.n.n.n)),al,al,.inr (U.ak ae (ae.n.n.n.n.n.n.n.n.n.n)),.inr (U.ak ae (ae.n.n.n.n.n.n.n.n.n.n)),.inr (U.ak ae (ae.n.n.n.n.n.n.n.n.n.n)),.inr (U.ak ae (ae.n.n.n.n.n.n.n.n.n)),.inr (U.ak ae (ae.n.n.n.n.n.n.n.n.n.n)),.inr (U.ak ae (ae.n.n.n.n.n.n.n.n.n.n)),.inr (U.ak ae (ae.n.n.n.n.n.n.n.n.n.n)),.inr (U.ak ae (ae.n.n.n.n.n.n.n.n.n.n)),.inr (U.ak ae (ae.n.n.n.n.n.n.n.n.n.n)),trivial⟩,?_⟩
       refine bW 12 rfl rfl ab U rfl (dB c5 bG 6 rfl rfl rfl (eA c5 (k:=0) rfl bJ) aI rfl (by decide)) ?_
       rintro uF _ _ a w ⟨rfl,rfl⟩ ab U
       replace U:=ib U
       refine ⟨⟨al,.inr (U.ak ae (ae.n.n.n.n.n.n.n.n.n)),.inr (U.ak ae (ae.n.n.n.n.n.n.n.n.n.n)),.inr (U.ak ae (ae.n.n.n.n.n.n.n.n.n.n)),.inr (U.ak ae (ae.n.n.n.n.n.n.n.n.n.n)),al,al,.inr (U.ak ae (ae.n.n.n.n.n.n.n.n.n.n)),.inr (U.ak ae (ae.n.n.n.n.n.n.n.n.n.n)),.inr (U.ak ae (ae.n.n.n.n.n.n.n.n.n.n)),al,al,.inr (U.ak ae (ae.n.n.n.n.n.n.n.n.n.n)),.inr (U.ak ae (ae.n.n.n.n.n.n.n.n.n.n)),.inr (U.ak ae (ae.n.n.n.n.n.n.n.n.n.n)),.inr (U.ak ae (ae.n.n.n.n.n.n.n.n.n.n)),trivial⟩,?_⟩
       refine bW 19 rfl rfl ab U rfl (dB cl bz 8 rfl rfl rfl (eA cl (k:=1) rfl bJ) aI rfl (by decide)) ?_
       rintro uG _ _ a w ⟨rfl,rfl⟩ ab U
       replace U:=ib U
       refine ⟨⟨al,al,al,.inr (U.ak ae (ae.n.n.n.n.n.n.n.n.n.n)),.inr (U.ak ae (ae.n.n.n.n.n.n.n.n.n.n)),al,al,.inr (U.ak ae (ae.n.n.n.n.n.n.n.n.n.n)),.inr (U.ak ae (ae.n.n.n.n.n.n.n.n.n.n)),.inr (U.ak ae (ae.n.n.n.n.n.n.n.n.n.n)),al,al,.inr (U.ak ae (ae.n.n.n.n.n.n.n.n.n.n)),.inr (U.ak ae (ae.n.n.n.n.n.n.n.n.n.n)),.inr (U.ak ae (ae.n.n.n.n.n.n.n.n.n.n)),.inr (U.ak ae (ae.n.n.n.n.n.n.n.n.n.n)),trivial⟩,?_⟩
       refine aR 20 rfl ab (U.ak ae (ae.n.n.n.n.n.n.n.n.n.n)) (bI rfl) fun a ab=>aR 21 rfl ab (U.ak ae (ae.n.n.n.n.n.n.n.n.n.n)) (aV ff rfl rfl (s':=0) aA) fun a ab=>bW 22 rfl rfl ab U rfl (c7 c5 9 rfl rfl rfl (row_one (U.own _ (List.mem_of_getElem? (i:=6) rfl)).1) (by simp)) ?_
       rintro _ _ _ a w ⟨rfl,rfl,rfl⟩ ab U
       replace U:aC _ (_::_) (_::_::_::_::_::_::_::_::_::.blk _ _ ([_,_,_,_,_,_,_].set 1 _)::_) _:=U
       simp only [List.set_cons_zero,List.set_cons_succ] at U
       replace U:=ib U
       refine ⟨⟨al,al,al,al,al,.inr (U.ak ae (ae.n.n.n.n.n.n.n.n.n.n)),.inr (U.ak ae (ae.n.n.n.n.n.n.n.n.n.n)),al,al,al,al,al,al,al,al,al,.inr (U.ak ae (ae.n.n.n.n.n.n.n.n.n.n)),al,trivial⟩,?_⟩
       refine aR 23 rfl ab (U.ak ae (ae.n.n.n.n.n.n.n.n.n.n)) (bI rfl) fun a ab=>aR 24 rfl ab (U.ak ae (ae.n.n.n.n.n.n.n.n.n.n)) (aV ff rfl rfl (s':=0) aA) fun a ab=>bW 25 rfl rfl ab U rfl (c7 cl 9 rfl rfl rfl (row_one (U.own _ (List.mem_of_getElem? (i:=8) rfl)).1) (by simp)) ?_
       rintro _ _ _ a w ⟨rfl,rfl,rfl⟩ ab U
       replace U:aC _ (_::_) (_::_::_::_::_::_::_::_::_::.blk _ _ ([_,_,_,_,_,_,_].set 3 _)::_) _:=U
       simp only [List.set_cons_zero,List.set_cons_succ] at U
       replace U:=ib U
       refine ⟨⟨al,al,al,al,al,al,al,al,al,al,al,al,al,al,al,al,al,al,al,al,trivial⟩,?_⟩
       exact ei aA (qN zK uF wM uG (trivial) (ab.sub (L':=[(4,_),(5,_),(11,_),(13,_)]) ⟨rfl,rfl,rfl,rfl,trivial⟩) (U.perm (.swap _ _ _)))
     rintro a w ⟨zK,uF,wM,uG, -,ab,U⟩
     (try dsimp only at ab U)
     refine vm _ _<|bq ab U (ai rfl<|ai rfl<|bX rfl rfl<|ar rfl<|ah) fun a w ab U=>?_
     replace U:=U.ak ae (ae.n.n)
     refine ⟨(uF,uG,(acc.1++[((aj.ep (aj.c4 S) S.s.length).getD m aj.cu).n],acc.2++[(aj.l1 ((aj.ep (aj.c4 S) S.s.length).drop m)).1]),m+nn),?_,?_,ab.sub ⟨(by first | rfl | (show some (az _)=some (az _);rw [tU];congr 2 <;> omega)),rfl,rfl,trivial⟩,?_⟩
     ·(try dsimp only);omega
     ·exact ⟨by omega,⟨nA.add (by omega) tO F8,by simp;omega⟩,by rw [← qJ,aj.zl qI,List.drop_drop];unfold aj.qm;rw [pK,if_neg (by simpa using h7)]⟩
     ·(try dsimp only [List.set_cons_zero,List.set_cons_succ])
      rw [List.length_append,List.length_append,List.map_append,List.map_append]
      exact U
    ·refine wp_skip<|vm _ _<|bq ab U (ai rfl<|ai rfl<|bX rfl rfl<|ar rfl<|ah) fun a w ab U=>⟨(un,ut,acc,m+nn),?_,?_,ab.sub ⟨(by first | rfl | (show some (az _)=some (az _);rw [tU];congr 2 <;> omega)),rfl,rfl,trivial⟩,?_⟩
     ·(try dsimp only);omega
     ·exact ⟨by omega,⟨nA.up (by omega),rJ⟩,by rw [← qJ,aj.zl qI,List.drop_drop];unfold aj.qm;rw [pK,if_pos (by simpa using h7)]⟩
     ·exact U
  ·refine wp_exit<|mo _ _<|aB ab U (ai rfl<|ar rfl<|ar rfl<|ah) fun a w ab U=>wp_ret ?_
   replace U:=(((U.perm w4).perm lh).perm lj).perm lQ
   obtain rfl:m=S.s.length:=by omega
   exact cQ (rs:=[.tmp 2,.tmp 3]) rfl ab U (vs:=[_,_]) ⟨rfl,rfl,trivial⟩ [] [_,_,_,_,_,_,_,_] (ae.n) ae ⟨rfl,b6,_,_,_,_,_,_,_,_,rfl,rfl,(by rw [aj.Oc qJ];exact ⟨_,_,_,aj.RL bB nA rJ,rfl,rfl,rfl,rfl⟩),m2⟩
end
section
theorem uD:a1 Tryz.prog 244 (.slice 168) 1 24 (Value.slice none 0 0):=⟨Tryz.underlying244,by kernel_rfl⟩
theorem EJ:bU Tryz.prog 91:=bY Tryz.func91
theorem VF:bU Tryz.prog 165:=bY Tryz.func165
theorem VG:bU Tryz.prog 166:=bY Tryz.func166
attribute [local irreducible] aK.sum aj.eW aj.aT aj.cU aj.bh aj.c8 aj.fX aj.oB aj.p9
theorem Y8(bd:Nat)(v:Value)(S:ao.aX)(nF:S.off=false)(w0:World)(bP:List aP){dK:Nat×Nat}{dJ:TypeId}(dF:w0.heap[0]?=some (.cells (aK.ek.map cx).toArray dJ dK))(bB:ao.Ok S):eH Tryz.prog 139 [.pointer (some ⟨bd,0,none⟩)] w0 bP [fh bd v S,fj v S] (fun r zs hs=>zs=[]∧∃ b cj ck cr ct,r=.tuple [.pointer (some ⟨b,0,none⟩),az 0].toArray∧hs=[cj,ck,cr,ct,fh bd v S,fj v S]∧lN b bd (aj.eo S) cj ck cr ct):=by
 refine fF Tryz.func139 rfl Tryz.ntmps139 (Nat.le_of_ble_eq_true rfl) fun cw a w ab U=>?_
 replace U:=gw U
 have e5:=bB.lo
 have gg:=bB.aG
 have rX:=aj.Hu S
 refine aB ab U (ar rfl<|ar rfl<|ah) fun a w ab U=>a8 fun cm bD=>aE ab U (ai rfl<|ag (hc (places:=[(0,1),(1,1),(2,1),(3,1),(4,1),(5,1),(6,1)]) (cells:=[_,.slice none 0 0,.slice none 0 0,.slice none 0 0,_,.int .i64 0,.bool false]) gk aA rfl (by rfl))<|ah) fun a w ab U=>aH ab U rfl (iT rfl) ?_
 rintro _ _ _ a w ⟨b6,rfl,rfl,rfl⟩ ab U
 refine aE ab U (ar rfl<|ah) fun a w ab U=>wpList_nil ?_
 replace U:=U.hV 9 1
 replace U:=U.hV 3 1
 replace U:=U.hV 3 1
 replace U:=lB U
 refine bD _ _<|ax fun dH cf=>bq ab U (ar rfl<|ah) fun a w ab U=>?_
 replace U:=U.hV 168 5
 replace U:=kH U
 refine cf _ _<|ax fun dP cq=>aB ab U (ar rfl<|ah) fun a w ab U=>wp_block ?_
 obtain ⟨bC,aZ,U⟩:=U.cT
 refine df (γ:=Value×Value×Nat) ((Value.slice none 0 0),(Value.slice none 0 0),0) (fun (ub,ul,k)=>[(5,ul),(6,az (k:Int))]) [(0,_),(4,_)] (fun (ub,ul,k)=>(((bC.set 4 (.blk b6 207 [.pointer (some ⟨bd,0,none⟩),(Value.slice none 0 0),(Value.slice none 0 0),ub,az (aj.gi (aj.c4 S) k),az (aj.gD (aj.c4 S) k),.bool false])).set 2 (.row ub 3 1 (aj.gC (aj.c4 S) k).length ((aj.gC (aj.c4 S) k).map az))).set 0 (.row ul 168 5 k ((aj.ep (aj.c4 S) k).flatMap aj.qV)))) (fun (ub,ul,k)=>k≤S.s.length) (fun (ub,ul,k)=>S.s.length-k) (ab.sub ⟨rfl,rfl,rfl,rfl,trivial⟩) (by subst aZ;exact U) (by exact Nat.zero_le _) ?_
 rintro ⟨ub,ul,k⟩ a w ba ab U
 subst aZ;(try dsimp only at ba ab U)
 have kD:=ba
 replace U:=kH U
 obtain ⟨e8,gu⟩:=aj.Ak (aj.c4 S) k
 have Mp:=aj.yK (aj.c4 S) k
 have Bq:=(aj.wE (ao.read S (k:Int)).1).1
 refine ax fun et cz=>a8 fun eU cO=>aE ab U (ai rfl<|ai rfl<|ah) fun a w ab U=>?_
 replace U:=(U.perm pw).perm qf
 replace U:=kH U
 refine aH ab U rfl (dy K3 rfl (List.Perm.refl _) (by exact (PN _ _  (by first | assumption | exact ao.ir (by assumption) | exact ao.kl (by assumption) _ _) (S:=S) (v:=v)))) ?_
 rintro _ _ _ a w ⟨_,_,rfl,rfl,⟨rfl,rfl,rfl⟩⟩ ab U
 replace U:=kH U
 refine aE ab U (ag (cK rfl rfl)<|ah) fun a w ab U=>wpList_nil (cO _ _ ?_)
 refine b9 ab rfl (fun aS=>?_) (fun aS=>?_)
 ·obtain ⟨F5,Mu⟩:=aj.PD bB nF (k:=k) (by omega)
  refine wp_skip<|cz _ _<|ax fun e1 cF=>wp_block ?_
  refine a8 fun fY dg=>aE ab U (ai rfl<|ai rfl<|ah) fun a w ab U=>aH ab U rfl (dy KY rfl (List.Perm.refl _) (by exact (P0 _ _ _  (by first | assumption | exact ao.ir (by assumption) | exact ao.kl (by assumption) _ _) (S:=S) (v:=v)))) ?_
  rintro _ _ _ a w ⟨_,_,rfl,rfl,⟨rfl,rfl,rfl⟩⟩ ab U
  replace U:=kH U
  refine aE ab U (ai rfl<|ag (cE rfl rfl)<|ag (cE rfl rfl)<|ar rfl<|ar rfl<|ah) fun a w ab U=>wpList_nil (dg _ _ ?_)
  refine ax fun hE dS=>aB ab U (ai rfl<|ag (dM rfl rfl)<|ah) fun a w ab U=>eP ab rfl (fun bs=>?_) (fun bs=>?_)
  ·exact absurd F5 bs
  ·refine wp_skip<|dS _ _<|a8 fun iE eO=>aE ab U (ai rfl<|ag (bQ EJ rfl (fun w U=>HK _ w (U.ext _ _ dF)) (fun _ _ _ h=>h))<|ah) fun a w ab U=>aH ab U rfl (c1 dA) ?_
   rintro _ _ _ a w ⟨xr,rfl,rfl,rfl⟩ ab U
   refine aH ab U rfl (cA dA 0 rfl rfl rfl rfl aI (bn rfl (bn rfl (bn rfl (bn rfl (bn rfl dC))))) aI) ?_
   rintro _ _ _ a w ⟨rfl,rfl,rfl⟩ ab U
   replace U:=hW U
   refine wpList_nil (eO _ _ ?_)
   refine a8 fun iv eD=>aE ab U (ai rfl<|ag (fW dA 0 rfl rfl aI rfl)<|ah) fun a w ab U=>aH ab U rfl (qt uD dA rfl aI (by decide) bJ (by decide) (by decide)) ?_
   rintro v5 _ _ a w ⟨rfl,rfl⟩ ab U
   replace U:=jT U
   refine aH ab U rfl (dB uD dA 4 rfl rfl rfl (eA uD (k:=0) rfl bJ) aI rfl (by decide)) ?_
   rintro mR _ _ a w ⟨rfl,rfl⟩ ab U
   replace U:=jT U
   refine aE ab U (ar rfl<|ah) fun a w ab U=>wpList_nil (eD _ _ ?_)
   refine aB ab U (ai rfl<|ag (bQ VF rfl (fun w U=>S8 _ (by omega) w ) (fun _ _ _ h=>h))<|ar rfl<|ah) fun a w ab U=>ax fun jN fa=>aB ab U (ai rfl<|ag (fC rfl)<|ah) fun a w ab U=>eP ab rfl (fun b7=>?_) (fun b7=>?_)
   ·refine du<|aE ab U (ai rfl<|ai rfl<|bX rfl rfl<|ag (bI rfl)<|ag (aV gk rfl rfl (s':=0) aA)<|ah) fun a w ab U=>aH ab U rfl (c7 bG 8 rfl rfl rfl rfl (by simp)) ?_
    rintro _ _ _ a w ⟨rfl,rfl,rfl⟩ ab U
    replace U:aC _ (_) (_::_::_::_::_::_::_::_::.blk _ _ ([_,_,_,_,_,_,_].set 5 _)::_) _:=U
    simp only [List.set_cons_zero,List.set_cons_succ] at U
    replace U:=jT U
    refine wpList_nil (fa _ _ ?_)
    refine ax fun oE iW=>a8 fun oF iX=>aE ab U (ag (aV dA rfl rfl (s':=0) aA)<|ag (bc fg 1 rfl rfl rfl rfl)<|ag (fC rfl)<|ai rfl<|ah) fun a w ab U=>jJ 3 55 2 ab U rfl rfl rfl rfl rfl (fun aO=>have aO:=aO;aN 55 rfl rfl rfl (bE rfl)<|aN 55 rfl rfl rfl (fC rfl)<|ah) rfl rfl fun a w ab U=>?_
    refine wpList_nil (iX _ _ ?_)
    refine cX ab rfl (fun dr=>?_) (fun dr=>?_)
    ·(try simp only [c2] at dr)
     refine du<|aE ab U (ai rfl<|ai rfl<|ag (bI rfl)<|ag (aV gk rfl rfl (s':=0) aA)<|ag (bc c5 8 rfl rfl rfl rfl)<|ai rfl<|ah) fun a w ab U=>aH ab U rfl (dX c5 bG rfl rfl bJ (by decide) rfl rfl) ?_
     rintro sz _ _ a w ⟨rfl,rfl⟩ ab U
     replace U:=m8 U
     refine aH ab U rfl (dB c5 bG 7 rfl rfl rfl (eA c5 (k:=0) rfl bJ) aI rfl (by decide)) ?_
     rintro v10 _ _ a w ⟨rfl,rfl⟩ ab U
     replace U:=m8 U
     refine aE ab U (ag (bI rfl)<|ag (aV gk rfl rfl (s':=0) aA)<|ah) fun a w ab U=>aH ab U rfl (c7 c5 9 rfl rfl rfl (row_one (U.own _ (List.mem_of_getElem? (i:=7) rfl)).1) (by simp)) ?_
     rintro _ _ _ a w ⟨rfl,rfl,rfl⟩ ab U
     replace U:aC _ (_) (_::_::_::_::_::_::_::_::_::.blk _ _ ([_,_,_,_,_,_,_].set 3 _)::_) _:=U
     simp only [List.set_cons_zero,List.set_cons_succ] at U
     replace U:=m8 U
     refine wpList_nil (iW _ _ ?_)
     refine hZ mixed aA ab U (ag (aV dA rfl rfl (s':=0) aA)<|ag (bc bG 2 rfl rfl rfl rfl)<|ai rfl<|ag (bI rfl)<|ag (aV gk rfl rfl (s':=0) aA)<|ag (bc bG 9 rfl rfl rfl rfl)<|ag (jH rfl rfl)<|ah) fun a w ab U=>b9 ab rfl (fun dm=>?_) (fun dm=>?_)
     ·refine du<|aE ab U (ai rfl<|ag (aV dA rfl rfl (s':=0) aA)<|ag (bc bG 2 rfl rfl rfl rfl)<|bX rfl rfl<|ag (bI rfl)<|ag (aV gk rfl rfl (s':=0) aA)<|ah) fun a w ab U=>aH ab U rfl (c7 bG 9 rfl rfl rfl rfl (by simp)) ?_
      rintro _ _ _ a w ⟨rfl,rfl,rfl⟩ ab U
      replace U:aC _ (_) (_::_::_::_::_::_::_::_::_::.blk _ _ ([_,_,_,_,_,_,_].set 4 _)::_) _:=U
      simp only [List.set_cons_zero,List.set_cons_succ] at U
      replace U:=m8 U
      refine wpList_nil (cF _ _ ?_)
      refine bq ab U (ai rfl<|bX rfl rfl<|ar rfl<|ah) fun a w ab U=>?_
      replace U:=((((((U.perm pw).perm qf).perm uL).perm uN).perm z7).perm w5).perm w6
      replace U:=U.ak ae (ae.n.n.n.k.k.k.k.k.k.k)
      refine ⟨(v10,mR,k+1),?_,?_,ab.sub ⟨rfl,rfl,rfl,rfl,trivial⟩,?_⟩
      ·(try dsimp only);omega
      ·omega
      ·have ew:=aj.ot (S:=S) (k:=k) (by omega)
       (try dsimp only [List.set_cons_zero,List.set_cons_succ])
       rw [aj.s9 (by rw [ew];exact b7),aj.s3 (by rw [ew];exact dr),aj.B4 (by rw [ew];omega),← aj.om (by omega),ew,List.length_append,List.map_append]
       exact U
     ·refine wp_skip<|cF _ _<|bq ab U (ai rfl<|bX rfl rfl<|ar rfl<|ah) fun a w ab U=>?_
      replace U:=((((((U.perm pw).perm qf).perm uL).perm uN).perm z7).perm w5).perm w6
      replace U:=U.ak ae (ae.n.n.n.k.k.k.k.k.k.k)
      refine ⟨(v10,mR,k+1),?_,?_,ab.sub ⟨rfl,rfl,rfl,rfl,trivial⟩,?_⟩
      ·(try dsimp only);omega
      ·omega
      ·have ew:=aj.ot (S:=S) (k:=k) (by omega)
       (try dsimp only [List.set_cons_zero,List.set_cons_succ])
       rw [aj.s9 (by rw [ew];exact b7),aj.s3 (by rw [ew];exact dr),aj.B3 (by rw [ew];omega),← aj.om (by omega),ew,List.length_append,List.map_append]
       exact U
    ·(try simp only [c2] at dr)
     refine wp_skip<|iW _ _<|hZ mixed aA ab U (ag (aV dA rfl rfl (s':=0) aA)<|ag (bc bG 1 rfl rfl rfl rfl)<|ai rfl<|ag (bI rfl)<|ag (aV gk rfl rfl (s':=0) aA)<|ag (bc bG 8 rfl rfl rfl rfl)<|ag (jH rfl rfl)<|ah) fun a w ab U=>b9 ab rfl (fun iZ=>?_) (fun iZ=>?_)
     ·refine du<|aE ab U (ai rfl<|ag (aV dA rfl rfl (s':=0) aA)<|ag (bc bG 1 rfl rfl rfl rfl)<|bX rfl rfl<|ag (bI rfl)<|ag (aV gk rfl rfl (s':=0) aA)<|ah) fun a w ab U=>aH ab U rfl (c7 bG 8 rfl rfl rfl rfl (by simp)) ?_
      rintro _ _ _ a w ⟨rfl,rfl,rfl⟩ ab U
      replace U:aC _ (_) (_::_::_::_::_::_::_::_::.blk _ _ ([_,_,_,_,_,_,_].set 4 _)::_) _:=U
      simp only [List.set_cons_zero,List.set_cons_succ] at U
      replace U:=jT U
      refine wpList_nil (cF _ _ ?_)
      refine bq ab U (ai rfl<|bX rfl rfl<|ar rfl<|ah) fun a w ab U=>?_
      replace U:=((((((U.perm kq).perm lh).perm lj).perm lQ).perm uO).perm pz).perm sP
      replace U:=U.ak ae (ae.n.n.k.k.k.k.k.k.k)
      refine ⟨(ub,mR,k+1),?_,?_,ab.sub ⟨rfl,rfl,rfl,rfl,trivial⟩,?_⟩
      ·(try dsimp only);omega
      ·omega
      ·have ew:=aj.ot (S:=S) (k:=k) (by omega)
       (try dsimp only [List.set_cons_zero,List.set_cons_succ])
       rw [aj.s9 (by rw [ew];exact b7),aj.qs (by rw [ew];intro cn;rcases dr with cC | cC;(rw [cC] at cn;exact absurd cn.1 (by simp));exact cn.2 cC),aj.B4 (by rw [ew];omega),← aj.om (by omega),ew]
       exact U
     ·refine wp_skip<|cF _ _<|bq ab U (ai rfl<|bX rfl rfl<|ar rfl<|ah) fun a w ab U=>?_
      replace U:=((((((U.perm kq).perm lh).perm lj).perm lQ).perm uO).perm pz).perm sP
      replace U:=U.ak ae (ae.n.n.k.k.k.k.k.k.k)
      refine ⟨(ub,mR,k+1),?_,?_,ab.sub ⟨rfl,rfl,rfl,rfl,trivial⟩,?_⟩
      ·(try dsimp only);omega
      ·omega
      ·have ew:=aj.ot (S:=S) (k:=k) (by omega)
       (try dsimp only [List.set_cons_zero,List.set_cons_succ])
       rw [aj.s9 (by rw [ew];exact b7),aj.qs (by rw [ew];intro cn;rcases dr with cC | cC;(rw [cC] at cn;exact absurd cn.1 (by simp));exact cn.2 cC),aj.B3 (by rw [ew];omega),← aj.om (by omega),ew]
       exact U
   ·refine wp_skip<|fa _ _<|ax fun sK lS=>a8 fun sL mo=>aE ab U (ag (aV dA rfl rfl (s':=0) aA)<|ag (bc fg 1 rfl rfl rfl rfl)<|ag (fC rfl)<|ai rfl<|ah) fun a w ab U=>?_
    refine jJ 3 55 2 ab U rfl rfl rfl rfl rfl (fun aO=>have aO:=aO;aN 55 rfl rfl rfl (bE rfl)<|aN 55 rfl rfl rfl (fC rfl)<|ah) rfl rfl fun a w ab U=>?_
    refine wpList_nil (mo _ _ ?_)
    refine cX ab rfl (fun jS=>?_) (fun jS=>?_)
    ·(try simp only [c2] at jS)
     refine du<|aE ab U (ai rfl<|ai rfl<|ag (bI rfl)<|ag (aV gk rfl rfl (s':=0) aA)<|ag (bc c5 8 rfl rfl rfl rfl)<|ai rfl<|ah) fun a w ab U=>aH ab U rfl (dX c5 bG rfl rfl bJ (by decide) rfl rfl) ?_
     rintro v11 _ _ a w ⟨rfl,rfl⟩ ab U
     replace U:=m8 U
     refine aH ab U rfl (dB c5 bG 7 rfl rfl rfl (eA c5 (k:=0) rfl bJ) aI rfl (by decide)) ?_
     rintro wF _ _ a w ⟨rfl,rfl⟩ ab U
     replace U:=m8 U
     refine aE ab U (ag (bI rfl)<|ag (aV gk rfl rfl (s':=0) aA)<|ah) fun a w ab U=>aH ab U rfl (c7 c5 9 rfl rfl rfl (row_one (U.own _ (List.mem_of_getElem? (i:=7) rfl)).1) (by simp)) ?_
     rintro _ _ _ a w ⟨rfl,rfl,rfl⟩ ab U
     replace U:aC _ (_) (_::_::_::_::_::_::_::_::_::.blk _ _ ([_,_,_,_,_,_,_].set 3 _)::_) _:=U
     simp only [List.set_cons_zero,List.set_cons_succ] at U
     replace U:=m8 U
     refine wpList_nil (lS _ _ ?_)
     refine hZ mixed aA ab U (ag (aV dA rfl rfl (s':=0) aA)<|ag (bc bG 2 rfl rfl rfl rfl)<|ai rfl<|ag (bI rfl)<|ag (aV gk rfl rfl (s':=0) aA)<|ag (bc bG 9 rfl rfl rfl rfl)<|ag (jH rfl rfl)<|ah) fun a w ab U=>b9 ab rfl (fun h7=>?_) (fun h7=>?_)
     ·refine du<|aE ab U (ai rfl<|ag (aV dA rfl rfl (s':=0) aA)<|ag (bc bG 2 rfl rfl rfl rfl)<|bX rfl rfl<|ag (bI rfl)<|ag (aV gk rfl rfl (s':=0) aA)<|ah) fun a w ab U=>aH ab U rfl (c7 bG 9 rfl rfl rfl rfl (by simp)) ?_
      rintro _ _ _ a w ⟨rfl,rfl,rfl⟩ ab U
      replace U:aC _ (_) (_::_::_::_::_::_::_::_::_::.blk _ _ ([_,_,_,_,_,_,_].set 4 _)::_) _:=U
      simp only [List.set_cons_zero,List.set_cons_succ] at U
      replace U:=m8 U
      refine wpList_nil (cF _ _ ?_)
      refine bq ab U (ai rfl<|bX rfl rfl<|ar rfl<|ah) fun a w ab U=>?_
      replace U:=((((((U.perm pw).perm qf).perm uL).perm uN).perm z7).perm w5).perm w6
      replace U:=U.ak ae (ae.n.n.n.k.k.k.k.k.k.k)
      refine ⟨(wF,mR,k+1),?_,?_,ab.sub ⟨rfl,rfl,rfl,rfl,trivial⟩,?_⟩
      ·(try dsimp only);omega
      ·omega
      ·have ew:=aj.ot (S:=S) (k:=k) (by omega)
       (try dsimp only [List.set_cons_zero,List.set_cons_succ])
       rw [aj.ta (by rw [ew];exact b7),aj.s3 (by rw [ew];exact jS),aj.B4 (by rw [ew];omega),← aj.om (by omega),ew,List.length_append,List.map_append]
       exact U
     ·refine wp_skip<|cF _ _<|bq ab U (ai rfl<|bX rfl rfl<|ar rfl<|ah) fun a w ab U=>?_
      replace U:=((((((U.perm pw).perm qf).perm uL).perm uN).perm z7).perm w5).perm w6
      replace U:=U.ak ae (ae.n.n.n.k.k.k.k.k.k.k)
      refine ⟨(wF,mR,k+1),?_,?_,ab.sub ⟨rfl,rfl,rfl,rfl,trivial⟩,?_⟩
      ·(try dsimp only);omega
      ·omega
      ·have ew:=aj.ot (S:=S) (k:=k) (by omega)
       (try dsimp only [List.set_cons_zero,List.set_cons_succ])
       rw [aj.ta (by rw [ew];exact b7),aj.s3 (by rw [ew];exact jS),aj.B3 (by rw [ew];omega),← aj.om (by omega),ew,List.length_append,List.map_append]
       exact U
    ·(try simp only [c2] at jS)
     refine wp_skip<|lS _ _<|hZ mixed aA ab U (ag (aV dA rfl rfl (s':=0) aA)<|ag (bc bG 1 rfl rfl rfl rfl)<|ai rfl<|ag (bI rfl)<|ag (aV gk rfl rfl (s':=0) aA)<|ag (bc bG 8 rfl rfl rfl rfl)<|ag (jH rfl rfl)<|ah) fun a w ab U=>b9 ab rfl (fun mr=>?_) (fun mr=>?_)
     ·refine du<|aE ab U (ai rfl<|ag (aV dA rfl rfl (s':=0) aA)<|ag (bc bG 1 rfl rfl rfl rfl)<|bX rfl rfl<|ag (bI rfl)<|ag (aV gk rfl rfl (s':=0) aA)<|ah) fun a w ab U=>aH ab U rfl (c7 bG 8 rfl rfl rfl rfl (by simp)) ?_
      rintro _ _ _ a w ⟨rfl,rfl,rfl⟩ ab U
      replace U:aC _ (_) (_::_::_::_::_::_::_::_::.blk _ _ ([_,_,_,_,_,_,_].set 4 _)::_) _:=U
      simp only [List.set_cons_zero,List.set_cons_succ] at U
      replace U:=jT U
      refine wpList_nil (cF _ _ ?_)
      refine bq ab U (ai rfl<|bX rfl rfl<|ar rfl<|ah) fun a w ab U=>?_
      replace U:=((((((U.perm kq).perm lh).perm lj).perm lQ).perm uO).perm pz).perm sP
      replace U:=U.ak ae (ae.n.n.k.k.k.k.k.k.k)
      refine ⟨(ub,mR,k+1),?_,?_,ab.sub ⟨rfl,rfl,rfl,rfl,trivial⟩,?_⟩
      ·(try dsimp only);omega
      ·omega
      ·have ew:=aj.ot (S:=S) (k:=k) (by omega)
       (try dsimp only [List.set_cons_zero,List.set_cons_succ])
       rw [aj.ta (by rw [ew];exact b7),aj.qs (by rw [ew];intro cn;rcases jS with cC | cC;(rw [cC] at cn;exact absurd cn.1 (by simp));exact cn.2 cC),aj.B4 (by rw [ew];omega),← aj.om (by omega),ew]
       exact U
     ·refine wp_skip<|cF _ _<|bq ab U (ai rfl<|bX rfl rfl<|ar rfl<|ah) fun a w ab U=>?_
      replace U:=((((((U.perm kq).perm lh).perm lj).perm lQ).perm uO).perm pz).perm sP
      replace U:=U.ak ae (ae.n.n.k.k.k.k.k.k.k)
      refine ⟨(ub,mR,k+1),?_,?_,ab.sub ⟨rfl,rfl,rfl,rfl,trivial⟩,?_⟩
      ·(try dsimp only);omega
      ·omega
      ·have ew:=aj.ot (S:=S) (k:=k) (by omega)
       (try dsimp only [List.set_cons_zero,List.set_cons_succ])
       rw [aj.ta (by rw [ew];exact b7),aj.qs (by rw [ew];intro cn;rcases jS with cC | cC;(rw [cC] at cn;exact absurd cn.1 (by simp));exact cn.2 cC),aj.B3 (by rw [ew];omega),← aj.om (by omega),ew]
       exact U
 ·obtain rfl:k=S.s.length:=by omega
  refine wp_exit<|cq _ _<|ax fun Dt tq=>bq ab U (ar rfl<|ah) fun a w ab U=>?_
  replace U:=U.perm nj
  obtain ⟨zp,hK,U⟩:=aC.ER (hl:=aj.G5) (h1:=aj.G6) (p:=aj.oJ) (xs:=(aj.ep (aj.c4 S) S.s.length)) U (by rw [aj.yN (by omega)]) (by omega) aj.vW
  have Zg:(aj.ep (aj.c4 S) S.s.length).length=S.s.length:=aj.yN (by omega)
  replace U:aC _ (_::_) (_::_::_::_::_::_::_) _:=U
  refine tq _ _<|ax fun Du tt=>wp_block ?_
  obtain ⟨bC,aZ,U⟩:=U.cT
  refine df (γ:=Value×Value×aj.Acc×Nat) ((Value.slice none 0 0),(Value.slice none 0 0),([],[]),0) (fun (un,ut,acc,m)=>[(11,az (m:Int))]) [(4,_),(5,_)] (fun (un,ut,acc,m)=>(((bC.set 5 (.blk b6 207 [.pointer (some ⟨bd,0,none⟩),un,ut,ub,az (aj.gi (aj.c4 S) S.s.length),az (aj.gD (aj.c4 S) S.s.length),.bool false])).set 2 (.row un 3 1 acc.1.length (acc.1.map az))).set 4 (.row ut 9 1 acc.2.length (acc.2.map vs)))) (fun (un,ut,acc,m)=>m≤S.s.length∧(aj.l8 m acc∧(acc.1.length:Int)≤aj.gD (aj.c4 S) S.s.length)∧aj.scan ((aj.ep (aj.c4 S) S.s.length).drop m) acc=aj.scan (aj.ep (aj.c4 S) S.s.length) ([],[])) (fun (un,ut,acc,m)=>S.s.length-m) (ab.sub ⟨rfl,rfl,rfl,trivial⟩) (by subst aZ;exact U) (by exact ⟨Nat.zero_le _,⟨aj.l8.start,(aj.AG _ _).1⟩,rfl⟩) ?_
  rintro ⟨un,ut,acc,m⟩ a w ba ab U
  subst aZ;(try dsimp only at ba ab U)
  obtain ⟨yb,⟨nA,rJ⟩,qJ⟩:=ba
  replace U:aC _ (_::_) (_::_::_::_::_::_::_) _:=U
  obtain ⟨m3,vo,rK,jR⟩:=nA
  have nA:aj.l8 m acc:=⟨m3,vo,rK,jR⟩
  have XW:∀ x∈acc.1, -9223372036854775808≤x∧x≤9223372036854775807:=fun x aL=>by have:=rK x aL;omega
  refine ax fun IP xQ=>aB ab U (ai rfl<|ai rfl<|ag (dL uD hK rfl)<|ag (cK rfl rfl)<|ah) fun a w ab U=>b9 ab rfl (fun X4=>?_) (fun X4=>?_)
  ·have lU:=aj.OA (R:=aj.c4 S) (k:=S.s.length) (m:=m) (by omega)
   obtain ⟨vw,FD,FE,Yv⟩:=id lU
   refine wp_skip<|xQ _ _<|wp_block ?_
   refine a8 fun Sa Fi=>aE ab U (ai rfl<|ai rfl<|ag (dG uD dA hK rfl rfl (by omega))<|ag (Ci dA hK (.inr (by simp)) rfl rfl (by first | omega | (simp;omega)))<|ah) fun a w ab U=>aH ab U rfl (c1 dA) ?_
   rintro _ _ _ a w ⟨Af,rfl,rfl,rfl⟩ ab U
   refine aH ab U rfl (cA dA 0 rfl rfl rfl rfl aI (bn rfl (bn rfl (bn rfl (bn rfl (bn rfl dC))))) aI) ?_
   rintro _ _ _ a w ⟨rfl,rfl,rfl⟩ ab U
   replace U:aC _ (_::_) (_::_::_::_::_::_::_::_) _:=U
   refine wpList_nil ?_
   rw [show ((m:Int)).toNat=m from by omega] at U
   replace U:aC _ (_::_) (.blk Af 168 [az ((aj.ep (aj.c4 S) S.s.length).getD m aj.cu).n,az ((aj.ep (aj.c4 S) S.s.length).getD m aj.cu).p,az ((aj.ep (aj.c4 S) S.s.length).getD m aj.cu).l,vs ((aj.ep (aj.c4 S) S.s.length).getD m aj.cu).t,.bool ((aj.ep (aj.c4 S) S.s.length).getD m aj.cu).ok]::_::_::_::_::_::_::_) _:=U
   refine Fi _ _<|ax fun IS vm=>bq ab U (ag (aV dA rfl rfl (s':=0) aA)<|ag (bc bG 0 rfl rfl rfl rfl)<|ag (bQ Ex rfl (fun w U=>Gz _ (by first | assumption | omega) w ) (fun _ _ _ h=>h))<|ar rfl<|ah) fun a w ab U=>?_
   have n3:=aj.nW ((aj.ep (aj.c4 S) S.s.length).getD m aj.cu).l
   refine vm _ _<|aB ab U (ar rfl<|ah) fun a w ab U=>a8 fun ah1 Xv=>aE ab U (ag (aV dA rfl rfl (s':=0) aA)<|ag (bc fg 0 rfl rfl rfl rfl)<|ai rfl<|ah) fun a w ab U=>jJ 2 95 3 ab U rfl rfl rfl rfl rfl (fun aO=>have aO:=aO;aN 95 rfl rfl rfl (aV dA rfl rfl (s':=0) aA)<|aN 95 rfl rfl rfl (bc bG 0 rfl rfl rfl rfl)<|aN 95 rfl rfl rfl (fc rfl rfl)<|ah) rfl rfl fun a w ab U=>?_
   refine aE ab U (ai rfl<|ah) fun a w ab U=>jJ 7 100 6 ab U rfl rfl rfl rfl rfl (fun aO=>have aO:=aO;aN 100 rfl rfl rfl (bE rfl)<|aN 100 rfl rfl rfl (bE rfl)<|aN 100 rfl rfl rfl (pb rfl rfl (by omega))<|aN 100 rfl rfl rfl (bE rfl)<|aN 100 rfl rfl rfl (dL uD hK rfl)<|aN 100 rfl rfl rfl (vZ rfl rfl)<|ah) rfl rfl fun a w ab U=>?_
   refine aE ab U (ar rfl<|ah) fun a w ab U=>wpList_nil (Xv _ _ ?_)
   refine ax fun Sc Fk=>aB ab U (ar rfl<|ah) fun a w ab U=>wp_block ?_
   obtain ⟨bC,aZ,U⟩:=U.cT
   refine df (γ:=Nat) (0) (fun (i:Nat)=>[(14,vs (aj.p9 (aj.ep (aj.c4 S) S.s.length) m i)),(15,.bool (aj.oB (aj.ep (aj.c4 S) S.s.length) m i)),(16,az (i:Int))]) [(4,_),(5,_),(11,_),(12,_),(13,_)] (fun (i:Nat)=>bC) (fun (i:Nat)=>(i:Int)≤aj.bh ((aj.ep (aj.c4 S) S.s.length).getD m aj.cu).l) (fun (i:Nat)=>(aj.bh ((aj.ep (aj.c4 S) S.s.length).getD m aj.cu).l).toNat-i) (ab.sub ⟨(by show some (vs [])=some (vs _);rw [aj.agB]),(by show some (Value.bool _)=some (Value.bool _);rw [← aj.ahh (by omega)]),rfl,rfl,rfl,rfl,rfl,rfl,trivial⟩) (by subst aZ;exact U) (by exact n3.1) ?_
   rintro i a w ba ab U
   subst aZ;(try dsimp only at ba ab U)
   have eu:=ba
   replace U:aC _ (_::_) (_::_::_::_::_::_::_::_) _:=U
   refine ax fun Sd Fl=>a8 fun Se Fm=>aE ab U (ai rfl<|ai rfl<|ah) fun a w ab U=>jJ 1 109 3 ab U rfl rfl rfl rfl rfl (fun aO=>have aO:=aO;aN 109 rfl rfl rfl (bE rfl)<|aN 109 rfl rfl rfl (bE rfl)<|aN 109 rfl rfl rfl (cK rfl rfl)<|ah) rfl rfl fun a w ab U=>?_
   refine wpList_nil (Fm _ _ ?_)
   refine cX ab rfl (fun tB=>?_) (fun tB=>?_)
   ·(try simp only [c2] at tB)
    have oa:=aj.ahf tB.1 tB.2 (by omega)
    have Zm:=aj.OA (R:=aj.c4 S) (k:=S.s.length) (m:=m+i) oa
    obtain ⟨yk,vF,akV,akW⟩:=Zm
    have ak7:=aj.agC (PS:=(aj.ep (aj.c4 S) S.s.length)) aj.vW m i
    refine wp_skip<|Fl _ _<|ax fun Sf Fo=>wp_block ?_
    refine a8 fun ah2 Xw=>aE ab U (ai rfl<|ai rfl<|ai rfl<|bX rfl rfl<|ag (dG uD dA hK rfl rfl (by omega))<|ag (Ci dA hK (.inr (by simp)) rfl rfl (by first | omega | (simp;omega)))<|ah) fun a w ab U=>aH ab U rfl (c1 dA) ?_
    rintro _ _ _ a w ⟨JG,rfl,rfl,rfl⟩ ab U
    refine aH ab U rfl (cA dA 0 rfl rfl rfl rfl aI (bn rfl (bn rfl (bn rfl (bn rfl (bn rfl dC))))) aI) ?_
    rintro _ _ _ a w ⟨rfl,rfl,rfl⟩ ab U
    replace U:=pY U
    refine wpList_nil ?_
    rw [show ((m:Int)+(i:Int)).toNat=m+i from by omega] at U
    replace U:aC _ (_::_) (.blk JG 168 [az ((aj.ep (aj.c4 S) S.s.length).getD (m+i) aj.cu).n,az ((aj.ep (aj.c4 S) S.s.length).getD (m+i) aj.cu).p,az ((aj.ep (aj.c4 S) S.s.length).getD (m+i) aj.cu).l,vs ((aj.ep (aj.c4 S) S.s.length).getD (m+i) aj.cu).t,.bool ((aj.ep (aj.c4 S) S.s.length).getD (m+i) aj.cu).ok]::_::_::_::_::_::_::_::_) _:=U
    refine Xw _ _<|a8 fun Sg Fp=>aE ab U (ag (aV dA rfl rfl (s':=0) aA)<|ag (bc fg 0 rfl rfl rfl rfl)<|ai rfl<|ah) fun a w ab U=>jJ 2 124 5 ab U rfl rfl rfl rfl rfl (fun aO=>have aO:=aO;aN 124 rfl rfl rfl (aV dA rfl rfl (s':=0) aA)<|aN 124 rfl rfl rfl (bc bG 0 rfl rfl rfl rfl)<|aN 124 rfl rfl rfl (aV dA rfl rfl (s':=0) aA)<|aN 124 rfl rfl rfl (bc bG 1 rfl rfl rfl rfl)<|aN 124 rfl rfl rfl (fc rfl rfl)<|ah) rfl rfl fun a w ab U=>?_
    refine aE ab U (ai rfl<|ah) fun a w ab U=>jJ 9 131 4 ab U rfl rfl rfl rfl rfl (fun aO=>have aO:=aO;aN 131 rfl rfl rfl (aV dA rfl rfl (s':=0) aA)<|aN 131 rfl rfl rfl (bc bG 0 rfl rfl rfl rfl)<|aN 131 rfl rfl rfl (bE rfl)<|aN 131 rfl rfl rfl (fc rfl rfl)<|ah) rfl rfl fun a w ab U=>?_
    refine aE ab U (ai rfl<|ah) fun a w ab U=>jJ 15 137 8 ab U rfl rfl rfl rfl rfl (fun aO=>have aO:=aO;aN 137 rfl rfl rfl (aV dA rfl rfl (s':=0) aA)<|aN 137 rfl rfl rfl (bc bG 0 rfl rfl rfl rfl)<|aN 137 rfl rfl rfl (aV dA rfl rfl (s':=0) aA)<|aN 137 rfl rfl rfl (bc bG 1 rfl rfl rfl rfl)<|aN 137 rfl rfl rfl (bE rfl)<|aN 137 rfl rfl rfl (hd rfl rfl (by omega))<|aN 137 rfl rfl rfl (na rfl rfl (by omega))<|aN 137 rfl rfl rfl (fc rfl rfl)<|ah) rfl rfl fun a w ab U=>?_
    refine aE ab U (ar rfl<|ah) fun a w ab U=>wpList_nil (Fp _ _ ?_)
    refine bq ab U (ai rfl<|ag (aV dA rfl rfl (s':=0) aA)<|ag (bc bz 0 rfl rfl rfl rfl)<|ag (Ce rfl rfl aI)<|ar rfl<|ah) fun a w ab U=>Fo _ _ ?_
    refine bq ab U (ai rfl<|bX rfl rfl<|ar rfl<|ah) fun a w ab U=>?_
    replace U:=U.ak ae (ae.n)
    refine ⟨(i+1),?_,?_,ab.sub ⟨(by show some (vs _)=some (vs _);rw [← aj.agD oa]),(by show some (Value.bool _)=some (Value.bool _);rw [← aj.ahi tB.1 oa];rfl),rfl,rfl,rfl,rfl,rfl,rfl,trivial⟩,?_⟩
    ·(try dsimp only);omega
    ·omega
    ·exact U
   ·(try simp only [c2] at tB)
    refine wp_exit<|Fk _ _<|ax fun ah3 Xx=>aB ab U (ai rfl<|ag (fC rfl)<|ah) fun a w ab U=>cX ab rfl (fun Fy=>?_) (fun Fy=>?_)
    ·have Y3:=aj.ahg (by omega) (by simpa using Fy) eu
     refine aB ab U (ai rfl<|bX rfl rfl<|ar rfl<|ah) fun a w ab U=>wp_exit ?_
     replace U:=U.ak ae (ae.n)
     refine ⟨(un,ut,acc,m+1),?_,?_,ab.sub ⟨(by first | rfl | (show some (az _)=some (az _);congr 2;omega)),rfl,rfl,trivial⟩,?_⟩
     ·(try dsimp only);omega
     ·exact ⟨by omega,⟨nA.up (by omega),rJ⟩,by rw [← qJ,aj.HQ (l:=(aj.ep (aj.c4 S) S.s.length).drop m) (aj.Ef (by omega)) Y3,List.drop_drop]⟩
     ·exact U
    ·have MJ:aj.oB (aj.ep (aj.c4 S) S.s.length) m i=true:=by simpa using Fy
     have Y2:¬ (i:Int)<aj.bh ((aj.ep (aj.c4 S) S.s.length).getD m aj.cu).l:=by rcases tB with cC | cC;(rw [MJ] at cC;cases cC);exact cC
     obtain ⟨qI,aj5⟩:=aj.ahj (by omega) lU MJ Y2 eu
     have F7:=aj.Cw qI
     rw [List.length_drop] at F7
     obtain ⟨FI,F8⟩:=aj.PF qI (fun x aL=>aj.vW x (List.mem_of_mem_drop aL))
     rw [aj.nZ,aj.Cd (by omega) (by omega)] at FI
     have tO:1≤((aj.ep (aj.c4 S) S.s.length).getD m aj.cu).n∧((aj.ep (aj.c4 S) S.s.length).getD m aj.cu).n≤4096:=by rw [aj.Cd (by omega) (by omega)];exact ⟨aj.Ij FI,(aj.wE _).1.2⟩
     have Yu:=aj.Ek (aj.Ap FI) S.s.length (by omega)
     have pK:((aj.ep (aj.c4 S) S.s.length).drop m).getD 0 aj.cu=((aj.ep (aj.c4 S) S.s.length).getD m aj.cu):=aj.nZ _ _
     refine wp_skip<|Xx _ _<|hZ mixed aA ab U (ai rfl<|ag (bI rfl)<|ag (aV gk rfl rfl (s':=0) aA)<|ag (bc c5 6 rfl rfl rfl rfl)<|ag (aV dA rfl rfl (s':=0) aA)<|ag (bc bG 0 rfl rfl rfl rfl)<|ag (bQ VG rfl (fun w U=>XV _ _ _ w (k2 (U.own _ (List.mem_of_getElem? (i:=3) rfl)).1 (by first | assumption | (simp;done)) (by first | rfl | (simp;done) | (simp;omega) | omega) (by first | omega | (simp;omega)))) (fun _ _ _ h=>h))<|ar rfl<|ah) fun a w ab U=>ax fun Sh A6=>aB ab U (ai rfl<|ag (fC rfl)<|ah) fun a w ab U=>?_
     refine eP ab rfl (fun Fz=>?_) (fun Fz=>?_)
     ·refine ax fun ah7 XB=>?_
      revert U;revert ab;apply ho (J:=jM (α0:=Value) (α1:=Value) 189 _ _ _ _ _) #[false,false,false,false,false,false,false,false,false,false,false,false] 12 mixed rfl rfl
      ·intro w ab U
       refine aR 0 rfl ab (U.ak ae (ae.n.n.n.n.n.n.n)) (bE rfl) fun a ab=>aR 1 rfl ab (U.ak ae (ae.n.n.n.n.n.n.n)) (bE rfl) fun a ab=>aR 2 rfl ab (U.ak ae (ae.n.n.n.n.n.n.n)) (bI rfl) fun a ab=>aR 3 rfl ab (U.ak ae (ae.n.n.n.n.n.n.n)) (aV gk rfl rfl (s':=0) aA) fun a ab=>aR 4 rfl ab (U.ak ae (ae.n.n.n.n.n.n)) (bc c5 0 rfl rfl rfl rfl) fun a ab=>?_
       refine aR 5 rfl ab (U.ak ae (ae.n.n.n.n.n.n.n)) (aV dA rfl rfl (s':=0) aA) fun a ab=>aR 6 rfl ab (U.ak ae (ae.n.n.n.n.n.n.k)) (bc bG 0 rfl rfl rfl rfl) fun a ab=>bW 7 rfl rfl ab U rfl (dX c5 bG rfl rfl bJ (by decide) rfl rfl) ?_
       rintro Rm _ _ a w ⟨rfl,rfl⟩ ab U
       replace U:=pY U
       refine ⟨⟨al,al,.inr (U.ak ae (ae.n.n.n.n.n.n.n)),.inr (U.ak ae (ae.n.n.n.n.n.n.n.n)),.inr (U.ak ae (ae.n.n.n.n.n.n.n.n)),.inr (U.ak ae (ae.n.n.n.n.n.n.n.n)),.inr (U.ak ae (ae.n.n.n.n.n.n.n.n)),trivial⟩,?_⟩
       refine bW 8 rfl rfl ab U rfl (dB c5 bG 4 rfl rfl rfl (eA c5 (k:=0) rfl bJ) aI rfl (by decide)) ?_
       rintro Iq _ _ a w ⟨rfl,rfl⟩ ab U
       replace U:=pY U
       refine ⟨⟨al,al,al,al,.inr (U.ak ae (ae.n.n.n.n.n.n.n.n)),.inr (U.ak ae (ae.n.n.n.n.n.n.n.n)),.inr (U.ak ae (ae.n.n.n.n.n.n.n.n)),trivial⟩,?_⟩
       refine aR 9 rfl ab (U.ak ae (ae.n.n.n.n.n.n.n.n)) (bI rfl) fun a ab=>aR 10 rfl ab (U.ak ae (ae.n.n.n.n.n.n.n.n)) (aV gk rfl rfl (s':=0) aA) fun a ab=>bW 11 rfl rfl ab U rfl (c7 c5 7 rfl rfl rfl (row_one (U.own _ (List.mem_of_getElem? (i:=4) rfl)).1) (by simp)) ?_
       rintro _ _ _ a w ⟨rfl,rfl,rfl⟩ ab U
       replace U:aC _ (_::_) (_::_::_::_::_::_::_::.blk _ _ ([_,_,_,_,_,_,_].set 1 _)::_) _:=U
       simp only [List.set_cons_zero,List.set_cons_succ] at U
       replace U:=pY U
       refine ⟨⟨al,al,al,al,al,al,al,al,al,trivial⟩,?_⟩
       exact ei aA (kY Rm Iq (trivial) (ab.sub (L':=[(4,_),(5,_),(11,_),(13,_),(14,_)]) ⟨rfl,rfl,rfl,rfl,rfl,trivial⟩) U)
      rintro a w ⟨Rm,Iq, -,ab,U⟩
      (try dsimp only at ab U)
      refine XB _ _<|du ?_
      refine aE ab U (ai rfl<|ai rfl<|ag (bI rfl)<|ag (aV gk rfl rfl (s':=0) aA)<|ag (bc cl 7 rfl rfl rfl rfl)<|ai rfl<|ah) fun a w ab U=>aH ab U rfl (dX cl bz rfl rfl bJ (by decide) rfl rfl) ?_
      rintro agY _ _ a w ⟨rfl,rfl⟩ ab U
      replace U:=qS U
      refine aH ab U rfl (dB cl bz 7 rfl rfl rfl (eA cl (k:=0) rfl bJ) aI rfl (by decide)) ?_
      rintro Im _ _ a w ⟨rfl,rfl⟩ ab U
      replace U:=qS U
      refine aE ab U (ag (bI rfl)<|ag (aV gk rfl rfl (s':=0) aA)<|ah) fun a w ab U=>aH ab U rfl (c7 cl 8 rfl rfl rfl (row_one (U.own _ (List.mem_of_getElem? (i:=7) rfl)).1) (by simp)) ?_
      rintro _ _ _ a w ⟨rfl,rfl,rfl⟩ ab U
      replace U:aC _ (_::_) (_::_::_::_::_::_::_::_::.blk _ _ ([_,_,_,_,_,_,_].set 2 _)::_) _:=U
      simp only [List.set_cons_zero,List.set_cons_succ] at U
      replace U:=qS U
      refine wpList_nil (A6 _ _ ?_)
      refine bq ab U (ai rfl<|ai rfl<|bX rfl rfl<|ar rfl<|ah) fun a w ab U=>?_
      replace U:=U.ak ae (ae.n.n.n)
      refine ⟨(Iq,Im,(acc.1++[((aj.ep (aj.c4 S) S.s.length).getD m aj.cu).n],acc.2++[aj.p9 (aj.ep (aj.c4 S) S.s.length) m i]),m+i),?_,?_,ab.sub ⟨(by first | rfl | (show some (az _)=some (az _);congr 2;omega)),rfl,rfl,trivial⟩,?_⟩
      ·(try dsimp only);omega
      ·exact ⟨by omega,⟨nA.add (by omega) tO F8,by simp;omega⟩,by rw [← qJ,aj.zl qI,List.drop_drop];unfold aj.qm;rw [pK,if_neg (by simpa using Fz)]⟩
      ·(try dsimp only [List.set_cons_zero,List.set_cons_succ])
       rw [List.length_append,List.length_append,List.map_append,List.map_append]
       exact U
     ·refine wp_skip<|A6 _ _<|bq ab U (ai rfl<|ai rfl<|bX rfl rfl<|ar rfl<|ah) fun a w ab U=>?_
      replace U:=U.ak ae (ae.n)
      refine ⟨(un,ut,acc,m+i),?_,?_,ab.sub ⟨(by first | rfl | (show some (az _)=some (az _);congr 2;omega)),rfl,rfl,trivial⟩,?_⟩
      ·(try dsimp only);omega
      ·exact ⟨by omega,⟨nA.up (by omega),rJ⟩,by rw [← qJ,aj.zl qI,List.drop_drop];unfold aj.qm;rw [pK,if_pos (by simpa using Fz)]⟩
      ·exact U
  ·refine wp_exit<|tt _ _<|aB ab U (ai rfl<|ar rfl<|ar rfl<|ah) fun a w ab U=>wp_ret ?_
   replace U:=(((U.perm pw).perm mf).perm oH).perm px
   obtain rfl:m=S.s.length:=by omega
   exact cQ (rs:=[.tmp 2,.tmp 3]) rfl ab U (vs:=[_,_]) ⟨rfl,rfl,trivial⟩ [] [_,_,_,_,_,_] (ae.n) ae ⟨rfl,b6,_,_,_,_,rfl,rfl,(by rw [aj.Oc qJ];exact ⟨_,_,_,aj.RL bB nA rJ,rfl,rfl,rfl,rfl⟩)⟩
end
section
attribute [local irreducible] aK.sum aj.eW aj.aT aj.cU aj.bh aj.c8 aj.fX aj.app aj.eo
theorem afm(va po:Value)(xs:List (List UInt8))(w:World)(e8:bg Go.aJ.encS (b1 w) va xs)(gu:bg Go.aJ.encS (b1 w) po xs):ch Tryz.prog 37 [va,po] w (fun r _ _=>r=.bool true):=by
 have h:=Qg va po xs xs w e8 gu
 rw [decide_eq_true (rfl:xs=xs)] at h
 exact h
end
end Go.Proofs.YtngcjojijaknnaaGreatDoor
