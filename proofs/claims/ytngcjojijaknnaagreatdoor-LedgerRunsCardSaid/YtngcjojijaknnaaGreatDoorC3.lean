/- walks and plain laws -/
import Derived.Test.YtngcjojijaknnaaGreatDoorFwB
import Derived.Test.YtngcjojijaknnaaGreatDoorFwC
import Derived.Test.YtngcjojijaknnaaGreatDoorFwD
import Derived.Test.YtngcjojijaknnaaGreatDoorGuA
import Derived.Test.YtngcjojijaknnaaGreatDoorShW
import Derived.Test.YtngcjojijaknnaaGreatDoorFwG
import Derived.Test.YtngcjojijaknnaaGreatDoorMkA
import Derived.Test.YtngcjojijaknnaaGreatDoorLgA
import Derived.Test.YtngcjojijaknnaaGreatDoorC2
import Derived.Test.YtngcjojijaknnaaGreatDoorLlay2
set_option linter.all false
namespace Go.Proofs.YtngcjojijaknnaaGreatDoor
open Go.aJ
set_option maxRecDepth 4000
set_option maxHeartbeats 2000000
section
theorem b2 : a1 Tryz.prog 24 (.struct #[⟨ "Tick", 3, 0, false, "", "", 0⟩, ⟨ "Key", 9, 1, false, "", "", 8⟩, ⟨ "Value", 9, 2, false, "", "", 24⟩]) 3 40 (.agg ([Value.int .i64 0] ++ [Value.string ⟨(List.nil : List UInt8).toArray⟩, Value.string ⟨(List.nil : List UInt8).toArray⟩]).toArray) := ⟨Tryz.underlying24, by kernel_rfl⟩
theorem dv:a1 Tryz.prog 26 (.slice 24) 1 24 (Value.slice none 0 0):=⟨Tryz.underlying26,by kernel_rfl⟩
theorem zA:a1 Tryz.prog 29 (.slice 25) 1 24 (Value.slice none 0 0):=⟨Tryz.underlying29,by kernel_rfl⟩
theorem Wl:bU Tryz.prog 97:=bY Tryz.func97
attribute [local irreducible] aF.int aF.bytes aF.getInt aF.ef
theorem LC(f:aw.bO)(bw:aw.jK f)(w:World):ch Tryz.prog 13 [.agg [az f.tk,vs f.ky,vs f.vl].toArray] w (fun r _ _=>r=az (aw.valid f)):=by
 refine cI Tryz.func13 rfl Tryz.ntmps13 (Nat.le_of_ble_eq_true rfl) fun a ab U=>?_
 have vw:=bw.1
 have FD:=bw.2.1
 have FE:=bw.2.2
 refine a8 fun dW cR=>aH ab U rfl (iT rfl) ?_
 rintro _ _ _ a w ⟨b6,rfl,rfl,rfl⟩ ab U
 refine aE ab U (ar rfl<|ah) fun a w ab U=>wpList_nil (cR _ _ ?_)
 refine ax fun cm bD=>wp_block ?_
 refine a8 fun dH cf=>aE ab U (ag (aV b2 rfl rfl (s':=0) aA)<|ag (bc bG 0 rfl rfl rfl rfl)<|ag (cK rfl rfl)<|ai rfl<|ah) fun a w ab U=>fS 3 7 3 ab U rfl rfl rfl rfl rfl (fun aO=>have aO:=(by first | exact of_decide_eq_false aO | exact aO);aN 7 rfl rfl rfl (aV b2 rfl rfl (s':=0) aA)<|aN 7 rfl rfl rfl (bc bG 0 rfl rfl rfl rfl)<|aN 7 rfl rfl rfl (eQ rfl rfl)<|ah) rfl rfl fun a w ab U=>?_
 refine aE ab U (ai rfl<|ah) fun a w ab U=>fS 8 12 3 ab U rfl rfl rfl rfl rfl (fun aO=>have aO:=aO;aN 12 rfl rfl rfl (aV b2 rfl rfl (s':=0) aA)<|aN 12 rfl rfl rfl (bc bz 0 rfl rfl rfl rfl)<|aN 12 rfl rfl rfl (vX (q:=[]) rfl rfl)<|ah) rfl rfl fun a w ab U=>?_
 refine aE ab U (ar rfl<|ah) fun a w ab U=>wpList_nil (cf _ _ ?_)
 refine cX ab rfl (fun aS=>?_) (fun aS=>?_)
 ·(try simp only [c2] at aS)
  refine aB ab U (ar rfl<|ah) fun a w ab U=>wp_ret ?_
  exact bR (rs:=[.tmp 2]) rfl ab U (vs:=[_]) ⟨rfl,trivial⟩ ay ay (by rw [aw.Is aS])
 ·(try simp only [c2] at aS)
  refine a8 fun dw b3=>aE ab U (ag (aV b2 rfl rfl (s':=0) aA)<|ag (bc bz 0 rfl rfl rfl rfl)<|ag (hB bz rfl)<|ag (eQ rfl rfl)<|ai rfl<|ah) fun a w ab U=>fS 4 22 4 ab U rfl rfl rfl rfl rfl (fun aO=>have aO:=(by first | exact of_decide_eq_false aO | exact aO);aN 22 rfl rfl rfl (aV b2 rfl rfl (s':=0) aA)<|aN 22 rfl rfl rfl (bc bz 0 rfl rfl rfl rfl)<|aN 22 rfl rfl rfl (hB bz rfl)<|aN 22 rfl rfl rfl (eQ rfl rfl)<|ah) rfl rfl fun a w ab U=>?_
  refine aE ab U (ar rfl<|ah) fun a w ab U=>wpList_nil (b3 _ _ ?_)
  refine cX ab rfl (fun bs=>?_) (fun bs=>?_)
  ·(try simp only [c2] at bs)
   refine aB ab U (ar rfl<|ah) fun a w ab U=>wp_ret ?_
   exact bR (rs:=[.tmp 2]) rfl ab U (vs:=[_]) ⟨rfl,trivial⟩ ay ay (by rw [aw.It (aw.uH aS) (by omega)])
  ·(try simp only [c2] at bs)
   refine wp_skip<|bD _ _<|aB ab U (ar rfl<|ah) fun a w ab U=>wp_ret ?_
   exact bR (rs:=[.tmp 2]) rfl ab U (vs:=[_]) ⟨rfl,trivial⟩ ay ay (by rw [aw.Iu (aw.uH aS) (by omega)])
theorem PI(f:aw.bO)(bw:aw.jK f)(w:World):ch Tryz.prog 14 [.agg [az f.tk,vs f.ky,vs f.vl].toArray] w (fun r _ _=>r=az (aw.valid f)):=by
 refine cI Tryz.func14 rfl Tryz.ntmps14 (Nat.le_of_ble_eq_true rfl) fun a ab U=>?_
 have vw:=bw.1
 have FD:=bw.2.1
 have FE:=bw.2.2
 refine a8 fun dW cR=>aH ab U rfl (iT rfl) ?_
 rintro _ _ _ a w ⟨b6,rfl,rfl,rfl⟩ ab U
 refine aE ab U (ar rfl<|ah) fun a w ab U=>wpList_nil (cR _ _ ?_)
 refine ax fun cm bD=>a8 fun dH cf=>aE ab U (ag (aV b2 rfl rfl (s':=0) aA)<|ag (bc bG 0 rfl rfl rfl rfl)<|ag (cK rfl rfl)<|ai rfl<|ah) fun a w ab U=>fS 3 6 3 ab U rfl rfl rfl rfl rfl (fun aO=>have aO:=(by first | exact of_decide_eq_false aO | exact aO);aN 6 rfl rfl rfl (aV b2 rfl rfl (s':=0) aA)<|aN 6 rfl rfl rfl (bc bG 0 rfl rfl rfl rfl)<|aN 6 rfl rfl rfl (eQ rfl rfl)<|ah) rfl rfl fun a w ab U=>?_
 refine aE ab U (ai rfl<|ah) fun a w ab U=>fS 8 11 4 ab U rfl rfl rfl rfl rfl (fun aO=>have aO:=aO;aN 11 rfl rfl rfl (aV b2 rfl rfl (s':=0) aA)<|aN 11 rfl rfl rfl (bc bz 0 rfl rfl rfl rfl)<|aN 11 rfl rfl rfl (hB bz rfl)<|aN 11 rfl rfl rfl (fc rfl rfl)<|ah) rfl rfl fun a w ab U=>?_
 refine wpList_nil (cf _ _ ?_)
 refine cX ab rfl (fun aS=>?_) (fun aS=>?_)
 ·(try simp only [c2] at aS)
  refine aB ab U (ar rfl<|ah) fun a w ab U=>wp_ret ?_
  exact bR (rs:=[.tmp 2]) rfl ab U (vs:=[_]) ⟨rfl,trivial⟩ ay ay (by rw [aw.Is (by rw [aw.Iv] at aS;exact aS)])
 ·(try simp only [c2] at aS)
  refine wp_skip<|bD _ _<|ax fun dw b3=>a8 fun et cz=>aE ab U (ag (aV b2 rfl rfl (s':=0) aA)<|ag (bc bz 0 rfl rfl rfl rfl)<|ag (hB bz rfl)<|ag (eQ rfl rfl)<|ai rfl<|ah) fun a w ab U=>?_
  refine fS 4 21 4 ab U rfl rfl rfl rfl rfl (fun aO=>have aO:=(by first | exact of_decide_eq_false aO | exact aO);aN 21 rfl rfl rfl (aV b2 rfl rfl (s':=0) aA)<|aN 21 rfl rfl rfl (bc bz 0 rfl rfl rfl rfl)<|aN 21 rfl rfl rfl (hB bz rfl)<|aN 21 rfl rfl rfl (eQ rfl rfl)<|ah) rfl rfl fun a w ab U=>?_
  refine wpList_nil (cz _ _ ?_)
  refine cX ab rfl (fun bs=>?_) (fun bs=>?_)
  ·(try simp only [c2] at bs)
   refine aB ab U (ar rfl<|ah) fun a w ab U=>wp_ret ?_
   exact bR (rs:=[.tmp 2]) rfl ab U (vs:=[_]) ⟨rfl,trivial⟩ ay ay (by rw [aw.It (aw.uH (by rw [aw.Iv] at aS;exact aS)) (by omega)])
  ·(try simp only [c2] at bs)
   refine wp_skip<|b3 _ _<|aB ab U (ar rfl<|ah) fun a w ab U=>wp_ret ?_
   exact bR (rs:=[.tmp 2]) rfl ab U (vs:=[_]) ⟨rfl,trivial⟩ ay ay (by rw [aw.Iu (aw.uH (by rw [aw.Iv] at aS;exact aS)) (by omega)])
theorem aeC(f:aw.bO)(bw:aw.jK f)(hs:f.ky.length≤1048576∧f.vl.length≤1048576)(w:World):ch Tryz.prog 12 [.agg [az f.tk,vs f.ky,vs f.vl].toArray] w (fun v zs hs=>zs=[]∧hs=[.row v 5 1 (aw.enc f).length ((aw.enc f).map bf)]):=by
 refine cI Tryz.func12 rfl Tryz.ntmps12 (Nat.le_of_ble_eq_true rfl) fun a ab U=>?_
 have vw:=bw.1
 have oa:=aF.od f.tk
 have oc:=aF.rp f.ky
 have Gk:=aF.rp f.vl
 refine a8 fun dW cR=>aH ab U rfl (iT rfl) ?_
 rintro _ _ _ a w ⟨b6,rfl,rfl,rfl⟩ ab U
 refine aE ab U (ar rfl<|ah) fun a w ab U=>wpList_nil (cR _ _ ?_)
 refine ax fun cm bD=>?_
 revert U;revert ab;apply ho (J:=w1 (α0:=Value) (α1:=Value) (α2:=Value) (α3:=Value) (α4:=Value) 14 _ _ _ _ _) #[false,false,false,false,false,false,false,false,false,false,false,false] 12 mixed rfl rfl
 ·intro w ab U
  refine aR 0 rfl ab (U.ak ae ay) (aV b2 rfl rfl (s':=0) aA) fun a ab=>aR 1 rfl ab (U.ak ae ae) (bc bG 0 rfl rfl rfl rfl) fun a ab=>aR 3 rfl ab (U.ak ae ay) (aV b2 rfl rfl (s':=0) aA) fun a ab=>aR 4 rfl ab (U.ak ae ae) (bc bz 0 rfl rfl rfl rfl) fun a ab=>aR 7 rfl ab (U.ak ae ay) (aV b2 rfl rfl (s':=0) aA) fun a ab=>?_
  refine aR 8 rfl ab (U.ak ae ae) (bc bz 0 rfl rfl rfl rfl) fun a ab=>bW 2 rfl rfl ab U rfl (eB AR rfl (fun w U=>Cy _ (by omega) w )) ?_
  rintro zH _ _ a w ⟨_,_,rfl,rfl,rfl,rfl⟩ ab U
  refine ⟨⟨.inr (U.ea (ae.n)),.inr U.ax,.inr (U.ea (ae.n)),.inr U.ax,al,al,trivial⟩,?_⟩
  refine bW 5 rfl rfl ab U rfl (eB ED rfl (fun w U=>Ht _ (by first | with_reducible assumption | omega) w )) ?_
  rintro zI _ _ a w ⟨_,_,rfl,rfl,rfl,rfl⟩ ab U
  refine ⟨⟨.inr (U.ea (ae.n.n)),.inr U.ax,al,al,al,al,trivial⟩,?_⟩
  refine bW 6 rfl rfl ab U rfl (dB bS bF 1 rfl rfl rfl (eA bS (k:=0) rfl bJ) aI rfl (by decide)) ?_
  rintro Rh _ _ a w ⟨rfl,rfl⟩ ab U
  refine ⟨⟨.inr (U.ea (ae.n.n)),.inr U.ax,al,al,al,al,trivial⟩,?_⟩
  refine bW 9 rfl rfl ab U rfl (eB ED rfl (fun w U=>Ht _ (by first | with_reducible assumption | omega) w )) ?_
  rintro zJ _ _ a w ⟨_,_,rfl,rfl,rfl,rfl⟩ ab U
  refine ⟨⟨al,al,al,al,al,al,trivial⟩,?_⟩
  refine bW 10 rfl rfl ab U rfl (dB bS bF 2 rfl rfl rfl (eA bS (k:=0) rfl bJ) aI rfl (by decide)) ?_
  rintro zG _ _ a w ⟨rfl,rfl⟩ ab U
  refine ⟨⟨al,al,al,al,al,al,trivial⟩,?_⟩
  refine aR 11 rfl ab (U.ak ae ay) (lD rfl) fun a ab=>ei aA (vK zH zI Rh zJ zG (trivial) (ab.sub (L':=[(2,_)]) ⟨rfl,trivial⟩) U)
 rintro a w ⟨zH,zI,Rh,zJ,zG, -,ab,U⟩
 (try dsimp only at ab U)
 refine bD _ _<|wp_ret ?_
 replace U:=U.perm nj
 rw [← List.map_append,← List.map_append,← List.length_append,← List.length_append] at U
 exact bR (rs:=[.tmp 2]) rfl ab U (vs:=[_]) ⟨rfl,trivial⟩ ay ((ay.k)) ⟨rfl,rfl⟩
theorem afk(v1 v2:Value)(xa xb:List aw.bO)(w:World)(e8:bg Go.aJ.hv (b1 w) v1 xa)(gu:bg Go.aJ.hv (b1 w) v2 xb):ch Tryz.prog 32 [v1,v2] w (fun r _ _=>r=.bool (decide (xa=xb))):=by
 refine cI Tryz.func32 rfl Tryz.ntmps32 (Nat.le_of_ble_eq_true rfl) fun a ab U=>?_
 have Mk:=e8.1
 have tK:=gu.1
 refine aB ab U (ar rfl<|ah) fun a w ab U=>ax fun cm bD=>aB ab U (ai rfl<|ag (dL dv e8 rfl)<|ai rfl<|ag (dL dv gu rfl)<|ag (dM rfl rfl)<|ah) fun a w ab U=>eP ab rfl (fun aS=>?_) (fun aS=>?_)
 ·refine ax fun dP cq=>bq ab U (ar rfl<|ah) fun a w ab U=>cq _ _ ?_
  refine wp_ret<|bR (rs:=[.tmp 4]) rfl ab U (vs:=[_]) ⟨rfl,trivial⟩ ay ay (iw.HM aS)
 ·refine wp_skip<|bD _ _<|ax fun dw b3=>aB ab U (ar rfl<|ah) fun a w ab U=>wp_block ?_
  obtain ⟨bC,aZ,U⟩:=U.cT
  refine df (γ:=Int) (0) (fun (i:Int)=>[(5,az i)]) [(0,_),(1,_)] (fun (i:Int)=>bC) (fun (i:Int)=>0≤i∧i≤xa.length∧xa.take i.toNat=xb.take i.toNat) (fun (i:Int)=>(xa.length-i).toNat) (ab.sub ⟨rfl,rfl,rfl,trivial⟩) (by subst aZ;exact U) (by exact ⟨Int.le_refl _,by omega,rfl⟩) ?_
  rintro i a w ba ab U
  subst aZ;(try dsimp only at ba ab U)
  obtain ⟨eu,j8,kX⟩:=ba
  replace U:=hM U
  refine ax fun eU cO=>aB ab U (ai rfl<|ai rfl<|ag (dL dv e8 rfl)<|ag (cK rfl rfl)<|ah) fun a w ab U=>b9 ab rfl (fun bs=>?_) (fun bs=>?_)
  ·have rP:i<xb.length:=by omega
   refine wp_skip<|cO _ _<|ax fun fY dg=>wp_block ?_
   refine hZ mixed aA ab U (ai rfl<|ai rfl<|ag (dG dv b2 e8 rfl rfl (by omega))<|ag (Cj b2 e8 cD rfl rfl (by omega))<|ai rfl<|ai rfl<|ag (dG dv b2 gu rfl rfl (by omega))<|ag (Cj b2 gu cD rfl rfl (by omega))<|ag (adQ b2 bG bz ⟨rfl,rfl,by decide⟩ ⟨rfl,rfl,by decide⟩ ⟨rfl,rfl,by decide⟩ aA aA rfl rfl)<|ah) fun a w ab U=>eP ab rfl (fun b7=>?_) (fun b7=>?_)
   ·refine ax fun gQ dz=>bq ab U (ar rfl<|ah) fun a w ab U=>dz _ _ ?_
    refine wp_ret<|bR (rs:=[.tmp 4]) rfl ab U (vs:=[_]) ⟨rfl,trivial⟩ ay ay (iw.HN aw.f0 b7)
   ·refine wp_skip<|dg _ _<|bq ab U (ai rfl<|bX rfl rfl<|ar rfl<|ah) fun a w ab U=>⟨(i+1),?_,?_,ab.sub ⟨rfl,rfl,rfl,trivial⟩,?_⟩
    ·(try dsimp only);omega
    ·refine ⟨by omega,by omega,iw.HO aw.f0 eu (by omega) aS b7 kX⟩
    ·exact U
  ·refine wp_exit<|b3 _ _<|aB ab U (ar rfl<|ah) fun a w ab U=>wp_ret ?_
   exact bR (rs:=[.tmp 4]) rfl ab U (vs:=[_]) ⟨rfl,trivial⟩ ay ay (iw.HL aS bs kX)
theorem W3(n:Nat)(bA:n≤140737488355328)(w:World):ch Tryz.prog 97 [.slice none 0 0,az (n:Int)] w (fun v zs hs=>zs=[]∧hs=[.row v 5 1 0 []]):=W5 aaV bF rfl n bA w
theorem TV(v:Value)(xs:List (List UInt8))(hl:xs.length≤4)(aL:∀ x∈xs,x.length≤1099511627776)(w:World)(au:bg (u6 gE) (b1 w) v xs):ch Tryz.prog 56 [v] w (fun v zs hs=>zs=[]∧hs=[.row v 5 1 (xs.flatten).length ((xs.flatten).map bf)]):=by
 refine cI Tryz.func56 rfl Tryz.ntmps56 (Nat.le_of_ble_eq_true rfl) fun a ab U=>?_
 have cZ:=au.1
 have fb:=aw.D0 aL
 refine aB ab U (ar rfl<|ah) fun a w ab U=>aB ab U (ar rfl<|ah) fun a w ab U=>ax fun dH cf=>aB ab U (ai rfl<|ag (dL zA au rfl)<|ai rfl<|ah) fun a w ab U=>wp_block ?_
 obtain ⟨bC,aZ,U⟩:=U.cT
 refine df (γ:=Nat) (0) (fun (k:Nat)=>[(3,az ((xs.take k).flatten.length:Int)),(11,az (k:Int))]) [(0,_),(9,_),(10,_)] (fun (k:Nat)=>bC) (fun (k:Nat)=>k≤xs.length) (fun (k:Nat)=>xs.length-k) (ab.sub ⟨rfl,rfl,rfl,rfl,rfl,trivial⟩) (by subst aZ;exact U) (by exact Nat.zero_le _) ?_
 rintro k a w ba ab U
 subst aZ;(try dsimp only at ba ab U)
 have kD:=ba
 replace U:=hM U
 have L7:=fb k
 refine aB ab U (ag (cK rfl rfl)<|ah) fun a w ab U=>ax fun et cz=>b9 ab rfl (fun aS=>?_) (fun aS=>?_)
 ·have Bw:(List.take (k+1) xs).flatten.length=(List.take k xs).flatten.length+(xs.getD (k:Int).toNat []).length:=by rw [Int.toNat_natCast,aw.xw (by omega),List.length_append]
  have ajM:=fb (k+1)
  refine wp_skip<|cz _ _<|ax fun eU cO=>wp_block ?_
  refine aB ab U (ag (dG zA bS au rfl rfl (by omega))<|ag (OR bS au cD rfl rfl (by omega))<|ar rfl<|ah) fun a w ab U=>aB ab U (ai rfl<|ai rfl<|ag (dL bS (Kw au (by omega)) rfl)<|bX rfl rfl<|ar rfl<|ah) fun a w ab U=>aB ab U (ai rfl<|ag (cK rfl rfl)<|ah) fun a w ab U=>b9 ab rfl (fun bs=>?_) (fun bs=>?_)
  ·exfalso;omega
  ·refine wp_skip<|cO _ _<|bq ab U (bX rfl rfl<|ai rfl<|ah) fun a w ab U=>⟨(k+1),?_,?_,ab.sub ⟨(by show some (az _)=some (az _);rw [aw.xw (by omega),List.length_append,Int.toNat_natCast];congr 2),rfl,rfl,rfl,rfl,trivial⟩,?_⟩
   ·(try dsimp only);omega
   ·omega
   ·exact U
 ·refine wp_exit<|cf _ _<|a8 fun gQ dz=>aE ab U (ai rfl<|ah) fun a w ab U=>aH ab U rfl (eB Wl rfl (fun w U=>W3 _ (by omega) w )) ?_
  rintro v1 _ _ a w ⟨_,_,rfl,rfl,rfl,rfl⟩ ab U
  replace U:=eJ U
  refine aE ab U (ar rfl<|ah) fun a w ab U=>wpList_nil (dz _ _ ?_)
  refine ax fun iE eO=>aB ab U (ai rfl<|ag (dL zA au rfl)<|ai rfl<|ah) fun a w ab U=>wp_block ?_
  obtain ⟨bC,aZ,U⟩:=U.cT
  refine df (γ:=Value×Nat) (v1,0) (fun (u,j)=>[(6,u),(27,az (j:Int))]) [(25,_),(26,_)] (fun (u,j)=>(bC.set 0 (.row u 5 1 (xs.take j).flatten.length ((xs.take j).flatten.map bf)))) (fun (u,j)=>j≤xs.length) (fun (u,j)=>xs.length-j) (ab.sub ⟨rfl,rfl,rfl,rfl,trivial⟩) (by subst aZ;exact U) (by exact Nat.zero_le _) ?_
  rintro ⟨u,j⟩ a w ba ab U
  subst aZ;(try dsimp only at ba ab U)
  have rS:=ba
  replace U:=eJ U
  have ajK:=fb j
  refine aB ab U (ag (cK rfl rfl)<|ah) fun a w ab U=>ax fun jN fa=>b9 ab rfl (fun b7=>?_) (fun b7=>?_)
  ·have Gc:(List.take (j+1) xs).flatten.length=(List.take j xs).flatten.length+(xs.getD (j:Int).toNat []).length:=by rw [Int.toNat_natCast,aw.xw (by omega),List.length_append]
   have ajL:=fb (j+1)
   refine wp_skip<|fa _ _<|ax fun mc hh=>wp_block ?_
   refine aB ab U (ag (dG zA bS au rfl rfl (by omega))<|ag (OR bS au cD rfl rfl (by omega))<|ar rfl<|ah) fun a w ab U=>du ?_
   refine aE ab U (ai rfl<|ai rfl<|ah) fun a w ab U=>aH ab U rfl (dB bS bF 0 rfl rfl rfl (CJ bS (Kw au (by omega)) cD) aI rfl (by decide)) ?_
   rintro v3 _ _ a w ⟨rfl,rfl⟩ ab U
   replace U:=eJ U
   refine aE ab U (ar rfl<|ah) fun a w ab U=>wpList_nil (hh _ _ ?_)
   refine bq ab U (bX rfl rfl<|ai rfl<|ah) fun a w ab U=>⟨(v3,j+1),?_,?_,ab.sub ⟨rfl,rfl,rfl,rfl,trivial⟩,?_⟩
   ·(try dsimp only);omega
   ·omega
   ·rw [← List.map_append,← List.length_append,Int.toNat_natCast,← aw.xw (by omega)] at U
    exact U
  ·refine wp_exit<|eO _ _<|aB ab U (ai rfl<|ar rfl<|ah) fun a w ab U=>wp_ret ?_
   obtain rfl:j=xs.length:=by omega
   rw [List.take_length] at U
   exact bR (rs:=[.tmp 2]) rfl ab U (vs:=[_]) ⟨rfl,trivial⟩ ay ae ⟨rfl,rfl⟩
end
section
theorem zx:a1 Tryz.prog 107 (.pointer 9) 1 8 (Value.pointer none):=⟨Tryz.underlying107,by kernel_rfl⟩
theorem CT:a1 Tryz.prog 108 (.slice 107) 1 24 (Value.slice none 0 0):=⟨Tryz.underlying108,by kernel_rfl⟩
theorem KX:bU Tryz.prog 13:=bY Tryz.func13
theorem K1:bU Tryz.prog 14:=bY Tryz.func14
theorem V0:bU Tryz.prog 56:=bY Tryz.func56
theorem Lg:bU Tryz.prog 60:=bY Tryz.func60
theorem Li:bU Tryz.prog 62:=bY Tryz.func62
attribute [local irreducible] aF.int aF.bytes aF.getInt aF.ef
theorem UM(f:aw.bO)(bw:aw.jK f)(hs:f.ky.length≤1048576∧f.vl.length≤1048576)(w:World):ch Tryz.prog 16 [.agg [az f.tk,vs f.ky,vs f.vl].toArray] w (fun v zs hs=>zs=[]∧hs=[.row v 5 1 (aw.enc f).length ((aw.enc f).map bf)]):=by
 refine cI Tryz.func16 rfl Tryz.ntmps16 (Nat.le_of_ble_eq_true rfl) fun a ab U=>?_
 have vw:=bw.1
 have oa:=aF.od f.tk
 have oc:=aF.rp f.ky
 have Gk:=aF.rp f.vl
 have qK:∀ x∈[aF.int f.tk,aF.bytes f.ky,aF.bytes f.vl],x.length≤1099511627776:=fun x aL=>by
  simp only [List.mem_cons,List.not_mem_nil,or_false] at aL
  rcases aL with rfl | rfl | rfl <;> omega
 refine a8 fun dW cR=>aH ab U rfl (iT rfl) ?_
 rintro _ _ _ a w ⟨b6,rfl,rfl,rfl⟩ ab U
 refine aE ab U (ar rfl<|ah) fun a w ab U=>wpList_nil (cR _ _ ?_)
 refine ax fun cm bD=>?_
 revert U;revert ab;apply ho (J:=w1 (α0:=Value) (α1:=Value) (α2:=Value) (α3:=Value) (α4:=Value) 14 _ _ _ _ _) #[false,false,false,false,false,false,false,false,false,false,false,false] 12 mixed rfl rfl
 ·intro w ab U
  refine aR 0 rfl ab (U.ak ae ay) (aV b2 rfl rfl (s':=0) aA) fun a ab=>aR 1 rfl ab (U.ak ae ae) (bc bG 0 rfl rfl rfl rfl) fun a ab=>aR 3 rfl ab (U.ak ae ay) (aV b2 rfl rfl (s':=0) aA) fun a ab=>aR 4 rfl ab (U.ak ae ae) (bc bz 0 rfl rfl rfl rfl) fun a ab=>aR 6 rfl ab (U.ak ae ay) (aV b2 rfl rfl (s':=0) aA) fun a ab=>?_
  refine aR 7 rfl ab (U.ak ae ae) (bc bz 0 rfl rfl rfl rfl) fun a ab=>bW 2 rfl rfl ab U rfl (eB AS rfl (fun w U=>C7 _ w )) ?_
  rintro zH _ _ a w ⟨_,_,rfl,rfl,rfl,rfl⟩ ab U
  refine ⟨⟨.inr (U.ea (ae.n)),.inr U.ax,.inr (U.ea (ae.n)),.inr U.ax,al,al,trivial⟩,?_⟩
  refine bW 5 rfl rfl ab U rfl (eB EE rfl (fun w U=>Iw _ (by first | assumption | omega) w )) ?_
  rintro zI _ _ a w ⟨_,_,rfl,rfl,rfl,rfl⟩ ab U
  refine ⟨⟨.inr (U.ea (ae.n.n)),.inr U.ax,al,al,al,al,trivial⟩,?_⟩
  refine bW 8 rfl rfl ab U rfl (eB EE rfl (fun w U=>Iw _ (by first | assumption | omega) w )) ?_
  rintro Ri _ _ a w ⟨_,_,rfl,rfl,rfl,rfl⟩ ab U
  refine ⟨⟨al,al,al,al,al,al,trivial⟩,?_⟩
  refine fy [9] aA rfl ⟨?_,trivial⟩
  have akN:=(bn (row_one (U.own _ (List.mem_of_getElem? (i:=2) rfl)).1) (bn (row_one (U.own _ (List.mem_of_getElem? (i:=1) rfl)).1) (bn (row_one (U.own _ (List.mem_of_getElem? (i:=0) rfl)).1) dC)))
  refine dQ _ rfl rfl ab U rfl (dX zA bS rfl rfl (bn (row_one (U.own _ (List.mem_of_getElem? (i:=2) rfl)).1) (bn (row_one (U.own _ (List.mem_of_getElem? (i:=1) rfl)).1) (bn (row_one (U.own _ (List.mem_of_getElem? (i:=0) rfl)).1) dC))) (by decide) rfl rfl) ?_
  rintro zJ _ _ a w ⟨rfl,rfl⟩ ab U
  refine ⟨⟨al,al,al,al,al,al,trivial⟩,?_⟩
  refine bW 10 rfl rfl ab U rfl (eB V0 rfl (fun w U=>TV _ [aF.int f.tk,aF.bytes f.ky,aF.bytes f.vl] (by simp) qK w (acG (U.own _ (List.mem_of_getElem? (i:=0) rfl)).1 (k2 (U.own _ (List.mem_of_getElem? (i:=3) rfl)).1 (fun _ _=>trivial) rfl (by omega)) (k2 (U.own _ (List.mem_of_getElem? (i:=2) rfl)).1 (fun _ _=>trivial) rfl (by omega)) (k2 (U.own _ (List.mem_of_getElem? (i:=1) rfl)).1 (fun _ _=>trivial) rfl (by omega))))) ?_
  rintro zG _ _ a w ⟨_,_,rfl,rfl,rfl,rfl⟩ ab U
  refine ⟨⟨al,al,al,al,al,al,trivial⟩,?_⟩
  refine aR 11 rfl ab (U.ak ae ay) (lD rfl) fun a ab=>ei aA (vK zH zI Ri zJ zG (trivial) (ab.sub (L':=[(2,_)]) ⟨rfl,trivial⟩) U)
 rintro a w ⟨zH,zI,Ri,zJ,zG, -,ab,U⟩
 (try dsimp only at ab U)
 refine bD _ _<|wp_ret ?_
 rw [aw.UL] at U
 exact bR (rs:=[.tmp 2]) rfl ab U (vs:=[_]) ⟨rfl,trivial⟩ ay ((ay.k)) ⟨rfl,rfl⟩
theorem aeo(v:Value)(xs:List UInt8)(w:World)(au:bg gE (b1 w) v xs):ch Tryz.prog 19 [v] w (fun r _ _=>r=.tuple [.agg [az (aw.dec xs).1.tk,vs (aw.dec xs).1.ky,vs (aw.dec xs).1.vl].toArray,az (aw.dec xs).2].toArray):=by
 refine cI Tryz.func19 rfl Tryz.ntmps19 (Nat.le_of_ble_eq_true rfl) fun a ab U=>?_
 have cZ:=au.1
 have Mf:=aF.xI xs
 have yh:=aw.Ko cZ
 refine a8 fun dW cR=>aH ab U rfl (c1 b2) ?_
 rintro _ _ _ a w ⟨b6,rfl,rfl,rfl⟩ ab U
 refine aE ab U (ar rfl<|ah) fun a w ab U=>wpList_nil (cR _ _ ?_)
 refine aB ab U (ai rfl<|ag (bQ Lh rfl (fun w U=>PK _ _ w (bg.mono (U.le cD) au)) (fun _ _ _ h=>h))<|ai rfl<|ag (cE rfl rfl)<|ag (cE rfl rfl)<|ag (cE rfl rfl)<|ar rfl<|ar rfl<|ar rfl<|ah) fun a w ab U=>ax fun dH cf=>aB ab U (ai rfl<|ag (dM rfl rfl)<|ah) fun a w ab U=>eP ab rfl (fun aS=>?_) (fun aS=>?_)
 ·refine ax fun dw b3=>du ?_
  refine aE ab U (ag (hc (places:=[(0,1),(1,1),(2,1)]) (cells:=[.int .i64 0,.string ⟨(List.nil:List UInt8).toArray⟩,.string ⟨(List.nil:List UInt8).toArray⟩]) b2 aA rfl (by rfl))<|ai rfl<|ah) fun a w ab U=>aH ab U rfl (cA b2 0 rfl rfl rfl rfl aI (bn rfl (bn rfl (bn rfl dC))) aI) ?_
  rintro _ _ _ a w ⟨rfl,rfl,rfl⟩ ab U
  replace U:=eJ U
  refine aE ab U (ar rfl<|ah) fun a w ab U=>wpList_nil (b3 _ _ ?_)
  refine wp_ret<|bR (rs:=[.cell 2 24,.tmp 3]) rfl ab U (vs:=[_,_]) ⟨⟨_,_,_,_,_,_,_,rfl,List.mem_of_getElem? (i:=0) rfl,b2,.inl ⟨rfl,aI,rfl⟩⟩,rfl,trivial⟩ ay ay (by rw [aw.D8 aS];rfl)
 ·refine wp_skip<|cf _ _<|ax fun et cz=>bq ab U (ai rfl<|ai rfl<|ag (yY bS bF au rfl rfl (by omega))<|ag (bQ Li rfl (fun w U=>PJ _ _ w (bg.mono (U.le cD) (bg.cut au (by omega)))) (fun _ _ _ h=>h))<|ai rfl<|ag (cE rfl rfl)<|ag (cE rfl rfl)<|ag (cE rfl rfl)<|ar rfl<|ar rfl<|ar rfl<|ah) fun a w ab U=>?_
  rw [List.take_length] at ab
  refine cz _ _<|ax fun eU cO=>aB ab U (ai rfl<|ag (dM rfl rfl)<|ah) fun a w ab U=>eP ab rfl (fun bs=>?_) (fun bs=>?_)
  ·refine ax fun fY dg=>du ?_
   refine aE ab U (ag (hc (places:=[(0,1),(1,1),(2,1)]) (cells:=[.int .i64 0,.string ⟨(List.nil:List UInt8).toArray⟩,.string ⟨(List.nil:List UInt8).toArray⟩]) b2 aA rfl (by rfl))<|ai rfl<|ah) fun a w ab U=>aH ab U rfl (cA b2 0 rfl rfl rfl rfl aI (bn rfl (bn rfl (bn rfl dC))) aI) ?_
   rintro _ _ _ a w ⟨rfl,rfl,rfl⟩ ab U
   replace U:=eJ U
   refine aE ab U (ar rfl<|ah) fun a w ab U=>wpList_nil (dg _ _ ?_)
   refine wp_ret<|bR (rs:=[.cell 2 24,.tmp 3]) rfl ab U (vs:=[_,_]) ⟨⟨_,_,_,_,_,_,_,rfl,List.mem_of_getElem? (i:=0) rfl,b2,.inl ⟨rfl,aI,rfl⟩⟩,rfl,trivial⟩ ay ay (by rw [aw.D9 (by omega) bs];rfl)
  ·have Zb:=aw.xB (b:=xs) bs
   have yk:(aw.d1 xs).2.1=(aF.ef (List.drop (aF.getInt xs).2.1.toNat xs)).2.1:=rfl
   refine wp_skip<|cO _ _<|ax fun hE dS=>bq ab U (ai rfl<|ai rfl<|ai rfl<|bX rfl rfl<|ag (yY bS bF au rfl rfl (by omega))<|ag (bQ Li rfl (fun w U=>PJ _ _ w (bg.mono (U.le cD) (bg.cut au (by omega)))) (fun _ _ _ h=>h))<|ai rfl<|ag (cE rfl rfl)<|ag (cE rfl rfl)<|ag (cE rfl rfl)<|ar rfl<|ar rfl<|ar rfl<|ah) fun a w ab U=>?_
   rw [List.take_length] at ab
   refine dS _ _<|ax fun gQ dz=>aB ab U (ai rfl<|ag (dM rfl rfl)<|ah) fun a w ab U=>eP ab rfl (fun b7=>?_) (fun b7=>?_)
   ·refine ax fun iv eD=>du ?_
    refine aE ab U (ag (hc (places:=[(0,1),(1,1),(2,1)]) (cells:=[.int .i64 0,.string ⟨(List.nil:List UInt8).toArray⟩,.string ⟨(List.nil:List UInt8).toArray⟩]) b2 aA rfl (by rfl))<|ai rfl<|ah) fun a w ab U=>aH ab U rfl (cA b2 0 rfl rfl rfl rfl aI (bn rfl (bn rfl (bn rfl dC))) aI) ?_
    rintro _ _ _ a w ⟨rfl,rfl,rfl⟩ ab U
    replace U:=eJ U
    refine aE ab U (ar rfl<|ah) fun a w ab U=>wpList_nil (eD _ _ ?_)
    refine wp_ret<|bR (rs:=[.cell 2 24,.tmp 3]) rfl ab U (vs:=[_,_]) ⟨⟨_,_,_,_,_,_,_,rfl,List.mem_of_getElem? (i:=0) rfl,b2,.inl ⟨rfl,aI,rfl⟩⟩,rfl,trivial⟩ ay ay (by rw [aw.Ea (by omega) bs b7];rfl)
   ·have Zc:=aw.D6 (b:=xs) bs b7
    have vF:(aw.d2 xs).2.1=(aF.ef (List.drop ((aF.getInt xs).2.1+(aF.ef (List.drop (aF.getInt xs).2.1.toNat xs)).2.1).toNat xs)).2.1:=rfl
    refine wp_skip<|dz _ _<|a8 fun kM gr=>aE ab U (ai rfl<|ai rfl<|ai rfl<|ag (oq b2 3 aA rfl rfl (bn rfl (bn rfl (bn rfl dC))) rfl rfl)<|ah) fun a w ab U=>aH ab U rfl (c1 b2) ?_
    rintro _ _ _ a w ⟨dk,rfl,rfl,rfl⟩ ab U
    refine aH ab U rfl (cA b2 0 rfl rfl rfl rfl aI (bn rfl (bn rfl (bn rfl dC))) aI) ?_
    rintro _ _ _ a w ⟨rfl,rfl,rfl⟩ ab U
    replace U:=eK U
    refine wpList_nil (gr _ _ ?_)
    refine ax fun jN fa=>a8 fun mc hh=>aE ab U (ai rfl<|ai rfl<|bX rfl rfl<|ai rfl<|bX rfl rfl<|ai rfl<|ag (dL bS au rfl)<|ag (dM rfl rfl)<|ai rfl<|ah) fun a w ab U=>fS 8 62 3 ab U rfl rfl rfl rfl rfl (fun aO=>have aO:=(yI aO);aN 62 rfl rfl rfl (fW b2 0 rfl rfl aI rfl)<|aN 62 rfl rfl rfl (bQ K1 rfl (fun w U=>PI (aw.pD xs) yh w ) (fun _ _ _ h=>h))<|aN 62 rfl rfl rfl (dM rfl rfl)<|ah) rfl rfl fun a w ab U=>?_
    refine wpList_nil (hh _ _ ?_)
    refine cX ab rfl (fun dr=>?_) (fun dr=>?_)
    ·(try simp only [c2] at dr)
     refine a8 fun oE iW=>aE ab U (ag (hc (places:=[(0,1),(1,1),(2,1)]) (cells:=[.int .i64 0,.string ⟨(List.nil:List UInt8).toArray⟩,.string ⟨(List.nil:List UInt8).toArray⟩]) b2 aA rfl (by rfl))<|ah) fun a w ab U=>aH ab U rfl (cA b2 1 rfl rfl rfl rfl aI (bn rfl (bn rfl (bn rfl dC))) aI) ?_
     rintro _ _ _ a w ⟨rfl,rfl,rfl⟩ ab U
     replace U:=eK U
     refine aE ab U (ar rfl<|ah) fun a w ab U=>wpList_nil (iW _ _ ?_)
     refine wp_ret<|bR (rs:=[.cell 2 24,.tmp 3]) rfl ab U (vs:=[_,_]) ⟨⟨_,_,_,_,_,_,_,rfl,List.mem_of_getElem? (i:=1) rfl,b2,.inl ⟨rfl,aI,rfl⟩⟩,rfl,trivial⟩ ay ay (by rw [aw.Eb (by omega) bs b7 (by rcases dr with h | h;exact .inl (by omega);exact .inr h)];rfl)
    ·(try simp only [c2] at dr)
     refine wp_skip<|fa _ _<|a8 fun oF iX=>aE ab U (ag (fW b2 0 rfl rfl aI rfl)<|ah) fun a w ab U=>aH ab U rfl (cA b2 1 rfl rfl rfl rfl aI (bn rfl (bn rfl (bn rfl dC))) aI) ?_
     rintro _ _ _ a w ⟨rfl,rfl,rfl⟩ ab U
     replace U:=eK U
     refine aE ab U (ar rfl<|ah) fun a w ab U=>wpList_nil (iX _ _ ?_)
     refine wp_ret<|bR (rs:=[.cell 2 24,.tmp 3]) rfl ab U (vs:=[_,_]) ⟨⟨_,_,_,_,_,_,_,rfl,List.mem_of_getElem? (i:=1) rfl,b2,.inl ⟨rfl,aI,rfl⟩⟩,rfl,trivial⟩ ay ay (by rw [aw.Ec (by omega) bs b7 (fun h=>by rcases h with h | h;exact h dr.1;exact h dr.2)];rfl)
theorem T2(v:Value)(xs:List UInt8)(w:World)(au:bg gE (b1 w) v xs):ch Tryz.prog 18 [v] w (fun r _ _=>r=.tuple [.agg [az (aw.dec xs).1.tk,vs (aw.dec xs).1.ky,vs (aw.dec xs).1.vl].toArray,az (aw.dec xs).2].toArray):=by
 refine cI Tryz.func18 rfl Tryz.ntmps18 (Nat.le_of_ble_eq_true rfl) fun a ab U=>?_
 have cZ:=au.1
 have Mf:=aF.xI xs
 have yh:=aw.Ko cZ
 refine a8 fun dW cR=>aH ab U rfl (c1 b2) ?_
 rintro _ _ _ a w ⟨b6,rfl,rfl,rfl⟩ ab U
 refine aE ab U (ar rfl<|ah) fun a w ab U=>wpList_nil (cR _ _ ?_)
 refine aB ab U (ai rfl<|ag (bQ Lf rfl (fun w U=>RN _ _ w (bg.mono (U.le cD) au)) (fun _ _ _ h=>h))<|ai rfl<|ag (cE rfl rfl)<|ag (cE rfl rfl)<|ag (cE rfl rfl)<|ar rfl<|ar rfl<|ar rfl<|ah) fun a w ab U=>ax fun dH cf=>aB ab U (ai rfl<|ag (dM rfl rfl)<|ah) fun a w ab U=>eP ab rfl (fun aS=>?_) (fun aS=>?_)
 ·refine ax fun dw b3=>du ?_
  refine aE ab U (ag (hc (places:=[(0,1),(1,1),(2,1)]) (cells:=[.int .i64 0,.string ⟨(List.nil:List UInt8).toArray⟩,.string ⟨(List.nil:List UInt8).toArray⟩]) b2 aA rfl (by rfl))<|ai rfl<|ah) fun a w ab U=>aH ab U rfl (cA b2 0 rfl rfl rfl rfl aI (bn rfl (bn rfl (bn rfl dC))) aI) ?_
  rintro _ _ _ a w ⟨rfl,rfl,rfl⟩ ab U
  replace U:=eJ U
  refine aE ab U (ar rfl<|ah) fun a w ab U=>wpList_nil (b3 _ _ ?_)
  refine wp_ret<|bR (rs:=[.cell 2 24,.tmp 3]) rfl ab U (vs:=[_,_]) ⟨⟨_,_,_,_,_,_,_,rfl,List.mem_of_getElem? (i:=0) rfl,b2,.inl ⟨rfl,aI,rfl⟩⟩,rfl,trivial⟩ ay ay (by rw [aw.D8 aS];rfl)
 ·refine wp_skip<|cf _ _<|a8 fun et cz=>aE ab U (ai rfl<|ag (Hb b2 3 aA rfl rfl rfl (by decide))<|ah) fun a w ab U=>aH ab U rfl (c1 b2) ?_
  rintro _ _ _ a w ⟨dk,rfl,rfl,rfl⟩ ab U
  refine aH ab U rfl (cA b2 0 rfl rfl rfl rfl aI (bn rfl (bn rfl (bn rfl dC))) aI) ?_
  rintro _ _ _ a w ⟨rfl,rfl,rfl⟩ ab U
  replace U:=eK U
  refine wpList_nil (cz _ _ ?_)
  refine ax fun eU cO=>a8 fun e1 cF=>aE ab U (ag (aV b2 rfl rfl (s':=0) aA)<|ag (aV b2 rfl rfl (s':=0) aA)<|ah) fun a w ab U=>aH ab U rfl (dX CT zx rfl rfl bJ (by decide) rfl rfl) ?_
  rintro v3 _ _ a w ⟨rfl,rfl⟩ ab U
  replace U:=ez U
  refine aE ab U (ag (hX CT 0 rfl rfl)<|ai rfl<|ah) fun a w ab U=>wpList_nil (cF _ _ ?_)
  refine wp_block ?_
  obtain ⟨bC,aZ,U⟩:=U.cT
  refine df (γ:=Nat) (0) (fun (k:Nat)=>[(5,az (aw.at_ xs k)),(29,az (k:Int))]) [(0,_),(2,_),(7,_),(27,_),(28,_)] (fun (k:Nat)=>(bC.set 1 (.blk dk 24 [az (aw.AJ xs k).tk,vs (aw.AJ xs k).ky,vs (aw.AJ xs k).vl]))) (fun (k:Nat)=>k≤2∧(0<k→(aw.d1 xs).2.2=0)∧(1<k→(aw.d2 xs).2.2=0)) (fun (k:Nat)=>2-k) (ab.sub ⟨rfl,rfl,rfl,rfl,rfl,rfl,rfl,trivial⟩) (by subst aZ;exact U) (by exact ⟨Nat.zero_le _,fun h=>absurd h (by omega),fun h=>absurd h (by omega)⟩) ?_
  rintro k a w ba ab U
  subst aZ;(try dsimp only at ba ab U)
  obtain ⟨kD,qC,qD⟩:=ba
  replace U:=ez U
  have rJ:=aw.SN qC qD
  refine aB ab U (ag (cK rfl rfl)<|ah) fun a w ab U=>ax fun hE dS=>b9 ab rfl (fun bs=>?_) (fun bs=>?_)
  ·refine wp_skip<|dS _ _<|ax fun gQ dz=>wp_block ?_
   refine ax fun iE eO=>?_
   rcases (show k=0∨k=1 by omega) with rfl | rfl
   ·skip
    refine bq ab U (ag (ft CT zx 0 rfl rfl rfl (by omega))<|ag (yX zx 0 rfl rfl rfl rfl)<|ar rfl<|ah) fun a w ab U=>eO _ _ ?_
    refine ax fun iv eD=>bq ab U (ai rfl<|ai rfl<|ag (yY bS bF au rfl rfl (by omega))<|ag (bQ Lg rfl (fun w U=>RM _ _ w (bg.mono (U.le cD) (bg.cut au (by omega)))) (fun _ _ _ h=>h))<|ai rfl<|ag (cE rfl rfl)<|ag (cE rfl rfl)<|ag (cE rfl rfl)<|ar rfl<|ar rfl<|ar rfl<|ah) fun a w ab U=>?_
    rw [List.take_length] at ab
    refine eD _ _<|ax fun kM gr=>aB ab U (ai rfl<|ag (dM rfl rfl)<|ah) fun a w ab U=>eP ab rfl (fun b7=>?_) (fun b7=>?_)
    ·refine ax fun mc hh=>du ?_
     refine aE ab U (ag (hc (places:=[(0,1),(1,1),(2,1)]) (cells:=[.int .i64 0,.string ⟨(List.nil:List UInt8).toArray⟩,.string ⟨(List.nil:List UInt8).toArray⟩]) b2 aA rfl (by rfl))<|ai rfl<|ah) fun a w ab U=>aH ab U rfl (cA b2 2 rfl rfl rfl rfl aI (bn rfl (bn rfl (bn rfl dC))) aI) ?_
     rintro _ _ _ a w ⟨rfl,rfl,rfl⟩ ab U
     replace U:=ez U
     refine aE ab U (ar rfl<|ah) fun a w ab U=>wpList_nil (hh _ _ ?_)
     refine wp_ret<|bR (rs:=[.cell 2 24,.tmp 3]) rfl ab U (vs:=[_,_]) ⟨⟨_,_,_,_,_,_,_,rfl,List.mem_of_getElem? (i:=2) rfl,b2,.inl ⟨rfl,aI,rfl⟩⟩,rfl,trivial⟩ ay ay (by rw [aw.D9 (by omega) b7];rfl)
    ·have Zb:=aw.SO (b:=xs) b7
     refine wp_skip<|gr _ _<|du ?_
     refine aE ab U (ai rfl<|ai rfl<|ai rfl<|ai rfl<|bX rfl rfl<|ag (bI rfl)<|ah) fun a w ab U=>aH ab U rfl (c7 bz 1 rfl rfl rfl rfl (by simp)) ?_
     rintro _ _ _ a w ⟨rfl,rfl,rfl⟩ ab U
     replace U:aC _ [] [_,.blk _ _ ([_,_,_].set 1 _),_] _:=U
     simp only [List.set_cons_zero,List.set_cons_succ] at U
     replace U:=ez U
     refine aE ab U (ar rfl<|ah) fun a w ab U=>wpList_nil (dz _ _ ?_)
     refine bq ab U (bX rfl rfl<|ai rfl<|ah) fun a w ab U=>⟨(1),?_,?_,ab.sub ⟨rfl,rfl,rfl,rfl,rfl,rfl,rfl,trivial⟩,?_⟩
     ·(try dsimp only);omega
     ·first | exact ⟨by omega,fun _=>b7,fun h=>absurd h (by omega)⟩ | exact ⟨by omega,fun _=>qC (by omega),fun _=>dr⟩
     ·exact U
   ·skip
    refine bq ab U (ag (ft CT zx 0 rfl rfl rfl (by omega))<|ag (yX zx 0 rfl rfl rfl rfl)<|ar rfl<|ah) fun a w ab U=>eO _ _ ?_
    refine ax fun oE iW=>bq ab U (ai rfl<|ai rfl<|ag (yY bS bF au rfl rfl (by omega))<|ag (bQ Lg rfl (fun w U=>RM _ _ w (bg.mono (U.le cD) (bg.cut au (by omega)))) (fun _ _ _ h=>h))<|ai rfl<|ag (cE rfl rfl)<|ag (cE rfl rfl)<|ag (cE rfl rfl)<|ar rfl<|ar rfl<|ar rfl<|ah) fun a w ab U=>?_
    rw [List.take_length] at ab
    refine iW _ _<|ax fun oF iX=>aB ab U (ai rfl<|ag (dM rfl rfl)<|ah) fun a w ab U=>eP ab rfl (fun dr=>?_) (fun dr=>?_)
    ·refine ax fun pr jF=>du ?_
     refine aE ab U (ag (hc (places:=[(0,1),(1,1),(2,1)]) (cells:=[.int .i64 0,.string ⟨(List.nil:List UInt8).toArray⟩,.string ⟨(List.nil:List UInt8).toArray⟩]) b2 aA rfl (by rfl))<|ai rfl<|ah) fun a w ab U=>aH ab U rfl (cA b2 2 rfl rfl rfl rfl aI (bn rfl (bn rfl (bn rfl dC))) aI) ?_
     rintro _ _ _ a w ⟨rfl,rfl,rfl⟩ ab U
     replace U:=ez U
     refine aE ab U (ar rfl<|ah) fun a w ab U=>wpList_nil (jF _ _ ?_)
     refine wp_ret<|bR (rs:=[.cell 2 24,.tmp 3]) rfl ab U (vs:=[_,_]) ⟨⟨_,_,_,_,_,_,_,rfl,List.mem_of_getElem? (i:=2) rfl,b2,.inl ⟨rfl,aI,rfl⟩⟩,rfl,trivial⟩ ay ay (by rw [aw.Ea (by omega) (qC (by omega)) dr];rfl)
    ·have Zc:=aw.SP (b:=xs) (qC (by omega)) dr
     refine wp_skip<|iX _ _<|du ?_
     refine aE ab U (ai rfl<|ai rfl<|ai rfl<|ai rfl<|bX rfl rfl<|ag (bI rfl)<|ah) fun a w ab U=>aH ab U rfl (c7 bz 1 rfl rfl rfl rfl (by simp)) ?_
     rintro _ _ _ a w ⟨rfl,rfl,rfl⟩ ab U
     replace U:aC _ [] [_,.blk _ _ ([_,_,_].set 2 _),_] _:=U
     simp only [List.set_cons_zero,List.set_cons_succ] at U
     replace U:=ez U
     refine aE ab U (ar rfl<|ah) fun a w ab U=>wpList_nil (dz _ _ ?_)
     refine bq ab U (bX rfl rfl<|ai rfl<|ah) fun a w ab U=>⟨(2),?_,?_,ab.sub ⟨rfl,rfl,rfl,rfl,rfl,rfl,rfl,trivial⟩,?_⟩
     ·(try dsimp only);omega
     ·first | exact ⟨by omega,fun _=>b7,fun h=>absurd h (by omega)⟩ | exact ⟨by omega,fun _=>qC (by omega),fun _=>dr⟩
     ·exact U
  ·obtain rfl:k=2:=by omega
   have ajB:aw.at_ xs 2=(aF.getInt xs).2.1+(aw.d1 xs).2.1+(aw.d2 xs).2.1:=rfl
   refine wp_exit<|cO _ _<|ax fun sK lS=>a8 fun sL mo=>aE ab U (ai rfl<|ai rfl<|ag (dL bS au rfl)<|ag (dM rfl rfl)<|ai rfl<|ah) fun a w ab U=>?_
   refine fS 4 56 3 ab U rfl rfl rfl rfl rfl (fun aO=>have aO:=(yI aO);aN 56 rfl rfl rfl (fW b2 1 rfl rfl aI rfl)<|aN 56 rfl rfl rfl (bQ KX rfl (fun w U=>LC (aw.AJ xs 2) yh w ) (fun _ _ _ h=>h))<|aN 56 rfl rfl rfl (dM rfl rfl)<|ah) rfl rfl fun a w ab U=>?_
   refine wpList_nil (mo _ _ ?_)
   refine cX ab rfl (fun dm=>?_) (fun dm=>?_)
   ·(try simp only [c2] at dm)
    refine a8 fun Ds tp=>aE ab U (ag (hc (places:=[(0,1),(1,1),(2,1)]) (cells:=[.int .i64 0,.string ⟨(List.nil:List UInt8).toArray⟩,.string ⟨(List.nil:List UInt8).toArray⟩]) b2 aA rfl (by rfl))<|ah) fun a w ab U=>aH ab U rfl (cA b2 2 rfl rfl rfl rfl aI (bn rfl (bn rfl (bn rfl dC))) aI) ?_
    rintro _ _ _ a w ⟨rfl,rfl,rfl⟩ ab U
    replace U:=ez U
    refine aE ab U (ar rfl<|ah) fun a w ab U=>wpList_nil (tp _ _ ?_)
    refine wp_ret<|bR (rs:=[.cell 2 24,.tmp 3]) rfl ab U (vs:=[_,_]) ⟨⟨_,_,_,_,_,_,_,rfl,List.mem_of_getElem? (i:=2) rfl,b2,.inl ⟨rfl,aI,rfl⟩⟩,rfl,trivial⟩ ay ay (by rw [aw.Eb (by omega) (qC (by omega)) (qD (by omega)) (by rcases dm with h | h;exact .inl (by omega);exact .inr h)];rfl)
   ·(try simp only [c2] at dm)
    refine wp_skip<|lS _ _<|a8 fun R9 Fh=>aE ab U (ag (fW b2 1 rfl rfl aI rfl)<|ah) fun a w ab U=>aH ab U rfl (cA b2 2 rfl rfl rfl rfl aI (bn rfl (bn rfl (bn rfl dC))) aI) ?_
    rintro _ _ _ a w ⟨rfl,rfl,rfl⟩ ab U
    replace U:=ez U
    refine aE ab U (ar rfl<|ah) fun a w ab U=>wpList_nil (Fh _ _ ?_)
    refine wp_ret<|bR (rs:=[.cell 2 24,.tmp 3]) rfl ab U (vs:=[_,_]) ⟨⟨_,_,_,_,_,_,_,rfl,List.mem_of_getElem? (i:=2) rfl,b2,.inl ⟨rfl,aI,rfl⟩⟩,rfl,trivial⟩ ay ay (by rw [aw.Ec (by omega) (qC (by omega)) (qD (by omega)) (fun h=>by rcases h with h | h;exact h dm.1;exact h dm.2)];rfl)
end
section
theorem hD:a1 Tryz.prog 45 (.pointer 119) 1 8 (Value.pointer none):=⟨Tryz.underlying45,by kernel_rfl⟩
theorem nc : a1 Tryz.prog 119 (.struct #[⟨ "journal", 97, 0, false, "", "culprit/ledger", 0⟩, ⟨ "facts", 26, 1, false, "", "culprit/ledger", 8⟩]) 2 32 (.agg ([Value.pointer none] ++ [Value.slice none 0 0]).toArray) := ⟨Tryz.underlying119, by kernel_rfl⟩
theorem QQ:a1 Tryz.prog 135 (.map 9 9) 1 8 (Value.map none):=⟨Tryz.underlying135,by kernel_rfl⟩
theorem V2:bU Tryz.prog 65:=bY Tryz.func65
theorem AT:bU Tryz.prog 73:=bY Tryz.func73
theorem U9:bU Tryz.prog 111:=bY Tryz.func111
theorem Va:bU Tryz.prog 112:=bY Tryz.func112
theorem Ax(b:Nat)(pj v:Value)(l:List aw.bO)(w:World){bt:TypeId}{fz:Nat×Nat}(hl:w.heap[b]?=some (.cells [pj,v].toArray bt fz))(au:bg Go.aJ.hv (b1 w) v l):ch Tryz.prog 33 [.pointer (some ⟨b,0,none⟩)] w (fun r _ _=>r=az (aw.clock l)):=by
 refine cI Tryz.func33 rfl Tryz.ntmps33 (Nat.le_of_ble_eq_true rfl) fun a ab U=>?_
 have cZ:=au.1
 refine aB ab U (ar rfl<|ah) fun a w ab U=>ax fun cm bD=>aB ab U (ai rfl<|ag (p1 hD rfl rfl)<|ai rfl<|aN 5 rfl rfl rfl (bE rfl)<|aN 5 rfl rfl rfl (bI rfl)<|aN 5 rfl rfl rfl (aV nc rfl rfl (s':=0) aA)<|aN 5 rfl rfl rfl (iC dv rfl hl rfl rfl)<|aN 5 rfl rfl rfl (dL dv au rfl)<|aN 5 rfl rfl rfl (fc rfl rfl)<|ag (hY rfl rfl)<|ah) fun a w ab U=>b9 ab rfl (fun aS=>?_) (fun aS=>?_)
 ·refine ax fun dP cq=>bq ab U (ar rfl<|ah) fun a w ab U=>cq _ _ ?_
  refine wp_ret<|bR (rs:=[.tmp 2]) rfl ab U (vs:=[_]) ⟨rfl,trivial⟩ ay ay (by rw [aw.JV aS])
 ·refine wp_skip<|bD _ _<|hZ mixed aA ab U (ai rfl<|ag (bI rfl)<|ag (aV nc rfl rfl (s':=0) aA)<|ag (iC dv rfl hl rfl rfl)<|ai rfl<|ag (bI rfl)<|ag (aV nc rfl rfl (s':=0) aA)<|ag (iC dv rfl hl rfl rfl)<|ag (dL dv au rfl)<|e2 rfl rfl<|ag (dG dv b2 au rfl rfl (by omega))<|ag (p2 b2 au rfl (by omega) rfl (s':=0) aA)<|ag (yV bG au cD rfl rfl (by omega))<|ar rfl<|ah) fun a w ab U=>wp_ret ?_
  exact bR (rs:=[.tmp 2]) rfl ab U (vs:=[_]) ⟨rfl,trivial⟩ ay ay (by rw [aw.JW aS])
theorem afx(n m:Nat)(fv:Value)(q:Int→Prop)(p:Int→Bool)(bA:n≤1048576)(hm:m≤n)(cn:∀ i:Int,0≤i→i<n→q i)(bN:∀ k:Int,0≤k→k<n→p k=decide ((m:Int)≤k))(w:World)(bw:sI Tryz.prog w fv q p):ch Tryz.prog 111 [az (n:Int),fv] w (fun r _ _=>r=az (m:Int)):=by
 refine cI Tryz.func111 rfl Tryz.ntmps111 (Nat.le_of_ble_eq_true rfl) fun a ab U=>aB ab U (ar rfl<|ah) fun a w ab U=>aB ab U (ai rfl<|ar rfl<|ar rfl<|ah) fun a w ab U=>ax fun dH cf=>wp_block ?_
 obtain ⟨bC,aZ,U⟩:=U.cT
 refine df (γ:=Int×Int) (0,n) (fun (i,j)=>[(5,az i),(6,az j)]) [(1,_)] (fun (i,j)=>bC) (fun (i,j)=>0≤i∧i≤m∧m≤j∧j≤n) (fun (i,j)=>(j-i).toNat) (ab.sub ⟨rfl,rfl,rfl,trivial⟩) (by subst aZ;exact U) (by omega) ?_
 rintro ⟨i,j⟩ a w ba ab U
 subst aZ;(try dsimp only at ba ab U)
 obtain ⟨eu,aj7,akH,x5⟩:=ba
 replace U:=hM U
 refine ax fun dP cq=>aB ab U (ai rfl<|ai rfl<|ag (cK rfl rfl)<|ah) fun a w ab U=>b9 ab rfl (fun aS=>?_) (fun aS=>?_)
 ·refine wp_skip<|cq _ _<|wp_block ?_
  refine ax fun et cz=>bq ab U (ai rfl<|ai rfl<|bX rfl rfl<|ag (yU bG Ig rfl)<|ag (wa rfl rfl (by omega))<|ag (Cf Ig bG rfl)<|ar rfl<|ah) fun a w ab U=>?_
  rw [bo.abD (by omega) (by omega)] at ab
  refine cz _ _<|aB ab U (ai rfl<|ai rfl<|ag (adr bw rfl rfl (cn _ (by omega) (by omega)))<|ag (fC rfl)<|ah) fun a w ab U=>cX ab rfl (fun bs=>?_) (fun bs=>?_)
  ·refine bq ab U (ai rfl<|bX rfl rfl<|ar rfl<|ah) fun a w ab U=>⟨((i+j)/2+1,j),?_,?_,ab.sub ⟨rfl,rfl,rfl,trivial⟩,?_⟩
   ·(try dsimp only);omega
   ·have pN:=bN ((i+j)/2) (by omega) (by omega)
    rw [show p ((i+j)/2)=false by simpa using bs] at pN
    have Zd:=of_decide_eq_false pN.symm
    omega
   ·exact U
  ·refine bq ab U (ai rfl<|ar rfl<|ah) fun a w ab U=>⟨(i,(i+j)/2),?_,?_,ab.sub ⟨rfl,rfl,rfl,trivial⟩,?_⟩
   ·(try dsimp only);omega
   ·have pN:=bN ((i+j)/2) (by omega) (by omega)
    rw [show p ((i+j)/2)=true by simpa using bs] at pN
    have Zd:=of_decide_eq_true pN.symm
    omega
   ·exact U
 ·refine wp_exit<|cf _ _<|aB ab U (ai rfl<|ar rfl<|ah) fun a w ab U=>wp_ret ?_
  exact bR (rs:=[.tmp 4]) rfl ab U (vs:=[_]) ⟨rfl,trivial⟩ ay ay (by rw [show i=(m:Int) by omega])
theorem agV(b:Nat)(pj v:Value)(l:List aw.bO)(bK bV:Nat)(tick i:Int){u0 Ti:TypeId}{vh WQ:Nat×Nat}(aG:0≤i∧i<l.length)(w:World)(e8:w.heap[bK]?=some (.cells [Value.pointer (some ⟨b,0,none⟩)].toArray u0 vh)){bt:TypeId}{fz:Nat×Nat}(hl:w.heap[b]?=some (.cells [pj,v].toArray bt fz))(au:bg Go.aJ.hv (b1 w) v l)(gu:w.heap[bV]?=some (.cells [az tick].toArray Ti WQ)):ch Tryz.prog 112 [az i,.pointer (some ⟨bK,0,none⟩),.pointer (some ⟨bV,0,none⟩)] w (fun r _ _=>r=.bool (decide (tick<(l.getD i.toNat aw.f0).tk))):=by
 refine cI Tryz.func112 rfl Tryz.ntmps112 (Nat.le_of_ble_eq_true rfl) fun a ab U=>?_
 have cZ:=au.1
 refine aB ab U (ar rfl<|ah) fun a w ab U=>hZ mixed aA ab U (ag (iC hD rfl e8 rfl rfl)<|ag (bI rfl)<|ag (aV nc rfl rfl (s':=0) aA)<|ag (iC dv rfl hl rfl rfl)<|ai rfl<|ag (dG dv b2 au rfl rfl (by omega))<|ag (p2 b2 au rfl (by omega) rfl (s':=0) aA)<|ag (yV bG au cD rfl rfl (by omega))<|ag (iC bG rfl gu rfl rfl)<|ag (eQ rfl rfl)<|ar rfl<|ah) fun a w ab U=>wp_ret ?_
 exact bR (rs:=[.tmp 4]) rfl ab U (vs:=[_]) ⟨rfl,trivial⟩ ay ay (rfl)
theorem Q4(b:Nat)(pj v:Value)(l:List aw.bO)(tick:Int)(fG:l.Pairwise (fun f g=>f.tk≤g.tk))(vD:l.length≤1048576)(w:World){bt:TypeId}{fz:Nat×Nat}(hl:w.heap[b]?=some (.cells [pj,v].toArray bt fz))(au:bg Go.aJ.hv (b1 w) v l):ch Tryz.prog 73 [.pointer (some ⟨b,0,none⟩),az tick] w (fun r _ _=>r=k5 v 3 0 (aw.bh l tick)):=by
 refine cI Tryz.func73 rfl Tryz.ntmps73 (Nat.le_of_ble_eq_true rfl) fun a ab U=>?_
 have cZ:=au.1
 have fb:=aw.Az l tick
 refine a8 fun dW cR=>aH ab U rfl (m0 rfl rfl) ?_
 rintro _ _ _ a w ⟨b6,rfl,rfl,rfl⟩ ab U
 refine aH ab U rfl (m0 rfl rfl) ?_
 rintro _ _ _ a w ⟨dk,rfl,rfl,rfl⟩ ab U
 refine aE ab U (ar rfl<|ah) fun a w ab U=>wpList_nil (cR _ _ ?_)
 refine ax fun cm bD=>aB ab U (ag (bc hD 1 rfl rfl rfl rfl)<|ag (p1 hD rfl rfl)<|ah) fun a w ab U=>cX ab rfl (fun h=>absurd h (by simp)) (fun _=>?_)
 refine wp_skip<|bD _ _<|hZ mixed aA ab U (ag (bc hD 1 rfl rfl rfl rfl)<|ag (bI rfl)<|ag (aV nc rfl rfl (s':=0) aA)<|ag (iC dv rfl hl rfl rfl)<|ag (bc hD 1 rfl rfl rfl rfl)<|ag (bI rfl)<|ag (aV nc rfl rfl (s':=0) aA)<|ag (iC dv rfl hl rfl rfl)<|ag (dL dv au rfl)<|ag (sk rfl rfl)<|ag (bQ U9 rfl (fun w U=>afx l.length (aw.bh l tick) _ (fun x=>0≤x∧x<l.length) (fun x=>decide (tick<(l.getD x.toNat aw.f0).tk)) (by omega) (by omega) (fun i h1 aq=>⟨h1,aq⟩) (aw.TP fG tick) w ⟨112,[],[_,_],rfl,Va,fun w' hle cv cn=>agV _ _ _ _ _ _ _ _ cn w' (hle _ _ (kj U 1 rfl)) (hle _ _ (U.ext _ _ hl)) (bg.mono (aP.BN (U.le cD) hle) au) (hle _ _ (kj U 0 rfl))⟩) (fun _ _ _ h=>h))<|ag (Hn dv b2 au rfl rfl (by omega))<|ar rfl<|ah) fun a w ab U=>wp_ret ?_
 exact bR (rs:=[.tmp 4]) rfl ab U (vs:=[_]) ⟨rfl,trivial⟩ ay ay (rfl)
theorem TF(v:Value)(l:List aw.bO)(hl:l.length<1048576)(w:World)(au:bg Go.aJ.hv (b1 w) v l):ch Tryz.prog 65 [v] w (fun r zs hs=>zs=[]∧hs=[.row r 24 3 (l).length ((l).flatMap aw.j4)]):=by
 refine cI Tryz.func65 rfl Tryz.ntmps65 (Nat.le_of_ble_eq_true rfl) fun a ab U=>?_
 have cZ:=au.1
 refine aB ab U (ar rfl<|ah) fun a w ab U=>ax fun cm bD=>aB ab U (ai rfl<|ag (OL dv au rfl rfl)<|ah) fun a w ab U=>cX ab rfl (fun aS=>?_) (fun aS=>?_)
 ·obtain rfl:=N2 au aS
  refine ax fun dP cq=>bq ab U (ar rfl<|ah) fun a w ab U=>?_
  replace U:=U.hV 24 3
  refine cq _ _<|wp_ret ?_
  exact bR (rs:=[.tmp 2]) rfl ab U (vs:=[_]) ⟨rfl,trivial⟩ ay ae ⟨rfl,rfl⟩
 ·refine wp_skip<|bD _ _<|a8 fun dw b3=>aH ab U rfl (u5 dv b2) ?_
  rintro v1 _ _ a w ⟨rfl,rfl⟩ ab U
  replace U:=eJ U
  refine aE ab U (ai rfl<|ah) fun a w ab U=>aH ab U rfl (dB dv b2 0 rfl rfl rfl (af3 dv au cD (by decide)) aI rfl (by decide)) ?_
  rintro v3 _ _ a w ⟨rfl,rfl⟩ ab U
  replace U:=eJ U
  refine aE ab U (ar rfl<|ah) fun a w ab U=>wpList_nil ?_
  replace U:=U.CD (Nat.zero_add _) (List.nil_append _)
  refine b3 _ _<|wp_ret ?_
  exact bR (rs:=[.tmp 2]) rfl ab U (vs:=[_]) ⟨rfl,trivial⟩ ay ae ⟨rfl,rfl⟩
theorem Em(b:Nat)(pj v:Value)(l:List aw.bO)(vD:l.length<1048576)(w:World){bt:TypeId}{fz:Nat×Nat}(hl:w.heap[b]?=some (.cells [pj,v].toArray bt fz))(au:bg Go.aJ.hv (b1 w) v l):ch Tryz.prog 26 [.pointer (some ⟨b,0,none⟩)] w (fun r zs hs=>zs=[]∧hs=[.row r 24 3 (l).length ((l).flatMap aw.j4)]):=by
 refine cI Tryz.func26 rfl Tryz.ntmps26 (Nat.le_of_ble_eq_true rfl) fun a ab U=>?_
 have cZ:=au.1
 refine aB ab U (ar rfl<|ah) fun a w ab U=>ax fun cm bD=>aB ab U (ai rfl<|ag (p1 hD rfl rfl)<|ah) fun a w ab U=>cX ab rfl (fun h=>absurd h (by simp)) (fun _=>?_)
 refine wp_skip<|bD _ _<|a8 fun dP cq=>aE ab U (ai rfl<|ag (bI rfl)<|ag (aV nc rfl rfl (s':=0) aA)<|ag (iC dv rfl hl rfl rfl)<|ah) fun a w ab U=>aH ab U rfl (eB V2 rfl (fun w U=>TF _ _ (by omega) w (bg.mono (U.le cD) au))) ?_
 rintro v1 _ _ a w ⟨_,_,rfl,rfl,⟨rfl,rfl⟩⟩ ab U
 replace U:=eJ U
 refine aE ab U (ar rfl<|ah) fun a w ab U=>wpList_nil (cq _ _ ?_)
 refine wp_ret<|bR (rs:=[.tmp 2]) rfl ab U (vs:=[_]) ⟨rfl,trivial⟩ ay ae ⟨rfl,rfl⟩
theorem Ng(b:Nat)(pj v:Value)(l:List aw.bO)(tick:Int)(fG:l.Pairwise (fun f g=>f.tk≤g.tk))(vD:l.length≤1048576)(w:World){bt:TypeId}{fz:Nat×Nat}(hl:w.heap[b]?=some (.cells [pj,v].toArray bt fz))(au:bg Go.aJ.hv (b1 w) v l):ch Tryz.prog 69 [.pointer (some ⟨b,0,none⟩),az tick] w (fun r zs hs=>∃ bm es ec,r=.map (some bm)∧zs=[]∧hs=[.mp bm es ec]∧j0 vs (aw.lW (aw.hq l tick) (aw.hq l tick).length) es ec):=by
 refine cI Tryz.func69 rfl Tryz.ntmps69 (Nat.le_of_ble_eq_true rfl) fun a ab U=>?_
 have cZ:=au.1
 have ZM:=Q3 (l:=l) (t:=tick)
 refine aB ab U (ar rfl<|ah) fun a w ab U=>a8 fun cm bD=>aH ab U rfl (AE) ?_
 rintro _ _ _ a w ⟨b6,rfl,rfl,rfl⟩ ab U
 replace U:=eJ U
 refine aE ab U (ar rfl<|ah) fun a w ab U=>wpList_nil (bD _ _ ?_)
 refine ax fun dH cf=>aB ab U (ai rfl<|ai rfl<|ag (bQ AT rfl (fun w U=>Q4 _ _ _ _ _ fG vD w (U.ext _ _ hl) (bg.mono (U.le cD) au)) (fun _ _ _ h=>h))<|ag (dL dv (CX au) rfl)<|ai rfl<|ah) fun a w ab U=>wp_block ?_
 obtain ⟨bC,aZ,U⟩:=U.cT
 refine df (γ:=List MapEntry×Nat×Nat) ([],0,0) (fun (es,ec,k)=>[(13,az (k:Int))]) [(5,_),(11,_),(12,_)] (fun (es,ec,k)=>(bC.set 0 (.mp b6 es ec))) (fun (es,ec,k)=>k≤(aw.hq l tick).length∧j0 vs (aw.lW (aw.hq l tick) k) es ec) (fun (es,ec,k)=>(aw.hq l tick).length-k) (ab.sub ⟨rfl,rfl,rfl,rfl,trivial⟩) (by subst aZ;exact U) (by exact ⟨Nat.zero_le _,j0.nil⟩) ?_
 rintro ⟨es,ec,k⟩ a w ba ab U
 subst aZ;(try dsimp only at ba ab U)
 obtain ⟨kD,L3⟩:=ba
 replace U:=eJ U
 refine aB ab U (ag (cK rfl rfl)<|ah) fun a w ab U=>ax fun et cz=>b9 ab rfl (fun aS=>?_) (fun aS=>?_)
 ·refine wp_skip<|cz _ _<|ax fun eU cO=>wp_block ?_
  refine a8 fun e1 cF=>aE ab U (ag (dG dv b2 (CX au) rfl rfl (by omega))<|ag (Cj b2 (CX au) cD rfl rfl (by omega))<|ah) fun a w ab U=>aH ab U rfl (c1 b2) ?_
  rintro _ _ _ a w ⟨kz,rfl,rfl,rfl⟩ ab U
  refine aH ab U rfl (cA b2 0 rfl rfl rfl rfl aI (bn rfl (bn rfl (bn rfl dC))) aI) ?_
  rintro _ _ _ a w ⟨rfl,rfl,rfl⟩ ab U
  replace U:=eK U
  refine wpList_nil (cF _ _ ?_)
  refine du<|aE ab U (ai rfl<|ag (aV b2 rfl rfl (s':=0) aA)<|ag (bc bz 0 rfl rfl rfl rfl)<|ag (aV b2 rfl rfl (s':=0) aA)<|ag (bc bz 0 rfl rfl rfl rfl)<|ah) fun a w ab U=>aH ab U rfl (Eh QQ (MZ bz) 1 rfl rfl rfl rfl L3 (fun _ _=>trivial) trivial) ?_
  rintro _ _ _ a w ⟨UP,Uw,hx,rfl,rfl,rfl⟩ ab U
  replace U:=eK U
  refine wpList_nil (cO _ _ ?_)
  refine bq ab U (bX rfl rfl<|ai rfl<|ah) fun a w ab U=>?_
  replace U:=U.ak ay (ae.n)
  refine ⟨(UP,Uw,k+1),?_,?_,ab.sub ⟨rfl,rfl,rfl,rfl,trivial⟩,?_⟩
  ·(try dsimp only);omega
  ·exact ⟨by omega,by rw [aw.BV (by omega)];exact hx⟩
  ·exact U
 ·refine wp_exit<|cf _ _<|aB ab U (ai rfl<|ar rfl<|ah) fun a w ab U=>wp_ret ?_
  obtain rfl:k=(aw.hq l tick).length:=by omega
  exact bR (rs:=[.tmp 4]) rfl ab U (vs:=[_]) ⟨rfl,trivial⟩ ay ae ⟨_,_,_,rfl,rfl,rfl,L3⟩
end
section
theorem K7:bU Tryz.prog 23:=bY Tryz.func23
theorem V1:bU Tryz.prog 64:=bY Tryz.func64
theorem EG:bU Tryz.prog 69:=bY Tryz.func69
theorem EH:bU Tryz.prog 70:=bY Tryz.func70
theorem EI:bU Tryz.prog 71:=bY Tryz.func71
theorem U4:bU Tryz.prog 100:=bY Tryz.func100
theorem afV:Go.Proofs.AnyZ.SortsIn Tryz.prog Nr Fence.wide 4:=⟨fun blk off cap ss W E7 Fv dZ=>callsIn_wide.2 (Go.Proofs.AnyM.slices_Sort_string Nt blk off cap ss W E7 Fv dZ),fun p cap W=>callsIn_wide.2 (Go.Proofs.AnyM.slices_Sort_string_none Nt p cap W)⟩
theorem GB(b:Nat)(w:World):ch Tryz.prog 71 [.map (some b)] w (fun r zs hs=>∃ e,r=.func (.func 107) (List.nil:List Value).toArray [Value.pointer (some ⟨e,0,none⟩)].toArray∧zs=[]∧hs=[.blk e 135 [.map (some b)]]):=by
 refine cI Tryz.func71 rfl Tryz.ntmps71 (Nat.le_of_ble_eq_true rfl) fun a ab U=>a8 fun dW cR=>aH ab U rfl (m0 rfl rfl) ?_
 rintro _ _ _ a w ⟨b6,rfl,rfl,rfl⟩ ab U
 refine aE ab U (ar rfl<|ah) fun a w ab U=>wpList_nil (cR _ _ ?_)
 refine aB ab U (ag (sk rfl rfl)<|ar rfl<|ah) fun a w ab U=>wp_ret ?_
 exact bR (rs:=[.tmp 2]) rfl ab U (vs:=[_]) ⟨rfl,trivial⟩ ae ae ⟨_,rfl,rfl,rfl⟩
theorem HY{l:List (List UInt8×Value)}{es:List MapEntry}{c e b:Nat}(fA:j0 vs l es c)(bA:(l.map (·.1)).Nodup)(aD:∀ i∈l.map (·.1),i.length≤maxLen)(hl:l.length≤4096)(w0:World)(bP:List aP):eH Tryz.prog 70 [.func (.func 107) (List.nil:List Value).toArray [Value.pointer (some ⟨e,0,none⟩)].toArray] w0 bP [.blk e 135 [.map (some b)],.mp b es c] (fun v dj cV=>dj=[]∧cV=[.row v 9 1 ((l.map (·.1)).mergeSort (fun x y=>decide (x≤y))).length (((l.map (·.1)).mergeSort (fun x y=>decide (x≤y))).map vs),.blk e 135 [.map (some b)],.mp b es c]):=afR aba abi afV 9 rfl rfl Tryz.underlying9 (Go.Proofs.enters_of Tryz.func106 aA rfl) (Go.Proofs.enters_of Tryz.func107 aA rfl) fA bA aD hl w0 bP
theorem M4(b:Nat)(pj v:Value)(l:List aw.bO)(tick:Int)(fG:l.Pairwise (fun f g=>f.tk≤g.tk))(vD:l.length≤512)(w:World){bt:TypeId}{fz:Nat×Nat}(hl:w.heap[b]?=some (.cells [pj,v].toArray bt fz))(au:bg Go.aJ.hv (b1 w) v l):ch Tryz.prog 35 [.pointer (some ⟨b,0,none⟩),az tick] w (fun r zs hs=>zs=[]∧hs=[.row r 9 1 (aw.keys l tick).length ((aw.keys l tick).map vs)]):=by
 refine cI Tryz.func35 rfl Tryz.ntmps35 (Nat.le_of_ble_eq_true rfl) fun a ab U=>?_
 have cZ:=au.1
 refine aB ab U (ar rfl<|ah) fun a w ab U=>a8 fun cm bD=>aE ab U (ai rfl<|ai rfl<|ah) fun a w ab U=>aH ab U rfl (eB EG rfl (fun w U=>Ng _ _ _ _ _ fG (by omega) w (U.ext _ _ hl) (bg.mono (U.le cD) au))) ?_
 rintro _ _ _ a w ⟨_,_,rfl,rfl,⟨DV,UQ,Ux,rfl,rfl,rfl,XF⟩⟩ ab U
 replace U:=eJ U
 refine aH ab U rfl (eB EI rfl (fun w U=>GB _ w )) ?_
 rintro _ _ _ a w ⟨_,_,rfl,rfl,⟨Tm,rfl,rfl,rfl⟩⟩ ab U
 replace U:=eK U
 refine aH ab U rfl (dy EH rfl (List.Perm.refl _) (by exact (HY (by assumption) (aw.M3 l tick) (aw.M1 (xi au) tick) (aw.M0 (by omega) tick) _ _  (b:=DV)))) ?_
 rintro sz _ _ a w ⟨_,_,rfl,rfl,⟨rfl,rfl⟩⟩ ab U
 replace U:=ez U
 refine aE ab U (ar rfl<|ah) fun a w ab U=>wpList_nil ?_
 rw [aw.M7 fG] at U
 refine bD _ _<|wp_ret ?_
 exact bR (rs:=[.tmp 4]) rfl ab U (vs:=[_]) ⟨rfl,trivial⟩ ay (ay.k) ⟨rfl,rfl⟩
theorem SW(v:Value)(bx:v.oneCell'=true)(w:World):ch Tryz.prog 64 [v] w (fun r zs hs=>∃ b6,r=.func (.func 100) (List.nil:List Value).toArray [Value.pointer (some ⟨b6,0,none⟩)].toArray∧zs=[]∧hs=[.blk b6 26 [v]]):=by
 refine cI Tryz.func64 rfl Tryz.ntmps64 (Nat.le_of_ble_eq_true rfl) fun a ab U=>a8 fun dW cR=>aH ab U rfl (m0 rfl bx) ?_
 rintro _ _ _ a w ⟨b6,rfl,rfl,rfl⟩ ab U
 refine aE ab U (ar rfl<|ah) fun a w ab U=>wpList_nil (cR _ _ ?_)
 refine aB ab U (ag (sk rfl rfl)<|ar rfl<|ah) fun a w ab U=>wp_ret ?_
 exact bR (rs:=[.tmp 2]) rfl ab U (vs:=[_]) ⟨rfl,trivial⟩ ae ae ⟨_,rfl,rfl,rfl⟩
theorem Tk(b6:Nat)(v:Value)(xs:List aw.bO)(Y:Value)(z:aP)(w0:World)(bP zst:List aP)(cw:List av)(inv:Nat→Prop)(R:av→av→Prop)(ra rb:av)(bj:gp w0 bP z)(au:bg hv z v xs)(h0:inv 0)(kC:∀ k,k<xs.length→inv k→uQ Tryz.prog Y (aw.JP xs k) (aC w0 bP (.blk b6 26 [v]::ra::rb::cw)) fun b w'=>if b=true then inv (k+1)∧aC w0 bP (.blk b6 26 [v]::ra::rb::cw) w' else ∃ wh wi,R wh wi∧aC w0 zst (.blk b6 26 [v]::wh::wi::cw) w'):IJ Tryz.prog 100 [Y,Value.pointer (some ⟨b6,0,none⟩)] w0 bP zst [.blk b6 26 [v],ra,rb] cw (fun b cV=>if b=true then cV=[.blk b6 26 [v],ra,rb]∧inv xs.length else ∃ wh wi,cV=[.blk b6 26 [v],wh,wi]∧R wh wi):=by
 refine Wp Tryz.func100 rfl Tryz.ntmps100 (Nat.le_of_ble_eq_true rfl) fun a w ab U=>?_
 replace U:=k0 U
 have cZ:=au.1
 refine aB ab U (ag (bc dv 0 rfl rfl rfl rfl)<|ag (dL dv au rfl)<|e2 rfl rfl<|ar rfl<|ah) fun a w ab U=>wp_block ?_
 obtain ⟨bC,aZ,U⟩:=U.cT
 refine df (γ:=Nat) (0) (fun (k:Nat)=>[(3,az ((xs.length:Int)-1-k))]) [(0,_),(1,_)] (fun (k:Nat)=>bC) (fun (k:Nat)=>k≤xs.length∧inv k) (fun (k:Nat)=>xs.length-k) (ab.sub ⟨(by show some (az _)=some (az _);congr 2;omega),rfl,rfl,trivial⟩) (by subst aZ;exact U) (by exact ⟨Nat.zero_le _,h0⟩) ?_
 rintro k a w ba ab U
 subst aZ;(try dsimp only at ba ab U)
 obtain ⟨kD,iB⟩:=ba
 replace U:=k0 U
 refine ax fun cm bD=>aB ab U (ai rfl<|ag (jH rfl rfl)<|ah) fun a w ab U=>b9 ab rfl (fun aS=>?_) (fun aS=>?_)
 ·refine wp_skip<|bD _ _<|ax fun dP cq=>wp_block ?_
  refine ax fun dw b3=>Cx 6 rfl ?_
  refine aE ab U (ai rfl<|ai rfl<|ag (bc dv 0 rfl rfl rfl rfl)<|ai rfl<|ag (dG dv b2 au rfl rfl (by omega))<|ag (Cj b2 au bj rfl rfl (by omega))<|ah) fun a w ab U=>pT ?_
  have rZ:=kC k (by omega) iB
  refine ahA (ys:=[_,_]) (by rfl) rfl ab U rfl rfl rZ ?_
  clear ab U;intro bb a w ab ej
  rcases bb with _ | _
  ·skip
   rw [if_neg (by simp)] at ej
   obtain ⟨am3,am5,XO,U⟩:=ej
   refine q5 rfl ab U (ag (fC rfl)<|ah) fun a w ab U=>wpListIn_nil ?_
   refine b3 _ _<|cX ab rfl (fun _=>?_) (fun h=>absurd h (by simp))
   refine wp_ret<|Ws false rfl rfl ab U [_,_,_] (by simp) ae (by rw [if_neg (by simp)];exact ⟨_,_,rfl,XO⟩)
  ·skip
   rw [if_pos rfl] at ej
   obtain ⟨tG,U⟩:=ej
   refine q5 rfl ab U (ag (fC rfl)<|ah) fun a w ab U=>wpListIn_nil ?_
   refine b3 _ _<|cX ab rfl (fun h=>absurd h (by simp)) (fun _=>?_)
   refine wp_skip<|cq _ _<|bq ab U (ai rfl<|e2 rfl rfl<|ar rfl<|ah) fun a w ab U=>⟨(k+1),?_,?_,ab.sub ⟨(by show some (az _)=some (az _);congr 2;omega),rfl,rfl,trivial⟩,?_⟩
   ·(try dsimp only);omega
   ·exact ⟨by omega,tG⟩
   ·exact U
 ·obtain rfl:k=xs.length:=by omega
  refine wp_exit ?_
  -- falls off the end
  exact Wq true rfl rfl ab U [_,_,_] (by simp) ae (by rw [if_pos rfl];exact ⟨rfl,iB⟩)
theorem Nf(v:Value)(l:List aw.bO)(tick:Int)(key:List UInt8)(w:World)(au:bg Go.aJ.hv (b1 w) v l):ch Tryz.prog 23 [v,az tick,vs key] w (fun r _ _=>r=.tuple [vs (aw.dN l tick key).1,.bool (aw.dN l tick key).2].toArray):=by
 refine EK Tryz.func23 rfl Tryz.ntmps23 (Nat.le_of_ble_eq_true rfl) fun a ab U=>?_
 have cZ:=au.1
 refine a8 fun dW cR=>aH ab U rfl (m0 rfl rfl) ?_
 rintro _ _ _ a w ⟨b6,rfl,rfl,rfl⟩ ab U
 refine aH ab U rfl (m0 rfl rfl) ?_
 rintro _ _ _ a w ⟨dk,rfl,rfl,rfl⟩ ab U
 refine aH ab U rfl (u4 bz (by rfl)) ?_
 rintro _ _ _ a w ⟨kz,rfl,rfl,rfl⟩ ab U
 refine aH ab U rfl (u4 fg (by rfl)) ?_
 rintro _ _ _ a w ⟨xr,rfl,rfl,rfl⟩ ab U
 refine wpList_nil (cR _ _ ?_)
 refine ax fun cm bD=>a8 fun dH cf=>aE ab U (ai rfl<|ah) fun a w ab U=>aH ab U rfl (eB V1 rfl (fun w U=>SW _ (mL au) w )) ?_
 rintro _ _ _ a w ⟨_,_,rfl,rfl,⟨bK,rfl,rfl,rfl⟩⟩ ab U
 replace U:=mC U
 refine wpList_nil (cf _ _ ?_)
 refine wp_block ?_
 obtain ⟨bC,aZ,U⟩:=U.cT
 obtain ⟨jO,iY,ab⟩:∃ l,l=_∧Fr _ l _:=⟨_,rfl,ab⟩
 refine aho (ps:=[12,13]) (γ:=List UInt8×Bool) (ξ:=Nat) (fun r=>(bC.set 1 (.blk xr 4 [.bool r.2])).set 2 (.blk kz 9 [vs r.1])) (fun (k:Nat) (r:List UInt8×Bool)=>r=([],false)∧(aw.dN l tick key)=(aw.dN (l.take (l.length-k)) tick key)) (fun r=>(aw.dN l tick key)=r) (l.length) (fun k=>aw.JP l k) (([],false)) (fun k r x=>(9,.pointer (some ⟨x,0,none⟩))::(13,.agg [az (l.getD ((l.length:Int)-1-k).toNat aw.f0).tk,vs (l.getD ((l.length:Int)-1-k).toNat aw.f0).ky,vs (l.getD ((l.length:Int)-1-k).toNat aw.f0).vl].toArray)::(12,az ((l.length:Int)-1-k))::jO) (fun k r x=>.blk x 24 [az (l.getD ((l.length:Int)-1-k).toNat aw.f0).tk,vs (l.getD ((l.length:Int)-1-k).toNat aw.f0).ky,vs (l.getD ((l.length:Int)-1-k).toNat aw.f0).vl]::(bC.set 1 (.blk xr 4 [.bool r.2])).set 2 (.blk kz 9 [vs r.1])) ab (by subst aZ;exact U) (by subst iY;rfl) rfl (fun _=>rfl) (U4) (⟨rfl,by rw [Nat.sub_zero,List.take_length]⟩) (fun ro GL jl dD mA mJ a w oX iG ab U=>?_) (fun Y dj zst tZ ML kC w U=>?_) (fun BM lV jl dD mA mJ gV a w oX iG ab U=>?_) (fun I D dD a w mJ il mn dh iG ab U=>?_) (fun I D dD a w mJ il mn dh iG ab U=>?_)
 ·subst aZ iY
  (try dsimp only [kx] at ab);(try dsimp only [List.set_cons_zero,List.set_cons_succ] at U)
  replace U:aC _ [_,_] [_,_,_,_,_] _:=U
  obtain ⟨rfl,vz⟩:=iG
  replace U:aC _ [_,_] [_,_,_,_,_] _:=U
  refine wj (by rfl) ?_
  refine aH ab U rfl (c1 b2) ?_
  rintro _ _ _ a w ⟨JH,rfl,rfl,rfl⟩ ab U
  refine aH ab U rfl (cA b2 0 rfl rfl rfl rfl aI (bn rfl (bn rfl (bn rfl dC))) aI) ?_
  rintro _ _ _ a w ⟨rfl,rfl,rfl⟩ ab U
  replace U:aC _ [_,_] [_,_,_,_,_,_] _:=U
  refine pT<|⟨rfl,_,ab,U⟩
 ·subst aZ iY
  refine Calls.mono (Tk bK _ l Y _ _ dj zst _ (fun k=>(aw.dN l tick key)=(aw.dN (l.take (l.length-k)) tick key)) (fun ra rb=>∃ r:List UInt8×Bool,(aw.dN l tick key)=r∧ra=.blk xr 4 [.bool r.2]∧rb=.blk kz 9 [vs r.1]) _ _ cD au (by rw [Nat.sub_zero,List.take_length]) (fun k aD aG=>(kC k ([],false) aD ⟨rfl,aG⟩).mono fun b w' ej=>?_) w U) fun e w' xP=>?_
  ·cases b with
   | true=>rw [if_pos rfl] at ej ⊢;obtain ⟨eR,⟨rfl,h1⟩,aq⟩:=ej;exact ⟨h1,aq⟩
   | false=>rw [if_neg (by simp)] at ej ⊢;obtain ⟨eR,h1,aq⟩:=ej;exact ⟨_,_,⟨eR,h1,rfl,rfl⟩,aq⟩
  ·obtain ⟨b,v9,pQ,rfl,A8,A7⟩:=xP
   refine ⟨⟨_,rfl⟩,?_⟩
   cases b with
   | true=>rw [if_pos rfl] at A7 A8;obtain ⟨rfl,h1⟩:=A7;exact .inl ⟨([],false),⟨rfl,h1⟩,A8⟩
   | false=>rw [if_neg (by simp)] at A7 A8;obtain ⟨wh,wi,rfl,mJ,h1,rfl,rfl⟩:=A7;exact .inr ⟨mJ,h1,A8⟩
 ·subst aZ iY
  (try dsimp only [kx] at ab);(try dsimp only [List.set_cons_zero,List.set_cons_succ] at U)
  replace U:aC _ [_,_] [_,_,_,_,_,_] _:=U
  obtain ⟨rfl,vz⟩:=iG
  replace U:aC _ [_,_] [_,_,_,_,_,_] _:=U
  refine wpIn_block<|wpIn_seq_k ?_;intro dP cq
  refine wj (by rfl) ?_
  refine aE ab U (ag (aV b2 rfl rfl (s':=0) aA)<|ag (bc bz 0 rfl rfl rfl rfl)<|ag (bc bz 4 rfl rfl rfl rfl)<|ag (vX rfl rfl)<|ai rfl<|ah) fun a w ab U=>jJ 4 18 4 ab U rfl rfl rfl rfl rfl (fun aO=>have aO:=(by first | exact of_decide_eq_true aO | exact aO);aN 18 rfl rfl rfl (aV b2 rfl rfl (s':=0) aA)<|aN 18 rfl rfl rfl (bc bG 0 rfl rfl rfl rfl)<|aN 18 rfl rfl rfl (bc bG 5 rfl rfl rfl rfl)<|aN 18 rfl rfl rfl (vZ rfl rfl)<|ah) rfl rfl fun a w ab U=>?_
  refine pT<|cq _ _<|ahm ab rfl (fun aS=>?_) (fun aS=>?_)
  ·(try simp only [c2] at aS)
   refine wpIn_seq_k ?_;intro dw b3
   refine wj (by rfl) ?_
   refine aE ab U (ag (aV b2 rfl rfl (s':=0) aA)<|ag (bc bz 0 rfl rfl rfl rfl)<|ah) fun a w ab U=>aH ab U rfl (c7 bz 3 rfl rfl rfl rfl (by simp)) ?_
   rintro _ _ _ a w ⟨rfl,rfl,rfl⟩ ab U
   (try simp only [List.set_cons_zero,List.set_cons_succ] at U)
   replace U:aC _ [_,_] [_,_,_,_,_,_] _:=U
   refine aH ab U rfl (c7 fg 2 rfl rfl rfl rfl (by simp)) ?_
   rintro _ _ _ a w ⟨rfl,rfl,rfl⟩ ab U
   (try simp only [List.set_cons_zero,List.set_cons_succ] at U)
   replace U:aC _ [_,_] [_,_,_,_,_,_] _:=U
   refine pT<|b3 _ _<|wpIn_ret ?_
   exact .inr ⟨rfl,_,aw.aau oX vz aS,U.ak ae (List.sublist_cons_self _ _)⟩
  ·(try simp only [c2] at aS)
   refine wpIn_skip<|.inl ⟨rfl,([],false),⟨rfl,aw.aav oX vz (fun h=>by rcases aS with h1 | h1;exact h1 h.1;exact h1 h.2)⟩,U.ak ae (List.sublist_cons_self _ _)⟩
 ·subst aZ iY
  (try dsimp only [kx] at ab);(try dsimp only [List.set_cons_zero,List.set_cons_succ] at U)
  replace U:=qQ U
  exact AU [] mn dh (by simp) (by simp) (by simp) (rs:=[.cell 6 9,.cell 7 4]) rfl ab U (vs:=[_,_]) ⟨⟨_,_,_,_,_,_,_,rfl,List.mem_of_getElem? (i:=2) rfl,bz,.inr ⟨rfl,rfl⟩⟩,⟨_,_,_,_,_,_,_,rfl,List.mem_of_getElem? (i:=1) rfl,fg,.inr ⟨rfl,rfl⟩⟩,trivial⟩ (fun W U=>⟨[],[],U.ak ay ay,by rw [iG]⟩)
 subst aZ iY
 (try dsimp only [kx] at ab);(try dsimp only [List.set_cons_zero,List.set_cons_succ] at U)
 replace U:=qQ U
 obtain ⟨rfl,vz⟩:=iG
 rw [Nat.sub_self] at vz
 replace U:=qQ U
 refine bD _ _<|a8 fun et cz=>aH ab U rfl (c7 bz 2 rfl rfl rfl rfl (by simp)) ?_
 rintro _ _ _ a w ⟨rfl,rfl,rfl⟩ ab U
 (try simp only [List.set_cons_zero,List.set_cons_succ] at U)
 replace U:=qQ U
 refine aH ab U rfl (c7 fg 1 rfl rfl rfl rfl (by simp)) ?_
 rintro _ _ _ a w ⟨rfl,rfl,rfl⟩ ab U
 (try simp only [List.set_cons_zero,List.set_cons_succ] at U)
 replace U:=qQ U
 refine wpList_nil (cz _ _ ?_)
 refine wp_ret<|AU [] mn dh (by simp) (by simp) (by simp) (rs:=[.cell 6 9,.cell 7 4]) rfl ab U (vs:=[_,_]) ⟨⟨_,_,_,_,_,_,_,rfl,List.mem_of_getElem? (i:=2) rfl,bz,.inr ⟨rfl,rfl⟩⟩,⟨_,_,_,_,_,_,_,rfl,List.mem_of_getElem? (i:=1) rfl,fg,.inr ⟨rfl,rfl⟩⟩,trivial⟩ (fun W U=>⟨[],[],U.ak ay ay,by rw [vz];rfl⟩)
theorem xp(b:Nat)(pj v:Value)(l:List aw.bO)(tick:Int)(key:List UInt8)(fG:l.Pairwise (fun f g=>f.tk≤g.tk))(vD:l.length≤512)(w:World){bt:TypeId}{fz:Nat×Nat}(hl:w.heap[b]?=some (.cells [pj,v].toArray bt fz))(au:bg Go.aJ.hv (b1 w) v l):ch Tryz.prog 38 [.pointer (some ⟨b,0,none⟩),az tick,vs key] w (fun r _ _=>r=.tuple [vs (aw.dN l tick key).1,.bool (aw.dN l tick key).2].toArray):=by
 refine cI Tryz.func38 rfl Tryz.ntmps38 (Nat.le_of_ble_eq_true rfl) fun a ab U=>?_
 have cZ:=au.1
 refine aB ab U (ar rfl<|ar rfl<|ah) fun a w ab U=>aB ab U (ai rfl<|ai rfl<|ag (bQ AT rfl (fun w U=>Q4 _ _ _ _ _ fG (by omega) w (U.ext _ _ hl) (bg.mono (U.le cD) au)) (fun _ _ _ h=>h))<|ai rfl<|ai rfl<|ag (bQ K7 rfl (fun w U=>Nf _ _ _ _ w (bg.mono (U.le cD) (CX au))) (fun _ _ _ h=>h))<|ag (cE rfl rfl)<|ag (cE rfl rfl)<|ar rfl<|ar rfl<|ah) fun a w ab U=>wp_ret ?_
 exact bR (rs:=[.tmp 6,.tmp 7]) rfl ab U (vs:=[_,_]) ⟨rfl,rfl,trivial⟩ ay ay (by rw [aw.Nd fG])
end
section
theorem VJ:bU Tryz.prog 18:=bY Tryz.func18
theorem VY:bU Tryz.prog 52:=bY Tryz.func52
theorem VZ:bU Tryz.prog 53:=bY Tryz.func53
theorem V4:bU Tryz.prog 68:=bY Tryz.func68
theorem U5:bU Tryz.prog 104:=bY Tryz.func104
attribute [local irreducible] aF.int aF.bytes aF.getInt aF.ef aK.sum aj.eW aj.aT aj.cU aj.bh aj.c8 aj.fX aj.app aj.eo aw.dec
theorem agm(v:Value)(bx:v.oneCell'=true)(w:World):ch Tryz.prog 68 [v] w (fun r zs hs=>∃ b6,r=.func (.func 104) (List.nil:List Value).toArray [Value.pointer (some ⟨b6,0,none⟩)].toArray∧zs=[]∧hs=[.blk b6 40 [v]]):=by
 refine cI Tryz.func68 rfl Tryz.ntmps68 (Nat.le_of_ble_eq_true rfl) fun a ab U=>a8 fun dW cR=>aH ab U rfl (m0 rfl bx) ?_
 rintro _ _ _ a w ⟨b6,rfl,rfl,rfl⟩ ab U
 refine aE ab U (ar rfl<|ah) fun a w ab U=>wpList_nil (cR _ _ ?_)
 refine aB ab U (ag (sk rfl rfl)<|ar rfl<|ah) fun a w ab U=>wp_ret ?_
 exact bR (rs:=[.tmp 2]) rfl ab U (vs:=[_]) ⟨rfl,trivial⟩ ae ae ⟨_,rfl,rfl,rfl⟩
theorem agl(b6:Nat)(v:Value)(xs:List (List UInt8))(qK:∀ x∈xs,x.length≤8064)(Y:Value)(z:aP)(w0:World)(bP:List aP)(cw:List av)(inv:Nat→av×av→Prop)(ra rb:av)(bj:gp w0 bP z)(au:bg Go.aJ.encS z v xs)(h0:inv 0 (ra,rb))(kC:∀ k r,k<(aw.taken xs).length→inv k r→xj Tryz.prog Y (aw.CR xs k) (aC w0 bP (.blk b6 40 [v]::r.1::r.2::cw)) fun w'=>∃ eR,inv (k+1) eR∧aC w0 bP (.blk b6 40 [v]::eR.1::eR.2::cw) w'):l9 Tryz.prog 104 [Y,Value.pointer (some ⟨b6,0,none⟩)] w0 bP [.blk b6 40 [v],ra,rb] cw (fun _ dj cV=>dj=[]∧∃ r:av×av,cV=[.blk b6 40 [v],r.1,r.2]∧inv (aw.taken xs).length r):=by
 refine EL Tryz.func104 rfl Tryz.ntmps104 (Nat.le_of_ble_eq_true rfl) fun a w ab U=>?_
 replace U:=k0 U
 have cZ:=au.1
 refine aB ab U (ar rfl<|ar rfl<|ah) fun a w ab U=>aB ab U (ag (bc cl 0 rfl rfl rfl rfl)<|ag (dL cl au rfl)<|ai rfl<|ah) fun a w ab U=>wp_block ?_
 obtain ⟨bC,aZ,U⟩:=U.cT
 refine df (γ:=(av×av)×Nat) ((ra,rb),0) (fun (dV,i)=>[(3,az (aw.fe xs i).2),(4,az ((aw.fe xs i).1.length:Int)),(11,az (i:Int))]) [(0,_),(9,_),(10,_)] (fun (dV,i)=>((bC.set 1 (dV.1)).set 2 (dV.2))) (fun (dV,i)=>i≤xs.length∧inv (aw.fe xs i).1.length dV) (fun (dV,i)=>xs.length-i) (ab.sub ⟨rfl,rfl,rfl,rfl,rfl,rfl,trivial⟩) (by subst aZ;exact U) (by exact ⟨Nat.zero_le _,h0⟩) ?_
 rintro ⟨dV,i⟩ a w ba ab U
 subst aZ;(try dsimp only at ba ab U)
 obtain ⟨eu,iB⟩:=ba
 replace U:=k0 U
 have By:=aw.QH xs eu
 refine aB ab U (ag (cK rfl rfl)<|ah) fun a w ab U=>ax fun dP cq=>b9 ab rfl (fun aS=>?_) (fun aS=>?_)
 ·have ZU:(xs.getD i []).length≤8064:=qK _ (aK.jE xs i (by omega))
  refine wp_skip<|cq _ _<|ax fun dw b3=>wp_block ?_
  refine ax fun et cz=>bq ab U (ag (dG cl bz au rfl rfl (by omega))<|ag (si bz au bj rfl rfl (by omega))<|ar rfl<|ah) fun a w ab U=>?_
  rw [Int.toNat_natCast] at ab
  refine cz _ _<|a8 fun eU cO=>aE ab U (ai rfl<|ah) fun a w ab U=>aH ab U rfl (s8 bz bS bF rfl (by omega)) ?_
  rintro v1 _ _ a w ⟨z2,rfl,rfl,Z4⟩ ab U
  refine aE ab U (ag (bQ VJ rfl (fun w U=>T2 _ _ w (bg.mono (U.le (.inr (by simp))) Z4)) (fun _ _ _ h=>h))<|ai rfl<|ag (cE rfl rfl)<|ag (cE rfl rfl)<|ah) fun a w ab U=>aH ab U rfl (c1 b2) ?_
  rintro _ _ _ a w ⟨xr,rfl,rfl,rfl⟩ ab U
  refine aH ab U rfl (cA b2 0 rfl rfl rfl rfl aI (bn rfl (bn rfl (bn rfl dC))) aI) ?_
  rintro _ _ _ a w ⟨rfl,rfl,rfl⟩ ab U
  replace U:=qR U
  refine aE ab U (ar rfl<|ah) fun a w ab U=>wpList_nil (cO _ _ ?_)
  refine ax fun e1 cF=>a8 fun fY dg=>aE ab U (ai rfl<|ag (dM rfl rfl)<|ai rfl<|ah) fun a w ab U=>fS 2 23 4 ab U rfl rfl rfl rfl rfl (fun aO=>have aO:=(yI aO);aN 23 rfl rfl rfl (aV b2 rfl rfl (s':=0) aA)<|aN 23 rfl rfl rfl (bc bG 0 rfl rfl rfl rfl)<|aN 23 rfl rfl rfl (bE rfl)<|aN 23 rfl rfl rfl (cK rfl rfl)<|ah) rfl rfl fun a w ab U=>?_
  refine aE ab U (ai rfl<|ah) fun a w ab U=>fS 8 29 2 ab U rfl rfl rfl rfl rfl (fun aO=>have aO:=aO;aN 29 rfl rfl rfl (bE rfl)<|aN 29 rfl rfl rfl (fc rfl rfl)<|ah) rfl rfl fun a w ab U=>?_
  refine wpList_nil (dg _ _ ?_)
  refine cX ab rfl (fun bs=>?_) (fun bs=>?_)
  ·(try simp only [c2] at bs)
   have yo:=aw.QI (l:=xs) (i:=i) (by omega) (fun h=>by rcases bs with (h1 | h1) | h1;exact h1 h.1.1;omega;omega)
   refine wp_exit<|b3 _ _<|bq ab U (bX rfl rfl<|ai rfl<|ah) fun a w ab U=>?_
   replace U:=U.ak (ae.n) (ae.n)
   refine ⟨(dV,i+1),?_,?_,ab.sub ⟨(by show some (az _)=some (az _);first | rw [yo] | rw [Mx]),(by show some (az _)=some (az _);first | rw [yo] | (rw [Gh];rfl)),rfl,rfl,rfl,rfl,trivial⟩,?_⟩
   ·(try dsimp only);omega
   ·exact ⟨by omega,by rw [yo];exact iB⟩
   ·exact U
  ·(try simp only [c2] at bs)
   obtain ⟨ZH,ZI,Gh,Mx⟩:=aw.agr (l:=xs) (i:=i) (by omega) ⟨⟨bs.1.1,by omega⟩,by omega⟩
   refine wp_skip<|cF _ _<|aB ab U (ag (aV b2 rfl rfl (s':=0) aA)<|ag (bc bG 0 rfl rfl rfl rfl)<|ai rfl<|bX rfl rfl<|ar rfl<|ar rfl<|ah) fun a w ab U=>ax fun gQ dz=>Cx 2 rfl ?_
   refine aE ab U (ai rfl<|ag (fW b2 0 rfl rfl aI rfl)<|ah) fun a w ab U=>pT ?_
   ·skip
    replace U:=U.ak (List.sublist_cons_self _ _) (ae.n)
    have rZ:=kC _ dV ZH iB
    rw [ZI] at rZ
    refine IH (ys:=[_]) (by rfl) rfl ab U rfl rfl rZ ?_
    rintro a w ab ⟨cL,tG,U⟩
    refine q5 rfl ab U (ag (fC rfl)<|ah) fun a w ab U=>wpListIn_nil ?_
    refine dz _ _<|cX ab rfl (fun h=>absurd h (by simp)) (fun _=>?_)
    refine wp_skip<|b3 _ _<|bq ab U (bX rfl rfl<|ai rfl<|ah) fun a w ab U=>⟨(cL,i+1),?_,?_,ab.sub ⟨(by show some (az _)=some (az _);first | rw [yo] | rw [Mx]),(by show some (az _)=some (az _);first | rw [yo] | (rw [Gh];rfl)),rfl,rfl,rfl,rfl,trivial⟩,?_⟩
    ·(try dsimp only);omega
    ·exact ⟨by omega,by rw [Gh];exact tG⟩
    ·exact U
 ·obtain rfl:i=xs.length:=by omega
  refine wp_exit ?_
  -- falls off the end
  exact EM rfl ab U [] [_,_,_] ae ae ⟨rfl,_,rfl,iB⟩
theorem BO(h:ao.hr)(S:ao.aX)(nF:S.off=false)(w0:World)(bP:List aP){d1 d2 d3 d4:av}{dK:Nat×Nat}{dJ:TypeId}(dF:w0.heap[1]?=some (.cells (aK.ek.map cx).toArray dJ dK))(dh:gX h S d1 d2 d3 d4):eH Tryz.prog 31 [.pointer (some ⟨h.b,0,none⟩)] w0 bP [d1,d2,d3,d4] (fun r zs hs=>zs=[]∧∃ bl b fv cj ck cr ct bK bV fx iy,r=.tuple [.pointer (some ⟨bl,0,none⟩),az 0].toArray∧hs=[.blk bl 119 [.pointer (some ⟨b,0,none⟩),fv],.row fv 24 3 (aw.taken (aj.eo S).tx).length ((aw.taken (aj.eo S).tx).flatMap aw.j4),cj,ck,cr,ct,bK,bV,fx,iy]∧lO b h.b (aj.eo S) cj ck cr ct∧gX h S bK bV fx iy):=by
 refine Wo Tryz.func31 rfl Tryz.ntmps31 (Nat.le_of_ble_eq_true rfl) fun cw a w ab U=>?_
 replace U:=fr U
 have bB:=ao.ng.ok dh
 have e5:=bB.lo
 have gg:=bB.aG
 refine aB ab U (ar rfl<|ar rfl<|ah) fun a w ab U=>ax fun cm bD=>aB ab U (ai rfl<|ag (p1 nQ rfl rfl)<|ah) fun a w ab U=>cX ab rfl (fun h=>absurd h (by simp)) (fun _=>?_)
 refine wp_skip<|bD _ _<|a8 fun dP cq=>aE ab U (ai rfl<|ah) fun a w ab U=>aH ab U rfl (dy VY rfl (List.Perm.refl _) (by exact (acB _ _ (by assumption) _ _ dF dh))) ?_
 rintro _ _ _ a w ⟨_,_,rfl,rfl,⟨rfl,vL,y0,y1,y2,y3,anr,anE,anR,anS,rfl,rfl,LY,pI⟩⟩ ab U
 replace U:=hW U
 refine aE ab U (ai rfl<|ag (cE rfl rfl)<|ag (cE rfl rfl)<|ar rfl<|ar rfl<|ah) fun a w ab U=>wpList_nil ?_
 obtain ⟨aod,aob,aoi,xX,_⟩:=id LY
 have aln:=xX.tl
 have alo:=xX.nl
 have alp:=xX.bV
 have ZG:=aw.H7 (aj.eo S).tx
 have ak6:=ZG.len
 refine cq _ _<|ax fun dw b3=>aB ab U (ai rfl<|ag (dM rfl rfl)<|ah) fun a w ab U=>eP ab rfl (fun bs=>?_) (fun bs=>?_)
 ·exact absurd rfl bs
 ·refine wp_skip<|b3 _ _<|a8 fun eU cO=>aE ab U (ai rfl<|ag (Hb nc 2 aA rfl rfl rfl (by decide))<|ah) fun a w ab U=>aH ab U rfl (iT rfl) ?_
  rintro _ _ _ a w ⟨Ag,rfl,rfl,rfl⟩ ab U
  refine aH ab U rfl (u4 hD (by rfl)) ?_
  rintro _ _ _ a w ⟨aiy,rfl,rfl,rfl⟩ ab U
  refine aH ab U rfl (c7 hD 0 rfl rfl rfl rfl (by simp)) ?_
  rintro _ _ _ a w ⟨rfl,rfl,rfl⟩ ab U
  (try simp only [List.set_cons_zero,List.set_cons_succ] at U)
  replace U:=m8 U
  refine wpList_nil ?_
  replace U:=U.hV 24 3
  replace U:=ud U
  refine cO _ _<|ax fun e1 cF=>a8 fun fY dg=>aE ab U (ai rfl<|ah) fun a w ab U=>?_
  replace U:=(((U.perm qe).perm sN).perm uK).perm uM
  replace U:=ud U
  refine aH ab U rfl (dy VZ rfl (List.Perm.refl _) (by exact (aaq _ _ _ _ _  LY))) ?_
  rintro agZ _ _ a w ⟨_,_,rfl,rfl,⟨rfl,ama,amp,amE,amU,rfl,A3⟩⟩ ab U
  replace U:aC _ (_) (_::_::_::_::_::_::_::_::_::_::_::_::_) _:=U
  refine aH ab U rfl (eB V4 rfl (fun w U=>agm _ (row_one (U.own _ (List.mem_of_getElem? (i:=0) rfl)).1) w )) ?_
  rintro _ _ _ a w ⟨_,_,rfl,rfl,⟨bK,rfl,rfl,rfl⟩⟩ ab U
  replace U:aC _ (_) (_::_::_::_::_::_::_::_::_::_::_::_::_::_) _:=U
  refine wpList_nil (dg _ _ ?_)
  refine wp_block ?_
  replace U:=U.perm (.swap _ _ _)
  obtain ⟨zt,ML,U⟩:=aC.qx (h0:=fun _=>rfl) (f:=vs) (p:=fun s=>s.length≤140737488355328) U rfl (by omega) xX.ox
  replace U:=pX U
  replace U:=(U.perm Dy).perm lj
  replace U:=pX U
  obtain ⟨bC,aZ,U⟩:=U.cT
  obtain ⟨jO,iY,ab⟩:∃ l,l=_∧Fr _ l _:=⟨_,rfl,ab⟩
  refine IB (ps:=[24]) (γ:=(av×av)) (ξ:=Nat) (fun r=>(bC.set 1 r.1).set 2 r.2) (fun (k:Nat) (r:av×av)=>∃ u,r=(.blk Ag 119 [.pointer (some ⟨vL,0,none⟩),u],.row u 24 3 k (((aw.taken (aj.eo S).tx).take k).flatMap aw.j4))) ((aw.taken (aj.eo S).tx).length) (fun k=>aw.CR (aj.eo S).tx k) ((.blk Ag 119 [.pointer (some ⟨vL,0,none⟩),(Value.slice none 0 0)],.row (Value.slice none 0 0) 24 3 0 [])) (fun k r x=>(7,Value.pointer (some ⟨x,0,none⟩))::(24,.agg [az ((aw.taken (aj.eo S).tx).getD k aw.f0).tk,vs ((aw.taken (aj.eo S).tx).getD k aw.f0).ky,vs ((aw.taken (aj.eo S).tx).getD k aw.f0).vl].toArray)::jO) (fun k r x=>.blk x 24 [az ((aw.taken (aj.eo S).tx).getD k aw.f0).tk,vs ((aw.taken (aj.eo S).tx).getD k aw.f0).ky,vs ((aw.taken (aj.eo S).tx).getD k aw.f0).vl]::(bC.set 1 r.1).set 2 r.2) ab (by subst aZ;exact U) (by subst iY;rfl) rfl (fun _=>rfl) (U5) (⟨_,rfl⟩) (fun ro GL jl dD mA mJ a w oX iG ab U=>?_) (fun Y dj tZ kC w U=>?_) (fun BM lV jl dD mA mJ gV a w oX iG ab U=>?_) (fun I D dD a w mJ il mn dh iG ab U=>?_)
  ·subst aZ iY
   (try dsimp only [kx] at ab);(try dsimp only [List.set_cons_zero,List.set_cons_succ] at U)
   replace U:aC _ (_::_::_::_) (_::_::_::_::_::_::_::_::_::_::_::_::_) _:=U
   obtain ⟨u,rfl⟩:=iG
   (try dsimp only at U)
   replace U:aC _ (_::_::_::_) (_::_::_::_::_::_::_::_::_::_::_::_::_) _:=U
   refine wj (by rfl) ?_
   refine aH ab U rfl (c1 b2) ?_
   rintro _ _ _ a w ⟨SU,rfl,rfl,rfl⟩ ab U
   refine aH ab U rfl (cA b2 0 rfl rfl rfl rfl aI (bn rfl (bn rfl (bn rfl dC))) aI) ?_
   rintro _ _ _ a w ⟨rfl,rfl,rfl⟩ ab U
   replace U:aC _ (_::_::_::_) (_::_::_::_::_::_::_::_::_::_::_::_::_::_) _:=U
   refine pT<|⟨rfl,SU,ab,U⟩
  ·subst aZ iY
   exact l9.WA (agl bK agZ (aj.eo S).tx xX.tr Y _ _ dj _ (fun (k:Nat) (r:av×av)=>∃ u,r=(.blk Ag 119 [.pointer (some ⟨vL,0,none⟩),u],.row u 24 3 k (((aw.taken (aj.eo S).tx).take k).flatMap aw.j4))) _ _ (.inr (tZ _ (by simp))) ML ⟨(Value.slice none 0 0),rfl⟩ kC) w U
  ·subst aZ iY
   (try dsimp only [kx] at ab);(try dsimp only [List.set_cons_zero,List.set_cons_succ] at U)
   replace U:aC _ (_::_::_::_) (_::_::_::_::_::_::_::_::_::_::_::_::_::_) _:=U
   obtain ⟨u,rfl⟩:=iG
   (try dsimp only at U)
   replace U:aC _ (_::_::_::_) (_::_::_::_::_::_::_::_::_::_::_::_::_::_) _:=U
   refine wpIn_block ?_
   revert U;revert ab;apply PH (J:=jM (α0:=Value) (α1:=Value) 36 _ _ _ _ _) #[false,false,false,false,false,false,false,false,false,false,false] 11 mixed rfl rfl;case aT=>rfl
   ·intro w ab U
    refine aR 0 rfl ab (U.ak ae (ae.n.n.n.n.k.n.n.n.n.n.n.n.n)) (bc hD 0 rfl rfl rfl rfl) fun a ab=>aR 1 rfl ab (U.ak ae (ae.n.n.n.n.k.n.n.n.n.n.n.n.n)) (bc hD 0 rfl rfl rfl rfl) fun a ab=>aR 2 rfl ab (U.ak ae (ae.n.n.n.n.n.n.n.n.n.n.n.n.n)) (bI rfl) fun a ab=>aR 3 rfl ab (U.ak ae (ae.n.n.n.n.n.n.n.n.n.n.n.n.n)) (aV nc rfl rfl (s':=0) aA) fun a ab=>aR 4 rfl ab (U.ak ae (ae.n.n.n.n.n.n.n.n.n.n.k.n.n)) (bc dv 0 rfl rfl rfl rfl) fun a ab=>?_
    refine aR 5 rfl ab (U.ak ae (ae.n.n.n.n.n.n.n.n.n.n.n.n.k)) (fW b2 0 rfl rfl aI rfl) fun a ab=>bW 6 rfl rfl ab U rfl (qt dv b2 rfl aI (by decide) bJ (by decide) (by decide)) ?_
    rintro zL _ _ a w ⟨rfl,rfl⟩ ab U
    replace U:aC _ (_::_::_::_) (_::_::_::_::_::_::_::_::_::_::_::_::_::_::_) _:=U
    refine ⟨⟨al,.inr (U.ak ae (ae.n.n.n.n.n.n.n.n.n.n.k.n.n.n)),.inr (U.ak ae (ae.n.n.n.n.n.n.n.n.n.n.n.n.n.n)),.inr (U.ak ae (ae.n.n.n.n.n.n.n.n.n.n.n.n.n.n)),.inr (U.ak ae (ae.n.n.n.n.k.n.n.n.n.n.n.n.n.n)),.inr (U.ak ae (ae.n.n.n.n.k.n.n.n.n.n.n.n.n.n)),trivial⟩,?_⟩
    refine bW 7 rfl rfl ab U rfl (dB dv b2 4 rfl rfl rfl (eA dv (k:=0) rfl bJ) aI rfl (by decide)) ?_
    rintro Ry _ _ a w ⟨rfl,rfl⟩ ab U
    replace U:aC _ (_::_::_::_) (_::_::_::_::_::_::_::_::_::_::_::_::_::_::_) _:=U
    refine ⟨⟨al,al,al,.inr (U.ak ae (ae.n.n.n.n.n.n.n.n.n.n.n.n.n.n)),.inr (U.ak ae (ae.n.n.n.n.k.n.n.n.n.n.n.n.n.n)),.inr (U.ak ae (ae.n.n.n.n.k.n.n.n.n.n.n.n.n.n)),trivial⟩,?_⟩
    refine aR 8 rfl ab (U.ak ae (ae.n.n.n.n.n.n.n.n.n.n.n.n.n.n)) (bI rfl) fun a ab=>aR 9 rfl ab (U.ak ae (ae.n.n.n.n.n.n.n.n.n.n.n.n.n.n)) (aV nc rfl rfl (s':=0) aA) fun a ab=>bW 10 rfl rfl ab U rfl (c7 dv 3 rfl rfl rfl (row_one (U.own _ (List.mem_of_getElem? (i:=4) rfl)).1) (by simp)) ?_
    rintro _ _ _ a w ⟨rfl,rfl,rfl⟩ ab U
    replace U:aC _ (_::_::_::_) (_::_::_::.blk _ _ ([_,_].set 1 _)::_::_::_::_::_::_::_::_::_::_::_) _:=U
    simp only [List.set_cons_zero,List.set_cons_succ] at U
    replace U:aC _ (_::_::_::_) (_::_::_::_::_::_::_::_::_::_::_::_::_::_::_) _:=U
    refine ⟨⟨al,al,al,al,al,al,al,al,trivial⟩,?_⟩
    exact ei aA (kY zL Ry (trivial) (ab.sub (L':=[]) trivial) U)
   rintro a w ⟨zL,Ry, -,ab,U⟩
   (try dsimp only at ab U)
   replace U:=((((((((((U.perm nj).perm mf).perm oH).perm px).perm sO).perm pz).perm sP).perm w7).perm z8).perm Aa).perm Dx
   replace U:=U.perm (.cons _ (.cons _ (.cons _ (.cons _ (.cons _ (.cons _ (.cons _ (.cons _ (.cons _ (.cons _ (.cons _ (.cons _ (.swap _ _ _)))))))))))))
   replace U:=U.perm (.cons _ (.cons _ (.cons _ (.cons _ (.cons _ (.cons _ (.cons _ (.cons _ (.cons _ (.cons _ (.cons _ (.swap _ _ _))))))))))))
   rw [← aw.ags oX] at U
   exact ⟨rfl,(_,_),⟨_,rfl⟩,U.ak ae (ae.n.n.k.k.k.k.k.k.k.k.k.k.k.k)⟩
  subst aZ iY
  (try dsimp only [kx] at ab);(try dsimp only [List.set_cons_zero,List.set_cons_succ] at U)
  replace U:aC _ (_::_::_) (_::_::_::_::_::_::_::_::_::_::_::_::_) _:=U
  obtain ⟨u,rfl⟩:=iG
  (try dsimp only at U)
  replace U:aC _ (_::_::_) (_::_::_::_::_::_::_::_::_::_::_::_::_) _:=U
  refine cF _ _<|aB ab U (ag (bc hD 7 rfl rfl rfl rfl)<|ar rfl<|ar rfl<|ah) fun a w ab U=>wp_ret ?_
  replace U:=(((((((((U.perm (.swap _ _ _)).perm hF).perm j1).perm kr).perm oI).perm py).perm sP).perm w7).perm z8).perm Aa
  rw [List.take_length] at U
  exact Wr mn dh (by simp) (fun z bj=>by simp [bj]) (fun z bj=>il z (by simp [bj])) (rs:=[.tmp 2,.tmp 3]) rfl ab U (vs:=[_,_]) ⟨rfl,rfl,trivial⟩ [_,_,_,_,_,_,_,_,_,_] (ae.n.n.k.k.k.k.k.k.k.k.k.k) ⟨rfl,Ag,vL,_,_,_,_,_,_,_,_,_,rfl,rfl,A3,pI⟩
end
section
theorem agG:a1 Tryz.prog 97 (.pointer 172) 1 8 (Value.pointer none):=⟨Tryz.underlying97,by kernel_rfl⟩
theorem VE:bU Tryz.prog 16:=bY Tryz.func16
theorem xH:bU Tryz.prog 33:=bY Tryz.func33
theorem V5:bU Tryz.prog 72:=bY Tryz.func72
attribute [local irreducible] aF.int aF.bytes aF.getInt aF.ef aK.sum aj.eW aj.aT aj.cU aj.bh aj.c8 aj.fX aj.app aj.eo aw.dec aw.enc
abbrev w3(bl b:Nat)(fv:Value):av:=.blk bl 119 [.pointer (some ⟨b,0,none⟩),fv]
abbrev lP(fv:Value)(l:List aw.bO):av:=.row fv 24 3 l.length (l.flatMap aw.j4)
theorem yA(h:ao.hr)(bl b:Nat)(M:aw.fD)(f:aw.bO)(bw:aw.jK f)(eG:f.ky.length≤1048576∧f.vl.length≤1048576)(w0:World)(bP:List aP){fv:Value}{cj ck cr ct d1 d2 d3 d4:av}{dK:Nat×Nat}{dJ:TypeId}(dF:w0.heap[1]?=some (.cells (aK.ek.map cx).toArray dJ dK))(fG:aw.Good M.F)(ej:lO b h.b M.J cj ck cr ct)(dh:gX h M.S d1 d2 d3 d4):eH Tryz.prog 36 [.pointer (some ⟨bl,0,none⟩),.agg [az f.tk,vs f.ky,vs f.vl].toArray] w0 bP [.blk bl 119 [.pointer (some ⟨b,0,none⟩),fv],.row fv 24 3 M.F.length (M.F.flatMap aw.j4),cj,ck,cr,ct,d1,d2,d3,d4] (aw.Dw (w3 bl b) lP (lO b h.b) (gX h) (aw.add M f).1 (az (aw.add M f).2)):=by
 refine fF Tryz.func36 rfl Tryz.ntmps36 (Nat.le_of_ble_eq_true rfl) fun cw a w ab U=>?_
 replace U:=m8 U
 have nD:=fG.len
 refine a8 fun dW cR=>aH ab U rfl (iT rfl) ?_
 rintro _ _ _ a w ⟨b6,rfl,rfl,rfl⟩ ab U
 refine aE ab U (ar rfl<|ah) fun a w ab U=>wpList_nil (cR _ _ ?_)
 refine ax fun cm bD=>aB ab U (ai rfl<|ag (p1 hD rfl rfl)<|ah) fun a w ab U=>cX ab rfl (fun h=>absurd h (by simp)) (fun _=>?_)
 refine wp_skip<|bD _ _<|ax fun dP cq=>aB ab U (ag (fW b2 0 rfl rfl aI rfl)<|ag (bQ KX rfl (fun w U=>LC f bw w ) (fun _ _ _ h=>h))<|ar rfl<|ah) fun a w ab U=>aB ab U (ai rfl<|ag (dM rfl rfl)<|ah) fun a w ab U=>?_
 refine eP ab rfl (fun bs=>?_) (fun bs=>?_)
 ·refine ax fun eU cO=>bq ab U (ai rfl<|ar rfl<|ah) fun a w ab U=>cO _ _ ?_
  refine wp_ret ?_
  replace U:=(((((((((U.perm (.swap _ _ _)).perm hF).perm j1).perm kr).perm oI).perm py).perm qh).perm qi).perm w8).perm w9
  exact cQ (rs:=[.tmp 4]) rfl ab U (vs:=[_]) ⟨rfl,trivial⟩ [] [_,_,_,_,_,_,_,_,_,_] ae (ae.n.k.k.k.k.k.k.k.k.k.k) (aw.yB (L:=M) ⟨rfl,rfl,_,_,_,_,_,_,_,_,_,rfl,ej,dh⟩ (by rw [aw.xl bs]) (by rw [aw.xl bs]))
 ·refine wp_skip<|cq _ _<|ax fun e1 cF=>hZ mixed aA ab U (ag (aV b2 rfl rfl (s':=0) aA)<|ag (bc bG 0 rfl rfl rfl rfl)<|ai rfl<|ag (bQ xH rfl (fun w U=>Ax _ _ _ _ w (kj U 1 rfl) (kI (hl:=aw.jP) (h1:=aw.j5) (U.own _ (List.mem_of_getElem? (i:=2) rfl)).1 rfl (by first | omega | (simp;done)) (aw.pH fG))) (fun _ _ _ h=>h))<|ag (cK rfl rfl)<|ah) fun a w ab U=>b9 ab rfl (fun b7=>?_) (fun b7=>?_)
  ·refine ax fun hE dS=>bq ab U (ar rfl<|ah) fun a w ab U=>dS _ _ ?_
   refine wp_ret ?_
   replace U:=(((((((((U.perm (.swap _ _ _)).perm hF).perm j1).perm kr).perm oI).perm py).perm qh).perm qi).perm w8).perm w9
   exact cQ (rs:=[.tmp 4]) rfl ab U (vs:=[_]) ⟨rfl,trivial⟩ [] [_,_,_,_,_,_,_,_,_,_] ae (ae.n.k.k.k.k.k.k.k.k.k.k) (aw.yB (L:=M) ⟨rfl,rfl,_,_,_,_,_,_,_,_,_,rfl,ej,dh⟩ (by rw [aw.uR bs b7]) (by rw [aw.uR bs b7]))
  ·refine wp_skip<|cF _ _<|ax fun gQ dz=>aB ab U (ai rfl<|ag (bI rfl)<|ag (aV nc rfl rfl (s':=0) aA)<|ag (bc dv 1 rfl rfl rfl rfl)<|ag (hX dv 2 rfl rfl)<|ag (jH rfl rfl)<|ah) fun a w ab U=>b9 ab rfl (fun dr=>?_) (fun dr=>?_)
   ·refine ax fun iv eD=>bq ab U (ar rfl<|ah) fun a w ab U=>eD _ _ ?_
    refine wp_ret ?_
    replace U:=(((((((((U.perm (.swap _ _ _)).perm hF).perm j1).perm kr).perm oI).perm py).perm qh).perm qi).perm w8).perm w9
    exact cQ (rs:=[.tmp 4]) rfl ab U (vs:=[_]) ⟨rfl,trivial⟩ [] [_,_,_,_,_,_,_,_,_,_] ae (ae.n.k.k.k.k.k.k.k.k.k.k) (aw.yB (L:=M) ⟨rfl,rfl,_,_,_,_,_,_,_,_,_,rfl,ej,dh⟩ (by rw [aw.xm bs b7 (by omega)]) (by rw [aw.xm bs b7 (by omega)]))
   ·refine wp_skip<|dz _ _<|ax fun kM gr=>ax fun jN fa=>?_
    revert U;revert ab;apply ho (J:=Dp (α0:=Value) (α1:=av) (α2:=av) (α3:=av) (α4:=av) (α5:=av) (α6:=av) (α7:=av) (α8:=av) 50 _ _ _ _ _) #[false,false,false,false,false,false,false,false,false,false,false,false,false] 13 mixed rfl rfl
    ·intro w ab U
     refine aR 0 rfl ab (U.ak ae (ae.n.n.n.n.n.n.n.n.n.n.n)) (bE rfl) fun a ab=>aR 1 rfl ab (U.ak ae (ae.n.n.n.n.n.n.n.n.n.n.n)) (bI rfl) fun a ab=>aR 2 rfl ab (U.ak ae (ae.n.n.n.n.n.n.n.n.n.n.n)) (aV nc rfl rfl (s':=0) aA) fun a ab=>aR 3 rfl ab (U.ak ae (ae.n.n.n.n.n.n.n.n.n.k.n)) (bc agG 0 rfl rfl rfl rfl) fun a ab=>aR 4 rfl ab (U.ak ae (ae.n.n.n.n.n.n.n.n.n.n.k)) (fW b2 0 rfl rfl aI rfl) fun a ab=>?_
     refine bW 5 rfl rfl ab U rfl (eB VE rfl (fun w U=>UM f bw eG w )) ?_
     rintro Ra _ _ a w ⟨_,_,rfl,rfl,rfl,rfl⟩ ab U
     replace U:aC _ (_) (_::_::_::_::_::_::_::_::_::_::_::_::_) _:=U
     refine ⟨⟨al,.inr (U.ak ae (ae.n.n.n.n.n.n.n.n.n.k.n.n)),.inr (U.ak ae (ae.n.n.n.n.n.n.n.n.n.n.n.n)),.inr (U.ak ae (ae.n.n.n.n.n.n.n.n.n.n.n.n)),.inr (U.ak ae (ae.n.n.n.n.n.n.n.n.n.n.n.n)),trivial⟩,?_⟩
     refine aR 6 rfl ab (U.ak ae (ae.n.n.n.n.n.n.n.n.n.n.n.k)) (mF bS bz bF 0 rfl rfl) fun a ab=>fy [7] aA rfl ⟨?_,trivial⟩
     replace U:=(((((U.perm kq).perm lh).perm lj).perm lQ).perm uO).perm Jn
     replace U:=U.perm (.cons _ (.cons _ (.cons _ (.cons _ (.cons _ (.cons _ (.cons _ (.cons _ (.cons _ (.swap _ _ _))))))))))
     replace U:=U.perm (.cons _ (.cons _ (.cons _ (.cons _ (.cons _ (.cons _ (.cons _ (.cons _ (.swap _ _ _)))))))))
     replace U:=U.perm (.cons _ (.cons _ (.cons _ (.cons _ (.cons _ (.cons _ (.cons _ (.swap _ _ _))))))))
     replace U:=(U.perm (.cons _ (.cons _ (.cons _ (.cons _ (.cons _ (.cons _ (.swap _ _ _)))))))).perm Su
     replace U:aC _ (_) (_::_::_::_::_::_::_::_::_::_::_::_::_) _:=U
     refine dQ _ rfl rfl ab U rfl (dy V5 rfl (List.Perm.refl _) (by exact (aam _ _ _ _ _ _ _ dF ej dh))) ?_
     rintro _ _ _ a w ⟨_,_,rfl,rfl,⟨rfl,rfl,O0,O9,Pj,Ps,QR,QT,QV,QX,rfl,A4,A2⟩⟩ ab U
     replace U:aC _ (_) (_::_::_::_::_::_::_::_::_::_::_::_::_) _:=U
     refine ⟨⟨al,al,al,al,.inr (U.ak ae (ae.n.n.n.n.n.n.n.n.n.n.n.n)),.inr (U.ak ae (ae.n.n.n.n.n.n.n.n.n.n.n.n)),trivial⟩,?_⟩
     refine aR 8 rfl ab (U.ak ae (ae.n.n.n.n.n.n.n.n.n.n.n.n)) (bE rfl) fun a ab=>aR 9 rfl ab (U.ak ae (ae.n.n.n.n.n.n.n.n.n.n.n.n)) (cE rfl rfl) fun a ab=>aR 10 rfl ab (U.ak ae (ae.n.n.n.n.n.n.n.n.n.n.n.n)) (cE rfl rfl) fun a ab=>aR 11 rfl ab (U.ak ae (ae.n.n.n.n.n.n.n.n.n.n.n.n)) (lD rfl) fun a ab=>aR 12 rfl ab (U.ak ae (ae.n.n.n.n.n.n.n.n.n.n.n.n)) (lD rfl) fun a ab=>?_
     exact ei aA (MT Ra O0 O9 Pj Ps QR QT QV QX ((And.intro A4 (And.intro A2 trivial))) (ab.sub (L':=[(0,_),(3,_),(7,_)]) ⟨rfl,rfl,rfl,trivial⟩) U)
    rintro a w ⟨Ra,O0,O9,Pj,Ps,QR,QT,QV,QX,⟨A4,A2, -⟩,ab,U⟩
    (try dsimp only at ab U)
    refine fa _ _<|aB ab U (ai rfl<|ag (dM rfl rfl)<|ah) fun a w ab U=>eP ab rfl (fun dm=>?_) (fun dm=>?_)
    ·refine ax fun oE iW=>bq ab U (ai rfl<|ar rfl<|ah) fun a w ab U=>iW _ _ ?_
     refine wp_ret ?_
     replace U:=(U.perm IZ).perm I7
     exact cQ (rs:=[.tmp 4]) rfl ab U (vs:=[_]) ⟨rfl,trivial⟩ [] [_,_,_,_,_,_,_,_,_,_] ae (ae.n.n.k.k.k.k.k.k.k.k.k.k) (aw.yB (L:=⟨(aj.app M.J M.S (aw.enc f)).1,(aj.app M.J M.S (aw.enc f)).2.1,M.F⟩) ⟨rfl,rfl,_,_,_,_,_,_,_,_,_,rfl,A4,A2⟩ (by rw [aw.uS bs b7 (by omega) dm]) (by rw [aw.uS bs b7 (by omega) dm]))
    ·refine wp_skip<|gr _ _<|ax fun oF iX=>?_
     revert U;revert ab;apply ho (J:=jM (α0:=Value) (α1:=Value) 50 _ _ _ _ _) #[false,false,false,false,false,false,false,false,false,false,false] 11 mixed rfl rfl
     ·intro w ab U
      refine aR 0 rfl ab (U.ak ae (ae.n.n.n.n.n.n.n.n.n.n.n.n)) (bE rfl) fun a ab=>aR 1 rfl ab (U.ak ae (ae.n.n.n.n.n.n.n.n.n.n.n.n)) (bE rfl) fun a ab=>aR 2 rfl ab (U.ak ae (ae.n.n.n.n.n.n.n.n.n.n.n.n)) (bI rfl) fun a ab=>aR 3 rfl ab (U.ak ae (ae.n.n.n.n.n.n.n.n.n.n.n.n)) (aV nc rfl rfl (s':=0) aA) fun a ab=>aR 4 rfl ab (U.ak ae (ae.n.k.n.n.n.n.n.n.n.n.n.n)) (bc dv 0 rfl rfl rfl rfl) fun a ab=>?_
      refine aR 5 rfl ab (U.ak ae (ae.n.n.k.n.n.n.n.n.n.n.n.n)) (fW b2 0 rfl rfl aI rfl) fun a ab=>bW 6 rfl rfl ab U rfl (qt dv b2 rfl aI (by decide) bJ (by decide) (by decide)) ?_
      rintro Rf _ _ a w ⟨rfl,rfl⟩ ab U
      replace U:aC _ (_) (_::_::_::_::_::_::_::_::_::_::_::_::_::_) _:=U
      refine ⟨⟨al,.inr (U.ak ae (ae.n.k.n.n.n.n.n.n.n.n.n.n.n)),.inr (U.ak ae (ae.n.n.n.n.n.n.n.n.n.n.n.n.n)),.inr (U.ak ae (ae.n.n.n.n.n.n.n.n.n.n.n.n.n)),.inr (U.ak ae (ae.n.n.n.n.n.n.n.n.n.n.n.n.n)),.inr (U.ak ae (ae.n.n.n.n.n.n.n.n.n.n.n.n.n)),trivial⟩,?_⟩
      refine bW 7 rfl rfl ab U rfl (dB dv b2 12 rfl rfl rfl (eA dv (k:=0) rfl bJ) aI rfl (by decide)) ?_
      rintro Rg _ _ a w ⟨rfl,rfl⟩ ab U
      replace U:aC _ (_) (_::_::_::_::_::_::_::_::_::_::_::_::_::_) _:=U
      refine ⟨⟨al,al,al,.inr (U.ak ae (ae.n.n.n.n.n.n.n.n.n.n.n.n.n)),.inr (U.ak ae (ae.n.n.n.n.n.n.n.n.n.n.n.n.n)),.inr (U.ak ae (ae.n.n.n.n.n.n.n.n.n.n.n.n.n)),trivial⟩,?_⟩
      refine aR 8 rfl ab (U.ak ae (ae.n.n.n.n.n.n.n.n.n.n.n.n.n)) (bI rfl) fun a ab=>aR 9 rfl ab (U.ak ae (ae.n.n.n.n.n.n.n.n.n.n.n.n.n)) (aV nc rfl rfl (s':=0) aA) fun a ab=>bW 10 rfl rfl ab U rfl (c7 dv 11 rfl rfl rfl (row_one (U.own _ (List.mem_of_getElem? (i:=12) rfl)).1) (by simp)) ?_
      rintro _ _ _ a w ⟨rfl,rfl,rfl⟩ ab U
      replace U:aC _ (_) (_::_::_::_::_::_::_::_::_::_::_::.blk _ _ ([_,_].set 1 _)::_::_) _:=U
      simp only [List.set_cons_zero,List.set_cons_succ] at U
      replace U:aC _ (_) (_::_::_::_::_::_::_::_::_::_::_::_::_::_) _:=U
      refine ⟨⟨al,al,al,al,al,al,al,al,trivial⟩,?_⟩
      exact ei aA (kY Rf Rg (trivial) (ab.sub (L':=[]) trivial) U)
     rintro a w ⟨Rf,Rg, -,ab,U⟩
     (try dsimp only at ab U)
     refine iX _ _<|aB ab U (ar rfl<|ah) fun a w ab U=>wp_ret ?_
     rw [aw.En,aw.GJ M.F f] at U
     replace U:=(((((((((U.perm Sj).perm Sn).perm j1).perm kr).perm oI).perm py).perm qh).perm qi).perm w8).perm w9
     exact cQ (rs:=[.tmp 4]) rfl ab U (vs:=[_]) ⟨rfl,trivial⟩ [] [_,_,_,_,_,_,_,_,_,_] ae (ae.n.n.n.k.k.k.k.k.k.k.k.k.k) (aw.yB (L:=⟨(aj.app M.J M.S (aw.enc f)).1,(aj.app M.J M.S (aw.enc f)).2.1,M.F++[f]⟩) ⟨rfl,rfl,_,_,_,_,_,_,_,_,_,rfl,A4,A2⟩ (by rw [aw.sX bs b7 (by omega) dm]) (by rw [aw.sX bs b7 (by omega) dm]))
end
section
theorem AQ:bU Tryz.prog 26:=bY Tryz.func26
theorem xG:bU Tryz.prog 31:=bY Tryz.func31
theorem La:bU Tryz.prog 32:=bY Tryz.func32
theorem EC:bU Tryz.prog 35:=bY Tryz.func35
theorem vd:bU Tryz.prog 36:=bY Tryz.func36
theorem Lc:bU Tryz.prog 37:=bY Tryz.func37
theorem ve:bU Tryz.prog 38:=bY Tryz.func38
theorem Ld:bU Tryz.prog 46:=bY Tryz.func46
theorem Le:bU Tryz.prog 50:=bY Tryz.func50
theorem Lj:bU Tryz.prog 63:=bY Tryz.func63
attribute [local irreducible] aF.int aF.bytes aF.getInt aF.ef aK.sum aj.eW aj.aT aj.cU aj.bh aj.c8 aj.fX aj.app aj.eo aw.dec aw.enc ao.new ao.hp ao.hz aw.add aw.dN aw.keys aw.taken
theorem afl(va po:Value)(w:World)(e8:bg Go.aJ.encS (b1 w) va (aw.keys [aw.bT,aw.b5] 4))(gu:bg Go.aJ.encS (b1 w) po [[97]]):ch Tryz.prog 37 [va,po] w (fun r _ _=>r=.bool true):=by
 have h:=Qg va po _ _ w e8 gu
 rw [aw.GG,decide_eq_true rfl] at h
 exact h
theorem Qf(va po:Value)(xs:List aw.bO)(w:World)(e8:bg Go.aJ.hv (b1 w) va xs)(gu:bg Go.aJ.hv (b1 w) po xs):ch Tryz.prog 32 [va,po] w (fun r _ _=>r=.bool true):=by
 have h:=afk va po xs xs w e8 gu
 rw [decide_eq_true rfl] at h
 exact h
theorem aa4(w:World){dK:Nat×Nat}{dJ:TypeId}(dF:w.heap[1]?=some (.cells (aK.ek.map cx).toArray dJ dK)):ch Tryz.prog 20 [] w (fun r _ _=>r=.bool true):=by
 refine cI Tryz.func20 rfl Tryz.ntmps20 (Nat.le_of_ble_eq_true rfl) fun a ab U=>?_
 obtain ⟨ld,gz,Ba,Bb,Bc,Bd,ye,Ms,akO⟩:=aw.aa3
 have akP:=aw.acn
 have ajX:=aw.vj
 have ajY:=aw.EU
 have ajZ:=aw.vi
 have ajV:=aw.pH aw.vj
 have ajW:=aw.pH aw.EU
 have Me:=aw.pH aw.vi
 have aky:(aw.keys [aw.bT,aw.b5] 4).length≤140737488355328:=by rw [aw.GG];decide
 refine aB ab U (ar rfl<|ah) fun a w ab U=>a8 fun cm bD=>aH ab U rfl (eB Lj rfl (fun w U=>J9 8 (by decide) w )) ?_
 rintro _ _ _ a w ⟨_,_,rfl,rfl,⟨rfl,aj1,y0,y1,y2,y3,rfl,rfl,xN⟩⟩ ab U
 replace U:=iK U
 refine aE ab U (ai rfl<|ag (cE rfl rfl)<|ag (cE rfl rfl)<|ar rfl<|ar rfl<|ah) fun a w ab U=>wpList_nil (bD _ _ ?_)
 refine ax fun dH cf=>aB ab U (ai rfl<|ag (lF (dM rfl rfl) (by decide))<|ai rfl<|aN 26 rfl rfl rfl (bE rfl)<|aN 26 rfl rfl rfl (p1 nQ rfl rfl)<|ag (hY rfl rfl)<|ah) fun a w ab U=>cX ab rfl (fun h=>absurd h (by simp)) (fun _=>?_)
 refine wp_skip<|cf _ _<|a8 fun dw b3=>aE ab U (ai rfl<|ah) fun a w ab U=>aH ab U rfl (dy xG rfl (List.Perm.refl _) (by exact (BO _ _ (by assumption) _ _ dF xN))) ?_
 rintro _ _ _ a w ⟨_,_,rfl,rfl,⟨rfl,aiF,alE,WE,al7,amm,amB,amR,anj,anv,anI,anV,rfl,rfl,A3,EV⟩⟩ ab U
 replace U:aC _ [] [_,_,_,_,_,_,_,_,_,_] _:=U
 refine aE ab U (ai rfl<|ag (cE rfl rfl)<|ag (cE rfl rfl)<|ar rfl<|ar rfl<|ah) fun a w ab U=>wpList_nil ?_
 rw [aw.Oa] at A3
 rw [aw.Oa,aw.ago] at U
 (try dsimp only at U)
 refine b3 _ _<|ax fun et cz=>aB ab U (ai rfl<|ag (lF (dM rfl rfl) (by decide))<|ai rfl<|aN 37 rfl rfl rfl (bE rfl)<|aN 37 rfl rfl rfl (p1 hD rfl rfl)<|ag (hY rfl rfl)<|ai rfl<|aN 41 rfl rfl rfl (bE rfl)<|aN 41 rfl rfl rfl (bQ xH rfl (fun w U=>Ax _ _ _ _ w (kj U 0 rfl) (kI (hl:=aw.jP) (h1:=aw.j5) (U.own _ (List.mem_of_getElem? (i:=1) rfl)).1 rfl (by first | omega | (simp;done)) (by assumption))) (fun _ _ _ h=>h))<|aN 41 rfl rfl rfl (lF (dM rfl rfl) (by decide))<|ag (hY rfl rfl)<|ah) fun a w ab U=>cX ab rfl (fun h=>absurd h (by simp)) (fun _=>?_)
 refine wp_skip<|cz _ _<|ax fun e1 cF=>bq ab U (ai rfl<|ag (bQ ve rfl (fun w U=>xp _ _ _ _ _ _ aw.vj.srt (by decide) w (kj U 0 rfl) (kI (hl:=aw.jP) (h1:=aw.j5) (U.own _ (List.mem_of_getElem? (i:=1) rfl)).1 rfl (by first | omega | (simp;done)) (by assumption))) (fun _ _ _ h=>h))<|ai rfl<|ag (cE rfl rfl)<|ag (cE rfl rfl)<|ar rfl<|ar rfl<|ah) fun a w ab U=>?_
 rw [aw.aaK] at ab;(try dsimp only at ab)
 refine cF _ _<|a8 fun fY dg=>aE ab U (ai rfl<|ag (oq b2 3 aA rfl rfl (bn rfl (bn rfl (bn rfl dC))) rfl rfl)<|ah) fun a w ab U=>aH ab U rfl (dy vd rfl (List.Perm.refl _) (by exact (yA _ _ _ aw.ko aw.bT (aw.Dd.1) (by decide) _ _ dF (by assumption) A3 EV (fv:=WE)))) ?_
 rintro _ _ _ a w ⟨_,_,rfl,rfl,⟨rfl,rfl,WG,amc,amr,amG,amW,ann,anA,anM,anZ,rfl,E9,EW⟩⟩ ab U
 replace U:aC _ [] [_,_,_,_,_,_,_,_,_,_] _:=U
 refine aE ab U (ar rfl<|ah) fun a w ab U=>wpList_nil ?_
 rw [Ba] at E9;(try dsimp only [aw.ko,aw.jY,aw.jZ,aw.kp,aw.lb] at E9)
 rw [Ba] at EW;(try dsimp only [aw.ko,aw.jY,aw.jZ,aw.kp,aw.lb] at EW)
 rw [Ba] at U;(try dsimp only [aw.ko,aw.jY,aw.jZ,aw.kp,aw.lb] at U)
 rw [Ba] at ab;(try dsimp only [aw.ko,aw.jY,aw.jZ,aw.kp,aw.lb] at ab)
 refine dg _ _<|a8 fun hE dS=>aE ab U (ai rfl<|ag (oq b2 3 aA rfl rfl (bn rfl (bn rfl (bn rfl dC))) rfl rfl)<|ah) fun a w ab U=>aH ab U rfl (dy vd rfl (List.Perm.refl _) (by exact (yA _ _ _ (aw.jY ld) aw.b5 (aw.Dd.2.1) (by decide) _ _ dF (by assumption) E9 EW (fv:=WG)))) ?_
 rintro _ _ _ a w ⟨_,_,rfl,rfl,⟨rfl,rfl,WH,amf,amt,amI,amY,ano,anB,anN,an0,rfl,Fa,EX⟩⟩ ab U
 replace U:aC _ [] [_,_,_,_,_,_,_,_,_,_] _:=U
 refine aE ab U (ar rfl<|ah) fun a w ab U=>wpList_nil ?_
 rw [Bb] at Fa;(try dsimp only [aw.ko,aw.jY,aw.jZ,aw.kp,aw.lb] at Fa)
 rw [Bb] at EX;(try dsimp only [aw.ko,aw.jY,aw.jZ,aw.kp,aw.lb] at EX)
 rw [Bb] at U;(try dsimp only [aw.ko,aw.jY,aw.jZ,aw.kp,aw.lb] at U)
 rw [Bb] at ab;(try dsimp only [aw.ko,aw.jY,aw.jZ,aw.kp,aw.lb] at ab)
 refine dS _ _<|a8 fun gQ dz=>aE ab U (ai rfl<|ag (oq b2 3 aA rfl rfl (bn rfl (bn rfl (bn rfl dC))) rfl rfl)<|ah) fun a w ab U=>aH ab U rfl (dy vd rfl (List.Perm.refl _) (by exact (yA _ _ _ (aw.jZ gz) aw.cY (aw.Dd.2.2.1) (by decide) _ _ dF (by assumption) Fa EX (fv:=WH)))) ?_
 rintro _ _ _ a w ⟨_,_,rfl,rfl,⟨rfl,rfl,WI,amg,amv,amK,amZ,anq,anC,anO,an1,rfl,Fb,EY⟩⟩ ab U
 replace U:aC _ [] [_,_,_,_,_,_,_,_,_,_] _:=U
 refine aE ab U (ar rfl<|ah) fun a w ab U=>wpList_nil ?_
 rw [Bc] at Fb;(try dsimp only [aw.ko,aw.jY,aw.jZ,aw.kp,aw.lb] at Fb)
 rw [Bc] at EY;(try dsimp only [aw.ko,aw.jY,aw.jZ,aw.kp,aw.lb] at EY)
 rw [Bc] at U;(try dsimp only [aw.ko,aw.jY,aw.jZ,aw.kp,aw.lb] at U)
 rw [Bc] at ab;(try dsimp only [aw.ko,aw.jY,aw.jZ,aw.kp,aw.lb] at ab)
 refine dz _ _<|ax fun iE eO=>bq ab U (ai rfl<|ag (bQ ve rfl (fun w U=>xp _ _ _ _ _ _ aw.vi.srt (by decide) w (kj U 0 rfl) (kI (hl:=aw.jP) (h1:=aw.j5) (U.own _ (List.mem_of_getElem? (i:=1) rfl)).1 rfl (by first | omega | (simp;done)) (by assumption))) (fun _ _ _ h=>h))<|ai rfl<|ag (cE rfl rfl)<|ag (cE rfl rfl)<|ar rfl<|ar rfl<|ah) fun a w ab U=>?_
 rw [aw.aaL] at ab;(try dsimp only at ab)
 refine eO _ _<|ax fun iv eD=>bq ab U (ai rfl<|ag (bQ ve rfl (fun w U=>xp _ _ _ _ _ _ aw.vi.srt (by decide) w (kj U 0 rfl) (kI (hl:=aw.jP) (h1:=aw.j5) (U.own _ (List.mem_of_getElem? (i:=1) rfl)).1 rfl (by first | omega | (simp;done)) (by assumption))) (fun _ _ _ h=>h))<|ai rfl<|ag (cE rfl rfl)<|ag (cE rfl rfl)<|ar rfl<|ar rfl<|ah) fun a w ab U=>?_
 rw [aw.aaM] at ab;(try dsimp only at ab)
 refine eD _ _<|ax fun kM gr=>bq ab U (ai rfl<|ag (bQ ve rfl (fun w U=>xp _ _ _ _ _ _ aw.vi.srt (by decide) w (kj U 0 rfl) (kI (hl:=aw.jP) (h1:=aw.j5) (U.own _ (List.mem_of_getElem? (i:=1) rfl)).1 rfl (by first | omega | (simp;done)) (by assumption))) (fun _ _ _ h=>h))<|ai rfl<|ag (cE rfl rfl)<|ag (cE rfl rfl)<|ar rfl<|ar rfl<|ah) fun a w ab U=>?_
 rw [aw.aaN] at ab;(try dsimp only at ab)
 refine gr _ _<|ax fun jN fa=>a8 fun mc hh=>aE ab U (ai rfl<|ai rfl<|aN 76 rfl rfl rfl (bE rfl)<|aN 76 rfl rfl rfl (lF (dM rfl rfl) (by decide))<|ag (hY rfl rfl)<|ai rfl<|aN 80 rfl rfl rfl (bE rfl)<|aN 80 rfl rfl rfl (lF (dM rfl rfl) (by decide))<|ag (hY rfl rfl)<|ai rfl<|aN 84 rfl rfl rfl (bE rfl)<|aN 84 rfl rfl rfl (lF (dM rfl rfl) (by decide))<|ag (hY rfl rfl)<|ai rfl<|aN 88 rfl rfl rfl (bE rfl)<|ag (hY rfl rfl)<|ai rfl<|aN 91 rfl rfl rfl (bE rfl)<|aN 91 rfl rfl rfl (fC rfl)<|ag (hY rfl rfl)<|ai rfl<|aN 95 rfl rfl rfl (bE rfl)<|aN 95 rfl rfl rfl (fC rfl)<|ag (hY rfl rfl)<|ai rfl<|aN 99 rfl rfl rfl (bE rfl)<|aN 99 rfl rfl rfl (lF (qX (q:=[120]) rfl rfl) (by decide))<|ag (hY rfl rfl)<|ai rfl<|aN 103 rfl rfl rfl (bE rfl)<|aN 103 rfl rfl rfl (lF (qX (q:=[121]) rfl rfl) (by decide))<|ag (hY rfl rfl)<|ai rfl<|aN 107 rfl rfl rfl (bE rfl)<|ah) fun a w ab U=>wQ ab U (hg 107 rfl rfl) rfl (eB EC rfl (fun w U=>M4 _ _ _ _ _ aw.vi.srt (by decide) w (kj U 0 rfl) (kI (hl:=aw.jP) (h1:=aw.j5) (U.own _ (List.mem_of_getElem? (i:=1) rfl)).1 rfl (by first | omega | (simp;done)) (by assumption)))) ?_
 rintro an7 _ _ a w ⟨_,_,rfl,rfl,⟨rfl,rfl⟩⟩ ab U
 replace U:aC _ [] [_,_,_,_,_,_,_,_,_,_,_] _:=U
 refine wQ ab U (hg 107 rfl rfl) rfl (dX cl bz rfl rfl bJ (by decide) rfl rfl) ?_
 rintro v70 _ _ a w ⟨rfl,rfl⟩ ab U
 replace U:aC _ [] [_,_,_,_,_,_,_,_,_,_,_,_] _:=U
 refine aE ab U (aN 107 rfl rfl rfl (bQ Lc rfl (fun w U=>afl _ _ w (k2 (f:=vs) (xs:=(aw.keys [aw.bT,aw.b5] 4)) (U.own _ (List.mem_of_getElem? (i:=1) rfl)).1 (by rw [aw.GG];decide) rfl (by first | decide | omega)) (k2 (f:=vs) (xs:=[[97]]) (U.own _ (List.mem_of_getElem? (i:=0) rfl)).1 (by decide) rfl (by first | decide | omega))) (fun _ _ _ h=>h))<|aN 107 rfl rfl rfl (fC rfl)<|ag (hY rfl rfl)<|ai rfl<|aN 114 rfl rfl rfl (bE rfl)<|aN 114 rfl rfl rfl (bQ xH rfl (fun w U=>Ax _ _ _ _ w (kj U 2 rfl) (kI (hl:=aw.jP) (h1:=aw.j5) (U.own _ (List.mem_of_getElem? (i:=3) rfl)).1 rfl (by first | omega | (simp;done)) (by assumption))) (fun _ _ _ h=>h))<|aN 114 rfl rfl rfl (lF (dM rfl rfl) (by decide))<|ag (hY rfl rfl)<|ah) fun a w ab U=>wpList_nil (hh _ _ ?_)
 refine cX ab rfl (fun h=>absurd h (by simp)) (fun _=>?_)
 refine wp_skip<|fa _ _<|a8 fun oE iW=>aE ab U (ai rfl<|ah) fun a w ab U=>?_
 replace U:=(((U.perm q8).perm qg).perm q9).perm re
 replace U:aC _ [] [_,_,_,_,_,_,_,_,_,_,_,_] _:=U
 refine aH ab U rfl (dy Ld rfl (List.Perm.refl _) (by exact (Kk _ _ _ (by omega) _ _  EY))) ?_
 rintro _ _ _ a w ⟨_,_,rfl,rfl,⟨rfl,rfl,amh,amw,amL,am1,rfl,Xg⟩⟩ ab U
 replace U:aC _ [] [_,_,_,_,_,_,_,_,_,_,_,_] _:=U
 refine wpList_nil (iW _ _ ?_)
 refine a8 fun oF iX=>aE ab U (ai rfl<|ag (oq b2 3 aA rfl rfl (bn rfl (bn rfl (bn rfl dC))) rfl rfl)<|ah) fun a w ab U=>?_
 replace U:=(((((U.perm IY).perm Dy).perm Sq).perm Sr).perm Ss).perm St
 replace U:aC _ [] [_,_,_,_,_,_,_,_,_,_,_,_] _:=U
 refine aH ab U rfl (dy vd rfl (List.Perm.refl _) (by exact (yA _ _ _ (aw.kp gz) aw.c0 (aw.Dd.2.2.2) (by decide) _ _ dF (by assumption) Fb Xg (fv:=WI)))) ?_
 rintro _ _ _ a w ⟨_,_,rfl,rfl,⟨rfl,rfl,aje,ami,amx,amM,am2,ans,anF,anQ,an2,rfl,L0,EZ⟩⟩ ab U
 replace U:aC _ [] [_,_,_,_,_,_,_,_,_,_,_,_] _:=U
 refine aE ab U (ar rfl<|ah) fun a w ab U=>wpList_nil ?_
 rw [Bd] at L0;(try dsimp only [aw.ko,aw.jY,aw.jZ,aw.kp,aw.lb] at L0)
 rw [Bd] at EZ;(try dsimp only [aw.ko,aw.jY,aw.jZ,aw.kp,aw.lb] at EZ)
 rw [Bd] at U;(try dsimp only [aw.ko,aw.jY,aw.jZ,aw.kp,aw.lb] at U)
 rw [Bd] at ab;(try dsimp only [aw.ko,aw.jY,aw.jZ,aw.kp,aw.lb] at ab)
 refine iX _ _<|a8 fun qd kB=>aE ab U (ai rfl<|ah) fun a w ab U=>aH ab U rfl (eB AQ rfl (fun w U=>Em _ _ _ _ (by decide) w (kj U 0 rfl) (kI (hl:=aw.jP) (h1:=aw.j5) (U.own _ (List.mem_of_getElem? (i:=1) rfl)).1 rfl (by first | omega | (simp;done)) (by assumption)))) ?_
 rintro an8 _ _ a w ⟨_,_,rfl,rfl,⟨rfl,rfl⟩⟩ ab U
 replace U:aC _ [] [_,_,_,_,_,_,_,_,_,_,_,_,_] _:=U
 refine aE ab U (ag (hX dv 0 rfl rfl)<|ar rfl<|ah) fun a w ab U=>wpList_nil (kB _ _ ?_)
 refine a8 fun pr jF=>aE ab U (ai rfl<|ah) fun a w ab U=>aH ab U rfl (dX c5 bG rfl rfl bJ (by decide) rfl rfl) ?_
 rintro an9 _ _ a w ⟨rfl,rfl⟩ ab U
 replace U:aC _ [] [_,_,_,_,_,_,_,_,_,_,_,_,_,_] _:=U
 obtain ⟨aoq,Z5,U⟩:=aC.qx (h0:=fun _=>rfl) (f:=az) (p:=fun x => -9223372036854775808≤x∧x≤9223372036854775807) (xs:=[0]) U (by first | rfl | (simp;done)) (by first | decide | omega | (simp;omega)) (by decide)
 replace U:=(((U.perm w4).perm z6).perm Dz).perm DA
 replace U:aC _ [_] [_,_,_,_,_,_,_,_,_,_,_,_,_] _:=U
 refine aH ab U rfl (dy Le rfl (List.Perm.refl _) (by exact (J8 _ _ _ _ _ _ _ Z5 (.inr (by simp)) EZ))) ?_
 rintro _ _ _ a w ⟨_,_,rfl,rfl,⟨rfl,rfl,amj,amy,amN,amO,rfl,LS⟩⟩ ab U
 replace U:aC _ [_] [_,_,_,_,_,_,_,_,_,_,_,_,_] _:=U
 refine wpList_nil ?_
 rw [ye] at LS
 refine jF _ _<|a8 fun sK lS=>aE ab U (ai rfl<|ah) fun a w ab U=>aH ab U rfl (dy xG rfl (List.Perm.refl _) (by exact (BO _ _ (by assumption) _ _ dF LS))) ?_
 rintro _ _ _ a w ⟨_,_,rfl,rfl,⟨rfl,aiE,alD,ai9,al6,amk,amz,amP,anh,ant,anG,anT,rfl,rfl,Xl,aju⟩⟩ ab U
 replace U:aC _ [_] [_,_,_,_,_,_,_,_,_,_,_,_,_,_,_,_,_,_,_] _:=U
 refine aE ab U (ai rfl<|ag (cE rfl rfl)<|ag (cE rfl rfl)<|ar rfl<|ar rfl<|ah) fun a w ab U=>wpList_nil ?_
 rw [Ms] at Xl
 rw [Ms,aw.agp] at U
 (try dsimp only at U)
 refine lS _ _<|a8 fun sL mo=>aE ab U (ai rfl<|ag (l0 (fc rfl rfl) (by decide))<|ai rfl<|aN 137 rfl rfl rfl (bE rfl)<|aN 137 rfl rfl rfl (l0 (fc rfl rfl) (by decide))<|ag (iN rfl rfl)<|ai rfl<|aN 141 rfl rfl rfl (bE rfl)<|aN 141 rfl rfl rfl (l0 (fc rfl rfl) (by decide))<|ag (iN rfl rfl)<|ai rfl<|aN 145 rfl rfl rfl (bE rfl)<|aN 145 rfl rfl rfl (OX hD rfl rfl)<|ag (iN rfl rfl)<|ai rfl<|aN 149 rfl rfl rfl (bE rfl)<|ah) fun a w ab U=>wQ ab U (hg 149 rfl rfl) rfl (eB AQ rfl (fun w U=>Em _ _ _ _ (by decide) w (kj U 0 rfl) (kI (hl:=aw.jP) (h1:=aw.j5) (U.own _ (List.mem_of_getElem? (i:=1) rfl)).1 rfl (by first | omega | (simp;done)) (by assumption)))) ?_
 rintro an5 _ _ a w ⟨_,_,rfl,rfl,⟨rfl,rfl⟩⟩ ab U
 replace U:=yJ U
 refine aE ab U (aN 149 rfl rfl rfl (oq b2 3 aA rfl rfl (bn rfl (bn rfl (bn rfl dC))) rfl rfl)<|aN 149 rfl rfl rfl (oq b2 3 aA rfl rfl (bn rfl (bn rfl (bn rfl dC))) rfl rfl)<|ah) fun a w ab U=>wQ ab U (hg 149 rfl rfl) rfl (Kt dv b2 [[_,_,_],[_,_,_]] rfl rfl (by simp) (B5 (bn rfl (bn rfl (bn rfl dC))) (B5 (bn rfl (bn rfl (bn rfl dC))) GW)) (by decide) rfl rfl) ?_
 rintro v124 _ _ a w ⟨rfl,rfl⟩ ab U
 replace U:aC _ [_] [_,_,_,_,_,_,_,_,_,_,_,_,_,_,_,_,_,_,_,_,_] _:=U
 refine aE ab U (aN 149 rfl rfl rfl (bQ La rfl (fun w U=>Qf _ _ _ w (kI (hl:=aw.jP) (h1:=aw.j5) (xs:=[aw.bT,aw.b5]) (U.own _ (List.mem_of_getElem? (i:=1) rfl)).1 rfl (by first | omega | (simp;done) | decide) Me) (kI (hl:=aw.jP) (h1:=aw.j5) (xs:=[aw.bT,aw.b5]) (U.own _ (List.mem_of_getElem? (i:=0) rfl)).1 rfl (by first | omega | (simp;done) | decide) Me)) (fun _ _ _ h=>h))<|ag (iN rfl rfl)<|ar rfl<|ah) fun a w ab U=>wpList_nil (mo _ _ ?_)
 refine wp_ret<|bR (rs:=[.tmp 0]) rfl ab U (vs:=[_]) ⟨rfl,trivial⟩ ay ay (rfl)
end
section
theorem nu:bU Tryz.prog 11:=bY Tryz.func11
theorem EA:bU Tryz.prog 22:=bY Tryz.func22
theorem VV:bU Tryz.prog 48:=bY Tryz.func48
theorem nm(n m:Int)(hm:1≤m)(bA : -9223372036854775808≤n∧n≤9223372036854775807)(w:World):ch Tryz.prog 11 [az n,az m] w (fun r _ _=>r=az (cM.fo n m)):=by
 refine cI Tryz.func11 rfl Tryz.ntmps11 (Nat.le_of_ble_eq_true rfl) fun a ab U=>aB ab U (ar rfl<|ah) fun a w ab U=>?_
 obtain ⟨bC,aZ,U⟩:=U.cT
 refine lK (γ:=Int) (fun (c:Int)=>[(0,az c)]) [(1,_)] (fun (c:Int)=>bC) (fun (c:Int)=>c=(if n<0 then -(n+1) else n)∧0≤c) (ab.sub ⟨rfl,trivial⟩) U ?_ ?_
 ·subst aZ
  refine aB ab U (ai rfl<|ag (cK rfl rfl)<|ah) fun a w ab U=>b9 ab rfl (fun aS=>?_) (fun aS=>?_)
  ·refine bq ab U (ai rfl<|bX rfl rfl<|ag (Cm rfl (by omega))<|ar rfl<|ah) fun a w ab U=>⟨(-(n+1)),?_,ab.sub ⟨rfl,rfl,trivial⟩,?_⟩
   ·exact ⟨by rw [if_pos aS],by omega⟩
   ·exact U
  ·refine wp_skip<|⟨(n),?_,ab.sub ⟨rfl,rfl,trivial⟩,?_⟩
   ·exact ⟨by rw [if_neg aS],by omega⟩
   ·exact U
 rintro c a w ba ab U
 subst aZ;(try dsimp only at ba ab U)
 obtain ⟨bu,h6⟩:=ba
 replace U:=hM U
 refine aB ab U (ai rfl<|ai rfl<|ag (mI rfl rfl (by omega))<|ar rfl<|ah) fun a w ab U=>wp_ret ?_
 exact bR (rs:=[.tmp 4]) rfl ab U (vs:=[_]) ⟨rfl,trivial⟩ ay ay (by subst bu;rfl)
theorem PM(v:Value)(l:List aw.bO)(tick:Int)(key:List UInt8)(w:World)(au:bg Go.aJ.hv (b1 w) v l):ch Tryz.prog 24 [v,az tick,vs key] w (fun r _ _=>r=.tuple [vs (aw.dN l tick key).1,.bool (aw.dN l tick key).2].toArray):=by
 refine cI Tryz.func24 rfl Tryz.ntmps24 (Nat.le_of_ble_eq_true rfl) fun a ab U=>?_
 have cZ:=au.1
 refine aB ab U (ar rfl<|ar rfl<|ah) fun a w ab U=>aB ab U (ar rfl<|ah) fun a w ab U=>aB ab U (ar rfl<|ah) fun a w ab U=>ax fun dP cq=>aB ab U (ar rfl<|ah) fun a w ab U=>?_
 refine wp_block ?_
 obtain ⟨bC,aZ,U⟩:=U.cT
 refine df (γ:=Nat) (0) (fun (i:Nat)=>[(8,vs (aw.dN (l.take i) tick key).1),(9,.bool (aw.dN (l.take i) tick key).2),(10,az (i:Int))]) [(0,_),(1,_),(2,_)] (fun (i:Nat)=>bC) (fun (i:Nat)=>i≤l.length) (fun (i:Nat)=>l.length-i) (ab.sub ⟨rfl,rfl,rfl,rfl,rfl,rfl,trivial⟩) (by subst aZ;exact U) (by exact Nat.zero_le _) ?_
 rintro i a w ba ab U
 subst aZ;(try dsimp only at ba ab U)
 have eu:=ba
 replace U:=hM U
 refine ax fun et cz=>aB ab U (ai rfl<|ai rfl<|ag (dL dv au rfl)<|ag (cK rfl rfl)<|ah) fun a w ab U=>b9 ab rfl (fun aS=>?_) (fun aS=>?_)
 ·refine wp_skip<|cz _ _<|ax fun e1 cF=>wp_block ?_
  refine a8 fun fY dg=>aE ab U (ai rfl<|ai rfl<|ag (dG dv b2 au rfl rfl (by omega))<|ag (p2 b2 au rfl (by omega) rfl (s':=0) aA)<|ag (Ck bz au cD rfl rfl (by omega))<|ai rfl<|ag (vX rfl rfl)<|ai rfl<|ah) fun a w ab U=>jJ 7 24 7 ab U rfl rfl rfl rfl rfl (fun aO=>have aO:=(by first | exact of_decide_eq_true aO | exact aO);aN 24 rfl rfl rfl (bE rfl)<|aN 24 rfl rfl rfl (bE rfl)<|aN 24 rfl rfl rfl (dG dv b2 au rfl rfl (by omega))<|aN 24 rfl rfl rfl (p2 b2 au rfl (by omega) rfl (s':=0) aA)<|aN 24 rfl rfl rfl (yV bG au cD rfl rfl (by omega))<|aN 24 rfl rfl rfl (bE rfl)<|aN 24 rfl rfl rfl (vZ rfl rfl)<|ah) rfl rfl fun a w ab U=>?_
  refine wpList_nil (dg _ _ ?_)
  refine cX ab rfl (fun bs=>?_) (fun bs=>?_)
  ·(try simp only [c2] at bs)
   have vx:aw.jv (l.getD i aw.f0) tick key=true:=aw.FN bs.1 bs.2
   refine aB ab U (ai rfl<|ai rfl<|ag (dG dv b2 au rfl rfl (by omega))<|ag (p2 b2 au rfl (by omega) rfl (s':=0) aA)<|ag (ady bz au cD rfl rfl (by omega))<|ar rfl<|ah) fun a w ab U=>bq ab U (ar rfl<|ah) fun a w ab U=>cF _ _ ?_
   refine bq ab U (ai rfl<|bX rfl rfl<|ar rfl<|ah) fun a w ab U=>⟨(i+1),?_,?_,ab.sub ⟨(by show some (vs _)=some (vs _);rw [aw.vN (by omega)];first | (rw [if_pos vx,Int.toNat_natCast];done) | (rw [if_pos vx];done) | (rw [if_neg Bo];done)),(by show some (Value.bool _)=some (Value.bool _);rw [aw.vN (by omega)];first | (rw [if_pos vx];done) | (rw [if_neg Bo];done)),rfl,rfl,rfl,rfl,trivial⟩,?_⟩
   ·(try dsimp only);omega
   ·omega
   ·exact U
  ·(try simp only [c2] at bs)
   have Bo:¬ aw.jv (l.getD i aw.f0) tick key=true:=aw.Mh bs
   refine wp_skip<|cF _ _<|bq ab U (ai rfl<|bX rfl rfl<|ar rfl<|ah) fun a w ab U=>⟨(i+1),?_,?_,ab.sub ⟨(by show some (vs _)=some (vs _);rw [aw.vN (by omega)];first | (rw [if_pos vx,Int.toNat_natCast];done) | (rw [if_pos vx];done) | (rw [if_neg Bo];done)),(by show some (Value.bool _)=some (Value.bool _);rw [aw.vN (by omega)];first | (rw [if_pos vx];done) | (rw [if_neg Bo];done)),rfl,rfl,rfl,rfl,trivial⟩,?_⟩
   ·(try dsimp only);omega
   ·omega
   ·exact U
 ·obtain rfl:i=l.length:=by omega
  refine wp_exit<|cq _ _<|aB ab U (ai rfl<|ai rfl<|ar rfl<|ar rfl<|ah) fun a w ab U=>wp_ret ?_
  exact bR (rs:=[.tmp 6,.tmp 7]) rfl ab U (vs:=[_,_]) ⟨rfl,rfl,trivial⟩ ay ay (by rw [List.take_length])
theorem GA(n:Int)(bA : -9223372036854775808≤n∧n≤9223372036854775807)(w:World):ch Tryz.prog 22 [az n] w (fun r _ _=>r=vs (aw.keyOf n)):=by
 refine cI Tryz.func22 rfl Tryz.ntmps22 (Nat.le_of_ble_eq_true rfl) fun a ab U=>?_
 have rK:=cM.rm (n:=n) (m:=6) (by decide)
 refine aB ab U (ar rfl<|ah) fun a w ab U=>a8 fun cm bD=>aH ab U rfl (dX cl bz rfl rfl bJ (by decide) rfl rfl) ?_
 rintro v1 _ _ a w ⟨rfl,rfl⟩ ab U
 replace U:=eJ U
 refine aE ab U (ai rfl<|ag (bQ nu rfl (fun w U=>nm _ _ (by omega) (by omega) w ) (fun _ _ _ h=>h))<|ag (ft cl bz 0 rfl rfl rfl (by omega))<|ag (lE (f:=vs) (xs:=aw.r3) bz 0 [] rfl rfl (by show _<6;omega) rfl)<|ar rfl<|ah) fun a w ab U=>wpList_nil (bD _ _ ?_)
 refine wp_ret<|bR (rs:=[.tmp 2]) rfl ab U (vs:=[_]) ⟨rfl,trivial⟩ ay ay (rfl)
theorem ag4(n:Int)(bA:0≤n∧n≤4096)(w:World):ch Tryz.prog 48 [az n] w (fun r zs hs=>zs=[]∧hs=[]∧∃ s:List UInt8,r=vs s∧(s.length≤6400∧(n<60→s.length≤60))):=by
 refine cI Tryz.func48 rfl Tryz.ntmps48 (Nat.le_of_ble_eq_true rfl) fun a ab U=>?_
 have rK:=cM.rm (n:=n) (m:=64) (by decide)
 have vo:n<60→cM.fo n 64=n:=fun h=>cM.SL bA.1 (by omega)
 refine aB ab U (ar rfl<|ah) fun a w ab U=>aB ab U (ai rfl<|ag (bQ nu rfl (fun w U=>nm _ _ (by omega) (by omega) w ) (fun _ _ _ h=>h))<|ar rfl<|ah) fun a w ab U=>?_
 obtain ⟨bC,aZ,U⟩:=U.cT
 refine lK (γ:=Int) (fun (lV:Int)=>[(3,az lV)]) [(0,_)] (fun (lV:Int)=>bC) (fun (lV:Int)=>0≤lV∧lV≤6400∧(n<60→lV≤60)) (ab.sub ⟨rfl,trivial⟩) U ?_ ?_
 ·subst aZ
  refine aB ab U (ai rfl<|ag (eQ rfl rfl)<|ah) fun a w ab U=>b9 ab rfl (fun aS=>?_) (fun aS=>?_)
  ·refine bq ab U (ai rfl<|ag (hd rfl rfl (by omega))<|ar rfl<|ah) fun a w ab U=>⟨((100*cM.fo n 64)),?_,ab.sub ⟨rfl,rfl,trivial⟩,?_⟩
   ·exact ⟨by omega,by omega,fun h=>by have:=vo h;omega⟩
   ·exact U
  ·refine wp_skip<|⟨((cM.fo n 64)),?_,ab.sub ⟨rfl,rfl,trivial⟩,?_⟩
   ·exact ⟨by omega,by omega,fun h=>by have:=vo h;omega⟩
   ·exact U
 rintro lV a w ba ab U
 subst aZ;(try dsimp only at ba ab U)
 obtain ⟨yb,Ml,yc⟩:=ba
 replace U:=hM U
 obtain ⟨m,rfl⟩:∃ q:Nat,lV=(q:Int):=⟨lV.toNat,by omega⟩
 refine a8 fun dP cq=>aE ab U (ai rfl<|ah) fun a w ab U=>aH ab U rfl (Ei bS bF rfl rfl aI aI rfl) ?_
 rintro v1 _ _ a w ⟨rfl,rfl⟩ ab U
 replace U:=eJ U
 refine aE ab U (ar rfl<|ah) fun a w ab U=>wpList_nil ?_
 rw [show List.replicate m (Value.int .u8 0)=(List.replicate m (0:UInt8)).map bf by rw [List.map_replicate];rfl] at U
 refine cq _ _<|ax fun dw b3=>aB ab U (ar rfl<|ah) fun a w ab U=>wp_block ?_
 obtain ⟨bC,aZ,U⟩:=U.cT
 refine df (γ:=List UInt8×Nat) ((List.replicate m 0),0) (fun (cP,i)=>[(5,az (i:Int))]) [(0,_),(3,_),(4,_)] (fun (cP,i)=>(bC.set 0 (.row v1 5 1 m (cP.map bf)))) (fun (cP,i)=>i≤m∧cP.length=m) (fun (cP,i)=>m-i) (ab.sub ⟨rfl,rfl,rfl,rfl,trivial⟩) (by subst aZ;exact U) (by exact ⟨Nat.zero_le _,by simp⟩) ?_
 rintro ⟨cP,i⟩ a w ba ab U
 subst aZ;(try dsimp only at ba ab U)
 obtain ⟨eu,mq⟩:=ba
 replace U:=eJ U
 refine ax fun eU cO=>aB ab U (ai rfl<|ai rfl<|ag (cK rfl rfl)<|ah) fun a w ab U=>b9 ab rfl (fun bs=>?_) (fun bs=>?_)
 ·refine wp_skip<|cO _ _<|ax fun fY dg=>wp_block ?_
  refine du<|aE ab U (ai rfl<|ai rfl<|ai rfl<|ai rfl<|bX rfl rfl<|ag (qW bG bF rfl)<|ag (ft bS bF 0 rfl rfl rfl (by omega))<|ah) fun a w ab U=>aH ab U rfl (UH bF 0 rfl rfl rfl (by omega) rfl) ?_
  rintro _ _ _ a w ⟨rfl,rfl,rfl⟩ ab U
  replace U:=eJ U
  refine wpList_nil (dg _ _ ?_)
  refine bq ab U (ai rfl<|bX rfl rfl<|ar rfl<|ah) fun a w ab U=>⟨((cP.set i (hb (n+(i:Int)))),i+1),?_,?_,ab.sub ⟨rfl,rfl,rfl,rfl,trivial⟩,?_⟩
  ·(try dsimp only);omega
  ·exact ⟨by omega,by rw [List.length_set];exact mq⟩
  ·rw [← List.map_set] at U
   exact U
 ·refine wp_exit<|b3 _ _<|aB ab U (ai rfl<|ag (mF bS bz bF 0 rfl rfl)<|ar rfl<|ah) fun a w ab U=>wp_ret ?_
  exact bR (rs:=[.tmp 2]) rfl ab U (vs:=[_]) ⟨rfl,trivial⟩ ay ay (⟨rfl,rfl,_,rfl,by rw [mq];exact ⟨by omega,fun h=>by have:=yc h;omega⟩⟩)
end
section
attribute [local simp] aw.jP
end
section
theorem VO:bU Tryz.prog 20:=bY Tryz.func20
theorem K8:bU Tryz.prog 24:=bY Tryz.func24
attribute [local irreducible] aK.sum aj.eW aj.aT aj.cU aj.bh aj.c8 aj.fX aj.app aj.eo aw.dec aw.enc aw.dN aw.keyOf cM.fo
end
section
theorem Vg:bU Tryz.prog 12:=bY Tryz.func12
theorem VN:bU Tryz.prog 19:=bY Tryz.func19
attribute [local irreducible] aF.int aF.bytes aF.getInt aF.ef aK.sum aj.eW aj.aT aj.cU aj.bh aj.c8 aj.fX aj.app aj.eo aw.dec aw.enc cM.fo aw.valid
end
section
attribute [local irreducible] aF.int aF.bytes aF.getInt aF.ef aK.sum aj.eW aj.aT aj.cU aj.bh aj.c8 aj.fX aj.app aj.eo aw.dec aw.enc ao.new aw.add aw.taken
end
section
theorem VP:bU Tryz.prog 28:=bY Tryz.func28
attribute [local irreducible] aF.int aF.bytes aF.getInt aF.ef aK.sum aj.eW aj.aT aj.cU aj.bh aj.c8 aj.fX aj.app aj.eo aw.dec aw.enc ao.new aw.add aw.taken cM.fo ao.gN ao.read
end
section
attribute [local irreducible] aF.int aF.bytes aF.ints aF.strs aF.u3 iw.ru aF.getInt aF.fu aF.iu aF.bh aF.hQ aF.ef aF.run aF.AZ
end
section
attribute [local irreducible] aF.int aF.bytes aF.ints aF.strs aF.u3 iw.ru aF.getInt aF.fu aF.iu aF.bh aF.hQ aF.ef aF.run aF.AZ aF.WU aF.T6
def US(ps:List (List UInt8))(i:Nat):Nat:=ps.length+(ps.take i).flatten.length
def ai6(ps:List (List UInt8)):Bool:=decide (US ps ps.length≤2000)
end
section
theorem nf:a1 Tryz.prog 68 (.slice 147) 1 24 (Value.slice none 0 0):=⟨Tryz.underlying68,by kernel_rfl⟩
theorem mQ:a1 Tryz.prog 72 (.slice 142) 1 24 (Value.slice none 0 0):=⟨Tryz.underlying72,by kernel_rfl⟩
theorem mN : a1 Tryz.prog 142 (.struct #[⟨ "Key", 9, 0, false, "", "", 0⟩, ⟨ "Value", 9, 1, false, "", "", 16⟩]) 2 32 (.agg ([Value.string ⟨(List.nil : List UInt8).toArray⟩, Value.string ⟨(List.nil : List UInt8).toArray⟩]).toArray) := ⟨Tryz.underlying142, by kernel_rfl⟩
theorem mO : a1 Tryz.prog 147 (.struct #[⟨ "Key", 9, 0, false, "", "", 0⟩, ⟨ "Value", 9, 1, false, "", "", 16⟩]) 2 32 (.agg ([Value.string ⟨(List.nil : List UInt8).toArray⟩, Value.string ⟨(List.nil : List UInt8).toArray⟩]).toArray) := ⟨Tryz.underlying147, by kernel_rfl⟩
theorem Vb:bU Tryz.prog 113:=bY Tryz.func113
theorem Vc:bU Tryz.prog 114:=bY Tryz.func114
theorem Vy:bU Tryz.prog 152:=bY Tryz.func152
attribute [local irreducible] aK.sum aK.pU aK.iL aF.int aF.ints aF.bytes aK.hy bo.half Lib.compareBytes
theorem ag1(x:bo.cJ)(w:World):ch Tryz.prog 114 [.agg [vs x.1,vs x.2].toArray] w (fun r _ _=>r=.bool (bo.kQ x)):=by
 refine cI Tryz.func114 rfl Tryz.ntmps114 (Nat.le_of_ble_eq_true rfl) fun a ab U=>a8 fun dW cR=>aH ab U rfl (iT rfl) ?_
 rintro _ _ _ a w ⟨b6,rfl,rfl,rfl⟩ ab U
 refine aE ab U (ar rfl<|ah) fun a w ab U=>wpList_nil (cR _ _ ?_)
 refine a8 fun cm bD=>aE ab U (ag (aV mN rfl rfl (s':=0) aA)<|ag (bc bz 0 rfl rfl rfl rfl)<|ag (hB bz rfl)<|ag (eQ rfl rfl)<|ai rfl<|ah) fun a w ab U=>fS 4 7 4 ab U rfl rfl rfl rfl rfl (fun aO=>have aO:=(by first | exact of_decide_eq_false aO | exact aO);aN 7 rfl rfl rfl (aV mN rfl rfl (s':=0) aA)<|aN 7 rfl rfl rfl (bc bz 0 rfl rfl rfl rfl)<|aN 7 rfl rfl rfl (hB bz rfl)<|aN 7 rfl rfl rfl (eQ rfl rfl)<|ah) rfl rfl fun a w ab U=>?_
 refine aE ab U (ar rfl<|ah) fun a w ab U=>wpList_nil (bD _ _ ?_)
 refine wp_ret<|bR (rs:=[.tmp 2]) rfl ab U (vs:=[_]) ⟨rfl,trivial⟩ ay ay (by rw [← bo.DQ])
theorem aaf(v:Value)(ls:List bo.cJ)(w:World)(au:bg iU (b1 w) v ls):ch Tryz.prog 152 [v,.func (.func 114) (List.nil:List Value).toArray (List.nil:List Value).toArray] w (fun r _ _=>r=az (bo.kd bo.kQ ls)):=by
 refine cI Tryz.func152 rfl Tryz.ntmps152 (Nat.le_of_ble_eq_true rfl) fun a ab U=>?_
 have cZ:=au.1
 refine aB ab U (ar rfl<|ah) fun a w ab U=>ax fun cm bD=>aB ab U (ai rfl<|ag (dL mQ au rfl)<|ai rfl<|ah) fun a w ab U=>wp_block ?_
 obtain ⟨bC,aZ,U⟩:=U.cT
 refine df (γ:=Int) (0) (fun (i:Int)=>[(8,az i)]) [(0,_),(1,_),(7,_)] (fun (i:Int)=>bC) (fun (i:Int)=>0≤i∧i≤ls.length∧∀ j,j<i.toNat→bo.kQ (ls.getD j c3)=false) (fun (i:Int)=>(ls.length-i).toNat) (ab.sub ⟨rfl,rfl,rfl,rfl,trivial⟩) (by subst aZ;exact U) (by exact ⟨Int.le_refl _,by omega,fun j a6=>absurd a6 (by simp)⟩) ?_
 rintro i a w ba ab U
 subst aZ;(try dsimp only at ba ab U)
 obtain ⟨eu,j8,il⟩:=ba
 replace U:=hM U
 refine aB ab U (ag (cK rfl rfl)<|ah) fun a w ab U=>ax fun dw b3=>b9 ab rfl (fun aS=>?_) (fun aS=>?_)
 ·refine wp_skip<|b3 _ _<|ax fun et cz=>wp_block ?_
  refine aB ab U (ai rfl<|ar rfl<|ah) fun a w ab U=>aB ab U (ai rfl<|ai rfl<|ai rfl<|ag (dG mQ mN au rfl rfl (by omega))<|ag (OP mN au cD rfl rfl (by omega))<|ag (yR Vc rfl rfl (by exact fun w U=>ag1 (ls.getD i.toNat c3) w ) (fun _ _ _ h=>h))<|ah) fun a w ab U=>cX ab rfl (fun bs=>?_) (fun bs=>?_)
  ·refine ax fun fY dg=>bq ab U (ai rfl<|ar rfl<|ah) fun a w ab U=>dg _ _ ?_
   refine wp_ret<|bR (rs:=[.tmp 4]) rfl ab U (vs:=[_]) ⟨rfl,trivial⟩ ay ay (by rw [bo.Gv (i:=i.toNat) (by omega) bs il,Int.toNat_of_nonneg eu])
  ·refine wp_skip<|cz _ _<|bq ab U (bX rfl rfl<|ai rfl<|ah) fun a w ab U=>⟨(i+1),?_,?_,ab.sub ⟨rfl,rfl,rfl,rfl,trivial⟩,?_⟩
   ·(try dsimp only);omega
   ·exact ⟨by omega,by omega,bo.B2 eu bs il⟩
   ·exact U
 ·refine wp_exit<|bD _ _<|aB ab U (ar rfl<|ah) fun a w ab U=>wp_ret ?_
  exact bR (rs:=[.tmp 4]) rfl ab U (vs:=[_]) ⟨rfl,trivial⟩ ay ay (by rw [bo.BG (fun j a6=>il j (by omega))])
theorem TW(v:Value)(ls:List bo.cJ)(w:World)(au:bg iU (b1 w) v ls):ch Tryz.prog 113 [v,.func (.func 114) (List.nil:List Value).toArray (List.nil:List Value).toArray] w (fun r _ _=>r=.bool (ls.any bo.kQ)):=by
 refine cI Tryz.func113 rfl Tryz.ntmps113 (Nat.le_of_ble_eq_true rfl) fun a ab U=>?_
 have cZ:=au.1
 refine aB ab U (ar rfl<|ah) fun a w ab U=>aB ab U (ai rfl<|ai rfl<|ag (bQ Vy rfl (fun w U=>aaf _ _ w (bg.mono (U.le cD) au)) (fun _ _ _ h=>h))<|ag (jH rfl rfl)<|ar rfl<|ah) fun a w ab U=>wp_ret ?_
 exact bR (rs:=[.tmp 4]) rfl ab U (vs:=[_]) ⟨rfl,trivial⟩ ay ay (by rw [bo.BF])
theorem ag2(v:Value)(ls:List bo.cJ)(w:World)(au:bg iU (b1 w) v ls):ch Tryz.prog 75 [v] w (fun r _ _=>r=az (bo.jh ls)):=by
 refine cI Tryz.func75 rfl Tryz.ntmps75 (Nat.le_of_ble_eq_true rfl) fun a ab U=>?_
 have cZ:=au.1
 refine aB ab U (ar rfl<|ah) fun a w ab U=>ax fun cm bD=>a8 fun dH cf=>aE ab U (ai rfl<|ag (dL mQ au rfl)<|ag (eQ rfl rfl)<|ai rfl<|ah) fun a w ab U=>fS 3 7 2 ab U rfl rfl rfl rfl rfl (fun aO=>have aO:=(by first | exact of_decide_eq_false aO | exact aO);aN 7 rfl rfl rfl (bE rfl)<|aN 7 rfl rfl rfl (bQ Vb rfl (fun w U=>TW _ _ w (bg.mono (U.le cD) au)) (fun _ _ _ h=>h))<|ah) rfl rfl fun a w ab U=>?_
 refine wpList_nil (cf _ _ ?_)
 refine cX ab rfl (fun aS=>?_) (fun aS=>?_)
 ·(try simp only [c2] at aS)
  refine aB ab U (ar rfl<|ah) fun a w ab U=>wp_ret ?_
  exact bR (rs:=[.tmp 2]) rfl ab U (vs:=[_]) ⟨rfl,trivial⟩ ay ay (by rw [bo.Io (by rcases aS with h | h;exact .inl (by omega);exact .inr h)])
 ·(try simp only [c2] at aS)
  have nE:¬ (4096<ls.length∨ls.any bo.kQ=true):=fun h=>by rcases h with h | h;exact aS.1 (by omega);rw [aS.2] at h;cases h
  refine wp_skip<|bD _ _<|ax fun dw b3=>aB ab U (ai rfl<|ag (dL mQ au rfl)<|ai rfl<|ah) fun a w ab U=>wp_block ?_
  obtain ⟨bC,aZ,U⟩:=U.cT
  refine df (γ:=Int) (0) (fun (i:Int)=>[(13,az i)]) [(0,_),(12,_)] (fun (i:Int)=>bC) (fun (i:Int)=>0≤i∧i≤ls.length∧bo.np ls i.toNat=true) (fun (i:Int)=>(ls.length-i).toNat) (ab.sub ⟨rfl,rfl,rfl,trivial⟩) (by subst aZ;exact U) (by exact ⟨Int.le_refl _,by omega,rfl⟩) ?_
  rintro i a w ba ab U
  subst aZ;(try dsimp only at ba ab U)
  obtain ⟨eu,j8,has⟩:=ba
  replace U:=hM U
  refine aB ab U (ag (cK rfl rfl)<|ah) fun a w ab U=>ax fun e1 cF=>b9 ab rfl (fun bs=>?_) (fun bs=>?_)
  ·refine wp_skip<|cF _ _<|ax fun fY dg=>wp_block ?_
   refine aB ab U (ai rfl<|ar rfl<|ah) fun a w ab U=>ax fun gQ dz=>za mixed aA U ?_
   refine ji ab (ai rfl<|ag (eQ rfl rfl)<|ai rfl<|ah) fun a ab=>IC 2 18 12 ab rfl rfl rfl rfl rfl (fun aO=>have aO:=(by first | exact of_decide_eq_true aO | exact aO);aN 18 rfl rfl rfl (bE rfl)<|aN 18 rfl rfl rfl (bE rfl)<|aN 18 rfl rfl rfl (na rfl rfl (by omega))<|aN 18 rfl rfl rfl (dG mQ mN au rfl rfl (by omega))<|aN 18 rfl rfl rfl (sg mN au rfl (by omega) rfl (s':=0) aA)<|aN 18 rfl rfl rfl (vY bz au cD rfl rfl (by omega))<|aN 18 rfl rfl rfl (bE rfl)<|aN 18 rfl rfl rfl (bE rfl)<|aN 18 rfl rfl rfl (dG mQ mN au rfl rfl (by omega))<|aN 18 rfl rfl rfl (sg mN au rfl (by omega) rfl (s':=0) aA)<|aN 18 rfl rfl rfl (vY bz au cD rfl rfl (by omega))<|aN 18 rfl rfl rfl (ads rfl rfl)<|ah) rfl rfl fun a ab=>?_
   refine zQ ?_
   clear U;intro w U
   refine dz _ _<|cX ab rfl (fun b7=>?_) (fun b7=>?_)
   ·(try simp only [c2] at b7)
    refine aB ab U (ar rfl<|ah) fun a w ab U=>wp_ret ?_
    exact bR (rs:=[.tmp 2]) rfl ab U (vs:=[_]) ⟨rfl,trivial⟩ ay ay (by rw [bo.Q8 nE (bo.JC b7.1 (by omega) b7.2)])
   ·(try simp only [c2] at b7)
    refine wp_skip<|dg _ _<|bq ab U (bX rfl rfl<|ai rfl<|ah) fun a w ab U=>⟨(i+1),?_,?_,ab.sub ⟨rfl,rfl,rfl,trivial⟩,?_⟩
    ·(try dsimp only);omega
    ·exact ⟨by omega,by omega,bo.JB eu has (fun h=>b7.elim (fun aq=>aq h.1) (fun aq=>by have aQ:=h.2;rw [show bo.lt (ls.getD (i-1).toNat c3).1 (ls.getD i.toNat c3).1=true from aq] at aQ;cases aQ))⟩
    ·exact U
  ·refine wp_exit<|b3 _ _<|aB ab U (ar rfl<|ah) fun a w ab U=>wp_ret ?_
   exact bR (rs:=[.tmp 2]) rfl ab U (vs:=[_]) ⟨rfl,trivial⟩ ay ay (by rw [bo.Q7 nE (by rw [show ls.length=i.toNat by omega];exact has)])
theorem afa(v:Value)(ls:List bo.cJ)(w:World)(au:bg iU (b1 w) v ls):ch Tryz.prog 183 [v] w (fun r _ _=>r=az (bo.jh ls)):=by
 refine cI Tryz.func183 rfl Tryz.ntmps183 (Nat.le_of_ble_eq_true rfl) fun a ab U=>?_
 have cZ:=au.1
 refine aB ab U (ar rfl<|ah) fun a w ab U=>ax fun cm bD=>aB ab U (ai rfl<|ag (dL nf au rfl)<|ag (eQ rfl rfl)<|ah) fun a w ab U=>b9 ab rfl (fun aS=>?_) (fun aS=>?_)
 ·refine ax fun dP cq=>bq ab U (ar rfl<|ah) fun a w ab U=>cq _ _ ?_
  refine wp_ret<|bR (rs:=[.tmp 2]) rfl ab U (vs:=[_]) ⟨rfl,trivial⟩ ay ay (by rw [bo.Io (.inl (by omega))])
 ·refine wp_skip<|bD _ _<|ax fun dw b3=>aB ab U (ar rfl<|ah) fun a w ab U=>wp_block ?_
  obtain ⟨bC,aZ,U⟩:=U.cT
  refine df (γ:=Int) (0) (fun (i:Int)=>[(3,az i)]) [(0,_)] (fun (i:Int)=>bC) (fun (i:Int)=>0≤i∧i≤ls.length∧∀ j,j<i.toNat→bo.kQ (ls.getD j c3)=false) (fun (i:Int)=>(ls.length-i).toNat) (ab.sub ⟨rfl,rfl,trivial⟩) (by subst aZ;exact U) (by exact ⟨Int.le_refl _,by omega,fun j a6=>absurd a6 (by simp)⟩) ?_
  rintro i a w ba ab U
  subst aZ;(try dsimp only at ba ab U)
  obtain ⟨eu,j8,il⟩:=ba
  replace U:=hM U
  refine ax fun eU cO=>aB ab U (ai rfl<|ai rfl<|ag (dL nf au rfl)<|ag (cK rfl rfl)<|ah) fun a w ab U=>b9 ab rfl (fun bs=>?_) (fun bs=>?_)
  ·refine wp_skip<|cO _ _<|ax fun fY dg=>wp_block ?_
   refine a8 fun hE dS=>aE ab U (ai rfl<|ai rfl<|ag (dG nf mO au rfl rfl (by omega))<|ag (sg mO au rfl (by omega) rfl (s':=0) aA)<|ag (vY bz au cD rfl rfl (by omega))<|ag (hB bz rfl)<|ag (eQ rfl rfl)<|ai rfl<|ah) fun a w ab U=>fS 7 21 7 ab U rfl rfl rfl rfl rfl (fun aO=>have aO:=(by first | exact of_decide_eq_false aO | exact aO);aN 21 rfl rfl rfl (bE rfl)<|aN 21 rfl rfl rfl (bE rfl)<|aN 21 rfl rfl rfl (dG nf mO au rfl rfl (by omega))<|aN 21 rfl rfl rfl (sg mO au rfl (by omega) rfl (s':=0) aA)<|aN 21 rfl rfl rfl (OQ bz au cD rfl rfl (by omega))<|aN 21 rfl rfl rfl (hB bz rfl)<|aN 21 rfl rfl rfl (eQ rfl rfl)<|ah) rfl rfl fun a w ab U=>?_
   refine wpList_nil (dS _ _ ?_)
   refine cX ab rfl (fun b7=>?_) (fun b7=>?_)
   ·(try simp only [c2] at b7)
    have vr:bo.kQ (ls.getD i.toNat c3)=true:=by rw [← bo.DQ];simpa using b7
    refine aB ab U (ar rfl<|ah) fun a w ab U=>wp_ret ?_
    exact bR (rs:=[.tmp 2]) rfl ab U (vs:=[_]) ⟨rfl,trivial⟩ ay ay (by rw [bo.Io (.inr (bo.SG (by omega) vr))])
   ·(try simp only [c2] at b7)
    have vr:bo.kQ (ls.getD i.toNat c3)=false:=by rw [← bo.DQ];simpa using b7
    refine wp_skip<|dg _ _<|bq ab U (ai rfl<|bX rfl rfl<|ar rfl<|ah) fun a w ab U=>⟨(i+1),?_,?_,ab.sub ⟨rfl,rfl,trivial⟩,?_⟩
    ·(try dsimp only);omega
    ·exact ⟨by omega,by omega,bo.B2 eu vr il⟩
    ·exact U
  ·have nE:¬ (4096<ls.length∨ls.any bo.kQ=true):=fun h=>by rcases h with h | h;exact aS (by omega);rw [bo.SH (fun j a6=>il j (by omega))] at h;cases h
   refine wp_exit<|b3 _ _<|ax fun iE eO=>aB ab U (ar rfl<|ah) fun a w ab U=>wp_block ?_
   obtain ⟨bC,aZ,U⟩:=U.cT
   refine df (γ:=Int) (1) (fun (i:Int)=>[(4,az i)]) [(0,_)] (fun (i:Int)=>bC) (fun (i:Int)=>1≤i∧(i≤ls.length∨i=1)∧bo.np ls i.toNat=true) (fun (i:Int)=>(ls.length-i).toNat) (ab.sub ⟨rfl,rfl,trivial⟩) (by subst aZ;exact U) (by exact ⟨Int.le_refl _,.inr rfl,rfl⟩) ?_
   rintro i a w ba ab U
   subst aZ;(try dsimp only at ba ab U)
   obtain ⟨eu,j8,has⟩:=ba
   replace U:=hM U
   refine ax fun kM gr=>aB ab U (ai rfl<|ai rfl<|ag (dL nf au rfl)<|ag (cK rfl rfl)<|ah) fun a w ab U=>b9 ab rfl (fun dr=>?_) (fun dr=>?_)
   ·refine wp_skip<|gr _ _<|ax fun mc hh=>wp_block ?_
    refine hZ mixed aA ab U (ai rfl<|ai rfl<|ag (dG nf mO au rfl rfl (by omega))<|ag (sg mO au rfl (by omega) rfl (s':=0) aA)<|ag (vY bz au cD rfl rfl (by omega))<|ai rfl<|ai rfl<|e2 rfl rfl<|ag (dG nf mO au rfl rfl (by omega))<|ag (sg mO au rfl (by omega) rfl (s':=0) aA)<|ag (vY bz au cD rfl rfl (by omega))<|ag (adK rfl rfl)<|ah) fun a w ab U=>cX ab rfl (fun dm=>?_) (fun dm=>?_)
    ·have fJ:bo.lt (ls.getD (i-1).toNat c3).1 (ls.getD i.toNat c3).1=false:=by rw [show (Op.bytesLess (ls.getD i.toNat c3).1 (ls.getD (i-1).toNat c3).1 || decide ((ls.getD i.toNat c3).1=(ls.getD (i-1).toNat c3).1)) = !bo.lt (ls.getD (i-1).toNat c3).1 (ls.getD i.toNat c3).1 from bo.Nk] at dm;simpa using dm
     refine aB ab U (ar rfl<|ah) fun a w ab U=>wp_ret ?_
     exact bR (rs:=[.tmp 2]) rfl ab U (vs:=[_]) ⟨rfl,trivial⟩ ay ay (by rw [bo.Q8 nE (bo.JC (by omega) (by omega) fJ)])
    ·have fJ:bo.lt (ls.getD (i-1).toNat c3).1 (ls.getD i.toNat c3).1=true:=by rw [show (Op.bytesLess (ls.getD i.toNat c3).1 (ls.getD (i-1).toNat c3).1 || decide ((ls.getD i.toNat c3).1=(ls.getD (i-1).toNat c3).1)) = !bo.lt (ls.getD (i-1).toNat c3).1 (ls.getD i.toNat c3).1 from bo.Nk] at dm;simpa using dm
     refine wp_skip<|hh _ _<|bq ab U (ai rfl<|bX rfl rfl<|ar rfl<|ah) fun a w ab U=>⟨(i+1),?_,?_,ab.sub ⟨rfl,rfl,trivial⟩,?_⟩
     ·(try dsimp only);omega
     ·exact ⟨by omega,.inl (by omega),bo.JB (by omega) has (fun h=>by rw [fJ] at h;exact absurd h.2 (by simp))⟩
     ·exact U
   ·refine wp_exit<|eO _ _<|aB ab U (ar rfl<|ah) fun a w ab U=>wp_ret ?_
    exact bR (rs:=[.tmp 2]) rfl ab U (vs:=[_]) ⟨rfl,trivial⟩ ay ay (by rw [bo.Q7 nE (by by_cases cC:ls.length=0;rw [cC];rfl;rw [show ls.length=i.toNat by omega];exact has)])
theorem abE(a b:Int)(n:Nat)(a7:0≤a∧a≤1099511627776)(bA:b=a+n)(oZ:2≤n)(Bq:n≤1099511627776)(w:World):ch Tryz.prog 118 [az a,az b] w (fun r _ _=>r=az (a+bo.half n)):=by
 refine cI Tryz.func118 rfl Tryz.ntmps118 (Nat.le_of_ble_eq_true rfl) fun a ab U=>aB ab U (ar rfl<|ah) fun a w ab U=>aB ab U (ar rfl<|ah) fun a w ab U=>ax fun dH cf=>wp_block ?_
 obtain ⟨bC,aZ,U⟩:=U.cT
 refine df (γ:=Int×Nat) (1,0) (fun (m,j)=>[(5,az m)]) [(0,_),(1,_)] (fun (m,j)=>bC) (fun (m,j)=>m=((2^j:Nat):Int)∧(j=0∨2^j<n)∧1≤m∧m≤1099511627776) (fun (m,j)=>(2*1099511627776-m).toNat) (ab.sub ⟨rfl,rfl,rfl,trivial⟩) (by subst aZ;exact U) (by exact ⟨rfl,.inl rfl,by omega,by omega⟩) ?_
 rintro ⟨m,j⟩ a w ba ab U
 subst aZ;(try dsimp only at ba ab U)
 obtain ⟨hm,a6,Ml,yc⟩:=ba
 replace U:=hM U
 refine ax fun dP cq=>aB ab U (ai rfl<|ag (hd rfl rfl (by omega))<|ai rfl<|ai rfl<|e2 rfl rfl<|ag (cK rfl rfl)<|ah) fun a w ab U=>b9 ab rfl (fun aS=>?_) (fun aS=>?_)
 ·refine wp_skip<|cq _ _<|wp_block ?_
  refine bq ab U (ai rfl<|ag (hd rfl rfl (by omega))<|ar rfl<|ah) fun a w ab U=>⟨(m*2,j+1),?_,?_,ab.sub ⟨rfl,rfl,rfl,trivial⟩,?_⟩
  ·(try dsimp only);omega
  ·exact ⟨by rw [Nat.pow_succ,hm];push_cast;omega,.inr (by rw [Nat.pow_succ];omega),by omega,by omega⟩
  ·exact U
 ·have F0:=bo.Oz hm a6 (by omega) oZ
  refine wp_exit<|cf _ _<|aB ab U (ai rfl<|ai rfl<|bX rfl rfl<|ar rfl<|ah) fun a w ab U=>wp_ret ?_
  exact bR (rs:=[.tmp 4]) rfl ab U (vs:=[_]) ⟨rfl,trivial⟩ ay ay (by rw [F0])
theorem XR(b:Int)(n:Nat)(bA:b=n)(oZ:2≤n)(Bq:n≤1099511627776)(w:World):ch Tryz.prog 153 [az b] w (fun r _ _=>r=az (bo.half n)):=by
 refine cI Tryz.func153 rfl Tryz.ntmps153 (Nat.le_of_ble_eq_true rfl) fun a ab U=>aB ab U (ar rfl<|ah) fun a w ab U=>aB ab U (ar rfl<|ah) fun a w ab U=>ax fun dH cf=>wp_block ?_
 obtain ⟨bC,aZ,U⟩:=U.cT
 refine df (γ:=Int×Nat) (1,0) (fun (m,j)=>[(3,az m)]) [(0,_)] (fun (m,j)=>bC) (fun (m,j)=>m=((2^j:Nat):Int)∧(j=0∨2^j<n)∧1≤m∧m≤1099511627776) (fun (m,j)=>(2*1099511627776-m).toNat) (ab.sub ⟨rfl,rfl,trivial⟩) (by subst aZ;exact U) (by exact ⟨rfl,.inl rfl,by omega,by omega⟩) ?_
 rintro ⟨m,j⟩ a w ba ab U
 subst aZ;(try dsimp only at ba ab U)
 obtain ⟨hm,a6,Ml,yc⟩:=ba
 replace U:=hM U
 refine ax fun dP cq=>aB ab U (ai rfl<|ag (hd rfl rfl (by omega))<|ai rfl<|ag (cK rfl rfl)<|ah) fun a w ab U=>b9 ab rfl (fun aS=>?_) (fun aS=>?_)
 ·refine wp_skip<|cq _ _<|wp_block ?_
  refine bq ab U (ai rfl<|ag (hd rfl rfl (by omega))<|ar rfl<|ah) fun a w ab U=>⟨(2*m,j+1),?_,?_,ab.sub ⟨rfl,rfl,trivial⟩,?_⟩
  ·(try dsimp only);omega
  ·exact ⟨by rw [Nat.pow_succ,hm];push_cast;omega,.inr (by rw [Nat.pow_succ];omega),by omega,by omega⟩
  ·exact U
 ·have F0:=bo.Oz hm a6 (by omega) oZ
  refine wp_exit<|cf _ _<|aB ab U (ai rfl<|ar rfl<|ah) fun a w ab U=>wp_ret ?_
  exact bR (rs:=[.tmp 2]) rfl ab U (vs:=[_]) ⟨rfl,trivial⟩ ay ay (by rw [F0])
end
section
theorem zz:a1 Tryz.prog 197 (.func #[3,3] #[62] false) 1 8 (Value.nilFunc):=⟨Tryz.underlying197,by kernel_rfl⟩
theorem V6:bU Tryz.prog 75:=bY Tryz.func75
theorem Ll:bU Tryz.prog 76:=bY Tryz.func76
theorem V7:bU Tryz.prog 77:=bY Tryz.func77
theorem AN:bU Tryz.prog 115:=bY Tryz.func115
theorem Eu:bU Tryz.prog 116:=bY Tryz.func116
theorem Vd:bU Tryz.prog 117:=bY Tryz.func117
theorem Ve:bU Tryz.prog 118:=bY Tryz.func118
theorem Vf:bU Tryz.prog 119:=bY Tryz.func119
attribute [local irreducible] aK.sum aK.pU aK.iL aF.int aF.ints aF.bytes aK.hy bo.half Lib.compareBytes
theorem aa0(x:bo.cJ)(aL:x.1.length<1048576∧x.2.length<1048576)(w:World){fU:Nat×Nat}{fT:TypeId}(fp:w.heap[1]?=some (.cells (aK.ek.map cx).toArray fT fU)):ch Tryz.prog 117 [.agg [vs x.1,vs x.2].toArray] w (fun r _ _=>r=.agg ((bo.qO x).map bf).toArray):=by
 refine cI Tryz.func117 rfl Tryz.ntmps117 (Nat.le_of_ble_eq_true rfl) fun a ab U=>?_
 have Br:=aK.oh 3 [x.1,x.2]
 refine a8 fun dW cR=>aH ab U rfl (iT rfl) ?_
 rintro _ _ _ a w ⟨b6,rfl,rfl,rfl⟩ ab U
 refine aH ab U rfl (c1 cW) ?_
 rintro _ _ _ a w ⟨dk,rfl,rfl,rfl⟩ ab U
 rw [show List.replicate 16 (Value.int .u8 0)=(List.replicate 16 (0:UInt8)).map bf from by rw [List.map_replicate] <;> rfl] at U
 refine wpList_nil (cR _ _ ?_)
 refine a8 fun cm bD=>aE ab U (ag (aV mN rfl rfl (s':=0) aA)<|ag (bc bz 1 rfl rfl rfl rfl)<|ag (aV mN rfl rfl (s':=0) aA)<|ag (bc bz 1 rfl rfl rfl rfl)<|ah) fun a w ab U=>aH ab U rfl (dX cl bz rfl rfl bJ (by decide) rfl rfl) ?_
 rintro v3 _ _ a w ⟨rfl,rfl⟩ ab U
 replace U:=ez U
 refine aE ab U (ag (bQ AN rfl (fun w U=>B6 _ _ _ (by simp;omega) (by simp) w (k2 (f:=vs) (xs:=[x.1,x.2]) (U.own _ (List.mem_of_getElem? (i:=0) rfl)).1 (by simp;omega) rfl (by first | decide | omega)) (U.ext _ _ fp)) (fun _ _ _ h=>h))<|ah) fun a w ab U=>aH ab U rfl (cA cW 1 rfl rfl rfl rfl aI bJ aI) ?_
 rintro _ _ _ a w ⟨rfl,rfl,rfl⟩ ab U
 replace U:=ez U
 refine wpList_nil (bD _ _ ?_)
 refine wp_ret<|bR (rs:=[.cell 2 62]) rfl ab U (vs:=[_]) ⟨⟨_,_,_,_,_,_,_,rfl,List.mem_of_getElem? (i:=1) rfl,cW,.inl ⟨rfl,aI,rfl⟩⟩,trivial⟩ ay ay (rfl)
theorem acf(da db:List UInt8)(a7:da.length=16)(au:db.length=16)(w:World){fU:Nat×Nat}{fT:TypeId}(fp:w.heap[1]?=some (.cells (aK.ek.map cx).toArray fT fU)):ch Tryz.prog 119 [.agg ((da).map bf).toArray,.agg ((db).map bf).toArray] w (fun r _ _=>r=.agg ((bo.pV da db).map bf).toArray):=by
 refine cI Tryz.func119 rfl Tryz.ntmps119 (Nat.le_of_ble_eq_true rfl) fun a ab U=>?_
 have Br:=aK.oh 4 [da,db]
 refine a8 fun dW cR=>aH ab U rfl (iT rfl) ?_
 rintro _ _ _ a w ⟨b6,rfl,rfl,rfl⟩ ab U
 refine aH ab U rfl (iT rfl) ?_
 rintro _ _ _ a w ⟨dk,rfl,rfl,rfl⟩ ab U
 refine aH ab U rfl (c1 cW) ?_
 rintro _ _ _ a w ⟨kz,rfl,rfl,rfl⟩ ab U
 rw [show List.replicate 16 (Value.int .u8 0)=(List.replicate 16 (0:UInt8)).map bf from by rw [List.map_replicate] <;> rfl] at U
 refine wpList_nil (cR _ _ ?_)
 refine ax fun cm bD=>h2 4 mixed aA ab U (ag (qY cW bF rfl)<|ag (yP bS bz bF 2 rfl rfl aI)<|ag (qY cW bF rfl)<|ag (yP bS bz bF 1 rfl rfl aI)<|ah) fun a w ab U=>aH ab U rfl (dX cl bz rfl rfl bJ (by decide) rfl rfl) ?_
 rintro v4 _ _ a w ⟨rfl,rfl⟩ ab U
 replace U:=iK U
 refine aE ab U (ag (bQ AN rfl (fun w U=>B6 _ _ _ (by simp;omega) (by simp) w (k2 (f:=vs) (xs:=[da,db]) (U.own _ (List.mem_of_getElem? (i:=0) rfl)).1 (by simp;omega) rfl (by first | decide | omega)) (U.ext _ _ fp)) (fun _ _ _ h=>h))<|ah) fun a w ab U=>aH ab U rfl (cA cW 1 rfl rfl rfl rfl aI bJ aI) ?_
 rintro _ _ _ a w ⟨rfl,rfl,rfl⟩ ab U
 replace U:=iK U
 refine wpList_nil (bD _ _ ?_)
 refine wp_ret<|bR (rs:=[.cell 4 62]) rfl ab U (vs:=[_]) ⟨⟨_,_,_,_,_,_,_,rfl,List.mem_of_getElem? (i:=1) rfl,cW,.inl ⟨rfl,aI,rfl⟩⟩,trivial⟩ ay ay (rfl)
theorem PR(n:Int)(d:List UInt8)(aT:d.length=16)(bA:0≤n∧n≤9223372036854775807)(w:World){fU:Nat×Nat}{fT:TypeId}(fp:w.heap[1]?=some (.cells (aK.ek.map cx).toArray fT fU)):ch Tryz.prog 76 [az n,.agg ((d).map bf).toArray] w (fun r _ _=>r=.agg ((bo.jW n.toNat d).map bf).toArray):=by
 refine cI Tryz.func76 rfl Tryz.ntmps76 (Nat.le_of_ble_eq_true rfl) fun a ab U=>?_
 have Br:=aK.oh 4 [aF.int n,d]
 have akR:=aK.oh 4 [aF.int 0]
 have oa:=aF.od n
 have aj6:=aF.od 0
 refine a8 fun dW cR=>aH ab U rfl (iT rfl) ?_
 rintro _ _ _ a w ⟨b6,rfl,rfl,rfl⟩ ab U
 refine aH ab U rfl (c1 cW) ?_
 rintro _ _ _ a w ⟨dk,rfl,rfl,rfl⟩ ab U
 rw [show List.replicate 16 (Value.int .u8 0)=(List.replicate 16 (0:UInt8)).map bf from by rw [List.map_replicate] <;> rfl] at U
 refine wpList_nil (cR _ _ ?_)
 refine ax fun cm bD=>aB ab U (ai rfl<|ag (fc rfl rfl)<|ah) fun a w ab U=>b9 ab rfl (fun aS=>?_) (fun aS=>?_)
 ·refine ax fun dP cq=>du ?_
  refine aH ab U rfl (eB AS rfl (fun w U=>C7 _ w )) ?_
  rintro v3 _ _ a w ⟨_,_,rfl,rfl,rfl,rfl⟩ ab U
  replace U:=ez U
  refine aE ab U (ag (mF bS bz bF 0 rfl rfl)<|ah) fun a w ab U=>aH ab U rfl (dX cl bz rfl rfl bJ (by decide) rfl rfl) ?_
  rintro v5 _ _ a w ⟨rfl,rfl⟩ ab U
  replace U:=iK U
  refine aE ab U (ag (bQ AN rfl (fun w U=>B6 _ _ _ (by simp;omega) (by simp) w (k2 (f:=vs) (xs:=[aF.int 0]) (U.own _ (List.mem_of_getElem? (i:=0) rfl)).1 (by simp;omega) rfl (by first | decide | omega)) (U.ext _ _ fp)) (fun _ _ _ h=>h))<|ah) fun a w ab U=>aH ab U rfl (cA cW 2 rfl rfl rfl rfl aI bJ aI) ?_
  rintro _ _ _ a w ⟨rfl,rfl,rfl⟩ ab U
  replace U:=iK U
  refine wpList_nil (cq _ _ ?_)
  refine wp_ret<|bR (rs:=[.cell 4 62]) rfl ab U (vs:=[_]) ⟨⟨_,_,_,_,_,_,_,rfl,List.mem_of_getElem? (i:=2) rfl,cW,.inl ⟨rfl,aI,rfl⟩⟩,trivial⟩ ay ay (by unfold bo.jW;rw [if_pos (by omega)])
 ·refine wp_skip<|bD _ _<|ax fun dw b3=>?_
  revert U;revert ab;apply ho (J:=jM (α0:=Value) (α1:=Value) 18 _ _ _ _ _) #[false,false,false,false,false,false,false,false] 8 mixed rfl rfl
  ·intro w ab U
   refine aR 0 rfl ab (U.ak ae ay) (bE rfl) fun a ab=>aR 3 rfl ab (U.ak ae (ae.n)) (qY cW bF rfl) fun a ab=>aR 4 rfl ab (U.ak ae (ae.n)) (yP bS bz bF 0 rfl rfl aI) fun a ab=>bW 1 rfl rfl ab U rfl (eB AS rfl (fun w U=>C7 _ w )) ?_
   rintro Rn _ _ a w ⟨_,_,rfl,rfl,rfl,rfl⟩ ab U
   refine ⟨⟨.inr (U.ea (ae.n.n)),.inr (U.ea (ae.n.n)),al,trivial⟩,?_⟩
   refine aR 2 rfl ab (U.ak ae (ay.k)) (mF bS bz bF 0 rfl rfl) fun a ab=>bW 5 rfl rfl ab U rfl (dX cl bz rfl rfl bJ (by decide) rfl rfl) ?_
   rintro Ro _ _ a w ⟨rfl,rfl⟩ ab U
   refine ⟨⟨al,al,al,al,trivial⟩,?_⟩
   refine bW 6 rfl rfl ab U rfl (eI (bQ AN rfl (fun w U=>B6 _ _ _ (by simp;omega) (by simp) w (k2 (f:=vs) (xs:=[aF.int n,d]) (U.own _ (List.mem_of_getElem? (i:=0) rfl)).1 (by simp;omega) rfl (by first | decide | omega)) (U.ext _ _ fp)) (fun _ _ _ h=>h))) ?_
   rintro _ _ _ a w ⟨rfl,rfl,rfl⟩ ab U
   refine ⟨⟨al,al,al,al,trivial⟩,?_⟩
   refine bW 7 rfl rfl ab U rfl (cA cW 2 rfl rfl rfl rfl aI bJ aI) ?_
   rintro _ _ _ a w ⟨rfl,rfl,rfl⟩ ab U
   refine ⟨⟨al,al,al,al,trivial⟩,?_⟩
   exact ei aA (kY Rn Ro (trivial) (ab.sub (L':=[(4,_)]) ⟨rfl,trivial⟩) U)
  rintro a w ⟨Rn,Ro, -,ab,U⟩
  (try dsimp only at ab U)
  refine b3 _ _<|wp_ret ?_
  exact bR (rs:=[.cell 4 62]) rfl ab U (vs:=[_]) ⟨⟨_,_,_,_,_,_,_,rfl,List.mem_of_getElem? (i:=2) rfl,cW,.inl ⟨rfl,aI,rfl⟩⟩,trivial⟩ ay ay (by unfold bo.jW;rw [if_neg (by omega),Int.toNat_of_nonneg bA.1])
theorem Ua(v:Value)(ls:List bo.cJ)(bK fx:Nat){u0 Aq:TypeId}{vh AY:Nat×Nat}(hl:ls.length<1048576)(aL:∀ x∈ls,x.1.length<1048576∧x.2.length<1048576)(fU:Nat×Nat)(fT:TypeId)(f:Nat)(ih:∀ (lo aG:Int) (n:Nat) (a7:0≤lo) (bA:aG=lo+n) (kV:1≤n) (o0:n≤f) (vq:lo+n≤ls.length) (w:World) (e8:w.heap[bK]?=some (.cells [v].toArray u0 vh)) (au:bg iU (b1 w) v ls) (pJ:w.heap[fx]?=some (.cells [.func (.func 116) (List.nil:List Value).toArray [Value.pointer (some ⟨bK,0,none⟩),Value.pointer (some ⟨fx,0,none⟩)].toArray].toArray Aq AY)) (fp:w.heap[1]?=some (.cells (aK.ek.map cx).toArray fT fU)),ch Tryz.prog 116 [az lo,az aG,.pointer (some ⟨bK,0,none⟩),.pointer (some ⟨fx,0,none⟩)] w (fun r _ _=>r=.agg ((bo.jf (bo.sub ls lo.toNat n)).map bf).toArray))(lo aG:Int)(n:Nat)(a7:0≤lo)(bA:aG=lo+n)(kV:1≤n)(o0:n≤f+1)(vq:lo+n≤ls.length)(w:World)(e8:w.heap[bK]?=some (.cells [v].toArray u0 vh))(au:bg iU (b1 w) v ls)(pJ:w.heap[fx]?=some (.cells [.func (.func 116) (List.nil:List Value).toArray [Value.pointer (some ⟨bK,0,none⟩),Value.pointer (some ⟨fx,0,none⟩)].toArray].toArray Aq AY))(fp:w.heap[1]?=some (.cells (aK.ek.map cx).toArray fT fU)):ch Tryz.prog 116 [az lo,az aG,.pointer (some ⟨bK,0,none⟩),.pointer (some ⟨fx,0,none⟩)] w (fun r _ _=>r=.agg ((bo.jf (bo.sub ls lo.toNat n)).map bf).toArray):=by
 refine cI Tryz.func116 rfl Tryz.ntmps116 (Nat.le_of_ble_eq_true rfl) fun a ab U=>?_
 have cZ:=au.1
 have Mg:=bo.vp n
 have o1:=bo.zf (ls:=bo.sub ls lo.toNat n) (by rw [bo.wB (by omega)];omega)
 refine a8 fun dW cR=>aH ab U rfl (c1 cW) ?_
 rintro _ _ _ a w ⟨b6,rfl,rfl,rfl⟩ ab U
 rw [show List.replicate 16 (Value.int .u8 0)=(List.replicate 16 (0:UInt8)).map bf from by rw [List.map_replicate] <;> rfl] at U
 refine wpList_nil (cR _ _ ?_)
 refine ax fun cm bD=>aB ab U (ai rfl<|ai rfl<|e2 rfl rfl<|ag (fc rfl rfl)<|ah) fun a w ab U=>b9 ab rfl (fun aS=>?_) (fun aS=>?_)
 ·have yf:n=1:=by omega
  have BB:=aL (ls.getD lo.toNat c3) (bo.getD_in (by omega))
  have L9:=bo.GI (ls.getD lo.toNat c3)
  refine a8 fun dP cq=>aE ab U (ag (iC mQ rfl e8 rfl rfl)<|ai rfl<|ag (dG mQ mN au rfl rfl (by omega))<|ag (OP mN au cD rfl rfl (by omega))<|ag (bQ Vd rfl (fun w U=>aa0 (ls.getD lo.toNat c3) BB w (U.ext _ _ fp)) (fun _ _ _ h=>h))<|ah) fun a w ab U=>aH ab U rfl (cA cW 0 rfl rfl rfl rfl aI bJ aI) ?_
  rintro _ _ _ a w ⟨rfl,rfl,rfl⟩ ab U
  replace U:=eJ U
  refine wpList_nil (cq _ _ ?_)
  refine wp_ret<|bR (rs:=[.cell 6 62]) rfl ab U (vs:=[_]) ⟨⟨_,_,_,_,_,_,_,rfl,List.mem_of_getElem? (i:=0) rfl,cW,.inl ⟨rfl,aI,rfl⟩⟩,trivial⟩ ay ay (by rw [yf,bo.PW (by omega)])
 ·have oZ:2≤n:=by omega
  have Bk:=bo.tw oZ
  have ew:=bo.zf (ls:=bo.sub ls lo.toNat (bo.half n)) (by rw [bo.wB (by omega)];omega)
  have akY:=bo.zf (ls:=bo.sub ls (lo+bo.half n).toNat (n-bo.half n)) (by rw [bo.wB (by omega)];omega)
  have fO:=bo.GV (bo.jf (bo.sub ls lo.toNat (bo.half n))) (bo.jf (bo.sub ls (lo+bo.half n).toNat (n-bo.half n)))
  refine wp_skip<|bD _ _<|aB ab U (ai rfl<|ai rfl<|ag (bQ Ve rfl (fun w U=>abE _ _ n (by omega) (by omega) (by omega) (by omega) w ) (fun _ _ _ h=>h))<|ar rfl<|ah) fun a w ab U=>ax fun et cz=>h2 9 mixed aA ab U (ag (iC zz rfl pJ rfl rfl)<|ai rfl<|ai rfl<|ag (yR Eu rfl rfl (by exact fun w U=>ih _ _ (bo.half n) (by omega) (by omega) (by omega) (by omega) (by omega) w (U.ext _ _ e8) (bg.mono (U.le cD) au) (U.ext _ _ pJ) (U.ext _ _ fp)) (fun _ _ _ h=>h))<|ag (iC zz rfl pJ rfl rfl)<|ai rfl<|ai rfl<|ag (yR Eu rfl rfl (by exact fun w U=>ih _ _ (n-bo.half n) (by omega) (by omega) (by omega) (by omega) (by omega) w (U.ext _ _ e8) (bg.mono (U.le cD) au) (U.ext _ _ pJ) (U.ext _ _ fp)) (fun _ _ _ h=>h))<|ag (bQ Vf rfl (fun w U=>acf _ _ (by first | with_reducible assumption | omega) (by first | with_reducible assumption | omega) w (U.ext _ _ fp)) (fun _ _ _ h=>h))<|ah) fun a w ab U=>?_
  refine aH ab U rfl (cA cW 0 rfl rfl rfl rfl aI bJ aI) ?_
  rintro _ _ _ a w ⟨rfl,rfl,rfl⟩ ab U
  replace U:=eJ U
  refine wpList_nil (cz _ _ ?_)
  refine wp_ret<|bR (rs:=[.cell 6 62]) rfl ab U (vs:=[_]) ⟨⟨_,_,_,_,_,_,_,rfl,List.mem_of_getElem? (i:=0) rfl,cW,.inl ⟨rfl,aI,rfl⟩⟩,trivial⟩ ay ay (by rw [bo.PV (by omega) oZ,show lo.toNat+bo.half n=(lo+bo.half n).toNat by omega])
theorem T9(v:Value)(ls:List bo.cJ)(bK fx:Nat){u0 Aq:TypeId}{vh AY:Nat×Nat}(hl:ls.length<1048576)(aL:∀ x∈ls,x.1.length<1048576∧x.2.length<1048576)(fU:Nat×Nat)(fT:TypeId):∀ (f:Nat) (lo aG:Int) (n:Nat) (a7:0≤lo) (bA:aG=lo+n) (kV:1≤n) (o0:n≤f) (vq:lo+n≤ls.length) (w:World) (e8:w.heap[bK]?=some (.cells [v].toArray u0 vh)) (au:bg iU (b1 w) v ls) (pJ:w.heap[fx]?=some (.cells [.func (.func 116) (List.nil:List Value).toArray [Value.pointer (some ⟨bK,0,none⟩),Value.pointer (some ⟨fx,0,none⟩)].toArray].toArray Aq AY)) (fp:w.heap[1]?=some (.cells (aK.ek.map cx).toArray fT fU)),ch Tryz.prog 116 [az lo,az aG,.pointer (some ⟨bK,0,none⟩),.pointer (some ⟨fx,0,none⟩)] w (fun r _ _=>r=.agg ((bo.jf (bo.sub ls lo.toNat n)).map bf).toArray):=by
 intro f
 induction f with
 | zero=>intro lo aG n a7 bA kV o0;omega
 | succ f ih=>exact fun lo aG n a7 bA kV o0 vq w e8 au pJ fp=>Ua v ls bK fx hl aL fU fT f ih lo aG n a7 bA kV o0 vq w e8 au pJ fp
theorem Ub(v:Value)(ls:List bo.cJ)(hl:ls.length<1048576)(h1:1≤ls.length)(aL:∀ x∈ls,x.1.length<1048576∧x.2.length<1048576)(w:World)(au:bg iU (b1 w) v ls){fU:Nat×Nat}{fT:TypeId}(fp:w.heap[1]?=some (.cells (aK.ek.map cx).toArray fT fU)):ch Tryz.prog 77 [v] w (fun r _ _=>r=.agg ((bo.jf ls).map bf).toArray):=by
 refine cI Tryz.func77 rfl Tryz.ntmps77 (Nat.le_of_ble_eq_true rfl) fun a ab U=>?_
 have cZ:=au.1
 have o1:=bo.zf h1
 have Bu:(bo.jf (bo.sub ls 0 ls.length)).length=16:=by rw [bo.H4];exact o1
 refine a8 fun dW cR=>aH ab U rfl (m0 rfl (mL au)) ?_
 rintro _ _ _ a w ⟨b6,rfl,rfl,rfl⟩ ab U
 refine aH ab U rfl (c1 cW) ?_
 rintro _ _ _ a w ⟨dk,rfl,rfl,rfl⟩ ab U
 rw [show List.replicate 16 (Value.int .u8 0)=(List.replicate 16 (0:UInt8)).map bf from by rw [List.map_replicate] <;> rfl] at U
 refine wpList_nil (cR _ _ ?_)
 refine a8 fun cm bD=>aH ab U rfl (u4 zz (by rfl)) ?_
 rintro _ _ _ a w ⟨kz,rfl,rfl,rfl⟩ ab U
 refine wpList_nil (bD _ _ ?_)
 refine a8 fun dH cf=>aE ab U (ag (sk rfl rfl)<|ah) fun a w ab U=>aH ab U rfl (c7 zz 0 rfl rfl rfl rfl (by simp)) ?_
 rintro _ _ _ a w ⟨rfl,rfl,rfl⟩ ab U
 (try simp only [List.set_cons_zero,List.set_cons_succ] at U)
 replace U:=ez U
 refine wpList_nil (cf _ _ ?_)
 refine a8 fun dP cq=>aE ab U (ag (bc zz 0 rfl rfl rfl rfl)<|ag (bc mQ 2 rfl rfl rfl rfl)<|ag (dL mQ au rfl)<|ag (yR Eu rfl rfl (by exact fun w U=>T9 v ls _ _ hl aL _ _ ls.length 0 ls.length ls.length (by omega) (by omega) h1 (Nat.le_refl _) (by omega) w (kj U 2 rfl) (bg.mono (U.le cD) au) (kj U 0 rfl) (U.ext _ _ fp)) (fun _ _ _ h=>h))<|ah) fun a w ab U=>aH ab U rfl (cA cW 1 rfl rfl rfl rfl aI bJ aI) ?_
 rintro _ _ _ a w ⟨rfl,rfl,rfl⟩ ab U
 replace U:=ez U
 refine wpList_nil (cq _ _ ?_)
 refine wp_ret<|bR (rs:=[.cell 2 62]) rfl ab U (vs:=[_]) ⟨⟨_,_,_,_,_,_,_,rfl,List.mem_of_getElem? (i:=1) rfl,cW,.inl ⟨rfl,aI,rfl⟩⟩,trivial⟩ ay ay (by rw [show (0:Int).toNat=0 from rfl,bo.H4])
theorem abZ(v:Value)(ls:List bo.cJ)(w:World)(au:bg iU (b1 w) v ls){fU:Nat×Nat}{fT:TypeId}(fp:w.heap[1]?=some (.cells (aK.ek.map cx).toArray fT fU)):ch Tryz.prog 40 [v] w (fun r _ _=>r=.tuple [.agg (((bo.mK ls).1).map bf).toArray,az (bo.mK ls).2].toArray):=by
 refine cI Tryz.func40 rfl Tryz.ntmps40 (Nat.le_of_ble_eq_true rfl) fun a ab U=>?_
 have cZ:=au.1
 refine a8 fun dW cR=>aH ab U rfl (c1 cW) ?_
 rintro _ _ _ a w ⟨b6,rfl,rfl,rfl⟩ ab U
 rw [show List.replicate 16 (Value.int .u8 0)=(List.replicate 16 (0:UInt8)).map bf from by rw [List.map_replicate] <;> rfl] at U
 refine aE ab U (ar rfl<|ah) fun a w ab U=>wpList_nil (cR _ _ ?_)
 refine ax fun cm bD=>aB ab U (ai rfl<|ag (bQ V6 rfl (fun w U=>ag2 _ _ w (bg.mono (U.le cD) au)) (fun _ _ _ h=>h))<|ar rfl<|ah) fun a w ab U=>aB ab U (ai rfl<|ag (dM rfl rfl)<|ah) fun a w ab U=>eP ab rfl (fun aS=>?_) (fun aS=>?_)
 ·refine ax fun dw b3=>du ?_
  refine aE ab U (ag (oo rfl (q1 cW bF rfl))<|ai rfl<|ah) fun a w ab U=>aH ab U rfl (cA cW 0 rfl rfl rfl rfl aI bJ aI) ?_
  rintro _ _ _ a w ⟨rfl,rfl,rfl⟩ ab U
  replace U:=eJ U
  refine aE ab U (ar rfl<|ah) fun a w ab U=>wpList_nil (b3 _ _ ?_)
  refine wp_ret<|bR (rs:=[.cell 2 62,.tmp 3]) rfl ab U (vs:=[_,_]) ⟨⟨_,_,_,_,_,_,_,rfl,List.mem_of_getElem? (i:=0) rfl,cW,.inl ⟨rfl,aI,rfl⟩⟩,rfl,trivial⟩ ay ay (by rw [bo.HA (by simpa using aS)];rfl)
 ·have vI:bo.jh ls=0:=by simpa using aS
  have Gj:=bo.Q9 vI
  have yu:∀ x∈ls,x.1.length<1048576∧x.2.length<1048576:=fun x aL=>by have:=Gj.2.2 x aL;omega
  refine wp_skip<|bD _ _<|ax fun et cz=>aB ab U (ai rfl<|ag (dL mQ au rfl)<|ag (fc rfl rfl)<|ah) fun a w ab U=>b9 ab rfl (fun bs=>?_) (fun bs=>?_)
  ·have akX:∀ n d,(bo.jW n d).length=16:=bo.CB
   refine a8 fun e1 cF=>aE ab U (ag (oo rfl (q1 cW bF rfl))<|ag (bQ Ll rfl (fun w U=>PR _ (List.replicate 16 0) (by simp) (by omega) w (U.ext _ _ fp)) (fun _ _ _ h=>h))<|ah) fun a w ab U=>aH ab U rfl (cA cW 0 rfl rfl rfl rfl aI bJ aI) ?_
   rintro _ _ _ a w ⟨rfl,rfl,rfl⟩ ab U
   replace U:=eJ U
   refine aE ab U (ar rfl<|ah) fun a w ab U=>wpList_nil (cF _ _ ?_)
   refine wp_ret<|bR (rs:=[.cell 2 62,.tmp 3]) rfl ab U (vs:=[_,_]) ⟨⟨_,_,_,_,_,_,_,rfl,List.mem_of_getElem? (i:=0) rfl,cW,.inl ⟨rfl,aI,rfl⟩⟩,rfl,trivial⟩ ay ay (by rw [bo.aeN vI (by omega)];rfl)
  ·have rT:1≤ls.length:=by omega
   have o1:=bo.zf rT
   have Bu:=bo.CB ls.length (bo.jf ls)
   refine wp_skip<|cz _ _<|a8 fun fY dg=>aE ab U (ai rfl<|ag (dL mQ au rfl)<|ai rfl<|ag (bQ V7 rfl (fun w U=>Ub _ _ (by omega) rT yu w (bg.mono (U.le cD) au) (U.ext _ _ fp)) (fun _ _ _ h=>h))<|ag (bQ Ll rfl (fun w U=>PR _ _ o1 (by omega) w (U.ext _ _ fp)) (fun _ _ _ h=>h))<|ah) fun a w ab U=>aH ab U rfl (cA cW 0 rfl rfl rfl rfl aI bJ aI) ?_
   rintro _ _ _ a w ⟨rfl,rfl,rfl⟩ ab U
   replace U:=eJ U
   refine aE ab U (ar rfl<|ah) fun a w ab U=>wpList_nil (dg _ _ ?_)
   refine wp_ret<|bR (rs:=[.cell 2 62,.tmp 3]) rfl ab U (vs:=[_,_]) ⟨⟨_,_,_,_,_,_,_,rfl,List.mem_of_getElem? (i:=0) rfl,cW,.inl ⟨rfl,aI,rfl⟩⟩,rfl,trivial⟩ ay ay (by rw [bo.CC vI];rfl)
end
section
theorem VR:bU Tryz.prog 40:=bY Tryz.func40
attribute [local irreducible] aK.sum aK.pU aK.iL aw.dN aw.keys
theorem abd(b:Nat)(pj v:Value)(l:List aw.bO)(tick:Int)(fG:l.Pairwise (fun f g=>f.tk≤g.tk))(vD:l.length≤512)(w:World){bt:TypeId}{fz:Nat×Nat}(hl:w.heap[b]?=some (.cells [pj,v].toArray bt fz))(au:bg Go.aJ.hv (b1 w) v l){fzg:Nat×Nat}{btg:TypeId}(dF:w.heap[1]?=some (.cells (aK.ek.map cx).toArray btg fzg)):ch Tryz.prog 34 [.pointer (some ⟨b,0,none⟩),az tick] w (fun r _ _=>r=.agg (((bo.mK (aw.ia l tick)).1).map bf).toArray):=by
 refine cI Tryz.func34 rfl Tryz.ntmps34 (Nat.le_of_ble_eq_true rfl) fun a ab U=>?_
 have cZ:=au.1
 have oc:=aw.BJ l tick
 have Gk:=aw.r5 l tick
 have FZ:=aw.Nz (xi au) tick
 have iV:=aw.HB (aw.ia l tick)
 refine a8 fun dW cR=>aH ab U rfl (c1 cW) ?_
 rintro _ _ _ a w ⟨b6,rfl,rfl,rfl⟩ ab U
 rw [show List.replicate 16 (Value.int .u8 0)=(List.replicate 16 (0:UInt8)).map bf from by rw [List.map_replicate] <;> rfl] at U
 refine wpList_nil (cR _ _ ?_)
 refine ax fun cm bD=>aB ab U (ai rfl<|ag (p1 hD rfl rfl)<|ah) fun a w ab U=>cX ab rfl (fun h=>absurd h (by simp)) (fun _=>?_)
 refine wp_skip<|bD _ _<|a8 fun dP cq=>aE ab U (ai rfl<|ai rfl<|ah) fun a w ab U=>aH ab U rfl (eB EG rfl (fun w U=>Ng _ _ _ _ _ fG (by omega) w (U.ext _ _ hl) (bg.mono (U.le cD) au))) ?_
 rintro _ _ _ a w ⟨_,_,rfl,rfl,⟨Td,ai3,aiV,rfl,rfl,rfl,XG⟩⟩ ab U
 replace U:=eK U
 refine aE ab U (ar rfl<|ah) fun a w ab U=>wpList_nil (cq _ _ ?_)
 refine ax fun dw b3=>bq ab U (ar rfl<|ah) fun a w ab U=>?_
 replace U:=U.hV 142 2
 refine b3 _ _<|ax fun et cz=>a8 fun eU cO=>aE ab U (ai rfl<|ah) fun a w ab U=>aH ab U rfl (eB EI rfl (fun w U=>GB _ w )) ?_
 rintro _ _ _ a w ⟨_,_,rfl,rfl,⟨aiK,rfl,rfl,rfl⟩⟩ ab U
 replace U:=iK U
 replace U:=U.perm hF
 replace U:=iK U
 refine aH ab U rfl (dy EH rfl (List.Perm.refl _) (by exact (HY (by assumption) (aw.M3 l tick) (aw.M1 (xi au) tick) (aw.M0 (by omega) tick) _ _  (b:=Td)))) ?_
 rintro v10 _ _ a w ⟨_,_,rfl,rfl,⟨rfl,rfl⟩⟩ ab U
 replace U:=mC U
 refine aE ab U (ag (hX cl 0 rfl rfl)<|ai rfl<|ah) fun a w ab U=>wpList_nil ?_
 rw [aw.M7 fG] at U ab
 refine cO _ _<|wp_block ?_
 obtain ⟨bC,aZ,U⟩:=U.cT
 refine df (γ:=Value×Nat) ((Value.slice none 0 0),0) (fun (u,j)=>[(6,u),(21,az (j:Int))]) [(4,_),(5,_),(19,_),(20,_)] (fun (u,j)=>(bC.set 3 (.row u 142 2 j (((aw.ia l tick).take j).flatMap pS)))) (fun (u,j)=>j≤(aw.keys l tick).length) (fun (u,j)=>(aw.keys l tick).length-j) (ab.sub ⟨rfl,rfl,rfl,rfl,rfl,rfl,trivial⟩) (by subst aZ;exact U) (by exact Nat.zero_le _) ?_
 rintro ⟨u,j⟩ a w ba ab U
 subst aZ;(try dsimp only at ba ab U)
 have rS:=ba
 replace U:=mC U
 refine aB ab U (ag (cK rfl rfl)<|ah) fun a w ab U=>ax fun fY dg=>b9 ab rfl (fun bs=>?_) (fun bs=>?_)
 ·refine wp_skip<|dg _ _<|ax fun hE dS=>wp_block ?_
  refine aB ab U (ag (ft cl bz 0 rfl rfl rfl (by omega))<|ag (lE (f:=vs) (xs:=(aw.keys l tick)) bz 0 [] rfl rfl (by omega) rfl)<|ar rfl<|ah) fun a w ab U=>du ?_
  refine aE ab U (ai rfl<|ai rfl<|ai rfl<|ai rfl<|ag (adL QQ bz (MZ bz) 2 rfl rfl rfl XG.1 (fun _ _=>trivial) trivial (aw.abp fG (aw.aaz (by omega))))<|ag (oq mN 2 aA rfl rfl (bn rfl (bn rfl dC)) rfl rfl)<|ah) fun a w ab U=>aH ab U rfl (qt mQ mN rfl aI (by decide) bJ (by decide) (by decide)) ?_
  rintro v12 _ _ a w ⟨rfl,rfl⟩ ab U
  replace U:aC _ [] [_,_,_,_,_,_] _:=U
  refine aH ab U rfl (dB mQ mN 4 rfl rfl rfl (eA mQ (k:=0) rfl bJ) aI rfl (by decide)) ?_
  rintro Ik _ _ a w ⟨rfl,rfl⟩ ab U
  replace U:aC _ [] [_,_,_,_,_,_] _:=U
  refine aE ab U (ar rfl<|ah) fun a w ab U=>wpList_nil (dS _ _ ?_)
  refine bq ab U (bX rfl rfl<|ai rfl<|ah) fun a w ab U=>?_
  replace U:=U.ak ay (ae.n)
  refine ⟨(Ik,j+1),?_,?_,ab.sub ⟨rfl,rfl,rfl,rfl,rfl,rfl,trivial⟩,?_⟩
  ·(try dsimp only);omega
  ·omega
  ·rw [aw.NA (by omega)] at U
   exact U
 ·obtain rfl:j=(aw.keys l tick).length:=by omega
  rw [← aw.r5,List.take_length] at U
  refine wp_exit<|cz _ _<|a8 fun iE eO=>aE ab U (ai rfl<|ag (bQ VR rfl (fun w U=>abZ _ _ w (kI (hl:=Nh) (h1:=Ni) (U.own _ (List.mem_of_getElem? (i:=3) rfl)).1 rfl (by omega) FZ) (U.ext _ _ dF)) (fun _ _ _ h=>h))<|ai rfl<|ag (cE rfl rfl)<|ag (cE rfl rfl)<|ah) fun a w ab U=>aH ab U rfl (c1 cW) ?_
  rintro _ _ _ a w ⟨JG,rfl,rfl,rfl⟩ ab U
  rw [show List.replicate 16 (Value.int .u8 0)=(List.replicate 16 (0:UInt8)).map bf from by rw [List.map_replicate] <;> rfl] at U
  refine aH ab U rfl (cA cW 0 rfl rfl rfl rfl aI bJ aI) ?_
  rintro _ _ _ a w ⟨rfl,rfl,rfl⟩ ab U
  replace U:aC _ [] [_,_,_,_,_,_] _:=U
  refine aE ab U (ar rfl<|ah) fun a w ab U=>wpList_nil (eO _ _ ?_)
  refine a8 fun iv eD=>aE ab U (ag (fW cW 0 rfl rfl aI rfl)<|ah) fun a w ab U=>aH ab U rfl (cA cW 5 rfl rfl rfl rfl aI bJ aI) ?_
  rintro _ _ _ a w ⟨rfl,rfl,rfl⟩ ab U
  replace U:aC _ [] [_,_,_,_,_,_] _:=U
  refine wpList_nil (eD _ _ ?_)
  refine wp_ret<|bR (rs:=[.cell 4 62]) rfl ab U (vs:=[_]) ⟨⟨_,_,_,_,_,_,_,rfl,List.mem_of_getElem? (i:=5) rfl,cW,.inl ⟨rfl,aI,rfl⟩⟩,trivial⟩ ay ay (rfl)
end
section
theorem Lb:bU Tryz.prog 34:=bY Tryz.func34
attribute [local irreducible] aF.int aF.bytes aF.getInt aF.ef aK.sum aj.eW aj.aT aj.cU aj.bh aj.c8 aj.fX aj.app aj.eo aw.dec aw.enc ao.new aw.add aw.taken cM.fo aw.dN aw.keys bo.mK
end
section
theorem CV:a1 Tryz.prog 76 (.slice 62) 1 24 (Value.slice none 0 0):=⟨Tryz.underlying76,by kernel_rfl⟩
theorem qa : a1 Tryz.prog 153 (.struct #[⟨ "Texts", 40, 0, false, "", "", 0⟩, ⟨ "Sides", 76, 1, false, "", "", 24⟩, ⟨ "Used", 3, 2, false, "", "", 48⟩, ⟨ "Short", 4, 3, false, "", "", 56⟩]) 4 64 (.agg ([Value.slice none 0 0, Value.slice none 0 0] ++ [Value.int .i64 0] ++ [Value.bool false]).toArray) := ⟨Tryz.underlying153, by kernel_rfl⟩
theorem V9:bU Tryz.prog 79:=bY Tryz.func79
theorem Ev:bU Tryz.prog 120:=bY Tryz.func120
theorem Ew:bU Tryz.prog 121:=bY Tryz.func121
theorem AO:bU Tryz.prog 122:=bY Tryz.func122
theorem Vz:bU Tryz.prog 153:=bY Tryz.func153
theorem VA:bU Tryz.prog 154:=bY Tryz.func154
attribute [local irreducible] aK.sum aK.pU aK.iL aF.int aF.ints aF.bytes aK.hy bo.half Lib.compareBytes
/-- What is made of a tree that is lent. -/
def sV(e:Nat)(sv:Value)(σ:bo.ed×bo.jo×Nat×Bool):Value→List aP→List av→Prop:=fun r zs hs=>∃ tv,r=.agg (σ.1.map bf).toArray∧zs=[]∧hs=[.blk e 153 [tv,sv,az ((σ.2.2.1:Nat):Int),iD (σ.2.2.2)],.row tv 9 1 (σ.2.1).length ((σ.2.1).map vs)]
theorem uB{e:Nat}{sv:Value}{σ R3:bo.ed×bo.jo×Nat×Bool}{r:Value}{zs:List aP}{hs:List av}(h:sV e sv σ r zs hs)(bK:R3=σ):sV e sv R3 r zs hs:=bK ▸ h
theorem wV{w0:World}{zs:List aP}{z z':aP}(h:gp w0 zs z):gp w0 (z'::zs) z:=h.elim .inl fun h=>.inr (List.mem_cons_of_mem _ h)
theorem CS(e:Nat)(sv tv:Value)(T:bo.jo)(u:Nat)(s:Bool)(tag:Int)(v:Value)(ps:bo.jo)(bN:∀ p∈ps,p.length<1048576)(hl:ps.length<1000)(kT:T.length<4294967296)(dK:Nat×Nat)(dJ:TypeId)(w0:World)(bP:List aP)(z:aP)(bx:bg Go.aJ.encS z v ps)(bj:gp w0 bP z)(dF:w0.heap[0]?=some (.cells (aK.ek.map cx).toArray dJ dK)):eH Tryz.prog 122 [.pointer (some ⟨e,0,none⟩),az tag,v] w0 bP [.blk e 153 [tv,sv,az ((u:Nat):Int),iD (s)],.row tv 9 1 (T).length ((T).map vs)] (sV e sv (aK.iL tag ps,T++[aK.hy tag ps],u,s)):=by
 refine fF Tryz.func122 rfl Tryz.ntmps122 (Nat.le_of_ble_eq_true rfl) fun cw a w ab U=>?_
 replace U:=gw U
 have oa:=aK.Gt tag ps bN
 have jw:=aK.ow (aK.hy tag ps)
 have akQ:=aK.oh tag ps
 refine a8 fun dW cR=>aH ab U rfl (c1 cW) ?_
 rintro _ _ _ a w ⟨b6,rfl,rfl,rfl⟩ ab U
 rw [show List.replicate 16 (Value.int .u8 0)=(List.replicate 16 (0:UInt8)).map bf from by rw [List.map_replicate] <;> rfl] at U
 refine wpList_nil (cR _ _ ?_)
 refine a8 fun cm bD=>aE ab U (ai rfl<|ai rfl<|ah) fun a w ab U=>aH ab U rfl (eB VA rfl (fun w U=>aeG _ _ _ (by first | with_reducible assumption | omega) (by first | with_reducible assumption | omega) w (bg.mono (U.le (by first | exact bj | exact wV bj | exact wV (wV bj) | exact wV (wV (wV bj)))) bx))) ?_
 rintro v2 _ _ a w ⟨_,_,rfl,rfl,⟨z3,o4,rfl,rfl⟩⟩ ab U
 replace U:aC _ (_::_) (_::_::_::_) _:=U
 refine aE ab U (ar rfl<|ah) fun a w ab U=>wpList_nil (bD _ _ ?_)
 refine ax fun dH cf=>?_
 revert U;revert ab;apply ho (J:=jM (α0:=Value) (α1:=Value) 24 _ _ _ _ _) #[false,false,false,false,false,false,false,false,false,false,false,false] 12 mixed rfl rfl
 ·intro w ab U
  refine aR 0 rfl ab (U.ak ae (ae.n.n.n)) (bE rfl) fun a ab=>aR 1 rfl ab (U.ak ae (ae.n.n.n)) (bE rfl) fun a ab=>aR 2 rfl ab (U.ak ae (ae.n.n.n)) (bI rfl) fun a ab=>aR 3 rfl ab (U.ak ae (ae.n.n.n)) (aV qa rfl rfl (s':=0) aA) fun a ab=>aR 4 rfl ab (U.ak ae (ae.n.k.n)) (bc cl 0 rfl rfl rfl rfl) fun a ab=>?_
  refine aR 5 rfl ab (U.ak ae (ae.n.n.n)) (bE rfl) fun a ab=>aR 6 rfl ab (U.ak ae (ae.n.n.n)) (sa bS bz bF o4 (.inr (by simp)) rfl) fun a ab=>bW 7 rfl rfl ab U rfl (dX cl bz rfl rfl bJ (by decide) rfl rfl) ?_
  rintro Rl _ _ a w ⟨rfl,rfl⟩ ab U
  replace U:=qR U
  refine ⟨⟨al,al,.inr (U.ak ae (ae.n.k.n.n)),.inr (U.ak ae (ae.n.n.n.n)),.inr (U.ak ae (ae.n.n.n.n)),.inr (U.ak ae (ae.n.n.n.n)),.inr (U.ak ae (ae.n.n.n.n)),trivial⟩,?_⟩
  refine bW 8 rfl rfl ab U rfl (dB cl bz 3 rfl rfl rfl (eA cl (k:=0) rfl bJ) aI rfl (by decide)) ?_
  rintro Ip _ _ a w ⟨rfl,rfl⟩ ab U
  replace U:=qR U
  refine ⟨⟨al,al,al,al,.inr (U.ak ae (ae.n.n.n.n)),.inr (U.ak ae (ae.n.n.n.n)),.inr (U.ak ae (ae.n.n.n.n)),trivial⟩,?_⟩
  refine aR 9 rfl ab (U.ak ae (ae.n.n.n.n)) (bI rfl) fun a ab=>aR 10 rfl ab (U.ak ae (ae.n.n.n.n)) (aV qa rfl rfl (s':=0) aA) fun a ab=>bW 11 rfl rfl ab U rfl (c7 cl 2 rfl rfl rfl (row_one (U.own _ (List.mem_of_getElem? (i:=3) rfl)).1) (by simp)) ?_
  rintro _ _ _ a w ⟨rfl,rfl,rfl⟩ ab U
  replace U:aC _ (_::_) (_::_::.blk _ _ ([_,_,_,_].set 0 _)::_::_) _:=U
  simp only [List.set_cons_zero,List.set_cons_succ] at U
  replace U:=qR U
  refine ⟨⟨al,al,al,al,al,al,al,al,al,trivial⟩,?_⟩
  exact ei aA (kY Rl Ip (trivial) (ab.sub (L':=[(6,_),(7,_)]) ⟨rfl,rfl,trivial⟩) U)
 rintro a w ⟨Rl,Ip, -,ab,U⟩
 (try dsimp only at ab U)
 refine cf _ _<|a8 fun dP cq=>aE ab U (ai rfl<|ag (bQ V9 rfl (fun w U=>ae4 _ _ (by first | with_reducible assumption | omega) w (bg.mono (U.le (.inr (by simp))) o4) (U.ext _ _ dF)) (fun _ _ _ h=>h))<|ah) fun a w ab U=>aH ab U rfl (cA cW 1 rfl rfl rfl rfl aI bJ aI) ?_
 rintro _ _ _ a w ⟨rfl,rfl,rfl⟩ ab U
 replace U:=qR U
 refine wpList_nil (cq _ _ ?_)
 refine wp_ret ?_
 replace U:=(U.perm nj).perm mf
 exact cQ (rs:=[.cell 6 62]) rfl ab U (vs:=[_]) ⟨⟨_,_,_,_,_,_,_,rfl,List.mem_of_getElem? (i:=3) rfl,cW,.inl ⟨rfl,aI,rfl⟩⟩,trivial⟩ [] [_,_] (ae.n) (ae.n.n.k.k) (uB ⟨Ip,by rw [← aK.aco],rfl,by rw [List.length_append,List.map_append];rfl⟩ rfl)
theorem aeW(e:Nat)(sv v:Value)(ls:List bo.cJ)(first:Nat)(sd:List bo.ed)(hl:ls.length<1048576)(aL:∀ x∈ls,x.1.length<1048576∧x.2.length<1048576)(iV:∀ d∈sd,d.length=16)(Bi:first≤1048576)(dK:Nat×Nat)(dJ:TypeId)(w0:World)(bP:List aP)(au:bg iU (b1 w0) v ls)(rY:bg (oR 16) (b1 w0) sv sd)(dF:w0.heap[0]?=some (.cells (aK.ek.map cx).toArray dJ dK))(f:Nat)(ih:∀ (lo aG:Int) (cu n:Nat) (tv:Value) (T:bo.jo) (u:Nat) (s:Bool) (bN:lo=cu) (fB:aG=cu+n) (kV:1≤n) (o0:n≤f) (pN:cu+n≤1048576) (A9:T.length+2*n≤100000000) (Bz:u+n≤100000000),eH Tryz.prog 121 [.pointer (some ⟨e,0,none⟩),v,az (first:Int),az lo,az aG] w0 bP [.blk e 153 [tv,sv,az ((u:Nat):Int),iD (s)],.row tv 9 1 (T).length ((T).map vs)] (sV e sv (bo.dV first ls sd f n cu T u s)))(lo aG:Int)(cu n:Nat)(tv:Value)(T:bo.jo)(u:Nat)(s:Bool)(bN:lo=cu)(fB:aG=cu+n)(kV:1≤n)(o0:n≤f+1)(pN:cu+n≤1048576)(A9:T.length+2*n≤100000000)(Bz:u+n≤100000000):eH Tryz.prog 121 [.pointer (some ⟨e,0,none⟩),v,az (first:Int),az lo,az aG] w0 bP [.blk e 153 [tv,sv,az ((u:Nat):Int),iD (s)],.row tv 9 1 (T).length ((T).map vs)] (sV e sv (bo.dV first ls sd (f+1) n cu T u s)):=by
 refine fF Tryz.func121 rfl Tryz.ntmps121 (Nat.le_of_ble_eq_true rfl) fun cw a w ab U=>?_
 replace U:=gw U
 have cZ:=au.1
 have jw:=rY.1
 have Mw:sd.length≤140737488355328:=jw
 refine a8 fun dW cR=>aH ab U rfl (c1 cW) ?_
 rintro _ _ _ a w ⟨b6,rfl,rfl,rfl⟩ ab U
 rw [show List.replicate 16 (Value.int .u8 0)=(List.replicate 16 (0:UInt8)).map bf from by rw [List.map_replicate] <;> rfl] at U
 refine wpList_nil (cR _ _ ?_)
 refine ax fun cm bD=>a8 fun dH cf=>aE ab U (ai rfl<|ai rfl<|ag (vZ rfl rfl)<|ai rfl<|ah) fun a w ab U=>fS 3 17 6 ab U rfl rfl rfl rfl rfl (fun aO=>have aO:=(by first | exact of_decide_eq_false aO | exact aO);aN 17 rfl rfl rfl (bE rfl)<|aN 17 rfl rfl rfl (bE rfl)<|aN 17 rfl rfl rfl (bE rfl)<|aN 17 rfl rfl rfl (dL nf au rfl)<|aN 17 rfl rfl rfl (pb rfl rfl (by omega))<|aN 17 rfl rfl rfl (jH rfl rfl)<|ah) rfl rfl fun a w ab U=>?_
 refine wpList_nil (cf _ _ ?_)
 refine cX ab rfl (fun aS=>?_) (fun aS=>?_)
 ·(try simp only [c2] at aS)
  have cB:cu+n≤first∨first+ls.length≤cu:=by omega
  refine ax fun dP cq=>hZ mixed aA ab U (ai rfl<|ag (bI rfl)<|ag (aV qa rfl rfl (s':=0) aA)<|ag (bc bG 1 rfl rfl rfl rfl)<|ai rfl<|ag (bI rfl)<|ag (aV qa rfl rfl (s':=0) aA)<|ag (bc CV 1 rfl rfl rfl rfl)<|ag (dL CV rY rfl)<|ag (jH rfl rfl)<|ah) fun a w ab U=>b9 ab rfl (fun bs=>?_) (fun bs=>?_)
  ·have cn:sd.length≤u:=by omega
   refine a8 fun et cz=>aE ab U (ai rfl<|ag (bI rfl)<|ag (aV qa rfl rfl (s':=0) aA)<|ah) fun a w ab U=>aH ab U rfl (c7 fg 1 rfl rfl rfl rfl (by simp)) ?_
   rintro _ _ _ a w ⟨rfl,rfl,rfl⟩ ab U
   replace U:aC _ (_) (_::.blk _ _ ([_,_,_,_].set 3 _)::_::_) _:=U
   simp only [List.set_cons_zero,List.set_cons_succ] at U
   replace U:=k0 U
   refine wpList_nil (cz _ _ ?_)
   refine a8 fun eU cO=>aE ab U (ag (oo rfl (q1 cW bF rfl))<|ah) fun a w ab U=>aH ab U rfl (cA cW 0 rfl rfl rfl rfl aI bJ aI) ?_
   rintro _ _ _ a w ⟨rfl,rfl,rfl⟩ ab U
   replace U:=k0 U
   refine wpList_nil (cO _ _ ?_)
   refine wp_ret ?_
   replace U:=(U.perm (.swap _ _ _)).perm hF
   exact cQ (rs:=[.cell 10 62]) rfl ab U (vs:=[_]) ⟨⟨_,_,_,_,_,_,_,rfl,List.mem_of_getElem? (i:=2) rfl,cW,.inl ⟨rfl,aI,rfl⟩⟩,trivial⟩ [] [_,_] ae (ae.n.k.k) (uB (σ:=(bo.dD,T,u,true)) ⟨tv,rfl,rfl,rfl⟩ (bo.PY cB cn))
  ·have cn:¬ sd.length≤u:=by omega
   have L9:=iV (sd.getD u []) (bo.WR (by omega))
   have My:((u:Int)+1-1).toNat=u:=by omega
   have ajO:(sd.getD ((u:Int)+1-1).toNat []).length=16:=by rw [My];exact L9
   refine wp_skip<|cq _ _<|a8 fun e1 cF=>aE ab U (ai rfl<|ai rfl<|ag (bI rfl)<|ag (aV qa rfl rfl (s':=0) aA)<|ag (bc bG 1 rfl rfl rfl rfl)<|bX rfl rfl<|ag (bI rfl)<|ag (aV qa rfl rfl (s':=0) aA)<|ah) fun a w ab U=>aH ab U rfl (c7 bG 1 rfl rfl rfl rfl (by simp)) ?_
   rintro _ _ _ a w ⟨rfl,rfl,rfl⟩ ab U
   replace U:aC _ (_) (_::.blk _ _ ([_,_,_,_].set 2 _)::_::_) _:=U
   simp only [List.set_cons_zero,List.set_cons_succ] at U
   replace U:=k0 U
   refine wpList_nil (cF _ _ ?_)
   refine ax fun fY dg=>h2 11 mixed aA ab U (ai rfl<|ag (bI rfl)<|ag (aV qa rfl rfl (s':=0) aA)<|ag (bc CV 1 rfl rfl rfl rfl)<|ai rfl<|ag (bI rfl)<|ag (aV qa rfl rfl (s':=0) aA)<|ag (bc bG 1 rfl rfl rfl rfl)<|e2 rfl rfl<|ag (dG CV cW rY rfl rfl (by omega))<|ag (adx cW rY cD rfl rfl (by decide) (by omega))<|ah) fun a w ab U=>aH ab U rfl (cA cW 0 rfl rfl rfl rfl aI bJ aI) ?_
   rintro _ _ _ a w ⟨rfl,rfl,rfl⟩ ab U
   replace U:=k0 U
   refine wpList_nil (dg _ _ ?_)
   refine wp_ret ?_
   replace U:=(U.perm (.swap _ _ _)).perm hF
   exact cQ (rs:=[.cell 10 62]) rfl ab U (vs:=[_]) ⟨⟨_,_,_,_,_,_,_,rfl,List.mem_of_getElem? (i:=2) rfl,cW,.inl ⟨rfl,aI,rfl⟩⟩,trivial⟩ [] [_,_] ae (ae.n.k.k) (uB (σ:=(sd.getD u [],T,u+1,s)) ⟨tv,by rw [My],rfl,rfl⟩ (bo.PZ cB cn))
 ·(try simp only [c2] at aS)
  have cB:¬ (cu+n≤first∨first+ls.length≤cu):=by omega
  refine wp_skip<|bD _ _<|ax fun hE dS=>aB ab U (ai rfl<|ai rfl<|e2 rfl rfl<|ag (fc rfl rfl)<|ah) fun a w ab U=>b9 ab rfl (fun b7=>?_) (fun b7=>?_)
  ·have hle:(lo-(first:Int)).toNat=cu-first:=by omega
   have yf:n=1:=by omega
   have BB:=aL (ls.getD (lo-first).toNat c3) (bo.getD_in (by omega))
   have Y4:=aK.oh 3 [(ls.getD (lo-first).toNat c3).1,(ls.getD (lo-first).toNat c3).2]
   refine ax fun iE eO=>?_
   revert U;revert ab;apply ho (J:=iS (α0:=Value) (α1:=aP) (α2:=Value) 104 _ _ _ _ _) #[false,false,false,false,false,false,false,false,false,false,false,false,false,false,false,false,false,false] 18 mixed rfl rfl
   ·intro w ab U
    refine aR 0 rfl ab (U.ak ae (ae.n.n.n)) (bE rfl) fun a ab=>aR 1 rfl ab (U.ak ae (ae.n.n.n)) (bE rfl) fun a ab=>aR 2 rfl ab (U.ak ae (ae.n.n.n)) (bE rfl) fun a ab=>aR 3 rfl ab (U.ak ae (ae.n.n.n)) (bE rfl) fun a ab=>aR 4 rfl ab (U.ak ae (ae.n.n.n)) (na rfl rfl (by omega)) fun a ab=>?_
    refine aR 5 rfl ab (U.ak ae (ae.n.n.n)) (dG nf mO au rfl rfl (by omega)) fun a ab=>aR 6 rfl ab (U.ak ae (ae.n.n.n)) (sg mO au rfl (by omega) rfl (s':=0) aA) fun a ab=>aR 7 rfl ab (U.ak ae (ae.n.n.n)) (vY bz au cD rfl rfl (by omega)) fun a ab=>aR 8 rfl ab (U.ak ae (ae.n.n.n)) (bE rfl) fun a ab=>aR 9 rfl ab (U.ak ae (ae.n.n.n)) (bE rfl) fun a ab=>?_
    refine aR 10 rfl ab (U.ak ae (ae.n.n.n)) (bE rfl) fun a ab=>aR 11 rfl ab (U.ak ae (ae.n.n.n)) (na rfl rfl (by omega)) fun a ab=>aR 12 rfl ab (U.ak ae (ae.n.n.n)) (dG nf mO au rfl rfl (by omega)) fun a ab=>aR 13 rfl ab (U.ak ae (ae.n.n.n)) (sg mO au rfl (by omega) rfl (s':=0) aA) fun a ab=>aR 14 rfl ab (U.ak ae (ae.n.n.n)) (OQ bz au cD rfl rfl (by omega)) fun a ab=>?_
    refine bW 15 rfl rfl ab U rfl (dX cl bz rfl rfl bJ (by decide) rfl rfl) ?_
    rintro Rt _ _ a w ⟨rfl,rfl⟩ ab U
    replace U:=fr U
    refine ⟨⟨al,al,.inr (U.ak ae (ae.n.n.n.n)),.inr (U.ak ae (ae.n.n.n.n)),.inr (U.ak ae (ae.n.n.n.n)),.inr (U.ak ae (ae.n.n.n.n)),.inr (U.ak ae (ae.n.n.n.n)),al,al,.inr (U.ak ae (ae.n.n.n.n)),.inr (U.ak ae (ae.n.n.n.n)),.inr (U.ak ae (ae.n.n.n.n)),.inr (U.ak ae (ae.n.n.n.n)),.inr (U.ak ae (ae.n.n.n.n)),.inr (U.ak ae (ae.n.n.n.n)),trivial⟩,?_⟩
    refine fy [16] aA rfl ⟨?_,trivial⟩
    obtain ⟨R0,Gn,U⟩:=aC.qx (h0:=fun _=>rfl) (f:=vs) (p:=fun s=>s.length≤140737488355328) (xs:=[(ls.getD (lo-first).toNat c3).1,(ls.getD (lo-first).toNat c3).2]) U (by first | rfl | (simp;done)) (by first | decide | omega | (simp;omega)) (bo.Ia (by omega) (by omega))
    replace U:=(U.perm (.swap _ _ _)).perm hF
    replace U:aC _ (_::_) (_::_::_::_) _:=U
    refine dQ _ rfl rfl ab U rfl (rr 2 AO rfl (by exact (CS _ _ _ T u s _ _ [(ls.getD (lo-first).toNat c3).1,(ls.getD (lo-first).toNat c3).2] (bo.Ib BB.1 BB.2) (by simp) (by omega) _ _ _ _ _ Gn (.inr (by simp)) dF))) ?_
    rintro _ _ _ a w ⟨_,_,rfl,rfl,⟨Oj,rfl,rfl,rfl⟩⟩ ab U
    replace U:aC _ (_::_) (_::_::_::_) _:=U
    refine ⟨⟨al,al,.inr (U.ak (ae.n) (ae.n.n.n)),.inr (U.ak (ae.n) (ae.n.n.n)),.inr (U.ak (ae.n) (ae.n.n.n)),.inr (U.ak (ae.n) (ae.n.n.n)),.inr (U.ak (ae.n) (ae.n.n.n)),al,al,.inr (U.ak (ae.n) (ae.n.n.n)),.inr (U.ak (ae.n) (ae.n.n.n)),.inr (U.ak (ae.n) (ae.n.n.n)),.inr (U.ak (ae.n) (ae.n.n.n)),.inr (U.ak (ae.n) (ae.n.n.n)),al,trivial⟩,?_⟩
    refine bW 17 rfl rfl ab U rfl (cA cW 2 rfl rfl rfl rfl aI bJ aI) ?_
    rintro _ _ _ a w ⟨rfl,rfl,rfl⟩ ab U
    replace U:aC _ (_::_) (_::_::_::_) _:=U
    refine ⟨⟨al,al,al,al,al,al,al,al,al,al,al,al,al,al,al,trivial⟩,?_⟩
    exact ei aA (Gy Rt R0 Oj ((And.intro Gn trivial)) (ab.sub (L':=[(10,_)]) ⟨rfl,trivial⟩) U)
   rintro a w ⟨Rt,R0,Oj,⟨Gn, -⟩,ab,U⟩
   (try dsimp only at ab U)
   refine eO _ _<|wp_ret ?_
   exact cQ (rs:=[.cell 10 62]) rfl ab U (vs:=[_]) ⟨⟨_,_,_,_,_,_,_,rfl,List.mem_of_getElem? (i:=2) rfl,cW,.inl ⟨rfl,aI,rfl⟩⟩,trivial⟩ [] [_,_] (ae.n) (ae.n.k.k) (uB (σ:=(aK.iL 3 [(ls.getD (lo-first).toNat c3).1,(ls.getD (lo-first).toNat c3).2],T++[aK.hy 3 [(ls.getD (lo-first).toNat c3).1,(ls.getD (lo-first).toNat c3).2]],u,s)) ⟨_,rfl,rfl,rfl⟩ (by rw [bo.HE cB yf,← hle];rfl))
  ·have oZ:2≤n:=by omega
   have Mg:=bo.vp n
   have Bk:=bo.tw oZ
   have Bg:=bo.zg iV (lv:=ls) (first:=first) f (bo.half n) cu T u s Mg (by omega)
   obtain ⟨Bt,Bv,F9,_⟩:=Bg
   refine wp_skip<|dS _ _<|aB ab U (ai rfl<|ai rfl<|ai rfl<|e2 rfl rfl<|ag (bQ Vz rfl (fun w U=>XR _ n (by omega) (by omega) (by omega) w ) (fun _ _ _ h=>h))<|bX rfl rfl<|ar rfl<|ah) fun a w ab U=>a8 fun kM gr=>aE ab U (ai rfl<|ai rfl<|ai rfl<|ai rfl<|ai rfl<|ah) fun a w ab U=>?_
   replace U:=(U.perm (.swap _ _ _)).perm hF
   replace U:=k0 U
   refine aH ab U rfl (rr 2 Ew rfl (by exact (ih _ _ cu (bo.half n) _ T u s  (by omega) (by omega) (by omega) (by omega) (by omega) (by omega) (by omega) ))) ?_
   rintro _ _ _ a w ⟨_,_,rfl,rfl,⟨agy,rfl,rfl,rfl⟩⟩ ab U
   replace U:=k0 U
   refine aH ab U rfl (c1 cW) ?_
   rintro _ _ _ a w ⟨kz,rfl,rfl,rfl⟩ ab U
   rw [show List.replicate 16 (Value.int .u8 0)=(List.replicate 16 (0:UInt8)).map bf from by rw [List.map_replicate] <;> rfl] at U
   refine aH ab U rfl (cA cW 0 rfl rfl rfl rfl aI bJ aI) ?_
   rintro _ _ _ a w ⟨rfl,rfl,rfl⟩ ab U
   replace U:=fr U
   refine wpList_nil ?_
   obtain ⟨b8,o1⟩:∃ r,r=(bo.dV first ls sd f (bo.half n) cu T u s):=⟨_,rfl⟩
   rw [← o1] at Bt Bv F9 U
   have X0:=bo.zg iV (lv:=ls) (first:=first) f (n-bo.half n) (cu+bo.half n) b8.2.1 b8.2.2.1 b8.2.2.2 (by omega) (by omega)
   obtain ⟨Zu,Zy,ZD,_⟩:=X0
   refine gr _ _<|a8 fun jN fa=>aE ab U (ai rfl<|ai rfl<|ai rfl<|ai rfl<|ai rfl<|ah) fun a w ab U=>?_
   replace U:=(U.perm (.swap _ _ _)).perm hF
   replace U:=fr U
   refine aH ab U rfl (rr 2 Ew rfl (by exact (ih _ _ (cu+bo.half n) (n-bo.half n) _ b8.2.1 b8.2.2.1 b8.2.2.2  (by omega) (by omega) (by omega) (by omega) (by omega) (by omega) (by omega) ))) ?_
   rintro _ _ _ a w ⟨_,_,rfl,rfl,⟨anf,rfl,rfl,rfl⟩⟩ ab U
   replace U:=fr U
   refine aH ab U rfl (c1 cW) ?_
   rintro _ _ _ a w ⟨uV,rfl,rfl,rfl⟩ ab U
   rw [show List.replicate 16 (Value.int .u8 0)=(List.replicate 16 (0:UInt8)).map bf from by rw [List.map_replicate] <;> rfl] at U
   refine aH ab U rfl (cA cW 0 rfl rfl rfl rfl aI bJ aI) ?_
   rintro _ _ _ a w ⟨rfl,rfl,rfl⟩ ab U
   replace U:=iq U
   refine wpList_nil ?_
   obtain ⟨cL,Bu⟩:∃ r,r=bo.dV first ls sd f (n-bo.half n) (cu+bo.half n) b8.2.1 b8.2.2.1 b8.2.2.2:=⟨_,rfl⟩
   rw [← Bu] at Zu Zy ZD U
   have Y4:=aK.oh 4 [b8.1,cL.1]
   refine fa _ _<|ax fun mc hh=>?_
   revert U;revert ab;apply ho (J:=iS (α0:=Value) (α1:=aP) (α2:=Value) 104 _ _ _ _ _) #[false,false,false,false,false,false,false,false] 8 mixed rfl rfl
   ·intro w ab U
    refine aR 0 rfl ab (U.ak ae (ae.n.n.n.n.n)) (bE rfl) fun a ab=>aR 1 rfl ab (U.ak ae (ae.n.k.n.n.n)) (fW cW 0 rfl rfl aI rfl) fun a ab=>aR 3 rfl ab (U.ak ae (ae.n.n.n.n.k)) (fW cW 0 rfl rfl aI rfl) fun a ab=>bW 2 rfl rfl ab U rfl (eI (bQ Ev rfl (fun w U=>HG _ (by first | with_reducible assumption | omega | (simp;omega)) w ) (fun _ _ _ h=>h))) ?_
    rintro _ _ _ a w ⟨rfl,rfl,rfl⟩ ab U
    refine ⟨⟨.inr (U.ak ae (ae.n.n.n.n.k)),al,.inr (U.ak ae (ae.n.n.n.n.n)),trivial⟩,?_⟩
    refine bW 4 rfl rfl ab U rfl (eI (bQ Ev rfl (fun w U=>HG _ (by first | with_reducible assumption | omega | (simp;omega)) w ) (fun _ _ _ h=>h))) ?_
    rintro _ _ _ a w ⟨rfl,rfl,rfl⟩ ab U
    refine ⟨⟨al,al,.inr (U.ak ae (ae.n.n.n.n.n)),trivial⟩,?_⟩
    refine bW 5 rfl rfl ab U rfl (dX cl bz rfl rfl bJ (by decide) rfl rfl) ?_
    rintro Re _ _ a w ⟨rfl,rfl⟩ ab U
    replace U:=lB U
    refine ⟨⟨al,al,.inr (U.ak ae (ae.n.n.n.n.n.n)),trivial⟩,?_⟩
    refine fy [6] aA rfl ⟨?_,trivial⟩
    obtain ⟨RZ,Gm,U⟩:=aC.qx (h0:=fun _=>rfl) (f:=vs) (p:=fun s=>s.length≤140737488355328) (xs:=[b8.1,cL.1]) U (by first | rfl | (simp;done)) (by first | decide | omega | (simp;omega)) (bo.Ia (by omega) (by omega))
    replace U:=(U.perm (.swap _ _ _)).perm hF
    replace U:aC _ (_::_) (_::_::_::_::_::_) _:=U
    refine dQ _ rfl rfl ab U rfl (rr 2 AO rfl (by exact (CS _ _ _ cL.2.1 cL.2.2.1 cL.2.2.2 _ _ [b8.1,cL.1] (bo.Ib (by omega) (by omega)) (by simp) (by omega) _ _ _ _ _ Gm (.inr (by simp)) dF))) ?_
    rintro _ _ _ a w ⟨_,_,rfl,rfl,⟨Oi,rfl,rfl,rfl⟩⟩ ab U
    replace U:aC _ (_::_) (_::_::_::_::_::_) _:=U
    refine ⟨⟨al,al,al,trivial⟩,?_⟩
    refine bW 7 rfl rfl ab U rfl (cA cW 4 rfl rfl rfl rfl aI bJ aI) ?_
    rintro _ _ _ a w ⟨rfl,rfl,rfl⟩ ab U
    replace U:aC _ (_::_) (_::_::_::_::_::_) _:=U
    refine ⟨⟨al,al,al,trivial⟩,?_⟩
    exact ei aA (Gy Re RZ Oi ((And.intro Gm trivial)) (ab.sub (L':=[(10,_)]) ⟨rfl,trivial⟩) U)
   rintro a w ⟨Re,RZ,Oi,⟨Gm, -⟩,ab,U⟩
   (try dsimp only at ab U)
   refine hh _ _<|wp_ret ?_
   exact cQ (rs:=[.cell 10 62]) rfl ab U (vs:=[_]) ⟨⟨_,_,_,_,_,_,_,rfl,List.mem_of_getElem? (i:=4) rfl,cW,.inl ⟨rfl,aI,rfl⟩⟩,trivial⟩ [] [_,_] (ae.n) (ae.n.n.n.k.k) (uB (σ:=(aK.iL 4 [b8.1,cL.1],cL.2.1++[aK.hy 4 [b8.1,cL.1]],cL.2.2.1,cL.2.2.2)) ⟨_,rfl,rfl,rfl⟩ (by rw [bo.HF cB oZ o1 Bu];rfl))
theorem aeV(e:Nat)(sv v:Value)(ls:List bo.cJ)(first:Nat)(sd:List bo.ed)(hl:ls.length<1048576)(aL:∀ x∈ls,x.1.length<1048576∧x.2.length<1048576)(iV:∀ d∈sd,d.length=16)(Bi:first≤1048576)(dK:Nat×Nat)(dJ:TypeId)(w0:World)(bP:List aP)(au:bg iU (b1 w0) v ls)(rY:bg (oR 16) (b1 w0) sv sd)(dF:w0.heap[0]?=some (.cells (aK.ek.map cx).toArray dJ dK)):∀ (f:Nat) (lo aG:Int) (cu n:Nat) (tv:Value) (T:bo.jo) (u:Nat) (s:Bool) (bN:lo=cu) (fB:aG=cu+n) (kV:1≤n) (o0:n≤f) (pN:cu+n≤1048576) (A9:T.length+2*n≤100000000) (Bz:u+n≤100000000),eH Tryz.prog 121 [.pointer (some ⟨e,0,none⟩),v,az (first:Int),az lo,az aG] w0 bP [.blk e 153 [tv,sv,az ((u:Nat):Int),iD (s)],.row tv 9 1 (T).length ((T).map vs)] (sV e sv (bo.dV first ls sd f n cu T u s)):=by
 intro f
 induction f with
 | zero=>intro lo aG cu n tv T u s bN fB kV o0;omega
 | succ f ih=>exact fun lo aG cu n tv T u s bN fB kV o0 pN A9 Bz=>aeW e sv v ls first sd hl aL iV Bi dK dJ w0 bP au rY dF f ih lo aG cu n tv T u s bN fB kV o0 pN A9 Bz
theorem agx(e:Nat)(sv tv v:Value)(ls:List bo.cJ)(first:Nat)(sd:List bo.ed)(size:Int)(n:Nat)(hl:ls.length<1048576)(aL:∀ x∈ls,x.1.length<1048576∧x.2.length<1048576)(iV:∀ d∈sd,d.length=16)(Bi:first≤1048576)(bA:size=n)(Bq:n≤1048576)(dK:Nat×Nat)(dJ:TypeId)(w0:World)(bP:List aP)(au:bg iU (b1 w0) v ls)(rY:bg (oR 16) (b1 w0) sv sd)(dF:w0.heap[0]?=some (.cells (aK.ek.map cx).toArray dJ dK)):eH Tryz.prog 78 [.pointer (some ⟨e,0,none⟩),v,az (first:Int),az size] w0 bP [.blk e 153 [tv,sv,az ((0:Nat):Int),iD (false)],.row tv 9 1 (([]:bo.jo)).length ((([]:bo.jo)).map vs)] (sV e sv (bo.p4 first ls sd n)):=by
 refine fF Tryz.func78 rfl Tryz.ntmps78 (Nat.le_of_ble_eq_true rfl) fun cw a w ab U=>?_
 replace U:=gw U
 have cZ:=au.1
 have oa:=aF.od size
 have akS:=aK.oh 4 [aF.int size]
 refine a8 fun dW cR=>aH ab U rfl (c1 cW) ?_
 rintro _ _ _ a w ⟨b6,rfl,rfl,rfl⟩ ab U
 rw [show List.replicate 16 (Value.int .u8 0)=(List.replicate 16 (0:UInt8)).map bf from by rw [List.map_replicate] <;> rfl] at U
 refine wpList_nil (cR _ _ ?_)
 refine a8 fun cm bD=>aE ab U (ai rfl<|ah) fun a w ab U=>aH ab U rfl (eB AR rfl (fun w U=>Cy _ (by omega) w )) ?_
 rintro v2 _ _ a w ⟨_,_,rfl,rfl,rfl,rfl⟩ ab U
 replace U:=fr U
 refine aE ab U (ag (mF bS bz bF 0 rfl rfl)<|ah) fun a w ab U=>aH ab U rfl (dX cl bz rfl rfl bJ (by decide) rfl rfl) ?_
 rintro v4 _ _ a w ⟨rfl,rfl⟩ ab U
 replace U:=iq U
 refine aE ab U (ar rfl<|ah) fun a w ab U=>wpList_nil (bD _ _ ?_)
 refine ax fun dH cf=>aB ab U (ai rfl<|ag (eQ rfl rfl)<|ah) fun a w ab U=>b9 ab rfl (fun aS=>?_) (fun aS=>?_)
 ·have vE:¬ n=0:=by omega
  have Bg:=bo.zg iV (lv:=ls) (first:=first) n n 0 [] 0 false (by omega) (Nat.le_refl _)
  obtain ⟨Bt,Bv,F9,_⟩:=Bg
  rw [List.length_nil] at Bv
  obtain ⟨b8,o1⟩:∃ r,r=bo.dV first ls sd n n 0 [] 0 false:=⟨_,rfl⟩
  rw [← o1] at Bt Bv F9
  have akT:=aK.oh 4 [aF.int size,b8.1]
  refine du<|aE ab U (ai rfl<|ai rfl<|ai rfl<|ai rfl<|ai rfl<|ah) fun a w ab U=>?_
  replace U:=(U.perm qe).perm sN
  replace U:=iq U
  refine aH ab U rfl (rr 2 Ew rfl (by exact (aeV _ sv _ _ first sd hl aL iV Bi _ _ _ _ au rY dF n _ _ 0 n tv [] 0 false rfl (by omega) (by omega) (Nat.le_refl _) (by omega) (by rw [List.length_nil];omega) (by omega) ))) ?_
  rintro _ _ _ a w ⟨_,_,rfl,rfl,⟨agy,rfl,rfl,rfl⟩⟩ ab U
  rw [← o1] at ab U
  replace U:=iq U
  refine aE ab U (ag (bQ Ev rfl (fun w U=>HG _ (by first | with_reducible assumption | omega | (simp;omega)) w ) (fun _ _ _ h=>h))<|ah) fun a w ab U=>aH ab U rfl (dX cl bz rfl rfl bJ (by decide) rfl rfl) ?_
  rintro mR _ _ a w ⟨rfl,rfl⟩ ab U
  replace U:=lB U
  refine aH ab U rfl (dB cl bz 3 rfl rfl rfl (eA cl (k:=0) rfl bJ) aI rfl (by decide)) ?_
  rintro v9 _ _ a w ⟨rfl,rfl⟩ ab U
  replace U:=lB U
  refine aE ab U (ar rfl<|ah) fun a w ab U=>wpList_nil (cf _ _ ?_)
  refine a8 fun dw b3=>aE ab U (ai rfl<|ai rfl<|ah) fun a w ab U=>?_
  replace U:=U.perm qe
  obtain ⟨aom,Z1,U⟩:=aC.qx (h0:=fun _=>rfl) (f:=vs) (p:=fun s=>s.length≤140737488355328) (xs:=[aF.int size,b8.1]) U (by first | rfl | (simp;done)) (by first | decide | omega | (simp;omega)) (bo.Ia (by omega) (by omega))
  replace U:=(U.perm (.swap _ _ _)).perm hF
  replace U:aC _ (_::_) (_::_::_::_::_::_) _:=U
  refine aH ab U rfl (rr 2 AO rfl (by exact (CS _ sv _ _ b8.2.2.1 b8.2.2.2 _ _ [aF.int size,b8.1] (bo.Ib (by omega) (by omega)) (by simp) (by first | omega | (simp;done)) _ _ _ _ _ Z1 (.inr (by simp)) dF))) ?_
  rintro _ _ _ a w ⟨_,_,rfl,rfl,⟨alV,rfl,rfl,rfl⟩⟩ ab U
  replace U:aC _ (_::_) (_::_::_::_::_::_) _:=U
  refine aH ab U rfl (cA cW 4 rfl rfl rfl rfl aI bJ aI) ?_
  rintro _ _ _ a w ⟨rfl,rfl,rfl⟩ ab U
  replace U:aC _ (_::_) (_::_::_::_::_::_) _:=U
  refine wpList_nil (b3 _ _ ?_)
  refine wp_ret<|cQ (rs:=[.cell 8 62]) rfl ab U (vs:=[_]) ⟨⟨_,_,_,_,_,_,_,rfl,List.mem_of_getElem? (i:=4) rfl,cW,.inl ⟨rfl,aI,rfl⟩⟩,trivial⟩ [] [_,_] (ae.n) (ae.n.n.n.k.k) (uB (σ:=(aK.iL 4 [aF.int size,b8.1],b8.2.1++[aK.hy 4 [aF.int size,b8.1]],b8.2.2.1,b8.2.2.2)) ⟨_,rfl,rfl,rfl⟩ (by rw [bo.ae1 vE o1,bo.aeM vE,bo.aeP vE,← bA]))
 ·have vE:n=0:=by omega
  refine wp_skip<|cf _ _<|a8 fun et cz=>aE ab U (ai rfl<|ai rfl<|ah) fun a w ab U=>?_
  obtain ⟨aon,Z2,U⟩:=aC.qx (h0:=fun _=>rfl) (f:=vs) (p:=fun s=>s.length≤140737488355328) (xs:=[aF.int size]) U (by first | rfl | (simp;done)) (by first | decide | omega | (simp;omega)) (by simp;omega)
  replace U:=(U.perm nj).perm mf
  replace U:=qR U
  refine aH ab U rfl (rr 2 AO rfl (by exact (CS _ sv _ _ 0 false _ _ [aF.int size] (by simp;omega) (by simp) (by first | omega | (simp;done)) _ _ _ _ _ Z2 (.inr (by simp)) dF))) ?_
  rintro _ _ _ a w ⟨_,_,rfl,rfl,⟨alW,rfl,rfl,rfl⟩⟩ ab U
  replace U:=qR U
  refine aH ab U rfl (cA cW 3 rfl rfl rfl rfl aI bJ aI) ?_
  rintro _ _ _ a w ⟨rfl,rfl,rfl⟩ ab U
  replace U:=qR U
  refine wpList_nil (cz _ _ ?_)
  refine wp_ret<|cQ (rs:=[.cell 8 62]) rfl ab U (vs:=[_]) ⟨⟨_,_,_,_,_,_,_,rfl,List.mem_of_getElem? (i:=3) rfl,cW,.inl ⟨rfl,aI,rfl⟩⟩,trivial⟩ [] [_,_] (ae.n) (ae.n.n.k.k) (uB (σ:=(aK.iL 4 [aF.int size],[]++[aK.hy 4 [aF.int size]],0,false)) ⟨_,rfl,rfl,rfl⟩ (by rw [bo.ae0 _ _ _ vE,bo.aeL,bo.aeO,bA,vE];rfl))
end
section
theorem V8:bU Tryz.prog 78:=bY Tryz.func78
theorem VL:bU Tryz.prog 183:=bY Tryz.func183
attribute [local irreducible] aK.sum aK.pU aK.iL aF.int aF.ints aF.bytes aK.hy bo.half Lib.compareBytes
theorem ae2(v:Value)(ls:List bo.cJ)(w:World)(au:bg iU (b1 w) v ls){dK:Nat×Nat}{dJ:TypeId}(dF:w.heap[0]?=some (.cells (aK.ek.map cx).toArray dJ dK)):ch Tryz.prog 158 [v] w (fun r _ _=>r=.tuple [.agg (((bo.mK ls).1).map bf).toArray,az (bo.mK ls).2].toArray):=by
 refine cI Tryz.func158 rfl Tryz.ntmps158 (Nat.le_of_ble_eq_true rfl) fun a ab U=>?_
 have cZ:=au.1
 refine a8 fun dW cR=>aH ab U rfl (c1 cW) ?_
 rintro _ _ _ a w ⟨b6,rfl,rfl,rfl⟩ ab U
 rw [show List.replicate 16 (Value.int .u8 0)=(List.replicate 16 (0:UInt8)).map bf from by rw [List.map_replicate] <;> rfl] at U
 refine aE ab U (ar rfl<|ah) fun a w ab U=>wpList_nil (cR _ _ ?_)
 refine aB ab U (ai rfl<|ag (bQ VL rfl (fun w U=>afa _ _ w (bg.mono (U.le cD) au)) (fun _ _ _ h=>h))<|ar rfl<|ah) fun a w ab U=>ax fun dH cf=>aB ab U (ai rfl<|ag (dM rfl rfl)<|ah) fun a w ab U=>eP ab rfl (fun aS=>?_) (fun aS=>?_)
 ·refine ax fun dw b3=>du ?_
  refine aE ab U (ag (oo rfl (q1 cW bF rfl))<|ai rfl<|ah) fun a w ab U=>aH ab U rfl (cA cW 0 rfl rfl rfl rfl aI bJ aI) ?_
  rintro _ _ _ a w ⟨rfl,rfl,rfl⟩ ab U
  replace U:=eJ U
  refine aE ab U (ar rfl<|ah) fun a w ab U=>wpList_nil (b3 _ _ ?_)
  refine wp_ret<|bR (rs:=[.cell 2 62,.tmp 3]) rfl ab U (vs:=[_,_]) ⟨⟨_,_,_,_,_,_,_,rfl,List.mem_of_getElem? (i:=0) rfl,cW,.inl ⟨rfl,aI,rfl⟩⟩,rfl,trivial⟩ ay ay (by rw [bo.HA (by simpa using aS)];rfl)
 ·have vI:bo.jh ls=0:=by simpa using aS
  have Gj:=bo.Q9 vI
  have yu:∀ x∈ls,x.1.length<1048576∧x.2.length<1048576:=fun x aL=>by have:=Gj.2.2 x aL;omega
  have Bt:(bo.p4 0 ls [] ls.length).1.length=16:=by rw [bo.PX];exact bo.CB _ _
  refine wp_skip<|cf _ _<|a8 fun et cz=>aE ab U (ag (hc (places:=[(0,1),(1,1),(2,1),(3,1)]) (cells:=[.slice none 0 0,.slice none 0 0,.int .i64 0,.bool false]) qa aA rfl (by rfl))<|ah) fun a w ab U=>aH ab U rfl (iT rfl) ?_
  rintro _ _ _ a w ⟨dk,rfl,rfl,rfl⟩ ab U
  refine aE ab U (ar rfl<|ah) fun a w ab U=>wpList_nil ?_
  replace U:=U.hV 9 1
  refine cz _ _<|a8 fun eU cO=>aE ab U (ai rfl<|ai rfl<|ai rfl<|ag (dL nf au rfl)<|ah) fun a w ab U=>?_
  replace U:=U.perm (.swap _ _ _)
  replace U:=ez U
  refine aH ab U rfl (rr 2 V8 rfl (by exact (agx _ (.slice none 0 0) (.slice none 0 0) v ls 0 [] _ ls.length (by omega) yu (fun _ h=>by cases h) (by omega) rfl (by omega) _ _ _ _ au Qv dF ))) ?_
  rintro _ _ _ a w ⟨_,_,rfl,rfl,⟨alX,rfl,rfl,rfl⟩⟩ ab U
  replace U:=ez U
  refine aH ab U rfl (cA cW 2 rfl rfl rfl rfl aI bJ aI) ?_
  rintro _ _ _ a w ⟨rfl,rfl,rfl⟩ ab U
  replace U:=ez U
  refine aE ab U (ar rfl<|ah) fun a w ab U=>wpList_nil (cO _ _ ?_)
  refine wp_ret<|bR (rs:=[.cell 2 62,.tmp 3]) rfl ab U (vs:=[_,_]) ⟨⟨_,_,_,_,_,_,_,rfl,List.mem_of_getElem? (i:=2) rfl,cW,.inl ⟨rfl,aI,rfl⟩⟩,rfl,trivial⟩ ay ay (by rw [bo.CC vI,← bo.PX ls []])
end
section
attribute [local irreducible] aK.sum aK.pU aK.iL aF.int aF.ints aF.bytes aK.hy bo.half Lib.compareBytes bo.jQ
end
section
attribute [local irreducible] aK.sum aK.pU aK.iL aF.int aF.ints aF.bytes aK.hy bo.half Lib.compareBytes bo.jQ bo.jW
/-- A proof whose leaves are copied. -/
def aif(q:bo.ie)(sv:Value):Value→List aP→List av→Prop:=fun r zs hs=>∃ lv z,r=.agg [az q.fst,az q.gO,lv,sv].toArray∧bg iU z lv q.lv∧zs=[z]∧hs=[]
end
section
theorem Lk:bU Tryz.prog 74:=bY Tryz.func74
attribute [local irreducible] aw.dN aw.keys Op.bytesLess aw.ke
theorem PL(v:Value)(l:List aw.bO)(tick:Int)(hl:l.length<1048576)(w:World)(au:bg Go.aJ.hv (b1 w) v l):ch Tryz.prog 74 [v,az tick] w (fun v zs hs=>zs=[]∧hs=[.row v 9 1 (aw.keys l tick).length ((aw.keys l tick).map vs)]):=by
 refine cI Tryz.func74 rfl Tryz.ntmps74 (Nat.le_of_ble_eq_true rfl) fun a ab U=>?_
 have cZ:=au.1
 refine aB ab U (ar rfl<|ah) fun a w ab U=>ax fun cm bD=>bq ab U (ar rfl<|ah) fun a w ab U=>?_
 replace U:=U.hV 9 1
 refine bD _ _<|ax fun dH cf=>aB ab U (ar rfl<|ah) fun a w ab U=>wp_block ?_
 obtain ⟨bC,aZ,U⟩:=U.cT
 refine df (γ:=Value×Nat) ((Value.slice none 0 0),0) (fun (u,i)=>[(5,u),(6,az (i:Int))]) [(0,_),(1,_)] (fun (u,i)=>(bC.set 0 (.row u 9 1 (aw.keys (l.take i) tick).length ((aw.keys (l.take i) tick).map vs)))) (fun (u,i)=>i≤l.length) (fun (u,i)=>l.length-i) (ab.sub ⟨rfl,rfl,rfl,rfl,trivial⟩) (by subst aZ;dsimp only;rw [aw.aaD];exact U) (by exact Nat.zero_le _) ?_
 rintro ⟨u,i⟩ a w ba ab U
 subst aZ;(try dsimp only at ba ab U)
 have eu:=ba
 replace U:=eJ U
 have oc:=aw.BJ (l.take i) tick
 rw [List.length_take] at oc
 refine ax fun dw b3=>aB ab U (ai rfl<|ai rfl<|ag (dL dv au rfl)<|ag (cK rfl rfl)<|ah) fun a w ab U=>b9 ab rfl (fun aS=>?_) (fun aS=>?_)
 ·refine wp_skip<|b3 _ _<|ax fun eU cO=>wp_block ?_
  refine ax fun e1 cF=>aB ab U (ai rfl<|ai rfl<|ag (dG dv b2 au rfl rfl (by omega))<|ag (p2 b2 au rfl (by omega) rfl (s':=0) aA)<|ag (yV bG au cD rfl rfl (by omega))<|ai rfl<|ag (eQ rfl rfl)<|ah) fun a w ab U=>b9 ab rfl (fun bs=>?_) (fun bs=>?_)
  ·refine wp_exit<|cO _ _<|bq ab U (ai rfl<|bX rfl rfl<|ar rfl<|ah) fun a w ab U=>⟨(u,i+1),?_,?_,ab.sub ⟨rfl,rfl,rfl,rfl,trivial⟩,?_⟩
   ·(try dsimp only);omega
   ·omega
   ·dsimp only;rw [aw.aaE (l:=l) (i:=i) (by omega) bs];exact U
  ·refine wp_skip<|cF _ _<|aB ab U (ar rfl<|ah) fun a w ab U=>ax fun gQ dz=>wp_block ?_
   obtain ⟨bC,aZ,U⟩:=U.cT
   refine df (γ:=Nat) (0) (fun (k:Nat)=>[(7,az (k:Int))]) [(0,_),(1,_),(5,_),(6,_)] (fun (k:Nat)=>bC) (fun (k:Nat)=>k≤(aw.keys (l.take i) tick).length∧∀ j,j<k→(aw.keys (l.take i) tick).getD j [] < (l.getD (i:Int).toNat aw.f0).ky) (fun (k:Nat)=>(aw.keys (l.take i) tick).length-k) (ab.sub ⟨rfl,rfl,rfl,rfl,rfl,trivial⟩) (by subst aZ;exact U) (by exact ⟨Nat.zero_le _,fun j a6=>absurd a6 (Nat.not_lt_zero _)⟩) ?_
   rintro k a w ba ab U
   subst aZ;(try dsimp only at ba ab U)
   obtain ⟨qG,e5⟩:=ba
   replace U:=eJ U
   refine ax fun iE eO=>ax fun iv eD=>za mixed aA U ?_
   refine ji ab (ai rfl<|ai rfl<|ag (hX cl 0 rfl rfl)<|ag (cK rfl rfl)<|ai rfl<|ah) fun a ab=>IC 4 25 10 ab rfl rfl rfl rfl rfl (fun aO=>have aO:=(by first | exact of_decide_eq_true aO | exact aO);aN 25 rfl rfl rfl (bE rfl)<|aN 25 rfl rfl rfl (bE rfl)<|aN 25 rfl rfl rfl (ft cl bz 0 rfl rfl rfl (by omega))<|aN 25 rfl rfl rfl (lE (f:=vs) (xs:=(aw.keys (l.take i) tick)) bz 0 [] rfl rfl (by omega) rfl)<|aN 25 rfl rfl rfl (bE rfl)<|aN 25 rfl rfl rfl (bE rfl)<|aN 25 rfl rfl rfl (dG dv b2 au rfl rfl (by omega))<|aN 25 rfl rfl rfl (p2 b2 au rfl (by omega) rfl (s':=0) aA)<|aN 25 rfl rfl rfl (Ck bz au cD rfl rfl (by omega))<|aN 25 rfl rfl rfl (adP rfl rfl)<|ah) rfl rfl fun a ab=>?_
   refine zQ ?_
   clear U;intro w U
   refine eD _ _<|cX ab rfl (fun b7=>?_) (fun b7=>?_)
   ·(try simp only [c2] at b7)
    refine wp_skip<|eO _ _<|wp_block ?_
    refine bq ab U (ai rfl<|bX rfl rfl<|ar rfl<|ah) fun a w ab U=>⟨(k+1),?_,?_,ab.sub ⟨rfl,rfl,rfl,rfl,rfl,trivial⟩,?_⟩
    ·(try dsimp only);omega
    ·exact ⟨by omega,aw.S2 e5 b7.2⟩
    ·exact U
   ·(try simp only [c2] at b7)
    refine wp_exit<|dz _ _<|ax fun kM gr=>za mixed aA U ?_
    refine ji ab (ai rfl<|ai rfl<|ag (hX cl 0 rfl rfl)<|ag (fc rfl rfl)<|ai rfl<|ah) fun a ab=>zR 4 43 10 ab rfl rfl rfl rfl rfl (fun aO=>have aO:=(by first | exact of_decide_eq_false aO | exact aO);aN 43 rfl rfl rfl (bE rfl)<|aN 43 rfl rfl rfl (bE rfl)<|aN 43 rfl rfl rfl (ft cl bz 0 rfl rfl rfl (by omega))<|aN 43 rfl rfl rfl (lE (f:=vs) (xs:=(aw.keys (l.take i) tick)) bz 0 [] rfl rfl (by omega) rfl)<|aN 43 rfl rfl rfl (bE rfl)<|aN 43 rfl rfl rfl (bE rfl)<|aN 43 rfl rfl rfl (dG dv b2 au rfl rfl (by omega))<|aN 43 rfl rfl rfl (p2 b2 au rfl (by omega) rfl (s':=0) aA)<|aN 43 rfl rfl rfl (Ck bz au cD rfl rfl (by omega))<|aN 43 rfl rfl rfl (qX rfl rfl)<|ah) rfl rfl fun a ab=>?_
    refine zQ ?_
    clear U;intro w U
    refine gr _ _<|cX ab rfl (fun dr=>?_) (fun dr=>?_)
    ·(try simp only [c2] at dr)
     revert U;revert ab;apply ho (J:=w1 (α0:=Value) (α1:=Value) (α2:=Value) (α3:=Value) (α4:=Value) 72 _ _ _ _ _) #[false,false,false,false,false,false,false,false,false,false,false,false,false,false,false,false,false] 17 mixed rfl rfl
     ·intro w ab U
      refine aR 1 rfl ab (U.ak ae ay) (bE rfl) fun a ab=>aR 2 rfl ab (U.ak ae ay) (bE rfl) fun a ab=>aR 3 rfl ab (U.ak ae ae) (ad2 cl bz 0 rfl rfl rfl (by omega)) fun a ab=>aR 5 rfl ab (U.ak ae ay) (bE rfl) fun a ab=>aR 6 rfl ab (U.ak ae ay) (bE rfl) fun a ab=>?_
      refine aR 7 rfl ab (U.ak ae ay) (dG dv b2 au rfl rfl (by omega)) fun a ab=>aR 8 rfl ab (U.ak ae ay) (p2 b2 au rfl (by omega) rfl (s':=0) aA) fun a ab=>aR 9 rfl ab (U.ak ae ay) (Ck bz au cD rfl rfl (by omega)) fun a ab=>aR 12 rfl ab (U.ak ae ay) (bE rfl) fun a ab=>aR 13 rfl ab (U.ak ae ay) (bE rfl) fun a ab=>?_
      refine aR 14 rfl ab (U.ak ae ae) (ad3 cl bz 0 rfl rfl rfl (by omega)) fun a ab=>fy [0,10] aA rfl ⟨?_,?_,trivial⟩
      ·refine dQ _ rfl rfl ab U rfl (u5 cl bz) ?_
       rintro zE _ _ a w ⟨rfl,rfl⟩ ab U
       refine ⟨⟨.inr (U.ea (ae.n)),.inr U.ax,.inr U.ax,.inr U.ax,.inr U.ax,.inr U.ax,.inr U.ax,.inr U.ax,.inr (U.ea (ae.n)),.inr U.ax,.inr U.ax,trivial⟩,?_⟩
       refine fy [4,10] aA rfl ⟨?_,?_,trivial⟩
       ·refine dQ _ rfl rfl ab U rfl (dB cl bz 0 rfl rfl rfl (wz cl (q:=1) rfl bJ (by omega)) aI rfl (by decide)) ?_
        rintro wI _ _ a w ⟨rfl,rfl⟩ ab U
        refine ⟨⟨.inr (U.ea (ae.n)),.inr U.ax,.inr U.ax,.inr U.ax,.inr U.ax,.inr U.ax,.inr U.ax,.inr U.ax,al,al,al,trivial⟩,?_⟩
        refine bW 10 rfl rfl ab U rfl (dX cl bz rfl rfl bJ (by decide) rfl rfl) ?_
        rintro wG _ _ a w ⟨rfl,rfl⟩ ab U
        refine ⟨⟨.inr (U.ea (ae.n.n)),.inr U.ax,.inr U.ax,al,al,.inr U.ax,.inr U.ax,.inr U.ax,al,al,al,trivial⟩,?_⟩
        refine bW 11 rfl rfl ab U rfl (dB cl bz 1 rfl rfl rfl (eA cl (k:=0) rfl bJ) aI rfl (by decide)) ?_
        rintro wH _ _ a w ⟨rfl,rfl⟩ ab U
        refine ⟨⟨.inr (U.ea (ae.n.n)),.inr U.ax,.inr U.ax,al,al,.inr U.ax,.inr U.ax,.inr U.ax,al,al,al,trivial⟩,?_⟩
        refine bW 15 rfl rfl ab U rfl (dB cl bz 1 rfl rfl rfl (wz cl (q:=2) rfl bJ (by omega)) aI rfl (by decide)) ?_
        rintro uE _ _ a w ⟨rfl,rfl⟩ ab U
        refine ⟨⟨al,al,al,al,al,.inr U.ax,.inr U.ax,.inr U.ax,al,al,al,trivial⟩,?_⟩
        refine aR 16 rfl ab (U.ak ae ay) (lD rfl) fun a ab=>ei aA (vK zE wI wG wH uE (trivial) (ab.sub (L':=[(0,_),(1,_),(5,_),(6,_)]) ⟨rfl,rfl,rfl,rfl,trivial⟩) U)
       ·refine dQ _ rfl rfl ab U rfl (dX cl bz rfl rfl bJ (by decide) rfl rfl) ?_
        rintro wG _ _ a w ⟨rfl,rfl⟩ ab U
        refine ⟨⟨.inr (U.ea (ae.n.n)),.inr U.ax,.inr U.ax,al,al,.inr U.ax,.inr U.ax,.inr U.ax,.inr (U.ea (ae.n.n)),.inr U.ax,.inr U.ax,trivial⟩,?_⟩
        refine bW 4 rfl rfl ab U rfl (dB cl bz 1 rfl rfl rfl (wz cl (q:=2) rfl bJ (by omega)) aI rfl (by decide)) ?_
        rintro wI _ _ a w ⟨rfl,rfl⟩ ab U
        refine ⟨⟨.inr (U.ea (ae.n.n)),.inr U.ax,.inr U.ax,al,al,.inr U.ax,.inr U.ax,.inr U.ax,al,al,al,trivial⟩,?_⟩
        refine bW 11 rfl rfl ab U rfl (dB cl bz 1 rfl rfl rfl (eA cl (k:=0) rfl bJ) aI rfl (by decide)) ?_
        rintro wH _ _ a w ⟨rfl,rfl⟩ ab U
        refine ⟨⟨.inr (U.ea (ae.n.n)),.inr U.ax,.inr U.ax,al,al,.inr U.ax,.inr U.ax,.inr U.ax,al,al,al,trivial⟩,?_⟩
        refine bW 15 rfl rfl ab U rfl (dB cl bz 1 rfl rfl rfl (wz cl (q:=2) rfl bJ (by omega)) aI rfl (by decide)) ?_
        rintro uE _ _ a w ⟨rfl,rfl⟩ ab U
        refine ⟨⟨al,al,al,al,al,.inr U.ax,.inr U.ax,.inr U.ax,al,al,al,trivial⟩,?_⟩
        refine aR 16 rfl ab (U.ak ae ay) (lD rfl) fun a ab=>ei aA (vK zE wI wG wH uE (trivial) (ab.sub (L':=[(0,_),(1,_),(5,_),(6,_)]) ⟨rfl,rfl,rfl,rfl,trivial⟩) U)
      ·refine dQ _ rfl rfl ab U rfl (dX cl bz rfl rfl bJ (by decide) rfl rfl) ?_
       rintro wG _ _ a w ⟨rfl,rfl⟩ ab U
       refine ⟨⟨.inr (U.ea (ae.n)),.inr U.ax,.inr U.ax,al,al,.inr U.ax,.inr U.ax,.inr U.ax,.inr (U.ea (ae.n)),.inr U.ax,.inr U.ax,trivial⟩,?_⟩
       refine bW 0 rfl rfl ab U rfl (u5 cl bz) ?_
       rintro zE _ _ a w ⟨rfl,rfl⟩ ab U
       refine ⟨⟨.inr (U.ea (ae.n.n)),.inr U.ax,.inr U.ax,al,al,.inr U.ax,.inr U.ax,.inr U.ax,.inr (U.ea (ae.n.n)),.inr U.ax,.inr U.ax,trivial⟩,?_⟩
       refine bW 4 rfl rfl ab U rfl (dB cl bz 0 rfl rfl rfl (wz cl (q:=2) rfl bJ (by omega)) aI rfl (by decide)) ?_
       rintro wI _ _ a w ⟨rfl,rfl⟩ ab U
       refine ⟨⟨.inr (U.ea (ae.n.n)),.inr U.ax,.inr U.ax,al,al,.inr U.ax,.inr U.ax,.inr U.ax,al,al,al,trivial⟩,?_⟩
       refine bW 11 rfl rfl ab U rfl (dB cl bz 0 rfl rfl rfl (eA cl (k:=1) rfl bJ) aI rfl (by decide)) ?_
       rintro wH _ _ a w ⟨rfl,rfl⟩ ab U
       refine ⟨⟨.inr (U.ea (ae.n.n)),.inr U.ax,.inr U.ax,al,al,.inr U.ax,.inr U.ax,.inr U.ax,al,al,al,trivial⟩,?_⟩
       refine bW 15 rfl rfl ab U rfl (dB cl bz 0 rfl rfl rfl (wz cl (q:=2) rfl bJ (by omega)) aI rfl (by decide)) ?_
       rintro uE _ _ a w ⟨rfl,rfl⟩ ab U
       refine ⟨⟨al,al,al,al,al,.inr U.ax,.inr U.ax,.inr U.ax,al,al,al,trivial⟩,?_⟩
       refine aR 16 rfl ab (U.ak ae ay) (lD rfl) fun a ab=>ei aA (vK zE wI wG wH uE (trivial) (ab.sub (L':=[(0,_),(1,_),(5,_),(6,_)]) ⟨rfl,rfl,rfl,rfl,trivial⟩) (U.perm (.swap _ _ _)))
     rintro a w ⟨zE,wI,wG,wH,uE, -,ab,U⟩
     (try dsimp only at ab U)
     replace U:=ez U
     rw [aw.Z9,aw.aaa _ (l.getD (i:Int).toNat aw.f0).ky qG] at U
     replace U:=U.perm hF
     replace U:=ez U
     refine cO _ _<|bq ab U (ai rfl<|bX rfl rfl<|ar rfl<|ah) fun a w ab U=>?_
     replace U:=U.ak ay (ae.n.n)
     refine ⟨(uE,i+1),?_,?_,ab.sub ⟨rfl,rfl,rfl,rfl,trivial⟩,?_⟩
     ·(try dsimp only);omega
     ·omega
     ·dsimp only;rw [aw.M8 (l:=l) (i:=i) (by omega) (by omega),aw.aaI qG e5 b7 dr];exact U
    ·(try simp only [c2] at dr)
     refine wp_skip<|cO _ _<|bq ab U (ai rfl<|bX rfl rfl<|ar rfl<|ah) fun a w ab U=>⟨(u,i+1),?_,?_,ab.sub ⟨rfl,rfl,rfl,rfl,trivial⟩,?_⟩
     ·(try dsimp only);omega
     ·omega
     ·dsimp only;rw [aw.M8 (l:=l) (i:=i) (by omega) (by omega),aw.aaJ qG e5 dr];exact U
 ·obtain rfl:i=l.length:=by omega
  rw [List.take_length] at U
  refine wp_exit<|cf _ _<|aB ab U (ai rfl<|ar rfl<|ah) fun a w ab U=>wp_ret ?_
  exact bR (rs:=[.tmp 4]) rfl ab U (vs:=[_]) ⟨rfl,trivial⟩ ay ae ⟨rfl,rfl⟩
theorem aeI(v:Value)(l:List aw.bO)(tick:Int)(hl:l.length<1048576)(w:World)(au:bg Go.aJ.hv (b1 w) v l):ch Tryz.prog 39 [v,az tick] w (Sx iU (aw.ia l tick)):=by
 refine cI Tryz.func39 rfl Tryz.ntmps39 (Nat.le_of_ble_eq_true rfl) fun a ab U=>?_
 have cZ:=au.1
 have oc:=aw.BJ l tick
 have Gk:=aw.r5 l tick
 have FZ:=aw.Nz (xi au) tick
 refine aB ab U (ar rfl<|ah) fun a w ab U=>ax fun cm bD=>bq ab U (ar rfl<|ah) fun a w ab U=>?_
 replace U:=U.hV 147 2
 refine bD _ _<|a8 fun dH cf=>aE ab U (ai rfl<|ai rfl<|ah) fun a w ab U=>aH ab U rfl (eB Lk rfl (fun w U=>PL _ _ _ (by omega) w (bg.mono (U.le cD) au))) ?_
 rintro v2 _ _ a w ⟨_,_,rfl,rfl,⟨rfl,rfl⟩⟩ ab U
 replace U:=eK U
 refine aE ab U (ar rfl<|ah) fun a w ab U=>wpList_nil (cf _ _ ?_)
 refine ax fun dP cq=>aB ab U (ar rfl<|ah) fun a w ab U=>wp_block ?_
 obtain ⟨bC,aZ,U⟩:=U.cT
 refine df (γ:=Value×Nat) ((Value.slice none 0 0),0) (fun (u,j)=>[(5,u),(7,az (j:Int))]) [(0,_),(1,_),(6,_)] (fun (u,j)=>(bC.set 1 (.row u 147 2 j (((aw.ia l tick).take j).flatMap pS)))) (fun (u,j)=>j≤(aw.keys l tick).length) (fun (u,j)=>(aw.keys l tick).length-j) (ab.sub ⟨rfl,rfl,rfl,rfl,rfl,trivial⟩) (by subst aZ;exact U) (by exact Nat.zero_le _) ?_
 rintro ⟨u,j⟩ a w ba ab U
 subst aZ;(try dsimp only at ba ab U)
 have rS:=ba
 replace U:=eK U
 refine ax fun et cz=>aB ab U (ai rfl<|ai rfl<|ag (hX cl 0 rfl rfl)<|ag (cK rfl rfl)<|ah) fun a w ab U=>b9 ab rfl (fun aS=>?_) (fun aS=>?_)
 ·refine wp_skip<|cz _ _<|ax fun e1 cF=>wp_block ?_
  refine aB ab U (ai rfl<|ai rfl<|ai rfl<|ai rfl<|ag (ft cl bz 0 rfl rfl rfl (by omega))<|ag (lE (f:=vs) (xs:=(aw.keys l tick)) bz 0 [] rfl rfl (by omega) rfl)<|ag (bQ K8 rfl (fun w U=>PM _ _ _ _ w (bg.mono (U.le cD) au)) (fun _ _ _ h=>h))<|ai rfl<|ag (cE rfl rfl)<|ag (cE rfl rfl)<|ar rfl<|ar rfl<|ah) fun a w ab U=>du ?_
  refine aE ab U (ai rfl<|ai rfl<|ai rfl<|ag (ft cl bz 0 rfl rfl rfl (by omega))<|ag (lE (f:=vs) (xs:=(aw.keys l tick)) bz 0 [] rfl rfl (by omega) rfl)<|ai rfl<|ag (oq mO 2 aA rfl rfl (bn rfl (bn rfl dC)) rfl rfl)<|ah) fun a w ab U=>aH ab U rfl (qt nf mO rfl aI (by decide) bJ (by decide) (by decide)) ?_
  rintro v4 _ _ a w ⟨rfl,rfl⟩ ab U
  replace U:=ez U
  refine aH ab U rfl (dB nf mO 2 rfl rfl rfl (eA nf (k:=0) rfl bJ) aI rfl (by decide)) ?_
  rintro v6 _ _ a w ⟨rfl,rfl⟩ ab U
  replace U:=ez U
  refine aE ab U (ar rfl<|ah) fun a w ab U=>wpList_nil (cF _ _ ?_)
  refine bq ab U (ai rfl<|bX rfl rfl<|ar rfl<|ah) fun a w ab U=>?_
  replace U:=U.ak ay (ae.n)
  refine ⟨(v6,j+1),?_,?_,ab.sub ⟨rfl,rfl,rfl,rfl,rfl,trivial⟩,?_⟩
  ·(try dsimp only);omega
  ·omega
  ·rw [aw.NA (by omega)] at U
   exact U
 ·obtain rfl:j=(aw.keys l tick).length:=by omega
  rw [← aw.r5,List.take_length] at U
  refine wp_exit<|cq _ _<|aB ab U (ai rfl<|ar rfl<|ah) fun a w ab U=>wp_ret ?_
  replace U:=U.perm (.swap _ _ _)
  obtain ⟨zr,Gr,U⟩:=aC.Ww (xs:=aw.ia l tick) (U.CD (m':=List.length (aw.ia l tick)) (cs':=List.flatMap pS (aw.ia l tick)) (rfl) (rfl)) rfl (by omega) (FZ)
  exact bR (rs:=[.tmp 4]) rfl ab U (vs:=[_]) ⟨rfl,trivial⟩ (zs':=[zr]) (hs':=[]) (List.singleton_sublist.2 (by simp)) ay ⟨zr,Gr,rfl,rfl⟩
end
section
theorem VQ:bU Tryz.prog 39:=bY Tryz.func39
attribute [local irreducible] aF.int aF.bytes aF.getInt aF.ef aK.sum aj.eW aj.aT aj.cU aj.bh aj.c8 aj.fX aj.app aj.eo aw.dec aw.enc ao.new aw.add aw.taken cM.fo aw.dN aw.keys bo.mK bo.TR aw.ia
end
section
theorem km : a1 Tryz.prog 93 (.struct #[⟨ "D", 90, 0, false, "", "", 0⟩, ⟨ "J", 91, 1, false, "", "", 8⟩, ⟨ "L", 26, 2, false, "", "", 16⟩, ⟨ "Lucky", 4, 3, false, "", "", 40⟩]) 4 48 (.agg ([Value.pointer none, Value.pointer none] ++ [Value.slice none 0 0] ++ [Value.bool false]).toArray) := ⟨Tryz.underlying93, by kernel_rfl⟩
theorem Vq:bU Tryz.prog 139:=bY Tryz.func139
theorem Vr:bU Tryz.prog 140:=bY Tryz.func140
attribute [local irreducible] aF.int aF.bytes aF.getInt aF.ef aK.sum aj.eW aj.aT aj.cU aj.bh aj.c8 aj.fX aj.app aj.eo aw.dec aw.enc
abbrev oG(ml bd b:Nat)(fv:Value)(lk:Bool):av:=.blk ml 93 [.pointer (some ⟨bd,0,none⟩),.pointer (some ⟨b,0,none⟩),fv,.bool lk]
theorem ae5(v:Value)(l:List (List UInt8))(qK:∀ x∈l,x.length≤8064)(w:World)(au:bg Go.aJ.encS (b1 w) v l):ch Tryz.prog 140 [v] w (fun r zs hs=>zs=[]∧hs=[.row r 24 3 (aw.taken l).length ((aw.taken l).flatMap aw.j4)]):=by
 refine cI Tryz.func140 rfl Tryz.ntmps140 (Nat.le_of_ble_eq_true rfl) fun a ab U=>?_
 have cZ:=au.1
 refine aB ab U (ar rfl<|ah) fun a w ab U=>ax fun cm bD=>bq ab U (ar rfl<|ah) fun a w ab U=>?_
 replace U:=U.hV 24 3
 refine bD _ _<|aB ab U (ar rfl<|ah) fun a w ab U=>ax fun dP cq=>aB ab U (ar rfl<|ah) fun a w ab U=>wp_block ?_
 obtain ⟨bC,aZ,U⟩:=U.cT
 refine df (γ:=Value×Nat) ((Value.slice none 0 0),0) (fun (u,i)=>[(3,u),(4,az (aw.fe l i).2),(5,az (i:Int))]) [(0,_)] (fun (u,i)=>(bC.set 0 (.row u 24 3 (aw.fe l i).1.length ((aw.fe l i).1.flatMap aw.j4)))) (fun (u,i)=>i≤l.length) (fun (u,i)=>l.length-i) (ab.sub ⟨rfl,rfl,rfl,rfl,trivial⟩) (by subst aZ;exact U) (by exact Nat.zero_le _) ?_
 rintro ⟨u,i⟩ a w ba ab U
 subst aZ;(try dsimp only at ba ab U)
 have eu:=ba
 replace U:=eJ U
 have By:=aw.QH l eu
 refine ax fun et cz=>aB ab U (ai rfl<|ai rfl<|ag (dL cl au rfl)<|ag (cK rfl rfl)<|ah) fun a w ab U=>b9 ab rfl (fun aS=>?_) (fun aS=>?_)
 ·have ZU:(l.getD (i:Int).toNat []).length≤8064:=by rw [Int.toNat_natCast];exact qK _ (aK.jE l i (by omega))
  refine wp_skip<|cz _ _<|ax fun e1 cF=>wp_block ?_
  refine a8 fun fY dg=>aE ab U (ai rfl<|ai rfl<|ag (dG cl bz au rfl rfl (by omega))<|ag (si bz au cD rfl rfl (by omega))<|ah) fun a w ab U=>aH ab U rfl (s8 bz bS bF rfl (by omega)) ?_
  rintro v2 _ _ a w ⟨z3,rfl,rfl,o4⟩ ab U
  refine aE ab U (ag (bQ VN rfl (fun w U=>aeo _ _ w (bg.mono (U.le (.inr (by simp))) o4)) (fun _ _ _ h=>h))<|ai rfl<|ag (cE rfl rfl)<|ag (cE rfl rfl)<|ah) fun a w ab U=>aH ab U rfl (c1 b2) ?_
  rintro _ _ _ a w ⟨uV,rfl,rfl,rfl⟩ ab U
  refine aH ab U rfl (cA b2 0 rfl rfl rfl rfl aI (bn rfl (bn rfl (bn rfl dC))) aI) ?_
  rintro _ _ _ a w ⟨rfl,rfl,rfl⟩ ab U
  replace U:=kZ U
  refine aE ab U (ar rfl<|ah) fun a w ab U=>wpList_nil (dg _ _ ?_)
  refine a8 fun hE dS=>aE ab U (ai rfl<|ag (fc rfl rfl)<|ai rfl<|ah) fun a w ab U=>jJ 2 25 4 ab U rfl rfl rfl rfl rfl (fun aO=>have aO:=(by first | exact of_decide_eq_true aO | exact aO);aN 25 rfl rfl rfl (aV b2 rfl rfl (s':=0) aA)<|aN 25 rfl rfl rfl (bc bG 0 rfl rfl rfl rfl)<|aN 25 rfl rfl rfl (bE rfl)<|aN 25 rfl rfl rfl (jH rfl rfl)<|ah) rfl rfl fun a w ab U=>?_
  refine aE ab U (ai rfl<|ah) fun a w ab U=>jJ 8 31 3 ab U rfl rfl rfl rfl rfl (fun aO=>have aO:=aO;aN 31 rfl rfl rfl (bE rfl)<|aN 31 rfl rfl rfl (hX dv 1 rfl rfl)<|aN 31 rfl rfl rfl (cK rfl rfl)<|ah) rfl rfl fun a w ab U=>?_
  refine wpList_nil (dS _ _ ?_)
  refine cX ab rfl (fun bs=>?_) (fun bs=>?_)
  ·(try simp only [c2] at bs)
   have cg:=aw.agv (l:=l) (i:=i) (by omega) bs
   refine a8 fun gQ dz=>aE ab U (ai rfl<|ag (fW b2 0 rfl rfl aI rfl)<|ah) fun a w ab U=>aH ab U rfl (qt dv b2 rfl aI (by decide) bJ (by decide) (by decide)) ?_
   rintro v6 _ _ a w ⟨rfl,rfl⟩ ab U
   replace U:=o7 U
   refine aH ab U rfl (dB dv b2 2 rfl rfl rfl (eA dv (k:=0) rfl bJ) aI rfl (by decide)) ?_
   rintro sz _ _ a w ⟨rfl,rfl⟩ ab U
   replace U:=o7 U
   refine aE ab U (ar rfl<|ah) fun a w ab U=>wpList_nil (dz _ _ ?_)
   refine bq ab U (ag (aV b2 rfl rfl (s':=0) aA)<|ag (bc bG 1 rfl rfl rfl rfl)<|ar rfl<|ah) fun a w ab U=>cF _ _ ?_
   refine bq ab U (ai rfl<|bX rfl rfl<|ar rfl<|ah) fun a w ab U=>?_
   replace U:=U.ak ay (ae.n.n)
   refine ⟨(sz,i+1),?_,?_,ab.sub ⟨rfl,(by show some (az _)=some (az _);rw [cg]),rfl,rfl,trivial⟩,?_⟩
   ·(try dsimp only);omega
   ·omega
   ·dsimp only;rw [cg];dsimp only;rw [← aw.GJ,← aw.En];exact U
  ·(try simp only [c2] at bs)
   have cg:=aw.agu (l:=l) (i:=i) (by omega) bs
   refine wp_skip<|cF _ _<|bq ab U (ai rfl<|bX rfl rfl<|ar rfl<|ah) fun a w ab U=>?_
   replace U:=U.ak ay (ae.n)
   refine ⟨(u,i+1),?_,?_,ab.sub ⟨rfl,(by show some (az _)=some (az _);rw [cg]),rfl,rfl,trivial⟩,?_⟩
   ·(try dsimp only);omega
   ·omega
   ·dsimp only;rw [cg];exact U
 ·obtain rfl:i=l.length:=by omega
  refine wp_exit<|cq _ _<|aB ab U (ai rfl<|ar rfl<|ah) fun a w ab U=>wp_ret ?_
  exact bR (rs:=[.tmp 2]) rfl ab U (vs:=[_]) ⟨rfl,trivial⟩ ay ae ⟨rfl,rfl⟩
theorem NL(bd:Nat)(v:Value)(S:ao.aX)(nF:S.off=false)(w0:World)(bP:List aP){dK:Nat×Nat}{dJ:TypeId}(hj:w0.heap[0]?=some (.cells (aK.ek.map cx).toArray dJ dK))(bB:ao.Ok S):eH Tryz.prog 92 [.pointer (some ⟨bd,0,none⟩)] w0 bP [fh bd v S,fj v S] (fun r zs hs=>zs=[]∧∃ ml b fv cj ck cr ct,r=.tuple [.pointer (some ⟨ml,0,none⟩),az 0].toArray∧hs=[oG ml bd b fv false,lP fv (aw.taken (aj.eo S).tx),cj,ck,cr,ct,fh bd v S,fj v S]∧lN b bd (aj.eo S) cj ck cr ct):=by
 refine fF Tryz.func92 rfl Tryz.ntmps92 (Nat.le_of_ble_eq_true rfl) fun cw a w ab U=>?_
 replace U:=gw U
 have e5:=bB.lo
 have gg:=bB.aG
 refine aB ab U (ar rfl<|ar rfl<|ah) fun a w ab U=>a8 fun cm bD=>aE ab U (ai rfl<|ah) fun a w ab U=>aH ab U rfl (dy Vq rfl (List.Perm.refl _) (by exact (Y8 _ v S nF _ _ hj (by first | assumption | exact ao.yL (by assumption) _)))) ?_
 rintro _ _ _ a w ⟨_,_,rfl,rfl,⟨rfl,vL,y0,y1,y2,y3,rfl,rfl,Xs⟩⟩ ab U
 replace U:=lB U
 refine aE ab U (ai rfl<|ag (cE rfl rfl)<|ag (cE rfl rfl)<|ar rfl<|ar rfl<|ah) fun a w ab U=>wpList_nil ?_
 obtain ⟨un,ubd,ut,fI,rfl,rfl,rfl,rfl⟩:=Xs
 have Mz:=fI.lY
 have yp:=fI.oe
 have MB:=fI.bK
 have BA:=fI.bV
 have MC:=fI.nl
 have MD:=fI.tl
 have ME:=fI.bl
 have MF:=fI.pW
 have MG:=fI.pA
 have MA:=fI.ox
 replace U:=lB U
 have Gi:=fI.tr
 have ak9:=fI.ox
 refine bD _ _<|ax fun dH cf=>aB ab U (ai rfl<|ag (lF (dM rfl rfl) (by simp))<|ah) fun a w ab U=>cX ab rfl (fun h=>absurd h (by simp)) (fun _=>?_)
 refine wp_skip<|cf _ _<|a8 fun dw b3=>aE ab U (ai rfl<|ai rfl<|ai rfl<|ag (bI rfl)<|ag (aV gk rfl rfl (s':=0) aA)<|ag (bc cl 0 rfl rfl rfl rfl)<|ah) fun a w ab U=>aH ab U rfl (eB Vr rfl (fun w U=>ae5 _ _ Gi w (k2 (U.own _ (List.mem_of_getElem? (i:=3) rfl)).1 (by first | assumption | (simp;done)) (by first | rfl | (simp;done) | (simp;omega) | omega) (by first | omega | (simp;omega))))) ?_
 rintro v12 _ _ a w ⟨_,_,rfl,rfl,⟨rfl,rfl⟩⟩ ab U
 replace U:=kH U
 refine aE ab U (ag (hc (places:=[(0,1),(1,1),(2,1),(3,1)]) (cells:=[_,_,_,.bool false]) km aA rfl (td (c:=[_]) (l:=[_,_,_,_]) (l':=[_,_,_,_]) rfl (s6 rfl) rfl (Nat.le_of_ble_eq_true rfl) rfl (td (c:=[_]) (l:=[_,_,_,_]) (l':=[_,_,_,_]) rfl (s6 rfl) rfl (Nat.le_of_ble_eq_true rfl) rfl (td (c:=[_]) (l:=[_,_,_,_]) (l':=[_,_,_,_]) rfl (s6 (row_one (U.own _ (List.mem_of_getElem? (i:=0) rfl)).1)) rfl (Nat.le_of_ble_eq_true rfl) rfl (KE rfl)))))<|ah) fun a w ab U=>aH ab U rfl (iT rfl) ?_
 rintro _ _ _ a w ⟨Af,rfl,rfl,rfl⟩ ab U
 refine aE ab U (ar rfl<|ar rfl<|ah) fun a w ab U=>wpList_nil (b3 _ _ ?_)
 refine wp_ret<|cQ (rs:=[.tmp 2,.tmp 3]) rfl ab U (vs:=[_,_]) ⟨rfl,rfl,trivial⟩ [] [_,_,_,_,_,_,_,_] ae ae ⟨rfl,Af,vL,_,_,_,_,_,rfl,rfl,⟨un,ubd,ut,fI,rfl,rfl,rfl,rfl⟩⟩
end
section
theorem agF:a1 Tryz.prog 91 (.pointer 207) 1 8 (Value.pointer none):=⟨Tryz.underlying91,by kernel_rfl⟩
theorem vf:bU Tryz.prog 86:=bY Tryz.func86
theorem Wg:bU Tryz.prog 87:=bY Tryz.func87
attribute [local irreducible] aF.int aF.bytes aF.getInt aF.ef aK.sum aj.eW aj.aT aj.cU aj.bh aj.c8 aj.fX aj.app aj.eo aw.dec aw.enc
theorem vP(b:Nat)(pd pj v lk:Value)(l:List aw.bO)(w:World){bt:TypeId}{fz:Nat×Nat}(hl:w.heap[b]?=some (.cells [pd,pj,v,lk].toArray bt fz))(au:bg Go.aJ.hv (b1 w) v l):ch Tryz.prog 86 [.pointer (some ⟨b,0,none⟩)] w (fun r _ _=>r=az (aw.clock l)):=by
 refine cI Tryz.func86 rfl Tryz.ntmps86 (Nat.le_of_ble_eq_true rfl) fun a ab U=>?_
 have cZ:=au.1
 refine aB ab U (ar rfl<|ah) fun a w ab U=>ax fun cm bD=>aB ab U (ai rfl<|ag (bI rfl)<|ag (aV km rfl rfl (s':=0) aA)<|ag (iC dv rfl hl rfl rfl)<|ag (dL dv au rfl)<|ag (fc rfl rfl)<|ah) fun a w ab U=>b9 ab rfl (fun aS=>?_) (fun aS=>?_)
 ·refine ax fun dP cq=>bq ab U (ar rfl<|ah) fun a w ab U=>cq _ _ ?_
  refine wp_ret<|bR (rs:=[.tmp 2]) rfl ab U (vs:=[_]) ⟨rfl,trivial⟩ ay ay (by rw [aw.JV aS])
 ·refine wp_skip<|bD _ _<|hZ mixed aA ab U (ai rfl<|ag (bI rfl)<|ag (aV km rfl rfl (s':=0) aA)<|ag (iC dv rfl hl rfl rfl)<|ai rfl<|ag (bI rfl)<|ag (aV km rfl rfl (s':=0) aA)<|ag (iC dv rfl hl rfl rfl)<|ag (dL dv au rfl)<|e2 rfl rfl<|ag (dG dv b2 au rfl rfl (by omega))<|ag (p2 b2 au rfl (by omega) rfl (s':=0) aA)<|ag (yV bG au cD rfl rfl (by omega))<|ar rfl<|ah) fun a w ab U=>wp_ret ?_
  exact bR (rs:=[.tmp 2]) rfl ab U (vs:=[_]) ⟨rfl,trivial⟩ ay ay (by rw [aw.JW aS])
theorem abv(bd ml b:Nat)(v:Value)(lk:Bool)(M:aw.fD)(f:aw.bO)(bw:aw.jK f)(eG:f.ky.length≤1048576∧f.vl.length≤1048576)(w0:World)(bP:List aP){fv:Value}{cj ck cr ct:av}{dK:Nat×Nat}{dJ:TypeId}(hj:w0.heap[0]?=some (.cells (aK.ek.map cx).toArray dJ dK))(fG:aw.Good M.F)(ej:lN b bd M.J cj ck cr ct)(bB:ao.Ok M.S):eH Tryz.prog 49 [.pointer (some ⟨ml,0,none⟩),.agg [az f.tk,vs f.ky,vs f.vl].toArray] w0 bP [oG ml bd b fv lk,lP fv M.F,cj,ck,cr,ct,fh bd v M.S,fj v M.S] (aw.z1 (oG ml bd b · lk) lP (lN b bd) (fh bd v) (fj v) (aw.add M f).1 (az (aw.add M f).2)):=by
 refine fF Tryz.func49 rfl Tryz.ntmps49 (Nat.le_of_ble_eq_true rfl) fun cw a w ab U=>?_
 replace U:=hW U
 have nD:=fG.len
 have vw:=bw.1
 have tD:=aw.Ky f
 refine a8 fun dW cR=>aH ab U rfl (iT (cs:=[az f.tk,vs f.ky,vs f.vl]) rfl) ?_
 rintro _ _ _ a w ⟨b6,rfl,rfl,rfl⟩ ab U
 refine aE ab U (ar rfl<|ah) fun a w ab U=>wpList_nil (cR _ _ ?_)
 refine aB ab U (ag (fW b2 0 rfl rfl aI rfl)<|ag (bQ K1 rfl (fun w U=>PI f bw w ) (fun _ _ _ h=>h))<|ar rfl<|ah) fun a w ab U=>ax fun dH cf=>aB ab U (ai rfl<|ag (dM rfl rfl)<|ah) fun a w ab U=>eP ab rfl (fun aS=>?_) (fun aS=>?_)
 ·refine ax fun dw b3=>bq ab U (ai rfl<|ar rfl<|ah) fun a w ab U=>b3 _ _ ?_
  refine wp_ret ?_
  replace U:=(((((((U.perm (.swap _ _ _)).perm hF).perm j1).perm kr).perm oI).perm py).perm qh).perm qi
  exact cQ (rs:=[.tmp 4]) rfl ab U (vs:=[_]) ⟨rfl,trivial⟩ [] [_,_,_,_,_,_,_,_] ae (ae.n.k.k.k.k.k.k.k.k) (aw.yG (L:=M) ⟨rfl,rfl,_,_,_,_,_,rfl,ej⟩ (by rw [aw.xl aS]) (by rw [aw.xl aS]))
 ·refine wp_skip<|cf _ _<|ax fun et cz=>hZ mixed aA ab U (ag (aV b2 rfl rfl (s':=0) aA)<|ag (bc bG 0 rfl rfl rfl rfl)<|ai rfl<|ag (bQ vf rfl (fun w U=>vP _ _ _ _ _ _ w (kj U 1 rfl) (kI (hl:=aw.jP) (h1:=aw.j5) (U.own _ (List.mem_of_getElem? (i:=2) rfl)).1 rfl (by first | omega | (simp;done)) (aw.pH fG))) (fun _ _ _ h=>h))<|ag (cK rfl rfl)<|ah) fun a w ab U=>b9 ab rfl (fun bs=>?_) (fun bs=>?_)
  ·refine ax fun e1 cF=>bq ab U (ar rfl<|ah) fun a w ab U=>cF _ _ ?_
   refine wp_ret ?_
   replace U:=(((((((U.perm (.swap _ _ _)).perm hF).perm j1).perm kr).perm oI).perm py).perm qh).perm qi
   exact cQ (rs:=[.tmp 4]) rfl ab U (vs:=[_]) ⟨rfl,trivial⟩ [] [_,_,_,_,_,_,_,_] ae (ae.n.k.k.k.k.k.k.k.k) (aw.yG (L:=M) ⟨rfl,rfl,_,_,_,_,_,rfl,ej⟩ (by rw [aw.uR (by omega) bs]) (by rw [aw.uR (by omega) bs]))
  ·refine wp_skip<|cz _ _<|ax fun fY dg=>aB ab U (ai rfl<|ag (bI rfl)<|ag (aV km rfl rfl (s':=0) aA)<|ag (bc dv 1 rfl rfl rfl rfl)<|ag (hX dv 2 rfl rfl)<|ag (jH rfl rfl)<|ah) fun a w ab U=>b9 ab rfl (fun b7=>?_) (fun b7=>?_)
   ·refine ax fun gQ dz=>bq ab U (ar rfl<|ah) fun a w ab U=>dz _ _ ?_
    refine wp_ret ?_
    replace U:=(((((((U.perm (.swap _ _ _)).perm hF).perm j1).perm kr).perm oI).perm py).perm qh).perm qi
    exact cQ (rs:=[.tmp 4]) rfl ab U (vs:=[_]) ⟨rfl,trivial⟩ [] [_,_,_,_,_,_,_,_] ae (ae.n.k.k.k.k.k.k.k.k) (aw.yG (L:=M) ⟨rfl,rfl,_,_,_,_,_,rfl,ej⟩ (by rw [aw.xm (by omega) bs (by omega)]) (by rw [aw.xm (by omega) bs (by omega)]))
   ·refine wp_skip<|dg _ _<|ax fun iE eO=>?_
    revert U;revert ab;apply ho (J:=w1 (α0:=Value) (α1:=av) (α2:=av) (α3:=av) (α4:=av) 48 _ _ _ _ _) #[false,false,false,false,false,false,false,false,false,false,false,false,false] 13 mixed rfl rfl
    ·intro w ab U
     refine aR 0 rfl ab (U.ak ae (ae.n.n.n.n.n.n.n.n.n)) (bE rfl) fun a ab=>aR 1 rfl ab (U.ak ae (ae.n.n.n.n.n.n.n.n.n)) (bI rfl) fun a ab=>aR 2 rfl ab (U.ak ae (ae.n.n.n.n.n.n.n.n.n)) (aV km rfl rfl (s':=0) aA) fun a ab=>aR 3 rfl ab (U.ak ae (ae.n.n.n.n.n.n.n.k.n)) (bc agF 0 rfl rfl rfl rfl) fun a ab=>aR 4 rfl ab (U.ak ae (ae.n.n.n.n.n.n.n.n.k)) (fW b2 0 rfl rfl aI rfl) fun a ab=>?_
     refine bW 5 rfl rfl ab U rfl (eB Vg rfl (fun w U=>aeC f bw eG w )) ?_
     rintro Rw _ _ a w ⟨_,_,rfl,rfl,rfl,rfl⟩ ab U
     replace U:=m8 U
     refine ⟨⟨al,.inr (U.ak ae (ae.n.n.n.n.n.n.n.k.n.n)),.inr (U.ak ae (ae.n.n.n.n.n.n.n.n.n.n)),.inr (U.ak ae (ae.n.n.n.n.n.n.n.n.n.n)),.inr (U.ak ae (ae.n.n.n.n.n.n.n.n.n.n)),trivial⟩,?_⟩
     refine aR 6 rfl ab (U.ak ae (ae.n.n.n.n.n.n.n.n.n.k)) (mF bS bz bF 0 rfl rfl) fun a ab=>fy [7] aA rfl ⟨?_,trivial⟩
     replace U:=(((((U.perm kq).perm lh).perm lj).perm lQ).perm uO).perm Jn
     replace U:=m8 U
     refine dQ _ rfl rfl ab U rfl (dy Wg rfl (List.Perm.refl _) (by exact (XU _ _ v _ M.S (aw.enc f) _ _ hj ej (by assumption)))) ?_
     rintro _ _ _ a w ⟨_,_,rfl,rfl,⟨rfl,rfl,O7,Pg,Pq,Pz,rfl,A5⟩⟩ ab U
     replace U:=m8 U
     refine ⟨⟨al,al,al,al,.inr (U.ak ae (ae.n.n.n.n.n.n.n.n.n.n)),.inr (U.ak ae (ae.n.n.n.n.n.n.n.n.n.n)),trivial⟩,?_⟩
     refine aR 8 rfl ab (U.ak ae (ae.n.n.n.n.n.n.n.n.n.n)) (bE rfl) fun a ab=>aR 9 rfl ab (U.ak ae (ae.n.n.n.n.n.n.n.n.n.n)) (cE rfl rfl) fun a ab=>aR 10 rfl ab (U.ak ae (ae.n.n.n.n.n.n.n.n.n.n)) (cE rfl rfl) fun a ab=>aR 11 rfl ab (U.ak ae (ae.n.n.n.n.n.n.n.n.n.n)) (lD rfl) fun a ab=>aR 12 rfl ab (U.ak ae (ae.n.n.n.n.n.n.n.n.n.n)) (lD rfl) fun a ab=>?_
     exact ei aA (vK Rw O7 Pg Pq Pz ((And.intro A5 trivial)) (ab.sub (L':=[(0,_),(3,_),(7,_)]) ⟨rfl,rfl,rfl,trivial⟩) U)
    rintro a w ⟨Rw,O7,Pg,Pq,Pz,⟨A5, -⟩,ab,U⟩
    (try dsimp only at ab U)
    refine eO _ _<|ax fun iv eD=>aB ab U (ai rfl<|ag (dM rfl rfl)<|ah) fun a w ab U=>eP ab rfl (fun dr=>?_) (fun dr=>?_)
    ·refine ax fun jN fa=>bq ab U (ai rfl<|ar rfl<|ah) fun a w ab U=>fa _ _ ?_
     refine wp_ret ?_
     replace U:=(U.perm q8).perm qg
     exact cQ (rs:=[.tmp 4]) rfl ab U (vs:=[_]) ⟨rfl,trivial⟩ [] [_,_,_,_,_,_,_,_] ae (ae.n.n.k.k.k.k.k.k.k.k) (aw.yG (L:=⟨(aj.app M.J M.S (aw.enc f)).1,(aj.app M.J M.S (aw.enc f)).2.1,M.F⟩) ⟨rfl,rfl,_,_,_,_,_,rfl,A5⟩ (by rw [aw.uS (by omega) bs (by omega) dr]) (by rw [aw.uS (by omega) bs (by omega) dr]))
    ·refine wp_skip<|eD _ _<|ax fun mc hh=>?_
     revert U;revert ab;apply ho (J:=jM (α0:=Value) (α1:=Value) 48 _ _ _ _ _) #[false,false,false,false,false,false,false,false,false,false,false] 11 mixed rfl rfl
     ·intro w ab U
      refine aR 0 rfl ab (U.ak ae (ae.n.n.n.n.n.n.n.n.n.n)) (bE rfl) fun a ab=>aR 1 rfl ab (U.ak ae (ae.n.n.n.n.n.n.n.n.n.n)) (bE rfl) fun a ab=>aR 2 rfl ab (U.ak ae (ae.n.n.n.n.n.n.n.n.n.n)) (bI rfl) fun a ab=>aR 3 rfl ab (U.ak ae (ae.n.n.n.n.n.n.n.n.n.n)) (aV km rfl rfl (s':=0) aA) fun a ab=>aR 4 rfl ab (U.ak ae (ae.n.k.n.n.n.n.n.n.n.n)) (bc dv 0 rfl rfl rfl rfl) fun a ab=>?_
      refine aR 5 rfl ab (U.ak ae (ae.n.n.k.n.n.n.n.n.n.n)) (fW b2 0 rfl rfl aI rfl) fun a ab=>bW 6 rfl rfl ab U rfl (qt dv b2 rfl aI (by decide) bJ (by decide) (by decide)) ?_
      rintro Rb _ _ a w ⟨rfl,rfl⟩ ab U
      replace U:=ud U
      refine ⟨⟨al,.inr (U.ak ae (ae.n.k.n.n.n.n.n.n.n.n.n)),.inr (U.ak ae (ae.n.n.n.n.n.n.n.n.n.n.n)),.inr (U.ak ae (ae.n.n.n.n.n.n.n.n.n.n.n)),.inr (U.ak ae (ae.n.n.n.n.n.n.n.n.n.n.n)),.inr (U.ak ae (ae.n.n.n.n.n.n.n.n.n.n.n)),trivial⟩,?_⟩
      refine bW 7 rfl rfl ab U rfl (dB dv b2 10 rfl rfl rfl (eA dv (k:=0) rfl bJ) aI rfl (by decide)) ?_
      rintro Rc _ _ a w ⟨rfl,rfl⟩ ab U
      replace U:=ud U
      refine ⟨⟨al,al,al,.inr (U.ak ae (ae.n.n.n.n.n.n.n.n.n.n.n)),.inr (U.ak ae (ae.n.n.n.n.n.n.n.n.n.n.n)),.inr (U.ak ae (ae.n.n.n.n.n.n.n.n.n.n.n)),trivial⟩,?_⟩
      refine aR 8 rfl ab (U.ak ae (ae.n.n.n.n.n.n.n.n.n.n.n)) (bI rfl) fun a ab=>aR 9 rfl ab (U.ak ae (ae.n.n.n.n.n.n.n.n.n.n.n)) (aV km rfl rfl (s':=0) aA) fun a ab=>bW 10 rfl rfl ab U rfl (c7 dv 9 rfl rfl rfl (row_one (U.own _ (List.mem_of_getElem? (i:=10) rfl)).1) (by simp)) ?_
      rintro _ _ _ a w ⟨rfl,rfl,rfl⟩ ab U
      replace U:aC _ (_) (_::_::_::_::_::_::_::_::_::.blk _ _ ([_,_,_,_].set 2 _)::_::_) _:=U
      simp only [List.set_cons_zero,List.set_cons_succ] at U
      replace U:=ud U
      refine ⟨⟨al,al,al,al,al,al,al,al,trivial⟩,?_⟩
      exact ei aA (kY Rb Rc (trivial) (ab.sub (L':=[]) trivial) U)
     rintro a w ⟨Rb,Rc, -,ab,U⟩
     (try dsimp only at ab U)
     refine hh _ _<|aB ab U (ar rfl<|ah) fun a w ab U=>wp_ret ?_
     rw [aw.En,aw.GJ M.F f] at U
     replace U:=(((((((U.perm Sm).perm Sp).perm j1).perm kr).perm oI).perm py).perm qh).perm qi
     exact cQ (rs:=[.tmp 4]) rfl ab U (vs:=[_]) ⟨rfl,trivial⟩ [] [_,_,_,_,_,_,_,_] ae (ae.n.n.n.k.k.k.k.k.k.k.k) (aw.yG (L:=⟨(aj.app M.J M.S (aw.enc f)).1,(aj.app M.J M.S (aw.enc f)).2.1,M.F++[f]⟩) ⟨rfl,rfl,_,_,_,_,_,rfl,A5⟩ (by rw [aw.sX (by omega) bs (by omega) (by omega)]) (by rw [aw.sX (by omega) bs (by omega) (by omega)]))
end
end Go.Proofs.YtngcjojijaknnaaGreatDoor
