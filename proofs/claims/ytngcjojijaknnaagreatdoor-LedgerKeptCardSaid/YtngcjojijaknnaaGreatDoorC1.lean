/- walks and plain laws -/
import Derived.Test.YtngcjojijaknnaaGreatDoorFwA
import Derived.Test.YtngcjojijaknnaaGreatDoorFwB
import Derived.Test.YtngcjojijaknnaaGreatDoorFwD
import Derived.Test.YtngcjojijaknnaaGreatDoorDkA
import Derived.Test.YtngcjojijaknnaaGreatDoorGuA
import Derived.Test.YtngcjojijaknnaaGreatDoorShW
import Derived.Test.YtngcjojijaknnaaGreatDoorLlay
import Derived.Test.YtngcjojijaknnaaGreatDoorChecked
import Derived.Shelf.SortM.Plain
import Derived.Shelf.SortM.SortNone
set_option linter.all false
namespace Go.Proofs.YtngcjojijaknnaaGreatDoor
open Go.aK
set_option maxRecDepth 4000
set_option maxHeartbeats 2000000
section
theorem mixed:Tryz.prog.follows .mixedOrders=true:=by kernel_rfl
theorem bH:ba Tryz.prog 3 (.int .i64) 1 8 (Value.int .i64 0):=⟨Tryz.underlying3,by kernel_rfl⟩
theorem bI:ba Tryz.prog 5 (.int .u8) 1 1 (Value.int .u8 0):=⟨Tryz.underlying5,by kernel_rfl⟩
theorem bX:ba Tryz.prog 25 (.slice 5) 1 24 (Value.slice none 0 0):=⟨Tryz.underlying25,by kernel_rfl⟩
theorem JQ:ba Tryz.prog 113 (.int .u64) 1 8 (Value.int .u64 0):=⟨Tryz.underlying113,by kernel_rfl⟩
theorem cj:ba Tryz.prog 220 (.int .u32) 1 4 (Value.int .u32 0):=⟨Tryz.underlying220,by kernel_rfl⟩
theorem hj:ba Tryz.prog 221 (.array 8 220) 8 32 (.agg (List.replicate 8 (Value.int .u32 0)).toArray):=⟨Tryz.underlying221,by kernel_rfl⟩
theorem hk:ba Tryz.prog 239 (.array 64 220) 64 256 (.agg (List.replicate 64 (Value.int .u32 0)).toArray):=⟨Tryz.underlying239,by kernel_rfl⟩
theorem gP:ba Tryz.prog 263 (.array 4 220) 4 16 (.agg ([Value.int .u32 0,Value.int .u32 0,Value.int .u32 0,Value.int .u32 0]).toArray):=⟨Tryz.underlying263,by kernel_rfl⟩
theorem XR:b1 Tryz.prog 186:=b6 Tryz.func186
theorem MM:b1 Tryz.prog 187:=b6 Tryz.func187
theorem uI:b1 Tryz.prog 203:=b6 Tryz.func203
theorem vE(x:UInt32)(k:Int)(w:World):cC Tryz.prog 203 [cI x,aA k] w (fun v _ _=>v=cI (aL.rotl x k)):=by
 refine c4 Tryz.func203 rfl Tryz.ntmps203 b4 fun a ab U=>?_
 have aE:=(dA k &&& 31)
 refine aD ab U (av rfl<|ah) fun a w ab U=>aD ab U (ai rfl<|ae (An bH JQ rfl)<|ae (afo (q:=31) rfl rfl)<|av rfl<|ah) fun a w ab U=>aD ab U (ai rfl<|ai rfl<|ae (xz rfl rfl ag)<|ai rfl<|ai rfl<|ae (agd (p:=32) rfl rfl)<|ae (tD rfl rfl ag)<|ae (xy rfl rfl)<|av rfl<|ah) fun a w ab U=>wp_ret ?_
 exact b0 (rs:=[.tmp 4]) rfl ab U (vs:=[_]) ⟨rfl,trivial⟩ ay ay (rfl)
theorem PB(x:UInt32)(i j k:Int)(aH:0<i∧i<32)(aV:0<j∧j<32)(aE:0<k∧k<32)(w:World):cC Tryz.prog 187 [cI x,aA i,aA j,aA k] w (fun v _ _=>v=cI (aL.jy x (UInt32.ofNat i.toNat) ^^^ aL.jy x (UInt32.ofNat j.toNat) ^^^ aL.jy x (UInt32.ofNat k.toNat))):=by
 refine c4 Tryz.func187 rfl Tryz.ntmps187 b4 fun a ab U=>aD ab U (av rfl<|ah) fun a w ab U=>aD ab U (ai rfl<|ai rfl<|ae (DL rfl ag)<|ae (bV uI rfl (fun w U=>vE _ _ w ) bP)<|ai rfl<|ai rfl<|ae (DL rfl ag)<|ae (bV uI rfl (fun w U=>vE _ _ w ) bP)<|ae (ku rfl rfl)<|ai rfl<|ai rfl<|ae (DL rfl ag)<|ae (bV uI rfl (fun w U=>vE _ _ w ) bP)<|ae (ku rfl rfl)<|av rfl<|ah) fun a w ab U=>wp_ret ?_
 exact b0 (rs:=[.tmp 8]) rfl ab U (vs:=[_]) ⟨rfl,trivial⟩ ay ay (by rw [aL.adT x i j k aH aV aE])
theorem ahF(v:Value)(bb:List UInt8)(hl:bb.length=64)(w:World)(aw:bo hc (cf w) v bb):cC Tryz.prog 186 [v] w (fun r _ _=>r=.agg ((aL.h3 bb 64).map cI).toArray):=by
 refine c4 Tryz.func186 rfl Tryz.ntmps186 b4 fun a ab U=>?_
 have aw:=aw
 refine bc fun eJ c8=>aJ ab U rfl (dg hk) ?_
 rintro _ _ _ a w ⟨ck,rfl,rfl,rfl⟩ ab U
 rw [show List.replicate 64 (Value.int .u32 0)=(List.replicate 64 (0:UInt32)).map cI from by rw [List.map_replicate] <;> rfl] at U
 refine wpList_nil (c8 _ _ ?_)
 refine bc fun cG bJ=>aJ ab U rfl (dg hk) ?_
 rintro _ _ _ a w ⟨dD,rfl,rfl,rfl⟩ ab U
 rw [show List.replicate 64 (Value.int .u32 0)=(List.replicate 64 (0:UInt32)).map cI from by rw [List.map_replicate] <;> rfl] at U
 refine wpList_nil (bJ _ _ ?_)
 refine ax fun dX cq=>aD ab U (ai rfl<|ah) fun a w ab U=>wp_block ?_
 obtain ⟨bG,a6,U⟩:=U.c1
 refine dy (γ:=Int) (0) (fun (t:Int)=>[(11,aA t)]) [(0,_),(2,_),(3,_)] (fun (t:Int)=>(bG.set 0 (.blk dD 239 ((aL.gz bb t.toNat).map cI)))) (fun (t:Int)=>0≤t∧t≤64) (fun (t:Int)=>(64-t).toNat) (ab.sub ⟨rfl,rfl,rfl,rfl,trivial⟩) (by subst a6;exact U) (by simp) ?_
 rintro t a w bh ab U
 subst a6;(try dsimp only at bh ab U)
 obtain ⟨CW,HQ⟩:=bh
 replace U:=e7 U
 have zQ:=aL.Jy bb t.toNat ag
 refine aD ab U (ae (cU rfl rfl)<|ah) fun a w ab U=>ax fun eN cK=>cn ab rfl (fun aU=>?_) (fun aU=>?_)
 ·refine wp_skip<|cK _ _<|ax fun fa cT=>wp_block ?_
  refine aD ab U (ai rfl<|av rfl<|ah) fun a w ab U=>ax fun gB du=>aD ab U (ai rfl<|ae (cU rfl rfl)<|ah) fun a w ab U=>cn ab rfl (fun bz=>?_) (fun bz=>?_)
  ·refine ax fun ho dK=>ax fun iZ eY=>bx ab U (ai rfl<|ai rfl<|ae (hK rfl rfl ag)<|ai rfl<|ae (hK rfl rfl ag)<|b5 rfl rfl<|ae (As bX bI aw rfl rfl rfl ag)<|ae (ee bX (bo.cut aw ag) rfl)<|ai rfl<|ah) fun a w ab U=>?_
   have hlen:(((bb.take (4*t+4).toNat).drop (4*t).toNat).length:Int)=4:=by simp;omega
   refine eY _ _<|wp_block ?_
   obtain ⟨bG,a6,U⟩:=U.c1
   refine dy (γ:=Int) (0) (fun (j:Int)=>[(24,aA j)]) [(0,_),(2,_),(3,_),(4,_),(11,_),(22,_),(23,_)] (fun (j:Int)=>(bG.set 0 (.blk dD 239 ((aL.mg bb t.toNat j.toNat).map cI)))) (fun (j:Int)=>0≤j∧j≤4) (fun (j:Int)=>(4-j).toNat) (ab.sub ⟨rfl,rfl,rfl,rfl,rfl,rfl,rfl,rfl,trivial⟩) (by subst a6;rw [aL.Jx bb t.toNat ag] at U;exact U) (by simp) ?_
   rintro j a w bh ab U
   subst a6;(try dsimp only at bh ab U)
   obtain ⟨sX,qv⟩:=bh
   replace U:=e7 U
   have h8:=aL.ahB bb t.toNat j.toNat ag
   refine aD ab U (ae (cU rfl rfl)<|ah) fun a w ab U=>ax fun kY gF=>cn ab rfl (fun cl=>?_) (fun cl=>?_)
   ·refine wp_skip<|gF _ _<|ax fun j5 fC=>wp_block ?_
    refine aD ab U (ae (dV bX bI (bo.cut aw ag) rfl rfl ag)<|ae (nh bI (bo.cut aw ag) cM rfl rfl ag)<|av rfl<|ah) fun a w ab U=>dM ?_
    refine aG ab U (ai rfl<|ai rfl<|ae (hR hk cj rfl rfl ag)<|ae (kg cj 0 0 rfl rfl aI rfl)<|ae (xz rfl rfl ag)<|ai rfl<|ae (Am bI cj rfl)<|ae (xy rfl rfl)<|ae (hR hk cj rfl rfl ag)<|ah) fun a w ab U=>aJ ab U rfl (rq cj 0 rfl rfl rfl aI rfl) ?_
    rintro _ _ _ a w ⟨rfl,rfl,rfl⟩ ab U
    replace U:=e7 U
    refine wpList_nil (fC _ _ ?_)
    refine bx ab U (b5 rfl rfl<|ai rfl<|ah) fun a w ab U=>?_
    rw [aL.UI bb t j ag ag ag ag hl] at U
    refine ⟨(j+1),?_,?_,ab.sub ⟨rfl,rfl,rfl,rfl,rfl,rfl,rfl,rfl,trivial⟩,?_⟩
    ·(try dsimp only);omega
    ·(try dsimp only);omega
    ·exact U
   ·refine wp_exit<|dK _ _<|wp_exit ?_
    refine cT _ _<|bx ab U (b5 rfl rfl<|ai rfl<|ah) fun a w ab U=>?_
    have aV:j=4:=by omega
    subst aV
    rw [show (4:Int).toNat=4 from rfl,aL.Sj bb t.toNat ag,show t.toNat+1=(t+1).toNat by omega] at U
    refine ⟨(t+1),?_,?_,ab.sub ⟨rfl,rfl,rfl,rfl,trivial⟩,?_⟩
    ·(try dsimp only);omega
    ·(try dsimp only);omega
    ·exact U
  ·refine wp_skip<|du _ _<|iE mixed az ab U (ai rfl<|fy rfl rfl<|ae (hR hk cj rfl rfl ag)<|ae (kg cj 0 0 rfl rfl aI rfl)<|ai rfl<|fy rfl rfl<|ae (hR hk cj rfl rfl ag)<|ae (kg cj 0 0 rfl rfl aI rfl)<|av rfl<|av rfl<|ah) fun a w ab U=>aD ab U (ai rfl<|ae (bV uI rfl (fun w U=>vE _ _ w ) bP)<|ai rfl<|ae (bV uI rfl (fun w U=>vE _ _ w ) bP)<|ae (ku rfl rfl)<|ai rfl<|ae (tD rfl rfl ag)<|ae (ku rfl rfl)<|av rfl<|ah) fun a w ab U=>aD ab U (ai rfl<|ae (bV uI rfl (fun w U=>vE _ _ w ) bP)<|ai rfl<|ae (bV uI rfl (fun w U=>vE _ _ w ) bP)<|ae (ku rfl rfl)<|ai rfl<|ae (tD rfl rfl ag)<|ae (ku rfl rfl)<|av rfl<|ah) fun a w ab U=>?_
   refine h2 15 mixed az ab U (ai rfl<|ai rfl<|fy rfl rfl<|ae (hR hk cj rfl rfl ag)<|ae (kg cj 0 0 rfl rfl aI rfl)<|ai rfl<|ae (ij rfl rfl)<|ai rfl<|fy rfl rfl<|ae (hR hk cj rfl rfl ag)<|ae (kg cj 0 0 rfl rfl aI rfl)<|ae (ij rfl rfl)<|ai rfl<|ae (ij rfl rfl)<|ae (hR hk cj rfl rfl ag)<|ah) fun a w ab U=>aJ ab U rfl (rq cj 0 rfl rfl rfl aI rfl) ?_
   rintro _ _ _ a w ⟨rfl,rfl,rfl⟩ ab U
   replace U:=e7 U
   refine wpList_nil (cT _ _ ?_)
   refine bx ab U (b5 rfl rfl<|ai rfl<|ah) fun a w ab U=>?_
   rw [aL.Sl bb t ag ag] at U
   refine ⟨(t+1),?_,?_,ab.sub ⟨rfl,rfl,rfl,rfl,trivial⟩,?_⟩
   ·(try dsimp only);omega
   ·(try dsimp only);omega
   ·exact U
 ·obtain rfl:t=64:=by omega
  rw [show (64:Int).toNat=64 from rfl] at zQ
  rw [show (64:Int).toNat=64 from rfl,aL.Sk] at U
  have jh:=aL.mM bb 64
  refine wp_exit<|cq _ _<|bc fun qb kb=>aG ab U (ae (gh hk 0 rfl rfl aI rfl)<|ah) fun a w ab U=>aJ ab U rfl (cJ hk 1 rfl rfl rfl rfl aI bM aI) ?_
  rintro _ _ _ a w ⟨rfl,rfl,rfl⟩ ab U
  replace U:=e7 U
  refine wpList_nil (kb _ _ ?_)
  refine wp_ret<|b0 (rs:=[.cell 2 239]) rfl ab U (vs:=[_]) ⟨⟨_,_,_,_,_,_,_,rfl,List.mem_of_getElem? (i:=1) rfl,hk,.inl ⟨rfl,aI,rfl⟩⟩,trivial⟩ ay ay (rfl)
theorem V1(v:Value)(ss:List UInt32)(bb:List UInt8)(abH:ss.length=8)(hl:bb.length=64)(w:World)(aw:bo hc (cf w) v bb){gE:Nat×Nat}{gC:TypeId}(fW:w.heap[1]?=some (.cells (aL.eH.map cI).toArray gC gE)):cC Tryz.prog 167 [.agg (ss.map cI).toArray,v] w (fun r _ _=>r=.agg ((aL.comp ss bb).map cI).toArray):=by
 refine c4 Tryz.func167 rfl Tryz.ntmps167 b4 fun a ab U=>?_
 obtain ⟨a0,fT,a2,a3,a4,a5,j7,j8,rfl⟩:=aL.Ph abH
 have jh:=aL.mM bb 64
 have oW:aL.eH.length=64:=rfl
 refine bc fun eJ c8=>aJ ab U rfl (jV rfl) ?_
 rintro _ _ _ a w ⟨ck,rfl,rfl,rfl⟩ ab U
 refine aJ ab U rfl (dg hj) ?_
 rintro _ _ _ a w ⟨dD,rfl,rfl,rfl⟩ ab U
 refine wpList_nil (c8 _ _ ?_)
 refine bc fun cG bJ=>aG ab U (ai rfl<|ae (bV XR rfl (fun w U=>ahF _ _ hl w (bo.mono (U.le cM) aw)) bP)<|ah) fun a w ab U=>aJ ab U rfl (dg hk) ?_
 rintro _ _ _ a w ⟨k1,rfl,rfl,rfl⟩ ab U
 rw [show List.replicate 64 (Value.int .u32 0)=(List.replicate 64 (0:UInt32)).map cI from by rw [List.map_replicate] <;> rfl] at U
 refine aJ ab U rfl (cJ hk 0 rfl rfl rfl rfl aI bM aI) ?_
 rintro _ _ _ a w ⟨rfl,rfl,rfl⟩ ab U
 replace U:=eU U
 refine wpList_nil (bJ _ _ ?_)
 refine ax fun dX cq=>?_
 revert U;revert ab;apply hL (J:=kj (α0:=Nat) (α1:=Nat) 116 _ _ _ _ _) #[false,false,false,false,false,false,false,false,false,false] 10 mixed rfl rfl
 ·intro w ab U
  refine aS 0 rfl ab (U.ao al (fO)) (r0 hj cj rfl rfl ag) fun a ab=>aS 1 rfl ab (U.ao al ay) (IY gP rfl ag) fun a ab=>aS 2 rfl ab (U.ao al (fO)) (Ap gP 0 rfl rfl rfl (by simp) rfl) fun a ab=>aS 3 rfl ab (U.ao al (fO)) (DO hj cj rfl rfl ag) fun a ab=>aS 4 rfl ab (U.ao al ay) (IY gP rfl ag) fun a ab=>?_
  refine aS 5 rfl ab (U.ao al (fO)) (Ap gP 0 rfl rfl rfl (by simp) rfl) fun a ab=>fB [6,7] az rfl ⟨?_,?_,trivial⟩
  ·refine dW _ rfl rfl ab U rfl (dg gP) ?_
   rintro _ _ _ a w ⟨wh,rfl,rfl,rfl⟩ ab U
   refine ⟨⟨.inr (U.ew (eS)),.inr U.ax,.inr (U.ew (eS)),.inr (U.ew (eS)),.inr U.ax,.inr (U.ew (eS)),trivial⟩,?_⟩
   refine bY 7 rfl rfl ab U rfl (dg gP) ?_
   rintro _ _ _ a w ⟨wi,rfl,rfl,rfl⟩ ab U
   refine ⟨⟨.inr (U.ew (e8)),.inr U.ax,.inr (U.ew (e8)),.inr (U.ew (e8)),.inr U.ax,.inr (U.ew (e8)),trivial⟩,?_⟩
   refine bY 8 rfl rfl ab U rfl (cJ gP 1 rfl rfl rfl rfl aI bM aI) ?_
   rintro _ _ _ a w ⟨rfl,rfl,rfl⟩ ab U
   refine ⟨⟨.inr (U.ew (e8)),.inr U.ax,.inr (U.ew (e8)),aq,aq,aq,trivial⟩,?_⟩
   refine bY 9 rfl rfl ab U rfl (cJ gP 0 rfl rfl rfl rfl aI bM aI) ?_
   rintro _ _ _ a w ⟨rfl,rfl,rfl⟩ ab U
   refine ⟨⟨aq,aq,aq,aq,aq,aq,trivial⟩,?_⟩
   exact ev az (lI wh wi (trivial) (ab.sub (L':=[(2,_),(4,_),(5,_),(6,_),(7,_)]) ⟨rfl,rfl,rfl,rfl,rfl,trivial⟩) U)
  ·refine dW _ rfl rfl ab U rfl (dg gP) ?_
   rintro _ _ _ a w ⟨wi,rfl,rfl,rfl⟩ ab U
   refine ⟨⟨.inr (U.ew (eS)),.inr U.ax,.inr (U.ew (eS)),.inr (U.ew (eS)),.inr U.ax,.inr (U.ew (eS)),trivial⟩,?_⟩
   refine bY 6 rfl rfl ab U rfl (dg gP) ?_
   rintro _ _ _ a w ⟨wh,rfl,rfl,rfl⟩ ab U
   refine ⟨⟨.inr (U.ew (e8)),.inr U.ax,.inr (U.ew (e8)),.inr (U.ew (e8)),.inr U.ax,.inr (U.ew (e8)),trivial⟩,?_⟩
   refine bY 8 rfl rfl ab U rfl (cJ gP 0 rfl rfl rfl rfl aI bM aI) ?_
   rintro _ _ _ a w ⟨rfl,rfl,rfl⟩ ab U
   refine ⟨⟨.inr (U.ew (e8)),.inr U.ax,.inr (U.ew (e8)),aq,aq,aq,trivial⟩,?_⟩
   refine bY 9 rfl rfl ab U rfl (cJ gP 1 rfl rfl rfl rfl aI bM aI) ?_
   rintro _ _ _ a w ⟨rfl,rfl,rfl⟩ ab U
   refine ⟨⟨aq,aq,aq,aq,aq,aq,trivial⟩,?_⟩
   exact ev az (lI wh wi (trivial) (ab.sub (L':=[(2,_),(4,_),(5,_),(6,_),(7,_)]) ⟨rfl,rfl,rfl,rfl,rfl,trivial⟩) (U.perm (.swap _ _ _)))
 rintro a w ⟨wh,wi, -,ab,U⟩
 (try dsimp only at ab U)
 refine cq _ _<|ax fun et cB=>aD ab U (ae (afJ hk rfl fW aI rfl)<|ai rfl<|ah) fun a w ab U=>wp_block ?_
 obtain ⟨bG,a6,U⟩:=U.c1
 refine dy (γ:=Int) (0) (fun (i:Int)=>[(22,aA i)]) [(2,_),(4,_),(5,_),(6,_),(7,_),(21,_)] (fun (i:Int)=>((bG.set 1 (.blk wh 263 [cI (aL.rounds (aL.h3 bb 64) (a0,fT,a2,a3,a4,a5,j7,j8) i.toNat).1,cI (aL.rounds (aL.h3 bb 64) (a0,fT,a2,a3,a4,a5,j7,j8) i.toNat).2.1,cI (aL.rounds (aL.h3 bb 64) (a0,fT,a2,a3,a4,a5,j7,j8) i.toNat).2.2.1,cI (aL.rounds (aL.h3 bb 64) (a0,fT,a2,a3,a4,a5,j7,j8) i.toNat).2.2.2.1])).set 0 (.blk wi 263 [cI (aL.rounds (aL.h3 bb 64) (a0,fT,a2,a3,a4,a5,j7,j8) i.toNat).2.2.2.2.1,cI (aL.rounds (aL.h3 bb 64) (a0,fT,a2,a3,a4,a5,j7,j8) i.toNat).2.2.2.2.2.1,cI (aL.rounds (aL.h3 bb 64) (a0,fT,a2,a3,a4,a5,j7,j8) i.toNat).2.2.2.2.2.2.1,cI (aL.rounds (aL.h3 bb 64) (a0,fT,a2,a3,a4,a5,j7,j8) i.toNat).2.2.2.2.2.2.2]))) (fun (i:Int)=>0≤i∧i≤64) (fun (i:Int)=>(64-i).toNat) (ab.sub ⟨rfl,rfl,rfl,rfl,rfl,rfl,rfl,trivial⟩) (by subst a6;exact U) (by simp) ?_
 rintro i a w bh ab U
 subst a6;(try dsimp only at bh ab U)
 obtain ⟨eL,kI⟩:=bh
 replace U:=na U
 refine aD ab U (ae (cU rfl rfl)<|ah) fun a w ab U=>ax fun fa cT=>cn ab rfl (fun aU=>?_) (fun aU=>?_)
 ·refine wp_skip<|cT _ _<|ax fun fk cP=>wp_block ?_
  refine aD ab U (ai rfl<|ae (afB hk cj (0:UInt32) rfl rfl ag aI rfl)<|av rfl<|av rfl<|ah) fun a w ab U=>iE mixed az ab U (ae (gG gP cj rfl rfl ag)<|ae (bf cj 0 rfl rfl rfl rfl)<|ae (gG gP cj rfl rfl ag)<|ae (bf cj 0 rfl rfl rfl rfl)<|ae (bV MM rfl (fun w U=>PB _ _ _ _ ag ag ag w ) bP)<|ae (ij rfl rfl)<|ae (gG gP cj rfl rfl ag)<|ae (bf cj 0 rfl rfl rfl rfl)<|ae (gG gP cj rfl rfl ag)<|ae (bf cj 0 rfl rfl rfl rfl)<|ae (qO rfl rfl)<|ae (gG gP cj rfl rfl ag)<|ae (bf cj 0 rfl rfl rfl rfl)<|ae (af0 rfl)<|ae (gG gP cj rfl rfl ag)<|ae (bf cj 0 rfl rfl rfl rfl)<|ae (qO rfl rfl)<|ae (ku rfl rfl)<|ae (ij rfl rfl)<|ai rfl<|ae (ij rfl rfl)<|ai rfl<|ae (hR hk cj rfl rfl ag)<|ae (kg cj 2 0 rfl rfl aI rfl)<|ae (ij rfl rfl)<|av rfl<|ah) fun a w ab U=>iE mixed az ab U (ae (gG gP cj rfl rfl ag)<|ae (bf cj 1 rfl rfl rfl rfl)<|ae (bV MM rfl (fun w U=>PB _ _ _ _ ag ag ag w ) bP)<|ae (gG gP cj rfl rfl ag)<|ae (bf cj 1 rfl rfl rfl rfl)<|ae (gG gP cj rfl rfl ag)<|ae (bf cj 1 rfl rfl rfl rfl)<|ae (qO rfl rfl)<|ae (gG gP cj rfl rfl ag)<|ae (bf cj 1 rfl rfl rfl rfl)<|ae (gG gP cj rfl rfl ag)<|ae (bf cj 1 rfl rfl rfl rfl)<|ae (qO rfl rfl)<|ae (ku rfl rfl)<|ae (gG gP cj rfl rfl ag)<|ae (bf cj 1 rfl rfl rfl rfl)<|ae (gG gP cj rfl rfl ag)<|ae (bf cj 1 rfl rfl rfl rfl)<|ae (qO rfl rfl)<|ae (ku rfl rfl)<|ae (ij rfl rfl)<|av rfl<|ah) fun a w ab U=>bc fun iZ eY=>aG ab U (ae (gG gP cj rfl rfl ag)<|ae (bf cj 1 rfl rfl rfl rfl)<|ai rfl<|ae (ij rfl rfl)<|ae (gG gP cj rfl rfl ag)<|ae (bf cj 0 rfl rfl rfl rfl)<|ae (gG gP cj rfl rfl ag)<|ae (bf cj 0 rfl rfl rfl rfl)<|ae (gG gP cj rfl rfl ag)<|ae (bf cj 0 rfl rfl rfl rfl)<|ae (Aj gP cj rfl rfl bM rfl rfl)<|ah) fun a w ab U=>?_
  refine aJ ab U rfl (cJ gP 0 rfl rfl rfl rfl aI bM aI) ?_
  rintro _ _ _ a w ⟨rfl,rfl,rfl⟩ ab U
  replace U:=na U
  refine wpList_nil (eY _ _ ?_)
  refine dM<|aG ab U (ai rfl<|ai rfl<|ae (ij rfl rfl)<|ae (gG gP cj rfl rfl ag)<|ae (bf cj 1 rfl rfl rfl rfl)<|ae (gG gP cj rfl rfl ag)<|ae (bf cj 1 rfl rfl rfl rfl)<|ae (gG gP cj rfl rfl ag)<|ae (bf cj 1 rfl rfl rfl rfl)<|ae (Aj gP cj rfl rfl bM rfl rfl)<|ah) fun a w ab U=>aJ ab U rfl (cJ gP 1 rfl rfl rfl rfl aI bM aI) ?_
  rintro _ _ _ a w ⟨rfl,rfl,rfl⟩ ab U
  replace U:=na U
  refine wpList_nil (cP _ _ ?_)
  refine bx ab U (b5 rfl rfl<|ai rfl<|ah) fun a w ab U=>⟨(i+1),?_,?_,ab.sub ⟨rfl,rfl,rfl,rfl,rfl,rfl,rfl,trivial⟩,?_⟩
  ·(try dsimp only);omega
  ·(try dsimp only);omega
  ·rw [aL.rounds_succ _ _ i eL]
   exact U
 ·obtain rfl:i=64:=by omega
  rw [show (64:Int).toNat=64 from rfl] at U
  generalize fD:aL.rounds (aL.h3 bb 64) (a0,fT,a2,a3,a4,a5,j7,j8) 64=R at U
  obtain ⟨il,cm,cR,eW,e2,xD,Az,AA⟩:=R
  dsimp only at U
  refine wp_exit<|cB _ _<|ax fun iR eO=>aD ab U (ai rfl<|ah) fun a w ab U=>wp_block ?_
  obtain ⟨bG,a6,U⟩:=U.c1
  refine dy (γ:=Int) (0) (fun (i:Int)=>[(94,aA i)]) [(2,_),(4,_),(6,_),(7,_)] (fun (i:Int)=>(((bG.set 4 (.blk ck 221 ((aL.Ek [a0,fT,a2,a3,a4,a5,j7,j8] [il,cm,cR,eW,e2,xD,Az,AA] i.toNat).map cI))).set 1 (.blk wh 263 ([il,cm,cR,eW].map cI))).set 0 (.blk wi 263 ([e2,xD,Az,AA].map cI)))) (fun (i:Int)=>0≤i∧i≤4) (fun (i:Int)=>(4-i).toNat) (ab.sub ⟨rfl,rfl,rfl,rfl,rfl,trivial⟩) (by subst a6;exact U) (by simp) ?_
  rintro i a w bh ab U
  subst a6;(try dsimp only at bh ab U)
  obtain ⟨eL,kI⟩:=bh
  replace U:=na U
  have abU:=aL.Ta [a0,fT,a2,a3,a4,a5,j7,j8] [il,cm,cR,eW,e2,xD,Az,AA] i.toNat
  refine aD ab U (ae (cU rfl rfl)<|ah) fun a w ab U=>ax fun mw hz=>cn ab rfl (fun bz=>?_) (fun bz=>?_)
  ·refine wp_skip<|hz _ _<|ax fun oF jg=>wp_block ?_
   refine aD ab U (ai rfl<|av rfl<|ah) fun a w ab U=>ax fun qa ko=>h2 8 mixed az ab U (ai rfl<|ae (hR hj cj rfl rfl ag)<|ae (kg cj 4 0 rfl rfl aI rfl)<|ai rfl<|ae (hR gP cj rfl rfl ag)<|ae (kg cj 1 0 rfl rfl aI rfl)<|ae (ij rfl rfl)<|ae (hR hj cj rfl rfl ag)<|ah) fun a w ab U=>aJ ab U rfl (rq cj 4 rfl rfl rfl aI rfl) ?_
   rintro _ _ _ a w ⟨rfl,rfl,rfl⟩ ab U
   replace U:=na U
   refine wpList_nil (ko _ _ ?_)
   refine h2 9 mixed az ab U (ai rfl<|b5 rfl rfl<|ae (hR hj cj rfl rfl ag)<|ae (kg cj 4 0 rfl rfl aI rfl)<|ai rfl<|ae (hR gP cj rfl rfl ag)<|ae (kg cj 0 0 rfl rfl aI rfl)<|ae (ij rfl rfl)<|ae (hR hj cj rfl rfl ag)<|ah) fun a w ab U=>aJ ab U rfl (rq cj 4 rfl rfl rfl aI rfl) ?_
   rintro _ _ _ a w ⟨rfl,rfl,rfl⟩ ab U
   replace U:=na U
   refine wpList_nil (jg _ _ ?_)
   refine bx ab U (b5 rfl rfl<|ai rfl<|ah) fun a w ab U=>⟨(i+1),?_,?_,ab.sub ⟨rfl,rfl,rfl,rfl,rfl,trivial⟩,?_⟩
   ·(try dsimp only);omega
   ·(try dsimp only);omega
   ·have bF:i=0∨i=1∨i=2∨i=3:=by omega
    rcases bF with rfl | rfl | rfl | rfl <;> exact U
  ·obtain rfl:i=4:=by omega
   have anH:=aL.Ta [a0,fT,a2,a3,a4,a5,j7,j8] [il,cm,cR,eW,e2,xD,Az,AA] 4
   have aai:aL.comp [a0,fT,a2,a3,a4,a5,j7,j8] bb=aL.Ek [a0,fT,a2,a3,a4,a5,j7,j8] [il,cm,cR,eW,e2,xD,Az,AA] 4:=by
    show List.zipWith (· + ·) [a0,fT,a2,a3,a4,a5,j7,j8] (aL.Db (aL.rounds (aL.h3 bb 64) (a0,fT,a2,a3,a4,a5,j7,j8) 64))=_
    rw [fD]
    rfl
   refine wp_exit<|eO _ _<|bc fun qb kb=>aG ab U (ae (gh hj 4 rfl rfl aI rfl)<|ah) fun a w ab U=>aJ ab U rfl (cJ hj 3 rfl rfl rfl rfl aI bM aI) ?_
   rintro _ _ _ a w ⟨rfl,rfl,rfl⟩ ab U
   replace U:=na U
   refine wpList_nil (kb _ _ ?_)
   refine wp_ret<|b0 (rs:=[.cell 4 221]) rfl ab U (vs:=[_]) ⟨⟨_,_,_,_,_,_,_,rfl,List.mem_of_getElem? (i:=3) rfl,hj,.inl ⟨rfl,aI,rfl⟩⟩,trivial⟩ ay ay (by rw [aai];rfl)
end
section
theorem bB:ba Tryz.prog 9 .string 1 16 (Value.string ⟨(List.nil:List UInt8).toArray⟩):=⟨Tryz.underlying9,by kernel_rfl⟩
theorem SS:ba Tryz.prog 125 (.array 64 5) 64 64 (.agg (List.replicate 64 (Value.int .u8 0)).toArray):=⟨Tryz.underlying125,by kernel_rfl⟩
theorem np:ba Tryz.prog 179 (.int .u64) 1 8 (Value.int .u64 0):=⟨Tryz.underlying179,by kernel_rfl⟩
theorem gO : ba Tryz.prog 223 (.struct #[⟨ "state", 221, 0, false, "", "culprit/hash", 0⟩, ⟨ "block", 125, 8, false, "", "culprit/hash", 32⟩, ⟨ "n", 179, 72, false, "", "culprit/hash", 96⟩]) 73 104 (.agg (List.replicate 8 (Value.int .u32 0) ++ List.replicate 64 (Value.int .u8 0) ++ [Value.int .u64 0]).toArray) := ⟨Tryz.underlying223, by kernel_rfl⟩
theorem XM:b1 Tryz.prog 167:=b6 Tryz.func167
/-- A stream's cells. -/
@[reducible] def r2 (s:aL.kF):List Value:=s.st.map cI++(s.bl.map bn++[gX s.n])
theorem wj(w:World):cC Tryz.prog 142 [] w (fun r _ _=>r=.agg (r2 aL.jS).toArray):=by
 refine c4 Tryz.func142 rfl Tryz.ntmps142 b4 fun a ab U=>bc fun eJ c8=>aJ ab U rfl (dg gO) ?_
 rintro _ _ _ a w ⟨ck,rfl,rfl,rfl⟩ ab U
 refine wpList_nil (c8 _ _ ?_)
 refine bc fun cG bJ=>aG ab U (ae (Aj hj cj rfl rfl bM rfl rfl)<|ae (qP rfl (Jk gO (places:=[(0,8),(8,64),(72,1)]) az (cells:=r2 aL.jS) az))<|ah) fun a w ab U=>aJ ab U rfl (cJ gO 0 rfl rfl rfl rfl aI bM aI) ?_
 rintro _ _ _ a w ⟨rfl,rfl,rfl⟩ ab U
 (try dsimp only [hM] at U)
 replace U:=ft U
 refine wpList_nil (bJ _ _ ?_)
 refine wp_ret<|b0 (rs:=[.cell 0 223]) rfl ab U (vs:=[_]) ⟨⟨_,_,_,_,_,_,_,rfl,List.mem_of_getElem? (i:=0) rfl,gO,.inl ⟨rfl,aI,rfl⟩⟩,trivial⟩ ay ay (rfl)
theorem pC(s:aL.kF)(t:List UInt8)(dJ:s.st.length=8)(fo:s.bl.length=64)(aN:t.length<1099511627776)(w:World){gE:Nat×Nat}{gC:TypeId}(fW:w.heap[1]?=some (.cells (aL.eH.map cI).toArray gC gE)):cC Tryz.prog 143 [.agg (r2 s).toArray,vs t] w (fun r _ _=>r=.agg (r2 (aL.gj s t)).toArray):=by
 refine c4 Tryz.func143 rfl Tryz.ntmps143 b4 fun a ab U=>bc fun eJ c8=>aJ ab U rfl (jV rfl) ?_
 rintro _ _ _ a w ⟨ck,rfl,rfl,rfl⟩ ab U
 refine aJ ab U rfl (dg gO) ?_
 rintro _ _ _ a w ⟨dD,rfl,rfl,rfl⟩ ab U
 refine wpList_nil (c8 _ _ ?_)
 refine ax fun cG bJ=>wp_block ?_
 obtain ⟨bG,a6,U⟩:=U.c1
 refine dy (γ:=aL.kF×List UInt8) (s,t) (fun (s',b7)=>[(1,vs b7)]) [(2,_),(4,_)] (fun (s',b7)=>(bG.set 1 (.blk ck 223 (s'.st.map cI++(s'.bl.map bn++[gX s'.n]))))) (fun (s',b7)=>s'.st.length=8∧s'.bl.length=64∧b7.length<1099511627776∧aL.gj s' b7=aL.gj s t) (fun (s',b7)=>b7.length) (ab.sub ⟨rfl,rfl,rfl,trivial⟩) (by subst a6;exact U) (by exact ⟨dJ,fo,aN,rfl⟩) ?_
 rintro ⟨s',b7⟩ a w bh ab U
 subst a6;(try dsimp only at bh ab U)
 obtain ⟨dJ,fo,aN,G0⟩:=bh
 replace U:=e7 U
 refine ax fun dX cq=>aD ab U (ai rfl<|ae (rY (q:=[]) rfl rfl)<|ah) fun a w ab U=>e9 ab rfl (fun aU=>?_) (fun aU=>?_)
 ·have anF:0<b7.length:=by
   cases b7 with
   | nil=>exact absurd rfl aU
   | cons c t=>simp
  refine wp_skip<|cq _ _<|wp_block ?_
  refine ax fun dL b9=>bx ab U (ae (aZ gO rfl rfl (s':=0) az)<|ae (DK np 1 [_,_] rfl rfl aI rfl)<|ae (af3 (q:=64) rfl rfl a8)<|ae (DE np bH rfl)<|av rfl<|ah) fun a w ab U=>?_
  rw [aL.UZ s'.n] at ab
  generalize ix:s'.n.toNat%64=q at ab
  have ch:q<64:=by omega
  refine b9 _ _<|bc fun eN cK=>aG ab U (ae (aZ gO rfl rfl (s':=63) az)<|ai rfl<|ae (DO SS bI rfl rfl ag)<|ai rfl<|ah) fun a w ab U=>aJ ab U rfl (WJ bX bI 1 [_] rfl rfl rfl aI aI) ?_
  rintro _ _ _ a w ⟨rfl,rfl,rfl⟩ ab U
  (try dsimp only [hM] at U)
  replace U:=e7 U
  refine aG ab U (av rfl<|ah) fun a w ab U=>wpList_nil ?_
  simp only [Int.toNat_natCast] at U ab
  obtain ⟨k,aE⟩:∃ k,k=min b7.length (64-q):=⟨_,rfl⟩
  rw [← aE] at U
  rw [show min (b7.length:Int) ((64-q:Nat):Int)=(k:Int) by omega] at ab
  have c6:(List.take q s'.bl++(List.take k b7++List.drop (q+k) s'.bl)).length=64:=by simp;omega
  generalize gS:List.take q s'.bl++(List.take k b7++List.drop (q+k) s'.bl)=B at U c6
  refine cK _ _<|ax fun fa cT=>bx ab U (ai rfl<|ai rfl<|ae (DN bB rfl rfl ag)<|av rfl<|ah) fun a w ab U=>?_
  simp only [Int.toNat_natCast] at ab
  refine cT _ _<|bc fun fk cP=>aG ab U (ae (aZ gO rfl rfl (s':=0) az)<|ae (DK np 1 [_,_] rfl rfl aI rfl)<|ai rfl<|ae (An bH np rfl)<|ae (afn rfl rfl)<|ae (aZ gO rfl rfl (s':=0) az)<|ah) fun a w ab U=>aJ ab U rfl (WS np 1 [_,_] rfl rfl rfl aI rfl) ?_
  rintro _ _ _ a w ⟨rfl,rfl,rfl⟩ ab U
  (try dsimp only [hM] at U)
  replace U:=e7 U
  refine wpList_nil (cP _ _ ?_)
  refine aD ab U (ai rfl<|ai rfl<|b5 rfl rfl<|ae (gq rfl rfl)<|ah) fun a w ab U=>cn ab rfl (fun bz=>?_) (fun bz=>?_)
  ·have fE:=aL.BZ s'.st B dJ
   refine h2 6 mixed az ab U (ae (aZ gO rfl rfl (s':=7) az)<|ae (afM hj 1 [] rfl rfl aI aI rfl)<|ae (aZ gO rfl rfl (s':=63) az)<|ae (rZ SS bI rfl)<|ae (bV XM rfl (fun w U=>V1 _ _ _ (by first | assumption | rfl | (simp;done) | (simp;omega)) (by first | assumption | omega | (simp;omega)) w (Vk U 1 [_] rfl aI ag (by simp)) (U.ext _ _ fW)) bP)<|ae (aZ gO rfl rfl (s':=7) az)<|ah) fun a w ab U=>aJ ab U rfl (WR hj 1 [] rfl rfl rfl aI aI aI (fun _=>rfl)) ?_
   rintro _ _ _ a w ⟨rfl,rfl,rfl⟩ ab U
   (try dsimp only [hM] at U)
   replace U:=e7 U
   refine wpList_nil<|⟨(⟨aL.comp s'.st B,B,s'.n+dA (k:Int)⟩,b7.drop k),?_,?_,ab.sub ⟨rfl,rfl,rfl,trivial⟩,?_⟩
   ·dsimp only;rw [List.length_drop];omega
   ·exact ⟨aL.BZ _ _ dJ,c6,by rw [List.length_drop];omega,by rw [← G0,aL.La s' b7 q k ix fo ag ag,if_pos ag,gS]⟩
   ·exact U
  ·refine wp_skip<|⟨(⟨s'.st,B,s'.n+dA (k:Int)⟩,b7.drop k),?_,?_,ab.sub ⟨rfl,rfl,rfl,trivial⟩,?_⟩
   ·dsimp only;rw [List.length_drop];omega
   ·exact ⟨dJ,c6,by rw [List.length_drop];omega,by rw [← G0,aL.La s' b7 q k ix fo ag ag,if_neg ag,gS]⟩
   ·exact U
 ·obtain rfl:=aU
  refine wp_exit<|bJ _ _<|bc fun hU ef=>aG ab U (ae (gh gO 1 rfl rfl aI rfl)<|ah) fun a w ab U=>aJ ab U rfl (cJ gO 0 rfl rfl rfl rfl aI bM aI) ?_
  rintro _ _ _ a w ⟨rfl,rfl,rfl⟩ ab U
  (try dsimp only [hM] at U)
  replace U:=e7 U
  refine wpList_nil (ef _ _ ?_)
  refine wp_ret<|b0 (rs:=[.cell 4 223]) rfl ab U (vs:=[_]) ⟨⟨_,_,_,_,_,_,_,rfl,List.mem_of_getElem? (i:=0) rfl,gO,.inl ⟨rfl,aI,rfl⟩⟩,trivial⟩ ay ay (by rw [← G0];rfl)
end
section
theorem iq:ba Tryz.prog 182 (.array 32 5) 32 32 (.agg (List.replicate 32 (Value.int .u8 0)).toArray):=⟨Tryz.underlying182,by kernel_rfl⟩
theorem pJ:b1 Tryz.prog 143:=b6 Tryz.func143
theorem Sz(s:aL.kF)(dJ:s.st.length=8)(fo:s.bl.length=64)(bD:s.n.toNat<2199023255552)(w:World){gE:Nat×Nat}{gC:TypeId}(fW:w.heap[1]?=some (.cells (aL.eH.map cI).toArray gC gE)):cC Tryz.prog 144 [.agg (r2 s).toArray] w (fun r _ _=>r=.agg ((aL.fin s).map bn).toArray):=by
 refine c4 Tryz.func144 rfl Tryz.ntmps144 b4 fun a ab U=>?_
 have anx:oB s.n=(s.n.toNat:Int):=by unfold oB;rw [if_pos ag]
 have bj:=aL.EH s.n.toNat
 have aad:=aL.BL (8*s.n)
 refine bc fun eJ c8=>aJ ab U rfl (jV rfl) ?_
 rintro _ _ _ a w ⟨ck,rfl,rfl,rfl⟩ ab U
 refine aJ ab U rfl (dg iq) ?_
 rintro _ _ _ a w ⟨dD,rfl,rfl,rfl⟩ ab U
 rw [show List.replicate 32 (Value.int .u8 0)=(List.replicate 32 (0:UInt8)).map bn from by rw [List.map_replicate] <;> rfl] at U
 refine wpList_nil (c8 _ _ ?_)
 refine aD ab U (ae (aZ gO rfl rfl (s':=0) az)<|ae (DK np 1 [_,_] rfl rfl aI rfl)<|ae (QT (p:=8) rfl rfl)<|av rfl<|ah) fun a w ab U=>bc fun dX cq=>aJ ab U rfl (eu bX bI rfl rfl bM a8 rfl rfl) ?_
 rintro v3 _ _ a w ⟨rfl,rfl⟩ ab U
 replace U:=eU U
 refine aG ab U (av rfl<|ah) fun a w ab U=>wpList_nil (cq _ _ ?_)
 refine ax fun et cB=>wp_block ?_
 obtain ⟨bG,a6,U⟩:=U.c1
 refine dy (γ:=Value×Nat) (v3,0) (fun (v,j)=>[(4,v)]) [(1,_),(2,_),(3,_)] (fun (v,j)=>(bG.set 0 (.row v 5 1 (1+j) ((128::List.replicate j (0:UInt8)).map bn)))) (fun (v,j)=>j≤aL.hE s.n.toNat) (fun (v,j)=>aL.hE s.n.toNat-j) (ab.sub ⟨rfl,rfl,rfl,rfl,trivial⟩) (by subst a6;exact U) (by exact Nat.zero_le _) ?_
 rintro ⟨v,j⟩ a w bh ab U
 subst a6;(try dsimp only at bh ab U)
 have aV:=bh
 replace U:=eU U
 refine ax fun dL b9=>aD ab U (ae (aZ gO rfl rfl (s':=0) az)<|ae (DK np 2 [_,_] rfl rfl aI rfl)<|ae (DE np bH rfl)<|ai rfl<|ae (hA bX 0 rfl rfl)<|b5 rfl rfl<|ae (ni rfl rfl ag)<|ae (dS rfl rfl)<|ah) fun a w ab U=>e9 ab rfl (fun aU=>?_) (fun aU=>?_)
 ·have u1:j<aL.hE s.n.toNat:=by
   have:=aL.Kh s.n.toNat
   rcases Nat.lt_or_ge j (aL.hE s.n.toNat) with h | h
   ·exact h
   ·obtain rfl:j=aL.hE s.n.toNat:=by omega
    omega
  refine wp_skip<|b9 _ _<|wp_block ?_
  refine dM<|aG ab U (ai rfl<|ah) fun a w ab U=>aJ ab U rfl (eu bX bI rfl rfl bM a8 rfl rfl) ?_
  rintro v5 _ _ a w ⟨rfl,rfl⟩ ab U
  replace U:=jt U
  refine aJ ab U rfl (dH bX bI 1 rfl rfl rfl (eo bX (k:=0) rfl bM) aI rfl a8) ?_
  rintro ns _ _ a w ⟨rfl,rfl⟩ ab U
  replace U:=jt U
  refine aG ab U (av rfl<|ah) fun a w ab U=>wpList_nil ?_
  replace U:=U.ao ay (c2)
  refine ⟨(ns,j+1),?_,?_,ab.sub ⟨rfl,rfl,rfl,rfl,trivial⟩,?_⟩
  ·(try dsimp only);omega
  ·(try dsimp only);omega
  ·have e:(128::List.replicate j (0:UInt8)).map bn++[Value.int .u8 0]=(128::List.replicate (j+1) (0:UInt8)).map bn:=by rw [List.replicate_succ'];simp
   rw [e] at U
   exact U
 ·have Hu:=aL.T3 s.n.toNat j aV ag
  subst Hu
  refine wp_exit<|cB _ _<|ax fun fa cT=>aD ab U (ai rfl<|ah) fun a w ab U=>wp_block ?_
  obtain ⟨bG,a6,U⟩:=U.c1
  refine dy (γ:=Value×Int) (v,0) (fun (v,i)=>[(4,v),(23,aA i)]) [(1,_),(2,_),(3,_)] (fun (v,i)=>(bG.set 0 (.row v 5 1 (1+aL.hE s.n.toNat+i.toNat) ((128::(List.replicate (aL.hE s.n.toNat) (0:UInt8)++(aL.nA (8*s.n)).take i.toNat)).map bn)))) (fun (v,i)=>0≤i∧i≤8) (fun (v,i)=>(8-i).toNat) (ab.sub ⟨rfl,rfl,rfl,rfl,rfl,trivial⟩) (by subst a6;simpa using U) (by simp) ?_
  rintro ⟨v,i⟩ a w bh ab U
  subst a6;(try dsimp only at bh ab U)
  obtain ⟨eL,kI⟩:=bh
  replace U:=eU U
  refine aD ab U (ae (cU rfl rfl)<|ah) fun a w ab U=>ax fun hU ef=>cn ab rfl (fun bz=>?_) (fun bz=>?_)
  ·refine wp_skip<|ef _ _<|ax fun ho dK=>wp_block ?_
   refine aD ab U (ai rfl<|av rfl<|ah) fun a w ab U=>dM ?_
   refine aG ab U (ai rfl<|ai rfl<|ai rfl<|ae (hK rfl rfl ag)<|fy rfl rfl<|ae (xA rfl rfl ag)<|ae (IQ np bI rfl)<|ah) fun a w ab U=>aJ ab U rfl (eu bX bI rfl rfl bM a8 rfl rfl) ?_
   rintro vO _ _ a w ⟨rfl,rfl⟩ ab U
   replace U:=jt U
   refine aJ ab U rfl (dH bX bI 1 rfl rfl rfl (eo bX (k:=0) rfl bM) aI rfl a8) ?_
   rintro v10 _ _ a w ⟨rfl,rfl⟩ ab U
   replace U:=jt U
   refine aG ab U (av rfl<|ah) fun a w ab U=>wpList_nil (dK _ _ ?_)
   refine bx ab U (b5 rfl rfl<|ai rfl<|ah) fun a w ab U=>?_
   replace U:=U.ao ay (c2)
   refine ⟨(v10,i+1),?_,?_,ab.sub ⟨rfl,rfl,rfl,rfl,rfl,trivial⟩,?_⟩
   ·(try dsimp only);omega
   ·(try dsimp only);omega
   ·rw [aL.Lv (8*s.n) i ⟨eL,by omega⟩] at U
    have e:(128::(List.replicate (aL.hE s.n.toNat) (0:UInt8)++(aL.nA (8*s.n)).take i.toNat)).map bn++[bn (UInt8.ofNat ((8*s.n).toNat/2^(56-8*i.toNat)))]=(128::(List.replicate (aL.hE s.n.toNat) (0:UInt8)++(aL.nA (8*s.n)).take (i+1).toNat)).map bn:=by rw [show (i+1).toNat=i.toNat+1 by omega,aL.Ln _ _ ag];simp
    rw [e,show 1+aL.hE s.n.toNat+i.toNat+1=1+aL.hE s.n.toNat+(i+1).toNat by omega] at U
    exact U
  ·obtain rfl:i=8:=by omega
   rw [show (8:Int).toNat=8 from rfl,List.take_of_length_le ag] at U
   have ia:=aL.aeV s.n
   have h8:=aL.ur s dJ fo (aL.pad s.n)
   change aB _ [] [.row _ 5 1 _ ((aL.pad s.n).map bn),_,_] _ at U
   refine wp_exit<|cT _ _<|bc fun iR eO=>aG ab U (ae (gh gO 2 rfl rfl aI rfl)<|ai rfl<|ae (nf bX bB bI 0 rfl rfl)<|ae (bV pJ rfl (fun w U=>pC _ _ (by first | assumption | rfl | (simp only [*];done)) (by first | assumption | rfl | (simp only [*];done)) (by first | assumption | omega | (simp;done) | (simp;omega) | (simp only [*];omega)) w (U.ext _ _ fW)) bP)<|ah) fun a w ab U=>aJ ab U rfl (cJ gO 2 rfl rfl rfl rfl aI bM aI) ?_
   rintro _ _ _ a w ⟨rfl,rfl,rfl⟩ ab U
   (try dsimp only [hM] at U)
   replace U:=eU U
   refine wpList_nil (eO _ _ ?_)
   refine bc fun kY gF=>aJ ab U rfl (dg iq) ?_
   rintro _ _ _ a w ⟨U0,rfl,rfl,rfl⟩ ab U
   rw [show List.replicate 32 (Value.int .u8 0)=(List.replicate 32 (0:UInt8)).map bn from by rw [List.map_replicate] <;> rfl] at U
   refine wpList_nil (gF _ _ ?_)
   refine ax fun j5 fC=>aD ab U (ai rfl<|ah) fun a w ab U=>wp_block ?_
   obtain ⟨bG,a6,U⟩:=U.c1
   refine dy (γ:=Int) (0) (fun (i:Int)=>[(40,aA i)]) [(1,_),(2,_),(6,_)] (fun (i:Int)=>(bG.set 0 (.blk U0 182 ((aL.p1 (aL.gj s (aL.pad s.n)).st i.toNat).map bn)))) (fun (i:Int)=>0≤i∧i≤32) (fun (i:Int)=>(32-i).toNat) (ab.sub ⟨rfl,rfl,rfl,rfl,trivial⟩) (by subst a6;exact U) (by simp) ?_
   rintro i a w bh ab U
   subst a6;(try dsimp only at bh ab U)
   obtain ⟨eL,kI⟩:=bh
   replace U:=jt U
   have CP:=aL.Qg (aL.gj s (aL.pad s.n)).st i.toNat
   refine aD ab U (ae (cU rfl rfl)<|ah) fun a w ab U=>ax fun pq jF=>cn ab rfl (fun cl=>?_) (fun cl=>?_)
   ·refine wp_skip<|jF _ _<|ax fun qa ko=>wp_block ?_
    refine aD ab U (ai rfl<|av rfl<|ah) fun a w ab U=>dM ?_
    refine aG ab U (ai rfl<|ai rfl<|ae (ox rfl rfl ag)<|ae (aZ gO rfl rfl (s':=7) az)<|ae (gG hj cj rfl rfl ag)<|ae (afN cj 3 [] (0:UInt32) rfl rfl aI aI rfl)<|ai rfl<|ae (ni rfl rfl ag)<|ae (hK rfl rfl ag)<|fy rfl rfl<|ae (tD rfl rfl ag)<|ae (QH cj bI rfl)<|ae (hR iq bI rfl rfl ag)<|ah) fun a w ab U=>aJ ab U rfl (rq bI 0 rfl rfl rfl aI rfl) ?_
    rintro _ _ _ a w ⟨rfl,rfl,rfl⟩ ab U
    replace U:=jt U
    refine wpList_nil (ko _ _ ?_)
    refine bx ab U (b5 rfl rfl<|ai rfl<|ah) fun a w ab U=>⟨(i+1),?_,?_,ab.sub ⟨rfl,rfl,rfl,rfl,trivial⟩,?_⟩
    ·(try dsimp only);omega
    ·(try dsimp only);omega
    ·rw [aL.Lw _ i ⟨eL,by omega⟩,aL.Qh _ _ ag,show i.toNat+1=(i+1).toNat by omega] at U
     exact U
   ·obtain rfl:i=32:=by omega
    rw [show (32:Int).toNat=32 from rfl,aL.Qf] at U
    have zF:=aL.Qe (aL.gj s (aL.pad s.n)).st
    refine wp_exit<|fC _ _<|bc fun sg lC=>aG ab U (ae (gh iq 0 rfl rfl aI rfl)<|ah) fun a w ab U=>aJ ab U rfl (cJ iq 2 rfl rfl rfl rfl aI bM aI) ?_
    rintro _ _ _ a w ⟨rfl,rfl,rfl⟩ ab U
    replace U:=jt U
    refine wpList_nil (lC _ _ ?_)
    refine wp_ret<|b0 (rs:=[.cell 2 182]) rfl ab U (vs:=[_]) ⟨⟨_,_,_,_,_,_,_,rfl,List.mem_of_getElem? (i:=2) rfl,iq,.inl ⟨rfl,aI,rfl⟩⟩,trivial⟩ ay ay (rfl)
end
section
theorem wD:b1 Tryz.prog 142:=b6 Tryz.func142
theorem MI:b1 Tryz.prog 144:=b6 Tryz.func144
theorem SD(v:Value)(xs:List UInt8)(aM:xs.length<1099511627776)(w:World)(aw:bo hc (cf w) v xs){gE:Nat×Nat}{gC:TypeId}(fW:w.heap[1]?=some (.cells (aL.eH.map cI).toArray gC gE)):cC Tryz.prog 101 [v] w (fun r _ _=>r=.agg ((aL.sum xs).map bn).toArray):=by
 refine c4 Tryz.func101 rfl Tryz.ntmps101 b4 fun a ab U=>?_
 have h8:=aL.ur aL.jS aL.BN aL.BM xs
 have wR:=aL.Fa aL.jS xs (by rw [aL.yK];omega)
 rw [aL.yK] at wR
 have jh:=aL.pb xs
 have eK:=aL.B4 (aL.gj aL.jS xs)
 refine bc fun eJ c8=>aJ ab U rfl (dg iq) ?_
 rintro _ _ _ a w ⟨ck,rfl,rfl,rfl⟩ ab U
 rw [show List.replicate 32 (Value.int .u8 0)=(List.replicate 32 (0:UInt8)).map bn from by rw [List.map_replicate] <;> rfl] at U
 refine wpList_nil (c8 _ _ ?_)
 refine ax fun cG bJ=>h2 5 mixed az ab U (ae (bV wD rfl (fun w U=>wj w ) bP)<|ai rfl<|ae (tt bX bB bI aw cM rfl)<|ae (bV pJ rfl (fun w U=>pC _ _ (by first | assumption | rfl | (simp only [*];done)) (by first | assumption | rfl | (simp only [*];done)) (by first | assumption | omega | (simp;done) | (simp;omega) | (simp only [*];omega)) w (U.ext _ _ fW)) bP)<|ae (bV MI rfl (fun w U=>Sz _ (by first | assumption | (simp [*];done)) (by first | assumption | (simp [*];done)) (by first | assumption | omega) w (U.ext _ _ fW)) bP)<|ah) fun a w ab U=>aJ ab U rfl (cJ iq 0 rfl rfl rfl rfl aI bM aI) ?_
 rintro _ _ _ a w ⟨rfl,rfl,rfl⟩ ab U
 replace U:=ft U
 refine wpList_nil (bJ _ _ ?_)
 refine wp_ret<|b0 (rs:=[.cell 2 182]) rfl ab U (vs:=[_]) ⟨⟨_,_,_,_,_,_,_,rfl,List.mem_of_getElem? (i:=0) rfl,iq,.inl ⟨rfl,aI,rfl⟩⟩,trivial⟩ ay ay (rfl)
end
section
attribute [local irreducible] aL.gj aL.fin aL.sum aL.Ae aL.comp aL.qG aL.keyOf aL.h3 aL.rounds aL.tm
end
section
theorem Cd:b1 Tryz.prog 57:=b6 Tryz.func57
theorem Eu(n:Int)(w:World):cC Tryz.prog 57 [aA n] w (fun v zs hs=>zs=[]∧hs=[.row v 5 1 (aF.int n).length ((aF.int n).map bn)]):=by
 refine c4 Tryz.func57 rfl Tryz.ntmps57 b4 fun a ab U=>aD ab U (av rfl<|ah) fun a w ab U=>wp_scope_straight ?_
 refine aD ab U (ai rfl<|ae (An bH np rfl)<|av rfl<|av rfl<|ah) fun a w ab U=>?_
 obtain ⟨bG,a6,U⟩:=U.c1
 refine mn (γ:=UInt64×UInt8) (fun (m,b8)=>[(3,gX m),(4,bn b8)]) [] (fun (m,b8)=>bG) (fun (m,b8)=>m=aF.ei n∧b8=aF.gD n) (ab.sub trivial) U ?_ ?_
 ·subst a6
  refine aD ab U (ai rfl<|ae (cU rfl rfl)<|ah) fun a w ab U=>cn ab rfl (fun aU=>?_) (fun aU=>?_)
  ·refine bx ab U (ai rfl<|ae (QW rfl)<|av rfl<|av rfl<|ah) fun a w ab U=>⟨(~~~(dA n),255),?_,ab.sub ⟨rfl,rfl,trivial⟩,?_⟩
   ·exact ⟨by unfold aF.ei;rw [if_pos aU],by unfold aF.gD;rw [if_pos aU]⟩
   ·exact U
  ·refine wp_skip<|⟨(dA n,0),?_,ab.sub ⟨rfl,rfl,trivial⟩,?_⟩
   ·exact ⟨by unfold aF.ei;rw [if_neg aU],by unfold aF.gD;rw [if_neg aU]⟩
   ·exact U
 rintro ⟨m,b8⟩ a w bh ab U
 subst a6;(try dsimp only at bh ab U)
 obtain ⟨hm,eK⟩:=bh
 replace U:=ic U
 refine aD ab U (av rfl<|ah) fun a w ab U=>ax fun dL b9=>wp_label ?_
 refine b9 _ _ ?_
 obtain ⟨bG,a6,U⟩:=U.c1
 refine mn (γ:=Nat) (fun (k:Nat)=>[(5,aA (k:Int))]) [(3,_),(4,_)] (fun (k:Nat)=>bG) (fun (k:Nat)=>k≤8∧k=aF.eA m) (ab.sub ⟨rfl,rfl,trivial⟩) U ?_ ?_
 ·subst a6
  refine wp_block ?_
  obtain ⟨bG,a6,U⟩:=U.c1
  refine dy (γ:=Nat) (8) (fun (k:Nat)=>[(5,aA (k:Int))]) [(3,_),(4,_)] (fun (k:Nat)=>bG) (fun (k:Nat)=>k≤8∧aF.nL m k=aF.eA m) (fun (k:Nat)=>k) (ab.sub ⟨rfl,rfl,rfl,trivial⟩) (by subst a6;exact U) (by exact ⟨Nat.le_refl _,rfl⟩) ?_
  rintro k a w bh ab U
  subst a6;(try dsimp only at bh ab U)
  obtain ⟨Hw,og⟩:=bh
  replace U:=ic U
  refine ax fun eN cK=>aD ab U (ai rfl<|ae (fc rfl rfl)<|ah) fun a w ab U=>cn ab rfl (fun bz=>?_) (fun bz=>?_)
  ·obtain ⟨k,rfl⟩:∃ j,k=j+1:=⟨k-1,by omega⟩
   refine wp_skip<|cK _ _<|wp_block ?_
   refine ax fun fk cP=>aD ab U (ai rfl<|ai rfl<|fy rfl rfl<|ae (hK rfl rfl ag)<|ae (xA rfl rfl ag)<|ae (QL (q:=0) rfl rfl)<|ah) fun a w ab U=>cn ab rfl (fun cl=>?_) (fun cl=>?_)
   ·rw [show ((k+1:Nat):Int)-1=(k:Int) by omega,aF.SP m k ag] at cl
    refine wp_exit<|⟨(k+1),?_,ab.sub ⟨rfl,rfl,rfl,trivial⟩,?_⟩
    ·refine ⟨Hw,?_⟩
     rw [← og]
     unfold aF.nL
     rw [if_neg cl]
    ·exact U
   ·rw [show ((k+1:Nat):Int)-1=(k:Int) by omega,aF.SP m k ag] at cl
    refine wp_skip<|cP _ _<|bx ab U (ai rfl<|fy rfl rfl<|av rfl<|ah) fun a w ab U=>?_
    rw [show ((k+1:Nat):Int)-1=(k:Int) by omega] at ab
    refine ⟨(k),?_,?_,ab.sub ⟨rfl,rfl,rfl,trivial⟩,?_⟩
    ·(try dsimp only);omega
    ·refine ⟨by omega,?_⟩
     rw [← og]
     conv=>rhs;unfold aF.nL
     rw [if_pos (Classical.not_not.1 cl)]
    ·exact U
  ·refine wp_exit<|⟨(k),?_,ab.sub ⟨rfl,rfl,rfl,trivial⟩,?_⟩
   ·refine ⟨Hw,?_⟩
    obtain rfl:k=0:=by omega
    exact og
   ·exact U
 rintro k a w bh ab U
 subst a6;(try dsimp only at bh ab U)
 obtain ⟨Hw,CM⟩:=bh
 replace U:=ic U
 refine bc fun hU ef=>aG ab U (ai rfl<|b5 rfl rfl<|ae (rX bH bI rfl)<|ai rfl<|ae (vx rfl rfl)<|ah) fun a w ab U=>aJ ab U rfl (eu bX bI rfl rfl bM a8 rfl rfl) ?_
 rintro v1 _ _ a w ⟨rfl,rfl⟩ ab U
 replace U:=ft U
 refine aG ab U (av rfl<|ah) fun a w ab U=>wpList_nil (ef _ _ ?_)
 refine ax fun ho dK=>aD ab U (ai rfl<|fy rfl rfl<|av rfl<|ah) fun a w ab U=>wp_block ?_
 obtain ⟨bG,a6,U⟩:=U.c1
 refine dy (γ:=Value×Nat) (v1,k) (fun (v,i)=>[(6,v),(7,aA ((i:Int)-1))]) [(3,_),(4,_)] (fun (v,i)=>(bG.set 0 (.row v 5 1 (1+(k-i)) (((UInt8.ofNat (128+k) ^^^ b8)::aF.hH m b8 k i).map bn)))) (fun (v,i)=>i≤k) (fun (v,i)=>i) (ab.sub ⟨rfl,rfl,rfl,rfl,trivial⟩) (by subst a6;rw [show (128:Int)+(k:Int)=((128+k:Nat):Int) by omega,aF.Dv] at U;simpa [aF.hH] using U) (by exact Nat.le_refl _) ?_
 rintro ⟨v,i⟩ a w bh ab U
 subst a6;(try dsimp only at bh ab U)
 have sV:=bh
 replace U:=ft U
 refine ax fun iR eO=>aD ab U (ai rfl<|ae (ke rfl rfl)<|ah) fun a w ab U=>cn ab rfl (fun dI=>?_) (fun dI=>?_)
 ·refine wp_skip<|eO _ _<|ax fun j5 fC=>wp_block ?_
  refine dM<|aG ab U (ai rfl<|ai rfl<|ai rfl<|ae (hK rfl rfl ag)<|ae (xA rfl rfl ag)<|ae (IQ np bI rfl)<|ai rfl<|ae (vx rfl rfl)<|ah) fun a w ab U=>aJ ab U rfl (eu bX bI rfl rfl bM a8 rfl rfl) ?_
  rintro v3 _ _ a w ⟨rfl,rfl⟩ ab U
  replace U:=e7 U
  refine aJ ab U rfl (dH bX bI 1 rfl rfl rfl (eo bX (k:=0) rfl bM) aI rfl a8) ?_
  rintro v5 _ _ a w ⟨rfl,rfl⟩ ab U
  replace U:=e7 U
  refine aG ab U (av rfl<|ah) fun a w ab U=>wpList_nil (fC _ _ ?_)
  refine bx ab U (ai rfl<|fy rfl rfl<|av rfl<|ah) fun a w ab U=>?_
  rw [show (i:Int)-1-1=((i-1:Nat):Int)-1 by omega] at ab
  replace U:=U.ao ay (c2)
  refine ⟨(v5,i-1),?_,?_,ab.sub ⟨rfl,rfl,rfl,rfl,trivial⟩,?_⟩
  ·(try dsimp only);omega
  ·(try dsimp only);omega
  ·rw [aF.Wl m b8 ((i:Int)-1) ag,show ((i:Int)-1).toNat=i-1 by omega] at U
   have e:((UInt8.ofNat (128+k) ^^^ b8)::aF.hH m b8 k i).map bn++[bn (aF.digit m b8 (i-1))]=((UInt8.ofNat (128+k) ^^^ b8)::aF.hH m b8 k (i-1)).map bn:=by rw [← aF.LL m b8 k (i-1) ag,show i-1+1=i by omega];simp
   rw [e,show 1+(k-i)+1=1+(k-(i-1)) by omega] at U
   exact U
 ·obtain rfl:i=0:=by omega
  have e:(UInt8.ofNat (128+k) ^^^ b8)::aF.hH m b8 k 0=aF.int n:=by rw [hm,eK,CM,hm];rfl
  have el:1+(k-0)=(aF.int n).length:=by rw [← e];simp [aF.uC];omega
  rw [e,el] at U
  refine wp_exit<|dK _ _<|aD ab U (ai rfl<|av rfl<|ah) fun a w ab U=>wp_ret ?_
  exact b0 (rs:=[.tmp 2]) rfl ab U (vs:=[_]) ⟨rfl,trivial⟩ ay al ⟨rfl,rfl⟩
theorem J5(t:List UInt8)(aN:t.length<1099511627776)(w:World):cC Tryz.prog 58 [vs t] w (fun v zs hs=>zs=[]∧hs=[.row v 5 1 (aF.bytes t).length ((aF.bytes t).map bn)]):=by
 refine c4 Tryz.func58 rfl Tryz.ntmps58 b4 fun a ab U=>?_
 have oU:=aF.oo t.length
 refine aD ab U (av rfl<|ah) fun a w ab U=>bc fun cG bJ=>aG ab U (ai rfl<|ae (hZ bB rfl)<|ah) fun a w ab U=>aJ ab U rfl (eT Cd rfl (fun w U=>Eu _ w )) ?_
 rintro v1 _ _ a w ⟨_,_,rfl,rfl,rfl,rfl⟩ ab U
 replace U:=ft U
 refine aG ab U (ai rfl<|ah) fun a w ab U=>aJ ab U rfl (dH bX bI 0 rfl rfl rfl (aih bB _) aI rfl a8) ?_
 rintro v3 _ _ a w ⟨rfl,rfl⟩ ab U
 replace U:=ft U
 refine aG ab U (av rfl<|ah) fun a w ab U=>wpList_nil (bJ _ _ ?_)
 refine wp_ret ?_
 rw [← List.map_append,show (aF.int t.length).length+t.length=(aF.bytes t).length by simp [aF.bytes]] at U
 exact b0 (rs:=[.tmp 2]) rfl ab U (vs:=[_]) ⟨rfl,trivial⟩ ay al ⟨rfl,rfl⟩
end
section
theorem cw:ba Tryz.prog 40 (.slice 9) 1 24 (Value.slice none 0 0):=⟨Tryz.underlying40,by kernel_rfl⟩
theorem di:ba Tryz.prog 62 (.array 16 5) 16 16 (.agg (List.replicate 16 (Value.int .u8 0)).toArray):=⟨Tryz.underlying62,by kernel_rfl⟩
theorem F8:b1 Tryz.prog 58:=b6 Tryz.func58
@[simp] theorem aik (s:aL.kF):(r2 s).length=s.st.length+(s.bl.length+1):=by simp [r2]
attribute [local irreducible] aL.gj aL.fin aL.sum aL.comp aL.h3 aL.rounds aL.tm aL.mI aL.ju aF.int aF.bytes
theorem Du(tag:Int)(v:Value)(ps:List (List UInt8))(bO:∀ p∈ps,p.length<1048576)(hl:ps.length<1048576)(w:World)(aw:bo Go.aK.encS (cf w) v ps){gE:Nat×Nat}{gC:TypeId}(fW:w.heap[1]?=some (.cells (aL.eH.map cI).toArray gC gE)):cC Tryz.prog 115 [aA tag,v] w (fun r _ _=>r=.agg ((aL.ju tag ps).map bn).toArray):=by
 refine c4 Tryz.func115 rfl Tryz.ntmps115 b4 fun a ab U=>?_
 have gw:=aL.ur aL.jS aL.BN aL.BM [hI tag]
 obtain ⟨Cm,alM⟩:=gw
 refine bc fun eJ c8=>aJ ab U rfl (dg di) ?_
 rintro _ _ _ a w ⟨ck,rfl,rfl,rfl⟩ ab U
 rw [show List.replicate 16 (Value.int .u8 0)=(List.replicate 16 (0:UInt8)).map bn from by rw [List.map_replicate] <;> rfl] at U
 refine wpList_nil (c8 _ _ ?_)
 refine ax fun cG bJ=>?_
 revert U;revert ab;apply hL (J:=kj (α0:=Value) (α1:=Nat) 32 _ _ _ _ _) #[false,false,false,false,false,false,false,false] 8 mixed rfl rfl
 ·intro w ab U
  refine aS 1 rfl ab (U.ao al ay) (bE rfl) fun a ab=>aS 2 rfl ab (U.ao al ay) (rX bH bI rfl) fun a ab=>fB [0,3,6] az rfl ⟨?_,?_,?_,trivial⟩
  ·refine dW _ rfl rfl ab U rfl (eC (bV wD rfl (fun w U=>wj w ) bP)) ?_
   rintro _ _ _ a w ⟨rfl,rfl,rfl⟩ ab U
   refine ⟨⟨.inr U.ax,.inr U.ax,trivial⟩,?_⟩
   refine fB [3,6] az rfl ⟨?_,?_,trivial⟩
   ·refine dW _ rfl rfl ab U rfl (eu bX bI rfl rfl bM a8 rfl rfl) ?_
    rintro oD _ _ a w ⟨rfl,rfl⟩ ab U
    refine ⟨⟨aq,aq,trivial⟩,?_⟩
    refine aS 4 rfl ab (U.ao al (ay.k)) (nf (xs:=[_]) bX bB bI 0 rfl rfl) fun a ab=>fB [5,6] az rfl ⟨?_,?_,trivial⟩
    ·refine dW _ rfl rfl ab U rfl (eC (bV pJ rfl (fun w U=>pC _ _ (by first | assumption | rfl | (simp only [*];done)) (by first | assumption | rfl | (simp only [*];done)) (by first | assumption | omega | (simp;done) | (simp;omega) | (simp only [*];omega)) w (U.ext _ _ fW)) bP)) ?_
     rintro _ _ _ a w ⟨rfl,rfl,rfl⟩ ab U
     refine ⟨⟨aq,aq,aq,trivial⟩,?_⟩
     refine bY 6 rfl rfl ab U rfl (dg gO) ?_
     rintro _ _ _ a w ⟨mA,rfl,rfl,rfl⟩ ab U
     refine ⟨⟨aq,aq,aq,trivial⟩,?_⟩
     refine bY 7 rfl rfl ab U rfl (cJ gO 0 rfl rfl rfl rfl aI bM aI) ?_
     rintro _ _ _ a w ⟨rfl,rfl,rfl⟩ ab U
     (try dsimp only [hM] at U)
     replace U:=eU U
     refine ⟨⟨aq,aq,aq,trivial⟩,?_⟩
     exact ev az (lI oD mA (trivial) (ab.sub (L':=[(1,_),(4,_),(5,_)]) ⟨rfl,rfl,rfl,trivial⟩) U)
    ·refine dW _ rfl rfl ab U rfl (dg gO) ?_
     rintro _ _ _ a w ⟨mA,rfl,rfl,rfl⟩ ab U
     refine ⟨⟨.inr (U.ew (ay.k.n)),aq,aq,trivial⟩,?_⟩
     refine bY 5 rfl rfl ab U rfl (eC (bV pJ rfl (fun w U=>pC _ _ (by first | assumption | rfl | (simp only [*];done)) (by first | assumption | rfl | (simp only [*];done)) (by first | assumption | omega | (simp;done) | (simp;omega) | (simp only [*];omega)) w (U.ext _ _ fW)) bP)) ?_
     rintro _ _ _ a w ⟨rfl,rfl,rfl⟩ ab U
     refine ⟨⟨aq,aq,aq,trivial⟩,?_⟩
     refine bY 7 rfl rfl ab U rfl (cJ gO 0 rfl rfl rfl rfl aI bM aI) ?_
     rintro _ _ _ a w ⟨rfl,rfl,rfl⟩ ab U
     (try dsimp only [hM] at U)
     replace U:=eU U
     refine ⟨⟨aq,aq,aq,trivial⟩,?_⟩
     exact ev az (lI oD mA (trivial) (ab.sub (L':=[(1,_),(4,_),(5,_)]) ⟨rfl,rfl,rfl,trivial⟩) U)
   ·refine dW _ rfl rfl ab U rfl (dg gO) ?_
    rintro _ _ _ a w ⟨mA,rfl,rfl,rfl⟩ ab U
    refine ⟨⟨.inr U.ax,.inr U.ax,trivial⟩,?_⟩
    refine bY 3 rfl rfl ab U rfl (eu bX bI rfl rfl bM a8 rfl rfl) ?_
    rintro oD _ _ a w ⟨rfl,rfl⟩ ab U
    refine ⟨⟨aq,aq,trivial⟩,?_⟩
    refine aS 4 rfl ab (U.ao al (ay.k)) (nf (xs:=[_]) bX bB bI 0 rfl rfl) fun a ab=>bY 5 rfl rfl ab U rfl (eC (bV pJ rfl (fun w U=>pC _ _ (by first | assumption | rfl | (simp only [*];done)) (by first | assumption | rfl | (simp only [*];done)) (by first | assumption | omega | (simp;done) | (simp;omega) | (simp only [*];omega)) w (U.ext _ _ fW)) bP)) ?_
    rintro _ _ _ a w ⟨rfl,rfl,rfl⟩ ab U
    refine ⟨⟨aq,aq,aq,trivial⟩,?_⟩
    refine bY 7 rfl rfl ab U rfl (cJ gO 1 rfl rfl rfl rfl aI bM aI) ?_
    rintro _ _ _ a w ⟨rfl,rfl,rfl⟩ ab U
    (try dsimp only [hM] at U)
    replace U:=eU U
    refine ⟨⟨aq,aq,aq,trivial⟩,?_⟩
    exact ev az (lI oD mA (trivial) (ab.sub (L':=[(1,_),(4,_),(5,_)]) ⟨rfl,rfl,rfl,trivial⟩) (U.perm (.swap _ _ _)))
  ·refine dW _ rfl rfl ab U rfl (eu bX bI rfl rfl bM a8 rfl rfl) ?_
   rintro oD _ _ a w ⟨rfl,rfl⟩ ab U
   refine ⟨⟨aq,aq,trivial⟩,?_⟩
   refine aS 4 rfl ab (U.ao al (ay.k)) (nf (xs:=[_]) bX bB bI 0 rfl rfl) fun a ab=>fB [0,6] az rfl ⟨?_,?_,trivial⟩
   ·refine dW _ rfl rfl ab U rfl (eC (bV wD rfl (fun w U=>wj w ) bP)) ?_
    rintro _ _ _ a w ⟨rfl,rfl,rfl⟩ ab U
    refine ⟨⟨.inr (U.ew (ay.k)),aq,aq,trivial⟩,?_⟩
    refine fB [5,6] az rfl ⟨?_,?_,trivial⟩
    ·refine dW _ rfl rfl ab U rfl (eC (bV pJ rfl (fun w U=>pC _ _ (by first | assumption | rfl | (simp only [*];done)) (by first | assumption | rfl | (simp only [*];done)) (by first | assumption | omega | (simp;done) | (simp;omega) | (simp only [*];omega)) w (U.ext _ _ fW)) bP)) ?_
     rintro _ _ _ a w ⟨rfl,rfl,rfl⟩ ab U
     refine ⟨⟨aq,aq,aq,trivial⟩,?_⟩
     refine bY 6 rfl rfl ab U rfl (dg gO) ?_
     rintro _ _ _ a w ⟨mA,rfl,rfl,rfl⟩ ab U
     refine ⟨⟨aq,aq,aq,trivial⟩,?_⟩
     refine bY 7 rfl rfl ab U rfl (cJ gO 0 rfl rfl rfl rfl aI bM aI) ?_
     rintro _ _ _ a w ⟨rfl,rfl,rfl⟩ ab U
     (try dsimp only [hM] at U)
     replace U:=eU U
     refine ⟨⟨aq,aq,aq,trivial⟩,?_⟩
     exact ev az (lI oD mA (trivial) (ab.sub (L':=[(1,_),(4,_),(5,_)]) ⟨rfl,rfl,rfl,trivial⟩) U)
    ·refine dW _ rfl rfl ab U rfl (dg gO) ?_
     rintro _ _ _ a w ⟨mA,rfl,rfl,rfl⟩ ab U
     refine ⟨⟨.inr (U.ew (ay.k.n)),aq,aq,trivial⟩,?_⟩
     refine bY 5 rfl rfl ab U rfl (eC (bV pJ rfl (fun w U=>pC _ _ (by first | assumption | rfl | (simp only [*];done)) (by first | assumption | rfl | (simp only [*];done)) (by first | assumption | omega | (simp;done) | (simp;omega) | (simp only [*];omega)) w (U.ext _ _ fW)) bP)) ?_
     rintro _ _ _ a w ⟨rfl,rfl,rfl⟩ ab U
     refine ⟨⟨aq,aq,aq,trivial⟩,?_⟩
     refine bY 7 rfl rfl ab U rfl (cJ gO 0 rfl rfl rfl rfl aI bM aI) ?_
     rintro _ _ _ a w ⟨rfl,rfl,rfl⟩ ab U
     (try dsimp only [hM] at U)
     replace U:=eU U
     refine ⟨⟨aq,aq,aq,trivial⟩,?_⟩
     exact ev az (lI oD mA (trivial) (ab.sub (L':=[(1,_),(4,_),(5,_)]) ⟨rfl,rfl,rfl,trivial⟩) U)
   ·refine dW _ rfl rfl ab U rfl (dg gO) ?_
    rintro _ _ _ a w ⟨mA,rfl,rfl,rfl⟩ ab U
    refine ⟨⟨.inr (U.ew (ay.k.n)),aq,aq,trivial⟩,?_⟩
    refine bY 0 rfl rfl ab U rfl (eC (bV wD rfl (fun w U=>wj w ) bP)) ?_
    rintro _ _ _ a w ⟨rfl,rfl,rfl⟩ ab U
    refine ⟨⟨.inr (U.ew (ay.k.n)),aq,aq,trivial⟩,?_⟩
    refine bY 5 rfl rfl ab U rfl (eC (bV pJ rfl (fun w U=>pC _ _ (by first | assumption | rfl | (simp only [*];done)) (by first | assumption | rfl | (simp only [*];done)) (by first | assumption | omega | (simp;done) | (simp;omega) | (simp only [*];omega)) w (U.ext _ _ fW)) bP)) ?_
    rintro _ _ _ a w ⟨rfl,rfl,rfl⟩ ab U
    refine ⟨⟨aq,aq,aq,trivial⟩,?_⟩
    refine bY 7 rfl rfl ab U rfl (cJ gO 0 rfl rfl rfl rfl aI bM aI) ?_
    rintro _ _ _ a w ⟨rfl,rfl,rfl⟩ ab U
    (try dsimp only [hM] at U)
    replace U:=eU U
    refine ⟨⟨aq,aq,aq,trivial⟩,?_⟩
    exact ev az (lI oD mA (trivial) (ab.sub (L':=[(1,_),(4,_),(5,_)]) ⟨rfl,rfl,rfl,trivial⟩) U)
  ·refine dW _ rfl rfl ab U rfl (dg gO) ?_
   rintro _ _ _ a w ⟨mA,rfl,rfl,rfl⟩ ab U
   refine ⟨⟨.inr U.ax,.inr U.ax,trivial⟩,?_⟩
   refine fB [0,3] az rfl ⟨?_,?_,trivial⟩
   ·refine dW _ rfl rfl ab U rfl (eC (bV wD rfl (fun w U=>wj w ) bP)) ?_
    rintro _ _ _ a w ⟨rfl,rfl,rfl⟩ ab U
    refine ⟨⟨.inr U.ax,.inr U.ax,trivial⟩,?_⟩
    refine bY 3 rfl rfl ab U rfl (eu bX bI rfl rfl bM a8 rfl rfl) ?_
    rintro oD _ _ a w ⟨rfl,rfl⟩ ab U
    refine ⟨⟨aq,aq,trivial⟩,?_⟩
    refine aS 4 rfl ab (U.ao al (ay.k)) (nf (xs:=[_]) bX bB bI 0 rfl rfl) fun a ab=>bY 5 rfl rfl ab U rfl (eC (bV pJ rfl (fun w U=>pC _ _ (by first | assumption | rfl | (simp only [*];done)) (by first | assumption | rfl | (simp only [*];done)) (by first | assumption | omega | (simp;done) | (simp;omega) | (simp only [*];omega)) w (U.ext _ _ fW)) bP)) ?_
    rintro _ _ _ a w ⟨rfl,rfl,rfl⟩ ab U
    refine ⟨⟨aq,aq,aq,trivial⟩,?_⟩
    refine bY 7 rfl rfl ab U rfl (cJ gO 1 rfl rfl rfl rfl aI bM aI) ?_
    rintro _ _ _ a w ⟨rfl,rfl,rfl⟩ ab U
    (try dsimp only [hM] at U)
    replace U:=eU U
    refine ⟨⟨aq,aq,aq,trivial⟩,?_⟩
    exact ev az (lI oD mA (trivial) (ab.sub (L':=[(1,_),(4,_),(5,_)]) ⟨rfl,rfl,rfl,trivial⟩) (U.perm (.swap _ _ _)))
   ·refine dW _ rfl rfl ab U rfl (eu bX bI rfl rfl bM a8 rfl rfl) ?_
    rintro oD _ _ a w ⟨rfl,rfl⟩ ab U
    refine ⟨⟨aq,aq,trivial⟩,?_⟩
    refine aS 4 rfl ab (U.ao al (ay.k)) (nf (xs:=[_]) bX bB bI 0 rfl rfl) fun a ab=>bY 0 rfl rfl ab U rfl (eC (bV wD rfl (fun w U=>wj w ) bP)) ?_
    rintro _ _ _ a w ⟨rfl,rfl,rfl⟩ ab U
    refine ⟨⟨.inr (U.ew (ay.k)),aq,aq,trivial⟩,?_⟩
    refine bY 5 rfl rfl ab U rfl (eC (bV pJ rfl (fun w U=>pC _ _ (by first | assumption | rfl | (simp only [*];done)) (by first | assumption | rfl | (simp only [*];done)) (by first | assumption | omega | (simp;done) | (simp;omega) | (simp only [*];omega)) w (U.ext _ _ fW)) bP)) ?_
    rintro _ _ _ a w ⟨rfl,rfl,rfl⟩ ab U
    refine ⟨⟨aq,aq,aq,trivial⟩,?_⟩
    refine bY 7 rfl rfl ab U rfl (cJ gO 1 rfl rfl rfl rfl aI bM aI) ?_
    rintro _ _ _ a w ⟨rfl,rfl,rfl⟩ ab U
    (try dsimp only [hM] at U)
    replace U:=eU U
    refine ⟨⟨aq,aq,aq,trivial⟩,?_⟩
    exact ev az (lI oD mA (trivial) (ab.sub (L':=[(1,_),(4,_),(5,_)]) ⟨rfl,rfl,rfl,trivial⟩) (U.perm (.swap _ _ _)))
 rintro a w ⟨oD,mA, -,ab,U⟩
 (try dsimp only at ab U)
 refine bJ _ _<|ax fun dX cq=>aD ab U (ai rfl<|ae (ee cw aw rfl)<|ai rfl<|ah) fun a w ab U=>wp_block ?_
 obtain ⟨bG,a6,U⟩:=U.c1
 refine dy (γ:=Int) (0) (fun (i:Int)=>[(17,aA i)]) [(4,_),(5,_),(15,_),(16,_)] (fun (i:Int)=>(bG.set 0 (.blk mA 223 (r2 (aL.mI tag (ps.take i.toNat)))))) (fun (i:Int)=>0≤i∧i≤ps.length) (fun (i:Int)=>(ps.length-i).toNat) (ab.sub ⟨rfl,rfl,rfl,rfl,rfl,trivial⟩) (by subst a6;rw [← aL.aeC] at U;exact U) (by exact ⟨Int.le_refl _,by omega⟩) ?_
 rintro i a w bh ab U
 subst a6;(try dsimp only at bh ab U)
 obtain ⟨eL,kI⟩:=bh
 replace U:=eU U
 obtain ⟨Za,Zb⟩:=aL.P6 tag (ps.take i.toNat)
 refine aD ab U (ae (cU rfl rfl)<|ah) fun a w ab U=>ax fun eN cK=>cn ab rfl (fun aU=>?_) (fun aU=>?_)
 ·refine wp_skip<|cK _ _<|ax fun fa cT=>wp_block ?_
  refine ax fun fk cP=>bx ab U (ae (dV cw bB aw rfl rfl ag)<|ae (tA bB aw cM rfl rfl ag)<|av rfl<|ah) fun a w ab U=>?_
  have abn:=bO _ (aL.jm ps i.toNat ag)
  have c6:=aF.su (ps.getD i.toNat [])
  obtain ⟨alR,alU⟩:=aL.ur _ Za Zb (aF.bytes (ps.getD i.toNat []))
  have hlen:(r2 (aL.gj (aL.mI tag (ps.take i.toNat)) (aF.bytes (ps.getD i.toNat [])))).length=73:=by rw [aik];omega
  refine cP _ _ ?_
  revert U;revert ab;apply hL (J:=ki (α0:=Value) 32 _ _ _ _ _) #[false,false,false,false,false,false] 6 mixed rfl rfl
  ·intro w ab U
   refine aS 0 rfl ab (U.ao al (ay.k)) (gh gO 0 rfl rfl aI rfl) fun a ab=>aS 1 rfl ab (U.ao al ay) (bE rfl) fun a ab=>bY 2 rfl rfl ab U rfl (eT F8 rfl (fun w U=>J5 _ (by first | assumption | omega) w )) ?_
   rintro Tr _ _ a w ⟨_,_,rfl,rfl,rfl,rfl⟩ ab U
   refine ⟨⟨aq,.inr (U.ew (ay.k.n)),trivial⟩,?_⟩
   refine aS 3 rfl ab (U.ao al (ay.k)) (nf bX bB bI 0 rfl rfl) fun a ab=>bY 4 rfl rfl ab U rfl (eC (bV pJ rfl (fun w U=>pC _ _ (by first | assumption | rfl | (simp only [*];done)) (by first | assumption | rfl | (simp only [*];done)) (by first | assumption | omega | (simp;done) | (simp;omega) | (simp only [*];omega)) w (U.ext _ _ fW)) bP)) ?_
   rintro _ _ _ a w ⟨rfl,rfl,rfl⟩ ab U
   refine ⟨⟨aq,aq,aq,trivial⟩,?_⟩
   refine bY 5 rfl rfl ab U rfl (cJ gO 1 rfl rfl rfl rfl aI bM aI) ?_
   rintro _ _ _ a w ⟨rfl,rfl,rfl⟩ ab U
   (try dsimp only [hM] at U)
   replace U:=jt U
   refine ⟨⟨aq,aq,aq,trivial⟩,?_⟩
   exact ev az (l6 Tr (trivial) (ab.sub (L':=[(4,_),(5,_),(15,_),(16,_),(17,_)]) ⟨rfl,rfl,rfl,rfl,rfl,trivial⟩) U)
  rintro a w ⟨Tr, -,ab,U⟩
  (try dsimp only at ab U)
  refine cT _ _<|bx ab U (b5 rfl rfl<|ai rfl<|ah) fun a w ab U=>?_
  replace U:=U.ao ay (c2)
  refine ⟨(i+1),?_,?_,ab.sub ⟨rfl,rfl,rfl,rfl,rfl,trivial⟩,?_⟩
  ·(try dsimp only);omega
  ·(try dsimp only);omega
  ·rw [aL.aeF _ _ _ ag,show i.toNat+1=(i+1).toNat by omega] at U
   exact U
 ·obtain rfl:i=ps.length:=by omega
  rw [Int.toNat_natCast,List.take_length] at U
  obtain ⟨alN,alO⟩:=aL.P6 tag ps
  have alP:=aL.aeD tag ps bO hl
  have alQ:=aL.B4 (aL.mI tag ps)
  refine wp_exit<|cq _ _<|bc fun gB du=>aG ab U (ae (gh gO 0 rfl rfl aI rfl)<|ae (bV MI rfl (fun w U=>Sz _ (by first | assumption | (simp [*];done)) (by first | assumption | (simp [*];done)) (by first | assumption | omega) w (U.ext _ _ fW)) bP)<|ah) fun a w ab U=>aJ ab U rfl (dg iq) ?_
  rintro _ _ _ a w ⟨dD,rfl,rfl,rfl⟩ ab U
  rw [show List.replicate 32 (Value.int .u8 0)=(List.replicate 32 (0:UInt8)).map bn from by rw [List.map_replicate] <;> rfl] at U
  refine aJ ab U rfl (cJ iq 0 rfl rfl rfl rfl aI bM aI) ?_
  rintro _ _ _ a w ⟨rfl,rfl,rfl⟩ ab U
  replace U:=jt U
  refine wpList_nil (du _ _ ?_)
  refine bc fun hU ef=>aG ab U (ae (r0 iq bI rfl rfl ag)<|ae (IY di rfl ag)<|ae (afF di 0 rfl rfl aI rfl)<|ah) fun a w ab U=>aJ ab U rfl (cJ di 3 rfl rfl rfl rfl aI bM aI) ?_
  rintro _ _ _ a w ⟨rfl,rfl,rfl⟩ ab U
  replace U:=jt U
  refine wpList_nil (ef _ _ ?_)
  refine wp_ret<|b0 (rs:=[.cell 4 62]) rfl ab U (vs:=[_]) ⟨⟨_,_,_,_,_,_,_,rfl,List.mem_of_getElem? (i:=3) rfl,di,.inl ⟨rfl,aI,rfl⟩⟩,trivial⟩ ay ay (by unfold aL.ju;rfl)
end
section
theorem qn:b1 Tryz.prog 157:=b6 Tryz.func157
theorem qU(x:UInt32)(n:Int)(bD:0<n∧n<32)(w:World):cC Tryz.prog 157 [cI x,aA n] w (fun r _ _=>r=cI (aL.jy x (UInt32.ofNat n.toNat))):=by
 refine c4 Tryz.func157 rfl Tryz.ntmps157 b4 fun a ab U=>aD ab U (av rfl<|ah) fun a w ab U=>iE mixed az ab U (ai rfl<|ai rfl<|ae (tD rfl rfl ag)<|ai rfl<|ai rfl<|fy rfl rfl<|ae (xz rfl rfl ag)<|ae (xy rfl rfl)<|av rfl<|ah) fun a w ab U=>wp_ret ?_
 exact b0 (rs:=[.tmp 4]) rfl ab U (vs:=[_]) ⟨rfl,trivial⟩ ay ay (by rw [aL.ag8 x n bD])
theorem ahd(v:Value)(xs:List UInt8)(aM:xs.length<1099511627776)(w:World)(aw:bo hc (cf w) v xs):cC Tryz.prog 155 [v] w (fun r zs hs=>∃ z,bo hc z r (xs++aL.pad (dA xs.length))∧zs=[z]∧hs=[]):=by
 refine c4 Tryz.func155 rfl Tryz.ntmps155 b4 fun a ab U=>?_
 have bj:=aL.EH xs.length
 have aad:=aL.BL (8*dA xs.length)
 refine aD ab U (av rfl<|ah) fun a w ab U=>bc fun cG bJ=>aJ ab U rfl (sx bX bI) ?_
 rintro v1 _ _ a w ⟨rfl,rfl⟩ ab U
 replace U:=ft U
 refine aG ab U (ai rfl<|ah) fun a w ab U=>aJ ab U rfl (dH bX bI 0 rfl rfl rfl (D4 bX aw cM) aI rfl a8) ?_
 rintro v3 _ _ a w ⟨rfl,rfl⟩ ab U
 replace U:=ft U
 refine aG ab U (av rfl<|ah) fun a w ab U=>wpList_nil (bJ _ _ ?_)
 refine bc fun dX cq=>aG ab U (ai rfl<|ah) fun a w ab U=>aJ ab U rfl (eu bX bI rfl rfl bM a8 rfl rfl) ?_
 rintro v4 _ _ a w ⟨rfl,rfl⟩ ab U
 replace U:=e7 U
 refine aJ ab U rfl (dH bX bI 1 rfl rfl rfl (eo bX (k:=0) rfl bM) aI rfl a8) ?_
 rintro v6 _ _ a w ⟨rfl,rfl⟩ ab U
 replace U:=e7 U
 refine aG ab U (av rfl<|ah) fun a w ab U=>wpList_nil (cq _ _ ?_)
 refine ax fun et cB=>wp_block ?_
 obtain ⟨bG,a6,U⟩:=U.c1
 refine dy (γ:=Value×Nat) (v6,0) (fun (dr,j)=>[(3,dr)]) [(0,_)] (fun (dr,j)=>(bG.set 1 (.row dr 5 1 (xs.length+(1+j)) ((xs++128::List.replicate j (0:UInt8)).map bn)))) (fun (dr,j)=>j≤aL.hE xs.length) (fun (dr,j)=>aL.hE xs.length-j) (ab.sub ⟨rfl,rfl,trivial⟩) (by subst a6;simp at U;simp;exact U) (by exact Nat.zero_le _) ?_
 rintro ⟨dr,j⟩ a w bh ab U
 subst a6;(try dsimp only at bh ab U)
 have aV:=bh
 replace U:=e7 U
 refine ax fun dL b9=>aD ab U (ai rfl<|ae (hA bX 1 rfl rfl)<|ae (ni rfl rfl ag)<|ae (dS rfl rfl)<|ah) fun a w ab U=>e9 ab rfl (fun aU=>?_) (fun aU=>?_)
 ·have u1:j<aL.hE xs.length:=by
   have:=aL.Kh xs.length
   rcases Nat.lt_or_ge j (aL.hE xs.length) with h | h
   ·exact h
   ·obtain rfl:j=aL.hE xs.length:=by omega
    omega
  refine wp_skip<|b9 _ _<|wp_block ?_
  refine dM<|aG ab U (ai rfl<|ah) fun a w ab U=>aJ ab U rfl (eu bX bI rfl rfl bM a8 rfl rfl) ?_
  rintro ns _ _ a w ⟨rfl,rfl⟩ ab U
  replace U:=eU U
  refine aJ ab U rfl (dH bX bI 2 rfl rfl rfl (eo bX (k:=0) rfl bM) aI rfl a8) ?_
  rintro v9 _ _ a w ⟨rfl,rfl⟩ ab U
  replace U:=eU U
  refine aG ab U (av rfl<|ah) fun a w ab U=>wpList_nil ?_
  replace U:=U.ao ay (c2)
  refine ⟨(v9,j+1),?_,?_,ab.sub ⟨rfl,rfl,trivial⟩,?_⟩
  ·(try dsimp only);omega
  ·(try dsimp only);omega
  ·have e:(xs++128::List.replicate j (0:UInt8)).map bn++[Value.int .u8 0]=(xs++128::List.replicate (j+1) (0:UInt8)).map bn:=by rw [List.replicate_succ'];simp
   rw [e] at U
   exact U
 ·have Hu:=aL.T3 xs.length j aV ag
  subst Hu
  refine wp_exit<|cB _ _<|aD ab U (ai rfl<|ae (ee bX aw rfl)<|ae (An bH np rfl)<|ae (QT (p:=8) rfl rfl)<|av rfl<|ah) fun a w ab U=>ax fun fk cP=>aD ab U (av rfl<|ah) fun a w ab U=>?_
  refine wp_block ?_
  obtain ⟨bG,a6,U⟩:=U.c1
  refine dy (γ:=Value×Int) (dr,0) (fun (dr,i)=>[(3,dr),(5,aA i)]) [(4,_)] (fun (dr,i)=>(bG.set 1 (.row dr 5 1 (xs.length+(1+aL.hE xs.length)+i.toNat) ((xs++128::(List.replicate (aL.hE xs.length) (0:UInt8)++(aL.nA (8*dA xs.length)).take i.toNat)).map bn)))) (fun (dr,i)=>0≤i∧i≤8) (fun (dr,i)=>(8-i).toNat) (ab.sub ⟨rfl,rfl,rfl,trivial⟩) (by subst a6;simpa using U) (by simp) ?_
  rintro ⟨dr,i⟩ a w bh ab U
  subst a6;(try dsimp only at bh ab U)
  obtain ⟨eL,kI⟩:=bh
  replace U:=e7 U
  refine ax fun hU ef=>aD ab U (ai rfl<|ae (cU rfl rfl)<|ah) fun a w ab U=>cn ab rfl (fun bz=>?_) (fun bz=>?_)
  ·refine wp_skip<|ef _ _<|ax fun iZ eY=>wp_block ?_
   refine dM<|aG ab U (ai rfl<|ai rfl<|ai rfl<|ae (hK rfl rfl ag)<|fy rfl rfl<|ae (xA rfl rfl ag)<|ae (IQ np bI rfl)<|ah) fun a w ab U=>aJ ab U rfl (eu bX bI rfl rfl bM a8 rfl rfl) ?_
   rintro v10 _ _ a w ⟨rfl,rfl⟩ ab U
   replace U:=eU U
   refine aJ ab U rfl (dH bX bI 2 rfl rfl rfl (eo bX (k:=0) rfl bM) aI rfl a8) ?_
   rintro v12 _ _ a w ⟨rfl,rfl⟩ ab U
   replace U:=eU U
   refine aG ab U (av rfl<|ah) fun a w ab U=>wpList_nil (eY _ _ ?_)
   refine bx ab U (ai rfl<|b5 rfl rfl<|av rfl<|ah) fun a w ab U=>?_
   replace U:=U.ao ay (c2)
   refine ⟨(v12,i+1),?_,?_,ab.sub ⟨rfl,rfl,rfl,trivial⟩,?_⟩
   ·(try dsimp only);omega
   ·(try dsimp only);omega
   ·rw [aL.Lv (8*dA xs.length) i ⟨eL,by omega⟩] at U
    have e:(xs++128::(List.replicate (aL.hE xs.length) (0:UInt8)++(aL.nA (8*dA xs.length)).take i.toNat)).map bn++[bn (UInt8.ofNat ((8*dA xs.length).toNat/2^(56-8*i.toNat)))]=(xs++128::(List.replicate (aL.hE xs.length) (0:UInt8)++(aL.nA (8*dA xs.length)).take (i+1).toNat)).map bn:=by rw [show (i+1).toNat=i.toNat+1 by omega,aL.Ln _ _ ag];simp
    rw [e,show xs.length+(1+aL.hE xs.length)+i.toNat+1=xs.length+(1+aL.hE xs.length)+(i+1).toNat by omega] at U
    exact U
  ·obtain rfl:i=8:=by omega
   rw [show (8:Int).toNat=8 from rfl,List.take_of_length_le ag] at U
   have abu:(dA (xs.length:Int)).toNat=xs.length:=by have:=nb (xs.length:Int);omega
   have Oj:128::(List.replicate (aL.hE xs.length) (0:UInt8)++aL.nA (8*dA xs.length))=aL.pad (dA xs.length):=by unfold aL.pad;rw [abu]
   rw [Oj] at U
   refine wp_exit<|cP _ _<|aD ab U (ai rfl<|av rfl<|ah) fun a w ab U=>wp_ret ?_
   have ia:(xs++aL.pad (dA xs.length)).length=xs.length+(1+aL.hE xs.length)+8:=by rw [← Oj];simp [aL.BL];omega
   obtain ⟨z,C1,U⟩:=aB.Nk (U.perm (.swap _ _ _)) ia.symm ag
   exact b0 (rs:=[.tmp 2]) rfl ab U (vs:=[_]) ⟨rfl,trivial⟩ (zs':=[z]) (hs':=[]) al ay ⟨z,C1,rfl,rfl⟩
theorem ahq(v:Value)(bb:List UInt8)(hl:bb.length=64)(w:World)(aw:bo hc (cf w) v bb):cC Tryz.prog 156 [v] w (fun r _ _=>r=.agg ((aL.h3 bb 64).map cI).toArray):=by
 refine c4 Tryz.func156 rfl Tryz.ntmps156 b4 fun a ab U=>bc fun eJ c8=>aJ ab U rfl (dg hk) ?_
 rintro _ _ _ a w ⟨ck,rfl,rfl,rfl⟩ ab U
 rw [show List.replicate 64 (Value.int .u32 0)=(List.replicate 64 (0:UInt32)).map cI from by rw [List.map_replicate] <;> rfl] at U
 refine wpList_nil (c8 _ _ ?_)
 refine bc fun cG bJ=>aJ ab U rfl (dg hk) ?_
 rintro _ _ _ a w ⟨dD,rfl,rfl,rfl⟩ ab U
 rw [show List.replicate 64 (Value.int .u32 0)=(List.replicate 64 (0:UInt32)).map cI from by rw [List.map_replicate] <;> rfl] at U
 refine wpList_nil (bJ _ _ ?_)
 refine ax fun dX cq=>aD ab U (av rfl<|ah) fun a w ab U=>wp_block ?_
 obtain ⟨bG,a6,U⟩:=U.c1
 refine dy (γ:=Int) (0) (fun (t:Int)=>[(4,aA t)]) [(0,_),(2,_),(3,_)] (fun (t:Int)=>(bG.set 0 (.blk dD 239 ((aL.gz bb t.toNat).map cI)))) (fun (t:Int)=>0≤t∧t≤16) (fun (t:Int)=>(16-t).toNat) (ab.sub ⟨rfl,rfl,rfl,rfl,trivial⟩) (by subst a6;exact U) (by simp) ?_
 rintro t a w bh ab U
 subst a6;(try dsimp only at bh ab U)
 obtain ⟨CW,HQ⟩:=bh
 replace U:=e7 U
 have zQ:=aL.Jy bb t.toNat ag
 refine ax fun dL b9=>aD ab U (ai rfl<|ae (cU rfl rfl)<|ah) fun a w ab U=>cn ab rfl (fun aU=>?_) (fun aU=>?_)
 ·refine wp_skip<|b9 _ _<|ax fun fa cT=>wp_block ?_
  refine h2 35 mixed az ab U (ai rfl<|ai rfl<|ai rfl<|ae (hK rfl rfl ag)<|ae (dV bX bI aw rfl rfl ag)<|ae (nh bI aw cM rfl rfl ag)<|ae (Am bI cj rfl)<|ae (xz rfl rfl ag)<|ai rfl<|ai rfl<|ae (hK rfl rfl ag)<|b5 rfl rfl<|ae (dV bX bI aw rfl rfl ag)<|ae (nh bI aw cM rfl rfl ag)<|ae (Am bI cj rfl)<|ae (xz rfl rfl ag)<|ae (xy rfl rfl)<|ai rfl<|ai rfl<|ae (hK rfl rfl ag)<|b5 rfl rfl<|ae (dV bX bI aw rfl rfl ag)<|ae (nh bI aw cM rfl rfl ag)<|ae (Am bI cj rfl)<|ae (xz rfl rfl ag)<|ae (xy rfl rfl)<|ai rfl<|ai rfl<|ae (hK rfl rfl ag)<|b5 rfl rfl<|ae (dV bX bI aw rfl rfl ag)<|ae (nh bI aw cM rfl rfl ag)<|ae (Am bI cj rfl)<|ae (xy rfl rfl)<|ae (hR hk cj rfl rfl ag)<|ah) fun a w ab U=>aJ ab U rfl (rq cj 0 rfl rfl rfl aI rfl) ?_
  rintro _ _ _ a w ⟨rfl,rfl,rfl⟩ ab U
  replace U:=e7 U
  refine wpList_nil (cT _ _ ?_)
  refine bx ab U (ai rfl<|b5 rfl rfl<|av rfl<|ah) fun a w ab U=>⟨(t+1),?_,?_,ab.sub ⟨rfl,rfl,rfl,rfl,trivial⟩,?_⟩
  ·(try dsimp only);omega
  ·(try dsimp only);omega
  ·rw [aL.ajz bb t ag ag] at U
   exact U
 ·obtain rfl:t=16:=by omega
  clear zQ
  refine wp_exit<|cq _ _<|ax fun fk cP=>aD ab U (av rfl<|ah) fun a w ab U=>wp_block ?_
  obtain ⟨bG,a6,U⟩:=U.c1
  refine dy (γ:=Int) (16) (fun (t:Int)=>[(5,aA t)]) [(2,_),(3,_)] (fun (t:Int)=>(bG.set 0 (.blk dD 239 ((aL.gz bb t.toNat).map cI)))) (fun (t:Int)=>16≤t∧t≤64) (fun (t:Int)=>(64-t).toNat) (ab.sub ⟨rfl,rfl,rfl,trivial⟩) (by subst a6;exact U) (by simp) ?_
  rintro t a w bh ab U
  subst a6;(try dsimp only at bh ab U)
  obtain ⟨CW,HQ⟩:=bh
  replace U:=e7 U
  have zQ:=aL.Jy bb t.toNat ag
  refine ax fun hU ef=>aD ab U (ai rfl<|ae (cU rfl rfl)<|ah) fun a w ab U=>cn ab rfl (fun bz=>?_) (fun bz=>?_)
  ·refine wp_skip<|ef _ _<|ax fun iZ eY=>wp_block ?_
   refine iE mixed az ab U (ai rfl<|fy rfl rfl<|ae (hR hk cj rfl rfl ag)<|ae (kg cj 0 0 rfl rfl aI rfl)<|ae (bV qn rfl (fun w U=>qU _ _ ag w ) bP)<|ai rfl<|fy rfl rfl<|ae (hR hk cj rfl rfl ag)<|ae (kg cj 0 0 rfl rfl aI rfl)<|ae (bV qn rfl (fun w U=>qU _ _ ag w ) bP)<|ae (ku rfl rfl)<|ai rfl<|fy rfl rfl<|ae (hR hk cj rfl rfl ag)<|ae (kg cj 0 0 rfl rfl aI rfl)<|ae (tD rfl rfl ag)<|ae (ku rfl rfl)<|av rfl<|ah) fun a w ab U=>iE mixed az ab U (ai rfl<|fy rfl rfl<|ae (hR hk cj rfl rfl ag)<|ae (kg cj 0 0 rfl rfl aI rfl)<|ae (bV qn rfl (fun w U=>qU _ _ ag w ) bP)<|ai rfl<|fy rfl rfl<|ae (hR hk cj rfl rfl ag)<|ae (kg cj 0 0 rfl rfl aI rfl)<|ae (bV qn rfl (fun w U=>qU _ _ ag w ) bP)<|ae (ku rfl rfl)<|ai rfl<|fy rfl rfl<|ae (hR hk cj rfl rfl ag)<|ae (kg cj 0 0 rfl rfl aI rfl)<|ae (tD rfl rfl ag)<|ae (ku rfl rfl)<|av rfl<|ah) fun a w ab U=>h2 15 mixed az ab U (ai rfl<|ai rfl<|fy rfl rfl<|ae (hR hk cj rfl rfl ag)<|ae (kg cj 0 0 rfl rfl aI rfl)<|ai rfl<|ae (ij rfl rfl)<|ai rfl<|fy rfl rfl<|ae (hR hk cj rfl rfl ag)<|ae (kg cj 0 0 rfl rfl aI rfl)<|ae (ij rfl rfl)<|ai rfl<|ae (ij rfl rfl)<|ae (hR hk cj rfl rfl ag)<|ah) fun a w ab U=>aJ ab U rfl (rq cj 0 rfl rfl rfl aI rfl) ?_
   rintro _ _ _ a w ⟨rfl,rfl,rfl⟩ ab U
   replace U:=e7 U
   refine wpList_nil (eY _ _ ?_)
   refine bx ab U (ai rfl<|b5 rfl rfl<|av rfl<|ah) fun a w ab U=>⟨(t+1),?_,?_,ab.sub ⟨rfl,rfl,rfl,trivial⟩,?_⟩
   ·(try dsimp only);omega
   ·(try dsimp only);omega
   ·rw [aL.agN bb t ag ag] at U
    exact U
  ·obtain rfl:t=64:=by omega
   rw [show (64:Int).toNat=64 from rfl] at zQ
   rw [show (64:Int).toNat=64 from rfl,aL.Sk] at U
   have jh:=aL.mM bb 64
   refine wp_exit<|cP _ _<|bc fun j5 fC=>aG ab U (ae (gh hk 0 rfl rfl aI rfl)<|ah) fun a w ab U=>aJ ab U rfl (cJ hk 1 rfl rfl rfl rfl aI bM aI) ?_
   rintro _ _ _ a w ⟨rfl,rfl,rfl⟩ ab U
   replace U:=e7 U
   refine wpList_nil (fC _ _ ?_)
   refine wp_ret<|b0 (rs:=[.cell 2 239]) rfl ab U (vs:=[_]) ⟨⟨_,_,_,_,_,_,_,rfl,List.mem_of_getElem? (i:=1) rfl,hk,.inl ⟨rfl,aI,rfl⟩⟩,trivial⟩ ay ay (rfl)
end
section
theorem XG:b1 Tryz.prog 155:=b6 Tryz.func155
theorem XH:b1 Tryz.prog 156:=b6 Tryz.func156
theorem R7(v:Value)(xs:List UInt8)(aM:xs.length<1099511627776)(w:World)(aw:bo hc (cf w) v xs){ed:Nat×Nat}{eb:TypeId}(dF:w.heap[0]?=some (.cells (aL.eH.map cI).toArray eb ed)):cC Tryz.prog 123 [v] w (fun r _ _=>r=.agg ((aL.sum xs).map bn).toArray):=by
 refine c4 Tryz.func123 rfl Tryz.ntmps123 b4 fun a ab U=>?_
 have anA:∀ b,(aL.h3 b 64).length=64:=fun b=>aL.mM b 64
 have oW:aL.eH.length=64:=rfl
 have anf:=aL.ad4 xs ag
 have abm:=aL.Qn xs.length ag
 have pV:=aL.EH xs.length
 have s0:(xs++aL.pad (dA xs.length)).length=xs.length+(1+aL.hE xs.length+8):=by rw [List.length_append,abm]
 obtain ⟨q,ch⟩:∃ q,(xs++aL.pad (dA xs.length)).length=64*q:=⟨(xs++aL.pad (dA xs.length)).length/64,by omega⟩
 refine bc fun eJ c8=>aJ ab U rfl (dg iq) ?_
 rintro _ _ _ a w ⟨ck,rfl,rfl,rfl⟩ ab U
 rw [show List.replicate 32 (Value.int .u8 0)=(List.replicate 32 (0:UInt8)).map bn from by rw [List.map_replicate] <;> rfl] at U
 refine wpList_nil (c8 _ _ ?_)
 refine bc fun cG bJ=>aG ab U (ae (Aj hj cj rfl rfl bM rfl rfl)<|ah) fun a w ab U=>aJ ab U rfl (dg hj) ?_
 rintro _ _ _ a w ⟨dD,rfl,rfl,rfl⟩ ab U
 refine aJ ab U rfl (cJ hj 0 rfl rfl rfl rfl aI bM aI) ?_
 rintro _ _ _ a w ⟨rfl,rfl,rfl⟩ ab U
 replace U:=e7 U
 refine wpList_nil (bJ _ _ ?_)
 refine bc fun dX cq=>aG ab U (ai rfl<|ah) fun a w ab U=>aJ ab U rfl (eT XG rfl (fun w U=>ahd _ _ (by first | assumption | omega) w (bo.mono (U.le cM) aw))) ?_
 rintro v3 _ _ a w ⟨_,_,rfl,rfl,⟨z4,zT,rfl,rfl⟩⟩ ab U
 replace U:=lJ U
 refine aG ab U (av rfl<|ah) fun a w ab U=>wpList_nil (cq _ _ ?_)
 refine ax fun et cB=>aD ab U (av rfl<|ah) fun a w ab U=>wp_block ?_
 obtain ⟨bG,a6,U⟩:=U.c1
 refine dy (γ:=Nat) (0) (fun (i:Nat)=>[(5,aA (64*(i:Int)))]) [(2,_),(3,_),(4,_)] (fun (i:Nat)=>(bG.set 0 (.blk dD 221 ((aL.p4 (xs++aL.pad (dA xs.length)) i).map cI)))) (fun (i:Nat)=>i≤q) (fun (i:Nat)=>q-i) (ab.sub ⟨rfl,rfl,rfl,rfl,trivial⟩) (by subst a6;exact U) (by exact Nat.zero_le _) ?_
 rintro i a w bh ab U
 subst a6;(try dsimp only at bh ab U)
 have amC:=bh
 replace U:=lJ U
 have rL:=aL.Ja (xs++aL.pad (dA xs.length)) i
 obtain ⟨a0,fT,a2,a3,a4,a5,j7,j8,HE⟩:=aL.Ph rL
 rw [HE] at U
 refine ax fun eN cK=>aD ab U (ai rfl<|ai rfl<|ae (ee bX zT rfl)<|ae (cU rfl rfl)<|ah) fun a w ab U=>cn ab rfl (fun aU=>?_) (fun aU=>?_)
 ·refine wp_skip<|cK _ _<|ax fun fk cP=>wp_block ?_
  refine bc fun gB du=>aG ab U (ai rfl<|ai rfl<|ai rfl<|b5 rfl rfl<|ae (As bX bI zT rfl rfl rfl ag)<|ae (bV XH rfl (fun w U=>ahq _ _ (by rw [List.length_drop,List.length_take];omega) w (bo.mono (U.le (.inr (by simp))) (bo.cut zT ag))) bP)<|ah) fun a w ab U=>aJ ab U rfl (dg hk) ?_
  rintro _ _ _ a w ⟨Ll,rfl,rfl,rfl⟩ ab U
  rw [show List.replicate 64 (Value.int .u32 0)=(List.replicate 64 (0:UInt32)).map cI from by rw [List.map_replicate] <;> rfl] at U
  refine aJ ab U rfl (cJ hk 0 rfl rfl rfl rfl aI bM aI) ?_
  rintro _ _ _ a w ⟨rfl,rfl,rfl⟩ ab U
  replace U:=p0 U
  refine wpList_nil ?_
  rw [show (64*(i:Int)).toNat=64*i by omega,show (64*(i:Int)+64).toNat=64*i+64 by omega,show List.drop (64*i) (List.take (64*i+64) (xs++aL.pad (dA xs.length)))=aL.pF (xs++aL.pad (dA xs.length)) i from rfl] at U
  have jh:=aL.mM (aL.pF (xs++aL.pad (dA xs.length)) i) 64
  refine du _ _<|iE mixed az ab U (ae (gG hj cj rfl rfl ag)<|ae (bf cj 1 rfl rfl rfl rfl)<|ae (gG hj cj rfl rfl ag)<|ae (bf cj 1 rfl rfl rfl rfl)<|ae (gG hj cj rfl rfl ag)<|ae (bf cj 1 rfl rfl rfl rfl)<|ae (gG hj cj rfl rfl ag)<|ae (bf cj 1 rfl rfl rfl rfl)<|ae (gG hj cj rfl rfl ag)<|ae (bf cj 1 rfl rfl rfl rfl)<|ae (gG hj cj rfl rfl ag)<|ae (bf cj 1 rfl rfl rfl rfl)<|ae (gG hj cj rfl rfl ag)<|ae (bf cj 1 rfl rfl rfl rfl)<|ae (gG hj cj rfl rfl ag)<|ae (bf cj 1 rfl rfl rfl rfl)<|av rfl<|av rfl<|av rfl<|av rfl<|av rfl<|av rfl<|av rfl<|av rfl<|ah) fun a w ab U=>ax fun ho dK=>aD ab U (av rfl<|ah) fun a w ab U=>wp_block ?_
  obtain ⟨bG,a6,U⟩:=U.c1
  refine dy (γ:=UInt32×UInt32×UInt32×UInt32×UInt32×UInt32×UInt32×UInt32×Int) (a0,fT,a2,a3,a4,a5,j7,j8,0) (fun (hp,ha,h4,uB,e5,uG,h7,jq,t)=>[(7,cI hp),(8,cI ha),(9,cI h4),(10,cI uB),(11,cI e5),(12,cI uG),(13,cI h7),(14,cI jq),(15,aA t)]) [(2,_),(3,_),(4,_),(5,_),(6,_)] (fun (hp,ha,h4,uB,e5,uG,h7,jq,t)=>bG) (fun (hp,ha,h4,uB,e5,uG,h7,jq,t)=>0≤t∧t≤64∧aL.rounds (aL.h3 (aL.pF (xs++aL.pad (dA xs.length)) i) 64) (a0,fT,a2,a3,a4,a5,j7,j8) t.toNat=(hp,ha,h4,uB,e5,uG,h7,jq)) (fun (hp,ha,h4,uB,e5,uG,h7,jq,t)=>(64-t).toNat) (ab.sub ⟨rfl,rfl,rfl,rfl,rfl,rfl,rfl,rfl,rfl,rfl,rfl,rfl,rfl,rfl,trivial⟩) (by subst a6;exact U) (by exact ⟨Int.le_refl _,by omega,rfl⟩) ?_
  rintro ⟨hp,ha,h4,uB,e5,uG,h7,jq,t⟩ a w bh ab U
  subst a6;(try dsimp only at bh ab U)
  obtain ⟨CW,HQ,fD⟩:=bh
  replace U:=p0 U
  refine ax fun iR eO=>aD ab U (ai rfl<|ae (cU rfl rfl)<|ah) fun a w ab U=>cn ab rfl (fun bz=>?_) (fun bz=>?_)
  ·refine wp_skip<|eO _ _<|ax fun j5 fC=>wp_block ?_
   refine iE mixed az ab U (ai rfl<|ai rfl<|ae (bV qn rfl (fun w U=>qU _ _ ag w ) bP)<|ai rfl<|ae (bV qn rfl (fun w U=>qU _ _ ag w ) bP)<|ae (ku rfl rfl)<|ai rfl<|ae (bV qn rfl (fun w U=>qU _ _ ag w ) bP)<|ae (ku rfl rfl)<|ae (ij rfl rfl)<|ai rfl<|ai rfl<|ae (qO rfl rfl)<|ai rfl<|ae (ku (q:=4294967295) rfl rfl)<|ai rfl<|ae (qO rfl rfl)<|ae (ku rfl rfl)<|ae (ij rfl rfl)<|ai rfl<|ae (hR hk cj rfl rfl ag)<|ae (afH cj 0 rfl dF aI rfl)<|ae (ij rfl rfl)<|ai rfl<|ae (hR hk cj rfl rfl ag)<|ae (kg cj 0 0 rfl rfl aI rfl)<|ae (ij rfl rfl)<|av rfl<|ah) fun a w ab U=>aD ab U (ai rfl<|ae (bV qn rfl (fun w U=>qU _ _ ag w ) bP)<|ai rfl<|ae (bV qn rfl (fun w U=>qU _ _ ag w ) bP)<|ae (ku rfl rfl)<|ai rfl<|ae (bV qn rfl (fun w U=>qU _ _ ag w ) bP)<|ae (ku rfl rfl)<|ai rfl<|ai rfl<|ae (qO rfl rfl)<|ai rfl<|ai rfl<|ae (qO rfl rfl)<|ae (ku rfl rfl)<|ai rfl<|ai rfl<|ae (qO rfl rfl)<|ae (ku rfl rfl)<|ae (ij rfl rfl)<|av rfl<|ah) fun a w ab U=>aD ab U (ai rfl<|av rfl<|ah) fun a w ab U=>aD ab U (ai rfl<|av rfl<|ah) fun a w ab U=>aD ab U (ai rfl<|av rfl<|ah) fun a w ab U=>?_
   refine aD ab U (ai rfl<|ai rfl<|ae (ij rfl rfl)<|av rfl<|ah) fun a w ab U=>aD ab U (ai rfl<|av rfl<|ah) fun a w ab U=>aD ab U (ai rfl<|av rfl<|ah) fun a w ab U=>aD ab U (ai rfl<|av rfl<|ah) fun a w ab U=>bx ab U (ai rfl<|ai rfl<|ae (ij rfl rfl)<|av rfl<|ah) fun a w ab U=>?_
   refine fC _ _<|bx ab U (ai rfl<|b5 rfl rfl<|av rfl<|ah) fun a w ab U=>?_
   simp only [aL.ajP] at ab
   refine ⟨(_,_,_,_,_,_,_,_,t+1),?_,?_,ab.sub ⟨rfl,rfl,rfl,rfl,rfl,rfl,rfl,rfl,rfl,rfl,rfl,rfl,rfl,rfl,trivial⟩,?_⟩
   ·(try dsimp only);omega
   ·refine ⟨by omega,by omega,?_⟩
    rw [aL.rounds_succ _ _ t CW,fD]
    rfl
   ·exact U
  ·obtain rfl:t=64:=by omega
   rw [show (64:Int).toNat=64 from rfl] at fD
   refine wp_exit<|dK _ _<|dM ?_
   refine aG ab U (ae (gG hj cj rfl rfl ag)<|ae (bf cj 1 rfl rfl rfl rfl)<|ai rfl<|ae (ij rfl rfl)<|ae (gG hj cj rfl rfl ag)<|ae (bf cj 1 rfl rfl rfl rfl)<|ai rfl<|ae (ij rfl rfl)<|ae (gG hj cj rfl rfl ag)<|ae (bf cj 1 rfl rfl rfl rfl)<|ai rfl<|ae (ij rfl rfl)<|ae (gG hj cj rfl rfl ag)<|ae (bf cj 1 rfl rfl rfl rfl)<|ai rfl<|ae (ij rfl rfl)<|ae (gG hj cj rfl rfl ag)<|ae (bf cj 1 rfl rfl rfl rfl)<|ai rfl<|ae (ij rfl rfl)<|ae (gG hj cj rfl rfl ag)<|ae (bf cj 1 rfl rfl rfl rfl)<|ai rfl<|ae (ij rfl rfl)<|ae (gG hj cj rfl rfl ag)<|ae (bf cj 1 rfl rfl rfl rfl)<|ai rfl<|ae (ij rfl rfl)<|ae (gG hj cj rfl rfl ag)<|ae (bf cj 1 rfl rfl rfl rfl)<|ai rfl<|ae (ij rfl rfl)<|ae (Aj hj cj rfl rfl bM rfl rfl)<|ah) fun a w ab U=>aJ ab U rfl (cJ hj 1 rfl rfl rfl rfl aI bM aI) ?_
   rintro _ _ _ a w ⟨rfl,rfl,rfl⟩ ab U
   replace U:=p0 U
   refine wpList_nil (cP _ _ ?_)
   refine bx ab U (ai rfl<|b5 rfl rfl<|av rfl<|ah) fun a w ab U=>?_
   rw [show (64*(i:Int)+64)=64*((i+1:Nat):Int) by omega] at ab
   replace U:=U.ao al (c2)
   refine ⟨(i+1),?_,?_,ab.sub ⟨rfl,rfl,rfl,rfl,trivial⟩,?_⟩
   ·(try dsimp only);omega
   ·(try dsimp only);omega
   ·have e:aL.p4 (xs++aL.pad (dA xs.length)) (i+1)=[a0+hp,fT+ha,a2+h4,a3+uB,a4+e5,a5+uG,j7+h7,j8+jq]:=by
     show aL.comp (aL.p4 (xs++aL.pad (dA xs.length)) i) (aL.pF (xs++aL.pad (dA xs.length)) i)=_
     rw [HE]
     show List.zipWith (· + ·) [a0,fT,a2,a3,a4,a5,j7,j8] (aL.Db (aL.rounds (aL.h3 (aL.pF (xs++aL.pad (dA xs.length)) i) 64) (a0,fT,a2,a3,a4,a5,j7,j8) 64))=_
     rw [fD]
     rfl
    rw [e]
    exact U
 ·obtain rfl:i=q:=by omega
  rw [← HE] at U
  have cF:=aL.aip xs ag i ch
  refine wp_exit<|cB _ _<|bc fun Bs rA=>aJ ab U rfl (dg iq) ?_
  rintro _ _ _ a w ⟨BG,rfl,rfl,rfl⟩ ab U
  rw [show List.replicate 32 (Value.int .u8 0)=(List.replicate 32 (0:UInt8)).map bn from by rw [List.map_replicate] <;> rfl] at U
  refine wpList_nil (rA _ _ ?_)
  refine ax fun EO uM=>aD ab U (av rfl<|ah) fun a w ab U=>wp_block ?_
  obtain ⟨bG,a6,U⟩:=U.c1
  refine dy (γ:=Int) (0) (fun (j:Int)=>[(19,aA j)]) [(2,_),(3,_),(18,_)] (fun (j:Int)=>(bG.set 0 (.blk BG 182 ((aL.p1 (aL.p4 (xs++aL.pad (dA xs.length)) i) j.toNat).map bn)))) (fun (j:Int)=>0≤j∧j≤32) (fun (j:Int)=>(32-j).toNat) (ab.sub ⟨rfl,rfl,rfl,rfl,trivial⟩) (by subst a6;exact U) (by simp) ?_
  rintro j a w bh ab U
  subst a6;(try dsimp only at bh ab U)
  obtain ⟨sX,qv⟩:=bh
  replace U:=p0 U
  have CP:=aL.Qg (aL.p4 (xs++aL.pad (dA xs.length)) i) j.toNat
  have anw:=aL.Ja (xs++aL.pad (dA xs.length)) i
  refine ax fun Ko za=>aD ab U (ai rfl<|ae (cU rfl rfl)<|ah) fun a w ab U=>cn ab rfl (fun cl=>?_) (fun cl=>?_)
  ·refine wp_skip<|za _ _<|ax fun Kp wN=>wp_block ?_
   refine dM<|aG ab U (ai rfl<|ai rfl<|ae (ox rfl rfl ag)<|ae (hR hj cj rfl rfl ag)<|ae (kg cj 1 0 rfl rfl aI rfl)<|ai rfl<|ae (ni rfl rfl ag)<|ae (hK rfl rfl ag)<|fy rfl rfl<|ae (tD rfl rfl ag)<|ae (QH cj bI rfl)<|ae (hR iq bI rfl rfl ag)<|ah) fun a w ab U=>aJ ab U rfl (rq bI 0 rfl rfl rfl aI rfl) ?_
   rintro _ _ _ a w ⟨rfl,rfl,rfl⟩ ab U
   replace U:=p0 U
   refine wpList_nil (wN _ _ ?_)
   refine bx ab U (ai rfl<|b5 rfl rfl<|av rfl<|ah) fun a w ab U=>⟨(j+1),?_,?_,ab.sub ⟨rfl,rfl,rfl,rfl,trivial⟩,?_⟩
   ·(try dsimp only);omega
   ·(try dsimp only);omega
   ·rw [aL.Lw _ j ⟨sX,by omega⟩,aL.Qh _ _ ag,show j.toNat+1=(j+1).toNat by omega] at U
    exact U
  ·obtain rfl:j=32:=by omega
   rw [show (32:Int).toNat=32 from rfl,aL.Qf,← cF] at U
   have zF:=aL.pb xs
   refine wp_exit<|uM _ _<|bc fun Uc GR=>aG ab U (ae (gh iq 0 rfl rfl aI rfl)<|ah) fun a w ab U=>aJ ab U rfl (cJ iq 2 rfl rfl rfl rfl aI bM aI) ?_
   rintro _ _ _ a w ⟨rfl,rfl,rfl⟩ ab U
   replace U:=p0 U
   refine wpList_nil (GR _ _ ?_)
   refine wp_ret<|b0 (rs:=[.cell 2 182]) rfl ab U (vs:=[_]) ⟨⟨_,_,_,_,_,_,_,rfl,List.mem_of_getElem? (i:=2) rfl,iq,.inl ⟨rfl,aI,rfl⟩⟩,trivial⟩ ay ay (rfl)
end
section
theorem Jj(xs:List UInt8)(aM:xs.length=16)(w:World):cC Tryz.prog 120 [.agg (xs.map bn).toArray] w (fun r _ _=>r=vs xs):=by
 refine c4 Tryz.func120 rfl Tryz.ntmps120 b4 fun a ab U=>bc fun eJ c8=>aJ ab U rfl (jV rfl) ?_
 rintro _ _ _ a w ⟨ck,rfl,rfl,rfl⟩ ab U
 refine aG ab U (av rfl<|ah) fun a w ab U=>wpList_nil (c8 _ _ ?_)
 refine ax fun cG bJ=>bx ab U (av rfl<|ah) fun a w ab U=>?_
 replace U:=U.iC 5 1
 refine bJ _ _<|ax fun dX cq=>aD ab U (av rfl<|ah) fun a w ab U=>wp_block ?_
 obtain ⟨bG,a6,U⟩:=U.c1
 refine dy (γ:=Value×Int) ((Value.slice none 0 0),0) (fun (v,i)=>[(3,v),(4,aA i)]) [(1,_)] (fun (v,i)=>(bG.set 0 (.row v 5 1 i.toNat ((xs.take i.toNat).map bn)))) (fun (v,i)=>0≤i∧i≤16) (fun (v,i)=>(16-i).toNat) (ab.sub ⟨rfl,rfl,rfl,trivial⟩) (by subst a6;exact U) (by simp) ?_
 rintro ⟨v,i⟩ a w bh ab U
 subst a6;(try dsimp only at bh ab U)
 obtain ⟨eL,kI⟩:=bh
 replace U:=e7 U
 refine ax fun dL b9=>aD ab U (ai rfl<|ae (cU rfl rfl)<|ah) fun a w ab U=>cn ab rfl (fun aU=>?_) (fun aU=>?_)
 ·refine wp_skip<|b9 _ _<|ax fun fa cT=>wp_block ?_
  refine dM<|aG ab U (ai rfl<|ai rfl<|ae (hR di bI rfl rfl ag)<|ae (kg bI 1 0 rfl rfl aI rfl)<|ah) fun a w ab U=>aJ ab U rfl (eu bX bI rfl rfl bM a8 rfl rfl) ?_
  rintro v3 _ _ a w ⟨rfl,rfl⟩ ab U
  replace U:=eU U
  refine aJ ab U rfl (dH bX bI 1 rfl rfl rfl (eo bX (k:=0) rfl bM) aI rfl a8) ?_
  rintro v5 _ _ a w ⟨rfl,rfl⟩ ab U
  replace U:=eU U
  refine aG ab U (av rfl<|ah) fun a w ab U=>wpList_nil (cT _ _ ?_)
  refine bx ab U (ai rfl<|b5 rfl rfl<|av rfl<|ah) fun a w ab U=>?_
  replace U:=U.ao ay (c2)
  refine ⟨(v5,i+1),?_,?_,ab.sub ⟨rfl,rfl,rfl,trivial⟩,?_⟩
  ·(try dsimp only);omega
  ·(try dsimp only);omega
  ·have e:(xs.take i.toNat).map bn++[bn (xs.getD i.toNat 0)]=(xs.take (i+1).toNat).map bn:=by rw [show (i+1).toNat=i.toNat+1 by omega,List.take_add_one,List.getElem?_eq_getElem ag,List.map_append,List.getD_eq_getElem?_getD,List.getElem?_eq_getElem ag];rfl
   rw [e,show i.toNat+1=(i+1).toNat by omega] at U
   exact U
 ·obtain rfl:i=16:=by omega
  rw [show (16:Int).toNat=16 from rfl,List.take_of_length_le ag] at U
  refine wp_exit<|cq _ _<|aD ab U (ai rfl<|ae (nf bX bB bI 0 rfl rfl)<|av rfl<|ah) fun a w ab U=>wp_ret ?_
  exact b0 (rs:=[.tmp 2]) rfl ab U (vs:=[_]) ⟨rfl,trivial⟩ ay ay (rfl)
end
section
attribute [local irreducible] aL.sum aL.keyOf aL.Ae aL.qG
end
section
attribute [local irreducible] aL.sum aL.keyOf aL.Ae aL.qG
end
section
theorem MC:b1 Tryz.prog 123:=b6 Tryz.func123
attribute [local irreducible] aL.sum aL.oJ
theorem ahi(v:Value)(xs:List UInt8)(aM:xs.length<1099511627776)(w:World)(aw:bo hc (cf w) v xs){ed:Nat×Nat}{eb:TypeId}(dF:w.heap[0]?=some (.cells (aL.eH.map cI).toArray eb ed)):cC Tryz.prog 79 [v] w (fun r _ _=>r=.agg (((aL.sum xs).take 16).map bn).toArray):=by
 refine c4 Tryz.func79 rfl Tryz.ntmps79 b4 fun a ab U=>?_
 have jh:=aL.pb xs
 refine bc fun eJ c8=>aJ ab U rfl (dg di) ?_
 rintro _ _ _ a w ⟨ck,rfl,rfl,rfl⟩ ab U
 rw [show List.replicate 16 (Value.int .u8 0)=(List.replicate 16 (0:UInt8)).map bn from by rw [List.map_replicate] <;> rfl] at U
 refine wpList_nil (c8 _ _ ?_)
 refine bc fun cG bJ=>aG ab U (ai rfl<|ae (bV MC rfl (fun w U=>R7 _ _ (by first | assumption | omega) w (bo.mono (U.le cM) aw) (U.ext _ _ dF)) bP)<|ah) fun a w ab U=>aJ ab U rfl (dg iq) ?_
 rintro _ _ _ a w ⟨dD,rfl,rfl,rfl⟩ ab U
 rw [show List.replicate 32 (Value.int .u8 0)=(List.replicate 32 (0:UInt8)).map bn from by rw [List.map_replicate] <;> rfl] at U
 refine aJ ab U rfl (cJ iq 0 rfl rfl rfl rfl aI bM aI) ?_
 rintro _ _ _ a w ⟨rfl,rfl,rfl⟩ ab U
 replace U:=e7 U
 refine wpList_nil (bJ _ _ ?_)
 refine bc fun dX cq=>aG ab U (ae (qP rfl (vF di bI (cells:=List.replicate 16 (Value.int .u8 0)) rfl))<|ah) fun a w ab U=>aJ ab U rfl (dg di) ?_
 rintro _ _ _ a w ⟨k1,rfl,rfl,rfl⟩ ab U
 rw [show List.replicate 16 (Value.int .u8 0)=(List.replicate 16 (0:UInt8)).map bn from by rw [List.map_replicate] <;> rfl] at U
 refine aJ ab U rfl (cJ di 0 rfl rfl rfl rfl aI bM aI) ?_
 rintro _ _ _ a w ⟨rfl,rfl,rfl⟩ ab U
 replace U:=eU U
 refine wpList_nil (cq _ _ ?_)
 refine ax fun et cB=>aD ab U (av rfl<|ah) fun a w ab U=>wp_block ?_
 obtain ⟨bG,a6,U⟩:=U.c1
 refine dy (γ:=Int) (0) (fun (i:Int)=>[(5,aA i)]) [(2,_),(3,_),(4,_)] (fun (i:Int)=>(bG.set 0 (.blk k1 62 ((aL.oJ (aL.sum xs) 16 i.toNat).map bn)))) (fun (i:Int)=>0≤i∧i≤16) (fun (i:Int)=>(16-i).toNat) (ab.sub ⟨rfl,rfl,rfl,rfl,trivial⟩) (by subst a6;have e:(aL.oJ (aL.sum xs) 16 (0:Int).toNat).map bn=List.replicate 16 (Value.int .u8 0):=(congrArg (List.map bn) (aL.V7 (aL.sum xs) 16)).trans (by rw [List.map_replicate];rfl);rw [← e] at U;exact U) (by simp) ?_
 rintro i a w bh ab U
 subst a6;(try dsimp only at bh ab U)
 obtain ⟨eL,kI⟩:=bh
 replace U:=eU U
 have fE:=aL.V8 (aL.sum xs) 16 i.toNat ag ag
 refine ax fun eN cK=>aD ab U (ai rfl<|ae (cU rfl rfl)<|ah) fun a w ab U=>cn ab rfl (fun aU=>?_) (fun aU=>?_)
 ·refine wp_skip<|cK _ _<|ax fun fk cP=>wp_block ?_
  refine dM<|aG ab U (ai rfl<|ai rfl<|ae (hR iq bI rfl rfl ag)<|ae (kg bI 1 0 rfl rfl aI rfl)<|ae (hR di bI rfl rfl ag)<|ah) fun a w ab U=>aJ ab U rfl (rq bI 0 rfl rfl rfl aI rfl) ?_
  rintro _ _ _ a w ⟨rfl,rfl,rfl⟩ ab U
  replace U:=eU U
  refine wpList_nil (cP _ _ ?_)
  refine bx ab U (ai rfl<|b5 rfl rfl<|av rfl<|ah) fun a w ab U=>⟨(i+1),?_,?_,ab.sub ⟨rfl,rfl,rfl,rfl,trivial⟩,?_⟩
  ·(try dsimp only);omega
  ·(try dsimp only);omega
  ·rw [aL.V9 _ _ _ ag ag,show i.toNat+1=(i+1).toNat by omega] at U
   exact U
 ·obtain rfl:i=16:=by omega
  rw [show (16:Int).toNat=16 from rfl] at fE
  rw [show (16:Int).toNat=16 from rfl,aL.LF] at U
  rw [aL.LF] at fE
  refine wp_exit<|cB _ _<|bc fun gB du=>aG ab U (ae (gh di 0 rfl rfl aI rfl)<|ah) fun a w ab U=>aJ ab U rfl (cJ di 2 rfl rfl rfl rfl aI bM aI) ?_
  rintro _ _ _ a w ⟨rfl,rfl,rfl⟩ ab U
  replace U:=eU U
  refine wpList_nil (du _ _ ?_)
  refine wp_ret<|b0 (rs:=[.cell 2 62]) rfl ab U (vs:=[_]) ⟨⟨_,_,_,_,_,_,_,rfl,List.mem_of_getElem? (i:=2) rfl,di,.inl ⟨rfl,aI,rfl⟩⟩,trivial⟩ ay ay (rfl)
end
section
theorem DU(n:Int)(bD : -9223372036854775808≤n∧n≤9223372036854775807)(w:World):cC Tryz.prog 54 [aA n] w (fun v zs hs=>zs=[]∧hs=[.row v 5 1 (aF.int n).length ((aF.int n).map bn)]):=by
 refine c4 Tryz.func54 rfl Tryz.ntmps54 b4 fun a ab U=>?_
 have u9:=aF.Il n bD
 have anj:=aF.Ab (aF.ei n)
 refine aD ab U (av rfl<|ah) fun a w ab U=>aD ab U (ai rfl<|av rfl<|ah) fun a w ab U=>?_
 obtain ⟨bG,a6,U⟩:=U.c1
 refine mn (γ:=Int) (fun (m:Int)=>[(3,aA m)]) [(0,_)] (fun (m:Int)=>bG) (fun (m:Int)=>m=((aF.ei n).toNat:Int)) (ab.sub ⟨rfl,trivial⟩) U ?_ ?_
 ·subst a6
  refine aD ab U (ai rfl<|ae (cU rfl rfl)<|ah) fun a w ab U=>cn ab rfl (fun aU=>?_) (fun aU=>?_)
  ·refine bx ab U (ai rfl<|fy rfl rfl<|av rfl<|ah) fun a w ab U=>⟨(-1-n),?_,ab.sub ⟨rfl,rfl,trivial⟩,?_⟩
   ·rw [u9];unfold aF.rQ;rw [if_pos aU]
   ·exact U
  ·refine wp_skip<|⟨(n),?_,ab.sub ⟨rfl,rfl,trivial⟩,?_⟩
   ·rw [u9];unfold aF.rQ;rw [if_neg aU]
   ·exact U
 rintro m a w bh ab U
 subst a6;(try dsimp only at bh ab U)
 have hm:=bh
 replace U:=ic U
 refine ax fun et cB=>bx ab U (av rfl<|ah) fun a w ab U=>?_
 replace U:=U.iC 5 1
 refine cB _ _<|ax fun dL b9=>wp_block ?_
 obtain ⟨bG,a6,U⟩:=U.c1
 refine dy (γ:=Value×Int×Nat) ((Value.slice none 0 0),m,0) (fun (v,m,j)=>[(4,v),(3,aA m)]) [(0,_)] (fun (v,m,j)=>(bG.set 0 (.row v 5 1 j ((aF.oK (aF.ei n).toNat j).map bn)))) (fun (v,m,j)=>m=(((aF.ei n).toNat/2^(8*j):Nat):Int)∧(∀ i,i<j→0<(aF.ei n).toNat/2^(8*i))) (fun (v,m,j)=>m.toNat) (ab.sub ⟨rfl,rfl,rfl,trivial⟩) (by subst a6;exact U) (by exact ⟨by rw [hm];simp,fun i h=>absurd h (Nat.not_lt_zero _)⟩) ?_
 rintro ⟨v,m,j⟩ a w bh ab U
 subst a6;(try dsimp only at bh ab U)
 obtain ⟨hm,aV⟩:=bh
 replace U:=ft U
 have CK:=aF.ael _ _ aV
 have aaw:=aF.Wm (aF.ei n).toNat (2^(8*j))
 rw [← hm] at aaw
 have ang:0≤m∧m≤9223372036854775807:=by
  have u6:0≤m:=by rw [hm];exact Int.natCast_nonneg _
  unfold aF.rQ at u9
  split at u9 <;> exact ⟨u6,by omega⟩
 refine ax fun eN cK=>aD ab U (ai rfl<|ae (fc rfl rfl)<|ah) fun a w ab U=>cn ab rfl (fun bz=>?_) (fun bz=>?_)
 ·refine wp_skip<|cK _ _<|wp_block ?_
  refine bc fun fk cP=>aG ab U (ai rfl<|ai rfl<|ae (ni rfl rfl ag)<|ae (rX bH bI rfl)<|ah) fun a w ab U=>aJ ab U rfl (eu bX bI rfl rfl bM a8 rfl rfl) ?_
  rintro v2 _ _ a w ⟨rfl,rfl⟩ ab U
  replace U:=e7 U
  refine aJ ab U rfl (dH bX bI 1 rfl rfl rfl (eo bX (k:=0) rfl bM) aI rfl a8) ?_
  rintro v4 _ _ a w ⟨rfl,rfl⟩ ab U
  replace U:=e7 U
  refine aG ab U (av rfl<|ah) fun a w ab U=>wpList_nil (cP _ _ ?_)
  refine bx ab U (ai rfl<|ae (ox rfl rfl ag)<|av rfl<|ah) fun a w ab U=>?_
  replace U:=U.ao ay (c2)
  refine ⟨(v4,m/256,j+1),?_,?_,ab.sub ⟨rfl,rfl,rfl,trivial⟩,?_⟩
  ·(try dsimp only);omega
  ·refine ⟨aF.Wo _ _ _ hm,fun i aH=>?_⟩
   rcases Nat.lt_or_ge i j with h | h
   ·exact aV i h
   ·obtain rfl:i=j:=by omega
    omega
  ·have e:(aF.oK (aF.ei n).toNat j).map bn++[bn (hI (m%256))]=(aF.oK (aF.ei n).toNat (j+1)).map bn:=by rw [← aF.Wh _ _ _ hm,List.map_append];rfl
   rw [e] at U
   exact U
 ·have aE:=aF.PZ (aF.ei n) j ag aV
  obtain ⟨k,aaY⟩:∃ k,k=j:=⟨_,rfl⟩
  subst aaY
  refine wp_exit<|b9 _ _<|aD ab U (ai rfl<|ae (hA bX 0 rfl rfl)<|av rfl<|ah) fun a w ab U=>ax fun hU ef=>bx ab U (av rfl<|ah) fun a w ab U=>?_
  replace U:=U.iC 5 1
  refine ef _ _ ?_
  obtain ⟨bG,a6,U⟩:=U.c1
  refine mn (γ:=Value) (fun (u:Value)=>[(6,u)]) [(0,_),(4,_),(5,_)] (fun (u:Value)=>(bG.set 0 (.row u 5 1 1 [bn (UInt8.ofNat (128+k) ^^^ aF.gD n)]))) (fun (u:Value)=>True) (ab.sub ⟨rfl,rfl,rfl,trivial⟩) U ?_ ?_
  ·subst a6
   refine aD ab U (ai rfl<|ae (ke rfl rfl)<|ah) fun a w ab U=>cn ab rfl (fun cl=>?_) (fun cl=>?_)
   ·refine dM<|aG ab U (ai rfl<|ai rfl<|b5 rfl rfl<|ae (rX bH bI rfl)<|ah) fun a w ab U=>aJ ab U rfl (eu bX bI rfl rfl bM a8 rfl rfl) ?_
    rintro v6 _ _ a w ⟨rfl,rfl⟩ ab U
    replace U:=eU U
    refine aJ ab U rfl (dH bX bI 1 rfl rfl rfl (eo bX (k:=0) rfl bM) aI rfl a8) ?_
    rintro vO _ _ a w ⟨rfl,rfl⟩ ab U
    replace U:=eU U
    refine aG ab U (av rfl<|ah) fun a w ab U=>wpList_nil ?_
    replace U:=(U.perm (.swap _ _ _)).perm hN
    replace U:=U.ao ay (ay.k.k)
    refine ⟨(vO),?_,ab.sub ⟨rfl,rfl,rfl,rfl,trivial⟩,?_⟩
    ·trivial
    ·rw [show (128:Int)+(k:Int)=((128+k:Nat):Int) by omega,aF.Dv] at U
     unfold aF.gD
     rw [if_neg ag,UInt8.xor_zero]
     exact U
   ·refine dM<|aG ab U (ai rfl<|ai rfl<|fy rfl rfl<|ae (rX bH bI rfl)<|ah) fun a w ab U=>aJ ab U rfl (eu bX bI rfl rfl bM a8 rfl rfl) ?_
    rintro v9 _ _ a w ⟨rfl,rfl⟩ ab U
    replace U:=eU U
    refine aJ ab U rfl (dH bX bI 1 rfl rfl rfl (eo bX (k:=0) rfl bM) aI rfl a8) ?_
    rintro v11 _ _ a w ⟨rfl,rfl⟩ ab U
    replace U:=eU U
    refine aG ab U (av rfl<|ah) fun a w ab U=>wpList_nil ?_
    replace U:=(U.perm (.swap _ _ _)).perm hN
    replace U:=U.ao ay (ay.k.k)
    refine ⟨(v11),?_,ab.sub ⟨rfl,rfl,rfl,rfl,trivial⟩,?_⟩
    ·trivial
    ·rw [aF.aaE k ag] at U
     unfold aF.gD
     rw [if_pos ag]
     exact U
  rintro u a w bh ab U
  subst a6;(try dsimp only at bh ab U)
  obtain - := bh
  replace U:=e7 U
  refine ax fun iZ eY=>aD ab U (ai rfl<|fy rfl rfl<|av rfl<|ah) fun a w ab U=>wp_block ?_
  obtain ⟨bG,a6,U⟩:=U.c1
  refine dy (γ:=Value×Nat) (u,k) (fun (u,i)=>[(6,u),(7,aA ((i:Int)-1))]) [(0,_),(4,_)] (fun (u,i)=>(bG.set 0 (.row u 5 1 (1+(k-i)) (((UInt8.ofNat (128+k) ^^^ aF.gD n)::aF.hH (aF.ei n) (aF.gD n) k i).map bn)))) (fun (u,i)=>i≤k) (fun (u,i)=>i) (ab.sub ⟨rfl,rfl,rfl,rfl,trivial⟩) (by subst a6;simpa [aF.hH] using U) (by exact Nat.le_refl _) ?_
  rintro ⟨u,i⟩ a w bh ab U
  subst a6;(try dsimp only at bh ab U)
  have sV:=bh
  replace U:=e7 U
  have sS:=aF.LI (aF.ei n).toNat k
  refine ax fun kY gF=>aD ab U (ai rfl<|ae (ke rfl rfl)<|ah) fun a w ab U=>cn ab rfl (fun dI=>?_) (fun dI=>?_)
  ·refine wp_skip<|gF _ _<|ax fun mw hz=>wp_block ?_
   refine aD ab U (ai rfl<|ai rfl<|ae (fY bX bI 1 rfl rfl rfl ag)<|ae (ma bI 1 (0:UInt8) rfl rfl aI rfl)<|av rfl<|ah) fun a w ab U=>?_
   obtain ⟨bG,a6,U⟩:=U.c1
   refine mn (γ:=UInt8) (fun (d:UInt8)=>[(8,bn d)]) [(0,_),(4,_),(6,_),(7,_)] (fun (d:UInt8)=>bG) (fun (d:UInt8)=>d=aF.digit (aF.ei n) (aF.gD n) (i-1)) (ab.sub ⟨rfl,rfl,rfl,rfl,trivial⟩) U ?_ ?_
   ·subst a6
    refine aD ab U (ai rfl<|ae (cU rfl rfl)<|ah) fun a w ab U=>cn ab rfl (fun dE=>?_) (fun dE=>?_)
    ·refine bx ab U (ai rfl<|ae (agb (p:=255) rfl rfl)<|av rfl<|ah) fun a w ab U=>⟨(255-(aF.oK (aF.ei n).toNat k).getD ((i:Int)-1).toNat 0),?_,ab.sub ⟨rfl,rfl,rfl,rfl,rfl,trivial⟩,?_⟩
     ·rw [aF.W5,aF.LH _ _ _ ag,show ((i:Int)-1).toNat=i-1 by omega];unfold aF.digit aF.gD;rw [if_pos ag]
     ·exact U
    ·refine wp_skip<|⟨((aF.oK (aF.ei n).toNat k).getD ((i:Int)-1).toNat 0),?_,ab.sub ⟨rfl,rfl,rfl,rfl,rfl,trivial⟩,?_⟩
     ·rw [aF.LH _ _ _ ag,show ((i:Int)-1).toNat=i-1 by omega];unfold aF.digit aF.gD;rw [if_neg ag,UInt8.xor_zero]
     ·exact U
   rintro d a w bh ab U
   subst a6;(try dsimp only at bh ab U)
   have aT:=bh
   replace U:=e7 U
   refine dM<|aG ab U (ai rfl<|ai rfl<|ah) fun a w ab U=>aJ ab U rfl (eu bX bI rfl rfl bM a8 rfl rfl) ?_
   rintro v12 _ _ a w ⟨rfl,rfl⟩ ab U
   replace U:=eU U
   refine aJ ab U rfl (dH bX bI 1 rfl rfl rfl (eo bX (k:=0) rfl bM) aI rfl a8) ?_
   rintro JU _ _ a w ⟨rfl,rfl⟩ ab U
   replace U:=eU U
   refine aG ab U (av rfl<|ah) fun a w ab U=>wpList_nil (hz _ _ ?_)
   refine bx ab U (ai rfl<|fy rfl rfl<|av rfl<|ah) fun a w ab U=>?_
   rw [show (i:Int)-1-1=((i-1:Nat):Int)-1 by omega] at ab
   replace U:=U.ao ay (c2)
   refine ⟨(JU,i-1),?_,?_,ab.sub ⟨rfl,rfl,rfl,rfl,trivial⟩,?_⟩
   ·(try dsimp only);omega
   ·(try dsimp only);omega
   ·subst aT
    have e:((UInt8.ofNat (128+k) ^^^ aF.gD n)::aF.hH (aF.ei n) (aF.gD n) k i).map bn++[bn (aF.digit (aF.ei n) (aF.gD n) (i-1))]=((UInt8.ofNat (128+k) ^^^ aF.gD n)::aF.hH (aF.ei n) (aF.gD n) k (i-1)).map bn:=by rw [← aF.LL _ _ k (i-1) ag,show i-1+1=i by omega];simp
    rw [e,show 1+(k-i)+1=1+(k-(i-1)) by omega] at U
    exact U
  ·obtain rfl:i=0:=by omega
   have e:((UInt8.ofNat (128+k) ^^^ aF.gD n)::aF.hH (aF.ei n) (aF.gD n) k 0)=aF.int n:=by rw [aE];rfl
   have el:1+(k-0)=(aF.int n).length:=by rw [← e];simp [aF.uC];omega
   rw [e,el] at U
   refine wp_exit<|eY _ _<|aD ab U (ai rfl<|av rfl<|ah) fun a w ab U=>wp_ret ?_
   exact b0 (rs:=[.tmp 2]) rfl ab U (vs:=[_]) ⟨rfl,trivial⟩ ay (List.Sublist.cons_cons _ ay) ⟨rfl,rfl⟩
end
section
theorem Cc:b1 Tryz.prog 54:=b6 Tryz.func54
attribute [local irreducible] aL.sum aF.int
theorem I7(t:List UInt8)(aN:t.length<1099511627776)(w:World):cC Tryz.prog 55 [vs t] w (fun v zs hs=>zs=[]∧hs=[.row v 5 1 (aF.bytes t).length ((aF.bytes t).map bn)]):=by
 refine c4 Tryz.func55 rfl Tryz.ntmps55 b4 fun a ab U=>?_
 have oU:=aF.oo t.length
 refine aD ab U (av rfl<|ah) fun a w ab U=>bc fun cG bJ=>aG ab U (ai rfl<|ae (hZ bB rfl)<|ah) fun a w ab U=>aJ ab U rfl (eT Cc rfl (fun w U=>DU _ ag w )) ?_
 rintro v1 _ _ a w ⟨_,_,rfl,rfl,rfl,rfl⟩ ab U
 replace U:=ft U
 refine aG ab U (ai rfl<|ah) fun a w ab U=>aJ ab U rfl (uD bB bX bI rfl ag) ?_
 rintro v3 _ _ a w ⟨z4,rfl,rfl,zT⟩ ab U
 refine aJ ab U rfl (dH bX bI 0 rfl rfl rfl (D4 bX zT (.inr (by simp))) aI rfl a8) ?_
 rintro v6 _ _ a w ⟨rfl,rfl⟩ ab U
 replace U:aB _ [_] [_] _:=U
 refine aG ab U (av rfl<|ah) fun a w ab U=>wpList_nil (bJ _ _ ?_)
 refine wp_ret ?_
 rw [← List.map_append,show (aF.int t.length).length+t.length=(aF.bytes t).length by simp [aF.bytes]] at U
 exact b0 (rs:=[.tmp 2]) rfl ab U (vs:=[_]) ⟨rfl,trivial⟩ ay al ⟨rfl,rfl⟩
end
section
theorem F7:b1 Tryz.prog 55:=b6 Tryz.func55
attribute [local irreducible] aL.sum aF.int aF.bytes aL.hY
theorem agV(tag:Int)(v:Value)(ps:List (List UInt8))(bO:∀ p∈ps,p.length<1048576)(hl:ps.length<1048576)(w:World)(aw:bo Go.aK.encS (cf w) v ps):cC Tryz.prog 154 [aA tag,v] w (fun r zs hs=>∃ z,bo hc z r (aL.hY tag ps)∧zs=[z]∧hs=[]):=by
 refine c4 Tryz.func154 rfl Tryz.ntmps154 b4 fun a ab U=>aD ab U (av rfl<|ah) fun a w ab U=>bc fun cG bJ=>aG ab U (ai rfl<|ae (rX bH bI rfl)<|ah) fun a w ab U=>aJ ab U rfl (eu bX bI rfl rfl bM a8 rfl rfl) ?_
 rintro v1 _ _ a w ⟨rfl,rfl⟩ ab U
 replace U:=ft U
 refine aG ab U (av rfl<|ah) fun a w ab U=>wpList_nil (bJ _ _ ?_)
 refine ax fun dX cq=>aD ab U (av rfl<|ah) fun a w ab U=>wp_block ?_
 obtain ⟨bG,a6,U⟩:=U.c1
 refine dy (γ:=Value×Int) (v1,0) (fun (u,i)=>[(5,u),(6,aA i)]) [(1,_)] (fun (u,i)=>(bG.set 0 (.row u 5 1 (aL.hY tag (ps.take i.toNat)).length ((aL.hY tag (ps.take i.toNat)).map bn)))) (fun (u,i)=>0≤i∧i≤ps.length) (fun (u,i)=>(ps.length-i).toNat) (ab.sub ⟨rfl,rfl,rfl,trivial⟩) (by subst a6;have e:aL.hY tag (ps.take (0:Int).toNat)=[hI tag]:=(by unfold aL.hY;rfl);dsimp only;rw [e];exact U) (by exact ⟨Int.le_refl _,by omega⟩) ?_
 rintro ⟨u,i⟩ a w bh ab U
 subst a6;(try dsimp only at bh ab U)
 obtain ⟨eL,kI⟩:=bh
 replace U:=ft U
 have abq:∀ p∈ps.take i.toNat,p.length<1048576:=fun p h=>bO p (List.mem_of_mem_take h)
 have pT:=aL.H4 tag (ps.take i.toNat) abq
 rw [List.length_take] at pT
 refine ax fun dL b9=>aD ab U (ai rfl<|ai rfl<|ae (ee cw aw rfl)<|ae (cU rfl rfl)<|ah) fun a w ab U=>cn ab rfl (fun aU=>?_) (fun aU=>?_)
 ·have abn:=bO _ (aL.jm ps i.toNat ag)
  have c6:=aF.su (ps.getD i.toNat [])
  refine wp_skip<|b9 _ _<|ax fun fa cT=>wp_block ?_
  refine dM<|aG ab U (ai rfl<|ai rfl<|ai rfl<|ae (dV cw bB aw rfl rfl ag)<|ae (tA bB aw cM rfl rfl ag)<|ah) fun a w ab U=>aJ ab U rfl (eT F7 rfl (fun w U=>I7 _ (by first | with_reducible assumption | omega) w )) ?_
  rintro v3 _ _ a w ⟨_,_,rfl,rfl,rfl,rfl⟩ ab U
  replace U:=e7 U
  refine aJ ab U rfl (dH bX bI 1 rfl rfl rfl (eo bX (k:=0) rfl bM) aI rfl a8) ?_
  rintro v5 _ _ a w ⟨rfl,rfl⟩ ab U
  replace U:=e7 U
  refine aG ab U (av rfl<|ah) fun a w ab U=>wpList_nil (cT _ _ ?_)
  refine bx ab U (ai rfl<|b5 rfl rfl<|av rfl<|ah) fun a w ab U=>?_
  replace U:=U.ao ay (c2)
  refine ⟨(v5,i+1),?_,?_,ab.sub ⟨rfl,rfl,rfl,trivial⟩,?_⟩
  ·(try dsimp only);omega
  ·(try dsimp only);omega
  ·rw [← List.map_append,aL.OL _ _ _ ag,← List.length_append,aL.OL _ _ _ ag,show i.toNat+1=(i+1).toNat by omega] at U
   exact U
 ·obtain rfl:i=ps.length:=by omega
  rw [Int.toNat_natCast,List.take_length] at U
  refine wp_exit<|cq _ _<|aD ab U (ai rfl<|av rfl<|ah) fun a w ab U=>wp_ret ?_
  have oU:=aL.H4 tag ps bO
  obtain ⟨z,C1,U⟩:=aB.Nk U rfl ag
  exact b0 (rs:=[.tmp 4]) rfl ab U (vs:=[_]) ⟨rfl,trivial⟩ (zs':=[z]) (hs':=[]) al ay ⟨z,C1,rfl,rfl⟩
end
section
theorem ahv(v1 v2:Value)(xa xb:List UInt8)(w:World)(fp:bo hc (cf w) v1 xa)(fV:bo hc (cf w) v2 xb):cC Tryz.prog 15 [v1,v2] w (fun r _ _=>r=.bool (decide (xa=xb))):=by
 refine c4 Tryz.func15 rfl Tryz.ntmps15 b4 fun a ab U=>?_
 have Oa:=fp.1
 have u3:=fV.1
 refine aD ab U (av rfl<|ah) fun a w ab U=>ax fun cG bJ=>aD ab U (ai rfl<|ae (ee bX fp rfl)<|ai rfl<|ae (ee bX fV rfl)<|ae (dS rfl rfl)<|ah) fun a w ab U=>e9 ab rfl (fun aU=>?_) (fun aU=>?_)
 ·refine ax fun et cB=>bx ab U (av rfl<|ah) fun a w ab U=>cB _ _ ?_
  refine wp_ret<|b0 (rs:=[.tmp 4]) rfl ab U (vs:=[_]) ⟨rfl,trivial⟩ ay ay (ja.Jq aU)
 ·refine wp_skip<|bJ _ _<|ax fun dL b9=>aD ab U (av rfl<|ah) fun a w ab U=>wp_block ?_
  obtain ⟨bG,a6,U⟩:=U.c1
  refine dy (γ:=Int) (0) (fun (i:Int)=>[(5,aA i)]) [(0,_),(1,_)] (fun (i:Int)=>bG) (fun (i:Int)=>0≤i∧i≤xa.length∧xa.take i.toNat=xb.take i.toNat) (fun (i:Int)=>(xa.length-i).toNat) (ab.sub ⟨rfl,rfl,rfl,trivial⟩) (by subst a6;exact U) (by exact ⟨Int.le_refl _,by omega,rfl⟩) ?_
  rintro i a w bh ab U
  subst a6;(try dsimp only at bh ab U)
  obtain ⟨eL,kI,lH⟩:=bh
  replace U:=ic U
  refine ax fun fa cT=>aD ab U (ai rfl<|ai rfl<|ae (ee bX fp rfl)<|ae (cU rfl rfl)<|ah) fun a w ab U=>cn ab rfl (fun bz=>?_) (fun bz=>?_)
  ·have sU:i<xb.length:=by omega
   refine wp_skip<|cT _ _<|ax fun gB du=>wp_block ?_
   refine iE mixed az ab U (ai rfl<|ai rfl<|ae (dV bX bI fp rfl rfl ag)<|ae (nh bI fp cM rfl rfl ag)<|ai rfl<|ai rfl<|ae (dV bX bI fV rfl rfl ag)<|ae (nh bI fV cM rfl rfl ag)<|ae (IX rfl rfl)<|ah) fun a w ab U=>e9 ab rfl (fun cl=>?_) (fun cl=>?_)
   ·refine ax fun ho dK=>bx ab U (av rfl<|ah) fun a w ab U=>dK _ _ ?_
    refine wp_ret<|b0 (rs:=[.tmp 4]) rfl ab U (vs:=[_]) ⟨rfl,trivial⟩ ay ay (ja.Jr 0 cl)
   ·refine wp_skip<|du _ _<|bx ab U (ai rfl<|b5 rfl rfl<|av rfl<|ah) fun a w ab U=>⟨(i+1),?_,?_,ab.sub ⟨rfl,rfl,rfl,trivial⟩,?_⟩
    ·(try dsimp only);omega
    ·refine ⟨by omega,by omega,ja.Js 0 eL ag aU cl lH⟩
    ·exact U
  ·refine wp_exit<|b9 _ _<|aD ab U (av rfl<|ah) fun a w ab U=>wp_ret ?_
   exact b0 (rs:=[.tmp 4]) rfl ab U (vs:=[_]) ⟨rfl,trivial⟩ ay ay (ja.Jp aU bz lH)
theorem Sg(v1 v2:Value)(xa xb:List (List UInt8))(w:World)(fp:bo Go.aK.encS (cf w) v1 xa)(fV:bo Go.aK.encS (cf w) v2 xb):cC Tryz.prog 37 [v1,v2] w (fun r _ _=>r=.bool (decide (xa=xb))):=by
 refine c4 Tryz.func37 rfl Tryz.ntmps37 b4 fun a ab U=>?_
 have Oa:=fp.1
 have u3:=fV.1
 refine aD ab U (av rfl<|ah) fun a w ab U=>ax fun cG bJ=>aD ab U (ai rfl<|ae (ee cw fp rfl)<|ai rfl<|ae (ee cw fV rfl)<|ae (dS rfl rfl)<|ah) fun a w ab U=>e9 ab rfl (fun aU=>?_) (fun aU=>?_)
 ·refine ax fun et cB=>bx ab U (av rfl<|ah) fun a w ab U=>cB _ _ ?_
  refine wp_ret<|b0 (rs:=[.tmp 4]) rfl ab U (vs:=[_]) ⟨rfl,trivial⟩ ay ay (ja.Jq aU)
 ·refine wp_skip<|bJ _ _<|ax fun dL b9=>aD ab U (av rfl<|ah) fun a w ab U=>wp_block ?_
  obtain ⟨bG,a6,U⟩:=U.c1
  refine dy (γ:=Int) (0) (fun (i:Int)=>[(5,aA i)]) [(0,_),(1,_)] (fun (i:Int)=>bG) (fun (i:Int)=>0≤i∧i≤xa.length∧xa.take i.toNat=xb.take i.toNat) (fun (i:Int)=>(xa.length-i).toNat) (ab.sub ⟨rfl,rfl,rfl,trivial⟩) (by subst a6;exact U) (by exact ⟨Int.le_refl _,by omega,rfl⟩) ?_
  rintro i a w bh ab U
  subst a6;(try dsimp only at bh ab U)
  obtain ⟨eL,kI,lH⟩:=bh
  replace U:=ic U
  refine ax fun fa cT=>aD ab U (ai rfl<|ai rfl<|ae (ee cw fp rfl)<|ae (cU rfl rfl)<|ah) fun a w ab U=>cn ab rfl (fun bz=>?_) (fun bz=>?_)
  ·have sU:i<xb.length:=by omega
   refine wp_skip<|cT _ _<|ax fun gB du=>wp_block ?_
   refine iE mixed az ab U (ai rfl<|ai rfl<|ae (dV cw bB fp rfl rfl ag)<|ae (tA bB fp cM rfl rfl ag)<|ai rfl<|ai rfl<|ae (dV cw bB fV rfl rfl ag)<|ae (tA bB fV cM rfl rfl ag)<|ae (rY rfl rfl)<|ah) fun a w ab U=>e9 ab rfl (fun cl=>?_) (fun cl=>?_)
   ·refine ax fun ho dK=>bx ab U (av rfl<|ah) fun a w ab U=>dK _ _ ?_
    refine wp_ret<|b0 (rs:=[.tmp 4]) rfl ab U (vs:=[_]) ⟨rfl,trivial⟩ ay ay (ja.Jr [] cl)
   ·refine wp_skip<|du _ _<|bx ab U (ai rfl<|b5 rfl rfl<|av rfl<|ah) fun a w ab U=>⟨(i+1),?_,?_,ab.sub ⟨rfl,rfl,rfl,trivial⟩,?_⟩
    ·(try dsimp only);omega
    ·refine ⟨by omega,by omega,ja.Js [] eL ag aU cl lH⟩
    ·exact U
  ·refine wp_exit<|b9 _ _<|aD ab U (av rfl<|ah) fun a w ab U=>wp_ret ?_
   exact b0 (rs:=[.tmp 4]) rfl ab U (vs:=[_]) ⟨rfl,trivial⟩ ay ay (ja.Jp aU bz lH)
attribute [local irreducible] aF.int aF.bytes aF.ints aF.strs aF.wu ja.sz
end
section
attribute [local irreducible] aF.int aF.bytes aF.ints aF.strs aF.wu ja.sz aF.getInt aF.ga aF.iY
theorem YY:aF.getInt []=(0,0,3):=by unfold aF.getInt;rfl
theorem LD{xs:List UInt8}(h:¬ (xs.length:Int)=0):∃ a t,xs=a::t:=by
 cases xs with
 | nil=>simp at h
 | cons a t=>exact ⟨a,t,rfl⟩
theorem P3{xs:List UInt8}(h:(xs.length:Int)=0):aF.getInt xs=(0,0,3):=by
 have:xs=[]:=List.eq_nil_of_length_eq_zero ag
 rw [this];exact YY
theorem TP(v:Value)(xs:List UInt8)(w:World)(aw:bo hc (cf w) v xs):cC Tryz.prog 59 [v] w (fun r _ _=>r=.tuple [aA (aF.getInt xs).1,aA (aF.getInt xs).2.1,aA (aF.getInt xs).2.2].toArray):=by
 refine c4 Tryz.func59 rfl Tryz.ntmps59 b4 fun a ab U=>?_
 have c6:=aw.1
 refine aD ab U (av rfl<|av rfl<|av rfl<|ah) fun a w ab U=>ax fun cG bJ=>aD ab U (ai rfl<|ae (ee bX aw rfl)<|ae (gq rfl rfl)<|ah) fun a w ab U=>cn ab rfl (fun aU=>?_) (fun aU=>?_)
 ·refine ax fun et cB=>bx ab U (av rfl<|av rfl<|av rfl<|ah) fun a w ab U=>cB _ _ ?_
  refine wp_ret<|b0 (rs:=[.tmp 2,.tmp 3,.tmp 4]) rfl ab U (vs:=[_,_,_]) ⟨rfl,rfl,rfl,trivial⟩ ay ay (aF.oP (P3 aU))
 ·obtain ⟨h,t,rfl⟩:=LD aU
  have aa5:(h::t).length=t.length+1:=rfl
  refine wp_skip<|bJ _ _<|aD ab U (av rfl<|ah) fun a w ab U=>?_
  obtain ⟨bG,a6,U⟩:=U.c1
  refine mn (γ:=UInt8) (fun (b8:UInt8)=>[(5,bn b8)]) [(0,_)] (fun (b8:UInt8)=>bG) (fun (b8:UInt8)=>b8=aF.fA h) (ab.sub ⟨rfl,trivial⟩) U ?_ ?_
  ·subst a6
   refine aD ab U (ai rfl<|ae (dV bX bI aw rfl rfl ag)<|ae (nh bI aw cM rfl rfl ag)<|ae (afV (q:=128) rfl rfl)<|ah) fun a w ab U=>cn ab rfl (fun bz=>?_) (fun bz=>?_)
   ·refine bx ab U (av rfl<|ah) fun a w ab U=>⟨(255),?_,ab.sub ⟨rfl,rfl,trivial⟩,?_⟩
    ·unfold aF.fA;rw [if_pos (show h<128 from bz)]
    ·exact U
   ·refine wp_skip<|⟨(0),?_,ab.sub ⟨rfl,rfl,trivial⟩,?_⟩
    ·unfold aF.fA;rw [if_neg (show ¬ h<128 from bz)]
    ·exact U
  rintro b8 a w bh ab U
  subst a6;(try dsimp only at bh ab U)
  have eK:=bh
  replace U:=ic U
  have alL:=vK ((h::t).getD (Int.toNat 0) 0 ^^^ b8)
  refine ax fun fa cT=>bx ab U (ai rfl<|ae (dV bX bI aw rfl rfl ag)<|ae (nh bI aw cM rfl rfl ag)<|ai rfl<|ae (vx rfl rfl)<|ae (Al bI bH rfl)<|fy rfl rfl<|av rfl<|ah) fun a w ab U=>?_
  have m3:=aF.Mu h
  rw [← eK] at m3
  obtain ⟨K,dU⟩:∃ K:Nat,K=(h ^^^ b8).toNat-128:=⟨_,rfl⟩
  change Fr _ ((6,aA (((h ^^^ b8).toNat:Int)-128))::_) a at ab
  rw [show (((h ^^^ b8).toNat:Int)-128)=(K:Int) by omega] at ab
  refine cT _ _<|ax fun fk cP=>wp_block ?_
  refine aD ab U (ai rfl<|ae (fc rfl rfl)<|av rfl<|ah) fun a w ab U=>cn ab rfl (fun cl=>?_) (fun cl=>?_)
  ·refine ax fun hU ef=>bx ab U (av rfl<|av rfl<|av rfl<|ah) fun a w ab U=>ef _ _ ?_
   refine wp_ret<|b0 (rs:=[.tmp 2,.tmp 3,.tmp 4]) rfl ab U (vs:=[_,_,_]) ⟨rfl,rfl,rfl,trivial⟩ ay ay (aF.oP (aF.NB eK dU ag))
  ·have dJ:¬ 8<K:=by omega
   refine aD ab U (ai rfl<|ae (ee bX aw rfl)<|ai rfl<|ae (xw rfl rfl)<|av rfl<|ah) fun a w ab U=>cn ab rfl (fun dI=>?_) (fun dI=>?_)
   ·have gK:t.length<K:=by omega
    refine aD ab U (av rfl<|av rfl<|av rfl<|ah) fun a w ab U=>wp_ret ?_
    exact b0 (rs:=[.tmp 2,.tmp 3,.tmp 4]) rfl ab U (vs:=[_,_,_]) ⟨rfl,rfl,rfl,trivial⟩ ay ay (aF.oP (aF.ND eK dU dJ gK))
   ·have gK:¬ t.length<K:=by omega
    refine bc fun iR eO=>aG ab U (ai rfl<|ae (fc rfl rfl)<|ai rfl<|ah) fun a w ab U=>j3 2 35 6 ab U rfl rfl rfl rfl rfl (fun aP=>have aP:=(by first | exact of_decide_eq_true aP | exact aP);aO 35 rfl rfl rfl (bE rfl)<|aO 35 rfl rfl rfl (dV bX bI aw rfl rfl ag)<|aO 35 rfl rfl rfl (nh bI aw cM rfl rfl ag)<|aO 35 rfl rfl rfl (bE rfl)<|aO 35 rfl rfl rfl (vx rfl rfl)<|aO 35 rfl rfl rfl (afv (q:=0) rfl rfl)<|ah) rfl rfl fun a w ab U=>?_
    refine aG ab U (av rfl<|ah) fun a w ab U=>wpList_nil (eO _ _ ?_)
    refine df ab rfl (fun dE=>?_) (fun dE=>?_)
    ·(try simp only [dj] at dE)
     have h0:0<K∧t.getD 0 0 ^^^ b8=0:=⟨by omega,dE.2⟩
     refine aD ab U (av rfl<|av rfl<|av rfl<|ah) fun a w ab U=>wp_ret ?_
     exact b0 (rs:=[.tmp 2,.tmp 3,.tmp 4]) rfl ab U (vs:=[_,_,_]) ⟨rfl,rfl,rfl,trivial⟩ ay ay (aF.oP (aF.NG eK dU dJ gK h0))
    ·(try simp only [dj] at dE)
     have h0:¬ (0<K∧t.getD 0 0 ^^^ b8=0):=fun cA=>dE.elim (fun h=>h ag) (fun h=>h cA.2)
     refine wp_skip<|cP _ _<|aD ab U (av rfl<|ah) fun a w ab U=>ax fun mw hz=>ax fun oF jg=>?_
     refine bx ab U (ai rfl<|ai rfl<|b5 rfl rfl<|ae (As bX bI aw rfl rfl rfl ag)<|ae (ee bX (bo.cut aw ag) rfl)<|ai rfl<|ah) fun a w ab U=>?_
     have jh:=aF.ais (h:=h) (t:=t) (K:=K)
     have Oo:((((h::t).take ((K:Int)+1).toNat).drop (1:Int).toNat).length:Int)=K:=by rw [jh,List.length_take];omega
     refine jg _ _<|wp_block ?_
     obtain ⟨bG,a6,U⟩:=U.c1
     refine dy (γ:=UInt64×Int) (0,0) (fun (m,j)=>[(7,gX m),(48,aA j)]) [(5,_),(6,_),(46,_),(47,_)] (fun (m,j)=>bG) (fun (m,j)=>0≤j∧j≤K∧m.toNat=aF.iY t b8 K j.toNat) (fun (m,j)=>(K-j).toNat) (ab.sub ⟨rfl,rfl,rfl,rfl,rfl,rfl,trivial⟩) (by subst a6;exact U) (by exact ⟨Int.le_refl _,by omega,by rw [show (0:Int).toNat=0 from rfl,aF.TG];rfl⟩) ?_
     rintro ⟨m,j⟩ a w bh ab U
     subst a6;(try dsimp only at bh ab U)
     obtain ⟨sX,qv,s4⟩:=bh
     replace U:=ic U
     refine aD ab U (ae (cU rfl rfl)<|ah) fun a w ab U=>ax fun qa ko=>cn ab rfl (fun iI=>?_) (fun iI=>?_)
     ·refine wp_skip<|ko _ _<|ax fun qb kb=>wp_block ?_
      refine aD ab U (ae (dV bX bI (bo.cut aw ag) rfl rfl ag)<|ae (nh bI (bo.cut aw ag) cM rfl rfl ag)<|av rfl<|ah) fun a w ab U=>bx ab U (ai rfl<|ae (af5 rfl rfl ag)<|ai rfl<|ai rfl<|ae (vx rfl rfl)<|ae (aft bI np rfl)<|ae (af2 rfl rfl)<|av rfl<|ah) fun a w ab U=>kb _ _ ?_
      refine bx ab U (b5 rfl rfl<|ai rfl<|ah) fun a w ab U=>⟨(_,j+1),?_,?_,ab.sub ⟨rfl,rfl,rfl,rfl,rfl,rfl,trivial⟩,?_⟩
      ·(try dsimp only);omega
      ·refine ⟨by omega,by omega,?_⟩
       rw [aF.ahX _ _ (by rw [s4];exact aF.ajk t b8 K j.toNat ag),show (j+1).toNat=j.toNat+1 by omega,aF.En t b8 K j.toNat ag ag,s4,jh,List.getD_eq_getElem?_getD,List.getD_eq_getElem?_getD,List.getElem?_take,if_pos ag]
      ·exact U
     ·have aaV:j=(K:Int):=by omega
      have zB:m.toNat=aF.iY t b8 K K:=by rw [s4,aaV,Int.toNat_natCast]
      clear s4
      refine wp_exit<|hz _ _<|ax fun sh l1=>aD ab U (ai rfl<|ae (xA rfl rfl ag)<|ae (QL (q:=0) rfl rfl)<|ah) fun a w ab U=>cn ab rfl (fun kp=>?_) (fun kp=>?_)
      ·rw [aF.SO] at kp
       refine aD ab U (av rfl<|av rfl<|av rfl<|ah) fun a w ab U=>wp_ret ?_
       exact b0 (rs:=[.tmp 2,.tmp 3,.tmp 4]) rfl ab U (vs:=[_,_,_]) ⟨rfl,rfl,rfl,trivial⟩ ay ay (aF.oP (aF.NC eK dU dJ gK (by rw [← aF.Be,← zB];exact kp)))
      ·rw [aF.SO] at kp
       have u7:=kp
       have k3:=aF.Mt h
       rw [← eK] at k3
       refine wp_skip<|l1 _ _ ?_
       obtain ⟨bG,a6,U⟩:=U.c1
       refine mn (γ:=UInt64) (fun (hr:UInt64)=>[(7,gX hr)]) [(6,_)] (fun (hr:UInt64)=>bG) (fun (hr:UInt64)=>oB hr=if b8=0 then (m.toNat:Int) else -1-(m.toNat:Int)) (ab.sub ⟨rfl,trivial⟩) U ?_ ?_
       ·subst a6
        refine aD ab U (ai rfl<|ae (afz (q:=0) rfl rfl)<|ah) fun a w ab U=>cn ab rfl (fun iJ=>?_) (fun iJ=>?_)
        ·refine bx ab U (ai rfl<|ae (QW rfl)<|av rfl<|ah) fun a w ab U=>⟨(~~~m),?_,ab.sub ⟨rfl,rfl,trivial⟩,?_⟩
         ·rw [if_neg ((aF.Mp k3).1 iJ)];exact aF.ahU m u7
         ·exact U
        ·refine wp_skip<|⟨(m),?_,ab.sub ⟨rfl,rfl,trivial⟩,?_⟩
         ·rw [if_pos (Classical.not_not.1 (fun cA=>iJ ((aF.Mp k3).2 cA)))];exact aF.ahV m u7
         ·exact U
       rintro hr a w bh ab U
       subst a6;(try dsimp only at bh ab U)
       have zA:=bh
       replace U:=ic U
       refine aD ab U (ai rfl<|ae (DE np bH rfl)<|ai rfl<|b5 rfl rfl<|av rfl<|av rfl<|av rfl<|ah) fun a w ab U=>wp_ret ?_
       exact b0 (rs:=[.tmp 2,.tmp 3,.tmp 4]) rfl ab U (vs:=[_,_,_]) ⟨rfl,rfl,rfl,trivial⟩ ay ay (by rw [zA,zB,aF.Be];exact aF.oP (aF.NF eK dU dJ gK h0 (by rw [← aF.Be,← zB];exact u7)))
end
section
theorem XA:b1 Tryz.prog 15:=b6 Tryz.func15
attribute [local irreducible] aF.int aF.bytes aF.ints aF.strs aF.wu ja.sz aF.getInt aF.ga aF.iY
theorem RM(v:Value)(xs:List UInt8)(w:World)(aw:bo hc (cf w) v xs):cC Tryz.prog 61 [v] w (fun r _ _=>r=.tuple [aA (aF.getInt xs).1,aA (aF.getInt xs).2.1,aA (aF.getInt xs).2.2].toArray):=by
 refine c4 Tryz.func61 rfl Tryz.ntmps61 b4 fun a ab U=>?_
 have c6:=aw.1
 refine aD ab U (av rfl<|av rfl<|av rfl<|ah) fun a w ab U=>ax fun cG bJ=>aD ab U (ai rfl<|ae (ee bX aw rfl)<|ae (gq rfl rfl)<|ah) fun a w ab U=>cn ab rfl (fun aU=>?_) (fun aU=>?_)
 ·refine ax fun et cB=>bx ab U (av rfl<|av rfl<|av rfl<|ah) fun a w ab U=>cB _ _ ?_
  refine wp_ret<|b0 (rs:=[.tmp 2,.tmp 3,.tmp 4]) rfl ab U (vs:=[_,_,_]) ⟨rfl,rfl,rfl,trivial⟩ ay ay (aF.oP (P3 aU))
 ·obtain ⟨h,t,rfl⟩:=LD aU
  have aa5:(h::t).length=t.length+1:=rfl
  have Hk:=aF.aaD h
  obtain ⟨b8,eK⟩:∃ b8,b8=aF.fA h:=⟨_,rfl⟩
  obtain ⟨K,dU⟩:∃ K,K=(h ^^^ b8).toNat-128:=⟨_,rfl⟩
  have zb:h.toNat<128→K=127-h.toNat∧b8=255:=fun cA=>by obtain ⟨fT,a2⟩:=Hk.1 cA;rw [fT] at eK;subst eK;exact ⟨by rw [dU,a2],rfl⟩
  have zd:¬ h.toNat<128→K=h.toNat-128∧b8=0:=fun cA=>by obtain ⟨fT,a2⟩:=Hk.2 cA;rw [fT] at eK;subst eK;exact ⟨by rw [dU,a2],rfl⟩
  clear Hk
  have amx:=h.toNat_lt
  refine wp_skip<|bJ _ _<|ax fun dL b9=>bx ab U (ai rfl<|ae (dV bX bI aw rfl rfl ag)<|ae (nh bI aw cM rfl rfl ag)<|ae (Al bI bH rfl)<|av rfl<|ah) fun a w ab U=>?_
  change Fr _ ((5,aA (h.toNat:Int))::_) a at ab
  refine b9 _ _<|ax fun eN cK=>bc fun fa cT=>aG ab U (ai rfl<|ae (cU rfl rfl)<|ai rfl<|ah) fun a w ab U=>gA 2 20 2 ab U rfl rfl rfl rfl rfl (fun aP=>have aP:=(by first | exact of_decide_eq_false aP | exact aP);aO 20 rfl rfl rfl (bE rfl)<|aO 20 rfl rfl rfl (fc rfl rfl)<|ah) rfl rfl fun a w ab U=>?_
  refine wpList_nil (cT _ _ ?_)
  refine df ab rfl (fun bz=>?_) (fun bz=>?_)
  ·(try simp only [dj] at bz)
   have dJ:8<K:=by
    by_cases cA:h.toNat<128
    ·have:=(zb cA).1;omega
    ·have:=(zd cA).1;omega
   refine aD ab U (av rfl<|av rfl<|av rfl<|ah) fun a w ab U=>wp_ret ?_
   exact b0 (rs:=[.tmp 2,.tmp 3,.tmp 4]) rfl ab U (vs:=[_,_,_]) ⟨rfl,rfl,rfl,trivial⟩ ay ay (aF.oP (aF.NB eK dU dJ))
  ·(try simp only [dj] at bz)
   have dJ:¬ 8<K:=by
    by_cases cA:h.toNat<128
    ·have:=(zb cA).1;omega
    ·have:=(zd cA).1;omega
   refine wp_skip<|cK _ _<|aD ab U (ai rfl<|fy rfl rfl<|av rfl<|ah) fun a w ab U=>?_
   obtain ⟨bG,a6,U⟩:=U.c1
   refine mn (γ:=Int) (fun (k:Int)=>[(6,aA k)]) [(0,_),(5,_)] (fun (k:Int)=>bG) (fun (k:Int)=>k=(K:Int)) (ab.sub ⟨rfl,rfl,trivial⟩) U ?_ ?_
   ·subst a6
    refine aD ab U (ai rfl<|ae (cU rfl rfl)<|ah) fun a w ab U=>cn ab rfl (fun cl=>?_) (fun cl=>?_)
    ·refine bx ab U (ai rfl<|fy rfl rfl<|av rfl<|ah) fun a w ab U=>⟨(127-(h.toNat:Int)),?_,ab.sub ⟨rfl,rfl,rfl,trivial⟩,?_⟩
     ·have:=(zb ag).1
      omega
     ·exact U
    ·refine wp_skip<|⟨((h.toNat:Int)-128),?_,ab.sub ⟨rfl,rfl,rfl,trivial⟩,?_⟩
     ·have:=(zd ag).1
      omega
     ·exact U
   rintro k a w bh ab U
   subst a6;(try dsimp only at bh ab U)
   have aE:=bh
   replace U:=ic U
   subst aE
   refine ax fun ho dK=>aD ab U (ai rfl<|ae (ee bX aw rfl)<|ai rfl<|b5 rfl rfl<|ae (cU rfl rfl)<|ah) fun a w ab U=>cn ab rfl (fun dI=>?_) (fun dI=>?_)
   ·have gK:t.length<K:=by omega
    refine aD ab U (av rfl<|av rfl<|av rfl<|ah) fun a w ab U=>wp_ret ?_
    exact b0 (rs:=[.tmp 2,.tmp 3,.tmp 4]) rfl ab U (vs:=[_,_,_]) ⟨rfl,rfl,rfl,trivial⟩ ay ay (aF.oP (aF.ND eK dU dJ gK))
   ·have gK:¬ t.length<K:=by omega
    refine wp_skip<|dK _ _<|aD ab U (av rfl<|ah) fun a w ab U=>ax fun j5 fC=>aD ab U (av rfl<|ah) fun a w ab U=>?_
    refine wp_block ?_
    obtain ⟨bG,a6,U⟩:=U.c1
    refine dy (γ:=Int×Int) (0,1) (fun (m,i)=>[(7,aA m),(8,aA i)]) [(0,_),(5,_),(6,_)] (fun (m,i)=>bG) (fun (m,i)=>1≤i∧i≤(K:Int)+1∧m=(aF.iY t b8 K (i-1).toNat:Int)∧m≤9223372036854775807) (fun (m,i)=>((K:Int)+1-i).toNat) (ab.sub ⟨rfl,rfl,rfl,rfl,rfl,trivial⟩) (by subst a6;exact U) (by exact ⟨Int.le_refl _,by omega,by rw [show ((1:Int)-1).toNat=0 from rfl,aF.TG];rfl,by omega⟩) ?_
    rintro ⟨m,i⟩ a w bh ab U
    subst a6;(try dsimp only at bh ab U)
    obtain ⟨eL,kI,s4,anh⟩:=bh
    replace U:=ic U
    have u6:0≤m:=by omega
    refine ax fun oF jg=>aD ab U (ai rfl<|ai rfl<|ae (xw rfl rfl)<|ah) fun a w ab U=>cn ab rfl (fun dE=>?_) (fun dE=>?_)
    ·refine wp_skip<|jg _ _<|ax fun qa ko=>wp_block ?_
     refine ax fun qb kb=>bx ab U (ai rfl<|ai rfl<|ae (dV bX bI aw rfl rfl ag)<|ae (nh bI aw cM rfl rfl ag)<|ae (Al bI bH rfl)<|av rfl<|ah) fun a w ab U=>?_
     have an3:=vK ((h::t).getD i.toNat 0)
     refine kb _ _ ?_
     obtain ⟨bG,a6,U⟩:=U.c1
     refine mn (γ:=Int) (fun (bS:Int)=>[(9,aA bS)]) [(0,_),(5,_),(6,_),(7,_),(8,_)] (fun (bS:Int)=>bG) (fun (bS:Int)=>bS=(((h::t).getD i.toNat 0 ^^^ b8).toNat:Int)) (ab.sub ⟨rfl,rfl,rfl,rfl,rfl,trivial⟩) U ?_ ?_
     ·subst a6
      refine aD ab U (ai rfl<|ae (cU rfl rfl)<|ah) fun a w ab U=>cn ab rfl (fun iI=>?_) (fun iI=>?_)
      ·refine bx ab U (ai rfl<|fy rfl rfl<|av rfl<|ah) fun a w ab U=>⟨(255-(((h::t).getD i.toNat 0).toNat:Int)),?_,ab.sub ⟨rfl,rfl,rfl,rfl,rfl,rfl,trivial⟩,?_⟩
       ·rw [(zb ag).2];exact aF.aim _
       ·exact U
      ·refine wp_skip<|⟨((((h::t).getD i.toNat 0).toNat:Int)),?_,ab.sub ⟨rfl,rfl,rfl,rfl,rfl,rfl,trivial⟩,?_⟩
       ·rw [(zd ag).2,UInt8.xor_zero]
       ·exact U
     rintro bS a w bh ab U
     subst a6;(try dsimp only at bh ab U)
     have aar:=bh
     replace U:=ic U
     have sQ:=vK ((h::t).getD i.toNat 0 ^^^ b8)
     refine ax fun sh l1=>aD ab U (ai rfl<|ae (fc rfl rfl)<|ah) fun a w ab U=>cn ab rfl (fun kp=>?_) (fun kp=>?_)
     ·have u9:=aF.ajl t b8 K (i-1).toNat ag ag
      have u7:9223372036854775808≤aF.iY t b8 K K:=by omega
      refine aD ab U (av rfl<|av rfl<|av rfl<|ah) fun a w ab U=>wp_ret ?_
      exact b0 (rs:=[.tmp 2,.tmp 3,.tmp 4]) rfl ab U (vs:=[_,_,_]) ⟨rfl,rfl,rfl,trivial⟩ ay ay (aF.oP (aF.NC eK dU dJ gK (by rw [← aF.Be];exact u7)))
     ·refine wp_skip<|l1 _ _<|bx ab U (ai rfl<|ae (hK rfl rfl ag)<|ai rfl<|b5 rfl rfl<|av rfl<|ah) fun a w ab U=>ko _ _ ?_
      refine bx ab U (ai rfl<|b5 rfl rfl<|av rfl<|ah) fun a w ab U=>⟨(256*m+bS,i+1),?_,?_,ab.sub ⟨rfl,rfl,rfl,rfl,rfl,trivial⟩,?_⟩
      ·(try dsimp only);omega
      ·refine ⟨by omega,by omega,?_,by omega⟩
       have abW:=aF.En t b8 K (i-1).toNat ag ag
       rw [show (i+1-1).toNat=(i-1).toNat+1 by omega,abW]
       obtain ⟨j,aV⟩:∃ j:Nat,i=(j:Int)+1:=⟨(i-1).toNat,by omega⟩
       subst aV
       rw [show ((j:Int)+1).toNat=j+1 by omega,List.getD_cons_succ] at aar
       rw [show ((j:Int)+1-1).toNat=j by omega] at s4 ⊢
       omega
      ·exact U
    ·have aaS:i=(K:Int)+1:=by omega
     have zB:m=(aF.iY t b8 K K:Int):=by rw [s4,aaS,show ((K:Int)+1-1).toNat=K by omega]
     clear s4
     have u7:¬ 9223372036854775808≤aF.iY t b8 K K:=by omega
     refine wp_exit<|fC _ _<|aD ab U (ai rfl<|av rfl<|ah) fun a w ab U=>?_
     obtain ⟨bG,a6,U⟩:=U.c1
     refine mn (γ:=Int) (fun (nn:Int)=>[(10,aA nn)]) [(0,_),(6,_)] (fun (nn:Int)=>bG) (fun (nn:Int)=>nn=if b8=0 then m else -1-m) (ab.sub ⟨rfl,rfl,trivial⟩) U ?_ ?_
     ·subst a6
      refine aD ab U (ai rfl<|ae (cU rfl rfl)<|ah) fun a w ab U=>cn ab rfl (fun iJ=>?_) (fun iJ=>?_)
      ·refine bx ab U (ai rfl<|fy rfl rfl<|av rfl<|ah) fun a w ab U=>⟨(-1-m),?_,ab.sub ⟨rfl,rfl,rfl,trivial⟩,?_⟩
       ·rw [(zb ag).2,if_neg a8]
       ·exact U
      ·refine wp_skip<|⟨(m),?_,ab.sub ⟨rfl,rfl,rfl,trivial⟩,?_⟩
       ·rw [(zd ag).2,if_pos rfl]
       ·exact U
     rintro nn a w bh ab U
     subst a6;(try dsimp only at bh ab U)
     have Oe:=bh
     replace U:=ic U
     have vb : -9223372036854775808≤nn∧nn≤9223372036854775807:=by rw [Oe];split <;> omega
     have oU:=aF.oo nn
     refine ax fun EP uN=>ax fun Ko za=>?_
     revert U;revert ab;apply hL (J:=ki (α0:=Value) 71 _ _ _ _ _) #[false,false,false,false,false,false,false,false] 8 mixed rfl rfl
     ·intro w ab U
      refine aS 0 rfl ab (U.ao al ay) (bE rfl) fun a ab=>aS 2 rfl ab (U.ao al ay) (bE rfl) fun a ab=>aS 3 rfl ab (U.ao al ay) (bE rfl) fun a ab=>aS 4 rfl ab (U.ao al ay) (o4 rfl rfl ag) fun a ab=>aS 5 rfl ab (U.ao al ay) (I1 bX bI aw rfl rfl ag) fun a ab=>?_
      refine bY 1 rfl rfl ab U rfl (eT Cc rfl (fun w U=>DU _ ag w )) ?_
      rintro tN _ _ a w ⟨_,_,rfl,rfl,rfl,rfl⟩ ab U
      refine ⟨⟨.inr U.ax,.inr U.ax,.inr U.ax,.inr U.ax,aq,trivial⟩,?_⟩
      refine bY 6 rfl rfl ab U rfl (eC (bV XA rfl (fun w U=>ahv _ _ _ _ w (lM (U.dp 0 rfl) (by first | assumption | (simp;done)) (by first | rfl | (simp;done) | (simp;omega) | omega) (by first | omega | (simp;omega))) (bo.mono (U.le cM) (bo.cut aw ag))) bP)) ?_
      rintro _ _ _ a w ⟨rfl,rfl,rfl⟩ ab U
      refine ⟨⟨aq,aq,.inr U.ax,aq,aq,trivial⟩,?_⟩
      refine aS 7 rfl ab (U.ao al ay) (fZ rfl) fun a ab=>ev az (l6 tN (trivial) (ab.sub (L':=[(6,_),(10,_),(67,_)]) ⟨rfl,rfl,rfl,trivial⟩) U)
     rintro a w ⟨tN, -,ab,U⟩
     (try dsimp only at ab U)
     refine za _ _<|e9 ab rfl (fun m2=>?_) (fun m2=>?_)
     ·rw [List.drop_zero,show ((K:Int)+1).toNat=K+1 by omega] at m2
      refine aD ab U (av rfl<|av rfl<|av rfl<|ah) fun a w ab U=>wp_ret ?_
      exact b0 (rs:=[.tmp 2,.tmp 3,.tmp 4]) rfl ab U (vs:=[_,_,_]) ⟨rfl,rfl,rfl,trivial⟩ ay ay (aF.oP (aF.agL eK dU dJ gK u7 (by rw [Oe,zB]) m2))
     ·rw [List.drop_zero,show ((K:Int)+1).toNat=K+1 by omega] at m2
      refine wp_skip<|uN _ _<|aD ab U (ai rfl<|ai rfl<|b5 rfl rfl<|av rfl<|av rfl<|av rfl<|ah) fun a w ab U=>wp_ret ?_
      exact b0 (rs:=[.tmp 2,.tmp 3,.tmp 4]) rfl ab U (vs:=[_,_,_]) ⟨rfl,rfl,rfl,trivial⟩ ay ay (aF.oP (aF.agM vb ag m2))
end
section
theorem MY:b1 Tryz.prog 59:=b6 Tryz.func59
theorem M0:b1 Tryz.prog 61:=b6 Tryz.func61
theorem Yl:b1 Tryz.prog 98:=b6 Tryz.func98
theorem Ym:b1 Tryz.prog 99:=b6 Tryz.func99
attribute [local irreducible] aF.int aF.bytes aF.ints aF.strs aF.wu ja.sz aF.getInt aF.ga aF.iY aF.a7 aF.ir aF.dZ
theorem ajp(v:Value)(xs:List UInt8)(s:Nat)(hs:0<s∧s≤16)(w:World)(aw:bo hc (cf w) v xs):cC Tryz.prog 98 [v,aA (s:Int)] w (fun r _ _=>r=.tuple [aA (aF.ir s xs).1,aA (aF.ir s xs).2.1,aA (aF.ir s xs).2.2].toArray):=by
 refine c4 Tryz.func98 rfl Tryz.ntmps98 b4 fun a ab U=>?_
 have c6:=aw.1
 have pU:=aF.ajn s xs
 refine aD ab U (av rfl<|av rfl<|av rfl<|ah) fun a w ab U=>aD ab U (ai rfl<|ae (bV MY rfl (fun w U=>TP _ _ w (bo.mono (U.le cM) aw)) bP)<|ai rfl<|ae (cQ rfl rfl)<|ae (cQ rfl rfl)<|ae (cQ rfl rfl)<|av rfl<|av rfl<|av rfl<|ah) fun a w ab U=>?_
 obtain ⟨bG,a6,U⟩:=U.c1
 refine mn (γ:=Int) (fun (e:Int)=>[(6,aA e)]) [(4,_),(5,_)] (fun (e:Int)=>bG) (fun (e:Int)=>e=(aF.ir s xs).2.2) (ab.sub ⟨rfl,rfl,trivial⟩) U ?_ ?_
 ·subst a6
  refine wp_block<|aD ab U (ai rfl<|ae (dS rfl rfl)<|av rfl<|ah) fun a w ab U=>e9 ab rfl (fun aU=>?_) (fun aU=>?_)
  ·refine wp_skip<|⟨((aF.getInt xs).2.2),?_,ab.sub ⟨rfl,rfl,rfl,trivial⟩,?_⟩
   ·unfold aF.ir;rw [if_pos aU]
   ·exact U
  ·have aaN:=aF.y4 (b:=xs) ag
   refine aD ab U (ai rfl<|ae (cU rfl rfl)<|av rfl<|ah) fun a w ab U=>cn ab rfl (fun bz=>?_) (fun bz=>?_)
   ·refine bx ab U (av rfl<|ah) fun a w ab U=>⟨(2),?_,ab.sub ⟨rfl,rfl,rfl,trivial⟩,?_⟩
    ·unfold aF.ir;rw [if_neg ag,if_pos bz]
    ·exact U
   ·refine ax fun dL b9=>bx ab U (ai rfl<|ai rfl<|ae (ee bX aw rfl)<|ai rfl<|fy rfl rfl<|ai rfl<|ae (ox rfl rfl ag)<|ae (fc rfl rfl)<|av rfl<|ah) fun a w ab U=>b9 _ _ ?_
    refine cn ab rfl (fun cl=>?_) (fun cl=>?_)
    ·refine bx ab U (av rfl<|ah) fun a w ab U=>⟨(3),?_,ab.sub ⟨rfl,rfl,rfl,trivial⟩,?_⟩
     ·unfold aF.ir;rw [if_neg ag,if_neg bz,if_pos cl]
     ·exact U
    ·refine wp_skip<|⟨((aF.getInt xs).2.2),?_,ab.sub ⟨rfl,rfl,rfl,trivial⟩,?_⟩
     ·unfold aF.ir;rw [if_neg ag,if_neg bz,if_neg cl]
     ·exact U
 rintro e a w bh ab U
 subst a6;(try dsimp only at bh ab U)
 have he:=bh
 replace U:=ic U
 refine aD ab U (ai rfl<|ai rfl<|ai rfl<|av rfl<|av rfl<|av rfl<|ah) fun a w ab U=>wp_ret ?_
 exact b0 (rs:=[.tmp 4,.tmp 5,.tmp 6]) rfl ab U (vs:=[_,_,_]) ⟨rfl,rfl,rfl,trivial⟩ ay ay (aF.ajm he pU.1 pU.2)
theorem agA(v:Value)(xs:List UInt8)(s:Nat)(hs:0<s∧s≤16)(w:World)(aw:bo hc (cf w) v xs):cC Tryz.prog 99 [v,aA (s:Int)] w (fun r _ _=>r=.tuple [aA (aF.a7 s xs).1,aA (aF.a7 s xs).2.1,aA (aF.a7 s xs).2.2].toArray):=by
 refine c4 Tryz.func99 rfl Tryz.ntmps99 b4 fun a ab U=>?_
 have c6:=aw.1
 refine aD ab U (av rfl<|av rfl<|av rfl<|ah) fun a w ab U=>aD ab U (ai rfl<|ae (bV M0 rfl (fun w U=>RM _ _ w (bo.mono (U.le cM) aw)) bP)<|ai rfl<|ae (cQ rfl rfl)<|ae (cQ rfl rfl)<|ae (cQ rfl rfl)<|av rfl<|av rfl<|av rfl<|ah) fun a w ab U=>ax fun dX cq=>aD ab U (ai rfl<|ae (dS rfl rfl)<|ah) fun a w ab U=>e9 ab rfl (fun aU=>?_) (fun aU=>?_)
 ·refine ax fun dL b9=>bx ab U (ai rfl<|av rfl<|av rfl<|av rfl<|ah) fun a w ab U=>b9 _ _ ?_
  refine wp_ret<|b0 (rs:=[.tmp 4,.tmp 5,.tmp 6]) rfl ab U (vs:=[_,_,_]) ⟨rfl,rfl,rfl,trivial⟩ ay ay (aF.BV (aF.VQ aU))
 ·have aU:(aF.getInt xs).2.2=0:=by omega
  have aaN:=aF.y4 aU
  refine wp_skip<|cq _ _<|ax fun eN cK=>aD ab U (ai rfl<|ae (cU rfl rfl)<|ah) fun a w ab U=>cn ab rfl (fun bz=>?_) (fun bz=>?_)
  ·refine ax fun fk cP=>bx ab U (av rfl<|av rfl<|av rfl<|ah) fun a w ab U=>cP _ _ ?_
   refine wp_ret<|b0 (rs:=[.tmp 4,.tmp 5,.tmp 6]) rfl ab U (vs:=[_,_,_]) ⟨rfl,rfl,rfl,trivial⟩ ay ay (aF.BV (aF.VS aU bz))
  ·refine wp_skip<|cK _ _<|ax fun gB du=>bc fun hU ef=>aG ab U (ai rfl<|ai rfl<|ae (ee bX aw rfl)<|ae (fc rfl rfl)<|ai rfl<|ah) fun a w ab U=>?_
   refine gA 4 25 8 ab U rfl rfl rfl rfl rfl (fun aP=>have aP:=(by first | exact of_decide_eq_false aP | exact aP);aO 25 rfl rfl rfl (bE rfl)<|aO 25 rfl rfl rfl (bE rfl)<|aO 25 rfl rfl rfl (hK rfl rfl (by have h1:(aF.getInt xs).1*(s:Int)≤(aF.getInt xs).1*16:=Int.mul_le_mul_of_nonneg_left ag ag;have ar:0≤(aF.getInt xs).1*(s:Int):=Int.mul_nonneg ag ag;omega))<|aO 25 rfl rfl rfl (bE rfl)<|aO 25 rfl rfl rfl (ee bX aw rfl)<|aO 25 rfl rfl rfl (bE rfl)<|aO 25 rfl rfl rfl (nN rfl rfl ag)<|aO 25 rfl rfl rfl (fc rfl rfl)<|ah) rfl rfl fun a w ab U=>?_
   refine wpList_nil (ef _ _ ?_)
   refine df ab rfl (fun cl=>?_) (fun cl=>?_)
   ·(try simp only [dj] at cl)
    refine aD ab U (av rfl<|av rfl<|av rfl<|ah) fun a w ab U=>wp_ret ?_
    exact b0 (rs:=[.tmp 4,.tmp 5,.tmp 6]) rfl ab U (vs:=[_,_,_]) ⟨rfl,rfl,rfl,trivial⟩ ay ay (aF.BV (aF.VR hs.1 aU bz cl))
   ·(try simp only [dj] at cl)
    refine wp_skip<|du _ _<|aD ab U (ai rfl<|ai rfl<|av rfl<|av rfl<|av rfl<|ah) fun a w ab U=>wp_ret ?_
    exact b0 (rs:=[.tmp 4,.tmp 5,.tmp 6]) rfl ab U (vs:=[_,_,_]) ⟨rfl,rfl,rfl,trivial⟩ ay ay (aF.BV (aF.VT aU bz cl))
theorem TO(v:Value)(xs:List UInt8)  (w:World) (aw:bo hc (cf w) v xs):cC Tryz.prog 60 [v] w (fun r _ _=>r=.tuple [vs (aF.dZ xs).1,aA (aF.dZ xs).2.1,aA (aF.dZ xs).2.2].toArray):=by
 refine c4 Tryz.func60 rfl Tryz.ntmps60 b4 fun a ab U=>?_
 have c6:=aw.1
 have abY:=aF.TK 1 a8 xs
 refine aD ab U (av rfl<|av rfl<|av rfl<|ah) fun a w ab U=>aD ab U (ai rfl<|ae (bV Yl rfl (fun w U=>ajp _ _ 1 ag w (bo.mono (U.le cM) aw)) bP)<|ai rfl<|ae (cQ rfl rfl)<|ae (cQ rfl rfl)<|ae (cQ rfl rfl)<|av rfl<|av rfl<|av rfl<|ah) fun a w ab U=>ax fun dX cq=>aD ab U (ai rfl<|ae (dS rfl rfl)<|ah) fun a w ab U=>e9 ab rfl (fun aU=>?_) (fun aU=>?_)
 ·refine ax fun dL b9=>bx ab U (ai rfl<|av rfl<|av rfl<|av rfl<|ah) fun a w ab U=>b9 _ _ ?_
  refine wp_ret<|b0 (rs:=[.tmp 2,.tmp 3,.tmp 4]) rfl ab U (vs:=[_,_,_]) ⟨rfl,rfl,rfl,trivial⟩ ay ay (aF.Nt abY.1 aU)
 ·have aU:(aF.ir 1 xs).2.2=0:=by omega
  obtain ⟨l5,oV,rI,Hv⟩:=aF.ajo (s:=1) a8 aU
  refine wp_skip<|cq _ _<|aD ab U (ai rfl<|ai rfl<|ai rfl<|ai rfl<|b5 rfl rfl<|ae (As bX bI aw rfl rfl rfl ag)<|ae (tt bX bB bI (bo.cut aw ag) cM rfl)<|ai rfl<|ai rfl<|b5 rfl rfl<|av rfl<|av rfl<|av rfl<|ah) fun a w ab U=>wp_ret ?_
  exact b0 (rs:=[.tmp 2,.tmp 3,.tmp 4]) rfl ab U (vs:=[_,_,_]) ⟨rfl,rfl,rfl,trivial⟩ ay ay (aF.Nu l5 aU ⟨oV,by omega⟩)
theorem RL(v:Value)(xs:List UInt8)  (w:World) (aw:bo hc (cf w) v xs):cC Tryz.prog 62 [v] w (fun r _ _=>r=.tuple [vs (aF.dZ xs).1,aA (aF.dZ xs).2.1,aA (aF.dZ xs).2.2].toArray):=by
 refine c4 Tryz.func62 rfl Tryz.ntmps62 b4 fun a ab U=>?_
 have c6:=aw.1
 skip
 refine aD ab U (av rfl<|av rfl<|av rfl<|ah) fun a w ab U=>aD ab U (ai rfl<|ae (bV Ym rfl (fun w U=>agA _ _ 1 ag w (bo.mono (U.le cM) aw)) bP)<|ai rfl<|ae (cQ rfl rfl)<|ae (cQ rfl rfl)<|ae (cQ rfl rfl)<|av rfl<|av rfl<|av rfl<|ah) fun a w ab U=>ax fun dX cq=>aD ab U (ai rfl<|ae (dS rfl rfl)<|ah) fun a w ab U=>e9 ab rfl (fun aU=>?_) (fun aU=>?_)
 ·refine ax fun dL b9=>bx ab U (ai rfl<|av rfl<|av rfl<|av rfl<|ah) fun a w ab U=>b9 _ _ ?_
  refine wp_ret<|b0 (rs:=[.tmp 2,.tmp 3,.tmp 4]) rfl ab U (vs:=[_,_,_]) ⟨rfl,rfl,rfl,trivial⟩ ay ay (aF.Nt rfl aU)
 ·have aU:(aF.a7 1 xs).2.2=0:=by omega
  obtain ⟨_,oV,rI,Hv,_⟩:=aF.BX aU
  refine wp_skip<|cq _ _<|aD ab U (ai rfl<|ai rfl<|ai rfl<|ai rfl<|b5 rfl rfl<|ae (As bX bI aw rfl rfl rfl ag)<|ae (tt bX bB bI (bo.cut aw ag) cM rfl)<|ai rfl<|ai rfl<|b5 rfl rfl<|av rfl<|av rfl<|av rfl<|ah) fun a w ab U=>wp_ret ?_
  exact b0 (rs:=[.tmp 2,.tmp 3,.tmp 4]) rfl ab U (vs:=[_,_,_]) ⟨rfl,rfl,rfl,trivial⟩ ay ay (aF.Nu rfl aU ⟨oV,by omega⟩)
end
section
theorem fL:ba Tryz.prog 4 .bool 1 1 (Value.bool false):=⟨Tryz.underlying4,by kernel_rfl⟩
theorem lP:ba Tryz.prog 120 (.slice 126) 1 24 (Value.slice none 0 0):=⟨Tryz.underlying120,by kernel_rfl⟩
theorem jz : ba Tryz.prog 124 (.struct #[⟨ "blocks", 120, 0, false, "", "culprit/disk", 0⟩, ⟨ "pending", 121, 1, false, "", "culprit/disk", 24⟩, ⟨ "worn", 122, 2, false, "", "culprit/disk", 32⟩, ⟨ "off", 4, 3, false, "", "culprit/disk", 40⟩, ⟨ "left", 3, 4, false, "", "culprit/disk", 48⟩]) 5 56 (.agg ([Value.slice none 0 0] ++ [Value.map none, Value.map none] ++ [Value.bool false] ++ [Value.int .i64 0]).toArray) := ⟨Tryz.underlying124, by kernel_rfl⟩
abbrev hF:=ak.mV 124 126
abbrev po:=ak.EI 124 126
theorem Fz(h:ak.hT)(S:ak.aX)(i:Int)(w0:World)(bU:List aR){cm cR eW e2:aC}(dz:hF h S cm cR eW e2):e1 Tryz.prog 66 [.pointer (some ⟨h.b,0,none⟩),aA i] w0 bU [cm,cR,eW,e2] (po h (S) (aA (ak.check S i))):=by
 refine gk Tryz.func66 rfl Tryz.ntmps66 b4 fun cF a w ab U=>?_
 replace U:=fX U
 obtain ⟨l,bL,hV,hQ,bT,h5,hr,bC,hl,iU,hX,iH,hf,eZ,rfl,rfl,rfl,rfl⟩:=dz
 have fF:=bC.lo
 have gJ:=bC.aH
 have kK:=bC.lf
 have kL:=bC.iM
 have c6:=ak.nB S
 have m1:=ak.nZ bC
 replace U:=fX U
 refine aD ab U (av rfl<|ah) fun a w ab U=>ax fun cG bJ=>wp_block ?_
 refine aD ab U (ai rfl<|ae (bN rfl)<|ae (aZ jz rfl rfl (s':=0) az)<|ae (bf fL 0 rfl rfl rfl rfl)<|av rfl<|ah) fun a w ab U=>df ab rfl (fun aU=>?_) (fun aU=>?_)
 ·refine ax fun et cB=>bx ab U (av rfl<|ah) fun a w ab U=>cB _ _ ?_
  refine wp_ret<|cY (rs:=[.tmp 4]) rfl ab U (vs:=[_]) ⟨rfl,trivial⟩ [] [_,_,_,_] al al (ak.jl (S:=S) ⟨rfl,rfl,_,_,_,_,rfl,⟨l,bL,hV,hQ,bT,h5,hr,bC,hl,iU,hX,iH,hf,eZ,rfl,rfl,rfl,rfl⟩⟩ (rfl) (by rw [ak.wo (by simpa using aU)]))
 ·refine ax fun dL b9=>dM ?_
  refine aG ab U (ai rfl<|ae (cU rfl rfl)<|ai rfl<|ah) fun a w ab U=>gA 2 13 7 ab U rfl rfl rfl rfl rfl (fun aP=>have aP:=(by first | exact of_decide_eq_false aP | exact aP);aO 13 rfl rfl rfl (bE rfl)<|aO 13 rfl rfl rfl (bE rfl)<|aO 13 rfl rfl rfl (bN rfl)<|aO 13 rfl rfl rfl (aZ jz rfl rfl (s':=0) az)<|aO 13 rfl rfl rfl (bf lP 0 rfl rfl rfl rfl)<|aO 13 rfl rfl rfl (hA lP 1 rfl rfl)<|aO 13 rfl rfl rfl (ke rfl rfl)<|ah) rfl rfl fun a w ab U=>?_
  refine aG ab U (av rfl<|ah) fun a w ab U=>wpList_nil (b9 _ _ ?_)
  refine df ab rfl (fun bz=>?_) (fun bz=>?_)
  ·(try simp only [dj] at bz)
   refine aD ab U (av rfl<|ah) fun a w ab U=>wp_ret ?_
   exact cY (rs:=[.tmp 4]) rfl ab U (vs:=[_]) ⟨rfl,trivial⟩ [] [_,_,_,_] al al (ak.jl (S:=S) ⟨rfl,rfl,_,_,_,_,rfl,⟨l,bL,hV,hQ,bT,h5,hr,bC,hl,iU,hX,iH,hf,eZ,rfl,rfl,rfl,rfl⟩⟩ (rfl) (by rw [ak.BU (by rw [aU];simp) ag]))
  ·(try simp only [dj] at bz)
   refine wp_skip<|bJ _ _<|aD ab U (av rfl<|ah) fun a w ab U=>wp_ret ?_
   exact cY (rs:=[.tmp 4]) rfl ab U (vs:=[_]) ⟨rfl,trivial⟩ [] [_,_,_,_] al al (ak.jl (S:=S) ⟨rfl,rfl,_,_,_,_,rfl,⟨l,bL,hV,hQ,bT,h5,hr,bC,hl,iU,hX,iH,hf,eZ,rfl,rfl,rfl,rfl⟩⟩ (rfl) (by rw [ak.pG (by rw [aU];simp) ag]))
theorem LZ(h:ak.hT)(S:ak.aX)(w0:World)(bU:List aR){cm cR eW e2:aC}(dz:hF h S cm cR eW e2):e1 Tryz.prog 182 [.pointer (some ⟨h.b,0,none⟩)] w0 bU [cm,cR,eW,e2] (po h ((ak.step S).1) (aA (ak.step S).2)):=by
 refine gk Tryz.func182 rfl Tryz.ntmps182 b4 fun cF a w ab U=>?_
 replace U:=fX U
 obtain ⟨l,bL,hV,hQ,bT,h5,hr,bC,hl,iU,hX,iH,hf,eZ,rfl,rfl,rfl,rfl⟩:=dz
 have fF:=bC.lo
 have gJ:=bC.aH
 have kK:=bC.lf
 have kL:=bC.iM
 have c6:=ak.nB S
 have m1:=ak.nZ bC
 replace U:=fX U
 refine aD ab U (av rfl<|ah) fun a w ab U=>ax fun cG bJ=>wp_block ?_
 refine aD ab U (ai rfl<|ae (bN rfl)<|ae (aZ jz rfl rfl (s':=0) az)<|ae (bf bH 0 rfl rfl rfl rfl)<|ae (gq rfl rfl)<|av rfl<|ah) fun a w ab U=>cn ab rfl (fun aU=>?_) (fun aU=>?_)
 ·refine ax fun et cB=>dM ?_
  refine aG ab U (ai rfl<|ae (bN rfl)<|ae (aZ jz rfl rfl (s':=0) az)<|ah) fun a w ab U=>aJ ab U rfl (dq fL 0 rfl rfl rfl rfl (by simp)) ?_
  rintro _ _ _ a w ⟨rfl,rfl,rfl⟩ ab U
  replace U:aB _ (_) (.blk _ _ ([_,_,_,_,_].set 3 _)::_::_::_::_) _:=U
  simp only [dd] at U
  replace U:=fX U
  refine wpList_nil (cB _ _ ?_)
  refine aD ab U (av rfl<|ah) fun a w ab U=>wp_ret ?_
  exact cY (rs:=[.tmp 2]) rfl ab U (vs:=[_]) ⟨rfl,trivial⟩ [] [_,_,_,_] al al (ak.jl (S:=⟨S.s,true,S.left⟩) ⟨rfl,rfl,_,_,_,_,rfl,⟨l,bL,hV,hQ,bT,h5,hr,⟨bC.sec,bC.lo,bC.aH,bC.lf,bC.iM⟩,hl,iU,hX,iH,hf,eZ,rfl,rfl,rfl,rfl⟩⟩ (by rw [ak.AS ag]) (by rw [ak.AS ag]))
 ·refine ax fun eN cK=>bx ab U (ai rfl<|ae (bN rfl)<|ae (aZ jz rfl rfl (s':=0) az)<|ae (bf bH 0 rfl rfl rfl rfl)<|ae (fc rfl rfl)<|av rfl<|ah) fun a w ab U=>cK _ _ ?_
  refine cn ab rfl (fun bz=>?_) (fun bz=>?_)
  ·refine dM<|aG ab U (ai rfl<|ae (bN rfl)<|ae (aZ jz rfl rfl (s':=0) az)<|ae (bf bH 0 rfl rfl rfl rfl)<|fy rfl rfl<|ae (bN rfl)<|ae (aZ jz rfl rfl (s':=0) az)<|ah) fun a w ab U=>aJ ab U rfl (dq bH 0 rfl rfl rfl rfl (by simp)) ?_
   rintro _ _ _ a w ⟨rfl,rfl,rfl⟩ ab U
   replace U:aB _ (_) (.blk _ _ ([_,_,_,_,_].set 4 _)::_::_::_::_) _:=U
   simp only [dd] at U
   replace U:=fX U
   refine wpList_nil (bJ _ _ ?_)
   refine aD ab U (av rfl<|ah) fun a w ab U=>wp_ret ?_
   exact cY (rs:=[.tmp 2]) rfl ab U (vs:=[_]) ⟨rfl,trivial⟩ [] [_,_,_,_] al al (ak.jl (S:=⟨S.s,S.off,S.left-1⟩) ⟨rfl,rfl,_,_,_,_,rfl,⟨(l-1),bL,hV,hQ,bT,h5,hr,⟨bC.sec,bC.lo,bC.aH,(by dsimp only;omega),(by dsimp only;omega)⟩,(by dsimp only;omega),ag,hX,iH,hf,eZ,rfl,rfl,rfl,rfl⟩⟩ (by rw [ak.D5 ag]) (by rw [ak.D5 ag]))
  ·refine wp_skip<|bJ _ _<|aD ab U (av rfl<|ah) fun a w ab U=>wp_ret ?_
   exact cY (rs:=[.tmp 2]) rfl ab U (vs:=[_]) ⟨rfl,trivial⟩ [] [_,_,_,_] al al (ak.jl (S:=S) ⟨rfl,rfl,_,_,_,_,rfl,⟨l,bL,hV,hQ,bT,h5,hr,bC,hl,iU,hX,iH,hf,eZ,rfl,rfl,rfl,rfl⟩⟩ (by rw [ak.xU ag]) (by rw [ak.xU ag]))
theorem LN(h:ak.hT)(S:ak.aX)(w0:World)(bU:List aR){cm cR eW e2:aC}(dz:hF h S cm cR eW e2):e1 Tryz.prog 93 [.pointer (some ⟨h.b,0,none⟩)] w0 bU [cm,cR,eW,e2] (po h (S) (aA (S.s.length:Int))):=by
 refine gk Tryz.func93 rfl Tryz.ntmps93 b4 fun cF a w ab U=>?_
 replace U:=fX U
 obtain ⟨l,bL,hV,hQ,bT,h5,hr,bC,hl,iU,hX,iH,hf,eZ,rfl,rfl,rfl,rfl⟩:=dz
 have fF:=bC.lo
 have gJ:=bC.aH
 have kK:=bC.lf
 have kL:=bC.iM
 have c6:=ak.nB S
 have m1:=ak.nZ bC
 replace U:=fX U
 refine aD ab U (av rfl<|ah) fun a w ab U=>aD ab U (ai rfl<|ae (bN rfl)<|ae (aZ jz rfl rfl (s':=0) az)<|ae (bf lP 0 rfl rfl rfl rfl)<|ae (hA lP 1 rfl rfl)<|av rfl<|ah) fun a w ab U=>wp_ret ?_
 exact cY (rs:=[.tmp 2]) rfl ab U (vs:=[_]) ⟨rfl,trivial⟩ [] [_,_,_,_] al al (ak.jl (S:=S) ⟨rfl,rfl,_,_,_,_,rfl,⟨l,bL,hV,hQ,bT,h5,hr,bC,hl,iU,hX,iH,hf,eZ,rfl,rfl,rfl,rfl⟩⟩ (rfl) (rfl))
theorem FJ(h:ak.hT)(S:ak.aX)(n:Int)(bD : -9223372036854775808≤n∧n≤9223372036854775807)(w0:World)(bU:List aR){cm cR eW e2:aC}(dz:hF h S cm cR eW e2):e1 Tryz.prog 46 [.pointer (some ⟨h.b,0,none⟩),aA n] w0 bU [cm,cR,eW,e2] (po h (ak.dx S n) (.tuple ([]:List Value).toArray)):=by
 refine gk Tryz.func46 rfl Tryz.ntmps46 b4 fun cF a w ab U=>?_
 replace U:=fX U
 obtain ⟨l,bL,hV,hQ,bT,h5,hr,bC,hl,iU,hX,iH,hf,eZ,rfl,rfl,rfl,rfl⟩:=dz
 have fF:=bC.lo
 have gJ:=bC.aH
 have kK:=bC.lf
 have kL:=bC.iM
 have c6:=ak.nB S
 have m1:=ak.nZ bC
 replace U:=fX U
 refine dM<|aG ab U (ai rfl<|ai rfl<|ae (bN rfl)<|ae (aZ jz rfl rfl (s':=0) az)<|ah) fun a w ab U=>aJ ab U rfl (dq bH 0 rfl rfl rfl rfl (by simp)) ?_
 rintro _ _ _ a w ⟨rfl,rfl,rfl⟩ ab U
 replace U:aB _ (_) (.blk _ _ ([_,_,_,_,_].set 4 _)::_::_::_::_) _:=U
 simp only [dd] at U
 replace U:=fX U
 refine wpList_nil ?_
 -- falls off the end
 exact cY (rs:=[]) rfl ab U (vs:=[]) trivial [] [_,_,_,_] al al (ak.jl (S:=ak.dx S n) ⟨rfl,rfl,_,_,_,_,rfl,⟨n,bL,hV,hQ,bT,h5,hr,(ak.Dx bC bD.2),rfl,bD.1,hX,iH,hf,eZ,rfl,rfl,rfl,rfl⟩⟩ (rfl) (rfl))
end
section
theorem r3:ba Tryz.prog 121 (.map 3 126) 1 8 (Value.map none):=⟨Tryz.underlying121,by kernel_rfl⟩
theorem j2:ba Tryz.prog 126 (.array 64 5) 64 64 (.agg (List.replicate 64 (Value.int .u8 0)).toArray):=⟨Tryz.underlying126,by kernel_rfl⟩
theorem F9:b1 Tryz.prog 66:=b6 Tryz.func66
theorem ML:b1 Tryz.prog 182:=b6 Tryz.func182
theorem LW(h:ak.hT)(S:ak.aX)(i:Int)(aH : -9223372036854775808≤i∧i≤9223372036854775807)(w0:World)(bU:List aR){cm cR eW e2:aC}(dz:hF h S cm cR eW e2):e1 Tryz.prog 29 [.pointer (some ⟨h.b,0,none⟩),aA i] w0 bU [cm,cR,eW,e2] (po h (S) (.tuple [vs (ak.read S i).1,aA (ak.read S i).2].toArray)):=by
 refine gk Tryz.func29 rfl Tryz.ntmps29 b4 fun cF a w ab U=>?_
 replace U:=fX U
 refine aD ab U (av rfl<|av rfl<|ah) fun a w ab U=>ax fun cG bJ=>bc fun dX cq=>aG ab U (ai rfl<|ai rfl<|ah) fun a w ab U=>aJ ab U rfl (dv F9 rfl (List.Perm.refl _) (by exact (Fz _ _ _ _ _  dz))) ?_
 rintro _ _ _ a w ⟨_,_,rfl,rfl,⟨rfl,rfl,tE,tF,tG,tH,rfl,nF⟩⟩ ab U
 replace U:=fX U
 refine aG ab U (av rfl<|ah) fun a w ab U=>wpList_nil (cq _ _ ?_)
 refine aD ab U (ai rfl<|ae (dS rfl rfl)<|ah) fun a w ab U=>e9 ab rfl (fun aU=>?_) (fun aU=>?_)
 ·refine ax fun dL b9=>bx ab U (ai rfl<|av rfl<|av rfl<|ah) fun a w ab U=>b9 _ _ ?_
  refine wp_ret<|cY (rs:=[.tmp 4,.tmp 5]) rfl ab U (vs:=[_,_]) ⟨rfl,rfl,trivial⟩ [] [_,_,_,_] al al (ak.jl (S:=S) ⟨rfl,rfl,_,_,_,_,rfl,nF⟩ (rfl) (by rw [ak.I8 aU]))
 ·have h9:ak.check S i=0:=by omega
  obtain ⟨oh,hg⟩:=ak.BT h9
  obtain ⟨l,bL,hV,hQ,bT,h5,hr,bC,hl,iU,hX,iH,hf,eZ,rfl,rfl,rfl,rfl⟩:=nF
  have fF:=bC.lo
  have gJ:=bC.aH
  have kK:=bC.lf
  have kL:=bC.iM
  have c6:=ak.nB S
  have m1:=ak.nZ bC
  replace U:=fX U
  have s5:=ak.Qr bC hg
  refine wp_skip<|bJ _ _<|ax fun eN cK=>bc fun fa cT=>aG ab U (ai rfl<|ae (bN rfl)<|ae (aZ jz rfl rfl (s':=0) az)<|ae (bf r3 0 rfl rfl rfl rfl)<|ai rfl<|ae (afU r3 j2 (xe bH) 2 rfl rfl rfl hX.1 (fun _ _=>trivial) trivial (ak.Qo hf hg) (ak.ae8 hf hg))<|ai rfl<|ae (cQ rfl rfl)<|ae (cQ rfl rfl)<|ah) fun a w ab U=>?_
  refine aJ ab U rfl (dg j2) ?_
  rintro _ _ _ a w ⟨BG,rfl,rfl,rfl⟩ ab U
  rw [show List.replicate 64 (Value.int .u8 0)=(List.replicate 64 (0:UInt8)).map bn from by rw [List.map_replicate] <;> rfl] at U
  refine aJ ab U rfl (cJ j2 0 rfl rfl rfl rfl aI bM aI) ?_
  rintro _ _ _ a w ⟨rfl,rfl,rfl⟩ ab U
  replace U:=iW U
  refine aG ab U (av rfl<|ah) fun a w ab U=>wpList_nil (cT _ _ ?_)
  refine aD ab U (ai rfl<|ah) fun a w ab U=>df ab rfl (fun bz=>?_) (fun bz=>?_)
  ·refine ax fun gB du=>bx ab U (ae (rZ j2 bI rfl)<|ae (Ai bX bB bI 0 rfl rfl aI)<|av rfl<|av rfl<|ah) fun a w ab U=>du _ _ ?_
   refine wp_ret ?_
   replace U:=(((U.perm (.swap _ _ _)).perm hN).perm j6).perm km
   exact cY (rs:=[.tmp 4,.tmp 5]) rfl ab U (vs:=[_,_]) ⟨rfl,rfl,trivial⟩ [] [_,_,_,_] al (c2.k.k.k.k) (ak.jl (S:=S) ⟨rfl,rfl,_,_,_,_,rfl,⟨l,bL,hV,hQ,bT,h5,hr,bC,hl,iU,hX,iH,hf,eZ,rfl,rfl,rfl,rfl⟩⟩ (rfl) (by rw [ak.RD h9 bz,ak.IH bz]))
  ·refine wp_skip<|cK _ _<|aD ab U (ai rfl<|ae (bN rfl)<|ae (aZ jz rfl rfl (s':=0) az)<|ae (bf lP 1 rfl rfl rfl rfl)<|ai rfl<|ae (fY lP j2 2 rfl rfl rfl ag)<|ae (af7 j2 bI 2 rfl rfl ag)<|ae (afq bX bB bI 2 rfl (ak.nB S).symm (ak.nZ bC) rfl ag)<|av rfl<|av rfl<|ah) fun a w ab U=>wp_ret ?_
   replace U:=(((U.perm (.swap _ _ _)).perm hN).perm j6).perm km
   exact cY (rs:=[.tmp 4,.tmp 5]) rfl ab U (vs:=[_,_]) ⟨rfl,rfl,trivial⟩ [] [_,_,_,_] al (c2.k.k.k.k) (ak.jl (S:=S) ⟨rfl,rfl,_,_,_,_,rfl,⟨l,bL,hV,hQ,bT,h5,hr,bC,hl,iU,hX,iH,hf,eZ,rfl,rfl,rfl,rfl⟩⟩ (rfl) (by rw [ak.AF h9 (by rw [bz];simp),ak.wk hg]))
theorem Wu(h:ak.hT)(S:ak.aX)(i:Int)(aH : -9223372036854775808≤i∧i≤9223372036854775807)(t:List UInt8)(w0:World)(bU:List aR){cm cR eW e2:aC}(dz:hF h S cm cR eW e2):e1 Tryz.prog 150 [.pointer (some ⟨h.b,0,none⟩),aA i,vs t] w0 bU [cm,cR,eW,e2] (po h ((ak.write S i t).1) (aA (ak.write S i t).2)):=by
 refine gk Tryz.func150 rfl Tryz.ntmps150 b4 fun cF a w ab U=>?_
 replace U:=fX U
 refine aD ab U (av rfl<|ah) fun a w ab U=>ax fun cG bJ=>bc fun dX cq=>aG ab U (ai rfl<|ai rfl<|ah) fun a w ab U=>aJ ab U rfl (dv F9 rfl (List.Perm.refl _) (by exact (Fz _ _ _ _ _  dz))) ?_
 rintro _ _ _ a w ⟨_,_,rfl,rfl,⟨rfl,rfl,tE,tF,tG,tH,rfl,nF⟩⟩ ab U
 replace U:=fX U
 refine aG ab U (av rfl<|ah) fun a w ab U=>wpList_nil (cq _ _ ?_)
 refine aD ab U (ai rfl<|ae (dS rfl rfl)<|ah) fun a w ab U=>e9 ab rfl (fun aU=>?_) (fun aU=>?_)
 ·refine ax fun dL b9=>bx ab U (ai rfl<|av rfl<|ah) fun a w ab U=>b9 _ _ ?_
  refine wp_ret<|cY (rs:=[.tmp 6]) rfl ab U (vs:=[_]) ⟨rfl,trivial⟩ [] [_,_,_,_] al al (ak.jl (S:=S) ⟨rfl,rfl,_,_,_,_,rfl,nF⟩ (by rw [ak.Bk aU]) (by rw [ak.Bk aU]))
 ·have h9:ak.check S i=0:=by omega
  obtain ⟨oh,hg⟩:=ak.BT h9
  refine wp_skip<|bJ _ _<|ax fun eN cK=>aD ab U (ai rfl<|ae (hZ bB rfl)<|ae (dS rfl rfl)<|ah) fun a w ab U=>e9 ab rfl (fun bz=>?_) (fun bz=>?_)
  ·refine ax fun fk cP=>bx ab U (av rfl<|ah) fun a w ab U=>cP _ _ ?_
   refine wp_ret<|cY (rs:=[.tmp 6]) rfl ab U (vs:=[_]) ⟨rfl,trivial⟩ [] [_,_,_,_] al al (ak.jl (S:=S) ⟨rfl,rfl,_,_,_,_,rfl,nF⟩ (by rw [ak.Kd h9 ag]) (by rw [ak.Kd h9 ag]))
  ·have fo:t.length=64:=by omega
   refine wp_skip<|cK _ _<|ax fun gB du=>bc fun hU ef=>aG ab U (ai rfl<|ah) fun a w ab U=>?_
   refine aJ ab U rfl (dv ML rfl (List.Perm.refl _) (by exact (LZ _ _ _ _  nF))) ?_
   rintro _ _ _ a w ⟨_,_,rfl,rfl,⟨rfl,rfl,I2,I3,I4,I5,rfl,qs⟩⟩ ab U
   replace U:=fX U
   refine aG ab U (av rfl<|ah) fun a w ab U=>wpList_nil (ef _ _ ?_)
   refine aD ab U (ai rfl<|ae (dS rfl rfl)<|ah) fun a w ab U=>e9 ab rfl (fun cl=>?_) (fun cl=>?_)
   ·refine ax fun iZ eY=>bx ab U (ai rfl<|av rfl<|ah) fun a w ab U=>eY _ _ ?_
    refine wp_ret<|cY (rs:=[.tmp 6]) rfl ab U (vs:=[_]) ⟨rfl,trivial⟩ [] [_,_,_,_] al al (ak.jl (S:=(ak.step S).1) ⟨rfl,rfl,_,_,_,_,rfl,qs⟩ (by rw [ak.vU h9 fo cl]) (by rw [ak.vU h9 fo cl]))
   ·have bG:(ak.step S).2=0:=by omega
    have uZ:0≤i∧i<(ak.step S).1.s.length:=by rw [ak.D6];exact hg
    obtain ⟨l,bL,hV,hQ,bT,h5,hr,bC,hl,iU,hX,iH,hf,eZ,rfl,rfl,rfl,rfl⟩:=qs
    have fF:=bC.lo
    have gJ:=bC.aH
    have kK:=bC.lf
    have kL:=bC.iM
    have c6:=ak.nB (ak.step S).1
    have m1:=ak.nZ bC
    replace U:=fX U
    refine wp_skip<|du _ _<|ax fun iR eO=>?_
    revert U;revert ab;apply hL (J:=tX (α0:=Value) (α1:=aR) (α2:=List MapEntry) (α3:=Nat) 32 _ _ _ _ _) #[false,false,false,false,false,false,false,false,false,false] 10 mixed rfl rfl
    ·intro w ab U
     refine aS 0 rfl ab (U.ao al (e8)) (bE rfl) fun a ab=>aS 1 rfl ab (U.ao al (e8)) (bN rfl) fun a ab=>aS 2 rfl ab (U.ao al (e8)) (aZ jz rfl rfl (s':=0) az) fun a ab=>aS 3 rfl ab (U.ao al (eS.k)) (bf r3 0 rfl rfl rfl rfl) fun a ab=>aS 4 rfl ab (U.ao al (e8)) (bE rfl) fun a ab=>?_
     refine aS 5 rfl ab (U.ao al (e8)) (bE rfl) fun a ab=>bY 6 rfl rfl ab U rfl (uD bB bX bI rfl ag) ?_
     rintro Ba _ _ a w ⟨T2,rfl,rfl,C2⟩ ab U
     refine ⟨⟨aq,.inr (U.ao (c2) (e8)),.inr (U.ao (c2) (eS.k)),.inr (U.ao (c2) (e8)),.inr (U.ao (c2) (e8)),.inr (U.ao (c2) (e8)),trivial⟩,?_⟩
     refine aS 7 rfl ab (U.ao al (e8)) (IZ j2 C2 rfl aI a8) fun a ab=>aS 8 rfl ab (U.ao al (e8)) (IS j2 C2 (.inr (by simp)) rfl rfl aI a8) fun a ab=>bY 9 rfl rfl ab U rfl (FL r3 (xe bH) 2 rfl rfl rfl rfl hX (fun _ _=>trivial) trivial) ?_
     rintro _ _ _ a w ⟨B3,BR,sI,rfl,rfl,rfl⟩ ab U
     replace U:=rS U
     refine ⟨⟨aq,aq,aq,aq,aq,aq,aq,aq,trivial⟩,?_⟩
     exact ev az (oY Ba T2 B3 BR ((And.intro C2 (And.intro sI trivial))) (ab.sub (L':=[]) trivial) U)
    rintro a w ⟨Ba,T2,B3,BR,⟨C2,sI, -⟩,ab,U⟩
    (try dsimp only at ab U)
    refine eO _ _<|aD ab U (av rfl<|ah) fun a w ab U=>wp_ret ?_
    exact cY (rs:=[.tmp 6]) rfl ab U (vs:=[_]) ⟨rfl,trivial⟩ [] [_,_,_,_] (c2) al (ak.jl (S:=ak.mark (ak.step S).1 i t) ⟨rfl,rfl,_,_,_,_,rfl,⟨l,_,_,_,bT,h5,hr,(ak.P8 bC uZ fo),hl,iU,sI,iH,(hf.put (ak.ae9 uZ t)),(eZ.eq (ak.Ez uZ rfl)),rfl,(by rw [ak.adF uZ,ak.Pz]),rfl,rfl⟩⟩ (by rw [ak.vV h9 fo bG]) (by rw [ak.vV h9 fo bG]))
end
section
theorem Eg:ba Tryz.prog 122 (.map 3 4) 1 8 (Value.map none):=⟨Tryz.underlying122,by kernel_rfl⟩
theorem LY(h:ak.hT)(S:ak.aX)(i p:Int)(aH:0≤i∧i<S.s.length)(aT:(S.at i).dt=true)(bO : -9223372036854775808≤p∧p≤9223372036854775807)(w0:World)(bU:List aR){cm cR eW e2:aC}(dz:hF h S cm cR eW e2):e1 Tryz.prog 89 [.pointer (some ⟨h.b,0,none⟩),aA i,aA p] w0 bU [cm,cR,eW,e2] (po h (S.put i (ak.iQ (S.at i) p)) (.tuple ([]:List Value).toArray)):=by
 refine gk Tryz.func89 rfl Tryz.ntmps89 b4 fun cF a w ab U=>?_
 replace U:=fX U
 obtain ⟨l,bL,hV,hQ,bT,h5,hr,bC,hl,iU,hX,iH,hf,eZ,rfl,rfl,rfl,rfl⟩:=dz
 have fF:=bC.lo
 have gJ:=bC.aH
 have kK:=bC.lf
 have kL:=bC.iM
 have c6:=ak.nB S
 have m1:=ak.nZ bC
 replace U:=fX U
 have s5:=ak.Qr bC aH
 have wS:((ak.bl S).getD i.toNat []).length=64:=by rw [ak.wk aH];exact (bC.at aH).1
 refine bc fun eJ c8=>aG ab U (ai rfl<|ae (bN rfl)<|ae (aZ jz rfl rfl (s':=0) az)<|ae (bf r3 0 rfl rfl rfl rfl)<|ai rfl<|ae (QS r3 j2 (xe bH) 2 rfl rfl rfl hX.1 (fun _ _=>trivial) trivial (ak.Qo hf aH))<|ah) fun a w ab U=>aJ ab U rfl (dg j2) ?_
 rintro _ _ _ a w ⟨ck,rfl,rfl,rfl⟩ ab U
 rw [show List.replicate 64 (Value.int .u8 0)=(List.replicate 64 (0:UInt8)).map bn from by rw [List.map_replicate] <;> rfl] at U
 refine aJ ab U rfl (cJ j2 0 rfl rfl rfl rfl aI bM aI) ?_
 rintro _ _ _ a w ⟨rfl,rfl,rfl⟩ ab U
 replace U:=iW U
 refine wpList_nil (c8 _ _ ?_)
 refine bc fun cG bJ=>aG ab U (ai rfl<|ae (bN rfl)<|ae (aZ jz rfl rfl (s':=0) az)<|ae (bf r3 1 rfl rfl rfl rfl)<|ai rfl<|ah) fun a w ab U=>aJ ab U rfl (WK r3 (xe bH) 3 rfl rfl rfl hX (fun _ _=>trivial) trivial) ?_
 rintro _ _ _ a w ⟨B3,BR,sI,rfl,rfl⟩ ab U
 replace U:=iW U
 refine wpList_nil (bJ _ _ ?_)
 refine ax fun dX cq=>AI mixed az U ?_
 refine jL ab (ai rfl<|ae (bN rfl)<|ae (aZ jz rfl rfl (s':=0) az)<|ae (bf Eg 1 rfl rfl rfl rfl)<|ai rfl<|ae (QS Eg fL (xe bH) 4 rfl rfl rfl iH.1 (fun _ _=>trivial) trivial (ak.ajM eZ aH))<|ae (fZ rfl)<|ai rfl<|ah) fun a ab=>Kb 7 25 9 ab rfl rfl rfl rfl rfl (fun aP=>have aP:=aP;aO 25 rfl rfl rfl (gh j2 0 rfl rfl aI rfl)<|aO 25 rfl rfl rfl (bE rfl)<|aO 25 rfl rfl rfl (bN rfl)<|aO 25 rfl rfl rfl (aZ jz rfl rfl (s':=0) az)<|aO 25 rfl rfl rfl (bf lP 1 rfl rfl rfl rfl)<|aO 25 rfl rfl rfl (bE rfl)<|aO 25 rfl rfl rfl (fY lP j2 2 rfl rfl rfl ag)<|aO 25 rfl rfl rfl (afK j2 2 rfl (ak.nZ bC) rfl ag a8 rfl)<|aO 25 rfl rfl rfl (QU j2 bI az rfl rfl aI aI)<|ah) rfl rfl fun a ab=>?_
 refine Bh ?_
 clear U;intro w U
 refine cq _ _<|df ab rfl (fun aU=>?_) (fun aU=>?_)
 ·(try simp only [dj] at aU)
  refine h2 11 mixed az ab U (ai rfl<|ae (bN rfl)<|ae (aZ jz rfl rfl (s':=0) az)<|ae (bf lP 1 rfl rfl rfl rfl)<|ai rfl<|ae (fY lP j2 2 rfl rfl rfl ag)<|ai rfl<|ae (IW rfl rfl)<|ae (tB rfl rfl)<|ae (af8 j2 bI 2 rfl rfl rfl ag ag)<|ae (rZ j2 bI rfl)<|ah) fun a w ab U=>aJ ab U rfl (WI bX bI 2 0 rfl rfl m1 c6.symm rfl rfl ag ag s5) ?_
  rintro _ _ _ a w ⟨rfl,rfl,rfl⟩ ab U
  replace U:=iW U
  refine wpList_nil ?_
  -- falls off the end
  replace U:=(((U.perm (.swap _ _ _)).perm hN).perm j6).perm km
  exact cY (rs:=[]) rfl ab U (vs:=[]) trivial [] [_,_,_,_] al (c2.k.k.k.k) (ak.jl (S:=S.put i (ak.iQ (S.at i) p)) ⟨rfl,rfl,_,_,_,_,rfl,⟨l,_,_,_,bT,h5,hr,(bC.put (ak.JC (bC.at aH) aT p)),hl,iU,sI,iH,(hf.del (ak.Qq aH rfl)),(eZ.eq (ak.Ez aH rfl)),rfl,(by rw [ak.Su,← ak.ahR aH aT (by simpa using aU.1)];try rfl),rfl,rfl⟩⟩ (rfl) (rfl))
 ·(try simp only [dj] at aU)
  refine wp_skip ?_
  -- falls off the end
  replace U:=(((U.perm (.swap _ _ _)).perm hN).perm j6).perm km
  exact cY (rs:=[]) rfl ab U (vs:=[]) trivial [] [_,_,_,_] al (c2.k.k.k.k) (ak.jl (S:=S.put i (ak.iQ (S.at i) p)) ⟨rfl,rfl,_,_,_,_,rfl,⟨l,_,_,_,bT,h5,hr,(bC.put (ak.JC (bC.at aH) aT p)),hl,iU,sI,iH,(hf.del (ak.Qq aH rfl)),(eZ.eq (ak.Ez aH rfl)),rfl,(by rw [ak.Su,← ak.ahS bC aH aT (aU.imp (fun cA=>by simpa using cA) (fun cA=>by simpa using cA))]),rfl,rfl⟩⟩ (rfl) (rfl))
theorem Wr(h:ak.hT)(S:ak.aX)(i b:Int)(aH : -9223372036854775808≤i∧i≤9223372036854775807)(aw : -9223372036854775808≤b∧b≤9223372036854775807)(w0:World)(bU:List aR){cm cR eW e2:aC}(dz:hF h S cm cR eW e2):e1 Tryz.prog 28 [.pointer (some ⟨h.b,0,none⟩),aA i,aA b] w0 bU [cm,cR,eW,e2] (po h ((ak.hi S i b).1) (aA (ak.hi S i b).2)):=by
 refine gk Tryz.func28 rfl Tryz.ntmps28 b4 fun cF a w ab U=>?_
 replace U:=fX U
 obtain ⟨l,bL,hV,hQ,bT,h5,hr,bC,hl,iU,hX,iH,hf,eZ,rfl,rfl,rfl,rfl⟩:=dz
 have fF:=bC.lo
 have gJ:=bC.aH
 have kK:=bC.lf
 have kL:=bC.iM
 have c6:=ak.nB S
 have m1:=ak.nZ bC
 replace U:=fX U
 refine aD ab U (av rfl<|ah) fun a w ab U=>ax fun cG bJ=>bc fun dX cq=>aG ab U (ai rfl<|ae (cU rfl rfl)<|ai rfl<|ah) fun a w ab U=>gA 2 9 7 ab U rfl rfl rfl rfl rfl (fun aP=>have aP:=(by first | exact of_decide_eq_false aP | exact aP);aO 9 rfl rfl rfl (bE rfl)<|aO 9 rfl rfl rfl (bE rfl)<|aO 9 rfl rfl rfl (bN rfl)<|aO 9 rfl rfl rfl (aZ jz rfl rfl (s':=0) az)<|aO 9 rfl rfl rfl (bf lP 0 rfl rfl rfl rfl)<|aO 9 rfl rfl rfl (hA lP 1 rfl rfl)<|aO 9 rfl rfl rfl (ke rfl rfl)<|ah) rfl rfl fun a w ab U=>?_
 refine aG ab U (ai rfl<|ah) fun a w ab U=>gA 11 18 2 ab U rfl rfl rfl rfl rfl (fun aP=>have aP:=aP;aO 18 rfl rfl rfl (bE rfl)<|aO 18 rfl rfl rfl (cU rfl rfl)<|ah) rfl rfl fun a w ab U=>?_
 refine aG ab U (ai rfl<|ah) fun a w ab U=>gA 15 22 2 ab U rfl rfl rfl rfl rfl (fun aP=>have aP:=aP;aO 22 rfl rfl rfl (bE rfl)<|aO 22 rfl rfl rfl (ke rfl rfl)<|ah) rfl rfl fun a w ab U=>?_
 refine wpList_nil (cq _ _ ?_)
 refine df ab rfl (fun aU=>?_) (fun aU=>?_)
 ·(try simp only [dj] at aU)
  refine aD ab U (av rfl<|ah) fun a w ab U=>wp_ret ?_
  exact cY (rs:=[.tmp 6]) rfl ab U (vs:=[_]) ⟨rfl,trivial⟩ [] [_,_,_,_] al al (ak.jl (S:=S) ⟨rfl,rfl,_,_,_,_,rfl,⟨l,bL,hV,hQ,bT,h5,hr,bC,hl,iU,hX,iH,hf,eZ,rfl,rfl,rfl,rfl⟩⟩ (by rw [ak.xJ ag]) (by rw [ak.xJ ag]))
 ·(try simp only [dj] at aU)
  have hg:0≤i∧i<S.s.length:=by omega
  have uR:0≤b∧b<512:=by omega
  refine wp_skip<|bJ _ _<|ax fun dL b9=>h2 16 mixed az ab U (ai rfl<|ae (bN rfl)<|ae (aZ jz rfl rfl (s':=0) az)<|ae (bf lP 0 rfl rfl rfl rfl)<|ai rfl<|ai rfl<|ae (ox rfl rfl ag)<|ae (fY lP j2 1 rfl rfl rfl ag)<|ae (QM j2 bI 1 rfl rfl rfl ag ag)<|ae (Aq bI 1 rfl rfl (Mq m1 (k:=i.toNat) (i:=(b/8).toNat) ag ag) rfl)<|ai rfl<|ae (ni rfl rfl ag)<|ae (QX (p:=1) rfl rfl ag)<|ae (vx rfl rfl)<|ae (fY lP j2 1 rfl rfl rfl ag)<|ae (QM j2 bI 1 rfl rfl rfl ag ag)<|ah) fun a w ab U=>aJ ab U rfl (WO bI 1 rfl rfl rfl ag rfl) ?_
  rintro _ _ _ a w ⟨rfl,rfl,rfl⟩ ab U
  replace U:=fX U
  refine wpList_nil ?_
  rw [Mr m1 ag ag] at U
  refine b9 _ _<|aD ab U (av rfl<|ah) fun a w ab U=>wp_ret ?_
  exact cY (rs:=[.tmp 6]) rfl ab U (vs:=[_]) ⟨rfl,trivial⟩ [] [_,_,_,_] al al (ak.jl (S:=S.put i ⟨ak.flip (S.at i).tx b,(S.at i).nx,(S.at i).dt,(S.at i).wn⟩) ⟨rfl,rfl,_,_,_,_,rfl,⟨l,bL,hV,hQ,bT,h5,hr,(bC.put ⟨by rw [ak.Mv];exact (bC.at hg).1,(bC.at hg).2⟩),hl,iU,hX,iH,(hf.eq (ak.Qp hg rfl rfl)),(eZ.eq (ak.Ez hg rfl)),rfl,(by rw [ak.qN,← ak.ag5 hg];rfl),rfl,rfl⟩⟩ (by rw [ak.AK hg uR]) (by rw [ak.AK hg uR]))
theorem Wt(h:ak.hT)(S:ak.aX)(i:Int)(aH : -9223372036854775808≤i∧i≤9223372036854775807)(w0:World)(bU:List aR){cm cR eW e2:aC}(dz:hF h S cm cR eW e2):e1 Tryz.prog 84 [.pointer (some ⟨h.b,0,none⟩),aA i] w0 bU [cm,cR,eW,e2] (po h ((ak.lj S i).1) (aA (ak.lj S i).2)):=by
 refine gk Tryz.func84 rfl Tryz.ntmps84 b4 fun cF a w ab U=>?_
 replace U:=fX U
 obtain ⟨l,bL,hV,hQ,bT,h5,hr,bC,hl,iU,hX,iH,hf,eZ,rfl,rfl,rfl,rfl⟩:=dz
 have fF:=bC.lo
 have gJ:=bC.aH
 have kK:=bC.lf
 have kL:=bC.iM
 have c6:=ak.nB S
 have m1:=ak.nZ bC
 replace U:=fX U
 refine aD ab U (av rfl<|ah) fun a w ab U=>ax fun cG bJ=>bc fun dX cq=>aG ab U (ai rfl<|ae (cU rfl rfl)<|ai rfl<|ah) fun a w ab U=>gA 2 7 7 ab U rfl rfl rfl rfl rfl (fun aP=>have aP:=(by first | exact of_decide_eq_false aP | exact aP);aO 7 rfl rfl rfl (bE rfl)<|aO 7 rfl rfl rfl (bE rfl)<|aO 7 rfl rfl rfl (bN rfl)<|aO 7 rfl rfl rfl (aZ jz rfl rfl (s':=0) az)<|aO 7 rfl rfl rfl (bf lP 0 rfl rfl rfl rfl)<|aO 7 rfl rfl rfl (hA lP 1 rfl rfl)<|aO 7 rfl rfl rfl (ke rfl rfl)<|ah) rfl rfl fun a w ab U=>?_
 refine wpList_nil (cq _ _ ?_)
 refine df ab rfl (fun aU=>?_) (fun aU=>?_)
 ·(try simp only [dj] at aU)
  refine aD ab U (av rfl<|ah) fun a w ab U=>wp_ret ?_
  exact cY (rs:=[.tmp 4]) rfl ab U (vs:=[_]) ⟨rfl,trivial⟩ [] [_,_,_,_] al al (ak.jl (S:=S) ⟨rfl,rfl,_,_,_,_,rfl,⟨l,bL,hV,hQ,bT,h5,hr,bC,hl,iU,hX,iH,hf,eZ,rfl,rfl,rfl,rfl⟩⟩ (by rw [ak.Er ag]) (by rw [ak.Er ag]))
 ·(try simp only [dj] at aU)
  have hg:0≤i∧i<S.s.length:=by omega
  refine wp_skip<|bJ _ _<|bc fun dL b9=>aG ab U (ai rfl<|ae (bN rfl)<|ae (aZ jz rfl rfl (s':=0) az)<|ae (bf Eg 0 rfl rfl rfl rfl)<|ai rfl<|ah) fun a w ab U=>aJ ab U rfl (FL Eg (xe bH) 3 rfl rfl rfl rfl iH (fun _ _=>trivial) trivial) ?_
  rintro _ _ _ a w ⟨B3,BR,sI,rfl,rfl,rfl⟩ ab U
  replace U:=fX U
  refine wpList_nil (b9 _ _ ?_)
  refine aD ab U (av rfl<|ah) fun a w ab U=>wp_ret ?_
  exact cY (rs:=[.tmp 4]) rfl ab U (vs:=[_]) ⟨rfl,trivial⟩ [] [_,_,_,_] al al (ak.jl (S:=S.put i ⟨(S.at i).tx,(S.at i).nx,(S.at i).dt,true⟩) ⟨rfl,rfl,_,_,_,_,rfl,⟨l,bL,hV,hQ,_,_,_,(bC.put (bC.at hg)),hl,iU,hX,sI,(hf.eq (ak.Qp hg rfl rfl)),(eZ.put (ak.ajN hg rfl)),rfl,(by rw [ak.qN,ak.ajr hg]),rfl,rfl⟩⟩ (by rw [ak.Es hg]) (by rw [ak.Es hg]))
end
section
theorem Xt:b1 Tryz.prog 134:=b6 Tryz.func134
theorem Xu:b1 Tryz.prog 135:=b6 Tryz.func135
abbrev T8:=ak.Bp 124 126 3
abbrev aj5:=ak.Bp 124 126 9
abbrev T7:=ak.Ua 124 126
abbrev aj4:=ak.T9 124 126
theorem ah6:Go.Proofs.AnyZI.SortsIn Tryz.prog Pm Fence.wide 4:=⟨fun blk off cap ss W GF G4 eF=>callsIn_wide.2 (Go.Proofs.AnyM.slices_Sort_int Po blk off cap ss W GF G4 eF),fun p cap W=>callsIn_wide.2 (Go.Proofs.AnyM.slices_Sort_int_none Po p cap W)⟩
theorem acM(b:Nat)(w:World):cC Tryz.prog 135 [.map (some b)] w (fun r zs hs=>∃ e,r=.func (.func 164) (List.nil:List Value).toArray [Value.pointer (some ⟨e,0,none⟩)].toArray∧zs=[]∧hs=[.blk e 121 [.map (some b)]]):=by
 refine c4 Tryz.func135 rfl Tryz.ntmps135 b4 fun a ab U=>bc fun eJ c8=>aJ ab U rfl (oM rfl rfl) ?_
 rintro _ _ _ a w ⟨ck,rfl,rfl,rfl⟩ ab U
 refine aG ab U (av rfl<|ah) fun a w ab U=>wpList_nil (c8 _ _ ?_)
 refine aD ab U (ae (tC rfl rfl)<|av rfl<|ah) fun a w ab U=>wp_ret ?_
 exact b0 (rs:=[.tmp 2]) rfl ab U (vs:=[_]) ⟨rfl,trivial⟩ al al ⟨_,rfl,rfl,rfl⟩
theorem ah2{l:List (Int×Value)}{es:List MapEntry}{c e b:Nat}(eP:ll aA l es c)(bD:(l.map (·.1)).Nodup)(aE:∀ i∈l.map (·.1), -9223372036854775808≤i∧i≤9223372036854775807)(hl:l.length≤4096)(w0:World)(bU:List aR):e1 Tryz.prog 134 [.func (.func 164) (List.nil:List Value).toArray [Value.pointer (some ⟨e,0,none⟩)].toArray] w0 bU [.blk e 121 [.map (some b)],.mp b es c] (fun v dB c5=>dB=[]∧c5=[.row v 3 1 ((l.map (·.1)).mergeSort (fun x y=>decide (x≤y))).length (((l.map (·.1)).mergeSort (fun x y=>decide (x≤y))).map aA),.blk e 121 [.map (some b)],.mp b es c]):=ah4 adj ads ah6 3 rfl rfl Tryz.underlying3 (Go.Proofs.enters_of Tryz.func163 az rfl) (Go.Proofs.enters_of Tryz.func164 az rfl) eP bD aE hl w0 bU
theorem LV(h:ak.hT)(S:ak.aX)(w0:World)(bU:List aR){cm cR eW e2:aC}(dz:hF h S cm cR eW e2):e1 Tryz.prog 88 [.pointer (some ⟨h.b,0,none⟩)] w0 bU [cm,cR,eW,e2] (T8 h S (ak.iv S).length ((ak.iv S).map aA)):=by
 refine gk Tryz.func88 rfl Tryz.ntmps88 b4 fun cF a w ab U=>?_
 replace U:=fX U
 obtain ⟨l,bL,hV,hQ,bT,h5,hr,bC,hl,iU,hX,iH,hf,eZ,rfl,rfl,rfl,rfl⟩:=dz
 have fF:=bC.lo
 have gJ:=bC.aH
 have kK:=bC.lf
 have kL:=bC.iM
 have c6:=ak.nB S
 have m1:=ak.nZ bC
 replace U:=fX U
 refine aD ab U (av rfl<|ah) fun a w ab U=>bc fun cG bJ=>aG ab U (ai rfl<|ae (bN rfl)<|ae (aZ jz rfl rfl (s':=0) az)<|ae (bf r3 0 rfl rfl rfl rfl)<|ah) fun a w ab U=>aJ ab U rfl (eT Xu rfl (fun w U=>acM _ w )) ?_
 rintro _ _ _ a w ⟨_,_,rfl,rfl,⟨akZ,rfl,rfl,rfl⟩⟩ ab U
 replace U:=iW U
 replace U:=U.perm mX
 replace U:=iW U
 refine aJ ab U rfl (dv Xt rfl (List.Perm.refl _) (by exact (ah2 hX hf.1 (ak.ad5 ak.afa bC hf) (ak.ada bC hf) _ _ (b:=h.p) ))) ?_
 rintro v3 _ _ a w ⟨_,_,rfl,rfl,⟨rfl,rfl⟩⟩ ab U
 replace U:=l8 U
 refine aG ab U (av rfl<|ah) fun a w ab U=>wpList_nil ?_
 rw [ak.O2 hf] at U
 refine bJ _ _<|wp_ret ?_
 replace U:=(((U.perm mX).perm pv).perm km).perm pw
 exact cY (rs:=[.tmp 2]) rfl ab U (vs:=[_]) ⟨rfl,trivial⟩ [] [_,_,_,_,_] al (c2.k.k.k.k.k) (ak.Ws ⟨rfl,_,_,_,_,rfl,⟨l,bL,hV,hQ,bT,h5,hr,bC,hl,iU,hX,iH,hf,eZ,rfl,rfl,rfl,rfl⟩⟩ (rfl) (rfl))
end
section
theorem dm:ba Tryz.prog 22 (.slice 3) 1 24 (Value.slice none 0 0):=⟨Tryz.underlying22,by kernel_rfl⟩
theorem Na:b1 Tryz.prog 88:=b6 Tryz.func88
theorem Nb:b1 Tryz.prog 89:=b6 Tryz.func89
theorem We(h:ak.hT)(S:ak.aX)(w0:World)(bU:List aR){cm cR eW e2:aC}(dz:hF h S cm cR eW e2):e1 Tryz.prog 151 [.pointer (some ⟨h.b,0,none⟩)] w0 bU [cm,cR,eW,e2] (po h ((ak.flush S).1) (aA (ak.flush S).2)):=by
 refine gk Tryz.func151 rfl Tryz.ntmps151 b4 fun cF a w ab U=>?_
 replace U:=fX U
 have bC:=ak.mV.ok dz
 refine aD ab U (av rfl<|ah) fun a w ab U=>ax fun cG bJ=>bc fun dX cq=>aG ab U (ai rfl<|ah) fun a w ab U=>aJ ab U rfl (dv F9 rfl (List.Perm.refl _) (by exact (Fz _ _ _ _ _  dz))) ?_
 rintro _ _ _ a w ⟨_,_,rfl,rfl,⟨rfl,rfl,tE,tF,tG,tH,rfl,nF⟩⟩ ab U
 replace U:=fX U
 refine aG ab U (av rfl<|ah) fun a w ab U=>wpList_nil (cq _ _ ?_)
 refine aD ab U (ai rfl<|ae (dS rfl rfl)<|ah) fun a w ab U=>e9 ab rfl (fun aU=>?_) (fun aU=>?_)
 ·refine ax fun dL b9=>bx ab U (ai rfl<|av rfl<|ah) fun a w ab U=>b9 _ _ ?_
  refine wp_ret<|cY (rs:=[.tmp 2]) rfl ab U (vs:=[_]) ⟨rfl,trivial⟩ [] [_,_,_,_] al al (ak.jl (S:=S) ⟨rfl,rfl,_,_,_,_,rfl,nF⟩ (by rw [ak.B7 (ak.IA bC aU).1]) (by rw [ak.B7 (ak.IA bC aU).1,(ak.IA bC aU).2]))
 ·have h9:ak.check S 0=0:=by omega
  have oh:=(ak.BT h9).1
  refine wp_skip<|bJ _ _<|ax fun eN cK=>bc fun fa cT=>aG ab U (ai rfl<|ah) fun a w ab U=>?_
  refine aJ ab U rfl (dv ML rfl (List.Perm.refl _) (by exact (LZ _ _ _ _  nF))) ?_
  rintro _ _ _ a w ⟨_,_,rfl,rfl,⟨rfl,rfl,I2,I3,I4,I5,rfl,qs⟩⟩ ab U
  replace U:=fX U
  refine aG ab U (av rfl<|ah) fun a w ab U=>wpList_nil (cT _ _ ?_)
  refine aD ab U (ai rfl<|ae (dS rfl rfl)<|ah) fun a w ab U=>e9 ab rfl (fun bz=>?_) (fun bz=>?_)
  ·refine ax fun gB du=>bx ab U (ai rfl<|av rfl<|ah) fun a w ab U=>du _ _ ?_
   refine wp_ret<|cY (rs:=[.tmp 2]) rfl ab U (vs:=[_]) ⟨rfl,trivial⟩ [] [_,_,_,_] al al (ak.jl (S:=(ak.step S).1) ⟨rfl,rfl,_,_,_,_,rfl,qs⟩ (by rw [ak.B8 oh bz]) (by rw [ak.B8 oh bz]))
  ·have bG:(ak.step S).2=0:=by omega
   have oS:=ak.iO bC
   refine wp_skip<|cK _ _<|ax fun hU ef=>bc fun ho dK=>aG ab U (ai rfl<|ah) fun a w ab U=>?_
   refine aJ ab U rfl (dv Na rfl (List.Perm.refl _) (by exact (LV _ _ _ _  qs))) ?_
   rintro x1 _ _ a w ⟨_,_,rfl,rfl,⟨rfl,DP,DQ,DR,DS,rfl,Cn⟩⟩ ab U
   replace U:=iW U
   refine aG ab U (ae (hA dm 0 rfl rfl)<|ai rfl<|ah) fun a w ab U=>wpList_nil (dK _ _ ?_)
   refine wp_block ?_
   obtain ⟨bG,a6,U⟩:=U.c1
   refine dy (γ:=aC×aC×aC×aC×Nat) (DP,DQ,DR,DS,0) (fun (cu,ct,cx,cz,j)=>[(20,aA (j:Int))]) [(0,_),(18,_),(19,_)] (fun (cu,ct,cx,cz,j)=>((((bG.set 1 (cu)).set 2 (ct)).set 3 (cx)).set 4 (cz))) (fun (cu,ct,cx,cz,j)=>j≤(ak.iv (ak.step S).1).length∧hF h (ak.kQ (ak.step S).1 [] j) cu ct cx cz) (fun (cu,ct,cx,cz,j)=>(ak.iv (ak.step S).1).length-j) (ab.sub ⟨rfl,rfl,rfl,rfl,trivial⟩) (by subst a6;exact U) (by exact ⟨Nat.zero_le _,by rw [ak.PO];exact Cn⟩) ?_
   rintro ⟨cu,ct,cx,cz,j⟩ a w bh ab U
   subst a6;(try dsimp only at bh ab U)
   obtain ⟨sX,nG⟩:=bh
   replace U:=iW U
   refine aD ab U (ae (cU rfl rfl)<|ah) fun a w ab U=>ax fun iR eO=>cn ab rfl (fun cl=>?_) (fun cl=>?_)
   ·obtain ⟨vj,abO,eF⟩:=ak.PR (ak.step S).1 [] (j:=j) ag
    have sS:=ak.FE (ak.step S).1
    have aas:=oS.aH
    have aav:=ak.LM oS (ak.jm (l:=ak.iv (ak.step S).1) (j:=j) (d:=0) ag)
    refine wp_skip<|eO _ _<|ax fun kY gF=>wp_block ?_
    refine ax fun j5 fC=>bx ab U (ae (fY dm bH 0 rfl rfl rfl ag)<|ae (ma bH 0 (0:Int) rfl rfl aI rfl)<|av rfl<|ah) fun a w ab U=>?_
    rw [Int.toNat_natCast] at ab
    refine fC _ _<|dM ?_
    refine aG ab U (ai rfl<|ai rfl<|ah) fun a w ab U=>?_
    replace U:=(((U.perm (.swap _ _ _)).perm hN).perm j6).perm km
    replace U:=iW U
    refine aJ ab U rfl (dv Nb rfl (List.Perm.refl _) (by exact (LY _ _ _ _ (by first | assumption | omega) (by assumption) ag _ _  nG))) ?_
    rintro _ _ _ a w ⟨_,_,rfl,rfl,⟨rfl,rfl,agh,agm,agr,agw,rfl,Gp⟩⟩ ab U
    replace U:=iW U
    refine wpList_nil (gF _ _ ?_)
    refine bx ab U (b5 rfl rfl<|ai rfl<|ah) fun a w ab U=>?_
    replace U:=U.perm kD
    replace U:=U.ao al al
    refine ⟨(agh,agm,agr,agw,j+1),?_,?_,ab.sub ⟨rfl,rfl,rfl,rfl,trivial⟩,?_⟩
    ·(try dsimp only);omega
    ·exact ⟨by omega,eF ▸ Gp⟩
    ·exact U
   ·refine wp_exit<|ef _ _<|aD ab U (av rfl<|ah) fun a w ab U=>wp_ret ?_
    replace U:=(((U.perm (.swap _ _ _)).perm hN).perm j6).perm km
    exact cY (rs:=[.tmp 2]) rfl ab U (vs:=[_]) ⟨rfl,trivial⟩ [] [_,_,_,_] al (c2.k.k.k.k) (ak.jl (S:=ak.kQ (ak.step S).1 [] j) ⟨rfl,rfl,_,_,_,_,rfl,nG⟩ (by rw [ak.Mw oh bG,show j=(ak.iv (ak.step S).1).length by omega]) (by rw [ak.Mw oh bG]))
theorem FG(h:ak.hT)(S:ak.aX)(gM:Value)(ps:List Int)(w0:World)(bU:List aR)(z:aR)(k6:bo Go.aK.encI z gM ps)(bj:gQ w0 bU z){cm cR eW e2:aC}(dz:hF h S cm cR eW e2):e1 Tryz.prog 50 [.pointer (some ⟨h.b,0,none⟩),gM] w0 bU [cm,cR,eW,e2] (po h (ak.e6 S ps) (.tuple ([]:List Value).toArray)):=by
 refine gk Tryz.func50 rfl Tryz.ntmps50 b4 fun cF a w ab U=>?_
 replace U:=fX U
 have bC:=ak.mV.ok dz
 have CQ:=xR k6
 have ia:=k6.1
 refine ax fun eJ c8=>bc fun cG bJ=>aG ab U (ai rfl<|ah) fun a w ab U=>aJ ab U rfl (dv Na rfl (List.Perm.refl _) (by exact (LV _ _ _ _  dz))) ?_
 rintro v1 _ _ a w ⟨_,_,rfl,rfl,⟨rfl,tE,tF,tG,tH,rfl,nF⟩⟩ ab U
 replace U:=iW U
 refine aG ab U (ae (hA dm 0 rfl rfl)<|ai rfl<|ah) fun a w ab U=>wpList_nil (bJ _ _ ?_)
 refine wp_block ?_
 obtain ⟨bG,a6,U⟩:=U.c1
 refine dy (γ:=aC×aC×aC×aC×Nat) (tE,tF,tG,tH,0) (fun (cu,ct,cx,cz,j)=>[(10,aA (j:Int))]) [(0,_),(1,_),(8,_),(9,_)] (fun (cu,ct,cx,cz,j)=>((((bG.set 1 (cu)).set 2 (ct)).set 3 (cx)).set 4 (cz))) (fun (cu,ct,cx,cz,j)=>j≤(ak.iv S).length∧hF h (ak.kQ S ps j) cu ct cx cz) (fun (cu,ct,cx,cz,j)=>(ak.iv S).length-j) (ab.sub ⟨rfl,rfl,rfl,rfl,rfl,trivial⟩) (by subst a6;exact U) (by exact ⟨Nat.zero_le _,by rw [ak.PO];exact nF⟩) ?_
 rintro ⟨cu,ct,cx,cz,j⟩ a w bh ab U
 subst a6;(try dsimp only at bh ab U)
 obtain ⟨sX,nG⟩:=bh
 replace U:=iW U
 refine aD ab U (ae (cU rfl rfl)<|ah) fun a w ab U=>ax fun et cB=>cn ab rfl (fun aU=>?_) (fun aU=>?_)
 ·obtain ⟨vj,abO,eF⟩:=ak.PR S ps (j:=j) ag
  have sS:=ak.FE S
  have aas:=bC.aH
  have aav:=ak.LM bC (ak.jm (l:=ak.iv S) (j:=j) (d:=0) ag)
  have anr:=ak.afc CQ j
  refine wp_skip<|cB _ _<|ax fun dL b9=>wp_block ?_
  refine ax fun eN cK=>bx ab U (ai rfl<|ae (fY dm bH 0 rfl rfl rfl ag)<|ae (ma bH 0 (0:Int) rfl rfl aI rfl)<|av rfl<|av rfl<|ah) fun a w ab U=>?_
  rw [Int.toNat_natCast] at ab
  refine cK _ _<|aD ab U (av rfl<|ah) fun a w ab U=>?_
  obtain ⟨bG,a6,U⟩:=U.c1
  refine mn (γ:=Int) (fun (p:Int)=>[(6,aA p)]) [(0,_),(1,_),(5,_),(8,_),(9,_),(10,_)] (fun (p:Int)=>bG) (fun (p:Int)=>p=ak.kr ps j) (ab.sub ⟨rfl,rfl,rfl,rfl,rfl,rfl,trivial⟩) U ?_ ?_
  ·subst a6
   refine aD ab U (ai rfl<|ai rfl<|ae (ee dm k6 rfl)<|ae (cU rfl rfl)<|ah) fun a w ab U=>cn ab rfl (fun bz=>?_) (fun bz=>?_)
   ·refine bx ab U (ai rfl<|ai rfl<|ae (dV dm bH k6 rfl rfl ag)<|ae (tz bH k6 bj rfl rfl ag)<|av rfl<|ah) fun a w ab U=>⟨((ps.getD ((j:Int)).toNat 0)),?_,ab.sub ⟨rfl,rfl,rfl,rfl,rfl,rfl,rfl,trivial⟩,?_⟩
    ·rw [Int.toNat_natCast];exact (ak.Qt ag).symm
    ·exact U
   ·refine wp_skip<|⟨(64),?_,ab.sub ⟨rfl,rfl,rfl,rfl,rfl,rfl,rfl,trivial⟩,?_⟩
    ·exact (ak.Qu ag).symm
    ·exact U
  rintro p a w bh ab U
  subst a6;(try dsimp only at bh ab U)
  have qy:=bh
  replace U:=iW U
  subst qy
  refine dM<|aG ab U (ai rfl<|ai rfl<|ai rfl<|ah) fun a w ab U=>?_
  replace U:=(((U.perm (.swap _ _ _)).perm hN).perm j6).perm km
  replace U:=iW U
  refine aJ ab U rfl (dv Nb rfl (List.Perm.refl _) (by exact (LY _ _ _ _ (by first | assumption | omega) (by assumption) ag _ _  nG))) ?_
  rintro _ _ _ a w ⟨_,_,rfl,rfl,⟨rfl,rfl,vy,vz,vA,vB,rfl,wL⟩⟩ ab U
  replace U:=iW U
  refine wpList_nil (b9 _ _ ?_)
  refine bx ab U (b5 rfl rfl<|ai rfl<|ah) fun a w ab U=>?_
  replace U:=U.perm kD
  replace U:=U.ao al al
  refine ⟨(vy,vz,vA,vB,j+1),?_,?_,ab.sub ⟨rfl,rfl,rfl,rfl,rfl,trivial⟩,?_⟩
  ·(try dsimp only);omega
  ·exact ⟨by omega,eF ▸ wL⟩
  ·exact U
 ·obtain ⟨lz,Wz,Vv,adB,WB,Vw,adC,sJ,anb,ana,ZO,ZR,ZZ,Z1,rfl,rfl,rfl,rfl⟩:=nG
  have am9:=sJ.lo
  have amy:=sJ.aH
  have am7:=sJ.lf
  have am8:=sJ.iM
  have ama:=ak.nB (ak.kQ S ps j)
  have amb:=ak.nZ sJ
  replace U:=iW U
  have aaW:(ak.iv S).length≤j:=by omega
  refine wp_exit<|c8 _ _<|dM ?_
  refine aG ab U (ai rfl<|ai rfl<|ae (bN rfl)<|ae (aZ jz rfl rfl (s':=0) az)<|ah) fun a w ab U=>aJ ab U rfl (dq fL 1 rfl rfl rfl rfl (by simp)) ?_
  rintro _ _ _ a w ⟨rfl,rfl,rfl⟩ ab U
  replace U:aB _ (_) (_::.blk _ _ ([_,_,_,_,_].set 3 _)::_::_::_::_) _:=U
  simp only [dd] at U
  replace U:=iW U
  refine aG ab U (ae (bN rfl)<|ae (aZ jz rfl rfl (s':=0) az)<|ah) fun a w ab U=>aJ ab U rfl (dq bH 1 rfl rfl rfl rfl (by simp)) ?_
  rintro _ _ _ a w ⟨rfl,rfl,rfl⟩ ab U
  replace U:aB _ (_) (_::.blk _ _ ([_,_,_,_,_].set 4 _)::_::_::_::_) _:=U
  simp only [dd] at U
  replace U:=iW U
  refine wpList_nil ?_
  -- falls off the end
  replace U:=(((U.perm (.swap _ _ _)).perm hN).perm j6).perm km
  exact cY (rs:=[]) rfl ab U (vs:=[]) trivial [] [_,_,_,_] al (c2.k.k.k.k) (ak.jl (S:=⟨(ak.kQ S ps j).s,false, -1⟩) ⟨rfl,rfl,_,_,_,_,rfl,⟨(-1),Wz,Vv,adB,WB,Vw,adC,⟨sJ.sec,sJ.lo,sJ.aH,by dsimp only;decide,by dsimp only;decide⟩,rfl,a8,ZO,ZR,ZZ,Z1,rfl,rfl,rfl,rfl⟩⟩ (ak.ad7 S ps aaW) (rfl))
theorem LO(n:Nat)(bD:1≤n∧n≤4096)(w:World):cC Tryz.prog 63 [aA (n:Int)] w (T7 (ak.new n) (fun p=>.tuple [p,aA 0].toArray)):=by
 refine c4 Tryz.func63 rfl Tryz.ntmps63 b4 fun a ab U=>aD ab U (av rfl<|av rfl<|ah) fun a w ab U=>ax fun cG bJ=>bc fun dX cq=>aG ab U (ai rfl<|ae (cU rfl rfl)<|ai rfl<|ah) fun a w ab U=>?_
 refine gA 2 6 2 ab U rfl rfl rfl rfl rfl (fun aP=>have aP:=(by first | exact of_decide_eq_false aP | exact aP);aO 6 rfl rfl rfl (bE rfl)<|aO 6 rfl rfl rfl (fc rfl rfl)<|ah) rfl rfl fun a w ab U=>?_
 refine wpList_nil (cq _ _ ?_)
 refine df ab rfl (fun aU=>?_) (fun aU=>?_)
 ·(try simp only [dj] at aU)
  exfalso;omega
 ·(try simp only [dj] at aU)
  refine wp_skip<|bJ _ _<|bc fun et cB=>aG ab U (ai rfl<|ah) fun a w ab U=>aJ ab U rfl (WL lP j2 rfl rfl ag ag rfl a8 ag) ?_
  rintro v1 _ _ a w ⟨rfl,rfl⟩ ab U
  replace U:=ft U
  refine aJ ab U rfl (FM) ?_
  rintro _ _ _ a w ⟨k1,rfl,rfl,rfl⟩ ab U
  replace U:=e7 U
  refine aJ ab U rfl (FM) ?_
  rintro _ _ _ a w ⟨wg,rfl,rfl,rfl⟩ ab U
  replace U:=eU U
  refine aG ab U (ae (hJ (places:=[(0,1),(1,1),(2,1),(3,1),(4,1)]) (cells:=[_,_,_,.bool false,_]) jz az rfl (rr (c:=[_]) (l:=[_,_,_,_,_]) (l':=[_,_,_,_,_]) rfl (rn (row_one (U.dp 2 rfl))) rfl b4 rfl (rr (c:=[_]) (l:=[_,_,_,_,_]) (l':=[_,_,_,_,_]) rfl (rn rfl) rfl b4 rfl (rr (c:=[_]) (l:=[_,_,_,_,_]) (l':=[_,_,_,_,_]) rfl (rn rfl) rfl b4 rfl (rr (c:=[_]) (l:=[_,_,_,_,_]) (l':=[_,_,_,_,_]) rfl (rn rfl) rfl b4 rfl (FQ rfl))))))<|ah) fun a w ab U=>aJ ab U rfl (jV rfl) ?_
  rintro _ _ _ a w ⟨BG,rfl,rfl,rfl⟩ ab U
  refine aG ab U (av rfl<|av rfl<|ah) fun a w ab U=>wpList_nil ?_
  rw [ak.aeo] at U
  refine cB _ _<|wp_ret ?_
  replace U:=(U.perm mX).perm j6
  exact b0 (rs:=[.tmp 2,.tmp 3]) rfl ab U (vs:=[_,_]) ⟨rfl,rfl,trivial⟩ al al ⟨rfl,⟨BG,v1,k1,wg⟩,_,_,_,_,rfl,rfl,⟨-1,[],0,[],[],0,[],ak.IE bD.1 bD.2,rfl,by decide,ll.nil,ll.nil,ak.jP.nil (ak.aep n),ak.jP.nil (ak.aes n),rfl,by rw [ak.xk],rfl,rfl⟩⟩
end
section
theorem ff:ba Tryz.prog 160 (.slice 166) 1 24 (Value.slice none 0 0):=⟨Tryz.underlying160,by kernel_rfl⟩
theorem hC : ba Tryz.prog 162 (.struct #[⟨ "S", 160, 0, false, "", "", 0⟩, ⟨ "Off", 4, 1, false, "", "", 24⟩, ⟨ "Left", 3, 2, false, "", "", 32⟩]) 3 40 (.agg ([Value.slice none 0 0] ++ [Value.bool false] ++ [Value.int .i64 0]).toArray) := ⟨Tryz.underlying162, by kernel_rfl⟩
theorem e4 : ba Tryz.prog 166 (.struct #[⟨ "Text", 9, 0, false, "", "", 0⟩, ⟨ "Next", 9, 1, false, "", "", 16⟩, ⟨ "Dirty", 4, 2, false, "", "", 32⟩, ⟨ "Worn", 4, 3, false, "", "", 33⟩]) 4 40 (.agg ([Value.string ⟨(List.nil : List UInt8).toArray⟩, Value.string ⟨(List.nil : List UInt8).toArray⟩] ++ [Value.bool false, Value.bool false]).toArray) := ⟨Tryz.underlying166, by kernel_rfl⟩
theorem Cb:b1 Tryz.prog 127:=b6 Tryz.func127
abbrev fQ:=ak.yx 162
abbrev fR:=ak.sj 166
abbrev py:=ak.E4 162 166
abbrev akx:=ak.K7 162 166 3
abbrev aky:=ak.K7 162 166 9
theorem RP{b:Nat}{v:Value}{S:ak.aX}(w0:World)(bU:List aR)(bC:ak.Ok S):e1 Tryz.prog 159 [.pointer (some ⟨b,0,none⟩)] w0 bU [fQ b v S,fR v S] (py b v (S) (aA (S.s.length:Int))):=by
 refine gk Tryz.func159 rfl Tryz.ntmps159 b4 fun cF a w ab U=>?_
 replace U:=gU U
 have fF:=bC.lo
 have gJ:=bC.aH
 have kK:=bC.lf
 have kL:=bC.iM
 refine aD ab U (av rfl<|ah) fun a w ab U=>aD ab U (ai rfl<|ae (bN rfl)<|ae (aZ hC rfl rfl (s':=0) az)<|ae (bf ff 0 rfl rfl rfl rfl)<|ae (hA ff 1 rfl rfl)<|av rfl<|ah) fun a w ab U=>wp_ret ?_
 exact cY (rs:=[.tmp 2]) rfl ab U (vs:=[_]) ⟨rfl,trivial⟩ [] [_,_] al al (ak.jI (S:=S) ⟨rfl,rfl,rfl⟩ (rfl) (rfl))
theorem R8{b:Nat}{v:Value}{S:ak.aX}(n:Int)(w0:World)(bU:List aR)(bC:ak.Ok S):e1 Tryz.prog 47 [.pointer (some ⟨b,0,none⟩),aA n] w0 bU [fQ b v S,fR v S] (py b v (ak.dx S n) (.tuple ([]:List Value).toArray)):=by
 refine gk Tryz.func47 rfl Tryz.ntmps47 b4 fun cF a w ab U=>?_
 replace U:=gU U
 have fF:=bC.lo
 have gJ:=bC.aH
 have kK:=bC.lf
 have kL:=bC.iM
 refine dM<|aG ab U (ai rfl<|ai rfl<|ae (tB rfl rfl)<|ae (bN rfl)<|ae (aZ hC rfl rfl (s':=0) az)<|ah) fun a w ab U=>aJ ab U rfl (dq bH 0 rfl rfl rfl rfl (by simp)) ?_
 rintro _ _ _ a w ⟨rfl,rfl,rfl⟩ ab U
 replace U:aB _ (_) (.blk _ _ ([_,_,_].set 2 _)::_::_) _:=U
 simp only [dd] at U
 replace U:=gU U
 refine wpList_nil ?_
 -- falls off the end
 exact cY (rs:=[]) rfl ab U (vs:=[]) trivial [] [_,_] al al (ak.jI (S:=ak.dx S n) ⟨rfl,rfl,rfl⟩ (rfl) (rfl))
theorem DV{b:Nat}{v:Value}{S:ak.aX}(i:Int)(w0:World)(bU:List aR)(bC:ak.Ok S):e1 Tryz.prog 127 [.pointer (some ⟨b,0,none⟩),aA i] w0 bU [fQ b v S,fR v S] (py b v (S) (.bool (decide (0≤i∧i<S.s.length)))):=by
 refine gk Tryz.func127 rfl Tryz.ntmps127 b4 fun cF a w ab U=>?_
 replace U:=gU U
 have fF:=bC.lo
 have gJ:=bC.aH
 have kK:=bC.lf
 have kL:=bC.iM
 refine aD ab U (av rfl<|ah) fun a w ab U=>bc fun cG bJ=>aG ab U (ai rfl<|ae (ke rfl rfl)<|ai rfl<|ah) fun a w ab U=>j3 2 7 7 ab U rfl rfl rfl rfl rfl (fun aP=>have aP:=(by first | exact of_decide_eq_true aP | exact aP);aO 7 rfl rfl rfl (bE rfl)<|aO 7 rfl rfl rfl (bE rfl)<|aO 7 rfl rfl rfl (bN rfl)<|aO 7 rfl rfl rfl (aZ hC rfl rfl (s':=0) az)<|aO 7 rfl rfl rfl (bf ff 0 rfl rfl rfl rfl)<|aO 7 rfl rfl rfl (hA ff 1 rfl rfl)<|aO 7 rfl rfl rfl (cU rfl rfl)<|ah) rfl rfl fun a w ab U=>?_
 refine aG ab U (av rfl<|ah) fun a w ab U=>wpList_nil (bJ _ _ ?_)
 refine wp_ret<|cY (rs:=[.tmp 4]) rfl ab U (vs:=[_]) ⟨rfl,trivial⟩ [] [_,_] al al (ak.jI (S:=S) ⟨rfl,rfl,rfl⟩ (rfl) (by show Value.bool _=_;congr 1;rw [Bool.eq_iff_iff];simp))
theorem R6{b:Nat}{v:Value}{S:ak.aX}(w0:World)(bU:List aR)(bC:ak.Ok S):e1 Tryz.prog 161 [.pointer (some ⟨b,0,none⟩)] w0 bU [fQ b v S,fR v S] (py b v ((ak.step S).1) (aA (ak.step S).2)):=by
 refine gk Tryz.func161 rfl Tryz.ntmps161 b4 fun cF a w ab U=>?_
 replace U:=gU U
 have fF:=bC.lo
 have gJ:=bC.aH
 have kK:=bC.lf
 have kL:=bC.iM
 refine aD ab U (av rfl<|ah) fun a w ab U=>ax fun cG bJ=>aD ab U (ai rfl<|ae (bN rfl)<|ae (aZ hC rfl rfl (s':=0) az)<|ae (bf bH 0 rfl rfl rfl rfl)<|ae (gq rfl rfl)<|ah) fun a w ab U=>cn ab rfl (fun aU=>?_) (fun aU=>?_)
 ·refine ax fun et cB=>dM ?_
  refine aG ab U (ai rfl<|ae (bN rfl)<|ae (aZ hC rfl rfl (s':=0) az)<|ah) fun a w ab U=>aJ ab U rfl (dq fL 0 rfl rfl rfl rfl (by simp)) ?_
  rintro _ _ _ a w ⟨rfl,rfl,rfl⟩ ab U
  replace U:aB _ (_) (.blk _ _ ([_,_,_].set 1 _)::_::_) _:=U
  simp only [dd] at U
  replace U:=gU U
  refine wpList_nil (cB _ _ ?_)
  refine aD ab U (av rfl<|ah) fun a w ab U=>wp_ret ?_
  exact cY (rs:=[.tmp 2]) rfl ab U (vs:=[_]) ⟨rfl,trivial⟩ [] [_,_] al al (ak.jI (S:=⟨S.s,true,S.left⟩) ⟨rfl,rfl,rfl⟩ (by rw [ak.AS ag]) (by rw [ak.AS ag]))
 ·refine wp_skip<|bJ _ _<|ax fun eN cK=>aD ab U (ai rfl<|ae (bN rfl)<|ae (aZ hC rfl rfl (s':=0) az)<|ae (bf bH 0 rfl rfl rfl rfl)<|ae (fc rfl rfl)<|ah) fun a w ab U=>cn ab rfl (fun bz=>?_) (fun bz=>?_)
  ·refine dM<|aG ab U (ai rfl<|ae (bN rfl)<|ae (aZ hC rfl rfl (s':=0) az)<|ae (bf bH 0 rfl rfl rfl rfl)<|fy rfl rfl<|ae (bN rfl)<|ae (aZ hC rfl rfl (s':=0) az)<|ah) fun a w ab U=>aJ ab U rfl (dq bH 0 rfl rfl rfl rfl (by simp)) ?_
   rintro _ _ _ a w ⟨rfl,rfl,rfl⟩ ab U
   replace U:aB _ (_) (.blk _ _ ([_,_,_].set 2 _)::_::_) _:=U
   simp only [dd] at U
   replace U:=gU U
   refine wpList_nil (cK _ _ ?_)
   refine aD ab U (av rfl<|ah) fun a w ab U=>wp_ret ?_
   exact cY (rs:=[.tmp 2]) rfl ab U (vs:=[_]) ⟨rfl,trivial⟩ [] [_,_] al al (ak.jI (S:=⟨S.s,S.off,S.left-1⟩) ⟨rfl,rfl,rfl⟩ (by rw [ak.D5 ag]) (by rw [ak.D5 ag]))
  ·refine wp_skip<|cK _ _<|aD ab U (av rfl<|ah) fun a w ab U=>wp_ret ?_
   exact cY (rs:=[.tmp 2]) rfl ab U (vs:=[_]) ⟨rfl,trivial⟩ [] [_,_] al al (ak.jI (S:=S) ⟨rfl,rfl,rfl⟩ (by rw [ak.xU ag]) (by rw [ak.xU ag]))
theorem R0{b:Nat}{v:Value}{S:ak.aX}(i:Int)(w0:World)(bU:List aR)(bC:ak.Ok S):e1 Tryz.prog 133 [.pointer (some ⟨b,0,none⟩),aA i] w0 bU [fQ b v S,fR v S] (py b v (S) (.tuple [vs (ak.read S i).1,aA (ak.read S i).2].toArray)):=by
 refine gk Tryz.func133 rfl Tryz.ntmps133 b4 fun cF a w ab U=>?_
 replace U:=gU U
 have fF:=bC.lo
 have gJ:=bC.aH
 have kK:=bC.lf
 have kL:=bC.iM
 refine aD ab U (av rfl<|av rfl<|ah) fun a w ab U=>ax fun cG bJ=>aD ab U (ai rfl<|ae (bN rfl)<|ae (aZ hC rfl rfl (s':=0) az)<|ae (bf fL 0 rfl rfl rfl rfl)<|ah) fun a w ab U=>df ab rfl (fun aU=>?_) (fun aU=>?_)
 ·refine ax fun et cB=>bx ab U (av rfl<|av rfl<|ah) fun a w ab U=>cB _ _ ?_
  refine wp_ret<|cY (rs:=[.tmp 4,.tmp 5]) rfl ab U (vs:=[_,_]) ⟨rfl,rfl,trivial⟩ [] [_,_] al al (ak.jI (S:=S) ⟨rfl,rfl,rfl⟩ (rfl) (by rw [ak.I8 (by rw [ak.wo aU];decide),ak.wo aU]))
 ·refine wp_skip<|bJ _ _<|ax fun dL b9=>bc fun eN cK=>aG ab U (ai rfl<|ai rfl<|ah) fun a w ab U=>?_
  refine aJ ab U rfl (dv Cb rfl (List.Perm.refl _) (by exact (DV _ _ _  (by first | assumption | exact ak.iO (by assumption) | exact ak.kz (by assumption) _ _) (S:=S) (v:=v)))) ?_
  rintro _ _ _ a w ⟨_,_,rfl,rfl,⟨rfl,rfl,rfl⟩⟩ ab U
  replace U:=gU U
  refine aG ab U (ae (fZ rfl)<|ah) fun a w ab U=>wpList_nil (cK _ _ ?_)
  refine df ab rfl (fun bz=>?_) (fun bz=>?_)
  ·refine ax fun fa cT=>bx ab U (av rfl<|av rfl<|ah) fun a w ab U=>cT _ _ ?_
   refine wp_ret<|cY (rs:=[.tmp 4,.tmp 5]) rfl ab U (vs:=[_,_]) ⟨rfl,rfl,trivial⟩ [] [_,_] al al (ak.jI (S:=S) ⟨rfl,rfl,rfl⟩ (rfl) (by rw [ak.I8 (by rw [ak.BU (by rw [aU];simp) (by have:=bz;simp at this;omega)];decide),ak.BU (by rw [aU];simp) (by have:=bz;simp at this;omega)]))
  ·have hg:0≤i∧i<S.s.length:=by simpa using bz
   have h9:=ak.pG (S:=S) (i:=i) (by rw [aU];simp) hg
   refine wp_skip<|b9 _ _<|ax fun fk cP=>aD ab U (ai rfl<|ae (bN rfl)<|ae (aZ hC rfl rfl (s':=0) az)<|ae (bf ff 0 rfl rfl rfl rfl)<|ai rfl<|ae (fY ff e4 1 rfl rfl rfl ag)<|ae (ng e4 1 rfl rfl ag rfl (s':=0) az)<|ae (p3 ak.lN ak.b3 fL 1 rfl rfl rfl ag a8 rfl)<|ah) fun a w ab U=>df ab rfl (fun cl=>?_) (fun cl=>?_)
   ·refine ax fun hU ef=>bx ab U (ai rfl<|ae (bN rfl)<|ae (aZ hC rfl rfl (s':=0) az)<|ae (bf ff 0 rfl rfl rfl rfl)<|ai rfl<|ae (fY ff e4 1 rfl rfl rfl ag)<|ae (ng e4 1 rfl rfl ag rfl (s':=0) az)<|ae (p3 ak.lN ak.b3 bB 1 rfl rfl rfl ag a8 rfl)<|av rfl<|av rfl<|ah) fun a w ab U=>ef _ _ ?_
    refine wp_ret<|cY (rs:=[.tmp 4,.tmp 5]) rfl ab U (vs:=[_,_]) ⟨rfl,rfl,trivial⟩ [] [_,_] al al (ak.jI (S:=S) ⟨rfl,rfl,rfl⟩ (rfl) (by rw [ak.RD h9 cl];rfl))
   ·refine wp_skip<|cP _ _<|aD ab U (ai rfl<|ae (bN rfl)<|ae (aZ hC rfl rfl (s':=0) az)<|ae (bf ff 0 rfl rfl rfl rfl)<|ai rfl<|ae (fY ff e4 1 rfl rfl rfl ag)<|ae (ng e4 1 rfl rfl ag rfl (s':=0) az)<|ae (p3 ak.lN ak.b3 bB 1 rfl rfl rfl ag a8 rfl)<|av rfl<|av rfl<|ah) fun a w ab U=>wp_ret ?_
    exact cY (rs:=[.tmp 4,.tmp 5]) rfl ab U (vs:=[_,_]) ⟨rfl,rfl,trivial⟩ [] [_,_] al al (ak.jI (S:=S) ⟨rfl,rfl,rfl⟩ (rfl) (by rw [ak.AF h9 (by show ¬ (S.s.getD i.toNat ak.b3).dt=true;rw [cl];simp)];rfl))
end
section
theorem MK:b1 Tryz.prog 161:=b6 Tryz.func161
theorem ahr{b:Nat}{v:Value}{S:ak.aX}(i:Int)(t:List UInt8)(w0:World)(bU:List aR)(bC:ak.Ok S):e1 Tryz.prog 131 [.pointer (some ⟨b,0,none⟩),aA i,vs t] w0 bU [fQ b v S,fR v S] (py b v ((ak.write S i t).1) (aA (ak.write S i t).2)):=by
 refine gk Tryz.func131 rfl Tryz.ntmps131 b4 fun cF a w ab U=>?_
 replace U:=gU U
 have fF:=bC.lo
 have gJ:=bC.aH
 have kK:=bC.lf
 have kL:=bC.iM
 refine aD ab U (av rfl<|ah) fun a w ab U=>ax fun cG bJ=>aD ab U (ai rfl<|ae (bN rfl)<|ae (aZ hC rfl rfl (s':=0) az)<|ae (bf fL 0 rfl rfl rfl rfl)<|ah) fun a w ab U=>df ab rfl (fun aU=>?_) (fun aU=>?_)
 ·refine ax fun et cB=>bx ab U (av rfl<|ah) fun a w ab U=>cB _ _ ?_
  refine wp_ret<|cY (rs:=[.tmp 6]) rfl ab U (vs:=[_]) ⟨rfl,trivial⟩ [] [_,_] al al (ak.jI (S:=S) ⟨rfl,rfl,rfl⟩ (by rw [ak.Bk (by rw [ak.wo aU];decide)]) (by rw [ak.Bk (by rw [ak.wo aU];decide),ak.wo aU]))
 ·refine wp_skip<|bJ _ _<|ax fun dL b9=>bc fun eN cK=>aG ab U (ai rfl<|ai rfl<|ah) fun a w ab U=>?_
  refine aJ ab U rfl (dv Cb rfl (List.Perm.refl _) (by exact (DV _ _ _  (by first | assumption | exact ak.iO (by assumption) | exact ak.kz (by assumption) _ _) (S:=S) (v:=v)))) ?_
  rintro _ _ _ a w ⟨_,_,rfl,rfl,⟨rfl,rfl,rfl⟩⟩ ab U
  replace U:=gU U
  refine aG ab U (ae (fZ rfl)<|ai rfl<|ah) fun a w ab U=>gA 4 16 3 ab U rfl rfl rfl rfl rfl (fun aP=>have aP:=aP;aO 16 rfl rfl rfl (bE rfl)<|aO 16 rfl rfl rfl (hZ bB rfl)<|aO 16 rfl rfl rfl (dS rfl rfl)<|ah) rfl rfl fun a w ab U=>?_
  refine wpList_nil (cK _ _ ?_)
  refine df ab rfl (fun bz=>?_) (fun bz=>?_)
  ·(try simp only [dj] at bz)
   refine aD ab U (av rfl<|ah) fun a w ab U=>wp_ret ?_
   exact cY (rs:=[.tmp 6]) rfl ab U (vs:=[_]) ⟨rfl,trivial⟩ [] [_,_] al al (ak.jI (S:=S) ⟨rfl,rfl,rfl⟩ ((ak.TJ aU bz).1) (congrArg aA (ak.TJ aU bz).2))
  ·(try simp only [dj] at bz)
   have hg:0≤i∧i<S.s.length:=by simpa using bz.1
   have fo:t.length=64:=by have:=bz.2;omega
   have h9:=ak.pG (S:=S) (i:=i) (by rw [aU];simp) hg
   refine wp_skip<|b9 _ _<|bc fun fk cP=>aG ab U (ai rfl<|ah) fun a w ab U=>aJ ab U rfl (dv MK rfl (List.Perm.refl _) (by exact (R6 _ _  (by first | assumption | exact ak.iO (by assumption) | exact ak.kz (by assumption) _ _) (S:=S) (v:=v)))) ?_
   rintro _ _ _ a w ⟨_,_,rfl,rfl,⟨rfl,rfl,rfl⟩⟩ ab U
   replace U:=gU U
   refine aG ab U (av rfl<|ah) fun a w ab U=>wpList_nil (cP _ _ ?_)
   refine ax fun gB du=>aD ab U (ai rfl<|ae (dS rfl rfl)<|ah) fun a w ab U=>e9 ab rfl (fun cl=>?_) (fun cl=>?_)
   ·refine ax fun ho dK=>bx ab U (ai rfl<|av rfl<|ah) fun a w ab U=>dK _ _ ?_
    refine wp_ret<|cY (rs:=[.tmp 6]) rfl ab U (vs:=[_]) ⟨rfl,trivial⟩ [] [_,_] al al (ak.jI (S:=(ak.step S).1) ⟨rfl,rfl,rfl⟩ (by rw [ak.vU h9 fo cl]) (by rw [ak.vU h9 fo cl]))
   ·have bG:(ak.step S).2=0:=by omega
    have oS:=ak.iO bC
    have uZ:0≤i∧i<(ak.step S).1.s.length:=by rw [ak.D6];exact hg
    refine wp_skip<|du _ _<|bc fun iZ eY=>aG ab U (ai rfl<|ae (bN rfl)<|ae (aZ hC rfl rfl (s':=0) az)<|ae (bf ff 0 rfl rfl rfl rfl)<|ai rfl<|ai rfl<|ae (fY ff e4 1 rfl rfl rfl ag)<|ae (ng e4 1 rfl rfl ag rfl (s':=0) az)<|ah) fun a w ab U=>aJ ab U rfl (B1 (x':=⟨(((ak.step S).1).at i).tx,t,(((ak.step S).1).at i).dt,(((ak.step S).1).at i).wn⟩) ak.lN bB 1 rfl rfl rfl (ak.yI (S:=(ak.step S).1) uZ) a8 rfl rfl) ?_
    rintro _ _ _ a w ⟨rfl,rfl,rfl⟩ ab U
    replace U:=gU U
    refine wpList_nil (eY _ _ ?_)
    refine bc fun iR eO=>aG ab U (ai rfl<|ae (bN rfl)<|ae (aZ hC rfl rfl (s':=0) az)<|ae (bf ff 0 rfl rfl rfl rfl)<|ai rfl<|ae (fY ff e4 1 rfl rfl rfl ag)<|ae (ng e4 1 rfl rfl ag rfl (s':=0) az)<|ah) fun a w ab U=>aJ ab U rfl (B1 (x':=⟨(((ak.step S).1).at i).tx,t,true,(((ak.step S).1).at i).wn⟩) ak.lN fL 1 rfl rfl rfl (ak.ahP (S:=(ak.step S).1) uZ) a8 rfl rfl) ?_
    rintro _ _ _ a w ⟨rfl,rfl,rfl⟩ ab U
    replace U:=gU U
    refine wpList_nil (eO _ _ ?_)
    refine aD ab U (av rfl<|ah) fun a w ab U=>wp_ret ?_
    exact cY (rs:=[.tmp 6]) rfl ab U (vs:=[_]) ⟨rfl,trivial⟩ [] [_,_] al al (ak.jI (S:=ak.mark ((ak.step S).1) i t) ⟨rfl,rfl,by exact congrArg (fun r=>[_,r]) ak.aho⟩ (by rw [ak.vV h9 fo bG]) (by rw [ak.vV h9 fo bG]))
theorem R1{b:Nat}{v:Value}{S:ak.aX}(i p:Int)(aH:0≤i∧i<S.s.length)(aT:(S.at i).dt=true)(w0:World)(bU:List aR)(bC:ak.Ok S):e1 Tryz.prog 136 [.pointer (some ⟨b,0,none⟩),aA i,aA p] w0 bU [fQ b v S,fR v S] (py b v (S.put i (ak.iQ (S.at i) p)) (.tuple ([]:List Value).toArray)):=by
 refine gk Tryz.func136 rfl Tryz.ntmps136 b4 fun cF a w ab U=>?_
 replace U:=gU U
 have fF:=bC.lo
 have gJ:=bC.aH
 have kK:=bC.lf
 have kL:=bC.iM
 have HC:(S.s.getD i.toNat ak.b3).nx.length=64:=(bC.at aH).2.1 aT
 have abT:(S.s.getD i.toNat ak.b3).tx.length=64:=(bC.at aH).1
 have ix:S.at i=S.s.getD i.toNat ak.b3:=rfl
 have w5:(ak.o8 (S.s.getD i.toNat ak.b3)).length=4:=rfl
 have anC:(List.take (max 0 (min p 64)).toNat (S.s.getD i.toNat ak.b3).nx).length≤64:=by rw [List.length_take];omega
 have CX:(List.drop (max 0 (min p 64)).toNat (S.s.getD i.toNat ak.b3).tx).length≤64:=by rw [List.length_drop];omega
 refine bc fun eJ c8=>aG ab U (ai rfl<|ae (bN rfl)<|ae (aZ hC rfl rfl (s':=0) az)<|ae (bf ff 0 rfl rfl rfl rfl)<|ai rfl<|ae (fY ff e4 1 rfl rfl rfl ag)<|ae (afL ak.lN ak.b3 e4 1 rfl rfl rfl a8 ag)<|ah) fun a w ab U=>aJ ab U rfl (dg e4) ?_
 rintro _ _ _ a w ⟨ck,rfl,rfl,rfl⟩ ab U
 refine aJ ab U rfl (cJ e4 0 rfl rfl rfl rfl aI (bp rfl (bp rfl (bp rfl (bp rfl dO)))) aI) ?_
 rintro _ _ _ a w ⟨rfl,rfl,rfl⟩ ab U
 replace U:=lK U
 refine wpList_nil ?_
 rw [show ak.o8 (S.s.getD i.toNat ak.b3)=[vs (S.s.getD i.toNat ak.b3).tx,vs (S.s.getD i.toNat ak.b3).nx,.bool (S.s.getD i.toNat ak.b3).dt,.bool (S.s.getD i.toNat ak.b3).wn] from rfl] at U
 refine c8 _ _<|aD ab U (ai rfl<|ae (IW rfl rfl)<|ae (tB rfl rfl)<|av rfl<|ah) fun a w ab U=>ax fun dX cq=>aD ab U (ae (aZ e4 rfl rfl (s':=0) az)<|ae (bf fL 0 rfl rfl rfl rfl)<|ae (fZ rfl)<|ah) fun a w ab U=>df ab rfl (fun aU=>?_) (fun aU=>?_)
 ·refine h2 10 mixed az ab U (ae (aZ e4 rfl rfl (s':=0) az)<|ae (bf bB 0 rfl rfl rfl rfl)<|ai rfl<|ae (I0 bB rfl rfl ag)<|ae (aZ e4 rfl rfl (s':=0) az)<|ae (bf bB 0 rfl rfl rfl rfl)<|ai rfl<|ae (DN bB rfl rfl ag)<|ae (DD rfl rfl aI)<|ae (aZ e4 rfl rfl (s':=0) az)<|ah) fun a w ab U=>aJ ab U rfl (dq bB 0 rfl rfl rfl rfl (by simp)) ?_
  rintro _ _ _ a w ⟨rfl,rfl,rfl⟩ ab U
  replace U:aB _ (_) (.blk _ _ ([_,_,_,_].set 0 _)::_::_::_) _:=U
  simp only [dd] at U
  replace U:=lK U
  refine wpList_nil (cq _ _ ?_)
  refine bc fun dL b9=>aG ab U (ae (aZ e4 rfl rfl (s':=0) az)<|ah) fun a w ab U=>aJ ab U rfl (dq bB 0 rfl rfl rfl rfl (by simp)) ?_
  rintro _ _ _ a w ⟨rfl,rfl,rfl⟩ ab U
  replace U:aB _ (_) (.blk _ _ ([_,_,_,_].set 1 _)::_::_::_) _:=U
  simp only [dd] at U
  replace U:=lK U
  refine wpList_nil (b9 _ _ ?_)
  refine bc fun eN cK=>aG ab U (ae (aZ e4 rfl rfl (s':=0) az)<|ah) fun a w ab U=>aJ ab U rfl (dq fL 0 rfl rfl rfl rfl (by simp)) ?_
  rintro _ _ _ a w ⟨rfl,rfl,rfl⟩ ab U
  replace U:aB _ (_) (.blk _ _ ([_,_,_,_].set 2 _)::_::_::_) _:=U
  simp only [dd] at U
  replace U:=lK U
  refine wpList_nil (cK _ _ ?_)
  refine h2 7 mixed az ab U (ai rfl<|ae (bN rfl)<|ae (aZ hC rfl rfl (s':=0) az)<|ae (bf ff 1 rfl rfl rfl rfl)<|ai rfl<|ae (gh e4 0 rfl rfl aI rfl)<|ae (fY ff e4 2 rfl rfl rfl ag)<|ah) fun a w ab U=>aJ ab U rfl (L9 ak.lN ak.JA e4 2 (a:=⟨(S.s.getD i.toNat ak.b3).nx.take (max 0 (min p 64)).toNat++(S.s.getD i.toNat ak.b3).tx.drop (max 0 (min p 64)).toNat,[],false,(S.s.getD i.toNat ak.b3).wn⟩) rfl rfl rfl rfl rfl aI) ?_
  rintro _ _ _ a w ⟨rfl,rfl,rfl⟩ ab U
  replace U:=lK U
  refine wpList_nil ?_
  -- falls off the end
  replace U:=(U.perm (.swap _ _ _)).perm hN
  exact cY (rs:=[]) rfl ab U (vs:=[]) trivial [] [_,_] al (c2.k.k) (ak.jI (S:=S.put i ⟨(S.s.getD i.toNat ak.b3).nx.take (max 0 (min p 64)).toNat++(S.s.getD i.toNat ak.b3).tx.drop (max 0 (min p 64)).toNat,[],false,(S.s.getD i.toNat ak.b3).wn⟩) ⟨rfl,rfl,by exact congrArg (fun r=>[_,r]) ak.AQ⟩ (by rw [ak.St,if_neg (by rw [ix];simpa using aU),ix];rfl) (rfl))
 ·refine wp_skip<|cq _ _<|bc fun fa cT=>aG ab U (ae (aZ e4 rfl rfl (s':=0) az)<|ah) fun a w ab U=>aJ ab U rfl (dq bB 0 rfl rfl rfl rfl (by simp)) ?_
  rintro _ _ _ a w ⟨rfl,rfl,rfl⟩ ab U
  replace U:aB _ (_) (.blk _ _ ([_,_,_,_].set 1 _)::_::_::_) _:=U
  simp only [dd] at U
  replace U:=lK U
  refine wpList_nil (cT _ _ ?_)
  refine bc fun fk cP=>aG ab U (ae (aZ e4 rfl rfl (s':=0) az)<|ah) fun a w ab U=>aJ ab U rfl (dq fL 0 rfl rfl rfl rfl (by simp)) ?_
  rintro _ _ _ a w ⟨rfl,rfl,rfl⟩ ab U
  replace U:aB _ (_) (.blk _ _ ([_,_,_,_].set 2 _)::_::_::_) _:=U
  simp only [dd] at U
  replace U:=lK U
  refine wpList_nil (cP _ _ ?_)
  refine h2 7 mixed az ab U (ai rfl<|ae (bN rfl)<|ae (aZ hC rfl rfl (s':=0) az)<|ae (bf ff 1 rfl rfl rfl rfl)<|ai rfl<|ae (gh e4 0 rfl rfl aI rfl)<|ae (fY ff e4 2 rfl rfl rfl ag)<|ah) fun a w ab U=>aJ ab U rfl (L9 ak.lN ak.JA e4 2 (a:=⟨(S.s.getD i.toNat ak.b3).tx,[],false,(S.s.getD i.toNat ak.b3).wn⟩) rfl rfl rfl rfl rfl aI) ?_
  rintro _ _ _ a w ⟨rfl,rfl,rfl⟩ ab U
  replace U:=lK U
  refine wpList_nil ?_
  -- falls off the end
  replace U:=(U.perm (.swap _ _ _)).perm hN
  exact cY (rs:=[]) rfl ab U (vs:=[]) trivial [] [_,_] al (c2.k.k) (ak.jI (S:=S.put i ⟨(S.s.getD i.toNat ak.b3).tx,[],false,(S.s.getD i.toNat ak.b3).wn⟩) ⟨rfl,rfl,by exact congrArg (fun r=>[_,r]) ak.AQ⟩ (by rw [ak.St,if_pos (by rw [ix];simpa using aU),ix]) (rfl))
end
section
theorem MF:b1 Tryz.prog 136:=b6 Tryz.func136
theorem ahh{bk:Nat}{v:Value}{S:ak.aX}(i b:Int)(aw : -9223372036854775808≤b∧b≤9223372036854775807)(w0:World)(bU:List aR)(bC:ak.Ok S):e1 Tryz.prog 126 [.pointer (some ⟨bk,0,none⟩),aA i,aA b] w0 bU [fQ bk v S,fR v S] (py bk v ((ak.hi S i b).1) (aA (ak.hi S i b).2)):=by
 refine gk Tryz.func126 rfl Tryz.ntmps126 b4 fun cF a w ab U=>?_
 replace U:=gU U
 have fF:=bC.lo
 have gJ:=bC.aH
 have kK:=bC.lf
 have kL:=bC.iM
 refine aD ab U (av rfl<|ah) fun a w ab U=>ax fun cG bJ=>bc fun dX cq=>aG ab U (ai rfl<|ai rfl<|ah) fun a w ab U=>aJ ab U rfl (dv Cb rfl (List.Perm.refl _) (by exact (DV _ _ _  (by first | assumption | exact ak.iO (by assumption) | exact ak.kz (by assumption) _ _) (S:=S) (v:=v)))) ?_
 rintro _ _ _ a w ⟨_,_,rfl,rfl,⟨rfl,rfl,rfl⟩⟩ ab U
 replace U:=gU U
 refine aG ab U (ae (fZ rfl)<|ai rfl<|ah) fun a w ab U=>gA 4 12 2 ab U rfl rfl rfl rfl rfl (fun aP=>have aP:=aP;aO 12 rfl rfl rfl (bE rfl)<|aO 12 rfl rfl rfl (cU rfl rfl)<|ah) rfl rfl fun a w ab U=>?_
 refine aG ab U (ai rfl<|ah) fun a w ab U=>gA 8 16 2 ab U rfl rfl rfl rfl rfl (fun aP=>have aP:=aP;aO 16 rfl rfl rfl (bE rfl)<|aO 16 rfl rfl rfl (fc rfl rfl)<|ah) rfl rfl fun a w ab U=>?_
 refine wpList_nil (cq _ _ ?_)
 refine df ab rfl (fun aU=>?_) (fun aU=>?_)
 ·(try simp only [dj] at aU)
  refine aD ab U (av rfl<|ah) fun a w ab U=>wp_ret ?_
  exact cY (rs:=[.tmp 6]) rfl ab U (vs:=[_]) ⟨rfl,trivial⟩ [] [_,_] al al (ak.jI (S:=S) ⟨rfl,rfl,rfl⟩ (by rw [ak.xJ (ak.RR aU)]) (by rw [ak.xJ (ak.RR aU)]))
 ·(try simp only [dj] at aU)
  have hg:0≤i∧i<S.s.length:=by have:=aU.1.1;simpa using this
  have uR:0≤b∧b<512:=by omega
  have abT:(S.s.getD i.toNat ak.b3).tx.length=64:=(bC.at hg).1
  refine wp_skip<|bJ _ _<|bc fun dL b9=>aG ab U (ai rfl<|ae (bN rfl)<|ae (aZ hC rfl rfl (s':=0) az)<|ae (bf ff 0 rfl rfl rfl rfl)<|ai rfl<|ae (fY ff e4 1 rfl rfl rfl ag)<|ae (ng e4 1 rfl rfl ag rfl (s':=0) az)<|ae (p3 ak.lN ak.b3 bB 1 rfl rfl rfl ag a8 rfl)<|ah) fun a w ab U=>aJ ab U rfl (WM bB bX bI rfl ag) ?_
  rintro _ _ _ a w ⟨bb,cp,rfl,rfl,rfl,sP,aax⟩ ab U
  have jh:=Lq (e:=5) (b:=bb) sP ag
  replace U:aB _ (_::_) (_::_::_) _:=U
  refine aG ab U (av rfl<|ah) fun a w ab U=>wpList_nil (b9 _ _ ?_)
  refine ax fun eN cK=>h2 13 mixed az ab U (ai rfl<|ai rfl<|ae (ox rfl rfl ag)<|ai rfl<|ai rfl<|ae (ox rfl rfl ag)<|ae (dV bX bI jh rfl rfl ag)<|ae (nh bI jh (.inr (by simp)) rfl rfl ag)<|ai rfl<|ae (ni rfl rfl ag)<|ae (QX (p:=1) rfl rfl ag)<|ae (vx rfl rfl)<|ae (dV bX bI jh rfl rfl ag)<|ah) fun a w ab U=>aJ ab U rfl (WN (ub:=(S.s.getD i.toNat ak.b3).tx.getD (b/8).toNat 0 ^^^ ak.uz b) bI rfl rfl ag aax) ?_
  rintro _ _ _ a w ⟨rfl,rfl,rfl⟩ ab U
  have On:bo Go.aK.hc (ey bb (j9 5 (List.set (S.s.getD i.toNat ak.b3).tx (b/8).toNat ((S.s.getD i.toNat ak.b3).tx.getD (b/8).toNat 0 ^^^ ak.uz b)) cp)) (.slice (some ⟨bb,0,none⟩) (S.s.getD i.toNat ak.b3).tx.length cp) (List.set (S.s.getD i.toNat ak.b3).tx (b/8).toNat ((S.s.getD i.toNat ak.b3).tx.getD (b/8).toNat 0 ^^^ ak.uz b)):=by
   have cA:=Lq (e:=5) (b:=bb) (cap:=cp) (l:=(List.set (S.s.getD i.toNat ak.b3).tx (b/8).toNat ((S.s.getD i.toNat ak.b3).tx.getD (b/8).toNat 0 ^^^ ak.uz b))) (by rw [List.length_set];exact sP) (by rw [List.length_set];omega)
   rw [List.length_set] at cA
   exact cA
  replace U:aB _ (_::_) (_::_::_) _:=U
  refine wpList_nil (cK _ _ ?_)
  refine ax fun fa cT=>h2 9 mixed az ab U (ai rfl<|ae (bN rfl)<|ae (aZ hC rfl rfl (s':=0) az)<|ae (bf ff 0 rfl rfl rfl rfl)<|ai rfl<|ai rfl<|ae (tt bX bB bI On (.inr (by simp [ak.uz])) rfl)<|ae (fY ff e4 1 rfl rfl rfl ag)<|ae (ng e4 1 rfl rfl ag rfl (s':=0) az)<|ah) fun a w ab U=>aJ ab U rfl (B1 (x':=⟨ak.flip (S.at i).tx b,(S.at i).nx,(S.at i).dt,(S.at i).wn⟩) ak.lN bB 1 rfl rfl rfl (ak.yI (S:=S) hg) a8 rfl rfl) ?_
  rintro _ _ _ a w ⟨rfl,rfl,rfl⟩ ab U
  replace U:aB _ (_::_) (_::_::_) _:=U
  refine wpList_nil (cT _ _ ?_)
  refine aD ab U (av rfl<|ah) fun a w ab U=>wp_ret ?_
  exact cY (rs:=[.tmp 6]) rfl ab U (vs:=[_]) ⟨rfl,trivial⟩ [] [_,_] (c2) al (ak.jI (S:=S.put i ⟨ak.flip (S.at i).tx b,(S.at i).nx,(S.at i).dt,(S.at i).wn⟩) ⟨rfl,rfl,by exact congrArg (fun r=>[_,r]) ak.AQ⟩ (by rw [ak.AK hg uR]) (by rw [ak.AK hg uR]))
theorem ahp{b:Nat}{v:Value}{S:ak.aX}(i:Int)(w0:World)(bU:List aR)(bC:ak.Ok S):e1 Tryz.prog 85 [.pointer (some ⟨b,0,none⟩),aA i] w0 bU [fQ b v S,fR v S] (py b v ((ak.lj S i).1) (aA (ak.lj S i).2)):=by
 refine gk Tryz.func85 rfl Tryz.ntmps85 b4 fun cF a w ab U=>?_
 replace U:=gU U
 have fF:=bC.lo
 have gJ:=bC.aH
 have kK:=bC.lf
 have kL:=bC.iM
 refine aD ab U (av rfl<|ah) fun a w ab U=>ax fun cG bJ=>bc fun dX cq=>aG ab U (ai rfl<|ai rfl<|ah) fun a w ab U=>aJ ab U rfl (dv Cb rfl (List.Perm.refl _) (by exact (DV _ _ _  (by first | assumption | exact ak.iO (by assumption) | exact ak.kz (by assumption) _ _) (S:=S) (v:=v)))) ?_
 rintro _ _ _ a w ⟨_,_,rfl,rfl,⟨rfl,rfl,rfl⟩⟩ ab U
 replace U:=gU U
 refine aG ab U (ae (fZ rfl)<|ah) fun a w ab U=>wpList_nil (cq _ _ ?_)
 refine df ab rfl (fun aU=>?_) (fun aU=>?_)
 ·refine ax fun et cB=>bx ab U (av rfl<|ah) fun a w ab U=>cB _ _ ?_
  refine wp_ret<|cY (rs:=[.tmp 4]) rfl ab U (vs:=[_]) ⟨rfl,trivial⟩ [] [_,_] al al (ak.jI (S:=S) ⟨rfl,rfl,rfl⟩ (by rw [ak.Er (by have:=aU;simp at this;omega)]) (by rw [ak.Er (by have:=aU;simp at this;omega)]))
 ·have hg:0≤i∧i<S.s.length:=by simpa using aU
  refine wp_skip<|bJ _ _<|bc fun dL b9=>aG ab U (ai rfl<|ae (bN rfl)<|ae (aZ hC rfl rfl (s':=0) az)<|ae (bf ff 0 rfl rfl rfl rfl)<|ai rfl<|ae (fY ff e4 1 rfl rfl rfl ag)<|ae (ng e4 1 rfl rfl ag rfl (s':=0) az)<|ah) fun a w ab U=>aJ ab U rfl (B1 (x':=⟨(S.at i).tx,(S.at i).nx,(S.at i).dt,true⟩) ak.lN fL 1 rfl rfl rfl (ak.yI (S:=S) hg) a8 rfl rfl) ?_
  rintro _ _ _ a w ⟨rfl,rfl,rfl⟩ ab U
  replace U:=gU U
  refine wpList_nil (b9 _ _ ?_)
  refine aD ab U (av rfl<|ah) fun a w ab U=>wp_ret ?_
  exact cY (rs:=[.tmp 4]) rfl ab U (vs:=[_]) ⟨rfl,trivial⟩ [] [_,_] al al (ak.jI (S:=S.put i ⟨(S.at i).tx,(S.at i).nx,(S.at i).dt,true⟩) ⟨rfl,rfl,by exact congrArg (fun r=>[_,r]) ak.AQ⟩ (by rw [ak.Es hg]) (by rw [ak.Es hg]))
theorem agT{b:Nat}{v:Value}{S:ak.aX}(w0:World)(bU:List aR)(bC:ak.Ok S):e1 Tryz.prog 132 [.pointer (some ⟨b,0,none⟩)] w0 bU [fQ b v S,fR v S] (py b v ((ak.flush S).1) (aA (ak.flush S).2)):=by
 refine gk Tryz.func132 rfl Tryz.ntmps132 b4 fun cF a w ab U=>?_
 replace U:=gU U
 have fF:=bC.lo
 have gJ:=bC.aH
 have kK:=bC.lf
 have kL:=bC.iM
 refine aD ab U (av rfl<|ah) fun a w ab U=>ax fun cG bJ=>aD ab U (ai rfl<|ae (bN rfl)<|ae (aZ hC rfl rfl (s':=0) az)<|ae (bf fL 0 rfl rfl rfl rfl)<|ah) fun a w ab U=>df ab rfl (fun aU=>?_) (fun aU=>?_)
 ·refine ax fun et cB=>bx ab U (av rfl<|ah) fun a w ab U=>cB _ _ ?_
  refine wp_ret<|cY (rs:=[.tmp 2]) rfl ab U (vs:=[_]) ⟨rfl,trivial⟩ [] [_,_] al al (ak.jI (S:=S) ⟨rfl,rfl,rfl⟩ (by rw [ak.B7 aU]) (by rw [ak.B7 aU]))
 ·refine wp_skip<|bJ _ _<|bc fun dL b9=>aG ab U (ai rfl<|ah) fun a w ab U=>aJ ab U rfl (dv MK rfl (List.Perm.refl _) (by exact (R6 _ _  (by first | assumption | exact ak.iO (by assumption) | exact ak.kz (by assumption) _ _) (S:=S) (v:=v)))) ?_
  rintro _ _ _ a w ⟨_,_,rfl,rfl,⟨rfl,rfl,rfl⟩⟩ ab U
  replace U:=gU U
  refine aG ab U (av rfl<|ah) fun a w ab U=>wpList_nil (b9 _ _ ?_)
  refine ax fun eN cK=>aD ab U (ai rfl<|ae (dS rfl rfl)<|ah) fun a w ab U=>e9 ab rfl (fun bz=>?_) (fun bz=>?_)
  ·refine ax fun fk cP=>bx ab U (ai rfl<|av rfl<|ah) fun a w ab U=>cP _ _ ?_
   refine wp_ret<|cY (rs:=[.tmp 2]) rfl ab U (vs:=[_]) ⟨rfl,trivial⟩ [] [_,_] al al (ak.jI (S:=(ak.step S).1) ⟨rfl,rfl,rfl⟩ (by rw [ak.B8 aU bz]) (by rw [ak.B8 aU bz]))
  ·have bG:(ak.step S).2=0:=by omega
   have oS:=ak.iO bC
   refine wp_skip<|cK _ _<|ax fun gB du=>aD ab U (av rfl<|ah) fun a w ab U=>wp_block ?_
   obtain ⟨bG,a6,U⟩:=U.c1
   refine dy (γ:=Nat) (0) (fun (i:Nat)=>[(4,aA (i:Int))]) [(0,_)] (fun (i:Nat)=>((bG.set 0 (fQ b v (ak.gV (ak.step S).1 [] i))).set 1 (fR v (ak.gV (ak.step S).1 [] i)))) (fun (i:Nat)=>i≤(ak.step S).1.s.length) (fun (i:Nat)=>(ak.step S).1.s.length-i) (ab.sub ⟨rfl,rfl,trivial⟩) (by subst a6;(try dsimp only);rw [ak.R2];exact U) (by exact Nat.zero_le _) ?_
   rintro i a w bh ab U
   subst a6;(try dsimp only at bh ab U)
   have eL:=bh
   have rL:=ak.D0 (ak.step S).1 [] i
   have ZV:=ak.kz oS [] i
   have aaQ:=oS.aH
   replace U:=gU U
   refine ax fun ho dK=>aD ab U (ai rfl<|ai rfl<|ae (bN rfl)<|ae (aZ hC rfl rfl (s':=0) az)<|ae (bf ff 0 rfl rfl rfl rfl)<|ae (hA ff 1 rfl rfl)<|ae (cU rfl rfl)<|ah) fun a w ab U=>cn ab rfl (fun cl=>?_) (fun cl=>?_)
   ·refine wp_skip<|dK _ _<|ax fun iR eO=>wp_block ?_
    refine aD ab U (ai rfl<|ae (bN rfl)<|ae (aZ hC rfl rfl (s':=0) az)<|ae (bf ff 0 rfl rfl rfl rfl)<|ai rfl<|ae (fY ff e4 1 rfl rfl rfl ag)<|ae (ng e4 1 rfl rfl ag rfl (s':=0) az)<|ae (p3 ak.lN ak.b3 fL 1 rfl rfl rfl ag a8 rfl)<|ah) fun a w ab U=>df ab rfl (fun dI=>?_) (fun dI=>?_)
    ·have sQ:((ak.gV (ak.step S).1 [] i).at (i:Int)).dt=true:=dI
     have od:=sQ
     rw [ak.AN _ _ ag] at od
     have HK:(ak.gV (ak.step S).1 [] i).put (i:Int) (ak.iQ ((ak.gV (ak.step S).1 [] i).at (i:Int)) (64))=ak.gV (ak.step S).1 [] (i+1):=ak.R5 (ak.step S).1 [] ag od
     refine dM<|aG ab U (ai rfl<|ai rfl<|ah) fun a w ab U=>aJ ab U rfl (dv MF rfl (List.Perm.refl _) (by exact (R1 _ _ (by first | assumption | omega) (by assumption) _ _  (by first | assumption | exact ak.iO (by assumption) | exact ak.kz (by assumption) _ _) (S:=(ak.gV (ak.step S).1 [] i)) (v:=v)))) ?_
     rintro _ _ _ a w ⟨_,_,rfl,rfl,⟨rfl,rfl,rfl⟩⟩ ab U
     replace U:=gU U
     refine wpList_nil (eO _ _ ?_)
     refine bx ab U (ai rfl<|b5 rfl rfl<|av rfl<|ah) fun a w ab U=>⟨(i+1),?_,?_,ab.sub ⟨rfl,rfl,trivial⟩,?_⟩
     ·(try dsimp only);omega
     ·omega
     ·rw [HK] at U
      exact U
    ·have sQ:((ak.gV (ak.step S).1 [] i).at (i:Int)).dt=false:=dI
     have od:=sQ
     rw [ak.AN _ _ ag] at od
     have vg:=ak.R4 (ak.step S).1 [] ag od
     refine wp_skip<|eO _ _<|bx ab U (ai rfl<|b5 rfl rfl<|av rfl<|ah) fun a w ab U=>⟨(i+1),?_,?_,ab.sub ⟨rfl,rfl,trivial⟩,?_⟩
     ·(try dsimp only);omega
     ·omega
     ·rw [← vg];exact U
   ·refine wp_exit<|du _ _<|aD ab U (av rfl<|ah) fun a w ab U=>wp_ret ?_
    exact cY (rs:=[.tmp 2]) rfl ab U (vs:=[_]) ⟨rfl,trivial⟩ [] [_,_] al al (ak.jI (S:=ak.gV (ak.step S).1 [] i) ⟨rfl,rfl,rfl⟩ (by rw [ak.Mx aU bG (i:=i) ag]) (by rw [ak.Mx aU bG (i:=i) ag]))
theorem agY{b:Nat}{v:Value}{S:ak.aX}(gM:Value)(ps:List Int)(w0:World)(bU:List aR)(z:aR)(k6:bo Go.aK.encI z gM ps)(bj:gQ w0 bU z)(bC:ak.Ok S):e1 Tryz.prog 90 [.pointer (some ⟨b,0,none⟩),gM] w0 bU [fQ b v S,fR v S] (py b v (ak.e6 S ps) (.tuple ([]:List Value).toArray)):=by
 refine gk Tryz.func90 rfl Tryz.ntmps90 b4 fun cF a w ab U=>?_
 replace U:=gU U
 have fF:=bC.lo
 have gJ:=bC.aH
 have kK:=bC.lf
 have kL:=bC.iM
 have CQ:=xR k6
 have ia:=k6.1
 have oS:=bC
 refine aD ab U (av rfl<|ah) fun a w ab U=>ax fun cG bJ=>aD ab U (av rfl<|ah) fun a w ab U=>wp_block ?_
 obtain ⟨bG,a6,U⟩:=U.c1
 refine dy (γ:=Nat) (0) (fun (i:Nat)=>[(4,aA (ak.a7 S i:Int)),(5,aA (i:Int))]) [(0,_),(1,_)] (fun (i:Nat)=>((bG.set 0 (fQ b v (ak.gV S ps i))).set 1 (fR v (ak.gV S ps i)))) (fun (i:Nat)=>i≤S.s.length) (fun (i:Nat)=>S.s.length-i) (ab.sub ⟨rfl,rfl,rfl,rfl,trivial⟩) (by subst a6;(try dsimp only);rw [ak.R2];exact U) (by exact Nat.zero_le _) ?_
 rintro i a w bh ab U
 subst a6;(try dsimp only at bh ab U)
 have eL:=bh
 have rL:=ak.D0 S ps i
 have ZV:=ak.kz oS ps i
 have aaQ:=oS.aH
 replace U:=gU U
 have fE:=ak.BW S i
 refine ax fun et cB=>aD ab U (ai rfl<|ai rfl<|ae (bN rfl)<|ae (aZ hC rfl rfl (s':=0) az)<|ae (bf ff 0 rfl rfl rfl rfl)<|ae (hA ff 1 rfl rfl)<|ae (cU rfl rfl)<|ah) fun a w ab U=>cn ab rfl (fun aU=>?_) (fun aU=>?_)
 ·refine wp_skip<|cB _ _<|ax fun eN cK=>wp_block ?_
  refine ax fun fa cT=>aD ab U (ai rfl<|ae (bN rfl)<|ae (aZ hC rfl rfl (s':=0) az)<|ae (bf ff 0 rfl rfl rfl rfl)<|ai rfl<|ae (fY ff e4 1 rfl rfl rfl ag)<|ae (ng e4 1 rfl rfl ag rfl (s':=0) az)<|ae (p3 ak.lN ak.b3 fL 1 rfl rfl rfl ag a8 rfl)<|ae (fZ rfl)<|ah) fun a w ab U=>df ab rfl (fun bz=>?_) (fun bz=>?_)
  ·have sQ:((ak.gV S ps i).at (i:Int)).dt=false:=ak.aev bz
   have od:=sQ
   rw [ak.AN _ _ ag] at od
   have vg:=ak.R4 S ps ag od
   refine wp_exit<|cK _ _<|bx ab U (ai rfl<|b5 rfl rfl<|av rfl<|ah) fun a w ab U=>⟨(i+1),?_,?_,ab.sub ⟨(by show some (aA _)=some (aA _);rw [ak.yP S ag,if_neg (by rw [od];simp)]),rfl,rfl,rfl,trivial⟩,?_⟩
   ·(try dsimp only);omega
   ·omega
   ·rw [← vg];exact U
  ·have sQ:((ak.gV S ps i).at (i:Int)).dt=true:=ak.aeu bz
   have od:=sQ
   rw [ak.AN _ _ ag] at od
   have HK:(ak.gV S ps i).put (i:Int) (ak.iQ ((ak.gV S ps i).at (i:Int)) (ak.kr ps (ak.a7 S i)))=ak.gV S ps (i+1):=ak.R5 S ps ag od
   refine wp_skip<|cT _ _<|aD ab U (av rfl<|ah) fun a w ab U=>?_
   obtain ⟨bG,a6,U⟩:=U.c1
   refine mn (γ:=Int) (fun (p:Int)=>[(6,aA p)]) [(0,_),(1,_),(4,_),(5,_)] (fun (p:Int)=>bG) (fun (p:Int)=>p=ak.kr ps (ak.a7 S i)) (ab.sub ⟨rfl,rfl,rfl,rfl,trivial⟩) U ?_ ?_
   ·subst a6
    refine aD ab U (ai rfl<|ai rfl<|ae (ee dm k6 rfl)<|ae (cU rfl rfl)<|ah) fun a w ab U=>cn ab rfl (fun cl=>?_) (fun cl=>?_)
    ·refine bx ab U (ai rfl<|ai rfl<|ae (dV dm bH k6 rfl rfl ag)<|ae (tz bH k6 bj rfl rfl ag)<|av rfl<|ah) fun a w ab U=>⟨((ps.getD ((ak.a7 S i:Int)).toNat 0)),?_,ab.sub ⟨rfl,rfl,rfl,rfl,rfl,trivial⟩,?_⟩
     ·rw [Int.toNat_natCast];exact (ak.Qt ag).symm
     ·exact U
    ·refine wp_skip<|⟨(64),?_,ab.sub ⟨rfl,rfl,rfl,rfl,rfl,trivial⟩,?_⟩
     ·exact (ak.Qu ag).symm
     ·exact U
   rintro p a w bh ab U
   subst a6;(try dsimp only at bh ab U)
   have qy:=bh
   replace U:=gU U
   subst qy
   refine bc fun ho dK=>aG ab U (ai rfl<|ai rfl<|ai rfl<|ah) fun a w ab U=>aJ ab U rfl (dv MF rfl (List.Perm.refl _) (by exact (R1 _ _ (by first | assumption | omega) (by assumption) _ _  (by first | assumption | exact ak.iO (by assumption) | exact ak.kz (by assumption) _ _) (S:=(ak.gV S ps i)) (v:=v)))) ?_
   rintro _ _ _ a w ⟨_,_,rfl,rfl,⟨rfl,rfl,rfl⟩⟩ ab U
   replace U:=gU U
   refine wpList_nil (dK _ _ ?_)
   refine bx ab U (ai rfl<|b5 rfl rfl<|av rfl<|ah) fun a w ab U=>cK _ _ ?_
   refine bx ab U (ai rfl<|b5 rfl rfl<|av rfl<|ah) fun a w ab U=>⟨(i+1),?_,?_,ab.sub ⟨(by show some (aA _)=some (aA _);rw [ak.yP S ag,if_pos od];rfl),rfl,rfl,rfl,trivial⟩,?_⟩
   ·(try dsimp only);omega
   ·omega
   ·rw [HK] at U
    exact U
 ·refine wp_exit<|bJ _ _<|bc fun iZ eY=>aG ab U (ai rfl<|ae (bN rfl)<|ae (aZ hC rfl rfl (s':=0) az)<|ah) fun a w ab U=>aJ ab U rfl (dq fL 0 rfl rfl rfl rfl (by simp)) ?_
  rintro _ _ _ a w ⟨rfl,rfl,rfl⟩ ab U
  replace U:aB _ (_) (.blk _ _ ([_,_,_].set 1 _)::_::_) _:=U
  simp only [dd] at U
  replace U:=gU U
  refine wpList_nil (eY _ _ ?_)
  refine dM<|aG ab U (ai rfl<|ae (bN rfl)<|ae (aZ hC rfl rfl (s':=0) az)<|ah) fun a w ab U=>aJ ab U rfl (dq bH 0 rfl rfl rfl rfl (by simp)) ?_
  rintro _ _ _ a w ⟨rfl,rfl,rfl⟩ ab U
  replace U:aB _ (_) (.blk _ _ ([_,_,_].set 2 _)::_::_) _:=U
  simp only [dd] at U
  replace U:=gU U
  refine wpList_nil ?_
  -- falls off the end
  exact cY (rs:=[]) rfl ab U (vs:=[]) trivial [] [_,_] al al (ak.jI (S:=⟨(ak.gV S ps i).s,false, -1⟩) ⟨rfl,rfl,rfl⟩ (ak.ad8 S ps ag) (rfl))
end
section
theorem agZ(n:Nat)(bD:1≤n∧n≤4096)(w:World):cC Tryz.prog 124 [aA (n:Int)] w (fun r zs hs=>zs=[]∧∃ b v,r=.tuple [.pointer (some ⟨b,0,none⟩),aA 0].toArray∧hs=[fQ b v (ak.new n),fR v (ak.new n)]):=by
 refine c4 Tryz.func124 rfl Tryz.ntmps124 b4 fun a ab U=>aD ab U (av rfl<|av rfl<|ah) fun a w ab U=>ax fun cG bJ=>bc fun dX cq=>aG ab U (ai rfl<|ae (cU rfl rfl)<|ai rfl<|ah) fun a w ab U=>?_
 refine gA 2 8 2 ab U rfl rfl rfl rfl rfl (fun aP=>have aP:=(by first | exact of_decide_eq_false aP | exact aP);aO 8 rfl rfl rfl (bE rfl)<|aO 8 rfl rfl rfl (fc rfl rfl)<|ah) rfl rfl fun a w ab U=>?_
 refine wpList_nil (cq _ _ ?_)
 refine df ab rfl (fun aU=>?_) (fun aU=>?_)
 ·(try simp only [dj] at aU)
  exfalso;omega
 ·(try simp only [dj] at aU)
  refine wp_skip<|bJ _ _<|bc fun et cB=>aG ab U (ae (hJ (places:=[(0,1),(1,1),(2,1)]) (cells:=[.slice none 0 0,.bool false,_]) hC az rfl (by rfl))<|ah) fun a w ab U=>aJ ab U rfl (jV rfl) ?_
  rintro _ _ _ a w ⟨ck,rfl,rfl,rfl⟩ ab U
  refine aG ab U (av rfl<|ah) fun a w ab U=>wpList_nil ?_
  replace U:=U.iC 166 4
  replace U:=e7 U
  refine cB _ _<|ax fun dL b9=>aD ab U (av rfl<|ah) fun a w ab U=>wp_block ?_
  obtain ⟨bG,a6,U⟩:=U.c1
  refine dy (γ:=Value×Nat) ((Value.slice none 0 0),0) (fun (u,i)=>[(5,aA (i:Int))]) [(0,_),(4,_)] (fun (u,i)=>((bG.set 1 (.blk ck 162 [u,.bool false,aA (-1)])).set 0 (.row u 166 4 i ((ak.new i).s.flatMap ak.o8)))) (fun (u,i)=>i≤n) (fun (u,i)=>n-i) (ab.sub ⟨rfl,rfl,rfl,trivial⟩) (by subst a6;exact U) (by exact Nat.zero_le _) ?_
  rintro ⟨u,i⟩ a w bh ab U
  subst a6;(try dsimp only at bh ab U)
  have eL:=bh
  replace U:=e7 U
  refine ax fun fa cT=>aD ab U (ai rfl<|ai rfl<|ae (cU rfl rfl)<|ah) fun a w ab U=>cn ab rfl (fun bz=>?_) (fun bz=>?_)
  ·refine wp_skip<|cT _ _<|ax fun gB du=>wp_block ?_
   revert U;revert ab;apply hL (J:=jC (α0:=Value) (α1:=Value) (α2:=Value) 32 _ _ _ _ _) #[false,false,false,false,false,false,false,false,false,false,false,false,false] 13 mixed rfl rfl
   ·intro w ab U
    refine aS 0 rfl ab (U.ao al ay) (bE rfl) fun a ab=>aS 1 rfl ab (U.ao al ay) (bE rfl) fun a ab=>aS 2 rfl ab (U.ao al ay) (bN rfl) fun a ab=>aS 3 rfl ab (U.ao al ay) (aZ hC rfl rfl (s':=0) az) fun a ab=>aS 4 rfl ab (U.ao al (c2)) (bf ff 0 rfl rfl rfl rfl) fun a ab=>?_
    refine bY 5 rfl rfl ab U rfl (FN (m:=64) bX bI rfl rfl a8 a8 rfl) ?_
    rintro Ts _ _ a w ⟨rfl,rfl⟩ ab U
    refine ⟨⟨.inr (U.ew (fO)),.inr U.ax,.inr U.ax,.inr U.ax,.inr U.ax,trivial⟩,?_⟩
    refine aS 6 rfl ab (U.ao al (ay.k)) (nf (xs:=ak.z64) bX bB bI 0 rfl rfl) fun a ab=>aS 7 rfl ab (U.ao al ay) (IP e4 4 az rfl rfl rfl a8) fun a ab=>bY 8 rfl rfl ab U rfl (oN ff e4 rfl aI a8 bM a8 a8) ?_
    rintro Tt _ _ a w ⟨rfl,rfl⟩ ab U
    refine ⟨⟨aq,aq,.inr (U.ew (eS)),.inr U.ax,.inr U.ax,.inr U.ax,.inr U.ax,trivial⟩,?_⟩
    refine bY 9 rfl rfl ab U rfl (dH ff e4 2 rfl rfl rfl (eo ff (k:=0) rfl bM) aI rfl a8) ?_
    rintro J0 _ _ a w ⟨rfl,rfl⟩ ab U
    refine ⟨⟨aq,aq,aq,aq,.inr U.ax,.inr U.ax,.inr U.ax,trivial⟩,?_⟩
    refine aS 10 rfl ab (U.ao al ay) (bN rfl) fun a ab=>aS 11 rfl ab (U.ao al ay) (aZ hC rfl rfl (s':=0) az) fun a ab=>bY 12 rfl rfl ab U rfl (dq ff 3 rfl rfl rfl (row_one (U.dp 2 rfl)) (by simp)) ?_
    rintro _ _ _ a w ⟨rfl,rfl,rfl⟩ ab U
    replace U:aB _ [] [_,_,_,.blk _ _ ([_,_,_].set 0 _)] _:=U
    simp only [dd] at U
    replace U:=jt U
    refine ⟨⟨aq,aq,aq,aq,aq,aq,aq,aq,aq,trivial⟩,?_⟩
    exact ev az (H8 Ts Tt J0 (trivial) (ab.sub (L':=[(0,_),(4,_),(5,_)]) ⟨rfl,rfl,rfl,trivial⟩) U)
   rintro a w ⟨Ts,Tt,J0, -,ab,U⟩
   (try dsimp only at ab U)
   refine du _ _<|bx ab U (ai rfl<|b5 rfl rfl<|av rfl<|ah) fun a w ab U=>?_
   replace U:=U.ao ay (fO)
   refine ⟨(J0,i+1),?_,?_,ab.sub ⟨rfl,rfl,rfl,trivial⟩,?_⟩
   ·(try dsimp only);omega
   ·omega
   ·dsimp only [List.set_cons_zero,List.set_cons_succ];rw [ak.aer i,List.flatMap_append];exact U
  ·refine wp_exit<|b9 _ _<|aD ab U (ai rfl<|av rfl<|av rfl<|ah) fun a w ab U=>wp_ret ?_
   replace U:=U.perm (.swap _ _ _)
   exact b0 (rs:=[.tmp 2,.tmp 3]) rfl ab U (vs:=[_,_]) ⟨rfl,rfl,trivial⟩ al al ⟨rfl,ck,u,rfl,by rw [show n=i by omega,ak.aeq]⟩
end
section
theorem Xx:b1 Tryz.prog 141:=b6 Tryz.func141
theorem aco(v:Value)(xs:List Int)(n:Int)(w:World)(aw:bo Go.aK.encI (cf w) v xs):cC Tryz.prog 141 [v,aA n] w (fun r _ _=>r=aA (cN.kN (fun y=>decide (n=y)) xs)):=by
 refine c4 Tryz.func141 rfl Tryz.ntmps141 b4 fun a ab U=>?_
 have c6:=aw.1
 refine aD ab U (av rfl<|ah) fun a w ab U=>ax fun cG bJ=>aD ab U (ai rfl<|ae (ee dm aw rfl)<|ai rfl<|ah) fun a w ab U=>wp_block ?_
 obtain ⟨bG,a6,U⟩:=U.c1
 refine dy (γ:=Int) (0) (fun (i:Int)=>[(8,aA i)]) [(0,_),(1,_),(7,_)] (fun (i:Int)=>bG) (fun (i:Int)=>0≤i∧i≤xs.length∧∀ j,j<i.toNat→(fun y=>decide (n=y)) (xs.getD j 0)=false) (fun (i:Int)=>(xs.length-i).toNat) (ab.sub ⟨rfl,rfl,rfl,rfl,trivial⟩) (by subst a6;exact U) (by exact ⟨Int.le_refl _,by omega,fun j aV=>absurd aV (by simp)⟩) ?_
 rintro i a w bh ab U
 subst a6;(try dsimp only at bh ab U)
 obtain ⟨eL,kI,iz⟩:=bh
 replace U:=ic U
 refine aD ab U (ae (cU rfl rfl)<|ah) fun a w ab U=>ax fun dL b9=>cn ab rfl (fun aU=>?_) (fun aU=>?_)
 ·refine wp_skip<|b9 _ _<|ax fun eN cK=>wp_block ?_
  refine aD ab U (ai rfl<|av rfl<|ah) fun a w ab U=>aD ab U (ai rfl<|ai rfl<|ai rfl<|ae (dV dm bH aw rfl rfl ag)<|ae (tz bH aw cM rfl rfl ag)<|ae (gq rfl rfl)<|ah) fun a w ab U=>cn ab rfl (fun bz=>?_) (fun bz=>?_)
  ·refine ax fun gB du=>bx ab U (ai rfl<|av rfl<|ah) fun a w ab U=>du _ _ ?_
   refine wp_ret<|b0 (rs:=[.tmp 4]) rfl ab U (vs:=[_]) ⟨rfl,trivial⟩ ay ay (by rw [cN.H5 (i:=i.toNat) ag (decide_eq_true bz) iz,Int.toNat_of_nonneg eL])
  ·refine wp_skip<|cK _ _<|bx ab U (b5 rfl rfl<|ai rfl<|ah) fun a w ab U=>⟨(i+1),?_,?_,ab.sub ⟨rfl,rfl,rfl,rfl,trivial⟩,?_⟩
   ·(try dsimp only);omega
   ·exact ⟨by omega,by omega,cN.Dq (p:=(fun y=>decide (n=y))) eL (decide_eq_false bz) iz⟩
   ·exact U
 ·refine wp_exit<|bJ _ _<|aD ab U (av rfl<|ah) fun a w ab U=>wp_ret ?_
  exact b0 (rs:=[.tmp 4]) rfl ab U (vs:=[_]) ⟨rfl,trivial⟩ ay ay (by rw [cN.C6 (fun j aV=>iz j ag)])
theorem V6(v:Value)(xs:List Int)(n:Int)(w:World)(aw:bo Go.aK.encI (cf w) v xs):cC Tryz.prog 95 [v,aA n] w (fun r _ _=>r=.bool (decide (n∈xs))):=by
 refine c4 Tryz.func95 rfl Tryz.ntmps95 b4 fun a ab U=>?_
 have c6:=aw.1
 refine aD ab U (av rfl<|ah) fun a w ab U=>aD ab U (ai rfl<|ai rfl<|ae (bV Xx rfl (fun w U=>aco _ _ _ w (bo.mono (U.le cM) aw)) bP)<|ae (ke rfl rfl)<|av rfl<|ah) fun a w ab U=>wp_ret ?_
 exact b0 (rs:=[.tmp 4]) rfl ab U (vs:=[_]) ⟨rfl,trivial⟩ ay ay (by rw [cN.acn])
end
end Go.Proofs.YtngcjojijaknnaaGreatDoor
