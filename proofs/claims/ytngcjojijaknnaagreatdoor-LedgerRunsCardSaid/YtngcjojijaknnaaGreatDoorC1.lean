/- walks and plain laws -/
import Derived.Test.YtngcjojijaknnaaGreatDoorFwB
import Derived.Test.YtngcjojijaknnaaGreatDoorFwD
import Derived.Test.YtngcjojijaknnaaGreatDoorDkA
import Derived.Test.YtngcjojijaknnaaGreatDoorGuA
import Derived.Test.YtngcjojijaknnaaGreatDoorShW
import Derived.Test.YtngcjojijaknnaaGreatDoorLlay
import Derived.Test.YtngcjojijaknnaaGreatDoorChecked
import Derived.Shelf.SortM.Plain
import Derived.Shelf.SortM.SortNone
set_option linter.all false
namespace Go.Proofs.YtngcjojijaknnaaGreatDoor
open Go.aJ
set_option maxRecDepth 4000
set_option maxHeartbeats 2000000
section
theorem mixed:Tryz.prog.follows .mixedOrders=true:=by kernel_rfl
theorem bG:a1 Tryz.prog 3 (.int .i64) 1 8 (Value.int .i64 0):=⟨Tryz.underlying3,by kernel_rfl⟩
theorem bF:a1 Tryz.prog 5 (.int .u8) 1 1 (Value.int .u8 0):=⟨Tryz.underlying5,by kernel_rfl⟩
theorem bS:a1 Tryz.prog 25 (.slice 5) 1 24 (Value.slice none 0 0):=⟨Tryz.underlying25,by kernel_rfl⟩
theorem Ig:a1 Tryz.prog 113 (.int .u64) 1 8 (Value.int .u64 0):=⟨Tryz.underlying113,by kernel_rfl⟩
theorem b4:a1 Tryz.prog 220 (.int .u32) 1 4 (Value.int .u32 0):=⟨Tryz.underlying220,by kernel_rfl⟩
theorem gI:a1 Tryz.prog 221 (.array 8 220) 8 32 (.agg (List.replicate 8 (Value.int .u32 0)).toArray):=⟨Tryz.underlying221,by kernel_rfl⟩
theorem gJ:a1 Tryz.prog 239 (.array 64 220) 64 256 (.agg (List.replicate 64 (Value.int .u32 0)).toArray):=⟨Tryz.underlying239,by kernel_rfl⟩
theorem gm:a1 Tryz.prog 263 (.array 4 220) 4 16 (.agg ([Value.int .u32 0,Value.int .u32 0,Value.int .u32 0,Value.int .u32 0]).toArray):=⟨Tryz.underlying263,by kernel_rfl⟩
theorem VM:bU Tryz.prog 186:=bY Tryz.func186
theorem K6:bU Tryz.prog 187:=bY Tryz.func187
theorem tg:bU Tryz.prog 203:=bY Tryz.func203
theorem ux(x:UInt32)(k:Int)(w:World):ch Tryz.prog 203 [cx x,az k] w (fun v _ _=>v=cx (aK.rotl x k)):=by
 refine cI Tryz.func203 rfl Tryz.ntmps203 (Nat.le_of_ble_eq_true rfl) fun a ab U=>?_
 have aD:=(di k &&& 31)
 refine aB ab U (ar rfl<|ah) fun a w ab U=>aB ab U (ai rfl<|ag (yU bG Ig rfl)<|ag (adj (q:=31) rfl rfl)<|ar rfl<|ah) fun a w ab U=>aB ab U (ai rfl<|ai rfl<|ag (v8 rfl rfl (by omega))<|ai rfl<|ai rfl<|ag (ad6 (p:=32) rfl rfl)<|ag (sm rfl rfl (by omega))<|ag (v7 rfl rfl)<|ar rfl<|ah) fun a w ab U=>wp_ret ?_
 exact bR (rs:=[.tmp 4]) rfl ab U (vs:=[_]) ⟨rfl,trivial⟩ ay ay (rfl)
theorem ND(x:UInt32)(i j k:Int)(aG:0<i∧i<32)(a6:0<j∧j<32)(aD:0<k∧k<32)(w:World):ch Tryz.prog 187 [cx x,az i,az j,az k] w (fun v _ _=>v=cx (aK.iO x (UInt32.ofNat i.toNat) ^^^ aK.iO x (UInt32.ofNat j.toNat) ^^^ aK.iO x (UInt32.ofNat k.toNat))):=by
 refine cI Tryz.func187 rfl Tryz.ntmps187 (Nat.le_of_ble_eq_true rfl) fun a ab U=>aB ab U (ar rfl<|ah) fun a w ab U=>aB ab U (ai rfl<|ai rfl<|ag (Cm rfl (by omega))<|ag (bQ tg rfl (fun w U=>ux _ _ w ) (fun _ _ _ h=>h))<|ai rfl<|ai rfl<|ag (Cm rfl (by omega))<|ag (bQ tg rfl (fun w U=>ux _ _ w ) (fun _ _ _ h=>h))<|ag (jV rfl rfl)<|ai rfl<|ai rfl<|ag (Cm rfl (by omega))<|ag (bQ tg rfl (fun w U=>ux _ _ w ) (fun _ _ _ h=>h))<|ag (jV rfl rfl)<|ar rfl<|ah) fun a w ab U=>wp_ret ?_
 exact bR (rs:=[.tmp 8]) rfl ab U (vs:=[_]) ⟨rfl,trivial⟩ ay ay (by rw [aK.abG x i j k aG a6 aD])
theorem afv(v:Value)(bb:List UInt8)(hl:bb.length=64)(w:World)(au:bg gE (b1 w) v bb):ch Tryz.prog 186 [v] w (fun r _ _=>r=.agg ((aK.hC bb 64).map cx).toArray):=by
 refine cI Tryz.func186 rfl Tryz.ntmps186 (Nat.le_of_ble_eq_true rfl) fun a ab U=>?_
 have au:=au
 refine a8 fun dW cR=>aH ab U rfl (c1 gJ) ?_
 rintro _ _ _ a w ⟨b6,rfl,rfl,rfl⟩ ab U
 rw [show List.replicate 64 (Value.int .u32 0)=(List.replicate 64 (0:UInt32)).map cx from by rw [List.map_replicate] <;> rfl] at U
 refine wpList_nil (cR _ _ ?_)
 refine a8 fun cm bD=>aH ab U rfl (c1 gJ) ?_
 rintro _ _ _ a w ⟨dk,rfl,rfl,rfl⟩ ab U
 rw [show List.replicate 64 (Value.int .u32 0)=(List.replicate 64 (0:UInt32)).map cx from by rw [List.map_replicate] <;> rfl] at U
 refine wpList_nil (bD _ _ ?_)
 refine ax fun dH cf=>aB ab U (ai rfl<|ah) fun a w ab U=>wp_block ?_
 obtain ⟨bC,aZ,U⟩:=U.cT
 refine df (γ:=Int) (0) (fun (t:Int)=>[(11,az t)]) [(0,_),(2,_),(3,_)] (fun (t:Int)=>(bC.set 0 (.blk dk 239 ((aK.fQ bb t.toNat).map cx)))) (fun (t:Int)=>0≤t∧t≤64) (fun (t:Int)=>(64-t).toNat) (ab.sub ⟨rfl,rfl,rfl,rfl,trivial⟩) (by subst aZ;exact U) (by simp) ?_
 rintro t a w ba ab U
 subst aZ;(try dsimp only at ba ab U)
 obtain ⟨Bx,Gg⟩:=ba
 replace U:=eK U
 have yt:=aK.HT bb t.toNat (by omega)
 refine aB ab U (ag (cK rfl rfl)<|ah) fun a w ab U=>ax fun et cz=>b9 ab rfl (fun aS=>?_) (fun aS=>?_)
 ·refine wp_skip<|cz _ _<|ax fun eU cO=>wp_block ?_
  refine aB ab U (ai rfl<|ar rfl<|ah) fun a w ab U=>ax fun fY dg=>aB ab U (ai rfl<|ag (cK rfl rfl)<|ah) fun a w ab U=>b9 ab rfl (fun bs=>?_) (fun bs=>?_)
  ·refine ax fun gQ dz=>ax fun iE eO=>bq ab U (ai rfl<|ai rfl<|ag (hd rfl rfl (by omega))<|ai rfl<|ag (hd rfl rfl (by omega))<|bX rfl rfl<|ag (yZ bS bF au rfl rfl rfl (by omega))<|ag (dL bS (bg.cut au (by omega)) rfl)<|ai rfl<|ah) fun a w ab U=>?_
   have hlen:(((bb.take (4*t+4).toNat).drop (4*t).toNat).length:Int)=4:=by simp;omega
   refine eO _ _<|wp_block ?_
   obtain ⟨bC,aZ,U⟩:=U.cT
   refine df (γ:=Int) (0) (fun (j:Int)=>[(24,az j)]) [(0,_),(2,_),(3,_),(4,_),(11,_),(22,_),(23,_)] (fun (j:Int)=>(bC.set 0 (.blk dk 239 ((aK.lH bb t.toNat j.toNat).map cx)))) (fun (j:Int)=>0≤j∧j≤4) (fun (j:Int)=>(4-j).toNat) (ab.sub ⟨rfl,rfl,rfl,rfl,rfl,rfl,rfl,rfl,trivial⟩) (by subst aZ;rw [aK.HS bb t.toNat (by omega)] at U;exact U) (by simp) ?_
   rintro j a w ba ab U
   subst aZ;(try dsimp only at ba ab U)
   obtain ⟨rS,pL⟩:=ba
   replace U:=eK U
   have m3:=aK.afr bb t.toNat j.toNat (by omega)
   refine aB ab U (ag (cK rfl rfl)<|ah) fun a w ab U=>ax fun kM gr=>b9 ab rfl (fun b7=>?_) (fun b7=>?_)
   ·refine wp_skip<|gr _ _<|ax fun jN fa=>wp_block ?_
    refine aB ab U (ag (dG bS bF (bg.cut au (by omega)) rfl rfl (by omega))<|ag (mH bF (bg.cut au (by omega)) cD rfl rfl (by omega))<|ar rfl<|ah) fun a w ab U=>du ?_
    refine aE ab U (ai rfl<|ai rfl<|ag (hn gJ b4 rfl rfl (by omega))<|ag (jI b4 0 0 rfl rfl aI rfl)<|ag (v8 rfl rfl (by omega))<|ai rfl<|ag (yT bF b4 rfl)<|ag (v7 rfl rfl)<|ag (hn gJ b4 rfl rfl (by omega))<|ah) fun a w ab U=>aH ab U rfl (qu b4 0 rfl rfl rfl aI rfl) ?_
    rintro _ _ _ a w ⟨rfl,rfl,rfl⟩ ab U
    replace U:=eK U
    refine wpList_nil (fa _ _ ?_)
    refine bq ab U (bX rfl rfl<|ai rfl<|ah) fun a w ab U=>?_
    rw [aK.Sy bb t j (by omega) (by omega) (by omega) (by omega) hl] at U
    refine ⟨(j+1),?_,?_,ab.sub ⟨rfl,rfl,rfl,rfl,rfl,rfl,rfl,rfl,trivial⟩,?_⟩
    ·(try dsimp only);omega
    ·(try dsimp only);omega
    ·exact U
   ·refine wp_exit<|dz _ _<|wp_exit ?_
    refine cO _ _<|bq ab U (bX rfl rfl<|ai rfl<|ah) fun a w ab U=>?_
    have a6:j=4:=by omega
    subst a6
    rw [show (4:Int).toNat=4 from rfl,aK.Qi bb t.toNat (by omega),show t.toNat+1=(t+1).toNat by omega] at U
    refine ⟨(t+1),?_,?_,ab.sub ⟨rfl,rfl,rfl,rfl,trivial⟩,?_⟩
    ·(try dsimp only);omega
    ·(try dsimp only);omega
    ·exact U
  ·refine wp_skip<|dg _ _<|hZ mixed aA ab U (ai rfl<|e2 rfl rfl<|ag (hn gJ b4 rfl rfl (by omega))<|ag (jI b4 0 0 rfl rfl aI rfl)<|ai rfl<|e2 rfl rfl<|ag (hn gJ b4 rfl rfl (by omega))<|ag (jI b4 0 0 rfl rfl aI rfl)<|ar rfl<|ar rfl<|ah) fun a w ab U=>aB ab U (ai rfl<|ag (bQ tg rfl (fun w U=>ux _ _ w ) (fun _ _ _ h=>h))<|ai rfl<|ag (bQ tg rfl (fun w U=>ux _ _ w ) (fun _ _ _ h=>h))<|ag (jV rfl rfl)<|ai rfl<|ag (sm rfl rfl (by omega))<|ag (jV rfl rfl)<|ar rfl<|ah) fun a w ab U=>aB ab U (ai rfl<|ag (bQ tg rfl (fun w U=>ux _ _ w ) (fun _ _ _ h=>h))<|ai rfl<|ag (bQ tg rfl (fun w U=>ux _ _ w ) (fun _ _ _ h=>h))<|ag (jV rfl rfl)<|ai rfl<|ag (sm rfl rfl (by omega))<|ag (jV rfl rfl)<|ar rfl<|ah) fun a w ab U=>?_
   refine h2 15 mixed aA ab U (ai rfl<|ai rfl<|e2 rfl rfl<|ag (hn gJ b4 rfl rfl (by omega))<|ag (jI b4 0 0 rfl rfl aI rfl)<|ai rfl<|ag (hN rfl rfl)<|ai rfl<|e2 rfl rfl<|ag (hn gJ b4 rfl rfl (by omega))<|ag (jI b4 0 0 rfl rfl aI rfl)<|ag (hN rfl rfl)<|ai rfl<|ag (hN rfl rfl)<|ag (hn gJ b4 rfl rfl (by omega))<|ah) fun a w ab U=>aH ab U rfl (qu b4 0 rfl rfl rfl aI rfl) ?_
   rintro _ _ _ a w ⟨rfl,rfl,rfl⟩ ab U
   replace U:=eK U
   refine wpList_nil (cO _ _ ?_)
   refine bq ab U (bX rfl rfl<|ai rfl<|ah) fun a w ab U=>?_
   rw [aK.Qk bb t (by omega) (by omega)] at U
   refine ⟨(t+1),?_,?_,ab.sub ⟨rfl,rfl,rfl,rfl,trivial⟩,?_⟩
   ·(try dsimp only);omega
   ·(try dsimp only);omega
   ·exact U
 ·obtain rfl:t=64:=by omega
  rw [show (64:Int).toNat=64 from rfl] at yt
  rw [show (64:Int).toNat=64 from rfl,aK.Qj] at U
  have jw:=aK.l3 bb 64
  refine wp_exit<|cf _ _<|a8 fun pr jF=>aE ab U (ag (fW gJ 0 rfl rfl aI rfl)<|ah) fun a w ab U=>aH ab U rfl (cA gJ 1 rfl rfl rfl rfl aI bJ aI) ?_
  rintro _ _ _ a w ⟨rfl,rfl,rfl⟩ ab U
  replace U:=eK U
  refine wpList_nil (jF _ _ ?_)
  refine wp_ret<|bR (rs:=[.cell 2 239]) rfl ab U (vs:=[_]) ⟨⟨_,_,_,_,_,_,_,rfl,List.mem_of_getElem? (i:=1) rfl,gJ,.inl ⟨rfl,aI,rfl⟩⟩,trivial⟩ ay ay (rfl)
theorem TS(v:Value)(ss:List UInt32)(bb:List UInt8)(Zx:ss.length=8)(hl:bb.length=64)(w:World)(au:bg gE (b1 w) v bb){fU:Nat×Nat}{fT:TypeId}(fp:w.heap[1]?=some (.cells (aK.ek.map cx).toArray fT fU)):ch Tryz.prog 167 [.agg (ss.map cx).toArray,v] w (fun r _ _=>r=.agg ((aK.comp ss bb).map cx).toArray):=by
 refine cI Tryz.func167 rfl Tryz.ntmps167 (Nat.le_of_ble_eq_true rfl) fun a ab U=>?_
 obtain ⟨a0,fl,a2,a3,a4,a5,jA,jB,rfl⟩:=aK.Nn Zx
 have jw:=aK.l3 bb 64
 have oc:aK.ek.length=64:=rfl
 refine a8 fun dW cR=>aH ab U rfl (iT rfl) ?_
 rintro _ _ _ a w ⟨b6,rfl,rfl,rfl⟩ ab U
 refine aH ab U rfl (c1 gI) ?_
 rintro _ _ _ a w ⟨dk,rfl,rfl,rfl⟩ ab U
 refine wpList_nil (cR _ _ ?_)
 refine a8 fun cm bD=>aE ab U (ai rfl<|ag (bQ VM rfl (fun w U=>afv _ _ hl w (bg.mono (U.le cD) au)) (fun _ _ _ h=>h))<|ah) fun a w ab U=>aH ab U rfl (c1 gJ) ?_
 rintro _ _ _ a w ⟨kz,rfl,rfl,rfl⟩ ab U
 rw [show List.replicate 64 (Value.int .u32 0)=(List.replicate 64 (0:UInt32)).map cx from by rw [List.map_replicate] <;> rfl] at U
 refine aH ab U rfl (cA gJ 0 rfl rfl rfl rfl aI bJ aI) ?_
 rintro _ _ _ a w ⟨rfl,rfl,rfl⟩ ab U
 replace U:=ez U
 refine wpList_nil (bD _ _ ?_)
 refine ax fun dH cf=>?_
 revert U;revert ab;apply ho (J:=jM (α0:=Nat) (α1:=Nat) 116 _ _ _ _ _) #[false,false,false,false,false,false,false,false,false,false] 10 mixed rfl rfl
 ·intro w ab U
  refine aR 0 rfl ab (U.ak ae (ae.n.n)) (qZ gI b4 rfl rfl (by omega)) fun a ab=>aR 1 rfl ab (U.ak ae ay) (Hk gm rfl (by omega)) fun a ab=>aR 2 rfl ab (U.ak ae (ae.n.n)) (yW gm 0 rfl rfl rfl (by simp) rfl) fun a ab=>aR 3 rfl ab (U.ak ae (ae.n.n)) (Cp gI b4 rfl rfl (by omega)) fun a ab=>aR 4 rfl ab (U.ak ae ay) (Hk gm rfl (by omega)) fun a ab=>?_
  refine aR 5 rfl ab (U.ak ae (ae.n.n)) (yW gm 0 rfl rfl rfl (by simp) rfl) fun a ab=>fy [6,7] aA rfl ⟨?_,?_,trivial⟩
  ·refine dQ _ rfl rfl ab U rfl (c1 gm) ?_
   rintro _ _ _ a w ⟨uW,rfl,rfl,rfl⟩ ab U
   refine ⟨⟨.inr (U.ea (ae.n.n.n)),.inr U.ax,.inr (U.ea (ae.n.n.n)),.inr (U.ea (ae.n.n.n)),.inr U.ax,.inr (U.ea (ae.n.n.n)),trivial⟩,?_⟩
   refine bW 7 rfl rfl ab U rfl (c1 gm) ?_
   rintro _ _ _ a w ⟨uX,rfl,rfl,rfl⟩ ab U
   refine ⟨⟨.inr (U.ea (ae.n.n.n.n)),.inr U.ax,.inr (U.ea (ae.n.n.n.n)),.inr (U.ea (ae.n.n.n.n)),.inr U.ax,.inr (U.ea (ae.n.n.n.n)),trivial⟩,?_⟩
   refine bW 8 rfl rfl ab U rfl (cA gm 1 rfl rfl rfl rfl aI bJ aI) ?_
   rintro _ _ _ a w ⟨rfl,rfl,rfl⟩ ab U
   refine ⟨⟨.inr (U.ea (ae.n.n.n.n)),.inr U.ax,.inr (U.ea (ae.n.n.n.n)),al,al,al,trivial⟩,?_⟩
   refine bW 9 rfl rfl ab U rfl (cA gm 0 rfl rfl rfl rfl aI bJ aI) ?_
   rintro _ _ _ a w ⟨rfl,rfl,rfl⟩ ab U
   refine ⟨⟨al,al,al,al,al,al,trivial⟩,?_⟩
   exact ei aA (kY uW uX (trivial) (ab.sub (L':=[(2,_),(4,_),(5,_),(6,_),(7,_)]) ⟨rfl,rfl,rfl,rfl,rfl,trivial⟩) U)
  ·refine dQ _ rfl rfl ab U rfl (c1 gm) ?_
   rintro _ _ _ a w ⟨uX,rfl,rfl,rfl⟩ ab U
   refine ⟨⟨.inr (U.ea (ae.n.n.n)),.inr U.ax,.inr (U.ea (ae.n.n.n)),.inr (U.ea (ae.n.n.n)),.inr U.ax,.inr (U.ea (ae.n.n.n)),trivial⟩,?_⟩
   refine bW 6 rfl rfl ab U rfl (c1 gm) ?_
   rintro _ _ _ a w ⟨uW,rfl,rfl,rfl⟩ ab U
   refine ⟨⟨.inr (U.ea (ae.n.n.n.n)),.inr U.ax,.inr (U.ea (ae.n.n.n.n)),.inr (U.ea (ae.n.n.n.n)),.inr U.ax,.inr (U.ea (ae.n.n.n.n)),trivial⟩,?_⟩
   refine bW 8 rfl rfl ab U rfl (cA gm 0 rfl rfl rfl rfl aI bJ aI) ?_
   rintro _ _ _ a w ⟨rfl,rfl,rfl⟩ ab U
   refine ⟨⟨.inr (U.ea (ae.n.n.n.n)),.inr U.ax,.inr (U.ea (ae.n.n.n.n)),al,al,al,trivial⟩,?_⟩
   refine bW 9 rfl rfl ab U rfl (cA gm 1 rfl rfl rfl rfl aI bJ aI) ?_
   rintro _ _ _ a w ⟨rfl,rfl,rfl⟩ ab U
   refine ⟨⟨al,al,al,al,al,al,trivial⟩,?_⟩
   exact ei aA (kY uW uX (trivial) (ab.sub (L':=[(2,_),(4,_),(5,_),(6,_),(7,_)]) ⟨rfl,rfl,rfl,rfl,rfl,trivial⟩) (U.perm (.swap _ _ _)))
 rintro a w ⟨uW,uX, -,ab,U⟩
 (try dsimp only at ab U)
 refine cf _ _<|ax fun dP cq=>aB ab U (ag (adD gJ rfl fp aI rfl)<|ai rfl<|ah) fun a w ab U=>wp_block ?_
 obtain ⟨bC,aZ,U⟩:=U.cT
 refine df (γ:=Int) (0) (fun (i:Int)=>[(22,az i)]) [(2,_),(4,_),(5,_),(6,_),(7,_),(21,_)] (fun (i:Int)=>((bC.set 1 (.blk uW 263 [cx (aK.rounds (aK.hC bb 64) (a0,fl,a2,a3,a4,a5,jA,jB) i.toNat).1,cx (aK.rounds (aK.hC bb 64) (a0,fl,a2,a3,a4,a5,jA,jB) i.toNat).2.1,cx (aK.rounds (aK.hC bb 64) (a0,fl,a2,a3,a4,a5,jA,jB) i.toNat).2.2.1,cx (aK.rounds (aK.hC bb 64) (a0,fl,a2,a3,a4,a5,jA,jB) i.toNat).2.2.2.1])).set 0 (.blk uX 263 [cx (aK.rounds (aK.hC bb 64) (a0,fl,a2,a3,a4,a5,jA,jB) i.toNat).2.2.2.2.1,cx (aK.rounds (aK.hC bb 64) (a0,fl,a2,a3,a4,a5,jA,jB) i.toNat).2.2.2.2.2.1,cx (aK.rounds (aK.hC bb 64) (a0,fl,a2,a3,a4,a5,jA,jB) i.toNat).2.2.2.2.2.2.1,cx (aK.rounds (aK.hC bb 64) (a0,fl,a2,a3,a4,a5,jA,jB) i.toNat).2.2.2.2.2.2.2]))) (fun (i:Int)=>0≤i∧i≤64) (fun (i:Int)=>(64-i).toNat) (ab.sub ⟨rfl,rfl,rfl,rfl,rfl,rfl,rfl,trivial⟩) (by subst aZ;exact U) (by simp) ?_
 rintro i a w ba ab U
 subst aZ;(try dsimp only at ba ab U)
 obtain ⟨eu,j8⟩:=ba
 replace U:=mC U
 refine aB ab U (ag (cK rfl rfl)<|ah) fun a w ab U=>ax fun eU cO=>b9 ab rfl (fun aS=>?_) (fun aS=>?_)
 ·refine wp_skip<|cO _ _<|ax fun e1 cF=>wp_block ?_
  refine aB ab U (ai rfl<|ag (adv gJ b4 (0:UInt32) rfl rfl (by omega) aI rfl)<|ar rfl<|ar rfl<|ah) fun a w ab U=>hZ mixed aA ab U (ag (fV gm b4 rfl rfl (by omega))<|ag (bc b4 0 rfl rfl rfl rfl)<|ag (fV gm b4 rfl rfl (by omega))<|ag (bc b4 0 rfl rfl rfl rfl)<|ag (bQ K6 rfl (fun w U=>ND _ _ _ _ (by omega) (by omega) (by omega) w ) (fun _ _ _ h=>h))<|ag (hN rfl rfl)<|ag (fV gm b4 rfl rfl (by omega))<|ag (bc b4 0 rfl rfl rfl rfl)<|ag (fV gm b4 rfl rfl (by omega))<|ag (bc b4 0 rfl rfl rfl rfl)<|ag (p0 rfl rfl)<|ag (fV gm b4 rfl rfl (by omega))<|ag (bc b4 0 rfl rfl rfl rfl)<|ag (adT rfl)<|ag (fV gm b4 rfl rfl (by omega))<|ag (bc b4 0 rfl rfl rfl rfl)<|ag (p0 rfl rfl)<|ag (jV rfl rfl)<|ag (hN rfl rfl)<|ai rfl<|ag (hN rfl rfl)<|ai rfl<|ag (hn gJ b4 rfl rfl (by omega))<|ag (jI b4 2 0 rfl rfl aI rfl)<|ag (hN rfl rfl)<|ar rfl<|ah) fun a w ab U=>hZ mixed aA ab U (ag (fV gm b4 rfl rfl (by omega))<|ag (bc b4 1 rfl rfl rfl rfl)<|ag (bQ K6 rfl (fun w U=>ND _ _ _ _ (by omega) (by omega) (by omega) w ) (fun _ _ _ h=>h))<|ag (fV gm b4 rfl rfl (by omega))<|ag (bc b4 1 rfl rfl rfl rfl)<|ag (fV gm b4 rfl rfl (by omega))<|ag (bc b4 1 rfl rfl rfl rfl)<|ag (p0 rfl rfl)<|ag (fV gm b4 rfl rfl (by omega))<|ag (bc b4 1 rfl rfl rfl rfl)<|ag (fV gm b4 rfl rfl (by omega))<|ag (bc b4 1 rfl rfl rfl rfl)<|ag (p0 rfl rfl)<|ag (jV rfl rfl)<|ag (fV gm b4 rfl rfl (by omega))<|ag (bc b4 1 rfl rfl rfl rfl)<|ag (fV gm b4 rfl rfl (by omega))<|ag (bc b4 1 rfl rfl rfl rfl)<|ag (p0 rfl rfl)<|ag (jV rfl rfl)<|ag (hN rfl rfl)<|ar rfl<|ah) fun a w ab U=>a8 fun iE eO=>aE ab U (ag (fV gm b4 rfl rfl (by omega))<|ag (bc b4 1 rfl rfl rfl rfl)<|ai rfl<|ag (hN rfl rfl)<|ag (fV gm b4 rfl rfl (by omega))<|ag (bc b4 0 rfl rfl rfl rfl)<|ag (fV gm b4 rfl rfl (by omega))<|ag (bc b4 0 rfl rfl rfl rfl)<|ag (fV gm b4 rfl rfl (by omega))<|ag (bc b4 0 rfl rfl rfl rfl)<|ag (yQ gm b4 rfl rfl bJ rfl rfl)<|ah) fun a w ab U=>?_
  refine aH ab U rfl (cA gm 0 rfl rfl rfl rfl aI bJ aI) ?_
  rintro _ _ _ a w ⟨rfl,rfl,rfl⟩ ab U
  replace U:=mC U
  refine wpList_nil (eO _ _ ?_)
  refine du<|aE ab U (ai rfl<|ai rfl<|ag (hN rfl rfl)<|ag (fV gm b4 rfl rfl (by omega))<|ag (bc b4 1 rfl rfl rfl rfl)<|ag (fV gm b4 rfl rfl (by omega))<|ag (bc b4 1 rfl rfl rfl rfl)<|ag (fV gm b4 rfl rfl (by omega))<|ag (bc b4 1 rfl rfl rfl rfl)<|ag (yQ gm b4 rfl rfl bJ rfl rfl)<|ah) fun a w ab U=>aH ab U rfl (cA gm 1 rfl rfl rfl rfl aI bJ aI) ?_
  rintro _ _ _ a w ⟨rfl,rfl,rfl⟩ ab U
  replace U:=mC U
  refine wpList_nil (cF _ _ ?_)
  refine bq ab U (bX rfl rfl<|ai rfl<|ah) fun a w ab U=>⟨(i+1),?_,?_,ab.sub ⟨rfl,rfl,rfl,rfl,rfl,rfl,rfl,trivial⟩,?_⟩
  ·(try dsimp only);omega
  ·(try dsimp only);omega
  ·rw [aK.rounds_succ _ _ i eu]
   exact U
 ·obtain rfl:i=64:=by omega
  rw [show (64:Int).toNat=64 from rfl] at U
  generalize fH:aK.rounds (aK.hC bb 64) (a0,fl,a2,a3,a4,a5,jA,jB) 64=R at U
  obtain ⟨hO,b8,cL,eL,eS,wg,y5,y6⟩:=R
  dsimp only at U
  refine wp_exit<|cq _ _<|ax fun iv eD=>aB ab U (ai rfl<|ah) fun a w ab U=>wp_block ?_
  obtain ⟨bC,aZ,U⟩:=U.cT
  refine df (γ:=Int) (0) (fun (i:Int)=>[(94,az i)]) [(2,_),(4,_),(6,_),(7,_)] (fun (i:Int)=>(((bC.set 4 (.blk b6 221 ((aK.CY [a0,fl,a2,a3,a4,a5,jA,jB] [hO,b8,cL,eL,eS,wg,y5,y6] i.toNat).map cx))).set 1 (.blk uW 263 ([hO,b8,cL,eL].map cx))).set 0 (.blk uX 263 ([eS,wg,y5,y6].map cx)))) (fun (i:Int)=>0≤i∧i≤4) (fun (i:Int)=>(4-i).toNat) (ab.sub ⟨rfl,rfl,rfl,rfl,rfl,trivial⟩) (by subst aZ;exact U) (by simp) ?_
  rintro i a w ba ab U
  subst aZ;(try dsimp only at ba ab U)
  obtain ⟨eu,j8⟩:=ba
  replace U:=mC U
  have ZM:=aK.Q6 [a0,fl,a2,a3,a4,a5,jA,jB] [hO,b8,cL,eL,eS,wg,y5,y6] i.toNat
  refine aB ab U (ag (cK rfl rfl)<|ah) fun a w ab U=>ax fun mc hh=>b9 ab rfl (fun bs=>?_) (fun bs=>?_)
  ·refine wp_skip<|hh _ _<|ax fun oE iW=>wp_block ?_
   refine aB ab U (ai rfl<|ar rfl<|ah) fun a w ab U=>ax fun qd kB=>h2 8 mixed aA ab U (ai rfl<|ag (hn gI b4 rfl rfl (by omega))<|ag (jI b4 4 0 rfl rfl aI rfl)<|ai rfl<|ag (hn gm b4 rfl rfl (by omega))<|ag (jI b4 1 0 rfl rfl aI rfl)<|ag (hN rfl rfl)<|ag (hn gI b4 rfl rfl (by omega))<|ah) fun a w ab U=>aH ab U rfl (qu b4 4 rfl rfl rfl aI rfl) ?_
   rintro _ _ _ a w ⟨rfl,rfl,rfl⟩ ab U
   replace U:=mC U
   refine wpList_nil (kB _ _ ?_)
   refine h2 9 mixed aA ab U (ai rfl<|bX rfl rfl<|ag (hn gI b4 rfl rfl (by omega))<|ag (jI b4 4 0 rfl rfl aI rfl)<|ai rfl<|ag (hn gm b4 rfl rfl (by omega))<|ag (jI b4 0 0 rfl rfl aI rfl)<|ag (hN rfl rfl)<|ag (hn gI b4 rfl rfl (by omega))<|ah) fun a w ab U=>aH ab U rfl (qu b4 4 rfl rfl rfl aI rfl) ?_
   rintro _ _ _ a w ⟨rfl,rfl,rfl⟩ ab U
   replace U:=mC U
   refine wpList_nil (iW _ _ ?_)
   refine bq ab U (bX rfl rfl<|ai rfl<|ah) fun a w ab U=>⟨(i+1),?_,?_,ab.sub ⟨rfl,rfl,rfl,rfl,rfl,trivial⟩,?_⟩
   ·(try dsimp only);omega
   ·(try dsimp only);omega
   ·have bH:i=0∨i=1∨i=2∨i=3:=by omega
    rcases bH with rfl | rfl | rfl | rfl <;> exact U
  ·obtain rfl:i=4:=by omega
   have ala:=aK.Q6 [a0,fl,a2,a3,a4,a5,jA,jB] [hO,b8,cL,eL,eS,wg,y5,y6] 4
   have X6:aK.comp [a0,fl,a2,a3,a4,a5,jA,jB] bb=aK.CY [a0,fl,a2,a3,a4,a5,jA,jB] [hO,b8,cL,eL,eS,wg,y5,y6] 4:=by
    show List.zipWith (· + ·) [a0,fl,a2,a3,a4,a5,jA,jB] (aK.BL (aK.rounds (aK.hC bb 64) (a0,fl,a2,a3,a4,a5,jA,jB) 64))=_
    rw [fH]
    rfl
   refine wp_exit<|eD _ _<|a8 fun pr jF=>aE ab U (ag (fW gI 4 rfl rfl aI rfl)<|ah) fun a w ab U=>aH ab U rfl (cA gI 3 rfl rfl rfl rfl aI bJ aI) ?_
   rintro _ _ _ a w ⟨rfl,rfl,rfl⟩ ab U
   replace U:=mC U
   refine wpList_nil (jF _ _ ?_)
   refine wp_ret<|bR (rs:=[.cell 4 221]) rfl ab U (vs:=[_]) ⟨⟨_,_,_,_,_,_,_,rfl,List.mem_of_getElem? (i:=3) rfl,gI,.inl ⟨rfl,aI,rfl⟩⟩,trivial⟩ ay ay (by rw [X6];rfl)
end
section
theorem bz:a1 Tryz.prog 9 .string 1 16 (Value.string ⟨(List.nil:List UInt8).toArray⟩):=⟨Tryz.underlying9,by kernel_rfl⟩
theorem QP:a1 Tryz.prog 125 (.array 64 5) 64 64 (.agg (List.replicate 64 (Value.int .u8 0)).toArray):=⟨Tryz.underlying125,by kernel_rfl⟩
theorem mP:a1 Tryz.prog 179 (.int .u64) 1 8 (Value.int .u64 0):=⟨Tryz.underlying179,by kernel_rfl⟩
theorem gl : a1 Tryz.prog 223 (.struct #[⟨ "state", 221, 0, false, "", "culprit/hash", 0⟩, ⟨ "block", 125, 8, false, "", "culprit/hash", 32⟩, ⟨ "n", 179, 72, false, "", "culprit/hash", 96⟩]) 73 104 (.agg (List.replicate 8 (Value.int .u32 0) ++ List.replicate 64 (Value.int .u8 0) ++ [Value.int .u64 0]).toArray) := ⟨Tryz.underlying223, by kernel_rfl⟩
theorem VH:bU Tryz.prog 167:=bY Tryz.func167
/-- A stream's cells. -/
@[reducible] def q2 (s:aK.j3):List Value:=s.st.map cx++(s.bl.map bf++[gy s.n])
theorem uY(w:World):ch Tryz.prog 142 [] w (fun r _ _=>r=.agg (q2 aK.jq).toArray):=by
 refine cI Tryz.func142 rfl Tryz.ntmps142 (Nat.le_of_ble_eq_true rfl) fun a ab U=>a8 fun dW cR=>aH ab U rfl (c1 gl) ?_
 rintro _ _ _ a w ⟨b6,rfl,rfl,rfl⟩ ab U
 refine wpList_nil (cR _ _ ?_)
 refine a8 fun cm bD=>aE ab U (ag (yQ gI b4 rfl rfl bJ rfl rfl)<|ag (oo rfl (HH gl (places:=[(0,8),(8,64),(72,1)]) aA (cells:=q2 aK.jq) aA))<|ah) fun a w ab U=>aH ab U rfl (cA gl 0 rfl rfl rfl rfl aI bJ aI) ?_
 rintro _ _ _ a w ⟨rfl,rfl,rfl⟩ ab U
 (try dsimp only [hf] at U)
 replace U:=eJ U
 refine wpList_nil (bD _ _ ?_)
 refine wp_ret<|bR (rs:=[.cell 0 223]) rfl ab U (vs:=[_]) ⟨⟨_,_,_,_,_,_,_,rfl,List.mem_of_getElem? (i:=0) rfl,gl,.inl ⟨rfl,aI,rfl⟩⟩,trivial⟩ ay ay (rfl)
theorem oN(s:aK.j3)(t:List UInt8)(dp:s.st.length=8)(e4:s.bl.length=64)(aM:t.length<1099511627776)(w:World){fU:Nat×Nat}{fT:TypeId}(fp:w.heap[1]?=some (.cells (aK.ek.map cx).toArray fT fU)):ch Tryz.prog 143 [.agg (q2 s).toArray,vs t] w (fun r _ _=>r=.agg (q2 (aK.fE s t)).toArray):=by
 refine cI Tryz.func143 rfl Tryz.ntmps143 (Nat.le_of_ble_eq_true rfl) fun a ab U=>a8 fun dW cR=>aH ab U rfl (iT rfl) ?_
 rintro _ _ _ a w ⟨b6,rfl,rfl,rfl⟩ ab U
 refine aH ab U rfl (c1 gl) ?_
 rintro _ _ _ a w ⟨dk,rfl,rfl,rfl⟩ ab U
 refine wpList_nil (cR _ _ ?_)
 refine ax fun cm bD=>wp_block ?_
 obtain ⟨bC,aZ,U⟩:=U.cT
 refine df (γ:=aK.j3×List UInt8) (s,t) (fun (s',bZ)=>[(1,vs bZ)]) [(2,_),(4,_)] (fun (s',bZ)=>(bC.set 1 (.blk b6 223 (s'.st.map cx++(s'.bl.map bf++[gy s'.n]))))) (fun (s',bZ)=>s'.st.length=8∧s'.bl.length=64∧bZ.length<1099511627776∧aK.fE s' bZ=aK.fE s t) (fun (s',bZ)=>bZ.length) (ab.sub ⟨rfl,rfl,rfl,trivial⟩) (by subst aZ;exact U) (by exact ⟨dp,e4,aM,rfl⟩) ?_
 rintro ⟨s',bZ⟩ a w ba ab U
 subst aZ;(try dsimp only at ba ab U)
 obtain ⟨dp,e4,aM,Fs⟩:=ba
 replace U:=eK U
 refine ax fun dH cf=>aB ab U (ai rfl<|ag (qX (q:=[]) rfl rfl)<|ah) fun a w ab U=>eP ab rfl (fun aS=>?_) (fun aS=>?_)
 ·have ak8:0<bZ.length:=by
   cases bZ with
   | nil=>exact absurd rfl aS
   | cons c t=>simp
  refine wp_skip<|cf _ _<|wp_block ?_
  refine ax fun dw b3=>bq ab U (ag (aV gl rfl rfl (s':=0) aA)<|ag (Cl mP 1 [_,_] rfl rfl aI rfl)<|ag (adW (q:=64) rfl rfl (by decide))<|ag (Cf mP bG rfl)<|ar rfl<|ah) fun a w ab U=>?_
  rw [aK.SQ s'.n] at ab
  generalize jR:s'.n.toNat%64=q at ab
  have cn:q<64:=by omega
  refine b3 _ _<|a8 fun et cz=>aE ab U (ag (aV gl rfl rfl (s':=63) aA)<|ai rfl<|ag (Cp QP bF rfl rfl (by omega))<|ai rfl<|ah) fun a w ab U=>aH ab U rfl (UB bS bF 1 [_] rfl rfl rfl aI aI) ?_
  rintro _ _ _ a w ⟨rfl,rfl,rfl⟩ ab U
  (try dsimp only [hf] at U)
  replace U:=eK U
  refine aE ab U (ar rfl<|ah) fun a w ab U=>wpList_nil ?_
  simp only [Int.toNat_natCast] at U ab
  obtain ⟨k,aD⟩:∃ k,k=min bZ.length (64-q):=⟨_,rfl⟩
  rw [← aD] at U
  rw [show min (bZ.length:Int) ((64-q:Nat):Int)=(k:Int) by omega] at ab
  have cZ:(List.take q s'.bl++(List.take k bZ++List.drop (q+k) s'.bl)).length=64:=by simp;omega
  generalize gq:List.take q s'.bl++(List.take k bZ++List.drop (q+k) s'.bl)=B at U cZ
  refine cz _ _<|ax fun eU cO=>bq ab U (ai rfl<|ai rfl<|ag (Co bz rfl rfl (by omega))<|ar rfl<|ah) fun a w ab U=>?_
  simp only [Int.toNat_natCast] at ab
  refine cO _ _<|a8 fun e1 cF=>aE ab U (ag (aV gl rfl rfl (s':=0) aA)<|ag (Cl mP 1 [_,_] rfl rfl aI rfl)<|ai rfl<|ag (yU bG mP rfl)<|ag (adi rfl rfl)<|ag (aV gl rfl rfl (s':=0) aA)<|ah) fun a w ab U=>aH ab U rfl (UJ mP 1 [_,_] rfl rfl rfl aI rfl) ?_
  rintro _ _ _ a w ⟨rfl,rfl,rfl⟩ ab U
  (try dsimp only [hf] at U)
  replace U:=eK U
  refine wpList_nil (cF _ _ ?_)
  refine aB ab U (ai rfl<|ai rfl<|bX rfl rfl<|ag (fc rfl rfl)<|ah) fun a w ab U=>b9 ab rfl (fun bs=>?_) (fun bs=>?_)
  ·have fb:=aK.AB s'.st B dp
   refine h2 6 mixed aA ab U (ag (aV gl rfl rfl (s':=7) aA)<|ag (adG gI 1 [] rfl rfl aI aI rfl)<|ag (aV gl rfl rfl (s':=63) aA)<|ag (qY QP bF rfl)<|ag (bQ VH rfl (fun w U=>TS _ _ _ (by first | assumption | rfl | (simp;done) | (simp;omega)) (by first | assumption | omega | (simp;omega)) w (Tc U 1 [_] rfl aI (by omega) (by simp)) (U.ext _ _ fp)) (fun _ _ _ h=>h))<|ag (aV gl rfl rfl (s':=7) aA)<|ah) fun a w ab U=>aH ab U rfl (UI gI 1 [] rfl rfl rfl aI aI aI (fun _=>rfl)) ?_
   rintro _ _ _ a w ⟨rfl,rfl,rfl⟩ ab U
   (try dsimp only [hf] at U)
   replace U:=eK U
   refine wpList_nil<|⟨(⟨aK.comp s'.st B,B,s'.n+di (k:Int)⟩,bZ.drop k),?_,?_,ab.sub ⟨rfl,rfl,rfl,trivial⟩,?_⟩
   ·dsimp only;rw [List.length_drop];omega
   ·exact ⟨aK.AB _ _ dp,cZ,by rw [List.length_drop];omega,by rw [← Fs,aK.Jx s' bZ q k jR e4 (by omega) (by omega),if_pos (by omega),gq]⟩
   ·exact U
  ·refine wp_skip<|⟨(⟨s'.st,B,s'.n+di (k:Int)⟩,bZ.drop k),?_,?_,ab.sub ⟨rfl,rfl,rfl,trivial⟩,?_⟩
   ·dsimp only;rw [List.length_drop];omega
   ·exact ⟨dp,cZ,by rw [List.length_drop];omega,by rw [← Fs,aK.Jx s' bZ q k jR e4 (by omega) (by omega),if_neg (by omega),gq]⟩
   ·exact U
 ·obtain rfl:=aS
  refine wp_exit<|bD _ _<|a8 fun hE dS=>aE ab U (ag (fW gl 1 rfl rfl aI rfl)<|ah) fun a w ab U=>aH ab U rfl (cA gl 0 rfl rfl rfl rfl aI bJ aI) ?_
  rintro _ _ _ a w ⟨rfl,rfl,rfl⟩ ab U
  (try dsimp only [hf] at U)
  replace U:=eK U
  refine wpList_nil (dS _ _ ?_)
  refine wp_ret<|bR (rs:=[.cell 4 223]) rfl ab U (vs:=[_]) ⟨⟨_,_,_,_,_,_,_,rfl,List.mem_of_getElem? (i:=0) rfl,gl,.inl ⟨rfl,aI,rfl⟩⟩,trivial⟩ ay ay (by rw [← Fs];rfl)
end
section
theorem hP:a1 Tryz.prog 182 (.array 32 5) 32 32 (.agg (List.replicate 32 (Value.int .u8 0)).toArray):=⟨Tryz.underlying182,by kernel_rfl⟩
theorem oT:bU Tryz.prog 143:=bY Tryz.func143
theorem Qy(s:aK.j3)(dp:s.st.length=8)(e4:s.bl.length=64)(bA:s.n.toNat<2199023255552)(w:World){fU:Nat×Nat}{fT:TypeId}(fp:w.heap[1]?=some (.cells (aK.ek.map cx).toArray fT fU)):ch Tryz.prog 144 [.agg (q2 s).toArray] w (fun r _ _=>r=.agg ((aK.fin s).map bf).toArray):=by
 refine cI Tryz.func144 rfl Tryz.ntmps144 (Nat.le_of_ble_eq_true rfl) fun a ab U=>?_
 have ak0:nO s.n=(s.n.toNat:Int):=by unfold nO;rw [if_pos (by omega)]
 have bj:=aK.Dk s.n.toNat
 have X2:=aK.Am (8*s.n)
 refine a8 fun dW cR=>aH ab U rfl (iT rfl) ?_
 rintro _ _ _ a w ⟨b6,rfl,rfl,rfl⟩ ab U
 refine aH ab U rfl (c1 hP) ?_
 rintro _ _ _ a w ⟨dk,rfl,rfl,rfl⟩ ab U
 rw [show List.replicate 32 (Value.int .u8 0)=(List.replicate 32 (0:UInt8)).map bf from by rw [List.map_replicate] <;> rfl] at U
 refine wpList_nil (cR _ _ ?_)
 refine aB ab U (ag (aV gl rfl rfl (s':=0) aA)<|ag (Cl mP 1 [_,_] rfl rfl aI rfl)<|ag (OV (p:=8) rfl rfl)<|ar rfl<|ah) fun a w ab U=>a8 fun dH cf=>aH ab U rfl (dX bS bF rfl rfl bJ (by decide) rfl rfl) ?_
 rintro v3 _ _ a w ⟨rfl,rfl⟩ ab U
 replace U:=ez U
 refine aE ab U (ar rfl<|ah) fun a w ab U=>wpList_nil (cf _ _ ?_)
 refine ax fun dP cq=>wp_block ?_
 obtain ⟨bC,aZ,U⟩:=U.cT
 refine df (γ:=Value×Nat) (v3,0) (fun (v,j)=>[(4,v)]) [(1,_),(2,_),(3,_)] (fun (v,j)=>(bC.set 0 (.row v 5 1 (1+j) ((128::List.replicate j (0:UInt8)).map bf)))) (fun (v,j)=>j≤aK.gW s.n.toNat) (fun (v,j)=>aK.gW s.n.toNat-j) (ab.sub ⟨rfl,rfl,rfl,rfl,trivial⟩) (by subst aZ;exact U) (by exact Nat.zero_le _) ?_
 rintro ⟨v,j⟩ a w ba ab U
 subst aZ;(try dsimp only at ba ab U)
 have a6:=ba
 replace U:=ez U
 refine ax fun dw b3=>aB ab U (ag (aV gl rfl rfl (s':=0) aA)<|ag (Cl mP 2 [_,_] rfl rfl aI rfl)<|ag (Cf mP bG rfl)<|ai rfl<|ag (hX bS 0 rfl rfl)<|bX rfl rfl<|ag (mI rfl rfl (by omega))<|ag (dM rfl rfl)<|ah) fun a w ab U=>eP ab rfl (fun aS=>?_) (fun aS=>?_)
 ·have tJ:j<aK.gW s.n.toNat:=by
   have:=aK.II s.n.toNat
   rcases Nat.lt_or_ge j (aK.gW s.n.toNat) with h | h
   ·exact h
   ·obtain rfl:j=aK.gW s.n.toNat:=by omega
    omega
  refine wp_skip<|b3 _ _<|wp_block ?_
  refine du<|aE ab U (ai rfl<|ah) fun a w ab U=>aH ab U rfl (dX bS bF rfl rfl bJ (by decide) rfl rfl) ?_
  rintro v5 _ _ a w ⟨rfl,rfl⟩ ab U
  replace U:=iK U
  refine aH ab U rfl (dB bS bF 1 rfl rfl rfl (eA bS (k:=0) rfl bJ) aI rfl (by decide)) ?_
  rintro mR _ _ a w ⟨rfl,rfl⟩ ab U
  replace U:=iK U
  refine aE ab U (ar rfl<|ah) fun a w ab U=>wpList_nil ?_
  replace U:=U.ak ay (ae.n)
  refine ⟨(mR,j+1),?_,?_,ab.sub ⟨rfl,rfl,rfl,rfl,trivial⟩,?_⟩
  ·(try dsimp only);omega
  ·(try dsimp only);omega
  ·have e:(128::List.replicate j (0:UInt8)).map bf++[Value.int .u8 0]=(128::List.replicate (j+1) (0:UInt8)).map bf:=by rw [List.replicate_succ'];simp
   rw [e] at U
   exact U
 ·have FV:=aK.R2 s.n.toNat j a6 (by omega)
  subst FV
  refine wp_exit<|cq _ _<|ax fun eU cO=>aB ab U (ai rfl<|ah) fun a w ab U=>wp_block ?_
  obtain ⟨bC,aZ,U⟩:=U.cT
  refine df (γ:=Value×Int) (v,0) (fun (v,i)=>[(4,v),(23,az i)]) [(1,_),(2,_),(3,_)] (fun (v,i)=>(bC.set 0 (.row v 5 1 (1+aK.gW s.n.toNat+i.toNat) ((128::(List.replicate (aK.gW s.n.toNat) (0:UInt8)++(aK.mW (8*s.n)).take i.toNat)).map bf)))) (fun (v,i)=>0≤i∧i≤8) (fun (v,i)=>(8-i).toNat) (ab.sub ⟨rfl,rfl,rfl,rfl,rfl,trivial⟩) (by subst aZ;simpa using U) (by simp) ?_
  rintro ⟨v,i⟩ a w ba ab U
  subst aZ;(try dsimp only at ba ab U)
  obtain ⟨eu,j8⟩:=ba
  replace U:=ez U
  refine aB ab U (ag (cK rfl rfl)<|ah) fun a w ab U=>ax fun hE dS=>b9 ab rfl (fun bs=>?_) (fun bs=>?_)
  ·refine wp_skip<|dS _ _<|ax fun gQ dz=>wp_block ?_
   refine aB ab U (ai rfl<|ar rfl<|ah) fun a w ab U=>du ?_
   refine aE ab U (ai rfl<|ai rfl<|ai rfl<|ag (hd rfl rfl (by omega))<|e2 rfl rfl<|ag (wa rfl rfl (by omega))<|ag (Hc mP bF rfl)<|ah) fun a w ab U=>aH ab U rfl (dX bS bF rfl rfl bJ (by decide) rfl rfl) ?_
   rintro sz _ _ a w ⟨rfl,rfl⟩ ab U
   replace U:=iK U
   refine aH ab U rfl (dB bS bF 1 rfl rfl rfl (eA bS (k:=0) rfl bJ) aI rfl (by decide)) ?_
   rintro v10 _ _ a w ⟨rfl,rfl⟩ ab U
   replace U:=iK U
   refine aE ab U (ar rfl<|ah) fun a w ab U=>wpList_nil (dz _ _ ?_)
   refine bq ab U (bX rfl rfl<|ai rfl<|ah) fun a w ab U=>?_
   replace U:=U.ak ay (ae.n)
   refine ⟨(v10,i+1),?_,?_,ab.sub ⟨rfl,rfl,rfl,rfl,rfl,trivial⟩,?_⟩
   ·(try dsimp only);omega
   ·(try dsimp only);omega
   ·rw [aK.JR (8*s.n) i ⟨eu,by omega⟩] at U
    have e:(128::(List.replicate (aK.gW s.n.toNat) (0:UInt8)++(aK.mW (8*s.n)).take i.toNat)).map bf++[bf (UInt8.ofNat ((8*s.n).toNat/2^(56-8*i.toNat)))]=(128::(List.replicate (aK.gW s.n.toNat) (0:UInt8)++(aK.mW (8*s.n)).take (i+1).toNat)).map bf:=by rw [show (i+1).toNat=i.toNat+1 by omega,aK.JJ _ _ (by omega)];simp
    rw [e,show 1+aK.gW s.n.toNat+i.toNat+1=1+aK.gW s.n.toNat+(i+1).toNat by omega] at U
    exact U
  ·obtain rfl:i=8:=by omega
   rw [show (8:Int).toNat=8 from rfl,List.take_of_length_le (by omega)] at U
   have hK:=aK.acL s.n
   have m3:=aK.sY s dp e4 (aK.pad s.n)
   change aC _ [] [.row _ 5 1 _ ((aK.pad s.n).map bf),_,_] _ at U
   refine wp_exit<|cO _ _<|a8 fun iv eD=>aE ab U (ag (fW gl 2 rfl rfl aI rfl)<|ai rfl<|ag (mF bS bz bF 0 rfl rfl)<|ag (bQ oT rfl (fun w U=>oN _ _ (by first | assumption | rfl | (simp only [*];done)) (by first | assumption | rfl | (simp only [*];done)) (by first | assumption | omega | (simp;done) | (simp;omega) | (simp only [*];omega)) w (U.ext _ _ fp)) (fun _ _ _ h=>h))<|ah) fun a w ab U=>aH ab U rfl (cA gl 2 rfl rfl rfl rfl aI bJ aI) ?_
   rintro _ _ _ a w ⟨rfl,rfl,rfl⟩ ab U
   (try dsimp only [hf] at U)
   replace U:=ez U
   refine wpList_nil (eD _ _ ?_)
   refine a8 fun kM gr=>aH ab U rfl (c1 hP) ?_
   rintro _ _ _ a w ⟨SS,rfl,rfl,rfl⟩ ab U
   rw [show List.replicate 32 (Value.int .u8 0)=(List.replicate 32 (0:UInt8)).map bf from by rw [List.map_replicate] <;> rfl] at U
   refine wpList_nil (gr _ _ ?_)
   refine ax fun jN fa=>aB ab U (ai rfl<|ah) fun a w ab U=>wp_block ?_
   obtain ⟨bC,aZ,U⟩:=U.cT
   refine df (γ:=Int) (0) (fun (i:Int)=>[(40,az i)]) [(1,_),(2,_),(6,_)] (fun (i:Int)=>(bC.set 0 (.blk SS 182 ((aK.o8 (aK.fE s (aK.pad s.n)).st i.toNat).map bf)))) (fun (i:Int)=>0≤i∧i≤32) (fun (i:Int)=>(32-i).toNat) (ab.sub ⟨rfl,rfl,rfl,rfl,trivial⟩) (by subst aZ;exact U) (by simp) ?_
   rintro i a w ba ab U
   subst aZ;(try dsimp only at ba ab U)
   obtain ⟨eu,j8⟩:=ba
   replace U:=iK U
   have Br:=aK.Of (aK.fE s (aK.pad s.n)).st i.toNat
   refine aB ab U (ag (cK rfl rfl)<|ah) fun a w ab U=>ax fun oF iX=>b9 ab rfl (fun b7=>?_) (fun b7=>?_)
   ·refine wp_skip<|iX _ _<|ax fun qd kB=>wp_block ?_
    refine aB ab U (ai rfl<|ar rfl<|ah) fun a w ab U=>du ?_
    refine aE ab U (ai rfl<|ai rfl<|ag (nL rfl rfl (by omega))<|ag (aV gl rfl rfl (s':=7) aA)<|ag (fV gI b4 rfl rfl (by omega))<|ag (adH b4 3 [] (0:UInt32) rfl rfl aI aI rfl)<|ai rfl<|ag (mI rfl rfl (by omega))<|ag (hd rfl rfl (by omega))<|e2 rfl rfl<|ag (sm rfl rfl (by omega))<|ag (OJ b4 bF rfl)<|ag (hn hP bF rfl rfl (by omega))<|ah) fun a w ab U=>aH ab U rfl (qu bF 0 rfl rfl rfl aI rfl) ?_
    rintro _ _ _ a w ⟨rfl,rfl,rfl⟩ ab U
    replace U:=iK U
    refine wpList_nil (kB _ _ ?_)
    refine bq ab U (bX rfl rfl<|ai rfl<|ah) fun a w ab U=>⟨(i+1),?_,?_,ab.sub ⟨rfl,rfl,rfl,rfl,trivial⟩,?_⟩
    ·(try dsimp only);omega
    ·(try dsimp only);omega
    ·rw [aK.JS _ i ⟨eu,by omega⟩,aK.Og _ _ (by omega),show i.toNat+1=(i+1).toNat by omega] at U
     exact U
   ·obtain rfl:i=32:=by omega
    rw [show (32:Int).toNat=32 from rfl,aK.Oe] at U
    have yg:=aK.Od (aK.fE s (aK.pad s.n)).st
    refine wp_exit<|fa _ _<|a8 fun sK lS=>aE ab U (ag (fW hP 0 rfl rfl aI rfl)<|ah) fun a w ab U=>aH ab U rfl (cA hP 2 rfl rfl rfl rfl aI bJ aI) ?_
    rintro _ _ _ a w ⟨rfl,rfl,rfl⟩ ab U
    replace U:=iK U
    refine wpList_nil (lS _ _ ?_)
    refine wp_ret<|bR (rs:=[.cell 2 182]) rfl ab U (vs:=[_]) ⟨⟨_,_,_,_,_,_,_,rfl,List.mem_of_getElem? (i:=2) rfl,hP,.inl ⟨rfl,aI,rfl⟩⟩,trivial⟩ ay ay (rfl)
end
section
theorem vc:bU Tryz.prog 142:=bY Tryz.func142
theorem K2:bU Tryz.prog 144:=bY Tryz.func144
theorem QC(v:Value)(xs:List UInt8)(aL:xs.length<1099511627776)(w:World)(au:bg gE (b1 w) v xs){fU:Nat×Nat}{fT:TypeId}(fp:w.heap[1]?=some (.cells (aK.ek.map cx).toArray fT fU)):ch Tryz.prog 101 [v] w (fun r _ _=>r=.agg ((aK.sum xs).map bf).toArray):=by
 refine cI Tryz.func101 rfl Tryz.ntmps101 (Nat.le_of_ble_eq_true rfl) fun a ab U=>?_
 have m3:=aK.sY aK.jq aK.Ao aK.An xs
 have vq:=aK.DL aK.jq xs (by rw [aK.xt];omega)
 rw [aK.xt] at vq
 have jw:=aK.ow xs
 have eG:=aK.AI (aK.fE aK.jq xs)
 refine a8 fun dW cR=>aH ab U rfl (c1 hP) ?_
 rintro _ _ _ a w ⟨b6,rfl,rfl,rfl⟩ ab U
 rw [show List.replicate 32 (Value.int .u8 0)=(List.replicate 32 (0:UInt8)).map bf from by rw [List.map_replicate] <;> rfl] at U
 refine wpList_nil (cR _ _ ?_)
 refine ax fun cm bD=>h2 5 mixed aA ab U (ag (bQ vc rfl (fun w U=>uY w ) (fun _ _ _ h=>h))<|ai rfl<|ag (sa bS bz bF au cD rfl)<|ag (bQ oT rfl (fun w U=>oN _ _ (by first | assumption | rfl | (simp only [*];done)) (by first | assumption | rfl | (simp only [*];done)) (by first | assumption | omega | (simp;done) | (simp;omega) | (simp only [*];omega)) w (U.ext _ _ fp)) (fun _ _ _ h=>h))<|ag (bQ K2 rfl (fun w U=>Qy _ (by first | assumption | (simp [*];done)) (by first | assumption | (simp [*];done)) (by first | assumption | omega) w (U.ext _ _ fp)) (fun _ _ _ h=>h))<|ah) fun a w ab U=>aH ab U rfl (cA hP 0 rfl rfl rfl rfl aI bJ aI) ?_
 rintro _ _ _ a w ⟨rfl,rfl,rfl⟩ ab U
 replace U:=eJ U
 refine wpList_nil (bD _ _ ?_)
 refine wp_ret<|bR (rs:=[.cell 2 182]) rfl ab U (vs:=[_]) ⟨⟨_,_,_,_,_,_,_,rfl,List.mem_of_getElem? (i:=0) rfl,hP,.inl ⟨rfl,aI,rfl⟩⟩,trivial⟩ ay ay (rfl)
end
section
attribute [local irreducible] aK.fE aK.fin aK.sum aK.yM aK.comp aK.pU aK.keyOf aK.hC aK.rounds aK.r6
end
section
theorem AS:bU Tryz.prog 57:=bY Tryz.func57
theorem C7(n:Int)(w:World):ch Tryz.prog 57 [az n] w (fun v zs hs=>zs=[]∧hs=[.row v 5 1 (aF.int n).length ((aF.int n).map bf)]):=by
 refine cI Tryz.func57 rfl Tryz.ntmps57 (Nat.le_of_ble_eq_true rfl) fun a ab U=>aB ab U (ar rfl<|ah) fun a w ab U=>wp_scope_straight ?_
 refine aB ab U (ai rfl<|ag (yU bG mP rfl)<|ar rfl<|ar rfl<|ah) fun a w ab U=>?_
 obtain ⟨bC,aZ,U⟩:=U.cT
 refine lK (γ:=UInt64×UInt8) (fun (m,b0)=>[(3,gy m),(4,bf b0)]) [] (fun (m,b0)=>bC) (fun (m,b0)=>m=aF.dT n∧b0=aF.fZ n) (ab.sub trivial) U ?_ ?_
 ·subst aZ
  refine aB ab U (ai rfl<|ag (cK rfl rfl)<|ah) fun a w ab U=>b9 ab rfl (fun aS=>?_) (fun aS=>?_)
  ·refine bq ab U (ai rfl<|ag (OY rfl)<|ar rfl<|ar rfl<|ah) fun a w ab U=>⟨(~~~(di n),255),?_,ab.sub ⟨rfl,rfl,trivial⟩,?_⟩
   ·exact ⟨by unfold aF.dT;rw [if_pos aS],by unfold aF.fZ;rw [if_pos aS]⟩
   ·exact U
  ·refine wp_skip<|⟨(di n,0),?_,ab.sub ⟨rfl,rfl,trivial⟩,?_⟩
   ·exact ⟨by unfold aF.dT;rw [if_neg aS],by unfold aF.fZ;rw [if_neg aS]⟩
   ·exact U
 rintro ⟨m,b0⟩ a w ba ab U
 subst aZ;(try dsimp only at ba ab U)
 obtain ⟨hm,eG⟩:=ba
 replace U:=hM U
 refine aB ab U (ar rfl<|ah) fun a w ab U=>ax fun dw b3=>wp_label ?_
 refine b3 _ _ ?_
 obtain ⟨bC,aZ,U⟩:=U.cT
 refine lK (γ:=Nat) (fun (k:Nat)=>[(5,az (k:Int))]) [(3,_),(4,_)] (fun (k:Nat)=>bC) (fun (k:Nat)=>k≤8∧k=aF.eb m) (ab.sub ⟨rfl,rfl,trivial⟩) U ?_ ?_
 ·subst aZ
  refine wp_block ?_
  obtain ⟨bC,aZ,U⟩:=U.cT
  refine df (γ:=Nat) (8) (fun (k:Nat)=>[(5,az (k:Int))]) [(3,_),(4,_)] (fun (k:Nat)=>bC) (fun (k:Nat)=>k≤8∧aF.m7 m k=aF.eb m) (fun (k:Nat)=>k) (ab.sub ⟨rfl,rfl,rfl,trivial⟩) (by subst aZ;exact U) (by exact ⟨Nat.le_refl _,rfl⟩) ?_
  rintro k a w ba ab U
  subst aZ;(try dsimp only at ba ab U)
  obtain ⟨FW,nE⟩:=ba
  replace U:=hM U
  refine ax fun et cz=>aB ab U (ai rfl<|ag (eQ rfl rfl)<|ah) fun a w ab U=>b9 ab rfl (fun bs=>?_) (fun bs=>?_)
  ·obtain ⟨k,rfl⟩:∃ j,k=j+1:=⟨k-1,by omega⟩
   refine wp_skip<|cz _ _<|wp_block ?_
   refine ax fun e1 cF=>aB ab U (ai rfl<|ai rfl<|e2 rfl rfl<|ag (hd rfl rfl (by omega))<|ag (wa rfl rfl (by omega))<|ag (ON (q:=0) rfl rfl)<|ah) fun a w ab U=>b9 ab rfl (fun b7=>?_) (fun b7=>?_)
   ·rw [show ((k+1:Nat):Int)-1=(k:Int) by omega,aF.QL m k (by omega)] at b7
    refine wp_exit<|⟨(k+1),?_,ab.sub ⟨rfl,rfl,rfl,trivial⟩,?_⟩
    ·refine ⟨FW,?_⟩
     rw [← nE]
     unfold aF.m7
     rw [if_neg b7]
    ·exact U
   ·rw [show ((k+1:Nat):Int)-1=(k:Int) by omega,aF.QL m k (by omega)] at b7
    refine wp_skip<|cF _ _<|bq ab U (ai rfl<|e2 rfl rfl<|ar rfl<|ah) fun a w ab U=>?_
    rw [show ((k+1:Nat):Int)-1=(k:Int) by omega] at ab
    refine ⟨(k),?_,?_,ab.sub ⟨rfl,rfl,rfl,trivial⟩,?_⟩
    ·(try dsimp only);omega
    ·refine ⟨by omega,?_⟩
     rw [← nE]
     conv=>rhs;unfold aF.m7
     rw [if_pos (Classical.not_not.1 b7)]
    ·exact U
  ·refine wp_exit<|⟨(k),?_,ab.sub ⟨rfl,rfl,rfl,trivial⟩,?_⟩
   ·refine ⟨FW,?_⟩
    obtain rfl:k=0:=by omega
    exact nE
   ·exact U
 rintro k a w ba ab U
 subst aZ;(try dsimp only at ba ab U)
 obtain ⟨FW,Bn⟩:=ba
 replace U:=hM U
 refine a8 fun hE dS=>aE ab U (ai rfl<|bX rfl rfl<|ag (qW bG bF rfl)<|ai rfl<|ag (uk rfl rfl)<|ah) fun a w ab U=>aH ab U rfl (dX bS bF rfl rfl bJ (by decide) rfl rfl) ?_
 rintro v1 _ _ a w ⟨rfl,rfl⟩ ab U
 replace U:=eJ U
 refine aE ab U (ar rfl<|ah) fun a w ab U=>wpList_nil (dS _ _ ?_)
 refine ax fun gQ dz=>aB ab U (ai rfl<|e2 rfl rfl<|ar rfl<|ah) fun a w ab U=>wp_block ?_
 obtain ⟨bC,aZ,U⟩:=U.cT
 refine df (γ:=Value×Nat) (v1,k) (fun (v,i)=>[(6,v),(7,az ((i:Int)-1))]) [(3,_),(4,_)] (fun (v,i)=>(bC.set 0 (.row v 5 1 (1+(k-i)) (((UInt8.ofNat (128+k) ^^^ b0)::aF.ha m b0 k i).map bf)))) (fun (v,i)=>i≤k) (fun (v,i)=>i) (ab.sub ⟨rfl,rfl,rfl,rfl,trivial⟩) (by subst aZ;rw [show (128:Int)+(k:Int)=((128+k:Nat):Int) by omega,aF.B7] at U;simpa [aF.ha] using U) (by exact Nat.le_refl _) ?_
 rintro ⟨v,i⟩ a w ba ab U
 subst aZ;(try dsimp only at ba ab U)
 have rQ:=ba
 replace U:=eJ U
 refine ax fun iv eD=>aB ab U (ai rfl<|ag (jH rfl rfl)<|ah) fun a w ab U=>b9 ab rfl (fun dr=>?_) (fun dr=>?_)
 ·refine wp_skip<|eD _ _<|ax fun jN fa=>wp_block ?_
  refine du<|aE ab U (ai rfl<|ai rfl<|ai rfl<|ag (hd rfl rfl (by omega))<|ag (wa rfl rfl (by omega))<|ag (Hc mP bF rfl)<|ai rfl<|ag (uk rfl rfl)<|ah) fun a w ab U=>aH ab U rfl (dX bS bF rfl rfl bJ (by decide) rfl rfl) ?_
  rintro v3 _ _ a w ⟨rfl,rfl⟩ ab U
  replace U:=eK U
  refine aH ab U rfl (dB bS bF 1 rfl rfl rfl (eA bS (k:=0) rfl bJ) aI rfl (by decide)) ?_
  rintro v5 _ _ a w ⟨rfl,rfl⟩ ab U
  replace U:=eK U
  refine aE ab U (ar rfl<|ah) fun a w ab U=>wpList_nil (fa _ _ ?_)
  refine bq ab U (ai rfl<|e2 rfl rfl<|ar rfl<|ah) fun a w ab U=>?_
  rw [show (i:Int)-1-1=((i-1:Nat):Int)-1 by omega] at ab
  replace U:=U.ak ay (ae.n)
  refine ⟨(v5,i-1),?_,?_,ab.sub ⟨rfl,rfl,rfl,rfl,trivial⟩,?_⟩
  ·(try dsimp only);omega
  ·(try dsimp only);omega
  ·rw [aF.Uc m b0 ((i:Int)-1) (by omega),show ((i:Int)-1).toNat=i-1 by omega] at U
   have e:((UInt8.ofNat (128+k) ^^^ b0)::aF.ha m b0 k i).map bf++[bf (aF.digit m b0 (i-1))]=((UInt8.ofNat (128+k) ^^^ b0)::aF.ha m b0 k (i-1)).map bf:=by rw [← aF.J5 m b0 k (i-1) (by omega),show i-1+1=i by omega];simp
   rw [e,show 1+(k-i)+1=1+(k-(i-1)) by omega] at U
   exact U
 ·obtain rfl:i=0:=by omega
  have e:(UInt8.ofNat (128+k) ^^^ b0)::aF.ha m b0 k 0=aF.int n:=by rw [hm,eG,Bn,hm];rfl
  have el:1+(k-0)=(aF.int n).length:=by rw [← e];simp [aF.xC];omega
  rw [e,el] at U
  refine wp_exit<|dz _ _<|aB ab U (ai rfl<|ar rfl<|ah) fun a w ab U=>wp_ret ?_
  exact bR (rs:=[.tmp 2]) rfl ab U (vs:=[_]) ⟨rfl,trivial⟩ ay ae ⟨rfl,rfl⟩
theorem Iw(t:List UInt8)(aM:t.length<1099511627776)(w:World):ch Tryz.prog 58 [vs t] w (fun v zs hs=>zs=[]∧hs=[.row v 5 1 (aF.bytes t).length ((aF.bytes t).map bf)]):=by
 refine cI Tryz.func58 rfl Tryz.ntmps58 (Nat.le_of_ble_eq_true rfl) fun a ab U=>?_
 have oa:=aF.od t.length
 refine aB ab U (ar rfl<|ah) fun a w ab U=>a8 fun cm bD=>aE ab U (ai rfl<|ag (hB bz rfl)<|ah) fun a w ab U=>aH ab U rfl (eB AS rfl (fun w U=>C7 _ w )) ?_
 rintro v1 _ _ a w ⟨_,_,rfl,rfl,rfl,rfl⟩ ab U
 replace U:=eJ U
 refine aE ab U (ai rfl<|ah) fun a w ab U=>aH ab U rfl (dB bS bF 0 rfl rfl rfl (af4 bz _) aI rfl (by decide)) ?_
 rintro v3 _ _ a w ⟨rfl,rfl⟩ ab U
 replace U:=eJ U
 refine aE ab U (ar rfl<|ah) fun a w ab U=>wpList_nil (bD _ _ ?_)
 refine wp_ret ?_
 rw [← List.map_append,show (aF.int t.length).length+t.length=(aF.bytes t).length by simp [aF.bytes]] at U
 exact bR (rs:=[.tmp 2]) rfl ab U (vs:=[_]) ⟨rfl,trivial⟩ ay ae ⟨rfl,rfl⟩
end
section
theorem cl:a1 Tryz.prog 40 (.slice 9) 1 24 (Value.slice none 0 0):=⟨Tryz.underlying40,by kernel_rfl⟩
theorem cW:a1 Tryz.prog 62 (.array 16 5) 16 16 (.agg (List.replicate 16 (Value.int .u8 0)).toArray):=⟨Tryz.underlying62,by kernel_rfl⟩
theorem EE:bU Tryz.prog 58:=bY Tryz.func58
@[simp] theorem af9 (s:aK.j3):(q2 s).length=s.st.length+(s.bl.length+1):=by simp [q2]
attribute [local irreducible] aK.fE aK.fin aK.sum aK.comp aK.hC aK.rounds aK.r6 aK.lZ aK.iL aF.int aF.bytes
theorem B6(tag:Int)(v:Value)(ps:List (List UInt8))(bN:∀ p∈ps,p.length<1048576)(hl:ps.length<1048576)(w:World)(au:bg Go.aJ.encS (b1 w) v ps){fU:Nat×Nat}{fT:TypeId}(fp:w.heap[1]?=some (.cells (aK.ek.map cx).toArray fT fU)):ch Tryz.prog 115 [az tag,v] w (fun r _ _=>r=.agg ((aK.iL tag ps).map bf).toArray):=by
 refine cI Tryz.func115 rfl Tryz.ntmps115 (Nat.le_of_ble_eq_true rfl) fun a ab U=>?_
 have j6:=aK.sY aK.jq aK.Ao aK.An [hb tag]
 obtain ⟨ajn,ajo⟩:=j6
 refine a8 fun dW cR=>aH ab U rfl (c1 cW) ?_
 rintro _ _ _ a w ⟨b6,rfl,rfl,rfl⟩ ab U
 rw [show List.replicate 16 (Value.int .u8 0)=(List.replicate 16 (0:UInt8)).map bf from by rw [List.map_replicate] <;> rfl] at U
 refine wpList_nil (cR _ _ ?_)
 refine ax fun cm bD=>?_
 revert U;revert ab;apply ho (J:=jM (α0:=Value) (α1:=Nat) 32 _ _ _ _ _) #[false,false,false,false,false,false,false,false] 8 mixed rfl rfl
 ·intro w ab U
  refine aR 1 rfl ab (U.ak ae ay) (bE rfl) fun a ab=>aR 2 rfl ab (U.ak ae ay) (qW bG bF rfl) fun a ab=>fy [0,3,6] aA rfl ⟨?_,?_,?_,trivial⟩
  ·refine dQ _ rfl rfl ab U rfl (eI (bQ vc rfl (fun w U=>uY w ) (fun _ _ _ h=>h))) ?_
   rintro _ _ _ a w ⟨rfl,rfl,rfl⟩ ab U
   refine ⟨⟨.inr U.ax,.inr U.ax,trivial⟩,?_⟩
   refine fy [3,6] aA rfl ⟨?_,?_,trivial⟩
   ·refine dQ _ rfl rfl ab U rfl (dX bS bF rfl rfl bJ (by decide) rfl rfl) ?_
    rintro nR _ _ a w ⟨rfl,rfl⟩ ab U
    refine ⟨⟨al,al,trivial⟩,?_⟩
    refine aR 4 rfl ab (U.ak ae (ay.k)) (mF (xs:=[_]) bS bz bF 0 rfl rfl) fun a ab=>fy [5,6] aA rfl ⟨?_,?_,trivial⟩
    ·refine dQ _ rfl rfl ab U rfl (eI (bQ oT rfl (fun w U=>oN _ _ (by first | assumption | rfl | (simp only [*];done)) (by first | assumption | rfl | (simp only [*];done)) (by first | assumption | omega | (simp;done) | (simp;omega) | (simp only [*];omega)) w (U.ext _ _ fp)) (fun _ _ _ h=>h))) ?_
     rintro _ _ _ a w ⟨rfl,rfl,rfl⟩ ab U
     refine ⟨⟨al,al,al,trivial⟩,?_⟩
     refine bW 6 rfl rfl ab U rfl (c1 gl) ?_
     rintro _ _ _ a w ⟨lR,rfl,rfl,rfl⟩ ab U
     refine ⟨⟨al,al,al,trivial⟩,?_⟩
     refine bW 7 rfl rfl ab U rfl (cA gl 0 rfl rfl rfl rfl aI bJ aI) ?_
     rintro _ _ _ a w ⟨rfl,rfl,rfl⟩ ab U
     (try dsimp only [hf] at U)
     replace U:=ez U
     refine ⟨⟨al,al,al,trivial⟩,?_⟩
     exact ei aA (kY nR lR (trivial) (ab.sub (L':=[(1,_),(4,_),(5,_)]) ⟨rfl,rfl,rfl,trivial⟩) U)
    ·refine dQ _ rfl rfl ab U rfl (c1 gl) ?_
     rintro _ _ _ a w ⟨lR,rfl,rfl,rfl⟩ ab U
     refine ⟨⟨.inr (U.ea (ay.k.n)),al,al,trivial⟩,?_⟩
     refine bW 5 rfl rfl ab U rfl (eI (bQ oT rfl (fun w U=>oN _ _ (by first | assumption | rfl | (simp only [*];done)) (by first | assumption | rfl | (simp only [*];done)) (by first | assumption | omega | (simp;done) | (simp;omega) | (simp only [*];omega)) w (U.ext _ _ fp)) (fun _ _ _ h=>h))) ?_
     rintro _ _ _ a w ⟨rfl,rfl,rfl⟩ ab U
     refine ⟨⟨al,al,al,trivial⟩,?_⟩
     refine bW 7 rfl rfl ab U rfl (cA gl 0 rfl rfl rfl rfl aI bJ aI) ?_
     rintro _ _ _ a w ⟨rfl,rfl,rfl⟩ ab U
     (try dsimp only [hf] at U)
     replace U:=ez U
     refine ⟨⟨al,al,al,trivial⟩,?_⟩
     exact ei aA (kY nR lR (trivial) (ab.sub (L':=[(1,_),(4,_),(5,_)]) ⟨rfl,rfl,rfl,trivial⟩) U)
   ·refine dQ _ rfl rfl ab U rfl (c1 gl) ?_
    rintro _ _ _ a w ⟨lR,rfl,rfl,rfl⟩ ab U
    refine ⟨⟨.inr U.ax,.inr U.ax,trivial⟩,?_⟩
    refine bW 3 rfl rfl ab U rfl (dX bS bF rfl rfl bJ (by decide) rfl rfl) ?_
    rintro nR _ _ a w ⟨rfl,rfl⟩ ab U
    refine ⟨⟨al,al,trivial⟩,?_⟩
    refine aR 4 rfl ab (U.ak ae (ay.k)) (mF (xs:=[_]) bS bz bF 0 rfl rfl) fun a ab=>bW 5 rfl rfl ab U rfl (eI (bQ oT rfl (fun w U=>oN _ _ (by first | assumption | rfl | (simp only [*];done)) (by first | assumption | rfl | (simp only [*];done)) (by first | assumption | omega | (simp;done) | (simp;omega) | (simp only [*];omega)) w (U.ext _ _ fp)) (fun _ _ _ h=>h))) ?_
    rintro _ _ _ a w ⟨rfl,rfl,rfl⟩ ab U
    refine ⟨⟨al,al,al,trivial⟩,?_⟩
    refine bW 7 rfl rfl ab U rfl (cA gl 1 rfl rfl rfl rfl aI bJ aI) ?_
    rintro _ _ _ a w ⟨rfl,rfl,rfl⟩ ab U
    (try dsimp only [hf] at U)
    replace U:=ez U
    refine ⟨⟨al,al,al,trivial⟩,?_⟩
    exact ei aA (kY nR lR (trivial) (ab.sub (L':=[(1,_),(4,_),(5,_)]) ⟨rfl,rfl,rfl,trivial⟩) (U.perm (.swap _ _ _)))
  ·refine dQ _ rfl rfl ab U rfl (dX bS bF rfl rfl bJ (by decide) rfl rfl) ?_
   rintro nR _ _ a w ⟨rfl,rfl⟩ ab U
   refine ⟨⟨al,al,trivial⟩,?_⟩
   refine aR 4 rfl ab (U.ak ae (ay.k)) (mF (xs:=[_]) bS bz bF 0 rfl rfl) fun a ab=>fy [0,6] aA rfl ⟨?_,?_,trivial⟩
   ·refine dQ _ rfl rfl ab U rfl (eI (bQ vc rfl (fun w U=>uY w ) (fun _ _ _ h=>h))) ?_
    rintro _ _ _ a w ⟨rfl,rfl,rfl⟩ ab U
    refine ⟨⟨.inr (U.ea (ay.k)),al,al,trivial⟩,?_⟩
    refine fy [5,6] aA rfl ⟨?_,?_,trivial⟩
    ·refine dQ _ rfl rfl ab U rfl (eI (bQ oT rfl (fun w U=>oN _ _ (by first | assumption | rfl | (simp only [*];done)) (by first | assumption | rfl | (simp only [*];done)) (by first | assumption | omega | (simp;done) | (simp;omega) | (simp only [*];omega)) w (U.ext _ _ fp)) (fun _ _ _ h=>h))) ?_
     rintro _ _ _ a w ⟨rfl,rfl,rfl⟩ ab U
     refine ⟨⟨al,al,al,trivial⟩,?_⟩
     refine bW 6 rfl rfl ab U rfl (c1 gl) ?_
     rintro _ _ _ a w ⟨lR,rfl,rfl,rfl⟩ ab U
     refine ⟨⟨al,al,al,trivial⟩,?_⟩
     refine bW 7 rfl rfl ab U rfl (cA gl 0 rfl rfl rfl rfl aI bJ aI) ?_
     rintro _ _ _ a w ⟨rfl,rfl,rfl⟩ ab U
     (try dsimp only [hf] at U)
     replace U:=ez U
     refine ⟨⟨al,al,al,trivial⟩,?_⟩
     exact ei aA (kY nR lR (trivial) (ab.sub (L':=[(1,_),(4,_),(5,_)]) ⟨rfl,rfl,rfl,trivial⟩) U)
    ·refine dQ _ rfl rfl ab U rfl (c1 gl) ?_
     rintro _ _ _ a w ⟨lR,rfl,rfl,rfl⟩ ab U
     refine ⟨⟨.inr (U.ea (ay.k.n)),al,al,trivial⟩,?_⟩
     refine bW 5 rfl rfl ab U rfl (eI (bQ oT rfl (fun w U=>oN _ _ (by first | assumption | rfl | (simp only [*];done)) (by first | assumption | rfl | (simp only [*];done)) (by first | assumption | omega | (simp;done) | (simp;omega) | (simp only [*];omega)) w (U.ext _ _ fp)) (fun _ _ _ h=>h))) ?_
     rintro _ _ _ a w ⟨rfl,rfl,rfl⟩ ab U
     refine ⟨⟨al,al,al,trivial⟩,?_⟩
     refine bW 7 rfl rfl ab U rfl (cA gl 0 rfl rfl rfl rfl aI bJ aI) ?_
     rintro _ _ _ a w ⟨rfl,rfl,rfl⟩ ab U
     (try dsimp only [hf] at U)
     replace U:=ez U
     refine ⟨⟨al,al,al,trivial⟩,?_⟩
     exact ei aA (kY nR lR (trivial) (ab.sub (L':=[(1,_),(4,_),(5,_)]) ⟨rfl,rfl,rfl,trivial⟩) U)
   ·refine dQ _ rfl rfl ab U rfl (c1 gl) ?_
    rintro _ _ _ a w ⟨lR,rfl,rfl,rfl⟩ ab U
    refine ⟨⟨.inr (U.ea (ay.k.n)),al,al,trivial⟩,?_⟩
    refine bW 0 rfl rfl ab U rfl (eI (bQ vc rfl (fun w U=>uY w ) (fun _ _ _ h=>h))) ?_
    rintro _ _ _ a w ⟨rfl,rfl,rfl⟩ ab U
    refine ⟨⟨.inr (U.ea (ay.k.n)),al,al,trivial⟩,?_⟩
    refine bW 5 rfl rfl ab U rfl (eI (bQ oT rfl (fun w U=>oN _ _ (by first | assumption | rfl | (simp only [*];done)) (by first | assumption | rfl | (simp only [*];done)) (by first | assumption | omega | (simp;done) | (simp;omega) | (simp only [*];omega)) w (U.ext _ _ fp)) (fun _ _ _ h=>h))) ?_
    rintro _ _ _ a w ⟨rfl,rfl,rfl⟩ ab U
    refine ⟨⟨al,al,al,trivial⟩,?_⟩
    refine bW 7 rfl rfl ab U rfl (cA gl 0 rfl rfl rfl rfl aI bJ aI) ?_
    rintro _ _ _ a w ⟨rfl,rfl,rfl⟩ ab U
    (try dsimp only [hf] at U)
    replace U:=ez U
    refine ⟨⟨al,al,al,trivial⟩,?_⟩
    exact ei aA (kY nR lR (trivial) (ab.sub (L':=[(1,_),(4,_),(5,_)]) ⟨rfl,rfl,rfl,trivial⟩) U)
  ·refine dQ _ rfl rfl ab U rfl (c1 gl) ?_
   rintro _ _ _ a w ⟨lR,rfl,rfl,rfl⟩ ab U
   refine ⟨⟨.inr U.ax,.inr U.ax,trivial⟩,?_⟩
   refine fy [0,3] aA rfl ⟨?_,?_,trivial⟩
   ·refine dQ _ rfl rfl ab U rfl (eI (bQ vc rfl (fun w U=>uY w ) (fun _ _ _ h=>h))) ?_
    rintro _ _ _ a w ⟨rfl,rfl,rfl⟩ ab U
    refine ⟨⟨.inr U.ax,.inr U.ax,trivial⟩,?_⟩
    refine bW 3 rfl rfl ab U rfl (dX bS bF rfl rfl bJ (by decide) rfl rfl) ?_
    rintro nR _ _ a w ⟨rfl,rfl⟩ ab U
    refine ⟨⟨al,al,trivial⟩,?_⟩
    refine aR 4 rfl ab (U.ak ae (ay.k)) (mF (xs:=[_]) bS bz bF 0 rfl rfl) fun a ab=>bW 5 rfl rfl ab U rfl (eI (bQ oT rfl (fun w U=>oN _ _ (by first | assumption | rfl | (simp only [*];done)) (by first | assumption | rfl | (simp only [*];done)) (by first | assumption | omega | (simp;done) | (simp;omega) | (simp only [*];omega)) w (U.ext _ _ fp)) (fun _ _ _ h=>h))) ?_
    rintro _ _ _ a w ⟨rfl,rfl,rfl⟩ ab U
    refine ⟨⟨al,al,al,trivial⟩,?_⟩
    refine bW 7 rfl rfl ab U rfl (cA gl 1 rfl rfl rfl rfl aI bJ aI) ?_
    rintro _ _ _ a w ⟨rfl,rfl,rfl⟩ ab U
    (try dsimp only [hf] at U)
    replace U:=ez U
    refine ⟨⟨al,al,al,trivial⟩,?_⟩
    exact ei aA (kY nR lR (trivial) (ab.sub (L':=[(1,_),(4,_),(5,_)]) ⟨rfl,rfl,rfl,trivial⟩) (U.perm (.swap _ _ _)))
   ·refine dQ _ rfl rfl ab U rfl (dX bS bF rfl rfl bJ (by decide) rfl rfl) ?_
    rintro nR _ _ a w ⟨rfl,rfl⟩ ab U
    refine ⟨⟨al,al,trivial⟩,?_⟩
    refine aR 4 rfl ab (U.ak ae (ay.k)) (mF (xs:=[_]) bS bz bF 0 rfl rfl) fun a ab=>bW 0 rfl rfl ab U rfl (eI (bQ vc rfl (fun w U=>uY w ) (fun _ _ _ h=>h))) ?_
    rintro _ _ _ a w ⟨rfl,rfl,rfl⟩ ab U
    refine ⟨⟨.inr (U.ea (ay.k)),al,al,trivial⟩,?_⟩
    refine bW 5 rfl rfl ab U rfl (eI (bQ oT rfl (fun w U=>oN _ _ (by first | assumption | rfl | (simp only [*];done)) (by first | assumption | rfl | (simp only [*];done)) (by first | assumption | omega | (simp;done) | (simp;omega) | (simp only [*];omega)) w (U.ext _ _ fp)) (fun _ _ _ h=>h))) ?_
    rintro _ _ _ a w ⟨rfl,rfl,rfl⟩ ab U
    refine ⟨⟨al,al,al,trivial⟩,?_⟩
    refine bW 7 rfl rfl ab U rfl (cA gl 1 rfl rfl rfl rfl aI bJ aI) ?_
    rintro _ _ _ a w ⟨rfl,rfl,rfl⟩ ab U
    (try dsimp only [hf] at U)
    replace U:=ez U
    refine ⟨⟨al,al,al,trivial⟩,?_⟩
    exact ei aA (kY nR lR (trivial) (ab.sub (L':=[(1,_),(4,_),(5,_)]) ⟨rfl,rfl,rfl,trivial⟩) (U.perm (.swap _ _ _)))
 rintro a w ⟨nR,lR, -,ab,U⟩
 (try dsimp only at ab U)
 refine bD _ _<|ax fun dH cf=>aB ab U (ai rfl<|ag (dL cl au rfl)<|ai rfl<|ah) fun a w ab U=>wp_block ?_
 obtain ⟨bC,aZ,U⟩:=U.cT
 refine df (γ:=Int) (0) (fun (i:Int)=>[(17,az i)]) [(4,_),(5,_),(15,_),(16,_)] (fun (i:Int)=>(bC.set 0 (.blk lR 223 (q2 (aK.lZ tag (ps.take i.toNat)))))) (fun (i:Int)=>0≤i∧i≤ps.length) (fun (i:Int)=>(ps.length-i).toNat) (ab.sub ⟨rfl,rfl,rfl,rfl,rfl,trivial⟩) (by subst aZ;rw [← aK.acp] at U;exact U) (by exact ⟨Int.le_refl _,by omega⟩) ?_
 rintro i a w ba ab U
 subst aZ;(try dsimp only at ba ab U)
 obtain ⟨eu,j8⟩:=ba
 replace U:=ez U
 obtain ⟨W7,W8⟩:=aK.N5 tag (ps.take i.toNat)
 refine aB ab U (ag (cK rfl rfl)<|ah) fun a w ab U=>ax fun et cz=>b9 ab rfl (fun aS=>?_) (fun aS=>?_)
 ·refine wp_skip<|cz _ _<|ax fun eU cO=>wp_block ?_
  refine ax fun e1 cF=>bq ab U (ag (dG cl bz au rfl rfl (by omega))<|ag (si bz au cD rfl rfl (by omega))<|ar rfl<|ah) fun a w ab U=>?_
  have Zf:=bN _ (aK.jE ps i.toNat (by omega))
  have cZ:=aF.rp (ps.getD i.toNat [])
  obtain ⟨ajt,ajv⟩:=aK.sY _ W7 W8 (aF.bytes (ps.getD i.toNat []))
  have hlen:(q2 (aK.fE (aK.lZ tag (ps.take i.toNat)) (aF.bytes (ps.getD i.toNat [])))).length=73:=by rw [af9];omega
  refine cF _ _ ?_
  revert U;revert ab;apply ho (J:=jL (α0:=Value) 32 _ _ _ _ _) #[false,false,false,false,false,false] 6 mixed rfl rfl
  ·intro w ab U
   refine aR 0 rfl ab (U.ak ae (ay.k)) (fW gl 0 rfl rfl aI rfl) fun a ab=>aR 1 rfl ab (U.ak ae ay) (bE rfl) fun a ab=>bW 2 rfl rfl ab U rfl (eB EE rfl (fun w U=>Iw _ (by first | assumption | omega) w )) ?_
   rintro Rp _ _ a w ⟨_,_,rfl,rfl,rfl,rfl⟩ ab U
   refine ⟨⟨al,.inr (U.ea (ay.k.n)),trivial⟩,?_⟩
   refine aR 3 rfl ab (U.ak ae (ay.k)) (mF bS bz bF 0 rfl rfl) fun a ab=>bW 4 rfl rfl ab U rfl (eI (bQ oT rfl (fun w U=>oN _ _ (by first | assumption | rfl | (simp only [*];done)) (by first | assumption | rfl | (simp only [*];done)) (by first | assumption | omega | (simp;done) | (simp;omega) | (simp only [*];omega)) w (U.ext _ _ fp)) (fun _ _ _ h=>h))) ?_
   rintro _ _ _ a w ⟨rfl,rfl,rfl⟩ ab U
   refine ⟨⟨al,al,al,trivial⟩,?_⟩
   refine bW 5 rfl rfl ab U rfl (cA gl 1 rfl rfl rfl rfl aI bJ aI) ?_
   rintro _ _ _ a w ⟨rfl,rfl,rfl⟩ ab U
   (try dsimp only [hf] at U)
   replace U:=iK U
   refine ⟨⟨al,al,al,trivial⟩,?_⟩
   exact ei aA (ly Rp (trivial) (ab.sub (L':=[(4,_),(5,_),(15,_),(16,_),(17,_)]) ⟨rfl,rfl,rfl,rfl,rfl,trivial⟩) U)
  rintro a w ⟨Rp, -,ab,U⟩
  (try dsimp only at ab U)
  refine cO _ _<|bq ab U (bX rfl rfl<|ai rfl<|ah) fun a w ab U=>?_
  replace U:=U.ak ay (ae.n)
  refine ⟨(i+1),?_,?_,ab.sub ⟨rfl,rfl,rfl,rfl,rfl,trivial⟩,?_⟩
  ·(try dsimp only);omega
  ·(try dsimp only);omega
  ·rw [aK.acs _ _ _ (by omega),show i.toNat+1=(i+1).toNat by omega] at U
   exact U
 ·obtain rfl:i=ps.length:=by omega
  rw [Int.toNat_natCast,List.take_length] at U
  obtain ⟨ajp,ajq⟩:=aK.N5 tag ps
  have ajr:=aK.acq tag ps bN hl
  have ajs:=aK.AI (aK.lZ tag ps)
  refine wp_exit<|cf _ _<|a8 fun fY dg=>aE ab U (ag (fW gl 0 rfl rfl aI rfl)<|ag (bQ K2 rfl (fun w U=>Qy _ (by first | assumption | (simp [*];done)) (by first | assumption | (simp [*];done)) (by first | assumption | omega) w (U.ext _ _ fp)) (fun _ _ _ h=>h))<|ah) fun a w ab U=>aH ab U rfl (c1 hP) ?_
  rintro _ _ _ a w ⟨dk,rfl,rfl,rfl⟩ ab U
  rw [show List.replicate 32 (Value.int .u8 0)=(List.replicate 32 (0:UInt8)).map bf from by rw [List.map_replicate] <;> rfl] at U
  refine aH ab U rfl (cA hP 0 rfl rfl rfl rfl aI bJ aI) ?_
  rintro _ _ _ a w ⟨rfl,rfl,rfl⟩ ab U
  replace U:=iK U
  refine wpList_nil (dg _ _ ?_)
  refine a8 fun hE dS=>aE ab U (ag (qZ hP bF rfl rfl (by omega))<|ag (Hk cW rfl (by omega))<|ag (adz cW 0 rfl rfl aI rfl)<|ah) fun a w ab U=>aH ab U rfl (cA cW 3 rfl rfl rfl rfl aI bJ aI) ?_
  rintro _ _ _ a w ⟨rfl,rfl,rfl⟩ ab U
  replace U:=iK U
  refine wpList_nil (dS _ _ ?_)
  refine wp_ret<|bR (rs:=[.cell 4 62]) rfl ab U (vs:=[_]) ⟨⟨_,_,_,_,_,_,_,rfl,List.mem_of_getElem? (i:=3) rfl,cW,.inl ⟨rfl,aI,rfl⟩⟩,trivial⟩ ay ay (by unfold aK.iL;rfl)
end
section
theorem pF:bU Tryz.prog 157:=bY Tryz.func157
theorem p5(x:UInt32)(n:Int)(bA:0<n∧n<32)(w:World):ch Tryz.prog 157 [cx x,az n] w (fun r _ _=>r=cx (aK.iO x (UInt32.ofNat n.toNat))):=by
 refine cI Tryz.func157 rfl Tryz.ntmps157 (Nat.le_of_ble_eq_true rfl) fun a ab U=>aB ab U (ar rfl<|ah) fun a w ab U=>hZ mixed aA ab U (ai rfl<|ai rfl<|ag (sm rfl rfl (by omega))<|ai rfl<|ai rfl<|e2 rfl rfl<|ag (v8 rfl rfl (by omega))<|ag (v7 rfl rfl)<|ar rfl<|ah) fun a w ab U=>wp_ret ?_
 exact bR (rs:=[.tmp 4]) rfl ab U (vs:=[_]) ⟨rfl,trivial⟩ ay ay (by rw [aK.aeU x n bA])
theorem aeZ(v:Value)(xs:List UInt8)(aL:xs.length<1099511627776)(w:World)(au:bg gE (b1 w) v xs):ch Tryz.prog 155 [v] w (fun r zs hs=>∃ z,bg gE z r (xs++aK.pad (di xs.length))∧zs=[z]∧hs=[]):=by
 refine cI Tryz.func155 rfl Tryz.ntmps155 (Nat.le_of_ble_eq_true rfl) fun a ab U=>?_
 have bj:=aK.Dk xs.length
 have X2:=aK.Am (8*di xs.length)
 refine aB ab U (ar rfl<|ah) fun a w ab U=>a8 fun cm bD=>aH ab U rfl (u5 bS bF) ?_
 rintro v1 _ _ a w ⟨rfl,rfl⟩ ab U
 replace U:=eJ U
 refine aE ab U (ai rfl<|ah) fun a w ab U=>aH ab U rfl (dB bS bF 0 rfl rfl rfl (CJ bS au cD) aI rfl (by decide)) ?_
 rintro v3 _ _ a w ⟨rfl,rfl⟩ ab U
 replace U:=eJ U
 refine aE ab U (ar rfl<|ah) fun a w ab U=>wpList_nil (bD _ _ ?_)
 refine a8 fun dH cf=>aE ab U (ai rfl<|ah) fun a w ab U=>aH ab U rfl (dX bS bF rfl rfl bJ (by decide) rfl rfl) ?_
 rintro v4 _ _ a w ⟨rfl,rfl⟩ ab U
 replace U:=eK U
 refine aH ab U rfl (dB bS bF 1 rfl rfl rfl (eA bS (k:=0) rfl bJ) aI rfl (by decide)) ?_
 rintro v6 _ _ a w ⟨rfl,rfl⟩ ab U
 replace U:=eK U
 refine aE ab U (ar rfl<|ah) fun a w ab U=>wpList_nil (cf _ _ ?_)
 refine ax fun dP cq=>wp_block ?_
 obtain ⟨bC,aZ,U⟩:=U.cT
 refine df (γ:=Value×Nat) (v6,0) (fun (dd,j)=>[(3,dd)]) [(0,_)] (fun (dd,j)=>(bC.set 1 (.row dd 5 1 (xs.length+(1+j)) ((xs++128::List.replicate j (0:UInt8)).map bf)))) (fun (dd,j)=>j≤aK.gW xs.length) (fun (dd,j)=>aK.gW xs.length-j) (ab.sub ⟨rfl,rfl,trivial⟩) (by subst aZ;simp at U;simp;exact U) (by exact Nat.zero_le _) ?_
 rintro ⟨dd,j⟩ a w ba ab U
 subst aZ;(try dsimp only at ba ab U)
 have a6:=ba
 replace U:=eK U
 refine ax fun dw b3=>aB ab U (ai rfl<|ag (hX bS 1 rfl rfl)<|ag (mI rfl rfl (by omega))<|ag (dM rfl rfl)<|ah) fun a w ab U=>eP ab rfl (fun aS=>?_) (fun aS=>?_)
 ·have tJ:j<aK.gW xs.length:=by
   have:=aK.II xs.length
   rcases Nat.lt_or_ge j (aK.gW xs.length) with h | h
   ·exact h
   ·obtain rfl:j=aK.gW xs.length:=by omega
    omega
  refine wp_skip<|b3 _ _<|wp_block ?_
  refine du<|aE ab U (ai rfl<|ah) fun a w ab U=>aH ab U rfl (dX bS bF rfl rfl bJ (by decide) rfl rfl) ?_
  rintro mR _ _ a w ⟨rfl,rfl⟩ ab U
  replace U:=ez U
  refine aH ab U rfl (dB bS bF 2 rfl rfl rfl (eA bS (k:=0) rfl bJ) aI rfl (by decide)) ?_
  rintro v9 _ _ a w ⟨rfl,rfl⟩ ab U
  replace U:=ez U
  refine aE ab U (ar rfl<|ah) fun a w ab U=>wpList_nil ?_
  replace U:=U.ak ay (ae.n)
  refine ⟨(v9,j+1),?_,?_,ab.sub ⟨rfl,rfl,trivial⟩,?_⟩
  ·(try dsimp only);omega
  ·(try dsimp only);omega
  ·have e:(xs++128::List.replicate j (0:UInt8)).map bf++[Value.int .u8 0]=(xs++128::List.replicate (j+1) (0:UInt8)).map bf:=by rw [List.replicate_succ'];simp
   rw [e] at U
   exact U
 ·have FV:=aK.R2 xs.length j a6 (by omega)
  subst FV
  refine wp_exit<|cq _ _<|aB ab U (ai rfl<|ag (dL bS au rfl)<|ag (yU bG mP rfl)<|ag (OV (p:=8) rfl rfl)<|ar rfl<|ah) fun a w ab U=>ax fun e1 cF=>aB ab U (ar rfl<|ah) fun a w ab U=>?_
  refine wp_block ?_
  obtain ⟨bC,aZ,U⟩:=U.cT
  refine df (γ:=Value×Int) (dd,0) (fun (dd,i)=>[(3,dd),(5,az i)]) [(4,_)] (fun (dd,i)=>(bC.set 1 (.row dd 5 1 (xs.length+(1+aK.gW xs.length)+i.toNat) ((xs++128::(List.replicate (aK.gW xs.length) (0:UInt8)++(aK.mW (8*di xs.length)).take i.toNat)).map bf)))) (fun (dd,i)=>0≤i∧i≤8) (fun (dd,i)=>(8-i).toNat) (ab.sub ⟨rfl,rfl,rfl,trivial⟩) (by subst aZ;simpa using U) (by simp) ?_
  rintro ⟨dd,i⟩ a w ba ab U
  subst aZ;(try dsimp only at ba ab U)
  obtain ⟨eu,j8⟩:=ba
  replace U:=eK U
  refine ax fun hE dS=>aB ab U (ai rfl<|ag (cK rfl rfl)<|ah) fun a w ab U=>b9 ab rfl (fun bs=>?_) (fun bs=>?_)
  ·refine wp_skip<|dS _ _<|ax fun iE eO=>wp_block ?_
   refine du<|aE ab U (ai rfl<|ai rfl<|ai rfl<|ag (hd rfl rfl (by omega))<|e2 rfl rfl<|ag (wa rfl rfl (by omega))<|ag (Hc mP bF rfl)<|ah) fun a w ab U=>aH ab U rfl (dX bS bF rfl rfl bJ (by decide) rfl rfl) ?_
   rintro v10 _ _ a w ⟨rfl,rfl⟩ ab U
   replace U:=ez U
   refine aH ab U rfl (dB bS bF 2 rfl rfl rfl (eA bS (k:=0) rfl bJ) aI rfl (by decide)) ?_
   rintro v12 _ _ a w ⟨rfl,rfl⟩ ab U
   replace U:=ez U
   refine aE ab U (ar rfl<|ah) fun a w ab U=>wpList_nil (eO _ _ ?_)
   refine bq ab U (ai rfl<|bX rfl rfl<|ar rfl<|ah) fun a w ab U=>?_
   replace U:=U.ak ay (ae.n)
   refine ⟨(v12,i+1),?_,?_,ab.sub ⟨rfl,rfl,rfl,trivial⟩,?_⟩
   ·(try dsimp only);omega
   ·(try dsimp only);omega
   ·rw [aK.JR (8*di xs.length) i ⟨eu,by omega⟩] at U
    have e:(xs++128::(List.replicate (aK.gW xs.length) (0:UInt8)++(aK.mW (8*di xs.length)).take i.toNat)).map bf++[bf (UInt8.ofNat ((8*di xs.length).toNat/2^(56-8*i.toNat)))]=(xs++128::(List.replicate (aK.gW xs.length) (0:UInt8)++(aK.mW (8*di xs.length)).take (i+1).toNat)).map bf:=by rw [show (i+1).toNat=i.toNat+1 by omega,aK.JJ _ _ (by omega)];simp
    rw [e,show xs.length+(1+aK.gW xs.length)+i.toNat+1=xs.length+(1+aK.gW xs.length)+(i+1).toNat by omega] at U
    exact U
  ·obtain rfl:i=8:=by omega
   rw [show (8:Int).toNat=8 from rfl,List.take_of_length_le (by omega)] at U
   have Zl:(di (xs.length:Int)).toNat=xs.length:=by have:=mD (xs.length:Int);omega
   have Mt:128::(List.replicate (aK.gW xs.length) (0:UInt8)++aK.mW (8*di xs.length))=aK.pad (di xs.length):=by unfold aK.pad;rw [Zl]
   rw [Mt] at U
   refine wp_exit<|cF _ _<|aB ab U (ai rfl<|ar rfl<|ah) fun a w ab U=>wp_ret ?_
   have hK:(xs++aK.pad (di xs.length)).length=xs.length+(1+aK.gW xs.length)+8:=by rw [← Mt];simp [aK.Am];omega
   obtain ⟨z,BC,U⟩:=aC.Lv (U.perm (.swap _ _ _)) hK.symm (by omega)
   exact bR (rs:=[.tmp 2]) rfl ab U (vs:=[_]) ⟨rfl,trivial⟩ (zs':=[z]) (hs':=[]) ae ay ⟨z,BC,rfl,rfl⟩
theorem afd(v:Value)(bb:List UInt8)(hl:bb.length=64)(w:World)(au:bg gE (b1 w) v bb):ch Tryz.prog 156 [v] w (fun r _ _=>r=.agg ((aK.hC bb 64).map cx).toArray):=by
 refine cI Tryz.func156 rfl Tryz.ntmps156 (Nat.le_of_ble_eq_true rfl) fun a ab U=>a8 fun dW cR=>aH ab U rfl (c1 gJ) ?_
 rintro _ _ _ a w ⟨b6,rfl,rfl,rfl⟩ ab U
 rw [show List.replicate 64 (Value.int .u32 0)=(List.replicate 64 (0:UInt32)).map cx from by rw [List.map_replicate] <;> rfl] at U
 refine wpList_nil (cR _ _ ?_)
 refine a8 fun cm bD=>aH ab U rfl (c1 gJ) ?_
 rintro _ _ _ a w ⟨dk,rfl,rfl,rfl⟩ ab U
 rw [show List.replicate 64 (Value.int .u32 0)=(List.replicate 64 (0:UInt32)).map cx from by rw [List.map_replicate] <;> rfl] at U
 refine wpList_nil (bD _ _ ?_)
 refine ax fun dH cf=>aB ab U (ar rfl<|ah) fun a w ab U=>wp_block ?_
 obtain ⟨bC,aZ,U⟩:=U.cT
 refine df (γ:=Int) (0) (fun (t:Int)=>[(4,az t)]) [(0,_),(2,_),(3,_)] (fun (t:Int)=>(bC.set 0 (.blk dk 239 ((aK.fQ bb t.toNat).map cx)))) (fun (t:Int)=>0≤t∧t≤16) (fun (t:Int)=>(16-t).toNat) (ab.sub ⟨rfl,rfl,rfl,rfl,trivial⟩) (by subst aZ;exact U) (by simp) ?_
 rintro t a w ba ab U
 subst aZ;(try dsimp only at ba ab U)
 obtain ⟨Bx,Gg⟩:=ba
 replace U:=eK U
 have yt:=aK.HT bb t.toNat (by omega)
 refine ax fun dw b3=>aB ab U (ai rfl<|ag (cK rfl rfl)<|ah) fun a w ab U=>b9 ab rfl (fun aS=>?_) (fun aS=>?_)
 ·refine wp_skip<|b3 _ _<|ax fun eU cO=>wp_block ?_
  refine h2 35 mixed aA ab U (ai rfl<|ai rfl<|ai rfl<|ag (hd rfl rfl (by omega))<|ag (dG bS bF au rfl rfl (by omega))<|ag (mH bF au cD rfl rfl (by omega))<|ag (yT bF b4 rfl)<|ag (v8 rfl rfl (by omega))<|ai rfl<|ai rfl<|ag (hd rfl rfl (by omega))<|bX rfl rfl<|ag (dG bS bF au rfl rfl (by omega))<|ag (mH bF au cD rfl rfl (by omega))<|ag (yT bF b4 rfl)<|ag (v8 rfl rfl (by omega))<|ag (v7 rfl rfl)<|ai rfl<|ai rfl<|ag (hd rfl rfl (by omega))<|bX rfl rfl<|ag (dG bS bF au rfl rfl (by omega))<|ag (mH bF au cD rfl rfl (by omega))<|ag (yT bF b4 rfl)<|ag (v8 rfl rfl (by omega))<|ag (v7 rfl rfl)<|ai rfl<|ai rfl<|ag (hd rfl rfl (by omega))<|bX rfl rfl<|ag (dG bS bF au rfl rfl (by omega))<|ag (mH bF au cD rfl rfl (by omega))<|ag (yT bF b4 rfl)<|ag (v7 rfl rfl)<|ag (hn gJ b4 rfl rfl (by omega))<|ah) fun a w ab U=>aH ab U rfl (qu b4 0 rfl rfl rfl aI rfl) ?_
  rintro _ _ _ a w ⟨rfl,rfl,rfl⟩ ab U
  replace U:=eK U
  refine wpList_nil (cO _ _ ?_)
  refine bq ab U (ai rfl<|bX rfl rfl<|ar rfl<|ah) fun a w ab U=>⟨(t+1),?_,?_,ab.sub ⟨rfl,rfl,rfl,rfl,trivial⟩,?_⟩
  ·(try dsimp only);omega
  ·(try dsimp only);omega
  ·rw [aK.ahk bb t (by omega) (by omega)] at U
   exact U
 ·obtain rfl:t=16:=by omega
  clear yt
  refine wp_exit<|cf _ _<|ax fun e1 cF=>aB ab U (ar rfl<|ah) fun a w ab U=>wp_block ?_
  obtain ⟨bC,aZ,U⟩:=U.cT
  refine df (γ:=Int) (16) (fun (t:Int)=>[(5,az t)]) [(2,_),(3,_)] (fun (t:Int)=>(bC.set 0 (.blk dk 239 ((aK.fQ bb t.toNat).map cx)))) (fun (t:Int)=>16≤t∧t≤64) (fun (t:Int)=>(64-t).toNat) (ab.sub ⟨rfl,rfl,rfl,trivial⟩) (by subst aZ;exact U) (by simp) ?_
  rintro t a w ba ab U
  subst aZ;(try dsimp only at ba ab U)
  obtain ⟨Bx,Gg⟩:=ba
  replace U:=eK U
  have yt:=aK.HT bb t.toNat (by omega)
  refine ax fun hE dS=>aB ab U (ai rfl<|ag (cK rfl rfl)<|ah) fun a w ab U=>b9 ab rfl (fun bs=>?_) (fun bs=>?_)
  ·refine wp_skip<|dS _ _<|ax fun iE eO=>wp_block ?_
   refine hZ mixed aA ab U (ai rfl<|e2 rfl rfl<|ag (hn gJ b4 rfl rfl (by omega))<|ag (jI b4 0 0 rfl rfl aI rfl)<|ag (bQ pF rfl (fun w U=>p5 _ _ (by omega) w ) (fun _ _ _ h=>h))<|ai rfl<|e2 rfl rfl<|ag (hn gJ b4 rfl rfl (by omega))<|ag (jI b4 0 0 rfl rfl aI rfl)<|ag (bQ pF rfl (fun w U=>p5 _ _ (by omega) w ) (fun _ _ _ h=>h))<|ag (jV rfl rfl)<|ai rfl<|e2 rfl rfl<|ag (hn gJ b4 rfl rfl (by omega))<|ag (jI b4 0 0 rfl rfl aI rfl)<|ag (sm rfl rfl (by omega))<|ag (jV rfl rfl)<|ar rfl<|ah) fun a w ab U=>hZ mixed aA ab U (ai rfl<|e2 rfl rfl<|ag (hn gJ b4 rfl rfl (by omega))<|ag (jI b4 0 0 rfl rfl aI rfl)<|ag (bQ pF rfl (fun w U=>p5 _ _ (by omega) w ) (fun _ _ _ h=>h))<|ai rfl<|e2 rfl rfl<|ag (hn gJ b4 rfl rfl (by omega))<|ag (jI b4 0 0 rfl rfl aI rfl)<|ag (bQ pF rfl (fun w U=>p5 _ _ (by omega) w ) (fun _ _ _ h=>h))<|ag (jV rfl rfl)<|ai rfl<|e2 rfl rfl<|ag (hn gJ b4 rfl rfl (by omega))<|ag (jI b4 0 0 rfl rfl aI rfl)<|ag (sm rfl rfl (by omega))<|ag (jV rfl rfl)<|ar rfl<|ah) fun a w ab U=>h2 15 mixed aA ab U (ai rfl<|ai rfl<|e2 rfl rfl<|ag (hn gJ b4 rfl rfl (by omega))<|ag (jI b4 0 0 rfl rfl aI rfl)<|ai rfl<|ag (hN rfl rfl)<|ai rfl<|e2 rfl rfl<|ag (hn gJ b4 rfl rfl (by omega))<|ag (jI b4 0 0 rfl rfl aI rfl)<|ag (hN rfl rfl)<|ai rfl<|ag (hN rfl rfl)<|ag (hn gJ b4 rfl rfl (by omega))<|ah) fun a w ab U=>aH ab U rfl (qu b4 0 rfl rfl rfl aI rfl) ?_
   rintro _ _ _ a w ⟨rfl,rfl,rfl⟩ ab U
   replace U:=eK U
   refine wpList_nil (eO _ _ ?_)
   refine bq ab U (ai rfl<|bX rfl rfl<|ar rfl<|ah) fun a w ab U=>⟨(t+1),?_,?_,ab.sub ⟨rfl,rfl,rfl,trivial⟩,?_⟩
   ·(try dsimp only);omega
   ·(try dsimp only);omega
   ·rw [aK.aey bb t (by omega) (by omega)] at U
    exact U
  ·obtain rfl:t=64:=by omega
   rw [show (64:Int).toNat=64 from rfl] at yt
   rw [show (64:Int).toNat=64 from rfl,aK.Qj] at U
   have jw:=aK.l3 bb 64
   refine wp_exit<|cF _ _<|a8 fun jN fa=>aE ab U (ag (fW gJ 0 rfl rfl aI rfl)<|ah) fun a w ab U=>aH ab U rfl (cA gJ 1 rfl rfl rfl rfl aI bJ aI) ?_
   rintro _ _ _ a w ⟨rfl,rfl,rfl⟩ ab U
   replace U:=eK U
   refine wpList_nil (fa _ _ ?_)
   refine wp_ret<|bR (rs:=[.cell 2 239]) rfl ab U (vs:=[_]) ⟨⟨_,_,_,_,_,_,_,rfl,List.mem_of_getElem? (i:=1) rfl,gJ,.inl ⟨rfl,aI,rfl⟩⟩,trivial⟩ ay ay (rfl)
end
section
theorem VB:bU Tryz.prog 155:=bY Tryz.func155
theorem VC:bU Tryz.prog 156:=bY Tryz.func156
theorem P7(v:Value)(xs:List UInt8)(aL:xs.length<1099511627776)(w:World)(au:bg gE (b1 w) v xs){dK:Nat×Nat}{dJ:TypeId}(dF:w.heap[0]?=some (.cells (aK.ek.map cx).toArray dJ dK)):ch Tryz.prog 123 [v] w (fun r _ _=>r=.agg ((aK.sum xs).map bf).toArray):=by
 refine cI Tryz.func123 rfl Tryz.ntmps123 (Nat.le_of_ble_eq_true rfl) fun a ab U=>?_
 have ak2:∀ b,(aK.hC b 64).length=64:=fun b=>aK.l3 b 64
 have oc:aK.ek.length=64:=rfl
 have akI:=aK.abR xs (by omega)
 have Ze:=aK.On xs.length (by omega)
 have tZ:=aK.Dk xs.length
 have Bp:(xs++aK.pad (di xs.length)).length=xs.length+(1+aK.gW xs.length+8):=by rw [List.length_append,Ze]
 obtain ⟨q,cn⟩:∃ q,(xs++aK.pad (di xs.length)).length=64*q:=⟨(xs++aK.pad (di xs.length)).length/64,by omega⟩
 refine a8 fun dW cR=>aH ab U rfl (c1 hP) ?_
 rintro _ _ _ a w ⟨b6,rfl,rfl,rfl⟩ ab U
 rw [show List.replicate 32 (Value.int .u8 0)=(List.replicate 32 (0:UInt8)).map bf from by rw [List.map_replicate] <;> rfl] at U
 refine wpList_nil (cR _ _ ?_)
 refine a8 fun cm bD=>aE ab U (ag (yQ gI b4 rfl rfl bJ rfl rfl)<|ah) fun a w ab U=>aH ab U rfl (c1 gI) ?_
 rintro _ _ _ a w ⟨dk,rfl,rfl,rfl⟩ ab U
 refine aH ab U rfl (cA gI 0 rfl rfl rfl rfl aI bJ aI) ?_
 rintro _ _ _ a w ⟨rfl,rfl,rfl⟩ ab U
 replace U:=eK U
 refine wpList_nil (bD _ _ ?_)
 refine a8 fun dH cf=>aE ab U (ai rfl<|ah) fun a w ab U=>aH ab U rfl (eB VB rfl (fun w U=>aeZ _ _ (by first | assumption | omega) w (bg.mono (U.le cD) au))) ?_
 rintro v3 _ _ a w ⟨_,_,rfl,rfl,⟨z4,yv,rfl,rfl⟩⟩ ab U
 replace U:=kZ U
 refine aE ab U (ar rfl<|ah) fun a w ab U=>wpList_nil (cf _ _ ?_)
 refine ax fun dP cq=>aB ab U (ar rfl<|ah) fun a w ab U=>wp_block ?_
 obtain ⟨bC,aZ,U⟩:=U.cT
 refine df (γ:=Nat) (0) (fun (i:Nat)=>[(5,az (64*(i:Int)))]) [(2,_),(3,_),(4,_)] (fun (i:Nat)=>(bC.set 0 (.blk dk 221 ((aK.pf (xs++aK.pad (di xs.length)) i).map cx)))) (fun (i:Nat)=>i≤q) (fun (i:Nat)=>q-i) (ab.sub ⟨rfl,rfl,rfl,rfl,trivial⟩) (by subst aZ;exact U) (by exact Nat.zero_le _) ?_
 rintro i a w ba ab U
 subst aZ;(try dsimp only at ba ab U)
 have aj8:=ba
 replace U:=kZ U
 have rX:=aK.Hx (xs++aK.pad (di xs.length)) i
 obtain ⟨a0,fl,a2,a3,a4,a5,jA,jB,F4⟩:=aK.Nn rX
 rw [F4] at U
 refine ax fun et cz=>aB ab U (ai rfl<|ai rfl<|ag (dL bS yv rfl)<|ag (cK rfl rfl)<|ah) fun a w ab U=>b9 ab rfl (fun aS=>?_) (fun aS=>?_)
 ·refine wp_skip<|cz _ _<|ax fun e1 cF=>wp_block ?_
  refine a8 fun fY dg=>aE ab U (ai rfl<|ai rfl<|ai rfl<|bX rfl rfl<|ag (yZ bS bF yv rfl rfl rfl (by omega))<|ag (bQ VC rfl (fun w U=>afd _ _ (by rw [List.length_drop,List.length_take];omega) w (bg.mono (U.le (.inr (by simp))) (bg.cut yv (by omega)))) (fun _ _ _ h=>h))<|ah) fun a w ab U=>aH ab U rfl (c1 gJ) ?_
  rintro _ _ _ a w ⟨JH,rfl,rfl,rfl⟩ ab U
  rw [show List.replicate 64 (Value.int .u32 0)=(List.replicate 64 (0:UInt32)).map cx from by rw [List.map_replicate] <;> rfl] at U
  refine aH ab U rfl (cA gJ 0 rfl rfl rfl rfl aI bJ aI) ?_
  rintro _ _ _ a w ⟨rfl,rfl,rfl⟩ ab U
  replace U:=o7 U
  refine wpList_nil ?_
  rw [show (64*(i:Int)).toNat=64*i by omega,show (64*(i:Int)+64).toNat=64*i+64 by omega,show List.drop (64*i) (List.take (64*i+64) (xs++aK.pad (di xs.length)))=aK.oQ (xs++aK.pad (di xs.length)) i from rfl] at U
  have jw:=aK.l3 (aK.oQ (xs++aK.pad (di xs.length)) i) 64
  refine dg _ _<|hZ mixed aA ab U (ag (fV gI b4 rfl rfl (by omega))<|ag (bc b4 1 rfl rfl rfl rfl)<|ag (fV gI b4 rfl rfl (by omega))<|ag (bc b4 1 rfl rfl rfl rfl)<|ag (fV gI b4 rfl rfl (by omega))<|ag (bc b4 1 rfl rfl rfl rfl)<|ag (fV gI b4 rfl rfl (by omega))<|ag (bc b4 1 rfl rfl rfl rfl)<|ag (fV gI b4 rfl rfl (by omega))<|ag (bc b4 1 rfl rfl rfl rfl)<|ag (fV gI b4 rfl rfl (by omega))<|ag (bc b4 1 rfl rfl rfl rfl)<|ag (fV gI b4 rfl rfl (by omega))<|ag (bc b4 1 rfl rfl rfl rfl)<|ag (fV gI b4 rfl rfl (by omega))<|ag (bc b4 1 rfl rfl rfl rfl)<|ar rfl<|ar rfl<|ar rfl<|ar rfl<|ar rfl<|ar rfl<|ar rfl<|ar rfl<|ah) fun a w ab U=>ax fun gQ dz=>aB ab U (ar rfl<|ah) fun a w ab U=>wp_block ?_
  obtain ⟨bC,aZ,U⟩:=U.cT
  refine df (γ:=UInt32×UInt32×UInt32×UInt32×UInt32×UInt32×UInt32×UInt32×Int) (a0,fl,a2,a3,a4,a5,jA,jB,0) (fun (gK,gB,hG,s7,eN,tc,hJ,iH,t)=>[(7,cx gK),(8,cx gB),(9,cx hG),(10,cx s7),(11,cx eN),(12,cx tc),(13,cx hJ),(14,cx iH),(15,az t)]) [(2,_),(3,_),(4,_),(5,_),(6,_)] (fun (gK,gB,hG,s7,eN,tc,hJ,iH,t)=>bC) (fun (gK,gB,hG,s7,eN,tc,hJ,iH,t)=>0≤t∧t≤64∧aK.rounds (aK.hC (aK.oQ (xs++aK.pad (di xs.length)) i) 64) (a0,fl,a2,a3,a4,a5,jA,jB) t.toNat=(gK,gB,hG,s7,eN,tc,hJ,iH)) (fun (gK,gB,hG,s7,eN,tc,hJ,iH,t)=>(64-t).toNat) (ab.sub ⟨rfl,rfl,rfl,rfl,rfl,rfl,rfl,rfl,rfl,rfl,rfl,rfl,rfl,rfl,trivial⟩) (by subst aZ;exact U) (by exact ⟨Int.le_refl _,by omega,rfl⟩) ?_
  rintro ⟨gK,gB,hG,s7,eN,tc,hJ,iH,t⟩ a w ba ab U
  subst aZ;(try dsimp only at ba ab U)
  obtain ⟨Bx,Gg,fH⟩:=ba
  replace U:=o7 U
  refine ax fun iv eD=>aB ab U (ai rfl<|ag (cK rfl rfl)<|ah) fun a w ab U=>b9 ab rfl (fun bs=>?_) (fun bs=>?_)
  ·refine wp_skip<|eD _ _<|ax fun jN fa=>wp_block ?_
   refine hZ mixed aA ab U (ai rfl<|ai rfl<|ag (bQ pF rfl (fun w U=>p5 _ _ (by omega) w ) (fun _ _ _ h=>h))<|ai rfl<|ag (bQ pF rfl (fun w U=>p5 _ _ (by omega) w ) (fun _ _ _ h=>h))<|ag (jV rfl rfl)<|ai rfl<|ag (bQ pF rfl (fun w U=>p5 _ _ (by omega) w ) (fun _ _ _ h=>h))<|ag (jV rfl rfl)<|ag (hN rfl rfl)<|ai rfl<|ai rfl<|ag (p0 rfl rfl)<|ai rfl<|ag (jV (q:=4294967295) rfl rfl)<|ai rfl<|ag (p0 rfl rfl)<|ag (jV rfl rfl)<|ag (hN rfl rfl)<|ai rfl<|ag (hn gJ b4 rfl rfl (by omega))<|ag (adB b4 0 rfl dF aI rfl)<|ag (hN rfl rfl)<|ai rfl<|ag (hn gJ b4 rfl rfl (by omega))<|ag (jI b4 0 0 rfl rfl aI rfl)<|ag (hN rfl rfl)<|ar rfl<|ah) fun a w ab U=>aB ab U (ai rfl<|ag (bQ pF rfl (fun w U=>p5 _ _ (by omega) w ) (fun _ _ _ h=>h))<|ai rfl<|ag (bQ pF rfl (fun w U=>p5 _ _ (by omega) w ) (fun _ _ _ h=>h))<|ag (jV rfl rfl)<|ai rfl<|ag (bQ pF rfl (fun w U=>p5 _ _ (by omega) w ) (fun _ _ _ h=>h))<|ag (jV rfl rfl)<|ai rfl<|ai rfl<|ag (p0 rfl rfl)<|ai rfl<|ai rfl<|ag (p0 rfl rfl)<|ag (jV rfl rfl)<|ai rfl<|ai rfl<|ag (p0 rfl rfl)<|ag (jV rfl rfl)<|ag (hN rfl rfl)<|ar rfl<|ah) fun a w ab U=>aB ab U (ai rfl<|ar rfl<|ah) fun a w ab U=>aB ab U (ai rfl<|ar rfl<|ah) fun a w ab U=>aB ab U (ai rfl<|ar rfl<|ah) fun a w ab U=>?_
   refine aB ab U (ai rfl<|ai rfl<|ag (hN rfl rfl)<|ar rfl<|ah) fun a w ab U=>aB ab U (ai rfl<|ar rfl<|ah) fun a w ab U=>aB ab U (ai rfl<|ar rfl<|ah) fun a w ab U=>aB ab U (ai rfl<|ar rfl<|ah) fun a w ab U=>bq ab U (ai rfl<|ai rfl<|ag (hN rfl rfl)<|ar rfl<|ah) fun a w ab U=>?_
   refine fa _ _<|bq ab U (ai rfl<|bX rfl rfl<|ar rfl<|ah) fun a w ab U=>?_
   simp only [aK.ahz] at ab
   refine ⟨(_,_,_,_,_,_,_,_,t+1),?_,?_,ab.sub ⟨rfl,rfl,rfl,rfl,rfl,rfl,rfl,rfl,rfl,rfl,rfl,rfl,rfl,rfl,trivial⟩,?_⟩
   ·(try dsimp only);omega
   ·refine ⟨by omega,by omega,?_⟩
    rw [aK.rounds_succ _ _ t Bx,fH]
    rfl
   ·exact U
  ·obtain rfl:t=64:=by omega
   rw [show (64:Int).toNat=64 from rfl] at fH
   refine wp_exit<|dz _ _<|du ?_
   refine aE ab U (ag (fV gI b4 rfl rfl (by omega))<|ag (bc b4 1 rfl rfl rfl rfl)<|ai rfl<|ag (hN rfl rfl)<|ag (fV gI b4 rfl rfl (by omega))<|ag (bc b4 1 rfl rfl rfl rfl)<|ai rfl<|ag (hN rfl rfl)<|ag (fV gI b4 rfl rfl (by omega))<|ag (bc b4 1 rfl rfl rfl rfl)<|ai rfl<|ag (hN rfl rfl)<|ag (fV gI b4 rfl rfl (by omega))<|ag (bc b4 1 rfl rfl rfl rfl)<|ai rfl<|ag (hN rfl rfl)<|ag (fV gI b4 rfl rfl (by omega))<|ag (bc b4 1 rfl rfl rfl rfl)<|ai rfl<|ag (hN rfl rfl)<|ag (fV gI b4 rfl rfl (by omega))<|ag (bc b4 1 rfl rfl rfl rfl)<|ai rfl<|ag (hN rfl rfl)<|ag (fV gI b4 rfl rfl (by omega))<|ag (bc b4 1 rfl rfl rfl rfl)<|ai rfl<|ag (hN rfl rfl)<|ag (fV gI b4 rfl rfl (by omega))<|ag (bc b4 1 rfl rfl rfl rfl)<|ai rfl<|ag (hN rfl rfl)<|ag (yQ gI b4 rfl rfl bJ rfl rfl)<|ah) fun a w ab U=>aH ab U rfl (cA gI 1 rfl rfl rfl rfl aI bJ aI) ?_
   rintro _ _ _ a w ⟨rfl,rfl,rfl⟩ ab U
   replace U:=o7 U
   refine wpList_nil (cF _ _ ?_)
   refine bq ab U (ai rfl<|bX rfl rfl<|ar rfl<|ah) fun a w ab U=>?_
   rw [show (64*(i:Int)+64)=64*((i+1:Nat):Int) by omega] at ab
   replace U:=U.ak ae (ae.n)
   refine ⟨(i+1),?_,?_,ab.sub ⟨rfl,rfl,rfl,rfl,trivial⟩,?_⟩
   ·(try dsimp only);omega
   ·(try dsimp only);omega
   ·have e:aK.pf (xs++aK.pad (di xs.length)) (i+1)=[a0+gK,fl+gB,a2+hG,a3+s7,a4+eN,a5+tc,jA+hJ,jB+iH]:=by
     show aK.comp (aK.pf (xs++aK.pad (di xs.length)) i) (aK.oQ (xs++aK.pad (di xs.length)) i)=_
     rw [F4]
     show List.zipWith (· + ·) [a0,fl,a2,a3,a4,a5,jA,jB] (aK.BL (aK.rounds (aK.hC (aK.oQ (xs++aK.pad (di xs.length)) i) 64) (a0,fl,a2,a3,a4,a5,jA,jB) 64))=_
     rw [fH]
     rfl
    rw [e]
    exact U
 ·obtain rfl:i=q:=by omega
  rw [← F4] at U
  have cw:=aK.age xs (by omega) i cn
  refine wp_exit<|cq _ _<|a8 fun Dt tq=>aH ab U rfl (c1 hP) ?_
  rintro _ _ _ a w ⟨Ah,rfl,rfl,rfl⟩ ab U
  rw [show List.replicate 32 (Value.int .u8 0)=(List.replicate 32 (0:UInt8)).map bf from by rw [List.map_replicate] <;> rfl] at U
  refine wpList_nil (tq _ _ ?_)
  refine ax fun Du tt=>aB ab U (ar rfl<|ah) fun a w ab U=>wp_block ?_
  obtain ⟨bC,aZ,U⟩:=U.cT
  refine df (γ:=Int) (0) (fun (j:Int)=>[(19,az j)]) [(2,_),(3,_),(18,_)] (fun (j:Int)=>(bC.set 0 (.blk Ah 182 ((aK.o8 (aK.pf (xs++aK.pad (di xs.length)) i) j.toNat).map bf)))) (fun (j:Int)=>0≤j∧j≤32) (fun (j:Int)=>(32-j).toNat) (ab.sub ⟨rfl,rfl,rfl,rfl,trivial⟩) (by subst aZ;exact U) (by simp) ?_
  rintro j a w ba ab U
  subst aZ;(try dsimp only at ba ab U)
  obtain ⟨rS,pL⟩:=ba
  replace U:=o7 U
  have Br:=aK.Of (aK.pf (xs++aK.pad (di xs.length)) i) j.toNat
  have akZ:=aK.Hx (xs++aK.pad (di xs.length)) i
  refine ax fun IQ xR=>aB ab U (ai rfl<|ag (cK rfl rfl)<|ah) fun a w ab U=>b9 ab rfl (fun b7=>?_) (fun b7=>?_)
  ·refine wp_skip<|xR _ _<|ax fun IS vm=>wp_block ?_
   refine du<|aE ab U (ai rfl<|ai rfl<|ag (nL rfl rfl (by omega))<|ag (hn gI b4 rfl rfl (by omega))<|ag (jI b4 1 0 rfl rfl aI rfl)<|ai rfl<|ag (mI rfl rfl (by omega))<|ag (hd rfl rfl (by omega))<|e2 rfl rfl<|ag (sm rfl rfl (by omega))<|ag (OJ b4 bF rfl)<|ag (hn hP bF rfl rfl (by omega))<|ah) fun a w ab U=>aH ab U rfl (qu bF 0 rfl rfl rfl aI rfl) ?_
   rintro _ _ _ a w ⟨rfl,rfl,rfl⟩ ab U
   replace U:=o7 U
   refine wpList_nil (vm _ _ ?_)
   refine bq ab U (ai rfl<|bX rfl rfl<|ar rfl<|ah) fun a w ab U=>⟨(j+1),?_,?_,ab.sub ⟨rfl,rfl,rfl,rfl,trivial⟩,?_⟩
   ·(try dsimp only);omega
   ·(try dsimp only);omega
   ·rw [aK.JS _ j ⟨rS,by omega⟩,aK.Og _ _ (by omega),show j.toNat+1=(j+1).toNat by omega] at U
    exact U
  ·obtain rfl:j=32:=by omega
   rw [show (32:Int).toNat=32 from rfl,aK.Oe,← cw] at U
   have yg:=aK.ow xs
   refine wp_exit<|tt _ _<|a8 fun Sb Fj=>aE ab U (ag (fW hP 0 rfl rfl aI rfl)<|ah) fun a w ab U=>aH ab U rfl (cA hP 2 rfl rfl rfl rfl aI bJ aI) ?_
   rintro _ _ _ a w ⟨rfl,rfl,rfl⟩ ab U
   replace U:=o7 U
   refine wpList_nil (Fj _ _ ?_)
   refine wp_ret<|bR (rs:=[.cell 2 182]) rfl ab U (vs:=[_]) ⟨⟨_,_,_,_,_,_,_,rfl,List.mem_of_getElem? (i:=2) rfl,hP,.inl ⟨rfl,aI,rfl⟩⟩,trivial⟩ ay ay (rfl)
end
section
theorem HG(xs:List UInt8)(aL:xs.length=16)(w:World):ch Tryz.prog 120 [.agg (xs.map bf).toArray] w (fun r _ _=>r=vs xs):=by
 refine cI Tryz.func120 rfl Tryz.ntmps120 (Nat.le_of_ble_eq_true rfl) fun a ab U=>a8 fun dW cR=>aH ab U rfl (iT rfl) ?_
 rintro _ _ _ a w ⟨b6,rfl,rfl,rfl⟩ ab U
 refine aE ab U (ar rfl<|ah) fun a w ab U=>wpList_nil (cR _ _ ?_)
 refine ax fun cm bD=>bq ab U (ar rfl<|ah) fun a w ab U=>?_
 replace U:=U.hV 5 1
 refine bD _ _<|ax fun dH cf=>aB ab U (ar rfl<|ah) fun a w ab U=>wp_block ?_
 obtain ⟨bC,aZ,U⟩:=U.cT
 refine df (γ:=Value×Int) ((Value.slice none 0 0),0) (fun (v,i)=>[(3,v),(4,az i)]) [(1,_)] (fun (v,i)=>(bC.set 0 (.row v 5 1 i.toNat ((xs.take i.toNat).map bf)))) (fun (v,i)=>0≤i∧i≤16) (fun (v,i)=>(16-i).toNat) (ab.sub ⟨rfl,rfl,rfl,trivial⟩) (by subst aZ;exact U) (by simp) ?_
 rintro ⟨v,i⟩ a w ba ab U
 subst aZ;(try dsimp only at ba ab U)
 obtain ⟨eu,j8⟩:=ba
 replace U:=eK U
 refine ax fun dw b3=>aB ab U (ai rfl<|ag (cK rfl rfl)<|ah) fun a w ab U=>b9 ab rfl (fun aS=>?_) (fun aS=>?_)
 ·refine wp_skip<|b3 _ _<|ax fun eU cO=>wp_block ?_
  refine du<|aE ab U (ai rfl<|ai rfl<|ag (hn cW bF rfl rfl (by omega))<|ag (jI bF 1 0 rfl rfl aI rfl)<|ah) fun a w ab U=>aH ab U rfl (dX bS bF rfl rfl bJ (by decide) rfl rfl) ?_
  rintro v3 _ _ a w ⟨rfl,rfl⟩ ab U
  replace U:=ez U
  refine aH ab U rfl (dB bS bF 1 rfl rfl rfl (eA bS (k:=0) rfl bJ) aI rfl (by decide)) ?_
  rintro v5 _ _ a w ⟨rfl,rfl⟩ ab U
  replace U:=ez U
  refine aE ab U (ar rfl<|ah) fun a w ab U=>wpList_nil (cO _ _ ?_)
  refine bq ab U (ai rfl<|bX rfl rfl<|ar rfl<|ah) fun a w ab U=>?_
  replace U:=U.ak ay (ae.n)
  refine ⟨(v5,i+1),?_,?_,ab.sub ⟨rfl,rfl,rfl,trivial⟩,?_⟩
  ·(try dsimp only);omega
  ·(try dsimp only);omega
  ·have e:(xs.take i.toNat).map bf++[bf (xs.getD i.toNat 0)]=(xs.take (i+1).toNat).map bf:=by rw [show (i+1).toNat=i.toNat+1 by omega,List.take_add_one,List.getElem?_eq_getElem (by omega),List.map_append,List.getD_eq_getElem?_getD,List.getElem?_eq_getElem (by omega)];rfl
   rw [e,show i.toNat+1=(i+1).toNat by omega] at U
   exact U
 ·obtain rfl:i=16:=by omega
  rw [show (16:Int).toNat=16 from rfl,List.take_of_length_le (by omega)] at U
  refine wp_exit<|cf _ _<|aB ab U (ai rfl<|ag (mF bS bz bF 0 rfl rfl)<|ar rfl<|ah) fun a w ab U=>wp_ret ?_
  exact bR (rs:=[.tmp 2]) rfl ab U (vs:=[_]) ⟨rfl,trivial⟩ ay ay (rfl)
end
section
attribute [local irreducible] aK.sum aK.keyOf aK.yM aK.pU
end
section
attribute [local irreducible] aK.sum aK.keyOf aK.yM aK.pU
end
section
theorem KW:bU Tryz.prog 123:=bY Tryz.func123
attribute [local irreducible] aK.sum aK.nX
theorem ae4(v:Value)(xs:List UInt8)(aL:xs.length<1099511627776)(w:World)(au:bg gE (b1 w) v xs){dK:Nat×Nat}{dJ:TypeId}(dF:w.heap[0]?=some (.cells (aK.ek.map cx).toArray dJ dK)):ch Tryz.prog 79 [v] w (fun r _ _=>r=.agg (((aK.sum xs).take 16).map bf).toArray):=by
 refine cI Tryz.func79 rfl Tryz.ntmps79 (Nat.le_of_ble_eq_true rfl) fun a ab U=>?_
 have jw:=aK.ow xs
 refine a8 fun dW cR=>aH ab U rfl (c1 cW) ?_
 rintro _ _ _ a w ⟨b6,rfl,rfl,rfl⟩ ab U
 rw [show List.replicate 16 (Value.int .u8 0)=(List.replicate 16 (0:UInt8)).map bf from by rw [List.map_replicate] <;> rfl] at U
 refine wpList_nil (cR _ _ ?_)
 refine a8 fun cm bD=>aE ab U (ai rfl<|ag (bQ KW rfl (fun w U=>P7 _ _ (by first | assumption | omega) w (bg.mono (U.le cD) au) (U.ext _ _ dF)) (fun _ _ _ h=>h))<|ah) fun a w ab U=>aH ab U rfl (c1 hP) ?_
 rintro _ _ _ a w ⟨dk,rfl,rfl,rfl⟩ ab U
 rw [show List.replicate 32 (Value.int .u8 0)=(List.replicate 32 (0:UInt8)).map bf from by rw [List.map_replicate] <;> rfl] at U
 refine aH ab U rfl (cA hP 0 rfl rfl rfl rfl aI bJ aI) ?_
 rintro _ _ _ a w ⟨rfl,rfl,rfl⟩ ab U
 replace U:=eK U
 refine wpList_nil (bD _ _ ?_)
 refine a8 fun dH cf=>aE ab U (ag (oo rfl (q1 cW bF (cells:=List.replicate 16 (Value.int .u8 0)) rfl))<|ah) fun a w ab U=>aH ab U rfl (c1 cW) ?_
 rintro _ _ _ a w ⟨kz,rfl,rfl,rfl⟩ ab U
 rw [show List.replicate 16 (Value.int .u8 0)=(List.replicate 16 (0:UInt8)).map bf from by rw [List.map_replicate] <;> rfl] at U
 refine aH ab U rfl (cA cW 0 rfl rfl rfl rfl aI bJ aI) ?_
 rintro _ _ _ a w ⟨rfl,rfl,rfl⟩ ab U
 replace U:=ez U
 refine wpList_nil (cf _ _ ?_)
 refine ax fun dP cq=>aB ab U (ar rfl<|ah) fun a w ab U=>wp_block ?_
 obtain ⟨bC,aZ,U⟩:=U.cT
 refine df (γ:=Int) (0) (fun (i:Int)=>[(5,az i)]) [(2,_),(3,_),(4,_)] (fun (i:Int)=>(bC.set 0 (.blk kz 62 ((aK.nX (aK.sum xs) 16 i.toNat).map bf)))) (fun (i:Int)=>0≤i∧i≤16) (fun (i:Int)=>(16-i).toNat) (ab.sub ⟨rfl,rfl,rfl,rfl,trivial⟩) (by subst aZ;have e:(aK.nX (aK.sum xs) 16 (0:Int).toNat).map bf=List.replicate 16 (Value.int .u8 0):=(congrArg (List.map bf) (aK.TY (aK.sum xs) 16)).trans (by rw [List.map_replicate];rfl);rw [← e] at U;exact U) (by simp) ?_
 rintro i a w ba ab U
 subst aZ;(try dsimp only at ba ab U)
 obtain ⟨eu,j8⟩:=ba
 replace U:=ez U
 have fb:=aK.TZ (aK.sum xs) 16 i.toNat (by omega) (by omega)
 refine ax fun et cz=>aB ab U (ai rfl<|ag (cK rfl rfl)<|ah) fun a w ab U=>b9 ab rfl (fun aS=>?_) (fun aS=>?_)
 ·refine wp_skip<|cz _ _<|ax fun e1 cF=>wp_block ?_
  refine du<|aE ab U (ai rfl<|ai rfl<|ag (hn hP bF rfl rfl (by omega))<|ag (jI bF 1 0 rfl rfl aI rfl)<|ag (hn cW bF rfl rfl (by omega))<|ah) fun a w ab U=>aH ab U rfl (qu bF 0 rfl rfl rfl aI rfl) ?_
  rintro _ _ _ a w ⟨rfl,rfl,rfl⟩ ab U
  replace U:=ez U
  refine wpList_nil (cF _ _ ?_)
  refine bq ab U (ai rfl<|bX rfl rfl<|ar rfl<|ah) fun a w ab U=>⟨(i+1),?_,?_,ab.sub ⟨rfl,rfl,rfl,rfl,trivial⟩,?_⟩
  ·(try dsimp only);omega
  ·(try dsimp only);omega
  ·rw [aK.T0 _ _ _ (by omega) (by omega),show i.toNat+1=(i+1).toNat by omega] at U
   exact U
 ·obtain rfl:i=16:=by omega
  rw [show (16:Int).toNat=16 from rfl] at fb
  rw [show (16:Int).toNat=16 from rfl,aK.J0] at U
  rw [aK.J0] at fb
  refine wp_exit<|cq _ _<|a8 fun fY dg=>aE ab U (ag (fW cW 0 rfl rfl aI rfl)<|ah) fun a w ab U=>aH ab U rfl (cA cW 2 rfl rfl rfl rfl aI bJ aI) ?_
  rintro _ _ _ a w ⟨rfl,rfl,rfl⟩ ab U
  replace U:=ez U
  refine wpList_nil (dg _ _ ?_)
  refine wp_ret<|bR (rs:=[.cell 2 62]) rfl ab U (vs:=[_]) ⟨⟨_,_,_,_,_,_,_,rfl,List.mem_of_getElem? (i:=2) rfl,cW,.inl ⟨rfl,aI,rfl⟩⟩,trivial⟩ ay ay (rfl)
end
section
theorem Cy(n:Int)(bA : -9223372036854775808≤n∧n≤9223372036854775807)(w:World):ch Tryz.prog 54 [az n] w (fun v zs hs=>zs=[]∧hs=[.row v 5 1 (aF.int n).length ((aF.int n).map bf)]):=by
 refine cI Tryz.func54 rfl Tryz.ntmps54 (Nat.le_of_ble_eq_true rfl) fun a ab U=>?_
 have tN:=aF.GM n bA
 have akM:=aF.B0 (aF.dT n)
 refine aB ab U (ar rfl<|ah) fun a w ab U=>aB ab U (ai rfl<|ar rfl<|ah) fun a w ab U=>?_
 obtain ⟨bC,aZ,U⟩:=U.cT
 refine lK (γ:=Int) (fun (m:Int)=>[(3,az m)]) [(0,_)] (fun (m:Int)=>bC) (fun (m:Int)=>m=((aF.dT n).toNat:Int)) (ab.sub ⟨rfl,trivial⟩) U ?_ ?_
 ·subst aZ
  refine aB ab U (ai rfl<|ag (cK rfl rfl)<|ah) fun a w ab U=>b9 ab rfl (fun aS=>?_) (fun aS=>?_)
  ·refine bq ab U (ai rfl<|e2 rfl rfl<|ar rfl<|ah) fun a w ab U=>⟨(-1-n),?_,ab.sub ⟨rfl,rfl,trivial⟩,?_⟩
   ·rw [tN];unfold aF.qP;rw [if_pos aS]
   ·exact U
  ·refine wp_skip<|⟨(n),?_,ab.sub ⟨rfl,rfl,trivial⟩,?_⟩
   ·rw [tN];unfold aF.qP;rw [if_neg aS]
   ·exact U
 rintro m a w ba ab U
 subst aZ;(try dsimp only at ba ab U)
 have hm:=ba
 replace U:=hM U
 refine ax fun dP cq=>bq ab U (ar rfl<|ah) fun a w ab U=>?_
 replace U:=U.hV 5 1
 refine cq _ _<|ax fun dw b3=>wp_block ?_
 obtain ⟨bC,aZ,U⟩:=U.cT
 refine df (γ:=Value×Int×Nat) ((Value.slice none 0 0),m,0) (fun (v,m,j)=>[(4,v),(3,az m)]) [(0,_)] (fun (v,m,j)=>(bC.set 0 (.row v 5 1 j ((aF.nY (aF.dT n).toNat j).map bf)))) (fun (v,m,j)=>m=(((aF.dT n).toNat/2^(8*j):Nat):Int)∧(∀ i,i<j→0<(aF.dT n).toNat/2^(8*i))) (fun (v,m,j)=>m.toNat) (ab.sub ⟨rfl,rfl,rfl,trivial⟩) (by subst aZ;exact U) (by exact ⟨by rw [hm];simp,fun i h=>absurd h (Nat.not_lt_zero _)⟩) ?_
 rintro ⟨v,m,j⟩ a w ba ab U
 subst aZ;(try dsimp only at ba ab U)
 obtain ⟨hm,a6⟩:=ba
 replace U:=eJ U
 have Bl:=aF.ab6 _ _ a6
 have Yk:=aF.Ud (aF.dT n).toNat (2^(8*j))
 rw [← hm] at Yk
 have akJ:0≤m∧m≤9223372036854775807:=by
  have yb:0≤m:=by rw [hm];exact Int.natCast_nonneg _
  unfold aF.qP at tN
  split at tN <;> exact ⟨yb,by omega⟩
 refine ax fun et cz=>aB ab U (ai rfl<|ag (eQ rfl rfl)<|ah) fun a w ab U=>b9 ab rfl (fun bs=>?_) (fun bs=>?_)
 ·refine wp_skip<|cz _ _<|wp_block ?_
  refine a8 fun e1 cF=>aE ab U (ai rfl<|ai rfl<|ag (mI rfl rfl (by omega))<|ag (qW bG bF rfl)<|ah) fun a w ab U=>aH ab U rfl (dX bS bF rfl rfl bJ (by decide) rfl rfl) ?_
  rintro v2 _ _ a w ⟨rfl,rfl⟩ ab U
  replace U:=eK U
  refine aH ab U rfl (dB bS bF 1 rfl rfl rfl (eA bS (k:=0) rfl bJ) aI rfl (by decide)) ?_
  rintro v4 _ _ a w ⟨rfl,rfl⟩ ab U
  replace U:=eK U
  refine aE ab U (ar rfl<|ah) fun a w ab U=>wpList_nil (cF _ _ ?_)
  refine bq ab U (ai rfl<|ag (nL rfl rfl (by omega))<|ar rfl<|ah) fun a w ab U=>?_
  replace U:=U.ak ay (ae.n)
  refine ⟨(v4,m/256,j+1),?_,?_,ab.sub ⟨rfl,rfl,rfl,trivial⟩,?_⟩
  ·(try dsimp only);omega
  ·refine ⟨aF.Uf _ _ _ hm,fun i aG=>?_⟩
   rcases Nat.lt_or_ge i j with h | h
   ·exact a6 i h
   ·obtain rfl:i=j:=by omega
    omega
  ·have e:(aF.nY (aF.dT n).toNat j).map bf++[bf (hb (m%256))]=(aF.nY (aF.dT n).toNat (j+1)).map bf:=by rw [← aF.T8 _ _ _ hm,List.map_append];rfl
   rw [e] at U
   exact U
 ·have aD:=aF.NZ (aF.dT n) j (by omega) a6
  obtain ⟨k,YP⟩:∃ k,k=j:=⟨_,rfl⟩
  subst YP
  refine wp_exit<|b3 _ _<|aB ab U (ai rfl<|ag (hX bS 0 rfl rfl)<|ar rfl<|ah) fun a w ab U=>ax fun hE dS=>bq ab U (ar rfl<|ah) fun a w ab U=>?_
  replace U:=U.hV 5 1
  refine dS _ _ ?_
  obtain ⟨bC,aZ,U⟩:=U.cT
  refine lK (γ:=Value) (fun (u:Value)=>[(6,u)]) [(0,_),(4,_),(5,_)] (fun (u:Value)=>(bC.set 0 (.row u 5 1 1 [bf (UInt8.ofNat (128+k) ^^^ aF.fZ n)]))) (fun (u:Value)=>True) (ab.sub ⟨rfl,rfl,rfl,trivial⟩) U ?_ ?_
  ·subst aZ
   refine aB ab U (ai rfl<|ag (jH rfl rfl)<|ah) fun a w ab U=>b9 ab rfl (fun b7=>?_) (fun b7=>?_)
   ·refine du<|aE ab U (ai rfl<|ai rfl<|bX rfl rfl<|ag (qW bG bF rfl)<|ah) fun a w ab U=>aH ab U rfl (dX bS bF rfl rfl bJ (by decide) rfl rfl) ?_
    rintro v6 _ _ a w ⟨rfl,rfl⟩ ab U
    replace U:=ez U
    refine aH ab U rfl (dB bS bF 1 rfl rfl rfl (eA bS (k:=0) rfl bJ) aI rfl (by decide)) ?_
    rintro sz _ _ a w ⟨rfl,rfl⟩ ab U
    replace U:=ez U
    refine aE ab U (ar rfl<|ah) fun a w ab U=>wpList_nil ?_
    replace U:=(U.perm (.swap _ _ _)).perm hF
    replace U:=U.ak ay (ay.k.k)
    refine ⟨(sz),?_,ab.sub ⟨rfl,rfl,rfl,rfl,trivial⟩,?_⟩
    ·trivial
    ·rw [show (128:Int)+(k:Int)=((128+k:Nat):Int) by omega,aF.B7] at U
     unfold aF.fZ
     rw [if_neg (by omega),UInt8.xor_zero]
     exact U
   ·refine du<|aE ab U (ai rfl<|ai rfl<|e2 rfl rfl<|ag (qW bG bF rfl)<|ah) fun a w ab U=>aH ab U rfl (dX bS bF rfl rfl bJ (by decide) rfl rfl) ?_
    rintro v9 _ _ a w ⟨rfl,rfl⟩ ab U
    replace U:=ez U
    refine aH ab U rfl (dB bS bF 1 rfl rfl rfl (eA bS (k:=0) rfl bJ) aI rfl (by decide)) ?_
    rintro v11 _ _ a w ⟨rfl,rfl⟩ ab U
    replace U:=ez U
    refine aE ab U (ar rfl<|ah) fun a w ab U=>wpList_nil ?_
    replace U:=(U.perm (.swap _ _ _)).perm hF
    replace U:=U.ak ay (ay.k.k)
    refine ⟨(v11),?_,ab.sub ⟨rfl,rfl,rfl,rfl,trivial⟩,?_⟩
    ·trivial
    ·rw [aF.Yt k (by omega)] at U
     unfold aF.fZ
     rw [if_pos (by omega)]
     exact U
  rintro u a w ba ab U
  subst aZ;(try dsimp only at ba ab U)
  obtain - := ba
  replace U:=eK U
  refine ax fun iE eO=>aB ab U (ai rfl<|e2 rfl rfl<|ar rfl<|ah) fun a w ab U=>wp_block ?_
  obtain ⟨bC,aZ,U⟩:=U.cT
  refine df (γ:=Value×Nat) (u,k) (fun (u,i)=>[(6,u),(7,az ((i:Int)-1))]) [(0,_),(4,_)] (fun (u,i)=>(bC.set 0 (.row u 5 1 (1+(k-i)) (((UInt8.ofNat (128+k) ^^^ aF.fZ n)::aF.ha (aF.dT n) (aF.fZ n) k i).map bf)))) (fun (u,i)=>i≤k) (fun (u,i)=>i) (ab.sub ⟨rfl,rfl,rfl,rfl,trivial⟩) (by subst aZ;simpa [aF.ha] using U) (by exact Nat.le_refl _) ?_
  rintro ⟨u,i⟩ a w ba ab U
  subst aZ;(try dsimp only at ba ab U)
  have rQ:=ba
  replace U:=eK U
  have rO:=aF.J2 (aF.dT n).toNat k
  refine ax fun kM gr=>aB ab U (ai rfl<|ag (jH rfl rfl)<|ah) fun a w ab U=>b9 ab rfl (fun dr=>?_) (fun dr=>?_)
  ·refine wp_skip<|gr _ _<|ax fun mc hh=>wp_block ?_
   refine aB ab U (ai rfl<|ai rfl<|ag (ft bS bF 1 rfl rfl rfl (by omega))<|ag (lE bF 1 (0:UInt8) rfl rfl aI rfl)<|ar rfl<|ah) fun a w ab U=>?_
   obtain ⟨bC,aZ,U⟩:=U.cT
   refine lK (γ:=UInt8) (fun (d:UInt8)=>[(8,bf d)]) [(0,_),(4,_),(6,_),(7,_)] (fun (d:UInt8)=>bC) (fun (d:UInt8)=>d=aF.digit (aF.dT n) (aF.fZ n) (i-1)) (ab.sub ⟨rfl,rfl,rfl,rfl,trivial⟩) U ?_ ?_
   ·subst aZ
    refine aB ab U (ai rfl<|ag (cK rfl rfl)<|ah) fun a w ab U=>b9 ab rfl (fun dm=>?_) (fun dm=>?_)
    ·refine bq ab U (ai rfl<|ag (ad4 (p:=255) rfl rfl)<|ar rfl<|ah) fun a w ab U=>⟨(255-(aF.nY (aF.dT n).toNat k).getD ((i:Int)-1).toNat 0),?_,ab.sub ⟨rfl,rfl,rfl,rfl,rfl,trivial⟩,?_⟩
     ·rw [aF.U0,aF.J1 _ _ _ (by omega),show ((i:Int)-1).toNat=i-1 by omega];unfold aF.digit aF.fZ;rw [if_pos (by omega)]
     ·exact U
    ·refine wp_skip<|⟨((aF.nY (aF.dT n).toNat k).getD ((i:Int)-1).toNat 0),?_,ab.sub ⟨rfl,rfl,rfl,rfl,rfl,trivial⟩,?_⟩
     ·rw [aF.J1 _ _ _ (by omega),show ((i:Int)-1).toNat=i-1 by omega];unfold aF.digit aF.fZ;rw [if_neg (by omega),UInt8.xor_zero]
     ·exact U
   rintro d a w ba ab U
   subst aZ;(try dsimp only at ba ab U)
   have aT:=ba
   replace U:=eK U
   refine du<|aE ab U (ai rfl<|ai rfl<|ah) fun a w ab U=>aH ab U rfl (dX bS bF rfl rfl bJ (by decide) rfl rfl) ?_
   rintro v12 _ _ a w ⟨rfl,rfl⟩ ab U
   replace U:=ez U
   refine aH ab U rfl (dB bS bF 1 rfl rfl rfl (eA bS (k:=0) rfl bJ) aI rfl (by decide)) ?_
   rintro Ik _ _ a w ⟨rfl,rfl⟩ ab U
   replace U:=ez U
   refine aE ab U (ar rfl<|ah) fun a w ab U=>wpList_nil (hh _ _ ?_)
   refine bq ab U (ai rfl<|e2 rfl rfl<|ar rfl<|ah) fun a w ab U=>?_
   rw [show (i:Int)-1-1=((i-1:Nat):Int)-1 by omega] at ab
   replace U:=U.ak ay (ae.n)
   refine ⟨(Ik,i-1),?_,?_,ab.sub ⟨rfl,rfl,rfl,rfl,trivial⟩,?_⟩
   ·(try dsimp only);omega
   ·(try dsimp only);omega
   ·subst aT
    have e:((UInt8.ofNat (128+k) ^^^ aF.fZ n)::aF.ha (aF.dT n) (aF.fZ n) k i).map bf++[bf (aF.digit (aF.dT n) (aF.fZ n) (i-1))]=((UInt8.ofNat (128+k) ^^^ aF.fZ n)::aF.ha (aF.dT n) (aF.fZ n) k (i-1)).map bf:=by rw [← aF.J5 _ _ k (i-1) (by omega),show i-1+1=i by omega];simp
    rw [e,show 1+(k-i)+1=1+(k-(i-1)) by omega] at U
    exact U
  ·obtain rfl:i=0:=by omega
   have e:((UInt8.ofNat (128+k) ^^^ aF.fZ n)::aF.ha (aF.dT n) (aF.fZ n) k 0)=aF.int n:=by rw [aD];rfl
   have el:1+(k-0)=(aF.int n).length:=by rw [← e];simp [aF.xC];omega
   rw [e,el] at U
   refine wp_exit<|eO _ _<|aB ab U (ai rfl<|ar rfl<|ah) fun a w ab U=>wp_ret ?_
   exact bR (rs:=[.tmp 2]) rfl ab U (vs:=[_]) ⟨rfl,trivial⟩ ay (List.Sublist.cons_cons _ ay) ⟨rfl,rfl⟩
end
section
theorem AR:bU Tryz.prog 54:=bY Tryz.func54
attribute [local irreducible] aK.sum aF.int
theorem Ht(t:List UInt8)(aM:t.length<1099511627776)(w:World):ch Tryz.prog 55 [vs t] w (fun v zs hs=>zs=[]∧hs=[.row v 5 1 (aF.bytes t).length ((aF.bytes t).map bf)]):=by
 refine cI Tryz.func55 rfl Tryz.ntmps55 (Nat.le_of_ble_eq_true rfl) fun a ab U=>?_
 have oa:=aF.od t.length
 refine aB ab U (ar rfl<|ah) fun a w ab U=>a8 fun cm bD=>aE ab U (ai rfl<|ag (hB bz rfl)<|ah) fun a w ab U=>aH ab U rfl (eB AR rfl (fun w U=>Cy _ (by omega) w )) ?_
 rintro v1 _ _ a w ⟨_,_,rfl,rfl,rfl,rfl⟩ ab U
 replace U:=eJ U
 refine aE ab U (ai rfl<|ah) fun a w ab U=>aH ab U rfl (s8 bz bS bF rfl (by omega)) ?_
 rintro v3 _ _ a w ⟨z4,rfl,rfl,yv⟩ ab U
 refine aH ab U rfl (dB bS bF 0 rfl rfl rfl (CJ bS yv (.inr (by simp))) aI rfl (by decide)) ?_
 rintro v6 _ _ a w ⟨rfl,rfl⟩ ab U
 replace U:aC _ [_] [_] _:=U
 refine aE ab U (ar rfl<|ah) fun a w ab U=>wpList_nil (bD _ _ ?_)
 refine wp_ret ?_
 rw [← List.map_append,show (aF.int t.length).length+t.length=(aF.bytes t).length by simp [aF.bytes]] at U
 exact bR (rs:=[.tmp 2]) rfl ab U (vs:=[_]) ⟨rfl,trivial⟩ ay ae ⟨rfl,rfl⟩
end
section
theorem ED:bU Tryz.prog 55:=bY Tryz.func55
attribute [local irreducible] aK.sum aF.int aF.bytes aK.hy
theorem aeG(tag:Int)(v:Value)(ps:List (List UInt8))(bN:∀ p∈ps,p.length<1048576)(hl:ps.length<1048576)(w:World)(au:bg Go.aJ.encS (b1 w) v ps):ch Tryz.prog 154 [az tag,v] w (fun r zs hs=>∃ z,bg gE z r (aK.hy tag ps)∧zs=[z]∧hs=[]):=by
 refine cI Tryz.func154 rfl Tryz.ntmps154 (Nat.le_of_ble_eq_true rfl) fun a ab U=>aB ab U (ar rfl<|ah) fun a w ab U=>a8 fun cm bD=>aE ab U (ai rfl<|ag (qW bG bF rfl)<|ah) fun a w ab U=>aH ab U rfl (dX bS bF rfl rfl bJ (by decide) rfl rfl) ?_
 rintro v1 _ _ a w ⟨rfl,rfl⟩ ab U
 replace U:=eJ U
 refine aE ab U (ar rfl<|ah) fun a w ab U=>wpList_nil (bD _ _ ?_)
 refine ax fun dH cf=>aB ab U (ar rfl<|ah) fun a w ab U=>wp_block ?_
 obtain ⟨bC,aZ,U⟩:=U.cT
 refine df (γ:=Value×Int) (v1,0) (fun (u,i)=>[(5,u),(6,az i)]) [(1,_)] (fun (u,i)=>(bC.set 0 (.row u 5 1 (aK.hy tag (ps.take i.toNat)).length ((aK.hy tag (ps.take i.toNat)).map bf)))) (fun (u,i)=>0≤i∧i≤ps.length) (fun (u,i)=>(ps.length-i).toNat) (ab.sub ⟨rfl,rfl,rfl,trivial⟩) (by subst aZ;have e:aK.hy tag (ps.take (0:Int).toNat)=[hb tag]:=(by unfold aK.hy;rfl);dsimp only;rw [e];exact U) (by exact ⟨Int.le_refl _,by omega⟩) ?_
 rintro ⟨u,i⟩ a w ba ab U
 subst aZ;(try dsimp only at ba ab U)
 obtain ⟨eu,j8⟩:=ba
 replace U:=eJ U
 have Zi:∀ p∈ps.take i.toNat,p.length<1048576:=fun p h=>bN p (List.mem_of_mem_take h)
 have o2:=aK.Gt tag (ps.take i.toNat) Zi
 rw [List.length_take] at o2
 refine ax fun dw b3=>aB ab U (ai rfl<|ai rfl<|ag (dL cl au rfl)<|ag (cK rfl rfl)<|ah) fun a w ab U=>b9 ab rfl (fun aS=>?_) (fun aS=>?_)
 ·have Zf:=bN _ (aK.jE ps i.toNat (by omega))
  have cZ:=aF.rp (ps.getD i.toNat [])
  refine wp_skip<|b3 _ _<|ax fun eU cO=>wp_block ?_
  refine du<|aE ab U (ai rfl<|ai rfl<|ai rfl<|ag (dG cl bz au rfl rfl (by omega))<|ag (si bz au cD rfl rfl (by omega))<|ah) fun a w ab U=>aH ab U rfl (eB ED rfl (fun w U=>Ht _ (by first | with_reducible assumption | omega) w )) ?_
  rintro v3 _ _ a w ⟨_,_,rfl,rfl,rfl,rfl⟩ ab U
  replace U:=eK U
  refine aH ab U rfl (dB bS bF 1 rfl rfl rfl (eA bS (k:=0) rfl bJ) aI rfl (by decide)) ?_
  rintro v5 _ _ a w ⟨rfl,rfl⟩ ab U
  replace U:=eK U
  refine aE ab U (ar rfl<|ah) fun a w ab U=>wpList_nil (cO _ _ ?_)
  refine bq ab U (ai rfl<|bX rfl rfl<|ar rfl<|ah) fun a w ab U=>?_
  replace U:=U.ak ay (ae.n)
  refine ⟨(v5,i+1),?_,?_,ab.sub ⟨rfl,rfl,rfl,trivial⟩,?_⟩
  ·(try dsimp only);omega
  ·(try dsimp only);omega
  ·rw [← List.map_append,aK.MP _ _ _ (by omega),← List.length_append,aK.MP _ _ _ (by omega),show i.toNat+1=(i+1).toNat by omega] at U
   exact U
 ·obtain rfl:i=ps.length:=by omega
  rw [Int.toNat_natCast,List.take_length] at U
  refine wp_exit<|cf _ _<|aB ab U (ai rfl<|ar rfl<|ah) fun a w ab U=>wp_ret ?_
  have oa:=aK.Gt tag ps bN
  obtain ⟨z,BC,U⟩:=aC.Lv U rfl (by omega)
  exact bR (rs:=[.tmp 4]) rfl ab U (vs:=[_]) ⟨rfl,trivial⟩ (zs':=[z]) (hs':=[]) ae ay ⟨z,BC,rfl,rfl⟩
end
section
theorem afj(v1 v2:Value)(xa xb:List UInt8)(w:World)(e8:bg gE (b1 w) v1 xa)(gu:bg gE (b1 w) v2 xb):ch Tryz.prog 15 [v1,v2] w (fun r _ _=>r=.bool (decide (xa=xb))):=by
 refine cI Tryz.func15 rfl Tryz.ntmps15 (Nat.le_of_ble_eq_true rfl) fun a ab U=>?_
 have Mk:=e8.1
 have tK:=gu.1
 refine aB ab U (ar rfl<|ah) fun a w ab U=>ax fun cm bD=>aB ab U (ai rfl<|ag (dL bS e8 rfl)<|ai rfl<|ag (dL bS gu rfl)<|ag (dM rfl rfl)<|ah) fun a w ab U=>eP ab rfl (fun aS=>?_) (fun aS=>?_)
 ·refine ax fun dP cq=>bq ab U (ar rfl<|ah) fun a w ab U=>cq _ _ ?_
  refine wp_ret<|bR (rs:=[.tmp 4]) rfl ab U (vs:=[_]) ⟨rfl,trivial⟩ ay ay (iw.HM aS)
 ·refine wp_skip<|bD _ _<|ax fun dw b3=>aB ab U (ar rfl<|ah) fun a w ab U=>wp_block ?_
  obtain ⟨bC,aZ,U⟩:=U.cT
  refine df (γ:=Int) (0) (fun (i:Int)=>[(5,az i)]) [(0,_),(1,_)] (fun (i:Int)=>bC) (fun (i:Int)=>0≤i∧i≤xa.length∧xa.take i.toNat=xb.take i.toNat) (fun (i:Int)=>(xa.length-i).toNat) (ab.sub ⟨rfl,rfl,rfl,trivial⟩) (by subst aZ;exact U) (by exact ⟨Int.le_refl _,by omega,rfl⟩) ?_
  rintro i a w ba ab U
  subst aZ;(try dsimp only at ba ab U)
  obtain ⟨eu,j8,kX⟩:=ba
  replace U:=hM U
  refine ax fun eU cO=>aB ab U (ai rfl<|ai rfl<|ag (dL bS e8 rfl)<|ag (cK rfl rfl)<|ah) fun a w ab U=>b9 ab rfl (fun bs=>?_) (fun bs=>?_)
  ·have rP:i<xb.length:=by omega
   refine wp_skip<|cO _ _<|ax fun fY dg=>wp_block ?_
   refine hZ mixed aA ab U (ai rfl<|ai rfl<|ag (dG bS bF e8 rfl rfl (by omega))<|ag (mH bF e8 cD rfl rfl (by omega))<|ai rfl<|ai rfl<|ag (dG bS bF gu rfl rfl (by omega))<|ag (mH bF gu cD rfl rfl (by omega))<|ag (Hj rfl rfl)<|ah) fun a w ab U=>eP ab rfl (fun b7=>?_) (fun b7=>?_)
   ·refine ax fun gQ dz=>bq ab U (ar rfl<|ah) fun a w ab U=>dz _ _ ?_
    refine wp_ret<|bR (rs:=[.tmp 4]) rfl ab U (vs:=[_]) ⟨rfl,trivial⟩ ay ay (iw.HN 0 b7)
   ·refine wp_skip<|dg _ _<|bq ab U (ai rfl<|bX rfl rfl<|ar rfl<|ah) fun a w ab U=>⟨(i+1),?_,?_,ab.sub ⟨rfl,rfl,rfl,trivial⟩,?_⟩
    ·(try dsimp only);omega
    ·refine ⟨by omega,by omega,iw.HO 0 eu (by omega) aS b7 kX⟩
    ·exact U
  ·refine wp_exit<|b3 _ _<|aB ab U (ar rfl<|ah) fun a w ab U=>wp_ret ?_
   exact bR (rs:=[.tmp 4]) rfl ab U (vs:=[_]) ⟨rfl,trivial⟩ ay ay (iw.HL aS bs kX)
theorem Qg(v1 v2:Value)(xa xb:List (List UInt8))(w:World)(e8:bg Go.aJ.encS (b1 w) v1 xa)(gu:bg Go.aJ.encS (b1 w) v2 xb):ch Tryz.prog 37 [v1,v2] w (fun r _ _=>r=.bool (decide (xa=xb))):=by
 refine cI Tryz.func37 rfl Tryz.ntmps37 (Nat.le_of_ble_eq_true rfl) fun a ab U=>?_
 have Mk:=e8.1
 have tK:=gu.1
 refine aB ab U (ar rfl<|ah) fun a w ab U=>ax fun cm bD=>aB ab U (ai rfl<|ag (dL cl e8 rfl)<|ai rfl<|ag (dL cl gu rfl)<|ag (dM rfl rfl)<|ah) fun a w ab U=>eP ab rfl (fun aS=>?_) (fun aS=>?_)
 ·refine ax fun dP cq=>bq ab U (ar rfl<|ah) fun a w ab U=>cq _ _ ?_
  refine wp_ret<|bR (rs:=[.tmp 4]) rfl ab U (vs:=[_]) ⟨rfl,trivial⟩ ay ay (iw.HM aS)
 ·refine wp_skip<|bD _ _<|ax fun dw b3=>aB ab U (ar rfl<|ah) fun a w ab U=>wp_block ?_
  obtain ⟨bC,aZ,U⟩:=U.cT
  refine df (γ:=Int) (0) (fun (i:Int)=>[(5,az i)]) [(0,_),(1,_)] (fun (i:Int)=>bC) (fun (i:Int)=>0≤i∧i≤xa.length∧xa.take i.toNat=xb.take i.toNat) (fun (i:Int)=>(xa.length-i).toNat) (ab.sub ⟨rfl,rfl,rfl,trivial⟩) (by subst aZ;exact U) (by exact ⟨Int.le_refl _,by omega,rfl⟩) ?_
  rintro i a w ba ab U
  subst aZ;(try dsimp only at ba ab U)
  obtain ⟨eu,j8,kX⟩:=ba
  replace U:=hM U
  refine ax fun eU cO=>aB ab U (ai rfl<|ai rfl<|ag (dL cl e8 rfl)<|ag (cK rfl rfl)<|ah) fun a w ab U=>b9 ab rfl (fun bs=>?_) (fun bs=>?_)
  ·have rP:i<xb.length:=by omega
   refine wp_skip<|cO _ _<|ax fun fY dg=>wp_block ?_
   refine hZ mixed aA ab U (ai rfl<|ai rfl<|ag (dG cl bz e8 rfl rfl (by omega))<|ag (si bz e8 cD rfl rfl (by omega))<|ai rfl<|ai rfl<|ag (dG cl bz gu rfl rfl (by omega))<|ag (si bz gu cD rfl rfl (by omega))<|ag (qX rfl rfl)<|ah) fun a w ab U=>eP ab rfl (fun b7=>?_) (fun b7=>?_)
   ·refine ax fun gQ dz=>bq ab U (ar rfl<|ah) fun a w ab U=>dz _ _ ?_
    refine wp_ret<|bR (rs:=[.tmp 4]) rfl ab U (vs:=[_]) ⟨rfl,trivial⟩ ay ay (iw.HN [] b7)
   ·refine wp_skip<|dg _ _<|bq ab U (ai rfl<|bX rfl rfl<|ar rfl<|ah) fun a w ab U=>⟨(i+1),?_,?_,ab.sub ⟨rfl,rfl,rfl,trivial⟩,?_⟩
    ·(try dsimp only);omega
    ·refine ⟨by omega,by omega,iw.HO [] eu (by omega) aS b7 kX⟩
    ·exact U
  ·refine wp_exit<|b3 _ _<|aB ab U (ar rfl<|ah) fun a w ab U=>wp_ret ?_
   exact bR (rs:=[.tmp 4]) rfl ab U (vs:=[_]) ⟨rfl,trivial⟩ ay ay (iw.HL aS bs kX)
attribute [local irreducible] aF.int aF.bytes aF.ints aF.strs aF.u3 iw.ru
end
section
attribute [local irreducible] aF.int aF.bytes aF.ints aF.strs aF.u3 iw.ru aF.getInt aF.fu aF.iu
theorem WW:aF.getInt []=(0,0,3):=by unfold aF.getInt;rfl
theorem JZ{xs:List UInt8}(h:¬ (xs.length:Int)=0):∃ a t,xs=a::t:=by
 cases xs with
 | nil=>simp at h
 | cons a t=>exact ⟨a,t,rfl⟩
theorem N3{xs:List UInt8}(h:(xs.length:Int)=0):aF.getInt xs=(0,0,3):=by
 have:xs=[]:=List.eq_nil_of_length_eq_zero (by omega)
 rw [this];exact WW
theorem RN(v:Value)(xs:List UInt8)(w:World)(au:bg gE (b1 w) v xs):ch Tryz.prog 59 [v] w (fun r _ _=>r=.tuple [az (aF.getInt xs).1,az (aF.getInt xs).2.1,az (aF.getInt xs).2.2].toArray):=by
 refine cI Tryz.func59 rfl Tryz.ntmps59 (Nat.le_of_ble_eq_true rfl) fun a ab U=>?_
 have cZ:=au.1
 refine aB ab U (ar rfl<|ar rfl<|ar rfl<|ah) fun a w ab U=>ax fun cm bD=>aB ab U (ai rfl<|ag (dL bS au rfl)<|ag (fc rfl rfl)<|ah) fun a w ab U=>b9 ab rfl (fun aS=>?_) (fun aS=>?_)
 ·refine ax fun dP cq=>bq ab U (ar rfl<|ar rfl<|ar rfl<|ah) fun a w ab U=>cq _ _ ?_
  refine wp_ret<|bR (rs:=[.tmp 2,.tmp 3,.tmp 4]) rfl ab U (vs:=[_,_,_]) ⟨rfl,rfl,rfl,trivial⟩ ay ay (aF.n0 (N3 aS))
 ·obtain ⟨h,t,rfl⟩:=JZ aS
  have YW:(h::t).length=t.length+1:=rfl
  refine wp_skip<|bD _ _<|aB ab U (ar rfl<|ah) fun a w ab U=>?_
  obtain ⟨bC,aZ,U⟩:=U.cT
  refine lK (γ:=UInt8) (fun (b0:UInt8)=>[(5,bf b0)]) [(0,_)] (fun (b0:UInt8)=>bC) (fun (b0:UInt8)=>b0=aF.e3 h) (ab.sub ⟨rfl,trivial⟩) U ?_ ?_
  ·subst aZ
   refine aB ab U (ai rfl<|ag (dG bS bF au rfl rfl (by omega))<|ag (mH bF au cD rfl rfl (by omega))<|ag (adO (q:=128) rfl rfl)<|ah) fun a w ab U=>b9 ab rfl (fun bs=>?_) (fun bs=>?_)
   ·refine bq ab U (ar rfl<|ah) fun a w ab U=>⟨(255),?_,ab.sub ⟨rfl,rfl,trivial⟩,?_⟩
    ·unfold aF.e3;rw [if_pos (show h<128 from bs)]
    ·exact U
   ·refine wp_skip<|⟨(0),?_,ab.sub ⟨rfl,rfl,trivial⟩,?_⟩
    ·unfold aF.e3;rw [if_neg (show ¬ h<128 from bs)]
    ·exact U
  rintro b0 a w ba ab U
  subst aZ;(try dsimp only at ba ab U)
  have eG:=ba
  replace U:=hM U
  have ajm:=uA ((h::t).getD (Int.toNat 0) 0 ^^^ b0)
  refine ax fun eU cO=>bq ab U (ai rfl<|ag (dG bS bF au rfl rfl (by omega))<|ag (mH bF au cD rfl rfl (by omega))<|ai rfl<|ag (uk rfl rfl)<|ag (yS bF bG rfl)<|e2 rfl rfl<|ar rfl<|ah) fun a w ab U=>?_
  have mu:=aF.KO h
  rw [← eG] at mu
  obtain ⟨K,dE⟩:∃ K:Nat,K=(h ^^^ b0).toNat-128:=⟨_,rfl⟩
  change Fr _ ((6,az (((h ^^^ b0).toNat:Int)-128))::_) a at ab
  rw [show (((h ^^^ b0).toNat:Int)-128)=(K:Int) by omega] at ab
  refine cO _ _<|ax fun e1 cF=>wp_block ?_
  refine aB ab U (ai rfl<|ag (eQ rfl rfl)<|ar rfl<|ah) fun a w ab U=>b9 ab rfl (fun b7=>?_) (fun b7=>?_)
  ·refine ax fun hE dS=>bq ab U (ar rfl<|ar rfl<|ar rfl<|ah) fun a w ab U=>dS _ _ ?_
   refine wp_ret<|bR (rs:=[.tmp 2,.tmp 3,.tmp 4]) rfl ab U (vs:=[_,_,_]) ⟨rfl,rfl,rfl,trivial⟩ ay ay (aF.n0 (aF.LL eG dE (by omega)))
  ·have dp:¬ 8<K:=by omega
   refine aB ab U (ai rfl<|ag (dL bS au rfl)<|ai rfl<|ag (vZ rfl rfl)<|ar rfl<|ah) fun a w ab U=>b9 ab rfl (fun dr=>?_) (fun dr=>?_)
   ·have gL:t.length<K:=by omega
    refine aB ab U (ar rfl<|ar rfl<|ar rfl<|ah) fun a w ab U=>wp_ret ?_
    exact bR (rs:=[.tmp 2,.tmp 3,.tmp 4]) rfl ab U (vs:=[_,_,_]) ⟨rfl,rfl,rfl,trivial⟩ ay ay (aF.n0 (aF.LN eG dE dp gL))
   ·have gL:¬ t.length<K:=by omega
    refine a8 fun iv eD=>aE ab U (ai rfl<|ag (eQ rfl rfl)<|ai rfl<|ah) fun a w ab U=>jJ 2 35 6 ab U rfl rfl rfl rfl rfl (fun aO=>have aO:=(by first | exact of_decide_eq_true aO | exact aO);aN 35 rfl rfl rfl (bE rfl)<|aN 35 rfl rfl rfl (dG bS bF au rfl rfl (by omega))<|aN 35 rfl rfl rfl (mH bF au cD rfl rfl (by omega))<|aN 35 rfl rfl rfl (bE rfl)<|aN 35 rfl rfl rfl (uk rfl rfl)<|aN 35 rfl rfl rfl (adq (q:=0) rfl rfl)<|ah) rfl rfl fun a w ab U=>?_
    refine aE ab U (ar rfl<|ah) fun a w ab U=>wpList_nil (eD _ _ ?_)
    refine cX ab rfl (fun dm=>?_) (fun dm=>?_)
    ·(try simp only [c2] at dm)
     have h0:0<K∧t.getD 0 0 ^^^ b0=0:=⟨by omega,dm.2⟩
     refine aB ab U (ar rfl<|ar rfl<|ar rfl<|ah) fun a w ab U=>wp_ret ?_
     exact bR (rs:=[.tmp 2,.tmp 3,.tmp 4]) rfl ab U (vs:=[_,_,_]) ⟨rfl,rfl,rfl,trivial⟩ ay ay (aF.n0 (aF.LP eG dE dp gL h0))
    ·(try simp only [c2] at dm)
     have h0:¬ (0<K∧t.getD 0 0 ^^^ b0=0):=fun cC=>dm.elim (fun h=>h (by omega)) (fun h=>h cC.2)
     refine wp_skip<|cF _ _<|aB ab U (ar rfl<|ah) fun a w ab U=>ax fun mc hh=>ax fun oE iW=>?_
     refine bq ab U (ai rfl<|ai rfl<|bX rfl rfl<|ag (yZ bS bF au rfl rfl rfl (by omega))<|ag (dL bS (bg.cut au (by omega)) rfl)<|ai rfl<|ah) fun a w ab U=>?_
     have jw:=aF.agi (h:=h) (t:=t) (K:=K)
     have ak3:((((h::t).take ((K:Int)+1).toNat).drop (1:Int).toNat).length:Int)=K:=by rw [jw,List.length_take];omega
     refine iW _ _<|wp_block ?_
     obtain ⟨bC,aZ,U⟩:=U.cT
     refine df (γ:=UInt64×Int) (0,0) (fun (m,j)=>[(7,gy m),(48,az j)]) [(5,_),(6,_),(46,_),(47,_)] (fun (m,j)=>bC) (fun (m,j)=>0≤j∧j≤K∧m.toNat=aF.iu t b0 K j.toNat) (fun (m,j)=>(K-j).toNat) (ab.sub ⟨rfl,rfl,rfl,rfl,rfl,rfl,trivial⟩) (by subst aZ;exact U) (by exact ⟨Int.le_refl _,by omega,by rw [show (0:Int).toNat=0 from rfl,aF.RD];rfl⟩) ?_
     rintro ⟨m,j⟩ a w ba ab U
     subst aZ;(try dsimp only at ba ab U)
     obtain ⟨rS,pL,rU⟩:=ba
     replace U:=hM U
     refine aB ab U (ag (cK rfl rfl)<|ah) fun a w ab U=>ax fun qd kB=>b9 ab rfl (fun iZ=>?_) (fun iZ=>?_)
     ·refine wp_skip<|kB _ _<|ax fun pr jF=>wp_block ?_
      refine aB ab U (ag (dG bS bF (bg.cut au (by omega)) rfl rfl (by omega))<|ag (mH bF (bg.cut au (by omega)) cD rfl rfl (by omega))<|ar rfl<|ah) fun a w ab U=>bq ab U (ai rfl<|ag (adY rfl rfl (by omega))<|ai rfl<|ai rfl<|ag (uk rfl rfl)<|ag (ado bF mP rfl)<|ag (adV rfl rfl)<|ar rfl<|ah) fun a w ab U=>jF _ _ ?_
      refine bq ab U (bX rfl rfl<|ai rfl<|ah) fun a w ab U=>⟨(_,j+1),?_,?_,ab.sub ⟨rfl,rfl,rfl,rfl,rfl,rfl,trivial⟩,?_⟩
      ·(try dsimp only);omega
      ·refine ⟨by omega,by omega,?_⟩
       rw [aF.afM _ _ (by rw [rU];exact aF.ag5 t b0 K j.toNat (by omega)),show (j+1).toNat=j.toNat+1 by omega,aF.C2 t b0 K j.toNat (by omega) (by omega),rU,jw,List.getD_eq_getElem?_getD,List.getD_eq_getElem?_getD,List.getElem?_take,if_pos (by omega)]
      ·exact U
     ·have YL:j=(K:Int):=by omega
      have yd:m.toNat=aF.iu t b0 K K:=by rw [rU,YL,Int.toNat_natCast]
      clear rU
      refine wp_exit<|hh _ _<|ax fun sL mo=>aB ab U (ai rfl<|ag (wa rfl rfl (by omega))<|ag (ON (q:=0) rfl rfl)<|ah) fun a w ab U=>b9 ab rfl (fun jS=>?_) (fun jS=>?_)
      ·rw [aF.QK] at jS
       refine aB ab U (ar rfl<|ar rfl<|ar rfl<|ah) fun a w ab U=>wp_ret ?_
       exact bR (rs:=[.tmp 2,.tmp 3,.tmp 4]) rfl ab U (vs:=[_,_,_]) ⟨rfl,rfl,rfl,trivial⟩ ay ay (aF.n0 (aF.LM eG dE dp gL (by rw [← aF.zO,← yd];exact jS)))
      ·rw [aF.QK] at jS
       have tM:=jS
       have lU:=aF.KN h
       rw [← eG] at lU
       refine wp_skip<|mo _ _ ?_
       obtain ⟨bC,aZ,U⟩:=U.cT
       refine lK (γ:=UInt64) (fun (gM:UInt64)=>[(7,gy gM)]) [(6,_)] (fun (gM:UInt64)=>bC) (fun (gM:UInt64)=>nO gM=if b0=0 then (m.toNat:Int) else -1-(m.toNat:Int)) (ab.sub ⟨rfl,trivial⟩) U ?_ ?_
       ·subst aZ
        refine aB ab U (ai rfl<|ag (adt (q:=0) rfl rfl)<|ah) fun a w ab U=>b9 ab rfl (fun h7=>?_) (fun h7=>?_)
        ·refine bq ab U (ai rfl<|ag (OY rfl)<|ar rfl<|ah) fun a w ab U=>⟨(~~~m),?_,ab.sub ⟨rfl,rfl,trivial⟩,?_⟩
         ·rw [if_neg ((aF.KJ lU).1 h7)];exact aF.afJ m tM
         ·exact U
        ·refine wp_skip<|⟨(m),?_,ab.sub ⟨rfl,rfl,trivial⟩,?_⟩
         ·rw [if_pos (Classical.not_not.1 (fun cC=>h7 ((aF.KJ lU).2 cC)))];exact aF.afK m tM
         ·exact U
       rintro gM a w ba ab U
       subst aZ;(try dsimp only at ba ab U)
       have yc:=ba
       replace U:=hM U
       refine aB ab U (ai rfl<|ag (Cf mP bG rfl)<|ai rfl<|bX rfl rfl<|ar rfl<|ar rfl<|ar rfl<|ah) fun a w ab U=>wp_ret ?_
       exact bR (rs:=[.tmp 2,.tmp 3,.tmp 4]) rfl ab U (vs:=[_,_,_]) ⟨rfl,rfl,rfl,trivial⟩ ay ay (by rw [yc,yd,aF.zO];exact aF.n0 (aF.LO eG dE dp gL h0 (by rw [← aF.zO,← yd];exact tM)))
end
section
theorem Vv:bU Tryz.prog 15:=bY Tryz.func15
attribute [local irreducible] aF.int aF.bytes aF.ints aF.strs aF.u3 iw.ru aF.getInt aF.fu aF.iu
theorem PK(v:Value)(xs:List UInt8)(w:World)(au:bg gE (b1 w) v xs):ch Tryz.prog 61 [v] w (fun r _ _=>r=.tuple [az (aF.getInt xs).1,az (aF.getInt xs).2.1,az (aF.getInt xs).2.2].toArray):=by
 refine cI Tryz.func61 rfl Tryz.ntmps61 (Nat.le_of_ble_eq_true rfl) fun a ab U=>?_
 have cZ:=au.1
 refine aB ab U (ar rfl<|ar rfl<|ar rfl<|ah) fun a w ab U=>ax fun cm bD=>aB ab U (ai rfl<|ag (dL bS au rfl)<|ag (fc rfl rfl)<|ah) fun a w ab U=>b9 ab rfl (fun aS=>?_) (fun aS=>?_)
 ·refine ax fun dP cq=>bq ab U (ar rfl<|ar rfl<|ar rfl<|ah) fun a w ab U=>cq _ _ ?_
  refine wp_ret<|bR (rs:=[.tmp 2,.tmp 3,.tmp 4]) rfl ab U (vs:=[_,_,_]) ⟨rfl,rfl,rfl,trivial⟩ ay ay (aF.n0 (N3 aS))
 ·obtain ⟨h,t,rfl⟩:=JZ aS
  have YW:(h::t).length=t.length+1:=rfl
  have FK:=aF.Ys h
  obtain ⟨b0,eG⟩:∃ b0,b0=aF.e3 h:=⟨_,rfl⟩
  obtain ⟨K,dE⟩:∃ K,K=(h ^^^ b0).toNat-128:=⟨_,rfl⟩
  have xS:h.toNat<128→K=127-h.toNat∧b0=255:=fun cC=>by obtain ⟨fl,a2⟩:=FK.1 cC;rw [fl] at eG;subst eG;exact ⟨by rw [dE,a2],rfl⟩
  have xT:¬ h.toNat<128→K=h.toNat-128∧b0=0:=fun cC=>by obtain ⟨fl,a2⟩:=FK.2 cC;rw [fl] at eG;subst eG;exact ⟨by rw [dE,a2],rfl⟩
  clear FK
  have aj3:=h.toNat_lt
  refine wp_skip<|bD _ _<|ax fun dw b3=>bq ab U (ai rfl<|ag (dG bS bF au rfl rfl (by omega))<|ag (mH bF au cD rfl rfl (by omega))<|ag (yS bF bG rfl)<|ar rfl<|ah) fun a w ab U=>?_
  change Fr _ ((5,az (h.toNat:Int))::_) a at ab
  refine b3 _ _<|ax fun et cz=>a8 fun eU cO=>aE ab U (ai rfl<|ag (cK rfl rfl)<|ai rfl<|ah) fun a w ab U=>fS 2 20 2 ab U rfl rfl rfl rfl rfl (fun aO=>have aO:=(by first | exact of_decide_eq_false aO | exact aO);aN 20 rfl rfl rfl (bE rfl)<|aN 20 rfl rfl rfl (eQ rfl rfl)<|ah) rfl rfl fun a w ab U=>?_
  refine wpList_nil (cO _ _ ?_)
  refine cX ab rfl (fun bs=>?_) (fun bs=>?_)
  ·(try simp only [c2] at bs)
   have dp:8<K:=by
    by_cases cC:h.toNat<128
    ·have:=(xS cC).1;omega
    ·have:=(xT cC).1;omega
   refine aB ab U (ar rfl<|ar rfl<|ar rfl<|ah) fun a w ab U=>wp_ret ?_
   exact bR (rs:=[.tmp 2,.tmp 3,.tmp 4]) rfl ab U (vs:=[_,_,_]) ⟨rfl,rfl,rfl,trivial⟩ ay ay (aF.n0 (aF.LL eG dE dp))
  ·(try simp only [c2] at bs)
   have dp:¬ 8<K:=by
    by_cases cC:h.toNat<128
    ·have:=(xS cC).1;omega
    ·have:=(xT cC).1;omega
   refine wp_skip<|cz _ _<|aB ab U (ai rfl<|e2 rfl rfl<|ar rfl<|ah) fun a w ab U=>?_
   obtain ⟨bC,aZ,U⟩:=U.cT
   refine lK (γ:=Int) (fun (k:Int)=>[(6,az k)]) [(0,_),(5,_)] (fun (k:Int)=>bC) (fun (k:Int)=>k=(K:Int)) (ab.sub ⟨rfl,rfl,trivial⟩) U ?_ ?_
   ·subst aZ
    refine aB ab U (ai rfl<|ag (cK rfl rfl)<|ah) fun a w ab U=>b9 ab rfl (fun b7=>?_) (fun b7=>?_)
    ·refine bq ab U (ai rfl<|e2 rfl rfl<|ar rfl<|ah) fun a w ab U=>⟨(127-(h.toNat:Int)),?_,ab.sub ⟨rfl,rfl,rfl,trivial⟩,?_⟩
     ·have:=(xS (by omega)).1
      omega
     ·exact U
    ·refine wp_skip<|⟨((h.toNat:Int)-128),?_,ab.sub ⟨rfl,rfl,rfl,trivial⟩,?_⟩
     ·have:=(xT (by omega)).1
      omega
     ·exact U
   rintro k a w ba ab U
   subst aZ;(try dsimp only at ba ab U)
   have aD:=ba
   replace U:=hM U
   subst aD
   refine ax fun gQ dz=>aB ab U (ai rfl<|ag (dL bS au rfl)<|ai rfl<|bX rfl rfl<|ag (cK rfl rfl)<|ah) fun a w ab U=>b9 ab rfl (fun dr=>?_) (fun dr=>?_)
   ·have gL:t.length<K:=by omega
    refine aB ab U (ar rfl<|ar rfl<|ar rfl<|ah) fun a w ab U=>wp_ret ?_
    exact bR (rs:=[.tmp 2,.tmp 3,.tmp 4]) rfl ab U (vs:=[_,_,_]) ⟨rfl,rfl,rfl,trivial⟩ ay ay (aF.n0 (aF.LN eG dE dp gL))
   ·have gL:¬ t.length<K:=by omega
    refine wp_skip<|dz _ _<|aB ab U (ar rfl<|ah) fun a w ab U=>ax fun jN fa=>aB ab U (ar rfl<|ah) fun a w ab U=>?_
    refine wp_block ?_
    obtain ⟨bC,aZ,U⟩:=U.cT
    refine df (γ:=Int×Int) (0,1) (fun (m,i)=>[(7,az m),(8,az i)]) [(0,_),(5,_),(6,_)] (fun (m,i)=>bC) (fun (m,i)=>1≤i∧i≤(K:Int)+1∧m=(aF.iu t b0 K (i-1).toNat:Int)∧m≤9223372036854775807) (fun (m,i)=>((K:Int)+1-i).toNat) (ab.sub ⟨rfl,rfl,rfl,rfl,rfl,trivial⟩) (by subst aZ;exact U) (by exact ⟨Int.le_refl _,by omega,by rw [show ((1:Int)-1).toNat=0 from rfl,aF.RD];rfl,by omega⟩) ?_
    rintro ⟨m,i⟩ a w ba ab U
    subst aZ;(try dsimp only at ba ab U)
    obtain ⟨eu,j8,rU,akK⟩:=ba
    replace U:=hM U
    have yb:0≤m:=by omega
    refine ax fun oE iW=>aB ab U (ai rfl<|ai rfl<|ag (vZ rfl rfl)<|ah) fun a w ab U=>b9 ab rfl (fun dm=>?_) (fun dm=>?_)
    ·refine wp_skip<|iW _ _<|ax fun qd kB=>wp_block ?_
     refine ax fun pr jF=>bq ab U (ai rfl<|ai rfl<|ag (dG bS bF au rfl rfl (by omega))<|ag (mH bF au cD rfl rfl (by omega))<|ag (yS bF bG rfl)<|ar rfl<|ah) fun a w ab U=>?_
     have aly:=uA ((h::t).getD i.toNat 0)
     refine jF _ _ ?_
     obtain ⟨bC,aZ,U⟩:=U.cT
     refine lK (γ:=Int) (fun (bM:Int)=>[(9,az bM)]) [(0,_),(5,_),(6,_),(7,_),(8,_)] (fun (bM:Int)=>bC) (fun (bM:Int)=>bM=(((h::t).getD i.toNat 0 ^^^ b0).toNat:Int)) (ab.sub ⟨rfl,rfl,rfl,rfl,rfl,trivial⟩) U ?_ ?_
     ·subst aZ
      refine aB ab U (ai rfl<|ag (cK rfl rfl)<|ah) fun a w ab U=>b9 ab rfl (fun iZ=>?_) (fun iZ=>?_)
      ·refine bq ab U (ai rfl<|e2 rfl rfl<|ar rfl<|ah) fun a w ab U=>⟨(255-(((h::t).getD i.toNat 0).toNat:Int)),?_,ab.sub ⟨rfl,rfl,rfl,rfl,rfl,rfl,trivial⟩,?_⟩
       ·rw [(xS (by omega)).2];exact aF.agb _
       ·exact U
      ·refine wp_skip<|⟨((((h::t).getD i.toNat 0).toNat:Int)),?_,ab.sub ⟨rfl,rfl,rfl,rfl,rfl,rfl,trivial⟩,?_⟩
       ·rw [(xT (by omega)).2,UInt8.xor_zero]
       ·exact U
     rintro bM a w ba ab U
     subst aZ;(try dsimp only at ba ab U)
     have Yf:=ba
     replace U:=hM U
     have rM:=uA ((h::t).getD i.toNat 0 ^^^ b0)
     refine ax fun sL mo=>aB ab U (ai rfl<|ag (eQ rfl rfl)<|ah) fun a w ab U=>b9 ab rfl (fun jS=>?_) (fun jS=>?_)
     ·have tN:=aF.ag6 t b0 K (i-1).toNat (by omega) (by omega)
      have tM:9223372036854775808≤aF.iu t b0 K K:=by omega
      refine aB ab U (ar rfl<|ar rfl<|ar rfl<|ah) fun a w ab U=>wp_ret ?_
      exact bR (rs:=[.tmp 2,.tmp 3,.tmp 4]) rfl ab U (vs:=[_,_,_]) ⟨rfl,rfl,rfl,trivial⟩ ay ay (aF.n0 (aF.LM eG dE dp gL (by rw [← aF.zO];exact tM)))
     ·refine wp_skip<|mo _ _<|bq ab U (ai rfl<|ag (hd rfl rfl (by omega))<|ai rfl<|bX rfl rfl<|ar rfl<|ah) fun a w ab U=>kB _ _ ?_
      refine bq ab U (ai rfl<|bX rfl rfl<|ar rfl<|ah) fun a w ab U=>⟨(256*m+bM,i+1),?_,?_,ab.sub ⟨rfl,rfl,rfl,rfl,rfl,trivial⟩,?_⟩
      ·(try dsimp only);omega
      ·refine ⟨by omega,by omega,?_,by omega⟩
       have ZO:=aF.C2 t b0 K (i-1).toNat (by omega) (by omega)
       rw [show (i+1-1).toNat=(i-1).toNat+1 by omega,ZO]
       obtain ⟨j,a6⟩:∃ j:Nat,i=(j:Int)+1:=⟨(i-1).toNat,by omega⟩
       subst a6
       rw [show ((j:Int)+1).toNat=j+1 by omega,List.getD_cons_succ] at Yf
       rw [show ((j:Int)+1-1).toNat=j by omega] at rU ⊢
       omega
      ·exact U
    ·have YI:i=(K:Int)+1:=by omega
     have yd:m=(aF.iu t b0 K K:Int):=by rw [rU,YI,show ((K:Int)+1-1).toNat=K by omega]
     clear rU
     have tM:¬ 9223372036854775808≤aF.iu t b0 K K:=by omega
     refine wp_exit<|fa _ _<|aB ab U (ai rfl<|ar rfl<|ah) fun a w ab U=>?_
     obtain ⟨bC,aZ,U⟩:=U.cT
     refine lK (γ:=Int) (fun (nn:Int)=>[(10,az nn)]) [(0,_),(6,_)] (fun (nn:Int)=>bC) (fun (nn:Int)=>nn=if b0=0 then m else -1-m) (ab.sub ⟨rfl,rfl,trivial⟩) U ?_ ?_
     ·subst aZ
      refine aB ab U (ai rfl<|ag (cK rfl rfl)<|ah) fun a w ab U=>b9 ab rfl (fun h7=>?_) (fun h7=>?_)
      ·refine bq ab U (ai rfl<|e2 rfl rfl<|ar rfl<|ah) fun a w ab U=>⟨(-1-m),?_,ab.sub ⟨rfl,rfl,rfl,trivial⟩,?_⟩
       ·rw [(xS (by omega)).2,if_neg (by decide)]
       ·exact U
      ·refine wp_skip<|⟨(m),?_,ab.sub ⟨rfl,rfl,rfl,trivial⟩,?_⟩
       ·rw [(xT (by omega)).2,if_pos rfl]
       ·exact U
     rintro nn a w ba ab U
     subst aZ;(try dsimp only at ba ab U)
     have Mo:=ba
     replace U:=hM U
     have tO : -9223372036854775808≤nn∧nn≤9223372036854775807:=by rw [Mo];split <;> omega
     have oa:=aF.od nn
     refine ax fun IP xQ=>ax fun IQ xR=>?_
     revert U;revert ab;apply ho (J:=jL (α0:=Value) 71 _ _ _ _ _) #[false,false,false,false,false,false,false,false] 8 mixed rfl rfl
     ·intro w ab U
      refine aR 0 rfl ab (U.ak ae ay) (bE rfl) fun a ab=>aR 2 rfl ab (U.ak ae ay) (bE rfl) fun a ab=>aR 3 rfl ab (U.ak ae ay) (bE rfl) fun a ab=>aR 4 rfl ab (U.ak ae ay) (pb rfl rfl (by omega)) fun a ab=>aR 5 rfl ab (U.ak ae ay) (Hn bS bF au rfl rfl (by omega)) fun a ab=>?_
      refine bW 1 rfl rfl ab U rfl (eB AR rfl (fun w U=>Cy _ (by omega) w )) ?_
      rintro Rj _ _ a w ⟨_,_,rfl,rfl,rfl,rfl⟩ ab U
      refine ⟨⟨.inr U.ax,.inr U.ax,.inr U.ax,.inr U.ax,al,trivial⟩,?_⟩
      refine bW 6 rfl rfl ab U rfl (eI (bQ Vv rfl (fun w U=>afj _ _ _ _ w (k2 (U.own _ (List.mem_of_getElem? (i:=0) rfl)).1 (by first | assumption | (simp;done)) (by first | rfl | (simp;done) | (simp;omega) | omega) (by first | omega | (simp;omega))) (bg.mono (U.le cD) (bg.cut au (by omega)))) (fun _ _ _ h=>h))) ?_
      rintro _ _ _ a w ⟨rfl,rfl,rfl⟩ ab U
      refine ⟨⟨al,al,.inr U.ax,al,al,trivial⟩,?_⟩
      refine aR 7 rfl ab (U.ak ae ay) (fC rfl) fun a ab=>ei aA (ly Rj (trivial) (ab.sub (L':=[(6,_),(10,_),(67,_)]) ⟨rfl,rfl,rfl,trivial⟩) U)
     rintro a w ⟨Rj, -,ab,U⟩
     (try dsimp only at ab U)
     refine xR _ _<|eP ab rfl (fun mr=>?_) (fun mr=>?_)
     ·rw [List.drop_zero,show ((K:Int)+1).toNat=K+1 by omega] at mr
      refine aB ab U (ar rfl<|ar rfl<|ar rfl<|ah) fun a w ab U=>wp_ret ?_
      exact bR (rs:=[.tmp 2,.tmp 3,.tmp 4]) rfl ab U (vs:=[_,_,_]) ⟨rfl,rfl,rfl,trivial⟩ ay ay (aF.n0 (aF.aew eG dE dp gL tM (by rw [Mo,yd]) mr))
     ·rw [List.drop_zero,show ((K:Int)+1).toNat=K+1 by omega] at mr
      refine wp_skip<|xQ _ _<|aB ab U (ai rfl<|ai rfl<|bX rfl rfl<|ar rfl<|ar rfl<|ar rfl<|ah) fun a w ab U=>wp_ret ?_
      exact bR (rs:=[.tmp 2,.tmp 3,.tmp 4]) rfl ab U (vs:=[_,_,_]) ⟨rfl,rfl,rfl,trivial⟩ ay ay (aF.n0 (aF.aex tO (by omega) mr))
end
section
theorem Lf:bU Tryz.prog 59:=bY Tryz.func59
theorem Lh:bU Tryz.prog 61:=bY Tryz.func61
theorem Wm:bU Tryz.prog 98:=bY Tryz.func98
theorem Wn:bU Tryz.prog 99:=bY Tryz.func99
attribute [local irreducible] aF.int aF.bytes aF.ints aF.strs aF.u3 iw.ru aF.getInt aF.fu aF.iu aF.bh aF.hQ aF.ef
theorem aha(v:Value)(xs:List UInt8)(s:Nat)(hs:0<s∧s≤16)(w:World)(au:bg gE (b1 w) v xs):ch Tryz.prog 98 [v,az (s:Int)] w (fun r _ _=>r=.tuple [az (aF.hQ s xs).1,az (aF.hQ s xs).2.1,az (aF.hQ s xs).2.2].toArray):=by
 refine cI Tryz.func98 rfl Tryz.ntmps98 (Nat.le_of_ble_eq_true rfl) fun a ab U=>?_
 have cZ:=au.1
 have o3:=aF.ag8 s xs
 refine aB ab U (ar rfl<|ar rfl<|ar rfl<|ah) fun a w ab U=>aB ab U (ai rfl<|ag (bQ Lf rfl (fun w U=>RN _ _ w (bg.mono (U.le cD) au)) (fun _ _ _ h=>h))<|ai rfl<|ag (cE rfl rfl)<|ag (cE rfl rfl)<|ag (cE rfl rfl)<|ar rfl<|ar rfl<|ar rfl<|ah) fun a w ab U=>?_
 obtain ⟨bC,aZ,U⟩:=U.cT
 refine lK (γ:=Int) (fun (e:Int)=>[(6,az e)]) [(4,_),(5,_)] (fun (e:Int)=>bC) (fun (e:Int)=>e=(aF.hQ s xs).2.2) (ab.sub ⟨rfl,rfl,trivial⟩) U ?_ ?_
 ·subst aZ
  refine wp_block<|aB ab U (ai rfl<|ag (dM rfl rfl)<|ar rfl<|ah) fun a w ab U=>eP ab rfl (fun aS=>?_) (fun aS=>?_)
  ·refine wp_skip<|⟨((aF.getInt xs).2.2),?_,ab.sub ⟨rfl,rfl,rfl,trivial⟩,?_⟩
   ·unfold aF.hQ;rw [if_pos aS]
   ·exact U
  ·have YD:=aF.xK (b:=xs) (by omega)
   refine aB ab U (ai rfl<|ag (cK rfl rfl)<|ar rfl<|ah) fun a w ab U=>b9 ab rfl (fun bs=>?_) (fun bs=>?_)
   ·refine bq ab U (ar rfl<|ah) fun a w ab U=>⟨(2),?_,ab.sub ⟨rfl,rfl,rfl,trivial⟩,?_⟩
    ·unfold aF.hQ;rw [if_neg (by omega),if_pos bs]
    ·exact U
   ·refine ax fun dw b3=>bq ab U (ai rfl<|ai rfl<|ag (dL bS au rfl)<|ai rfl<|e2 rfl rfl<|ai rfl<|ag (nL rfl rfl (by omega))<|ag (eQ rfl rfl)<|ar rfl<|ah) fun a w ab U=>b3 _ _ ?_
    refine b9 ab rfl (fun b7=>?_) (fun b7=>?_)
    ·refine bq ab U (ar rfl<|ah) fun a w ab U=>⟨(3),?_,ab.sub ⟨rfl,rfl,rfl,trivial⟩,?_⟩
     ·unfold aF.hQ;rw [if_neg (by omega),if_neg bs,if_pos b7]
     ·exact U
    ·refine wp_skip<|⟨((aF.getInt xs).2.2),?_,ab.sub ⟨rfl,rfl,rfl,trivial⟩,?_⟩
     ·unfold aF.hQ;rw [if_neg (by omega),if_neg bs,if_neg b7]
     ·exact U
 rintro e a w ba ab U
 subst aZ;(try dsimp only at ba ab U)
 have he:=ba
 replace U:=hM U
 refine aB ab U (ai rfl<|ai rfl<|ai rfl<|ar rfl<|ar rfl<|ar rfl<|ah) fun a w ab U=>wp_ret ?_
 exact bR (rs:=[.tmp 4,.tmp 5,.tmp 6]) rfl ab U (vs:=[_,_,_]) ⟨rfl,rfl,rfl,trivial⟩ ay ay (aF.ag7 he o3.1 o3.2)
theorem aek(v:Value)(xs:List UInt8)(s:Nat)(hs:0<s∧s≤16)(w:World)(au:bg gE (b1 w) v xs):ch Tryz.prog 99 [v,az (s:Int)] w (fun r _ _=>r=.tuple [az (aF.bh s xs).1,az (aF.bh s xs).2.1,az (aF.bh s xs).2.2].toArray):=by
 refine cI Tryz.func99 rfl Tryz.ntmps99 (Nat.le_of_ble_eq_true rfl) fun a ab U=>?_
 have cZ:=au.1
 refine aB ab U (ar rfl<|ar rfl<|ar rfl<|ah) fun a w ab U=>aB ab U (ai rfl<|ag (bQ Lh rfl (fun w U=>PK _ _ w (bg.mono (U.le cD) au)) (fun _ _ _ h=>h))<|ai rfl<|ag (cE rfl rfl)<|ag (cE rfl rfl)<|ag (cE rfl rfl)<|ar rfl<|ar rfl<|ar rfl<|ah) fun a w ab U=>ax fun dH cf=>aB ab U (ai rfl<|ag (dM rfl rfl)<|ah) fun a w ab U=>eP ab rfl (fun aS=>?_) (fun aS=>?_)
 ·refine ax fun dw b3=>bq ab U (ai rfl<|ar rfl<|ar rfl<|ar rfl<|ah) fun a w ab U=>b3 _ _ ?_
  refine wp_ret<|bR (rs:=[.tmp 4,.tmp 5,.tmp 6]) rfl ab U (vs:=[_,_,_]) ⟨rfl,rfl,rfl,trivial⟩ ay ay (aF.Ay (aF.TJ aS))
 ·have aS:(aF.getInt xs).2.2=0:=by omega
  have YD:=aF.xK aS
  refine wp_skip<|cf _ _<|ax fun et cz=>aB ab U (ai rfl<|ag (cK rfl rfl)<|ah) fun a w ab U=>b9 ab rfl (fun bs=>?_) (fun bs=>?_)
  ·refine ax fun e1 cF=>bq ab U (ar rfl<|ar rfl<|ar rfl<|ah) fun a w ab U=>cF _ _ ?_
   refine wp_ret<|bR (rs:=[.tmp 4,.tmp 5,.tmp 6]) rfl ab U (vs:=[_,_,_]) ⟨rfl,rfl,rfl,trivial⟩ ay ay (aF.Ay (aF.TL aS bs))
  ·refine wp_skip<|cz _ _<|ax fun fY dg=>a8 fun hE dS=>aE ab U (ai rfl<|ai rfl<|ag (dL bS au rfl)<|ag (eQ rfl rfl)<|ai rfl<|ah) fun a w ab U=>?_
   refine fS 4 25 8 ab U rfl rfl rfl rfl rfl (fun aO=>have aO:=(by first | exact of_decide_eq_false aO | exact aO);aN 25 rfl rfl rfl (bE rfl)<|aN 25 rfl rfl rfl (bE rfl)<|aN 25 rfl rfl rfl (hd rfl rfl (by have h1:(aF.getInt xs).1*(s:Int)≤(aF.getInt xs).1*16:=Int.mul_le_mul_of_nonneg_left (by omega) (by omega);have aq:0≤(aF.getInt xs).1*(s:Int):=Int.mul_nonneg (by omega) (by omega);omega))<|aN 25 rfl rfl rfl (bE rfl)<|aN 25 rfl rfl rfl (dL bS au rfl)<|aN 25 rfl rfl rfl (bE rfl)<|aN 25 rfl rfl rfl (na rfl rfl (by omega))<|aN 25 rfl rfl rfl (eQ rfl rfl)<|ah) rfl rfl fun a w ab U=>?_
   refine wpList_nil (dS _ _ ?_)
   refine cX ab rfl (fun b7=>?_) (fun b7=>?_)
   ·(try simp only [c2] at b7)
    refine aB ab U (ar rfl<|ar rfl<|ar rfl<|ah) fun a w ab U=>wp_ret ?_
    exact bR (rs:=[.tmp 4,.tmp 5,.tmp 6]) rfl ab U (vs:=[_,_,_]) ⟨rfl,rfl,rfl,trivial⟩ ay ay (aF.Ay (aF.TK hs.1 aS bs b7))
   ·(try simp only [c2] at b7)
    refine wp_skip<|dg _ _<|aB ab U (ai rfl<|ai rfl<|ar rfl<|ar rfl<|ar rfl<|ah) fun a w ab U=>wp_ret ?_
    exact bR (rs:=[.tmp 4,.tmp 5,.tmp 6]) rfl ab U (vs:=[_,_,_]) ⟨rfl,rfl,rfl,trivial⟩ ay ay (aF.Ay (aF.TM aS bs b7))
theorem RM(v:Value)(xs:List UInt8)  (w:World) (au:bg gE (b1 w) v xs):ch Tryz.prog 60 [v] w (fun r _ _=>r=.tuple [vs (aF.ef xs).1,az (aF.ef xs).2.1,az (aF.ef xs).2.2].toArray):=by
 refine cI Tryz.func60 rfl Tryz.ntmps60 (Nat.le_of_ble_eq_true rfl) fun a ab U=>?_
 have cZ:=au.1
 have ZQ:=aF.RH 1 (by decide) xs
 refine aB ab U (ar rfl<|ar rfl<|ar rfl<|ah) fun a w ab U=>aB ab U (ai rfl<|ag (bQ Wm rfl (fun w U=>aha _ _ 1 (by omega) w (bg.mono (U.le cD) au)) (fun _ _ _ h=>h))<|ai rfl<|ag (cE rfl rfl)<|ag (cE rfl rfl)<|ag (cE rfl rfl)<|ar rfl<|ar rfl<|ar rfl<|ah) fun a w ab U=>ax fun dH cf=>aB ab U (ai rfl<|ag (dM rfl rfl)<|ah) fun a w ab U=>eP ab rfl (fun aS=>?_) (fun aS=>?_)
 ·refine ax fun dw b3=>bq ab U (ai rfl<|ar rfl<|ar rfl<|ar rfl<|ah) fun a w ab U=>b3 _ _ ?_
  refine wp_ret<|bR (rs:=[.tmp 2,.tmp 3,.tmp 4]) rfl ab U (vs:=[_,_,_]) ⟨rfl,rfl,rfl,trivial⟩ ay ay (aF.LD ZQ.1 aS)
 ·have aS:(aF.hQ 1 xs).2.2=0:=by omega
  obtain ⟨kD,qG,x7,YN⟩:=aF.ag9 (s:=1) (by decide) aS
  refine wp_skip<|cf _ _<|aB ab U (ai rfl<|ai rfl<|ai rfl<|ai rfl<|bX rfl rfl<|ag (yZ bS bF au rfl rfl rfl (by omega))<|ag (sa bS bz bF (bg.cut au (by omega)) cD rfl)<|ai rfl<|ai rfl<|bX rfl rfl<|ar rfl<|ar rfl<|ar rfl<|ah) fun a w ab U=>wp_ret ?_
  exact bR (rs:=[.tmp 2,.tmp 3,.tmp 4]) rfl ab U (vs:=[_,_,_]) ⟨rfl,rfl,rfl,trivial⟩ ay ay (aF.LF kD aS ⟨qG,by omega⟩)
theorem PJ(v:Value)(xs:List UInt8)  (w:World) (au:bg gE (b1 w) v xs):ch Tryz.prog 62 [v] w (fun r _ _=>r=.tuple [vs (aF.ef xs).1,az (aF.ef xs).2.1,az (aF.ef xs).2.2].toArray):=by
 refine cI Tryz.func62 rfl Tryz.ntmps62 (Nat.le_of_ble_eq_true rfl) fun a ab U=>?_
 have cZ:=au.1
 skip
 refine aB ab U (ar rfl<|ar rfl<|ar rfl<|ah) fun a w ab U=>aB ab U (ai rfl<|ag (bQ Wn rfl (fun w U=>aek _ _ 1 (by omega) w (bg.mono (U.le cD) au)) (fun _ _ _ h=>h))<|ai rfl<|ag (cE rfl rfl)<|ag (cE rfl rfl)<|ag (cE rfl rfl)<|ar rfl<|ar rfl<|ar rfl<|ah) fun a w ab U=>ax fun dH cf=>aB ab U (ai rfl<|ag (dM rfl rfl)<|ah) fun a w ab U=>eP ab rfl (fun aS=>?_) (fun aS=>?_)
 ·refine ax fun dw b3=>bq ab U (ai rfl<|ar rfl<|ar rfl<|ar rfl<|ah) fun a w ab U=>b3 _ _ ?_
  refine wp_ret<|bR (rs:=[.tmp 2,.tmp 3,.tmp 4]) rfl ab U (vs:=[_,_,_]) ⟨rfl,rfl,rfl,trivial⟩ ay ay (aF.LD rfl aS)
 ·have aS:(aF.bh 1 xs).2.2=0:=by omega
  obtain ⟨_,qG,x7,YN,_⟩:=aF.D4 aS
  refine wp_skip<|cf _ _<|aB ab U (ai rfl<|ai rfl<|ai rfl<|ai rfl<|bX rfl rfl<|ag (yZ bS bF au rfl rfl rfl (by omega))<|ag (sa bS bz bF (bg.cut au (by omega)) cD rfl)<|ai rfl<|ai rfl<|bX rfl rfl<|ar rfl<|ar rfl<|ar rfl<|ah) fun a w ab U=>wp_ret ?_
  exact bR (rs:=[.tmp 2,.tmp 3,.tmp 4]) rfl ab U (vs:=[_,_,_]) ⟨rfl,rfl,rfl,trivial⟩ ay ay (aF.LF rfl aS ⟨qG,by omega⟩)
end
section
theorem fg:a1 Tryz.prog 4 .bool 1 1 (Value.bool false):=⟨Tryz.underlying4,by kernel_rfl⟩
theorem k6:a1 Tryz.prog 120 (.slice 126) 1 24 (Value.slice none 0 0):=⟨Tryz.underlying120,by kernel_rfl⟩
theorem iP : a1 Tryz.prog 124 (.struct #[⟨ "blocks", 120, 0, false, "", "culprit/disk", 0⟩, ⟨ "pending", 121, 1, false, "", "culprit/disk", 24⟩, ⟨ "worn", 122, 2, false, "", "culprit/disk", 32⟩, ⟨ "off", 4, 3, false, "", "culprit/disk", 40⟩, ⟨ "left", 3, 4, false, "", "culprit/disk", 48⟩]) 5 56 (.agg ([Value.slice none 0 0] ++ [Value.map none, Value.map none] ++ [Value.bool false] ++ [Value.int .i64 0]).toArray) := ⟨Tryz.underlying124, by kernel_rfl⟩
abbrev gX:=ao.ng 124 126
abbrev oD:=ao.Dl 124 126
theorem D7(h:ao.hr)(S:ao.aX)(i:Int)(w0:World)(bP:List aP){b8 cL eL eS:av}(dh:gX h S b8 cL eL eS):eH Tryz.prog 66 [.pointer (some ⟨h.b,0,none⟩),az i] w0 bP [b8,cL,eL,eS] (oD h (S) (az (ao.check S i))):=by
 refine fF Tryz.func66 rfl Tryz.ntmps66 (Nat.le_of_ble_eq_true rfl) fun cw a w ab U=>?_
 replace U:=fr U
 obtain ⟨l,bK,ht,hk,bV,hH,gM,bB,hl,ij,hx,h5,gS,eE,rfl,rfl,rfl,rfl⟩:=dh
 have e5:=bB.lo
 have gg:=bB.aG
 have ka:=bB.lf
 have kb:=bB.h9
 have cZ:=ao.mX S
 have mq:=ao.nt bB
 replace U:=fr U
 refine aB ab U (ar rfl<|ah) fun a w ab U=>ax fun cm bD=>wp_block ?_
 refine aB ab U (ai rfl<|ag (bI rfl)<|ag (aV iP rfl rfl (s':=0) aA)<|ag (bc fg 0 rfl rfl rfl rfl)<|ar rfl<|ah) fun a w ab U=>cX ab rfl (fun aS=>?_) (fun aS=>?_)
 ·refine ax fun dP cq=>bq ab U (ar rfl<|ah) fun a w ab U=>cq _ _ ?_
  refine wp_ret<|cQ (rs:=[.tmp 4]) rfl ab U (vs:=[_]) ⟨rfl,trivial⟩ [] [_,_,_,_] ae ae (ao.iF (S:=S) ⟨rfl,rfl,_,_,_,_,rfl,⟨l,bK,ht,hk,bV,hH,gM,bB,hl,ij,hx,h5,gS,eE,rfl,rfl,rfl,rfl⟩⟩ (rfl) (by rw [ao.u1 (by simpa using aS)]))
 ·refine ax fun dw b3=>du ?_
  refine aE ab U (ai rfl<|ag (cK rfl rfl)<|ai rfl<|ah) fun a w ab U=>fS 2 13 7 ab U rfl rfl rfl rfl rfl (fun aO=>have aO:=(by first | exact of_decide_eq_false aO | exact aO);aN 13 rfl rfl rfl (bE rfl)<|aN 13 rfl rfl rfl (bE rfl)<|aN 13 rfl rfl rfl (bI rfl)<|aN 13 rfl rfl rfl (aV iP rfl rfl (s':=0) aA)<|aN 13 rfl rfl rfl (bc k6 0 rfl rfl rfl rfl)<|aN 13 rfl rfl rfl (hX k6 1 rfl rfl)<|aN 13 rfl rfl rfl (jH rfl rfl)<|ah) rfl rfl fun a w ab U=>?_
  refine aE ab U (ar rfl<|ah) fun a w ab U=>wpList_nil (b3 _ _ ?_)
  refine cX ab rfl (fun bs=>?_) (fun bs=>?_)
  ·(try simp only [c2] at bs)
   refine aB ab U (ar rfl<|ah) fun a w ab U=>wp_ret ?_
   exact cQ (rs:=[.tmp 4]) rfl ab U (vs:=[_]) ⟨rfl,trivial⟩ [] [_,_,_,_] ae ae (ao.iF (S:=S) ⟨rfl,rfl,_,_,_,_,rfl,⟨l,bK,ht,hk,bV,hH,gM,bB,hl,ij,hx,h5,gS,eE,rfl,rfl,rfl,rfl⟩⟩ (rfl) (by rw [ao.Aw (by rw [aS];simp) (by omega)]))
  ·(try simp only [c2] at bs)
   refine wp_skip<|bD _ _<|aB ab U (ar rfl<|ah) fun a w ab U=>wp_ret ?_
   exact cQ (rs:=[.tmp 4]) rfl ab U (vs:=[_]) ⟨rfl,trivial⟩ [] [_,_,_,_] ae ae (ao.iF (S:=S) ⟨rfl,rfl,_,_,_,_,rfl,⟨l,bK,ht,hk,bV,hH,gM,bB,hl,ij,hx,h5,gS,eE,rfl,rfl,rfl,rfl⟩⟩ (rfl) (by rw [ao.pB (by rw [aS];simp) (by omega)]))
theorem Kj(h:ao.hr)(S:ao.aX)(w0:World)(bP:List aP){b8 cL eL eS:av}(dh:gX h S b8 cL eL eS):eH Tryz.prog 182 [.pointer (some ⟨h.b,0,none⟩)] w0 bP [b8,cL,eL,eS] (oD h ((ao.step S).1) (az (ao.step S).2)):=by
 refine fF Tryz.func182 rfl Tryz.ntmps182 (Nat.le_of_ble_eq_true rfl) fun cw a w ab U=>?_
 replace U:=fr U
 obtain ⟨l,bK,ht,hk,bV,hH,gM,bB,hl,ij,hx,h5,gS,eE,rfl,rfl,rfl,rfl⟩:=dh
 have e5:=bB.lo
 have gg:=bB.aG
 have ka:=bB.lf
 have kb:=bB.h9
 have cZ:=ao.mX S
 have mq:=ao.nt bB
 replace U:=fr U
 refine aB ab U (ar rfl<|ah) fun a w ab U=>ax fun cm bD=>wp_block ?_
 refine aB ab U (ai rfl<|ag (bI rfl)<|ag (aV iP rfl rfl (s':=0) aA)<|ag (bc bG 0 rfl rfl rfl rfl)<|ag (fc rfl rfl)<|ar rfl<|ah) fun a w ab U=>b9 ab rfl (fun aS=>?_) (fun aS=>?_)
 ·refine ax fun dP cq=>du ?_
  refine aE ab U (ai rfl<|ag (bI rfl)<|ag (aV iP rfl rfl (s':=0) aA)<|ah) fun a w ab U=>aH ab U rfl (c7 fg 0 rfl rfl rfl rfl (by simp)) ?_
  rintro _ _ _ a w ⟨rfl,rfl,rfl⟩ ab U
  replace U:aC _ (_) (.blk _ _ ([_,_,_,_,_].set 3 _)::_::_::_::_) _:=U
  simp only [List.set_cons_zero,List.set_cons_succ] at U
  replace U:=fr U
  refine wpList_nil (cq _ _ ?_)
  refine aB ab U (ar rfl<|ah) fun a w ab U=>wp_ret ?_
  exact cQ (rs:=[.tmp 2]) rfl ab U (vs:=[_]) ⟨rfl,trivial⟩ [] [_,_,_,_] ae ae (ao.iF (S:=⟨S.s,true,S.left⟩) ⟨rfl,rfl,_,_,_,_,rfl,⟨l,bK,ht,hk,bV,hH,gM,⟨bB.sec,bB.lo,bB.aG,bB.lf,bB.h9⟩,hl,ij,hx,h5,gS,eE,rfl,rfl,rfl,rfl⟩⟩ (by rw [ao.zm (by omega)]) (by rw [ao.zm (by omega)]))
 ·refine ax fun et cz=>bq ab U (ai rfl<|ag (bI rfl)<|ag (aV iP rfl rfl (s':=0) aA)<|ag (bc bG 0 rfl rfl rfl rfl)<|ag (eQ rfl rfl)<|ar rfl<|ah) fun a w ab U=>cz _ _ ?_
  refine b9 ab rfl (fun bs=>?_) (fun bs=>?_)
  ·refine du<|aE ab U (ai rfl<|ag (bI rfl)<|ag (aV iP rfl rfl (s':=0) aA)<|ag (bc bG 0 rfl rfl rfl rfl)<|e2 rfl rfl<|ag (bI rfl)<|ag (aV iP rfl rfl (s':=0) aA)<|ah) fun a w ab U=>aH ab U rfl (c7 bG 0 rfl rfl rfl rfl (by simp)) ?_
   rintro _ _ _ a w ⟨rfl,rfl,rfl⟩ ab U
   replace U:aC _ (_) (.blk _ _ ([_,_,_,_,_].set 4 _)::_::_::_::_) _:=U
   simp only [List.set_cons_zero,List.set_cons_succ] at U
   replace U:=fr U
   refine wpList_nil (bD _ _ ?_)
   refine aB ab U (ar rfl<|ah) fun a w ab U=>wp_ret ?_
   exact cQ (rs:=[.tmp 2]) rfl ab U (vs:=[_]) ⟨rfl,trivial⟩ [] [_,_,_,_] ae ae (ao.iF (S:=⟨S.s,S.off,S.left-1⟩) ⟨rfl,rfl,_,_,_,_,rfl,⟨(l-1),bK,ht,hk,bV,hH,gM,⟨bB.sec,bB.lo,bB.aG,(by dsimp only;omega),(by dsimp only;omega)⟩,(by dsimp only;omega),(by omega),hx,h5,gS,eE,rfl,rfl,rfl,rfl⟩⟩ (by rw [ao.CL (by omega)]) (by rw [ao.CL (by omega)]))
  ·refine wp_skip<|bD _ _<|aB ab U (ar rfl<|ah) fun a w ab U=>wp_ret ?_
   exact cQ (rs:=[.tmp 2]) rfl ab U (vs:=[_]) ⟨rfl,trivial⟩ [] [_,_,_,_] ae ae (ao.iF (S:=S) ⟨rfl,rfl,_,_,_,_,rfl,⟨l,bK,ht,hk,bV,hH,gM,bB,hl,ij,hx,h5,gS,eE,rfl,rfl,rfl,rfl⟩⟩ (by rw [ao.wA (by omega)]) (by rw [ao.wA (by omega)]))
theorem J7(h:ao.hr)(S:ao.aX)(w0:World)(bP:List aP){b8 cL eL eS:av}(dh:gX h S b8 cL eL eS):eH Tryz.prog 93 [.pointer (some ⟨h.b,0,none⟩)] w0 bP [b8,cL,eL,eS] (oD h (S) (az (S.s.length:Int))):=by
 refine fF Tryz.func93 rfl Tryz.ntmps93 (Nat.le_of_ble_eq_true rfl) fun cw a w ab U=>?_
 replace U:=fr U
 obtain ⟨l,bK,ht,hk,bV,hH,gM,bB,hl,ij,hx,h5,gS,eE,rfl,rfl,rfl,rfl⟩:=dh
 have e5:=bB.lo
 have gg:=bB.aG
 have ka:=bB.lf
 have kb:=bB.h9
 have cZ:=ao.mX S
 have mq:=ao.nt bB
 replace U:=fr U
 refine aB ab U (ar rfl<|ah) fun a w ab U=>aB ab U (ai rfl<|ag (bI rfl)<|ag (aV iP rfl rfl (s':=0) aA)<|ag (bc k6 0 rfl rfl rfl rfl)<|ag (hX k6 1 rfl rfl)<|ar rfl<|ah) fun a w ab U=>wp_ret ?_
 exact cQ (rs:=[.tmp 2]) rfl ab U (vs:=[_]) ⟨rfl,trivial⟩ [] [_,_,_,_] ae ae (ao.iF (S:=S) ⟨rfl,rfl,_,_,_,_,rfl,⟨l,bK,ht,hk,bV,hH,gM,bB,hl,ij,hx,h5,gS,eE,rfl,rfl,rfl,rfl⟩⟩ (rfl) (rfl))
theorem Kk(h:ao.hr)(S:ao.aX)(n:Int)(bA : -9223372036854775808≤n∧n≤9223372036854775807)(w0:World)(bP:List aP){b8 cL eL eS:av}(dh:gX h S b8 cL eL eS):eH Tryz.prog 46 [.pointer (some ⟨h.b,0,none⟩),az n] w0 bP [b8,cL,eL,eS] (oD h (ao.hp S n) (.tuple ([]:List Value).toArray)):=by
 refine fF Tryz.func46 rfl Tryz.ntmps46 (Nat.le_of_ble_eq_true rfl) fun cw a w ab U=>?_
 replace U:=fr U
 obtain ⟨l,bK,ht,hk,bV,hH,gM,bB,hl,ij,hx,h5,gS,eE,rfl,rfl,rfl,rfl⟩:=dh
 have e5:=bB.lo
 have gg:=bB.aG
 have ka:=bB.lf
 have kb:=bB.h9
 have cZ:=ao.mX S
 have mq:=ao.nt bB
 replace U:=fr U
 refine du<|aE ab U (ai rfl<|ai rfl<|ag (bI rfl)<|ag (aV iP rfl rfl (s':=0) aA)<|ah) fun a w ab U=>aH ab U rfl (c7 bG 0 rfl rfl rfl rfl (by simp)) ?_
 rintro _ _ _ a w ⟨rfl,rfl,rfl⟩ ab U
 replace U:aC _ (_) (.blk _ _ ([_,_,_,_,_].set 4 _)::_::_::_::_) _:=U
 simp only [List.set_cons_zero,List.set_cons_succ] at U
 replace U:=fr U
 refine wpList_nil ?_
 -- falls off the end
 exact cQ (rs:=[]) rfl ab U (vs:=[]) trivial [] [_,_,_,_] ae ae (ao.iF (S:=ao.hp S n) ⟨rfl,rfl,_,_,_,_,rfl,⟨n,bK,ht,hk,bV,hH,gM,(ao.acx bB bA.2),rfl,bA.1,hx,h5,gS,eE,rfl,rfl,rfl,rfl⟩⟩ (rfl) (rfl))
end
section
theorem q3:a1 Tryz.prog 121 (.map 3 126) 1 8 (Value.map none):=⟨Tryz.underlying121,by kernel_rfl⟩
theorem jz:a1 Tryz.prog 126 (.array 64 5) 64 64 (.agg (List.replicate 64 (Value.int .u8 0)).toArray):=⟨Tryz.underlying126,by kernel_rfl⟩
theorem EF:bU Tryz.prog 66:=bY Tryz.func66
theorem K5:bU Tryz.prog 182:=bY Tryz.func182
theorem Kg(h:ao.hr)(S:ao.aX)(i:Int)(aG : -9223372036854775808≤i∧i≤9223372036854775807)(w0:World)(bP:List aP){b8 cL eL eS:av}(dh:gX h S b8 cL eL eS):eH Tryz.prog 29 [.pointer (some ⟨h.b,0,none⟩),az i] w0 bP [b8,cL,eL,eS] (oD h (S) (.tuple [vs (ao.read S i).1,az (ao.read S i).2].toArray)):=by
 refine fF Tryz.func29 rfl Tryz.ntmps29 (Nat.le_of_ble_eq_true rfl) fun cw a w ab U=>?_
 replace U:=fr U
 refine aB ab U (ar rfl<|ar rfl<|ah) fun a w ab U=>ax fun cm bD=>a8 fun dH cf=>aE ab U (ai rfl<|ai rfl<|ah) fun a w ab U=>aH ab U rfl (dy EF rfl (List.Perm.refl _) (by exact (D7 _ _ _ _ _  dh))) ?_
 rintro _ _ _ a w ⟨_,_,rfl,rfl,⟨rfl,rfl,sn,sq,sr,su,rfl,m1⟩⟩ ab U
 replace U:=fr U
 refine aE ab U (ar rfl<|ah) fun a w ab U=>wpList_nil (cf _ _ ?_)
 refine aB ab U (ai rfl<|ag (dM rfl rfl)<|ah) fun a w ab U=>eP ab rfl (fun aS=>?_) (fun aS=>?_)
 ·refine ax fun dw b3=>bq ab U (ai rfl<|ar rfl<|ar rfl<|ah) fun a w ab U=>b3 _ _ ?_
  refine wp_ret<|cQ (rs:=[.tmp 4,.tmp 5]) rfl ab U (vs:=[_,_]) ⟨rfl,rfl,trivial⟩ [] [_,_,_,_] ae ae (ao.iF (S:=S) ⟨rfl,rfl,_,_,_,_,rfl,m1⟩ (rfl) (by rw [ao.Hv aS]))
 ·have h6:ao.check S i=0:=by omega
  obtain ⟨nF,gG⟩:=ao.Av h6
  obtain ⟨l,bK,ht,hk,bV,hH,gM,bB,hl,ij,hx,h5,gS,eE,rfl,rfl,rfl,rfl⟩:=m1
  have e5:=bB.lo
  have gg:=bB.aG
  have ka:=bB.lf
  have kb:=bB.h9
  have cZ:=ao.mX S
  have mq:=ao.nt bB
  replace U:=fr U
  have rV:=ao.Ou bB gG
  refine wp_skip<|bD _ _<|ax fun et cz=>a8 fun eU cO=>aE ab U (ai rfl<|ag (bI rfl)<|ag (aV iP rfl rfl (s':=0) aA)<|ag (bc q3 0 rfl rfl rfl rfl)<|ai rfl<|ag (adN q3 jz (vM bG) 2 rfl rfl rfl hx.1 (fun _ _=>trivial) trivial (ao.Oo gS gG) (ao.acY gS gG))<|ai rfl<|ag (cE rfl rfl)<|ag (cE rfl rfl)<|ah) fun a w ab U=>?_
  refine aH ab U rfl (c1 jz) ?_
  rintro _ _ _ a w ⟨Ah,rfl,rfl,rfl⟩ ab U
  rw [show List.replicate 64 (Value.int .u8 0)=(List.replicate 64 (0:UInt8)).map bf from by rw [List.map_replicate] <;> rfl] at U
  refine aH ab U rfl (cA jz 0 rfl rfl rfl rfl aI bJ aI) ?_
  rintro _ _ _ a w ⟨rfl,rfl,rfl⟩ ab U
  replace U:=iq U
  refine aE ab U (ar rfl<|ah) fun a w ab U=>wpList_nil (cO _ _ ?_)
  refine aB ab U (ai rfl<|ah) fun a w ab U=>cX ab rfl (fun bs=>?_) (fun bs=>?_)
  ·refine ax fun fY dg=>bq ab U (ag (qY jz bF rfl)<|ag (yP bS bz bF 0 rfl rfl aI)<|ar rfl<|ar rfl<|ah) fun a w ab U=>dg _ _ ?_
   refine wp_ret ?_
   replace U:=(((U.perm (.swap _ _ _)).perm hF).perm j1).perm kr
   exact cQ (rs:=[.tmp 4,.tmp 5]) rfl ab U (vs:=[_,_]) ⟨rfl,rfl,trivial⟩ [] [_,_,_,_] ae (ae.n.k.k.k.k) (ao.iF (S:=S) ⟨rfl,rfl,_,_,_,_,rfl,⟨l,bK,ht,hk,bV,hH,gM,bB,hl,ij,hx,h5,gS,eE,rfl,rfl,rfl,rfl⟩⟩ (rfl) (by rw [ao.PC h6 bs,ao.G4 bs]))
  ·refine wp_skip<|cz _ _<|aB ab U (ai rfl<|ag (bI rfl)<|ag (aV iP rfl rfl (s':=0) aA)<|ag (bc k6 1 rfl rfl rfl rfl)<|ai rfl<|ag (ft k6 jz 2 rfl rfl rfl (by omega))<|ag (ad0 jz bF 2 rfl rfl (by omega))<|ag (adl bS bz bF 2 rfl (ao.mX S).symm (ao.nt bB) rfl (by omega))<|ar rfl<|ar rfl<|ah) fun a w ab U=>wp_ret ?_
   replace U:=(((U.perm (.swap _ _ _)).perm hF).perm j1).perm kr
   exact cQ (rs:=[.tmp 4,.tmp 5]) rfl ab U (vs:=[_,_]) ⟨rfl,rfl,trivial⟩ [] [_,_,_,_] ae (ae.n.k.k.k.k) (ao.iF (S:=S) ⟨rfl,rfl,_,_,_,_,rfl,⟨l,bK,ht,hk,bV,hH,gM,bB,hl,ij,hx,h5,gS,eE,rfl,rfl,rfl,rfl⟩⟩ (rfl) (by rw [ao.Cu h6 (by rw [bs];simp),ao.uZ gG]))
theorem Um(h:ao.hr)(S:ao.aX)(i:Int)(aG : -9223372036854775808≤i∧i≤9223372036854775807)(t:List UInt8)(w0:World)(bP:List aP){b8 cL eL eS:av}(dh:gX h S b8 cL eL eS):eH Tryz.prog 150 [.pointer (some ⟨h.b,0,none⟩),az i,vs t] w0 bP [b8,cL,eL,eS] (oD h ((ao.write S i t).1) (az (ao.write S i t).2)):=by
 refine fF Tryz.func150 rfl Tryz.ntmps150 (Nat.le_of_ble_eq_true rfl) fun cw a w ab U=>?_
 replace U:=fr U
 refine aB ab U (ar rfl<|ah) fun a w ab U=>ax fun cm bD=>a8 fun dH cf=>aE ab U (ai rfl<|ai rfl<|ah) fun a w ab U=>aH ab U rfl (dy EF rfl (List.Perm.refl _) (by exact (D7 _ _ _ _ _  dh))) ?_
 rintro _ _ _ a w ⟨_,_,rfl,rfl,⟨rfl,rfl,sn,sq,sr,su,rfl,m1⟩⟩ ab U
 replace U:=fr U
 refine aE ab U (ar rfl<|ah) fun a w ab U=>wpList_nil (cf _ _ ?_)
 refine aB ab U (ai rfl<|ag (dM rfl rfl)<|ah) fun a w ab U=>eP ab rfl (fun aS=>?_) (fun aS=>?_)
 ·refine ax fun dw b3=>bq ab U (ai rfl<|ar rfl<|ah) fun a w ab U=>b3 _ _ ?_
  refine wp_ret<|cQ (rs:=[.tmp 6]) rfl ab U (vs:=[_]) ⟨rfl,trivial⟩ [] [_,_,_,_] ae ae (ao.iF (S:=S) ⟨rfl,rfl,_,_,_,_,rfl,m1⟩ (by rw [ao.zT aS]) (by rw [ao.zT aS]))
 ·have h6:ao.check S i=0:=by omega
  obtain ⟨nF,gG⟩:=ao.Av h6
  refine wp_skip<|bD _ _<|ax fun et cz=>aB ab U (ai rfl<|ag (hB bz rfl)<|ag (dM rfl rfl)<|ah) fun a w ab U=>eP ab rfl (fun bs=>?_) (fun bs=>?_)
  ·refine ax fun e1 cF=>bq ab U (ar rfl<|ah) fun a w ab U=>cF _ _ ?_
   refine wp_ret<|cQ (rs:=[.tmp 6]) rfl ab U (vs:=[_]) ⟨rfl,trivial⟩ [] [_,_,_,_] ae ae (ao.iF (S:=S) ⟨rfl,rfl,_,_,_,_,rfl,m1⟩ (by rw [ao.IE h6 (by omega)]) (by rw [ao.IE h6 (by omega)]))
  ·have e4:t.length=64:=by omega
   refine wp_skip<|cz _ _<|ax fun fY dg=>a8 fun hE dS=>aE ab U (ai rfl<|ah) fun a w ab U=>?_
   refine aH ab U rfl (dy K5 rfl (List.Perm.refl _) (by exact (Kj _ _ _ _  m1))) ?_
   rintro _ _ _ a w ⟨_,_,rfl,rfl,⟨rfl,rfl,Ho,Hp,Hq,Hr,rfl,pI⟩⟩ ab U
   replace U:=fr U
   refine aE ab U (ar rfl<|ah) fun a w ab U=>wpList_nil (dS _ _ ?_)
   refine aB ab U (ai rfl<|ag (dM rfl rfl)<|ah) fun a w ab U=>eP ab rfl (fun b7=>?_) (fun b7=>?_)
   ·refine ax fun iE eO=>bq ab U (ai rfl<|ar rfl<|ah) fun a w ab U=>eO _ _ ?_
    refine wp_ret<|cQ (rs:=[.tmp 6]) rfl ab U (vs:=[_]) ⟨rfl,trivial⟩ [] [_,_,_,_] ae ae (ao.iF (S:=(ao.step S).1) ⟨rfl,rfl,_,_,_,_,rfl,pI⟩ (by rw [ao.wR h6 e4 b7]) (by rw [ao.wR h6 e4 b7]))
   ·have bC:(ao.step S).2=0:=by omega
    have tH:0≤i∧i<(ao.step S).1.s.length:=by rw [ao.CM];exact gG
    obtain ⟨l,bK,ht,hk,bV,hH,gM,bB,hl,ij,hx,h5,gS,eE,rfl,rfl,rfl,rfl⟩:=pI
    have e5:=bB.lo
    have gg:=bB.aG
    have ka:=bB.lf
    have kb:=bB.h9
    have cZ:=ao.mX (ao.step S).1
    have mq:=ao.nt bB
    replace U:=fr U
    refine wp_skip<|dg _ _<|ax fun iv eD=>?_
    revert U;revert ab;apply ho (J:=uJ (α0:=Value) (α1:=aP) (α2:=List MapEntry) (α3:=Nat) 32 _ _ _ _ _) #[false,false,false,false,false,false,false,false,false,false] 10 mixed rfl rfl
    ·intro w ab U
     refine aR 0 rfl ab (U.ak ae (ae.n.n.n.n)) (bE rfl) fun a ab=>aR 1 rfl ab (U.ak ae (ae.n.n.n.n)) (bI rfl) fun a ab=>aR 2 rfl ab (U.ak ae (ae.n.n.n.n)) (aV iP rfl rfl (s':=0) aA) fun a ab=>aR 3 rfl ab (U.ak ae (ae.n.n.n.k)) (bc q3 0 rfl rfl rfl rfl) fun a ab=>aR 4 rfl ab (U.ak ae (ae.n.n.n.n)) (bE rfl) fun a ab=>?_
     refine aR 5 rfl ab (U.ak ae (ae.n.n.n.n)) (bE rfl) fun a ab=>bW 6 rfl rfl ab U rfl (s8 bz bS bF rfl (by omega)) ?_
     rintro zL _ _ a w ⟨R1,rfl,rfl,BD⟩ ab U
     refine ⟨⟨al,.inr (U.ak (ae.n) (ae.n.n.n.n)),.inr (U.ak (ae.n) (ae.n.n.n.k)),.inr (U.ak (ae.n) (ae.n.n.n.n)),.inr (U.ak (ae.n) (ae.n.n.n.n)),.inr (U.ak (ae.n) (ae.n.n.n.n)),trivial⟩,?_⟩
     refine aR 7 rfl ab (U.ak ae (ae.n.n.n.n)) (Hl jz BD rfl aI (by decide)) fun a ab=>aR 8 rfl ab (U.ak ae (ae.n.n.n.n)) (Hd jz BD (.inr (by simp)) rfl rfl aI (by decide)) fun a ab=>bW 9 rfl rfl ab U rfl (Eh q3 (vM bG) 2 rfl rfl rfl rfl hx (fun _ _=>trivial) trivial) ?_
     rintro _ _ _ a w ⟨AH,As,rF,rfl,rfl,rfl⟩ ab U
     replace U:=qR U
     refine ⟨⟨al,al,al,al,al,al,al,al,trivial⟩,?_⟩
     exact ei aA (qN zL R1 AH As ((And.intro BD (And.intro rF trivial))) (ab.sub (L':=[]) trivial) U)
    rintro a w ⟨zL,R1,AH,As,⟨BD,rF, -⟩,ab,U⟩
    (try dsimp only at ab U)
    refine eD _ _<|aB ab U (ar rfl<|ah) fun a w ab U=>wp_ret ?_
    exact cQ (rs:=[.tmp 6]) rfl ab U (vs:=[_]) ⟨rfl,trivial⟩ [] [_,_,_,_] (ae.n) ae (ao.iF (S:=ao.mark (ao.step S).1 i t) ⟨rfl,rfl,_,_,_,_,rfl,⟨l,_,_,_,bV,hH,gM,(ao.N8 bB tH e4),hl,ij,rF,h5,(gS.put (ao.acZ tH t)),(eE.eq (ao.Dc tH rfl)),rfl,(by rw [ao.abw tH,ao.NC]),rfl,rfl⟩⟩ (by rw [ao.wS h6 e4 bC]) (by rw [ao.wS h6 e4 bC]))
end
section
theorem CU:a1 Tryz.prog 122 (.map 3 4) 1 8 (Value.map none):=⟨Tryz.underlying122,by kernel_rfl⟩
theorem Ki(h:ao.hr)(S:ao.aX)(i p:Int)(aG:0≤i∧i<S.s.length)(aT:(S.at i).dt=true)(bN : -9223372036854775808≤p∧p≤9223372036854775807)(w0:World)(bP:List aP){b8 cL eL eS:av}(dh:gX h S b8 cL eL eS):eH Tryz.prog 89 [.pointer (some ⟨h.b,0,none⟩),az i,az p] w0 bP [b8,cL,eL,eS] (oD h (S.put i (ao.jg (S.at i) p)) (.tuple ([]:List Value).toArray)):=by
 refine fF Tryz.func89 rfl Tryz.ntmps89 (Nat.le_of_ble_eq_true rfl) fun cw a w ab U=>?_
 replace U:=fr U
 obtain ⟨l,bK,ht,hk,bV,hH,gM,bB,hl,ij,hx,h5,gS,eE,rfl,rfl,rfl,rfl⟩:=dh
 have e5:=bB.lo
 have gg:=bB.aG
 have ka:=bB.lf
 have kb:=bB.h9
 have cZ:=ao.mX S
 have mq:=ao.nt bB
 replace U:=fr U
 have rV:=ao.Ou bB aG
 have vr:((ao.bl S).getD i.toNat []).length=64:=by rw [ao.uZ aG];exact (bB.at aG).1
 refine a8 fun dW cR=>aE ab U (ai rfl<|ag (bI rfl)<|ag (aV iP rfl rfl (s':=0) aA)<|ag (bc q3 0 rfl rfl rfl rfl)<|ai rfl<|ag (OU q3 jz (vM bG) 2 rfl rfl rfl hx.1 (fun _ _=>trivial) trivial (ao.Oo gS aG))<|ah) fun a w ab U=>aH ab U rfl (c1 jz) ?_
 rintro _ _ _ a w ⟨b6,rfl,rfl,rfl⟩ ab U
 rw [show List.replicate 64 (Value.int .u8 0)=(List.replicate 64 (0:UInt8)).map bf from by rw [List.map_replicate] <;> rfl] at U
 refine aH ab U rfl (cA jz 0 rfl rfl rfl rfl aI bJ aI) ?_
 rintro _ _ _ a w ⟨rfl,rfl,rfl⟩ ab U
 replace U:=iq U
 refine wpList_nil (cR _ _ ?_)
 refine a8 fun cm bD=>aE ab U (ai rfl<|ag (bI rfl)<|ag (aV iP rfl rfl (s':=0) aA)<|ag (bc q3 1 rfl rfl rfl rfl)<|ai rfl<|ah) fun a w ab U=>aH ab U rfl (UC q3 (vM bG) 3 rfl rfl rfl hx (fun _ _=>trivial) trivial) ?_
 rintro _ _ _ a w ⟨AH,As,rF,rfl,rfl⟩ ab U
 replace U:=iq U
 refine wpList_nil (bD _ _ ?_)
 refine ax fun dH cf=>za mixed aA U ?_
 refine ji ab (ai rfl<|ag (bI rfl)<|ag (aV iP rfl rfl (s':=0) aA)<|ag (bc CU 1 rfl rfl rfl rfl)<|ai rfl<|ag (OU CU fg (vM bG) 4 rfl rfl rfl h5.1 (fun _ _=>trivial) trivial (ao.ahw eE aG))<|ag (fC rfl)<|ai rfl<|ah) fun a ab=>IC 7 25 9 ab rfl rfl rfl rfl rfl (fun aO=>have aO:=aO;aN 25 rfl rfl rfl (fW jz 0 rfl rfl aI rfl)<|aN 25 rfl rfl rfl (bE rfl)<|aN 25 rfl rfl rfl (bI rfl)<|aN 25 rfl rfl rfl (aV iP rfl rfl (s':=0) aA)<|aN 25 rfl rfl rfl (bc k6 1 rfl rfl rfl rfl)<|aN 25 rfl rfl rfl (bE rfl)<|aN 25 rfl rfl rfl (ft k6 jz 2 rfl rfl rfl (by omega))<|aN 25 rfl rfl rfl (adE jz 2 rfl (ao.nt bB) rfl (by omega) (by decide) rfl)<|aN 25 rfl rfl rfl (OW jz bF aA rfl rfl aI aI)<|ah) rfl rfl fun a ab=>?_
 refine zQ ?_
 clear U;intro w U
 refine cf _ _<|cX ab rfl (fun aS=>?_) (fun aS=>?_)
 ·(try simp only [c2] at aS)
  refine h2 11 mixed aA ab U (ai rfl<|ag (bI rfl)<|ag (aV iP rfl rfl (s':=0) aA)<|ag (bc k6 1 rfl rfl rfl rfl)<|ai rfl<|ag (ft k6 jz 2 rfl rfl rfl (by omega))<|ai rfl<|ag (Hi rfl rfl)<|ag (sj rfl rfl)<|ag (ad1 jz bF 2 rfl rfl rfl (by omega) (by omega))<|ag (qY jz bF rfl)<|ah) fun a w ab U=>aH ab U rfl (UA bS bF 2 0 rfl rfl mq cZ.symm rfl rfl (by omega) (by omega) rV) ?_
  rintro _ _ _ a w ⟨rfl,rfl,rfl⟩ ab U
  replace U:=iq U
  refine wpList_nil ?_
  -- falls off the end
  replace U:=(((U.perm (.swap _ _ _)).perm hF).perm j1).perm kr
  exact cQ (rs:=[]) rfl ab U (vs:=[]) trivial [] [_,_,_,_] ae (ae.n.k.k.k.k) (ao.iF (S:=S.put i (ao.jg (S.at i) p)) ⟨rfl,rfl,_,_,_,_,rfl,⟨l,_,_,_,bV,hH,gM,(bB.put (ao.HW (bB.at aG) aT p)),hl,ij,rF,h5,(gS.del (ao.Ot aG rfl)),(eE.eq (ao.Dc aG rfl)),rfl,(by rw [ao.Qt,← ao.afH aG aT (by simpa using aS.1)];try rfl),rfl,rfl⟩⟩ (rfl) (rfl))
 ·(try simp only [c2] at aS)
  refine wp_skip ?_
  -- falls off the end
  replace U:=(((U.perm (.swap _ _ _)).perm hF).perm j1).perm kr
  exact cQ (rs:=[]) rfl ab U (vs:=[]) trivial [] [_,_,_,_] ae (ae.n.k.k.k.k) (ao.iF (S:=S.put i (ao.jg (S.at i) p)) ⟨rfl,rfl,_,_,_,_,rfl,⟨l,_,_,_,bV,hH,gM,(bB.put (ao.HW (bB.at aG) aT p)),hl,ij,rF,h5,(gS.del (ao.Ot aG rfl)),(eE.eq (ao.Dc aG rfl)),rfl,(by rw [ao.Qt,← ao.afI bB aG aT (aS.imp (fun cC=>by simpa using cC) (fun cC=>by simpa using cC))]),rfl,rfl⟩⟩ (rfl) (rfl))
theorem Uj(h:ao.hr)(S:ao.aX)(i b:Int)(aG : -9223372036854775808≤i∧i≤9223372036854775807)(au : -9223372036854775808≤b∧b≤9223372036854775807)(w0:World)(bP:List aP){b8 cL eL eS:av}(dh:gX h S b8 cL eL eS):eH Tryz.prog 28 [.pointer (some ⟨h.b,0,none⟩),az i,az b] w0 bP [b8,cL,eL,eS] (oD h ((ao.gN S i b).1) (az (ao.gN S i b).2)):=by
 refine fF Tryz.func28 rfl Tryz.ntmps28 (Nat.le_of_ble_eq_true rfl) fun cw a w ab U=>?_
 replace U:=fr U
 obtain ⟨l,bK,ht,hk,bV,hH,gM,bB,hl,ij,hx,h5,gS,eE,rfl,rfl,rfl,rfl⟩:=dh
 have e5:=bB.lo
 have gg:=bB.aG
 have ka:=bB.lf
 have kb:=bB.h9
 have cZ:=ao.mX S
 have mq:=ao.nt bB
 replace U:=fr U
 refine aB ab U (ar rfl<|ah) fun a w ab U=>ax fun cm bD=>a8 fun dH cf=>aE ab U (ai rfl<|ag (cK rfl rfl)<|ai rfl<|ah) fun a w ab U=>fS 2 9 7 ab U rfl rfl rfl rfl rfl (fun aO=>have aO:=(by first | exact of_decide_eq_false aO | exact aO);aN 9 rfl rfl rfl (bE rfl)<|aN 9 rfl rfl rfl (bE rfl)<|aN 9 rfl rfl rfl (bI rfl)<|aN 9 rfl rfl rfl (aV iP rfl rfl (s':=0) aA)<|aN 9 rfl rfl rfl (bc k6 0 rfl rfl rfl rfl)<|aN 9 rfl rfl rfl (hX k6 1 rfl rfl)<|aN 9 rfl rfl rfl (jH rfl rfl)<|ah) rfl rfl fun a w ab U=>?_
 refine aE ab U (ai rfl<|ah) fun a w ab U=>fS 11 18 2 ab U rfl rfl rfl rfl rfl (fun aO=>have aO:=aO;aN 18 rfl rfl rfl (bE rfl)<|aN 18 rfl rfl rfl (cK rfl rfl)<|ah) rfl rfl fun a w ab U=>?_
 refine aE ab U (ai rfl<|ah) fun a w ab U=>fS 15 22 2 ab U rfl rfl rfl rfl rfl (fun aO=>have aO:=aO;aN 22 rfl rfl rfl (bE rfl)<|aN 22 rfl rfl rfl (jH rfl rfl)<|ah) rfl rfl fun a w ab U=>?_
 refine wpList_nil (cf _ _ ?_)
 refine cX ab rfl (fun aS=>?_) (fun aS=>?_)
 ·(try simp only [c2] at aS)
  refine aB ab U (ar rfl<|ah) fun a w ab U=>wp_ret ?_
  exact cQ (rs:=[.tmp 6]) rfl ab U (vs:=[_]) ⟨rfl,trivial⟩ [] [_,_,_,_] ae ae (ao.iF (S:=S) ⟨rfl,rfl,_,_,_,_,rfl,⟨l,bK,ht,hk,bV,hH,gM,bB,hl,ij,hx,h5,gS,eE,rfl,rfl,rfl,rfl⟩⟩ (by rw [ao.wm (by omega)]) (by rw [ao.wm (by omega)]))
 ·(try simp only [c2] at aS)
  have gG:0≤i∧i<S.s.length:=by omega
  have tA:0≤b∧b<512:=by omega
  refine wp_skip<|bD _ _<|ax fun dw b3=>h2 16 mixed aA ab U (ai rfl<|ag (bI rfl)<|ag (aV iP rfl rfl (s':=0) aA)<|ag (bc k6 0 rfl rfl rfl rfl)<|ai rfl<|ai rfl<|ag (nL rfl rfl (by omega))<|ag (ft k6 jz 1 rfl rfl rfl (by omega))<|ag (OO jz bF 1 rfl rfl rfl (by omega) (by omega))<|ag (yX bF 1 rfl rfl (KK mq (k:=i.toNat) (i:=(b/8).toNat) (by omega) (by omega)) rfl)<|ai rfl<|ag (mI rfl rfl (by omega))<|ag (OZ (p:=1) rfl rfl (by omega))<|ag (uk rfl rfl)<|ag (ft k6 jz 1 rfl rfl rfl (by omega))<|ag (OO jz bF 1 rfl rfl rfl (by omega) (by omega))<|ah) fun a w ab U=>aH ab U rfl (UG bF 1 rfl rfl rfl (by omega) rfl) ?_
  rintro _ _ _ a w ⟨rfl,rfl,rfl⟩ ab U
  replace U:=fr U
  refine wpList_nil ?_
  rw [KL mq (by omega) (by omega)] at U
  refine b3 _ _<|aB ab U (ar rfl<|ah) fun a w ab U=>wp_ret ?_
  exact cQ (rs:=[.tmp 6]) rfl ab U (vs:=[_]) ⟨rfl,trivial⟩ [] [_,_,_,_] ae ae (ao.iF (S:=S.put i ⟨ao.flip (S.at i).tx b,(S.at i).nx,(S.at i).dt,(S.at i).wn⟩) ⟨rfl,rfl,_,_,_,_,rfl,⟨l,bK,ht,hk,bV,hH,gM,(bB.put ⟨by rw [ao.KP];exact (bB.at gG).1,(bB.at gG).2⟩),hl,ij,hx,h5,(gS.eq (ao.Oq gG rfl rfl)),(eE.eq (ao.Dc gG rfl)),rfl,(by rw [ao.pZ,← ao.aeR gG];rfl),rfl,rfl⟩⟩ (by rw [ao.zd gG tA]) (by rw [ao.zd gG tA]))
theorem Ul(h:ao.hr)(S:ao.aX)(i:Int)(aG : -9223372036854775808≤i∧i≤9223372036854775807)(w0:World)(bP:List aP){b8 cL eL eS:av}(dh:gX h S b8 cL eL eS):eH Tryz.prog 84 [.pointer (some ⟨h.b,0,none⟩),az i] w0 bP [b8,cL,eL,eS] (oD h ((ao.k7 S i).1) (az (ao.k7 S i).2)):=by
 refine fF Tryz.func84 rfl Tryz.ntmps84 (Nat.le_of_ble_eq_true rfl) fun cw a w ab U=>?_
 replace U:=fr U
 obtain ⟨l,bK,ht,hk,bV,hH,gM,bB,hl,ij,hx,h5,gS,eE,rfl,rfl,rfl,rfl⟩:=dh
 have e5:=bB.lo
 have gg:=bB.aG
 have ka:=bB.lf
 have kb:=bB.h9
 have cZ:=ao.mX S
 have mq:=ao.nt bB
 replace U:=fr U
 refine aB ab U (ar rfl<|ah) fun a w ab U=>ax fun cm bD=>a8 fun dH cf=>aE ab U (ai rfl<|ag (cK rfl rfl)<|ai rfl<|ah) fun a w ab U=>fS 2 7 7 ab U rfl rfl rfl rfl rfl (fun aO=>have aO:=(by first | exact of_decide_eq_false aO | exact aO);aN 7 rfl rfl rfl (bE rfl)<|aN 7 rfl rfl rfl (bE rfl)<|aN 7 rfl rfl rfl (bI rfl)<|aN 7 rfl rfl rfl (aV iP rfl rfl (s':=0) aA)<|aN 7 rfl rfl rfl (bc k6 0 rfl rfl rfl rfl)<|aN 7 rfl rfl rfl (hX k6 1 rfl rfl)<|aN 7 rfl rfl rfl (jH rfl rfl)<|ah) rfl rfl fun a w ab U=>?_
 refine wpList_nil (cf _ _ ?_)
 refine cX ab rfl (fun aS=>?_) (fun aS=>?_)
 ·(try simp only [c2] at aS)
  refine aB ab U (ar rfl<|ah) fun a w ab U=>wp_ret ?_
  exact cQ (rs:=[.tmp 4]) rfl ab U (vs:=[_]) ⟨rfl,trivial⟩ [] [_,_,_,_] ae ae (ao.iF (S:=S) ⟨rfl,rfl,_,_,_,_,rfl,⟨l,bK,ht,hk,bV,hH,gM,bB,hl,ij,hx,h5,gS,eE,rfl,rfl,rfl,rfl⟩⟩ (by rw [ao.C4 (by omega)]) (by rw [ao.C4 (by omega)]))
 ·(try simp only [c2] at aS)
  have gG:0≤i∧i<S.s.length:=by omega
  refine wp_skip<|bD _ _<|a8 fun dw b3=>aE ab U (ai rfl<|ag (bI rfl)<|ag (aV iP rfl rfl (s':=0) aA)<|ag (bc CU 0 rfl rfl rfl rfl)<|ai rfl<|ah) fun a w ab U=>aH ab U rfl (Eh CU (vM bG) 3 rfl rfl rfl rfl h5 (fun _ _=>trivial) trivial) ?_
  rintro _ _ _ a w ⟨AH,As,rF,rfl,rfl,rfl⟩ ab U
  replace U:=fr U
  refine wpList_nil (b3 _ _ ?_)
  refine aB ab U (ar rfl<|ah) fun a w ab U=>wp_ret ?_
  exact cQ (rs:=[.tmp 4]) rfl ab U (vs:=[_]) ⟨rfl,trivial⟩ [] [_,_,_,_] ae ae (ao.iF (S:=S.put i ⟨(S.at i).tx,(S.at i).nx,(S.at i).dt,true⟩) ⟨rfl,rfl,_,_,_,_,rfl,⟨l,bK,ht,hk,_,_,_,(bB.put (bB.at gG)),hl,ij,hx,rF,(gS.eq (ao.Oq gG rfl rfl)),(eE.put (ao.ahx gG rfl)),rfl,(by rw [ao.pZ,ao.ahc gG]),rfl,rfl⟩⟩ (by rw [ao.C5 gG]) (by rw [ao.C5 gG]))
end
section
theorem Vo:bU Tryz.prog 134:=bY Tryz.func134
theorem Vp:bU Tryz.prog 135:=bY Tryz.func135
abbrev R6:=ao.zY 124 126 3
abbrev ahQ:=ao.zY 124 126 9
abbrev R5:=ao.R8 124 126
abbrev ahP:=ao.R7 124 126
theorem afU:Go.Proofs.AnyZI.SortsIn Tryz.prog Nq Fence.wide 4:=⟨fun blk off cap ss W E7 Fv dZ=>callsIn_wide.2 (Go.Proofs.AnyM.slices_Sort_int Ns blk off cap ss W E7 Fv dZ),fun p cap W=>callsIn_wide.2 (Go.Proofs.AnyM.slices_Sort_int_none Ns p cap W)⟩
theorem aaC(b:Nat)(w:World):ch Tryz.prog 135 [.map (some b)] w (fun r zs hs=>∃ e,r=.func (.func 164) (List.nil:List Value).toArray [Value.pointer (some ⟨e,0,none⟩)].toArray∧zs=[]∧hs=[.blk e 121 [.map (some b)]]):=by
 refine cI Tryz.func135 rfl Tryz.ntmps135 (Nat.le_of_ble_eq_true rfl) fun a ab U=>a8 fun dW cR=>aH ab U rfl (m0 rfl rfl) ?_
 rintro _ _ _ a w ⟨b6,rfl,rfl,rfl⟩ ab U
 refine aE ab U (ar rfl<|ah) fun a w ab U=>wpList_nil (cR _ _ ?_)
 refine aB ab U (ag (sk rfl rfl)<|ar rfl<|ah) fun a w ab U=>wp_ret ?_
 exact bR (rs:=[.tmp 2]) rfl ab U (vs:=[_]) ⟨rfl,trivial⟩ ae ae ⟨_,rfl,rfl,rfl⟩
theorem afQ{l:List (Int×Value)}{es:List MapEntry}{c e b:Nat}(fA:j0 az l es c)(bA:(l.map (·.1)).Nodup)(aD:∀ i∈l.map (·.1), -9223372036854775808≤i∧i≤9223372036854775807)(hl:l.length≤4096)(w0:World)(bP:List aP):eH Tryz.prog 134 [.func (.func 164) (List.nil:List Value).toArray [Value.pointer (some ⟨e,0,none⟩)].toArray] w0 bP [.blk e 121 [.map (some b)],.mp b es c] (fun v dj cV=>dj=[]∧cV=[.row v 3 1 ((l.map (·.1)).mergeSort (fun x y=>decide (x≤y))).length (((l.map (·.1)).mergeSort (fun x y=>decide (x≤y))).map az),.blk e 121 [.map (some b)],.mp b es c]):=afS aa8 abh afU 3 rfl rfl Tryz.underlying3 (Go.Proofs.enters_of Tryz.func163 aA rfl) (Go.Proofs.enters_of Tryz.func164 aA rfl) fA bA aD hl w0 bP
theorem Kf(h:ao.hr)(S:ao.aX)(w0:World)(bP:List aP){b8 cL eL eS:av}(dh:gX h S b8 cL eL eS):eH Tryz.prog 88 [.pointer (some ⟨h.b,0,none⟩)] w0 bP [b8,cL,eL,eS] (R6 h S (ao.hS S).length ((ao.hS S).map az)):=by
 refine fF Tryz.func88 rfl Tryz.ntmps88 (Nat.le_of_ble_eq_true rfl) fun cw a w ab U=>?_
 replace U:=fr U
 obtain ⟨l,bK,ht,hk,bV,hH,gM,bB,hl,ij,hx,h5,gS,eE,rfl,rfl,rfl,rfl⟩:=dh
 have e5:=bB.lo
 have gg:=bB.aG
 have ka:=bB.lf
 have kb:=bB.h9
 have cZ:=ao.mX S
 have mq:=ao.nt bB
 replace U:=fr U
 refine aB ab U (ar rfl<|ah) fun a w ab U=>a8 fun cm bD=>aE ab U (ai rfl<|ag (bI rfl)<|ag (aV iP rfl rfl (s':=0) aA)<|ag (bc q3 0 rfl rfl rfl rfl)<|ah) fun a w ab U=>aH ab U rfl (eB Vp rfl (fun w U=>aaC _ w )) ?_
 rintro _ _ _ a w ⟨_,_,rfl,rfl,⟨aiJ,rfl,rfl,rfl⟩⟩ ab U
 replace U:=iq U
 replace U:=U.perm mf
 replace U:=iq U
 refine aH ab U rfl (dy Vo rfl (List.Perm.refl _) (by exact (afQ hx gS.1 (ao.abS ao.ac0 bB gS) (ao.aa1 bB gS) _ _ (b:=h.p) ))) ?_
 rintro v3 _ _ a w ⟨_,_,rfl,rfl,⟨rfl,rfl⟩⟩ ab U
 replace U:=lB U
 refine aE ab U (ar rfl<|ah) fun a w ab U=>wpList_nil ?_
 rw [ao.M5 gS] at U
 refine bD _ _<|wp_ret ?_
 replace U:=(((U.perm mf).perm oH).perm kr).perm oI
 exact cQ (rs:=[.tmp 2]) rfl ab U (vs:=[_]) ⟨rfl,trivial⟩ [] [_,_,_,_,_] ae (ae.n.k.k.k.k.k) (ao.Uk ⟨rfl,_,_,_,_,rfl,⟨l,bK,ht,hk,bV,hH,gM,bB,hl,ij,hx,h5,gS,eE,rfl,rfl,rfl,rfl⟩⟩ (rfl) (rfl))
end
section
theorem c5:a1 Tryz.prog 22 (.slice 3) 1 24 (Value.slice none 0 0):=⟨Tryz.underlying22,by kernel_rfl⟩
theorem Lm:bU Tryz.prog 88:=bY Tryz.func88
theorem Ln:bU Tryz.prog 89:=bY Tryz.func89
theorem T5(h:ao.hr)(S:ao.aX)(w0:World)(bP:List aP){b8 cL eL eS:av}(dh:gX h S b8 cL eL eS):eH Tryz.prog 151 [.pointer (some ⟨h.b,0,none⟩)] w0 bP [b8,cL,eL,eS] (oD h ((ao.flush S).1) (az (ao.flush S).2)):=by
 refine fF Tryz.func151 rfl Tryz.ntmps151 (Nat.le_of_ble_eq_true rfl) fun cw a w ab U=>?_
 replace U:=fr U
 have bB:=ao.ng.ok dh
 refine aB ab U (ar rfl<|ah) fun a w ab U=>ax fun cm bD=>a8 fun dH cf=>aE ab U (ai rfl<|ah) fun a w ab U=>aH ab U rfl (dy EF rfl (List.Perm.refl _) (by exact (D7 _ _ _ _ _  dh))) ?_
 rintro _ _ _ a w ⟨_,_,rfl,rfl,⟨rfl,rfl,sn,sq,sr,su,rfl,m1⟩⟩ ab U
 replace U:=fr U
 refine aE ab U (ar rfl<|ah) fun a w ab U=>wpList_nil (cf _ _ ?_)
 refine aB ab U (ai rfl<|ag (dM rfl rfl)<|ah) fun a w ab U=>eP ab rfl (fun aS=>?_) (fun aS=>?_)
 ·refine ax fun dw b3=>bq ab U (ai rfl<|ar rfl<|ah) fun a w ab U=>b3 _ _ ?_
  refine wp_ret<|cQ (rs:=[.tmp 2]) rfl ab U (vs:=[_]) ⟨rfl,trivial⟩ [] [_,_,_,_] ae ae (ao.iF (S:=S) ⟨rfl,rfl,_,_,_,_,rfl,m1⟩ (by rw [ao.AL (ao.GY bB aS).1]) (by rw [ao.AL (ao.GY bB aS).1,(ao.GY bB aS).2]))
 ·have h6:ao.check S 0=0:=by omega
  have nF:=(ao.Av h6).1
  refine wp_skip<|bD _ _<|ax fun et cz=>a8 fun eU cO=>aE ab U (ai rfl<|ah) fun a w ab U=>?_
  refine aH ab U rfl (dy K5 rfl (List.Perm.refl _) (by exact (Kj _ _ _ _  m1))) ?_
  rintro _ _ _ a w ⟨_,_,rfl,rfl,⟨rfl,rfl,Ho,Hp,Hq,Hr,rfl,pI⟩⟩ ab U
  replace U:=fr U
  refine aE ab U (ar rfl<|ah) fun a w ab U=>wpList_nil (cO _ _ ?_)
  refine aB ab U (ai rfl<|ag (dM rfl rfl)<|ah) fun a w ab U=>eP ab rfl (fun bs=>?_) (fun bs=>?_)
  ·refine ax fun fY dg=>bq ab U (ai rfl<|ar rfl<|ah) fun a w ab U=>dg _ _ ?_
   refine wp_ret<|cQ (rs:=[.tmp 2]) rfl ab U (vs:=[_]) ⟨rfl,trivial⟩ [] [_,_,_,_] ae ae (ao.iF (S:=(ao.step S).1) ⟨rfl,rfl,_,_,_,_,rfl,pI⟩ (by rw [ao.AM nF bs]) (by rw [ao.AM nF bs]))
  ·have bC:(ao.step S).2=0:=by omega
   have qA:=ao.ir bB
   refine wp_skip<|cz _ _<|ax fun hE dS=>a8 fun gQ dz=>aE ab U (ai rfl<|ah) fun a w ab U=>?_
   refine aH ab U rfl (dy Lm rfl (List.Perm.refl _) (by exact (Kf _ _ _ _  pI))) ?_
   rintro wF _ _ a w ⟨_,_,rfl,rfl,⟨rfl,Cq,Cr,Cs,Ct,rfl,A0⟩⟩ ab U
   replace U:=iq U
   refine aE ab U (ag (hX c5 0 rfl rfl)<|ai rfl<|ah) fun a w ab U=>wpList_nil (dz _ _ ?_)
   refine wp_block ?_
   obtain ⟨bC,aZ,U⟩:=U.cT
   refine df (γ:=av×av×av×av×Nat) (Cq,Cr,Cs,Ct,0) (fun (cj,ck,cr,ct,j)=>[(20,az (j:Int))]) [(0,_),(18,_),(19,_)] (fun (cj,ck,cr,ct,j)=>((((bC.set 1 (cj)).set 2 (ck)).set 3 (cr)).set 4 (ct))) (fun (cj,ck,cr,ct,j)=>j≤(ao.hS (ao.step S).1).length∧gX h (ao.kh (ao.step S).1 [] j) cj ck cr ct) (fun (cj,ck,cr,ct,j)=>(ao.hS (ao.step S).1).length-j) (ab.sub ⟨rfl,rfl,rfl,rfl,trivial⟩) (by subst aZ;exact U) (by exact ⟨Nat.zero_le _,by rw [ao.NS];exact A0⟩) ?_
   rintro ⟨cj,ck,cr,ct,j⟩ a w ba ab U
   subst aZ;(try dsimp only at ba ab U)
   obtain ⟨rS,m2⟩:=ba
   replace U:=iq U
   refine aB ab U (ag (cK rfl rfl)<|ah) fun a w ab U=>ax fun iv eD=>b9 ab rfl (fun b7=>?_) (fun b7=>?_)
   ·obtain ⟨tX,ZF,dZ⟩:=ao.NU (ao.step S).1 [] (j:=j) (by omega)
    have rO:=ao.Ed (ao.step S).1
    have Yg:=qA.aG
    have Yj:=ao.J6 qA (ao.jE (l:=ao.hS (ao.step S).1) (j:=j) (d:=0) (by omega))
    refine wp_skip<|eD _ _<|ax fun kM gr=>wp_block ?_
    refine ax fun jN fa=>bq ab U (ag (ft c5 bG 0 rfl rfl rfl (by omega))<|ag (lE bG 0 (0:Int) rfl rfl aI rfl)<|ar rfl<|ah) fun a w ab U=>?_
    rw [Int.toNat_natCast] at ab
    refine fa _ _<|du ?_
    refine aE ab U (ai rfl<|ai rfl<|ah) fun a w ab U=>?_
    replace U:=(((U.perm (.swap _ _ _)).perm hF).perm j1).perm kr
    replace U:=iq U
    refine aH ab U rfl (dy Ln rfl (List.Perm.refl _) (by exact (Ki _ _ _ _ (by first | assumption | omega) (by assumption) (by omega) _ _  m2))) ?_
    rintro _ _ _ a w ⟨_,_,rfl,rfl,⟨rfl,rfl,ad8,aeb,aee,aeh,rfl,EV⟩⟩ ab U
    replace U:=iq U
    refine wpList_nil (gr _ _ ?_)
    refine bq ab U (bX rfl rfl<|ai rfl<|ah) fun a w ab U=>?_
    replace U:=U.perm kq
    replace U:=U.ak ae ae
    refine ⟨(ad8,aeb,aee,aeh,j+1),?_,?_,ab.sub ⟨rfl,rfl,rfl,rfl,trivial⟩,?_⟩
    ·(try dsimp only);omega
    ·exact ⟨by omega,dZ ▸ EV⟩
    ·exact U
   ·refine wp_exit<|dS _ _<|aB ab U (ar rfl<|ah) fun a w ab U=>wp_ret ?_
    replace U:=(((U.perm (.swap _ _ _)).perm hF).perm j1).perm kr
    exact cQ (rs:=[.tmp 2]) rfl ab U (vs:=[_]) ⟨rfl,trivial⟩ [] [_,_,_,_] ae (ae.n.k.k.k.k) (ao.iF (S:=ao.kh (ao.step S).1 [] j) ⟨rfl,rfl,_,_,_,_,rfl,m2⟩ (by rw [ao.KQ nF bC,show j=(ao.hS (ao.step S).1).length by omega]) (by rw [ao.KQ nF bC]))
theorem J8(h:ao.hr)(S:ao.aX)(gj:Value)(ps:List Int)(w0:World)(bP:List aP)(z:aP)(kF:bg Go.aJ.encI z gj ps)(bj:gp w0 bP z){b8 cL eL eS:av}(dh:gX h S b8 cL eL eS):eH Tryz.prog 50 [.pointer (some ⟨h.b,0,none⟩),gj] w0 bP [b8,cL,eL,eS] (oD h (ao.hz S ps) (.tuple ([]:List Value).toArray)):=by
 refine fF Tryz.func50 rfl Tryz.ntmps50 (Nat.le_of_ble_eq_true rfl) fun cw a w ab U=>?_
 replace U:=fr U
 have bB:=ao.ng.ok dh
 have Bs:=wx kF
 have hK:=kF.1
 refine ax fun dW cR=>a8 fun cm bD=>aE ab U (ai rfl<|ah) fun a w ab U=>aH ab U rfl (dy Lm rfl (List.Perm.refl _) (by exact (Kf _ _ _ _  dh))) ?_
 rintro v1 _ _ a w ⟨_,_,rfl,rfl,⟨rfl,sn,sq,sr,su,rfl,m1⟩⟩ ab U
 replace U:=iq U
 refine aE ab U (ag (hX c5 0 rfl rfl)<|ai rfl<|ah) fun a w ab U=>wpList_nil (bD _ _ ?_)
 refine wp_block ?_
 obtain ⟨bC,aZ,U⟩:=U.cT
 refine df (γ:=av×av×av×av×Nat) (sn,sq,sr,su,0) (fun (cj,ck,cr,ct,j)=>[(10,az (j:Int))]) [(0,_),(1,_),(8,_),(9,_)] (fun (cj,ck,cr,ct,j)=>((((bC.set 1 (cj)).set 2 (ck)).set 3 (cr)).set 4 (ct))) (fun (cj,ck,cr,ct,j)=>j≤(ao.hS S).length∧gX h (ao.kh S ps j) cj ck cr ct) (fun (cj,ck,cr,ct,j)=>(ao.hS S).length-j) (ab.sub ⟨rfl,rfl,rfl,rfl,rfl,trivial⟩) (by subst aZ;exact U) (by exact ⟨Nat.zero_le _,by rw [ao.NS];exact m1⟩) ?_
 rintro ⟨cj,ck,cr,ct,j⟩ a w ba ab U
 subst aZ;(try dsimp only at ba ab U)
 obtain ⟨rS,m2⟩:=ba
 replace U:=iq U
 refine aB ab U (ag (cK rfl rfl)<|ah) fun a w ab U=>ax fun dP cq=>b9 ab rfl (fun aS=>?_) (fun aS=>?_)
 ·obtain ⟨tX,ZF,dZ⟩:=ao.NU S ps (j:=j) (by omega)
  have rO:=ao.Ed S
  have Yg:=bB.aG
  have Yj:=ao.J6 bB (ao.jE (l:=ao.hS S) (j:=j) (d:=0) (by omega))
  have akU:=ao.ac3 Bs j
  refine wp_skip<|cq _ _<|ax fun dw b3=>wp_block ?_
  refine ax fun et cz=>bq ab U (ai rfl<|ag (ft c5 bG 0 rfl rfl rfl (by omega))<|ag (lE bG 0 (0:Int) rfl rfl aI rfl)<|ar rfl<|ar rfl<|ah) fun a w ab U=>?_
  rw [Int.toNat_natCast] at ab
  refine cz _ _<|aB ab U (ar rfl<|ah) fun a w ab U=>?_
  obtain ⟨bC,aZ,U⟩:=U.cT
  refine lK (γ:=Int) (fun (p:Int)=>[(6,az p)]) [(0,_),(1,_),(5,_),(8,_),(9,_),(10,_)] (fun (p:Int)=>bC) (fun (p:Int)=>p=ao.k3 ps j) (ab.sub ⟨rfl,rfl,rfl,rfl,rfl,rfl,trivial⟩) U ?_ ?_
  ·subst aZ
   refine aB ab U (ai rfl<|ai rfl<|ag (dL c5 kF rfl)<|ag (cK rfl rfl)<|ah) fun a w ab U=>b9 ab rfl (fun bs=>?_) (fun bs=>?_)
   ·refine bq ab U (ai rfl<|ai rfl<|ag (dG c5 bG kF rfl rfl (by omega))<|ag (sh bG kF bj rfl rfl (by omega))<|ar rfl<|ah) fun a w ab U=>⟨((ps.getD ((j:Int)).toNat 0)),?_,ab.sub ⟨rfl,rfl,rfl,rfl,rfl,rfl,rfl,trivial⟩,?_⟩
    ·rw [Int.toNat_natCast];exact (ao.Ow (by omega)).symm
    ·exact U
   ·refine wp_skip<|⟨(64),?_,ab.sub ⟨rfl,rfl,rfl,rfl,rfl,rfl,rfl,trivial⟩,?_⟩
    ·exact (ao.Ox (by omega)).symm
    ·exact U
  rintro p a w ba ab U
  subst aZ;(try dsimp only at ba ab U)
  have pO:=ba
  replace U:=iq U
  subst pO
  refine du<|aE ab U (ai rfl<|ai rfl<|ai rfl<|ah) fun a w ab U=>?_
  replace U:=(((U.perm (.swap _ _ _)).perm hF).perm j1).perm kr
  replace U:=iq U
  refine aH ab U rfl (dy Ln rfl (List.Perm.refl _) (by exact (Ki _ _ _ _ (by first | assumption | omega) (by assumption) (by omega) _ _  m2))) ?_
  rintro _ _ _ a w ⟨_,_,rfl,rfl,⟨rfl,rfl,um,uo,uq,ur,rfl,vk⟩⟩ ab U
  replace U:=iq U
  refine wpList_nil (b3 _ _ ?_)
  refine bq ab U (bX rfl rfl<|ai rfl<|ah) fun a w ab U=>?_
  replace U:=U.perm kq
  replace U:=U.ak ae ae
  refine ⟨(um,uo,uq,ur,j+1),?_,?_,ab.sub ⟨rfl,rfl,rfl,rfl,rfl,trivial⟩,?_⟩
  ·(try dsimp only);omega
  ·exact ⟨by omega,dZ ▸ vk⟩
  ·exact U
 ·obtain ⟨lz,Ur,Tn,abq,Ut,To,abr,rG,akG,akF,XC,XE,XN,XP,rfl,rfl,rfl,rfl⟩:=m2
  have akE:=rG.lo
  have aj4:=rG.aG
  have akC:=rG.lf
  have akD:=rG.h9
  have ajH:=ao.mX (ao.kh S ps j)
  have ajI:=ao.nt rG
  replace U:=iq U
  have YM:(ao.hS S).length≤j:=by omega
  refine wp_exit<|cR _ _<|du ?_
  refine aE ab U (ai rfl<|ai rfl<|ag (bI rfl)<|ag (aV iP rfl rfl (s':=0) aA)<|ah) fun a w ab U=>aH ab U rfl (c7 fg 1 rfl rfl rfl rfl (by simp)) ?_
  rintro _ _ _ a w ⟨rfl,rfl,rfl⟩ ab U
  replace U:aC _ (_) (_::.blk _ _ ([_,_,_,_,_].set 3 _)::_::_::_::_) _:=U
  simp only [List.set_cons_zero,List.set_cons_succ] at U
  replace U:=iq U
  refine aE ab U (ag (bI rfl)<|ag (aV iP rfl rfl (s':=0) aA)<|ah) fun a w ab U=>aH ab U rfl (c7 bG 1 rfl rfl rfl rfl (by simp)) ?_
  rintro _ _ _ a w ⟨rfl,rfl,rfl⟩ ab U
  replace U:aC _ (_) (_::.blk _ _ ([_,_,_,_,_].set 4 _)::_::_::_::_) _:=U
  simp only [List.set_cons_zero,List.set_cons_succ] at U
  replace U:=iq U
  refine wpList_nil ?_
  -- falls off the end
  replace U:=(((U.perm (.swap _ _ _)).perm hF).perm j1).perm kr
  exact cQ (rs:=[]) rfl ab U (vs:=[]) trivial [] [_,_,_,_] ae (ae.n.k.k.k.k) (ao.iF (S:=⟨(ao.kh S ps j).s,false, -1⟩) ⟨rfl,rfl,_,_,_,_,rfl,⟨(-1),Ur,Tn,abq,Ut,To,abr,⟨rG.sec,rG.lo,rG.aG,by dsimp only;decide,by dsimp only;decide⟩,rfl,(by decide),XC,XE,XN,XP,rfl,rfl,rfl,rfl⟩⟩ (ao.abT S ps YM) (rfl))
theorem J9(n:Nat)(bA:1≤n∧n≤4096)(w:World):ch Tryz.prog 63 [az (n:Int)] w (R5 (ao.new n) (fun p=>.tuple [p,az 0].toArray)):=by
 refine cI Tryz.func63 rfl Tryz.ntmps63 (Nat.le_of_ble_eq_true rfl) fun a ab U=>aB ab U (ar rfl<|ar rfl<|ah) fun a w ab U=>ax fun cm bD=>a8 fun dH cf=>aE ab U (ai rfl<|ag (cK rfl rfl)<|ai rfl<|ah) fun a w ab U=>?_
 refine fS 2 6 2 ab U rfl rfl rfl rfl rfl (fun aO=>have aO:=(by first | exact of_decide_eq_false aO | exact aO);aN 6 rfl rfl rfl (bE rfl)<|aN 6 rfl rfl rfl (eQ rfl rfl)<|ah) rfl rfl fun a w ab U=>?_
 refine wpList_nil (cf _ _ ?_)
 refine cX ab rfl (fun aS=>?_) (fun aS=>?_)
 ·(try simp only [c2] at aS)
  exfalso;omega
 ·(try simp only [c2] at aS)
  refine wp_skip<|bD _ _<|a8 fun dP cq=>aE ab U (ai rfl<|ah) fun a w ab U=>aH ab U rfl (UD k6 jz rfl rfl (by omega) (by omega) rfl (by decide) (by omega)) ?_
  rintro v1 _ _ a w ⟨rfl,rfl⟩ ab U
  replace U:=eJ U
  refine aH ab U rfl (AE) ?_
  rintro _ _ _ a w ⟨kz,rfl,rfl,rfl⟩ ab U
  replace U:=eK U
  refine aH ab U rfl (AE) ?_
  rintro _ _ _ a w ⟨uV,rfl,rfl,rfl⟩ ab U
  replace U:=ez U
  refine aE ab U (ag (hc (places:=[(0,1),(1,1),(2,1),(3,1),(4,1)]) (cells:=[_,_,_,.bool false,_]) iP aA rfl (td (c:=[_]) (l:=[_,_,_,_,_]) (l':=[_,_,_,_,_]) rfl (s6 (row_one (U.own _ (List.mem_of_getElem? (i:=2) rfl)).1)) rfl (Nat.le_of_ble_eq_true rfl) rfl (td (c:=[_]) (l:=[_,_,_,_,_]) (l':=[_,_,_,_,_]) rfl (s6 rfl) rfl (Nat.le_of_ble_eq_true rfl) rfl (td (c:=[_]) (l:=[_,_,_,_,_]) (l':=[_,_,_,_,_]) rfl (s6 rfl) rfl (Nat.le_of_ble_eq_true rfl) rfl (td (c:=[_]) (l:=[_,_,_,_,_]) (l':=[_,_,_,_,_]) rfl (s6 rfl) rfl (Nat.le_of_ble_eq_true rfl) rfl (KE rfl))))))<|ah) fun a w ab U=>aH ab U rfl (iT rfl) ?_
  rintro _ _ _ a w ⟨Ah,rfl,rfl,rfl⟩ ab U
  refine aE ab U (ar rfl<|ar rfl<|ah) fun a w ab U=>wpList_nil ?_
  rw [ao.ab9] at U
  refine cq _ _<|wp_ret ?_
  replace U:=(U.perm mf).perm j1
  exact bR (rs:=[.tmp 2,.tmp 3]) rfl ab U (vs:=[_,_]) ⟨rfl,rfl,trivial⟩ ae ae ⟨rfl,⟨Ah,v1,kz,uV⟩,_,_,_,_,rfl,rfl,⟨-1,[],0,[],[],0,[],ao.G1 bA.1 bA.2,rfl,by decide,j0.nil,j0.nil,ao.jm.nil (ao.aca n),ao.jm.nil (ao.ace n),rfl,by rw [ao.vR],rfl,rfl⟩⟩
end
section
theorem eT:a1 Tryz.prog 160 (.slice 166) 1 24 (Value.slice none 0 0):=⟨Tryz.underlying160,by kernel_rfl⟩
theorem gT : a1 Tryz.prog 162 (.struct #[⟨ "S", 160, 0, false, "", "", 0⟩, ⟨ "Off", 4, 1, false, "", "", 24⟩, ⟨ "Left", 3, 2, false, "", "", 32⟩]) 3 40 (.agg ([Value.slice none 0 0] ++ [Value.bool false] ++ [Value.int .i64 0]).toArray) := ⟨Tryz.underlying162, by kernel_rfl⟩
theorem eM : a1 Tryz.prog 166 (.struct #[⟨ "Text", 9, 0, false, "", "", 0⟩, ⟨ "Next", 9, 1, false, "", "", 16⟩, ⟨ "Dirty", 4, 2, false, "", "", 32⟩, ⟨ "Worn", 4, 3, false, "", "", 33⟩]) 4 40 (.agg ([Value.string ⟨(List.nil : List UInt8).toArray⟩, Value.string ⟨(List.nil : List UInt8).toArray⟩] ++ [Value.bool false, Value.bool false]).toArray) := ⟨Tryz.underlying166, by kernel_rfl⟩
theorem AP:bU Tryz.prog 127:=bY Tryz.func127
abbrev fh:=ao.xd 162
abbrev fj:=ao.rh 166
abbrev oK:=ao.DF 162 166
abbrev aij:=ao.Jv 162 166 3
abbrev aik:=ao.Jv 162 166 9
theorem PN{b:Nat}{v:Value}{S:ao.aX}(w0:World)(bP:List aP)(bB:ao.Ok S):eH Tryz.prog 159 [.pointer (some ⟨b,0,none⟩)] w0 bP [fh b v S,fj v S] (oK b v (S) (az (S.s.length:Int))):=by
 refine fF Tryz.func159 rfl Tryz.ntmps159 (Nat.le_of_ble_eq_true rfl) fun cw a w ab U=>?_
 replace U:=gw U
 have e5:=bB.lo
 have gg:=bB.aG
 have ka:=bB.lf
 have kb:=bB.h9
 refine aB ab U (ar rfl<|ah) fun a w ab U=>aB ab U (ai rfl<|ag (bI rfl)<|ag (aV gT rfl rfl (s':=0) aA)<|ag (bc eT 0 rfl rfl rfl rfl)<|ag (hX eT 1 rfl rfl)<|ar rfl<|ah) fun a w ab U=>wp_ret ?_
 exact cQ (rs:=[.tmp 2]) rfl ab U (vs:=[_]) ⟨rfl,trivial⟩ [] [_,_] ae ae (ao.je (S:=S) ⟨rfl,rfl,rfl⟩ (rfl) (rfl))
theorem ae6{b:Nat}{v:Value}{S:ao.aX}(n:Int)(w0:World)(bP:List aP)(bB:ao.Ok S):eH Tryz.prog 47 [.pointer (some ⟨b,0,none⟩),az n] w0 bP [fh b v S,fj v S] (oK b v (ao.hp S n) (.tuple ([]:List Value).toArray)):=by
 refine fF Tryz.func47 rfl Tryz.ntmps47 (Nat.le_of_ble_eq_true rfl) fun cw a w ab U=>?_
 replace U:=gw U
 have e5:=bB.lo
 have gg:=bB.aG
 have ka:=bB.lf
 have kb:=bB.h9
 refine du<|aE ab U (ai rfl<|ai rfl<|ag (sj rfl rfl)<|ag (bI rfl)<|ag (aV gT rfl rfl (s':=0) aA)<|ah) fun a w ab U=>aH ab U rfl (c7 bG 0 rfl rfl rfl rfl (by simp)) ?_
 rintro _ _ _ a w ⟨rfl,rfl,rfl⟩ ab U
 replace U:aC _ (_) (.blk _ _ ([_,_,_].set 2 _)::_::_) _:=U
 simp only [List.set_cons_zero,List.set_cons_succ] at U
 replace U:=gw U
 refine wpList_nil ?_
 -- falls off the end
 exact cQ (rs:=[]) rfl ab U (vs:=[]) trivial [] [_,_] ae ae (ao.je (S:=ao.hp S n) ⟨rfl,rfl,rfl⟩ (rfl) (rfl))
theorem Cz{b:Nat}{v:Value}{S:ao.aX}(i:Int)(w0:World)(bP:List aP)(bB:ao.Ok S):eH Tryz.prog 127 [.pointer (some ⟨b,0,none⟩),az i] w0 bP [fh b v S,fj v S] (oK b v (S) (.bool (decide (0≤i∧i<S.s.length)))):=by
 refine fF Tryz.func127 rfl Tryz.ntmps127 (Nat.le_of_ble_eq_true rfl) fun cw a w ab U=>?_
 replace U:=gw U
 have e5:=bB.lo
 have gg:=bB.aG
 have ka:=bB.lf
 have kb:=bB.h9
 refine aB ab U (ar rfl<|ah) fun a w ab U=>a8 fun cm bD=>aE ab U (ai rfl<|ag (jH rfl rfl)<|ai rfl<|ah) fun a w ab U=>jJ 2 7 7 ab U rfl rfl rfl rfl rfl (fun aO=>have aO:=(by first | exact of_decide_eq_true aO | exact aO);aN 7 rfl rfl rfl (bE rfl)<|aN 7 rfl rfl rfl (bE rfl)<|aN 7 rfl rfl rfl (bI rfl)<|aN 7 rfl rfl rfl (aV gT rfl rfl (s':=0) aA)<|aN 7 rfl rfl rfl (bc eT 0 rfl rfl rfl rfl)<|aN 7 rfl rfl rfl (hX eT 1 rfl rfl)<|aN 7 rfl rfl rfl (cK rfl rfl)<|ah) rfl rfl fun a w ab U=>?_
 refine aE ab U (ar rfl<|ah) fun a w ab U=>wpList_nil (bD _ _ ?_)
 refine wp_ret<|cQ (rs:=[.tmp 4]) rfl ab U (vs:=[_]) ⟨rfl,trivial⟩ [] [_,_] ae ae (ao.je (S:=S) ⟨rfl,rfl,rfl⟩ (rfl) (by show Value.bool _=_;congr 1;rw [Bool.eq_iff_iff];simp))
theorem P6{b:Nat}{v:Value}{S:ao.aX}(w0:World)(bP:List aP)(bB:ao.Ok S):eH Tryz.prog 161 [.pointer (some ⟨b,0,none⟩)] w0 bP [fh b v S,fj v S] (oK b v ((ao.step S).1) (az (ao.step S).2)):=by
 refine fF Tryz.func161 rfl Tryz.ntmps161 (Nat.le_of_ble_eq_true rfl) fun cw a w ab U=>?_
 replace U:=gw U
 have e5:=bB.lo
 have gg:=bB.aG
 have ka:=bB.lf
 have kb:=bB.h9
 refine aB ab U (ar rfl<|ah) fun a w ab U=>ax fun cm bD=>aB ab U (ai rfl<|ag (bI rfl)<|ag (aV gT rfl rfl (s':=0) aA)<|ag (bc bG 0 rfl rfl rfl rfl)<|ag (fc rfl rfl)<|ah) fun a w ab U=>b9 ab rfl (fun aS=>?_) (fun aS=>?_)
 ·refine ax fun dP cq=>du ?_
  refine aE ab U (ai rfl<|ag (bI rfl)<|ag (aV gT rfl rfl (s':=0) aA)<|ah) fun a w ab U=>aH ab U rfl (c7 fg 0 rfl rfl rfl rfl (by simp)) ?_
  rintro _ _ _ a w ⟨rfl,rfl,rfl⟩ ab U
  replace U:aC _ (_) (.blk _ _ ([_,_,_].set 1 _)::_::_) _:=U
  simp only [List.set_cons_zero,List.set_cons_succ] at U
  replace U:=gw U
  refine wpList_nil (cq _ _ ?_)
  refine aB ab U (ar rfl<|ah) fun a w ab U=>wp_ret ?_
  exact cQ (rs:=[.tmp 2]) rfl ab U (vs:=[_]) ⟨rfl,trivial⟩ [] [_,_] ae ae (ao.je (S:=⟨S.s,true,S.left⟩) ⟨rfl,rfl,rfl⟩ (by rw [ao.zm (by omega)]) (by rw [ao.zm (by omega)]))
 ·refine wp_skip<|bD _ _<|ax fun et cz=>aB ab U (ai rfl<|ag (bI rfl)<|ag (aV gT rfl rfl (s':=0) aA)<|ag (bc bG 0 rfl rfl rfl rfl)<|ag (eQ rfl rfl)<|ah) fun a w ab U=>b9 ab rfl (fun bs=>?_) (fun bs=>?_)
  ·refine du<|aE ab U (ai rfl<|ag (bI rfl)<|ag (aV gT rfl rfl (s':=0) aA)<|ag (bc bG 0 rfl rfl rfl rfl)<|e2 rfl rfl<|ag (bI rfl)<|ag (aV gT rfl rfl (s':=0) aA)<|ah) fun a w ab U=>aH ab U rfl (c7 bG 0 rfl rfl rfl rfl (by simp)) ?_
   rintro _ _ _ a w ⟨rfl,rfl,rfl⟩ ab U
   replace U:aC _ (_) (.blk _ _ ([_,_,_].set 2 _)::_::_) _:=U
   simp only [List.set_cons_zero,List.set_cons_succ] at U
   replace U:=gw U
   refine wpList_nil (cz _ _ ?_)
   refine aB ab U (ar rfl<|ah) fun a w ab U=>wp_ret ?_
   exact cQ (rs:=[.tmp 2]) rfl ab U (vs:=[_]) ⟨rfl,trivial⟩ [] [_,_] ae ae (ao.je (S:=⟨S.s,S.off,S.left-1⟩) ⟨rfl,rfl,rfl⟩ (by rw [ao.CL (by omega)]) (by rw [ao.CL (by omega)]))
  ·refine wp_skip<|cz _ _<|aB ab U (ar rfl<|ah) fun a w ab U=>wp_ret ?_
   exact cQ (rs:=[.tmp 2]) rfl ab U (vs:=[_]) ⟨rfl,trivial⟩ [] [_,_] ae ae (ao.je (S:=S) ⟨rfl,rfl,rfl⟩ (by rw [ao.wA (by omega)]) (by rw [ao.wA (by omega)]))
theorem P0{b:Nat}{v:Value}{S:ao.aX}(i:Int)(w0:World)(bP:List aP)(bB:ao.Ok S):eH Tryz.prog 133 [.pointer (some ⟨b,0,none⟩),az i] w0 bP [fh b v S,fj v S] (oK b v (S) (.tuple [vs (ao.read S i).1,az (ao.read S i).2].toArray)):=by
 refine fF Tryz.func133 rfl Tryz.ntmps133 (Nat.le_of_ble_eq_true rfl) fun cw a w ab U=>?_
 replace U:=gw U
 have e5:=bB.lo
 have gg:=bB.aG
 have ka:=bB.lf
 have kb:=bB.h9
 refine aB ab U (ar rfl<|ar rfl<|ah) fun a w ab U=>ax fun cm bD=>aB ab U (ai rfl<|ag (bI rfl)<|ag (aV gT rfl rfl (s':=0) aA)<|ag (bc fg 0 rfl rfl rfl rfl)<|ah) fun a w ab U=>cX ab rfl (fun aS=>?_) (fun aS=>?_)
 ·refine ax fun dP cq=>bq ab U (ar rfl<|ar rfl<|ah) fun a w ab U=>cq _ _ ?_
  refine wp_ret<|cQ (rs:=[.tmp 4,.tmp 5]) rfl ab U (vs:=[_,_]) ⟨rfl,rfl,trivial⟩ [] [_,_] ae ae (ao.je (S:=S) ⟨rfl,rfl,rfl⟩ (rfl) (by rw [ao.Hv (by rw [ao.u1 aS];decide),ao.u1 aS]))
 ·refine wp_skip<|bD _ _<|ax fun dw b3=>a8 fun et cz=>aE ab U (ai rfl<|ai rfl<|ah) fun a w ab U=>?_
  refine aH ab U rfl (dy AP rfl (List.Perm.refl _) (by exact (Cz _ _ _  (by first | assumption | exact ao.ir (by assumption) | exact ao.kl (by assumption) _ _) (S:=S) (v:=v)))) ?_
  rintro _ _ _ a w ⟨_,_,rfl,rfl,⟨rfl,rfl,rfl⟩⟩ ab U
  replace U:=gw U
  refine aE ab U (ag (fC rfl)<|ah) fun a w ab U=>wpList_nil (cz _ _ ?_)
  refine cX ab rfl (fun bs=>?_) (fun bs=>?_)
  ·refine ax fun eU cO=>bq ab U (ar rfl<|ar rfl<|ah) fun a w ab U=>cO _ _ ?_
   refine wp_ret<|cQ (rs:=[.tmp 4,.tmp 5]) rfl ab U (vs:=[_,_]) ⟨rfl,rfl,trivial⟩ [] [_,_] ae ae (ao.je (S:=S) ⟨rfl,rfl,rfl⟩ (rfl) (by rw [ao.Hv (by rw [ao.Aw (by rw [aS];simp) (by have:=bs;simp at this;omega)];decide),ao.Aw (by rw [aS];simp) (by have:=bs;simp at this;omega)]))
  ·have gG:0≤i∧i<S.s.length:=by simpa using bs
   have h6:=ao.pB (S:=S) (i:=i) (by rw [aS];simp) gG
   refine wp_skip<|b3 _ _<|ax fun e1 cF=>aB ab U (ai rfl<|ag (bI rfl)<|ag (aV gT rfl rfl (s':=0) aA)<|ag (bc eT 0 rfl rfl rfl rfl)<|ai rfl<|ag (ft eT eM 1 rfl rfl rfl (by omega))<|ag (mG eM 1 rfl rfl (by omega) rfl (s':=0) aA)<|ag (pc ao.k4 ao.cG fg 1 rfl rfl rfl (by omega) (by decide) rfl)<|ah) fun a w ab U=>cX ab rfl (fun b7=>?_) (fun b7=>?_)
   ·refine ax fun hE dS=>bq ab U (ai rfl<|ag (bI rfl)<|ag (aV gT rfl rfl (s':=0) aA)<|ag (bc eT 0 rfl rfl rfl rfl)<|ai rfl<|ag (ft eT eM 1 rfl rfl rfl (by omega))<|ag (mG eM 1 rfl rfl (by omega) rfl (s':=0) aA)<|ag (pc ao.k4 ao.cG bz 1 rfl rfl rfl (by omega) (by decide) rfl)<|ar rfl<|ar rfl<|ah) fun a w ab U=>dS _ _ ?_
    refine wp_ret<|cQ (rs:=[.tmp 4,.tmp 5]) rfl ab U (vs:=[_,_]) ⟨rfl,rfl,trivial⟩ [] [_,_] ae ae (ao.je (S:=S) ⟨rfl,rfl,rfl⟩ (rfl) (by rw [ao.PC h6 b7];rfl))
   ·refine wp_skip<|cF _ _<|aB ab U (ai rfl<|ag (bI rfl)<|ag (aV gT rfl rfl (s':=0) aA)<|ag (bc eT 0 rfl rfl rfl rfl)<|ai rfl<|ag (ft eT eM 1 rfl rfl rfl (by omega))<|ag (mG eM 1 rfl rfl (by omega) rfl (s':=0) aA)<|ag (pc ao.k4 ao.cG bz 1 rfl rfl rfl (by omega) (by decide) rfl)<|ar rfl<|ar rfl<|ah) fun a w ab U=>wp_ret ?_
    exact cQ (rs:=[.tmp 4,.tmp 5]) rfl ab U (vs:=[_,_]) ⟨rfl,rfl,trivial⟩ [] [_,_] ae ae (ao.je (S:=S) ⟨rfl,rfl,rfl⟩ (rfl) (by rw [ao.Cu h6 (by show ¬ (S.s.getD i.toNat ao.cG).dt=true;rw [b7];simp)];rfl))
end
section
theorem K4:bU Tryz.prog 161:=bY Tryz.func161
theorem afe{b:Nat}{v:Value}{S:ao.aX}(i:Int)(t:List UInt8)(w0:World)(bP:List aP)(bB:ao.Ok S):eH Tryz.prog 131 [.pointer (some ⟨b,0,none⟩),az i,vs t] w0 bP [fh b v S,fj v S] (oK b v ((ao.write S i t).1) (az (ao.write S i t).2)):=by
 refine fF Tryz.func131 rfl Tryz.ntmps131 (Nat.le_of_ble_eq_true rfl) fun cw a w ab U=>?_
 replace U:=gw U
 have e5:=bB.lo
 have gg:=bB.aG
 have ka:=bB.lf
 have kb:=bB.h9
 refine aB ab U (ar rfl<|ah) fun a w ab U=>ax fun cm bD=>aB ab U (ai rfl<|ag (bI rfl)<|ag (aV gT rfl rfl (s':=0) aA)<|ag (bc fg 0 rfl rfl rfl rfl)<|ah) fun a w ab U=>cX ab rfl (fun aS=>?_) (fun aS=>?_)
 ·refine ax fun dP cq=>bq ab U (ar rfl<|ah) fun a w ab U=>cq _ _ ?_
  refine wp_ret<|cQ (rs:=[.tmp 6]) rfl ab U (vs:=[_]) ⟨rfl,trivial⟩ [] [_,_] ae ae (ao.je (S:=S) ⟨rfl,rfl,rfl⟩ (by rw [ao.zT (by rw [ao.u1 aS];decide)]) (by rw [ao.zT (by rw [ao.u1 aS];decide),ao.u1 aS]))
 ·refine wp_skip<|bD _ _<|ax fun dw b3=>a8 fun et cz=>aE ab U (ai rfl<|ai rfl<|ah) fun a w ab U=>?_
  refine aH ab U rfl (dy AP rfl (List.Perm.refl _) (by exact (Cz _ _ _  (by first | assumption | exact ao.ir (by assumption) | exact ao.kl (by assumption) _ _) (S:=S) (v:=v)))) ?_
  rintro _ _ _ a w ⟨_,_,rfl,rfl,⟨rfl,rfl,rfl⟩⟩ ab U
  replace U:=gw U
  refine aE ab U (ag (fC rfl)<|ai rfl<|ah) fun a w ab U=>fS 4 16 3 ab U rfl rfl rfl rfl rfl (fun aO=>have aO:=aO;aN 16 rfl rfl rfl (bE rfl)<|aN 16 rfl rfl rfl (hB bz rfl)<|aN 16 rfl rfl rfl (dM rfl rfl)<|ah) rfl rfl fun a w ab U=>?_
  refine wpList_nil (cz _ _ ?_)
  refine cX ab rfl (fun bs=>?_) (fun bs=>?_)
  ·(try simp only [c2] at bs)
   refine aB ab U (ar rfl<|ah) fun a w ab U=>wp_ret ?_
   exact cQ (rs:=[.tmp 6]) rfl ab U (vs:=[_]) ⟨rfl,trivial⟩ [] [_,_] ae ae (ao.je (S:=S) ⟨rfl,rfl,rfl⟩ ((ao.RG aS bs).1) (congrArg az (ao.RG aS bs).2))
  ·(try simp only [c2] at bs)
   have gG:0≤i∧i<S.s.length:=by simpa using bs.1
   have e4:t.length=64:=by have:=bs.2;omega
   have h6:=ao.pB (S:=S) (i:=i) (by rw [aS];simp) gG
   refine wp_skip<|b3 _ _<|a8 fun e1 cF=>aE ab U (ai rfl<|ah) fun a w ab U=>aH ab U rfl (dy K4 rfl (List.Perm.refl _) (by exact (P6 _ _  (by first | assumption | exact ao.ir (by assumption) | exact ao.kl (by assumption) _ _) (S:=S) (v:=v)))) ?_
   rintro _ _ _ a w ⟨_,_,rfl,rfl,⟨rfl,rfl,rfl⟩⟩ ab U
   replace U:=gw U
   refine aE ab U (ar rfl<|ah) fun a w ab U=>wpList_nil (cF _ _ ?_)
   refine ax fun fY dg=>aB ab U (ai rfl<|ag (dM rfl rfl)<|ah) fun a w ab U=>eP ab rfl (fun b7=>?_) (fun b7=>?_)
   ·refine ax fun gQ dz=>bq ab U (ai rfl<|ar rfl<|ah) fun a w ab U=>dz _ _ ?_
    refine wp_ret<|cQ (rs:=[.tmp 6]) rfl ab U (vs:=[_]) ⟨rfl,trivial⟩ [] [_,_] ae ae (ao.je (S:=(ao.step S).1) ⟨rfl,rfl,rfl⟩ (by rw [ao.wR h6 e4 b7]) (by rw [ao.wR h6 e4 b7]))
   ·have bC:(ao.step S).2=0:=by omega
    have qA:=ao.ir bB
    have tH:0≤i∧i<(ao.step S).1.s.length:=by rw [ao.CM];exact gG
    refine wp_skip<|dg _ _<|a8 fun iE eO=>aE ab U (ai rfl<|ag (bI rfl)<|ag (aV gT rfl rfl (s':=0) aA)<|ag (bc eT 0 rfl rfl rfl rfl)<|ai rfl<|ai rfl<|ag (ft eT eM 1 rfl rfl rfl (by omega))<|ag (mG eM 1 rfl rfl (by omega) rfl (s':=0) aA)<|ah) fun a w ab U=>aH ab U rfl (AF (x':=⟨(((ao.step S).1).at i).tx,t,(((ao.step S).1).at i).dt,(((ao.step S).1).at i).wn⟩) ao.k4 bz 1 rfl rfl rfl (ao.xq (S:=(ao.step S).1) tH) (by decide) rfl rfl) ?_
    rintro _ _ _ a w ⟨rfl,rfl,rfl⟩ ab U
    replace U:=gw U
    refine wpList_nil (eO _ _ ?_)
    refine a8 fun iv eD=>aE ab U (ai rfl<|ag (bI rfl)<|ag (aV gT rfl rfl (s':=0) aA)<|ag (bc eT 0 rfl rfl rfl rfl)<|ai rfl<|ag (ft eT eM 1 rfl rfl rfl (by omega))<|ag (mG eM 1 rfl rfl (by omega) rfl (s':=0) aA)<|ah) fun a w ab U=>aH ab U rfl (AF (x':=⟨(((ao.step S).1).at i).tx,t,true,(((ao.step S).1).at i).wn⟩) ao.k4 fg 1 rfl rfl rfl (ao.afF (S:=(ao.step S).1) tH) (by decide) rfl rfl) ?_
    rintro _ _ _ a w ⟨rfl,rfl,rfl⟩ ab U
    replace U:=gw U
    refine wpList_nil (eD _ _ ?_)
    refine aB ab U (ar rfl<|ah) fun a w ab U=>wp_ret ?_
    exact cQ (rs:=[.tmp 6]) rfl ab U (vs:=[_]) ⟨rfl,trivial⟩ [] [_,_] ae ae (ao.je (S:=ao.mark ((ao.step S).1) i t) ⟨rfl,rfl,by exact congrArg (fun r=>[_,r]) ao.afb⟩ (by rw [ao.wS h6 e4 bC]) (by rw [ao.wS h6 e4 bC]))
theorem P1{b:Nat}{v:Value}{S:ao.aX}(i p:Int)(aG:0≤i∧i<S.s.length)(aT:(S.at i).dt=true)(w0:World)(bP:List aP)(bB:ao.Ok S):eH Tryz.prog 136 [.pointer (some ⟨b,0,none⟩),az i,az p] w0 bP [fh b v S,fj v S] (oK b v (S.put i (ao.jg (S.at i) p)) (.tuple ([]:List Value).toArray)):=by
 refine fF Tryz.func136 rfl Tryz.ntmps136 (Nat.le_of_ble_eq_true rfl) fun cw a w ab U=>?_
 replace U:=gw U
 have e5:=bB.lo
 have gg:=bB.aG
 have ka:=bB.lf
 have kb:=bB.h9
 have Mp:(S.s.getD i.toNat ao.cG).nx.length=64:=(bB.at aG).2.1 aT
 have ZL:(S.s.getD i.toNat ao.cG).tx.length=64:=(bB.at aG).1
 have jR:S.at i=S.s.getD i.toNat ao.cG:=rfl
 have vG:(ao.ov (S.s.getD i.toNat ao.cG)).length=4:=rfl
 have ak5:(List.take (max 0 (min p 64)).toNat (S.s.getD i.toNat ao.cG).nx).length≤64:=by rw [List.length_take];omega
 have By:(List.drop (max 0 (min p 64)).toNat (S.s.getD i.toNat ao.cG).tx).length≤64:=by rw [List.length_drop];omega
 refine a8 fun dW cR=>aE ab U (ai rfl<|ag (bI rfl)<|ag (aV gT rfl rfl (s':=0) aA)<|ag (bc eT 0 rfl rfl rfl rfl)<|ai rfl<|ag (ft eT eM 1 rfl rfl rfl (by omega))<|ag (adF ao.k4 ao.cG eM 1 rfl rfl rfl (by decide) (by omega))<|ah) fun a w ab U=>aH ab U rfl (c1 eM) ?_
 rintro _ _ _ a w ⟨b6,rfl,rfl,rfl⟩ ab U
 refine aH ab U rfl (cA eM 0 rfl rfl rfl rfl aI (bn rfl (bn rfl (bn rfl (bn rfl dC)))) aI) ?_
 rintro _ _ _ a w ⟨rfl,rfl,rfl⟩ ab U
 replace U:=k0 U
 refine wpList_nil ?_
 rw [show ao.ov (S.s.getD i.toNat ao.cG)=[vs (S.s.getD i.toNat ao.cG).tx,vs (S.s.getD i.toNat ao.cG).nx,.bool (S.s.getD i.toNat ao.cG).dt,.bool (S.s.getD i.toNat ao.cG).wn] from rfl] at U
 refine cR _ _<|aB ab U (ai rfl<|ag (Hi rfl rfl)<|ag (sj rfl rfl)<|ar rfl<|ah) fun a w ab U=>ax fun dH cf=>aB ab U (ag (aV eM rfl rfl (s':=0) aA)<|ag (bc fg 0 rfl rfl rfl rfl)<|ag (fC rfl)<|ah) fun a w ab U=>cX ab rfl (fun aS=>?_) (fun aS=>?_)
 ·refine h2 10 mixed aA ab U (ag (aV eM rfl rfl (s':=0) aA)<|ag (bc bz 0 rfl rfl rfl rfl)<|ai rfl<|ag (Hm bz rfl rfl (by omega))<|ag (aV eM rfl rfl (s':=0) aA)<|ag (bc bz 0 rfl rfl rfl rfl)<|ai rfl<|ag (Co bz rfl rfl (by omega))<|ag (Ce rfl rfl aI)<|ag (aV eM rfl rfl (s':=0) aA)<|ah) fun a w ab U=>aH ab U rfl (c7 bz 0 rfl rfl rfl rfl (by simp)) ?_
  rintro _ _ _ a w ⟨rfl,rfl,rfl⟩ ab U
  replace U:aC _ (_) (.blk _ _ ([_,_,_,_].set 0 _)::_::_::_) _:=U
  simp only [List.set_cons_zero,List.set_cons_succ] at U
  replace U:=k0 U
  refine wpList_nil (cf _ _ ?_)
  refine a8 fun dw b3=>aE ab U (ag (aV eM rfl rfl (s':=0) aA)<|ah) fun a w ab U=>aH ab U rfl (c7 bz 0 rfl rfl rfl rfl (by simp)) ?_
  rintro _ _ _ a w ⟨rfl,rfl,rfl⟩ ab U
  replace U:aC _ (_) (.blk _ _ ([_,_,_,_].set 1 _)::_::_::_) _:=U
  simp only [List.set_cons_zero,List.set_cons_succ] at U
  replace U:=k0 U
  refine wpList_nil (b3 _ _ ?_)
  refine a8 fun et cz=>aE ab U (ag (aV eM rfl rfl (s':=0) aA)<|ah) fun a w ab U=>aH ab U rfl (c7 fg 0 rfl rfl rfl rfl (by simp)) ?_
  rintro _ _ _ a w ⟨rfl,rfl,rfl⟩ ab U
  replace U:aC _ (_) (.blk _ _ ([_,_,_,_].set 2 _)::_::_::_) _:=U
  simp only [List.set_cons_zero,List.set_cons_succ] at U
  replace U:=k0 U
  refine wpList_nil (cz _ _ ?_)
  refine h2 7 mixed aA ab U (ai rfl<|ag (bI rfl)<|ag (aV gT rfl rfl (s':=0) aA)<|ag (bc eT 1 rfl rfl rfl rfl)<|ai rfl<|ag (fW eM 0 rfl rfl aI rfl)<|ag (ft eT eM 2 rfl rfl rfl (by omega))<|ah) fun a w ab U=>aH ab U rfl (Ku ao.k4 ao.HV eM 2 (a:=⟨(S.s.getD i.toNat ao.cG).nx.take (max 0 (min p 64)).toNat++(S.s.getD i.toNat ao.cG).tx.drop (max 0 (min p 64)).toNat,[],false,(S.s.getD i.toNat ao.cG).wn⟩) rfl rfl rfl rfl rfl aI) ?_
  rintro _ _ _ a w ⟨rfl,rfl,rfl⟩ ab U
  replace U:=k0 U
  refine wpList_nil ?_
  -- falls off the end
  replace U:=(U.perm (.swap _ _ _)).perm hF
  exact cQ (rs:=[]) rfl ab U (vs:=[]) trivial [] [_,_] ae (ae.n.k.k) (ao.je (S:=S.put i ⟨(S.s.getD i.toNat ao.cG).nx.take (max 0 (min p 64)).toNat++(S.s.getD i.toNat ao.cG).tx.drop (max 0 (min p 64)).toNat,[],false,(S.s.getD i.toNat ao.cG).wn⟩) ⟨rfl,rfl,by exact congrArg (fun r=>[_,r]) ao.zk⟩ (by rw [ao.Qs,if_neg (by rw [jR];simpa using aS),jR];rfl) (rfl))
 ·refine wp_skip<|cf _ _<|a8 fun eU cO=>aE ab U (ag (aV eM rfl rfl (s':=0) aA)<|ah) fun a w ab U=>aH ab U rfl (c7 bz 0 rfl rfl rfl rfl (by simp)) ?_
  rintro _ _ _ a w ⟨rfl,rfl,rfl⟩ ab U
  replace U:aC _ (_) (.blk _ _ ([_,_,_,_].set 1 _)::_::_::_) _:=U
  simp only [List.set_cons_zero,List.set_cons_succ] at U
  replace U:=k0 U
  refine wpList_nil (cO _ _ ?_)
  refine a8 fun e1 cF=>aE ab U (ag (aV eM rfl rfl (s':=0) aA)<|ah) fun a w ab U=>aH ab U rfl (c7 fg 0 rfl rfl rfl rfl (by simp)) ?_
  rintro _ _ _ a w ⟨rfl,rfl,rfl⟩ ab U
  replace U:aC _ (_) (.blk _ _ ([_,_,_,_].set 2 _)::_::_::_) _:=U
  simp only [List.set_cons_zero,List.set_cons_succ] at U
  replace U:=k0 U
  refine wpList_nil (cF _ _ ?_)
  refine h2 7 mixed aA ab U (ai rfl<|ag (bI rfl)<|ag (aV gT rfl rfl (s':=0) aA)<|ag (bc eT 1 rfl rfl rfl rfl)<|ai rfl<|ag (fW eM 0 rfl rfl aI rfl)<|ag (ft eT eM 2 rfl rfl rfl (by omega))<|ah) fun a w ab U=>aH ab U rfl (Ku ao.k4 ao.HV eM 2 (a:=⟨(S.s.getD i.toNat ao.cG).tx,[],false,(S.s.getD i.toNat ao.cG).wn⟩) rfl rfl rfl rfl rfl aI) ?_
  rintro _ _ _ a w ⟨rfl,rfl,rfl⟩ ab U
  replace U:=k0 U
  refine wpList_nil ?_
  -- falls off the end
  replace U:=(U.perm (.swap _ _ _)).perm hF
  exact cQ (rs:=[]) rfl ab U (vs:=[]) trivial [] [_,_] ae (ae.n.k.k) (ao.je (S:=S.put i ⟨(S.s.getD i.toNat ao.cG).tx,[],false,(S.s.getD i.toNat ao.cG).wn⟩) ⟨rfl,rfl,by exact congrArg (fun r=>[_,r]) ao.zk⟩ (by rw [ao.Qs,if_pos (by rw [jR];simpa using aS),jR]) (rfl))
end
section
theorem KZ:bU Tryz.prog 136:=bY Tryz.func136
theorem ae3{bk:Nat}{v:Value}{S:ao.aX}(i b:Int)(au : -9223372036854775808≤b∧b≤9223372036854775807)(w0:World)(bP:List aP)(bB:ao.Ok S):eH Tryz.prog 126 [.pointer (some ⟨bk,0,none⟩),az i,az b] w0 bP [fh bk v S,fj v S] (oK bk v ((ao.gN S i b).1) (az (ao.gN S i b).2)):=by
 refine fF Tryz.func126 rfl Tryz.ntmps126 (Nat.le_of_ble_eq_true rfl) fun cw a w ab U=>?_
 replace U:=gw U
 have e5:=bB.lo
 have gg:=bB.aG
 have ka:=bB.lf
 have kb:=bB.h9
 refine aB ab U (ar rfl<|ah) fun a w ab U=>ax fun cm bD=>a8 fun dH cf=>aE ab U (ai rfl<|ai rfl<|ah) fun a w ab U=>aH ab U rfl (dy AP rfl (List.Perm.refl _) (by exact (Cz _ _ _  (by first | assumption | exact ao.ir (by assumption) | exact ao.kl (by assumption) _ _) (S:=S) (v:=v)))) ?_
 rintro _ _ _ a w ⟨_,_,rfl,rfl,⟨rfl,rfl,rfl⟩⟩ ab U
 replace U:=gw U
 refine aE ab U (ag (fC rfl)<|ai rfl<|ah) fun a w ab U=>fS 4 12 2 ab U rfl rfl rfl rfl rfl (fun aO=>have aO:=aO;aN 12 rfl rfl rfl (bE rfl)<|aN 12 rfl rfl rfl (cK rfl rfl)<|ah) rfl rfl fun a w ab U=>?_
 refine aE ab U (ai rfl<|ah) fun a w ab U=>fS 8 16 2 ab U rfl rfl rfl rfl rfl (fun aO=>have aO:=aO;aN 16 rfl rfl rfl (bE rfl)<|aN 16 rfl rfl rfl (eQ rfl rfl)<|ah) rfl rfl fun a w ab U=>?_
 refine wpList_nil (cf _ _ ?_)
 refine cX ab rfl (fun aS=>?_) (fun aS=>?_)
 ·(try simp only [c2] at aS)
  refine aB ab U (ar rfl<|ah) fun a w ab U=>wp_ret ?_
  exact cQ (rs:=[.tmp 6]) rfl ab U (vs:=[_]) ⟨rfl,trivial⟩ [] [_,_] ae ae (ao.je (S:=S) ⟨rfl,rfl,rfl⟩ (by rw [ao.wm (ao.PQ aS)]) (by rw [ao.wm (ao.PQ aS)]))
 ·(try simp only [c2] at aS)
  have gG:0≤i∧i<S.s.length:=by have:=aS.1.1;simpa using this
  have tA:0≤b∧b<512:=by omega
  have ZL:(S.s.getD i.toNat ao.cG).tx.length=64:=(bB.at gG).1
  refine wp_skip<|bD _ _<|a8 fun dw b3=>aE ab U (ai rfl<|ag (bI rfl)<|ag (aV gT rfl rfl (s':=0) aA)<|ag (bc eT 0 rfl rfl rfl rfl)<|ai rfl<|ag (ft eT eM 1 rfl rfl rfl (by omega))<|ag (mG eM 1 rfl rfl (by omega) rfl (s':=0) aA)<|ag (pc ao.k4 ao.cG bz 1 rfl rfl rfl (by omega) (by decide) rfl)<|ah) fun a w ab U=>aH ab U rfl (UE bz bS bF rfl (by omega)) ?_
  rintro _ _ _ a w ⟨bb,cp,rfl,rfl,rfl,rL,Yl⟩ ab U
  have jw:=JM (e:=5) (b:=bb) rL (by omega)
  replace U:aC _ (_::_) (_::_::_) _:=U
  refine aE ab U (ar rfl<|ah) fun a w ab U=>wpList_nil (b3 _ _ ?_)
  refine ax fun et cz=>h2 13 mixed aA ab U (ai rfl<|ai rfl<|ag (nL rfl rfl (by omega))<|ai rfl<|ai rfl<|ag (nL rfl rfl (by omega))<|ag (dG bS bF jw rfl rfl (by omega))<|ag (mH bF jw (.inr (by simp)) rfl rfl (by omega))<|ai rfl<|ag (mI rfl rfl (by omega))<|ag (OZ (p:=1) rfl rfl (by omega))<|ag (uk rfl rfl)<|ag (dG bS bF jw rfl rfl (by omega))<|ah) fun a w ab U=>aH ab U rfl (UF (ub:=(S.s.getD i.toNat ao.cG).tx.getD (b/8).toNat 0 ^^^ ao.s4 b) bF rfl rfl (by omega) Yl) ?_
  rintro _ _ _ a w ⟨rfl,rfl,rfl⟩ ab U
  have Mw:bg Go.aJ.gE (dU bb (jC 5 (List.set (S.s.getD i.toNat ao.cG).tx (b/8).toNat ((S.s.getD i.toNat ao.cG).tx.getD (b/8).toNat 0 ^^^ ao.s4 b)) cp)) (.slice (some ⟨bb,0,none⟩) (S.s.getD i.toNat ao.cG).tx.length cp) (List.set (S.s.getD i.toNat ao.cG).tx (b/8).toNat ((S.s.getD i.toNat ao.cG).tx.getD (b/8).toNat 0 ^^^ ao.s4 b)):=by
   have cC:=JM (e:=5) (b:=bb) (cap:=cp) (l:=(List.set (S.s.getD i.toNat ao.cG).tx (b/8).toNat ((S.s.getD i.toNat ao.cG).tx.getD (b/8).toNat 0 ^^^ ao.s4 b))) (by rw [List.length_set];exact rL) (by rw [List.length_set];omega)
   rw [List.length_set] at cC
   exact cC
  replace U:aC _ (_::_) (_::_::_) _:=U
  refine wpList_nil (cz _ _ ?_)
  refine ax fun eU cO=>h2 9 mixed aA ab U (ai rfl<|ag (bI rfl)<|ag (aV gT rfl rfl (s':=0) aA)<|ag (bc eT 0 rfl rfl rfl rfl)<|ai rfl<|ai rfl<|ag (sa bS bz bF Mw (.inr (by simp [ao.s4])) rfl)<|ag (ft eT eM 1 rfl rfl rfl (by omega))<|ag (mG eM 1 rfl rfl (by omega) rfl (s':=0) aA)<|ah) fun a w ab U=>aH ab U rfl (AF (x':=⟨ao.flip (S.at i).tx b,(S.at i).nx,(S.at i).dt,(S.at i).wn⟩) ao.k4 bz 1 rfl rfl rfl (ao.xq (S:=S) gG) (by decide) rfl rfl) ?_
  rintro _ _ _ a w ⟨rfl,rfl,rfl⟩ ab U
  replace U:aC _ (_::_) (_::_::_) _:=U
  refine wpList_nil (cO _ _ ?_)
  refine aB ab U (ar rfl<|ah) fun a w ab U=>wp_ret ?_
  exact cQ (rs:=[.tmp 6]) rfl ab U (vs:=[_]) ⟨rfl,trivial⟩ [] [_,_] (ae.n) ae (ao.je (S:=S.put i ⟨ao.flip (S.at i).tx b,(S.at i).nx,(S.at i).dt,(S.at i).wn⟩) ⟨rfl,rfl,by exact congrArg (fun r=>[_,r]) ao.zk⟩ (by rw [ao.zd gG tA]) (by rw [ao.zd gG tA]))
theorem afc{b:Nat}{v:Value}{S:ao.aX}(i:Int)(w0:World)(bP:List aP)(bB:ao.Ok S):eH Tryz.prog 85 [.pointer (some ⟨b,0,none⟩),az i] w0 bP [fh b v S,fj v S] (oK b v ((ao.k7 S i).1) (az (ao.k7 S i).2)):=by
 refine fF Tryz.func85 rfl Tryz.ntmps85 (Nat.le_of_ble_eq_true rfl) fun cw a w ab U=>?_
 replace U:=gw U
 have e5:=bB.lo
 have gg:=bB.aG
 have ka:=bB.lf
 have kb:=bB.h9
 refine aB ab U (ar rfl<|ah) fun a w ab U=>ax fun cm bD=>a8 fun dH cf=>aE ab U (ai rfl<|ai rfl<|ah) fun a w ab U=>aH ab U rfl (dy AP rfl (List.Perm.refl _) (by exact (Cz _ _ _  (by first | assumption | exact ao.ir (by assumption) | exact ao.kl (by assumption) _ _) (S:=S) (v:=v)))) ?_
 rintro _ _ _ a w ⟨_,_,rfl,rfl,⟨rfl,rfl,rfl⟩⟩ ab U
 replace U:=gw U
 refine aE ab U (ag (fC rfl)<|ah) fun a w ab U=>wpList_nil (cf _ _ ?_)
 refine cX ab rfl (fun aS=>?_) (fun aS=>?_)
 ·refine ax fun dP cq=>bq ab U (ar rfl<|ah) fun a w ab U=>cq _ _ ?_
  refine wp_ret<|cQ (rs:=[.tmp 4]) rfl ab U (vs:=[_]) ⟨rfl,trivial⟩ [] [_,_] ae ae (ao.je (S:=S) ⟨rfl,rfl,rfl⟩ (by rw [ao.C4 (by have:=aS;simp at this;omega)]) (by rw [ao.C4 (by have:=aS;simp at this;omega)]))
 ·have gG:0≤i∧i<S.s.length:=by simpa using aS
  refine wp_skip<|bD _ _<|a8 fun dw b3=>aE ab U (ai rfl<|ag (bI rfl)<|ag (aV gT rfl rfl (s':=0) aA)<|ag (bc eT 0 rfl rfl rfl rfl)<|ai rfl<|ag (ft eT eM 1 rfl rfl rfl (by omega))<|ag (mG eM 1 rfl rfl (by omega) rfl (s':=0) aA)<|ah) fun a w ab U=>aH ab U rfl (AF (x':=⟨(S.at i).tx,(S.at i).nx,(S.at i).dt,true⟩) ao.k4 fg 1 rfl rfl rfl (ao.xq (S:=S) gG) (by decide) rfl rfl) ?_
  rintro _ _ _ a w ⟨rfl,rfl,rfl⟩ ab U
  replace U:=gw U
  refine wpList_nil (b3 _ _ ?_)
  refine aB ab U (ar rfl<|ah) fun a w ab U=>wp_ret ?_
  exact cQ (rs:=[.tmp 4]) rfl ab U (vs:=[_]) ⟨rfl,trivial⟩ [] [_,_] ae ae (ao.je (S:=S.put i ⟨(S.at i).tx,(S.at i).nx,(S.at i).dt,true⟩) ⟨rfl,rfl,by exact congrArg (fun r=>[_,r]) ao.zk⟩ (by rw [ao.C5 gG]) (by rw [ao.C5 gG]))
theorem aeE{b:Nat}{v:Value}{S:ao.aX}(w0:World)(bP:List aP)(bB:ao.Ok S):eH Tryz.prog 132 [.pointer (some ⟨b,0,none⟩)] w0 bP [fh b v S,fj v S] (oK b v ((ao.flush S).1) (az (ao.flush S).2)):=by
 refine fF Tryz.func132 rfl Tryz.ntmps132 (Nat.le_of_ble_eq_true rfl) fun cw a w ab U=>?_
 replace U:=gw U
 have e5:=bB.lo
 have gg:=bB.aG
 have ka:=bB.lf
 have kb:=bB.h9
 refine aB ab U (ar rfl<|ah) fun a w ab U=>ax fun cm bD=>aB ab U (ai rfl<|ag (bI rfl)<|ag (aV gT rfl rfl (s':=0) aA)<|ag (bc fg 0 rfl rfl rfl rfl)<|ah) fun a w ab U=>cX ab rfl (fun aS=>?_) (fun aS=>?_)
 ·refine ax fun dP cq=>bq ab U (ar rfl<|ah) fun a w ab U=>cq _ _ ?_
  refine wp_ret<|cQ (rs:=[.tmp 2]) rfl ab U (vs:=[_]) ⟨rfl,trivial⟩ [] [_,_] ae ae (ao.je (S:=S) ⟨rfl,rfl,rfl⟩ (by rw [ao.AL aS]) (by rw [ao.AL aS]))
 ·refine wp_skip<|bD _ _<|a8 fun dw b3=>aE ab U (ai rfl<|ah) fun a w ab U=>aH ab U rfl (dy K4 rfl (List.Perm.refl _) (by exact (P6 _ _  (by first | assumption | exact ao.ir (by assumption) | exact ao.kl (by assumption) _ _) (S:=S) (v:=v)))) ?_
  rintro _ _ _ a w ⟨_,_,rfl,rfl,⟨rfl,rfl,rfl⟩⟩ ab U
  replace U:=gw U
  refine aE ab U (ar rfl<|ah) fun a w ab U=>wpList_nil (b3 _ _ ?_)
  refine ax fun et cz=>aB ab U (ai rfl<|ag (dM rfl rfl)<|ah) fun a w ab U=>eP ab rfl (fun bs=>?_) (fun bs=>?_)
  ·refine ax fun e1 cF=>bq ab U (ai rfl<|ar rfl<|ah) fun a w ab U=>cF _ _ ?_
   refine wp_ret<|cQ (rs:=[.tmp 2]) rfl ab U (vs:=[_]) ⟨rfl,trivial⟩ [] [_,_] ae ae (ao.je (S:=(ao.step S).1) ⟨rfl,rfl,rfl⟩ (by rw [ao.AM aS bs]) (by rw [ao.AM aS bs]))
  ·have bC:(ao.step S).2=0:=by omega
   have qA:=ao.ir bB
   refine wp_skip<|cz _ _<|ax fun fY dg=>aB ab U (ar rfl<|ah) fun a w ab U=>wp_block ?_
   obtain ⟨bC,aZ,U⟩:=U.cT
   refine df (γ:=Nat) (0) (fun (i:Nat)=>[(4,az (i:Int))]) [(0,_)] (fun (i:Nat)=>((bC.set 0 (fh b v (ao.gx (ao.step S).1 [] i))).set 1 (fj v (ao.gx (ao.step S).1 [] i)))) (fun (i:Nat)=>i≤(ao.step S).1.s.length) (fun (i:Nat)=>(ao.step S).1.s.length-i) (ab.sub ⟨rfl,rfl,trivial⟩) (by subst aZ;(try dsimp only);rw [ao.P2];exact U) (by exact Nat.zero_le _) ?_
   rintro i a w ba ab U
   subst aZ;(try dsimp only at ba ab U)
   have eu:=ba
   have rX:=ao.CE (ao.step S).1 [] i
   have XI:=ao.kl qA [] i
   have YG:=qA.aG
   replace U:=gw U
   refine ax fun gQ dz=>aB ab U (ai rfl<|ai rfl<|ag (bI rfl)<|ag (aV gT rfl rfl (s':=0) aA)<|ag (bc eT 0 rfl rfl rfl rfl)<|ag (hX eT 1 rfl rfl)<|ag (cK rfl rfl)<|ah) fun a w ab U=>b9 ab rfl (fun b7=>?_) (fun b7=>?_)
   ·refine wp_skip<|dz _ _<|ax fun iv eD=>wp_block ?_
    refine aB ab U (ai rfl<|ag (bI rfl)<|ag (aV gT rfl rfl (s':=0) aA)<|ag (bc eT 0 rfl rfl rfl rfl)<|ai rfl<|ag (ft eT eM 1 rfl rfl rfl (by omega))<|ag (mG eM 1 rfl rfl (by omega) rfl (s':=0) aA)<|ag (pc ao.k4 ao.cG fg 1 rfl rfl rfl (by omega) (by decide) rfl)<|ah) fun a w ab U=>cX ab rfl (fun dr=>?_) (fun dr=>?_)
    ·have rM:((ao.gx (ao.step S).1 [] i).at (i:Int)).dt=true:=dr
     have nC:=rM
     rw [ao.zh _ _ (by omega)] at nC
     have Ga:(ao.gx (ao.step S).1 [] i).put (i:Int) (ao.jg ((ao.gx (ao.step S).1 [] i).at (i:Int)) (64))=ao.gx (ao.step S).1 [] (i+1):=ao.P5 (ao.step S).1 [] (by omega) nC
     refine du<|aE ab U (ai rfl<|ai rfl<|ah) fun a w ab U=>aH ab U rfl (dy KZ rfl (List.Perm.refl _) (by exact (P1 _ _ (by first | assumption | omega) (by assumption) _ _  (by first | assumption | exact ao.ir (by assumption) | exact ao.kl (by assumption) _ _) (S:=(ao.gx (ao.step S).1 [] i)) (v:=v)))) ?_
     rintro _ _ _ a w ⟨_,_,rfl,rfl,⟨rfl,rfl,rfl⟩⟩ ab U
     replace U:=gw U
     refine wpList_nil (eD _ _ ?_)
     refine bq ab U (ai rfl<|bX rfl rfl<|ar rfl<|ah) fun a w ab U=>⟨(i+1),?_,?_,ab.sub ⟨rfl,rfl,trivial⟩,?_⟩
     ·(try dsimp only);omega
     ·omega
     ·rw [Ga] at U
      exact U
    ·have rM:((ao.gx (ao.step S).1 [] i).at (i:Int)).dt=false:=dr
     have nC:=rM
     rw [ao.zh _ _ (by omega)] at nC
     have tU:=ao.P4 (ao.step S).1 [] (by omega) nC
     refine wp_skip<|eD _ _<|bq ab U (ai rfl<|bX rfl rfl<|ar rfl<|ah) fun a w ab U=>⟨(i+1),?_,?_,ab.sub ⟨rfl,rfl,trivial⟩,?_⟩
     ·(try dsimp only);omega
     ·omega
     ·rw [← tU];exact U
   ·refine wp_exit<|dg _ _<|aB ab U (ar rfl<|ah) fun a w ab U=>wp_ret ?_
    exact cQ (rs:=[.tmp 2]) rfl ab U (vs:=[_]) ⟨rfl,trivial⟩ [] [_,_] ae ae (ao.je (S:=ao.gx (ao.step S).1 [] i) ⟨rfl,rfl,rfl⟩ (by rw [ao.KR aS bC (i:=i) (by omega)]) (by rw [ao.KR aS bC (i:=i) (by omega)]))
theorem aeJ{b:Nat}{v:Value}{S:ao.aX}(gj:Value)(ps:List Int)(w0:World)(bP:List aP)(z:aP)(kF:bg Go.aJ.encI z gj ps)(bj:gp w0 bP z)(bB:ao.Ok S):eH Tryz.prog 90 [.pointer (some ⟨b,0,none⟩),gj] w0 bP [fh b v S,fj v S] (oK b v (ao.hz S ps) (.tuple ([]:List Value).toArray)):=by
 refine fF Tryz.func90 rfl Tryz.ntmps90 (Nat.le_of_ble_eq_true rfl) fun cw a w ab U=>?_
 replace U:=gw U
 have e5:=bB.lo
 have gg:=bB.aG
 have ka:=bB.lf
 have kb:=bB.h9
 have Bs:=wx kF
 have hK:=kF.1
 have qA:=bB
 refine aB ab U (ar rfl<|ah) fun a w ab U=>ax fun cm bD=>aB ab U (ar rfl<|ah) fun a w ab U=>wp_block ?_
 obtain ⟨bC,aZ,U⟩:=U.cT
 refine df (γ:=Nat) (0) (fun (i:Nat)=>[(4,az (ao.bh S i:Int)),(5,az (i:Int))]) [(0,_),(1,_)] (fun (i:Nat)=>((bC.set 0 (fh b v (ao.gx S ps i))).set 1 (fj v (ao.gx S ps i)))) (fun (i:Nat)=>i≤S.s.length) (fun (i:Nat)=>S.s.length-i) (ab.sub ⟨rfl,rfl,rfl,rfl,trivial⟩) (by subst aZ;(try dsimp only);rw [ao.P2];exact U) (by exact Nat.zero_le _) ?_
 rintro i a w ba ab U
 subst aZ;(try dsimp only at ba ab U)
 have eu:=ba
 have rX:=ao.CE S ps i
 have XI:=ao.kl qA ps i
 have YG:=qA.aG
 replace U:=gw U
 have fb:=ao.Az S i
 refine ax fun dP cq=>aB ab U (ai rfl<|ai rfl<|ag (bI rfl)<|ag (aV gT rfl rfl (s':=0) aA)<|ag (bc eT 0 rfl rfl rfl rfl)<|ag (hX eT 1 rfl rfl)<|ag (cK rfl rfl)<|ah) fun a w ab U=>b9 ab rfl (fun aS=>?_) (fun aS=>?_)
 ·refine wp_skip<|cq _ _<|ax fun et cz=>wp_block ?_
  refine ax fun eU cO=>aB ab U (ai rfl<|ag (bI rfl)<|ag (aV gT rfl rfl (s':=0) aA)<|ag (bc eT 0 rfl rfl rfl rfl)<|ai rfl<|ag (ft eT eM 1 rfl rfl rfl (by omega))<|ag (mG eM 1 rfl rfl (by omega) rfl (s':=0) aA)<|ag (pc ao.k4 ao.cG fg 1 rfl rfl rfl (by omega) (by decide) rfl)<|ag (fC rfl)<|ah) fun a w ab U=>cX ab rfl (fun bs=>?_) (fun bs=>?_)
  ·have rM:((ao.gx S ps i).at (i:Int)).dt=false:=ao.ach bs
   have nC:=rM
   rw [ao.zh _ _ (by omega)] at nC
   have tU:=ao.P4 S ps (by omega) nC
   refine wp_exit<|cz _ _<|bq ab U (ai rfl<|bX rfl rfl<|ar rfl<|ah) fun a w ab U=>⟨(i+1),?_,?_,ab.sub ⟨(by show some (az _)=some (az _);rw [ao.xy S (by omega),if_neg (by rw [nC];simp)]),rfl,rfl,rfl,trivial⟩,?_⟩
   ·(try dsimp only);omega
   ·omega
   ·rw [← tU];exact U
  ·have rM:((ao.gx S ps i).at (i:Int)).dt=true:=ao.acg bs
   have nC:=rM
   rw [ao.zh _ _ (by omega)] at nC
   have Ga:(ao.gx S ps i).put (i:Int) (ao.jg ((ao.gx S ps i).at (i:Int)) (ao.k3 ps (ao.bh S i)))=ao.gx S ps (i+1):=ao.P5 S ps (by omega) nC
   refine wp_skip<|cO _ _<|aB ab U (ar rfl<|ah) fun a w ab U=>?_
   obtain ⟨bC,aZ,U⟩:=U.cT
   refine lK (γ:=Int) (fun (p:Int)=>[(6,az p)]) [(0,_),(1,_),(4,_),(5,_)] (fun (p:Int)=>bC) (fun (p:Int)=>p=ao.k3 ps (ao.bh S i)) (ab.sub ⟨rfl,rfl,rfl,rfl,trivial⟩) U ?_ ?_
   ·subst aZ
    refine aB ab U (ai rfl<|ai rfl<|ag (dL c5 kF rfl)<|ag (cK rfl rfl)<|ah) fun a w ab U=>b9 ab rfl (fun b7=>?_) (fun b7=>?_)
    ·refine bq ab U (ai rfl<|ai rfl<|ag (dG c5 bG kF rfl rfl (by omega))<|ag (sh bG kF bj rfl rfl (by omega))<|ar rfl<|ah) fun a w ab U=>⟨((ps.getD ((ao.bh S i:Int)).toNat 0)),?_,ab.sub ⟨rfl,rfl,rfl,rfl,rfl,trivial⟩,?_⟩
     ·rw [Int.toNat_natCast];exact (ao.Ow (by omega)).symm
     ·exact U
    ·refine wp_skip<|⟨(64),?_,ab.sub ⟨rfl,rfl,rfl,rfl,rfl,trivial⟩,?_⟩
     ·exact (ao.Ox (by omega)).symm
     ·exact U
   rintro p a w ba ab U
   subst aZ;(try dsimp only at ba ab U)
   have pO:=ba
   replace U:=gw U
   subst pO
   refine a8 fun gQ dz=>aE ab U (ai rfl<|ai rfl<|ai rfl<|ah) fun a w ab U=>aH ab U rfl (dy KZ rfl (List.Perm.refl _) (by exact (P1 _ _ (by first | assumption | omega) (by assumption) _ _  (by first | assumption | exact ao.ir (by assumption) | exact ao.kl (by assumption) _ _) (S:=(ao.gx S ps i)) (v:=v)))) ?_
   rintro _ _ _ a w ⟨_,_,rfl,rfl,⟨rfl,rfl,rfl⟩⟩ ab U
   replace U:=gw U
   refine wpList_nil (dz _ _ ?_)
   refine bq ab U (ai rfl<|bX rfl rfl<|ar rfl<|ah) fun a w ab U=>cz _ _ ?_
   refine bq ab U (ai rfl<|bX rfl rfl<|ar rfl<|ah) fun a w ab U=>⟨(i+1),?_,?_,ab.sub ⟨(by show some (az _)=some (az _);rw [ao.xy S (by omega),if_pos nC];rfl),rfl,rfl,rfl,trivial⟩,?_⟩
   ·(try dsimp only);omega
   ·omega
   ·rw [Ga] at U
    exact U
 ·refine wp_exit<|bD _ _<|a8 fun iE eO=>aE ab U (ai rfl<|ag (bI rfl)<|ag (aV gT rfl rfl (s':=0) aA)<|ah) fun a w ab U=>aH ab U rfl (c7 fg 0 rfl rfl rfl rfl (by simp)) ?_
  rintro _ _ _ a w ⟨rfl,rfl,rfl⟩ ab U
  replace U:aC _ (_) (.blk _ _ ([_,_,_].set 1 _)::_::_) _:=U
  simp only [List.set_cons_zero,List.set_cons_succ] at U
  replace U:=gw U
  refine wpList_nil (eO _ _ ?_)
  refine du<|aE ab U (ai rfl<|ag (bI rfl)<|ag (aV gT rfl rfl (s':=0) aA)<|ah) fun a w ab U=>aH ab U rfl (c7 bG 0 rfl rfl rfl rfl (by simp)) ?_
  rintro _ _ _ a w ⟨rfl,rfl,rfl⟩ ab U
  replace U:aC _ (_) (.blk _ _ ([_,_,_].set 2 _)::_::_) _:=U
  simp only [List.set_cons_zero,List.set_cons_succ] at U
  replace U:=gw U
  refine wpList_nil ?_
  -- falls off the end
  exact cQ (rs:=[]) rfl ab U (vs:=[]) trivial [] [_,_] ae ae (ao.je (S:=⟨(ao.gx S ps i).s,false, -1⟩) ⟨rfl,rfl,rfl⟩ (ao.abU S ps (by omega)) (rfl))
end
section
theorem aeK(n:Nat)(bA:1≤n∧n≤4096)(w:World):ch Tryz.prog 124 [az (n:Int)] w (fun r zs hs=>zs=[]∧∃ b v,r=.tuple [.pointer (some ⟨b,0,none⟩),az 0].toArray∧hs=[fh b v (ao.new n),fj v (ao.new n)]):=by
 refine cI Tryz.func124 rfl Tryz.ntmps124 (Nat.le_of_ble_eq_true rfl) fun a ab U=>aB ab U (ar rfl<|ar rfl<|ah) fun a w ab U=>ax fun cm bD=>a8 fun dH cf=>aE ab U (ai rfl<|ag (cK rfl rfl)<|ai rfl<|ah) fun a w ab U=>?_
 refine fS 2 8 2 ab U rfl rfl rfl rfl rfl (fun aO=>have aO:=(by first | exact of_decide_eq_false aO | exact aO);aN 8 rfl rfl rfl (bE rfl)<|aN 8 rfl rfl rfl (eQ rfl rfl)<|ah) rfl rfl fun a w ab U=>?_
 refine wpList_nil (cf _ _ ?_)
 refine cX ab rfl (fun aS=>?_) (fun aS=>?_)
 ·(try simp only [c2] at aS)
  exfalso;omega
 ·(try simp only [c2] at aS)
  refine wp_skip<|bD _ _<|a8 fun dP cq=>aE ab U (ag (hc (places:=[(0,1),(1,1),(2,1)]) (cells:=[.slice none 0 0,.bool false,_]) gT aA rfl (by rfl))<|ah) fun a w ab U=>aH ab U rfl (iT rfl) ?_
  rintro _ _ _ a w ⟨b6,rfl,rfl,rfl⟩ ab U
  refine aE ab U (ar rfl<|ah) fun a w ab U=>wpList_nil ?_
  replace U:=U.hV 166 4
  replace U:=eK U
  refine cq _ _<|ax fun dw b3=>aB ab U (ar rfl<|ah) fun a w ab U=>wp_block ?_
  obtain ⟨bC,aZ,U⟩:=U.cT
  refine df (γ:=Value×Nat) ((Value.slice none 0 0),0) (fun (u,i)=>[(5,az (i:Int))]) [(0,_),(4,_)] (fun (u,i)=>((bC.set 1 (.blk b6 162 [u,.bool false,az (-1)])).set 0 (.row u 166 4 i ((ao.new i).s.flatMap ao.ov)))) (fun (u,i)=>i≤n) (fun (u,i)=>n-i) (ab.sub ⟨rfl,rfl,rfl,trivial⟩) (by subst aZ;exact U) (by exact Nat.zero_le _) ?_
  rintro ⟨u,i⟩ a w ba ab U
  subst aZ;(try dsimp only at ba ab U)
  have eu:=ba
  replace U:=eK U
  refine ax fun eU cO=>aB ab U (ai rfl<|ai rfl<|ag (cK rfl rfl)<|ah) fun a w ab U=>b9 ab rfl (fun bs=>?_) (fun bs=>?_)
  ·refine wp_skip<|cO _ _<|ax fun fY dg=>wp_block ?_
   revert U;revert ab;apply ho (J:=iS (α0:=Value) (α1:=Value) (α2:=Value) 32 _ _ _ _ _) #[false,false,false,false,false,false,false,false,false,false,false,false,false] 13 mixed rfl rfl
   ·intro w ab U
    refine aR 0 rfl ab (U.ak ae ay) (bE rfl) fun a ab=>aR 1 rfl ab (U.ak ae ay) (bE rfl) fun a ab=>aR 2 rfl ab (U.ak ae ay) (bI rfl) fun a ab=>aR 3 rfl ab (U.ak ae ay) (aV gT rfl rfl (s':=0) aA) fun a ab=>aR 4 rfl ab (U.ak ae (ae.n)) (bc eT 0 rfl rfl rfl rfl) fun a ab=>?_
    refine bW 5 rfl rfl ab U rfl (Ei (m:=64) bS bF rfl rfl (by decide) (by decide) rfl) ?_
    rintro Rq _ _ a w ⟨rfl,rfl⟩ ab U
    refine ⟨⟨.inr (U.ea (ae.n.n)),.inr U.ax,.inr U.ax,.inr U.ax,.inr U.ax,trivial⟩,?_⟩
    refine aR 6 rfl ab (U.ak ae (ay.k)) (mF (xs:=ao.z64) bS bz bF 0 rfl rfl) fun a ab=>aR 7 rfl ab (U.ak ae ay) (Hb eM 4 aA rfl rfl rfl (by decide)) fun a ab=>bW 8 rfl rfl ab U rfl (qt eT eM rfl aI (by decide) bJ (by decide) (by decide)) ?_
    rintro Rr _ _ a w ⟨rfl,rfl⟩ ab U
    refine ⟨⟨al,al,.inr (U.ea (ae.n.n.n)),.inr U.ax,.inr U.ax,.inr U.ax,.inr U.ax,trivial⟩,?_⟩
    refine bW 9 rfl rfl ab U rfl (dB eT eM 2 rfl rfl rfl (eA eT (k:=0) rfl bJ) aI rfl (by decide)) ?_
    rintro Ir _ _ a w ⟨rfl,rfl⟩ ab U
    refine ⟨⟨al,al,al,al,.inr U.ax,.inr U.ax,.inr U.ax,trivial⟩,?_⟩
    refine aR 10 rfl ab (U.ak ae ay) (bI rfl) fun a ab=>aR 11 rfl ab (U.ak ae ay) (aV gT rfl rfl (s':=0) aA) fun a ab=>bW 12 rfl rfl ab U rfl (c7 eT 3 rfl rfl rfl (row_one (U.own _ (List.mem_of_getElem? (i:=2) rfl)).1) (by simp)) ?_
    rintro _ _ _ a w ⟨rfl,rfl,rfl⟩ ab U
    replace U:aC _ [] [_,_,_,.blk _ _ ([_,_,_].set 0 _)] _:=U
    simp only [List.set_cons_zero,List.set_cons_succ] at U
    replace U:=iK U
    refine ⟨⟨al,al,al,al,al,al,al,al,al,trivial⟩,?_⟩
    exact ei aA (Gy Rq Rr Ir (trivial) (ab.sub (L':=[(0,_),(4,_),(5,_)]) ⟨rfl,rfl,rfl,trivial⟩) U)
   rintro a w ⟨Rq,Rr,Ir, -,ab,U⟩
   (try dsimp only at ab U)
   refine dg _ _<|bq ab U (ai rfl<|bX rfl rfl<|ar rfl<|ah) fun a w ab U=>?_
   replace U:=U.ak ay (ae.n.n)
   refine ⟨(Ir,i+1),?_,?_,ab.sub ⟨rfl,rfl,rfl,trivial⟩,?_⟩
   ·(try dsimp only);omega
   ·omega
   ·dsimp only [List.set_cons_zero,List.set_cons_succ];rw [ao.acd i,List.flatMap_append];exact U
  ·refine wp_exit<|b3 _ _<|aB ab U (ai rfl<|ar rfl<|ar rfl<|ah) fun a w ab U=>wp_ret ?_
   replace U:=U.perm (.swap _ _ _)
   exact bR (rs:=[.tmp 2,.tmp 3]) rfl ab U (vs:=[_,_]) ⟨rfl,rfl,trivial⟩ ae ae ⟨rfl,b6,u,rfl,by rw [show n=i by omega,ao.acb]⟩
end
section
theorem Vs:bU Tryz.prog 141:=bY Tryz.func141
theorem aae(v:Value)(xs:List Int)(n:Int)(w:World)(au:bg Go.aJ.encI (b1 w) v xs):ch Tryz.prog 141 [v,az n] w (fun r _ _=>r=az (cM.kd (fun y=>decide (n=y)) xs)):=by
 refine cI Tryz.func141 rfl Tryz.ntmps141 (Nat.le_of_ble_eq_true rfl) fun a ab U=>?_
 have cZ:=au.1
 refine aB ab U (ar rfl<|ah) fun a w ab U=>ax fun cm bD=>aB ab U (ai rfl<|ag (dL c5 au rfl)<|ai rfl<|ah) fun a w ab U=>wp_block ?_
 obtain ⟨bC,aZ,U⟩:=U.cT
 refine df (γ:=Int) (0) (fun (i:Int)=>[(8,az i)]) [(0,_),(1,_),(7,_)] (fun (i:Int)=>bC) (fun (i:Int)=>0≤i∧i≤xs.length∧∀ j,j<i.toNat→(fun y=>decide (n=y)) (xs.getD j 0)=false) (fun (i:Int)=>(xs.length-i).toNat) (ab.sub ⟨rfl,rfl,rfl,rfl,trivial⟩) (by subst aZ;exact U) (by exact ⟨Int.le_refl _,by omega,fun j a6=>absurd a6 (by simp)⟩) ?_
 rintro i a w ba ab U
 subst aZ;(try dsimp only at ba ab U)
 obtain ⟨eu,j8,il⟩:=ba
 replace U:=hM U
 refine aB ab U (ag (cK rfl rfl)<|ah) fun a w ab U=>ax fun dw b3=>b9 ab rfl (fun aS=>?_) (fun aS=>?_)
 ·refine wp_skip<|b3 _ _<|ax fun et cz=>wp_block ?_
  refine aB ab U (ai rfl<|ar rfl<|ah) fun a w ab U=>aB ab U (ai rfl<|ai rfl<|ai rfl<|ag (dG c5 bG au rfl rfl (by omega))<|ag (sh bG au cD rfl rfl (by omega))<|ag (fc rfl rfl)<|ah) fun a w ab U=>b9 ab rfl (fun bs=>?_) (fun bs=>?_)
  ·refine ax fun fY dg=>bq ab U (ai rfl<|ar rfl<|ah) fun a w ab U=>dg _ _ ?_
   refine wp_ret<|bR (rs:=[.tmp 4]) rfl ab U (vs:=[_]) ⟨rfl,trivial⟩ ay ay (by rw [cM.Gv (i:=i.toNat) (by omega) (decide_eq_true bs) il,Int.toNat_of_nonneg eu])
  ·refine wp_skip<|cz _ _<|bq ab U (bX rfl rfl<|ai rfl<|ah) fun a w ab U=>⟨(i+1),?_,?_,ab.sub ⟨rfl,rfl,rfl,rfl,trivial⟩,?_⟩
   ·(try dsimp only);omega
   ·exact ⟨by omega,by omega,cM.B2 (p:=(fun y=>decide (n=y))) eu (decide_eq_false bs) il⟩
   ·exact U
 ·refine wp_exit<|bD _ _<|aB ab U (ar rfl<|ah) fun a w ab U=>wp_ret ?_
  exact bR (rs:=[.tmp 4]) rfl ab U (vs:=[_]) ⟨rfl,trivial⟩ ay ay (by rw [cM.BG (fun j a6=>il j (by omega))])
theorem TX(v:Value)(xs:List Int)(n:Int)(w:World)(au:bg Go.aJ.encI (b1 w) v xs):ch Tryz.prog 95 [v,az n] w (fun r _ _=>r=.bool (decide (n∈xs))):=by
 refine cI Tryz.func95 rfl Tryz.ntmps95 (Nat.le_of_ble_eq_true rfl) fun a ab U=>?_
 have cZ:=au.1
 refine aB ab U (ar rfl<|ah) fun a w ab U=>aB ab U (ai rfl<|ai rfl<|ag (bQ Vs rfl (fun w U=>aae _ _ _ w (bg.mono (U.le cD) au)) (fun _ _ _ h=>h))<|ag (jH rfl rfl)<|ar rfl<|ah) fun a w ab U=>wp_ret ?_
 exact bR (rs:=[.tmp 4]) rfl ab U (vs:=[_]) ⟨rfl,trivial⟩ ay ay (by rw [cM.aad])
end
end Go.Proofs.YtngcjojijaknnaaGreatDoor
