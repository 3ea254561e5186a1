/- walks and plain laws -/
import Derived.Test.YtngcjojijaknnaaGreatDoorLgA
import Derived.Test.YtngcjojijaknnaaGreatDoorC3
import Derived.Test.YtngcjojijaknnaaGreatDoorFwD
import Derived.Test.YtngcjojijaknnaaGreatDoorFwB
set_option linter.all false
namespace Go.Proofs.YtngcjojijaknnaaGreatDoor
open Go.aJ
set_option maxRecDepth 4000
set_option maxHeartbeats 2000000
section
theorem Wh:bU Tryz.prog 90:=bY Tryz.func90
theorem Lo:bU Tryz.prog 92:=bY Tryz.func92
theorem Vj:bU Tryz.prog 126:=bY Tryz.func126
theorem VD:bU Tryz.prog 158:=bY Tryz.func158
attribute [local irreducible] aF.int aF.bytes aF.getInt aF.ef aK.sum aj.eW aj.aT aj.cU aj.bh aj.c8 aj.fX aj.app aj.eo aw.dec aw.enc bo.mK aw.dN aw.keys ao.gN
theorem abY(v:Value)(l:List aw.bO)(tick:Int)(hl:l.length<1048576)(w:World)(au:bg Go.aJ.hv (b1 w) v l){dK:Nat×Nat}{dJ:TypeId}(hj:w.heap[0]?=some (.cells (aK.ek.map cx).toArray dJ dK)):ch Tryz.prog 125 [v,az tick] w (fun r _ _=>r=.agg (((bo.mK (aw.ia l tick)).1).map bf).toArray):=by
 refine cI Tryz.func125 rfl Tryz.ntmps125 (Nat.le_of_ble_eq_true rfl) fun a ab U=>?_
 have cZ:=au.1
 have iV:=aw.HB (aw.ia l tick)
 refine a8 fun dW cR=>aH ab U rfl (c1 cW) ?_
 rintro _ _ _ a w ⟨b6,rfl,rfl,rfl⟩ ab U
 rw [show List.replicate 16 (Value.int .u8 0)=(List.replicate 16 (0:UInt8)).map bf from by rw [List.map_replicate] <;> rfl] at U
 refine wpList_nil (cR _ _ ?_)
 refine a8 fun cm bD=>aE ab U (ai rfl<|ai rfl<|ah) fun a w ab U=>aH ab U rfl (eB VQ rfl (fun w U=>aeI _ _ _ (by omega) w (bg.mono (U.le cD) au))) ?_
 rintro v2 _ _ a w ⟨_,_,rfl,rfl,⟨z3,o4,rfl,rfl⟩⟩ ab U
 replace U:aC _ [_] [_] _:=U
 refine aE ab U (ag (bQ VD rfl (fun w U=>ae2 _ _ w (bg.mono (U.le (.inr (by simp))) o4) (U.ext _ _ hj)) (fun _ _ _ h=>h))<|ai rfl<|ag (cE rfl rfl)<|ag (cE rfl rfl)<|ah) fun a w ab U=>aH ab U rfl (c1 cW) ?_
 rintro _ _ _ a w ⟨uV,rfl,rfl,rfl⟩ ab U
 rw [show List.replicate 16 (Value.int .u8 0)=(List.replicate 16 (0:UInt8)).map bf from by rw [List.map_replicate] <;> rfl] at U
 refine aH ab U rfl (cA cW 0 rfl rfl rfl rfl aI bJ aI) ?_
 rintro _ _ _ a w ⟨rfl,rfl,rfl⟩ ab U
 replace U:=kZ U
 refine aE ab U (ar rfl<|ah) fun a w ab U=>wpList_nil (bD _ _ ?_)
 refine a8 fun dH cf=>aE ab U (ag (fW cW 0 rfl rfl aI rfl)<|ah) fun a w ab U=>aH ab U rfl (cA cW 1 rfl rfl rfl rfl aI bJ aI) ?_
 rintro _ _ _ a w ⟨rfl,rfl,rfl⟩ ab U
 replace U:=kZ U
 refine wpList_nil (cf _ _ ?_)
 refine wp_ret<|bR (rs:=[.cell 4 62]) rfl ab U (vs:=[_]) ⟨⟨_,_,_,_,_,_,_,rfl,List.mem_of_getElem? (i:=1) rfl,cW,.inl ⟨rfl,aI,rfl⟩⟩,trivial⟩ ay ay (rfl)
theorem abP(bd ml b:Nat)(v:Value)(lk:Bool)(M:aw.fD)(gj:Value)(ps:List Int)(w0:World)(bP:List aP)(z:aP)(kF:bg Go.aJ.encI z gj ps)(bj:gp w0 bP z){fv:Value}{cj ck cr ct:av}{dK:Nat×Nat}{dJ:TypeId}(hj:w0.heap[0]?=some (.cells (aK.ek.map cx).toArray dJ dK))(fG:aw.Good M.F)(ej:lN b bd M.J cj ck cr ct)(bB:ao.Ok M.S):eH Tryz.prog 51 [.pointer (some ⟨ml,0,none⟩),gj] w0 bP [oG ml bd b fv lk,lP fv M.F,cj,ck,cr,ct,fh bd v M.S,fj v M.S] (fun r zs hs=>zs=[]∧∃ NH dk fw iM jc jd jU,r=.tuple [.pointer (some ⟨NH,0,none⟩),az 0].toArray∧hs=[oG NH bd dk fw (aw.BP M.S (ao.hz M.S ps) lk),lP fw (aw.taken (aj.eo (ao.hz M.S ps)).tx),iM,jc,jd,jU,fh bd v (ao.hz M.S ps),fj v (ao.hz M.S ps)]∧lN dk bd (aj.eo (ao.hz M.S ps)) iM jc jd jU):=by
 refine fF Tryz.func51 rfl Tryz.ntmps51 (Nat.le_of_ble_eq_true rfl) fun cw a w ab U=>?_
 replace U:=hW U
 have nD:=fG.len
 have e5:=bB.lo
 have gg:=bB.aG
 have Bp:=aw.NM M.S ps
 have Mr:(ao.hz M.S ps).off=false:=rfl
 have XM:=ao.yL bB ps
 refine aB ab U (ar rfl<|ar rfl<|ah) fun a w ab U=>a8 fun cm bD=>aH ab U rfl (u5 eT eM) ?_
 rintro v1 _ _ a w ⟨rfl,rfl⟩ ab U
 replace U:=jT U
 refine aE ab U (ai rfl<|ag (bI rfl)<|ag (aV km rfl rfl (s':=0) aA)<|ag (bc oz 1 rfl rfl rfl rfl)<|ag (bI rfl)<|ag (aV gT rfl rfl (s':=0) aA)<|ag (bc eT 7 rfl rfl rfl rfl)<|ah) fun a w ab U=>aH ab U rfl (dB eT eM 0 rfl rfl rfl (eA eT (k:=8) rfl (ao.afC _)) aI rfl (by decide)) ?_
 rintro v3 _ _ a w ⟨rfl,rfl⟩ ab U
 replace U:=jT U
 refine aE ab U (ar rfl<|ah) fun a w ab U=>wpList_nil ?_
 rw [List.nil_append,Nat.zero_add] at U
 refine bD _ _<|a8 fun dH cf=>aE ab U (ai rfl<|ag (bI rfl)<|ag (aV km rfl rfl (s':=0) aA)<|ag (bc oz 1 rfl rfl rfl rfl)<|ai rfl<|ah) fun a w ab U=>?_
 replace U:=(U.perm w4).perm z6
 replace U:=jT U
 refine aH ab U rfl (dy Wh rfl (List.Perm.refl _) (by exact (aeJ _ _ _ _ _ kF bj (by first | assumption | exact ao.ir (by assumption) | exact ao.kl (by assumption) _ _) (S:=M.S) (v:=v)))) ?_
 rintro _ _ _ a w ⟨_,_,rfl,rfl,⟨rfl,rfl,rfl⟩⟩ ab U
 replace U:=jT U
 refine wpList_nil (cf _ _ ?_)
 refine aB ab U (ai rfl<|ag (bI rfl)<|ag (aV km rfl rfl (s':=0) aA)<|ag (bc fg 3 rfl rfl rfl rfl)<|ar rfl<|ah) fun a w ab U=>ax fun dw b3=>aB ab U (ar rfl<|ah) fun a w ab U=>wp_block ?_
 obtain ⟨bC,aZ,U⟩:=U.cT
 refine df (γ:=Nat) (0) (fun (i:Nat)=>[(7,.bool (aw.r4 M.S (ao.hz M.S ps) lk i)),(8,az (i:Int))]) [(0,_),(6,_)] (fun (i:Nat)=>bC) (fun (i:Nat)=>i≤M.S.s.length) (fun (i:Nat)=>M.S.s.length-i) (ab.sub ⟨rfl,rfl,rfl,rfl,trivial⟩) (by subst aZ;exact U) (by exact Nat.zero_le _) ?_
 rintro i a w ba ab U
 subst aZ;(try dsimp only at ba ab U)
 have eu:=ba
 replace U:=jT U
 refine ax fun eU cO=>aB ab U (ai rfl<|ai rfl<|ag (hX eT 2 rfl rfl)<|ag (cK rfl rfl)<|ah) fun a w ab U=>b9 ab rfl (fun aS=>?_) (fun aS=>?_)
 ·refine wp_skip<|cO _ _<|ax fun fY dg=>wp_block ?_
  refine aB ab U (ai rfl<|ag (bI rfl)<|ag (aV km rfl rfl (s':=0) aA)<|ag (bc oz 3 rfl rfl rfl rfl)<|ag (bI rfl)<|ag (aV gT rfl rfl (s':=0) aA)<|ag (bc eT 0 rfl rfl rfl rfl)<|ai rfl<|ag (ft eT eM 1 rfl rfl rfl (by omega))<|ag (mG eM 1 rfl rfl (by omega) rfl (s':=0) aA)<|ag (pc ao.k4 ao.cG bz 1 rfl rfl rfl (by omega) (by decide) rfl)<|ar rfl<|ah) fun a w ab U=>a8 fun gQ dz=>aE ab U (ai rfl<|ai rfl<|ag (ft eT eM 2 rfl rfl rfl (by omega))<|ag (mG eM 2 rfl rfl (by omega) rfl (s':=0) aA)<|ag (pc ao.k4 ao.cG fg 2 rfl rfl rfl (by omega) (by decide) rfl)<|ai rfl<|ah) fun a w ab U=>jJ 5 53 7 ab U rfl rfl rfl rfl rfl (fun aO=>have aO:=aO;aN 53 rfl rfl rfl (bE rfl)<|aN 53 rfl rfl rfl (bE rfl)<|aN 53 rfl rfl rfl (bE rfl)<|aN 53 rfl rfl rfl (ft eT eM 2 rfl rfl rfl (by omega))<|aN 53 rfl rfl rfl (mG eM 2 rfl rfl (by omega) rfl (s':=0) aA)<|aN 53 rfl rfl rfl (pc ao.k4 ao.cG bz 2 rfl rfl rfl (by omega) (by decide) rfl)<|aN 53 rfl rfl rfl (qX rfl rfl)<|ah) rfl rfl fun a w ab U=>?_
  refine aE ab U (ai rfl<|ah) fun a w ab U=>jJ 14 62 7 ab U rfl rfl rfl rfl rfl (fun aO=>have aO:=aO;aN 62 rfl rfl rfl (bE rfl)<|aN 62 rfl rfl rfl (bE rfl)<|aN 62 rfl rfl rfl (bE rfl)<|aN 62 rfl rfl rfl (ft eT eM 2 rfl rfl rfl (by omega))<|aN 62 rfl rfl rfl (mG eM 2 rfl rfl (by omega) rfl (s':=0) aA)<|aN 62 rfl rfl rfl (pc ao.k4 ao.cG bz 2 rfl rfl rfl (by omega) (by decide) rfl)<|aN 62 rfl rfl rfl (qX rfl rfl)<|ah) rfl rfl fun a w ab U=>?_
  refine aE ab U (ai rfl<|ah) fun a w ab U=>jJ 23 71 3 ab U rfl rfl rfl rfl rfl (fun aO=>have aO:=aO;aN 71 rfl rfl rfl (bE rfl)<|aN 71 rfl rfl rfl (bQ EJ rfl (fun w U=>HK _ w (U.ext _ _ hj)) (fun _ _ _ h=>h))<|aN 71 rfl rfl rfl (OM dA rfl rfl fg rfl rfl rfl)<|ah) rfl rfl fun a w ab U=>?_
  refine wpList_nil (dz _ _ ?_)
  refine cX ab rfl (fun bs=>?_) (fun bs=>?_)
  ·(try simp only [c2] at bs)
   refine bq ab U (ar rfl<|ah) fun a w ab U=>dg _ _ ?_
   refine bq ab U (ai rfl<|bX rfl rfl<|ar rfl<|ah) fun a w ab U=>⟨(i+1),?_,?_,ab.sub ⟨(by show some (Value.bool true)=some (Value.bool _);rw [aw.abn bs]),rfl,rfl,rfl,trivial⟩,?_⟩
   ·(try dsimp only);omega
   ·omega
   ·exact U
  ·(try simp only [c2] at bs)
   refine wp_skip<|dg _ _<|bq ab U (ai rfl<|bX rfl rfl<|ar rfl<|ah) fun a w ab U=>⟨(i+1),?_,?_,ab.sub ⟨(by show some (Value.bool _)=some (Value.bool _);rw [aw.abm bs]),rfl,rfl,rfl,trivial⟩,?_⟩
   ·(try dsimp only);omega
   ·omega
   ·exact U
 ·refine wp_exit<|b3 _ _<|a8 fun iE eO=>aE ab U (ai rfl<|ag (bI rfl)<|ag (aV km rfl rfl (s':=0) aA)<|ag (bc oz 3 rfl rfl rfl rfl)<|ah) fun a w ab U=>aH ab U rfl (dy Lo rfl (List.Perm.refl _) (by exact (NL _ v (ao.hz M.S ps) (by assumption) _ _ hj (by first | assumption | exact ao.yL (by assumption) _)))) ?_
  rintro _ _ _ a w ⟨_,_,rfl,rfl,⟨rfl,alQ,MU,ajf,um,uo,uq,ur,rfl,rfl,Xm⟩⟩ ab U
  replace U:aC _ (_) (_::_::_::_::_::_::_::_::_::_::_::_::_::_::_::_) _:=U
  refine aE ab U (ai rfl<|ag (cE rfl rfl)<|ag (cE rfl rfl)<|ar rfl<|ar rfl<|ah) fun a w ab U=>wpList_nil (eO _ _ ?_)
  refine ax fun iv eD=>aB ab U (ai rfl<|ag (lF (dM rfl rfl) (by simp))<|ah) fun a w ab U=>cX ab rfl (fun h=>absurd h (by simp)) (fun _=>?_)
  refine wp_skip<|eD _ _<|a8 fun jN fa=>aE ab U (ai rfl<|ai rfl<|ag (bI rfl)<|ag (aV km rfl rfl (s':=0) aA)<|ah) fun a w ab U=>aH ab U rfl (c7 fg 0 rfl rfl rfl rfl (by simp)) ?_
  rintro _ _ _ a w ⟨rfl,rfl,rfl⟩ ab U
  replace U:aC _ (_) (.blk _ _ ([_,_,_,_].set 3 _)::_::_::_::_::_::_::_::_::_::_::_::_::_::_::_) _:=U
  simp only [List.set_cons_zero,List.set_cons_succ] at U
  replace U:aC _ (_) (_::_::_::_::_::_::_::_::_::_::_::_::_::_::_::_) _:=U
  refine wpList_nil (fa _ _ ?_)
  refine aB ab U (ai rfl<|ar rfl<|ar rfl<|ah) fun a w ab U=>wp_ret ?_
  obtain rfl:i=M.S.s.length:=by omega
  exact cQ (rs:=[.tmp 4,.tmp 5]) rfl ab U (vs:=[_,_]) ⟨rfl,rfl,trivial⟩ [] [_,_,_,_,_,_,_,_] ae (ae.n.n.n.n.n.n.n.k.k.k.k.k.k.k.k) ⟨rfl,_,_,_,_,_,_,_,rfl,rfl,Xm⟩
theorem ab0(bd ml b:Nat)(v:Value)(lk:Bool)(M:aw.fD)(i nq:Int)(Bf : -9223372036854775808≤nq∧nq≤9223372036854775807)(w0:World)(bP:List aP){fv:Value}{cj ck cr ct:av}{dK:Nat×Nat}{dJ:TypeId}(hj:w0.heap[0]?=some (.cells (aK.ek.map cx).toArray dJ dK))(fG:aw.Good M.F)(ej:lN b bd M.J cj ck cr ct)(bB:ao.Ok M.S):eH Tryz.prog 83 [.pointer (some ⟨ml,0,none⟩),az i,az nq] w0 bP [oG ml bd b fv lk,lP fv M.F,cj,ck,cr,ct,fh bd v M.S,fj v M.S] (aw.z1 (oG ml bd b · (aw.ua M.S i nq lk)) lP (lN b bd) (fh bd v) (fj v) ⟨M.J,(ao.gN M.S i nq).1,M.F⟩ (az (ao.gN M.S i nq).2)):=by
 refine fF Tryz.func83 rfl Tryz.ntmps83 (Nat.le_of_ble_eq_true rfl) fun cw a w ab U=>?_
 replace U:=hW U
 have nD:=fG.len
 have e5:=bB.lo
 have gg:=bB.aG
 have rX:=aw.aeS M.S i nq
 have hOr:=ao.acw bB i nq
 refine aB ab U (ar rfl<|ah) fun a w ab U=>a8 fun cm bD=>aE ab U (ai rfl<|ag (bI rfl)<|ag (aV km rfl rfl (s':=0) aA)<|ag (bc oz 0 rfl rfl rfl rfl)<|ai rfl<|ai rfl<|ah) fun a w ab U=>?_
 replace U:=(U.perm IY).perm Dy
 replace U:=hW U
 refine aH ab U rfl (dy Vj rfl (List.Perm.refl _) (by exact (ae3 _ _ (by omega) _ _  (by first | assumption | exact ao.ir (by assumption) | exact ao.kl (by assumption) _ _) (S:=M.S) (v:=v)))) ?_
 rintro _ _ _ a w ⟨_,_,rfl,rfl,⟨rfl,rfl,rfl⟩⟩ ab U
 replace U:=hW U
 refine aE ab U (ar rfl<|ah) fun a w ab U=>wpList_nil (bD _ _ ?_)
 refine ax fun dH cf=>ax fun dP cq=>?_
 rcases Decidable.em ((ao.gN M.S i nq).2=0) with j6 | j6
 ·have gG:=aw.aeT j6
  refine bq ab U (ai rfl<|ag (l0 (fc rfl rfl) (j6))<|ai rfl<|aN 17 rfl rfl rfl (bE rfl)<|aN 17 rfl rfl rfl (bI rfl)<|aN 17 rfl rfl rfl (aV km rfl rfl (s':=0) aA)<|aN 17 rfl rfl rfl (bc oz 2 rfl rfl rfl rfl)<|aN 17 rfl rfl rfl (bI rfl)<|aN 17 rfl rfl rfl (aV gT rfl rfl (s':=0) aA)<|aN 17 rfl rfl rfl (bc eT 0 rfl rfl rfl rfl)<|aN 17 rfl rfl rfl (bE rfl)<|aN 17 rfl rfl rfl (ft eT eM 1 rfl rfl rfl (by omega))<|aN 17 rfl rfl rfl (mG eM 1 rfl rfl (by omega) rfl (s':=0) aA)<|aN 17 rfl rfl rfl (pc ao.k4 ao.cG bz 1 rfl rfl rfl (by omega) (by decide) rfl)<|aN 17 rfl rfl rfl (bQ EJ rfl (fun w U=>HK _ w (U.ext _ _ hj)) (fun _ _ _ h=>h))<|aN 17 rfl rfl rfl (OM dA rfl rfl fg rfl rfl rfl)<|ag (iN rfl rfl)<|ah) fun a w ab U=>cq _ _ ?_
  refine cX ab rfl (fun aS=>?_) (fun aS=>?_)
  ·refine du<|aE ab U (ai rfl<|ag (bI rfl)<|ag (aV km rfl rfl (s':=0) aA)<|ah) fun a w ab U=>aH ab U rfl (c7 fg 2 rfl rfl rfl rfl (by simp)) ?_
   rintro _ _ _ a w ⟨rfl,rfl,rfl⟩ ab U
   replace U:aC _ (_) (_::_::.blk _ _ ([_,_,_,_].set 3 _)::_::_::_::_::_::_) _:=U
   simp only [List.set_cons_zero,List.set_cons_succ] at U
   replace U:=hW U
   refine wpList_nil (cf _ _ ?_)
   refine aB ab U (ai rfl<|ar rfl<|ah) fun a w ab U=>wp_ret ?_
   replace U:=(((((U.perm nj).perm mf).perm oH).perm px).perm sO).perm pz
   exact cQ (rs:=[.tmp 6]) rfl ab U (vs:=[_]) ⟨rfl,trivial⟩ [] [_,_,_,_,_,_,_,_] ae ae (by rw [aw.abg j6 aS];exact ⟨rfl,rfl,_,_,_,_,_,rfl,ej⟩)
  ·refine wp_skip<|cf _ _<|aB ab U (ai rfl<|ar rfl<|ah) fun a w ab U=>wp_ret ?_
   replace U:=(((((U.perm nj).perm mf).perm oH).perm px).perm sO).perm pz
   exact cQ (rs:=[.tmp 6]) rfl ab U (vs:=[_]) ⟨rfl,trivial⟩ [] [_,_,_,_,_,_,_,_] ae ae (by rw [aw.abe aS];exact ⟨rfl,rfl,_,_,_,_,_,rfl,ej⟩)
 ·skip
  refine bq ab U (ai rfl<|ag (adp (fc rfl rfl) (j6))<|ai rfl<|h3 17 rfl rfl rfl rfl<|h3 17 rfl rfl rfl rfl<|h3 17 rfl rfl rfl rfl<|h3 17 rfl rfl rfl rfl<|h3 17 rfl rfl rfl rfl<|h3 17 rfl rfl rfl rfl<|h3 17 rfl rfl rfl rfl<|h3 17 rfl rfl rfl rfl<|h3 17 rfl rfl rfl rfl<|h3 17 rfl rfl rfl rfl<|h3 17 rfl rfl rfl rfl<|h3 17 rfl rfl rfl rfl<|h3 17 rfl rfl rfl rfl<|ag (hY rfl rfl)<|ah) fun a w ab U=>cq _ _ ?_
  refine cX ab rfl (fun h=>absurd h (by simp)) (fun _=>?_)
  refine wp_skip<|cf _ _<|aB ab U (ai rfl<|ar rfl<|ah) fun a w ab U=>wp_ret ?_
  replace U:=(((((U.perm nj).perm mf).perm oH).perm px).perm sO).perm pz
  exact cQ (rs:=[.tmp 6]) rfl ab U (vs:=[_]) ⟨rfl,trivial⟩ [] [_,_,_,_,_,_,_,_] ae ae (by rw [aw.abf j6];exact ⟨rfl,rfl,_,_,_,_,_,rfl,ej⟩)
end
section
theorem gU : a1 Tryz.prog 88 (.struct #[⟨ "Kind", 3, 0, false, "", "", 0⟩, ⟨ "N", 3, 1, false, "", "", 8⟩, ⟨ "Later", 3, 2, false, "", "", 16⟩, ⟨ "Key", 9, 3, false, "", "", 24⟩, ⟨ "Value", 9, 4, false, "", "", 40⟩, ⟨ "Picks", 22, 5, false, "", "", 56⟩]) 6 80 (.agg ([Value.int .i64 0, Value.int .i64 0, Value.int .i64 0] ++ [Value.string ⟨(List.nil : List UInt8).toArray⟩, Value.string ⟨(List.nil : List UInt8).toArray⟩] ++ [Value.slice none 0 0]).toArray) := ⟨Tryz.underlying88, by kernel_rfl⟩
theorem zy:a1 Tryz.prog 157 (.slice 88) 1 24 (Value.slice none 0 0):=⟨Tryz.underlying157,by kernel_rfl⟩
attribute [local irreducible] cM.fo aw.keyOf
theorem afw(v:Value)(l:List Int)(most:Int)(hm:0≤most∧most≤16)(w:World)(au:bg Go.aJ.encI (b1 w) v l):ch Tryz.prog 81 [v,az most] w (fun r zs hs=>∃ (q:List aw.ix) (z:aP),zs=[z]∧hs=[]∧bg aw.u7 z r q∧q.length≤16):=by
 refine cI Tryz.func81 rfl Tryz.ntmps81 (Nat.le_of_ble_eq_true rfl) fun a ab U=>?_
 have cZ:=au.1
 refine aB ab U (ar rfl<|ah) fun a w ab U=>ax fun cm bD=>bq ab U (ar rfl<|ah) fun a w ab U=>?_
 replace U:=U.hV 88 6
 refine bD _ _<|ax fun dH cf=>aB ab U (ar rfl<|ah) fun a w ab U=>wp_block ?_
 obtain ⟨bC,aZ,U⟩:=U.cT
 obtain ⟨ahK,Z6,U⟩:=U.acH
 replace U:=U.ahJ
 refine ahn (γ:=Value×aP×List (aw.ix×Value)×Nat) ((Value.slice none 0 0),fun _=>none,[],0) (fun (u,z,ts,i)=>z::ahK) (fun (u,z,ts,i)=>[(5,u),(6,az (i:Int))]) [(0,_),(1,_)] (fun (u,z,ts,i)=>(bC.set 0 (.row u 88 6 ts.length (ts.flatMap aw.p7)))) (fun (u,z,ts,i)=>(i≤16∧ts.length=i)∧aw.rf z ts) (fun (u,z,ts,i)=>16-i) (ab.sub ⟨rfl,rfl,rfl,rfl,trivial⟩) (by subst aZ;exact U) (by exact ⟨⟨Nat.zero_le _,rfl⟩,aw.rf.nil⟩) ?_
 rintro ⟨u,z,ts,i⟩ a w ba ab U
 subst aZ;subst Z6;(try dsimp only at ba ab U)
 obtain ⟨⟨eu,o2⟩,pO⟩:=ba
 replace U:aC _ [_] [_] _:=U
 refine ax fun dw b3=>a8 fun et cz=>aE ab U (ai rfl<|ag (hd rfl rfl (by omega))<|bX rfl rfl<|ai rfl<|ag (dL c5 au rfl)<|ag (cK rfl rfl)<|ai rfl<|ah) fun a w ab U=>jJ 6 15 3 ab U rfl rfl rfl rfl rfl (fun aO=>have aO:=(by first | exact of_decide_eq_true aO | exact aO);aN 15 rfl rfl rfl (bE rfl)<|aN 15 rfl rfl rfl (bE rfl)<|aN 15 rfl rfl rfl (cK rfl rfl)<|ah) rfl rfl fun a w ab U=>?_
 refine wpList_nil (cz _ _ ?_)
 refine cX ab rfl (fun aS=>?_) (fun aS=>?_)
 ·(try simp only [c2] at aS)
  have aj9 : -9223372036854775808≤l.getD (4*(i:Int)).toNat 0∧l.getD (4*(i:Int)).toNat 0≤9223372036854775807:=wx au _ (jE (by omega))
  have aka : -9223372036854775808≤l.getD (4*(i:Int)+1).toNat 0∧l.getD (4*(i:Int)+1).toNat 0≤9223372036854775807:=wx au _ (jE (by omega))
  have akb : -9223372036854775808≤l.getD (4*(i:Int)+2).toNat 0∧l.getD (4*(i:Int)+2).toNat 0≤9223372036854775807:=wx au _ (jE (by omega))
  have akc : -9223372036854775808≤l.getD (4*(i:Int)+3).toNat 0∧l.getD (4*(i:Int)+3).toNat 0≤9223372036854775807:=wx au _ (jE (by omega))
  have Zq:=cM.rm (n:=(l.getD (4*(i:Int)).toNat 0)) (m:=10) (by decide)
  have Zr:=cM.rm (n:=(l.getD (4*(i:Int)+1).toNat 0)) (m:=24) (by decide)
  have Zs:=cM.rm (n:=(l.getD (4*(i:Int)+2).toNat 0)) (m:=5) (by decide)
  refine wp_skip<|b3 _ _<|ax fun eU cO=>wp_block ?_
  refine ax fun e1 cF=>?_
  revert U;revert ab;apply ho (J:=jL (α0:=Nat) 70 _ _ _ _ _) #[false,false,false,false,false,false,false,false,false,false,false,false,false,false,false,false,false,false,false,false,false,false,false,false] 24 mixed rfl rfl
  ·intro w ab U
   refine aR 0 rfl ab (U.ak ae ay) (bE rfl) fun a ab=>aR 1 rfl ab (U.ak ae ay) (bE rfl) fun a ab=>aR 2 rfl ab (U.ak ae ay) (hd rfl rfl (by omega)) fun a ab=>aR 3 rfl ab (U.ak ae ay) (dG c5 bG au rfl rfl (by omega)) fun a ab=>aR 4 rfl ab (U.ak ae ay) (sh bG au cD rfl rfl (by omega)) fun a ab=>?_
   refine aR 6 rfl ab (U.ak ae ay) (bE rfl) fun a ab=>aR 7 rfl ab (U.ak ae ay) (bE rfl) fun a ab=>aR 8 rfl ab (U.ak ae ay) (hd rfl rfl (by omega)) fun a ab=>aR 9 rfl ab (U.ak ae ay) (pb rfl rfl (by omega)) fun a ab=>aR 10 rfl ab (U.ak ae ay) (dG c5 bG au rfl rfl (by omega)) fun a ab=>?_
   refine aR 11 rfl ab (U.ak ae ay) (sh bG au cD rfl rfl (by omega)) fun a ab=>aR 13 rfl ab (U.ak ae ay) (bE rfl) fun a ab=>aR 14 rfl ab (U.ak ae ay) (bE rfl) fun a ab=>aR 15 rfl ab (U.ak ae ay) (hd rfl rfl (by omega)) fun a ab=>aR 16 rfl ab (U.ak ae ay) (pb rfl rfl (by omega)) fun a ab=>?_
   refine aR 17 rfl ab (U.ak ae ay) (dG c5 bG au rfl rfl (by omega)) fun a ab=>aR 18 rfl ab (U.ak ae ay) (sh bG au cD rfl rfl (by omega)) fun a ab=>fy [5,22] aA rfl ⟨?_,?_,trivial⟩
   ·refine dQ _ rfl rfl ab U rfl (eI (bQ nu rfl (fun w U=>nm _ _ (by omega) (by omega) w ) (fun _ _ _ h=>h))) ?_
    rintro _ _ _ a w ⟨rfl,rfl,rfl⟩ ab U
    refine ⟨⟨.inr (U.ak ae ay),.inr (U.ak ae ay),.inr (U.ak ae ay),.inr (U.ak ae ay),.inr (U.ak ae ay),.inr (U.ak ae ay),.inr (U.ak ae ay),.inr (U.ak ae ay),.inr (U.ak ae ay),.inr (U.ak ae ay),.inr (U.ak ae ay),.inr (U.ak ae ay),al,al,.inr (U.ak ae ay),.inr (U.ak ae ay),.inr (U.ak ae ay),trivial⟩,?_⟩
    refine fy [12,22] aA rfl ⟨?_,?_,trivial⟩
    ·refine dQ _ rfl rfl ab U rfl (eI (bQ nu rfl (fun w U=>nm _ _ (by omega) (by omega) w ) (fun _ _ _ h=>h))) ?_
     rintro _ _ _ a w ⟨rfl,rfl,rfl⟩ ab U
     refine ⟨⟨.inr (U.ak ae ay),.inr (U.ak ae ay),.inr (U.ak ae ay),.inr (U.ak ae ay),.inr (U.ak ae ay),.inr (U.ak ae ay),al,al,.inr (U.ak ae ay),.inr (U.ak ae ay),.inr (U.ak ae ay),.inr (U.ak ae ay),al,al,.inr (U.ak ae ay),.inr (U.ak ae ay),.inr (U.ak ae ay),trivial⟩,?_⟩
     refine fy [19,22] aA rfl ⟨?_,?_,trivial⟩
     ·refine dQ _ rfl rfl ab U rfl (eI (bQ nu rfl (fun w U=>nm _ _ (by omega) (by omega) w ) (fun _ _ _ h=>h))) ?_
      rintro _ _ _ a w ⟨rfl,rfl,rfl⟩ ab U
      refine ⟨⟨al,al,.inr (U.ak ae ay),.inr (U.ak ae ay),.inr (U.ak ae ay),.inr (U.ak ae ay),al,al,.inr (U.ak ae ay),.inr (U.ak ae ay),.inr (U.ak ae ay),.inr (U.ak ae ay),al,al,.inr (U.ak ae ay),.inr (U.ak ae ay),.inr (U.ak ae ay),trivial⟩,?_⟩
      refine aR 20 rfl ab (U.ak ae ay) (na rfl rfl (by omega)) fun a ab=>aR 21 rfl ab (U.ak ae ay) (hc (places:=[(0,1),(1,1),(2,1),(3,1),(4,1),(5,1)]) (cells:=[_,_,_,.string ⟨(List.nil:List UInt8).toArray⟩,.string ⟨(List.nil:List UInt8).toArray⟩,.slice none 0 0]) gU aA rfl (by rfl)) fun a ab=>bW 22 rfl rfl ab U rfl (c1 gU) ?_
      rintro _ _ _ a w ⟨rn,rfl,rfl,rfl⟩ ab U
      refine ⟨⟨.inr (U.ak ae ay),.inr (U.ak ae ay),al,al,.inr (U.ak ae ay),.inr (U.ak ae ay),.inr (U.ak ae ay),.inr (U.ak ae ay),al,al,.inr (U.ak ae ay),.inr (U.ak ae ay),.inr (U.ak ae ay),.inr (U.ak ae ay),al,al,.inr (U.ak ae ay),.inr (U.ak ae ay),.inr (U.ak ae ay),trivial⟩,?_⟩
      refine bW 23 rfl rfl ab U rfl (cA gU 0 rfl rfl rfl rfl aI (bn rfl (bn rfl (bn rfl (bn rfl (bn rfl (bn rfl dC)))))) aI) ?_
      rintro _ _ _ a w ⟨rfl,rfl,rfl⟩ ab U
      refine ⟨⟨al,al,al,al,al,al,al,al,al,al,al,al,al,al,al,al,al,al,al,trivial⟩,?_⟩
      exact ei aA (ly rn (trivial) (ab.sub (L':=[(0,_),(1,_),(5,_),(6,_),(7,_)]) ⟨rfl,rfl,rfl,rfl,rfl,trivial⟩) U)
     ·refine dQ _ rfl rfl ab U rfl (c1 gU) ?_
      rintro _ _ _ a w ⟨rn,rfl,rfl,rfl⟩ ab U
      refine ⟨⟨.inr (U.ak ae ay),.inr (U.ak ae ay),.inr (U.ak ae ay),.inr (U.ak ae ay),.inr (U.ak ae ay),.inr (U.ak ae ay),al,al,.inr (U.ak ae ay),.inr (U.ak ae ay),.inr (U.ak ae ay),.inr (U.ak ae ay),al,al,.inr (U.ak ae ay),.inr (U.ak ae ay),.inr (U.ak ae ay),trivial⟩,?_⟩
      refine bW 19 rfl rfl ab U rfl (eI (bQ nu rfl (fun w U=>nm _ _ (by omega) (by omega) w ) (fun _ _ _ h=>h))) ?_
      rintro _ _ _ a w ⟨rfl,rfl,rfl⟩ ab U
      refine ⟨⟨al,al,.inr (U.ak ae ay),.inr (U.ak ae ay),.inr (U.ak ae ay),.inr (U.ak ae ay),al,al,.inr (U.ak ae ay),.inr (U.ak ae ay),.inr (U.ak ae ay),.inr (U.ak ae ay),al,al,.inr (U.ak ae ay),.inr (U.ak ae ay),.inr (U.ak ae ay),trivial⟩,?_⟩
      refine aR 20 rfl ab (U.ak ae ay) (na rfl rfl (by omega)) fun a ab=>aR 21 rfl ab (U.ak ae ay) (hc (places:=[(0,1),(1,1),(2,1),(3,1),(4,1),(5,1)]) (cells:=[_,_,_,.string ⟨(List.nil:List UInt8).toArray⟩,.string ⟨(List.nil:List UInt8).toArray⟩,.slice none 0 0]) gU aA rfl (by rfl)) fun a ab=>bW 23 rfl rfl ab U rfl (cA gU 0 rfl rfl rfl rfl aI (bn rfl (bn rfl (bn rfl (bn rfl (bn rfl (bn rfl dC)))))) aI) ?_
      rintro _ _ _ a w ⟨rfl,rfl,rfl⟩ ab U
      refine ⟨⟨al,al,al,al,al,al,al,al,al,al,al,al,al,al,al,al,al,al,al,trivial⟩,?_⟩
      exact ei aA (ly rn (trivial) (ab.sub (L':=[(0,_),(1,_),(5,_),(6,_),(7,_)]) ⟨rfl,rfl,rfl,rfl,rfl,trivial⟩) U)
    ·refine dQ _ rfl rfl ab U rfl (c1 gU) ?_
     rintro _ _ _ a w ⟨rn,rfl,rfl,rfl⟩ ab U
     refine ⟨⟨.inr (U.ak ae ay),.inr (U.ak ae ay),.inr (U.ak ae ay),.inr (U.ak ae ay),.inr (U.ak ae ay),.inr (U.ak ae ay),.inr (U.ak ae ay),.inr (U.ak ae ay),.inr (U.ak ae ay),.inr (U.ak ae ay),.inr (U.ak ae ay),.inr (U.ak ae ay),al,al,.inr (U.ak ae ay),.inr (U.ak ae ay),.inr (U.ak ae ay),trivial⟩,?_⟩
     refine bW 12 rfl rfl ab U rfl (eI (bQ nu rfl (fun w U=>nm _ _ (by omega) (by omega) w ) (fun _ _ _ h=>h))) ?_
     rintro _ _ _ a w ⟨rfl,rfl,rfl⟩ ab U
     refine ⟨⟨.inr (U.ak ae ay),.inr (U.ak ae ay),.inr (U.ak ae ay),.inr (U.ak ae ay),.inr (U.ak ae ay),.inr (U.ak ae ay),al,al,.inr (U.ak ae ay),.inr (U.ak ae ay),.inr (U.ak ae ay),.inr (U.ak ae ay),al,al,.inr (U.ak ae ay),.inr (U.ak ae ay),.inr (U.ak ae ay),trivial⟩,?_⟩
     refine bW 19 rfl rfl ab U rfl (eI (bQ nu rfl (fun w U=>nm _ _ (by omega) (by omega) w ) (fun _ _ _ h=>h))) ?_
     rintro _ _ _ a w ⟨rfl,rfl,rfl⟩ ab U
     refine ⟨⟨al,al,.inr (U.ak ae ay),.inr (U.ak ae ay),.inr (U.ak ae ay),.inr (U.ak ae ay),al,al,.inr (U.ak ae ay),.inr (U.ak ae ay),.inr (U.ak ae ay),.inr (U.ak ae ay),al,al,.inr (U.ak ae ay),.inr (U.ak ae ay),.inr (U.ak ae ay),trivial⟩,?_⟩
     refine aR 20 rfl ab (U.ak ae ay) (na rfl rfl (by omega)) fun a ab=>aR 21 rfl ab (U.ak ae ay) (hc (places:=[(0,1),(1,1),(2,1),(3,1),(4,1),(5,1)]) (cells:=[_,_,_,.string ⟨(List.nil:List UInt8).toArray⟩,.string ⟨(List.nil:List UInt8).toArray⟩,.slice none 0 0]) gU aA rfl (by rfl)) fun a ab=>bW 23 rfl rfl ab U rfl (cA gU 0 rfl rfl rfl rfl aI (bn rfl (bn rfl (bn rfl (bn rfl (bn rfl (bn rfl dC)))))) aI) ?_
     rintro _ _ _ a w ⟨rfl,rfl,rfl⟩ ab U
     refine ⟨⟨al,al,al,al,al,al,al,al,al,al,al,al,al,al,al,al,al,al,al,trivial⟩,?_⟩
     exact ei aA (ly rn (trivial) (ab.sub (L':=[(0,_),(1,_),(5,_),(6,_),(7,_)]) ⟨rfl,rfl,rfl,rfl,rfl,trivial⟩) U)
   ·refine dQ _ rfl rfl ab U rfl (c1 gU) ?_
    rintro _ _ _ a w ⟨rn,rfl,rfl,rfl⟩ ab U
    refine ⟨⟨.inr (U.ak ae ay),.inr (U.ak ae ay),.inr (U.ak ae ay),.inr (U.ak ae ay),.inr (U.ak ae ay),.inr (U.ak ae ay),.inr (U.ak ae ay),.inr (U.ak ae ay),.inr (U.ak ae ay),.inr (U.ak ae ay),.inr (U.ak ae ay),.inr (U.ak ae ay),.inr (U.ak ae ay),.inr (U.ak ae ay),.inr (U.ak ae ay),.inr (U.ak ae ay),.inr (U.ak ae ay),trivial⟩,?_⟩
    refine bW 5 rfl rfl ab U rfl (eI (bQ nu rfl (fun w U=>nm _ _ (by omega) (by omega) w ) (fun _ _ _ h=>h))) ?_
    rintro _ _ _ a w ⟨rfl,rfl,rfl⟩ ab U
    refine ⟨⟨.inr (U.ak ae ay),.inr (U.ak ae ay),.inr (U.ak ae ay),.inr (U.ak ae ay),.inr (U.ak ae ay),.inr (U.ak ae ay),.inr (U.ak ae ay),.inr (U.ak ae ay),.inr (U.ak ae ay),.inr (U.ak ae ay),.inr (U.ak ae ay),.inr (U.ak ae ay),al,al,.inr (U.ak ae ay),.inr (U.ak ae ay),.inr (U.ak ae ay),trivial⟩,?_⟩
    refine bW 12 rfl rfl ab U rfl (eI (bQ nu rfl (fun w U=>nm _ _ (by omega) (by omega) w ) (fun _ _ _ h=>h))) ?_
    rintro _ _ _ a w ⟨rfl,rfl,rfl⟩ ab U
    refine ⟨⟨.inr (U.ak ae ay),.inr (U.ak ae ay),.inr (U.ak ae ay),.inr (U.ak ae ay),.inr (U.ak ae ay),.inr (U.ak ae ay),al,al,.inr (U.ak ae ay),.inr (U.ak ae ay),.inr (U.ak ae ay),.inr (U.ak ae ay),al,al,.inr (U.ak ae ay),.inr (U.ak ae ay),.inr (U.ak ae ay),trivial⟩,?_⟩
    refine bW 19 rfl rfl ab U rfl (eI (bQ nu rfl (fun w U=>nm _ _ (by omega) (by omega) w ) (fun _ _ _ h=>h))) ?_
    rintro _ _ _ a w ⟨rfl,rfl,rfl⟩ ab U
    refine ⟨⟨al,al,.inr (U.ak ae ay),.inr (U.ak ae ay),.inr (U.ak ae ay),.inr (U.ak ae ay),al,al,.inr (U.ak ae ay),.inr (U.ak ae ay),.inr (U.ak ae ay),.inr (U.ak ae ay),al,al,.inr (U.ak ae ay),.inr (U.ak ae ay),.inr (U.ak ae ay),trivial⟩,?_⟩
    refine aR 20 rfl ab (U.ak ae ay) (na rfl rfl (by omega)) fun a ab=>aR 21 rfl ab (U.ak ae ay) (hc (places:=[(0,1),(1,1),(2,1),(3,1),(4,1),(5,1)]) (cells:=[_,_,_,.string ⟨(List.nil:List UInt8).toArray⟩,.string ⟨(List.nil:List UInt8).toArray⟩,.slice none 0 0]) gU aA rfl (by rfl)) fun a ab=>bW 23 rfl rfl ab U rfl (cA gU 0 rfl rfl rfl rfl aI (bn rfl (bn rfl (bn rfl (bn rfl (bn rfl (bn rfl dC)))))) aI) ?_
    rintro _ _ _ a w ⟨rfl,rfl,rfl⟩ ab U
    refine ⟨⟨al,al,al,al,al,al,al,al,al,al,al,al,al,al,al,al,al,al,al,trivial⟩,?_⟩
    exact ei aA (ly rn (trivial) (ab.sub (L':=[(0,_),(1,_),(5,_),(6,_),(7,_)]) ⟨rfl,rfl,rfl,rfl,rfl,trivial⟩) U)
  rintro a w ⟨rn, -,ab,U⟩
  (try dsimp only at ab U)
  generalize cM.fo (l.getD (4*(i:Int)).toNat 0) 10=bT at U ab Zq
  generalize cM.fo (l.getD (4*(i:Int)+1).toNat 0) 24=b5 at U ab Zr
  generalize cM.fo (l.getD (4*(i:Int)+2).toNat 0) 5=cY at U ab Zs
  replace U:=kZ U
  refine cF _ _<|ax fun fY dg=>bq ab U (ai rfl<|ai rfl<|ag (hd rfl rfl (by omega))<|bX rfl rfl<|ag (dG c5 bG au rfl rfl (by omega))<|ag (sh bG au cD rfl rfl (by omega))<|ag (bQ nu rfl (fun w U=>nm _ _ (by omega) (by omega) w ) (fun _ _ _ h=>h))<|ar rfl<|ah) fun a w ab U=>?_
  have Zt:=cM.rm (n:=(l.getD (4*(i:Int)+3).toNat 0)) (m:=4096) (by decide)
  generalize cM.fo (l.getD (4*(i:Int)+3).toNat 0) 4096=c0 at U ab Zt
  refine dg _ _<|a8 fun hE dS=>aE ab U (ai rfl<|ag (bQ EA rfl (fun w U=>GA _ (by omega) w ) (fun _ _ _ h=>h))<|ag (aV gU rfl rfl (s':=0) aA)<|ah) fun a w ab U=>aH ab U rfl (c7 bz 0 rfl rfl rfl rfl (by simp)) ?_
  rintro _ _ _ a w ⟨rfl,rfl,rfl⟩ ab U
  replace U:aC _ [_] [.blk _ _ ([_,_,_,_,_,_].set 3 _),_] _:=U
  simp only [List.set_cons_zero,List.set_cons_succ] at U
  replace U:=kZ U
  refine wpList_nil (dS _ _ ?_)
  refine a8 fun gQ dz=>aE ab U (ai rfl<|ag (nL rfl rfl (by omega))<|ah) fun a w ab U=>aH ab U rfl (eB VV rfl (fun w U=>ag4 _ (by omega) w )) ?_
  rintro _ _ _ a w ⟨_,_,rfl,rfl,⟨rfl,rfl,agf,rfl,BA⟩⟩ ab U
  replace U:=kZ U
  refine aE ab U (ag (aV gU rfl rfl (s':=0) aA)<|ah) fun a w ab U=>aH ab U rfl (c7 bz 0 rfl rfl rfl rfl (by simp)) ?_
  rintro _ _ _ a w ⟨rfl,rfl,rfl⟩ ab U
  replace U:aC _ [_] [.blk _ _ ([_,_,_,_,_,_].set 4 _),_] _:=U
  simp only [List.set_cons_zero,List.set_cons_succ] at U
  replace U:=kZ U
  refine wpList_nil (dz _ _ ?_)
  refine a8 fun iE eO=>aE ab U (ai rfl<|ag (mI rfl rfl (by omega))<|ai rfl<|ag (nL rfl rfl (by omega))<|ag (mI rfl rfl (by omega))<|ah) fun a w ab U=>aH ab U rfl (dX c5 bG rfl rfl bJ (by decide) rfl rfl) ?_
  rintro v5 _ _ a w ⟨rfl,rfl⟩ ab U
  replace U:=o7 U
  refine aE ab U (ag (aV gU rfl rfl (s':=0) aA)<|ah) fun a w ab U=>aH ab U rfl (c7 c5 1 rfl rfl rfl (row_one (U.own _ (List.mem_of_getElem? (i:=0) rfl)).1) (by simp)) ?_
  rintro _ _ _ a w ⟨rfl,rfl,rfl⟩ ab U
  replace U:aC _ [_] [_,.blk _ _ ([_,_,_,_,_,_].set 5 _),_] _:=U
  simp only [List.set_cons_zero,List.set_cons_succ] at U
  replace U:=o7 U
  refine wpList_nil ?_
  obtain ⟨zp,Gq,U⟩:=aC.qx (h0:=fun _=>rfl) (f:=az) (p:=fun x => -9223372036854775808≤x∧x≤9223372036854775807) (xs:=[c0%70,c0/7%70,64]) U rfl (by decide) (by intro x aL;simp only [List.mem_cons,List.not_mem_nil,or_false] at aL;rcases aL with rfl | rfl | rfl <;> omega)
  replace U:aC _ [_,_] [_,_] _:=U
  refine eO _ _<|du ?_
  refine aE ab U (ai rfl<|ag (fW gU 0 rfl rfl aI rfl)<|ah) fun a w ab U=>aH ab U rfl (Kt zy gU [[_,_,_,_,_,_]] rfl rfl (by simp) (B5 (bn rfl (bn rfl (bn rfl (bn rfl (bn rfl (bn (mL Gq) dC)))))) GW) (by decide) rfl rfl) ?_
  rintro mR _ _ a w ⟨rfl,rfl⟩ ab U
  replace U:aC _ [_,_] [_,_,_] _:=U
  refine aH ab U rfl (dB zy gU 2 rfl rfl rfl (eA zy (k:=0) rfl (aci (B5 (bn rfl (bn rfl (bn rfl (bn rfl (bn rfl (bn (mL Gq) dC)))))) GW))) aI rfl (by decide)) ?_
  rintro v9 _ _ a w ⟨rfl,rfl⟩ ab U
  replace U:aC _ [_,_] [_,_,_] _:=U
  refine aE ab U (ar rfl<|ah) fun a w ab U=>wpList_nil (cO _ _ ?_)
  refine bq ab U (ai rfl<|bX rfl rfl<|ar rfl<|ah) fun a w ab U=>?_
  obtain ⟨zu,MM,U⟩:=U.union
  replace U:=U.ak (ay.k) (ae.n.n)
  refine ⟨(v9,zu,(ts++[((⟨bT,b5,cY-1,aw.keyOf c0,agf,[c0%70,c0/7%70,64]⟩:aw.ix),v5)]),i+1),?_,?_,ab.sub ⟨rfl,rfl,rfl,rfl,trivial⟩,?_⟩
  ·(try dsimp only);omega
  ·exact ⟨⟨by omega,by rw [List.length_append,o2];rfl⟩,pO.snoc (MM z (by simp)) ⟨by dsimp only;omega,by dsimp only;omega,by dsimp only;omega,aw.MY _,(BA.1)⟩ (bg.mono (MM _ (by simp)) Gq)⟩
  ·dsimp only;rw [← aw.afW,← aw.afZ];exact U
 ·(try simp only [c2] at aS)
  refine wp_exit<|cf _ _<|aB ab U (ai rfl<|ar rfl<|ah) fun a w ab U=>wp_ret ?_
  obtain ⟨zr,Gr,U⟩:=aw.Wx U (z:=z) (by simp) rfl (by omega) pO
  exact bR (rs:=[.tmp 4]) rfl ab U (vs:=[_]) ⟨rfl,trivial⟩ (zs':=[zr]) (hs':=[]) (List.singleton_sublist.2 (by simp)) ay ⟨_,zr,rfl,rfl,Gr,by rw [List.length_map];omega⟩
end
section
theorem pn:a1 Tryz.prog 80 (.pointer 93) 1 8 (Value.pointer none):=⟨Tryz.underlying80,by kernel_rfl⟩
theorem gP : a1 Tryz.prog 82 (.struct #[⟨ "disk", 46, 0, false, "", "culprit/culpritlaw41", 0⟩, ⟨ "ledger", 45, 1, false, "", "culprit/culpritlaw41", 8⟩, ⟨ "model", 80, 2, false, "", "culprit/culpritlaw41", 16⟩]) 3 24 (.agg ([Value.pointer none, Value.pointer none, Value.pointer none]).toArray) := ⟨Tryz.underlying82, by kernel_rfl⟩
theorem VU:bU Tryz.prog 47:=bY Tryz.func47
theorem VW:bU Tryz.prog 49:=bY Tryz.func49
theorem VX:bU Tryz.prog 51:=bY Tryz.func51
theorem Wd:bU Tryz.prog 83:=bY Tryz.func83
theorem We:bU Tryz.prog 84:=bY Tryz.func84
theorem Wf:bU Tryz.prog 85:=bY Tryz.func85
theorem Vh:bU Tryz.prog 124:=bY Tryz.func124
attribute [local irreducible] aF.int aF.bytes aF.getInt aF.ef aK.sum aj.eW aj.aT aj.cU aj.bh aj.c8 aj.fX aj.app aj.eo aw.dec aw.enc ao.new ao.hp ao.hz ao.gN ao.k7 aw.add aw.taken aw.BP aw.ua
abbrev DG(sb au bl ml:Nat):av:=.blk sb 82 [.pointer (some ⟨au,0,none⟩),.pointer (some ⟨bl,0,none⟩),.pointer (some ⟨ml,0,none⟩)]
def DI(sb bd:Nat)(h:ao.hr)(v:Value)(M:aw.fD)(hO:Value):Value→List aP→List av→Prop:=fun r zs hs=>r=hO∧zs=[]∧∃ (bl jb ml mb:Nat) (lk:Bool) (fv fw:Value) (cj ck cr ct d1 d2 d3 d4 iM jc jd jU:av),hs=[DG sb h.b bl ml,w3 bl jb fv,lP fv M.F,cj,ck,cr,ct,d1,d2,d3,d4,oG ml bd mb fw lk,lP fw M.F,iM,jc,jd,jU,fh bd v M.S,fj v M.S]∧lO jb h.b M.J cj ck cr ct∧gX h M.S d1 d2 d3 d4∧lN mb bd M.J iM jc jd jU
def DH(M:aw.fD)(nq:Bool):Value→List aP→List av→Prop:=fun r zs hs=>zs=[]∧∃ (bd:Nat) (h:ao.hr) (v:Value) (bl jb ml mb:Nat) (lk:Bool) (fv fw:Value) (cj ck cr ct d1 d2 d3 d4 iM jc jd jU:av),r=.tuple [.agg [.pointer (some ⟨h.b,0,none⟩),.pointer (some ⟨bl,0,none⟩),.pointer (some ⟨ml,0,none⟩)].toArray,.bool nq].toArray∧hs=[w3 bl jb fv,lP fv M.F,cj,ck,cr,ct,d1,d2,d3,d4,oG ml bd mb fw lk,lP fw M.F,iM,jc,jd,jU,fh bd v M.S,fj v M.S]∧lO jb h.b M.J cj ck cr ct∧gX h M.S d1 d2 d3 d4∧lN mb bd M.J iM jc jd jU
theorem zo{sb bd:Nat}{h:ao.hr}{v:Value}{M M2:aw.fD}{hO r:Value}{zs:List aP}{hs:List av}(e:DI sb bd h v M hO r zs hs)(bK:M=M2):DI sb bd h v M2 hO r zs hs:=by subst bK;exact e
theorem acC(n:Nat)(bA:12≤n∧n≤71)(w:World){dK:Nat×Nat}{dJ:TypeId}(hj:w.heap[0]?=some (.cells (aK.ek.map cx).toArray dJ dK)){fU:Nat×Nat}{fT:TypeId}(dF:w.heap[1]?=some (.cells (aK.ek.map cx).toArray fT fU)):ch Tryz.prog 80 [az (n:Int)] w (DH (aw.vO (ao.new n)) true):=by
 refine cI Tryz.func80 rfl Tryz.ntmps80 (Nat.le_of_ble_eq_true rfl) fun a ab U=>?_
 have Mr:(ao.new n).off=false:=by unfold ao.new;rfl
 have ajz:=ao.G1 (n:=n) (by omega) (by omega)
 refine a8 fun dW cR=>aH ab U rfl (c1 gP) ?_
 rintro _ _ _ a w ⟨b6,rfl,rfl,rfl⟩ ab U
 refine aE ab U (ar rfl<|ah) fun a w ab U=>wpList_nil (cR _ _ ?_)
 refine a8 fun cm bD=>aE ab U (ai rfl<|ah) fun a w ab U=>aH ab U rfl (eB Lj rfl (fun w U=>J9 n (by omega) w )) ?_
 rintro _ _ _ a w ⟨_,_,rfl,rfl,⟨rfl,YE,amd,amu,amJ,am0,rfl,rfl,Xh⟩⟩ ab U
 replace U:=mC U
 refine aE ab U (ai rfl<|ag (cE rfl rfl)<|ag (cE rfl rfl)<|ar rfl<|ar rfl<|ah) fun a w ab U=>wpList_nil (bD _ _ ?_)
 refine a8 fun dH cf=>aE ab U (ai rfl<|ah) fun a w ab U=>aH ab U rfl (eB Vh rfl (fun w U=>aeK n (by omega) w )) ?_
 rintro _ _ _ a w ⟨_,_,rfl,rfl,⟨rfl,SZ,RF,rfl,rfl⟩⟩ ab U
 replace U:aC _ [] [_,_,_,_,_,_,_] _:=U
 refine aE ab U (ai rfl<|ag (cE rfl rfl)<|ag (cE rfl rfl)<|ar rfl<|ar rfl<|ah) fun a w ab U=>wpList_nil (cf _ _ ?_)
 refine ax fun dP cq=>aB ab U (ai rfl<|ag (lF (dM rfl rfl) (by simp))<|ai rfl<|aN 24 rfl rfl rfl (bE rfl)<|aN 24 rfl rfl rfl (lF (dM rfl rfl) (by simp))<|ag (hY rfl rfl)<|ai rfl<|aN 28 rfl rfl rfl (bE rfl)<|aN 28 rfl rfl rfl (Ha (p1 nQ rfl rfl) (by simp))<|ag (hY rfl rfl)<|ah) fun a w ab U=>cX ab rfl (fun h=>absurd h (by simp)) (fun _=>?_)
 refine wp_skip<|cq _ _<|a8 fun et cz=>aE ab U (ai rfl<|ah) fun a w ab U=>?_
 replace U:=(((U.perm nj).perm mf).perm oH).perm px
 replace U:aC _ [] [_,_,_,_,_,_,_] _:=U
 refine aH ab U rfl (dy xG rfl (List.Perm.refl _) (by exact (BO _ _ (by assumption) _ _ dF Xh))) ?_
 rintro _ _ _ a w ⟨_,_,rfl,rfl,⟨rfl,aiH,alG,ajc,amb,amq,amF,amV,anm,anz,anL,anY,rfl,rfl,Xp,Xe⟩⟩ ab U
 replace U:aC _ [] [_,_,_,_,_,_,_,_,_,_,_,_,_] _:=U
 refine aE ab U (ai rfl<|ag (cE rfl rfl)<|ag (cE rfl rfl)<|ar rfl<|ar rfl<|ah) fun a w ab U=>wpList_nil (cz _ _ ?_)
 refine a8 fun eU cO=>aE ab U (ai rfl<|ah) fun a w ab U=>?_
 replace U:=(U.perm IZ).perm I7
 replace U:aC _ [] [_,_,_,_,_,_,_,_,_,_,_,_,_] _:=U
 refine aH ab U rfl (dy Lo rfl (List.Perm.refl _) (by exact (NL _ RF (ao.new n) (by assumption) _ _ hj (by first | assumption | exact ao.yL (by assumption) _)))) ?_
 rintro _ _ _ a w ⟨_,_,rfl,rfl,⟨rfl,alP,alH,ajd,ame,ams,amH,amX,rfl,rfl,Xq⟩⟩ ab U
 replace U:aC _ [] [_,_,_,_,_,_,_,_,_,_,_,_,_,_,_,_,_,_,_] _:=U
 refine aE ab U (ai rfl<|ag (cE rfl rfl)<|ag (cE rfl rfl)<|ar rfl<|ar rfl<|ah) fun a w ab U=>wpList_nil (cO _ _ ?_)
 refine a8 fun e1 cF=>aE ab U (ai rfl<|ai rfl<|ai rfl<|ag (oq gP 3 aA rfl rfl (bn rfl (bn rfl (bn rfl dC))) rfl rfl)<|ai rfl<|ag (l0 (fc rfl rfl) (by simp))<|ai rfl<|aN 49 rfl rfl rfl (bE rfl)<|aN 49 rfl rfl rfl (l0 (fc rfl rfl) (by simp))<|ag (iN rfl rfl)<|ai rfl<|aN 53 rfl rfl rfl (bE rfl)<|aN 53 rfl rfl rfl (adm (OX hD rfl rfl) (by simp))<|ag (iN rfl rfl)<|ah) fun a w ab U=>aH ab U rfl (cA gP 18 rfl rfl rfl rfl aI (bn rfl (bn rfl (bn rfl dC))) aI) ?_
 rintro _ _ _ a w ⟨rfl,rfl,rfl⟩ ab U
 replace U:aC _ [] [_,_,_,_,_,_,_,_,_,_,_,_,_,_,_,_,_,_,_] _:=U
 refine aE ab U (ar rfl<|ah) fun a w ab U=>wpList_nil (cF _ _ ?_)
 refine wp_ret ?_
 replace U:=(((((((((U.perm q8).perm qg).perm q9).perm re).perm Jg).perm Jk).perm Jp).perm DB).perm DC).perm DD
 exact bR (rs:=[.cell 2 82,.tmp 3]) rfl ab U (vs:=[_,_]) ⟨⟨_,_,_,_,_,_,_,rfl,List.mem_of_getElem? (i:=18) rfl,gP,.inl ⟨rfl,aI,rfl⟩⟩,rfl,trivial⟩ ae (ay.k.k.k.k.k.k.k.k.k.k.k.k.k.k.k.k.k.k) ⟨rfl,SZ,YE,RF,_,_,_,_,_,_,_,_,_,_,_,_,_,_,_,_,_,_,_,rfl,rfl,Xp,Xe,Xq⟩
theorem Uh(sb bd:Nat)(h:ao.hr)(v:Value)(M:aw.fD)(k n la:Int)(ky vl:List UInt8)(ps:List Int)(gj:Value)(aL:aw.xf ⟨k,n,la,ky,vl,ps⟩)(w0:World)(bP:List aP){bl jb ml mb:Nat}{lk:Bool}{fv fw:Value}{cj ck cr ct d1 d2 d3 d4 iM jc jd jU:av}(z:aP)(kF:bg Go.aJ.encI z gj ps)(bj:gp w0 bP z){dK:Nat×Nat}{dJ:TypeId}(hj:w0.heap[0]?=some (.cells (aK.ek.map cx).toArray dJ dK)){fU:Nat×Nat}{fT:TypeId}(dF:w0.heap[1]?=some (.cells (aK.ek.map cx).toArray fT fU))(fG:aw.Good M.F)(ej:lO jb h.b M.J cj ck cr ct)(dh:gX h M.S d1 d2 d3 d4)(fA:lN mb bd M.J iM jc jd jU):eH Tryz.prog 45 [.pointer (some ⟨sb,0,none⟩),.agg [az k,az n,az la,vs ky,vs vl,gj].toArray] w0 bP [DG sb h.b bl ml,w3 bl jb fv,lP fv M.F,cj,ck,cr,ct,d1,d2,d3,d4,oG ml bd mb fw lk,lP fw M.F,iM,jc,jd,jU,fh bd v M.S,fj v M.S] (DI sb bd h v (aw.mZ M ⟨k,n,la,ky,vl,ps⟩) (.bool true)):=by
 refine fF Tryz.func45 rfl Tryz.ntmps45 (Nat.le_of_ble_eq_true rfl) fun cw a w ab U=>?_
 replace U:aC _ (_) (_::_::_::_::_::_::_::_::_::_::_::_::_::_::_::_::_::_::_::_) _:=U
 have nD:=fG.len
 have XJ:=ao.ng.ok dh
 have Mr:(ao.hz M.S ps).off=false:=by unfold ao.hz;rfl
 have XM:=ao.yL XJ ps
 have n3:=aw.JX fG
 have ZV:=aL.1
 have ZW:=aL.2.1
 have qK:=aL.2.2.1
 have ZZ:=aL.2.2.2.1
 have ZY:=aL.2.2.2.2
 dsimp only at ZV ZW qK ZZ ZY
 refine a8 fun dW cR=>aH ab U rfl (iT (cs:=[az k,az n,az la,vs ky,vs vl,gj]) rfl) ?_
 rintro _ _ _ a w ⟨b6,rfl,rfl,rfl⟩ ab U
 refine aE ab U (ar rfl<|ah) fun a w ab U=>wpList_nil (cR _ _ ?_)
 refine ax fun cm bD=>aB ab U (ag (aV gU rfl rfl (s':=0) aA)<|ag (bc bG 0 rfl rfl rfl rfl)<|ah) fun a w ab U=>wp_block ?_
 refine aB ab U (ag (fc rfl rfl)<|ar rfl<|ah) fun a w ab U=>b9 ab rfl (fun aS=>?_) (fun aS=>?_)
 ·refine ax fun dw b3=>h2 7 mixed aA ab U (ai rfl<|ag (bI rfl)<|ag (aV gP rfl rfl (s':=0) aA)<|ag (bc nQ 1 rfl rfl rfl rfl)<|ag (aV gU rfl rfl (s':=0) aA)<|ag (bc bG 0 rfl rfl rfl rfl)<|ag (mI rfl rfl (by omega))<|ah) fun a w ab U=>?_
  replace U:=(((U.perm q8).perm qg).perm q9).perm re
  replace U:=lA U
  refine aH ab U rfl (dy Ld rfl (List.Perm.refl _) (by exact (Kk _ _ _ (by omega) _ _  dh))) ?_
  rintro _ _ _ a w ⟨_,_,rfl,rfl,⟨rfl,rfl,y0,y1,y2,y3,rfl,xN⟩⟩ ab U
  replace U:=lA U
  refine wpList_nil (b3 _ _ ?_)
  refine h2 10 mixed aA ab U (ai rfl<|ag (bI rfl)<|ag (aV gP rfl rfl (s':=0) aA)<|ag (bc pn 5 rfl rfl rfl rfl)<|ag (bI rfl)<|ag (aV km rfl rfl (s':=0) aA)<|ag (bc oz 12 rfl rfl rfl rfl)<|ag (aV gU rfl rfl (s':=0) aA)<|ag (bc bG 4 rfl rfl rfl rfl)<|ag (mI rfl rfl (by omega))<|ah) fun a w ab U=>?_
  replace U:=(U.perm IX).perm Ja
  replace U:=lA U
  refine aH ab U rfl (dy VU rfl (List.Perm.refl _) (by exact (ae6 _ _ _  (by first | assumption | exact ao.ir (by assumption) | exact ao.kl (by assumption) _ _) (S:=M.S) (v:=v)))) ?_
  rintro _ _ _ a w ⟨_,_,rfl,rfl,⟨rfl,rfl,rfl⟩⟩ ab U
  replace U:=lA U
  refine wpList_nil (bD _ _ ?_)
  refine aB ab U (ar rfl<|ah) fun a w ab U=>wp_ret ?_
  replace U:=((((((((((((((((U.perm w4).perm z6).perm Dz).perm DA).perm Jf).perm Jj).perm Jo).perm w7).perm z8).perm Aa).perm Dx).perm I1).perm I2).perm I3).perm I4).perm I5).perm I6
  exact cQ (rs:=[.tmp 4]) rfl ab U (vs:=[_]) ⟨rfl,trivial⟩ [] [_,_,_,_,_,_,_,_,_,_,_,_,_,_,_,_,_,_,_] ae (ae.n.k.k.k.k.k.k.k.k.k.k.k.k.k.k.k.k.k.k.k) (zo (M:=⟨M.J,ao.hp M.S (n%6),M.F⟩) ⟨rfl,rfl,_,_,_,_,_,_,_,_,_,_,_,_,_,_,_,_,_,_,_,rfl,ej,xN,fA⟩ (by rw [aw.Ka aS]))
 ·refine ax fun eU cO=>bq ab U (ag (fc rfl rfl)<|ar rfl<|ah) fun a w ab U=>cO _ _ ?_
  refine b9 ab rfl (fun bs=>?_) (fun bs=>?_)
  ·refine ax fun e1 cF=>h2 6 mixed aA ab U (ai rfl<|ag (bI rfl)<|ag (aV gP rfl rfl (s':=0) aA)<|ag (bc nQ 1 rfl rfl rfl rfl)<|ag (aV gU rfl rfl (s':=0) aA)<|ag (bc c5 0 rfl rfl rfl rfl)<|ah) fun a w ab U=>?_
   replace U:=(((U.perm q8).perm qg).perm q9).perm re
   replace U:=lA U
   refine aH ab U rfl (dy Le rfl (List.Perm.refl _) (by exact (J8 _ _ _ _ _ _ _ kF bj dh))) ?_
   rintro _ _ _ a w ⟨_,_,rfl,rfl,⟨rfl,rfl,al5,aml,amA,amQ,rfl,Xb⟩⟩ ab U
   replace U:=lA U
   refine wpList_nil (cF _ _ ?_)
   refine ax fun fY dg=>?_
   revert U;revert ab;apply ho (J:=IM (α0:=Nat) (α1:=Nat) (α2:=Value) (α3:=av) (α4:=av) (α5:=av) (α6:=av) 152 _ _ _ _ _) #[false,false,false,false,false,false,false,false,false,false,false,false] 12 mixed rfl rfl
   ·intro w ab U
    refine aR 0 rfl ab (U.ak ae (ae.n.n.n.n.n.n.n.n.n.n.n.n.n.n.n.n.n.n.n.n)) (bE rfl) fun a ab=>aR 1 rfl ab (U.ak ae (ae.n.n.n.n.n.n.n.n.n.n.n.n.n.n.n.n.n.n.n.n)) (bI rfl) fun a ab=>aR 2 rfl ab (U.ak ae (ae.n.n.n.n.n.n.n.n.n.n.n.n.n.n.n.n.n.n.n.n)) (aV gP rfl rfl (s':=0) aA) fun a ab=>aR 3 rfl ab (U.ak ae (ae.n.n.n.n.n.n.n.n.n.n.n.n.n.n.k.n.n.n.n.n)) (bc pn 0 rfl rfl rfl rfl) fun a ab=>aR 4 rfl ab (U.ak ae (ae.n.n.n.n.n.n.n.n.n.n.n.n.n.n.n.n.n.n.n.n)) (aV gU rfl rfl (s':=0) aA) fun a ab=>?_
    refine aR 5 rfl ab (U.ak ae (ae.n.n.n.n.n.n.n.n.n.n.n.n.n.n.n.k.n.n.n.n)) (bc c5 0 rfl rfl rfl rfl) fun a ab=>fy [6] aA rfl ⟨?_,trivial⟩
    replace U:=(((((((U.perm IV).perm I8).perm Jb).perm Jd).perm Jh).perm Jl).perm Jq).perm Js
    replace U:=lA U
    refine dQ _ rfl rfl ab U rfl (dy VX rfl (List.Perm.refl _) (by exact (abP _ _ _ v lk M gj ps _ _ _ kF bj hj (by assumption) fA (by assumption) (fv:=fw)))) ?_
    rintro _ _ _ a w ⟨_,_,rfl,rfl,⟨rfl,NI,MV,LB,O8,Ph,Pr,PA,rfl,rfl,Fg⟩⟩ ab U
    replace U:=lA U
    refine ⟨⟨al,al,al,al,.inr (U.ak ae (ae.n.n.n.n.n.n.n.n.n.n.n.n.n.n.n.n.n.n.n.n)),.inr (U.ak ae (ae.n.n.n.n.n.n.n.n.n.n.n.n.n.n.n.n.n.n.n.n)),trivial⟩,?_⟩
    refine aR 7 rfl ab (U.ak ae (ae.n.n.n.n.n.n.n.n.n.n.n.n.n.n.n.n.n.n.n.n)) (bE rfl) fun a ab=>aR 8 rfl ab (U.ak ae (ae.n.n.n.n.n.n.n.n.n.n.n.n.n.n.n.n.n.n.n.n)) (cE rfl rfl) fun a ab=>aR 9 rfl ab (U.ak ae (ae.n.n.n.n.n.n.n.n.n.n.n.n.n.n.n.n.n.n.n.n)) (cE rfl rfl) fun a ab=>aR 10 rfl ab (U.ak ae (ae.n.n.n.n.n.n.n.n.n.n.n.n.n.n.n.n.n.n.n.n)) (lD rfl) fun a ab=>aR 11 rfl ab (U.ak ae (ae.n.n.n.n.n.n.n.n.n.n.n.n.n.n.n.n.n.n.n.n)) (lD rfl) fun a ab=>?_
    exact ei aA (aal NI MV LB O8 Ph Pr PA ((And.intro Fg trivial)) (ab.sub (L':=[(0,_),(5,_),(6,_)]) ⟨rfl,rfl,rfl,trivial⟩) U)
   rintro a w ⟨NI,MV,LB,O8,Ph,Pr,PA,⟨Fg, -⟩,ab,U⟩
   (try dsimp only at ab U)
   refine dg _ _<|a8 fun hE dS=>aE ab U (ai rfl<|ag (bI rfl)<|ag (aV gP rfl rfl (s':=0) aA)<|ag (bc nQ 13 rfl rfl rfl rfl)<|ah) fun a w ab U=>?_
   replace U:=(((U.perm q8).perm qg).perm q9).perm re
   replace U:=lA U
   refine aH ab U rfl (dy xG rfl (List.Perm.refl _) (by exact (BO _ _ (by assumption) _ _ dF Xb))) ?_
   rintro _ _ _ a w ⟨_,_,rfl,rfl,⟨rfl,aiG,alF,ajb,al9,amo,amD,amT,anl,anx,anK,anX,rfl,rfl,Xo,Xd⟩⟩ ab U
   replace U:aC _ (_) (_::_::_::_::_::_::_::_::_::_::_::_::_::_::_::_::_::_::_::_::_::_::_::_::_::_::_) _:=U
   refine aE ab U (ai rfl<|ag (cE rfl rfl)<|ag (cE rfl rfl)<|ar rfl<|ar rfl<|ah) fun a w ab U=>wpList_nil (dS _ _ ?_)
   refine ax fun gQ dz=>aB ab U (ai rfl<|ai rfl<|ag (lF (dM rfl rfl) (by simp))<|ai rfl<|aN 90 rfl rfl rfl (bE rfl)<|aN 90 rfl rfl rfl (Ha (p1 hD rfl rfl) (by simp))<|ag (hY rfl rfl)<|ah) fun a w ab U=>cX ab rfl (fun h=>absurd h (by simp)) (fun _=>?_)
   refine wp_skip<|dz _ _<|a8 fun iv eD=>aE ab U (ai rfl<|ai rfl<|ag (bI rfl)<|ag (aV gP rfl rfl (s':=0) aA)<|ah) fun a w ab U=>aH ab U rfl (c7 hD 19 rfl rfl rfl rfl (by simp)) ?_
   rintro _ _ _ a w ⟨rfl,rfl,rfl⟩ ab U
   replace U:aC _ (_) (_::_::_::_::_::_::_::_::_::_::_::_::_::_::_::_::_::_::_::.blk _ _ ([_,_,_].set 1 _)::_::_::_::_::_::_::_) _:=U
   simp only [List.set_cons_zero,List.set_cons_succ] at U
   replace U:aC _ (_) (_::_::_::_::_::_::_::_::_::_::_::_::_::_::_::_::_::_::_::_::_::_::_::_::_::_::_) _:=U
   refine wpList_nil (eD _ _ ?_)
   refine du<|aE ab U (ai rfl<|ai rfl<|ag (bI rfl)<|ag (aV gP rfl rfl (s':=0) aA)<|ah) fun a w ab U=>aH ab U rfl (c7 pn 19 rfl rfl rfl rfl (by simp)) ?_
   rintro _ _ _ a w ⟨rfl,rfl,rfl⟩ ab U
   replace U:aC _ (_) (_::_::_::_::_::_::_::_::_::_::_::_::_::_::_::_::_::_::_::.blk _ _ ([_,_,_].set 2 _)::_::_::_::_::_::_::_) _:=U
   simp only [List.set_cons_zero,List.set_cons_succ] at U
   replace U:aC _ (_) (_::_::_::_::_::_::_::_::_::_::_::_::_::_::_::_::_::_::_::_::_::_::_::_::_::_::_) _:=U
   refine wpList_nil (bD _ _ ?_)
   refine aB ab U (ar rfl<|ah) fun a w ab U=>wp_ret ?_
   replace U:=U.perm Sk
   exact cQ (rs:=[.tmp 4]) rfl ab U (vs:=[_]) ⟨rfl,trivial⟩ [] [_,_,_,_,_,_,_,_,_,_,_,_,_,_,_,_,_,_,_] ae (ae.n.n.n.n.n.n.n.k.k.k.k.k.k.k.k.k.k.k.k.k.k.k.k.k.k.k) (zo (M:=aw.vO (ao.hz M.S ps)) ⟨rfl,rfl,_,_,_,_,_,_,_,_,_,_,_,_,_,_,_,_,_,_,_,rfl,Xo,Xd,Fg⟩ (by rw [aw.Kb bs]))
  ·refine ax fun jN fa=>bq ab U (ag (fc rfl rfl)<|ar rfl<|ah) fun a w ab U=>fa _ _ ?_
   refine b9 ab rfl (fun dr=>?_) (fun dr=>?_)
   ·refine ax fun mc hh=>bq ab U (ag (aV gU rfl rfl (s':=0) aA)<|ag (bc bz 0 rfl rfl rfl rfl)<|ag (hB bz rfl)<|ag (hd rfl rfl (by omega))<|ag (aV gU rfl rfl (s':=0) aA)<|ag (bc bz 0 rfl rfl rfl rfl)<|ag (hB bz rfl)<|ag (hd rfl rfl (by omega))<|bX rfl rfl<|ar rfl<|ah) fun a w ab U=>hh _ _ ?_
    refine ax fun oE iW=>?_
    revert U;revert ab;apply ho (J:=Dp (α0:=av) (α1:=av) (α2:=av) (α3:=av) (α4:=Value) (α5:=av) (α6:=av) (α7:=av) (α8:=av) 152 _ _ _ _ _) #[false,false,false,false,false,false,false,false,false,false,false,false,false,false,false,false,false,false,false,false] 20 mixed rfl rfl
    ·intro w ab U
     refine aR 0 rfl ab (U.ak ae (ae.n.n.n.n.n.n.n.n.n.n.n.n.n.n.n.n.n.n.n.n)) (bE rfl) fun a ab=>aR 1 rfl ab (U.ak ae (ae.n.n.n.n.n.n.n.n.n.n.n.n.n.n.n.n.n.n.n.n)) (bI rfl) fun a ab=>aR 2 rfl ab (U.ak ae (ae.n.n.n.n.n.n.n.n.n.n.n.n.n.n.n.n.n.n.n.n)) (aV gP rfl rfl (s':=0) aA) fun a ab=>aR 3 rfl ab (U.ak ae (ae.n.n.n.n.n.n.n.n.n.n.n.n.n.n.n.n.n.n.k.n)) (bc nQ 0 rfl rfl rfl rfl) fun a ab=>aR 4 rfl ab (U.ak ae (ae.n.n.n.n.n.n.n.n.n.n.n.n.n.n.n.n.n.n.n.n)) (aV gU rfl rfl (s':=0) aA) fun a ab=>?_
     refine aR 5 rfl ab (U.ak ae (ae.n.n.n.n.n.n.n.n.n.n.n.n.n.n.n.n.n.n.n.k)) (bc bG 0 rfl rfl rfl rfl) fun a ab=>aR 6 rfl ab (U.ak ae (ae.n.n.n.n.n.n.n.n.n.n.n.n.n.n.n.n.n.n.n.n)) (bE rfl) fun a ab=>aR 7 rfl ab (U.ak ae (ae.n.n.n.n.n.n.n.n.n.n.n.n.n.n.n.n.n.n.n.n)) (mI rfl rfl (by omega)) fun a ab=>aR 9 rfl ab (U.ak ae (ae.n.n.n.n.n.n.n.n.n.n.n.n.n.n.n.n.n.n.n.n)) (bE rfl) fun a ab=>aR 10 rfl ab (U.ak ae (ae.n.n.n.n.n.n.n.n.n.n.n.n.n.n.n.n.n.n.n.n)) (bI rfl) fun a ab=>?_
     refine aR 11 rfl ab (U.ak ae (ae.n.n.n.n.n.n.n.n.n.n.n.n.n.n.n.n.n.n.n.n)) (aV gP rfl rfl (s':=0) aA) fun a ab=>aR 12 rfl ab (U.ak ae (ae.n.n.n.n.n.n.n.n.n.n.n.n.n.n.n.n.n.n.k.n)) (bc pn 0 rfl rfl rfl rfl) fun a ab=>aR 13 rfl ab (U.ak ae (ae.n.n.n.n.n.n.n.n.n.n.n.n.n.n.n.n.n.n.n.n)) (aV gU rfl rfl (s':=0) aA) fun a ab=>aR 14 rfl ab (U.ak ae (ae.n.n.n.n.n.n.n.n.n.n.n.n.n.n.n.n.n.n.n.k)) (bc bG 0 rfl rfl rfl rfl) fun a ab=>aR 15 rfl ab (U.ak ae (ae.n.n.n.n.n.n.n.n.n.n.n.n.n.n.n.n.n.n.n.n)) (bE rfl) fun a ab=>?_
     refine aR 16 rfl ab (U.ak ae (ae.n.n.n.n.n.n.n.n.n.n.n.n.n.n.n.n.n.n.n.n)) (mI rfl rfl (by omega)) fun a ab=>fy [8] aA rfl ⟨?_,trivial⟩
     replace U:=(((U.perm q8).perm qg).perm q9).perm re
     replace U:=lA U
     refine dQ _ rfl rfl ab U rfl (dy VP rfl (List.Perm.refl _) (by exact (Uj _ _ _ _ (by omega) (by omega) _ _  dh))) ?_
     rintro _ _ _ a w ⟨_,_,rfl,rfl,⟨rfl,rfl,O2,Pb,Pl,Pu,rfl,E0⟩⟩ ab U
     replace U:=lA U
     refine ⟨⟨.inr (U.ak ae (ae.n.n.n.n.n.n.n.n.n.n.n.n.n.n.n.n.n.n.n.n)),.inr (U.ak ae (ae.n.n.n.n.n.n.n.n.n.n.n.n.n.n.n.n.n.n.n.n)),.inr (U.ak ae (ae.n.n.n.n.n.n.n.n.n.n.n.n.n.n.n.k.n.n.n.n)),.inr (U.ak ae (ae.n.n.n.n.n.n.n.n.n.n.n.n.n.n.n.n.n.n.n.n)),.inr (U.ak ae (ae.n.n.n.n.n.n.n.n.n.n.n.n.n.n.k.n.n.n.n.n)),.inr (U.ak ae (ae.n.n.n.n.n.n.n.n.n.n.n.n.n.n.n.n.n.n.n.n)),.inr (U.ak ae (ae.n.n.n.n.n.n.n.n.n.n.n.n.n.n.n.n.n.n.n.n)),.inr (U.ak ae (ae.n.n.n.n.n.n.n.n.n.n.n.n.n.n.n.n.n.n.n.n)),al,al,al,al,al,al,.inr (U.ak ae (ae.n.n.n.n.n.n.n.n.n.n.n.n.n.n.n.n.n.n.n.n)),.inr (U.ak ae (ae.n.n.n.n.n.n.n.n.n.n.n.n.n.n.n.n.n.n.n.n)),trivial⟩,?_⟩
     refine fy [17] aA rfl ⟨?_,trivial⟩
     replace U:=(((((((U.perm IV).perm I8).perm Jb).perm Jd).perm Jh).perm Jl).perm Jq).perm Js
     replace U:=lA U
     refine dQ _ rfl rfl ab U rfl (dy Wd rfl (List.Perm.refl _) (by exact (ab0 _ _ _ v lk M n (((ky.length:Int)*41+7*(vl.length:Int))%512) (by omega) _ _ hj (by assumption) fA (by assumption) (fv:=fw)))) ?_
     rintro _ _ _ a w ⟨_,_,rfl,rfl,⟨rfl,rfl,Ly,O1,Pa,Pk,Pt,rfl,Fc⟩⟩ ab U
     replace U:=lA U
     refine ⟨⟨al,al,al,al,al,al,.inr (U.ak ae (ae.n.n.n.n.n.n.n.n.n.n.n.n.n.n.n.n.n.n.n.n)),.inr (U.ak ae (ae.n.n.n.n.n.n.n.n.n.n.n.n.n.n.n.n.n.n.n.n)),al,al,al,al,al,al,.inr (U.ak ae (ae.n.n.n.n.n.n.n.n.n.n.n.n.n.n.n.n.n.n.n.n)),.inr (U.ak ae (ae.n.n.n.n.n.n.n.n.n.n.n.n.n.n.n.n.n.n.n.n)),trivial⟩,?_⟩
     refine aR 18 rfl ab (U.ak ae (ae.n.n.n.n.n.n.n.n.n.n.n.n.n.n.n.n.n.n.n.n)) (l0 (fc rfl rfl) (by simp)) fun a ab=>aR 19 rfl ab (U.ak ae (ae.n.n.n.n.n.n.n.n.n.n.n.n.n.n.n.n.n.n.n.n)) (lD rfl) fun a ab=>ei aA (MT O2 Pb Pl Pu Ly O1 Pa Pk Pt ((And.intro E0 (And.intro Fc trivial))) (ab.sub (L':=[(4,_)]) ⟨rfl,trivial⟩) U)
    rintro a w ⟨O2,Pb,Pl,Pu,Ly,O1,Pa,Pk,Pt,⟨E0,Fc, -⟩,ab,U⟩
    (try dsimp only at ab U)
    refine iW _ _<|wp_ret ?_
    replace U:=((((((((((U.perm IW).perm I9).perm Jc).perm Je).perm Ji).perm Jm).perm Jr).perm DB).perm DC).perm DD).perm I0
    exact cQ (rs:=[.tmp 4]) rfl ab U (vs:=[_]) ⟨rfl,trivial⟩ [] [_,_,_,_,_,_,_,_,_,_,_,_,_,_,_,_,_,_,_] ae (ae.n.k.k.k.k.k.k.k.k.k.k.k.k.k.k.k.k.k.k.k) (zo (M:=⟨M.J,(ao.gN M.S n (((ky.length:Int)*41+7*(vl.length:Int))%512)).1,M.F⟩) ⟨rfl,rfl,_,_,_,_,_,_,_,_,_,_,_,_,_,_,_,_,_,_,_,rfl,ej,E0,Fc⟩ (by rw [aw.Kc dr]))
   ·refine ax fun oF iX=>bq ab U (ag (fc rfl rfl)<|ar rfl<|ah) fun a w ab U=>iX _ _ ?_
    refine b9 ab rfl (fun dm=>?_) (fun dm=>?_)
    ·refine ax fun qd kB=>?_
     revert U;revert ab;apply ho (J:=uJ (α0:=av) (α1:=av) (α2:=av) (α3:=av) 152 _ _ _ _ _) #[false,false,false,false,false,false,false,false,false,false,false,false,false,false,false,false,false,false,false] 19 mixed rfl rfl
     ·intro w ab U
      refine aR 0 rfl ab (U.ak ae (ae.n.n.n.n.n.n.n.n.n.n.n.n.n.n.n.n.n.n.n.n)) (bE rfl) fun a ab=>aR 1 rfl ab (U.ak ae (ae.n.n.n.n.n.n.n.n.n.n.n.n.n.n.n.n.n.n.n.n)) (bI rfl) fun a ab=>aR 2 rfl ab (U.ak ae (ae.n.n.n.n.n.n.n.n.n.n.n.n.n.n.n.n.n.n.n.n)) (aV gP rfl rfl (s':=0) aA) fun a ab=>aR 3 rfl ab (U.ak ae (ae.n.n.n.n.n.n.n.n.n.n.n.n.n.n.n.n.n.n.k.n)) (bc nQ 0 rfl rfl rfl rfl) fun a ab=>aR 4 rfl ab (U.ak ae (ae.n.n.n.n.n.n.n.n.n.n.n.n.n.n.n.n.n.n.n.n)) (aV gU rfl rfl (s':=0) aA) fun a ab=>?_
      refine aR 5 rfl ab (U.ak ae (ae.n.n.n.n.n.n.n.n.n.n.n.n.n.n.n.n.n.n.n.k)) (bc bG 0 rfl rfl rfl rfl) fun a ab=>aR 7 rfl ab (U.ak ae (ae.n.n.n.n.n.n.n.n.n.n.n.n.n.n.n.n.n.n.n.n)) (bE rfl) fun a ab=>aR 8 rfl ab (U.ak ae (ae.n.n.n.n.n.n.n.n.n.n.n.n.n.n.n.n.n.n.n.n)) (bI rfl) fun a ab=>aR 9 rfl ab (U.ak ae (ae.n.n.n.n.n.n.n.n.n.n.n.n.n.n.n.n.n.n.n.n)) (aV gP rfl rfl (s':=0) aA) fun a ab=>aR 10 rfl ab (U.ak ae (ae.n.n.n.n.n.n.n.n.n.n.n.n.n.n.n.n.n.n.k.n)) (bc pn 0 rfl rfl rfl rfl) fun a ab=>?_
      refine aR 11 rfl ab (U.ak ae (ae.n.n.n.n.n.n.n.n.n.n.n.n.n.n.n.n.n.n.n.n)) (bI rfl) fun a ab=>aR 12 rfl ab (U.ak ae (ae.n.n.n.n.n.n.n.n.n.n.n.n.n.n.n.n.n.n.n.n)) (aV km rfl rfl (s':=0) aA) fun a ab=>aR 13 rfl ab (U.ak ae (ae.n.n.n.n.n.n.n.k.n.n.n.n.n.n.n.n.n.n.n.n)) (bc oz 0 rfl rfl rfl rfl) fun a ab=>aR 14 rfl ab (U.ak ae (ae.n.n.n.n.n.n.n.n.n.n.n.n.n.n.n.n.n.n.n.n)) (aV gU rfl rfl (s':=0) aA) fun a ab=>aR 15 rfl ab (U.ak ae (ae.n.n.n.n.n.n.n.n.n.n.n.n.n.n.n.n.n.n.n.k)) (bc bG 0 rfl rfl rfl rfl) fun a ab=>?_
      refine fy [6] aA rfl ⟨?_,trivial⟩
      replace U:=(((U.perm q8).perm qg).perm q9).perm re
      replace U:=lA U
      refine dQ _ rfl rfl ab U rfl (dy We rfl (List.Perm.refl _) (by exact (Ul _ _ _ (by omega) _ _  dh))) ?_
      rintro _ _ _ a w ⟨_,_,rfl,rfl,⟨rfl,rfl,O3,Pc,Pm,Pv,rfl,E1⟩⟩ ab U
      replace U:=lA U
      refine ⟨⟨.inr (U.ak ae (ae.n.n.n.n.n.n.n.n.n.n.n.n.n.n.n.k.n.n.n.n)),.inr (U.ak ae (ae.n.n.n.n.n.n.n.n.n.n.n.n.n.n.n.n.n.n.n.n)),.inr (U.ak ae (ae.n.n.n.n.n.n.n.k.n.n.n.n.n.n.n.n.n.n.n.n)),.inr (U.ak ae (ae.n.n.n.n.n.n.n.n.n.n.n.n.n.n.n.n.n.n.n.n)),.inr (U.ak ae (ae.n.n.n.n.n.n.n.n.n.n.n.n.n.n.n.n.n.n.n.n)),.inr (U.ak ae (ae.n.n.n.n.n.n.n.n.n.n.n.n.n.n.k.n.n.n.n.n)),.inr (U.ak ae (ae.n.n.n.n.n.n.n.n.n.n.n.n.n.n.n.n.n.n.n.n)),.inr (U.ak ae (ae.n.n.n.n.n.n.n.n.n.n.n.n.n.n.n.n.n.n.n.n)),.inr (U.ak ae (ae.n.n.n.n.n.n.n.n.n.n.n.n.n.n.n.n.n.n.n.n)),al,al,al,al,.inr (U.ak ae (ae.n.n.n.n.n.n.n.n.n.n.n.n.n.n.n.n.n.n.n.n)),.inr (U.ak ae (ae.n.n.n.n.n.n.n.n.n.n.n.n.n.n.n.n.n.n.n.n)),trivial⟩,?_⟩
      refine fy [16] aA rfl ⟨?_,trivial⟩
      replace U:=(U.perm IX).perm Ja
      replace U:=lA U
      refine dQ _ rfl rfl ab U rfl (dy Wf rfl (List.Perm.refl _) (by exact (afc _ _ _  (by first | assumption | exact ao.ir (by assumption) | exact ao.kl (by assumption) _ _) (S:=M.S) (v:=v)))) ?_
      rintro _ _ _ a w ⟨_,_,rfl,rfl,⟨rfl,rfl,rfl⟩⟩ ab U
      replace U:=lA U
      refine ⟨⟨al,al,al,al,.inr (U.ak ae (ae.n.n.n.n.n.n.n.n.n.n.n.n.n.n.n.n.n.n.n.n)),.inr (U.ak ae (ae.n.n.n.n.n.n.n.n.n.n.n.n.k.n.n.n.n.n.n.n)),.inr (U.ak ae (ae.n.n.n.n.n.n.n.n.n.n.n.n.n.n.n.n.n.n.n.n)),.inr (U.ak ae (ae.n.n.n.n.n.n.n.n.n.n.n.n.n.n.n.n.n.n.n.n)),.inr (U.ak ae (ae.n.n.n.n.n.n.n.n.n.n.n.n.n.n.n.n.n.n.n.n)),al,al,al,al,.inr (U.ak ae (ae.n.n.n.n.n.n.n.n.n.n.n.n.n.n.n.n.n.n.n.n)),.inr (U.ak ae (ae.n.n.n.n.n.n.n.n.n.n.n.n.n.n.n.n.n.n.n.n)),trivial⟩,?_⟩
      refine aR 17 rfl ab (U.ak ae (ae.n.n.n.n.n.n.n.n.n.n.n.n.n.n.n.n.n.n.n.n)) (l0 (fc rfl rfl) (by simp)) fun a ab=>aR 18 rfl ab (U.ak ae (ae.n.n.n.n.n.n.n.n.n.n.n.n.n.n.n.n.n.n.n.n)) (lD rfl) fun a ab=>ei aA (qN O3 Pc Pm Pv ((And.intro E1 trivial)) (ab.sub (L':=[(4,_)]) ⟨rfl,trivial⟩) U)
     rintro a w ⟨O3,Pc,Pm,Pv,⟨E1, -⟩,ab,U⟩
     (try dsimp only at ab U)
     refine kB _ _<|wp_ret ?_
     replace U:=((((((((((((((((U.perm w4).perm z6).perm Dz).perm DA).perm Jf).perm Jj).perm Jo).perm w7).perm z8).perm Aa).perm Dx).perm I1).perm I2).perm I3).perm I4).perm I5).perm I6
     exact cQ (rs:=[.tmp 4]) rfl ab U (vs:=[_]) ⟨rfl,trivial⟩ [] [_,_,_,_,_,_,_,_,_,_,_,_,_,_,_,_,_,_,_] ae (ae.n.k.k.k.k.k.k.k.k.k.k.k.k.k.k.k.k.k.k.k) (zo (M:=⟨M.J,(ao.k7 M.S n).1,M.F⟩) ⟨rfl,rfl,_,_,_,_,_,_,_,_,_,_,_,_,_,_,_,_,_,_,_,rfl,ej,E1,fA⟩ (by rw [aw.Kd dm]))
    ·have lU:aw.jK ⟨aw.clock M.F+la,ky,vl⟩:=⟨⟨by dsimp only;omega,by dsimp only;omega⟩,by dsimp only;omega,by dsimp only;omega⟩
     have eG:ky.length≤1048576∧vl.length≤1048576:=⟨by omega,by omega⟩
     refine ax fun pr jF=>?_
     revert U;revert ab;apply ho (J:=jL (α0:=Nat) 152 _ _ _ _ _) #[false,false,false,false,false,false,false,false,false,false,false,false,false,false,false] 15 mixed rfl rfl
     ·intro w ab U
      refine aR 0 rfl ab (U.ak ae (ae.n.n.n.n.n.n.n.n.n.n.n.n.n.n.n.n.n.n.n.n)) (bE rfl) fun a ab=>aR 1 rfl ab (U.ak ae (ae.n.n.n.n.n.n.n.n.n.n.n.n.n.n.n.n.n.n.n.n)) (bI rfl) fun a ab=>aR 2 rfl ab (U.ak ae (ae.n.n.n.n.n.n.n.n.n.n.n.n.n.n.n.n.n.n.n.n)) (aV gP rfl rfl (s':=0) aA) fun a ab=>aR 3 rfl ab (U.ak ae (ae.n.n.n.n.n.n.n.n.n.n.n.n.n.n.n.n.n.n.k.n)) (bc pn 0 rfl rfl rfl rfl) fun a ab=>aR 5 rfl ab (U.ak ae (ae.n.n.n.n.n.n.n.n.n.n.n.n.n.n.n.n.n.n.n.n)) (aV gU rfl rfl (s':=0) aA) fun a ab=>?_
      refine aR 6 rfl ab (U.ak ae (ae.n.n.n.n.n.n.n.n.n.n.n.n.n.n.n.n.n.n.n.k)) (bc bG 0 rfl rfl rfl rfl) fun a ab=>aR 8 rfl ab (U.ak ae (ae.n.n.n.n.n.n.n.n.n.n.n.n.n.n.n.n.n.n.n.n)) (aV gU rfl rfl (s':=0) aA) fun a ab=>aR 9 rfl ab (U.ak ae (ae.n.n.n.n.n.n.n.n.n.n.n.n.n.n.n.n.n.n.n.k)) (bc bz 0 rfl rfl rfl rfl) fun a ab=>aR 10 rfl ab (U.ak ae (ae.n.n.n.n.n.n.n.n.n.n.n.n.n.n.n.n.n.n.n.n)) (aV gU rfl rfl (s':=0) aA) fun a ab=>aR 11 rfl ab (U.ak ae (ae.n.n.n.n.n.n.n.n.n.n.n.n.n.n.n.n.n.n.n.k)) (bc bz 0 rfl rfl rfl rfl) fun a ab=>?_
      refine fy [4,13] aA rfl ⟨?_,?_,trivial⟩
      ·refine dQ _ rfl rfl ab U rfl (eI (bQ vf rfl (fun w U=>vP _ _ _ _ _ _ w (kj U 12 rfl) (kI (hl:=aw.jP) (h1:=aw.j5) (U.own _ (List.mem_of_getElem? (i:=13) rfl)).1 rfl (by first | omega | (simp;done)) (aw.pH fG))) (fun _ _ _ h=>h))) ?_
       rintro _ _ _ a w ⟨rfl,rfl,rfl⟩ ab U
       refine ⟨⟨.inr (U.ak ae (ae.n.n.n.n.n.n.n.n.n.n.n.n.n.n.n.n.n.n.n.k)),.inr (U.ak ae (ae.n.n.n.n.n.n.n.n.n.n.n.n.n.n.n.n.n.n.n.n)),.inr (U.ak ae (ae.n.n.n.n.n.n.n.n.n.n.n.n.n.n.n.n.n.n.n.k)),.inr (U.ak ae (ae.n.n.n.n.n.n.n.n.n.n.n.n.n.n.n.n.n.n.n.n)),.inr (U.ak ae (ae.n.n.n.n.n.n.n.n.n.n.n.n.n.n.n.n.n.n.n.k)),.inr (U.ak ae (ae.n.n.n.n.n.n.n.n.n.n.n.n.n.n.n.n.n.n.n.n)),al,al,.inr (U.ak ae (ae.n.n.n.n.n.n.n.n.n.n.n.n.n.n.n.n.n.n.n.n)),.inr (U.ak ae (ae.n.n.n.n.n.n.n.n.n.n.n.n.n.n.n.n.n.n.n.n)),trivial⟩,?_⟩
       refine aR 7 rfl ab (U.ak ae (ae.n.n.n.n.n.n.n.n.n.n.n.n.n.n.n.n.n.n.n.n)) (pb rfl rfl (by omega)) fun a ab=>aR 12 rfl ab (U.ak ae (ae.n.n.n.n.n.n.n.n.n.n.n.n.n.n.n.n.n.n.n.n)) (oq b2 3 aA rfl rfl (bn rfl (bn rfl (bn rfl dC))) rfl rfl) fun a ab=>bW 13 rfl rfl ab U rfl (c1 b2) ?_
       rintro _ _ _ a w ⟨Aj,rfl,rfl,rfl⟩ ab U
       refine ⟨⟨.inr (U.ak ae (ae.n.n.n.n.n.n.n.n.n.n.n.n.n.n.n.n.n.n.n.n.n)),.inr (U.ak ae (ae.n.n.n.n.n.n.n.n.n.n.n.n.n.n.n.n.n.n.n.n.n)),.inr (U.ak ae (ae.n.n.n.n.n.n.n.n.n.n.n.n.n.n.n.n.n.n.n.k.n)),.inr (U.ak ae (ae.n.n.n.n.n.n.n.n.n.n.n.n.n.n.n.n.n.n.n.n.n)),.inr (U.ak ae (ae.n.n.n.n.n.n.n.n.n.n.n.n.n.n.n.n.n.n.n.k.n)),.inr (U.ak ae (ae.n.n.n.n.n.n.n.n.n.n.n.n.n.n.n.n.n.n.n.n.n)),.inr (U.ak ae (ae.n.n.n.n.n.n.n.n.n.n.n.n.n.n.n.n.n.n.n.k.n)),.inr (U.ak ae (ae.n.n.n.n.n.n.n.n.n.n.n.n.n.n.n.n.n.n.n.n.n)),al,al,.inr (U.ak ae (ae.n.n.n.n.n.n.n.n.n.n.n.n.n.n.n.n.n.n.n.n.n)),.inr (U.ak ae (ae.n.n.n.n.n.n.n.n.n.n.n.n.n.n.n.n.n.n.n.n.n)),trivial⟩,?_⟩
       refine bW 14 rfl rfl ab U rfl (cA b2 0 rfl rfl rfl rfl aI (bn rfl (bn rfl (bn rfl dC))) aI) ?_
       rintro _ _ _ a w ⟨rfl,rfl,rfl⟩ ab U
       replace U:=vS U
       refine ⟨⟨al,al,al,al,al,al,al,al,al,al,al,al,trivial⟩,?_⟩
       exact ei aA (ly Aj (trivial) (ab.sub (L':=[(0,_),(10,_)]) ⟨rfl,rfl,trivial⟩) U)
      ·refine dQ _ rfl rfl ab U rfl (c1 b2) ?_
       rintro _ _ _ a w ⟨Aj,rfl,rfl,rfl⟩ ab U
       refine ⟨⟨.inr (U.ak ae (ae.n.n.n.n.n.n.n.n.n.n.n.n.n.n.n.n.n.n.n.k.n)),.inr (U.ak ae (ae.n.n.n.n.n.n.n.n.n.n.n.n.n.n.n.n.n.n.n.n.n)),.inr (U.ak ae (ae.n.n.n.n.n.n.n.n.n.n.n.n.n.n.n.n.n.n.n.k.n)),.inr (U.ak ae (ae.n.n.n.n.n.n.n.n.n.n.n.n.n.n.n.n.n.n.n.n.n)),.inr (U.ak ae (ae.n.n.n.n.n.n.n.n.n.n.n.n.n.n.n.n.n.n.n.k.n)),.inr (U.ak ae (ae.n.n.n.n.n.n.n.n.n.n.n.n.n.n.n.n.n.n.n.n.n)),.inr (U.ak ae (ae.n.n.n.n.n.n.n.n.n.n.n.n.n.n.n.n.n.n.k.n.n)),.inr (U.ak ae (ae.n.n.n.n.n.n.n.n.n.n.n.n.n.n.n.n.n.n.n.n.n)),.inr (U.ak ae (ae.n.n.n.n.n.n.n.n.n.n.n.n.n.n.n.n.n.n.n.n.n)),.inr (U.ak ae (ae.n.n.n.n.n.n.n.n.n.n.n.n.n.n.n.n.n.n.n.n.n)),trivial⟩,?_⟩
       refine bW 4 rfl rfl ab U rfl (eI (bQ vf rfl (fun w U=>vP _ _ _ _ _ _ w (kj U 13 rfl) (kI (hl:=aw.jP) (h1:=aw.j5) (U.own _ (List.mem_of_getElem? (i:=14) rfl)).1 rfl (by first | omega | (simp;done)) (aw.pH fG))) (fun _ _ _ h=>h))) ?_
       rintro _ _ _ a w ⟨rfl,rfl,rfl⟩ ab U
       refine ⟨⟨.inr (U.ak ae (ae.n.n.n.n.n.n.n.n.n.n.n.n.n.n.n.n.n.n.n.k.n)),.inr (U.ak ae (ae.n.n.n.n.n.n.n.n.n.n.n.n.n.n.n.n.n.n.n.n.n)),.inr (U.ak ae (ae.n.n.n.n.n.n.n.n.n.n.n.n.n.n.n.n.n.n.n.k.n)),.inr (U.ak ae (ae.n.n.n.n.n.n.n.n.n.n.n.n.n.n.n.n.n.n.n.n.n)),.inr (U.ak ae (ae.n.n.n.n.n.n.n.n.n.n.n.n.n.n.n.n.n.n.n.k.n)),.inr (U.ak ae (ae.n.n.n.n.n.n.n.n.n.n.n.n.n.n.n.n.n.n.n.n.n)),al,al,.inr (U.ak ae (ae.n.n.n.n.n.n.n.n.n.n.n.n.n.n.n.n.n.n.n.n.n)),.inr (U.ak ae (ae.n.n.n.n.n.n.n.n.n.n.n.n.n.n.n.n.n.n.n.n.n)),trivial⟩,?_⟩
       refine aR 7 rfl ab (U.ak ae (ae.n.n.n.n.n.n.n.n.n.n.n.n.n.n.n.n.n.n.n.n.n)) (pb rfl rfl (by omega)) fun a ab=>aR 12 rfl ab (U.ak ae (ae.n.n.n.n.n.n.n.n.n.n.n.n.n.n.n.n.n.n.n.n.n)) (oq b2 3 aA rfl rfl (bn rfl (bn rfl (bn rfl dC))) rfl rfl) fun a ab=>bW 14 rfl rfl ab U rfl (cA b2 0 rfl rfl rfl rfl aI (bn rfl (bn rfl (bn rfl dC))) aI) ?_
       rintro _ _ _ a w ⟨rfl,rfl,rfl⟩ ab U
       replace U:=vS U
       refine ⟨⟨al,al,al,al,al,al,al,al,al,al,al,al,trivial⟩,?_⟩
       exact ei aA (ly Aj (trivial) (ab.sub (L':=[(0,_),(10,_)]) ⟨rfl,rfl,trivial⟩) U)
     rintro a w ⟨Aj, -,ab,U⟩
     (try dsimp only at ab U)
     refine jF _ _<|ax fun sK lS=>?_
     revert U;revert ab;apply ho (J:=IL (α0:=Value) (α1:=av) (α2:=av) (α3:=av) (α4:=av) (α5:=av) (α6:=av) (α7:=av) (α8:=av) (α9:=Value) (α10:=av) (α11:=av) (α12:=av) (α13:=av) 152 _ _ _ _ _) #[false,false,false,false,false,false,false,false,false,false,false,false,false,false] 14 mixed rfl rfl
     ·intro w ab U
      refine aR 0 rfl ab (U.ak ae (ae.n.n.n.n.n.n.n.n.n.n.n.n.n.n.n.n.n.n.n.n.n)) (bE rfl) fun a ab=>aR 1 rfl ab (U.ak ae (ae.n.n.n.n.n.n.n.n.n.n.n.n.n.n.n.n.n.n.n.n.n)) (bI rfl) fun a ab=>aR 2 rfl ab (U.ak ae (ae.n.n.n.n.n.n.n.n.n.n.n.n.n.n.n.n.n.n.n.n.n)) (aV gP rfl rfl (s':=0) aA) fun a ab=>aR 3 rfl ab (U.ak ae (ae.n.n.n.n.n.n.n.n.n.n.n.n.n.n.n.n.n.n.k.n.n)) (bc hD 0 rfl rfl rfl rfl) fun a ab=>aR 4 rfl ab (U.ak ae (ae.n.n.n.n.n.n.n.n.n.n.n.n.n.n.n.n.n.n.n.n.k)) (fW b2 0 rfl rfl aI rfl) fun a ab=>?_
      refine aR 6 rfl ab (U.ak ae (ae.n.n.n.n.n.n.n.n.n.n.n.n.n.n.n.n.n.n.n.n.n)) (bE rfl) fun a ab=>aR 7 rfl ab (U.ak ae (ae.n.n.n.n.n.n.n.n.n.n.n.n.n.n.n.n.n.n.n.n.n)) (bI rfl) fun a ab=>aR 8 rfl ab (U.ak ae (ae.n.n.n.n.n.n.n.n.n.n.n.n.n.n.n.n.n.n.n.n.n)) (aV gP rfl rfl (s':=0) aA) fun a ab=>aR 9 rfl ab (U.ak ae (ae.n.n.n.n.n.n.n.n.n.n.n.n.n.n.n.n.n.n.k.n.n)) (bc pn 0 rfl rfl rfl rfl) fun a ab=>aR 10 rfl ab (U.ak ae (ae.n.n.n.n.n.n.n.n.n.n.n.n.n.n.n.n.n.n.n.n.k)) (fW b2 0 rfl rfl aI rfl) fun a ab=>?_
      refine fy [5] aA rfl ⟨?_,trivial⟩
      replace U:=(((U.perm qe).perm sN).perm uK).perm uM
      replace U:=U.perm (.cons _ (.cons _ (.cons _ (.cons _ (.cons _ (.cons _ (.swap _ _ _)))))))
      replace U:=U.perm (.cons _ (.cons _ (.cons _ (.cons _ (.cons _ (.swap _ _ _))))))
      replace U:=((U.perm (.cons _ (.cons _ (.cons _ (.cons _ (.swap _ _ _)))))).perm w5).perm w6
      replace U:=U.perm (.cons _ (.cons _ (.cons _ (.cons _ (.cons _ (.cons _ (.cons _ (.cons _ (.cons _ (.swap _ _ _))))))))))
      replace U:=U.perm (.cons _ (.cons _ (.cons _ (.cons _ (.cons _ (.cons _ (.cons _ (.cons _ (.swap _ _ _)))))))))
      replace U:=U.perm (.cons _ (.cons _ (.cons _ (.cons _ (.cons _ (.cons _ (.cons _ (.swap _ _ _))))))))
      replace U:=U.perm (.cons _ (.cons _ (.cons _ (.cons _ (.cons _ (.cons _ (.cons _ (.cons _ (.cons _ (.cons _ (.swap _ _ _)))))))))))
      replace U:=U.perm (.cons _ (.cons _ (.cons _ (.cons _ (.cons _ (.cons _ (.cons _ (.cons _ (.cons _ (.swap _ _ _))))))))))
      replace U:=U.perm (.cons _ (.cons _ (.cons _ (.cons _ (.cons _ (.cons _ (.cons _ (.cons _ (.swap _ _ _)))))))))
      replace U:=U.perm (.cons _ (.cons _ (.cons _ (.cons _ (.cons _ (.cons _ (.cons _ (.cons _ (.cons _ (.cons _ (.cons _ (.swap _ _ _))))))))))))
      replace U:=U.perm (.cons _ (.cons _ (.cons _ (.cons _ (.cons _ (.cons _ (.cons _ (.cons _ (.cons _ (.cons _ (.swap _ _ _)))))))))))
      replace U:=U.perm (.cons _ (.cons _ (.cons _ (.cons _ (.cons _ (.cons _ (.cons _ (.cons _ (.cons _ (.swap _ _ _))))))))))
      replace U:=vS U
      refine dQ _ rfl rfl ab U rfl (dy vd rfl (List.Perm.refl _) (by exact (yA _ _ _ M ⟨aw.clock M.F+la,ky,vl⟩ lU eG _ _ dF (by assumption) ej dh (fv:=fv)))) ?_
      rintro _ _ _ a w ⟨_,_,rfl,rfl,⟨rfl,rfl,LA,O6,Pf,Pp,Py,QS,QU,QW,QY,rfl,Ff,E3⟩⟩ ab U
      replace U:=vS U
      refine ⟨⟨.inr (U.ak ae (ae.n.n.n.n.n.n.n.n.n.n.k.n.n.n.n.n.n.n.n.n.n)),.inr (U.ak ae (ae.n.n.n.n.n.n.n.n.k.n.n.n.n.n.n.n.n.n.n.n.n)),.inr (U.ak ae (ae.n.n.n.n.n.n.n.n.n.n.n.n.n.n.n.n.n.n.n.n.n)),.inr (U.ak ae (ae.n.n.n.n.n.n.n.n.n.n.n.n.n.n.n.n.n.n.n.n.n)),.inr (U.ak ae (ae.n.n.n.n.n.n.n.n.n.n.n.n.n.n.n.n.n.n.n.n.n)),al,al,al,.inr (U.ak ae (ae.n.n.n.n.n.n.n.n.n.n.n.n.n.n.n.n.n.n.n.n.n)),.inr (U.ak ae (ae.n.n.n.n.n.n.n.n.n.n.n.n.n.n.n.n.n.n.n.n.n)),trivial⟩,?_⟩
      refine fy [11] aA rfl ⟨?_,trivial⟩
      replace U:=(((((((U.perm IW).perm I9).perm Jc).perm Je).perm Ji).perm Jm).perm Jr).perm Sv
      replace U:=vS U
      refine dQ _ rfl rfl ab U rfl (dy VW rfl (List.Perm.refl _) (by exact (abv _ _ _ v lk M ⟨aw.clock M.F+la,ky,vl⟩ lU eG _ _ hj (by assumption) fA (by assumption) (fv:=fw)))) ?_
      rintro _ _ _ a w ⟨_,_,rfl,rfl,⟨rfl,rfl,Lz,O5,Pe,Po,Px,rfl,Fe⟩⟩ ab U
      replace U:=vS U
      refine ⟨⟨al,al,al,.inr (U.ak ae (ae.n.n.n.n.n.n.n.n.n.n.n.n.n.n.n.n.n.n.n.n.n)),.inr (U.ak ae (ae.n.n.n.n.n.n.n.n.n.n.n.n.n.n.n.n.n.n.n.n.n)),al,al,al,.inr (U.ak ae (ae.n.n.n.n.n.n.n.n.n.n.n.n.n.n.n.n.n.n.n.n.n)),.inr (U.ak ae (ae.n.n.n.n.n.n.n.n.n.n.n.n.n.n.n.n.n.n.n.n.n)),trivial⟩,?_⟩
      refine aR 12 rfl ab (U.ak ae (ae.n.n.n.n.n.n.n.n.n.n.n.n.n.n.n.n.n.n.n.n.n)) (l0 (fc rfl rfl) (by simp)) fun a ab=>aR 13 rfl ab (U.ak ae (ae.n.n.n.n.n.n.n.n.n.n.n.n.n.n.n.n.n.n.n.n.n)) (lD rfl) fun a ab=>ei aA (aaj LA O6 Pf Pp Py QS QU QW QY Lz O5 Pe Po Px ((And.intro Ff (And.intro E3 (And.intro Fe trivial)))) (ab.sub (L':=[(4,_)]) ⟨rfl,trivial⟩) U)
     rintro a w ⟨LA,O6,Pf,Pp,Py,QS,QU,QW,QY,Lz,O5,Pe,Po,Px,⟨Ff,E3,Fe, -⟩,ab,U⟩
     (try dsimp only at ab U)
     refine lS _ _<|wp_ret ?_
     replace U:=((((((((((U.perm Sl).perm qg).perm q9).perm re).perm Jg).perm Jk).perm Jp).perm DB).perm DC).perm DD).perm I0
     exact cQ (rs:=[.tmp 4]) rfl ab U (vs:=[_]) ⟨rfl,trivial⟩ [] [_,_,_,_,_,_,_,_,_,_,_,_,_,_,_,_,_,_,_] ae (ae.n.n.k.k.k.k.k.k.k.k.k.k.k.k.k.k.k.k.k.k.k) (zo (M:=(aw.add M ⟨aw.clock M.F+la,ky,vl⟩).1) ⟨rfl,rfl,_,_,_,_,_,_,_,_,_,_,_,_,_,_,_,_,_,_,_,rfl,Ff,E3,Fe⟩ (by rw [aw.Ke aS bs dr dm]))
theorem acD(m:Int)(hm:12≤m∧m≤71)(w:World){dK:Nat×Nat}{dJ:TypeId}(hj:w.heap[0]?=some (.cells (aK.ek.map cx).toArray dJ dK)){fU:Nat×Nat}{fT:TypeId}(dF:w.heap[1]?=some (.cells (aK.ek.map cx).toArray fT fU)):ch Tryz.prog 80 [az m] w (DH (aw.vO (ao.new m.toNat)) true):=by
 obtain ⟨n,rfl⟩:∃ n:Nat,m=(n:Int):=⟨m.toNat,by omega⟩
 rw [Int.toNat_natCast]
 exact acC n (by omega) w hj dF
end
section
theorem VT:bU Tryz.prog 45:=bY Tryz.func45
theorem Wa:bU Tryz.prog 80:=bY Tryz.func80
theorem Wb:bU Tryz.prog 81:=bY Tryz.func81
theorem Wc:bU Tryz.prog 82:=bY Tryz.func82
theorem Vi:bU Tryz.prog 125:=bY Tryz.func125
attribute [local irreducible] aF.int aF.bytes aF.getInt aF.ef aK.sum aj.eW aj.aT aj.cU aj.bh aj.c8 aj.fX aj.app aj.eo aw.dec aw.enc ao.new ao.hp ao.hz ao.gN ao.k7 aw.add aw.taken aw.BP aw.ua aw.dN aw.keys bo.mK aw.ia aw.mZ aw.keyOf
theorem SF(sb bl ml:Nat)(pd pj v acV ac1 v2 aa7:Value)(F:List aw.bO)(pK:aw.Good F)(w:World){Tf Tg Th:TypeId}{WM WN WO:Nat×Nat}(pQ:w.heap[sb]?=some (.cells [pd,.pointer (some ⟨bl,0,none⟩),.pointer (some ⟨ml,0,none⟩)].toArray Tf WM))(hl:w.heap[bl]?=some (.cells [pj,v].toArray Tg WN))(e8:bg Go.aJ.hv (b1 w) v F)(hm:w.heap[ml]?=some (.cells [acV,ac1,v2,aa7].toArray Th WO))(gu:bg Go.aJ.hv (b1 w) v2 F){dK:Nat×Nat}{dJ:TypeId}(hj:w.heap[0]?=some (.cells (aK.ek.map cx).toArray dJ dK)){fU:Nat×Nat}{fT:TypeId}(dF:w.heap[1]?=some (.cells (aK.ek.map cx).toArray fT fU)):ch Tryz.prog 82 [.pointer (some ⟨sb,0,none⟩)] w (fun r _ _=>r=.bool true):=by
 refine cI Tryz.func82 rfl Tryz.ntmps82 (Nat.le_of_ble_eq_true rfl) fun a ab U=>?_
 have cZ:=e8.1
 have nD:=pK.len
 have fG:=pK.srt
 have n3:=aw.JX pK
 refine aB ab U (ar rfl<|ah) fun a w ab U=>aB ab U (ai rfl<|ag (bI rfl)<|ag (aV gP rfl rfl (s':=0) aA)<|ag (iC pn rfl pQ rfl rfl)<|ag (bI rfl)<|ag (aV km rfl rfl (s':=0) aA)<|ag (iC dv rfl hm rfl rfl)<|ar rfl<|ah) fun a w ab U=>ax fun dH cf=>ax fun dP cq=>?_
 revert U;revert ab;apply ho (J:=jL (α0:=Value) 129 _ _ _ _ _) #[false,false,false,false,false,false,false,false,false,false,false,false,false,false,false,false,false,false,false,false,false] 21 mixed rfl rfl
 ·intro w ab U
  refine aR 0 rfl ab (U.ak ae ay) (bE rfl) fun a ab=>aR 1 rfl ab (U.ak ae ay) (bI rfl) fun a ab=>aR 2 rfl ab (U.ak ae ay) (aV gP rfl rfl (s':=0) aA) fun a ab=>aR 3 rfl ab (U.ak ae ay) (iC hD rfl pQ rfl rfl) fun a ab=>aR 5 rfl ab (U.ak ae ay) (bE rfl) fun a ab=>?_
  refine bW 4 rfl rfl ab U rfl (eB AQ rfl (fun w U=>Em _ _ _ _ (by omega) w (U.ext _ _ hl) (bg.mono (U.le cD) e8))) ?_
  rintro Rk _ _ a w ⟨_,_,rfl,rfl,⟨rfl,rfl⟩⟩ ab U
  refine ⟨⟨.inr U.ax,al,al,.inr U.ax,.inr U.ax,trivial⟩,?_⟩
  refine bW 6 rfl rfl ab U rfl (eI (bQ La rfl (fun w U=>Qf _ _ _ w (kI (hl:=aw.jP) (h1:=aw.j5) (xs:=F) (U.own _ (List.mem_of_getElem? (i:=0) rfl)).1 rfl (by first | omega | (simp;done) | decide) (aw.pH pK)) (bg.mono (U.le cD) gu)) (fun _ _ _ h=>h))) ?_
  rintro _ _ _ a w ⟨rfl,rfl,rfl⟩ ab U
  refine ⟨⟨al,al,al,.inr U.ax,.inr U.ax,trivial⟩,?_⟩
  refine aR 7 rfl ab (U.ak ae ay) (fC rfl) fun a ab=>aR 8 rfl ab (U.ak ae ay) (bE rfl) fun a ab=>jt 9 _ rfl (hg 26 rfl rfl) aA rfl ab (U.ak ae ay) (bE rfl) fun a ab=>jt 10 _ rfl (hg 26 rfl rfl) aA rfl ab (U.ak ae ay) (bI rfl) fun a ab=>jt 11 _ rfl (hg 26 rfl rfl) aA rfl ab (U.ak ae ay) (aV gP rfl rfl (s':=0) aA) fun a ab=>?_
  refine jt 12 _ rfl (hg 26 rfl rfl) aA rfl ab (U.ak ae ay) (iC hD rfl pQ rfl rfl) fun a ab=>jt 14 _ rfl (hg 26 rfl rfl) aA rfl ab (U.ak ae ay) (bE rfl) fun a ab=>jt 15 _ rfl (hg 26 rfl rfl) aA rfl ab (U.ak ae ay) (bI rfl) fun a ab=>jt 16 _ rfl (hg 26 rfl rfl) aA rfl ab (U.ak ae ay) (aV gP rfl rfl (s':=0) aA) fun a ab=>jt 17 _ rfl (hg 26 rfl rfl) aA rfl ab (U.ak ae ay) (iC pn rfl pQ rfl rfl) fun a ab=>?_
  refine fy [13] aA rfl ⟨?_,trivial⟩
  refine CK _ rfl (hg 26 rfl rfl) rfl ab U rfl (eI (bQ xH rfl (fun w U=>Ax _ _ _ _ w (U.ext _ _ hl) (bg.mono (U.le cD) e8)) (fun _ _ _ h=>h))) ?_
  rintro _ _ _ a w ⟨rfl,rfl,rfl⟩ ab U
  refine ⟨⟨.inr U.ax,.inr U.ax,.inr U.ax,.inr U.ax,al,al,.inr U.ax,.inr U.ax,al,al,al,al,al,.inr U.ax,.inr U.ax,trivial⟩,?_⟩
  refine fy [18] aA rfl ⟨?_,trivial⟩
  refine CK _ rfl (hg 26 rfl rfl) rfl ab U rfl (eI (bQ vf rfl (fun w U=>vP _ _ _ _ _ _ w (U.ext _ _ hm) (bg.mono (U.le cD) gu)) (fun _ _ _ h=>h))) ?_
  rintro _ _ _ a w ⟨rfl,rfl,rfl⟩ ab U
  refine ⟨⟨al,al,.inr U.ax,.inr U.ax,al,al,.inr U.ax,.inr U.ax,al,al,al,al,al,.inr U.ax,.inr U.ax,trivial⟩,?_⟩
  refine jt 19 _ rfl (hg 26 rfl rfl) aA rfl ab (U.ak ae ay) (lF (dM rfl rfl) (by simp)) fun a ab=>aR 20 rfl ab (U.ak ae ay) (hY rfl rfl) fun a ab=>ei aA (ly Rk (trivial) (ab.sub (L':=[(0,_),(3,_),(38,_)]) ⟨rfl,rfl,rfl,trivial⟩) U)
 rintro a w ⟨Rk, -,ab,U⟩
 (try dsimp only at ab U)
 refine cq _ _<|cX ab rfl (fun h=>absurd h (by simp)) (fun _=>?_)
 refine wp_skip<|cf _ _<|ax fun dw b3=>h2 11 mixed aA ab U (ai rfl<|ag (bI rfl)<|ag (aV gP rfl rfl (s':=0) aA)<|ag (iC pn rfl pQ rfl rfl)<|ag (bQ vf rfl (fun w U=>vP _ _ _ _ _ _ w (U.ext _ _ hm) (bg.mono (U.le cD) gu)) (fun _ _ _ h=>h))<|ag (nL rfl rfl (by omega))<|ai rfl<|ag (bI rfl)<|ag (aV gP rfl rfl (s':=0) aA)<|ag (iC pn rfl pQ rfl rfl)<|ag (bQ vf rfl (fun w U=>vP _ _ _ _ _ _ w (U.ext _ _ hm) (bg.mono (U.le cD) gu)) (fun _ _ _ h=>h))<|ah) fun a w ab U=>aH ab U rfl (dX c5 bG rfl rfl bJ (by decide) rfl rfl) ?_
 rintro v1 _ _ a w ⟨rfl,rfl⟩ ab U
 replace U:=eK U
 refine aE ab U (ar rfl<|ah) fun a w ab U=>wpList_nil (b3 _ _ ?_)
 refine ax fun et cz=>ax fun eU cO=>bq ab U (ar rfl<|ah) fun a w ab U=>?_
 obtain ⟨tks,kX⟩:∃ x:List Int,x=[-1,0,aw.clock F/2,aw.clock F,1099511627776]:=⟨_,rfl⟩
 have o2:tks.length=5:=by rw [kX];rfl
 have ZJ:∀ x∈tks, -1≤x∧x≤1099511627776:=by rw [kX];intro x aL;simp only [List.mem_cons,List.not_mem_nil,or_false] at aL;rcases aL with rfl | rfl | rfl | rfl | rfl <;> omega
 replace U:=U.CD rfl (show [az (-1),az 0,az (aw.clock F/2),az (aw.clock F),az 1099511627776]=tks.map az by rw [kX];rfl)
 clear kX
 refine cO _ _<|wp_block ?_
 obtain ⟨bC,aZ,U⟩:=U.cT
 refine df (γ:=Nat) (0) (fun (i:Nat)=>[(5,az (i:Int))]) [(0,_),(3,_),(4,_)] (fun (i:Nat)=>bC) (fun (i:Nat)=>i≤5) (fun (i:Nat)=>5-i) (ab.sub ⟨rfl,rfl,rfl,rfl,trivial⟩) (by subst aZ;exact U) (by exact Nat.zero_le _) ?_
 rintro i a w ba ab U
 subst aZ;(try dsimp only at ba ab U)
 have eu:=ba
 replace U:=eK U
 refine ax fun e1 cF=>aB ab U (ai rfl<|ai rfl<|ag (hX c5 0 rfl rfl)<|ag (cK rfl rfl)<|ah) fun a w ab U=>b9 ab rfl (fun bs=>?_) (fun bs=>?_)
 ·have Gi:=ZJ _ (ao.jE (l:=tks) (d:=0) (j:=i) (by omega))
  rw [← Int.toNat_natCast i] at Gi
  have iV:=aw.HB (aw.ia F (tks.getD (i:Int).toNat 0))
  have oc:=aw.BJ F (tks.getD (i:Int).toNat 0)
  have Bn:∀ x∈(aw.keys F (tks.getD (i:Int).toNat 0)),x.length≤140737488355328:=fun x aL=>by obtain ⟨f,bw,_,rfl⟩:=(aw.BK F _ x).1 aL;exact (xi e8 f bw).2.1
  refine wp_skip<|cF _ _<|ax fun hE dS=>wp_block ?_
  refine ax fun gQ dz=>ax fun iE eO=>?_
  revert U;revert ab;apply ho (J:=jM (α0:=Value) (α1:=Value) 129 _ _ _ _ _) #[false,false,false,false,false,false,false,false,false,false,false,false,false,false,false,false,false,false,false,false,false,false,false,false,false,false,false,false,false,false,false,false,false,false,false] 35 mixed rfl rfl
  ·intro w ab U
   refine aR 0 rfl ab (U.ak ae ay) (bE rfl) fun a ab=>aR 1 rfl ab (U.ak ae ay) (bI rfl) fun a ab=>aR 2 rfl ab (U.ak ae ay) (aV gP rfl rfl (s':=0) aA) fun a ab=>aR 3 rfl ab (U.ak ae ay) (iC hD rfl pQ rfl rfl) fun a ab=>aR 4 rfl ab (U.ak ae ay) (bE rfl) fun a ab=>?_
   refine aR 5 rfl ab (U.ak ae ay) (bE rfl) fun a ab=>aR 6 rfl ab (U.ak ae (ay.k)) (ft c5 bG 0 rfl rfl rfl (by omega)) fun a ab=>aR 7 rfl ab (U.ak ae (ay.k)) (lE (f:=az) (xs:=tks) bG 0 0 rfl rfl (by omega) rfl) fun a ab=>aR 9 rfl ab (U.ak ae ay) (bE rfl) fun a ab=>aR 10 rfl ab (U.ak ae ay) (bE rfl) fun a ab=>?_
   refine aR 11 rfl ab (U.ak ae ay) (bE rfl) fun a ab=>aR 12 rfl ab (U.ak ae (ay.k)) (ft c5 bG 0 rfl rfl rfl (by omega)) fun a ab=>aR 13 rfl ab (U.ak ae (ay.k)) (lE (f:=az) (xs:=tks) bG 0 0 rfl rfl (by omega) rfl) fun a ab=>bW 8 rfl rfl ab U rfl (eB EC rfl (fun w U=>M4 _ _ _ _ _ fG (by omega) w (U.ext _ _ hl) (bg.mono (U.le cD) e8))) ?_
   rintro Rx _ _ a w ⟨_,_,rfl,rfl,⟨rfl,rfl⟩⟩ ab U
   refine ⟨⟨.inr (U.ea (ay.k.n)),.inr (U.ea (ay.k.n)),.inr U.ax,.inr U.ax,.inr U.ax,al,al,.inr U.ax,.inr U.ax,al,al,.inr U.ax,.inr U.ax,trivial⟩,?_⟩
   refine bW 14 rfl rfl ab U rfl (eB Lk rfl (fun w U=>PL _ _ _ (by omega) w (bg.mono (U.le cD) gu))) ?_
   rintro Rs _ _ a w ⟨_,_,rfl,rfl,⟨rfl,rfl⟩⟩ ab U
   refine ⟨⟨al,al,.inr U.ax,.inr U.ax,al,al,al,.inr U.ax,.inr U.ax,al,al,.inr U.ax,.inr U.ax,trivial⟩,?_⟩
   refine bW 15 rfl rfl ab U rfl (eI (bQ Lc rfl (fun w U=>afm _ _ _ w (k2 (f:=vs) (xs:=(aw.keys F (tks.getD (i:Int).toNat 0))) (U.own _ (List.mem_of_getElem? (i:=1) rfl)).1 (Bn) rfl (by first | decide | omega)) (k2 (f:=vs) (xs:=(aw.keys F (tks.getD (i:Int).toNat 0))) (U.own _ (List.mem_of_getElem? (i:=0) rfl)).1 (Bn) rfl (by first | decide | omega))) (fun _ _ _ h=>h))) ?_
   rintro _ _ _ a w ⟨rfl,rfl,rfl⟩ ab U
   refine ⟨⟨al,al,.inr U.ax,.inr U.ax,al,al,al,.inr U.ax,.inr U.ax,al,al,.inr U.ax,.inr U.ax,trivial⟩,?_⟩
   refine aR 16 rfl ab (U.ak ae ay) (fC rfl) fun a ab=>aR 17 rfl ab (U.ak ae ay) (bE rfl) fun a ab=>jt 18 _ rfl (hg 74 rfl rfl) aA rfl ab (U.ak ae ay) (bE rfl) fun a ab=>jt 19 _ rfl (hg 74 rfl rfl) aA rfl ab (U.ak ae ay) (bI rfl) fun a ab=>jt 20 _ rfl (hg 74 rfl rfl) aA rfl ab (U.ak ae ay) (aV gP rfl rfl (s':=0) aA) fun a ab=>?_
   refine jt 21 _ rfl (hg 74 rfl rfl) aA rfl ab (U.ak ae ay) (iC hD rfl pQ rfl rfl) fun a ab=>jt 22 _ rfl (hg 74 rfl rfl) aA rfl ab (U.ak ae ay) (bE rfl) fun a ab=>jt 23 _ rfl (hg 74 rfl rfl) aA rfl ab (U.ak ae ay) (bE rfl) fun a ab=>jt 24 _ rfl (hg 74 rfl rfl) aA rfl ab (U.ak ae (ay.k.n.n)) (ft c5 bG 0 rfl rfl rfl (by omega)) fun a ab=>jt 25 _ rfl (hg 74 rfl rfl) aA rfl ab (U.ak ae (ay.k.n.n)) (lE (f:=az) (xs:=tks) bG 0 0 rfl rfl (by omega) rfl) fun a ab=>?_
   refine jt 27 _ rfl (hg 74 rfl rfl) aA rfl ab (U.ak ae ay) (bE rfl) fun a ab=>jt 28 _ rfl (hg 74 rfl rfl) aA rfl ab (U.ak ae ay) (bE rfl) fun a ab=>jt 29 _ rfl (hg 74 rfl rfl) aA rfl ab (U.ak ae ay) (bE rfl) fun a ab=>jt 30 _ rfl (hg 74 rfl rfl) aA rfl ab (U.ak ae (ay.k.n.n)) (ft c5 bG 0 rfl rfl rfl (by omega)) fun a ab=>jt 31 _ rfl (hg 74 rfl rfl) aA rfl ab (U.ak ae (ay.k.n.n)) (lE (f:=az) (xs:=tks) bG 0 0 rfl rfl (by omega) rfl) fun a ab=>?_
   refine fy [26] aA rfl ⟨?_,trivial⟩
   refine CK _ rfl (hg 74 rfl rfl) rfl ab U rfl (eI (bQ Lb rfl (fun w U=>abd _ _ _ _ _ fG (by omega) w (U.ext _ _ hl) (bg.mono (U.le cD) e8) (U.ext _ _ dF)) (fun _ _ _ h=>h))) ?_
   rintro _ _ _ a w ⟨rfl,rfl,rfl⟩ ab U
   refine ⟨⟨.inr (U.ea (ay.k.n.n)),.inr (U.ea (ay.k.n.n)),.inr U.ax,.inr U.ax,.inr U.ax,al,al,.inr U.ax,.inr U.ax,al,al,.inr U.ax,.inr U.ax,al,al,al,al,.inr U.ax,.inr U.ax,al,al,al,.inr U.ax,.inr U.ax,al,al,.inr U.ax,.inr U.ax,trivial⟩,?_⟩
   refine fy [32] aA rfl ⟨?_,trivial⟩
   refine CK _ rfl (hg 74 rfl rfl) rfl ab U rfl (eI (bQ Vi rfl (fun w U=>abY _ _ _ (by omega) w (bg.mono (U.le cD) gu) (U.ext _ _ hj)) (fun _ _ _ h=>h))) ?_
   rintro _ _ _ a w ⟨rfl,rfl,rfl⟩ ab U
   refine ⟨⟨al,al,.inr U.ax,.inr U.ax,al,al,al,.inr U.ax,.inr U.ax,al,al,.inr U.ax,.inr U.ax,al,al,al,al,.inr U.ax,.inr U.ax,al,al,al,.inr U.ax,.inr U.ax,al,al,.inr U.ax,.inr U.ax,trivial⟩,?_⟩
   refine jt 33 _ rfl (hg 74 rfl rfl) aA rfl ab (U.ak ae ay) (lF (OW cW bF aA rfl rfl aI aI) (by simp)) fun a ab=>aR 34 rfl ab (U.ak ae ay) (hY rfl rfl) fun a ab=>ei aA (kY Rx Rs (trivial) (ab.sub (L':=[(0,_),(3,_),(4,_),(5,_),(91,_)]) ⟨rfl,rfl,rfl,rfl,rfl,trivial⟩) U)
  rintro a w ⟨Rx,Rs, -,ab,U⟩
  (try dsimp only at ab U)
  refine eO _ _<|cX ab rfl (fun h=>absurd h (by simp)) (fun _=>?_)
  refine wp_skip<|dz _ _<|aB ab U (ar rfl<|ah) fun a w ab U=>wp_block ?_
  obtain ⟨bC,aZ,U⟩:=U.cT
  refine df (γ:=Nat) (0) (fun (k:Nat)=>[(6,az (k:Int))]) [(0,_),(3,_),(4,_),(5,_)] (fun (k:Nat)=>bC) (fun (k:Nat)=>k≤6) (fun (k:Nat)=>6-k) (ab.sub ⟨rfl,rfl,rfl,rfl,rfl,trivial⟩) (by subst aZ;exact U) (by exact Nat.zero_le _) ?_
  rintro k a w ba ab U
  subst aZ;(try dsimp only at ba ab U)
  have kD:=ba
  replace U:=iK U
  refine ax fun kM gr=>aB ab U (ai rfl<|ag (cK rfl rfl)<|ah) fun a w ab U=>b9 ab rfl (fun dr=>?_) (fun dr=>?_)
  ·refine wp_skip<|gr _ _<|ax fun mc hh=>wp_block ?_
   refine hZ mixed aA ab U (ai rfl<|ag (bI rfl)<|ag (aV gP rfl rfl (s':=0) aA)<|ag (iC hD rfl pQ rfl rfl)<|ai rfl<|ai rfl<|ag (ft c5 bG 2 rfl rfl rfl (by omega))<|ag (lE (f:=az) (xs:=tks) bG 2 0 rfl rfl (by omega) rfl)<|ai rfl<|ag (bQ EA rfl (fun w U=>GA _ (by omega) w ) (fun _ _ _ h=>h))<|ag (bQ ve rfl (fun w U=>xp _ _ _ _ _ _ fG (by omega) w (U.ext _ _ hl) (bg.mono (U.le cD) e8)) (fun _ _ _ h=>h))<|ai rfl<|ag (cE rfl rfl)<|ag (cE rfl rfl)<|ar rfl<|ar rfl<|ah) fun a w ab U=>hZ mixed aA ab U (ai rfl<|ai rfl<|ai rfl<|ag (ft c5 bG 2 rfl rfl rfl (by omega))<|ag (lE (f:=az) (xs:=tks) bG 2 0 rfl rfl (by omega) rfl)<|ai rfl<|ag (bQ EA rfl (fun w U=>GA _ (by omega) w ) (fun _ _ _ h=>h))<|ag (bQ K8 rfl (fun w U=>PM _ _ _ _ w (bg.mono (U.le cD) gu)) (fun _ _ _ h=>h))<|ai rfl<|ag (cE rfl rfl)<|ag (cE rfl rfl)<|ar rfl<|ar rfl<|ah) fun a w ab U=>aB ab U (ai rfl<|ai rfl<|ag (lF (qX rfl rfl) (by simp))<|ai rfl<|aN 124 rfl rfl rfl (bE rfl)<|aN 124 rfl rfl rfl (bE rfl)<|aN 124 rfl rfl rfl (Ha (adS fg rfl rfl) (by simp))<|ag (hY rfl rfl)<|ah) fun a w ab U=>cX ab rfl (fun h=>absurd h (by simp)) (fun _=>?_)
   refine wp_skip<|hh _ _<|bq ab U (ai rfl<|bX rfl rfl<|ar rfl<|ah) fun a w ab U=>⟨(k+1),?_,?_,ab.sub ⟨rfl,rfl,rfl,rfl,rfl,trivial⟩,?_⟩
   ·(try dsimp only);omega
   ·omega
   ·exact U
  ·refine wp_exit<|dS _ _<|bq ab U (ai rfl<|bX rfl rfl<|ar rfl<|ah) fun a w ab U=>?_
   replace U:=U.ak ay (ae.n.n)
   refine ⟨(i+1),?_,?_,ab.sub ⟨rfl,rfl,rfl,rfl,trivial⟩,?_⟩
   ·(try dsimp only);omega
   ·omega
   ·exact U
 ·refine wp_exit<|cz _ _<|aB ab U (ar rfl<|ah) fun a w ab U=>wp_ret ?_
  exact bR (rs:=[.tmp 2]) rfl ab U (vs:=[_]) ⟨rfl,trivial⟩ ay ay (rfl)
theorem ac6(v:Value)(l:List Int)(sec most:Int)(vG : -9223372036854775808≤sec∧sec≤9223372036854775807)(YZ:0≤most∧most≤16)(w:World)(au:bg Go.aJ.encI (b1 w) v l){dK:Nat×Nat}{dJ:TypeId}(hj:w.heap[0]?=some (.cells (aK.ek.map cx).toArray dJ dK)){fU:Nat×Nat}{fT:TypeId}(dF:w.heap[1]?=some (.cells (aK.ek.map cx).toArray fT fU)):ch Tryz.prog 44 [v,az sec,az most] w (fun r zs hs=>∃ M:aw.fD,aw.Good M.F∧DH M true r zs hs):=by
 refine cI Tryz.func44 rfl Tryz.ntmps44 (Nat.le_of_ble_eq_true rfl) fun a ab U=>?_
 have cZ:=au.1
 have rK:=cM.rm (n:=sec) (m:=60) (by decide)
 refine a8 fun dW cR=>aH ab U rfl (c1 gP) ?_
 rintro _ _ _ a w ⟨b6,rfl,rfl,rfl⟩ ab U
 refine aE ab U (ar rfl<|ah) fun a w ab U=>wpList_nil (cR _ _ ?_)
 refine a8 fun cm bD=>aE ab U (ai rfl<|ag (bQ nu rfl (fun w U=>nm _ _ (by omega) (by omega) w ) (fun _ _ _ h=>h))<|bX rfl rfl<|ah) fun a w ab U=>aH ab U rfl (eB Wa rfl (fun w U=>acD _ (by omega) w (U.ext _ _ hj) (U.ext _ _ dF))) ?_
 rintro _ _ _ a w ⟨_,_,rfl,rfl,⟨rfl,Al,Bj,C3,S7,MU,abO,aby,aa5,WD,WK,ad7,aea,aed,aeg,agH,agJ,agM,agO,acI,acR,acT,acW,rfl,rfl,Xn,Xc,XD⟩⟩ ab U
 replace U:aC _ [] [_,_,_,_,_,_,_,_,_,_,_,_,_,_,_,_,_,_,_] _:=U
 refine aE ab U (ai rfl<|ag (cE rfl rfl)<|ag (cE rfl rfl)<|ah) fun a w ab U=>aH ab U rfl (c1 gP) ?_
 rintro _ _ _ a w ⟨SV,rfl,rfl,rfl⟩ ab U
 refine aH ab U rfl (cA gP 0 rfl rfl rfl rfl aI (bn rfl (bn rfl (bn rfl dC))) aI) ?_
 rintro _ _ _ a w ⟨rfl,rfl,rfl⟩ ab U
 replace U:aC _ [] [_,_,_,_,_,_,_,_,_,_,_,_,_,_,_,_,_,_,_,_] _:=U
 refine aE ab U (ar rfl<|ah) fun a w ab U=>wpList_nil (bD _ _ ?_)
 refine ax fun dH cf=>aB ab U (ai rfl<|ag (fC rfl)<|ah) fun a w ab U=>cX ab rfl (fun h=>absurd h (by simp)) (fun _=>?_)
 refine wp_skip<|cf _ _<|a8 fun dw b3=>aE ab U (ai rfl<|ai rfl<|ah) fun a w ab U=>aH ab U rfl (eB Wb rfl (fun w U=>afw _ _ _ YZ w (bg.mono (U.le cD) au))) ?_
 rintro _ _ _ a w ⟨_,_,rfl,rfl,⟨adg,z49,rfl,rfl,yw,Zj⟩⟩ ab U
 replace U:=yJ U
 refine aE ab U (ar rfl<|ah) fun a w ab U=>wpList_nil (b3 _ _ ?_)
 refine ax fun et cz=>ax fun eU cO=>bq ab U (ar rfl<|ah) fun a w ab U=>?_
 obtain ⟨q,Zn⟩:∃ x,x=adg:=⟨_,rfl⟩
 rw [← Zn] at yw Zj
 refine cO _ _<|wp_block ?_
 obtain ⟨bC,aZ,U⟩:=U.cT
 refine df (γ:=aw.fD×Nat×Nat×Nat×Nat×Bool×Value×Value×av×av×av×av×av×av×av×av×av×av×av×av×Nat) ((aw.vO (ao.new (12+cM.fo sec 60).toNat)),S7,MU,abO,aby,aa5,WD,WK,ad7,aea,aed,aeg,agH,agJ,agM,agO,acI,acR,acT,acW,0) (fun (M,bl,jb,ml,mb,lk,fv,fw,cj,ck,cr,ct,d1,d2,d3,d4,iM,jc,jd,jU,i)=>[(11,az (i:Int))]) [(6,_),(8,_),(10,_)] (fun (M,bl,jb,ml,mb,lk,fv,fw,cj,ck,cr,ct,d1,d2,d3,d4,iM,jc,jd,jU,i)=>(((((((((((((((((((bC.set 0 (DG SV Bj.b bl ml)).set 1 (w3 bl jb fv)).set 2 (lP fv M.F)).set 3 (cj)).set 4 (ck)).set 5 (cr)).set 6 (ct)).set 7 (d1)).set 8 (d2)).set 9 (d3)).set 10 (d4)).set 11 (oG ml Al mb fw lk)).set 12 (lP fw M.F)).set 13 (iM)).set 14 (jc)).set 15 (jd)).set 16 (jU)).set 17 (fh Al C3 M.S)).set 18 (fj C3 M.S))) (fun (M,bl,jb,ml,mb,lk,fv,fw,cj,ck,cr,ct,d1,d2,d3,d4,iM,jc,jd,jU,i)=>i≤q.length∧aw.Good M.F∧lO jb Bj.b M.J cj ck cr ct∧gX Bj M.S d1 d2 d3 d4∧lN mb Al M.J iM jc jd jU) (fun (M,bl,jb,ml,mb,lk,fv,fw,cj,ck,cr,ct,d1,d2,d3,d4,iM,jc,jd,jU,i)=>q.length-i) (ab.sub ⟨rfl,rfl,rfl,rfl,trivial⟩) (by subst aZ;dsimp only [List.set_cons_zero,List.set_cons_succ];exact U) (by exact ⟨Nat.zero_le _,aw.H7 _,Xn,Xc,XD⟩) ?_
 rintro ⟨M,bl,jb,ml,mb,lk,fv,fw,cj,ck,cr,ct,d1,d2,d3,d4,iM,jc,jd,jU,i⟩ a w ba ab U
 subst aZ;(try dsimp only at ba);(try dsimp only at ab);(try dsimp only [List.set_cons_zero,List.set_cons_succ] at U)
 obtain ⟨eu,tn,L1,LV,L2⟩:=ba
 replace U:=yJ U
 have aj0:=tn.len
 refine ax fun e1 cF=>aB ab U (ai rfl<|ai rfl<|ag (dL zy yw rfl)<|ag (cK rfl rfl)<|ah) fun a w ab U=>b9 ab rfl (fun bs=>?_) (fun bs=>?_)
 ·obtain ⟨ada,Zk,Y7,Zh⟩:=aw.afX yw (k:=(i:Int).toNat) (by omega)
  refine wp_skip<|cF _ _<|ax fun hE dS=>wp_block ?_
  refine a8 fun gQ dz=>aE ab U (ai rfl<|ai rfl<|ag (dG zy gU yw rfl rfl (by omega))<|l7 rfl (aw.adI gU yw (.inr (by simp)) Zk rfl rfl (by omega))<|ah) fun a w ab U=>aH ab U rfl (dy VT rfl (List.Perm.refl _) (by exact (Uh _ _ _ C3 M (q.getD (i:Int).toNat aw.l6).k (q.getD (i:Int).toNat aw.l6).n (q.getD (i:Int).toNat aw.l6).la (q.getD (i:Int).toNat aw.l6).ky (q.getD (i:Int).toNat aw.l6).vl (q.getD (i:Int).toNat aw.l6).ps ada Y7 _ _ _ Zh (.inr (by simp)) hj dF tn L1 LV L2 (bl:=bl) (ml:=ml) (lk:=lk) (fv:=fv) (fw:=fw)))) ?_
  rintro _ _ _ a w ⟨_,_,rfl,rfl,⟨rfl,rfl,S6,aan,abN,abx,aa6,WJ,WL,ad9,aec,aef,aei,agI,agK,agN,agP,acJ,acS,acU,acX,rfl,Xt,Xf,XH⟩⟩ ab U
  replace U:=yJ U
  refine aE ab U (ag (fC rfl)<|ah) fun a w ab U=>wpList_nil (dz _ _ ?_)
  refine cX ab rfl (fun h=>absurd h (by simp)) (fun _=>?_)
  refine wp_skip<|dS _ _<|bq ab U (ai rfl<|bX rfl rfl<|ar rfl<|ah) fun a w ab U=>⟨((aw.mZ M ⟨(q.getD (i:Int).toNat aw.l6).k,(q.getD (i:Int).toNat aw.l6).n,(q.getD (i:Int).toNat aw.l6).la,(q.getD (i:Int).toNat aw.l6).ky,(q.getD (i:Int).toNat aw.l6).vl,(q.getD (i:Int).toNat aw.l6).ps⟩),S6,aan,abN,abx,aa6,WJ,WL,ad9,aec,aef,aei,agI,agK,agN,agP,acJ,acS,acU,acX,i+1),?_,?_,ab.sub ⟨rfl,rfl,rfl,rfl,trivial⟩,?_⟩
  ·(try dsimp only);omega
  ·exact ⟨by omega,aw.Ui tn,Xt,Xf,XH⟩
  ·dsimp only [List.set_cons_zero,List.set_cons_succ];exact U
 ·refine wp_exit<|cz _ _<|ax fun iE eO=>h2 2 mixed aA ab U (ag (fW gP 0 rfl rfl aI rfl)<|ag (bQ Wc rfl (fun w U=>SF _ _ _ _ _ _ _ _ _ _ _ tn w (kj U 0 rfl) (kj U 1 rfl) (kI (hl:=aw.jP) (h1:=aw.j5) (U.own _ (List.mem_of_getElem? (i:=2) rfl)).1 rfl (by first | omega | (simp;done)) (aw.pH tn)) (kj U 11 rfl) (kI (hl:=aw.jP) (h1:=aw.j5) (U.own _ (List.mem_of_getElem? (i:=12) rfl)).1 rfl (by first | omega | (simp;done)) (aw.pH tn)) (U.ext _ _ hj) (U.ext _ _ dF)) (fun _ _ _ h=>h))<|ah) fun a w ab U=>aH ab U rfl (cA gP 19 rfl rfl rfl rfl aI (bn rfl (bn rfl (bn rfl dC))) aI) ?_
  rintro _ _ _ a w ⟨rfl,rfl,rfl⟩ ab U
  replace U:=yJ U
  refine aE ab U (ar rfl<|ah) fun a w ab U=>wpList_nil (eO _ _ ?_)
  refine wp_ret ?_
  replace U:=(((((((((U.perm (.swap _ _ _)).perm hF).perm j1).perm kr).perm oI).perm py).perm qh).perm qi).perm w8).perm w9
  replace U:=U.perm (.cons _ (.cons _ (.cons _ (.cons _ (.cons _ (.cons _ (.cons _ (.cons _ (.cons _ (.cons _ (.swap _ _ _)))))))))))
  replace U:=U.perm (.cons _ (.cons _ (.cons _ (.cons _ (.cons _ (.cons _ (.cons _ (.cons _ (.cons _ (.cons _ (.cons _ (.swap _ _ _))))))))))))
  replace U:=U.perm (.cons _ (.cons _ (.cons _ (.cons _ (.cons _ (.cons _ (.cons _ (.cons _ (.cons _ (.cons _ (.cons _ (.cons _ (.swap _ _ _)))))))))))))
  replace U:=U.perm (.cons _ (.cons _ (.cons _ (.cons _ (.cons _ (.cons _ (.cons _ (.cons _ (.cons _ (.cons _ (.cons _ (.cons _ (.cons _ (.swap _ _ _))))))))))))))
  replace U:=U.perm (.cons _ (.cons _ (.cons _ (.cons _ (.cons _ (.cons _ (.cons _ (.cons _ (.cons _ (.cons _ (.cons _ (.cons _ (.cons _ (.cons _ (.swap _ _ _)))))))))))))))
  replace U:=U.perm (.cons _ (.cons _ (.cons _ (.cons _ (.cons _ (.cons _ (.cons _ (.cons _ (.cons _ (.cons _ (.cons _ (.cons _ (.cons _ (.cons _ (.cons _ (.swap _ _ _))))))))))))))))
  replace U:=U.perm (.cons _ (.cons _ (.cons _ (.cons _ (.cons _ (.cons _ (.cons _ (.cons _ (.cons _ (.cons _ (.cons _ (.cons _ (.cons _ (.cons _ (.cons _ (.cons _ (.swap _ _ _)))))))))))))))))
  replace U:=U.perm (.cons _ (.cons _ (.cons _ (.cons _ (.cons _ (.cons _ (.cons _ (.cons _ (.cons _ (.cons _ (.cons _ (.cons _ (.cons _ (.cons _ (.cons _ (.cons _ (.cons _ (.swap _ _ _))))))))))))))))))
  exact bR (rs:=[.cell 6 82,.tmp 7]) rfl ab U (vs:=[_,_]) ⟨⟨_,_,_,_,_,_,_,rfl,List.mem_of_getElem? (i:=19) rfl,gP,.inl ⟨rfl,aI,rfl⟩⟩,rfl,trivial⟩ ay (ay.k.k.k.k.k.k.k.k.k.k.k.k.k.k.k.k.k.k) ⟨M,tn,rfl,Al,Bj,C3,_,_,_,_,_,_,_,_,_,_,_,_,_,_,_,_,_,_,_,rfl,rfl,L1,LV,L2⟩
end
section
theorem VS:bU Tryz.prog 44:=bY Tryz.func44
attribute [local irreducible] aF.int aF.bytes aF.getInt aF.ef aK.sum aj.eW aj.aT aj.cU aj.bh aj.c8 aj.fX aj.app aj.eo aw.dec aw.enc ao.new ao.hp ao.hz ao.gN ao.k7 aw.add aw.taken aw.BP aw.ua aw.dN aw.keys bo.mK aw.ia aw.mZ aw.keyOf
theorem Q5(tick:Int)(w:World):ch Tryz.prog 73 [.pointer none,az tick] w (fun r _ _=>r=.slice none 0 0):=by
 refine cI Tryz.func73 rfl Tryz.ntmps73 (Nat.le_of_ble_eq_true rfl) fun a ab U=>a8 fun dW cR=>aH ab U rfl (m0 rfl rfl) ?_
 rintro _ _ _ a w ⟨b6,rfl,rfl,rfl⟩ ab U
 refine aH ab U rfl (m0 rfl rfl) ?_
 rintro _ _ _ a w ⟨dk,rfl,rfl,rfl⟩ ab U
 refine aE ab U (ar rfl<|ah) fun a w ab U=>wpList_nil (cR _ _ ?_)
 refine ax fun cm bD=>aB ab U (ag (bc hD 1 rfl rfl rfl rfl)<|ag (ui hD rfl rfl)<|ah) fun a w ab U=>cX ab rfl (fun _=>?_) (fun h=>absurd h (by simp))
 refine aB ab U (ar rfl<|ah) fun a w ab U=>wp_ret ?_
 exact bR (rs:=[.tmp 4]) rfl ab U (vs:=[_]) ⟨rfl,trivial⟩ ay ay (rfl)
theorem TE(w:World):ch Tryz.prog 33 [.pointer none] w (fun r _ _=>r=az 0):=by
 refine cI Tryz.func33 rfl Tryz.ntmps33 (Nat.le_of_ble_eq_true rfl) fun a ab U=>aB ab U (ar rfl<|ah) fun a w ab U=>ax fun cm bD=>aB ab U (ai rfl<|ag (ui hD rfl rfl)<|ai rfl<|h3 5 rfl rfl rfl rfl<|h3 5 rfl rfl rfl rfl<|h3 5 rfl rfl rfl rfl<|h3 5 rfl rfl rfl rfl<|h3 5 rfl rfl rfl rfl<|h3 5 rfl rfl rfl rfl<|ag (iN rfl rfl)<|ah) fun a w ab U=>cX ab rfl (fun _=>?_) (fun h=>absurd h (by simp))
 refine aB ab U (ar rfl<|ah) fun a w ab U=>wp_ret ?_
 exact bR (rs:=[.tmp 2]) rfl ab U (vs:=[_]) ⟨rfl,trivial⟩ ay ay (rfl)
theorem UR(w:World):ch Tryz.prog 26 [.pointer none] w (fun r _ _=>r=.slice none 0 0):=by
 refine cI Tryz.func26 rfl Tryz.ntmps26 (Nat.le_of_ble_eq_true rfl) fun a ab U=>aB ab U (ar rfl<|ah) fun a w ab U=>ax fun cm bD=>aB ab U (ai rfl<|ag (ui hD rfl rfl)<|ah) fun a w ab U=>cX ab rfl (fun _=>?_) (fun h=>absurd h (by simp))
 refine aB ab U (ar rfl<|ah) fun a w ab U=>wp_ret ?_
 exact bR (rs:=[.tmp 2]) rfl ab U (vs:=[_]) ⟨rfl,trivial⟩ ay ay (rfl)
theorem SR(tick:Int)(key:List UInt8)(w:World):ch Tryz.prog 38 [.pointer none,az tick,vs key] w (fun r _ _=>r=.tuple [vs [],.bool false].toArray):=by
 refine cI Tryz.func38 rfl Tryz.ntmps38 (Nat.le_of_ble_eq_true rfl) fun a ab U=>aB ab U (ar rfl<|ar rfl<|ah) fun a w ab U=>aB ab U (ai rfl<|ai rfl<|ag (bQ AT rfl (fun w U=>Q5 _ w ) (fun _ _ _ h=>h))<|ai rfl<|ai rfl<|ag (bQ K7 rfl (fun w U=>Nf _ [] _ _ w Qv) (fun _ _ _ h=>h))<|ag (cE rfl rfl)<|ag (cE rfl rfl)<|ar rfl<|ar rfl<|ah) fun a w ab U=>wp_ret ?_
 exact bR (rs:=[.tmp 6,.tmp 7]) rfl ab U (vs:=[_,_]) ⟨rfl,rfl,trivial⟩ ay ay (by rw [show aw.dN [] tick key=([],false) from by unfold aw.dN;rfl])
theorem acE(w:World):ch Tryz.prog 31 [.pointer none] w (fun r _ _=>r=.tuple [.pointer none,az 1].toArray):=by
 refine cI Tryz.func31 rfl Tryz.ntmps31 (Nat.le_of_ble_eq_true rfl) fun a ab U=>aB ab U (ar rfl<|ar rfl<|ah) fun a w ab U=>ax fun cm bD=>aB ab U (ai rfl<|ag (ui nQ rfl rfl)<|ah) fun a w ab U=>cX ab rfl (fun _=>?_) (fun h=>absurd h (by simp))
 refine aB ab U (ar rfl<|ar rfl<|ah) fun a w ab U=>wp_ret ?_
 exact bR (rs:=[.tmp 2,.tmp 3]) rfl ab U (vs:=[_,_]) ⟨rfl,rfl,trivial⟩ ay ay (rfl)
theorem SB(f:aw.bO)(w:World):ch Tryz.prog 36 [.pointer none,.agg [az f.tk,vs f.ky,vs f.vl].toArray] w (fun r _ _=>r=az 1):=by
 refine cI Tryz.func36 rfl Tryz.ntmps36 (Nat.le_of_ble_eq_true rfl) fun a ab U=>a8 fun dW cR=>aH ab U rfl (iT (cs:=[az f.tk,vs f.ky,vs f.vl]) rfl) ?_
 rintro _ _ _ a w ⟨b6,rfl,rfl,rfl⟩ ab U
 refine aE ab U (ar rfl<|ah) fun a w ab U=>wpList_nil (cR _ _ ?_)
 refine ax fun cm bD=>aB ab U (ai rfl<|ag (ui hD rfl rfl)<|ah) fun a w ab U=>cX ab rfl (fun _=>?_) (fun h=>absurd h (by simp))
 refine aB ab U (ar rfl<|ah) fun a w ab U=>wp_ret ?_
 exact bR (rs:=[.tmp 4]) rfl ab U (vs:=[_]) ⟨rfl,trivial⟩ ay ay (rfl)
theorem aeQ(tick:Int)(w:World):ch Tryz.prog 34 [.pointer none,az tick] w (fun r _ _=>r=.agg (((List.replicate 16 0)).map bf).toArray):=by
 refine cI Tryz.func34 rfl Tryz.ntmps34 (Nat.le_of_ble_eq_true rfl) fun a ab U=>a8 fun dW cR=>aH ab U rfl (c1 cW) ?_
 rintro _ _ _ a w ⟨b6,rfl,rfl,rfl⟩ ab U
 rw [show List.replicate 16 (Value.int .u8 0)=(List.replicate 16 (0:UInt8)).map bf from by rw [List.map_replicate] <;> rfl] at U
 refine wpList_nil (cR _ _ ?_)
 refine ax fun cm bD=>aB ab U (ai rfl<|ag (ui hD rfl rfl)<|ah) fun a w ab U=>cX ab rfl (fun _=>?_) (fun h=>absurd h (by simp))
 refine a8 fun dP cq=>aE ab U (ag (oo rfl (q1 cW bF rfl))<|ah) fun a w ab U=>aH ab U rfl (cA cW 0 rfl rfl rfl rfl aI bJ aI) ?_
 rintro _ _ _ a w ⟨rfl,rfl,rfl⟩ ab U
 replace U:=eJ U
 refine wpList_nil (cq _ _ ?_)
 refine wp_ret<|bR (rs:=[.cell 4 62]) rfl ab U (vs:=[_]) ⟨⟨_,_,_,_,_,_,_,rfl,List.mem_of_getElem? (i:=0) rfl,cW,.inl ⟨rfl,aI,rfl⟩⟩,trivial⟩ ay ay (by rw [List.map_replicate];rfl)
theorem aaS(tick:Int)(w:World):ch Tryz.prog 69 [.pointer none,az tick] w (fun r zs hs=>∃ bm es ec,r=.map (some bm)∧zs=[]∧hs=[.mp bm es ec]∧j0 vs ([]:List (List UInt8×Value)) es ec):=by
 refine cI Tryz.func69 rfl Tryz.ntmps69 (Nat.le_of_ble_eq_true rfl) fun a ab U=>aB ab U (ar rfl<|ah) fun a w ab U=>a8 fun cm bD=>aH ab U rfl (AE) ?_
 rintro _ _ _ a w ⟨b6,rfl,rfl,rfl⟩ ab U
 replace U:=eJ U
 refine aE ab U (ar rfl<|ah) fun a w ab U=>wpList_nil (bD _ _ ?_)
 refine ax fun dH cf=>aB ab U (ai rfl<|ai rfl<|ag (bQ AT rfl (fun w U=>Q5 _ w ) (fun _ _ _ h=>h))<|ag (Hh dv rfl)<|ai rfl<|ah) fun a w ab U=>wp_block ?_
 obtain ⟨bC,aZ,U⟩:=U.cT
 refine df (γ:=Nat) (0) (fun (k:Nat)=>[(13,az (k:Int))]) [(5,_),(11,_),(12,_)] (fun (k:Nat)=>bC) (fun (k:Nat)=>k=0) (fun (k:Nat)=>0) (ab.sub ⟨rfl,rfl,rfl,rfl,trivial⟩) (by subst aZ;exact U) (by rfl) ?_
 rintro k a w ba ab U
 subst aZ;(try dsimp only at ba ab U)
 have kD:=ba
 replace U:=eJ U
 refine aB ab U (ag (cK rfl rfl)<|ah) fun a w ab U=>ax fun et cz=>b9 ab rfl (fun aS=>?_) (fun aS=>?_)
 ·exfalso
  subst kD
  exact absurd aS (by decide)
 ·refine wp_exit<|cf _ _<|aB ab U (ai rfl<|ar rfl<|ah) fun a w ab U=>wp_ret ?_
  exact bR (rs:=[.tmp 4]) rfl ab U (vs:=[_]) ⟨rfl,trivial⟩ ay ae ⟨_,_,_,rfl,rfl,rfl,j0.nil⟩
theorem aaG(tick:Int)(w:World):ch Tryz.prog 35 [.pointer none,az tick] w (fun r zs hs=>zs=[]∧hs=[.row r 9 1 0 []]):=by
 refine cI Tryz.func35 rfl Tryz.ntmps35 (Nat.le_of_ble_eq_true rfl) fun a ab U=>aB ab U (ar rfl<|ah) fun a w ab U=>a8 fun cm bD=>aE ab U (ai rfl<|ai rfl<|ah) fun a w ab U=>aH ab U rfl (eB EG rfl (fun w U=>aaS _ w )) ?_
 rintro _ _ _ a w ⟨_,_,rfl,rfl,⟨DV,UQ,Ux,rfl,rfl,rfl,XF⟩⟩ ab U
 replace U:=eJ U
 refine aH ab U rfl (eB EI rfl (fun w U=>GB _ w )) ?_
 rintro _ _ _ a w ⟨_,_,rfl,rfl,⟨Tm,rfl,rfl,rfl⟩⟩ ab U
 replace U:=eK U
 refine aH ab U rfl (dy EH rfl (List.Perm.refl _) (by exact (HY (l:=[]) (by assumption) List.nodup_nil (fun i aG=>absurd aG (List.not_mem_nil)) (by decide) _ _  (b:=DV)))) ?_
 rintro sz _ _ a w ⟨_,_,rfl,rfl,⟨rfl,rfl⟩⟩ ab U
 replace U:=ez U
 refine aE ab U (ar rfl<|ah) fun a w ab U=>wpList_nil (bD _ _ ?_)
 refine wp_ret<|bR (rs:=[.tmp 4]) rfl ab U (vs:=[_]) ⟨rfl,trivial⟩ ay (ay.k) ⟨rfl,by rw [List.map_nil,List.mergeSort_nil];rfl⟩
theorem abc(v:Value)(l:List Int)(sec:Int)(vG : -9223372036854775808≤sec∧sec≤9223372036854775807)(w:World)(au:bg Go.aJ.encI (b1 w) v l){dK:Nat×Nat}{dJ:TypeId}(hj:w.heap[0]?=some (.cells (aK.ek.map cx).toArray dJ dK)){fU:Nat×Nat}{fT:TypeId}(dF:w.heap[1]?=some (.cells (aK.ek.map cx).toArray fT fU)):ch Tryz.prog 8 [v,az sec] w (fun r _ _=>r=.bool true):=by
 refine cI Tryz.func8 rfl Tryz.ntmps8 (Nat.le_of_ble_eq_true rfl) fun a ab U=>?_
 have cZ:=au.1
 refine aB ab U (ar rfl<|ah) fun a w ab U=>a8 fun cm bD=>aE ab U (ai rfl<|ai rfl<|ah) fun a w ab U=>aH ab U rfl (eB VS rfl (fun w U=>ac6 _ _ _ _ vG (by decide) w (bg.mono (U.le cD) au) (U.ext _ _ hj) (U.ext _ _ dF))) ?_
 rintro _ _ _ a w ⟨_,_,rfl,rfl,⟨M2,ajw,rfl,aiC,aj2,aoj,aiI,alI,alR,alO,alN,aja,ajg,Cq,Cr,Cs,Ct,ani,anu,anH,anU,alZ,al1,al2,al3,rfl,rfl,LZ,A1,ajx⟩⟩ ab U
 replace U:aC _ [] [_,_,_,_,_,_,_,_,_,_,_,_,_,_,_,_,_,_] _:=U
 refine aE ab U (ai rfl<|ag (cE rfl rfl)<|ag (cE rfl rfl)<|ah) fun a w ab U=>aH ab U rfl (c1 gP) ?_
 rintro _ _ _ a w ⟨aiz,rfl,rfl,rfl⟩ ab U
 refine aH ab U rfl (cA gP 0 rfl rfl rfl rfl aI (bn rfl (bn rfl (bn rfl dC))) aI) ?_
 rintro _ _ _ a w ⟨rfl,rfl,rfl⟩ ab U
 replace U:aC _ [] [_,_,_,_,_,_,_,_,_,_,_,_,_,_,_,_,_,_,_] _:=U
 refine aE ab U (ar rfl<|ah) fun a w ab U=>wpList_nil (bD _ _ ?_)
 refine aB ab U (ar rfl<|ah) fun a w ab U=>aB ab U (ai rfl<|ag (bQ ve rfl (fun w U=>SR _ _ w ) (fun _ _ _ h=>h))<|ai rfl<|ag (cE rfl rfl)<|ag (cE rfl rfl)<|ar rfl<|ar rfl<|ah) fun a w ab U=>aB ab U (ag (bQ xG rfl (fun w U=>acE w ) (fun _ _ _ h=>h))<|ai rfl<|ag (cE rfl rfl)<|ag (cE rfl rfl)<|ar rfl<|ar rfl<|ah) fun a w ab U=>a8 fun et cz=>aE ab U (ai rfl<|ag (bQ AQ rfl (fun w U=>UR w ) (fun _ _ _ h=>h))<|ag (Hh dv rfl)<|ag (l0 (fc rfl rfl) (by simp))<|ai rfl<|aN 32 rfl rfl rfl (bE rfl)<|ah) fun a w ab U=>?_
 refine wQ ab U (hg 32 rfl rfl) rfl (eB EC rfl (fun w U=>aaG _ w )) ?_
 rintro an6 _ _ a w ⟨_,_,rfl,rfl,⟨rfl,rfl⟩⟩ ab U
 replace U:aC _ [] [_,_,_,_,_,_,_,_,_,_,_,_,_,_,_,_,_,_,_,_] _:=U
 refine aE ab U (aN 32 rfl rfl rfl (hX cl 0 rfl rfl)<|aN 32 rfl rfl rfl (l0 (fc rfl rfl) (by simp))<|ag (iN rfl rfl)<|ai rfl<|aN 38 rfl rfl rfl (bE rfl)<|aN 38 rfl rfl rfl (bQ xH rfl (fun w U=>TE w ) (fun _ _ _ h=>h))<|aN 38 rfl rfl rfl (l0 (fc rfl rfl) (by simp))<|ag (iN rfl rfl)<|ai rfl<|aN 43 rfl rfl rfl (bE rfl)<|aN 43 rfl rfl rfl (bQ Lb rfl (fun w U=>aeQ _ w ) (fun _ _ _ h=>h))<|aN 43 rfl rfl rfl (oo rfl (q1 cW bF rfl))<|aN 43 rfl rfl rfl (l0 (OK (xs:=List.replicate 16 0) (ys:=List.replicate 16 0) cW bF aA rfl (by rw [List.map_replicate];rfl) rfl rfl) (by simp))<|ag (iN rfl rfl)<|ai rfl<|aN 49 rfl rfl rfl (bE rfl)<|aN 49 rfl rfl rfl (fC rfl)<|ag (iN rfl rfl)<|ar rfl<|ah) fun a w ab U=>wpList_nil (cz _ _ ?_)
 refine aB ab U (ai rfl<|ai rfl<|aN 54 rfl rfl rfl (bE rfl)<|ag (iN rfl rfl)<|ai rfl<|aN 57 rfl rfl rfl (bE rfl)<|aN 57 rfl rfl rfl (l0 (fc rfl rfl) (by simp))<|ag (iN rfl rfl)<|ai rfl<|aN 61 rfl rfl rfl (bE rfl)<|aN 61 rfl rfl rfl (hc (places:=[(0,1),(1,1),(2,1)]) (cells:=[.int .i64 0,_,.string ⟨(List.nil:List UInt8).toArray⟩]) b2 aA rfl (by rfl))<|aN 61 rfl rfl rfl (bQ vd rfl (fun w U=>SB ⟨0,[97],[]⟩ w ) (fun _ _ _ h=>h))<|aN 61 rfl rfl rfl (l0 (fc rfl rfl) (by simp))<|ag (iN rfl rfl)<|ai rfl<|aN 67 rfl rfl rfl (bQ VO rfl (fun w U=>aa4 w (U.ext _ _ dF)) (fun _ _ _ h=>h))<|ag (iN rfl rfl)<|ar rfl<|ah) fun a w ab U=>wp_ret ?_
 exact bR (rs:=[.tmp 4]) rfl ab U (vs:=[_]) ⟨rfl,trivial⟩ ay ay (rfl)
end
end Go.Proofs.YtngcjojijaknnaaGreatDoor
