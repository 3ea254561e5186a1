/- walks and plain laws -/
import Derived.Test.YtngcjojijaknnaaGreatDoorFwA
import Derived.Test.YtngcjojijaknnaaGreatDoorLgA
import Derived.Test.YtngcjojijaknnaaGreatDoorC3
import Derived.Test.YtngcjojijaknnaaGreatDoorFwD
import Derived.Test.YtngcjojijaknnaaGreatDoorFwB
set_option linter.all false
namespace Go.Proofs.YtngcjojijaknnaaGreatDoor
open Go.aK
set_option maxRecDepth 4000
set_option maxHeartbeats 2000000
section
theorem hv : ba Tryz.prog 88 (.struct #[⟨ "Kind", 3, 0, false, "", "", 0⟩, ⟨ "N", 3, 1, false, "", "", 8⟩, ⟨ "Later", 3, 2, false, "", "", 16⟩, ⟨ "Key", 9, 3, false, "", "", 24⟩, ⟨ "Value", 9, 4, false, "", "", 40⟩, ⟨ "Picks", 22, 5, false, "", "", 56⟩]) 6 80 (.agg ([Value.int .i64 0, Value.int .i64 0, Value.int .i64 0] ++ [Value.string ⟨(List.nil : List UInt8).toArray⟩, Value.string ⟨(List.nil : List UInt8).toArray⟩] ++ [Value.slice none 0 0]).toArray) := ⟨Tryz.underlying88, by kernel_rfl⟩
theorem AY:ba Tryz.prog 157 (.slice 88) 1 24 (Value.slice none 0 0):=⟨Tryz.underlying157,by kernel_rfl⟩
attribute [local irreducible] cN.fl au.keyOf
theorem ahG(v:Value)(l:List Int)(most:Int)(hm:0≤most∧most≤16)(w:World)(aw:bo Go.aK.encI (cf w) v l):cC Tryz.prog 81 [v,aA most] w (fun r zs hs=>∃ (q:List au.jc) (z:aR),zs=[z]∧hs=[]∧bo au.wz z r q∧q.length≤16):=by
 refine c4 Tryz.func81 rfl Tryz.ntmps81 b4 fun a ab U=>?_
 have c6:=aw.1
 refine aD ab U (av rfl<|ah) fun a w ab U=>ax fun cG bJ=>bx ab U (av rfl<|ah) fun a w ab U=>?_
 replace U:=U.iC 88 6
 refine bJ _ _<|ax fun dX cq=>aD ab U (av rfl<|ah) fun a w ab U=>wp_block ?_
 obtain ⟨bG,a6,U⟩:=U.c1
 obtain ⟨aj0,ace,U⟩:=U.aeR
 replace U:=U.ajZ
 refine ajC (γ:=Value×aR×List (au.jc×Value)×Nat) ((Value.slice none 0 0),fun _=>none,[],0) (fun (u,z,ts,i)=>z::aj0) (fun (u,z,ts,i)=>[(5,u),(6,aA (i:Int))]) [(0,_),(1,_)] (fun (u,z,ts,i)=>(bG.set 0 (.row u 88 6 ts.length (ts.flatMap au.qV)))) (fun (u,z,ts,i)=>(i≤16∧ts.length=i)∧au.si z ts) (fun (u,z,ts,i)=>16-i) (ab.sub ⟨rfl,rfl,rfl,rfl,trivial⟩) (by subst a6;exact U) (by exact ⟨⟨Nat.zero_le _,rfl⟩,au.si.nil⟩) ?_
 rintro ⟨u,z,ts,i⟩ a w bh ab U
 subst a6;subst ace;(try dsimp only at bh ab U)
 obtain ⟨⟨eL,pT⟩,qy⟩:=bh
 replace U:aB _ [_] [_] _:=U
 refine ax fun dL b9=>bc fun eN cK=>aG ab U (ai rfl<|ae (hK rfl rfl ag)<|b5 rfl rfl<|ai rfl<|ae (ee dm aw rfl)<|ae (cU rfl rfl)<|ai rfl<|ah) fun a w ab U=>j3 6 15 3 ab U rfl rfl rfl rfl rfl (fun aP=>have aP:=(by first | exact of_decide_eq_true aP | exact aP);aO 15 rfl rfl rfl (bE rfl)<|aO 15 rfl rfl rfl (bE rfl)<|aO 15 rfl rfl rfl (cU rfl rfl)<|ah) rfl rfl fun a w ab U=>?_
 refine wpList_nil (cK _ _ ?_)
 refine df ab rfl (fun aU=>?_) (fun aU=>?_)
 ·(try simp only [dj] at aU)
  have amD : -9223372036854775808≤l.getD (4*(i:Int)).toNat 0∧l.getD (4*(i:Int)).toNat 0≤9223372036854775807:=xR aw _ (jm ag)
  have amE : -9223372036854775808≤l.getD (4*(i:Int)+1).toNat 0∧l.getD (4*(i:Int)+1).toNat 0≤9223372036854775807:=xR aw _ (jm ag)
  have amF : -9223372036854775808≤l.getD (4*(i:Int)+2).toNat 0∧l.getD (4*(i:Int)+2).toNat 0≤9223372036854775807:=xR aw _ (jm ag)
  have amG : -9223372036854775808≤l.getD (4*(i:Int)+3).toNat 0∧l.getD (4*(i:Int)+3).toNat 0≤9223372036854775807:=xR aw _ (jm ag)
  have abz:=cN.qj (n:=(l.getD (4*(i:Int)).toNat 0)) (m:=10) a8
  have abA:=cN.qj (n:=(l.getD (4*(i:Int)+1).toNat 0)) (m:=24) a8
  have abB:=cN.qj (n:=(l.getD (4*(i:Int)+2).toNat 0)) (m:=5) a8
  refine wp_skip<|b9 _ _<|ax fun fa cT=>wp_block ?_
  refine ax fun fk cP=>?_
  revert U;revert ab;apply hL (J:=ki (α0:=Nat) 70 _ _ _ _ _) #[false,false,false,false,false,false,false,false,false,false,false,false,false,false,false,false,false,false,false,false,false,false,false,false] 24 mixed rfl rfl
  ·intro w ab U
   refine aS 0 rfl ab (U.ao al ay) (bE rfl) fun a ab=>aS 1 rfl ab (U.ao al ay) (bE rfl) fun a ab=>aS 2 rfl ab (U.ao al ay) (hK rfl rfl ag) fun a ab=>aS 3 rfl ab (U.ao al ay) (dV dm bH aw rfl rfl ag) fun a ab=>aS 4 rfl ab (U.ao al ay) (tz bH aw cM rfl rfl ag) fun a ab=>?_
   refine aS 6 rfl ab (U.ao al ay) (bE rfl) fun a ab=>aS 7 rfl ab (U.ao al ay) (bE rfl) fun a ab=>aS 8 rfl ab (U.ao al ay) (hK rfl rfl ag) fun a ab=>aS 9 rfl ab (U.ao al ay) (o4 rfl rfl ag) fun a ab=>aS 10 rfl ab (U.ao al ay) (dV dm bH aw rfl rfl ag) fun a ab=>?_
   refine aS 11 rfl ab (U.ao al ay) (tz bH aw cM rfl rfl ag) fun a ab=>aS 13 rfl ab (U.ao al ay) (bE rfl) fun a ab=>aS 14 rfl ab (U.ao al ay) (bE rfl) fun a ab=>aS 15 rfl ab (U.ao al ay) (hK rfl rfl ag) fun a ab=>aS 16 rfl ab (U.ao al ay) (o4 rfl rfl ag) fun a ab=>?_
   refine aS 17 rfl ab (U.ao al ay) (dV dm bH aw rfl rfl ag) fun a ab=>aS 18 rfl ab (U.ao al ay) (tz bH aw cM rfl rfl ag) fun a ab=>fB [5,22] az rfl ⟨?_,?_,trivial⟩
   ·refine dW _ rfl rfl ab U rfl (eC (bV mC rfl (fun w U=>mz _ _ ag ag w ) bP)) ?_
    rintro _ _ _ a w ⟨rfl,rfl,rfl⟩ ab U
    refine ⟨⟨.inr (U.ao al ay),.inr (U.ao al ay),.inr (U.ao al ay),.inr (U.ao al ay),.inr (U.ao al ay),.inr (U.ao al ay),.inr (U.ao al ay),.inr (U.ao al ay),.inr (U.ao al ay),.inr (U.ao al ay),.inr (U.ao al ay),.inr (U.ao al ay),aq,aq,.inr (U.ao al ay),.inr (U.ao al ay),.inr (U.ao al ay),trivial⟩,?_⟩
    refine fB [12,22] az rfl ⟨?_,?_,trivial⟩
    ·refine dW _ rfl rfl ab U rfl (eC (bV mC rfl (fun w U=>mz _ _ ag ag w ) bP)) ?_
     rintro _ _ _ a w ⟨rfl,rfl,rfl⟩ ab U
     refine ⟨⟨.inr (U.ao al ay),.inr (U.ao al ay),.inr (U.ao al ay),.inr (U.ao al ay),.inr (U.ao al ay),.inr (U.ao al ay),aq,aq,.inr (U.ao al ay),.inr (U.ao al ay),.inr (U.ao al ay),.inr (U.ao al ay),aq,aq,.inr (U.ao al ay),.inr (U.ao al ay),.inr (U.ao al ay),trivial⟩,?_⟩
     refine fB [19,22] az rfl ⟨?_,?_,trivial⟩
     ·refine dW _ rfl rfl ab U rfl (eC (bV mC rfl (fun w U=>mz _ _ ag ag w ) bP)) ?_
      rintro _ _ _ a w ⟨rfl,rfl,rfl⟩ ab U
      refine ⟨⟨aq,aq,.inr (U.ao al ay),.inr (U.ao al ay),.inr (U.ao al ay),.inr (U.ao al ay),aq,aq,.inr (U.ao al ay),.inr (U.ao al ay),.inr (U.ao al ay),.inr (U.ao al ay),aq,aq,.inr (U.ao al ay),.inr (U.ao al ay),.inr (U.ao al ay),trivial⟩,?_⟩
      refine aS 20 rfl ab (U.ao al ay) (nN rfl rfl ag) fun a ab=>aS 21 rfl ab (U.ao al ay) (hJ (places:=[(0,1),(1,1),(2,1),(3,1),(4,1),(5,1)]) (cells:=[_,_,_,.string ⟨(List.nil:List UInt8).toArray⟩,.string ⟨(List.nil:List UInt8).toArray⟩,.slice none 0 0]) hv az rfl (by rfl)) fun a ab=>bY 22 rfl rfl ab U rfl (dg hv) ?_
      rintro _ _ _ a w ⟨sr,rfl,rfl,rfl⟩ ab U
      refine ⟨⟨.inr (U.ao al ay),.inr (U.ao al ay),aq,aq,.inr (U.ao al ay),.inr (U.ao al ay),.inr (U.ao al ay),.inr (U.ao al ay),aq,aq,.inr (U.ao al ay),.inr (U.ao al ay),.inr (U.ao al ay),.inr (U.ao al ay),aq,aq,.inr (U.ao al ay),.inr (U.ao al ay),.inr (U.ao al ay),trivial⟩,?_⟩
      refine bY 23 rfl rfl ab U rfl (cJ hv 0 rfl rfl rfl rfl aI (bp rfl (bp rfl (bp rfl (bp rfl (bp rfl (bp rfl dO)))))) aI) ?_
      rintro _ _ _ a w ⟨rfl,rfl,rfl⟩ ab U
      refine ⟨⟨aq,aq,aq,aq,aq,aq,aq,aq,aq,aq,aq,aq,aq,aq,aq,aq,aq,aq,aq,trivial⟩,?_⟩
      exact ev az (l6 sr (trivial) (ab.sub (L':=[(0,_),(1,_),(5,_),(6,_),(7,_)]) ⟨rfl,rfl,rfl,rfl,rfl,trivial⟩) U)
     ·refine dW _ rfl rfl ab U rfl (dg hv) ?_
      rintro _ _ _ a w ⟨sr,rfl,rfl,rfl⟩ ab U
      refine ⟨⟨.inr (U.ao al ay),.inr (U.ao al ay),.inr (U.ao al ay),.inr (U.ao al ay),.inr (U.ao al ay),.inr (U.ao al ay),aq,aq,.inr (U.ao al ay),.inr (U.ao al ay),.inr (U.ao al ay),.inr (U.ao al ay),aq,aq,.inr (U.ao al ay),.inr (U.ao al ay),.inr (U.ao al ay),trivial⟩,?_⟩
      refine bY 19 rfl rfl ab U rfl (eC (bV mC rfl (fun w U=>mz _ _ ag ag w ) bP)) ?_
      rintro _ _ _ a w ⟨rfl,rfl,rfl⟩ ab U
      refine ⟨⟨aq,aq,.inr (U.ao al ay),.inr (U.ao al ay),.inr (U.ao al ay),.inr (U.ao al ay),aq,aq,.inr (U.ao al ay),.inr (U.ao al ay),.inr (U.ao al ay),.inr (U.ao al ay),aq,aq,.inr (U.ao al ay),.inr (U.ao al ay),.inr (U.ao al ay),trivial⟩,?_⟩
      refine aS 20 rfl ab (U.ao al ay) (nN rfl rfl ag) fun a ab=>aS 21 rfl ab (U.ao al ay) (hJ (places:=[(0,1),(1,1),(2,1),(3,1),(4,1),(5,1)]) (cells:=[_,_,_,.string ⟨(List.nil:List UInt8).toArray⟩,.string ⟨(List.nil:List UInt8).toArray⟩,.slice none 0 0]) hv az rfl (by rfl)) fun a ab=>bY 23 rfl rfl ab U rfl (cJ hv 0 rfl rfl rfl rfl aI (bp rfl (bp rfl (bp rfl (bp rfl (bp rfl (bp rfl dO)))))) aI) ?_
      rintro _ _ _ a w ⟨rfl,rfl,rfl⟩ ab U
      refine ⟨⟨aq,aq,aq,aq,aq,aq,aq,aq,aq,aq,aq,aq,aq,aq,aq,aq,aq,aq,aq,trivial⟩,?_⟩
      exact ev az (l6 sr (trivial) (ab.sub (L':=[(0,_),(1,_),(5,_),(6,_),(7,_)]) ⟨rfl,rfl,rfl,rfl,rfl,trivial⟩) U)
    ·refine dW _ rfl rfl ab U rfl (dg hv) ?_
     rintro _ _ _ a w ⟨sr,rfl,rfl,rfl⟩ ab U
     refine ⟨⟨.inr (U.ao al ay),.inr (U.ao al ay),.inr (U.ao al ay),.inr (U.ao al ay),.inr (U.ao al ay),.inr (U.ao al ay),.inr (U.ao al ay),.inr (U.ao al ay),.inr (U.ao al ay),.inr (U.ao al ay),.inr (U.ao al ay),.inr (U.ao al ay),aq,aq,.inr (U.ao al ay),.inr (U.ao al ay),.inr (U.ao al ay),trivial⟩,?_⟩
     refine bY 12 rfl rfl ab U rfl (eC (bV mC rfl (fun w U=>mz _ _ ag ag w ) bP)) ?_
     rintro _ _ _ a w ⟨rfl,rfl,rfl⟩ ab U
     refine ⟨⟨.inr (U.ao al ay),.inr (U.ao al ay),.inr (U.ao al ay),.inr (U.ao al ay),.inr (U.ao al ay),.inr (U.ao al ay),aq,aq,.inr (U.ao al ay),.inr (U.ao al ay),.inr (U.ao al ay),.inr (U.ao al ay),aq,aq,.inr (U.ao al ay),.inr (U.ao al ay),.inr (U.ao al ay),trivial⟩,?_⟩
     refine bY 19 rfl rfl ab U rfl (eC (bV mC rfl (fun w U=>mz _ _ ag ag w ) bP)) ?_
     rintro _ _ _ a w ⟨rfl,rfl,rfl⟩ ab U
     refine ⟨⟨aq,aq,.inr (U.ao al ay),.inr (U.ao al ay),.inr (U.ao al ay),.inr (U.ao al ay),aq,aq,.inr (U.ao al ay),.inr (U.ao al ay),.inr (U.ao al ay),.inr (U.ao al ay),aq,aq,.inr (U.ao al ay),.inr (U.ao al ay),.inr (U.ao al ay),trivial⟩,?_⟩
     refine aS 20 rfl ab (U.ao al ay) (nN rfl rfl ag) fun a ab=>aS 21 rfl ab (U.ao al ay) (hJ (places:=[(0,1),(1,1),(2,1),(3,1),(4,1),(5,1)]) (cells:=[_,_,_,.string ⟨(List.nil:List UInt8).toArray⟩,.string ⟨(List.nil:List UInt8).toArray⟩,.slice none 0 0]) hv az rfl (by rfl)) fun a ab=>bY 23 rfl rfl ab U rfl (cJ hv 0 rfl rfl rfl rfl aI (bp rfl (bp rfl (bp rfl (bp rfl (bp rfl (bp rfl dO)))))) aI) ?_
     rintro _ _ _ a w ⟨rfl,rfl,rfl⟩ ab U
     refine ⟨⟨aq,aq,aq,aq,aq,aq,aq,aq,aq,aq,aq,aq,aq,aq,aq,aq,aq,aq,aq,trivial⟩,?_⟩
     exact ev az (l6 sr (trivial) (ab.sub (L':=[(0,_),(1,_),(5,_),(6,_),(7,_)]) ⟨rfl,rfl,rfl,rfl,rfl,trivial⟩) U)
   ·refine dW _ rfl rfl ab U rfl (dg hv) ?_
    rintro _ _ _ a w ⟨sr,rfl,rfl,rfl⟩ ab U
    refine ⟨⟨.inr (U.ao al ay),.inr (U.ao al ay),.inr (U.ao al ay),.inr (U.ao al ay),.inr (U.ao al ay),.inr (U.ao al ay),.inr (U.ao al ay),.inr (U.ao al ay),.inr (U.ao al ay),.inr (U.ao al ay),.inr (U.ao al ay),.inr (U.ao al ay),.inr (U.ao al ay),.inr (U.ao al ay),.inr (U.ao al ay),.inr (U.ao al ay),.inr (U.ao al ay),trivial⟩,?_⟩
    refine bY 5 rfl rfl ab U rfl (eC (bV mC rfl (fun w U=>mz _ _ ag ag w ) bP)) ?_
    rintro _ _ _ a w ⟨rfl,rfl,rfl⟩ ab U
    refine ⟨⟨.inr (U.ao al ay),.inr (U.ao al ay),.inr (U.ao al ay),.inr (U.ao al ay),.inr (U.ao al ay),.inr (U.ao al ay),.inr (U.ao al ay),.inr (U.ao al ay),.inr (U.ao al ay),.inr (U.ao al ay),.inr (U.ao al ay),.inr (U.ao al ay),aq,aq,.inr (U.ao al ay),.inr (U.ao al ay),.inr (U.ao al ay),trivial⟩,?_⟩
    refine bY 12 rfl rfl ab U rfl (eC (bV mC rfl (fun w U=>mz _ _ ag ag w ) bP)) ?_
    rintro _ _ _ a w ⟨rfl,rfl,rfl⟩ ab U
    refine ⟨⟨.inr (U.ao al ay),.inr (U.ao al ay),.inr (U.ao al ay),.inr (U.ao al ay),.inr (U.ao al ay),.inr (U.ao al ay),aq,aq,.inr (U.ao al ay),.inr (U.ao al ay),.inr (U.ao al ay),.inr (U.ao al ay),aq,aq,.inr (U.ao al ay),.inr (U.ao al ay),.inr (U.ao al ay),trivial⟩,?_⟩
    refine bY 19 rfl rfl ab U rfl (eC (bV mC rfl (fun w U=>mz _ _ ag ag w ) bP)) ?_
    rintro _ _ _ a w ⟨rfl,rfl,rfl⟩ ab U
    refine ⟨⟨aq,aq,.inr (U.ao al ay),.inr (U.ao al ay),.inr (U.ao al ay),.inr (U.ao al ay),aq,aq,.inr (U.ao al ay),.inr (U.ao al ay),.inr (U.ao al ay),.inr (U.ao al ay),aq,aq,.inr (U.ao al ay),.inr (U.ao al ay),.inr (U.ao al ay),trivial⟩,?_⟩
    refine aS 20 rfl ab (U.ao al ay) (nN rfl rfl ag) fun a ab=>aS 21 rfl ab (U.ao al ay) (hJ (places:=[(0,1),(1,1),(2,1),(3,1),(4,1),(5,1)]) (cells:=[_,_,_,.string ⟨(List.nil:List UInt8).toArray⟩,.string ⟨(List.nil:List UInt8).toArray⟩,.slice none 0 0]) hv az rfl (by rfl)) fun a ab=>bY 23 rfl rfl ab U rfl (cJ hv 0 rfl rfl rfl rfl aI (bp rfl (bp rfl (bp rfl (bp rfl (bp rfl (bp rfl dO)))))) aI) ?_
    rintro _ _ _ a w ⟨rfl,rfl,rfl⟩ ab U
    refine ⟨⟨aq,aq,aq,aq,aq,aq,aq,aq,aq,aq,aq,aq,aq,aq,aq,aq,aq,aq,aq,trivial⟩,?_⟩
    exact ev az (l6 sr (trivial) (ab.sub (L':=[(0,_),(1,_),(5,_),(6,_),(7,_)]) ⟨rfl,rfl,rfl,rfl,rfl,trivial⟩) U)
  rintro a w ⟨sr, -,ab,U⟩
  (try dsimp only at ab U)
  generalize cN.fl (l.getD (4*(i:Int)).toNat 0) 10=bZ at U ab abz
  generalize cN.fl (l.getD (4*(i:Int)+1).toNat 0) 24=cg at U ab abA
  generalize cN.fl (l.getD (4*(i:Int)+2).toNat 0) 5=c7 at U ab abB
  replace U:=lJ U
  refine cP _ _<|ax fun gB du=>bx ab U (ai rfl<|ai rfl<|ae (hK rfl rfl ag)<|b5 rfl rfl<|ae (dV dm bH aw rfl rfl ag)<|ae (tz bH aw cM rfl rfl ag)<|ae (bV mC rfl (fun w U=>mz _ _ ag ag w ) bP)<|av rfl<|ah) fun a w ab U=>?_
  have abC:=cN.qj (n:=(l.getD (4*(i:Int)+3).toNat 0)) (m:=4096) a8
  generalize cN.fl (l.getD (4*(i:Int)+3).toNat 0) 4096=c9 at U ab abC
  refine du _ _<|bc fun hU ef=>aG ab U (ai rfl<|ae (bV F3 rfl (fun w U=>Ia _ ag w ) bP)<|ae (aZ hv rfl rfl (s':=0) az)<|ah) fun a w ab U=>aJ ab U rfl (dq bB 0 rfl rfl rfl rfl (by simp)) ?_
  rintro _ _ _ a w ⟨rfl,rfl,rfl⟩ ab U
  replace U:aB _ [_] [.blk _ _ ([_,_,_,_,_,_].set 3 _),_] _:=U
  simp only [dd] at U
  replace U:=lJ U
  refine wpList_nil (ef _ _ ?_)
  refine bc fun ho dK=>aG ab U (ai rfl<|ae (ox rfl rfl ag)<|ah) fun a w ab U=>aJ ab U rfl (eT MT rfl (fun w U=>TE _ ag w )) ?_
  rintro _ _ _ a w ⟨_,_,rfl,rfl,⟨rfl,rfl,aiq,rfl,CZ⟩⟩ ab U
  replace U:=lJ U
  refine aG ab U (ae (aZ hv rfl rfl (s':=0) az)<|ah) fun a w ab U=>aJ ab U rfl (dq bB 0 rfl rfl rfl rfl (by simp)) ?_
  rintro _ _ _ a w ⟨rfl,rfl,rfl⟩ ab U
  replace U:aB _ [_] [.blk _ _ ([_,_,_,_,_,_].set 4 _),_] _:=U
  simp only [dd] at U
  replace U:=lJ U
  refine wpList_nil (dK _ _ ?_)
  refine bc fun iZ eY=>aG ab U (ai rfl<|ae (ni rfl rfl ag)<|ai rfl<|ae (ox rfl rfl ag)<|ae (ni rfl rfl ag)<|ah) fun a w ab U=>aJ ab U rfl (eu dm bH rfl rfl bM a8 rfl rfl) ?_
  rintro v5 _ _ a w ⟨rfl,rfl⟩ ab U
  replace U:=p0 U
  refine aG ab U (ae (aZ hv rfl rfl (s':=0) az)<|ah) fun a w ab U=>aJ ab U rfl (dq dm 1 rfl rfl rfl (row_one (U.dp 0 rfl)) (by simp)) ?_
  rintro _ _ _ a w ⟨rfl,rfl,rfl⟩ ab U
  replace U:aB _ [_] [_,.blk _ _ ([_,_,_,_,_,_].set 5 _),_] _:=U
  simp only [dd] at U
  replace U:=p0 U
  refine wpList_nil ?_
  obtain ⟨zp,w9,U⟩:=aB.qo (h0:=fun _=>rfl) (f:=aA) (p:=fun x => -9223372036854775808≤x∧x≤9223372036854775807) (xs:=[c9%70,c9/7%70,64]) U rfl a8 (by intro x aM;simp only [List.mem_cons,List.not_mem_nil,or_false] at aM;rcases aM with rfl | rfl | rfl <;> omega)
  replace U:aB _ [_,_] [_,_] _:=U
  refine eY _ _<|dM ?_
  refine aG ab U (ai rfl<|ae (gh hv 0 rfl rfl aI rfl)<|ah) fun a w ab U=>aJ ab U rfl (L8 AY hv [[_,_,_,_,_,_]] rfl rfl (by simp) (Dt (bp rfl (bp rfl (bp rfl (bp rfl (bp rfl (bp (mP w9) dO)))))) Iy) a8 rfl rfl) ?_
  rintro ns _ _ a w ⟨rfl,rfl⟩ ab U
  replace U:aB _ [_,_] [_,_,_] _:=U
  refine aJ ab U rfl (dH AY hv 2 rfl rfl rfl (eo AY (k:=0) rfl (aew (Dt (bp rfl (bp rfl (bp rfl (bp rfl (bp rfl (bp (mP w9) dO)))))) Iy))) aI rfl a8) ?_
  rintro v9 _ _ a w ⟨rfl,rfl⟩ ab U
  replace U:aB _ [_,_] [_,_,_] _:=U
  refine aG ab U (av rfl<|ah) fun a w ab U=>wpList_nil (cT _ _ ?_)
  refine bx ab U (ai rfl<|b5 rfl rfl<|av rfl<|ah) fun a w ab U=>?_
  obtain ⟨zu,OI,U⟩:=U.union
  replace U:=U.ao (ay.k) (fO)
  refine ⟨(v9,zu,(ts++[((⟨bZ,cg,c7-1,au.keyOf c9,aiq,[c9%70,c9/7%70,64]⟩:au.jc),v5)]),i+1),?_,?_,ab.sub ⟨rfl,rfl,rfl,rfl,trivial⟩,?_⟩
  ·(try dsimp only);omega
  ·exact ⟨⟨by omega,by rw [List.length_append,pT];rfl⟩,qy.snoc (OI z (by simp)) ⟨by dsimp only;omega,by dsimp only;omega,by dsimp only;omega,au.OV _,(CZ.1)⟩ (bo.mono (OI _ (by simp)) w9)⟩
  ·dsimp only;rw [← au.ah8,← au.aib];exact U
 ·(try simp only [dj] at aU)
  refine wp_exit<|cq _ _<|aD ab U (ai rfl<|av rfl<|ah) fun a w ab U=>wp_ret ?_
  obtain ⟨zr,H2,U⟩:=au.Yw U (z:=z) (by simp) rfl ag qy
  exact b0 (rs:=[.tmp 4]) rfl ab U (vs:=[_]) ⟨rfl,trivial⟩ (zs':=[zr]) (hs':=[]) (List.singleton_sublist.2 (by simp)) ay ⟨_,zr,rfl,rfl,H2,by rw [List.length_map];omega⟩
end
section
theorem nS:ba Tryz.prog 80 (.pointer 93) 1 8 (Value.pointer none):=⟨Tryz.underlying80,by kernel_rfl⟩
theorem fM : ba Tryz.prog 82 (.struct #[⟨ "disk", 46, 0, false, "", "culprit/culpritlaw41", 0⟩, ⟨ "ledger", 45, 1, false, "", "culprit/culpritlaw41", 8⟩, ⟨ "model", 80, 2, false, "", "culprit/culpritlaw41", 16⟩]) 3 24 (.agg ([Value.pointer none, Value.pointer none, Value.pointer none]).toArray) := ⟨Tryz.underlying82, by kernel_rfl⟩
theorem MS:b1 Tryz.prog 47:=b6 Tryz.func47
theorem MU:b1 Tryz.prog 49:=b6 Tryz.func49
theorem MV:b1 Tryz.prog 51:=b6 Tryz.func51
theorem Yc:b1 Tryz.prog 83:=b6 Tryz.func83
theorem Yd:b1 Tryz.prog 84:=b6 Tryz.func84
theorem Ye:b1 Tryz.prog 85:=b6 Tryz.func85
theorem Xm:b1 Tryz.prog 124:=b6 Tryz.func124
attribute [local irreducible] aF.int aF.bytes aF.getInt aF.dZ aL.sum aj.fb aj.aT aj.c0 aj.a7 aj.c3 aj.gi aj.app aj.bW au.dec au.enc ak.new ak.dx ak.e6 ak.hi ak.lj au.add au.taken au.vm au.tf
abbrev E5(sb aw bl ml:Nat):aC:=.blk sb 82 [.pointer (some ⟨aw,0,none⟩),.pointer (some ⟨bl,0,none⟩),.pointer (some ⟨ml,0,none⟩)]
def E7(sb bd:Nat)(h:ak.hT)(v:Value)(M:au.gg)(il:Value):Value→List aR→List aC→Prop:=fun r zs hs=>r=il∧zs=[]∧∃ (bl jb ml mb:Nat) (lk:Bool) (fv fw:Value) (cu ct cx cz d1 d2 d3 d4 jv jw jx kc:aC),hs=[E5 sb h.b bl ml,yp bl jb fv,mx fv M.F,cu,ct,cx,cz,d1,d2,d3,d4,pr ml bd mb fw lk,mx fw M.F,jv,jw,jx,kc,fQ bd v M.S,fR v M.S]∧mu jb h.b M.J cu ct cx cz∧hF h M.S d1 d2 d3 d4∧mr mb bd M.J jv jw jx kc
def E6(M:au.gg)(nX:Bool):Value→List aR→List aC→Prop:=fun r zs hs=>zs=[]∧∃ (bd:Nat) (h:ak.hT) (v:Value) (bl jb ml mb:Nat) (lk:Bool) (fv fw:Value) (cu ct cx cz d1 d2 d3 d4 jv jw jx kc:aC),r=.tuple [.agg [.pointer (some ⟨h.b,0,none⟩),.pointer (some ⟨bl,0,none⟩),.pointer (some ⟨ml,0,none⟩)].toArray,.bool nX].toArray∧hs=[yp bl jb fv,mx fv M.F,cu,ct,cx,cz,d1,d2,d3,d4,pr ml bd mb fw lk,mx fw M.F,jv,jw,jx,kc,fQ bd v M.S,fR v M.S]∧mu jb h.b M.J cu ct cx cz∧hF h M.S d1 d2 d3 d4∧mr mb bd M.J jv jw jx kc
theorem AU{sb bd:Nat}{h:ak.hT}{v:Value}{M M2:au.gg}{il r:Value}{zs:List aR}{hs:List aC}(e:E7 sb bd h v M il r zs hs)(bL:M=M2):E7 sb bd h v M2 il r zs hs:=by subst bL;exact e
theorem aeN(n:Nat)(bD:12≤n∧n≤71)(w:World){ed:Nat×Nat}{eb:TypeId}(hq:w.heap[0]?=some (.cells (aL.eH.map cI).toArray eb ed)){gE:Nat×Nat}{gC:TypeId}(dF:w.heap[1]?=some (.cells (aL.eH.map cI).toArray gC gE)):cC Tryz.prog 80 [aA (n:Int)] w (E6 (au.pX (ak.new n)) true):=by
 refine c4 Tryz.func80 rfl Tryz.ntmps80 b4 fun a ab U=>?_
 have CO:(ak.new n).off=false:=by unfold ak.new;rfl
 have al1:=ak.IE (n:=n) ag ag
 refine bc fun eJ c8=>aJ ab U rfl (dg fM) ?_
 rintro _ _ _ a w ⟨ck,rfl,rfl,rfl⟩ ab U
 refine aG ab U (av rfl<|ah) fun a w ab U=>wpList_nil (c8 _ _ ?_)
 refine bc fun cG bJ=>aG ab U (ai rfl<|ah) fun a w ab U=>aJ ab U rfl (eT M3 rfl (fun w U=>LO n ag w )) ?_
 rintro _ _ _ a w ⟨_,_,rfl,rfl,⟨rfl,aaO,aoW,api,apD,apY,rfl,rfl,Zl⟩⟩ ab U
 replace U:=na U
 refine aG ab U (ai rfl<|ae (cQ rfl rfl)<|ae (cQ rfl rfl)<|av rfl<|av rfl<|ah) fun a w ab U=>wpList_nil (bJ _ _ ?_)
 refine bc fun dX cq=>aG ab U (ai rfl<|ah) fun a w ab U=>aJ ab U rfl (eT Xm rfl (fun w U=>agZ n ag w )) ?_
 rintro _ _ _ a w ⟨_,_,rfl,rfl,⟨rfl,U6,TI,rfl,rfl⟩⟩ ab U
 replace U:aB _ [] [_,_,_,_,_,_,_] _:=U
 refine aG ab U (ai rfl<|ae (cQ rfl rfl)<|ae (cQ rfl rfl)<|av rfl<|av rfl<|ah) fun a w ab U=>wpList_nil (cq _ _ ?_)
 refine ax fun et cB=>aD ab U (ai rfl<|ae (kT (dS rfl rfl) (by simp))<|ai rfl<|aO 24 rfl rfl rfl (bE rfl)<|aO 24 rfl rfl rfl (kT (dS rfl rfl) (by simp))<|ae (hB rfl rfl)<|ai rfl<|aO 28 rfl rfl rfl (bE rfl)<|aO 28 rfl rfl rfl (xt (o5 mS rfl rfl) (by simp))<|ae (hB rfl rfl)<|ah) fun a w ab U=>df ab rfl (fun h=>absurd h (by simp)) (fun _=>?_)
 refine wp_skip<|cB _ _<|bc fun eN cK=>aG ab U (ai rfl<|ah) fun a w ab U=>?_
 replace U:=(((U.perm nV).perm mX).perm pv).perm qf
 replace U:aB _ [] [_,_,_,_,_,_,_] _:=U
 refine aJ ab U rfl (dv yZ rfl (List.Perm.refl _) (by exact (z6 _ _ (by assumption) _ _ dF Zl))) ?_
 rintro _ _ _ a w ⟨_,_,rfl,rfl,⟨rfl,akX,aof,alB,aoU,ape,apz,apU,aqn,aqB,aqP,aq4,rfl,rfl,Zx,Zi⟩⟩ ab U
 replace U:aB _ [] [_,_,_,_,_,_,_,_,_,_,_,_,_] _:=U
 refine aG ab U (ai rfl<|ae (cQ rfl rfl)<|ae (cQ rfl rfl)<|av rfl<|av rfl<|ah) fun a w ab U=>wpList_nil (cK _ _ ?_)
 refine bc fun fa cT=>aG ab U (ai rfl<|ah) fun a w ab U=>?_
 replace U:=(U.perm Kv).perm KD
 replace U:aB _ [] [_,_,_,_,_,_,_,_,_,_,_,_,_] _:=U
 refine aJ ab U rfl (dv Nc rfl (List.Perm.refl _) (by exact (PI _ TI (ak.new n) (by assumption) _ _ hq (by first | assumption | exact ak.xn (by assumption) _)))) ?_
 rintro _ _ _ a w ⟨_,_,rfl,rfl,⟨rfl,aoq,aog,alC,aoX,apg,apB,apW,rfl,rfl,Zy⟩⟩ ab U
 replace U:aB _ [] [_,_,_,_,_,_,_,_,_,_,_,_,_,_,_,_,_,_,_] _:=U
 refine aG ab U (ai rfl<|ae (cQ rfl rfl)<|ae (cQ rfl rfl)<|av rfl<|av rfl<|ah) fun a w ab U=>wpList_nil (cT _ _ ?_)
 refine bc fun fk cP=>aG ab U (ai rfl<|ai rfl<|ai rfl<|ae (ow fM 3 az rfl rfl (bp rfl (bp rfl (bp rfl dO))) rfl rfl)<|ai rfl<|ae (qQ (gq rfl rfl) (by simp))<|ai rfl<|aO 49 rfl rfl rfl (bE rfl)<|aO 49 rfl rfl rfl (qQ (gq rfl rfl) (by simp))<|ae (kU rfl rfl)<|ai rfl<|aO 53 rfl rfl rfl (bE rfl)<|aO 53 rfl rfl rfl (afr (QV iF rfl rfl) (by simp))<|ae (kU rfl rfl)<|ah) fun a w ab U=>aJ ab U rfl (cJ fM 18 rfl rfl rfl rfl aI (bp rfl (bp rfl (bp rfl dO))) aI) ?_
 rintro _ _ _ a w ⟨rfl,rfl,rfl⟩ ab U
 replace U:aB _ [] [_,_,_,_,_,_,_,_,_,_,_,_,_,_,_,_,_,_,_] _:=U
 refine aG ab U (av rfl<|ah) fun a w ab U=>wpList_nil (cP _ _ ?_)
 refine wp_ret ?_
 replace U:=(((((((((U.perm q3).perm qe).perm q5).perm q6).perm KO).perm KS).perm KW).perm E0).perm E1).perm E2
 exact b0 (rs:=[.cell 2 82,.tmp 3]) rfl ab U (vs:=[_,_]) ⟨⟨_,_,_,_,_,_,_,rfl,List.mem_of_getElem? (i:=18) rfl,fM,.inl ⟨rfl,aI,rfl⟩⟩,rfl,trivial⟩ al (ay.k.k.k.k.k.k.k.k.k.k.k.k.k.k.k.k.k.k) ⟨rfl,U6,aaO,TI,_,_,_,_,_,_,_,_,_,_,_,_,_,_,_,_,_,_,_,rfl,rfl,Zx,Zi,Zy⟩
theorem LU(sb bd:Nat)(h:ak.hT)(v:Value)(M:au.gg)(k n la:Int)(ky vl:List UInt8)(ps:List Int)(gM:Value)(aM:au.yz ⟨k,n,la,ky,vl,ps⟩)(w0:World)(bU:List aR){bl jb ml mb:Nat}{lk:Bool}{fv fw:Value}{cu ct cx cz d1 d2 d3 d4 jv jw jx kc:aC}(z:aR)(k6:bo Go.aK.encI z gM ps)(bj:gQ w0 bU z){ed:Nat×Nat}{eb:TypeId}(hq:w0.heap[0]?=some (.cells (aL.eH.map cI).toArray eb ed)){gE:Nat×Nat}{gC:TypeId}(dF:w0.heap[1]?=some (.cells (aL.eH.map cI).toArray gC gE))(gl:au.Good M.F)(eD:mu jb h.b M.J cu ct cx cz)(dz:hF h M.S d1 d2 d3 d4)(eP:mr mb bd M.J jv jw jx kc):e1 Tryz.prog 45 [.pointer (some ⟨sb,0,none⟩),.agg [aA k,aA n,aA la,vs ky,vs vl,gM].toArray] w0 bU [E5 sb h.b bl ml,yp bl jb fv,mx fv M.F,cu,ct,cx,cz,d1,d2,d3,d4,pr ml bd mb fw lk,mx fw M.F,jv,jw,jx,kc,fQ bd v M.S,fR v M.S] (E7 sb bd h v (au.mB M ⟨k,n,la,ky,vl,ps⟩) (.bool true)):=by
 refine gk Tryz.func45 rfl Tryz.ntmps45 b4 fun cF a w ab U=>?_
 replace U:aB _ (_) (_::_::_::_::_::_::_::_::_::_::_::_::_::_::_::_::_::_::_::_) _:=U
 have oe:=gl.len
 have Cu:=ak.mV.ok dz
 have CO:(ak.e6 M.S ps).off=false:=by unfold ak.e6;rfl
 have ZY:=ak.xn Cu ps
 have oc:=au.Ft gl
 have ab3:=aM.1
 have ab4:=aM.2.1
 have rN:=aM.2.2.1
 have ab7:=aM.2.2.2.1
 have ab6:=aM.2.2.2.2
 dsimp only at ab3 ab4 rN ab7 ab6
 refine bc fun eJ c8=>aJ ab U rfl (jV (cs:=[aA k,aA n,aA la,vs ky,vs vl,gM]) rfl) ?_
 rintro _ _ _ a w ⟨ck,rfl,rfl,rfl⟩ ab U
 refine aG ab U (av rfl<|ah) fun a w ab U=>wpList_nil (c8 _ _ ?_)
 refine ax fun cG bJ=>aD ab U (ae (aZ hv rfl rfl (s':=0) az)<|ae (bf bH 0 rfl rfl rfl rfl)<|ah) fun a w ab U=>wp_block ?_
 refine aD ab U (ae (gq rfl rfl)<|av rfl<|ah) fun a w ab U=>cn ab rfl (fun aU=>?_) (fun aU=>?_)
 ·refine ax fun dL b9=>h2 7 mixed az ab U (ai rfl<|ae (bN rfl)<|ae (aZ fM rfl rfl (s':=0) az)<|ae (bf mS 1 rfl rfl rfl rfl)<|ae (aZ hv rfl rfl (s':=0) az)<|ae (bf bH 0 rfl rfl rfl rfl)<|ae (ni rfl rfl ag)<|ah) fun a w ab U=>?_
  replace U:=(((U.perm q3).perm qe).perm q5).perm q6
  replace U:=l7 U
  refine aJ ab U rfl (dv F5 rfl (List.Perm.refl _) (by exact (FJ _ _ _ ag _ _  dz))) ?_
  rintro _ _ _ a w ⟨_,_,rfl,rfl,⟨rfl,rfl,Au,Av,Aw,Ax,rfl,y6⟩⟩ ab U
  replace U:=l7 U
  refine wpList_nil (b9 _ _ ?_)
  refine h2 10 mixed az ab U (ai rfl<|ae (bN rfl)<|ae (aZ fM rfl rfl (s':=0) az)<|ae (bf nS 5 rfl rfl rfl rfl)<|ae (bN rfl)<|ae (aZ kh rfl rfl (s':=0) az)<|ae (bf oC 12 rfl rfl rfl rfl)<|ae (aZ hv rfl rfl (s':=0) az)<|ae (bf bH 4 rfl rfl rfl rfl)<|ae (ni rfl rfl ag)<|ah) fun a w ab U=>?_
  replace U:=(U.perm ET).perm EW
  replace U:=l7 U
  refine aJ ab U rfl (dv MS rfl (List.Perm.refl _) (by exact (R8 _ _ _  (by first | assumption | exact ak.iO (by assumption) | exact ak.kz (by assumption) _ _) (S:=M.S) (v:=v)))) ?_
  rintro _ _ _ a w ⟨_,_,rfl,rfl,⟨rfl,rfl,rfl⟩⟩ ab U
  replace U:=l7 U
  refine wpList_nil (bJ _ _ ?_)
  refine aD ab U (av rfl<|ah) fun a w ab U=>wp_ret ?_
  replace U:=((((((((((((((((U.perm yq).perm Bw).perm EX).perm EY).perm KN).perm KR).perm KV).perm yt).perm By).perm Bz).perm EV).perm Kx).perm Ky).perm Kz).perm KA).perm KB).perm KC
  exact cY (rs:=[.tmp 4]) rfl ab U (vs:=[_]) ⟨rfl,trivial⟩ [] [_,_,_,_,_,_,_,_,_,_,_,_,_,_,_,_,_,_,_] al (c2.k.k.k.k.k.k.k.k.k.k.k.k.k.k.k.k.k.k.k) (AU (M:=⟨M.J,ak.dx M.S (n%6),M.F⟩) ⟨rfl,rfl,_,_,_,_,_,_,_,_,_,_,_,_,_,_,_,_,_,_,_,rfl,eD,y6,eP⟩ (by rw [au.LP aU]))
 ·refine ax fun fa cT=>bx ab U (ae (gq rfl rfl)<|av rfl<|ah) fun a w ab U=>cT _ _ ?_
  refine cn ab rfl (fun bz=>?_) (fun bz=>?_)
  ·refine ax fun fk cP=>h2 6 mixed az ab U (ai rfl<|ae (bN rfl)<|ae (aZ fM rfl rfl (s':=0) az)<|ae (bf mS 1 rfl rfl rfl rfl)<|ae (aZ hv rfl rfl (s':=0) az)<|ae (bf dm 0 rfl rfl rfl rfl)<|ah) fun a w ab U=>?_
   replace U:=(((U.perm q3).perm qe).perm q5).perm q6
   replace U:=l7 U
   refine aJ ab U rfl (dv F6 rfl (List.Perm.refl _) (by exact (FG _ _ _ _ _ _ _ k6 bj dz))) ?_
   rintro _ _ _ a w ⟨_,_,rfl,rfl,⟨rfl,rfl,aoK,ao5,apr,apM,rfl,Zf⟩⟩ ab U
   replace U:=l7 U
   refine wpList_nil (cP _ _ ?_)
   refine ax fun gB du=>?_
   revert U;revert ab;apply hL (J:=Kl (α0:=Nat) (α1:=Nat) (α2:=Value) (α3:=aC) (α4:=aC) (α5:=aC) (α6:=aC) 152 _ _ _ _ _) #[false,false,false,false,false,false,false,false,false,false,false,false] 12 mixed rfl rfl
   ·intro w ab U
    refine aS 0 rfl ab (U.ao al (dw)) (bE rfl) fun a ab=>aS 1 rfl ab (U.ao al (dw)) (bN rfl) fun a ab=>aS 2 rfl ab (U.ao al (dw)) (aZ fM rfl rfl (s':=0) az) fun a ab=>aS 3 rfl ab (U.ao al (tJ.k.n.n.n.n.n)) (bf nS 0 rfl rfl rfl rfl) fun a ab=>aS 4 rfl ab (U.ao al (dw)) (aZ hv rfl rfl (s':=0) az) fun a ab=>?_
    refine aS 5 rfl ab (U.ao al (al.n.n.n.n.n.n.n.n.n.n.n.n.n.n.n.k.n.n.n.n)) (bf dm 0 rfl rfl rfl rfl) fun a ab=>fB [6] az rfl ⟨?_,trivial⟩
    replace U:=(((((((U.perm Ks).perm KE).perm KH).perm KK).perm KP).perm KT).perm KX).perm K1
    replace U:=l7 U
    refine dW _ rfl rfl ab U rfl (dv MV rfl (List.Perm.refl _) (by exact (PG _ _ _ v lk M gM ps _ _ _ k6 bj hq (by assumption) eP (by assumption) (fv:=fw)))) ?_
    rintro _ _ _ a w ⟨_,_,rfl,rfl,⟨rfl,PF,OR,Nr,Q7,Rh,Rq,Rz,rfl,rfl,GP⟩⟩ ab U
    replace U:=l7 U
    refine ⟨⟨aq,aq,aq,aq,.inr (U.ao al (dw)),.inr (U.ao al (dw)),trivial⟩,?_⟩
    refine aS 7 rfl ab (U.ao al (dw)) (bE rfl) fun a ab=>aS 8 rfl ab (U.ao al (dw)) (cQ rfl rfl) fun a ab=>aS 9 rfl ab (U.ao al (dw)) (cQ rfl rfl) fun a ab=>aS 10 rfl ab (U.ao al (dw)) (kS rfl) fun a ab=>aS 11 rfl ab (U.ao al (dw)) (kS rfl) fun a ab=>?_
    exact ev az (acw PF OR Nr Q7 Rh Rq Rz ((And.intro GP trivial)) (ab.sub (L':=[(0,_),(5,_),(6,_)]) ⟨rfl,rfl,rfl,trivial⟩) U)
   rintro a w ⟨PF,OR,Nr,Q7,Rh,Rq,Rz,⟨GP, -⟩,ab,U⟩
   (try dsimp only at ab U)
   refine du _ _<|bc fun hU ef=>aG ab U (ai rfl<|ae (bN rfl)<|ae (aZ fM rfl rfl (s':=0) az)<|ae (bf mS 13 rfl rfl rfl rfl)<|ah) fun a w ab U=>?_
   replace U:=(((U.perm q3).perm qe).perm q5).perm q6
   replace U:=l7 U
   refine aJ ab U rfl (dv yZ rfl (List.Perm.refl _) (by exact (z6 _ _ (by assumption) _ _ dF Zf))) ?_
   rintro _ _ _ a w ⟨_,_,rfl,rfl,⟨rfl,akW,aoe,alA,aoS,apc,apx,apS,aqm,aqA,aqO,aq3,rfl,rfl,Zw,Zh⟩⟩ ab U
   replace U:aB _ (_) (_::_::_::_::_::_::_::_::_::_::_::_::_::_::_::_::_::_::_::_::_::_::_::_::_::_::_) _:=U
   refine aG ab U (ai rfl<|ae (cQ rfl rfl)<|ae (cQ rfl rfl)<|av rfl<|av rfl<|ah) fun a w ab U=>wpList_nil (ef _ _ ?_)
   refine ax fun ho dK=>aD ab U (ai rfl<|ai rfl<|ae (kT (dS rfl rfl) (by simp))<|ai rfl<|aO 90 rfl rfl rfl (bE rfl)<|aO 90 rfl rfl rfl (xt (o5 iF rfl rfl) (by simp))<|ae (hB rfl rfl)<|ah) fun a w ab U=>df ab rfl (fun h=>absurd h (by simp)) (fun _=>?_)
   refine wp_skip<|dK _ _<|bc fun iR eO=>aG ab U (ai rfl<|ai rfl<|ae (bN rfl)<|ae (aZ fM rfl rfl (s':=0) az)<|ah) fun a w ab U=>aJ ab U rfl (dq iF 19 rfl rfl rfl rfl (by simp)) ?_
   rintro _ _ _ a w ⟨rfl,rfl,rfl⟩ ab U
   replace U:aB _ (_) (_::_::_::_::_::_::_::_::_::_::_::_::_::_::_::_::_::_::_::.blk _ _ ([_,_,_].set 1 _)::_::_::_::_::_::_::_) _:=U
   simp only [dd] at U
   replace U:aB _ (_) (_::_::_::_::_::_::_::_::_::_::_::_::_::_::_::_::_::_::_::_::_::_::_::_::_::_::_) _:=U
   refine wpList_nil (eO _ _ ?_)
   refine dM<|aG ab U (ai rfl<|ai rfl<|ae (bN rfl)<|ae (aZ fM rfl rfl (s':=0) az)<|ah) fun a w ab U=>aJ ab U rfl (dq nS 19 rfl rfl rfl rfl (by simp)) ?_
   rintro _ _ _ a w ⟨rfl,rfl,rfl⟩ ab U
   replace U:aB _ (_) (_::_::_::_::_::_::_::_::_::_::_::_::_::_::_::_::_::_::_::.blk _ _ ([_,_,_].set 2 _)::_::_::_::_::_::_::_) _:=U
   simp only [dd] at U
   replace U:aB _ (_) (_::_::_::_::_::_::_::_::_::_::_::_::_::_::_::_::_::_::_::_::_::_::_::_::_::_::_) _:=U
   refine wpList_nil (bJ _ _ ?_)
   refine aD ab U (av rfl<|ah) fun a w ab U=>wp_ret ?_
   replace U:=U.perm Um
   exact cY (rs:=[.tmp 4]) rfl ab U (vs:=[_]) ⟨rfl,trivial⟩ [] [_,_,_,_,_,_,_,_,_,_,_,_,_,_,_,_,_,_,_] al (im.k.k.k.k.k.k.k.k.k.k.k.k.k.k.k.k.k.k.k) (AU (M:=au.pX (ak.e6 M.S ps)) ⟨rfl,rfl,_,_,_,_,_,_,_,_,_,_,_,_,_,_,_,_,_,_,_,rfl,Zw,Zh,GP⟩ (by rw [au.FH bz]))
  ·refine ax fun j5 fC=>bx ab U (ae (gq rfl rfl)<|av rfl<|ah) fun a w ab U=>fC _ _ ?_
   refine cn ab rfl (fun dI=>?_) (fun dI=>?_)
   ·refine ax fun mw hz=>bx ab U (ae (aZ hv rfl rfl (s':=0) az)<|ae (bf bB 0 rfl rfl rfl rfl)<|ae (hZ bB rfl)<|ae (hK rfl rfl ag)<|ae (aZ hv rfl rfl (s':=0) az)<|ae (bf bB 0 rfl rfl rfl rfl)<|ae (hZ bB rfl)<|ae (hK rfl rfl ag)<|b5 rfl rfl<|av rfl<|ah) fun a w ab U=>hz _ _ ?_
    refine ax fun oF jg=>?_
    revert U;revert ab;apply hL (J:=EL (α0:=aC) (α1:=aC) (α2:=aC) (α3:=aC) (α4:=Value) (α5:=aC) (α6:=aC) (α7:=aC) (α8:=aC) 152 _ _ _ _ _) #[false,false,false,false,false,false,false,false,false,false,false,false,false,false,false,false,false,false,false,false] 20 mixed rfl rfl
    ·intro w ab U
     refine aS 0 rfl ab (U.ao al (dw)) (bE rfl) fun a ab=>aS 1 rfl ab (U.ao al (dw)) (bN rfl) fun a ab=>aS 2 rfl ab (U.ao al (dw)) (aZ fM rfl rfl (s':=0) az) fun a ab=>aS 3 rfl ab (U.ao al (tK.k.n)) (bf mS 0 rfl rfl rfl rfl) fun a ab=>aS 4 rfl ab (U.ao al (dw)) (aZ hv rfl rfl (s':=0) az) fun a ab=>?_
     refine aS 5 rfl ab (U.ao al (lg.k)) (bf bH 0 rfl rfl rfl rfl) fun a ab=>aS 6 rfl ab (U.ao al (dw)) (bE rfl) fun a ab=>aS 7 rfl ab (U.ao al (dw)) (ni rfl rfl ag) fun a ab=>aS 9 rfl ab (U.ao al (dw)) (bE rfl) fun a ab=>aS 10 rfl ab (U.ao al (dw)) (bN rfl) fun a ab=>?_
     refine aS 11 rfl ab (U.ao al (dw)) (aZ fM rfl rfl (s':=0) az) fun a ab=>aS 12 rfl ab (U.ao al (tK.k.n)) (bf nS 0 rfl rfl rfl rfl) fun a ab=>aS 13 rfl ab (U.ao al (dw)) (aZ hv rfl rfl (s':=0) az) fun a ab=>aS 14 rfl ab (U.ao al (lg.k)) (bf bH 0 rfl rfl rfl rfl) fun a ab=>aS 15 rfl ab (U.ao al (dw)) (bE rfl) fun a ab=>?_
     refine aS 16 rfl ab (U.ao al (dw)) (ni rfl rfl ag) fun a ab=>fB [8] az rfl ⟨?_,trivial⟩
     replace U:=(((U.perm q3).perm qe).perm q5).perm q6
     replace U:=l7 U
     refine dW _ rfl rfl ab U rfl (dv XU rfl (List.Perm.refl _) (by exact (Wr _ _ _ _ ag ag _ _  dz))) ?_
     rintro _ _ _ a w ⟨_,_,rfl,rfl,⟨rfl,rfl,Q0,Ra,Rk,Rt,rfl,Gw⟩⟩ ab U
     replace U:=l7 U
     refine ⟨⟨.inr (U.ao al (dw)),.inr (U.ao al (dw)),.inr (U.ao al (al.n.n.n.n.n.n.n.n.n.n.n.n.n.n.n.k.n.n.n.n)),.inr (U.ao al (dw)),.inr (U.ao al (tJ.k.n.n.n.n.n)),.inr (U.ao al (dw)),.inr (U.ao al (dw)),.inr (U.ao al (dw)),aq,aq,aq,aq,aq,aq,.inr (U.ao al (dw)),.inr (U.ao al (dw)),trivial⟩,?_⟩
     refine fB [17] az rfl ⟨?_,trivial⟩
     replace U:=(((((((U.perm Ks).perm KE).perm KH).perm KK).perm KP).perm KT).perm KX).perm K1
     replace U:=l7 U
     refine dW _ rfl rfl ab U rfl (dv Yc rfl (List.Perm.refl _) (by exact (aee _ _ _ v lk M n (((ky.length:Int)*41+7*(vl.length:Int))%512) ag _ _ hq (by assumption) eP (by assumption) (fv:=fw)))) ?_
     rintro _ _ _ a w ⟨_,_,rfl,rfl,⟨rfl,rfl,No,QZ,Q9,Rj,Rs,rfl,GM⟩⟩ ab U
     replace U:=l7 U
     refine ⟨⟨aq,aq,aq,aq,aq,aq,.inr (U.ao al (dw)),.inr (U.ao al (dw)),aq,aq,aq,aq,aq,aq,.inr (U.ao al (dw)),.inr (U.ao al (dw)),trivial⟩,?_⟩
     refine aS 18 rfl ab (U.ao al (dw)) (qQ (gq rfl rfl) (by simp)) fun a ab=>aS 19 rfl ab (U.ao al (dw)) (kS rfl) fun a ab=>ev az (OP Q0 Ra Rk Rt No QZ Q9 Rj Rs ((And.intro Gw (And.intro GM trivial))) (ab.sub (L':=[(4,_)]) ⟨rfl,trivial⟩) U)
    rintro a w ⟨Q0,Ra,Rk,Rt,No,QZ,Q9,Rj,Rs,⟨Gw,GM, -⟩,ab,U⟩
    (try dsimp only at ab U)
    refine jg _ _<|wp_ret ?_
    replace U:=((((((((((U.perm Kt).perm KF).perm KI).perm KL).perm KQ).perm KU).perm KY).perm E0).perm E1).perm E2).perm Kw
    exact cY (rs:=[.tmp 4]) rfl ab U (vs:=[_]) ⟨rfl,trivial⟩ [] [_,_,_,_,_,_,_,_,_,_,_,_,_,_,_,_,_,_,_] al (c2.k.k.k.k.k.k.k.k.k.k.k.k.k.k.k.k.k.k.k) (AU (M:=⟨M.J,(ak.hi M.S n (((ky.length:Int)*41+7*(vl.length:Int))%512)).1,M.F⟩) ⟨rfl,rfl,_,_,_,_,_,_,_,_,_,_,_,_,_,_,_,_,_,_,_,rfl,eD,Gw,GM⟩ (by rw [au.LQ dI]))
   ·refine ax fun pq jF=>bx ab U (ae (gq rfl rfl)<|av rfl<|ah) fun a w ab U=>jF _ _ ?_
    refine cn ab rfl (fun dE=>?_) (fun dE=>?_)
    ·refine ax fun qa ko=>?_
     revert U;revert ab;apply hL (J:=tX (α0:=aC) (α1:=aC) (α2:=aC) (α3:=aC) 152 _ _ _ _ _) #[false,false,false,false,false,false,false,false,false,false,false,false,false,false,false,false,false,false,false] 19 mixed rfl rfl
     ·intro w ab U
      refine aS 0 rfl ab (U.ao al (dw)) (bE rfl) fun a ab=>aS 1 rfl ab (U.ao al (dw)) (bN rfl) fun a ab=>aS 2 rfl ab (U.ao al (dw)) (aZ fM rfl rfl (s':=0) az) fun a ab=>aS 3 rfl ab (U.ao al (tK.k.n)) (bf mS 0 rfl rfl rfl rfl) fun a ab=>aS 4 rfl ab (U.ao al (dw)) (aZ hv rfl rfl (s':=0) az) fun a ab=>?_
      refine aS 5 rfl ab (U.ao al (lg.k)) (bf bH 0 rfl rfl rfl rfl) fun a ab=>aS 7 rfl ab (U.ao al (dw)) (bE rfl) fun a ab=>aS 8 rfl ab (U.ao al (dw)) (bN rfl) fun a ab=>aS 9 rfl ab (U.ao al (dw)) (aZ fM rfl rfl (s':=0) az) fun a ab=>aS 10 rfl ab (U.ao al (tK.k.n)) (bf nS 0 rfl rfl rfl rfl) fun a ab=>?_
      refine aS 11 rfl ab (U.ao al (dw)) (bN rfl) fun a ab=>aS 12 rfl ab (U.ao al (dw)) (aZ kh rfl rfl (s':=0) az) fun a ab=>aS 13 rfl ab (U.ao al (im.k.n.n.n.n.n.n.n.n.n.n.n.n)) (bf oC 0 rfl rfl rfl rfl) fun a ab=>aS 14 rfl ab (U.ao al (dw)) (aZ hv rfl rfl (s':=0) az) fun a ab=>aS 15 rfl ab (U.ao al (lg.k)) (bf bH 0 rfl rfl rfl rfl) fun a ab=>?_
      refine fB [6] az rfl ⟨?_,trivial⟩
      replace U:=(((U.perm q3).perm qe).perm q5).perm q6
      replace U:=l7 U
      refine dW _ rfl rfl ab U rfl (dv Yd rfl (List.Perm.refl _) (by exact (Wt _ _ _ ag _ _  dz))) ?_
      rintro _ _ _ a w ⟨_,_,rfl,rfl,⟨rfl,rfl,Q2,Rb,Rl,Ru,rfl,Gx⟩⟩ ab U
      replace U:=l7 U
      refine ⟨⟨.inr (U.ao al (al.n.n.n.n.n.n.n.n.n.n.n.n.n.n.n.k.n.n.n.n)),.inr (U.ao al (dw)),.inr (U.ao al (im.k.n.n.n.n.n.n.n.n.n.n.n.n)),.inr (U.ao al (dw)),.inr (U.ao al (dw)),.inr (U.ao al (tJ.k.n.n.n.n.n)),.inr (U.ao al (dw)),.inr (U.ao al (dw)),.inr (U.ao al (dw)),aq,aq,aq,aq,.inr (U.ao al (dw)),.inr (U.ao al (dw)),trivial⟩,?_⟩
      refine fB [16] az rfl ⟨?_,trivial⟩
      replace U:=(U.perm ET).perm EW
      replace U:=l7 U
      refine dW _ rfl rfl ab U rfl (dv Ye rfl (List.Perm.refl _) (by exact (ahp _ _ _  (by first | assumption | exact ak.iO (by assumption) | exact ak.kz (by assumption) _ _) (S:=M.S) (v:=v)))) ?_
      rintro _ _ _ a w ⟨_,_,rfl,rfl,⟨rfl,rfl,rfl⟩⟩ ab U
      replace U:=l7 U
      refine ⟨⟨aq,aq,aq,aq,.inr (U.ao al (dw)),.inr (U.ao al (mL.k.n.n.n.n.n.n.n)),.inr (U.ao al (dw)),.inr (U.ao al (dw)),.inr (U.ao al (dw)),aq,aq,aq,aq,.inr (U.ao al (dw)),.inr (U.ao al (dw)),trivial⟩,?_⟩
      refine aS 17 rfl ab (U.ao al (dw)) (qQ (gq rfl rfl) (by simp)) fun a ab=>aS 18 rfl ab (U.ao al (dw)) (kS rfl) fun a ab=>ev az (oY Q2 Rb Rl Ru ((And.intro Gx trivial)) (ab.sub (L':=[(4,_)]) ⟨rfl,trivial⟩) U)
     rintro a w ⟨Q2,Rb,Rl,Ru,⟨Gx, -⟩,ab,U⟩
     (try dsimp only at ab U)
     refine ko _ _<|wp_ret ?_
     replace U:=((((((((((((((((U.perm yq).perm Bw).perm EX).perm EY).perm KN).perm KR).perm KV).perm yt).perm By).perm Bz).perm EV).perm Kx).perm Ky).perm Kz).perm KA).perm KB).perm KC
     exact cY (rs:=[.tmp 4]) rfl ab U (vs:=[_]) ⟨rfl,trivial⟩ [] [_,_,_,_,_,_,_,_,_,_,_,_,_,_,_,_,_,_,_] al (c2.k.k.k.k.k.k.k.k.k.k.k.k.k.k.k.k.k.k.k) (AU (M:=⟨M.J,(ak.lj M.S n).1,M.F⟩) ⟨rfl,rfl,_,_,_,_,_,_,_,_,_,_,_,_,_,_,_,_,_,_,_,rfl,eD,Gx,eP⟩ (by rw [au.LR dE]))
    ·have k3:au.j4 ⟨au.clock M.F+la,ky,vl⟩:=⟨⟨by dsimp only;omega,by dsimp only;omega⟩,by dsimp only;omega,by dsimp only;omega⟩
     have eK:ky.length≤1048576∧vl.length≤1048576:=⟨by omega,by omega⟩
     refine ax fun qb kb=>?_
     revert U;revert ab;apply hL (J:=ki (α0:=Nat) 152 _ _ _ _ _) #[false,false,false,false,false,false,false,false,false,false,false,false,false,false,false] 15 mixed rfl rfl
     ·intro w ab U
      refine aS 0 rfl ab (U.ao al (dw)) (bE rfl) fun a ab=>aS 1 rfl ab (U.ao al (dw)) (bN rfl) fun a ab=>aS 2 rfl ab (U.ao al (dw)) (aZ fM rfl rfl (s':=0) az) fun a ab=>aS 3 rfl ab (U.ao al (tK.k.n)) (bf nS 0 rfl rfl rfl rfl) fun a ab=>aS 5 rfl ab (U.ao al (dw)) (aZ hv rfl rfl (s':=0) az) fun a ab=>?_
      refine aS 6 rfl ab (U.ao al (lg.k)) (bf bH 0 rfl rfl rfl rfl) fun a ab=>aS 8 rfl ab (U.ao al (dw)) (aZ hv rfl rfl (s':=0) az) fun a ab=>aS 9 rfl ab (U.ao al (lg.k)) (bf bB 0 rfl rfl rfl rfl) fun a ab=>aS 10 rfl ab (U.ao al (dw)) (aZ hv rfl rfl (s':=0) az) fun a ab=>aS 11 rfl ab (U.ao al (lg.k)) (bf bB 0 rfl rfl rfl rfl) fun a ab=>?_
      refine fB [4,13] az rfl ⟨?_,?_,trivial⟩
      ·refine dW _ rfl rfl ab U rfl (eC (bV wG rfl (fun w U=>xi _ _ _ _ _ _ w (j0 U 12 rfl) (ie (hl:=au.hO) (h1:=au.hy) (U.dp 13 rfl) rfl (by first | omega | (simp;done)) (au.lA gl))) bP)) ?_
       rintro _ _ _ a w ⟨rfl,rfl,rfl⟩ ab U
       refine ⟨⟨.inr (U.ao al (lg.k)),.inr (U.ao al (dw)),.inr (U.ao al (lg.k)),.inr (U.ao al (dw)),.inr (U.ao al (lg.k)),.inr (U.ao al (dw)),aq,aq,.inr (U.ao al (dw)),.inr (U.ao al (dw)),trivial⟩,?_⟩
       refine aS 7 rfl ab (U.ao al (dw)) (o4 rfl rfl ag) fun a ab=>aS 12 rfl ab (U.ao al (dw)) (ow b2 3 az rfl rfl (bp rfl (bp rfl (bp rfl dO))) rfl rfl) fun a ab=>bY 13 rfl rfl ab U rfl (dg b2) ?_
       rintro _ _ _ a w ⟨BI,rfl,rfl,rfl⟩ ab U
       refine ⟨⟨.inr (U.ao al (gW)),.inr (U.ao al (gW)),.inr (U.ao al (lg.k.n)),.inr (U.ao al (gW)),.inr (U.ao al (lg.k.n)),.inr (U.ao al (gW)),.inr (U.ao al (lg.k.n)),.inr (U.ao al (gW)),aq,aq,.inr (U.ao al (gW)),.inr (U.ao al (gW)),trivial⟩,?_⟩
       refine bY 14 rfl rfl ab U rfl (cJ b2 0 rfl rfl rfl rfl aI (bp rfl (bp rfl (bp rfl dO))) aI) ?_
       rintro _ _ _ a w ⟨rfl,rfl,rfl⟩ ab U
       replace U:=xl U
       refine ⟨⟨aq,aq,aq,aq,aq,aq,aq,aq,aq,aq,aq,aq,trivial⟩,?_⟩
       exact ev az (l6 BI (trivial) (ab.sub (L':=[(0,_),(10,_)]) ⟨rfl,rfl,trivial⟩) U)
      ·refine dW _ rfl rfl ab U rfl (dg b2) ?_
       rintro _ _ _ a w ⟨BI,rfl,rfl,rfl⟩ ab U
       refine ⟨⟨.inr (U.ao al (lg.k.n)),.inr (U.ao al (gW)),.inr (U.ao al (lg.k.n)),.inr (U.ao al (gW)),.inr (U.ao al (lg.k.n)),.inr (U.ao al (gW)),.inr (U.ao al (tK.k.n.n)),.inr (U.ao al (gW)),.inr (U.ao al (gW)),.inr (U.ao al (gW)),trivial⟩,?_⟩
       refine bY 4 rfl rfl ab U rfl (eC (bV wG rfl (fun w U=>xi _ _ _ _ _ _ w (j0 U 13 rfl) (ie (hl:=au.hO) (h1:=au.hy) (U.dp 14 rfl) rfl (by first | omega | (simp;done)) (au.lA gl))) bP)) ?_
       rintro _ _ _ a w ⟨rfl,rfl,rfl⟩ ab U
       refine ⟨⟨.inr (U.ao al (lg.k.n)),.inr (U.ao al (gW)),.inr (U.ao al (lg.k.n)),.inr (U.ao al (gW)),.inr (U.ao al (lg.k.n)),.inr (U.ao al (gW)),aq,aq,.inr (U.ao al (gW)),.inr (U.ao al (gW)),trivial⟩,?_⟩
       refine aS 7 rfl ab (U.ao al (gW)) (o4 rfl rfl ag) fun a ab=>aS 12 rfl ab (U.ao al (gW)) (ow b2 3 az rfl rfl (bp rfl (bp rfl (bp rfl dO))) rfl rfl) fun a ab=>bY 14 rfl rfl ab U rfl (cJ b2 0 rfl rfl rfl rfl aI (bp rfl (bp rfl (bp rfl dO))) aI) ?_
       rintro _ _ _ a w ⟨rfl,rfl,rfl⟩ ab U
       replace U:=xl U
       refine ⟨⟨aq,aq,aq,aq,aq,aq,aq,aq,aq,aq,aq,aq,trivial⟩,?_⟩
       exact ev az (l6 BI (trivial) (ab.sub (L':=[(0,_),(10,_)]) ⟨rfl,rfl,trivial⟩) U)
     rintro a w ⟨BI, -,ab,U⟩
     (try dsimp only at ab U)
     refine kb _ _<|ax fun sg lC=>?_
     revert U;revert ab;apply hL (J:=Kk (α0:=Value) (α1:=aC) (α2:=aC) (α3:=aC) (α4:=aC) (α5:=aC) (α6:=aC) (α7:=aC) (α8:=aC) (α9:=Value) (α10:=aC) (α11:=aC) (α12:=aC) (α13:=aC) 152 _ _ _ _ _) #[false,false,false,false,false,false,false,false,false,false,false,false,false,false] 14 mixed rfl rfl
     ·intro w ab U
      refine aS 0 rfl ab (U.ao al (gW)) (bE rfl) fun a ab=>aS 1 rfl ab (U.ao al (gW)) (bN rfl) fun a ab=>aS 2 rfl ab (U.ao al (gW)) (aZ fM rfl rfl (s':=0) az) fun a ab=>aS 3 rfl ab (U.ao al (tK.k.n.n)) (bf iF 0 rfl rfl rfl rfl) fun a ab=>aS 4 rfl ab (U.ao al (dw.k)) (gh b2 0 rfl rfl aI rfl) fun a ab=>?_
      refine aS 6 rfl ab (U.ao al (gW)) (bE rfl) fun a ab=>aS 7 rfl ab (U.ao al (gW)) (bN rfl) fun a ab=>aS 8 rfl ab (U.ao al (gW)) (aZ fM rfl rfl (s':=0) az) fun a ab=>aS 9 rfl ab (U.ao al (tK.k.n.n)) (bf nS 0 rfl rfl rfl rfl) fun a ab=>aS 10 rfl ab (U.ao al (dw.k)) (gh b2 0 rfl rfl aI rfl) fun a ab=>?_
      refine fB [5] az rfl ⟨?_,trivial⟩
      replace U:=(((U.perm q2).perm ua).perm vW).perm vY
      replace U:=U.perm (.cons _ (.cons _ (.cons _ (.cons _ (.cons _ (.cons _ (.swap _ _ _)))))))
      replace U:=U.perm (.cons _ (.cons _ (.cons _ (.cons _ (.cons _ (.swap _ _ _))))))
      replace U:=(((((U.perm (.cons _ (.cons _ (.cons _ (.cons _ (.swap _ _ _)))))).perm yr).perm v7).perm K2).perm K3).perm K4
      replace U:=xl U
      refine dW _ rfl rfl ab U rfl (dv wF rfl (List.Perm.refl _) (by exact (xg _ _ _ M ⟨au.clock M.F+la,ky,vl⟩ k3 eK _ _ dF (by assumption) eD dz (fv:=fv)))) ?_
      rintro _ _ _ a w ⟨_,_,rfl,rfl,⟨rfl,rfl,Nq,Q5,Rf,Ro,Rx,SX,SZ,S1,S3,rfl,GO,Gz⟩⟩ ab U
      replace U:=xl U
      refine ⟨⟨.inr (U.ao al (bQ.k.n.n.n.n.n.n.n.n.n.n)),.inr (U.ao al (e3.k.n.n.n.n.n.n.n.n.n.n.n.n)),.inr (U.ao al (gW)),.inr (U.ao al (gW)),.inr (U.ao al (gW)),aq,aq,aq,.inr (U.ao al (gW)),.inr (U.ao al (gW)),trivial⟩,?_⟩
      refine fB [11] az rfl ⟨?_,trivial⟩
      replace U:=(((((((U.perm Kt).perm KF).perm KI).perm KL).perm KQ).perm KU).perm KY).perm UF
      replace U:=xl U
      refine dW _ rfl rfl ab U rfl (dv MU rfl (List.Perm.refl _) (by exact (Px _ _ _ v lk M ⟨au.clock M.F+la,ky,vl⟩ k3 eK _ _ hq (by assumption) eP (by assumption) (fv:=fw)))) ?_
      rintro _ _ _ a w ⟨_,_,rfl,rfl,⟨rfl,rfl,Np,Q4,Re,Rn,Rw,rfl,GN⟩⟩ ab U
      replace U:=xl U
      refine ⟨⟨aq,aq,aq,.inr (U.ao al (gW)),.inr (U.ao al (gW)),aq,aq,aq,.inr (U.ao al (gW)),.inr (U.ao al (gW)),trivial⟩,?_⟩
      refine aS 12 rfl ab (U.ao al (gW)) (qQ (gq rfl rfl) (by simp)) fun a ab=>aS 13 rfl ab (U.ao al (gW)) (kS rfl) fun a ab=>ev az (acu Nq Q5 Rf Ro Rx SX SZ S1 S3 Np Q4 Re Rn Rw ((And.intro GO (And.intro Gz (And.intro GN trivial)))) (ab.sub (L':=[(4,_)]) ⟨rfl,trivial⟩) U)
     rintro a w ⟨Nq,Q5,Rf,Ro,Rx,SX,SZ,S1,S3,Np,Q4,Re,Rn,Rw,⟨GO,Gz,GN, -⟩,ab,U⟩
     (try dsimp only at ab U)
     refine lC _ _<|wp_ret ?_
     replace U:=((((((((((U.perm Un).perm qe).perm q5).perm q6).perm KO).perm KS).perm KW).perm E0).perm E1).perm E2).perm Kw
     exact cY (rs:=[.tmp 4]) rfl ab U (vs:=[_]) ⟨rfl,trivial⟩ [] [_,_,_,_,_,_,_,_,_,_,_,_,_,_,_,_,_,_,_] al (fO.k.k.k.k.k.k.k.k.k.k.k.k.k.k.k.k.k.k.k) (AU (M:=(au.add M ⟨au.clock M.F+la,ky,vl⟩).1) ⟨rfl,rfl,_,_,_,_,_,_,_,_,_,_,_,_,_,_,_,_,_,_,_,rfl,GO,Gz,GN⟩ (by rw [au.LS aU bz dI dE]))
theorem aeO(m:Int)(hm:12≤m∧m≤71)(w:World){ed:Nat×Nat}{eb:TypeId}(hq:w.heap[0]?=some (.cells (aL.eH.map cI).toArray eb ed)){gE:Nat×Nat}{gC:TypeId}(dF:w.heap[1]?=some (.cells (aL.eH.map cI).toArray gC gE)):cC Tryz.prog 80 [aA m] w (E6 (au.pX (ak.new m.toNat)) true):=by
 obtain ⟨n,rfl⟩:∃ n:Nat,m=(n:Int):=⟨m.toNat,by omega⟩
 rw [Int.toNat_natCast]
 exact aeN n ag w hq dF
end
section
theorem MR:b1 Tryz.prog 45:=b6 Tryz.func45
theorem X9:b1 Tryz.prog 80:=b6 Tryz.func80
theorem Ya:b1 Tryz.prog 81:=b6 Tryz.func81
theorem Yb:b1 Tryz.prog 82:=b6 Tryz.func82
theorem Xn:b1 Tryz.prog 125:=b6 Tryz.func125
attribute [local irreducible] aF.int aF.bytes aF.getInt aF.dZ aL.sum aj.fb aj.aT aj.c0 aj.a7 aj.c3 aj.gi aj.app aj.bW au.dec au.enc ak.new ak.dx ak.e6 ak.hi ak.lj au.add au.taken au.vm au.tf au.ek au.keys bs.mK au.iB au.mB au.keyOf
theorem UO(sb bl ml:Nat)(pd pj v ae5 afb v2 adi:Value)(F:List au.bK)(qu:au.Good F)(w:World){Vo Vp Vq:TypeId}{YP YQ YR:Nat×Nat}(qA:w.heap[sb]?=some (.cells [pd,.pointer (some ⟨bl,0,none⟩),.pointer (some ⟨ml,0,none⟩)].toArray Vo YP))(hl:w.heap[bl]?=some (.cells [pj,v].toArray Vp YQ))(fp:bo Go.aK.hW (cf w) v F)(hm:w.heap[ml]?=some (.cells [ae5,afb,v2,adi].toArray Vq YR))(fV:bo Go.aK.hW (cf w) v2 F){ed:Nat×Nat}{eb:TypeId}(hq:w.heap[0]?=some (.cells (aL.eH.map cI).toArray eb ed)){gE:Nat×Nat}{gC:TypeId}(dF:w.heap[1]?=some (.cells (aL.eH.map cI).toArray gC gE)):cC Tryz.prog 82 [.pointer (some ⟨sb,0,none⟩)] w (fun r _ _=>r=.bool true):=by
 refine c4 Tryz.func82 rfl Tryz.ntmps82 b4 fun a ab U=>?_
 have c6:=fp.1
 have oe:=qu.len
 have gl:=qu.srt
 have oc:=au.Ft qu
 refine aD ab U (av rfl<|ah) fun a w ab U=>aD ab U (ai rfl<|ae (bN rfl)<|ae (aZ fM rfl rfl (s':=0) az)<|ae (ji nS rfl qA rfl rfl)<|ae (bN rfl)<|ae (aZ kh rfl rfl (s':=0) az)<|ae (ji dh rfl hm rfl rfl)<|av rfl<|ah) fun a w ab U=>ax fun dX cq=>ax fun et cB=>?_
 revert U;revert ab;apply hL (J:=ki (α0:=Value) 129 _ _ _ _ _) #[false,false,false,false,false,false,false,false,false,false,false,false,false,false,false,false,false,false,false,false,false] 21 mixed rfl rfl
 ·intro w ab U
  refine aS 0 rfl ab (U.ao al ay) (bE rfl) fun a ab=>aS 1 rfl ab (U.ao al ay) (bN rfl) fun a ab=>aS 2 rfl ab (U.ao al ay) (aZ fM rfl rfl (s':=0) az) fun a ab=>aS 3 rfl ab (U.ao al ay) (ji iF rfl qA rfl rfl) fun a ab=>aS 5 rfl ab (U.ao al ay) (bE rfl) fun a ab=>?_
  refine bY 4 rfl rfl ab U rfl (eT yY rfl (fun w U=>yW _ _ _ _ ag w (U.ext _ _ hl) (bo.mono (U.le cM) fp))) ?_
  rintro Tm _ _ a w ⟨_,_,rfl,rfl,⟨rfl,rfl⟩⟩ ab U
  refine ⟨⟨.inr U.ax,aq,aq,.inr U.ax,.inr U.ax,trivial⟩,?_⟩
  refine bY 6 rfl rfl ab U rfl (eC (bV wE rfl (fun w U=>xL _ _ _ w (ie (hl:=au.hO) (h1:=au.hy) (xs:=F) (U.dp 0 rfl) rfl (by first | omega | (simp;done) | decide) (au.lA qu)) (bo.mono (U.le cM) fV)) bP)) ?_
  rintro _ _ _ a w ⟨rfl,rfl,rfl⟩ ab U
  refine ⟨⟨aq,aq,aq,.inr U.ax,.inr U.ax,trivial⟩,?_⟩
  refine aS 7 rfl ab (U.ao al ay) (fZ rfl) fun a ab=>aS 8 rfl ab (U.ao al ay) (bE rfl) fun a ab=>jW 9 _ rfl (hn 26 rfl rfl) az rfl ab (U.ao al ay) (bE rfl) fun a ab=>jW 10 _ rfl (hn 26 rfl rfl) az rfl ab (U.ao al ay) (bN rfl) fun a ab=>jW 11 _ rfl (hn 26 rfl rfl) az rfl ab (U.ao al ay) (aZ fM rfl rfl (s':=0) az) fun a ab=>?_
  refine jW 12 _ rfl (hn 26 rfl rfl) az rfl ab (U.ao al ay) (ji iF rfl qA rfl rfl) fun a ab=>jW 14 _ rfl (hn 26 rfl rfl) az rfl ab (U.ao al ay) (bE rfl) fun a ab=>jW 15 _ rfl (hn 26 rfl rfl) az rfl ab (U.ao al ay) (bN rfl) fun a ab=>jW 16 _ rfl (hn 26 rfl rfl) az rfl ab (U.ao al ay) (aZ fM rfl rfl (s':=0) az) fun a ab=>jW 17 _ rfl (hn 26 rfl rfl) az rfl ab (U.ao al ay) (ji nS rfl qA rfl rfl) fun a ab=>?_
  refine fB [13] az rfl ⟨?_,trivial⟩
  refine vI _ rfl (hn 26 rfl rfl) rfl ab U rfl (eC (bV y0 rfl (fun w U=>yO _ _ _ _ w (U.ext _ _ hl) (bo.mono (U.le cM) fp)) bP)) ?_
  rintro _ _ _ a w ⟨rfl,rfl,rfl⟩ ab U
  refine ⟨⟨.inr U.ax,.inr U.ax,.inr U.ax,.inr U.ax,aq,aq,.inr U.ax,.inr U.ax,aq,aq,aq,aq,aq,.inr U.ax,.inr U.ax,trivial⟩,?_⟩
  refine fB [18] az rfl ⟨?_,trivial⟩
  refine vI _ rfl (hn 26 rfl rfl) rfl ab U rfl (eC (bV wG rfl (fun w U=>xi _ _ _ _ _ _ w (U.ext _ _ hm) (bo.mono (U.le cM) fV)) bP)) ?_
  rintro _ _ _ a w ⟨rfl,rfl,rfl⟩ ab U
  refine ⟨⟨aq,aq,.inr U.ax,.inr U.ax,aq,aq,.inr U.ax,.inr U.ax,aq,aq,aq,aq,aq,.inr U.ax,.inr U.ax,trivial⟩,?_⟩
  refine jW 19 _ rfl (hn 26 rfl rfl) az rfl ab (U.ao al ay) (kT (dS rfl rfl) (by simp)) fun a ab=>aS 20 rfl ab (U.ao al ay) (hB rfl rfl) fun a ab=>ev az (l6 Tm (trivial) (ab.sub (L':=[(0,_),(3,_),(38,_)]) ⟨rfl,rfl,rfl,trivial⟩) U)
 rintro a w ⟨Tm, -,ab,U⟩
 (try dsimp only at ab U)
 refine cB _ _<|df ab rfl (fun h=>absurd h (by simp)) (fun _=>?_)
 refine wp_skip<|cq _ _<|ax fun dL b9=>h2 11 mixed az ab U (ai rfl<|ae (bN rfl)<|ae (aZ fM rfl rfl (s':=0) az)<|ae (ji nS rfl qA rfl rfl)<|ae (bV wG rfl (fun w U=>xi _ _ _ _ _ _ w (U.ext _ _ hm) (bo.mono (U.le cM) fV)) bP)<|ae (ox rfl rfl ag)<|ai rfl<|ae (bN rfl)<|ae (aZ fM rfl rfl (s':=0) az)<|ae (ji nS rfl qA rfl rfl)<|ae (bV wG rfl (fun w U=>xi _ _ _ _ _ _ w (U.ext _ _ hm) (bo.mono (U.le cM) fV)) bP)<|ah) fun a w ab U=>aJ ab U rfl (eu dm bH rfl rfl bM a8 rfl rfl) ?_
 rintro v1 _ _ a w ⟨rfl,rfl⟩ ab U
 replace U:=e7 U
 refine aG ab U (av rfl<|ah) fun a w ab U=>wpList_nil (b9 _ _ ?_)
 refine ax fun eN cK=>ax fun fa cT=>bx ab U (av rfl<|ah) fun a w ab U=>?_
 obtain ⟨tks,lH⟩:∃ x:List Int,x=[-1,0,au.clock F/2,au.clock F,1099511627776]:=⟨_,rfl⟩
 have pT:tks.length=5:=by rw [lH];rfl
 have abS:∀ x∈tks, -1≤x∧x≤1099511627776:=by rw [lH];intro x aM;simp only [List.mem_cons,List.not_mem_nil,or_false] at aM;rcases aM with rfl | rfl | rfl | rfl | rfl <;> omega
 replace U:=U.DZ rfl (show [aA (-1),aA 0,aA (au.clock F/2),aA (au.clock F),aA 1099511627776]=tks.map aA by rw [lH];rfl)
 clear lH
 refine cT _ _<|wp_block ?_
 obtain ⟨bG,a6,U⟩:=U.c1
 refine dy (γ:=Nat) (0) (fun (i:Nat)=>[(5,aA (i:Int))]) [(0,_),(3,_),(4,_)] (fun (i:Nat)=>bG) (fun (i:Nat)=>i≤5) (fun (i:Nat)=>5-i) (ab.sub ⟨rfl,rfl,rfl,rfl,trivial⟩) (by subst a6;exact U) (by exact Nat.zero_le _) ?_
 rintro i a w bh ab U
 subst a6;(try dsimp only at bh ab U)
 have eL:=bh
 replace U:=e7 U
 refine ax fun fk cP=>aD ab U (ai rfl<|ai rfl<|ae (hA dm 0 rfl rfl)<|ae (cU rfl rfl)<|ah) fun a w ab U=>cn ab rfl (fun bz=>?_) (fun bz=>?_)
 ·have HS:=abS _ (ak.jm (l:=tks) (d:=0) (j:=i) ag)
  rw [← Int.toNat_natCast i] at HS
  have jE:=au.Je (au.iB F (tks.getD (i:Int).toNat 0))
  have oW:=au.C9 F (tks.getD (i:Int).toNat 0)
  have CM:∀ x∈(au.keys F (tks.getD (i:Int).toNat 0)),x.length≤140737488355328:=fun x aM=>by obtain ⟨f,bw,_,rfl⟩:=(au.Da F _ x).1 aM;exact (yC fp f bw).2.1
  refine wp_skip<|cP _ _<|ax fun hU ef=>wp_block ?_
  refine ax fun ho dK=>ax fun iZ eY=>?_
  revert U;revert ab;apply hL (J:=kj (α0:=Value) (α1:=Value) 129 _ _ _ _ _) #[false,false,false,false,false,false,false,false,false,false,false,false,false,false,false,false,false,false,false,false,false,false,false,false,false,false,false,false,false,false,false,false,false,false,false] 35 mixed rfl rfl
  ·intro w ab U
   refine aS 0 rfl ab (U.ao al ay) (bE rfl) fun a ab=>aS 1 rfl ab (U.ao al ay) (bN rfl) fun a ab=>aS 2 rfl ab (U.ao al ay) (aZ fM rfl rfl (s':=0) az) fun a ab=>aS 3 rfl ab (U.ao al ay) (ji iF rfl qA rfl rfl) fun a ab=>aS 4 rfl ab (U.ao al ay) (bE rfl) fun a ab=>?_
   refine aS 5 rfl ab (U.ao al ay) (bE rfl) fun a ab=>aS 6 rfl ab (U.ao al (ay.k)) (fY dm bH 0 rfl rfl rfl ag) fun a ab=>aS 7 rfl ab (U.ao al (ay.k)) (ma (f:=aA) (xs:=tks) bH 0 0 rfl rfl ag rfl) fun a ab=>aS 9 rfl ab (U.ao al ay) (bE rfl) fun a ab=>aS 10 rfl ab (U.ao al ay) (bE rfl) fun a ab=>?_
   refine aS 11 rfl ab (U.ao al ay) (bE rfl) fun a ab=>aS 12 rfl ab (U.ao al (ay.k)) (fY dm bH 0 rfl rfl rfl ag) fun a ab=>aS 13 rfl ab (U.ao al (ay.k)) (ma (f:=aA) (xs:=tks) bH 0 0 rfl rfl ag rfl) fun a ab=>bY 8 rfl rfl ab U rfl (eT MP rfl (fun w U=>O1 _ _ _ _ _ gl ag w (U.ext _ _ hl) (bo.mono (U.le cM) fp))) ?_
   rintro Tz _ _ a w ⟨_,_,rfl,rfl,⟨rfl,rfl⟩⟩ ab U
   refine ⟨⟨.inr (U.ew (ay.k.n)),.inr (U.ew (ay.k.n)),.inr U.ax,.inr U.ax,.inr U.ax,aq,aq,.inr U.ax,.inr U.ax,aq,aq,.inr U.ax,.inr U.ax,trivial⟩,?_⟩
   refine bY 14 rfl rfl ab U rfl (eT M8 rfl (fun w U=>RN _ _ _ ag w (bo.mono (U.le cM) fV))) ?_
   rintro Tu _ _ a w ⟨_,_,rfl,rfl,⟨rfl,rfl⟩⟩ ab U
   refine ⟨⟨aq,aq,.inr U.ax,.inr U.ax,aq,aq,aq,.inr U.ax,.inr U.ax,aq,aq,.inr U.ax,.inr U.ax,trivial⟩,?_⟩
   refine bY 15 rfl rfl ab U rfl (eC (bV MQ rfl (fun w U=>ahy _ _ _ w (lM (f:=vs) (xs:=(au.keys F (tks.getD (i:Int).toNat 0))) (U.dp 1 rfl) (CM) rfl (by first | decide | omega)) (lM (f:=vs) (xs:=(au.keys F (tks.getD (i:Int).toNat 0))) (U.dp 0 rfl) (CM) rfl (by first | decide | omega))) bP)) ?_
   rintro _ _ _ a w ⟨rfl,rfl,rfl⟩ ab U
   refine ⟨⟨aq,aq,.inr U.ax,.inr U.ax,aq,aq,aq,.inr U.ax,.inr U.ax,aq,aq,.inr U.ax,.inr U.ax,trivial⟩,?_⟩
   refine aS 16 rfl ab (U.ao al ay) (fZ rfl) fun a ab=>aS 17 rfl ab (U.ao al ay) (bE rfl) fun a ab=>jW 18 _ rfl (hn 74 rfl rfl) az rfl ab (U.ao al ay) (bE rfl) fun a ab=>jW 19 _ rfl (hn 74 rfl rfl) az rfl ab (U.ao al ay) (bN rfl) fun a ab=>jW 20 _ rfl (hn 74 rfl rfl) az rfl ab (U.ao al ay) (aZ fM rfl rfl (s':=0) az) fun a ab=>?_
   refine jW 21 _ rfl (hn 74 rfl rfl) az rfl ab (U.ao al ay) (ji iF rfl qA rfl rfl) fun a ab=>jW 22 _ rfl (hn 74 rfl rfl) az rfl ab (U.ao al ay) (bE rfl) fun a ab=>jW 23 _ rfl (hn 74 rfl rfl) az rfl ab (U.ao al ay) (bE rfl) fun a ab=>jW 24 _ rfl (hn 74 rfl rfl) az rfl ab (U.ao al (ay.k.n.n)) (fY dm bH 0 rfl rfl rfl ag) fun a ab=>jW 25 _ rfl (hn 74 rfl rfl) az rfl ab (U.ao al (ay.k.n.n)) (ma (f:=aA) (xs:=tks) bH 0 0 rfl rfl ag rfl) fun a ab=>?_
   refine jW 27 _ rfl (hn 74 rfl rfl) az rfl ab (U.ao al ay) (bE rfl) fun a ab=>jW 28 _ rfl (hn 74 rfl rfl) az rfl ab (U.ao al ay) (bE rfl) fun a ab=>jW 29 _ rfl (hn 74 rfl rfl) az rfl ab (U.ao al ay) (bE rfl) fun a ab=>jW 30 _ rfl (hn 74 rfl rfl) az rfl ab (U.ao al (ay.k.n.n)) (fY dm bH 0 rfl rfl rfl ag) fun a ab=>jW 31 _ rfl (hn 74 rfl rfl) az rfl ab (U.ao al (ay.k.n.n)) (ma (f:=aA) (xs:=tks) bH 0 0 rfl rfl ag rfl) fun a ab=>?_
   refine fB [26] az rfl ⟨?_,trivial⟩
   refine vI _ rfl (hn 74 rfl rfl) rfl ab U rfl (eC (bV XV rfl (fun w U=>ado _ _ _ _ _ gl ag w (U.ext _ _ hl) (bo.mono (U.le cM) fp) (U.ext _ _ dF)) bP)) ?_
   rintro _ _ _ a w ⟨rfl,rfl,rfl⟩ ab U
   refine ⟨⟨.inr (U.ew (ay.k.n.n)),.inr (U.ew (ay.k.n.n)),.inr U.ax,.inr U.ax,.inr U.ax,aq,aq,.inr U.ax,.inr U.ax,aq,aq,.inr U.ax,.inr U.ax,aq,aq,aq,aq,.inr U.ax,.inr U.ax,aq,aq,aq,.inr U.ax,.inr U.ax,aq,aq,.inr U.ax,.inr U.ax,trivial⟩,?_⟩
   refine fB [32] az rfl ⟨?_,trivial⟩
   refine vI _ rfl (hn 74 rfl rfl) rfl ab U rfl (eC (bV Xn rfl (fun w U=>aec _ _ _ ag w (bo.mono (U.le cM) fV) (U.ext _ _ hq)) bP)) ?_
   rintro _ _ _ a w ⟨rfl,rfl,rfl⟩ ab U
   refine ⟨⟨aq,aq,.inr U.ax,.inr U.ax,aq,aq,aq,.inr U.ax,.inr U.ax,aq,aq,.inr U.ax,.inr U.ax,aq,aq,aq,aq,.inr U.ax,.inr U.ax,aq,aq,aq,.inr U.ax,.inr U.ax,aq,aq,.inr U.ax,.inr U.ax,trivial⟩,?_⟩
   refine jW 33 _ rfl (hn 74 rfl rfl) az rfl ab (U.ao al ay) (kT (QU di bI az rfl rfl aI aI) (by simp)) fun a ab=>aS 34 rfl ab (U.ao al ay) (hB rfl rfl) fun a ab=>ev az (lI Tz Tu (trivial) (ab.sub (L':=[(0,_),(3,_),(4,_),(5,_),(91,_)]) ⟨rfl,rfl,rfl,rfl,rfl,trivial⟩) U)
  rintro a w ⟨Tz,Tu, -,ab,U⟩
  (try dsimp only at ab U)
  refine eY _ _<|df ab rfl (fun h=>absurd h (by simp)) (fun _=>?_)
  refine wp_skip<|dK _ _<|aD ab U (av rfl<|ah) fun a w ab U=>wp_block ?_
  obtain ⟨bG,a6,U⟩:=U.c1
  refine dy (γ:=Nat) (0) (fun (k:Nat)=>[(6,aA (k:Int))]) [(0,_),(3,_),(4,_),(5,_)] (fun (k:Nat)=>bG) (fun (k:Nat)=>k≤6) (fun (k:Nat)=>6-k) (ab.sub ⟨rfl,rfl,rfl,rfl,rfl,trivial⟩) (by subst a6;exact U) (by exact Nat.zero_le _) ?_
  rintro k a w bh ab U
  subst a6;(try dsimp only at bh ab U)
  have l5:=bh
  replace U:=jt U
  refine ax fun kY gF=>aD ab U (ai rfl<|ae (cU rfl rfl)<|ah) fun a w ab U=>cn ab rfl (fun dI=>?_) (fun dI=>?_)
  ·refine wp_skip<|gF _ _<|ax fun mw hz=>wp_block ?_
   refine iE mixed az ab U (ai rfl<|ae (bN rfl)<|ae (aZ fM rfl rfl (s':=0) az)<|ae (ji iF rfl qA rfl rfl)<|ai rfl<|ai rfl<|ae (fY dm bH 2 rfl rfl rfl ag)<|ae (ma (f:=aA) (xs:=tks) bH 2 0 rfl rfl ag rfl)<|ai rfl<|ae (bV F3 rfl (fun w U=>Ia _ ag w ) bP)<|ae (bV y1 rfl (fun w U=>yH _ _ _ _ _ _ gl ag w (U.ext _ _ hl) (bo.mono (U.le cM) fp)) bP)<|ai rfl<|ae (cQ rfl rfl)<|ae (cQ rfl rfl)<|av rfl<|av rfl<|ah) fun a w ab U=>iE mixed az ab U (ai rfl<|ai rfl<|ai rfl<|ae (fY dm bH 2 rfl rfl rfl ag)<|ae (ma (f:=aA) (xs:=tks) bH 2 0 rfl rfl ag rfl)<|ai rfl<|ae (bV F3 rfl (fun w U=>Ia _ ag w ) bP)<|ae (bV MN rfl (fun w U=>RO _ _ _ _ w (bo.mono (U.le cM) fV)) bP)<|ai rfl<|ae (cQ rfl rfl)<|ae (cQ rfl rfl)<|av rfl<|av rfl<|ah) fun a w ab U=>aD ab U (ai rfl<|ai rfl<|ae (kT (rY rfl rfl) (by simp))<|ai rfl<|aO 124 rfl rfl rfl (bE rfl)<|aO 124 rfl rfl rfl (bE rfl)<|aO 124 rfl rfl rfl (xt (afZ fL rfl rfl) (by simp))<|ae (hB rfl rfl)<|ah) fun a w ab U=>df ab rfl (fun h=>absurd h (by simp)) (fun _=>?_)
   refine wp_skip<|hz _ _<|bx ab U (ai rfl<|b5 rfl rfl<|av rfl<|ah) fun a w ab U=>⟨(k+1),?_,?_,ab.sub ⟨rfl,rfl,rfl,rfl,rfl,trivial⟩,?_⟩
   ·(try dsimp only);omega
   ·omega
   ·exact U
  ·refine wp_exit<|ef _ _<|bx ab U (ai rfl<|b5 rfl rfl<|av rfl<|ah) fun a w ab U=>?_
   replace U:=U.ao ay (fO)
   refine ⟨(i+1),?_,?_,ab.sub ⟨rfl,rfl,rfl,rfl,trivial⟩,?_⟩
   ·(try dsimp only);omega
   ·omega
   ·exact U
 ·refine wp_exit<|cK _ _<|aD ab U (av rfl<|ah) fun a w ab U=>wp_ret ?_
  exact b0 (rs:=[.tmp 2]) rfl ab U (vs:=[_]) ⟨rfl,trivial⟩ ay ay (rfl)
theorem aff(v:Value)(l:List Int)(sec most:Int)(w5 : -9223372036854775808≤sec∧sec≤9223372036854775807)(aa8:0≤most∧most≤16)(w:World)(aw:bo Go.aK.encI (cf w) v l){ed:Nat×Nat}{eb:TypeId}(hq:w.heap[0]?=some (.cells (aL.eH.map cI).toArray eb ed)){gE:Nat×Nat}{gC:TypeId}(dF:w.heap[1]?=some (.cells (aL.eH.map cI).toArray gC gE)):cC Tryz.prog 44 [v,aA sec,aA most] w (fun r zs hs=>∃ M:au.gg,au.Good M.F∧E6 M true r zs hs):=by
 refine c4 Tryz.func44 rfl Tryz.ntmps44 b4 fun a ab U=>?_
 have c6:=aw.1
 have rC:=cN.qj (n:=sec) (m:=60) a8
 refine bc fun eJ c8=>aJ ab U rfl (dg fM) ?_
 rintro _ _ _ a w ⟨ck,rfl,rfl,rfl⟩ ab U
 refine aG ab U (av rfl<|ah) fun a w ab U=>wpList_nil (c8 _ _ ?_)
 refine bc fun cG bJ=>aG ab U (ai rfl<|ae (bV mC rfl (fun w U=>mz _ _ ag ag w ) bP)<|b5 rfl rfl<|ah) fun a w ab U=>aJ ab U rfl (eT X9 rfl (fun w U=>aeO _ ag w (U.ext _ _ hq) (U.ext _ _ dF))) ?_
 rintro _ _ _ a w ⟨_,_,rfl,rfl,⟨rfl,BK,CI,Eo,Ve,OQ,ad1,adH,adf,YC,YL,agf,agl,agq,agv,aiS,aiV,aiZ,ai2,aeS,ae1,ae3,ae6,rfl,rfl,Zv,Zg,ZP⟩⟩ ab U
 replace U:aB _ [] [_,_,_,_,_,_,_,_,_,_,_,_,_,_,_,_,_,_,_] _:=U
 refine aG ab U (ai rfl<|ae (cQ rfl rfl)<|ae (cQ rfl rfl)<|ah) fun a w ab U=>aJ ab U rfl (dg fM) ?_
 rintro _ _ _ a w ⟨U2,rfl,rfl,rfl⟩ ab U
 refine aJ ab U rfl (cJ fM 0 rfl rfl rfl rfl aI (bp rfl (bp rfl (bp rfl dO))) aI) ?_
 rintro _ _ _ a w ⟨rfl,rfl,rfl⟩ ab U
 replace U:aB _ [] [_,_,_,_,_,_,_,_,_,_,_,_,_,_,_,_,_,_,_,_] _:=U
 refine aG ab U (av rfl<|ah) fun a w ab U=>wpList_nil (bJ _ _ ?_)
 refine ax fun dX cq=>aD ab U (ai rfl<|ae (fZ rfl)<|ah) fun a w ab U=>df ab rfl (fun h=>absurd h (by simp)) (fun _=>?_)
 refine wp_skip<|cq _ _<|bc fun dL b9=>aG ab U (ai rfl<|ai rfl<|ah) fun a w ab U=>aJ ab U rfl (eT Ya rfl (fun w U=>ahG _ _ _ aa8 w (bo.mono (U.le cM) aw))) ?_
 rintro _ _ _ a w ⟨_,_,rfl,rfl,⟨afl,z49,rfl,rfl,zU,abr⟩⟩ ab U
 replace U:=pZ U
 refine aG ab U (av rfl<|ah) fun a w ab U=>wpList_nil (b9 _ _ ?_)
 refine ax fun eN cK=>ax fun fa cT=>bx ab U (av rfl<|ah) fun a w ab U=>?_
 obtain ⟨q,abw⟩:∃ x,x=afl:=⟨_,rfl⟩
 rw [← abw] at zU abr
 refine cT _ _<|wp_block ?_
 obtain ⟨bG,a6,U⟩:=U.c1
 refine dy (γ:=au.gg×Nat×Nat×Nat×Nat×Bool×Value×Value×aC×aC×aC×aC×aC×aC×aC×aC×aC×aC×aC×aC×Nat) ((au.pX (ak.new (12+cN.fl sec 60).toNat)),Ve,OQ,ad1,adH,adf,YC,YL,agf,agl,agq,agv,aiS,aiV,aiZ,ai2,aeS,ae1,ae3,ae6,0) (fun (M,bl,jb,ml,mb,lk,fv,fw,cu,ct,cx,cz,d1,d2,d3,d4,jv,jw,jx,kc,i)=>[(11,aA (i:Int))]) [(6,_),(8,_),(10,_)] (fun (M,bl,jb,ml,mb,lk,fv,fw,cu,ct,cx,cz,d1,d2,d3,d4,jv,jw,jx,kc,i)=>(((((((((((((((((((bG.set 0 (E5 U2 CI.b bl ml)).set 1 (yp bl jb fv)).set 2 (mx fv M.F)).set 3 (cu)).set 4 (ct)).set 5 (cx)).set 6 (cz)).set 7 (d1)).set 8 (d2)).set 9 (d3)).set 10 (d4)).set 11 (pr ml BK mb fw lk)).set 12 (mx fw M.F)).set 13 (jv)).set 14 (jw)).set 15 (jx)).set 16 (kc)).set 17 (fQ BK Eo M.S)).set 18 (fR Eo M.S))) (fun (M,bl,jb,ml,mb,lk,fv,fw,cu,ct,cx,cz,d1,d2,d3,d4,jv,jw,jx,kc,i)=>i≤q.length∧au.Good M.F∧mu jb CI.b M.J cu ct cx cz∧hF CI M.S d1 d2 d3 d4∧mr mb BK M.J jv jw jx kc) (fun (M,bl,jb,ml,mb,lk,fv,fw,cu,ct,cx,cz,d1,d2,d3,d4,jv,jw,jx,kc,i)=>q.length-i) (ab.sub ⟨rfl,rfl,rfl,rfl,trivial⟩) (by subst a6;dsimp only [List.set_cons_zero,List.set_cons_succ];exact U) (by exact ⟨Nat.zero_le _,au.AW _,Zv,Zg,ZP⟩) ?_
 rintro ⟨M,bl,jb,ml,mb,lk,fv,fw,cu,ct,cx,cz,d1,d2,d3,d4,jv,jw,jx,kc,i⟩ a w bh ab U
 subst a6;(try dsimp only at bh);(try dsimp only at ab);(try dsimp only [dd] at U)
 obtain ⟨eL,uL,NS,NL,NU⟩:=bh
 replace U:=pZ U
 have amu:=uL.len
 refine ax fun fk cP=>aD ab U (ai rfl<|ai rfl<|ae (ee AY zU rfl)<|ae (cU rfl rfl)<|ah) fun a w ab U=>cn ab rfl (fun bz=>?_) (fun bz=>?_)
 ·obtain ⟨afh,abt,abf,abp⟩:=au.ah9 zU (k:=(i:Int).toNat) ag
  refine wp_skip<|cP _ _<|ax fun hU ef=>wp_block ?_
  refine bc fun ho dK=>aG ab U (ai rfl<|ai rfl<|ae (dV AY hv zU rfl rfl ag)<|mR rfl (au.afO hv zU (.inr (by simp)) abt rfl rfl ag)<|ah) fun a w ab U=>aJ ab U rfl (dv MR rfl (List.Perm.refl _) (by exact (LU _ _ _ Eo M (q.getD (i:Int).toNat au.mQ).k (q.getD (i:Int).toNat au.mQ).n (q.getD (i:Int).toNat au.mQ).la (q.getD (i:Int).toNat au.mQ).ky (q.getD (i:Int).toNat au.mQ).vl (q.getD (i:Int).toNat au.mQ).ps afh abf _ _ _ abp (.inr (by simp)) hq dF uL NS NL NU (bl:=bl) (ml:=ml) (lk:=lk) (fv:=fv) (fw:=fw)))) ?_
  rintro _ _ _ a w ⟨_,_,rfl,rfl,⟨rfl,rfl,Vd,acy,ad0,adG,adh,YJ,YO,agj,ago,agt,agy,aiU,aiX,ai1,ai4,aeT,ae2,ae4,ae7,rfl,ZB,Zj,ZT⟩⟩ ab U
  replace U:=pZ U
  refine aG ab U (ae (fZ rfl)<|ah) fun a w ab U=>wpList_nil (dK _ _ ?_)
  refine df ab rfl (fun h=>absurd h (by simp)) (fun _=>?_)
  refine wp_skip<|ef _ _<|bx ab U (ai rfl<|b5 rfl rfl<|av rfl<|ah) fun a w ab U=>⟨((au.mB M ⟨(q.getD (i:Int).toNat au.mQ).k,(q.getD (i:Int).toNat au.mQ).n,(q.getD (i:Int).toNat au.mQ).la,(q.getD (i:Int).toNat au.mQ).ky,(q.getD (i:Int).toNat au.mQ).vl,(q.getD (i:Int).toNat au.mQ).ps⟩),Vd,acy,ad0,adG,adh,YJ,YO,agj,ago,agt,agy,aiU,aiX,ai1,ai4,aeT,ae2,ae4,ae7,i+1),?_,?_,ab.sub ⟨rfl,rfl,rfl,rfl,trivial⟩,?_⟩
  ·(try dsimp only);omega
  ·exact ⟨by omega,au.Wq uL,ZB,Zj,ZT⟩
  ·dsimp only [List.set_cons_zero,List.set_cons_succ];exact U
 ·refine wp_exit<|cK _ _<|ax fun iZ eY=>h2 2 mixed az ab U (ae (gh fM 0 rfl rfl aI rfl)<|ae (bV Yb rfl (fun w U=>UO _ _ _ _ _ _ _ _ _ _ _ uL w (j0 U 0 rfl) (j0 U 1 rfl) (ie (hl:=au.hO) (h1:=au.hy) (U.dp 2 rfl) rfl (by first | omega | (simp;done)) (au.lA uL)) (j0 U 11 rfl) (ie (hl:=au.hO) (h1:=au.hy) (U.dp 12 rfl) rfl (by first | omega | (simp;done)) (au.lA uL)) (U.ext _ _ hq) (U.ext _ _ dF)) bP)<|ah) fun a w ab U=>aJ ab U rfl (cJ fM 19 rfl rfl rfl rfl aI (bp rfl (bp rfl (bp rfl dO))) aI) ?_
  rintro _ _ _ a w ⟨rfl,rfl,rfl⟩ ab U
  replace U:=pZ U
  refine aG ab U (av rfl<|ah) fun a w ab U=>wpList_nil (eY _ _ ?_)
  refine wp_ret ?_
  replace U:=(((((((((U.perm (.swap _ _ _)).perm hN).perm j6).perm km).perm pw).perm qg).perm q7).perm q8).perm yu).perm yv
  replace U:=U.perm (.cons _ (.cons _ (.cons _ (.cons _ (.cons _ (.cons _ (.cons _ (.cons _ (.cons _ (.cons _ (.swap _ _ _)))))))))))
  replace U:=U.perm (.cons _ (.cons _ (.cons _ (.cons _ (.cons _ (.cons _ (.cons _ (.cons _ (.cons _ (.cons _ (.cons _ (.swap _ _ _))))))))))))
  replace U:=U.perm (.cons _ (.cons _ (.cons _ (.cons _ (.cons _ (.cons _ (.cons _ (.cons _ (.cons _ (.cons _ (.cons _ (.cons _ (.swap _ _ _)))))))))))))
  replace U:=U.perm (.cons _ (.cons _ (.cons _ (.cons _ (.cons _ (.cons _ (.cons _ (.cons _ (.cons _ (.cons _ (.cons _ (.cons _ (.cons _ (.swap _ _ _))))))))))))))
  replace U:=U.perm (.cons _ (.cons _ (.cons _ (.cons _ (.cons _ (.cons _ (.cons _ (.cons _ (.cons _ (.cons _ (.cons _ (.cons _ (.cons _ (.cons _ (.swap _ _ _)))))))))))))))
  replace U:=U.perm (.cons _ (.cons _ (.cons _ (.cons _ (.cons _ (.cons _ (.cons _ (.cons _ (.cons _ (.cons _ (.cons _ (.cons _ (.cons _ (.cons _ (.cons _ (.swap _ _ _))))))))))))))))
  replace U:=U.perm (.cons _ (.cons _ (.cons _ (.cons _ (.cons _ (.cons _ (.cons _ (.cons _ (.cons _ (.cons _ (.cons _ (.cons _ (.cons _ (.cons _ (.cons _ (.cons _ (.swap _ _ _)))))))))))))))))
  replace U:=U.perm (.cons _ (.cons _ (.cons _ (.cons _ (.cons _ (.cons _ (.cons _ (.cons _ (.cons _ (.cons _ (.cons _ (.cons _ (.cons _ (.cons _ (.cons _ (.cons _ (.cons _ (.swap _ _ _))))))))))))))))))
  exact b0 (rs:=[.cell 6 82,.tmp 7]) rfl ab U (vs:=[_,_]) ⟨⟨_,_,_,_,_,_,_,rfl,List.mem_of_getElem? (i:=19) rfl,fM,.inl ⟨rfl,aI,rfl⟩⟩,rfl,trivial⟩ ay (ay.k.k.k.k.k.k.k.k.k.k.k.k.k.k.k.k.k.k) ⟨M,uL,rfl,BK,CI,Eo,_,_,_,_,_,_,_,_,_,_,_,_,_,_,_,_,_,_,_,rfl,rfl,NS,NL,NU⟩
end
section
theorem XY:b1 Tryz.prog 44:=b6 Tryz.func44
attribute [local irreducible] aF.int aF.bytes aF.getInt aF.dZ aL.sum aj.fb aj.aT aj.c0 aj.a7 aj.c3 aj.gi aj.app aj.bW au.dec au.enc ak.new ak.dx ak.e6 ak.hi ak.lj au.add au.taken au.vm au.tf au.ek au.keys bs.mK au.iB au.mB au.keyOf
end
section
attribute [local irreducible] aF.int aF.bytes aF.getInt aF.dZ aL.sum aj.fb aj.aT aj.c0 aj.a7 aj.c3 aj.gi aj.app aj.bW au.dec au.enc ak.new ak.dx ak.e6 ak.hi ak.lj au.add au.taken au.vm au.tf au.ek au.keys bs.mK au.iB au.mB au.keyOf cN.fl
theorem adn(v v2:Value)(l ps:List Int)(sec steps n9:Int)(w5 : -9223372036854775808≤sec∧sec≤9223372036854775807)(Oq : -9223372036854775808≤steps∧steps≤9223372036854775807)(zE : -9223372036854775808≤n9∧n9≤9223372036854775807)(w:World)(aw:bo Go.aK.encI (cf w) v l)(fV:bo Go.aK.encI (cf w) v2 ps){ed:Nat×Nat}{eb:TypeId}(hq:w.heap[0]?=some (.cells (aL.eH.map cI).toArray eb ed)){gE:Nat×Nat}{gC:TypeId}(dF:w.heap[1]?=some (.cells (aL.eH.map cI).toArray gC gE)):cC Tryz.prog 9 [v,aA sec,aA steps,v2,aA n9] w (fun r _ _=>r=.bool true):=by
 refine c4 Tryz.func9 rfl Tryz.ntmps9 b4 fun a ab U=>?_
 have c6:=aw.1
 have aae:=fV.1
 have rC:=cN.qj (n:=steps) (m:=9) a8
 have al5:=cN.qj (n:=n9) (m:=256) a8
 refine aD ab U (av rfl<|ah) fun a w ab U=>bc fun cG bJ=>aG ab U (ai rfl<|ai rfl<|ah) fun a w ab U=>aJ ab U rfl (eT XY rfl (fun w U=>aff _ _ _ _ w5 a8 w (bo.mono (U.le cM) aw) (U.ext _ _ hq) (U.ext _ _ dF))) ?_
 rintro _ _ _ a w ⟨_,_,rfl,rfl,⟨M2,Zo,rfl,akR,amw,Ep,Vf,aoi,ad2,aon,adg,YD,YM,DP,DQ,DR,DS,aqj,aqx,aqL,aq0,aoA,aoD,aoF,aoH,rfl,rfl,GH,wM,ZQ⟩⟩ ab U
 replace U:aB _ [] [_,_,_,_,_,_,_,_,_,_,_,_,_,_,_,_,_,_] _:=U
 refine aG ab U (ai rfl<|ae (cQ rfl rfl)<|ae (cQ rfl rfl)<|ah) fun a w ab U=>aJ ab U rfl (dg fM) ?_
 rintro _ _ _ a w ⟨akN,rfl,rfl,rfl⟩ ab U
 refine aJ ab U rfl (cJ fM 0 rfl rfl rfl rfl aI (bp rfl (bp rfl (bp rfl dO))) aI) ?_
 rintro _ _ _ a w ⟨rfl,rfl,rfl⟩ ab U
 replace U:aB _ [] [_,_,_,_,_,_,_,_,_,_,_,_,_,_,_,_,_,_,_] _:=U
 refine aG ab U (av rfl<|ah) fun a w ab U=>wpList_nil ?_
 have Cu:=ak.mV.ok wM
 refine bJ _ _<|ax fun dX cq=>aD ab U (ai rfl<|ae (fZ rfl)<|ah) fun a w ab U=>df ab rfl (fun h=>absurd h (by simp)) (fun _=>?_)
 refine wp_skip<|cq _ _<|ax fun dL b9=>bc fun eN cK=>aJ ab U rfl (eu dm bH rfl rfl bM a8 rfl rfl) ?_
 rintro ajf _ _ a w ⟨rfl,rfl⟩ ab U
 replace U:aB _ [] [_,_,_,_,_,_,_,_,_,_,_,_,_,_,_,_,_,_,_,_] _:=U
 replace U:aB _ [] [_,_,_,_,_,_,_,_,_,_,_,_,_,_,_,_,_,_,_,_] _:=(U)
 obtain ⟨zp,w9,U⟩:=aB.qo (h0:=fun _=>rfl) (f:=aA) (p:=fun x => -9223372036854775808≤x∧x≤9223372036854775807) (xs:=[0,64]) U rfl a8 a8
 skip
 replace U:aB _ [_] [_,_,_,_,_,_,_,_,_,_,_,_,_,_,_,_,_,_,_] _:=U
 refine aG ab U (ae (hJ (places:=[(0,1),(1,1),(2,1),(3,1),(4,1),(5,1)]) (cells:=[_,.int .i64 0,.int .i64 0,.string ⟨(List.nil:List UInt8).toArray⟩,.string ⟨(List.nil:List UInt8).toArray⟩,_]) hv az rfl (rr (c:=[_]) (l:=[_,_,_,_,_,_]) (l':=[_,_,_,_,_,_]) rfl (rn rfl) rfl b4 rfl (rr (c:=[_]) (l:=[_,_,_,_,_,_]) (l':=[_,_,_,_,_,_]) rfl (rn (mP w9)) rfl b4 rfl (FQ rfl))))<|ah) fun a w ab U=>aJ ab U rfl (dv MR rfl (List.Perm.refl _) (by exact (LU _ _ _ Ep M2 7 0 0 [] [] [0,64] ajf ⟨by decide,by decide,by decide,by decide,by decide⟩ _ _ _ w9 (.inr (by simp)) hq dF Zo GH wM ZQ (bl:=Vf) (ml:=ad2) (lk:=adg) (fv:=YD) (fw:=YM)))) ?_
 rintro _ _ _ a w ⟨_,_,rfl,rfl,⟨rfl,rfl,akY,aoh,aor,aoo,Pj,YH,YN,agi,agn,ags,agx,aiT,aiW,ai0,ai3,aoB,aoE,aoG,aoI,rfl,GL,Gt,GY⟩⟩ ab U
 replace U:aB _ [_] [_,_,_,_,_,_,_,_,_,_,_,_,_,_,_,_,_,_,_] _:=U
 refine aG ab U (ae (fZ rfl)<|ah) fun a w ab U=>wpList_nil ?_
 obtain ⟨dY,nH,fH,oS⟩:∃ dY,au.mB M2 ⟨7,0,0,[],[],[0,64]⟩=au.pX dY∧aj.Still dY∧ak.Ok dY:=⟨_,au.FH rfl,aj.Ir _ Cu,ak.xn Cu _⟩
 rw [nH] at GL;dsimp only [au.pX] at GL
 rw [nH] at Gt;dsimp only [au.pX] at Gt
 rw [nH] at GY;dsimp only [au.pX] at GY
 rw [nH] at U;dsimp only [au.pX] at U
 have Cp:au.Good (au.taken (aj.bW dY).tx):=au.AW _
 have ams:=Cp.len
 have zm:=au.lA Cp
 have oc:=au.Ft Cp
 have al2:ak.Ok (ak.dx dY (cN.fl steps 9)):=ak.Dx oS ag
 replace U:aB _ [_] [_,_,_,_,_,_,_,_,_,_,_,_,_,_,_,_,_,_,_] _:=U
 refine cK _ _<|df ab rfl (fun h=>absurd h (by simp)) (fun _=>?_)
 refine wp_skip<|b9 _ _<|bc fun fa cT=>aG ab U (ae (aZ fM rfl rfl (s':=0) az)<|ae (bf iF 0 rfl rfl rfl rfl)<|ah) fun a w ab U=>aJ ab U rfl (eT yY rfl (fun w U=>yW _ _ _ _ ag w (j0 U 1 rfl) (ie (hl:=au.hO) (h1:=au.hy) (U.dp 2 rfl) rfl (by first | omega | (simp;done)) zm))) ?_
 rintro ard _ _ a w ⟨_,_,rfl,rfl,⟨rfl,rfl⟩⟩ ab U
 replace U:=pZ U
 refine aG ab U (av rfl<|ah) fun a w ab U=>wpList_nil (cT _ _ ?_)
 refine ax fun fk cP=>h2 4 mixed az ab U (ae (aZ fM rfl rfl (s':=0) az)<|ae (bf mS 1 rfl rfl rfl rfl)<|ai rfl<|ae (bV mC rfl (fun w U=>mz _ _ ag ag w ) bP)<|ah) fun a w ab U=>?_
 replace U:=(((U.perm q3).perm qe).perm q5).perm q6
 replace U:=pZ U
 refine aJ ab U rfl (dv F5 rfl (List.Perm.refl _) (by exact (FJ _ _ _ ag _ _  Gt))) ?_
 rintro _ _ _ a w ⟨_,_,rfl,rfl,⟨rfl,rfl,ao0,apk,apF,ap0,rfl,Zm⟩⟩ ab U
 replace U:=pZ U
 refine wpList_nil (cP _ _ ?_)
 refine ax fun gB du=>h2 7 mixed az ab U (ae (aZ fM rfl rfl (s':=0) az)<|ae (bf nS 5 rfl rfl rfl rfl)<|ae (bN rfl)<|ae (aZ kh rfl rfl (s':=0) az)<|ae (bf oC 12 rfl rfl rfl rfl)<|ai rfl<|ae (bV mC rfl (fun w U=>mz _ _ ag ag w ) bP)<|ah) fun a w ab U=>?_
 replace U:=(U.perm ET).perm EW
 replace U:=pZ U
 refine aJ ab U rfl (dv MS rfl (List.Perm.refl _) (by exact (R8 _ _ _  (by first | assumption | exact ak.iO (by assumption) | exact ak.kz (by assumption) _ _) (S:=dY) (v:=Ep)))) ?_
 rintro _ _ _ a w ⟨_,_,rfl,rfl,⟨rfl,rfl,rfl⟩⟩ ab U
 replace U:=pZ U
 refine wpList_nil (du _ _ ?_)
 refine bc fun hU ef=>aG ab U (ae (aZ fM rfl rfl (s':=0) az)<|ae (bf iF 7 rfl rfl rfl rfl)<|ae (bV y0 rfl (fun w U=>yO _ _ _ _ w (j0 U 8 rfl) (ie (hl:=au.hO) (h1:=au.hy) (U.dp 9 rfl) rfl (by first | omega | (simp;done)) zm)) bP)<|ai rfl<|ae (bV mC rfl (fun w U=>mz _ _ ag ag w ) bP)<|ah) fun a w ab U=>aJ ab U rfl (eT MT rfl (fun w U=>TE _ ag w )) ?_
 rintro _ _ _ a w ⟨_,_,rfl,rfl,⟨rfl,rfl,jj,rfl,anR⟩⟩ ab U
 replace U:=pZ U
 refine aG ab U (ae (ow b2 3 az rfl rfl (bp rfl (bp rfl (bp rfl dO))) rfl rfl)<|ah) fun a w ab U=>aJ ab U rfl (dg b2) ?_
 rintro _ _ _ a w ⟨akO,rfl,rfl,rfl⟩ ab U
 refine aJ ab U rfl (cJ b2 0 rfl rfl rfl rfl aI (bp rfl (bp rfl (bp rfl dO))) aI) ?_
 rintro _ _ _ a w ⟨rfl,rfl,rfl⟩ ab U
 replace U:=qI U
 refine wpList_nil ?_
 have k3:au.j4 (⟨au.clock (au.taken (aj.bW dY).tx),[110,101,119],jj⟩:au.bK):=⟨⟨by dsimp only;omega,by dsimp only;omega⟩,by dsimp only [List.length_cons,List.length_nil];omega,by dsimp only;omega⟩
 have eK:([110,101,119]:List UInt8).length≤1048576∧jj.length≤1048576:=⟨by decide,by omega⟩
 refine ef _ _<|bc fun ho dK=>aG ab U (ae (aZ fM rfl rfl (s':=0) az)<|ae (bf iF 8 rfl rfl rfl rfl)<|ae (gh b2 0 rfl rfl aI rfl)<|ah) fun a w ab U=>?_
 replace U:=(((((((((U.perm Ku).perm KG).perm Ur).perm Uu).perm Ux).perm UB).perm v7).perm K2).perm K3).perm K4
 replace U:=qI U
 refine aJ ab U rfl (dv wF rfl (List.Perm.refl _) (by exact (xg _ _ _ ⟨aj.bW dY,ak.dx dY (cN.fl steps 9),(au.taken (aj.bW dY).tx)⟩ (⟨au.clock (au.taken (aj.bW dY).tx),[110,101,119],jj⟩:au.bK) k3 eK _ _ dF (by assumption) GL Zm (fv:=YH)))) ?_
 rintro _ _ _ a w ⟨_,_,rfl,rfl,⟨rfl,rfl,alF,ao2,apm,apH,ap2,aqt,aqH,aqV,aq9,rfl,ZC,Gv⟩⟩ ab U
 replace U:=qI U
 refine aG ab U (av rfl<|ah) fun a w ab U=>wpList_nil (dK _ _ ?_)
 refine bc fun iZ eY=>aG ab U (ae (aZ fM rfl rfl (s':=0) az)<|ae (bf nS 14 rfl rfl rfl rfl)<|ae (gh b2 10 rfl rfl aI rfl)<|ah) fun a w ab U=>?_
 replace U:=(((((((U.perm Ul).perm Uq).perm Ut).perm Uw).perm Uy).perm UC).perm UD).perm UE
 replace U:=qI U
 refine aJ ab U rfl (dv MU rfl (List.Perm.refl _) (by exact (Px _ _ _ Ep Pj ⟨aj.bW dY,ak.dx dY (cN.fl steps 9),(au.taken (aj.bW dY).tx)⟩ (⟨au.clock (au.taken (aj.bW dY).tx),[110,101,119],jj⟩:au.bK) k3 eK _ _ hq (by assumption) GY (by assumption) (fv:=YN)))) ?_
 rintro _ _ _ a w ⟨_,_,rfl,rfl,⟨rfl,rfl,YK,aoL,ao4,apo,apK,rfl,NP⟩⟩ ab U
 replace U:=qI U
 refine wpList_nil ?_
 obtain ⟨A,gw⟩:∃ A,au.add ⟨aj.bW dY,ak.dx dY (cN.fl steps 9),(au.taken (aj.bW dY).tx)⟩ (⟨au.clock (au.taken (aj.bW dY).tx),[110,101,119],jj⟩:au.bK)=A:=⟨_,rfl⟩
 rw [gw] at ZC
 rw [gw] at Gv
 rw [gw] at NP
 rw [gw] at U
 rw [gw] at ab
 have alV:au.Good A.1.F:=by rw [← gw];exact au.K9 Cp _
 have alZ:=ak.mV.ok Gv
 have CO:(ak.e6 A.1.S ps).off=false:=by unfold ak.e6;rfl
 refine eY _ _<|bc fun iR eO=>aG ab U (ae (aZ fM rfl rfl (s':=0) az)<|ae (bf mS 20 rfl rfl rfl rfl)<|ai rfl<|ah) fun a w ab U=>?_
 replace U:=(((U.perm Uk).perm Up).perm Us).perm Uv
 replace U:=qI U
 refine aJ ab U rfl (dv F6 rfl (List.Perm.refl _) (by exact (FG _ _ _ _ _ _ _ fV cM Gv))) ?_
 rintro _ _ _ a w ⟨_,_,rfl,rfl,⟨rfl,rfl,age,agk,agp,agu,rfl,NK⟩⟩ ab U
 replace U:=qI U
 refine wpList_nil (eO _ _ ?_)
 refine bc fun kY gF=>aG ab U (ae (aZ fM rfl rfl (s':=0) az)<|ae (bf nS 20 rfl rfl rfl rfl)<|ai rfl<|ah) fun a w ab U=>?_
 replace U:=(((((((U.perm kD).perm ln).perm lp).perm lV).perm ud).perm EZ).perm KZ).perm K0
 replace U:=qI U
 refine aJ ab U rfl (dv MV rfl (List.Perm.refl _) (by exact (PG _ _ _ Ep Pj A.1 v2 ps _ _ _ fV cM hq (by assumption) NP (by assumption) (fv:=YK)))) ?_
 rintro _ _ _ a w ⟨_,_,rfl,rfl,⟨rfl,aop,aoa,aly,aoM,ao6,apq,apL,rfl,rfl,Zs⟩⟩ ab U
 replace U:=qI U
 refine aG ab U (ai rfl<|ae (cQ rfl rfl)<|ae (cQ rfl rfl)<|av rfl<|av rfl<|ah) fun a w ab U=>wpList_nil ?_
 obtain ⟨ug,kG⟩:∃ ug,ak.e6 A.1.S ps=ug:=⟨_,rfl⟩
 rw [kG] at NK
 rw [kG] at Zs
 rw [kG] at U
 rw [kG] at CO
 have GD:au.Good (au.taken (aj.bW ug).tx):=au.AW _
 have amt:=GD.len
 have He:=au.lA GD
 replace U:=U.ao ay (mf.k.k.k.k.n.n.n.n.n.n.n.k)
 replace U:aB _ [] [_,_,_,_,_,_,_,_] _:=U
 refine gF _ _<|bc fun j5 fC=>aG ab U (ae (aZ fM rfl rfl (s':=0) az)<|ae (bf mS 7 rfl rfl rfl rfl)<|ah) fun a w ab U=>?_
 replace U:=(((U.perm (.swap _ _ _)).perm hN).perm j6).perm km
 replace U:aB _ [] [_,_,_,_,_,_,_,_] _:=U
 refine aJ ab U rfl (dv yZ rfl (List.Perm.refl _) (by exact (z6 _ _ (by assumption) _ _ dF NK))) ?_
 rintro _ _ _ a w ⟨_,_,rfl,rfl,⟨rfl,akU,aob,alz,aoN,ao7,aps,apN,aqh,aqv,aqJ,aqY,rfl,rfl,alW,Ze⟩⟩ ab U
 replace U:aB _ [] [_,_,_,_,_,_,_,_,_,_,_,_,_,_] _:=U
 refine aG ab U (ai rfl<|ae (cQ rfl rfl)<|ae (cQ rfl rfl)<|av rfl<|av rfl<|ah) fun a w ab U=>wpList_nil (fC _ _ ?_)
 refine bc fun mw hz=>aG ab U (ae (aZ fM rfl rfl (s':=0) az)<|ae (bf mS 13 rfl rfl rfl rfl)<|ah) fun a w ab U=>?_
 replace U:=(((U.perm EU).perm Bv).perm KJ).perm KM
 replace U:aB _ [] [_,_,_,_,_,_,_,_,_,_,_,_,_,_] _:=U
 refine aJ ab U rfl (dv MW rfl (List.Perm.refl _) (by exact (Qb _ _ (by assumption) _ _ dF Ze))) ?_
 rintro _ _ _ a w ⟨_,_,rfl,rfl,⟨rfl,aod,aoO,ao8,apt,apO,aqi,aqw,aqK,aqZ,rfl,rfl,Zu,alT⟩⟩ ab U
 replace U:aB _ [] [_,_,_,_,_,_,_,_,_,_,_,_,_,_,_,_,_,_] _:=U
 refine aG ab U (ai rfl<|ae (cQ rfl rfl)<|ae (cQ rfl rfl)<|av rfl<|av rfl<|ah) fun a w ab U=>wpList_nil (hz _ _ ?_)
 refine ax fun oF jg=>aD ab U (ai rfl<|ae (kT (dS rfl rfl) (by simp))<|ai rfl<|aO 91 rfl rfl rfl (bE rfl)<|aO 91 rfl rfl rfl (kT (dS rfl rfl) (by simp))<|ae (hB rfl rfl)<|ai rfl<|aO 95 rfl rfl rfl (bE rfl)<|aO 95 rfl rfl rfl (kT (dS rfl rfl) (by simp))<|ae (hB rfl rfl)<|ai rfl<|aO 99 rfl rfl rfl (bE rfl)<|aO 99 rfl rfl rfl (xt (o5 iF rfl rfl) (by simp))<|ae (hB rfl rfl)<|ai rfl<|aO 103 rfl rfl rfl (bE rfl)<|aO 103 rfl rfl rfl (xt (o5 SV rfl rfl) (by simp))<|ae (hB rfl rfl)<|ah) fun a w ab U=>df ab rfl (fun h=>absurd h (by simp)) (fun _=>?_)
 refine wp_skip<|jg _ _<|ax fun qa ko=>aD ab U (ai rfl<|ae (bN rfl)<|ae (aZ kh rfl rfl (s':=0) az)<|ae (bf fL 14 rfl rfl rfl rfl)<|ah) fun a w ab U=>df ab rfl (fun dI=>?_) (fun dI=>?_)
 ·refine ax fun sg lC=>bx ab U (ae (bV yX rfl (fun w U=>zZ w (U.ext _ _ dF)) bP)<|av rfl<|ah) fun a w ab U=>lC _ _ ?_
  refine wp_ret<|b0 (rs:=[.tmp 10]) rfl ab U (vs:=[_]) ⟨rfl,trivial⟩ ay ay (rfl)
 ·obtain ⟨oV,rI⟩:=au.kept oS fH (⟨au.clock (au.taken (aj.bW dY).tx),[110,101,119],jj⟩:au.bK) (x:=(cN.fl steps 9)) ag ag (ps:=ps) gw (by rw [kG];exact dI)
  rw [kG] at oV rI
  have am5:=au.aix (aj.bW ug).tx
  have Hv:A.2=0→((au.taken (aj.bW ug).tx).length:Int)=((au.taken (aj.bW dY).tx).length:Int)+1:=fun h=>by rw [oV h,List.length_append];rfl
  replace U:=U.ao ay (ay.k.k.n.n.n.n.n.k.k.n.n.n.n.k.k.k.k)
  replace U:aB _ [] [_,_,_,_,_,_,_,_] _:=U
  refine wp_skip<|ko _ _<|bc fun sh l1=>aG ab U (ai rfl<|ah) fun a w ab U=>aJ ab U rfl (eT yY rfl (fun w U=>yW _ _ _ _ ag w (j0 U 4 rfl) (ie (hl:=au.hO) (h1:=au.hy) (U.dp 5 rfl) rfl (by first | omega | (simp;done)) (by assumption)))) ?_
  rintro v162 _ _ a w ⟨_,_,rfl,rfl,⟨rfl,rfl⟩⟩ ab U
  replace U:aB _ [] [_,_,_,_,_,_,_,_,_] _:=U
  refine aG ab U (av rfl<|ah) fun a w ab U=>wpList_nil (l1 _ _ ?_)
  refine ax fun Br rz=>bc fun Kn y9=>aG ab U (ai rfl<|ae (gq rfl rfl)<|ai rfl<|ah) fun a w ab U=>j3 2 116 6 ab U rfl rfl rfl rfl rfl (fun aP=>have aP:=(by first | exact of_decide_eq_true aP | exact aP);aO 116 rfl rfl rfl (bE rfl)<|aO 116 rfl rfl rfl (hA dh 0 rfl rfl)<|aO 116 rfl rfl rfl (bE rfl)<|aO 116 rfl rfl rfl (hA dh 8 rfl rfl)<|aO 116 rfl rfl rfl (o4 rfl rfl ag)<|aO 116 rfl rfl rfl (dS rfl rfl)<|ah) rfl rfl fun a w ab U=>?_
  refine aG ab U (ae (xt (bE rfl) (by rw [Bool.and_eq_false_iff];exact (Decidable.em (A.2=0)).elim (fun h=>.inr (by simp [Hv h])) (fun h=>.inl (decide_eq_false h))))<|aO 124 rfl rfl rfl (bE rfl)<|ah) fun a w ab U=>?_
  replace U:=(((U.perm (.swap _ _ _)).perm hN).perm j6).perm km
  replace U:aB _ [] [_,_,_,_,_,_,_,_,_] _:=U
  refine ye ab U (hn 124 rfl rfl) rfl (dv MX rfl (List.Perm.refl _) (by exact (OS _ _ _ _ _  Zu))) ?_
  rintro v164 _ _ a w ⟨_,_,rfl,rfl,⟨rfl,aoQ,ao9,apu,apP,rfl,alX⟩⟩ ab U
  replace U:aB _ [] [_,_,_,_,_,_,_,_,_,_] _:=U
  refine aG ab U (aO 124 rfl rfl rfl (hA cw 0 rfl rfl)<|aO 124 rfl rfl rfl (bE rfl)<|aO 124 rfl rfl rfl (hA dh 5 rfl rfl)<|aO 124 rfl rfl rfl (QI (cU rfl rfl) ag)<|ae (hB rfl rfl)<|ah) fun a w ab U=>wpList_nil (y9 _ _ ?_)
  refine df ab rfl (fun h=>absurd h (by simp)) (fun _=>?_)
  refine wp_skip<|rz _ _<|ax fun Bs rA=>aD ab U (ai rfl<|ae (hA dh 5 rfl rfl)<|ai rfl<|ae (hA dh 9 rfl rfl)<|b5 rfl rfl<|ae (gq rfl rfl)<|ah) fun a w ab U=>cn ab rfl (fun iI=>?_) (fun iI=>?_)
  ·have wV:(au.taken (aj.bW ug).tx)=((au.taken (aj.bW dY).tx)++[(⟨au.clock (au.taken (aj.bW dY).tx),[110,101,119],jj⟩:au.bK)]):=by
    rcases rI with cA | cA
    ·exfalso;rw [cA] at iI;omega
    ·exact cA
   rw [wV] at U
   have uX:au.Good ((au.taken (aj.bW dY).tx)++[(⟨au.clock (au.taken (aj.bW dY).tx),[110,101,119],jj⟩:au.bK)]):=wV ▸ GD
   have an4:=uX.len
   refine ax fun EP uN=>?_
   revert U;revert ab;apply hL (J:=tX (α0:=Value) (α1:=Value) (α2:=Value) (α3:=Value) 155 _ _ _ _ _) #[false,false,false,false,false,false,false,false,false,false,false,false] 12 mixed rfl rfl
   ·intro w ab U
    refine aS 0 rfl ab (U.ao al ay) (bE rfl) fun a ab=>aS 2 rfl ab (U.ao al ay) (bE rfl) fun a ab=>aS 4 rfl ab (U.ao al (ay.k.n.n.n.n.n.n.n.n)) (gh b2 0 rfl rfl aI rfl) fun a ab=>fB [1,5] az rfl ⟨?_,?_,trivial⟩
    ·refine dW _ rfl rfl ab U rfl (sx dh b2) ?_
     rintro tN _ _ a w ⟨rfl,rfl⟩ ab U
     refine ⟨⟨.inr (U.ew (ay.k.n.n.n.n.n.n.n.n.n)),.inr U.ax,.inr U.ax,trivial⟩,?_⟩
     refine fB [3,5] az rfl ⟨?_,?_,trivial⟩
     ·refine dW _ rfl rfl ab U rfl (dH dh b2 0 rfl rfl rfl (eo dh (k:=10) rfl (Bt _ au.hy)) aI rfl a8) ?_
      rintro x9 _ _ a w ⟨rfl,rfl⟩ ab U
      replace U:aB _ [] [_,_,_,_,_,_,_,_,_,_,_] _:=(U)
      rw [Nat.zero_add,List.nil_append] at U
      replace U:aB _ [] [_,_,_,_,_,_,_,_,_,_,_] _:=U
      refine ⟨⟨.inr (U.ew (ay.k.n.n.n.n.n.n.n.n.n)),aq,.inr U.ax,trivial⟩,?_⟩
      refine bY 5 rfl rfl ab U rfl (oN dh b2 rfl aI a8 bM a8 a8) ?_
      rintro ya _ _ a w ⟨rfl,rfl⟩ ab U
      refine ⟨⟨aq,aq,.inr U.ax,trivial⟩,?_⟩
      refine bY 6 rfl rfl ab U rfl (dH dh b2 1 rfl rfl rfl (eo dh (k:=0) rfl bM) aI rfl a8) ?_
      rintro yb _ _ a w ⟨rfl,rfl⟩ ab U
      replace U:aB _ [] [_,_,_,_,_,_,_,_,_,_,_,_] _:=(U)
      rw [show (au.taken (aj.bW dY).tx).flatMap au.je++[aA (au.clock (au.taken (aj.bW dY).tx)),vs [110,101,119],vs jj]=((au.taken (aj.bW dY).tx)++[(⟨au.clock (au.taken (aj.bW dY).tx),[110,101,119],jj⟩:au.bK)]).flatMap au.je from au.wB (au.taken (aj.bW dY).tx) (⟨au.clock (au.taken (aj.bW dY).tx),[110,101,119],jj⟩:au.bK),au.xh (au.taken (aj.bW dY).tx) (⟨au.clock (au.taken (aj.bW dY).tx),[110,101,119],jj⟩:au.bK)] at U
      replace U:=qH U
      refine ⟨⟨aq,aq,.inr U.ax,trivial⟩,?_⟩
      refine bY 7 rfl rfl ab U rfl (eC (bV wE rfl (fun w U=>xL _ _ _ w (ie (hl:=au.hO) (h1:=au.hy) (xs:=((au.taken (aj.bW dY).tx)++[(⟨au.clock (au.taken (aj.bW dY).tx),[110,101,119],jj⟩:au.bK)])) (U.dp 7 rfl) rfl (by first | omega | (simp;done) | decide) (au.lA uX)) (ie (hl:=au.hO) (h1:=au.hy) (xs:=((au.taken (aj.bW dY).tx)++[(⟨au.clock (au.taken (aj.bW dY).tx),[110,101,119],jj⟩:au.bK)])) (U.dp 1 rfl) rfl (by first | omega | (simp;done) | decide) (au.lA uX))) bP)) ?_
      rintro _ _ _ a w ⟨rfl,rfl,rfl⟩ ab U
      refine ⟨⟨aq,aq,aq,trivial⟩,?_⟩
      refine aS 8 rfl ab (U.ao al ay) (bE rfl) fun a ab=>fB [9] az rfl ⟨?_,trivial⟩
      refine vI _ rfl (hn 146 rfl rfl) rfl ab U rfl (eC (bV yX rfl (fun w U=>zZ w (U.ext _ _ dF)) bP)) ?_
      rintro _ _ _ a w ⟨rfl,rfl,rfl⟩ ab U
      refine ⟨⟨aq,aq,aq,aq,trivial⟩,?_⟩
      refine aS 10 rfl ab (U.ao al ay) (kU rfl rfl) fun a ab=>aS 11 rfl ab (U.ao al ay) (kS rfl) fun a ab=>ev az (oY tN x9 ya yb (trivial) (ab.sub (L':=[(10,_)]) ⟨rfl,trivial⟩) U)
     ·refine dW _ rfl rfl ab U rfl (oN dh b2 rfl aI a8 bM a8 a8) ?_
      rintro ya _ _ a w ⟨rfl,rfl⟩ ab U
      refine ⟨⟨aq,.inr U.ax,.inr U.ax,trivial⟩,?_⟩
      refine bY 3 rfl rfl ab U rfl (dH dh b2 1 rfl rfl rfl (eo dh (k:=11) rfl (Bt _ au.hy)) aI rfl a8) ?_
      rintro x9 _ _ a w ⟨rfl,rfl⟩ ab U
      replace U:aB _ [] [_,_,_,_,_,_,_,_,_,_,_,_] _:=(U)
      rw [Nat.zero_add,List.nil_append] at U
      replace U:=qH U
      refine ⟨⟨aq,aq,.inr U.ax,trivial⟩,?_⟩
      refine bY 6 rfl rfl ab U rfl (dH dh b2 1 rfl rfl rfl (eo dh (k:=0) rfl bM) aI rfl a8) ?_
      rintro yb _ _ a w ⟨rfl,rfl⟩ ab U
      replace U:aB _ [] [_,_,_,_,_,_,_,_,_,_,_,_] _:=(U)
      rw [show (au.taken (aj.bW dY).tx).flatMap au.je++[aA (au.clock (au.taken (aj.bW dY).tx)),vs [110,101,119],vs jj]=((au.taken (aj.bW dY).tx)++[(⟨au.clock (au.taken (aj.bW dY).tx),[110,101,119],jj⟩:au.bK)]).flatMap au.je from au.wB (au.taken (aj.bW dY).tx) (⟨au.clock (au.taken (aj.bW dY).tx),[110,101,119],jj⟩:au.bK),au.xh (au.taken (aj.bW dY).tx) (⟨au.clock (au.taken (aj.bW dY).tx),[110,101,119],jj⟩:au.bK)] at U
      replace U:=qH U
      refine ⟨⟨aq,aq,.inr U.ax,trivial⟩,?_⟩
      refine bY 7 rfl rfl ab U rfl (eC (bV wE rfl (fun w U=>xL _ _ _ w (ie (hl:=au.hO) (h1:=au.hy) (xs:=((au.taken (aj.bW dY).tx)++[(⟨au.clock (au.taken (aj.bW dY).tx),[110,101,119],jj⟩:au.bK)])) (U.dp 7 rfl) rfl (by first | omega | (simp;done) | decide) (au.lA uX)) (ie (hl:=au.hO) (h1:=au.hy) (xs:=((au.taken (aj.bW dY).tx)++[(⟨au.clock (au.taken (aj.bW dY).tx),[110,101,119],jj⟩:au.bK)])) (U.dp 1 rfl) rfl (by first | omega | (simp;done) | decide) (au.lA uX))) bP)) ?_
      rintro _ _ _ a w ⟨rfl,rfl,rfl⟩ ab U
      refine ⟨⟨aq,aq,aq,trivial⟩,?_⟩
      refine aS 8 rfl ab (U.ao al ay) (bE rfl) fun a ab=>fB [9] az rfl ⟨?_,trivial⟩
      refine vI _ rfl (hn 146 rfl rfl) rfl ab U rfl (eC (bV yX rfl (fun w U=>zZ w (U.ext _ _ dF)) bP)) ?_
      rintro _ _ _ a w ⟨rfl,rfl,rfl⟩ ab U
      refine ⟨⟨aq,aq,aq,aq,trivial⟩,?_⟩
      refine aS 10 rfl ab (U.ao al ay) (kU rfl rfl) fun a ab=>aS 11 rfl ab (U.ao al ay) (kS rfl) fun a ab=>ev az (oY tN x9 ya yb (trivial) (ab.sub (L':=[(10,_)]) ⟨rfl,trivial⟩) U)
    ·refine dW _ rfl rfl ab U rfl (oN dh b2 rfl aI a8 bM a8 a8) ?_
     rintro ya _ _ a w ⟨rfl,rfl⟩ ab U
     refine ⟨⟨aq,.inr U.ax,.inr U.ax,trivial⟩,?_⟩
     refine bY 1 rfl rfl ab U rfl (sx dh b2) ?_
     rintro tN _ _ a w ⟨rfl,rfl⟩ ab U
     refine ⟨⟨aq,.inr U.ax,.inr U.ax,trivial⟩,?_⟩
     refine bY 3 rfl rfl ab U rfl (dH dh b2 0 rfl rfl rfl (eo dh (k:=11) rfl (Bt _ au.hy)) aI rfl a8) ?_
     rintro x9 _ _ a w ⟨rfl,rfl⟩ ab U
     replace U:aB _ [] [_,_,_,_,_,_,_,_,_,_,_,_] _:=(U)
     rw [Nat.zero_add,List.nil_append] at U
     replace U:=qH U
     refine ⟨⟨aq,aq,.inr U.ax,trivial⟩,?_⟩
     refine bY 6 rfl rfl ab U rfl (dH dh b2 0 rfl rfl rfl (eo dh (k:=1) rfl bM) aI rfl a8) ?_
     rintro yb _ _ a w ⟨rfl,rfl⟩ ab U
     replace U:aB _ [] [_,_,_,_,_,_,_,_,_,_,_,_] _:=(U)
     rw [show (au.taken (aj.bW dY).tx).flatMap au.je++[aA (au.clock (au.taken (aj.bW dY).tx)),vs [110,101,119],vs jj]=((au.taken (aj.bW dY).tx)++[(⟨au.clock (au.taken (aj.bW dY).tx),[110,101,119],jj⟩:au.bK)]).flatMap au.je from au.wB (au.taken (aj.bW dY).tx) (⟨au.clock (au.taken (aj.bW dY).tx),[110,101,119],jj⟩:au.bK),au.xh (au.taken (aj.bW dY).tx) (⟨au.clock (au.taken (aj.bW dY).tx),[110,101,119],jj⟩:au.bK)] at U
     replace U:=qH U
     refine ⟨⟨aq,aq,.inr U.ax,trivial⟩,?_⟩
     refine bY 7 rfl rfl ab U rfl (eC (bV wE rfl (fun w U=>xL _ _ _ w (ie (hl:=au.hO) (h1:=au.hy) (xs:=((au.taken (aj.bW dY).tx)++[(⟨au.clock (au.taken (aj.bW dY).tx),[110,101,119],jj⟩:au.bK)])) (U.dp 7 rfl) rfl (by first | omega | (simp;done) | decide) (au.lA uX)) (ie (hl:=au.hO) (h1:=au.hy) (xs:=((au.taken (aj.bW dY).tx)++[(⟨au.clock (au.taken (aj.bW dY).tx),[110,101,119],jj⟩:au.bK)])) (U.dp 0 rfl) rfl (by first | omega | (simp;done) | decide) (au.lA uX))) bP)) ?_
     rintro _ _ _ a w ⟨rfl,rfl,rfl⟩ ab U
     refine ⟨⟨aq,aq,aq,trivial⟩,?_⟩
     refine aS 8 rfl ab (U.ao al ay) (bE rfl) fun a ab=>fB [9] az rfl ⟨?_,trivial⟩
     refine vI _ rfl (hn 146 rfl rfl) rfl ab U rfl (eC (bV yX rfl (fun w U=>zZ w (U.ext _ _ dF)) bP)) ?_
     rintro _ _ _ a w ⟨rfl,rfl,rfl⟩ ab U
     refine ⟨⟨aq,aq,aq,aq,trivial⟩,?_⟩
     refine aS 10 rfl ab (U.ao al ay) (kU rfl rfl) fun a ab=>aS 11 rfl ab (U.ao al ay) (kS rfl) fun a ab=>ev az (oY tN x9 ya yb (trivial) (ab.sub (L':=[(10,_)]) ⟨rfl,trivial⟩) (U.perm (.swap _ _ _)))
   rintro a w ⟨tN,x9,ya,yb, -,ab,U⟩
   (try dsimp only at ab U)
   refine uN _ _<|wp_ret ?_
   exact b0 (rs:=[.tmp 10]) rfl ab U (vs:=[_]) ⟨rfl,trivial⟩ ay ay (rfl)
  ·have wV:(au.taken (aj.bW ug).tx)=(au.taken (aj.bW dY).tx):=by
    rcases rI with cA | cA
    ·exact cA
    ·exfalso;rw [cA,List.length_append,List.length_singleton] at iI;omega
   rw [wV] at U
   refine wp_skip<|rA _ _<|aD ab U (ai rfl<|ai rfl<|ae (bV wE rfl (fun w U=>xL _ _ _ w (ie (hl:=au.hO) (h1:=au.hy) (xs:=(au.taken (aj.bW dY).tx)) (U.dp 5 rfl) rfl (by first | omega | (simp;done) | decide) zm) (ie (hl:=au.hO) (h1:=au.hy) (xs:=(au.taken (aj.bW dY).tx)) (U.dp 9 rfl) rfl (by first | omega | (simp;done) | decide) zm)) bP)<|ai rfl<|aO 152 rfl rfl rfl (bV yX rfl (fun w U=>zZ w (U.ext _ _ dF)) bP)<|ae (kU rfl rfl)<|av rfl<|ah) fun a w ab U=>wp_ret ?_
   exact b0 (rs:=[.tmp 10]) rfl ab U (vs:=[_]) ⟨rfl,trivial⟩ ay ay (rfl)
end
end Go.Proofs.YtngcjojijaknnaaGreatDoor
