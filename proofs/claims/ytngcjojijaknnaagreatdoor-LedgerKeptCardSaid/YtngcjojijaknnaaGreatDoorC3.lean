/- walks and plain laws -/
import Derived.Test.YtngcjojijaknnaaGreatDoorFwA
import Derived.Test.YtngcjojijaknnaaGreatDoorFwB
import Derived.Test.YtngcjojijaknnaaGreatDoorFwC
import Derived.Test.YtngcjojijaknnaaGreatDoorFwD
import Derived.Test.YtngcjojijaknnaaGreatDoorGuA
import Derived.Test.YtngcjojijaknnaaGreatDoorShW
import Derived.Test.YtngcjojijaknnaaGreatDoorFwG
import Derived.Test.YtngcjojijaknnaaGreatDoorMkA
import Derived.Test.YtngcjojijaknnaaGreatDoorLgA
import Derived.Test.YtngcjojijaknnaaGreatDoorC2
set_option linter.all false
namespace Go.Proofs.YtngcjojijaknnaaGreatDoor
open Go.aK
set_option maxRecDepth 4000
set_option maxHeartbeats 2000000
section
theorem AX:ba Tryz.prog 107 (.pointer 9) 1 8 (Value.pointer none):=⟨Tryz.underlying107,by kernel_rfl⟩
theorem Ef:ba Tryz.prog 108 (.slice 107) 1 24 (Value.slice none 0 0):=⟨Tryz.underlying108,by kernel_rfl⟩
theorem MD:b1 Tryz.prog 13:=b6 Tryz.func13
theorem MH:b1 Tryz.prog 14:=b6 Tryz.func14
theorem XZ:b1 Tryz.prog 56:=b6 Tryz.func56
theorem MZ:b1 Tryz.prog 60:=b6 Tryz.func60
theorem M1:b1 Tryz.prog 62:=b6 Tryz.func62
attribute [local irreducible] aF.int aF.bytes aF.getInt aF.dZ
theorem WV(f:au.bK)(bw:au.j4 f)(hs:f.ky.length≤1048576∧f.vl.length≤1048576)(w:World):cC Tryz.prog 16 [.agg [aA f.tk,vs f.ky,vs f.vl].toArray] w (fun v zs hs=>zs=[]∧hs=[.row v 5 1 (au.enc f).length ((au.enc f).map bn)]):=by
 refine c4 Tryz.func16 rfl Tryz.ntmps16 b4 fun a ab U=>?_
 have wU:=bw.1
 have oU:=aF.oo f.tk
 have oW:=aF.su f.ky
 have HV:=aF.su f.vl
 have rN:∀ x∈[aF.int f.tk,aF.bytes f.ky,aF.bytes f.vl],x.length≤1099511627776:=fun x aM=>by
  simp only [List.mem_cons,List.not_mem_nil,or_false] at aM
  rcases aM with rfl | rfl | rfl <;> omega
 refine bc fun eJ c8=>aJ ab U rfl (jV rfl) ?_
 rintro _ _ _ a w ⟨ck,rfl,rfl,rfl⟩ ab U
 refine aG ab U (av rfl<|ah) fun a w ab U=>wpList_nil (c8 _ _ ?_)
 refine ax fun cG bJ=>?_
 revert U;revert ab;apply hL (J:=yn (α0:=Value) (α1:=Value) (α2:=Value) (α3:=Value) (α4:=Value) 14 _ _ _ _ _) #[false,false,false,false,false,false,false,false,false,false,false,false] 12 mixed rfl rfl
 ·intro w ab U
  refine aS 0 rfl ab (U.ao al ay) (aZ b2 rfl rfl (s':=0) az) fun a ab=>aS 1 rfl ab (U.ao al al) (bf bH 0 rfl rfl rfl rfl) fun a ab=>aS 3 rfl ab (U.ao al ay) (aZ b2 rfl rfl (s':=0) az) fun a ab=>aS 4 rfl ab (U.ao al al) (bf bB 0 rfl rfl rfl rfl) fun a ab=>aS 6 rfl ab (U.ao al ay) (aZ b2 rfl rfl (s':=0) az) fun a ab=>?_
  refine aS 7 rfl ab (U.ao al al) (bf bB 0 rfl rfl rfl rfl) fun a ab=>bY 2 rfl rfl ab U rfl (eT Cd rfl (fun w U=>Eu _ w )) ?_
  rintro A6 _ _ a w ⟨_,_,rfl,rfl,rfl,rfl⟩ ab U
  refine ⟨⟨.inr (U.ew (c2)),.inr U.ax,.inr (U.ew (c2)),.inr U.ax,aq,aq,trivial⟩,?_⟩
  refine bY 5 rfl rfl ab U rfl (eT F8 rfl (fun w U=>J5 _ (by first | assumption | omega) w )) ?_
  rintro A7 _ _ a w ⟨_,_,rfl,rfl,rfl,rfl⟩ ab U
  refine ⟨⟨.inr (U.ew (fO)),.inr U.ax,aq,aq,aq,aq,trivial⟩,?_⟩
  refine bY 8 rfl rfl ab U rfl (eT F8 rfl (fun w U=>J5 _ (by first | assumption | omega) w )) ?_
  rintro Tl _ _ a w ⟨_,_,rfl,rfl,rfl,rfl⟩ ab U
  refine ⟨⟨aq,aq,aq,aq,aq,aq,trivial⟩,?_⟩
  refine fB [9] az rfl ⟨?_,trivial⟩
  have ank:=(bp (row_one (U.dp 2 rfl)) (bp (row_one (U.dp 1 rfl)) (bp (row_one (U.dp 0 rfl)) dO)))
  refine dW _ rfl rfl ab U rfl (eu A0 bX rfl rfl (bp (row_one (U.dp 2 rfl)) (bp (row_one (U.dp 1 rfl)) (bp (row_one (U.dp 0 rfl)) dO))) a8 rfl rfl) ?_
  rintro A8 _ _ a w ⟨rfl,rfl⟩ ab U
  refine ⟨⟨aq,aq,aq,aq,aq,aq,trivial⟩,?_⟩
  refine bY 10 rfl rfl ab U rfl (eT XZ rfl (fun w U=>V4 _ [aF.int f.tk,aF.bytes f.ky,aF.bytes f.vl] (by simp) rN w (aeQ (U.dp 0 rfl) (lM (U.dp 3 rfl) (fun _ _=>trivial) rfl ag) (lM (U.dp 2 rfl) (fun _ _=>trivial) rfl ag) (lM (U.dp 1 rfl) (fun _ _=>trivial) rfl ag)))) ?_
  rintro A5 _ _ a w ⟨_,_,rfl,rfl,rfl,rfl⟩ ab U
  refine ⟨⟨aq,aq,aq,aq,aq,aq,trivial⟩,?_⟩
  refine aS 11 rfl ab (U.ao al ay) (kS rfl) fun a ab=>ev az (xc A6 A7 Tl A8 A5 (trivial) (ab.sub (L':=[(2,_)]) ⟨rfl,trivial⟩) U)
 rintro a w ⟨A6,A7,Tl,A8,A5, -,ab,U⟩
 (try dsimp only at ab U)
 refine bJ _ _<|wp_ret ?_
 rw [au.WU] at U
 exact b0 (rs:=[.tmp 2]) rfl ab U (vs:=[_]) ⟨rfl,trivial⟩ ay ((ay.k)) ⟨rfl,rfl⟩
theorem agD(v:Value)(xs:List UInt8)(w:World)(aw:bo hc (cf w) v xs):cC Tryz.prog 19 [v] w (fun r _ _=>r=.tuple [.agg [aA (au.dec xs).1.tk,vs (au.dec xs).1.ky,vs (au.dec xs).1.vl].toArray,aA (au.dec xs).2].toArray):=by
 refine c4 Tryz.func19 rfl Tryz.ntmps19 b4 fun a ab U=>?_
 have c6:=aw.1
 have N5:=aF.y2 xs
 have k5:=au.L3 c6
 refine bc fun eJ c8=>aJ ab U rfl (dg b2) ?_
 rintro _ _ _ a w ⟨ck,rfl,rfl,rfl⟩ ab U
 refine aG ab U (av rfl<|ah) fun a w ab U=>wpList_nil (c8 _ _ ?_)
 refine aD ab U (ai rfl<|ae (bV M0 rfl (fun w U=>RM _ _ w (bo.mono (U.le cM) aw)) bP)<|ai rfl<|ae (cQ rfl rfl)<|ae (cQ rfl rfl)<|ae (cQ rfl rfl)<|av rfl<|av rfl<|av rfl<|ah) fun a w ab U=>ax fun dX cq=>aD ab U (ai rfl<|ae (dS rfl rfl)<|ah) fun a w ab U=>e9 ab rfl (fun aU=>?_) (fun aU=>?_)
 ·refine ax fun dL b9=>dM ?_
  refine aG ab U (ae (hJ (places:=[(0,1),(1,1),(2,1)]) (cells:=[.int .i64 0,.string ⟨(List.nil:List UInt8).toArray⟩,.string ⟨(List.nil:List UInt8).toArray⟩]) b2 az rfl (by rfl))<|ai rfl<|ah) fun a w ab U=>aJ ab U rfl (cJ b2 0 rfl rfl rfl rfl aI (bp rfl (bp rfl (bp rfl dO))) aI) ?_
  rintro _ _ _ a w ⟨rfl,rfl,rfl⟩ ab U
  replace U:=ft U
  refine aG ab U (av rfl<|ah) fun a w ab U=>wpList_nil (b9 _ _ ?_)
  refine wp_ret<|b0 (rs:=[.cell 2 24,.tmp 3]) rfl ab U (vs:=[_,_]) ⟨⟨_,_,_,_,_,_,_,rfl,List.mem_of_getElem? (i:=0) rfl,b2,.inl ⟨rfl,aI,rfl⟩⟩,rfl,trivial⟩ ay ay (by rw [au.FA aU];rfl)
 ·refine wp_skip<|cq _ _<|ax fun eN cK=>bx ab U (ai rfl<|ai rfl<|ae (Ar bX bI aw rfl rfl ag)<|ae (bV M1 rfl (fun w U=>RL _ _ w (bo.mono (U.le cM) (bo.cut aw ag))) bP)<|ai rfl<|ae (cQ rfl rfl)<|ae (cQ rfl rfl)<|ae (cQ rfl rfl)<|av rfl<|av rfl<|av rfl<|ah) fun a w ab U=>?_
  rw [List.take_length] at ab
  refine cK _ _<|ax fun fa cT=>aD ab U (ai rfl<|ae (dS rfl rfl)<|ah) fun a w ab U=>e9 ab rfl (fun bz=>?_) (fun bz=>?_)
  ·refine ax fun gB du=>dM ?_
   refine aG ab U (ae (hJ (places:=[(0,1),(1,1),(2,1)]) (cells:=[.int .i64 0,.string ⟨(List.nil:List UInt8).toArray⟩,.string ⟨(List.nil:List UInt8).toArray⟩]) b2 az rfl (by rfl))<|ai rfl<|ah) fun a w ab U=>aJ ab U rfl (cJ b2 0 rfl rfl rfl rfl aI (bp rfl (bp rfl (bp rfl dO))) aI) ?_
   rintro _ _ _ a w ⟨rfl,rfl,rfl⟩ ab U
   replace U:=ft U
   refine aG ab U (av rfl<|ah) fun a w ab U=>wpList_nil (du _ _ ?_)
   refine wp_ret<|b0 (rs:=[.cell 2 24,.tmp 3]) rfl ab U (vs:=[_,_]) ⟨⟨_,_,_,_,_,_,_,rfl,List.mem_of_getElem? (i:=0) rfl,b2,.inl ⟨rfl,aI,rfl⟩⟩,rfl,trivial⟩ ay ay (by rw [au.FB ag bz];rfl)
  ·have abj:=au.yS (b:=xs) bz
   have zJ:(au.d1 xs).2.1=(aF.dZ (List.drop (aF.getInt xs).2.1.toNat xs)).2.1:=rfl
   refine wp_skip<|cT _ _<|ax fun hU ef=>bx ab U (ai rfl<|ai rfl<|ai rfl<|b5 rfl rfl<|ae (Ar bX bI aw rfl rfl ag)<|ae (bV M1 rfl (fun w U=>RL _ _ w (bo.mono (U.le cM) (bo.cut aw ag))) bP)<|ai rfl<|ae (cQ rfl rfl)<|ae (cQ rfl rfl)<|ae (cQ rfl rfl)<|av rfl<|av rfl<|av rfl<|ah) fun a w ab U=>?_
   rw [List.take_length] at ab
   refine ef _ _<|ax fun ho dK=>aD ab U (ai rfl<|ae (dS rfl rfl)<|ah) fun a w ab U=>e9 ab rfl (fun cl=>?_) (fun cl=>?_)
   ·refine ax fun iR eO=>dM ?_
    refine aG ab U (ae (hJ (places:=[(0,1),(1,1),(2,1)]) (cells:=[.int .i64 0,.string ⟨(List.nil:List UInt8).toArray⟩,.string ⟨(List.nil:List UInt8).toArray⟩]) b2 az rfl (by rfl))<|ai rfl<|ah) fun a w ab U=>aJ ab U rfl (cJ b2 0 rfl rfl rfl rfl aI (bp rfl (bp rfl (bp rfl dO))) aI) ?_
    rintro _ _ _ a w ⟨rfl,rfl,rfl⟩ ab U
    replace U:=ft U
    refine aG ab U (av rfl<|ah) fun a w ab U=>wpList_nil (eO _ _ ?_)
    refine wp_ret<|b0 (rs:=[.cell 2 24,.tmp 3]) rfl ab U (vs:=[_,_]) ⟨⟨_,_,_,_,_,_,_,rfl,List.mem_of_getElem? (i:=0) rfl,b2,.inl ⟨rfl,aI,rfl⟩⟩,rfl,trivial⟩ ay ay (by rw [au.FC ag bz cl];rfl)
   ·have abk:=au.Fy (b:=xs) bz cl
    have w4:(au.d2 xs).2.1=(aF.dZ (List.drop ((aF.getInt xs).2.1+(aF.dZ (List.drop (aF.getInt xs).2.1.toNat xs)).2.1).toNat xs)).2.1:=rfl
    refine wp_skip<|dK _ _<|bc fun kY gF=>aG ab U (ai rfl<|ai rfl<|ai rfl<|ae (ow b2 3 az rfl rfl (bp rfl (bp rfl (bp rfl dO))) rfl rfl)<|ah) fun a w ab U=>aJ ab U rfl (dg b2) ?_
    rintro _ _ _ a w ⟨dD,rfl,rfl,rfl⟩ ab U
    refine aJ ab U rfl (cJ b2 0 rfl rfl rfl rfl aI (bp rfl (bp rfl (bp rfl dO))) aI) ?_
    rintro _ _ _ a w ⟨rfl,rfl,rfl⟩ ab U
    replace U:=e7 U
    refine wpList_nil (gF _ _ ?_)
    refine ax fun j5 fC=>bc fun mw hz=>aG ab U (ai rfl<|ai rfl<|b5 rfl rfl<|ai rfl<|b5 rfl rfl<|ai rfl<|ae (ee bX aw rfl)<|ae (dS rfl rfl)<|ai rfl<|ah) fun a w ab U=>gA 8 62 3 ab U rfl rfl rfl rfl rfl (fun aP=>have aP:=(Ad aP);aO 62 rfl rfl rfl (gh b2 0 rfl rfl aI rfl)<|aO 62 rfl rfl rfl (bV MH rfl (fun w U=>RK (au.oL xs) k5 w ) bP)<|aO 62 rfl rfl rfl (dS rfl rfl)<|ah) rfl rfl fun a w ab U=>?_
    refine wpList_nil (hz _ _ ?_)
    refine df ab rfl (fun dI=>?_) (fun dI=>?_)
    ·(try simp only [dj] at dI)
     refine bc fun oF jg=>aG ab U (ae (hJ (places:=[(0,1),(1,1),(2,1)]) (cells:=[.int .i64 0,.string ⟨(List.nil:List UInt8).toArray⟩,.string ⟨(List.nil:List UInt8).toArray⟩]) b2 az rfl (by rfl))<|ah) fun a w ab U=>aJ ab U rfl (cJ b2 1 rfl rfl rfl rfl aI (bp rfl (bp rfl (bp rfl dO))) aI) ?_
     rintro _ _ _ a w ⟨rfl,rfl,rfl⟩ ab U
     replace U:=e7 U
     refine aG ab U (av rfl<|ah) fun a w ab U=>wpList_nil (jg _ _ ?_)
     refine wp_ret<|b0 (rs:=[.cell 2 24,.tmp 3]) rfl ab U (vs:=[_,_]) ⟨⟨_,_,_,_,_,_,_,rfl,List.mem_of_getElem? (i:=1) rfl,b2,.inl ⟨rfl,aI,rfl⟩⟩,rfl,trivial⟩ ay ay (by rw [au.FD ag bz cl (by rcases dI with h | h;exact .inl ag;exact .inr h)];rfl)
    ·(try simp only [dj] at dI)
     refine wp_skip<|fC _ _<|bc fun pq jF=>aG ab U (ae (gh b2 0 rfl rfl aI rfl)<|ah) fun a w ab U=>aJ ab U rfl (cJ b2 1 rfl rfl rfl rfl aI (bp rfl (bp rfl (bp rfl dO))) aI) ?_
     rintro _ _ _ a w ⟨rfl,rfl,rfl⟩ ab U
     replace U:=e7 U
     refine aG ab U (av rfl<|ah) fun a w ab U=>wpList_nil (jF _ _ ?_)
     refine wp_ret<|b0 (rs:=[.cell 2 24,.tmp 3]) rfl ab U (vs:=[_,_]) ⟨⟨_,_,_,_,_,_,_,rfl,List.mem_of_getElem? (i:=1) rfl,b2,.inl ⟨rfl,aI,rfl⟩⟩,rfl,trivial⟩ ay ay (by rw [au.B0 ag bz cl (fun h=>by rcases h with h | h;exact h dI.1;exact h dI.2)];rfl)
theorem Wb(v:Value)(xs:List UInt8)(w:World)(aw:bo hc (cf w) v xs):cC Tryz.prog 18 [v] w (fun r _ _=>r=.tuple [.agg [aA (au.dec xs).1.tk,vs (au.dec xs).1.ky,vs (au.dec xs).1.vl].toArray,aA (au.dec xs).2].toArray):=by
 refine c4 Tryz.func18 rfl Tryz.ntmps18 b4 fun a ab U=>?_
 have c6:=aw.1
 have N5:=aF.y2 xs
 have k5:=au.L3 c6
 refine bc fun eJ c8=>aJ ab U rfl (dg b2) ?_
 rintro _ _ _ a w ⟨ck,rfl,rfl,rfl⟩ ab U
 refine aG ab U (av rfl<|ah) fun a w ab U=>wpList_nil (c8 _ _ ?_)
 refine aD ab U (ai rfl<|ae (bV MY rfl (fun w U=>TP _ _ w (bo.mono (U.le cM) aw)) bP)<|ai rfl<|ae (cQ rfl rfl)<|ae (cQ rfl rfl)<|ae (cQ rfl rfl)<|av rfl<|av rfl<|av rfl<|ah) fun a w ab U=>ax fun dX cq=>aD ab U (ai rfl<|ae (dS rfl rfl)<|ah) fun a w ab U=>e9 ab rfl (fun aU=>?_) (fun aU=>?_)
 ·refine ax fun dL b9=>dM ?_
  refine aG ab U (ae (hJ (places:=[(0,1),(1,1),(2,1)]) (cells:=[.int .i64 0,.string ⟨(List.nil:List UInt8).toArray⟩,.string ⟨(List.nil:List UInt8).toArray⟩]) b2 az rfl (by rfl))<|ai rfl<|ah) fun a w ab U=>aJ ab U rfl (cJ b2 0 rfl rfl rfl rfl aI (bp rfl (bp rfl (bp rfl dO))) aI) ?_
  rintro _ _ _ a w ⟨rfl,rfl,rfl⟩ ab U
  replace U:=ft U
  refine aG ab U (av rfl<|ah) fun a w ab U=>wpList_nil (b9 _ _ ?_)
  refine wp_ret<|b0 (rs:=[.cell 2 24,.tmp 3]) rfl ab U (vs:=[_,_]) ⟨⟨_,_,_,_,_,_,_,rfl,List.mem_of_getElem? (i:=0) rfl,b2,.inl ⟨rfl,aI,rfl⟩⟩,rfl,trivial⟩ ay ay (by rw [au.FA aU];rfl)
 ·refine wp_skip<|cq _ _<|bc fun eN cK=>aG ab U (ai rfl<|ae (IP b2 3 az rfl rfl rfl a8)<|ah) fun a w ab U=>aJ ab U rfl (dg b2) ?_
  rintro _ _ _ a w ⟨dD,rfl,rfl,rfl⟩ ab U
  refine aJ ab U rfl (cJ b2 0 rfl rfl rfl rfl aI (bp rfl (bp rfl (bp rfl dO))) aI) ?_
  rintro _ _ _ a w ⟨rfl,rfl,rfl⟩ ab U
  replace U:=e7 U
  refine wpList_nil (cK _ _ ?_)
  refine ax fun fa cT=>bc fun fk cP=>aG ab U (ae (aZ b2 rfl rfl (s':=0) az)<|ae (aZ b2 rfl rfl (s':=0) az)<|ah) fun a w ab U=>aJ ab U rfl (eu Ef AX rfl rfl bM a8 rfl rfl) ?_
  rintro v3 _ _ a w ⟨rfl,rfl⟩ ab U
  replace U:=eU U
  refine aG ab U (ae (hA Ef 0 rfl rfl)<|ai rfl<|ah) fun a w ab U=>wpList_nil (cP _ _ ?_)
  refine wp_block ?_
  obtain ⟨bG,a6,U⟩:=U.c1
  refine dy (γ:=Nat) (0) (fun (k:Nat)=>[(5,aA (au.at_ xs k)),(29,aA (k:Int))]) [(0,_),(2,_),(7,_),(27,_),(28,_)] (fun (k:Nat)=>(bG.set 1 (.blk dD 24 [aA (au.B5 xs k).tk,vs (au.B5 xs k).ky,vs (au.B5 xs k).vl]))) (fun (k:Nat)=>k≤2∧(0<k→(au.d1 xs).2.2=0)∧(1<k→(au.d2 xs).2.2=0)) (fun (k:Nat)=>2-k) (ab.sub ⟨rfl,rfl,rfl,rfl,rfl,rfl,rfl,trivial⟩) (by subst a6;exact U) (by exact ⟨Nat.zero_le _,fun h=>absurd h ag,fun h=>absurd h ag⟩) ?_
  rintro k a w bh ab U
  subst a6;(try dsimp only at bh ab U)
  obtain ⟨l5,rD,rE⟩:=bh
  replace U:=eU U
  have sN:=au.UW rD rE
  refine aD ab U (ae (cU rfl rfl)<|ah) fun a w ab U=>ax fun hU ef=>cn ab rfl (fun bz=>?_) (fun bz=>?_)
  ·refine wp_skip<|ef _ _<|ax fun ho dK=>wp_block ?_
   refine ax fun iZ eY=>?_
   rcases (show k=0∨k=1 by omega) with rfl | rfl
   ·skip
    refine bx ab U (ae (fY Ef AX 0 rfl rfl rfl ag)<|ae (Aq AX 0 rfl rfl rfl rfl)<|av rfl<|ah) fun a w ab U=>eY _ _ ?_
    refine ax fun iR eO=>bx ab U (ai rfl<|ai rfl<|ae (Ar bX bI aw rfl rfl ag)<|ae (bV MZ rfl (fun w U=>TO _ _ w (bo.mono (U.le cM) (bo.cut aw ag))) bP)<|ai rfl<|ae (cQ rfl rfl)<|ae (cQ rfl rfl)<|ae (cQ rfl rfl)<|av rfl<|av rfl<|av rfl<|ah) fun a w ab U=>?_
    rw [List.take_length] at ab
    refine eO _ _<|ax fun kY gF=>aD ab U (ai rfl<|ae (dS rfl rfl)<|ah) fun a w ab U=>e9 ab rfl (fun cl=>?_) (fun cl=>?_)
    ·refine ax fun mw hz=>dM ?_
     refine aG ab U (ae (hJ (places:=[(0,1),(1,1),(2,1)]) (cells:=[.int .i64 0,.string ⟨(List.nil:List UInt8).toArray⟩,.string ⟨(List.nil:List UInt8).toArray⟩]) b2 az rfl (by rfl))<|ai rfl<|ah) fun a w ab U=>aJ ab U rfl (cJ b2 2 rfl rfl rfl rfl aI (bp rfl (bp rfl (bp rfl dO))) aI) ?_
     rintro _ _ _ a w ⟨rfl,rfl,rfl⟩ ab U
     replace U:=eU U
     refine aG ab U (av rfl<|ah) fun a w ab U=>wpList_nil (hz _ _ ?_)
     refine wp_ret<|b0 (rs:=[.cell 2 24,.tmp 3]) rfl ab U (vs:=[_,_]) ⟨⟨_,_,_,_,_,_,_,rfl,List.mem_of_getElem? (i:=2) rfl,b2,.inl ⟨rfl,aI,rfl⟩⟩,rfl,trivial⟩ ay ay (by rw [au.FB ag cl];rfl)
    ·have abj:=au.UX (b:=xs) cl
     refine wp_skip<|gF _ _<|dM ?_
     refine aG ab U (ai rfl<|ai rfl<|ai rfl<|ai rfl<|b5 rfl rfl<|ae (bN rfl)<|ah) fun a w ab U=>aJ ab U rfl (dq bB 1 rfl rfl rfl rfl (by simp)) ?_
     rintro _ _ _ a w ⟨rfl,rfl,rfl⟩ ab U
     replace U:aB _ [] [_,.blk _ _ ([_,_,_].set 1 _),_] _:=U
     simp only [dd] at U
     replace U:=eU U
     refine aG ab U (av rfl<|ah) fun a w ab U=>wpList_nil (dK _ _ ?_)
     refine bx ab U (b5 rfl rfl<|ai rfl<|ah) fun a w ab U=>⟨(1),?_,?_,ab.sub ⟨rfl,rfl,rfl,rfl,rfl,rfl,rfl,trivial⟩,?_⟩
     ·(try dsimp only);omega
     ·first | exact ⟨by omega,fun _=>cl,fun h=>absurd h ag⟩ | exact ⟨by omega,fun _=>rD ag,fun _=>dI⟩
     ·exact U
   ·skip
    refine bx ab U (ae (fY Ef AX 0 rfl rfl rfl ag)<|ae (Aq AX 0 rfl rfl rfl rfl)<|av rfl<|ah) fun a w ab U=>eY _ _ ?_
    refine ax fun oF jg=>bx ab U (ai rfl<|ai rfl<|ae (Ar bX bI aw rfl rfl ag)<|ae (bV MZ rfl (fun w U=>TO _ _ w (bo.mono (U.le cM) (bo.cut aw ag))) bP)<|ai rfl<|ae (cQ rfl rfl)<|ae (cQ rfl rfl)<|ae (cQ rfl rfl)<|av rfl<|av rfl<|av rfl<|ah) fun a w ab U=>?_
    rw [List.take_length] at ab
    refine jg _ _<|ax fun pq jF=>aD ab U (ai rfl<|ae (dS rfl rfl)<|ah) fun a w ab U=>e9 ab rfl (fun dI=>?_) (fun dI=>?_)
    ·refine ax fun qb kb=>dM ?_
     refine aG ab U (ae (hJ (places:=[(0,1),(1,1),(2,1)]) (cells:=[.int .i64 0,.string ⟨(List.nil:List UInt8).toArray⟩,.string ⟨(List.nil:List UInt8).toArray⟩]) b2 az rfl (by rfl))<|ai rfl<|ah) fun a w ab U=>aJ ab U rfl (cJ b2 2 rfl rfl rfl rfl aI (bp rfl (bp rfl (bp rfl dO))) aI) ?_
     rintro _ _ _ a w ⟨rfl,rfl,rfl⟩ ab U
     replace U:=eU U
     refine aG ab U (av rfl<|ah) fun a w ab U=>wpList_nil (kb _ _ ?_)
     refine wp_ret<|b0 (rs:=[.cell 2 24,.tmp 3]) rfl ab U (vs:=[_,_]) ⟨⟨_,_,_,_,_,_,_,rfl,List.mem_of_getElem? (i:=2) rfl,b2,.inl ⟨rfl,aI,rfl⟩⟩,rfl,trivial⟩ ay ay (by rw [au.FC ag (rD ag) dI];rfl)
    ·have abk:=au.UY (b:=xs) (rD ag) dI
     refine wp_skip<|jF _ _<|dM ?_
     refine aG ab U (ai rfl<|ai rfl<|ai rfl<|ai rfl<|b5 rfl rfl<|ae (bN rfl)<|ah) fun a w ab U=>aJ ab U rfl (dq bB 1 rfl rfl rfl rfl (by simp)) ?_
     rintro _ _ _ a w ⟨rfl,rfl,rfl⟩ ab U
     replace U:aB _ [] [_,.blk _ _ ([_,_,_].set 2 _),_] _:=U
     simp only [dd] at U
     replace U:=eU U
     refine aG ab U (av rfl<|ah) fun a w ab U=>wpList_nil (dK _ _ ?_)
     refine bx ab U (b5 rfl rfl<|ai rfl<|ah) fun a w ab U=>⟨(2),?_,?_,ab.sub ⟨rfl,rfl,rfl,rfl,rfl,rfl,rfl,trivial⟩,?_⟩
     ·(try dsimp only);omega
     ·first | exact ⟨by omega,fun _=>cl,fun h=>absurd h ag⟩ | exact ⟨by omega,fun _=>rD ag,fun _=>dI⟩
     ·exact U
  ·obtain rfl:k=2:=by omega
   have al4:au.at_ xs 2=(aF.getInt xs).2.1+(au.d1 xs).2.1+(au.d2 xs).2.1:=rfl
   refine wp_exit<|cT _ _<|ax fun sg lC=>bc fun sh l1=>aG ab U (ai rfl<|ai rfl<|ae (ee bX aw rfl)<|ae (dS rfl rfl)<|ai rfl<|ah) fun a w ab U=>?_
   refine gA 4 56 3 ab U rfl rfl rfl rfl rfl (fun aP=>have aP:=(Ad aP);aO 56 rfl rfl rfl (gh b2 1 rfl rfl aI rfl)<|aO 56 rfl rfl rfl (bV MD rfl (fun w U=>Ns (au.B5 xs 2) k5 w ) bP)<|aO 56 rfl rfl rfl (dS rfl rfl)<|ah) rfl rfl fun a w ab U=>?_
   refine wpList_nil (l1 _ _ ?_)
   refine df ab rfl (fun dE=>?_) (fun dE=>?_)
   ·(try simp only [dj] at dE)
    refine bc fun Br rz=>aG ab U (ae (hJ (places:=[(0,1),(1,1),(2,1)]) (cells:=[.int .i64 0,.string ⟨(List.nil:List UInt8).toArray⟩,.string ⟨(List.nil:List UInt8).toArray⟩]) b2 az rfl (by rfl))<|ah) fun a w ab U=>aJ ab U rfl (cJ b2 2 rfl rfl rfl rfl aI (bp rfl (bp rfl (bp rfl dO))) aI) ?_
    rintro _ _ _ a w ⟨rfl,rfl,rfl⟩ ab U
    replace U:=eU U
    refine aG ab U (av rfl<|ah) fun a w ab U=>wpList_nil (rz _ _ ?_)
    refine wp_ret<|b0 (rs:=[.cell 2 24,.tmp 3]) rfl ab U (vs:=[_,_]) ⟨⟨_,_,_,_,_,_,_,rfl,List.mem_of_getElem? (i:=2) rfl,b2,.inl ⟨rfl,aI,rfl⟩⟩,rfl,trivial⟩ ay ay (by rw [au.FD ag (rD ag) (rE ag) (by rcases dE with h | h;exact .inl ag;exact .inr h)];rfl)
   ·(try simp only [dj] at dE)
    refine wp_skip<|lC _ _<|bc fun Kn y9=>aG ab U (ae (gh b2 1 rfl rfl aI rfl)<|ah) fun a w ab U=>aJ ab U rfl (cJ b2 2 rfl rfl rfl rfl aI (bp rfl (bp rfl (bp rfl dO))) aI) ?_
    rintro _ _ _ a w ⟨rfl,rfl,rfl⟩ ab U
    replace U:=eU U
    refine aG ab U (av rfl<|ah) fun a w ab U=>wpList_nil (y9 _ _ ?_)
    refine wp_ret<|b0 (rs:=[.cell 2 24,.tmp 3]) rfl ab U (vs:=[_,_]) ⟨⟨_,_,_,_,_,_,_,rfl,List.mem_of_getElem? (i:=2) rfl,b2,.inl ⟨rfl,aI,rfl⟩⟩,rfl,trivial⟩ ay ay (by rw [au.B0 ag (rD ag) (rE ag) (fun h=>by rcases h with h | h;exact h dE.1;exact h dE.2)];rfl)
end
section
theorem iF:ba Tryz.prog 45 (.pointer 119) 1 8 (Value.pointer none):=⟨Tryz.underlying45,by kernel_rfl⟩
theorem nQ : ba Tryz.prog 119 (.struct #[⟨ "journal", 97, 0, false, "", "culprit/ledger", 0⟩, ⟨ "facts", 26, 1, false, "", "culprit/ledger", 8⟩]) 2 32 (.agg ([Value.pointer none] ++ [Value.slice none 0 0]).toArray) := ⟨Tryz.underlying119, by kernel_rfl⟩
theorem SU:ba Tryz.prog 135 (.map 9 9) 1 8 (Value.map none):=⟨Tryz.underlying135,by kernel_rfl⟩
theorem X1:b1 Tryz.prog 65:=b6 Tryz.func65
theorem M7:b1 Tryz.prog 73:=b6 Tryz.func73
theorem Xe:b1 Tryz.prog 111:=b6 Tryz.func111
theorem Xf:b1 Tryz.prog 112:=b6 Tryz.func112
theorem yO(b:Nat)(pj v:Value)(l:List au.bK)(w:World){bt:TypeId}{fz:Nat×Nat}(hl:w.heap[b]?=some (.cells [pj,v].toArray bt fz))(aw:bo Go.aK.hW (cf w) v l):cC Tryz.prog 33 [.pointer (some ⟨b,0,none⟩)] w (fun r _ _=>r=aA (au.clock l)):=by
 refine c4 Tryz.func33 rfl Tryz.ntmps33 b4 fun a ab U=>?_
 have c6:=aw.1
 refine aD ab U (av rfl<|ah) fun a w ab U=>ax fun cG bJ=>aD ab U (ai rfl<|ae (o5 iF rfl rfl)<|ai rfl<|aO 5 rfl rfl rfl (bE rfl)<|aO 5 rfl rfl rfl (bN rfl)<|aO 5 rfl rfl rfl (aZ nQ rfl rfl (s':=0) az)<|aO 5 rfl rfl rfl (ji dh rfl hl rfl rfl)<|aO 5 rfl rfl rfl (ee dh aw rfl)<|aO 5 rfl rfl rfl (gq rfl rfl)<|ae (hB rfl rfl)<|ah) fun a w ab U=>cn ab rfl (fun aU=>?_) (fun aU=>?_)
 ·refine ax fun et cB=>bx ab U (av rfl<|ah) fun a w ab U=>cB _ _ ?_
  refine wp_ret<|b0 (rs:=[.tmp 2]) rfl ab U (vs:=[_]) ⟨rfl,trivial⟩ ay ay (by rw [au.Lz aU])
 ·refine wp_skip<|bJ _ _<|iE mixed az ab U (ai rfl<|ae (bN rfl)<|ae (aZ nQ rfl rfl (s':=0) az)<|ae (ji dh rfl hl rfl rfl)<|ai rfl<|ae (bN rfl)<|ae (aZ nQ rfl rfl (s':=0) az)<|ae (ji dh rfl hl rfl rfl)<|ae (ee dh aw rfl)<|fy rfl rfl<|ae (dV dh b2 aw rfl rfl ag)<|ae (qR b2 aw rfl ag rfl (s':=0) az)<|ae (Ao bH aw cM rfl rfl ag)<|av rfl<|ah) fun a w ab U=>wp_ret ?_
  exact b0 (rs:=[.tmp 2]) rfl ab U (vs:=[_]) ⟨rfl,trivial⟩ ay ay (by rw [au.LA aU])
theorem ahH(n m:Nat)(fv:Value)(q:Int→Prop)(p:Int→Bool)(bD:n≤1048576)(hm:m≤n)(ch:∀ i:Int,0≤i→i<n→q i)(bO:∀ k:Int,0≤k→k<n→p k=decide ((m:Int)≤k))(w:World)(bw:tV Tryz.prog w fv q p):cC Tryz.prog 111 [aA (n:Int),fv] w (fun r _ _=>r=aA (m:Int)):=by
 refine c4 Tryz.func111 rfl Tryz.ntmps111 b4 fun a ab U=>aD ab U (av rfl<|ah) fun a w ab U=>aD ab U (ai rfl<|av rfl<|av rfl<|ah) fun a w ab U=>ax fun dX cq=>wp_block ?_
 obtain ⟨bG,a6,U⟩:=U.c1
 refine dy (γ:=Int×Int) (0,n) (fun (i,j)=>[(5,aA i),(6,aA j)]) [(1,_)] (fun (i,j)=>bG) (fun (i,j)=>0≤i∧i≤m∧m≤j∧j≤n) (fun (i,j)=>(j-i).toNat) (ab.sub ⟨rfl,rfl,rfl,trivial⟩) (by subst a6;exact U) ag ?_
 rintro ⟨i,j⟩ a w bh ab U
 subst a6;(try dsimp only at bh ab U)
 obtain ⟨eL,amB,ane,zw⟩:=bh
 replace U:=ic U
 refine ax fun et cB=>aD ab U (ai rfl<|ai rfl<|ae (cU rfl rfl)<|ah) fun a w ab U=>cn ab rfl (fun aU=>?_) (fun aU=>?_)
 ·refine wp_skip<|cB _ _<|wp_block ?_
  refine ax fun eN cK=>bx ab U (ai rfl<|ai rfl<|b5 rfl rfl<|ae (An bH JQ rfl)<|ae (xA rfl rfl ag)<|ae (DE JQ bH rfl)<|av rfl<|ah) fun a w ab U=>?_
  rw [bs.adN ag ag] at ab
  refine cK _ _<|aD ab U (ai rfl<|ai rfl<|ae (afx bw rfl rfl (ch _ ag ag))<|ae (fZ rfl)<|ah) fun a w ab U=>df ab rfl (fun bz=>?_) (fun bz=>?_)
  ·refine bx ab U (ai rfl<|b5 rfl rfl<|av rfl<|ah) fun a w ab U=>⟨((i+j)/2+1,j),?_,?_,ab.sub ⟨rfl,rfl,rfl,trivial⟩,?_⟩
   ·(try dsimp only);omega
   ·have qx:=bO ((i+j)/2) ag ag
    rw [show p ((i+j)/2)=false by simpa using bz] at qx
    have abl:=of_decide_eq_false qx.symm
    omega
   ·exact U
  ·refine bx ab U (ai rfl<|av rfl<|ah) fun a w ab U=>⟨(i,(i+j)/2),?_,?_,ab.sub ⟨rfl,rfl,rfl,trivial⟩,?_⟩
   ·(try dsimp only);omega
   ·have qx:=bO ((i+j)/2) ag ag
    rw [show p ((i+j)/2)=true by simpa using bz] at qx
    have abl:=of_decide_eq_true qx.symm
    omega
   ·exact U
 ·refine wp_exit<|cq _ _<|aD ab U (ai rfl<|av rfl<|ah) fun a w ab U=>wp_ret ?_
  exact b0 (rs:=[.tmp 4]) rfl ab U (vs:=[_]) ⟨rfl,trivial⟩ ay ay (by rw [show i=(m:Int) by omega])
theorem aja(b:Nat)(pj v:Value)(l:List au.bK)(bL bT:Nat)(tick i:Int){wm Vr:TypeId}{wI YS:Nat×Nat}(aH:0≤i∧i<l.length)(w:World)(fp:w.heap[bL]?=some (.cells [Value.pointer (some ⟨b,0,none⟩)].toArray wm wI)){bt:TypeId}{fz:Nat×Nat}(hl:w.heap[b]?=some (.cells [pj,v].toArray bt fz))(aw:bo Go.aK.hW (cf w) v l)(fV:w.heap[bT]?=some (.cells [aA tick].toArray Vr YS)):cC Tryz.prog 112 [aA i,.pointer (some ⟨bL,0,none⟩),.pointer (some ⟨bT,0,none⟩)] w (fun r _ _=>r=.bool (decide (tick<(l.getD i.toNat au.f0).tk))):=by
 refine c4 Tryz.func112 rfl Tryz.ntmps112 b4 fun a ab U=>?_
 have c6:=aw.1
 refine aD ab U (av rfl<|ah) fun a w ab U=>iE mixed az ab U (ae (ji iF rfl fp rfl rfl)<|ae (bN rfl)<|ae (aZ nQ rfl rfl (s':=0) az)<|ae (ji dh rfl hl rfl rfl)<|ai rfl<|ae (dV dh b2 aw rfl rfl ag)<|ae (qR b2 aw rfl ag rfl (s':=0) az)<|ae (Ao bH aw cM rfl rfl ag)<|ae (ji bH rfl fV rfl rfl)<|ae (fc rfl rfl)<|av rfl<|ah) fun a w ab U=>wp_ret ?_
 exact b0 (rs:=[.tmp 4]) rfl ab U (vs:=[_]) ⟨rfl,trivial⟩ ay ay (rfl)
theorem S9(b:Nat)(pj v:Value)(l:List au.bK)(tick:Int)(gl:l.Pairwise (fun f g=>f.tk≤g.tk))(w2:l.length≤1048576)(w:World){bt:TypeId}{fz:Nat×Nat}(hl:w.heap[b]?=some (.cells [pj,v].toArray bt fz))(aw:bo Go.aK.hW (cf w) v l):cC Tryz.prog 73 [.pointer (some ⟨b,0,none⟩),aA tick] w (fun r _ _=>r=lO v 3 0 (au.a7 l tick)):=by
 refine c4 Tryz.func73 rfl Tryz.ntmps73 b4 fun a ab U=>?_
 have c6:=aw.1
 have fE:=au.BW l tick
 refine bc fun eJ c8=>aJ ab U rfl (oM rfl rfl) ?_
 rintro _ _ _ a w ⟨ck,rfl,rfl,rfl⟩ ab U
 refine aJ ab U rfl (oM rfl rfl) ?_
 rintro _ _ _ a w ⟨dD,rfl,rfl,rfl⟩ ab U
 refine aG ab U (av rfl<|ah) fun a w ab U=>wpList_nil (c8 _ _ ?_)
 refine ax fun cG bJ=>aD ab U (ae (bf iF 1 rfl rfl rfl rfl)<|ae (o5 iF rfl rfl)<|ah) fun a w ab U=>df ab rfl (fun h=>absurd h (by simp)) (fun _=>?_)
 refine wp_skip<|bJ _ _<|iE mixed az ab U (ae (bf iF 1 rfl rfl rfl rfl)<|ae (bN rfl)<|ae (aZ nQ rfl rfl (s':=0) az)<|ae (ji dh rfl hl rfl rfl)<|ae (bf iF 1 rfl rfl rfl rfl)<|ae (bN rfl)<|ae (aZ nQ rfl rfl (s':=0) az)<|ae (ji dh rfl hl rfl rfl)<|ae (ee dh aw rfl)<|ae (tC rfl rfl)<|ae (bV Xe rfl (fun w U=>ahH l.length (au.a7 l tick) _ (fun x=>0≤x∧x<l.length) (fun x=>decide (tick<(l.getD x.toNat au.f0).tk)) ag ag (fun i h1 ar=>⟨h1,ar⟩) (au.VW gl tick) w ⟨112,[],[_,_],rfl,Xf,fun w' hle cE ch=>aja _ _ _ _ _ _ _ _ ch w' (hle _ _ (j0 U 1 rfl)) (hle _ _ (U.ext _ _ hl)) (bo.mono (aR.Dd (U.le cM) hle) aw) (hle _ _ (j0 U 0 rfl))⟩) bP)<|ae (I1 dh b2 aw rfl rfl ag)<|av rfl<|ah) fun a w ab U=>wp_ret ?_
 exact b0 (rs:=[.tmp 4]) rfl ab U (vs:=[_]) ⟨rfl,trivial⟩ ay ay (rfl)
theorem VM(v:Value)(l:List au.bK)(hl:l.length<1048576)(w:World)(aw:bo Go.aK.hW (cf w) v l):cC Tryz.prog 65 [v] w (fun r zs hs=>zs=[]∧hs=[.row r 24 3 (l).length ((l).flatMap au.je)]):=by
 refine c4 Tryz.func65 rfl Tryz.ntmps65 b4 fun a ab U=>?_
 have c6:=aw.1
 refine aD ab U (av rfl<|ah) fun a w ab U=>ax fun cG bJ=>aD ab U (ai rfl<|ae (QJ dh aw rfl rfl)<|ah) fun a w ab U=>df ab rfl (fun aU=>?_) (fun aU=>?_)
 ·obtain rfl:=P2 aw aU
  refine ax fun et cB=>bx ab U (av rfl<|ah) fun a w ab U=>?_
  replace U:=U.iC 24 3
  refine cB _ _<|wp_ret ?_
  exact b0 (rs:=[.tmp 2]) rfl ab U (vs:=[_]) ⟨rfl,trivial⟩ ay al ⟨rfl,rfl⟩
 ·refine wp_skip<|bJ _ _<|bc fun dL b9=>aJ ab U rfl (sx dh b2) ?_
  rintro v1 _ _ a w ⟨rfl,rfl⟩ ab U
  replace U:=ft U
  refine aG ab U (ai rfl<|ah) fun a w ab U=>aJ ab U rfl (dH dh b2 0 rfl rfl rfl (aif dh aw cM a8) aI rfl a8) ?_
  rintro v3 _ _ a w ⟨rfl,rfl⟩ ab U
  replace U:=ft U
  refine aG ab U (av rfl<|ah) fun a w ab U=>wpList_nil ?_
  replace U:=U.DZ (Nat.zero_add _) (List.nil_append _)
  refine b9 _ _<|wp_ret ?_
  exact b0 (rs:=[.tmp 2]) rfl ab U (vs:=[_]) ⟨rfl,trivial⟩ ay al ⟨rfl,rfl⟩
theorem yW(b:Nat)(pj v:Value)(l:List au.bK)(w2:l.length<1048576)(w:World){bt:TypeId}{fz:Nat×Nat}(hl:w.heap[b]?=some (.cells [pj,v].toArray bt fz))(aw:bo Go.aK.hW (cf w) v l):cC Tryz.prog 26 [.pointer (some ⟨b,0,none⟩)] w (fun r zs hs=>zs=[]∧hs=[.row r 24 3 (l).length ((l).flatMap au.je)]):=by
 refine c4 Tryz.func26 rfl Tryz.ntmps26 b4 fun a ab U=>?_
 have c6:=aw.1
 refine aD ab U (av rfl<|ah) fun a w ab U=>ax fun cG bJ=>aD ab U (ai rfl<|ae (o5 iF rfl rfl)<|ah) fun a w ab U=>df ab rfl (fun h=>absurd h (by simp)) (fun _=>?_)
 refine wp_skip<|bJ _ _<|bc fun et cB=>aG ab U (ai rfl<|ae (bN rfl)<|ae (aZ nQ rfl rfl (s':=0) az)<|ae (ji dh rfl hl rfl rfl)<|ah) fun a w ab U=>aJ ab U rfl (eT X1 rfl (fun w U=>VM _ _ ag w (bo.mono (U.le cM) aw))) ?_
 rintro v1 _ _ a w ⟨_,_,rfl,rfl,⟨rfl,rfl⟩⟩ ab U
 replace U:=ft U
 refine aG ab U (av rfl<|ah) fun a w ab U=>wpList_nil (cB _ _ ?_)
 refine wp_ret<|b0 (rs:=[.tmp 2]) rfl ab U (vs:=[_]) ⟨rfl,trivial⟩ ay al ⟨rfl,rfl⟩
theorem Pb(b:Nat)(pj v:Value)(l:List au.bK)(tick:Int)(gl:l.Pairwise (fun f g=>f.tk≤g.tk))(w2:l.length≤1048576)(w:World){bt:TypeId}{fz:Nat×Nat}(hl:w.heap[b]?=some (.cells [pj,v].toArray bt fz))(aw:bo Go.aK.hW (cf w) v l):cC Tryz.prog 69 [.pointer (some ⟨b,0,none⟩),aA tick] w (fun r zs hs=>∃ bm es ec,r=.map (some bm)∧zs=[]∧hs=[.mp bm es ec]∧ll vs (au.mF (au.hS l tick) (au.hS l tick).length) es ec):=by
 refine c4 Tryz.func69 rfl Tryz.ntmps69 b4 fun a ab U=>?_
 have c6:=aw.1
 have abU:=S8 (l:=l) (t:=tick)
 refine aD ab U (av rfl<|ah) fun a w ab U=>bc fun cG bJ=>aJ ab U rfl (FM) ?_
 rintro _ _ _ a w ⟨ck,rfl,rfl,rfl⟩ ab U
 replace U:=ft U
 refine aG ab U (av rfl<|ah) fun a w ab U=>wpList_nil (bJ _ _ ?_)
 refine ax fun dX cq=>aD ab U (ai rfl<|ai rfl<|ae (bV M7 rfl (fun w U=>S9 _ _ _ _ _ gl w2 w (U.ext _ _ hl) (bo.mono (U.le cM) aw)) bP)<|ae (ee dh (Ej aw) rfl)<|ai rfl<|ah) fun a w ab U=>wp_block ?_
 obtain ⟨bG,a6,U⟩:=U.c1
 refine dy (γ:=List MapEntry×Nat×Nat) ([],0,0) (fun (es,ec,k)=>[(13,aA (k:Int))]) [(5,_),(11,_),(12,_)] (fun (es,ec,k)=>(bG.set 0 (.mp ck es ec))) (fun (es,ec,k)=>k≤(au.hS l tick).length∧ll vs (au.mF (au.hS l tick) k) es ec) (fun (es,ec,k)=>(au.hS l tick).length-k) (ab.sub ⟨rfl,rfl,rfl,rfl,trivial⟩) (by subst a6;exact U) (by exact ⟨Nat.zero_le _,ll.nil⟩) ?_
 rintro ⟨es,ec,k⟩ a w bh ab U
 subst a6;(try dsimp only at bh ab U)
 obtain ⟨l5,NV⟩:=bh
 replace U:=ft U
 refine aD ab U (ae (cU rfl rfl)<|ah) fun a w ab U=>ax fun eN cK=>cn ab rfl (fun aU=>?_) (fun aU=>?_)
 ·refine wp_skip<|cK _ _<|ax fun fa cT=>wp_block ?_
  refine bc fun fk cP=>aG ab U (ae (dV dh b2 (Ej aw) rfl rfl ag)<|ae (DI b2 (Ej aw) cM rfl rfl ag)<|ah) fun a w ab U=>aJ ab U rfl (dg b2) ?_
  rintro _ _ _ a w ⟨k1,rfl,rfl,rfl⟩ ab U
  refine aJ ab U rfl (cJ b2 0 rfl rfl rfl rfl aI (bp rfl (bp rfl (bp rfl dO))) aI) ?_
  rintro _ _ _ a w ⟨rfl,rfl,rfl⟩ ab U
  replace U:=e7 U
  refine wpList_nil (cP _ _ ?_)
  refine dM<|aG ab U (ai rfl<|ae (aZ b2 rfl rfl (s':=0) az)<|ae (bf bB 0 rfl rfl rfl rfl)<|ae (aZ b2 rfl rfl (s':=0) az)<|ae (bf bB 0 rfl rfl rfl rfl)<|ah) fun a w ab U=>aJ ab U rfl (FL SU (OW bB) 1 rfl rfl rfl rfl NV (fun _ _=>trivial) trivial) ?_
  rintro _ _ _ a w ⟨WY,WE,hX,rfl,rfl,rfl⟩ ab U
  replace U:=e7 U
  refine wpList_nil (cT _ _ ?_)
  refine bx ab U (b5 rfl rfl<|ai rfl<|ah) fun a w ab U=>?_
  replace U:=U.ao ay (c2)
  refine ⟨(WY,WE,k+1),?_,?_,ab.sub ⟨rfl,rfl,rfl,rfl,trivial⟩,?_⟩
  ·(try dsimp only);omega
  ·exact ⟨by omega,by rw [au.Di ag];exact hX⟩
  ·exact U
 ·refine wp_exit<|cq _ _<|aD ab U (ai rfl<|av rfl<|ah) fun a w ab U=>wp_ret ?_
  obtain rfl:k=(au.hS l tick).length:=by omega
  exact b0 (rs:=[.tmp 4]) rfl ab U (vs:=[_]) ⟨rfl,trivial⟩ ay al ⟨_,_,_,rfl,rfl,rfl,NV⟩
end
section
theorem XT:b1 Tryz.prog 23:=b6 Tryz.func23
theorem X0:b1 Tryz.prog 64:=b6 Tryz.func64
theorem M4:b1 Tryz.prog 69:=b6 Tryz.func69
theorem M5:b1 Tryz.prog 70:=b6 Tryz.func70
theorem M6:b1 Tryz.prog 71:=b6 Tryz.func71
theorem W9:b1 Tryz.prog 100:=b6 Tryz.func100
theorem ah7:Go.Proofs.AnyZ.SortsIn Tryz.prog Pn Fence.wide 4:=⟨fun blk off cap ss W GF G4 eF=>callsIn_wide.2 (Go.Proofs.AnyM.slices_Sort_string Pp blk off cap ss W GF G4 eF),fun p cap W=>callsIn_wide.2 (Go.Proofs.AnyM.slices_Sort_string_none Pp p cap W)⟩
theorem O0(b:Nat)(w:World):cC Tryz.prog 71 [.map (some b)] w (fun r zs hs=>∃ e,r=.func (.func 107) (List.nil:List Value).toArray [Value.pointer (some ⟨e,0,none⟩)].toArray∧zs=[]∧hs=[.blk e 135 [.map (some b)]]):=by
 refine c4 Tryz.func71 rfl Tryz.ntmps71 b4 fun a ab U=>bc fun eJ c8=>aJ ab U rfl (oM rfl rfl) ?_
 rintro _ _ _ a w ⟨ck,rfl,rfl,rfl⟩ ab U
 refine aG ab U (av rfl<|ah) fun a w ab U=>wpList_nil (c8 _ _ ?_)
 refine aD ab U (ae (tC rfl rfl)<|av rfl<|ah) fun a w ab U=>wp_ret ?_
 exact b0 (rs:=[.tmp 2]) rfl ab U (vs:=[_]) ⟨rfl,trivial⟩ al al ⟨_,rfl,rfl,rfl⟩
theorem Sw{l:List (List UInt8×Value)}{es:List MapEntry}{c e b:Nat}(eP:ll vs l es c)(bD:(l.map (·.1)).Nodup)(aE:∀ i∈l.map (·.1),i.length≤maxLen)(hl:l.length≤4096)(w0:World)(bU:List aR):e1 Tryz.prog 70 [.func (.func 107) (List.nil:List Value).toArray [Value.pointer (some ⟨e,0,none⟩)].toArray] w0 bU [.blk e 135 [.map (some b)],.mp b es c] (fun v dB c5=>dB=[]∧c5=[.row v 9 1 ((l.map (·.1)).mergeSort (fun x y=>decide (x≤y))).length (((l.map (·.1)).mergeSort (fun x y=>decide (x≤y))).map vs),.blk e 135 [.map (some b)],.mp b es c]):=ah3 adl adt ah7 9 rfl rfl Tryz.underlying9 (Go.Proofs.enters_of Tryz.func106 az rfl) (Go.Proofs.enters_of Tryz.func107 az rfl) eP bD aE hl w0 bU
theorem O1(b:Nat)(pj v:Value)(l:List au.bK)(tick:Int)(gl:l.Pairwise (fun f g=>f.tk≤g.tk))(w2:l.length≤512)(w:World){bt:TypeId}{fz:Nat×Nat}(hl:w.heap[b]?=some (.cells [pj,v].toArray bt fz))(aw:bo Go.aK.hW (cf w) v l):cC Tryz.prog 35 [.pointer (some ⟨b,0,none⟩),aA tick] w (fun r zs hs=>zs=[]∧hs=[.row r 9 1 (au.keys l tick).length ((au.keys l tick).map vs)]):=by
 refine c4 Tryz.func35 rfl Tryz.ntmps35 b4 fun a ab U=>?_
 have c6:=aw.1
 refine aD ab U (av rfl<|ah) fun a w ab U=>bc fun cG bJ=>aG ab U (ai rfl<|ai rfl<|ah) fun a w ab U=>aJ ab U rfl (eT M4 rfl (fun w U=>Pb _ _ _ _ _ gl ag w (U.ext _ _ hl) (bo.mono (U.le cM) aw))) ?_
 rintro _ _ _ a w ⟨_,_,rfl,rfl,⟨Vl,alp,alf,rfl,rfl,rfl,alY⟩⟩ ab U
 replace U:=ft U
 refine aJ ab U rfl (eT M6 rfl (fun w U=>O0 _ w )) ?_
 rintro _ _ _ a w ⟨_,_,rfl,rfl,⟨ak0,rfl,rfl,rfl⟩⟩ ab U
 replace U:=e7 U
 refine aJ ab U rfl (dv M5 rfl (List.Perm.refl _) (by exact (Sw (by assumption) (au.OZ l tick) (au.OY (yC aw) tick) (au.OX ag tick) _ _  (b:=Vl)))) ?_
 rintro vO _ _ a w ⟨_,_,rfl,rfl,⟨rfl,rfl⟩⟩ ab U
 replace U:=eU U
 refine aG ab U (av rfl<|ah) fun a w ab U=>wpList_nil ?_
 rw [au.O4 gl] at U
 refine bJ _ _<|wp_ret ?_
 exact b0 (rs:=[.tmp 4]) rfl ab U (vs:=[_]) ⟨rfl,trivial⟩ ay (ay.k) ⟨rfl,rfl⟩
theorem U3(v:Value)(bA:v.oneCell'=true)(w:World):cC Tryz.prog 64 [v] w (fun r zs hs=>∃ ck,r=.func (.func 100) (List.nil:List Value).toArray [Value.pointer (some ⟨ck,0,none⟩)].toArray∧zs=[]∧hs=[.blk ck 26 [v]]):=by
 refine c4 Tryz.func64 rfl Tryz.ntmps64 b4 fun a ab U=>bc fun eJ c8=>aJ ab U rfl (oM rfl bA) ?_
 rintro _ _ _ a w ⟨ck,rfl,rfl,rfl⟩ ab U
 refine aG ab U (av rfl<|ah) fun a w ab U=>wpList_nil (c8 _ _ ?_)
 refine aD ab U (ae (tC rfl rfl)<|av rfl<|ah) fun a w ab U=>wp_ret ?_
 exact b0 (rs:=[.tmp 2]) rfl ab U (vs:=[_]) ⟨rfl,trivial⟩ al al ⟨_,rfl,rfl,rfl⟩
theorem Vt(ck:Nat)(v:Value)(xs:List au.bK)(Y:Value)(z:aR)(w0:World)(bU zst:List aR)(cF:List aC)(inv:Nat→Prop)(R:aC→aC→Prop)(ra rb:aC)(bj:gQ w0 bU z)(aw:bo hW z v xs)(h0:inv 0)(jn:∀ k,k<xs.length→inv k→wa Tryz.prog Y (au.Lt xs k) (aB w0 bU (.blk ck 26 [v]::ra::rb::cF)) fun b w'=>if b=true then inv (k+1)∧aB w0 bU (.blk ck 26 [v]::ra::rb::cF) w' else ∃ xE xG,R xE xG∧aB w0 zst (.blk ck 26 [v]::xE::xG::cF) w'):Ki Tryz.prog 100 [Y,Value.pointer (some ⟨ck,0,none⟩)] w0 bU zst [.blk ck 26 [v],ra,rb] cF (fun b c5=>if b=true then c5=[.blk ck 26 [v],ra,rb]∧inv xs.length else ∃ xE xG,c5=[.blk ck 26 [v],xE,xG]∧R xE xG):=by
 refine Yo Tryz.func100 rfl Tryz.ntmps100 b4 fun a w ab U=>?_
 replace U:=lK U
 have c6:=aw.1
 refine aD ab U (ae (bf dh 0 rfl rfl rfl rfl)<|ae (ee dh aw rfl)<|fy rfl rfl<|av rfl<|ah) fun a w ab U=>wp_block ?_
 obtain ⟨bG,a6,U⟩:=U.c1
 refine dy (γ:=Nat) (0) (fun (k:Nat)=>[(3,aA ((xs.length:Int)-1-k))]) [(0,_),(1,_)] (fun (k:Nat)=>bG) (fun (k:Nat)=>k≤xs.length∧inv k) (fun (k:Nat)=>xs.length-k) (ab.sub ⟨(by show some (aA _)=some (aA _);congr 2;omega),rfl,rfl,trivial⟩) (by subst a6;exact U) (by exact ⟨Nat.zero_le _,h0⟩) ?_
 rintro k a w bh ab U
 subst a6;(try dsimp only at bh ab U)
 obtain ⟨l5,iK⟩:=bh
 replace U:=lK U
 refine ax fun cG bJ=>aD ab U (ai rfl<|ae (ke rfl rfl)<|ah) fun a w ab U=>cn ab rfl (fun aU=>?_) (fun aU=>?_)
 ·refine wp_skip<|bJ _ _<|ax fun et cB=>wp_block ?_
  refine ax fun dL b9=>DT 6 rfl ?_
  refine aG ab U (ai rfl<|ai rfl<|ae (bf dh 0 rfl rfl rfl rfl)<|ai rfl<|ae (dV dh b2 aw rfl rfl ag)<|ae (DI b2 aw bj rfl rfl ag)<|ah) fun a w ab U=>qE ?_
  have s8:=jn k ag iK
  refine ajQ (ys:=[_,_]) (by rfl) rfl ab U rfl rfl s8 ?_
  clear ab U;intro bb a w ab eD
  rcases bb with _ | _
  ·skip
   rw [if_neg (by simp)] at eD
   obtain ⟨ap3,ap5,Z0,U⟩:=eD
   refine r9 rfl ab U (ae (fZ rfl)<|ah) fun a w ab U=>wpListIn_nil ?_
   refine b9 _ _<|df ab rfl (fun _=>?_) (fun h=>absurd h (by simp))
   refine wp_ret<|Yr false rfl rfl ab U [_,_,_] (by simp) al (by rw [if_neg (by simp)];exact ⟨_,_,rfl,Z0⟩)
  ·skip
   rw [if_pos rfl] at eD
   obtain ⟨uY,U⟩:=eD
   refine r9 rfl ab U (ae (fZ rfl)<|ah) fun a w ab U=>wpListIn_nil ?_
   refine b9 _ _<|df ab rfl (fun h=>absurd h (by simp)) (fun _=>?_)
   refine wp_skip<|cB _ _<|bx ab U (ai rfl<|fy rfl rfl<|av rfl<|ah) fun a w ab U=>⟨(k+1),?_,?_,ab.sub ⟨(by show some (aA _)=some (aA _);congr 2;omega),rfl,rfl,trivial⟩,?_⟩
   ·(try dsimp only);omega
   ·exact ⟨by omega,uY⟩
   ·exact U
 ·obtain rfl:k=xs.length:=by omega
  refine wp_exit ?_
  -- falls off the end
  exact Yp true rfl rfl ab U [_,_,_] (by simp) al (by rw [if_pos rfl];exact ⟨rfl,iK⟩)
theorem ac1(v:Value)(l:List au.bK)(tick:Int)(key:List UInt8)(w:World)(aw:bo Go.aK.hW (cf w) v l):cC Tryz.prog 23 [v,aA tick,vs key] w (fun r _ _=>r=.tuple [vs (au.ek l tick key).1,.bool (au.ek l tick key).2].toArray):=by
 refine Gb Tryz.func23 rfl Tryz.ntmps23 b4 fun a ab U=>?_
 have c6:=aw.1
 refine bc fun eJ c8=>aJ ab U rfl (oM rfl rfl) ?_
 rintro _ _ _ a w ⟨ck,rfl,rfl,rfl⟩ ab U
 refine aJ ab U rfl (oM rfl rfl) ?_
 rintro _ _ _ a w ⟨dD,rfl,rfl,rfl⟩ ab U
 refine aJ ab U rfl (wv bB (by rfl)) ?_
 rintro _ _ _ a w ⟨k1,rfl,rfl,rfl⟩ ab U
 refine aJ ab U rfl (wv fL (by rfl)) ?_
 rintro _ _ _ a w ⟨yJ,rfl,rfl,rfl⟩ ab U
 refine wpList_nil (c8 _ _ ?_)
 refine ax fun cG bJ=>bc fun dX cq=>aG ab U (ai rfl<|ah) fun a w ab U=>aJ ab U rfl (eT X0 rfl (fun w U=>U3 _ (mP aw) w )) ?_
 rintro _ _ _ a w ⟨_,_,rfl,rfl,⟨bL,rfl,rfl,rfl⟩⟩ ab U
 replace U:=na U
 refine wpList_nil (cq _ _ ?_)
 refine wp_block ?_
 obtain ⟨bG,a6,U⟩:=U.c1
 obtain ⟨kl,jG,ab⟩:∃ l,l=_∧Fr _ l _:=⟨_,rfl,ab⟩
 refine ajD (ps:=[12,13]) (γ:=List UInt8×Bool) (ξ:=Nat) (fun r=>(bG.set 1 (.blk yJ 4 [.bool r.2])).set 2 (.blk k1 9 [vs r.1])) (fun (k:Nat) (r:List UInt8×Bool)=>r=([],false)∧(au.ek l tick key)=(au.ek (l.take (l.length-k)) tick key)) (fun r=>(au.ek l tick key)=r) (l.length) (fun k=>au.Lt l k) (([],false)) (fun k r x=>(9,.pointer (some ⟨x,0,none⟩))::(13,.agg [aA (l.getD ((l.length:Int)-1-k).toNat au.f0).tk,vs (l.getD ((l.length:Int)-1-k).toNat au.f0).ky,vs (l.getD ((l.length:Int)-1-k).toNat au.f0).vl].toArray)::(12,aA ((l.length:Int)-1-k))::kl) (fun k r x=>.blk x 24 [aA (l.getD ((l.length:Int)-1-k).toNat au.f0).tk,vs (l.getD ((l.length:Int)-1-k).toNat au.f0).ky,vs (l.getD ((l.length:Int)-1-k).toNat au.f0).vl]::(bG.set 1 (.blk yJ 4 [.bool r.2])).set 2 (.blk k1 9 [vs r.1])) ab (by subst a6;exact U) (by subst jG;rfl) rfl (fun _=>rfl) (W9) (⟨rfl,by rw [Nat.sub_zero,List.take_length]⟩) (fun ro Ik jO dT m7 nj a w pM jo ab U=>?_) (fun Y dB zst pV OH jn w U=>?_) (fun Dc mE jO dT m7 nj hD a w pM jo ab U=>?_) (fun I D dT a w nj iz bP dz jo ab U=>?_) (fun I D dT a w nj iz bP dz jo ab U=>?_)
 ·subst a6 jG
  (try dsimp only [k0] at ab);(try dsimp only [dd] at U)
  replace U:aB _ [_,_] [_,_,_,_,_] _:=U
  obtain ⟨rfl,wY⟩:=jo
  replace U:aB _ [_,_] [_,_,_,_,_] _:=U
  refine xH (by rfl) ?_
  refine aJ ab U rfl (dg b2) ?_
  rintro _ _ _ a w ⟨Ll,rfl,rfl,rfl⟩ ab U
  refine aJ ab U rfl (cJ b2 0 rfl rfl rfl rfl aI (bp rfl (bp rfl (bp rfl dO))) aI) ?_
  rintro _ _ _ a w ⟨rfl,rfl,rfl⟩ ab U
  replace U:aB _ [_,_] [_,_,_,_,_,_] _:=U
  refine qE<|⟨rfl,_,ab,U⟩
 ·subst a6 jG
  refine Calls.mono (Vt bL _ l Y _ _ dB zst _ (fun k=>(au.ek l tick key)=(au.ek (l.take (l.length-k)) tick key)) (fun ra rb=>∃ r:List UInt8×Bool,(au.ek l tick key)=r∧ra=.blk yJ 4 [.bool r.2]∧rb=.blk k1 9 [vs r.1]) _ _ cM aw (by rw [Nat.sub_zero,List.take_length]) (fun k aE aH=>(jn k ([],false) aE ⟨rfl,aH⟩).mono fun b w' eD=>?_) w U) fun e w' y8=>?_
  ·cases b with
   | true=>rw [if_pos rfl] at eD ⊢;obtain ⟨fe,⟨rfl,h1⟩,ar⟩:=eD;exact ⟨h1,ar⟩
   | false=>rw [if_neg (by simp)] at eD ⊢;obtain ⟨fe,h1,ar⟩:=eD;exact ⟨_,_,⟨fe,h1,rfl,rfl⟩,ar⟩
  ·obtain ⟨b,v9,qA,rfl,Cw,Cv⟩:=y8
   refine ⟨⟨_,rfl⟩,?_⟩
   cases b with
   | true=>rw [if_pos rfl] at Cv Cw;obtain ⟨rfl,h1⟩:=Cv;exact .inl ⟨([],false),⟨rfl,h1⟩,Cw⟩
   | false=>rw [if_neg (by simp)] at Cv Cw;obtain ⟨xE,xG,rfl,nj,h1,rfl,rfl⟩:=Cv;exact .inr ⟨nj,h1,Cw⟩
 ·subst a6 jG
  (try dsimp only [k0] at ab);(try dsimp only [dd] at U)
  replace U:aB _ [_,_] [_,_,_,_,_,_] _:=U
  obtain ⟨rfl,wY⟩:=jo
  replace U:aB _ [_,_] [_,_,_,_,_,_] _:=U
  refine wpIn_block<|wpIn_seq_k ?_;intro et cB
  refine xH (by rfl) ?_
  refine aG ab U (ae (aZ b2 rfl rfl (s':=0) az)<|ae (bf bB 0 rfl rfl rfl rfl)<|ae (bf bB 4 rfl rfl rfl rfl)<|ae (xu rfl rfl)<|ai rfl<|ah) fun a w ab U=>j3 4 18 4 ab U rfl rfl rfl rfl rfl (fun aP=>have aP:=(by first | exact of_decide_eq_true aP | exact aP);aO 18 rfl rfl rfl (aZ b2 rfl rfl (s':=0) az)<|aO 18 rfl rfl rfl (bf bH 0 rfl rfl rfl rfl)<|aO 18 rfl rfl rfl (bf bH 5 rfl rfl rfl rfl)<|aO 18 rfl rfl rfl (xw rfl rfl)<|ah) rfl rfl fun a w ab U=>?_
  refine qE<|cB _ _<|ajB ab rfl (fun aU=>?_) (fun aU=>?_)
  ·(try simp only [dj] at aU)
   refine wpIn_seq_k ?_;intro dL b9
   refine xH (by rfl) ?_
   refine aG ab U (ae (aZ b2 rfl rfl (s':=0) az)<|ae (bf bB 0 rfl rfl rfl rfl)<|ah) fun a w ab U=>aJ ab U rfl (dq bB 3 rfl rfl rfl rfl (by simp)) ?_
   rintro _ _ _ a w ⟨rfl,rfl,rfl⟩ ab U
   (try simp only [dd] at U)
   replace U:aB _ [_,_] [_,_,_,_,_,_] _:=U
   refine aJ ab U rfl (dq fL 2 rfl rfl rfl rfl (by simp)) ?_
   rintro _ _ _ a w ⟨rfl,rfl,rfl⟩ ab U
   (try simp only [dd] at U)
   replace U:aB _ [_,_] [_,_,_,_,_,_] _:=U
   refine qE<|b9 _ _<|wpIn_ret ?_
   exact .inr ⟨rfl,_,au.acE pM wY aU,U.ao al (List.sublist_cons_self _ _)⟩
  ·(try simp only [dj] at aU)
   refine wpIn_skip<|.inl ⟨rfl,([],false),⟨rfl,au.acF pM wY (fun h=>by rcases aU with h1 | h1;exact h1 h.1;exact h1 h.2)⟩,U.ao al (List.sublist_cons_self _ _)⟩
 ·subst a6 jG
  (try dsimp only [k0] at ab);(try dsimp only [dd] at U)
  replace U:=rR U
  exact Ce [] bP dz (by simp) (by simp) (by simp) (rs:=[.cell 6 9,.cell 7 4]) rfl ab U (vs:=[_,_]) ⟨⟨_,_,_,_,_,_,_,rfl,List.mem_of_getElem? (i:=2) rfl,bB,.inr ⟨rfl,rfl⟩⟩,⟨_,_,_,_,_,_,_,rfl,List.mem_of_getElem? (i:=1) rfl,fL,.inr ⟨rfl,rfl⟩⟩,trivial⟩ (fun W U=>⟨[],[],U.ao ay ay,by rw [jo]⟩)
 subst a6 jG
 (try dsimp only [k0] at ab);(try dsimp only [dd] at U)
 replace U:=rR U
 obtain ⟨rfl,wY⟩:=jo
 rw [Nat.sub_self] at wY
 replace U:=rR U
 refine bJ _ _<|bc fun eN cK=>aJ ab U rfl (dq bB 2 rfl rfl rfl rfl (by simp)) ?_
 rintro _ _ _ a w ⟨rfl,rfl,rfl⟩ ab U
 (try simp only [dd] at U)
 replace U:=rR U
 refine aJ ab U rfl (dq fL 1 rfl rfl rfl rfl (by simp)) ?_
 rintro _ _ _ a w ⟨rfl,rfl,rfl⟩ ab U
 (try simp only [dd] at U)
 replace U:=rR U
 refine wpList_nil (cK _ _ ?_)
 refine wp_ret<|Ce [] bP dz (by simp) (by simp) (by simp) (rs:=[.cell 6 9,.cell 7 4]) rfl ab U (vs:=[_,_]) ⟨⟨_,_,_,_,_,_,_,rfl,List.mem_of_getElem? (i:=2) rfl,bB,.inr ⟨rfl,rfl⟩⟩,⟨_,_,_,_,_,_,_,rfl,List.mem_of_getElem? (i:=1) rfl,fL,.inr ⟨rfl,rfl⟩⟩,trivial⟩ (fun W U=>⟨[],[],U.ao ay ay,by rw [wY];rfl⟩)
theorem yH(b:Nat)(pj v:Value)(l:List au.bK)(tick:Int)(key:List UInt8)(gl:l.Pairwise (fun f g=>f.tk≤g.tk))(w2:l.length≤512)(w:World){bt:TypeId}{fz:Nat×Nat}(hl:w.heap[b]?=some (.cells [pj,v].toArray bt fz))(aw:bo Go.aK.hW (cf w) v l):cC Tryz.prog 38 [.pointer (some ⟨b,0,none⟩),aA tick,vs key] w (fun r _ _=>r=.tuple [vs (au.ek l tick key).1,.bool (au.ek l tick key).2].toArray):=by
 refine c4 Tryz.func38 rfl Tryz.ntmps38 b4 fun a ab U=>?_
 have c6:=aw.1
 refine aD ab U (av rfl<|av rfl<|ah) fun a w ab U=>aD ab U (ai rfl<|ai rfl<|ae (bV M7 rfl (fun w U=>S9 _ _ _ _ _ gl ag w (U.ext _ _ hl) (bo.mono (U.le cM) aw)) bP)<|ai rfl<|ai rfl<|ae (bV XT rfl (fun w U=>ac1 _ _ _ _ w (bo.mono (U.le cM) (Ej aw))) bP)<|ae (cQ rfl rfl)<|ae (cQ rfl rfl)<|av rfl<|av rfl<|ah) fun a w ab U=>wp_ret ?_
 exact b0 (rs:=[.tmp 6,.tmp 7]) rfl ab U (vs:=[_,_]) ⟨rfl,rfl,trivial⟩ ay ay (by rw [au.Pa gl])
end
section
theorem XO:b1 Tryz.prog 18:=b6 Tryz.func18
theorem MW:b1 Tryz.prog 52:=b6 Tryz.func52
theorem MX:b1 Tryz.prog 53:=b6 Tryz.func53
theorem X3:b1 Tryz.prog 68:=b6 Tryz.func68
theorem Xa:b1 Tryz.prog 104:=b6 Tryz.func104
attribute [local irreducible] aF.int aF.bytes aF.getInt aF.dZ aL.sum aj.fb aj.aT aj.c0 aj.a7 aj.c3 aj.gi aj.app aj.bW au.dec
theorem aiw(v:Value)(bA:v.oneCell'=true)(w:World):cC Tryz.prog 68 [v] w (fun r zs hs=>∃ ck,r=.func (.func 104) (List.nil:List Value).toArray [Value.pointer (some ⟨ck,0,none⟩)].toArray∧zs=[]∧hs=[.blk ck 40 [v]]):=by
 refine c4 Tryz.func68 rfl Tryz.ntmps68 b4 fun a ab U=>bc fun eJ c8=>aJ ab U rfl (oM rfl bA) ?_
 rintro _ _ _ a w ⟨ck,rfl,rfl,rfl⟩ ab U
 refine aG ab U (av rfl<|ah) fun a w ab U=>wpList_nil (c8 _ _ ?_)
 refine aD ab U (ae (tC rfl rfl)<|av rfl<|ah) fun a w ab U=>wp_ret ?_
 exact b0 (rs:=[.tmp 2]) rfl ab U (vs:=[_]) ⟨rfl,trivial⟩ al al ⟨_,rfl,rfl,rfl⟩
theorem aiv(ck:Nat)(v:Value)(xs:List (List UInt8))(rN:∀ x∈xs,x.length≤8064)(Y:Value)(z:aR)(w0:World)(bU:List aR)(cF:List aC)(inv:Nat→aC×aC→Prop)(ra rb:aC)(bj:gQ w0 bU z)(aw:bo Go.aK.encS z v xs)(h0:inv 0 (ra,rb))(jn:∀ k r,k<(au.taken xs).length→inv k r→yD Tryz.prog Y (au.Ec xs k) (aB w0 bU (.blk ck 40 [v]::r.1::r.2::cF)) fun w'=>∃ fe,inv (k+1) fe∧aB w0 bU (.blk ck 40 [v]::fe.1::fe.2::cF) w'):mU Tryz.prog 104 [Y,Value.pointer (some ⟨ck,0,none⟩)] w0 bU [.blk ck 40 [v],ra,rb] cF (fun _ dB c5=>dB=[]∧∃ r:aC×aC,c5=[.blk ck 40 [v],r.1,r.2]∧inv (au.taken xs).length r):=by
 refine Gc Tryz.func104 rfl Tryz.ntmps104 b4 fun a w ab U=>?_
 replace U:=lK U
 have c6:=aw.1
 refine aD ab U (av rfl<|av rfl<|ah) fun a w ab U=>aD ab U (ae (bf cw 0 rfl rfl rfl rfl)<|ae (ee cw aw rfl)<|ai rfl<|ah) fun a w ab U=>wp_block ?_
 obtain ⟨bG,a6,U⟩:=U.c1
 refine dy (γ:=(aC×aC)×Nat) ((ra,rb),0) (fun (ez,i)=>[(3,aA (au.eX xs i).2),(4,aA ((au.eX xs i).1.length:Int)),(11,aA (i:Int))]) [(0,_),(9,_),(10,_)] (fun (ez,i)=>((bG.set 1 (ez.1)).set 2 (ez.2))) (fun (ez,i)=>i≤xs.length∧inv (au.eX xs i).1.length ez) (fun (ez,i)=>xs.length-i) (ab.sub ⟨rfl,rfl,rfl,rfl,rfl,rfl,trivial⟩) (by subst a6;exact U) (by exact ⟨Nat.zero_le _,h0⟩) ?_
 rintro ⟨ez,i⟩ a w bh ab U
 subst a6;(try dsimp only at bh ab U)
 obtain ⟨eL,iK⟩:=bh
 replace U:=lK U
 have CX:=au.SJ xs eL
 refine aD ab U (ae (cU rfl rfl)<|ah) fun a w ab U=>ax fun et cB=>cn ab rfl (fun aU=>?_) (fun aU=>?_)
 ·have ab2:(xs.getD i []).length≤8064:=rN _ (aL.jm xs i ag)
  refine wp_skip<|cB _ _<|ax fun dL b9=>wp_block ?_
  refine ax fun eN cK=>bx ab U (ae (dV cw bB aw rfl rfl ag)<|ae (tA bB aw bj rfl rfl ag)<|av rfl<|ah) fun a w ab U=>?_
  rw [Int.toNat_natCast] at ab
  refine cK _ _<|bc fun fa cT=>aG ab U (ai rfl<|ah) fun a w ab U=>aJ ab U rfl (uD bB bX bI rfl ag) ?_
  rintro v1 _ _ a w ⟨z2,rfl,rfl,HX⟩ ab U
  refine aG ab U (ae (bV XO rfl (fun w U=>Wb _ _ w (bo.mono (U.le (.inr (by simp))) HX)) bP)<|ai rfl<|ae (cQ rfl rfl)<|ae (cQ rfl rfl)<|ah) fun a w ab U=>aJ ab U rfl (dg b2) ?_
  rintro _ _ _ a w ⟨yJ,rfl,rfl,rfl⟩ ab U
  refine aJ ab U rfl (cJ b2 0 rfl rfl rfl rfl aI (bp rfl (bp rfl (bp rfl dO))) aI) ?_
  rintro _ _ _ a w ⟨rfl,rfl,rfl⟩ ab U
  replace U:=rS U
  refine aG ab U (av rfl<|ah) fun a w ab U=>wpList_nil (cT _ _ ?_)
  refine ax fun fk cP=>bc fun gB du=>aG ab U (ai rfl<|ae (dS rfl rfl)<|ai rfl<|ah) fun a w ab U=>gA 2 23 4 ab U rfl rfl rfl rfl rfl (fun aP=>have aP:=(Ad aP);aO 23 rfl rfl rfl (aZ b2 rfl rfl (s':=0) az)<|aO 23 rfl rfl rfl (bf bH 0 rfl rfl rfl rfl)<|aO 23 rfl rfl rfl (bE rfl)<|aO 23 rfl rfl rfl (cU rfl rfl)<|ah) rfl rfl fun a w ab U=>?_
  refine aG ab U (ai rfl<|ah) fun a w ab U=>gA 8 29 2 ab U rfl rfl rfl rfl rfl (fun aP=>have aP:=aP;aO 29 rfl rfl rfl (bE rfl)<|aO 29 rfl rfl rfl (gq rfl rfl)<|ah) rfl rfl fun a w ab U=>?_
  refine wpList_nil (du _ _ ?_)
  refine df ab rfl (fun bz=>?_) (fun bz=>?_)
  ·(try simp only [dj] at bz)
   have zN:=au.SM (l:=xs) (i:=i) ag (fun h=>by rcases bz with (h1 | h1) | h1;exact h1 h.1.1;omega;omega)
   refine wp_exit<|b9 _ _<|bx ab U (b5 rfl rfl<|ai rfl<|ah) fun a w ab U=>?_
   replace U:=U.ao (c2) (c2)
   refine ⟨(ez,i+1),?_,?_,ab.sub ⟨(by show some (aA _)=some (aA _);first | rw [zN] | rw [Ot]),(by show some (aA _)=some (aA _);first | rw [zN] | (rw [HR];rfl)),rfl,rfl,rfl,rfl,trivial⟩,?_⟩
   ·(try dsimp only);omega
   ·exact ⟨by omega,by rw [zN];exact iK⟩
   ·exact U
  ·(try simp only [dj] at bz)
   obtain ⟨abQ,abR,HR,Ot⟩:=au.aiD (l:=xs) (i:=i) ag ⟨⟨bz.1.1,by omega⟩,by omega⟩
   refine wp_skip<|cP _ _<|aD ab U (ae (aZ b2 rfl rfl (s':=0) az)<|ae (bf bH 0 rfl rfl rfl rfl)<|ai rfl<|b5 rfl rfl<|av rfl<|av rfl<|ah) fun a w ab U=>ax fun ho dK=>DT 2 rfl ?_
   refine aG ab U (ai rfl<|ae (gh b2 0 rfl rfl aI rfl)<|ah) fun a w ab U=>qE ?_
   ·skip
    replace U:=U.ao (List.sublist_cons_self _ _) (c2)
    have s8:=jn _ ez abQ iK
    rw [abR] at s8
    refine Kg (ys:=[_]) (by rfl) rfl ab U rfl rfl s8 ?_
    rintro a w ab ⟨cR,uY,U⟩
    refine r9 rfl ab U (ae (fZ rfl)<|ah) fun a w ab U=>wpListIn_nil ?_
    refine dK _ _<|df ab rfl (fun h=>absurd h (by simp)) (fun _=>?_)
    refine wp_skip<|b9 _ _<|bx ab U (b5 rfl rfl<|ai rfl<|ah) fun a w ab U=>⟨(cR,i+1),?_,?_,ab.sub ⟨(by show some (aA _)=some (aA _);first | rw [zN] | rw [Ot]),(by show some (aA _)=some (aA _);first | rw [zN] | (rw [HR];rfl)),rfl,rfl,rfl,rfl,trivial⟩,?_⟩
    ·(try dsimp only);omega
    ·exact ⟨by omega,by rw [HR];exact uY⟩
    ·exact U
 ·obtain rfl:i=xs.length:=by omega
  refine wp_exit ?_
  -- falls off the end
  exact Gd rfl ab U [] [_,_,_] al al ⟨rfl,_,rfl,iK⟩
theorem z6(h:ak.hT)(S:ak.aX)(oh:S.off=false)(w0:World)(bU:List aR){d1 d2 d3 d4:aC}{ed:Nat×Nat}{eb:TypeId}(dF:w0.heap[1]?=some (.cells (aL.eH.map cI).toArray eb ed))(dz:hF h S d1 d2 d3 d4):e1 Tryz.prog 31 [.pointer (some ⟨h.b,0,none⟩)] w0 bU [d1,d2,d3,d4] (fun r zs hs=>zs=[]∧∃ bl b fv cu ct cx cz bL bT fm iw,r=.tuple [.pointer (some ⟨bl,0,none⟩),aA 0].toArray∧hs=[.blk bl 119 [.pointer (some ⟨b,0,none⟩),fv],.row fv 24 3 (au.taken (aj.bW S).tx).length ((au.taken (aj.bW S).tx).flatMap au.je),cu,ct,cx,cz,bL,bT,fm,iw]∧mu b h.b (aj.bW S) cu ct cx cz∧hF h S bL bT fm iw):=by
 refine Yn Tryz.func31 rfl Tryz.ntmps31 b4 fun cF a w ab U=>?_
 replace U:=fX U
 have bC:=ak.mV.ok dz
 have fF:=bC.lo
 have gJ:=bC.aH
 refine aD ab U (av rfl<|av rfl<|ah) fun a w ab U=>ax fun cG bJ=>aD ab U (ai rfl<|ae (o5 mS rfl rfl)<|ah) fun a w ab U=>df ab rfl (fun h=>absurd h (by simp)) (fun _=>?_)
 refine wp_skip<|bJ _ _<|bc fun et cB=>aG ab U (ai rfl<|ah) fun a w ab U=>aJ ab U rfl (dv MW rfl (List.Perm.refl _) (by exact (Qb _ _ (by assumption) _ _ dF dz))) ?_
 rintro _ _ _ a w ⟨_,_,rfl,rfl,⟨rfl,xd,Au,Av,Aw,Ax,aqr,aqF,aqU,aqW,rfl,rfl,NQ,qs⟩⟩ ab U
 replace U:=iD U
 refine aG ab U (ai rfl<|ae (cQ rfl rfl)<|ae (cQ rfl rfl)<|av rfl<|av rfl<|ah) fun a w ab U=>wpList_nil ?_
 obtain ⟨arl,arj,arv,zh,_⟩:=id NQ
 have anU:=zh.tl
 have anV:=zh.nl
 have anW:=zh.bT
 have abP:=au.AW (aj.bW S).tx
 have anD:=abP.len
 refine cB _ _<|ax fun dL b9=>aD ab U (ai rfl<|ae (dS rfl rfl)<|ah) fun a w ab U=>e9 ab rfl (fun bz=>?_) (fun bz=>?_)
 ·exact absurd rfl bz
 ·refine wp_skip<|b9 _ _<|bc fun fa cT=>aG ab U (ai rfl<|ae (IP nQ 2 az rfl rfl rfl a8)<|ah) fun a w ab U=>aJ ab U rfl (jV rfl) ?_
  rintro _ _ _ a w ⟨BF,rfl,rfl,rfl⟩ ab U
  refine aJ ab U rfl (wv iF (by rfl)) ?_
  rintro _ _ _ a w ⟨akM,rfl,rfl,rfl⟩ ab U
  refine aJ ab U rfl (dq iF 0 rfl rfl rfl rfl (by simp)) ?_
  rintro _ _ _ a w ⟨rfl,rfl,rfl⟩ ab U
  (try simp only [dd] at U)
  replace U:=nM U
  refine wpList_nil ?_
  replace U:=U.iC 24 3
  replace U:=vq U
  refine cT _ _<|ax fun fk cP=>bc fun gB du=>aG ab U (ai rfl<|ah) fun a w ab U=>?_
  replace U:=(((U.perm q2).perm ua).perm vW).perm vY
  replace U:=vq U
  refine aJ ab U rfl (dv MX rfl (List.Perm.refl _) (by exact (OS _ _ _ _ _  NQ))) ?_
  rintro aje _ _ a w ⟨_,_,rfl,rfl,⟨rfl,aoT,apd,apy,apT,rfl,Cq⟩⟩ ab U
  replace U:aB _ (_) (_::_::_::_::_::_::_::_::_::_::_::_::_) _:=U
  refine aJ ab U rfl (eT X3 rfl (fun w U=>aiw _ (row_one (U.dp 0 rfl)) w )) ?_
  rintro _ _ _ a w ⟨_,_,rfl,rfl,⟨bL,rfl,rfl,rfl⟩⟩ ab U
  replace U:aB _ (_) (_::_::_::_::_::_::_::_::_::_::_::_::_::_) _:=U
  refine wpList_nil (du _ _ ?_)
  refine wp_block ?_
  replace U:=U.perm (.swap _ _ _)
  obtain ⟨zt,OH,U⟩:=aB.qo (h0:=fun _=>rfl) (f:=vs) (p:=fun s=>s.length≤140737488355328) U rfl ag zh.pc
  replace U:=qL U
  replace U:=(U.perm Bv).perm lp
  replace U:=qL U
  obtain ⟨bG,a6,U⟩:=U.c1
  obtain ⟨kl,jG,ab⟩:∃ l,l=_∧Fr _ l _:=⟨_,rfl,ab⟩
  refine Ka (ps:=[24]) (γ:=(aC×aC)) (ξ:=Nat) (fun r=>(bG.set 1 r.1).set 2 r.2) (fun (k:Nat) (r:aC×aC)=>∃ u,r=(.blk BF 119 [.pointer (some ⟨xd,0,none⟩),u],.row u 24 3 k (((au.taken (aj.bW S).tx).take k).flatMap au.je))) ((au.taken (aj.bW S).tx).length) (fun k=>au.Ec (aj.bW S).tx k) ((.blk BF 119 [.pointer (some ⟨xd,0,none⟩),(Value.slice none 0 0)],.row (Value.slice none 0 0) 24 3 0 [])) (fun k r x=>(7,Value.pointer (some ⟨x,0,none⟩))::(24,.agg [aA ((au.taken (aj.bW S).tx).getD k au.f0).tk,vs ((au.taken (aj.bW S).tx).getD k au.f0).ky,vs ((au.taken (aj.bW S).tx).getD k au.f0).vl].toArray)::kl) (fun k r x=>.blk x 24 [aA ((au.taken (aj.bW S).tx).getD k au.f0).tk,vs ((au.taken (aj.bW S).tx).getD k au.f0).ky,vs ((au.taken (aj.bW S).tx).getD k au.f0).vl]::(bG.set 1 r.1).set 2 r.2) ab (by subst a6;exact U) (by subst jG;rfl) rfl (fun _=>rfl) (Xa) (⟨_,rfl⟩) (fun ro Ik jO dT m7 nj a w pM jo ab U=>?_) (fun Y dB pV jn w U=>?_) (fun Dc mE jO dT m7 nj hD a w pM jo ab U=>?_) (fun I D dT a w nj iz bP dz jo ab U=>?_)
  ·subst a6 jG
   (try dsimp only [k0] at ab);(try dsimp only [dd] at U)
   replace U:aB _ (_::_::_::_) (_::_::_::_::_::_::_::_::_::_::_::_::_) _:=U
   obtain ⟨u,rfl⟩:=jo
   (try dsimp only at U)
   replace U:aB _ (_::_::_::_) (_::_::_::_::_::_::_::_::_::_::_::_::_) _:=U
   refine xH (by rfl) ?_
   refine aJ ab U rfl (dg b2) ?_
   rintro _ _ _ a w ⟨U1,rfl,rfl,rfl⟩ ab U
   refine aJ ab U rfl (cJ b2 0 rfl rfl rfl rfl aI (bp rfl (bp rfl (bp rfl dO))) aI) ?_
   rintro _ _ _ a w ⟨rfl,rfl,rfl⟩ ab U
   replace U:aB _ (_::_::_::_) (_::_::_::_::_::_::_::_::_::_::_::_::_::_) _:=U
   refine qE<|⟨rfl,U1,ab,U⟩
  ·subst a6 jG
   exact mU.Yz (aiv bL aje (aj.bW S).tx zh.tr Y _ _ dB _ (fun (k:Nat) (r:aC×aC)=>∃ u,r=(.blk BF 119 [.pointer (some ⟨xd,0,none⟩),u],.row u 24 3 k (((au.taken (aj.bW S).tx).take k).flatMap au.je))) _ _ (.inr (pV _ (by simp))) OH ⟨(Value.slice none 0 0),rfl⟩ jn) w U
  ·subst a6 jG
   (try dsimp only [k0] at ab);(try dsimp only [dd] at U)
   replace U:aB _ (_::_::_::_) (_::_::_::_::_::_::_::_::_::_::_::_::_::_) _:=U
   obtain ⟨u,rfl⟩:=jo
   (try dsimp only at U)
   replace U:aB _ (_::_::_::_) (_::_::_::_::_::_::_::_::_::_::_::_::_::_) _:=U
   refine wpIn_block ?_
   revert U;revert ab;apply RJ (J:=kj (α0:=Value) (α1:=Value) 36 _ _ _ _ _) #[false,false,false,false,false,false,false,false,false,false,false] 11 mixed rfl rfl;case aT=>rfl
   ·intro w ab U
    refine aS 0 rfl ab (U.ao al (e8.k.n.n.n.n.n.n.n.n)) (bf iF 0 rfl rfl rfl rfl) fun a ab=>aS 1 rfl ab (U.ao al (e8.k.n.n.n.n.n.n.n.n)) (bf iF 0 rfl rfl rfl rfl) fun a ab=>aS 2 rfl ab (U.ao al (p6)) (bN rfl) fun a ab=>aS 3 rfl ab (U.ao al (p6)) (aZ nQ rfl rfl (s':=0) az) fun a ab=>aS 4 rfl ab (U.ao al (bQ.k.n.n)) (bf dh 0 rfl rfl rfl rfl) fun a ab=>?_
    refine aS 5 rfl ab (U.ao al (mL.k)) (gh b2 0 rfl rfl aI rfl) fun a ab=>bY 6 rfl rfl ab U rfl (oN dh b2 rfl aI a8 bM a8 a8) ?_
    rintro Ba _ _ a w ⟨rfl,rfl⟩ ab U
    replace U:aB _ (_::_::_::_) (_::_::_::_::_::_::_::_::_::_::_::_::_::_::_) _:=U
    refine ⟨⟨aq,.inr (U.ao al (bQ.k.n.n.n)),.inr (U.ao al (tJ)),.inr (U.ao al (tJ)),.inr (U.ao al (e8.k.n.n.n.n.n.n.n.n.n)),.inr (U.ao al (e8.k.n.n.n.n.n.n.n.n.n)),trivial⟩,?_⟩
    refine bY 7 rfl rfl ab U rfl (dH dh b2 4 rfl rfl rfl (eo dh (k:=0) rfl bM) aI rfl a8) ?_
    rintro TA _ _ a w ⟨rfl,rfl⟩ ab U
    replace U:aB _ (_::_::_::_) (_::_::_::_::_::_::_::_::_::_::_::_::_::_::_) _:=U
    refine ⟨⟨aq,aq,aq,.inr (U.ao al (tJ)),.inr (U.ao al (e8.k.n.n.n.n.n.n.n.n.n)),.inr (U.ao al (e8.k.n.n.n.n.n.n.n.n.n)),trivial⟩,?_⟩
    refine aS 8 rfl ab (U.ao al (tJ)) (bN rfl) fun a ab=>aS 9 rfl ab (U.ao al (tJ)) (aZ nQ rfl rfl (s':=0) az) fun a ab=>bY 10 rfl rfl ab U rfl (dq dh 3 rfl rfl rfl (row_one (U.dp 4 rfl)) (by simp)) ?_
    rintro _ _ _ a w ⟨rfl,rfl,rfl⟩ ab U
    replace U:aB _ (_::_::_::_) (_::_::_::.blk _ _ ([_,_].set 1 _)::_::_::_::_::_::_::_::_::_::_::_) _:=U
    simp only [dd] at U
    replace U:aB _ (_::_::_::_) (_::_::_::_::_::_::_::_::_::_::_::_::_::_::_) _:=U
    refine ⟨⟨aq,aq,aq,aq,aq,aq,aq,aq,trivial⟩,?_⟩
    exact ev az (lI Ba TA (trivial) (ab.sub (L':=[]) trivial) U)
   rintro a w ⟨Ba,TA, -,ab,U⟩
   (try dsimp only at ab U)
   replace U:=((((((((((U.perm nV).perm mX).perm pv).perm qf).perm uc).perm qh).perm ue).perm yt).perm By).perm Bz).perm EV
   replace U:=U.perm (.cons _ (.cons _ (.cons _ (.cons _ (.cons _ (.cons _ (.cons _ (.cons _ (.cons _ (.cons _ (.cons _ (.cons _ (.swap _ _ _)))))))))))))
   replace U:=U.perm (.cons _ (.cons _ (.cons _ (.cons _ (.cons _ (.cons _ (.cons _ (.cons _ (.cons _ (.cons _ (.cons _ (.swap _ _ _))))))))))))
   rw [← au.aiE pM] at U
   exact ⟨rfl,(_,_),⟨_,rfl⟩,U.ao al (fO.k.k.k.k.k.k.k.k.k.k.k.k)⟩
  subst a6 jG
  (try dsimp only [k0] at ab);(try dsimp only [dd] at U)
  replace U:aB _ (_::_::_) (_::_::_::_::_::_::_::_::_::_::_::_::_) _:=U
  obtain ⟨u,rfl⟩:=jo
  (try dsimp only at U)
  replace U:aB _ (_::_::_) (_::_::_::_::_::_::_::_::_::_::_::_::_) _:=U
  refine cP _ _<|aD ab U (ae (bf iF 7 rfl rfl rfl rfl)<|av rfl<|av rfl<|ah) fun a w ab U=>wp_ret ?_
  replace U:=(((((((((U.perm (.swap _ _ _)).perm hN).perm j6).perm km).perm pw).perm qg).perm ue).perm yt).perm By).perm Bz
  rw [List.take_length] at U
  exact Yq bP dz (by simp) (fun z bj=>by simp [bj]) (fun z bj=>iz z (by simp [bj])) (rs:=[.tmp 2,.tmp 3]) rfl ab U (vs:=[_,_]) ⟨rfl,rfl,trivial⟩ [_,_,_,_,_,_,_,_,_,_] (fO.k.k.k.k.k.k.k.k.k.k) ⟨rfl,BF,xd,_,_,_,_,_,_,_,_,_,rfl,rfl,Cq,qs⟩
end
section
theorem SV:ba Tryz.prog 97 (.pointer 172) 1 8 (Value.pointer none):=⟨Tryz.underlying97,by kernel_rfl⟩
theorem XJ:b1 Tryz.prog 16:=b6 Tryz.func16
theorem y0:b1 Tryz.prog 33:=b6 Tryz.func33
theorem X4:b1 Tryz.prog 72:=b6 Tryz.func72
attribute [local irreducible] aF.int aF.bytes aF.getInt aF.dZ aL.sum aj.fb aj.aT aj.c0 aj.a7 aj.c3 aj.gi aj.app aj.bW au.dec au.enc
abbrev yp(bl b:Nat)(fv:Value):aC:=.blk bl 119 [.pointer (some ⟨b,0,none⟩),fv]
abbrev mx(fv:Value)(l:List au.bK):aC:=.row fv 24 3 l.length (l.flatMap au.je)
theorem xg(h:ak.hT)(bl b:Nat)(M:au.gg)(f:au.bK)(bw:au.j4 f)(eK:f.ky.length≤1048576∧f.vl.length≤1048576)(w0:World)(bU:List aR){fv:Value}{cu ct cx cz d1 d2 d3 d4:aC}{ed:Nat×Nat}{eb:TypeId}(dF:w0.heap[1]?=some (.cells (aL.eH.map cI).toArray eb ed))(gl:au.Good M.F)(eD:mu b h.b M.J cu ct cx cz)(dz:hF h M.S d1 d2 d3 d4):e1 Tryz.prog 36 [.pointer (some ⟨bl,0,none⟩),.agg [aA f.tk,vs f.ky,vs f.vl].toArray] w0 bU [.blk bl 119 [.pointer (some ⟨b,0,none⟩),fv],.row fv 24 3 M.F.length (M.F.flatMap au.je),cu,ct,cx,cz,d1,d2,d3,d4] (au.ES (yp bl b) mx (mu b h.b) (hF h) (au.add M f).1 (aA (au.add M f).2)):=by
 refine gk Tryz.func36 rfl Tryz.ntmps36 b4 fun cF a w ab U=>?_
 replace U:=nM U
 have oe:=gl.len
 refine bc fun eJ c8=>aJ ab U rfl (jV rfl) ?_
 rintro _ _ _ a w ⟨ck,rfl,rfl,rfl⟩ ab U
 refine aG ab U (av rfl<|ah) fun a w ab U=>wpList_nil (c8 _ _ ?_)
 refine ax fun cG bJ=>aD ab U (ai rfl<|ae (o5 iF rfl rfl)<|ah) fun a w ab U=>df ab rfl (fun h=>absurd h (by simp)) (fun _=>?_)
 refine wp_skip<|bJ _ _<|ax fun et cB=>aD ab U (ae (gh b2 0 rfl rfl aI rfl)<|ae (bV MD rfl (fun w U=>Ns f bw w ) bP)<|av rfl<|ah) fun a w ab U=>aD ab U (ai rfl<|ae (dS rfl rfl)<|ah) fun a w ab U=>?_
 refine e9 ab rfl (fun bz=>?_) (fun bz=>?_)
 ·refine ax fun fa cT=>bx ab U (ai rfl<|av rfl<|ah) fun a w ab U=>cT _ _ ?_
  refine wp_ret ?_
  replace U:=(((((((((U.perm (.swap _ _ _)).perm hN).perm j6).perm km).perm pw).perm qg).perm q7).perm q8).perm yu).perm yv
  exact cY (rs:=[.tmp 4]) rfl ab U (vs:=[_]) ⟨rfl,trivial⟩ [] [_,_,_,_,_,_,_,_,_,_] al (c2.k.k.k.k.k.k.k.k.k.k) (au.zY (L:=M) ⟨rfl,rfl,_,_,_,_,_,_,_,_,_,rfl,eD,dz⟩ (by rw [au.wb bz]) (by rw [au.wb bz]))
 ·refine wp_skip<|cB _ _<|ax fun fk cP=>iE mixed az ab U (ae (aZ b2 rfl rfl (s':=0) az)<|ae (bf bH 0 rfl rfl rfl rfl)<|ai rfl<|ae (bV y0 rfl (fun w U=>yO _ _ _ _ w (j0 U 1 rfl) (ie (hl:=au.hO) (h1:=au.hy) (U.dp 2 rfl) rfl (by first | omega | (simp;done)) (au.lA gl))) bP)<|ae (cU rfl rfl)<|ah) fun a w ab U=>cn ab rfl (fun cl=>?_) (fun cl=>?_)
  ·refine ax fun hU ef=>bx ab U (av rfl<|ah) fun a w ab U=>ef _ _ ?_
   refine wp_ret ?_
   replace U:=(((((((((U.perm (.swap _ _ _)).perm hN).perm j6).perm km).perm pw).perm qg).perm q7).perm q8).perm yu).perm yv
   exact cY (rs:=[.tmp 4]) rfl ab U (vs:=[_]) ⟨rfl,trivial⟩ [] [_,_,_,_,_,_,_,_,_,_] al (c2.k.k.k.k.k.k.k.k.k.k) (au.zY (L:=M) ⟨rfl,rfl,_,_,_,_,_,_,_,_,_,rfl,eD,dz⟩ (by rw [au.uo bz cl]) (by rw [au.uo bz cl]))
  ·refine wp_skip<|cP _ _<|ax fun ho dK=>aD ab U (ai rfl<|ae (bN rfl)<|ae (aZ nQ rfl rfl (s':=0) az)<|ae (bf dh 1 rfl rfl rfl rfl)<|ae (hA dh 2 rfl rfl)<|ae (ke rfl rfl)<|ah) fun a w ab U=>cn ab rfl (fun dI=>?_) (fun dI=>?_)
   ·refine ax fun iR eO=>bx ab U (av rfl<|ah) fun a w ab U=>eO _ _ ?_
    refine wp_ret ?_
    replace U:=(((((((((U.perm (.swap _ _ _)).perm hN).perm j6).perm km).perm pw).perm qg).perm q7).perm q8).perm yu).perm yv
    exact cY (rs:=[.tmp 4]) rfl ab U (vs:=[_]) ⟨rfl,trivial⟩ [] [_,_,_,_,_,_,_,_,_,_] al (c2.k.k.k.k.k.k.k.k.k.k) (au.zY (L:=M) ⟨rfl,rfl,_,_,_,_,_,_,_,_,_,rfl,eD,dz⟩ (by rw [au.wc bz cl ag]) (by rw [au.wc bz cl ag]))
   ·refine wp_skip<|dK _ _<|ax fun kY gF=>ax fun j5 fC=>?_
    revert U;revert ab;apply hL (J:=EL (α0:=Value) (α1:=aC) (α2:=aC) (α3:=aC) (α4:=aC) (α5:=aC) (α6:=aC) (α7:=aC) (α8:=aC) 50 _ _ _ _ _) #[false,false,false,false,false,false,false,false,false,false,false,false,false] 13 mixed rfl rfl
    ·intro w ab U
     refine aS 0 rfl ab (U.ao al (oy)) (bE rfl) fun a ab=>aS 1 rfl ab (U.ao al (oy)) (bN rfl) fun a ab=>aS 2 rfl ab (U.ao al (oy)) (aZ nQ rfl rfl (s':=0) az) fun a ab=>aS 3 rfl ab (U.ao al (dG.k.n)) (bf SV 0 rfl rfl rfl rfl) fun a ab=>aS 4 rfl ab (U.ao al (bQ.k)) (gh b2 0 rfl rfl aI rfl) fun a ab=>?_
     refine bY 5 rfl rfl ab U rfl (eT XJ rfl (fun w U=>WV f bw eK w )) ?_
     rintro Te _ _ a w ⟨_,_,rfl,rfl,rfl,rfl⟩ ab U
     replace U:aB _ (_) (_::_::_::_::_::_::_::_::_::_::_::_::_) _:=U
     refine ⟨⟨aq,.inr (U.ao al (dG.k.n.n)),.inr (U.ao al (mL)),.inr (U.ao al (mL)),.inr (U.ao al (mL)),trivial⟩,?_⟩
     refine aS 6 rfl ab (U.ao al (oy.k)) (nf bX bB bI 0 rfl rfl) fun a ab=>fB [7] az rfl ⟨?_,trivial⟩
     replace U:=(((((((U.perm kD).perm ln).perm lp).perm lV).perm ud).perm EZ).perm KZ).perm K0
     replace U:aB _ (_) (_::_::_::_::_::_::_::_::_::_::_::_::_) _:=U
     refine dW _ rfl rfl ab U rfl (dv X4 rfl (List.Perm.refl _) (by exact (acx _ _ _ _ _ _ _ dF eD dz))) ?_
     rintro _ _ _ a w ⟨_,_,rfl,rfl,⟨rfl,rfl,QY,Q8,Ri,Rr,SW,SY,S0,S2,rfl,Cr,Co⟩⟩ ab U
     replace U:aB _ (_) (_::_::_::_::_::_::_::_::_::_::_::_::_) _:=U
     refine ⟨⟨aq,aq,aq,aq,.inr (U.ao al (mL)),.inr (U.ao al (mL)),trivial⟩,?_⟩
     refine aS 8 rfl ab (U.ao al (mL)) (bE rfl) fun a ab=>aS 9 rfl ab (U.ao al (mL)) (cQ rfl rfl) fun a ab=>aS 10 rfl ab (U.ao al (mL)) (cQ rfl rfl) fun a ab=>aS 11 rfl ab (U.ao al (mL)) (kS rfl) fun a ab=>aS 12 rfl ab (U.ao al (mL)) (kS rfl) fun a ab=>?_
     exact ev az (OP Te QY Q8 Ri Rr SW SY S0 S2 ((And.intro Cr (And.intro Co trivial))) (ab.sub (L':=[(0,_),(3,_),(7,_)]) ⟨rfl,rfl,rfl,trivial⟩) U)
    rintro a w ⟨Te,QY,Q8,Ri,Rr,SW,SY,S0,S2,⟨Cr,Co, -⟩,ab,U⟩
    (try dsimp only at ab U)
    refine fC _ _<|aD ab U (ai rfl<|ae (dS rfl rfl)<|ah) fun a w ab U=>e9 ab rfl (fun dE=>?_) (fun dE=>?_)
    ·refine ax fun oF jg=>bx ab U (ai rfl<|av rfl<|ah) fun a w ab U=>jg _ _ ?_
     refine wp_ret ?_
     replace U:=(U.perm Kv).perm KD
     exact cY (rs:=[.tmp 4]) rfl ab U (vs:=[_]) ⟨rfl,trivial⟩ [] [_,_,_,_,_,_,_,_,_,_] al (fO.k.k.k.k.k.k.k.k.k.k) (au.zY (L:=⟨(aj.app M.J M.S (au.enc f)).1,(aj.app M.J M.S (au.enc f)).2.1,M.F⟩) ⟨rfl,rfl,_,_,_,_,_,_,_,_,_,rfl,Cr,Co⟩ (by rw [au.uq bz cl ag dE]) (by rw [au.uq bz cl ag dE]))
    ·refine wp_skip<|gF _ _<|ax fun pq jF=>?_
     revert U;revert ab;apply hL (J:=kj (α0:=Value) (α1:=Value) 50 _ _ _ _ _) #[false,false,false,false,false,false,false,false,false,false,false] 11 mixed rfl rfl
     ·intro w ab U
      refine aS 0 rfl ab (U.ao al (mL)) (bE rfl) fun a ab=>aS 1 rfl ab (U.ao al (mL)) (bE rfl) fun a ab=>aS 2 rfl ab (U.ao al (mL)) (bN rfl) fun a ab=>aS 3 rfl ab (U.ao al (mL)) (aZ nQ rfl rfl (s':=0) az) fun a ab=>aS 4 rfl ab (U.ao al (c2.k.n.n.n.n.n.n.n.n.n.n)) (bf dh 0 rfl rfl rfl rfl) fun a ab=>?_
      refine aS 5 rfl ab (U.ao al (fO.k.n.n.n.n.n.n.n.n.n)) (gh b2 0 rfl rfl aI rfl) fun a ab=>bY 6 rfl rfl ab U rfl (oN dh b2 rfl aI a8 bM a8 a8) ?_
      rintro Ti _ _ a w ⟨rfl,rfl⟩ ab U
      replace U:aB _ (_) (_::_::_::_::_::_::_::_::_::_::_::_::_::_) _:=U
      refine ⟨⟨aq,.inr (U.ao al (c2.k.n.n.n.n.n.n.n.n.n.n.n)),.inr (U.ao al (p6)),.inr (U.ao al (p6)),.inr (U.ao al (p6)),.inr (U.ao al (p6)),trivial⟩,?_⟩
      refine bY 7 rfl rfl ab U rfl (dH dh b2 12 rfl rfl rfl (eo dh (k:=0) rfl bM) aI rfl a8) ?_
      rintro Tj _ _ a w ⟨rfl,rfl⟩ ab U
      replace U:aB _ (_) (_::_::_::_::_::_::_::_::_::_::_::_::_::_) _:=U
      refine ⟨⟨aq,aq,aq,.inr (U.ao al (p6)),.inr (U.ao al (p6)),.inr (U.ao al (p6)),trivial⟩,?_⟩
      refine aS 8 rfl ab (U.ao al (p6)) (bN rfl) fun a ab=>aS 9 rfl ab (U.ao al (p6)) (aZ nQ rfl rfl (s':=0) az) fun a ab=>bY 10 rfl rfl ab U rfl (dq dh 11 rfl rfl rfl (row_one (U.dp 12 rfl)) (by simp)) ?_
      rintro _ _ _ a w ⟨rfl,rfl,rfl⟩ ab U
      replace U:aB _ (_) (_::_::_::_::_::_::_::_::_::_::_::.blk _ _ ([_,_].set 1 _)::_::_) _:=U
      simp only [dd] at U
      replace U:aB _ (_) (_::_::_::_::_::_::_::_::_::_::_::_::_::_) _:=U
      refine ⟨⟨aq,aq,aq,aq,aq,aq,aq,aq,trivial⟩,?_⟩
      exact ev az (lI Ti Tj (trivial) (ab.sub (L':=[]) trivial) U)
     rintro a w ⟨Ti,Tj, -,ab,U⟩
     (try dsimp only at ab U)
     refine jF _ _<|aD ab U (av rfl<|ah) fun a w ab U=>wp_ret ?_
     rw [au.wB,au.xh M.F f] at U
     replace U:=(((((((((U.perm Uj).perm Uo).perm j6).perm km).perm pw).perm qg).perm q7).perm q8).perm yu).perm yv
     exact cY (rs:=[.tmp 4]) rfl ab U (vs:=[_]) ⟨rfl,trivial⟩ [] [_,_,_,_,_,_,_,_,_,_] al (eS.k.k.k.k.k.k.k.k.k.k) (au.zY (L:=⟨(aj.app M.J M.S (au.enc f)).1,(aj.app M.J M.S (au.enc f)).2.1,M.F++[f]⟩) ⟨rfl,rfl,_,_,_,_,_,_,_,_,_,rfl,Cr,Co⟩ (by rw [au.sn bz cl ag dE]) (by rw [au.sn bz cl ag dE]))
end
section
theorem yY:b1 Tryz.prog 26:=b6 Tryz.func26
theorem yZ:b1 Tryz.prog 31:=b6 Tryz.func31
theorem wE:b1 Tryz.prog 32:=b6 Tryz.func32
theorem MP:b1 Tryz.prog 35:=b6 Tryz.func35
theorem wF:b1 Tryz.prog 36:=b6 Tryz.func36
theorem MQ:b1 Tryz.prog 37:=b6 Tryz.func37
theorem y1:b1 Tryz.prog 38:=b6 Tryz.func38
theorem F5:b1 Tryz.prog 46:=b6 Tryz.func46
theorem F6:b1 Tryz.prog 50:=b6 Tryz.func50
theorem M3:b1 Tryz.prog 63:=b6 Tryz.func63
attribute [local irreducible] aF.int aF.bytes aF.getInt aF.dZ aL.sum aj.fb aj.aT aj.c0 aj.a7 aj.c3 aj.gi aj.app aj.bW au.dec au.enc ak.new ak.dx ak.e6 au.add au.ek au.keys au.taken
theorem ahx(va p8:Value)(w:World)(fp:bo Go.aK.encS (cf w) va (au.keys [au.bZ,au.cg] 4))(fV:bo Go.aK.encS (cf w) p8 [[97]]):cC Tryz.prog 37 [va,p8] w (fun r _ _=>r=.bool true):=by
 have h:=Sg va p8 _ _ w fp fV
 rw [au.Ig,decide_eq_true rfl] at h
 exact h
theorem xL(va p8:Value)(xs:List au.bK)(w:World)(fp:bo Go.aK.hW (cf w) va xs)(fV:bo Go.aK.hW (cf w) p8 xs):cC Tryz.prog 32 [va,p8] w (fun r _ _=>r=.bool true):=by
 have h:=ahw va p8 xs xs w fp fV
 rw [decide_eq_true rfl] at h
 exact h
theorem zZ(w:World){ed:Nat×Nat}{eb:TypeId}(dF:w.heap[1]?=some (.cells (aL.eH.map cI).toArray eb ed)):cC Tryz.prog 20 [] w (fun r _ _=>r=.bool true):=by
 refine c4 Tryz.func20 rfl Tryz.ntmps20 b4 fun a ab U=>?_
 obtain ⟨lT,gY,Cy,Cz,CA,CB,zC,Oh,anl⟩:=au.ade
 have anm:=au.aeA
 have amp:=au.wK
 have amq:=au.Gk
 have amr:=au.wJ
 have amo:=au.lA au.wK
 have zm:=au.lA au.Gk
 have He:=au.lA au.wJ
 have am2:(au.keys [au.bZ,au.cg] 4).length≤140737488355328:=by rw [au.Ig];decide
 refine aD ab U (av rfl<|ah) fun a w ab U=>bc fun cG bJ=>aJ ab U rfl (eT M3 rfl (fun w U=>LO 8 a8 w )) ?_
 rintro _ _ _ a w ⟨_,_,rfl,rfl,⟨rfl,amv,Au,Av,Aw,Ax,rfl,rfl,y6⟩⟩ ab U
 replace U:=jt U
 refine aG ab U (ai rfl<|ae (cQ rfl rfl)<|ae (cQ rfl rfl)<|av rfl<|av rfl<|ah) fun a w ab U=>wpList_nil (bJ _ _ ?_)
 refine ax fun dX cq=>aD ab U (ai rfl<|ae (kT (dS rfl rfl) a8)<|ai rfl<|aO 26 rfl rfl rfl (bE rfl)<|aO 26 rfl rfl rfl (o5 mS rfl rfl)<|ae (hB rfl rfl)<|ah) fun a w ab U=>df ab rfl (fun h=>absurd h (by simp)) (fun _=>?_)
 refine wp_skip<|cq _ _<|bc fun dL b9=>aG ab U (ai rfl<|ah) fun a w ab U=>aJ ab U rfl (dv yZ rfl (List.Perm.refl _) (by exact (z6 _ _ (by assumption) _ _ dF y6))) ?_
 rintro _ _ _ a w ⟨_,_,rfl,rfl,⟨rfl,akV,aoc,YE,aoP,apa,apv,apQ,aqk,aqy,aqM,aq1,rfl,rfl,Cq,Gp⟩⟩ ab U
 replace U:aB _ [] [_,_,_,_,_,_,_,_,_,_] _:=U
 refine aG ab U (ai rfl<|ae (cQ rfl rfl)<|ae (cQ rfl rfl)<|av rfl<|av rfl<|ah) fun a w ab U=>wpList_nil ?_
 rw [au.Qa] at Cq
 rw [au.Qa,au.aiA] at U
 (try dsimp only at U)
 refine b9 _ _<|ax fun eN cK=>aD ab U (ai rfl<|ae (kT (dS rfl rfl) a8)<|ai rfl<|aO 37 rfl rfl rfl (bE rfl)<|aO 37 rfl rfl rfl (o5 iF rfl rfl)<|ae (hB rfl rfl)<|ai rfl<|aO 41 rfl rfl rfl (bE rfl)<|aO 41 rfl rfl rfl (bV y0 rfl (fun w U=>yO _ _ _ _ w (j0 U 0 rfl) (ie (hl:=au.hO) (h1:=au.hy) (U.dp 1 rfl) rfl (by first | omega | (simp;done)) (by assumption))) bP)<|aO 41 rfl rfl rfl (kT (dS rfl rfl) a8)<|ae (hB rfl rfl)<|ah) fun a w ab U=>df ab rfl (fun h=>absurd h (by simp)) (fun _=>?_)
 refine wp_skip<|cK _ _<|ax fun fk cP=>bx ab U (ai rfl<|ae (bV y1 rfl (fun w U=>yH _ _ _ _ _ _ au.wK.srt a8 w (j0 U 0 rfl) (ie (hl:=au.hO) (h1:=au.hy) (U.dp 1 rfl) rfl (by first | omega | (simp;done)) (by assumption))) bP)<|ai rfl<|ae (cQ rfl rfl)<|ae (cQ rfl rfl)<|av rfl<|av rfl<|ah) fun a w ab U=>?_
 rw [au.acT] at ab;(try dsimp only at ab)
 refine cP _ _<|bc fun gB du=>aG ab U (ai rfl<|ae (ow b2 3 az rfl rfl (bp rfl (bp rfl (bp rfl dO))) rfl rfl)<|ah) fun a w ab U=>aJ ab U rfl (dv wF rfl (List.Perm.refl _) (by exact (xg _ _ _ au.kW au.bZ (au.EA.1) a8 _ _ dF (by assumption) Cq Gp (fv:=YE)))) ?_
 rintro _ _ _ a w ⟨_,_,rfl,rfl,⟨rfl,rfl,YF,aoV,apf,apA,apV,aqo,aqC,aqQ,aq5,rfl,GI,Gq⟩⟩ ab U
 replace U:aB _ [] [_,_,_,_,_,_,_,_,_,_] _:=U
 refine aG ab U (av rfl<|ah) fun a w ab U=>wpList_nil ?_
 rw [Cy] at GI;(try dsimp only [au.kW,au.kB,au.kC,au.kX,au.lS] at GI)
 rw [Cy] at Gq;(try dsimp only [au.kW,au.kB,au.kC,au.kX,au.lS] at Gq)
 rw [Cy] at U;(try dsimp only [au.kW,au.kB,au.kC,au.kX,au.lS] at U)
 rw [Cy] at ab;(try dsimp only [au.kW,au.kB,au.kC,au.kX,au.lS] at ab)
 refine du _ _<|bc fun hU ef=>aG ab U (ai rfl<|ae (ow b2 3 az rfl rfl (bp rfl (bp rfl (bp rfl dO))) rfl rfl)<|ah) fun a w ab U=>aJ ab U rfl (dv wF rfl (List.Perm.refl _) (by exact (xg _ _ _ (au.kB lT) au.cg (au.EA.2.1) a8 _ _ dF (by assumption) GI Gq (fv:=YF)))) ?_
 rintro _ _ _ a w ⟨_,_,rfl,rfl,⟨rfl,rfl,YG,aoY,aph,apC,apX,aqp,aqD,aqR,aq6,rfl,GJ,Gr⟩⟩ ab U
 replace U:aB _ [] [_,_,_,_,_,_,_,_,_,_] _:=U
 refine aG ab U (av rfl<|ah) fun a w ab U=>wpList_nil ?_
 rw [Cz] at GJ;(try dsimp only [au.kW,au.kB,au.kC,au.kX,au.lS] at GJ)
 rw [Cz] at Gr;(try dsimp only [au.kW,au.kB,au.kC,au.kX,au.lS] at Gr)
 rw [Cz] at U;(try dsimp only [au.kW,au.kB,au.kC,au.kX,au.lS] at U)
 rw [Cz] at ab;(try dsimp only [au.kW,au.kB,au.kC,au.kX,au.lS] at ab)
 refine ef _ _<|bc fun ho dK=>aG ab U (ai rfl<|ae (ow b2 3 az rfl rfl (bp rfl (bp rfl (bp rfl dO))) rfl rfl)<|ah) fun a w ab U=>aJ ab U rfl (dv wF rfl (List.Perm.refl _) (by exact (xg _ _ _ (au.kC gY) au.c7 (au.EA.2.2.1) a8 _ _ dF (by assumption) GJ Gr (fv:=YG)))) ?_
 rintro _ _ _ a w ⟨_,_,rfl,rfl,⟨rfl,rfl,YI,agi,agn,ags,agx,aiT,aiW,ai0,ai3,rfl,GK,Gs⟩⟩ ab U
 replace U:aB _ [] [_,_,_,_,_,_,_,_,_,_] _:=U
 refine aG ab U (av rfl<|ah) fun a w ab U=>wpList_nil ?_
 rw [CA] at GK;(try dsimp only [au.kW,au.kB,au.kC,au.kX,au.lS] at GK)
 rw [CA] at Gs;(try dsimp only [au.kW,au.kB,au.kC,au.kX,au.lS] at Gs)
 rw [CA] at U;(try dsimp only [au.kW,au.kB,au.kC,au.kX,au.lS] at U)
 rw [CA] at ab;(try dsimp only [au.kW,au.kB,au.kC,au.kX,au.lS] at ab)
 refine dK _ _<|ax fun iZ eY=>bx ab U (ai rfl<|ae (bV y1 rfl (fun w U=>yH _ _ _ _ _ _ au.wJ.srt a8 w (j0 U 0 rfl) (ie (hl:=au.hO) (h1:=au.hy) (U.dp 1 rfl) rfl (by first | omega | (simp;done)) (by assumption))) bP)<|ai rfl<|ae (cQ rfl rfl)<|ae (cQ rfl rfl)<|av rfl<|av rfl<|ah) fun a w ab U=>?_
 rw [au.acU] at ab;(try dsimp only at ab)
 refine eY _ _<|ax fun iR eO=>bx ab U (ai rfl<|ae (bV y1 rfl (fun w U=>yH _ _ _ _ _ _ au.wJ.srt a8 w (j0 U 0 rfl) (ie (hl:=au.hO) (h1:=au.hy) (U.dp 1 rfl) rfl (by first | omega | (simp;done)) (by assumption))) bP)<|ai rfl<|ae (cQ rfl rfl)<|ae (cQ rfl rfl)<|av rfl<|av rfl<|ah) fun a w ab U=>?_
 rw [au.acV] at ab;(try dsimp only at ab)
 refine eO _ _<|ax fun kY gF=>bx ab U (ai rfl<|ae (bV y1 rfl (fun w U=>yH _ _ _ _ _ _ au.wJ.srt a8 w (j0 U 0 rfl) (ie (hl:=au.hO) (h1:=au.hy) (U.dp 1 rfl) rfl (by first | omega | (simp;done)) (by assumption))) bP)<|ai rfl<|ae (cQ rfl rfl)<|ae (cQ rfl rfl)<|av rfl<|av rfl<|ah) fun a w ab U=>?_
 rw [au.acW] at ab;(try dsimp only at ab)
 refine gF _ _<|ax fun j5 fC=>bc fun mw hz=>aG ab U (ai rfl<|ai rfl<|aO 76 rfl rfl rfl (bE rfl)<|aO 76 rfl rfl rfl (kT (dS rfl rfl) a8)<|ae (hB rfl rfl)<|ai rfl<|aO 80 rfl rfl rfl (bE rfl)<|aO 80 rfl rfl rfl (kT (dS rfl rfl) a8)<|ae (hB rfl rfl)<|ai rfl<|aO 84 rfl rfl rfl (bE rfl)<|aO 84 rfl rfl rfl (kT (dS rfl rfl) a8)<|ae (hB rfl rfl)<|ai rfl<|aO 88 rfl rfl rfl (bE rfl)<|ae (hB rfl rfl)<|ai rfl<|aO 91 rfl rfl rfl (bE rfl)<|aO 91 rfl rfl rfl (fZ rfl)<|ae (hB rfl rfl)<|ai rfl<|aO 95 rfl rfl rfl (bE rfl)<|aO 95 rfl rfl rfl (fZ rfl)<|ae (hB rfl rfl)<|ai rfl<|aO 99 rfl rfl rfl (bE rfl)<|aO 99 rfl rfl rfl (kT (rY (q:=[120]) rfl rfl) a8)<|ae (hB rfl rfl)<|ai rfl<|aO 103 rfl rfl rfl (bE rfl)<|aO 103 rfl rfl rfl (kT (rY (q:=[121]) rfl rfl) a8)<|ae (hB rfl rfl)<|ai rfl<|aO 107 rfl rfl rfl (bE rfl)<|ah) fun a w ab U=>ye ab U (hn 107 rfl rfl) rfl (eT MP rfl (fun w U=>O1 _ _ _ _ _ au.wJ.srt a8 w (j0 U 0 rfl) (ie (hl:=au.hO) (h1:=au.hy) (U.dp 1 rfl) rfl (by first | omega | (simp;done)) (by assumption)))) ?_
 rintro arc _ _ a w ⟨_,_,rfl,rfl,⟨rfl,rfl⟩⟩ ab U
 replace U:aB _ [] [_,_,_,_,_,_,_,_,_,_,_] _:=U
 refine ye ab U (hn 107 rfl rfl) rfl (eu cw bB rfl rfl bM a8 rfl rfl) ?_
 rintro v70 _ _ a w ⟨rfl,rfl⟩ ab U
 replace U:=qH U
 refine aG ab U (aO 107 rfl rfl rfl (bV MQ rfl (fun w U=>ahx _ _ w (lM (f:=vs) (xs:=(au.keys [au.bZ,au.cg] 4)) (U.dp 1 rfl) (by rw [au.Ig];decide) rfl (by first | decide | omega)) (lM (f:=vs) (xs:=[[97]]) (U.dp 0 rfl) a8 rfl (by first | decide | omega))) bP)<|aO 107 rfl rfl rfl (fZ rfl)<|ae (hB rfl rfl)<|ai rfl<|aO 114 rfl rfl rfl (bE rfl)<|aO 114 rfl rfl rfl (bV y0 rfl (fun w U=>yO _ _ _ _ w (j0 U 2 rfl) (ie (hl:=au.hO) (h1:=au.hy) (U.dp 3 rfl) rfl (by first | omega | (simp;done)) (by assumption))) bP)<|aO 114 rfl rfl rfl (kT (dS rfl rfl) a8)<|ae (hB rfl rfl)<|ah) fun a w ab U=>wpList_nil (hz _ _ ?_)
 refine df ab rfl (fun h=>absurd h (by simp)) (fun _=>?_)
 refine wp_skip<|fC _ _<|bc fun oF jg=>aG ab U (ai rfl<|ah) fun a w ab U=>?_
 replace U:=(((U.perm q3).perm qe).perm q5).perm q6
 replace U:=qH U
 refine aJ ab U rfl (dv F5 rfl (List.Perm.refl _) (by exact (FJ _ _ _ ag _ _  Gs))) ?_
 rintro _ _ _ a w ⟨_,_,rfl,rfl,⟨rfl,rfl,aoZ,apj,apE,apZ,rfl,Zk⟩⟩ ab U
 replace U:=qH U
 refine wpList_nil (jg _ _ ?_)
 refine bc fun pq jF=>aG ab U (ai rfl<|ae (ow b2 3 az rfl rfl (bp rfl (bp rfl (bp rfl dO))) rfl rfl)<|ah) fun a w ab U=>?_
 replace U:=(((((U.perm EU).perm Bv).perm KJ).perm KM).perm Uz).perm UA
 replace U:=qH U
 refine aJ ab U rfl (dv wF rfl (List.Perm.refl _) (by exact (xg _ _ _ (au.kX gY) au.c9 (au.EA.2.2.2) a8 _ _ dF (by assumption) GK Zk (fv:=YI)))) ?_
 rintro _ _ _ a w ⟨_,_,rfl,rfl,⟨rfl,rfl,alD,ao1,apl,apG,ap1,aqs,aqG,aqT,aq7,rfl,NR,Gu⟩⟩ ab U
 replace U:=qH U
 refine aG ab U (av rfl<|ah) fun a w ab U=>wpList_nil ?_
 rw [CB] at NR;(try dsimp only [au.kW,au.kB,au.kC,au.kX,au.lS] at NR)
 rw [CB] at Gu;(try dsimp only [au.kW,au.kB,au.kC,au.kX,au.lS] at Gu)
 rw [CB] at U;(try dsimp only [au.kW,au.kB,au.kC,au.kX,au.lS] at U)
 rw [CB] at ab;(try dsimp only [au.kW,au.kB,au.kC,au.kX,au.lS] at ab)
 refine jF _ _<|bc fun qa ko=>aG ab U (ai rfl<|ah) fun a w ab U=>aJ ab U rfl (eT yY rfl (fun w U=>yW _ _ _ _ a8 w (j0 U 0 rfl) (ie (hl:=au.hO) (h1:=au.hy) (U.dp 1 rfl) rfl (by first | omega | (simp;done)) (by assumption)))) ?_
 rintro arf _ _ a w ⟨_,_,rfl,rfl,⟨rfl,rfl⟩⟩ ab U
 replace U:aB _ [] [_,_,_,_,_,_,_,_,_,_,_,_,_] _:=U
 refine aG ab U (ae (hA dh 0 rfl rfl)<|av rfl<|ah) fun a w ab U=>wpList_nil (ko _ _ ?_)
 refine bc fun qb kb=>aG ab U (ai rfl<|ah) fun a w ab U=>aJ ab U rfl (eu dm bH rfl rfl bM a8 rfl rfl) ?_
 rintro arh _ _ a w ⟨rfl,rfl⟩ ab U
 replace U:aB _ [] [_,_,_,_,_,_,_,_,_,_,_,_,_,_] _:=U
 obtain ⟨arC,acd,U⟩:=aB.qo (h0:=fun _=>rfl) (f:=aA) (p:=fun x => -9223372036854775808≤x∧x≤9223372036854775807) (xs:=[0]) U (by first | rfl | (simp;done)) (by first | decide | omega | (simp;omega)) a8
 replace U:=(((U.perm yq).perm Bw).perm EX).perm EY
 replace U:aB _ [_] [_,_,_,_,_,_,_,_,_,_,_,_,_] _:=U
 refine aJ ab U rfl (dv F6 rfl (List.Perm.refl _) (by exact (FG _ _ _ _ _ _ _ acd (.inr (by simp)) Gu))) ?_
 rintro _ _ _ a w ⟨_,_,rfl,rfl,⟨rfl,rfl,ao3,apn,apI,apJ,rfl,NI⟩⟩ ab U
 replace U:aB _ [_] [_,_,_,_,_,_,_,_,_,_,_,_,_] _:=U
 refine wpList_nil ?_
 rw [zC] at NI
 refine kb _ _<|bc fun sg lC=>aG ab U (ai rfl<|ah) fun a w ab U=>aJ ab U rfl (dv yZ rfl (List.Perm.refl _) (by exact (z6 _ _ (by assumption) _ _ dF NI))) ?_
 rintro _ _ _ a w ⟨_,_,rfl,rfl,⟨rfl,akT,an9,alx,age,agk,agp,agu,aqg,aqu,aqI,aqX,rfl,rfl,Zr,alS⟩⟩ ab U
 replace U:aB _ [_] [_,_,_,_,_,_,_,_,_,_,_,_,_,_,_,_,_,_,_] _:=U
 refine aG ab U (ai rfl<|ae (cQ rfl rfl)<|ae (cQ rfl rfl)<|av rfl<|av rfl<|ah) fun a w ab U=>wpList_nil ?_
 rw [Oh] at Zr
 rw [Oh,au.aiB] at U
 (try dsimp only at U)
 refine lC _ _<|bc fun sh l1=>aG ab U (ai rfl<|ae (qQ (gq rfl rfl) a8)<|ai rfl<|aO 137 rfl rfl rfl (bE rfl)<|aO 137 rfl rfl rfl (qQ (gq rfl rfl) a8)<|ae (kU rfl rfl)<|ai rfl<|aO 141 rfl rfl rfl (bE rfl)<|aO 141 rfl rfl rfl (qQ (gq rfl rfl) a8)<|ae (kU rfl rfl)<|ai rfl<|aO 145 rfl rfl rfl (bE rfl)<|aO 145 rfl rfl rfl (QV iF rfl rfl)<|ae (kU rfl rfl)<|ai rfl<|aO 149 rfl rfl rfl (bE rfl)<|ah) fun a w ab U=>ye ab U (hn 149 rfl rfl) rfl (eT yY rfl (fun w U=>yW _ _ _ _ a8 w (j0 U 0 rfl) (ie (hl:=au.hO) (h1:=au.hy) (U.dp 1 rfl) rfl (by first | omega | (simp;done)) (by assumption)))) ?_
 rintro arb _ _ a w ⟨_,_,rfl,rfl,⟨rfl,rfl⟩⟩ ab U
 replace U:=pZ U
 refine aG ab U (aO 149 rfl rfl rfl (ow b2 3 az rfl rfl (bp rfl (bp rfl (bp rfl dO))) rfl rfl)<|aO 149 rfl rfl rfl (ow b2 3 az rfl rfl (bp rfl (bp rfl (bp rfl dO))) rfl rfl)<|ah) fun a w ab U=>ye ab U (hn 149 rfl rfl) rfl (L8 dh b2 [[_,_,_],[_,_,_]] rfl rfl (by simp) (Dt (bp rfl (bp rfl (bp rfl dO))) (Dt (bp rfl (bp rfl (bp rfl dO))) Iy)) a8 rfl rfl) ?_
 rintro v124 _ _ a w ⟨rfl,rfl⟩ ab U
 replace U:=qI U
 refine aG ab U (aO 149 rfl rfl rfl (bV wE rfl (fun w U=>xL _ _ _ w (ie (hl:=au.hO) (h1:=au.hy) (xs:=[au.bZ,au.cg]) (U.dp 1 rfl) rfl (by first | omega | (simp;done) | decide) He) (ie (hl:=au.hO) (h1:=au.hy) (xs:=[au.bZ,au.cg]) (U.dp 0 rfl) rfl (by first | omega | (simp;done) | decide) He)) bP)<|ae (kU rfl rfl)<|av rfl<|ah) fun a w ab U=>wpList_nil (l1 _ _ ?_)
 refine wp_ret<|b0 (rs:=[.tmp 0]) rfl ab U (vs:=[_]) ⟨rfl,trivial⟩ ay ay (rfl)
end
section
theorem mC:b1 Tryz.prog 11:=b6 Tryz.func11
theorem F3:b1 Tryz.prog 22:=b6 Tryz.func22
theorem MT:b1 Tryz.prog 48:=b6 Tryz.func48
theorem mz(n m:Int)(hm:1≤m)(bD : -9223372036854775808≤n∧n≤9223372036854775807)(w:World):cC Tryz.prog 11 [aA n,aA m] w (fun r _ _=>r=aA (cN.fl n m)):=by
 refine c4 Tryz.func11 rfl Tryz.ntmps11 b4 fun a ab U=>aD ab U (av rfl<|ah) fun a w ab U=>?_
 obtain ⟨bG,a6,U⟩:=U.c1
 refine mn (γ:=Int) (fun (c:Int)=>[(0,aA c)]) [(1,_)] (fun (c:Int)=>bG) (fun (c:Int)=>c=(if n<0 then -(n+1) else n)∧0≤c) (ab.sub ⟨rfl,trivial⟩) U ?_ ?_
 ·subst a6
  refine aD ab U (ai rfl<|ae (cU rfl rfl)<|ah) fun a w ab U=>cn ab rfl (fun aU=>?_) (fun aU=>?_)
  ·refine bx ab U (ai rfl<|b5 rfl rfl<|ae (DL rfl ag)<|av rfl<|ah) fun a w ab U=>⟨(-(n+1)),?_,ab.sub ⟨rfl,rfl,trivial⟩,?_⟩
   ·exact ⟨by rw [if_pos aU],by omega⟩
   ·exact U
  ·refine wp_skip<|⟨(n),?_,ab.sub ⟨rfl,rfl,trivial⟩,?_⟩
   ·exact ⟨by rw [if_neg aU],by omega⟩
   ·exact U
 rintro c a w bh ab U
 subst a6;(try dsimp only at bh ab U)
 obtain ⟨bq,h9⟩:=bh
 replace U:=ic U
 refine aD ab U (ai rfl<|ai rfl<|ae (ni rfl rfl ag)<|av rfl<|ah) fun a w ab U=>wp_ret ?_
 exact b0 (rs:=[.tmp 4]) rfl ab U (vs:=[_]) ⟨rfl,trivial⟩ ay ay (by subst bq;rfl)
theorem RO(v:Value)(l:List au.bK)(tick:Int)(key:List UInt8)(w:World)(aw:bo Go.aK.hW (cf w) v l):cC Tryz.prog 24 [v,aA tick,vs key] w (fun r _ _=>r=.tuple [vs (au.ek l tick key).1,.bool (au.ek l tick key).2].toArray):=by
 refine c4 Tryz.func24 rfl Tryz.ntmps24 b4 fun a ab U=>?_
 have c6:=aw.1
 refine aD ab U (av rfl<|av rfl<|ah) fun a w ab U=>aD ab U (av rfl<|ah) fun a w ab U=>aD ab U (av rfl<|ah) fun a w ab U=>ax fun et cB=>aD ab U (av rfl<|ah) fun a w ab U=>?_
 refine wp_block ?_
 obtain ⟨bG,a6,U⟩:=U.c1
 refine dy (γ:=Nat) (0) (fun (i:Nat)=>[(8,vs (au.ek (l.take i) tick key).1),(9,.bool (au.ek (l.take i) tick key).2),(10,aA (i:Int))]) [(0,_),(1,_),(2,_)] (fun (i:Nat)=>bG) (fun (i:Nat)=>i≤l.length) (fun (i:Nat)=>l.length-i) (ab.sub ⟨rfl,rfl,rfl,rfl,rfl,rfl,trivial⟩) (by subst a6;exact U) (by exact Nat.zero_le _) ?_
 rintro i a w bh ab U
 subst a6;(try dsimp only at bh ab U)
 have eL:=bh
 replace U:=ic U
 refine ax fun eN cK=>aD ab U (ai rfl<|ai rfl<|ae (ee dh aw rfl)<|ae (cU rfl rfl)<|ah) fun a w ab U=>cn ab rfl (fun aU=>?_) (fun aU=>?_)
 ·refine wp_skip<|cK _ _<|ax fun fk cP=>wp_block ?_
  refine bc fun gB du=>aG ab U (ai rfl<|ai rfl<|ae (dV dh b2 aw rfl rfl ag)<|ae (qR b2 aw rfl ag rfl (s':=0) az)<|ae (DJ bB aw cM rfl rfl ag)<|ai rfl<|ae (xu rfl rfl)<|ai rfl<|ah) fun a w ab U=>j3 7 24 7 ab U rfl rfl rfl rfl rfl (fun aP=>have aP:=(by first | exact of_decide_eq_true aP | exact aP);aO 24 rfl rfl rfl (bE rfl)<|aO 24 rfl rfl rfl (bE rfl)<|aO 24 rfl rfl rfl (dV dh b2 aw rfl rfl ag)<|aO 24 rfl rfl rfl (qR b2 aw rfl ag rfl (s':=0) az)<|aO 24 rfl rfl rfl (Ao bH aw cM rfl rfl ag)<|aO 24 rfl rfl rfl (bE rfl)<|aO 24 rfl rfl rfl (xw rfl rfl)<|ah) rfl rfl fun a w ab U=>?_
  refine wpList_nil (du _ _ ?_)
  refine df ab rfl (fun bz=>?_) (fun bz=>?_)
  ·(try simp only [dj] at bz)
   have wW:au.jY (l.getD i au.f0) tick key=true:=au.Hn bz.1 bz.2
   refine aD ab U (ai rfl<|ai rfl<|ae (dV dh b2 aw rfl rfl ag)<|ae (qR b2 aw rfl ag rfl (s':=0) az)<|ae (afE bB aw cM rfl rfl ag)<|av rfl<|ah) fun a w ab U=>bx ab U (av rfl<|ah) fun a w ab U=>cP _ _ ?_
   refine bx ab U (ai rfl<|b5 rfl rfl<|av rfl<|ah) fun a w ab U=>⟨(i+1),?_,?_,ab.sub ⟨(by show some (vs _)=some (vs _);rw [au.xf ag];first | (rw [if_pos wW,Int.toNat_natCast];done) | (rw [if_pos wW];done) | (rw [if_neg CN];done)),(by show some (Value.bool _)=some (Value.bool _);rw [au.xf ag];first | (rw [if_pos wW];done) | (rw [if_neg CN];done)),rfl,rfl,rfl,rfl,trivial⟩,?_⟩
   ·(try dsimp only);omega
   ·omega
   ·exact U
  ·(try simp only [dj] at bz)
   have CN:¬ au.jY (l.getD i au.f0) tick key=true:=au.N7 bz
   refine wp_skip<|cP _ _<|bx ab U (ai rfl<|b5 rfl rfl<|av rfl<|ah) fun a w ab U=>⟨(i+1),?_,?_,ab.sub ⟨(by show some (vs _)=some (vs _);rw [au.xf ag];first | (rw [if_pos wW,Int.toNat_natCast];done) | (rw [if_pos wW];done) | (rw [if_neg CN];done)),(by show some (Value.bool _)=some (Value.bool _);rw [au.xf ag];first | (rw [if_pos wW];done) | (rw [if_neg CN];done)),rfl,rfl,rfl,rfl,trivial⟩,?_⟩
   ·(try dsimp only);omega
   ·omega
   ·exact U
 ·obtain rfl:i=l.length:=by omega
  refine wp_exit<|cB _ _<|aD ab U (ai rfl<|ai rfl<|av rfl<|av rfl<|ah) fun a w ab U=>wp_ret ?_
  exact b0 (rs:=[.tmp 6,.tmp 7]) rfl ab U (vs:=[_,_]) ⟨rfl,rfl,trivial⟩ ay ay (by rw [List.take_length])
theorem Ia(n:Int)(bD : -9223372036854775808≤n∧n≤9223372036854775807)(w:World):cC Tryz.prog 22 [aA n] w (fun r _ _=>r=vs (au.keyOf n)):=by
 refine c4 Tryz.func22 rfl Tryz.ntmps22 b4 fun a ab U=>?_
 have rC:=cN.qj (n:=n) (m:=6) a8
 refine aD ab U (av rfl<|ah) fun a w ab U=>bc fun cG bJ=>aJ ab U rfl (eu cw bB rfl rfl bM a8 rfl rfl) ?_
 rintro v1 _ _ a w ⟨rfl,rfl⟩ ab U
 replace U:=ft U
 refine aG ab U (ai rfl<|ae (bV mC rfl (fun w U=>mz _ _ ag ag w ) bP)<|ae (fY cw bB 0 rfl rfl rfl ag)<|ae (ma (f:=vs) (xs:=au.td) bB 0 [] rfl rfl (by show _<6;omega) rfl)<|av rfl<|ah) fun a w ab U=>wpList_nil (bJ _ _ ?_)
 refine wp_ret<|b0 (rs:=[.tmp 2]) rfl ab U (vs:=[_]) ⟨rfl,trivial⟩ ay ay (rfl)
theorem TE(n:Int)(bD:0≤n∧n≤4096)(w:World):cC Tryz.prog 48 [aA n] w (fun r zs hs=>zs=[]∧hs=[]∧∃ s:List UInt8,r=vs s∧(s.length≤6400∧(n<60→s.length≤60))):=by
 refine c4 Tryz.func48 rfl Tryz.ntmps48 b4 fun a ab U=>?_
 have rC:=cN.qj (n:=n) (m:=64) a8
 have wP:n<60→cN.fl n 64=n:=fun h=>cN.UT bD.1 ag
 refine aD ab U (av rfl<|ah) fun a w ab U=>aD ab U (ai rfl<|ae (bV mC rfl (fun w U=>mz _ _ ag ag w ) bP)<|av rfl<|ah) fun a w ab U=>?_
 obtain ⟨bG,a6,U⟩:=U.c1
 refine mn (γ:=Int) (fun (mE:Int)=>[(3,aA mE)]) [(0,_)] (fun (mE:Int)=>bG) (fun (mE:Int)=>0≤mE∧mE≤6400∧(n<60→mE≤60)) (ab.sub ⟨rfl,trivial⟩) U ?_ ?_
 ·subst a6
  refine aD ab U (ai rfl<|ae (fc rfl rfl)<|ah) fun a w ab U=>cn ab rfl (fun aU=>?_) (fun aU=>?_)
  ·refine bx ab U (ai rfl<|ae (hK rfl rfl ag)<|av rfl<|ah) fun a w ab U=>⟨((100*cN.fl n 64)),?_,ab.sub ⟨rfl,rfl,trivial⟩,?_⟩
   ·exact ⟨by omega,by omega,fun h=>by have:=wP h;omega⟩
   ·exact U
  ·refine wp_skip<|⟨((cN.fl n 64)),?_,ab.sub ⟨rfl,rfl,trivial⟩,?_⟩
   ·exact ⟨by omega,by omega,fun h=>by have:=wP h;omega⟩
   ·exact U
 rintro mE a w bh ab U
 subst a6;(try dsimp only at bh ab U)
 obtain ⟨u6,Ob,zA⟩:=bh
 replace U:=ic U
 obtain ⟨m,rfl⟩:∃ q:Nat,mE=(q:Int):=⟨mE.toNat,by omega⟩
 refine bc fun et cB=>aG ab U (ai rfl<|ah) fun a w ab U=>aJ ab U rfl (FN bX bI rfl rfl aI aI rfl) ?_
 rintro v1 _ _ a w ⟨rfl,rfl⟩ ab U
 replace U:=ft U
 refine aG ab U (av rfl<|ah) fun a w ab U=>wpList_nil ?_
 rw [show List.replicate m (Value.int .u8 0)=(List.replicate m (0:UInt8)).map bn by rw [List.map_replicate];rfl] at U
 refine cB _ _<|ax fun dL b9=>aD ab U (av rfl<|ah) fun a w ab U=>wp_block ?_
 obtain ⟨bG,a6,U⟩:=U.c1
 refine dy (γ:=List UInt8×Nat) ((List.replicate m 0),0) (fun (cW,i)=>[(5,aA (i:Int))]) [(0,_),(3,_),(4,_)] (fun (cW,i)=>(bG.set 0 (.row v1 5 1 m (cW.map bn)))) (fun (cW,i)=>i≤m∧cW.length=m) (fun (cW,i)=>m-i) (ab.sub ⟨rfl,rfl,rfl,rfl,trivial⟩) (by subst a6;exact U) (by exact ⟨Nat.zero_le _,by simp⟩) ?_
 rintro ⟨cW,i⟩ a w bh ab U
 subst a6;(try dsimp only at bh ab U)
 obtain ⟨eL,m1⟩:=bh
 replace U:=ft U
 refine ax fun fa cT=>aD ab U (ai rfl<|ai rfl<|ae (cU rfl rfl)<|ah) fun a w ab U=>cn ab rfl (fun bz=>?_) (fun bz=>?_)
 ·refine wp_skip<|cT _ _<|ax fun gB du=>wp_block ?_
  refine dM<|aG ab U (ai rfl<|ai rfl<|ai rfl<|ai rfl<|b5 rfl rfl<|ae (rX bH bI rfl)<|ae (fY bX bI 0 rfl rfl rfl ag)<|ah) fun a w ab U=>aJ ab U rfl (WQ bI 0 rfl rfl rfl ag rfl) ?_
  rintro _ _ _ a w ⟨rfl,rfl,rfl⟩ ab U
  replace U:=ft U
  refine wpList_nil (du _ _ ?_)
  refine bx ab U (ai rfl<|b5 rfl rfl<|av rfl<|ah) fun a w ab U=>⟨((cW.set i (hI (n+(i:Int)))),i+1),?_,?_,ab.sub ⟨rfl,rfl,rfl,rfl,trivial⟩,?_⟩
  ·(try dsimp only);omega
  ·exact ⟨by omega,by rw [List.length_set];exact m1⟩
  ·rw [← List.map_set] at U
   exact U
 ·refine wp_exit<|b9 _ _<|aD ab U (ai rfl<|ae (nf bX bB bI 0 rfl rfl)<|av rfl<|ah) fun a w ab U=>wp_ret ?_
  exact b0 (rs:=[.tmp 2]) rfl ab U (vs:=[_]) ⟨rfl,trivial⟩ ay ay (⟨rfl,rfl,_,rfl,by rw [m1];exact ⟨by omega,fun h=>by have:=zA h;omega⟩⟩)
end
section
attribute [local simp] au.hO
end
section
theorem yX:b1 Tryz.prog 20:=b6 Tryz.func20
theorem MN:b1 Tryz.prog 24:=b6 Tryz.func24
attribute [local irreducible] aL.sum aj.fb aj.aT aj.c0 aj.a7 aj.c3 aj.gi aj.app aj.bW au.dec au.enc au.ek au.keyOf cN.fl
end
section
theorem Xl:b1 Tryz.prog 12:=b6 Tryz.func12
theorem XS:b1 Tryz.prog 19:=b6 Tryz.func19
attribute [local irreducible] aF.int aF.bytes aF.getInt aF.dZ aL.sum aj.fb aj.aT aj.c0 aj.a7 aj.c3 aj.gi aj.app aj.bW au.dec au.enc cN.fl au.valid
end
section
attribute [local irreducible] aF.int aF.bytes aF.getInt aF.dZ aL.sum aj.fb aj.aT aj.c0 aj.a7 aj.c3 aj.gi aj.app aj.bW au.dec au.enc ak.new au.add au.taken
end
section
theorem XU:b1 Tryz.prog 28:=b6 Tryz.func28
attribute [local irreducible] aF.int aF.bytes aF.getInt aF.dZ aL.sum aj.fb aj.aT aj.c0 aj.a7 aj.c3 aj.gi aj.app aj.bW au.dec au.enc ak.new au.add au.taken cN.fl ak.hi ak.read
end
section
attribute [local irreducible] aF.int aF.bytes aF.ints aF.strs aF.wu ja.sz aF.getInt aF.ga aF.iY aF.a7 aF.ir aF.dZ aF.run aF.Ck
end
section
attribute [local irreducible] aF.int aF.bytes aF.ints aF.strs aF.wu ja.sz aF.getInt aF.ga aF.iY aF.a7 aF.ir aF.dZ aF.run aF.Ck aF.YW aF.Wf
def WZ(ps:List (List UInt8))(i:Nat):Nat:=ps.length+(ps.take i).flatten.length
def alu(ps:List (List UInt8)):Bool:=decide (WZ ps ps.length≤2000)
end
section
theorem nR:ba Tryz.prog 68 (.slice 147) 1 24 (Value.slice none 0 0):=⟨Tryz.underlying68,by kernel_rfl⟩
theorem nq:ba Tryz.prog 72 (.slice 142) 1 24 (Value.slice none 0 0):=⟨Tryz.underlying72,by kernel_rfl⟩
theorem nk : ba Tryz.prog 142 (.struct #[⟨ "Key", 9, 0, false, "", "", 0⟩, ⟨ "Value", 9, 1, false, "", "", 16⟩]) 2 32 (.agg ([Value.string ⟨(List.nil : List UInt8).toArray⟩, Value.string ⟨(List.nil : List UInt8).toArray⟩]).toArray) := ⟨Tryz.underlying142, by kernel_rfl⟩
theorem nm : ba Tryz.prog 147 (.struct #[⟨ "Key", 9, 0, false, "", "", 0⟩, ⟨ "Value", 9, 1, false, "", "", 16⟩]) 2 32 (.agg ([Value.string ⟨(List.nil : List UInt8).toArray⟩, Value.string ⟨(List.nil : List UInt8).toArray⟩]).toArray) := ⟨Tryz.underlying147, by kernel_rfl⟩
theorem Xg:b1 Tryz.prog 113:=b6 Tryz.func113
theorem Xh:b1 Tryz.prog 114:=b6 Tryz.func114
theorem XD:b1 Tryz.prog 152:=b6 Tryz.func152
attribute [local irreducible] aL.sum aL.qG aL.ju aF.int aF.ints aF.bytes aL.hY bs.half Lib.compareBytes
theorem ajh(x:bs.cS)(w:World):cC Tryz.prog 114 [.agg [vs x.1,vs x.2].toArray] w (fun r _ _=>r=.bool (bs.lx x)):=by
 refine c4 Tryz.func114 rfl Tryz.ntmps114 b4 fun a ab U=>bc fun eJ c8=>aJ ab U rfl (jV rfl) ?_
 rintro _ _ _ a w ⟨ck,rfl,rfl,rfl⟩ ab U
 refine aG ab U (av rfl<|ah) fun a w ab U=>wpList_nil (c8 _ _ ?_)
 refine bc fun cG bJ=>aG ab U (ae (aZ nk rfl rfl (s':=0) az)<|ae (bf bB 0 rfl rfl rfl rfl)<|ae (hZ bB rfl)<|ae (fc rfl rfl)<|ai rfl<|ah) fun a w ab U=>gA 4 7 4 ab U rfl rfl rfl rfl rfl (fun aP=>have aP:=(by first | exact of_decide_eq_false aP | exact aP);aO 7 rfl rfl rfl (aZ nk rfl rfl (s':=0) az)<|aO 7 rfl rfl rfl (bf bB 0 rfl rfl rfl rfl)<|aO 7 rfl rfl rfl (hZ bB rfl)<|aO 7 rfl rfl rfl (fc rfl rfl)<|ah) rfl rfl fun a w ab U=>?_
 refine aG ab U (av rfl<|ah) fun a w ab U=>wpList_nil (bJ _ _ ?_)
 refine wp_ret<|b0 (rs:=[.tmp 2]) rfl ab U (vs:=[_]) ⟨rfl,trivial⟩ ay ay (by rw [← bs.Fh])
theorem acp(v:Value)(ls:List bs.cS)(w:World)(aw:bo jD (cf w) v ls):cC Tryz.prog 152 [v,.func (.func 114) (List.nil:List Value).toArray (List.nil:List Value).toArray] w (fun r _ _=>r=aA (bs.kN bs.lx ls)):=by
 refine c4 Tryz.func152 rfl Tryz.ntmps152 b4 fun a ab U=>?_
 have c6:=aw.1
 refine aD ab U (av rfl<|ah) fun a w ab U=>ax fun cG bJ=>aD ab U (ai rfl<|ae (ee nq aw rfl)<|ai rfl<|ah) fun a w ab U=>wp_block ?_
 obtain ⟨bG,a6,U⟩:=U.c1
 refine dy (γ:=Int) (0) (fun (i:Int)=>[(8,aA i)]) [(0,_),(1,_),(7,_)] (fun (i:Int)=>bG) (fun (i:Int)=>0≤i∧i≤ls.length∧∀ j,j<i.toNat→bs.lx (ls.getD j dk)=false) (fun (i:Int)=>(ls.length-i).toNat) (ab.sub ⟨rfl,rfl,rfl,rfl,trivial⟩) (by subst a6;exact U) (by exact ⟨Int.le_refl _,by omega,fun j aV=>absurd aV (by simp)⟩) ?_
 rintro i a w bh ab U
 subst a6;(try dsimp only at bh ab U)
 obtain ⟨eL,kI,iz⟩:=bh
 replace U:=ic U
 refine aD ab U (ae (cU rfl rfl)<|ah) fun a w ab U=>ax fun dL b9=>cn ab rfl (fun aU=>?_) (fun aU=>?_)
 ·refine wp_skip<|b9 _ _<|ax fun eN cK=>wp_block ?_
  refine aD ab U (ai rfl<|av rfl<|ah) fun a w ab U=>aD ab U (ai rfl<|ai rfl<|ai rfl<|ae (dV nq nk aw rfl rfl ag)<|ae (QN nk aw cM rfl rfl ag)<|ae (Ak Xh rfl rfl (by exact fun w U=>ajh (ls.getD i.toNat dk) w ) bP)<|ah) fun a w ab U=>df ab rfl (fun bz=>?_) (fun bz=>?_)
  ·refine ax fun gB du=>bx ab U (ai rfl<|av rfl<|ah) fun a w ab U=>du _ _ ?_
   refine wp_ret<|b0 (rs:=[.tmp 4]) rfl ab U (vs:=[_]) ⟨rfl,trivial⟩ ay ay (by rw [bs.H5 (i:=i.toNat) ag bz iz,Int.toNat_of_nonneg eL])
  ·refine wp_skip<|cK _ _<|bx ab U (b5 rfl rfl<|ai rfl<|ah) fun a w ab U=>⟨(i+1),?_,?_,ab.sub ⟨rfl,rfl,rfl,rfl,trivial⟩,?_⟩
   ·(try dsimp only);omega
   ·exact ⟨by omega,by omega,bs.Dq eL bz iz⟩
   ·exact U
 ·refine wp_exit<|bJ _ _<|aD ab U (av rfl<|ah) fun a w ab U=>wp_ret ?_
  exact b0 (rs:=[.tmp 4]) rfl ab U (vs:=[_]) ⟨rfl,trivial⟩ ay ay (by rw [bs.C6 (fun j aV=>iz j ag)])
theorem V5(v:Value)(ls:List bs.cS)(w:World)(aw:bo jD (cf w) v ls):cC Tryz.prog 113 [v,.func (.func 114) (List.nil:List Value).toArray (List.nil:List Value).toArray] w (fun r _ _=>r=.bool (ls.any bs.lx)):=by
 refine c4 Tryz.func113 rfl Tryz.ntmps113 b4 fun a ab U=>?_
 have c6:=aw.1
 refine aD ab U (av rfl<|ah) fun a w ab U=>aD ab U (ai rfl<|ai rfl<|ae (bV XD rfl (fun w U=>acp _ _ w (bo.mono (U.le cM) aw)) bP)<|ae (ke rfl rfl)<|av rfl<|ah) fun a w ab U=>wp_ret ?_
 exact b0 (rs:=[.tmp 4]) rfl ab U (vs:=[_]) ⟨rfl,trivial⟩ ay ay (by rw [bs.C5])
theorem aji(v:Value)(ls:List bs.cS)(w:World)(aw:bo jD (cf w) v ls):cC Tryz.prog 75 [v] w (fun r _ _=>r=aA (bs.jK ls)):=by
 refine c4 Tryz.func75 rfl Tryz.ntmps75 b4 fun a ab U=>?_
 have c6:=aw.1
 refine aD ab U (av rfl<|ah) fun a w ab U=>ax fun cG bJ=>bc fun dX cq=>aG ab U (ai rfl<|ae (ee nq aw rfl)<|ae (fc rfl rfl)<|ai rfl<|ah) fun a w ab U=>gA 3 7 2 ab U rfl rfl rfl rfl rfl (fun aP=>have aP:=(by first | exact of_decide_eq_false aP | exact aP);aO 7 rfl rfl rfl (bE rfl)<|aO 7 rfl rfl rfl (bV Xg rfl (fun w U=>V5 _ _ w (bo.mono (U.le cM) aw)) bP)<|ah) rfl rfl fun a w ab U=>?_
 refine wpList_nil (cq _ _ ?_)
 refine df ab rfl (fun aU=>?_) (fun aU=>?_)
 ·(try simp only [dj] at aU)
  refine aD ab U (av rfl<|ah) fun a w ab U=>wp_ret ?_
  exact b0 (rs:=[.tmp 2]) rfl ab U (vs:=[_]) ⟨rfl,trivial⟩ ay ay (by rw [bs.JX (by rcases aU with h | h;exact .inl ag;exact .inr h)])
 ·(try simp only [dj] at aU)
  have og:¬ (4096<ls.length∨ls.any bs.lx=true):=fun h=>by rcases h with h | h;exact aU.1 ag;rw [aU.2] at h;cases h
  refine wp_skip<|bJ _ _<|ax fun dL b9=>aD ab U (ai rfl<|ae (ee nq aw rfl)<|ai rfl<|ah) fun a w ab U=>wp_block ?_
  obtain ⟨bG,a6,U⟩:=U.c1
  refine dy (γ:=Int) (0) (fun (i:Int)=>[(13,aA i)]) [(0,_),(12,_)] (fun (i:Int)=>bG) (fun (i:Int)=>0≤i∧i≤ls.length∧bs.nW ls i.toNat=true) (fun (i:Int)=>(ls.length-i).toNat) (ab.sub ⟨rfl,rfl,rfl,trivial⟩) (by subst a6;exact U) (by exact ⟨Int.le_refl _,by omega,rfl⟩) ?_
  rintro i a w bh ab U
  subst a6;(try dsimp only at bh ab U)
  obtain ⟨eL,kI,has⟩:=bh
  replace U:=ic U
  refine aD ab U (ae (cU rfl rfl)<|ah) fun a w ab U=>ax fun fk cP=>cn ab rfl (fun bz=>?_) (fun bz=>?_)
  ·refine wp_skip<|cP _ _<|ax fun gB du=>wp_block ?_
   refine aD ab U (ai rfl<|av rfl<|ah) fun a w ab U=>ax fun ho dK=>AI mixed az U ?_
   refine jL ab (ai rfl<|ae (fc rfl rfl)<|ai rfl<|ah) fun a ab=>Kb 2 18 12 ab rfl rfl rfl rfl rfl (fun aP=>have aP:=(by first | exact of_decide_eq_true aP | exact aP);aO 18 rfl rfl rfl (bE rfl)<|aO 18 rfl rfl rfl (bE rfl)<|aO 18 rfl rfl rfl (nN rfl rfl ag)<|aO 18 rfl rfl rfl (dV nq nk aw rfl rfl ag)<|aO 18 rfl rfl rfl (tw nk aw rfl ag rfl (s':=0) az)<|aO 18 rfl rfl rfl (xv bB aw cM rfl rfl ag)<|aO 18 rfl rfl rfl (bE rfl)<|aO 18 rfl rfl rfl (bE rfl)<|aO 18 rfl rfl rfl (dV nq nk aw rfl rfl ag)<|aO 18 rfl rfl rfl (tw nk aw rfl ag rfl (s':=0) az)<|aO 18 rfl rfl rfl (xv bB aw cM rfl rfl ag)<|aO 18 rfl rfl rfl (afy rfl rfl)<|ah) rfl rfl fun a ab=>?_
   refine Bh ?_
   clear U;intro w U
   refine dK _ _<|df ab rfl (fun cl=>?_) (fun cl=>?_)
   ·(try simp only [dj] at cl)
    refine aD ab U (av rfl<|ah) fun a w ab U=>wp_ret ?_
    exact b0 (rs:=[.tmp 2]) rfl ab U (vs:=[_]) ⟨rfl,trivial⟩ ay ay (by rw [bs.Tc og (bs.Lg cl.1 ag cl.2)])
   ·(try simp only [dj] at cl)
    refine wp_skip<|du _ _<|bx ab U (b5 rfl rfl<|ai rfl<|ah) fun a w ab U=>⟨(i+1),?_,?_,ab.sub ⟨rfl,rfl,rfl,trivial⟩,?_⟩
    ·(try dsimp only);omega
    ·exact ⟨by omega,by omega,bs.Lf eL has (fun h=>cl.elim (fun ar=>ar h.1) (fun ar=>by have aQ:=h.2;rw [show bs.lt (ls.getD (i-1).toNat dk).1 (ls.getD i.toNat dk).1=true from ar] at aQ;cases aQ))⟩
    ·exact U
  ·refine wp_exit<|b9 _ _<|aD ab U (av rfl<|ah) fun a w ab U=>wp_ret ?_
   exact b0 (rs:=[.tmp 2]) rfl ab U (vs:=[_]) ⟨rfl,trivial⟩ ay ay (by rw [bs.Tb og (by rw [show ls.length=i.toNat by omega];exact has)])
theorem ahn(v:Value)(ls:List bs.cS)(w:World)(aw:bo jD (cf w) v ls):cC Tryz.prog 183 [v] w (fun r _ _=>r=aA (bs.jK ls)):=by
 refine c4 Tryz.func183 rfl Tryz.ntmps183 b4 fun a ab U=>?_
 have c6:=aw.1
 refine aD ab U (av rfl<|ah) fun a w ab U=>ax fun cG bJ=>aD ab U (ai rfl<|ae (ee nR aw rfl)<|ae (fc rfl rfl)<|ah) fun a w ab U=>cn ab rfl (fun aU=>?_) (fun aU=>?_)
 ·refine ax fun et cB=>bx ab U (av rfl<|ah) fun a w ab U=>cB _ _ ?_
  refine wp_ret<|b0 (rs:=[.tmp 2]) rfl ab U (vs:=[_]) ⟨rfl,trivial⟩ ay ay (by rw [bs.JX (.inl ag)])
 ·refine wp_skip<|bJ _ _<|ax fun dL b9=>aD ab U (av rfl<|ah) fun a w ab U=>wp_block ?_
  obtain ⟨bG,a6,U⟩:=U.c1
  refine dy (γ:=Int) (0) (fun (i:Int)=>[(3,aA i)]) [(0,_)] (fun (i:Int)=>bG) (fun (i:Int)=>0≤i∧i≤ls.length∧∀ j,j<i.toNat→bs.lx (ls.getD j dk)=false) (fun (i:Int)=>(ls.length-i).toNat) (ab.sub ⟨rfl,rfl,trivial⟩) (by subst a6;exact U) (by exact ⟨Int.le_refl _,by omega,fun j aV=>absurd aV (by simp)⟩) ?_
  rintro i a w bh ab U
  subst a6;(try dsimp only at bh ab U)
  obtain ⟨eL,kI,iz⟩:=bh
  replace U:=ic U
  refine ax fun fa cT=>aD ab U (ai rfl<|ai rfl<|ae (ee nR aw rfl)<|ae (cU rfl rfl)<|ah) fun a w ab U=>cn ab rfl (fun bz=>?_) (fun bz=>?_)
  ·refine wp_skip<|cT _ _<|ax fun gB du=>wp_block ?_
   refine bc fun hU ef=>aG ab U (ai rfl<|ai rfl<|ae (dV nR nm aw rfl rfl ag)<|ae (tw nm aw rfl ag rfl (s':=0) az)<|ae (xv bB aw cM rfl rfl ag)<|ae (hZ bB rfl)<|ae (fc rfl rfl)<|ai rfl<|ah) fun a w ab U=>gA 7 21 7 ab U rfl rfl rfl rfl rfl (fun aP=>have aP:=(by first | exact of_decide_eq_false aP | exact aP);aO 21 rfl rfl rfl (bE rfl)<|aO 21 rfl rfl rfl (bE rfl)<|aO 21 rfl rfl rfl (dV nR nm aw rfl rfl ag)<|aO 21 rfl rfl rfl (tw nm aw rfl ag rfl (s':=0) az)<|aO 21 rfl rfl rfl (QO bB aw cM rfl rfl ag)<|aO 21 rfl rfl rfl (hZ bB rfl)<|aO 21 rfl rfl rfl (fc rfl rfl)<|ah) rfl rfl fun a w ab U=>?_
   refine wpList_nil (ef _ _ ?_)
   refine df ab rfl (fun cl=>?_) (fun cl=>?_)
   ·(try simp only [dj] at cl)
    have wS:bs.lx (ls.getD i.toNat dk)=true:=by rw [← bs.Fh];simpa using cl
    refine aD ab U (av rfl<|ah) fun a w ab U=>wp_ret ?_
    exact b0 (rs:=[.tmp 2]) rfl ab U (vs:=[_]) ⟨rfl,trivial⟩ ay ay (by rw [bs.JX (.inr (bs.UP ag wS))])
   ·(try simp only [dj] at cl)
    have wS:bs.lx (ls.getD i.toNat dk)=false:=by rw [← bs.Fh];simpa using cl
    refine wp_skip<|du _ _<|bx ab U (ai rfl<|b5 rfl rfl<|av rfl<|ah) fun a w ab U=>⟨(i+1),?_,?_,ab.sub ⟨rfl,rfl,trivial⟩,?_⟩
    ·(try dsimp only);omega
    ·exact ⟨by omega,by omega,bs.Dq eL wS iz⟩
    ·exact U
  ·have og:¬ (4096<ls.length∨ls.any bs.lx=true):=fun h=>by rcases h with h | h;exact aU ag;rw [bs.UR (fun j aV=>iz j ag)] at h;cases h
   refine wp_exit<|b9 _ _<|ax fun iZ eY=>aD ab U (av rfl<|ah) fun a w ab U=>wp_block ?_
   obtain ⟨bG,a6,U⟩:=U.c1
   refine dy (γ:=Int) (1) (fun (i:Int)=>[(4,aA i)]) [(0,_)] (fun (i:Int)=>bG) (fun (i:Int)=>1≤i∧(i≤ls.length∨i=1)∧bs.nW ls i.toNat=true) (fun (i:Int)=>(ls.length-i).toNat) (ab.sub ⟨rfl,rfl,trivial⟩) (by subst a6;exact U) (by exact ⟨Int.le_refl _,.inr rfl,rfl⟩) ?_
   rintro i a w bh ab U
   subst a6;(try dsimp only at bh ab U)
   obtain ⟨eL,kI,has⟩:=bh
   replace U:=ic U
   refine ax fun kY gF=>aD ab U (ai rfl<|ai rfl<|ae (ee nR aw rfl)<|ae (cU rfl rfl)<|ah) fun a w ab U=>cn ab rfl (fun dI=>?_) (fun dI=>?_)
   ·refine wp_skip<|gF _ _<|ax fun mw hz=>wp_block ?_
    refine iE mixed az ab U (ai rfl<|ai rfl<|ae (dV nR nm aw rfl rfl ag)<|ae (tw nm aw rfl ag rfl (s':=0) az)<|ae (xv bB aw cM rfl rfl ag)<|ai rfl<|ai rfl<|fy rfl rfl<|ae (dV nR nm aw rfl rfl ag)<|ae (tw nm aw rfl ag rfl (s':=0) az)<|ae (xv bB aw cM rfl rfl ag)<|ae (afR rfl rfl)<|ah) fun a w ab U=>df ab rfl (fun dE=>?_) (fun dE=>?_)
    ·have fH:bs.lt (ls.getD (i-1).toNat dk).1 (ls.getD i.toNat dk).1=false:=by rw [show (Op.bytesLess (ls.getD i.toNat dk).1 (ls.getD (i-1).toNat dk).1 || decide ((ls.getD i.toNat dk).1=(ls.getD (i-1).toNat dk).1)) = !bs.lt (ls.getD (i-1).toNat dk).1 (ls.getD i.toNat dk).1 from bs.Pf] at dE;simpa using dE
     refine aD ab U (av rfl<|ah) fun a w ab U=>wp_ret ?_
     exact b0 (rs:=[.tmp 2]) rfl ab U (vs:=[_]) ⟨rfl,trivial⟩ ay ay (by rw [bs.Tc og (bs.Lg ag ag fH)])
    ·have fH:bs.lt (ls.getD (i-1).toNat dk).1 (ls.getD i.toNat dk).1=true:=by rw [show (Op.bytesLess (ls.getD i.toNat dk).1 (ls.getD (i-1).toNat dk).1 || decide ((ls.getD i.toNat dk).1=(ls.getD (i-1).toNat dk).1)) = !bs.lt (ls.getD (i-1).toNat dk).1 (ls.getD i.toNat dk).1 from bs.Pf] at dE;simpa using dE
     refine wp_skip<|hz _ _<|bx ab U (ai rfl<|b5 rfl rfl<|av rfl<|ah) fun a w ab U=>⟨(i+1),?_,?_,ab.sub ⟨rfl,rfl,trivial⟩,?_⟩
     ·(try dsimp only);omega
     ·exact ⟨by omega,.inl ag,bs.Lf ag has (fun h=>by rw [fH] at h;exact absurd h.2 (by simp))⟩
     ·exact U
   ·refine wp_exit<|eY _ _<|aD ab U (av rfl<|ah) fun a w ab U=>wp_ret ?_
    exact b0 (rs:=[.tmp 2]) rfl ab U (vs:=[_]) ⟨rfl,trivial⟩ ay ay (by rw [bs.Tb og (by by_cases cA:ls.length=0;rw [cA];rfl;rw [show ls.length=i.toNat by omega];exact has)])
theorem adR(a b:Int)(n:Nat)(bg:0≤a∧a≤1099511627776)(bD:b=a+n)(pO:2≤n)(zE:n≤1099511627776)(w:World):cC Tryz.prog 118 [aA a,aA b] w (fun r _ _=>r=aA (a+bs.half n)):=by
 refine c4 Tryz.func118 rfl Tryz.ntmps118 b4 fun a ab U=>aD ab U (av rfl<|ah) fun a w ab U=>aD ab U (av rfl<|ah) fun a w ab U=>ax fun dX cq=>wp_block ?_
 obtain ⟨bG,a6,U⟩:=U.c1
 refine dy (γ:=Int×Nat) (1,0) (fun (m,j)=>[(5,aA m)]) [(0,_),(1,_)] (fun (m,j)=>bG) (fun (m,j)=>m=((2^j:Nat):Int)∧(j=0∨2^j<n)∧1≤m∧m≤1099511627776) (fun (m,j)=>(2*1099511627776-m).toNat) (ab.sub ⟨rfl,rfl,rfl,trivial⟩) (by subst a6;exact U) (by exact ⟨rfl,.inl rfl,by omega,by omega⟩) ?_
 rintro ⟨m,j⟩ a w bh ab U
 subst a6;(try dsimp only at bh ab U)
 obtain ⟨hm,aV,Ob,zA⟩:=bh
 replace U:=ic U
 refine ax fun et cB=>aD ab U (ai rfl<|ae (hK rfl rfl ag)<|ai rfl<|ai rfl<|fy rfl rfl<|ae (cU rfl rfl)<|ah) fun a w ab U=>cn ab rfl (fun aU=>?_) (fun aU=>?_)
 ·refine wp_skip<|cB _ _<|wp_block ?_
  refine bx ab U (ai rfl<|ae (hK rfl rfl ag)<|av rfl<|ah) fun a w ab U=>⟨(m*2,j+1),?_,?_,ab.sub ⟨rfl,rfl,rfl,trivial⟩,?_⟩
  ·(try dsimp only);omega
  ·exact ⟨by rw [Nat.pow_succ,hm];push_cast;omega,.inr (by rw [Nat.pow_succ];omega),by omega,by omega⟩
  ·exact U
 ·have HA:=bs.Qw hm aV ag pO
  refine wp_exit<|cq _ _<|aD ab U (ai rfl<|ai rfl<|b5 rfl rfl<|av rfl<|ah) fun a w ab U=>wp_ret ?_
  exact b0 (rs:=[.tmp 4]) rfl ab U (vs:=[_]) ⟨rfl,trivial⟩ ay ay (by rw [HA])
theorem Z2(b:Int)(n:Nat)(bD:b=n)(pO:2≤n)(zE:n≤1099511627776)(w:World):cC Tryz.prog 153 [aA b] w (fun r _ _=>r=aA (bs.half n)):=by
 refine c4 Tryz.func153 rfl Tryz.ntmps153 b4 fun a ab U=>aD ab U (av rfl<|ah) fun a w ab U=>aD ab U (av rfl<|ah) fun a w ab U=>ax fun dX cq=>wp_block ?_
 obtain ⟨bG,a6,U⟩:=U.c1
 refine dy (γ:=Int×Nat) (1,0) (fun (m,j)=>[(3,aA m)]) [(0,_)] (fun (m,j)=>bG) (fun (m,j)=>m=((2^j:Nat):Int)∧(j=0∨2^j<n)∧1≤m∧m≤1099511627776) (fun (m,j)=>(2*1099511627776-m).toNat) (ab.sub ⟨rfl,rfl,trivial⟩) (by subst a6;exact U) (by exact ⟨rfl,.inl rfl,by omega,by omega⟩) ?_
 rintro ⟨m,j⟩ a w bh ab U
 subst a6;(try dsimp only at bh ab U)
 obtain ⟨hm,aV,Ob,zA⟩:=bh
 replace U:=ic U
 refine ax fun et cB=>aD ab U (ai rfl<|ae (hK rfl rfl ag)<|ai rfl<|ae (cU rfl rfl)<|ah) fun a w ab U=>cn ab rfl (fun aU=>?_) (fun aU=>?_)
 ·refine wp_skip<|cB _ _<|wp_block ?_
  refine bx ab U (ai rfl<|ae (hK rfl rfl ag)<|av rfl<|ah) fun a w ab U=>⟨(2*m,j+1),?_,?_,ab.sub ⟨rfl,rfl,trivial⟩,?_⟩
  ·(try dsimp only);omega
  ·exact ⟨by rw [Nat.pow_succ,hm];push_cast;omega,.inr (by rw [Nat.pow_succ];omega),by omega,by omega⟩
  ·exact U
 ·have HA:=bs.Qw hm aV ag pO
  refine wp_exit<|cq _ _<|aD ab U (ai rfl<|av rfl<|ah) fun a w ab U=>wp_ret ?_
  exact b0 (rs:=[.tmp 2]) rfl ab U (vs:=[_]) ⟨rfl,trivial⟩ ay ay (by rw [HA])
end
section
theorem AZ:ba Tryz.prog 197 (.func #[3,3] #[62] false) 1 8 (Value.nilFunc):=⟨Tryz.underlying197,by kernel_rfl⟩
theorem X5:b1 Tryz.prog 75:=b6 Tryz.func75
theorem M9:b1 Tryz.prog 76:=b6 Tryz.func76
theorem X6:b1 Tryz.prog 77:=b6 Tryz.func77
theorem B9:b1 Tryz.prog 115:=b6 Tryz.func115
theorem FX:b1 Tryz.prog 116:=b6 Tryz.func116
theorem Xi:b1 Tryz.prog 117:=b6 Tryz.func117
theorem Xj:b1 Tryz.prog 118:=b6 Tryz.func118
theorem Xk:b1 Tryz.prog 119:=b6 Tryz.func119
attribute [local irreducible] aL.sum aL.qG aL.ju aF.int aF.ints aF.bytes aL.hY bs.half Lib.compareBytes
theorem ac9(x:bs.cS)(aM:x.1.length<1048576∧x.2.length<1048576)(w:World){gE:Nat×Nat}{gC:TypeId}(fW:w.heap[1]?=some (.cells (aL.eH.map cI).toArray gC gE)):cC Tryz.prog 117 [.agg [vs x.1,vs x.2].toArray] w (fun r _ _=>r=.agg ((bs.rP x).map bn).toArray):=by
 refine c4 Tryz.func117 rfl Tryz.ntmps117 b4 fun a ab U=>?_
 have CP:=aL.o2 3 [x.1,x.2]
 refine bc fun eJ c8=>aJ ab U rfl (jV rfl) ?_
 rintro _ _ _ a w ⟨ck,rfl,rfl,rfl⟩ ab U
 refine aJ ab U rfl (dg di) ?_
 rintro _ _ _ a w ⟨dD,rfl,rfl,rfl⟩ ab U
 rw [show List.replicate 16 (Value.int .u8 0)=(List.replicate 16 (0:UInt8)).map bn from by rw [List.map_replicate] <;> rfl] at U
 refine wpList_nil (c8 _ _ ?_)
 refine bc fun cG bJ=>aG ab U (ae (aZ nk rfl rfl (s':=0) az)<|ae (bf bB 1 rfl rfl rfl rfl)<|ae (aZ nk rfl rfl (s':=0) az)<|ae (bf bB 1 rfl rfl rfl rfl)<|ah) fun a w ab U=>aJ ab U rfl (eu cw bB rfl rfl bM a8 rfl rfl) ?_
 rintro v3 _ _ a w ⟨rfl,rfl⟩ ab U
 replace U:=eU U
 refine aG ab U (ae (bV B9 rfl (fun w U=>Du _ _ _ (by simp;omega) (by simp) w (lM (f:=vs) (xs:=[x.1,x.2]) (U.dp 0 rfl) (by simp;omega) rfl (by first | decide | omega)) (U.ext _ _ fW)) bP)<|ah) fun a w ab U=>aJ ab U rfl (cJ di 1 rfl rfl rfl rfl aI bM aI) ?_
 rintro _ _ _ a w ⟨rfl,rfl,rfl⟩ ab U
 replace U:=eU U
 refine wpList_nil (bJ _ _ ?_)
 refine wp_ret<|b0 (rs:=[.cell 2 62]) rfl ab U (vs:=[_]) ⟨⟨_,_,_,_,_,_,_,rfl,List.mem_of_getElem? (i:=1) rfl,di,.inl ⟨rfl,aI,rfl⟩⟩,trivial⟩ ay ay (rfl)
theorem aet(da db:List UInt8)(bg:da.length=16)(aw:db.length=16)(w:World){gE:Nat×Nat}{gC:TypeId}(fW:w.heap[1]?=some (.cells (aL.eH.map cI).toArray gC gE)):cC Tryz.prog 119 [.agg ((da).map bn).toArray,.agg ((db).map bn).toArray] w (fun r _ _=>r=.agg ((bs.qJ da db).map bn).toArray):=by
 refine c4 Tryz.func119 rfl Tryz.ntmps119 b4 fun a ab U=>?_
 have CP:=aL.o2 4 [da,db]
 refine bc fun eJ c8=>aJ ab U rfl (jV rfl) ?_
 rintro _ _ _ a w ⟨ck,rfl,rfl,rfl⟩ ab U
 refine aJ ab U rfl (jV rfl) ?_
 rintro _ _ _ a w ⟨dD,rfl,rfl,rfl⟩ ab U
 refine aJ ab U rfl (dg di) ?_
 rintro _ _ _ a w ⟨k1,rfl,rfl,rfl⟩ ab U
 rw [show List.replicate 16 (Value.int .u8 0)=(List.replicate 16 (0:UInt8)).map bn from by rw [List.map_replicate] <;> rfl] at U
 refine wpList_nil (c8 _ _ ?_)
 refine ax fun cG bJ=>h2 4 mixed az ab U (ae (rZ di bI rfl)<|ae (Ai bX bB bI 2 rfl rfl aI)<|ae (rZ di bI rfl)<|ae (Ai bX bB bI 1 rfl rfl aI)<|ah) fun a w ab U=>aJ ab U rfl (eu cw bB rfl rfl bM a8 rfl rfl) ?_
 rintro v4 _ _ a w ⟨rfl,rfl⟩ ab U
 replace U:=jt U
 refine aG ab U (ae (bV B9 rfl (fun w U=>Du _ _ _ (by simp;omega) (by simp) w (lM (f:=vs) (xs:=[da,db]) (U.dp 0 rfl) (by simp;omega) rfl (by first | decide | omega)) (U.ext _ _ fW)) bP)<|ah) fun a w ab U=>aJ ab U rfl (cJ di 1 rfl rfl rfl rfl aI bM aI) ?_
 rintro _ _ _ a w ⟨rfl,rfl,rfl⟩ ab U
 replace U:=jt U
 refine wpList_nil (bJ _ _ ?_)
 refine wp_ret<|b0 (rs:=[.cell 4 62]) rfl ab U (vs:=[_]) ⟨⟨_,_,_,_,_,_,_,rfl,List.mem_of_getElem? (i:=1) rfl,di,.inl ⟨rfl,aI,rfl⟩⟩,trivial⟩ ay ay (rfl)
theorem RS(n:Int)(d:List UInt8)(aT:d.length=16)(bD:0≤n∧n≤9223372036854775807)(w:World){gE:Nat×Nat}{gC:TypeId}(fW:w.heap[1]?=some (.cells (aL.eH.map cI).toArray gC gE)):cC Tryz.prog 76 [aA n,.agg ((d).map bn).toArray] w (fun r _ _=>r=.agg ((bs.kx n.toNat d).map bn).toArray):=by
 refine c4 Tryz.func76 rfl Tryz.ntmps76 b4 fun a ab U=>?_
 have CP:=aL.o2 4 [aF.int n,d]
 have ano:=aL.o2 4 [aF.int 0]
 have oU:=aF.oo n
 have amA:=aF.oo 0
 refine bc fun eJ c8=>aJ ab U rfl (jV rfl) ?_
 rintro _ _ _ a w ⟨ck,rfl,rfl,rfl⟩ ab U
 refine aJ ab U rfl (dg di) ?_
 rintro _ _ _ a w ⟨dD,rfl,rfl,rfl⟩ ab U
 rw [show List.replicate 16 (Value.int .u8 0)=(List.replicate 16 (0:UInt8)).map bn from by rw [List.map_replicate] <;> rfl] at U
 refine wpList_nil (c8 _ _ ?_)
 refine ax fun cG bJ=>aD ab U (ai rfl<|ae (gq rfl rfl)<|ah) fun a w ab U=>cn ab rfl (fun aU=>?_) (fun aU=>?_)
 ·refine ax fun et cB=>dM ?_
  refine aJ ab U rfl (eT Cd rfl (fun w U=>Eu _ w )) ?_
  rintro v3 _ _ a w ⟨_,_,rfl,rfl,rfl,rfl⟩ ab U
  replace U:=eU U
  refine aG ab U (ae (nf bX bB bI 0 rfl rfl)<|ah) fun a w ab U=>aJ ab U rfl (eu cw bB rfl rfl bM a8 rfl rfl) ?_
  rintro v5 _ _ a w ⟨rfl,rfl⟩ ab U
  replace U:=jt U
  refine aG ab U (ae (bV B9 rfl (fun w U=>Du _ _ _ (by simp;omega) (by simp) w (lM (f:=vs) (xs:=[aF.int 0]) (U.dp 0 rfl) (by simp;omega) rfl (by first | decide | omega)) (U.ext _ _ fW)) bP)<|ah) fun a w ab U=>aJ ab U rfl (cJ di 2 rfl rfl rfl rfl aI bM aI) ?_
  rintro _ _ _ a w ⟨rfl,rfl,rfl⟩ ab U
  replace U:=jt U
  refine wpList_nil (cB _ _ ?_)
  refine wp_ret<|b0 (rs:=[.cell 4 62]) rfl ab U (vs:=[_]) ⟨⟨_,_,_,_,_,_,_,rfl,List.mem_of_getElem? (i:=2) rfl,di,.inl ⟨rfl,aI,rfl⟩⟩,trivial⟩ ay ay (by unfold bs.kx;rw [if_pos ag])
 ·refine wp_skip<|bJ _ _<|ax fun dL b9=>?_
  revert U;revert ab;apply hL (J:=kj (α0:=Value) (α1:=Value) 18 _ _ _ _ _) #[false,false,false,false,false,false,false,false] 8 mixed rfl rfl
  ·intro w ab U
   refine aS 0 rfl ab (U.ao al ay) (bE rfl) fun a ab=>aS 3 rfl ab (U.ao al (c2)) (rZ di bI rfl) fun a ab=>aS 4 rfl ab (U.ao al (c2)) (Ai bX bB bI 0 rfl rfl aI) fun a ab=>bY 1 rfl rfl ab U rfl (eT Cd rfl (fun w U=>Eu _ w )) ?_
   rintro Tp _ _ a w ⟨_,_,rfl,rfl,rfl,rfl⟩ ab U
   refine ⟨⟨.inr (U.ew (fO)),.inr (U.ew (fO)),aq,trivial⟩,?_⟩
   refine aS 2 rfl ab (U.ao al (ay.k)) (nf bX bB bI 0 rfl rfl) fun a ab=>bY 5 rfl rfl ab U rfl (eu cw bB rfl rfl bM a8 rfl rfl) ?_
   rintro Tq _ _ a w ⟨rfl,rfl⟩ ab U
   refine ⟨⟨aq,aq,aq,aq,trivial⟩,?_⟩
   refine bY 6 rfl rfl ab U rfl (eC (bV B9 rfl (fun w U=>Du _ _ _ (by simp;omega) (by simp) w (lM (f:=vs) (xs:=[aF.int n,d]) (U.dp 0 rfl) (by simp;omega) rfl (by first | decide | omega)) (U.ext _ _ fW)) bP)) ?_
   rintro _ _ _ a w ⟨rfl,rfl,rfl⟩ ab U
   refine ⟨⟨aq,aq,aq,aq,trivial⟩,?_⟩
   refine bY 7 rfl rfl ab U rfl (cJ di 2 rfl rfl rfl rfl aI bM aI) ?_
   rintro _ _ _ a w ⟨rfl,rfl,rfl⟩ ab U
   refine ⟨⟨aq,aq,aq,aq,trivial⟩,?_⟩
   exact ev az (lI Tp Tq (trivial) (ab.sub (L':=[(4,_)]) ⟨rfl,trivial⟩) U)
  rintro a w ⟨Tp,Tq, -,ab,U⟩
  (try dsimp only at ab U)
  refine b9 _ _<|wp_ret ?_
  exact b0 (rs:=[.cell 4 62]) rfl ab U (vs:=[_]) ⟨⟨_,_,_,_,_,_,_,rfl,List.mem_of_getElem? (i:=2) rfl,di,.inl ⟨rfl,aI,rfl⟩⟩,trivial⟩ ay ay (by unfold bs.kx;rw [if_neg ag,Int.toNat_of_nonneg bD.1])
theorem Wj(v:Value)(ls:List bs.cS)(bL fm:Nat){wm BP:TypeId}{wI Ci:Nat×Nat}(hl:ls.length<1048576)(aM:∀ x∈ls,x.1.length<1048576∧x.2.length<1048576)(gE:Nat×Nat)(gC:TypeId)(f:Nat)(ih:∀ (lo aH:Int) (n:Nat) (bg:0≤lo) (bD:aH=lo+n) (lF:1≤n) (pP:n≤f) (wR:lo+n≤ls.length) (w:World) (fp:w.heap[bL]?=some (.cells [v].toArray wm wI)) (aw:bo jD (cf w) v ls) (qt:w.heap[fm]?=some (.cells [.func (.func 116) (List.nil:List Value).toArray [Value.pointer (some ⟨bL,0,none⟩),Value.pointer (some ⟨fm,0,none⟩)].toArray].toArray BP Ci)) (fW:w.heap[1]?=some (.cells (aL.eH.map cI).toArray gC gE)),cC Tryz.prog 116 [aA lo,aA aH,.pointer (some ⟨bL,0,none⟩),.pointer (some ⟨fm,0,none⟩)] w (fun r _ _=>r=.agg ((bs.jJ (bs.sub ls lo.toNat n)).map bn).toArray))(lo aH:Int)(n:Nat)(bg:0≤lo)(bD:aH=lo+n)(lF:1≤n)(pP:n≤f+1)(wR:lo+n≤ls.length)(w:World)(fp:w.heap[bL]?=some (.cells [v].toArray wm wI))(aw:bo jD (cf w) v ls)(qt:w.heap[fm]?=some (.cells [.func (.func 116) (List.nil:List Value).toArray [Value.pointer (some ⟨bL,0,none⟩),Value.pointer (some ⟨fm,0,none⟩)].toArray].toArray BP Ci))(fW:w.heap[1]?=some (.cells (aL.eH.map cI).toArray gC gE)):cC Tryz.prog 116 [aA lo,aA aH,.pointer (some ⟨bL,0,none⟩),.pointer (some ⟨fm,0,none⟩)] w (fun r _ _=>r=.agg ((bs.jJ (bs.sub ls lo.toNat n)).map bn).toArray):=by
 refine c4 Tryz.func116 rfl Tryz.ntmps116 b4 fun a ab U=>?_
 have c6:=aw.1
 have N6:=bs.wQ n
 have pQ:=bs.AL (ls:=bs.sub ls lo.toNat n) (by rw [bs.xV ag];omega)
 refine bc fun eJ c8=>aJ ab U rfl (dg di) ?_
 rintro _ _ _ a w ⟨ck,rfl,rfl,rfl⟩ ab U
 rw [show List.replicate 16 (Value.int .u8 0)=(List.replicate 16 (0:UInt8)).map bn from by rw [List.map_replicate] <;> rfl] at U
 refine wpList_nil (c8 _ _ ?_)
 refine ax fun cG bJ=>aD ab U (ai rfl<|ai rfl<|fy rfl rfl<|ae (gq rfl rfl)<|ah) fun a w ab U=>cn ab rfl (fun aU=>?_) (fun aU=>?_)
 ·have zD:n=1:=by omega
  have C0:=aM (ls.getD lo.toNat dk) (bs.getD_in ag)
  have NZ:=bs.Ii (ls.getD lo.toNat dk)
  refine bc fun et cB=>aG ab U (ae (ji nq rfl fp rfl rfl)<|ai rfl<|ae (dV nq nk aw rfl rfl ag)<|ae (QN nk aw cM rfl rfl ag)<|ae (bV Xi rfl (fun w U=>ac9 (ls.getD lo.toNat dk) C0 w (U.ext _ _ fW)) bP)<|ah) fun a w ab U=>aJ ab U rfl (cJ di 0 rfl rfl rfl rfl aI bM aI) ?_
  rintro _ _ _ a w ⟨rfl,rfl,rfl⟩ ab U
  replace U:=ft U
  refine wpList_nil (cB _ _ ?_)
  refine wp_ret<|b0 (rs:=[.cell 6 62]) rfl ab U (vs:=[_]) ⟨⟨_,_,_,_,_,_,_,rfl,List.mem_of_getElem? (i:=0) rfl,di,.inl ⟨rfl,aI,rfl⟩⟩,trivial⟩ ay ay (by rw [zD,bs.RW ag])
 ·have pO:2≤n:=by omega
  have CJ:=bs.uP pO
  have eQ:=bs.AL (ls:=bs.sub ls lo.toNat (bs.half n)) (by rw [bs.xV ag];omega)
  have anv:=bs.AL (ls:=bs.sub ls (lo+bs.half n).toNat (n-bs.half n)) (by rw [bs.xV ag];omega)
  have gx:=bs.Ix (bs.jJ (bs.sub ls lo.toNat (bs.half n))) (bs.jJ (bs.sub ls (lo+bs.half n).toNat (n-bs.half n)))
  refine wp_skip<|bJ _ _<|aD ab U (ai rfl<|ai rfl<|ae (bV Xj rfl (fun w U=>adR _ _ n ag ag ag ag w ) bP)<|av rfl<|ah) fun a w ab U=>ax fun eN cK=>h2 9 mixed az ab U (ae (ji AZ rfl qt rfl rfl)<|ai rfl<|ai rfl<|ae (Ak FX rfl rfl (by exact fun w U=>ih _ _ (bs.half n) ag ag ag ag ag w (U.ext _ _ fp) (bo.mono (U.le cM) aw) (U.ext _ _ qt) (U.ext _ _ fW)) bP)<|ae (ji AZ rfl qt rfl rfl)<|ai rfl<|ai rfl<|ae (Ak FX rfl rfl (by exact fun w U=>ih _ _ (n-bs.half n) ag ag ag ag ag w (U.ext _ _ fp) (bo.mono (U.le cM) aw) (U.ext _ _ qt) (U.ext _ _ fW)) bP)<|ae (bV Xk rfl (fun w U=>aet _ _ (by first | with_reducible assumption | omega) (by first | with_reducible assumption | omega) w (U.ext _ _ fW)) bP)<|ah) fun a w ab U=>?_
  refine aJ ab U rfl (cJ di 0 rfl rfl rfl rfl aI bM aI) ?_
  rintro _ _ _ a w ⟨rfl,rfl,rfl⟩ ab U
  replace U:=ft U
  refine wpList_nil (cK _ _ ?_)
  refine wp_ret<|b0 (rs:=[.cell 6 62]) rfl ab U (vs:=[_]) ⟨⟨_,_,_,_,_,_,_,rfl,List.mem_of_getElem? (i:=0) rfl,di,.inl ⟨rfl,aI,rfl⟩⟩,trivial⟩ ay ay (by rw [bs.RV ag pO,show lo.toNat+bs.half n=(lo+bs.half n).toNat by omega])
theorem Wi(v:Value)(ls:List bs.cS)(bL fm:Nat){wm BP:TypeId}{wI Ci:Nat×Nat}(hl:ls.length<1048576)(aM:∀ x∈ls,x.1.length<1048576∧x.2.length<1048576)(gE:Nat×Nat)(gC:TypeId):∀ (f:Nat) (lo aH:Int) (n:Nat) (bg:0≤lo) (bD:aH=lo+n) (lF:1≤n) (pP:n≤f) (wR:lo+n≤ls.length) (w:World) (fp:w.heap[bL]?=some (.cells [v].toArray wm wI)) (aw:bo jD (cf w) v ls) (qt:w.heap[fm]?=some (.cells [.func (.func 116) (List.nil:List Value).toArray [Value.pointer (some ⟨bL,0,none⟩),Value.pointer (some ⟨fm,0,none⟩)].toArray].toArray BP Ci)) (fW:w.heap[1]?=some (.cells (aL.eH.map cI).toArray gC gE)),cC Tryz.prog 116 [aA lo,aA aH,.pointer (some ⟨bL,0,none⟩),.pointer (some ⟨fm,0,none⟩)] w (fun r _ _=>r=.agg ((bs.jJ (bs.sub ls lo.toNat n)).map bn).toArray):=by
 intro f
 induction f with
 | zero=>intro lo aH n bg bD lF pP;omega
 | succ f ih=>exact fun lo aH n bg bD lF pP wR w fp aw qt fW=>Wj v ls bL fm hl aM gE gC f ih lo aH n bg bD lF pP wR w fp aw qt fW
theorem Wk(v:Value)(ls:List bs.cS)(hl:ls.length<1048576)(h1:1≤ls.length)(aM:∀ x∈ls,x.1.length<1048576∧x.2.length<1048576)(w:World)(aw:bo jD (cf w) v ls){gE:Nat×Nat}{gC:TypeId}(fW:w.heap[1]?=some (.cells (aL.eH.map cI).toArray gC gE)):cC Tryz.prog 77 [v] w (fun r _ _=>r=.agg ((bs.jJ ls).map bn).toArray):=by
 refine c4 Tryz.func77 rfl Tryz.ntmps77 b4 fun a ab U=>?_
 have c6:=aw.1
 have pQ:=bs.AL h1
 have CS:(bs.jJ (bs.sub ls 0 ls.length)).length=16:=by rw [bs.JI];exact pQ
 refine bc fun eJ c8=>aJ ab U rfl (oM rfl (mP aw)) ?_
 rintro _ _ _ a w ⟨ck,rfl,rfl,rfl⟩ ab U
 refine aJ ab U rfl (dg di) ?_
 rintro _ _ _ a w ⟨dD,rfl,rfl,rfl⟩ ab U
 rw [show List.replicate 16 (Value.int .u8 0)=(List.replicate 16 (0:UInt8)).map bn from by rw [List.map_replicate] <;> rfl] at U
 refine wpList_nil (c8 _ _ ?_)
 refine bc fun cG bJ=>aJ ab U rfl (wv AZ (by rfl)) ?_
 rintro _ _ _ a w ⟨k1,rfl,rfl,rfl⟩ ab U
 refine wpList_nil (bJ _ _ ?_)
 refine bc fun dX cq=>aG ab U (ae (tC rfl rfl)<|ah) fun a w ab U=>aJ ab U rfl (dq AZ 0 rfl rfl rfl rfl (by simp)) ?_
 rintro _ _ _ a w ⟨rfl,rfl,rfl⟩ ab U
 (try simp only [dd] at U)
 replace U:=eU U
 refine wpList_nil (cq _ _ ?_)
 refine bc fun et cB=>aG ab U (ae (bf AZ 0 rfl rfl rfl rfl)<|ae (bf nq 2 rfl rfl rfl rfl)<|ae (ee nq aw rfl)<|ae (Ak FX rfl rfl (by exact fun w U=>Wi v ls _ _ hl aM _ _ ls.length 0 ls.length ls.length ag ag h1 (Nat.le_refl _) ag w (j0 U 2 rfl) (bo.mono (U.le cM) aw) (j0 U 0 rfl) (U.ext _ _ fW)) bP)<|ah) fun a w ab U=>aJ ab U rfl (cJ di 1 rfl rfl rfl rfl aI bM aI) ?_
 rintro _ _ _ a w ⟨rfl,rfl,rfl⟩ ab U
 replace U:=eU U
 refine wpList_nil (cB _ _ ?_)
 refine wp_ret<|b0 (rs:=[.cell 2 62]) rfl ab U (vs:=[_]) ⟨⟨_,_,_,_,_,_,_,rfl,List.mem_of_getElem? (i:=1) rfl,di,.inl ⟨rfl,aI,rfl⟩⟩,trivial⟩ ay ay (by rw [show (0:Int).toNat=0 from rfl,bs.JI])
theorem aed(v:Value)(ls:List bs.cS)(w:World)(aw:bo jD (cf w) v ls){gE:Nat×Nat}{gC:TypeId}(fW:w.heap[1]?=some (.cells (aL.eH.map cI).toArray gC gE)):cC Tryz.prog 40 [v] w (fun r _ _=>r=.tuple [.agg (((bs.mK ls).1).map bn).toArray,aA (bs.mK ls).2].toArray):=by
 refine c4 Tryz.func40 rfl Tryz.ntmps40 b4 fun a ab U=>?_
 have c6:=aw.1
 refine bc fun eJ c8=>aJ ab U rfl (dg di) ?_
 rintro _ _ _ a w ⟨ck,rfl,rfl,rfl⟩ ab U
 rw [show List.replicate 16 (Value.int .u8 0)=(List.replicate 16 (0:UInt8)).map bn from by rw [List.map_replicate] <;> rfl] at U
 refine aG ab U (av rfl<|ah) fun a w ab U=>wpList_nil (c8 _ _ ?_)
 refine ax fun cG bJ=>aD ab U (ai rfl<|ae (bV X5 rfl (fun w U=>aji _ _ w (bo.mono (U.le cM) aw)) bP)<|av rfl<|ah) fun a w ab U=>aD ab U (ai rfl<|ae (dS rfl rfl)<|ah) fun a w ab U=>e9 ab rfl (fun aU=>?_) (fun aU=>?_)
 ·refine ax fun dL b9=>dM ?_
  refine aG ab U (ae (qP rfl (vF di bI rfl))<|ai rfl<|ah) fun a w ab U=>aJ ab U rfl (cJ di 0 rfl rfl rfl rfl aI bM aI) ?_
  rintro _ _ _ a w ⟨rfl,rfl,rfl⟩ ab U
  replace U:=ft U
  refine aG ab U (av rfl<|ah) fun a w ab U=>wpList_nil (b9 _ _ ?_)
  refine wp_ret<|b0 (rs:=[.cell 2 62,.tmp 3]) rfl ab U (vs:=[_,_]) ⟨⟨_,_,_,_,_,_,_,rfl,List.mem_of_getElem? (i:=0) rfl,di,.inl ⟨rfl,aI,rfl⟩⟩,rfl,trivial⟩ ay ay (by rw [bs.Jd (by simpa using aU)];rfl)
 ·have w7:bs.jK ls=0:=by simpa using aU
  have HU:=bs.Td w7
  have zS:∀ x∈ls,x.1.length<1048576∧x.2.length<1048576:=fun x aM=>by have:=HU.2.2 x aM;omega
  refine wp_skip<|bJ _ _<|ax fun eN cK=>aD ab U (ai rfl<|ae (ee nq aw rfl)<|ae (gq rfl rfl)<|ah) fun a w ab U=>cn ab rfl (fun bz=>?_) (fun bz=>?_)
  ·have anu:∀ n d,(bs.kx n d).length=16:=bs.DX
   refine bc fun fk cP=>aG ab U (ae (qP rfl (vF di bI rfl))<|ae (bV M9 rfl (fun w U=>RS _ (List.replicate 16 0) (by simp) ag w (U.ext _ _ fW)) bP)<|ah) fun a w ab U=>aJ ab U rfl (cJ di 0 rfl rfl rfl rfl aI bM aI) ?_
   rintro _ _ _ a w ⟨rfl,rfl,rfl⟩ ab U
   replace U:=ft U
   refine aG ab U (av rfl<|ah) fun a w ab U=>wpList_nil (cP _ _ ?_)
   refine wp_ret<|b0 (rs:=[.cell 2 62,.tmp 3]) rfl ab U (vs:=[_,_]) ⟨⟨_,_,_,_,_,_,_,rfl,List.mem_of_getElem? (i:=0) rfl,di,.inl ⟨rfl,aI,rfl⟩⟩,rfl,trivial⟩ ay ay (by rw [bs.ag2 w7 ag];rfl)
  ·have sY:1≤ls.length:=by omega
   have pQ:=bs.AL sY
   have CS:=bs.DX ls.length (bs.jJ ls)
   refine wp_skip<|cK _ _<|bc fun gB du=>aG ab U (ai rfl<|ae (ee nq aw rfl)<|ai rfl<|ae (bV X6 rfl (fun w U=>Wk _ _ ag sY zS w (bo.mono (U.le cM) aw) (U.ext _ _ fW)) bP)<|ae (bV M9 rfl (fun w U=>RS _ _ pQ ag w (U.ext _ _ fW)) bP)<|ah) fun a w ab U=>aJ ab U rfl (cJ di 0 rfl rfl rfl rfl aI bM aI) ?_
   rintro _ _ _ a w ⟨rfl,rfl,rfl⟩ ab U
   replace U:=ft U
   refine aG ab U (av rfl<|ah) fun a w ab U=>wpList_nil (du _ _ ?_)
   refine wp_ret<|b0 (rs:=[.cell 2 62,.tmp 3]) rfl ab U (vs:=[_,_]) ⟨⟨_,_,_,_,_,_,_,rfl,List.mem_of_getElem? (i:=0) rfl,di,.inl ⟨rfl,aI,rfl⟩⟩,rfl,trivial⟩ ay ay (by rw [bs.DY w7];rfl)
end
section
theorem XX:b1 Tryz.prog 40:=b6 Tryz.func40
attribute [local irreducible] aL.sum aL.qG aL.ju au.ek au.keys
theorem ado(b:Nat)(pj v:Value)(l:List au.bK)(tick:Int)(gl:l.Pairwise (fun f g=>f.tk≤g.tk))(w2:l.length≤512)(w:World){bt:TypeId}{fz:Nat×Nat}(hl:w.heap[b]?=some (.cells [pj,v].toArray bt fz))(aw:bo Go.aK.hW (cf w) v l){fzg:Nat×Nat}{btg:TypeId}(dF:w.heap[1]?=some (.cells (aL.eH.map cI).toArray btg fzg)):cC Tryz.prog 34 [.pointer (some ⟨b,0,none⟩),aA tick] w (fun r _ _=>r=.agg (((bs.mK (au.iB l tick)).1).map bn).toArray):=by
 refine c4 Tryz.func34 rfl Tryz.ntmps34 b4 fun a ab U=>?_
 have c6:=aw.1
 have oW:=au.C9 l tick
 have HV:=au.th l tick
 have Hz:=au.Pv (yC aw) tick
 have jE:=au.Je (au.iB l tick)
 refine bc fun eJ c8=>aJ ab U rfl (dg di) ?_
 rintro _ _ _ a w ⟨ck,rfl,rfl,rfl⟩ ab U
 rw [show List.replicate 16 (Value.int .u8 0)=(List.replicate 16 (0:UInt8)).map bn from by rw [List.map_replicate] <;> rfl] at U
 refine wpList_nil (c8 _ _ ?_)
 refine ax fun cG bJ=>aD ab U (ai rfl<|ae (o5 iF rfl rfl)<|ah) fun a w ab U=>df ab rfl (fun h=>absurd h (by simp)) (fun _=>?_)
 refine wp_skip<|bJ _ _<|bc fun et cB=>aG ab U (ai rfl<|ai rfl<|ah) fun a w ab U=>aJ ab U rfl (eT M4 rfl (fun w U=>Pb _ _ _ _ _ gl ag w (U.ext _ _ hl) (bo.mono (U.le cM) aw))) ?_
 rintro _ _ _ a w ⟨_,_,rfl,rfl,⟨Vm,alq,alg,rfl,rfl,rfl,ZS⟩⟩ ab U
 replace U:=e7 U
 refine aG ab U (av rfl<|ah) fun a w ab U=>wpList_nil (cB _ _ ?_)
 refine ax fun dL b9=>bx ab U (av rfl<|ah) fun a w ab U=>?_
 replace U:=U.iC 142 2
 refine b9 _ _<|ax fun eN cK=>bc fun fa cT=>aG ab U (ai rfl<|ah) fun a w ab U=>aJ ab U rfl (eT M6 rfl (fun w U=>O0 _ w )) ?_
 rintro _ _ _ a w ⟨_,_,rfl,rfl,⟨ak1,rfl,rfl,rfl⟩⟩ ab U
 replace U:=jt U
 replace U:=U.perm hN
 replace U:=jt U
 refine aJ ab U rfl (dv M5 rfl (List.Perm.refl _) (by exact (Sw (by assumption) (au.OZ l tick) (au.OY (yC aw) tick) (au.OX ag tick) _ _  (b:=Vm)))) ?_
 rintro v10 _ _ a w ⟨_,_,rfl,rfl,⟨rfl,rfl⟩⟩ ab U
 replace U:=na U
 refine aG ab U (ae (hA cw 0 rfl rfl)<|ai rfl<|ah) fun a w ab U=>wpList_nil ?_
 rw [au.O4 gl] at U ab
 refine cT _ _<|wp_block ?_
 obtain ⟨bG,a6,U⟩:=U.c1
 refine dy (γ:=Value×Nat) ((Value.slice none 0 0),0) (fun (u,j)=>[(6,u),(21,aA (j:Int))]) [(4,_),(5,_),(19,_),(20,_)] (fun (u,j)=>(bG.set 3 (.row u 142 2 j (((au.iB l tick).take j).flatMap qD)))) (fun (u,j)=>j≤(au.keys l tick).length) (fun (u,j)=>(au.keys l tick).length-j) (ab.sub ⟨rfl,rfl,rfl,rfl,rfl,rfl,trivial⟩) (by subst a6;exact U) (by exact Nat.zero_le _) ?_
 rintro ⟨u,j⟩ a w bh ab U
 subst a6;(try dsimp only at bh ab U)
 have sX:=bh
 replace U:=na U
 refine aD ab U (ae (cU rfl rfl)<|ah) fun a w ab U=>ax fun gB du=>cn ab rfl (fun bz=>?_) (fun bz=>?_)
 ·refine wp_skip<|du _ _<|ax fun hU ef=>wp_block ?_
  refine aD ab U (ae (fY cw bB 0 rfl rfl rfl ag)<|ae (ma (f:=vs) (xs:=(au.keys l tick)) bB 0 [] rfl rfl ag rfl)<|av rfl<|ah) fun a w ab U=>dM ?_
  refine aG ab U (ai rfl<|ai rfl<|ai rfl<|ai rfl<|ae (afS SU bB (OW bB) 2 rfl rfl rfl ZS.1 (fun _ _=>trivial) trivial (au.adA gl (au.acJ ag)))<|ae (ow nk 2 az rfl rfl (bp rfl (bp rfl dO)) rfl rfl)<|ah) fun a w ab U=>aJ ab U rfl (oN nq nk rfl aI a8 bM a8 a8) ?_
  rintro v12 _ _ a w ⟨rfl,rfl⟩ ab U
  replace U:aB _ [] [_,_,_,_,_,_] _:=U
  refine aJ ab U rfl (dH nq nk 4 rfl rfl rfl (eo nq (k:=0) rfl bM) aI rfl a8) ?_
  rintro JU _ _ a w ⟨rfl,rfl⟩ ab U
  replace U:aB _ [] [_,_,_,_,_,_] _:=U
  refine aG ab U (av rfl<|ah) fun a w ab U=>wpList_nil (ef _ _ ?_)
  refine bx ab U (b5 rfl rfl<|ai rfl<|ah) fun a w ab U=>?_
  replace U:=U.ao ay (c2)
  refine ⟨(JU,j+1),?_,?_,ab.sub ⟨rfl,rfl,rfl,rfl,rfl,rfl,trivial⟩,?_⟩
  ·(try dsimp only);omega
  ·omega
  ·rw [au.Pw ag] at U
   exact U
 ·obtain rfl:j=(au.keys l tick).length:=by omega
  rw [← au.th,List.take_length] at U
  refine wp_exit<|cK _ _<|bc fun iZ eY=>aG ab U (ai rfl<|ae (bV XX rfl (fun w U=>aed _ _ w (ie (hl:=Pc) (h1:=Pd) (U.dp 3 rfl) rfl ag Hz) (U.ext _ _ dF)) bP)<|ai rfl<|ae (cQ rfl rfl)<|ae (cQ rfl rfl)<|ah) fun a w ab U=>aJ ab U rfl (dg di) ?_
  rintro _ _ _ a w ⟨Lk,rfl,rfl,rfl⟩ ab U
  rw [show List.replicate 16 (Value.int .u8 0)=(List.replicate 16 (0:UInt8)).map bn from by rw [List.map_replicate] <;> rfl] at U
  refine aJ ab U rfl (cJ di 0 rfl rfl rfl rfl aI bM aI) ?_
  rintro _ _ _ a w ⟨rfl,rfl,rfl⟩ ab U
  replace U:aB _ [] [_,_,_,_,_,_] _:=U
  refine aG ab U (av rfl<|ah) fun a w ab U=>wpList_nil (eY _ _ ?_)
  refine bc fun iR eO=>aG ab U (ae (gh di 0 rfl rfl aI rfl)<|ah) fun a w ab U=>aJ ab U rfl (cJ di 5 rfl rfl rfl rfl aI bM aI) ?_
  rintro _ _ _ a w ⟨rfl,rfl,rfl⟩ ab U
  replace U:aB _ [] [_,_,_,_,_,_] _:=U
  refine wpList_nil (eO _ _ ?_)
  refine wp_ret<|b0 (rs:=[.cell 4 62]) rfl ab U (vs:=[_]) ⟨⟨_,_,_,_,_,_,_,rfl,List.mem_of_getElem? (i:=5) rfl,di,.inl ⟨rfl,aI,rfl⟩⟩,trivial⟩ ay ay (rfl)
end
section
theorem XV:b1 Tryz.prog 34:=b6 Tryz.func34
attribute [local irreducible] aF.int aF.bytes aF.getInt aF.dZ aL.sum aj.fb aj.aT aj.c0 aj.a7 aj.c3 aj.gi aj.app aj.bW au.dec au.enc ak.new au.add au.taken cN.fl au.ek au.keys bs.mK
end
section
theorem Eh:ba Tryz.prog 76 (.slice 62) 1 24 (Value.slice none 0 0):=⟨Tryz.underlying76,by kernel_rfl⟩
theorem qZ : ba Tryz.prog 153 (.struct #[⟨ "Texts", 40, 0, false, "", "", 0⟩, ⟨ "Sides", 76, 1, false, "", "", 24⟩, ⟨ "Used", 3, 2, false, "", "", 48⟩, ⟨ "Short", 4, 3, false, "", "", 56⟩]) 4 64 (.agg ([Value.slice none 0 0, Value.slice none 0 0] ++ [Value.int .i64 0] ++ [Value.bool false]).toArray) := ⟨Tryz.underlying153, by kernel_rfl⟩
theorem X8:b1 Tryz.prog 79:=b6 Tryz.func79
theorem FY:b1 Tryz.prog 120:=b6 Tryz.func120
theorem FZ:b1 Tryz.prog 121:=b6 Tryz.func121
theorem Ca:b1 Tryz.prog 122:=b6 Tryz.func122
theorem XE:b1 Tryz.prog 153:=b6 Tryz.func153
theorem XF:b1 Tryz.prog 154:=b6 Tryz.func154
attribute [local irreducible] aL.sum aL.qG aL.ju aF.int aF.ints aF.bytes aL.hY bs.half Lib.compareBytes
/-- What is made of a tree that is lent. -/
def uk(e:Nat)(sv:Value)(σ:bs.eG×bs.jR×Nat×Bool):Value→List aR→List aC→Prop:=fun r zs hs=>∃ tv,r=.agg (σ.1.map bn).toArray∧zs=[]∧hs=[.blk e 153 [tv,sv,aA ((σ.2.2.1:Nat):Int),jk (σ.2.2.2)],.row tv 9 1 (σ.2.1).length ((σ.2.1).map vs)]
theorem vL{e:Nat}{sv:Value}{σ T4:bs.eG×bs.jR×Nat×Bool}{r:Value}{zs:List aR}{hs:List aC}(h:uk e sv σ r zs hs)(bL:T4=σ):uk e sv T4 r zs hs:=bL ▸ h
theorem yi{w0:World}{zs:List aR}{z z':aR}(h:gQ w0 zs z):gQ w0 (z'::zs) z:=h.elim .inl fun h=>.inr (List.mem_cons_of_mem _ h)
theorem Ed(e:Nat)(sv tv:Value)(T:bs.jR)(u:Nat)(s:Bool)(tag:Int)(v:Value)(ps:bs.jR)(bO:∀ p∈ps,p.length<1048576)(hl:ps.length<1000)(lD:T.length<4294967296)(ed:Nat×Nat)(eb:TypeId)(w0:World)(bU:List aR)(z:aR)(bA:bo Go.aK.encS z v ps)(bj:gQ w0 bU z)(dF:w0.heap[0]?=some (.cells (aL.eH.map cI).toArray eb ed)):e1 Tryz.prog 122 [.pointer (some ⟨e,0,none⟩),aA tag,v] w0 bU [.blk e 153 [tv,sv,aA ((u:Nat):Int),jk (s)],.row tv 9 1 (T).length ((T).map vs)] (uk e sv (aL.ju tag ps,T++[aL.hY tag ps],u,s)):=by
 refine gk Tryz.func122 rfl Tryz.ntmps122 b4 fun cF a w ab U=>?_
 replace U:=gU U
 have oU:=aL.H4 tag ps bO
 have jh:=aL.pb (aL.hY tag ps)
 have ann:=aL.o2 tag ps
 refine bc fun eJ c8=>aJ ab U rfl (dg di) ?_
 rintro _ _ _ a w ⟨ck,rfl,rfl,rfl⟩ ab U
 rw [show List.replicate 16 (Value.int .u8 0)=(List.replicate 16 (0:UInt8)).map bn from by rw [List.map_replicate] <;> rfl] at U
 refine wpList_nil (c8 _ _ ?_)
 refine bc fun cG bJ=>aG ab U (ai rfl<|ai rfl<|ah) fun a w ab U=>aJ ab U rfl (eT XF rfl (fun w U=>agV _ _ _ (by first | with_reducible assumption | omega) (by first | with_reducible assumption | omega) w (bo.mono (U.le (by first | exact bj | exact yi bj | exact yi (yi bj) | exact yi (yi (yi bj)))) bA))) ?_
 rintro v2 _ _ a w ⟨_,_,rfl,rfl,⟨z3,oX,rfl,rfl⟩⟩ ab U
 replace U:aB _ (_::_) (_::_::_::_) _:=U
 refine aG ab U (av rfl<|ah) fun a w ab U=>wpList_nil (bJ _ _ ?_)
 refine ax fun dX cq=>?_
 revert U;revert ab;apply hL (J:=kj (α0:=Value) (α1:=Value) 24 _ _ _ _ _) #[false,false,false,false,false,false,false,false,false,false,false,false] 12 mixed rfl rfl
 ·intro w ab U
  refine aS 0 rfl ab (U.ao al (eS)) (bE rfl) fun a ab=>aS 1 rfl ab (U.ao al (eS)) (bE rfl) fun a ab=>aS 2 rfl ab (U.ao al (eS)) (bN rfl) fun a ab=>aS 3 rfl ab (U.ao al (eS)) (aZ qZ rfl rfl (s':=0) az) fun a ab=>aS 4 rfl ab (U.ao al (c2.k.n)) (bf cw 0 rfl rfl rfl rfl) fun a ab=>?_
  refine aS 5 rfl ab (U.ao al (eS)) (bE rfl) fun a ab=>aS 6 rfl ab (U.ao al (eS)) (tt bX bB bI oX (.inr (by simp)) rfl) fun a ab=>bY 7 rfl rfl ab U rfl (eu cw bB rfl rfl bM a8 rfl rfl) ?_
  rintro Tn _ _ a w ⟨rfl,rfl⟩ ab U
  replace U:=rS U
  refine ⟨⟨aq,aq,.inr (U.ao al (c2.k.n.n)),.inr (U.ao al (e8)),.inr (U.ao al (e8)),.inr (U.ao al (e8)),.inr (U.ao al (e8)),trivial⟩,?_⟩
  refine bY 8 rfl rfl ab U rfl (dH cw bB 3 rfl rfl rfl (eo cw (k:=0) rfl bM) aI rfl a8) ?_
  rintro JY _ _ a w ⟨rfl,rfl⟩ ab U
  replace U:=rS U
  refine ⟨⟨aq,aq,aq,aq,.inr (U.ao al (e8)),.inr (U.ao al (e8)),.inr (U.ao al (e8)),trivial⟩,?_⟩
  refine aS 9 rfl ab (U.ao al (e8)) (bN rfl) fun a ab=>aS 10 rfl ab (U.ao al (e8)) (aZ qZ rfl rfl (s':=0) az) fun a ab=>bY 11 rfl rfl ab U rfl (dq cw 2 rfl rfl rfl (row_one (U.dp 3 rfl)) (by simp)) ?_
  rintro _ _ _ a w ⟨rfl,rfl,rfl⟩ ab U
  replace U:aB _ (_::_) (_::_::.blk _ _ ([_,_,_,_].set 0 _)::_::_) _:=U
  simp only [dd] at U
  replace U:=rS U
  refine ⟨⟨aq,aq,aq,aq,aq,aq,aq,aq,aq,trivial⟩,?_⟩
  exact ev az (lI Tn JY (trivial) (ab.sub (L':=[(6,_),(7,_)]) ⟨rfl,rfl,trivial⟩) U)
 rintro a w ⟨Tn,JY, -,ab,U⟩
 (try dsimp only at ab U)
 refine cq _ _<|bc fun et cB=>aG ab U (ai rfl<|ae (bV X8 rfl (fun w U=>ahi _ _ (by first | with_reducible assumption | omega) w (bo.mono (U.le (.inr (by simp))) oX) (U.ext _ _ dF)) bP)<|ah) fun a w ab U=>aJ ab U rfl (cJ di 1 rfl rfl rfl rfl aI bM aI) ?_
 rintro _ _ _ a w ⟨rfl,rfl,rfl⟩ ab U
 replace U:=rS U
 refine wpList_nil (cB _ _ ?_)
 refine wp_ret ?_
 replace U:=(U.perm nV).perm mX
 exact cY (rs:=[.cell 6 62]) rfl ab U (vs:=[_]) ⟨⟨_,_,_,_,_,_,_,rfl,List.mem_of_getElem? (i:=3) rfl,di,.inl ⟨rfl,aI,rfl⟩⟩,trivial⟩ [] [_,_] (c2) (fO.k.k) (vL ⟨JY,by rw [← aL.aeB],rfl,by rw [List.length_append,List.map_append];rfl⟩ rfl)
theorem aha(e:Nat)(sv v:Value)(ls:List bs.cS)(first:Nat)(sd:List bs.eG)(hl:ls.length<1048576)(aM:∀ x∈ls,x.1.length<1048576∧x.2.length<1048576)(jE:∀ d∈sd,d.length=16)(CH:first≤1048576)(ed:Nat×Nat)(eb:TypeId)(w0:World)(bU:List aR)(aw:bo jD (cf w0) v ls)(s6:bo (pH 16) (cf w0) sv sd)(dF:w0.heap[0]?=some (.cells (aL.eH.map cI).toArray eb ed))(f:Nat)(ih:∀ (lo aH:Int) (cv n:Nat) (tv:Value) (T:bs.jR) (u:Nat) (s:Bool) (bO:lo=cv) (fN:aH=cv+n) (lF:1≤n) (pP:n≤f) (qx:cv+n≤1048576) (Cx:T.length+2*n≤100000000) (CY:u+n≤100000000),e1 Tryz.prog 121 [.pointer (some ⟨e,0,none⟩),v,aA (first:Int),aA lo,aA aH] w0 bU [.blk e 153 [tv,sv,aA ((u:Nat):Int),jk (s)],.row tv 9 1 (T).length ((T).map vs)] (uk e sv (bs.ez first ls sd f n cv T u s)))(lo aH:Int)(cv n:Nat)(tv:Value)(T:bs.jR)(u:Nat)(s:Bool)(bO:lo=cv)(fN:aH=cv+n)(lF:1≤n)(pP:n≤f+1)(qx:cv+n≤1048576)(Cx:T.length+2*n≤100000000)(CY:u+n≤100000000):e1 Tryz.prog 121 [.pointer (some ⟨e,0,none⟩),v,aA (first:Int),aA lo,aA aH] w0 bU [.blk e 153 [tv,sv,aA ((u:Nat):Int),jk (s)],.row tv 9 1 (T).length ((T).map vs)] (uk e sv (bs.ez first ls sd (f+1) n cv T u s)):=by
 refine gk Tryz.func121 rfl Tryz.ntmps121 b4 fun cF a w ab U=>?_
 replace U:=gU U
 have c6:=aw.1
 have jh:=s6.1
 have On:sd.length≤140737488355328:=jh
 refine bc fun eJ c8=>aJ ab U rfl (dg di) ?_
 rintro _ _ _ a w ⟨ck,rfl,rfl,rfl⟩ ab U
 rw [show List.replicate 16 (Value.int .u8 0)=(List.replicate 16 (0:UInt8)).map bn from by rw [List.map_replicate] <;> rfl] at U
 refine wpList_nil (c8 _ _ ?_)
 refine ax fun cG bJ=>bc fun dX cq=>aG ab U (ai rfl<|ai rfl<|ae (xw rfl rfl)<|ai rfl<|ah) fun a w ab U=>gA 3 17 6 ab U rfl rfl rfl rfl rfl (fun aP=>have aP:=(by first | exact of_decide_eq_false aP | exact aP);aO 17 rfl rfl rfl (bE rfl)<|aO 17 rfl rfl rfl (bE rfl)<|aO 17 rfl rfl rfl (bE rfl)<|aO 17 rfl rfl rfl (ee nR aw rfl)<|aO 17 rfl rfl rfl (o4 rfl rfl ag)<|aO 17 rfl rfl rfl (ke rfl rfl)<|ah) rfl rfl fun a w ab U=>?_
 refine wpList_nil (cq _ _ ?_)
 refine df ab rfl (fun aU=>?_) (fun aU=>?_)
 ·(try simp only [dj] at aU)
  have cH:cv+n≤first∨first+ls.length≤cv:=by omega
  refine ax fun et cB=>iE mixed az ab U (ai rfl<|ae (bN rfl)<|ae (aZ qZ rfl rfl (s':=0) az)<|ae (bf bH 1 rfl rfl rfl rfl)<|ai rfl<|ae (bN rfl)<|ae (aZ qZ rfl rfl (s':=0) az)<|ae (bf Eh 1 rfl rfl rfl rfl)<|ae (ee Eh s6 rfl)<|ae (ke rfl rfl)<|ah) fun a w ab U=>cn ab rfl (fun bz=>?_) (fun bz=>?_)
  ·have ch:sd.length≤u:=by omega
   refine bc fun eN cK=>aG ab U (ai rfl<|ae (bN rfl)<|ae (aZ qZ rfl rfl (s':=0) az)<|ah) fun a w ab U=>aJ ab U rfl (dq fL 1 rfl rfl rfl rfl (by simp)) ?_
   rintro _ _ _ a w ⟨rfl,rfl,rfl⟩ ab U
   replace U:aB _ (_) (_::.blk _ _ ([_,_,_,_].set 3 _)::_::_) _:=U
   simp only [dd] at U
   replace U:=lK U
   refine wpList_nil (cK _ _ ?_)
   refine bc fun fa cT=>aG ab U (ae (qP rfl (vF di bI rfl))<|ah) fun a w ab U=>aJ ab U rfl (cJ di 0 rfl rfl rfl rfl aI bM aI) ?_
   rintro _ _ _ a w ⟨rfl,rfl,rfl⟩ ab U
   replace U:=lK U
   refine wpList_nil (cT _ _ ?_)
   refine wp_ret ?_
   replace U:=(U.perm (.swap _ _ _)).perm hN
   exact cY (rs:=[.cell 10 62]) rfl ab U (vs:=[_]) ⟨⟨_,_,_,_,_,_,_,rfl,List.mem_of_getElem? (i:=2) rfl,di,.inl ⟨rfl,aI,rfl⟩⟩,trivial⟩ [] [_,_] al (c2.k.k) (vL (σ:=(bs.dT,T,u,true)) ⟨tv,rfl,rfl,rfl⟩ (bs.RY cH ch))
  ·have ch:¬ sd.length≤u:=by omega
   have NZ:=jE (sd.getD u []) (bs.YT ag)
   have Ou:((u:Int)+1-1).toNat=u:=by omega
   have amh:(sd.getD ((u:Int)+1-1).toNat []).length=16:=by rw [Ou];exact NZ
   refine wp_skip<|cB _ _<|bc fun fk cP=>aG ab U (ai rfl<|ai rfl<|ae (bN rfl)<|ae (aZ qZ rfl rfl (s':=0) az)<|ae (bf bH 1 rfl rfl rfl rfl)<|b5 rfl rfl<|ae (bN rfl)<|ae (aZ qZ rfl rfl (s':=0) az)<|ah) fun a w ab U=>aJ ab U rfl (dq bH 1 rfl rfl rfl rfl (by simp)) ?_
   rintro _ _ _ a w ⟨rfl,rfl,rfl⟩ ab U
   replace U:aB _ (_) (_::.blk _ _ ([_,_,_,_].set 2 _)::_::_) _:=U
   simp only [dd] at U
   replace U:=lK U
   refine wpList_nil (cP _ _ ?_)
   refine ax fun gB du=>h2 11 mixed az ab U (ai rfl<|ae (bN rfl)<|ae (aZ qZ rfl rfl (s':=0) az)<|ae (bf Eh 1 rfl rfl rfl rfl)<|ai rfl<|ae (bN rfl)<|ae (aZ qZ rfl rfl (s':=0) az)<|ae (bf bH 1 rfl rfl rfl rfl)<|fy rfl rfl<|ae (dV Eh di s6 rfl rfl ag)<|ae (afD di s6 cM rfl rfl a8 ag)<|ah) fun a w ab U=>aJ ab U rfl (cJ di 0 rfl rfl rfl rfl aI bM aI) ?_
   rintro _ _ _ a w ⟨rfl,rfl,rfl⟩ ab U
   replace U:=lK U
   refine wpList_nil (du _ _ ?_)
   refine wp_ret ?_
   replace U:=(U.perm (.swap _ _ _)).perm hN
   exact cY (rs:=[.cell 10 62]) rfl ab U (vs:=[_]) ⟨⟨_,_,_,_,_,_,_,rfl,List.mem_of_getElem? (i:=2) rfl,di,.inl ⟨rfl,aI,rfl⟩⟩,trivial⟩ [] [_,_] al (c2.k.k) (vL (σ:=(sd.getD u [],T,u+1,s)) ⟨tv,by rw [Ou],rfl,rfl⟩ (bs.RZ cH ch))
 ·(try simp only [dj] at aU)
  have cH:¬ (cv+n≤first∨first+ls.length≤cv):=by omega
  refine wp_skip<|bJ _ _<|ax fun hU ef=>aD ab U (ai rfl<|ai rfl<|fy rfl rfl<|ae (gq rfl rfl)<|ah) fun a w ab U=>cn ab rfl (fun cl=>?_) (fun cl=>?_)
  ·have hle:(lo-(first:Int)).toNat=cv-first:=by omega
   have zD:n=1:=by omega
   have C0:=aM (ls.getD (lo-first).toNat dk) (bs.getD_in ag)
   have abd:=aL.o2 3 [(ls.getD (lo-first).toNat dk).1,(ls.getD (lo-first).toNat dk).2]
   refine ax fun iZ eY=>?_
   revert U;revert ab;apply hL (J:=jC (α0:=Value) (α1:=aR) (α2:=Value) 104 _ _ _ _ _) #[false,false,false,false,false,false,false,false,false,false,false,false,false,false,false,false,false,false] 18 mixed rfl rfl
   ·intro w ab U
    refine aS 0 rfl ab (U.ao al (eS)) (bE rfl) fun a ab=>aS 1 rfl ab (U.ao al (eS)) (bE rfl) fun a ab=>aS 2 rfl ab (U.ao al (eS)) (bE rfl) fun a ab=>aS 3 rfl ab (U.ao al (eS)) (bE rfl) fun a ab=>aS 4 rfl ab (U.ao al (eS)) (nN rfl rfl ag) fun a ab=>?_
    refine aS 5 rfl ab (U.ao al (eS)) (dV nR nm aw rfl rfl ag) fun a ab=>aS 6 rfl ab (U.ao al (eS)) (tw nm aw rfl ag rfl (s':=0) az) fun a ab=>aS 7 rfl ab (U.ao al (eS)) (xv bB aw cM rfl rfl ag) fun a ab=>aS 8 rfl ab (U.ao al (eS)) (bE rfl) fun a ab=>aS 9 rfl ab (U.ao al (eS)) (bE rfl) fun a ab=>?_
    refine aS 10 rfl ab (U.ao al (eS)) (bE rfl) fun a ab=>aS 11 rfl ab (U.ao al (eS)) (nN rfl rfl ag) fun a ab=>aS 12 rfl ab (U.ao al (eS)) (dV nR nm aw rfl rfl ag) fun a ab=>aS 13 rfl ab (U.ao al (eS)) (tw nm aw rfl ag rfl (s':=0) az) fun a ab=>aS 14 rfl ab (U.ao al (eS)) (QO bB aw cM rfl rfl ag) fun a ab=>?_
    refine bY 15 rfl rfl ab U rfl (eu cw bB rfl rfl bM a8 rfl rfl) ?_
    rintro Tv _ _ a w ⟨rfl,rfl⟩ ab U
    replace U:=fX U
    refine ⟨⟨aq,aq,.inr (U.ao al (e8)),.inr (U.ao al (e8)),.inr (U.ao al (e8)),.inr (U.ao al (e8)),.inr (U.ao al (e8)),aq,aq,.inr (U.ao al (e8)),.inr (U.ao al (e8)),.inr (U.ao al (e8)),.inr (U.ao al (e8)),.inr (U.ao al (e8)),.inr (U.ao al (e8)),trivial⟩,?_⟩
    refine fB [16] az rfl ⟨?_,trivial⟩
    obtain ⟨T1,HZ,U⟩:=aB.qo (h0:=fun _=>rfl) (f:=vs) (p:=fun s=>s.length≤140737488355328) (xs:=[(ls.getD (lo-first).toNat dk).1,(ls.getD (lo-first).toNat dk).2]) U (by first | rfl | (simp;done)) (by first | decide | omega | (simp;omega)) (bs.JM ag ag)
    replace U:=(U.perm (.swap _ _ _)).perm hN
    replace U:aB _ (_::_) (_::_::_::_) _:=U
    refine dW _ rfl rfl ab U rfl (sy 2 Ca rfl (by exact (Ed _ _ _ T u s _ _ [(ls.getD (lo-first).toNat dk).1,(ls.getD (lo-first).toNat dk).2] (bs.JN C0.1 C0.2) (by simp) ag _ _ _ _ _ HZ (.inr (by simp)) dF))) ?_
    rintro _ _ _ a w ⟨_,_,rfl,rfl,⟨Qk,rfl,rfl,rfl⟩⟩ ab U
    replace U:aB _ (_::_) (_::_::_::_) _:=U
    refine ⟨⟨aq,aq,.inr (U.ao (c2) (eS)),.inr (U.ao (c2) (eS)),.inr (U.ao (c2) (eS)),.inr (U.ao (c2) (eS)),.inr (U.ao (c2) (eS)),aq,aq,.inr (U.ao (c2) (eS)),.inr (U.ao (c2) (eS)),.inr (U.ao (c2) (eS)),.inr (U.ao (c2) (eS)),.inr (U.ao (c2) (eS)),aq,trivial⟩,?_⟩
    refine bY 17 rfl rfl ab U rfl (cJ di 2 rfl rfl rfl rfl aI bM aI) ?_
    rintro _ _ _ a w ⟨rfl,rfl,rfl⟩ ab U
    replace U:aB _ (_::_) (_::_::_::_) _:=U
    refine ⟨⟨aq,aq,aq,aq,aq,aq,aq,aq,aq,aq,aq,aq,aq,aq,aq,trivial⟩,?_⟩
    exact ev az (H8 Tv T1 Qk ((And.intro HZ trivial)) (ab.sub (L':=[(10,_)]) ⟨rfl,trivial⟩) U)
   rintro a w ⟨Tv,T1,Qk,⟨HZ, -⟩,ab,U⟩
   (try dsimp only at ab U)
   refine eY _ _<|wp_ret ?_
   exact cY (rs:=[.cell 10 62]) rfl ab U (vs:=[_]) ⟨⟨_,_,_,_,_,_,_,rfl,List.mem_of_getElem? (i:=2) rfl,di,.inl ⟨rfl,aI,rfl⟩⟩,trivial⟩ [] [_,_] (c2) (c2.k.k) (vL (σ:=(aL.ju 3 [(ls.getD (lo-first).toNat dk).1,(ls.getD (lo-first).toNat dk).2],T++[aL.hY 3 [(ls.getD (lo-first).toNat dk).1,(ls.getD (lo-first).toNat dk).2]],u,s)) ⟨_,rfl,rfl,rfl⟩ (by rw [bs.Jh cH zD,← hle];rfl))
  ·have pO:2≤n:=by omega
   have N6:=bs.wQ n
   have CJ:=bs.uP pO
   have CE:=bs.AM jE (lv:=ls) (first:=first) f (bs.half n) cv T u s N6 ag
   obtain ⟨CR,CT,HJ,_⟩:=CE
   refine wp_skip<|ef _ _<|aD ab U (ai rfl<|ai rfl<|ai rfl<|fy rfl rfl<|ae (bV XE rfl (fun w U=>Z2 _ n ag ag ag w ) bP)<|b5 rfl rfl<|av rfl<|ah) fun a w ab U=>bc fun kY gF=>aG ab U (ai rfl<|ai rfl<|ai rfl<|ai rfl<|ai rfl<|ah) fun a w ab U=>?_
   replace U:=(U.perm (.swap _ _ _)).perm hN
   replace U:=lK U
   refine aJ ab U rfl (sy 2 FZ rfl (by exact (ih _ _ cv (bs.half n) _ T u s  ag ag ag ag ag ag ag ))) ?_
   rintro _ _ _ a w ⟨_,_,rfl,rfl,⟨aiK,rfl,rfl,rfl⟩⟩ ab U
   replace U:=lK U
   refine aJ ab U rfl (dg di) ?_
   rintro _ _ _ a w ⟨k1,rfl,rfl,rfl⟩ ab U
   rw [show List.replicate 16 (Value.int .u8 0)=(List.replicate 16 (0:UInt8)).map bn from by rw [List.map_replicate] <;> rfl] at U
   refine aJ ab U rfl (cJ di 0 rfl rfl rfl rfl aI bM aI) ?_
   rintro _ _ _ a w ⟨rfl,rfl,rfl⟩ ab U
   replace U:=fX U
   refine wpList_nil ?_
   obtain ⟨cm,pQ⟩:∃ r,r=(bs.ez first ls sd f (bs.half n) cv T u s):=⟨_,rfl⟩
   rw [← pQ] at CR CT HJ U
   have aab:=bs.AM jE (lv:=ls) (first:=first) f (n-bs.half n) (cv+bs.half n) cm.2.1 cm.2.2.1 cm.2.2.2 ag ag
   obtain ⟨abD,abI,abM,_⟩:=aab
   refine gF _ _<|bc fun j5 fC=>aG ab U (ai rfl<|ai rfl<|ai rfl<|ai rfl<|ai rfl<|ah) fun a w ab U=>?_
   replace U:=(U.perm (.swap _ _ _)).perm hN
   replace U:=fX U
   refine aJ ab U rfl (sy 2 FZ rfl (by exact (ih _ _ (cv+bs.half n) (n-bs.half n) _ cm.2.1 cm.2.2.1 cm.2.2.2  ag ag ag ag ag ag ag ))) ?_
   rintro _ _ _ a w ⟨_,_,rfl,rfl,⟨aqe,rfl,rfl,rfl⟩⟩ ab U
   replace U:=fX U
   refine aJ ab U rfl (dg di) ?_
   rintro _ _ _ a w ⟨wg,rfl,rfl,rfl⟩ ab U
   rw [show List.replicate 16 (Value.int .u8 0)=(List.replicate 16 (0:UInt8)).map bn from by rw [List.map_replicate] <;> rfl] at U
   refine aJ ab U rfl (cJ di 0 rfl rfl rfl rfl aI bM aI) ?_
   rintro _ _ _ a w ⟨rfl,rfl,rfl⟩ ab U
   replace U:=iW U
   refine wpList_nil ?_
   obtain ⟨cR,CS⟩:∃ r,r=bs.ez first ls sd f (n-bs.half n) (cv+bs.half n) cm.2.1 cm.2.2.1 cm.2.2.2:=⟨_,rfl⟩
   rw [← CS] at abD abI abM U
   have abd:=aL.o2 4 [cm.1,cR.1]
   refine fC _ _<|ax fun mw hz=>?_
   revert U;revert ab;apply hL (J:=jC (α0:=Value) (α1:=aR) (α2:=Value) 104 _ _ _ _ _) #[false,false,false,false,false,false,false,false] 8 mixed rfl rfl
   ·intro w ab U
    refine aS 0 rfl ab (U.ao al (al.n.n.n.n.n)) (bE rfl) fun a ab=>aS 1 rfl ab (U.ao al (c2.k.n.n.n)) (gh di 0 rfl rfl aI rfl) fun a ab=>aS 3 rfl ab (U.ao al (e8.k)) (gh di 0 rfl rfl aI rfl) fun a ab=>bY 2 rfl rfl ab U rfl (eC (bV FY rfl (fun w U=>Jj _ (by first | with_reducible assumption | omega | (simp;omega)) w ) bP)) ?_
    rintro _ _ _ a w ⟨rfl,rfl,rfl⟩ ab U
    refine ⟨⟨.inr (U.ao al (e8.k)),aq,.inr (U.ao al (al.n.n.n.n.n)),trivial⟩,?_⟩
    refine bY 4 rfl rfl ab U rfl (eC (bV FY rfl (fun w U=>Jj _ (by first | with_reducible assumption | omega | (simp;omega)) w ) bP)) ?_
    rintro _ _ _ a w ⟨rfl,rfl,rfl⟩ ab U
    refine ⟨⟨aq,aq,.inr (U.ao al (al.n.n.n.n.n)),trivial⟩,?_⟩
    refine bY 5 rfl rfl ab U rfl (eu cw bB rfl rfl bM a8 rfl rfl) ?_
    rintro Th _ _ a w ⟨rfl,rfl⟩ ab U
    replace U:=l8 U
    refine ⟨⟨aq,aq,.inr (U.ao al (mf)),trivial⟩,?_⟩
    refine fB [6] az rfl ⟨?_,trivial⟩
    obtain ⟨T0,HY,U⟩:=aB.qo (h0:=fun _=>rfl) (f:=vs) (p:=fun s=>s.length≤140737488355328) (xs:=[cm.1,cR.1]) U (by first | rfl | (simp;done)) (by first | decide | omega | (simp;omega)) (bs.JM ag ag)
    replace U:=(U.perm (.swap _ _ _)).perm hN
    replace U:aB _ (_::_) (_::_::_::_::_::_) _:=U
    refine dW _ rfl rfl ab U rfl (sy 2 Ca rfl (by exact (Ed _ _ _ cR.2.1 cR.2.2.1 cR.2.2.2 _ _ [cm.1,cR.1] (bs.JN ag ag) (by simp) ag _ _ _ _ _ HY (.inr (by simp)) dF))) ?_
    rintro _ _ _ a w ⟨_,_,rfl,rfl,⟨Qj,rfl,rfl,rfl⟩⟩ ab U
    replace U:aB _ (_::_) (_::_::_::_::_::_) _:=U
    refine ⟨⟨aq,aq,aq,trivial⟩,?_⟩
    refine bY 7 rfl rfl ab U rfl (cJ di 4 rfl rfl rfl rfl aI bM aI) ?_
    rintro _ _ _ a w ⟨rfl,rfl,rfl⟩ ab U
    replace U:aB _ (_::_) (_::_::_::_::_::_) _:=U
    refine ⟨⟨aq,aq,aq,trivial⟩,?_⟩
    exact ev az (H8 Th T0 Qj ((And.intro HY trivial)) (ab.sub (L':=[(10,_)]) ⟨rfl,trivial⟩) U)
   rintro a w ⟨Th,T0,Qj,⟨HY, -⟩,ab,U⟩
   (try dsimp only at ab U)
   refine hz _ _<|wp_ret ?_
   exact cY (rs:=[.cell 10 62]) rfl ab U (vs:=[_]) ⟨⟨_,_,_,_,_,_,_,rfl,List.mem_of_getElem? (i:=4) rfl,di,.inl ⟨rfl,aI,rfl⟩⟩,trivial⟩ [] [_,_] (c2) (eS.k.k) (vL (σ:=(aL.ju 4 [cm.1,cR.1],cR.2.1++[aL.hY 4 [cm.1,cR.1]],cR.2.2.1,cR.2.2.2)) ⟨_,rfl,rfl,rfl⟩ (by rw [bs.Ji cH pO pQ CS];rfl))
theorem ag9(e:Nat)(sv v:Value)(ls:List bs.cS)(first:Nat)(sd:List bs.eG)(hl:ls.length<1048576)(aM:∀ x∈ls,x.1.length<1048576∧x.2.length<1048576)(jE:∀ d∈sd,d.length=16)(CH:first≤1048576)(ed:Nat×Nat)(eb:TypeId)(w0:World)(bU:List aR)(aw:bo jD (cf w0) v ls)(s6:bo (pH 16) (cf w0) sv sd)(dF:w0.heap[0]?=some (.cells (aL.eH.map cI).toArray eb ed)):∀ (f:Nat) (lo aH:Int) (cv n:Nat) (tv:Value) (T:bs.jR) (u:Nat) (s:Bool) (bO:lo=cv) (fN:aH=cv+n) (lF:1≤n) (pP:n≤f) (qx:cv+n≤1048576) (Cx:T.length+2*n≤100000000) (CY:u+n≤100000000),e1 Tryz.prog 121 [.pointer (some ⟨e,0,none⟩),v,aA (first:Int),aA lo,aA aH] w0 bU [.blk e 153 [tv,sv,aA ((u:Nat):Int),jk (s)],.row tv 9 1 (T).length ((T).map vs)] (uk e sv (bs.ez first ls sd f n cv T u s)):=by
 intro f
 induction f with
 | zero=>intro lo aH cv n tv T u s bO fN lF pP;omega
 | succ f ih=>exact fun lo aH cv n tv T u s bO fN lF pP qx Cx CY=>aha e sv v ls first sd hl aM jE CH ed eb w0 bU aw s6 dF f ih lo aH cv n tv T u s bO fN lF pP qx Cx CY
theorem aiJ(e:Nat)(sv tv v:Value)(ls:List bs.cS)(first:Nat)(sd:List bs.eG)(size:Int)(n:Nat)(hl:ls.length<1048576)(aM:∀ x∈ls,x.1.length<1048576∧x.2.length<1048576)(jE:∀ d∈sd,d.length=16)(CH:first≤1048576)(bD:size=n)(zE:n≤1048576)(ed:Nat×Nat)(eb:TypeId)(w0:World)(bU:List aR)(aw:bo jD (cf w0) v ls)(s6:bo (pH 16) (cf w0) sv sd)(dF:w0.heap[0]?=some (.cells (aL.eH.map cI).toArray eb ed)):e1 Tryz.prog 78 [.pointer (some ⟨e,0,none⟩),v,aA (first:Int),aA size] w0 bU [.blk e 153 [tv,sv,aA ((0:Nat):Int),jk (false)],.row tv 9 1 (([]:bs.jR)).length ((([]:bs.jR)).map vs)] (uk e sv (bs.qT first ls sd n)):=by
 refine gk Tryz.func78 rfl Tryz.ntmps78 b4 fun cF a w ab U=>?_
 replace U:=gU U
 have c6:=aw.1
 have oU:=aF.oo size
 have anp:=aL.o2 4 [aF.int size]
 refine bc fun eJ c8=>aJ ab U rfl (dg di) ?_
 rintro _ _ _ a w ⟨ck,rfl,rfl,rfl⟩ ab U
 rw [show List.replicate 16 (Value.int .u8 0)=(List.replicate 16 (0:UInt8)).map bn from by rw [List.map_replicate] <;> rfl] at U
 refine wpList_nil (c8 _ _ ?_)
 refine bc fun cG bJ=>aG ab U (ai rfl<|ah) fun a w ab U=>aJ ab U rfl (eT Cc rfl (fun w U=>DU _ ag w )) ?_
 rintro v2 _ _ a w ⟨_,_,rfl,rfl,rfl,rfl⟩ ab U
 replace U:=fX U
 refine aG ab U (ae (nf bX bB bI 0 rfl rfl)<|ah) fun a w ab U=>aJ ab U rfl (eu cw bB rfl rfl bM a8 rfl rfl) ?_
 rintro v4 _ _ a w ⟨rfl,rfl⟩ ab U
 replace U:=iW U
 refine aG ab U (av rfl<|ah) fun a w ab U=>wpList_nil (bJ _ _ ?_)
 refine ax fun dX cq=>aD ab U (ai rfl<|ae (fc rfl rfl)<|ah) fun a w ab U=>cn ab rfl (fun aU=>?_) (fun aU=>?_)
 ·have w3:¬ n=0:=by omega
  have CE:=bs.AM jE (lv:=ls) (first:=first) n n 0 [] 0 false ag (Nat.le_refl _)
  obtain ⟨CR,CT,HJ,_⟩:=CE
  rw [List.length_nil] at CT
  obtain ⟨cm,pQ⟩:∃ r,r=bs.ez first ls sd n n 0 [] 0 false:=⟨_,rfl⟩
  rw [← pQ] at CR CT HJ
  have anq:=aL.o2 4 [aF.int size,cm.1]
  refine dM<|aG ab U (ai rfl<|ai rfl<|ai rfl<|ai rfl<|ai rfl<|ah) fun a w ab U=>?_
  replace U:=(U.perm q2).perm ua
  replace U:=iW U
  refine aJ ab U rfl (sy 2 FZ rfl (by exact (ag9 _ sv _ _ first sd hl aM jE CH _ _ _ _ aw s6 dF n _ _ 0 n tv [] 0 false rfl ag ag (Nat.le_refl _) ag (by rw [List.length_nil];omega) ag ))) ?_
  rintro _ _ _ a w ⟨_,_,rfl,rfl,⟨aiK,rfl,rfl,rfl⟩⟩ ab U
  rw [← pQ] at ab U
  replace U:=iW U
  refine aG ab U (ae (bV FY rfl (fun w U=>Jj _ (by first | with_reducible assumption | omega | (simp;omega)) w ) bP)<|ah) fun a w ab U=>aJ ab U rfl (eu cw bB rfl rfl bM a8 rfl rfl) ?_
  rintro ns _ _ a w ⟨rfl,rfl⟩ ab U
  replace U:=l8 U
  refine aJ ab U rfl (dH cw bB 3 rfl rfl rfl (eo cw (k:=0) rfl bM) aI rfl a8) ?_
  rintro v9 _ _ a w ⟨rfl,rfl⟩ ab U
  replace U:=l8 U
  refine aG ab U (av rfl<|ah) fun a w ab U=>wpList_nil (cq _ _ ?_)
  refine bc fun dL b9=>aG ab U (ai rfl<|ai rfl<|ah) fun a w ab U=>?_
  replace U:=U.perm q2
  obtain ⟨ary,ab9,U⟩:=aB.qo (h0:=fun _=>rfl) (f:=vs) (p:=fun s=>s.length≤140737488355328) (xs:=[aF.int size,cm.1]) U (by first | rfl | (simp;done)) (by first | decide | omega | (simp;omega)) (bs.JM ag ag)
  replace U:=(U.perm (.swap _ _ _)).perm hN
  replace U:aB _ (_::_) (_::_::_::_::_::_) _:=U
  refine aJ ab U rfl (sy 2 Ca rfl (by exact (Ed _ sv _ _ cm.2.2.1 cm.2.2.2 _ _ [aF.int size,cm.1] (bs.JN ag ag) (by simp) (by first | omega | (simp;done)) _ _ _ _ _ ab9 (.inr (by simp)) dF))) ?_
  rintro _ _ _ a w ⟨_,_,rfl,rfl,⟨aow,rfl,rfl,rfl⟩⟩ ab U
  replace U:aB _ (_::_) (_::_::_::_::_::_) _:=U
  refine aJ ab U rfl (cJ di 4 rfl rfl rfl rfl aI bM aI) ?_
  rintro _ _ _ a w ⟨rfl,rfl,rfl⟩ ab U
  replace U:aB _ (_::_) (_::_::_::_::_::_) _:=U
  refine wpList_nil (b9 _ _ ?_)
  refine wp_ret<|cY (rs:=[.cell 8 62]) rfl ab U (vs:=[_]) ⟨⟨_,_,_,_,_,_,_,rfl,List.mem_of_getElem? (i:=4) rfl,di,.inl ⟨rfl,aI,rfl⟩⟩,trivial⟩ [] [_,_] (c2) (eS.k.k) (vL (σ:=(aL.ju 4 [aF.int size,cm.1],cm.2.1++[aL.hY 4 [aF.int size,cm.1]],cm.2.2.1,cm.2.2.2)) ⟨_,rfl,rfl,rfl⟩ (by rw [bs.ahf w3 pQ,bs.ag1 w3,bs.ag4 w3,← bD]))
 ·have w3:n=0:=by omega
  refine wp_skip<|cq _ _<|bc fun eN cK=>aG ab U (ai rfl<|ai rfl<|ah) fun a w ab U=>?_
  obtain ⟨arz,aca,U⟩:=aB.qo (h0:=fun _=>rfl) (f:=vs) (p:=fun s=>s.length≤140737488355328) (xs:=[aF.int size]) U (by first | rfl | (simp;done)) (by first | decide | omega | (simp;omega)) (by simp;omega)
  replace U:=(U.perm nV).perm mX
  replace U:=rS U
  refine aJ ab U rfl (sy 2 Ca rfl (by exact (Ed _ sv _ _ 0 false _ _ [aF.int size] (by simp;omega) (by simp) (by first | omega | (simp;done)) _ _ _ _ _ aca (.inr (by simp)) dF))) ?_
  rintro _ _ _ a w ⟨_,_,rfl,rfl,⟨aox,rfl,rfl,rfl⟩⟩ ab U
  replace U:=rS U
  refine aJ ab U rfl (cJ di 3 rfl rfl rfl rfl aI bM aI) ?_
  rintro _ _ _ a w ⟨rfl,rfl,rfl⟩ ab U
  replace U:=rS U
  refine wpList_nil (cK _ _ ?_)
  refine wp_ret<|cY (rs:=[.cell 8 62]) rfl ab U (vs:=[_]) ⟨⟨_,_,_,_,_,_,_,rfl,List.mem_of_getElem? (i:=3) rfl,di,.inl ⟨rfl,aI,rfl⟩⟩,trivial⟩ [] [_,_] (c2) (fO.k.k) (vL (σ:=(aL.ju 4 [aF.int size],[]++[aL.hY 4 [aF.int size]],0,false)) ⟨_,rfl,rfl,rfl⟩ (by rw [bs.ahe _ _ _ w3,bs.ag0,bs.ag3,bD,w3];rfl))
end
section
theorem X7:b1 Tryz.prog 78:=b6 Tryz.func78
theorem XQ:b1 Tryz.prog 183:=b6 Tryz.func183
attribute [local irreducible] aL.sum aL.qG aL.ju aF.int aF.ints aF.bytes aL.hY bs.half Lib.compareBytes
theorem ahg(v:Value)(ls:List bs.cS)(w:World)(aw:bo jD (cf w) v ls){ed:Nat×Nat}{eb:TypeId}(dF:w.heap[0]?=some (.cells (aL.eH.map cI).toArray eb ed)):cC Tryz.prog 158 [v] w (fun r _ _=>r=.tuple [.agg (((bs.mK ls).1).map bn).toArray,aA (bs.mK ls).2].toArray):=by
 refine c4 Tryz.func158 rfl Tryz.ntmps158 b4 fun a ab U=>?_
 have c6:=aw.1
 refine bc fun eJ c8=>aJ ab U rfl (dg di) ?_
 rintro _ _ _ a w ⟨ck,rfl,rfl,rfl⟩ ab U
 rw [show List.replicate 16 (Value.int .u8 0)=(List.replicate 16 (0:UInt8)).map bn from by rw [List.map_replicate] <;> rfl] at U
 refine aG ab U (av rfl<|ah) fun a w ab U=>wpList_nil (c8 _ _ ?_)
 refine aD ab U (ai rfl<|ae (bV XQ rfl (fun w U=>ahn _ _ w (bo.mono (U.le cM) aw)) bP)<|av rfl<|ah) fun a w ab U=>ax fun dX cq=>aD ab U (ai rfl<|ae (dS rfl rfl)<|ah) fun a w ab U=>e9 ab rfl (fun aU=>?_) (fun aU=>?_)
 ·refine ax fun dL b9=>dM ?_
  refine aG ab U (ae (qP rfl (vF di bI rfl))<|ai rfl<|ah) fun a w ab U=>aJ ab U rfl (cJ di 0 rfl rfl rfl rfl aI bM aI) ?_
  rintro _ _ _ a w ⟨rfl,rfl,rfl⟩ ab U
  replace U:=ft U
  refine aG ab U (av rfl<|ah) fun a w ab U=>wpList_nil (b9 _ _ ?_)
  refine wp_ret<|b0 (rs:=[.cell 2 62,.tmp 3]) rfl ab U (vs:=[_,_]) ⟨⟨_,_,_,_,_,_,_,rfl,List.mem_of_getElem? (i:=0) rfl,di,.inl ⟨rfl,aI,rfl⟩⟩,rfl,trivial⟩ ay ay (by rw [bs.Jd (by simpa using aU)];rfl)
 ·have w7:bs.jK ls=0:=by simpa using aU
  have HU:=bs.Td w7
  have zS:∀ x∈ls,x.1.length<1048576∧x.2.length<1048576:=fun x aM=>by have:=HU.2.2 x aM;omega
  have CR:(bs.qT 0 ls [] ls.length).1.length=16:=by rw [bs.RX];exact bs.DX _ _
  refine wp_skip<|cq _ _<|bc fun eN cK=>aG ab U (ae (hJ (places:=[(0,1),(1,1),(2,1),(3,1)]) (cells:=[.slice none 0 0,.slice none 0 0,.int .i64 0,.bool false]) qZ az rfl (by rfl))<|ah) fun a w ab U=>aJ ab U rfl (jV rfl) ?_
  rintro _ _ _ a w ⟨dD,rfl,rfl,rfl⟩ ab U
  refine aG ab U (av rfl<|ah) fun a w ab U=>wpList_nil ?_
  replace U:=U.iC 9 1
  refine cK _ _<|bc fun fa cT=>aG ab U (ai rfl<|ai rfl<|ai rfl<|ae (ee nR aw rfl)<|ah) fun a w ab U=>?_
  replace U:=U.perm (.swap _ _ _)
  replace U:=eU U
  refine aJ ab U rfl (sy 2 X7 rfl (by exact (aiJ _ (.slice none 0 0) (.slice none 0 0) v ls 0 [] _ ls.length ag zS (fun _ h=>by cases h) ag rfl ag _ _ _ _ aw ahZ dF ))) ?_
  rintro _ _ _ a w ⟨_,_,rfl,rfl,⟨aoy,rfl,rfl,rfl⟩⟩ ab U
  replace U:=eU U
  refine aJ ab U rfl (cJ di 2 rfl rfl rfl rfl aI bM aI) ?_
  rintro _ _ _ a w ⟨rfl,rfl,rfl⟩ ab U
  replace U:=eU U
  refine aG ab U (av rfl<|ah) fun a w ab U=>wpList_nil (cT _ _ ?_)
  refine wp_ret<|b0 (rs:=[.cell 2 62,.tmp 3]) rfl ab U (vs:=[_,_]) ⟨⟨_,_,_,_,_,_,_,rfl,List.mem_of_getElem? (i:=2) rfl,di,.inl ⟨rfl,aI,rfl⟩⟩,rfl,trivial⟩ ay ay (by rw [bs.DY w7,← bs.RX ls []])
end
section
attribute [local irreducible] aL.sum aL.qG aL.ju aF.int aF.ints aF.bytes aL.hY bs.half Lib.compareBytes bs.kn
end
section
attribute [local irreducible] aL.sum aL.qG aL.ju aF.int aF.ints aF.bytes aL.hY bs.half Lib.compareBytes bs.kn bs.kx
/-- A proof whose leaves are copied. -/
def aku(q:bs.iS)(sv:Value):Value→List aR→List aC→Prop:=fun r zs hs=>∃ lv z,r=.agg [aA q.fst,aA q.ht,lv,sv].toArray∧bo jD z lv q.lv∧zs=[z]∧hs=[]
end
section
theorem M8:b1 Tryz.prog 74:=b6 Tryz.func74
attribute [local irreducible] au.ek au.keys Op.bytesLess au.kO
theorem RN(v:Value)(l:List au.bK)(tick:Int)(hl:l.length<1048576)(w:World)(aw:bo Go.aK.hW (cf w) v l):cC Tryz.prog 74 [v,aA tick] w (fun v zs hs=>zs=[]∧hs=[.row v 9 1 (au.keys l tick).length ((au.keys l tick).map vs)]):=by
 refine c4 Tryz.func74 rfl Tryz.ntmps74 b4 fun a ab U=>?_
 have c6:=aw.1
 refine aD ab U (av rfl<|ah) fun a w ab U=>ax fun cG bJ=>bx ab U (av rfl<|ah) fun a w ab U=>?_
 replace U:=U.iC 9 1
 refine bJ _ _<|ax fun dX cq=>aD ab U (av rfl<|ah) fun a w ab U=>wp_block ?_
 obtain ⟨bG,a6,U⟩:=U.c1
 refine dy (γ:=Value×Nat) ((Value.slice none 0 0),0) (fun (u,i)=>[(5,u),(6,aA (i:Int))]) [(0,_),(1,_)] (fun (u,i)=>(bG.set 0 (.row u 9 1 (au.keys (l.take i) tick).length ((au.keys (l.take i) tick).map vs)))) (fun (u,i)=>i≤l.length) (fun (u,i)=>l.length-i) (ab.sub ⟨rfl,rfl,rfl,rfl,trivial⟩) (by subst a6;dsimp only;rw [au.acN];exact U) (by exact Nat.zero_le _) ?_
 rintro ⟨u,i⟩ a w bh ab U
 subst a6;(try dsimp only at bh ab U)
 have eL:=bh
 replace U:=ft U
 have oW:=au.C9 (l.take i) tick
 rw [List.length_take] at oW
 refine ax fun dL b9=>aD ab U (ai rfl<|ai rfl<|ae (ee dh aw rfl)<|ae (cU rfl rfl)<|ah) fun a w ab U=>cn ab rfl (fun aU=>?_) (fun aU=>?_)
 ·refine wp_skip<|b9 _ _<|ax fun fa cT=>wp_block ?_
  refine ax fun fk cP=>aD ab U (ai rfl<|ai rfl<|ae (dV dh b2 aw rfl rfl ag)<|ae (qR b2 aw rfl ag rfl (s':=0) az)<|ae (Ao bH aw cM rfl rfl ag)<|ai rfl<|ae (fc rfl rfl)<|ah) fun a w ab U=>cn ab rfl (fun bz=>?_) (fun bz=>?_)
  ·refine wp_exit<|cT _ _<|bx ab U (ai rfl<|b5 rfl rfl<|av rfl<|ah) fun a w ab U=>⟨(u,i+1),?_,?_,ab.sub ⟨rfl,rfl,rfl,rfl,trivial⟩,?_⟩
   ·(try dsimp only);omega
   ·omega
   ·dsimp only;rw [au.acO (l:=l) (i:=i) ag bz];exact U
  ·refine wp_skip<|cP _ _<|aD ab U (av rfl<|ah) fun a w ab U=>ax fun ho dK=>wp_block ?_
   obtain ⟨bG,a6,U⟩:=U.c1
   refine dy (γ:=Nat) (0) (fun (k:Nat)=>[(7,aA (k:Int))]) [(0,_),(1,_),(5,_),(6,_)] (fun (k:Nat)=>bG) (fun (k:Nat)=>k≤(au.keys (l.take i) tick).length∧∀ j,j<k→(au.keys (l.take i) tick).getD j [] < (l.getD (i:Int).toNat au.f0).ky) (fun (k:Nat)=>(au.keys (l.take i) tick).length-k) (ab.sub ⟨rfl,rfl,rfl,rfl,rfl,trivial⟩) (by subst a6;exact U) (by exact ⟨Nat.zero_le _,fun j aV=>absurd aV (Nat.not_lt_zero _)⟩) ?_
   rintro k a w bh ab U
   subst a6;(try dsimp only at bh ab U)
   obtain ⟨oV,fF⟩:=bh
   replace U:=ft U
   refine ax fun iZ eY=>ax fun iR eO=>AI mixed az U ?_
   refine jL ab (ai rfl<|ai rfl<|ae (hA cw 0 rfl rfl)<|ae (cU rfl rfl)<|ai rfl<|ah) fun a ab=>Kb 4 25 10 ab rfl rfl rfl rfl rfl (fun aP=>have aP:=(by first | exact of_decide_eq_true aP | exact aP);aO 25 rfl rfl rfl (bE rfl)<|aO 25 rfl rfl rfl (bE rfl)<|aO 25 rfl rfl rfl (fY cw bB 0 rfl rfl rfl ag)<|aO 25 rfl rfl rfl (ma (f:=vs) (xs:=(au.keys (l.take i) tick)) bB 0 [] rfl rfl ag rfl)<|aO 25 rfl rfl rfl (bE rfl)<|aO 25 rfl rfl rfl (bE rfl)<|aO 25 rfl rfl rfl (dV dh b2 aw rfl rfl ag)<|aO 25 rfl rfl rfl (qR b2 aw rfl ag rfl (s':=0) az)<|aO 25 rfl rfl rfl (DJ bB aw cM rfl rfl ag)<|aO 25 rfl rfl rfl (afW rfl rfl)<|ah) rfl rfl fun a ab=>?_
   refine Bh ?_
   clear U;intro w U
   refine eO _ _<|df ab rfl (fun cl=>?_) (fun cl=>?_)
   ·(try simp only [dj] at cl)
    refine wp_skip<|eY _ _<|wp_block ?_
    refine bx ab U (ai rfl<|b5 rfl rfl<|av rfl<|ah) fun a w ab U=>⟨(k+1),?_,?_,ab.sub ⟨rfl,rfl,rfl,rfl,rfl,trivial⟩,?_⟩
    ·(try dsimp only);omega
    ·exact ⟨by omega,au.U9 fF cl.2⟩
    ·exact U
   ·(try simp only [dj] at cl)
    refine wp_exit<|dK _ _<|ax fun kY gF=>AI mixed az U ?_
    refine jL ab (ai rfl<|ai rfl<|ae (hA cw 0 rfl rfl)<|ae (gq rfl rfl)<|ai rfl<|ah) fun a ab=>Bi 4 43 10 ab rfl rfl rfl rfl rfl (fun aP=>have aP:=(by first | exact of_decide_eq_false aP | exact aP);aO 43 rfl rfl rfl (bE rfl)<|aO 43 rfl rfl rfl (bE rfl)<|aO 43 rfl rfl rfl (fY cw bB 0 rfl rfl rfl ag)<|aO 43 rfl rfl rfl (ma (f:=vs) (xs:=(au.keys (l.take i) tick)) bB 0 [] rfl rfl ag rfl)<|aO 43 rfl rfl rfl (bE rfl)<|aO 43 rfl rfl rfl (bE rfl)<|aO 43 rfl rfl rfl (dV dh b2 aw rfl rfl ag)<|aO 43 rfl rfl rfl (qR b2 aw rfl ag rfl (s':=0) az)<|aO 43 rfl rfl rfl (DJ bB aw cM rfl rfl ag)<|aO 43 rfl rfl rfl (rY rfl rfl)<|ah) rfl rfl fun a ab=>?_
    refine Bh ?_
    clear U;intro w U
    refine gF _ _<|df ab rfl (fun dI=>?_) (fun dI=>?_)
    ·(try simp only [dj] at dI)
     revert U;revert ab;apply hL (J:=yn (α0:=Value) (α1:=Value) (α2:=Value) (α3:=Value) (α4:=Value) 72 _ _ _ _ _) #[false,false,false,false,false,false,false,false,false,false,false,false,false,false,false,false,false] 17 mixed rfl rfl
     ·intro w ab U
      refine aS 1 rfl ab (U.ao al ay) (bE rfl) fun a ab=>aS 2 rfl ab (U.ao al ay) (bE rfl) fun a ab=>aS 3 rfl ab (U.ao al al) (af9 cw bB 0 rfl rfl rfl ag) fun a ab=>aS 5 rfl ab (U.ao al ay) (bE rfl) fun a ab=>aS 6 rfl ab (U.ao al ay) (bE rfl) fun a ab=>?_
      refine aS 7 rfl ab (U.ao al ay) (dV dh b2 aw rfl rfl ag) fun a ab=>aS 8 rfl ab (U.ao al ay) (qR b2 aw rfl ag rfl (s':=0) az) fun a ab=>aS 9 rfl ab (U.ao al ay) (DJ bB aw cM rfl rfl ag) fun a ab=>aS 12 rfl ab (U.ao al ay) (bE rfl) fun a ab=>aS 13 rfl ab (U.ao al ay) (bE rfl) fun a ab=>?_
      refine aS 14 rfl ab (U.ao al al) (aga cw bB 0 rfl rfl rfl ag) fun a ab=>fB [0,10] az rfl ⟨?_,?_,trivial⟩
      ·refine dW _ rfl rfl ab U rfl (sx cw bB) ?_
       rintro A3 _ _ a w ⟨rfl,rfl⟩ ab U
       refine ⟨⟨.inr (U.ew (c2)),.inr U.ax,.inr U.ax,.inr U.ax,.inr U.ax,.inr U.ax,.inr U.ax,.inr U.ax,.inr (U.ew (c2)),.inr U.ax,.inr U.ax,trivial⟩,?_⟩
       refine fB [4,10] az rfl ⟨?_,?_,trivial⟩
       ·refine dW _ rfl rfl ab U rfl (dH cw bB 0 rfl rfl rfl (xT cw (q:=1) rfl bM ag) aI rfl a8) ?_
        rintro x4 _ _ a w ⟨rfl,rfl⟩ ab U
        refine ⟨⟨.inr (U.ew (c2)),.inr U.ax,.inr U.ax,.inr U.ax,.inr U.ax,.inr U.ax,.inr U.ax,.inr U.ax,aq,aq,aq,trivial⟩,?_⟩
        refine bY 10 rfl rfl ab U rfl (eu cw bB rfl rfl bM a8 rfl rfl) ?_
        rintro x2 _ _ a w ⟨rfl,rfl⟩ ab U
        refine ⟨⟨.inr (U.ew (fO)),.inr U.ax,.inr U.ax,aq,aq,.inr U.ax,.inr U.ax,.inr U.ax,aq,aq,aq,trivial⟩,?_⟩
        refine bY 11 rfl rfl ab U rfl (dH cw bB 1 rfl rfl rfl (eo cw (k:=0) rfl bM) aI rfl a8) ?_
        rintro x3 _ _ a w ⟨rfl,rfl⟩ ab U
        refine ⟨⟨.inr (U.ew (fO)),.inr U.ax,.inr U.ax,aq,aq,.inr U.ax,.inr U.ax,.inr U.ax,aq,aq,aq,trivial⟩,?_⟩
        refine bY 15 rfl rfl ab U rfl (dH cw bB 1 rfl rfl rfl (xT cw (q:=2) rfl bM ag) aI rfl a8) ?_
        rintro vP _ _ a w ⟨rfl,rfl⟩ ab U
        refine ⟨⟨aq,aq,aq,aq,aq,.inr U.ax,.inr U.ax,.inr U.ax,aq,aq,aq,trivial⟩,?_⟩
        refine aS 16 rfl ab (U.ao al ay) (kS rfl) fun a ab=>ev az (xc A3 x4 x2 x3 vP (trivial) (ab.sub (L':=[(0,_),(1,_),(5,_),(6,_)]) ⟨rfl,rfl,rfl,rfl,trivial⟩) U)
       ·refine dW _ rfl rfl ab U rfl (eu cw bB rfl rfl bM a8 rfl rfl) ?_
        rintro x2 _ _ a w ⟨rfl,rfl⟩ ab U
        refine ⟨⟨.inr (U.ew (fO)),.inr U.ax,.inr U.ax,aq,aq,.inr U.ax,.inr U.ax,.inr U.ax,.inr (U.ew (fO)),.inr U.ax,.inr U.ax,trivial⟩,?_⟩
        refine bY 4 rfl rfl ab U rfl (dH cw bB 1 rfl rfl rfl (xT cw (q:=2) rfl bM ag) aI rfl a8) ?_
        rintro x4 _ _ a w ⟨rfl,rfl⟩ ab U
        refine ⟨⟨.inr (U.ew (fO)),.inr U.ax,.inr U.ax,aq,aq,.inr U.ax,.inr U.ax,.inr U.ax,aq,aq,aq,trivial⟩,?_⟩
        refine bY 11 rfl rfl ab U rfl (dH cw bB 1 rfl rfl rfl (eo cw (k:=0) rfl bM) aI rfl a8) ?_
        rintro x3 _ _ a w ⟨rfl,rfl⟩ ab U
        refine ⟨⟨.inr (U.ew (fO)),.inr U.ax,.inr U.ax,aq,aq,.inr U.ax,.inr U.ax,.inr U.ax,aq,aq,aq,trivial⟩,?_⟩
        refine bY 15 rfl rfl ab U rfl (dH cw bB 1 rfl rfl rfl (xT cw (q:=2) rfl bM ag) aI rfl a8) ?_
        rintro vP _ _ a w ⟨rfl,rfl⟩ ab U
        refine ⟨⟨aq,aq,aq,aq,aq,.inr U.ax,.inr U.ax,.inr U.ax,aq,aq,aq,trivial⟩,?_⟩
        refine aS 16 rfl ab (U.ao al ay) (kS rfl) fun a ab=>ev az (xc A3 x4 x2 x3 vP (trivial) (ab.sub (L':=[(0,_),(1,_),(5,_),(6,_)]) ⟨rfl,rfl,rfl,rfl,trivial⟩) U)
      ·refine dW _ rfl rfl ab U rfl (eu cw bB rfl rfl bM a8 rfl rfl) ?_
       rintro x2 _ _ a w ⟨rfl,rfl⟩ ab U
       refine ⟨⟨.inr (U.ew (c2)),.inr U.ax,.inr U.ax,aq,aq,.inr U.ax,.inr U.ax,.inr U.ax,.inr (U.ew (c2)),.inr U.ax,.inr U.ax,trivial⟩,?_⟩
       refine bY 0 rfl rfl ab U rfl (sx cw bB) ?_
       rintro A3 _ _ a w ⟨rfl,rfl⟩ ab U
       refine ⟨⟨.inr (U.ew (fO)),.inr U.ax,.inr U.ax,aq,aq,.inr U.ax,.inr U.ax,.inr U.ax,.inr (U.ew (fO)),.inr U.ax,.inr U.ax,trivial⟩,?_⟩
       refine bY 4 rfl rfl ab U rfl (dH cw bB 0 rfl rfl rfl (xT cw (q:=2) rfl bM ag) aI rfl a8) ?_
       rintro x4 _ _ a w ⟨rfl,rfl⟩ ab U
       refine ⟨⟨.inr (U.ew (fO)),.inr U.ax,.inr U.ax,aq,aq,.inr U.ax,.inr U.ax,.inr U.ax,aq,aq,aq,trivial⟩,?_⟩
       refine bY 11 rfl rfl ab U rfl (dH cw bB 0 rfl rfl rfl (eo cw (k:=1) rfl bM) aI rfl a8) ?_
       rintro x3 _ _ a w ⟨rfl,rfl⟩ ab U
       refine ⟨⟨.inr (U.ew (fO)),.inr U.ax,.inr U.ax,aq,aq,.inr U.ax,.inr U.ax,.inr U.ax,aq,aq,aq,trivial⟩,?_⟩
       refine bY 15 rfl rfl ab U rfl (dH cw bB 0 rfl rfl rfl (xT cw (q:=2) rfl bM ag) aI rfl a8) ?_
       rintro vP _ _ a w ⟨rfl,rfl⟩ ab U
       refine ⟨⟨aq,aq,aq,aq,aq,.inr U.ax,.inr U.ax,.inr U.ax,aq,aq,aq,trivial⟩,?_⟩
       refine aS 16 rfl ab (U.ao al ay) (kS rfl) fun a ab=>ev az (xc A3 x4 x2 x3 vP (trivial) (ab.sub (L':=[(0,_),(1,_),(5,_),(6,_)]) ⟨rfl,rfl,rfl,rfl,trivial⟩) (U.perm (.swap _ _ _)))
     rintro a w ⟨A3,x4,x2,x3,vP, -,ab,U⟩
     (try dsimp only at ab U)
     replace U:=eU U
     rw [au.aci,au.acj _ (l.getD (i:Int).toNat au.f0).ky oV] at U
     replace U:=U.perm hN
     replace U:=eU U
     refine cT _ _<|bx ab U (ai rfl<|b5 rfl rfl<|av rfl<|ah) fun a w ab U=>?_
     replace U:=U.ao ay (fO)
     refine ⟨(vP,i+1),?_,?_,ab.sub ⟨rfl,rfl,rfl,rfl,trivial⟩,?_⟩
     ·(try dsimp only);omega
     ·omega
     ·dsimp only;rw [au.O5 (l:=l) (i:=i) ag ag,au.acR oV fF cl dI];exact U
    ·(try simp only [dj] at dI)
     refine wp_skip<|cT _ _<|bx ab U (ai rfl<|b5 rfl rfl<|av rfl<|ah) fun a w ab U=>⟨(u,i+1),?_,?_,ab.sub ⟨rfl,rfl,rfl,rfl,trivial⟩,?_⟩
     ·(try dsimp only);omega
     ·omega
     ·dsimp only;rw [au.O5 (l:=l) (i:=i) ag ag,au.acS oV fF dI];exact U
 ·obtain rfl:i=l.length:=by omega
  rw [List.take_length] at U
  refine wp_exit<|cq _ _<|aD ab U (ai rfl<|av rfl<|ah) fun a w ab U=>wp_ret ?_
  exact b0 (rs:=[.tmp 4]) rfl ab U (vs:=[_]) ⟨rfl,trivial⟩ ay al ⟨rfl,rfl⟩
theorem agX(v:Value)(l:List au.bK)(tick:Int)(hl:l.length<1048576)(w:World)(aw:bo Go.aK.hW (cf w) v l):cC Tryz.prog 39 [v,aA tick] w (UH jD (au.iB l tick)):=by
 refine c4 Tryz.func39 rfl Tryz.ntmps39 b4 fun a ab U=>?_
 have c6:=aw.1
 have oW:=au.C9 l tick
 have HV:=au.th l tick
 have Hz:=au.Pv (yC aw) tick
 refine aD ab U (av rfl<|ah) fun a w ab U=>ax fun cG bJ=>bx ab U (av rfl<|ah) fun a w ab U=>?_
 replace U:=U.iC 147 2
 refine bJ _ _<|bc fun dX cq=>aG ab U (ai rfl<|ai rfl<|ah) fun a w ab U=>aJ ab U rfl (eT M8 rfl (fun w U=>RN _ _ _ ag w (bo.mono (U.le cM) aw))) ?_
 rintro v2 _ _ a w ⟨_,_,rfl,rfl,⟨rfl,rfl⟩⟩ ab U
 replace U:=e7 U
 refine aG ab U (av rfl<|ah) fun a w ab U=>wpList_nil (cq _ _ ?_)
 refine ax fun et cB=>aD ab U (av rfl<|ah) fun a w ab U=>wp_block ?_
 obtain ⟨bG,a6,U⟩:=U.c1
 refine dy (γ:=Value×Nat) ((Value.slice none 0 0),0) (fun (u,j)=>[(5,u),(7,aA (j:Int))]) [(0,_),(1,_),(6,_)] (fun (u,j)=>(bG.set 1 (.row u 147 2 j (((au.iB l tick).take j).flatMap qD)))) (fun (u,j)=>j≤(au.keys l tick).length) (fun (u,j)=>(au.keys l tick).length-j) (ab.sub ⟨rfl,rfl,rfl,rfl,rfl,trivial⟩) (by subst a6;exact U) (by exact Nat.zero_le _) ?_
 rintro ⟨u,j⟩ a w bh ab U
 subst a6;(try dsimp only at bh ab U)
 have sX:=bh
 replace U:=e7 U
 refine ax fun eN cK=>aD ab U (ai rfl<|ai rfl<|ae (hA cw 0 rfl rfl)<|ae (cU rfl rfl)<|ah) fun a w ab U=>cn ab rfl (fun aU=>?_) (fun aU=>?_)
 ·refine wp_skip<|cK _ _<|ax fun fk cP=>wp_block ?_
  refine aD ab U (ai rfl<|ai rfl<|ai rfl<|ai rfl<|ae (fY cw bB 0 rfl rfl rfl ag)<|ae (ma (f:=vs) (xs:=(au.keys l tick)) bB 0 [] rfl rfl ag rfl)<|ae (bV MN rfl (fun w U=>RO _ _ _ _ w (bo.mono (U.le cM) aw)) bP)<|ai rfl<|ae (cQ rfl rfl)<|ae (cQ rfl rfl)<|av rfl<|av rfl<|ah) fun a w ab U=>dM ?_
  refine aG ab U (ai rfl<|ai rfl<|ai rfl<|ae (fY cw bB 0 rfl rfl rfl ag)<|ae (ma (f:=vs) (xs:=(au.keys l tick)) bB 0 [] rfl rfl ag rfl)<|ai rfl<|ae (ow nm 2 az rfl rfl (bp rfl (bp rfl dO)) rfl rfl)<|ah) fun a w ab U=>aJ ab U rfl (oN nR nm rfl aI a8 bM a8 a8) ?_
  rintro v4 _ _ a w ⟨rfl,rfl⟩ ab U
  replace U:=eU U
  refine aJ ab U rfl (dH nR nm 2 rfl rfl rfl (eo nR (k:=0) rfl bM) aI rfl a8) ?_
  rintro v6 _ _ a w ⟨rfl,rfl⟩ ab U
  replace U:=eU U
  refine aG ab U (av rfl<|ah) fun a w ab U=>wpList_nil (cP _ _ ?_)
  refine bx ab U (ai rfl<|b5 rfl rfl<|av rfl<|ah) fun a w ab U=>?_
  replace U:=U.ao ay (c2)
  refine ⟨(v6,j+1),?_,?_,ab.sub ⟨rfl,rfl,rfl,rfl,rfl,trivial⟩,?_⟩
  ·(try dsimp only);omega
  ·omega
  ·rw [au.Pw ag] at U
   exact U
 ·obtain rfl:j=(au.keys l tick).length:=by omega
  rw [← au.th,List.take_length] at U
  refine wp_exit<|cB _ _<|aD ab U (ai rfl<|av rfl<|ah) fun a w ab U=>wp_ret ?_
  replace U:=U.perm (.swap _ _ _)
  obtain ⟨zr,H2,U⟩:=aB.Yv (xs:=au.iB l tick) (U.DZ (m':=List.length (au.iB l tick)) (cs':=List.flatMap qD (au.iB l tick)) (rfl) (rfl)) rfl ag (Hz)
  exact b0 (rs:=[.tmp 4]) rfl ab U (vs:=[_]) ⟨rfl,trivial⟩ (zs':=[zr]) (hs':=[]) (List.singleton_sublist.2 (by simp)) ay ⟨zr,H2,rfl,rfl⟩
end
section
theorem XW:b1 Tryz.prog 39:=b6 Tryz.func39
attribute [local irreducible] aF.int aF.bytes aF.getInt aF.dZ aL.sum aj.fb aj.aT aj.c0 aj.a7 aj.c3 aj.gi aj.app aj.bW au.dec au.enc ak.new au.add au.taken cN.fl au.ek au.keys bs.mK bs.V0 au.iB
end
section
theorem kh : ba Tryz.prog 93 (.struct #[⟨ "D", 90, 0, false, "", "", 0⟩, ⟨ "J", 91, 1, false, "", "", 8⟩, ⟨ "L", 26, 2, false, "", "", 16⟩, ⟨ "Lucky", 4, 3, false, "", "", 40⟩]) 4 48 (.agg ([Value.pointer none, Value.pointer none] ++ [Value.slice none 0 0] ++ [Value.bool false]).toArray) := ⟨Tryz.underlying93, by kernel_rfl⟩
theorem Xv:b1 Tryz.prog 139:=b6 Tryz.func139
theorem Xw:b1 Tryz.prog 140:=b6 Tryz.func140
attribute [local irreducible] aF.int aF.bytes aF.getInt aF.dZ aL.sum aj.fb aj.aT aj.c0 aj.a7 aj.c3 aj.gi aj.app aj.bW au.dec au.enc
abbrev pr(ml bd b:Nat)(fv:Value)(lk:Bool):aC:=.blk ml 93 [.pointer (some ⟨bd,0,none⟩),.pointer (some ⟨b,0,none⟩),fv,.bool lk]
theorem ahj(v:Value)(l:List (List UInt8))(rN:∀ x∈l,x.length≤8064)(w:World)(aw:bo Go.aK.encS (cf w) v l):cC Tryz.prog 140 [v] w (fun r zs hs=>zs=[]∧hs=[.row r 24 3 (au.taken l).length ((au.taken l).flatMap au.je)]):=by
 refine c4 Tryz.func140 rfl Tryz.ntmps140 b4 fun a ab U=>?_
 have c6:=aw.1
 refine aD ab U (av rfl<|ah) fun a w ab U=>ax fun cG bJ=>bx ab U (av rfl<|ah) fun a w ab U=>?_
 replace U:=U.iC 24 3
 refine bJ _ _<|aD ab U (av rfl<|ah) fun a w ab U=>ax fun et cB=>aD ab U (av rfl<|ah) fun a w ab U=>wp_block ?_
 obtain ⟨bG,a6,U⟩:=U.c1
 refine dy (γ:=Value×Nat) ((Value.slice none 0 0),0) (fun (u,i)=>[(3,u),(4,aA (au.eX l i).2),(5,aA (i:Int))]) [(0,_)] (fun (u,i)=>(bG.set 0 (.row u 24 3 (au.eX l i).1.length ((au.eX l i).1.flatMap au.je)))) (fun (u,i)=>i≤l.length) (fun (u,i)=>l.length-i) (ab.sub ⟨rfl,rfl,rfl,rfl,trivial⟩) (by subst a6;exact U) (by exact Nat.zero_le _) ?_
 rintro ⟨u,i⟩ a w bh ab U
 subst a6;(try dsimp only at bh ab U)
 have eL:=bh
 replace U:=ft U
 have CX:=au.SJ l eL
 refine ax fun eN cK=>aD ab U (ai rfl<|ai rfl<|ae (ee cw aw rfl)<|ae (cU rfl rfl)<|ah) fun a w ab U=>cn ab rfl (fun aU=>?_) (fun aU=>?_)
 ·have ab2:(l.getD (i:Int).toNat []).length≤8064:=by rw [Int.toNat_natCast];exact rN _ (aL.jm l i ag)
  refine wp_skip<|cK _ _<|ax fun fk cP=>wp_block ?_
  refine bc fun gB du=>aG ab U (ai rfl<|ai rfl<|ae (dV cw bB aw rfl rfl ag)<|ae (tA bB aw cM rfl rfl ag)<|ah) fun a w ab U=>aJ ab U rfl (uD bB bX bI rfl ag) ?_
  rintro v2 _ _ a w ⟨z3,rfl,rfl,oX⟩ ab U
  refine aG ab U (ae (bV XS rfl (fun w U=>agD _ _ w (bo.mono (U.le (.inr (by simp))) oX)) bP)<|ai rfl<|ae (cQ rfl rfl)<|ae (cQ rfl rfl)<|ah) fun a w ab U=>aJ ab U rfl (dg b2) ?_
  rintro _ _ _ a w ⟨wg,rfl,rfl,rfl⟩ ab U
  refine aJ ab U rfl (cJ b2 0 rfl rfl rfl rfl aI (bp rfl (bp rfl (bp rfl dO))) aI) ?_
  rintro _ _ _ a w ⟨rfl,rfl,rfl⟩ ab U
  replace U:=lJ U
  refine aG ab U (av rfl<|ah) fun a w ab U=>wpList_nil (du _ _ ?_)
  refine bc fun hU ef=>aG ab U (ai rfl<|ae (gq rfl rfl)<|ai rfl<|ah) fun a w ab U=>j3 2 25 4 ab U rfl rfl rfl rfl rfl (fun aP=>have aP:=(by first | exact of_decide_eq_true aP | exact aP);aO 25 rfl rfl rfl (aZ b2 rfl rfl (s':=0) az)<|aO 25 rfl rfl rfl (bf bH 0 rfl rfl rfl rfl)<|aO 25 rfl rfl rfl (bE rfl)<|aO 25 rfl rfl rfl (ke rfl rfl)<|ah) rfl rfl fun a w ab U=>?_
  refine aG ab U (ai rfl<|ah) fun a w ab U=>j3 8 31 3 ab U rfl rfl rfl rfl rfl (fun aP=>have aP:=aP;aO 31 rfl rfl rfl (bE rfl)<|aO 31 rfl rfl rfl (hA dh 1 rfl rfl)<|aO 31 rfl rfl rfl (cU rfl rfl)<|ah) rfl rfl fun a w ab U=>?_
  refine wpList_nil (ef _ _ ?_)
  refine df ab rfl (fun bz=>?_) (fun bz=>?_)
  ·(try simp only [dj] at bz)
   have cr:=au.aiH (l:=l) (i:=i) ag bz
   refine bc fun ho dK=>aG ab U (ai rfl<|ae (gh b2 0 rfl rfl aI rfl)<|ah) fun a w ab U=>aJ ab U rfl (oN dh b2 rfl aI a8 bM a8 a8) ?_
   rintro v6 _ _ a w ⟨rfl,rfl⟩ ab U
   replace U:=p0 U
   refine aJ ab U rfl (dH dh b2 2 rfl rfl rfl (eo dh (k:=0) rfl bM) aI rfl a8) ?_
   rintro vO _ _ a w ⟨rfl,rfl⟩ ab U
   replace U:=p0 U
   refine aG ab U (av rfl<|ah) fun a w ab U=>wpList_nil (dK _ _ ?_)
   refine bx ab U (ae (aZ b2 rfl rfl (s':=0) az)<|ae (bf bH 1 rfl rfl rfl rfl)<|av rfl<|ah) fun a w ab U=>cP _ _ ?_
   refine bx ab U (ai rfl<|b5 rfl rfl<|av rfl<|ah) fun a w ab U=>?_
   replace U:=U.ao ay (fO)
   refine ⟨(vO,i+1),?_,?_,ab.sub ⟨rfl,(by show some (aA _)=some (aA _);rw [cr]),rfl,rfl,trivial⟩,?_⟩
   ·(try dsimp only);omega
   ·omega
   ·dsimp only;rw [cr];dsimp only;rw [← au.xh,← au.wB];exact U
  ·(try simp only [dj] at bz)
   have cr:=au.aiG (l:=l) (i:=i) ag bz
   refine wp_skip<|cP _ _<|bx ab U (ai rfl<|b5 rfl rfl<|av rfl<|ah) fun a w ab U=>?_
   replace U:=U.ao ay (c2)
   refine ⟨(u,i+1),?_,?_,ab.sub ⟨rfl,(by show some (aA _)=some (aA _);rw [cr]),rfl,rfl,trivial⟩,?_⟩
   ·(try dsimp only);omega
   ·omega
   ·dsimp only;rw [cr];exact U
 ·obtain rfl:i=l.length:=by omega
  refine wp_exit<|cB _ _<|aD ab U (ai rfl<|av rfl<|ah) fun a w ab U=>wp_ret ?_
  exact b0 (rs:=[.tmp 2]) rfl ab U (vs:=[_]) ⟨rfl,trivial⟩ ay al ⟨rfl,rfl⟩
theorem PI(bd:Nat)(v:Value)(S:ak.aX)(oh:S.off=false)(w0:World)(bU:List aR){ed:Nat×Nat}{eb:TypeId}(hq:w0.heap[0]?=some (.cells (aL.eH.map cI).toArray eb ed))(bC:ak.Ok S):e1 Tryz.prog 92 [.pointer (some ⟨bd,0,none⟩)] w0 bU [fQ bd v S,fR v S] (fun r zs hs=>zs=[]∧∃ ml b fv cu ct cx cz,r=.tuple [.pointer (some ⟨ml,0,none⟩),aA 0].toArray∧hs=[pr ml bd b fv false,mx fv (au.taken (aj.bW S).tx),cu,ct,cx,cz,fQ bd v S,fR v S]∧mr b bd (aj.bW S) cu ct cx cz):=by
 refine gk Tryz.func92 rfl Tryz.ntmps92 b4 fun cF a w ab U=>?_
 replace U:=gU U
 have fF:=bC.lo
 have gJ:=bC.aH
 refine aD ab U (av rfl<|av rfl<|ah) fun a w ab U=>bc fun cG bJ=>aG ab U (ai rfl<|ah) fun a w ab U=>aJ ab U rfl (dv Xv rfl (List.Perm.refl _) (by exact (abg _ v S oh _ _ hq (by first | assumption | exact ak.xn (by assumption) _)))) ?_
 rintro _ _ _ a w ⟨_,_,rfl,rfl,⟨rfl,xd,Au,Av,Aw,Ax,rfl,rfl,ZA⟩⟩ ab U
 replace U:=l8 U
 refine aG ab U (ai rfl<|ae (cQ rfl rfl)<|ae (cQ rfl rfl)<|av rfl<|av rfl<|ah) fun a w ab U=>wpList_nil ?_
 obtain ⟨un,ubd,ut,gm,rfl,rfl,rfl,rfl⟩:=ZA
 have Ov:=gm.mH
 have zO:=gm.o0
 have Ox:=gm.bL
 have CZ:=gm.bT
 have Oy:=gm.nl
 have Oz:=gm.tl
 have OA:=gm.bl
 have OB:=gm.qK
 have OC:=gm.qk
 have Ow:=gm.pc
 replace U:=l8 U
 have HS:=gm.tr
 have anG:=gm.pc
 refine bJ _ _<|ax fun dX cq=>aD ab U (ai rfl<|ae (kT (dS rfl rfl) (by simp))<|ah) fun a w ab U=>df ab rfl (fun h=>absurd h (by simp)) (fun _=>?_)
 refine wp_skip<|cq _ _<|bc fun dL b9=>aG ab U (ai rfl<|ai rfl<|ai rfl<|ae (bN rfl)<|ae (aZ gN rfl rfl (s':=0) az)<|ae (bf cw 0 rfl rfl rfl rfl)<|ah) fun a w ab U=>aJ ab U rfl (eT Xw rfl (fun w U=>ahj _ _ HS w (lM (U.dp 3 rfl) (by first | assumption | (simp;done)) (by first | rfl | (simp;done) | (simp;omega) | omega) (by first | omega | (simp;omega))))) ?_
 rintro v12 _ _ a w ⟨_,_,rfl,rfl,⟨rfl,rfl⟩⟩ ab U
 replace U:=k9 U
 refine aG ab U (ae (hJ (places:=[(0,1),(1,1),(2,1),(3,1)]) (cells:=[_,_,_,.bool false]) kh az rfl (rr (c:=[_]) (l:=[_,_,_,_]) (l':=[_,_,_,_]) rfl (rn rfl) rfl b4 rfl (rr (c:=[_]) (l:=[_,_,_,_]) (l':=[_,_,_,_]) rfl (rn rfl) rfl b4 rfl (rr (c:=[_]) (l:=[_,_,_,_]) (l':=[_,_,_,_]) rfl (rn (row_one (U.dp 0 rfl))) rfl b4 rfl (FQ rfl)))))<|ah) fun a w ab U=>aJ ab U rfl (jV rfl) ?_
 rintro _ _ _ a w ⟨BE,rfl,rfl,rfl⟩ ab U
 refine aG ab U (av rfl<|av rfl<|ah) fun a w ab U=>wpList_nil (b9 _ _ ?_)
 refine wp_ret<|cY (rs:=[.tmp 2,.tmp 3]) rfl ab U (vs:=[_,_]) ⟨rfl,rfl,trivial⟩ [] [_,_,_,_,_,_,_,_] al al ⟨rfl,BE,xd,_,_,_,_,_,rfl,rfl,⟨un,ubd,ut,gm,rfl,rfl,rfl,rfl⟩⟩
end
section
theorem aiR:ba Tryz.prog 91 (.pointer 207) 1 8 (Value.pointer none):=⟨Tryz.underlying91,by kernel_rfl⟩
theorem wG:b1 Tryz.prog 86:=b6 Tryz.func86
theorem Yf:b1 Tryz.prog 87:=b6 Tryz.func87
attribute [local irreducible] aF.int aF.bytes aF.getInt aF.dZ aL.sum aj.fb aj.aT aj.c0 aj.a7 aj.c3 aj.gi aj.app aj.bW au.dec au.enc
theorem xi(b:Nat)(pd pj v lk:Value)(l:List au.bK)(w:World){bt:TypeId}{fz:Nat×Nat}(hl:w.heap[b]?=some (.cells [pd,pj,v,lk].toArray bt fz))(aw:bo Go.aK.hW (cf w) v l):cC Tryz.prog 86 [.pointer (some ⟨b,0,none⟩)] w (fun r _ _=>r=aA (au.clock l)):=by
 refine c4 Tryz.func86 rfl Tryz.ntmps86 b4 fun a ab U=>?_
 have c6:=aw.1
 refine aD ab U (av rfl<|ah) fun a w ab U=>ax fun cG bJ=>aD ab U (ai rfl<|ae (bN rfl)<|ae (aZ kh rfl rfl (s':=0) az)<|ae (ji dh rfl hl rfl rfl)<|ae (ee dh aw rfl)<|ae (gq rfl rfl)<|ah) fun a w ab U=>cn ab rfl (fun aU=>?_) (fun aU=>?_)
 ·refine ax fun et cB=>bx ab U (av rfl<|ah) fun a w ab U=>cB _ _ ?_
  refine wp_ret<|b0 (rs:=[.tmp 2]) rfl ab U (vs:=[_]) ⟨rfl,trivial⟩ ay ay (by rw [au.Lz aU])
 ·refine wp_skip<|bJ _ _<|iE mixed az ab U (ai rfl<|ae (bN rfl)<|ae (aZ kh rfl rfl (s':=0) az)<|ae (ji dh rfl hl rfl rfl)<|ai rfl<|ae (bN rfl)<|ae (aZ kh rfl rfl (s':=0) az)<|ae (ji dh rfl hl rfl rfl)<|ae (ee dh aw rfl)<|fy rfl rfl<|ae (dV dh b2 aw rfl rfl ag)<|ae (qR b2 aw rfl ag rfl (s':=0) az)<|ae (Ao bH aw cM rfl rfl ag)<|av rfl<|ah) fun a w ab U=>wp_ret ?_
  exact b0 (rs:=[.tmp 2]) rfl ab U (vs:=[_]) ⟨rfl,trivial⟩ ay ay (by rw [au.LA aU])
theorem Px(bd ml b:Nat)(v:Value)(lk:Bool)(M:au.gg)(f:au.bK)(bw:au.j4 f)(eK:f.ky.length≤1048576∧f.vl.length≤1048576)(w0:World)(bU:List aR){fv:Value}{cu ct cx cz:aC}{ed:Nat×Nat}{eb:TypeId}(hq:w0.heap[0]?=some (.cells (aL.eH.map cI).toArray eb ed))(gl:au.Good M.F)(eD:mr b bd M.J cu ct cx cz)(bC:ak.Ok M.S):e1 Tryz.prog 49 [.pointer (some ⟨ml,0,none⟩),.agg [aA f.tk,vs f.ky,vs f.vl].toArray] w0 bU [pr ml bd b fv lk,mx fv M.F,cu,ct,cx,cz,fQ bd v M.S,fR v M.S] (au.Bu (pr ml bd b · lk) mx (mr b bd) (fQ bd v) (fR v) (au.add M f).1 (aA (au.add M f).2)):=by
 refine gk Tryz.func49 rfl Tryz.ntmps49 b4 fun cF a w ab U=>?_
 replace U:=iD U
 have oe:=gl.len
 have wU:=bw.1
 have uU:=au.Me f
 refine bc fun eJ c8=>aJ ab U rfl (jV (cs:=[aA f.tk,vs f.ky,vs f.vl]) rfl) ?_
 rintro _ _ _ a w ⟨ck,rfl,rfl,rfl⟩ ab U
 refine aG ab U (av rfl<|ah) fun a w ab U=>wpList_nil (c8 _ _ ?_)
 refine aD ab U (ae (gh b2 0 rfl rfl aI rfl)<|ae (bV MH rfl (fun w U=>RK f bw w ) bP)<|av rfl<|ah) fun a w ab U=>ax fun dX cq=>aD ab U (ai rfl<|ae (dS rfl rfl)<|ah) fun a w ab U=>e9 ab rfl (fun aU=>?_) (fun aU=>?_)
 ·refine ax fun dL b9=>bx ab U (ai rfl<|av rfl<|ah) fun a w ab U=>b9 _ _ ?_
  refine wp_ret ?_
  replace U:=(((((((U.perm (.swap _ _ _)).perm hN).perm j6).perm km).perm pw).perm qg).perm q7).perm q8
  exact cY (rs:=[.tmp 4]) rfl ab U (vs:=[_]) ⟨rfl,trivial⟩ [] [_,_,_,_,_,_,_,_] al (c2.k.k.k.k.k.k.k.k) (au.z8 (L:=M) ⟨rfl,rfl,_,_,_,_,_,rfl,eD⟩ (by rw [au.wb aU]) (by rw [au.wb aU]))
 ·refine wp_skip<|cq _ _<|ax fun eN cK=>iE mixed az ab U (ae (aZ b2 rfl rfl (s':=0) az)<|ae (bf bH 0 rfl rfl rfl rfl)<|ai rfl<|ae (bV wG rfl (fun w U=>xi _ _ _ _ _ _ w (j0 U 1 rfl) (ie (hl:=au.hO) (h1:=au.hy) (U.dp 2 rfl) rfl (by first | omega | (simp;done)) (au.lA gl))) bP)<|ae (cU rfl rfl)<|ah) fun a w ab U=>cn ab rfl (fun bz=>?_) (fun bz=>?_)
  ·refine ax fun fk cP=>bx ab U (av rfl<|ah) fun a w ab U=>cP _ _ ?_
   refine wp_ret ?_
   replace U:=(((((((U.perm (.swap _ _ _)).perm hN).perm j6).perm km).perm pw).perm qg).perm q7).perm q8
   exact cY (rs:=[.tmp 4]) rfl ab U (vs:=[_]) ⟨rfl,trivial⟩ [] [_,_,_,_,_,_,_,_] al (c2.k.k.k.k.k.k.k.k) (au.z8 (L:=M) ⟨rfl,rfl,_,_,_,_,_,rfl,eD⟩ (by rw [au.uo ag bz]) (by rw [au.uo ag bz]))
  ·refine wp_skip<|cK _ _<|ax fun gB du=>aD ab U (ai rfl<|ae (bN rfl)<|ae (aZ kh rfl rfl (s':=0) az)<|ae (bf dh 1 rfl rfl rfl rfl)<|ae (hA dh 2 rfl rfl)<|ae (ke rfl rfl)<|ah) fun a w ab U=>cn ab rfl (fun cl=>?_) (fun cl=>?_)
   ·refine ax fun ho dK=>bx ab U (av rfl<|ah) fun a w ab U=>dK _ _ ?_
    refine wp_ret ?_
    replace U:=(((((((U.perm (.swap _ _ _)).perm hN).perm j6).perm km).perm pw).perm qg).perm q7).perm q8
    exact cY (rs:=[.tmp 4]) rfl ab U (vs:=[_]) ⟨rfl,trivial⟩ [] [_,_,_,_,_,_,_,_] al (c2.k.k.k.k.k.k.k.k) (au.z8 (L:=M) ⟨rfl,rfl,_,_,_,_,_,rfl,eD⟩ (by rw [au.wc ag bz ag]) (by rw [au.wc ag bz ag]))
   ·refine wp_skip<|du _ _<|ax fun iZ eY=>?_
    revert U;revert ab;apply hL (J:=yn (α0:=Value) (α1:=aC) (α2:=aC) (α3:=aC) (α4:=aC) 48 _ _ _ _ _) #[false,false,false,false,false,false,false,false,false,false,false,false,false] 13 mixed rfl rfl
    ·intro w ab U
     refine aS 0 rfl ab (U.ao al (dG)) (bE rfl) fun a ab=>aS 1 rfl ab (U.ao al (dG)) (bN rfl) fun a ab=>aS 2 rfl ab (U.ao al (dG)) (aZ kh rfl rfl (s':=0) az) fun a ab=>aS 3 rfl ab (U.ao al (im.k.n)) (bf aiR 0 rfl rfl rfl rfl) fun a ab=>aS 4 rfl ab (U.ao al (e3.k)) (gh b2 0 rfl rfl aI rfl) fun a ab=>?_
     refine bY 5 rfl rfl ab U rfl (eT Xl rfl (fun w U=>agR f bw eK w )) ?_
     rintro Ty _ _ a w ⟨_,_,rfl,rfl,rfl,rfl⟩ ab U
     replace U:=nM U
     refine ⟨⟨aq,.inr (U.ao al (im.k.n.n)),.inr (U.ao al (bQ)),.inr (U.ao al (bQ)),.inr (U.ao al (bQ)),trivial⟩,?_⟩
     refine aS 6 rfl ab (U.ao al (dG.k)) (nf bX bB bI 0 rfl rfl) fun a ab=>fB [7] az rfl ⟨?_,trivial⟩
     replace U:=(((((U.perm kD).perm ln).perm lp).perm lV).perm ud).perm EZ
     replace U:=nM U
     refine dW _ rfl rfl ab U rfl (dv Yf rfl (List.Perm.refl _) (by exact (Z5 _ _ v _ M.S (au.enc f) _ _ hq eD (by assumption)))) ?_
     rintro _ _ _ a w ⟨_,_,rfl,rfl,⟨rfl,rfl,Q6,Rg,Rp,Ry,rfl,Cs⟩⟩ ab U
     replace U:=nM U
     refine ⟨⟨aq,aq,aq,aq,.inr (U.ao al (bQ)),.inr (U.ao al (bQ)),trivial⟩,?_⟩
     refine aS 8 rfl ab (U.ao al (bQ)) (bE rfl) fun a ab=>aS 9 rfl ab (U.ao al (bQ)) (cQ rfl rfl) fun a ab=>aS 10 rfl ab (U.ao al (bQ)) (cQ rfl rfl) fun a ab=>aS 11 rfl ab (U.ao al (bQ)) (kS rfl) fun a ab=>aS 12 rfl ab (U.ao al (bQ)) (kS rfl) fun a ab=>?_
     exact ev az (xc Ty Q6 Rg Rp Ry ((And.intro Cs trivial)) (ab.sub (L':=[(0,_),(3,_),(7,_)]) ⟨rfl,rfl,rfl,trivial⟩) U)
    rintro a w ⟨Ty,Q6,Rg,Rp,Ry,⟨Cs, -⟩,ab,U⟩
    (try dsimp only at ab U)
    refine eY _ _<|ax fun iR eO=>aD ab U (ai rfl<|ae (dS rfl rfl)<|ah) fun a w ab U=>e9 ab rfl (fun dI=>?_) (fun dI=>?_)
    ·refine ax fun j5 fC=>bx ab U (ai rfl<|av rfl<|ah) fun a w ab U=>fC _ _ ?_
     refine wp_ret ?_
     replace U:=(U.perm q3).perm qe
     exact cY (rs:=[.tmp 4]) rfl ab U (vs:=[_]) ⟨rfl,trivial⟩ [] [_,_,_,_,_,_,_,_] al (fO.k.k.k.k.k.k.k.k) (au.z8 (L:=⟨(aj.app M.J M.S (au.enc f)).1,(aj.app M.J M.S (au.enc f)).2.1,M.F⟩) ⟨rfl,rfl,_,_,_,_,_,rfl,Cs⟩ (by rw [au.uq ag bz ag dI]) (by rw [au.uq ag bz ag dI]))
    ·refine wp_skip<|eO _ _<|ax fun mw hz=>?_
     revert U;revert ab;apply hL (J:=kj (α0:=Value) (α1:=Value) 48 _ _ _ _ _) #[false,false,false,false,false,false,false,false,false,false,false] 11 mixed rfl rfl
     ·intro w ab U
      refine aS 0 rfl ab (U.ao al (bQ)) (bE rfl) fun a ab=>aS 1 rfl ab (U.ao al (bQ)) (bE rfl) fun a ab=>aS 2 rfl ab (U.ao al (bQ)) (bN rfl) fun a ab=>aS 3 rfl ab (U.ao al (bQ)) (aZ kh rfl rfl (s':=0) az) fun a ab=>aS 4 rfl ab (U.ao al (c2.k.n.n.n.n.n.n.n.n)) (bf dh 0 rfl rfl rfl rfl) fun a ab=>?_
      refine aS 5 rfl ab (U.ao al (fO.k.n.n.n.n.n.n.n)) (gh b2 0 rfl rfl aI rfl) fun a ab=>bY 6 rfl rfl ab U rfl (oN dh b2 rfl aI a8 bM a8 a8) ?_
      rintro Tf _ _ a w ⟨rfl,rfl⟩ ab U
      replace U:=vq U
      refine ⟨⟨aq,.inr (U.ao al (c2.k.n.n.n.n.n.n.n.n.n)),.inr (U.ao al (oy)),.inr (U.ao al (oy)),.inr (U.ao al (oy)),.inr (U.ao al (oy)),trivial⟩,?_⟩
      refine bY 7 rfl rfl ab U rfl (dH dh b2 10 rfl rfl rfl (eo dh (k:=0) rfl bM) aI rfl a8) ?_
      rintro Tg _ _ a w ⟨rfl,rfl⟩ ab U
      replace U:=vq U
      refine ⟨⟨aq,aq,aq,.inr (U.ao al (oy)),.inr (U.ao al (oy)),.inr (U.ao al (oy)),trivial⟩,?_⟩
      refine aS 8 rfl ab (U.ao al (oy)) (bN rfl) fun a ab=>aS 9 rfl ab (U.ao al (oy)) (aZ kh rfl rfl (s':=0) az) fun a ab=>bY 10 rfl rfl ab U rfl (dq dh 9 rfl rfl rfl (row_one (U.dp 10 rfl)) (by simp)) ?_
      rintro _ _ _ a w ⟨rfl,rfl,rfl⟩ ab U
      replace U:aB _ (_) (_::_::_::_::_::_::_::_::_::.blk _ _ ([_,_,_,_].set 2 _)::_::_) _:=U
      simp only [dd] at U
      replace U:=vq U
      refine ⟨⟨aq,aq,aq,aq,aq,aq,aq,aq,trivial⟩,?_⟩
      exact ev az (lI Tf Tg (trivial) (ab.sub (L':=[]) trivial) U)
     rintro a w ⟨Tf,Tg, -,ab,U⟩
     (try dsimp only at ab U)
     refine hz _ _<|aD ab U (av rfl<|ah) fun a w ab U=>wp_ret ?_
     rw [au.wB,au.xh M.F f] at U
     replace U:=(((((((U.perm Ku).perm KG).perm j6).perm km).perm pw).perm qg).perm q7).perm q8
     exact cY (rs:=[.tmp 4]) rfl ab U (vs:=[_]) ⟨rfl,trivial⟩ [] [_,_,_,_,_,_,_,_] al (eS.k.k.k.k.k.k.k.k) (au.z8 (L:=⟨(aj.app M.J M.S (au.enc f)).1,(aj.app M.J M.S (au.enc f)).2.1,M.F++[f]⟩) ⟨rfl,rfl,_,_,_,_,_,rfl,Cs⟩ (by rw [au.sn ag bz ag ag]) (by rw [au.sn ag bz ag ag]))
end
section
theorem Yg:b1 Tryz.prog 90:=b6 Tryz.func90
theorem Nc:b1 Tryz.prog 92:=b6 Tryz.func92
theorem Xo:b1 Tryz.prog 126:=b6 Tryz.func126
theorem XI:b1 Tryz.prog 158:=b6 Tryz.func158
attribute [local irreducible] aF.int aF.bytes aF.getInt aF.dZ aL.sum aj.fb aj.aT aj.c0 aj.a7 aj.c3 aj.gi aj.app aj.bW au.dec au.enc bs.mK au.ek au.keys ak.hi
theorem aec(v:Value)(l:List au.bK)(tick:Int)(hl:l.length<1048576)(w:World)(aw:bo Go.aK.hW (cf w) v l){ed:Nat×Nat}{eb:TypeId}(hq:w.heap[0]?=some (.cells (aL.eH.map cI).toArray eb ed)):cC Tryz.prog 125 [v,aA tick] w (fun r _ _=>r=.agg (((bs.mK (au.iB l tick)).1).map bn).toArray):=by
 refine c4 Tryz.func125 rfl Tryz.ntmps125 b4 fun a ab U=>?_
 have c6:=aw.1
 have jE:=au.Je (au.iB l tick)
 refine bc fun eJ c8=>aJ ab U rfl (dg di) ?_
 rintro _ _ _ a w ⟨ck,rfl,rfl,rfl⟩ ab U
 rw [show List.replicate 16 (Value.int .u8 0)=(List.replicate 16 (0:UInt8)).map bn from by rw [List.map_replicate] <;> rfl] at U
 refine wpList_nil (c8 _ _ ?_)
 refine bc fun cG bJ=>aG ab U (ai rfl<|ai rfl<|ah) fun a w ab U=>aJ ab U rfl (eT XW rfl (fun w U=>agX _ _ _ ag w (bo.mono (U.le cM) aw))) ?_
 rintro v2 _ _ a w ⟨_,_,rfl,rfl,⟨z3,oX,rfl,rfl⟩⟩ ab U
 replace U:aB _ [_] [_] _:=U
 refine aG ab U (ae (bV XI rfl (fun w U=>ahg _ _ w (bo.mono (U.le (.inr (by simp))) oX) (U.ext _ _ hq)) bP)<|ai rfl<|ae (cQ rfl rfl)<|ae (cQ rfl rfl)<|ah) fun a w ab U=>aJ ab U rfl (dg di) ?_
 rintro _ _ _ a w ⟨wg,rfl,rfl,rfl⟩ ab U
 rw [show List.replicate 16 (Value.int .u8 0)=(List.replicate 16 (0:UInt8)).map bn from by rw [List.map_replicate] <;> rfl] at U
 refine aJ ab U rfl (cJ di 0 rfl rfl rfl rfl aI bM aI) ?_
 rintro _ _ _ a w ⟨rfl,rfl,rfl⟩ ab U
 replace U:=lJ U
 refine aG ab U (av rfl<|ah) fun a w ab U=>wpList_nil (bJ _ _ ?_)
 refine bc fun dX cq=>aG ab U (ae (gh di 0 rfl rfl aI rfl)<|ah) fun a w ab U=>aJ ab U rfl (cJ di 1 rfl rfl rfl rfl aI bM aI) ?_
 rintro _ _ _ a w ⟨rfl,rfl,rfl⟩ ab U
 replace U:=lJ U
 refine wpList_nil (cq _ _ ?_)
 refine wp_ret<|b0 (rs:=[.cell 4 62]) rfl ab U (vs:=[_]) ⟨⟨_,_,_,_,_,_,_,rfl,List.mem_of_getElem? (i:=1) rfl,di,.inl ⟨rfl,aI,rfl⟩⟩,trivial⟩ ay ay (rfl)
theorem PG(bd ml b:Nat)(v:Value)(lk:Bool)(M:au.gg)(gM:Value)(ps:List Int)(w0:World)(bU:List aR)(z:aR)(k6:bo Go.aK.encI z gM ps)(bj:gQ w0 bU z){fv:Value}{cu ct cx cz:aC}{ed:Nat×Nat}{eb:TypeId}(hq:w0.heap[0]?=some (.cells (aL.eH.map cI).toArray eb ed))(gl:au.Good M.F)(eD:mr b bd M.J cu ct cx cz)(bC:ak.Ok M.S):e1 Tryz.prog 51 [.pointer (some ⟨ml,0,none⟩),gM] w0 bU [pr ml bd b fv lk,mx fv M.F,cu,ct,cx,cz,fQ bd v M.S,fR v M.S] (fun r zs hs=>zs=[]∧∃ PE dD fw jv jw jx kc,r=.tuple [.pointer (some ⟨PE,0,none⟩),aA 0].toArray∧hs=[pr PE bd dD fw (au.vm M.S (ak.e6 M.S ps) lk),mx fw (au.taken (aj.bW (ak.e6 M.S ps)).tx),jv,jw,jx,kc,fQ bd v (ak.e6 M.S ps),fR v (ak.e6 M.S ps)]∧mr dD bd (aj.bW (ak.e6 M.S ps)) jv jw jx kc):=by
 refine gk Tryz.func51 rfl Tryz.ntmps51 b4 fun cF a w ab U=>?_
 replace U:=iD U
 have oe:=gl.len
 have fF:=bC.lo
 have gJ:=bC.aH
 have s0:=au.Iq M.S ps
 have CO:(ak.e6 M.S ps).off=false:=rfl
 have ZY:=ak.xn bC ps
 refine aD ab U (av rfl<|av rfl<|ah) fun a w ab U=>bc fun cG bJ=>aJ ab U rfl (sx ff e4) ?_
 rintro v1 _ _ a w ⟨rfl,rfl⟩ ab U
 replace U:=kq U
 refine aG ab U (ai rfl<|ae (bN rfl)<|ae (aZ kh rfl rfl (s':=0) az)<|ae (bf oC 1 rfl rfl rfl rfl)<|ae (bN rfl)<|ae (aZ hC rfl rfl (s':=0) az)<|ae (bf ff 7 rfl rfl rfl rfl)<|ah) fun a w ab U=>aJ ab U rfl (dH ff e4 0 rfl rfl rfl (eo ff (k:=8) rfl (ak.ahM _)) aI rfl a8) ?_
 rintro v3 _ _ a w ⟨rfl,rfl⟩ ab U
 replace U:=kq U
 refine aG ab U (av rfl<|ah) fun a w ab U=>wpList_nil ?_
 rw [List.nil_append,Nat.zero_add] at U
 refine bJ _ _<|bc fun dX cq=>aG ab U (ai rfl<|ae (bN rfl)<|ae (aZ kh rfl rfl (s':=0) az)<|ae (bf oC 1 rfl rfl rfl rfl)<|ai rfl<|ah) fun a w ab U=>?_
 replace U:=(U.perm yq).perm Bw
 replace U:=kq U
 refine aJ ab U rfl (dv Yg rfl (List.Perm.refl _) (by exact (agY _ _ _ _ _ k6 bj (by first | assumption | exact ak.iO (by assumption) | exact ak.kz (by assumption) _ _) (S:=M.S) (v:=v)))) ?_
 rintro _ _ _ a w ⟨_,_,rfl,rfl,⟨rfl,rfl,rfl⟩⟩ ab U
 replace U:=kq U
 refine wpList_nil (cq _ _ ?_)
 refine aD ab U (ai rfl<|ae (bN rfl)<|ae (aZ kh rfl rfl (s':=0) az)<|ae (bf fL 3 rfl rfl rfl rfl)<|av rfl<|ah) fun a w ab U=>ax fun dL b9=>aD ab U (av rfl<|ah) fun a w ab U=>wp_block ?_
 obtain ⟨bG,a6,U⟩:=U.c1
 refine dy (γ:=Nat) (0) (fun (i:Nat)=>[(7,.bool (au.qF M.S (ak.e6 M.S ps) lk i)),(8,aA (i:Int))]) [(0,_),(6,_)] (fun (i:Nat)=>bG) (fun (i:Nat)=>i≤M.S.s.length) (fun (i:Nat)=>M.S.s.length-i) (ab.sub ⟨rfl,rfl,rfl,rfl,trivial⟩) (by subst a6;exact U) (by exact Nat.zero_le _) ?_
 rintro i a w bh ab U
 subst a6;(try dsimp only at bh ab U)
 have eL:=bh
 replace U:=kq U
 refine ax fun fa cT=>aD ab U (ai rfl<|ai rfl<|ae (hA ff 2 rfl rfl)<|ae (cU rfl rfl)<|ah) fun a w ab U=>cn ab rfl (fun aU=>?_) (fun aU=>?_)
 ·refine wp_skip<|cT _ _<|ax fun gB du=>wp_block ?_
  refine aD ab U (ai rfl<|ae (bN rfl)<|ae (aZ kh rfl rfl (s':=0) az)<|ae (bf oC 3 rfl rfl rfl rfl)<|ae (bN rfl)<|ae (aZ hC rfl rfl (s':=0) az)<|ae (bf ff 0 rfl rfl rfl rfl)<|ai rfl<|ae (fY ff e4 1 rfl rfl rfl ag)<|ae (ng e4 1 rfl rfl ag rfl (s':=0) az)<|ae (p3 ak.lN ak.b3 bB 1 rfl rfl rfl ag a8 rfl)<|av rfl<|ah) fun a w ab U=>bc fun ho dK=>aG ab U (ai rfl<|ai rfl<|ae (fY ff e4 2 rfl rfl rfl ag)<|ae (ng e4 2 rfl rfl ag rfl (s':=0) az)<|ae (p3 ak.lN ak.b3 fL 2 rfl rfl rfl ag a8 rfl)<|ai rfl<|ah) fun a w ab U=>j3 5 53 7 ab U rfl rfl rfl rfl rfl (fun aP=>have aP:=aP;aO 53 rfl rfl rfl (bE rfl)<|aO 53 rfl rfl rfl (bE rfl)<|aO 53 rfl rfl rfl (bE rfl)<|aO 53 rfl rfl rfl (fY ff e4 2 rfl rfl rfl ag)<|aO 53 rfl rfl rfl (ng e4 2 rfl rfl ag rfl (s':=0) az)<|aO 53 rfl rfl rfl (p3 ak.lN ak.b3 bB 2 rfl rfl rfl ag a8 rfl)<|aO 53 rfl rfl rfl (rY rfl rfl)<|ah) rfl rfl fun a w ab U=>?_
  refine aG ab U (ai rfl<|ah) fun a w ab U=>j3 14 62 7 ab U rfl rfl rfl rfl rfl (fun aP=>have aP:=aP;aO 62 rfl rfl rfl (bE rfl)<|aO 62 rfl rfl rfl (bE rfl)<|aO 62 rfl rfl rfl (bE rfl)<|aO 62 rfl rfl rfl (fY ff e4 2 rfl rfl rfl ag)<|aO 62 rfl rfl rfl (ng e4 2 rfl rfl ag rfl (s':=0) az)<|aO 62 rfl rfl rfl (p3 ak.lN ak.b3 bB 2 rfl rfl rfl ag a8 rfl)<|aO 62 rfl rfl rfl (rY rfl rfl)<|ah) rfl rfl fun a w ab U=>?_
  refine aG ab U (ai rfl<|ah) fun a w ab U=>j3 23 71 3 ab U rfl rfl rfl rfl rfl (fun aP=>have aP:=aP;aO 71 rfl rfl rfl (bE rfl)<|aO 71 rfl rfl rfl (bV Ga rfl (fun w U=>Jn _ w (U.ext _ _ hq)) bP)<|aO 71 rfl rfl rfl (QK dQ rfl rfl fL rfl rfl rfl)<|ah) rfl rfl fun a w ab U=>?_
  refine wpList_nil (dK _ _ ?_)
  refine df ab rfl (fun bz=>?_) (fun bz=>?_)
  ·(try simp only [dj] at bz)
   refine bx ab U (av rfl<|ah) fun a w ab U=>du _ _ ?_
   refine bx ab U (ai rfl<|b5 rfl rfl<|av rfl<|ah) fun a w ab U=>⟨(i+1),?_,?_,ab.sub ⟨(by show some (Value.bool true)=some (Value.bool _);rw [au.ady bz]),rfl,rfl,rfl,trivial⟩,?_⟩
   ·(try dsimp only);omega
   ·omega
   ·exact U
  ·(try simp only [dj] at bz)
   refine wp_skip<|du _ _<|bx ab U (ai rfl<|b5 rfl rfl<|av rfl<|ah) fun a w ab U=>⟨(i+1),?_,?_,ab.sub ⟨(by show some (Value.bool _)=some (Value.bool _);rw [au.adx bz]),rfl,rfl,rfl,trivial⟩,?_⟩
   ·(try dsimp only);omega
   ·omega
   ·exact U
 ·refine wp_exit<|b9 _ _<|bc fun iZ eY=>aG ab U (ai rfl<|ae (bN rfl)<|ae (aZ kh rfl rfl (s':=0) az)<|ae (bf oC 3 rfl rfl rfl rfl)<|ah) fun a w ab U=>aJ ab U rfl (dv Nc rfl (List.Perm.refl _) (by exact (PI _ v (ak.e6 M.S ps) (by assumption) _ _ hq (by first | assumption | exact ak.xn (by assumption) _)))) ?_
  rintro _ _ _ a w ⟨_,_,rfl,rfl,⟨rfl,aos,OQ,alE,vy,vz,vA,vB,rfl,rfl,Zt⟩⟩ ab U
  replace U:aB _ (_) (_::_::_::_::_::_::_::_::_::_::_::_::_::_::_::_) _:=U
  refine aG ab U (ai rfl<|ae (cQ rfl rfl)<|ae (cQ rfl rfl)<|av rfl<|av rfl<|ah) fun a w ab U=>wpList_nil (eY _ _ ?_)
  refine ax fun iR eO=>aD ab U (ai rfl<|ae (kT (dS rfl rfl) (by simp))<|ah) fun a w ab U=>df ab rfl (fun h=>absurd h (by simp)) (fun _=>?_)
  refine wp_skip<|eO _ _<|bc fun j5 fC=>aG ab U (ai rfl<|ai rfl<|ae (bN rfl)<|ae (aZ kh rfl rfl (s':=0) az)<|ah) fun a w ab U=>aJ ab U rfl (dq fL 0 rfl rfl rfl rfl (by simp)) ?_
  rintro _ _ _ a w ⟨rfl,rfl,rfl⟩ ab U
  replace U:aB _ (_) (.blk _ _ ([_,_,_,_].set 3 _)::_::_::_::_::_::_::_::_::_::_::_::_::_::_::_) _:=U
  simp only [dd] at U
  replace U:aB _ (_) (_::_::_::_::_::_::_::_::_::_::_::_::_::_::_::_) _:=U
  refine wpList_nil (fC _ _ ?_)
  refine aD ab U (ai rfl<|av rfl<|av rfl<|ah) fun a w ab U=>wp_ret ?_
  obtain rfl:i=M.S.s.length:=by omega
  exact cY (rs:=[.tmp 4,.tmp 5]) rfl ab U (vs:=[_,_]) ⟨rfl,rfl,trivial⟩ [] [_,_,_,_,_,_,_,_] al (im.k.k.k.k.k.k.k.k) ⟨rfl,_,_,_,_,_,_,_,rfl,rfl,Zt⟩
theorem aee(bd ml b:Nat)(v:Value)(lk:Bool)(M:au.gg)(i nX:Int)(CD : -9223372036854775808≤nX∧nX≤9223372036854775807)(w0:World)(bU:List aR){fv:Value}{cu ct cx cz:aC}{ed:Nat×Nat}{eb:TypeId}(hq:w0.heap[0]?=some (.cells (aL.eH.map cI).toArray eb ed))(gl:au.Good M.F)(eD:mr b bd M.J cu ct cx cz)(bC:ak.Ok M.S):e1 Tryz.prog 83 [.pointer (some ⟨ml,0,none⟩),aA i,aA nX] w0 bU [pr ml bd b fv lk,mx fv M.F,cu,ct,cx,cz,fQ bd v M.S,fR v M.S] (au.Bu (pr ml bd b · (au.tf M.S i nX lk)) mx (mr b bd) (fQ bd v) (fR v) ⟨M.J,(ak.hi M.S i nX).1,M.F⟩ (aA (ak.hi M.S i nX).2)):=by
 refine gk Tryz.func83 rfl Tryz.ntmps83 b4 fun cF a w ab U=>?_
 replace U:=iD U
 have oe:=gl.len
 have fF:=bC.lo
 have gJ:=bC.aH
 have rL:=au.ag6 M.S i nX
 have hOr:=ak.aeJ bC i nX
 refine aD ab U (av rfl<|ah) fun a w ab U=>bc fun cG bJ=>aG ab U (ai rfl<|ae (bN rfl)<|ae (aZ kh rfl rfl (s':=0) az)<|ae (bf oC 0 rfl rfl rfl rfl)<|ai rfl<|ai rfl<|ah) fun a w ab U=>?_
 replace U:=(U.perm EU).perm Bv
 replace U:=iD U
 refine aJ ab U rfl (dv Xo rfl (List.Perm.refl _) (by exact (ahh _ _ ag _ _  (by first | assumption | exact ak.iO (by assumption) | exact ak.kz (by assumption) _ _) (S:=M.S) (v:=v)))) ?_
 rintro _ _ _ a w ⟨_,_,rfl,rfl,⟨rfl,rfl,rfl⟩⟩ ab U
 replace U:=iD U
 refine aG ab U (av rfl<|ah) fun a w ab U=>wpList_nil (bJ _ _ ?_)
 refine ax fun dX cq=>ax fun et cB=>?_
 rcases Decidable.em ((ak.hi M.S i nX).2=0) with gw | gw
 ·have hg:=au.ag7 gw
  refine bx ab U (ai rfl<|ae (qQ (gq rfl rfl) (gw))<|ai rfl<|aO 17 rfl rfl rfl (bE rfl)<|aO 17 rfl rfl rfl (bN rfl)<|aO 17 rfl rfl rfl (aZ kh rfl rfl (s':=0) az)<|aO 17 rfl rfl rfl (bf oC 2 rfl rfl rfl rfl)<|aO 17 rfl rfl rfl (bN rfl)<|aO 17 rfl rfl rfl (aZ hC rfl rfl (s':=0) az)<|aO 17 rfl rfl rfl (bf ff 0 rfl rfl rfl rfl)<|aO 17 rfl rfl rfl (bE rfl)<|aO 17 rfl rfl rfl (fY ff e4 1 rfl rfl rfl ag)<|aO 17 rfl rfl rfl (ng e4 1 rfl rfl ag rfl (s':=0) az)<|aO 17 rfl rfl rfl (p3 ak.lN ak.b3 bB 1 rfl rfl rfl ag a8 rfl)<|aO 17 rfl rfl rfl (bV Ga rfl (fun w U=>Jn _ w (U.ext _ _ hq)) bP)<|aO 17 rfl rfl rfl (QK dQ rfl rfl fL rfl rfl rfl)<|ae (kU rfl rfl)<|ah) fun a w ab U=>cB _ _ ?_
  refine df ab rfl (fun aU=>?_) (fun aU=>?_)
  ·refine dM<|aG ab U (ai rfl<|ae (bN rfl)<|ae (aZ kh rfl rfl (s':=0) az)<|ah) fun a w ab U=>aJ ab U rfl (dq fL 2 rfl rfl rfl rfl (by simp)) ?_
   rintro _ _ _ a w ⟨rfl,rfl,rfl⟩ ab U
   replace U:aB _ (_) (_::_::.blk _ _ ([_,_,_,_].set 3 _)::_::_::_::_::_::_) _:=U
   simp only [dd] at U
   replace U:=iD U
   refine wpList_nil (cq _ _ ?_)
   refine aD ab U (ai rfl<|av rfl<|ah) fun a w ab U=>wp_ret ?_
   replace U:=(((((U.perm nV).perm mX).perm pv).perm qf).perm uc).perm qh
   exact cY (rs:=[.tmp 6]) rfl ab U (vs:=[_]) ⟨rfl,trivial⟩ [] [_,_,_,_,_,_,_,_] al al (by rw [au.adr gw aU];exact ⟨rfl,rfl,_,_,_,_,_,rfl,eD⟩)
  ·refine wp_skip<|cq _ _<|aD ab U (ai rfl<|av rfl<|ah) fun a w ab U=>wp_ret ?_
   replace U:=(((((U.perm nV).perm mX).perm pv).perm qf).perm uc).perm qh
   exact cY (rs:=[.tmp 6]) rfl ab U (vs:=[_]) ⟨rfl,trivial⟩ [] [_,_,_,_,_,_,_,_] al al (by rw [au.adp aU];exact ⟨rfl,rfl,_,_,_,_,_,rfl,eD⟩)
 ·skip
  refine bx ab U (ai rfl<|ae (QI (gq rfl rfl) (gw))<|ai rfl<|j1 17 rfl rfl rfl rfl<|j1 17 rfl rfl rfl rfl<|j1 17 rfl rfl rfl rfl<|j1 17 rfl rfl rfl rfl<|j1 17 rfl rfl rfl rfl<|j1 17 rfl rfl rfl rfl<|j1 17 rfl rfl rfl rfl<|j1 17 rfl rfl rfl rfl<|j1 17 rfl rfl rfl rfl<|j1 17 rfl rfl rfl rfl<|j1 17 rfl rfl rfl rfl<|j1 17 rfl rfl rfl rfl<|j1 17 rfl rfl rfl rfl<|ae (hB rfl rfl)<|ah) fun a w ab U=>cB _ _ ?_
  refine df ab rfl (fun h=>absurd h (by simp)) (fun _=>?_)
  refine wp_skip<|cq _ _<|aD ab U (ai rfl<|av rfl<|ah) fun a w ab U=>wp_ret ?_
  replace U:=(((((U.perm nV).perm mX).perm pv).perm qf).perm uc).perm qh
  exact cY (rs:=[.tmp 6]) rfl ab U (vs:=[_]) ⟨rfl,trivial⟩ [] [_,_,_,_,_,_,_,_] al al (by rw [au.adq gw];exact ⟨rfl,rfl,_,_,_,_,_,rfl,eD⟩)
end
end Go.Proofs.YtngcjojijaknnaaGreatDoor
