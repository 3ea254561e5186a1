/- walks and plain laws -/
import Derived.Test.YtngcjojijaknnaaGreatDoorFwA
import Derived.Test.YtngcjojijaknnaaGreatDoorFwB
import Derived.Test.YtngcjojijaknnaaGreatDoorFwC
import Derived.RangeFuncLeaves
import Derived.RangeFuncRecord
import Derived.OrdersIn
import Derived.TacticsIn
import Derived.Lib.UnsafeStr
import Derived.Lib.Builder
import Derived.Laws.Externs
import Derived.LaidEql
import Derived.Lib.Bytealg
import Derived.Laws.CopyRow
import Derived.Shelf.SlIterI.Sorted
import Derived.Shelf.SlMaps.Clone
set_option linter.all false
section
namespace Go.aK
@[reducible] def gZ (ro:Option Nat):Fence:={ Fence.wide with round:=ro }
def o1(o:Oper):Bool:=match o.op with | .defer _=>false | _=>true
theorem aem{o:Oper}(h:o1 o=true):∀ c,o.op≠.defer c:=by
 intro c bq
 unfold o1 at h
 rw [bq] at h
 cases h
section
variable {P:Program}{ops:Array Oper}{ro:Option Nat}{m:Nat}
theorem ahb{row:String}{args:Array Value}{w:World}{R:Value→World→Prop}(h:Rows P row args w R):RowsIn (gZ ro) m P row args w R:=
 fun c cs _=>let ⟨v,w',r,s⟩:=h c cs;⟨v,w',r,(stepsIn_wide (P:=P)).2 s⟩
theorem BS{f:FuncId}{args:Array Value}{w:World}{R:Ending→World→Prop}(h:Calls P f args w R):CallsIn (gZ ro) m P f args w R:=
 (callsIn_wide (n:=m)).2 h
theorem Qc{o:Oper}{a:Act}{w:World}{next next':Act→World→Prop}{Q1 Q:Exit→Act→World→Prop}(aT:o1 o=true)(mD:∀ e a w,Q1 e a w→e=.normal)(bD:∀ a w,next a w→next' a w)(h:o.wp P a w next Q1) :
  o.wpIn (gZ ro) m P a w next' Q:=by
 refine ⟨fun _ _=>trivial,?_⟩
 rw [show (gZ ro).round=ro from rfl,Oper.semAt_eq ro _ o (aem aT)]
 unfold Oper.wp at h
 generalize (execOp a.eval o).run P w=r at h
 cases r with
 | ok nx w'=>
  cases nx <;> simp only [Oper.upon] at h <;> simp only [Oper.uponIn]
  case value v=>exact bD _ _ h
  case skip=>exact bD _ _ h
  case defer d=>exact bD _ _ h
  case enter f args=>
   refine ⟨fun jf=>(by cases jf),(BS h).mono fun e yc he=>?_⟩
   cases e with
   | returned v=>exact bD _ _ he
   | panicked c=>cases mD _ _ _ he
   | outgrown=>obtain ⟨_,_,ch⟩:=he;cases mD _ _ _ ch
  case row row args=>exact ⟨fun jf=>(by cases jf),(ahb h).mono fun v yc he=>bD _ _ he⟩
 | halt x w'=>
  cases x <;> simp only [Oper.upon] at h <;> simp only [Oper.uponIn]
  case panic v=>cases mD _ _ _ h
theorem Ev{Q1 Q:Exit→Act→World→Prop}(aT:ops.all o1=true)(mD:∀ e a w,Q1 e a w→e=.normal∧Q .normal a w):∀ (l:List Nat) (a:Act) (w:World),wpOps P ops Q1 l a w→wpOpsIn (gZ ro) m P ops Q l a w
 | [],a,w,h=>(mD _ _ _ h).2
 | i::l,a,w,h=>by
  unfold wpOps at h
  unfold wpOpsIn
  cases cH:ops[i]? with
  | none=>simp only [cH] at h ⊢;exact Ev aT mD l a w h
  | some o=>
   simp only [cH] at h ⊢
   have wT:o1 o=true:=by
    obtain ⟨aH,rfl⟩:=Array.getElem?_eq_some_iff.1 cH
    exact (Array.all_eq_true.1 aT) i aH
   by_cases hw:Region.wanted o (yielded ops a.tmps)=true
   ·simp only [hw,if_true] at h ⊢
    rcases h with h | ⟨_,hp,w',h⟩
    ·exact Qc wT (fun e a w h=>(mD e a w h).1) (fun a w h=>Ev aT mD l a w h) h
    ·exact absurd (mD _ _ _ h).1 (by simp)
   ·simp only [hw,Bool.false_eq_true,if_false] at h ⊢
    exact ⟨fun _ _=>trivial,Ev aT mD l _ w h⟩
theorem Bg{Q1 Q:Exit→Act→World→Prop}{l2:List Oper}(mD:∀ e a w,Q1 e a w→e=.normal∧wpListIn (gZ ro) m P ops Q l2 a w):∀ (l:List Oper) (a:Act) (w:World),l.all o1=true→wpList P ops Q1 l a w→wpListIn (gZ ro) m P ops Q (l++l2) a w
 | [],a,w,_,h=>(mD _ _ _ h).2
 | o::l,a,w,aT,h=>by
  simp only [List.all_cons,Bool.and_eq_true] at aT
  unfold wpList at h
  rw [List.cons_append]
  unfold wpListIn
  by_cases hw:Region.wanted o (yielded ops a.tmps)=true
  ·simp only [hw,if_true] at h ⊢
   rcases h with h | ⟨_,hp,w',h⟩
   ·exact Qc aT.1 (fun e a w h=>(mD e a w h).1) (fun a w h=>Bg mD l a w aT.2 h) h
   ·exact absurd (mD _ _ _ h).1 (by simp)
  ·simp only [hw,Bool.false_eq_true,if_false] at h ⊢
   exact ⟨fun _ _=>trivial,Bg mD l _ w aT.2 h⟩
theorem agQ{id:Nat}{Q:Exit→Act→World→Prop}{a:Act}{w:World}(hm:P.follows .mixedOrders=true)(aT:ops.all o1=true)
  (h:wpAny P .any ops (kE (Q .normal)) ops.size (Array.replicate ops.size false) a { w with drawn:=w.drawn+1 }):(Code.region id ops true).wpIn (gZ ro) m P Q a w:=
 wpIn_region_draw fun t=>by
  simp only [Region.schedule,hm,Bool.true_or,if_true]
  exact Ev (Q1:=kE (Q .normal)) aT (fun e a w h=>h) _ _ _ (wpAny_sound ops.size t _ a _ h)
end
section
variable {P:Program}{n:Nat}{w0:World}{zs:List aR}{hs:List aC}{L L':List (Nat×Value)}{l:List Oper}{k:Nat}{ro:Option Nat}{m:Nat}
theorem agO[a1]{id:Nat}{Q:Exit→Act→World→Prop}{a:Act}{w:World}(aT:l.all o1=true)(ab:Fr n L a)(U:aB w0 zs hs w)
  (s:fS P n w0 zs hs l.toArray k L l L' []) (K:∀ a w,Fr n L' a→aB w0 zs hs w→Q .normal a w):(Code.region id l.toArray false).wpIn (gZ ro) m P Q a w:=by
 refine wpIn_region_lit ?_
 have:=Bg (ro:=ro) (m:=m) (Q:=Q) (l2:=[]) (Q1:=kE (Q .normal)) (fun e a w h=>h) l a w aT (lQ ab U s fun a w ab U=>wpList_nil ⟨rfl,K a w ab U⟩)
 simpa using this
theorem xH{id:Nat}{Q:Exit→Act→World→Prop}{a:Act}{w:World}(aT:l.all o1=true)(h:wpList P l.toArray (kE (Q .normal)) l a w):(Code.region id l.toArray false).wpIn (gZ ro) m P Q a w:=by
 refine wpIn_region_lit ?_
 have:=Bg (ro:=ro) (m:=m) (Q:=Q) (l2:=[]) (Q1:=kE (Q .normal)) (fun e a w h=>h) l a w aT h
 simpa using this
theorem qE{ops:Array Oper}{J:Act→World→Prop}{a:Act}{w:World}(h:J a w):wpList P ops (kE J) [] a w:=⟨rfl,h⟩
theorem ajB[a1]{F:Fence}{c:Operand}{dN cy:Code}{Q:Exit→Act→World→Prop}{a:Act}{w:World}{b:Bool}(ab:Fr n L a)(h:aW L c=some (.bool b))(aN:b=true→dN.wpIn F m P Q a w)(bw:b=false→cy.wpIn F m P Q a w):(Code.cond c dN cy).wpIn F m P Q a w:=
 wpIn_cond_split (ab.eval h) aN bw
end
end Go.aK
end
section
namespace Go.aK
theorem afg(w:World)(b:Nat)(o:Obj):mW w (w.putObj b o):=⟨rfl,rfl,rfl⟩
theorem aB.swap{w0 w:World}{zs:List aR}{hs:List aC}{b:Nat}{o:Obj}(h:aB w0 (ey b o::zs) hs w)(bj:∀ z∈zs,z b=none)(o':Obj):aB w0 (ey b o'::zs) hs (w.putObj b o'):=by
 have w8:=h.zone _ List.mem_cons_self
 have aw:w.heap[b]?=some o:=w8.1 b o (by unfold ey;rw [if_pos rfl])
 have m3:w0.heap.size≤b:=w8.2 b o (by unfold ey;rw [if_pos rfl])
 have gK:b<w.heap.size:=(Array.getElem?_eq_some_iff.1 aw).1
 have fj:∀ r∈hs,r.id≠some b:=fun r aY e=>by
  have:=(h.own r aY).2 b e _ List.mem_cons_self
  unfold ey at this
  rw [if_pos rfl] at this
  cases this
 refine ⟨fun k ob aE=>?_,fun z jH=>?_,fun r aY=>⟨aC.vu (h.own r aY).1 fun k aE=>World.putObj_heap_other (fun e=>fj r aY (by rw [aE,e])),fun k aE z jH=>?_⟩,h.nd,h.io.trans (afg _ _ _)⟩
 ·have h1:=h.ext k ob aE
  have rJ:k≠b:=by have:=lb aE;omega
  simp only [cf] at h1 ⊢
  rw [World.putObj_heap_other rJ];exact h1
 ·rcases List.mem_cons.1 jH with rfl | qB
  ·refine ⟨fun k ob aE=>?_,fun k ob aE=>?_⟩
   ·obtain ⟨rfl,rfl⟩:=tp aE;exact World.putObj_heap_same gK
   ·obtain ⟨rfl,rfl⟩:=tp aE;exact m3
  ·refine ⟨fun k ob aE=>?_,(h.zone z (List.mem_cons_of_mem _ qB)).2⟩
   have h1:=(h.zone z (List.mem_cons_of_mem _ qB)).1 k ob aE
   have rJ:k≠b:=by
    intro e
    rw [e,bj z qB] at aE
    cases aE
   simp only [cf] at h1 ⊢
   rw [World.putObj_heap_other rJ];exact h1
 ·rcases List.mem_cons.1 jH with rfl | qB
  ·have:=fj r aY
   unfold ey
   rw [if_neg (fun e=>this (by rw [aE,e]))]
  ·exact (h.own r aY).2 k aE z (List.mem_cons_of_mem _ qB)
def akK(P:Program)(Y v:Value)(I J:World→Prop):Prop:=
 ∀ w,I w→∃ (l:Nat) (f:FuncId) (tmps:Array Value) (assign body:Code),Y=.func (.yield l) #[] #[]∧(Instr.yield l #[v]).run P w=.ok (.round l f tmps assign body) w ∧
  ∀ m,RoundIn (gZ none) m P l f tmps assign body w fun e w'=>e=.returned (.bool true)∧J w'
section
variable {P:Program}{n:Nat}{w0:World}{zs:List aR}{L:List (Nat×Value)}
theorem Gb{f:FuncId}{fn:Func}{cd:Code}(bw:P.funcs[f]?=some fn)(aw:fn.body=some cd){k:Nat}(aE:fn.ntmps=k){args:List Value}(bD:args.length≤k){w:World}{R:Value→List aR→List aC→Prop}
  (h:∀ a,Fr k (pI 0 args) a→aB w [] [] w→cd.wp P (bodyPostM (gZ none) 0 P fn fun e w'=>∃ v zs hs,e=.returned v∧aB w zs hs w'∧R v zs hs) a w):cC P f args w R:=by
 subst aE
 exact (callsIn_wide (n:=0)).1 (callsIn_of_wp_marks bw aw trivial ((wpIn_wide (n:=0)).2 (h _ (Fr.enter _ _ bD) (aB.start w))))
theorem Nf{fn:Func}{w:World}{hs:List aC}{a:Act}{R:Value→List aR→List aC→Prop}{rs:List ResultVar}(k7:fn.results=rs.toArray)(ab:Fr n L a)(U:aB w0 zs hs w){vs:List Value}(bA:sk P L hs rs vs){zs' hs'}(h1:zs'.Sublist zs)(ar:hs'.Sublist hs)(fD:R (vD vs) zs' hs') :
  bodyPostM (gZ none) 0 P fn (fun e w'=>∃ v zs hs,e=.returned v∧aB w0 zs hs w'∧R v zs hs) .ret a w:=by
 have gx:a.defers=[]:=ab.nodef
 show LeavesInM (gZ none) 0 P fn a.tmps _ a.defers .returning w
 rw [gx]
 exact ⟨_,tI k7 ab U bA,_,_,_,rfl,U.ao h1 ar,fD⟩
theorem DT{id:Nat}{Q:Exit→Act→World→Prop}{a:Act}{w:World}{l:List Oper}(hQ:Nat)(aT:l.all o1=true)
  (h:wpList P l.toArray (kE (wpListIn (gZ none) 0 P l.toArray Q (l.drop hQ))) (l.take hQ) a w):(Code.region id l.toArray false).wp P Q a w:=by
 refine wpIn_wide (n:=0).1 (wpIn_region_lit ?_)
 have:=Bg (ro:=none) (m:=0) (Q:=Q) (l2:=l.drop hQ) (fun e a w h=>h) (l.take hQ) a w (by rw [List.all_eq_true] at aT ⊢;exact fun x aM=>aT x (List.mem_of_mem_take aM)) h
 rwa [List.take_append_drop] at this
theorem r9[a1]{hs:List aC}{ops:Array Oper}{Q:Exit→Act→World→Prop}:∀ {k:Nat}{L L' l l'}{a:Act}{w:World},l.all o1=true→Fr n L a→aB w0 zs hs w→fS P n w0 zs hs ops k L l L' l' →
  (∀ a w,Fr n L' a→aB w0 zs hs w→wpListIn (gZ none) 0 P ops Q l' a w)→wpListIn (gZ none) 0 P ops Q l a w
 | 0,_,_,_,_,a,w,_,ab,U,h,K=>by obtain ⟨rfl,rfl⟩:=h;exact K a w ab U
 | k+1,_,_,_,_,a,w,aT,ab,U,h,K=>by
  obtain ⟨o,r,v,rfl,wT,ch,aY⟩:=h
  simp only [List.all_cons,Bool.and_eq_true] at aT
  unfold wpListIn
  rcases ch a ab with ⟨hw,ch⟩ | ⟨hw,rfl⟩
  ·simp only [hw,if_true]
   refine ⟨fun _ _=>trivial,?_⟩
   rw [show (gZ none).round=none from rfl,Oper.semAt_none]
   have:=ch w U
   generalize (execOp a.eval o).run P w=res at this
   cases res with
   | halt x w'=>simp only [Oper.quietUpon] at this
   | ok nx w'=>
    cases nx <;> simp only [Oper.quietUpon] at this <;> simp only [Oper.uponIn]
    case value u=>obtain ⟨rfl,rfl⟩:=this;exact r9 aT.2 (ab.up wT) U aY K
    case skip=>obtain ⟨rfl,rfl⟩:=this;exact r9 aT.2 (ab.up wT) U aY K
    case enter f args=>
     obtain ⟨rfl,bq⟩:=this
     exact ⟨fun jf=>(by cases jf),(BS bq).mono fun e yc ⟨he,zP⟩=>by subst he;exact r9 aT.2 (ab.up wT) zP aY K⟩
  ·simp only [hw,Bool.false_eq_true,if_false]
   exact ⟨fun _ _=>trivial,r9 aT.2 (ab.up wT) U aY K⟩
def mU(P:Program)(f:FuncId)(args:List Value)(w0:World)(bU:List aR)(own cF:List aC)(R:Value→List aR→List aC→Prop):Prop:=
 ∀ (w:World),aB w0 bU (own++cF) w→Calls P f args.toArray w fun e w'=>∃ v dB c5,e=.returned v∧aB w0 (dB++bU) (c5++cF) w'∧R v dB c5
theorem Gc{f:FuncId}{fn:Func}{cd:Code}(bw:P.funcs[f]?=some fn)(aw:fn.body=some cd){k:Nat}(aE:fn.ntmps=k){args:List Value}(bD:args.length≤k){w0:World}{bU:List aR}{own cF:List aC}{R:Value→List aR→List aC→Prop}
  (h:∀ a w,Fr k (pI 0 args) a→aB w0 bU (own++cF) w→cd.wp P (bodyPost P fn fun e w'=>∃ v dB c5,e=.returned v∧aB w0 (dB++bU) (c5++cF) w'∧R v dB c5) a w):mU P f args w0 bU own cF R:=by
 subst aE
 intro w U
 exact calls_of_wp bw aw (h _ w (Fr.enter _ _ bD) U)
theorem Gd{fn:Func}{w:World}{hs:List aC}{a:Act}{R:Value→List aR→List aC→Prop}{bU:List aR}{cF:List aC}(k7:fn.results=#[])(ab:Fr n L a)(U:aB w0 zs hs w)(dB:List aR)(c5:List aC)(h1:(dB++bU).Sublist zs)(ar:(c5++cF).Sublist hs)(fD:R (.tuple #[]) dB c5) :
  bodyPost P fn (fun e w'=>∃ v dB c5,e=.returned v∧aB w0 (dB++bU) (c5++cF) w'∧R v dB c5) .normal a w:=
 ⟨ab.nodef,_,tI (rs:=[]) (vs:=[]) k7 ab U trivial,_,_,_,rfl,U.ao h1 ar,fD⟩
end
end Go.aK
namespace Go.aK
section
variable {P:Program}{n:Nat}{w0:World}{zs:List aR}{L:List (Nat×Value)}{m:Nat}
theorem mU.full{f:FuncId}{args:List Value}{bU:List aR}{cm cR il:aC}{cF:List aC}{J:aC→Prop}(h:mU P f args w0 bU [cm,cR,il] cF (fun _ dB c5=>dB=[]∧∃ r,c5=[cm,cR,r]∧J r))(w:World)(U:aB w0 bU (cm::cR::il::cF) w) :
  Calls P f args.toArray w fun e w'=>(∃ v,e=.returned v)∧∃ r,J r∧aB w0 bU (cm::cR::r::cF) w':=
 Calls.mono (h w U) fun e w' ⟨v,dB,c5,he,jX,h1,r,ar,aQ⟩=>by
  subst h1 ar
  exact ⟨⟨v,he⟩,r,aQ,jX⟩
end
end Go.aK
end
section
namespace Go.aK
open Go Go.Sem
def pD{α:Type}[DecidableEq α](a:α)(l:List (α×Value)):List (α×Value):=match gI a l 0 with
 | some (i,_)=>l.eraseIdx i
 | none=>l
section
variable {P:Program}{n:Nat}{w0:World}{zs:List aR}{hs:List aC}{L:List (Nat×Value)}{d:Option Tmp}{ty t t2:TypeId}{pos:String}{af:Array Edge}{g:Option (Nat×Bool)}{x y kR:Operand}{u v:Value}
variable {α:Type}[DecidableEq α]{kf:α→Value}{V:α→Prop}{kt e:TypeId}
theorem z7{β γ:Type}(f:β→γ):∀ (l:List β) (i:Nat),(l.map f).eraseIdx i=(l.eraseIdx i).map f
 | [],_=>rfl
 | _::_,0=>rfl
 | x::l,i+1=>by
  simp only [List.map_cons,List.eraseIdx_cons_succ,z7 f l i]
omit [DecidableEq α] in
theorem PJ{l:List (α×Value)}{es:List MapEntry}(h:hx kf l es):es.length=l.length:=by
 have:=congrArg List.length h
 simpa using this
omit [DecidableEq α] in
theorem ad9{l:List (α×Value)}{es:List MapEntry}(h:hx kf l es)(i:Nat):hx kf (l.eraseIdx i) (es.eraseIdx i):=by
 unfold hx at h ⊢
 rw [← z7,← z7,h]
theorem afU[a1]{s bu:Nat}{zv:Value}(aN:ba P t (.map kt e) s bu zv){de:TypeDesc}{se be:Nat}{ze:Value}(cr:ba P e de se be ze)(dU:qc P kt kf V)(k:Nat){l:List (α×Value)}{es:List MapEntry}{c b:Nat}(h1:aW L x=some (.map (some b))){a:α}(ar:aW L y=some (kf a))(aE:hs[k]?=some (.mp b es c))(eP:hx kf l es)(kH:∀ p∈l,V p.1)(bg:V a){ok:Bool}(hu:(gv l a).getD ze=u)(cH:(gv l a).isSome=ok) :
  bR P n w0 zs hs L ⟨d,.lookup t x y true,ty,pos,af,g⟩ (.tuple [u,.bool ok].toArray):=by
 have:=afT (P:=P) (n:=n) (w0:=w0) (zs:=zs) (d:=d) (ty:=ty) (pos:=pos) (af:=af) (g:=g) aN cr dU k h1 ar aE eP kH bg
 rwa [hu,cH] at this
theorem Ng{a:α}:∀ {l:List (α×Value)}{i:Nat},gI a l i=none→a ∉ l.map (·.1)
 | [],_,_=>by simp
 | p::l,i,h=>by
  unfold gI at h
  split at h
  ·cases h
  ·rename_i fG
   have:=Ng h
   rw [List.map_cons,List.mem_cons]
   rintro (e | e)
   ·exact fG e
   ·exact this e
theorem Ge{a:α}:∀ {l:List (α×Value)}{i j:Nat}{v:Value},gI a l i=some (j,v)→l[j-i]?.map (·.1)=some a
 | [],_,_,_,h=>by cases h
 | p::l,i,j,v,h=>by
  have m3:=Cf h
  unfold gI at h
  split at h
  ·rename_i he
   simp only [Option.some.injEq,Prod.mk.injEq] at h
   obtain ⟨rfl,_⟩:=h
   rw [Nat.sub_self,he];rfl
  ·have ar:=Cf h
   have:=Ge h
   obtain ⟨m,hm⟩:∃ m,j-i=m+1∧j-(i+1)=m:=⟨j-(i+1),by omega,rfl⟩
   rw [hm.1]
   rw [hm.2] at this
   simpa using this
theorem UN{a y:α}{l:List (α×Value)}(bD:(l.map (·.1)).Nodup):(y∈(pD a l).map (·.1)↔y∈l.map (·.1)∧y≠a)∧((pD a l).map (·.1)).Nodup:=by
 unfold pD
 cases bw:gI a l 0 with
 | none=>
  have:=Ng bw
  exact ⟨⟨fun h=>⟨h,fun e=>this (e ▸ h)⟩,fun h=>h.1⟩,bD⟩
 | some p=>
  obtain ⟨i,v⟩:=p
  have h1:=Ge bw
  rw [Nat.sub_zero,← List.getElem?_map] at h1
  simp only []
  rw [← z7]
  generalize l.map (·.1)=ks at *
  obtain ⟨aH,rfl⟩:=List.getElem?_eq_some_iff.1 h1
  refine ⟨?_,List.Pairwise.sublist (List.eraseIdx_sublist _ _) bD⟩
  rw [List.mem_eraseIdx_iff_getElem]
  constructor
  ·rintro ⟨j,aV,kJ,rfl⟩
   refine ⟨List.getElem_mem _,fun e=>kJ ?_⟩
   exact (List.getElem_inj bD).1 e
  ·rintro ⟨hm,fG⟩
   obtain ⟨j,aV,rfl⟩:=List.mem_iff_getElem.1 hm
   exact ⟨j,aV,fun e=>fG (by subst e;rfl),rfl⟩
theorem Ff{a:α}{v:Value}:∀ {l:List (α×Value)},(l.map (·.1)).Nodup→((iG a v l).map (·.1)).Nodup
 | [],_=>by simp [iG]
 | p::l,h=>by
  rw [iG]
  rw [List.map_cons,List.nodup_cons] at h
  split
  ·rename_i he
   rw [List.map_cons,List.nodup_cons,he]
   exact h
  ·rename_i fG
   rw [List.map_cons,List.nodup_cons]
   refine ⟨fun hm=>?_,Ff h.2⟩
   have:∀ l:List (α×Value),p.1∈(iG a v l).map (·.1)→p.1=a∨p.1∈l.map (·.1):=fun l=>by
    induction l with
    | nil=>intro h;simp [iG] at h;exact .inl h
    | cons q l ih=>
    intro h
    rw [iG] at h
    split at h
    ·rw [List.map_cons,List.mem_cons] at h
     exact h.imp id fun h=>List.mem_cons_of_mem _ h
    ·rw [List.map_cons,List.mem_cons] at h
     rcases h with h | h
     ·exact .inr (by rw [h];exact List.mem_cons_self)
     ·exact (ih h).imp id fun h=>List.mem_cons_of_mem _ h
   rcases this l hm with e | e
   ·exact fG e.symm
   ·exact h.1 e
end
end Go.aK
end
section
namespace Go.aK
section
variable {P:Program}{n:Nat}{w0:World}{zs:List aR}{hs:List aC}{v:Value}
end
end Go.aK
end
section
namespace Go.aK
section
variable {P:Program}{n:Nat}{w0:World}{zs:List aR}{hs:List aC}{L:List (Nat×Value)}{d:Option Tmp}{ty t b7:TypeId}{pos:String}{af:Array Edge}{g:Option (Nat×Bool)}
variable {x y c:Operand}{u v:Value}
theorem W7(xs:List (List UInt8)):xs.flatten.map bn=(xs.map fun l=>l.map bn).flatten:=by rw [List.map_flatten]
theorem afK[a1]{e5:TypeId}{m size:Nat}{bS:TypeDesc}{bu:Nat}{zv:Value}(aN:ba P t bS size bu zv)(k:Nat){xs:List (List UInt8)}{j:Nat}(aE:hs[k]?=some (.row v e5 size m (xs.flatten.map bn)))(hl:∀ x∈xs,x.length=size)(h1:aW L x=some (dn v (j*size)))(aV:j<xs.length)(h0:0<size)(aT:fg bS=true) :
  bR P n w0 zs hs L ⟨d,.load t x,ty,pos,af,g⟩ (.agg ((xs.getD j []).map bn).toArray):=by
 have:=QQ (P:=P) (n:=n) (w0:=w0) (zs:=zs) (d:=d) (ty:=ty) (pos:=pos) (af:=af) (g:=g) aN k (xs.map fun l=>l.map bn) j (by rw [aE,W7]) (fun c bq=>by
  obtain ⟨l,zz,rfl⟩:=List.mem_map.1 bq
  rw [List.length_map,hl l zz]) h1 (by simpa using aV) h0 aT
 have e:(xs.map fun l=>l.map bn).getD j []=(xs.getD j []).map bn:=by
  rw [List.getD_eq_getElem?_getD,List.getD_eq_getElem?_getD,List.getElem?_map]
  cases xs[j]? <;> rfl
 rwa [e] at this
theorem FV{α:Type}{size:Nat}:∀ {xs:List (List α)}(_:∀ x∈xs,x.length=size) {j:Nat}{c:List α}(_:c.length=size) (_:j<xs.length),xs.flatten.take (j*size)++c++xs.flatten.drop (j*size+c.length)=(xs.set j c).flatten
 | [],_,j,c,_,aV=>by simp at aV
 | x::xs,h,0,c,bq,_=>by
  have aM:=h x List.mem_cons_self
  simp only [Nat.zero_mul,List.take_zero,List.nil_append,Nat.zero_add,List.flatten_cons,List.set_cons_zero]
  rw [bq,← aM,List.drop_left']
  rfl
 | x::xs,h,j+1,c,bq,aV=>by
  have aM:=h x List.mem_cons_self
  have ih:=FV (xs:=xs) (fun y cZ=>h y (List.mem_cons_of_mem _ cZ)) (j:=j) bq (by simpa using aV)
  simp only [List.flatten_cons,List.set_cons_succ]
  rw [← ih,Nat.add_mul,Nat.one_mul,List.take_append,List.drop_append,aM]
  rw [List.take_of_length_le ag,List.drop_eq_nil_of_le ag]
  rw [show j*size+size-size=j*size by omega,show j*size+size+c.length-size=j*size+c.length by omega]
  simp [List.append_assoc]
end
def alj:ej (List (List UInt8)×List Int) where
 size:=2
 rep z x c:=∃ kv mv,c=[kv,mv]∧bo (pH 16) z kv x.1∧bo encI z mv x.2
 mono bj h:=by obtain ⟨kv,mv,h1,ar,aQ⟩:=h;exact ⟨kv,mv,h1,ar.mono bj,aQ.mono bj⟩
 len h:=by obtain ⟨kv,mv,h1,_⟩:=h;rw [h1];rfl
 one h u hu:=by
  obtain ⟨kv,mv,h1,ar,aQ⟩:=h
  rw [h1] at hu
  simp only [List.mem_cons,List.not_mem_nil,or_false] at hu
  rcases hu with rfl | rfl
  ·exact mP ar
  ·exact mP aQ
end Go.aK
end
section
namespace Go.aK
section
variable {P:Program}{n:Nat}{w0:World}{zs:List aR}{hs:List aC}{L:List (Nat×Value)}{d:Option Tmp}{ty t:TypeId}{pos:String}{af:Array Edge}{g:Option (Nat×Bool)}{x:Operand}
theorem afP[a1]{z:aR}{bS:TypeDesc}{s bu:Nat}{zv:Value}(aN:ba P t bS s bu zv){b off:Nat}{cs:Array Value}{mj:TypeId}{fz:Nat×Nat}{u:Value}(h1:aW L x=some (.pointer (some ⟨b,off,none⟩)))(aT:fg bS=false)(bj:gQ w0 zs z)(aw:z b=some (.cells cs mj fz))(bq:cs[off]?=some u) :
  bR P n w0 zs hs L ⟨d,.load t x,ty,pos,af,g⟩ u:=
 eV fun a bg w hw=>by
  have CC:=hw.le bj _ _ aw
  have nI:w.cell? ⟨b,off,none⟩=some u:=by
   rw [cell_of_row w b off _ mj _ CC]
   exact bq
  have he:a.eval x=.pointer (some ⟨b,off,none⟩):=bg.eval h1
  simp only [execOp,he]
  simp [Instr.loadAt,Instr.sureAddr,vG aN aT nI]
end
end Go.aK
end
section
namespace Go.aK
open Go Go.Sem
section
variable {P:Program}{n:Nat}{w0:World}{zs:List aR}{hs:List aC}{L:List (Nat×Value)}{d:Option Tmp}{ty t:TypeId}{pos:String}{af:Array Edge}{g:Option (Nat×Bool)}{x y:Operand}{v:Value}
theorem IZ[a1]{z:aR}{xs:List UInt8}{e arr:TypeId}{m s bu:Nat}{zv:Value}(aN:ba P arr (.array m e) s bu zv)(U:bo hc z v xs)(h1:aW L x=some v)(hm:m≤xs.length)(h0:0<m) :
  bR P n w0 zs hs L ⟨d,.sliceToArrayPointer arr x,ty,pos,af,g⟩ (dn v 0):=
 eV fun a bg w hw=>by
  obtain ⟨_,aa,cc,rfl,oT,h⟩:=U
  obtain ⟨b,off,cs,mj,fz,dN,rfl,_⟩:=h 0 (xs[0]'ag) (by simp)
  have gK:¬ xs.length<m:=by omega
  simp only [execOp,bg.eval h1]
  simp [Instr.arrayAt,run_underlying aN.und,gK,dn,fU]
theorem IS[a1]{z:aR}{xs:List UInt8}{bS:TypeDesc}{m bu:Nat}{zv:Value}(aN:ba P t bS m bu zv)(U:bo hc z v xs)(bj:gQ w0 zs z)(h1:aW L x=some (dn v 0))(aT:fg bS=true)(hm:xs.length=m)(h0:0<m) :
  bR P n w0 zs hs L ⟨d,.load t x,ty,pos,af,g⟩ (.agg (xs.map bn).toArray):=
 eV fun a bg w hw=>by
  obtain ⟨_,aa,cc,rfl,oT,h⟩:=U
  obtain ⟨b,off,cs,mj,fz,dN,rfl,gn,_⟩:=h 0 (xs[0]'ag) (by simp)
  have aw:=hw.le bj _ _ gn
  have bq:∀ i,i<xs.length→cs[off+i]?=some (bn (xs.getD i 0)):=by
   intro i aH
   obtain ⟨dD,aov,ak6,aqf,alG,ak7,bL,bT,fm,iw⟩:=h i xs[i] (by simp [aH])
   simp only [Option.some.injEq,Addr.mk.injEq,and_true] at bL
   obtain ⟨rfl,rfl⟩:=bL
   rw [gn] at bT
   simp only [Option.some.injEq,Obj.cells.injEq] at bT
   obtain ⟨rfl,rfl,rfl⟩:=bT
   have:=iw 0 (bn xs[i]) (by rw [fm.1];rfl)
   have qm:xs.getD i 0=xs[i]:=by simp [aH]
   rw [qm]
   simpa [hc,ly] using this
  have rG:off+m≤cs.size:=by
   have:=bq (m-1) ag
   have:=(Array.getElem?_eq_some_iff.1 this).1
   omega
  have aY:=xK aN aT aw rG
  have he:(cs.toList.drop off).take m=xs.map bn:=by
   apply List.ext_getElem?
   intro i
   rw [List.getElem?_take,List.getElem?_drop,List.getElem?_map]
   split
   ·rename_i aH
    have:=bq i ag
    have qm:xs.getD i 0=xs[i]:=by simp [show i<xs.length by omega]
    rw [qm] at this
    rw [List.getElem?_eq_getElem (show i<xs.length by omega)]
    simpa using this
   ·rw [List.getElem?_eq_none ag];rfl
  rw [he] at aY
  have uV:a.eval x=.pointer (some ⟨b,off,none⟩):=(bg.eval h1).trans (by simp [dn,fU])
  simp only [execOp,uV]
  simp [Instr.loadAt,Instr.sureAddr,aY]
end
end Go.aK
end
section
namespace Go.aK
open Go Go.Sem
section
variable {P:Program}{n:Nat}{w0:World}{zs:List aR}{hs:List aC}{L:List (Nat×Value)}{d:Option Tmp}{ty t:TypeId}{pos:String}{af:Array Edge}{g:Option (Nat×Bool)}{x y:Operand}{v:Value}
end
end Go.aK
end
section
namespace Go.aK
open Go Go.Sem
section
variable {P:Program}{n:Nat}{w0:World}{zs:List aR}{hs:List aC}{L:List (Nat×Value)}{d:Option Tmp}{ty t b7:TypeId}{pos:String}{af:Array Edge}{g:Option (Nat×Bool)}{x y:Operand}{v:Value}
theorem Mf{op:BinOp}{p q:Option Addr}(w:World):(eqGuard op t x y (.pointer p) (.pointer q)).run P w=.ok () w:=by
 cases op <;> simp [eqGuard]
theorem Mg(bS:Nat){e:TypeId}(hu:P.underlying t=some (.pointer e))(p:Option Addr)(w:World):(Op.equalIn (bS+1) t (.pointer p) (.pointer none)).run P w=.ok p.isNone w:=by
 cases p <;> simp [Op.equalIn,run_underlying hu]
theorem afw[a1]{e:TypeId}{s b:Nat}{zv:Value}(aN:ba P t (.pointer e) s b zv){p:Option Addr}(h1:aW L x=some (.pointer p))(ar:aW L y=some (.pointer none)) :
  bR P n w0 zs hs L ⟨d,.binOp .eql t x y b7,ty,pos,af,g⟩ (.bool p.isNone):=
 fu h1 ar Mf fun w=>by
  simp only [binOp]
  simp [Op.equal,Op.maxDepth,Mg 9999 aN.und p w]
theorem sy[a1](m:Nat){f:FuncId}(bw:b1 P f){os:List Operand}{vs:List Value}{ats:Array TypeId}{R:Value→List aR→List aC→Prop}(h1:iP L os=some vs)(bq:e1 P f vs w0 zs (hs.take m) R) :
  fJ P n w0 zs hs L ⟨d,.call ⟨.value (.func f),os.toArray,ats⟩,ty,pos,af,g⟩ (fun v zs' hs'=>∃ iu h1,zs'=iu++zs∧hs'=h1++hs.drop m∧R v iu h1):=
 dv bw h1 (rest:=hs.drop m) (by rw [List.take_append_drop]) bq
end
end Go.aK
end
section
namespace Go.aK
open Go Go.Sem
def akL(l:List Int):Value:=.agg (l.map aA).toArray
section
variable {P:Program}
end
def EK(P:Program)(w:World)(fv:Value)(q:Int→Prop)(f:Int→List UInt8):Prop:=
 ∃ g fs cs,fv=.func (.func g) fs.toArray cs.toArray∧b1 P g∧∀ w',(cf w).le (cf w')→∀ x,q x→cC P g (fs++[aA x]++cs) w' (fun r _ _=>r=.agg ((f x).map bn).toArray)
theorem EK.mono{P:Program}{w w':World}{fv:Value}{q:Int→Prop}{f:Int→List UInt8}(h:EK P w fv q f)(hle:(cf w).le (cf w')):EK P w' fv q f:=by
 obtain ⟨g,fs,cs,h1,ar,aQ⟩:=h
 exact ⟨g,fs,cs,h1,ar,fun mm bF=>aQ mm (aR.Dd hle bF)⟩
section
variable {P:Program}{n:Nat}{w0:World}{zs:List aR}{hs:List aC}{L:List (Nat×Value)}{d:Option Tmp}{ty t:TypeId}{pos:String}{af:Array Edge}{g:Option (Nat×Bool)}{x:Operand}
end
end Go.aK
end
section
namespace Go.aK
open Go Go.Sem
section
variable {P:Program}{n:Nat}{w0:World}{zs:List aR}{hs:List aC}{ops:Array Oper}{L L':List (Nat×Value)}{k:Nat}
end
end Go.aK
end
section
namespace Go.aK
def mY{α:Type}(f:α→List Value)(m:Nat)(p:α→Prop)(hl:∀ x,(f x).length=m)(h1:∀ x,∀ u∈f x,u.oneCell'=true):ej α where
 size:=m
 rep _ x c:=c=f x∧p x
 mono _ h:=h
 len h:=by rw [h.1];exact hl _
 one h u hu:=by rw [h.1] at hu;exact h1 _ u hu
section
variable {α β:Type}{f:α→List β}{m:Nat}
theorem My(hl:∀ x,(f x).length=m)(xs:List α):(xs.flatMap f).length=xs.length*m:=by
 induction xs with
 | nil=>simp
 | cons a t ih=>rw [List.flatMap_cons,List.length_append,ih,hl,List.length_cons,Nat.add_mul];omega
theorem wC(hl:∀ x,(f x).length=m):∀ {xs:List α}{i:Nat}{x:α},xs[i]?=some x→∀ {j:Nat},j<m→(xs.flatMap f)[i*m+j]?=(f x)[j]?
 | [],i,x,h,j,_=>by simp at h
 | a::t,0,x,h,j,aV=>by
  simp only [List.getElem?_cons_zero,Option.some.injEq] at h
  subst h
  rw [List.flatMap_cons,Nat.zero_mul,Nat.zero_add,List.getElem?_append_left (by rw [hl];exact aV)]
 | a::t,i+1,x,h,j,aV=>by
  rw [List.getElem?_cons_succ] at h
  rw [List.flatMap_cons,List.getElem?_append_right (by rw [hl,Nat.add_mul];omega),hl,show (i+1)*m+j-m=i*m+j by rw [Nat.add_mul];omega]
  exact wC hl h aV
theorem Mz(hl:∀ x,(f x).length=m):∀ {xs:List α}{i:Nat}{x x':α},xs[i]?=some x→∀ {j:Nat}{u:β},j<m→f x'=(f x).set j u→(xs.flatMap f).set (i*m+j) u=(xs.set i x').flatMap f
 | [],i,x,x',h,j,u,_,_=>by simp at h
 | a::t,0,x,x',h,j,u,aV,hu=>by
  simp only [List.getElem?_cons_zero,Option.some.injEq] at h
  subst h
  rw [List.flatMap_cons,Nat.zero_mul,Nat.zero_add,List.set_append_left _ _ (by rw [hl];exact aV),List.set_cons_zero,List.flatMap_cons,hu]
 | a::t,i+1,x,x',h,j,u,aV,hu=>by
  rw [List.getElem?_cons_succ] at h
  rw [List.flatMap_cons,List.set_append_right _ _ (by rw [hl,Nat.add_mul];omega),hl,show (i+1)*m+j-m=i*m+j by rw [Nat.add_mul];omega,Mz hl h aV hu,List.set_cons_succ,List.flatMap_cons]
end
section
variable {α:Type}{f:α→List Value}{m:Nat}{p:α→Prop}{hl:∀ x,(f x).length=m}{h1:∀ x,∀ u∈f x,u.oneCell'=true}
variable {z:aR}{v:Value}{xs:List α}
theorem Ib(h6:α){k:Nat}(aE:k<xs.length):xs[k]?=some (xs.getD k h6):=by
 rw [List.getD_eq_getElem?_getD,List.getElem?_eq_getElem aE];rfl
theorem Kr(h6:α)(U:bo (mY f m p hl h1) z v xs){k:Nat}(aE:k<xs.length):oH z (dn v (k*m)) m=f (xs.getD k h6)∧p (xs.getD k h6):=U.rep (Ib h6 aE)
theorem Kq(U:bo (mY f m p hl h1) z v xs):∀ x∈xs,p x:=fun x aM=>by
 obtain ⟨k,aE,rfl⟩:=List.getElem_of_mem aM
 exact (U.rep (i:=k) (x:=xs[k]) (by simp [aE])).2
theorem Bt(xs:List α)(h1:∀ x,∀ u∈f x,u.oneCell'=true):∀ u∈xs.flatMap f,u.oneCell'=true:=fun u hu=>by
 obtain ⟨x,_,aM⟩:=List.mem_flatMap.1 hu
 exact h1 x u aM
theorem aB.Gh{w0:World}{zs:List aR}{hs:List aC}{w:World}{e:TypeId}{k:Nat}(h:aB w0 zs (.row v e m k (xs.flatMap f)::hs) w)(hm:k=xs.length)(aw:k≤140737488355328)(bO:∀ x∈xs,p x):∃ z,bo (mY f m p hl h1) z v xs∧aB w0 (z::zs) hs w:=by
 refine aB.freeze (E:=mY f m p hl h1) h (.inl rfl) hm aw fun i x aM=>⟨f x,⟨rfl,bO x (List.mem_of_getElem? aM)⟩,fun j u hu=>?_⟩
 have aV:j<m:=by rw [← hl x];exact (List.getElem?_eq_some_iff.1 hu).1
 exact (wC hl aM aV).trans hu
theorem ie{base:Nat}{w:World}{e:TypeId}{k:Nat}(h:(aC.row v e m k (xs.flatMap f)).ok base w)(hm:k=xs.length)(aw:k≤140737488355328)(bO:∀ x∈xs,p x):bo (mY f m p hl h1) (cf w) v xs:=by
 refine IF (E:=mY f m p hl h1) h hm aw fun i x aM=>⟨f x,⟨rfl,bO x (List.mem_of_getElem? aM)⟩,fun j u hu=>?_⟩
 have aV:j<m:=by rw [← hl x];exact (List.getElem?_eq_some_iff.1 hu).1
 exact (wC hl aM aV).trans hu
end
section
variable {P:Program}{n:Nat}{w0:World}{zs:List aR}{hs:List aC}{L:List (Nat×Value)}{d:Option Tmp}{ty t:TypeId}{pos:String}{af:Array Edge}{g:Option (Nat×Bool)}{x y:Operand}{u v:Value}
variable {α:Type}{f:α→List Value}{m:Nat}{p:α→Prop}{hl:∀ x,(f x).length=m}{h1:∀ x,∀ u∈f x,u.oneCell'=true}{z:aR}{xs:List α}
theorem aif{tx e:TypeId}{s bu:Nat}{zv:Value}(aN:ba P tx (.slice e) s bu zv)(U:bo (mY f m p hl h1) z v xs)(bj:gQ w0 zs z)(h0:0<m):ui P w0 zs hs m tx v xs.length (xs.flatMap f):=by
 refine Sy (E:=mY f m p hl h1) aN U bj _ (My hl xs) (Bt xs h1) (fun i x dN aM aY j aV=>?_) h0
 rw [aY.1]
 exact wC hl aM aV
theorem IT[a1](h6:α){bS:TypeDesc}{bu:Nat}{zv:Value}(aN:ba P t bS m bu zv){k:Nat}(U:bo (mY f m p hl h1) z v xs)(bj:gQ w0 zs z)(ar:aW L x=some (dn v (k*m)))(aT:fg bS=true)(h0:0<m)(aE:k<xs.length) :
  bR P n w0 zs hs L ⟨d,.load t x,ty,pos,af,g⟩ (.agg (f (xs.getD k h6)).toArray):=by
 have:=IV (P:=P) (n:=n) (w0:=w0) (zs:=zs) (hs:=hs) (L:=L) (d:=d) (ty:=ty) (pos:=pos) (af:=af) (g:=g) (x:=x) (E:=mY f m p hl h1) aN (k:=k) (m:=k*m) rfl h0 U bj ar aT aE
 have e:=(Kr h6 U aE).1
 rw [← e]
 exact this
theorem DF[a1]{β:Type}{E:ej β}{ys:List β}{fs:Array Field}{s bu:Nat}{zv:Value}(aN:ba P t (.struct fs) s bu zv){k:Nat}(U:bo E z v ys)(ar:aW L x=some (dn v (k*E.size)))(aE:k<ys.length){j:Nat}{fd:Field}{s':Nat}(bw:fs[j]?=some fd)(eF:(P.info? fd.type).map (·.size)=some (s'+1)) :
  bR P n w0 zs hs L ⟨d,.fieldAddr t x j,ty,pos,af,g⟩ (dn v (k*E.size+fd.offset)):=by
 obtain ⟨b,off,bL,bT⟩:=Ma U aE
 rw [bL] at ar
 rw [bT]
 exact aZ aN ar bw eF
theorem vw[a1](h6:α){bS:TypeDesc}{s bu:Nat}{zv:Value}(aN:ba P t bS s bu zv){k j:Nat}(U:bo (mY f m p hl h1) z v xs)(bj:gQ w0 zs z)(ar:aW L x=some (dn v (k*m+j)))(aT:fg bS=false)(aE:k<xs.length){u:Value}(hu:(f (xs.getD k h6))[j]?=some u) :
  bR P n w0 zs hs L ⟨d,.load t x,ty,pos,af,g⟩ u:=by
 obtain ⟨b,off,cs,mj,fz,dN,bO,gn,aY,bq⟩:=U.at (Ib h6 aE)
 obtain ⟨ha,Iz,bL,bT⟩:=Ma U aE
 have fm:(Value.pointer (some ⟨ha,Iz,none⟩))=.pointer (some ⟨b,off,none⟩):=bL.symm.trans bO
 injection fm with fm;injection fm with fm;injection fm with iw qm
 subst iw;subst qm
 have L4:dn v (k*m+j)=.pointer (some ⟨ha,Iz+j,none⟩):=bT j
 rw [L4] at ar
 refine afP aN ar aT bj gn (bq j u ?_)
 rw [aY.1];exact hu
theorem B1[a1](hl:∀ x,(f x).length=m){bS:TypeDesc}{bu:Nat}{zv:Value}(aN:ba P t bS 1 bu zv)(q:Nat){e:TypeId}{c k j:Nat}{a x':α}(ar:aW L x=some (dn v (k*m+j)))(aQ:aW L y=some u)(aE:hs[q]?=some (.row v e m c (xs.flatMap f)))(bg:xs[k]?=some a)(aV:j<m)(cH:u.oneCell'=true)(aM:f x'=(f a).set j u) :
  fJ P n w0 zs hs L ⟨d,.store t x y,ty,pos,af,g⟩ (fun dr zs' hs'=>dr=undef∧zs'=zs∧hs'=hs.set q (.row v e m c ((xs.set k x').flatMap f))):=
 ka fun a9 NW w hw=>by
  have bq:u.cells=[u].toArray:=by cases u <;> first | rfl | (simp [Value.oneCell'] at cH)
  have fj:=(hw.own _ (List.mem_of_getElem? aE)).1
  have u4:(xs.flatMap f).length=c*m:=fj.1
  have aa7:=My hl xs
  have am3:k<xs.length:=(List.getElem?_eq_some_iff.1 bg).1
  have N9:k*m+j<c*m:=by
   rw [← u4,aa7]
   have:=Nat.mul_le_mul_right m (show k+1≤xs.length by omega)
   rw [Nat.add_mul,Nat.one_mul] at this
   omega
  obtain ⟨b,cap,cur,rfl,_,aw,u3,U⟩:=hw.AT (c:=[u]) aE (j:=k*m+j) (show k*m+j+[u].length≤c*m by rw [List.length_singleton];omega) (by
   rcases Nat.eq_zero_or_pos c with h | h
   ·rw [h,Nat.zero_mul] at N9;omega
   ·exact h)
  have he:(xs.flatMap f).take (k*m+j)++[u]++(xs.flatMap f).drop (k*m+j+[u].length)=(xs.set k x').flatMap f:=by
   rw [← Mz hl bg aV aM]
   simp only [List.set_eq_take_append_cons_drop,if_pos (show k*m+j<(xs.flatMap f).length by omega),List.append_assoc,List.cons_append,List.nil_append,List.length_singleton]
  rw [he] at U
  have aY:=AP (v:=u) aN (b:=b) (off:=k*m+j) (bt:=e) (cs:=cur.toList) (w:=w) (by simpa using aw) (by rw [bq];rfl) (by rw [bq];simpa using cH) (by simpa using u3)
  rw [bq] at aY
  refine ⟨undef,zs,_,_,.inr ⟨?_,rfl⟩,⟨rfl,rfl,rfl⟩,U⟩
  have zS:a9.eval x=.pointer (some ⟨b,k*m+j,none⟩):=(NW.eval ar).trans (by simp [dn,fU])
  simp only [execOp,zS,NW.eval aQ]
  simp [Instr.storeAt,Instr.sureAddr,aY]
theorem ng[a1]{fs:Array Field}{s bu:Nat}{zv:Value}(aN:ba P t (.struct fs) s bu zv)(q:Nat){e:TypeId}{c k size:Nat}{cs:List Value}(ch:hs[q]?=some (.row v e size c cs))(ar:aW L x=some (dn v (k*size)))(aE:k<c){j:Nat}{fd:Field}{s':Nat}(bw:fs[j]?=some fd)(eF:(P.info? fd.type).map (·.size)=some (s'+1)) :
  bR P n w0 zs hs L ⟨d,.fieldAddr t x j,ty,pos,af,g⟩ (dn v (k*size+fd.offset)):=
 eV fun a bg w hw=>by
  have fj:=(hw.own _ (List.mem_of_getElem? ch)).1
  rcases fj.2 with ⟨rfl,bD⟩ | ⟨b,cap,cur,rfl,_⟩
  ·omega
  ·have bL:dn (.slice (some ⟨b,0,none⟩) c cap) (k*size)=.pointer (some ⟨b,k*size,none⟩):=by simp [dn,fU]
   have bT:dn (.slice (some ⟨b,0,none⟩) c cap) (k*size+fd.offset)=.pointer (some ⟨b,k*size+fd.offset,none⟩):=by simp [dn,fU]
   rw [bL] at ar
   rw [bT]
   have eF:(sizeOf fd.type).run P w=.ok (s'+1) w:=by
    cases aH:P.info? fd.type with
    | none=>simp [aH] at eF
    | some i=>simp [aH] at eF;simp [sizeOf,typeInfo,aH,eF]
   simp only [execOp,bg.eval ar]
   simp [Instr.fieldAt,Instr.sureAddr,run_underlying aN.und,bw,fieldPlace,eF,fU]
theorem p3[a1](hl:∀ x,(f x).length=m)(h6:α){bS:TypeDesc}{s bu:Nat}{zv:Value}(aN:ba P t bS s bu zv)(q:Nat){e:TypeId}{c k j:Nat}(ch:hs[q]?=some (.row v e m c (xs.flatMap f)))(ar:aW L x=some (dn v (k*m+j)))(aT:fg bS=false)(aE:k<xs.length)(aV:j<m){u:Value}(hu:(f (xs.getD k h6))[j]?=some u) :
  bR P n w0 zs hs L ⟨d,.load t x,ty,pos,af,g⟩ u:=
 Aq aN q ch ar (by rw [wC hl (Ib h6 aE) aV];exact hu) aT
end
def qD(x:List UInt8×List UInt8):List Value:=[vs x.1,vs x.2]
def Ih(x:List UInt8×List UInt8):Prop:=x.1.length≤140737488355328∧x.2.length≤140737488355328
theorem Pc(x:List UInt8×List UInt8):(qD x).length=2:=rfl
theorem Pd(x:List UInt8×List UInt8):∀ u∈qD x,u.oneCell'=true:=fun u hu=>by
 simp only [qD,List.mem_cons,List.not_mem_nil,or_false] at hu
 rcases hu with rfl | rfl <;> rfl
def jD:ej (List UInt8×List UInt8):=mY qD 2 Ih Pc Pd
def dk:List UInt8×List UInt8:=([],[])
section
variable {P:Program}{n:Nat}{w0:World}{zs:List aR}{hs:List aC}{L:List (Nat×Value)}{d:Option Tmp}{ty t:TypeId}{pos:String}{af:Array Edge}{g:Option (Nat×Bool)}{x y:Operand}{u v:Value}{z:aR}{xs:List (List UInt8×List UInt8)}
theorem QN[a1]{bS:TypeDesc}{bu:Nat}{zv:Value}(aN:ba P t bS 2 bu zv){k:Nat}(U:bo jD z v xs)(bj:gQ w0 zs z)(ar:aW L x=some (dn v (k*2)))(aT:fg bS=true)(aE:k<xs.length) :
  bR P n w0 zs hs L ⟨d,.load t x,ty,pos,af,g⟩ (.agg [vs (xs.getD k dk).1,vs (xs.getD k dk).2].toArray):=IT dk aN U bj ar aT a8 aE
theorem xv[a1]{bS:TypeDesc}{s bu:Nat}{zv:Value}(aN:ba P t bS s bu zv){k:Nat}(U:bo jD z v xs)(bj:gQ w0 zs z)(ar:aW L x=some (dn v (k*2+0)))(aT:fg bS=false)(aE:k<xs.length) :
  bR P n w0 zs hs L ⟨d,.load t x,ty,pos,af,g⟩ (vs (xs.getD k dk).1):=vw dk aN U bj ar aT aE rfl
theorem QO[a1]{bS:TypeDesc}{s bu:Nat}{zv:Value}(aN:ba P t bS s bu zv){k:Nat}(U:bo jD z v xs)(bj:gQ w0 zs z)(ar:aW L x=some (dn v (k*2+1)))(aT:fg bS=false)(aE:k<xs.length) :
  bR P n w0 zs hs L ⟨d,.load t x,ty,pos,af,g⟩ (vs (xs.getD k dk).2):=vw dk aN U bj ar aT aE rfl
theorem tw[a1]{fs:Array Field}{s bu:Nat}{zv:Value}(aN:ba P t (.struct fs) s bu zv){k:Nat}(U:bo jD z v xs)(ar:aW L x=some (dn v (k*2)))(aE:k<xs.length){j:Nat}{fd:Field}{s':Nat}(bw:fs[j]?=some fd)(eF:(P.info? fd.type).map (·.size)=some (s'+1)) :
  bR P n w0 zs hs L ⟨d,.fieldAddr t x j,ty,pos,af,g⟩ (dn v (k*2+fd.offset)):=DF (E:=jD) aN U ar aE bw eF
end
theorem aB.Yv{w0:World}{zs:List aR}{hs:List aC}{w:World}{e:TypeId}{v:Value}{k:Nat}{xs:List (List UInt8×List UInt8)}(h:aB w0 zs (.row v e 2 k (xs.flatMap qD)::hs) w)(hm:k=xs.length)(aw:k≤140737488355328)(bO:∀ x∈xs,Ih x):∃ z,bo jD z v xs∧aB w0 (z::zs) hs w:=aB.Gh h hm aw bO
end Go.aK
end
section
namespace Go.aK
section
variable {P:Program}{n:Nat}{w0:World}{zs:List aR}{hs:List aC}{L:List (Nat×Value)}{d:Option Tmp}{ty t b7:TypeId}{pos:String}{af:Array Edge}{g:Option (Nat×Bool)}{x y:Operand}{u v:Value}
theorem afy[a1]{p q:List UInt8}(h1:aW L x=some (vs p))(ar:aW L y=some (vs q)):bR P n w0 zs hs L ⟨d,.binOp .geq t x y b7,ty,pos,af,g⟩ (.bool (!Op.bytesLess p q)):=
 fu h1 ar wA fun w=>by simp [binOp,Op.stringOp]
theorem afR[a1]{p q:List UInt8}(h1:aW L x=some (vs p))(ar:aW L y=some (vs q)):bR P n w0 zs hs L ⟨d,.binOp .leq t x y b7,ty,pos,af,g⟩ (.bool (Op.bytesLess p q || decide (p=q))):=
 fu h1 ar wA fun w=>by
  have:(p == q)=decide (p=q):=by rw [Bool.eq_iff_iff];simp
  simp [binOp,Op.stringOp,this]
def wr(n:Int):Int:=IntKind.i64.wrap n
end
end Go.aK
end
section
namespace Go.aK
section
variable {P:Program}{n:Nat}{w0:World}{zs:List aR}{hs:List aC}{L:List (Nat×Value)}{d:Option Tmp}{ty t b7:TypeId}{pos:String}{af:Array Edge}{g:Option (Nat×Bool)}{x y:Operand}{u v:Value}
theorem WO[a1]{bS:TypeDesc}{bu size:Nat}{zv:Value}(aN:ba P t bS 1 bu zv)(k:Nat){e:TypeId}{m j:Nat}{cs:List Value}(h1:aW L x=some (dn v j))(ar:aW L y=some u)(aE:hs[k]?=some (.row v e size m cs))(aV:j<m*size)(cH:u.oneCell'=true) :
  fJ P n w0 zs hs L ⟨d,.store t x y,ty,pos,af,g⟩ (fun dr zs' hs'=>dr=undef∧zs'=zs∧hs'=hs.set k (.row v e size m (cs.set j u))):=
 ka fun a bg w hw=>by
  have bq:u.cells=[u].toArray:=by cases u <;> first | rfl | (simp [Value.oneCell'] at cH)
  have u4:cs.length=m*size:=(hw.own _ (List.mem_of_getElem? aE)).1.1
  obtain ⟨b,cap,cur,rfl,_,aw,hl,U⟩:=hw.AT (c:=[u]) aE (j:=j) (by rw [List.length_singleton];omega) (by
   rcases Nat.eq_zero_or_pos m with h | h
   ·rw [h,Nat.zero_mul] at aV;omega
   ·exact h)
  have he:cs.take j++[u]++cs.drop (j+[u].length)=cs.set j u:=by
   simp only [List.set_eq_take_append_cons_drop,if_pos (show j<cs.length by omega),List.append_assoc,List.cons_append,List.nil_append,List.length_singleton]
  rw [he] at U
  have aY:=AP (v:=u) aN (b:=b) (off:=j) (bt:=e) (cs:=cur.toList) (w:=w) (by simpa using aw) (by rw [bq];rfl) (by rw [bq];simpa using cH) (by simpa using hl)
  rw [bq] at aY
  refine ⟨undef,zs,_,_,.inr ⟨?_,rfl⟩,⟨rfl,rfl,rfl⟩,U⟩
  have aM:a.eval x=.pointer (some ⟨b,j,none⟩):=(bg.eval h1).trans (by simp [dn,fU])
  simp only [execOp,aM,bg.eval ar]
  simp [Instr.storeAt,Instr.sureAddr,aY]
theorem QM[a1]{mE size c kk:Nat}{e e5:TypeId}{s bu:Nat}{zv:Value}(aN:ba P t (.array mE e) s bu zv){de:TypeDesc}{be:Nat}{ze:Value}(cr:ba P e de 1 be ze)(q:Nat){cs:List Value}{i:Int}{ik:IntKind}(ch:hs[q]?=some (.row v e5 size c cs))(ar:aW L x=some (dn v (kk*size)))(aQ:aW L y=some (.int ik i))(aE:kk<c)(aw:0≤i∧i<mE) :
  bR P n w0 zs hs L ⟨d,.indexAddr t x y,ty,pos,af,g⟩ (dn v (kk*size+i.toNat)):=fun a bg w hw=>by
 have fj:=(hw.own _ (List.mem_of_getElem? ch)).1
 rcases fj.2 with ⟨rfl,bD⟩ | ⟨b,cap,cur,rfl,_⟩
 ·omega
 ·have bL:dn (.slice (some ⟨b,0,none⟩) c cap) (kk*size)=.pointer (some ⟨b,kk*size,none⟩):=by simp [dn,fU]
  have bT:dn (.slice (some ⟨b,0,none⟩) c cap) (kk*size+i.toNat)=.pointer (some ⟨b,kk*size+i.toNat,none⟩):=by simp [dn,fU]
  rw [bL] at ar
  rw [bT]
  have:=gG (P:=P) (n:=n) (w0:=w0) (zs:=zs) (hs:=hs) (d:=d) (ty:=ty) (pos:=pos) (af:=af) (g:=g) aN cr ar aQ aw
  rw [Nat.mul_one] at this
  exact this a bg w hw
theorem Mq{xs:List (List UInt8)}{m:Nat}(hl:∀ x∈xs,x.length=m){k i:Nat}(aE:k<xs.length)(aH:i<m):(xs.flatten.map bn)[k*m+i]?=some (bn ((xs.getD k []).getD i 0)):=by
 have h1:=W6 hl (i:=k) (x:=xs[k]) (by simp [aE]) aH
 rw [h1]
 have ar:(xs[k]).length=m:=hl _ (List.getElem_mem aE)
 have bL:xs.getD k []=xs[k]:=by rw [List.getD_eq_getElem?_getD,List.getElem?_eq_getElem aE];rfl
 rw [bL,List.getElem?_map,List.getD_eq_getElem?_getD,List.getElem?_eq_getElem ag]
 rfl
theorem Mr{m:Nat}:∀ {xs:List (List UInt8)}(_:∀ x∈xs,x.length=m) {k i:Nat}(_:k<xs.length) (_:i<m) (b:UInt8),(xs.flatten.map bn).set (k*m+i) (bn b)=((xs.set k ((xs.getD k []).set i b)).flatten.map bn)
 | [],_,k,i,aE,_,b=>by simp at aE
 | c::t,hl,0,i,aE,aH,b=>by
  have bq:c.length=m:=hl c (List.mem_cons_self ..)
  rw [List.flatten_cons,List.map_append,Nat.zero_mul,Nat.zero_add,List.set_append_left _ _ (by rw [List.length_map];omega),List.set_cons_zero,List.flatten_cons,List.map_append,List.map_set]
  rfl
 | c::t,hl,k+1,i,aE,aH,b=>by
  have bq:c.length=m:=hl c (List.mem_cons_self ..)
  rw [List.flatten_cons,List.map_append,List.set_append_right _ _ (by rw [List.length_map,bq,Nat.add_mul];omega),List.length_map,bq,show (k+1)*m+i-m=k*m+i by rw [Nat.add_mul];omega,Mr (fun x aM=>hl x (List.mem_cons_of_mem _ aM)) (by simpa using aE) aH b,List.set_cons_succ,List.flatten_cons,List.map_append,List.getD_cons_succ]
end
end Go.aK
end
section
namespace Go.aK
open Go.ChangeShapes Go.WideShapes Go.ChangeAt Go.RowKit
section
variable {H:Type}{enc:TypeId×Value→H}{P:Program}{W:World}{t e:TypeId}
end
section
variable {P:Program}{n:Nat}{w0:World}{zs:List aR}{hs:List aC}{L:List (Nat×Value)}{d:Option Tmp}{ty t:TypeId}{pos:String}{af:Array Edge}{g:Option (Nat×Bool)}{x y:Operand}{v:Value}
theorem agS{c:List Value}{size m:Nat}(bq:c.length=size)(h0:0<size):∀ j,j<m*size→((List.replicate m c).flatten)[j]?=c[j%size]?:=by
 induction m with
 | zero=>intro j h;rw [Nat.zero_mul] at h;omega
 | succ m ih=>
  intro j h
  rw [List.replicate_succ,List.flatten_cons]
  rcases Nat.lt_or_ge j size with h1 | h1
  ·rw [List.getElem?_append_left ag,Nat.mod_eq_of_lt h1]
  ·rw [List.getElem?_append_right ag,bq,ih (j-size) (by rw [Nat.add_mul,Nat.one_mul] at h;omega),← Nat.mod_eq_sub_mod h1]
theorem WL[a1]{e:TypeId}{s bu size:Nat}{zv:Value}(aN:ba P t (.slice e) s bu zv){de:TypeDesc}{be:Nat}{zc:List Value}(cr:ba P e de size be (.agg zc.toArray)){m:Nat}(h1:aW L x=some (aA (m:Int)))(ar:aW L y=some (aA (m:Int)))(aw:be*m≤140737488355328)(hm:m≤140737488355328)(bj:zc.length=size)(bG:0<size)(h0:0<m) :
  fJ P n w0 zs hs L ⟨d,.makeSlice t x y,ty,pos,af,g⟩ (fun v zs' hs'=>zs'=zs∧hs'=.row v e size m (List.replicate m zc).flatten::hs):=
 ka fun a bg w hw=>by
  have hlen:((List.replicate m zc).flatten).length=m*size:=by
   rw [List.length_flatten,List.map_replicate,bj]
   induction m with
   | zero=>simp
   | succ k ih=>simp
  have fH:=hw.newRow e (List.replicate m zc).flatten size m m hlen (Nat.le_refl _) (by unfold maxLen;omega)
  rw [List.take_of_length_le ag] at fH
  refine ⟨_,zs,_,_,.inl ?_,⟨rfl,rfl⟩,fH⟩
  obtain ⟨i,aH,kI,sU,aaR⟩:=cr.SH w
  have pU:IntKind.i64.wrap (m:Int)=m:=by
   simp [IntKind.wrap,IntKind.bits,IntKind.signed]
   omega
  have G5:((be:Int)*(m:Int))=((be*m:Nat):Int):=by simp
  have G3:¬ ((m:Int)<0∨(i.bytes:Int)*m>2^48):=by rw [sU,G5];omega
  simp only [execOp,bg.eval h1,bg.eval ar]
  have aY:(Instr.makeSlice t (aA m) (aA m)).run P w=.ok (.slice (some ⟨w.heap.size,0,none⟩) m m) { w with heap:=w.heap.push (.cells (List.replicate m zc).flatten.toArray e (0,0)) }:=by
   unfold Instr.makeSlice
   rw [Sem.run_bind,run_underlying aN.und]
   simp only [Result.andThen_ok]
   have bg:(asIntOf (aA (m:Int))).run P w=.ok (.i64,(m:Int)) w:=by simp [asIntOf,aA]
   simp only [asInt,Sem.run_bind,Sem.run_map,bg,Sem.run_pure,Result.andThen_ok,aH,pU]
   have vh:¬ ((m:Int).toNat*i.bytes>roomBytes):=by
    rw [sU,Int.toNat_natCast,Nat.mul_comm]
    unfold roomBytes
    omega
   have aT:(decide ((m:Int)<0) || decide ((i.bytes:Int)*m>2^48))=false:=by
    simpa using G3
   have rE:¬ ((m:Int)<0):=by omega
   simp only [aT,rE,Bool.false_eq_true,false_or,gt_iff_lt,Int.lt_irrefl,if_false,decide_false,Bool.false_or,or_self,if_neg,not_false_eq_true,Sem.run_bind,Sem.run_pure,Result.andThen_ok]
   unfold askRoom
   rw [if_neg vh]
   simp only [Sem.run_bind,Sem.run_pure,Result.andThen_ok,cr.sizeOf,Int.toNat_natCast]
   have gK:decide ((2:Int)^48<(i.bytes:Int)*m)=false:=by
    rw [decide_eq_false_iff_not]
    omega
   rw [if_neg (by rw [gK];decide)]
   simp only [Sem.run_bind,Sem.run_pure,Result.andThen_ok,cr.sizeOf]
   have s3:¬ (m*size=0):=Nat.ne_of_gt (Nat.mul_pos h0 bG)
   rw [if_neg s3]
   simp only [Sem.run_bind,Sem.run_pure,cr.zero,Result.andThen_ok]
   have oT:(Value.agg zc.toArray).cells=zc.toArray:=rfl
   have eF:zc.toArray.size=size:=by simpa using bj
   rw [oT,eF]
   have jU:Array.map (fun x=>zc.toArray[x%size]!) (Array.range (m*size))=(List.replicate m zc).flatten.toArray:=by
    apply Array.ext'
    refine List.ext_getElem? fun j=>?_
    rcases Nat.lt_or_ge j (m*size) with h | h
    ·rw [show ((List.replicate m zc).flatten.toArray).toList=(List.replicate m zc).flatten from rfl,agS bj bG j h]
     have w1:j%size<zc.length:=by rw [bj];exact Nat.mod_lt _ bG
     have cA:j<(Array.map (fun x=>zc.toArray[x%size]!) (Array.range (m*size))).toList.length:=by simp;exact h
     rw [List.getElem?_eq_getElem cA,List.getElem?_eq_getElem w1]
     simp [w1]
    ·rw [List.getElem?_eq_none (by simp;exact h),List.getElem?_eq_none (by simp [hlen];omega)]
   rw [jU]
   simp [newRow]
  rw [Sem.run_bind,aY]
  rfl
end
end Go.aK
end
section
/- A range over a function in whose rounds more than one thing is changed; s[lo:hi:max]. -/
namespace Go.aK
section
variable {P:Program}{n:Nat}{w0:World}{zs:List aR}{L:List (Nat×Value)}
theorem aB.Sv{w0 w:World}{zs tS:List aR}{hs:List aC}{b:Nat}{o o':Obj}(h:aB w0 zs hs w)(bj:ey b o∈zs)(ar:∀ z∈tS,z∈zs)(bD:∀ z∈tS,z b=none):w.heap[b]?=some o∧aB w0 tS hs (w.putObj b o'):=by
 have h1:aB w0 (ey b o::tS) hs w:=by
  refine ⟨h.ext,fun z jH=>?_,fun r aY=>⟨(h.own r aY).1,fun k aE z jH=>?_⟩,h.nd,h.io⟩
  ·rcases List.mem_cons.1 jH with rfl | jH
   ·exact h.zone _ bj
   ·exact h.zone _ (ar z jH)
  ·rcases List.mem_cons.1 jH with rfl | jH
   ·exact (h.own r aY).2 k aE _ bj
   ·exact (h.own r aY).2 k aE _ (ar z jH)
 exact ⟨(h1.zone _ List.mem_cons_self).1 b o (by unfold ey;rw [if_pos rfl]),(h1.swap bD o').ao (List.sublist_cons_self _ _) (List.Sublist.refl _)⟩
theorem Ce[I:a1]{D:Nat}{dT:aR}{fn:Func}{w:World}{hs:List aC}{a:Act}{R:Value→List aR→List aC→Prop}{rs:List ResultVar}(tS:List aR)(bP:I.ds=[{ target:=.collected D,args:=#[] }])(dz:dT=ey D (.deferred (some [])))(bj:dT∈zs)(ar:∀ z∈tS,z∈zs)(bD:∀ z∈tS,z D=none)(k7:fn.results=rs.toArray)(ab:Fr n L a)(U:aB w0 zs hs w){vs:List Value}(bA:sk P L hs rs vs)
  (fD:∀ W,aB w0 tS hs W→∃ zs' hs',aB w0 zs' hs' W∧R (vD vs) zs' hs') :
  bodyPostM (gZ none) 0 P fn (fun e w'=>∃ v zs hs,e=.returned v∧aB w0 zs hs w'∧R v zs hs) .ret a w:=by
 have gx:a.defers=[{ target:=.collected D,args:=#[] }]:=ab.nodef.trans bP
 subst dz
 obtain ⟨aw,jX⟩:=U.Sv (o':=.deferred none) bj ar bD
 show LeavesInM (gZ none) 0 P fn a.tmps _ a.defers .returning w
 rw [gx]
 refine ⟨by simp,.inl ⟨D,_,rfl,run_takeDeferred aw,?_⟩⟩
 obtain ⟨zs',hs',kG,aY⟩:=fD _ jX
 exact ⟨_,tI k7 ab jX bA,_,_,_,rfl,kG,aY⟩
theorem RJ[a1]{id:Nat}{Q:Exit→Act→World→Prop}{J:Act→World→Prop}{a:Act}{w:World}{l:List Oper}{hs:List aC}{ro:Option Nat}{m:Nat}(ls:Array Bool)(f:Nat)(hm:P.follows .mixedOrders=true)(m5:Array.replicate l.length false=ls)(bw:l.length=f)
  (h:∀ w,Fr n L a→aB w0 zs hs w→nw P l.toArray J f [] ls a w) (K:∀ a w,J a w→Q .normal a w) (aT:l.all o1=true):Fr n L a→aB w0 zs hs w→(Code.region id l.toArray true).wpIn (gZ ro) m P Q a w:=by
 intro ab U
 subst m5 bw
 have e:(kE J .normal)=J:=funext fun a=>funext fun w=>propext ⟨And.right,fun h=>⟨rfl,h⟩⟩
 refine wpIn_mono (agQ (Q:=kE J) hm (by simpa using aT) ?_) (fun e a w q=>by obtain ⟨rfl,aV⟩:=q;exact K _ _ aV)
 rw [e]
 refine J8 _ [] _ _ _ ?_
 have:=h _ ab (U.drew (w.drawn+1)) (fun k o _ aE=>?_) trivial
 ·simpa using this
 ·exact absurd aE (by simp [Array.getD_eq_getD_getElem?,Array.getElem?_replicate];split <;> simp)
theorem mU.YA{f:FuncId}{args:List Value}{bU:List aR}{cm cR ra rb:aC}{cF:List aC}{J:aC×aC→Prop}(h:mU P f args w0 bU [cm,cR,ra,rb] cF (fun _ dB c5=>dB=[]∧∃ r:aC×aC,c5=[cm,cR,r.1,r.2]∧J r))(w:World)(U:aB w0 bU (cm::cR::ra::rb::cF) w) :
  Calls P f args.toArray w fun e w'=>(∃ v,e=.returned v)∧∃ r:aC×aC,J r∧aB w0 bU (cm::cR::r.1::r.2::cF) w':=
 Calls.mono (h w U) fun e w' ⟨v,dB,c5,he,jX,h1,r,ar,aQ⟩=>by
  subst h1 ar
  exact ⟨⟨v,he⟩,r,aQ,jX⟩
end
section
variable {P:Program}{n:Nat}{w0:World}{zs:List aR}{hs:List aC}{L:List (Nat×Value)}{d:Option Tmp}{ty t:TypeId}{pos:String}{af:Array Edge}{g:Option (Nat×Bool)}{x y EG c:Operand}{v:Value}
end
end Go.aK
end
section
namespace Go.aK
open Go Go.Sem
def ll{α:Type}(kf:α→Value)(l:List (α×Value))(es:List MapEntry)(c:Nat):Prop:=hx kf l es∧(∀ x∈es,x.born<c)∧(es.map (·.born)).Nodup
theorem ll.nil{α:Type}{kf:α→Value}:ll kf [] [] 0:=⟨rfl,fun x h=>(by cases h),List.nodup_nil⟩
section
variable {P:Program}{n:Nat}{w0:World}{zs:List aR}{hs:List aC}{L:List (Nat×Value)}{d:Option Tmp}{ty t t2:TypeId}{pos:String}{af:Array Edge}{g:Option (Nat×Bool)}{x y kR:Operand}{u v:Value}
variable {α:Type}[DecidableEq α]{kf:α→Value}{V:α→Prop}{kt e:TypeId}
theorem FL[a1]{s bu:Nat}{zv:Value}(aN:ba P t (.map kt e) s bu zv)(dU:qc P kt kf V)(k:Nat){l:List (α×Value)}{es:List MapEntry}{c b:Nat}(h1:aW L x=some (.map (some b))){a:α}(ar:aW L y=some (kf a))(aQ:aW L kR=some u)(aE:hs[k]?=some (.mp b es c))(eP:ll kf l es c)(kH:∀ p∈l,V p.1)(bg:V a) :
  fJ P n w0 zs hs L ⟨d,.mapUpdate t x y kR,ty,pos,af,g⟩ (fun dr zs' hs'=>∃ jd h4,ll kf (iG a u l) jd h4∧dr=undef∧zs'=zs∧hs'=hs.set k (.mp b jd h4)):=
 ka fun ac lE w hw=>by
  obtain ⟨eP,gS,rB⟩:=eP
  have aw:=(hw.own _ (List.mem_of_getElem? aE)).1
  have aP:∀ w:World,w.heap[b]?=some (.map es.toArray c)→(getObj b).run P w=.ok (.map es.toArray c) w:=fun w aw=>by simp [getObj,Sem.run,aw]
  have gK:b<w.heap.size:=(Array.getElem?_eq_some_iff.1 aw.2).1
  have vi:∀ (jd:List MapEntry) (h4:Nat),(setObj b (.map jd.toArray h4)).run P w=.ok () { w with heap:=w.heap.setIfInBounds b (.map jd.toArray h4) }:=fun jd h4=>by simp [setObj,Sem.run,aw.2]
  have fH:∀ (jd:List MapEntry) (h4:Nat),aB w0 zs (hs.set k (.mp b jd h4)) { w with heap:=w.heap.setIfInBounds b (.map jd.toArray h4) }:=fun jd h4=>
   hw.set aE rfl (fun j aV=>by
    have fG:b≠j:=fun e=>aV (by rw [e];rfl)
    show (w.heap.setIfInBounds b _)[j]?=_
    rw [Array.getElem?_setIfInBounds,if_neg fG]) ⟨aw.1,by
    show (w.heap.setIfInBounds b _)[b]?=_
    rw [Array.getElem?_setIfInBounds,if_pos rfl,if_pos gK]⟩ (by simp) ⟨rfl,rfl,rfl⟩
  have zl:=dU.find a w l es eP kH bg
  cases bw:gI a l 0 with
  | none=>
   refine ⟨undef,zs,_,_,.inr ⟨?_,rfl⟩,⟨es++[(⟨kf a,u,c⟩:MapEntry)],c+1,⟨PK eP bw,fun x aM=>?_,?_⟩,rfl,rfl,rfl⟩,fH _ _⟩
   ·simp only [execOp,lE.eval h1,lE.eval ar,lE.eval aQ]
    have aY:(Instr.mapUpdate t (.map (some b)) (kf a) u).run P w=.ok () { w with heap:=w.heap.setIfInBounds b (.map (es++[(⟨kf a,u,c⟩:MapEntry)]).toArray (c+1)) }:=by
     unfold Instr.mapUpdate
     rw [Sem.run_bind,run_underlying aN.und]
     simp only [Result.andThen_ok,Sem.run_bind,aP w aw.2,dU.jT _ _ _ bg,zl,bw]
     rw [← vi]
     simp
    rw [Sem.run_bind,aY]
    rfl
   ·rcases List.mem_append.1 aM with h | h
    ·exact Nat.lt_succ_of_lt (gS x h)
    ·rw [List.mem_singleton] at h;subst h;exact Nat.lt_succ_self c
   ·rw [List.map_append,List.nodup_append]
    refine ⟨rB,by simp,fun p bO q ch=>?_⟩
    simp only [List.map_cons,List.map_nil,List.mem_singleton] at ch
    obtain ⟨x,aM,rfl⟩:=List.mem_map.1 bO
    have:=gS x aM
    omega
  | some p=>
   obtain ⟨j,v⟩:=p
   obtain ⟨yT,cO,dR,fh⟩:=PL (u:=u) eP bw
   rw [Nat.sub_zero] at cO fh
   have CF:(es.modify j fun e=>{ e with key:=kf a,val:=u }).map (·.born)=es.map (·.born):=by
    apply List.ext_getElem?
    intro i
    rw [List.getElem?_map,List.getElem?_map,List.getElem?_modify]
    cases es[i]? with
    | none=>rfl
    | some e=>simp only [Option.map_some];split <;> rfl
   refine ⟨undef,zs,_,_,.inr ⟨?_,rfl⟩,⟨_,c,⟨fh,fun x aM=>?_,CF ▸ rB⟩,rfl,rfl,rfl⟩,fH _ _⟩
   ·simp only [execOp,lE.eval h1,lE.eval ar,lE.eval aQ]
    have aY:(Instr.mapUpdate t (.map (some b)) (kf a) u).run P w=.ok () { w with heap:=w.heap.setIfInBounds b (.map (es.modify j fun e=>{ e with key:=kf a,val:=u }).toArray c) }:=by
     unfold Instr.mapUpdate
     rw [Sem.run_bind,run_underlying aN.und]
     simp only [Result.andThen_ok,Sem.run_bind,aP w aw.2,dU.jT _ _ _ bg,zl,bw]
     have aaZ:∀ w:World,(Instr.keyThatStays (kf a) (kf a)).run P w=.ok (kf a) w:=fun w=>by
      unfold Instr.keyThatStays
      rw [if_pos (dU.bits a)]
      rfl
     have bL:((es.toArray[j]?).map (·.key)).getD (kf a)=kf a:=by
      rw [List.getElem?_toArray,cO]
      exact dR
     rw [bL,aaZ]
     simp only [Result.andThen_ok]
     rw [← vi]
     simp
    rw [Sem.run_bind,aY]
    rfl
   ·have dJ:x.born∈es.map (·.born):=by rw [← CF];exact List.mem_map_of_mem aM
    obtain ⟨y,cZ,he⟩:=List.mem_map.1 dJ
    rw [← he];exact gS y cZ
theorem WK[a1]{s bu:Nat}{zv:Value}(aN:ba P t (.map kt e) s bu zv)(dU:qc P kt kf V)(k:Nat){l:List (α×Value)}{es:List MapEntry}{c b:Nat}(h1:aW L x=some (.map (some b))){a:α}(ar:aW L y=some (kf a))(aE:hs[k]?=some (.mp b es c))(eP:ll kf l es c)(kH:∀ p∈l,V p.1)(bg:V a) :
  fJ P n w0 zs hs L ⟨d,.call ⟨.builtin .delete,#[x,y],#[t,t2]⟩,ty,pos,af,g⟩ (fun dr zs' hs'=>∃ jd h4,ll kf (pD a l) jd h4∧zs'=zs∧hs'=hs.set k (.mp b jd h4)):=
 ka fun ac lE w hw=>by
  obtain ⟨eP,gS,rB⟩:=eP
  have aw:=(hw.own _ (List.mem_of_getElem? aE)).1
  have aP:∀ w:World,w.heap[b]?=some (.map es.toArray c)→(getObj b).run P w=.ok (.map es.toArray c) w:=fun w aw=>by simp [getObj,Sem.run,aw]
  have gK:b<w.heap.size:=(Array.getElem?_eq_some_iff.1 aw.2).1
  have vi:∀ (jd:List MapEntry) (h4:Nat),(setObj b (.map jd.toArray h4)).run P w=.ok () { w with heap:=w.heap.setIfInBounds b (.map jd.toArray h4) }:=fun jd h4=>by simp [setObj,Sem.run,aw.2]
  have fH:∀ (jd:List MapEntry) (h4:Nat),aB w0 zs (hs.set k (.mp b jd h4)) { w with heap:=w.heap.setIfInBounds b (.map jd.toArray h4) }:=fun jd h4=>
   hw.set aE rfl (fun j aV=>by
    have fG:b≠j:=fun e=>aV (by rw [e];rfl)
    show (w.heap.setIfInBounds b _)[j]?=_
    rw [Array.getElem?_setIfInBounds,if_neg fG]) ⟨aw.1,by
    show (w.heap.setIfInBounds b _)[b]?=_
    rw [Array.getElem?_setIfInBounds,if_pos rfl,if_pos gK]⟩ (by simp) ⟨rfl,rfl,rfl⟩
  have zl:=dU.find a w l es eP kH bg
  have key:∃ jd,ll kf (pD a l) jd c∧(Builtin.delete_ #[t,t2] ty #[.map (some b),kf a]).run P w=.ok (.tuple #[]) { w with heap:=w.heap.setIfInBounds b (.map jd.toArray c) }:=by
   unfold pD
   cases bw:gI a l 0 with
   | none=>
    refine ⟨es,⟨eP,gS,rB⟩,?_⟩
    unfold Builtin.delete_
    simp only [List.getElem?_toArray,List.getElem?_cons_zero,List.getElem?_cons_succ,Sem.run_bind,run_underlying aN.und,Result.andThen_ok,aP w aw.2,dU.jT _ _ _ bg,zl,bw]
    rw [vi]
    rfl
   | some p=>
    obtain ⟨i,v⟩:=p
    refine ⟨es.eraseIdx i,⟨ad9 eP i,fun x aM=>gS x (List.mem_of_mem_eraseIdx aM),by rw [← z7];exact List.Pairwise.sublist (List.eraseIdx_sublist _ _) rB⟩,?_⟩
    unfold Builtin.delete_
    simp only [List.getElem?_toArray,List.getElem?_cons_zero,List.getElem?_cons_succ,Sem.run_bind,run_underlying aN.und,Result.andThen_ok,aP w aw.2,dU.jT _ _ _ bg,zl,bw]
    have bL:es.toArray.eraseIdxIfInBounds i=(es.eraseIdx i).toArray:=by
     rw [List.eraseIdxIfInBounds_toArray]
    rw [bL,vi]
    rfl
  obtain ⟨jd,cO,dR⟩:=key
  refine ⟨.tuple #[],zs,_,_,.inl ?_,⟨jd,c,cO,rfl,rfl⟩,fH _ _⟩
  simp only [execOp,resolve]
  simp only [invoke,builtin,Sem.run_bind,Sem.run_pure,Result.andThen_ok,List.map_toArray,List.map_cons,List.map_nil,lE.eval h1,lE.eval ar]
  rw [dR]
  rfl
theorem QS[a1]{s bu:Nat}{zv:Value}(aN:ba P t (.map kt e) s bu zv){de:TypeDesc}{se be:Nat}{ze:Value}(cr:ba P e de se be ze)(dU:qc P kt kf V)(k:Nat){l:List (α×Value)}{es:List MapEntry}{c b:Nat}(h1:aW L x=some (.map (some b))){a:α}(ar:aW L y=some (kf a))(aE:hs[k]?=some (.mp b es c))(eP:hx kf l es)(kH:∀ p∈l,V p.1)(bg:V a)(hu:(gv l a).getD ze=u) :
  bR P n w0 zs hs L ⟨d,.lookup t x y false,ty,pos,af,g⟩ u:=by
 have:=QR (P:=P) (n:=n) (w0:=w0) (zs:=zs) (d:=d) (ty:=ty) (pos:=pos) (af:=af) (g:=g) aN cr dU k h1 ar aE eP kH bg
 rwa [hu] at this
end
end Go.aK
end
section
namespace Go.aK
open Go Go.Sem
def o7(v:Value)(off len cap:Nat):Value:=
 match v with
 | .slice (some a) _ _=>.slice (some (a.add off)) len cap
 | _=>undef
section
variable {P:Program}{n:Nat}{w0:World}{zs:List aR}{hs:List aC}{L:List (Nat×Value)}{d:Option Tmp}{ty t b7:TypeId}{pos:String}{af:Array Edge}{g:Option (Nat×Bool)}
variable {x y c:Operand}{u v:Value}
theorem Dz{base:Nat}{w:World}{e:TypeId}{s m:Nat}{cs:List Value}(h:(aC.row v e s m cs).ok base w)(hm:0<m):∃ b cap cur,v=.slice (some ⟨b,0,none⟩) m cap∧w.heap[b]?=some (.cells cur e (0,0))∧cs.length≤cur.size∧cur.toList.take cs.length=cs:=by
 rcases h.2 with ⟨rfl,bD⟩ | ⟨b,cap,cur,rfl,aw,aP,k4,oa,iT,kM⟩
 ·omega
 ·have hl:=h.1
  have s3:m*s≤cap*s:=Nat.mul_le_mul_right s k4
  exact ⟨b,cap,cur,rfl,aP,by omega,by rw [hl];exact kM⟩
theorem af7[a1]{m k a7 size:Nat}{e e5:TypeId}{s bu:Nat}{zv:Value}(aN:ba P t (.array m e) s bu zv){de:TypeDesc}{se be:Nat}{ze:Value}(cr:ba P e de se be ze)(q:Nat){cs:List Value}(ch:hs[q]?=some (.row v e5 size a7 cs))(h1:aW L x=some (dn v (k*size)))(aE:k<a7) :
  bR P n w0 zs hs L ⟨d,.slice t x none none none,ty,pos,af,g⟩ (o7 v (k*size) m m):=fun a bg w hw=>by
 obtain ⟨b,cap,cur,rfl,_⟩:=Dz (hw.own _ (List.mem_of_getElem? ch)).1 ag
 have bL:dn (.slice (some ⟨b,0,none⟩) a7 cap) (k*size)=.pointer (some ⟨b,k*size,none⟩):=by simp [dn,fU]
 have bT:o7 (.slice (some ⟨b,0,none⟩) a7 cap) (k*size) m m=.slice (some ⟨b,k*size,none⟩) m m:=by simp [o7,fU]
 rw [bL] at h1
 rw [bT]
 exact rZ (P:=P) (n:=n) (w0:=w0) (zs:=zs) (hs:=hs) (d:=d) (ty:=ty) (pos:=pos) (af:=af) (g:=g) aN cr h1 a bg w hw
theorem af8[a1]{m k a7 size:Nat}{e e5:TypeId}{s bu:Nat}{zv:Value}(aN:ba P t (.array m e) s bu zv){de:TypeDesc}{se be:Nat}{ze:Value}(cr:ba P e de se be ze)(q:Nat){cs:List Value}{ik:IntKind}{i:Int}(ch:hs[q]?=some (.row v e5 size a7 cs))(h1:aW L x=some (dn v (k*size)))(ar:aW L y=some (.int ik i))(aE:k<a7)(aw:0≤i∧i≤m) :
  bR P n w0 zs hs L ⟨d,.slice t x none (some y) none,ty,pos,af,g⟩ (o7 v (k*size) i.toNat m):=fun a bg w hw=>by
 obtain ⟨b,cap,cur,rfl,_⟩:=Dz (hw.own _ (List.mem_of_getElem? ch)).1 ag
 have bL:dn (.slice (some ⟨b,0,none⟩) a7 cap) (k*size)=.pointer (some ⟨b,k*size,none⟩):=by simp [dn,fU]
 have bT:o7 (.slice (some ⟨b,0,none⟩) a7 cap) (k*size) i.toNat m=.slice (some ⟨b,k*size,none⟩) i.toNat m:=by simp [o7,fU]
 rw [bL] at h1
 rw [bT]
 exact r0 (P:=P) (n:=n) (w0:=w0) (zs:=zs) (hs:=hs) (d:=d) (ty:=ty) (pos:=pos) (af:=af) (g:=g) aN cr h1 ar aw a bg w hw
theorem afq[a1]{m k a7:Nat}{xs:List (List UInt8)}{e e5:TypeId}{s b s' ha mc lY:Nat}{zv mo mq:Value}(aN:ba P t (.slice e) s b zv)(gL:ba P b7 .string s' ha mo)(cr:ba P e (.int .u8) mc lY mq)(q:Nat)(ch:hs[q]?=some (.row v e5 m a7 (xs.flatten.map bn)))(Ha:a7=xs.length)(hl:∀ l∈xs,l.length=m)(h1:aW L x=some (o7 v (k*m) m m))(aE:k<xs.length) :
  bR P n w0 zs hs L ⟨d,.convert t b7 x,ty,pos,af,g⟩ (vs (xs.getD k [])):=
 eV fun a bg w hw=>by
  subst Ha
  obtain ⟨b,cap,cur,rfl,aP,iT,lH⟩:=Dz (hw.own _ (List.mem_of_getElem? ch)).1 ag
  have bT:o7 (.slice (some ⟨b,0,none⟩) xs.length cap) (k*m) m m=.slice (some ⟨b,k*m,none⟩) m m:=by simp [o7,fU]
  rw [bT] at h1
  have hm:(xs.getD k []).length=m:=by
   rw [List.getD_eq_getElem?_getD,List.getElem?_eq_getElem aE];exact hl _ (List.getElem_mem aE)
  simp only [execOp,bg.eval h1]
  have aY:=AO (w:=w) (ad:=some ⟨b,k*m,none⟩) (xs:=xs.getD k []) (c:=m) aN gL cr fun j aV=>by
   refine ⟨b,k*m,rfl,?_⟩
   have ar:=Mq hl aE (i:=j) ag
   have aQ:k*m+j<(xs.flatten.map bn).length:=(List.getElem?_eq_some_iff.1 ar).1
   have bF:cur[k*m+j]?=some (bn ((xs.getD k []).getD j 0)):=by
    rw [← Array.getElem?_toList,← ar,← lH,List.getElem?_take_of_lt ag]
   rw [show cur=cur.toList.toArray by simp] at aP
   rw [cell_of_row w b _ _ e5 (0,0) aP,List.getElem?_toArray,Array.getElem?_toList,bF,List.getD_eq_getElem?_getD,List.getElem?_eq_getElem aV]
   rfl
  rw [hm] at aY
  rw [Sem.run_bind,aY]
  rfl
theorem WI[a1]{m k a7:Nat}{xs:List (List UInt8)}{ys:List UInt8}{e e5 sT bt:TypeId}{s bu dD sc:Nat}{zv:Value}(aN:ba P t (.slice e) s bu zv){de:TypeDesc}{be:Nat}{ze:Value}(cr:ba P e de 1 be ze)(q ct:Nat){i:Nat}(ch:hs[q]?=some (.row v e5 m a7 (xs.flatten.map bn)))(w4:hs[ct]?=some (.blk dD bt (ys.map bn)))(hl:∀ l∈xs,l.length=m)(Ha:a7=xs.length)
  (h1:aW L x=some (o7 v (k*m) i m)) (ar:aW L y=some (.slice (some ⟨dD,0,none⟩) m sc)) (aE:k<xs.length) (aH:i≤m) (cZ:ys.length=m) :
  fJ P n w0 zs hs L ⟨d,.call ⟨.builtin .copy,#[x,y],#[t,sT]⟩,ty,pos,af,g⟩ (fun dr zs' hs'=>dr=aA i∧zs'=zs∧hs'=hs.set q (.row v e5 m a7 ((xs.set k (ys.take i++(xs.getD k []).drop i)).flatten.map bn))):=
 ka fun a bg w hw=>by
  subst Ha
  obtain ⟨b,cap,cur,rfl,aP,iT,lH⟩:=Dz (hw.own _ (List.mem_of_getElem? ch)).1 ag
  have bT:o7 (.slice (some ⟨b,0,none⟩) xs.length cap) (k*m) i m=.slice (some ⟨b,k*m,none⟩) i m:=by simp [o7,fU]
  rw [bT] at h1
  have eK:xs.flatten.length=xs.length*m:=sA hl
  have N9:k*m+m≤xs.length*m:=by
   have:=Nat.mul_le_mul_right m (show k+1≤xs.length by omega)
   rwa [Nat.add_mul,Nat.one_mul] at this
  have hm:(xs.getD k []).length=m:=by
   rw [List.getD_eq_getElem?_getD,List.getElem?_eq_getElem aE];exact hl _ (List.getElem_mem aE)
  have fE:((ys.take i).map bn).length=i:=by rw [List.length_map,List.length_take];omega
  obtain ⟨nX,ak3,Wa,N2,_,CD,am4,U⟩:=hw.AT (c:=(ys.take i).map bn) ch (j:=k*m) (by rw [fE];omega) ag
  obtain ⟨rfl,rfl⟩:b=nX∧cur=Wa:=by
   simp only [Value.slice.injEq,Option.some.injEq,Addr.mk.injEq] at N2
   obtain ⟨⟨rfl,_⟩,_⟩:=N2
   rw [aP] at CD
   simp only [Option.some.injEq,Obj.cells.injEq] at CD
   exact ⟨rfl,CD.1⟩
  have he:(xs.flatten.map bn).take (k*m)++(ys.take i).map bn++(xs.flatten.map bn).drop (k*m+((ys.take i).map bn).length)=(xs.set k (ys.take i++(xs.getD k []).drop i)).flatten.map bn:=by
   have aT:(ys.take i++(xs.getD k []).drop i).length=m:=by
    rw [List.length_append,List.length_take,List.length_drop,hm];omega
   have cO:xs.flatten.drop (k*m+i)=(xs.getD k []).drop i++xs.flatten.drop (k*m+m):=by
    have dR:=Ms hl aE
    have fh:xs.flatten.drop (k*m)=xs.getD k []++xs.flatten.drop (k*m+m):=by
     rw [← dR,← List.drop_drop,List.take_append_drop]
    rw [← List.drop_drop,fh,List.drop_append_of_le_length ag]
   rw [fE,← FV hl aT aE,aT,← List.map_take,← List.map_drop,cO]
   simp only [List.map_append,List.append_assoc]
  rw [he] at U
  have HO:=(hw.own _ (List.mem_of_getElem? w4)).1.2
  cases vf:P.info? e with
  | none=>have:=cr.inf;simp [vf] at this
  | some ii=>
   have Hm:ii.size=1:=by have:=cr.inf;simp [vf] at this;exact this.1
   have aY:=run_copy_row (P:=P) w t sT ty e b (k*m) i m ⟨dD,0,none⟩ m sc cur e5 ((ys.take i).map bn) aN.und (by simp [vf,Hm]) aP (by rw [fE];show i=min m i;omega) (fun j vv aV=>by
    rw [fU,cell_of_row w dD _ _ bt (0,0) HO]
    rw [List.map_take] at aV
    have u1:j<i:=by have:=(List.getElem?_eq_some_iff.1 aV).1;rw [List.length_take,List.length_map] at this;omega
    rw [List.getElem?_take_of_lt u1] at aV
    simpa using aV) (by rw [fE];rw [List.length_map,eK] at iT;omega) (fun vv bA=>by
    obtain ⟨bb,_,rfl⟩:=List.mem_map.1 bA
    rfl)
   rw [fE] at aY U
   refine ⟨_,zs,_,_,.inl ?_,⟨rfl,rfl,rfl⟩,U⟩
   simp only [execOp,resolve]
   simp only [invoke,builtin,Sem.run_bind,Sem.run_pure,Result.andThen_ok,List.map_toArray,List.map_cons,List.map_nil,bg.eval h1,bg.eval ar]
   rw [aY]
   rfl
end
end Go.aK
end
section
namespace Go.aK
open Go Go.Sem
section
variable {P:Program}{n:Nat}{w0:World}{zs:List aR}{hs:List aC}{L:List (Nat×Value)}{d:Option Tmp}{ty t b7:TypeId}{pos:String}{af:Array Edge}{g:Option (Nat×Bool)}
variable {x y c:Operand}{u v:Value}{α:Type}{f:α→List Value}{m:Nat}{xs:List α}
theorem FW(xs:List α):xs.flatMap f=(xs.map f).flatten:=by rw [List.flatMap_def]
theorem afL[a1](hl:∀ x,(f x).length=m)(h6:α){bS:TypeDesc}{bu:Nat}{zv:Value}(aN:ba P t bS m bu zv)(q:Nat){e:TypeId}{c k:Nat}(ch:hs[q]?=some (.row v e m c (xs.flatMap f)))(h1:aW L x=some (dn v (k*m)))(aT:fg bS=true)(h0:0<m)(aE:k<xs.length) :
  bR P n w0 zs hs L ⟨d,.load t x,ty,pos,af,g⟩ (.agg (f (xs.getD k h6)).toArray):=by
 have:=QQ (P:=P) (n:=n) (w0:=w0) (zs:=zs) (d:=d) (ty:=ty) (pos:=pos) (af:=af) (g:=g) aN q (xs.map f) k (by rw [ch,FW]) (fun c bq=>by
  obtain ⟨a,_,rfl⟩:=List.mem_map.1 bq
  exact hl a) h1 (by simpa using aE) h0 aT
 have e:(xs.map f).getD k []=f (xs.getD k h6):=by
  rw [List.getD_eq_getElem?_getD,List.getD_eq_getElem?_getD,List.getElem?_map,List.getElem?_eq_getElem aE]
  rfl
 rwa [e] at this
theorem L9[a1](hl:∀ x,(f x).length=m)(n0:∀ x,∀ u∈f x,u.oneCell'=true){bS:TypeDesc}{bu:Nat}{zv:Value}(aN:ba P t bS m bu zv)(q:Nat){e:TypeId}{a7 k:Nat}{a:α}(h1:aW L x=some (dn v (k*m)))(ar:aW L y=some u)(hu:u=.agg (f a).toArray)(aE:hs[q]?=some (.row v e m a7 (xs.flatMap f)))(bq:a7=xs.length)(aV:k<xs.length) :
  fJ P n w0 zs hs L ⟨d,.store t x y,ty,pos,af,g⟩ (fun dr zs' hs'=>dr=undef∧zs'=zs∧hs'=hs.set q (.row v e m a7 ((xs.set k a).flatMap f))):=
 ka fun ac lE w hw=>by
  subst bq hu
  have w1:k*m+m≤xs.length*m:=by
   have:=Nat.mul_le_mul_right m (show k+1≤xs.length by omega)
   rwa [Nat.add_mul,Nat.one_mul] at this
  have fE:(f a).length=m:=hl a
  have aa6:∀ c∈xs.map f,c.length=m:=fun c bq=>by
   obtain ⟨a,_,rfl⟩:=List.mem_map.1 bq
   exact hl a
  obtain ⟨b,cap,cur,rfl,_,aw,u3,U⟩:=hw.AT (c:=f a) aE (j:=k*m) (by rw [fE];exact w1) ag
  have he:(xs.flatMap f).take (k*m)++f a++(xs.flatMap f).drop (k*m+(f a).length)=(xs.set k a).flatMap f:=by
   rw [FW,FW,List.map_set,← FV aa6 fE (by simpa using aV)]
  rw [he] at U
  have aY:=AP (v:=.agg (f a).toArray) aN (b:=b) (off:=k*m) (bt:=e) (cs:=cur.toList) (w:=w) (by simpa using aw) (by simpa [Value.cells] using fE) (fun u hu=>by
   simp only [Value.cells,List.mem_toArray] at hu
   exact n0 a u hu) (by rw [fE] at u3;simpa using u3)
  refine ⟨undef,zs,_,_,.inr ⟨?_,rfl⟩,⟨rfl,rfl,rfl⟩,U⟩
  have aM:ac.eval x=.pointer (some ⟨b,k*m,none⟩):=(lE.eval h1).trans (by simp [dn,fU])
  simp only [execOp,aM,lE.eval ar]
  simp [Instr.storeAt,Instr.sureAddr,aY,Value.cells]
end
end Go.aK
end
section
namespace Go.aK
open Go Go.Sem Go.RowKit Go.Maps Go.Shelf Go.Proofs
theorem U8{w w':World}(h:Below w.heap.size w w'):(cf w).le (cf w'):=fun b o aw=>by
 have:=lb aw
 simp only [cf] at aw ⊢
 rw [h.block b this];exact aw
theorem U7{B:Nat}{w w':World}(h:Below B w w'):mW w w':=⟨h.os,h.tape,h.output⟩
theorem SA{w w':World}(h:Below w.heap.size w w'){v:Value}{e:TypeId}{s m:Nat}{cs:List Value}(aY:w'.ownsRow w.heap.size e s v m cs):aB w [] [.row v e s m cs] w':=
 ⟨U8 h,by simp,fun r qz=>by
  rw [List.mem_singleton] at qz;subst qz
  exact ⟨aY,by simp⟩,by
  cases nJ:(aC.row v e s m cs).id with
  | none=>simp [nJ]
  | some b=>simp [nJ],U7 h⟩
theorem acK{P:Program}{kt:TypeId}(h:P.underlying kt=some (.int .i64)){i:Int}(aH : -9223372036854775808≤i∧i≤9223372036854775807):Go.keyOf P kt (aA i)=some (.int .i64 i):=by
 have hw:(Lit.int .i64 i).wf=true:=by
  have h1:IntKind.i64.min = -9223372036854775808:=by decide
  have ar:IntKind.i64.max=9223372036854775807:=by decide
  simp only [Lit.wf,h1,ar,Bool.and_eq_true,decide_eq_true_eq]
  exact aH
 simp [Go.keyOf,h,mapKey,aA,hw]
theorem ah4{P:Program}{ρk ρs:Ren}(lU:SlLaysZI.n7 P ρk)(ja:SlLaysZI.n6 P ρs)(HN:AnyZI.SortsIn P ρs Fence.wide 4)(kt:TypeId)(Hy:ρk.t 26=kt)(fH:ρs.t 26=kt)(Hl:P.underlying kt=some (.int .i64))
  (yT:∀ args w,(callFunc (ρs.f 9) args).run P w=.ok (.enter (ρs.f 9) args) w) (eg:∀ args w,(callFunc (ρk.f 10) args).run P w=.ok (.enter (ρk.f 10) args) w)
  {l:List (Int×Value)}{es:List MapEntry}{c e b:Nat}{q9:TypeId}(eP:ll aA l es c) (bD:(l.map (·.1)).Nodup) (aE:∀ i∈l.map (·.1), -9223372036854775808≤i∧i≤9223372036854775807) (hl:l.length≤4096) (w0:World) (bU:List aR) :
  e1 P (ρs.f 6) [.func (.func (ρk.f 10)) (List.nil:List Value).toArray [.pointer (some ⟨e,0,none⟩)].toArray] w0 bU [.blk e q9 [.map (some b)],.mp b es c] (fun v dB c5=>dB=[]∧c5=[.row v kt 1 ((l.map (·.1)).mergeSort (fun x y=>decide (x≤y))).length (((l.map (·.1)).mergeSort (fun x y=>decide (x≤y))).map aA),.blk e q9 [.map (some b)],.mp b es c]):=by
 intro cF w U
 have h1:=(U.own (.blk e q9 [.map (some b)]) (by simp)).1
 have ar:=(U.own (.mp b es c) (by simp)).1
 obtain ⟨fD,gS,rB⟩:=eP
 have uU:es.length=l.length:=PJ fD
 let R:Value→Option (DataW Unit×List MemPlace):=fun _=>some (.nil,[])
 have Hx:∀ x∈es,∃ i,x.key=aA i∧i∈l.map (·.1):=fun x aM=>by
  have:(x.key,x.val)∈es.map (fun e=>(e.key,e.val)):=List.mem_map_of_mem aM
  rw [fD] at this
  obtain ⟨p,bO,he⟩:=List.mem_map.1 this
  exact ⟨p.1,by simpa using (congrArg Prod.fst he).symm,List.mem_map_of_mem bO⟩
 have pR:∀ x∈es,∃ i,x.key=aA i∧i∈l.map (·.1)∧WideElems.rd P kt R x=some (.int .i64 i,.nil):=fun x aM=>by
  obtain ⟨i,aQ,bF⟩:=Hx x aM
  refine ⟨i,aQ,bF,?_⟩
  unfold WideElems.rd
  rw [aQ,acK Hl (aE i bF)]
  rfl
 have zy:es.map (·.key)=l.map (fun p=>aA p.1):=by
  have:=congrArg (List.map Prod.fst) fD
  simpa [List.map_map,Function.comp_def] using this
 have HP:MapKept.Stamped es.toArray c:=by
  refine ⟨by simpa using gS,by simpa using rB,?_⟩
  rw [show (es.toArray.toList.map (·.key))=l.map (fun p=>aA p.1) by simpa using zy]
  have:l.map (fun p=>aA p.1)=(l.map (·.1)).map aA:=by rw [List.map_map];rfl
  rw [this]
  exact List.Pairwise.map aA (fun a b fG e=>fG (by simpa [aA] using e)) bD
 have rG:WideElems.Fit P kt R es.toArray c:=⟨by simp only [List.size_toArray];unfold maxLen;omega,HP,fun x aM=>by
  obtain ⟨i,_,_,cO⟩:=pR x (by simpa using aM)
  exact ⟨_,cO⟩⟩
 have fj:w.ownsMap P kt R b es.length (.map ((es.toArray.toList.map (WideElems.rg P kt R)).foldr DataW.insert [])):=⟨es.toArray,c,ar.2,rG,by simp,rfl⟩
 obtain ⟨pn,uK⟩:∃ D:DataW Unit,D=.map ((es.toArray.toList.map (WideElems.rg P kt R)).foldr DataW.insert []):=⟨_,rfl⟩
 rw [← uK] at fj
 have zH:=WideShapes.sorted_perm (es.toArray.toList.map (WideElems.rg P kt R))
 have sV:(intKeys pn).Perm (l.map (·.1)):=by
  rw [uK]
  show (((es.toArray.toList.map (WideElems.rg P kt R)).foldr DataW.insert []).map fun p=>Go.intOf p.1).Perm _
  refine (zH.map _).trans ?_
  rw [List.map_map]
  have:es.toArray.toList.map ((fun p=>Go.intOf p.1) ∘ WideElems.rg P kt R)=l.map (·.1):=by
   show es.map _=_
   have dR:es.map ((fun p=>Go.intOf p.1) ∘ WideElems.rg P kt R)=(es.map (·.key)).map (fun v=>match v with | .int _ i=>i | _=>0):=by
    rw [List.map_map]
    refine List.map_congr_left fun x aM=>?_
    obtain ⟨i,fh,_,dJ⟩:=pR x aM
    simp only [Function.comp,WideElems.rg_of dJ,fh,aA,Go.intOf]
   rw [dR,zy,List.map_map]
   rfl
  rw [this]
 have eF:Maps.size pn=l.length:=by
  rw [uK]
  show ((es.toArray.toList.map (WideElems.rg P kt R)).foldr DataW.insert []).length=_
  rw [zH.length_eq,List.length_map]
  exact uU
 have Hb:e<w.heap.size:=(Array.getElem?_eq_some_iff.1 h1.2).1
 have nI:w.cell? ⟨e,0,none⟩=some (.map (some b)):=by
  rw [cell_of_row w e 0 [Value.map (some b)].toArray q9 (0,0) h1.2];rfl
 have HL:SeqGives Fence.wide 2 P (ρk.f 10) #[.pointer (some ⟨e,0,none⟩)] encZ (fun ss=>ss.Perm (intKeys pn)) (Maps.size pn) w:=
  AnyZI.keys_gives (ρ:=ρk) { lU with } Fence.wide 2 trivial rfl ag e b es.length pn w Hb nI (by rw [Hy];exact fj)
 have Fq:=AnyZI.sorted_in ja Fence.wide 5 trivial trivial trivial trivial rfl ag HN yT (ρk.f 10) #[.pointer (some ⟨e,0,none⟩)] trivial eg _ _ (by rw [eF];unfold maxLen;omega) (by rw [eF];omega) w HL
 refine Calls.mono (callsIn_wide.1 Fq) fun e5 w' ⟨v,ss,he,bO,zL,_,aw⟩=>?_
 have zM:ss.mergeSort (fun x y=>decide (x≤y))=(l.map (·.1)).mergeSort (fun x y=>decide (x≤y)):=mergeSort_of_perm_i (bO.trans sV)
 have hlen:ss.length=((l.map (·.1)).mergeSort (fun x y=>decide (x≤y))).length:=by rw [← zM,List.length_mergeSort]
 rw [zM,hlen,fH] at zL
 exact ⟨v,[],_,he,U.call (SA aw zL),rfl,rfl⟩
end Go.aK
end
section
namespace Go.aK
open Go Go.Sem
def j9(e:TypeId)(l:List UInt8)(cap:Nat):Obj:=.cells (l.map bn++List.replicate (cap-l.length) (Value.int .u8 0)).toArray e ((l.map bn++List.replicate (cap-l.length) (Value.int .u8 0)).length,(l.map bn++List.replicate (cap-l.length) (Value.int .u8 0)).length+1)
theorem Lq{e:TypeId}{l:List UInt8}{cap b:Nat}(bq:l.length≤cap)(hl:l.length≤140737488355328):bo hc (ey b (j9 e l cap)) (.slice (some ⟨b,0,none⟩) l.length cap) l:=
 ⟨hl,some ⟨b,0,none⟩,cap,rfl,bq,fun i xx aM=>by
  have aH:=(List.getElem?_eq_some_iff.1 aM).1
  refine ⟨b,0,(l.map bn++List.replicate (cap-l.length) (Value.int .u8 0)).toArray,e,_,[bn xx],rfl,by unfold ey j9;rw [if_pos rfl],⟨rfl,trivial⟩,fun j uu hu=>?_⟩
  cases j with
  | zero=>
   simp only [List.getElem?_cons_zero,Option.some.injEq] at hu
   subst hu
   show (l.map bn++List.replicate (cap-l.length) (Value.int .u8 0)).toArray[0+i*1+0]?=_
   rw [List.getElem?_toArray,List.getElem?_append_left (by rw [List.length_map];omega)]
   simp [aM]
  | succ j=>simp at hu⟩
section
variable {P:Program}{n:Nat}{w0:World}{zs:List aR}{hs:List aC}{L:List (Nat×Value)}{d:Option Tmp}{ty t b7:TypeId}{pos:String}{af:Array Edge}{g:Option (Nat×Bool)}
variable {x y c:Operand}{u v:Value}
theorem WM[a1]{e:TypeId}{s b s' ha mc lY:Nat}{zv mo mq:Value}(aN:ba P t .string s b zv)(gL:ba P b7 (.slice e) s' ha mo)(cr:ba P e (.int .u8) mc lY mq){l:List UInt8}(h1:aW L x=some (vs l))(hl:l.length≤140737488355328) :
  fJ P n w0 zs hs L ⟨d,.convert t b7 x,ty,pos,af,g⟩ (fun v zs' hs'=>∃ b cap,v=.slice (some ⟨b,0,none⟩) l.length cap∧zs'=ey b (j9 e l cap)::zs∧hs'=hs∧l.length≤cap∧∀ z∈zs,z b=none):=
 ka fun a bg w hw=>by
  have eF:(cW l).size=l.length:=by simp [ByteArray.size]
  have aY:=run_bytes_of_string (P:=P) w t b7 e (cW l) aN.und gL.und cr.und
  rw [eF] at aY
  generalize sP:grownCap w l.length 0 e=cap at aY
  have G9:l.length≤cap:=by rw [← sP];exact grownCap_ge w l.length 0 e
  have uR:bytesRow (cW l) cap=(l.map bn++List.replicate (cap-l.length) (Value.int .u8 0)).toArray:=by
   unfold bytesRow
   rw [eF]
   apply Array.ext'
   simp [bn]
  have zF:Obj.cells (bytesRow (cW l) cap) e ((bytesRow (cW l) cap).size,(bytesRow (cW l) cap).size+1)=j9 e l cap:=by
   unfold j9
   rw [uR]
   simp
  rw [zF] at aY
  have fH:=hw.frozen (w':=w.drew.alloc (j9 e l cap)) (j9 e l cap) (by simp) (fun b aw=>heap_alloc_old w _ aw) (heap_alloc_new w _) ⟨rfl,rfl,rfl⟩
  refine ⟨.slice (some ⟨w.heap.size,0,none⟩) l.length cap,ey w.heap.size (j9 e l cap)::zs,hs,w.drew.alloc (j9 e l cap),.inl ?_,⟨_,cap,rfl,rfl,rfl,G9,fun z bj=>?_⟩,fH⟩
  ·simp only [execOp,bg.eval h1]
   rw [Sem.run_bind,aY]
   rfl
  ·cases gn:z w.heap.size with
   | none=>rfl
   | some o=>
    have:=lb ((hw.zone z bj).1 _ o gn)
    omega
theorem WN[a1]{bS:TypeDesc}{bu:Nat}{zv:Value}(aN:ba P t bS 1 bu zv){e:TypeId}{l:List UInt8}{b cap m j:Nat}{ub:UInt8}(h1:aW L x=some (dn (.slice (some ⟨b,0,none⟩) m cap) (j*1)))(ar:aW L y=some (bn ub))(aV:j<l.length)(aT:∀ z∈zs,z b=none) :
  fJ P n w0 (ey b (j9 e l cap)::zs) hs L ⟨d,.store t x y,ty,pos,af,g⟩ (fun dr zs' hs'=>dr=undef∧zs'=ey b (j9 e (l.set j ub) cap)::zs∧hs'=hs):=
 ka fun a bg w hw=>by
  have bj:=hw.zone (ey b (j9 e l cap)) (by simp)
  have gn:ey b (j9 e l cap) b=some (j9 e l cap):=by unfold ey;rw [if_pos rfl]
  have aw:w.heap[b]?=some (j9 e l cap):=bj.1 _ _ gn
  have m3:=bj.2 _ _ gn
  unfold j9 at aw
  have hlen:(l.map bn++List.replicate (cap-l.length) (Value.int .u8 0)).length=l.length+(cap-l.length):=by simp
  have aM:a.eval x=.pointer (some ⟨b,j,none⟩):=(bg.eval h1).trans (by simp [dn,fU])
  have nI:w.cell? ⟨b,j,none⟩=some (bn (l.getD j 0)):=by
   rw [cell_of_row w b j _ e _ aw,List.getElem?_toArray,List.getElem?_append_left (by simpa using aV),List.getElem?_map,List.getD_eq_getElem?_getD,List.getElem?_eq_getElem aV]
   rfl
  have aaJ:w.frozen? ⟨b,j,none⟩=false:=by
   simp only [World.frozen?,aw]
   have:¬ (l.map bn++List.replicate (cap-l.length) (Value.int .u8 0)).length≤j:=by rw [hlen];omega
   simp only [decide_eq_false this,Bool.false_and]
  have vi:=setCell_eq_setRow w b j _ e _ (bn ub) aw
  have Om:(store ⟨b,j,none⟩ (bn ub)).run P w=.ok () (w.setRow b ((l.map bn++List.replicate (cap-l.length) (Value.int .u8 0)).toArray.setIfInBounds j (bn ub))):=by
   rw [run_store P w _ _ _ rfl,nI]
   simp only [aaJ,vi]
   rfl
  have aba:((l.map bn++List.replicate (cap-l.length) (Value.int .u8 0)).toArray.setIfInBounds j (bn ub))=((l.set j ub).map bn++List.replicate (cap-(l.set j ub).length) (Value.int .u8 0)).toArray:=by
   apply Array.ext'
   rw [Array.toList_setIfInBounds]
   simp only [List.length_set]
   rw [List.set_append_left _ _ (by simpa using aV),List.map_set]
  have fN:(w.setRow b ((l.map bn++List.replicate (cap-l.length) (Value.int .u8 0)).toArray.setIfInBounds j (bn ub))).heap[b]?=some (j9 e (l.set j ub) cap):=by
   rw [setRow_heap w b _ _ e _ aw,aba]
   unfold j9
   simp only [List.length_set,List.length_append,List.length_map,List.length_replicate]
  generalize vk:w.setRow b ((l.map bn++List.replicate (cap-l.length) (Value.int .u8 0)).toArray.setIfInBounds j (bn ub))=mm at Om fN
  have HD:∀ k,k≠b→mm.heap[k]?=w.heap[k]?:=fun k aE=>by
   rw [← vk];exact setRow_other w b k _ aE
  have anz:mm.heap.size=w.heap.size:=by rw [← vk];simp
  have rH:mW w mm:=by rw [← vk];exact ⟨rfl,rfl,rfl⟩
  refine ⟨undef,ey b (j9 e (l.set j ub) cap)::zs,hs,mm,.inr ⟨?_,rfl⟩,⟨rfl,rfl,rfl⟩,?_⟩
  ·simp only [execOp,aM,bg.eval ar]
   have abN:(storeVar t ⟨b,j,none⟩ (bn ub)).run P w=.ok () mm:=by
    have bq:(bn ub).cells=#[bn ub]:=rfl
    have jU:(⟨b,j,none⟩:Addr).add 0=⟨b,j,none⟩:=by rw [fU];rfl
    simp [storeVar,aN.sizeOf,bq,storeCells,jU,Om]
   simp [Instr.storeAt,Instr.sureAddr,abN]
  ·refine ⟨fun k o aE=>?_,fun z ta=>?_,fun r aY=>⟨aC.vu (hw.own r aY).1 fun k aE=>?_,fun k aE z ta=>?_⟩,hw.nd,hw.io.trans rH⟩
   ·have:=lb aE
    show mm.heap[k]?=some o
    rw [HD k ag]
    exact hw.ext k o aE
   ·rcases List.mem_cons.1 ta with rfl | ta
    ·refine ⟨fun k o aE=>?_,fun k o aE=>?_⟩
     ·obtain ⟨rfl,rfl⟩:=tp aE
      exact fN
     ·obtain ⟨rfl,_⟩:=tp aE
      exact m3
    ·have aQ:=hw.zone z (List.mem_cons_of_mem _ ta)
     refine ⟨fun k o aE=>?_,aQ.2⟩
     have rJ:k≠b:=fun e=>by rw [e,aT z ta] at aE;cases aE
     show mm.heap[k]?=some o
     rw [HD k rJ]
     exact aQ.1 k o aE
   ·have:=(hw.own r aY).2 k aE (ey b (j9 e l cap)) (by simp)
    refine HD k fun e=>?_
    rw [e,gn] at this
    cases this
   ·rcases List.mem_cons.1 ta with rfl | ta
    ·have:=(hw.own r aY).2 k aE (ey b (j9 e l cap)) (by simp)
     unfold ey at this ⊢
     split at this
     ·cases this
     ·rw [if_neg ‹_›]
    ·exact (hw.own r aY).2 k aE z (List.mem_cons_of_mem _ ta)
theorem afY[a1]{e:TypeId}{s b:Nat}{zv:Value}(aN:ba P t (.pointer e) s b zv){p:Option Addr}(h1:aW L x=some (.pointer p))(ar:aW L y=some (.pointer none)) :
  bR P n w0 zs hs L ⟨d,.binOp .neq t x y b7,ty,pos,af,g⟩ (.bool (!p.isNone)):=
 fu h1 ar Mf fun w=>by
  simp only [binOp]
  simp [Op.equal,Op.maxDepth,Mg 9999 aN.und p w]
theorem QV[a1]{e:TypeId}{s b:Nat}{zv:Value}(aN:ba P t (.pointer e) s b zv){a:Addr}(h1:aW L x=some (.pointer (some a)))(ar:aW L y=some (.pointer none)) :
  bR P n w0 zs hs L ⟨d,.binOp .neq t x y b7,ty,pos,af,g⟩ (.bool true):=afY aN h1 ar
theorem o5[a1]{e:TypeId}{s b:Nat}{zv:Value}(aN:ba P t (.pointer e) s b zv){a:Addr}(h1:aW L x=some (.pointer (some a)))(ar:aW L y=some (.pointer none)) :
  bR P n w0 zs hs L ⟨d,.binOp .eql t x y b7,ty,pos,af,g⟩ (.bool false):=afw aN h1 ar
end
end Go.aK
end
section
namespace Go.aK
section
variable {P:Program}{n:Nat}{w0:World}{zs:List aR}{hs:List aC}{L:List (Nat×Value)}{d:Option Tmp}{ty t:TypeId}{pos:String}{af:Array Edge}{g:Option (Nat×Bool)}{x y EG c:Operand}{v:Value}
theorem xB[a1]{m:Nat}{e:TypeId}{s bu:Nat}{zv:Value}(aN:ba P t (.array m e) s bu zv){de:TypeDesc}{se be:Nat}{ze:Value}(cr:ba P e de se be ze){b off:Nat}{k jq:IntKind}{i j:Int}(h1:aW L x=some (.pointer (some ⟨b,off,none⟩)))(ar:aW L y=some (.int k i))(aQ:aW L EG=some (.int jq j))(aw:0≤i∧i≤j∧i<m∧j≤m) :
  bR P n w0 zs hs L ⟨d,.slice t x (some y) (some EG) none,ty,pos,af,g⟩ (.slice (some ⟨b,off+i.toNat*se,none⟩) (j.toNat-i.toNat) (m-i.toNat)):=
 eV fun a bg w hw=>by
  simp only [execOp,bg.eval h1,Option.map_none,Option.map_some,bg.eval ar,bg.eval aQ]
  have bL:(Instr.sliceBound (.int jq j) m .sliceAlen).run P w=.ok j.toNat w:=run_sliceBound (P:=P) (w:=w) jq j m .sliceAlen ag ag
  have bT:(Instr.sliceBound (.int k i) j.toNat .sliceB).run P w=.ok i.toNat w:=run_sliceBound (P:=P) (w:=w) k i j.toNat .sliceB ag ag
  have aQ:¬ (m=i.toNat):=by omega
  simp [Instr.sliceAt,Instr.sureAddr,run_underlying aN.und,Instr.sliceBounds,cr.sizeOf,fU,bL,bT,aQ]
theorem afC[a1]{e:TypeId}{s bu:Nat}{zv:Value}(aN:ba P t (.slice e) s bu zv){de:TypeDesc}{be:Nat}{ze:Value}(cr:ba P e de 1 be ze){b off m cc:Nat}{i:Int}{k:IntKind}(h1:aW L x=some (.slice (some ⟨b,off,none⟩) m cc))(ar:aW L y=some (.int k i))(aw:0≤i∧i<m) :
  bR P n w0 zs hs L ⟨d,.indexAddr t x y,ty,pos,af,g⟩ (.pointer (some ⟨b,off+i.toNat,none⟩)):=
 eV fun a bg w hw=>by
  simp only [execOp,bg.eval h1,bg.eval ar]
  simp [Instr.indexAt,asIntOf,run_underlying aN.und,aw,cr.sizeOf,fU]
theorem nC{w:World}(U:aB w0 zs hs w)(k:Nat){b off m cc:Nat}{bt:TypeId}{xs:List UInt8}(aE:hs[k]?=some (.blk b bt (xs.map bn)))(h:off+m≤xs.length∧m≤cc∧xs.length≤140737488355328) :
  bo hc (cf w) (.slice (some ⟨b,off,none⟩) m cc) (List.drop off (List.take (off+m) xs)):=by
 have e:List.drop off (List.take (off+m) xs)=(xs.drop off).take m:=by rw [List.drop_take];congr 1;omega
 have hl:((xs.drop off).take m).length=m:=by rw [List.length_take,List.length_drop];omega
 rw [e]
 exact Lp (f:=bn) (p:=fun _=>True) (h0:=fun _=>rfl) (xs:=(xs.drop off).take m) U k aE (by rw [List.map_take,List.map_drop]) ⟨hl.symm,h.2.1,by omega⟩ (fun _ _=>trivial)
theorem WH[a1]{e sT:TypeId}{s bu:Nat}{zv:Value}(aN:ba P t (.slice e) s bu zv){de:TypeDesc}{be:Nat}{ze:Value}(cr:ba P e de 1 be ze)(k:Nat){b off dl dc:Nat}{bt:TypeId}{xs tx:List UInt8}
  (h1:aW L x=some (.slice (some ⟨b,off,none⟩) dl dc)) (ar:aW L y=some (vs tx)) (aE:hs[k]?=some (.blk b bt (xs.map bn))) (hl:off+dl≤xs.length) :
  fJ P n w0 zs hs L ⟨d,.call ⟨.builtin .copy,#[x,y],#[t,sT]⟩,ty,pos,af,g⟩ (fun v zs' hs'=>v=aA (min tx.length dl)∧zs'=zs∧hs'=hs.set k (.blk b bt ((xs.take off++tx.take (min tx.length dl)++xs.drop (off+min tx.length dl)).map bn))):=
 ka fun a bg w hw=>by
  have aw:=(hw.own _ (List.mem_of_getElem? aE)).1
  have aY:=R9 (sT:=sT) aN cr (w:=w) (off:=off) (dl:=dl) (dc:=dc) tx aw.2 (by simp;omega) ty
  have he:(List.take off (xs.map bn)++List.map bn (List.take (min tx.length dl) tx)++List.drop (off+min tx.length dl) (xs.map bn))=(xs.take off++tx.take (min tx.length dl)++xs.drop (off+min tx.length dl)).map bn:=by
   simp
  have U:=hw.store (off:=off) (c:=(tx.take (min tx.length dl)).map bn) aE (by simp;omega)
  rw [show ((tx.take (min tx.length dl)).map bn).length=min tx.length dl by simp] at U
  rw [he] at aY U
  generalize w.setRow b _=mm at aY U
  refine ⟨_,zs,_,_,.inl ?_,⟨rfl,rfl,rfl⟩,U⟩
  simp only [execOp,resolve]
  simp [invoke,builtin,bg.eval h1,bg.eval ar,aY]
theorem WG[a1]{e sT:TypeId}{s bu:Nat}{zv:Value}(aN:ba P t (.slice e) s bu zv){de:TypeDesc}{be:Nat}{ze:Value}(cr:ba P e de 1 be ze)(q ct:Nat){b dD off dl dc sl sc:Nat}{bt Lr:TypeId}{xs ys:List UInt8}
  (h1:aW L x=some (.slice (some ⟨b,off,none⟩) dl dc)) (ar:aW L y=some (.slice (some ⟨dD,0,none⟩) sl sc)) (ch:hs[q]?=some (.blk b bt (xs.map bn))) (w4:hs[ct]?=some (.blk dD Lr (ys.map bn))) (hl:off+dl≤xs.length) (aQ:dl≤sl) (bF:dl≤ys.length) :
  fJ P n w0 zs hs L ⟨d,.call ⟨.builtin .copy,#[x,y],#[t,sT]⟩,ty,pos,af,g⟩ (fun v zs' hs'=>v=aA dl∧zs'=zs∧hs'=hs.set q (.blk b bt ((xs.take off++ys.take dl++xs.drop (off+dl)).map bn))):=
 ka fun a bg w hw=>by
  have aw:=(hw.own _ (List.mem_of_getElem? ch)).1.2
  have HO:=(hw.own _ (List.mem_of_getElem? w4)).1.2
  have fE:((ys.take dl).map bn).length=dl:=by rw [List.length_map,List.length_take];omega
  have U:=hw.store (off:=off) (c:=(ys.take dl).map bn) ch (by rw [fE,List.length_map];omega)
  have he:(List.take off (xs.map bn)++(ys.take dl).map bn++List.drop (off+dl) (xs.map bn))=(xs.take off++ys.take dl++xs.drop (off+dl)).map bn:=by simp
  rw [fE,he] at U
  cases vf:P.info? e with
  | none=>have:=cr.inf;simp [vf] at this
  | some ii=>
   have Hm:ii.size=1:=by have:=cr.inf;simp [vf] at this;exact this.1
   have aY:=run_copy_row (P:=P) w t sT ty e b off dl dc ⟨dD,0,none⟩ sl sc (xs.map bn).toArray bt ((ys.take dl).map bn) aN.und (by simp [vf,Hm]) aw (by rw [fE];show dl=min sl dl;omega) (fun j vv aV=>by
    rw [fU,cell_of_row w dD _ _ Lr (0,0) HO]
    rw [List.map_take] at aV
    have u1:j<dl:=by have:=(List.getElem?_eq_some_iff.1 aV).1;rw [List.length_take,List.length_map] at this;omega
    rw [List.getElem?_take_of_lt u1] at aV
    simpa using aV) (by rw [fE];simp;omega) (fun vv bA=>by
    obtain ⟨bb,_,rfl⟩:=List.mem_map.1 bA
    rfl)
   rw [fE] at aY
   simp only [List.toList_toArray] at aY
   rw [he] at aY
   refine ⟨_,zs,_,_,.inl ?_,⟨rfl,rfl,rfl⟩,U⟩
   simp only [execOp,resolve]
   simp only [invoke,builtin,Sem.run_bind,Sem.run_pure,Result.andThen_ok,List.map_toArray,List.map_cons,List.map_nil,bg.eval h1,bg.eval ar]
   rw [aY];rfl
end
def yD(P:Program)(Y:Value)(vs:List Value)(I J:World→Prop):Prop:=
 ∀ w,I w→∃ (l:Nat) (f:FuncId) (tmps:Array Value) (assign body:Code),Y=.func (.yield l) #[] #[]∧(Instr.yield l vs.toArray).run P w=.ok (.round l f tmps assign body) w ∧
  ∀ m,RoundIn (gZ none) m P l f tmps assign body w fun e w'=>e=.returned (.bool true)∧J w'
section
variable {P:Program}{n:Nat}{w0:World}{zs:List aR}{L:List (Nat×Value)}
def k0:List Tmp→List Value→List (Nat×Value)→List (Nat×Value)
 | p::ps,v::vs,L=>k0 ps vs ((p,v)::L)
 | _,_,L=>L
theorem Gg[I:a1]:∀ (ps:List Tmp) (vs:List Value) (L:List (Nat×Value)) (a:Act),ps.all (fun p=>Nat.blt p n)=true→ps.length=vs.length→Fr n L a→Fr n (k0 ps vs L) { tmps:=(ps.zip vs).foldl (fun tmps (x:Tmp×Value)=>tmps.setIfInBounds x.1 x.2) a.tmps,defers:=a.defers }
 | [],[],L,a,_,_,h=>⟨h.size,h.nodef,h.get⟩
 | p::ps,v::vs,L,a,bO,hl,h=>by
  simp only [List.all_cons,Bool.and_eq_true] at bO
  exact Gg ps vs ((p,v)::L) (a.put p v) bO.2 (by simpa using hl) (h.put (Nat.blt_eq.mp bO.1))
 | [],_::_,_,_,_,hl,_=>by simp at hl
 | _::_,[],_,_,_,hl,_=>by simp at hl
theorem Ka{γ ξ:Type}{g:Operand}{ps:List Tmp}{asg:Code}{body:Code}{Q:Exit→Act→World→Prop}{a:Act}{w:World}{gf:FuncId}{cs:List Value}(gy:γ→List aC)(inv:Nat→γ→Prop)(N:Nat)(it:Nat→List Value)(il:γ)(gu:Nat→γ→ξ→List (Nat×Value))(c5:Nat→γ→ξ→List aC)
  (ab:Fr n L a) (U:aB w0 zs (gy il) w) (aP:aW L g=some (.func (.func gf) #[] cs.toArray)) (bO:ps.all (fun p=>Nat.blt p n)=true) (ia:∀ k,(it k).length=ps.length) (bw:b1 P gf) (h0:inv 0 il)
  (G2:∀ (ro:Option Nat) (m:Nat) (jO dT:aR) (k:Nat) (r:γ) (a:Act) (w:World),k<N→inv k r→Fr n (k0 ps (it k) L) a→aB w0 (jO::dT::zs) (gy r) w→asg.wpIn (gZ ro) m P (kE fun a w=>∃ x,Fr n (gu k r x) a∧aB w0 (jO::dT::zs) (c5 k r x) w) a w)
  (jY:∀ (Y:Value) (dB:List aR),(∀ z∈zs,z∈dB)→(∀ k r,k<N→inv k r→yD P Y (it k) (aB w0 dB (gy r)) fun w'=>∃ fe,inv (k+1) fe∧aB w0 dB (gy fe) w') →
   ∀ w,aB w0 dB (gy il) w→Calls P gf (Y::cs).toArray w fun e w'=>(∃ v,e=.returned v)∧∃ r,inv N r∧aB w0 dB (gy r) w')
  (G6:∀ (l m:Nat) (jO dT:aR) (k:Nat) (r:γ) (x:ξ) (a:Act) (w:World),k<N→inv k r→Fr n (gu k r x) a→aB w0 (jO::dT::zs) (c5 k r x) w →
   body.wpIn (gZ (some l)) m P (kE fun _ w'=>∃ fe,inv (k+1) fe∧aB w0 (jO::dT::zs) (gy fe) w') a w)
  (dU:∀ (I:a1) (D:Nat) (dT:aR) (a:Act) (w:World) (r:γ),(∀ z∈zs,z D=none)→I.ds=[{ target:=.collected D,args:=#[] }]→dT=ey D (.deferred (some []))→inv N r→Fr (I:=I) n L a→aB w0 (dT::zs) (gy r) w→Q .normal a w) :
  (Code.rangeFunc g ps.toArray asg body).wp P Q a w:=by
 refine wpIn_wide (n:=0).1 (wpIn_rangeFunc ?_)
 intro fn _
 obtain ⟨rec,lG⟩:∃ rec:LoopState→Option Code→Loop,rec=fun st pe=>{ state:=st,pending:=pe,fn,tmps:=a.tmps,params:=ps.toArray,assign:=asg,body,defers:=w.heap.size }:=⟨_,rfl⟩
 have tc:∀ b,w.heap.size≤b→∀ z∈zs,z b=none:=fun b aw z bj=>by
  cases gn:z b with
  | none=>rfl
  | some o=>exact absurd (lb ((U.zone z bj).1 b o gn)) ag
 have nH:aB w0 (ey w.heap.size (.deferred (some []))::zs) (gy il) (w.alloc (.deferred (some []))):=
  U.frozen _ (by simp) (fun b aw=>heap_alloc_old w _ aw) (heap_alloc_new w _) ⟨rfl,rfl,rfl⟩
 have kG:aB w0 (ey (w.heap.size+1) (.loop (rec .ready none))::ey w.heap.size (.deferred (some []))::zs) (gy il) ((w.alloc (.deferred (some []))).alloc (.loop (rec .ready none))):=by
  have:=nH.frozen (w':=(w.alloc (.deferred (some []))).alloc (.loop (rec .ready none))) (.loop (rec .ready none)) (by simp) (fun b aw=>heap_alloc_old _ _ aw) (heap_alloc_new _ _) ⟨rfl,rfl,rfl⟩
  rwa [World.size_alloc] at this
 obtain ⟨dT,s9⟩:∃ z,z=ey w.heap.size (.deferred (some [])):=⟨_,rfl⟩
 have rO:∀ z∈dT::zs,z (w.heap.size+1)=none:=by
  intro z bj
  rcases List.mem_cons.1 bj with rfl | bj
  ·rw [s9];unfold ey;rw [if_neg ag]
  ·exact tc _ ag z bj
 rw [← s9] at kG
 generalize GZ:(w.alloc (.deferred (some []))).alloc (.loop (rec .ready none))=rf at kG
 obtain ⟨fnr,Hf,Hg,Hh⟩:=bw
 refine ⟨w.heap.size+1,[{ target:=.collected w.heap.size,args:=#[] }],rf, { target:=.fn (.func gf) cs.toArray,args:=#[.func (.yield (w.heap.size+1)) #[] #[]] },rf,gf,
  (.func (.yield (w.heap.size+1)) #[] #[]::cs).toArray,rf,?_,?_,fun _ _=>trivial,?_,fun h=>(by cases h),?_⟩
 ·rw [← GZ,lG];exact run_enterLoop_outer _ _ _ _ _
 ·have he:=ab.eval aP
  simp only [resolve,rangeCall,he]
  simp [Deferred.ofValue,Act.eval]
 ·simp only [invoke,Sem.run_bind,Sem.run_pure,Result.andThen_ok,callFunc,run_program,Hf,Hg,Hh]
  simp
 ·refine (BS (ro:=none) (jY (.func (.yield (w.heap.size+1)) #[] #[]) (ey (w.heap.size+1) (.loop (rec .ready none))::dT::zs) (fun z bj=>List.mem_cons_of_mem _ (List.mem_cons_of_mem _ bj)) ?_ rf kG)).mono ?_
  ·
   intro k r aE aH W eZ
   have hl:W.heap[w.heap.size+1]?=some (.loop (rec .ready none)):=(eZ.zone _ List.mem_cons_self).1 _ _ (by unfold ey;rw [if_pos rfl])
   have cZ:=run_yield (P:=P) (args:=(it k).toArray) hl (by rw [lG];simp [ia k])
   rw [lG] at cZ
   refine ⟨_,fn,_,_,body,rfl,cZ,fun m=>roundIn_of_wpIn (l:=w.heap.size+1) trivial ?_⟩
   have GC:Fr n (k0 ps (it k) L) { tmps:=(ps.toArray.zip (it k).toArray).foldl (fun tmps (x:Tmp×Value)=>tmps.setIfInBounds x.1 x.2) a.tmps,defers:=[] }:=by
    have h1:=Gg ps (it k) L { tmps:=a.tmps,defers:=[] } bO (ia k).symm ⟨ab.size,rfl,ab.get⟩
    have e:(ps.toArray.zip (it k).toArray).foldl (fun tmps (x:Tmp×Value)=>tmps.setIfInBounds x.1 x.2) a.tmps=(ps.zip (it k)).foldl (fun tmps (x:Tmp×Value)=>tmps.setIfInBounds x.1 x.2) a.tmps:=by
     simp
    rw [e]
    exact h1
   refine wpIn_mono (G2 (some (w.heap.size+1)) _ _ _ k r _ _ aE aH GC eZ) fun e fT vT zJ=>?_
   obtain ⟨rfl,x,mZ,nH⟩:=zJ
   have sY:vT.heap[w.heap.size+1]?=some (.loop (rec .ready none)):=(nH.zone _ List.mem_cons_self).1 _ _ (by unfold ey;rw [if_pos rfl])
   refine ⟨_,run_beginRound sY (by rw [lG]),?_⟩
   have kG:=nH.swap rO (.loop { rec .ready none with state:=.busy })
   refine wpIn_mono (G6 _ m _ dT k r x fT _ aE aH mZ kG) fun e a3 yd ch=>?_
   obtain ⟨rfl,fe,wX,sL⟩:=ch
   have u2:yd.heap[w.heap.size+1]?=some (.loop { rec .ready none with state:=.busy }):=(sL.zone _ List.mem_cons_self).1 _ _ (by unfold ey;rw [if_pos rfl])
   have zk:=run_endRound (P:=P) none u2
   refine ⟨_,_,zk,rfl,fe,wX,?_⟩
   have:=sL.swap rO (.loop (rec .ready none))
   rw [lG] at this ⊢
   exact this
  ·rintro e BC ⟨⟨v,rfl⟩,r,aH,sK⟩
   have hl:BC.heap[w.heap.size+1]?=some (.loop (rec .ready none)):=(sK.zone _ List.mem_cons_self).1 _ _ (by unfold ey;rw [if_pos rfl])
   refine ⟨none,_,(by have:=run_endLoop (P:=P) hl (by rw [lG];simp);rw [lG] at this;exact this),?_⟩
   have gx:a.defers=[]:=ab.nodef
   refine dU ⟨[{ target:=.collected w.heap.size,args:=#[] }]⟩ w.heap.size dT _ _ r (fun z bj=>tc _ (Nat.le_refl _) z bj) rfl s9 aH (@Fr.mk ⟨[{ target:=.collected w.heap.size,args:=#[] }]⟩ n L _ ab.size (by rw [gx];rfl) ab.get) (((sK.swap rO _)).ao (List.sublist_cons_self _ _) (List.Sublist.refl _))
theorem Kg[a1]{hs:List aC}{ops:Array Oper}{Q:Exit→Act→World→Prop}{d:Tmp}{ty:TypeId}{pos:String}{af:Array Edge}{gd:Option (Nat×Bool)}{x:Operand}{ys:List Operand}{ats:Array TypeId}{rest:List Oper}{Y:Value}{vs:List Value}{J:World→Prop}{a:Act}{w:World}
  (aT:Nat.blt d n=true) (hw:Region.wanted ⟨some d,.call ⟨.value x,ys.toArray,ats⟩,ty,pos,af,gd⟩ (yielded ops a.tmps)=true) (ab:Fr n L a) (U:aB w0 zs hs w) (h1:aW L x=some Y) (ar:ys.map (aW L)=vs.map some) (jn:yD P Y vs (aB w0 zs hs) J)
  (K:∀ a w,Fr n ((d,.bool true)::L) a→J w→wpListIn (gZ none) 0 P ops Q rest a w):wpListIn (gZ none) 0 P ops Q (⟨some d,.call ⟨.value x,ys.toArray,ats⟩,ty,pos,af,gd⟩::rest) a w:=by
 obtain ⟨l,f,tmps,assign,body,rfl,cZ,aY⟩:=jn w U
 unfold wpListIn
 simp only [hw,if_true]
 refine ⟨fun _ _=>trivial,?_⟩
 rw [show (gZ none).round=none from rfl,Oper.semAt_none]
 have uV:∀ (ys:List Operand) (vs:List Value),ys.map (aW L)=vs.map some→ys.map a.eval=vs:=by
  intro ys
  induction ys with
  | nil=>intro vs h;cases vs with
   | nil=>rfl
   | cons=>simp at h
  | cons y ys ih=>intro vs h;cases vs with
   | nil=>simp at h
   | cons v vs=>
    simp only [List.map_cons,List.cons.injEq] at h
    rw [List.map_cons,ab.eval h.1,ih vs h.2]
 have he:(execOp a.eval ⟨some d,.call ⟨.value x,ys.toArray,ats⟩,ty,pos,af,gd⟩).run P w=.ok (.round l f tmps assign body) w:=by
  simp only [execOp]
  simp only [resolve,ab.eval h1,Deferred.ofValue,invoke,Sem.run_bind,Sem.run_pure,Result.andThen_ok]
  rw [List.map_toArray,uV ys vs ar]
  simp [cZ]
 rw [he]
 refine ⟨fun jf=>(by cases jf),(aY _).mono fun e w' ⟨he,aV⟩=>?_⟩
 subst he
 exact K _ _ (ab.put (Nat.blt_eq.mp aT)) aV
theorem mU.Yy{f:FuncId}{args:List Value}{bU:List aR}{cm il:aC}{cF:List aC}{J:aC→Prop}(h:mU P f args w0 bU [cm,il] cF (fun _ dB c5=>dB=[]∧∃ r,c5=[cm,r]∧J r))(w:World)(U:aB w0 bU (cm::il::cF) w) :
  Calls P f args.toArray w fun e w'=>(∃ v,e=.returned v)∧∃ r,J r∧aB w0 bU (cm::r::cF) w':=
 Calls.mono (h w U) fun e w' ⟨v,dB,c5,he,jX,h1,r,ar,aQ⟩=>by
  subst h1 ar
  exact ⟨⟨v,he⟩,r,aQ,jX⟩
end
end Go.aK
end
section
namespace Go.aK
section
variable {P:Program}{n:Nat}{w0:World}{zs:List aR}{hs:List aC}{L:List (Nat×Value)}{d:Option Tmp}{ty t b7:TypeId}{pos:String}{af:Array Edge}{g:Option (Nat×Bool)}{x y EG c:Operand}{v:Value}
theorem afp[a1]{xs:List UInt8}{e:TypeId}{b off m c:Nat}{bt:TypeId}{s bu s' ha mc lY:Nat}{zv mo mq:Value}(aN:ba P t (.slice e) s bu zv)(gL:ba P b7 .string s' ha mo)(cr:ba P e (.int .u8) mc lY mq)(k:Nat)(h1:aW L x=some (.slice (some ⟨b,off,none⟩) m c))(aE:hs[k]?=some (.blk b bt (xs.map bn)))(hm:off+m≤xs.length) :
  bR P n w0 zs hs L ⟨d,.convert t b7 x,ty,pos,af,g⟩ (vs (List.drop off (List.take (off+m) xs))):=by
 have e:List.drop off (List.take (off+m) xs)=(xs.drop off).take m:=by rw [List.drop_take];congr 1;omega
 have hl:((xs.drop off).take m).length=m:=by rw [List.length_take,List.length_drop];omega
 rw [e]
 have qq:aW L x=some (.slice (some ⟨b,off,none⟩) ((xs.drop off).take m).length c):=by rw [hl];exact h1
 exact QG (xs:=(xs.drop off).take m) aN gL cr k qq aE (by rw [hl,List.map_take,List.map_drop])
theorem agc[a1]{p q r:Int}{b7:TypeId}(h1:aW L x=some (aA p))(ar:aW L y=some (aA q))(aw : -9223372036854775808≤p-q∧p-q≤9223372036854775807)(aY:p-q=r):bR P n w0 zs hs L ⟨d,.binOp .sub t x y b7,ty,pos,af,g⟩ (aA r):=aY ▸ nN h1 ar aw
end
end Go.aK
end
