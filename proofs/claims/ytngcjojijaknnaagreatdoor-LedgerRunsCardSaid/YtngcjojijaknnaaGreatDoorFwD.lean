/- walks and plain laws -/
import Derived.Test.YtngcjojijaknnaaGreatDoorFwB
import Derived.Test.YtngcjojijaknnaaGreatDoorFwC
import Derived.RangeFuncLeaves
import Derived.RangeFuncRecord
import Derived.OrdersIn
import Derived.TacticsIn
import Derived.Lib.UnsafeStr
import Derived.Lib.Builder
import Derived.Laws.Externs
import Derived.LaidEql
import Derived.Lib.Bytealg
import Derived.Laws.CopyRow
import Derived.Shelf.SlIterI.Sorted
import Derived.Shelf.SlMaps.Clone
set_option linter.all false
section
namespace Go.aJ
@[reducible] def gA (ro:Option Nat):Fence:={ Fence.wide with round:=ro }
def og(o:Oper):Bool:=match o.op with | .defer _=>false | _=>true
theorem ab7{o:Oper}(h:og o=true):∀ c,o.op≠.defer c:=by
 intro c bu
 unfold og at h
 rw [bu] at h
 cases h
section
variable {P:Program}{ops:Array Oper}{ro:Option Nat}{m:Nat}
theorem aeX{row:String}{args:Array Value}{w:World}{R:Value→World→Prop}(h:Rows P row args w R):RowsIn (gA ro) m P row args w R:=
 fun c cs _=>let ⟨v,w',r,s⟩:=h c cs;⟨v,w',r,(stepsIn_wide (P:=P)).2 s⟩
theorem Au{f:FuncId}{args:Array Value}{w:World}{R:Ending→World→Prop}(h:Calls P f args w R):CallsIn (gA ro) m P f args w R:=
 (callsIn_wide (n:=m)).2 h
theorem Ob{o:Oper}{a:Act}{w:World}{next next':Act→World→Prop}{Q1 Q:Exit→Act→World→Prop}(aT:og o=true)(lT:∀ e a w,Q1 e a w→e=.normal)(bA:∀ a w,next a w→next' a w)(h:o.wp P a w next Q1) :
  o.wpIn (gA ro) m P a w next' Q:=by
 refine ⟨fun _ _=>trivial,?_⟩
 rw [show (gA ro).round=ro from rfl,Oper.semAt_eq ro _ o (ab7 aT)]
 unfold Oper.wp at h
 generalize (execOp a.eval o).run P w=r at h
 cases r with
 | ok nx w'=>
  cases nx <;> simp only [Oper.upon] at h <;> simp only [Oper.uponIn]
  case value v=>exact bA _ _ h
  case skip=>exact bA _ _ h
  case defer d=>exact bA _ _ h
  case enter f args=>
   refine ⟨fun iA=>(by cases iA),(Au h).mono fun e wN he=>?_⟩
   cases e with
   | returned v=>exact bA _ _ he
   | panicked c=>cases lT _ _ _ he
   | outgrown=>obtain ⟨_,_,cn⟩:=he;cases lT _ _ _ cn
  case row row args=>exact ⟨fun iA=>(by cases iA),(aeX h).mono fun v wN he=>bA _ _ he⟩
 | halt x w'=>
  cases x <;> simp only [Oper.upon] at h <;> simp only [Oper.uponIn]
  case panic v=>cases lT _ _ _ h
theorem C8{Q1 Q:Exit→Act→World→Prop}(aT:ops.all og=true)(lT:∀ e a w,Q1 e a w→e=.normal∧Q .normal a w):∀ (l:List Nat) (a:Act) (w:World),wpOps P ops Q1 l a w→wpOpsIn (gA ro) m P ops Q l a w
 | [],a,w,h=>(lT _ _ _ h).2
 | i::l,a,w,h=>by
  unfold wpOps at h
  unfold wpOpsIn
  cases cB:ops[i]? with
  | none=>simp only [cB] at h ⊢;exact C8 aT lT l a w h
  | some o=>
   simp only [cB] at h ⊢
   have vt:og o=true:=by
    obtain ⟨aG,rfl⟩:=Array.getElem?_eq_some_iff.1 cB
    exact (Array.all_eq_true.1 aT) i aG
   by_cases hw:Region.wanted o (yielded ops a.tmps)=true
   ·simp only [hw,if_true] at h ⊢
    rcases h with h | ⟨_,gK,w',h⟩
    ·exact Ob vt (fun e a w h=>(lT e a w h).1) (fun a w h=>C8 aT lT l a w h) h
    ·exact absurd (lT _ _ _ h).1 (by simp)
   ·simp only [hw,Bool.false_eq_true,if_false] at h ⊢
    exact ⟨fun _ _=>trivial,C8 aT lT l _ w h⟩
theorem zP{Q1 Q:Exit→Act→World→Prop}{l2:List Oper}(lT:∀ e a w,Q1 e a w→e=.normal∧wpListIn (gA ro) m P ops Q l2 a w):∀ (l:List Oper) (a:Act) (w:World),l.all og=true→wpList P ops Q1 l a w→wpListIn (gA ro) m P ops Q (l++l2) a w
 | [],a,w,_,h=>(lT _ _ _ h).2
 | o::l,a,w,aT,h=>by
  simp only [List.all_cons,Bool.and_eq_true] at aT
  unfold wpList at h
  rw [List.cons_append]
  unfold wpListIn
  by_cases hw:Region.wanted o (yielded ops a.tmps)=true
  ·simp only [hw,if_true] at h ⊢
   rcases h with h | ⟨_,gK,w',h⟩
   ·exact Ob aT.1 (fun e a w h=>(lT e a w h).1) (fun a w h=>zP lT l a w aT.2 h) h
   ·exact absurd (lT _ _ _ h).1 (by simp)
  ·simp only [hw,Bool.false_eq_true,if_false] at h ⊢
   exact ⟨fun _ _=>trivial,zP lT l _ w aT.2 h⟩
theorem aeB{id:Nat}{Q:Exit→Act→World→Prop}{a:Act}{w:World}(hm:P.follows .mixedOrders=true)(aT:ops.all og=true)
  (h:wpAny P .any ops (j2 (Q .normal)) ops.size (Array.replicate ops.size false) a { w with drawn:=w.drawn+1 }):(Code.region id ops true).wpIn (gA ro) m P Q a w:=
 wpIn_region_draw fun t=>by
  simp only [Region.schedule,hm,Bool.true_or,if_true]
  exact C8 (Q1:=j2 (Q .normal)) aT (fun e a w h=>h) _ _ _ (wpAny_sound ops.size t _ a _ h)
end
section
variable {P:Program}{n:Nat}{w0:World}{zs:List aP}{hs:List av}{L L':List (Nat×Value)}{l:List Oper}{k:Nat}{ro:Option Nat}{m:Nat}
theorem aez[aW]{id:Nat}{Q:Exit→Act→World→Prop}{a:Act}{w:World}(aT:l.all og=true)(ab:Fr n L a)(U:aC w0 zs hs w)
  (s:fk P n w0 zs hs l.toArray k L l L' []) (K:∀ a w,Fr n L' a→aC w0 zs hs w→Q .normal a w):(Code.region id l.toArray false).wpIn (gA ro) m P Q a w:=by
 refine wpIn_region_lit ?_
 have:=zP (ro:=ro) (m:=m) (Q:=Q) (l2:=[]) (Q1:=j2 (Q .normal)) (fun e a w h=>h) l a w aT (k8 ab U s fun a w ab U=>wpList_nil ⟨rfl,K a w ab U⟩)
 simpa using this
theorem wj{id:Nat}{Q:Exit→Act→World→Prop}{a:Act}{w:World}(aT:l.all og=true)(h:wpList P l.toArray (j2 (Q .normal)) l a w):(Code.region id l.toArray false).wpIn (gA ro) m P Q a w:=by
 refine wpIn_region_lit ?_
 have:=zP (ro:=ro) (m:=m) (Q:=Q) (l2:=[]) (Q1:=j2 (Q .normal)) (fun e a w h=>h) l a w aT h
 simpa using this
theorem pT{ops:Array Oper}{J:Act→World→Prop}{a:Act}{w:World}(h:J a w):wpList P ops (j2 J) [] a w:=⟨rfl,h⟩
theorem ahm[aW]{F:Fence}{c:Operand}{dx cy:Code}{Q:Exit→Act→World→Prop}{a:Act}{w:World}{b:Bool}(ab:Fr n L a)(h:aU L c=some (.bool b))(aM:b=true→dx.wpIn F m P Q a w)(bw:b=false→cy.wpIn F m P Q a w):(Code.cond c dx cy).wpIn F m P Q a w:=
 wpIn_cond_split (ab.eval h) aM bw
end
end Go.aJ
end
section
namespace Go.aJ
theorem ac9(w:World)(b:Nat)(o:Obj):ma w (w.putObj b o):=⟨rfl,rfl,rfl⟩
theorem aC.swap{w0 w:World}{zs:List aP}{hs:List av}{b:Nat}{o:Obj}(h:aC w0 (dU b o::zs) hs w)(bj:∀ z∈zs,z b=none)(o':Obj):aC w0 (dU b o'::zs) hs (w.putObj b o'):=by
 have vJ:=h.zone _ List.mem_cons_self
 have au:w.heap[b]?=some o:=vJ.1 b o (by unfold dU;rw [if_pos rfl])
 have mu:w0.heap.size≤b:=vJ.2 b o (by unfold dU;rw [if_pos rfl])
 have gL:b<w.heap.size:=(Array.getElem?_eq_some_iff.1 au).1
 have eY:∀ r∈hs,r.id≠some b:=fun r aY e=>by
  have:=(h.own r aY).2 b e _ List.mem_cons_self
  unfold dU at this
  rw [if_pos rfl] at this
  cases this
 refine ⟨fun k ob aD=>?_,fun z ja=>?_,fun r aY=>⟨av.uh (h.own r aY).1 fun k aD=>World.putObj_heap_other (fun e=>eY r aY (by rw [aD,e])),fun k aD z ja=>?_⟩,h.nd,h.io.trans (ac9 _ _ _)⟩
 ·have h1:=h.ext k ob aD
  have qH:k≠b:=by have:=kJ aD;omega
  simp only [b1] at h1 ⊢
  rw [World.putObj_heap_other qH];exact h1
 ·rcases List.mem_cons.1 ja with rfl | qL
  ·refine ⟨fun k ob aD=>?_,fun k ob aD=>?_⟩
   ·obtain ⟨rfl,rfl⟩:=r8 aD;exact World.putObj_heap_same gL
   ·obtain ⟨rfl,rfl⟩:=r8 aD;exact mu
  ·refine ⟨fun k ob aD=>?_,(h.zone z (List.mem_cons_of_mem _ qL)).2⟩
   have h1:=(h.zone z (List.mem_cons_of_mem _ qL)).1 k ob aD
   have qH:k≠b:=by
    intro e
    rw [e,bj z qL] at aD
    cases aD
   simp only [b1] at h1 ⊢
   rw [World.putObj_heap_other qH];exact h1
 ·rcases List.mem_cons.1 ja with rfl | qL
  ·have:=eY r aY
   unfold dU
   rw [if_neg (fun e=>this (by rw [aD,e]))]
  ·exact (h.own r aY).2 k aD z (List.mem_cons_of_mem _ qL)
def aiw(P:Program)(Y v:Value)(I J:World→Prop):Prop:=
 ∀ w,I w→∃ (l:Nat) (f:FuncId) (tmps:Array Value) (assign body:Code),Y=.func (.yield l) #[] #[]∧(Instr.yield l #[v]).run P w=.ok (.round l f tmps assign body) w ∧
  ∀ m,RoundIn (gA none) m P l f tmps assign body w fun e w'=>e=.returned (.bool true)∧J w'
section
variable {P:Program}{n:Nat}{w0:World}{zs:List aP}{L:List (Nat×Value)}
theorem EK{f:FuncId}{fn:Func}{cd:Code}(bw:P.funcs[f]?=some fn)(au:fn.body=some cd){k:Nat}(aD:fn.ntmps=k){args:List Value}(bA:args.length≤k){w:World}{R:Value→List aP→List av→Prop}
  (h:∀ a,Fr k (oS 0 args) a→aC w [] [] w→cd.wp P (bodyPostM (gA none) 0 P fn fun e w'=>∃ v zs hs,e=.returned v∧aC w zs hs w'∧R v zs hs) a w):ch P f args w R:=by
 subst aD
 exact (callsIn_wide (n:=0)).1 (callsIn_of_wp_marks bw au trivial ((wpIn_wide (n:=0)).2 (h _ (Fr.enter _ _ bA) (aC.start w))))
theorem Lq{fn:Func}{w:World}{hs:List av}{a:Act}{R:Value→List aP→List av→Prop}{rs:List ResultVar}(lx:fn.results=rs.toArray)(ab:Fr n L a)(U:aC w0 zs hs w){vs:List Value}(bx:ri P L hs rs vs){zs' hs'}(h1:zs'.Sublist zs)(aq:hs'.Sublist hs)(fH:R (uw vs) zs' hs') :
  bodyPostM (gA none) 0 P fn (fun e w'=>∃ v zs hs,e=.returned v∧aC w0 zs hs w'∧R v zs hs) .ret a w:=by
 have fO:a.defers=[]:=ab.nodef
 show LeavesInM (gA none) 0 P fn a.tmps _ a.defers .returning w
 rw [fO]
 exact ⟨_,sw lx ab U bx,_,_,_,rfl,U.ak h1 aq,fH⟩
theorem Cx{id:Nat}{Q:Exit→Act→World→Prop}{a:Act}{w:World}{l:List Oper}(hk:Nat)(aT:l.all og=true)
  (h:wpList P l.toArray (j2 (wpListIn (gA none) 0 P l.toArray Q (l.drop hk))) (l.take hk) a w):(Code.region id l.toArray false).wp P Q a w:=by
 refine wpIn_wide (n:=0).1 (wpIn_region_lit ?_)
 have:=zP (ro:=none) (m:=0) (Q:=Q) (l2:=l.drop hk) (fun e a w h=>h) (l.take hk) a w (by rw [List.all_eq_true] at aT ⊢;exact fun x aL=>aT x (List.mem_of_mem_take aL)) h
 rwa [List.take_append_drop] at this
theorem q5[aW]{hs:List av}{ops:Array Oper}{Q:Exit→Act→World→Prop}:∀ {k:Nat}{L L' l l'}{a:Act}{w:World},l.all og=true→Fr n L a→aC w0 zs hs w→fk P n w0 zs hs ops k L l L' l' →
  (∀ a w,Fr n L' a→aC w0 zs hs w→wpListIn (gA none) 0 P ops Q l' a w)→wpListIn (gA none) 0 P ops Q l a w
 | 0,_,_,_,_,a,w,_,ab,U,h,K=>by obtain ⟨rfl,rfl⟩:=h;exact K a w ab U
 | k+1,_,_,_,_,a,w,aT,ab,U,h,K=>by
  obtain ⟨o,r,v,rfl,vt,cn,aY⟩:=h
  simp only [List.all_cons,Bool.and_eq_true] at aT
  unfold wpListIn
  rcases cn a ab with ⟨hw,cn⟩ | ⟨hw,rfl⟩
  ·simp only [hw,if_true]
   refine ⟨fun _ _=>trivial,?_⟩
   rw [show (gA none).round=none from rfl,Oper.semAt_none]
   have:=cn w U
   generalize (execOp a.eval o).run P w=res at this
   cases res with
   | halt x w'=>simp only [Oper.quietUpon] at this
   | ok nx w'=>
    cases nx <;> simp only [Oper.quietUpon] at this <;> simp only [Oper.uponIn]
    case value u=>obtain ⟨rfl,rfl⟩:=this;exact q5 aT.2 (ab.up vt) U aY K
    case skip=>obtain ⟨rfl,rfl⟩:=this;exact q5 aT.2 (ab.up vt) U aY K
    case enter f args=>
     obtain ⟨rfl,bu⟩:=this
     exact ⟨fun iA=>(by cases iA),(Au bu).mono fun e wN ⟨he,yr⟩=>by subst he;exact q5 aT.2 (ab.up vt) yr aY K⟩
  ·simp only [hw,Bool.false_eq_true,if_false]
   exact ⟨fun _ _=>trivial,q5 aT.2 (ab.up vt) U aY K⟩
def l9(P:Program)(f:FuncId)(args:List Value)(w0:World)(bP:List aP)(own cw:List av)(R:Value→List aP→List av→Prop):Prop:=
 ∀ (w:World),aC w0 bP (own++cw) w→Calls P f args.toArray w fun e w'=>∃ v dj cV,e=.returned v∧aC w0 (dj++bP) (cV++cw) w'∧R v dj cV
theorem EL{f:FuncId}{fn:Func}{cd:Code}(bw:P.funcs[f]?=some fn)(au:fn.body=some cd){k:Nat}(aD:fn.ntmps=k){args:List Value}(bA:args.length≤k){w0:World}{bP:List aP}{own cw:List av}{R:Value→List aP→List av→Prop}
  (h:∀ a w,Fr k (oS 0 args) a→aC w0 bP (own++cw) w→cd.wp P (bodyPost P fn fun e w'=>∃ v dj cV,e=.returned v∧aC w0 (dj++bP) (cV++cw) w'∧R v dj cV) a w):l9 P f args w0 bP own cw R:=by
 subst aD
 intro w U
 exact calls_of_wp bw au (h _ w (Fr.enter _ _ bA) U)
theorem EM{fn:Func}{w:World}{hs:List av}{a:Act}{R:Value→List aP→List av→Prop}{bP:List aP}{cw:List av}(lx:fn.results=#[])(ab:Fr n L a)(U:aC w0 zs hs w)(dj:List aP)(cV:List av)(h1:(dj++bP).Sublist zs)(aq:(cV++cw).Sublist hs)(fH:R (.tuple #[]) dj cV) :
  bodyPost P fn (fun e w'=>∃ v dj cV,e=.returned v∧aC w0 (dj++bP) (cV++cw) w'∧R v dj cV) .normal a w:=
 ⟨ab.nodef,_,sw (rs:=[]) (vs:=[]) lx ab U trivial,_,_,_,rfl,U.ak h1 aq,fH⟩
end
end Go.aJ
namespace Go.aJ
section
variable {P:Program}{n:Nat}{w0:World}{zs:List aP}{L:List (Nat×Value)}{m:Nat}
theorem l9.full{f:FuncId}{args:List Value}{bP:List aP}{b8 cL hO:av}{cw:List av}{J:av→Prop}(h:l9 P f args w0 bP [b8,cL,hO] cw (fun _ dj cV=>dj=[]∧∃ r,cV=[b8,cL,r]∧J r))(w:World)(U:aC w0 bP (b8::cL::hO::cw) w) :
  Calls P f args.toArray w fun e w'=>(∃ v,e=.returned v)∧∃ r,J r∧aC w0 bP (b8::cL::r::cw) w':=
 Calls.mono (h w U) fun e w' ⟨v,dj,cV,he,ju,h1,r,aq,aQ⟩=>by
  subst h1 aq
  exact ⟨⟨v,he⟩,r,aQ,ju⟩
end
end Go.aJ
end
section
namespace Go.aJ
open Go Go.Sem
def oO{α:Type}[DecidableEq α](a:α)(l:List (α×Value)):List (α×Value):=match ga a l 0 with
 | some (i,_)=>l.eraseIdx i
 | none=>l
section
variable {P:Program}{n:Nat}{w0:World}{zs:List aP}{hs:List av}{L:List (Nat×Value)}{d:Option Tmp}{ty t t2:TypeId}{pos:String}{af:Array Edge}{g:Option (Nat×Bool)}{x y ki:Operand}{u v:Value}
variable {α:Type}[DecidableEq α]{kf:α→Value}{V:α→Prop}{kt e:TypeId}
theorem yE{β γ:Type}(f:β→γ):∀ (l:List β) (i:Nat),(l.map f).eraseIdx i=(l.eraseIdx i).map f
 | [],_=>rfl
 | _::_,0=>rfl
 | x::l,i+1=>by
  simp only [List.map_cons,List.eraseIdx_cons_succ,yE f l i]
omit [DecidableEq α] in
theorem NN{l:List (α×Value)}{es:List MapEntry}(h:gR kf l es):es.length=l.length:=by
 have:=congrArg List.length h
 simpa using this
omit [DecidableEq α] in
theorem abV{l:List (α×Value)}{es:List MapEntry}(h:gR kf l es)(i:Nat):gR kf (l.eraseIdx i) (es.eraseIdx i):=by
 unfold gR at h ⊢
 rw [← yE,← yE,h]
theorem adN[aW]{s bp:Nat}{zv:Value}(aM:a1 P t (.map kt e) s bp zv){de:TypeDesc}{se be:Nat}{ze:Value}(cg:a1 P e de se be ze)(dE:pv P kt kf V)(k:Nat){l:List (α×Value)}{es:List MapEntry}{c b:Nat}(h1:aU L x=some (.map (some b))){a:α}(aq:aU L y=some (kf a))(aD:hs[k]?=some (.mp b es c))(fA:gR kf l es)(j7:∀ p∈l,V p.1)(a7:V a){ok:Bool}(hu:(fN l a).getD ze=u)(cB:(fN l a).isSome=ok) :
  bL P n w0 zs hs L ⟨d,.lookup t x y true,ty,pos,af,g⟩ (.tuple [u,.bool ok].toArray):=by
 have:=adM (P:=P) (n:=n) (w0:=w0) (zs:=zs) (d:=d) (ty:=ty) (pos:=pos) (af:=af) (g:=g) aM cg dE k h1 aq aD fA j7 a7
 rwa [hu,cB] at this
theorem Lr{a:α}:∀ {l:List (α×Value)}{i:Nat},ga a l i=none→a ∉ l.map (·.1)
 | [],_,_=>by simp
 | p::l,i,h=>by
  unfold ga at h
  split at h
  ·cases h
  ·rename_i fq
   have:=Lr h
   rw [List.map_cons,List.mem_cons]
   rintro (e | e)
   ·exact fq e
   ·exact this e
theorem EN{a:α}:∀ {l:List (α×Value)}{i j:Nat}{v:Value},ga a l i=some (j,v)→l[j-i]?.map (·.1)=some a
 | [],_,_,_,h=>by cases h
 | p::l,i,j,v,h=>by
  have mu:=AV h
  unfold ga at h
  split at h
  ·rename_i he
   simp only [Option.some.injEq,Prod.mk.injEq] at h
   obtain ⟨rfl,_⟩:=h
   rw [Nat.sub_self,he];rfl
  ·have aq:=AV h
   have:=EN h
   obtain ⟨m,hm⟩:∃ m,j-i=m+1∧j-(i+1)=m:=⟨j-(i+1),by omega,rfl⟩
   rw [hm.1]
   rw [hm.2] at this
   simpa using this
theorem SE{a y:α}{l:List (α×Value)}(bA:(l.map (·.1)).Nodup):(y∈(oO a l).map (·.1)↔y∈l.map (·.1)∧y≠a)∧((oO a l).map (·.1)).Nodup:=by
 unfold oO
 cases bw:ga a l 0 with
 | none=>
  have:=Lr bw
  exact ⟨⟨fun h=>⟨h,fun e=>this (e ▸ h)⟩,fun h=>h.1⟩,bA⟩
 | some p=>
  obtain ⟨i,v⟩:=p
  have h1:=EN bw
  rw [Nat.sub_zero,← List.getElem?_map] at h1
  simp only []
  rw [← yE]
  generalize l.map (·.1)=ks at *
  obtain ⟨aG,rfl⟩:=List.getElem?_eq_some_iff.1 h1
  refine ⟨?_,List.Pairwise.sublist (List.eraseIdx_sublist _ _) bA⟩
  rw [List.mem_eraseIdx_iff_getElem]
  constructor
  ·rintro ⟨j,a6,j9,rfl⟩
   refine ⟨List.getElem_mem _,fun e=>j9 ?_⟩
   exact (List.getElem_inj bA).1 e
  ·rintro ⟨hm,fq⟩
   obtain ⟨j,a6,rfl⟩:=List.mem_iff_getElem.1 hm
   exact ⟨j,a6,fun e=>fq (by subst e;rfl),rfl⟩
theorem DO{a:α}{v:Value}:∀ {l:List (α×Value)},(l.map (·.1)).Nodup→((h4 a v l).map (·.1)).Nodup
 | [],_=>by simp [h4]
 | p::l,h=>by
  rw [h4]
  rw [List.map_cons,List.nodup_cons] at h
  split
  ·rename_i he
   rw [List.map_cons,List.nodup_cons,he]
   exact h
  ·rename_i fq
   rw [List.map_cons,List.nodup_cons]
   refine ⟨fun hm=>?_,DO h.2⟩
   have:∀ l:List (α×Value),p.1∈(h4 a v l).map (·.1)→p.1=a∨p.1∈l.map (·.1):=fun l=>by
    induction l with
    | nil=>intro h;simp [h4] at h;exact .inl h
    | cons q l ih=>
    intro h
    rw [h4] at h
    split at h
    ·rw [List.map_cons,List.mem_cons] at h
     exact h.imp id fun h=>List.mem_cons_of_mem _ h
    ·rw [List.map_cons,List.mem_cons] at h
     rcases h with h | h
     ·exact .inr (by rw [h];exact List.mem_cons_self)
     ·exact (ih h).imp id fun h=>List.mem_cons_of_mem _ h
   rcases this l hm with e | e
   ·exact fq e.symm
   ·exact h.1 e
end
end Go.aJ
end
section
namespace Go.aJ
section
variable {P:Program}{n:Nat}{w0:World}{zs:List aP}{hs:List av}{v:Value}
end
end Go.aJ
end
section
namespace Go.aJ
section
variable {P:Program}{n:Nat}{w0:World}{zs:List aP}{hs:List av}{L:List (Nat×Value)}{d:Option Tmp}{ty t bZ:TypeId}{pos:String}{af:Array Edge}{g:Option (Nat×Bool)}
variable {x y c:Operand}{u v:Value}
theorem U2(xs:List (List UInt8)):xs.flatten.map bf=(xs.map fun l=>l.map bf).flatten:=by rw [List.map_flatten]
theorem adE[aW]{eN:TypeId}{m size:Nat}{bM:TypeDesc}{bp:Nat}{zv:Value}(aM:a1 P t bM size bp zv)(k:Nat){xs:List (List UInt8)}{j:Nat}(aD:hs[k]?=some (.row v eN size m (xs.flatten.map bf)))(hl:∀ x∈xs,x.length=size)(h1:aU L x=some (c6 v (j*size)))(a6:j<xs.length)(h0:0<size)(aT:eV bM=true) :
  bL P n w0 zs hs L ⟨d,.load t x,ty,pos,af,g⟩ (.agg ((xs.getD j []).map bf).toArray):=by
 have:=OS (P:=P) (n:=n) (w0:=w0) (zs:=zs) (d:=d) (ty:=ty) (pos:=pos) (af:=af) (g:=g) aM k (xs.map fun l=>l.map bf) j (by rw [aD,U2]) (fun c bu=>by
  obtain ⟨l,x9,rfl⟩:=List.mem_map.1 bu
  rw [List.length_map,hl l x9]) h1 (by simpa using a6) h0 aT
 have e:(xs.map fun l=>l.map bf).getD j []=(xs.getD j []).map bf:=by
  rw [List.getD_eq_getElem?_getD,List.getD_eq_getElem?_getD,List.getElem?_map]
  cases xs[j]? <;> rfl
 rwa [e] at this
theorem Es{α:Type}{size:Nat}:∀ {xs:List (List α)}(_:∀ x∈xs,x.length=size) {j:Nat}{c:List α}(_:c.length=size) (_:j<xs.length),xs.flatten.take (j*size)++c++xs.flatten.drop (j*size+c.length)=(xs.set j c).flatten
 | [],_,j,c,_,a6=>by simp at a6
 | x::xs,h,0,c,bu,_=>by
  have aL:=h x List.mem_cons_self
  simp only [Nat.zero_mul,List.take_zero,List.nil_append,Nat.zero_add,List.flatten_cons,List.set_cons_zero]
  rw [bu,← aL,List.drop_left']
  rfl
 | x::xs,h,j+1,c,bu,a6=>by
  have aL:=h x List.mem_cons_self
  have ih:=Es (xs:=xs) (fun y cS=>h y (List.mem_cons_of_mem _ cS)) (j:=j) bu (by simpa using a6)
  simp only [List.flatten_cons,List.set_cons_succ]
  rw [← ih,Nat.add_mul,Nat.one_mul,List.take_append,List.drop_append,aL]
  rw [List.take_of_length_le (by omega),List.drop_eq_nil_of_le (by omega)]
  rw [show j*size+size-size=j*size by omega,show j*size+size+c.length-size=j*size+c.length by omega]
  simp [List.append_assoc]
end
def aiY:dO (List (List UInt8)×List Int) where
 size:=2
 rep z x c:=∃ kv mv,c=[kv,mv]∧bg (oR 16) z kv x.1∧bg encI z mv x.2
 mono bj h:=by obtain ⟨kv,mv,h1,aq,aQ⟩:=h;exact ⟨kv,mv,h1,aq.mono bj,aQ.mono bj⟩
 len h:=by obtain ⟨kv,mv,h1,_⟩:=h;rw [h1];rfl
 one h u hu:=by
  obtain ⟨kv,mv,h1,aq,aQ⟩:=h
  rw [h1] at hu
  simp only [List.mem_cons,List.not_mem_nil,or_false] at hu
  rcases hu with rfl | rfl
  ·exact mL aq
  ·exact mL aQ
end Go.aJ
end
section
namespace Go.aJ
section
variable {P:Program}{n:Nat}{w0:World}{zs:List aP}{hs:List av}{L:List (Nat×Value)}{d:Option Tmp}{ty t:TypeId}{pos:String}{af:Array Edge}{g:Option (Nat×Bool)}{x:Operand}
theorem adJ[aW]{z:aP}{bM:TypeDesc}{s bp:Nat}{zv:Value}(aM:a1 P t bM s bp zv){b off:Nat}{cs:Array Value}{lI:TypeId}{fz:Nat×Nat}{u:Value}(h1:aU L x=some (.pointer (some ⟨b,off,none⟩)))(aT:eV bM=false)(bj:gp w0 zs z)(au:z b=some (.cells cs lI fz))(bu:cs[off]?=some u) :
  bL P n w0 zs hs L ⟨d,.load t x,ty,pos,af,g⟩ u:=
 eC fun a a7 w hw=>by
  have Be:=hw.le bj _ _ au
  have m4:w.cell? ⟨b,off,none⟩=some u:=by
   rw [cell_of_row w b off _ lI _ Be]
   exact bu
  have he:a.eval x=.pointer (some ⟨b,off,none⟩):=a7.eval h1
  simp only [execOp,he]
  simp [Instr.loadAt,Instr.sureAddr,uy aM aT m4]
end
end Go.aJ
end
section
namespace Go.aJ
open Go Go.Sem
section
variable {P:Program}{n:Nat}{w0:World}{zs:List aP}{hs:List av}{L:List (Nat×Value)}{d:Option Tmp}{ty t:TypeId}{pos:String}{af:Array Edge}{g:Option (Nat×Bool)}{x y:Operand}{v:Value}
theorem Hl[aW]{z:aP}{xs:List UInt8}{e arr:TypeId}{m s bp:Nat}{zv:Value}(aM:a1 P arr (.array m e) s bp zv)(U:bg gE z v xs)(h1:aU L x=some v)(hm:m≤xs.length)(h0:0<m) :
  bL P n w0 zs hs L ⟨d,.sliceToArrayPointer arr x,ty,pos,af,g⟩ (c6 v 0):=
 eC fun a a7 w hw=>by
  obtain ⟨_,aa,cc,rfl,n2,h⟩:=U
  obtain ⟨b,off,cs,lI,fz,dx,rfl,_⟩:=h 0 (xs[0]'(by omega)) (by simp)
  have gL:¬ xs.length<m:=by omega
  simp only [execOp,a7.eval h1]
  simp [Instr.arrayAt,run_underlying aM.und,gL,c6,fm]
theorem Hd[aW]{z:aP}{xs:List UInt8}{bM:TypeDesc}{m bp:Nat}{zv:Value}(aM:a1 P t bM m bp zv)(U:bg gE z v xs)(bj:gp w0 zs z)(h1:aU L x=some (c6 v 0))(aT:eV bM=true)(hm:xs.length=m)(h0:0<m) :
  bL P n w0 zs hs L ⟨d,.load t x,ty,pos,af,g⟩ (.agg (xs.map bf).toArray):=
 eC fun a a7 w hw=>by
  obtain ⟨_,aa,cc,rfl,n2,h⟩:=U
  obtain ⟨b,off,cs,lI,fz,dx,rfl,fK,_⟩:=h 0 (xs[0]'(by omega)) (by simp)
  have au:=hw.le bj _ _ fK
  have bu:∀ i,i<xs.length→cs[off+i]?=some (bf (xs.getD i 0)):=by
   intro i aG
   obtain ⟨dk,alU,aiP,ang,ajh,aiQ,bK,bV,fx,iy⟩:=h i xs[i] (by simp [aG])
   simp only [Option.some.injEq,Addr.mk.injEq,and_true] at bK
   obtain ⟨rfl,rfl⟩:=bK
   rw [fK] at bV
   simp only [Option.some.injEq,Obj.cells.injEq] at bV
   obtain ⟨rfl,rfl,rfl⟩:=bV
   have:=iy 0 (bf xs[i]) (by rw [fx.1];rfl)
   have pE:xs.getD i 0=xs[i]:=by simp [aG]
   rw [pE]
   simpa [gE,kR] using this
  have qE:off+m≤cs.size:=by
   have:=bu (m-1) (by omega)
   have:=(Array.getElem?_eq_some_iff.1 this).1
   omega
  have aY:=wo aM aT au qE
  have he:(cs.toList.drop off).take m=xs.map bf:=by
   apply List.ext_getElem?
   intro i
   rw [List.getElem?_take,List.getElem?_drop,List.getElem?_map]
   split
   ·rename_i aG
    have:=bu i (by omega)
    have pE:xs.getD i 0=xs[i]:=by simp [show i<xs.length by omega]
    rw [pE] at this
    rw [List.getElem?_eq_getElem (show i<xs.length by omega)]
    simpa using this
   ·rw [List.getElem?_eq_none (by omega)];rfl
  rw [he] at aY
  have tE:a.eval x=.pointer (some ⟨b,off,none⟩):=(a7.eval h1).trans (by simp [c6,fm])
  simp only [execOp,tE]
  simp [Instr.loadAt,Instr.sureAddr,aY]
end
end Go.aJ
end
section
namespace Go.aJ
open Go Go.Sem
section
variable {P:Program}{n:Nat}{w0:World}{zs:List aP}{hs:List av}{L:List (Nat×Value)}{d:Option Tmp}{ty t:TypeId}{pos:String}{af:Array Edge}{g:Option (Nat×Bool)}{x y:Operand}{v:Value}
end
end Go.aJ
end
section
namespace Go.aJ
open Go Go.Sem
section
variable {P:Program}{n:Nat}{w0:World}{zs:List aP}{hs:List av}{L:List (Nat×Value)}{d:Option Tmp}{ty t bZ:TypeId}{pos:String}{af:Array Edge}{g:Option (Nat×Bool)}{x y:Operand}{v:Value}
theorem Kz{op:BinOp}{p q:Option Addr}(w:World):(eqGuard op t x y (.pointer p) (.pointer q)).run P w=.ok () w:=by
 cases op <;> simp [eqGuard]
theorem KA(bM:Nat){e:TypeId}(hu:P.underlying t=some (.pointer e))(p:Option Addr)(w:World):(Op.equalIn (bM+1) t (.pointer p) (.pointer none)).run P w=.ok p.isNone w:=by
 cases p <;> simp [Op.equalIn,run_underlying hu]
theorem ui[aW]{e:TypeId}{s b:Nat}{zv:Value}(aM:a1 P t (.pointer e) s b zv){p:Option Addr}(h1:aU L x=some (.pointer p))(aq:aU L y=some (.pointer none)) :
  bL P n w0 zs hs L ⟨d,.binOp .eql t x y bZ,ty,pos,af,g⟩ (.bool p.isNone):=
 e0 h1 aq Kz fun w=>by
  simp only [binOp]
  simp [Op.equal,Op.maxDepth,KA 9999 aM.und p w]
theorem rr[aW](m:Nat){f:FuncId}(bw:bU P f){os:List Operand}{vs:List Value}{ats:Array TypeId}{R:Value→List aP→List av→Prop}(h1:ic L os=some vs)(bu:eH P f vs w0 zs (hs.take m) R) :
  e7 P n w0 zs hs L ⟨d,.call ⟨.value (.func f),os.toArray,ats⟩,ty,pos,af,g⟩ (fun v zs' hs'=>∃ hR h1,zs'=hR++zs∧hs'=h1++hs.drop m∧R v hR h1):=
 dy bw h1 (rest:=hs.drop m) (by rw [List.take_append_drop]) bu
end
end Go.aJ
end
section
namespace Go.aJ
open Go Go.Sem
def aix(l:List Int):Value:=.agg (l.map az).toArray
section
variable {P:Program}
end
def Dn(P:Program)(w:World)(fv:Value)(q:Int→Prop)(f:Int→List UInt8):Prop:=
 ∃ g fs cs,fv=.func (.func g) fs.toArray cs.toArray∧bU P g∧∀ w',(b1 w).le (b1 w')→∀ x,q x→ch P g (fs++[az x]++cs) w' (fun r _ _=>r=.agg ((f x).map bf).toArray)
theorem Dn.mono{P:Program}{w w':World}{fv:Value}{q:Int→Prop}{f:Int→List UInt8}(h:Dn P w fv q f)(hle:(b1 w).le (b1 w')):Dn P w' fv q f:=by
 obtain ⟨g,fs,cs,h1,aq,aQ⟩:=h
 exact ⟨g,fs,cs,h1,aq,fun lJ bH=>aQ lJ (aP.BN hle bH)⟩
section
variable {P:Program}{n:Nat}{w0:World}{zs:List aP}{hs:List av}{L:List (Nat×Value)}{d:Option Tmp}{ty t:TypeId}{pos:String}{af:Array Edge}{g:Option (Nat×Bool)}{x:Operand}
end
end Go.aJ
end
section
namespace Go.aJ
open Go Go.Sem
section
variable {P:Program}{n:Nat}{w0:World}{zs:List aP}{hs:List av}{ops:Array Oper}{L L':List (Nat×Value)}{k:Nat}
end
end Go.aJ
end
section
namespace Go.aJ
def mg{α:Type}(f:α→List Value)(m:Nat)(p:α→Prop)(hl:∀ x,(f x).length=m)(h1:∀ x,∀ u∈f x,u.oneCell'=true):dO α where
 size:=m
 rep _ x c:=c=f x∧p x
 mono _ h:=h
 len h:=by rw [h.1];exact hl _
 one h u hu:=by rw [h.1] at hu;exact h1 _ u hu
section
variable {α β:Type}{f:α→List β}{m:Nat}
theorem KS(hl:∀ x,(f x).length=m)(xs:List α):(xs.flatMap f).length=xs.length*m:=by
 induction xs with
 | nil=>simp
 | cons a t ih=>rw [List.flatMap_cons,List.length_append,ih,hl,List.length_cons,Nat.add_mul];omega
theorem vb(hl:∀ x,(f x).length=m):∀ {xs:List α}{i:Nat}{x:α},xs[i]?=some x→∀ {j:Nat},j<m→(xs.flatMap f)[i*m+j]?=(f x)[j]?
 | [],i,x,h,j,_=>by simp at h
 | a::t,0,x,h,j,a6=>by
  simp only [List.getElem?_cons_zero,Option.some.injEq] at h
  subst h
  rw [List.flatMap_cons,Nat.zero_mul,Nat.zero_add,List.getElem?_append_left (by rw [hl];exact a6)]
 | a::t,i+1,x,h,j,a6=>by
  rw [List.getElem?_cons_succ] at h
  rw [List.flatMap_cons,List.getElem?_append_right (by rw [hl,Nat.add_mul];omega),hl,show (i+1)*m+j-m=i*m+j by rw [Nat.add_mul];omega]
  exact vb hl h a6
theorem KT(hl:∀ x,(f x).length=m):∀ {xs:List α}{i:Nat}{x x':α},xs[i]?=some x→∀ {j:Nat}{u:β},j<m→f x'=(f x).set j u→(xs.flatMap f).set (i*m+j) u=(xs.set i x').flatMap f
 | [],i,x,x',h,j,u,_,_=>by simp at h
 | a::t,0,x,x',h,j,u,a6,hu=>by
  simp only [List.getElem?_cons_zero,Option.some.injEq] at h
  subst h
  rw [List.flatMap_cons,Nat.zero_mul,Nat.zero_add,List.set_append_left _ _ (by rw [hl];exact a6),List.set_cons_zero,List.flatMap_cons,hu]
 | a::t,i+1,x,x',h,j,u,a6,hu=>by
  rw [List.getElem?_cons_succ] at h
  rw [List.flatMap_cons,List.set_append_right _ _ (by rw [hl,Nat.add_mul];omega),hl,show (i+1)*m+j-m=i*m+j by rw [Nat.add_mul];omega,KT hl h a6 hu,List.set_cons_succ,List.flatMap_cons]
end
section
variable {α:Type}{f:α→List Value}{m:Nat}{p:α→Prop}{hl:∀ x,(f x).length=m}{h1:∀ x,∀ u∈f x,u.oneCell'=true}
variable {z:aP}{v:Value}{xs:List α}
theorem GC(hI:α){k:Nat}(aD:k<xs.length):xs[k]?=some (xs.getD k hI):=by
 rw [List.getD_eq_getElem?_getD,List.getElem?_eq_getElem aD];rfl
theorem IU(hI:α)(U:bg (mg f m p hl h1) z v xs){k:Nat}(aD:k<xs.length):nU z (c6 v (k*m)) m=f (xs.getD k hI)∧p (xs.getD k hI):=U.rep (GC hI aD)
theorem IT(U:bg (mg f m p hl h1) z v xs):∀ x∈xs,p x:=fun x aL=>by
 obtain ⟨k,aD,rfl⟩:=List.getElem_of_mem aL
 exact (U.rep (i:=k) (x:=xs[k]) (by simp [aD])).2
theorem Si(xs:List α)(h1:∀ x,∀ u∈f x,u.oneCell'=true):∀ u∈xs.flatMap f,u.oneCell'=true:=fun u hu=>by
 obtain ⟨x,_,aL⟩:=List.mem_flatMap.1 hu
 exact h1 x u aL
theorem aC.ER{w0:World}{zs:List aP}{hs:List av}{w:World}{e:TypeId}{k:Nat}(h:aC w0 zs (.row v e m k (xs.flatMap f)::hs) w)(hm:k=xs.length)(au:k≤140737488355328)(bN:∀ x∈xs,p x):∃ z,bg (mg f m p hl h1) z v xs∧aC w0 (z::zs) hs w:=by
 refine aC.freeze (E:=mg f m p hl h1) h (.inl rfl) hm au fun i x aL=>⟨f x,⟨rfl,bN x (List.mem_of_getElem? aL)⟩,fun j u hu=>?_⟩
 have a6:j<m:=by rw [← hl x];exact (List.getElem?_eq_some_iff.1 hu).1
 exact (vb hl aL a6).trans hu
theorem kI{base:Nat}{w:World}{e:TypeId}{k:Nat}(h:(av.row v e m k (xs.flatMap f)).ok base w)(hm:k=xs.length)(au:k≤140737488355328)(bN:∀ x∈xs,p x):bg (mg f m p hl h1) (b1 w) v xs:=by
 refine G2 (E:=mg f m p hl h1) h hm au fun i x aL=>⟨f x,⟨rfl,bN x (List.mem_of_getElem? aL)⟩,fun j u hu=>?_⟩
 have a6:j<m:=by rw [← hl x];exact (List.getElem?_eq_some_iff.1 hu).1
 exact (vb hl aL a6).trans hu
end
section
variable {P:Program}{n:Nat}{w0:World}{zs:List aP}{hs:List av}{L:List (Nat×Value)}{d:Option Tmp}{ty t:TypeId}{pos:String}{af:Array Edge}{g:Option (Nat×Bool)}{x y:Operand}{u v:Value}
variable {α:Type}{f:α→List Value}{m:Nat}{p:α→Prop}{hl:∀ x,(f x).length=m}{h1:∀ x,∀ u∈f x,u.oneCell'=true}{z:aP}{xs:List α}
theorem af3{tx e:TypeId}{s bp:Nat}{zv:Value}(aM:a1 P tx (.slice e) s bp zv)(U:bg (mg f m p hl h1) z v xs)(bj:gp w0 zs z)(h0:0<m):sS P w0 zs hs m tx v xs.length (xs.flatMap f):=by
 refine Qx (E:=mg f m p hl h1) aM U bj _ (KS hl xs) (Si xs h1) (fun i x dx aL aY j a6=>?_) h0
 rw [aY.1]
 exact vb hl aL a6
theorem He[aW](hI:α){bM:TypeDesc}{bp:Nat}{zv:Value}(aM:a1 P t bM m bp zv){k:Nat}(U:bg (mg f m p hl h1) z v xs)(bj:gp w0 zs z)(aq:aU L x=some (c6 v (k*m)))(aT:eV bM=true)(h0:0<m)(aD:k<xs.length) :
  bL P n w0 zs hs L ⟨d,.load t x,ty,pos,af,g⟩ (.agg (f (xs.getD k hI)).toArray):=by
 have:=Hg (P:=P) (n:=n) (w0:=w0) (zs:=zs) (hs:=hs) (L:=L) (d:=d) (ty:=ty) (pos:=pos) (af:=af) (g:=g) (x:=x) (E:=mg f m p hl h1) aM (k:=k) (m:=k*m) rfl h0 U bj aq aT aD
 have e:=(IU hI U aD).1
 rw [← e]
 exact this
theorem Cg[aW]{β:Type}{E:dO β}{ys:List β}{fs:Array Field}{s bp:Nat}{zv:Value}(aM:a1 P t (.struct fs) s bp zv){k:Nat}(U:bg E z v ys)(aq:aU L x=some (c6 v (k*E.size)))(aD:k<ys.length){j:Nat}{fd:Field}{s':Nat}(bw:fs[j]?=some fd)(dZ:(P.info? fd.type).map (·.size)=some (s'+1)) :
  bL P n w0 zs hs L ⟨d,.fieldAddr t x j,ty,pos,af,g⟩ (c6 v (k*E.size+fd.offset)):=by
 obtain ⟨b,off,bK,bV⟩:=Kv U aD
 rw [bK] at aq
 rw [bV]
 exact aV aM aq bw dZ
theorem uj[aW](hI:α){bM:TypeDesc}{s bp:Nat}{zv:Value}(aM:a1 P t bM s bp zv){k j:Nat}(U:bg (mg f m p hl h1) z v xs)(bj:gp w0 zs z)(aq:aU L x=some (c6 v (k*m+j)))(aT:eV bM=false)(aD:k<xs.length){u:Value}(hu:(f (xs.getD k hI))[j]?=some u) :
  bL P n w0 zs hs L ⟨d,.load t x,ty,pos,af,g⟩ u:=by
 obtain ⟨b,off,cs,lI,fz,dx,bN,fK,aY,bu⟩:=U.at (GC hI aD)
 obtain ⟨gB,GX,bK,bV⟩:=Kv U aD
 have fx:(Value.pointer (some ⟨gB,GX,none⟩))=.pointer (some ⟨b,off,none⟩):=bK.symm.trans bN
 injection fx with fx;injection fx with fx;injection fx with iy pE
 subst iy;subst pE
 have Kp:c6 v (k*m+j)=.pointer (some ⟨gB,GX+j,none⟩):=bV j
 rw [Kp] at aq
 refine adJ aM aq aT bj fK (bu j u ?_)
 rw [aY.1];exact hu
theorem AF[aW](hl:∀ x,(f x).length=m){bM:TypeDesc}{bp:Nat}{zv:Value}(aM:a1 P t bM 1 bp zv)(q:Nat){e:TypeId}{c k j:Nat}{a x':α}(aq:aU L x=some (c6 v (k*m+j)))(aQ:aU L y=some u)(aD:hs[q]?=some (.row v e m c (xs.flatMap f)))(a7:xs[k]?=some a)(a6:j<m)(cB:u.oneCell'=true)(aL:f x'=(f a).set j u) :
  e7 P n w0 zs hs L ⟨d,.store t x y,ty,pos,af,g⟩ (fun dd zs' hs'=>dd=undef∧zs'=zs∧hs'=hs.set q (.row v e m c ((xs.set k x').flatMap f))):=
 jD fun a9 L4 w hw=>by
  have bu:u.cells=[u].toArray:=by cases u <;> first | rfl | (simp [Value.oneCell'] at cB)
  have eY:=(hw.own _ (List.mem_of_getElem? aD)).1
  have tL:(xs.flatMap f).length=c*m:=eY.1
  have YY:=KS hl xs
  have akz:k<xs.length:=(List.getElem?_eq_some_iff.1 a7).1
  have Mj:k*m+j<c*m:=by
   rw [← tL,YY]
   have:=Nat.mul_le_mul_right m (show k+1≤xs.length by omega)
   rw [Nat.add_mul,Nat.one_mul] at this
   omega
  obtain ⟨b,cap,cur,rfl,_,au,tK,U⟩:=hw.zn (c:=[u]) aD (j:=k*m+j) (show k*m+j+[u].length≤c*m by rw [List.length_singleton];omega) (by
   rcases Nat.eq_zero_or_pos c with h | h
   ·rw [h,Nat.zero_mul] at Mj;omega
   ·exact h)
  have he:(xs.flatMap f).take (k*m+j)++[u]++(xs.flatMap f).drop (k*m+j+[u].length)=(xs.set k x').flatMap f:=by
   rw [← KT hl a7 a6 aL]
   simp only [List.set_eq_take_append_cons_drop,if_pos (show k*m+j<(xs.flatMap f).length by omega),List.append_assoc,List.cons_append,List.nil_append,List.length_singleton]
  rw [he] at U
  have aY:=zj (v:=u) aM (b:=b) (off:=k*m+j) (bt:=e) (cs:=cur.toList) (w:=w) (by simpa using au) (by rw [bu];rfl) (by rw [bu];simpa using cB) (by simpa using tK)
  rw [bu] at aY
  refine ⟨undef,zs,_,_,.inr ⟨?_,rfl⟩,⟨rfl,rfl,rfl⟩,U⟩
  have yu:a9.eval x=.pointer (some ⟨b,k*m+j,none⟩):=(L4.eval aq).trans (by simp [c6,fm])
  simp only [execOp,yu,L4.eval aQ]
  simp [Instr.storeAt,Instr.sureAddr,aY]
theorem mG[aW]{fs:Array Field}{s bp:Nat}{zv:Value}(aM:a1 P t (.struct fs) s bp zv)(q:Nat){e:TypeId}{c k size:Nat}{cs:List Value}(cn:hs[q]?=some (.row v e size c cs))(aq:aU L x=some (c6 v (k*size)))(aD:k<c){j:Nat}{fd:Field}{s':Nat}(bw:fs[j]?=some fd)(dZ:(P.info? fd.type).map (·.size)=some (s'+1)) :
  bL P n w0 zs hs L ⟨d,.fieldAddr t x j,ty,pos,af,g⟩ (c6 v (k*size+fd.offset)):=
 eC fun a a7 w hw=>by
  have eY:=(hw.own _ (List.mem_of_getElem? cn)).1
  rcases eY.2 with ⟨rfl,bA⟩ | ⟨b,cap,cur,rfl,_⟩
  ·omega
  ·have bK:c6 (.slice (some ⟨b,0,none⟩) c cap) (k*size)=.pointer (some ⟨b,k*size,none⟩):=by simp [c6,fm]
   have bV:c6 (.slice (some ⟨b,0,none⟩) c cap) (k*size+fd.offset)=.pointer (some ⟨b,k*size+fd.offset,none⟩):=by simp [c6,fm]
   rw [bK] at aq
   rw [bV]
   have dZ:(sizeOf fd.type).run P w=.ok (s'+1) w:=by
    cases aG:P.info? fd.type with
    | none=>simp [aG] at dZ
    | some i=>simp [aG] at dZ;simp [sizeOf,typeInfo,aG,dZ]
   simp only [execOp,a7.eval aq]
   simp [Instr.fieldAt,Instr.sureAddr,run_underlying aM.und,bw,fieldPlace,dZ,fm]
theorem pc[aW](hl:∀ x,(f x).length=m)(hI:α){bM:TypeDesc}{s bp:Nat}{zv:Value}(aM:a1 P t bM s bp zv)(q:Nat){e:TypeId}{c k j:Nat}(cn:hs[q]?=some (.row v e m c (xs.flatMap f)))(aq:aU L x=some (c6 v (k*m+j)))(aT:eV bM=false)(aD:k<xs.length)(a6:j<m){u:Value}(hu:(f (xs.getD k hI))[j]?=some u) :
  bL P n w0 zs hs L ⟨d,.load t x,ty,pos,af,g⟩ u:=
 yX aM q cn aq (by rw [vb hl (GC hI aD) a6];exact hu) aT
end
def pS(x:List UInt8×List UInt8):List Value:=[vs x.1,vs x.2]
def GH(x:List UInt8×List UInt8):Prop:=x.1.length≤140737488355328∧x.2.length≤140737488355328
theorem Nh(x:List UInt8×List UInt8):(pS x).length=2:=rfl
theorem Ni(x:List UInt8×List UInt8):∀ u∈pS x,u.oneCell'=true:=fun u hu=>by
 simp only [pS,List.mem_cons,List.not_mem_nil,or_false] at hu
 rcases hu with rfl | rfl <;> rfl
def iU:dO (List UInt8×List UInt8):=mg pS 2 GH Nh Ni
def c3:List UInt8×List UInt8:=([],[])
section
variable {P:Program}{n:Nat}{w0:World}{zs:List aP}{hs:List av}{L:List (Nat×Value)}{d:Option Tmp}{ty t:TypeId}{pos:String}{af:Array Edge}{g:Option (Nat×Bool)}{x y:Operand}{u v:Value}{z:aP}{xs:List (List UInt8×List UInt8)}
theorem OP[aW]{bM:TypeDesc}{bp:Nat}{zv:Value}(aM:a1 P t bM 2 bp zv){k:Nat}(U:bg iU z v xs)(bj:gp w0 zs z)(aq:aU L x=some (c6 v (k*2)))(aT:eV bM=true)(aD:k<xs.length) :
  bL P n w0 zs hs L ⟨d,.load t x,ty,pos,af,g⟩ (.agg [vs (xs.getD k c3).1,vs (xs.getD k c3).2].toArray):=He c3 aM U bj aq aT (by decide) aD
theorem vY[aW]{bM:TypeDesc}{s bp:Nat}{zv:Value}(aM:a1 P t bM s bp zv){k:Nat}(U:bg iU z v xs)(bj:gp w0 zs z)(aq:aU L x=some (c6 v (k*2+0)))(aT:eV bM=false)(aD:k<xs.length) :
  bL P n w0 zs hs L ⟨d,.load t x,ty,pos,af,g⟩ (vs (xs.getD k c3).1):=uj c3 aM U bj aq aT aD rfl
theorem OQ[aW]{bM:TypeDesc}{s bp:Nat}{zv:Value}(aM:a1 P t bM s bp zv){k:Nat}(U:bg iU z v xs)(bj:gp w0 zs z)(aq:aU L x=some (c6 v (k*2+1)))(aT:eV bM=false)(aD:k<xs.length) :
  bL P n w0 zs hs L ⟨d,.load t x,ty,pos,af,g⟩ (vs (xs.getD k c3).2):=uj c3 aM U bj aq aT aD rfl
theorem sg[aW]{fs:Array Field}{s bp:Nat}{zv:Value}(aM:a1 P t (.struct fs) s bp zv){k:Nat}(U:bg iU z v xs)(aq:aU L x=some (c6 v (k*2)))(aD:k<xs.length){j:Nat}{fd:Field}{s':Nat}(bw:fs[j]?=some fd)(dZ:(P.info? fd.type).map (·.size)=some (s'+1)) :
  bL P n w0 zs hs L ⟨d,.fieldAddr t x j,ty,pos,af,g⟩ (c6 v (k*2+fd.offset)):=Cg (E:=iU) aM U aq aD bw dZ
end
theorem aC.Ww{w0:World}{zs:List aP}{hs:List av}{w:World}{e:TypeId}{v:Value}{k:Nat}{xs:List (List UInt8×List UInt8)}(h:aC w0 zs (.row v e 2 k (xs.flatMap pS)::hs) w)(hm:k=xs.length)(au:k≤140737488355328)(bN:∀ x∈xs,GH x):∃ z,bg iU z v xs∧aC w0 (z::zs) hs w:=aC.ER h hm au bN
end Go.aJ
end
section
namespace Go.aJ
section
variable {P:Program}{n:Nat}{w0:World}{zs:List aP}{hs:List av}{L:List (Nat×Value)}{d:Option Tmp}{ty t bZ:TypeId}{pos:String}{af:Array Edge}{g:Option (Nat×Bool)}{x y:Operand}{u v:Value}
theorem ads[aW]{p q:List UInt8}(h1:aU L x=some (vs p))(aq:aU L y=some (vs q)):bL P n w0 zs hs L ⟨d,.binOp .geq t x y bZ,ty,pos,af,g⟩ (.bool (!Op.bytesLess p q)):=
 e0 h1 aq u9 fun w=>by simp [binOp,Op.stringOp]
theorem adK[aW]{p q:List UInt8}(h1:aU L x=some (vs p))(aq:aU L y=some (vs q)):bL P n w0 zs hs L ⟨d,.binOp .leq t x y bZ,ty,pos,af,g⟩ (.bool (Op.bytesLess p q || decide (p=q))):=
 e0 h1 aq u9 fun w=>by
  have:(p == q)=decide (p=q):=by rw [Bool.eq_iff_iff];simp
  simp [binOp,Op.stringOp,this]
def wr(n:Int):Int:=IntKind.i64.wrap n
end
end Go.aJ
end
section
namespace Go.aJ
section
variable {P:Program}{n:Nat}{w0:World}{zs:List aP}{hs:List av}{L:List (Nat×Value)}{d:Option Tmp}{ty t bZ:TypeId}{pos:String}{af:Array Edge}{g:Option (Nat×Bool)}{x y:Operand}{u v:Value}
theorem UG[aW]{bM:TypeDesc}{bp size:Nat}{zv:Value}(aM:a1 P t bM 1 bp zv)(k:Nat){e:TypeId}{m j:Nat}{cs:List Value}(h1:aU L x=some (c6 v j))(aq:aU L y=some u)(aD:hs[k]?=some (.row v e size m cs))(a6:j<m*size)(cB:u.oneCell'=true) :
  e7 P n w0 zs hs L ⟨d,.store t x y,ty,pos,af,g⟩ (fun dd zs' hs'=>dd=undef∧zs'=zs∧hs'=hs.set k (.row v e size m (cs.set j u))):=
 jD fun a a7 w hw=>by
  have bu:u.cells=[u].toArray:=by cases u <;> first | rfl | (simp [Value.oneCell'] at cB)
  have tL:cs.length=m*size:=(hw.own _ (List.mem_of_getElem? aD)).1.1
  obtain ⟨b,cap,cur,rfl,_,au,hl,U⟩:=hw.zn (c:=[u]) aD (j:=j) (by rw [List.length_singleton];omega) (by
   rcases Nat.eq_zero_or_pos m with h | h
   ·rw [h,Nat.zero_mul] at a6;omega
   ·exact h)
  have he:cs.take j++[u]++cs.drop (j+[u].length)=cs.set j u:=by
   simp only [List.set_eq_take_append_cons_drop,if_pos (show j<cs.length by omega),List.append_assoc,List.cons_append,List.nil_append,List.length_singleton]
  rw [he] at U
  have aY:=zj (v:=u) aM (b:=b) (off:=j) (bt:=e) (cs:=cur.toList) (w:=w) (by simpa using au) (by rw [bu];rfl) (by rw [bu];simpa using cB) (by simpa using hl)
  rw [bu] at aY
  refine ⟨undef,zs,_,_,.inr ⟨?_,rfl⟩,⟨rfl,rfl,rfl⟩,U⟩
  have aL:a.eval x=.pointer (some ⟨b,j,none⟩):=(a7.eval h1).trans (by simp [c6,fm])
  simp only [execOp,aL,a7.eval aq]
  simp [Instr.storeAt,Instr.sureAddr,aY]
theorem OO[aW]{lV size c kk:Nat}{e eN:TypeId}{s bp:Nat}{zv:Value}(aM:a1 P t (.array lV e) s bp zv){de:TypeDesc}{be:Nat}{ze:Value}(cg:a1 P e de 1 be ze)(q:Nat){cs:List Value}{i:Int}{ik:IntKind}(cn:hs[q]?=some (.row v eN size c cs))(aq:aU L x=some (c6 v (kk*size)))(aQ:aU L y=some (.int ik i))(aD:kk<c)(au:0≤i∧i<lV) :
  bL P n w0 zs hs L ⟨d,.indexAddr t x y,ty,pos,af,g⟩ (c6 v (kk*size+i.toNat)):=fun a a7 w hw=>by
 have eY:=(hw.own _ (List.mem_of_getElem? cn)).1
 rcases eY.2 with ⟨rfl,bA⟩ | ⟨b,cap,cur,rfl,_⟩
 ·omega
 ·have bK:c6 (.slice (some ⟨b,0,none⟩) c cap) (kk*size)=.pointer (some ⟨b,kk*size,none⟩):=by simp [c6,fm]
  have bV:c6 (.slice (some ⟨b,0,none⟩) c cap) (kk*size+i.toNat)=.pointer (some ⟨b,kk*size+i.toNat,none⟩):=by simp [c6,fm]
  rw [bK] at aq
  rw [bV]
  have:=fV (P:=P) (n:=n) (w0:=w0) (zs:=zs) (hs:=hs) (d:=d) (ty:=ty) (pos:=pos) (af:=af) (g:=g) aM cg aq aQ au
  rw [Nat.mul_one] at this
  exact this a a7 w hw
theorem KK{xs:List (List UInt8)}{m:Nat}(hl:∀ x∈xs,x.length=m){k i:Nat}(aD:k<xs.length)(aG:i<m):(xs.flatten.map bf)[k*m+i]?=some (bf ((xs.getD k []).getD i 0)):=by
 have h1:=U1 hl (i:=k) (x:=xs[k]) (by simp [aD]) aG
 rw [h1]
 have aq:(xs[k]).length=m:=hl _ (List.getElem_mem aD)
 have bK:xs.getD k []=xs[k]:=by rw [List.getD_eq_getElem?_getD,List.getElem?_eq_getElem aD];rfl
 rw [bK,List.getElem?_map,List.getD_eq_getElem?_getD,List.getElem?_eq_getElem (by omega)]
 rfl
theorem KL{m:Nat}:∀ {xs:List (List UInt8)}(_:∀ x∈xs,x.length=m) {k i:Nat}(_:k<xs.length) (_:i<m) (b:UInt8),(xs.flatten.map bf).set (k*m+i) (bf b)=((xs.set k ((xs.getD k []).set i b)).flatten.map bf)
 | [],_,k,i,aD,_,b=>by simp at aD
 | c::t,hl,0,i,aD,aG,b=>by
  have bu:c.length=m:=hl c (List.mem_cons_self ..)
  rw [List.flatten_cons,List.map_append,Nat.zero_mul,Nat.zero_add,List.set_append_left _ _ (by rw [List.length_map];omega),List.set_cons_zero,List.flatten_cons,List.map_append,List.map_set]
  rfl
 | c::t,hl,k+1,i,aD,aG,b=>by
  have bu:c.length=m:=hl c (List.mem_cons_self ..)
  rw [List.flatten_cons,List.map_append,List.set_append_right _ _ (by rw [List.length_map,bu,Nat.add_mul];omega),List.length_map,bu,show (k+1)*m+i-m=k*m+i by rw [Nat.add_mul];omega,KL (fun x aL=>hl x (List.mem_cons_of_mem _ aL)) (by simpa using aD) aG b,List.set_cons_succ,List.flatten_cons,List.map_append,List.getD_cons_succ]
end
end Go.aJ
end
section
namespace Go.aJ
open Go.ChangeShapes Go.WideShapes Go.ChangeAt Go.RowKit
section
variable {H:Type}{enc:TypeId×Value→H}{P:Program}{W:World}{t e:TypeId}
end
section
variable {P:Program}{n:Nat}{w0:World}{zs:List aP}{hs:List av}{L:List (Nat×Value)}{d:Option Tmp}{ty t:TypeId}{pos:String}{af:Array Edge}{g:Option (Nat×Bool)}{x y:Operand}{v:Value}
theorem aeD{c:List Value}{size m:Nat}(bu:c.length=size)(h0:0<size):∀ j,j<m*size→((List.replicate m c).flatten)[j]?=c[j%size]?:=by
 induction m with
 | zero=>intro j h;rw [Nat.zero_mul] at h;omega
 | succ m ih=>
  intro j h
  rw [List.replicate_succ,List.flatten_cons]
  rcases Nat.lt_or_ge j size with h1 | h1
  ·rw [List.getElem?_append_left (by omega),Nat.mod_eq_of_lt h1]
  ·rw [List.getElem?_append_right (by omega),bu,ih (j-size) (by rw [Nat.add_mul,Nat.one_mul] at h;omega),← Nat.mod_eq_sub_mod h1]
theorem UD[aW]{e:TypeId}{s bp size:Nat}{zv:Value}(aM:a1 P t (.slice e) s bp zv){de:TypeDesc}{be:Nat}{zc:List Value}(cg:a1 P e de size be (.agg zc.toArray)){m:Nat}(h1:aU L x=some (az (m:Int)))(aq:aU L y=some (az (m:Int)))(au:be*m≤140737488355328)(hm:m≤140737488355328)(bj:zc.length=size)(bC:0<size)(h0:0<m) :
  e7 P n w0 zs hs L ⟨d,.makeSlice t x y,ty,pos,af,g⟩ (fun v zs' hs'=>zs'=zs∧hs'=.row v e size m (List.replicate m zc).flatten::hs):=
 jD fun a a7 w hw=>by
  have hlen:((List.replicate m zc).flatten).length=m*size:=by
   rw [List.length_flatten,List.map_replicate,bj]
   induction m with
   | zero=>simp
   | succ k ih=>simp
  have fJ:=hw.newRow e (List.replicate m zc).flatten size m m hlen (Nat.le_refl _) (by unfold maxLen;omega)
  rw [List.take_of_length_le (by omega)] at fJ
  refine ⟨_,zs,_,_,.inl ?_,⟨rfl,rfl⟩,fJ⟩
  obtain ⟨i,aG,j8,rP,YH⟩:=cg.QG w
  have o3:IntKind.i64.wrap (m:Int)=m:=by
   simp [IntKind.wrap,IntKind.bits,IntKind.signed]
   omega
  have Fw:((be:Int)*(m:Int))=((be*m:Nat):Int):=by simp
  have Fu:¬ ((m:Int)<0∨(i.bytes:Int)*m>2^48):=by rw [rP,Fw];omega
  simp only [execOp,a7.eval h1,a7.eval aq]
  have aY:(Instr.makeSlice t (az m) (az m)).run P w=.ok (.slice (some ⟨w.heap.size,0,none⟩) m m) { w with heap:=w.heap.push (.cells (List.replicate m zc).flatten.toArray e (0,0)) }:=by
   unfold Instr.makeSlice
   rw [Sem.run_bind,run_underlying aM.und]
   simp only [Result.andThen_ok]
   have a7:(asIntOf (az (m:Int))).run P w=.ok (.i64,(m:Int)) w:=by simp [asIntOf,az]
   simp only [asInt,Sem.run_bind,Sem.run_map,a7,Sem.run_pure,Result.andThen_ok,aG,o3]
   have tV:¬ ((m:Int).toNat*i.bytes>roomBytes):=by
    rw [rP,Int.toNat_natCast,Nat.mul_comm]
    unfold roomBytes
    omega
   have aT:(decide ((m:Int)<0) || decide ((i.bytes:Int)*m>2^48))=false:=by
    simpa using Fu
   have qD:¬ ((m:Int)<0):=by omega
   simp only [aT,qD,Bool.false_eq_true,false_or,gt_iff_lt,Int.lt_irrefl,if_false,decide_false,Bool.false_or,or_self,if_neg,not_false_eq_true,Sem.run_bind,Sem.run_pure,Result.andThen_ok]
   unfold askRoom
   rw [if_neg tV]
   simp only [Sem.run_bind,Sem.run_pure,Result.andThen_ok,cg.sizeOf,Int.toNat_natCast]
   have gL:decide ((2:Int)^48<(i.bytes:Int)*m)=false:=by
    rw [decide_eq_false_iff_not]
    omega
   rw [if_neg (by rw [gL];decide)]
   simp only [Sem.run_bind,Sem.run_pure,Result.andThen_ok,cg.sizeOf]
   have F1:¬ (m*size=0):=Nat.ne_of_gt (Nat.mul_pos h0 bC)
   rw [if_neg F1]
   simp only [Sem.run_bind,Sem.run_pure,cg.zero,Result.andThen_ok]
   have n2:(Value.agg zc.toArray).cells=zc.toArray:=rfl
   have dZ:zc.toArray.size=size:=by simpa using bj
   rw [n2,dZ]
   have js:Array.map (fun x=>zc.toArray[x%size]!) (Array.range (m*size))=(List.replicate m zc).flatten.toArray:=by
    apply Array.ext'
    refine List.ext_getElem? fun j=>?_
    rcases Nat.lt_or_ge j (m*size) with h | h
    ·rw [show ((List.replicate m zc).flatten.toArray).toList=(List.replicate m zc).flatten from rfl,aeD bj bC j h]
     have vB:j%size<zc.length:=by rw [bj];exact Nat.mod_lt _ bC
     have cC:j<(Array.map (fun x=>zc.toArray[x%size]!) (Array.range (m*size))).toList.length:=by simp;exact h
     rw [List.getElem?_eq_getElem cC,List.getElem?_eq_getElem vB]
     simp [vB]
    ·rw [List.getElem?_eq_none (by simp;exact h),List.getElem?_eq_none (by simp [hlen];omega)]
   rw [js]
   simp [newRow]
  rw [Sem.run_bind,aY]
  rfl
end
end Go.aJ
end
section
/- A range over a function in whose rounds more than one thing is changed; s[lo:hi:max]. -/
namespace Go.aJ
section
variable {P:Program}{n:Nat}{w0:World}{zs:List aP}{L:List (Nat×Value)}
theorem aC.Qu{w0 w:World}{zs sG:List aP}{hs:List av}{b:Nat}{o o':Obj}(h:aC w0 zs hs w)(bj:dU b o∈zs)(aq:∀ z∈sG,z∈zs)(bA:∀ z∈sG,z b=none):w.heap[b]?=some o∧aC w0 sG hs (w.putObj b o'):=by
 have h1:aC w0 (dU b o::sG) hs w:=by
  refine ⟨h.ext,fun z ja=>?_,fun r aY=>⟨(h.own r aY).1,fun k aD z ja=>?_⟩,h.nd,h.io⟩
  ·rcases List.mem_cons.1 ja with rfl | ja
   ·exact h.zone _ bj
   ·exact h.zone _ (aq z ja)
  ·rcases List.mem_cons.1 ja with rfl | ja
   ·exact (h.own r aY).2 k aD _ bj
   ·exact (h.own r aY).2 k aD _ (aq z ja)
 exact ⟨(h1.zone _ List.mem_cons_self).1 b o (by unfold dU;rw [if_pos rfl]),(h1.swap bA o').ak (List.sublist_cons_self _ _) (List.Sublist.refl _)⟩
theorem AU[I:aW]{D:Nat}{dD:aP}{fn:Func}{w:World}{hs:List av}{a:Act}{R:Value→List aP→List av→Prop}{rs:List ResultVar}(sG:List aP)(mn:I.ds=[{ target:=.collected D,args:=#[] }])(dh:dD=dU D (.deferred (some [])))(bj:dD∈zs)(aq:∀ z∈sG,z∈zs)(bA:∀ z∈sG,z D=none)(lx:fn.results=rs.toArray)(ab:Fr n L a)(U:aC w0 zs hs w){vs:List Value}(bx:ri P L hs rs vs)
  (fH:∀ W,aC w0 sG hs W→∃ zs' hs',aC w0 zs' hs' W∧R (uw vs) zs' hs') :
  bodyPostM (gA none) 0 P fn (fun e w'=>∃ v zs hs,e=.returned v∧aC w0 zs hs w'∧R v zs hs) .ret a w:=by
 have fO:a.defers=[{ target:=.collected D,args:=#[] }]:=ab.nodef.trans mn
 subst dh
 obtain ⟨au,ju⟩:=U.Qu (o':=.deferred none) bj aq bA
 show LeavesInM (gA none) 0 P fn a.tmps _ a.defers .returning w
 rw [fO]
 refine ⟨by simp,.inl ⟨D,_,rfl,run_takeDeferred au,?_⟩⟩
 obtain ⟨zs',hs',ny,aY⟩:=fH _ ju
 exact ⟨_,sw lx ab ju bx,_,_,_,rfl,ny,aY⟩
theorem PH[aW]{id:Nat}{Q:Exit→Act→World→Prop}{J:Act→World→Prop}{a:Act}{w:World}{l:List Oper}{hs:List av}{ro:Option Nat}{m:Nat}(ls:Array Bool)(f:Nat)(hm:P.follows .mixedOrders=true)(mx:Array.replicate l.length false=ls)(bw:l.length=f)
  (h:∀ w,Fr n L a→aC w0 zs hs w→mU P l.toArray J f [] ls a w) (K:∀ a w,J a w→Q .normal a w) (aT:l.all og=true):Fr n L a→aC w0 zs hs w→(Code.region id l.toArray true).wpIn (gA ro) m P Q a w:=by
 intro ab U
 subst mx bw
 have e:(j2 J .normal)=J:=funext fun a=>funext fun w=>propext ⟨And.right,fun h=>⟨rfl,h⟩⟩
 refine wpIn_mono (aeB (Q:=j2 J) hm (by simpa using aT) ?_) (fun e a w q=>by obtain ⟨rfl,a6⟩:=q;exact K _ _ a6)
 rw [e]
 refine Iz _ [] _ _ _ ?_
 have:=h _ ab (U.drew (w.drawn+1)) (fun k o _ aD=>?_) trivial
 ·simpa using this
 ·exact absurd aD (by simp [Array.getD_eq_getD_getElem?,Array.getElem?_replicate];split <;> simp)
theorem l9.WB{f:FuncId}{args:List Value}{bP:List aP}{b8 cL ra rb:av}{cw:List av}{J:av×av→Prop}(h:l9 P f args w0 bP [b8,cL,ra,rb] cw (fun _ dj cV=>dj=[]∧∃ r:av×av,cV=[b8,cL,r.1,r.2]∧J r))(w:World)(U:aC w0 bP (b8::cL::ra::rb::cw) w) :
  Calls P f args.toArray w fun e w'=>(∃ v,e=.returned v)∧∃ r:av×av,J r∧aC w0 bP (b8::cL::r.1::r.2::cw) w':=
 Calls.mono (h w U) fun e w' ⟨v,dj,cV,he,ju,h1,r,aq,aQ⟩=>by
  subst h1 aq
  exact ⟨⟨v,he⟩,r,aQ,ju⟩
end
section
variable {P:Program}{n:Nat}{w0:World}{zs:List aP}{hs:List av}{L:List (Nat×Value)}{d:Option Tmp}{ty t:TypeId}{pos:String}{af:Array Edge}{g:Option (Nat×Bool)}{x y Dj c:Operand}{v:Value}
end
end Go.aJ
end
section
namespace Go.aJ
open Go Go.Sem
def j0{α:Type}(kf:α→Value)(l:List (α×Value))(es:List MapEntry)(c:Nat):Prop:=gR kf l es∧(∀ x∈es,x.born<c)∧(es.map (·.born)).Nodup
theorem j0.nil{α:Type}{kf:α→Value}:j0 kf [] [] 0:=⟨rfl,fun x h=>(by cases h),List.nodup_nil⟩
section
variable {P:Program}{n:Nat}{w0:World}{zs:List aP}{hs:List av}{L:List (Nat×Value)}{d:Option Tmp}{ty t t2:TypeId}{pos:String}{af:Array Edge}{g:Option (Nat×Bool)}{x y ki:Operand}{u v:Value}
variable {α:Type}[DecidableEq α]{kf:α→Value}{V:α→Prop}{kt e:TypeId}
theorem Eh[aW]{s bp:Nat}{zv:Value}(aM:a1 P t (.map kt e) s bp zv)(dE:pv P kt kf V)(k:Nat){l:List (α×Value)}{es:List MapEntry}{c b:Nat}(h1:aU L x=some (.map (some b))){a:α}(aq:aU L y=some (kf a))(aQ:aU L ki=some u)(aD:hs[k]?=some (.mp b es c))(fA:j0 kf l es c)(j7:∀ p∈l,V p.1)(a7:V a) :
  e7 P n w0 zs hs L ⟨d,.mapUpdate t x y ki,ty,pos,af,g⟩ (fun dd zs' hs'=>∃ iz hG,j0 kf (h4 a u l) iz hG∧dd=undef∧zs'=zs∧hs'=hs.set k (.mp b iz hG)):=
 jD fun ac kU w hw=>by
  obtain ⟨fA,gq,qz⟩:=fA
  have au:=(hw.own _ (List.mem_of_getElem? aD)).1
  have aO:∀ w:World,w.heap[b]?=some (.map es.toArray c)→(getObj b).run P w=.ok (.map es.toArray c) w:=fun w au=>by simp [getObj,Sem.run,au]
  have gL:b<w.heap.size:=(Array.getElem?_eq_some_iff.1 au.2).1
  have tW:∀ (iz:List MapEntry) (hG:Nat),(setObj b (.map iz.toArray hG)).run P w=.ok () { w with heap:=w.heap.setIfInBounds b (.map iz.toArray hG) }:=fun iz hG=>by simp [setObj,Sem.run,au.2]
  have fJ:∀ (iz:List MapEntry) (hG:Nat),aC w0 zs (hs.set k (.mp b iz hG)) { w with heap:=w.heap.setIfInBounds b (.map iz.toArray hG) }:=fun iz hG=>
   hw.set aD rfl (fun j a6=>by
    have fq:b≠j:=fun e=>a6 (by rw [e];rfl)
    show (w.heap.setIfInBounds b _)[j]?=_
    rw [Array.getElem?_setIfInBounds,if_neg fq]) ⟨au.1,by
    show (w.heap.setIfInBounds b _)[b]?=_
    rw [Array.getElem?_setIfInBounds,if_pos rfl,if_pos gL]⟩ (by simp) ⟨rfl,rfl,rfl⟩
  have x1:=dE.find a w l es fA j7 a7
  cases bw:ga a l 0 with
  | none=>
   refine ⟨undef,zs,_,_,.inr ⟨?_,rfl⟩,⟨es++[(⟨kf a,u,c⟩:MapEntry)],c+1,⟨NO fA bw,fun x aL=>?_,?_⟩,rfl,rfl,rfl⟩,fJ _ _⟩
   ·simp only [execOp,kU.eval h1,kU.eval aq,kU.eval aQ]
    have aY:(Instr.mapUpdate t (.map (some b)) (kf a) u).run P w=.ok () { w with heap:=w.heap.setIfInBounds b (.map (es++[(⟨kf a,u,c⟩:MapEntry)]).toArray (c+1)) }:=by
     unfold Instr.mapUpdate
     rw [Sem.run_bind,run_underlying aM.und]
     simp only [Result.andThen_ok,Sem.run_bind,aO w au.2,dE.jr _ _ _ a7,x1,bw]
     rw [← tW]
     simp
    rw [Sem.run_bind,aY]
    rfl
   ·rcases List.mem_append.1 aL with h | h
    ·exact Nat.lt_succ_of_lt (gq x h)
    ·rw [List.mem_singleton] at h;subst h;exact Nat.lt_succ_self c
   ·rw [List.map_append,List.nodup_append]
    refine ⟨qz,by simp,fun p bN q cn=>?_⟩
    simp only [List.map_cons,List.map_nil,List.mem_singleton] at cn
    obtain ⟨x,aL,rfl⟩:=List.mem_map.1 bN
    have:=gq x aL
    omega
  | some p=>
   obtain ⟨j,v⟩:=p
   obtain ⟨xD,cN,dq,eX⟩:=NP (u:=u) fA bw
   rw [Nat.sub_zero] at cN eX
   have L6:(es.modify j fun e=>{ e with key:=kf a,val:=u }).map (·.born)=es.map (·.born):=by
    apply List.ext_getElem?
    intro i
    rw [List.getElem?_map,List.getElem?_map,List.getElem?_modify]
    cases es[i]? with
    | none=>rfl
    | some e=>simp only [Option.map_some];split <;> rfl
   refine ⟨undef,zs,_,_,.inr ⟨?_,rfl⟩,⟨_,c,⟨eX,fun x aL=>?_,L6 ▸ qz⟩,rfl,rfl,rfl⟩,fJ _ _⟩
   ·simp only [execOp,kU.eval h1,kU.eval aq,kU.eval aQ]
    have aY:(Instr.mapUpdate t (.map (some b)) (kf a) u).run P w=.ok () { w with heap:=w.heap.setIfInBounds b (.map (es.modify j fun e=>{ e with key:=kf a,val:=u }).toArray c) }:=by
     unfold Instr.mapUpdate
     rw [Sem.run_bind,run_underlying aM.und]
     simp only [Result.andThen_ok,Sem.run_bind,aO w au.2,dE.jr _ _ _ a7,x1,bw]
     have YQ:∀ w:World,(Instr.keyThatStays (kf a) (kf a)).run P w=.ok (kf a) w:=fun w=>by
      unfold Instr.keyThatStays
      rw [if_pos (dE.bits a)]
      rfl
     have bK:((es.toArray[j]?).map (·.key)).getD (kf a)=kf a:=by
      rw [List.getElem?_toArray,cN]
      exact dq
     rw [bK,YQ]
     simp only [Result.andThen_ok]
     rw [← tW]
     simp
    rw [Sem.run_bind,aY]
    rfl
   ·have dp:x.born∈es.map (·.born):=by rw [← L6];exact List.mem_map_of_mem aL
    obtain ⟨y,cS,he⟩:=List.mem_map.1 dp
    rw [← he];exact gq y cS
theorem UC[aW]{s bp:Nat}{zv:Value}(aM:a1 P t (.map kt e) s bp zv)(dE:pv P kt kf V)(k:Nat){l:List (α×Value)}{es:List MapEntry}{c b:Nat}(h1:aU L x=some (.map (some b))){a:α}(aq:aU L y=some (kf a))(aD:hs[k]?=some (.mp b es c))(fA:j0 kf l es c)(j7:∀ p∈l,V p.1)(a7:V a) :
  e7 P n w0 zs hs L ⟨d,.call ⟨.builtin .delete,#[x,y],#[t,t2]⟩,ty,pos,af,g⟩ (fun dd zs' hs'=>∃ iz hG,j0 kf (oO a l) iz hG∧zs'=zs∧hs'=hs.set k (.mp b iz hG)):=
 jD fun ac kU w hw=>by
  obtain ⟨fA,gq,qz⟩:=fA
  have au:=(hw.own _ (List.mem_of_getElem? aD)).1
  have aO:∀ w:World,w.heap[b]?=some (.map es.toArray c)→(getObj b).run P w=.ok (.map es.toArray c) w:=fun w au=>by simp [getObj,Sem.run,au]
  have gL:b<w.heap.size:=(Array.getElem?_eq_some_iff.1 au.2).1
  have tW:∀ (iz:List MapEntry) (hG:Nat),(setObj b (.map iz.toArray hG)).run P w=.ok () { w with heap:=w.heap.setIfInBounds b (.map iz.toArray hG) }:=fun iz hG=>by simp [setObj,Sem.run,au.2]
  have fJ:∀ (iz:List MapEntry) (hG:Nat),aC w0 zs (hs.set k (.mp b iz hG)) { w with heap:=w.heap.setIfInBounds b (.map iz.toArray hG) }:=fun iz hG=>
   hw.set aD rfl (fun j a6=>by
    have fq:b≠j:=fun e=>a6 (by rw [e];rfl)
    show (w.heap.setIfInBounds b _)[j]?=_
    rw [Array.getElem?_setIfInBounds,if_neg fq]) ⟨au.1,by
    show (w.heap.setIfInBounds b _)[b]?=_
    rw [Array.getElem?_setIfInBounds,if_pos rfl,if_pos gL]⟩ (by simp) ⟨rfl,rfl,rfl⟩
  have x1:=dE.find a w l es fA j7 a7
  have key:∃ iz,j0 kf (oO a l) iz c∧(Builtin.delete_ #[t,t2] ty #[.map (some b),kf a]).run P w=.ok (.tuple #[]) { w with heap:=w.heap.setIfInBounds b (.map iz.toArray c) }:=by
   unfold oO
   cases bw:ga a l 0 with
   | none=>
    refine ⟨es,⟨fA,gq,qz⟩,?_⟩
    unfold Builtin.delete_
    simp only [List.getElem?_toArray,List.getElem?_cons_zero,List.getElem?_cons_succ,Sem.run_bind,run_underlying aM.und,Result.andThen_ok,aO w au.2,dE.jr _ _ _ a7,x1,bw]
    rw [tW]
    rfl
   | some p=>
    obtain ⟨i,v⟩:=p
    refine ⟨es.eraseIdx i,⟨abV fA i,fun x aL=>gq x (List.mem_of_mem_eraseIdx aL),by rw [← yE];exact List.Pairwise.sublist (List.eraseIdx_sublist _ _) qz⟩,?_⟩
    unfold Builtin.delete_
    simp only [List.getElem?_toArray,List.getElem?_cons_zero,List.getElem?_cons_succ,Sem.run_bind,run_underlying aM.und,Result.andThen_ok,aO w au.2,dE.jr _ _ _ a7,x1,bw]
    have bK:es.toArray.eraseIdxIfInBounds i=(es.eraseIdx i).toArray:=by
     rw [List.eraseIdxIfInBounds_toArray]
    rw [bK,tW]
    rfl
  obtain ⟨iz,cN,dq⟩:=key
  refine ⟨.tuple #[],zs,_,_,.inl ?_,⟨iz,c,cN,rfl,rfl⟩,fJ _ _⟩
  simp only [execOp,resolve]
  simp only [invoke,builtin,Sem.run_bind,Sem.run_pure,Result.andThen_ok,List.map_toArray,List.map_cons,List.map_nil,kU.eval h1,kU.eval aq]
  rw [dq]
  rfl
theorem OU[aW]{s bp:Nat}{zv:Value}(aM:a1 P t (.map kt e) s bp zv){de:TypeDesc}{se be:Nat}{ze:Value}(cg:a1 P e de se be ze)(dE:pv P kt kf V)(k:Nat){l:List (α×Value)}{es:List MapEntry}{c b:Nat}(h1:aU L x=some (.map (some b))){a:α}(aq:aU L y=some (kf a))(aD:hs[k]?=some (.mp b es c))(fA:gR kf l es)(j7:∀ p∈l,V p.1)(a7:V a)(hu:(fN l a).getD ze=u) :
  bL P n w0 zs hs L ⟨d,.lookup t x y false,ty,pos,af,g⟩ u:=by
 have:=OT (P:=P) (n:=n) (w0:=w0) (zs:=zs) (d:=d) (ty:=ty) (pos:=pos) (af:=af) (g:=g) aM cg dE k h1 aq aD fA j7 a7
 rwa [hu] at this
end
end Go.aJ
end
section
namespace Go.aJ
open Go Go.Sem
def ou(v:Value)(off len cap:Nat):Value:=
 match v with
 | .slice (some a) _ _=>.slice (some (a.add off)) len cap
 | _=>undef
section
variable {P:Program}{n:Nat}{w0:World}{zs:List aP}{hs:List av}{L:List (Nat×Value)}{d:Option Tmp}{ty t bZ:TypeId}{pos:String}{af:Array Edge}{g:Option (Nat×Bool)}
variable {x y c:Operand}{u v:Value}
theorem Ca{base:Nat}{w:World}{e:TypeId}{s m:Nat}{cs:List Value}(h:(av.row v e s m cs).ok base w)(hm:0<m):∃ b cap cur,v=.slice (some ⟨b,0,none⟩) m cap∧w.heap[b]?=some (.cells cur e (0,0))∧cs.length≤cur.size∧cur.toList.take cs.length=cs:=by
 rcases h.2 with ⟨rfl,bA⟩ | ⟨b,cap,cur,rfl,au,aO,kE,nB,ig,kc⟩
 ·omega
 ·have hl:=h.1
  have F1:m*s≤cap*s:=Nat.mul_le_mul_right s kE
  exact ⟨b,cap,cur,rfl,aO,by omega,by rw [hl];exact kc⟩
theorem ad0[aW]{m k bh size:Nat}{e eN:TypeId}{s bp:Nat}{zv:Value}(aM:a1 P t (.array m e) s bp zv){de:TypeDesc}{se be:Nat}{ze:Value}(cg:a1 P e de se be ze)(q:Nat){cs:List Value}(cn:hs[q]?=some (.row v eN size bh cs))(h1:aU L x=some (c6 v (k*size)))(aD:k<bh) :
  bL P n w0 zs hs L ⟨d,.slice t x none none none,ty,pos,af,g⟩ (ou v (k*size) m m):=fun a a7 w hw=>by
 obtain ⟨b,cap,cur,rfl,_⟩:=Ca (hw.own _ (List.mem_of_getElem? cn)).1 (by omega)
 have bK:c6 (.slice (some ⟨b,0,none⟩) bh cap) (k*size)=.pointer (some ⟨b,k*size,none⟩):=by simp [c6,fm]
 have bV:ou (.slice (some ⟨b,0,none⟩) bh cap) (k*size) m m=.slice (some ⟨b,k*size,none⟩) m m:=by simp [ou,fm]
 rw [bK] at h1
 rw [bV]
 exact qY (P:=P) (n:=n) (w0:=w0) (zs:=zs) (hs:=hs) (d:=d) (ty:=ty) (pos:=pos) (af:=af) (g:=g) aM cg h1 a a7 w hw
theorem ad1[aW]{m k bh size:Nat}{e eN:TypeId}{s bp:Nat}{zv:Value}(aM:a1 P t (.array m e) s bp zv){de:TypeDesc}{se be:Nat}{ze:Value}(cg:a1 P e de se be ze)(q:Nat){cs:List Value}{ik:IntKind}{i:Int}(cn:hs[q]?=some (.row v eN size bh cs))(h1:aU L x=some (c6 v (k*size)))(aq:aU L y=some (.int ik i))(aD:k<bh)(au:0≤i∧i≤m) :
  bL P n w0 zs hs L ⟨d,.slice t x none (some y) none,ty,pos,af,g⟩ (ou v (k*size) i.toNat m):=fun a a7 w hw=>by
 obtain ⟨b,cap,cur,rfl,_⟩:=Ca (hw.own _ (List.mem_of_getElem? cn)).1 (by omega)
 have bK:c6 (.slice (some ⟨b,0,none⟩) bh cap) (k*size)=.pointer (some ⟨b,k*size,none⟩):=by simp [c6,fm]
 have bV:ou (.slice (some ⟨b,0,none⟩) bh cap) (k*size) i.toNat m=.slice (some ⟨b,k*size,none⟩) i.toNat m:=by simp [ou,fm]
 rw [bK] at h1
 rw [bV]
 exact qZ (P:=P) (n:=n) (w0:=w0) (zs:=zs) (hs:=hs) (d:=d) (ty:=ty) (pos:=pos) (af:=af) (g:=g) aM cg h1 aq au a a7 w hw
theorem adl[aW]{m k bh:Nat}{xs:List (List UInt8)}{e eN:TypeId}{s b s' gB lG lp:Nat}{zv lL lM:Value}(aM:a1 P t (.slice e) s b zv)(gh:a1 P bZ .string s' gB lL)(cg:a1 P e (.int .u8) lG lp lM)(q:Nat)(cn:hs[q]?=some (.row v eN m bh (xs.flatten.map bf)))(FB:bh=xs.length)(hl:∀ l∈xs,l.length=m)(h1:aU L x=some (ou v (k*m) m m))(aD:k<xs.length) :
  bL P n w0 zs hs L ⟨d,.convert t bZ x,ty,pos,af,g⟩ (vs (xs.getD k [])):=
 eC fun a a7 w hw=>by
  subst FB
  obtain ⟨b,cap,cur,rfl,aO,ig,kX⟩:=Ca (hw.own _ (List.mem_of_getElem? cn)).1 (by omega)
  have bV:ou (.slice (some ⟨b,0,none⟩) xs.length cap) (k*m) m m=.slice (some ⟨b,k*m,none⟩) m m:=by simp [ou,fm]
  rw [bV] at h1
  have hm:(xs.getD k []).length=m:=by
   rw [List.getD_eq_getElem?_getD,List.getElem?_eq_getElem aD];exact hl _ (List.getElem_mem aD)
  simp only [execOp,a7.eval h1]
  have aY:=zi (w:=w) (ad:=some ⟨b,k*m,none⟩) (xs:=xs.getD k []) (c:=m) aM gh cg fun j a6=>by
   refine ⟨b,k*m,rfl,?_⟩
   have aq:=KK hl aD (i:=j) (by omega)
   have aQ:k*m+j<(xs.flatten.map bf).length:=(List.getElem?_eq_some_iff.1 aq).1
   have bH:cur[k*m+j]?=some (bf ((xs.getD k []).getD j 0)):=by
    rw [← Array.getElem?_toList,← aq,← kX,List.getElem?_take_of_lt (by omega)]
   rw [show cur=cur.toList.toArray by simp] at aO
   rw [cell_of_row w b _ _ eN (0,0) aO,List.getElem?_toArray,Array.getElem?_toList,bH,List.getD_eq_getElem?_getD,List.getElem?_eq_getElem a6]
   rfl
  rw [hm] at aY
  rw [Sem.run_bind,aY]
  rfl
theorem UA[aW]{m k bh:Nat}{xs:List (List UInt8)}{ys:List UInt8}{e eN sT bt:TypeId}{s bp dk sc:Nat}{zv:Value}(aM:a1 P t (.slice e) s bp zv){de:TypeDesc}{be:Nat}{ze:Value}(cg:a1 P e de 1 be ze)(q ck:Nat){i:Nat}(cn:hs[q]?=some (.row v eN m bh (xs.flatten.map bf)))(vF:hs[ck]?=some (.blk dk bt (ys.map bf)))(hl:∀ l∈xs,l.length=m)(FB:bh=xs.length)
  (h1:aU L x=some (ou v (k*m) i m)) (aq:aU L y=some (.slice (some ⟨dk,0,none⟩) m sc)) (aD:k<xs.length) (aG:i≤m) (cS:ys.length=m) :
  e7 P n w0 zs hs L ⟨d,.call ⟨.builtin .copy,#[x,y],#[t,sT]⟩,ty,pos,af,g⟩ (fun dd zs' hs'=>dd=az i∧zs'=zs∧hs'=hs.set q (.row v eN m bh ((xs.set k (ys.take i++(xs.getD k []).drop i)).flatten.map bf))):=
 jD fun a a7 w hw=>by
  subst FB
  obtain ⟨b,cap,cur,rfl,aO,ig,kX⟩:=Ca (hw.own _ (List.mem_of_getElem? cn)).1 (by omega)
  have bV:ou (.slice (some ⟨b,0,none⟩) xs.length cap) (k*m) i m=.slice (some ⟨b,k*m,none⟩) i m:=by simp [ou,fm]
  rw [bV] at h1
  have eG:xs.flatten.length=xs.length*m:=rv hl
  have Mj:k*m+m≤xs.length*m:=by
   have:=Nat.mul_le_mul_right m (show k+1≤xs.length by omega)
   rwa [Nat.add_mul,Nat.one_mul] at this
  have hm:(xs.getD k []).length=m:=by
   rw [List.getD_eq_getElem?_getD,List.getElem?_eq_getElem aD];exact hl _ (List.getElem_mem aD)
  have fb:((ys.take i).map bf).length=i:=by rw [List.length_map,List.length_take];omega
  obtain ⟨nq,aiM,T1,Mc,_,Bf,akA,U⟩:=hw.zn (c:=(ys.take i).map bf) cn (j:=k*m) (by rw [fb];omega) (by omega)
  obtain ⟨rfl,rfl⟩:b=nq∧cur=T1:=by
   simp only [Value.slice.injEq,Option.some.injEq,Addr.mk.injEq] at Mc
   obtain ⟨⟨rfl,_⟩,_⟩:=Mc
   rw [aO] at Bf
   simp only [Option.some.injEq,Obj.cells.injEq] at Bf
   exact ⟨rfl,Bf.1⟩
  have he:(xs.flatten.map bf).take (k*m)++(ys.take i).map bf++(xs.flatten.map bf).drop (k*m+((ys.take i).map bf).length)=(xs.set k (ys.take i++(xs.getD k []).drop i)).flatten.map bf:=by
   have aT:(ys.take i++(xs.getD k []).drop i).length=m:=by
    rw [List.length_append,List.length_take,List.length_drop,hm];omega
   have cN:xs.flatten.drop (k*m+i)=(xs.getD k []).drop i++xs.flatten.drop (k*m+m):=by
    have dq:=KM hl aD
    have eX:xs.flatten.drop (k*m)=xs.getD k []++xs.flatten.drop (k*m+m):=by
     rw [← dq,← List.drop_drop,List.take_append_drop]
    rw [← List.drop_drop,eX,List.drop_append_of_le_length (by omega)]
   rw [fb,← Es hl aT aD,aT,← List.map_take,← List.map_drop,cN]
   simp only [List.map_append,List.append_assoc]
  rw [he] at U
  have Ge:=(hw.own _ (List.mem_of_getElem? vF)).1.2
  cases tS:P.info? e with
  | none=>have:=cg.inf;simp [tS] at this
  | some ii=>
   have FM:ii.size=1:=by have:=cg.inf;simp [tS] at this;exact this.1
   have aY:=run_copy_row (P:=P) w t sT ty e b (k*m) i m ⟨dk,0,none⟩ m sc cur eN ((ys.take i).map bf) aM.und (by simp [tS,FM]) aO (by rw [fb];show i=min m i;omega) (fun j vv a6=>by
    rw [fm,cell_of_row w dk _ _ bt (0,0) Ge]
    rw [List.map_take] at a6
    have tJ:j<i:=by have:=(List.getElem?_eq_some_iff.1 a6).1;rw [List.length_take,List.length_map] at this;omega
    rw [List.getElem?_take_of_lt tJ] at a6
    simpa using a6) (by rw [fb];rw [List.length_map,eG] at ig;omega) (fun vv bx=>by
    obtain ⟨bb,_,rfl⟩:=List.mem_map.1 bx
    rfl)
   rw [fb] at aY U
   refine ⟨_,zs,_,_,.inl ?_,⟨rfl,rfl,rfl⟩,U⟩
   simp only [execOp,resolve]
   simp only [invoke,builtin,Sem.run_bind,Sem.run_pure,Result.andThen_ok,List.map_toArray,List.map_cons,List.map_nil,a7.eval h1,a7.eval aq]
   rw [aY]
   rfl
end
end Go.aJ
end
section
namespace Go.aJ
open Go Go.Sem
section
variable {P:Program}{n:Nat}{w0:World}{zs:List aP}{hs:List av}{L:List (Nat×Value)}{d:Option Tmp}{ty t bZ:TypeId}{pos:String}{af:Array Edge}{g:Option (Nat×Bool)}
variable {x y c:Operand}{u v:Value}{α:Type}{f:α→List Value}{m:Nat}{xs:List α}
theorem Et(xs:List α):xs.flatMap f=(xs.map f).flatten:=by rw [List.flatMap_def]
theorem adF[aW](hl:∀ x,(f x).length=m)(hI:α){bM:TypeDesc}{bp:Nat}{zv:Value}(aM:a1 P t bM m bp zv)(q:Nat){e:TypeId}{c k:Nat}(cn:hs[q]?=some (.row v e m c (xs.flatMap f)))(h1:aU L x=some (c6 v (k*m)))(aT:eV bM=true)(h0:0<m)(aD:k<xs.length) :
  bL P n w0 zs hs L ⟨d,.load t x,ty,pos,af,g⟩ (.agg (f (xs.getD k hI)).toArray):=by
 have:=OS (P:=P) (n:=n) (w0:=w0) (zs:=zs) (d:=d) (ty:=ty) (pos:=pos) (af:=af) (g:=g) aM q (xs.map f) k (by rw [cn,Et]) (fun c bu=>by
  obtain ⟨a,_,rfl⟩:=List.mem_map.1 bu
  exact hl a) h1 (by simpa using aD) h0 aT
 have e:(xs.map f).getD k []=f (xs.getD k hI):=by
  rw [List.getD_eq_getElem?_getD,List.getD_eq_getElem?_getD,List.getElem?_map,List.getElem?_eq_getElem aD]
  rfl
 rwa [e] at this
theorem Ku[aW](hl:∀ x,(f x).length=m)(nw:∀ x,∀ u∈f x,u.oneCell'=true){bM:TypeDesc}{bp:Nat}{zv:Value}(aM:a1 P t bM m bp zv)(q:Nat){e:TypeId}{bh k:Nat}{a:α}(h1:aU L x=some (c6 v (k*m)))(aq:aU L y=some u)(hu:u=.agg (f a).toArray)(aD:hs[q]?=some (.row v e m bh (xs.flatMap f)))(bu:bh=xs.length)(a6:k<xs.length) :
  e7 P n w0 zs hs L ⟨d,.store t x y,ty,pos,af,g⟩ (fun dd zs' hs'=>dd=undef∧zs'=zs∧hs'=hs.set q (.row v e m bh ((xs.set k a).flatMap f))):=
 jD fun ac kU w hw=>by
  subst bu hu
  have vB:k*m+m≤xs.length*m:=by
   have:=Nat.mul_le_mul_right m (show k+1≤xs.length by omega)
   rwa [Nat.add_mul,Nat.one_mul] at this
  have fb:(f a).length=m:=hl a
  have YX:∀ c∈xs.map f,c.length=m:=fun c bu=>by
   obtain ⟨a,_,rfl⟩:=List.mem_map.1 bu
   exact hl a
  obtain ⟨b,cap,cur,rfl,_,au,tK,U⟩:=hw.zn (c:=f a) aD (j:=k*m) (by rw [fb];exact vB) (by omega)
  have he:(xs.flatMap f).take (k*m)++f a++(xs.flatMap f).drop (k*m+(f a).length)=(xs.set k a).flatMap f:=by
   rw [Et,Et,List.map_set,← Es YX fb (by simpa using a6)]
  rw [he] at U
  have aY:=zj (v:=.agg (f a).toArray) aM (b:=b) (off:=k*m) (bt:=e) (cs:=cur.toList) (w:=w) (by simpa using au) (by simpa [Value.cells] using fb) (fun u hu=>by
   simp only [Value.cells,List.mem_toArray] at hu
   exact nw a u hu) (by rw [fb] at tK;simpa using tK)
  refine ⟨undef,zs,_,_,.inr ⟨?_,rfl⟩,⟨rfl,rfl,rfl⟩,U⟩
  have aL:ac.eval x=.pointer (some ⟨b,k*m,none⟩):=(kU.eval h1).trans (by simp [c6,fm])
  simp only [execOp,aL,kU.eval aq]
  simp [Instr.storeAt,Instr.sureAddr,aY,Value.cells]
end
end Go.aJ
end
section
namespace Go.aJ
open Go Go.Sem Go.RowKit Go.Maps Go.Shelf Go.Proofs
theorem S1{w w':World}(h:Below w.heap.size w w'):(b1 w).le (b1 w'):=fun b o au=>by
 have:=kJ au
 simp only [b1] at au ⊢
 rw [h.block b this];exact au
theorem S0{B:Nat}{w w':World}(h:Below B w w'):ma w w':=⟨h.os,h.tape,h.output⟩
theorem Qz{w w':World}(h:Below w.heap.size w w'){v:Value}{e:TypeId}{s m:Nat}{cs:List Value}(aY:w'.ownsRow w.heap.size e s v m cs):aC w [] [.row v e s m cs] w':=
 ⟨S1 h,by simp,fun r pP=>by
  rw [List.mem_singleton] at pP;subst pP
  exact ⟨aY,by simp⟩,by
  cases m5:(av.row v e s m cs).id with
  | none=>simp [m5]
  | some b=>simp [m5],S0 h⟩
theorem aaA{P:Program}{kt:TypeId}(h:P.underlying kt=some (.int .i64)){i:Int}(aG : -9223372036854775808≤i∧i≤9223372036854775807):Go.keyOf P kt (az i)=some (.int .i64 i):=by
 have hw:(Lit.int .i64 i).wf=true:=by
  have h1:IntKind.i64.min = -9223372036854775808:=by decide
  have aq:IntKind.i64.max=9223372036854775807:=by decide
  simp only [Lit.wf,h1,aq,Bool.and_eq_true,decide_eq_true_eq]
  exact aG
 simp [Go.keyOf,h,mapKey,az,hw]
theorem afS{P:Program}{ρk ρs:Ren}(lg:SlLaysZI.n7 P ρk)(iw:SlLaysZI.n6 P ρs)(Gd:AnyZI.SortsIn P ρs Fence.wide 4)(kt:TypeId)(FY:ρk.t 26=kt)(fJ:ρs.t 26=kt)(FL:P.underlying kt=some (.int .i64))
  (xD:∀ args w,(callFunc (ρs.f 9) args).run P w=.ok (.enter (ρs.f 9) args) w) (eg:∀ args w,(callFunc (ρk.f 10) args).run P w=.ok (.enter (ρk.f 10) args) w)
  {l:List (Int×Value)}{es:List MapEntry}{c e b:Nat}{qj:TypeId}(fA:j0 az l es c) (bA:(l.map (·.1)).Nodup) (aD:∀ i∈l.map (·.1), -9223372036854775808≤i∧i≤9223372036854775807) (hl:l.length≤4096) (w0:World) (bP:List aP) :
  eH P (ρs.f 6) [.func (.func (ρk.f 10)) (List.nil:List Value).toArray [.pointer (some ⟨e,0,none⟩)].toArray] w0 bP [.blk e qj [.map (some b)],.mp b es c] (fun v dj cV=>dj=[]∧cV=[.row v kt 1 ((l.map (·.1)).mergeSort (fun x y=>decide (x≤y))).length (((l.map (·.1)).mergeSort (fun x y=>decide (x≤y))).map az),.blk e qj [.map (some b)],.mp b es c]):=by
 intro cw w U
 have h1:=(U.own (.blk e qj [.map (some b)]) (by simp)).1
 have aq:=(U.own (.mp b es c) (by simp)).1
 obtain ⟨fH,gq,qz⟩:=fA
 have tD:es.length=l.length:=NN fH
 let R:Value→Option (DataW Unit×List MemPlace):=fun _=>some (.nil,[])
 have FX:∀ x∈es,∃ i,x.key=az i∧i∈l.map (·.1):=fun x aL=>by
  have:(x.key,x.val)∈es.map (fun e=>(e.key,e.val)):=List.mem_map_of_mem aL
  rw [fH] at this
  obtain ⟨p,bN,he⟩:=List.mem_map.1 this
  exact ⟨p.1,by simpa using (congrArg Prod.fst he).symm,List.mem_map_of_mem bN⟩
 have rW:∀ x∈es,∃ i,x.key=az i∧i∈l.map (·.1)∧WideElems.rd P kt R x=some (.int .i64 i,.nil):=fun x aL=>by
  obtain ⟨i,aQ,bH⟩:=FX x aL
  refine ⟨i,aQ,bH,?_⟩
  unfold WideElems.rd
  rw [aQ,aaA FL (aD i bH)]
  rfl
 have x8:es.map (·.key)=l.map (fun p=>az p.1):=by
  have:=congrArg (List.map Prod.fst) fH
  simpa [List.map_map,Function.comp_def] using this
 have Gf:MapKept.Stamped es.toArray c:=by
  refine ⟨by simpa using gq,by simpa using qz,?_⟩
  rw [show (es.toArray.toList.map (·.key))=l.map (fun p=>az p.1) by simpa using x8]
  have:l.map (fun p=>az p.1)=(l.map (·.1)).map az:=by rw [List.map_map];rfl
  rw [this]
  exact List.Pairwise.map az (fun a b fq e=>fq (by simpa [az] using e)) bA
 have qE:WideElems.Fit P kt R es.toArray c:=⟨by simp only [List.size_toArray];unfold maxLen;omega,Gf,fun x aL=>by
  obtain ⟨i,_,_,cN⟩:=rW x (by simpa using aL)
  exact ⟨_,cN⟩⟩
 have eY:w.ownsMap P kt R b es.length (.map ((es.toArray.toList.map (WideElems.rg P kt R)).foldr DataW.insert [])):=⟨es.toArray,c,aq.2,qE,by simp,rfl⟩
 obtain ⟨oC,tm⟩:∃ D:DataW Unit,D=.map ((es.toArray.toList.map (WideElems.rg P kt R)).foldr DataW.insert []):=⟨_,rfl⟩
 rw [← tm] at eY
 have yi:=WideShapes.sorted_perm (es.toArray.toList.map (WideElems.rg P kt R))
 have rQ:(intKeys oC).Perm (l.map (·.1)):=by
  rw [tm]
  show (((es.toArray.toList.map (WideElems.rg P kt R)).foldr DataW.insert []).map fun p=>Go.intOf p.1).Perm _
  refine (yi.map _).trans ?_
  rw [List.map_map]
  have:es.toArray.toList.map ((fun p=>Go.intOf p.1) ∘ WideElems.rg P kt R)=l.map (·.1):=by
   show es.map _=_
   have dq:es.map ((fun p=>Go.intOf p.1) ∘ WideElems.rg P kt R)=(es.map (·.key)).map (fun v=>match v with | .int _ i=>i | _=>0):=by
    rw [List.map_map]
    refine List.map_congr_left fun x aL=>?_
    obtain ⟨i,eX,_,dp⟩:=rW x aL
    simp only [Function.comp,WideElems.rg_of dp,eX,az,Go.intOf]
   rw [dq,x8,List.map_map]
   rfl
  rw [this]
 have dZ:Maps.size oC=l.length:=by
  rw [tm]
  show ((es.toArray.toList.map (WideElems.rg P kt R)).foldr DataW.insert []).length=_
  rw [yi.length_eq,List.length_map]
  exact tD
 have FC:e<w.heap.size:=(Array.getElem?_eq_some_iff.1 h1.2).1
 have m4:w.cell? ⟨e,0,none⟩=some (.map (some b)):=by
  rw [cell_of_row w e 0 [Value.map (some b)].toArray qj (0,0) h1.2];rfl
 have Gb:SeqGives Fence.wide 2 P (ρk.f 10) #[.pointer (some ⟨e,0,none⟩)] encZ (fun ss=>ss.Perm (intKeys oC)) (Maps.size oC) w:=
  AnyZI.keys_gives (ρ:=ρk) { lg with } Fence.wide 2 trivial rfl (by omega) e b es.length oC w FC m4 (by rw [FY];exact eY)
 have DZ:=AnyZI.sorted_in iw Fence.wide 5 trivial trivial trivial trivial rfl (by omega) Gd xD (ρk.f 10) #[.pointer (some ⟨e,0,none⟩)] trivial eg _ _ (by rw [dZ];unfold maxLen;omega) (by rw [dZ];omega) w Gb
 refine Calls.mono (callsIn_wide.1 DZ) fun eN w' ⟨v,ss,he,bN,ym,_,au⟩=>?_
 have yn:ss.mergeSort (fun x y=>decide (x≤y))=(l.map (·.1)).mergeSort (fun x y=>decide (x≤y)):=mergeSort_of_perm_i (bN.trans rQ)
 have hlen:ss.length=((l.map (·.1)).mergeSort (fun x y=>decide (x≤y))).length:=by rw [← yn,List.length_mergeSort]
 rw [yn,hlen,fJ] at ym
 exact ⟨v,[],_,he,U.call (Qz au ym),rfl,rfl⟩
end Go.aJ
end
section
namespace Go.aJ
open Go Go.Sem
def jC(e:TypeId)(l:List UInt8)(cap:Nat):Obj:=.cells (l.map bf++List.replicate (cap-l.length) (Value.int .u8 0)).toArray e ((l.map bf++List.replicate (cap-l.length) (Value.int .u8 0)).length,(l.map bf++List.replicate (cap-l.length) (Value.int .u8 0)).length+1)
theorem JM{e:TypeId}{l:List UInt8}{cap b:Nat}(bu:l.length≤cap)(hl:l.length≤140737488355328):bg gE (dU b (jC e l cap)) (.slice (some ⟨b,0,none⟩) l.length cap) l:=
 ⟨hl,some ⟨b,0,none⟩,cap,rfl,bu,fun i xx aL=>by
  have aG:=(List.getElem?_eq_some_iff.1 aL).1
  refine ⟨b,0,(l.map bf++List.replicate (cap-l.length) (Value.int .u8 0)).toArray,e,_,[bf xx],rfl,by unfold dU jC;rw [if_pos rfl],⟨rfl,trivial⟩,fun j uu hu=>?_⟩
  cases j with
  | zero=>
   simp only [List.getElem?_cons_zero,Option.some.injEq] at hu
   subst hu
   show (l.map bf++List.replicate (cap-l.length) (Value.int .u8 0)).toArray[0+i*1+0]?=_
   rw [List.getElem?_toArray,List.getElem?_append_left (by rw [List.length_map];omega)]
   simp [aL]
  | succ j=>simp at hu⟩
section
variable {P:Program}{n:Nat}{w0:World}{zs:List aP}{hs:List av}{L:List (Nat×Value)}{d:Option Tmp}{ty t bZ:TypeId}{pos:String}{af:Array Edge}{g:Option (Nat×Bool)}
variable {x y c:Operand}{u v:Value}
theorem UE[aW]{e:TypeId}{s b s' gB lG lp:Nat}{zv lL lM:Value}(aM:a1 P t .string s b zv)(gh:a1 P bZ (.slice e) s' gB lL)(cg:a1 P e (.int .u8) lG lp lM){l:List UInt8}(h1:aU L x=some (vs l))(hl:l.length≤140737488355328) :
  e7 P n w0 zs hs L ⟨d,.convert t bZ x,ty,pos,af,g⟩ (fun v zs' hs'=>∃ b cap,v=.slice (some ⟨b,0,none⟩) l.length cap∧zs'=dU b (jC e l cap)::zs∧hs'=hs∧l.length≤cap∧∀ z∈zs,z b=none):=
 jD fun a a7 w hw=>by
  have dZ:(cP l).size=l.length:=by simp [ByteArray.size]
  have aY:=run_bytes_of_string (P:=P) w t bZ e (cP l) aM.und gh.und cg.und
  rw [dZ] at aY
  generalize rL:grownCap w l.length 0 e=cap at aY
  have FA:l.length≤cap:=by rw [← rL];exact grownCap_ge w l.length 0 e
  have tA:bytesRow (cP l) cap=(l.map bf++List.replicate (cap-l.length) (Value.int .u8 0)).toArray:=by
   unfold bytesRow
   rw [dZ]
   apply Array.ext'
   simp [bf]
  have yg:Obj.cells (bytesRow (cP l) cap) e ((bytesRow (cP l) cap).size,(bytesRow (cP l) cap).size+1)=jC e l cap:=by
   unfold jC
   rw [tA]
   simp
  rw [yg] at aY
  have fJ:=hw.frozen (w':=w.drew.alloc (jC e l cap)) (jC e l cap) (by simp) (fun b au=>heap_alloc_old w _ au) (heap_alloc_new w _) ⟨rfl,rfl,rfl⟩
  refine ⟨.slice (some ⟨w.heap.size,0,none⟩) l.length cap,dU w.heap.size (jC e l cap)::zs,hs,w.drew.alloc (jC e l cap),.inl ?_,⟨_,cap,rfl,rfl,rfl,FA,fun z bj=>?_⟩,fJ⟩
  ·simp only [execOp,a7.eval h1]
   rw [Sem.run_bind,aY]
   rfl
  ·cases fK:z w.heap.size with
   | none=>rfl
   | some o=>
    have:=kJ ((hw.zone z bj).1 _ o fK)
    omega
theorem UF[aW]{bM:TypeDesc}{bp:Nat}{zv:Value}(aM:a1 P t bM 1 bp zv){e:TypeId}{l:List UInt8}{b cap m j:Nat}{ub:UInt8}(h1:aU L x=some (c6 (.slice (some ⟨b,0,none⟩) m cap) (j*1)))(aq:aU L y=some (bf ub))(a6:j<l.length)(aT:∀ z∈zs,z b=none) :
  e7 P n w0 (dU b (jC e l cap)::zs) hs L ⟨d,.store t x y,ty,pos,af,g⟩ (fun dd zs' hs'=>dd=undef∧zs'=dU b (jC e (l.set j ub) cap)::zs∧hs'=hs):=
 jD fun a a7 w hw=>by
  have bj:=hw.zone (dU b (jC e l cap)) (by simp)
  have fK:dU b (jC e l cap) b=some (jC e l cap):=by unfold dU;rw [if_pos rfl]
  have au:w.heap[b]?=some (jC e l cap):=bj.1 _ _ fK
  have mu:=bj.2 _ _ fK
  unfold jC at au
  have hlen:(l.map bf++List.replicate (cap-l.length) (Value.int .u8 0)).length=l.length+(cap-l.length):=by simp
  have aL:a.eval x=.pointer (some ⟨b,j,none⟩):=(a7.eval h1).trans (by simp [c6,fm])
  have m4:w.cell? ⟨b,j,none⟩=some (bf (l.getD j 0)):=by
   rw [cell_of_row w b j _ e _ au,List.getElem?_toArray,List.getElem?_append_left (by simpa using a6),List.getElem?_map,List.getD_eq_getElem?_getD,List.getElem?_eq_getElem a6]
   rfl
  have Yz:w.frozen? ⟨b,j,none⟩=false:=by
   simp only [World.frozen?,au]
   have:¬ (l.map bf++List.replicate (cap-l.length) (Value.int .u8 0)).length≤j:=by rw [hlen];omega
   simp only [decide_eq_false this,Bool.false_and]
  have tW:=setCell_eq_setRow w b j _ e _ (bf ub) au
  have Mv:(store ⟨b,j,none⟩ (bf ub)).run P w=.ok () (w.setRow b ((l.map bf++List.replicate (cap-l.length) (Value.int .u8 0)).toArray.setIfInBounds j (bf ub))):=by
   rw [run_store P w _ _ _ rfl,m4]
   simp only [Yz,tW]
   rfl
  have Y1:((l.map bf++List.replicate (cap-l.length) (Value.int .u8 0)).toArray.setIfInBounds j (bf ub))=((l.set j ub).map bf++List.replicate (cap-(l.set j ub).length) (Value.int .u8 0)).toArray:=by
   apply Array.ext'
   rw [Array.toList_setIfInBounds]
   simp only [List.length_set]
   rw [List.set_append_left _ _ (by simpa using a6),List.map_set]
  have fB:(w.setRow b ((l.map bf++List.replicate (cap-l.length) (Value.int .u8 0)).toArray.setIfInBounds j (bf ub))).heap[b]?=some (jC e (l.set j ub) cap):=by
   rw [setRow_heap w b _ _ e _ au,Y1]
   unfold jC
   simp only [List.length_set,List.length_append,List.length_map,List.length_replicate]
  generalize tY:w.setRow b ((l.map bf++List.replicate (cap-l.length) (Value.int .u8 0)).toArray.setIfInBounds j (bf ub))=lJ at Mv fB
  have F3:∀ k,k≠b→lJ.heap[k]?=w.heap[k]?:=fun k aD=>by
   rw [← tY];exact setRow_other w b k _ aD
  have ak1:lJ.heap.size=w.heap.size:=by rw [← tY];simp
  have qF:ma w lJ:=by rw [← tY];exact ⟨rfl,rfl,rfl⟩
  refine ⟨undef,dU b (jC e (l.set j ub) cap)::zs,hs,lJ,.inr ⟨?_,rfl⟩,⟨rfl,rfl,rfl⟩,?_⟩
  ·simp only [execOp,aL,a7.eval aq]
   have ZE:(storeVar t ⟨b,j,none⟩ (bf ub)).run P w=.ok () lJ:=by
    have bu:(bf ub).cells=#[bf ub]:=rfl
    have js:(⟨b,j,none⟩:Addr).add 0=⟨b,j,none⟩:=by rw [fm];rfl
    simp [storeVar,aM.sizeOf,bu,storeCells,js,Mv]
   simp [Instr.storeAt,Instr.sureAddr,ZE]
  ·refine ⟨fun k o aD=>?_,fun z r1=>?_,fun r aY=>⟨av.uh (hw.own r aY).1 fun k aD=>?_,fun k aD z r1=>?_⟩,hw.nd,hw.io.trans qF⟩
   ·have:=kJ aD
    show lJ.heap[k]?=some o
    rw [F3 k (by omega)]
    exact hw.ext k o aD
   ·rcases List.mem_cons.1 r1 with rfl | r1
    ·refine ⟨fun k o aD=>?_,fun k o aD=>?_⟩
     ·obtain ⟨rfl,rfl⟩:=r8 aD
      exact fB
     ·obtain ⟨rfl,_⟩:=r8 aD
      exact mu
    ·have aQ:=hw.zone z (List.mem_cons_of_mem _ r1)
     refine ⟨fun k o aD=>?_,aQ.2⟩
     have qH:k≠b:=fun e=>by rw [e,aT z r1] at aD;cases aD
     show lJ.heap[k]?=some o
     rw [F3 k qH]
     exact aQ.1 k o aD
   ·have:=(hw.own r aY).2 k aD (dU b (jC e l cap)) (by simp)
    refine F3 k fun e=>?_
    rw [e,fK] at this
    cases this
   ·rcases List.mem_cons.1 r1 with rfl | r1
    ·have:=(hw.own r aY).2 k aD (dU b (jC e l cap)) (by simp)
     unfold dU at this ⊢
     split at this
     ·cases this
     ·rw [if_neg ‹_›]
    ·exact (hw.own r aY).2 k aD z (List.mem_cons_of_mem _ r1)
theorem adR[aW]{e:TypeId}{s b:Nat}{zv:Value}(aM:a1 P t (.pointer e) s b zv){p:Option Addr}(h1:aU L x=some (.pointer p))(aq:aU L y=some (.pointer none)) :
  bL P n w0 zs hs L ⟨d,.binOp .neq t x y bZ,ty,pos,af,g⟩ (.bool (!p.isNone)):=
 e0 h1 aq Kz fun w=>by
  simp only [binOp]
  simp [Op.equal,Op.maxDepth,KA 9999 aM.und p w]
theorem OX[aW]{e:TypeId}{s b:Nat}{zv:Value}(aM:a1 P t (.pointer e) s b zv){a:Addr}(h1:aU L x=some (.pointer (some a)))(aq:aU L y=some (.pointer none)) :
  bL P n w0 zs hs L ⟨d,.binOp .neq t x y bZ,ty,pos,af,g⟩ (.bool true):=adR aM h1 aq
theorem p1[aW]{e:TypeId}{s b:Nat}{zv:Value}(aM:a1 P t (.pointer e) s b zv){a:Addr}(h1:aU L x=some (.pointer (some a)))(aq:aU L y=some (.pointer none)) :
  bL P n w0 zs hs L ⟨d,.binOp .eql t x y bZ,ty,pos,af,g⟩ (.bool false):=ui aM h1 aq
end
end Go.aJ
end
section
namespace Go.aJ
section
variable {P:Program}{n:Nat}{w0:World}{zs:List aP}{hs:List av}{L:List (Nat×Value)}{d:Option Tmp}{ty t:TypeId}{pos:String}{af:Array Edge}{g:Option (Nat×Bool)}{x y Dj c:Operand}{v:Value}
theorem wb[aW]{m:Nat}{e:TypeId}{s bp:Nat}{zv:Value}(aM:a1 P t (.array m e) s bp zv){de:TypeDesc}{se be:Nat}{ze:Value}(cg:a1 P e de se be ze){b off:Nat}{k iH:IntKind}{i j:Int}(h1:aU L x=some (.pointer (some ⟨b,off,none⟩)))(aq:aU L y=some (.int k i))(aQ:aU L Dj=some (.int iH j))(au:0≤i∧i≤j∧i<m∧j≤m) :
  bL P n w0 zs hs L ⟨d,.slice t x (some y) (some Dj) none,ty,pos,af,g⟩ (.slice (some ⟨b,off+i.toNat*se,none⟩) (j.toNat-i.toNat) (m-i.toNat)):=
 eC fun a a7 w hw=>by
  simp only [execOp,a7.eval h1,Option.map_none,Option.map_some,a7.eval aq,a7.eval aQ]
  have bK:(Instr.sliceBound (.int iH j) m .sliceAlen).run P w=.ok j.toNat w:=run_sliceBound (P:=P) (w:=w) iH j m .sliceAlen (by omega) (by omega)
  have bV:(Instr.sliceBound (.int k i) j.toNat .sliceB).run P w=.ok i.toNat w:=run_sliceBound (P:=P) (w:=w) k i j.toNat .sliceB (by omega) (by omega)
  have aQ:¬ (m=i.toNat):=by omega
  simp [Instr.sliceAt,Instr.sureAddr,run_underlying aM.und,Instr.sliceBounds,cg.sizeOf,fm,bK,bV,aQ]
theorem adw[aW]{e:TypeId}{s bp:Nat}{zv:Value}(aM:a1 P t (.slice e) s bp zv){de:TypeDesc}{be:Nat}{ze:Value}(cg:a1 P e de 1 be ze){b off m cc:Nat}{i:Int}{k:IntKind}(h1:aU L x=some (.slice (some ⟨b,off,none⟩) m cc))(aq:aU L y=some (.int k i))(au:0≤i∧i<m) :
  bL P n w0 zs hs L ⟨d,.indexAddr t x y,ty,pos,af,g⟩ (.pointer (some ⟨b,off+i.toNat,none⟩)):=
 eC fun a a7 w hw=>by
  simp only [execOp,a7.eval h1,a7.eval aq]
  simp [Instr.indexAt,asIntOf,run_underlying aM.und,au,cg.sizeOf,fm]
theorem mY{w:World}(U:aC w0 zs hs w)(k:Nat){b off m cc:Nat}{bt:TypeId}{xs:List UInt8}(aD:hs[k]?=some (.blk b bt (xs.map bf)))(h:off+m≤xs.length∧m≤cc∧xs.length≤140737488355328) :
  bg gE (b1 w) (.slice (some ⟨b,off,none⟩) m cc) (List.drop off (List.take (off+m) xs)):=by
 have e:List.drop off (List.take (off+m) xs)=(xs.drop off).take m:=by rw [List.drop_take];congr 1;omega
 have hl:((xs.drop off).take m).length=m:=by rw [List.length_take,List.length_drop];omega
 rw [e]
 exact JL (f:=bf) (p:=fun _=>True) (h0:=fun _=>rfl) (xs:=(xs.drop off).take m) U k aD (by rw [List.map_take,List.map_drop]) ⟨hl.symm,h.2.1,by omega⟩ (fun _ _=>trivial)
theorem Uz[aW]{e sT:TypeId}{s bp:Nat}{zv:Value}(aM:a1 P t (.slice e) s bp zv){de:TypeDesc}{be:Nat}{ze:Value}(cg:a1 P e de 1 be ze)(k:Nat){b off dl dc:Nat}{bt:TypeId}{xs tx:List UInt8}
  (h1:aU L x=some (.slice (some ⟨b,off,none⟩) dl dc)) (aq:aU L y=some (vs tx)) (aD:hs[k]?=some (.blk b bt (xs.map bf))) (hl:off+dl≤xs.length) :
  e7 P n w0 zs hs L ⟨d,.call ⟨.builtin .copy,#[x,y],#[t,sT]⟩,ty,pos,af,g⟩ (fun v zs' hs'=>v=az (min tx.length dl)∧zs'=zs∧hs'=hs.set k (.blk b bt ((xs.take off++tx.take (min tx.length dl)++xs.drop (off+min tx.length dl)).map bf))):=
 jD fun a a7 w hw=>by
  have au:=(hw.own _ (List.mem_of_getElem? aD)).1
  have aY:=P8 (sT:=sT) aM cg (w:=w) (off:=off) (dl:=dl) (dc:=dc) tx au.2 (by simp;omega) ty
  have he:(List.take off (xs.map bf)++List.map bf (List.take (min tx.length dl) tx)++List.drop (off+min tx.length dl) (xs.map bf))=(xs.take off++tx.take (min tx.length dl)++xs.drop (off+min tx.length dl)).map bf:=by
   simp
  have U:=hw.store (off:=off) (c:=(tx.take (min tx.length dl)).map bf) aD (by simp;omega)
  rw [show ((tx.take (min tx.length dl)).map bf).length=min tx.length dl by simp] at U
  rw [he] at aY U
  generalize w.setRow b _=lJ at aY U
  refine ⟨_,zs,_,_,.inl ?_,⟨rfl,rfl,rfl⟩,U⟩
  simp only [execOp,resolve]
  simp [invoke,builtin,a7.eval h1,a7.eval aq,aY]
theorem Uy[aW]{e sT:TypeId}{s bp:Nat}{zv:Value}(aM:a1 P t (.slice e) s bp zv){de:TypeDesc}{be:Nat}{ze:Value}(cg:a1 P e de 1 be ze)(q ck:Nat){b dk off dl dc sl sc:Nat}{bt JN:TypeId}{xs ys:List UInt8}
  (h1:aU L x=some (.slice (some ⟨b,off,none⟩) dl dc)) (aq:aU L y=some (.slice (some ⟨dk,0,none⟩) sl sc)) (cn:hs[q]?=some (.blk b bt (xs.map bf))) (vF:hs[ck]?=some (.blk dk JN (ys.map bf))) (hl:off+dl≤xs.length) (aQ:dl≤sl) (bH:dl≤ys.length) :
  e7 P n w0 zs hs L ⟨d,.call ⟨.builtin .copy,#[x,y],#[t,sT]⟩,ty,pos,af,g⟩ (fun v zs' hs'=>v=az dl∧zs'=zs∧hs'=hs.set q (.blk b bt ((xs.take off++ys.take dl++xs.drop (off+dl)).map bf))):=
 jD fun a a7 w hw=>by
  have au:=(hw.own _ (List.mem_of_getElem? cn)).1.2
  have Ge:=(hw.own _ (List.mem_of_getElem? vF)).1.2
  have fb:((ys.take dl).map bf).length=dl:=by rw [List.length_map,List.length_take];omega
  have U:=hw.store (off:=off) (c:=(ys.take dl).map bf) cn (by rw [fb,List.length_map];omega)
  have he:(List.take off (xs.map bf)++(ys.take dl).map bf++List.drop (off+dl) (xs.map bf))=(xs.take off++ys.take dl++xs.drop (off+dl)).map bf:=by simp
  rw [fb,he] at U
  cases tS:P.info? e with
  | none=>have:=cg.inf;simp [tS] at this
  | some ii=>
   have FM:ii.size=1:=by have:=cg.inf;simp [tS] at this;exact this.1
   have aY:=run_copy_row (P:=P) w t sT ty e b off dl dc ⟨dk,0,none⟩ sl sc (xs.map bf).toArray bt ((ys.take dl).map bf) aM.und (by simp [tS,FM]) au (by rw [fb];show dl=min sl dl;omega) (fun j vv a6=>by
    rw [fm,cell_of_row w dk _ _ JN (0,0) Ge]
    rw [List.map_take] at a6
    have tJ:j<dl:=by have:=(List.getElem?_eq_some_iff.1 a6).1;rw [List.length_take,List.length_map] at this;omega
    rw [List.getElem?_take_of_lt tJ] at a6
    simpa using a6) (by rw [fb];simp;omega) (fun vv bx=>by
    obtain ⟨bb,_,rfl⟩:=List.mem_map.1 bx
    rfl)
   rw [fb] at aY
   simp only [List.toList_toArray] at aY
   rw [he] at aY
   refine ⟨_,zs,_,_,.inl ?_,⟨rfl,rfl,rfl⟩,U⟩
   simp only [execOp,resolve]
   simp only [invoke,builtin,Sem.run_bind,Sem.run_pure,Result.andThen_ok,List.map_toArray,List.map_cons,List.map_nil,a7.eval h1,a7.eval aq]
   rw [aY];rfl
end
def xj(P:Program)(Y:Value)(vs:List Value)(I J:World→Prop):Prop:=
 ∀ w,I w→∃ (l:Nat) (f:FuncId) (tmps:Array Value) (assign body:Code),Y=.func (.yield l) #[] #[]∧(Instr.yield l vs.toArray).run P w=.ok (.round l f tmps assign body) w ∧
  ∀ m,RoundIn (gA none) m P l f tmps assign body w fun e w'=>e=.returned (.bool true)∧J w'
section
variable {P:Program}{n:Nat}{w0:World}{zs:List aP}{L:List (Nat×Value)}
def kx:List Tmp→List Value→List (Nat×Value)→List (Nat×Value)
 | p::ps,v::vs,L=>kx ps vs ((p,v)::L)
 | _,_,L=>L
theorem EP[I:aW]:∀ (ps:List Tmp) (vs:List Value) (L:List (Nat×Value)) (a:Act),ps.all (fun p=>Nat.blt p n)=true→ps.length=vs.length→Fr n L a→Fr n (kx ps vs L) { tmps:=(ps.zip vs).foldl (fun tmps (x:Tmp×Value)=>tmps.setIfInBounds x.1 x.2) a.tmps,defers:=a.defers }
 | [],[],L,a,_,_,h=>⟨h.size,h.nodef,h.get⟩
 | p::ps,v::vs,L,a,bN,hl,h=>by
  simp only [List.all_cons,Bool.and_eq_true] at bN
  exact EP ps vs ((p,v)::L) (a.put p v) bN.2 (by simpa using hl) (h.put (Nat.blt_eq.mp bN.1))
 | [],_::_,_,_,_,hl,_=>by simp at hl
 | _::_,[],_,_,_,hl,_=>by simp at hl
theorem IB{γ ξ:Type}{g:Operand}{ps:List Tmp}{asg:Code}{body:Code}{Q:Exit→Act→World→Prop}{a:Act}{w:World}{gf:FuncId}{cs:List Value}(fP:γ→List av)(inv:Nat→γ→Prop)(N:Nat)(it:Nat→List Value)(hO:γ)(fM:Nat→γ→ξ→List (Nat×Value))(cV:Nat→γ→ξ→List av)
  (ab:Fr n L a) (U:aC w0 zs (fP hO) w) (aO:aU L g=some (.func (.func gf) #[] cs.toArray)) (bN:ps.all (fun p=>Nat.blt p n)=true) (hK:∀ k,(it k).length=ps.length) (bw:bU P gf) (h0:inv 0 hO)
  (Ft:∀ (ro:Option Nat) (m:Nat) (jl dD:aP) (k:Nat) (r:γ) (a:Act) (w:World),k<N→inv k r→Fr n (kx ps (it k) L) a→aC w0 (jl::dD::zs) (fP r) w→asg.wpIn (gA ro) m P (j2 fun a w=>∃ x,Fr n (fM k r x) a∧aC w0 (jl::dD::zs) (cV k r x) w) a w)
  (jv:∀ (Y:Value) (dj:List aP),(∀ z∈zs,z∈dj)→(∀ k r,k<N→inv k r→xj P Y (it k) (aC w0 dj (fP r)) fun w'=>∃ eR,inv (k+1) eR∧aC w0 dj (fP eR) w') →
   ∀ w,aC w0 dj (fP hO) w→Calls P gf (Y::cs).toArray w fun e w'=>(∃ v,e=.returned v)∧∃ r,inv N r∧aC w0 dj (fP r) w')
  (Fx:∀ (l m:Nat) (jl dD:aP) (k:Nat) (r:γ) (x:ξ) (a:Act) (w:World),k<N→inv k r→Fr n (fM k r x) a→aC w0 (jl::dD::zs) (cV k r x) w →
   body.wpIn (gA (some l)) m P (j2 fun _ w'=>∃ eR,inv (k+1) eR∧aC w0 (jl::dD::zs) (fP eR) w') a w)
  (dE:∀ (I:aW) (D:Nat) (dD:aP) (a:Act) (w:World) (r:γ),(∀ z∈zs,z D=none)→I.ds=[{ target:=.collected D,args:=#[] }]→dD=dU D (.deferred (some []))→inv N r→Fr (I:=I) n L a→aC w0 (dD::zs) (fP r) w→Q .normal a w) :
  (Code.rangeFunc g ps.toArray asg body).wp P Q a w:=by
 refine wpIn_wide (n:=0).1 (wpIn_rangeFunc ?_)
 intro fn _
 obtain ⟨rec,kW⟩:∃ rec:LoopState→Option Code→Loop,rec=fun st pe=>{ state:=st,pending:=pe,fn,tmps:=a.tmps,params:=ps.toArray,assign:=asg,body,defers:=w.heap.size }:=⟨_,rfl⟩
 have r2:∀ b,w.heap.size≤b→∀ z∈zs,z b=none:=fun b au z bj=>by
  cases fK:z b with
  | none=>rfl
  | some o=>exact absurd (kJ ((U.zone z bj).1 b o fK)) (by omega)
 have qB:aC w0 (dU w.heap.size (.deferred (some []))::zs) (fP hO) (w.alloc (.deferred (some []))):=
  U.frozen _ (by simp) (fun b au=>heap_alloc_old w _ au) (heap_alloc_new w _) ⟨rfl,rfl,rfl⟩
 have ny:aC w0 (dU (w.heap.size+1) (.loop (rec .ready none))::dU w.heap.size (.deferred (some []))::zs) (fP hO) ((w.alloc (.deferred (some []))).alloc (.loop (rec .ready none))):=by
  have:=qB.frozen (w':=(w.alloc (.deferred (some []))).alloc (.loop (rec .ready none))) (.loop (rec .ready none)) (by simp) (fun b au=>heap_alloc_old _ _ au) (heap_alloc_new _ _) ⟨rfl,rfl,rfl⟩
  rwa [World.size_alloc] at this
 obtain ⟨dD,r0⟩:∃ z,z=dU w.heap.size (.deferred (some [])):=⟨_,rfl⟩
 have qM:∀ z∈dD::zs,z (w.heap.size+1)=none:=by
  intro z bj
  rcases List.mem_cons.1 bj with rfl | bj
  ·rw [r0];unfold dU;rw [if_neg (by omega)]
  ·exact r2 _ (by omega) z bj
 rw [← r0] at ny
 generalize Fq:(w.alloc (.deferred (some []))).alloc (.loop (rec .ready none))=ql at ny
 obtain ⟨fnr,FF,FG,FH⟩:=bw
 refine ⟨w.heap.size+1,[{ target:=.collected w.heap.size,args:=#[] }],ql, { target:=.fn (.func gf) cs.toArray,args:=#[.func (.yield (w.heap.size+1)) #[] #[]] },ql,gf,
  (.func (.yield (w.heap.size+1)) #[] #[]::cs).toArray,ql,?_,?_,fun _ _=>trivial,?_,fun h=>(by cases h),?_⟩
 ·rw [← Fq,kW];exact run_enterLoop_outer _ _ _ _ _
 ·have he:=ab.eval aO
  simp only [resolve,rangeCall,he]
  simp [Deferred.ofValue,Act.eval]
 ·simp only [invoke,Sem.run_bind,Sem.run_pure,Result.andThen_ok,callFunc,run_program,FF,FG,FH]
  simp
 ·refine (Au (ro:=none) (jv (.func (.yield (w.heap.size+1)) #[] #[]) (dU (w.heap.size+1) (.loop (rec .ready none))::dD::zs) (fun z bj=>List.mem_cons_of_mem _ (List.mem_cons_of_mem _ bj)) ?_ ql ny)).mono ?_
  ·
   intro k r aD aG W eE
   have hl:W.heap[w.heap.size+1]?=some (.loop (rec .ready none)):=(eE.zone _ List.mem_cons_self).1 _ _ (by unfold dU;rw [if_pos rfl])
   have cS:=run_yield (P:=P) (args:=(it k).toArray) hl (by rw [kW];simp [hK k])
   rw [kW] at cS
   refine ⟨_,fn,_,_,body,rfl,cS,fun m=>roundIn_of_wpIn (l:=w.heap.size+1) trivial ?_⟩
   have E6:Fr n (kx ps (it k) L) { tmps:=(ps.toArray.zip (it k).toArray).foldl (fun tmps (x:Tmp×Value)=>tmps.setIfInBounds x.1 x.2) a.tmps,defers:=[] }:=by
    have h1:=EP ps (it k) L { tmps:=a.tmps,defers:=[] } bN (hK k).symm ⟨ab.size,rfl,ab.get⟩
    have e:(ps.toArray.zip (it k).toArray).foldl (fun tmps (x:Tmp×Value)=>tmps.setIfInBounds x.1 x.2) a.tmps=(ps.zip (it k)).foldl (fun tmps (x:Tmp×Value)=>tmps.setIfInBounds x.1 x.2) a.tmps:=by
     simp
    rw [e]
    exact h1
   refine wpIn_mono (Ft (some (w.heap.size+1)) _ _ _ k r _ _ aD aG E6 eE) fun e fl uI yk=>?_
   obtain ⟨rfl,x,mj,qB⟩:=yk
   have rT:uI.heap[w.heap.size+1]?=some (.loop (rec .ready none)):=(qB.zone _ List.mem_cons_self).1 _ _ (by unfold dU;rw [if_pos rfl])
   refine ⟨_,run_beginRound rT (by rw [kW]),?_⟩
   have ny:=qB.swap qM (.loop { rec .ready none with state:=.busy })
   refine wpIn_mono (Fx _ m _ dD k r x fl _ aD aG mj ny) fun e a3 wO cn=>?_
   obtain ⟨rfl,eR,vy,rI⟩:=cn
   have ya:wO.heap[w.heap.size+1]?=some (.loop { rec .ready none with state:=.busy }):=(rI.zone _ List.mem_cons_self).1 _ _ (by unfold dU;rw [if_pos rfl])
   have x0:=run_endRound (P:=P) none ya
   refine ⟨_,_,x0,rfl,eR,vy,?_⟩
   have:=rI.swap qM (.loop (rec .ready none))
   rw [kW] at this ⊢
   exact this
  ·rintro e Ad ⟨⟨v,rfl⟩,r,aG,rH⟩
   have hl:Ad.heap[w.heap.size+1]?=some (.loop (rec .ready none)):=(rH.zone _ List.mem_cons_self).1 _ _ (by unfold dU;rw [if_pos rfl])
   refine ⟨none,_,(by have:=run_endLoop (P:=P) hl (by rw [kW];simp);rw [kW] at this;exact this),?_⟩
   have fO:a.defers=[]:=ab.nodef
   refine dE ⟨[{ target:=.collected w.heap.size,args:=#[] }]⟩ w.heap.size dD _ _ r (fun z bj=>r2 _ (Nat.le_refl _) z bj) rfl r0 aG (@Fr.mk ⟨[{ target:=.collected w.heap.size,args:=#[] }]⟩ n L _ ab.size (by rw [fO];rfl) ab.get) (((rH.swap qM _)).ak (List.sublist_cons_self _ _) (List.Sublist.refl _))
theorem IH[aW]{hs:List av}{ops:Array Oper}{Q:Exit→Act→World→Prop}{d:Tmp}{ty:TypeId}{pos:String}{af:Array Edge}{gd:Option (Nat×Bool)}{x:Operand}{ys:List Operand}{ats:Array TypeId}{rest:List Oper}{Y:Value}{vs:List Value}{J:World→Prop}{a:Act}{w:World}
  (aT:Nat.blt d n=true) (hw:Region.wanted ⟨some d,.call ⟨.value x,ys.toArray,ats⟩,ty,pos,af,gd⟩ (yielded ops a.tmps)=true) (ab:Fr n L a) (U:aC w0 zs hs w) (h1:aU L x=some Y) (aq:ys.map (aU L)=vs.map some) (kC:xj P Y vs (aC w0 zs hs) J)
  (K:∀ a w,Fr n ((d,.bool true)::L) a→J w→wpListIn (gA none) 0 P ops Q rest a w):wpListIn (gA none) 0 P ops Q (⟨some d,.call ⟨.value x,ys.toArray,ats⟩,ty,pos,af,gd⟩::rest) a w:=by
 obtain ⟨l,f,tmps,assign,body,rfl,cS,aY⟩:=kC w U
 unfold wpListIn
 simp only [hw,if_true]
 refine ⟨fun _ _=>trivial,?_⟩
 rw [show (gA none).round=none from rfl,Oper.semAt_none]
 have tE:∀ (ys:List Operand) (vs:List Value),ys.map (aU L)=vs.map some→ys.map a.eval=vs:=by
  intro ys
  induction ys with
  | nil=>intro vs h;cases vs with
   | nil=>rfl
   | cons=>simp at h
  | cons y ys ih=>intro vs h;cases vs with
   | nil=>simp at h
   | cons v vs=>
    simp only [List.map_cons,List.cons.injEq] at h
    rw [List.map_cons,ab.eval h.1,ih vs h.2]
 have he:(execOp a.eval ⟨some d,.call ⟨.value x,ys.toArray,ats⟩,ty,pos,af,gd⟩).run P w=.ok (.round l f tmps assign body) w:=by
  simp only [execOp]
  simp only [resolve,ab.eval h1,Deferred.ofValue,invoke,Sem.run_bind,Sem.run_pure,Result.andThen_ok]
  rw [List.map_toArray,tE ys vs aq]
  simp [cS]
 rw [he]
 refine ⟨fun iA=>(by cases iA),(aY _).mono fun e w' ⟨he,a6⟩=>?_⟩
 subst he
 exact K _ _ (ab.put (Nat.blt_eq.mp aT)) a6
theorem l9.Wz{f:FuncId}{args:List Value}{bP:List aP}{b8 hO:av}{cw:List av}{J:av→Prop}(h:l9 P f args w0 bP [b8,hO] cw (fun _ dj cV=>dj=[]∧∃ r,cV=[b8,r]∧J r))(w:World)(U:aC w0 bP (b8::hO::cw) w) :
  Calls P f args.toArray w fun e w'=>(∃ v,e=.returned v)∧∃ r,J r∧aC w0 bP (b8::r::cw) w':=
 Calls.mono (h w U) fun e w' ⟨v,dj,cV,he,ju,h1,r,aq,aQ⟩=>by
  subst h1 aq
  exact ⟨⟨v,he⟩,r,aQ,ju⟩
end
end Go.aJ
end
section
namespace Go.aJ
section
variable {P:Program}{n:Nat}{w0:World}{zs:List aP}{hs:List av}{L:List (Nat×Value)}{d:Option Tmp}{ty t bZ:TypeId}{pos:String}{af:Array Edge}{g:Option (Nat×Bool)}{x y Dj c:Operand}{v:Value}
theorem adk[aW]{xs:List UInt8}{e:TypeId}{b off m c:Nat}{bt:TypeId}{s bp s' gB lG lp:Nat}{zv lL lM:Value}(aM:a1 P t (.slice e) s bp zv)(gh:a1 P bZ .string s' gB lL)(cg:a1 P e (.int .u8) lG lp lM)(k:Nat)(h1:aU L x=some (.slice (some ⟨b,off,none⟩) m c))(aD:hs[k]?=some (.blk b bt (xs.map bf)))(hm:off+m≤xs.length) :
  bL P n w0 zs hs L ⟨d,.convert t bZ x,ty,pos,af,g⟩ (vs (List.drop off (List.take (off+m) xs))):=by
 have e:List.drop off (List.take (off+m) xs)=(xs.drop off).take m:=by rw [List.drop_take];congr 1;omega
 have hl:((xs.drop off).take m).length=m:=by rw [List.length_take,List.length_drop];omega
 rw [e]
 have xM:aU L x=some (.slice (some ⟨b,off,none⟩) ((xs.drop off).take m).length c):=by rw [hl];exact h1
 exact OI (xs:=(xs.drop off).take m) aM gh cg k xM aD (by rw [hl,List.map_take,List.map_drop])
theorem ad5[aW]{p q r:Int}{bZ:TypeId}(h1:aU L x=some (az p))(aq:aU L y=some (az q))(au : -9223372036854775808≤p-q∧p-q≤9223372036854775807)(aY:p-q=r):bL P n w0 zs hs L ⟨d,.binOp .sub t x y bZ,ty,pos,af,g⟩ (az r):=aY ▸ na h1 aq au
end
end Go.aJ
end
