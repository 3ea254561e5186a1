/- A text of a proof over this seat: walks over the program's functions and the plain laws that they need. -/
import Derived.Test.YtplceoanaoeejaaQp4
import Derived.Test.YtplceoanaoeejaaGpA
import Derived.Test.YtplceoanaoeejaaFwC
import Derived.Test.YtplceoanaoeejaaFwB
set_option linter.all false
namespace Go.Proofs.Ytplceoanaoeejaa
open Go.Fw
theorem ty74 : Tf Try.prog 74 (.map 3 4) 1 8 (Value.map none) := ⟨Try.underlying74, by kernel_rfl⟩

/-- What test makes of what it is lent. -/
def TestR (xN xS xB : Value) (xs : List Int) (base : Int) (xD : Value) (e6 e7 e8 e9 bm : Nat) (b : Bool) (A : List Int) : Value → List PH → List Res → Prop := fun r zs hs => ∃ uA es ec, r = .bool b ∧ zs = [] ∧ Gp.KnOk xs base A es ∧ hs = [.blk e6 74 [.map (some bm)], .mp bm es ec, .blk e7 22 [uA], .row uA 3 1 (A).length ((A).map vi), .blk e8 31 [xN, xS, xB], .blk e9 68 [xN, xS, xB, xD]]
/-- What row makes of what it is lent. -/
def RowR (xN xS xB : Value) (xs : List Int) (base : Int) (cV xD : Value) (e1 e2 e3 e4 e5 e6 e7 e8 e9 bm : Nat) (σ : Int × List Int × List Int) : Value → List PH → List Res → Prop := fun r zs hs => ∃ uT uA es ec, r = .tuple ([] : List Value).toArray ∧ zs = [] ∧ Gp.KnOk xs base σ.2.2 es ∧ hs = [.blk e1 3 [vi (σ.1)], .blk e2 35 [vi base, cV], .blk e3 71 [.func (.func 36) (List.nil : List Value).toArray [Value.pointer (some ⟨e6, 0, none⟩), Value.pointer (some ⟨e8, 0, none⟩), Value.pointer (some ⟨e7, 0, none⟩), Value.pointer (some ⟨e9, 0, none⟩)].toArray], .blk e4 22 [uT], .blk e5 75 [.func (.func 37) (List.nil : List Value).toArray [Value.pointer (some ⟨e1, 0, none⟩), Value.pointer (some ⟨e2, 0, none⟩), Value.pointer (some ⟨e3, 0, none⟩), Value.pointer (some ⟨e4, 0, none⟩), Value.pointer (some ⟨e5, 0, none⟩)].toArray], .row uT 3 1 (σ.2.1).length ((σ.2.1).map vi), .blk e6 74 [.map (some bm)], .mp bm es ec, .blk e7 22 [uA], .row uA 3 1 (σ.2.2).length ((σ.2.2).map vi), .blk e8 31 [xN, xS, xB], .blk e9 68 [xN, xS, xB, xD]]
theorem row_of {xN xS xB : Value} {xs : List Int} {base : Int} {cV xD : Value} {e1 e2 e3 e4 e5 e6 e7 e8 e9 bm : Nat} {σ σ' : Int × List Int × List Int} {r : Value} {zs : List PH} {hs : List Res} (h : RowR xN xS xB xs base cV xD e1 e2 e3 e4 e5 e6 e7 e8 e9 bm σ r zs hs) (e : σ' = σ) : RowR xN xS xB xs base cV xD e1 e2 e3 e4 e5 e6 e7 e8 e9 bm σ' r zs hs := e ▸ h

set_option maxRecDepth 4000 in
set_option maxHeartbeats 2000000 in
theorem test_ct (xN xS xB : Value) (xs : List Int) (xb : List Bool) (base : Int) (xD : Value) (bs : List Bool) (e6 e7 e8 e9 bm : Nat) (hq1 : xb.length = xs.length) (hq2 : bs.length = xs.length) (w0 : World) (zsr : List PH) (hxn : xN.oneCell' = true) (hxs : Sl encI (ph w0) xS xs) (hxb : Sl encT (ph w0) xB xb) (hbs : Sl encT (ph w0) xD bs) (t : Int) (A : List Int) (uA : Value) (es : List MapEntry) (ec : Nat) (ht9 : -9223372036854775808 ≤ t ∧ t ≤ 9223372036854775807) (hAl : A.length ≤ 1000) (hKn : Gp.KnOk xs base A es) : Cx Try.prog 36 [vi t, .pointer (some ⟨e6, 0, none⟩), .pointer (some ⟨e8, 0, none⟩), .pointer (some ⟨e7, 0, none⟩), .pointer (some ⟨e9, 0, none⟩)] w0 zsr [.blk e6 74 [.map (some bm)], .mp bm es ec, .blk e7 22 [uA], .row uA 3 1 (A).length ((A).map vi), .blk e8 31 [xN, xS, xB], .blk e9 68 [xN, xS, xB, xD]] (TestR xN xS xB xs base xD e6 e7 e8 e9 bm ((Gp.gd xs xb bs) t) (Gp.ask xs base A t)) := by
 refine fn_enterx Try.func36 rfl Try.ntmps36 (Nat.le_of_ble_eq_true rfl) fun hsr a w hF hS => ?_
 replace hS : St _ (_) (_ :: _ :: _ :: _ :: _ :: _ :: _) _ := hS
 have hsl := hxs.1
 obtain ⟨ml, kb, hMm, hKB, hKI⟩ := hKn
 refine wp_seq_k ?_; intro K1 hK1
 refine reg hF hS (sq rfl (q_assign rfl) <|
   sq_end) ?_
 clear hF hS; intro a w hF hS
 refine hK1 _ _ ?_
 clear hK1
 obtain ⟨hs0, hhs0, hS⟩ : ∃ h, h = _ ∧ St _ _ h _ := ⟨_, rfl, hS⟩
 refine wp_cutx (γ := Value × List Int) (fun (gg : Value × List Int) => match gg with | (uB, A2) => []) [(0, _), (1, _), (4, _)] (fun (gg : Value × List Int) => match gg with | (uB, A2) => ((hs0.set 2 (.blk e7 22 [uB])).set 3 (.row uB 3 1 (A2).length ((A2).map vi)))) (fun (gg : Value × List Int) => match gg with | (uB, A2) => A2 = Gp.ask xs base A t) (hF.sub ⟨rfl, rfl, rfl, trivial⟩) hS ?_ ?_
 ·subst hhs0
  refine wp_seq_k ?_; intro K2 hK2
  refine regl ?_
  refine wpl_sq hF hS (sq rfl (q_ld_blk1 ty74 0 rfl rfl rfl rfl) <|
    sq rfl (q_move rfl) <|
    sq rfl (q_lookupB ty74 ty4 (key_I ty3) 1 rfl rfl rfl hMm (fun _ _ => trivial) trivial (hKB t)) <|
    sq rfl (q_not rfl) <|
    sq rfl (q_move rfl) <|
    sq_end) ?_
  clear hF hS; intro a w hF hS
  refine wpl_and 4 11 4 hF hS rfl rfl rfl rfl rfl (fun hg => have hg := hg; sq_go 11 rfl rfl rfl (q_ld_blkW ty31 4 rfl rfl bQ rfl) <|
    sq_go 11 rfl rfl rfl (q_move rfl) <|
    sq_go 11 rfl rfl rfl (q_call fn30 rfl (fun w hS => lix_ct _ _ _ _ _ _ w hxn (Sl.mono (hS.le zin0) hxs) (Sl.mono (hS.le zin0) hxb)) (fun _ _ _ h => h)) <|
    sq_go 11 rfl rfl rfl (q_gei rfl rfl) <|
    sq_end) rfl rfl ?_
  clear hF hS; intro a w hF hS
  refine wpList_nil ?_
  refine hK2 _ _ ?_
  clear hK2
  refine wp_if hF rfl (fun hc1 => ?_) (fun hc1 => ?_)
  ·(try simp only [Bool.or_eq_true, Bool.and_eq_true, Bool.or_eq_false_iff, Bool.and_eq_false_iff, decide_eq_true_eq, decide_eq_false_iff_not, Bool.not_eq_true', Bool.not_eq_false'] at hc1)
   refine regl ?_
   refine wpl_sq hF hS (sq rfl (q_ld_blk1 ty22 2 rfl rfl rfl rfl) <|
     sq rfl (q_move rfl) <|
     sq_end) ?_
   clear hF hS; intro a w hF hS
   refine wpl_ef hF hS rfl (ef_bsliceA ty22 ty3 rfl rfl oQ (by decide) rfl rfl) ?_
   clear hF hS; rintro v1 _ _ a w ⟨rfl, rfl⟩ hF hS
   replace hS : St _ (_) (_ :: _ :: _ :: _ :: _ :: _ :: _ :: _) _ := hS
   refine wpl_ef hF hS rfl (ef_append ty22 ty3 4 rfl rfl rfl (src_row ty22 (k := 0) rfl oQ) bQ rfl (by decide)) ?_
   clear hF hS; rintro v3 _ _ a w ⟨rfl, rfl⟩ hF hS
   replace hS : St _ (_) (_ :: _ :: _ :: _ :: _ :: _ :: _ :: _) _ := hS
   refine wpl_ef hF hS rfl (ef_store1 ty22 3 rfl rfl rfl (row_one (hS.own _ (List.mem_of_getElem? (i := 4) rfl)).1) (by simp)) ?_
   clear hF hS; rintro _ _ _ a w ⟨rfl, rfl, rfl⟩ hF hS
   (try simp only [List.set_cons_zero, List.set_cons_succ] at hS)
   replace hS : St _ (_) (_ :: _ :: _ :: _ :: _ :: _ :: _ :: _) _ := hS
   refine wpList_nil ?_
   replace hS := hS.perm (.swap _ _ _)
   replace hS := hS.perm (.cons _ (.swap _ _ _))
   replace hS := hS.perm (.cons _ (.cons _ (.swap _ _ _)))
   replace hS := hS.perm (.cons _ (.cons _ (.cons _ (.swap _ _ _))))
   replace hS := hS.perm (.cons _ (.cons _ (.cons _ (.cons _ (.swap _ _ _)))))
   replace hS := hS.perm (.cons _ (.cons _ (.cons _ (.cons _ (.cons _ (.swap _ _ _))))))
   replace hS := hS.keep sQ (sQ.n.k.k.k.k.k.k)
   refine ⟨(v3, A ++ [t]), ?_, hF.sub ⟨rfl, rfl, rfl, trivial⟩, ?_⟩
   ·exact Gp.ask_t (by simpa using hc1.1) hc1.2 hKI
   ·dsimp only; rw [List.length_append, List.map_append]; exact hS
  ·(try simp only [Bool.or_eq_true, Bool.and_eq_true, Bool.or_eq_false_iff, Bool.and_eq_false_iff, decide_eq_true_eq, decide_eq_false_iff_not, Bool.not_eq_true', Bool.not_eq_false'] at hc1)
   refine wp_skip ?_
   refine ⟨(uA, A), ?_, hF.sub ⟨rfl, rfl, rfl, trivial⟩, ?_⟩
   ·exact Gp.ask_f (by rcases hc1 with h | h; exact .inl (by simpa using h); exact .inr h) hKI
   ·exact hS
 clear hF hS; rintro ⟨uB, A2⟩ a w hfact hF hS
 subst hhs0; (try dsimp only at hfact); (try dsimp only at hF); (try dsimp only at hS)
 have hA2 := hfact
 replace hS : St _ (_) (_ :: _ :: _ :: _ :: _ :: _ :: _) _ := hS
 subst hA2
 refine wp_seq_k ?_; intro K3 hK3
 refine regl ?_
 refine wpl_sq hF hS (sq rfl (q_ld_blk1 ty74 0 rfl rfl rfl rfl) <|
   sq rfl (q_move rfl) <|
   sq_end) ?_
 clear hF hS; intro a w hF hS
 refine wpl_ef hF hS rfl (ef_mapset ty74 (key_I ty3) 1 rfl rfl rfl rfl hMm (fun _ _ => trivial) trivial) ?_
 clear hF hS; rintro _ _ _ a w ⟨es1, ec1, hM1, rfl, rfl, rfl⟩ hF hS
 replace hS : St _ (_) (_ :: _ :: _ :: _ :: _ :: _ :: _) _ := hS
 refine wpList_nil ?_
 refine hK3 _ _ ?_
 clear hK3
 refine wp_seq_k ?_; intro K4 hK4
 refine reg hF hS (sq rfl (q_ld_blkW ty68 5 rfl rfl bQ rfl) <|
   sq rfl (q_move rfl) <|
   sq rfl (q_call fn33 rfl (fun w hS => good_ct _ _ _ _ _ _ _ _ (by omega) (by omega) w hxn (Sl.mono (hS.le zin0) hxs) (Sl.mono (hS.le zin0) hxb) (Sl.mono (hS.le zin0) hbs)) (fun _ _ _ h => h)) <|
   sq rfl (q_assign rfl) <|
   sq_end) ?_
 clear hF hS; intro a w hF hS
 refine hK4 _ _ ?_
 clear hK4
 refine wp_ret ?_
 exact fn_retx (rs := [.tmp 6]) rfl hF hS (vs := [_]) ⟨rfl, trivial⟩ [] [_, _, _, _, _, _] sQ sQ ⟨_, _, _, rfl, rfl, .step hM1 hKB hKI, rfl⟩
end Go.Proofs.Ytplceoanaoeejaa
