/- A text of a proof over this seat: walks over the program's functions and the plain laws that they need. -/
import Derived.Test.YtlopocmpcmkdkaaDoorSs5
import Derived.Test.YtlopocmpcmkdkaaDoorSiA
import Derived.Test.YtlopocmpcmkdkaaDoorFwB
import Derived.Test.YtlopocmpcmkdkaaDoorFwD
set_option linter.all false
namespace Go.Proofs.YtlopocmpcmkdkaaDoor
open Go.Fw
theorem ty28 : Tf Tryd.prog 28 (.array 2 3) 2 16 (.agg ([Value.int .i64 0, Value.int .i64 0]).toArray) := ⟨Tryd.underlying28, by kernel_rfl⟩
theorem ty45 : Tf Tryd.prog 45 (.func #[3, 3] #[23] false) 1 8 (Value.nilFunc) := ⟨Tryd.underlying45, by kernel_rfl⟩
theorem ty73 : Tf Tryd.prog 73 (.map 28 23) 1 8 (Value.map none) := ⟨Tryd.underlying73, by kernel_rfl⟩
theorem fn38 : FnOk Tryd.prog 38 := ⟨_, Tryd.func38, rfl, by kernel_rfl⟩
theorem fn40 : FnOk Tryd.prog 40 := ⟨_, Tryd.func40, rfl, by kernel_rfl⟩
theorem fn44 : FnOk Tryd.prog 44 := ⟨_, Tryd.func44, rfl, by kernel_rfl⟩
theorem fn45 : FnOk Tryd.prog 45 := ⟨_, Tryd.func45, rfl, by kernel_rfl⟩

attribute [local irreducible] Sha.sum Sha.mac Sha.ofD Wi.int Wi.ints Wi.bytes Sha.inp Si.leaf Si.nodeD

/-- What at makes of what it is lent. -/
def NodR (s : List UInt8) (e1 e2 e3 bm l : Nat) (k : Int) : Value → List PH → List Res → Prop := fun r zs hs => ∃ es ec, r = .agg ((Si.tree s l k).map vb).toArray ∧ zs = [] ∧ Si.MOk s es ∧ hs = [.blk e1 73 [.map (some bm)], .mp bm es ec, .blk e2 9 [vs s], .blk e3 45 [.func (.func 44) (List.nil : List Value).toArray [Value.pointer (some ⟨e1, 0, none⟩), Value.pointer (some ⟨e2, 0, none⟩), Value.pointer (some ⟨e3, 0, none⟩)].toArray]]

set_option maxRecDepth 4000 in
set_option maxHeartbeats 2000000 in
theorem nodes_step (s : List UInt8) (e1 e2 e3 bm : Nat) (hs9 : s.length < 1048576) (w0 : World) (zsr : List PH) {fz1 : Nat × Nat} {bt1 : TypeId} (hg1 : w0.heap[1]? = some (.cells (Sha.kc.map vw).toArray bt1 fz1)) (LL : Nat) (ih : ∀ (lv : Int) (l : Nat) (k : Int) (es : List MapEntry) (ec : Nat) (hlv : lv = l) (hl6 : l < 64) (hl9 : l < LL) (hkb : Si.Kb l k) (hOk : Si.MOk s es), Cx Tryd.prog 44 [vi lv, vi k, .pointer (some ⟨e1, 0, none⟩), .pointer (some ⟨e2, 0, none⟩), .pointer (some ⟨e3, 0, none⟩)] w0 zsr [.blk e1 73 [.map (some bm)], .mp bm es ec, .blk e2 9 [vs s], .blk e3 45 [.func (.func 44) (List.nil : List Value).toArray [Value.pointer (some ⟨e1, 0, none⟩), Value.pointer (some ⟨e2, 0, none⟩), Value.pointer (some ⟨e3, 0, none⟩)].toArray]] (NodR s e1 e2 e3 bm l k)) (lv : Int) (l : Nat) (k : Int) (es : List MapEntry) (ec : Nat) (hlv : lv = l) (hl6 : l < 64) (hl9 : l < LL + 1) (hkb : Si.Kb l k) (hOk : Si.MOk s es) : Cx Tryd.prog 44 [vi lv, vi k, .pointer (some ⟨e1, 0, none⟩), .pointer (some ⟨e2, 0, none⟩), .pointer (some ⟨e3, 0, none⟩)] w0 zsr [.blk e1 73 [.map (some bm)], .mp bm es ec, .blk e2 9 [vs s], .blk e3 45 [.func (.func 44) (List.nil : List Value).toArray [Value.pointer (some ⟨e1, 0, none⟩), Value.pointer (some ⟨e2, 0, none⟩), Value.pointer (some ⟨e3, 0, none⟩)].toArray]] (NodR s e1 e2 e3 bm l k) := by
 refine fn_enterx Tryd.func44 rfl Tryd.ntmps44 (Nat.le_of_ble_eq_true rfl) fun hsr a w hF hS => ?_
 replace hS : St _ (_) (_ :: _ :: _ :: _ :: _) _ := hS
 subst hlv
 have hkr := hkb.rng
 obtain ⟨ml, hMm, hMl, hMv⟩ := id hOk
 obtain ⟨vv, ok, hvl, hu, ho, hok⟩ := Si.look (l := l) (k := k) (ze := .agg (List.replicate 16 (Value.int .u8 0)).toArray) (by simp only [Si.dgv, List.map_replicate]; rfl) hMv
 have htl := Si.tree_16 s l k
 refine wp_seq_k ?_; intro K1 hK1
 refine regl ?_
 refine wpl_ef hF hS rfl (ef_box1 rfl rfl) ?_
 clear hF hS; rintro _ _ _ a w ⟨b1, rfl, rfl, rfl⟩ hF hS
 refine wpl_ef hF hS rfl (ef_allocA ty23) ?_
 clear hF hS; rintro _ _ _ a w ⟨b2, rfl, rfl, rfl⟩ hF hS
 rw [show List.replicate 16 (Value.int .u8 0) = (List.replicate 16 (0 : UInt8)).map vb from by rw [List.map_replicate] <;> rfl] at hS
 refine wpList_nil ?_
 refine hK1 _ _ ?_
 clear hK1
 refine wp_seq_k ?_; intro K2 hK2
 refine wp_seq_k ?_; intro K3 hK3
 refine regl ?_
 refine wpl_sq hF hS (sq rfl (q_ld_blk1 ty73 2 rfl rfl rfl rfl) <|
   sq rfl (q_move rfl) <|
   sq rfl (q_ld_blk1 ty3 1 rfl rfl rfl rfl) <|
   sq rfl (q_buildA1 ty28 ty3 rfl rfl oQ rfl rfl) <|
   sq rfl (q_lookupk2 ty73 ty23 (key_AI ty28 ty3) 3 rfl (a := [(l : Int), k]) rfl rfl hMm hMl rfl hu ho) <|
   sq rfl (q_move rfl) <|
   sq rfl (q_extract rfl rfl) <|
   sq rfl (q_extract rfl rfl) <|
   sq_end) ?_
 clear hF hS; intro a w hF hS
 refine wpl_ef hF hS rfl (ef_allocA ty23) ?_
 clear hF hS; rintro _ _ _ a w ⟨b3, rfl, rfl, rfl⟩ hF hS
 rw [show List.replicate 16 (Value.int .u8 0) = (List.replicate 16 (0 : UInt8)).map vb from by rw [List.map_replicate] <;> rfl] at hS
 refine wpl_ef hF hS rfl (ef_storeW ty23 0 rfl rfl rfl rfl bQ oQ bQ) ?_
 clear hF hS; rintro _ _ _ a w ⟨rfl, rfl, rfl⟩ hF hS
 replace hS : St _ (_) (_ :: _ :: _ :: _ :: _ :: _ :: _ :: _) _ := hS
 refine wpl_sq hF hS (sq rfl (q_assign rfl) <|
   sq_end) ?_
 clear hF hS; intro a w hF hS
 refine wpList_nil ?_
 refine hK3 _ _ ?_
 clear hK3
 refine wp_seq_k ?_; intro K4 hK4
 refine reg hF hS (sq rfl (q_move rfl) <|
   sq_end) ?_
 clear hF hS; intro a w hF hS
 refine hK4 _ _ ?_
 clear hK4
 refine wp_if hF rfl (fun hc1 => ?_) (fun hc1 => ?_)
 ·obtain rfl := hok hc1
  refine wp_seq_k ?_; intro K5 hK5
  refine regl ?_
  refine wpl_sq hF hS (sq rfl (q_ld_blkW ty23 0 rfl rfl bQ rfl) <|
    sq_end) ?_
  clear hF hS; intro a w hF hS
  refine wpl_ef hF hS rfl (ef_storeW ty23 1 rfl rfl rfl rfl bQ oQ bQ) ?_
  clear hF hS; rintro _ _ _ a w ⟨rfl, rfl, rfl⟩ hF hS
  replace hS : St _ (_) (_ :: _ :: _ :: _ :: _ :: _ :: _ :: _) _ := hS
  refine wpList_nil ?_
  refine hK5 _ _ ?_
  clear hK5
  refine wp_ret ?_
  replace hS := hS.perm (.cons _ (.cons _ (.swap _ _ _)))
  replace hS := hS.perm (.cons _ (.swap _ _ _))
  replace hS := hS.perm (.swap _ _ _)
  replace hS := hS.perm (.cons _ (.cons _ (.cons _ (.swap _ _ _))))
  replace hS := hS.perm (.cons _ (.cons _ (.swap _ _ _)))
  replace hS := hS.perm (.cons _ (.swap _ _ _))
  replace hS := hS.perm (.cons _ (.cons _ (.cons _ (.cons _ (.swap _ _ _)))))
  replace hS := hS.perm (.cons _ (.cons _ (.cons _ (.swap _ _ _))))
  replace hS := hS.perm (.cons _ (.cons _ (.swap _ _ _)))
  replace hS := hS.perm (.cons _ (.cons _ (.cons _ (.cons _ (.cons _ (.swap _ _ _))))))
  replace hS := hS.perm (.cons _ (.cons _ (.cons _ (.cons _ (.swap _ _ _)))))
  replace hS := hS.perm (.cons _ (.cons _ (.cons _ (.swap _ _ _))))
  exact fn_retx (rs := [.cell 7 23]) rfl hF hS (vs := [_]) ⟨⟨_, _, _, _, _, _, _, rfl, List.mem_of_getElem? (i := 5) rfl, ty23, .inl ⟨rfl, bQ, rfl⟩⟩, trivial⟩ [] [_, _, _, _] sQ (sQ.n.n.n.k.k.k.k) ⟨_, _, rfl, rfl, hOk, rfl⟩
 ·refine wp_skip ?_
  refine hK2 _ _ ?_
  clear hK2
  refine wp_seq_k ?_; intro K6 hK6
  refine regl ?_
  refine wpl_ef hF hS rfl (ef_allocA ty23) ?_
  clear hF hS; rintro _ _ _ a w ⟨b4, rfl, rfl, rfl⟩ hF hS
  rw [show List.replicate 16 (Value.int .u8 0) = (List.replicate 16 (0 : UInt8)).map vb from by rw [List.map_replicate] <;> rfl] at hS
  refine wpList_nil ?_
  refine hK6 _ _ ?_
  clear hK6
  obtain ⟨hs0, hhs0, hS⟩ : ∃ h, h = _ ∧ St _ _ h _ := ⟨_, rfl, hS⟩
  refine wp_cutx (γ := List MapEntry × Nat) (fun (gg : List MapEntry × Nat) => match gg with | (es2, ec2) => []) [(0, _), (2, _), (6, _), (7, _), (10, _)] (fun (gg : List MapEntry × Nat) => match gg with | (es2, ec2) => ((hs0.set 0 (.blk b4 23 ((Si.tree s l k).map vb))).set 5 (.mp bm es2 ec2))) (fun (gg : List MapEntry × Nat) => match gg with | (es2, ec2) => Si.MOk s es2) (hF.sub ⟨rfl, rfl, rfl, rfl, rfl, trivial⟩) hS ?_ ?_
  ·subst hhs0
   refine wp_seq_k ?_; intro K7 hK7
   refine reg hF hS (sq rfl (q_move rfl) <|
     sq rfl (q_eqi rfl rfl) <|
     sq_end) ?_
   clear hF hS; intro a w hF hS
   refine hK7 _ _ ?_
   clear hK7
   refine wp_ifd hF rfl (fun hc2 => ?_) (fun hc2 => ?_)
   ·obtain rfl : l = 0 := by omega
    have hl16 : (Si.leafD (Si.cat (Si.top s k) 68)).length = 16 := Sha.ofD_len _ _
    refine regl ?_
    refine wpl_sq hF hS (sq rfl (q_mkf rfl rfl) <|
      sq rfl (q_call fn38 rfl (fun w hS => leaf_ct _ (Si.top s k) (Si.top_16 s k) w ⟨45, [], [_, _], rfl, fn45, fun w' hle x hx => chain_ct x k s _ _ (by obtain ⟨hx1, hx2⟩ := hx; omega) (by omega) hs9 w' (hle _ _ (own_box hS 3 rfl)) (hle _ _ (own_box hS 6 rfl)) (hle _ _ (hS.ext _ _ hg1))⟩ (hS.ext _ _ hg1)) (fun _ _ _ h => h)) <|
      sq_end) ?_
    clear hF hS; intro a w hF hS
    refine wpl_ef hF hS rfl (ef_storeW ty23 0 rfl rfl rfl rfl bQ oQ bQ) ?_
    clear hF hS; rintro _ _ _ a w ⟨rfl, rfl, rfl⟩ hF hS
    replace hS : St _ (_) (_ :: _ :: _ :: _ :: _ :: _ :: _ :: _ :: _) _ := hS
    refine wpList_nil ?_
    refine ⟨(es, ec), ?_, hF.sub ⟨rfl, rfl, rfl, rfl, rfl, trivial⟩, ?_⟩
    ·exact hOk
    ·rw [Si.tree_0] at hS; exact hS
   ·obtain ⟨m, rfl⟩ : ∃ m, l = m + 1 := ⟨l - 1, by omega⟩
    have ht1 := Si.tree_16 s m (2 * k)
    have ht2 := Si.tree_16 s m (2 * k + 1)
    have ht3 := Si.node_16 (Si.tree s m (2 * k)) (Si.tree s m (2 * k + 1))
    revert hS; revert hF; apply regJ (J := J4 (α0 := List MapEntry) (α1 := Nat) (α2 := List MapEntry) (α3 := Nat) 45 _ _ _ _ _) #[false, false, false, false, false, false, false, false, false, false, false, false, false, false, false] 15 mixed rfl rfl
    ·intro w hF hS
     refine goW_take 0 _ rfl kQ rfl hF (hS.keep sQ (sQ.n.n.n.n.n.n.n)) (q_ld_blk1 ty45 0 rfl rfl rfl rfl) ?_
     clear hF; intro a hF
     refine goW_take 1 _ rfl kQ rfl hF (hS.keep sQ (sQ.n.n.n.n.n.n.n.n)) (q_move rfl) ?_
     clear hF; intro a hF
     refine goW_take 2 _ rfl kQ rfl hF (hS.keep sQ (sQ.n.n.n.n.n.n.n.n)) (q_subi rfl rfl (by omega)) ?_
     clear hF; intro a hF
     refine goW_take 3 _ rfl kQ rfl hF (hS.keep sQ (sQ.n.n.n.n.k.n.n.n)) (q_ld_blk1 ty3 0 rfl rfl rfl rfl) ?_
     clear hF; intro a hF
     refine goW_take 4 _ rfl kQ rfl hF (hS.keep sQ (sQ.n.n.n.n.n.n.n.n)) (q_muli rfl rfl (by omega)) ?_
     clear hF; intro a hF
     refine goW_take 6 _ rfl kQ rfl hF (hS.keep sQ (sQ.n.n.n.n.n.n.n)) (q_ld_blk1 ty45 0 rfl rfl rfl rfl) ?_
     clear hF; intro a hF
     refine goW_take 7 _ rfl kQ rfl hF (hS.keep sQ (sQ.n.n.n.n.n.n.n.n)) (q_move rfl) ?_
     clear hF; intro a hF
     refine goW_take 8 _ rfl kQ rfl hF (hS.keep sQ (sQ.n.n.n.n.n.n.n.n)) (q_subi rfl rfl (by omega)) ?_
     clear hF; intro a hF
     refine goW_take 9 _ rfl kQ rfl hF (hS.keep sQ (sQ.n.n.n.n.k.n.n.n)) (q_ld_blk1 ty3 0 rfl rfl rfl rfl) ?_
     clear hF; intro a hF
     refine goW_take 10 _ rfl kQ rfl hF (hS.keep sQ (sQ.n.n.n.n.n.n.n.n)) (q_muli rfl rfl (by omega)) ?_
     clear hF; intro a hF
     refine goW_take 11 _ rfl kQ rfl hF (hS.keep sQ (sQ.n.n.n.n.n.n.n.n)) (q_addi rfl rfl (by omega)) ?_
     clear hF; intro a hF
     refine goW_fork [5] kQ rfl ⟨?_, trivial⟩
     replace hS := hS.perm (.cons _ (.cons _ (.cons _ (.swap _ _ _))))
     replace hS := hS.perm (.cons _ (.cons _ (.swap _ _ _)))
     replace hS := hS.perm (.cons _ (.swap _ _ _))
     replace hS := hS.perm (.swap _ _ _)
     replace hS := hS.perm (.cons _ (.cons _ (.cons _ (.cons _ (.swap _ _ _)))))
     replace hS := hS.perm (.cons _ (.cons _ (.cons _ (.swap _ _ _))))
     replace hS := hS.perm (.cons _ (.cons _ (.swap _ _ _)))
     replace hS := hS.perm (.cons _ (.swap _ _ _))
     replace hS := hS.perm (.cons _ (.cons _ (.cons _ (.cons _ (.cons _ (.swap _ _ _))))))
     replace hS := hS.perm (.cons _ (.cons _ (.cons _ (.cons _ (.swap _ _ _)))))
     replace hS := hS.perm (.cons _ (.cons _ (.cons _ (.swap _ _ _))))
     replace hS := hS.perm (.cons _ (.cons _ (.swap _ _ _)))
     replace hS := hS.perm (.cons _ (.cons _ (.cons _ (.cons _ (.cons _ (.cons _ (.swap _ _ _)))))))
     replace hS := hS.perm (.cons _ (.cons _ (.cons _ (.cons _ (.cons _ (.swap _ _ _))))))
     replace hS := hS.perm (.cons _ (.cons _ (.cons _ (.cons _ (.swap _ _ _)))))
     replace hS := hS.perm (.cons _ (.cons _ (.cons _ (.swap _ _ _))))
     replace hS : St _ (_) (_ :: _ :: _ :: _ :: _ :: _ :: _ :: _ :: _) _ := hS
     refine stepW_ef _ rfl rfl hF hS rfl (ef_callvx fn44 rfl rfl (List.Perm.refl _) (by exact (ih _ m _ es ec (by omega) (by omega) (by omega) hkb.l hOk ))) ?_
     clear hF hS; rintro _ _ _ a w ⟨_, _, rfl, rfl, ⟨es_7_5, ec_7_5, rfl, rfl, hk_7_5, rfl⟩⟩ hF hS
     replace hS : St _ (_) (_ :: _ :: _ :: _ :: _ :: _ :: _ :: _ :: _) _ := hS
     refine ⟨⟨.inr (hS.keep sQ (sQ.n.n.n.n.n.n.n.n)), .inr (hS.keep sQ (sQ.n.n.n.n.n.n.n.n)), .inr (hS.keep sQ (sQ.n.n.n.n.n.n.n)), .inr (hS.keep sQ (sQ.n.n.n.n.n.n.n.n)), .inr (hS.keep sQ (sQ.n.n.n.n.n.n.n.n)), .inr (hS.keep sQ (sQ.n.n.n.n.k.n.n.n)), iQ, iQ, iQ, iQ, iQ, trivial⟩, ?_⟩
     refine gQ 12 rfl rfl hF hS rfl (ef_callvx fn44 rfl rfl (List.Perm.refl _) (by exact (ih _ m _ es_7_5 ec_7_5 (by omega) (by omega) (by omega) hkb.r hk_7_5 ))) ?_
     clear hF hS; rintro _ _ _ a w ⟨_, _, rfl, rfl, ⟨es_7_12, ec_7_12, rfl, rfl, hk_7_12, rfl⟩⟩ hF hS
     replace hS : St _ (_) (_ :: _ :: _ :: _ :: _ :: _ :: _ :: _ :: _) _ := hS
     refine ⟨⟨iQ, iQ, .inr (hS.keep sQ (sQ.n.n.n.n.n.n.n)), iQ, iQ, iQ, iQ, iQ, iQ, iQ, iQ, trivial⟩, ?_⟩
     refine gQ 13 rfl rfl hF hS rfl (ef_qt (q_call fn40 rfl (fun w hS => snode_ct _ _ (by first | with_reducible assumption | omega) (by first | with_reducible assumption | omega) w (hS.ext _ _ hg1)) (fun _ _ _ h => h))) ?_
     clear hF hS; rintro _ _ _ a w ⟨rfl, rfl, rfl⟩ hF hS
     refine ⟨⟨iQ, iQ, .inr (hS.keep sQ (sQ.n.n.n.n.n.n.n)), iQ, iQ, iQ, iQ, iQ, iQ, iQ, iQ, trivial⟩, ?_⟩
     refine gQ 14 rfl rfl hF hS rfl (ef_storeW ty23 4 rfl rfl rfl rfl bQ oQ bQ) ?_
     clear hF hS; rintro _ _ _ a w ⟨rfl, rfl, rfl⟩ hF hS
     replace hS : St _ (_) (_ :: _ :: _ :: _ :: _ :: _ :: _ :: _ :: _) _ := hS
     refine ⟨⟨iQ, iQ, iQ, iQ, iQ, iQ, iQ, iQ, iQ, iQ, iQ, trivial⟩, ?_⟩
     exact goW_done kQ (j4_mk es_7_5 ec_7_5 es_7_12 ec_7_12 ((And.intro hk_7_5 (And.intro hk_7_12 trivial))) (hF.sub (L' := [(0, _), (2, _), (6, _), (7, _), (10, _)]) ⟨rfl, rfl, rfl, rfl, rfl, trivial⟩) hS)
    rintro a w ⟨es_7_5, ec_7_5, es_7_12, ec_7_12, ⟨hk_7_5, hk_7_12, -⟩, hF, hS⟩
    (try dsimp only at hF); (try dsimp only at hS)
    replace hS := hS.perm (.cons _ (.cons _ (.cons _ (.swap _ _ _))))
    replace hS := hS.perm (.cons _ (.cons _ (.swap _ _ _)))
    replace hS := hS.perm (.cons _ (.swap _ _ _))
    replace hS := hS.perm (.swap _ _ _)
    replace hS := hS.perm (.cons _ (.cons _ (.cons _ (.cons _ (.swap _ _ _)))))
    replace hS := hS.perm (.cons _ (.cons _ (.cons _ (.swap _ _ _))))
    replace hS := hS.perm (.cons _ (.cons _ (.swap _ _ _)))
    replace hS := hS.perm (.cons _ (.swap _ _ _))
    replace hS := hS.perm (.cons _ (.cons _ (.cons _ (.cons _ (.cons _ (.swap _ _ _))))))
    replace hS := hS.perm (.cons _ (.cons _ (.cons _ (.cons _ (.swap _ _ _)))))
    replace hS := hS.perm (.cons _ (.cons _ (.cons _ (.swap _ _ _))))
    replace hS := hS.perm (.cons _ (.cons _ (.swap _ _ _)))
    replace hS := hS.perm (.cons _ (.cons _ (.cons _ (.cons _ (.cons _ (.cons _ (.swap _ _ _)))))))
    replace hS := hS.perm (.cons _ (.cons _ (.cons _ (.cons _ (.cons _ (.swap _ _ _))))))
    replace hS := hS.perm (.cons _ (.cons _ (.cons _ (.cons _ (.swap _ _ _)))))
    replace hS := hS.perm (.cons _ (.cons _ (.cons _ (.swap _ _ _))))
    replace hS := hS.keep sQ sQ
    refine ⟨(es_7_12, ec_7_12), ?_, hF.sub ⟨rfl, rfl, rfl, rfl, rfl, trivial⟩, ?_⟩
    ·exact hk_7_12
    ·rw [Si.tree_s] at hS; exact hS
  clear hF hS; rintro ⟨es2, ec2⟩ a w hfact hF hS
  subst hhs0; (try dsimp only at hfact); (try dsimp only at hF); (try dsimp only at hS)
  obtain ⟨ml2, hM2, hl2, hv2⟩ := hfact
  replace hS : St _ (_) (_ :: _ :: _ :: _ :: _ :: _ :: _ :: _ :: _) _ := hS
  refine wp_seq_k ?_; intro K8 hK8
  refine regl ?_
  refine wpl_sq hF hS (sq rfl (q_ld_blk1 ty73 4 rfl rfl rfl rfl) <|
    sq rfl (q_move rfl) <|
    sq rfl (q_ld_blk1 ty3 3 rfl rfl rfl rfl) <|
    sq rfl (q_buildA1 ty28 ty3 rfl rfl oQ rfl rfl) <|
    sq rfl (q_ld_blkW ty23 0 rfl rfl bQ rfl) <|
    sq_end) ?_
  clear hF hS; intro a w hF hS
  refine wpl_ef hF hS rfl (ef_mapset ty73 (key_AI ty28 ty3) 5 rfl (a := [(l : Int), k]) rfl rfl rfl hM2 hl2 rfl) ?_
  clear hF hS; rintro _ _ _ a w ⟨es4, ec4, hM4, rfl, rfl, rfl⟩ hF hS
  replace hS : St _ (_) (_ :: _ :: _ :: _ :: _ :: _ :: _ :: _ :: _) _ := hS
  refine wpList_nil ?_
  refine hK8 _ _ ?_
  clear hK8
  refine wp_seq_k ?_; intro K9 hK9
  refine regl ?_
  refine wpl_sq hF hS (sq rfl (q_ld_blkW ty23 0 rfl rfl bQ rfl) <|
    sq_end) ?_
  clear hF hS; intro a w hF hS
  refine wpl_ef hF hS rfl (ef_storeW ty23 2 rfl rfl rfl rfl bQ oQ bQ) ?_
  clear hF hS; rintro _ _ _ a w ⟨rfl, rfl, rfl⟩ hF hS
  replace hS : St _ (_) (_ :: _ :: _ :: _ :: _ :: _ :: _ :: _ :: _) _ := hS
  refine wpList_nil ?_
  refine hK9 _ _ ?_
  clear hK9
  refine wp_ret ?_
  replace hS := hS.perm (.cons _ (.cons _ (.cons _ (.swap _ _ _))))
  replace hS := hS.perm (.cons _ (.cons _ (.swap _ _ _)))
  replace hS := hS.perm (.cons _ (.swap _ _ _))
  replace hS := hS.perm (.swap _ _ _)
  replace hS := hS.perm (.cons _ (.cons _ (.cons _ (.cons _ (.swap _ _ _)))))
  replace hS := hS.perm (.cons _ (.cons _ (.cons _ (.swap _ _ _))))
  replace hS := hS.perm (.cons _ (.cons _ (.swap _ _ _)))
  replace hS := hS.perm (.cons _ (.swap _ _ _))
  replace hS := hS.perm (.cons _ (.cons _ (.cons _ (.cons _ (.cons _ (.swap _ _ _))))))
  replace hS := hS.perm (.cons _ (.cons _ (.cons _ (.cons _ (.swap _ _ _)))))
  replace hS := hS.perm (.cons _ (.cons _ (.cons _ (.swap _ _ _))))
  replace hS := hS.perm (.cons _ (.cons _ (.swap _ _ _)))
  replace hS := hS.perm (.cons _ (.cons _ (.cons _ (.cons _ (.cons _ (.cons _ (.swap _ _ _)))))))
  replace hS := hS.perm (.cons _ (.cons _ (.cons _ (.cons _ (.cons _ (.swap _ _ _))))))
  replace hS := hS.perm (.cons _ (.cons _ (.cons _ (.cons _ (.swap _ _ _)))))
  replace hS := hS.perm (.cons _ (.cons _ (.cons _ (.swap _ _ _))))
  exact fn_retx (rs := [.cell 7 23]) rfl hF hS (vs := [_]) ⟨⟨_, _, _, _, _, _, _, rfl, List.mem_of_getElem? (i := 6) rfl, ty23, .inl ⟨rfl, bQ, rfl⟩⟩, trivial⟩ [] [_, _, _, _] sQ (sQ.n.n.n.n.k.k.k.k) ⟨_, _, rfl, rfl, Si.MOk.set hM4 hl2 hv2 rfl, rfl⟩

theorem nodes_ct (s : List UInt8) (e1 e2 e3 bm : Nat) (hs9 : s.length < 1048576) (w0 : World) (zsr : List PH) {fz1 : Nat × Nat} {bt1 : TypeId} (hg1 : w0.heap[1]? = some (.cells (Sha.kc.map vw).toArray bt1 fz1)) : ∀ (LL : Nat) (lv : Int) (l : Nat) (k : Int) (es : List MapEntry) (ec : Nat) (hlv : lv = l) (hl6 : l < 64) (hl9 : l < LL) (hkb : Si.Kb l k) (hOk : Si.MOk s es), Cx Tryd.prog 44 [vi lv, vi k, .pointer (some ⟨e1, 0, none⟩), .pointer (some ⟨e2, 0, none⟩), .pointer (some ⟨e3, 0, none⟩)] w0 zsr [.blk e1 73 [.map (some bm)], .mp bm es ec, .blk e2 9 [vs s], .blk e3 45 [.func (.func 44) (List.nil : List Value).toArray [Value.pointer (some ⟨e1, 0, none⟩), Value.pointer (some ⟨e2, 0, none⟩), Value.pointer (some ⟨e3, 0, none⟩)].toArray]] (NodR s e1 e2 e3 bm l k) := by
 intro LL
 induction LL with
 | zero => intro lv l k es ec hlv hl6 hl9; omega
 | succ LL ih => exact fun lv l k es ec hlv hl6 hl9 hkb hOk => nodes_step s e1 e2 e3 bm hs9 w0 zsr hg1 LL ih lv l k es ec hlv hl6 hl9 hkb hOk
end Go.Proofs.YtlopocmpcmkdkaaDoor
