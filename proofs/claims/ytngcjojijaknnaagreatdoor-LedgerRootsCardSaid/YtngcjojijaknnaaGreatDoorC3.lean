/- A text of a proof over this seat: walks over the program's functions and the plain laws that they need. -/
import Derived.Test.YtngcjojijaknnaaGreatDoorFwB
import Derived.Test.YtngcjojijaknnaaGreatDoorFwC
import Derived.Test.YtngcjojijaknnaaGreatDoorFwD
import Derived.Test.YtngcjojijaknnaaGreatDoorGuA
import Derived.Test.YtngcjojijaknnaaGreatDoorMkA
import Derived.Test.YtngcjojijaknnaaGreatDoorLgA
import Derived.Test.YtngcjojijaknnaaGreatDoorC2
set_option linter.all false
namespace Go.Proofs.YtngcjojijaknnaaGreatDoor
open Go.Fw
set_option maxRecDepth 4000
set_option maxHeartbeats 2000000
section
theorem fn40 : FnOk Tryz.prog 40 := fQ Tryz.func40
attribute [local irreducible] Sha.sum Sha.mac Sha.ofD Lg.kn Lg.keys
theorem lroot_ct (b : Nat) (pj v : Value) (l : List Lg.Fct) (tick : Int) (hG : l.Pairwise (fun f g => f.tk ≤ g.tk)) (hl9 : l.length ≤ 512) (w : World) {bt : TypeId} {fz : Nat × Nat} (hl : w.heap[b]? = some (.cells [pj, v].toArray bt fz)) (hb : Sl Go.Fw.encY (ph w) v l) {fzg : Nat × Nat} {btg : TypeId} (hg0 : w.heap[1]? = some (.cells (Sha.kc.map vw).toArray btg fzg)) : Ct Tryz.prog 34 [.pointer (some ⟨b, 0, none⟩), vi tick] w (fun r _ _ => r = .agg (((Mk.rootE (Lg.lvs l tick)).1).map vb).toArray) := by
 refine fn_enter Tryz.func34 rfl Tryz.ntmps34 (Nat.le_of_ble_eq_true rfl) fun a hF hS => ?_
 have hbl := hb.1
 have hkl := Lg.keys_le l tick
 have hvl := Lg.lvs_len l tick
 have hkv9 := Lg.lv_ok (Y_all hb) tick
 have h16 := Lg.root_16 (Lg.lvs l tick)
 refine reglS fun K1 hK1 => ?_
 refine eQ hF hS rfl (ef_allocA ty62) ?_
 rintro _ _ _ a w ⟨b1, rfl, rfl, rfl⟩ hF hS
 rw [show List.replicate 16 (Value.int .u8 0) = (List.replicate 16 (0 : UInt8)).map vb from by rw [List.map_replicate] <;> rfl] at hS
 refine wpList_nil (hK1 _ _ ?_)
 refine k0 ?_; intro K2 hK2
 refine regS hF hS (mQ rfl <| q0 (q_eqpn_f ty45 rfl rfl) <| sq_end) fun a w hF hS => ?_
 refine wp_if hF rfl (fun h => absurd h (by simp)) (fun _ => ?_)
 refine wp_skip ?_
 refine hK2 _ _ ?_
 refine reglS fun K4 hK4 => ?_
 refine lQ hF hS (mQ rfl <| mQ rfl <| sq_end) fun a w hF hS => ?_
 refine eQ hF hS rfl (ef_call fn69 rfl (fun w hS => known_ct _ _ _ _ _ hG (by omega) w (hS.ext _ _ hl) (Sl.mono (hS.le zin0) hb))) ?_
 rintro _ _ _ a w ⟨_, _, rfl, rfl, ⟨bm3, es4, ec5, rfl, rfl, rfl, hM6⟩⟩ hF hS
 replace hS := nl0_2 hS
 refine lQ hF hS (aQ rfl <| sq_end) fun a w hF hS => ?_
 refine wpList_nil (hK4 _ _ ?_)
 refine k0 ?_; intro K5 hK5
 refine reg hF hS (aQ rfl <| sq_end) fun a w hF hS => ?_
 replace hS := hS.nilRow 142 2
 refine hK5 _ _ ?_
 refine k0 ?_; intro K6 hK6
 refine reglS fun K7 hK7 => ?_
 refine lQ hF hS (mQ rfl <| sq_end) fun a w hF hS => ?_
 refine eQ hF hS rfl (ef_call fn71 rfl (fun w hS => keysS_ct _ w )) ?_
 rintro _ _ _ a w ⟨_, _, rfl, rfl, ⟨bx9, rfl, rfl, rfl⟩⟩ hF hS
 replace hS := nl0_4 hS
 replace hS := hS.perm (.cons _ (.swap _ _ _))
 replace hS := nl0_4 hS
 refine eQ hF hS rfl (ef_callx fn70 rfl (List.Perm.refl _) (by exact (sortedS_ct (by assumption) (Lg.key_nd l tick) (Lg.key_len (Y_all hb) tick) (Lg.key_few (by omega) tick) _ _  (b := bm3)))) ?_
 rintro v10 _ _ a w ⟨_, _, rfl, rfl, ⟨rfl, rfl⟩⟩ hF hS
 replace hS := nl0_5 hS
 refine lQ hF hS (q0 (q_len_row ty40 0 rfl rfl) <| mQ rfl <| sq_end) fun a w hF hS => ?_
 refine wpList_nil ?_
 rw [Lg.keys_untl hG] at hS hF
 refine hK7 _ _ ?_
 refine wp_block ?_
 obtain ⟨hs0, hhs0, hS⟩ := hS.oh
 refine wp_loopx (γ := Value × Nat) ((Value.slice none 0 0), 0) (fun (u, j) => [(6, u), (21, vi (j : Int))]) [(4, _), (5, _), (19, _), (20, _)] (fun (u, j) => (hs0.set 3 (.row u 142 2 j (((Lg.lvs l tick).take j).flatMap kvC)))) (fun (u, j) => j ≤ (Lg.keys l tick).length) (fun (u, j) => (Lg.keys l tick).length - j) (hF.sub ⟨rfl, rfl, rfl, rfl, rfl, rfl, trivial⟩) (by subst hhs0; exact hS) (by exact Nat.zero_le _) ?_
 rintro ⟨u, j⟩ a w hfact hF hS
 subst hhs0; (try dsimp only at hfact hF hS)
 have hj0 := hfact
 replace hS := nl0_5 hS
 refine regS hF hS (q0 (q_lti rfl rfl) <| sq_end) fun a w hF hS => ?_
 refine k0 ?_; intro K9 hK9
 refine wp_ifd hF rfl (fun hc2 => ?_) (fun hc2 => ?_)
 ·refine wp_skip ?_
  refine hK9 _ _ ?_
  refine k0 ?_; intro K10 hK10
  refine wp_block ?_
  refine regS hF hS (q0 (q_idx_row ty40 ty9 0 rfl rfl rfl (by omega)) <| q0 (q_ld_rowM (f := vs) (xs := (Lg.keys l tick)) ty9 0 [] rfl rfl (by omega) rfl) <| aQ rfl <| sq_end) fun a w hF hS => ?_
  refine regl ?_
  refine lQ hF hS (mQ rfl <| mQ rfl <| mQ rfl <| mQ rfl <| q0 (q_lookup1 ty135 ty9 (key_S ty9) 2 rfl rfl rfl hM6.1 (fun _ _ => trivial) trivial (Lg.lv_look hG (Lg.key_at (by omega)))) <| q0 (q_buildS1 ty142 2 kQ rfl rfl (oc_cons rfl (oc_cons rfl oc_nil)) rfl rfl) <| sq_end) fun a w hF hS => ?_
  refine eQ hF hS rfl (ef_bsliceW ty72 ty142 rfl bQ (by decide) oQ (by decide) (by decide)) ?_
  rintro v12 _ _ a w ⟨rfl, rfl⟩ hF hS
  replace hS : St _ [] [_, _, _, _, _, _] _ := hS
  refine eQ hF hS rfl (ef_append ty72 ty142 4 rfl rfl rfl (src_row ty72 (k := 0) rfl oQ) bQ rfl (by decide)) ?_
  rintro v14 _ _ a w ⟨rfl, rfl⟩ hF hS
  replace hS : St _ [] [_, _, _, _, _, _] _ := hS
  refine lQ hF hS (aQ rfl <| sq_end) fun a w hF hS => ?_
  refine wpList_nil (hK10 _ _ ?_)
  refine reg hF hS (pQ rfl rfl <| mQ rfl <| sq_end) fun a w hF hS => ?_
  replace hS := hS.keep zQ (sQ.n)
  refine ⟨(v14, j + 1), ?_, ?_, hF.sub ⟨rfl, rfl, rfl, rfl, rfl, rfl, trivial⟩, ?_⟩
  ·(try dsimp only); omega
  ·omega
  ·rw [Lg.lv_snoc (by omega)] at hS
   exact hS
 ·obtain rfl : j = (Lg.keys l tick).length := by omega
  rw [← Lg.lvs_len, List.take_length] at hS
  refine wp_exit ?_
  refine hK6 _ _ ?_
  refine reglS fun K12 hK12 => ?_
  refine lQ hF hS (mQ rfl <| q0 (q_call fn40 rfl (fun w hS => mroot_ct _ _ w (own_slK (hl := kvC_len) (h1 := kvC_one) (hS.own _ (List.mem_of_getElem? (i := 3) rfl)).1 rfl (by omega) hkv9) (hS.ext _ _ hg0)) (fun _ _ _ h => h)) <| mQ rfl <| q0 (q_extract rfl rfl) <| q0 (q_extract rfl rfl) <| sq_end) fun a w hF hS => ?_
  refine eQ hF hS rfl (ef_allocA ty62) ?_
  rintro _ _ _ a w ⟨b15, rfl, rfl, rfl⟩ hF hS
  rw [show List.replicate 16 (Value.int .u8 0) = (List.replicate 16 (0 : UInt8)).map vb from by rw [List.map_replicate] <;> rfl] at hS
  refine eQ hF hS rfl (ef_storeW ty62 0 rfl rfl rfl rfl bQ oQ bQ) ?_
  rintro _ _ _ a w ⟨rfl, rfl, rfl⟩ hF hS
  replace hS : St _ [] [_, _, _, _, _, _] _ := hS
  refine lQ hF hS (aQ rfl <| sq_end) fun a w hF hS => ?_
  refine wpList_nil (hK12 _ _ ?_)
  refine reglS fun K13 hK13 => ?_
  refine lQ hF hS (q0 (q_ld_blkW ty62 0 rfl rfl bQ rfl) <| sq_end) fun a w hF hS => ?_
  refine eQ hF hS rfl (ef_storeW ty62 5 rfl rfl rfl rfl bQ oQ bQ) ?_
  rintro _ _ _ a w ⟨rfl, rfl, rfl⟩ hF hS
  replace hS : St _ [] [_, _, _, _, _, _] _ := hS
  refine wpList_nil (hK13 _ _ ?_)
  refine wp_ret ?_
  exact fn_ret (rs := [.cell 4 62]) rfl hF hS (vs := [_]) ⟨⟨_, _, _, _, _, _, _, rfl, List.mem_of_getElem? (i := 5) rfl, ty62, .inl ⟨rfl, bQ, rfl⟩⟩, trivial⟩ zQ zQ (rfl)
end
section
theorem fn34 : FnOk Tryz.prog 34 := fQ Tryz.func34
attribute [local irreducible] Wi.int Wi.bytes Wi.getInt Wi.getBytes Sha.sum Jn.good Jn.hd Jn.lb Jn.cnt Jn.unp Jn.recd Jn.app Jn.opn Lg.dec Lg.enc Dk.new Lg.add Lg.taken Gu.arnd Lg.kn Lg.keys Mk.rootE
end
section
theorem ty76 : Tf Tryz.prog 76 (.slice 62) 1 24 (Value.slice none 0 0) := ⟨Tryz.underlying76, by kernel_rfl⟩
theorem ty153 : Tf Tryz.prog 153 (.struct #[⟨ "Texts", 40, 0, false, "", "", 0⟩, ⟨ "Sides", 76, 1, false, "", "", 24⟩, ⟨ "Used", 3, 2, false, "", "", 48⟩, ⟨ "Short", 4, 3, false, "", "", 56⟩]) 4 64 (.agg ([Value.slice none 0 0, Value.slice none 0 0] ++ [Value.int .i64 0] ++ [Value.bool false]).toArray) := ⟨Tryz.underlying153, by kernel_rfl⟩
theorem fn79 : FnOk Tryz.prog 79 := fQ Tryz.func79
theorem fn120 : FnOk Tryz.prog 120 := fQ Tryz.func120
theorem fn121 : FnOk Tryz.prog 121 := fQ Tryz.func121
theorem fn122 : FnOk Tryz.prog 122 := fQ Tryz.func122
theorem fn153 : FnOk Tryz.prog 153 := fQ Tryz.func153
theorem fn154 : FnOk Tryz.prog 154 := fQ Tryz.func154
attribute [local irreducible] Sha.sum Sha.mac Sha.ofD Wi.int Wi.ints Wi.bytes Sha.inp Mk.half Lib.compareBytes
/-- What is made of a tree that is lent. -/
def TrR (e : Nat) (sv : Value) (σ : Mk.Dg × Mk.Tx × Nat × Bool) : Value → List PH → List Res → Prop := fun r zs hs => ∃ tv, r = .agg (σ.1.map vb).toArray ∧ zs = [] ∧ hs = [.blk e 153 [tv, sv, vi ((σ.2.2.1 : Nat) : Int), vt (σ.2.2.2)], .row tv 9 1 (σ.2.1).length ((σ.2.1).map vs)]
theorem tr_of {e : Nat} {sv : Value} {σ σ' : Mk.Dg × Mk.Tx × Nat × Bool} {r : Value} {zs : List PH} {hs : List Res} (h : TrR e sv σ r zs hs) (e1 : σ' = σ) : TrR e sv σ' r zs hs := e1 ▸ h
theorem zin_c {w0 : World} {zs : List PH} {z z' : PH} (h : ZIn w0 zs z) : ZIn w0 (z' :: zs) z := h.elim .inl fun h => .inr (List.mem_cons_of_mem _ h)
theorem tof_ct (e : Nat) (sv tv : Value) (T : Mk.Tx) (u : Nat) (s : Bool) (tag : Int) (v : Value) (ps : Mk.Tx) (hp : ∀ p ∈ ps, p.length < 1048576) (hl : ps.length < 1000) (hT : T.length < 4294967296) (fz0 : Nat × Nat) (bt0 : TypeId) (w0 : World) (zsr : List PH) (z : PH) (hv : Sl Go.Fw.encS z v ps) (hz : ZIn w0 zsr z) (hg0 : w0.heap[0]? = some (.cells (Sha.kc.map vw).toArray bt0 fz0)) : Cx Tryz.prog 122 [.pointer (some ⟨e, 0, none⟩), vi tag, v] w0 zsr [.blk e 153 [tv, sv, vi ((u : Nat) : Int), vt (s)], .row tv 9 1 (T).length ((T).map vs)] (TrR e sv (Sha.ofD tag ps, T ++ [Sha.inp tag ps], u, s)) := by
 refine fn_enterx Tryz.func122 rfl Tryz.ntmps122 (Nat.le_of_ble_eq_true rfl) fun hsr a w hF hS => ?_
 replace hS : St _ (_) (_ :: _ :: _) _ := hS
 have hil := Sha.inp_len tag ps hp
 have hsl := Sha.sum_len (Sha.inp tag ps)
 have hofl := Sha.ofD_len tag ps
 refine reglS fun K1 hK1 => ?_
 refine eQ hF hS rfl (ef_allocA ty62) ?_
 rintro _ _ _ a w ⟨b1, rfl, rfl, rfl⟩ hF hS
 rw [show List.replicate 16 (Value.int .u8 0) = (List.replicate 16 (0 : UInt8)).map vb from by rw [List.map_replicate] <;> rfl] at hS
 refine wpList_nil (hK1 _ _ ?_)
 refine reglS fun K2 hK2 => ?_
 refine lQ hF hS (mQ rfl <| mQ rfl <| sq_end) fun a w hF hS => ?_
 refine eQ hF hS rfl (ef_call fn154 rfl (fun w hS => rinput_ct _ _ _ (by first | with_reducible assumption | omega) (by first | with_reducible assumption | omega) w (Sl.mono (hS.le (by first | exact hz | exact zin_c hz | exact zin_c (zin_c hz) | exact zin_c (zin_c (zin_c hz)))) hv))) ?_
 rintro v2 _ _ a w ⟨_, _, rfl, rfl, ⟨z3, hz4, rfl, rfl⟩⟩ hF hS
 replace hS : St _ (_ :: _) (_ :: _ :: _ :: _) _ := hS
 refine lQ hF hS (aQ rfl <| sq_end) fun a w hF hS => ?_
 refine wpList_nil (hK2 _ _ ?_)
 refine k0 ?_; intro K3 hK3
 revert hS; revert hF; apply regJ (J := J2 (α0 := Value) (α1 := Value) 24 _ _ _ _ _) #[false, false, false, false, false, false, false, false, false, false, false, false] 12 mixed rfl rfl
 ·intro w hF hS
  refine tQ 0 rfl hF (hS.keep sQ (sQ.n.n.n)) (q_move rfl) fun a hF => ?_
  refine tQ 1 rfl hF (hS.keep sQ (sQ.n.n.n)) (q_move rfl) fun a hF => ?_
  refine tQ 2 rfl hF (hS.keep sQ (sQ.n.n.n)) (q_nilCheck rfl) fun a hF => ?_
  refine tQ 3 rfl hF (hS.keep sQ (sQ.n.n.n)) (q_fieldAddr ty153 rfl rfl (s' := 0) kQ) fun a hF => ?_
  refine tQ 4 rfl hF (hS.keep sQ (sQ.n.k.n)) (q_ld_blk1 ty40 0 rfl rfl rfl rfl) fun a hF => ?_
  refine tQ 5 rfl hF (hS.keep sQ (sQ.n.n.n)) (q_move rfl) fun a hF => ?_
  refine tQ 6 rfl hF (hS.keep sQ (sQ.n.n.n)) (q_b2s_sl ty25 ty9 ty5 hz4 (.inr (by simp)) rfl) fun a hF => ?_
  refine gQ 7 rfl rfl hF hS rfl (ef_bsliceA ty40 ty9 rfl rfl oQ (by decide) rfl rfl) ?_
  rintro v_2_7 _ _ a w ⟨rfl, rfl⟩ hF hS
  replace hS := nt1_4 hS
  refine ⟨⟨iQ, iQ, .inr (hS.keep sQ (sQ.n.k.n.n)), .inr (hS.keep sQ (sQ.n.n.n.n)), .inr (hS.keep sQ (sQ.n.n.n.n)), .inr (hS.keep sQ (sQ.n.n.n.n)), .inr (hS.keep sQ (sQ.n.n.n.n)), trivial⟩, ?_⟩
  refine gQ 8 rfl rfl hF hS rfl (ef_append ty40 ty9 3 rfl rfl rfl (src_row ty40 (k := 0) rfl oQ) bQ rfl (by decide)) ?_
  rintro v_2_8 _ _ a w ⟨rfl, rfl⟩ hF hS
  replace hS := nt1_4 hS
  refine ⟨⟨iQ, iQ, iQ, iQ, .inr (hS.keep sQ (sQ.n.n.n.n)), .inr (hS.keep sQ (sQ.n.n.n.n)), .inr (hS.keep sQ (sQ.n.n.n.n)), trivial⟩, ?_⟩
  refine tQ 9 rfl hF (hS.keep sQ (sQ.n.n.n.n)) (q_nilCheck rfl) fun a hF => ?_
  refine tQ 10 rfl hF (hS.keep sQ (sQ.n.n.n.n)) (q_fieldAddr ty153 rfl rfl (s' := 0) kQ) fun a hF => ?_
  refine gQ 11 rfl rfl hF hS rfl (ef_store1 ty40 2 rfl rfl rfl (row_one (hS.own _ (List.mem_of_getElem? (i := 3) rfl)).1) (by simp)) ?_
  rintro _ _ _ a w ⟨rfl, rfl, rfl⟩ hF hS
  replace hS : St _ (_ :: _) (_ :: _ :: .blk _ _ ([_, _, _, _].set 0 _) :: _ :: _) _ := hS
  simp only [List.set_cons_zero, List.set_cons_succ] at hS
  replace hS := nt1_4 hS
  refine ⟨⟨iQ, iQ, iQ, iQ, iQ, iQ, iQ, iQ, iQ, trivial⟩, ?_⟩
  exact goW_done kQ (j2_mk v_2_7 v_2_8 (trivial) (hF.sub (L' := [(6, _), (7, _)]) ⟨rfl, rfl, trivial⟩) hS)
 rintro a w ⟨v_2_7, v_2_8, -, hF, hS⟩
 (try dsimp only at hF hS)
 refine hK3 _ _ ?_
 refine reglS fun K4 hK4 => ?_
 refine lQ hF hS (mQ rfl <| q0 (q_call fn79 rfl (fun w hS => rshort_ct _ _ (by first | with_reducible assumption | omega) w (Sl.mono (hS.le (.inr (by simp))) hz4) (hS.ext _ _ hg0)) (fun _ _ _ h => h)) <| sq_end) fun a w hF hS => ?_
 refine eQ hF hS rfl (ef_storeW ty62 1 rfl rfl rfl rfl bQ oQ bQ) ?_
 rintro _ _ _ a w ⟨rfl, rfl, rfl⟩ hF hS
 replace hS := nt1_4 hS
 refine wpList_nil (hK4 _ _ ?_)
 refine wp_ret ?_
 replace hS := hS.perm (.cons _ (.swap _ _ _))
 replace hS := hS.perm (.swap _ _ _)
 replace hS := hS.perm P1_2
 exact fn_retx (rs := [.cell 6 62]) rfl hF hS (vs := [_]) ⟨⟨_, _, _, _, _, _, _, rfl, List.mem_of_getElem? (i := 3) rfl, ty62, .inl ⟨rfl, bQ, rfl⟩⟩, trivial⟩ [] [_, _] (sQ.n) (sQ.n.n.k.k) (tr_of ⟨v_2_8, by rw [← Sha.ofD_ref], rfl, by rw [List.length_append, List.map_append]; rfl⟩ rfl)
theorem row_step (e : Nat) (sv v : Value) (ls : List Mk.Lf) (first : Nat) (sd : List Mk.Dg) (hl : ls.length < 1048576) (hx : ∀ x ∈ ls, x.1.length < 1048576 ∧ x.2.length < 1048576) (h16 : ∀ d ∈ sd, d.length = 16) (hf9 : first ≤ 1048576) (fz0 : Nat × Nat) (bt0 : TypeId) (w0 : World) (zsr : List PH) (hb : Sl encF (ph w0) v ls) (hsd : Sl (encA 16) (ph w0) sv sd) (hg0 : w0.heap[0]? = some (.cells (Sha.kc.map vw).toArray bt0 fz0)) (f : Nat) (ih : ∀ (lo hi : Int) (p0 n : Nat) (tv : Value) (T : Mk.Tx) (u : Nat) (s : Bool) (hp : lo = p0) (hh : hi = p0 + n) (hn1 : 1 ≤ n) (hnf : n ≤ f) (hp9 : p0 + n ≤ 1048576) (hT9 : T.length + 2 * n ≤ 100000000) (hu9 : u + n ≤ 100000000), Cx Tryz.prog 121 [.pointer (some ⟨e, 0, none⟩), v, vi (first : Int), vi lo, vi hi] w0 zsr [.blk e 153 [tv, sv, vi ((u : Nat) : Int), vt (s)], .row tv 9 1 (T).length ((T).map vs)] (TrR e sv (Mk.rr first ls sd f n p0 T u s))) (lo hi : Int) (p0 n : Nat) (tv : Value) (T : Mk.Tx) (u : Nat) (s : Bool) (hp : lo = p0) (hh : hi = p0 + n) (hn1 : 1 ≤ n) (hnf : n ≤ f + 1) (hp9 : p0 + n ≤ 1048576) (hT9 : T.length + 2 * n ≤ 100000000) (hu9 : u + n ≤ 100000000) : Cx Tryz.prog 121 [.pointer (some ⟨e, 0, none⟩), v, vi (first : Int), vi lo, vi hi] w0 zsr [.blk e 153 [tv, sv, vi ((u : Nat) : Int), vt (s)], .row tv 9 1 (T).length ((T).map vs)] (TrR e sv (Mk.rr first ls sd (f + 1) n p0 T u s)) := by
 refine fn_enterx Tryz.func121 rfl Tryz.ntmps121 (Nat.le_of_ble_eq_true rfl) fun hsr a w hF hS => ?_
 replace hS : St _ (_) (_ :: _ :: _) _ := hS
 have hbl := hb.1
 have hsl := hsd.1
 have hsl2 : sd.length ≤ 140737488355328 := hsl
 refine reglS fun K1 hK1 => ?_
 refine eQ hF hS rfl (ef_allocA ty62) ?_
 rintro _ _ _ a w ⟨b1, rfl, rfl, rfl⟩ hF hS
 rw [show List.replicate 16 (Value.int .u8 0) = (List.replicate 16 (0 : UInt8)).map vb from by rw [List.map_replicate] <;> rfl] at hS
 refine wpList_nil (hK1 _ _ ?_)
 refine k0 ?_; intro K2 hK2
 refine reglS fun K3 hK3 => ?_
 refine lQ hF hS (mQ rfl <| mQ rfl <| q0 (q_lei rfl rfl) <| mQ rfl <| sq_end) fun a w hF hS => ?_
 refine wpl_or 3 17 6 hF hS rfl rfl rfl rfl rfl (fun hg => have hg := (by first | exact of_decide_eq_false hg | exact hg); sq_go 17 rfl rfl rfl (q_move rfl) <| sq_go 17 rfl rfl rfl (q_move rfl) <| sq_go 17 rfl rfl rfl (q_move rfl) <| sq_go 17 rfl rfl rfl (q_len_sl ty68 hb rfl) <| sq_go 17 rfl rfl rfl (q_addi rfl rfl (by omega)) <| sq_go 17 rfl rfl rfl (q_gei rfl rfl) <| sq_end) rfl rfl fun a w hF hS => ?_
 refine wpList_nil (hK3 _ _ ?_)
 refine wp_if hF rfl (fun hc1 => ?_) (fun hc1 => ?_)
 ·(try simp only [bS] at hc1)
  have ho : p0 + n ≤ first ∨ first + ls.length ≤ p0 := by omega
  refine k0 ?_; intro K4 hK4
  refine regdS mixed kQ hF hS (mQ rfl <| q0 (q_nilCheck rfl) <| q0 (q_fieldAddr ty153 rfl rfl (s' := 0) kQ) <| q0 (q_ld_blk1 ty3 1 rfl rfl rfl rfl) <| mQ rfl <| q0 (q_nilCheck rfl) <| q0 (q_fieldAddr ty153 rfl rfl (s' := 0) kQ) <| q0 (q_ld_blk1 ty76 1 rfl rfl rfl rfl) <| q0 (q_len_sl ty76 hsd rfl) <| q0 (q_gei rfl rfl) <| sq_end) fun a w hF hS => ?_
  refine wp_ifd hF rfl (fun hc2 => ?_) (fun hc2 => ?_)
  ·have hq : sd.length ≤ u := by omega
   refine reglS fun K6 hK6 => ?_
   refine lQ hF hS (mQ rfl <| q0 (q_nilCheck rfl) <| q0 (q_fieldAddr ty153 rfl rfl (s' := 0) kQ) <| sq_end) fun a w hF hS => ?_
   refine eQ hF hS rfl (ef_store1 ty4 1 rfl rfl rfl rfl (by simp)) ?_
   rintro _ _ _ a w ⟨rfl, rfl, rfl⟩ hF hS
   replace hS : St _ (_) (_ :: .blk _ _ ([_, _, _, _].set 3 _) :: _ :: _) _ := hS
   simp only [List.set_cons_zero, List.set_cons_succ] at hS
   replace hS : St _ (_) (_ :: _ :: _ :: _) _ := hS
   refine wpList_nil (hK6 _ _ ?_)
   refine reglS fun K7 hK7 => ?_
   refine lQ hF hS (q0 (q_build rfl (run_build_arr ty62 ty5 rfl)) <| sq_end) fun a w hF hS => ?_
   refine eQ hF hS rfl (ef_storeW ty62 0 rfl rfl rfl rfl bQ oQ bQ) ?_
   rintro _ _ _ a w ⟨rfl, rfl, rfl⟩ hF hS
   replace hS : St _ (_) (_ :: _ :: _ :: _) _ := hS
   refine wpList_nil (hK7 _ _ ?_)
   refine wp_ret ?_
   replace hS := hS.perm (.swap _ _ _)
   replace hS := hS.perm (.cons _ (.swap _ _ _))
   exact fn_retx (rs := [.cell 10 62]) rfl hF hS (vs := [_]) ⟨⟨_, _, _, _, _, _, _, rfl, List.mem_of_getElem? (i := 2) rfl, ty62, .inl ⟨rfl, bQ, rfl⟩⟩, trivial⟩ [] [_, _] sQ (sQ.n.k.k) (tr_of (σ := (Mk.zD, T, u, true)) ⟨tv, rfl, rfl, rfl⟩ (Mk.rr_short ho hq))
  ·have hq : ¬ sd.length ≤ u := by omega
   have hd16 := h16 (sd.getD u []) (Mk.getD_inD (by omega))
   have hue : ((u : Int) + 1 - 1).toNat = u := by omega
   have hd17 : (sd.getD ((u : Int) + 1 - 1).toNat []).length = 16 := by rw [hue]; exact hd16
   refine wp_skip ?_
   refine hK4 _ _ ?_
   refine reglS fun K8 hK8 => ?_
   refine lQ hF hS (mQ rfl <| mQ rfl <| q0 (q_nilCheck rfl) <| q0 (q_fieldAddr ty153 rfl rfl (s' := 0) kQ) <| q0 (q_ld_blk1 ty3 1 rfl rfl rfl rfl) <| pQ rfl rfl <| q0 (q_nilCheck rfl) <| q0 (q_fieldAddr ty153 rfl rfl (s' := 0) kQ) <| sq_end) fun a w hF hS => ?_
   refine eQ hF hS rfl (ef_store1 ty3 1 rfl rfl rfl rfl (by simp)) ?_
   rintro _ _ _ a w ⟨rfl, rfl, rfl⟩ hF hS
   replace hS : St _ (_) (_ :: .blk _ _ ([_, _, _, _].set 2 _) :: _ :: _) _ := hS
   simp only [List.set_cons_zero, List.set_cons_succ] at hS
   replace hS : St _ (_) (_ :: _ :: _ :: _) _ := hS
   refine wpList_nil (hK8 _ _ ?_)
   refine k0 ?_; intro K9 hK9
   refine regt 11 mixed kQ hF hS (mQ rfl <| q0 (q_nilCheck rfl) <| q0 (q_fieldAddr ty153 rfl rfl (s' := 0) kQ) <| q0 (q_ld_blk1 ty76 1 rfl rfl rfl rfl) <| mQ rfl <| q0 (q_nilCheck rfl) <| q0 (q_fieldAddr ty153 rfl rfl (s' := 0) kQ) <| q0 (q_ld_blk1 ty3 1 rfl rfl rfl rfl) <| dQ rfl rfl <| q0 (q_idx_sl ty76 ty62 hsd rfl rfl (by omega)) <| q0 (q_ld_AB ty62 hsd zin0 rfl rfl (by decide) (by omega)) <| sq_end) fun a w hF hS => ?_
   refine eQ hF hS rfl (ef_storeW ty62 0 rfl rfl rfl rfl bQ oQ bQ) ?_
   rintro _ _ _ a w ⟨rfl, rfl, rfl⟩ hF hS
   replace hS : St _ (_) (_ :: _ :: _ :: _) _ := hS
   refine wpList_nil (hK9 _ _ ?_)
   refine wp_ret ?_
   replace hS := hS.perm (.swap _ _ _)
   replace hS := hS.perm (.cons _ (.swap _ _ _))
   exact fn_retx (rs := [.cell 10 62]) rfl hF hS (vs := [_]) ⟨⟨_, _, _, _, _, _, _, rfl, List.mem_of_getElem? (i := 2) rfl, ty62, .inl ⟨rfl, bQ, rfl⟩⟩, trivial⟩ [] [_, _] sQ (sQ.n.k.k) (tr_of (σ := (sd.getD u [], T, u + 1, s)) ⟨tv, by rw [hue], rfl, rfl⟩ (Mk.rr_side ho hq))
 ·(try simp only [bS] at hc1)
  have ho : ¬ (p0 + n ≤ first ∨ first + ls.length ≤ p0) := by omega
  refine wp_skip ?_
  refine hK2 _ _ ?_
  refine k0 ?_; intro K10 hK10
  refine regS hF hS (mQ rfl <| mQ rfl <| dQ rfl rfl <| q0 (q_eqi rfl rfl) <| sq_end) fun a w hF hS => ?_
  refine wp_ifd hF rfl (fun hc3 => ?_) (fun hc3 => ?_)
  ·have hle : (lo - (first : Int)).toNat = p0 - first := by omega
   have hn3 : n = 1 := by omega
   have hxa := hx (ls.getD (lo - first).toNat kv0) (Mk.getD_in (by omega))
   have ho16 := Sha.ofD_len 3 [(ls.getD (lo - first).toNat kv0).1, (ls.getD (lo - first).toNat kv0).2]
   refine k0 ?_; intro K12 hK12
   revert hS; revert hF; apply regJ (J := J3 (α0 := Value) (α1 := PH) (α2 := Value) 104 _ _ _ _ _) #[false, false, false, false, false, false, false, false, false, false, false, false, false, false, false, false, false, false] 18 mixed rfl rfl
   ·intro w hF hS
    refine tQ 0 rfl hF (hS.keep sQ (sQ.n.n.n)) (q_move rfl) fun a hF => ?_
    refine tQ 1 rfl hF (hS.keep sQ (sQ.n.n.n)) (q_move rfl) fun a hF => ?_
    refine tQ 2 rfl hF (hS.keep sQ (sQ.n.n.n)) (q_move rfl) fun a hF => ?_
    refine tQ 3 rfl hF (hS.keep sQ (sQ.n.n.n)) (q_move rfl) fun a hF => ?_
    refine tQ 4 rfl hF (hS.keep sQ (sQ.n.n.n)) (q_subi rfl rfl (by omega)) fun a hF => ?_
    refine tQ 5 rfl hF (hS.keep sQ (sQ.n.n.n)) (q_idx_sl ty68 ty147 hb rfl rfl (by omega)) fun a hF => ?_
    refine tQ 6 rfl hF (hS.keep sQ (sQ.n.n.n)) (q_fld_F ty147 hb rfl (by omega) rfl (s' := 0) kQ) fun a hF => ?_
    refine tQ 7 rfl hF (hS.keep sQ (sQ.n.n.n)) (q_ld_FK ty9 hb zin0 rfl rfl (by omega)) fun a hF => ?_
    refine tQ 8 rfl hF (hS.keep sQ (sQ.n.n.n)) (q_move rfl) fun a hF => ?_
    refine tQ 9 rfl hF (hS.keep sQ (sQ.n.n.n)) (q_move rfl) fun a hF => ?_
    refine tQ 10 rfl hF (hS.keep sQ (sQ.n.n.n)) (q_move rfl) fun a hF => ?_
    refine tQ 11 rfl hF (hS.keep sQ (sQ.n.n.n)) (q_subi rfl rfl (by omega)) fun a hF => ?_
    refine tQ 12 rfl hF (hS.keep sQ (sQ.n.n.n)) (q_idx_sl ty68 ty147 hb rfl rfl (by omega)) fun a hF => ?_
    refine tQ 13 rfl hF (hS.keep sQ (sQ.n.n.n)) (q_fld_F ty147 hb rfl (by omega) rfl (s' := 0) kQ) fun a hF => ?_
    refine tQ 14 rfl hF (hS.keep sQ (sQ.n.n.n)) (q_ld_FV ty9 hb zin0 rfl rfl (by omega)) fun a hF => ?_
    refine gQ 15 rfl rfl hF hS rfl (ef_bsliceA ty40 ty9 rfl rfl oQ (by decide) rfl rfl) ?_
    rintro v_8_15 _ _ a w ⟨rfl, rfl⟩ hF hS
    replace hS := nt0_4 hS
    refine ⟨⟨iQ, iQ, .inr (hS.keep sQ (sQ.n.n.n.n)), .inr (hS.keep sQ (sQ.n.n.n.n)), .inr (hS.keep sQ (sQ.n.n.n.n)), .inr (hS.keep sQ (sQ.n.n.n.n)), .inr (hS.keep sQ (sQ.n.n.n.n)), iQ, iQ, .inr (hS.keep sQ (sQ.n.n.n.n)), .inr (hS.keep sQ (sQ.n.n.n.n)), .inr (hS.keep sQ (sQ.n.n.n.n)), .inr (hS.keep sQ (sQ.n.n.n.n)), .inr (hS.keep sQ (sQ.n.n.n.n)), .inr (hS.keep sQ (sQ.n.n.n.n)), trivial⟩, ?_⟩
    refine goW_fork [16] kQ rfl ⟨?_, trivial⟩
    obtain ⟨z_8_16, hz_8_16, hS⟩ := St.freezeV (h0 := fun _ => rfl) (f := vs) (p := fun s => s.length ≤ 140737488355328) (xs := [(ls.getD (lo - first).toNat kv0).1, (ls.getD (lo - first).toNat kv0).2]) hS (by first | rfl | (simp; done)) (by first | decide | omega | (simp; omega)) (Mk.two_le (by omega) (by omega))
    replace hS := hS.perm (.swap _ _ _)
    replace hS := hS.perm (.cons _ (.swap _ _ _))
    replace hS : St _ (_ :: _) (_ :: _ :: _ :: _) _ := hS
    refine stepW_ef _ rfl rfl hF hS rfl (ef_callxN 2 fn122 rfl (by exact (tof_ct _ _ _ T u s _ _ [(ls.getD (lo - first).toNat kv0).1, (ls.getD (lo - first).toNat kv0).2] (Mk.two_lt hxa.1 hxa.2) (by simp) (by omega) _ _ _ _ _ hz_8_16 (.inr (by simp)) hg0))) ?_
    rintro _ _ _ a w ⟨_, _, rfl, rfl, ⟨p_8_16, rfl, rfl, rfl⟩⟩ hF hS
    replace hS : St _ (_ :: _) (_ :: _ :: _ :: _) _ := hS
    refine ⟨⟨iQ, iQ, .inr (hS.keep (sQ.n) (sQ.n.n.n)), .inr (hS.keep (sQ.n) (sQ.n.n.n)), .inr (hS.keep (sQ.n) (sQ.n.n.n)), .inr (hS.keep (sQ.n) (sQ.n.n.n)), .inr (hS.keep (sQ.n) (sQ.n.n.n)), iQ, iQ, .inr (hS.keep (sQ.n) (sQ.n.n.n)), .inr (hS.keep (sQ.n) (sQ.n.n.n)), .inr (hS.keep (sQ.n) (sQ.n.n.n)), .inr (hS.keep (sQ.n) (sQ.n.n.n)), .inr (hS.keep (sQ.n) (sQ.n.n.n)), iQ, trivial⟩, ?_⟩
    refine gQ 17 rfl rfl hF hS rfl (ef_storeW ty62 2 rfl rfl rfl rfl bQ oQ bQ) ?_
    rintro _ _ _ a w ⟨rfl, rfl, rfl⟩ hF hS
    replace hS : St _ (_ :: _) (_ :: _ :: _ :: _) _ := hS
    refine ⟨⟨iQ, iQ, iQ, iQ, iQ, iQ, iQ, iQ, iQ, iQ, iQ, iQ, iQ, iQ, iQ, trivial⟩, ?_⟩
    exact goW_done kQ (j3_mk v_8_15 z_8_16 p_8_16 ((And.intro hz_8_16 trivial)) (hF.sub (L' := [(10, _)]) ⟨rfl, trivial⟩) hS)
   rintro a w ⟨v_8_15, z_8_16, p_8_16, ⟨hz_8_16, -⟩, hF, hS⟩
   (try dsimp only at hF hS)
   refine hK12 _ _ ?_
   refine wp_ret ?_
   exact fn_retx (rs := [.cell 10 62]) rfl hF hS (vs := [_]) ⟨⟨_, _, _, _, _, _, _, rfl, List.mem_of_getElem? (i := 2) rfl, ty62, .inl ⟨rfl, bQ, rfl⟩⟩, trivial⟩ [] [_, _] (sQ.n) (sQ.n.k.k) (tr_of (σ := (Sha.ofD 3 [(ls.getD (lo - first).toNat kv0).1, (ls.getD (lo - first).toNat kv0).2], T ++ [Sha.inp 3 [(ls.getD (lo - first).toNat kv0).1, (ls.getD (lo - first).toNat kv0).2]], u, s)) ⟨_, rfl, rfl, rfl⟩ (by rw [Mk.rr_leaf ho hn3, ← hle]; rfl))
  ·have hn2 : 2 ≤ n := by omega
   have hhp := Mk.half_pos n
   have hhl := Mk.half_lt hn2
   have hbd := Mk.rr_bd h16 (lv := ls) (first := first) f (Mk.half n) p0 T u s hhp (by omega)
   obtain ⟨hr16, hrT, hru, _⟩ := hbd
   refine wp_skip ?_
   refine hK10 _ _ ?_
   refine regS hF hS (mQ rfl <| mQ rfl <| mQ rfl <| dQ rfl rfl <| q0 (q_call fn153 rfl (fun w hS => half_ct _ n (by omega) (by omega) (by omega) w ) (fun _ _ _ h => h)) <| pQ rfl rfl <| aQ rfl <| sq_end) fun a w hF hS => ?_
   refine reglS fun K14 hK14 => ?_
   refine lQ hF hS (mQ rfl <| mQ rfl <| mQ rfl <| mQ rfl <| mQ rfl <| sq_end) fun a w hF hS => ?_
   replace hS := hS.perm (.swap _ _ _)
   replace hS := hS.perm (.cons _ (.swap _ _ _))
   replace hS : St _ (_) (_ :: _ :: _ :: _) _ := hS
   refine eQ hF hS rfl (ef_callxN 2 fn121 rfl (by exact (ih _ _ p0 (Mk.half n) _ T u s  (by omega) (by omega) (by omega) (by omega) (by omega) (by omega) (by omega) ))) ?_
   rintro _ _ _ a w ⟨_, _, rfl, rfl, ⟨tv1, rfl, rfl, rfl⟩⟩ hF hS
   replace hS : St _ (_) (_ :: _ :: _ :: _) _ := hS
   refine eQ hF hS rfl (ef_allocA ty62) ?_
   rintro _ _ _ a w ⟨b3, rfl, rfl, rfl⟩ hF hS
   rw [show List.replicate 16 (Value.int .u8 0) = (List.replicate 16 (0 : UInt8)).map vb from by rw [List.map_replicate] <;> rfl] at hS
   refine eQ hF hS rfl (ef_storeW ty62 0 rfl rfl rfl rfl bQ oQ bQ) ?_
   rintro _ _ _ a w ⟨rfl, rfl, rfl⟩ hF hS
   replace hS := nt0_4 hS
   refine wpList_nil ?_
   obtain ⟨r1, hr1⟩ : ∃ r, r = (Mk.rr first ls sd f (Mk.half n) p0 T u s) := ⟨_, rfl⟩
   rw [← hr1] at hr16 hrT hru hS
   have hbd2 := Mk.rr_bd h16 (lv := ls) (first := first) f (n - Mk.half n) (p0 + Mk.half n) r1.2.1 r1.2.2.1 r1.2.2.2 (by omega) (by omega)
   obtain ⟨hs16, hsT, hsu, _⟩ := hbd2
   refine hK14 _ _ ?_
   refine reglS fun K15 hK15 => ?_
   refine lQ hF hS (mQ rfl <| mQ rfl <| mQ rfl <| mQ rfl <| mQ rfl <| sq_end) fun a w hF hS => ?_
   replace hS := hS.perm (.swap _ _ _)
   replace hS := hS.perm (.cons _ (.swap _ _ _))
   replace hS := nt0_4 hS
   refine eQ hF hS rfl (ef_callxN 2 fn121 rfl (by exact (ih _ _ (p0 + Mk.half n) (n - Mk.half n) _ r1.2.1 r1.2.2.1 r1.2.2.2  (by omega) (by omega) (by omega) (by omega) (by omega) (by omega) (by omega) ))) ?_
   rintro _ _ _ a w ⟨_, _, rfl, rfl, ⟨tv2, rfl, rfl, rfl⟩⟩ hF hS
   replace hS := nt0_4 hS
   refine eQ hF hS rfl (ef_allocA ty62) ?_
   rintro _ _ _ a w ⟨b5, rfl, rfl, rfl⟩ hF hS
   rw [show List.replicate 16 (Value.int .u8 0) = (List.replicate 16 (0 : UInt8)).map vb from by rw [List.map_replicate] <;> rfl] at hS
   refine eQ hF hS rfl (ef_storeW ty62 0 rfl rfl rfl rfl bQ oQ bQ) ?_
   rintro _ _ _ a w ⟨rfl, rfl, rfl⟩ hF hS
   replace hS := nt0_5 hS
   refine wpList_nil ?_
   obtain ⟨r2, hr2⟩ : ∃ r, r = Mk.rr first ls sd f (n - Mk.half n) (p0 + Mk.half n) r1.2.1 r1.2.2.1 r1.2.2.2 := ⟨_, rfl⟩
   rw [← hr2] at hs16 hsT hsu hS
   have ho16 := Sha.ofD_len 4 [r1.1, r2.1]
   refine hK15 _ _ ?_
   refine k0 ?_; intro K16 hK16
   revert hS; revert hF; apply regJ (J := J3 (α0 := Value) (α1 := PH) (α2 := Value) 104 _ _ _ _ _) #[false, false, false, false, false, false, false, false] 8 mixed rfl rfl
   ·intro w hF hS
    refine tQ 0 rfl hF (hS.keep sQ (sQ.n.n.n.n.n)) (q_move rfl) fun a hF => ?_
    refine tQ 1 rfl hF (hS.keep sQ (sQ.n.k.n.n.n)) (q_ld_blkW ty62 0 rfl rfl bQ rfl) fun a hF => ?_
    refine tQ 3 rfl hF (hS.keep sQ (sQ.n.n.n.n.k)) (q_ld_blkW ty62 0 rfl rfl bQ rfl) fun a hF => ?_
    refine gQ 2 rfl rfl hF hS rfl (ef_qt (q_call fn120 rfl (fun w hS => rtext_ct _ (by first | with_reducible assumption | omega | (simp; omega)) w ) (fun _ _ _ h => h))) ?_
    rintro _ _ _ a w ⟨rfl, rfl, rfl⟩ hF hS
    refine ⟨⟨.inr (hS.keep sQ (sQ.n.n.n.n.k)), iQ, .inr (hS.keep sQ (sQ.n.n.n.n.n)), trivial⟩, ?_⟩
    refine gQ 4 rfl rfl hF hS rfl (ef_qt (q_call fn120 rfl (fun w hS => rtext_ct _ (by first | with_reducible assumption | omega | (simp; omega)) w ) (fun _ _ _ h => h))) ?_
    rintro _ _ _ a w ⟨rfl, rfl, rfl⟩ hF hS
    refine ⟨⟨iQ, iQ, .inr (hS.keep sQ (sQ.n.n.n.n.n)), trivial⟩, ?_⟩
    refine gQ 5 rfl rfl hF hS rfl (ef_bsliceA ty40 ty9 rfl rfl oQ (by decide) rfl rfl) ?_
    rintro v_12_5 _ _ a w ⟨rfl, rfl⟩ hF hS
    replace hS : St _ (_) (_ :: _ :: _ :: _ :: _ :: _ :: _) _ := hS
    refine ⟨⟨iQ, iQ, .inr (hS.keep sQ (sQ.n.n.n.n.n.n)), trivial⟩, ?_⟩
    refine goW_fork [6] kQ rfl ⟨?_, trivial⟩
    obtain ⟨z_12_6, hz_12_6, hS⟩ := St.freezeV (h0 := fun _ => rfl) (f := vs) (p := fun s => s.length ≤ 140737488355328) (xs := [r1.1, r2.1]) hS (by first | rfl | (simp; done)) (by first | decide | omega | (simp; omega)) (Mk.two_le (by omega) (by omega))
    replace hS := hS.perm (.swap _ _ _)
    replace hS := hS.perm (.cons _ (.swap _ _ _))
    replace hS : St _ (_ :: _) (_ :: _ :: _ :: _ :: _ :: _) _ := hS
    refine stepW_ef _ rfl rfl hF hS rfl (ef_callxN 2 fn122 rfl (by exact (tof_ct _ _ _ r2.2.1 r2.2.2.1 r2.2.2.2 _ _ [r1.1, r2.1] (Mk.two_lt (by omega) (by omega)) (by simp) (by omega) _ _ _ _ _ hz_12_6 (.inr (by simp)) hg0))) ?_
    rintro _ _ _ a w ⟨_, _, rfl, rfl, ⟨p_12_6, rfl, rfl, rfl⟩⟩ hF hS
    replace hS : St _ (_ :: _) (_ :: _ :: _ :: _ :: _ :: _) _ := hS
    refine ⟨⟨iQ, iQ, iQ, trivial⟩, ?_⟩
    refine gQ 7 rfl rfl hF hS rfl (ef_storeW ty62 4 rfl rfl rfl rfl bQ oQ bQ) ?_
    rintro _ _ _ a w ⟨rfl, rfl, rfl⟩ hF hS
    replace hS : St _ (_ :: _) (_ :: _ :: _ :: _ :: _ :: _) _ := hS
    refine ⟨⟨iQ, iQ, iQ, trivial⟩, ?_⟩
    exact goW_done kQ (j3_mk v_12_5 z_12_6 p_12_6 ((And.intro hz_12_6 trivial)) (hF.sub (L' := [(10, _)]) ⟨rfl, trivial⟩) hS)
   rintro a w ⟨v_12_5, z_12_6, p_12_6, ⟨hz_12_6, -⟩, hF, hS⟩
   (try dsimp only at hF hS)
   refine hK16 _ _ ?_
   refine wp_ret ?_
   exact fn_retx (rs := [.cell 10 62]) rfl hF hS (vs := [_]) ⟨⟨_, _, _, _, _, _, _, rfl, List.mem_of_getElem? (i := 4) rfl, ty62, .inl ⟨rfl, bQ, rfl⟩⟩, trivial⟩ [] [_, _] (sQ.n) (sQ.n.n.n.k.k) (tr_of (σ := (Sha.ofD 4 [r1.1, r2.1], r2.2.1 ++ [Sha.inp 4 [r1.1, r2.1]], r2.2.2.1, r2.2.2.2)) ⟨_, rfl, rfl, rfl⟩ (by rw [Mk.rr_node ho hn2 hr1 hr2]; rfl))
theorem row_ct (e : Nat) (sv v : Value) (ls : List Mk.Lf) (first : Nat) (sd : List Mk.Dg) (hl : ls.length < 1048576) (hx : ∀ x ∈ ls, x.1.length < 1048576 ∧ x.2.length < 1048576) (h16 : ∀ d ∈ sd, d.length = 16) (hf9 : first ≤ 1048576) (fz0 : Nat × Nat) (bt0 : TypeId) (w0 : World) (zsr : List PH) (hb : Sl encF (ph w0) v ls) (hsd : Sl (encA 16) (ph w0) sv sd) (hg0 : w0.heap[0]? = some (.cells (Sha.kc.map vw).toArray bt0 fz0)) : ∀ (f : Nat) (lo hi : Int) (p0 n : Nat) (tv : Value) (T : Mk.Tx) (u : Nat) (s : Bool) (hp : lo = p0) (hh : hi = p0 + n) (hn1 : 1 ≤ n) (hnf : n ≤ f) (hp9 : p0 + n ≤ 1048576) (hT9 : T.length + 2 * n ≤ 100000000) (hu9 : u + n ≤ 100000000), Cx Tryz.prog 121 [.pointer (some ⟨e, 0, none⟩), v, vi (first : Int), vi lo, vi hi] w0 zsr [.blk e 153 [tv, sv, vi ((u : Nat) : Int), vt (s)], .row tv 9 1 (T).length ((T).map vs)] (TrR e sv (Mk.rr first ls sd f n p0 T u s)) := by
 intro f
 induction f with
 | zero => intro lo hi p0 n tv T u s hp hh hn1 hnf; omega
 | succ f ih => exact fun lo hi p0 n tv T u s hp hh hn1 hnf hp9 hT9 hu9 => row_step e sv v ls first sd hl hx h16 hf9 fz0 bt0 w0 zsr hb hsd hg0 f ih lo hi p0 n tv T u s hp hh hn1 hnf hp9 hT9 hu9
theorem troot_ct (e : Nat) (sv tv v : Value) (ls : List Mk.Lf) (first : Nat) (sd : List Mk.Dg) (size : Int) (n : Nat) (hl : ls.length < 1048576) (hx : ∀ x ∈ ls, x.1.length < 1048576 ∧ x.2.length < 1048576) (h16 : ∀ d ∈ sd, d.length = 16) (hf9 : first ≤ 1048576) (hn : size = n) (hn9 : n ≤ 1048576) (fz0 : Nat × Nat) (bt0 : TypeId) (w0 : World) (zsr : List PH) (hb : Sl encF (ph w0) v ls) (hsd : Sl (encA 16) (ph w0) sv sd) (hg0 : w0.heap[0]? = some (.cells (Sha.kc.map vw).toArray bt0 fz0)) : Cx Tryz.prog 78 [.pointer (some ⟨e, 0, none⟩), v, vi (first : Int), vi size] w0 zsr [.blk e 153 [tv, sv, vi ((0 : Nat) : Int), vt (false)], .row tv 9 1 (([] : Mk.Tx)).length ((([] : Mk.Tx)).map vs)] (TrR e sv (Mk.rrR first ls sd n)) := by
 refine fn_enterx Tryz.func78 rfl Tryz.ntmps78 (Nat.le_of_ble_eq_true rfl) fun hsr a w hF hS => ?_
 replace hS : St _ (_) (_ :: _ :: _) _ := hS
 have hbl := hb.1
 have hil := Wi.int_len9 size
 have hos := Sha.ofD_len 4 [Wi.int size]
 refine reglS fun K1 hK1 => ?_
 refine eQ hF hS rfl (ef_allocA ty62) ?_
 rintro _ _ _ a w ⟨b1, rfl, rfl, rfl⟩ hF hS
 rw [show List.replicate 16 (Value.int .u8 0) = (List.replicate 16 (0 : UInt8)).map vb from by rw [List.map_replicate] <;> rfl] at hS
 refine wpList_nil (hK1 _ _ ?_)
 refine reglS fun K2 hK2 => ?_
 refine lQ hF hS (mQ rfl <| sq_end) fun a w hF hS => ?_
 refine eQ hF hS rfl (ef_call fn54 rfl (fun w hS => rint_ct _ (by omega) w )) ?_
 rintro v2 _ _ a w ⟨_, _, rfl, rfl, rfl, rfl⟩ hF hS
 replace hS := nt0_4 hS
 refine lQ hF hS (q0 (q_b2s_row ty25 ty9 ty5 0 rfl rfl) <| sq_end) fun a w hF hS => ?_
 refine eQ hF hS rfl (ef_bsliceA ty40 ty9 rfl rfl oQ (by decide) rfl rfl) ?_
 rintro v4 _ _ a w ⟨rfl, rfl⟩ hF hS
 replace hS := nt0_5 hS
 refine lQ hF hS (aQ rfl <| sq_end) fun a w hF hS => ?_
 refine wpList_nil (hK2 _ _ ?_)
 refine k0 ?_; intro K3 hK3
 refine regS hF hS (mQ rfl <| q0 (q_gti rfl rfl) <| sq_end) fun a w hF hS => ?_
 refine wp_ifd hF rfl (fun hc1 => ?_) (fun hc1 => ?_)
 ·have hn0 : ¬ n = 0 := by omega
  have hbd := Mk.rr_bd h16 (lv := ls) (first := first) n n 0 [] 0 false (by omega) (Nat.le_refl _)
  obtain ⟨hr16, hrT, hru, _⟩ := hbd
  rw [List.length_nil] at hrT
  obtain ⟨r1, hr1⟩ : ∃ r, r = Mk.rr first ls sd n n 0 [] 0 false := ⟨_, rfl⟩
  rw [← hr1] at hr16 hrT hru
  have hos2 := Sha.ofD_len 4 [Wi.int size, r1.1]
  refine regl ?_
  refine lQ hF hS (mQ rfl <| mQ rfl <| mQ rfl <| mQ rfl <| mQ rfl <| sq_end) fun a w hF hS => ?_
  replace hS := hS.perm P0_2
  replace hS := hS.perm (.cons _ (.cons _ (.cons _ (.swap _ _ _))))
  replace hS := hS.perm (.cons _ (.cons _ (.swap _ _ _)))
  replace hS := hS.perm (.cons _ (.swap _ _ _))
  replace hS := nt0_5 hS
  refine eQ hF hS rfl (ef_callxN 2 fn121 rfl (by exact (row_ct _ sv _ _ first sd hl hx h16 hf9 _ _ _ _ hb hsd hg0 n _ _ 0 n tv [] 0 false rfl (by omega) (by omega) (Nat.le_refl _) (by omega) (by rw [List.length_nil]; omega) (by omega) ))) ?_
  rintro _ _ _ a w ⟨_, _, rfl, rfl, ⟨tv1, rfl, rfl, rfl⟩⟩ hF hS
  rw [← hr1] at hF hS
  replace hS := nt0_5 hS
  refine lQ hF hS (q0 (q_call fn120 rfl (fun w hS => rtext_ct _ (by first | with_reducible assumption | omega | (simp; omega)) w ) (fun _ _ _ h => h)) <| sq_end) fun a w hF hS => ?_
  refine eQ hF hS rfl (ef_bsliceA ty40 ty9 rfl rfl oQ (by decide) rfl rfl) ?_
  rintro v7 _ _ a w ⟨rfl, rfl⟩ hF hS
  replace hS : St _ (_) (_ :: _ :: _ :: _ :: _ :: _ :: _) _ := hS
  refine eQ hF hS rfl (ef_append ty40 ty9 3 rfl rfl rfl (src_row ty40 (k := 0) rfl oQ) bQ rfl (by decide)) ?_
  rintro v9 _ _ a w ⟨rfl, rfl⟩ hF hS
  replace hS : St _ (_) (_ :: _ :: _ :: _ :: _ :: _ :: _) _ := hS
  refine lQ hF hS (aQ rfl <| sq_end) fun a w hF hS => ?_
  refine wpList_nil (hK3 _ _ ?_)
  refine reglS fun K5 hK5 => ?_
  refine lQ hF hS (mQ rfl <| mQ rfl <| sq_end) fun a w hF hS => ?_
  replace hS := hS.perm P0_2
  obtain ⟨z10, hz11, hS⟩ := St.freezeV (h0 := fun _ => rfl) (f := vs) (p := fun s => s.length ≤ 140737488355328) (xs := [Wi.int size, r1.1]) hS (by first | rfl | (simp; done)) (by first | decide | omega | (simp; omega)) (Mk.two_le (by omega) (by omega))
  replace hS := hS.perm (.swap _ _ _)
  replace hS := hS.perm (.cons _ (.swap _ _ _))
  replace hS : St _ (_ :: _) (_ :: _ :: _ :: _ :: _ :: _) _ := hS
  refine eQ hF hS rfl (ef_callxN 2 fn122 rfl (by exact (tof_ct _ sv _ _ r1.2.2.1 r1.2.2.2 _ _ [Wi.int size, r1.1] (Mk.two_lt (by omega) (by omega)) (by simp) (by first | omega | (simp; done)) _ _ _ _ _ hz11 (.inr (by simp)) hg0))) ?_
  rintro _ _ _ a w ⟨_, _, rfl, rfl, ⟨p13, rfl, rfl, rfl⟩⟩ hF hS
  replace hS : St _ (_ :: _) (_ :: _ :: _ :: _ :: _ :: _) _ := hS
  refine eQ hF hS rfl (ef_storeW ty62 4 rfl rfl rfl rfl bQ oQ bQ) ?_
  rintro _ _ _ a w ⟨rfl, rfl, rfl⟩ hF hS
  replace hS : St _ (_ :: _) (_ :: _ :: _ :: _ :: _ :: _) _ := hS
  refine wpList_nil (hK5 _ _ ?_)
  refine wp_ret ?_
  exact fn_retx (rs := [.cell 8 62]) rfl hF hS (vs := [_]) ⟨⟨_, _, _, _, _, _, _, rfl, List.mem_of_getElem? (i := 4) rfl, ty62, .inl ⟨rfl, bQ, rfl⟩⟩, trivial⟩ [] [_, _] (sQ.n) (sQ.n.n.n.k.k) (tr_of (σ := (Sha.ofD 4 [Wi.int size, r1.1], r1.2.1 ++ [Sha.inp 4 [Wi.int size, r1.1]], r1.2.2.1, r1.2.2.2)) ⟨_, rfl, rfl, rfl⟩ (by rw [Mk.rrR_n hn0 hr1, Mk.rootD_n hn0, Mk.rootT_n hn0, ← hn]))
 ·have hn0 : n = 0 := by omega
  refine wp_skip ?_
  refine hK3 _ _ ?_
  refine reglS fun K6 hK6 => ?_
  refine lQ hF hS (mQ rfl <| mQ rfl <| sq_end) fun a w hF hS => ?_
  obtain ⟨z14, hz15, hS⟩ := St.freezeV (h0 := fun _ => rfl) (f := vs) (p := fun s => s.length ≤ 140737488355328) (xs := [Wi.int size]) hS (by first | rfl | (simp; done)) (by first | decide | omega | (simp; omega)) (by simp; omega)
  replace hS := hS.perm (.cons _ (.swap _ _ _))
  replace hS := hS.perm (.swap _ _ _)
  replace hS := hS.perm P1_2
  replace hS := nt1_4 hS
  refine eQ hF hS rfl (ef_callxN 2 fn122 rfl (by exact (tof_ct _ sv _ _ 0 false _ _ [Wi.int size] (by simp; omega) (by simp) (by first | omega | (simp; done)) _ _ _ _ _ hz15 (.inr (by simp)) hg0))) ?_
  rintro _ _ _ a w ⟨_, _, rfl, rfl, ⟨p17, rfl, rfl, rfl⟩⟩ hF hS
  replace hS := nt1_4 hS
  refine eQ hF hS rfl (ef_storeW ty62 3 rfl rfl rfl rfl bQ oQ bQ) ?_
  rintro _ _ _ a w ⟨rfl, rfl, rfl⟩ hF hS
  replace hS := nt1_4 hS
  refine wpList_nil (hK6 _ _ ?_)
  refine wp_ret ?_
  exact fn_retx (rs := [.cell 8 62]) rfl hF hS (vs := [_]) ⟨⟨_, _, _, _, _, _, _, rfl, List.mem_of_getElem? (i := 3) rfl, ty62, .inl ⟨rfl, bQ, rfl⟩⟩, trivial⟩ [] [_, _] (sQ.n) (sQ.n.n.k.k) (tr_of (σ := (Sha.ofD 4 [Wi.int size], [] ++ [Sha.inp 4 [Wi.int size]], 0, false)) ⟨_, rfl, rfl, rfl⟩ (by rw [Mk.rrR_0 _ _ _ hn0, Mk.rootD_0, Mk.rootT_0, hn, hn0]; rfl))
end
section
theorem fn78 : FnOk Tryz.prog 78 := fQ Tryz.func78
attribute [local irreducible] Sha.sum Sha.mac Sha.ofD Wi.int Wi.ints Wi.bytes Sha.inp Mk.half Lib.compareBytes
end
section
attribute [local irreducible] Sha.sum Sha.mac Sha.ofD Wi.int Wi.ints Wi.bytes Sha.inp Mk.half Lib.compareBytes Mk.frm
theorem own_ct (v : Value) (ls : List Mk.Lf) (hl : ls.length < 1048576) (w : World) (hb : Sl encF (ph w) v ls) : Ct Tryz.prog 41 [v] w (SlR encF ls) := by
 refine fn_enter Tryz.func41 rfl Tryz.ntmps41 (Nat.le_of_ble_eq_true rfl) fun a hF hS => ?_
 have hbl := hb.1
 have hkv := F_all hb
 have hkt : ∀ (m : Nat), (ls.take m).length ≤ 1048576 := fun m => by rw [List.length_take]; omega
 refine regS hF hS (aQ rfl <| sq_end) fun a w hF hS => ?_
 refine k0 ?_; intro K2 hK2
 refine reg hF hS (aQ rfl <| sq_end) fun a w hF hS => ?_
 replace hS := hS.nilRow 142 2
 refine hK2 _ _ ?_
 refine k0 ?_; intro K3 hK3
 refine regS hF hS (aQ rfl <| sq_end) fun a w hF hS => ?_
 refine wp_block ?_
 obtain ⟨hs0, hhs0, hS⟩ := hS.oh
 refine wp_loopx (γ := Value × Int) ((Value.slice none 0 0), 0) (fun (u, i) => [(3, u), (4, vi i)]) [(0, _)] (fun (u, i) => (hs0.set 0 (.row u 142 2 (ls.take i.toNat).length ((ls.take i.toNat).flatMap kvC)))) (fun (u, i) => 0 ≤ i ∧ i ≤ ls.length) (fun (u, i) => (ls.length - i).toNat) (hF.sub ⟨rfl, rfl, rfl, trivial⟩) (by subst hhs0; exact hS) (by exact ⟨Int.le_refl _, by omega⟩) ?_
 rintro ⟨u, i⟩ a w hfact hF hS
 subst hhs0; (try dsimp only at hfact hF hS)
 obtain ⟨hi0, hi1⟩ := hfact
 replace hS := nl0_1 hS
 have htl : (ls.take i.toNat).length = i.toNat := by rw [List.length_take]; omega
 refine k0 ?_; intro K5 hK5
 refine regS hF hS (mQ rfl <| mQ rfl <| q0 (q_len_sl ty68 hb rfl) <| q0 (q_lti rfl rfl) <| sq_end) fun a w hF hS => ?_
 refine wp_ifd hF rfl (fun hc1 => ?_) (fun hc1 => ?_)
 ·refine wp_skip ?_
  refine hK5 _ _ ?_
  refine k0 ?_; intro K7 hK7
  refine wp_block ?_
  revert hS; revert hF; apply regJ (J := J2 (α0 := Value) (α1 := Value) 26 _ _ _ _ _) #[false, false, false, false, false, false, false, false, false, false, false, false, false, false, false] 15 mixed rfl rfl
  ·intro w hF hS
   refine tQ 0 rfl hF (hS.keep sQ zQ) (q_move rfl) fun a hF => ?_
   refine tQ 1 rfl hF (hS.keep sQ zQ) (q_move rfl) fun a hF => ?_
   refine tQ 2 rfl hF (hS.keep sQ zQ) (q_move rfl) fun a hF => ?_
   refine tQ 3 rfl hF (hS.keep sQ zQ) (q_idx_sl ty68 ty147 hb rfl rfl (by omega)) fun a hF => ?_
   refine tQ 4 rfl hF (hS.keep sQ zQ) (q_fld_F ty147 hb rfl (by omega) rfl (s' := 0) kQ) fun a hF => ?_
   refine tQ 5 rfl hF (hS.keep sQ zQ) (q_ld_FK ty9 hb zin0 rfl rfl (by omega)) fun a hF => ?_
   refine tQ 6 rfl hF (hS.keep sQ zQ) (q_move rfl) fun a hF => ?_
   refine tQ 7 rfl hF (hS.keep sQ zQ) (q_move rfl) fun a hF => ?_
   refine tQ 8 rfl hF (hS.keep sQ zQ) (q_idx_sl ty68 ty147 hb rfl rfl (by omega)) fun a hF => ?_
   refine tQ 9 rfl hF (hS.keep sQ zQ) (q_fld_F ty147 hb rfl (by omega) rfl (s' := 0) kQ) fun a hF => ?_
   refine tQ 10 rfl hF (hS.keep sQ zQ) (q_ld_FV ty9 hb zin0 rfl rfl (by omega)) fun a hF => ?_
   refine tQ 11 rfl hF (hS.keep sQ zQ) (q_buildS1 ty142 2 kQ rfl rfl (oc_cons rfl (oc_cons rfl oc_nil)) rfl rfl) fun a hF => ?_
   refine gQ 12 rfl rfl hF hS rfl (ef_bsliceW ty72 ty142 rfl bQ (by decide) oQ (by decide) (by decide)) ?_
   rintro v_5_12 _ _ a w ⟨rfl, rfl⟩ hF hS
   refine ⟨⟨iQ, iQ, .inr hS.k0, .inr hS.k0, .inr hS.k0, .inr hS.k0, iQ, .inr hS.k0, .inr hS.k0, .inr hS.k0, .inr hS.k0, .inr hS.k0, trivial⟩, ?_⟩
   refine gQ 13 rfl rfl hF hS rfl (ef_append ty72 ty142 1 rfl rfl rfl (src_row ty72 (k := 0) rfl oQ) bQ rfl (by decide)) ?_
   rintro v_5_13 _ _ a w ⟨rfl, rfl⟩ hF hS
   refine ⟨⟨iQ, iQ, .inr hS.k0, .inr hS.k0, .inr hS.k0, .inr hS.k0, iQ, .inr hS.k0, .inr hS.k0, .inr hS.k0, .inr hS.k0, iQ, trivial⟩, ?_⟩
   refine tQ 14 rfl hF (hS.keep sQ zQ) (q_assign rfl) fun a hF => ?_
   exact goW_done kQ (j2_mk v_5_12 v_5_13 (trivial) (hF.sub (L' := [(0, _), (3, _), (4, _)]) ⟨rfl, rfl, rfl, trivial⟩) hS)
  rintro a w ⟨v_5_12, v_5_13, -, hF, hS⟩
  (try dsimp only at hF hS)
  refine hK7 _ _ ?_
  refine reg hF hS (mQ rfl <| pQ rfl rfl <| aQ rfl <| sq_end) fun a w hF hS => ?_
  replace hS := hS.keep zQ (sQ.n)
  refine ⟨(v_5_13, i + 1), ?_, ?_, hF.sub ⟨rfl, rfl, rfl, trivial⟩, ?_⟩
  ·(try dsimp only); omega
  ·omega
  ·(try dsimp only); rw [show (i + 1).toNat = i.toNat + 1 by omega, Mk.take_snoc kv0 (by omega), List.flatMap_append, List.length_append]; exact hS
 ·obtain rfl : i = ls.length := by omega
  rw [Int.toNat_natCast, List.take_length] at hS
  refine wp_exit ?_
  refine hK3 _ _ ?_
  refine regS hF hS (mQ rfl <| aQ rfl <| sq_end) fun a w hF hS => ?_
  refine wp_ret ?_
  obtain ⟨zr, hzr, hS⟩ := St.freezeF (xs := ls) (hS.rowEq (m' := List.length (ls)) (cs' := List.flatMap kvC (ls)) (rfl) (rfl)) rfl (by omega) (hkv)
  exact fn_ret (rs := [.tmp 2]) rfl hF hS (vs := [_]) ⟨rfl, trivial⟩ (zs' := [zr]) (hs' := []) (List.singleton_sublist.2 (by simp)) zQ ⟨zr, hzr, rfl, rfl⟩
theorem samel_ct (v1 v2 : Value) (xa xb : List Mk.Lf) (w : World) (hb1 : Sl encF (ph w) v1 xa) (hb2 : Sl encF (ph w) v2 xb) : Ct Tryz.prog 42 [v1, v2] w (fun r _ _ => r = .bool (decide (xa = xb))) := by
 refine fn_enter Tryz.func42 rfl Tryz.ntmps42 (Nat.le_of_ble_eq_true rfl) fun a hF hS => ?_
 have hla := hb1.1
 have hlb := hb2.1
 refine regS hF hS (aQ rfl <| sq_end) fun a w hF hS => ?_
 refine k0 ?_; intro K2 hK2
 refine regS hF hS (mQ rfl <| q0 (q_len_sl ty68 hb1 rfl) <| mQ rfl <| q0 (q_len_sl ty68 hb2 rfl) <| q0 (q_nei rfl rfl) <| sq_end) fun a w hF hS => ?_
 refine wp_ifn hF rfl (fun hc1 => ?_) (fun hc1 => ?_)
 ·refine k0 ?_; intro K4 hK4
  refine reg hF hS (aQ rfl <| sq_end) fun a w hF hS => ?_
  refine hK4 _ _ ?_
  refine wp_ret ?_
  exact fn_ret (rs := [.tmp 4]) rfl hF hS (vs := [_]) ⟨rfl, trivial⟩ zQ zQ (Ls.same_len hc1)
 ·refine wp_skip ?_
  refine hK2 _ _ ?_
  refine k0 ?_; intro K5 hK5
  refine regS hF hS (aQ rfl <| sq_end) fun a w hF hS => ?_
  refine wp_block ?_
  obtain ⟨hs0, hhs0, hS⟩ := hS.oh
  refine wp_loopx (γ := Int) (0) (fun (i : Int) => [(5, vi i)]) [(0, _), (1, _)] (fun (i : Int) => hs0) (fun (i : Int) => 0 ≤ i ∧ i ≤ xa.length ∧ xa.take i.toNat = xb.take i.toNat) (fun (i : Int) => (xa.length - i).toNat) (hF.sub ⟨rfl, rfl, rfl, trivial⟩) (by subst hhs0; exact hS) (by exact ⟨Int.le_refl _, by omega, rfl⟩) ?_
  rintro i a w hfact hF hS
  subst hhs0; (try dsimp only at hfact hF hS)
  obtain ⟨hi0, hi1, htk⟩ := hfact
  replace hS : St _ [] [] _ := hS
  refine k0 ?_; intro K7 hK7
  refine regS hF hS (mQ rfl <| mQ rfl <| q0 (q_len_sl ty68 hb1 rfl) <| q0 (q_lti rfl rfl) <| sq_end) fun a w hF hS => ?_
  refine wp_ifd hF rfl (fun hc2 => ?_) (fun hc2 => ?_)
  ·have hi2 : i < xb.length := by omega
   refine wp_skip ?_
   refine hK7 _ _ ?_
   refine k0 ?_; intro K9 hK9
   refine wp_block ?_
   refine k0 ?_; intro K10 hK10
   refine regq mixed kQ hS ?_
   refine wpq_seg hF (mQ rfl <| mQ rfl <| q0 (q_idx_sl ty68 ty147 hb1 rfl rfl (by omega)) <| q0 (q_fld_F ty147 hb1 rfl (by omega) rfl (s' := 0) kQ) <| q0 (q_ld_FK ty9 hb1 zin0 rfl rfl (by omega)) <| mQ rfl <| mQ rfl <| q0 (q_idx_sl ty68 ty147 hb2 rfl rfl (by omega)) <| q0 (q_fld_F ty147 hb2 rfl (by omega) rfl (s' := 0) kQ) <| q0 (q_ld_FK ty9 hb2 zin0 rfl rfl (by omega)) <| q0 (q_nes rfl rfl) <| mQ rfl <| sq_end) fun a hF => ?_
   refine wpq_or 11 28 11 hF rfl rfl rfl rfl rfl (fun hg => have hg := (nd_false hg); sq_go 28 rfl rfl rfl (q_move rfl) <| sq_go 28 rfl rfl rfl (q_move rfl) <| sq_go 28 rfl rfl rfl (q_idx_sl ty68 ty147 hb1 rfl rfl (by omega)) <| sq_go 28 rfl rfl rfl (q_fld_F ty147 hb1 rfl (by omega) rfl (s' := 0) kQ) <| sq_go 28 rfl rfl rfl (q_ld_FV ty9 hb1 zin0 rfl rfl (by omega)) <| sq_go 28 rfl rfl rfl (q_move rfl) <| sq_go 28 rfl rfl rfl (q_move rfl) <| sq_go 28 rfl rfl rfl (q_idx_sl ty68 ty147 hb2 rfl rfl (by omega)) <| sq_go 28 rfl rfl rfl (q_fld_F ty147 hb2 rfl (by omega) rfl (s' := 0) kQ) <| sq_go 28 rfl rfl rfl (q_ld_FV ty9 hb2 zin0 rfl rfl (by omega)) <| sq_go 28 rfl rfl rfl (q_nes rfl rfl) <| sq_end) rfl rfl fun a hF => ?_
   refine wpq_nil ?_
   clear hS; intro w hS
   refine hK10 _ _ ?_
   refine wp_if hF rfl (fun hc3 => ?_) (fun hc3 => ?_)
   ·(try simp only [bS] at hc3)
    have hne : ¬ xa.getD i.toNat kv0 = xb.getD i.toNat kv0 := fun e => by rw [e] at hc3; simp at hc3
    refine regS hF hS (aQ rfl <| sq_end) fun a w hF hS => ?_
    refine wp_ret ?_
    exact fn_ret (rs := [.tmp 4]) rfl hF hS (vs := [_]) ⟨rfl, trivial⟩ zQ zQ (Ls.same_ne kv0 hne)
   ·(try simp only [bS] at hc3)
    have heq : xa.getD i.toNat kv0 = xb.getD i.toNat kv0 := Prod.ext (by simpa using hc3.1) (by simpa using hc3.2)
    refine wp_skip ?_
    refine hK9 _ _ ?_
    refine reg hF hS (mQ rfl <| pQ rfl rfl <| aQ rfl <| sq_end) fun a w hF hS => ?_
    refine ⟨(i + 1), ?_, ?_, hF.sub ⟨rfl, rfl, rfl, trivial⟩, ?_⟩
    ·(try dsimp only); omega
    ·refine ⟨by omega, by omega, Ls.same_step kv0 hi0 (by omega) hc1 heq htk⟩
    ·exact hS
  ·refine wp_exit ?_
   refine hK5 _ _ ?_
   refine regS hF hS (aQ rfl <| sq_end) fun a w hF hS => ?_
   refine wp_ret ?_
   exact fn_ret (rs := [.tmp 4]) rfl hF hS (vs := [_]) ⟨rfl, trivial⟩ zQ zQ (Ls.same_eq hc1 hc2 htk)
end
section
theorem ty78 : Tf Tryz.prog 78 (.struct #[⟨ "First", 3, 0, false, "", "", 0⟩, ⟨ "Size", 3, 1, false, "", "", 8⟩, ⟨ "Leaves", 68, 2, false, "", "", 16⟩, ⟨ "Sides", 76, 3, false, "", "", 40⟩]) 4 64 (.agg ([Value.int .i64 0, Value.int .i64 0] ++ [Value.slice none 0 0, Value.slice none 0 0]).toArray) := ⟨Tryz.underlying78, by kernel_rfl⟩
attribute [local irreducible] Sha.sum Sha.mac Sha.ofD Wi.int Wi.ints Wi.bytes Sha.inp Mk.half Lib.compareBytes Mk.frm Mk.rootD
/-- A proof whose leaves are copied. -/
def PmR (q : Mk.Pf) (sv : Value) : Value → List PH → List Res → Prop := fun r zs hs => ∃ lv z, r = .agg [vi q.fst, vi q.sz, lv, sv].toArray ∧ Sl encF z lv q.lv ∧ zs = [z] ∧ hs = []
theorem coll_ct (v : Value) (ls : List Mk.Lf) (q : Mk.Pf) (lv sv : Value) (hl : ls.length ≤ 4096) (hx : ∀ x ∈ ls, x.1.length < 1048576 ∧ x.2.length < 1048576) (hy : ∀ x ∈ q.lv, x.1.length < 1048576 ∧ x.2.length < 1048576) (hql : q.lv.length < 1048576) (w : World) (hb1 : Sl encF (ph w) v ls) (hb : Sl encF (ph w) lv q.lv) (hsd : Sl (encA 16) (ph w) sv q.sd) {fz0 : Nat × Nat} {bt0 : TypeId} (hg0 : w.heap[0]? = some (.cells (Sha.kc.map vw).toArray bt0 fz0)) : Ct Tryz.prog 43 [v, .agg [vi q.fst, vi q.sz, lv, sv].toArray] w (fun r _ _ => r = .bool (Mk.coll ls q)) := by
 refine fn_enter Tryz.func43 rfl Tryz.ntmps43 (Nat.le_of_ble_eq_true rfl) fun a hF hS => ?_
 obtain ⟨qf, qs, ql, qd⟩ := q
 dsimp only at hF hb hsd
 have hbl := hb.1
 have hdl : qd.length ≤ 140737488355328 := hsd.1
 have hs16 : ∀ d ∈ qd, d.length = 16 := sl_A hsd
 dsimp only at hy hql
 have hbl1 := hb1.1
 obtain ⟨σ1, hσ1⟩ : ∃ σ, σ = Mk.rrR 0 ls [] ls.length := ⟨_, rfl⟩
 have hTL : Mk.txL ls = σ1.2.1 := by rw [hσ1]; rfl
 have hb0 := Mk.tx_bd (q := ⟨qf, qs, ql, qd⟩) hl hx hy hs16
 have hb0a := hb0.2.1
 have hb0b := hb0.2.2
 refine reglS fun K1 hK1 => ?_
 refine eQ hF hS rfl (ef_boxA rfl) ?_
 rintro _ _ _ a w ⟨b1, rfl, rfl, rfl⟩ hF hS
 refine lQ hF hS (aQ rfl <| sq_end) fun a w hF hS => ?_
 refine wpList_nil (hK1 _ _ ?_)
 refine reglS fun K2 hK2 => ?_
 refine lQ hF hS (q0 (q_buildP (places := [(0, 1), (1, 1), (2, 1), (3, 1)]) (cells := [.slice none 0 0, .slice none 0 0, .int .i64 0, .bool false]) ty153 kQ rfl (by rfl)) <| sq_end) fun a w hF hS => ?_
 refine eQ hF hS rfl (ef_boxA rfl) ?_
 rintro _ _ _ a w ⟨b2, rfl, rfl, rfl⟩ hF hS
 refine lQ hF hS (aQ rfl <| sq_end) fun a w hF hS => ?_
 refine wpList_nil ?_
 replace hS := hS.nilRow 9 1
 refine hK2 _ _ ?_
 refine reglS fun K3 hK3 => ?_
 refine lQ hF hS (mQ rfl <| mQ rfl <| mQ rfl <| q0 (q_len_sl ty68 hb1 rfl) <| sq_end) fun a w hF hS => ?_
 replace hS := hS.perm (.swap _ _ _)
 replace hS := nl0_3 hS
 refine eQ hF hS rfl (ef_callxN 2 fn78 rfl (by exact (troot_ct _ (.slice none 0 0) (.slice none 0 0) _ ls 0 [] _ ls.length (by omega) hx (fun _ h => by cases h) (by omega) rfl (by omega) _ _ _ _ hb1 sl_nil hg0 ))) ?_
 rintro _ _ _ a w ⟨_, _, rfl, rfl, ⟨tv1, rfl, rfl, rfl⟩⟩ hF hS
 rw [← hσ1] at hF hS
 replace hS := nl0_3 hS
 refine wpList_nil (hK3 _ _ ?_)
 refine reglS fun K4 hK4 => ?_
 refine lQ hF hS (q0 (q_fieldAddr ty78 rfl rfl (s' := 0) kQ) <| q0 (q_ld_blk1 ty76 2 rfl rfl rfl rfl) <| q0 (q_build1 ty153 4 kQ rfl (sl_one' hsd) rfl (by decide)) <| sq_end) fun a w hF hS => ?_
 refine eQ hF hS rfl (ef_boxA rfl) ?_
 rintro _ _ _ a w ⟨b5, rfl, rfl, rfl⟩ hF hS
 refine lQ hF hS (aQ rfl <| sq_end) fun a w hF hS => ?_
 refine wpList_nil ?_
 replace hS := hS.nilRow 9 1
 refine hK4 _ _ ?_
 obtain ⟨hs0, hhs0, hS⟩ := hS.oh
 refine wp_cutx (γ := Value × Mk.Tx × Nat × Bool) (fun (tw, T2, u2, s2) => []) [(5, _), (6, _)] (fun (tw, T2, u2, s2) => ((hs0.set 1 (.blk b5 153 [tw, sv, vi ((u2 : Nat) : Int), vt (s2)])).set 0 (.row tw 9 1 (T2).length ((T2).map vs)))) (fun (tw, T2, u2, s2) => T2 = Mk.txP ⟨qf, qs, ql, qd⟩) (hF.sub ⟨rfl, rfl, trivial⟩) hS ?_ ?_
 ·subst hhs0
  refine reglS fun K5 hK5 => ?_
  refine lQ hF hS (q0 (q_fieldAddr ty78 rfl rfl (s' := 0) kQ) <| q0 (q_ld_blk1 ty3 4 rfl rfl rfl rfl) <| q0 (q_gei rfl rfl) <| mQ rfl <| sq_end) fun a w hF hS => ?_
  refine wpl_and 3 25 3 hF hS rfl rfl rfl rfl rfl (fun hg => have hg := (by first | exact of_decide_eq_true hg | exact hg); sq_go 25 rfl rfl rfl (q_fieldAddr ty78 rfl rfl (s' := 0) kQ) <| sq_go 25 rfl rfl rfl (q_ld_blk1 ty3 4 rfl rfl rfl rfl) <| sq_go 25 rfl rfl rfl (q_lei rfl rfl) <| sq_end) rfl rfl fun a w hF hS => ?_
  refine lQ hF hS (mQ rfl <| sq_end) fun a w hF hS => ?_
  refine wpl_and 8 30 3 hF hS rfl rfl rfl rfl rfl (fun hg => have hg := hg; sq_go 30 rfl rfl rfl (q_fieldAddr ty78 rfl rfl (s' := 0) kQ) <| sq_go 30 rfl rfl rfl (q_ld_blk1 ty3 4 rfl rfl rfl rfl) <| sq_go 30 rfl rfl rfl (q_gei rfl rfl) <| sq_end) rfl rfl fun a w hF hS => ?_
  refine lQ hF hS (mQ rfl <| sq_end) fun a w hF hS => ?_
  refine wpl_and 13 35 5 hF hS rfl rfl rfl rfl rfl (fun hg => have hg := hg; sq_go 35 rfl rfl rfl (q_fieldAddr ty78 rfl rfl (s' := 0) kQ) <| sq_go 35 rfl rfl rfl (q_ld_blk1 ty3 4 rfl rfl rfl rfl) <| sq_go 35 rfl rfl rfl (q_fieldAddr ty78 rfl rfl (s' := 0) kQ) <| sq_go 35 rfl rfl rfl (q_ld_blk1 ty3 4 rfl rfl rfl rfl) <| sq_go 35 rfl rfl rfl (q_lei rfl rfl) <| sq_end) rfl rfl fun a w hF hS => ?_
  refine lQ hF hS (mQ rfl <| sq_end) fun a w hF hS => ?_
  refine wpl_and 20 42 9 hF hS rfl rfl rfl rfl rfl (fun hg => have hg := hg; sq_go 42 rfl rfl rfl (q_fieldAddr ty78 rfl rfl (s' := 0) kQ) <| sq_go 42 rfl rfl rfl (q_ld_blk1 ty68 4 rfl rfl rfl rfl) <| sq_go 42 rfl rfl rfl (q_len_sl ty68 hb rfl) <| sq_go 42 rfl rfl rfl (q_fieldAddr ty78 rfl rfl (s' := 0) kQ) <| sq_go 42 rfl rfl rfl (q_ld_blk1 ty3 4 rfl rfl rfl rfl) <| sq_go 42 rfl rfl rfl (q_fieldAddr ty78 rfl rfl (s' := 0) kQ) <| sq_go 42 rfl rfl rfl (q_ld_blk1 ty3 4 rfl rfl rfl rfl) <| sq_go 42 rfl rfl rfl (q_subiW rfl rfl) <| sq_go 42 rfl rfl rfl (q_lei rfl rfl) <| sq_end) rfl rfl fun a w hF hS => ?_
  refine wpList_nil (hK5 _ _ ?_)
  refine wp_if hF rfl (fun hc1 => ?_) (fun hc1 => ?_)
  ·(try simp only [bS] at hc1)
   have hw := wr_in (n := qs - qf) (by omega)
   rw [hw] at hc1
   have hokc : Mk.okC ⟨qf, qs, ql, qd⟩ := ⟨by dsimp only; omega, by dsimp only; omega, by dsimp only; omega, by dsimp only; omega, by dsimp only; omega⟩
   obtain ⟨fn, rfl⟩ : ∃ fn : Nat, qf = fn := ⟨qf.toNat, by omega⟩
   obtain ⟨zn, rfl⟩ : ∃ zn : Nat, qs = zn := ⟨qs.toNat, by omega⟩
   obtain ⟨σ2, hσ2⟩ : ∃ σ, σ = Mk.rrR fn ql qd zn := ⟨_, rfl⟩
   refine regl ?_
   refine lQ hF hS (mQ rfl <| q0 (q_fieldAddr ty78 rfl rfl (s' := 0) kQ) <| q0 (q_ld_blk1 ty68 4 rfl rfl rfl rfl) <| q0 (q_fieldAddr ty78 rfl rfl (s' := 0) kQ) <| q0 (q_ld_blk1 ty3 4 rfl rfl rfl rfl) <| q0 (q_fieldAddr ty78 rfl rfl (s' := 0) kQ) <| q0 (q_ld_blk1 ty3 4 rfl rfl rfl rfl) <| sq_end) fun a w hF hS => ?_
   replace hS := hS.perm (.swap _ _ _)
   replace hS := nl0_5 hS
   refine eQ hF hS rfl (ef_callxN 2 fn78 rfl (by exact (troot_ct _ _ (.slice none 0 0) _ ql fn qd _ zn hql hy hs16 (by omega) rfl (by omega) _ _ _ _ hb hsd hg0 ))) ?_
   rintro _ _ _ a w ⟨_, _, rfl, rfl, ⟨tv2, rfl, rfl, rfl⟩⟩ hF hS
   rw [← hσ2] at hF hS
   replace hS := nl0_5 hS
   refine wpList_nil ?_
   replace hS := hS.perm (.swap _ _ _)
   replace hS := hS.keep zQ sQ
   refine ⟨(tv2, σ2.2.1, σ2.2.2.1, σ2.2.2.2), ?_, hF.sub ⟨rfl, rfl, trivial⟩, ?_⟩
   ·rw [Mk.txP_t hokc, hσ2]
   ·exact hS
  ·(try simp only [bS] at hc1)
   have hokc : ¬ Mk.okC ⟨qf, qs, ql, qd⟩ := fun h9 => by
    obtain ⟨g1, g2, g3, g4, g5⟩ := h9
    dsimp only at g1 g2 g3 g4 g5
    have hw := wr_in (n := qs - qf) (by omega)
    rw [hw] at hc1
    omega
   refine wp_skip ?_
   refine ⟨((.slice none 0 0), [], 0, false), ?_, hF.sub ⟨rfl, rfl, trivial⟩, ?_⟩
   ·rw [Mk.txP_f hokc]
   ·exact hS
 rintro ⟨tw, T2, u2, s2⟩ a w hfact hF hS
 subst hhs0; (try dsimp only at hfact hF hS)
 have hT2 := hfact
 replace hS := nl0_5 hS
 have hb0c : T2.length ≤ 8193 := by rw [hT2]; exact hb0b
 have hb0d : σ1.2.1.length ≤ 8193 := by rw [← hTL]; exact hb0a
 refine k0 ?_; intro K6 hK6
 revert hS; revert hF; apply regJ (J := J3 (α0 := Value) (α1 := Value) (α2 := Value) 112 _ _ _ _ _) #[false, false, false, false, false, false, false, false, false, false, false, false] 12 mixed rfl rfl
 ·intro w hF hS
  refine tQ 1 rfl hF (hS.keep sQ zQ) (q_move rfl) fun a hF => ?_
  refine tQ 2 rfl hF (hS.keep sQ zQ) (q_nilCheck rfl) fun a hF => ?_
  refine tQ 3 rfl hF (hS.keep sQ zQ) (q_fieldAddr ty153 rfl rfl (s' := 0) kQ) fun a hF => ?_
  refine tQ 4 rfl hF (hS.keep sQ (zQ.k.n.n)) (q_ld_blk1 ty40 0 rfl rfl rfl rfl) fun a hF => ?_
  refine tQ 6 rfl hF (hS.keep sQ zQ) (q_move rfl) fun a hF => ?_
  refine tQ 7 rfl hF (hS.keep sQ zQ) (q_nilCheck rfl) fun a hF => ?_
  refine tQ 8 rfl hF (hS.keep sQ zQ) (q_fieldAddr ty153 rfl rfl (s' := 0) kQ) fun a hF => ?_
  refine tQ 9 rfl hF (hS.keep sQ (zQ.k.n)) (q_ld_blk1 ty40 0 rfl rfl rfl rfl) fun a hF => ?_
  refine gQ 0 rfl rfl hF hS rfl (ef_bslice0 ty40 ty9) ?_
  rintro v_6_0 _ _ a w ⟨rfl, rfl⟩ hF hS
  refine ⟨⟨.inr (hS.k1 (zQ.k.n.n)), .inr hS.k0, .inr hS.k0, .inr hS.k0, .inr (hS.k1 (zQ.k.n.n.n)), .inr hS.k0, .inr hS.k0, .inr hS.k0, trivial⟩, ?_⟩
  refine gQ 5 rfl rfl hF hS rfl (ef_append ty40 ty9 0 rfl rfl rfl (src_row ty40 (k := 4) rfl oQ) bQ rfl (by decide)) ?_
  rintro v_6_5 _ _ a w ⟨rfl, rfl⟩ hF hS
  refine ⟨⟨.inr (hS.k1 (zQ.k.n.n)), .inr hS.k0, .inr hS.k0, .inr hS.k0, iQ, iQ, .inr hS.k0, .inr hS.k0, trivial⟩, ?_⟩
  refine gQ 10 rfl rfl hF hS rfl (ef_append ty40 ty9 0 rfl rfl rfl (src_row ty40 (k := 1) rfl oQ) bQ rfl (by decide)) ?_
  rintro v_6_10 _ _ a w ⟨rfl, rfl⟩ hF hS
  refine ⟨⟨iQ, iQ, .inr hS.k0, .inr hS.k0, iQ, iQ, .inr hS.k0, .inr hS.k0, trivial⟩, ?_⟩
  refine tQ 11 rfl hF (hS.keep sQ zQ) (q_assign rfl) fun a hF => ?_
  exact goW_done kQ (j3_mk v_6_0 v_6_5 v_6_10 (trivial) (hF.sub (L' := [(7, _)]) ⟨rfl, trivial⟩) hS)
 rintro a w ⟨v_6_0, v_6_5, v_6_10, -, hF, hS⟩
 (try dsimp only at hF hS)
 obtain ⟨tx, htx⟩ : ∃ tx, tx = (Mk.txL ls ++ Mk.txP ⟨qf, qs, ql, qd⟩) := ⟨_, rfl⟩
 replace hS := hS.rowEq (m' := tx.length) (cs' := tx.map vs) (by rw [htx, List.length_append, hTL, ← hT2, Nat.zero_add]) (by rw [htx, List.map_append, hTL, ← hT2, List.nil_append])
 have htb := Mk.tx_bd (q := ⟨qf, qs, ql, qd⟩) hl hx hy hs16
 rw [← htx] at htb
 have htl : tx.length ≤ 16386 := by rw [htx, List.length_append]; omega
 have htb1 := htb.1
 obtain ⟨zx, hzx, hS⟩ := St.freezeV (h0 := fun _ => rfl) (f := vs) (p := fun s => s.length ≤ 140737488355328) (xs := tx) hS rfl (by omega) (fun x hx9 => by have := htb1 x hx9; omega)
 replace hS := nl1_5 hS
 refine hK6 _ _ ?_
 refine k0 ?_; intro K7 hK7
 refine reg hF hS (aQ rfl <| sq_end) fun a w hF hS => ?_
 replace hS := hS.nilRow 62 16
 refine hK7 _ _ ?_
 refine k0 ?_; intro K8 hK8
 refine regS hF hS (aQ rfl <| sq_end) fun a w hF hS => ?_
 refine wp_block ?_
 obtain ⟨hs0, hhs0, hS⟩ := hS.oh
 refine wp_loopx (γ := Value × Int) ((Value.slice none 0 0), 0) (fun (u, i) => [(8, u), (9, vi i)]) [(7, _)] (fun (u, i) => (hs0.set 0 (.row u 62 16 (((tx.take i.toNat).map Mk.dg16)).length ((((tx.take i.toNat).map Mk.dg16)).flatten.map vb)))) (fun (u, i) => 0 ≤ i ∧ i ≤ tx.length ∧ Mk.noC tx i.toNat) (fun (u, i) => (tx.length - i).toNat) (hF.sub ⟨rfl, rfl, rfl, trivial⟩) (by subst hhs0; exact hS) (by exact ⟨Int.le_refl _, by omega, fun j hj => absurd hj (by simp)⟩) ?_
 rintro ⟨u, i⟩ a w hfact hF hS
 subst hhs0; (try dsimp only at hfact hF hS)
 obtain ⟨hi0, hi1, hno⟩ := hfact
 replace hS : St _ [_] [_, _, _, _, _, _] _ := hS
 refine k0 ?_; intro K10 hK10
 refine regS hF hS (mQ rfl <| mQ rfl <| q0 (q_len_sl ty40 hzx rfl) <| q0 (q_lti rfl rfl) <| sq_end) fun a w hF hS => ?_
 refine wp_ifd hF rfl (fun hc2 => ?_) (fun hc2 => ?_)
 ·have hti := htb1 (tx.getD i.toNat []) (Mk.getD_inT (by omega))
  have hg16 := Mk.dg16_len (tx.getD i.toNat [])
  have hdli := Mk.dgs_len (t := tx) (i := i.toNat) (by omega)
  have hg17 : (List.take 16 (Sha.sum (tx.getD i.toNat []))).length = 16 := hg16
  refine wp_skip ?_
  refine hK10 _ _ ?_
  refine k0 ?_; intro K12 hK12
  refine wp_block ?_
  refine reglS fun K13 hK13 => ?_
  refine lQ hF hS (mQ rfl <| mQ rfl <| mQ rfl <| q0 (q_idx_sl ty40 ty9 hzx rfl rfl (by omega)) <| q0 (q_ld_S ty9 hzx (.inr (by simp)) rfl rfl (by omega)) <| sq_end) fun a w hF hS => ?_
  refine eQ hF hS rfl (ef_s2b ty9 ty25 ty5 rfl (by omega)) ?_
  rintro v9 _ _ a w ⟨z10, rfl, rfl, hz11⟩ hF hS
  refine lQ hF hS (q0 (q_call fn79 rfl (fun w hS => rshort_ct _ _ (by first | with_reducible assumption | omega) w (Sl.mono (hS.le (.inr (by simp))) hz11) (hS.ext _ _ hg0)) (fun _ _ _ h => h)) <| sq_end) fun a w hF hS => ?_
  refine eQ hF hS rfl (ef_bsliceW ty76 ty62 rfl bQ (by decide) oQ (by decide) (by decide)) ?_
  rintro v12 _ _ a w ⟨rfl, rfl⟩ hF hS
  replace hS : St _ [_, _] [_, _, _, _, _, _, _] _ := hS
  refine eQ hF hS rfl (ef_append ty76 ty62 1 rfl rfl rfl (src_row ty76 (k := 0) rfl oQ) bQ rfl (by decide)) ?_
  rintro v14 _ _ a w ⟨rfl, rfl⟩ hF hS
  replace hS : St _ [_, _] [_, _, _, _, _, _, _] _ := hS
  refine lQ hF hS (aQ rfl <| sq_end) fun a w hF hS => ?_
  refine wpList_nil ?_
  replace hS := hS.perm (.swap _ _ _)
  replace hS := hS.rowEq (m' := List.length ((tx.take (i.toNat + 1)).map Mk.dg16)) (cs' := List.map vb (List.flatten ((tx.take (i.toNat + 1)).map Mk.dg16))) (by rw [Mk.dgs_next (by omega), List.length_append]; rfl) (by rw [Mk.dgs_next (by omega), List.flatten_append, List.map_append, List.flatten_singleton]; rfl)
  have hd16 := Mk.dgs_16 (tx.take (i.toNat + 1))
  have hdl := Mk.dgs_len (t := tx) (i := i.toNat + 1) (by omega)
  have hgi : (((tx.take (i.toNat + 1)).map Mk.dg16).getD i.toNat []).length = 16 := hd16 _ (Mk.getD_inD (by omega))
  replace hS : St _ [_, _] [_, _, _, _, _, _, _] _ := hS
  refine hK13 _ _ ?_
  refine regS hF hS (aQ rfl <| sq_end) fun a w hF hS => ?_
  refine wp_block ?_
  obtain ⟨hs0, hhs0, hS⟩ := hS.oh
  refine wp_loopx (γ := Int) (0) (fun (k : Int) => [(10, vi k)]) [(7, _), (8, _), (9, _)] (fun (k : Int) => hs0) (fun (k : Int) => 0 ≤ k ∧ k ≤ i ∧ ∀ j, j < k.toNat → ¬ (¬ tx.getD i.toNat [] = tx.getD j [] ∧ Mk.dg16 (tx.getD i.toNat []) = Mk.dg16 (tx.getD j []))) (fun (k : Int) => (i - k).toNat) (hF.sub ⟨rfl, rfl, rfl, rfl, trivial⟩) (by subst hhs0; exact hS) (by exact ⟨Int.le_refl _, by omega, fun j hj => absurd hj (by simp)⟩) ?_
  rintro k a w hfact hF hS
  subst hhs0; (try dsimp only at hfact hF hS)
  obtain ⟨hk0, hk1, hnk⟩ := hfact
  replace hS : St _ [_, _] [_, _, _, _, _, _, _] _ := hS
  have hgk : (((tx.take (i.toNat + 1)).map Mk.dg16).getD k.toNat []).length = 16 := hd16 _ (Mk.getD_inD (by omega))
  refine k0 ?_; intro K15 hK15
  refine regS hF hS (mQ rfl <| mQ rfl <| q0 (q_lti rfl rfl) <| sq_end) fun a w hF hS => ?_
  refine wp_ifd hF rfl (fun hc3 => ?_) (fun hc3 => ?_)
  ·refine wp_skip ?_
   refine hK15 _ _ ?_
   refine k0 ?_; intro K17 hK17
   refine wp_block ?_
   refine k0 ?_; intro K18 hK18
   refine regq mixed kQ hS ?_
   refine wpq_seg hF (mQ rfl <| mQ rfl <| q0 (q_idx_sl ty40 ty9 hzx rfl rfl (by omega)) <| q0 (q_ld_S ty9 hzx (.inr (by simp)) rfl rfl (by omega)) <| mQ rfl <| mQ rfl <| q0 (q_idx_sl ty40 ty9 hzx rfl rfl (by omega)) <| q0 (q_ld_S ty9 hzx (.inr (by simp)) rfl rfl (by omega)) <| q0 (q_nes rfl rfl) <| mQ rfl <| sq_end) fun a hF => ?_
   refine wpq_and 9 101 9 hF rfl rfl rfl rfl rfl (fun hg => have hg := (nd_true hg); sq_go 101 rfl rfl rfl (q_move rfl) <| sq_go 101 rfl rfl rfl (q_move rfl) <| sq_go 101 rfl rfl rfl (q_idx_row ty76 ty62 0 rfl rfl rfl (by omega)) <| sq_go 101 rfl rfl rfl (q_ld_rowA ty62 0 rfl hd16 rfl (by omega) (by decide) rfl) <| sq_go 101 rfl rfl rfl (q_move rfl) <| sq_go 101 rfl rfl rfl (q_move rfl) <| sq_go 101 rfl rfl rfl (q_idx_row ty76 ty62 0 rfl rfl rfl (by omega)) <| sq_go 101 rfl rfl rfl (q_ld_rowA ty62 0 rfl hd16 rfl (by omega) (by decide) rfl) <| sq_go 101 rfl rfl rfl (q_eqAB ty62 ty5 kQ rfl rfl bQ bQ) <| sq_end) rfl rfl fun a hF => ?_
   refine wpq_nil ?_
   clear hS; intro w hS
   refine hK18 _ _ ?_
   refine wp_if hF rfl (fun hc4 => ?_) (fun hc4 => ?_)
   ·(try simp only [bS] at hc4)
    rw [Mk.dgs_get (t := tx) (i := i.toNat) (by omega) (by omega), Mk.dgs_get (t := tx) (i := i.toNat) (by omega) (by omega)] at hc4
    refine regS hF hS (aQ rfl <| sq_end) fun a w hF hS => ?_
    refine wp_ret ?_
    exact fn_ret (rs := [.tmp 4]) rfl hF hS (vs := [_]) ⟨rfl, trivial⟩ zQ zQ (by unfold Mk.coll; rw [← htx, Mk.col_t (by omega) (by omega) hc4])
   ·(try simp only [bS] at hc4)
    rw [Mk.dgs_get (t := tx) (i := i.toNat) (by omega) (by omega), Mk.dgs_get (t := tx) (i := i.toNat) (by omega) (by omega)] at hc4
    refine wp_skip ?_
    refine hK17 _ _ ?_
    refine reg hF hS (mQ rfl <| pQ rfl rfl <| aQ rfl <| sq_end) fun a w hF hS => ?_
    refine ⟨(k + 1), ?_, ?_, hF.sub ⟨rfl, rfl, rfl, rfl, trivial⟩, ?_⟩
    ·(try dsimp only); omega
    ·exact ⟨by omega, by omega, fun j hj => by
       rcases Nat.lt_or_ge j k.toNat with h9 | h9
       ·exact hnk j h9
       ·obtain rfl : j = k.toNat := by omega
        exact fun h8 => hc4.elim (fun h7 => h8.1 h7) (fun h7 => h7 h8.2)⟩
    ·exact hS
  ·obtain rfl : k = i := by omega
   have hno2 := Mk.noC_step hno hnk
   refine wp_exit ?_
   refine hK12 _ _ ?_
   refine reg hF hS (mQ rfl <| pQ rfl rfl <| aQ rfl <| sq_end) fun a w hF hS => ?_
   replace hS := hS.keep (sQ.n) (sQ.n.k)
   refine ⟨(v14, k + 1), ?_, ?_, hF.sub ⟨rfl, rfl, rfl, trivial⟩, ?_⟩
   ·(try dsimp only); omega
   ·exact ⟨by omega, by omega, by rw [show (k + 1).toNat = k.toNat + 1 by omega]; exact hno2⟩
   ·(try dsimp only); rw [show (k + 1).toNat = k.toNat + 1 by omega]; exact hS
 ·have hie : i.toNat = tx.length := by omega
  refine wp_exit ?_
  refine hK8 _ _ ?_
  refine regS hF hS (aQ rfl <| sq_end) fun a w hF hS => ?_
  refine wp_ret ?_
  exact fn_ret (rs := [.tmp 4]) rfl hF hS (vs := [_]) ⟨rfl, trivial⟩ zQ zQ (by unfold Mk.coll; rw [← htx, Mk.col_f (by rw [← hie]; exact hno)])
end
section
theorem fn74 : FnOk Tryz.prog 74 := fQ Tryz.func74
attribute [local irreducible] Lg.kn Lg.keys Op.bytesLess Lg.kins
theorem rkeys_ct (v : Value) (l : List Lg.Fct) (tick : Int) (hl : l.length < 1048576) (w : World) (hb : Sl Go.Fw.encY (ph w) v l) : Ct Tryz.prog 74 [v, vi tick] w (fun v zs hs => zs = [] ∧ hs = [.row v 9 1 (Lg.keys l tick).length ((Lg.keys l tick).map vs)]) := by
 refine fn_enter Tryz.func74 rfl Tryz.ntmps74 (Nat.le_of_ble_eq_true rfl) fun a hF hS => ?_
 have hbl := hb.1
 refine regS hF hS (aQ rfl <| sq_end) fun a w hF hS => ?_
 refine k0 ?_; intro K2 hK2
 refine reg hF hS (aQ rfl <| sq_end) fun a w hF hS => ?_
 replace hS := hS.nilRow 9 1
 refine hK2 _ _ ?_
 refine k0 ?_; intro K3 hK3
 refine regS hF hS (aQ rfl <| sq_end) fun a w hF hS => ?_
 refine wp_block ?_
 obtain ⟨hs0, hhs0, hS⟩ := hS.oh
 refine wp_loopx (γ := Value × Nat) ((Value.slice none 0 0), 0) (fun (u, i) => [(5, u), (6, vi (i : Int))]) [(0, _), (1, _)] (fun (u, i) => (hs0.set 0 (.row u 9 1 (Lg.keys (l.take i) tick).length ((Lg.keys (l.take i) tick).map vs)))) (fun (u, i) => i ≤ l.length) (fun (u, i) => l.length - i) (hF.sub ⟨rfl, rfl, rfl, rfl, trivial⟩) (by subst hhs0; dsimp only; rw [Lg.keys_0]; exact hS) (by exact Nat.zero_le _) ?_
 rintro ⟨u, i⟩ a w hfact hF hS
 subst hhs0; (try dsimp only at hfact hF hS)
 have hi0 := hfact
 replace hS := nl0_1 hS
 have hkl := Lg.keys_le (l.take i) tick
 rw [List.length_take] at hkl
 refine k0 ?_; intro K5 hK5
 refine regS hF hS (mQ rfl <| mQ rfl <| q0 (q_len_sl ty26 hb rfl) <| q0 (q_lti rfl rfl) <| sq_end) fun a w hF hS => ?_
 refine wp_ifd hF rfl (fun hc1 => ?_) (fun hc1 => ?_)
 ·refine wp_skip ?_
  refine hK5 _ _ ?_
  refine k0 ?_; intro K7 hK7
  refine wp_block ?_
  refine k0 ?_; intro K8 hK8
  refine regS hF hS (mQ rfl <| mQ rfl <| q0 (q_idx_sl ty26 ty24 hb rfl rfl (by omega)) <| q0 (q_fld_Y ty24 hb rfl (by omega) rfl (s' := 0) kQ) <| q0 (q_ld_Y0 ty3 hb zin0 rfl rfl (by omega)) <| mQ rfl <| q0 (q_gti rfl rfl) <| sq_end) fun a w hF hS => ?_
  refine wp_ifd hF rfl (fun hc2 => ?_) (fun hc2 => ?_)
  ·refine wp_exit ?_
   refine hK7 _ _ ?_
   refine reg hF hS (mQ rfl <| pQ rfl rfl <| aQ rfl <| sq_end) fun a w hF hS => ?_
   refine ⟨(u, i + 1), ?_, ?_, hF.sub ⟨rfl, rfl, rfl, rfl, trivial⟩, ?_⟩
   ·(try dsimp only); omega
   ·omega
   ·dsimp only; rw [Lg.keys_no (l := l) (i := i) (by omega) hc2]; exact hS
  ·refine wp_skip ?_
   refine hK8 _ _ ?_
   refine regS hF hS (aQ rfl <| sq_end) fun a w hF hS => ?_
   refine k0 ?_; intro K11 hK11
   refine wp_block ?_
   obtain ⟨hs0, hhs0, hS⟩ := hS.oh
   refine wp_loopx (γ := Nat) (0) (fun (k : Nat) => [(7, vi (k : Int))]) [(0, _), (1, _), (5, _), (6, _)] (fun (k : Nat) => hs0) (fun (k : Nat) => k ≤ (Lg.keys (l.take i) tick).length ∧ ∀ j, j < k → (Lg.keys (l.take i) tick).getD j [] < (l.getD (i : Int).toNat Lg.f0).ky) (fun (k : Nat) => (Lg.keys (l.take i) tick).length - k) (hF.sub ⟨rfl, rfl, rfl, rfl, rfl, trivial⟩) (by subst hhs0; exact hS) (by exact ⟨Nat.zero_le _, fun j hj => absurd hj (Nat.not_lt_zero _)⟩) ?_
   rintro k a w hfact hF hS
   subst hhs0; (try dsimp only at hfact hF hS)
   obtain ⟨hk1, hlo⟩ := hfact
   replace hS := nl0_1 hS
   refine k0 ?_; intro K12 hK12
   refine k0 ?_; intro K13 hK13
   refine regq mixed kQ hS ?_
   refine wpq_seg hF (mQ rfl <| mQ rfl <| q0 (q_len_row ty40 0 rfl rfl) <| q0 (q_lti rfl rfl) <| mQ rfl <| sq_end) fun a hF => ?_
   refine wpq_and 4 25 10 hF rfl rfl rfl rfl rfl (fun hg => have hg := (by first | exact of_decide_eq_true hg | exact hg); sq_go 25 rfl rfl rfl (q_move rfl) <| sq_go 25 rfl rfl rfl (q_move rfl) <| sq_go 25 rfl rfl rfl (q_idx_row ty40 ty9 0 rfl rfl rfl (by omega)) <| sq_go 25 rfl rfl rfl (q_ld_rowM (f := vs) (xs := (Lg.keys (l.take i) tick)) ty9 0 [] rfl rfl (by omega) rfl) <| sq_go 25 rfl rfl rfl (q_move rfl) <| sq_go 25 rfl rfl rfl (q_move rfl) <| sq_go 25 rfl rfl rfl (q_idx_sl ty26 ty24 hb rfl rfl (by omega)) <| sq_go 25 rfl rfl rfl (q_fld_Y ty24 hb rfl (by omega) rfl (s' := 0) kQ) <| sq_go 25 rfl rfl rfl (q_ld_Y1 ty9 hb zin0 rfl rfl (by omega)) <| sq_go 25 rfl rfl rfl (q_lts rfl rfl) <| sq_end) rfl rfl fun a hF => ?_
   refine wpq_nil ?_
   clear hS; intro w hS
   refine hK13 _ _ ?_
   refine wp_if hF rfl (fun hc3 => ?_) (fun hc3 => ?_)
   ·(try simp only [bS] at hc3)
    refine wp_skip ?_
    refine hK12 _ _ ?_
    refine wp_block ?_
    refine reg hF hS (mQ rfl <| pQ rfl rfl <| aQ rfl <| sq_end) fun a w hF hS => ?_
    refine ⟨(k + 1), ?_, ?_, hF.sub ⟨rfl, rfl, rfl, rfl, rfl, trivial⟩, ?_⟩
    ·(try dsimp only); omega
    ·exact ⟨by omega, Lg.below_next hlo hc3.2⟩
    ·exact hS
   ·(try simp only [bS] at hc3)
    refine wp_exit ?_
    refine hK11 _ _ ?_
    refine k0 ?_; intro K14 hK14
    refine regq mixed kQ hS ?_
    refine wpq_seg hF (mQ rfl <| mQ rfl <| q0 (q_len_row ty40 0 rfl rfl) <| q0 (q_eqi rfl rfl) <| mQ rfl <| sq_end) fun a hF => ?_
    refine wpq_or 4 43 10 hF rfl rfl rfl rfl rfl (fun hg => have hg := (by first | exact of_decide_eq_false hg | exact hg); sq_go 43 rfl rfl rfl (q_move rfl) <| sq_go 43 rfl rfl rfl (q_move rfl) <| sq_go 43 rfl rfl rfl (q_idx_row ty40 ty9 0 rfl rfl rfl (by omega)) <| sq_go 43 rfl rfl rfl (q_ld_rowM (f := vs) (xs := (Lg.keys (l.take i) tick)) ty9 0 [] rfl rfl (by omega) rfl) <| sq_go 43 rfl rfl rfl (q_move rfl) <| sq_go 43 rfl rfl rfl (q_move rfl) <| sq_go 43 rfl rfl rfl (q_idx_sl ty26 ty24 hb rfl rfl (by omega)) <| sq_go 43 rfl rfl rfl (q_fld_Y ty24 hb rfl (by omega) rfl (s' := 0) kQ) <| sq_go 43 rfl rfl rfl (q_ld_Y1 ty9 hb zin0 rfl rfl (by omega)) <| sq_go 43 rfl rfl rfl (q_nes rfl rfl) <| sq_end) rfl rfl fun a hF => ?_
    refine wpq_nil ?_
    clear hS; intro w hS
    refine hK14 _ _ ?_
    refine wp_if hF rfl (fun hc4 => ?_) (fun hc4 => ?_)
    ·(try simp only [bS] at hc4)
     revert hS; revert hF; apply regJ (J := J5 (α0 := Value) (α1 := Value) (α2 := Value) (α3 := Value) (α4 := Value) 72 _ _ _ _ _) #[false, false, false, false, false, false, false, false, false, false, false, false, false, false, false, false, false] 17 mixed rfl rfl
     ·intro w hF hS
      refine tQ 1 rfl hF (hS.keep sQ zQ) (q_move rfl) fun a hF => ?_
      refine tQ 2 rfl hF (hS.keep sQ zQ) (q_move rfl) fun a hF => ?_
      refine tQ 3 rfl hF (hS.keep sQ sQ) (q_slrow_hi ty40 ty9 0 rfl rfl rfl (by omega)) fun a hF => ?_
      refine tQ 5 rfl hF (hS.keep sQ zQ) (q_move rfl) fun a hF => ?_
      refine tQ 6 rfl hF (hS.keep sQ zQ) (q_move rfl) fun a hF => ?_
      refine tQ 7 rfl hF (hS.keep sQ zQ) (q_idx_sl ty26 ty24 hb rfl rfl (by omega)) fun a hF => ?_
      refine tQ 8 rfl hF (hS.keep sQ zQ) (q_fld_Y ty24 hb rfl (by omega) rfl (s' := 0) kQ) fun a hF => ?_
      refine tQ 9 rfl hF (hS.keep sQ zQ) (q_ld_Y1 ty9 hb zin0 rfl rfl (by omega)) fun a hF => ?_
      refine tQ 12 rfl hF (hS.keep sQ zQ) (q_move rfl) fun a hF => ?_
      refine tQ 13 rfl hF (hS.keep sQ zQ) (q_move rfl) fun a hF => ?_
      refine tQ 14 rfl hF (hS.keep sQ sQ) (q_slrow_lo ty40 ty9 0 rfl rfl rfl (by omega)) fun a hF => ?_
      refine goW_fork [0, 10] kQ rfl ⟨?_, ?_, trivial⟩
      ·refine stepW_ef _ rfl rfl hF hS rfl (ef_bslice0 ty40 ty9) ?_
       rintro v_10_0 _ _ a w ⟨rfl, rfl⟩ hF hS
       refine ⟨⟨.inr (hS.k1 (sQ.n)), .inr hS.k0, .inr hS.k0, .inr hS.k0, .inr hS.k0, .inr hS.k0, .inr hS.k0, .inr hS.k0, .inr (hS.k1 (sQ.n)), .inr hS.k0, .inr hS.k0, trivial⟩, ?_⟩
       refine goW_fork [4, 10] kQ rfl ⟨?_, ?_, trivial⟩
       ·refine stepW_ef _ rfl rfl hF hS rfl (ef_append ty40 ty9 0 rfl rfl rfl (src_slrow ty40 (q := 1) rfl oQ (by omega)) bQ rfl (by decide)) ?_
        rintro v_10_4 _ _ a w ⟨rfl, rfl⟩ hF hS
        refine ⟨⟨.inr (hS.k1 (sQ.n)), .inr hS.k0, .inr hS.k0, .inr hS.k0, .inr hS.k0, .inr hS.k0, .inr hS.k0, .inr hS.k0, iQ, iQ, iQ, trivial⟩, ?_⟩
        refine gQ 10 rfl rfl hF hS rfl (ef_bsliceA ty40 ty9 rfl rfl oQ (by decide) rfl rfl) ?_
        rintro v_10_10 _ _ a w ⟨rfl, rfl⟩ hF hS
        refine ⟨⟨.inr (hS.k1 (sQ.n.n)), .inr hS.k0, .inr hS.k0, iQ, iQ, .inr hS.k0, .inr hS.k0, .inr hS.k0, iQ, iQ, iQ, trivial⟩, ?_⟩
        refine gQ 11 rfl rfl hF hS rfl (ef_append ty40 ty9 1 rfl rfl rfl (src_row ty40 (k := 0) rfl oQ) bQ rfl (by decide)) ?_
        rintro v_10_11 _ _ a w ⟨rfl, rfl⟩ hF hS
        refine ⟨⟨.inr (hS.k1 (sQ.n.n)), .inr hS.k0, .inr hS.k0, iQ, iQ, .inr hS.k0, .inr hS.k0, .inr hS.k0, iQ, iQ, iQ, trivial⟩, ?_⟩
        refine gQ 15 rfl rfl hF hS rfl (ef_append ty40 ty9 1 rfl rfl rfl (src_slrow ty40 (q := 2) rfl oQ (by omega)) bQ rfl (by decide)) ?_
        rintro v_10_15 _ _ a w ⟨rfl, rfl⟩ hF hS
        refine ⟨⟨iQ, iQ, iQ, iQ, iQ, .inr hS.k0, .inr hS.k0, .inr hS.k0, iQ, iQ, iQ, trivial⟩, ?_⟩
        refine tQ 16 rfl hF (hS.keep sQ zQ) (q_assign rfl) fun a hF => ?_
        exact goW_done kQ (j5_mk v_10_0 v_10_4 v_10_10 v_10_11 v_10_15 (trivial) (hF.sub (L' := [(0, _), (1, _), (5, _), (6, _)]) ⟨rfl, rfl, rfl, rfl, trivial⟩) hS)
       ·refine stepW_ef _ rfl rfl hF hS rfl (ef_bsliceA ty40 ty9 rfl rfl oQ (by decide) rfl rfl) ?_
        rintro v_10_10 _ _ a w ⟨rfl, rfl⟩ hF hS
        refine ⟨⟨.inr (hS.k1 (sQ.n.n)), .inr hS.k0, .inr hS.k0, iQ, iQ, .inr hS.k0, .inr hS.k0, .inr hS.k0, .inr (hS.k1 (sQ.n.n)), .inr hS.k0, .inr hS.k0, trivial⟩, ?_⟩
        refine gQ 4 rfl rfl hF hS rfl (ef_append ty40 ty9 1 rfl rfl rfl (src_slrow ty40 (q := 2) rfl oQ (by omega)) bQ rfl (by decide)) ?_
        rintro v_10_4 _ _ a w ⟨rfl, rfl⟩ hF hS
        refine ⟨⟨.inr (hS.k1 (sQ.n.n)), .inr hS.k0, .inr hS.k0, iQ, iQ, .inr hS.k0, .inr hS.k0, .inr hS.k0, iQ, iQ, iQ, trivial⟩, ?_⟩
        refine gQ 11 rfl rfl hF hS rfl (ef_append ty40 ty9 1 rfl rfl rfl (src_row ty40 (k := 0) rfl oQ) bQ rfl (by decide)) ?_
        rintro v_10_11 _ _ a w ⟨rfl, rfl⟩ hF hS
        refine ⟨⟨.inr (hS.k1 (sQ.n.n)), .inr hS.k0, .inr hS.k0, iQ, iQ, .inr hS.k0, .inr hS.k0, .inr hS.k0, iQ, iQ, iQ, trivial⟩, ?_⟩
        refine gQ 15 rfl rfl hF hS rfl (ef_append ty40 ty9 1 rfl rfl rfl (src_slrow ty40 (q := 2) rfl oQ (by omega)) bQ rfl (by decide)) ?_
        rintro v_10_15 _ _ a w ⟨rfl, rfl⟩ hF hS
        refine ⟨⟨iQ, iQ, iQ, iQ, iQ, .inr hS.k0, .inr hS.k0, .inr hS.k0, iQ, iQ, iQ, trivial⟩, ?_⟩
        refine tQ 16 rfl hF (hS.keep sQ zQ) (q_assign rfl) fun a hF => ?_
        exact goW_done kQ (j5_mk v_10_0 v_10_4 v_10_10 v_10_11 v_10_15 (trivial) (hF.sub (L' := [(0, _), (1, _), (5, _), (6, _)]) ⟨rfl, rfl, rfl, rfl, trivial⟩) hS)
      ·refine stepW_ef _ rfl rfl hF hS rfl (ef_bsliceA ty40 ty9 rfl rfl oQ (by decide) rfl rfl) ?_
       rintro v_10_10 _ _ a w ⟨rfl, rfl⟩ hF hS
       refine ⟨⟨.inr (hS.k1 (sQ.n)), .inr hS.k0, .inr hS.k0, iQ, iQ, .inr hS.k0, .inr hS.k0, .inr hS.k0, .inr (hS.k1 (sQ.n)), .inr hS.k0, .inr hS.k0, trivial⟩, ?_⟩
       refine gQ 0 rfl rfl hF hS rfl (ef_bslice0 ty40 ty9) ?_
       rintro v_10_0 _ _ a w ⟨rfl, rfl⟩ hF hS
       refine ⟨⟨.inr (hS.k1 (sQ.n.n)), .inr hS.k0, .inr hS.k0, iQ, iQ, .inr hS.k0, .inr hS.k0, .inr hS.k0, .inr (hS.k1 (sQ.n.n)), .inr hS.k0, .inr hS.k0, trivial⟩, ?_⟩
       refine gQ 4 rfl rfl hF hS rfl (ef_append ty40 ty9 0 rfl rfl rfl (src_slrow ty40 (q := 2) rfl oQ (by omega)) bQ rfl (by decide)) ?_
       rintro v_10_4 _ _ a w ⟨rfl, rfl⟩ hF hS
       refine ⟨⟨.inr (hS.k1 (sQ.n.n)), .inr hS.k0, .inr hS.k0, iQ, iQ, .inr hS.k0, .inr hS.k0, .inr hS.k0, iQ, iQ, iQ, trivial⟩, ?_⟩
       refine gQ 11 rfl rfl hF hS rfl (ef_append ty40 ty9 0 rfl rfl rfl (src_row ty40 (k := 1) rfl oQ) bQ rfl (by decide)) ?_
       rintro v_10_11 _ _ a w ⟨rfl, rfl⟩ hF hS
       refine ⟨⟨.inr (hS.k1 (sQ.n.n)), .inr hS.k0, .inr hS.k0, iQ, iQ, .inr hS.k0, .inr hS.k0, .inr hS.k0, iQ, iQ, iQ, trivial⟩, ?_⟩
       refine gQ 15 rfl rfl hF hS rfl (ef_append ty40 ty9 0 rfl rfl rfl (src_slrow ty40 (q := 2) rfl oQ (by omega)) bQ rfl (by decide)) ?_
       rintro v_10_15 _ _ a w ⟨rfl, rfl⟩ hF hS
       refine ⟨⟨iQ, iQ, iQ, iQ, iQ, .inr hS.k0, .inr hS.k0, .inr hS.k0, iQ, iQ, iQ, trivial⟩, ?_⟩
       refine tQ 16 rfl hF (hS.keep sQ zQ) (q_assign rfl) fun a hF => ?_
       exact goW_done kQ (j5_mk v_10_0 v_10_4 v_10_10 v_10_11 v_10_15 (trivial) (hF.sub (L' := [(0, _), (1, _), (5, _), (6, _)]) ⟨rfl, rfl, rfl, rfl, trivial⟩) (hS.perm (.swap _ _ _)))
     rintro a w ⟨v_10_0, v_10_4, v_10_10, v_10_11, v_10_15, -, hF, hS⟩
     (try dsimp only at hF hS)
     replace hS := nl0_3 hS
     rw [Lg.ins_cells, Lg.ins_len _ (l.getD (i : Int).toNat Lg.f0).ky hk1] at hS
     replace hS := hS.perm (.cons _ (.swap _ _ _))
     replace hS := nl0_3 hS
     refine hK7 _ _ ?_
     refine reg hF hS (mQ rfl <| pQ rfl rfl <| aQ rfl <| sq_end) fun a w hF hS => ?_
     replace hS := hS.keep zQ (sQ.n.n)
     refine ⟨(v_10_15, i + 1), ?_, ?_, hF.sub ⟨rfl, rfl, rfl, rfl, trivial⟩, ?_⟩
     ·(try dsimp only); omega
     ·omega
     ·dsimp only; rw [Lg.keys_yes (l := l) (i := i) (by omega) (by omega), Lg.kins_row hk1 hlo hc3 hc4]; exact hS
    ·(try simp only [bS] at hc4)
     refine wp_skip ?_
     refine hK7 _ _ ?_
     refine reg hF hS (mQ rfl <| pQ rfl rfl <| aQ rfl <| sq_end) fun a w hF hS => ?_
     refine ⟨(u, i + 1), ?_, ?_, hF.sub ⟨rfl, rfl, rfl, rfl, trivial⟩, ?_⟩
     ·(try dsimp only); omega
     ·omega
     ·dsimp only; rw [Lg.keys_yes (l := l) (i := i) (by omega) (by omega), Lg.kins_same hk1 hlo hc4]; exact hS
 ·obtain rfl : i = l.length := by omega
  rw [List.take_length] at hS
  refine wp_exit ?_
  refine hK3 _ _ ?_
  refine regS hF hS (mQ rfl <| aQ rfl <| sq_end) fun a w hF hS => ?_
  refine wp_ret ?_
  exact fn_ret (rs := [.tmp 4]) rfl hF hS (vs := [_]) ⟨rfl, trivial⟩ zQ sQ ⟨rfl, rfl⟩
theorem rlvs_ct (v : Value) (l : List Lg.Fct) (tick : Int) (hl : l.length < 1048576) (w : World) (hb : Sl Go.Fw.encY (ph w) v l) : Ct Tryz.prog 39 [v, vi tick] w (SlR encF (Lg.lvs l tick)) := by
 refine fn_enter Tryz.func39 rfl Tryz.ntmps39 (Nat.le_of_ble_eq_true rfl) fun a hF hS => ?_
 have hbl := hb.1
 have hkl := Lg.keys_le l tick
 have hvl := Lg.lvs_len l tick
 have hkv9 := Lg.lv_ok (Y_all hb) tick
 refine regS hF hS (aQ rfl <| sq_end) fun a w hF hS => ?_
 refine k0 ?_; intro K2 hK2
 refine reg hF hS (aQ rfl <| sq_end) fun a w hF hS => ?_
 replace hS := hS.nilRow 147 2
 refine hK2 _ _ ?_
 refine reglS fun K3 hK3 => ?_
 refine lQ hF hS (mQ rfl <| mQ rfl <| sq_end) fun a w hF hS => ?_
 refine eQ hF hS rfl (ef_call fn74 rfl (fun w hS => rkeys_ct _ _ _ (by omega) w (Sl.mono (hS.le zin0) hb))) ?_
 rintro v2 _ _ a w ⟨_, _, rfl, rfl, ⟨rfl, rfl⟩⟩ hF hS
 replace hS := nl0_2 hS
 refine lQ hF hS (aQ rfl <| sq_end) fun a w hF hS => ?_
 refine wpList_nil (hK3 _ _ ?_)
 refine k0 ?_; intro K4 hK4
 refine regS hF hS (aQ rfl <| sq_end) fun a w hF hS => ?_
 refine wp_block ?_
 obtain ⟨hs0, hhs0, hS⟩ := hS.oh
 refine wp_loopx (γ := Value × Nat) ((Value.slice none 0 0), 0) (fun (u, j) => [(5, u), (7, vi (j : Int))]) [(0, _), (1, _), (6, _)] (fun (u, j) => (hs0.set 1 (.row u 147 2 j (((Lg.lvs l tick).take j).flatMap kvC)))) (fun (u, j) => j ≤ (Lg.keys l tick).length) (fun (u, j) => (Lg.keys l tick).length - j) (hF.sub ⟨rfl, rfl, rfl, rfl, rfl, trivial⟩) (by subst hhs0; exact hS) (by exact Nat.zero_le _) ?_
 rintro ⟨u, j⟩ a w hfact hF hS
 subst hhs0; (try dsimp only at hfact hF hS)
 have hj0 := hfact
 replace hS := nl0_2 hS
 refine k0 ?_; intro K6 hK6
 refine regS hF hS (mQ rfl <| mQ rfl <| q0 (q_len_row ty40 0 rfl rfl) <| q0 (q_lti rfl rfl) <| sq_end) fun a w hF hS => ?_
 refine wp_ifd hF rfl (fun hc1 => ?_) (fun hc1 => ?_)
 ·refine wp_skip ?_
  refine hK6 _ _ ?_
  refine k0 ?_; intro K8 hK8
  refine wp_block ?_
  refine regS hF hS (mQ rfl <| mQ rfl <| mQ rfl <| mQ rfl <| q0 (q_idx_row ty40 ty9 0 rfl rfl rfl (by omega)) <| q0 (q_ld_rowM (f := vs) (xs := (Lg.keys l tick)) ty9 0 [] rfl rfl (by omega) rfl) <| q0 (q_call fn24 rfl (fun w hS => rknown_ct _ _ _ _ w (Sl.mono (hS.le zin0) hb)) (fun _ _ _ h => h)) <| mQ rfl <| q0 (q_extract rfl rfl) <| q0 (q_extract rfl rfl) <| aQ rfl <| aQ rfl <| sq_end) fun a w hF hS => ?_
  refine regl ?_
  refine lQ hF hS (mQ rfl <| mQ rfl <| mQ rfl <| q0 (q_idx_row ty40 ty9 0 rfl rfl rfl (by omega)) <| q0 (q_ld_rowM (f := vs) (xs := (Lg.keys l tick)) ty9 0 [] rfl rfl (by omega) rfl) <| mQ rfl <| q0 (q_buildS1 ty147 2 kQ rfl rfl (oc_cons rfl (oc_cons rfl oc_nil)) rfl rfl) <| sq_end) fun a w hF hS => ?_
  refine eQ hF hS rfl (ef_bsliceW ty68 ty147 rfl bQ (by decide) oQ (by decide) (by decide)) ?_
  rintro v4 _ _ a w ⟨rfl, rfl⟩ hF hS
  replace hS := nl0_3 hS
  refine eQ hF hS rfl (ef_append ty68 ty147 2 rfl rfl rfl (src_row ty68 (k := 0) rfl oQ) bQ rfl (by decide)) ?_
  rintro v6 _ _ a w ⟨rfl, rfl⟩ hF hS
  replace hS := nl0_3 hS
  refine lQ hF hS (aQ rfl <| sq_end) fun a w hF hS => ?_
  refine wpList_nil (hK8 _ _ ?_)
  refine reg hF hS (mQ rfl <| pQ rfl rfl <| aQ rfl <| sq_end) fun a w hF hS => ?_
  replace hS := hS.keep zQ (sQ.n)
  refine ⟨(v6, j + 1), ?_, ?_, hF.sub ⟨rfl, rfl, rfl, rfl, rfl, trivial⟩, ?_⟩
  ·(try dsimp only); omega
  ·omega
  ·rw [Lg.lv_snoc (by omega)] at hS
   exact hS
 ·obtain rfl : j = (Lg.keys l tick).length := by omega
  rw [← Lg.lvs_len, List.take_length] at hS
  refine wp_exit ?_
  refine hK4 _ _ ?_
  refine regS hF hS (mQ rfl <| aQ rfl <| sq_end) fun a w hF hS => ?_
  refine wp_ret ?_
  replace hS := hS.perm (.swap _ _ _)
  obtain ⟨zr, hzr, hS⟩ := St.freezeF (xs := Lg.lvs l tick) (hS.rowEq (m' := List.length (Lg.lvs l tick)) (cs' := List.flatMap kvC (Lg.lvs l tick)) (rfl) (rfl)) rfl (by omega) (hkv9)
  exact fn_ret (rs := [.tmp 4]) rfl hF hS (vs := [_]) ⟨rfl, trivial⟩ (zs' := [zr]) (hs' := []) (List.singleton_sublist.2 (by simp)) zQ ⟨zr, hzr, rfl, rfl⟩
end
section
theorem fn39 : FnOk Tryz.prog 39 := fQ Tryz.func39
theorem fn41 : FnOk Tryz.prog 41 := fQ Tryz.func41
theorem fn42 : FnOk Tryz.prog 42 := fQ Tryz.func42
theorem fn43 : FnOk Tryz.prog 43 := fQ Tryz.func43
attribute [local irreducible] Wi.int Wi.bytes Wi.getInt Wi.getBytes Sha.sum Jn.good Jn.hd Jn.lb Jn.cnt Jn.unp Jn.recd Jn.app Jn.opn Lg.dec Lg.enc Dk.new Lg.add Lg.taken Gu.arnd Lg.kn Lg.keys Mk.rootE Mk.coll Lg.lvs
theorem llaw5_ct (va : Value) (l0 : List Int) (vm : Value) (m0 : List Int) (tick by9 : Int) (ht : -9223372036854775808 ≤ tick ∧ tick ≤ 9223372036854775807) (hy : -9223372036854775808 ≤ by9 ∧ by9 ≤ 9223372036854775807) (w : World) (hb1 : Sl Go.Fw.encI (ph w) va l0) (hb2 : Sl Go.Fw.encI (ph w) vm m0) {fz0 fz1 : Nat × Nat} {bt0 bt1 : TypeId} (hgr : w.heap[0]? = some (.cells (Sha.kc.map vw).toArray bt0 fz0)) (hg0 : w.heap[1]? = some (.cells (Sha.kc.map vw).toArray bt1 fz1)) : Ct Tryz.prog 7 [va, vm, vi tick, vi by9] w (fun r _ _ => r = .bool true) := by
 refine fn_enter Tryz.func7 rfl Tryz.ntmps7 (Nat.le_of_ble_eq_true rfl) fun a hF hS => ?_
 have hbl := hb1.1
 have har := Gu.arnd_range (n := tick) (m := 16) (by decide)
 have har2 := Gu.arnd_range (n := by9) (m := 16) (by decide)
 refine regS hF hS (aQ rfl <| sq_end) fun a w hF hS => ?_
 refine reglS fun K2 hK2 => ?_
 refine lQ hF hS (mQ rfl <| sq_end) fun a w hF hS => ?_
 refine eQ hF hS rfl (ef_call fn10 rfl (fun w hS => genf_ct _ _ w (Sl.mono (hS.le zin0) hb1))) ?_
 rintro _ _ _ a w ⟨_, _, rfl, rfl, ⟨q2, z3, rfl, rfl, hz4, hg5⟩⟩ hF hS
 replace hS : St _ [_] [] _ := hS
 refine lQ hF hS (aQ rfl <| sq_end) fun a w hF hS => ?_
 refine wpList_nil ?_
 obtain ⟨q, hqq⟩ : ∃ x, x = q2 := ⟨_, rfl⟩
 rw [← hqq] at hz4 hg5
 have hgq := hg5
 have hfil := Lg.Gen.fil hgq
 have hql := hgq.len
 refine hK2 _ _ ?_
 refine reglS fun K3 hK3 => ?_
 refine lQ hF hS (mQ rfl <| mQ rfl <| sq_end) fun a w hF hS => ?_
 refine eQ hF hS rfl (ef_call fn21 rfl (fun w hS => turned_ct _ _ _ (by omega) (by omega) w (Sl.mono (hS.le (.inr (by simp))) hz4))) ?_
 rintro _ _ _ a w ⟨_, _, rfl, rfl, ⟨q7, z8, rfl, rfl, hz9, hg10⟩⟩ hF hS
 replace hS : St _ [_, _] [] _ := hS
 refine lQ hF hS (aQ rfl <| sq_end) fun a w hF hS => ?_
 refine wpList_nil (hK3 _ _ ?_)
 obtain ⟨hs0, hhs0, hS⟩ := hS.oh
 refine wp_cutz (γ := Value × List Lg.Fct × PH) (fun (vb2, bq, zB) => [zB, z8, z3]) (fun (vb2, bq, zB) => [(10, vb2)]) [(2, _), (3, _), (9, _)] (fun (vb2, bq, zB) => hs0) (fun (vb2, bq, zB) => Sl Go.Fw.encY zB vb2 bq ∧ Lg.Gen bq) (hF.sub ⟨rfl, rfl, rfl, trivial⟩) hS ?_ ?_
 ·subst hhs0
  refine regS hF hS (mQ rfl <| q0 (q_remi' rfl rfl (by decide)) <| q0 (q_eqi rfl rfl) <| sq_end) fun a w hF hS => ?_
  refine wp_ifd hF rfl (fun hc1 => ?_) (fun hc1 => ?_)
  ·refine regl ?_
   refine lQ hF hS (mQ rfl <| sq_end) fun a w hF hS => ?_
   refine eQ hF hS rfl (ef_call fn10 rfl (fun w hS => genf_ct _ _ w (Sl.mono (hS.le zin0) hb2))) ?_
   rintro _ _ _ a w ⟨_, _, rfl, rfl, ⟨q12, z13, rfl, rfl, hz14, hg15⟩⟩ hF hS
   replace hS : St _ [_, _, _] [] _ := hS
   refine lQ hF hS (aQ rfl <| sq_end) fun a w hF hS => ?_
   refine wpList_nil ?_
   replace hS := hS.dupz (z := z13) (by simp)
   replace hS := hS.keep (sQ.n.k) zQ
   refine ⟨(_, q12, z13), ?_, hF.sub ⟨rfl, rfl, rfl, rfl, trivial⟩, ?_⟩
   ·exact ⟨hz14, hg15⟩
   ·exact hS
  ·refine wp_skip ?_
   replace hS := hS.dupz (z := z8) (by simp)
   refine ⟨(_, q7, z8), ?_, hF.sub ⟨rfl, rfl, rfl, rfl, trivial⟩, ?_⟩
   ·exact ⟨hz9, hg10.gen hgq⟩
   ·exact hS
 rintro ⟨vb2, bq, zB⟩ a w hfact hF hS
 subst hhs0; (try dsimp only at hfact hF hS)
 obtain ⟨hbz, hgb⟩ := hfact
 replace hS : St _ [_, _, _] [] _ := hS
 have hfilb := Lg.Gen.fil hgb
 have hbql := hgb.len
 refine reglS fun K5 hK5 => ?_
 refine lQ hF hS (mQ rfl <| sq_end) fun a w hF hS => ?_
 refine eQ hF hS rfl (ef_call fn25 rfl (fun w hS => lfilled_ct _ _ (by assumption) w (Sl.mono (hS.le (.inr (by simp))) hz4) (hS.ext _ _ hg0))) ?_
 rintro _ _ _ a w ⟨_, _, rfl, rfl, ⟨rfl, bl17, jb18, hh19, fv20, qa21, qb22, qc23, qd24, ua25, ub26, uc27, ud28, LL29, rfl, rfl, hJ30, hD31, hFl32⟩⟩ hF hS
 replace hS : St _ [_, _, _] [_, _, _, _, _, _, _, _, _, _] _ := hS
 refine lQ hF hS (mQ rfl <| q0 (q_extract rfl rfl) <| q0 (q_extract rfl rfl) <| q0 (q_extract rfl rfl) <| aQ rfl <| aQ rfl <| aQ rfl <| sq_end) fun a w hF hS => ?_
 refine wpList_nil ?_
 obtain ⟨LL, hLL⟩ : ∃ x, x = LL29 := ⟨_, rfl⟩
 rw [← hLL] at hS hJ30 hD31 hFl32
 have hFlLL := hFl32
 have hgFLL := hFlLL.good_F
 have hFqLL := hFlLL.F
 have hFqlLL : LL.F.length ≤ 40 := by rw [hFqLL]; omega
 have hGLL := hgFLL.srt
 refine hK5 _ _ ?_
 refine reglS fun K6 hK6 => ?_
 refine lQ hF hS (mQ rfl <| sq_end) fun a w hF hS => ?_
 refine eQ hF hS rfl (ef_call fn25 rfl (fun w hS => lfilled_ct _ _ (by assumption) w (Sl.mono (hS.le (.inr (by simp))) hbz) (hS.ext _ _ hg0))) ?_
 rintro _ _ _ a w ⟨_, _, rfl, rfl, ⟨rfl, bl44, jb45, hh46, fv47, qa48, qb49, qc50, qd51, ua52, ub53, uc54, ud55, LL56, rfl, rfl, hJ57, hD58, hFl59⟩⟩ hF hS
 replace hS : St _ [_, _, _] [_, _, _, _, _, _, _, _, _, _, _, _, _, _, _, _, _, _, _, _] _ := hS
 refine lQ hF hS (mQ rfl <| q0 (q_extract rfl rfl) <| q0 (q_extract rfl rfl) <| q0 (q_extract rfl rfl) <| aQ rfl <| aQ rfl <| aQ rfl <| sq_end) fun a w hF hS => ?_
 refine wpList_nil ?_
 obtain ⟨MM, hMM⟩ : ∃ x, x = LL56 := ⟨_, rfl⟩
 rw [← hMM] at hS hJ57 hD58 hFl59
 have hFlMM := hFl59
 have hgFMM := hFlMM.good_F
 have hFqMM := hFlMM.F
 have hFqlMM : MM.F.length ≤ 40 := by rw [hFqMM]; omega
 have hGMM := hgFMM.srt
 refine hK6 _ _ ?_
 refine k0 ?_; intro K7 hK7
 refine regS hF hS (mQ rfl <| q0 (q_not rfl) <| mQ rfl <| sq_go 50 rfl rfl rfl (q_move rfl) <| sq_go 50 rfl rfl rfl (q_not rfl) <| q0 (q_pick_f rfl rfl) <| sq_end) fun a w hF hS => ?_
 refine wp_if hF rfl (fun h => absurd h (by simp)) (fun _ => ?_)
 refine wp_skip ?_
 refine hK7 _ _ ?_
 refine regS hF hS (mQ rfl <| q0 (q_call fn11 rfl (fun w hS => arnd_ct _ _ (by omega) (by omega) w ) (fun _ _ _ h => h)) <| aQ rfl <| sq_end) fun a w hF hS => ?_
 refine regS hF hS (mQ rfl <| q0 (q_call fn11 rfl (fun w hS => arnd_ct _ _ (by omega) (by omega) w ) (fun _ _ _ h => h)) <| aQ rfl <| sq_end) fun a w hF hS => ?_
 obtain ⟨hs0, hhs0, hS⟩ := hS.oh
 refine wp_cutx (γ := Int × Int) (fun (T, uu) => [(17, vi T), (18, vi uu)]) [(9, _), (10, _), (11, _), (14, _)] (fun (T, uu) => hs0) (fun (T, uu) => True) (hF.sub ⟨rfl, rfl, rfl, rfl, trivial⟩) hS ?_ ?_
 ·subst hhs0
  refine regS hF hS (mQ rfl <| q0 (q_remi' rfl rfl (by decide)) <| q0 (q_eqi rfl rfl) <| sq_end) fun a w hF hS => ?_
  refine wp_ifd hF rfl (fun hc3 => ?_) (fun hc3 => ?_)
  ·refine reg hF hS (mQ rfl <| aQ rfl <| sq_end) fun a w hF hS => ?_
   refine ⟨((Gu.arnd tick 16), (Gu.arnd tick 16)), ?_, hF.sub ⟨rfl, rfl, rfl, rfl, rfl, rfl, trivial⟩, ?_⟩
   ·trivial
   ·exact hS
  ·refine wp_skip ?_
   refine ⟨((Gu.arnd tick 16), (Gu.arnd by9 16)), ?_, hF.sub ⟨rfl, rfl, rfl, rfl, rfl, rfl, trivial⟩, ?_⟩
   ·trivial
   ·exact hS
 rintro ⟨T, uu⟩ a w hfact hF hS
 subst hhs0; (try dsimp only at hfact hF hS)
 obtain - := hfact
 replace hS : St _ [_, _, _] [_, _, _, _, _, _, _, _, _, _, _, _, _, _, _, _, _, _, _, _] _ := hS
 refine reglS fun K12 hK12 => ?_
 refine lQ hF hS (mQ rfl <| mQ rfl <| sq_end) fun a w hF hS => ?_
 refine eQ hF hS rfl (ef_call fn39 rfl (fun w hS => rlvs_ct _ _ _ (by omega) w (Sl.mono (hS.le (.inr (by simp))) hz4))) ?_
 rintro v70 _ _ a w ⟨_, _, rfl, rfl, ⟨z71, hz72, rfl, rfl⟩⟩ hF hS
 replace hS : St _ [_, _, _, _] [_, _, _, _, _, _, _, _, _, _, _, _, _, _, _, _, _, _, _, _] _ := hS
 refine lQ hF hS (aQ rfl <| sq_end) fun a w hF hS => ?_
 refine wpList_nil (hK12 _ _ ?_)
 refine reglS fun K13 hK13 => ?_
 refine lQ hF hS (mQ rfl <| mQ rfl <| sq_end) fun a w hF hS => ?_
 refine eQ hF hS rfl (ef_call fn39 rfl (fun w hS => rlvs_ct _ _ _ (by omega) w (Sl.mono (hS.le (.inr (by simp))) hbz))) ?_
 rintro v73 _ _ a w ⟨_, _, rfl, rfl, ⟨z74, hz75, rfl, rfl⟩⟩ hF hS
 replace hS : St _ [_, _, _, _, _] [_, _, _, _, _, _, _, _, _, _, _, _, _, _, _, _, _, _, _, _] _ := hS
 refine lQ hF hS (aQ rfl <| sq_end) fun a w hF hS => ?_
 refine wpList_nil ?_
 have hv1 := Lg.lvs_vE hgq T
 have hv2 := Lg.lvs_vE hgb uu
 have hr1 := Lg.root_16 (Lg.lvs q T)
 have hr2 := Lg.root_16 (Lg.lvs bq uu)
 have hr3 := Lg.root_16 (Lg.lvs LL.F T)
 have hr4 := Lg.root_16 (Lg.lvs MM.F uu)
 have hk1 := Lg.keys_le q T
 have hk2 := Lg.keys_le bq uu
 have hl1 := Lg.lvs_len q T
 have hl2 := Lg.lvs_len bq uu
 have hkv1 := Lg.gen_kv hgq T
 have hkv2 := Lg.gen_kv hgb uu
 refine hK13 _ _ ?_
 refine reglS fun K14 hK14 => ?_
 refine lQ hF hS (mQ rfl <| sq_end) fun a w hF hS => ?_
 refine eQ hF hS rfl (ef_call fn41 rfl (fun w hS => own_ct _ _ (by first | with_reducible assumption | omega | (simp; omega)) w (Sl.mono (hS.le (.inr (by simp))) hz72))) ?_
 rintro v76 _ _ a w ⟨_, _, rfl, rfl, ⟨z77, hz78, rfl, rfl⟩⟩ hF hS
 replace hS : St _ [_, _, _, _, _, _] [_, _, _, _, _, _, _, _, _, _, _, _, _, _, _, _, _, _, _, _] _ := hS
 refine lQ hF hS (q0 (q_call fn40 rfl (fun w hS => mroot_ct _ _ w (Sl.mono (hS.le (.inr (by simp))) hz78) (hS.ext _ _ hg0)) (fun _ _ _ h => h)) <| mQ rfl <| q0 (q_extract rfl rfl) <| q0 (q_extract rfl rfl) <| sq_end) fun a w hF hS => ?_
 refine eQ hF hS rfl (ef_allocA ty62) ?_
 rintro _ _ _ a w ⟨b79, rfl, rfl, rfl⟩ hF hS
 rw [show List.replicate 16 (Value.int .u8 0) = (List.replicate 16 (0 : UInt8)).map vb from by rw [List.map_replicate] <;> rfl] at hS
 refine eQ hF hS rfl (ef_storeW ty62 0 rfl rfl rfl rfl bQ oQ bQ) ?_
 rintro _ _ _ a w ⟨rfl, rfl, rfl⟩ hF hS
 replace hS : St _ [_, _, _, _, _, _] [_, _, _, _, _, _, _, _, _, _, _, _, _, _, _, _, _, _, _, _, _] _ := hS
 refine lQ hF hS (aQ rfl <| sq_end) fun a w hF hS => ?_
 refine wpList_nil (hK14 _ _ ?_)
 refine reglS fun K15 hK15 => ?_
 refine lQ hF hS (mQ rfl <| sq_end) fun a w hF hS => ?_
 refine eQ hF hS rfl (ef_call fn41 rfl (fun w hS => own_ct _ _ (by first | with_reducible assumption | omega | (simp; omega)) w (Sl.mono (hS.le (.inr (by simp))) hz75))) ?_
 rintro v80 _ _ a w ⟨_, _, rfl, rfl, ⟨z81, hz82, rfl, rfl⟩⟩ hF hS
 replace hS : St _ [_, _, _, _, _, _, _] [_, _, _, _, _, _, _, _, _, _, _, _, _, _, _, _, _, _, _, _, _] _ := hS
 refine lQ hF hS (q0 (q_call fn40 rfl (fun w hS => mroot_ct _ _ w (Sl.mono (hS.le (.inr (by simp))) hz82) (hS.ext _ _ hg0)) (fun _ _ _ h => h)) <| mQ rfl <| q0 (q_extract rfl rfl) <| q0 (q_extract rfl rfl) <| sq_end) fun a w hF hS => ?_
 refine eQ hF hS rfl (ef_allocA ty62) ?_
 rintro _ _ _ a w ⟨b83, rfl, rfl, rfl⟩ hF hS
 rw [show List.replicate 16 (Value.int .u8 0) = (List.replicate 16 (0 : UInt8)).map vb from by rw [List.map_replicate] <;> rfl] at hS
 refine eQ hF hS rfl (ef_storeW ty62 0 rfl rfl rfl rfl bQ oQ bQ) ?_
 rintro _ _ _ a w ⟨rfl, rfl, rfl⟩ hF hS
 replace hS : St _ [_, _, _, _, _, _, _] [_, _, _, _, _, _, _, _, _, _, _, _, _, _, _, _, _, _, _, _, _, _] _ := hS
 refine lQ hF hS (aQ rfl <| sq_end) fun a w hF hS => ?_
 refine wpList_nil (hK15 _ _ ?_)
 refine k0 ?_; intro K16 hK16
 refine regdS mixed kQ hF hS (mQ rfl <| q0 (q_nf (q_nei rfl rfl) (by rw [Mk.rootE_n hv1])) <| mQ rfl <| sq_go 82 rfl rfl rfl (q_move rfl) <| sq_go 82 rfl rfl rfl (q_nf (q_nei rfl rfl) (by rw [Mk.rootE_n hv2])) <| q0 (q_pick_f rfl rfl) <| mQ rfl <| sq_go 86 rfl rfl rfl (q_move rfl) <| sq_go 86 rfl rfl rfl (q_move rfl) <| sq_go 86 rfl rfl rfl (q_call fn34 rfl (fun w hS => lroot_ct _ _ _ _ _ hGLL (by omega) w (own_box hS 12 rfl) (own_slK (hl := Lg.fcC_len) (h1 := Lg.fcC_one) (hS.own _ (List.mem_of_getElem? (i := 13) rfl)).1 rfl (by first | omega | (simp; done)) (Lg.good_fc hgFLL)) (hS.ext _ _ hg0)) (fun _ _ _ h => h)) <| sq_go 86 rfl rfl rfl (q_ld_blkW ty62 1 rfl rfl bQ rfl) <| sq_go 86 rfl rfl rfl (q_nf (q_neAB ty62 ty5 kQ rfl rfl bQ bQ) (by rw [hFqLL])) <| q0 (q_pick_f rfl rfl) <| mQ rfl <| sq_go 93 rfl rfl rfl (q_move rfl) <| sq_go 93 rfl rfl rfl (q_move rfl) <| sq_go 93 rfl rfl rfl (q_call fn34 rfl (fun w hS => lroot_ct _ _ _ _ _ hGMM (by omega) w (own_box hS 2 rfl) (own_slK (hl := Lg.fcC_len) (h1 := Lg.fcC_one) (hS.own _ (List.mem_of_getElem? (i := 3) rfl)).1 rfl (by first | omega | (simp; done)) (Lg.good_fc hgFMM)) (hS.ext _ _ hg0)) (fun _ _ _ h => h)) <| sq_go 93 rfl rfl rfl (q_ld_blkW ty62 0 rfl rfl bQ rfl) <| sq_go 93 rfl rfl rfl (q_nf (q_neAB ty62 ty5 kQ rfl rfl bQ bQ) (by rw [hFqMM])) <| q0 (q_pick_f rfl rfl) <| sq_end) fun a w hF hS => ?_
 refine wp_if hF rfl (fun h => absurd h (by simp)) (fun _ => ?_)
 refine wp_skip ?_
 refine hK16 _ _ ?_
 refine regS hF hS (mQ rfl <| mQ rfl <| q0 (q_call fn42 rfl (fun w hS => samel_ct _ _ _ _ w (Sl.mono (hS.le (.inr (by simp))) hz72) (Sl.mono (hS.le (.inr (by simp))) hz75)) (fun _ _ _ h => h)) <| aQ rfl <| sq_end) fun a w hF hS => ?_
 refine k0 ?_; intro K19 hK19
 refine reglS fun K20 hK20 => ?_
 refine lQ hF hS (mQ rfl <| mQ rfl <| sq_end) fun a w hF hS => ?_
 refine wpl_and 1 104 3 hF hS rfl rfl rfl rfl rfl (fun hg => have hg := (by first | exact of_decide_eq_true hg | exact hg); sq_go 104 rfl rfl rfl (q_ld_blkW ty62 1 rfl rfl bQ rfl) <| sq_go 104 rfl rfl rfl (q_ld_blkW ty62 0 rfl rfl bQ rfl) <| sq_go 104 rfl rfl rfl (q_neAB ty62 ty5 kQ rfl rfl bQ bQ) <| sq_end) rfl rfl fun a w hF hS => ?_
 refine wpList_nil (hK20 _ _ ?_)
 refine wp_if hF rfl (fun hc5 => ?_) (fun hc5 => ?_)
 ·(try simp only [bS] at hc5)
  exfalso
  exact hc5.2 (by rw [hc5.1])
 ·(try simp only [bS] at hc5)
  refine wp_skip ?_
  refine hK19 _ _ ?_
  refine k0 ?_; intro K21 hK21
  refine reglS fun K22 hK22 => ?_
  refine lQ hF hS (mQ rfl <| q0 (q_not rfl) <| mQ rfl <| sq_end) fun a w hF hS => ?_
  refine wpl_and 2 111 3 hF hS rfl rfl rfl rfl rfl (fun hg => have hg := (nd_true hg); sq_go 111 rfl rfl rfl (q_ld_blkW ty62 1 rfl rfl bQ rfl) <| sq_go 111 rfl rfl rfl (q_ld_blkW ty62 0 rfl rfl bQ rfl) <| sq_go 111 rfl rfl rfl (q_eqAB ty62 ty5 kQ rfl rfl bQ bQ) <| sq_end) rfl rfl fun a w hF hS => ?_
  refine lQ hF hS (mQ rfl <| sq_end) fun a w hF hS => ?_
  refine wpl_and 7 116 7 hF hS rfl rfl rfl rfl rfl (fun hg => have hg := hg; sq_go 116 rfl rfl rfl (q_move rfl) <| sq_go 116 rfl rfl rfl (q_move rfl) <| sq_go 116 rfl rfl rfl (q_len_sl ty68 hz75 rfl) <| sq_go 116 rfl rfl rfl (q_move rfl) <| sq_go 116 rfl rfl rfl (q_buildP (places := [(0, 1), (1, 1), (2, 1), (3, 1)]) (cells := [.int .i64 0, _, _, .slice none 0 0]) ty78 kQ rfl (fill_stepL (c := [_]) (l := [_, _, _, _]) (l' := [_, _, _, _]) rfl (cells_one rfl) rfl (Nat.le_of_ble_eq_true rfl) rfl (fill_stepL (c := [_]) (l := [_, _, _, _]) (l' := [_, _, _, _]) rfl (cells_one (sl_one' hz75)) rfl (Nat.le_of_ble_eq_true rfl) rfl (fill_endL rfl)))) <| sq_go 116 rfl rfl rfl (q_call fn43 rfl (fun w hS => coll_ct _ (Lg.lvs q T) (⟨0, ((Lg.lvs bq uu).length : Int), (Lg.lvs bq uu), []⟩ : Mk.Pf) _ _ (by omega) (fun x hx => by have := hkv1 x hx; omega) (fun x hx => by have := hkv2 x hx; omega) (by show (Lg.lvs bq uu).length < 1048576; omega) w (Sl.mono (hS.le (.inr (by simp))) hz72) (Sl.mono (hS.le (.inr (by simp))) hz75) sl_nil (hS.ext _ _ hgr)) (fun _ _ _ h => h)) <| sq_go 116 rfl rfl rfl (q_not rfl) <| sq_end) rfl rfl fun a w hF hS => ?_
  refine wpList_nil (hK22 _ _ ?_)
  refine wp_if hF rfl (fun hc6 => ?_) (fun hc6 => ?_)
  ·(try simp only [bS] at hc6)
   exfalso
   exact Lg.roots_no hgq hgb hc6.1.1 hc6.1.2 hc6.2
  ·(try simp only [bS] at hc6)
   refine wp_skip ?_
   refine hK21 _ _ ?_
   refine regS hF hS (q0 (q_call fn20 rfl (fun w hS => lives41_ct w (hS.ext _ _ hg0)) (fun _ _ _ h => h)) <| aQ rfl <| sq_end) fun a w hF hS => ?_
   refine wp_ret ?_
   exact fn_ret (rs := [.tmp 8]) rfl hF hS (vs := [_]) ⟨rfl, trivial⟩ zQ zQ (rfl)
end
end Go.Proofs.YtngcjojijaknnaaGreatDoor
