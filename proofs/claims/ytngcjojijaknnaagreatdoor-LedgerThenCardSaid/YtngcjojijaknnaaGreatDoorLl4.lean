/- A text of a proof over this seat: walks over the program's functions and the plain laws that they need. -/
import Derived.Test.YtngcjojijaknnaaGreatDoorLl3
import Derived.Test.YtngcjojijaknnaaGreatDoorLgA
import Derived.Test.YtngcjojijaknnaaGreatDoorFwB
set_option linter.all false
namespace Go.Proofs.YtngcjojijaknnaaGreatDoor
open Go.Fw
theorem fn23 : FnOk Tryz.prog 23 := ⟨_, Tryz.func23, rfl, by kernel_rfl⟩
theorem fn64 : FnOk Tryz.prog 64 := ⟨_, Tryz.func64, rfl, by kernel_rfl⟩
theorem fn69 : FnOk Tryz.prog 69 := ⟨_, Tryz.func69, rfl, by kernel_rfl⟩
theorem fn70 : FnOk Tryz.prog 70 := ⟨_, Tryz.func70, rfl, by kernel_rfl⟩
theorem fn71 : FnOk Tryz.prog 71 := ⟨_, Tryz.func71, rfl, by kernel_rfl⟩
theorem fn100 : FnOk Tryz.prog 100 := ⟨_, Tryz.func100, rfl, by kernel_rfl⟩

theorem sortsinS : Go.Proofs.AnyZ.SortsIn Tryz.prog lsB_ren Fence.wide 4 := ⟨fun blk off cap ss W hH hblk hsz => callsIn_wide.2 (Go.Proofs.AnyM.slices_Sort_string lsT blk off cap ss W hH hblk hsz), fun p cap W => callsIn_wide.2 (Go.Proofs.AnyM.slices_Sort_string_none lsT p cap W)⟩

set_option maxRecDepth 4000 in
set_option maxHeartbeats 2000000 in
theorem keysS_ct (b : Nat) (w : World) : Ct Tryz.prog 71 [.map (some b)] w (fun r zs hs => ∃ e, r = .func (.func 107) (List.nil : List Value).toArray [Value.pointer (some ⟨e, 0, none⟩)].toArray ∧ zs = [] ∧ hs = [.blk e 135 [.map (some b)]]) := by
 refine fn_enter Tryz.func71 rfl Tryz.ntmps71 (Nat.le_of_ble_eq_true rfl) fun a hF hS => ?_
 refine wp_seq_k ?_; intro K1 hK1
 refine regl ?_
 refine wpl_ef hF hS rfl (ef_box1 rfl rfl) ?_
 clear hF hS; rintro _ _ _ a w ⟨b1, rfl, rfl, rfl⟩ hF hS
 refine wpl_sq hF hS (sq rfl (q_assign rfl) <|
   sq_end) ?_
 clear hF hS; intro a w hF hS
 refine wpList_nil ?_
 refine hK1 _ _ ?_
 clear hK1
 refine wp_seq_k ?_; intro K2 hK2
 refine reg hF hS (sq rfl (q_mkf rfl rfl) <|
   sq rfl (q_assign rfl) <|
   sq_end) ?_
 clear hF hS; intro a w hF hS
 refine hK2 _ _ ?_
 clear hK2
 refine wp_ret ?_
 exact fn_ret (rs := [.tmp 2]) rfl hF hS (vs := [_]) ⟨rfl, trivial⟩ sQ sQ ⟨_, rfl, rfl, rfl⟩

theorem sortedS_ct {l : List (List UInt8 × Value)} {es : List MapEntry} {c e b : Nat} (hM : MpT vs l es c) (hn : (l.map (·.1)).Nodup) (hk : ∀ i ∈ l.map (·.1), i.length ≤ maxLen) (hl : l.length ≤ 4096) (w0 : World) (zsr : List PH) : Cx Tryz.prog 70 [.func (.func 107) (List.nil : List Value).toArray [Value.pointer (some ⟨e, 0, none⟩)].toArray] w0 zsr [.blk e 135 [.map (some b)], .mp b es c] (fun v zs1 hs1 => zs1 = [] ∧ hs1 = [.row v 9 1 ((l.map (·.1)).mergeSort (fun x y => decide (x ≤ y))).length (((l.map (·.1)).mergeSort (fun x y => decide (x ≤ y))).map vs), .blk e 135 [.map (some b)], .mp b es c]) := sortedS_cx lkS lsB sortsinS 9 rfl rfl Tryz.underlying9 (Go.Proofs.enters_of Tryz.func106 kQ rfl) (Go.Proofs.enters_of Tryz.func107 kQ rfl) hM hn hk hl w0 zsr

set_option maxRecDepth 4000 in
set_option maxHeartbeats 2000000 in
theorem keys_ct (b : Nat) (pj v : Value) (l : List Lg.Fct) (tick : Int) (hG : l.Pairwise (fun f g => f.tk ≤ g.tk)) (hl9 : l.length ≤ 512) (w : World) {bt : TypeId} {fz : Nat × Nat} (hl : w.heap[b]? = some (.cells [pj, v].toArray bt fz)) (hb : Sl Go.Fw.encY (ph w) v l) : Ct Tryz.prog 35 [.pointer (some ⟨b, 0, none⟩), vi tick] w (fun r zs hs => zs = [] ∧ hs = [.row r 9 1 (Lg.keys l tick).length ((Lg.keys l tick).map vs)]) := by
 refine fn_enter Tryz.func35 rfl Tryz.ntmps35 (Nat.le_of_ble_eq_true rfl) fun a hF hS => ?_
 have hbl := hb.1
 refine wp_seq_k ?_; intro K1 hK1
 refine reg hF hS (sq rfl (q_assign rfl) <|
   sq_end) ?_
 clear hF hS; intro a w hF hS
 refine hK1 _ _ ?_
 clear hK1
 refine wp_seq_k ?_; intro K2 hK2
 refine regl ?_
 refine wpl_sq hF hS (sq rfl (q_move rfl) <|
   sq rfl (q_move rfl) <|
   sq_end) ?_
 clear hF hS; intro a w hF hS
 refine wpl_ef hF hS rfl (ef_call fn69 rfl (fun w hS => known_ct _ _ _ _ _ hG (by omega) w (hS.ext _ _ hl) (Sl.mono (hS.le zin0) hb))) ?_
 clear hF hS; rintro _ _ _ a w ⟨_, _, rfl, rfl, ⟨bm2, es3, ec4, rfl, rfl, rfl, hM5⟩⟩ hF hS
 replace hS : St _ [] [_] _ := hS
 refine wpl_ef hF hS rfl (ef_call fn71 rfl (fun w hS => keysS_ct _ w )) ?_
 clear hF hS; rintro _ _ _ a w ⟨_, _, rfl, rfl, ⟨bx7, rfl, rfl, rfl⟩⟩ hF hS
 replace hS : St _ [] [_, _] _ := hS
 refine wpl_ef hF hS rfl (ef_callx fn70 rfl (List.Perm.refl _) (by exact (sortedS_ct (by assumption) (Lg.key_nd l tick) (Lg.key_len (Y_all hb) tick) (Lg.key_few (by omega) tick) _ _  (b := bm2)))) ?_
 clear hF hS; rintro v8 _ _ a w ⟨_, _, rfl, rfl, ⟨rfl, rfl⟩⟩ hF hS
 replace hS : St _ [] [_, _, _] _ := hS
 refine wpl_sq hF hS (sq rfl (q_assign rfl) <|
   sq_end) ?_
 clear hF hS; intro a w hF hS
 refine wpList_nil ?_
 rw [Lg.keys_untl hG] at hS
 refine hK2 _ _ ?_
 clear hK2
 refine wp_ret ?_
 exact fn_ret (rs := [.tmp 4]) rfl hF hS (vs := [_]) ⟨rfl, trivial⟩ zQ (zQ.k) ⟨rfl, rfl⟩

set_option maxRecDepth 4000 in
set_option maxHeartbeats 2000000 in
theorem backF_ct (v : Value) (hv : v.oneCell' = true) (w : World) : Ct Tryz.prog 64 [v] w (fun r zs hs => ∃ b1, r = .func (.func 100) (List.nil : List Value).toArray [Value.pointer (some ⟨b1, 0, none⟩)].toArray ∧ zs = [] ∧ hs = [.blk b1 26 [v]]) := by
 refine fn_enter Tryz.func64 rfl Tryz.ntmps64 (Nat.le_of_ble_eq_true rfl) fun a hF hS => ?_
 refine wp_seq_k ?_; intro K1 hK1
 refine regl ?_
 refine wpl_ef hF hS rfl (ef_box1 rfl hv) ?_
 clear hF hS; rintro _ _ _ a w ⟨b1, rfl, rfl, rfl⟩ hF hS
 refine wpl_sq hF hS (sq rfl (q_assign rfl) <|
   sq_end) ?_
 clear hF hS; intro a w hF hS
 refine wpList_nil ?_
 refine hK1 _ _ ?_
 clear hK1
 refine wp_seq_k ?_; intro K2 hK2
 refine reg hF hS (sq rfl (q_mkf rfl rfl) <|
   sq rfl (q_assign rfl) <|
   sq_end) ?_
 clear hF hS; intro a w hF hS
 refine hK2 _ _ ?_
 clear hK2
 refine wp_ret ?_
 exact fn_ret (rs := [.tmp 2]) rfl hF hS (vs := [_]) ⟨rfl, trivial⟩ sQ sQ ⟨_, rfl, rfl, rfl⟩

set_option maxRecDepth 4000 in
set_option maxHeartbeats 2000000 in
theorem bwF1_ct (b1 : Nat) (v : Value) (xs : List Lg.Fct) (Y : Value) (z : PH) (w0 : World) (zsr zst : List PH) (hsr : List Res) (inv : Nat → Prop) (R : Res → Res → Prop) (ra rb : Res) (hz : ZIn w0 zsr z) (hb : Sl encY z v xs) (h0 : inv 0) (hY : ∀ k, k < xs.length → inv k → YdX Tryz.prog Y (Lg.bwF xs k) (St w0 zsr (.blk b1 26 [v] :: ra :: rb :: hsr)) fun b w' => if b = true then inv (k + 1) ∧ St w0 zsr (.blk b1 26 [v] :: ra :: rb :: hsr) w' else ∃ ra' rb', R ra' rb' ∧ St w0 zst (.blk b1 26 [v] :: ra' :: rb' :: hsr) w') : CxX Tryz.prog 100 [Y, Value.pointer (some ⟨b1, 0, none⟩)] w0 zsr zst [.blk b1 26 [v], ra, rb] hsr (fun b hs1 => if b = true then hs1 = [.blk b1 26 [v], ra, rb] ∧ inv xs.length else ∃ ra' rb', hs1 = [.blk b1 26 [v], ra', rb'] ∧ R ra' rb') := by
 refine fn_enterX Tryz.func100 rfl Tryz.ntmps100 (Nat.le_of_ble_eq_true rfl) fun a w hF hS => ?_
 replace hS : St _ (_) (_ :: _ :: _ :: _) _ := hS
 have hbl := hb.1
 refine wp_seq_k ?_; intro K1 hK1
 refine reg hF hS (sq rfl (q_ld_blk1 ty26 0 rfl rfl rfl rfl) <|
   sq rfl (q_len_sl ty26 hb rfl) <|
   sq rfl (q_subi rfl rfl (by omega)) <|
   sq rfl (q_assign rfl) <|
   sq_end) ?_
 clear hF hS; intro a w hF hS
 refine hK1 _ _ ?_
 clear hK1
 refine wp_block ?_
 obtain ⟨hs0, hhs0, hS⟩ : ∃ h, h = _ ∧ St _ _ h _ := ⟨_, rfl, hS⟩
 refine wp_loopx (γ := Nat) (0) (fun (k : Nat) => [(3, vi ((xs.length : Int) - 1 - k))]) [(0, _), (1, _)] (fun (k : Nat) => hs0) (fun (k : Nat) => k ≤ xs.length ∧ inv k) (fun (k : Nat) => xs.length - k) (hF.sub ⟨(by show some (vi _) = some (vi _); congr 2; omega), rfl, rfl, trivial⟩) (by subst hhs0; exact hS) (by exact ⟨Nat.zero_le _, h0⟩) ?_
 clear hF hS; rintro k a w hfact hF hS
 subst hhs0; (try dsimp only at hfact); (try dsimp only at hF); (try dsimp only at hS)
 obtain ⟨hk0, hin⟩ := hfact
 replace hS : St _ (_) (_ :: _ :: _ :: _) _ := hS
 refine wp_seq_k ?_; intro K2 hK2
 refine wp_seq_k ?_; intro K3 hK3
 refine reg hF hS (sq rfl (q_move rfl) <|
   sq rfl (q_gei rfl rfl) <|
   sq_end) ?_
 clear hF hS; intro a w hF hS
 refine hK3 _ _ ?_
 clear hK3
 refine wp_ifd hF rfl (fun hc1 => ?_) (fun hc1 => ?_)
 ·refine wp_skip ?_
  refine hK2 _ _ ?_
  clear hK2
  refine wp_seq_k ?_; intro K4 hK4
  refine wp_block ?_
  refine wp_seq_k ?_; intro K5 hK5
  refine regY 6 rfl ?_
  refine wpl_sq hF hS (sq rfl (q_move rfl) <|
    sq rfl (q_move rfl) <|
    sq rfl (q_ld_blk1 ty26 0 rfl rfl rfl rfl) <|
    sq rfl (q_move rfl) <|
    sq rfl (q_idx_sl ty26 ty24 hb rfl rfl (by omega)) <|
    sq rfl (q_ld_Y ty24 hb hz rfl rfl (by omega)) <|
    sq_end) ?_
  clear hF hS; intro a w hF hS
  refine listR ?_
  have hyd := hY k (by omega) hin
  refine ycallX (ys := [_, _]) (by rfl) rfl hF hS rfl rfl hyd ?_
  clear hF hS; intro bb a w hF hJ
  rcases bb with _ | _
  ·skip
   rw [if_neg (by simp)] at hJ
   obtain ⟨ra2, rb2, hR2, hS⟩ := hJ
   refine yseg rfl hF hS (sq rfl (q_not rfl) <| sq_end) ?_
   clear hF hS; intro a w hF hS
   refine wpListIn_nil ?_
   refine hK5 _ _ ?_
   clear hK5
   refine wp_if hF rfl (fun _ => ?_) (fun h => absurd h (by simp))
   refine wp_ret ?_
   exact fn_retX false rfl rfl hF hS [_, _, _] (by simp) sQ (by rw [if_neg (by simp)]; exact ⟨_, _, rfl, hR2⟩)
  ·skip
   rw [if_pos rfl] at hJ
   obtain ⟨hin2, hS⟩ := hJ
   refine yseg rfl hF hS (sq rfl (q_not rfl) <| sq_end) ?_
   clear hF hS; intro a w hF hS
   refine wpListIn_nil ?_
   refine hK5 _ _ ?_
   clear hK5
   refine wp_if hF rfl (fun h => absurd h (by simp)) (fun _ => ?_)
   refine wp_skip ?_
   refine hK4 _ _ ?_
   clear hK4
   refine reg hF hS (sq rfl (q_move rfl) <|
     sq rfl (q_subi rfl rfl (by omega)) <|
     sq rfl (q_assign rfl) <|
     sq_end) ?_
   clear hF hS; intro a w hF hS
   refine ⟨(k + 1), ?_, ?_, hF.sub ⟨(by show some (vi _) = some (vi _); congr 2; omega), rfl, rfl, trivial⟩, ?_⟩
   ·(try dsimp only); omega
   ·exact ⟨by omega, hin2⟩
   ·exact hS
 ·obtain rfl : k = xs.length := by omega
  refine wp_exit ?_
  -- falls off the end
  exact fn_fallX true rfl rfl hF hS [_, _, _] (by simp) sQ (by rw [if_pos rfl]; exact ⟨rfl, hin⟩)

set_option maxRecDepth 4000 in
set_option maxHeartbeats 2000000 in
theorem known9_ct (v : Value) (l : List Lg.Fct) (tick : Int) (key : List UInt8) (w : World) (hb : Sl Go.Fw.encY (ph w) v l) : Ct Tryz.prog 23 [v, vi tick, vs key] w (fun r _ _ => r = .tuple [vs (Lg.kn l tick key).1, .bool (Lg.kn l tick key).2].toArray) := by
 refine fn_enterM Tryz.func23 rfl Tryz.ntmps23 (Nat.le_of_ble_eq_true rfl) fun a hF hS => ?_
 have hbl := hb.1
 refine wp_seq_k ?_; intro K1 hK1
 refine regl ?_
 refine wpl_ef hF hS rfl (ef_box1 rfl rfl) ?_
 clear hF hS; rintro _ _ _ a w ⟨b1, rfl, rfl, rfl⟩ hF hS
 refine wpl_ef hF hS rfl (ef_box1 rfl rfl) ?_
 clear hF hS; rintro _ _ _ a w ⟨b2, rfl, rfl, rfl⟩ hF hS
 refine wpl_ef hF hS rfl (ef_alloc1 ty9 (by rfl)) ?_
 clear hF hS; rintro _ _ _ a w ⟨b3, rfl, rfl, rfl⟩ hF hS
 refine wpl_ef hF hS rfl (ef_alloc1 ty4 (by rfl)) ?_
 clear hF hS; rintro _ _ _ a w ⟨b4, rfl, rfl, rfl⟩ hF hS
 refine wpList_nil ?_
 refine hK1 _ _ ?_
 clear hK1
 refine wp_seq_k ?_; intro K2 hK2
 refine wp_seq_k ?_; intro K3 hK3
 refine regl ?_
 refine wpl_sq hF hS (sq rfl (q_move rfl) <|
   sq_end) ?_
 clear hF hS; intro a w hF hS
 refine wpl_ef hF hS rfl (ef_call fn64 rfl (fun w hS => backF_ct _ (sl_one' hb) w )) ?_
 clear hF hS; rintro _ _ _ a w ⟨_, _, rfl, rfl, ⟨e1, rfl, rfl, rfl⟩⟩ hF hS
 replace hS : St _ [] [_, _, _, _, _] _ := hS
 refine wpList_nil ?_
 refine hK3 _ _ ?_
 clear hK3
 refine wp_block ?_
 obtain ⟨hs0, hhs0, hS⟩ : ∃ h, h = _ ∧ St _ _ h _ := ⟨_, rfl, hS⟩
 obtain ⟨L0, hL0, hF⟩ : ∃ l, l = _ ∧ Fr _ l _ := ⟨_, rfl, hF⟩
 refine wp_rangeX (ps := [12, 13]) (γ := List UInt8 × Bool) (ξ := Nat) (fun r => (hs0.set 1 (.blk b4 4 [.bool r.2])).set 2 (.blk b3 9 [vs r.1])) (fun (k : Nat) (r : List UInt8 × Bool) => r = ([], false) ∧ (Lg.kn l tick key) = (Lg.kn (l.take (l.length - k)) tick key)) (fun r => (Lg.kn l tick key) = r) (l.length) (fun k => Lg.bwF l k) (([], false)) (fun k r x => (9, .pointer (some ⟨x, 0, none⟩)) :: (13, .agg [vi (l.getD ((l.length : Int) - 1 - k).toNat Lg.f0).tk, vs (l.getD ((l.length : Int) - 1 - k).toNat Lg.f0).ky, vs (l.getD ((l.length : Int) - 1 - k).toNat Lg.f0).vl].toArray) :: (12, vi ((l.length : Int) - 1 - k)) :: L0) (fun k r x => .blk x 24 [vi (l.getD ((l.length : Int) - 1 - k).toNat Lg.f0).tk, vs (l.getD ((l.length : Int) - 1 - k).toNat Lg.f0).ky, vs (l.getD ((l.length : Int) - 1 - k).toNat Lg.f0).vl] :: (hs0.set 1 (.blk b4 4 [.bool r.2])).set 2 (.blk b3 9 [vs r.1])) hF (by subst hhs0; exact hS) (by subst hL0; rfl) rfl (fun _ => rfl) (fn100) (⟨rfl, by rw [Nat.sub_zero, List.take_length]⟩) (fun ro m8 zB zD k9 r9 a w hk9 hi9 hF hS => ?_) (fun Y zs1 zst hzz hzt hY w hS => ?_) (fun l9 m9 zB zD k9 r9 x9 a w hk9 hi9 hF hS => ?_) (fun I D zD a w r9 hno hI hD hi9 hF hS => ?_) (fun I D zD a w r9 hno hI hD hi9 hF hS => ?_)
 ·subst hhs0 hL0
  (try dsimp only [argsL] at hF); (try dsimp only [List.set_cons_zero, List.set_cons_succ] at hS)
  replace hS : St _ [_, _] [_, _, _, _, _] _ := hS
  obtain ⟨rfl, hin9⟩ := hi9
  replace hS : St _ [_, _] [_, _, _, _, _] _ := hS
  refine reglR (by rfl) ?_
  refine wpl_ef hF hS rfl (ef_allocA ty24) ?_
  clear hF hS; rintro _ _ _ a w ⟨b6, rfl, rfl, rfl⟩ hF hS
  refine wpl_ef hF hS rfl (ef_storeW ty24 0 rfl rfl rfl rfl bQ (oc_cons rfl (oc_cons rfl (oc_cons rfl oc_nil))) bQ) ?_
  clear hF hS; rintro _ _ _ a w ⟨rfl, rfl, rfl⟩ hF hS
  replace hS : St _ [_, _] [_, _, _, _, _, _] _ := hS
  refine listR ?_
  exact ⟨rfl, _, hF, hS⟩
 ·subst hhs0 hL0
  refine Calls.mono (bwF1_ct e1 _ l Y _ _ zs1 zst _ (fun k => (Lg.kn l tick key) = (Lg.kn (l.take (l.length - k)) tick key)) (fun ra rb => ∃ r : List UInt8 × Bool, (Lg.kn l tick key) = r ∧ ra = .blk b4 4 [.bool r.2] ∧ rb = .blk b3 9 [vs r.1]) _ _ zin0 hb (by rw [Nat.sub_zero, List.take_length]) (fun k hk hi => (hY k ([], false) hk ⟨rfl, hi⟩).mono fun b w' hJ => ?_) w hS) fun e w' hE => ?_
  ·cases b with
   | true => rw [if_pos rfl] at hJ ⊢; obtain ⟨r', ⟨rfl, h1⟩, h2⟩ := hJ; exact ⟨h1, h2⟩
   | false => rw [if_neg (by simp)] at hJ ⊢; obtain ⟨r', h1, h2⟩ := hJ; exact ⟨_, _, ⟨r', h1, rfl, rfl⟩, h2⟩
  ·obtain ⟨b, v9, hs9, rfl, hS9, hR9⟩ := hE
   refine ⟨⟨_, rfl⟩, ?_⟩
   cases b with
   | true => rw [if_pos rfl] at hR9 hS9; obtain ⟨rfl, h1⟩ := hR9; exact .inl ⟨([], false), ⟨rfl, h1⟩, hS9⟩
   | false => rw [if_neg (by simp)] at hR9 hS9; obtain ⟨ra', rb', rfl, r9, h1, rfl, rfl⟩ := hR9; exact .inr ⟨r9, h1, hS9⟩
 ·subst hhs0 hL0
  (try dsimp only [argsL] at hF); (try dsimp only [List.set_cons_zero, List.set_cons_succ] at hS)
  replace hS : St _ [_, _] [_, _, _, _, _, _] _ := hS
  obtain ⟨rfl, hin9⟩ := hi9
  replace hS : St _ [_, _] [_, _, _, _, _, _] _ := hS
  refine wpIn_block ?_
  refine wpIn_seq_k ?_; intro K4 hK4
  refine reglR (by rfl) ?_
  refine wpl_sq hF hS (sq rfl (q_fieldAddr ty24 rfl rfl (s' := 0) kQ) <|
    sq rfl (q_ld_blk1 ty9 0 rfl rfl rfl rfl) <|
    sq rfl (q_ld_blk1 ty9 4 rfl rfl rfl rfl) <|
    sq rfl (q_eqs rfl rfl) <|
    sq rfl (q_move rfl) <|
    sq_end) ?_
  clear hF hS; intro a w hF hS
  refine wpl_and 4 18 4 hF hS rfl rfl rfl rfl rfl (fun hg => have hg := (by first | exact of_decide_eq_true hg | exact hg); sq_go 18 rfl rfl rfl (q_fieldAddr ty24 rfl rfl (s' := 0) kQ) <|
    sq_go 18 rfl rfl rfl (q_ld_blk1 ty3 0 rfl rfl rfl rfl) <|
    sq_go 18 rfl rfl rfl (q_ld_blk1 ty3 5 rfl rfl rfl rfl) <|
    sq_go 18 rfl rfl rfl (q_lei rfl rfl) <|
    sq_end) rfl rfl ?_
  clear hF hS; intro a w hF hS
  refine listR ?_
  refine hK4 _ _ ?_
  clear hK4
  refine wp_ifR hF rfl (fun hc1 => ?_) (fun hc1 => ?_)
  ·(try simp only [Bool.or_eq_true, Bool.and_eq_true, Bool.or_eq_false_iff, Bool.and_eq_false_iff, decide_eq_true_eq, decide_eq_false_iff_not, Bool.not_eq_true', Bool.not_eq_false'] at hc1)
   refine wpIn_seq_k ?_; intro K5 hK5
   refine reglR (by rfl) ?_
   refine wpl_sq hF hS (sq rfl (q_fieldAddr ty24 rfl rfl (s' := 0) kQ) <|
     sq rfl (q_ld_blk1 ty9 0 rfl rfl rfl rfl) <|
     sq_end) ?_
   clear hF hS; intro a w hF hS
   refine wpl_ef hF hS rfl (ef_store1 ty9 3 rfl rfl rfl rfl (by simp)) ?_
   clear hF hS; rintro _ _ _ a w ⟨rfl, rfl, rfl⟩ hF hS
   (try simp only [List.set_cons_zero, List.set_cons_succ] at hS)
   replace hS : St _ [_, _] [_, _, _, _, _, _] _ := hS
   refine wpl_ef hF hS rfl (ef_store1 ty4 2 rfl rfl rfl rfl (by simp)) ?_
   clear hF hS; rintro _ _ _ a w ⟨rfl, rfl, rfl⟩ hF hS
   (try simp only [List.set_cons_zero, List.set_cons_succ] at hS)
   replace hS : St _ [_, _] [_, _, _, _, _, _] _ := hS
   refine listR ?_
   refine hK5 _ _ ?_
   clear hK5
   refine wpIn_ret ?_
   exact .inr ⟨rfl, _, Lg.kb_hit hk9 hin9 hc1, hS.keep sQ (List.sublist_cons_self _ _)⟩
  ·(try simp only [Bool.or_eq_true, Bool.and_eq_true, Bool.or_eq_false_iff, Bool.and_eq_false_iff, decide_eq_true_eq, decide_eq_false_iff_not, Bool.not_eq_true', Bool.not_eq_false'] at hc1)
   refine wpIn_skip ?_
   exact .inl ⟨rfl, ([], false), ⟨rfl, Lg.kb_miss hk9 hin9 (fun h => by rcases hc1 with h1 | h1; exact h1 h.1; exact h1 h.2)⟩, hS.keep sQ (List.sublist_cons_self _ _)⟩
 ·subst hhs0 hL0
  (try dsimp only [argsL] at hF); (try dsimp only [List.set_cons_zero, List.set_cons_succ] at hS)
  replace hS : St _ [_] [_, _, _, _, _] _ := hS
  replace hS : St _ [_] [_, _, _, _, _] _ := hS
  exact fn_retG [] hI hD (by simp) (by simp) (by simp) (rs := [.cell 6 9, .cell 7 4]) rfl hF hS (vs := [_, _]) ⟨⟨_, _, _, _, _, _, _, rfl, List.mem_of_getElem? (i := 2) rfl, ty9, .inr ⟨rfl, rfl⟩⟩, ⟨_, _, _, _, _, _, _, rfl, List.mem_of_getElem? (i := 1) rfl, ty4, .inr ⟨rfl, rfl⟩⟩, trivial⟩ (fun W hS => ⟨[], [], hS.keep zQ zQ, by rw [hi9]⟩)
 subst hhs0 hL0
 (try dsimp only [argsL] at hF); (try dsimp only [List.set_cons_zero, List.set_cons_succ] at hS)
 replace hS : St _ [_] [_, _, _, _, _] _ := hS
 obtain ⟨rfl, hin9⟩ := hi9
 rw [Nat.sub_self] at hin9
 replace hS : St _ [_] [_, _, _, _, _] _ := hS
 refine hK2 _ _ ?_
 clear hK2
 refine wp_seq_k ?_; intro K6 hK6
 refine regl ?_
 refine wpl_ef hF hS rfl (ef_store1 ty9 2 rfl rfl rfl rfl (by simp)) ?_
 clear hF hS; rintro _ _ _ a w ⟨rfl, rfl, rfl⟩ hF hS
 (try simp only [List.set_cons_zero, List.set_cons_succ] at hS)
 replace hS : St _ [_] [_, _, _, _, _] _ := hS
 refine wpl_ef hF hS rfl (ef_store1 ty4 1 rfl rfl rfl rfl (by simp)) ?_
 clear hF hS; rintro _ _ _ a w ⟨rfl, rfl, rfl⟩ hF hS
 (try simp only [List.set_cons_zero, List.set_cons_succ] at hS)
 replace hS : St _ [_] [_, _, _, _, _] _ := hS
 refine wpList_nil ?_
 refine hK6 _ _ ?_
 clear hK6
 refine wp_ret ?_
 exact fn_retG [] hI hD (by simp) (by simp) (by simp) (rs := [.cell 6 9, .cell 7 4]) rfl hF hS (vs := [_, _]) ⟨⟨_, _, _, _, _, _, _, rfl, List.mem_of_getElem? (i := 2) rfl, ty9, .inr ⟨rfl, rfl⟩⟩, ⟨_, _, _, _, _, _, _, rfl, List.mem_of_getElem? (i := 1) rfl, ty4, .inr ⟨rfl, rfl⟩⟩, trivial⟩ (fun W hS => ⟨[], [], hS.keep zQ zQ, by rw [hin9]; rfl⟩)

set_option maxRecDepth 4000 in
set_option maxHeartbeats 2000000 in
theorem at_ct (b : Nat) (pj v : Value) (l : List Lg.Fct) (tick : Int) (key : List UInt8) (hG : l.Pairwise (fun f g => f.tk ≤ g.tk)) (hl9 : l.length ≤ 512) (w : World) {bt : TypeId} {fz : Nat × Nat} (hl : w.heap[b]? = some (.cells [pj, v].toArray bt fz)) (hb : Sl Go.Fw.encY (ph w) v l) : Ct Tryz.prog 38 [.pointer (some ⟨b, 0, none⟩), vi tick, vs key] w (fun r _ _ => r = .tuple [vs (Lg.kn l tick key).1, .bool (Lg.kn l tick key).2].toArray) := by
 refine fn_enter Tryz.func38 rfl Tryz.ntmps38 (Nat.le_of_ble_eq_true rfl) fun a hF hS => ?_
 have hbl := hb.1
 refine wp_seq_k ?_; intro K1 hK1
 refine reg hF hS (sq rfl (q_assign rfl) <|
   sq rfl (q_assign rfl) <|
   sq_end) ?_
 clear hF hS; intro a w hF hS
 refine hK1 _ _ ?_
 clear hK1
 refine wp_seq_k ?_; intro K2 hK2
 refine reg hF hS (sq rfl (q_move rfl) <|
   sq rfl (q_move rfl) <|
   sq rfl (q_call fn73 rfl (fun w hS => until_ct _ _ _ _ _ hG (by omega) w (hS.ext _ _ hl) (Sl.mono (hS.le zin0) hb)) (fun _ _ _ h => h)) <|
   sq rfl (q_move rfl) <|
   sq rfl (q_move rfl) <|
   sq rfl (q_call fn23 rfl (fun w hS => known9_ct _ _ _ _ w (Sl.mono (hS.le zin0) (unt_sl hb))) (fun _ _ _ h => h)) <|
   sq rfl (q_extract rfl rfl) <|
   sq rfl (q_extract rfl rfl) <|
   sq rfl (q_assign rfl) <|
   sq rfl (q_assign rfl) <|
   sq_end) ?_
 clear hF hS; intro a w hF hS
 refine hK2 _ _ ?_
 clear hK2
 refine wp_ret ?_
 exact fn_ret (rs := [.tmp 6, .tmp 7]) rfl hF hS (vs := [_, _]) ⟨rfl, rfl, trivial⟩ zQ zQ (by rw [Lg.kn_untl hG])
end Go.Proofs.YtngcjojijaknnaaGreatDoor
