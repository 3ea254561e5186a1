/- A text of a proof over this seat: walks over the program's functions and the plain laws that they need. -/
import Derived.Test.YtngcjojijaknnaaGreatDoorLw3
import Derived.Test.YtngcjojijaknnaaGreatDoorShW
import Derived.Test.YtngcjojijaknnaaGreatDoorFwB
set_option linter.all false
namespace Go.Proofs.YtngcjojijaknnaaGreatDoor
open Go.Fw
theorem fn59 : FnOk Tryz.prog 59 := ⟨_, Tryz.func59, rfl, by kernel_rfl⟩
theorem fn98 : FnOk Tryz.prog 98 := ⟨_, Tryz.func98, rfl, by kernel_rfl⟩
attribute [local irreducible] Wi.int Wi.bytes Wi.ints Wi.strs Wi.dgs Ls.encT Wi.getInt Wi.valBE Wi.vj Wi.cnt Wi.wcnt Wi.getBytes

set_option maxRecDepth 4000 in
set_option maxHeartbeats 2000000 in
theorem wcount_ct (v : Value) (xs : List UInt8) (s : Nat) (hs : 0 < s ∧ s ≤ 16) (w : World) (hb : Sl encB (ph w) v xs) : Ct Tryz.prog 98 [v, vi (s : Int)] w (fun r _ _ => r = .tuple [vi (Wi.wcnt s xs).1, vi (Wi.wcnt s xs).2.1, vi (Wi.wcnt s xs).2.2].toArray) := by
 refine fn_enter Tryz.func98 rfl Tryz.ntmps98 (Nat.le_of_ble_eq_true rfl) fun a hF hS => ?_
 have hbl := hb.1
 have hw1 := Wi.wcnt_1 s xs
 refine wp_seq_k ?_; intro K1 hK1
 refine reg hF hS (sq rfl (q_assign rfl) <|
   sq rfl (q_assign rfl) <|
   sq rfl (q_assign rfl) <|
   sq_end) ?_
 clear hF hS; intro a w hF hS
 refine hK1 _ _ ?_
 clear hK1
 refine wp_seq_k ?_; intro K2 hK2
 refine reg hF hS (sq rfl (q_move rfl) <|
   sq rfl (q_call fn59 rfl (fun w hS => wgi_ct _ _ w (Sl.mono (hS.le zin0) hb)) (fun _ _ _ h => h)) <|
   sq rfl (q_move rfl) <|
   sq rfl (q_extract rfl rfl) <|
   sq rfl (q_extract rfl rfl) <|
   sq rfl (q_extract rfl rfl) <|
   sq rfl (q_assign rfl) <|
   sq rfl (q_assign rfl) <|
   sq rfl (q_assign rfl) <|
   sq_end) ?_
 clear hF hS; intro a w hF hS
 refine hK2 _ _ ?_
 clear hK2
 obtain ⟨hs0, hhs0, hS⟩ : ∃ h, h = _ ∧ St _ _ h _ := ⟨_, rfl, hS⟩
 refine wp_cutx (γ := Int) (fun (e : Int) => [(6, vi e)]) [(4, _), (5, _)] (fun (e : Int) => hs0) (fun (e : Int) => e = (Wi.wcnt s xs).2.2) (hF.sub ⟨rfl, rfl, trivial⟩) hS ?_ ?_
 ·subst hhs0
  refine wp_block ?_
  refine wp_seq_k ?_; intro K3 hK3
  refine reg hF hS (sq rfl (q_move rfl) <|
    sq rfl (q_nei rfl rfl) <|
    sq rfl (q_assign rfl) <|
    sq_end) ?_
  clear hF hS; intro a w hF hS
  refine hK3 _ _ ?_
  clear hK3
  refine wp_ifn hF rfl (fun hc1 => ?_) (fun hc1 => ?_)
  ·refine wp_skip ?_
   refine ⟨((Wi.getInt xs).2.2), ?_, hF.sub ⟨rfl, rfl, rfl, trivial⟩, ?_⟩
   ·unfold Wi.wcnt; rw [if_pos hc1]
   ·exact hS
  ·have hgp := Wi.getInt_pos (b := xs) (by omega)
   refine wp_seq_k ?_; intro K4 hK4
   refine reg hF hS (sq rfl (q_move rfl) <|
     sq rfl (q_lti rfl rfl) <|
     sq rfl (q_assign rfl) <|
     sq_end) ?_
   clear hF hS; intro a w hF hS
   refine hK4 _ _ ?_
   clear hK4
   refine wp_ifd hF rfl (fun hc2 => ?_) (fun hc2 => ?_)
   ·refine reg hF hS (sq rfl (q_assign rfl) <|
      sq_end) ?_
    clear hF hS; intro a w hF hS
    refine ⟨(2), ?_, hF.sub ⟨rfl, rfl, rfl, trivial⟩, ?_⟩
    ·unfold Wi.wcnt; rw [if_neg (by omega), if_pos hc2]
    ·exact hS
   ·refine wp_seq_k ?_; intro K5 hK5
    refine reg hF hS (sq rfl (q_move rfl) <|
      sq rfl (q_move rfl) <|
      sq rfl (q_len_sl ty25 hb rfl) <|
      sq rfl (q_move rfl) <|
      sq rfl (q_subi rfl rfl (by omega)) <|
      sq rfl (q_move rfl) <|
      sq rfl (q_quoi rfl rfl (by omega)) <|
      sq rfl (q_gti rfl rfl) <|
      sq rfl (q_assign rfl) <|
      sq_end) ?_
    clear hF hS; intro a w hF hS
    refine hK5 _ _ ?_
    clear hK5
    refine wp_ifd hF rfl (fun hc3 => ?_) (fun hc3 => ?_)
    ·refine reg hF hS (sq rfl (q_assign rfl) <|
       sq_end) ?_
     clear hF hS; intro a w hF hS
     refine ⟨(3), ?_, hF.sub ⟨rfl, rfl, rfl, trivial⟩, ?_⟩
     ·unfold Wi.wcnt; rw [if_neg (by omega), if_neg hc2, if_pos hc3]
     ·exact hS
    ·refine wp_skip ?_
     refine ⟨((Wi.getInt xs).2.2), ?_, hF.sub ⟨rfl, rfl, rfl, trivial⟩, ?_⟩
     ·unfold Wi.wcnt; rw [if_neg (by omega), if_neg hc2, if_neg hc3]
     ·exact hS
 clear hF hS; rintro e a w hfact hF hS
 subst hhs0; (try dsimp only at hfact); (try dsimp only at hF); (try dsimp only at hS)
 have he := hfact
 replace hS : St _ [] [] _ := hS
 refine wp_seq_k ?_; intro K6 hK6
 refine reg hF hS (sq rfl (q_move rfl) <|
   sq rfl (q_move rfl) <|
   sq rfl (q_move rfl) <|
   sq rfl (q_assign rfl) <|
   sq rfl (q_assign rfl) <|
   sq rfl (q_assign rfl) <|
   sq_end) ?_
 clear hF hS; intro a w hF hS
 refine hK6 _ _ ?_
 clear hK6
 refine wp_ret ?_
 exact fn_ret (rs := [.tmp 4, .tmp 5, .tmp 6]) rfl hF hS (vs := [_, _, _]) ⟨rfl, rfl, rfl, trivial⟩ zQ zQ (Wi.wc_eq he hw1.1 hw1.2)

set_option maxRecDepth 4000 in
set_option maxHeartbeats 2000000 in
theorem wgb_ct (v : Value) (xs : List UInt8)  (w : World) (hb : Sl encB (ph w) v xs) : Ct Tryz.prog 60 [v] w (fun r _ _ => r = .tuple [vs (Wi.getBytes xs).1, vi (Wi.getBytes xs).2.1, vi (Wi.getBytes xs).2.2].toArray) := by
 refine fn_enter Tryz.func60 rfl Tryz.ntmps60 (Nat.le_of_ble_eq_true rfl) fun a hF hS => ?_
 have hbl := hb.1
 have hwc := Wi.wcnt_cnt 1 (by decide) xs
 refine wp_seq_k ?_; intro K1 hK1
 refine reg hF hS (sq rfl (q_assign rfl) <|
   sq rfl (q_assign rfl) <|
   sq rfl (q_assign rfl) <|
   sq_end) ?_
 clear hF hS; intro a w hF hS
 refine hK1 _ _ ?_
 clear hK1
 refine wp_seq_k ?_; intro K2 hK2
 refine reg hF hS (sq rfl (q_move rfl) <|
   sq rfl (q_call fn98 rfl (fun w hS => wcount_ct _ _ 1 (by omega) w (Sl.mono (hS.le zin0) hb)) (fun _ _ _ h => h)) <|
   sq rfl (q_move rfl) <|
   sq rfl (q_extract rfl rfl) <|
   sq rfl (q_extract rfl rfl) <|
   sq rfl (q_extract rfl rfl) <|
   sq rfl (q_assign rfl) <|
   sq rfl (q_assign rfl) <|
   sq rfl (q_assign rfl) <|
   sq_end) ?_
 clear hF hS; intro a w hF hS
 refine hK2 _ _ ?_
 clear hK2
 refine wp_seq_k ?_; intro K3 hK3
 refine wp_seq_k ?_; intro K4 hK4
 refine reg hF hS (sq rfl (q_move rfl) <|
   sq rfl (q_nei rfl rfl) <|
   sq_end) ?_
 clear hF hS; intro a w hF hS
 refine hK4 _ _ ?_
 clear hK4
 refine wp_ifn hF rfl (fun hc1 => ?_) (fun hc1 => ?_)
 ·refine wp_seq_k ?_; intro K5 hK5
  refine reg hF hS (sq rfl (q_move rfl) <|
    sq rfl (q_assign rfl) <|
    sq rfl (q_assign rfl) <|
    sq rfl (q_assign rfl) <|
    sq_end) ?_
  clear hF hS; intro a w hF hS
  refine hK5 _ _ ?_
  clear hK5
  refine wp_ret ?_
  exact fn_ret (rs := [.tmp 2, .tmp 3, .tmp 4]) rfl hF hS (vs := [_, _, _]) ⟨rfl, rfl, rfl, trivial⟩ zQ zQ (Wi.gb_err hwc.1 hc1)
 ·have hc1 : (Wi.wcnt 1 xs).2.2 = 0 := by omega
  obtain ⟨hk0, hk1, hk2, hk3⟩ := Wi.wcnt_ok (s := 1) (by decide) hc1
  refine wp_skip ?_
  refine hK3 _ _ ?_
  clear hK3
  refine wp_seq_k ?_; intro K6 hK6
  refine reg hF hS (sq rfl (q_move rfl) <|
    sq rfl (q_move rfl) <|
    sq rfl (q_move rfl) <|
    sq rfl (q_move rfl) <|
    sq rfl (q_addi rfl rfl (by omega)) <|
    sq rfl (q_slsl_lo_hi ty25 ty5 hb rfl rfl rfl (by omega)) <|
    sq rfl (q_b2s_sl ty25 ty9 ty5 (Sl.cut hb (by omega)) zin0 rfl) <|
    sq rfl (q_move rfl) <|
    sq rfl (q_move rfl) <|
    sq rfl (q_addi rfl rfl (by omega)) <|
    sq rfl (q_assign rfl) <|
    sq rfl (q_assign rfl) <|
    sq rfl (q_assign rfl) <|
    sq_end) ?_
  clear hF hS; intro a w hF hS
  refine hK6 _ _ ?_
  clear hK6
  refine wp_ret ?_
  exact fn_ret (rs := [.tmp 2, .tmp 3, .tmp 4]) rfl hF hS (vs := [_, _, _]) ⟨rfl, rfl, rfl, trivial⟩ zQ zQ (Wi.gb_ok hk0 hc1 ⟨hk1, by omega⟩)

end Go.Proofs.YtngcjojijaknnaaGreatDoor
