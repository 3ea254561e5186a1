/- A text of a proof over this seat: walks over the program's functions and the plain laws that they need. -/
import Derived.Test.YtlopocmpcmkdkaaDoorSh4
import Derived.Test.YtlopocmpcmkdkaaDoorFwB
set_option linter.all false
namespace Go.Proofs.YtlopocmpcmkdkaaDoor
open Go.Fw
theorem fn61 : FnOk Tryd.prog 61 := ⟨_, Tryd.func61, rfl, by kernel_rfl⟩
theorem fn62 : FnOk Tryd.prog 62 := ⟨_, Tryd.func62, rfl, by kernel_rfl⟩

attribute [local irreducible] Sha.adds Sha.fin Sha.sum Sha.padK Sha.comp Sha.mac Sha.keyOf Sha.sch Sha.rounds Sha.outB

set_option maxRecDepth 4000 in
set_option maxHeartbeats 2000000 in
theorem mac_ct (key text : List UInt8) (hk : key.length < 1099511627776) (ht : text.length < 1099511627776) (w : World) {fz1 : Nat × Nat} {bt1 : TypeId} (hg1 : w.heap[1]? = some (.cells (Sha.kc.map vw).toArray bt1 fz1)) : Ct Tryd.prog 49 [vs key, vs text] w (fun r _ _ => r = vs (Sha.mac key text)) := by
 refine fn_enter Tryd.func49 rfl Tryd.ntmps49 (Nat.le_of_ble_eq_true rfl) fun a hF hS => ?_
 refine wp_seq_k ?_; intro K1 hK1
 refine regl ?_
 refine wpl_ef hF hS rfl (ef_box1 rfl rfl) ?_
 clear hF hS; rintro _ _ _ a w ⟨b1, rfl, rfl, rfl⟩ hF hS
 refine wpl_sq hF hS (sq rfl (q_assign rfl) <|
   sq_end) ?_
 clear hF hS; intro a w hF hS
 refine wpList_nil ?_
 refine hK1 _ _ ?_
 clear hK1
 refine wp_seq_k ?_; intro K2 hK2
 refine wp_seq_k ?_; intro K3 hK3
 refine reg hF hS (sq rfl (q_ld_blk1 ty9 0 rfl rfl rfl rfl) <|
   sq rfl (q_len_s ty9 rfl) <|
   sq rfl (q_gti rfl rfl) <|
   sq_end) ?_
 clear hF hS; intro a w hF hS
 refine hK3 _ _ ?_
 clear hK3
 refine wp_ifd hF rfl (fun hc1 => ?_) (fun hc1 => ?_)
 ·have hsl := Sha.sum_len key
  have hko : Sha.keyOf key = Sha.sum key := by unfold Sha.keyOf; rw [if_pos (by omega)]
  obtain ⟨hm1, hm2, hm3, hm4, hm5⟩ := Sha.mac_ok (Sha.sum key) 54 text ht
  have hfl := Sha.fin_len (Sha.adds (Sha.adds Sha.begin_ (Sha.padK (Sha.sum key) 54)) text)
  obtain ⟨hn1, hn2, hn3, hn4, hn5⟩ := Sha.mac_ok (Sha.sum key) 92 (Sha.fin (Sha.adds (Sha.adds Sha.begin_ (Sha.padK (Sha.sum key) 54)) text)) (by omega)
  have hp1 := Sha.padK_len (Sha.sum key) 54
  have hp2 := Sha.padK_len (Sha.sum key) 92
  have hfl2 := Sha.fin_len (Sha.adds (Sha.adds Sha.begin_ (Sha.padK (Sha.sum key) 92)) (Sha.fin (Sha.adds (Sha.adds Sha.begin_ (Sha.padK (Sha.sum key) 54)) text)))
  refine wp_seq_k ?_; intro K4 hK4
  refine regl ?_
  refine wpl_sq hF hS (sq rfl (q_ld_blk1 ty9 0 rfl rfl rfl rfl) <|
    sq_end) ?_
  clear hF hS; intro a w hF hS
  refine wpl_ef hF hS rfl (ef_s2b ty9 ty52 ty5 rfl (by omega)) ?_
  clear hF hS; rintro v2 _ _ a w ⟨z3, rfl, rfl, hz4⟩ hF hS
  refine wpl_sq hF hS (sq rfl (q_call fn61 rfl (fun w hS => sum_ct _ _ (by first | assumption | omega) w (Sl.mono (hS.le (.inr (by simp))) hz4) (hS.ext _ _ hg1)) (fun _ _ _ h => h)) <|
    sq_end) ?_
  clear hF hS; intro a w hF hS
  refine wpl_ef hF hS rfl (ef_allocA ty89) ?_
  clear hF hS; rintro _ _ _ a w ⟨b5, rfl, rfl, rfl⟩ hF hS
  rw [show List.replicate 32 (Value.int .u8 0) = (List.replicate 32 (0 : UInt8)).map vb from by rw [List.map_replicate] <;> rfl] at hS
  refine wpl_ef hF hS rfl (ef_storeW ty89 0 rfl rfl rfl rfl bQ oQ bQ) ?_
  clear hF hS; rintro _ _ _ a w ⟨rfl, rfl, rfl⟩ hF hS
  replace hS : St _ [_] [_, _] _ := hS
  refine wpList_nil ?_
  refine hK4 _ _ ?_
  clear hK4
  refine regl ?_
  refine wpl_sq hF hS (sq rfl (q_sla ty89 ty5 rfl) <|
    sq rfl (q_b2s_blkM ty52 ty9 ty5 0 rfl rfl bQ) <|
    sq_end) ?_
  clear hF hS; intro a w hF hS
  refine wpl_ef hF hS rfl (ef_store1 ty9 1 rfl rfl rfl rfl (by simp)) ?_
  clear hF hS; rintro _ _ _ a w ⟨rfl, rfl, rfl⟩ hF hS
  (try simp only [List.set_cons_zero, List.set_cons_succ] at hS)
  replace hS : St _ [_] [_, _] _ := hS
  refine wpList_nil ?_
  refine hK2 _ _ ?_
  clear hK2
  refine wp_seq_k ?_; intro K5 hK5
  refine reg hF hS (sq rfl (q_mkf rfl rfl) <|
    sq rfl (q_assign rfl) <|
    sq_end) ?_
  clear hF hS; intro a w hF hS
  refine hK5 _ _ ?_
  clear hK5
  refine wp_seq_k ?_; intro K6 hK6
  refine regl ?_
  refine wpl_sq hF hS (sq rfl (q_call fn52 rfl (fun w hS => begin_ct w ) (fun _ _ _ h => h)) <|
    sq rfl (q_move rfl) <|
    sq rfl (q_callv fn62 rfl rfl (by exact fun w hS => macp_ct 54 _ (by first | assumption | omega) _ _ w (own_box hS 1 rfl)) (fun _ _ _ h => h)) <|
    sq rfl (q_call fn53 rfl (fun w hS => add_ct _ _ (by first | assumption | rfl | (simp only [*]; done)) (by first | assumption | rfl | (simp only [*]; done)) (by first | assumption | omega | (simp; done) | (simp; omega) | (simp only [*]; omega)) w (hS.ext _ _ hg1)) (fun _ _ _ h => h)) <|
    sq rfl (q_move rfl) <|
    sq rfl (q_call fn53 rfl (fun w hS => add_ct _ _ (by first | assumption | rfl | (simp only [*]; done)) (by first | assumption | rfl | (simp only [*]; done)) (by first | assumption | omega | (simp; done) | (simp; omega) | (simp only [*]; omega)) w (hS.ext _ _ hg1)) (fun _ _ _ h => h)) <|
    sq rfl (q_call fn55 rfl (fun w hS => ssum_ct _ (by first | assumption | (simp [*]; done)) (by first | assumption | (simp [*]; done)) (by first | assumption | omega) w (hS.ext _ _ hg1)) (fun _ _ _ h => h)) <|
    sq_end) ?_
  clear hF hS; intro a w hF hS
  refine wpl_ef hF hS rfl (ef_allocA ty89) ?_
  clear hF hS; rintro _ _ _ a w ⟨b6, rfl, rfl, rfl⟩ hF hS
  rw [show List.replicate 32 (Value.int .u8 0) = (List.replicate 32 (0 : UInt8)).map vb from by rw [List.map_replicate] <;> rfl] at hS
  refine wpl_ef hF hS rfl (ef_storeW ty89 0 rfl rfl rfl rfl bQ oQ bQ) ?_
  clear hF hS; rintro _ _ _ a w ⟨rfl, rfl, rfl⟩ hF hS
  replace hS : St _ [_] [_, _, _] _ := hS
  refine wpList_nil ?_
  refine hK6 _ _ ?_
  clear hK6
  refine wp_seq_k ?_; intro K7 hK7
  revert hS; revert hF; apply regJ (J := J1 (α0 := Nat) 35 _ _ _ _ _) #[false, false, false, false, false, false, false, false, false, false] 10 mixed rfl rfl
  ·intro w hF hS
   refine goW_take 1 _ rfl kQ rfl hF (hS.keep sQ zQ) (q_move rfl) ?_
   clear hF; intro a hF
   refine goW_take 4 _ rfl kQ rfl hF (hS.keep sQ (zQ.k)) (q_sla ty89 ty5 rfl) ?_
   clear hF; intro a hF
   refine goW_take 5 _ rfl kQ rfl hF (hS.keep sQ (zQ.k)) (q_b2s_blkM ty52 ty9 ty5 0 rfl rfl bQ) ?_
   clear hF; intro a hF
   refine goW_fork [0, 8] kQ rfl ⟨?_, ?_, trivial⟩
   ·refine stepW_ef _ rfl rfl hF hS rfl (ef_qt (q_call fn52 rfl (fun w hS => begin_ct w ) (fun _ _ _ h => h))) ?_
    clear hF hS; rintro _ _ _ a w ⟨rfl, rfl, rfl⟩ hF hS
    refine ⟨⟨.inr (hS.keep sQ (zQ.k)), .inr (hS.keep sQ (zQ.k)), .inr (hS.keep sQ zQ), trivial⟩, ?_⟩
    refine goW_fork [2, 8] kQ rfl ⟨?_, ?_, trivial⟩
    ·refine stepW_ef _ rfl rfl hF hS rfl (ef_qt (q_callv fn62 rfl rfl (by exact fun w hS => macp_ct 92 _ (by first | assumption | omega) _ _ w (own_box hS 2 rfl)) (fun _ _ _ h => h))) ?_
     clear hF hS; rintro _ _ _ a w ⟨rfl, rfl, rfl⟩ hF hS
     refine ⟨⟨.inr (hS.keep sQ (zQ.k)), .inr (hS.keep sQ (zQ.k)), iQ, trivial⟩, ?_⟩
     refine goW_fork [3, 8] kQ rfl ⟨?_, ?_, trivial⟩
     ·refine stepW_ef _ rfl rfl hF hS rfl (ef_qt (q_call fn53 rfl (fun w hS => add_ct _ _ (by first | assumption | rfl | (simp only [*]; done)) (by first | assumption | rfl | (simp only [*]; done)) (by first | assumption | omega | (simp; done) | (simp; omega) | (simp only [*]; omega)) w (hS.ext _ _ hg1)) (fun _ _ _ h => h))) ?_
      clear hF hS; rintro _ _ _ a w ⟨rfl, rfl, rfl⟩ hF hS
      refine ⟨⟨.inr (hS.keep sQ (zQ.k)), .inr (hS.keep sQ (zQ.k)), iQ, trivial⟩, ?_⟩
      refine goW_fork [6, 8] kQ rfl ⟨?_, ?_, trivial⟩
      ·refine stepW_ef _ rfl rfl hF hS rfl (ef_qt (q_call fn53 rfl (fun w hS => add_ct _ _ (by first | assumption | rfl | (simp only [*]; done)) (by first | assumption | rfl | (simp only [*]; done)) (by first | assumption | omega | (simp; done) | (simp; omega) | (simp only [*]; omega)) w (hS.ext _ _ hg1)) (fun _ _ _ h => h))) ?_
       clear hF hS; rintro _ _ _ a w ⟨rfl, rfl, rfl⟩ hF hS
       refine ⟨⟨iQ, iQ, iQ, trivial⟩, ?_⟩
       refine goW_fork [7, 8] kQ rfl ⟨?_, ?_, trivial⟩
       ·refine stepW_ef _ rfl rfl hF hS rfl (ef_qt (q_call fn55 rfl (fun w hS => ssum_ct _ (by first | assumption | (simp [*]; done)) (by first | assumption | (simp [*]; done)) (by first | assumption | omega) w (hS.ext _ _ hg1)) (fun _ _ _ h => h))) ?_
        clear hF hS; rintro _ _ _ a w ⟨rfl, rfl, rfl⟩ hF hS
        refine ⟨⟨iQ, iQ, iQ, trivial⟩, ?_⟩
        refine gQ 8 rfl rfl hF hS rfl (ef_allocA ty89) ?_
        clear hF hS; rintro _ _ _ a w ⟨b_6_8, rfl, rfl, rfl⟩ hF hS
        rw [show List.replicate 32 (Value.int .u8 0) = (List.replicate 32 (0 : UInt8)).map vb from by rw [List.map_replicate] <;> rfl] at hS
        refine ⟨⟨iQ, iQ, iQ, trivial⟩, ?_⟩
        refine gQ 9 rfl rfl hF hS rfl (ef_storeW ty89 0 rfl rfl rfl rfl bQ oQ bQ) ?_
        clear hF hS; rintro _ _ _ a w ⟨rfl, rfl, rfl⟩ hF hS
        refine ⟨⟨iQ, iQ, iQ, trivial⟩, ?_⟩
        exact goW_done kQ (j1_mk b_6_8 (trivial) (hF.sub (L' := [(8, _)]) ⟨rfl, trivial⟩) hS)
       ·refine stepW_ef _ rfl rfl hF hS rfl (ef_allocA ty89) ?_
        clear hF hS; rintro _ _ _ a w ⟨b_6_8, rfl, rfl, rfl⟩ hF hS
        rw [show List.replicate 32 (Value.int .u8 0) = (List.replicate 32 (0 : UInt8)).map vb from by rw [List.map_replicate] <;> rfl] at hS
        refine ⟨⟨iQ, iQ, iQ, trivial⟩, ?_⟩
        refine gQ 7 rfl rfl hF hS rfl (ef_qt (q_call fn55 rfl (fun w hS => ssum_ct _ (by first | assumption | (simp [*]; done)) (by first | assumption | (simp [*]; done)) (by first | assumption | omega) w (hS.ext _ _ hg1)) (fun _ _ _ h => h))) ?_
        clear hF hS; rintro _ _ _ a w ⟨rfl, rfl, rfl⟩ hF hS
        refine ⟨⟨iQ, iQ, iQ, trivial⟩, ?_⟩
        refine gQ 9 rfl rfl hF hS rfl (ef_storeW ty89 0 rfl rfl rfl rfl bQ oQ bQ) ?_
        clear hF hS; rintro _ _ _ a w ⟨rfl, rfl, rfl⟩ hF hS
        refine ⟨⟨iQ, iQ, iQ, trivial⟩, ?_⟩
        exact goW_done kQ (j1_mk b_6_8 (trivial) (hF.sub (L' := [(8, _)]) ⟨rfl, trivial⟩) hS)
      ·refine stepW_ef _ rfl rfl hF hS rfl (ef_allocA ty89) ?_
       clear hF hS; rintro _ _ _ a w ⟨b_6_8, rfl, rfl, rfl⟩ hF hS
       rw [show List.replicate 32 (Value.int .u8 0) = (List.replicate 32 (0 : UInt8)).map vb from by rw [List.map_replicate] <;> rfl] at hS
       refine ⟨⟨.inr (hS.keep sQ (zQ.k.n)), .inr (hS.keep sQ (zQ.k.n)), iQ, trivial⟩, ?_⟩
       refine gQ 6 rfl rfl hF hS rfl (ef_qt (q_call fn53 rfl (fun w hS => add_ct _ _ (by first | assumption | rfl | (simp only [*]; done)) (by first | assumption | rfl | (simp only [*]; done)) (by first | assumption | omega | (simp; done) | (simp; omega) | (simp only [*]; omega)) w (hS.ext _ _ hg1)) (fun _ _ _ h => h))) ?_
       clear hF hS; rintro _ _ _ a w ⟨rfl, rfl, rfl⟩ hF hS
       refine ⟨⟨iQ, iQ, iQ, trivial⟩, ?_⟩
       refine gQ 7 rfl rfl hF hS rfl (ef_qt (q_call fn55 rfl (fun w hS => ssum_ct _ (by first | assumption | (simp [*]; done)) (by first | assumption | (simp [*]; done)) (by first | assumption | omega) w (hS.ext _ _ hg1)) (fun _ _ _ h => h))) ?_
       clear hF hS; rintro _ _ _ a w ⟨rfl, rfl, rfl⟩ hF hS
       refine ⟨⟨iQ, iQ, iQ, trivial⟩, ?_⟩
       refine gQ 9 rfl rfl hF hS rfl (ef_storeW ty89 0 rfl rfl rfl rfl bQ oQ bQ) ?_
       clear hF hS; rintro _ _ _ a w ⟨rfl, rfl, rfl⟩ hF hS
       refine ⟨⟨iQ, iQ, iQ, trivial⟩, ?_⟩
       exact goW_done kQ (j1_mk b_6_8 (trivial) (hF.sub (L' := [(8, _)]) ⟨rfl, trivial⟩) hS)
     ·refine stepW_ef _ rfl rfl hF hS rfl (ef_allocA ty89) ?_
      clear hF hS; rintro _ _ _ a w ⟨b_6_8, rfl, rfl, rfl⟩ hF hS
      rw [show List.replicate 32 (Value.int .u8 0) = (List.replicate 32 (0 : UInt8)).map vb from by rw [List.map_replicate] <;> rfl] at hS
      refine ⟨⟨.inr (hS.keep sQ (zQ.k.n)), .inr (hS.keep sQ (zQ.k.n)), iQ, trivial⟩, ?_⟩
      refine gQ 3 rfl rfl hF hS rfl (ef_qt (q_call fn53 rfl (fun w hS => add_ct _ _ (by first | assumption | rfl | (simp only [*]; done)) (by first | assumption | rfl | (simp only [*]; done)) (by first | assumption | omega | (simp; done) | (simp; omega) | (simp only [*]; omega)) w (hS.ext _ _ hg1)) (fun _ _ _ h => h))) ?_
      clear hF hS; rintro _ _ _ a w ⟨rfl, rfl, rfl⟩ hF hS
      refine ⟨⟨.inr (hS.keep sQ (zQ.k.n)), .inr (hS.keep sQ (zQ.k.n)), iQ, trivial⟩, ?_⟩
      refine gQ 6 rfl rfl hF hS rfl (ef_qt (q_call fn53 rfl (fun w hS => add_ct _ _ (by first | assumption | rfl | (simp only [*]; done)) (by first | assumption | rfl | (simp only [*]; done)) (by first | assumption | omega | (simp; done) | (simp; omega) | (simp only [*]; omega)) w (hS.ext _ _ hg1)) (fun _ _ _ h => h))) ?_
      clear hF hS; rintro _ _ _ a w ⟨rfl, rfl, rfl⟩ hF hS
      refine ⟨⟨iQ, iQ, iQ, trivial⟩, ?_⟩
      refine gQ 7 rfl rfl hF hS rfl (ef_qt (q_call fn55 rfl (fun w hS => ssum_ct _ (by first | assumption | (simp [*]; done)) (by first | assumption | (simp [*]; done)) (by first | assumption | omega) w (hS.ext _ _ hg1)) (fun _ _ _ h => h))) ?_
      clear hF hS; rintro _ _ _ a w ⟨rfl, rfl, rfl⟩ hF hS
      refine ⟨⟨iQ, iQ, iQ, trivial⟩, ?_⟩
      refine gQ 9 rfl rfl hF hS rfl (ef_storeW ty89 0 rfl rfl rfl rfl bQ oQ bQ) ?_
      clear hF hS; rintro _ _ _ a w ⟨rfl, rfl, rfl⟩ hF hS
      refine ⟨⟨iQ, iQ, iQ, trivial⟩, ?_⟩
      exact goW_done kQ (j1_mk b_6_8 (trivial) (hF.sub (L' := [(8, _)]) ⟨rfl, trivial⟩) hS)
    ·refine stepW_ef _ rfl rfl hF hS rfl (ef_allocA ty89) ?_
     clear hF hS; rintro _ _ _ a w ⟨b_6_8, rfl, rfl, rfl⟩ hF hS
     rw [show List.replicate 32 (Value.int .u8 0) = (List.replicate 32 (0 : UInt8)).map vb from by rw [List.map_replicate] <;> rfl] at hS
     refine ⟨⟨.inr (hS.keep sQ (zQ.k.n)), .inr (hS.keep sQ (zQ.k.n)), .inr (hS.keep sQ zQ), trivial⟩, ?_⟩
     refine gQ 2 rfl rfl hF hS rfl (ef_qt (q_callv fn62 rfl rfl (by exact fun w hS => macp_ct 92 _ (by first | assumption | omega) _ _ w (own_box hS 3 rfl)) (fun _ _ _ h => h))) ?_
     clear hF hS; rintro _ _ _ a w ⟨rfl, rfl, rfl⟩ hF hS
     refine ⟨⟨.inr (hS.keep sQ (zQ.k.n)), .inr (hS.keep sQ (zQ.k.n)), iQ, trivial⟩, ?_⟩
     refine gQ 3 rfl rfl hF hS rfl (ef_qt (q_call fn53 rfl (fun w hS => add_ct _ _ (by first | assumption | rfl | (simp only [*]; done)) (by first | assumption | rfl | (simp only [*]; done)) (by first | assumption | omega | (simp; done) | (simp; omega) | (simp only [*]; omega)) w (hS.ext _ _ hg1)) (fun _ _ _ h => h))) ?_
     clear hF hS; rintro _ _ _ a w ⟨rfl, rfl, rfl⟩ hF hS
     refine ⟨⟨.inr (hS.keep sQ (zQ.k.n)), .inr (hS.keep sQ (zQ.k.n)), iQ, trivial⟩, ?_⟩
     refine gQ 6 rfl rfl hF hS rfl (ef_qt (q_call fn53 rfl (fun w hS => add_ct _ _ (by first | assumption | rfl | (simp only [*]; done)) (by first | assumption | rfl | (simp only [*]; done)) (by first | assumption | omega | (simp; done) | (simp; omega) | (simp only [*]; omega)) w (hS.ext _ _ hg1)) (fun _ _ _ h => h))) ?_
     clear hF hS; rintro _ _ _ a w ⟨rfl, rfl, rfl⟩ hF hS
     refine ⟨⟨iQ, iQ, iQ, trivial⟩, ?_⟩
     refine gQ 7 rfl rfl hF hS rfl (ef_qt (q_call fn55 rfl (fun w hS => ssum_ct _ (by first | assumption | (simp [*]; done)) (by first | assumption | (simp [*]; done)) (by first | assumption | omega) w (hS.ext _ _ hg1)) (fun _ _ _ h => h))) ?_
     clear hF hS; rintro _ _ _ a w ⟨rfl, rfl, rfl⟩ hF hS
     refine ⟨⟨iQ, iQ, iQ, trivial⟩, ?_⟩
     refine gQ 9 rfl rfl hF hS rfl (ef_storeW ty89 0 rfl rfl rfl rfl bQ oQ bQ) ?_
     clear hF hS; rintro _ _ _ a w ⟨rfl, rfl, rfl⟩ hF hS
     refine ⟨⟨iQ, iQ, iQ, trivial⟩, ?_⟩
     exact goW_done kQ (j1_mk b_6_8 (trivial) (hF.sub (L' := [(8, _)]) ⟨rfl, trivial⟩) hS)
   ·refine stepW_ef _ rfl rfl hF hS rfl (ef_allocA ty89) ?_
    clear hF hS; rintro _ _ _ a w ⟨b_6_8, rfl, rfl, rfl⟩ hF hS
    rw [show List.replicate 32 (Value.int .u8 0) = (List.replicate 32 (0 : UInt8)).map vb from by rw [List.map_replicate] <;> rfl] at hS
    refine ⟨⟨.inr (hS.keep sQ (zQ.k.n)), .inr (hS.keep sQ (zQ.k.n)), .inr (hS.keep sQ zQ), trivial⟩, ?_⟩
    refine gQ 0 rfl rfl hF hS rfl (ef_qt (q_call fn52 rfl (fun w hS => begin_ct w ) (fun _ _ _ h => h))) ?_
    clear hF hS; rintro _ _ _ a w ⟨rfl, rfl, rfl⟩ hF hS
    refine ⟨⟨.inr (hS.keep sQ (zQ.k.n)), .inr (hS.keep sQ (zQ.k.n)), .inr (hS.keep sQ zQ), trivial⟩, ?_⟩
    refine gQ 2 rfl rfl hF hS rfl (ef_qt (q_callv fn62 rfl rfl (by exact fun w hS => macp_ct 92 _ (by first | assumption | omega) _ _ w (own_box hS 3 rfl)) (fun _ _ _ h => h))) ?_
    clear hF hS; rintro _ _ _ a w ⟨rfl, rfl, rfl⟩ hF hS
    refine ⟨⟨.inr (hS.keep sQ (zQ.k.n)), .inr (hS.keep sQ (zQ.k.n)), iQ, trivial⟩, ?_⟩
    refine gQ 3 rfl rfl hF hS rfl (ef_qt (q_call fn53 rfl (fun w hS => add_ct _ _ (by first | assumption | rfl | (simp only [*]; done)) (by first | assumption | rfl | (simp only [*]; done)) (by first | assumption | omega | (simp; done) | (simp; omega) | (simp only [*]; omega)) w (hS.ext _ _ hg1)) (fun _ _ _ h => h))) ?_
    clear hF hS; rintro _ _ _ a w ⟨rfl, rfl, rfl⟩ hF hS
    refine ⟨⟨.inr (hS.keep sQ (zQ.k.n)), .inr (hS.keep sQ (zQ.k.n)), iQ, trivial⟩, ?_⟩
    refine gQ 6 rfl rfl hF hS rfl (ef_qt (q_call fn53 rfl (fun w hS => add_ct _ _ (by first | assumption | rfl | (simp only [*]; done)) (by first | assumption | rfl | (simp only [*]; done)) (by first | assumption | omega | (simp; done) | (simp; omega) | (simp only [*]; omega)) w (hS.ext _ _ hg1)) (fun _ _ _ h => h))) ?_
    clear hF hS; rintro _ _ _ a w ⟨rfl, rfl, rfl⟩ hF hS
    refine ⟨⟨iQ, iQ, iQ, trivial⟩, ?_⟩
    refine gQ 7 rfl rfl hF hS rfl (ef_qt (q_call fn55 rfl (fun w hS => ssum_ct _ (by first | assumption | (simp [*]; done)) (by first | assumption | (simp [*]; done)) (by first | assumption | omega) w (hS.ext _ _ hg1)) (fun _ _ _ h => h))) ?_
    clear hF hS; rintro _ _ _ a w ⟨rfl, rfl, rfl⟩ hF hS
    refine ⟨⟨iQ, iQ, iQ, trivial⟩, ?_⟩
    refine gQ 9 rfl rfl hF hS rfl (ef_storeW ty89 0 rfl rfl rfl rfl bQ oQ bQ) ?_
    clear hF hS; rintro _ _ _ a w ⟨rfl, rfl, rfl⟩ hF hS
    refine ⟨⟨iQ, iQ, iQ, trivial⟩, ?_⟩
    exact goW_done kQ (j1_mk b_6_8 (trivial) (hF.sub (L' := [(8, _)]) ⟨rfl, trivial⟩) hS)
  rintro a w ⟨b_6_8, -, hF, hS⟩
  (try dsimp only at hF); (try dsimp only at hS)
  refine hK7 _ _ ?_
  clear hK7
  refine wp_seq_k ?_; intro K8 hK8
  refine reg hF hS (sq rfl (q_sla ty89 ty5 rfl) <|
    sq rfl (q_b2s_blkM ty52 ty9 ty5 0 rfl rfl bQ) <|
    sq rfl (q_assign rfl) <|
    sq_end) ?_
  clear hF hS; intro a w hF hS
  refine hK8 _ _ ?_
  clear hK8
  refine wp_ret ?_
  exact fn_ret (rs := [.tmp 4]) rfl hF hS (vs := [_]) ⟨rfl, trivial⟩ zQ zQ (by unfold Sha.mac; rw [hko])
 ·have hko : Sha.keyOf key = key := by unfold Sha.keyOf; rw [if_neg (by omega)]
  obtain ⟨hm1, hm2, hm3, hm4, hm5⟩ := Sha.mac_ok (key) 54 text ht
  have hfl := Sha.fin_len (Sha.adds (Sha.adds Sha.begin_ (Sha.padK (key) 54)) text)
  obtain ⟨hn1, hn2, hn3, hn4, hn5⟩ := Sha.mac_ok (key) 92 (Sha.fin (Sha.adds (Sha.adds Sha.begin_ (Sha.padK (key) 54)) text)) (by omega)
  have hp1 := Sha.padK_len (key) 54
  have hp2 := Sha.padK_len (key) 92
  have hfl2 := Sha.fin_len (Sha.adds (Sha.adds Sha.begin_ (Sha.padK (key) 92)) (Sha.fin (Sha.adds (Sha.adds Sha.begin_ (Sha.padK (key) 54)) text)))
  refine wp_skip ?_
  refine hK2 _ _ ?_
  clear hK2
  refine wp_seq_k ?_; intro K9 hK9
  refine reg hF hS (sq rfl (q_mkf rfl rfl) <|
    sq rfl (q_assign rfl) <|
    sq_end) ?_
  clear hF hS; intro a w hF hS
  refine hK9 _ _ ?_
  clear hK9
  refine wp_seq_k ?_; intro K10 hK10
  refine regl ?_
  refine wpl_sq hF hS (sq rfl (q_call fn52 rfl (fun w hS => begin_ct w ) (fun _ _ _ h => h)) <|
    sq rfl (q_move rfl) <|
    sq rfl (q_callv fn62 rfl rfl (by exact fun w hS => macp_ct 54 _ (by first | assumption | omega) _ _ w (own_box hS 0 rfl)) (fun _ _ _ h => h)) <|
    sq rfl (q_call fn53 rfl (fun w hS => add_ct _ _ (by first | assumption | rfl | (simp only [*]; done)) (by first | assumption | rfl | (simp only [*]; done)) (by first | assumption | omega | (simp; done) | (simp; omega) | (simp only [*]; omega)) w (hS.ext _ _ hg1)) (fun _ _ _ h => h)) <|
    sq rfl (q_move rfl) <|
    sq rfl (q_call fn53 rfl (fun w hS => add_ct _ _ (by first | assumption | rfl | (simp only [*]; done)) (by first | assumption | rfl | (simp only [*]; done)) (by first | assumption | omega | (simp; done) | (simp; omega) | (simp only [*]; omega)) w (hS.ext _ _ hg1)) (fun _ _ _ h => h)) <|
    sq rfl (q_call fn55 rfl (fun w hS => ssum_ct _ (by first | assumption | (simp [*]; done)) (by first | assumption | (simp [*]; done)) (by first | assumption | omega) w (hS.ext _ _ hg1)) (fun _ _ _ h => h)) <|
    sq_end) ?_
  clear hF hS; intro a w hF hS
  refine wpl_ef hF hS rfl (ef_allocA ty89) ?_
  clear hF hS; rintro _ _ _ a w ⟨b7, rfl, rfl, rfl⟩ hF hS
  rw [show List.replicate 32 (Value.int .u8 0) = (List.replicate 32 (0 : UInt8)).map vb from by rw [List.map_replicate] <;> rfl] at hS
  refine wpl_ef hF hS rfl (ef_storeW ty89 0 rfl rfl rfl rfl bQ oQ bQ) ?_
  clear hF hS; rintro _ _ _ a w ⟨rfl, rfl, rfl⟩ hF hS
  replace hS : St _ [] [_, _] _ := hS
  refine wpList_nil ?_
  refine hK10 _ _ ?_
  clear hK10
  refine wp_seq_k ?_; intro K11 hK11
  revert hS; revert hF; apply regJ (J := J1 (α0 := Nat) 35 _ _ _ _ _) #[false, false, false, false, false, false, false, false, false, false] 10 mixed rfl rfl
  ·intro w hF hS
   refine goW_take 1 _ rfl kQ rfl hF (hS.keep sQ zQ) (q_move rfl) ?_
   clear hF; intro a hF
   refine goW_take 4 _ rfl kQ rfl hF (hS.keep sQ (zQ.k)) (q_sla ty89 ty5 rfl) ?_
   clear hF; intro a hF
   refine goW_take 5 _ rfl kQ rfl hF (hS.keep sQ (zQ.k)) (q_b2s_blkM ty52 ty9 ty5 0 rfl rfl bQ) ?_
   clear hF; intro a hF
   refine goW_fork [0, 8] kQ rfl ⟨?_, ?_, trivial⟩
   ·refine stepW_ef _ rfl rfl hF hS rfl (ef_qt (q_call fn52 rfl (fun w hS => begin_ct w ) (fun _ _ _ h => h))) ?_
    clear hF hS; rintro _ _ _ a w ⟨rfl, rfl, rfl⟩ hF hS
    refine ⟨⟨.inr (hS.k1 (zQ.k)), .inr (hS.k1 (zQ.k)), .inr hS.k0, trivial⟩, ?_⟩
    refine goW_fork [2, 8] kQ rfl ⟨?_, ?_, trivial⟩
    ·refine stepW_ef _ rfl rfl hF hS rfl (ef_qt (q_callv fn62 rfl rfl (by exact fun w hS => macp_ct 92 _ (by first | assumption | omega) _ _ w (own_box hS 1 rfl)) (fun _ _ _ h => h))) ?_
     clear hF hS; rintro _ _ _ a w ⟨rfl, rfl, rfl⟩ hF hS
     refine ⟨⟨.inr (hS.k1 (zQ.k)), .inr (hS.k1 (zQ.k)), iQ, trivial⟩, ?_⟩
     refine goW_fork [3, 8] kQ rfl ⟨?_, ?_, trivial⟩
     ·refine stepW_ef _ rfl rfl hF hS rfl (ef_qt (q_call fn53 rfl (fun w hS => add_ct _ _ (by first | assumption | rfl | (simp only [*]; done)) (by first | assumption | rfl | (simp only [*]; done)) (by first | assumption | omega | (simp; done) | (simp; omega) | (simp only [*]; omega)) w (hS.ext _ _ hg1)) (fun _ _ _ h => h))) ?_
      clear hF hS; rintro _ _ _ a w ⟨rfl, rfl, rfl⟩ hF hS
      refine ⟨⟨.inr (hS.k1 (zQ.k)), .inr (hS.k1 (zQ.k)), iQ, trivial⟩, ?_⟩
      refine goW_fork [6, 8] kQ rfl ⟨?_, ?_, trivial⟩
      ·refine stepW_ef _ rfl rfl hF hS rfl (ef_qt (q_call fn53 rfl (fun w hS => add_ct _ _ (by first | assumption | rfl | (simp only [*]; done)) (by first | assumption | rfl | (simp only [*]; done)) (by first | assumption | omega | (simp; done) | (simp; omega) | (simp only [*]; omega)) w (hS.ext _ _ hg1)) (fun _ _ _ h => h))) ?_
       clear hF hS; rintro _ _ _ a w ⟨rfl, rfl, rfl⟩ hF hS
       refine ⟨⟨iQ, iQ, iQ, trivial⟩, ?_⟩
       refine goW_fork [7, 8] kQ rfl ⟨?_, ?_, trivial⟩
       ·refine stepW_ef _ rfl rfl hF hS rfl (ef_qt (q_call fn55 rfl (fun w hS => ssum_ct _ (by first | assumption | (simp [*]; done)) (by first | assumption | (simp [*]; done)) (by first | assumption | omega) w (hS.ext _ _ hg1)) (fun _ _ _ h => h))) ?_
        clear hF hS; rintro _ _ _ a w ⟨rfl, rfl, rfl⟩ hF hS
        refine ⟨⟨iQ, iQ, iQ, trivial⟩, ?_⟩
        refine gQ 8 rfl rfl hF hS rfl (ef_allocA ty89) ?_
        clear hF hS; rintro _ _ _ a w ⟨b_6_8, rfl, rfl, rfl⟩ hF hS
        rw [show List.replicate 32 (Value.int .u8 0) = (List.replicate 32 (0 : UInt8)).map vb from by rw [List.map_replicate] <;> rfl] at hS
        refine ⟨⟨iQ, iQ, iQ, trivial⟩, ?_⟩
        refine gQ 9 rfl rfl hF hS rfl (ef_storeW ty89 0 rfl rfl rfl rfl bQ oQ bQ) ?_
        clear hF hS; rintro _ _ _ a w ⟨rfl, rfl, rfl⟩ hF hS
        refine ⟨⟨iQ, iQ, iQ, trivial⟩, ?_⟩
        exact goW_done kQ (j1_mk b_6_8 (trivial) (hF.sub (L' := [(8, _)]) ⟨rfl, trivial⟩) hS)
       ·refine stepW_ef _ rfl rfl hF hS rfl (ef_allocA ty89) ?_
        clear hF hS; rintro _ _ _ a w ⟨b_6_8, rfl, rfl, rfl⟩ hF hS
        rw [show List.replicate 32 (Value.int .u8 0) = (List.replicate 32 (0 : UInt8)).map vb from by rw [List.map_replicate] <;> rfl] at hS
        refine ⟨⟨iQ, iQ, iQ, trivial⟩, ?_⟩
        refine gQ 7 rfl rfl hF hS rfl (ef_qt (q_call fn55 rfl (fun w hS => ssum_ct _ (by first | assumption | (simp [*]; done)) (by first | assumption | (simp [*]; done)) (by first | assumption | omega) w (hS.ext _ _ hg1)) (fun _ _ _ h => h))) ?_
        clear hF hS; rintro _ _ _ a w ⟨rfl, rfl, rfl⟩ hF hS
        refine ⟨⟨iQ, iQ, iQ, trivial⟩, ?_⟩
        refine gQ 9 rfl rfl hF hS rfl (ef_storeW ty89 0 rfl rfl rfl rfl bQ oQ bQ) ?_
        clear hF hS; rintro _ _ _ a w ⟨rfl, rfl, rfl⟩ hF hS
        refine ⟨⟨iQ, iQ, iQ, trivial⟩, ?_⟩
        exact goW_done kQ (j1_mk b_6_8 (trivial) (hF.sub (L' := [(8, _)]) ⟨rfl, trivial⟩) hS)
      ·refine stepW_ef _ rfl rfl hF hS rfl (ef_allocA ty89) ?_
       clear hF hS; rintro _ _ _ a w ⟨b_6_8, rfl, rfl, rfl⟩ hF hS
       rw [show List.replicate 32 (Value.int .u8 0) = (List.replicate 32 (0 : UInt8)).map vb from by rw [List.map_replicate] <;> rfl] at hS
       refine ⟨⟨.inr (hS.k1 (zQ.k.n)), .inr (hS.k1 (zQ.k.n)), iQ, trivial⟩, ?_⟩
       refine gQ 6 rfl rfl hF hS rfl (ef_qt (q_call fn53 rfl (fun w hS => add_ct _ _ (by first | assumption | rfl | (simp only [*]; done)) (by first | assumption | rfl | (simp only [*]; done)) (by first | assumption | omega | (simp; done) | (simp; omega) | (simp only [*]; omega)) w (hS.ext _ _ hg1)) (fun _ _ _ h => h))) ?_
       clear hF hS; rintro _ _ _ a w ⟨rfl, rfl, rfl⟩ hF hS
       refine ⟨⟨iQ, iQ, iQ, trivial⟩, ?_⟩
       refine gQ 7 rfl rfl hF hS rfl (ef_qt (q_call fn55 rfl (fun w hS => ssum_ct _ (by first | assumption | (simp [*]; done)) (by first | assumption | (simp [*]; done)) (by first | assumption | omega) w (hS.ext _ _ hg1)) (fun _ _ _ h => h))) ?_
       clear hF hS; rintro _ _ _ a w ⟨rfl, rfl, rfl⟩ hF hS
       refine ⟨⟨iQ, iQ, iQ, trivial⟩, ?_⟩
       refine gQ 9 rfl rfl hF hS rfl (ef_storeW ty89 0 rfl rfl rfl rfl bQ oQ bQ) ?_
       clear hF hS; rintro _ _ _ a w ⟨rfl, rfl, rfl⟩ hF hS
       refine ⟨⟨iQ, iQ, iQ, trivial⟩, ?_⟩
       exact goW_done kQ (j1_mk b_6_8 (trivial) (hF.sub (L' := [(8, _)]) ⟨rfl, trivial⟩) hS)
     ·refine stepW_ef _ rfl rfl hF hS rfl (ef_allocA ty89) ?_
      clear hF hS; rintro _ _ _ a w ⟨b_6_8, rfl, rfl, rfl⟩ hF hS
      rw [show List.replicate 32 (Value.int .u8 0) = (List.replicate 32 (0 : UInt8)).map vb from by rw [List.map_replicate] <;> rfl] at hS
      refine ⟨⟨.inr (hS.k1 (zQ.k.n)), .inr (hS.k1 (zQ.k.n)), iQ, trivial⟩, ?_⟩
      refine gQ 3 rfl rfl hF hS rfl (ef_qt (q_call fn53 rfl (fun w hS => add_ct _ _ (by first | assumption | rfl | (simp only [*]; done)) (by first | assumption | rfl | (simp only [*]; done)) (by first | assumption | omega | (simp; done) | (simp; omega) | (simp only [*]; omega)) w (hS.ext _ _ hg1)) (fun _ _ _ h => h))) ?_
      clear hF hS; rintro _ _ _ a w ⟨rfl, rfl, rfl⟩ hF hS
      refine ⟨⟨.inr (hS.k1 (zQ.k.n)), .inr (hS.k1 (zQ.k.n)), iQ, trivial⟩, ?_⟩
      refine gQ 6 rfl rfl hF hS rfl (ef_qt (q_call fn53 rfl (fun w hS => add_ct _ _ (by first | assumption | rfl | (simp only [*]; done)) (by first | assumption | rfl | (simp only [*]; done)) (by first | assumption | omega | (simp; done) | (simp; omega) | (simp only [*]; omega)) w (hS.ext _ _ hg1)) (fun _ _ _ h => h))) ?_
      clear hF hS; rintro _ _ _ a w ⟨rfl, rfl, rfl⟩ hF hS
      refine ⟨⟨iQ, iQ, iQ, trivial⟩, ?_⟩
      refine gQ 7 rfl rfl hF hS rfl (ef_qt (q_call fn55 rfl (fun w hS => ssum_ct _ (by first | assumption | (simp [*]; done)) (by first | assumption | (simp [*]; done)) (by first | assumption | omega) w (hS.ext _ _ hg1)) (fun _ _ _ h => h))) ?_
      clear hF hS; rintro _ _ _ a w ⟨rfl, rfl, rfl⟩ hF hS
      refine ⟨⟨iQ, iQ, iQ, trivial⟩, ?_⟩
      refine gQ 9 rfl rfl hF hS rfl (ef_storeW ty89 0 rfl rfl rfl rfl bQ oQ bQ) ?_
      clear hF hS; rintro _ _ _ a w ⟨rfl, rfl, rfl⟩ hF hS
      refine ⟨⟨iQ, iQ, iQ, trivial⟩, ?_⟩
      exact goW_done kQ (j1_mk b_6_8 (trivial) (hF.sub (L' := [(8, _)]) ⟨rfl, trivial⟩) hS)
    ·refine stepW_ef _ rfl rfl hF hS rfl (ef_allocA ty89) ?_
     clear hF hS; rintro _ _ _ a w ⟨b_6_8, rfl, rfl, rfl⟩ hF hS
     rw [show List.replicate 32 (Value.int .u8 0) = (List.replicate 32 (0 : UInt8)).map vb from by rw [List.map_replicate] <;> rfl] at hS
     refine ⟨⟨.inr (hS.k1 (zQ.k.n)), .inr (hS.k1 (zQ.k.n)), .inr hS.k0, trivial⟩, ?_⟩
     refine gQ 2 rfl rfl hF hS rfl (ef_qt (q_callv fn62 rfl rfl (by exact fun w hS => macp_ct 92 _ (by first | assumption | omega) _ _ w (own_box hS 2 rfl)) (fun _ _ _ h => h))) ?_
     clear hF hS; rintro _ _ _ a w ⟨rfl, rfl, rfl⟩ hF hS
     refine ⟨⟨.inr (hS.k1 (zQ.k.n)), .inr (hS.k1 (zQ.k.n)), iQ, trivial⟩, ?_⟩
     refine gQ 3 rfl rfl hF hS rfl (ef_qt (q_call fn53 rfl (fun w hS => add_ct _ _ (by first | assumption | rfl | (simp only [*]; done)) (by first | assumption | rfl | (simp only [*]; done)) (by first | assumption | omega | (simp; done) | (simp; omega) | (simp only [*]; omega)) w (hS.ext _ _ hg1)) (fun _ _ _ h => h))) ?_
     clear hF hS; rintro _ _ _ a w ⟨rfl, rfl, rfl⟩ hF hS
     refine ⟨⟨.inr (hS.k1 (zQ.k.n)), .inr (hS.k1 (zQ.k.n)), iQ, trivial⟩, ?_⟩
     refine gQ 6 rfl rfl hF hS rfl (ef_qt (q_call fn53 rfl (fun w hS => add_ct _ _ (by first | assumption | rfl | (simp only [*]; done)) (by first | assumption | rfl | (simp only [*]; done)) (by first | assumption | omega | (simp; done) | (simp; omega) | (simp only [*]; omega)) w (hS.ext _ _ hg1)) (fun _ _ _ h => h))) ?_
     clear hF hS; rintro _ _ _ a w ⟨rfl, rfl, rfl⟩ hF hS
     refine ⟨⟨iQ, iQ, iQ, trivial⟩, ?_⟩
     refine gQ 7 rfl rfl hF hS rfl (ef_qt (q_call fn55 rfl (fun w hS => ssum_ct _ (by first | assumption | (simp [*]; done)) (by first | assumption | (simp [*]; done)) (by first | assumption | omega) w (hS.ext _ _ hg1)) (fun _ _ _ h => h))) ?_
     clear hF hS; rintro _ _ _ a w ⟨rfl, rfl, rfl⟩ hF hS
     refine ⟨⟨iQ, iQ, iQ, trivial⟩, ?_⟩
     refine gQ 9 rfl rfl hF hS rfl (ef_storeW ty89 0 rfl rfl rfl rfl bQ oQ bQ) ?_
     clear hF hS; rintro _ _ _ a w ⟨rfl, rfl, rfl⟩ hF hS
     refine ⟨⟨iQ, iQ, iQ, trivial⟩, ?_⟩
     exact goW_done kQ (j1_mk b_6_8 (trivial) (hF.sub (L' := [(8, _)]) ⟨rfl, trivial⟩) hS)
   ·refine stepW_ef _ rfl rfl hF hS rfl (ef_allocA ty89) ?_
    clear hF hS; rintro _ _ _ a w ⟨b_6_8, rfl, rfl, rfl⟩ hF hS
    rw [show List.replicate 32 (Value.int .u8 0) = (List.replicate 32 (0 : UInt8)).map vb from by rw [List.map_replicate] <;> rfl] at hS
    refine ⟨⟨.inr (hS.k1 (zQ.k.n)), .inr (hS.k1 (zQ.k.n)), .inr hS.k0, trivial⟩, ?_⟩
    refine gQ 0 rfl rfl hF hS rfl (ef_qt (q_call fn52 rfl (fun w hS => begin_ct w ) (fun _ _ _ h => h))) ?_
    clear hF hS; rintro _ _ _ a w ⟨rfl, rfl, rfl⟩ hF hS
    refine ⟨⟨.inr (hS.k1 (zQ.k.n)), .inr (hS.k1 (zQ.k.n)), .inr hS.k0, trivial⟩, ?_⟩
    refine gQ 2 rfl rfl hF hS rfl (ef_qt (q_callv fn62 rfl rfl (by exact fun w hS => macp_ct 92 _ (by first | assumption | omega) _ _ w (own_box hS 2 rfl)) (fun _ _ _ h => h))) ?_
    clear hF hS; rintro _ _ _ a w ⟨rfl, rfl, rfl⟩ hF hS
    refine ⟨⟨.inr (hS.k1 (zQ.k.n)), .inr (hS.k1 (zQ.k.n)), iQ, trivial⟩, ?_⟩
    refine gQ 3 rfl rfl hF hS rfl (ef_qt (q_call fn53 rfl (fun w hS => add_ct _ _ (by first | assumption | rfl | (simp only [*]; done)) (by first | assumption | rfl | (simp only [*]; done)) (by first | assumption | omega | (simp; done) | (simp; omega) | (simp only [*]; omega)) w (hS.ext _ _ hg1)) (fun _ _ _ h => h))) ?_
    clear hF hS; rintro _ _ _ a w ⟨rfl, rfl, rfl⟩ hF hS
    refine ⟨⟨.inr (hS.k1 (zQ.k.n)), .inr (hS.k1 (zQ.k.n)), iQ, trivial⟩, ?_⟩
    refine gQ 6 rfl rfl hF hS rfl (ef_qt (q_call fn53 rfl (fun w hS => add_ct _ _ (by first | assumption | rfl | (simp only [*]; done)) (by first | assumption | rfl | (simp only [*]; done)) (by first | assumption | omega | (simp; done) | (simp; omega) | (simp only [*]; omega)) w (hS.ext _ _ hg1)) (fun _ _ _ h => h))) ?_
    clear hF hS; rintro _ _ _ a w ⟨rfl, rfl, rfl⟩ hF hS
    refine ⟨⟨iQ, iQ, iQ, trivial⟩, ?_⟩
    refine gQ 7 rfl rfl hF hS rfl (ef_qt (q_call fn55 rfl (fun w hS => ssum_ct _ (by first | assumption | (simp [*]; done)) (by first | assumption | (simp [*]; done)) (by first | assumption | omega) w (hS.ext _ _ hg1)) (fun _ _ _ h => h))) ?_
    clear hF hS; rintro _ _ _ a w ⟨rfl, rfl, rfl⟩ hF hS
    refine ⟨⟨iQ, iQ, iQ, trivial⟩, ?_⟩
    refine gQ 9 rfl rfl hF hS rfl (ef_storeW ty89 0 rfl rfl rfl rfl bQ oQ bQ) ?_
    clear hF hS; rintro _ _ _ a w ⟨rfl, rfl, rfl⟩ hF hS
    refine ⟨⟨iQ, iQ, iQ, trivial⟩, ?_⟩
    exact goW_done kQ (j1_mk b_6_8 (trivial) (hF.sub (L' := [(8, _)]) ⟨rfl, trivial⟩) hS)
  rintro a w ⟨b_6_8, -, hF, hS⟩
  (try dsimp only at hF); (try dsimp only at hS)
  refine hK11 _ _ ?_
  clear hK11
  refine wp_seq_k ?_; intro K12 hK12
  refine reg hF hS (sq rfl (q_sla ty89 ty5 rfl) <|
    sq rfl (q_b2s_blkM ty52 ty9 ty5 0 rfl rfl bQ) <|
    sq rfl (q_assign rfl) <|
    sq_end) ?_
  clear hF hS; intro a w hF hS
  refine hK12 _ _ ?_
  clear hK12
  refine wp_ret ?_
  exact fn_ret (rs := [.tmp 4]) rfl hF hS (vs := [_]) ⟨rfl, trivial⟩ zQ zQ (by unfold Sha.mac; rw [hko])
end Go.Proofs.YtlopocmpcmkdkaaDoor
