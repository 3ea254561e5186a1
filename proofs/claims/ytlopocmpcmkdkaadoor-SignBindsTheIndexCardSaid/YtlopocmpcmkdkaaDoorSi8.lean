/- The example of the documentation. -/
import Derived.Test.YtlopocmpcmkdkaaDoorSe9
import Derived.Test.YtlopocmpcmkdkaaDoorSiA
set_option linter.all false
namespace Go.Fw
namespace Si
attribute [local irreducible] Sha.ofD Sha.mac leafD nodeD start
theorem sd5_ok : okH sd5 1 := by decide
theorem san_oki : okI 1 1 := by decide
theorem san_pub : pub sd5 1 = pL := by
  unfold pub; rw [if_pos sd5_ok]; exact p_val
theorem san_pubE : pubE sd5 1 = 0 := by unfold pubE; rw [if_pos sd5_ok]
theorem san_sig : sigS sd5 1 1 [109] = sgA sd5 1 1 [109] := by unfold sigS; rw [if_pos sd5_ok, if_pos san_oki]
theorem san_sigE : sigE sd5 1 1 = 0 := by unfold sigE; rw [if_pos sd5_ok, if_pos san_oki]
theorem san_spent : sigE sd5 1 2 = 20 := by unfold sigE; rw [if_pos sd5_ok, if_neg (by decide)]
theorem san_short : pubE (List.drop (Int.toNat 1) sd5) 0 = 1 := by unfold pubE; rw [if_neg (by decide)]
theorem san_ver : ver pL 1 [109] (sigS sd5 1 1 [109]) = (1, 0) := by
  rw [san_sig]
  have := ver_sg (m := [109]) sd5_ok san_oki
  rw [show (1 : Int).toNat = 1 from rfl, p_val] at this
  exact this
theorem san_sgD : sgD sd5 1 1 [109] = dmL := by unfold sgD; rw [show (1 : Int).toNat = 1 from rfl, p_val, dm_digs]
theorem san_wrong : ver pL 1 [110] (sigS sd5 1 1 [109]) = (0, 19) := by
  have hr := okI_rng sd5_ok san_oki
  have h1 : Wi.getInt (sgA sd5 1 1 [109]) = (1, ((Wi.int 1).length : Int), 0) := by rw [sgA_eq, gi_app hr]
  have h2 : rst (sgA sd5 1 1 [109]) = sgR sd5 1 1 [109] := by rw [sgA_eq, rst_app hr]
  have hof : okF 1 (sgA sd5 1 1 [109]) := by
    unfold okF
    rw [h1, h2, sgR_len]
    exact ⟨san_oki, by decide⟩
  have h0 : vv 1 dnL (sgR sd5 1 1 [109]) 0 = leafD (cat (fun c => advT 1 c (dnL.getD c.toNat 0) 3 (ch sd5 1 dmL c)) 68) := by
    rw [vv]
    refine congrArg leafD (cat_congr 68 fun c h0 h1 => ?_)
    unfold vT sgR
    rw [vl_cat (ch_16 _ _ _) h0 (by omega), pd_eq (ch_16 _ _ _ _), san_sgD]
  have hl : vl (sgR sd5 1 1 [109]) (68 + ((0 : Nat) : Int)) = leaf sd5 0 := by
    rw [vl_nb sd5 1 1 [109] (l := 0) (by decide), show sib ((1 : Int) / 2 ^ 0) = 0 from by decide]; rfl
  have hroot : root pL 1 [110] (sgA sd5 1 1 [109]) = nodeD (leaf sd5 0) (leafD (cat (fun c => advT 1 c (dnL.getD c.toNat 0) 3 (ch sd5 1 dmL c)) 68)) := by
    unfold root
    rw [h1, h2, show digs (dig pL (1, ((Wi.int 1).length : Int), (0 : Int)).1 [110]) = dnL from dn_digs, show (1 : Int).toNat = 0 + 1 from rfl, vv, if_pos (by decide), hl, ← h0]
  rw [san_sig]
  unfold ver
  rw [if_pos (by decide), if_pos (show (Wi.getInt (sgA sd5 1 1 [109])).2.2 = 0 from by rw [h1]), if_pos hof, if_neg (by rw [hroot]; exact pw_ne)]
theorem san_digs : (digs (List.replicate 16 0)).getD 0 0 = 0 ∧ (digs (List.replicate 16 0)).getD 64 0 = 3 ∧ (digs (List.replicate 16 0)).getD 67 0 = 0 := by decide +kernel
theorem san_len : (sigS sd5 1 1 [109]).length < 2000 := by
  have h := Wi.int_len9 1
  rw [san_sig, sgA_eq, List.length_append, sgR_len, show (1 : Int).toNat = 1 from rfl]; omega
end Si
end Go.Fw
