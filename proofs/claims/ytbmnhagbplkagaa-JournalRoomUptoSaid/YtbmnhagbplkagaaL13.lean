import Derived.Test.YtbmnhagbplkagaaD12
/- The law JournalRoom answers true at every journal and record whose sectors can be counted. -/
namespace Go.Proofs.Ytbmnhagbplkagaa
namespace B
open Go.RowKit
set_option maxHeartbeats 4000000
set_option maxRecDepth 100000
attribute [local irreducible] awc awT thn blk DQ retQ rawQ ownQ retOk ResIs

theorem c15 (rs : List (List UInt8)) (many synced : Int) (b : List UInt8) (hr : (rs.length + 1) * 24 ≤ 140737488355328) (hu : usedN rs ≤ 1073741824) (_ : b.length ≤ 1073741824) : ACalls 15 [aJ rs many synced, aB b] (o1 (vB true)) := by
  have h46 := c46 rs many synced
  cases hj : jBad rs many synced with
  | true =>
    have h1 : jChk rs many synced = 1 := by unfold jChk; rw [hj]; rfl
    rw [h1] at h46
    refine acalls (n := 109) (rs := [.tmp 4]) (Ts := [4]) Try.func15 rfl rfl rfl rfl rfl rfl ?_
    repeat' (first
        | exact True.intro
        | exact rfl
        | refine And.intro rfl ?_
        | refine awc_seq ?_
        | refine awc_region ?_
        | refine awc_draw ?_
        | refine awt_a rfl rfl rfl ?_ ?_
        | refine awt_call0 rfl (c34) rfl rfl rfl rfl rfl ?_
        | refine awt_call1 rfl (c34) rfl rfl rfl rfl rfl ?_
        | refine awt_call2 rfl (c34) rfl rfl rfl rfl rfl ?_
        | refine awt_call0 rfl (c35 _ _ _ _ _) rfl rfl rfl rfl rfl ?_
        | refine awt_call1 rfl (c35 _ _ _ _ _) rfl rfl rfl rfl rfl ?_
        | refine awt_call2 rfl (c35 _ _ _ _ _) rfl rfl rfl rfl rfl ?_
        | refine awt_call0 rfl (h46) rfl rfl rfl rfl rfl ?_
        | refine awt_call1 rfl (h46) rfl rfl rfl rfl rfl ?_
        | refine awt_call2 rfl (h46) rfl rfl rfl rfl rfl ?_
        | refine awt_b rfl rfl rfl rfl ?_ ?_
        | refine awt_c rfl rfl rfl ?_ ?_
        | refine awt_gt rfl rfl ?_
        | refine awt_gf rfl rfl rfl ?_
        | refine awt_gu rfl rfl rfl ?_
        | (refine awt_h rfl rfl rfl ?_ ?_ <;> intro hb)
        | refine awt_nil ?_
        | refine dq (by kernel_rfl) ?_
        | refine thn_n ?_
        | refine thn_r ?_
        | refine thn_e ?_
        | refine awc_condT rfl ?_
        | refine awc_condF rfl ?_
        | (refine awc_cond rfl ?_ ?_ <;> intro hb)
        | refine awc_block ?_
        | refine blk_n ?_
        | refine blk_r ?_
        | refine blk_e ?_
        | refine blk_o rfl ?_
        | refine awc_ret ?_
        | refine awc_skip ?_
        | refine awc_label ?_
        | refine awc_exit ?_
        | refine retq_r ?_
        | refine retq_n ?_
        | exact ResIs.tv rfl
        | exact ResIs.ts rfl
        | exact ResIs.tc rfl
        | exact ResIs.tn rfl rfl
        | exact ResIs.to rfl rfl
        | apply ResIs.tagg rfl
        | exact ResIs.cv rfl trivial
        | exact ResIs.cs rfl trivial
        | exact ResIs.cn rfl trivial rfl
        | exact ResIs.co rfl trivial rfl
        | apply ResIs.cagg rfl trivial
        | exact CoeL.nil
        | apply CoeL.v
        | apply CoeL.sl
        | apply CoeL.clp
        | apply CoeL.emp rfl
        | apply CoeL.own rfl
        | apply ret_one
        | apply ret_two
        | apply ret_three
        | exact rawq_r rfl
        | apply rawq_rc rfl
        | apply ownq_rv rfl rfl)
  | false =>
  have h1 : jChk rs many synced = 0 := by unfold jChk; rw [hj]; rfl
  rw [h1] at h46
  have hg := jGood hj
  have hui : usedI rs = (usedN rs : Int) := usedI_eq (by omega)
  rw [hui] at hg
  have hw1 : IntKind.i64.wrap (many - (usedN rs : Int)) = many - (usedN rs : Int) := i64w (by omega) (by omega)
  have hroom : jRoom rs many synced = 112 * (many - (usedN rs : Int)) := by
    unfold jRoom
    rw [hj, hui, hw1, cond_false, i64w (by omega) (by omega)]
  have h48 := c48 rs many synced
  rw [hroom] at h48
  have hle := le_secN b.length
  have hsp := secN_pos b.length
  by_cases hf : (secN b.length : Int) > many - (usedN rs : Int)
  · have h37 := c37 rs many synced b hr
    have e1 : jApp ⟨rs, many, synced⟩ b = (⟨[], 0, 0⟩, 2) := by
      unfold jApp
      rw [if_neg (by rw [hj]; exact Bool.false_ne_true), if_pos (by rw [hui, hw1]; exact hf)]
    rw [e1] at h37
    have hno : 112 * (many - (usedN rs : Int)) > 0 → ¬ (b.length : Int) ≤ 112 * (many - (usedN rs : Int)) := fun h q => by
      unfold secN at hf; omega
    refine acalls (n := 109) (rs := [.tmp 4]) (Ts := [4]) Try.func15 rfl rfl rfl rfl rfl rfl ?_
    repeat' (first
        | exact True.intro
        | exact rfl
        | refine And.intro rfl ?_
        | refine awc_seq ?_
        | refine awc_region ?_
        | refine awc_draw ?_
        | refine awt_a rfl rfl rfl ?_ ?_
        | refine awt_call0 rfl (c34) rfl rfl rfl rfl rfl ?_
        | refine awt_call1 rfl (c34) rfl rfl rfl rfl rfl ?_
        | refine awt_call2 rfl (c34) rfl rfl rfl rfl rfl ?_
        | refine awt_call0 rfl (c35 _ _ _ _ _) rfl rfl rfl rfl rfl ?_
        | refine awt_call1 rfl (c35 _ _ _ _ _) rfl rfl rfl rfl rfl ?_
        | refine awt_call2 rfl (c35 _ _ _ _ _) rfl rfl rfl rfl rfl ?_
        | refine awt_call0 rfl (h46) rfl rfl rfl rfl rfl ?_
        | refine awt_call1 rfl (h46) rfl rfl rfl rfl rfl ?_
        | refine awt_call2 rfl (h46) rfl rfl rfl rfl rfl ?_
        | refine awt_call0 rfl (h37) rfl rfl rfl rfl rfl ?_
        | refine awt_call1 rfl (h37) rfl rfl rfl rfl rfl ?_
        | refine awt_call2 rfl (h37) rfl rfl rfl rfl rfl ?_
        | refine awt_call0 rfl (h48) rfl rfl rfl rfl rfl ?_
        | refine awt_call1 rfl (h48) rfl rfl rfl rfl rfl ?_
        | refine awt_call2 rfl (h48) rfl rfl rfl rfl rfl ?_
        | refine awt_b rfl rfl rfl rfl ?_ ?_
        | refine awt_c rfl rfl rfl ?_ ?_
        | refine awt_gt rfl rfl ?_
        | refine awt_gf rfl rfl rfl ?_
        | refine awt_gu rfl rfl rfl ?_
        | (refine awt_h rfl rfl rfl ?_ ?_ <;> intro hb)
        | refine awt_nil ?_
        | refine dq (by kernel_rfl) ?_
        | refine thn_n ?_
        | refine thn_r ?_
        | refine thn_e ?_
        | refine awc_condT rfl ?_
        | refine awc_condF rfl ?_
        | (refine awc_cond rfl ?_ ?_ <;> intro hb)
        | refine awc_block ?_
        | refine blk_n ?_
        | refine blk_r ?_
        | refine blk_e ?_
        | refine blk_o rfl ?_
        | refine awc_ret ?_
        | refine awc_skip ?_
        | refine awc_label ?_
        | refine awc_exit ?_
        | refine retq_r ?_
        | refine retq_n ?_
        | exact ResIs.tv rfl
        | exact ResIs.ts rfl
        | exact ResIs.tc rfl
        | exact ResIs.tn rfl rfl
        | exact ResIs.to rfl rfl
        | apply ResIs.tagg rfl
        | exact ResIs.cv rfl trivial
        | exact ResIs.cs rfl trivial
        | exact ResIs.cn rfl trivial rfl
        | exact ResIs.co rfl trivial rfl
        | apply ResIs.cagg rfl trivial
        | exact CoeL.nil
        | apply CoeL.v
        | apply CoeL.sl
        | apply CoeL.clp
        | apply CoeL.emp rfl
        | apply CoeL.own rfl
        | apply ret_one
        | apply ret_two
        | apply ret_three
        | exact rawq_r rfl
        | apply rawq_rc rfl
        | apply ownq_rv rfl rfl)
    all_goals (exfalso; rename_i q1 q2; have h3 := of_decide_eq_true q2; have h4 := decide_eq_false (hno h3); rw [h4] at hb; exact absurd hb (by decide))
  · have h37 := c37 rs many synced b hr
    have e1 : jApp ⟨rs, many, synced⟩ b = (⟨rs ++ [b], many, synced⟩, 0) := by
      unfold jApp
      rw [if_neg (by rw [hj]; exact Bool.false_ne_true), if_neg (by rw [hui, hw1]; exact hf)]
    rw [e1] at h37
    have hu2 : usedN (rs ++ [b]) = usedN rs + secN b.length := by rw [usedN_app]; rfl
    have hui2 : usedI (rs ++ [b]) = (usedN rs : Int) + secN b.length := by rw [usedI_eq (by omega), hu2]; omega
    have hj2 : jBad (rs ++ [b]) many synced = false := by
      unfold jBad
      rw [hui2, List.length_append]
      simp only [Bool.or_eq_false_iff, decide_eq_false_iff_not, List.length_singleton]
      omega
    have h46b := c46 (rs ++ [b]) many synced
    have h2 : jChk (rs ++ [b]) many synced = 0 := by unfold jChk; rw [hj2]; rfl
    rw [h2] at h46b
    have h48b := c48 (rs ++ [b]) many synced
    have hroom2 : jRoom (rs ++ [b]) many synced = 112 * (many - ((usedN rs : Int) + secN b.length)) := by
      unfold jRoom
      rw [hj2, hui2, cond_false, i64w (n := many - _) (by omega) (by omega), i64w (by omega) (by omega)]
    rw [hroom2] at h48b
    have h41 := c41 ((rs ++ [b]).take (Int.toNat (rs.length : Int))) rs
    have htk : (rs ++ [b]).take (Int.toNat (rs.length : Int)) = rs := by rw [Int.toNat_natCast, List.take_left']; rfl
    rw [decide_eq_true htk] at h41
    have hgt : (rs ++ [b]).getD (Int.toNat (rs.length : Int)) tB.dflt = b := by
      rw [Int.toNat_natCast, List.getD_eq_getElem?_getD, List.getElem?_append_right (Nat.le_refl _), Nat.sub_self]; rfl
    have hlen : ((rs ++ [b]).length : Int) = (rs.length : Int) + 1 := by rw [List.length_append]; rfl
    have hlw : IntKind.i64.wrap ((rs.length : Int) + 1) = (rs.length : Int) + 1 := i64w (by omega) (by omega)
    have f1 : decide (112 * (many - (usedN rs : Int)) > 0) = true := decide_eq_true (by omega)
    have f2 : decide ((b.length : Int) ≤ 112 * (many - (usedN rs : Int))) = true := decide_eq_true (by omega)
    have f3 : (many == many) = true := beq_self_eq_true many
    have f4 : (synced == synced) = true := beq_self_eq_true synced
    have f5 : (((rs ++ [b]).length : Int) == IntKind.i64.wrap ((rs.length : Int) + 1)) = true := by rw [hlen, hlw]; exact beq_self_eq_true _
    have f6 : ((rs ++ [b]).getD (Int.toNat (rs.length : Int)) tB.dflt == b) = true := by rw [hgt]; exact beq_self_eq_true _
    have f7 : decide (112 * (many - ((usedN rs : Int) + secN b.length)) < 112 * (many - (usedN rs : Int))) = true := decide_eq_true (by omega)
    refine acalls (n := 109) (rs := [.tmp 4]) (Ts := [4]) Try.func15 rfl rfl rfl rfl rfl rfl ?_
    repeat' (first
        | (exact absurd hb (by rw [f1]; decide))
        | (exact absurd hb (by rw [f2]; decide))
        | (exact absurd hb (by rw [f3]; decide))
        | (exact absurd hb (by rw [f4]; decide))
        | (exact absurd hb (by rw [f5]; decide))
        | (exact absurd hb (by rw [f6]; decide))
        | (exact absurd hb (by rw [f7]; decide))
        | exact True.intro
        | exact rfl
        | refine And.intro rfl ?_
        | refine awc_seq ?_
        | refine awc_region ?_
        | refine awc_draw ?_
        | refine awt_a rfl rfl rfl ?_ ?_
        | refine awt_call0 rfl (c34) rfl rfl rfl rfl rfl ?_
        | refine awt_call1 rfl (c34) rfl rfl rfl rfl rfl ?_
        | refine awt_call2 rfl (c34) rfl rfl rfl rfl rfl ?_
        | refine awt_call0 rfl (c35 _ _ _ _ _) rfl rfl rfl rfl rfl ?_
        | refine awt_call1 rfl (c35 _ _ _ _ _) rfl rfl rfl rfl rfl ?_
        | refine awt_call2 rfl (c35 _ _ _ _ _) rfl rfl rfl rfl rfl ?_
        | refine awt_call0 rfl (h46) rfl rfl rfl rfl rfl ?_
        | refine awt_call1 rfl (h46) rfl rfl rfl rfl rfl ?_
        | refine awt_call2 rfl (h46) rfl rfl rfl rfl rfl ?_
        | refine awt_call0 rfl (h37) rfl rfl rfl rfl rfl ?_
        | refine awt_call1 rfl (h37) rfl rfl rfl rfl rfl ?_
        | refine awt_call2 rfl (h37) rfl rfl rfl rfl rfl ?_
        | refine awt_call0 rfl (h48) rfl rfl rfl rfl rfl ?_
        | refine awt_call1 rfl (h48) rfl rfl rfl rfl rfl ?_
        | refine awt_call2 rfl (h48) rfl rfl rfl rfl rfl ?_
        | refine awt_call0 rfl (h46b) rfl rfl rfl rfl rfl ?_
        | refine awt_call1 rfl (h46b) rfl rfl rfl rfl rfl ?_
        | refine awt_call2 rfl (h46b) rfl rfl rfl rfl rfl ?_
        | refine awt_call0 rfl (h48b) rfl rfl rfl rfl rfl ?_
        | refine awt_call1 rfl (h48b) rfl rfl rfl rfl rfl ?_
        | refine awt_call2 rfl (h48b) rfl rfl rfl rfl rfl ?_
        | refine awt_call0 rfl (h41) rfl rfl rfl rfl rfl ?_
        | refine awt_call1 rfl (h41) rfl rfl rfl rfl rfl ?_
        | refine awt_call2 rfl (h41) rfl rfl rfl rfl rfl ?_
        | refine awt_b rfl rfl rfl rfl ?_ ?_
        | refine awt_c rfl rfl rfl ?_ ?_
        | refine awt_gt rfl rfl ?_
        | refine awt_gf rfl rfl rfl ?_
        | refine awt_gu rfl rfl rfl ?_
        | (refine awt_h rfl rfl rfl ?_ ?_ <;> intro hb)
        | refine awt_nil ?_
        | refine dq (by kernel_rfl) ?_
        | refine thn_n ?_
        | refine thn_r ?_
        | refine thn_e ?_
        | refine awc_condT rfl ?_
        | refine awc_condF rfl ?_
        | (refine awc_cond rfl ?_ ?_ <;> intro hb)
        | refine awc_block ?_
        | refine blk_n ?_
        | refine blk_r ?_
        | refine blk_e ?_
        | refine blk_o rfl ?_
        | refine awc_ret ?_
        | refine awc_skip ?_
        | refine awc_label ?_
        | refine awc_exit ?_
        | refine retq_r ?_
        | refine retq_n ?_
        | exact ResIs.tv rfl
        | exact ResIs.ts rfl
        | exact ResIs.tc rfl
        | exact ResIs.tn rfl rfl
        | exact ResIs.to rfl rfl
        | apply ResIs.tagg rfl
        | exact ResIs.cv rfl trivial
        | exact ResIs.cs rfl trivial
        | exact ResIs.cn rfl trivial rfl
        | exact ResIs.co rfl trivial rfl
        | apply ResIs.cagg rfl trivial
        | exact CoeL.nil
        | apply CoeL.v
        | apply CoeL.sl
        | apply CoeL.clp
        | apply CoeL.emp rfl
        | apply CoeL.own rfl
        | apply ret_one
        | apply ret_two
        | apply ret_three
        | exact rawq_r rfl
        | apply rawq_rc rfl
        | apply ownq_rv rfl rfl)
    · exfalso
      have hb' : (!(((0 : Int) == 0) == decide ((b.length : Int) ≤ 112 * (many - (usedN rs : Int))))) = true := hb
      rw [f2] at hb'
      exact absurd hb' (by decide)
    · show 0 ≤ (rs.length : Int) ∧ (rs.length : Int) ≤ ((rs ++ [b]).length : Int)
      rw [hlen]; omega
    · show 0 ≤ (rs.length : Int) ∧ (rs.length : Int) < ((rs ++ [b]).length : Int)
      rw [hlen]; omega
    · exact eqVB f7
end B
end Go.Proofs.Ytbmnhagbplkagaa
