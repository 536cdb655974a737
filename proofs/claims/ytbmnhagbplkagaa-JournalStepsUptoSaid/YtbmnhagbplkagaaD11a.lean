import Derived.Test.YtbmnhagbplkagaaD11m
/- Contracts of the journal: a sync. -/
namespace Go.Proofs.Ytbmnhagbplkagaa
namespace B
open Go.RowKit
set_option maxHeartbeats 4000000
set_option maxRecDepth 100000
attribute [local irreducible] awc awT thn blk DQ retQ rawQ ownQ retOk ResIs

theorem c39 (rs : List (List UInt8)) (many synced : Int) (ss : List (List UInt8)) (ps : List (Int × List UInt8)) (left : Int) (st : Bool) : ACalls 39 [aJ rs many synced, aD ss ps left st] (aRS (jSync ⟨rs, many, synced⟩ ⟨ss, ps, left, st⟩)) := by
  have hc46 := c46 rs many synced
  have hc22 := c22 ss ps left st
  cases hj : jBad rs many synced with
  | true =>
    have h1 : jChk rs many synced = 1 := by unfold jChk; rw [hj]; rfl
    rw [h1] at hc46
    refine acalls (n := 167) (rs := [.cell 4 45, .cell 5 25, .tmp 6]) (Ts := [45, 25, 28]) Try.func39 rfl rfl rfl rfl rfl rfl ?_
    repeat' (first
        | exact True.intro
        | exact rfl
        | refine And.intro rfl ?_
        | refine awc_seq ?_
        | refine awc_region ?_
        | refine awc_draw ?_
        | refine awt_a rfl rfl rfl ?_ ?_
        | refine awt_call0 rfl (hc46) rfl rfl rfl rfl rfl ?_
        | refine awt_call1 rfl (hc46) rfl rfl rfl rfl rfl ?_
        | refine awt_call2 rfl (hc46) rfl rfl rfl rfl rfl ?_
        | refine awt_b rfl rfl rfl rfl ?_ ?_
        | refine awt_c rfl rfl rfl ?_ ?_
        | refine awt_gt rfl rfl ?_
        | refine awt_gf rfl rfl rfl ?_
        | refine awt_gu rfl rfl rfl ?_
        | (refine awt_h rfl rfl rfl ?_ ?_ <;> intro hb)
        | refine awt_nil ?_
        | refine dq (by kernel_rfl) ?_
        | refine thn_n ?_
        | refine thn_r ?_
        | refine thn_e ?_
        | refine awc_condT rfl ?_
        | refine awc_condF rfl ?_
        | (refine awc_cond rfl ?_ ?_ <;> intro hb)
        | refine awc_block ?_
        | refine blk_n ?_
        | refine blk_r ?_
        | refine blk_e ?_
        | refine blk_o rfl ?_
        | refine awc_ret ?_
        | refine awc_skip ?_
        | refine awc_label ?_
        | refine awc_exit ?_
        | refine retq_r ?_
        | refine retq_n ?_
        | exact ResIs.tv rfl
        | exact ResIs.ts rfl
        | exact ResIs.tc rfl
        | exact ResIs.tn rfl rfl
        | exact ResIs.to rfl rfl
        | apply ResIs.tagg rfl
        | exact ResIs.cv rfl trivial
        | exact ResIs.cs rfl trivial
        | exact ResIs.cn rfl trivial rfl
        | exact ResIs.co rfl trivial rfl
        | apply ResIs.cagg rfl trivial
        | exact CoeL.nil
        | apply CoeL.v
        | apply CoeL.sl
        | apply CoeL.clp
        | apply CoeL.emp rfl
        | apply CoeL.own rfl
        | apply ret_one
        | apply ret_two
        | apply ret_three
        | exact rawq_r rfl
        | apply rawq_rc rfl
        | apply ownq_rv rfl rfl)
    refine eqRS ?_
    unfold jSync
    rw [if_pos hj]; rfl
  | false =>
  have hj' : ¬ (jBad rs many synced = true) := by rw [hj]; exact Bool.false_ne_true
  have h1 : jChk rs many synced = 0 := by unfold jChk; rw [hj]; rfl
  rw [h1] at hc46
  cases hd : dBad ss ps left with
  | true =>
    have h2 : dChk ss ps left = 40 := by unfold dChk; rw [hd]; rfl
    rw [h2] at hc22
    refine acalls (n := 167) (rs := [.cell 4 45, .cell 5 25, .tmp 6]) (Ts := [45, 25, 28]) Try.func39 rfl rfl rfl rfl rfl rfl ?_
    repeat' (first
        | exact True.intro
        | exact rfl
        | refine And.intro rfl ?_
        | refine awc_seq ?_
        | refine awc_region ?_
        | refine awc_draw ?_
        | refine awt_a rfl rfl rfl ?_ ?_
        | refine awt_call0 rfl (hc46) rfl rfl rfl rfl rfl ?_
        | refine awt_call1 rfl (hc46) rfl rfl rfl rfl rfl ?_
        | refine awt_call2 rfl (hc46) rfl rfl rfl rfl rfl ?_
        | refine awt_call0 rfl (hc22) rfl rfl rfl rfl rfl ?_
        | refine awt_call1 rfl (hc22) rfl rfl rfl rfl rfl ?_
        | refine awt_call2 rfl (hc22) rfl rfl rfl rfl rfl ?_
        | refine awt_b rfl rfl rfl rfl ?_ ?_
        | refine awt_c rfl rfl rfl ?_ ?_
        | refine awt_gt rfl rfl ?_
        | refine awt_gf rfl rfl rfl ?_
        | refine awt_gu rfl rfl rfl ?_
        | (refine awt_h rfl rfl rfl ?_ ?_ <;> intro hb)
        | refine awt_nil ?_
        | refine dq (by kernel_rfl) ?_
        | refine thn_n ?_
        | refine thn_r ?_
        | refine thn_e ?_
        | refine awc_condT rfl ?_
        | refine awc_condF rfl ?_
        | (refine awc_cond rfl ?_ ?_ <;> intro hb)
        | refine awc_block ?_
        | refine blk_n ?_
        | refine blk_r ?_
        | refine blk_e ?_
        | refine blk_o rfl ?_
        | refine awc_ret ?_
        | refine awc_skip ?_
        | refine awc_label ?_
        | refine awc_exit ?_
        | refine retq_r ?_
        | refine retq_n ?_
        | exact ResIs.tv rfl
        | exact ResIs.ts rfl
        | exact ResIs.tc rfl
        | exact ResIs.tn rfl rfl
        | exact ResIs.to rfl rfl
        | apply ResIs.tagg rfl
        | exact ResIs.cv rfl trivial
        | exact ResIs.cs rfl trivial
        | exact ResIs.cn rfl trivial rfl
        | exact ResIs.co rfl trivial rfl
        | apply ResIs.cagg rfl trivial
        | exact CoeL.nil
        | apply CoeL.v
        | apply CoeL.sl
        | apply CoeL.clp
        | apply CoeL.emp rfl
        | apply CoeL.own rfl
        | apply ret_one
        | apply ret_two
        | apply ret_three
        | exact rawq_r rfl
        | apply rawq_rc rfl
        | apply ownq_rv rfl rfl)
    refine eqRS ?_
    unfold jSync
    rw [if_neg hj', if_pos hd]; rfl
  | false =>
  have hd' : ¬ (dBad ss ps left = true) := by rw [hd]; exact Bool.false_ne_true
  have h2 : dChk ss ps left = 0 := by unfold dChk; rw [hd]; rfl
  rw [h2] at hc22
  have hsz := dBad_iff.1 hd
  have hc38 := c38 ss ps left st
  cases st with
  | true =>
    have h3 : jOpen ⟨ss, ps, left, true⟩ = (jz, 40) := by unfold jOpen; rw [if_neg hd', if_pos rfl]
    rw [h3] at hc38
    have hr : jSync ⟨rs, many, synced⟩ ⟨ss, ps, left, true⟩ = (jz, .z, 40) := by
      unfold jSync
      rw [if_neg hj', if_neg hd', if_pos rfl]
    refine acalls (n := 167) (rs := [.cell 4 45, .cell 5 25, .tmp 6]) (Ts := [45, 25, 28]) Try.func39 rfl rfl rfl rfl rfl rfl ?_
    repeat' (first
        | exact True.intro
        | exact rfl
        | refine And.intro rfl ?_
        | refine awc_seq ?_
        | refine awc_region ?_
        | refine awc_draw ?_
        | refine awt_a rfl rfl rfl ?_ ?_
        | refine awt_call0 rfl (hc46) rfl rfl rfl rfl rfl ?_
        | refine awt_call1 rfl (hc46) rfl rfl rfl rfl rfl ?_
        | refine awt_call2 rfl (hc46) rfl rfl rfl rfl rfl ?_
        | refine awt_call0 rfl (hc22) rfl rfl rfl rfl rfl ?_
        | refine awt_call1 rfl (hc22) rfl rfl rfl rfl rfl ?_
        | refine awt_call2 rfl (hc22) rfl rfl rfl rfl rfl ?_
        | refine awt_call0 rfl (hc38) rfl rfl rfl rfl rfl ?_
        | refine awt_call1 rfl (hc38) rfl rfl rfl rfl rfl ?_
        | refine awt_call2 rfl (hc38) rfl rfl rfl rfl rfl ?_
        | refine awt_b rfl rfl rfl rfl ?_ ?_
        | refine awt_c rfl rfl rfl ?_ ?_
        | refine awt_gt rfl rfl ?_
        | refine awt_gf rfl rfl rfl ?_
        | refine awt_gu rfl rfl rfl ?_
        | (refine awt_h rfl rfl rfl ?_ ?_ <;> intro hb)
        | refine awt_nil ?_
        | refine dq (by kernel_rfl) ?_
        | refine thn_n ?_
        | refine thn_r ?_
        | refine thn_e ?_
        | refine awc_condT rfl ?_
        | refine awc_condF rfl ?_
        | (refine awc_cond rfl ?_ ?_ <;> intro hb)
        | refine awc_block ?_
        | refine blk_n ?_
        | refine blk_r ?_
        | refine blk_e ?_
        | refine blk_o rfl ?_
        | refine awc_ret ?_
        | refine awc_skip ?_
        | refine awc_label ?_
        | refine awc_exit ?_
        | refine retq_r ?_
        | refine retq_n ?_
        | exact ResIs.tv rfl
        | exact ResIs.ts rfl
        | exact ResIs.tc rfl
        | exact ResIs.tn rfl rfl
        | exact ResIs.to rfl rfl
        | apply ResIs.tagg rfl
        | exact ResIs.cv rfl trivial
        | exact ResIs.cs rfl trivial
        | exact ResIs.cn rfl trivial rfl
        | exact ResIs.co rfl trivial rfl
        | apply ResIs.cagg rfl trivial
        | exact CoeL.nil
        | apply CoeL.v
        | apply CoeL.sl
        | apply CoeL.clp
        | apply CoeL.emp rfl
        | apply CoeL.own rfl
        | apply ret_one
        | apply ret_two
        | apply ret_three
        | exact rawq_r rfl
        | apply rawq_rc rfl
        | apply ownq_rv rfl rfl)
    all_goals (refine eqRS ?_; rw [hr]; rfl)
  | false =>
  by_cases hm : ¬ (many = ss.length)
  · have hr : jSync ⟨rs, many, synced⟩ ⟨ss, ps, left, false⟩ = (jz, .z, 1) := by
      unfold jSync
      rw [if_neg hj', if_neg hd', if_neg (fun h => Bool.false_ne_true h), if_pos (.inl hm)]
    refine acalls (n := 167) (rs := [.cell 4 45, .cell 5 25, .tmp 6]) (Ts := [45, 25, 28]) Try.func39 rfl rfl rfl rfl rfl rfl ?_
    repeat' (first
        | exact True.intro
        | exact rfl
        | refine And.intro rfl ?_
        | refine awc_seq ?_
        | refine awc_region ?_
        | refine awc_draw ?_
        | refine awt_a rfl rfl rfl ?_ ?_
        | refine awt_call0 rfl (hc46) rfl rfl rfl rfl rfl ?_
        | refine awt_call1 rfl (hc46) rfl rfl rfl rfl rfl ?_
        | refine awt_call2 rfl (hc46) rfl rfl rfl rfl rfl ?_
        | refine awt_call0 rfl (hc22) rfl rfl rfl rfl rfl ?_
        | refine awt_call1 rfl (hc22) rfl rfl rfl rfl rfl ?_
        | refine awt_call2 rfl (hc22) rfl rfl rfl rfl rfl ?_
        | refine awt_b rfl rfl rfl rfl ?_ ?_
        | refine awt_c rfl rfl rfl ?_ ?_
        | refine awt_gt rfl rfl ?_
        | refine awt_gf rfl rfl rfl ?_
        | refine awt_gu rfl rfl rfl ?_
        | (refine awt_h rfl rfl rfl ?_ ?_ <;> intro hb)
        | refine awt_nil ?_
        | refine dq (by kernel_rfl) ?_
        | refine thn_n ?_
        | refine thn_r ?_
        | refine thn_e ?_
        | refine awc_condT rfl ?_
        | refine awc_condF rfl ?_
        | (refine awc_cond rfl ?_ ?_ <;> intro hb)
        | refine awc_block ?_
        | refine blk_n ?_
        | refine blk_r ?_
        | refine blk_e ?_
        | refine blk_o rfl ?_
        | refine awc_ret ?_
        | refine awc_skip ?_
        | refine awc_label ?_
        | refine awc_exit ?_
        | refine retq_r ?_
        | refine retq_n ?_
        | exact ResIs.tv rfl
        | exact ResIs.ts rfl
        | exact ResIs.tc rfl
        | exact ResIs.tn rfl rfl
        | exact ResIs.to rfl rfl
        | apply ResIs.tagg rfl
        | exact ResIs.cv rfl trivial
        | exact ResIs.cs rfl trivial
        | exact ResIs.cn rfl trivial rfl
        | exact ResIs.co rfl trivial rfl
        | apply ResIs.cagg rfl trivial
        | exact CoeL.nil
        | apply CoeL.v
        | apply CoeL.sl
        | apply CoeL.clp
        | apply CoeL.emp rfl
        | apply CoeL.own rfl
        | apply ret_one
        | apply ret_two
        | apply ret_three
        | exact rawq_r rfl
        | apply rawq_rc rfl
        | apply ownq_rv rfl rfl)
    all_goals (try (refine eqRS ?_; rw [hr]; rfl))
    all_goals (exfalso; have hb' : (many != (ss.length : Int)) = false := hb; rw [bne_eq_false_iff_eq] at hb'; exact hm hb')
  have hm := Decidable.of_not_not hm
  by_cases hp : ps.length > 0
  · have h3 : jOpen ⟨ss, ps, left, false⟩ = (jz, 1) := by unfold jOpen; rw [if_neg hd', if_neg (fun h => Bool.false_ne_true h), if_pos hp]
    rw [h3] at hc38
    have hr : jSync ⟨rs, many, synced⟩ ⟨ss, ps, left, false⟩ = (jz, .z, 1) := by
      unfold jSync
      rw [if_neg hj', if_neg hd', if_neg (fun h => Bool.false_ne_true h), if_pos (.inr hp)]
    refine acalls (n := 167) (rs := [.cell 4 45, .cell 5 25, .tmp 6]) (Ts := [45, 25, 28]) Try.func39 rfl rfl rfl rfl rfl rfl ?_
    repeat' (first
        | exact True.intro
        | exact rfl
        | refine And.intro rfl ?_
        | refine awc_seq ?_
        | refine awc_region ?_
        | refine awc_draw ?_
        | refine awt_a rfl rfl rfl ?_ ?_
        | refine awt_call0 rfl (hc46) rfl rfl rfl rfl rfl ?_
        | refine awt_call1 rfl (hc46) rfl rfl rfl rfl rfl ?_
        | refine awt_call2 rfl (hc46) rfl rfl rfl rfl rfl ?_
        | refine awt_call0 rfl (hc22) rfl rfl rfl rfl rfl ?_
        | refine awt_call1 rfl (hc22) rfl rfl rfl rfl rfl ?_
        | refine awt_call2 rfl (hc22) rfl rfl rfl rfl rfl ?_
        | refine awt_call0 rfl (hc38) rfl rfl rfl rfl rfl ?_
        | refine awt_call1 rfl (hc38) rfl rfl rfl rfl rfl ?_
        | refine awt_call2 rfl (hc38) rfl rfl rfl rfl rfl ?_
        | refine awt_b rfl rfl rfl rfl ?_ ?_
        | refine awt_c rfl rfl rfl ?_ ?_
        | refine awt_gt rfl rfl ?_
        | refine awt_gf rfl rfl rfl ?_
        | refine awt_gu rfl rfl rfl ?_
        | (refine awt_h rfl rfl rfl ?_ ?_ <;> intro hb)
        | refine awt_nil ?_
        | refine dq (by kernel_rfl) ?_
        | refine thn_n ?_
        | refine thn_r ?_
        | refine thn_e ?_
        | refine awc_condT rfl ?_
        | refine awc_condF rfl ?_
        | (refine awc_cond rfl ?_ ?_ <;> intro hb)
        | refine awc_block ?_
        | refine blk_n ?_
        | refine blk_r ?_
        | refine blk_e ?_
        | refine blk_o rfl ?_
        | refine awc_ret ?_
        | refine awc_skip ?_
        | refine awc_label ?_
        | refine awc_exit ?_
        | refine retq_r ?_
        | refine retq_n ?_
        | exact ResIs.tv rfl
        | exact ResIs.ts rfl
        | exact ResIs.tc rfl
        | exact ResIs.tn rfl rfl
        | exact ResIs.to rfl rfl
        | apply ResIs.tagg rfl
        | exact ResIs.cv rfl trivial
        | exact ResIs.cs rfl trivial
        | exact ResIs.cn rfl trivial rfl
        | exact ResIs.co rfl trivial rfl
        | apply ResIs.cagg rfl trivial
        | exact CoeL.nil
        | apply CoeL.v
        | apply CoeL.sl
        | apply CoeL.clp
        | apply CoeL.emp rfl
        | apply CoeL.own rfl
        | apply ret_one
        | apply ret_two
        | apply ret_three
        | exact rawq_r rfl
        | apply rawq_rc rfl
        | apply ownq_rv rfl rfl)
    all_goals (try (refine eqRS ?_; rw [hr]; rfl))
  exact c39m rs many synced ss ps left hj hd hm hp
end B
end Go.Proofs.Ytbmnhagbplkagaa
