import Derived.Test.YtbmnhagbplkagaaC5
import Derived.Test.YtbmnhagbplkagaaC6
import Derived.Test.YtbmnhagbplkagaaC7
/- Contracts of the laws' helpers over disks. -/
namespace Go.Proofs.Ytbmnhagbplkagaa
namespace B
open Go.RowKit
set_option maxHeartbeats 4000000
set_option maxRecDepth 100000
attribute [local irreducible] awc awT thn blk DQ retQ rawQ ownQ retOk ResIs

/-- The bytes of a sector both halves of which begin with a byte. -/
def dbl (c : UInt8) : List UInt8 := c :: List.replicate 63 0 ++ c :: List.replicate 63 0
abbrev aY (c : UInt8) : AV := o1 (.v (.int .u8 (c.toNat : Int)))
theorem c42 (c : UInt8) : ACalls 42 [aY c] (aB (dbl c)) := by
  refine acalls (n := 12) (rs := [.tmp 2]) (Ts := [35]) Try.func42 rfl rfl rfl rfl rfl rfl ?_
  have hc : (0 : Int) ≤ (c.toNat : Int) ∧ (c.toNat : Int) < 256 := ⟨by omega, by have := c.toNat_lt; omega⟩
  repeat' (first
      | exact True.intro
      | exact rfl
      | refine And.intro rfl ?_
      | refine awc_seq ?_
      | refine awc_region ?_
      | refine awc_draw ?_
      | refine awt_a rfl rfl rfl ?_ ?_
      | refine awt_b rfl rfl rfl rfl ?_ ?_
      | refine awt_c rfl rfl rfl ?_ ?_
      | refine awt_gt rfl rfl ?_
      | refine awt_gf rfl rfl rfl ?_
      | refine awt_gu rfl rfl rfl ?_
      | (refine awt_h rfl rfl rfl ?_ ?_ <;> intro hb)
      | refine awt_nil ?_
      | refine dq (by kernel_rfl) ?_
      | refine thn_n ?_
      | refine thn_r ?_
      | refine thn_e ?_
      | refine awc_condT rfl ?_
      | refine awc_condF rfl ?_
      | (refine awc_cond rfl ?_ ?_ <;> intro hb)
      | refine awc_block ?_
      | refine blk_n ?_
      | refine blk_r ?_
      | refine blk_e ?_
      | refine blk_o rfl ?_
      | refine awc_ret ?_
      | refine awc_skip ?_
      | refine awc_label ?_
      | refine awc_exit ?_
      | refine retq_r ?_
      | refine retq_n ?_
      | exact ResIs.tv rfl
      | exact ResIs.ts rfl
      | exact ResIs.tc rfl
      | exact ResIs.tn rfl rfl
      | exact ResIs.to rfl rfl
      | apply ResIs.tagg rfl
      | exact ResIs.cv rfl trivial
      | exact ResIs.cs rfl trivial
      | exact ResIs.cn rfl trivial rfl
      | exact ResIs.co rfl trivial rfl
      | apply ResIs.cagg rfl trivial
      | exact CoeL.nil
      | apply CoeL.v
      | apply CoeL.sl
      | apply CoeL.clp
      | apply CoeL.emp rfl
      | apply CoeL.own rfl
      | apply ret_one
      | apply ret_two
      | apply ret_three
      | exact rawq_r rfl
      | apply rawq_rc rfl
      | apply ownq_rv rfl rfl)
  · exact ⟨by decide, by decide⟩
  · exact ⟨by decide, by decide⟩
  · exact ⟨hc, rfl, rfl, by decide⟩
  · rw [List.length_set]; exact ⟨by decide, by decide⟩
  · rw [List.length_set]; exact ⟨hc, rfl, rfl, by decide⟩
  · refine eqSL ?_
    have e : UInt8.ofNat (Int.toNat (c.toNat : Int)) = c := by simp
    rw [e]
    rfl
theorem c17 : ACalls 17 [] (o1 (vB true)) := by
  refine acalls (n := 198) (rs := [.tmp 0]) (Ts := [4]) Try.func17 rfl rfl rfl rfl rfl rfl ?_
  have e0 : dNew 0 = (.z, 1) := rfl
  have hc0 := c19 0
  rw [e0] at hc0
  repeat' (first
      | exact True.intro
      | exact rfl
      | refine And.intro rfl ?_
      | refine awc_seq ?_
      | refine awc_region ?_
      | refine awc_draw ?_
      | refine awt_a rfl rfl rfl ?_ ?_
      | refine awt_call0 rfl (hc0) rfl rfl rfl rfl rfl ?_
      | refine awt_call1 rfl (hc0) rfl rfl rfl rfl rfl ?_
      | refine awt_call2 rfl (hc0) rfl rfl rfl rfl rfl ?_
      | refine awt_call0 rfl (c19 2) rfl rfl rfl rfl rfl ?_
      | refine awt_call1 rfl (c19 2) rfl rfl rfl rfl rfl ?_
      | refine awt_call2 rfl (c19 2) rfl rfl rfl rfl rfl ?_
      | refine awt_call0 rfl (c26 _ _ _ _ _ _) rfl rfl rfl rfl rfl ?_
      | refine awt_call1 rfl (c26 _ _ _ _ _ _) rfl rfl rfl rfl rfl ?_
      | refine awt_call2 rfl (c26 _ _ _ _ _ _) rfl rfl rfl rfl rfl ?_
      | refine awt_call0 rfl (c28 _ _ _ _ _) rfl rfl rfl rfl rfl ?_
      | refine awt_call1 rfl (c28 _ _ _ _ _) rfl rfl rfl rfl rfl ?_
      | refine awt_call2 rfl (c28 _ _ _ _ _) rfl rfl rfl rfl rfl ?_
      | refine awt_call0 rfl (c32 _ _ _ _ _) rfl rfl rfl rfl rfl ?_
      | refine awt_call1 rfl (c32 _ _ _ _ _) rfl rfl rfl rfl rfl ?_
      | refine awt_call2 rfl (c32 _ _ _ _ _) rfl rfl rfl rfl rfl ?_
      | refine awt_call0 rfl (c42 8) rfl rfl rfl rfl rfl ?_
      | refine awt_call1 rfl (c42 8) rfl rfl rfl rfl rfl ?_
      | refine awt_call2 rfl (c42 8) rfl rfl rfl rfl rfl ?_
      | refine awt_call0 rfl (c30 _ _ _ _) rfl rfl rfl rfl rfl ?_
      | refine awt_call1 rfl (c30 _ _ _ _) rfl rfl rfl rfl rfl ?_
      | refine awt_call2 rfl (c30 _ _ _ _) rfl rfl rfl rfl rfl ?_
      | refine awt_call0 rfl (c24 _ _ _ _) rfl rfl rfl rfl rfl ?_
      | refine awt_call1 rfl (c24 _ _ _ _) rfl rfl rfl rfl rfl ?_
      | refine awt_call2 rfl (c24 _ _ _ _) rfl rfl rfl rfl rfl ?_
      | refine awt_call0 rfl (c22 _ _ _ _) rfl rfl rfl rfl rfl ?_
      | refine awt_call1 rfl (c22 _ _ _ _) rfl rfl rfl rfl rfl ?_
      | refine awt_call2 rfl (c22 _ _ _ _) rfl rfl rfl rfl rfl ?_
      | refine awt_b rfl rfl rfl rfl ?_ ?_
      | refine awt_c rfl rfl rfl ?_ ?_
      | refine awt_gt rfl rfl ?_
      | refine awt_gf rfl rfl rfl ?_
      | refine awt_gu rfl rfl rfl ?_
      | (refine awt_h rfl rfl rfl ?_ ?_ <;> intro hb)
      | refine awt_nil ?_
      | refine dq (by kernel_rfl) ?_
      | refine thn_n ?_
      | refine thn_r ?_
      | refine thn_e ?_
      | refine awc_condT rfl ?_
      | refine awc_condF rfl ?_
      | (refine awc_cond rfl ?_ ?_ <;> intro hb)
      | refine awc_block ?_
      | refine blk_n ?_
      | refine blk_r ?_
      | refine blk_e ?_
      | refine blk_o rfl ?_
      | refine awc_ret ?_
      | refine awc_skip ?_
      | refine awc_label ?_
      | refine awc_exit ?_
      | refine retq_r ?_
      | refine retq_n ?_
      | exact ResIs.tv rfl
      | exact ResIs.ts rfl
      | exact ResIs.tc rfl
      | exact ResIs.tn rfl rfl
      | exact ResIs.to rfl rfl
      | apply ResIs.tagg rfl
      | exact ResIs.cv rfl trivial
      | exact ResIs.cs rfl trivial
      | exact ResIs.cn rfl trivial rfl
      | exact ResIs.co rfl trivial rfl
      | apply ResIs.cagg rfl trivial
      | exact CoeL.nil
      | apply CoeL.v
      | apply CoeL.sl
      | apply CoeL.clp
      | apply CoeL.emp rfl
      | apply CoeL.own rfl
      | apply ret_one
      | apply ret_two
      | apply ret_three
      | exact rawq_r rfl
      | apply rawq_rc rfl
      | apply ownq_rv rfl rfl)
  all_goals first | (exact ⟨by decide, by decide⟩) | decide +kernel

end B
end Go.Proofs.Ytbmnhagbplkagaa
