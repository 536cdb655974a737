import Derived.Test.YtbmnhagbplkagaaD12
import Derived.Test.YtbmnhagbplkagaaD10e
/- The law JournalOpenSpec answers true at every disk. -/
namespace Go.Proofs.Ytbmnhagbplkagaa
namespace B
open Go.RowKit
set_option maxHeartbeats 4000000
set_option maxRecDepth 100000
attribute [local irreducible] awc awT thn blk DQ retQ rawQ ownQ retOk ResIs

theorem sameJ_refl (j : Jr) : sameJ j j = true := by simp [sameJ]
theorem c12 (ss : List (List UInt8)) (ps : List (Int × List UInt8)) (left : Int) (st : Bool) : ACalls 12 [aD ss ps left st] (o1 (vB true)) := by
  refine acalls (n := 30) (rs := [.tmp 2]) (Ts := [4]) Try.func12 rfl rfl rfl rfl rfl rfl ?_
  repeat' (first
      | exact True.intro
      | exact rfl
      | refine And.intro rfl ?_
      | refine awc_seq ?_
      | refine awc_region ?_
      | refine awc_draw ?_
      | refine awt_a rfl rfl rfl ?_ ?_
      | refine awt_call0 rfl (c34) rfl rfl rfl rfl rfl ?_
      | refine awt_call1 rfl (c34) rfl rfl rfl rfl rfl ?_
      | refine awt_call2 rfl (c34) rfl rfl rfl rfl rfl ?_
      | refine awt_call0 rfl (c35 _ _ _ _ _) rfl rfl rfl rfl rfl ?_
      | refine awt_call1 rfl (c35 _ _ _ _ _) rfl rfl rfl rfl rfl ?_
      | refine awt_call2 rfl (c35 _ _ _ _ _) rfl rfl rfl rfl rfl ?_
      | refine awt_call0 rfl (c38 _ _ _ _) rfl rfl rfl rfl rfl ?_
      | refine awt_call1 rfl (c38 _ _ _ _) rfl rfl rfl rfl rfl ?_
      | refine awt_call2 rfl (c38 _ _ _ _) rfl rfl rfl rfl rfl ?_
      | refine awt_call0 rfl (c44 _ _ _ _) rfl rfl rfl rfl rfl ?_
      | refine awt_call1 rfl (c44 _ _ _ _) rfl rfl rfl rfl rfl ?_
      | refine awt_call2 rfl (c44 _ _ _ _) rfl rfl rfl rfl rfl ?_
      | refine awt_call0 rfl (c40 _ _ _ _ _ _) rfl rfl rfl rfl rfl ?_
      | refine awt_call1 rfl (c40 _ _ _ _ _ _) rfl rfl rfl rfl rfl ?_
      | refine awt_call2 rfl (c40 _ _ _ _ _ _) rfl rfl rfl rfl rfl ?_
      | refine awt_b rfl rfl rfl rfl ?_ ?_
      | refine awt_c rfl rfl rfl ?_ ?_
      | refine awt_gt rfl rfl ?_
      | refine awt_gf rfl rfl rfl ?_
      | refine awt_gu rfl rfl rfl ?_
      | (refine awt_h rfl rfl rfl ?_ ?_ <;> intro hb)
      | refine awt_nil ?_
      | refine dq (by kernel_rfl) ?_
      | refine thn_n ?_
      | refine thn_r ?_
      | refine thn_e ?_
      | refine awc_condT rfl ?_
      | refine awc_condF rfl ?_
      | (refine awc_cond rfl ?_ ?_ <;> intro hb)
      | refine awc_block ?_
      | refine blk_n ?_
      | refine blk_r ?_
      | refine blk_e ?_
      | refine blk_o rfl ?_
      | refine awc_ret ?_
      | refine awc_skip ?_
      | refine awc_label ?_
      | refine awc_exit ?_
      | refine retq_r ?_
      | refine retq_n ?_
      | exact ResIs.tv rfl
      | exact ResIs.ts rfl
      | exact ResIs.tc rfl
      | exact ResIs.tn rfl rfl
      | exact ResIs.to rfl rfl
      | apply ResIs.tagg rfl
      | exact ResIs.cv rfl trivial
      | exact ResIs.cs rfl trivial
      | exact ResIs.cn rfl trivial rfl
      | exact ResIs.co rfl trivial rfl
      | apply ResIs.cagg rfl trivial
      | exact CoeL.nil
      | apply CoeL.v
      | apply CoeL.sl
      | apply CoeL.clp
      | apply CoeL.emp rfl
      | apply CoeL.own rfl
      | apply ret_one
      | apply ret_two
      | apply ret_three
      | exact rawq_r rfl
      | apply rawq_rc rfl
      | apply ownq_rv rfl rfl)
  all_goals first | (refine eqVB ?_; simp []; done) | (exfalso; simp [sameJ_refl] at *; done) | trace_state
end B
end Go.Proofs.Ytbmnhagbplkagaa
