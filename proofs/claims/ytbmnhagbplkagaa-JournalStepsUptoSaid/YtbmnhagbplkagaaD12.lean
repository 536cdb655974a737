import Derived.Test.YtbmnhagbplkagaaD11a
import Derived.Test.YtbmnhagbplkagaaD10a
/- Contracts of the laws about the journal: the chapter's examples. -/
namespace Go.Proofs.Ytbmnhagbplkagaa
namespace B
open Go.RowKit
set_option maxHeartbeats 4000000
set_option maxRecDepth 100000
attribute [local irreducible] awc awT thn blk DQ retQ rawQ ownQ retOk ResIs

def zS : List UInt8 := List.replicate 128 0
def eS : List UInt8 := enc 1 0 3 [97, 98]
theorem ex_new : dNew 1 = (⟨[zS], [], -1, false⟩, 0) := by kernel_rfl
theorem ex_open : jOpen ⟨[zS], [], -1, false⟩ = (⟨[], 1, 0⟩, 0) := by kernel_rfl
theorem ex_sync : jSync ⟨[[97, 98]], 1, 0⟩ ⟨[zS], [], -1, false⟩ = (⟨[[97, 98]], 1, 1⟩, ⟨[eS], [], -1, false⟩, 0) := by kernel_rfl
theorem ex_open2 : jOpen ⟨[eS], [], -1, false⟩ = (⟨[[97, 98]], 1, 1⟩, 0) := by kernel_rfl
theorem ex_sync2 : jSync ⟨[[97, 98]], 1, 0⟩ ⟨[eS], [], -1, false⟩ = (jz, .z, 50) := by kernel_rfl
theorem ex_app : jApp ⟨[], 1, 0⟩ (List.replicate 113 0) = (⟨[], 0, 0⟩, 2) := by kernel_rfl
theorem ex_app2 : jApp ⟨[], 1, 0⟩ [97, 98] = (⟨[[97, 98]], 1, 0⟩, 0) := by kernel_rfl
theorem ex_room : jRoom [] 1 0 = 112 := by kernel_rfl
theorem ex_chk : jChk [] 0 0 = 1 := by kernel_rfl
attribute [local irreducible] zS eS
theorem c34 : ACalls 34 [] (o1 (vB true)) := by
  refine acalls (n := 119) (rs := [.tmp 0]) (Ts := [4]) Try.func34 rfl rfl rfl rfl rfl rfl ?_
  have h19 := c19 1
  rw [ex_new] at h19
  have h38 := c38 [zS] [] (-1) false
  rw [ex_open] at h38
  have h37 := c37 [] 1 0 (List.replicate 113 0) (by decide)
  rw [ex_app] at h37
  have h37b := c37 [] 1 0 [97, 98] (by decide)
  rw [ex_app2] at h37b
  have h39 := c39 [[97, 98]] 1 0 [zS] [] (-1) false
  rw [ex_sync] at h39
  have h38b := c38 [eS] [] (-1) false
  rw [ex_open2] at h38b
  have h39b := c39 [[97, 98]] 1 0 [eS] [] (-1) false
  rw [ex_sync2] at h39b
  have h48 := c48 [] 1 0
  rw [ex_room] at h48
  have h46 := c46 [] 0 0
  rw [ex_chk] at h46
  repeat' (first
      | exact True.intro
      | exact rfl
      | refine And.intro rfl ?_
      | refine awc_seq ?_
      | refine awc_region ?_
      | refine awc_draw ?_
      | refine awt_a rfl rfl rfl ?_ ?_
      | refine awt_call0 rfl (h19) rfl rfl rfl rfl rfl ?_
      | refine awt_call1 rfl (h19) rfl rfl rfl rfl rfl ?_
      | refine awt_call2 rfl (h19) rfl rfl rfl rfl rfl ?_
      | refine awt_call0 rfl (h38) rfl rfl rfl rfl rfl ?_
      | refine awt_call1 rfl (h38) rfl rfl rfl rfl rfl ?_
      | refine awt_call2 rfl (h38) rfl rfl rfl rfl rfl ?_
      | refine awt_call0 rfl (h37) rfl rfl rfl rfl rfl ?_
      | refine awt_call1 rfl (h37) rfl rfl rfl rfl rfl ?_
      | refine awt_call2 rfl (h37) rfl rfl rfl rfl rfl ?_
      | refine awt_call0 rfl (h37b) rfl rfl rfl rfl rfl ?_
      | refine awt_call1 rfl (h37b) rfl rfl rfl rfl rfl ?_
      | refine awt_call2 rfl (h37b) rfl rfl rfl rfl rfl ?_
      | refine awt_call0 rfl (h39) rfl rfl rfl rfl rfl ?_
      | refine awt_call1 rfl (h39) rfl rfl rfl rfl rfl ?_
      | refine awt_call2 rfl (h39) rfl rfl rfl rfl rfl ?_
      | refine awt_call0 rfl (h38b) rfl rfl rfl rfl rfl ?_
      | refine awt_call1 rfl (h38b) rfl rfl rfl rfl rfl ?_
      | refine awt_call2 rfl (h38b) rfl rfl rfl rfl rfl ?_
      | refine awt_call0 rfl (h39b) rfl rfl rfl rfl rfl ?_
      | refine awt_call1 rfl (h39b) rfl rfl rfl rfl rfl ?_
      | refine awt_call2 rfl (h39b) rfl rfl rfl rfl rfl ?_
      | refine awt_call0 rfl (h48) rfl rfl rfl rfl rfl ?_
      | refine awt_call1 rfl (h48) rfl rfl rfl rfl rfl ?_
      | refine awt_call2 rfl (h48) rfl rfl rfl rfl rfl ?_
      | refine awt_call0 rfl (h46) rfl rfl rfl rfl rfl ?_
      | refine awt_call1 rfl (h46) rfl rfl rfl rfl rfl ?_
      | refine awt_call2 rfl (h46) rfl rfl rfl rfl rfl ?_
      | refine awt_b rfl rfl rfl rfl ?_ ?_
      | refine awt_c rfl rfl rfl ?_ ?_
      | refine awt_gt rfl rfl ?_
      | refine awt_gf rfl rfl rfl ?_
      | refine awt_gu rfl rfl rfl ?_
      | (refine awt_h rfl rfl rfl ?_ ?_ <;> intro hb)
      | refine awt_nil ?_
      | refine dq (by kernel_rfl) ?_
      | refine thn_n ?_
      | refine thn_r ?_
      | refine thn_e ?_
      | refine awc_condT rfl ?_
      | refine awc_condF rfl ?_
      | (refine awc_cond rfl ?_ ?_ <;> intro hb)
      | refine awc_block ?_
      | refine blk_n ?_
      | refine blk_r ?_
      | refine blk_e ?_
      | refine blk_o rfl ?_
      | refine awc_ret ?_
      | refine awc_skip ?_
      | refine awc_label ?_
      | refine awc_exit ?_
      | refine retq_r ?_
      | refine retq_n ?_
      | exact ResIs.tv rfl
      | exact ResIs.ts rfl
      | exact ResIs.tc rfl
      | exact ResIs.tn rfl rfl
      | exact ResIs.to rfl rfl
      | apply ResIs.tagg rfl
      | exact ResIs.cv rfl trivial
      | exact ResIs.cs rfl trivial
      | exact ResIs.cn rfl trivial rfl
      | exact ResIs.co rfl trivial rfl
      | apply ResIs.cagg rfl trivial
      | exact CoeL.nil
      | apply CoeL.v
      | apply CoeL.sl
      | apply CoeL.clp
      | apply CoeL.emp rfl
      | apply CoeL.own rfl
      | apply ret_one
      | apply ret_two
      | apply ret_three
      | exact rawq_r rfl
      | apply rawq_rc rfl
      | apply ownq_rv rfl rfl)
  all_goals first | (exact ⟨by decide, by decide⟩) | decide +kernel | trace_state
end B
end Go.Proofs.Ytbmnhagbplkagaa
