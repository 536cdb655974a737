import Derived.Test.YtbmnhagbplkagaaC1
/- Contracts of the disk's small functions, second part: whether it runs, copies, a restart. -/
namespace Go.Proofs.Ytbmnhagbplkagaa
namespace B
open Go.RowKit
set_option maxHeartbeats 4000000
set_option maxRecDepth 100000
attribute [local irreducible] awc awT thn blk DQ retQ rawQ ownQ retOk ResIs

theorem c57 (ss : List (List UInt8)) (ps : List (Int × List UInt8)) (left : Int) (st : Bool) : ACalls 57 [aD ss ps left st] (o1 (vB (!(dBad ss ps left || st)))) := by
  refine acalls (n := 11) (rs := [.tmp 2]) (Ts := [4]) Try.func57 rfl rfl rfl rfl rfl rfl ?_
  repeat' (first
      | exact True.intro
      | exact rfl
      | refine And.intro rfl ?_
      | refine awc_seq ?_
      | refine awc_region ?_
      | refine awc_draw ?_
      | refine awt_a rfl rfl rfl ?_ ?_
      | refine awt_call0 rfl (c22 _ _ _ _) rfl rfl rfl rfl rfl ?_
      | refine awt_call1 rfl (c22 _ _ _ _) rfl rfl rfl rfl rfl ?_
      | refine awt_call2 rfl (c22 _ _ _ _) rfl rfl rfl rfl rfl ?_
      | refine awt_b rfl rfl rfl rfl ?_ ?_
      | refine awt_c rfl rfl rfl ?_ ?_
      | refine awt_gt rfl rfl ?_
      | refine awt_gf rfl rfl rfl ?_
      | refine awt_gu rfl rfl rfl ?_
      | (refine awt_h rfl rfl rfl ?_ ?_ <;> intro hb)
      | refine awt_nil ?_
      | refine dq (by kernel_rfl) ?_
      | refine thn_n ?_
      | refine thn_r ?_
      | refine thn_e ?_
      | refine awc_condT rfl ?_
      | refine awc_condF rfl ?_
      | (refine awc_cond rfl ?_ ?_ <;> intro hb)
      | refine awc_block ?_
      | refine blk_n ?_
      | refine blk_r ?_
      | refine blk_e ?_
      | refine blk_o rfl ?_
      | refine awc_ret ?_
      | refine awc_skip ?_
      | refine awc_label ?_
      | refine awc_exit ?_
      | refine retq_r ?_
      | refine retq_n ?_
      | exact ResIs.tv rfl
      | exact ResIs.ts rfl
      | exact ResIs.tc rfl
      | exact ResIs.tn rfl rfl
      | exact ResIs.to rfl rfl
      | apply ResIs.tagg rfl
      | exact ResIs.cv rfl trivial
      | exact ResIs.cs rfl trivial
      | exact ResIs.cn rfl trivial rfl
      | exact ResIs.co rfl trivial rfl
      | apply ResIs.cagg rfl trivial
      | exact CoeL.nil
      | apply CoeL.v
      | apply CoeL.sl
      | apply CoeL.clp
      | apply CoeL.emp rfl
      | apply CoeL.own rfl
      | apply ret_one
      | apply ret_two
      | apply ret_three
      | exact rawq_r rfl
      | apply rawq_rc rfl
      | apply ownq_rv rfl rfl)
  all_goals (refine eqVB ?_; revert hb; unfold dChk; cases dBad ss ps left <;> simp)
theorem c24 (ss : List (List UInt8)) (ps : List (Int × List UInt8)) (left : Int) (st : Bool) : ACalls 24 [aD ss ps left st] (aD ss [] (-1) false) := by
  refine acalls (n := 6) (rs := [.cell 2 25]) (Ts := [25]) Try.func24 rfl rfl rfl rfl rfl rfl ?_
  repeat' (first
      | exact True.intro
      | exact rfl
      | refine And.intro rfl ?_
      | refine awc_seq ?_
      | refine awc_region ?_
      | refine awc_draw ?_
      | refine awt_a rfl rfl rfl ?_ ?_
      | refine awt_b rfl rfl rfl rfl ?_ ?_
      | refine awt_c rfl rfl rfl ?_ ?_
      | refine awt_gt rfl rfl ?_
      | refine awt_gf rfl rfl rfl ?_
      | refine awt_gu rfl rfl rfl ?_
      | (refine awt_h rfl rfl rfl ?_ ?_ <;> intro hb)
      | refine awt_nil ?_
      | refine dq (by kernel_rfl) ?_
      | refine thn_n ?_
      | refine thn_r ?_
      | refine thn_e ?_
      | refine awc_condT rfl ?_
      | refine awc_condF rfl ?_
      | (refine awc_cond rfl ?_ ?_ <;> intro hb)
      | refine awc_block ?_
      | refine blk_n ?_
      | refine blk_r ?_
      | refine blk_e ?_
      | refine blk_o rfl ?_
      | refine awc_ret ?_
      | refine awc_skip ?_
      | refine awc_label ?_
      | refine awc_exit ?_
      | refine retq_r ?_
      | refine retq_n ?_
      | exact ResIs.tv rfl
      | exact ResIs.ts rfl
      | exact ResIs.tc rfl
      | exact ResIs.tn rfl rfl
      | exact ResIs.to rfl rfl
      | apply ResIs.tagg rfl
      | exact ResIs.cv rfl trivial
      | exact ResIs.cs rfl trivial
      | exact ResIs.cn rfl trivial rfl
      | exact ResIs.co rfl trivial rfl
      | apply ResIs.cagg rfl trivial
      | exact CoeL.nil
      | apply CoeL.v
      | apply CoeL.sl
      | apply CoeL.clp
      | apply CoeL.emp rfl
      | apply CoeL.own rfl
      | apply ret_one
      | apply ret_two
      | apply ret_three
      | exact rawq_r rfl
      | apply rawq_rc rfl
      | apply ownq_rv rfl rfl)
theorem c25 (ss : List (List UInt8)) (ps : List (Int × List UInt8)) (left : Int) (st : Bool) : ACalls 25 [aD ss ps left st] (aD ss [] (-1) false) := by
  refine acalls (n := 6) (rs := [.cell 2 25]) (Ts := [25]) Try.func25 rfl rfl rfl rfl rfl rfl ?_
  repeat' (first
      | exact True.intro
      | exact rfl
      | refine And.intro rfl ?_
      | refine awc_seq ?_
      | refine awc_region ?_
      | refine awc_draw ?_
      | refine awt_a rfl rfl rfl ?_ ?_
      | refine awt_b rfl rfl rfl rfl ?_ ?_
      | refine awt_c rfl rfl rfl ?_ ?_
      | refine awt_gt rfl rfl ?_
      | refine awt_gf rfl rfl rfl ?_
      | refine awt_gu rfl rfl rfl ?_
      | (refine awt_h rfl rfl rfl ?_ ?_ <;> intro hb)
      | refine awt_nil ?_
      | refine dq (by kernel_rfl) ?_
      | refine thn_n ?_
      | refine thn_r ?_
      | refine thn_e ?_
      | refine awc_condT rfl ?_
      | refine awc_condF rfl ?_
      | (refine awc_cond rfl ?_ ?_ <;> intro hb)
      | refine awc_block ?_
      | refine blk_n ?_
      | refine blk_r ?_
      | refine blk_e ?_
      | refine blk_o rfl ?_
      | refine awc_ret ?_
      | refine awc_skip ?_
      | refine awc_label ?_
      | refine awc_exit ?_
      | refine retq_r ?_
      | refine retq_n ?_
      | exact ResIs.tv rfl
      | exact ResIs.ts rfl
      | exact ResIs.tc rfl
      | exact ResIs.tn rfl rfl
      | exact ResIs.to rfl rfl
      | apply ResIs.tagg rfl
      | exact ResIs.cv rfl trivial
      | exact ResIs.cs rfl trivial
      | exact ResIs.cn rfl trivial rfl
      | exact ResIs.co rfl trivial rfl
      | apply ResIs.cagg rfl trivial
      | exact CoeL.nil
      | apply CoeL.v
      | apply CoeL.sl
      | apply CoeL.clp
      | apply CoeL.emp rfl
      | apply CoeL.own rfl
      | apply ret_one
      | apply ret_two
      | apply ret_three
      | exact rawq_r rfl
      | apply rawq_rc rfl
      | apply ownq_rv rfl rfl)
theorem c59 (ps : List (Int × List UInt8)) : ACalls 59 [aWW ps] (o1 (.clp tW ps)) := by
  refine acalls_raw (n := 9) (t := 2) Try.func59 rfl rfl rfl rfl rfl ?_
  repeat' (first
      | exact True.intro
      | exact rfl
      | refine And.intro rfl ?_
      | refine awc_seq ?_
      | refine awc_region ?_
      | refine awc_draw ?_
      | refine awt_a rfl rfl rfl ?_ ?_
      | refine awt_b rfl rfl rfl rfl ?_ ?_
      | refine awt_c rfl rfl rfl ?_ ?_
      | refine awt_gt rfl rfl ?_
      | refine awt_gf rfl rfl rfl ?_
      | refine awt_gu rfl rfl rfl ?_
      | (refine awt_h rfl rfl rfl ?_ ?_ <;> intro hb)
      | refine awt_nil ?_
      | refine dq (by kernel_rfl) ?_
      | refine thn_n ?_
      | refine thn_r ?_
      | refine thn_e ?_
      | refine awc_condT rfl ?_
      | refine awc_condF rfl ?_
      | (refine awc_cond rfl ?_ ?_ <;> intro hb)
      | refine awc_block ?_
      | refine blk_n ?_
      | refine blk_r ?_
      | refine blk_e ?_
      | refine blk_o rfl ?_
      | refine awc_ret ?_
      | refine awc_skip ?_
      | refine awc_label ?_
      | refine awc_exit ?_
      | refine retq_r ?_
      | refine retq_n ?_
      | exact ResIs.tv rfl
      | exact ResIs.ts rfl
      | exact ResIs.tc rfl
      | exact ResIs.tn rfl rfl
      | exact ResIs.to rfl rfl
      | apply ResIs.tagg rfl
      | exact ResIs.cv rfl trivial
      | exact ResIs.cs rfl trivial
      | exact ResIs.cn rfl trivial rfl
      | exact ResIs.co rfl trivial rfl
      | apply ResIs.cagg rfl trivial
      | exact CoeL.nil
      | apply CoeL.v
      | apply CoeL.sl
      | apply CoeL.clp
      | apply CoeL.emp rfl
      | apply CoeL.own rfl
      | apply ret_one
      | apply ret_two
      | apply ret_three
      | exact rawq_r rfl
      | apply rawq_rc rfl
      | apply ownq_rv rfl rfl)
  · simp [cutOk]
  · simp [cutL]
theorem c60 (ps : List (Int × List UInt8)) : ACalls 60 [aWW ps] (aWW ps) := by
  refine acalls (n := 8) (rs := [.tmp 2]) (Ts := [23]) Try.func60 rfl rfl rfl rfl rfl rfl ?_
  refine awc_bd 0 _ rfl ?_
  intro hbd
  refine awc_nil 0 tW ps rfl ?_ ?_
  · rintro rfl
    repeat' (first
        | exact True.intro
        | exact rfl
        | refine And.intro rfl ?_
        | refine awc_seq ?_
        | refine awc_region ?_
        | refine awc_draw ?_
        | refine awt_a rfl rfl rfl ?_ ?_
        | refine awt_b rfl rfl rfl rfl ?_ ?_
        | refine awt_c rfl rfl rfl ?_ ?_
        | refine awt_gt rfl rfl ?_
        | refine awt_gf rfl rfl rfl ?_
        | refine awt_gu rfl rfl rfl ?_
        | (refine awt_h rfl rfl rfl ?_ ?_ <;> intro hb)
        | refine awt_nil ?_
        | refine dq (by kernel_rfl) ?_
        | refine thn_n ?_
        | refine thn_r ?_
        | refine thn_e ?_
        | refine awc_condT rfl ?_
        | refine awc_condF rfl ?_
        | (refine awc_cond rfl ?_ ?_ <;> intro hb)
        | refine awc_block ?_
        | refine blk_n ?_
        | refine blk_r ?_
        | refine blk_e ?_
        | refine blk_o rfl ?_
        | refine awc_ret ?_
        | refine awc_skip ?_
        | refine awc_label ?_
        | refine awc_exit ?_
        | refine retq_r ?_
        | refine retq_n ?_
        | exact ResIs.tv rfl
        | exact ResIs.ts rfl
        | exact ResIs.tc rfl
        | exact ResIs.tn rfl rfl
        | exact ResIs.to rfl rfl
        | apply ResIs.tagg rfl
        | exact ResIs.cv rfl trivial
        | exact ResIs.cs rfl trivial
        | exact ResIs.cn rfl trivial rfl
        | exact ResIs.co rfl trivial rfl
        | apply ResIs.cagg rfl trivial
        | exact CoeL.nil
        | apply CoeL.v
        | apply CoeL.sl
        | apply CoeL.clp
        | apply CoeL.emp rfl
        | apply CoeL.own rfl
        | apply ret_one
        | apply ret_two
        | apply ret_three
        | exact rawq_r rfl
        | apply rawq_rc rfl
        | apply ownq_rv rfl rfl)
  repeat' (first
      | (refine awc_at (id := 3) (slL 0 tW ps rfl) ?_)
      | exact True.intro
      | exact rfl
      | refine And.intro rfl ?_
      | refine awc_seq ?_
      | refine awc_region ?_
      | refine awc_draw ?_
      | refine awt_a rfl rfl rfl ?_ ?_
      | refine awt_b rfl rfl rfl rfl ?_ ?_
      | refine awt_c rfl rfl rfl ?_ ?_
      | refine awt_gt rfl rfl ?_
      | refine awt_gf rfl rfl rfl ?_
      | refine awt_gu rfl rfl rfl ?_
      | (refine awt_h rfl rfl rfl ?_ ?_ <;> intro hb)
      | refine awt_nil ?_
      | refine dq (by kernel_rfl) ?_
      | refine thn_n ?_
      | refine thn_r ?_
      | refine thn_e ?_
      | refine awc_condT rfl ?_
      | refine awc_condF rfl ?_
      | (refine awc_cond rfl ?_ ?_ <;> intro hb)
      | refine awc_block ?_
      | refine blk_n ?_
      | refine blk_r ?_
      | refine blk_e ?_
      | refine blk_o rfl ?_
      | refine awc_ret ?_
      | refine awc_skip ?_
      | refine awc_label ?_
      | refine awc_exit ?_
      | refine retq_r ?_
      | refine retq_n ?_
      | exact ResIs.tv rfl
      | exact ResIs.ts rfl
      | exact ResIs.tc rfl
      | exact ResIs.tn rfl rfl
      | exact ResIs.to rfl rfl
      | apply ResIs.tagg rfl
      | exact ResIs.cv rfl trivial
      | exact ResIs.cs rfl trivial
      | exact ResIs.cn rfl trivial rfl
      | exact ResIs.co rfl trivial rfl
      | apply ResIs.cagg rfl trivial
      | exact CoeL.nil
      | apply CoeL.v
      | apply CoeL.sl
      | apply CoeL.clp
      | apply CoeL.emp rfl
      | apply CoeL.own rfl
      | apply ret_one
      | apply ret_two
      | apply ret_three
      | exact rawq_r rfl
      | apply rawq_rc rfl
      | apply ownq_rv rfl rfl)
  exact hbd.1
theorem c63 (ps : List UInt8) : OCalls 63 [aB ps] .u8 ps := by
  refine ocalls (n := 8) (t := 2) Try.func63 rfl rfl rfl rfl ?_
  refine awc_bd 0 _ rfl ?_
  intro hbd
  refine awc_nil 0 .u8 ps rfl ?_ ?_
  · rintro rfl
    repeat' (first
        | (refine awc_wkret (own0L 2 1000 .u8 rfl rfl) ?_)
        | exact True.intro
        | exact rfl
        | refine And.intro rfl ?_
        | refine awc_seq ?_
        | refine awc_region ?_
        | refine awc_draw ?_
        | refine awt_a rfl rfl rfl ?_ ?_
        | refine awt_b rfl rfl rfl rfl ?_ ?_
        | refine awt_c rfl rfl rfl ?_ ?_
        | refine awt_gt rfl rfl ?_
        | refine awt_gf rfl rfl rfl ?_
        | refine awt_gu rfl rfl rfl ?_
        | (refine awt_h rfl rfl rfl ?_ ?_ <;> intro hb)
        | refine awt_nil ?_
        | refine dq (by kernel_rfl) ?_
        | refine thn_n ?_
        | refine thn_r ?_
        | refine thn_e ?_
        | refine awc_condT rfl ?_
        | refine awc_condF rfl ?_
        | (refine awc_cond rfl ?_ ?_ <;> intro hb)
        | refine awc_block ?_
        | refine blk_n ?_
        | refine blk_r ?_
        | refine blk_e ?_
        | refine blk_o rfl ?_
        | refine awc_ret ?_
        | refine awc_skip ?_
        | refine awc_label ?_
        | refine awc_exit ?_
        | refine retq_r ?_
        | refine retq_n ?_
        | exact ResIs.tv rfl
        | exact ResIs.ts rfl
        | exact ResIs.tc rfl
        | exact ResIs.tn rfl rfl
        | exact ResIs.to rfl rfl
        | apply ResIs.tagg rfl
        | exact ResIs.cv rfl trivial
        | exact ResIs.cs rfl trivial
        | exact ResIs.cn rfl trivial rfl
        | exact ResIs.co rfl trivial rfl
        | apply ResIs.cagg rfl trivial
        | exact CoeL.nil
        | apply CoeL.v
        | apply CoeL.sl
        | apply CoeL.clp
        | apply CoeL.emp rfl
        | apply CoeL.own rfl
        | apply ret_one
        | apply ret_two
        | apply ret_three
        | exact rawq_r rfl
        | apply rawq_rc rfl
        | apply ownq_rv rfl rfl)
  repeat' (first
      | (refine awc_at (id := 3) (slL 0 .u8 ps rfl) ?_)
      | exact True.intro
      | exact rfl
      | refine And.intro rfl ?_
      | refine awc_seq ?_
      | refine awc_region ?_
      | refine awc_draw ?_
      | refine awt_a rfl rfl rfl ?_ ?_
      | refine awt_b rfl rfl rfl rfl ?_ ?_
      | refine awt_c rfl rfl rfl ?_ ?_
      | refine awt_gt rfl rfl ?_
      | refine awt_gf rfl rfl rfl ?_
      | refine awt_gu rfl rfl rfl ?_
      | (refine awt_h rfl rfl rfl ?_ ?_ <;> intro hb)
      | refine awt_nil ?_
      | refine dq (by kernel_rfl) ?_
      | refine thn_n ?_
      | refine thn_r ?_
      | refine thn_e ?_
      | refine awc_condT rfl ?_
      | refine awc_condF rfl ?_
      | (refine awc_cond rfl ?_ ?_ <;> intro hb)
      | refine awc_block ?_
      | refine blk_n ?_
      | refine blk_r ?_
      | refine blk_e ?_
      | refine blk_o rfl ?_
      | refine awc_ret ?_
      | refine awc_skip ?_
      | refine awc_label ?_
      | refine awc_exit ?_
      | refine retq_r ?_
      | refine retq_n ?_
      | exact ResIs.tv rfl
      | exact ResIs.ts rfl
      | exact ResIs.tc rfl
      | exact ResIs.tn rfl rfl
      | exact ResIs.to rfl rfl
      | apply ResIs.tagg rfl
      | exact ResIs.cv rfl trivial
      | exact ResIs.cs rfl trivial
      | exact ResIs.cn rfl trivial rfl
      | exact ResIs.co rfl trivial rfl
      | apply ResIs.cagg rfl trivial
      | exact CoeL.nil
      | apply CoeL.v
      | apply CoeL.sl
      | apply CoeL.clp
      | apply CoeL.emp rfl
      | apply CoeL.own rfl
      | apply ret_one
      | apply ret_two
      | apply ret_three
      | exact rawq_r rfl
      | apply rawq_rc rfl
      | apply ownq_rv rfl rfl)
  exact hbd.1
theorem c81 (ps : List (List UInt8)) : OCalls 81 [aBB ps] tB ps := by
  refine ocalls (n := 8) (t := 2) Try.func81 rfl rfl rfl rfl ?_
  refine awc_bd 0 _ rfl ?_
  intro hbd
  refine awc_nil 0 tB ps rfl ?_ ?_
  · rintro rfl
    repeat' (first
        | (refine awc_wkret (own0L 2 1000 tB rfl rfl) ?_)
        | exact True.intro
        | exact rfl
        | refine And.intro rfl ?_
        | refine awc_seq ?_
        | refine awc_region ?_
        | refine awc_draw ?_
        | refine awt_a rfl rfl rfl ?_ ?_
        | refine awt_b rfl rfl rfl rfl ?_ ?_
        | refine awt_c rfl rfl rfl ?_ ?_
        | refine awt_gt rfl rfl ?_
        | refine awt_gf rfl rfl rfl ?_
        | refine awt_gu rfl rfl rfl ?_
        | (refine awt_h rfl rfl rfl ?_ ?_ <;> intro hb)
        | refine awt_nil ?_
        | refine dq (by kernel_rfl) ?_
        | refine thn_n ?_
        | refine thn_r ?_
        | refine thn_e ?_
        | refine awc_condT rfl ?_
        | refine awc_condF rfl ?_
        | (refine awc_cond rfl ?_ ?_ <;> intro hb)
        | refine awc_block ?_
        | refine blk_n ?_
        | refine blk_r ?_
        | refine blk_e ?_
        | refine blk_o rfl ?_
        | refine awc_ret ?_
        | refine awc_skip ?_
        | refine awc_label ?_
        | refine awc_exit ?_
        | refine retq_r ?_
        | refine retq_n ?_
        | exact ResIs.tv rfl
        | exact ResIs.ts rfl
        | exact ResIs.tc rfl
        | exact ResIs.tn rfl rfl
        | exact ResIs.to rfl rfl
        | apply ResIs.tagg rfl
        | exact ResIs.cv rfl trivial
        | exact ResIs.cs rfl trivial
        | exact ResIs.cn rfl trivial rfl
        | exact ResIs.co rfl trivial rfl
        | apply ResIs.cagg rfl trivial
        | exact CoeL.nil
        | apply CoeL.v
        | apply CoeL.sl
        | apply CoeL.clp
        | apply CoeL.emp rfl
        | apply CoeL.own rfl
        | apply ret_one
        | apply ret_two
        | apply ret_three
        | exact rawq_r rfl
        | apply rawq_rc rfl
        | apply ownq_rv rfl rfl)
  repeat' (first
      | (refine awc_at (id := 3) (slL 0 tB ps rfl) ?_)
      | exact True.intro
      | exact rfl
      | refine And.intro rfl ?_
      | refine awc_seq ?_
      | refine awc_region ?_
      | refine awc_draw ?_
      | refine awt_a rfl rfl rfl ?_ ?_
      | refine awt_b rfl rfl rfl rfl ?_ ?_
      | refine awt_c rfl rfl rfl ?_ ?_
      | refine awt_gt rfl rfl ?_
      | refine awt_gf rfl rfl rfl ?_
      | refine awt_gu rfl rfl rfl ?_
      | (refine awt_h rfl rfl rfl ?_ ?_ <;> intro hb)
      | refine awt_nil ?_
      | refine dq (by kernel_rfl) ?_
      | refine thn_n ?_
      | refine thn_r ?_
      | refine thn_e ?_
      | refine awc_condT rfl ?_
      | refine awc_condF rfl ?_
      | (refine awc_cond rfl ?_ ?_ <;> intro hb)
      | refine awc_block ?_
      | refine blk_n ?_
      | refine blk_r ?_
      | refine blk_e ?_
      | refine blk_o rfl ?_
      | refine awc_ret ?_
      | refine awc_skip ?_
      | refine awc_label ?_
      | refine awc_exit ?_
      | refine retq_r ?_
      | refine retq_n ?_
      | exact ResIs.tv rfl
      | exact ResIs.ts rfl
      | exact ResIs.tc rfl
      | exact ResIs.tn rfl rfl
      | exact ResIs.to rfl rfl
      | apply ResIs.tagg rfl
      | exact ResIs.cv rfl trivial
      | exact ResIs.cs rfl trivial
      | exact ResIs.cn rfl trivial rfl
      | exact ResIs.co rfl trivial rfl
      | apply ResIs.cagg rfl trivial
      | exact CoeL.nil
      | apply CoeL.v
      | apply CoeL.sl
      | apply CoeL.clp
      | apply CoeL.emp rfl
      | apply CoeL.own rfl
      | apply ret_one
      | apply ret_two
      | apply ret_three
      | exact rawq_r rfl
      | apply rawq_rc rfl
      | apply ownq_rv rfl rfl)
  exact hbd.1

theorem getD_mem {α : Type} (d : α) {l : List α} {i : Nat} (h : i < l.length) : l.getD i d ∈ l := by
  rw [List.getD_eq_getElem?_getD, List.getElem?_eq_getElem h]
  exact List.getElem_mem h

/-- Sectors after some writes. -/
def perf : List (List UInt8) → List (Int × List UInt8) → List (List UInt8)
  | ss, [] => ss
  | ss, w :: l => perf (ss.set w.1.toNat w.2) l
theorem perf_len : ∀ (l : List (Int × List UInt8)) (ss : List (List UInt8)), (perf ss l).length = ss.length
  | [], _ => rfl
  | w :: l, ss => by rw [perf, perf_len l]; simp

theorem c62 (ss : List (List UInt8)) (ps : List (Int × List UInt8)) (hps : ∀ w ∈ ps, 0 ≤ w.1 ∧ w.1 < ss.length) : OCalls 62 [aBB ss, aWW ps] tB (perf ss ps) := by
  refine ocalls (n := 24) (t := 4) Try.func62 rfl rfl rfl rfl ?_
  refine awc_bd 1 _ rfl ?_
  intro hbd
  have hb1 : List.length ps * 32 ≤ 140737488355328 := hbd.1
  repeat' (first
      | exact True.intro
      | exact rfl
      | refine And.intro rfl ?_
      | refine awc_seq ?_
      | refine awc_region ?_
      | refine awc_draw ?_
      | refine awt_a rfl rfl rfl ?_ ?_
      | refine awt_own0 rfl (c81 _) rfl rfl rfl rfl rfl rfl ?_
      | refine awt_own rfl (c81 _) rfl rfl rfl rfl rfl rfl ?_
      | refine awt_b rfl rfl rfl rfl ?_ ?_
      | refine awt_c rfl rfl rfl ?_ ?_
      | refine awt_gt rfl rfl ?_
      | refine awt_gf rfl rfl rfl ?_
      | refine awt_gu rfl rfl rfl ?_
      | (refine awt_h rfl rfl rfl ?_ ?_ <;> intro hb)
      | refine awt_nil ?_
      | refine dq (by kernel_rfl) ?_
      | refine thn_n ?_
      | refine thn_r ?_
      | refine thn_e ?_
      | refine awc_condT rfl ?_
      | refine awc_condF rfl ?_
      | (refine awc_cond rfl ?_ ?_ <;> intro hb)
      | refine awc_block ?_
      | refine blk_n ?_
      | refine blk_r ?_
      | refine blk_e ?_
      | refine blk_o rfl ?_
      | refine awc_ret ?_
      | refine awc_skip ?_
      | refine awc_label ?_
      | refine awc_exit ?_
      | refine retq_r ?_
      | refine retq_n ?_
      | exact ResIs.tv rfl
      | exact ResIs.ts rfl
      | exact ResIs.tc rfl
      | exact ResIs.tn rfl rfl
      | exact ResIs.to rfl rfl
      | apply ResIs.tagg rfl
      | exact ResIs.cv rfl trivial
      | exact ResIs.cs rfl trivial
      | exact ResIs.cn rfl trivial rfl
      | exact ResIs.co rfl trivial rfl
      | apply ResIs.cagg rfl trivial
      | exact CoeL.nil
      | apply CoeL.v
      | apply CoeL.sl
      | apply CoeL.clp
      | apply CoeL.emp rfl
      | apply CoeL.own rfl
      | apply ret_one
      | apply ret_two
      | apply ret_three
      | exact rawq_r rfl
      | apply rawq_rc rfl
      | apply ownq_rv rfl rfl)
  refine awc_loop (α := Nat × List (List UInt8)) (fun i => ⟨24, [(5, o1 (.own 9)), (10, aWW ps), (11, o1 (vI ps.length)), (12, o1 (vI i.1))], [(9, .own tB i.2)]⟩) (fun i => i.1 ≤ ps.length ∧ i.2.length = ss.length ∧ perf ss ps = perf i.2 (ps.drop i.1)) (fun i => ps.length - i.1) (0, ss) (Wk.ren [] rfl ⟨rfl, rfl, rfl, rfl, trivial⟩ ⟨rfl, trivial⟩ rfl) ⟨Nat.zero_le _, rfl, rfl⟩ ?_
  rintro ⟨i, ss'⟩ ⟨hi, hlen, hpre⟩
  dsimp only at hi hlen hpre
  repeat' (first
      | exact True.intro
      | exact rfl
      | refine And.intro rfl ?_
      | refine awc_seq ?_
      | refine awc_region ?_
      | refine awc_draw ?_
      | refine awt_a rfl rfl rfl ?_ ?_
      | refine awt_b rfl rfl rfl rfl ?_ ?_
      | refine awt_c rfl rfl rfl ?_ ?_
      | refine awt_gt rfl rfl ?_
      | refine awt_gf rfl rfl rfl ?_
      | refine awt_gu rfl rfl rfl ?_
      | (refine awt_h rfl rfl rfl ?_ ?_ <;> intro hb)
      | refine awt_nil ?_
      | refine dq (by kernel_rfl) ?_
      | refine thn_n ?_
      | refine thn_r ?_
      | refine thn_e ?_
      | refine awc_condT rfl ?_
      | refine awc_condF rfl ?_
      | (refine awc_cond rfl ?_ ?_ <;> intro hb)
      | refine awc_block ?_
      | refine blk_n ?_
      | refine blk_r ?_
      | refine blk_e ?_
      | refine blk_o rfl ?_
      | refine awc_ret ?_
      | refine awc_skip ?_
      | refine awc_label ?_
      | refine awc_exit ?_
      | refine retq_r ?_
      | refine retq_n ?_
      | exact ResIs.tv rfl
      | exact ResIs.ts rfl
      | exact ResIs.tc rfl
      | exact ResIs.tn rfl rfl
      | exact ResIs.to rfl rfl
      | apply ResIs.tagg rfl
      | exact ResIs.cv rfl trivial
      | exact ResIs.cs rfl trivial
      | exact ResIs.cn rfl trivial rfl
      | exact ResIs.co rfl trivial rfl
      | apply ResIs.cagg rfl trivial
      | exact CoeL.nil
      | apply CoeL.v
      | apply CoeL.sl
      | apply CoeL.clp
      | apply CoeL.emp rfl
      | apply CoeL.own rfl
      | apply ret_one
      | apply ret_two
      | apply ret_three
      | exact rawq_r rfl
      | apply rawq_rc rfl
      | apply ownq_rv rfl rfl)
  all_goals (try simp only [decide_eq_true_eq, decide_eq_false_iff_not, Int.toNat_natCast] at *)
  all_goals (try omega)
  · have := hps _ (getD_mem tW.dflt (i := i) (by omega))
    omega
  · have := hps _ (getD_mem tW.dflt (i := i) (by omega))
    refine ⟨trivial, rfl, rfl, ?_⟩
    show Int.toNat _ * 1 < _
    omega
  · refine ⟨(i + 1, ss'.set (Int.toNat (ps.getD i tW.dflt).1) (ps.getD i tW.dflt).2), Wk.ren [] rfl ⟨rfl, rfl, rfl, ?_, trivial⟩ ⟨?_, trivial⟩ rfl, ⟨by dsimp only; omega, by simp [hlen], ?_⟩, by dsimp only; omega⟩
    · refine eqVI ?_
      rw [i64w] <;> omega
    · show HB.own tB (ss'.set (_ * 1) _) = HB.own tB _
      rw [Nat.mul_one]
    · rw [hpre, drop_step tW.dflt (by omega)]
      rfl
  · rw [hpre, List.drop_eq_nil_of_le (by omega)]
    rfl
end B
end Go.Proofs.Ytbmnhagbplkagaa
