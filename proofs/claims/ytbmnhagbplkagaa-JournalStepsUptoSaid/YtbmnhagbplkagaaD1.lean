import Derived.Test.YtbmnhagbplkagaaC1
import Derived.Test.YtbmnhagbplkagaaD0
/- Contracts of the journal's small functions. -/
namespace Go.Proofs.Ytbmnhagbplkagaa
namespace B
open Go.RowKit
set_option maxHeartbeats 4000000
set_option maxRecDepth 100000
attribute [local irreducible] awc awT thn blk DQ retQ rawQ ownQ retOk ResIs

abbrev aJ (rs : List (List UInt8)) (many synced : Int) : AV := .p (.agg [.sl tB rs, vI many, vI synced])
theorem c64 (b : List UInt8) : ACalls 64 [aB b] (o1 (vI (secN b.length))) := by
  refine acalls (n := 9) (rs := [.tmp 2]) (Ts := [3]) Try.func64 rfl rfl rfl rfl rfl rfl ?_
  refine awc_bd 0 _ rfl ?_
  intro hbd
  have hb1 : List.length b * 1 ≤ 140737488355328 := hbd.1
  repeat' (first
      | exact True.intro
      | exact rfl
      | refine And.intro rfl ?_
      | refine awc_seq ?_
      | refine awc_region ?_
      | refine awc_draw ?_
      | refine awt_a rfl rfl rfl ?_ ?_
      | refine awt_b rfl rfl rfl rfl ?_ ?_
      | refine awt_c rfl rfl rfl ?_ ?_
      | refine awt_gt rfl rfl ?_
      | refine awt_gf rfl rfl rfl ?_
      | refine awt_gu rfl rfl rfl ?_
      | (refine awt_h rfl rfl rfl ?_ ?_ <;> intro hb)
      | refine awt_nil ?_
      | refine dq (by kernel_rfl) ?_
      | refine thn_n ?_
      | refine thn_r ?_
      | refine thn_e ?_
      | refine awc_condT rfl ?_
      | refine awc_condF rfl ?_
      | (refine awc_cond rfl ?_ ?_ <;> intro hb)
      | refine awc_block ?_
      | refine blk_n ?_
      | refine blk_r ?_
      | refine blk_e ?_
      | refine blk_o rfl ?_
      | refine awc_ret ?_
      | refine awc_skip ?_
      | refine awc_label ?_
      | refine awc_exit ?_
      | refine retq_r ?_
      | refine retq_n ?_
      | exact ResIs.tv rfl
      | exact ResIs.ts rfl
      | exact ResIs.tc rfl
      | exact ResIs.tn rfl rfl
      | exact ResIs.to rfl rfl
      | apply ResIs.tagg rfl
      | exact ResIs.cv rfl trivial
      | exact ResIs.cs rfl trivial
      | exact ResIs.cn rfl trivial rfl
      | exact ResIs.co rfl trivial rfl
      | apply ResIs.cagg rfl trivial
      | exact CoeL.nil
      | apply CoeL.v
      | apply CoeL.sl
      | apply CoeL.clp
      | apply CoeL.emp rfl
      | apply CoeL.own rfl
      | apply ret_one
      | apply ret_two
      | apply ret_three
      | exact rawq_r rfl
      | apply rawq_rc rfl
      | apply ownq_rv rfl rfl)
  all_goals first | decide | skip
  refine eqVI ?_
  rw [i64w (n := (b.length : Int) + 112) (by omega) (by omega), i64w (n := (b.length : Int) + 112 - 1) (by omega) (by omega), Int.tdiv_eq_ediv_of_nonneg (by omega), i64w (by omega) (by omega)]
  unfold secN
  split <;> omega
theorem c73 (n : Nat) (hn : n ≤ 1152921504606846976) : ACalls 73 [o1 (vI n)] (o1 (vI (secN n))) := by
  refine acalls (n := 8) (rs := [.tmp 2]) (Ts := [3]) Try.func73 rfl rfl rfl rfl rfl rfl ?_
  repeat' (first
      | exact True.intro
      | exact rfl
      | refine And.intro rfl ?_
      | refine awc_seq ?_
      | refine awc_region ?_
      | refine awc_draw ?_
      | refine awt_a rfl rfl rfl ?_ ?_
      | refine awt_b rfl rfl rfl rfl ?_ ?_
      | refine awt_c rfl rfl rfl ?_ ?_
      | refine awt_gt rfl rfl ?_
      | refine awt_gf rfl rfl rfl ?_
      | refine awt_gu rfl rfl rfl ?_
      | (refine awt_h rfl rfl rfl ?_ ?_ <;> intro hb)
      | refine awt_nil ?_
      | refine dq (by kernel_rfl) ?_
      | refine thn_n ?_
      | refine thn_r ?_
      | refine thn_e ?_
      | refine awc_condT rfl ?_
      | refine awc_condF rfl ?_
      | (refine awc_cond rfl ?_ ?_ <;> intro hb)
      | refine awc_block ?_
      | refine blk_n ?_
      | refine blk_r ?_
      | refine blk_e ?_
      | refine blk_o rfl ?_
      | refine awc_ret ?_
      | refine awc_skip ?_
      | refine awc_label ?_
      | refine awc_exit ?_
      | refine retq_r ?_
      | refine retq_n ?_
      | exact ResIs.tv rfl
      | exact ResIs.ts rfl
      | exact ResIs.tc rfl
      | exact ResIs.tn rfl rfl
      | exact ResIs.to rfl rfl
      | apply ResIs.tagg rfl
      | exact ResIs.cv rfl trivial
      | exact ResIs.cs rfl trivial
      | exact ResIs.cn rfl trivial rfl
      | exact ResIs.co rfl trivial rfl
      | apply ResIs.cagg rfl trivial
      | exact CoeL.nil
      | apply CoeL.v
      | apply CoeL.sl
      | apply CoeL.clp
      | apply CoeL.emp rfl
      | apply CoeL.own rfl
      | apply ret_one
      | apply ret_two
      | apply ret_three
      | exact rawq_r rfl
      | apply rawq_rc rfl
      | apply ownq_rv rfl rfl)
  all_goals first | decide | skip
  refine eqVI ?_
  rw [i64w (n := (n : Int) + 112) (by omega) (by omega), i64w (n := (n : Int) + 112 - 1) (by omega) (by omega), Int.tdiv_eq_ediv_of_nonneg (by omega), i64w (by omega) (by omega)]
  unfold secN
  split <;> omega
theorem c65 (rs : List (List UInt8)) : ACalls 65 [aBB rs] (o1 (vI (usedI rs))) := by
  refine acalls (n := 17) (rs := [.tmp 2]) (Ts := [3]) Try.func65 rfl rfl rfl rfl rfl rfl ?_
  refine awc_bd 0 _ rfl ?_
  intro hbd
  have hb1 : List.length rs * 24 ≤ 140737488355328 := hbd.1
  repeat' (first
      | exact True.intro
      | exact rfl
      | refine And.intro rfl ?_
      | refine awc_seq ?_
      | refine awc_region ?_
      | refine awc_draw ?_
      | refine awt_a rfl rfl rfl ?_ ?_
      | refine awt_b rfl rfl rfl rfl ?_ ?_
      | refine awt_c rfl rfl rfl ?_ ?_
      | refine awt_gt rfl rfl ?_
      | refine awt_gf rfl rfl rfl ?_
      | refine awt_gu rfl rfl rfl ?_
      | (refine awt_h rfl rfl rfl ?_ ?_ <;> intro hb)
      | refine awt_nil ?_
      | refine dq (by kernel_rfl) ?_
      | refine thn_n ?_
      | refine thn_r ?_
      | refine thn_e ?_
      | refine awc_condT rfl ?_
      | refine awc_condF rfl ?_
      | (refine awc_cond rfl ?_ ?_ <;> intro hb)
      | refine awc_block ?_
      | refine blk_n ?_
      | refine blk_r ?_
      | refine blk_e ?_
      | refine blk_o rfl ?_
      | refine awc_ret ?_
      | refine awc_skip ?_
      | refine awc_label ?_
      | refine awc_exit ?_
      | refine retq_r ?_
      | refine retq_n ?_
      | exact ResIs.tv rfl
      | exact ResIs.ts rfl
      | exact ResIs.tc rfl
      | exact ResIs.tn rfl rfl
      | exact ResIs.to rfl rfl
      | apply ResIs.tagg rfl
      | exact ResIs.cv rfl trivial
      | exact ResIs.cs rfl trivial
      | exact ResIs.cn rfl trivial rfl
      | exact ResIs.co rfl trivial rfl
      | apply ResIs.cagg rfl trivial
      | exact CoeL.nil
      | apply CoeL.v
      | apply CoeL.sl
      | apply CoeL.clp
      | apply CoeL.emp rfl
      | apply CoeL.own rfl
      | apply ret_one
      | apply ret_two
      | apply ret_three
      | exact rawq_r rfl
      | apply rawq_rc rfl
      | apply ownq_rv rfl rfl)
  refine awc_loop (α := Nat) (fun i => ⟨17, [(0, aBB rs), (2, o1 (vI (usedI (rs.take i)))), (5, aBB rs), (6, o1 (vI rs.length)), (7, o1 (vI i))], []⟩) (fun i => i ≤ rs.length) (fun i => rs.length - i) 0 (Wk.ren [] rfl ⟨rfl, rfl, rfl, rfl, rfl, trivial⟩ trivial rfl) (Nat.zero_le _) ?_
  rintro i hi
  by_cases hil : i < rs.length
  · have hst := usedI_step hil
    repeat' (first
        | exact True.intro
        | exact rfl
        | refine And.intro rfl ?_
        | refine awc_seq ?_
        | refine awc_region ?_
        | refine awc_draw ?_
        | refine awt_a rfl rfl rfl ?_ ?_
        | refine awt_call0 rfl (c64 _) rfl rfl rfl rfl rfl ?_
        | refine awt_call1 rfl (c64 _) rfl rfl rfl rfl rfl ?_
        | refine awt_call2 rfl (c64 _) rfl rfl rfl rfl rfl ?_
        | refine awt_b rfl rfl rfl rfl ?_ ?_
        | refine awt_c rfl rfl rfl ?_ ?_
        | refine awt_gt rfl rfl ?_
        | refine awt_gf rfl rfl rfl ?_
        | refine awt_gu rfl rfl rfl ?_
        | (refine awt_h rfl rfl rfl ?_ ?_ <;> intro hb)
        | refine awt_nil ?_
        | refine dq (by kernel_rfl) ?_
        | refine thn_n ?_
        | refine thn_r ?_
        | refine thn_e ?_
        | refine awc_condT rfl ?_
        | refine awc_condF rfl ?_
        | (refine awc_cond rfl ?_ ?_ <;> intro hb)
        | refine awc_block ?_
        | refine blk_n ?_
        | refine blk_r ?_
        | refine blk_e ?_
        | refine blk_o rfl ?_
        | refine awc_ret ?_
        | refine awc_skip ?_
        | refine awc_label ?_
        | refine awc_exit ?_
        | refine retq_r ?_
        | refine retq_n ?_
        | exact ResIs.tv rfl
        | exact ResIs.ts rfl
        | exact ResIs.tc rfl
        | exact ResIs.tn rfl rfl
        | exact ResIs.to rfl rfl
        | apply ResIs.tagg rfl
        | exact ResIs.cv rfl trivial
        | exact ResIs.cs rfl trivial
        | exact ResIs.cn rfl trivial rfl
        | exact ResIs.co rfl trivial rfl
        | apply ResIs.cagg rfl trivial
        | exact CoeL.nil
        | apply CoeL.v
        | apply CoeL.sl
        | apply CoeL.clp
        | apply CoeL.emp rfl
        | apply CoeL.own rfl
        | apply ret_one
        | apply ret_two
        | apply ret_three
        | exact rawq_r rfl
        | apply rawq_rc rfl
        | apply ownq_rv rfl rfl)
    all_goals (try (exfalso; simp only [decide_eq_false_iff_not] at hb; omega))
    · exact ⟨by omega, by omega⟩
    · refine ⟨i + 1, Wk.ren [] rfl ⟨rfl, eqVI ?_, rfl, rfl, eqVI ?_, trivial⟩ trivial rfl, by omega, by omega⟩
      · rw [Int.toNat_natCast]
        exact hst
      · rw [i64w (by omega) (by omega)]; rfl
  · skip
    repeat' (first
        | exact True.intro
        | exact rfl
        | refine And.intro rfl ?_
        | refine awc_seq ?_
        | refine awc_region ?_
        | refine awc_draw ?_
        | refine awt_a rfl rfl rfl ?_ ?_
        | refine awt_call0 rfl (c64 _) rfl rfl rfl rfl rfl ?_
        | refine awt_call1 rfl (c64 _) rfl rfl rfl rfl rfl ?_
        | refine awt_call2 rfl (c64 _) rfl rfl rfl rfl rfl ?_
        | refine awt_b rfl rfl rfl rfl ?_ ?_
        | refine awt_c rfl rfl rfl ?_ ?_
        | refine awt_gt rfl rfl ?_
        | refine awt_gf rfl rfl rfl ?_
        | refine awt_gu rfl rfl rfl ?_
        | (refine awt_h rfl rfl rfl ?_ ?_ <;> intro hb)
        | refine awt_nil ?_
        | refine dq (by kernel_rfl) ?_
        | refine thn_n ?_
        | refine thn_r ?_
        | refine thn_e ?_
        | refine awc_condT rfl ?_
        | refine awc_condF rfl ?_
        | (refine awc_cond rfl ?_ ?_ <;> intro hb)
        | refine awc_block ?_
        | refine blk_n ?_
        | refine blk_r ?_
        | refine blk_e ?_
        | refine blk_o rfl ?_
        | refine awc_ret ?_
        | refine awc_skip ?_
        | refine awc_label ?_
        | refine awc_exit ?_
        | refine retq_r ?_
        | refine retq_n ?_
        | exact ResIs.tv rfl
        | exact ResIs.ts rfl
        | exact ResIs.tc rfl
        | exact ResIs.tn rfl rfl
        | exact ResIs.to rfl rfl
        | apply ResIs.tagg rfl
        | exact ResIs.cv rfl trivial
        | exact ResIs.cs rfl trivial
        | exact ResIs.cn rfl trivial rfl
        | exact ResIs.co rfl trivial rfl
        | apply ResIs.cagg rfl trivial
        | exact CoeL.nil
        | apply CoeL.v
        | apply CoeL.sl
        | apply CoeL.clp
        | apply CoeL.emp rfl
        | apply CoeL.own rfl
        | apply ret_one
        | apply ret_two
        | apply ret_three
        | exact rawq_r rfl
        | apply rawq_rc rfl
        | apply ownq_rv rfl rfl)
    all_goals (try (exfalso; simp only [decide_eq_true_eq] at hb; omega))
    refine eqVI ?_
    rw [List.take_of_length_le (by omega)]
theorem c74 (rs : List (List UInt8)) : ACalls 74 [aBB rs] (o1 (vI (usedI rs))) := by
  refine acalls (n := 20) (rs := [.tmp 2]) (Ts := [3]) Try.func74 rfl rfl rfl rfl rfl rfl ?_
  refine awc_bd 0 _ rfl ?_
  intro hbd
  have hb1 : List.length rs * 24 ≤ 140737488355328 := hbd.1
  repeat' (first
      | exact True.intro
      | exact rfl
      | refine And.intro rfl ?_
      | refine awc_seq ?_
      | refine awc_region ?_
      | refine awc_draw ?_
      | refine awt_a rfl rfl rfl ?_ ?_
      | refine awt_b rfl rfl rfl rfl ?_ ?_
      | refine awt_c rfl rfl rfl ?_ ?_
      | refine awt_gt rfl rfl ?_
      | refine awt_gf rfl rfl rfl ?_
      | refine awt_gu rfl rfl rfl ?_
      | (refine awt_h rfl rfl rfl ?_ ?_ <;> intro hb)
      | refine awt_nil ?_
      | refine dq (by kernel_rfl) ?_
      | refine thn_n ?_
      | refine thn_r ?_
      | refine thn_e ?_
      | refine awc_condT rfl ?_
      | refine awc_condF rfl ?_
      | (refine awc_cond rfl ?_ ?_ <;> intro hb)
      | refine awc_block ?_
      | refine blk_n ?_
      | refine blk_r ?_
      | refine blk_e ?_
      | refine blk_o rfl ?_
      | refine awc_ret ?_
      | refine awc_skip ?_
      | refine awc_label ?_
      | refine awc_exit ?_
      | refine retq_r ?_
      | refine retq_n ?_
      | exact ResIs.tv rfl
      | exact ResIs.ts rfl
      | exact ResIs.tc rfl
      | exact ResIs.tn rfl rfl
      | exact ResIs.to rfl rfl
      | apply ResIs.tagg rfl
      | exact ResIs.cv rfl trivial
      | exact ResIs.cs rfl trivial
      | exact ResIs.cn rfl trivial rfl
      | exact ResIs.co rfl trivial rfl
      | apply ResIs.cagg rfl trivial
      | exact CoeL.nil
      | apply CoeL.v
      | apply CoeL.sl
      | apply CoeL.clp
      | apply CoeL.emp rfl
      | apply CoeL.own rfl
      | apply ret_one
      | apply ret_two
      | apply ret_three
      | exact rawq_r rfl
      | apply rawq_rc rfl
      | apply ownq_rv rfl rfl)
  refine awc_loop (α := Nat) (fun i => ⟨20, [(0, aBB rs), (3, o1 (vI (usedI (rs.take i)))), (4, o1 (vI i))], []⟩) (fun i => i ≤ rs.length) (fun i => rs.length - i) 0 (Wk.ren [] rfl ⟨rfl, rfl, rfl, trivial⟩ trivial rfl) (Nat.zero_le _) ?_
  rintro i hi
  by_cases hil : i < rs.length
  · have hst := usedI_step hil
    have hg : List.length (rs.getD i tB.dflt) ≤ 1152921504606846976 := by
      have := hbd.2 (rs.getD i tB.dflt) (getD_mem tB.dflt hil)
      have h2 : List.length (rs.getD i tB.dflt) * 1 ≤ 140737488355328 := this.1
      omega
    have hix : (0 : Int) ≤ i ∧ (i : Int) < rs.length := ⟨by omega, by omega⟩
    have h73 := c73 (List.length (rs.getD i tB.dflt)) hg
    have e : i = (Int.toNat (i : Int)) := (Int.toNat_natCast i).symm
    rw [e] at h73
    repeat' (first
        | exact True.intro
        | exact rfl
        | refine And.intro rfl ?_
        | refine awc_seq ?_
        | refine awc_region ?_
        | refine awc_draw ?_
        | refine awt_a rfl rfl rfl ?_ ?_
        | refine awt_call0 rfl (h73) rfl rfl rfl rfl rfl ?_
        | refine awt_call1 rfl (h73) rfl rfl rfl rfl rfl ?_
        | refine awt_call2 rfl (h73) rfl rfl rfl rfl rfl ?_
        | refine awt_b rfl rfl rfl rfl ?_ ?_
        | refine awt_c rfl rfl rfl ?_ ?_
        | refine awt_gt rfl rfl ?_
        | refine awt_gf rfl rfl rfl ?_
        | refine awt_gu rfl rfl rfl ?_
        | (refine awt_h rfl rfl rfl ?_ ?_ <;> intro hb)
        | refine awt_nil ?_
        | refine dq (by kernel_rfl) ?_
        | refine thn_n ?_
        | refine thn_r ?_
        | refine thn_e ?_
        | refine awc_condT rfl ?_
        | refine awc_condF rfl ?_
        | (refine awc_cond rfl ?_ ?_ <;> intro hb)
        | refine awc_block ?_
        | refine blk_n ?_
        | refine blk_r ?_
        | refine blk_e ?_
        | refine blk_o rfl ?_
        | refine awc_ret ?_
        | refine awc_skip ?_
        | refine awc_label ?_
        | refine awc_exit ?_
        | refine retq_r ?_
        | refine retq_n ?_
        | exact ResIs.tv rfl
        | exact ResIs.ts rfl
        | exact ResIs.tc rfl
        | exact ResIs.tn rfl rfl
        | exact ResIs.to rfl rfl
        | apply ResIs.tagg rfl
        | exact ResIs.cv rfl trivial
        | exact ResIs.cs rfl trivial
        | exact ResIs.cn rfl trivial rfl
        | exact ResIs.co rfl trivial rfl
        | apply ResIs.cagg rfl trivial
        | exact CoeL.nil
        | apply CoeL.v
        | apply CoeL.sl
        | apply CoeL.clp
        | apply CoeL.emp rfl
        | apply CoeL.own rfl
        | apply ret_one
        | apply ret_two
        | apply ret_three
        | exact rawq_r rfl
        | apply rawq_rc rfl
        | apply ownq_rv rfl rfl)
    all_goals (try (exfalso; simp only [decide_eq_false_iff_not] at hb; omega))
    · exact hix
    · refine ⟨i + 1, Wk.ren [] rfl ⟨rfl, eqVI ?_, eqVI ?_, trivial⟩ trivial rfl, by omega, by omega⟩
      · rw [Int.toNat_natCast]
        exact hst
      · rw [i64w (by omega) (by omega)]; rfl
  · skip
    repeat' (first
        | exact True.intro
        | exact rfl
        | refine And.intro rfl ?_
        | refine awc_seq ?_
        | refine awc_region ?_
        | refine awc_draw ?_
        | refine awt_a rfl rfl rfl ?_ ?_
        | refine awt_b rfl rfl rfl rfl ?_ ?_
        | refine awt_c rfl rfl rfl ?_ ?_
        | refine awt_gt rfl rfl ?_
        | refine awt_gf rfl rfl rfl ?_
        | refine awt_gu rfl rfl rfl ?_
        | (refine awt_h rfl rfl rfl ?_ ?_ <;> intro hb)
        | refine awt_nil ?_
        | refine dq (by kernel_rfl) ?_
        | refine thn_n ?_
        | refine thn_r ?_
        | refine thn_e ?_
        | refine awc_condT rfl ?_
        | refine awc_condF rfl ?_
        | (refine awc_cond rfl ?_ ?_ <;> intro hb)
        | refine awc_block ?_
        | refine blk_n ?_
        | refine blk_r ?_
        | refine blk_e ?_
        | refine blk_o rfl ?_
        | refine awc_ret ?_
        | refine awc_skip ?_
        | refine awc_label ?_
        | refine awc_exit ?_
        | refine retq_r ?_
        | refine retq_n ?_
        | exact ResIs.tv rfl
        | exact ResIs.ts rfl
        | exact ResIs.tc rfl
        | exact ResIs.tn rfl rfl
        | exact ResIs.to rfl rfl
        | apply ResIs.tagg rfl
        | exact ResIs.cv rfl trivial
        | exact ResIs.cs rfl trivial
        | exact ResIs.cn rfl trivial rfl
        | exact ResIs.co rfl trivial rfl
        | apply ResIs.cagg rfl trivial
        | exact CoeL.nil
        | apply CoeL.v
        | apply CoeL.sl
        | apply CoeL.clp
        | apply CoeL.emp rfl
        | apply CoeL.own rfl
        | apply ret_one
        | apply ret_two
        | apply ret_three
        | exact rawq_r rfl
        | apply rawq_rc rfl
        | apply ownq_rv rfl rfl)
    all_goals (try (exfalso; simp only [decide_eq_true_eq] at hb; omega))
    refine eqVI ?_
    rw [List.take_of_length_le (by omega)]
theorem c46 (rs : List (List UInt8)) (many synced : Int) : ACalls 46 [aJ rs many synced] (o1 (vI (jChk rs many synced))) := by
  refine acalls (n := 32) (rs := [.tmp 2]) (Ts := [28]) Try.func46 rfl rfl rfl rfl rfl rfl ?_
  repeat' (first
      | exact True.intro
      | exact rfl
      | refine And.intro rfl ?_
      | refine awc_seq ?_
      | refine awc_region ?_
      | refine awc_draw ?_
      | refine awt_a rfl rfl rfl ?_ ?_
      | refine awt_call0 rfl (c65 _) rfl rfl rfl rfl rfl ?_
      | refine awt_call1 rfl (c65 _) rfl rfl rfl rfl rfl ?_
      | refine awt_call2 rfl (c65 _) rfl rfl rfl rfl rfl ?_
      | refine awt_b rfl rfl rfl rfl ?_ ?_
      | refine awt_c rfl rfl rfl ?_ ?_
      | refine awt_gt rfl rfl ?_
      | refine awt_gf rfl rfl rfl ?_
      | refine awt_gu rfl rfl rfl ?_
      | (refine awt_h rfl rfl rfl ?_ ?_ <;> intro hb)
      | refine awt_nil ?_
      | refine dq (by kernel_rfl) ?_
      | refine thn_n ?_
      | refine thn_r ?_
      | refine thn_e ?_
      | refine awc_condT rfl ?_
      | refine awc_condF rfl ?_
      | (refine awc_cond rfl ?_ ?_ <;> intro hb)
      | refine awc_block ?_
      | refine blk_n ?_
      | refine blk_r ?_
      | refine blk_e ?_
      | refine blk_o rfl ?_
      | refine awc_ret ?_
      | refine awc_skip ?_
      | refine awc_label ?_
      | refine awc_exit ?_
      | refine retq_r ?_
      | refine retq_n ?_
      | exact ResIs.tv rfl
      | exact ResIs.ts rfl
      | exact ResIs.tc rfl
      | exact ResIs.tn rfl rfl
      | exact ResIs.to rfl rfl
      | apply ResIs.tagg rfl
      | exact ResIs.cv rfl trivial
      | exact ResIs.cs rfl trivial
      | exact ResIs.cn rfl trivial rfl
      | exact ResIs.co rfl trivial rfl
      | apply ResIs.cagg rfl trivial
      | exact CoeL.nil
      | apply CoeL.v
      | apply CoeL.sl
      | apply CoeL.clp
      | apply CoeL.emp rfl
      | apply CoeL.own rfl
      | apply ret_one
      | apply ret_two
      | apply ret_three
      | exact rawq_r rfl
      | apply rawq_rc rfl
      | apply ownq_rv rfl rfl)
  all_goals (refine eqVI ?_; simp [jChk, jBad, *])
theorem c47 (rs : List (List UInt8)) (many synced : Int) : ACalls 47 [aJ rs many synced] (o1 (vI (jChk rs many synced))) := by
  refine acalls (n := 32) (rs := [.tmp 2]) (Ts := [28]) Try.func47 rfl rfl rfl rfl rfl rfl ?_
  repeat' (first
      | exact True.intro
      | exact rfl
      | refine And.intro rfl ?_
      | refine awc_seq ?_
      | refine awc_region ?_
      | refine awc_draw ?_
      | refine awt_a rfl rfl rfl ?_ ?_
      | refine awt_call0 rfl (c74 _) rfl rfl rfl rfl rfl ?_
      | refine awt_call1 rfl (c74 _) rfl rfl rfl rfl rfl ?_
      | refine awt_call2 rfl (c74 _) rfl rfl rfl rfl rfl ?_
      | refine awt_b rfl rfl rfl rfl ?_ ?_
      | refine awt_c rfl rfl rfl ?_ ?_
      | refine awt_gt rfl rfl ?_
      | refine awt_gf rfl rfl rfl ?_
      | refine awt_gu rfl rfl rfl ?_
      | (refine awt_h rfl rfl rfl ?_ ?_ <;> intro hb)
      | refine awt_nil ?_
      | refine dq (by kernel_rfl) ?_
      | refine thn_n ?_
      | refine thn_r ?_
      | refine thn_e ?_
      | refine awc_condT rfl ?_
      | refine awc_condF rfl ?_
      | (refine awc_cond rfl ?_ ?_ <;> intro hb)
      | refine awc_block ?_
      | refine blk_n ?_
      | refine blk_r ?_
      | refine blk_e ?_
      | refine blk_o rfl ?_
      | refine awc_ret ?_
      | refine awc_skip ?_
      | refine awc_label ?_
      | refine awc_exit ?_
      | refine retq_r ?_
      | refine retq_n ?_
      | exact ResIs.tv rfl
      | exact ResIs.ts rfl
      | exact ResIs.tc rfl
      | exact ResIs.tn rfl rfl
      | exact ResIs.to rfl rfl
      | apply ResIs.tagg rfl
      | exact ResIs.cv rfl trivial
      | exact ResIs.cs rfl trivial
      | exact ResIs.cn rfl trivial rfl
      | exact ResIs.co rfl trivial rfl
      | apply ResIs.cagg rfl trivial
      | exact CoeL.nil
      | apply CoeL.v
      | apply CoeL.sl
      | apply CoeL.clp
      | apply CoeL.emp rfl
      | apply CoeL.own rfl
      | apply ret_one
      | apply ret_two
      | apply ret_three
      | exact rawq_r rfl
      | apply rawq_rc rfl
      | apply ownq_rv rfl rfl)
  all_goals (refine eqVI ?_; simp [jChk, jBad, *])
theorem jChk_bad {rs : List (List UInt8)} {many synced : Int} (h : (jChk rs many synced != 0) = true) : jBad rs many synced = true := by
  unfold jChk at h
  cases hj : jBad rs many synced with
  | true => rfl
  | false => rw [hj] at h; simp at h
theorem jChk_good {rs : List (List UInt8)} {many synced : Int} (h : (jChk rs many synced != 0) = false) : jBad rs many synced = false := by
  unfold jChk at h
  cases hj : jBad rs many synced with
  | false => rfl
  | true => rw [hj] at h; simp at h
theorem c48 (rs : List (List UInt8)) (many synced : Int) : ACalls 48 [aJ rs many synced] (o1 (vI (jRoom rs many synced))) := by
  refine acalls (n := 13) (rs := [.tmp 2]) (Ts := [3]) Try.func48 rfl rfl rfl rfl rfl rfl ?_
  repeat' (first
      | exact True.intro
      | exact rfl
      | refine And.intro rfl ?_
      | refine awc_seq ?_
      | refine awc_region ?_
      | refine awc_draw ?_
      | refine awt_a rfl rfl rfl ?_ ?_
      | refine awt_call0 rfl (c46 _ _ _) rfl rfl rfl rfl rfl ?_
      | refine awt_call1 rfl (c46 _ _ _) rfl rfl rfl rfl rfl ?_
      | refine awt_call2 rfl (c46 _ _ _) rfl rfl rfl rfl rfl ?_
      | refine awt_call0 rfl (c65 _) rfl rfl rfl rfl rfl ?_
      | refine awt_call1 rfl (c65 _) rfl rfl rfl rfl rfl ?_
      | refine awt_call2 rfl (c65 _) rfl rfl rfl rfl rfl ?_
      | refine awt_b rfl rfl rfl rfl ?_ ?_
      | refine awt_c rfl rfl rfl ?_ ?_
      | refine awt_gt rfl rfl ?_
      | refine awt_gf rfl rfl rfl ?_
      | refine awt_gu rfl rfl rfl ?_
      | (refine awt_h rfl rfl rfl ?_ ?_ <;> intro hb)
      | refine awt_nil ?_
      | refine dq (by kernel_rfl) ?_
      | refine thn_n ?_
      | refine thn_r ?_
      | refine thn_e ?_
      | refine awc_condT rfl ?_
      | refine awc_condF rfl ?_
      | (refine awc_cond rfl ?_ ?_ <;> intro hb)
      | refine awc_block ?_
      | refine blk_n ?_
      | refine blk_r ?_
      | refine blk_e ?_
      | refine blk_o rfl ?_
      | refine awc_ret ?_
      | refine awc_skip ?_
      | refine awc_label ?_
      | refine awc_exit ?_
      | refine retq_r ?_
      | refine retq_n ?_
      | exact ResIs.tv rfl
      | exact ResIs.ts rfl
      | exact ResIs.tc rfl
      | exact ResIs.tn rfl rfl
      | exact ResIs.to rfl rfl
      | apply ResIs.tagg rfl
      | exact ResIs.cv rfl trivial
      | exact ResIs.cs rfl trivial
      | exact ResIs.cn rfl trivial rfl
      | exact ResIs.co rfl trivial rfl
      | apply ResIs.cagg rfl trivial
      | exact CoeL.nil
      | apply CoeL.v
      | apply CoeL.sl
      | apply CoeL.clp
      | apply CoeL.emp rfl
      | apply CoeL.own rfl
      | apply ret_one
      | apply ret_two
      | apply ret_three
      | exact rawq_r rfl
      | apply rawq_rc rfl
      | apply ownq_rv rfl rfl)
  · refine eqVI ?_
    rw [jRoom, jChk_bad hb]; rfl
  · have hj := jChk_good hb
    refine eqVI ?_
    rw [jRoom, hj]; rfl
theorem c49 (rs : List (List UInt8)) (many synced : Int) : ACalls 49 [aJ rs many synced] (o1 (vI (jRoom rs many synced))) := by
  refine acalls (n := 13) (rs := [.tmp 2]) (Ts := [3]) Try.func49 rfl rfl rfl rfl rfl rfl ?_
  repeat' (first
      | exact True.intro
      | exact rfl
      | refine And.intro rfl ?_
      | refine awc_seq ?_
      | refine awc_region ?_
      | refine awc_draw ?_
      | refine awt_a rfl rfl rfl ?_ ?_
      | refine awt_call0 rfl (c47 _ _ _) rfl rfl rfl rfl rfl ?_
      | refine awt_call1 rfl (c47 _ _ _) rfl rfl rfl rfl rfl ?_
      | refine awt_call2 rfl (c47 _ _ _) rfl rfl rfl rfl rfl ?_
      | refine awt_call0 rfl (c74 _) rfl rfl rfl rfl rfl ?_
      | refine awt_call1 rfl (c74 _) rfl rfl rfl rfl rfl ?_
      | refine awt_call2 rfl (c74 _) rfl rfl rfl rfl rfl ?_
      | refine awt_b rfl rfl rfl rfl ?_ ?_
      | refine awt_c rfl rfl rfl ?_ ?_
      | refine awt_gt rfl rfl ?_
      | refine awt_gf rfl rfl rfl ?_
      | refine awt_gu rfl rfl rfl ?_
      | (refine awt_h rfl rfl rfl ?_ ?_ <;> intro hb)
      | refine awt_nil ?_
      | refine dq (by kernel_rfl) ?_
      | refine thn_n ?_
      | refine thn_r ?_
      | refine thn_e ?_
      | refine awc_condT rfl ?_
      | refine awc_condF rfl ?_
      | (refine awc_cond rfl ?_ ?_ <;> intro hb)
      | refine awc_block ?_
      | refine blk_n ?_
      | refine blk_r ?_
      | refine blk_e ?_
      | refine blk_o rfl ?_
      | refine awc_ret ?_
      | refine awc_skip ?_
      | refine awc_label ?_
      | refine awc_exit ?_
      | refine retq_r ?_
      | refine retq_n ?_
      | exact ResIs.tv rfl
      | exact ResIs.ts rfl
      | exact ResIs.tc rfl
      | exact ResIs.tn rfl rfl
      | exact ResIs.to rfl rfl
      | apply ResIs.tagg rfl
      | exact ResIs.cv rfl trivial
      | exact ResIs.cs rfl trivial
      | exact ResIs.cn rfl trivial rfl
      | exact ResIs.co rfl trivial rfl
      | apply ResIs.cagg rfl trivial
      | exact CoeL.nil
      | apply CoeL.v
      | apply CoeL.sl
      | apply CoeL.clp
      | apply CoeL.emp rfl
      | apply CoeL.own rfl
      | apply ret_one
      | apply ret_two
      | apply ret_three
      | exact rawq_r rfl
      | apply rawq_rc rfl
      | apply ownq_rv rfl rfl)
  · refine eqVI ?_
    rw [jRoom, jChk_bad hb]; rfl
  · have hj := jChk_good hb
    refine eqVI ?_
    rw [jRoom, hj]; rfl
end B
end Go.Proofs.Ytbmnhagbplkagaa
