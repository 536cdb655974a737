import Derived.Test.YtbmnhagbplkagaaD9b
import Derived.Test.YtbmnhagbplkagaaD2
/- Contracts of the journal: the journal of a disk. -/
namespace Go.Proofs.Ytbmnhagbplkagaa
namespace B
open Go.RowKit
set_option maxHeartbeats 4000000
set_option maxRecDepth 100000
attribute [local irreducible] awc awT thn blk DQ retQ rawQ ownQ retOk ResIs awg thnG blkG retG itQ rndQ

def oBase (ss : List (List UInt8)) (ps : List (Int × List UInt8)) (left : Int) (R : List (List UInt8)) : Nat → List (Nat × HB)
  | 0 => [(1, .box [.sl tB ss, .sl tW ps, vI left, vB false]), (2, .box [.emp, vI ss.length, vI 0])]
  | j + 1 => [(1, .box [.sl tB ss, .sl tW ps, vI left, vB false]), (2, .box [.own 1000, vI ss.length, vI 0]), (1000, .own tB (R.take (j + 1)))]
theorem rItems_get {ss : List (List UInt8)} {j : Nat} {it : List AV} (h : (rItems ss)[j]? = some it) : ∃ x : List UInt8 × Nat, it = rItem x ∧ (recs ss)[j]? = some x.1 := by
  unfold rItems at h
  rw [List.getElem?_map] at h
  cases hq : (its ss 0 0)[j]? with
  | none => rw [hq] at h; cases h
  | some x =>
    rw [hq] at h
    cases h
    refine ⟨x, rfl, ?_⟩
    unfold recs
    rw [List.getElem?_map, hq]; rfl
theorem take_get {R : List (List UInt8)} {j : Nat} {x : List UInt8} (h : R[j]? = some x) : R.take (j + 1) = R.take j ++ [x] := by
  rw [List.take_add_one, h]; rfl
theorem c38 (ss : List (List UInt8)) (ps : List (Int × List UInt8)) (left : Int) (st : Bool) : ACalls 38 [aD ss ps left st] (aRJ (jOpen ⟨ss, ps, left, st⟩)) := by
  refine acallsG (n := 41) (rs := [.cell 2 45, .tmp 3]) (Ts := [45, 28]) Try.func38 rfl rfl rfl rfl rfl rfl ?_
  intro ok w
  repeat' (first
      | exact True.intro
      | exact rfl
      | refine And.intro rfl ?_
      | refine awg_seq ?_
      | refine awg_region rfl ?_
      | refine awg_draw rfl (fun _ => rfl) (fun _ => rfl) ?_
      | refine awt_a rfl rfl rfl ?_ ?_
      | refine awt_call0 rfl (c22 _ _ _ _) rfl rfl rfl rfl rfl ?_
      | refine awt_call1 rfl (c22 _ _ _ _) rfl rfl rfl rfl rfl ?_
      | refine awt_call2 rfl (c22 _ _ _ _) rfl rfl rfl rfl rfl ?_
      | refine awt_call0 rfl (c67 _) rfl rfl rfl rfl rfl ?_
      | refine awt_call1 rfl (c67 _) rfl rfl rfl rfl rfl ?_
      | refine awt_call2 rfl (c67 _) rfl rfl rfl rfl rfl ?_
      | refine awt_b rfl rfl rfl rfl ?_ ?_
      | refine awt_c rfl rfl rfl ?_ ?_
      | refine awt_gt rfl rfl ?_
      | refine awt_gf rfl rfl rfl ?_
      | refine awt_gu rfl rfl rfl ?_
      | (refine awt_h rfl rfl rfl ?_ ?_ <;> intro hb)
      | refine awt_nil ?_
      | refine dq (by kernel_rfl) ?_
      | refine thnG_n ?_
      | refine thnG_r ?_
      | refine thnG_e ?_
      | refine awg_condT rfl ?_
      | refine awg_condF rfl ?_
      | (refine awg_cond rfl ?_ ?_ <;> intro hb)
      | refine awg_block ?_
      | refine blkG_n ?_
      | refine blkG_r ?_
      | refine blkG_e ?_
      | refine blkG_o rfl ?_
      | refine awg_ret ?_
      | refine awg_skip ?_
      | refine awg_label ?_
      | refine awg_exit ?_
      | refine retg_0 ?_
      | refine retg_1 rfl ?_
      | exact ResIs.tv rfl
      | exact ResIs.ts rfl
      | exact ResIs.tc rfl
      | exact ResIs.tn rfl rfl
      | exact ResIs.to rfl rfl
      | apply ResIs.tagg rfl
      | exact ResIs.cv rfl trivial
      | exact ResIs.cs rfl trivial
      | exact ResIs.cn rfl trivial rfl
      | exact ResIs.co rfl trivial rfl
      | apply ResIs.cagg rfl trivial
      | exact CoeL.nil
      | apply CoeL.v
      | apply CoeL.sl
      | apply CoeL.clp
      | apply CoeL.emp rfl
      | apply CoeL.own rfl
      | apply ret_one
      | apply ret_two
      | apply ret_three
      | exact rawq_r rfl
      | apply rawq_rc rfl
      | apply ownq_rv rfl rfl)
  · refine eqRJ ?_
    rw [dChk_ne] at hb
    unfold jOpen dChk
    rw [if_pos hb, hb]; rfl
  · rename_i h1
    rw [dChk_ne] at h1
    refine eqRJ ?_
    unfold jOpen
    rw [if_neg (by rw [h1]; exact Bool.false_ne_true), if_pos hb]
    rfl
  · rename_i h1 h2
    rw [dChk_ne] at h1
    refine eqRJ ?_
    unfold jOpen
    rw [if_neg (by rw [h1]; exact Bool.false_ne_true), if_neg (by rw [h2]; exact Bool.false_ne_true), if_pos (by have := of_decide_eq_true hb; show ps.length > 0; omega)]
    rfl
  rename_i h1 h2
  rw [dChk_ne] at h1
  subst h2
  have hp0 : ps.length = 0 := by have := of_decide_eq_false hb; omega
  have hres : jOpen ⟨ss, ps, left, false⟩ = (⟨recs ss, ss.length, (recs ss).length⟩, 0) := by
    unfold jOpen
    rw [if_neg (by rw [h1]; exact Bool.false_ne_true), if_neg Bool.false_ne_true, if_neg (by show ¬ ps.length > 0; omega)]
  have hsz := dBad_iff.1 h1
  have hrl := recs_len ss
  have hN : (rItems ss).length = (recs ss).length := by simp [rItems, recs]
  refine awg_range (f := 82) (ty := tBB) (x := ss) (ps := [28, 29]) (n := 41) (rItems ss) (oBase ss ps left (recs ss)) (fun _ => True) [(1, o1 (.ptr 1 0)), (2, o1 (.ptr 2 0)), (3, o1 (vI 0)), (27, o1 (.clo 82 tBB ss))] (fun t => Nat.ble t 3 || Nat.beq t 27) trivial
    (Wk.ren [] rfl ⟨rfl, rfl, rfl, rfl, trivial⟩ ⟨rfl, rfl, trivial⟩ rfl) rfl rfl (c82 ss hsz.2.2.2.2.2.2 hsz.2.1) rfl ?_ rfl rfl ⟨rfl, rfl⟩ ?_ ?_
  · intro it hit
    obtain ⟨j, hj⟩ := List.mem_iff_getElem?.1 hit
    obtain ⟨x, rfl, _⟩ := rItems_get hj
    exact ⟨rfl, rfl⟩
  · intro l D j it oR oB ac hit _
    obtain ⟨x, rfl, hx⟩ := rItems_get hit
    have hj : j < (recs ss).length := (List.getElem?_eq_some_iff.1 hx).1
    cases j with
    | zero =>
      unfold oBase
      repeat' (first
          | (refine rnd_n (Wk.ren [(1000, 34)] rfl ⟨rfl, rfl, rfl, rfl, trivial⟩ ⟨rfl, rfl, rfl, rfl, ?_, trivial⟩ rfl) trivial)
          | exact True.intro
          | exact rfl
          | refine And.intro rfl ?_
          | refine awg_seq ?_
          | refine awg_region rfl ?_
          | refine awg_draw rfl (fun _ => rfl) (fun _ => rfl) ?_
          | refine awt_a rfl rfl rfl ?_ ?_
          | refine awt_b rfl rfl rfl rfl ?_ ?_
          | refine awt_c rfl rfl rfl ?_ ?_
          | refine awt_gt rfl rfl ?_
          | refine awt_gf rfl rfl rfl ?_
          | refine awt_gu rfl rfl rfl ?_
          | (refine awt_h rfl rfl rfl ?_ ?_ <;> intro hb)
          | refine awt_nil ?_
          | refine dq (by kernel_rfl) ?_
          | refine thnG_n ?_
          | refine thnG_r ?_
          | refine thnG_e ?_
          | refine awg_condT rfl ?_
          | refine awg_condF rfl ?_
          | (refine awg_cond rfl ?_ ?_ <;> intro hb)
          | refine awg_block ?_
          | refine blkG_n ?_
          | refine blkG_r ?_
          | refine blkG_e ?_
          | refine blkG_o rfl ?_
          | refine awg_ret ?_
          | refine awg_skip ?_
          | refine awg_label ?_
          | refine awg_exit ?_
          | refine retg_0 ?_
          | refine retg_1 rfl ?_
          | exact ResIs.tv rfl
          | exact ResIs.ts rfl
          | exact ResIs.tc rfl
          | exact ResIs.tn rfl rfl
          | exact ResIs.to rfl rfl
          | apply ResIs.tagg rfl
          | exact ResIs.cv rfl trivial
          | exact ResIs.cs rfl trivial
          | exact ResIs.cn rfl trivial rfl
          | exact ResIs.co rfl trivial rfl
          | apply ResIs.cagg rfl trivial
          | exact CoeL.nil
          | apply CoeL.v
          | apply CoeL.sl
          | apply CoeL.clp
          | apply CoeL.emp rfl
          | apply CoeL.own rfl
          | apply ret_one
          | apply ret_two
          | apply ret_three
          | exact rawq_r rfl
          | apply rawq_rc rfl
          | apply ownq_rv rfl rfl)
      · show 1 * 24 ≤ 140737488355328
        decide
      · refine congrArg (HB.own tB) ?_
        rw [take_get hx]; first | done | rfl
    | succ j =>
      unfold oBase
      repeat' (first
          | (refine rnd_n (Wk.ren [(1000, 34)] rfl ⟨rfl, rfl, rfl, rfl, trivial⟩ ⟨rfl, rfl, rfl, rfl, ?_, trivial⟩ rfl) trivial)
          | exact True.intro
          | exact rfl
          | refine And.intro rfl ?_
          | refine awg_seq ?_
          | refine awg_region rfl ?_
          | refine awg_draw rfl (fun _ => rfl) (fun _ => rfl) ?_
          | refine awt_a rfl rfl rfl ?_ ?_
          | refine awt_b rfl rfl rfl rfl ?_ ?_
          | refine awt_c rfl rfl rfl ?_ ?_
          | refine awt_gt rfl rfl ?_
          | refine awt_gf rfl rfl rfl ?_
          | refine awt_gu rfl rfl rfl ?_
          | (refine awt_h rfl rfl rfl ?_ ?_ <;> intro hb)
          | refine awt_nil ?_
          | refine dq (by kernel_rfl) ?_
          | refine thnG_n ?_
          | refine thnG_r ?_
          | refine thnG_e ?_
          | refine awg_condT rfl ?_
          | refine awg_condF rfl ?_
          | (refine awg_cond rfl ?_ ?_ <;> intro hb)
          | refine awg_block ?_
          | refine blkG_n ?_
          | refine blkG_r ?_
          | refine blkG_e ?_
          | refine blkG_o rfl ?_
          | refine awg_ret ?_
          | refine awg_skip ?_
          | refine awg_label ?_
          | refine awg_exit ?_
          | refine retg_0 ?_
          | refine retg_1 rfl ?_
          | exact ResIs.tv rfl
          | exact ResIs.ts rfl
          | exact ResIs.tc rfl
          | exact ResIs.tn rfl rfl
          | exact ResIs.to rfl rfl
          | apply ResIs.tagg rfl
          | exact ResIs.cv rfl trivial
          | exact ResIs.cs rfl trivial
          | exact ResIs.cn rfl trivial rfl
          | exact ResIs.co rfl trivial rfl
          | apply ResIs.cagg rfl trivial
          | exact CoeL.nil
          | apply CoeL.v
          | apply CoeL.sl
          | apply CoeL.clp
          | apply CoeL.emp rfl
          | apply CoeL.own rfl
          | apply ret_one
          | apply ret_two
          | apply ret_three
          | exact rawq_r rfl
          | apply rawq_rc rfl
          | apply ownq_rv rfl rfl)
      · refine ⟨?_, by simp⟩
        show (((recs ss).take (j + 1)).length + 1) * 24 ≤ _
        rw [List.length_take]; omega
      · refine congrArg (HB.own tB) ?_
        rw [take_get hx]; first | done | rfl
  · intro D _
    rw [hN]
    cases hR : (recs ss).length with
    | zero =>
      unfold oBase
      have hnil : recs ss = [] := List.eq_nil_of_length_eq_zero hR
      repeat' (first
          | (refine retg_1 rfl ?_)
          | exact True.intro
          | exact rfl
          | refine And.intro rfl ?_
          | refine awg_seq ?_
          | refine awg_region rfl ?_
          | refine awg_draw rfl (fun _ => rfl) (fun _ => rfl) ?_
          | refine awt_a rfl rfl rfl ?_ ?_
          | refine awt_b rfl rfl rfl rfl ?_ ?_
          | refine awt_c rfl rfl rfl ?_ ?_
          | refine awt_gt rfl rfl ?_
          | refine awt_gf rfl rfl rfl ?_
          | refine awt_gu rfl rfl rfl ?_
          | (refine awt_h rfl rfl rfl ?_ ?_ <;> intro hb)
          | refine awt_nil ?_
          | refine dq (by kernel_rfl) ?_
          | refine thnG_n ?_
          | refine thnG_r ?_
          | refine thnG_e ?_
          | refine awg_condT rfl ?_
          | refine awg_condF rfl ?_
          | (refine awg_cond rfl ?_ ?_ <;> intro hb)
          | refine awg_block ?_
          | refine blkG_n ?_
          | refine blkG_r ?_
          | refine blkG_e ?_
          | refine blkG_o rfl ?_
          | refine awg_ret ?_
          | refine awg_skip ?_
          | refine awg_label ?_
          | refine awg_exit ?_
          | refine retg_0 ?_
          | refine retg_1 rfl ?_
          | exact ResIs.tv rfl
          | exact ResIs.ts rfl
          | exact ResIs.tc rfl
          | exact ResIs.tn rfl rfl
          | exact ResIs.to rfl rfl
          | apply ResIs.tagg rfl
          | exact ResIs.cv rfl trivial
          | exact ResIs.cs rfl trivial
          | exact ResIs.cn rfl trivial rfl
          | exact ResIs.co rfl trivial rfl
          | apply ResIs.cagg rfl trivial
          | exact CoeL.nil
          | apply CoeL.v
          | apply CoeL.sl
          | apply CoeL.clp
          | apply CoeL.emp rfl
          | apply CoeL.own rfl
          | apply ret_one
          | apply ret_two
          | apply ret_three
          | exact rawq_r rfl
          | apply rawq_rc rfl
          | apply ownq_rv rfl rfl)
      refine eqRJ ?_
      rw [hres, hnil]; rfl
    | succ j =>
      unfold oBase
      have htk : (recs ss).take (j + 1) = recs ss := List.take_of_length_le (by omega)
      repeat' (first
          | (refine retg_1 rfl ?_)
          | exact True.intro
          | exact rfl
          | refine And.intro rfl ?_
          | refine awg_seq ?_
          | refine awg_region rfl ?_
          | refine awg_draw rfl (fun _ => rfl) (fun _ => rfl) ?_
          | refine awt_a rfl rfl rfl ?_ ?_
          | refine awt_b rfl rfl rfl rfl ?_ ?_
          | refine awt_c rfl rfl rfl ?_ ?_
          | refine awt_gt rfl rfl ?_
          | refine awt_gf rfl rfl rfl ?_
          | refine awt_gu rfl rfl rfl ?_
          | (refine awt_h rfl rfl rfl ?_ ?_ <;> intro hb)
          | refine awt_nil ?_
          | refine dq (by kernel_rfl) ?_
          | refine thnG_n ?_
          | refine thnG_r ?_
          | refine thnG_e ?_
          | refine awg_condT rfl ?_
          | refine awg_condF rfl ?_
          | (refine awg_cond rfl ?_ ?_ <;> intro hb)
          | refine awg_block ?_
          | refine blkG_n ?_
          | refine blkG_r ?_
          | refine blkG_e ?_
          | refine blkG_o rfl ?_
          | refine awg_ret ?_
          | refine awg_skip ?_
          | refine awg_label ?_
          | refine awg_exit ?_
          | refine retg_0 ?_
          | refine retg_1 rfl ?_
          | exact ResIs.tv rfl
          | exact ResIs.ts rfl
          | exact ResIs.tc rfl
          | exact ResIs.tn rfl rfl
          | exact ResIs.to rfl rfl
          | apply ResIs.tagg rfl
          | exact ResIs.cv rfl trivial
          | exact ResIs.cs rfl trivial
          | exact ResIs.cn rfl trivial rfl
          | exact ResIs.co rfl trivial rfl
          | apply ResIs.cagg rfl trivial
          | exact CoeL.nil
          | apply CoeL.v
          | apply CoeL.sl
          | apply CoeL.clp
          | apply CoeL.emp rfl
          | apply CoeL.own rfl
          | apply ret_one
          | apply ret_two
          | apply ret_three
          | exact rawq_r rfl
          | apply rawq_rc rfl
          | apply ownq_rv rfl rfl)
      refine eqRJ ?_
      rw [hres, htk, hR]
end B
end Go.Proofs.Ytbmnhagbplkagaa
