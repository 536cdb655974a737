import Derived.Test.YtbmnhagbplkagaaD1
/- Contracts of the journal: what is appended, what is the same. -/
namespace Go.Proofs.Ytbmnhagbplkagaa
namespace B
open Go.RowKit
set_option maxHeartbeats 4000000
set_option maxRecDepth 100000
attribute [local irreducible] awc awT thn blk DQ retQ rawQ ownQ retOk ResIs

abbrev aRJ (x : Jr × Int) : AV := .tup [.agg [.sl tB x.1.rs, vI x.1.many, vI x.1.synced], .one (vI x.2)]
theorem c66 (rs : List (List UInt8)) : ACalls 66 [aBB rs] (o1 (.clp tB rs)) := by
  refine acalls_raw (n := 9) (t := 2) Try.func66 rfl rfl rfl rfl rfl ?_
  repeat' (first
      | exact True.intro
      | exact rfl
      | refine And.intro rfl ?_
      | refine awc_seq ?_
      | refine awc_region ?_
      | refine awc_draw ?_
      | refine awt_a rfl rfl rfl ?_ ?_
      | refine awt_b rfl rfl rfl rfl ?_ ?_
      | refine awt_c rfl rfl rfl ?_ ?_
      | refine awt_gt rfl rfl ?_
      | refine awt_gf rfl rfl rfl ?_
      | refine awt_gu rfl rfl rfl ?_
      | (refine awt_h rfl rfl rfl ?_ ?_ <;> intro hb)
      | refine awt_nil ?_
      | refine dq (by kernel_rfl) ?_
      | refine thn_n ?_
      | refine thn_r ?_
      | refine thn_e ?_
      | refine awc_condT rfl ?_
      | refine awc_condF rfl ?_
      | (refine awc_cond rfl ?_ ?_ <;> intro hb)
      | refine awc_block ?_
      | refine blk_n ?_
      | refine blk_r ?_
      | refine blk_e ?_
      | refine blk_o rfl ?_
      | refine awc_ret ?_
      | refine awc_skip ?_
      | refine awc_label ?_
      | refine awc_exit ?_
      | refine retq_r ?_
      | refine retq_n ?_
      | exact ResIs.tv rfl
      | exact ResIs.ts rfl
      | exact ResIs.tc rfl
      | exact ResIs.tn rfl rfl
      | exact ResIs.to rfl rfl
      | apply ResIs.tagg rfl
      | exact ResIs.cv rfl trivial
      | exact ResIs.cs rfl trivial
      | exact ResIs.cn rfl trivial rfl
      | exact ResIs.co rfl trivial rfl
      | apply ResIs.cagg rfl trivial
      | exact CoeL.nil
      | apply CoeL.v
      | apply CoeL.sl
      | apply CoeL.clp
      | apply CoeL.emp rfl
      | apply CoeL.own rfl
      | apply ret_one
      | apply ret_two
      | apply ret_three
      | exact rawq_r rfl
      | apply rawq_rc rfl
      | apply ownq_rv rfl rfl)
  · simp [cutOk]
  · simp [cutL]
theorem eqRJ {rs : List (List UInt8)} {m s e : Int} {x : Jr × Int} (h : x = (⟨rs, m, s⟩, e)) : AV.tup [.agg [.sl tB rs, vI m, vI s], .one (vI e)] = aRJ x := by
  rw [h]
theorem c37 (rs : List (List UInt8)) (many synced : Int) (b : List UInt8) (hr : (rs.length + 1) * 24 ≤ 140737488355328) : ACalls 37 [aJ rs many synced, aB b] (aRJ (jApp ⟨rs, many, synced⟩ b)) := by
  refine acalls (n := 32) (rs := [.cell 4 45, .tmp 5]) (Ts := [45, 28]) Try.func37 rfl rfl rfl rfl rfl rfl ?_
  repeat' (first
      | exact True.intro
      | exact rfl
      | refine And.intro rfl ?_
      | refine awc_seq ?_
      | refine awc_region ?_
      | refine awc_draw ?_
      | refine awt_a rfl rfl rfl ?_ ?_
      | refine awt_call0 rfl (c46 _ _ _) rfl rfl rfl rfl rfl ?_
      | refine awt_call1 rfl (c46 _ _ _) rfl rfl rfl rfl rfl ?_
      | refine awt_call2 rfl (c46 _ _ _) rfl rfl rfl rfl rfl ?_
      | refine awt_call0 rfl (c64 _) rfl rfl rfl rfl rfl ?_
      | refine awt_call1 rfl (c64 _) rfl rfl rfl rfl rfl ?_
      | refine awt_call2 rfl (c64 _) rfl rfl rfl rfl rfl ?_
      | refine awt_call0 rfl (c65 _) rfl rfl rfl rfl rfl ?_
      | refine awt_call1 rfl (c65 _) rfl rfl rfl rfl rfl ?_
      | refine awt_call2 rfl (c65 _) rfl rfl rfl rfl rfl ?_
      | refine awt_call0 rfl (c66 _) rfl rfl rfl rfl rfl ?_
      | refine awt_call1 rfl (c66 _) rfl rfl rfl rfl rfl ?_
      | refine awt_call2 rfl (c66 _) rfl rfl rfl rfl rfl ?_
      | refine awt_own0 rfl (c63 _) rfl rfl rfl rfl rfl rfl ?_
      | refine awt_own rfl (c63 _) rfl rfl rfl rfl rfl rfl ?_
      | refine awt_b rfl rfl rfl rfl ?_ ?_
      | refine awt_c rfl rfl rfl ?_ ?_
      | refine awt_gt rfl rfl ?_
      | refine awt_gf rfl rfl rfl ?_
      | refine awt_gu rfl rfl rfl ?_
      | (refine awt_h rfl rfl rfl ?_ ?_ <;> intro hb)
      | refine awt_nil ?_
      | refine dq (by kernel_rfl) ?_
      | refine thn_n ?_
      | refine thn_r ?_
      | refine thn_e ?_
      | refine awc_condT rfl ?_
      | refine awc_condF rfl ?_
      | (refine awc_cond rfl ?_ ?_ <;> intro hb)
      | refine awc_block ?_
      | refine blk_n ?_
      | refine blk_r ?_
      | refine blk_e ?_
      | refine blk_o rfl ?_
      | refine awc_ret ?_
      | refine awc_skip ?_
      | refine awc_label ?_
      | refine awc_exit ?_
      | refine retq_r ?_
      | refine retq_n ?_
      | exact ResIs.tv rfl
      | exact ResIs.ts rfl
      | exact ResIs.tc rfl
      | exact ResIs.tn rfl rfl
      | exact ResIs.to rfl rfl
      | apply ResIs.tagg rfl
      | exact ResIs.cv rfl trivial
      | exact ResIs.cs rfl trivial
      | exact ResIs.cn rfl trivial rfl
      | exact ResIs.co rfl trivial rfl
      | apply ResIs.cagg rfl trivial
      | exact CoeL.nil
      | apply CoeL.v
      | apply CoeL.sl
      | apply CoeL.clp
      | apply CoeL.emp rfl
      | apply CoeL.own rfl
      | apply ret_one
      | apply ret_two
      | apply ret_three
      | exact rawq_r rfl
      | apply rawq_rc rfl
      | apply ownq_rv rfl rfl)
  · have hj := jChk_bad hb
    refine eqRJ ?_
    rw [jApp, if_pos hj]; unfold jChk; rw [hj]; rfl
  · rename_i h1
    refine eqRJ ?_
    rw [jApp, if_neg (by rw [jChk_good h1]; exact Bool.false_ne_true), if_pos (of_decide_eq_true hb)]
  · show 0 < 1 ∧ (rs.length + 1) * 24 ≤ 140737488355328
    exact ⟨Nat.zero_lt_one, hr⟩
  · rename_i h1
    refine eqRJ ?_
    rw [jApp, if_neg (by rw [jChk_good h1]; exact Bool.false_ne_true), if_neg (of_decide_eq_false hb)]
theorem c45 (rs : List (List UInt8)) (many synced : Int) (b : List UInt8) (hr : (rs.length + 1) * 24 ≤ 140737488355328) : ACalls 45 [aJ rs many synced, aB b] (aRJ (jApp ⟨rs, many, synced⟩ b)) := by
  refine acalls (n := 33) (rs := [.cell 4 45, .tmp 5]) (Ts := [45, 28]) Try.func45 rfl rfl rfl rfl rfl rfl ?_
  refine awc_bd 1 _ rfl ?_
  intro hbd
  have hb1 : List.length b * 1 ≤ 140737488355328 := hbd.1
  repeat' (first
      | exact True.intro
      | exact rfl
      | refine And.intro rfl ?_
      | refine awc_seq ?_
      | refine awc_region ?_
      | refine awc_draw ?_
      | refine awt_a rfl rfl rfl ?_ ?_
      | refine awt_call0 rfl (c47 _ _ _) rfl rfl rfl rfl rfl ?_
      | refine awt_call1 rfl (c47 _ _ _) rfl rfl rfl rfl rfl ?_
      | refine awt_call2 rfl (c47 _ _ _) rfl rfl rfl rfl rfl ?_
      | refine awt_call0 rfl (c73 _ (show b.length ≤ 1152921504606846976 by omega)) rfl rfl rfl rfl rfl ?_
      | refine awt_call1 rfl (c73 _ (show b.length ≤ 1152921504606846976 by omega)) rfl rfl rfl rfl rfl ?_
      | refine awt_call2 rfl (c73 _ (show b.length ≤ 1152921504606846976 by omega)) rfl rfl rfl rfl rfl ?_
      | refine awt_call0 rfl (c74 _) rfl rfl rfl rfl rfl ?_
      | refine awt_call1 rfl (c74 _) rfl rfl rfl rfl rfl ?_
      | refine awt_call2 rfl (c74 _) rfl rfl rfl rfl rfl ?_
      | refine awt_b rfl rfl rfl rfl ?_ ?_
      | refine awt_c rfl rfl rfl ?_ ?_
      | refine awt_gt rfl rfl ?_
      | refine awt_gf rfl rfl rfl ?_
      | refine awt_gu rfl rfl rfl ?_
      | (refine awt_h rfl rfl rfl ?_ ?_ <;> intro hb)
      | refine awt_nil ?_
      | refine dq (by kernel_rfl) ?_
      | refine thn_n ?_
      | refine thn_r ?_
      | refine thn_e ?_
      | refine awc_condT rfl ?_
      | refine awc_condF rfl ?_
      | (refine awc_cond rfl ?_ ?_ <;> intro hb)
      | refine awc_block ?_
      | refine blk_n ?_
      | refine blk_r ?_
      | refine blk_e ?_
      | refine blk_o rfl ?_
      | refine awc_ret ?_
      | refine awc_skip ?_
      | refine awc_label ?_
      | refine awc_exit ?_
      | refine retq_r ?_
      | refine retq_n ?_
      | exact ResIs.tv rfl
      | exact ResIs.ts rfl
      | exact ResIs.tc rfl
      | exact ResIs.tn rfl rfl
      | exact ResIs.to rfl rfl
      | apply ResIs.tagg rfl
      | exact ResIs.cv rfl trivial
      | exact ResIs.cs rfl trivial
      | exact ResIs.cn rfl trivial rfl
      | exact ResIs.co rfl trivial rfl
      | apply ResIs.cagg rfl trivial
      | exact CoeL.nil
      | apply CoeL.v
      | apply CoeL.sl
      | apply CoeL.clp
      | apply CoeL.emp rfl
      | apply CoeL.own rfl
      | apply ret_one
      | apply ret_two
      | apply ret_three
      | exact rawq_r rfl
      | apply rawq_rc rfl
      | apply ownq_rv rfl rfl)
  · have hj := jChk_bad hb
    refine eqRJ ?_
    rw [jApp, if_pos hj]; unfold jChk; rw [hj]; rfl
  · rename_i h1
    refine eqRJ ?_
    rw [jApp, if_neg (by rw [jChk_good h1]; exact Bool.false_ne_true), if_pos (of_decide_eq_true hb)]
  · show rs.length * 24 ≤ 140737488355328
    omega
  · show (rs.length + 1) * 24 ≤ 140737488355328 ∧ ¬ 27 ∈ []
    exact ⟨hr, by simp⟩
  · rename_i h1
    refine eqRJ ?_
    rw [jApp, if_neg (by rw [jChk_good h1]; exact Bool.false_ne_true), if_neg (of_decide_eq_false hb)]
theorem c41 (a b : List (List UInt8)) : ACalls 41 [aBB a, aBB b] (o1 (vB (decide (a = b)))) := by
  refine acalls (n := 28) (rs := [.tmp 4]) (Ts := [4]) Try.func41 rfl rfl rfl rfl rfl rfl ?_
  refine awc_bd 0 _ rfl ?_
  intro hbd
  have hb1 : List.length a * 24 ≤ 140737488355328 := hbd.1
  repeat' (first
      | exact True.intro
      | exact rfl
      | refine And.intro rfl ?_
      | refine awc_seq ?_
      | refine awc_region ?_
      | refine awc_draw ?_
      | refine awt_a rfl rfl rfl ?_ ?_
      | refine awt_b rfl rfl rfl rfl ?_ ?_
      | refine awt_c rfl rfl rfl ?_ ?_
      | refine awt_gt rfl rfl ?_
      | refine awt_gf rfl rfl rfl ?_
      | refine awt_gu rfl rfl rfl ?_
      | (refine awt_h rfl rfl rfl ?_ ?_ <;> intro hb)
      | refine awt_nil ?_
      | refine dq (by kernel_rfl) ?_
      | refine thn_n ?_
      | refine thn_r ?_
      | refine thn_e ?_
      | refine awc_condT rfl ?_
      | refine awc_condF rfl ?_
      | (refine awc_cond rfl ?_ ?_ <;> intro hb)
      | refine awc_block ?_
      | refine blk_n ?_
      | refine blk_r ?_
      | refine blk_e ?_
      | refine blk_o rfl ?_
      | refine awc_ret ?_
      | refine awc_skip ?_
      | refine awc_label ?_
      | refine awc_exit ?_
      | refine retq_r ?_
      | refine retq_n ?_
      | exact ResIs.tv rfl
      | exact ResIs.ts rfl
      | exact ResIs.tc rfl
      | exact ResIs.tn rfl rfl
      | exact ResIs.to rfl rfl
      | apply ResIs.tagg rfl
      | exact ResIs.cv rfl trivial
      | exact ResIs.cs rfl trivial
      | exact ResIs.cn rfl trivial rfl
      | exact ResIs.co rfl trivial rfl
      | apply ResIs.cagg rfl trivial
      | exact CoeL.nil
      | apply CoeL.v
      | apply CoeL.sl
      | apply CoeL.clp
      | apply CoeL.emp rfl
      | apply CoeL.own rfl
      | apply ret_one
      | apply ret_two
      | apply ret_three
      | exact rawq_r rfl
      | apply rawq_rc rfl
      | apply ownq_rv rfl rfl)
  · refine eqVB ?_
    have : a ≠ b := fun h => by subst h; simp at hb
    simp [this]
  have hl : a.length = b.length := by
    simp only [bne_eq_false_iff_eq] at hb
    omega
  refine awc_loop (α := Nat) (fun i => ⟨28, [(0, aBB a), (1, aBB b), (5, o1 (vI i))], []⟩) (fun i => i ≤ a.length ∧ (a = b ↔ a.drop i = b.drop i)) (fun i => a.length - i) 0 (Wk.ren [] rfl ⟨rfl, rfl, rfl, trivial⟩ trivial rfl) ⟨Nat.zero_le _, by simp⟩ ?_
  rintro i ⟨hi, hpre⟩
  by_cases hil : i < a.length
  · have hst := eq_step hl hil
    have hix : (0 : Int) ≤ i ∧ (i : Int) < a.length := ⟨by omega, by omega⟩
    have hix2 : (0 : Int) ≤ i ∧ (i : Int) < b.length := ⟨by omega, by omega⟩
    repeat' (first
        | exact True.intro
        | exact rfl
        | refine And.intro rfl ?_
        | refine awc_seq ?_
        | refine awc_region ?_
        | refine awc_draw ?_
        | refine awt_a rfl rfl rfl ?_ ?_
        | refine awt_b rfl rfl rfl rfl ?_ ?_
        | refine awt_c rfl rfl rfl ?_ ?_
        | refine awt_gt rfl rfl ?_
        | refine awt_gf rfl rfl rfl ?_
        | refine awt_gu rfl rfl rfl ?_
        | (refine awt_h rfl rfl rfl ?_ ?_ <;> intro hb)
        | refine awt_nil ?_
        | refine dq (by kernel_rfl) ?_
        | refine thn_n ?_
        | refine thn_r ?_
        | refine thn_e ?_
        | refine awc_condT rfl ?_
        | refine awc_condF rfl ?_
        | (refine awc_cond rfl ?_ ?_ <;> intro hb)
        | refine awc_block ?_
        | refine blk_n ?_
        | refine blk_r ?_
        | refine blk_e ?_
        | refine blk_o rfl ?_
        | refine awc_ret ?_
        | refine awc_skip ?_
        | refine awc_label ?_
        | refine awc_exit ?_
        | refine retq_r ?_
        | refine retq_n ?_
        | exact ResIs.tv rfl
        | exact ResIs.ts rfl
        | exact ResIs.tc rfl
        | exact ResIs.tn rfl rfl
        | exact ResIs.to rfl rfl
        | apply ResIs.tagg rfl
        | exact ResIs.cv rfl trivial
        | exact ResIs.cs rfl trivial
        | exact ResIs.cn rfl trivial rfl
        | exact ResIs.co rfl trivial rfl
        | apply ResIs.cagg rfl trivial
        | exact CoeL.nil
        | apply CoeL.v
        | apply CoeL.sl
        | apply CoeL.clp
        | apply CoeL.emp rfl
        | apply CoeL.own rfl
        | apply ret_one
        | apply ret_two
        | apply ret_three
        | exact rawq_r rfl
        | apply rawq_rc rfl
        | apply ownq_rv rfl rfl)
    all_goals (try (exfalso; simp only [decide_eq_false_iff_not] at hb; omega))
    · exact hix
    · exact hix2
    · refine eqVB ?_
      rw [Int.toNat_natCast] at hb
      have hne : ¬ a.getD i tB.dflt = b.getD i tB.dflt := by simpa using hb
      exact (decide_eq_false (fun h => hne (hst.1 (hpre.1 h)).1)).symm
    · rw [Int.toNat_natCast] at hb
      have heq : a.getD i tB.dflt = b.getD i tB.dflt := by simpa using hb
      refine ⟨i + 1, Wk.ren [] rfl ⟨rfl, rfl, eqVI (by rw [i64w (by omega) (by omega)]; rfl), trivial⟩ trivial rfl, ⟨by omega, ?_⟩, by omega⟩
      rw [hpre, hst]
      exact ⟨fun h => h.2, fun h => ⟨heq, h⟩⟩
  · skip
    repeat' (first
        | exact True.intro
        | exact rfl
        | refine And.intro rfl ?_
        | refine awc_seq ?_
        | refine awc_region ?_
        | refine awc_draw ?_
        | refine awt_a rfl rfl rfl ?_ ?_
        | refine awt_b rfl rfl rfl rfl ?_ ?_
        | refine awt_c rfl rfl rfl ?_ ?_
        | refine awt_gt rfl rfl ?_
        | refine awt_gf rfl rfl rfl ?_
        | refine awt_gu rfl rfl rfl ?_
        | (refine awt_h rfl rfl rfl ?_ ?_ <;> intro hb)
        | refine awt_nil ?_
        | refine dq (by kernel_rfl) ?_
        | refine thn_n ?_
        | refine thn_r ?_
        | refine thn_e ?_
        | refine awc_condT rfl ?_
        | refine awc_condF rfl ?_
        | (refine awc_cond rfl ?_ ?_ <;> intro hb)
        | refine awc_block ?_
        | refine blk_n ?_
        | refine blk_r ?_
        | refine blk_e ?_
        | refine blk_o rfl ?_
        | refine awc_ret ?_
        | refine awc_skip ?_
        | refine awc_label ?_
        | refine awc_exit ?_
        | refine retq_r ?_
        | refine retq_n ?_
        | exact ResIs.tv rfl
        | exact ResIs.ts rfl
        | exact ResIs.tc rfl
        | exact ResIs.tn rfl rfl
        | exact ResIs.to rfl rfl
        | apply ResIs.tagg rfl
        | exact ResIs.cv rfl trivial
        | exact ResIs.cs rfl trivial
        | exact ResIs.cn rfl trivial rfl
        | exact ResIs.co rfl trivial rfl
        | apply ResIs.cagg rfl trivial
        | exact CoeL.nil
        | apply CoeL.v
        | apply CoeL.sl
        | apply CoeL.clp
        | apply CoeL.emp rfl
        | apply CoeL.own rfl
        | apply ret_one
        | apply ret_two
        | apply ret_three
        | exact rawq_r rfl
        | apply rawq_rc rfl
        | apply ownq_rv rfl rfl)
    all_goals (try (exfalso; simp only [decide_eq_true_eq] at *; omega))
    refine eqVB ?_
    rw [List.drop_eq_nil_of_le (by omega), List.drop_eq_nil_of_le (by omega)] at hpre
    exact (decide_eq_true (hpre.2 rfl)).symm
theorem c35 (ss : List (List UInt8)) (ps : List (Int × List UInt8)) (left : Int) (st : Bool) (rs : List (List UInt8)) : ACalls 35 [aD ss ps left st, aBB rs] (o1 (vB (decide (ss.length ≤ 40) && decide (ps.length ≤ 40) && decide (szI rs ≤ 4000)))) := by
  refine acalls (n := 34) (rs := [.tmp 4]) (Ts := [4]) Try.func35 rfl rfl rfl rfl rfl rfl ?_
  refine awc_bd 1 _ rfl ?_
  intro hbd
  have hb1 : List.length rs * 24 ≤ 140737488355328 := hbd.1
  repeat' (first
      | exact True.intro
      | exact rfl
      | refine And.intro rfl ?_
      | refine awc_seq ?_
      | refine awc_region ?_
      | refine awc_draw ?_
      | refine awt_a rfl rfl rfl ?_ ?_
      | refine awt_b rfl rfl rfl rfl ?_ ?_
      | refine awt_c rfl rfl rfl ?_ ?_
      | refine awt_gt rfl rfl ?_
      | refine awt_gf rfl rfl rfl ?_
      | refine awt_gu rfl rfl rfl ?_
      | (refine awt_h rfl rfl rfl ?_ ?_ <;> intro hb)
      | refine awt_nil ?_
      | refine dq (by kernel_rfl) ?_
      | refine thn_n ?_
      | refine thn_r ?_
      | refine thn_e ?_
      | refine awc_condT rfl ?_
      | refine awc_condF rfl ?_
      | (refine awc_cond rfl ?_ ?_ <;> intro hb)
      | refine awc_block ?_
      | refine blk_n ?_
      | refine blk_r ?_
      | refine blk_e ?_
      | refine blk_o rfl ?_
      | refine awc_ret ?_
      | refine awc_skip ?_
      | refine awc_label ?_
      | refine awc_exit ?_
      | refine retq_r ?_
      | refine retq_n ?_
      | exact ResIs.tv rfl
      | exact ResIs.ts rfl
      | exact ResIs.tc rfl
      | exact ResIs.tn rfl rfl
      | exact ResIs.to rfl rfl
      | apply ResIs.tagg rfl
      | exact ResIs.cv rfl trivial
      | exact ResIs.cs rfl trivial
      | exact ResIs.cn rfl trivial rfl
      | exact ResIs.co rfl trivial rfl
      | apply ResIs.cagg rfl trivial
      | exact CoeL.nil
      | apply CoeL.v
      | apply CoeL.sl
      | apply CoeL.clp
      | apply CoeL.emp rfl
      | apply CoeL.own rfl
      | apply ret_one
      | apply ret_two
      | apply ret_three
      | exact rawq_r rfl
      | apply rawq_rc rfl
      | apply ownq_rv rfl rfl)
  refine awc_mid (α := Unit) (fun _ => ⟨34, [(2, o1 (.ptr 2 0)), (5, o1 (vI (szI rs)))], [(2, .box [.sl tB ss, .sl tW ps, vI left, vB st])]⟩) (fun _ => True) ?_ ?_
  · refine awc_loop (α := Nat) (fun i => ⟨34, [(1, aBB rs), (2, o1 (.ptr 2 0)), (5, o1 (vI (szI (rs.take i)))), (8, aBB rs), (9, o1 (vI rs.length)), (10, o1 (vI i))], [(2, .box [.sl tB ss, .sl tW ps, vI left, vB st])]⟩) (fun i => i ≤ rs.length) (fun i => rs.length - i) 0 (Wk.ren [] rfl ⟨rfl, rfl, rfl, rfl, rfl, rfl, trivial⟩ ⟨rfl, trivial⟩ rfl) (Nat.zero_le _) ?_
    rintro i hi
    by_cases hil : i < rs.length
    · have hg : List.length (rs.getD i tB.dflt) ≤ 1152921504606846976 := by
        have := hbd.2 (rs.getD i tB.dflt) (getD_mem tB.dflt hil)
        have h2 : List.length (rs.getD i tB.dflt) * 1 ≤ 140737488355328 := this.1
        omega
      have hst := szI_step hil hg
      repeat' (first
          | exact True.intro
          | exact rfl
          | refine And.intro rfl ?_
          | refine awc_seq ?_
          | refine awc_region ?_
          | refine awc_draw ?_
          | refine awt_a rfl rfl rfl ?_ ?_
          | refine awt_b rfl rfl rfl rfl ?_ ?_
          | refine awt_c rfl rfl rfl ?_ ?_
          | refine awt_gt rfl rfl ?_
          | refine awt_gf rfl rfl rfl ?_
          | refine awt_gu rfl rfl rfl ?_
          | (refine awt_h rfl rfl rfl ?_ ?_ <;> intro hb)
          | refine awt_nil ?_
          | refine dq (by kernel_rfl) ?_
          | refine thn_n ?_
          | refine thn_r ?_
          | refine thn_e ?_
          | refine awc_condT rfl ?_
          | refine awc_condF rfl ?_
          | (refine awc_cond rfl ?_ ?_ <;> intro hb)
          | refine awc_block ?_
          | refine blk_n ?_
          | refine blk_r ?_
          | refine blk_e ?_
          | refine blk_o rfl ?_
          | refine awc_ret ?_
          | refine awc_skip ?_
          | refine awc_label ?_
          | refine awc_exit ?_
          | refine retq_r ?_
          | refine retq_n ?_
          | exact ResIs.tv rfl
          | exact ResIs.ts rfl
          | exact ResIs.tc rfl
          | exact ResIs.tn rfl rfl
          | exact ResIs.to rfl rfl
          | apply ResIs.tagg rfl
          | exact ResIs.cv rfl trivial
          | exact ResIs.cs rfl trivial
          | exact ResIs.cn rfl trivial rfl
          | exact ResIs.co rfl trivial rfl
          | apply ResIs.cagg rfl trivial
          | exact CoeL.nil
          | apply CoeL.v
          | apply CoeL.sl
          | apply CoeL.clp
          | apply CoeL.emp rfl
          | apply CoeL.own rfl
          | apply ret_one
          | apply ret_two
          | apply ret_three
          | exact rawq_r rfl
          | apply rawq_rc rfl
          | apply ownq_rv rfl rfl)
      all_goals (try (exfalso; simp only [decide_eq_false_iff_not] at hb; omega))
      · exact ⟨by omega, by omega⟩
      · refine ⟨i + 1, Wk.ren [] rfl ⟨rfl, rfl, eqVI ?_, rfl, rfl, eqVI (by rw [i64w (by omega) (by omega)]; rfl), trivial⟩ ⟨rfl, trivial⟩ rfl, by omega, by omega⟩
        rw [Int.toNat_natCast]
        exact hst
    · skip
      repeat' (first
          | exact True.intro
          | exact rfl
          | refine And.intro rfl ?_
          | refine awc_seq ?_
          | refine awc_region ?_
          | refine awc_draw ?_
          | refine awt_a rfl rfl rfl ?_ ?_
          | refine awt_b rfl rfl rfl rfl ?_ ?_
          | refine awt_c rfl rfl rfl ?_ ?_
          | refine awt_gt rfl rfl ?_
          | refine awt_gf rfl rfl rfl ?_
          | refine awt_gu rfl rfl rfl ?_
          | (refine awt_h rfl rfl rfl ?_ ?_ <;> intro hb)
          | refine awt_nil ?_
          | refine dq (by kernel_rfl) ?_
          | refine thn_n ?_
          | refine thn_r ?_
          | refine thn_e ?_
          | refine awc_condT rfl ?_
          | refine awc_condF rfl ?_
          | (refine awc_cond rfl ?_ ?_ <;> intro hb)
          | refine awc_block ?_
          | refine blk_n ?_
          | refine blk_r ?_
          | refine blk_e ?_
          | refine blk_o rfl ?_
          | refine awc_ret ?_
          | refine awc_skip ?_
          | refine awc_label ?_
          | refine awc_exit ?_
          | refine retq_r ?_
          | refine retq_n ?_
          | exact ResIs.tv rfl
          | exact ResIs.ts rfl
          | exact ResIs.tc rfl
          | exact ResIs.tn rfl rfl
          | exact ResIs.to rfl rfl
          | apply ResIs.tagg rfl
          | exact ResIs.cv rfl trivial
          | exact ResIs.cs rfl trivial
          | exact ResIs.cn rfl trivial rfl
          | exact ResIs.co rfl trivial rfl
          | apply ResIs.cagg rfl trivial
          | exact CoeL.nil
          | apply CoeL.v
          | apply CoeL.sl
          | apply CoeL.clp
          | apply CoeL.emp rfl
          | apply CoeL.own rfl
          | apply ret_one
          | apply ret_two
          | apply ret_three
          | exact rawq_r rfl
          | apply rawq_rc rfl
          | apply ownq_rv rfl rfl)
      all_goals (try (exfalso; simp only [decide_eq_true_eq] at *; omega))
      refine ⟨(), Wk.ren [] rfl ⟨rfl, eqVI ?_, trivial⟩ ⟨rfl, trivial⟩ rfl, trivial⟩
      rw [List.take_of_length_le (by omega)]
  intro _ _
  repeat' (first
      | exact True.intro
      | exact rfl
      | refine And.intro rfl ?_
      | refine awc_seq ?_
      | refine awc_region ?_
      | refine awc_draw ?_
      | refine awt_a rfl rfl rfl ?_ ?_
      | refine awt_b rfl rfl rfl rfl ?_ ?_
      | refine awt_c rfl rfl rfl ?_ ?_
      | refine awt_gt rfl rfl ?_
      | refine awt_gf rfl rfl rfl ?_
      | refine awt_gu rfl rfl rfl ?_
      | (refine awt_h rfl rfl rfl ?_ ?_ <;> intro hb)
      | refine awt_nil ?_
      | refine dq (by kernel_rfl) ?_
      | refine thn_n ?_
      | refine thn_r ?_
      | refine thn_e ?_
      | refine awc_condT rfl ?_
      | refine awc_condF rfl ?_
      | (refine awc_cond rfl ?_ ?_ <;> intro hb)
      | refine awc_block ?_
      | refine blk_n ?_
      | refine blk_r ?_
      | refine blk_e ?_
      | refine blk_o rfl ?_
      | refine awc_ret ?_
      | refine awc_skip ?_
      | refine awc_label ?_
      | refine awc_exit ?_
      | refine retq_r ?_
      | refine retq_n ?_
      | exact ResIs.tv rfl
      | exact ResIs.ts rfl
      | exact ResIs.tc rfl
      | exact ResIs.tn rfl rfl
      | exact ResIs.to rfl rfl
      | apply ResIs.tagg rfl
      | exact ResIs.cv rfl trivial
      | exact ResIs.cs rfl trivial
      | exact ResIs.cn rfl trivial rfl
      | exact ResIs.co rfl trivial rfl
      | apply ResIs.cagg rfl trivial
      | exact CoeL.nil
      | apply CoeL.v
      | apply CoeL.sl
      | apply CoeL.clp
      | apply CoeL.emp rfl
      | apply CoeL.own rfl
      | apply ret_one
      | apply ret_two
      | apply ret_three
      | exact rawq_r rfl
      | apply rawq_rc rfl
      | apply ownq_rv rfl rfl)
  all_goals (refine eqVB ?_; simp_all; try omega)
end B
end Go.Proofs.Ytbmnhagbplkagaa
