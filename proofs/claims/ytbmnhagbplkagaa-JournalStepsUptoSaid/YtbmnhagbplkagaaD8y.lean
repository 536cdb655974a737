import Derived.Test.YtbmnhagbplkagaaD8a
import Derived.Test.YtbmnhagbplkagaaD8b
/- Contracts of the reference of the journal: a sector's form. -/
namespace Go.Proofs.Ytbmnhagbplkagaa
namespace B
open Go.RowKit
set_option maxHeartbeats 4000000
set_option maxRecDepth 100000
attribute [local irreducible] awc awT thn blk DQ retQ rawQ ownQ retOk ResIs

theorem cut_le {s : List UInt8} {a b : Nat} : ((s.take b).drop a).length ≤ b - a := by
  rw [List.length_drop, List.length_take]; omega
theorem rest_step {s : List UInt8} {i : Nat} (hs : s.length = 128) (hi : i < 124) : ((s.take 124).drop i = List.replicate (124 - i) 0) ↔ (s.getD i (Ty.dflt .u8) = 0 ∧ (s.take 124).drop (i + 1) = List.replicate (124 - (i + 1)) 0) := by
  rw [drop_step (Ty.dflt .u8) (show i < (s.take 124).length by rw [List.length_take]; omega), show 124 - i = (124 - (i + 1)) + 1 by omega, List.replicate_succ, List.cons.injEq]
  have : (s.take 124).getD i (Ty.dflt .u8) = s.getD i (Ty.dflt .u8) := by
    rw [List.getD_eq_getElem?_getD, List.getD_eq_getElem?_getD, List.getElem?_take, if_pos hi]
  rw [this]
theorem c92_8 (s : List UInt8) (k : Nat) (hs : s.length = 128) (hk : k < 65536) (p0 : num (s.take (Int.toNat 4)) ≠ 0) (p1 : num (s.take (Int.toNat 4)) = num (s.drop (Int.toNat 124))) (p2 : num ((s.take (Int.toNat 8)).drop (Int.toNat 4)) = crc ((s.take (Int.toNat 124)).drop (Int.toNat 8))) (p3 : num ((s.take (Int.toNat 10)).drop (Int.toNat 8)) = k) (p4 : (s.getD (Int.toNat 10) (Ty.dflt .u8)).toNat ≤ 3) (p5 : (s.getD (Int.toNat 11) (Ty.dflt .u8)).toNat ≤ 112) (p6 : ((s.getD (Int.toNat 10) (Ty.dflt .u8)).toNat < 2 → (s.getD (Int.toNat 11) (Ty.dflt .u8)).toNat = 112)) (p7 : ((s.getD (Int.toNat 10) (Ty.dflt .u8)).toNat % 2 = 0 → (s.getD (Int.toNat 11) (Ty.dflt .u8)).toNat ≠ 0)) : ACalls 92 [aB s, o1 (vI k)] (o1 (vB (decide (restS s = List.replicate (112 - lnS s) 0)))) := by
  refine acalls (n := 84) (rs := [.tmp 4]) (Ts := [4]) Try.func92 rfl rfl rfl rfl rfl rfl ?_
  have h1 := c87 (s.take (Int.toNat 4)) (by rw [List.length_take]; exact Nat.le_trans (Nat.min_le_left _ _) (by decide))
  have h2 := c87 (s.drop (Int.toNat 124)) (by rw [List.length_drop, hs]; decide)
  have h3 := c87 ((s.take (Int.toNat 8)).drop (Int.toNat 4)) (Nat.le_trans cut_le (by decide))
  have h4 := c87 ((s.take (Int.toNat 10)).drop (Int.toNat 8)) (Nat.le_trans cut_le (by decide))
  have hd := (s.getD (Int.toNat 11) (Ty.dflt .u8)).toNat_lt
  have hc := (s.getD (Int.toNat 10) (Ty.dflt .u8)).toNat_lt
  have w1 : IntKind.i64.wrap ((s.getD (Int.toNat 11) (Ty.dflt .u8)).toNat : Int) = ((s.getD (Int.toNat 11) (Ty.dflt .u8)).toNat : Int) := i64w (by omega) (by omega)
  have n48 : num ((s.take (Int.toNat 8)).drop (Int.toNat 4)) < 4294967296 := by
    have e1 := num_lt ((s.take (Int.toNat 8)).drop (Int.toNat 4))
    have e2 : 256 ^ ((s.take (Int.toNat 8)).drop (Int.toNat 4)).length ≤ 256 ^ 4 := Nat.pow_le_pow_right (by omega) cut_le
    omega
  have w2 : IntKind.u32.wrap (num ((s.take (Int.toNat 8)).drop (Int.toNat 4)) : Int) = (num ((s.take (Int.toNat 8)).drop (Int.toNat 4)) : Int) := u32w (by omega) (by omega)
  have w3 : IntKind.u64.wrap (k : Int) = k := u64w (by omega) (by omega)
  have w4 : Int.tmod ((s.getD (Int.toNat 10) (Ty.dflt .u8)).toNat : Int) 2 = ((s.getD (Int.toNat 10) (Ty.dflt .u8)).toNat : Int) % 2 := Int.tmod_eq_emod_of_nonneg (by omega)
  have hln : lnS s = (s.getD (Int.toNat 11) (Ty.dflt .u8)).toNat := rfl
  repeat' (first
      | ((exfalso; simp only [cutL, w1, w2, w3, w4, decide_eq_true_eq, decide_eq_false_iff_not, Bool.not_true, Bool.not_false, beq_iff_eq, beq_eq_false_iff_ne, bne_iff_ne, bne_eq_false_iff_eq, ne_eq] at hb; omega))
      | exact True.intro
      | exact rfl
      | refine And.intro rfl ?_
      | refine awc_seq ?_
      | refine awc_region ?_
      | refine awc_draw ?_
      | refine awt_a rfl rfl rfl ?_ ?_
      | refine awt_call0 rfl (h1) rfl rfl rfl rfl rfl ?_
      | refine awt_call1 rfl (h1) rfl rfl rfl rfl rfl ?_
      | refine awt_call2 rfl (h1) rfl rfl rfl rfl rfl ?_
      | refine awt_call0 rfl (h2) rfl rfl rfl rfl rfl ?_
      | refine awt_call1 rfl (h2) rfl rfl rfl rfl rfl ?_
      | refine awt_call2 rfl (h2) rfl rfl rfl rfl rfl ?_
      | refine awt_call0 rfl (h3) rfl rfl rfl rfl rfl ?_
      | refine awt_call1 rfl (h3) rfl rfl rfl rfl rfl ?_
      | refine awt_call2 rfl (h3) rfl rfl rfl rfl rfl ?_
      | refine awt_call0 rfl (h4) rfl rfl rfl rfl rfl ?_
      | refine awt_call1 rfl (h4) rfl rfl rfl rfl rfl ?_
      | refine awt_call2 rfl (h4) rfl rfl rfl rfl rfl ?_
      | refine awt_call0 rfl (c89 _) rfl rfl rfl rfl rfl ?_
      | refine awt_call1 rfl (c89 _) rfl rfl rfl rfl rfl ?_
      | refine awt_call2 rfl (c89 _) rfl rfl rfl rfl rfl ?_
      | refine awt_b rfl rfl rfl rfl ?_ ?_
      | refine awt_c rfl rfl rfl ?_ ?_
      | refine awt_gt rfl rfl ?_
      | refine awt_gf rfl rfl rfl ?_
      | refine awt_gu rfl rfl rfl ?_
      | (refine awt_h rfl rfl rfl ?_ ?_ <;> intro hb)
      | refine awt_nil ?_
      | refine dq (by kernel_rfl) ?_
      | refine thn_n ?_
      | refine thn_r ?_
      | refine thn_e ?_
      | refine awc_condT rfl ?_
      | refine awc_condF rfl ?_
      | (refine awc_cond rfl ?_ ?_ <;> intro hb)
      | refine awc_block ?_
      | refine blk_n ?_
      | refine blk_r ?_
      | refine blk_e ?_
      | refine blk_o rfl ?_
      | refine awc_ret ?_
      | refine awc_skip ?_
      | refine awc_label ?_
      | refine awc_exit ?_
      | refine retq_r ?_
      | refine retq_n ?_
      | exact ResIs.tv rfl
      | exact ResIs.ts rfl
      | exact ResIs.tc rfl
      | exact ResIs.tn rfl rfl
      | exact ResIs.to rfl rfl
      | apply ResIs.tagg rfl
      | exact ResIs.cv rfl trivial
      | exact ResIs.cs rfl trivial
      | exact ResIs.cn rfl trivial rfl
      | exact ResIs.co rfl trivial rfl
      | apply ResIs.cagg rfl trivial
      | exact CoeL.nil
      | apply CoeL.v
      | apply CoeL.sl
      | apply CoeL.clp
      | apply CoeL.emp rfl
      | apply CoeL.own rfl
      | apply ret_one
      | apply ret_two
      | apply ret_three
      | exact rawq_r rfl
      | apply rawq_rc rfl
      | apply ownq_rv rfl rfl)
  all_goals (try (rw [hs]; decide; done))
  all_goals (try (rw [hs]; simp only [cutOk]; decide; done))
  all_goals (try (decide; done))
  all_goals (try (refine eqVB ?_; exfalso; rename_i h0; simp only [w1, w4, decide_eq_true_eq, Bool.not_false, beq_iff_eq, bne_iff_ne, ne_eq] at h0 hb; omega))
  all_goals (
    refine awc_loop (α := Nat) (fun i => ⟨84, [(0, aB s), (6, o1 (vI i))], []⟩) (fun i => i ≤ 124 ∧ (restS s = List.replicate (112 - lnS s) 0 ↔ (s.take 124).drop i = List.replicate (124 - i) 0)) (fun i => 124 - i) (12 + lnS s) (Wk.ren [] rfl ⟨rfl, eqVI ?_, trivial⟩ trivial rfl) ⟨by rw [hln]; omega, ?_⟩ ?_
    · rw [w1, i64w (by omega) (by omega), hln]; omega
    · unfold restS
      rw [show 124 - (12 + lnS s) = 112 - lnS s by omega]
    rintro i ⟨hi, hpre⟩
    by_cases hil : i < 124
    · have hst := rest_step hs hil
      have hix : (0 : Int) ≤ i ∧ (i : Int) < s.length := by rw [hs]; exact ⟨by omega, by omega⟩
      repeat' (first
          | exact True.intro
          | exact rfl
          | refine And.intro rfl ?_
          | refine awc_seq ?_
          | refine awc_region ?_
          | refine awc_draw ?_
          | refine awt_a rfl rfl rfl ?_ ?_
          | refine awt_b rfl rfl rfl rfl ?_ ?_
          | refine awt_c rfl rfl rfl ?_ ?_
          | refine awt_gt rfl rfl ?_
          | refine awt_gf rfl rfl rfl ?_
          | refine awt_gu rfl rfl rfl ?_
          | (refine awt_h rfl rfl rfl ?_ ?_ <;> intro hb)
          | refine awt_nil ?_
          | refine dq (by kernel_rfl) ?_
          | refine thn_n ?_
          | refine thn_r ?_
          | refine thn_e ?_
          | refine awc_condT rfl ?_
          | refine awc_condF rfl ?_
          | (refine awc_cond rfl ?_ ?_ <;> intro hb)
          | refine awc_block ?_
          | refine blk_n ?_
          | refine blk_r ?_
          | refine blk_e ?_
          | refine blk_o rfl ?_
          | refine awc_ret ?_
          | refine awc_skip ?_
          | refine awc_label ?_
          | refine awc_exit ?_
          | refine retq_r ?_
          | refine retq_n ?_
          | exact ResIs.tv rfl
          | exact ResIs.ts rfl
          | exact ResIs.tc rfl
          | exact ResIs.tn rfl rfl
          | exact ResIs.to rfl rfl
          | apply ResIs.tagg rfl
          | exact ResIs.cv rfl trivial
          | exact ResIs.cs rfl trivial
          | exact ResIs.cn rfl trivial rfl
          | exact ResIs.co rfl trivial rfl
          | apply ResIs.cagg rfl trivial
          | exact CoeL.nil
          | apply CoeL.v
          | apply CoeL.sl
          | apply CoeL.clp
          | apply CoeL.emp rfl
          | apply CoeL.own rfl
          | apply ret_one
          | apply ret_two
          | apply ret_three
          | exact rawq_r rfl
          | apply rawq_rc rfl
          | apply ownq_rv rfl rfl)
      all_goals (try (exfalso; simp only [decide_eq_false_iff_not] at hb; omega))
      · exact hix
      · refine eqVB ?_
        rw [Int.toNat_natCast, bne_iff_ne] at hb
        refine (decide_eq_false fun h => hb ?_).symm
        rw [(hst.1 (hpre.1 h)).1]; rfl
      · rw [Int.toNat_natCast] at hb
        have h0 : s.getD i (Ty.dflt .u8) = 0 := by
          have : ((s.getD i (Ty.dflt .u8)).toNat : Int) = 0 := by simpa using hb
          exact UInt8.toNat_inj.1 (by show _ = 0; omega)
        refine ⟨i + 1, Wk.ren [] rfl ⟨rfl, eqVI (by rw [i64w (by omega) (by omega)]; rfl), trivial⟩ trivial rfl, ⟨by omega, ?_⟩, by omega⟩
        rw [hpre, hst]
        exact ⟨fun h => h.2, fun h => ⟨h0, h⟩⟩
    · skip
      repeat' (first
          | exact True.intro
          | exact rfl
          | refine And.intro rfl ?_
          | refine awc_seq ?_
          | refine awc_region ?_
          | refine awc_draw ?_
          | refine awt_a rfl rfl rfl ?_ ?_
          | refine awt_b rfl rfl rfl rfl ?_ ?_
          | refine awt_c rfl rfl rfl ?_ ?_
          | refine awt_gt rfl rfl ?_
          | refine awt_gf rfl rfl rfl ?_
          | refine awt_gu rfl rfl rfl ?_
          | (refine awt_h rfl rfl rfl ?_ ?_ <;> intro hb)
          | refine awt_nil ?_
          | refine dq (by kernel_rfl) ?_
          | refine thn_n ?_
          | refine thn_r ?_
          | refine thn_e ?_
          | refine awc_condT rfl ?_
          | refine awc_condF rfl ?_
          | (refine awc_cond rfl ?_ ?_ <;> intro hb)
          | refine awc_block ?_
          | refine blk_n ?_
          | refine blk_r ?_
          | refine blk_e ?_
          | refine blk_o rfl ?_
          | refine awc_ret ?_
          | refine awc_skip ?_
          | refine awc_label ?_
          | refine awc_exit ?_
          | refine retq_r ?_
          | refine retq_n ?_
          | exact ResIs.tv rfl
          | exact ResIs.ts rfl
          | exact ResIs.tc rfl
          | exact ResIs.tn rfl rfl
          | exact ResIs.to rfl rfl
          | apply ResIs.tagg rfl
          | exact ResIs.cv rfl trivial
          | exact ResIs.cs rfl trivial
          | exact ResIs.cn rfl trivial rfl
          | exact ResIs.co rfl trivial rfl
          | apply ResIs.cagg rfl trivial
          | exact CoeL.nil
          | apply CoeL.v
          | apply CoeL.sl
          | apply CoeL.clp
          | apply CoeL.emp rfl
          | apply CoeL.own rfl
          | apply ret_one
          | apply ret_two
          | apply ret_three
          | exact rawq_r rfl
          | apply rawq_rc rfl
          | apply ownq_rv rfl rfl)
      all_goals (try (exfalso; simp only [decide_eq_true_eq] at *; omega))
      refine eqVB ?_
      have e1 : (s.take 124).drop i = [] := List.drop_eq_nil_of_le (by rw [List.length_take]; omega)
      have e2 : List.replicate (124 - i) (0 : UInt8) = [] := by rw [show 124 - i = 0 by omega]; rfl
      rw [e1, e2] at hpre
      exact (decide_eq_true (hpre.2 rfl)).symm
  )
/-- The reference's view of a sector's form is the journal's. -/
theorem c92 (s : List UInt8) (k : Nat) (hs : s.length = 128) (hk : k < 65536) : ACalls 92 [aB s, o1 (vI k)] (o1 (vB (goodS s k))) := by
  have hg := good_iff hs hk
  unfold goodR at hg
  have no : ∀ {P : Prop}, (goodS s k = true → P) → ¬ P → goodS s k = false := fun h q => by
    cases hq : goodS s k with
    | false => rfl
    | true => exact absurd (h hq) q
  by_cases q0 : ¬ (num (s.take 4) ≠ 0)
  · have p0 := q0
    rw [no (fun h => (hg.1 h).1) p0]; exact c92_0 s k hs hk p0
  have p0 := Classical.not_not.1 q0
  by_cases q1 : ¬ (num (s.take 4) = num (s.drop 124))
  · have p1 := q1
    rw [no (fun h => (hg.1 h).2.1) p1]; exact c92_1 s k hs hk p0 p1
  have p1 := Classical.not_not.1 q1
  by_cases q2 : ¬ (num ((s.take 8).drop 4) = crc (midS s))
  · have p2 := q2
    rw [no (fun h => (hg.1 h).2.2.1) p2]; exact c92_2 s k hs hk p0 p1 p2
  have p2 := Classical.not_not.1 q2
  by_cases q3 : ¬ (num ((s.take 10).drop 8) = k)
  · have p3 := q3
    rw [no (fun h => (hg.1 h).2.2.2.1) p3]; exact c92_3 s k hs hk p0 p1 p2 p3
  have p3 := Classical.not_not.1 q3
  by_cases q4 : ¬ ((kdS s).toNat ≤ 3)
  · have p4 := q4
    rw [no (fun h => (hg.1 h).2.2.2.2.1) p4]; exact c92_4 s k hs hk p0 p1 p2 p3 p4
  have p4 := Classical.not_not.1 q4
  by_cases q5 : ¬ (lnS s ≤ 112)
  · have p5 := q5
    rw [no (fun h => (hg.1 h).2.2.2.2.2.1) p5]; exact c92_5 s k hs hk p0 p1 p2 p3 p4 p5
  have p5 := Classical.not_not.1 q5
  by_cases q6 : ¬ (((kdS s).toNat < 2 → lnS s = 112))
  · have p6 := q6
    rw [no (fun h => (hg.1 h).2.2.2.2.2.2.1) p6]; exact c92_6 s k hs hk p0 p1 p2 p3 p4 p5 p6
  have p6 := Classical.not_not.1 q6
  by_cases q7 : ¬ (((kdS s).toNat % 2 = 0 → lnS s ≠ 0))
  · have p7 := q7
    rw [no (fun h => (hg.1 h).2.2.2.2.2.2.2.1) p7]; exact c92_7 s k hs hk p0 p1 p2 p3 p4 p5 p6 p7
  have p7 := Classical.not_not.1 q7
  have e : goodS s k = decide (restS s = List.replicate (112 - lnS s) 0) := by
    by_cases h : restS s = List.replicate (112 - lnS s) 0
    · rw [decide_eq_true h]; exact hg.2 ⟨p0, p1, p2, p3, p4, p5, p6, p7, h⟩
    · rw [decide_eq_false h]; exact no (fun q => (hg.1 q).2.2.2.2.2.2.2.2) h
  rw [e]
  exact c92_8 s k hs hk p0 p1 p2 p3 p4 p5 p6 p7
end B
end Go.Proofs.Ytbmnhagbplkagaa
