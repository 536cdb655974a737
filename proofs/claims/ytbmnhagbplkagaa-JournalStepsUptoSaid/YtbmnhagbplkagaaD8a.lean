import Derived.Test.YtbmnhagbplkagaaD7
/- Contracts of the reference of the journal: a sector's form. -/
namespace Go.Proofs.Ytbmnhagbplkagaa
namespace B
open Go.RowKit
set_option maxHeartbeats 4000000
set_option maxRecDepth 100000
attribute [local irreducible] awc awT thn blk DQ retQ rawQ ownQ retOk ResIs

theorem cut_lea {s : List UInt8} {a b : Nat} : ((s.take b).drop a).length ≤ b - a := by
  rw [List.length_drop, List.length_take]; omega
theorem c92_0 (s : List UInt8) (k : Nat) (hs : s.length = 128) (hk : k < 65536)  (q : ¬ (num (s.take (Int.toNat 4)) ≠ 0)) : ACalls 92 [aB s, o1 (vI k)] (o1 (vB false)) := by
  refine acalls (n := 84) (rs := [.tmp 4]) (Ts := [4]) Try.func92 rfl rfl rfl rfl rfl rfl ?_
  have h1 := c87 (s.take (Int.toNat 4)) (by rw [List.length_take]; exact Nat.le_trans (Nat.min_le_left _ _) (by decide))
  have h2 := c87 (s.drop (Int.toNat 124)) (by rw [List.length_drop, hs]; decide)
  have h3 := c87 ((s.take (Int.toNat 8)).drop (Int.toNat 4)) (Nat.le_trans cut_lea (by decide))
  have h4 := c87 ((s.take (Int.toNat 10)).drop (Int.toNat 8)) (Nat.le_trans cut_lea (by decide))
  have hd := (s.getD (Int.toNat 11) (Ty.dflt .u8)).toNat_lt
  have hc := (s.getD (Int.toNat 10) (Ty.dflt .u8)).toNat_lt
  have w1 : IntKind.i64.wrap ((s.getD (Int.toNat 11) (Ty.dflt .u8)).toNat : Int) = ((s.getD (Int.toNat 11) (Ty.dflt .u8)).toNat : Int) := i64w (by omega) (by omega)
  have n48 : num ((s.take (Int.toNat 8)).drop (Int.toNat 4)) < 4294967296 := by
    have e1 := num_lt ((s.take (Int.toNat 8)).drop (Int.toNat 4))
    have e2 : 256 ^ ((s.take (Int.toNat 8)).drop (Int.toNat 4)).length ≤ 256 ^ 4 := Nat.pow_le_pow_right (by omega) cut_lea
    omega
  have w2 : IntKind.u32.wrap (num ((s.take (Int.toNat 8)).drop (Int.toNat 4)) : Int) = (num ((s.take (Int.toNat 8)).drop (Int.toNat 4)) : Int) := u32w (by omega) (by omega)
  have w3 : IntKind.u64.wrap (k : Int) = k := u64w (by omega) (by omega)
  have w4 : Int.tmod ((s.getD (Int.toNat 10) (Ty.dflt .u8)).toNat : Int) 2 = ((s.getD (Int.toNat 10) (Ty.dflt .u8)).toNat : Int) % 2 := Int.tmod_eq_emod_of_nonneg (by omega)
  repeat' (first
      | ((exfalso; simp only [Bool.not_false, beq_iff_eq, beq_eq_false_iff_ne, ne_eq] at hb; omega))
      | exact True.intro
      | exact rfl
      | refine And.intro rfl ?_
      | refine awc_seq ?_
      | refine awc_region ?_
      | refine awc_draw ?_
      | refine awt_a rfl rfl rfl ?_ ?_
      | refine awt_call0 rfl (h1) rfl rfl rfl rfl rfl ?_
      | refine awt_call1 rfl (h1) rfl rfl rfl rfl rfl ?_
      | refine awt_call2 rfl (h1) rfl rfl rfl rfl rfl ?_
      | refine awt_call0 rfl (h2) rfl rfl rfl rfl rfl ?_
      | refine awt_call1 rfl (h2) rfl rfl rfl rfl rfl ?_
      | refine awt_call2 rfl (h2) rfl rfl rfl rfl rfl ?_
      | refine awt_call0 rfl (h3) rfl rfl rfl rfl rfl ?_
      | refine awt_call1 rfl (h3) rfl rfl rfl rfl rfl ?_
      | refine awt_call2 rfl (h3) rfl rfl rfl rfl rfl ?_
      | refine awt_call0 rfl (h4) rfl rfl rfl rfl rfl ?_
      | refine awt_call1 rfl (h4) rfl rfl rfl rfl rfl ?_
      | refine awt_call2 rfl (h4) rfl rfl rfl rfl rfl ?_
      | refine awt_call0 rfl (c89 _) rfl rfl rfl rfl rfl ?_
      | refine awt_call1 rfl (c89 _) rfl rfl rfl rfl rfl ?_
      | refine awt_call2 rfl (c89 _) rfl rfl rfl rfl rfl ?_
      | refine awt_b rfl rfl rfl rfl ?_ ?_
      | refine awt_c rfl rfl rfl ?_ ?_
      | refine awt_gt rfl rfl ?_
      | refine awt_gf rfl rfl rfl ?_
      | refine awt_gu rfl rfl rfl ?_
      | (refine awt_h rfl rfl rfl ?_ ?_ <;> intro hb)
      | refine awt_nil ?_
      | refine dq (by kernel_rfl) ?_
      | refine thn_n ?_
      | refine thn_r ?_
      | refine thn_e ?_
      | refine awc_condT rfl ?_
      | refine awc_condF rfl ?_
      | (refine awc_cond rfl ?_ ?_ <;> intro hb)
      | refine awc_block ?_
      | refine blk_n ?_
      | refine blk_r ?_
      | refine blk_e ?_
      | refine blk_o rfl ?_
      | refine awc_ret ?_
      | refine awc_skip ?_
      | refine awc_label ?_
      | refine awc_exit ?_
      | refine retq_r ?_
      | refine retq_n ?_
      | exact ResIs.tv rfl
      | exact ResIs.ts rfl
      | exact ResIs.tc rfl
      | exact ResIs.tn rfl rfl
      | exact ResIs.to rfl rfl
      | apply ResIs.tagg rfl
      | exact ResIs.cv rfl trivial
      | exact ResIs.cs rfl trivial
      | exact ResIs.cn rfl trivial rfl
      | exact ResIs.co rfl trivial rfl
      | apply ResIs.cagg rfl trivial
      | exact CoeL.nil
      | apply CoeL.v
      | apply CoeL.sl
      | apply CoeL.clp
      | apply CoeL.emp rfl
      | apply CoeL.own rfl
      | apply ret_one
      | apply ret_two
      | apply ret_three
      | exact rawq_r rfl
      | apply rawq_rc rfl
      | apply ownq_rv rfl rfl)
  all_goals (try (rw [hs]; decide; done))
  all_goals (try (rw [hs]; simp only [cutOk]; decide; done))
  all_goals (try (decide; done))
theorem c92_1 (s : List UInt8) (k : Nat) (hs : s.length = 128) (hk : k < 65536) (p0 : num (s.take (Int.toNat 4)) ≠ 0) (q : ¬ (num (s.take (Int.toNat 4)) = num (s.drop (Int.toNat 124)))) : ACalls 92 [aB s, o1 (vI k)] (o1 (vB false)) := by
  refine acalls (n := 84) (rs := [.tmp 4]) (Ts := [4]) Try.func92 rfl rfl rfl rfl rfl rfl ?_
  have h1 := c87 (s.take (Int.toNat 4)) (by rw [List.length_take]; exact Nat.le_trans (Nat.min_le_left _ _) (by decide))
  have h2 := c87 (s.drop (Int.toNat 124)) (by rw [List.length_drop, hs]; decide)
  have h3 := c87 ((s.take (Int.toNat 8)).drop (Int.toNat 4)) (Nat.le_trans cut_lea (by decide))
  have h4 := c87 ((s.take (Int.toNat 10)).drop (Int.toNat 8)) (Nat.le_trans cut_lea (by decide))
  have hd := (s.getD (Int.toNat 11) (Ty.dflt .u8)).toNat_lt
  have hc := (s.getD (Int.toNat 10) (Ty.dflt .u8)).toNat_lt
  have w1 : IntKind.i64.wrap ((s.getD (Int.toNat 11) (Ty.dflt .u8)).toNat : Int) = ((s.getD (Int.toNat 11) (Ty.dflt .u8)).toNat : Int) := i64w (by omega) (by omega)
  have n48 : num ((s.take (Int.toNat 8)).drop (Int.toNat 4)) < 4294967296 := by
    have e1 := num_lt ((s.take (Int.toNat 8)).drop (Int.toNat 4))
    have e2 : 256 ^ ((s.take (Int.toNat 8)).drop (Int.toNat 4)).length ≤ 256 ^ 4 := Nat.pow_le_pow_right (by omega) cut_lea
    omega
  have w2 : IntKind.u32.wrap (num ((s.take (Int.toNat 8)).drop (Int.toNat 4)) : Int) = (num ((s.take (Int.toNat 8)).drop (Int.toNat 4)) : Int) := u32w (by omega) (by omega)
  have w3 : IntKind.u64.wrap (k : Int) = k := u64w (by omega) (by omega)
  have w4 : Int.tmod ((s.getD (Int.toNat 10) (Ty.dflt .u8)).toNat : Int) 2 = ((s.getD (Int.toNat 10) (Ty.dflt .u8)).toNat : Int) % 2 := Int.tmod_eq_emod_of_nonneg (by omega)
  repeat' (first
      | ((exfalso; simp only [Bool.not_false, beq_iff_eq, beq_eq_false_iff_ne, bne_iff_ne, bne_eq_false_iff_eq, ne_eq] at hb; omega))
      | exact True.intro
      | exact rfl
      | refine And.intro rfl ?_
      | refine awc_seq ?_
      | refine awc_region ?_
      | refine awc_draw ?_
      | refine awt_a rfl rfl rfl ?_ ?_
      | refine awt_call0 rfl (h1) rfl rfl rfl rfl rfl ?_
      | refine awt_call1 rfl (h1) rfl rfl rfl rfl rfl ?_
      | refine awt_call2 rfl (h1) rfl rfl rfl rfl rfl ?_
      | refine awt_call0 rfl (h2) rfl rfl rfl rfl rfl ?_
      | refine awt_call1 rfl (h2) rfl rfl rfl rfl rfl ?_
      | refine awt_call2 rfl (h2) rfl rfl rfl rfl rfl ?_
      | refine awt_call0 rfl (h3) rfl rfl rfl rfl rfl ?_
      | refine awt_call1 rfl (h3) rfl rfl rfl rfl rfl ?_
      | refine awt_call2 rfl (h3) rfl rfl rfl rfl rfl ?_
      | refine awt_call0 rfl (h4) rfl rfl rfl rfl rfl ?_
      | refine awt_call1 rfl (h4) rfl rfl rfl rfl rfl ?_
      | refine awt_call2 rfl (h4) rfl rfl rfl rfl rfl ?_
      | refine awt_call0 rfl (c89 _) rfl rfl rfl rfl rfl ?_
      | refine awt_call1 rfl (c89 _) rfl rfl rfl rfl rfl ?_
      | refine awt_call2 rfl (c89 _) rfl rfl rfl rfl rfl ?_
      | refine awt_b rfl rfl rfl rfl ?_ ?_
      | refine awt_c rfl rfl rfl ?_ ?_
      | refine awt_gt rfl rfl ?_
      | refine awt_gf rfl rfl rfl ?_
      | refine awt_gu rfl rfl rfl ?_
      | (refine awt_h rfl rfl rfl ?_ ?_ <;> intro hb)
      | refine awt_nil ?_
      | refine dq (by kernel_rfl) ?_
      | refine thn_n ?_
      | refine thn_r ?_
      | refine thn_e ?_
      | refine awc_condT rfl ?_
      | refine awc_condF rfl ?_
      | (refine awc_cond rfl ?_ ?_ <;> intro hb)
      | refine awc_block ?_
      | refine blk_n ?_
      | refine blk_r ?_
      | refine blk_e ?_
      | refine blk_o rfl ?_
      | refine awc_ret ?_
      | refine awc_skip ?_
      | refine awc_label ?_
      | refine awc_exit ?_
      | refine retq_r ?_
      | refine retq_n ?_
      | exact ResIs.tv rfl
      | exact ResIs.ts rfl
      | exact ResIs.tc rfl
      | exact ResIs.tn rfl rfl
      | exact ResIs.to rfl rfl
      | apply ResIs.tagg rfl
      | exact ResIs.cv rfl trivial
      | exact ResIs.cs rfl trivial
      | exact ResIs.cn rfl trivial rfl
      | exact ResIs.co rfl trivial rfl
      | apply ResIs.cagg rfl trivial
      | exact CoeL.nil
      | apply CoeL.v
      | apply CoeL.sl
      | apply CoeL.clp
      | apply CoeL.emp rfl
      | apply CoeL.own rfl
      | apply ret_one
      | apply ret_two
      | apply ret_three
      | exact rawq_r rfl
      | apply rawq_rc rfl
      | apply ownq_rv rfl rfl)
  all_goals (try (rw [hs]; decide; done))
  all_goals (try (rw [hs]; simp only [cutOk]; decide; done))
  all_goals (try (decide; done))
theorem c92_2 (s : List UInt8) (k : Nat) (hs : s.length = 128) (hk : k < 65536) (p0 : num (s.take (Int.toNat 4)) ≠ 0) (p1 : num (s.take (Int.toNat 4)) = num (s.drop (Int.toNat 124))) (q : ¬ (num ((s.take (Int.toNat 8)).drop (Int.toNat 4)) = crc ((s.take (Int.toNat 124)).drop (Int.toNat 8)))) : ACalls 92 [aB s, o1 (vI k)] (o1 (vB false)) := by
  refine acalls (n := 84) (rs := [.tmp 4]) (Ts := [4]) Try.func92 rfl rfl rfl rfl rfl rfl ?_
  have h1 := c87 (s.take (Int.toNat 4)) (by rw [List.length_take]; exact Nat.le_trans (Nat.min_le_left _ _) (by decide))
  have h2 := c87 (s.drop (Int.toNat 124)) (by rw [List.length_drop, hs]; decide)
  have h3 := c87 ((s.take (Int.toNat 8)).drop (Int.toNat 4)) (Nat.le_trans cut_lea (by decide))
  have h4 := c87 ((s.take (Int.toNat 10)).drop (Int.toNat 8)) (Nat.le_trans cut_lea (by decide))
  have hd := (s.getD (Int.toNat 11) (Ty.dflt .u8)).toNat_lt
  have hc := (s.getD (Int.toNat 10) (Ty.dflt .u8)).toNat_lt
  have w1 : IntKind.i64.wrap ((s.getD (Int.toNat 11) (Ty.dflt .u8)).toNat : Int) = ((s.getD (Int.toNat 11) (Ty.dflt .u8)).toNat : Int) := i64w (by omega) (by omega)
  have n48 : num ((s.take (Int.toNat 8)).drop (Int.toNat 4)) < 4294967296 := by
    have e1 := num_lt ((s.take (Int.toNat 8)).drop (Int.toNat 4))
    have e2 : 256 ^ ((s.take (Int.toNat 8)).drop (Int.toNat 4)).length ≤ 256 ^ 4 := Nat.pow_le_pow_right (by omega) cut_lea
    omega
  have w2 : IntKind.u32.wrap (num ((s.take (Int.toNat 8)).drop (Int.toNat 4)) : Int) = (num ((s.take (Int.toNat 8)).drop (Int.toNat 4)) : Int) := u32w (by omega) (by omega)
  have w3 : IntKind.u64.wrap (k : Int) = k := u64w (by omega) (by omega)
  have w4 : Int.tmod ((s.getD (Int.toNat 10) (Ty.dflt .u8)).toNat : Int) 2 = ((s.getD (Int.toNat 10) (Ty.dflt .u8)).toNat : Int) % 2 := Int.tmod_eq_emod_of_nonneg (by omega)
  repeat' (first
      | ((exfalso; simp only [cutL, w2, Bool.not_false, beq_iff_eq, beq_eq_false_iff_ne, bne_iff_ne, bne_eq_false_iff_eq, ne_eq] at hb; omega))
      | exact True.intro
      | exact rfl
      | refine And.intro rfl ?_
      | refine awc_seq ?_
      | refine awc_region ?_
      | refine awc_draw ?_
      | refine awt_a rfl rfl rfl ?_ ?_
      | refine awt_call0 rfl (h1) rfl rfl rfl rfl rfl ?_
      | refine awt_call1 rfl (h1) rfl rfl rfl rfl rfl ?_
      | refine awt_call2 rfl (h1) rfl rfl rfl rfl rfl ?_
      | refine awt_call0 rfl (h2) rfl rfl rfl rfl rfl ?_
      | refine awt_call1 rfl (h2) rfl rfl rfl rfl rfl ?_
      | refine awt_call2 rfl (h2) rfl rfl rfl rfl rfl ?_
      | refine awt_call0 rfl (h3) rfl rfl rfl rfl rfl ?_
      | refine awt_call1 rfl (h3) rfl rfl rfl rfl rfl ?_
      | refine awt_call2 rfl (h3) rfl rfl rfl rfl rfl ?_
      | refine awt_call0 rfl (h4) rfl rfl rfl rfl rfl ?_
      | refine awt_call1 rfl (h4) rfl rfl rfl rfl rfl ?_
      | refine awt_call2 rfl (h4) rfl rfl rfl rfl rfl ?_
      | refine awt_call0 rfl (c89 _) rfl rfl rfl rfl rfl ?_
      | refine awt_call1 rfl (c89 _) rfl rfl rfl rfl rfl ?_
      | refine awt_call2 rfl (c89 _) rfl rfl rfl rfl rfl ?_
      | refine awt_b rfl rfl rfl rfl ?_ ?_
      | refine awt_c rfl rfl rfl ?_ ?_
      | refine awt_gt rfl rfl ?_
      | refine awt_gf rfl rfl rfl ?_
      | refine awt_gu rfl rfl rfl ?_
      | (refine awt_h rfl rfl rfl ?_ ?_ <;> intro hb)
      | refine awt_nil ?_
      | refine dq (by kernel_rfl) ?_
      | refine thn_n ?_
      | refine thn_r ?_
      | refine thn_e ?_
      | refine awc_condT rfl ?_
      | refine awc_condF rfl ?_
      | (refine awc_cond rfl ?_ ?_ <;> intro hb)
      | refine awc_block ?_
      | refine blk_n ?_
      | refine blk_r ?_
      | refine blk_e ?_
      | refine blk_o rfl ?_
      | refine awc_ret ?_
      | refine awc_skip ?_
      | refine awc_label ?_
      | refine awc_exit ?_
      | refine retq_r ?_
      | refine retq_n ?_
      | exact ResIs.tv rfl
      | exact ResIs.ts rfl
      | exact ResIs.tc rfl
      | exact ResIs.tn rfl rfl
      | exact ResIs.to rfl rfl
      | apply ResIs.tagg rfl
      | exact ResIs.cv rfl trivial
      | exact ResIs.cs rfl trivial
      | exact ResIs.cn rfl trivial rfl
      | exact ResIs.co rfl trivial rfl
      | apply ResIs.cagg rfl trivial
      | exact CoeL.nil
      | apply CoeL.v
      | apply CoeL.sl
      | apply CoeL.clp
      | apply CoeL.emp rfl
      | apply CoeL.own rfl
      | apply ret_one
      | apply ret_two
      | apply ret_three
      | exact rawq_r rfl
      | apply rawq_rc rfl
      | apply ownq_rv rfl rfl)
  all_goals (try (rw [hs]; decide; done))
  all_goals (try (rw [hs]; simp only [cutOk]; decide; done))
  all_goals (try (decide; done))
theorem c92_3 (s : List UInt8) (k : Nat) (hs : s.length = 128) (hk : k < 65536) (p0 : num (s.take (Int.toNat 4)) ≠ 0) (p1 : num (s.take (Int.toNat 4)) = num (s.drop (Int.toNat 124))) (p2 : num ((s.take (Int.toNat 8)).drop (Int.toNat 4)) = crc ((s.take (Int.toNat 124)).drop (Int.toNat 8))) (q : ¬ (num ((s.take (Int.toNat 10)).drop (Int.toNat 8)) = k)) : ACalls 92 [aB s, o1 (vI k)] (o1 (vB false)) := by
  refine acalls (n := 84) (rs := [.tmp 4]) (Ts := [4]) Try.func92 rfl rfl rfl rfl rfl rfl ?_
  have h1 := c87 (s.take (Int.toNat 4)) (by rw [List.length_take]; exact Nat.le_trans (Nat.min_le_left _ _) (by decide))
  have h2 := c87 (s.drop (Int.toNat 124)) (by rw [List.length_drop, hs]; decide)
  have h3 := c87 ((s.take (Int.toNat 8)).drop (Int.toNat 4)) (Nat.le_trans cut_lea (by decide))
  have h4 := c87 ((s.take (Int.toNat 10)).drop (Int.toNat 8)) (Nat.le_trans cut_lea (by decide))
  have hd := (s.getD (Int.toNat 11) (Ty.dflt .u8)).toNat_lt
  have hc := (s.getD (Int.toNat 10) (Ty.dflt .u8)).toNat_lt
  have w1 : IntKind.i64.wrap ((s.getD (Int.toNat 11) (Ty.dflt .u8)).toNat : Int) = ((s.getD (Int.toNat 11) (Ty.dflt .u8)).toNat : Int) := i64w (by omega) (by omega)
  have n48 : num ((s.take (Int.toNat 8)).drop (Int.toNat 4)) < 4294967296 := by
    have e1 := num_lt ((s.take (Int.toNat 8)).drop (Int.toNat 4))
    have e2 : 256 ^ ((s.take (Int.toNat 8)).drop (Int.toNat 4)).length ≤ 256 ^ 4 := Nat.pow_le_pow_right (by omega) cut_lea
    omega
  have w2 : IntKind.u32.wrap (num ((s.take (Int.toNat 8)).drop (Int.toNat 4)) : Int) = (num ((s.take (Int.toNat 8)).drop (Int.toNat 4)) : Int) := u32w (by omega) (by omega)
  have w3 : IntKind.u64.wrap (k : Int) = k := u64w (by omega) (by omega)
  have w4 : Int.tmod ((s.getD (Int.toNat 10) (Ty.dflt .u8)).toNat : Int) 2 = ((s.getD (Int.toNat 10) (Ty.dflt .u8)).toNat : Int) % 2 := Int.tmod_eq_emod_of_nonneg (by omega)
  repeat' (first
      | ((exfalso; simp only [cutL, w2, w3, Bool.not_false, beq_iff_eq, beq_eq_false_iff_ne, bne_iff_ne, bne_eq_false_iff_eq, ne_eq] at hb; omega))
      | exact True.intro
      | exact rfl
      | refine And.intro rfl ?_
      | refine awc_seq ?_
      | refine awc_region ?_
      | refine awc_draw ?_
      | refine awt_a rfl rfl rfl ?_ ?_
      | refine awt_call0 rfl (h1) rfl rfl rfl rfl rfl ?_
      | refine awt_call1 rfl (h1) rfl rfl rfl rfl rfl ?_
      | refine awt_call2 rfl (h1) rfl rfl rfl rfl rfl ?_
      | refine awt_call0 rfl (h2) rfl rfl rfl rfl rfl ?_
      | refine awt_call1 rfl (h2) rfl rfl rfl rfl rfl ?_
      | refine awt_call2 rfl (h2) rfl rfl rfl rfl rfl ?_
      | refine awt_call0 rfl (h3) rfl rfl rfl rfl rfl ?_
      | refine awt_call1 rfl (h3) rfl rfl rfl rfl rfl ?_
      | refine awt_call2 rfl (h3) rfl rfl rfl rfl rfl ?_
      | refine awt_call0 rfl (h4) rfl rfl rfl rfl rfl ?_
      | refine awt_call1 rfl (h4) rfl rfl rfl rfl rfl ?_
      | refine awt_call2 rfl (h4) rfl rfl rfl rfl rfl ?_
      | refine awt_call0 rfl (c89 _) rfl rfl rfl rfl rfl ?_
      | refine awt_call1 rfl (c89 _) rfl rfl rfl rfl rfl ?_
      | refine awt_call2 rfl (c89 _) rfl rfl rfl rfl rfl ?_
      | refine awt_b rfl rfl rfl rfl ?_ ?_
      | refine awt_c rfl rfl rfl ?_ ?_
      | refine awt_gt rfl rfl ?_
      | refine awt_gf rfl rfl rfl ?_
      | refine awt_gu rfl rfl rfl ?_
      | (refine awt_h rfl rfl rfl ?_ ?_ <;> intro hb)
      | refine awt_nil ?_
      | refine dq (by kernel_rfl) ?_
      | refine thn_n ?_
      | refine thn_r ?_
      | refine thn_e ?_
      | refine awc_condT rfl ?_
      | refine awc_condF rfl ?_
      | (refine awc_cond rfl ?_ ?_ <;> intro hb)
      | refine awc_block ?_
      | refine blk_n ?_
      | refine blk_r ?_
      | refine blk_e ?_
      | refine blk_o rfl ?_
      | refine awc_ret ?_
      | refine awc_skip ?_
      | refine awc_label ?_
      | refine awc_exit ?_
      | refine retq_r ?_
      | refine retq_n ?_
      | exact ResIs.tv rfl
      | exact ResIs.ts rfl
      | exact ResIs.tc rfl
      | exact ResIs.tn rfl rfl
      | exact ResIs.to rfl rfl
      | apply ResIs.tagg rfl
      | exact ResIs.cv rfl trivial
      | exact ResIs.cs rfl trivial
      | exact ResIs.cn rfl trivial rfl
      | exact ResIs.co rfl trivial rfl
      | apply ResIs.cagg rfl trivial
      | exact CoeL.nil
      | apply CoeL.v
      | apply CoeL.sl
      | apply CoeL.clp
      | apply CoeL.emp rfl
      | apply CoeL.own rfl
      | apply ret_one
      | apply ret_two
      | apply ret_three
      | exact rawq_r rfl
      | apply rawq_rc rfl
      | apply ownq_rv rfl rfl)
  all_goals (try (rw [hs]; decide; done))
  all_goals (try (rw [hs]; simp only [cutOk]; decide; done))
  all_goals (try (decide; done))
end B
end Go.Proofs.Ytbmnhagbplkagaa
