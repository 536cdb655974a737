import Derived.Test.YtbmnhagbplkagaaD5
/- Contracts of the journal: a sector's form. -/
namespace Go.Proofs.Ytbmnhagbplkagaa
namespace B
open Go.RowKit
set_option maxHeartbeats 4000000
set_option maxRecDepth 100000
attribute [local irreducible] awc awT thn blk DQ retQ rawQ ownQ retOk ResIs

/-- The kind of a sector and how many bytes of a record it holds. -/
def kdS (s : List UInt8) : UInt8 := s.getD 10 0
def lnS (s : List UInt8) : Nat := (s.getD 11 0).toNat
def dataS (s : List UInt8) : List UInt8 := (s.take (12 + lnS s)).drop 12
def formS (s : List UInt8) : Bool := !(decide (112 < lnS s) || decide (3 < (kdS s).toNat) || (decide ((kdS s).toNat / 2 % 2 = 0) && decide (lnS s < 112)) || (decide ((kdS s).toNat % 2 = 0) && decide (lnS s = 0)))
/-- A sector has the form of one with a number. -/
def goodS (s : List UInt8) (k : Nat) : Bool := formS s && (decide (0 < num (s.take 4)) && s == enc (num (s.take 4)) k (kdS s) (dataS s))
theorem form_iff {s : List UInt8} : formS s = true ↔ lnS s ≤ 112 ∧ (kdS s).toNat ≤ 3 ∧ ((kdS s).toNat / 2 % 2 = 0 → lnS s = 112) ∧ ((kdS s).toNat % 2 = 0 → lnS s ≠ 0) := by
  unfold formS
  simp only [Bool.not_eq_true', Bool.or_eq_false_iff, Bool.and_eq_false_iff, decide_eq_false_iff_not]
  omega
theorem good_no {s : List UInt8} {k : Nat} (h : ¬ (lnS s ≤ 112 ∧ (kdS s).toNat ≤ 3 ∧ ((kdS s).toNat / 2 % 2 = 0 → lnS s = 112) ∧ ((kdS s).toNat % 2 = 0 → lnS s ≠ 0))) : false = goodS s k := by
  have : formS s = false := by rw [← Bool.not_eq_true, form_iff]; exact h
  unfold goodS; rw [this]; rfl
theorem good_zero {s : List UInt8} {k : Nat} (h : ¬ 0 < num (s.take 4)) : false = goodS s k := by
  unfold goodS; rw [decide_eq_false h]; simp
theorem good_yes {s : List UInt8} {k : Nat} (h : lnS s ≤ 112 ∧ (kdS s).toNat ≤ 3 ∧ ((kdS s).toNat / 2 % 2 = 0 → lnS s = 112) ∧ ((kdS s).toNat % 2 = 0 → lnS s ≠ 0)) (h0 : 0 < num (s.take 4)) : (s == enc (num (s.take 4)) k (kdS s) (dataS s)) = goodS s k := by
  unfold goodS; rw [form_iff.2 h, decide_eq_true h0]; rfl
theorem and2 (c : UInt8) : IntKind.u8.wrap ((BitVec.ofInt IntKind.u8.bits (c.toNat : Int) &&& BitVec.ofInt IntKind.u8.bits 2).toNat : Nat) = ((2 * (c.toNat / 2 % 2) : Nat) : Int) := by
  have h := c.toNat_lt
  have h1 : (BitVec.ofInt 8 (c.toNat : Int)).toNat = c.toNat := by simp []
  have h2 : ∀ x : Fin 256, x.val &&& 2 = 2 * (x.val / 2 % 2) := by decide
  have h3 : (BitVec.ofInt IntKind.u8.bits (c.toNat : Int) &&& BitVec.ofInt IntKind.u8.bits 2).toNat = 2 * (c.toNat / 2 % 2) := by
    show (BitVec.ofInt 8 (c.toNat : Int) &&& BitVec.ofInt 8 2).toNat = _
    rw [BitVec.toNat_and, h1]
    exact h2 ⟨c.toNat, h⟩
  rw [h3, u8w (by omega) (by omega)]
theorem and1 (c : UInt8) : IntKind.u8.wrap ((BitVec.ofInt IntKind.u8.bits (c.toNat : Int) &&& BitVec.ofInt IntKind.u8.bits 1).toNat : Nat) = ((c.toNat % 2 : Nat) : Int) := by
  have h := c.toNat_lt
  have h1 : (BitVec.ofInt 8 (c.toNat : Int)).toNat = c.toNat := by simp []
  have h3 : (BitVec.ofInt IntKind.u8.bits (c.toNat : Int) &&& BitVec.ofInt IntKind.u8.bits 1).toNat = c.toNat % 2 := by
    show (BitVec.ofInt 8 (c.toNat : Int) &&& BitVec.ofInt 8 1).toNat = _
    rw [BitVec.toNat_and, h1, show (BitVec.ofInt 8 1).toNat = 1 from by decide, Nat.and_one_is_mod]
  rw [h3, u8w (by omega) (by omega)]
theorem c70 (a b : List UInt8) : ACalls 70 [aB a, aB b] (o1 (vB (a == b))) := by
  refine acalls (n := 10) (rs := [.tmp 4]) (Ts := [4]) Try.func70 rfl rfl rfl rfl rfl rfl ?_
  repeat' (first
      | exact True.intro
      | exact rfl
      | refine And.intro rfl ?_
      | refine awc_seq ?_
      | refine awc_region ?_
      | refine awc_draw ?_
      | refine awt_a rfl rfl rfl ?_ ?_
      | refine awt_b rfl rfl rfl rfl ?_ ?_
      | refine awt_c rfl rfl rfl ?_ ?_
      | refine awt_gt rfl rfl ?_
      | refine awt_gf rfl rfl rfl ?_
      | refine awt_gu rfl rfl rfl ?_
      | (refine awt_h rfl rfl rfl ?_ ?_ <;> intro hb)
      | refine awt_nil ?_
      | refine dq (by kernel_rfl) ?_
      | refine thn_n ?_
      | refine thn_r ?_
      | refine thn_e ?_
      | refine awc_condT rfl ?_
      | refine awc_condF rfl ?_
      | (refine awc_cond rfl ?_ ?_ <;> intro hb)
      | refine awc_block ?_
      | refine blk_n ?_
      | refine blk_r ?_
      | refine blk_e ?_
      | refine blk_o rfl ?_
      | refine awc_ret ?_
      | refine awc_skip ?_
      | refine awc_label ?_
      | refine awc_exit ?_
      | refine retq_r ?_
      | refine retq_n ?_
      | exact ResIs.tv rfl
      | exact ResIs.ts rfl
      | exact ResIs.tc rfl
      | exact ResIs.tn rfl rfl
      | exact ResIs.to rfl rfl
      | apply ResIs.tagg rfl
      | exact ResIs.cv rfl trivial
      | exact ResIs.cs rfl trivial
      | exact ResIs.cn rfl trivial rfl
      | exact ResIs.co rfl trivial rfl
      | apply ResIs.cagg rfl trivial
      | exact CoeL.nil
      | apply CoeL.v
      | apply CoeL.sl
      | apply CoeL.clp
      | apply CoeL.emp rfl
      | apply CoeL.own rfl
      | apply ret_one
      | apply ret_two
      | apply ret_three
      | exact rawq_r rfl
      | apply rawq_rc rfl
      | apply ownq_rv rfl rfl)
theorem c83 (s : List UInt8) (k : Nat) (hs : s.length = 128) (hk : k < 65536) : ACalls 83 [aB s, o1 (vI k)] (o1 (vB (goodS s k))) := by
  refine acalls (n := 60) (rs := [.tmp 4]) (Ts := [4]) Try.func83 rfl rfl rfl rfl rfl rfl ?_
  obtain ⟨d, hd⟩ : ∃ d : UInt8, d = s.getD (Int.toNat 11) (Ty.dflt .u8) := ⟨_, rfl⟩
  obtain ⟨c, hc⟩ : ∃ c : UInt8, c = s.getD (Int.toNat 10) (Ty.dflt .u8) := ⟨_, rfl⟩
  have hdl := d.toNat_lt
  have hcl := c.toNat_lt
  have a2 := and2 c
  have a1 := and1 c
  have hw : IntKind.i64.wrap (d.toNat : Int) = d.toNat := i64w (by omega) (by omega)
  have hw2 : IntKind.i64.wrap (12 + IntKind.i64.wrap (d.toNat : Int)) = ((12 + d.toNat : Nat) : Int) := by rw [hw, i64w (by omega) (by omega)]; omega
  have hln : lnS s = d.toNat := by rw [hd]; rfl
  have hkd : kdS s = c := by rw [hc]; rfl
  have h68 := c68 (s.take (Int.toNat 4)) (by rw [List.length_take]; exact Nat.le_trans (Nat.min_le_left _ _) (by decide))
  have hg : num (s.take (Int.toNat 4)) < 18446744073709551616 := by
    have h1 := num_lt (s.take (Int.toNat 4))
    have h2 : (s.take (Int.toNat 4)).length ≤ 4 := by rw [List.length_take]; exact Nat.min_le_left _ _
    have h3 : 256 ^ (s.take (Int.toNat 4)).length ≤ 256 ^ 4 := Nat.pow_le_pow_right (by omega) h2
    omega
  by_cases hn : d.toNat ≤ 112
  · have h71 := c71 (num (s.take (Int.toNat 4))) k c ((s.take (Int.toNat (IntKind.i64.wrap (12 + IntKind.i64.wrap (d.toNat : Int))))).drop (Int.toNat 12)) hg hk (by rw [hw2, List.length_drop, List.length_take, Int.toNat_natCast]; show min (12 + d.toNat) s.length - 12 ≤ 112; omega)
    rw [hd, hc] at h71
    have hE : (s == enc (num (s.take (Int.toNat 4))) k (s.getD (Int.toNat 10) (Ty.dflt .u8)) ((s.take (Int.toNat (IntKind.i64.wrap (12 + IntKind.i64.wrap ((s.getD (Int.toNat 11) (Ty.dflt .u8)).toNat : Int))))).drop (Int.toNat 12))) = (s == enc (num (s.take 4)) k (kdS s) (dataS s)) := by
      rw [← hd, hw2, Int.toNat_natCast, ← hc, hkd]
      unfold dataS
      rw [hln]
      rfl
    repeat' (first
        | exact True.intro
        | exact rfl
        | refine And.intro rfl ?_
        | refine awc_seq ?_
        | refine awc_region ?_
        | refine awc_draw ?_
        | refine awt_a rfl rfl rfl ?_ ?_
        | refine awt_call0 rfl (h68) rfl rfl rfl rfl rfl ?_
        | refine awt_call1 rfl (h68) rfl rfl rfl rfl rfl ?_
        | refine awt_call2 rfl (h68) rfl rfl rfl rfl rfl ?_
        | refine awt_call0 rfl (h71) rfl rfl rfl rfl rfl ?_
        | refine awt_call1 rfl (h71) rfl rfl rfl rfl rfl ?_
        | refine awt_call2 rfl (h71) rfl rfl rfl rfl rfl ?_
        | refine awt_call0 rfl (c70 _ _) rfl rfl rfl rfl rfl ?_
        | refine awt_call1 rfl (c70 _ _) rfl rfl rfl rfl rfl ?_
        | refine awt_call2 rfl (c70 _ _) rfl rfl rfl rfl rfl ?_
        | refine awt_b rfl rfl rfl rfl ?_ ?_
        | refine awt_c rfl rfl rfl ?_ ?_
        | refine awt_gt rfl rfl ?_
        | refine awt_gf rfl rfl rfl ?_
        | refine awt_gu rfl rfl rfl ?_
        | (refine awt_h rfl rfl rfl ?_ ?_ <;> intro hb)
        | refine awt_nil ?_
        | refine dq (by kernel_rfl) ?_
        | refine thn_n ?_
        | refine thn_r ?_
        | refine thn_e ?_
        | refine awc_condT rfl ?_
        | refine awc_condF rfl ?_
        | (refine awc_cond rfl ?_ ?_ <;> intro hb)
        | refine awc_block ?_
        | refine blk_n ?_
        | refine blk_r ?_
        | refine blk_e ?_
        | refine blk_o rfl ?_
        | refine awc_ret ?_
        | refine awc_skip ?_
        | refine awc_label ?_
        | refine awc_exit ?_
        | refine retq_r ?_
        | refine retq_n ?_
        | exact ResIs.tv rfl
        | exact ResIs.ts rfl
        | exact ResIs.tc rfl
        | exact ResIs.tn rfl rfl
        | exact ResIs.to rfl rfl
        | apply ResIs.tagg rfl
        | exact ResIs.cv rfl trivial
        | exact ResIs.cs rfl trivial
        | exact ResIs.cn rfl trivial rfl
        | exact ResIs.co rfl trivial rfl
        | apply ResIs.cagg rfl trivial
        | exact CoeL.nil
        | apply CoeL.v
        | apply CoeL.sl
        | apply CoeL.clp
        | apply CoeL.emp rfl
        | apply CoeL.own rfl
        | apply ret_one
        | apply ret_two
        | apply ret_three
        | exact rawq_r rfl
        | apply rawq_rc rfl
        | apply ownq_rv rfl rfl)
    all_goals (try (rw [hs]; decide; done))
    all_goals (try (rw [hs]; simp only [cutOk]; decide; done))
    all_goals (try (rw [← hd, hw2, hs]; refine ⟨by decide, ?_, ?_⟩ <;> omega; done))
    all_goals (refine eqVB ?_)
    all_goals (try rw [hE])
    all_goals (simp only [← hd, ← hc, hw, a1, a2, decide_eq_true_eq, decide_eq_false_iff_not, Bool.not_true, Bool.not_false, beq_iff_eq, beq_eq_false_iff_ne, ne_eq] at *)
    all_goals first
      | (refine good_no ?_; rw [hln, hkd]; omega)
      | exact good_yes (by rw [hln, hkd]; omega) (by show 0 < num (s.take (Int.toNat 4)); omega)
      | (refine good_zero ?_; show ¬ 0 < num (s.take (Int.toNat 4)); omega)
      | trace_state
  · have hn' : ¬ (s.getD (Int.toNat 11) (Ty.dflt .u8)).toNat ≤ 112 := by rw [← hd]; exact hn
    have hw' : IntKind.i64.wrap ((s.getD (Int.toNat 11) (Ty.dflt .u8)).toNat : Int) = (s.getD (Int.toNat 11) (Ty.dflt .u8)).toNat := by rw [← hd]; exact hw
    repeat' (first
        | ((exfalso; rw [hw', decide_eq_false_iff_not] at hb; omega))
        | exact True.intro
        | exact rfl
        | refine And.intro rfl ?_
        | refine awc_seq ?_
        | refine awc_region ?_
        | refine awc_draw ?_
        | refine awt_a rfl rfl rfl ?_ ?_
        | refine awt_call0 rfl (h68) rfl rfl rfl rfl rfl ?_
        | refine awt_call1 rfl (h68) rfl rfl rfl rfl rfl ?_
        | refine awt_call2 rfl (h68) rfl rfl rfl rfl rfl ?_
        | refine awt_b rfl rfl rfl rfl ?_ ?_
        | refine awt_c rfl rfl rfl ?_ ?_
        | refine awt_gt rfl rfl ?_
        | refine awt_gf rfl rfl rfl ?_
        | refine awt_gu rfl rfl rfl ?_
        | (refine awt_h rfl rfl rfl ?_ ?_ <;> intro hb)
        | refine awt_nil ?_
        | refine dq (by kernel_rfl) ?_
        | refine thn_n ?_
        | refine thn_r ?_
        | refine thn_e ?_
        | refine awc_condT rfl ?_
        | refine awc_condF rfl ?_
        | (refine awc_cond rfl ?_ ?_ <;> intro hb)
        | refine awc_block ?_
        | refine blk_n ?_
        | refine blk_r ?_
        | refine blk_e ?_
        | refine blk_o rfl ?_
        | refine awc_ret ?_
        | refine awc_skip ?_
        | refine awc_label ?_
        | refine awc_exit ?_
        | refine retq_r ?_
        | refine retq_n ?_
        | exact ResIs.tv rfl
        | exact ResIs.ts rfl
        | exact ResIs.tc rfl
        | exact ResIs.tn rfl rfl
        | exact ResIs.to rfl rfl
        | apply ResIs.tagg rfl
        | exact ResIs.cv rfl trivial
        | exact ResIs.cs rfl trivial
        | exact ResIs.cn rfl trivial rfl
        | exact ResIs.co rfl trivial rfl
        | apply ResIs.cagg rfl trivial
        | exact CoeL.nil
        | apply CoeL.v
        | apply CoeL.sl
        | apply CoeL.clp
        | apply CoeL.emp rfl
        | apply CoeL.own rfl
        | apply ret_one
        | apply ret_two
        | apply ret_three
        | exact rawq_r rfl
        | apply rawq_rc rfl
        | apply ownq_rv rfl rfl)
    all_goals (try (rw [hs]; decide; done))
    all_goals (refine eqVB ?_)
    all_goals (refine good_no ?_; rw [hln]; omega)
end B
end Go.Proofs.Ytbmnhagbplkagaa
