import Derived.Test.YtbmnhagbplkagaaC4
/- Contracts of the disk: a new disk. -/
namespace Go.Proofs.Ytbmnhagbplkagaa
namespace B
open Go.RowKit
set_option maxHeartbeats 4000000
set_option maxRecDepth 100000
attribute [local irreducible] awc awT thn blk DQ retQ rawQ ownQ retOk ResIs

abbrev aU (n : Int) : AV := o1 (.v (.int .u64 n))
theorem and_low (n : Nat) (hn : n ≤ 4096) : (BitVec.ofInt 64 (n : Int) &&& BitVec.ofInt 64 4294967295).toNat = n := by
  have h1 : (BitVec.ofInt 64 (n : Int)).toNat = n := by
    simp []; omega
  have h2 : (BitVec.ofInt 64 4294967295).toNat = 2 ^ 32 - 1 := by decide
  rw [BitVec.toNat_and, h1, h2, Nat.and_two_pow_sub_one_eq_mod]
  omega
theorem c91 (n : Nat) (hn : n ≤ 4096) : ACalls 91 [aU 1, aU n] (.tup [.one (.v (.int .u64 0)), .one (.v (.int .u64 n))]) := by
  refine acalls (n := 51) (rs := [.tmp 4, .tmp 5]) (Ts := [94, 94]) Try.func91 rfl rfl rfl rfl rfl rfl ?_
  repeat' (first
      | exact True.intro
      | exact rfl
      | refine And.intro rfl ?_
      | refine awc_seq ?_
      | refine awc_region ?_
      | refine awc_draw ?_
      | refine awt_a rfl rfl rfl ?_ ?_
      | refine awt_b rfl rfl rfl rfl ?_ ?_
      | refine awt_c rfl rfl rfl ?_ ?_
      | refine awt_gt rfl rfl ?_
      | refine awt_gf rfl rfl rfl ?_
      | refine awt_gu rfl rfl rfl ?_
      | (refine awt_h rfl rfl rfl ?_ ?_ <;> intro hb)
      | refine awt_nil ?_
      | refine dq (by kernel_rfl) ?_
      | refine thn_n ?_
      | refine thn_r ?_
      | refine thn_e ?_
      | refine awc_condT rfl ?_
      | refine awc_condF rfl ?_
      | (refine awc_cond rfl ?_ ?_ <;> intro hb)
      | refine awc_block ?_
      | refine blk_n ?_
      | refine blk_r ?_
      | refine blk_e ?_
      | refine blk_o rfl ?_
      | refine awc_ret ?_
      | refine awc_skip ?_
      | refine awc_label ?_
      | refine awc_exit ?_
      | refine retq_r ?_
      | refine retq_n ?_
      | exact ResIs.tv rfl
      | exact ResIs.ts rfl
      | exact ResIs.tc rfl
      | exact ResIs.tn rfl rfl
      | exact ResIs.to rfl rfl
      | apply ResIs.tagg rfl
      | exact ResIs.cv rfl trivial
      | exact ResIs.cs rfl trivial
      | exact ResIs.cn rfl trivial rfl
      | exact ResIs.co rfl trivial rfl
      | apply ResIs.cagg rfl trivial
      | exact CoeL.nil
      | apply CoeL.v
      | apply CoeL.sl
      | apply CoeL.clp
      | apply CoeL.emp rfl
      | apply CoeL.own rfl
      | apply ret_one
      | apply ret_two
      | apply ret_three
      | exact rawq_r rfl
      | apply rawq_rc rfl
      | apply ownq_rv rfl rfl)
  all_goals first | omega | skip
  have e1 : (n : Int).fdiv (2 ^ min (Int.toNat 32) IntKind.u64.bits) = 0 := by
    rw [Int.fdiv_eq_ediv_of_nonneg _ (by decide)]
    show (n : Int) / 4294967296 = 0
    omega
  have e2 : (BitVec.ofInt IntKind.u64.bits (n : Int) &&& BitVec.ofInt IntKind.u64.bits 4294967295).toNat = n := and_low n hn
  have e3 : (BitVec.ofInt IntKind.u64.bits 1 &&& BitVec.ofInt IntKind.u64.bits 4294967295).toNat = 1 := by decide
  have e4 : Int.fdiv 1 (2 ^ min (Int.toNat 32) IntKind.u64.bits) = 0 := by decide
  have e5 : IntKind.u64.wrap (n : Int) = n := u64w (by omega) (by omega)
  have e6 : IntKind.u64.wrap 0 = 0 := by decide
  have e7 : IntKind.u64.wrap ((1 : Nat) : Int) = 1 := by decide
  have e8 : (BitVec.ofInt IntKind.u64.bits 0 &&& BitVec.ofInt IntKind.u64.bits 4294967295).toNat = 0 := by decide
  have e9 : Int.fdiv 0 (2 ^ min (Int.toNat 32) IntKind.u64.bits) = 0 := by decide
  simp only [e1, e2, e3, e4, e5, e6, e7, e8, e9, Int.zero_mul, Int.mul_zero, Int.one_mul, Int.add_zero, Int.natCast_zero]
theorem c77 (n : Nat) (hn : n ≤ 4096) : ACalls 77 [aU 1, aU n] (.tup [.one (.v (.int .u64 0)), .one (.v (.int .u64 n))]) := by
  refine acalls (n := 30) (rs := [.tmp 4, .tmp 5]) (Ts := [73, 73]) Try.func77 rfl rfl rfl rfl rfl rfl ?_
  repeat' (first
      | exact True.intro
      | exact rfl
      | refine And.intro rfl ?_
      | refine awc_seq ?_
      | refine awc_region ?_
      | refine awc_draw ?_
      | refine awt_a rfl rfl rfl ?_ ?_
      | refine awt_call0 rfl (c91 _ hn) rfl rfl rfl rfl rfl ?_
      | refine awt_call1 rfl (c91 _ hn) rfl rfl rfl rfl rfl ?_
      | refine awt_call2 rfl (c91 _ hn) rfl rfl rfl rfl rfl ?_
      | refine awt_b rfl rfl rfl rfl ?_ ?_
      | refine awt_c rfl rfl rfl ?_ ?_
      | refine awt_gt rfl rfl ?_
      | refine awt_gf rfl rfl rfl ?_
      | refine awt_gu rfl rfl rfl ?_
      | (refine awt_h rfl rfl rfl ?_ ?_ <;> intro hb)
      | refine awt_nil ?_
      | refine dq (by kernel_rfl) ?_
      | refine thn_n ?_
      | refine thn_r ?_
      | refine thn_e ?_
      | refine awc_condT rfl ?_
      | refine awc_condF rfl ?_
      | (refine awc_cond rfl ?_ ?_ <;> intro hb)
      | refine awc_block ?_
      | refine blk_n ?_
      | refine blk_r ?_
      | refine blk_e ?_
      | refine blk_o rfl ?_
      | refine awc_ret ?_
      | refine awc_skip ?_
      | refine awc_label ?_
      | refine awc_exit ?_
      | refine retq_r ?_
      | refine retq_n ?_
      | exact ResIs.tv rfl
      | exact ResIs.ts rfl
      | exact ResIs.tc rfl
      | exact ResIs.tn rfl rfl
      | exact ResIs.to rfl rfl
      | apply ResIs.tagg rfl
      | exact ResIs.cv rfl trivial
      | exact ResIs.cs rfl trivial
      | exact ResIs.cn rfl trivial rfl
      | exact ResIs.co rfl trivial rfl
      | apply ResIs.cagg rfl trivial
      | exact CoeL.nil
      | apply CoeL.v
      | apply CoeL.sl
      | apply CoeL.clp
      | apply CoeL.emp rfl
      | apply CoeL.own rfl
      | apply ret_one
      | apply ret_two
      | apply ret_three
      | exact rawq_r rfl
      | apply rawq_rc rfl
      | apply ownq_rv rfl rfl)
theorem rep_first (b : List UInt8) (n m : Nat) (h : m = n) (h1 : 1 ≤ n) : List.take 0 (List.replicate m ([] : List UInt8)) ++ List.take (List.replicate m ([] : List UInt8)).length [b] ++ List.drop (0 + min [b].length (List.replicate m ([] : List UInt8)).length) (List.replicate m []) = List.replicate 1 b ++ List.replicate (n - 1) [] := by
  subst h
  rw [List.length_replicate, List.take_zero, List.nil_append, Nat.zero_add, List.length_singleton, Nat.min_eq_left h1, List.drop_replicate, List.take_of_length_le (by simpa using h1)]
  rfl
theorem rep_len (b : List UInt8) {n k : Nat} (h : k ≤ n) : (List.replicate k b ++ List.replicate (n - k) ([] : List UInt8)).length = n := by
  simp; omega
theorem rep_step (b : List UInt8) {n k : Nat} (h : k ≤ n) (L : List (List UInt8)) (hL : L = List.replicate k b ++ List.replicate (n - k) []) : L.take k ++ ((L.drop 0).take k).take (n - k) ++ L.drop (k + min ((L.drop 0).take k).length (n - k)) = List.replicate (k + min k (n - k)) b ++ List.replicate (n - (k + min k (n - k))) [] := by
  have e1 : L.take k = List.replicate k b := by rw [hL, List.take_append_of_le_length (by simp), List.take_of_length_le (by simp)]
  rw [List.drop_zero, e1, List.length_replicate, List.take_replicate, List.replicate_append_replicate, hL, List.drop_append, List.drop_of_length_le (by simp), List.nil_append, List.length_replicate, List.drop_replicate]
  rw [Nat.min_comm (n - k) k]
  congr 2
  omega
theorem c51 (b : List UInt8) (n : Nat) (h1 : 1 ≤ n) (hn : n ≤ 4096) : ACalls 51 [aBB [b], o1 (vI n)] (aBB (List.replicate n b)) := by
  refine acalls (n := 48) (rs := [.tmp 4]) (Ts := [22]) Try.func51 rfl rfl rfl rfl rfl rfl ?_
  have hw : IntKind.u64.wrap (n : Int) = n := u64w (by omega) (by omega)
  have hc := c77 n hn
  rw [← hw] at hc
  repeat' (first
      | exact True.intro
      | exact rfl
      | refine And.intro rfl ?_
      | refine awc_seq ?_
      | refine awc_region ?_
      | refine awc_draw ?_
      | refine awt_a rfl rfl rfl ?_ ?_
      | refine awt_call0 rfl (hc) rfl rfl rfl rfl rfl ?_
      | refine awt_call1 rfl (hc) rfl rfl rfl rfl rfl ?_
      | refine awt_call2 rfl (hc) rfl rfl rfl rfl rfl ?_
      | refine awt_b rfl rfl rfl rfl ?_ ?_
      | refine awt_c rfl rfl rfl ?_ ?_
      | refine awt_gt rfl rfl ?_
      | refine awt_gf rfl rfl rfl ?_
      | refine awt_gu rfl rfl rfl ?_
      | (refine awt_h rfl rfl rfl ?_ ?_ <;> intro hb)
      | refine awt_nil ?_
      | refine dq (by kernel_rfl) ?_
      | refine thn_n ?_
      | refine thn_r ?_
      | refine thn_e ?_
      | refine awc_condT rfl ?_
      | refine awc_condF rfl ?_
      | (refine awc_cond rfl ?_ ?_ <;> intro hb)
      | refine awc_block ?_
      | refine blk_n ?_
      | refine blk_r ?_
      | refine blk_e ?_
      | refine blk_o rfl ?_
      | refine awc_ret ?_
      | refine awc_skip ?_
      | refine awc_label ?_
      | refine awc_exit ?_
      | refine retq_r ?_
      | refine retq_n ?_
      | exact ResIs.tv rfl
      | exact ResIs.ts rfl
      | exact ResIs.tc rfl
      | exact ResIs.tn rfl rfl
      | exact ResIs.to rfl rfl
      | apply ResIs.tagg rfl
      | exact ResIs.cv rfl trivial
      | exact ResIs.cs rfl trivial
      | exact ResIs.cn rfl trivial rfl
      | exact ResIs.co rfl trivial rfl
      | apply ResIs.cagg rfl trivial
      | exact CoeL.nil
      | apply CoeL.v
      | apply CoeL.sl
      | apply CoeL.clp
      | apply CoeL.emp rfl
      | apply CoeL.own rfl
      | apply ret_one
      | apply ret_two
      | apply ret_three
      | exact rawq_r rfl
      | apply rawq_rc rfl
      | apply ownq_rv rfl rfl)
  all_goals (try (exfalso; rw [hw] at hb; simp only [decide_eq_true_eq] at hb; omega))
  · rw [hw, i64w (by omega) (by omega)]; omega
  · rw [hw, i64w (by omega) (by omega)]
    refine ⟨⟨trivial, ?_⟩, rfl, rfl, by omega⟩
    rw [List.length_replicate]
    omega
  have hi : IntKind.i64.wrap (IntKind.u64.wrap (n : Int)) = n := by rw [hw, i64w (by omega) (by omega)]
  refine awc_loop (α := Nat) (fun k => ⟨48, [(7, o1 (.own 30)), (8, o1 (vI k))], [(30, .own tB (List.replicate k b ++ List.replicate (n - k) []))]⟩) (fun k => 1 ≤ k ∧ k ≤ n) (fun k => n - k) 1 (Wk.ren [] rfl ⟨rfl, ?_, trivial⟩ ⟨?_, trivial⟩ rfl) ⟨by omega, h1⟩ ?_
  · show o1 (vI ((min 1 (List.replicate (IntKind.i64.wrap (IntKind.u64.wrap (n : Int))).toNat ([] : List UInt8)).length : Nat) : Int)) = o1 (vI ((1 : Nat) : Int))
    rw [List.length_replicate, hi, Int.toNat_natCast, Nat.min_eq_left h1]
  · have := rep_first b n (IntKind.i64.wrap (IntKind.u64.wrap (n : Int))).toNat (by rw [hi]; rfl) h1
    exact congrArg (HB.own tB) this
  rintro k ⟨hk1, hk2⟩
  repeat' (first
      | exact True.intro
      | exact rfl
      | refine And.intro rfl ?_
      | refine awc_seq ?_
      | refine awc_region ?_
      | refine awc_draw ?_
      | refine awt_a rfl rfl rfl ?_ ?_
      | refine awt_b rfl rfl rfl rfl ?_ ?_
      | refine awt_c rfl rfl rfl ?_ ?_
      | refine awt_gt rfl rfl ?_
      | refine awt_gf rfl rfl rfl ?_
      | refine awt_gu rfl rfl rfl ?_
      | (refine awt_h rfl rfl rfl ?_ ?_ <;> intro hb)
      | refine awt_nil ?_
      | refine dq (by kernel_rfl) ?_
      | refine thn_n ?_
      | refine thn_r ?_
      | refine thn_e ?_
      | refine awc_condT rfl ?_
      | refine awc_condF rfl ?_
      | (refine awc_cond rfl ?_ ?_ <;> intro hb)
      | refine awc_block ?_
      | refine blk_n ?_
      | refine blk_r ?_
      | refine blk_e ?_
      | refine blk_o rfl ?_
      | refine awc_ret ?_
      | refine awc_skip ?_
      | refine awc_label ?_
      | refine awc_exit ?_
      | refine retq_r ?_
      | refine retq_n ?_
      | exact ResIs.tv rfl
      | exact ResIs.ts rfl
      | exact ResIs.tc rfl
      | exact ResIs.tn rfl rfl
      | exact ResIs.to rfl rfl
      | apply ResIs.tagg rfl
      | exact ResIs.cv rfl trivial
      | exact ResIs.cs rfl trivial
      | exact ResIs.cn rfl trivial rfl
      | exact ResIs.co rfl trivial rfl
      | apply ResIs.cagg rfl trivial
      | exact CoeL.nil
      | apply CoeL.v
      | apply CoeL.sl
      | apply CoeL.clp
      | apply CoeL.emp rfl
      | apply CoeL.own rfl
      | apply ret_one
      | apply ret_two
      | apply ret_three
      | exact rawq_r rfl
      | apply rawq_rc rfl
      | apply ownq_rv rfl rfl)
  all_goals (try simp only [decide_eq_true_eq, decide_eq_false_iff_not] at *)
  all_goals (try omega)
  all_goals (have hL := rep_len b hk2)
  · rw [hL]; rw [hL] at hb
    simp only [cutOk, cutLo]; omega
  · rw [hL]; rw [hL] at hb
    simp only [cutOk, cutLo]; omega
  · refine ⟨?_, rfl, rfl, ?_⟩
    · show 0 + (k - 0) ≤ _
      rw [hL]; omega
    · simp only [cutLo, cutHi, Int.toNat_natCast]
      omega
  · rw [hL] at hb
    refine ⟨k + min k (n - k), Wk.ren [] rfl ⟨rfl, ?_, trivial⟩ ⟨?_, trivial⟩ rfl, by omega, by omega⟩
    · refine eqVI ?_
      show IntKind.i64.wrap ((k : Int) + ((min (List.take (k - 0) (List.drop 0 (List.replicate k b ++ List.replicate (n - k) ([] : List UInt8)))).length ((List.replicate k b ++ List.replicate (n - k) ([] : List UInt8)).length - k) : Nat) : Int)) = _
      have e : (List.take (k - 0) (List.drop 0 (List.replicate k b ++ List.replicate (n - k) ([] : List UInt8)))).length = k := by
        rw [List.length_take, List.length_drop, hL]; omega
      rw [e, hL, i64w (by omega) (by omega)]
      omega
    · have := rep_step b hk2 _ rfl
      refine congrArg (HB.own tB) ?_
      rw [← this]
      have e2 : cutHi (List.replicate k b ++ List.replicate (n - k) ([] : List UInt8)).length none - cutLo (some (k : Int)) = n - k := by
        rw [hL]; rfl
      show List.take k _ ++ List.take (cutHi (List.replicate k b ++ List.replicate (n - k) ([] : List UInt8)).length none - cutLo (some (k : Int))) (List.take (k - 0) (List.drop 0 _)) ++ List.drop (k + min (List.take (k - 0) (List.drop 0 _)).length (cutHi (List.replicate k b ++ List.replicate (n - k) ([] : List UInt8)).length none - cutLo (some (k : Int)))) _ = _
      rw [e2]
      rfl
  · rw [hL] at hb
    refine eqSL ?_
    rw [show k = n by omega]
    simp
/-- A new disk. -/
def dNew (n : Int) : Dk × Int := bif decide (n < 1) || decide (n > 4096) then (.z, 1) else (⟨List.replicate n.toNat (List.replicate 128 0), [], -1, false⟩, 0)
theorem c19 (n : Int) : ACalls 19 [o1 (vI n)] (aRD (dNew n)) := by
  refine acalls (n := 18) (rs := [.cell 2 25, .tmp 3]) (Ts := [25, 28]) Try.func19 rfl rfl rfl rfl rfl rfl ?_
  cases hn : decide (n < 1) || decide (n > 4096) with
  | true =>
    repeat' (first
        | exact True.intro
        | exact rfl
        | refine And.intro rfl ?_
        | refine awc_seq ?_
        | refine awc_region ?_
        | refine awc_draw ?_
        | refine awt_a rfl rfl rfl ?_ ?_
        | refine awt_b rfl rfl rfl rfl ?_ ?_
        | refine awt_c rfl rfl rfl ?_ ?_
        | refine awt_gt rfl rfl ?_
        | refine awt_gf rfl rfl rfl ?_
        | refine awt_gu rfl rfl rfl ?_
        | (refine awt_h rfl rfl rfl ?_ ?_ <;> intro hb)
        | refine awt_nil ?_
        | refine dq (by kernel_rfl) ?_
        | refine thn_n ?_
        | refine thn_r ?_
        | refine thn_e ?_
        | refine awc_condT rfl ?_
        | refine awc_condF rfl ?_
        | (refine awc_cond rfl ?_ ?_ <;> intro hb)
        | refine awc_block ?_
        | refine blk_n ?_
        | refine blk_r ?_
        | refine blk_e ?_
        | refine blk_o rfl ?_
        | refine awc_ret ?_
        | refine awc_skip ?_
        | refine awc_label ?_
        | refine awc_exit ?_
        | refine retq_r ?_
        | refine retq_n ?_
        | exact ResIs.tv rfl
        | exact ResIs.ts rfl
        | exact ResIs.tc rfl
        | exact ResIs.tn rfl rfl
        | exact ResIs.to rfl rfl
        | apply ResIs.tagg rfl
        | exact ResIs.cv rfl trivial
        | exact ResIs.cs rfl trivial
        | exact ResIs.cn rfl trivial rfl
        | exact ResIs.co rfl trivial rfl
        | apply ResIs.cagg rfl trivial
        | exact CoeL.nil
        | apply CoeL.v
        | apply CoeL.sl
        | apply CoeL.clp
        | apply CoeL.emp rfl
        | apply CoeL.own rfl
        | apply ret_one
        | apply ret_two
        | apply ret_three
        | exact rawq_r rfl
        | apply rawq_rc rfl
        | apply ownq_rv rfl rfl)
    all_goals (try (exfalso; simp only [Bool.or_eq_true, decide_eq_false_iff_not, decide_eq_true_eq, Bool.not_false] at *; omega))
    all_goals (refine eqRD ?_; simp only [dNew, hn, cond_true]; rfl)
  | false =>
    have h1 : 1 ≤ n ∧ n ≤ 4096 := by
      simp only [Bool.or_eq_false_iff, decide_eq_false_iff_not] at hn
      omega
    have hc := c51 (List.replicate 128 0) n.toNat (by omega) (by omega)
    rw [Int.toNat_of_nonneg (by omega)] at hc
    repeat' (first
        | exact True.intro
        | exact rfl
        | refine And.intro rfl ?_
        | refine awc_seq ?_
        | refine awc_region ?_
        | refine awc_draw ?_
        | refine awt_a rfl rfl rfl ?_ ?_
        | refine awt_call0 rfl (hc) rfl rfl rfl rfl rfl ?_
        | refine awt_call1 rfl (hc) rfl rfl rfl rfl rfl ?_
        | refine awt_call2 rfl (hc) rfl rfl rfl rfl rfl ?_
        | refine awt_b rfl rfl rfl rfl ?_ ?_
        | refine awt_c rfl rfl rfl ?_ ?_
        | refine awt_gt rfl rfl ?_
        | refine awt_gf rfl rfl rfl ?_
        | refine awt_gu rfl rfl rfl ?_
        | (refine awt_h rfl rfl rfl ?_ ?_ <;> intro hb)
        | refine awt_nil ?_
        | refine dq (by kernel_rfl) ?_
        | refine thn_n ?_
        | refine thn_r ?_
        | refine thn_e ?_
        | refine awc_condT rfl ?_
        | refine awc_condF rfl ?_
        | (refine awc_cond rfl ?_ ?_ <;> intro hb)
        | refine awc_block ?_
        | refine blk_n ?_
        | refine blk_r ?_
        | refine blk_e ?_
        | refine blk_o rfl ?_
        | refine awc_ret ?_
        | refine awc_skip ?_
        | refine awc_label ?_
        | refine awc_exit ?_
        | refine retq_r ?_
        | refine retq_n ?_
        | exact ResIs.tv rfl
        | exact ResIs.ts rfl
        | exact ResIs.tc rfl
        | exact ResIs.tn rfl rfl
        | exact ResIs.to rfl rfl
        | apply ResIs.tagg rfl
        | exact ResIs.cv rfl trivial
        | exact ResIs.cs rfl trivial
        | exact ResIs.cn rfl trivial rfl
        | exact ResIs.co rfl trivial rfl
        | apply ResIs.cagg rfl trivial
        | exact CoeL.nil
        | apply CoeL.v
        | apply CoeL.sl
        | apply CoeL.clp
        | apply CoeL.emp rfl
        | apply CoeL.own rfl
        | apply ret_one
        | apply ret_two
        | apply ret_three
        | exact rawq_r rfl
        | apply rawq_rc rfl
        | apply ownq_rv rfl rfl)
    all_goals (try (exfalso; simp only [decide_eq_false_iff_not, decide_eq_true_eq, Bool.not_false] at *; omega))
    · exact ⟨by decide, by decide⟩
    · refine eqRD ?_
      simp only [dNew, hn, cond_false]

theorem nNew_step (k : Nat) (b : List UInt8) : List.replicate k b ++ [b] = List.replicate (k + 1) b := (List.replicate_succ' ..).symm
def nNewS (n : Int) : Nat → St
  | 0 => ⟨26, [(0, o1 (vI n)), (2, o1 (.ptr 2 0)), (4, o1 (.ptr 4 0)), (5, o1 (vI 0))], [(2, .box [.emp, .emp, vI 0, vB false]), (4, .box [.emp, .emp, vI (-1), vB false])]⟩
  | i + 1 => ⟨26, [(0, o1 (vI n)), (2, o1 (.ptr 2 0)), (4, o1 (.ptr 4 0)), (5, o1 (vI ((i + 1 : Nat) : Int)))], [(2, .box [.emp, .emp, vI 0, vB false]), (4, .box [.own 1000, .emp, vI (-1), vB false]), (1000, .own tB (List.replicate (i + 1) (List.replicate 128 0)))]⟩
theorem c20 (n : Int) : ACalls 20 [o1 (vI n)] (aRD (dNew n)) := by
  refine acalls (n := 26) (rs := [.cell 2 25, .tmp 3]) (Ts := [25, 28]) Try.func20 rfl rfl rfl rfl rfl rfl ?_
  cases hn : decide (n < 1) || decide (n > 4096) with
  | true =>
    repeat' (first
        | exact True.intro
        | exact rfl
        | refine And.intro rfl ?_
        | refine awc_seq ?_
        | refine awc_region ?_
        | refine awc_draw ?_
        | refine awt_a rfl rfl rfl ?_ ?_
        | refine awt_b rfl rfl rfl rfl ?_ ?_
        | refine awt_c rfl rfl rfl ?_ ?_
        | refine awt_gt rfl rfl ?_
        | refine awt_gf rfl rfl rfl ?_
        | refine awt_gu rfl rfl rfl ?_
        | (refine awt_h rfl rfl rfl ?_ ?_ <;> intro hb)
        | refine awt_nil ?_
        | refine dq (by kernel_rfl) ?_
        | refine thn_n ?_
        | refine thn_r ?_
        | refine thn_e ?_
        | refine awc_condT rfl ?_
        | refine awc_condF rfl ?_
        | (refine awc_cond rfl ?_ ?_ <;> intro hb)
        | refine awc_block ?_
        | refine blk_n ?_
        | refine blk_r ?_
        | refine blk_e ?_
        | refine blk_o rfl ?_
        | refine awc_ret ?_
        | refine awc_skip ?_
        | refine awc_label ?_
        | refine awc_exit ?_
        | refine retq_r ?_
        | refine retq_n ?_
        | exact ResIs.tv rfl
        | exact ResIs.ts rfl
        | exact ResIs.tc rfl
        | exact ResIs.tn rfl rfl
        | exact ResIs.to rfl rfl
        | apply ResIs.tagg rfl
        | exact ResIs.cv rfl trivial
        | exact ResIs.cs rfl trivial
        | exact ResIs.cn rfl trivial rfl
        | exact ResIs.co rfl trivial rfl
        | apply ResIs.cagg rfl trivial
        | exact CoeL.nil
        | apply CoeL.v
        | apply CoeL.sl
        | apply CoeL.clp
        | apply CoeL.emp rfl
        | apply CoeL.own rfl
        | apply ret_one
        | apply ret_two
        | apply ret_three
        | exact rawq_r rfl
        | apply rawq_rc rfl
        | apply ownq_rv rfl rfl)
    all_goals (try (exfalso; simp only [Bool.or_eq_true, decide_eq_false_iff_not, decide_eq_true_eq, Bool.not_false] at *; omega))
    all_goals (try (refine eqRD ?_; simp only [dNew, hn, cond_true]; rfl))
  | false =>
    have h1 : 1 ≤ n ∧ n ≤ 4096 := by
      simp only [Bool.or_eq_false_iff, decide_eq_false_iff_not] at hn
      omega
    repeat' (first
        | exact True.intro
        | exact rfl
        | refine And.intro rfl ?_
        | refine awc_seq ?_
        | refine awc_region ?_
        | refine awc_draw ?_
        | refine awt_a rfl rfl rfl ?_ ?_
        | refine awt_b rfl rfl rfl rfl ?_ ?_
        | refine awt_c rfl rfl rfl ?_ ?_
        | refine awt_gt rfl rfl ?_
        | refine awt_gf rfl rfl rfl ?_
        | refine awt_gu rfl rfl rfl ?_
        | (refine awt_h rfl rfl rfl ?_ ?_ <;> intro hb)
        | refine awt_nil ?_
        | refine dq (by kernel_rfl) ?_
        | refine thn_n ?_
        | refine thn_r ?_
        | refine thn_e ?_
        | refine awc_condT rfl ?_
        | refine awc_condF rfl ?_
        | (refine awc_cond rfl ?_ ?_ <;> intro hb)
        | refine awc_block ?_
        | refine blk_n ?_
        | refine blk_r ?_
        | refine blk_e ?_
        | refine blk_o rfl ?_
        | refine awc_ret ?_
        | refine awc_skip ?_
        | refine awc_label ?_
        | refine awc_exit ?_
        | refine retq_r ?_
        | refine retq_n ?_
        | exact ResIs.tv rfl
        | exact ResIs.ts rfl
        | exact ResIs.tc rfl
        | exact ResIs.tn rfl rfl
        | exact ResIs.to rfl rfl
        | apply ResIs.tagg rfl
        | exact ResIs.cv rfl trivial
        | exact ResIs.cs rfl trivial
        | exact ResIs.cn rfl trivial rfl
        | exact ResIs.co rfl trivial rfl
        | apply ResIs.cagg rfl trivial
        | exact CoeL.nil
        | apply CoeL.v
        | apply CoeL.sl
        | apply CoeL.clp
        | apply CoeL.emp rfl
        | apply CoeL.own rfl
        | apply ret_one
        | apply ret_two
        | apply ret_three
        | exact rawq_r rfl
        | apply rawq_rc rfl
        | apply ownq_rv rfl rfl)
    all_goals (try (exfalso; simp only [decide_eq_false_iff_not, decide_eq_true_eq, Bool.not_false] at *; omega))
    refine awc_loop (α := Nat) (nNewS n) (fun i => (i : Int) ≤ n) (fun i => n.toNat - i) 0 (Wk.ren [] rfl ⟨rfl, rfl, rfl, rfl, trivial⟩ ⟨rfl, rfl, trivial⟩ rfl) (by show (0 : Int) ≤ n; omega) ?_
    intro i hi
    cases i with
    | zero =>
      unfold nNewS
      repeat' (first
          | exact True.intro
          | exact rfl
          | refine And.intro rfl ?_
          | refine awc_seq ?_
          | refine awc_region ?_
          | refine awc_draw ?_
          | refine awt_a rfl rfl rfl ?_ ?_
          | refine awt_b rfl rfl rfl rfl ?_ ?_
          | refine awt_c rfl rfl rfl ?_ ?_
          | refine awt_gt rfl rfl ?_
          | refine awt_gf rfl rfl rfl ?_
          | refine awt_gu rfl rfl rfl ?_
          | (refine awt_h rfl rfl rfl ?_ ?_ <;> intro hb)
          | refine awt_nil ?_
          | refine dq (by kernel_rfl) ?_
          | refine thn_n ?_
          | refine thn_r ?_
          | refine thn_e ?_
          | refine awc_condT rfl ?_
          | refine awc_condF rfl ?_
          | (refine awc_cond rfl ?_ ?_ <;> intro hb)
          | refine awc_block ?_
          | refine blk_n ?_
          | refine blk_r ?_
          | refine blk_e ?_
          | refine blk_o rfl ?_
          | refine awc_ret ?_
          | refine awc_skip ?_
          | refine awc_label ?_
          | refine awc_exit ?_
          | refine retq_r ?_
          | refine retq_n ?_
          | exact ResIs.tv rfl
          | exact ResIs.ts rfl
          | exact ResIs.tc rfl
          | exact ResIs.tn rfl rfl
          | exact ResIs.to rfl rfl
          | apply ResIs.tagg rfl
          | exact ResIs.cv rfl trivial
          | exact ResIs.cs rfl trivial
          | exact ResIs.cn rfl trivial rfl
          | exact ResIs.co rfl trivial rfl
          | apply ResIs.cagg rfl trivial
          | exact CoeL.nil
          | apply CoeL.v
          | apply CoeL.sl
          | apply CoeL.clp
          | apply CoeL.emp rfl
          | apply CoeL.own rfl
          | apply ret_one
          | apply ret_two
          | apply ret_three
          | exact rawq_r rfl
          | apply rawq_rc rfl
          | apply ownq_rv rfl rfl)
      all_goals (try simp only [decide_eq_true_eq, decide_eq_false_iff_not] at *)
      all_goals (try omega)
      · show 1 * 24 ≤ _
        omega
      · refine ⟨1, Wk.ren [(1000, 23)] rfl ⟨rfl, rfl, rfl, rfl, trivial⟩ ⟨rfl, rfl, rfl, trivial⟩ rfl, by omega, by omega⟩
    | succ i =>
      unfold nNewS
      repeat' (first
          | exact True.intro
          | exact rfl
          | refine And.intro rfl ?_
          | refine awc_seq ?_
          | refine awc_region ?_
          | refine awc_draw ?_
          | refine awt_a rfl rfl rfl ?_ ?_
          | refine awt_b rfl rfl rfl rfl ?_ ?_
          | refine awt_c rfl rfl rfl ?_ ?_
          | refine awt_gt rfl rfl ?_
          | refine awt_gf rfl rfl rfl ?_
          | refine awt_gu rfl rfl rfl ?_
          | (refine awt_h rfl rfl rfl ?_ ?_ <;> intro hb)
          | refine awt_nil ?_
          | refine dq (by kernel_rfl) ?_
          | refine thn_n ?_
          | refine thn_r ?_
          | refine thn_e ?_
          | refine awc_condT rfl ?_
          | refine awc_condF rfl ?_
          | (refine awc_cond rfl ?_ ?_ <;> intro hb)
          | refine awc_block ?_
          | refine blk_n ?_
          | refine blk_r ?_
          | refine blk_e ?_
          | refine blk_o rfl ?_
          | refine awc_ret ?_
          | refine awc_skip ?_
          | refine awc_label ?_
          | refine awc_exit ?_
          | refine retq_r ?_
          | refine retq_n ?_
          | exact ResIs.tv rfl
          | exact ResIs.ts rfl
          | exact ResIs.tc rfl
          | exact ResIs.tn rfl rfl
          | exact ResIs.to rfl rfl
          | apply ResIs.tagg rfl
          | exact ResIs.cv rfl trivial
          | exact ResIs.cs rfl trivial
          | exact ResIs.cn rfl trivial rfl
          | exact ResIs.co rfl trivial rfl
          | apply ResIs.cagg rfl trivial
          | exact CoeL.nil
          | apply CoeL.v
          | apply CoeL.sl
          | apply CoeL.clp
          | apply CoeL.emp rfl
          | apply CoeL.own rfl
          | apply ret_one
          | apply ret_two
          | apply ret_three
          | exact rawq_r rfl
          | apply rawq_rc rfl
          | apply ownq_rv rfl rfl)
      all_goals (try simp only [decide_eq_true_eq, decide_eq_false_iff_not] at *)
      all_goals (try omega)
      · refine ⟨?_, by simp⟩
        rw [List.length_replicate]
        show (i + 1 + 1) * 24 ≤ _
        omega
      · refine ⟨i + 2, Wk.ren [(1000, 23)] rfl ⟨rfl, rfl, rfl, ?_, trivial⟩ ⟨rfl, rfl, ?_, trivial⟩ rfl, by omega, by omega⟩
        · refine eqVI ?_
          rw [i64w] <;> omega
        · exact congrArg (HB.own tB) (nNew_step (i + 1) _)
      · refine eqRD ?_
        simp only [dNew, hn, cond_false]
        rw [show n.toNat = i + 1 by omega]

end B
end Go.Proofs.Ytbmnhagbplkagaa
