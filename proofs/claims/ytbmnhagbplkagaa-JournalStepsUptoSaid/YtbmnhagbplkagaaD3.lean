import Derived.Test.YtbmnhagbplkagaaBb
/- Contracts of the journal: a number's bytes. -/
namespace Go.Proofs.Ytbmnhagbplkagaa
namespace B
open Go.RowKit
set_option maxHeartbeats 4000000
set_option maxRecDepth 100000
attribute [local irreducible] awc awT thn blk DQ retQ rawQ ownQ retOk ResIs awg thnG blkG

/-- The bytes of a number, the most significant first. -/
def be (n : Nat) : Nat → List UInt8
  | 0 => []
  | m + 1 => UInt8.ofNat (n / 256 ^ m % 256) :: be n m
theorem be_len (n : Nat) : ∀ m, (be n m).length = m
  | 0 => rfl
  | m + 1 => by simp [be, be_len n m]
theorem two_pow (k : Nat) : (2 : Int) ^ k = ((2 ^ k : Nat) : Int) := by rw [Int.natCast_pow]; rfl
theorem shr_be {N : Int} {i : Nat} (h0 : 0 ≤ N) (h1 : N < 18446744073709551616) : N.fdiv (2 ^ min (8 * i) 64) = ((N.toNat / 256 ^ i : Nat) : Int) := by
  rw [two_pow, Int.fdiv_eq_ediv_of_nonneg _ (Int.natCast_nonneg _)]
  obtain ⟨n, rfl⟩ := Int.eq_ofNat_of_zero_le h0
  rw [Int.toNat_natCast]
  have e : (256 : Nat) ^ i = 2 ^ (8 * i) := by rw [Nat.pow_mul]
  show ((n / 2 ^ min (8 * i) 64 : Nat) : Int) = _
  by_cases hi : 8 * i ≤ 64
  · rw [Nat.min_eq_left hi, e]
  · rw [Nat.min_eq_right (by omega), e]
    have h2 : n / 2 ^ (8 * i) = 0 := Nat.div_eq_of_lt (Nat.lt_of_lt_of_le (show n < 2 ^ 64 by omega) (Nat.pow_le_pow_right (by omega) (by omega)))
    rw [h2, Nat.div_eq_of_lt (show n < 2 ^ 64 by omega)]
theorem set_mid {A B : List UInt8} {y : UInt8} {k : Nat} (hk : k < A.length) : (A.take (k + 1) ++ B).set k y = A.take k ++ (y :: B) := by
  have h1 : A.take (k + 1) = A.take k ++ [A[k]] := by rw [List.take_add_one, List.getElem?_eq_getElem hk]; rfl
  have h2 : (A.take k).length = k := by simp; omega
  rw [h1, List.append_assoc, List.set_append_right _ _ (by omega), h2, Nat.sub_self]
  rfl
theorem look_dup {k : Nat} {x y z : HB} {L : List (Nat × HB)} (h : x = y) (i : Nat) : look HB.none ((k, x) :: L) i = look HB.none ((k, y) :: (k, z) :: L) i := by
  subst h
  by_cases q : k = i
  · show (if k = i then x else _) = (if k = i then x else _)
    rw [if_pos q, if_pos q]
  · show (if k = i then x else look _ L i) = (if k = i then x else (if k = i then z else look _ L i))
    rw [if_neg q, if_neg q, if_neg q]
theorem c84 : PCalls 84 (fun xs N => be N.toNat xs.length) := by
  refine pcalls (n := 23) Try.func84 rfl rfl rfl rfl ?_
  intro B ac cur lo m N L hlo hm h0 h1
  have hml : ((cur.drop lo).take m).length = m := by simp; omega
  rw [hml]
  repeat' (first
      | exact True.intro
      | exact rfl
      | refine And.intro rfl ?_
      | refine awg_seq ?_
      | refine awg_region rfl ?_
      | refine awg_draw rfl (fun _ => rfl) (fun _ => rfl) ?_
      | refine awt_a rfl rfl rfl ?_ ?_
      | refine awt_b rfl rfl rfl rfl ?_ ?_
      | refine awt_c rfl rfl rfl ?_ ?_
      | refine awt_gt rfl rfl ?_
      | refine awt_gf rfl rfl rfl ?_
      | refine awt_gu rfl rfl rfl ?_
      | (refine awt_h rfl rfl rfl ?_ ?_ <;> intro hb)
      | refine awt_nil ?_
      | refine dq (by kernel_rfl) ?_
      | refine thnG_n ?_
      | refine thnG_r ?_
      | refine thnG_e ?_
      | refine awg_condT rfl ?_
      | refine awg_condF rfl ?_
      | (refine awg_cond rfl ?_ ?_ <;> intro hb)
      | refine awg_block ?_
      | refine blkG_n ?_
      | refine blkG_r ?_
      | refine blkG_e ?_
      | refine blkG_o rfl ?_
      | refine awg_ret ?_
      | refine awg_skip ?_
      | refine awg_label ?_
      | refine awg_exit ?_
      | refine retg_0 ?_
      | refine retg_1 rfl ?_
      | exact ResIs.tv rfl
      | exact ResIs.ts rfl
      | exact ResIs.tc rfl
      | exact ResIs.tn rfl rfl
      | exact ResIs.to rfl rfl
      | apply ResIs.tagg rfl
      | exact ResIs.cv rfl trivial
      | exact ResIs.cs rfl trivial
      | exact ResIs.cn rfl trivial rfl
      | exact ResIs.co rfl trivial rfl
      | apply ResIs.cagg rfl trivial
      | exact CoeL.nil
      | apply CoeL.v
      | apply CoeL.sl
      | apply CoeL.clp
      | apply CoeL.emp rfl
      | apply CoeL.own rfl
      | apply ret_one
      | apply ret_two
      | apply ret_three
      | exact rawq_r rfl
      | apply rawq_rc rfl
      | apply ownq_rv rfl rfl)
  have e0 : cur.take (lo + (m - 0)) ++ (be N.toNat 0 ++ cur.drop (lo + m)) = cur := List.take_append_drop _ _
  refine awg_loop (α := Nat) (fun i => ⟨23, [(0, o1 (.osub 1000 lo m)), (1, o1 (.v (.int .u64 N))), (5, o1 (.osub 1000 lo m)), (6, o1 (vI m)), (7, o1 (vI i))], (1000, .arr (cur.take (lo + (m - i)) ++ (be N.toNat i ++ cur.drop (lo + m)))) :: L⟩) (fun _ => 0) (fun i => i ≤ m) (fun i => m - i) 0 (Wk.trans (Wk.hs (fun i => by rw [e0])) (Wk.sub ⟨rfl, rfl, rfl, rfl, rfl, trivial⟩)) rfl (Nat.zero_le _) ?_
  rintro i hi
  by_cases him : i < m
  · have e1 : IntKind.i64.wrap (IntKind.i64.wrap ((m : Int) - 1) - i) = ((m - 1 - i : Nat) : Int) := by
      rw [i64w (n := (m : Int) - 1) (by omega) (by omega), i64w (by omega) (by omega)]; omega
    have e2 : IntKind.i64.wrap (8 * (i : Int)) = ((8 * i : Nat) : Int) := by
      rw [i64w (by omega) (by omega)]; omega
    have e3 := shr_be (i := i) h0 h1
    have e4 : IntKind.u8.wrap (N.fdiv (2 ^ min (IntKind.i64.wrap (8 * (i : Int))).toNat IntKind.u64.bits)) = ((N.toNat / 256 ^ i % 256 : Nat) : Int) := by
      rw [e2, Int.toNat_natCast]
      show IntKind.u8.wrap (N.fdiv (2 ^ min (8 * i) 64)) = _
      rw [e3, IntKind.wrap_u8]
      rfl
    have e5 : (cur.take (lo + (m - i)) ++ (be N.toNat i ++ cur.drop (lo + m))).length = cur.length := by
      simp [be_len]; omega
    have e6 : (cur.take (lo + (m - i)) ++ (be N.toNat i ++ cur.drop (lo + m))).set (lo + (m - 1 - i)) (UInt8.ofNat (N.toNat / 256 ^ i % 256)) = cur.take (lo + (m - (i + 1))) ++ (be N.toNat (i + 1) ++ cur.drop (lo + m)) := by
      rw [show lo + (m - i) = lo + (m - (i + 1)) + 1 by omega, show lo + (m - 1 - i) = lo + (m - (i + 1)) by omega, set_mid (by omega)]
      rfl
    repeat' (first
        | exact True.intro
        | exact rfl
        | refine And.intro rfl ?_
        | refine awg_seq ?_
        | refine awg_region rfl ?_
        | refine awg_draw rfl (fun _ => rfl) (fun _ => rfl) ?_
        | refine awt_a rfl rfl rfl ?_ ?_
        | refine awt_b rfl rfl rfl rfl ?_ ?_
        | refine awt_c rfl rfl rfl ?_ ?_
        | refine awt_gt rfl rfl ?_
        | refine awt_gf rfl rfl rfl ?_
        | refine awt_gu rfl rfl rfl ?_
        | (refine awt_h rfl rfl rfl ?_ ?_ <;> intro hb)
        | refine awt_nil ?_
        | refine dq (by kernel_rfl) ?_
        | refine thnG_n ?_
        | refine thnG_r ?_
        | refine thnG_e ?_
        | refine awg_condT rfl ?_
        | refine awg_condF rfl ?_
        | (refine awg_cond rfl ?_ ?_ <;> intro hb)
        | refine awg_block ?_
        | refine blkG_n ?_
        | refine blkG_r ?_
        | refine blkG_e ?_
        | refine blkG_o rfl ?_
        | refine awg_ret ?_
        | refine awg_skip ?_
        | refine awg_label ?_
        | refine awg_exit ?_
        | refine retg_0 ?_
        | refine retg_1 rfl ?_
        | exact ResIs.tv rfl
        | exact ResIs.ts rfl
        | exact ResIs.tc rfl
        | exact ResIs.tn rfl rfl
        | exact ResIs.to rfl rfl
        | apply ResIs.tagg rfl
        | exact ResIs.cv rfl trivial
        | exact ResIs.cs rfl trivial
        | exact ResIs.cn rfl trivial rfl
        | exact ResIs.co rfl trivial rfl
        | apply ResIs.cagg rfl trivial
        | exact CoeL.nil
        | apply CoeL.v
        | apply CoeL.sl
        | apply CoeL.clp
        | apply CoeL.emp rfl
        | apply CoeL.own rfl
        | apply ret_one
        | apply ret_two
        | apply ret_three
        | exact rawq_r rfl
        | apply rawq_rc rfl
        | apply ownq_rv rfl rfl)
    all_goals (try (exfalso; simp only [decide_eq_false_iff_not] at hb; omega))
    · rw [e2]; omega
    · rw [e1]; omega
    · rw [e4, e1, e5]; omega
    · refine ⟨i + 1, Wk.trans (Wk.hs (fun j => look_dup ?_ j)) (Wk.sub ⟨rfl, rfl, rfl, rfl, eqVI (by rw [i64w (by omega) (by omega)]; rfl), trivial⟩), rfl, by omega, by omega⟩
      rw [e4, e1, Int.toNat_natCast, Int.toNat_natCast, e6]
  · skip
    repeat' (first
        | exact True.intro
        | exact rfl
        | refine And.intro rfl ?_
        | refine awg_seq ?_
        | refine awg_region rfl ?_
        | refine awg_draw rfl (fun _ => rfl) (fun _ => rfl) ?_
        | refine awt_a rfl rfl rfl ?_ ?_
        | refine awt_b rfl rfl rfl rfl ?_ ?_
        | refine awt_c rfl rfl rfl ?_ ?_
        | refine awt_gt rfl rfl ?_
        | refine awt_gf rfl rfl rfl ?_
        | refine awt_gu rfl rfl rfl ?_
        | (refine awt_h rfl rfl rfl ?_ ?_ <;> intro hb)
        | refine awt_nil ?_
        | refine dq (by kernel_rfl) ?_
        | refine thnG_n ?_
        | refine thnG_r ?_
        | refine thnG_e ?_
        | refine awg_condT rfl ?_
        | refine awg_condF rfl ?_
        | (refine awg_cond rfl ?_ ?_ <;> intro hb)
        | refine awg_block ?_
        | refine blkG_n ?_
        | refine blkG_r ?_
        | refine blkG_e ?_
        | refine blkG_o rfl ?_
        | refine awg_ret ?_
        | refine awg_skip ?_
        | refine awg_label ?_
        | refine awg_exit ?_
        | refine retg_0 ?_
        | refine retg_1 rfl ?_
        | exact ResIs.tv rfl
        | exact ResIs.ts rfl
        | exact ResIs.tc rfl
        | exact ResIs.tn rfl rfl
        | exact ResIs.to rfl rfl
        | apply ResIs.tagg rfl
        | exact ResIs.cv rfl trivial
        | exact ResIs.cs rfl trivial
        | exact ResIs.cn rfl trivial rfl
        | exact ResIs.co rfl trivial rfl
        | apply ResIs.cagg rfl trivial
        | exact CoeL.nil
        | apply CoeL.v
        | apply CoeL.sl
        | apply CoeL.clp
        | apply CoeL.emp rfl
        | apply CoeL.own rfl
        | apply ret_one
        | apply ret_two
        | apply ret_three
        | exact rawq_r rfl
        | apply rawq_rc rfl
        | apply ownq_rv rfl rfl)
    all_goals (try (exfalso; simp only [decide_eq_true_eq] at hb; omega))
    refine ⟨?_, fun j hj => if_neg (fun q => hj q.symm)⟩
    have him' : i = m := by omega
    subst him'
    show HB.arr (cur.take (lo + (i - i)) ++ (be N.toNat i ++ cur.drop (lo + i))) = _
    rw [Nat.sub_self, Nat.add_zero, List.append_assoc]
end B
end Go.Proofs.Ytbmnhagbplkagaa
