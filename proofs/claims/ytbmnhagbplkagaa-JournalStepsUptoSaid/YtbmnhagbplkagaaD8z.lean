import Derived.Test.YtbmnhagbplkagaaP1
/- The journal's plain laws: a sector that does not go on, as the code asks. -/
namespace Go.Proofs.Ytbmnhagbplkagaa
namespace B
open Go.RowKit

theorem tk4 (s : List UInt8) : (s.take (Int.toNat 4)).length ≤ 8 := by
  rw [List.length_take]; exact Nat.le_trans (Nat.min_le_left _ _) (by decide)
theorem gnR (s : List UInt8) : num (s.take (Int.toNat 4)) = gnS s := rfl
theorem kdR (s : List UInt8) : s.getD (Int.toNat 10) (Ty.dflt .u8) = kdS s := rfl
theorem lnR (s : List UInt8) : (s.getD (Int.toNat 11) (Ty.dflt .u8)).toNat = lnS s := rfl
theorem begR {x n a : Nat} {b : Bool} : (!((((x % 2 : Nat) : Int) != 0) == ((n : Int) == (a : Int)))) = b ↔ (b = true ↔ ¬ (x % 2 = 1 ↔ n = a)) := by
  have h0 : x % 2 = 0 ∨ x % 2 = 1 := by omega
  have h1 : ((n : Int) == (a : Int)) = decide (n = a) := by
    by_cases q : n = a
    · subst q; simp
    · rw [decide_eq_false q, beq_eq_false_iff_ne]; omega
  rw [h1]
  rcases h0 with h | h <;> rw [h] <;> by_cases q : n = a <;> cases b <;> simp [q]
theorem begR' {x n a : Nat} {b : Bool} : (!(((((x : Int) % 2) == 1)) == (((n : Int) - a) == 0))) = b ↔ (b = true ↔ ¬ (x % 2 = 1 ↔ n = a)) := by
  have h0 : (((x : Int) % 2) == 1) = decide (x % 2 = 1) := by
    by_cases q : x % 2 = 1
    · rw [decide_eq_true q, beq_iff_eq]; omega
    · rw [decide_eq_false q, beq_eq_false_iff_ne]; omega
  have h1 : (((n : Int) - a) == 0) = decide (n = a) := by
    by_cases q : n = a
    · subst q; simp
    · rw [decide_eq_false q, beq_eq_false_iff_ne]; omega
  rw [h0, h1]
  by_cases p : x % 2 = 1 <;> by_cases q : n = a <;> cases b <;> simp [p, q]
theorem good_formP {s : List UInt8} {k : Nat} (h : goodS s k = true) : lnS s ≤ 112 ∧ (kdS s).toNat ≤ 3 := by
  unfold goodS at h
  rw [Bool.and_eq_true] at h
  have := form_iff.1 h.1
  exact ⟨this.1, this.2.1⟩
theorem begT {x k : Nat} {b : Bool} : (!((((x : Int).tmod 2 == 1)) == ((k : Int) == 0))) = b ↔ (b = true ↔ ¬ (x % 2 = 1 ↔ k = 0)) := by
  have := begR' (x := x) (n := k) (a := 0) (b := b)
  rw [Int.natCast_zero, Int.sub_zero] at this
  rw [Int.tmod_eq_emod_of_nonneg (by omega)]
  exact this
theorem begTf {x k : Nat} (h : (!((((x : Int).tmod 2 == 1)) == ((k : Int) == 0))) = false) : x % 2 = 1 ↔ k = 0 := by
  have := begT.1 h
  refine Decidable.byContradiction fun q => ?_
  have := this.2 q
  cases this
section
variable {l : List (List UInt8)} {a last n : Nat}
theorem badAt_of (h : goodS (sec l n) n = false ∨ ¬ ((kdS (sec l n)).toNat % 2 = 1 ↔ n = a) ∨ gnS (sec l n) ≠ gnS (sec l a) ∨ gnS (sec l n) < last) : badAt l a last n = true := by
  unfold badAt begB
  rcases h with h | h | h | h
  · rw [h]; rfl
  · by_cases p : (kdS (sec l n)).toNat % 2 = 1 <;> by_cases q : n = a <;> simp_all
  · rw [decide_eq_true h]; simp
  · rw [decide_eq_true h]; simp
theorem badAt_no (h1 : goodS (sec l n) n = true) (h2 : (kdS (sec l n)).toNat % 2 = 1 ↔ n = a) (h3 : gnS (sec l n) = gnS (sec l a)) (h4 : ¬ gnS (sec l n) < last) : badAt l a last n = false := by
  unfold badAt begB
  have e : decide ((kdS (sec l n)).toNat % 2 = 1) = decide (n = a) := by
    by_cases q : n = a
    · rw [decide_eq_true (h2.2 q), decide_eq_true q]
    · rw [decide_eq_false (fun z => q (h2.1 z)), decide_eq_false q]
  rw [h1, e, decide_eq_false h4, decide_eq_false (not_not_intro h3)]
  simp
theorem endG {s : List UInt8} : decide (((kdS s).toNat : Int) ≥ 2) = endB s := by
  unfold endB
  by_cases q : 2 ≤ (kdS s).toNat
  · rw [decide_eq_true q, decide_eq_true]; omega
  · rw [decide_eq_false q, decide_eq_false]; omega
theorem endR (h : goodS (sec l n) n = true) : ((((2 * ((kdS (sec l n)).toNat / 2 % 2) : Nat) : Int)) != 0) = endB (sec l n) := by
  have := (good_formP h).2
  unfold endB
  by_cases q : 2 ≤ (kdS (sec l n)).toNat
  · rw [decide_eq_true q, bne_iff_ne]; omega
  · rw [decide_eq_false q, bne_eq_false_iff_eq]; omega
end
end B
end Go.Proofs.Ytbmnhagbplkagaa
