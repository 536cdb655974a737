import Derived.Test.YtbmnhagbplkagaaD7
/- The journal's plain laws: what is read of sectors. -/
namespace Go.Proofs.Ytbmnhagbplkagaa
namespace B
open Go.RowKit

abbrev sec (l : List (List UInt8)) (n : Nat) : List UInt8 := l.getD n tB.dflt
/-- The generation that a sector bears, at its beginning and at its end. -/
def gnS (s : List UInt8) : Nat := num (s.take 4)
def gnE (s : List UInt8) : Nat := num (s.drop 124)
def begB (s : List UInt8) : Bool := decide ((kdS s).toNat % 2 = 1)
def endB (s : List UInt8) : Bool := decide (2 ≤ (kdS s).toNat)
/-- A sector that does not go on with the record that begins at a. -/
def badAt (l : List (List UInt8)) (a last n : Nat) : Bool := !goodS (sec l n) n || (begB (sec l n) != decide (n = a)) || decide (gnS (sec l n) ≠ gnS (sec l a)) || decide (gnS (sec l n) < last)
def jGo (l : List (List UInt8)) (a last : Nat) : Nat → Nat → List UInt8 → Option (List UInt8 × Nat)
  | 0, _, _ => none
  | f + 1, n, b => bif badAt l a last n then none else bif endB (sec l n) then some (b ++ dataS (sec l n), n + 1) else jGo l a last f (n + 1) (b ++ dataS (sec l n))
/-- The record that begins at a sector, and where it ends. -/
def jRec (l : List (List UInt8)) (a last : Nat) : Option (List UInt8 × Nat) := jGo l a last (l.length - a) a []
def jIts (l : List (List UInt8)) : Nat → Nat → Nat → List (List UInt8 × Nat)
  | 0, _, _ => []
  | f + 1, a, last => match jRec l a last with
    | none => []
    | some x => x :: jIts l f x.2 (gnS (sec l a))
/-- The records from a sector on, and where they end. -/
def its (l : List (List UInt8)) (a last : Nat) : List (List UInt8 × Nat) := jIts l (l.length - a) a last
def recs (l : List (List UInt8)) : List (List UInt8) := (its l 0 0).map (·.1)

theorem jGo_bound {l : List (List UInt8)} {a last : Nat} : ∀ (f n : Nat) (b : List UInt8) {x : List UInt8 × Nat}, jGo l a last f n b = some x → n < x.2 ∧ x.2 ≤ n + f
  | 0, _, _, _, h => by cases h
  | f + 1, n, b, x, h => by
    unfold jGo at h
    cases h1 : badAt l a last n with
    | true => rw [h1] at h; cases h
    | false =>
      rw [h1] at h
      cases h2 : endB (sec l n) with
      | true => rw [h2] at h; cases h; exact ⟨Nat.lt_succ_self _, by show n + 1 ≤ n + (f + 1); omega⟩
      | false =>
        rw [h2] at h
        have := jGo_bound f (n + 1) _ h
        omega
theorem jRec_bound {l : List (List UInt8)} {a last : Nat} {x : List UInt8 × Nat} (h : jRec l a last = some x) : a < x.2 ∧ x.2 ≤ l.length := by
  have h1 := jGo_bound _ _ _ h
  have h2 : ¬ l.length - a = 0 := fun q => by unfold jRec at h; rw [q] at h; cases h
  omega
theorem jIts_fuel {l : List (List UInt8)} : ∀ (f a last : Nat), l.length - a ≤ f → jIts l f a last = its l a last := by
  intro f
  induction f using Nat.strongRecOn with
  | _ f ih =>
    intro a last h
    unfold its
    by_cases hz : l.length - a = 0
    · have hn : jRec l a last = none := by unfold jRec; rw [hz]; rfl
      rw [hz]
      cases f with
      | zero => rfl
      | succ f => unfold jIts; rw [hn]
    · obtain ⟨m, hm⟩ : ∃ m, l.length - a = m + 1 := ⟨l.length - a - 1, by omega⟩
      obtain ⟨f', rfl⟩ : ∃ f', f = f' + 1 := ⟨f - 1, by omega⟩
      rw [hm]
      unfold jIts
      cases hr : jRec l a last with
      | none => rfl
      | some x =>
        have hb := jRec_bound hr
        show x :: jIts l f' x.2 _ = x :: jIts l m x.2 _
        rw [ih f' (by omega) x.2 _ (by omega)]
        by_cases hfm : m < f' + 1
        · rw [ih m hfm x.2 _ (by omega)]
        · omega
theorem its_eq (l : List (List UInt8)) (a last : Nat) : its l a last = match jRec l a last with
    | none => []
    | some x => x :: its l x.2 (gnS (sec l a)) := by
  have h := jIts_fuel (l := l) (l.length - a + 1) a last (by omega)
  rw [← h]
  unfold jIts
  cases hr : jRec l a last with
  | none => rfl
  | some x =>
    have hb := jRec_bound hr
    show x :: jIts l (l.length - a) x.2 _ = x :: its l x.2 _
    rw [jIts_fuel _ _ _ (by omega)]
theorem its_none {l : List (List UInt8)} {a last : Nat} (h : jRec l a last = none) : its l a last = [] := by rw [its_eq, h]
theorem its_some {l : List (List UInt8)} {a last : Nat} {x : List UInt8 × Nat} (h : jRec l a last = some x) : its l a last = x :: its l x.2 (gnS (sec l a)) := by rw [its_eq, h]
/-- One step within a record. -/
theorem jGo_step {l : List (List UInt8)} {a last n : Nat} {b : List UInt8} (hn : n < l.length) : jGo l a last (l.length - n) n b = bif badAt l a last n then none else bif endB (sec l n) then some (b ++ dataS (sec l n), n + 1) else jGo l a last (l.length - (n + 1)) (n + 1) (b ++ dataS (sec l n)) := by
  rw [show l.length - n = (l.length - (n + 1)) + 1 by omega]
  rfl
theorem jGo_end {l : List (List UInt8)} {a last n : Nat} {b : List UInt8} (hn : l.length ≤ n) : jGo l a last (l.length - n) n b = none := by
  rw [show l.length - n = 0 by omega]; rfl

/-- The generation alone holds the record back. -/
theorem jGo_last {l : List (List UInt8)} {a last : Nat} (h : last ≤ gnS (sec l a)) : ∀ (f n : Nat) (b : List UInt8), jGo l a last f n b = jGo l a 0 f n b
  | 0, _, _ => rfl
  | f + 1, n, b => by
    unfold jGo
    have e : badAt l a last n = badAt l a 0 n := by
      unfold badAt
      by_cases q : gnS (sec l n) = gnS (sec l a)
      · rw [q, decide_eq_false (show ¬ gnS (sec l a) < last by omega), decide_eq_false (show ¬ gnS (sec l a) < 0 by omega)]
      · rw [decide_eq_true q]; simp
    rw [e, jGo_last h f]
theorem jRec_last {l : List (List UInt8)} {a last : Nat} : jRec l a last = if gnS (sec l a) < last then none else jRec l a 0 := by
  by_cases h : gnS (sec l a) < last
  · rw [if_pos h]
    unfold jRec
    cases hf : l.length - a with
    | zero => rfl
    | succ f =>
      unfold jGo
      have : badAt l a last a = true := by
        unfold badAt
        rw [decide_eq_true h, Bool.or_true]
      rw [this]; rfl
  · rw [if_neg h]
    exact jGo_last (by omega) _ _ _
end B
end Go.Proofs.Ytbmnhagbplkagaa
