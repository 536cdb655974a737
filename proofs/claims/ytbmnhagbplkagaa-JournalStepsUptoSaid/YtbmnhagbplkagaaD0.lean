import Derived.Test.YtbmnhagbplkagaaC2
/- The journal's plain laws: sizes. -/
namespace Go.Proofs.Ytbmnhagbplkagaa
namespace B
open Go.RowKit

/-- How many sectors a record of so many bytes occupies. -/
def secN (n : Nat) : Nat := max 1 ((n + 111) / 112)
theorem secN_le (n : Nat) : secN n ≤ 1 + n := by unfold secN; omega
theorem secN_pos (n : Nat) : 1 ≤ secN n := by unfold secN; omega
theorem le_secN (n : Nat) : n ≤ 112 * secN n := by unfold secN; omega
def usedN : List (List UInt8) → Nat
  | [] => 0
  | b :: l => secN b.length + usedN l
/-- The bytes of records, and one for each. -/
def szR : List (List UInt8) → Nat
  | [] => 0
  | b :: l => 1 + b.length + szR l
theorem usedN_app : ∀ (l m : List (List UInt8)), usedN (l ++ m) = usedN l + usedN m
  | [], m => by simp [usedN]
  | b :: l, m => by simp [usedN, usedN_app l m]; omega
theorem szR_app : ∀ (l m : List (List UInt8)), szR (l ++ m) = szR l + szR m
  | [], m => by simp [szR]
  | b :: l, m => by simp [szR, szR_app l m]; omega
theorem usedN_le : ∀ l : List (List UInt8), usedN l ≤ szR l
  | [] => Nat.le_refl _
  | b :: l => by have := usedN_le l; have := secN_le b.length; simp only [usedN, szR]; omega
theorem len_le_usedN : ∀ l : List (List UInt8), l.length ≤ usedN l
  | [] => Nat.le_refl _
  | b :: l => by have := len_le_usedN l; have := secN_pos b.length; simp only [usedN, List.length_cons]; omega
theorem len_le_szR (l : List (List UInt8)) : l.length ≤ szR l := Nat.le_trans (len_le_usedN l) (usedN_le l)
theorem szR_le_used : ∀ l : List (List UInt8), szR l ≤ 113 * usedN l
  | [] => Nat.le_refl _
  | b :: l => by have := szR_le_used l; have := le_secN b.length; have := secN_pos b.length; simp only [usedN, szR]; omega
theorem take_getD {α : Type} (d : α) {l : List α} {i : Nat} (h : i < l.length) : l.take (i + 1) = l.take i ++ [l.getD i d] := by
  rw [List.take_add_one, List.getElem?_eq_getElem h, List.getD_eq_getElem?_getD, List.getElem?_eq_getElem h]; rfl
theorem usedN_step {l : List (List UInt8)} {i : Nat} (h : i < l.length) : usedN (l.take (i + 1)) = usedN (l.take i) + secN (List.length (l.getD i tB.dflt)) := by
  rw [take_getD tB.dflt h, usedN_app]; rfl
theorem szR_step {l : List (List UInt8)} {i : Nat} (h : i < l.length) : szR (l.take (i + 1)) = szR (l.take i) + (1 + (List.length (l.getD i tB.dflt))) := by
  rw [take_getD tB.dflt h, szR_app]; rfl
theorem usedN_take (l : List (List UInt8)) (i : Nat) : usedN (l.take i) ≤ usedN l := by
  have h := usedN_app (l.take i) (l.drop i)
  rw [List.take_append_drop] at h; omega
theorem szR_take (l : List (List UInt8)) (i : Nat) : szR (l.take i) ≤ szR l := by
  have h := szR_app (l.take i) (l.drop i)
  rw [List.take_append_drop] at h; omega
theorem szR_get {l : List (List UInt8)} {i : Nat} (h : i < l.length) : (List.length (l.getD i tB.dflt)) < szR l := by
  have h1 := szR_step h
  have h2 := szR_take l (i + 1)
  omega
/-- The sectors that records occupy, as the machine counts them. -/
def usedI (l : List (List UInt8)) : Int := IntKind.i64.wrap (usedN l)
theorem usedI_eq {l : List (List UInt8)} (h : usedN l ≤ 1152921504606846976) : usedI l = usedN l := i64w (by omega) (by omega)
theorem usedI_step {l : List (List UInt8)} {i : Nat} (h : i < l.length) : IntKind.i64.wrap (usedI (l.take i) + (secN (List.length (l.getD i tB.dflt)) : Int)) = usedI (l.take (i + 1)) := by
  unfold usedI
  rw [usedN_step h]
  simp only [IntKind.wrap_i64]
  omega
theorem usedI_rng (l : List (List UInt8)) : -9223372036854775808 ≤ usedI l ∧ usedI l ≤ 9223372036854775807 := by
  unfold usedI
  simp only [IntKind.wrap_i64]
  omega
/-- A journal is not valid. -/
def jBad (rs : List (List UInt8)) (many synced : Int) : Bool := decide (many < 1) || decide (many > 4096) || decide (synced < 0) || decide (synced > rs.length) || decide (usedI rs > many)
def jChk (rs : List (List UInt8)) (many synced : Int) : Int := bif jBad rs many synced then 1 else 0
def jRoom (rs : List (List UInt8)) (many synced : Int) : Int := bif jBad rs many synced then 0 else IntKind.i64.wrap (112 * IntKind.i64.wrap (many - usedI rs))
theorem jGood {rs : List (List UInt8)} {many synced : Int} (h : jBad rs many synced = false) : 1 ≤ many ∧ many ≤ 4096 ∧ 0 ≤ synced ∧ synced ≤ rs.length ∧ usedI rs ≤ many := by
  simp only [jBad, Bool.or_eq_false_iff, decide_eq_false_iff_not] at h; omega
/-- A journal. -/
structure Jr where
  rs : List (List UInt8)
  many : Int
  synced : Int
def jApp (j : Jr) (b : List UInt8) : Jr × Int :=
  if jBad j.rs j.many j.synced = true then (⟨[], 0, 0⟩, 1) else if (secN b.length : Int) > IntKind.i64.wrap (j.many - usedI j.rs) then (⟨[], 0, 0⟩, 2) else (⟨j.rs ++ [b], j.many, j.synced⟩, 0)
/-- The size of records, as the machine counts it. -/
def szI (l : List (List UInt8)) : Int := IntKind.i64.wrap (szR l)
theorem szI_step {l : List (List UInt8)} {i : Nat} (h : i < l.length) (_ : List.length (l.getD i tB.dflt) ≤ 1152921504606846976) : IntKind.i64.wrap (szI (l.take i) + IntKind.i64.wrap (1 + (List.length (l.getD i tB.dflt) : Int))) = szI (l.take (i + 1)) := by
  unfold szI
  rw [szR_step h]
  simp only [IntKind.wrap_i64]
  omega
theorem eq_step {l m : List (List UInt8)} {i : Nat} (hl : l.length = m.length) (h : i < l.length) : (l.drop i = m.drop i) ↔ (l.getD i tB.dflt = m.getD i tB.dflt ∧ l.drop (i + 1) = m.drop (i + 1)) := by
  rw [drop_step tB.dflt h, drop_step tB.dflt (show i < m.length by omega), List.cons.injEq]
end B
end Go.Proofs.Ytbmnhagbplkagaa
