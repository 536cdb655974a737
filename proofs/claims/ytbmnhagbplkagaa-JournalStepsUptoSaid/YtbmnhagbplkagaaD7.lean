import Derived.Test.YtbmnhagbplkagaaD6
/- The journal's plain laws: when a sector is what is written. -/
namespace Go.Proofs.Ytbmnhagbplkagaa
namespace B
open Go.RowKit

theorem numF_eq : ∀ (l : List UInt8) (n : Nat), numF n l = n * 256 ^ l.length + num l
  | [], n => by simp [numF]
  | c :: l, n => by
    have h1 := numF_eq l (256 * n + c.toNat)
    have h2 := numF_eq l (256 * 0 + c.toNat)
    show numF (256 * n + c.toNat) l = n * 256 ^ (l.length + 1) + numF (256 * 0 + c.toNat) l
    rw [h1, h2, Nat.pow_succ, Nat.add_mul, Nat.add_mul]
    have : 256 * n * 256 ^ l.length = n * (256 ^ l.length * 256) := by
      rw [Nat.mul_comm 256 n, Nat.mul_assoc, Nat.mul_comm 256]
    simp only [Nat.mul_zero, Nat.zero_mul]
    omega
theorem be_numF : ∀ (l : List UInt8) (n : Nat), be (numF n l) l.length = l
  | [], _ => rfl
  | c :: l, n => by
    have h0 := be_numF l (256 * n + c.toNat)
    have h1 := numF_eq l (256 * n + c.toNat)
    have h2 := num_lt l
    have hc := c.toNat_lt
    have h3 : numF (256 * n + c.toNat) l / 256 ^ l.length % 256 = c.toNat := by
      rw [h1, Nat.mul_comm, Nat.mul_add_div (Nat.pow_pos (by omega)), Nat.div_eq_of_lt h2]
      omega
    show UInt8.ofNat (numF (256 * n + c.toNat) l / 256 ^ l.length % 256) :: be (numF (256 * n + c.toNat) l) l.length = c :: l
    rw [h0, h3]
    simp
theorem num_be (n : Nat) : ∀ m, num (be n m) = n % 256 ^ m
  | 0 => by simp [be, numF, Nat.mod_one]
  | m + 1 => by
    have h1 := num_be n m
    have h2 := numF_eq (be n m) (n / 256 ^ m % 256)
    have h3 : (UInt8.ofNat (n / 256 ^ m % 256)).toNat = n / 256 ^ m % 256 := by
      rw [UInt8.toNat_ofNat_of_lt' (by show n / 256 ^ m % 256 < 256; omega)]
    show numF (256 * 0 + (UInt8.ofNat (n / 256 ^ m % 256)).toNat) (be n m) = _
    rw [h3, Nat.mul_zero, Nat.zero_add, h2, be_len, h1, Nat.pow_succ, Nat.mod_mul, Nat.mul_comm]
    omega
theorem be_eq {l : List UInt8} {n m : Nat} (hl : l.length = m) (hn : n < 256 ^ m) : l = be n m ↔ num l = n := by
  constructor
  · intro h
    rw [h, num_be, Nat.mod_eq_of_lt hn]
  · intro h
    have := be_numF l 0
    rw [hl] at this
    rw [← h]
    exact this.symm

/-- The middle of a sector, and what lies behind a record's bytes in it. -/
def midS (s : List UInt8) : List UInt8 := (s.take 124).drop 8
def restS (s : List UInt8) : List UInt8 := (s.take 124).drop (12 + lnS s)
theorem cut2 {α : Type} (s : List α) {a b : Nat} (h : a ≤ b) : s.take b = s.take a ++ (s.take b).drop a := by
  have := List.take_append_drop a (s.take b)
  rw [List.take_take, Nat.min_eq_left h] at this
  exact this.symm
theorem parts (s : List UInt8) : s = s.take 4 ++ ((s.take 8).drop 4 ++ (midS s ++ s.drop 124)) := by
  unfold midS
  have h1 := cut2 s (show 4 ≤ 8 by omega)
  have h2 := cut2 s (show 8 ≤ 124 by omega)
  rw [← List.append_assoc, ← List.append_assoc, ← h1, ← h2, List.take_append_drop]
theorem mid_parts {s : List UInt8} (hs : s.length = 128) (hn : lnS s ≤ 112) : midS s = (s.take 10).drop 8 ++ (kdS s :: UInt8.ofNat (dataS s).length :: (dataS s ++ restS s)) := by
  have hd : (dataS s).length = lnS s := by unfold dataS; rw [List.length_drop, List.length_take]; omega
  have h10 : (s.take 12).drop 10 = [kdS s, s.getD 11 0] := by
    have e1 : s.take 12 = s.take 11 ++ [s.getD 11 0] := take_getD 0 (by omega)
    have e2 : s.take 11 = s.take 10 ++ [s.getD 10 0] := take_getD 0 (by omega)
    rw [e1, e2, List.append_assoc, List.drop_left' (by simp; omega)]
    rfl
  have h11 : UInt8.ofNat (dataS s).length = s.getD 11 0 := by rw [hd]; unfold lnS; simp
  have e1 := cut2 s (show 8 ≤ 10 by omega)
  have e2 := cut2 s (show 10 ≤ 12 by omega)
  have e3 := cut2 s (show 12 ≤ 12 + lnS s by omega)
  have e4 := cut2 s (show 12 + lnS s ≤ 124 by omega)
  have e5 : s.take 124 = s.take 8 ++ ((s.take 10).drop 8 ++ ((s.take 12).drop 10 ++ (dataS s ++ restS s))) := by
    unfold dataS restS
    rw [← List.append_assoc, ← e1, ← List.append_assoc, ← e2, ← List.append_assoc, ← e3, ← e4]
  unfold midS
  rw [e5, List.drop_left' (by simp; omega), h10, h11]
  rfl
/-- The reference's view of a sector's form. -/
def goodR (s : List UInt8) (k : Nat) : Prop := num (s.take 4) ≠ 0 ∧ num (s.take 4) = num (s.drop 124) ∧ num ((s.take 8).drop 4) = crc (midS s) ∧ num ((s.take 10).drop 8) = k ∧ (kdS s).toNat ≤ 3 ∧ lnS s ≤ 112 ∧ ((kdS s).toNat < 2 → lnS s = 112) ∧ ((kdS s).toNat % 2 = 0 → lnS s ≠ 0) ∧ restS s = List.replicate (112 - lnS s) 0
theorem good_iff {s : List UInt8} {k : Nat} (hs : s.length = 128) (hk : k < 65536) : goodS s k = true ↔ goodR s k := by
  have hq : (kdS s).toNat ≤ 3 → (((kdS s).toNat / 2 % 2 = 0) ↔ (kdS s).toNat < 2) := fun h => by omega
  unfold goodS goodR
  rw [Bool.and_eq_true, form_iff, Bool.and_eq_true, decide_eq_true_eq, beq_iff_eq]
  have key : lnS s ≤ 112 → ((s = enc (num (s.take 4)) k (kdS s) (dataS s)) ↔ (num (s.take 4) = num (s.drop 124) ∧ num ((s.take 8).drop 4) = crc (midS s) ∧ num ((s.take 10).drop 8) = k ∧ restS s = List.replicate (112 - lnS s) 0)) := by
    intro hn
    have hd : (dataS s).length = lnS s := by unfold dataS; rw [List.length_drop, List.length_take]; omega
    have hP := parts s
    have hM := mid_parts hs hn
    have hb : (dataS s).length ≤ 112 := by omega
    have l1 : (s.take 4).length = 4 := by simp; omega
    have l2 : ((s.take 8).drop 4).length = 4 := by simp; omega
    have l3 : (midS s).length = 116 := by unfold midS; simp; omega
    have l4 : (s.drop 124).length = 4 := by simp; omega
    have l5 : ((s.take 10).drop 8).length = 2 := by simp; omega
    have n1 := num_lt (s.take 4)
    rw [l1] at n1
    have g1 : s.take 4 = be (num (s.take 4)) 4 := (be_eq l1 n1).2 rfl
    have eB : midS s = bodyS k (kdS s) (dataS s) ↔ (num ((s.take 10).drop 8) = k ∧ restS s = List.replicate (112 - lnS s) 0) := by
      unfold bodyS
      rw [hM]
      constructor
      · intro h
        obtain ⟨q1, q2⟩ := List.append_inj h (by rw [l5, be_len])
        simp only [List.cons.injEq, true_and] at q2
        have q3 := List.append_cancel_left q2
        exact ⟨(be_eq l5 (by omega)).1 q1, by rw [q3, hd]⟩
      · rintro ⟨q1, q2⟩
        rw [(be_eq l5 (show k < 256 ^ 2 by omega)).2 q1, q2, hd]
    constructor
    · intro h
      rw [hP] at h
      unfold enc at h
      obtain ⟨_, h2⟩ := List.append_inj h (by rw [← hP, l1, be_len])
      rw [← hP] at h2
      obtain ⟨h3, h4⟩ := List.append_inj h2 (by rw [l2, be_len])
      obtain ⟨h5, h6⟩ := List.append_inj h4 (by rw [l3, body_len hb])
      refine ⟨((be_eq l4 n1).1 h6).symm, ?_, eB.1 h5⟩
      rw [h5]
      exact (be_eq l2 (crc_lt _)).1 h3
    · rintro ⟨h1, h2, h3⟩
      have h5 := eB.2 h3
      have h4 := (be_eq l4 n1).2 h1.symm
      have h6 := (be_eq l2 (crc_lt (midS s))).2 h2
      rw [h5] at h6
      have : s = s.take 4 ++ ((s.take 8).drop 4 ++ (midS s ++ s.drop 124)) := hP
      unfold enc
      rw [← h6, ← h5]
      have hh : ∀ a b a' b' : List UInt8, a = a' → b = b' → a ++ ((s.take 8).drop 4 ++ (midS s ++ b)) = a' ++ ((s.take 8).drop 4 ++ (midS s ++ b')) := fun a b a' b' p q => by rw [p, q]
      exact this.trans (hh _ _ _ _ g1 h4)
  constructor
  · rintro ⟨⟨h1, h2, h3, h4⟩, h5, h6⟩
    obtain ⟨k1, k2, k3, k4⟩ := (key h1).1 h6
    exact ⟨by omega, k1, k2, k3, h2, h1, fun q => h3 ((hq h2).2 q), h4, k4⟩
  · rintro ⟨h0, k1, k2, k3, h2, h1, h3, h4, k4⟩
    exact ⟨⟨h1, h2, fun q => h3 ((hq h2).1 q), h4⟩, by omega, (key h1).2 ⟨k1, k2, k3, k4⟩⟩
end B
end Go.Proofs.Ytbmnhagbplkagaa
