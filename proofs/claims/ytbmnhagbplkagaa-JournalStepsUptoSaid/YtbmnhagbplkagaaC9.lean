import Derived.Test.YtbmnhagbplkagaaC8
/- The disk as data: what writes, reads and syncs do, in plain terms. -/
namespace Go.Proofs.Ytbmnhagbplkagaa
namespace B
open Go.RowKit

theorem dBad_iff {ss : List (List UInt8)} {ps : List (Int × List UInt8)} {left : Int} : dBad ss ps left = false ↔ (1 ≤ ss.length ∧ ss.length ≤ 4096 ∧ ps.length ≤ 4096 ∧ -1 ≤ left ∧ left ≤ 65536 ∧ (∀ w ∈ ps, 0 ≤ w.1 ∧ w.1 < ss.length ∧ w.2.length = 128) ∧ ∀ b ∈ ss, b.length = 128) := by
  constructor
  · intro h
    have h1 := dBad_at h
    have h2 := dBad_ss h
    simp only [dBad, Bool.or_eq_false_iff, decide_eq_false_iff_not] at h
    exact ⟨by omega, by omega, by omega, by omega, by omega, h1, h2⟩
  · rintro ⟨h1, h2, h3, h4, h5, h6, h7⟩
    simp only [dBad, Bool.or_eq_false_iff, decide_eq_false_iff_not, List.any_eq_false]
    refine ⟨⟨⟨⟨⟨⟨by omega, by omega⟩, by omega⟩, by omega⟩, by omega⟩, fun w hw => ?_⟩, fun b hb => ?_⟩
    · have := h6 w hw
      simp; omega
    · simp [h7 b hb]
theorem bad_iff {d : Dk} : d.bad = false ↔ dBad d.ss d.ps d.left = false ∧ d.st = false := by
  simp [Dk.bad]
theorem has_iff {d : Dk} {a : Int} : d.has a = true ↔ 0 ≤ a ∧ a < d.ss.length := by
  simp only [Dk.has, Bool.not_eq_true', Bool.or_eq_false_iff, decide_eq_false_iff_not]; omega

theorem pad_len {b : List UInt8} (h : b.length ≤ 128) : (pad b).length = 128 := by
  simp [pad]; omega
theorem pad_take {b : List UInt8} : (pad b).take b.length = b := by
  simp [pad]

/-- A disk with one write more. -/
def Dk.add (d : Dk) (a : Int) (b : List UInt8) : Dk := ⟨d.ss, d.ps ++ [(a, pad b)], d.left, d.st⟩
theorem write_ok {d : Dk} {a : Int} {b : List UInt8} (h : d.bad = false) (ha : d.has a = true) (hb : b.length ≤ 128) (hp : d.ps.length ≠ 4096) : dWrite d a b = (d.add a b, 0) := by
  unfold dWrite
  rw [h, ha, show decide ((b.length : Int) > 128) = false by simp; omega, show ((d.ps.length : Int) == 4096) = false by simp; omega]
  rfl
theorem add_bad {d : Dk} {a : Int} {b : List UInt8} (h : d.bad = false) (ha : d.has a = true) (hb : b.length ≤ 128) (hp : d.ps.length ≠ 4096) : (d.add a b).bad = false := by
  rw [bad_iff] at h ⊢
  obtain ⟨h, hst⟩ := h
  rw [has_iff] at ha
  refine ⟨?_, hst⟩
  rw [dBad_iff] at h ⊢
  obtain ⟨h1, h2, h3, h4, h5, h6, h7⟩ := h
  refine ⟨h1, h2, ?_, h4, h5, fun w hw => ?_, h7⟩
  · simp only [Dk.add, List.length_append, List.length_singleton]; omega
  · rcases List.mem_append.1 hw with hw | hw
    · exact h6 w hw
    · simp at hw; subst hw
      exact ⟨ha.1, ha.2, pad_len hb⟩
theorem write_res {d : Dk} {a : Int} {b : List UInt8} (h : (dWrite d a b).2 = 0) : d.bad = false ∧ d.has a = true ∧ b.length ≤ 128 ∧ d.ps.length ≠ 4096 := by
  unfold dWrite at h
  cases h1 : d.bad || !d.has a with
  | true => rw [h1] at h; simp at h
  | false =>
    rw [h1] at h
    cases h2 : decide ((b.length : Int) > 128) with
    | true => rw [h2] at h; simp at h
    | false =>
      rw [h2] at h
      cases h3 : (d.ps.length : Int) == 4096 with
      | true => rw [h3] at h; simp at h
      | false =>
        simp at h1 h2 h3
        exact ⟨h1.1, h1.2, by omega, by omega⟩
theorem read_res {d : Dk} {a : Int} (h : (dRead d a).2 = 0) : d.bad = false ∧ d.has a = true := by
  unfold dRead at h
  cases h1 : d.bad || !d.has a with
  | true => rw [h1] at h; simp at h
  | false => simp at h1; exact h1
theorem read_ok {d : Dk} {a : Int} (h : d.bad = false) (ha : d.has a = true) : dRead d a = (lastAt d.ps a (d.ss.getD a.toNat []), 0) := by
  unfold dRead
  rw [h, ha]; rfl
theorem lastAt_append (a : Int) (w : Int × List UInt8) : ∀ (l : List (Int × List UInt8)) (b : List UInt8), lastAt (l ++ [w]) a b = bif w.1 == a then w.2 else lastAt l a b
  | [], b => rfl
  | x :: l, b => by rw [List.cons_append, lastAt, lastAt_append a w l, lastAt]

/-- What is left of the writes that may be done. -/
def Dk.rest (d : Dk) : Int := bif decide (d.left ≥ 0) then d.left - d.ps.length else d.left
def Dk.done (d : Dk) : Dk := ⟨perf d.ss d.ps, [], d.rest, false⟩
def Dk.stops (d : Dk) : Bool := decide (d.left ≥ 0) && decide (d.left < d.ps.length)
def Dk.torn (d : Dk) : Dk := ⟨dTorn (perf d.ss (d.ps.take d.left.toNat)) (d.ps.getD d.left.toNat (0, [])), [], 0, true⟩
theorem sync_go {d : Dk} (h : d.bad = false) (hs : d.stops = false) : dSync d = (d.done, 0) := by
  unfold dSync
  unfold Dk.stops at hs
  rw [h, hs]; rfl
theorem sync_stop {d : Dk} (h : d.bad = false) (hs : d.stops = true) : dSync d = (d.torn, 40) := by
  unfold dSync
  unfold Dk.stops at hs
  rw [h, hs]; rfl
theorem done_bad {d : Dk} (h : d.bad = false) (hs : d.stops = false) : d.done.bad = false := by
  rw [bad_iff] at h ⊢
  obtain ⟨h, hst⟩ := h
  refine ⟨?_, rfl⟩
  rw [dBad_iff] at h ⊢
  obtain ⟨h1, h2, h3, h4, h5, h6, h7⟩ := h
  have hr : -1 ≤ d.rest ∧ d.rest ≤ 65536 := by
    unfold Dk.stops at hs
    unfold Dk.rest
    by_cases q : d.left ≥ 0
    · rw [show decide (d.left ≥ 0) = true by simp [q], Bool.true_and, decide_eq_false_iff_not] at hs
      rw [show decide (d.left ≥ 0) = true by simp [q]]
      simp only [cond_true]; omega
    · rw [show decide (d.left ≥ 0) = false by simp; omega]
      simp only [cond_false]; omega
  refine ⟨?_, ?_, by simp [Dk.done], hr.1, hr.2, by simp [Dk.done], ?_⟩
  · show 1 ≤ (perf d.ss d.ps).length; rw [perf_len]; exact h1
  · show (perf d.ss d.ps).length ≤ _; rw [perf_len]; exact h2
  · exact perf_all _ _ h7 (fun w hw => (h6 w hw).2.2)
theorem perf_get (k : Nat) : ∀ (l : List (Int × List UInt8)) (ss : List (List UInt8)), k < ss.length → (∀ w ∈ l, 0 ≤ w.1) → (perf ss l).getD k [] = lastAt l k (ss.getD k [])
  | [], _, _, _ => rfl
  | w :: l, ss, hk, hl => by
    rw [perf, lastAt, perf_get k l _ (by simpa using hk) (fun w hw => hl w (by simp [hw]))]
    congr 1
    have h0 := hl w (by simp)
    rw [List.getD_eq_getElem?_getD, List.getD_eq_getElem?_getD, List.getElem?_set]
    by_cases q : w.1 = k
    · rw [show w.1.toNat = k by omega, if_pos rfl, if_pos hk, show (w.1 == (k : Int)) = true by simp [q]]
      rfl
    · rw [if_neg (by omega), show (w.1 == (k : Int)) = false by simp [q]]
      rfl
theorem perf_append (ss : List (List UInt8)) (l m : List (Int × List UInt8)) : perf ss (l ++ m) = perf (perf ss l) m := by
  induction l generalizing ss with
  | nil => rfl
  | cons w l ih => exact ih _

theorem cR {d : Dk} {a : Int} {x : List UInt8 × Int} (h : dRead d a = x) : ACalls 28 [aD d.ss d.ps d.left d.st, o1 (vI a)] (aRB x) := by
  rw [← h]; exact c28 _ _ _ _ _
theorem cW {d : Dk} {a : Int} {b : List UInt8} {x : Dk × Int} (h : dWrite d a b = x) : ACalls 26 [aD d.ss d.ps d.left d.st, o1 (vI a), aB b] (aRD x) := by
  rw [← h]; exact c26 _ _ _ _ _ _
theorem cS {d : Dk} {x : Dk × Int} (h : dSync d = x) : ACalls 30 [aD d.ss d.ps d.left d.st] (aRD x) := by
  rw [← h]; exact c30 _ _ _ _
theorem cT {d : Dk} {l : Int} {x : Dk × Int} (h : dStop d l = x) : ACalls 32 [aD d.ss d.ps d.left d.st, o1 (vI l)] (aRD x) := by
  rw [← h]; exact c32 _ _ _ _ _
theorem cN {n : Int} {x : Dk × Int} (h : dNew n = x) : ACalls 19 [o1 (vI n)] (aRD x) := by
  rw [← h]; exact c19 _
end B
end Go.Proofs.Ytbmnhagbplkagaa
