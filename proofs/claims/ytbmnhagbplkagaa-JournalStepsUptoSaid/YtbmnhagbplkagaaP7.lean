import Derived.Test.YtbmnhagbplkagaaP6
/- The journal's plain laws: a round of writing during which the disk may stop. -/
namespace Go.Proofs.Ytbmnhagbplkagaa
namespace B
open Go.RowKit

theorem DInv.mono {l K : List (List UInt8)} {G H : Nat} (h : DInv l K G) (hl : G ≤ H) : DInv l K H := ⟨h.one, h.len, h.all, h.rd, h.nb, fun s hs => by have := h.gen s hs; omega⟩
/-- What a sync of new records leads to: all of them are kept, or, on a disk that stops, a beginning. -/
theorem round {l K N : List (List UInt8)} {G : Nat} (h : DInv l K G) {left : Int} (h1 : -1 ≤ left) (h2 : left ≤ 65536) (hu : usedN K + usedN N ≤ l.length) (hG : G + 1 ≤ 4294967295) :
    (∃ y : Dk, jSync ⟨K ++ N, l.length, K.length⟩ ⟨l, [], left, false⟩ = (⟨K ++ N, l.length, (K ++ N).length⟩, y, 0) ∧ DInv y.ss (K ++ N) (G + 1) ∧ y.ss.length = l.length) ∨
      (0 ≤ left ∧ ∃ (y : Dk) (m : Nat), jSync ⟨K ++ N, l.length, K.length⟩ ⟨l, [], left, false⟩ = (jz, y, 40) ∧ DInv y.ss (K ++ N.take m) (G + 1) ∧ y.ss.length = l.length) := by
  have hs := jSync_open h h1 h2 hu hG
  have hg := h.genS
  by_cases hN : N = []
  · left
    subst hN
    rw [if_pos rfl] at hs
    refine ⟨⟨l, [], left, false⟩, ?_, ?_, rfl⟩
    · rw [hs, List.append_nil]
    · rw [List.append_nil]; exact h.mono (by omega)
  · rw [if_neg hN] at hs
    have hb := wDk_bad (N := N) h h1 h2 hu
    have hlen : (wrs (genS l) (usedN K) (pcsL N)).length = usedN N := by rw [wrs_len, pcsL_len]
    cases hst : (wDk l K N left).stops with
    | false =>
      left
      rw [sync_go hb hst] at hs
      refine ⟨(wDk l K N left).done, ?_, h.full hN hu (by omega), perf_len _ _⟩
      rw [hs]
      rfl
    | true =>
      right
      rw [sync_stop hb hst] at hs
      have hst' : (decide (left ≥ 0) && decide (left < ((wrs (genS l) (usedN K) (pcsL N)).length : Int))) = true := hst
      rw [Bool.and_eq_true, decide_eq_true_eq, decide_eq_true_eq, hlen] at hst'
      refine ⟨hst'.1, (wDk l K N left).torn, cnt N left.toNat, ?_, ?_, ?_⟩
      · rw [hs]; rfl
      · exact h.stop (c := left.toNat) (by omega) hu (by omega)
      · show (dTorn (perf l _) _).length = l.length
        unfold dTorn
        rw [List.length_set, perf_len]
end B
end Go.Proofs.Ytbmnhagbplkagaa
