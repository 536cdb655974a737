import Derived.Test.YtbmnhagbplkagaaP5
/- The journal's plain laws: a damaged byte. -/
namespace Go.Proofs.Ytbmnhagbplkagaa
namespace B
open Go.RowKit

theorem cnt_spec : ∀ (N : List (List UInt8)) (c i : Nat), i < N.length → (usedN (N.take (i + 1)) ≤ c ↔ i < cnt N c)
  | b :: N, c, 0, _ => by
    rw [cnt_cons]
    simp only [List.take_succ_cons, List.take_zero, usedN]
    by_cases q : secN b.length ≤ c
    · rw [if_pos q]; omega
    · rw [if_neg q]; omega
  | b :: N, c, i + 1, h => by
    rw [cnt_cons]
    simp only [List.take_succ_cons, usedN]
    have h' : i < N.length := by simpa using h
    by_cases q : secN b.length ≤ c
    · rw [if_pos q]
      have := cnt_spec N (c - secN b.length) i h'
      omega
    · rw [if_neg q]; omega
/-- Where the records end. -/
def endsL (N : List (List UInt8)) : List Int := (List.range N.length).map (fun i => (usedN (N.take (i + 1)) : Int))
theorem endsL_len (N : List (List UInt8)) : (endsL N).length = N.length := by simp [endsL]
theorem endsL_get (N : List (List UInt8)) (i : Nat) (h : i < N.length) : (endsL N).getD i 0 = (usedN (N.take (i + 1)) : Int) := by
  rw [List.getD_eq_getElem?_getD]
  simp [endsL, h]
theorem endsL_snoc (N : List (List UInt8)) (b : List UInt8) : endsL (N ++ [b]) = endsL N ++ [((usedN N + secN b.length : Nat) : Int)] := by
  unfold endsL
  rw [List.length_append, List.length_singleton, List.range_succ, List.map_append]
  congr 1
  · apply List.map_congr_left
    intro i hi
    have : i < N.length := List.mem_range.1 hi
    rw [List.take_append_of_le_length (by omega)]
  · simp only [List.map_cons, List.map_nil]
    rw [List.take_of_length_le (by simp), usedN_app]; rfl
theorem endsL_last (N : List (List UInt8)) (h : N ≠ []) : (endsL N).getD (N.length - 1) 0 = (usedN N : Int) := by
  have h0 : 0 < N.length := List.length_pos_iff.2 h
  rw [endsL_get N _ (by omega), show N.length - 1 + 1 = N.length by omega, List.take_length]
theorem used_pos {N : List (List UInt8)} (h : N ≠ []) : 0 < usedN N := by
  cases N with
  | nil => exact absurd rfl h
  | cons b N => have := secN_pos b.length; simp only [usedN]; omega

/-- A new disk with records on it. -/
def wZ (n : Nat) (N : List (List UInt8)) : List (List UInt8) := perf (List.replicate n zSec) (wrs 1 0 (pcsL N))
theorem genS_rep (n : Nat) (h1 : 1 ≤ n) (h2 : n ≤ 4096) : genS (List.replicate n zSec) = 1 := by
  have h := (new_inv n h1 h2).genS
  have := genS_pos (List.replicate n zSec)
  omega
theorem sync_new (n : Nat) (h1 : 1 ≤ n) (h2 : n ≤ 4096) (N : List (List UInt8)) (hu : usedN N ≤ n) (hN : N ≠ []) : jSync ⟨N, n, 0⟩ ⟨List.replicate n zSec, [], -1, false⟩ = (⟨N, n, N.length⟩, ⟨wZ n N, [], -1, false⟩, 0) := by
  have hi := new_inv n h1 h2
  have hlen : (List.replicate n zSec).length = n := List.length_replicate
  have h := jSync_open (N := N) hi (left := -1) (by omega) (by omega) (by rw [hlen]; simp only [usedN]; omega) (by omega)
  have hb := wDk_bad (N := N) hi (left := -1) (by omega) (by omega) (by rw [hlen]; simp only [usedN]; omega)
  have hs : (wDk (List.replicate n zSec) [] N (-1)).stops = false := rfl
  rw [if_neg hN, sync_go hb hs] at h
  rw [if_neg (by simp), hlen] at h
  have e : (wDk (List.replicate n zSec) [] N (-1)).done = ⟨wZ n N, [], -1, false⟩ := by
    unfold Dk.done wDk Dk.rest wZ
    dsimp only
    rw [genS_rep n h1 h2]; rfl
  rw [e] at h
  exact h
theorem sync_new0 (n : Nat) (h1 : 1 ≤ n) (h2 : n ≤ 4096) : jSync ⟨[], n, 0⟩ ⟨List.replicate n zSec, [], -1, false⟩ = (⟨[], n, 0⟩, ⟨List.replicate n zSec, [], -1, false⟩, 0) := by
  have hi := new_inv n h1 h2
  have hlen : (List.replicate n zSec).length = n := List.length_replicate
  have h := jSync_open (N := []) hi (left := -1) (by omega) (by omega) (by simp only [usedN]; omega) (by omega)
  rw [if_pos rfl, hlen] at h
  exact h
theorem wZ_len (n : Nat) (N : List (List UInt8)) : (wZ n N).length = n := by
  unfold wZ; rw [perf_len, List.length_replicate]
theorem wZ_inv (n : Nat) (h1 : 1 ≤ n) (h2 : n ≤ 4096) (N : List (List UInt8)) (hu : usedN N ≤ n) (hN : N ≠ []) : DInv (wZ n N) N 1 := by
  have hi := new_inv n h1 h2
  have hg := genS_rep n h1 h2
  have := hi.full hN (by rw [List.length_replicate]; simp only [usedN]; omega) (by rw [hg]; decide)
  rw [hg] at this
  exact this
theorem wZ_wr (n : Nat) (N : List (List UInt8)) (hu : usedN N ≤ n) : Wr (wZ n N) 1 0 (pcsL N) := perf_in 1 (pcsL N) _ 0 (by rw [pcsL_len, List.length_replicate]; omega)
/-- One byte of one sector changed: the records before it are left. -/
theorem damage (n : Nat) (h1 : 1 ≤ n) (h2 : n ≤ 4096) (N : List (List UInt8)) (hu : usedN N ≤ n) (k i : Nat) (x : UInt8) (hk : k < usedN N) (hi : i < 128) (hx : x ≠ (sec (wZ n N) k).getD i 0) : recs ((wZ n N).set k ((sec (wZ n N) k).set i x)) = N.take (cnt N k) := by
  have hZ := new_inv n h1 h2
  have hlr : (List.replicate n zSec).length = n := List.length_replicate
  have hw := wZ_wr n N hu
  have hpl := pcsL_len N
  have hkl : k < (pcsL N).length := by omega
  have hg := hw.get k _ (List.getElem?_eq_getElem hkl)
  rw [Nat.zero_add] at hg
  have hgood : goodS (sec (wZ n N) k) k = true := by
    rw [hg]
    exact enc_good (by decide) (by decide) (pcsL_ok N _ (List.getElem_mem hkl))
  have hbad := damaged (k := k) (by omega) hgood hi hx
  obtain ⟨l', hl'⟩ : ∃ l', l' = (wZ n N).set k ((sec (wZ n N) k).set i x) := ⟨_, rfl⟩
  rw [← hl']
  have hlen' : l'.length = (List.replicate n zSec).length := by rw [hl', List.length_set, wZ_len, hlr]
  have hrz : recs (List.replicate n zSec) = [] := hZ.rd
  have hsk : sec l' k = (sec (wZ n N) k).set i x := by rw [hl']; exact sec_set_eq (by rw [wZ_len]; omega)
  have hin : Wr l' 1 0 ((pcsL N).take k) := by
    have h3 : Wr (wZ n N) 1 0 ((pcsL N).take k) := by
      have h4 := hw
      rw [← List.take_append_drop k (pcsL N), Wr.app] at h4
      exact h4.1
    refine h3.loc (fun p _ hp => ?_)
    have : p < k := by rw [List.length_take] at hp; omega
    rw [hl']; exact sec_set_ne (by omega)
  have := sync_read (l := List.replicate n zSec) (l' := l') (g := 1) (N := N) (c := k) hlen' (by decide) (fun p => by have := sec_gen (l := List.replicate n zSec) p; rw [genS_rep n h1 h2] at this; exact this) (fun p hp => by rw [hrz] at hp; simp [usedN] at hp) (by rw [hrz, hlr]; simp only [usedN]; omega) (by omega) (by rw [hrz]; exact hin) (fun _ => by rw [hrz]; simp only [usedN, Nat.zero_add]; rw [hsk]; exact hbad) (fun q => by omega)
  rw [hrz, List.nil_append] at this
  exact this
theorem xor_byte (c d : UInt8) (h : d ≠ 0) : UInt8.ofNat (IntKind.u8.wrap ((BitVec.ofInt IntKind.u8.bits (c.toNat : Int) ^^^ BitVec.ofInt IntKind.u8.bits (d.toNat : Int)).toNat : Nat)).toNat ≠ c := by
  have hc := c.toNat_lt
  have hd := d.toNat_lt
  have h1 : (BitVec.ofInt 8 (c.toNat : Int)).toNat = c.toNat := by simp []
  have h2 : (BitVec.ofInt 8 (d.toNat : Int)).toNat = d.toNat := by simp []
  have h3 : (BitVec.ofInt IntKind.u8.bits (c.toNat : Int) ^^^ BitVec.ofInt IntKind.u8.bits (d.toNat : Int)).toNat = c.toNat ^^^ d.toNat := by
    show (BitVec.ofInt 8 (c.toNat : Int) ^^^ BitVec.ofInt 8 (d.toNat : Int)).toNat = _
    rw [BitVec.toNat_xor, h1, h2]
  have h4 : c.toNat ^^^ d.toNat < 256 := Nat.xor_lt_two_pow (n := 8) hc hd
  rw [h3, u8w (by omega) (by omega), Int.toNat_natCast]
  intro q
  have h5 := congrArg UInt8.toNat q
  rw [UInt8.toNat_ofNat_of_lt' h4] at h5
  have h6 : d.toNat = 0 := by
    have := congrArg (c.toNat ^^^ ·) h5
    simpa [← Nat.xor_assoc] using this
  exact h (UInt8.toNat_inj.1 h6)
theorem set_ok {l K : List (List UInt8)} {G : Nat} (h : DInv l K G) {k : Nat} {s : List UInt8} (hs : s.length = 128) : dBad (l.set k s) [] (-1) = false := by
  refine dBad_iff.2 ⟨by rw [List.length_set]; exact h.one, by rw [List.length_set]; exact h.len, by simp, by omega, by omega, (fun w hw => by cases hw), fun b hb => ?_⟩
  rcases List.mem_or_eq_of_mem_set hb with hb | hb
  · exact h.all b hb
  · rw [hb]; exact hs
theorem pad_full {s : List UInt8} (h : s.length = 128) : pad s = s := by
  unfold pad; rw [h]; simp
/-- A sector written and synced on a disk that waits for nothing. -/
theorem write_one {l K : List (List UInt8)} {G : Nat} (h : DInv l K G) {k : Nat} (hk : k < l.length) {s : List UInt8} (hs : s.length = 128) : dWrite ⟨l, [], -1, false⟩ k s = (⟨l, [((k : Int), s)], -1, false⟩, 0) ∧ dSync ⟨l, [((k : Int), s)], -1, false⟩ = (⟨l.set k s, [], -1, false⟩, 0) := by
  have hb : (⟨l, [], -1, false⟩ : Dk).bad = false := bad_iff.2 ⟨h.dBad (left := -1) (by omega) (by omega), rfl⟩
  have hh : (⟨l, [], -1, false⟩ : Dk).has (k : Int) = true := has_iff.2 ⟨by omega, by show (k : Int) < (l.length : Int); omega⟩
  have hw := write_ok hb hh (b := s) (by omega) (by show ([] : List (Int × List UInt8)).length ≠ 4096; simp)
  have hb2 := add_bad hb hh (b := s) (by omega) (by show ([] : List (Int × List UInt8)).length ≠ 4096; simp)
  unfold Dk.add at hw hb2
  rw [pad_full hs] at hw hb2
  have hs2 : (⟨l, [] ++ [((k : Int), s)], -1, false⟩ : Dk).stops = false := rfl
  refine ⟨hw, ?_⟩
  have := sync_go hb2 hs2
  exact this
theorem open_any {l : List (List UInt8)} (h : dBad l [] (-1) = false) : jOpen ⟨l, [], -1, false⟩ = (⟨recs l, l.length, (recs l).length⟩, 0) := by
  unfold jOpen
  rw [if_neg (by rw [h]; exact Bool.false_ne_true), if_neg (fun q => Bool.false_ne_true q), if_neg (by show ¬ 0 > 0; omega)]
end B
end Go.Proofs.Ytbmnhagbplkagaa
