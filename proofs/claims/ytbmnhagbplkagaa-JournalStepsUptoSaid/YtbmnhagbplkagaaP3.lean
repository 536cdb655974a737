import Derived.Test.YtbmnhagbplkagaaP2
import Derived.Test.YtbmnhagbplkagaaC9
/- The journal as data: what is opened, what a sync does. -/
namespace Go.Proofs.Ytbmnhagbplkagaa
namespace B
open Go.RowKit

theorem Rds.le_len {l : List (List UInt8)} : ∀ {R : List (List UInt8)} {a last e le : Nat}, Rds l a last R e le → a ≤ l.length → e ≤ l.length
  | [], _, _, _, _, ⟨rfl, _⟩, h => h
  | _ :: _, _, _, _, _, ⟨_, h1, h2⟩, _ => h2.le_len (jRec_bound h1).2
/-- The records on sectors occupy no more sectors than there are. -/
theorem used_recs (l : List (List UInt8)) : usedN (recs l) ≤ l.length := by
  obtain ⟨e, le, h1, _⟩ := rds_all l _ 0 0 (Nat.le_refl _)
  have h2 := h1.used
  have h3 := h1.le_len (Nat.zero_le _)
  show usedN ((its l 0 0).map (·.1)) ≤ _
  omega
theorem recs_len (l : List (List UInt8)) : (recs l).length ≤ l.length := Nat.le_trans (len_le_usedN _) (used_recs l)

def jz : Jr := ⟨[], 0, 0⟩
def jOpen (d : Dk) : Jr × Int := if dBad d.ss d.ps d.left = true then (jz, 40) else if d.st = true then (jz, 40) else if d.ps.length > 0 then (jz, 1) else (⟨recs d.ss, d.ss.length, (recs d.ss).length⟩, 0)
/-- The generation of what is written next. -/
def genG (n : Nat) (l : List (List UInt8)) : Nat := l.foldl (fun m s => max (max m (gnS s + 1)) (gnE s + 1)) n
def genS (l : List (List UInt8)) : Nat := genG 1 l
theorem genG_snoc (n : Nat) {l : List (List UInt8)} {i : Nat} (h : i < l.length) : genG n (l.take (i + 1)) = max (max (genG n (l.take i)) (gnS (sec l i) + 1)) (gnE (sec l i) + 1) := by
  unfold genG
  rw [take_getD tB.dflt h, List.foldl_append]; rfl
theorem genG_ge : ∀ (l : List (List UInt8)) (n : Nat), n ≤ genG n l
  | [], _ => Nat.le_refl _
  | s :: l, n => by
    have := genG_ge l (max (max n (gnS s + 1)) (gnE s + 1))
    show n ≤ genG (max (max n (gnS s + 1)) (gnE s + 1)) l
    omega
theorem genG_mem : ∀ (l : List (List UInt8)) (n : Nat) (s : List UInt8), s ∈ l → gnS s < genG n l ∧ gnE s < genG n l
  | t :: l, n, s, h => by
    show gnS s < genG (max (max n (gnS t + 1)) (gnE t + 1)) l ∧ gnE s < genG (max (max n (gnS t + 1)) (gnE t + 1)) l
    rcases List.mem_cons.1 h with rfl | h
    · have := genG_ge l (max (max n (gnS s + 1)) (gnE s + 1))
      omega
    · exact genG_mem l _ s h
theorem genG_le : ∀ (l : List (List UInt8)) (n m : Nat), n ≤ m → (∀ s ∈ l, gnS s < m ∧ gnE s < m) → genG n l ≤ m
  | [], _, _, h, _ => h
  | t :: l, n, m, h, hs => by
    have := hs t (by simp)
    have h' : max (max n (gnS t + 1)) (gnE t + 1) ≤ m := by omega
    exact genG_le l _ m h' (fun s hs' => hs s (by simp [hs']))
theorem genS_pos (l : List (List UInt8)) : 0 < genS l := genG_ge l 1
theorem gn_lt (s : List UInt8) : gnS s < 4294967296 := by
  have h1 := num_lt (s.take 4)
  have h2 : (s.take 4).length ≤ 4 := by rw [List.length_take]; exact Nat.min_le_left _ _
  have h3 : 256 ^ (s.take 4).length ≤ 256 ^ 4 := Nat.pow_le_pow_right (by omega) h2
  unfold gnS; omega
theorem ge_lt {s : List UInt8} (h : s.length = 128) : gnE s < 4294967296 := by
  have h1 := num_lt (s.drop 124)
  have h2 : (s.drop 124).length ≤ 4 := by rw [List.length_drop]; omega
  have h3 : 256 ^ (s.drop 124).length ≤ 256 ^ 4 := Nat.pow_le_pow_right (by omega) h2
  unfold gnE; omega
theorem genS_le {l : List (List UInt8)} (h : ∀ s ∈ l, s.length = 128) : genS l ≤ 4294967296 := genG_le l 1 _ (by omega) (fun s hs => ⟨gn_lt s, ge_lt (h s hs)⟩)

/-- Sectors written one after the other. -/
def wrD (g : Nat) : List (UInt8 × List UInt8) → Dk → Nat → Option Dk
  | [], d, _ => some d
  | p :: ps, d, a => if a < d.ss.length then wrD g ps ⟨d.ss, d.ps ++ [((a : Int), enc g a p.1 p.2)], d.left, d.st⟩ (a + 1) else none
def jSync (j : Jr) (d : Dk) : Jr × Dk × Int :=
  if jBad j.rs j.many j.synced = true then (jz, .z, 1)
  else if dBad d.ss d.ps d.left = true then (jz, .z, 40)
  else if d.st = true then (jz, .z, 40)
  else if j.many ≠ d.ss.length ∨ d.ps.length > 0 then (jz, .z, 1)
  else if recs d.ss ≠ j.rs.take j.synced.toNat ∨ genS d.ss > 4294967295 then (jz, .z, 50)
  else if j.synced = j.rs.length then (j, d, 0)
  else match wrD (genS d.ss) (pcsL (j.rs.drop j.synced.toNat)) d (usedN (j.rs.take j.synced.toNat)) with
    | none => (jz, .z, 40)
    | some d' => if (dSync d').2 ≠ 0 then (jz, (dSync d').1, (dSync d').2) else (⟨j.rs, j.many, j.rs.length⟩, (dSync d').1, 0)

/-- Where a writing stands. -/
def WrOk (g : Nat) (tot : Option Dk) (rest : List (UInt8 × List UInt8)) (d : Dk) (a : Int) : Prop :=
  (∃ k : Nat, a = k ∧ d.bad = false ∧ d.ps.length ≤ k ∧ k ≤ d.ss.length ∧ tot = wrD g rest d k) ∨ (d = .z ∧ tot = none)
theorem pad_enc {g k : Nat} {kind : UInt8} {b : List UInt8} (h : b.length ≤ 112) : pad (enc g k kind b) = enc g k kind b := by
  unfold pad
  rw [enc_len h]; simp
theorem bad_len {d : Dk} (h : d.bad = false) : 1 ≤ d.ss.length ∧ d.ss.length ≤ 4096 := by
  have := dBad_iff.1 (bad_iff.1 h).1
  omega
theorem write_z (a : Int) (b : List UInt8) : dWrite .z a b = (.z, 40) := rfl
/-- One sector more. -/
theorem WrOk.step {g : Nat} {tot : Option Dk} {rest : List (UInt8 × List UInt8)} {d : Dk} {k : Nat} {p : UInt8 × List UInt8} (h : d.bad = false) (h1 : d.ps.length ≤ k) (h2 : k ≤ d.ss.length) (h3 : tot = wrD g (p :: rest) d k) (hp : p.2.length ≤ 112) :
    (k < d.ss.length ∧ dWrite d k (enc g k p.1 p.2) = (⟨d.ss, d.ps ++ [((k : Int), enc g k p.1 p.2)], d.left, d.st⟩, 0) ∧ WrOk g tot rest ⟨d.ss, d.ps ++ [((k : Int), enc g k p.1 p.2)], d.left, d.st⟩ ((k + 1 : Nat) : Int)) ∨ (dWrite d k (enc g k p.1 p.2) = (.z, 40) ∧ tot = none) := by
  have hl := bad_len h
  by_cases hk : k < d.ss.length
  · left
    have hh : d.has (k : Int) = true := has_iff.2 ⟨by omega, by omega⟩
    have hw := write_ok h hh (b := enc g k p.1 p.2) (by rw [enc_len hp]; omega) (by omega)
    have hb := add_bad h hh (b := enc g k p.1 p.2) (by rw [enc_len hp]; omega) (by omega)
    unfold Dk.add at hw hb
    rw [pad_enc hp] at hw hb
    refine ⟨hk, hw, .inl ⟨k + 1, rfl, hb, by simp; omega, hk, ?_⟩⟩
    rw [h3]
    show (if k < d.ss.length then _ else _) = _
    rw [if_pos hk]
  · right
    refine ⟨?_, ?_⟩
    · unfold dWrite
      have : d.has (k : Int) = false := by
        cases hh : d.has (k : Int) with
        | false => rfl
        | true => have := has_iff.1 hh; omega
      rw [this, Bool.not_false, Bool.or_true]; rfl
    · rw [h3]
      show (if k < d.ss.length then _ else _) = _
      rw [if_neg hk]
end B
end Go.Proofs.Ytbmnhagbplkagaa
