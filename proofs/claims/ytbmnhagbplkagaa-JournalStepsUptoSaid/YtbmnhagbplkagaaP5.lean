import Derived.Test.YtbmnhagbplkagaaP4
/- The journal's plain laws: a sync of an opened journal, records appended, a damaged sector. -/
namespace Go.Proofs.Ytbmnhagbplkagaa
namespace B
open Go.RowKit

/-! ### a sync of an opened journal -/
theorem jBad_ok {rs : List (List UInt8)} {m : Nat} {s : Int} (h1 : 1 ≤ m) (h2 : m ≤ 4096) (h3 : 0 ≤ s) (h4 : s ≤ rs.length) (h5 : usedN rs ≤ m) : jBad rs m s = false := by
  unfold jBad
  rw [usedI_eq (by omega)]
  simp only [Bool.or_eq_false_iff, decide_eq_false_iff_not]
  omega
theorem DInv.dBad {l K : List (List UInt8)} {G : Nat} (h : DInv l K G) {left : Int} (h1 : -1 ≤ left) (h2 : left ≤ 65536) : B.dBad l [] left = false :=
  dBad_iff.2 ⟨h.one, h.len, by simp, h1, h2, (fun w hw => by cases hw), h.all⟩
theorem DInv.open {l K : List (List UInt8)} {G : Nat} (h : DInv l K G) {left : Int} (h1 : -1 ≤ left) (h2 : left ≤ 65536) : jOpen ⟨l, [], left, false⟩ = (⟨K, l.length, K.length⟩, 0) := by
  unfold jOpen
  rw [if_neg (by rw [h.dBad h1 h2]; exact Bool.false_ne_true), if_neg (fun q => Bool.false_ne_true q), if_neg (by show ¬ 0 > 0; omega)]
  have := h.rd
  subst this
  rfl
/-- The disk with the writes of a sync. -/
def wDk (l K N : List (List UInt8)) (left : Int) : Dk := ⟨l, wrs (genS l) (usedN K) (pcsL N), left, false⟩
theorem wDk_bad {l K N : List (List UInt8)} {G : Nat} (h : DInv l K G) {left : Int} (h1 : -1 ≤ left) (h2 : left ≤ 65536) (hu : usedN K + usedN N ≤ l.length) : (wDk l K N left).bad = false := by
  refine bad_iff.2 ⟨dBad_iff.2 ⟨h.one, h.len, ?_, h1, h2, ?_, h.all⟩, rfl⟩
  · have := h.len
    show (wrs (genS l) (usedN K) (pcsL N)).length ≤ 4096
    rw [wrs_len, pcsL_len]; omega
  · intro w hw
    obtain ⟨k, p, h3, h4, h5, rfl⟩ := wrs_mem _ _ _ hw
    rw [pcsL_len] at h5
    exact ⟨by dsimp only; omega, by show (k : Int) < (l.length : Int); omega, enc_len (pcsL_ok N p h3).1⟩
theorem jSync_open {l K N : List (List UInt8)} {G : Nat} (h : DInv l K G) {left : Int} (h1 : -1 ≤ left) (h2 : left ≤ 65536) (hu : usedN K + usedN N ≤ l.length) (hG : G + 1 ≤ 4294967295) :
    jSync ⟨K ++ N, l.length, K.length⟩ ⟨l, [], left, false⟩ = if N = [] then (⟨K ++ N, l.length, K.length⟩, ⟨l, [], left, false⟩, 0) else
      if (dSync (wDk l K N left)).2 ≠ 0 then (jz, (dSync (wDk l K N left)).1, (dSync (wDk l K N left)).2) else (⟨K ++ N, l.length, (K ++ N).length⟩, (dSync (wDk l K N left)).1, 0) := by
  have hu2 := usedN_app K N
  have hj : jBad (K ++ N) l.length K.length = false := jBad_ok h.one h.len (by omega) (by rw [List.length_append]; omega) (by omega)
  have hd := h.dBad h1 h2
  have hg := h.genS
  have htk : (K ++ N).take (Int.toNat (K.length : Int)) = K := by rw [Int.toNat_natCast, List.take_left']; rfl
  have hdr : (K ++ N).drop (Int.toNat (K.length : Int)) = N := by rw [Int.toNat_natCast, List.drop_left']; rfl
  unfold jSync
  dsimp only
  rw [htk, hdr, if_neg (by rw [hj]; exact Bool.false_ne_true), if_neg (by rw [hd]; exact Bool.false_ne_true), if_neg (fun q => Bool.false_ne_true q), if_neg (by rintro (q | q); exact q rfl; exact absurd q (by show ¬ 0 > 0; omega)), if_neg (by rintro (q | q); exact q h.rd; omega)]
  cases N with
  | nil => rw [if_pos (by rw [List.append_nil]), if_pos rfl]
  | cons b N =>
    rw [if_neg (by rw [List.length_append, List.length_cons]; omega), if_neg (by simp), wrD_some _ _ _ _ (by rw [pcsL_len]; exact hu)]
    rfl

/-! ### records appended -/
def addL (m : Nat) : List (List UInt8) → List (List UInt8) → List (List UInt8)
  | rs, [] => rs
  | rs, b :: l => addL m (if usedN rs + secN b.length ≤ m then rs ++ [b] else rs) l
theorem addL_app (m : Nat) : ∀ (l k rs : List (List UInt8)), addL m rs (l ++ k) = addL m (addL m rs l) k
  | [], _, _ => rfl
  | _ :: l, k, _ => addL_app m l k _
theorem addL_ex (m : Nat) : ∀ (l rs : List (List UInt8)), usedN rs ≤ m → ∃ N, addL m rs l = rs ++ N ∧ usedN (rs ++ N) ≤ m
  | [], rs, h => ⟨[], by rw [List.append_nil]; rfl, by rw [List.append_nil]; exact h⟩
  | b :: l, rs, h => by
    unfold addL
    by_cases q : usedN rs + secN b.length ≤ m
    · rw [if_pos q]
      have h2 : usedN (rs ++ [b]) = usedN rs + secN b.length := by rw [usedN_app]; rfl
      obtain ⟨N, e1, e2⟩ := addL_ex m l (rs ++ [b]) (by omega)
      exact ⟨b :: N, by rw [e1, List.append_assoc]; rfl, by rw [List.append_assoc] at e2; exact e2⟩
    · rw [if_neg q]
      exact addL_ex m l rs h
/-- One record appended. -/
theorem jApp_ok {rs : List (List UInt8)} {m : Nat} {s : Int} {b : List UInt8} (hj : jBad rs m s = false) (hu : usedN rs ≤ m) (hm : m ≤ 4096) : jApp ⟨rs, m, s⟩ b = if usedN rs + secN b.length ≤ m then (⟨rs ++ [b], m, s⟩, 0) else (⟨[], 0, 0⟩, 2) := by
  unfold jApp
  dsimp only
  rw [if_neg (by rw [hj]; exact Bool.false_ne_true), usedI_eq (by omega), i64w (by omega) (by omega)]
  by_cases q : usedN rs + secN b.length ≤ m
  · rw [if_pos q, if_neg (by omega)]
  · rw [if_neg q, if_pos (by omega)]

/-! ### a new disk -/
def zSec : List UInt8 := List.replicate 128 0
theorem z_gn : gnS zSec = 0 ∧ gnE zSec = 0 := by decide
theorem z_good (k : Nat) : goodS zSec k = false := by
  have h : formS zSec = false := by decide
  unfold goodS; rw [h]; rfl
theorem sec_rep (n p : Nat) : sec (List.replicate n zSec) p = zSec ∨ sec (List.replicate n zSec) p = [] := by
  unfold sec
  rw [List.getD_eq_getElem?_getD, List.getElem?_replicate]
  split
  · exact .inl rfl
  · exact .inr rfl
theorem nil_good (k : Nat) : goodS [] k = false := by
  have h : formS [] = false := by decide
  unfold goodS; rw [h]; rfl
theorem new_inv (n : Nat) (h1 : 1 ≤ n) (h2 : n ≤ 4096) : DInv (List.replicate n zSec) [] 0 := by
  have hbad : ∀ p, goodS (sec (List.replicate n zSec) p) p = false := fun p => by
    rcases sec_rep n p with q | q <;> rw [q]
    · exact z_good p
    · exact nil_good p
  refine ⟨by simpa using h1, by simpa using h2, fun s hs => ?_, ?_, fun p _ => nb_bad (hbad p), fun s hs => ?_⟩
  · rw [List.eq_of_mem_replicate hs]; rfl
  · have : jRec (List.replicate n zSec) 0 0 = none := nb_none (nb_bad (hbad 0))
    unfold recs
    rw [its_none this]; rfl
  · rw [List.eq_of_mem_replicate hs]
    have := z_gn
    omega
theorem dNew_ok (n : Nat) (h1 : 1 ≤ n) (h2 : n ≤ 4096) : dNew (n : Int) = (⟨List.replicate n zSec, [], -1, false⟩, 0) := by
  unfold dNew
  rw [decide_eq_false (show ¬ (n : Int) < 1 by omega), decide_eq_false (show ¬ (n : Int) > 4096 by omega), Int.toNat_natCast]
  rfl

/-! ### the checksum tells one byte from another -/
theorem xor_hi {a : Nat} (h : a < 2147483648) : 2147483648 ≤ a ^^^ 3988292384 := by
  have h1 : (a ^^^ 3988292384).testBit 31 = true := by
    rw [Nat.testBit_xor, Nat.testBit_lt_two_pow (show a < 2 ^ 31 by omega)]
    decide
  exact Nat.ge_two_pow_of_testBit h1
theorem xor_cancel {a b c : Nat} (h : a ^^^ c = b ^^^ c) : a = b := by
  have := congrArg (· ^^^ c) h
  simpa [Nat.xor_assoc] using this
theorem crcS_inj {a b : Nat} (ha : a < 4294967296) (hb : b < 4294967296) (h : crcS a = crcS b) : a = b := by
  unfold crcS at h
  by_cases p : a % 2 = 1 <;> by_cases q : b % 2 = 1
  · rw [if_pos p, if_pos q] at h
    have := xor_cancel h
    omega
  · rw [if_pos p, if_neg q, Nat.xor_zero] at h
    have := xor_hi (show a / 2 < 2147483648 by omega)
    omega
  · rw [if_neg p, if_pos q, Nat.xor_zero] at h
    have := xor_hi (show b / 2 < 2147483648 by omega)
    omega
  · rw [if_neg p, if_neg q, Nat.xor_zero, Nat.xor_zero] at h
    omega
theorem crcR_inj {a b : Nat} (ha : a < 4294967296) (hb : b < 4294967296) : ∀ k, crcR a k = crcR b k → a = b
  | 0, h => h
  | k + 1, h => crcR_inj ha hb k (crcS_inj (crcR_lt ha k) (crcR_lt hb k) h)
theorem crcF_inj : ∀ (l : List UInt8) {a b : Nat}, a < 4294967296 → b < 4294967296 → crcF a l = crcF b l → a = b
  | [], _, _, _, _, h => h
  | c :: l, a, b, ha, hb, h => by
    have hc := c.toNat_lt
    have h1 := crcF_inj l (crcR_lt (xor32 ha (by omega)) 8) (crcR_lt (xor32 hb (by omega)) 8) h
    exact xor_cancel (crcR_inj (xor32 ha (by omega)) (xor32 hb (by omega)) 8 h1)
theorem crc_byte {A B : List UInt8} {x y : UInt8} (h : x ≠ y) : crc (A ++ x :: B) ≠ crc (A ++ y :: B) := by
  intro q
  unfold crc at q
  have q1 := xor_cancel q
  rw [crcF_app, crcF_app] at q1
  have hx := x.toNat_lt
  have hy := y.toNat_lt
  have hm := crcF_lt A (n := 4294967295) (by omega)
  have q2 := crcF_inj B (crcR_lt (xor32 hm (by omega)) 8) (crcR_lt (xor32 hm (by omega)) 8) q1
  have q3 := crcR_inj (xor32 hm (by omega)) (xor32 hm (by omega)) 8 q2
  rw [Nat.xor_comm _ x.toNat, Nat.xor_comm _ y.toNat] at q3
  exact h (UInt8.toNat_inj.1 (xor_cancel q3))
theorem num_inj {a b : List UInt8} (hl : a.length = b.length) (h : num a = num b) : a = b := by
  have h1 := be_numF a 0
  have h2 := be_numF b 0
  rw [← h1, ← h2, hl]
  exact congrArg (fun n => be n b.length) h
/-- A byte of a piece of a list. -/
theorem cut_set {s : List UInt8} {i a b : Nat} {x : UInt8} (h : i < a ∨ b ≤ i) : ((s.set i x).take b).drop a = (s.take b).drop a := by
  rcases h with h | h
  · rw [List.take_set, List.drop_set, if_pos h]
  · rw [List.take_set_of_le h]
theorem cut_split {s : List UInt8} {i a b : Nat} {x : UInt8} (h1 : a ≤ i) (h2 : i < b) (h3 : b ≤ s.length) : ∃ A B, (s.take b).drop a = A ++ s.getD i 0 :: B ∧ ((s.set i x).take b).drop a = A ++ x :: B := by
  have hl : i - a < ((s.take b).drop a).length := by rw [List.length_drop, List.length_take]; omega
  have hl2 : i < s.length := by omega
  refine ⟨((s.take b).drop a).take (i - a), ((s.take b).drop a).drop (i - a + 1), ?_, ?_⟩
  · have e : ((s.take b).drop a)[i - a] = s.getD i 0 := by
      rw [List.getD_eq_getElem?_getD, List.getElem?_eq_getElem hl2]
      simp only [List.getElem_drop, List.getElem_take, Option.getD_some]
      congr 1
      omega
    rw [← e, ← List.drop_eq_getElem_cons hl, List.take_append_drop]
  · rw [List.take_set, List.drop_set, if_neg (by omega)]
    exact List.set_eq_take_append_cons_drop.trans (if_pos hl)
/-- A sector one of whose bytes is changed is none. -/
theorem damaged {s : List UInt8} {k i : Nat} {x : UInt8} (hk : k < 65536) (hg : goodS s k = true) (hi : i < 128) (hx : x ≠ s.getD i 0) : goodS (s.set i x) k = false := by
  have hs := good_len hg
  have hs' : (s.set i x).length = 128 := by rw [List.length_set, hs]
  cases hq : goodS (s.set i x) k with
  | false => rfl
  | true =>
    exfalso
    obtain ⟨_, a1, a2, _⟩ := (good_iff hs hk).1 hg
    obtain ⟨_, b1, b2, _⟩ := (good_iff hs' hk).1 hq
    have t4 : ∀ u : List UInt8, (u.take 4).drop 0 = u.take 4 := fun u => rfl
    have t124 : ∀ u : List UInt8, u.length = 128 → (u.take 128).drop 124 = u.drop 124 := fun u h => by rw [List.take_of_length_le (by omega)]
    have diff : ∀ {A B : List UInt8}, num (A ++ x :: B) ≠ num (A ++ s.getD i 0 :: B) := fun {A B} q => by
      have := num_inj (by simp) q
      have := List.append_cancel_left this
      exact hx (List.cons.inj this).1
    by_cases c1 : i < 4
    · obtain ⟨A, B, e1, e2⟩ := cut_split (s := s) (x := x) (Nat.zero_le i) c1 (by omega)
      rw [t4] at e1 e2
      have e3 := cut_set (s := s) (x := x) (a := 124) (b := 128) (.inl (show i < 124 by omega))
      rw [t124 _ hs, t124 _ hs'] at e3
      rw [e2, e3, ← a1, e1] at b1
      exact diff b1
    by_cases c2 : i < 8
    · obtain ⟨A, B, e1, e2⟩ := cut_split (s := s) (x := x) (show 4 ≤ i by omega) c2 (by omega)
      have e3 : midS (s.set i x) = midS s := cut_set (.inl (show i < 8 by omega))
      rw [e2, e3, ← a2, e1] at b2
      exact diff b2
    by_cases c3 : i < 124
    · obtain ⟨A, B, e1, e2⟩ := cut_split (s := s) (x := x) (show 8 ≤ i by omega) c3 (by omega)
      have e3 := cut_set (s := s) (x := x) (a := 4) (b := 8) (.inr (show 8 ≤ i by omega))
      have m1 : midS s = A ++ s.getD i 0 :: B := e1
      have m2 : midS (s.set i x) = A ++ x :: B := e2
      rw [e3, a2, m1, m2] at b2
      exact crc_byte (fun z => hx z.symm) b2
    · obtain ⟨A, B, e1, e2⟩ := cut_split (s := s) (x := x) (show 124 ≤ i by omega) hi (by omega)
      rw [t124 _ hs] at e1
      rw [t124 _ hs'] at e2
      have e3 := cut_set (s := s) (x := x) (a := 0) (b := 4) (.inr (show 4 ≤ i by omega))
      rw [t4, t4] at e3
      rw [e2, e3, a1, e1] at b1
      exact diff b1.symm
end B
end Go.Proofs.Ytbmnhagbplkagaa
