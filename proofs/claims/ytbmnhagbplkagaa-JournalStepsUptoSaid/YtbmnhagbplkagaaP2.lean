import Derived.Test.YtbmnhagbplkagaaP1
/- The journal's plain laws: what is written is read. -/
namespace Go.Proofs.Ytbmnhagbplkagaa
namespace B
open Go.RowKit

/-! ### a sector that is written -/
theorem enc_parts (g k : Nat) (kind : UInt8) (b : List UInt8) : enc g k kind b = (be g 4 ++ (be (crc (bodyS k kind b)) 4 ++ be k 2)) ++ (kind :: UInt8.ofNat b.length :: (b ++ (List.replicate (112 - b.length) 0 ++ be g 4))) := by
  unfold enc
  generalize crc (bodyS k kind b) = c
  unfold bodyS
  simp
theorem enc_pre (g k c : Nat) : (be g 4 ++ (be c 4 ++ be k 2)).length = 10 := by simp [be_len]
theorem getD_at {A B : List UInt8} {x d : UInt8} {a : Nat} (h : A.length = a) : (A ++ x :: B).getD a d = x := by
  subst h
  rw [List.getD_eq_getElem?_getD, List.getElem?_append_right (Nat.le_refl _), Nat.sub_self]; rfl
theorem enc_kd (g k : Nat) (kind : UInt8) (b : List UInt8) : kdS (enc g k kind b) = kind := by
  unfold kdS
  rw [enc_parts]
  exact getD_at (enc_pre _ _ _)
theorem enc_ln {g k : Nat} {kind : UInt8} {b : List UInt8} (h : b.length ≤ 112) : lnS (enc g k kind b) = b.length := by
  unfold lnS
  rw [enc_parts]
  generalize crc (bodyS k kind b) = c
  have e : ∀ t, (be g 4 ++ (be c 4 ++ be k 2)) ++ (kind :: UInt8.ofNat b.length :: t) = ((be g 4 ++ (be c 4 ++ be k 2)) ++ [kind]) ++ (UInt8.ofNat b.length :: t) := fun t => by simp
  rw [e, getD_at (by rw [List.length_append, enc_pre]; rfl), UInt8.toNat_ofNat_of_lt' (by show b.length < 256; omega)]
theorem enc_data {g k : Nat} {kind : UInt8} {b : List UInt8} (h : b.length ≤ 112) : dataS (enc g k kind b) = b := by
  unfold dataS
  rw [enc_ln h, List.drop_take, enc_parts]
  generalize crc (bodyS k kind b) = c
  have e : ∀ t, (be g 4 ++ (be c 4 ++ be k 2)) ++ (kind :: UInt8.ofNat b.length :: t) = ((be g 4 ++ (be c 4 ++ be k 2)) ++ [kind, UInt8.ofNat b.length]) ++ t := fun t => by simp
  rw [e]
  exact cutmid (by rw [List.length_append, enc_pre]; rfl) (by omega)
theorem enc_gn {g k : Nat} {kind : UInt8} {b : List UInt8} (hg : g < 4294967296) : gnS (enc g k kind b) = g := by
  unfold gnS enc
  rw [List.take_left' (be_len _ _), num_be, Nat.mod_eq_of_lt (by omega)]
theorem enc_ge {g k : Nat} {kind : UInt8} {b : List UInt8} (hg : g < 4294967296) (h : b.length ≤ 112) : gnE (enc g k kind b) = g := by
  unfold gnE enc
  have e : be g 4 ++ (be (crc (bodyS k kind b)) 4 ++ (bodyS k kind b ++ be g 4)) = (be g 4 ++ (be (crc (bodyS k kind b)) 4 ++ bodyS k kind b)) ++ be g 4 := by simp
  rw [e, List.drop_left' (by simp [be_len, body_len h]), num_be, Nat.mod_eq_of_lt (by omega)]
/-- A piece of a record. -/
def PcOk (p : UInt8 × List UInt8) : Prop := p.2.length ≤ 112 ∧ p.1.toNat ≤ 3 ∧ (p.1.toNat < 2 → p.2.length = 112) ∧ (p.1.toNat % 2 = 0 → p.2.length ≠ 0)
theorem enc_good {g k : Nat} {p : UInt8 × List UInt8} (hg : 0 < g) (hg2 : g < 4294967296) (h : PcOk p) : goodS (enc g k p.1 p.2) k = true := by
  obtain ⟨h1, h2, h3, h4⟩ := h
  have e1 : num ((enc g k p.1 p.2).take 4) = g := by
    show gnS (enc g k p.1 p.2) = g
    exact enc_gn hg2
  unfold goodS
  rw [e1, enc_kd, enc_data h1, form_iff.2 ⟨by rw [enc_ln h1]; exact h1, by rw [enc_kd]; exact h2, by rw [enc_kd, enc_ln h1]; intro q; exact h3 (by omega), by rw [enc_kd, enc_ln h1]; exact h4⟩, decide_eq_true hg]
  simp

/-! ### the pieces of a record -/
def kdN (f : Bool) (n : Nat) : UInt8 := bif f then (bif Nat.beq n 0 then 3 else 1) else (bif Nat.beq n 0 then 2 else 0)
def pcs : Bool → List UInt8 → Nat → List (UInt8 × List UInt8)
  | _, _, 0 => []
  | f, b, n + 1 => (kdN f n, b.take 112) :: pcs false (b.drop 112) n
def pcsR (b : List UInt8) : List (UInt8 × List UInt8) := pcs true b (secN b.length)
def pcsL : List (List UInt8) → List (UInt8 × List UInt8)
  | [] => []
  | b :: N => pcsR b ++ pcsL N
theorem pcs_len : ∀ (f : Bool) (b : List UInt8) (n : Nat), (pcs f b n).length = n
  | _, _, 0 => rfl
  | f, b, n + 1 => by simp [pcs, pcs_len false (b.drop 112) n]
theorem pcsL_len : ∀ N : List (List UInt8), (pcsL N).length = usedN N
  | [] => rfl
  | b :: N => by simp [pcsL, pcsR, pcs_len, pcsL_len N, usedN]
theorem pcsL_app : ∀ N M : List (List UInt8), pcsL (N ++ M) = pcsL N ++ pcsL M
  | [], _ => rfl
  | b :: N, M => by simp [pcsL, pcsL_app N M]
/-- So many bytes lie in so many pieces. -/
def VOk (f : Bool) (b : List UInt8) (n : Nat) : Prop := b.length ≤ 112 * (n + 1) ∧ (112 * n < b.length ∨ (f = true ∧ n = 0))
theorem vok_rec (b : List UInt8) : VOk true b (secN b.length - 1) := by
  unfold VOk secN; simp only [true_and]; omega
theorem kdN_begin (f : Bool) (n : Nat) : ((kdN f n).toNat % 2 = 1) ↔ f = true := by
  unfold kdN; cases f <;> cases hn : Nat.beq n 0 <;> simp
theorem kdN_end (f : Bool) (n : Nat) : (2 ≤ (kdN f n).toNat) ↔ n = 0 := by
  unfold kdN
  cases hn : Nat.beq n 0 with
  | true => have := Nat.eq_of_beq_eq_true hn; cases f <;> simp [this]
  | false => have := Nat.ne_of_beq_eq_false hn; cases f <;> simp [this]
theorem kdN_le (f : Bool) (n : Nat) : (kdN f n).toNat ≤ 3 := by
  unfold kdN; cases f <;> cases hn : Nat.beq n 0 <;> simp
theorem vok_pc {f : Bool} {b : List UInt8} {n : Nat} (h : VOk f b n) : PcOk (kdN f n, b.take 112) := by
  obtain ⟨h1, h2⟩ := h
  have hb := kdN_begin f n
  have he := kdN_end f n
  refine ⟨by rw [List.length_take]; exact Nat.min_le_left _ _, kdN_le f n, fun q => ?_, fun q => ?_⟩
  · have q' : (kdN f n).toNat < 2 := q
    have : n ≠ 0 := fun z => by have := he.2 z; omega
    rw [List.length_take]
    rcases h2 with h2 | ⟨_, z⟩
    · show min 112 b.length = 112; omega
    · exact absurd z this
  · have q' : (kdN f n).toNat % 2 = 0 := q
    have hf : ¬ f = true := fun z => by have := hb.2 z; omega
    show (b.take 112).length ≠ 0
    rw [List.length_take]
    rcases h2 with h2 | ⟨z, _⟩
    · omega
    · exact absurd z hf
theorem vok_next {f : Bool} {b : List UInt8} {n : Nat} (h : VOk f b (n + 1)) : VOk false (b.drop 112) n := by
  obtain ⟨h1, h2⟩ := h
  unfold VOk
  rw [List.length_drop]
  rcases h2 with h2 | ⟨_, z⟩
  · exact ⟨by omega, .inl (by omega)⟩
  · cases z

/-- Pieces lie on sectors. -/
def Wr (l : List (List UInt8)) (g : Nat) : Nat → List (UInt8 × List UInt8) → Prop
  | _, [] => True
  | a, p :: ps => sec l a = enc g a p.1 p.2 ∧ Wr l g (a + 1) ps
theorem Wr.app {l : List (List UInt8)} {g : Nat} : ∀ {ps qs : List (UInt8 × List UInt8)} {a : Nat}, Wr l g a (ps ++ qs) ↔ Wr l g a ps ∧ Wr l g (a + ps.length) qs
  | [], qs, a => by simp [Wr]
  | p :: ps, qs, a => by
    have := Wr.app (l := l) (g := g) (ps := ps) (qs := qs) (a := a + 1)
    simp only [List.cons_append, Wr, this, List.length_cons, and_assoc]
    rw [show a + 1 + ps.length = a + (ps.length + 1) by omega]
theorem Wr.get {l : List (List UInt8)} {g : Nat} : ∀ {ps : List (UInt8 × List UInt8)} {a : Nat}, Wr l g a ps → ∀ (i : Nat) (p : UInt8 × List UInt8), ps[i]? = some p → sec l (a + i) = enc g (a + i) p.1 p.2
  | [], _, _, i, p, h => by simp at h
  | q :: ps, a, hw, 0, p, h => by simp at h; subst h; exact hw.1
  | q :: ps, a, hw, i + 1, p, h => by
    have := Wr.get hw.2 i p (by simpa using h)
    rw [show a + (i + 1) = a + 1 + i by omega]; exact this

section
variable {l : List (List UInt8)} {g a0 last : Nat}
theorem badAt_pc {a n : Nat} {f : Bool} {b : List UInt8} (hg : 0 < g) (hg2 : g < 4294967296) (hl : last ≤ g) (h0 : gnS (sec l a0) = g) (hs : sec l a = enc g a (kdN f n) (b.take 112)) (hv : VOk f b n) (hf : (f = true ∧ a = a0) ∨ (f = false ∧ a0 < a)) : badAt l a0 last a = false := by
  have hp := vok_pc hv
  unfold badAt
  rw [hs, enc_good (p := (kdN f n, b.take 112)) hg hg2 hp, enc_gn hg2, h0]
  unfold begB
  rw [enc_kd]
  have hb := kdN_begin f n
  rcases hf with ⟨rfl, rfl⟩ | ⟨rfl, h⟩
  · rw [decide_eq_true (hb.2 rfl)]
    simp; omega
  · rw [decide_eq_false (fun q => by have := hb.1 q; cases this), decide_eq_false (show ¬ a = a0 by omega)]
    simp; omega
theorem go_pcs (hg : 0 < g) (hg2 : g < 4294967296) (hl : last ≤ g) (h0 : gnS (sec l a0) = g) : ∀ (n : Nat) (f : Bool) (b acc : List UInt8) (a : Nat), VOk f b n → a + (n + 1) ≤ l.length → ((f = true ∧ a = a0) ∨ (f = false ∧ a0 < a)) → Wr l g a (pcs f b (n + 1)) → jGo l a0 last (l.length - a) a acc = some (acc ++ b, a + (n + 1))
  | n, f, b, acc, a, hv, hle, hf, hw => by
    have hw1 := hw.1
    have hp := vok_pc hv
    rw [jGo_step (by omega), badAt_pc hg hg2 hl h0 hw1 hv hf]
    have he := kdN_end f n
    unfold endB
    rw [show sec l a = enc g a (kdN f n) (b.take 112) from hw1, enc_kd, enc_data hp.1]
    cases n with
    | zero =>
      rw [decide_eq_true (he.2 rfl)]
      have : b.take 112 = b := List.take_of_length_le (by have := hv.1; omega)
      rw [this]; rfl
    | succ n =>
      rw [decide_eq_false (fun q => by have := he.1 q; omega)]
      have := go_pcs hg hg2 hl h0 n false (b.drop 112) (acc ++ b.take 112) (a + 1) (vok_next hv) (by omega) (.inr ⟨rfl, by rcases hf with ⟨_, h⟩ | ⟨_, h⟩ <;> omega⟩) hw.2
      show jGo l a0 last (l.length - (a + 1)) (a + 1) (acc ++ b.take 112) = _
      rw [this, List.append_assoc, List.take_append_drop, show a + 1 + (n + 1) = a + (n + 1 + 1) by omega]
theorem go_cut (hg : 0 < g) (hg2 : g < 4294967296) (hl : last ≤ g) : ∀ (n : Nat) (f : Bool) (b acc : List UInt8) (a c : Nat), VOk f b n → a + (n + 1) ≤ l.length → ((f = true ∧ a = a0) ∨ (f = false ∧ a0 < a)) → c < n + 1 → (f = true → 0 < c) → (f = false → gnS (sec l a0) = g) → Wr l g a ((pcs f b (n + 1)).take c) → goodS (sec l (a + c)) (a + c) = false → jGo l a0 last (l.length - a) a acc = none
  | n, f, b, acc, a, 0, hv, hle, hf, hc, hc0, hg0, hw, hbad => by
    rw [jGo_step (by omega)]
    have : badAt l a0 last a = true := by unfold badAt; rw [show goodS (sec l a) a = false from hbad]; rfl
    rw [this]; rfl
  | n, f, b, acc, a, c + 1, hv, hle, hf, hc, hc0, hg0, hw, hbad => by
    have hw1 : sec l a = enc g a (kdN f n) (b.take 112) := hw.1
    have hp := vok_pc hv
    have h0 : gnS (sec l a0) = g := by
      rcases hf with ⟨_, rfl⟩ | ⟨h, _⟩
      · rw [hw1, enc_gn hg2]
      · exact hg0 h
    rw [jGo_step (by omega), badAt_pc hg hg2 hl h0 hw1 hv hf]
    have he := kdN_end f n
    unfold endB
    rw [hw1, enc_kd, enc_data hp.1]
    cases n with
    | zero => omega
    | succ n =>
      rw [decide_eq_false (fun q => by have := he.1 q; omega)]
      exact go_cut hg hg2 hl n false (b.drop 112) (acc ++ b.take 112) (a + 1) c (vok_next hv) (by omega) (.inr ⟨rfl, by rcases hf with ⟨_, h⟩ | ⟨_, h⟩ <;> omega⟩) (by omega) (fun q => by cases q) (fun _ => h0) hw.2 (by rw [show a + 1 + c = a + (c + 1) by omega]; exact hbad)
end

/-- A record that is written is read. -/
theorem jRec_new {l : List (List UInt8)} {g a last : Nat} {b : List UInt8} (hg : 0 < g) (hg2 : g < 4294967296) (hl : last ≤ g) (hle : a + secN b.length ≤ l.length) (hw : Wr l g a (pcsR b)) : jRec l a last = some (b, a + secN b.length) := by
  obtain ⟨n, hn⟩ : ∃ n, secN b.length = n + 1 := ⟨secN b.length - 1, by have := secN_pos b.length; omega⟩
  have hv := vok_rec b
  rw [hn] at hv hle ⊢
  unfold pcsR at hw
  rw [hn] at hw
  have h0 : gnS (sec l a) = g := by rw [show sec l a = _ from hw.1, enc_gn hg2]
  have := go_pcs hg hg2 hl h0 n true b [] a hv hle (.inl ⟨rfl, rfl⟩) hw
  unfold jRec
  rw [this, List.nil_append]
/-- A record that is written in part is not. -/
theorem jRec_cut {l : List (List UInt8)} {g a last c : Nat} {b : List UInt8} (hg : 0 < g) (hg2 : g < 4294967296) (hl : last ≤ g) (hle : a + secN b.length ≤ l.length) (hc : c < secN b.length) (hw : Wr l g a ((pcsR b).take c)) (hbad : goodS (sec l (a + c)) (a + c) = false) : jRec l a last = none := by
  obtain ⟨n, hn⟩ : ∃ n, secN b.length = n + 1 := ⟨secN b.length - 1, by have := secN_pos b.length; omega⟩
  have hv := vok_rec b
  rw [hn] at hv hle hc
  unfold pcsR at hw
  rw [hn] at hw
  unfold jRec
  cases c with
  | zero =>
    rw [jGo_step (by omega)]
    have : badAt l a last a = true := by unfold badAt; rw [show goodS (sec l a) a = false from hbad]; rfl
    rw [this]; rfl
  | succ c => exact go_cut hg hg2 hl n true b [] a (c + 1) hv hle (.inl ⟨rfl, rfl⟩) hc (fun _ => by omega) (fun q => by cases q) hw hbad

/-- How many records so many sectors hold. -/
def cnt : List (List UInt8) → Nat → Nat
  | [], _ => 0
  | b :: N, c => if secN b.length ≤ c then cnt N (c - secN b.length) + 1 else 0
theorem cnt_cons (b : List UInt8) (N : List (List UInt8)) (c : Nat) : cnt (b :: N) c = if secN b.length ≤ c then cnt N (c - secN b.length) + 1 else 0 := rfl
theorem cnt_le : ∀ (N : List (List UInt8)) (c : Nat), cnt N c ≤ N.length
  | [], _ => Nat.le_refl _
  | b :: N, c => by
    unfold cnt
    split
    · have := cnt_le N (c - secN b.length); simp; omega
    · simp
theorem cnt_all : ∀ (N : List (List UInt8)), cnt N (usedN N) = N.length
  | [] => rfl
  | b :: N => by
    unfold cnt usedN
    rw [if_pos (by omega), Nat.add_sub_cancel_left, cnt_all N]; rfl
/-- No record begins at a sector. -/
def NB (l : List (List UInt8)) (p : Nat) : Prop := goodS (sec l p) p = true → begB (sec l p) = false
theorem nb_none {l : List (List UInt8)} {a last : Nat} (h : NB l a) : jRec l a last = none := by
  unfold jRec
  cases hf : l.length - a with
  | zero => rfl
  | succ f =>
    unfold jGo
    have : badAt l a last a = true := by
      unfold badAt
      cases hq : goodS (sec l a) a with
      | false => rfl
      | true => rw [h hq]; simp
    rw [this]; rfl

/-- Records are read, from a sector on, up to another. -/
def Rds (l : List (List UInt8)) : Nat → Nat → List (List UInt8) → Nat → Nat → Prop
  | a, last, [], e, le => a = e ∧ last = le
  | a, last, r :: R, e, le => ∃ m, jRec l a last = some (r, m) ∧ Rds l m (gnS (sec l a)) R e le
theorem Rds.its {l : List (List UInt8)} : ∀ {R : List (List UInt8)} {a last e le : Nat}, Rds l a last R e le → (B.its l a last).map (·.1) = R ++ (B.its l e le).map (·.1)
  | [], _, _, _, _, ⟨rfl, rfl⟩ => rfl
  | r :: R, a, last, e, le, ⟨m, h1, h2⟩ => by
    rw [its_some h1, List.map_cons, h2.its]; rfl
theorem Rds.app {l : List (List UInt8)} : ∀ {R S : List (List UInt8)} {a last e le f lf : Nat}, Rds l a last R e le → Rds l e le S f lf → Rds l a last (R ++ S) f lf
  | [], _, _, _, _, _, _, _, ⟨rfl, rfl⟩, h => h
  | _ :: _, _, _, _, _, _, _, _, ⟨m, h1, h2⟩, h => ⟨m, h1, h2.app h⟩
theorem rds_all (l : List (List UInt8)) : ∀ (k a last : Nat), l.length - a ≤ k → ∃ e le, Rds l a last ((its l a last).map (·.1)) e le ∧ jRec l e le = none := by
  intro k
  induction k with
  | zero =>
    intro a last h
    have hn : jRec l a last = none := by unfold jRec; rw [show l.length - a = 0 by omega]; rfl
    rw [its_none hn]
    exact ⟨a, last, ⟨rfl, rfl⟩, hn⟩
  | succ k ih =>
    intro a last h
    cases hr : jRec l a last with
    | none => rw [its_none hr]; exact ⟨a, last, ⟨rfl, rfl⟩, hr⟩
    | some x =>
      have hb := jRec_bound hr
      obtain ⟨e, le, h1, h2⟩ := ih x.2 (gnS (sec l a)) (by omega)
      rw [its_some hr]
      exact ⟨e, le, ⟨x.2, hr, h1⟩, h2⟩
theorem good_form {s : List UInt8} {k : Nat} (h : goodS s k = true) : lnS s ≤ 112 ∧ (kdS s).toNat ≤ 3 ∧ ((kdS s).toNat / 2 % 2 = 0 → lnS s = 112) ∧ ((kdS s).toNat % 2 = 0 → lnS s ≠ 0) := by
  unfold goodS at h
  rw [Bool.and_eq_true] at h
  exact form_iff.1 h.1
theorem good_len {s : List UInt8} {k : Nat} (h : goodS s k = true) : s.length = 128 := by
  unfold goodS at h
  rw [Bool.and_eq_true, Bool.and_eq_true, beq_iff_eq] at h
  have h1 := (form_iff.1 h.1).1
  rw [h.2.2]
  refine enc_len ?_
  unfold dataS
  rw [List.length_drop, List.length_take]; omega
theorem data_len {s : List UInt8} {k : Nat} (h : goodS s k = true) : (dataS s).length = lnS s := by
  have h1 := good_len h
  have h2 := (good_form h).1
  unfold dataS
  rw [List.length_drop, List.length_take]; omega
theorem badAt_false {l : List (List UInt8)} {a last n : Nat} (h : badAt l a last n = false) : goodS (sec l n) n = true ∧ (begB (sec l n) = decide (n = a)) ∧ gnS (sec l n) = gnS (sec l a) ∧ last ≤ gnS (sec l n) := by
  unfold badAt at h
  simp only [Bool.or_eq_false_iff, Bool.not_eq_false', decide_eq_false_iff_not, ne_eq, Decidable.not_not] at h
  obtain ⟨⟨⟨h1, h2⟩, h3⟩, h4⟩ := h
  exact ⟨h1, by simpa using h2, h3, by omega⟩
theorem jGo_sec {l : List (List UInt8)} {a last : Nat} : ∀ (f n : Nat) (acc : List UInt8) (x : List UInt8 × Nat), jGo l a last f n acc = some x → a ≤ n → acc.length = 112 * (n - a) → x.2 = a + secN x.1.length ∧ last ≤ gnS (sec l a)
  | 0, _, _, _, h, _, _ => by cases h
  | f + 1, n, acc, x, h, hn, hacc => by
    unfold jGo at h
    cases h1 : badAt l a last n with
    | true => rw [h1] at h; cases h
    | false =>
      rw [h1] at h
      obtain ⟨k1, k2, k3, k4⟩ := badAt_false h1
      obtain ⟨g1, g2, g3, g4⟩ := good_form k1
      have hd := data_len k1
      unfold begB at k2
      cases h2 : endB (sec l n) with
      | true =>
        rw [h2] at h
        have hx : some (acc ++ dataS (sec l n), n + 1) = some x := h
        cases hx
        refine ⟨?_, by rw [← k3]; exact k4⟩
        show n + 1 = a + secN (acc ++ dataS (sec l n)).length
        rw [List.length_append, hd, hacc]
        by_cases hna : n = a
        · unfold secN; omega
        · have q : ¬ (kdS (sec l n)).toNat % 2 = 1 := by
            rw [decide_eq_false hna] at k2; simpa using k2
          have := g4 (by omega)
          unfold secN; omega
      | false =>
        rw [h2] at h
        have h' : jGo l a last f (n + 1) (acc ++ dataS (sec l n)) = some x := h
        have hk : ¬ 2 ≤ (kdS (sec l n)).toNat := by unfold endB at h2; simpa using h2
        have hln := g3 (by omega)
        exact jGo_sec f (n + 1) _ x h' (by omega) (by rw [List.length_append, hd, hacc, hln]; omega)
theorem jRec_sec {l : List (List UInt8)} {a last : Nat} {x : List UInt8 × Nat} (h : jRec l a last = some x) : x.2 = a + secN x.1.length ∧ last ≤ gnS (sec l a) := jGo_sec _ _ _ _ h (Nat.le_refl _) (by simp)
theorem Rds.used {l : List (List UInt8)} : ∀ {R : List (List UInt8)} {a last e le : Nat}, Rds l a last R e le → e = a + usedN R
  | [], _, _, _, _, ⟨rfl, _⟩ => rfl
  | r :: R, a, last, e, le, ⟨m, h1, h2⟩ => by
    have h3 := (jRec_sec h1).1
    have h4 := h2.used
    simp only [usedN] at *
    omega
theorem Rds.gen {l : List (List UInt8)} {g : Nat} (hg : ∀ p, gnS (sec l p) < g) : ∀ {R : List (List UInt8)} {a last e le : Nat}, Rds l a last R e le → last < g → le < g
  | [], _, _, _, _, ⟨_, rfl⟩, h => h
  | _ :: _, a, _, _, _, ⟨_, _, h2⟩, _ => h2.gen hg (hg a)
theorem jGo_loc {l l' : List (List UInt8)} {a last e : Nat} (h : ∀ p, p < e → sec l' p = sec l p) (ha : a < e) : ∀ (f n : Nat) (acc : List UInt8) (x : List UInt8 × Nat), jGo l a last f n acc = some x → x.2 ≤ e → jGo l' a last f n acc = some x
  | 0, _, _, _, hx, _ => by cases hx
  | f + 1, n, acc, x, hx, he => by
    have hb := jGo_bound _ _ _ hx
    unfold jGo at hx ⊢
    have e1 : badAt l' a last n = badAt l a last n := by unfold badAt; rw [h n (by omega), h a ha]
    rw [e1, h n (by omega)]
    cases h1 : badAt l a last n with
    | true => rw [h1] at hx; cases hx
    | false =>
      rw [h1] at hx
      cases h2 : endB (sec l n) with
      | true => rw [h2] at hx; exact hx
      | false => rw [h2] at hx; exact jGo_loc h ha f (n + 1) _ x hx he
theorem Rds.loc {l l' : List (List UInt8)} (hl : l'.length = l.length) : ∀ {R : List (List UInt8)} {a last e le : Nat}, (∀ p, p < e → sec l' p = sec l p) → Rds l a last R e le → Rds l' a last R e le
  | [], _, _, _, _, _, h => h
  | r :: R, a, last, e, le, hag, ⟨m, h1, h2⟩ => by
    have hm : m ≤ e := by have := h2.used; omega
    have hb : a < m := (jRec_bound h1).1
    refine ⟨m, ?_, ?_⟩
    · unfold jRec at h1 ⊢
      rw [hl]
      exact jGo_loc hag (by omega) _ _ _ _ h1 hm
    · rw [hag a (by omega)]
      exact Rds.loc hl hag h2
/-- What is read of new records. -/
theorem read_new {l : List (List UInt8)} {g : Nat} (hg : 0 < g) (hg2 : g < 4294967296) : ∀ (N : List (List UInt8)) (a last c : Nat), last ≤ g → a + usedN N ≤ l.length → c ≤ usedN N → Wr l g a ((pcsL N).take c) → (c < usedN N → goodS (sec l (a + c)) (a + c) = false) → (c = usedN N → NB l (a + c)) →
    ∃ le, Rds l a last (N.take (cnt N c)) (a + usedN (N.take (cnt N c))) le ∧ jRec l (a + usedN (N.take (cnt N c))) le = none
  | [], a, last, c, hl, hle, hc, hw, h1, h2 => by
    have : c = 0 := by simp only [usedN] at hc; omega
    subst this
    exact ⟨last, ⟨rfl, rfl⟩, nb_none (h2 rfl)⟩
  | b :: N, a, last, c, hl, hle, hc, hw, h1, h2 => by
    simp only [usedN] at hle hc h1 h2
    have hpl : (pcsR b).length = secN b.length := pcs_len _ _ _
    by_cases hs : secN b.length ≤ c
    · have hw' : Wr l g a (pcsR b ++ (pcsL N).take (c - secN b.length)) := by
        have e : (pcsL (b :: N)).take c = pcsR b ++ (pcsL N).take (c - secN b.length) := by
          show (pcsR b ++ pcsL N).take c = _
          rw [List.take_append, hpl, List.take_of_length_le (by omega)]
        rw [← e]; exact hw
      rw [Wr.app, hpl] at hw'
      have hr := jRec_new (last := last) hg hg2 hl (by omega) hw'.1
      have h0 : gnS (sec l a) = g := by
        obtain ⟨n, hn⟩ : ∃ n, secN b.length = n + 1 := ⟨secN b.length - 1, by have := secN_pos b.length; omega⟩
        have := hw'.1
        unfold pcsR at this
        rw [hn] at this
        rw [show sec l a = _ from this.1, enc_gn hg2]
      obtain ⟨le, k1, k2⟩ := read_new hg hg2 N (a + secN b.length) g (c - secN b.length) (Nat.le_refl _) (by omega) (by omega) hw'.2 (fun q => by rw [show a + secN b.length + (c - secN b.length) = a + c by omega]; exact h1 (by omega)) (fun q => by rw [show a + secN b.length + (c - secN b.length) = a + c by omega]; exact h2 (by omega))
      refine ⟨le, ?_⟩
      have e : (b :: N).take (cnt (b :: N) c) = b :: N.take (cnt N (c - secN b.length)) := by
        rw [cnt_cons, if_pos hs]; rfl
      rw [e]
      simp only [usedN]
      rw [← Nat.add_assoc]
      exact ⟨⟨_, hr, by rw [h0]; exact k1⟩, k2⟩
    · have hw' : Wr l g a ((pcsR b).take c) := by
        have e : (pcsL (b :: N)).take c = (pcsR b).take c := by
          show (pcsR b ++ pcsL N).take c = _
          rw [List.take_append, hpl, show c - secN b.length = 0 by omega, List.take_zero, List.append_nil]
        rw [← e]; exact hw
      have hr := jRec_cut (last := last) hg hg2 hl (by omega) (by omega) hw' (h1 (by omega))
      have e : (b :: N).take (cnt (b :: N) c) = [] := by rw [cnt_cons, if_neg hs]; rfl
      rw [e]
      exact ⟨last, ⟨rfl, rfl⟩, hr⟩
/-- What is read after new records were written, all or some. -/
theorem sync_read {l l' : List (List UInt8)} {g c : Nat} {N : List (List UInt8)} (hl : l'.length = l.length) (hg2 : g < 4294967296) (hgen : ∀ p, gnS (sec l p) < g) (hag : ∀ p, p < usedN (recs l) → sec l' p = sec l p) (hle : usedN (recs l) + usedN N ≤ l.length) (hc : c ≤ usedN N) (hw : Wr l' g (usedN (recs l)) ((pcsL N).take c)) (h1 : c < usedN N → goodS (sec l' (usedN (recs l) + c)) (usedN (recs l) + c) = false) (h2 : c = usedN N → NB l' (usedN (recs l) + c)) : recs l' = recs l ++ N.take (cnt N c) := by
  obtain ⟨e, le, k1, k2⟩ := rds_all l _ 0 0 (Nat.le_refl _)
  have k1' : Rds l 0 0 (recs l) e le := k1
  have hg : 0 < g := Nat.lt_of_le_of_lt (Nat.zero_le _) (hgen 0)
  have hu := k1'.used
  rw [Nat.zero_add] at hu
  have hge := k1'.gen hgen hg
  obtain ⟨lf, m1, m2⟩ := read_new hg hg2 N (usedN (recs l)) le c (by omega) (by omega) hc hw h1 h2
  have k3 := k1'.loc hl (by rw [hu]; exact hag)
  rw [hu] at k3
  have := (k3.app m1).its
  rw [its_none m2, List.map_nil, List.append_nil] at this
  exact this
end B
end Go.Proofs.Ytbmnhagbplkagaa
