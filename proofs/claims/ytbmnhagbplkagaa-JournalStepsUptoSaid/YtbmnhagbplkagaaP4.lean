import Derived.Test.YtbmnhagbplkagaaP3
/- The journal's plain laws: what a sync leaves on the disk. -/
namespace Go.Proofs.Ytbmnhagbplkagaa
namespace B
open Go.RowKit

/-- The writes of some pieces. -/
def wrs (g : Nat) : Nat → List (UInt8 × List UInt8) → List (Int × List UInt8)
  | _, [] => []
  | a, p :: ps => ((a : Int), enc g a p.1 p.2) :: wrs g (a + 1) ps
theorem wrs_len (g : Nat) : ∀ (a : Nat) (ps : List (UInt8 × List UInt8)), (wrs g a ps).length = ps.length
  | _, [] => rfl
  | a, p :: ps => by simp [wrs, wrs_len g (a + 1) ps]
theorem wrs_take (g : Nat) : ∀ (ps : List (UInt8 × List UInt8)) (a c : Nat), (wrs g a ps).take c = wrs g a (ps.take c)
  | [], _, c => by simp [wrs]
  | p :: ps, a, 0 => by simp [wrs]
  | p :: ps, a, c + 1 => by simp [wrs, wrs_take g ps (a + 1) c]
theorem wrs_get (g : Nat) : ∀ (ps : List (UInt8 × List UInt8)) (a c : Nat) (p : UInt8 × List UInt8), ps[c]? = some p → (wrs g a ps)[c]? = some (((a + c : Nat) : Int), enc g (a + c) p.1 p.2)
  | [], _, c, _, h => by simp at h
  | q :: ps, a, 0, p, h => by simp at h; subst h; rfl
  | q :: ps, a, c + 1, p, h => by
    have := wrs_get g ps (a + 1) c p (by simpa using h)
    rw [show a + (c + 1) = a + 1 + c by omega]
    exact this
theorem wrD_some (g : Nat) : ∀ (ps : List (UInt8 × List UInt8)) (d : Dk) (a : Nat), a + ps.length ≤ d.ss.length → wrD g ps d a = some ⟨d.ss, d.ps ++ wrs g a ps, d.left, d.st⟩
  | [], d, a, _ => by simp [wrD, wrs]
  | p :: ps, d, a, h => by
    simp only [List.length_cons] at h
    unfold wrD
    rw [if_pos (by omega), wrD_some g ps _ (a + 1) (by show a + 1 + ps.length ≤ d.ss.length; omega)]
    simp [wrs]
theorem sec_set_ne {l : List (List UInt8)} {i p : Nat} {x : List UInt8} (h : i ≠ p) : sec (l.set i x) p = sec l p := by
  unfold sec
  rw [List.getD_eq_getElem?_getD, List.getD_eq_getElem?_getD, List.getElem?_set_ne h]
theorem sec_set_eq {l : List (List UInt8)} {i : Nat} {x : List UInt8} (h : i < l.length) : sec (l.set i x) i = x := by
  unfold sec
  rw [List.getD_eq_getElem?_getD, List.getElem?_set_self h]; rfl
theorem perf_out (g : Nat) : ∀ (ps : List (UInt8 × List UInt8)) (l : List (List UInt8)) (a p : Nat), p < a ∨ a + ps.length ≤ p → sec (perf l (wrs g a ps)) p = sec l p
  | [], _, _, _, _ => rfl
  | q :: ps, l, a, p, h => by
    simp only [List.length_cons] at h
    show sec (perf (l.set (Int.toNat (a : Int)) (enc g a q.1 q.2)) (wrs g (a + 1) ps)) p = _
    rw [perf_out g ps _ (a + 1) p (by omega), Int.toNat_natCast, sec_set_ne (by omega)]
theorem perf_in (g : Nat) : ∀ (ps : List (UInt8 × List UInt8)) (l : List (List UInt8)) (a : Nat), a + ps.length ≤ l.length → Wr (perf l (wrs g a ps)) g a ps
  | [], _, _, _ => trivial
  | q :: ps, l, a, h => by
    simp only [List.length_cons] at h
    have e : perf l (wrs g a (q :: ps)) = perf (l.set a (enc g a q.1 q.2)) (wrs g (a + 1) ps) := by
      show perf (l.set (Int.toNat (a : Int)) (enc g a q.1 q.2)) (wrs g (a + 1) ps) = _
      rw [Int.toNat_natCast]
    rw [e]
    refine ⟨?_, perf_in g ps _ (a + 1) (by rw [List.length_set]; omega)⟩
    rw [perf_out g ps _ (a + 1) a (by omega), sec_set_eq (by omega)]
theorem Wr.loc {l l' : List (List UInt8)} {g : Nat} : ∀ {ps : List (UInt8 × List UInt8)} {a : Nat}, (∀ p, a ≤ p → p < a + ps.length → sec l' p = sec l p) → Wr l g a ps → Wr l' g a ps
  | [], _, _, _ => trivial
  | q :: ps, a, h, hw => by
    simp only [List.length_cons] at h
    exact ⟨by rw [h a (by omega) (by omega)]; exact hw.1, Wr.loc (fun p h1 h2 => h p (by omega) (by omega)) hw.2⟩

/-! ### pieces are pieces -/
theorem pcs_ok : ∀ (n : Nat) (f : Bool) (b : List UInt8), VOk f b n → ∀ p ∈ pcs f b (n + 1), PcOk p
  | 0, f, b, hv, p, hp => by
    have h1 := vok_pc hv
    simp only [pcs, List.mem_cons, List.not_mem_nil, or_false] at hp
    subst hp; exact h1
  | n + 1, f, b, hv, p, hp => by
    have h1 := vok_pc hv
    rcases List.mem_cons.1 hp with rfl | hp
    · exact h1
    · exact pcs_ok n false (b.drop 112) (vok_next hv) p hp
theorem pcsR_ok (b : List UInt8) : ∀ p ∈ pcsR b, PcOk p := by
  have hv := vok_rec b
  unfold pcsR
  rw [show secN b.length = secN b.length - 1 + 1 by have := secN_pos b.length; omega]
  exact pcs_ok _ _ _ hv
theorem pcsL_ok : ∀ (N : List (List UInt8)), ∀ p ∈ pcsL N, PcOk p
  | [], p, h => by cases h
  | b :: N, p, h => by
    rcases List.mem_append.1 h with h | h
    · exact pcsR_ok b p h
    · exact pcsL_ok N p h
/-- Behind the first piece of a record no record begins. -/
theorem pcs_tail : ∀ (n : Nat) (b : List UInt8), ∀ p ∈ pcs false b n, p.1.toNat % 2 = 0
  | 0, _, p, h => by cases h
  | n + 1, b, p, h => by
    rcases List.mem_cons.1 h with rfl | h
    · have := kdN_begin false n
      show (kdN false n).toNat % 2 = 0
      have h2 : ¬ (kdN false n).toNat % 2 = 1 := fun q => by have := this.1 q; cases this
      omega
    · exact pcs_tail n (b.drop 112) p h
theorem pcsR_tail (b : List UInt8) (i : Nat) (p : UInt8 × List UInt8) (hi : 0 < i) (h : (pcsR b)[i]? = some p) : p.1.toNat % 2 = 0 := by
  unfold pcsR at h
  rw [show secN b.length = secN b.length - 1 + 1 by have := secN_pos b.length; omega] at h
  obtain ⟨j, rfl⟩ : ∃ j, i = j + 1 := ⟨i - 1, by omega⟩
  exact pcs_tail _ _ p (List.mem_of_getElem? (show (pcs false (b.drop 112) (secN b.length - 1))[j]? = some p from by simpa [pcs] using h))

theorem nb_pc {l : List (List UInt8)} {g p : Nat} {q : UInt8 × List UInt8} (h : sec l p = enc g p q.1 q.2) (h2 : q.1.toNat % 2 = 0) : NB l p := by
  intro _
  rw [h]
  unfold begB
  rw [enc_kd]
  exact decide_eq_false (by omega)
theorem nb_bad {l : List (List UInt8)} {p : Nat} (h : goodS (sec l p) p = false) : NB l p := fun q => by rw [h] at q; cases q
/-- No record begins behind the place where those that were written end. -/
theorem nb_new {l : List (List UInt8)} {g : Nat} : ∀ (N : List (List UInt8)) (a c : Nat), c ≤ usedN N → Wr l g a ((pcsL N).take c) → (c < usedN N → NB l (a + c)) → (∀ p, a + c < p → NB l p) → (c = usedN N → 0 < c → NB l (a + c)) → ∀ p, a + usedN (N.take (cnt N c)) < p → NB l p
  | [], a, c, hc, hw, h1, h2, h3 => by
    have : c = 0 := by simp only [usedN] at hc; omega
    subst this
    exact fun p hp => h2 p hp
  | b :: N, a, c, hc, hw, h1, h2, h3 => by
    simp only [usedN] at hc h1 h3
    have hpl : (pcsR b).length = secN b.length := pcs_len _ _ _
    have hsp := secN_pos b.length
    by_cases hs : secN b.length ≤ c
    · have hw' : Wr l g a (pcsR b ++ (pcsL N).take (c - secN b.length)) := by
        have e : (pcsL (b :: N)).take c = pcsR b ++ (pcsL N).take (c - secN b.length) := by
          show (pcsR b ++ pcsL N).take c = _
          rw [List.take_append, hpl, List.take_of_length_le (by omega)]
        rw [← e]; exact hw
      rw [Wr.app, hpl] at hw'
      have e1 : a + secN b.length + (c - secN b.length) = a + c := by omega
      have ih := nb_new N (a + secN b.length) (c - secN b.length) (by omega) hw'.2 (fun q => by rw [e1]; exact h1 (by omega)) (fun p hp => h2 p (by omega)) (fun q r => by rw [e1]; exact h3 (by omega) (by omega))
      have e : (b :: N).take (cnt (b :: N) c) = b :: N.take (cnt N (c - secN b.length)) := by
        rw [cnt_cons, if_pos hs]; rfl
      rw [e]
      simp only [usedN]
      intro p hp
      exact ih p (by omega)
    · have e : (b :: N).take (cnt (b :: N) c) = [] := by rw [cnt_cons, if_neg hs]; rfl
      rw [e]
      intro p hp
      simp only [usedN, Nat.add_zero] at hp
      by_cases q1 : p < a + c
      · have e2 : (pcsL (b :: N)).take c = (pcsR b).take c := by
          show (pcsR b ++ pcsL N).take c = _
          rw [List.take_append, hpl, show c - secN b.length = 0 by omega, List.take_zero, List.append_nil]
        rw [e2] at hw
        have hi : p - a < ((pcsR b).take c).length := by rw [List.length_take, hpl]; omega
        have hg := hw.get (p - a) _ (List.getElem?_eq_getElem hi)
        rw [show a + (p - a) = p by omega] at hg
        refine nb_pc hg (pcsR_tail b (p - a) _ (by omega) ?_)
        have := List.getElem?_eq_getElem hi
        rw [List.getElem?_take, if_pos (by omega)] at this
        exact this
      · by_cases q2 : p = a + c
        · rw [q2]; exact h1 (by omega)
        · exact h2 p (by omega)

/-! ### the state of a disk between syncs -/
structure DInv (l : List (List UInt8)) (K : List (List UInt8)) (G : Nat) : Prop where
  one : 1 ≤ l.length
  len : l.length ≤ 4096
  all : ∀ s ∈ l, s.length = 128
  rd : recs l = K
  nb : ∀ p, usedN K < p → NB l p
  gen : ∀ s ∈ l, gnS s ≤ G ∧ gnE s ≤ G
theorem DInv.genS {l K : List (List UInt8)} {G : Nat} (h : DInv l K G) : genS l ≤ G + 1 := genG_le l 1 _ (by omega) (fun s hs => by have := h.gen s hs; omega)
theorem DInv.used {l K : List (List UInt8)} {G : Nat} (h : DInv l K G) : usedN K ≤ l.length := by have := used_recs l; rw [h.rd] at this; exact this
theorem sec_gen {l : List (List UInt8)} (p : Nat) : gnS (sec l p) < genS l := by
  by_cases h : p < l.length
  · exact (genG_mem l 1 _ (getD_mem tB.dflt h)).1
  · have e : sec l p = [] := by
      unfold sec
      rw [List.getD_eq_getElem?_getD, List.getElem?_eq_none (by omega)]; rfl
    rw [e]
    exact genS_pos l
theorem wrs_mem {g : Nat} : ∀ (ps : List (UInt8 × List UInt8)) (a : Nat) (w : Int × List UInt8), w ∈ wrs g a ps → ∃ (k : Nat) (p : UInt8 × List UInt8), p ∈ ps ∧ a ≤ k ∧ k < a + ps.length ∧ w = ((k : Int), enc g k p.1 p.2)
  | [], _, _, h => by cases h
  | q :: ps, a, w, h => by
    rcases List.mem_cons.1 h with rfl | h
    · exact ⟨a, q, by simp, Nat.le_refl _, by simp, rfl⟩
    · obtain ⟨k, p, h1, h2, h3, h4⟩ := wrs_mem ps (a + 1) w h
      exact ⟨k, p, by simp [h1], by omega, by simp only [List.length_cons]; omega, h4⟩
theorem perf_mem : ∀ (ws : List (Int × List UInt8)) (l : List (List UInt8)) (s : List UInt8), s ∈ perf l ws → s ∈ l ∨ ∃ w ∈ ws, s = w.2
  | [], _, _, h => .inl h
  | w :: ws, l, s, h => by
    rcases perf_mem ws _ s h with h | ⟨w', h1, h2⟩
    · rcases List.mem_or_eq_of_mem_set h with h | h
      · exact .inl h
      · exact .inr ⟨w, by simp, h⟩
    · exact .inr ⟨w', by simp [h1], h2⟩
theorem wrs_sec {g : Nat} {ps : List (UInt8 × List UInt8)} (hps : ∀ p ∈ ps, PcOk p) {a : Nat} {w : Int × List UInt8} (h : w ∈ wrs g a ps) (hg : g < 4294967296) : w.2.length = 128 ∧ gnS w.2 = g ∧ gnE w.2 = g := by
  obtain ⟨k, p, h1, _, _, rfl⟩ := wrs_mem ps a w h
  have hp := (hps p h1).1
  exact ⟨enc_len hp, enc_gn hg, enc_ge hg hp⟩

/-- After a sync that did not stop. -/
theorem DInv.full {l K N : List (List UInt8)} {G : Nat} (h : DInv l K G) (hN : N ≠ []) (hu : usedN K + usedN N ≤ l.length) (hg : B.genS l < 4294967296) : DInv (perf l (wrs (B.genS l) (usedN K) (pcsL N))) (K ++ N) (G + 1) := by
  have hK := h.rd
  subst hK
  have hpl := pcsL_len N
  have hlen : (perf l (wrs (B.genS l) (usedN (recs l)) (pcsL N))).length = l.length := perf_len _ _
  have hpos : 0 < usedN N := by
    cases N with
    | nil => exact absurd rfl hN
    | cons b N => have := secN_pos b.length; simp only [usedN]; omega
  have hin := perf_in (B.genS l) (pcsL N) l (usedN (recs l)) (by rw [hpl]; exact hu)
  have hin' : Wr (perf l (wrs (B.genS l) (usedN (recs l)) (pcsL N))) (B.genS l) (usedN (recs l)) ((pcsL N).take (usedN N)) := by
    rw [List.take_of_length_le (by omega)]; exact hin
  have hout : ∀ p, p < usedN (recs l) ∨ usedN (recs l) + usedN N ≤ p → sec (perf l (wrs (B.genS l) (usedN (recs l)) (pcsL N))) p = sec l p := fun p hp => perf_out _ _ _ _ _ (by rw [hpl]; exact hp)
  have hnb : ∀ p, usedN (recs l) + usedN N ≤ p → NB (perf l (wrs (B.genS l) (usedN (recs l)) (pcsL N))) p := fun p hp => by
    have := h.nb p (by omega)
    unfold NB at this ⊢
    rw [hout p (.inr hp)]; exact this
  refine ⟨by rw [hlen]; exact h.one, by rw [hlen]; exact h.len, ?_, ?_, ?_, ?_⟩
  · intro s hs
    rcases perf_mem _ _ _ hs with hs | ⟨w, hw, rfl⟩
    · exact h.all s hs
    · exact (wrs_sec (pcsL_ok N) hw hg).1
  · have := sync_read (N := N) (c := usedN N) hlen hg (fun p => sec_gen p) (fun p hp => hout p (.inl hp)) hu (Nat.le_refl _) hin' (fun q => absurd q (Nat.lt_irrefl _)) (fun _ => hnb _ (Nat.le_refl _))
    rw [this, cnt_all, List.take_length]
  · rw [usedN_app]
    intro p hp
    exact hnb p (by omega)
  · intro s hs
    have hgG := h.genS
    rcases perf_mem _ _ _ hs with hs | ⟨w, hw, rfl⟩
    · have := h.gen s hs; omega
    · have := wrs_sec (pcsL_ok N) hw hg; omega

/-- A torn sector is none. -/
theorem good_ends {s : List UInt8} {k : Nat} (h : goodS s k = true) : gnE s = gnS s := by
  unfold goodS at h
  rw [Bool.and_eq_true, Bool.and_eq_true, beq_iff_eq] at h
  have h1 := (form_iff.1 h.1).1
  have h2 : (dataS s).length ≤ 112 := by unfold dataS; rw [List.length_drop, List.length_take]; omega
  have h3 := congrArg gnE h.2.2
  have h4 := gn_lt s
  unfold gnS at h4
  rw [enc_ge h4 h2] at h3
  exact h3
theorem torn_ends {e o : List UInt8} (he : e.length = 128) (ho : o.length = 128) : (e.take 64 ++ o.drop 64).length = 128 ∧ gnS (e.take 64 ++ o.drop 64) = gnS e ∧ gnE (e.take 64 ++ o.drop 64) = gnE o := by
  refine ⟨by simp; omega, ?_, ?_⟩
  · unfold gnS
    rw [List.take_append_of_le_length (by simp; omega), List.take_take]; rfl
  · unfold gnE
    have : (e.take 64).length = 64 := by simp; omega
    rw [List.drop_append, List.drop_of_length_le (by omega), List.nil_append, this, List.drop_drop]
/-- After a sync that stopped. -/
theorem DInv.stop {l K N : List (List UInt8)} {G c : Nat} (h : DInv l K G) (hc : c < usedN N) (hu : usedN K + usedN N ≤ l.length) (hg : B.genS l < 4294967296) : DInv (dTorn (perf l ((wrs (B.genS l) (usedN K) (pcsL N)).take c)) ((wrs (B.genS l) (usedN K) (pcsL N)).getD c (0, []))) (K ++ N.take (cnt N c)) (G + 1) := by
  have hK := h.rd
  subst hK
  have hpl := pcsL_len N
  obtain ⟨g, hgd⟩ : ∃ g, g = B.genS l := ⟨_, rfl⟩
  rw [← hgd] at hg ⊢
  obtain ⟨a, had⟩ : ∃ a, a = usedN (recs l) := ⟨_, rfl⟩
  rw [← had] at hu ⊢
  have hcl : c < (pcsL N).length := by omega
  obtain ⟨q, hq⟩ : ∃ q, (pcsL N)[c]? = some q := ⟨_, List.getElem?_eq_getElem hcl⟩
  have hqm := List.mem_of_getElem? hq
  have hqo := pcsL_ok N q hqm
  have hget : (wrs g a (pcsL N)).getD c (0, []) = (((a + c : Nat) : Int), enc g (a + c) q.1 q.2) := by
    rw [List.getD_eq_getElem?_getD, wrs_get g _ a c q hq]; rfl
  rw [hget, wrs_take]
  have htl : ((pcsL N).take c).length = c := by rw [List.length_take]; omega
  have hlen : (perf l (wrs g a ((pcsL N).take c))).length = l.length := perf_len _ _
  have hac : a + c < l.length := by omega
  have hold : (perf l (wrs g a ((pcsL N).take c))).getD (Int.toNat ((a + c : Nat) : Int)) [] = sec l (a + c) := by
    rw [Int.toNat_natCast]
    exact perf_out g _ l a (a + c) (.inr (by rw [htl]; exact Nat.le_refl _))
  unfold dTorn
  dsimp only
  rw [hold, Int.toNat_natCast]
  have ho := h.all _ (getD_mem tB.dflt hac)
  have he : (enc g (a + c) q.1 q.2).length = 128 := enc_len hqo.1
  obtain ⟨t1, t2, t3⟩ := torn_ends he ho
  obtain ⟨T, hT⟩ : ∃ T, T = (enc g (a + c) q.1 q.2).take 64 ++ (sec l (a + c)).drop 64 := ⟨_, rfl⟩
  rw [← hT] at t1 t2 t3 ⊢
  rw [enc_gn hg] at t2
  have hgm := genG_mem l 1 _ (getD_mem tB.dflt hac)
  have t4 : gnE T < g := by rw [t3, hgd]; exact hgm.2
  have hbad : ∀ k, goodS T k = false := fun k => by
    cases hq : goodS T k with
    | false => rfl
    | true => have := good_ends hq; omega
  obtain ⟨l', hl'⟩ : ∃ l', l' = (perf l (wrs g a ((pcsL N).take c))).set (a + c) T := ⟨_, rfl⟩
  rw [← hl']
  have hlen' : l'.length = l.length := by rw [hl', List.length_set, hlen]
  have hsT : sec l' (a + c) = T := by rw [hl']; exact sec_set_eq (by rw [hlen]; exact hac)
  have hsne : ∀ p, p ≠ a + c → sec l' p = sec (perf l (wrs g a ((pcsL N).take c))) p := fun p hp => by rw [hl']; exact sec_set_ne (fun q => hp q.symm)
  have hout : ∀ p, p < a ∨ a + c < p → sec l' p = sec l p := fun p hp => by
    rw [hsne p (by omega)]
    exact perf_out g _ l a p (by rw [htl]; omega)
  have hin : Wr l' g a ((pcsL N).take c) := (perf_in g ((pcsL N).take c) l a (by rw [htl]; omega)).loc (fun p h1 h2 => hsne p (by rw [htl] at h2; omega))
  have hnb : ∀ p, a + c < p → NB l' p := fun p hp => by
    have := h.nb p (by omega)
    unfold NB at this ⊢
    rw [hout p (.inr hp)]; exact this
  have hbd : goodS (sec l' (a + c)) (a + c) = false := by rw [hsT]; exact hbad _
  refine ⟨by rw [hlen']; exact h.one, by rw [hlen']; exact h.len, ?_, ?_, ?_, ?_⟩
  · intro s hs
    rw [hl'] at hs
    rcases List.mem_or_eq_of_mem_set hs with hs | hs
    · rcases perf_mem _ _ _ hs with hs | ⟨w, hw, rfl⟩
      · exact h.all s hs
      · exact (wrs_sec (fun p hp => pcsL_ok N p (List.mem_of_mem_take hp)) hw hg).1
    · rw [hs]; exact t1
  · exact sync_read (g := g) (N := N) (c := c) hlen' hg (fun p => by rw [hgd]; exact sec_gen p) (fun p hp => hout p (.inl (by omega))) (by omega) (by omega) (by rw [← had]; exact hin) (fun _ => by rw [← had]; exact hbd) (fun q => by omega)
  · rw [usedN_app, ← had]
    exact nb_new N a c (by omega) hin (fun _ => nb_bad hbd) hnb (fun q => by omega)
  · intro s hs
    have hgG := h.genS
    rw [hl'] at hs
    rcases List.mem_or_eq_of_mem_set hs with hs | hs
    · rcases perf_mem _ _ _ hs with hs | ⟨w, hw, rfl⟩
      · have := h.gen s hs; omega
      · have := wrs_sec (fun p hp => pcsL_ok N p (List.mem_of_mem_take hp)) hw hg; omega
    · rw [hs]; omega
end B
end Go.Proofs.Ytbmnhagbplkagaa
