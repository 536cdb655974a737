import Derived.Test.YtbmnhagbplkagaaCc
/- The law DiskTogether answers true at every disk and script. -/
namespace Go.Proofs.Ytbmnhagbplkagaa
namespace B
open Go.RowKit
set_option maxHeartbeats 4000000
set_option maxRecDepth 100000
attribute [local irreducible] awc awT thn blk DQ retQ rawQ ownQ retOk ResIs

abbrev ActT := Bool × UInt8 × UInt8
/-- The writes of a script. -/
def tgW (m : Nat) (a : ActT) : Int × List UInt8 := ((a.2.1.toNat : Int).tmod m, pad [a.2.2])
def tgL (left : Int) (i : Nat) : Int := bif decide (left ≥ 0) then left - i else left
theorem tg_at {m : Nat} (hm : 1 ≤ m) (a : ActT) : 0 ≤ (tgW m a).1 ∧ (tgW m a).1 < m := by
  refine ⟨?_, ?_⟩
  · show 0 ≤ ((a.2.1.toNat : Int).tmod m)
    exact Int.tmod_nonneg _ (Int.natCast_nonneg _)
  · show ((a.2.1.toNat : Int).tmod m) < m
    exact Int.tmod_lt_of_pos _ (by omega)

theorem perf_snoc (ss : List (List UInt8)) (l : List (Int × List UInt8)) (w : Int × List UInt8) : perf ss (l ++ [w]) = (perf ss l).set w.1.toNat w.2 := by
  rw [perf_append]; rfl
theorem take_snoc {α : Type} (d : α) {l : List α} {i : Nat} (h : i < l.length) : l.take (i + 1) = l.take i ++ [l.getD i d] := by
  rw [List.take_succ_eq_append_getElem h, List.getD_eq_getElem?_getD, List.getElem?_eq_getElem h]; rfl
theorem map_getD {α β : Type} (f : α → β) (d : α) (e : β) {l : List α} {i : Nat} (h : i < l.length) : (l.map f).getD i e = f (l.getD i d) := by
  rw [List.getD_eq_getElem?_getD, List.getD_eq_getElem?_getD, List.getElem?_map, List.getElem?_eq_getElem h]; rfl

section
variable {ss : List (List UInt8)} {left : Int} {s : List ActT}
/-- The disk behind i writes, each synced. -/
def tgX (ss : List (List UInt8)) (left : Int) (s : List ActT) (i : Nat) : Dk := ⟨perf ss ((s.map (tgW ss.length)).take i), [], tgL left i, false⟩
def tgY (ss : List (List UInt8)) (left : Int) (s : List ActT) (i : Nat) : Dk := ⟨ss, (s.map (tgW ss.length)).take i, left, false⟩
theorem tgX_bad (h : dBad ss [] left = false) {i : Nat} (hi : left < 0 ∨ i ≤ left) : (tgX ss left s i).bad = false := by
  obtain ⟨h1, h2, h3, h4, h5, h6, h7⟩ := dBad_iff.1 h
  refine bad_iff.2 ⟨dBad_iff.2 ?_, rfl⟩
  have hl : (tgX ss left s i).ss.length = ss.length := perf_len _ _
  rw [hl]
  refine ⟨h1, h2, h3, ?_, ?_, (fun w hw => by cases hw), perf_all _ _ h7 fun w hw => ?_⟩
  · show -1 ≤ tgL left i
    unfold tgL
    by_cases q : left ≥ 0
    · rw [show decide (left ≥ 0) = true by simp [q]]; simp only [cond_true]; omega
    · rw [show decide (left ≥ 0) = false by simp; omega]; simp only [cond_false]; omega
  · show tgL left i ≤ _
    unfold tgL
    by_cases q : left ≥ 0
    · rw [show decide (left ≥ 0) = true by simp [q]]; simp only [cond_true]; omega
    · rw [show decide (left ≥ 0) = false by simp; omega]; simp only [cond_false]; omega
  · obtain ⟨a, _, rfl⟩ := List.mem_map.1 (List.mem_of_mem_take hw)
    exact pad_len (by simp)
theorem tgY_bad (h : dBad ss [] left = false) {i : Nat} (hi : i ≤ 4096) : (tgY ss left s i).bad = false := by
  obtain ⟨h1, h2, h3, h4, h5, h6, h7⟩ := dBad_iff.1 h
  refine bad_iff.2 ⟨dBad_iff.2 ⟨h1, h2, ?_, h4, h5, fun w hw => ?_, h7⟩, rfl⟩
  · show (List.take i _).length ≤ _
    rw [List.length_take]; omega
  · obtain ⟨a, _, rfl⟩ := List.mem_map.1 (List.mem_of_mem_take hw)
    have := tg_at h1 a
    exact ⟨this.1, this.2, pad_len (by simp)⟩
theorem tgX_write (h : dBad ss [] left = false) {i : Nat} (hi : left < 0 ∨ i ≤ left) (a : ActT) : dWrite (tgX ss left s i) (tgW ss.length a).1 [a.2.2] = (⟨perf ss ((s.map (tgW ss.length)).take i), [tgW ss.length a], tgL left i, false⟩, 0) := by
  have h1 := (dBad_iff.1 h).1
  have := tg_at h1 a
  exact write_ok (tgX_bad h hi) (has_iff.2 ⟨this.1, by show _ < ((perf ss _).length : Int); rw [perf_len]; exact this.2⟩) (by simp) (by show 0 ≠ 4096; decide)
theorem tgX_bad2 (h : dBad ss [] left = false) {i : Nat} (hi : left < 0 ∨ i ≤ left) (a : ActT) : (⟨perf ss ((s.map (tgW ss.length)).take i), [tgW ss.length a], tgL left i, false⟩ : Dk).bad = false := by
  have h1 := (dBad_iff.1 h).1
  have := tg_at h1 a
  have hh : (tgX ss left s i).has (tgW ss.length a).1 = true := has_iff.2 ⟨this.1, by show _ < ((perf ss _).length : Int); rw [perf_len]; exact this.2⟩
  have hz : (tgX ss left s i).ps.length ≠ 4096 := fun q => by cases q
  have := add_bad (d := tgX ss left s i) (a := (tgW ss.length a).1) (b := [a.2.2]) (tgX_bad (s := s) h hi) hh (by simp) hz
  have e : Dk.add (tgX ss left s i) (tgW ss.length a).1 [a.2.2] = ⟨perf ss ((s.map (tgW ss.length)).take i), [tgW ss.length a], tgL left i, false⟩ := rfl
  rwa [e] at this
theorem tgX_go (h : dBad ss [] left = false) {i : Nat} (hi : left < 0 ∨ i < left) (hl : i < s.length) (d : ActT) : dSync ⟨perf ss ((s.map (tgW ss.length)).take i), [tgW ss.length (s.getD i d)], tgL left i, false⟩ = (tgX ss left s (i + 1), 0) := by
  rw [sync_go (tgX_bad2 h (by omega) _)]
  · unfold Dk.done Dk.rest tgX
    rw [take_snoc (tgW ss.length d) (by simpa using hl), perf_snoc, map_getD _ d _ hl]
    have e : (bif decide (tgL left i ≥ 0) then tgL left i - 1 else tgL left i) = tgL left (i + 1) := by
      unfold tgL
      by_cases q : left ≥ 0
      · rw [show decide (left ≥ 0) = true by simp [q]]
        simp only [cond_true]
        rw [show decide (left - i ≥ 0) = true by simp; omega]
        simp only [cond_true]; omega
      · rw [show decide (left ≥ 0) = false by simp; omega]
        simp only [cond_false]
        rw [show decide (left ≥ 0) = false by simp; omega]
        rfl
    refine Prod.ext ?_ rfl
    show (⟨_, _, _, _⟩ : Dk) = ⟨_, _, _, _⟩
    congr 1
  · unfold Dk.stops tgL
    by_cases q : left ≥ 0
    · rw [show decide (left ≥ 0) = true by simp [q]]
      simp only [cond_true, List.length_singleton]
      rw [show decide (left - i < ((1 : Nat) : Int)) = false by simp; omega, Bool.and_false]
    · rw [show decide (left ≥ 0) = false by simp; omega]
      simp only [cond_false]
      rw [show decide (left ≥ 0) = false by simp; omega]
      rfl
theorem tgX_stop (h : dBad ss [] left = false) {i : Nat} (hi : (i : Int) = left) (hl : i < s.length) (hn0 : s.length ≤ 4096) (d : ActT) : dSync ⟨perf ss ((s.map (tgW ss.length)).take i), [tgW ss.length (s.getD i d)], tgL left i, false⟩ = dSync (tgY ss left s s.length) := by
  have e1 : tgL left i = 0 := by
    unfold tgL
    rw [show decide (left ≥ 0) = true by simp; omega]
    simp only [cond_true]; omega
  have hn : (s.map (tgW ss.length)).length = s.length := by simp
  have e2 : (s.map (tgW ss.length)).take s.length = s.map (tgW ss.length) := by rw [List.take_of_length_le (by omega)]
  have hb2 : (tgY ss left s s.length).bad = false := tgY_bad h hn0
  rw [sync_stop (tgX_bad2 h (by omega) _) (by unfold Dk.stops; rw [e1]; rfl), sync_stop hb2 (by unfold Dk.stops tgY; simp; omega)]
  unfold Dk.torn tgY
  rw [e1]
  refine Prod.ext ?_ rfl
  show (⟨_, _, _, _⟩ : Dk) = ⟨_, _, _, _⟩
  congr 1
  have e3 : left.toNat = i := by omega
  show dTorn (perf ss ((s.map (tgW ss.length)).take i)) (tgW ss.length (s.getD i d)) = dTorn (perf ss (((s.map (tgW ss.length)).take s.length).take left.toNat)) (((s.map (tgW ss.length)).take s.length).getD left.toNat (0, []))
  rw [e2, e3, map_getD _ d _ hl]
theorem tgX_end (h : dBad ss [] left = false) (hi : left < 0 ∨ s.length ≤ left) (hn : s.length ≤ 4096) : dSync (tgY ss left s s.length) = (tgX ss left s s.length, 0) := by
  rw [sync_go (tgY_bad h hn)]
  · unfold Dk.done Dk.rest tgX tgY tgL
    simp only [List.length_take, List.length_map, Nat.min_self]
  · unfold Dk.stops tgY
    simp only [List.length_take, List.length_map, Nat.min_self]
    by_cases q : left ≥ 0
    · rw [show decide (left < (s.length : Int)) = false by simp; omega, Bool.and_false]
    · rw [show decide (left ≥ 0) = false by simp; omega, Bool.false_and]
theorem tgY_write (h : dBad ss [] left = false) {i : Nat} (hl : i < s.length) (hn : s.length ≤ 20) (d : ActT) : dWrite (tgY ss left s i) (tgW ss.length (s.getD i d)).1 [(s.getD i d).2.2] = (tgY ss left s (i + 1), 0) := by
  have h1 := (dBad_iff.1 h).1
  have := tg_at h1 (s.getD i d)
  rw [write_ok (tgY_bad h (by omega)) (has_iff.2 this) (by simp) (by show (List.take i _).length ≠ _; rw [List.length_take]; omega)]
  unfold Dk.add tgY
  rw [take_snoc (tgW ss.length d) (by simpa using hl), map_getD _ d _ hl]
  rfl
end

theorem u8_back (c : UInt8) : UInt8.ofNat (Int.toNat (c.toNat : Int)) = c := by simp
theorem u8_rng (c : UInt8) : (0 : Int) ≤ (c.toNat : Int) ∧ (c.toNat : Int) < 256 := ⟨by omega, by have := c.toNat_lt; omega⟩
theorem u8_i64 (c : UInt8) : IntKind.i64.wrap (c.toNat : Int) = c.toNat := by
  have := c.toNat_lt
  exact i64w (by omega) (by omega)

theorem c10 (ss : List (List UInt8)) (ps : List (Int × List UInt8)) (left : Int) (st : Bool) (s : List ActT) : ACalls 10 [aD ss ps left st, o1 (.sl tAct s)] (o1 (vB true)) := by
  refine acalls (n := 131) (rs := [.tmp 4]) (Ts := [4]) Try.func10 rfl rfl rfl rfl rfl rfl ?_
  refine awc_bd 0 _ rfl ?_
  intro hbd
  have hb1 : List.length ss * 24 ≤ 140737488355328 := hbd.1.1
  have hck := c22 ss ps left st
  cases hbad : (dBad ss ps left || st) || !(decide (ps = [])) with
  | true =>
    repeat' (first
        | exact True.intro
        | exact rfl
        | refine And.intro rfl ?_
        | refine awc_seq ?_
        | refine awc_region ?_
        | refine awc_draw ?_
        | refine awt_a rfl rfl rfl ?_ ?_
        | refine awt_call0 rfl (c17) rfl rfl rfl rfl rfl ?_
        | refine awt_call1 rfl (c17) rfl rfl rfl rfl rfl ?_
        | refine awt_call2 rfl (c17) rfl rfl rfl rfl rfl ?_
        | refine awt_call0 rfl (c18 _ _ _ _) rfl rfl rfl rfl rfl ?_
        | refine awt_call1 rfl (c18 _ _ _ _) rfl rfl rfl rfl rfl ?_
        | refine awt_call2 rfl (c18 _ _ _ _) rfl rfl rfl rfl rfl ?_
        | refine awt_call0 rfl (hck) rfl rfl rfl rfl rfl ?_
        | refine awt_call1 rfl (hck) rfl rfl rfl rfl rfl ?_
        | refine awt_call2 rfl (hck) rfl rfl rfl rfl rfl ?_
        | refine awt_b rfl rfl rfl rfl ?_ ?_
        | refine awt_c rfl rfl rfl ?_ ?_
        | refine awt_gt rfl rfl ?_
        | refine awt_gf rfl rfl rfl ?_
        | (refine awt_h rfl rfl rfl ?_ ?_ <;> intro hb)
        | refine awt_nil ?_
        | refine dq (by kernel_rfl) ?_
        | refine thn_n ?_
        | refine thn_r ?_
        | refine thn_e ?_
        | refine awc_condT rfl ?_
        | refine awc_condF rfl ?_
        | (refine awc_cond rfl ?_ ?_ <;> intro hb)
        | refine awc_block ?_
        | refine blk_n ?_
        | refine blk_r ?_
        | refine blk_e ?_
        | refine blk_o rfl ?_
        | refine awc_ret ?_
        | refine awc_skip ?_
        | refine awc_label ?_
        | refine awc_exit ?_
        | refine retq_r ?_
        | refine retq_n ?_
        | exact ResIs.tv rfl
        | exact ResIs.ts rfl
        | exact ResIs.tc rfl
        | exact ResIs.tn rfl rfl
        | exact ResIs.to rfl rfl
        | apply ResIs.tagg rfl
        | exact ResIs.cv rfl trivial
        | exact ResIs.cs rfl trivial
        | exact ResIs.cn rfl trivial rfl
        | exact ResIs.co rfl trivial rfl
        | apply ResIs.cagg rfl trivial
        | exact CoeL.nil
        | apply CoeL.v
        | apply CoeL.sl
        | apply CoeL.clp
        | apply CoeL.emp rfl
        | apply CoeL.own rfl
        | apply ret_one
        | apply ret_two
        | apply ret_three
        | exact rawq_r rfl
        | apply rawq_rc rfl
        | apply ownq_rv rfl rfl)
    all_goals (exfalso; clear hck; simp only [dChk_ne] at *; simp_all; done)
  | false =>
    simp only [Bool.or_eq_false_iff, Bool.not_eq_false', decide_eq_true_eq] at hbad
    obtain ⟨⟨hbd2, rfl⟩, rfl⟩ := hbad
    rw [show dChk ss [] left = 0 by simp [dChk, hbd2]] at hck
    by_cases hn : (s.length : Int) > 20
    · skip
      repeat' (first
          | exact True.intro
          | exact rfl
          | refine And.intro rfl ?_
          | refine awc_seq ?_
          | refine awc_region ?_
          | refine awc_draw ?_
          | refine awt_a rfl rfl rfl ?_ ?_
          | refine awt_call0 rfl (c17) rfl rfl rfl rfl rfl ?_
          | refine awt_call1 rfl (c17) rfl rfl rfl rfl rfl ?_
          | refine awt_call2 rfl (c17) rfl rfl rfl rfl rfl ?_
          | refine awt_call0 rfl (c18 _ _ _ _) rfl rfl rfl rfl rfl ?_
          | refine awt_call1 rfl (c18 _ _ _ _) rfl rfl rfl rfl rfl ?_
          | refine awt_call2 rfl (c18 _ _ _ _) rfl rfl rfl rfl rfl ?_
          | refine awt_call0 rfl (hck) rfl rfl rfl rfl rfl ?_
          | refine awt_call1 rfl (hck) rfl rfl rfl rfl rfl ?_
          | refine awt_call2 rfl (hck) rfl rfl rfl rfl rfl ?_
          | refine awt_b rfl rfl rfl rfl ?_ ?_
          | refine awt_c rfl rfl rfl ?_ ?_
          | refine awt_gt rfl rfl ?_
          | refine awt_gf rfl rfl rfl ?_
          | (refine awt_h rfl rfl rfl ?_ ?_ <;> intro hb)
          | refine awt_nil ?_
          | refine dq (by kernel_rfl) ?_
          | refine thn_n ?_
          | refine thn_r ?_
          | refine thn_e ?_
          | refine awc_condT rfl ?_
          | refine awc_condF rfl ?_
          | (refine awc_cond rfl ?_ ?_ <;> intro hb)
          | refine awc_block ?_
          | refine blk_n ?_
          | refine blk_r ?_
          | refine blk_e ?_
          | refine blk_o rfl ?_
          | refine awc_ret ?_
          | refine awc_skip ?_
          | refine awc_label ?_
          | refine awc_exit ?_
          | refine retq_r ?_
          | refine retq_n ?_
          | exact ResIs.tv rfl
          | exact ResIs.ts rfl
          | exact ResIs.tc rfl
          | exact ResIs.tn rfl rfl
          | exact ResIs.to rfl rfl
          | apply ResIs.tagg rfl
          | exact ResIs.cv rfl trivial
          | exact ResIs.cs rfl trivial
          | exact ResIs.cn rfl trivial rfl
          | exact ResIs.co rfl trivial rfl
          | apply ResIs.cagg rfl trivial
          | exact CoeL.nil
          | apply CoeL.v
          | apply CoeL.sl
          | apply CoeL.clp
          | apply CoeL.emp rfl
          | apply CoeL.own rfl
          | apply ret_one
          | apply ret_two
          | apply ret_three
          | exact rawq_r rfl
          | apply rawq_rc rfl
          | apply ownq_rv rfl rfl)
      all_goals (exfalso; simp only [decide_eq_false_iff_not] at *; omega)
    have hn' : s.length ≤ 20 := by omega
    have h1 := (dBad_iff.1 hbd2).1
    repeat' (first
        | exact True.intro
        | exact rfl
        | refine And.intro rfl ?_
        | refine awc_seq ?_
        | refine awc_region ?_
        | refine awc_draw ?_
        | refine awt_a rfl rfl rfl ?_ ?_
        | refine awt_call0 rfl (c17) rfl rfl rfl rfl rfl ?_
        | refine awt_call1 rfl (c17) rfl rfl rfl rfl rfl ?_
        | refine awt_call2 rfl (c17) rfl rfl rfl rfl rfl ?_
        | refine awt_call0 rfl (c18 _ _ _ _) rfl rfl rfl rfl rfl ?_
        | refine awt_call1 rfl (c18 _ _ _ _) rfl rfl rfl rfl rfl ?_
        | refine awt_call2 rfl (c18 _ _ _ _) rfl rfl rfl rfl rfl ?_
        | refine awt_call0 rfl (hck) rfl rfl rfl rfl rfl ?_
        | refine awt_call1 rfl (hck) rfl rfl rfl rfl rfl ?_
        | refine awt_call2 rfl (hck) rfl rfl rfl rfl rfl ?_
        | refine awt_b rfl rfl rfl rfl ?_ ?_
        | refine awt_c rfl rfl rfl ?_ ?_
        | refine awt_gt rfl rfl ?_
        | refine awt_gf rfl rfl rfl ?_
        | (refine awt_h rfl rfl rfl ?_ ?_ <;> intro hb)
        | refine awt_nil ?_
        | refine dq (by kernel_rfl) ?_
        | refine thn_n ?_
        | refine thn_r ?_
        | refine thn_e ?_
        | refine awc_condT rfl ?_
        | refine awc_condF rfl ?_
        | (refine awc_cond rfl ?_ ?_ <;> intro hb)
        | refine awc_block ?_
        | refine blk_n ?_
        | refine blk_r ?_
        | refine blk_e ?_
        | refine blk_o rfl ?_
        | refine awc_ret ?_
        | refine awc_skip ?_
        | refine awc_label ?_
        | refine awc_exit ?_
        | refine retq_r ?_
        | refine retq_n ?_
        | exact ResIs.tv rfl
        | exact ResIs.ts rfl
        | exact ResIs.tc rfl
        | exact ResIs.tn rfl rfl
        | exact ResIs.to rfl rfl
        | apply ResIs.tagg rfl
        | exact ResIs.cv rfl trivial
        | exact ResIs.cs rfl trivial
        | exact ResIs.cn rfl trivial rfl
        | exact ResIs.co rfl trivial rfl
        | apply ResIs.cagg rfl trivial
        | exact CoeL.nil
        | apply CoeL.v
        | apply CoeL.sl
        | apply CoeL.clp
        | apply CoeL.emp rfl
        | apply CoeL.own rfl
        | apply ret_one
        | apply ret_two
        | apply ret_three
        | exact rawq_r rfl
        | apply rawq_rc rfl
        | apply ownq_rv rfl rfl)
    obtain ⟨F, hF⟩ : ∃ F, F = dSync (tgY ss left s s.length) := ⟨_, rfl⟩
    have hY := tgY_bad (s := s) (i := s.length) hbd2 (by omega)
    have hFe : F.2 = 0 ∨ F.2 = 40 := by
      rw [hF]
      cases q : (tgY ss left s s.length).stops with
      | true => rw [sync_stop hY q]; exact .inr rfl
      | false => rw [sync_go hY q]; exact .inl rfl
    refine awc_mid (α := Unit) (fun _ => ⟨131, [(1, o1 (.sl tAct s)), (2, o1 (.ptr 2 0)), (5, o1 (.ptr 5 0)), (6, o1 (.ptr 6 0)), (7, o1 (vI F.2))], [(2, .box [.sl tB ss, .sl tW [], vI left, vB false]), (5, .box [.sl tB F.1.ss, .sl tW F.1.ps, vI F.1.left, vB F.1.st]), (6, .box [.sl tB ss, .sl tW [], vI left, vB false])]⟩) (fun _ => True) ?_ ?_
    · refine awc_loop (α := Nat × Bool) (fun i => ⟨131, [(1, o1 (.sl tAct s)), (2, o1 (.ptr 2 0)), (5, o1 (.ptr 5 0)), (6, o1 (.ptr 6 0)), (7, o1 (vI (bif i.2 then 40 else 0))), (8, o1 (vI i.1))], [(2, .box [.sl tB ss, .sl tW [], vI left, vB false]), (5, .box (bif i.2 then [.sl tB F.1.ss, .sl tW F.1.ps, vI F.1.left, vB F.1.st] else [.sl tB (tgX ss left s i.1).ss, .sl tW [], vI (tgX ss left s i.1).left, vB false])), (6, .box [.sl tB ss, .sl tW [], vI left, vB false])]⟩)
        (fun i => bif i.2 then F.2 = 40 else i.1 ≤ s.length ∧ (left < 0 ∨ i.1 ≤ left)) (fun i => bif i.2 then 0 else s.length + 1 - i.1) (0, false) ?_ ?_ ?_
      · refine Wk.ren [] rfl ⟨rfl, rfl, rfl, rfl, rfl, rfl, trivial⟩ ⟨rfl, ?_, rfl, trivial⟩ rfl
        show HB.box [.sl tB ss, .sl tW [], vI left, vB false] = HB.box [.sl tB ss, .sl tW [], vI (tgL left 0), vB false]
        rw [show tgL left 0 = left by unfold tgL; cases decide (left ≥ 0) <;> simp]
      · show 0 ≤ s.length ∧ (left < 0 ∨ ((0 : Nat) : Int) ≤ left)
        have := (dBad_iff.1 hbd2).2.2.2.1
        omega
      rintro ⟨i, b⟩ hi
      cases b with
      | true =>
        have hi' : F.2 = 40 := hi
        repeat' (first
            | exact True.intro
            | exact rfl
            | refine And.intro rfl ?_
            | refine awc_seq ?_
            | refine awc_region ?_
            | refine awc_draw ?_
            | refine awt_a rfl rfl rfl ?_ ?_
            | refine awt_b rfl rfl rfl rfl ?_ ?_
            | refine awt_c rfl rfl rfl ?_ ?_
            | refine awt_gt rfl rfl ?_
            | refine awt_gf rfl rfl rfl ?_
            | (refine awt_h rfl rfl rfl ?_ ?_ <;> intro hb)
            | refine awt_nil ?_
            | refine dq (by kernel_rfl) ?_
            | refine thn_n ?_
            | refine thn_r ?_
            | refine thn_e ?_
            | refine awc_condT rfl ?_
            | refine awc_condF rfl ?_
            | (refine awc_cond rfl ?_ ?_ <;> intro hb)
            | refine awc_block ?_
            | refine blk_n ?_
            | refine blk_r ?_
            | refine blk_e ?_
            | refine blk_o rfl ?_
            | refine awc_ret ?_
            | refine awc_skip ?_
            | refine awc_label ?_
            | refine awc_exit ?_
            | refine retq_r ?_
            | refine retq_n ?_
            | exact ResIs.tv rfl
            | exact ResIs.ts rfl
            | exact ResIs.tc rfl
            | exact ResIs.tn rfl rfl
            | exact ResIs.to rfl rfl
            | apply ResIs.tagg rfl
            | exact ResIs.cv rfl trivial
            | exact ResIs.cs rfl trivial
            | exact ResIs.cn rfl trivial rfl
            | exact ResIs.co rfl trivial rfl
            | apply ResIs.cagg rfl trivial
            | exact CoeL.nil
            | apply CoeL.v
            | apply CoeL.sl
            | apply CoeL.clp
            | apply CoeL.emp rfl
            | apply CoeL.own rfl
            | apply ret_one
            | apply ret_two
            | apply ret_three
            | exact rawq_r rfl
            | apply rawq_rc rfl
            | apply ownq_rv rfl rfl)
        all_goals (refine ⟨(), Wk.ren [] rfl ⟨rfl, rfl, rfl, rfl, ?_, trivial⟩ ⟨rfl, rfl, rfl, trivial⟩ rfl, trivial⟩; show o1 (vI 40) = o1 (vI F.2); rw [hi'])
      | false =>
        have hi' : i ≤ s.length ∧ (left < 0 ∨ i ≤ left) := hi
        by_cases hl : i < s.length
        · have hw := cW (tgX_write (s := s) hbd2 hi'.2 (s.getD i (tAct.dflt)))
          have hw2 : ACalls 26 [aD (tgX ss left s i).ss [] (tgL left i) false, o1 (vI ((IntKind.i64.wrap ((s.getD i tAct.dflt).2.1.toNat : Int)).tmod ss.length)), aB [UInt8.ofNat (Int.toNat ((s.getD i tAct.dflt).2.2.toNat : Int))]] (aRD (⟨(tgX ss left s i).ss, [tgW ss.length (s.getD i tAct.dflt)], tgL left i, false⟩, 0)) := by
            rw [u8_i64, u8_back]; exact hw
          by_cases hst : (i : Int) = left
          · have hs := cS (tgX_stop (s := s) hbd2 hst hl (by omega) tAct.dflt)
            rw [← hF] at hs
            have hFe2 : F.2 = 40 := by
              rw [hF, sync_stop hY (by unfold Dk.stops tgY; simp; omega)]
            repeat' (first
                | exact True.intro
                | exact rfl
                | refine And.intro rfl ?_
                | refine awc_seq ?_
                | refine awc_region ?_
                | refine awc_draw ?_
                | refine awt_a rfl rfl rfl ?_ ?_
                | refine awt_call0 rfl (hw2) rfl rfl rfl rfl rfl ?_
                | refine awt_call1 rfl (hw2) rfl rfl rfl rfl rfl ?_
                | refine awt_call2 rfl (hw2) rfl rfl rfl rfl rfl ?_
                | refine awt_call0 rfl (hs) rfl rfl rfl rfl rfl ?_
                | refine awt_call1 rfl (hs) rfl rfl rfl rfl rfl ?_
                | refine awt_call2 rfl (hs) rfl rfl rfl rfl rfl ?_
                | refine awt_b rfl rfl rfl rfl ?_ ?_
                | refine awt_c rfl rfl rfl ?_ ?_
                | refine awt_gt rfl rfl ?_
                | refine awt_gf rfl rfl rfl ?_
                | (refine awt_h rfl rfl rfl ?_ ?_ <;> intro hb)
                | refine awt_nil ?_
                | refine dq (by kernel_rfl) ?_
                | refine thn_n ?_
                | refine thn_r ?_
                | refine thn_e ?_
                | refine awc_condT rfl ?_
                | refine awc_condF rfl ?_
                | (refine awc_cond rfl ?_ ?_ <;> intro hb)
                | refine awc_block ?_
                | refine blk_n ?_
                | refine blk_r ?_
                | refine blk_e ?_
                | refine blk_o rfl ?_
                | refine awc_ret ?_
                | refine awc_skip ?_
                | refine awc_label ?_
                | refine awc_exit ?_
                | refine retq_r ?_
                | refine retq_n ?_
                | exact ResIs.tv rfl
                | exact ResIs.ts rfl
                | exact ResIs.tc rfl
                | exact ResIs.tn rfl rfl
                | exact ResIs.to rfl rfl
                | apply ResIs.tagg rfl
                | exact ResIs.cv rfl trivial
                | exact ResIs.cs rfl trivial
                | exact ResIs.cn rfl trivial rfl
                | exact ResIs.co rfl trivial rfl
                | apply ResIs.cagg rfl trivial
                | exact CoeL.nil
                | apply CoeL.v
                | apply CoeL.sl
                | apply CoeL.clp
                | apply CoeL.emp rfl
                | apply CoeL.own rfl
                | apply ret_one
                | apply ret_two
                | apply ret_three
                | exact rawq_r rfl
                | apply rawq_rc rfl
                | apply ownq_rv rfl rfl)
            · exact ⟨by show (0 : Int) ≤ i; omega, by show (i : Int) < s.length; omega⟩
            · omega
            · exact ⟨by show (0 : Int) ≤ i; omega, by show (i : Int) < s.length; omega⟩
            · exact u8_rng _
            · refine ⟨(i + 1, true), Wk.ren [] rfl ⟨rfl, rfl, rfl, rfl, ?_, ?_, trivial⟩ ⟨rfl, rfl, rfl, trivial⟩ rfl, hFe2, by show 0 < s.length + 1 - i; omega⟩
              · show o1 (vI F.2) = o1 (vI 40)
                rw [hFe2]
              · refine eqVI ?_
                show IntKind.i64.wrap ((i : Int) + 1) = _
                rw [i64w] <;> omega
            · exfalso
              rw [Bool.not_true, decide_eq_false_iff_not] at hb
              exact hb (by show (i : Int) < s.length; omega)
          · have hs := cS (tgX_go (s := s) hbd2 (by omega) hl tAct.dflt)
            repeat' (first
                | exact True.intro
                | exact rfl
                | refine And.intro rfl ?_
                | refine awc_seq ?_
                | refine awc_region ?_
                | refine awc_draw ?_
                | refine awt_a rfl rfl rfl ?_ ?_
                | refine awt_call0 rfl (hw2) rfl rfl rfl rfl rfl ?_
                | refine awt_call1 rfl (hw2) rfl rfl rfl rfl rfl ?_
                | refine awt_call2 rfl (hw2) rfl rfl rfl rfl rfl ?_
                | refine awt_call0 rfl (hs) rfl rfl rfl rfl rfl ?_
                | refine awt_call1 rfl (hs) rfl rfl rfl rfl rfl ?_
                | refine awt_call2 rfl (hs) rfl rfl rfl rfl rfl ?_
                | refine awt_b rfl rfl rfl rfl ?_ ?_
                | refine awt_c rfl rfl rfl ?_ ?_
                | refine awt_gt rfl rfl ?_
                | refine awt_gf rfl rfl rfl ?_
                | (refine awt_h rfl rfl rfl ?_ ?_ <;> intro hb)
                | refine awt_nil ?_
                | refine dq (by kernel_rfl) ?_
                | refine thn_n ?_
                | refine thn_r ?_
                | refine thn_e ?_
                | refine awc_condT rfl ?_
                | refine awc_condF rfl ?_
                | (refine awc_cond rfl ?_ ?_ <;> intro hb)
                | refine awc_block ?_
                | refine blk_n ?_
                | refine blk_r ?_
                | refine blk_e ?_
                | refine blk_o rfl ?_
                | refine awc_ret ?_
                | refine awc_skip ?_
                | refine awc_label ?_
                | refine awc_exit ?_
                | refine retq_r ?_
                | refine retq_n ?_
                | exact ResIs.tv rfl
                | exact ResIs.ts rfl
                | exact ResIs.tc rfl
                | exact ResIs.tn rfl rfl
                | exact ResIs.to rfl rfl
                | apply ResIs.tagg rfl
                | exact ResIs.cv rfl trivial
                | exact ResIs.cs rfl trivial
                | exact ResIs.cn rfl trivial rfl
                | exact ResIs.co rfl trivial rfl
                | apply ResIs.cagg rfl trivial
                | exact CoeL.nil
                | apply CoeL.v
                | apply CoeL.sl
                | apply CoeL.clp
                | apply CoeL.emp rfl
                | apply CoeL.own rfl
                | apply ret_one
                | apply ret_two
                | apply ret_three
                | exact rawq_r rfl
                | apply rawq_rc rfl
                | apply ownq_rv rfl rfl)
            · exact ⟨by show (0 : Int) ≤ i; omega, by show (i : Int) < s.length; omega⟩
            · omega
            · exact ⟨by show (0 : Int) ≤ i; omega, by show (i : Int) < s.length; omega⟩
            · exact u8_rng _
            · refine ⟨(i + 1, false), Wk.ren [] rfl ⟨rfl, rfl, rfl, rfl, rfl, ?_, trivial⟩ ⟨rfl, rfl, rfl, trivial⟩ rfl, ?_, by show s.length + 1 - (i + 1) < s.length + 1 - i; omega⟩
              · refine eqVI ?_
                show IntKind.i64.wrap ((i : Int) + 1) = _
                rw [i64w] <;> omega
              · show i + 1 ≤ s.length ∧ (left < 0 ∨ ((i + 1 : Nat) : Int) ≤ left)
                omega
            · exfalso
              rw [Bool.not_true, decide_eq_false_iff_not] at hb
              exact hb (by show (i : Int) < s.length; omega)
        have hil : i = s.length := by omega
        subst hil
        have hF2 : F = (tgX ss left s s.length, 0) := by rw [hF]; exact tgX_end hbd2 (by omega) (by omega)
        repeat' (first
            | exact True.intro
            | exact rfl
            | refine And.intro rfl ?_
            | refine awc_seq ?_
            | refine awc_region ?_
            | refine awc_draw ?_
            | refine awt_a rfl rfl rfl ?_ ?_
            | refine awt_b rfl rfl rfl rfl ?_ ?_
            | refine awt_c rfl rfl rfl ?_ ?_
            | refine awt_gt rfl rfl ?_
            | refine awt_gf rfl rfl rfl ?_
            | (refine awt_h rfl rfl rfl ?_ ?_ <;> intro hb)
            | refine awt_nil ?_
            | refine dq (by kernel_rfl) ?_
            | refine thn_n ?_
            | refine thn_r ?_
            | refine thn_e ?_
            | refine awc_condT rfl ?_
            | refine awc_condF rfl ?_
            | (refine awc_cond rfl ?_ ?_ <;> intro hb)
            | refine awc_block ?_
            | refine blk_n ?_
            | refine blk_r ?_
            | refine blk_e ?_
            | refine blk_o rfl ?_
            | refine awc_ret ?_
            | refine awc_skip ?_
            | refine awc_label ?_
            | refine awc_exit ?_
            | refine retq_r ?_
            | refine retq_n ?_
            | exact ResIs.tv rfl
            | exact ResIs.ts rfl
            | exact ResIs.tc rfl
            | exact ResIs.tn rfl rfl
            | exact ResIs.to rfl rfl
            | apply ResIs.tagg rfl
            | exact ResIs.cv rfl trivial
            | exact ResIs.cs rfl trivial
            | exact ResIs.cn rfl trivial rfl
            | exact ResIs.co rfl trivial rfl
            | apply ResIs.cagg rfl trivial
            | exact CoeL.nil
            | apply CoeL.v
            | apply CoeL.sl
            | apply CoeL.clp
            | apply CoeL.emp rfl
            | apply CoeL.own rfl
            | apply ret_one
            | apply ret_two
            | apply ret_three
            | exact rawq_r rfl
            | apply rawq_rc rfl
            | apply ownq_rv rfl rfl)
        all_goals (try (exfalso; rw [decide_eq_true_eq] at hb; have hb' : (s.length : Int) < s.length := hb; omega))
        · refine ⟨(), Wk.ren [] rfl ⟨rfl, rfl, rfl, rfl, ?_, trivial⟩ ⟨rfl, ?_, rfl, trivial⟩ rfl, trivial⟩
          · show o1 (vI 0) = o1 (vI F.2)
            rw [hF2]
          · show HB.box [.sl tB (tgX ss left s s.length).ss, .sl tW [], vI (tgX ss left s s.length).left, vB false] = HB.box [.sl tB F.1.ss, .sl tW F.1.ps, vI F.1.left, vB F.1.st]
            rw [hF2]
            rfl
    · intro _ _
      repeat' (first
          | exact True.intro
          | exact rfl
          | refine And.intro rfl ?_
          | refine awc_seq ?_
          | refine awc_region ?_
          | refine awc_draw ?_
          | refine awt_a rfl rfl rfl ?_ ?_
          | refine awt_b rfl rfl rfl rfl ?_ ?_
          | refine awt_c rfl rfl rfl ?_ ?_
          | refine awt_gt rfl rfl ?_
          | refine awt_gf rfl rfl rfl ?_
          | (refine awt_h rfl rfl rfl ?_ ?_ <;> intro hb)
          | refine awt_nil ?_
          | refine dq (by kernel_rfl) ?_
          | refine thn_n ?_
          | refine thn_r ?_
          | refine thn_e ?_
          | refine awc_condT rfl ?_
          | refine awc_condF rfl ?_
          | (refine awc_cond rfl ?_ ?_ <;> intro hb)
          | refine awc_block ?_
          | refine blk_n ?_
          | refine blk_r ?_
          | refine blk_e ?_
          | refine blk_o rfl ?_
          | refine awc_ret ?_
          | refine awc_skip ?_
          | refine awc_label ?_
          | refine awc_exit ?_
          | refine retq_r ?_
          | refine retq_n ?_
          | exact ResIs.tv rfl
          | exact ResIs.ts rfl
          | exact ResIs.tc rfl
          | exact ResIs.tn rfl rfl
          | exact ResIs.to rfl rfl
          | apply ResIs.tagg rfl
          | exact ResIs.cv rfl trivial
          | exact ResIs.cs rfl trivial
          | exact ResIs.cn rfl trivial rfl
          | exact ResIs.co rfl trivial rfl
          | apply ResIs.cagg rfl trivial
          | exact CoeL.nil
          | apply CoeL.v
          | apply CoeL.sl
          | apply CoeL.clp
          | apply CoeL.emp rfl
          | apply CoeL.own rfl
          | apply ret_one
          | apply ret_two
          | apply ret_three
          | exact rawq_r rfl
          | apply rawq_rc rfl
          | apply ownq_rv rfl rfl)
      refine awc_loop (α := Nat) (fun i => ⟨131, [(1, o1 (.sl tAct s)), (2, o1 (.ptr 2 0)), (5, o1 (.ptr 5 0)), (6, o1 (.ptr 6 0)), (7, o1 (vI F.2)), (12, o1 (vI i))], [(2, .box [.sl tB ss, .sl tW [], vI left, vB false]), (5, .box [.sl tB F.1.ss, .sl tW F.1.ps, vI F.1.left, vB F.1.st]), (6, .box [.sl tB ss, .sl tW ((s.map (tgW ss.length)).take i), vI left, vB false])]⟩) (fun i => i ≤ s.length) (fun i => s.length - i) 0 (Wk.ren [] rfl ⟨rfl, rfl, rfl, rfl, rfl, rfl, trivial⟩ ⟨rfl, rfl, rfl, trivial⟩ rfl) (Nat.zero_le _) ?_
      intro i hi
      by_cases hl : i < s.length
      · have hw := cW (tgY_write (s := s) hbd2 hl hn' (tAct.dflt))
        have hw2 : ACalls 26 [aD ss ((s.map (tgW ss.length)).take i) left false, o1 (vI ((IntKind.i64.wrap ((s.getD i tAct.dflt).2.1.toNat : Int)).tmod ss.length)), aB [UInt8.ofNat (Int.toNat ((s.getD i tAct.dflt).2.2.toNat : Int))]] (aRD (tgY ss left s (i + 1), 0)) := by
          rw [u8_i64, u8_back]; exact hw
        repeat' (first
            | exact True.intro
            | exact rfl
            | refine And.intro rfl ?_
            | refine awc_seq ?_
            | refine awc_region ?_
            | refine awc_draw ?_
            | refine awt_a rfl rfl rfl ?_ ?_
            | refine awt_call0 rfl (hw2) rfl rfl rfl rfl rfl ?_
            | refine awt_call1 rfl (hw2) rfl rfl rfl rfl rfl ?_
            | refine awt_call2 rfl (hw2) rfl rfl rfl rfl rfl ?_
            | refine awt_b rfl rfl rfl rfl ?_ ?_
            | refine awt_c rfl rfl rfl ?_ ?_
            | refine awt_gt rfl rfl ?_
            | refine awt_gf rfl rfl rfl ?_
            | (refine awt_h rfl rfl rfl ?_ ?_ <;> intro hb)
            | refine awt_nil ?_
            | refine dq (by kernel_rfl) ?_
            | refine thn_n ?_
            | refine thn_r ?_
            | refine thn_e ?_
            | refine awc_condT rfl ?_
            | refine awc_condF rfl ?_
            | (refine awc_cond rfl ?_ ?_ <;> intro hb)
            | refine awc_block ?_
            | refine blk_n ?_
            | refine blk_r ?_
            | refine blk_e ?_
            | refine blk_o rfl ?_
            | refine awc_ret ?_
            | refine awc_skip ?_
            | refine awc_label ?_
            | refine awc_exit ?_
            | refine retq_r ?_
            | refine retq_n ?_
            | exact ResIs.tv rfl
            | exact ResIs.ts rfl
            | exact ResIs.tc rfl
            | exact ResIs.tn rfl rfl
            | exact ResIs.to rfl rfl
            | apply ResIs.tagg rfl
            | exact ResIs.cv rfl trivial
            | exact ResIs.cs rfl trivial
            | exact ResIs.cn rfl trivial rfl
            | exact ResIs.co rfl trivial rfl
            | apply ResIs.cagg rfl trivial
            | exact CoeL.nil
            | apply CoeL.v
            | apply CoeL.sl
            | apply CoeL.clp
            | apply CoeL.emp rfl
            | apply CoeL.own rfl
            | apply ret_one
            | apply ret_two
            | apply ret_three
            | exact rawq_r rfl
            | apply rawq_rc rfl
            | apply ownq_rv rfl rfl)
        · omega
        · omega
        · omega
        · exact u8_rng _
        · refine ⟨i + 1, Wk.ren [] rfl (by repeat' (first | exact True.intro | exact rfl | refine And.intro ?_ ?_ | (refine eqVI ?_; first | assumption | omega | (simp only [IntKind.wrap_i64]; omega) | (simp only [IntKind.wrap_i64]; dsimp only; omega)) | (refine eqVB ?_; assumption))) (by repeat' (first | exact True.intro | exact rfl | refine And.intro ?_ ?_ | (refine eqVI ?_; first | assumption | omega | (simp only [IntKind.wrap_i64]; omega) | (simp only [IntKind.wrap_i64]; dsimp only; omega)) | (refine eqVB ?_; assumption))) rfl, ?_, ?_⟩
          · omega
          · omega
        · exfalso
          rw [decide_eq_false_iff_not] at hb
          omega
      · obtain rfl : i = s.length := by omega
        have hs := cS (d := tgY ss left s s.length) hF.symm
        have hsm := c21 F.1.ss F.1.ps F.1.left F.1.st F.1.ss F.1.ps F.1.left F.1.st
        rw [show sameD F.1.ss F.1.ps F.1.left F.1.st F.1.ss F.1.ps F.1.left F.1.st = true by simp [sameD]] at hsm
        repeat' (first
            | exact True.intro
            | exact rfl
            | refine And.intro rfl ?_
            | refine awc_seq ?_
            | refine awc_region ?_
            | refine awc_draw ?_
            | refine awt_a rfl rfl rfl ?_ ?_
            | refine awt_call0 rfl (hs) rfl rfl rfl rfl rfl ?_
            | refine awt_call1 rfl (hs) rfl rfl rfl rfl rfl ?_
            | refine awt_call2 rfl (hs) rfl rfl rfl rfl rfl ?_
            | refine awt_call0 rfl (hsm) rfl rfl rfl rfl rfl ?_
            | refine awt_call1 rfl (hsm) rfl rfl rfl rfl rfl ?_
            | refine awt_call2 rfl (hsm) rfl rfl rfl rfl rfl ?_
            | refine awt_b rfl rfl rfl rfl ?_ ?_
            | refine awt_c rfl rfl rfl ?_ ?_
            | refine awt_gt rfl rfl ?_
            | refine awt_gf rfl rfl rfl ?_
            | (refine awt_h rfl rfl rfl ?_ ?_ <;> intro hb)
            | refine awt_nil ?_
            | refine dq (by kernel_rfl) ?_
            | refine thn_n ?_
            | refine thn_r ?_
            | refine thn_e ?_
            | refine awc_condT rfl ?_
            | refine awc_condF rfl ?_
            | (refine awc_cond rfl ?_ ?_ <;> intro hb)
            | refine awc_block ?_
            | refine blk_n ?_
            | refine blk_r ?_
            | refine blk_e ?_
            | refine blk_o rfl ?_
            | refine awc_ret ?_
            | refine awc_skip ?_
            | refine awc_label ?_
            | refine awc_exit ?_
            | refine retq_r ?_
            | refine retq_n ?_
            | exact ResIs.tv rfl
            | exact ResIs.ts rfl
            | exact ResIs.tc rfl
            | exact ResIs.tn rfl rfl
            | exact ResIs.to rfl rfl
            | apply ResIs.tagg rfl
            | exact ResIs.cv rfl trivial
            | exact ResIs.cs rfl trivial
            | exact ResIs.cn rfl trivial rfl
            | exact ResIs.co rfl trivial rfl
            | apply ResIs.cagg rfl trivial
            | exact CoeL.nil
            | apply CoeL.v
            | apply CoeL.sl
            | apply CoeL.clp
            | apply CoeL.emp rfl
            | apply CoeL.own rfl
            | apply ret_one
            | apply ret_two
            | apply ret_three
            | exact rawq_r rfl
            | apply rawq_rc rfl
            | apply ownq_rv rfl rfl)
        all_goals (try (exfalso; rw [decide_eq_true_eq] at hb; have hb' : (s.length : Int) < s.length := hb; omega))
        · exfalso
          simp at hb

end B
end Go.Proofs.Ytbmnhagbplkagaa
