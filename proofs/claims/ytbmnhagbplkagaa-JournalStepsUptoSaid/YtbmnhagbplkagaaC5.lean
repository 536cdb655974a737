import Derived.Test.YtbmnhagbplkagaaC4
/- Contracts of the disk: synchronisation. -/
namespace Go.Proofs.Ytbmnhagbplkagaa
namespace B
open Go.RowKit
set_option maxHeartbeats 4000000
set_option maxRecDepth 100000
attribute [local irreducible] awc awT thn blk DQ retQ rawQ ownQ retOk ResIs

def dTorn (ss : List (List UInt8)) (w : Int × List UInt8) : List (List UInt8) := ss.set w.1.toNat (w.2.take 64 ++ (ss.getD w.1.toNat []).drop 64)
def dSync (d : Dk) : Dk × Int :=
  bif d.bad then (.z, 40) else bif decide (d.left ≥ 0) && decide (d.left < d.ps.length) then (⟨dTorn (perf d.ss (d.ps.take d.left.toNat)) (d.ps.getD d.left.toNat (0, [])), [], 0, true⟩, 40) else
    (⟨perf d.ss d.ps, [], bif decide (d.left ≥ 0) then d.left - d.ps.length else d.left, false⟩, 0)

theorem dBad_at {ss : List (List UInt8)} {ps : List (Int × List UInt8)} {left : Int} (h : dBad ss ps left = false) : ∀ w ∈ ps, 0 ≤ w.1 ∧ w.1 < ss.length ∧ w.2.length = 128 := by
  intro w hw
  simp only [dBad, Bool.or_eq_false_iff, List.any_eq_false] at h
  have := h.1.2 w hw
  simp only [Bool.or_eq_true, decide_eq_true_eq, Bool.not_eq_true', decide_eq_false_iff_not, not_or] at this
  omega
theorem dBad_ss {ss : List (List UInt8)} {ps : List (Int × List UInt8)} {left : Int} (h : dBad ss ps left = false) : ∀ b ∈ ss, b.length = 128 := by
  intro w hw
  simp only [dBad, Bool.or_eq_false_iff, List.any_eq_false] at h
  have := h.2 w hw
  simpa using this
theorem perf_all {n : Nat} : ∀ (l : List (Int × List UInt8)) (ss : List (List UInt8)), (∀ b ∈ ss, b.length = n) → (∀ w ∈ l, w.2.length = n) → ∀ b ∈ perf ss l, b.length = n
  | [], ss, h, _ => h
  | w :: l, ss, h, hl => perf_all l _ (fun b hb => by
      rcases List.mem_or_eq_of_mem_set hb with hb | hb
      · exact h b hb
      · rw [hb]; exact hl w (by simp)) (fun w hw => hl w (by simp [hw]))

theorem torn_eq {t w : List UInt8} (_ : t.length = 128) (hw : w.length = 128) : List.take (cutLo none) t ++ List.take (cutHi t.length (some 64) - cutLo none) w ++ List.drop (cutLo none + min w.length (cutHi t.length (some 64) - cutLo none)) t = w.take 64 ++ t.drop 64 := by
  rw [hw]
  rfl

theorem c30 (ss : List (List UInt8)) (ps : List (Int × List UInt8)) (left : Int) (st : Bool) : ACalls 30 [aD ss ps left st] (aRD (dSync ⟨ss, ps, left, st⟩)) := by
  refine acalls (n := 78) (rs := [.cell 2 25, .tmp 3]) (Ts := [25, 28]) Try.func30 rfl rfl rfl rfl rfl rfl ?_
  refine awc_bd 0 _ rfl ?_
  intro hbd
  have hb1 : List.length ss * 24 ≤ 140737488355328 := hbd.1.1
  have hb2 : List.length ps * 32 ≤ 140737488355328 := hbd.2.1.1
  have hc57 := c57 ss ps left st
  cases hbad : (dBad ss ps left || st) with
  | true =>
    rw [hbad] at hc57
    repeat' (first
        | exact True.intro
        | exact rfl
        | refine And.intro rfl ?_
        | refine awc_seq ?_
        | refine awc_region ?_
        | refine awc_draw ?_
        | refine awt_a rfl rfl rfl ?_ ?_
        | refine awt_call0 rfl (hc57) rfl rfl rfl rfl rfl ?_
        | refine awt_call1 rfl (hc57) rfl rfl rfl rfl rfl ?_
        | refine awt_call2 rfl (hc57) rfl rfl rfl rfl rfl ?_
        | refine awt_b rfl rfl rfl rfl ?_ ?_
        | refine awt_c rfl rfl rfl ?_ ?_
        | refine awt_gt rfl rfl ?_
        | refine awt_gf rfl rfl rfl ?_
        | refine awt_gu rfl rfl rfl ?_
        | (refine awt_h rfl rfl rfl ?_ ?_ <;> intro hb)
        | refine awt_nil ?_
        | refine dq (by kernel_rfl) ?_
        | refine thn_n ?_
        | refine thn_r ?_
        | refine thn_e ?_
        | refine awc_condT rfl ?_
        | refine awc_condF rfl ?_
        | (refine awc_cond rfl ?_ ?_ <;> intro hb)
        | refine awc_block ?_
        | refine blk_n ?_
        | refine blk_r ?_
        | refine blk_e ?_
        | refine blk_o rfl ?_
        | refine awc_ret ?_
        | refine awc_skip ?_
        | refine awc_label ?_
        | refine awc_exit ?_
        | refine retq_r ?_
        | refine retq_n ?_
        | exact ResIs.tv rfl
        | exact ResIs.ts rfl
        | exact ResIs.tc rfl
        | exact ResIs.tn rfl rfl
        | exact ResIs.to rfl rfl
        | apply ResIs.tagg rfl
        | exact ResIs.cv rfl trivial
        | exact ResIs.cs rfl trivial
        | exact ResIs.cn rfl trivial rfl
        | exact ResIs.co rfl trivial rfl
        | apply ResIs.cagg rfl trivial
        | exact CoeL.nil
        | apply CoeL.v
        | apply CoeL.sl
        | apply CoeL.clp
        | apply CoeL.emp rfl
        | apply CoeL.own rfl
        | apply ret_one
        | apply ret_two
        | apply ret_three
        | exact rawq_r rfl
        | apply rawq_rc rfl
        | apply ownq_rv rfl rfl)
    refine eqRD ?_; simp only [dSync, Dk.bad, hbad]; rfl
  | false =>
    rw [hbad] at hc57
    have hbad0 := hbad
    rw [Bool.or_eq_false_iff] at hbad0
    have h1 := dBad_at hbad0.1
    have h2 := dBad_ss hbad0.1
    have h1a : ∀ w ∈ ps, 0 ≤ w.1 ∧ w.1 < ss.length := fun w hw => ⟨(h1 w hw).1, (h1 w hw).2.1⟩
    have h1b : ∀ n, ∀ w ∈ ps.take n, 0 ≤ w.1 ∧ w.1 < ss.length := fun n w hw => h1a w (List.mem_of_mem_take hw)
    cases hc1 : decide (left ≥ 0) && decide (left < (ps.length : Int)) with
    | false =>
      repeat' (first
          | exact True.intro
          | exact rfl
          | refine And.intro rfl ?_
          | refine awc_seq ?_
          | refine awc_region ?_
          | refine awc_draw ?_
          | refine awt_a rfl rfl rfl ?_ ?_
          | refine awt_call0 rfl (hc57) rfl rfl rfl rfl rfl ?_
          | refine awt_call1 rfl (hc57) rfl rfl rfl rfl rfl ?_
          | refine awt_call2 rfl (hc57) rfl rfl rfl rfl rfl ?_
          | refine awt_own0 rfl (c62 _ _ h1a) rfl rfl rfl rfl rfl rfl ?_
          | refine awt_own rfl (c62 _ _ h1a) rfl rfl rfl rfl rfl rfl ?_
          | refine awt_own0 rfl (c62 _ _ (h1b left.toNat)) rfl rfl rfl rfl rfl rfl ?_
          | refine awt_own rfl (c62 _ _ (h1b left.toNat)) rfl rfl rfl rfl rfl rfl ?_
          | refine awt_own0 rfl (c63 _) rfl rfl rfl rfl rfl rfl ?_
          | refine awt_own rfl (c63 _) rfl rfl rfl rfl rfl rfl ?_
          | refine awt_b rfl rfl rfl rfl ?_ ?_
          | refine awt_c rfl rfl rfl ?_ ?_
          | refine awt_gt rfl rfl ?_
          | refine awt_gf rfl rfl rfl ?_
          | refine awt_gu rfl rfl rfl ?_
          | (refine awt_h rfl rfl rfl ?_ ?_ <;> intro hb)
          | refine awt_nil ?_
          | refine dq (by kernel_rfl) ?_
          | refine thn_n ?_
          | refine thn_r ?_
          | refine thn_e ?_
          | refine awc_condT rfl ?_
          | refine awc_condF rfl ?_
          | (refine awc_cond rfl ?_ ?_ <;> intro hb)
          | refine awc_block ?_
          | refine blk_n ?_
          | refine blk_r ?_
          | refine blk_e ?_
          | refine blk_o rfl ?_
          | refine awc_ret ?_
          | refine awc_skip ?_
          | refine awc_label ?_
          | refine awc_exit ?_
          | refine retq_r ?_
          | refine retq_n ?_
          | exact ResIs.tv rfl
          | exact ResIs.ts rfl
          | exact ResIs.tc rfl
          | exact ResIs.tn rfl rfl
          | exact ResIs.to rfl rfl
          | apply ResIs.tagg rfl
          | exact ResIs.cv rfl trivial
          | exact ResIs.cs rfl trivial
          | exact ResIs.cn rfl trivial rfl
          | exact ResIs.co rfl trivial rfl
          | apply ResIs.cagg rfl trivial
          | exact CoeL.nil
          | apply CoeL.v
          | apply CoeL.sl
          | apply CoeL.clp
          | apply CoeL.emp rfl
          | apply CoeL.own rfl
          | apply ret_one
          | apply ret_two
          | apply ret_three
          | exact rawq_r rfl
          | apply rawq_rc rfl
          | apply ownq_rv rfl rfl)
      all_goals (try (exfalso; simp only [Bool.and_eq_false_iff, decide_eq_false_iff_not, decide_eq_true_eq, Bool.not_false, Bool.not_true] at *; omega))
      · refine eqRD ?_
        simp only [decide_eq_true_eq, decide_eq_false_iff_not] at *
        have hle : left ≤ 65536 := by
          simp only [Bool.or_eq_false_iff, dBad, decide_eq_false_iff_not] at hbad0
          omega
        rw [i64w (by omega) (by omega)]
        simp only [dSync, Dk.bad, hbad, hc1, cond_false]
        rw [show decide (left ≥ 0) = true by simp; omega]
        rfl
      · refine eqRD ?_
        simp only [dSync, Dk.bad, hbad, hb, cond_false, Bool.false_and]
    | true =>
      simp only [Bool.and_eq_true, decide_eq_true_eq] at hc1
      have hlt : left.toNat < ps.length := by omega
      have hm := getD_mem tW.dflt (l := ps) hlt
      have h3 := h1 _ hm
      have h4 : (perf ss (ps.take left.toNat)).length = ss.length := perf_len _ _
      have h5 := perf_all (ps.take left.toNat) ss h2 (fun w hw => (h1 w (List.mem_of_mem_take hw)).2.2)
      have h6 : ((perf ss (ps.take left.toNat)).getD (Int.toNat (ps.getD left.toNat tW.dflt).1 * tB.size) tB.dflt).length = 128 := h5 _ (getD_mem _ (by show _ * 1 < _; omega))
      repeat' (first
          | exact True.intro
          | exact rfl
          | refine And.intro rfl ?_
          | refine awc_seq ?_
          | refine awc_region ?_
          | refine awc_draw ?_
          | refine awt_a rfl rfl rfl ?_ ?_
          | refine awt_call0 rfl (hc57) rfl rfl rfl rfl rfl ?_
          | refine awt_call1 rfl (hc57) rfl rfl rfl rfl rfl ?_
          | refine awt_call2 rfl (hc57) rfl rfl rfl rfl rfl ?_
          | refine awt_own0 rfl (c62 _ _ h1a) rfl rfl rfl rfl rfl rfl ?_
          | refine awt_own rfl (c62 _ _ h1a) rfl rfl rfl rfl rfl rfl ?_
          | refine awt_own0 rfl (c62 _ _ (h1b left.toNat)) rfl rfl rfl rfl rfl rfl ?_
          | refine awt_own rfl (c62 _ _ (h1b left.toNat)) rfl rfl rfl rfl rfl rfl ?_
          | refine awt_own0 rfl (c63 _) rfl rfl rfl rfl rfl rfl ?_
          | refine awt_own rfl (c63 _) rfl rfl rfl rfl rfl rfl ?_
          | refine awt_b rfl rfl rfl rfl ?_ ?_
          | refine awt_c rfl rfl rfl ?_ ?_
          | refine awt_gt rfl rfl ?_
          | refine awt_gf rfl rfl rfl ?_
          | refine awt_gu rfl rfl rfl ?_
          | (refine awt_h rfl rfl rfl ?_ ?_ <;> intro hb)
          | refine awt_nil ?_
          | refine dq (by kernel_rfl) ?_
          | refine thn_n ?_
          | refine thn_r ?_
          | refine thn_e ?_
          | refine awc_condT rfl ?_
          | refine awc_condF rfl ?_
          | (refine awc_cond rfl ?_ ?_ <;> intro hb)
          | refine awc_block ?_
          | refine blk_n ?_
          | refine blk_r ?_
          | refine blk_e ?_
          | refine blk_o rfl ?_
          | refine awc_ret ?_
          | refine awc_skip ?_
          | refine awc_label ?_
          | refine awc_exit ?_
          | refine retq_r ?_
          | refine retq_n ?_
          | exact ResIs.tv rfl
          | exact ResIs.ts rfl
          | exact ResIs.tc rfl
          | exact ResIs.tn rfl rfl
          | exact ResIs.to rfl rfl
          | apply ResIs.tagg rfl
          | exact ResIs.cv rfl trivial
          | exact ResIs.cs rfl trivial
          | exact ResIs.cn rfl trivial rfl
          | exact ResIs.co rfl trivial rfl
          | apply ResIs.cagg rfl trivial
          | exact CoeL.nil
          | apply CoeL.v
          | apply CoeL.sl
          | apply CoeL.clp
          | apply CoeL.emp rfl
          | apply CoeL.own rfl
          | apply ret_one
          | apply ret_two
          | apply ret_three
          | exact rawq_r rfl
          | apply rawq_rc rfl
          | apply ownq_rv rfl rfl)
      all_goals (try (exfalso; simp only [decide_eq_false_iff_not, decide_eq_true_eq, Bool.not_false, Bool.not_true] at *; omega))
      · exact ⟨by simp [cutOk]; omega, rfl⟩
      · exact hc1
      · rw [h4]; exact ⟨h3.1, h3.2.1⟩
      · show _ * 1 < _
        omega
      · rw [h6]; exact ⟨by simp [cutOk], by decide⟩
      · rw [h6]; exact ⟨trivial, rfl, rfl, by decide⟩
      · rw [h4]; exact ⟨h3.1, h3.2.1⟩
      · refine ⟨trivial, rfl, rfl, ?_⟩
        show _ * 1 < _
        omega
      · refine eqRD ?_
        have e := torn_eq (t := (perf ss (ps.take left.toNat)).getD (Int.toNat (ps.getD left.toNat tW.dflt).1 * tB.size) tB.dflt) (w := (ps.getD left.toNat tW.dflt).2) h6 h3.2.2
        show dSync ⟨ss, ps, left, st⟩ = ((⟨(perf ss (ps.take left.toNat)).set (Int.toNat (ps.getD left.toNat tW.dflt).1 * tB.size) (List.take (cutLo none) ((perf ss (ps.take left.toNat)).getD (Int.toNat (ps.getD left.toNat tW.dflt).1 * tB.size) tB.dflt) ++ List.take (cutHi ((perf ss (ps.take left.toNat)).getD (Int.toNat (ps.getD left.toNat tW.dflt).1 * tB.size) tB.dflt).length (some 64) - cutLo none) (ps.getD left.toNat tW.dflt).2 ++ List.drop (cutLo none + min (ps.getD left.toNat tW.dflt).2.length (cutHi ((perf ss (ps.take left.toNat)).getD (Int.toNat (ps.getD left.toNat tW.dflt).1 * tB.size) tB.dflt).length (some 64) - cutLo none)) ((perf ss (ps.take left.toNat)).getD (Int.toNat (ps.getD left.toNat tW.dflt).1 * tB.size) tB.dflt)), [], 0, true⟩ : Dk), (40 : Int))
        rw [e]
        simp only [dSync, Dk.bad, hbad, cond_false]
        rw [show (decide (left ≥ 0) && decide (left < (ps.length : Int))) = true by simp; omega]
        rw [show ∀ n : Nat, n * tB.size = n from fun n => Nat.mul_one n]
        rfl

/-! ### the reference -/
theorem perf_step {ss' : List (List UInt8)} {ps : List (Int × List UInt8)} {m i : Nat} (h : i < m) (hm : m ≤ ps.length) : perf ss' ((ps.take m).drop i) = perf (ss'.set (Int.toNat (ps.getD i tW.dflt).1) (ps.getD i tW.dflt).2) ((ps.take m).drop (i + 1)) := by
  rw [drop_step (i := i) tW.dflt (by simp; omega)]
  have : (ps.take m).getD i tW.dflt = ps.getD i tW.dflt := by
    rw [List.getD_eq_getElem?_getD, List.getD_eq_getElem?_getD, List.getElem?_take, if_pos h]
  rw [this]
  rfl

theorem c31 (ss : List (List UInt8)) (ps : List (Int × List UInt8)) (left : Int) (st : Bool) : ACalls 31 [aD ss ps left st] (aRD (dSync ⟨ss, ps, left, st⟩)) := by
  refine acalls (n := 95) (rs := [.cell 2 25, .tmp 3]) (Ts := [25, 28]) Try.func31 rfl rfl rfl rfl rfl rfl ?_
  refine awc_bd 0 _ rfl ?_
  intro hbd
  have hb1 : List.length ss * 24 ≤ 140737488355328 := hbd.1.1
  have hb2 : List.length ps * 32 ≤ 140737488355328 := hbd.2.1.1
  have hc23 := c23 ss ps left st
  have hck := dChk_ne ss ps left
  cases hbad : (dBad ss ps left || st) with
  | true =>
    repeat' (first
        | exact True.intro
        | exact rfl
        | refine And.intro rfl ?_
        | refine awc_seq ?_
        | refine awc_region ?_
        | refine awc_draw ?_
        | refine awt_a rfl rfl rfl ?_ ?_
        | refine awt_call0 rfl (hc23) rfl rfl rfl rfl rfl ?_
        | refine awt_call1 rfl (hc23) rfl rfl rfl rfl rfl ?_
        | refine awt_call2 rfl (hc23) rfl rfl rfl rfl rfl ?_
        | refine awt_b rfl rfl rfl rfl ?_ ?_
        | refine awt_c rfl rfl rfl ?_ ?_
        | refine awt_gt rfl rfl ?_
        | refine awt_gf rfl rfl rfl ?_
        | refine awt_gu rfl rfl rfl ?_
        | (refine awt_h rfl rfl rfl ?_ ?_ <;> intro hb)
        | refine awt_nil ?_
        | refine dq (by kernel_rfl) ?_
        | refine thn_n ?_
        | refine thn_r ?_
        | refine thn_e ?_
        | refine awc_condT rfl ?_
        | refine awc_condF rfl ?_
        | (refine awc_cond rfl ?_ ?_ <;> intro hb)
        | refine awc_block ?_
        | refine blk_n ?_
        | refine blk_r ?_
        | refine blk_e ?_
        | refine blk_o rfl ?_
        | refine awc_ret ?_
        | refine awc_skip ?_
        | refine awc_label ?_
        | refine awc_exit ?_
        | refine retq_r ?_
        | refine retq_n ?_
        | exact ResIs.tv rfl
        | exact ResIs.ts rfl
        | exact ResIs.tc rfl
        | exact ResIs.tn rfl rfl
        | exact ResIs.to rfl rfl
        | apply ResIs.tagg rfl
        | exact ResIs.cv rfl trivial
        | exact ResIs.cs rfl trivial
        | exact ResIs.cn rfl trivial rfl
        | exact ResIs.co rfl trivial rfl
        | apply ResIs.cagg rfl trivial
        | exact CoeL.nil
        | apply CoeL.v
        | apply CoeL.sl
        | apply CoeL.clp
        | apply CoeL.emp rfl
        | apply CoeL.own rfl
        | apply ret_one
        | apply ret_two
        | apply ret_three
        | exact rawq_r rfl
        | apply rawq_rc rfl
        | apply ownq_rv rfl rfl)
    all_goals first | (refine eqRD ?_; simp only [dSync, Dk.bad, hbad]; rfl) | (exfalso; simp only [Bool.or_eq_true, hck] at *; simp_all)
  | false =>
    have hbad0 := hbad
    rw [Bool.or_eq_false_iff] at hbad0
    obtain ⟨hbad1, rfl⟩ := hbad0
    have h1 := dBad_at hbad1
    have h2 := dBad_ss hbad1
    have hle : left ≤ 65536 := by
      simp only [Bool.or_eq_false_iff, dBad, decide_eq_false_iff_not] at hbad1
      omega
    have h0 : dChk ss ps left = 0 := by simp [dChk, hbad1]
    rw [h0] at hc23
    cases hc1 : decide (left ≥ 0) && decide (left < (ps.length : Int)) with
    | true =>
      simp only [Bool.and_eq_true, decide_eq_true_eq] at hc1
      repeat' (first
          | exact True.intro
          | exact rfl
          | refine And.intro rfl ?_
          | refine awc_seq ?_
          | refine awc_region ?_
          | refine awc_draw ?_
          | refine awt_a rfl rfl rfl ?_ ?_
          | refine awt_call0 rfl (hc23) rfl rfl rfl rfl rfl ?_
          | refine awt_call1 rfl (hc23) rfl rfl rfl rfl rfl ?_
          | refine awt_call2 rfl (hc23) rfl rfl rfl rfl rfl ?_
          | refine awt_b rfl rfl rfl rfl ?_ ?_
          | refine awt_c rfl rfl rfl ?_ ?_
          | refine awt_gt rfl rfl ?_
          | refine awt_gf rfl rfl rfl ?_
          | refine awt_gu rfl rfl rfl ?_
          | (refine awt_h rfl rfl rfl ?_ ?_ <;> intro hb)
          | refine awt_nil ?_
          | refine dq (by kernel_rfl) ?_
          | refine thn_n ?_
          | refine thn_r ?_
          | refine thn_e ?_
          | refine awc_condT rfl ?_
          | refine awc_condF rfl ?_
          | (refine awc_cond rfl ?_ ?_ <;> intro hb)
          | refine awc_block ?_
          | refine blk_n ?_
          | refine blk_r ?_
          | refine blk_e ?_
          | refine blk_o rfl ?_
          | refine awc_ret ?_
          | refine awc_skip ?_
          | refine awc_label ?_
          | refine awc_exit ?_
          | refine retq_r ?_
          | refine retq_n ?_
          | exact ResIs.tv rfl
          | exact ResIs.ts rfl
          | exact ResIs.tc rfl
          | exact ResIs.tn rfl rfl
          | exact ResIs.to rfl rfl
          | apply ResIs.tagg rfl
          | exact ResIs.cv rfl trivial
          | exact ResIs.cs rfl trivial
          | exact ResIs.cn rfl trivial rfl
          | exact ResIs.co rfl trivial rfl
          | apply ResIs.cagg rfl trivial
          | exact CoeL.nil
          | apply CoeL.v
          | apply CoeL.sl
          | apply CoeL.clp
          | apply CoeL.emp rfl
          | apply CoeL.own rfl
          | apply ret_one
          | apply ret_two
          | apply ret_three
          | exact rawq_r rfl
          | apply rawq_rc rfl
          | apply ownq_rv rfl rfl)
      all_goals (try (exfalso; simp only [decide_eq_false_iff_not, decide_eq_true_eq, Bool.not_true] at *; omega))
      · exact hb1
      · refine awc_loop (α := Nat × List (List UInt8)) (fun i => ⟨95, [(1, o1 (.ptr 1 0)), (2, o1 (.ptr 2 0)), (4, o1 (vI left)), (5, o1 (vB true)), (6, o1 (.ptr 6 0)), (7, o1 (vI i.1))], [(1, .box [.sl tB ss, .sl tW ps, vI left, vB false]), (2, .box [.emp, .emp, vI 0, vB false]), (6, .box [.own 35, .emp, vI left, vB false]), (35, .own tB i.2)]⟩) (fun i => i.1 ≤ left.toNat ∧ i.2.length = ss.length ∧ perf ss (ps.take left.toNat) = perf i.2 ((ps.take left.toNat).drop i.1)) (fun i => left.toNat - i.1) (0, ss) (Wk.ren [] rfl (by repeat' (first | exact True.intro | exact rfl | refine And.intro ?_ ?_ | (refine eqVB ?_; assumption))) (by repeat' (first | exact True.intro | exact rfl | refine And.intro ?_ ?_ | (refine eqVB ?_; assumption))) rfl) ⟨Nat.zero_le _, rfl, rfl⟩ ?_
        rintro ⟨i, ss'⟩ ⟨hi, hlen, hpre⟩
        dsimp only at hi hlen hpre
        repeat' (first
            | exact True.intro
            | exact rfl
            | refine And.intro rfl ?_
            | refine awc_seq ?_
            | refine awc_region ?_
            | refine awc_draw ?_
            | refine awt_a rfl rfl rfl ?_ ?_
            | refine awt_b rfl rfl rfl rfl ?_ ?_
            | refine awt_c rfl rfl rfl ?_ ?_
            | refine awt_gt rfl rfl ?_
            | refine awt_gf rfl rfl rfl ?_
            | refine awt_gu rfl rfl rfl ?_
            | (refine awt_h rfl rfl rfl ?_ ?_ <;> intro hb)
            | refine awt_nil ?_
            | refine dq (by kernel_rfl) ?_
            | refine thn_n ?_
            | refine thn_r ?_
            | refine thn_e ?_
            | refine awc_condT rfl ?_
            | refine awc_condF rfl ?_
            | (refine awc_cond rfl ?_ ?_ <;> intro hb)
            | refine awc_block ?_
            | refine blk_n ?_
            | refine blk_r ?_
            | refine blk_e ?_
            | refine blk_o rfl ?_
            | refine awc_ret ?_
            | refine awc_skip ?_
            | refine awc_label ?_
            | refine awc_exit ?_
            | refine retq_r ?_
            | refine retq_n ?_
            | exact ResIs.tv rfl
            | exact ResIs.ts rfl
            | exact ResIs.tc rfl
            | exact ResIs.tn rfl rfl
            | exact ResIs.to rfl rfl
            | apply ResIs.tagg rfl
            | exact ResIs.cv rfl trivial
            | exact ResIs.cs rfl trivial
            | exact ResIs.cn rfl trivial rfl
            | exact ResIs.co rfl trivial rfl
            | apply ResIs.cagg rfl trivial
            | exact CoeL.nil
            | apply CoeL.v
            | apply CoeL.sl
            | apply CoeL.clp
            | apply CoeL.emp rfl
            | apply CoeL.own rfl
            | apply ret_one
            | apply ret_two
            | apply ret_three
            | exact rawq_r rfl
            | apply rawq_rc rfl
            | apply ownq_rv rfl rfl)
        all_goals (try simp only [decide_eq_true_eq, decide_eq_false_iff_not, Int.toNat_natCast] at *)
        all_goals (try omega)
        · have hm := h1 _ (getD_mem tW.dflt (l := ps) (i := i) (by omega))
          omega
        · have hm := h1 _ (getD_mem tW.dflt (l := ps) (i := i) (by omega))
          refine ⟨trivial, rfl, rfl, ?_⟩
          show _ * 1 < _
          omega
        · refine ⟨(i + 1, ss'.set (Int.toNat (ps.getD i tW.dflt).1) (ps.getD i tW.dflt).2), Wk.ren [] rfl ⟨rfl, rfl, rfl, ?_, rfl, ?_, trivial⟩ ⟨rfl, rfl, rfl, ?_, trivial⟩ rfl, ⟨by dsimp only; omega, by simp [hlen], ?_⟩, by dsimp only; omega⟩
          · first | exact rfl | (refine eqVB ?_; simp only [decide_eq_true_eq, decide_eq_false_iff_not]; assumption)
          · refine eqVI ?_
            rw [i64w] <;> omega
          · show HB.own tB (ss'.set (_ * 1) _) = HB.own tB _
            rw [Nat.mul_one]
          · rw [hpre, perf_step (by omega) (by omega)]
        all_goals (have hfin : ss' = perf ss (ps.take left.toNat) := by rw [hpre, List.drop_eq_nil_of_le (by simp; omega)]; rfl)
        all_goals subst hfin
        all_goals (have hlt : left.toNat < ps.length := by omega)
        all_goals (have h3 := h1 _ (getD_mem tW.dflt (l := ps) hlt))
        all_goals (have h5 := perf_all (ps.take left.toNat) ss h2 (fun w hw => (h1 w (List.mem_of_mem_take hw)).2.2))
        all_goals (have h6 : ((perf ss (ps.take left.toNat)).getD (Int.toNat (ps.getD left.toNat tW.dflt).1 * tB.size) tB.dflt).length = 128 := h5 _ (getD_mem _ (by show _ * 1 < _; omega)))
        · rw [show List.length (ps.getD left.toNat tW.dflt).2 = 128 from h3.2.2]
          simp [cutOk]
        · show (List.take 64 _).length * 1 ≤ _
          simp; omega
        · omega
        · show _ * 1 < _
          omega
        · rw [h6]; simp [cutOk]
        · refine ⟨?_, by simp⟩
          show ((List.take 64 _).length + (List.drop 64 _).length) * 1 ≤ _
          rw [List.length_take, List.length_drop, h6]
          omega
        · omega
        · refine ⟨trivial, rfl, rfl, ?_⟩
          show _ * 1 < _
          omega
        · refine eqRD ?_
          simp only [dSync, Dk.bad, hbad, cond_false]
          rw [show (decide (left ≥ 0) && decide (left < (ps.length : Int))) = true by simp; omega]
          rw [show ∀ n : Nat, n * tB.size = n from fun n => Nat.mul_one n]
          rfl
    | false =>
      repeat' (first
          | exact True.intro
          | exact rfl
          | refine And.intro rfl ?_
          | refine awc_seq ?_
          | refine awc_region ?_
          | refine awc_draw ?_
          | refine awt_a rfl rfl rfl ?_ ?_
          | refine awt_call0 rfl (hc23) rfl rfl rfl rfl rfl ?_
          | refine awt_call1 rfl (hc23) rfl rfl rfl rfl rfl ?_
          | refine awt_call2 rfl (hc23) rfl rfl rfl rfl rfl ?_
          | refine awt_b rfl rfl rfl rfl ?_ ?_
          | refine awt_c rfl rfl rfl ?_ ?_
          | refine awt_gt rfl rfl ?_
          | refine awt_gf rfl rfl rfl ?_
          | refine awt_gu rfl rfl rfl ?_
          | (refine awt_h rfl rfl rfl ?_ ?_ <;> intro hb)
          | refine awt_nil ?_
          | refine dq (by kernel_rfl) ?_
          | refine thn_n ?_
          | refine thn_r ?_
          | refine thn_e ?_
          | refine awc_condT rfl ?_
          | refine awc_condF rfl ?_
          | (refine awc_cond rfl ?_ ?_ <;> intro hb)
          | refine awc_block ?_
          | refine blk_n ?_
          | refine blk_r ?_
          | refine blk_e ?_
          | refine blk_o rfl ?_
          | refine awc_ret ?_
          | refine awc_skip ?_
          | refine awc_label ?_
          | refine awc_exit ?_
          | refine retq_r ?_
          | refine retq_n ?_
          | exact ResIs.tv rfl
          | exact ResIs.ts rfl
          | exact ResIs.tc rfl
          | exact ResIs.tn rfl rfl
          | exact ResIs.to rfl rfl
          | apply ResIs.tagg rfl
          | exact ResIs.cv rfl trivial
          | exact ResIs.cs rfl trivial
          | exact ResIs.cn rfl trivial rfl
          | exact ResIs.co rfl trivial rfl
          | apply ResIs.cagg rfl trivial
          | exact CoeL.nil
          | apply CoeL.v
          | apply CoeL.sl
          | apply CoeL.clp
          | apply CoeL.emp rfl
          | apply CoeL.own rfl
          | apply ret_one
          | apply ret_two
          | apply ret_three
          | exact rawq_r rfl
          | apply rawq_rc rfl
          | apply ownq_rv rfl rfl)
      all_goals (try (exfalso; simp only [Bool.and_eq_false_iff, decide_eq_false_iff_not, decide_eq_true_eq, Bool.not_true] at *; omega))
      · exact hb1
      · refine awc_loop (α := Nat × List (List UInt8)) (fun i => ⟨95, [(1, o1 (.ptr 1 0)), (2, o1 (.ptr 2 0)), (4, o1 (vI ps.length)), (5, o1 (vB false)), (6, o1 (.ptr 6 0)), (7, o1 (vI i.1))], [(1, .box [.sl tB ss, .sl tW ps, vI left, vB false]), (2, .box [.emp, .emp, vI 0, vB false]), (6, .box [.own 35, .emp, vI left, vB false]), (35, .own tB i.2)]⟩) (fun i => i.1 ≤ ps.length ∧ i.2.length = ss.length ∧ perf ss (ps.take ps.length) = perf i.2 ((ps.take ps.length).drop i.1)) (fun i => ps.length - i.1) (0, ss) (Wk.ren [] rfl (by repeat' (first | exact True.intro | exact rfl | refine And.intro ?_ ?_ | (refine eqVB ?_; assumption))) (by repeat' (first | exact True.intro | exact rfl | refine And.intro ?_ ?_ | (refine eqVB ?_; assumption))) rfl) ⟨Nat.zero_le _, rfl, rfl⟩ ?_
        rintro ⟨i, ss'⟩ ⟨hi, hlen, hpre⟩
        dsimp only at hi hlen hpre
        repeat' (first
            | exact True.intro
            | exact rfl
            | refine And.intro rfl ?_
            | refine awc_seq ?_
            | refine awc_region ?_
            | refine awc_draw ?_
            | refine awt_a rfl rfl rfl ?_ ?_
            | refine awt_b rfl rfl rfl rfl ?_ ?_
            | refine awt_c rfl rfl rfl ?_ ?_
            | refine awt_gt rfl rfl ?_
            | refine awt_gf rfl rfl rfl ?_
            | refine awt_gu rfl rfl rfl ?_
            | (refine awt_h rfl rfl rfl ?_ ?_ <;> intro hb)
            | refine awt_nil ?_
            | refine dq (by kernel_rfl) ?_
            | refine thn_n ?_
            | refine thn_r ?_
            | refine thn_e ?_
            | refine awc_condT rfl ?_
            | refine awc_condF rfl ?_
            | (refine awc_cond rfl ?_ ?_ <;> intro hb)
            | refine awc_block ?_
            | refine blk_n ?_
            | refine blk_r ?_
            | refine blk_e ?_
            | refine blk_o rfl ?_
            | refine awc_ret ?_
            | refine awc_skip ?_
            | refine awc_label ?_
            | refine awc_exit ?_
            | refine retq_r ?_
            | refine retq_n ?_
            | exact ResIs.tv rfl
            | exact ResIs.ts rfl
            | exact ResIs.tc rfl
            | exact ResIs.tn rfl rfl
            | exact ResIs.to rfl rfl
            | apply ResIs.tagg rfl
            | exact ResIs.cv rfl trivial
            | exact ResIs.cs rfl trivial
            | exact ResIs.cn rfl trivial rfl
            | exact ResIs.co rfl trivial rfl
            | apply ResIs.cagg rfl trivial
            | exact CoeL.nil
            | apply CoeL.v
            | apply CoeL.sl
            | apply CoeL.clp
            | apply CoeL.emp rfl
            | apply CoeL.own rfl
            | apply ret_one
            | apply ret_two
            | apply ret_three
            | exact rawq_r rfl
            | apply rawq_rc rfl
            | apply ownq_rv rfl rfl)
        all_goals (try simp only [decide_eq_true_eq, decide_eq_false_iff_not, Int.toNat_natCast] at *)
        all_goals (try omega)
        · have hm := h1 _ (getD_mem tW.dflt (l := ps) (i := i) (by omega))
          omega
        · have hm := h1 _ (getD_mem tW.dflt (l := ps) (i := i) (by omega))
          refine ⟨trivial, rfl, rfl, ?_⟩
          show _ * 1 < _
          omega
        · refine ⟨(i + 1, ss'.set (Int.toNat (ps.getD i tW.dflt).1) (ps.getD i tW.dflt).2), Wk.ren [] rfl ⟨rfl, rfl, rfl, ?_, rfl, ?_, trivial⟩ ⟨rfl, rfl, rfl, ?_, trivial⟩ rfl, ⟨by dsimp only; omega, by simp [hlen], ?_⟩, by dsimp only; omega⟩
          · first | exact rfl | (refine eqVB ?_; simp only [decide_eq_true_eq, decide_eq_false_iff_not]; assumption)
          · refine eqVI ?_
            rw [i64w] <;> omega
          · show HB.own tB (ss'.set (_ * 1) _) = HB.own tB _
            rw [Nat.mul_one]
          · rw [hpre, perf_step (by omega) (by omega)]
        · refine eqRD ?_
          have hfin : ss' = perf ss ps := by
            rw [List.take_length] at hpre
            rw [hpre, List.drop_eq_nil_of_le (by omega)]; rfl
          rw [i64w (by omega) (by omega), hfin]
          simp only [dSync, Dk.bad, hbad, cond_false]
          rw [show (decide (left ≥ 0) && decide (left < (ps.length : Int))) = false by simp; omega, show decide (left ≥ 0) = true by simp; omega]
          rfl
      · exact hb1
      · refine awc_loop (α := Nat × List (List UInt8)) (fun i => ⟨95, [(1, o1 (.ptr 1 0)), (2, o1 (.ptr 2 0)), (4, o1 (vI ps.length)), (5, o1 (vB false)), (6, o1 (.ptr 6 0)), (7, o1 (vI i.1))], [(1, .box [.sl tB ss, .sl tW ps, vI left, vB false]), (2, .box [.emp, .emp, vI 0, vB false]), (6, .box [.own 35, .emp, vI left, vB false]), (35, .own tB i.2)]⟩) (fun i => i.1 ≤ ps.length ∧ i.2.length = ss.length ∧ perf ss (ps.take ps.length) = perf i.2 ((ps.take ps.length).drop i.1)) (fun i => ps.length - i.1) (0, ss) (Wk.ren [] rfl (by repeat' (first | exact True.intro | exact rfl | refine And.intro ?_ ?_ | (refine eqVB ?_; assumption))) (by repeat' (first | exact True.intro | exact rfl | refine And.intro ?_ ?_ | (refine eqVB ?_; assumption))) rfl) ⟨Nat.zero_le _, rfl, rfl⟩ ?_
        rintro ⟨i, ss'⟩ ⟨hi, hlen, hpre⟩
        dsimp only at hi hlen hpre
        repeat' (first
            | exact True.intro
            | exact rfl
            | refine And.intro rfl ?_
            | refine awc_seq ?_
            | refine awc_region ?_
            | refine awc_draw ?_
            | refine awt_a rfl rfl rfl ?_ ?_
            | refine awt_b rfl rfl rfl rfl ?_ ?_
            | refine awt_c rfl rfl rfl ?_ ?_
            | refine awt_gt rfl rfl ?_
            | refine awt_gf rfl rfl rfl ?_
            | refine awt_gu rfl rfl rfl ?_
            | (refine awt_h rfl rfl rfl ?_ ?_ <;> intro hb)
            | refine awt_nil ?_
            | refine dq (by kernel_rfl) ?_
            | refine thn_n ?_
            | refine thn_r ?_
            | refine thn_e ?_
            | refine awc_condT rfl ?_
            | refine awc_condF rfl ?_
            | (refine awc_cond rfl ?_ ?_ <;> intro hb)
            | refine awc_block ?_
            | refine blk_n ?_
            | refine blk_r ?_
            | refine blk_e ?_
            | refine blk_o rfl ?_
            | refine awc_ret ?_
            | refine awc_skip ?_
            | refine awc_label ?_
            | refine awc_exit ?_
            | refine retq_r ?_
            | refine retq_n ?_
            | exact ResIs.tv rfl
            | exact ResIs.ts rfl
            | exact ResIs.tc rfl
            | exact ResIs.tn rfl rfl
            | exact ResIs.to rfl rfl
            | apply ResIs.tagg rfl
            | exact ResIs.cv rfl trivial
            | exact ResIs.cs rfl trivial
            | exact ResIs.cn rfl trivial rfl
            | exact ResIs.co rfl trivial rfl
            | apply ResIs.cagg rfl trivial
            | exact CoeL.nil
            | apply CoeL.v
            | apply CoeL.sl
            | apply CoeL.clp
            | apply CoeL.emp rfl
            | apply CoeL.own rfl
            | apply ret_one
            | apply ret_two
            | apply ret_three
            | exact rawq_r rfl
            | apply rawq_rc rfl
            | apply ownq_rv rfl rfl)
        all_goals (try simp only [decide_eq_true_eq, decide_eq_false_iff_not, Bool.not_true, Int.toNat_natCast] at *)
        all_goals (try omega)
        · have hm := h1 _ (getD_mem tW.dflt (l := ps) (i := i) (by omega))
          omega
        · have hm := h1 _ (getD_mem tW.dflt (l := ps) (i := i) (by omega))
          refine ⟨trivial, rfl, rfl, ?_⟩
          show _ * 1 < _
          omega
        · refine ⟨(i + 1, ss'.set (Int.toNat (ps.getD i tW.dflt).1) (ps.getD i tW.dflt).2), Wk.ren [] rfl ⟨rfl, rfl, rfl, ?_, rfl, ?_, trivial⟩ ⟨rfl, rfl, rfl, ?_, trivial⟩ rfl, ⟨by dsimp only; omega, by simp [hlen], ?_⟩, by dsimp only; omega⟩
          · first | exact rfl | (refine eqVB ?_; simp only [decide_eq_true_eq, decide_eq_false_iff_not]; assumption)
          · refine eqVI ?_
            rw [i64w] <;> omega
          · show HB.own tB (ss'.set (_ * 1) _) = HB.own tB _
            rw [Nat.mul_one]
          · rw [hpre, perf_step (by omega) (by omega)]
        · refine eqRD ?_
          have hfin : ss' = perf ss ps := by
            rw [List.take_length] at hpre
            rw [hpre, List.drop_eq_nil_of_le (by omega)]; rfl
          rw [hfin]
          simp only [dSync, Dk.bad, hbad, cond_false]
          rw [show (decide (left ≥ 0) && decide (left < (ps.length : Int))) = false by simp; omega, show decide (left ≥ 0) = false by simp; omega]
          rfl
end B
end Go.Proofs.Ytbmnhagbplkagaa
