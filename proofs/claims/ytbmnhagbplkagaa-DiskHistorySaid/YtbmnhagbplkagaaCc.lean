import Derived.Test.YtbmnhagbplkagaaCb
import Derived.Test.YtbmnhagbplkagaaBb
/- Contracts of the disk: synchronisation. -/
namespace Go.Proofs.Ytbmnhagbplkagaa
namespace B
open Go.RowKit
set_option maxHeartbeats 4000000
set_option maxRecDepth 100000
attribute [local irreducible] awc awT thn blk DQ retQ rawQ ownQ retOk ResIs

def dTorn (ss : List (List UInt8)) (w : Int × List UInt8) : List (List UInt8) := ss.set w.1.toNat (w.2.take 64 ++ (ss.getD w.1.toNat []).drop 64)
def dSync (d : Dk) : Dk × Int :=
  bif d.bad then (.z, 40) else bif decide (d.left ≥ 0) && decide (d.left < d.ps.length) then (⟨dTorn (perf d.ss (d.ps.take d.left.toNat)) (d.ps.getD d.left.toNat (0, [])), [], 0, true⟩, 40) else
    (⟨perf d.ss d.ps, [], bif decide (d.left ≥ 0) then d.left - d.ps.length else d.left, false⟩, 0)

theorem dBad_at {ss : List (List UInt8)} {ps : List (Int × List UInt8)} {left : Int} (h : dBad ss ps left = false) : ∀ w ∈ ps, 0 ≤ w.1 ∧ w.1 < ss.length ∧ w.2.length = 128 := by
  intro w hw
  simp only [dBad, Bool.or_eq_false_iff, List.any_eq_false] at h
  have := h.1.2 w hw
  simp only [Bool.or_eq_true, decide_eq_true_eq, Bool.not_eq_true', decide_eq_false_iff_not, not_or] at this
  omega
theorem dBad_ss {ss : List (List UInt8)} {ps : List (Int × List UInt8)} {left : Int} (h : dBad ss ps left = false) : ∀ b ∈ ss, b.length = 128 := by
  intro w hw
  simp only [dBad, Bool.or_eq_false_iff, List.any_eq_false] at h
  have := h.2 w hw
  simpa using this
theorem perf_all {n : Nat} : ∀ (l : List (Int × List UInt8)) (ss : List (List UInt8)), (∀ b ∈ ss, b.length = n) → (∀ w ∈ l, w.2.length = n) → ∀ b ∈ perf ss l, b.length = n
  | [], ss, h, _ => h
  | w :: l, ss, h, hl => perf_all l _ (fun b hb => by
      rcases List.mem_or_eq_of_mem_set hb with hb | hb
      · exact h b hb
      · rw [hb]; exact hl w (by simp)) (fun w hw => hl w (by simp [hw]))

theorem torn_eq {t w : List UInt8} (_ : t.length = 128) (hw : w.length = 128) : List.take (cutLo none) t ++ List.take (cutHi t.length (some 64) - cutLo none) w ++ List.drop (cutLo none + min w.length (cutHi t.length (some 64) - cutLo none)) t = w.take 64 ++ t.drop 64 := by
  rw [hw]
  rfl

theorem c30 (ss : List (List UInt8)) (ps : List (Int × List UInt8)) (left : Int) (st : Bool) : ACalls 30 [aD ss ps left st] (aRD (dSync ⟨ss, ps, left, st⟩)) := by
  refine acalls (n := 78) (rs := [.cell 2 25, .tmp 3]) (Ts := [25, 28]) Try.func30 rfl rfl rfl rfl rfl rfl ?_
  refine awc_bd 0 _ rfl ?_
  intro hbd
  have hb1 : List.length ss * 24 ≤ 140737488355328 := hbd.1.1
  have hb2 : List.length ps * 32 ≤ 140737488355328 := hbd.2.1.1
  have hc57 := c57 ss ps left st
  cases hbad : (dBad ss ps left || st) with
  | true =>
    rw [hbad] at hc57
    repeat' (first
        | exact True.intro
        | exact rfl
        | refine And.intro rfl ?_
        | refine awc_seq ?_
        | refine awc_region ?_
        | refine awc_draw ?_
        | refine awt_a rfl rfl rfl ?_ ?_
        | refine awt_call0 rfl (hc57) rfl rfl rfl rfl rfl ?_
        | refine awt_call1 rfl (hc57) rfl rfl rfl rfl rfl ?_
        | refine awt_call2 rfl (hc57) rfl rfl rfl rfl rfl ?_
        | refine awt_b rfl rfl rfl rfl ?_ ?_
        | refine awt_c rfl rfl rfl ?_ ?_
        | refine awt_gt rfl rfl ?_
        | refine awt_gf rfl rfl rfl ?_
        | (refine awt_h rfl rfl rfl ?_ ?_ <;> intro hb)
        | refine awt_nil ?_
        | refine dq (by kernel_rfl) ?_
        | refine thn_n ?_
        | refine thn_r ?_
        | refine thn_e ?_
        | refine awc_condT rfl ?_
        | refine awc_condF rfl ?_
        | (refine awc_cond rfl ?_ ?_ <;> intro hb)
        | refine awc_block ?_
        | refine blk_n ?_
        | refine blk_r ?_
        | refine blk_e ?_
        | refine blk_o rfl ?_
        | refine awc_ret ?_
        | refine awc_skip ?_
        | refine awc_label ?_
        | refine awc_exit ?_
        | refine retq_r ?_
        | refine retq_n ?_
        | exact ResIs.tv rfl
        | exact ResIs.ts rfl
        | exact ResIs.tc rfl
        | exact ResIs.tn rfl rfl
        | exact ResIs.to rfl rfl
        | apply ResIs.tagg rfl
        | exact ResIs.cv rfl trivial
        | exact ResIs.cs rfl trivial
        | exact ResIs.cn rfl trivial rfl
        | exact ResIs.co rfl trivial rfl
        | apply ResIs.cagg rfl trivial
        | exact CoeL.nil
        | apply CoeL.v
        | apply CoeL.sl
        | apply CoeL.clp
        | apply CoeL.emp rfl
        | apply CoeL.own rfl
        | apply ret_one
        | apply ret_two
        | apply ret_three
        | exact rawq_r rfl
        | apply rawq_rc rfl
        | apply ownq_rv rfl rfl)
    refine eqRD ?_; simp only [dSync, Dk.bad, hbad]; rfl
  | false =>
    rw [hbad] at hc57
    have hbad0 := hbad
    rw [Bool.or_eq_false_iff] at hbad0
    have h1 := dBad_at hbad0.1
    have h2 := dBad_ss hbad0.1
    have h1a : ∀ w ∈ ps, 0 ≤ w.1 ∧ w.1 < ss.length := fun w hw => ⟨(h1 w hw).1, (h1 w hw).2.1⟩
    have h1b : ∀ n, ∀ w ∈ ps.take n, 0 ≤ w.1 ∧ w.1 < ss.length := fun n w hw => h1a w (List.mem_of_mem_take hw)
    cases hc1 : decide (left ≥ 0) && decide (left < (ps.length : Int)) with
    | false =>
      repeat' (first
          | exact True.intro
          | exact rfl
          | refine And.intro rfl ?_
          | refine awc_seq ?_
          | refine awc_region ?_
          | refine awc_draw ?_
          | refine awt_a rfl rfl rfl ?_ ?_
          | refine awt_call0 rfl (hc57) rfl rfl rfl rfl rfl ?_
          | refine awt_call1 rfl (hc57) rfl rfl rfl rfl rfl ?_
          | refine awt_call2 rfl (hc57) rfl rfl rfl rfl rfl ?_
          | refine awt_own0 rfl (c62 _ _ h1a) rfl rfl rfl rfl rfl rfl ?_
          | refine awt_own rfl (c62 _ _ h1a) rfl rfl rfl rfl rfl rfl ?_
          | refine awt_own0 rfl (c62 _ _ (h1b left.toNat)) rfl rfl rfl rfl rfl rfl ?_
          | refine awt_own rfl (c62 _ _ (h1b left.toNat)) rfl rfl rfl rfl rfl rfl ?_
          | refine awt_own0 rfl (c63 _) rfl rfl rfl rfl rfl rfl ?_
          | refine awt_own rfl (c63 _) rfl rfl rfl rfl rfl rfl ?_
          | refine awt_b rfl rfl rfl rfl ?_ ?_
          | refine awt_c rfl rfl rfl ?_ ?_
          | refine awt_gt rfl rfl ?_
          | refine awt_gf rfl rfl rfl ?_
          | (refine awt_h rfl rfl rfl ?_ ?_ <;> intro hb)
          | refine awt_nil ?_
          | refine dq (by kernel_rfl) ?_
          | refine thn_n ?_
          | refine thn_r ?_
          | refine thn_e ?_
          | refine awc_condT rfl ?_
          | refine awc_condF rfl ?_
          | (refine awc_cond rfl ?_ ?_ <;> intro hb)
          | refine awc_block ?_
          | refine blk_n ?_
          | refine blk_r ?_
          | refine blk_e ?_
          | refine blk_o rfl ?_
          | refine awc_ret ?_
          | refine awc_skip ?_
          | refine awc_label ?_
          | refine awc_exit ?_
          | refine retq_r ?_
          | refine retq_n ?_
          | exact ResIs.tv rfl
          | exact ResIs.ts rfl
          | exact ResIs.tc rfl
          | exact ResIs.tn rfl rfl
          | exact ResIs.to rfl rfl
          | apply ResIs.tagg rfl
          | exact ResIs.cv rfl trivial
          | exact ResIs.cs rfl trivial
          | exact ResIs.cn rfl trivial rfl
          | exact ResIs.co rfl trivial rfl
          | apply ResIs.cagg rfl trivial
          | exact CoeL.nil
          | apply CoeL.v
          | apply CoeL.sl
          | apply CoeL.clp
          | apply CoeL.emp rfl
          | apply CoeL.own rfl
          | apply ret_one
          | apply ret_two
          | apply ret_three
          | exact rawq_r rfl
          | apply rawq_rc rfl
          | apply ownq_rv rfl rfl)
      all_goals (try (exfalso; simp only [Bool.and_eq_false_iff, decide_eq_false_iff_not, decide_eq_true_eq, Bool.not_false, Bool.not_true] at *; omega))
      · refine eqRD ?_
        simp only [decide_eq_true_eq, decide_eq_false_iff_not] at *
        have hle : left ≤ 65536 := by
          simp only [Bool.or_eq_false_iff, dBad, decide_eq_false_iff_not] at hbad0
          omega
        rw [i64w (by omega) (by omega)]
        simp only [dSync, Dk.bad, hbad, hc1, cond_false]
        rw [show decide (left ≥ 0) = true by simp; omega]
        rfl
      · refine eqRD ?_
        simp only [dSync, Dk.bad, hbad, hb, cond_false, Bool.false_and]
    | true =>
      simp only [Bool.and_eq_true, decide_eq_true_eq] at hc1
      have hlt : left.toNat < ps.length := by omega
      have hm := getD_mem tW.dflt (l := ps) hlt
      have h3 := h1 _ hm
      have h4 : (perf ss (ps.take left.toNat)).length = ss.length := perf_len _ _
      have h5 := perf_all (ps.take left.toNat) ss h2 (fun w hw => (h1 w (List.mem_of_mem_take hw)).2.2)
      have h6 : ((perf ss (ps.take left.toNat)).getD (Int.toNat (ps.getD left.toNat tW.dflt).1 * tB.size) tB.dflt).length = 128 := h5 _ (getD_mem _ (by show _ * 1 < _; omega))
      repeat' (first
          | exact True.intro
          | exact rfl
          | refine And.intro rfl ?_
          | refine awc_seq ?_
          | refine awc_region ?_
          | refine awc_draw ?_
          | refine awt_a rfl rfl rfl ?_ ?_
          | refine awt_call0 rfl (hc57) rfl rfl rfl rfl rfl ?_
          | refine awt_call1 rfl (hc57) rfl rfl rfl rfl rfl ?_
          | refine awt_call2 rfl (hc57) rfl rfl rfl rfl rfl ?_
          | refine awt_own0 rfl (c62 _ _ h1a) rfl rfl rfl rfl rfl rfl ?_
          | refine awt_own rfl (c62 _ _ h1a) rfl rfl rfl rfl rfl rfl ?_
          | refine awt_own0 rfl (c62 _ _ (h1b left.toNat)) rfl rfl rfl rfl rfl rfl ?_
          | refine awt_own rfl (c62 _ _ (h1b left.toNat)) rfl rfl rfl rfl rfl rfl ?_
          | refine awt_own0 rfl (c63 _) rfl rfl rfl rfl rfl rfl ?_
          | refine awt_own rfl (c63 _) rfl rfl rfl rfl rfl rfl ?_
          | refine awt_b rfl rfl rfl rfl ?_ ?_
          | refine awt_c rfl rfl rfl ?_ ?_
          | refine awt_gt rfl rfl ?_
          | refine awt_gf rfl rfl rfl ?_
          | (refine awt_h rfl rfl rfl ?_ ?_ <;> intro hb)
          | refine awt_nil ?_
          | refine dq (by kernel_rfl) ?_
          | refine thn_n ?_
          | refine thn_r ?_
          | refine thn_e ?_
          | refine awc_condT rfl ?_
          | refine awc_condF rfl ?_
          | (refine awc_cond rfl ?_ ?_ <;> intro hb)
          | refine awc_block ?_
          | refine blk_n ?_
          | refine blk_r ?_
          | refine blk_e ?_
          | refine blk_o rfl ?_
          | refine awc_ret ?_
          | refine awc_skip ?_
          | refine awc_label ?_
          | refine awc_exit ?_
          | refine retq_r ?_
          | refine retq_n ?_
          | exact ResIs.tv rfl
          | exact ResIs.ts rfl
          | exact ResIs.tc rfl
          | exact ResIs.tn rfl rfl
          | exact ResIs.to rfl rfl
          | apply ResIs.tagg rfl
          | exact ResIs.cv rfl trivial
          | exact ResIs.cs rfl trivial
          | exact ResIs.cn rfl trivial rfl
          | exact ResIs.co rfl trivial rfl
          | apply ResIs.cagg rfl trivial
          | exact CoeL.nil
          | apply CoeL.v
          | apply CoeL.sl
          | apply CoeL.clp
          | apply CoeL.emp rfl
          | apply CoeL.own rfl
          | apply ret_one
          | apply ret_two
          | apply ret_three
          | exact rawq_r rfl
          | apply rawq_rc rfl
          | apply ownq_rv rfl rfl)
      all_goals (try (exfalso; simp only [decide_eq_false_iff_not, decide_eq_true_eq, Bool.not_false, Bool.not_true] at *; omega))
      · exact ⟨by simp [cutOk]; omega, rfl⟩
      · exact hc1
      · rw [h4]; exact ⟨h3.1, h3.2.1⟩
      · show _ * 1 < _
        omega
      · rw [h6]; exact ⟨by simp [cutOk], by decide⟩
      · rw [h6]; exact ⟨trivial, rfl, rfl, by decide⟩
      · rw [h4]; exact ⟨h3.1, h3.2.1⟩
      · refine ⟨trivial, rfl, rfl, ?_⟩
        show _ * 1 < _
        omega
      · refine eqRD ?_
        have e := torn_eq (t := (perf ss (ps.take left.toNat)).getD (Int.toNat (ps.getD left.toNat tW.dflt).1 * tB.size) tB.dflt) (w := (ps.getD left.toNat tW.dflt).2) h6 h3.2.2
        show dSync ⟨ss, ps, left, st⟩ = ((⟨(perf ss (ps.take left.toNat)).set (Int.toNat (ps.getD left.toNat tW.dflt).1 * tB.size) (List.take (cutLo none) ((perf ss (ps.take left.toNat)).getD (Int.toNat (ps.getD left.toNat tW.dflt).1 * tB.size) tB.dflt) ++ List.take (cutHi ((perf ss (ps.take left.toNat)).getD (Int.toNat (ps.getD left.toNat tW.dflt).1 * tB.size) tB.dflt).length (some 64) - cutLo none) (ps.getD left.toNat tW.dflt).2 ++ List.drop (cutLo none + min (ps.getD left.toNat tW.dflt).2.length (cutHi ((perf ss (ps.take left.toNat)).getD (Int.toNat (ps.getD left.toNat tW.dflt).1 * tB.size) tB.dflt).length (some 64) - cutLo none)) ((perf ss (ps.take left.toNat)).getD (Int.toNat (ps.getD left.toNat tW.dflt).1 * tB.size) tB.dflt)), [], 0, true⟩ : Dk), (40 : Int))
        rw [e]
        simp only [dSync, Dk.bad, hbad, cond_false]
        rw [show (decide (left ≥ 0) && decide (left < (ps.length : Int))) = true by simp; omega]
        rw [show ∀ n : Nat, n * tB.size = n from fun n => Nat.mul_one n]
        rfl

/-! ### the reference -/
theorem perf_step {ss' : List (List UInt8)} {ps : List (Int × List UInt8)} {m i : Nat} (h : i < m) (hm : m ≤ ps.length) : perf ss' ((ps.take m).drop i) = perf (ss'.set (Int.toNat (ps.getD i tW.dflt).1) (ps.getD i tW.dflt).2) ((ps.take m).drop (i + 1)) := by
  rw [drop_step (i := i) tW.dflt (by simp; omega)]
  have : (ps.take m).getD i tW.dflt = ps.getD i tW.dflt := by
    rw [List.getD_eq_getElem?_getD, List.getD_eq_getElem?_getD, List.getElem?_take, if_pos h]
  rw [this]
  rfl

theorem c31 (ss : List (List UInt8)) (ps : List (Int × List UInt8)) (left : Int) (st : Bool) : ACalls 31 [aD ss ps left st] (aRD (dSync ⟨ss, ps, left, st⟩)) := by
  refine acalls (n := 95) (rs := [.cell 2 25, .tmp 3]) (Ts := [25, 28]) Try.func31 rfl rfl rfl rfl rfl rfl ?_
  refine awc_bd 0 _ rfl ?_
  intro hbd
  have hb1 : List.length ss * 24 ≤ 140737488355328 := hbd.1.1
  have hb2 : List.length ps * 32 ≤ 140737488355328 := hbd.2.1.1
  have hc23 := c23 ss ps left st
  have hck := dChk_ne ss ps left
  cases hbad : (dBad ss ps left || st) with
  | true =>
    repeat' (first
        | exact True.intro
        | exact rfl
        | refine And.intro rfl ?_
        | refine awc_seq ?_
        | refine awc_region ?_
        | refine awc_draw ?_
        | refine awt_a rfl rfl rfl ?_ ?_
        | refine awt_call0 rfl (hc23) rfl rfl rfl rfl rfl ?_
        | refine awt_call1 rfl (hc23) rfl rfl rfl rfl rfl ?_
        | refine awt_call2 rfl (hc23) rfl rfl rfl rfl rfl ?_
        | refine awt_b rfl rfl rfl rfl ?_ ?_
        | refine awt_c rfl rfl rfl ?_ ?_
        | refine awt_gt rfl rfl ?_
        | refine awt_gf rfl rfl rfl ?_
        | (refine awt_h rfl rfl rfl ?_ ?_ <;> intro hb)
        | refine awt_nil ?_
        | refine dq (by kernel_rfl) ?_
        | refine thn_n ?_
        | refine thn_r ?_
        | refine thn_e ?_
        | refine awc_condT rfl ?_
        | refine awc_condF rfl ?_
        | (refine awc_cond rfl ?_ ?_ <;> intro hb)
        | refine awc_block ?_
        | refine blk_n ?_
        | refine blk_r ?_
        | refine blk_e ?_
        | refine blk_o rfl ?_
        | refine awc_ret ?_
        | refine awc_skip ?_
        | refine awc_label ?_
        | refine awc_exit ?_
        | refine retq_r ?_
        | refine retq_n ?_
        | exact ResIs.tv rfl
        | exact ResIs.ts rfl
        | exact ResIs.tc rfl
        | exact ResIs.tn rfl rfl
        | exact ResIs.to rfl rfl
        | apply ResIs.tagg rfl
        | exact ResIs.cv rfl trivial
        | exact ResIs.cs rfl trivial
        | exact ResIs.cn rfl trivial rfl
        | exact ResIs.co rfl trivial rfl
        | apply ResIs.cagg rfl trivial
        | exact CoeL.nil
        | apply CoeL.v
        | apply CoeL.sl
        | apply CoeL.clp
        | apply CoeL.emp rfl
        | apply CoeL.own rfl
        | apply ret_one
        | apply ret_two
        | apply ret_three
        | exact rawq_r rfl
        | apply rawq_rc rfl
        | apply ownq_rv rfl rfl)
    all_goals first | (refine eqRD ?_; simp only [dSync, Dk.bad, hbad]; rfl) | (exfalso; simp only [Bool.or_eq_true, hck] at *; simp_all)
  | false =>
    have hbad0 := hbad
    rw [Bool.or_eq_false_iff] at hbad0
    obtain ⟨hbad1, rfl⟩ := hbad0
    have h1 := dBad_at hbad1
    have h2 := dBad_ss hbad1
    have hle : left ≤ 65536 := by
      simp only [Bool.or_eq_false_iff, dBad, decide_eq_false_iff_not] at hbad1
      omega
    have h0 : dChk ss ps left = 0 := by simp [dChk, hbad1]
    rw [h0] at hc23
    cases hc1 : decide (left ≥ 0) && decide (left < (ps.length : Int)) with
    | true =>
      simp only [Bool.and_eq_true, decide_eq_true_eq] at hc1
      repeat' (first
          | exact True.intro
          | exact rfl
          | refine And.intro rfl ?_
          | refine awc_seq ?_
          | refine awc_region ?_
          | refine awc_draw ?_
          | refine awt_a rfl rfl rfl ?_ ?_
          | refine awt_call0 rfl (hc23) rfl rfl rfl rfl rfl ?_
          | refine awt_call1 rfl (hc23) rfl rfl rfl rfl rfl ?_
          | refine awt_call2 rfl (hc23) rfl rfl rfl rfl rfl ?_
          | refine awt_b rfl rfl rfl rfl ?_ ?_
          | refine awt_c rfl rfl rfl ?_ ?_
          | refine awt_gt rfl rfl ?_
          | refine awt_gf rfl rfl rfl ?_
          | (refine awt_h rfl rfl rfl ?_ ?_ <;> intro hb)
          | refine awt_nil ?_
          | refine dq (by kernel_rfl) ?_
          | refine thn_n ?_
          | refine thn_r ?_
          | refine thn_e ?_
          | refine awc_condT rfl ?_
          | refine awc_condF rfl ?_
          | (refine awc_cond rfl ?_ ?_ <;> intro hb)
          | refine awc_block ?_
          | refine blk_n ?_
          | refine blk_r ?_
          | refine blk_e ?_
          | refine blk_o rfl ?_
          | refine awc_ret ?_
          | refine awc_skip ?_
          | refine awc_label ?_
          | refine awc_exit ?_
          | refine retq_r ?_
          | refine retq_n ?_
          | exact ResIs.tv rfl
          | exact ResIs.ts rfl
          | exact ResIs.tc rfl
          | exact ResIs.tn rfl rfl
          | exact ResIs.to rfl rfl
          | apply ResIs.tagg rfl
          | exact ResIs.cv rfl trivial
          | exact ResIs.cs rfl trivial
          | exact ResIs.cn rfl trivial rfl
          | exact ResIs.co rfl trivial rfl
          | apply ResIs.cagg rfl trivial
          | exact CoeL.nil
          | apply CoeL.v
          | apply CoeL.sl
          | apply CoeL.clp
          | apply CoeL.emp rfl
          | apply CoeL.own rfl
          | apply ret_one
          | apply ret_two
          | apply ret_three
          | exact rawq_r rfl
          | apply rawq_rc rfl
          | apply ownq_rv rfl rfl)
      all_goals (try (exfalso; simp only [decide_eq_false_iff_not, decide_eq_true_eq, Bool.not_true] at *; omega))
      · exact hb1
      · refine awc_loop (α := Nat × List (List UInt8)) (fun i => ⟨95, [(1, o1 (.ptr 1 0)), (2, o1 (.ptr 2 0)), (4, o1 (vI left)), (5, o1 (vB true)), (6, o1 (.ptr 6 0)), (7, o1 (vI i.1))], [(1, .box [.sl tB ss, .sl tW ps, vI left, vB false]), (2, .box [.emp, .emp, vI 0, vB false]), (6, .box [.own 35, .emp, vI left, vB false]), (35, .own tB i.2)]⟩) (fun i => i.1 ≤ left.toNat ∧ i.2.length = ss.length ∧ perf ss (ps.take left.toNat) = perf i.2 ((ps.take left.toNat).drop i.1)) (fun i => left.toNat - i.1) (0, ss) (Wk.ren [] rfl (by repeat' (first | exact True.intro | exact rfl | refine And.intro ?_ ?_ | (refine eqVB ?_; assumption))) (by repeat' (first | exact True.intro | exact rfl | refine And.intro ?_ ?_ | (refine eqVB ?_; assumption))) rfl) ⟨Nat.zero_le _, rfl, rfl⟩ ?_
        rintro ⟨i, ss'⟩ ⟨hi, hlen, hpre⟩
        dsimp only at hi hlen hpre
        repeat' (first
            | exact True.intro
            | exact rfl
            | refine And.intro rfl ?_
            | refine awc_seq ?_
            | refine awc_region ?_
            | refine awc_draw ?_
            | refine awt_a rfl rfl rfl ?_ ?_
            | refine awt_b rfl rfl rfl rfl ?_ ?_
            | refine awt_c rfl rfl rfl ?_ ?_
            | refine awt_gt rfl rfl ?_
            | refine awt_gf rfl rfl rfl ?_
            | (refine awt_h rfl rfl rfl ?_ ?_ <;> intro hb)
            | refine awt_nil ?_
            | refine dq (by kernel_rfl) ?_
            | refine thn_n ?_
            | refine thn_r ?_
            | refine thn_e ?_
            | refine awc_condT rfl ?_
            | refine awc_condF rfl ?_
            | (refine awc_cond rfl ?_ ?_ <;> intro hb)
            | refine awc_block ?_
            | refine blk_n ?_
            | refine blk_r ?_
            | refine blk_e ?_
            | refine blk_o rfl ?_
            | refine awc_ret ?_
            | refine awc_skip ?_
            | refine awc_label ?_
            | refine awc_exit ?_
            | refine retq_r ?_
            | refine retq_n ?_
            | exact ResIs.tv rfl
            | exact ResIs.ts rfl
            | exact ResIs.tc rfl
            | exact ResIs.tn rfl rfl
            | exact ResIs.to rfl rfl
            | apply ResIs.tagg rfl
            | exact ResIs.cv rfl trivial
            | exact ResIs.cs rfl trivial
            | exact ResIs.cn rfl trivial rfl
            | exact ResIs.co rfl trivial rfl
            | apply ResIs.cagg rfl trivial
            | exact CoeL.nil
            | apply CoeL.v
            | apply CoeL.sl
            | apply CoeL.clp
            | apply CoeL.emp rfl
            | apply CoeL.own rfl
            | apply ret_one
            | apply ret_two
            | apply ret_three
            | exact rawq_r rfl
            | apply rawq_rc rfl
            | apply ownq_rv rfl rfl)
        all_goals (try simp only [decide_eq_true_eq, decide_eq_false_iff_not, Int.toNat_natCast] at *)
        all_goals (try omega)
        · have hm := h1 _ (getD_mem tW.dflt (l := ps) (i := i) (by omega))
          omega
        · have hm := h1 _ (getD_mem tW.dflt (l := ps) (i := i) (by omega))
          refine ⟨trivial, rfl, rfl, ?_⟩
          show _ * 1 < _
          omega
        · refine ⟨(i + 1, ss'.set (Int.toNat (ps.getD i tW.dflt).1) (ps.getD i tW.dflt).2), Wk.ren [] rfl ⟨rfl, rfl, rfl, ?_, rfl, ?_, trivial⟩ ⟨rfl, rfl, rfl, ?_, trivial⟩ rfl, ⟨by dsimp only; omega, by simp [hlen], ?_⟩, by dsimp only; omega⟩
          · first | exact rfl | (refine eqVB ?_; simp only [decide_eq_true_eq, decide_eq_false_iff_not]; assumption)
          · refine eqVI ?_
            rw [i64w] <;> omega
          · show HB.own tB (ss'.set (_ * 1) _) = HB.own tB _
            rw [Nat.mul_one]
          · rw [hpre, perf_step (by omega) (by omega)]
        all_goals (have hfin : ss' = perf ss (ps.take left.toNat) := by rw [hpre, List.drop_eq_nil_of_le (by simp; omega)]; rfl)
        all_goals subst hfin
        all_goals (have hlt : left.toNat < ps.length := by omega)
        all_goals (have h3 := h1 _ (getD_mem tW.dflt (l := ps) hlt))
        all_goals (have h5 := perf_all (ps.take left.toNat) ss h2 (fun w hw => (h1 w (List.mem_of_mem_take hw)).2.2))
        all_goals (have h6 : ((perf ss (ps.take left.toNat)).getD (Int.toNat (ps.getD left.toNat tW.dflt).1 * tB.size) tB.dflt).length = 128 := h5 _ (getD_mem _ (by show _ * 1 < _; omega)))
        · rw [show List.length (ps.getD left.toNat tW.dflt).2 = 128 from h3.2.2]
          simp [cutOk]
        · show (List.take 64 _).length * 1 ≤ _
          simp; omega
        · omega
        · show _ * 1 < _
          omega
        · rw [h6]; simp [cutOk]
        · refine ⟨?_, by simp⟩
          show ((List.take 64 _).length + (List.drop 64 _).length) * 1 ≤ _
          rw [List.length_take, List.length_drop, h6]
          omega
        · omega
        · refine ⟨trivial, rfl, rfl, ?_⟩
          show _ * 1 < _
          omega
        · refine eqRD ?_
          simp only [dSync, Dk.bad, hbad, cond_false]
          rw [show (decide (left ≥ 0) && decide (left < (ps.length : Int))) = true by simp; omega]
          rw [show ∀ n : Nat, n * tB.size = n from fun n => Nat.mul_one n]
          rfl
    | false =>
      repeat' (first
          | exact True.intro
          | exact rfl
          | refine And.intro rfl ?_
          | refine awc_seq ?_
          | refine awc_region ?_
          | refine awc_draw ?_
          | refine awt_a rfl rfl rfl ?_ ?_
          | refine awt_call0 rfl (hc23) rfl rfl rfl rfl rfl ?_
          | refine awt_call1 rfl (hc23) rfl rfl rfl rfl rfl ?_
          | refine awt_call2 rfl (hc23) rfl rfl rfl rfl rfl ?_
          | refine awt_b rfl rfl rfl rfl ?_ ?_
          | refine awt_c rfl rfl rfl ?_ ?_
          | refine awt_gt rfl rfl ?_
          | refine awt_gf rfl rfl rfl ?_
          | (refine awt_h rfl rfl rfl ?_ ?_ <;> intro hb)
          | refine awt_nil ?_
          | refine dq (by kernel_rfl) ?_
          | refine thn_n ?_
          | refine thn_r ?_
          | refine thn_e ?_
          | refine awc_condT rfl ?_
          | refine awc_condF rfl ?_
          | (refine awc_cond rfl ?_ ?_ <;> intro hb)
          | refine awc_block ?_
          | refine blk_n ?_
          | refine blk_r ?_
          | refine blk_e ?_
          | refine blk_o rfl ?_
          | refine awc_ret ?_
          | refine awc_skip ?_
          | refine awc_label ?_
          | refine awc_exit ?_
          | refine retq_r ?_
          | refine retq_n ?_
          | exact ResIs.tv rfl
          | exact ResIs.ts rfl
          | exact ResIs.tc rfl
          | exact ResIs.tn rfl rfl
          | exact ResIs.to rfl rfl
          | apply ResIs.tagg rfl
          | exact ResIs.cv rfl trivial
          | exact ResIs.cs rfl trivial
          | exact ResIs.cn rfl trivial rfl
          | exact ResIs.co rfl trivial rfl
          | apply ResIs.cagg rfl trivial
          | exact CoeL.nil
          | apply CoeL.v
          | apply CoeL.sl
          | apply CoeL.clp
          | apply CoeL.emp rfl
          | apply CoeL.own rfl
          | apply ret_one
          | apply ret_two
          | apply ret_three
          | exact rawq_r rfl
          | apply rawq_rc rfl
          | apply ownq_rv rfl rfl)
      all_goals (try (exfalso; simp only [Bool.and_eq_false_iff, decide_eq_false_iff_not, decide_eq_true_eq, Bool.not_true] at *; omega))
      · exact hb1
      · refine awc_loop (α := Nat × List (List UInt8)) (fun i => ⟨95, [(1, o1 (.ptr 1 0)), (2, o1 (.ptr 2 0)), (4, o1 (vI ps.length)), (5, o1 (vB false)), (6, o1 (.ptr 6 0)), (7, o1 (vI i.1))], [(1, .box [.sl tB ss, .sl tW ps, vI left, vB false]), (2, .box [.emp, .emp, vI 0, vB false]), (6, .box [.own 35, .emp, vI left, vB false]), (35, .own tB i.2)]⟩) (fun i => i.1 ≤ ps.length ∧ i.2.length = ss.length ∧ perf ss (ps.take ps.length) = perf i.2 ((ps.take ps.length).drop i.1)) (fun i => ps.length - i.1) (0, ss) (Wk.ren [] rfl (by repeat' (first | exact True.intro | exact rfl | refine And.intro ?_ ?_ | (refine eqVB ?_; assumption))) (by repeat' (first | exact True.intro | exact rfl | refine And.intro ?_ ?_ | (refine eqVB ?_; assumption))) rfl) ⟨Nat.zero_le _, rfl, rfl⟩ ?_
        rintro ⟨i, ss'⟩ ⟨hi, hlen, hpre⟩
        dsimp only at hi hlen hpre
        repeat' (first
            | exact True.intro
            | exact rfl
            | refine And.intro rfl ?_
            | refine awc_seq ?_
            | refine awc_region ?_
            | refine awc_draw ?_
            | refine awt_a rfl rfl rfl ?_ ?_
            | refine awt_b rfl rfl rfl rfl ?_ ?_
            | refine awt_c rfl rfl rfl ?_ ?_
            | refine awt_gt rfl rfl ?_
            | refine awt_gf rfl rfl rfl ?_
            | (refine awt_h rfl rfl rfl ?_ ?_ <;> intro hb)
            | refine awt_nil ?_
            | refine dq (by kernel_rfl) ?_
            | refine thn_n ?_
            | refine thn_r ?_
            | refine thn_e ?_
            | refine awc_condT rfl ?_
            | refine awc_condF rfl ?_
            | (refine awc_cond rfl ?_ ?_ <;> intro hb)
            | refine awc_block ?_
            | refine blk_n ?_
            | refine blk_r ?_
            | refine blk_e ?_
            | refine blk_o rfl ?_
            | refine awc_ret ?_
            | refine awc_skip ?_
            | refine awc_label ?_
            | refine awc_exit ?_
            | refine retq_r ?_
            | refine retq_n ?_
            | exact ResIs.tv rfl
            | exact ResIs.ts rfl
            | exact ResIs.tc rfl
            | exact ResIs.tn rfl rfl
            | exact ResIs.to rfl rfl
            | apply ResIs.tagg rfl
            | exact ResIs.cv rfl trivial
            | exact ResIs.cs rfl trivial
            | exact ResIs.cn rfl trivial rfl
            | exact ResIs.co rfl trivial rfl
            | apply ResIs.cagg rfl trivial
            | exact CoeL.nil
            | apply CoeL.v
            | apply CoeL.sl
            | apply CoeL.clp
            | apply CoeL.emp rfl
            | apply CoeL.own rfl
            | apply ret_one
            | apply ret_two
            | apply ret_three
            | exact rawq_r rfl
            | apply rawq_rc rfl
            | apply ownq_rv rfl rfl)
        all_goals (try simp only [decide_eq_true_eq, decide_eq_false_iff_not, Int.toNat_natCast] at *)
        all_goals (try omega)
        · have hm := h1 _ (getD_mem tW.dflt (l := ps) (i := i) (by omega))
          omega
        · have hm := h1 _ (getD_mem tW.dflt (l := ps) (i := i) (by omega))
          refine ⟨trivial, rfl, rfl, ?_⟩
          show _ * 1 < _
          omega
        · refine ⟨(i + 1, ss'.set (Int.toNat (ps.getD i tW.dflt).1) (ps.getD i tW.dflt).2), Wk.ren [] rfl ⟨rfl, rfl, rfl, ?_, rfl, ?_, trivial⟩ ⟨rfl, rfl, rfl, ?_, trivial⟩ rfl, ⟨by dsimp only; omega, by simp [hlen], ?_⟩, by dsimp only; omega⟩
          · first | exact rfl | (refine eqVB ?_; simp only [decide_eq_true_eq, decide_eq_false_iff_not]; assumption)
          · refine eqVI ?_
            rw [i64w] <;> omega
          · show HB.own tB (ss'.set (_ * 1) _) = HB.own tB _
            rw [Nat.mul_one]
          · rw [hpre, perf_step (by omega) (by omega)]
        · refine eqRD ?_
          have hfin : ss' = perf ss ps := by
            rw [List.take_length] at hpre
            rw [hpre, List.drop_eq_nil_of_le (by omega)]; rfl
          rw [i64w (by omega) (by omega), hfin]
          simp only [dSync, Dk.bad, hbad, cond_false]
          rw [show (decide (left ≥ 0) && decide (left < (ps.length : Int))) = false by simp; omega, show decide (left ≥ 0) = true by simp; omega]
          rfl
      · exact hb1
      · refine awc_loop (α := Nat × List (List UInt8)) (fun i => ⟨95, [(1, o1 (.ptr 1 0)), (2, o1 (.ptr 2 0)), (4, o1 (vI ps.length)), (5, o1 (vB false)), (6, o1 (.ptr 6 0)), (7, o1 (vI i.1))], [(1, .box [.sl tB ss, .sl tW ps, vI left, vB false]), (2, .box [.emp, .emp, vI 0, vB false]), (6, .box [.own 35, .emp, vI left, vB false]), (35, .own tB i.2)]⟩) (fun i => i.1 ≤ ps.length ∧ i.2.length = ss.length ∧ perf ss (ps.take ps.length) = perf i.2 ((ps.take ps.length).drop i.1)) (fun i => ps.length - i.1) (0, ss) (Wk.ren [] rfl (by repeat' (first | exact True.intro | exact rfl | refine And.intro ?_ ?_ | (refine eqVB ?_; assumption))) (by repeat' (first | exact True.intro | exact rfl | refine And.intro ?_ ?_ | (refine eqVB ?_; assumption))) rfl) ⟨Nat.zero_le _, rfl, rfl⟩ ?_
        rintro ⟨i, ss'⟩ ⟨hi, hlen, hpre⟩
        dsimp only at hi hlen hpre
        repeat' (first
            | exact True.intro
            | exact rfl
            | refine And.intro rfl ?_
            | refine awc_seq ?_
            | refine awc_region ?_
            | refine awc_draw ?_
            | refine awt_a rfl rfl rfl ?_ ?_
            | refine awt_b rfl rfl rfl rfl ?_ ?_
            | refine awt_c rfl rfl rfl ?_ ?_
            | refine awt_gt rfl rfl ?_
            | refine awt_gf rfl rfl rfl ?_
            | (refine awt_h rfl rfl rfl ?_ ?_ <;> intro hb)
            | refine awt_nil ?_
            | refine dq (by kernel_rfl) ?_
            | refine thn_n ?_
            | refine thn_r ?_
            | refine thn_e ?_
            | refine awc_condT rfl ?_
            | refine awc_condF rfl ?_
            | (refine awc_cond rfl ?_ ?_ <;> intro hb)
            | refine awc_block ?_
            | refine blk_n ?_
            | refine blk_r ?_
            | refine blk_e ?_
            | refine blk_o rfl ?_
            | refine awc_ret ?_
            | refine awc_skip ?_
            | refine awc_label ?_
            | refine awc_exit ?_
            | refine retq_r ?_
            | refine retq_n ?_
            | exact ResIs.tv rfl
            | exact ResIs.ts rfl
            | exact ResIs.tc rfl
            | exact ResIs.tn rfl rfl
            | exact ResIs.to rfl rfl
            | apply ResIs.tagg rfl
            | exact ResIs.cv rfl trivial
            | exact ResIs.cs rfl trivial
            | exact ResIs.cn rfl trivial rfl
            | exact ResIs.co rfl trivial rfl
            | apply ResIs.cagg rfl trivial
            | exact CoeL.nil
            | apply CoeL.v
            | apply CoeL.sl
            | apply CoeL.clp
            | apply CoeL.emp rfl
            | apply CoeL.own rfl
            | apply ret_one
            | apply ret_two
            | apply ret_three
            | exact rawq_r rfl
            | apply rawq_rc rfl
            | apply ownq_rv rfl rfl)
        all_goals (try simp only [decide_eq_true_eq, decide_eq_false_iff_not, Bool.not_true, Int.toNat_natCast] at *)
        all_goals (try omega)
        · have hm := h1 _ (getD_mem tW.dflt (l := ps) (i := i) (by omega))
          omega
        · have hm := h1 _ (getD_mem tW.dflt (l := ps) (i := i) (by omega))
          refine ⟨trivial, rfl, rfl, ?_⟩
          show _ * 1 < _
          omega
        · refine ⟨(i + 1, ss'.set (Int.toNat (ps.getD i tW.dflt).1) (ps.getD i tW.dflt).2), Wk.ren [] rfl ⟨rfl, rfl, rfl, ?_, rfl, ?_, trivial⟩ ⟨rfl, rfl, rfl, ?_, trivial⟩ rfl, ⟨by dsimp only; omega, by simp [hlen], ?_⟩, by dsimp only; omega⟩
          · first | exact rfl | (refine eqVB ?_; simp only [decide_eq_true_eq, decide_eq_false_iff_not]; assumption)
          · refine eqVI ?_
            rw [i64w] <;> omega
          · show HB.own tB (ss'.set (_ * 1) _) = HB.own tB _
            rw [Nat.mul_one]
          · rw [hpre, perf_step (by omega) (by omega)]
        · refine eqRD ?_
          have hfin : ss' = perf ss ps := by
            rw [List.take_length] at hpre
            rw [hpre, List.drop_eq_nil_of_le (by omega)]; rfl
          rw [hfin]
          simp only [dSync, Dk.bad, hbad, cond_false]
          rw [show (decide (left ≥ 0) && decide (left < (ps.length : Int))) = false by simp; omega, show decide (left ≥ 0) = false by simp; omega]
          rfl
end B
end Go.Proofs.Ytbmnhagbplkagaa

/- Contracts of the disk: reading. -/
namespace Go.Proofs.Ytbmnhagbplkagaa
namespace B
open Go.RowKit
set_option maxHeartbeats 4000000
set_option maxRecDepth 100000
attribute [local irreducible] awc awT thn blk DQ retQ rawQ ownQ retOk ResIs awg thnG blkG retG itQ rndQ

theorem c61 (ps : List (Int × List UInt8)) : ACalls 61 [aWW ps] (o1 (.clo 80 (.slice tW) ps)) := by
  refine acalls_raw (n := 4) (t := 2) Try.func61 rfl rfl rfl rfl rfl ?_
  repeat' (first
      | (refine awc_at (id := 1) (freezeL 1 1 (.slice tW) ps [.sl tW ps] rfl rfl rfl trivial) ?_)
      | exact True.intro
      | exact rfl
      | refine And.intro rfl ?_
      | refine awc_seq ?_
      | refine awc_region ?_
      | refine awc_draw ?_
      | refine awt_a rfl rfl rfl ?_ ?_
      | refine awt_b rfl rfl rfl rfl ?_ ?_
      | refine awt_c rfl rfl rfl ?_ ?_
      | refine awt_gt rfl rfl ?_
      | refine awt_gf rfl rfl rfl ?_
      | (refine awt_h rfl rfl rfl ?_ ?_ <;> intro hb)
      | refine awt_nil ?_
      | refine dq (by kernel_rfl) ?_
      | refine thn_n ?_
      | refine thn_r ?_
      | refine thn_e ?_
      | refine awc_condT rfl ?_
      | refine awc_condF rfl ?_
      | (refine awc_cond rfl ?_ ?_ <;> intro hb)
      | refine awc_block ?_
      | refine blk_n ?_
      | refine blk_r ?_
      | refine blk_e ?_
      | refine blk_o rfl ?_
      | refine awc_ret ?_
      | refine awc_skip ?_
      | refine awc_label ?_
      | refine awc_exit ?_
      | refine retq_r ?_
      | refine retq_n ?_
      | exact ResIs.tv rfl
      | exact ResIs.ts rfl
      | exact ResIs.tc rfl
      | exact ResIs.tn rfl rfl
      | exact ResIs.to rfl rfl
      | apply ResIs.tagg rfl
      | exact ResIs.cv rfl trivial
      | exact ResIs.cs rfl trivial
      | exact ResIs.cn rfl trivial rfl
      | exact ResIs.co rfl trivial rfl
      | apply ResIs.cagg rfl trivial
      | exact CoeL.nil
      | apply CoeL.v
      | apply CoeL.sl
      | apply CoeL.clp
      | apply CoeL.emp rfl
      | apply CoeL.own rfl
      | apply ret_one
      | apply ret_two
      | apply ret_three
      | exact rawq_r rfl
      | apply rawq_rc rfl
      | apply ownq_rv rfl rfl)
def bItem (ps : List (Int × List UInt8)) (k : Nat) : List AV := [o1 (vI ((ps.length : Int) - 1 - k)), aW (ps.getD (Int.toNat ((ps.length : Int) - 1 - k)) tW.dflt)]
def bItems (ps : List (Int × List UInt8)) : List (List AV) := (List.range ps.length).map (bItem ps)
theorem bItems_get {ps : List (Int × List UInt8)} {k : Nat} (h : k < ps.length) : (bItems ps)[k]? = some (bItem ps k) := by
  simp [bItems, h]
theorem bItems_len (ps : List (Int × List UInt8)) : (bItems ps).length = ps.length := by simp [bItems]
theorem c80 (ps : List (Int × List UInt8)) : ISpec 80 (.slice tW) ps (bItems ps) := by
  refine ispec (n := 19) Try.func80 rfl rfl rfl rfl ?_
  intro l p J Jx hR hY
  refine awg_bd 1 _ rfl ?_
  intro hbd
  have hb1 : List.length ps * 32 ≤ 140737488355328 := hbd.1
  rw [bItems_len]
  repeat' (first
      | exact True.intro
      | exact rfl
      | refine And.intro rfl ?_
      | refine awg_seq ?_
      | refine awg_region rfl ?_
      | refine awg_draw rfl (fun _ => rfl) (fun _ => rfl) ?_
      | refine awt_a rfl rfl rfl ?_ ?_
      | refine awt_b rfl rfl rfl rfl ?_ ?_
      | refine awt_c rfl rfl rfl ?_ ?_
      | refine awt_gt rfl rfl ?_
      | refine awt_gf rfl rfl rfl ?_
      | (refine awt_h rfl rfl rfl ?_ ?_ <;> intro hb)
      | refine awt_nil ?_
      | refine dq (by kernel_rfl) ?_
      | refine thnG_n ?_
      | refine thnG_r ?_
      | refine thnG_e ?_
      | refine awg_condT rfl ?_
      | refine awg_condF rfl ?_
      | (refine awg_cond rfl ?_ ?_ <;> intro hb)
      | refine awg_block ?_
      | refine blkG_n ?_
      | refine blkG_r ?_
      | refine blkG_e ?_
      | refine blkG_o rfl ?_
      | refine awg_ret ?_
      | refine awg_skip ?_
      | refine awg_label ?_
      | refine awg_exit ?_
      | refine retg_0 ?_
      | refine retg_1 rfl ?_
      | exact ResIs.tv rfl
      | exact ResIs.ts rfl
      | exact ResIs.tc rfl
      | exact ResIs.tn rfl rfl
      | exact ResIs.to rfl rfl
      | apply ResIs.tagg rfl
      | exact ResIs.cv rfl trivial
      | exact ResIs.cs rfl trivial
      | exact ResIs.cn rfl trivial rfl
      | exact ResIs.co rfl trivial rfl
      | apply ResIs.cagg rfl trivial
      | exact CoeL.nil
      | apply CoeL.v
      | apply CoeL.sl
      | apply CoeL.clp
      | apply CoeL.emp rfl
      | apply CoeL.own rfl
      | apply ret_one
      | apply ret_two
      | apply ret_three
      | exact rawq_r rfl
      | apply rawq_rc rfl
      | apply ownq_rv rfl rfl)
  refine awg_loop (α := Nat) (fun k => ⟨19, [(0, o1 (.v (.func (.yield l) #[] #[]))), (1, o1 (.elv p (.slice tW) ps)), (3, o1 (vI ((ps.length : Int) - 1 - k)))], []⟩) id (fun k => k ≤ ps.length) (fun k => ps.length - k) 0 (Wk.ren [] rfl ⟨rfl, rfl, ?_, trivial⟩ trivial rfl) rfl (Nat.zero_le _) ?_
  · refine eqVI ?_
    rw [i64w] <;> omega
  rintro k hk
  repeat' (first
      | (refine awg_yield (l1 := [_, _, _, _, _, _]) (bItems_len ps) hR hY [(0, o1 (.v (.func (.yield l) #[] #[]))), (3, o1 (vI ((ps.length : Int) - 1 - k)))] (bItems_get ?_) ?_)
      | (refine ⟨rfl, rfl, rfl, rfl, ⟨rfl, rfl, rfl, rfl, trivial⟩, rfl, rfl, ?_, ?_⟩)
      | exact True.intro
      | exact rfl
      | refine And.intro rfl ?_
      | refine awg_seq ?_
      | refine awg_region rfl ?_
      | refine awg_draw rfl (fun _ => rfl) (fun _ => rfl) ?_
      | refine awt_a rfl rfl rfl ?_ ?_
      | refine awt_b rfl rfl rfl rfl ?_ ?_
      | refine awt_c rfl rfl rfl ?_ ?_
      | refine awt_gt rfl rfl ?_
      | refine awt_gf rfl rfl rfl ?_
      | (refine awt_h rfl rfl rfl ?_ ?_ <;> intro hb)
      | refine awt_nil ?_
      | refine dq (by kernel_rfl) ?_
      | refine thnG_n ?_
      | refine thnG_r ?_
      | refine thnG_e ?_
      | refine awg_condT rfl ?_
      | refine awg_condF rfl ?_
      | (refine awg_cond rfl ?_ ?_ <;> intro hb)
      | refine awg_block ?_
      | refine blkG_n ?_
      | refine blkG_r ?_
      | refine blkG_e ?_
      | refine blkG_o rfl ?_
      | refine awg_ret ?_
      | refine awg_skip ?_
      | refine awg_label ?_
      | refine awg_exit ?_
      | refine retg_0 ?_
      | refine retg_1 rfl ?_
      | exact ResIs.tv rfl
      | exact ResIs.ts rfl
      | exact ResIs.tc rfl
      | exact ResIs.tn rfl rfl
      | exact ResIs.to rfl rfl
      | apply ResIs.tagg rfl
      | exact ResIs.cv rfl trivial
      | exact ResIs.cs rfl trivial
      | exact ResIs.cn rfl trivial rfl
      | exact ResIs.co rfl trivial rfl
      | apply ResIs.cagg rfl trivial
      | exact CoeL.nil
      | apply CoeL.v
      | apply CoeL.sl
      | apply CoeL.clp
      | apply CoeL.emp rfl
      | apply CoeL.own rfl
      | apply ret_one
      | apply ret_two
      | apply ret_three
      | exact rawq_r rfl
      | apply rawq_rc rfl
      | apply ownq_rv rfl rfl)
  all_goals (try simp only [decide_eq_true_eq, decide_eq_false_iff_not, Bool.not_true, Bool.not_false] at *)
  all_goals (try omega)
  · show k < _
    omega
  · refine ⟨k + 1, Wk.ren [] rfl ⟨rfl, rfl, ?_, trivial⟩ trivial rfl, rfl, by omega, by omega⟩
    refine eqVI ?_
    rw [i64w] <;> omega
  · exact itq_s
  · refine itq_n ?_
    show k = _
    omega

def lastAt : List (Int × List UInt8) → Int → List UInt8 → List UInt8
  | [], _, b => b
  | w :: l, a, b => lastAt l a (bif w.1 == a then w.2 else b)
theorem lastAt_none {a : Int} : ∀ (l : List (Int × List UInt8)) (b : List UInt8), (∀ w ∈ l, w.1 ≠ a) → lastAt l a b = b
  | [], _, _ => rfl
  | w :: l, b, h => by
    rw [lastAt, lastAt_none l _ (fun w hw => h w (by simp [hw]))]
    rw [show (w.1 == a) = false by simpa using h w (by simp)]
    rfl
theorem lastAt_hit {a : Int} : ∀ (l : List (Int × List UInt8)) (b : List UInt8) (i : Nat), i < l.length → (l.getD i tW.dflt).1 = a → (∀ k, i < k → k < l.length → (l.getD k tW.dflt).1 ≠ a) → lastAt l a b = (l.getD i tW.dflt).2
  | [], _, i, h, _, _ => by simp at h
  | w :: l, b, 0, h, h1, h2 => by
    rw [lastAt, lastAt_none l]
    · have h1' : w.1 = a := h1
      rw [show (w.1 == a) = true by simpa using h1']
      rfl
    · intro w' hw'
      obtain ⟨k, hk, rfl⟩ := List.mem_iff_getElem.1 hw'
      have := h2 (k + 1) (by omega) (by simpa using hk)
      rw [List.getD_cons_succ, List.getD_eq_getElem?_getD, List.getElem?_eq_getElem hk] at this
      exact this
  | w :: l, b, i + 1, h, h1, h2 => by
    rw [lastAt]
    exact lastAt_hit l _ i (by simpa using h) h1 (fun k hk hl => h2 (k + 1) (by omega) (by simpa using hl))

/-- A sector as it was written last. -/
def dRead (d : Dk) (at' : Int) : List UInt8 × Int := bif d.bad || !d.has at' then ([], 40) else (lastAt d.ps at' (d.ss.getD at'.toNat []), 0)
abbrev aRB (x : List UInt8 × Int) : AV := .tup [.one (.sl .u8 x.1), .one (vI x.2)]
theorem eqRB {b : List UInt8} {e : Int} {x : List UInt8 × Int} (h : x = (b, e)) : AV.tup [.one (.sl .u8 b), .one (vI e)] = aRB x := by
  rw [h]

theorem c28 (ss : List (List UInt8)) (ps : List (Int × List UInt8)) (left : Int) (st : Bool) (at' : Int) : ACalls 28 [aD ss ps left st, o1 (vI at')] (aRB (dRead ⟨ss, ps, left, st⟩ at')) := by
  refine acallsG (n := 33) (rs := [.cell 4 35, .cell 5 28]) (Ts := [35, 28]) Try.func28 rfl rfl rfl rfl rfl rfl ?_
  intro ok w
  refine awg_bd 0 _ rfl ?_
  intro hbd
  have hb1 : List.length ss * 24 ≤ 140737488355328 := hbd.1.1
  have hb2 : List.length ps * 32 ≤ 140737488355328 := hbd.2.1.1
  repeat' (first
      | exact True.intro
      | exact rfl
      | refine And.intro rfl ?_
      | refine awg_seq ?_
      | refine awg_region rfl ?_
      | refine awg_draw rfl (fun _ => rfl) (fun _ => rfl) ?_
      | refine awt_a rfl rfl rfl ?_ ?_
      | refine awt_call0 rfl (c57 _ _ _ _) rfl rfl rfl rfl rfl ?_
      | refine awt_call1 rfl (c57 _ _ _ _) rfl rfl rfl rfl rfl ?_
      | refine awt_call2 rfl (c57 _ _ _ _) rfl rfl rfl rfl rfl ?_
      | refine awt_call0 rfl (c58 _ _ _ _ _) rfl rfl rfl rfl rfl ?_
      | refine awt_call1 rfl (c58 _ _ _ _ _) rfl rfl rfl rfl rfl ?_
      | refine awt_call2 rfl (c58 _ _ _ _ _) rfl rfl rfl rfl rfl ?_
      | refine awt_call0 rfl (c61 _) rfl rfl rfl rfl rfl ?_
      | refine awt_call1 rfl (c61 _) rfl rfl rfl rfl rfl ?_
      | refine awt_call2 rfl (c61 _) rfl rfl rfl rfl rfl ?_
      | refine awt_b rfl rfl rfl rfl ?_ ?_
      | refine awt_c rfl rfl rfl ?_ ?_
      | refine awt_gt rfl rfl ?_
      | refine awt_gf rfl rfl rfl ?_
      | (refine awt_h rfl rfl rfl ?_ ?_ <;> intro hb)
      | refine awt_nil ?_
      | refine dq (by kernel_rfl) ?_
      | refine thnG_n ?_
      | refine thnG_r ?_
      | refine thnG_e ?_
      | refine awg_condT rfl ?_
      | refine awg_condF rfl ?_
      | (refine awg_cond rfl ?_ ?_ <;> intro hb)
      | refine awg_block ?_
      | refine blkG_n ?_
      | refine blkG_r ?_
      | refine blkG_e ?_
      | refine blkG_o rfl ?_
      | refine awg_ret ?_
      | refine awg_skip ?_
      | refine awg_label ?_
      | refine awg_exit ?_
      | refine retg_0 ?_
      | refine retg_1 rfl ?_
      | exact ResIs.tv rfl
      | exact ResIs.ts rfl
      | exact ResIs.tc rfl
      | exact ResIs.tn rfl rfl
      | exact ResIs.to rfl rfl
      | apply ResIs.tagg rfl
      | exact ResIs.cv rfl trivial
      | exact ResIs.cs rfl trivial
      | exact ResIs.cn rfl trivial rfl
      | exact ResIs.co rfl trivial rfl
      | apply ResIs.cagg rfl trivial
      | exact CoeL.nil
      | apply CoeL.v
      | apply CoeL.sl
      | apply CoeL.clp
      | apply CoeL.emp rfl
      | apply CoeL.own rfl
      | apply ret_one
      | apply ret_two
      | apply ret_three
      | exact rawq_r rfl
      | apply rawq_rc rfl
      | apply ownq_rv rfl rfl)
  · refine eqRB ?_
    simp only [Bool.not_not] at *
    simp only [dRead, Dk.bad, Dk.has, *, Bool.not_true, Bool.not_false, Bool.or_true, cond_true]
  · simp only [Bool.not_not] at *
    rename_i hbad
    have hat : 0 ≤ at' ∧ at' < ss.length := by
      simp only [Bool.or_eq_false_iff, decide_eq_false_iff_not] at hb
      omega
    have hres : ∀ x, lastAt ps at' (ss.getD at'.toNat []) = x → dRead ⟨ss, ps, left, st⟩ at' = (x, 0) := by
      intro x hx
      simp only [dRead, Dk.bad, Dk.has, hbad, hb, Bool.not_false, Bool.not_true, Bool.or_self, cond_false, hx]
    refine awg_range (f := 80) (ty := .slice tW) (x := ps) (ps := [20, 21]) (n := 33) (bItems ps) (fun _ => [(2, .box [.sl tB ss, .sl tW ps, vI left, vB st]), (3, .box [vI at']), (4, .box [.emp]), (5, .box [vI 0])])
      (fun j => ∀ k, ps.length ≤ k + j → k < ps.length → (ps.getD k tW.dflt).1 ≠ at')
      [(2, o1 (.ptr 2 0)), (3, o1 (.ptr 3 0)), (4, o1 (.ptr 4 0)), (5, o1 (.ptr 5 0)), (19, o1 (.clo 80 (.slice tW) ps))] (fun t => Nat.ble t 5 || Nat.beq t 19)
      (fun k h1 h2 => by omega) (Wk.ren [] rfl ⟨rfl, rfl, rfl, rfl, rfl, trivial⟩ ⟨rfl, rfl, rfl, rfl, trivial⟩ rfl) rfl rfl (c80 ps) rfl ?_ rfl rfl ⟨rfl, rfl⟩ ?_ ?_
    · intro its hits
      simp only [bItems, List.mem_map] at hits
      obtain ⟨k, _, rfl⟩ := hits
      exact ⟨rfl, rfl⟩
    · intro l D j its oR oB ac hits hF
      have hj : j < ps.length := by
        have := (List.getElem?_eq_some_iff.1 hits).1
        rwa [bItems_len] at this
      rw [bItems_get hj] at hits
      cases hits
      repeat' (first
          | (refine rnd_n (Wk.ren [] rfl ⟨rfl, rfl, rfl, rfl, rfl, trivial⟩ ⟨rfl, rfl, rfl, rfl, rfl, rfl, trivial⟩ rfl) ?_)
          | (refine rnd_r [(2, .box [.sl tB ss, .sl tW ps, vI left, vB st]), (3, .box [vI at']), (4, .box [.sl .u8 _]), (5, .box [vI 0])] (Wk.ren [] rfl ⟨rfl, rfl, rfl, rfl, rfl, trivial⟩ ⟨rfl, rfl, rfl, rfl, rfl, rfl, trivial⟩ rfl) ?_)
          | (refine retg_1 rfl ?_)
          | exact True.intro
          | exact rfl
          | refine And.intro rfl ?_
          | refine awg_seq ?_
          | refine awg_region rfl ?_
          | refine awg_draw rfl (fun _ => rfl) (fun _ => rfl) ?_
          | refine awt_a rfl rfl rfl ?_ ?_
          | refine awt_b rfl rfl rfl rfl ?_ ?_
          | refine awt_c rfl rfl rfl ?_ ?_
          | refine awt_gt rfl rfl ?_
          | refine awt_gf rfl rfl rfl ?_
          | (refine awt_h rfl rfl rfl ?_ ?_ <;> intro hb)
          | refine awt_nil ?_
          | refine dq (by kernel_rfl) ?_
          | refine thnG_n ?_
          | refine thnG_r ?_
          | refine thnG_e ?_
          | refine awg_condT rfl ?_
          | refine awg_condF rfl ?_
          | (refine awg_cond rfl ?_ ?_ <;> intro hb)
          | refine awg_block ?_
          | refine blkG_n ?_
          | refine blkG_r ?_
          | refine blkG_e ?_
          | refine blkG_o rfl ?_
          | refine awg_ret ?_
          | refine awg_skip ?_
          | refine awg_label ?_
          | refine awg_exit ?_
          | refine retg_0 ?_
          | refine retg_1 rfl ?_
          | exact ResIs.tv rfl
          | exact ResIs.ts rfl
          | exact ResIs.tc rfl
          | exact ResIs.tn rfl rfl
          | exact ResIs.to rfl rfl
          | apply ResIs.tagg rfl
          | exact ResIs.cv rfl trivial
          | exact ResIs.cs rfl trivial
          | exact ResIs.cn rfl trivial rfl
          | exact ResIs.co rfl trivial rfl
          | apply ResIs.cagg rfl trivial
          | exact CoeL.nil
          | apply CoeL.v
          | apply CoeL.sl
          | apply CoeL.clp
          | apply CoeL.emp rfl
          | apply CoeL.own rfl
          | apply ret_one
          | apply ret_two
          | apply ret_three
          | exact rawq_r rfl
          | apply rawq_rc rfl
          | apply ownq_rv rfl rfl)
      · refine eqRB (hres _ (lastAt_hit ps _ _ (by omega) (by simpa using hb) (fun k h1 h2 => hF k (by omega) h2)))
      · intro k h1 h2
        by_cases q : k = ((ps.length : Int) - 1 - j).toNat
        · subst q
          simpa using hb
        · exact hF k (by omega) h2
    · intro D hF
      repeat' (first
          | (refine retg_1 rfl ?_)
          | exact True.intro
          | exact rfl
          | refine And.intro rfl ?_
          | refine awg_seq ?_
          | refine awg_region rfl ?_
          | refine awg_draw rfl (fun _ => rfl) (fun _ => rfl) ?_
          | refine awt_a rfl rfl rfl ?_ ?_
          | refine awt_b rfl rfl rfl rfl ?_ ?_
          | refine awt_c rfl rfl rfl ?_ ?_
          | refine awt_gt rfl rfl ?_
          | refine awt_gf rfl rfl rfl ?_
          | (refine awt_h rfl rfl rfl ?_ ?_ <;> intro hb)
          | refine awt_nil ?_
          | refine dq (by kernel_rfl) ?_
          | refine thnG_n ?_
          | refine thnG_r ?_
          | refine thnG_e ?_
          | refine awg_condT rfl ?_
          | refine awg_condF rfl ?_
          | (refine awg_cond rfl ?_ ?_ <;> intro hb)
          | refine awg_block ?_
          | refine blkG_n ?_
          | refine blkG_r ?_
          | refine blkG_e ?_
          | refine blkG_o rfl ?_
          | refine awg_ret ?_
          | refine awg_skip ?_
          | refine awg_label ?_
          | refine awg_exit ?_
          | refine retg_0 ?_
          | refine retg_1 rfl ?_
          | exact ResIs.tv rfl
          | exact ResIs.ts rfl
          | exact ResIs.tc rfl
          | exact ResIs.tn rfl rfl
          | exact ResIs.to rfl rfl
          | apply ResIs.tagg rfl
          | exact ResIs.cv rfl trivial
          | exact ResIs.cs rfl trivial
          | exact ResIs.cn rfl trivial rfl
          | exact ResIs.co rfl trivial rfl
          | apply ResIs.cagg rfl trivial
          | exact CoeL.nil
          | apply CoeL.v
          | apply CoeL.sl
          | apply CoeL.clp
          | apply CoeL.emp rfl
          | apply CoeL.own rfl
          | apply ret_one
          | apply ret_two
          | apply ret_three
          | exact rawq_r rfl
          | apply rawq_rc rfl
          | apply ownq_rv rfl rfl)
      · exact hat
      · refine eqRB (hres _ (lastAt_none ps _ (fun w hw => ?_)))
        obtain ⟨k, hk, rfl⟩ := List.mem_iff_getElem.1 hw
        have := hF k (by rw [bItems_len]; omega) hk
        rw [List.getD_eq_getElem?_getD, List.getElem?_eq_getElem hk] at this
        exact this
  · refine eqRB ?_
    simp only [Bool.not_not, Bool.not_false] at hb
    simp only [dRead, Dk.bad, hb, Bool.true_or, cond_true]

theorem c29 (ss : List (List UInt8)) (ps : List (Int × List UInt8)) (left : Int) (st : Bool) (at' : Int) : ACalls 29 [aD ss ps left st, o1 (vI at')] (aRB (dRead ⟨ss, ps, left, st⟩ at')) := by
  refine acalls (n := 53) (rs := [.tmp 4, .tmp 5]) (Ts := [35, 28]) Try.func29 rfl rfl rfl rfl rfl rfl ?_
  refine awc_bd 0 _ rfl ?_
  intro hbd
  have hb1 : List.length ss * 24 ≤ 140737488355328 := hbd.1.1
  have hb2 : List.length ps * 32 ≤ 140737488355328 := hbd.2.1.1
  have hck := dChk_ne ss ps left
  have hc23 := c23 ss ps left st
  cases hbad : (dBad ss ps left || st) || (decide (at' < 0) || decide (at' ≥ (ss.length : Int))) with
  | true =>
    repeat' (first
        | exact True.intro
        | exact rfl
        | refine And.intro rfl ?_
        | refine awc_seq ?_
        | refine awc_region ?_
        | refine awc_draw ?_
        | refine awt_a rfl rfl rfl ?_ ?_
        | refine awt_call0 rfl (hc23) rfl rfl rfl rfl rfl ?_
        | refine awt_call1 rfl (hc23) rfl rfl rfl rfl rfl ?_
        | refine awt_call2 rfl (hc23) rfl rfl rfl rfl rfl ?_
        | refine awt_b rfl rfl rfl rfl ?_ ?_
        | refine awt_c rfl rfl rfl ?_ ?_
        | refine awt_gt rfl rfl ?_
        | refine awt_gf rfl rfl rfl ?_
        | (refine awt_h rfl rfl rfl ?_ ?_ <;> intro hb)
        | refine awt_nil ?_
        | refine dq (by kernel_rfl) ?_
        | refine thn_n ?_
        | refine thn_r ?_
        | refine thn_e ?_
        | refine awc_condT rfl ?_
        | refine awc_condF rfl ?_
        | (refine awc_cond rfl ?_ ?_ <;> intro hb)
        | refine awc_block ?_
        | refine blk_n ?_
        | refine blk_r ?_
        | refine blk_e ?_
        | refine blk_o rfl ?_
        | refine awc_ret ?_
        | refine awc_skip ?_
        | refine awc_label ?_
        | refine awc_exit ?_
        | refine retq_r ?_
        | refine retq_n ?_
        | exact ResIs.tv rfl
        | exact ResIs.ts rfl
        | exact ResIs.tc rfl
        | exact ResIs.tn rfl rfl
        | exact ResIs.to rfl rfl
        | apply ResIs.tagg rfl
        | exact ResIs.cv rfl trivial
        | exact ResIs.cs rfl trivial
        | exact ResIs.cn rfl trivial rfl
        | exact ResIs.co rfl trivial rfl
        | apply ResIs.cagg rfl trivial
        | exact CoeL.nil
        | apply CoeL.v
        | apply CoeL.sl
        | apply CoeL.clp
        | apply CoeL.emp rfl
        | apply CoeL.own rfl
        | apply ret_one
        | apply ret_two
        | apply ret_three
        | exact rawq_r rfl
        | apply rawq_rc rfl
        | apply ownq_rv rfl rfl)
    all_goals (try (exfalso; simp only [hck] at *; simp_all; done))
    all_goals (try (refine eqRB ?_; simp only [dRead, Dk.bad, Dk.has, Bool.not_not, hbad, cond_true]; done))
  | false =>
    have hbad0 := hbad
    simp only [Bool.or_eq_false_iff, decide_eq_false_iff_not] at hbad0
    obtain ⟨⟨hbad1, rfl⟩, hbad2, hbad3⟩ := hbad0
    have h0 : dChk ss ps left = 0 := by simp [dChk, hbad1]
    rw [h0] at hc23
    repeat' (first
        | exact True.intro
        | exact rfl
        | refine And.intro rfl ?_
        | refine awc_seq ?_
        | refine awc_region ?_
        | refine awc_draw ?_
        | refine awt_a rfl rfl rfl ?_ ?_
        | refine awt_call0 rfl (hc23) rfl rfl rfl rfl rfl ?_
        | refine awt_call1 rfl (hc23) rfl rfl rfl rfl rfl ?_
        | refine awt_call2 rfl (hc23) rfl rfl rfl rfl rfl ?_
        | refine awt_b rfl rfl rfl rfl ?_ ?_
        | refine awt_c rfl rfl rfl ?_ ?_
        | refine awt_gt rfl rfl ?_
        | refine awt_gf rfl rfl rfl ?_
        | (refine awt_h rfl rfl rfl ?_ ?_ <;> intro hb)
        | refine awt_nil ?_
        | refine dq (by kernel_rfl) ?_
        | refine thn_n ?_
        | refine thn_r ?_
        | refine thn_e ?_
        | refine awc_condT rfl ?_
        | refine awc_condF rfl ?_
        | (refine awc_cond rfl ?_ ?_ <;> intro hb)
        | refine awc_block ?_
        | refine blk_n ?_
        | refine blk_r ?_
        | refine blk_e ?_
        | refine blk_o rfl ?_
        | refine awc_ret ?_
        | refine awc_skip ?_
        | refine awc_label ?_
        | refine awc_exit ?_
        | refine retq_r ?_
        | refine retq_n ?_
        | exact ResIs.tv rfl
        | exact ResIs.ts rfl
        | exact ResIs.tc rfl
        | exact ResIs.tn rfl rfl
        | exact ResIs.to rfl rfl
        | apply ResIs.tagg rfl
        | exact ResIs.cv rfl trivial
        | exact ResIs.cs rfl trivial
        | exact ResIs.cn rfl trivial rfl
        | exact ResIs.co rfl trivial rfl
        | apply ResIs.cagg rfl trivial
        | exact CoeL.nil
        | apply CoeL.v
        | apply CoeL.sl
        | apply CoeL.clp
        | apply CoeL.emp rfl
        | apply CoeL.own rfl
        | apply ret_one
        | apply ret_two
        | apply ret_three
        | exact rawq_r rfl
        | apply rawq_rc rfl
        | apply ownq_rv rfl rfl)
    all_goals (try (exfalso; simp only [decide_eq_false_iff_not, decide_eq_true_eq, Bool.not_false] at *; omega))
    · omega
    refine awc_loop (α := Nat × List UInt8) (fun i => ⟨53, [(1, o1 (vI at')), (2, o1 (.ptr 2 0)), (6, aB i.2), (7, o1 (vI i.1))], [(2, .box [.sl tB ss, .sl tW ps, vI left, vB false])]⟩) (fun i => i.1 ≤ ps.length ∧ lastAt ps at' (ss.getD at'.toNat []) = lastAt (ps.drop i.1) at' i.2) (fun i => ps.length - i.1) (0, ss.getD at'.toNat []) (Wk.ren [] rfl ⟨rfl, rfl, rfl, rfl, trivial⟩ ⟨rfl, trivial⟩ rfl) ⟨Nat.zero_le _, rfl⟩ ?_
    rintro ⟨i, b⟩ ⟨hi, hpre⟩
    dsimp only at hi hpre
    repeat' (first
        | exact True.intro
        | exact rfl
        | refine And.intro rfl ?_
        | refine awc_seq ?_
        | refine awc_region ?_
        | refine awc_draw ?_
        | refine awt_a rfl rfl rfl ?_ ?_
        | refine awt_b rfl rfl rfl rfl ?_ ?_
        | refine awt_c rfl rfl rfl ?_ ?_
        | refine awt_gt rfl rfl ?_
        | refine awt_gf rfl rfl rfl ?_
        | (refine awt_h rfl rfl rfl ?_ ?_ <;> intro hb)
        | refine awt_nil ?_
        | refine dq (by kernel_rfl) ?_
        | refine thn_n ?_
        | refine thn_r ?_
        | refine thn_e ?_
        | refine awc_condT rfl ?_
        | refine awc_condF rfl ?_
        | (refine awc_cond rfl ?_ ?_ <;> intro hb)
        | refine awc_block ?_
        | refine blk_n ?_
        | refine blk_r ?_
        | refine blk_e ?_
        | refine blk_o rfl ?_
        | refine awc_ret ?_
        | refine awc_skip ?_
        | refine awc_label ?_
        | refine awc_exit ?_
        | refine retq_r ?_
        | refine retq_n ?_
        | exact ResIs.tv rfl
        | exact ResIs.ts rfl
        | exact ResIs.tc rfl
        | exact ResIs.tn rfl rfl
        | exact ResIs.to rfl rfl
        | apply ResIs.tagg rfl
        | exact ResIs.cv rfl trivial
        | exact ResIs.cs rfl trivial
        | exact ResIs.cn rfl trivial rfl
        | exact ResIs.co rfl trivial rfl
        | apply ResIs.cagg rfl trivial
        | exact CoeL.nil
        | apply CoeL.v
        | apply CoeL.sl
        | apply CoeL.clp
        | apply CoeL.emp rfl
        | apply CoeL.own rfl
        | apply ret_one
        | apply ret_two
        | apply ret_three
        | exact rawq_r rfl
        | apply rawq_rc rfl
        | apply ownq_rv rfl rfl)
    all_goals (try simp only [decide_eq_true_eq, decide_eq_false_iff_not, beq_iff_eq, beq_eq_false_iff_ne, ne_eq, Int.toNat_natCast] at *)
    all_goals (try omega)
    · refine ⟨(i + 1, (ps.getD i tW.dflt).2), Wk.ren [] rfl (by repeat' (first | exact True.intro | exact rfl | refine And.intro ?_ ?_ | (refine eqVI ?_; first | assumption | omega | (simp only [IntKind.wrap_i64]; omega) | (simp only [IntKind.wrap_i64]; dsimp only; omega)) | (refine eqVB ?_; assumption))) (by repeat' (first | exact True.intro | exact rfl | refine And.intro ?_ ?_ | (refine eqVI ?_; first | assumption | omega | (simp only [IntKind.wrap_i64]; omega) | (simp only [IntKind.wrap_i64]; dsimp only; omega)) | (refine eqVB ?_; assumption))) rfl, ?_, ?_⟩
      · refine ⟨by dsimp only; omega, ?_⟩
        rw [hpre, drop_step (i := i) tW.dflt (by omega), lastAt]
        rw [show ((ps.getD i tW.dflt).1 == at') = true by simpa using hb]
        rfl
      · dsimp only; omega
    · refine ⟨(i + 1, b), Wk.ren [] rfl (by repeat' (first | exact True.intro | exact rfl | refine And.intro ?_ ?_ | (refine eqVI ?_; first | assumption | omega | (simp only [IntKind.wrap_i64]; omega) | (simp only [IntKind.wrap_i64]; dsimp only; omega)) | (refine eqVB ?_; assumption))) (by repeat' (first | exact True.intro | exact rfl | refine And.intro ?_ ?_ | (refine eqVI ?_; first | assumption | omega | (simp only [IntKind.wrap_i64]; omega) | (simp only [IntKind.wrap_i64]; dsimp only; omega)) | (refine eqVB ?_; assumption))) rfl, ?_, ?_⟩
      · refine ⟨by dsimp only; omega, ?_⟩
        rw [hpre, drop_step (i := i) tW.dflt (by omega), lastAt]
        rw [show ((ps.getD i tW.dflt).1 == at') = false by simpa using hb]
        rfl
      · dsimp only; omega
    · refine eqRB ?_
      simp only [dRead, Dk.bad, Dk.has, hbad1, Bool.or_false, Bool.false_or, Bool.not_not]
      rw [show (decide (at' < 0) || decide (at' ≥ (ss.length : Int))) = false by simp; omega]
      rw [List.drop_eq_nil_of_le (by omega)] at hpre
      rw [hpre]
      rfl

end B
end Go.Proofs.Ytbmnhagbplkagaa

/- Contracts of the laws' helpers over disks. -/
namespace Go.Proofs.Ytbmnhagbplkagaa
namespace B
open Go.RowKit
set_option maxHeartbeats 4000000
set_option maxRecDepth 100000
attribute [local irreducible] awc awT thn blk DQ retQ rawQ ownQ retOk ResIs

/-- The bytes of a sector both halves of which begin with a byte. -/
def dbl (c : UInt8) : List UInt8 := c :: List.replicate 63 0 ++ c :: List.replicate 63 0
abbrev aY (c : UInt8) : AV := o1 (.v (.int .u8 (c.toNat : Int)))
theorem c42 (c : UInt8) : ACalls 42 [aY c] (aB (dbl c)) := by
  refine acalls (n := 12) (rs := [.tmp 2]) (Ts := [35]) Try.func42 rfl rfl rfl rfl rfl rfl ?_
  have hc : (0 : Int) ≤ (c.toNat : Int) ∧ (c.toNat : Int) < 256 := ⟨by omega, by have := c.toNat_lt; omega⟩
  repeat' (first
      | exact True.intro
      | exact rfl
      | refine And.intro rfl ?_
      | refine awc_seq ?_
      | refine awc_region ?_
      | refine awc_draw ?_
      | refine awt_a rfl rfl rfl ?_ ?_
      | refine awt_b rfl rfl rfl rfl ?_ ?_
      | refine awt_c rfl rfl rfl ?_ ?_
      | refine awt_gt rfl rfl ?_
      | refine awt_gf rfl rfl rfl ?_
      | (refine awt_h rfl rfl rfl ?_ ?_ <;> intro hb)
      | refine awt_nil ?_
      | refine dq (by kernel_rfl) ?_
      | refine thn_n ?_
      | refine thn_r ?_
      | refine thn_e ?_
      | refine awc_condT rfl ?_
      | refine awc_condF rfl ?_
      | (refine awc_cond rfl ?_ ?_ <;> intro hb)
      | refine awc_block ?_
      | refine blk_n ?_
      | refine blk_r ?_
      | refine blk_e ?_
      | refine blk_o rfl ?_
      | refine awc_ret ?_
      | refine awc_skip ?_
      | refine awc_label ?_
      | refine awc_exit ?_
      | refine retq_r ?_
      | refine retq_n ?_
      | exact ResIs.tv rfl
      | exact ResIs.ts rfl
      | exact ResIs.tc rfl
      | exact ResIs.tn rfl rfl
      | exact ResIs.to rfl rfl
      | apply ResIs.tagg rfl
      | exact ResIs.cv rfl trivial
      | exact ResIs.cs rfl trivial
      | exact ResIs.cn rfl trivial rfl
      | exact ResIs.co rfl trivial rfl
      | apply ResIs.cagg rfl trivial
      | exact CoeL.nil
      | apply CoeL.v
      | apply CoeL.sl
      | apply CoeL.clp
      | apply CoeL.emp rfl
      | apply CoeL.own rfl
      | apply ret_one
      | apply ret_two
      | apply ret_three
      | exact rawq_r rfl
      | apply rawq_rc rfl
      | apply ownq_rv rfl rfl)
  · exact ⟨by decide, by decide⟩
  · exact ⟨by decide, by decide⟩
  · exact ⟨hc, rfl, rfl, by decide⟩
  · rw [List.length_set]; exact ⟨by decide, by decide⟩
  · rw [List.length_set]; exact ⟨hc, rfl, rfl, by decide⟩
  · refine eqSL ?_
    have e : UInt8.ofNat (Int.toNat (c.toNat : Int)) = c := by simp
    rw [e]
    rfl
theorem c17 : ACalls 17 [] (o1 (vB true)) := by
  refine acalls (n := 198) (rs := [.tmp 0]) (Ts := [4]) Try.func17 rfl rfl rfl rfl rfl rfl ?_
  have e0 : dNew 0 = (.z, 1) := rfl
  have hc0 := c19 0
  rw [e0] at hc0
  repeat' (first
      | exact True.intro
      | exact rfl
      | refine And.intro rfl ?_
      | refine awc_seq ?_
      | refine awc_region ?_
      | refine awc_draw ?_
      | refine awt_a rfl rfl rfl ?_ ?_
      | refine awt_call0 rfl (hc0) rfl rfl rfl rfl rfl ?_
      | refine awt_call1 rfl (hc0) rfl rfl rfl rfl rfl ?_
      | refine awt_call2 rfl (hc0) rfl rfl rfl rfl rfl ?_
      | refine awt_call0 rfl (c19 2) rfl rfl rfl rfl rfl ?_
      | refine awt_call1 rfl (c19 2) rfl rfl rfl rfl rfl ?_
      | refine awt_call2 rfl (c19 2) rfl rfl rfl rfl rfl ?_
      | refine awt_call0 rfl (c26 _ _ _ _ _ _) rfl rfl rfl rfl rfl ?_
      | refine awt_call1 rfl (c26 _ _ _ _ _ _) rfl rfl rfl rfl rfl ?_
      | refine awt_call2 rfl (c26 _ _ _ _ _ _) rfl rfl rfl rfl rfl ?_
      | refine awt_call0 rfl (c28 _ _ _ _ _) rfl rfl rfl rfl rfl ?_
      | refine awt_call1 rfl (c28 _ _ _ _ _) rfl rfl rfl rfl rfl ?_
      | refine awt_call2 rfl (c28 _ _ _ _ _) rfl rfl rfl rfl rfl ?_
      | refine awt_call0 rfl (c32 _ _ _ _ _) rfl rfl rfl rfl rfl ?_
      | refine awt_call1 rfl (c32 _ _ _ _ _) rfl rfl rfl rfl rfl ?_
      | refine awt_call2 rfl (c32 _ _ _ _ _) rfl rfl rfl rfl rfl ?_
      | refine awt_call0 rfl (c42 8) rfl rfl rfl rfl rfl ?_
      | refine awt_call1 rfl (c42 8) rfl rfl rfl rfl rfl ?_
      | refine awt_call2 rfl (c42 8) rfl rfl rfl rfl rfl ?_
      | refine awt_call0 rfl (c30 _ _ _ _) rfl rfl rfl rfl rfl ?_
      | refine awt_call1 rfl (c30 _ _ _ _) rfl rfl rfl rfl rfl ?_
      | refine awt_call2 rfl (c30 _ _ _ _) rfl rfl rfl rfl rfl ?_
      | refine awt_call0 rfl (c24 _ _ _ _) rfl rfl rfl rfl rfl ?_
      | refine awt_call1 rfl (c24 _ _ _ _) rfl rfl rfl rfl rfl ?_
      | refine awt_call2 rfl (c24 _ _ _ _) rfl rfl rfl rfl rfl ?_
      | refine awt_call0 rfl (c22 _ _ _ _) rfl rfl rfl rfl rfl ?_
      | refine awt_call1 rfl (c22 _ _ _ _) rfl rfl rfl rfl rfl ?_
      | refine awt_call2 rfl (c22 _ _ _ _) rfl rfl rfl rfl rfl ?_
      | refine awt_b rfl rfl rfl rfl ?_ ?_
      | refine awt_c rfl rfl rfl ?_ ?_
      | refine awt_gt rfl rfl ?_
      | refine awt_gf rfl rfl rfl ?_
      | (refine awt_h rfl rfl rfl ?_ ?_ <;> intro hb)
      | refine awt_nil ?_
      | refine dq (by kernel_rfl) ?_
      | refine thn_n ?_
      | refine thn_r ?_
      | refine thn_e ?_
      | refine awc_condT rfl ?_
      | refine awc_condF rfl ?_
      | (refine awc_cond rfl ?_ ?_ <;> intro hb)
      | refine awc_block ?_
      | refine blk_n ?_
      | refine blk_r ?_
      | refine blk_e ?_
      | refine blk_o rfl ?_
      | refine awc_ret ?_
      | refine awc_skip ?_
      | refine awc_label ?_
      | refine awc_exit ?_
      | refine retq_r ?_
      | refine retq_n ?_
      | exact ResIs.tv rfl
      | exact ResIs.ts rfl
      | exact ResIs.tc rfl
      | exact ResIs.tn rfl rfl
      | exact ResIs.to rfl rfl
      | apply ResIs.tagg rfl
      | exact ResIs.cv rfl trivial
      | exact ResIs.cs rfl trivial
      | exact ResIs.cn rfl trivial rfl
      | exact ResIs.co rfl trivial rfl
      | apply ResIs.cagg rfl trivial
      | exact CoeL.nil
      | apply CoeL.v
      | apply CoeL.sl
      | apply CoeL.clp
      | apply CoeL.emp rfl
      | apply CoeL.own rfl
      | apply ret_one
      | apply ret_two
      | apply ret_three
      | exact rawq_r rfl
      | apply rawq_rc rfl
      | apply ownq_rv rfl rfl)
  all_goals first | (exact ⟨by decide, by decide⟩) | decide +kernel

end B
end Go.Proofs.Ytbmnhagbplkagaa

/- The disk as data: what writes, reads and syncs do, in plain terms. -/
namespace Go.Proofs.Ytbmnhagbplkagaa
namespace B
open Go.RowKit

theorem dBad_iff {ss : List (List UInt8)} {ps : List (Int × List UInt8)} {left : Int} : dBad ss ps left = false ↔ (1 ≤ ss.length ∧ ss.length ≤ 4096 ∧ ps.length ≤ 4096 ∧ -1 ≤ left ∧ left ≤ 65536 ∧ (∀ w ∈ ps, 0 ≤ w.1 ∧ w.1 < ss.length ∧ w.2.length = 128) ∧ ∀ b ∈ ss, b.length = 128) := by
  constructor
  · intro h
    have h1 := dBad_at h
    have h2 := dBad_ss h
    simp only [dBad, Bool.or_eq_false_iff, decide_eq_false_iff_not] at h
    exact ⟨by omega, by omega, by omega, by omega, by omega, h1, h2⟩
  · rintro ⟨h1, h2, h3, h4, h5, h6, h7⟩
    simp only [dBad, Bool.or_eq_false_iff, decide_eq_false_iff_not, List.any_eq_false]
    refine ⟨⟨⟨⟨⟨⟨by omega, by omega⟩, by omega⟩, by omega⟩, by omega⟩, fun w hw => ?_⟩, fun b hb => ?_⟩
    · have := h6 w hw
      simp; omega
    · simp [h7 b hb]
theorem bad_iff {d : Dk} : d.bad = false ↔ dBad d.ss d.ps d.left = false ∧ d.st = false := by
  simp [Dk.bad]
theorem has_iff {d : Dk} {a : Int} : d.has a = true ↔ 0 ≤ a ∧ a < d.ss.length := by
  simp only [Dk.has, Bool.not_eq_true', Bool.or_eq_false_iff, decide_eq_false_iff_not]; omega

theorem pad_len {b : List UInt8} (h : b.length ≤ 128) : (pad b).length = 128 := by
  simp [pad]; omega
theorem pad_take {b : List UInt8} : (pad b).take b.length = b := by
  simp [pad]

/-- A disk with one write more. -/
def Dk.add (d : Dk) (a : Int) (b : List UInt8) : Dk := ⟨d.ss, d.ps ++ [(a, pad b)], d.left, d.st⟩
theorem write_ok {d : Dk} {a : Int} {b : List UInt8} (h : d.bad = false) (ha : d.has a = true) (hb : b.length ≤ 128) (hp : d.ps.length ≠ 4096) : dWrite d a b = (d.add a b, 0) := by
  unfold dWrite
  rw [h, ha, show decide ((b.length : Int) > 128) = false by simp; omega, show ((d.ps.length : Int) == 4096) = false by simp; omega]
  rfl
theorem add_bad {d : Dk} {a : Int} {b : List UInt8} (h : d.bad = false) (ha : d.has a = true) (hb : b.length ≤ 128) (hp : d.ps.length ≠ 4096) : (d.add a b).bad = false := by
  rw [bad_iff] at h ⊢
  obtain ⟨h, hst⟩ := h
  rw [has_iff] at ha
  refine ⟨?_, hst⟩
  rw [dBad_iff] at h ⊢
  obtain ⟨h1, h2, h3, h4, h5, h6, h7⟩ := h
  refine ⟨h1, h2, ?_, h4, h5, fun w hw => ?_, h7⟩
  · simp only [Dk.add, List.length_append, List.length_singleton]; omega
  · rcases List.mem_append.1 hw with hw | hw
    · exact h6 w hw
    · simp at hw; subst hw
      exact ⟨ha.1, ha.2, pad_len hb⟩
theorem write_res {d : Dk} {a : Int} {b : List UInt8} (h : (dWrite d a b).2 = 0) : d.bad = false ∧ d.has a = true ∧ b.length ≤ 128 ∧ d.ps.length ≠ 4096 := by
  unfold dWrite at h
  cases h1 : d.bad || !d.has a with
  | true => rw [h1] at h; simp at h
  | false =>
    rw [h1] at h
    cases h2 : decide ((b.length : Int) > 128) with
    | true => rw [h2] at h; simp at h
    | false =>
      rw [h2] at h
      cases h3 : (d.ps.length : Int) == 4096 with
      | true => rw [h3] at h; simp at h
      | false =>
        simp at h1 h2 h3
        exact ⟨h1.1, h1.2, by omega, by omega⟩
theorem read_res {d : Dk} {a : Int} (h : (dRead d a).2 = 0) : d.bad = false ∧ d.has a = true := by
  unfold dRead at h
  cases h1 : d.bad || !d.has a with
  | true => rw [h1] at h; simp at h
  | false => simp at h1; exact h1
theorem read_ok {d : Dk} {a : Int} (h : d.bad = false) (ha : d.has a = true) : dRead d a = (lastAt d.ps a (d.ss.getD a.toNat []), 0) := by
  unfold dRead
  rw [h, ha]; rfl
theorem lastAt_append (a : Int) (w : Int × List UInt8) : ∀ (l : List (Int × List UInt8)) (b : List UInt8), lastAt (l ++ [w]) a b = bif w.1 == a then w.2 else lastAt l a b
  | [], b => rfl
  | x :: l, b => by rw [List.cons_append, lastAt, lastAt_append a w l, lastAt]

/-- What is left of the writes that may be done. -/
def Dk.rest (d : Dk) : Int := bif decide (d.left ≥ 0) then d.left - d.ps.length else d.left
def Dk.done (d : Dk) : Dk := ⟨perf d.ss d.ps, [], d.rest, false⟩
def Dk.stops (d : Dk) : Bool := decide (d.left ≥ 0) && decide (d.left < d.ps.length)
def Dk.torn (d : Dk) : Dk := ⟨dTorn (perf d.ss (d.ps.take d.left.toNat)) (d.ps.getD d.left.toNat (0, [])), [], 0, true⟩
theorem sync_go {d : Dk} (h : d.bad = false) (hs : d.stops = false) : dSync d = (d.done, 0) := by
  unfold dSync
  unfold Dk.stops at hs
  rw [h, hs]; rfl
theorem sync_stop {d : Dk} (h : d.bad = false) (hs : d.stops = true) : dSync d = (d.torn, 40) := by
  unfold dSync
  unfold Dk.stops at hs
  rw [h, hs]; rfl
theorem done_bad {d : Dk} (h : d.bad = false) (hs : d.stops = false) : d.done.bad = false := by
  rw [bad_iff] at h ⊢
  obtain ⟨h, hst⟩ := h
  refine ⟨?_, rfl⟩
  rw [dBad_iff] at h ⊢
  obtain ⟨h1, h2, h3, h4, h5, h6, h7⟩ := h
  have hr : -1 ≤ d.rest ∧ d.rest ≤ 65536 := by
    unfold Dk.stops at hs
    unfold Dk.rest
    by_cases q : d.left ≥ 0
    · rw [show decide (d.left ≥ 0) = true by simp [q], Bool.true_and, decide_eq_false_iff_not] at hs
      rw [show decide (d.left ≥ 0) = true by simp [q]]
      simp only [cond_true]; omega
    · rw [show decide (d.left ≥ 0) = false by simp; omega]
      simp only [cond_false]; omega
  refine ⟨?_, ?_, by simp [Dk.done], hr.1, hr.2, by simp [Dk.done], ?_⟩
  · show 1 ≤ (perf d.ss d.ps).length; rw [perf_len]; exact h1
  · show (perf d.ss d.ps).length ≤ _; rw [perf_len]; exact h2
  · exact perf_all _ _ h7 (fun w hw => (h6 w hw).2.2)
theorem perf_get (k : Nat) : ∀ (l : List (Int × List UInt8)) (ss : List (List UInt8)), k < ss.length → (∀ w ∈ l, 0 ≤ w.1) → (perf ss l).getD k [] = lastAt l k (ss.getD k [])
  | [], _, _, _ => rfl
  | w :: l, ss, hk, hl => by
    rw [perf, lastAt, perf_get k l _ (by simpa using hk) (fun w hw => hl w (by simp [hw]))]
    congr 1
    have h0 := hl w (by simp)
    rw [List.getD_eq_getElem?_getD, List.getD_eq_getElem?_getD, List.getElem?_set]
    by_cases q : w.1 = k
    · rw [show w.1.toNat = k by omega, if_pos rfl, if_pos hk, show (w.1 == (k : Int)) = true by simp [q]]
      rfl
    · rw [if_neg (by omega), show (w.1 == (k : Int)) = false by simp [q]]
      rfl
theorem perf_append (ss : List (List UInt8)) (l m : List (Int × List UInt8)) : perf ss (l ++ m) = perf (perf ss l) m := by
  induction l generalizing ss with
  | nil => rfl
  | cons w l ih => exact ih _

theorem cR {d : Dk} {a : Int} {x : List UInt8 × Int} (h : dRead d a = x) : ACalls 28 [aD d.ss d.ps d.left d.st, o1 (vI a)] (aRB x) := by
  rw [← h]; exact c28 _ _ _ _ _
theorem cW {d : Dk} {a : Int} {b : List UInt8} {x : Dk × Int} (h : dWrite d a b = x) : ACalls 26 [aD d.ss d.ps d.left d.st, o1 (vI a), aB b] (aRD x) := by
  rw [← h]; exact c26 _ _ _ _ _ _
theorem cS {d : Dk} {x : Dk × Int} (h : dSync d = x) : ACalls 30 [aD d.ss d.ps d.left d.st] (aRD x) := by
  rw [← h]; exact c30 _ _ _ _
theorem cT {d : Dk} {l : Int} {x : Dk × Int} (h : dStop d l = x) : ACalls 32 [aD d.ss d.ps d.left d.st, o1 (vI l)] (aRD x) := by
  rw [← h]; exact c32 _ _ _ _ _
theorem cN {n : Int} {x : Dk × Int} (h : dNew n = x) : ACalls 19 [o1 (vI n)] (aRD x) := by
  rw [← h]; exact c19 _
end B
end Go.Proofs.Ytbmnhagbplkagaa
