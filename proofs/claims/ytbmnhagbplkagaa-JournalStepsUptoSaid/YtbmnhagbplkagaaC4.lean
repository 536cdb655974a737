import Derived.Test.YtbmnhagbplkagaaC3
/- Contracts of the disk: writes and stops. -/
namespace Go.Proofs.Ytbmnhagbplkagaa
namespace B
open Go.RowKit
set_option maxHeartbeats 4000000
set_option maxRecDepth 100000
attribute [local irreducible] awc awT thn blk DQ retQ rawQ ownQ retOk ResIs

/-- A disk. -/
structure Dk where
  ss : List (List UInt8)
  ps : List (Int × List UInt8)
  left : Int
  st : Bool
def Dk.z : Dk := ⟨[], [], 0, false⟩
def Dk.bad (d : Dk) : Bool := dBad d.ss d.ps d.left || d.st
def Dk.has (d : Dk) (at' : Int) : Bool := !(decide (at' < 0) || decide (at' ≥ d.ss.length))
def pad (b : List UInt8) : List UInt8 := b ++ List.replicate (128 - b.length) 0
def dWrite (d : Dk) (at' : Int) (b : List UInt8) : Dk × Int :=
  bif d.bad || !d.has at' then (.z, 40) else bif decide ((b.length : Int) > 128) then (.z, 1) else bif (d.ps.length : Int) == 4096 then (.z, 2) else (⟨d.ss, d.ps ++ [(at', pad b)], d.left, d.st⟩, 0)
def dStop (d : Dk) (left : Int) : Dk × Int :=
  bif d.bad then (.z, 40) else bif decide (left < 0) || decide (left > 65536) then (.z, 1) else (⟨d.ss, d.ps, left, d.st⟩, 0)
abbrev aRD (x : Dk × Int) : AV := .tup [.agg [.sl tB x.1.ss, .sl tW x.1.ps, vI x.1.left, vB x.1.st], .one (vI x.2)]
theorem eqRD {ss : List (List UInt8)} {ps : List (Int × List UInt8)} {l : Int} {b : Bool} {e : Int} {x : Dk × Int} (h : x = (⟨ss, ps, l, b⟩, e)) :
    AV.tup [.agg [.sl tB ss, .sl tW ps, vI l, vB b], .one (vI e)] = aRD x := by
  rw [h]

theorem dChk_ne (ss : List (List UInt8)) (ps : List (Int × List UInt8)) (left : Int) : (dChk ss ps left != 0) = dBad ss ps left := by
  unfold dChk; cases dBad ss ps left <;> rfl
theorem dChk_eq (ss : List (List UInt8)) (ps : List (Int × List UInt8)) (left : Int) : (dChk ss ps left == 0) = !dBad ss ps left := by
  unfold dChk; cases dBad ss ps left <;> rfl
theorem pad_eq (b : List UInt8) (h : b.length ≤ 128) : List.take 0 (List.replicate (Int.toNat 128) (0 : UInt8)) ++ List.take (List.replicate (Int.toNat 128) (0 : UInt8)).length b ++ List.drop (0 + min b.length (List.replicate (Int.toNat 128) (0 : UInt8)).length) (List.replicate (Int.toNat 128) 0) = pad b := by
  simp only [List.length_replicate, List.take_zero, List.nil_append, Nat.zero_add, pad]
  rw [List.take_of_length_le (by show b.length ≤ 128; exact h), show min b.length (Int.toNat 128) = b.length from Nat.min_eq_left h, List.drop_replicate]
  rfl

theorem c26 (ss : List (List UInt8)) (ps : List (Int × List UInt8)) (left : Int) (st : Bool) (at' : Int) (b : List UInt8) : ACalls 26 [aD ss ps left st, o1 (vI at'), aB b] (aRD (dWrite ⟨ss, ps, left, st⟩ at' b)) := by
  refine acalls (n := 46) (rs := [.cell 6 25, .tmp 7]) (Ts := [25, 28]) Try.func26 rfl rfl rfl rfl rfl rfl ?_
  refine awc_bd 0 _ rfl ?_
  intro hbd
  have hb2 : List.length ps * 32 ≤ 140737488355328 := hbd.2.1.1
  repeat' (first
      | exact True.intro
      | exact rfl
      | refine And.intro rfl ?_
      | refine awc_seq ?_
      | refine awc_region ?_
      | refine awc_draw ?_
      | refine awt_a rfl rfl rfl ?_ ?_
      | refine awt_call0 rfl (c57 _ _ _ _) rfl rfl rfl rfl rfl ?_
      | refine awt_call1 rfl (c57 _ _ _ _) rfl rfl rfl rfl rfl ?_
      | refine awt_call2 rfl (c57 _ _ _ _) rfl rfl rfl rfl rfl ?_
      | refine awt_call0 rfl (c58 _ _ _ _ _) rfl rfl rfl rfl rfl ?_
      | refine awt_call1 rfl (c58 _ _ _ _ _) rfl rfl rfl rfl rfl ?_
      | refine awt_call2 rfl (c58 _ _ _ _ _) rfl rfl rfl rfl rfl ?_
      | refine awt_call0 rfl (c60 _) rfl rfl rfl rfl rfl ?_
      | refine awt_call1 rfl (c60 _) rfl rfl rfl rfl rfl ?_
      | refine awt_call2 rfl (c60 _) rfl rfl rfl rfl rfl ?_
      | refine awt_call0 rfl (c59 _) rfl rfl rfl rfl rfl ?_
      | refine awt_call1 rfl (c59 _) rfl rfl rfl rfl rfl ?_
      | refine awt_call2 rfl (c59 _) rfl rfl rfl rfl rfl ?_
      | refine awt_b rfl rfl rfl rfl ?_ ?_
      | refine awt_c rfl rfl rfl ?_ ?_
      | refine awt_gt rfl rfl ?_
      | refine awt_gf rfl rfl rfl ?_
      | refine awt_gu rfl rfl rfl ?_
      | (refine awt_h rfl rfl rfl ?_ ?_ <;> intro hb)
      | refine awt_nil ?_
      | refine dq (by kernel_rfl) ?_
      | refine thn_n ?_
      | refine thn_r ?_
      | refine thn_e ?_
      | refine awc_condT rfl ?_
      | refine awc_condF rfl ?_
      | (refine awc_cond rfl ?_ ?_ <;> intro hb)
      | refine awc_block ?_
      | refine blk_n ?_
      | refine blk_r ?_
      | refine blk_e ?_
      | refine blk_o rfl ?_
      | refine awc_ret ?_
      | refine awc_skip ?_
      | refine awc_label ?_
      | refine awc_exit ?_
      | refine retq_r ?_
      | refine retq_n ?_
      | exact ResIs.tv rfl
      | exact ResIs.ts rfl
      | exact ResIs.tc rfl
      | exact ResIs.tn rfl rfl
      | exact ResIs.to rfl rfl
      | apply ResIs.tagg rfl
      | exact ResIs.cv rfl trivial
      | exact ResIs.cs rfl trivial
      | exact ResIs.cn rfl trivial rfl
      | exact ResIs.co rfl trivial rfl
      | apply ResIs.cagg rfl trivial
      | exact CoeL.nil
      | apply CoeL.v
      | apply CoeL.sl
      | apply CoeL.clp
      | apply CoeL.emp rfl
      | apply CoeL.own rfl
      | apply ret_one
      | apply ret_two
      | apply ret_three
      | exact rawq_r rfl
      | apply rawq_rc rfl
      | apply ownq_rv rfl rfl)
  all_goals (try (refine eqRD ?_; (try simp only [Bool.not_not, Bool.not_false] at *); simp only [dWrite, Dk.bad, Dk.has, *, cond_true, cond_false, Bool.or_true, Bool.true_or, Bool.or_self, Bool.not_true, Bool.not_false, Bool.not_not]; first | done | rfl))
  · omega
  · exact ⟨⟨trivial, by decide⟩, rfl, rfl, by simp⟩
  · exact ⟨trivial, trivial⟩
  · refine ⟨by simp, ?_⟩
    show (ps.length + 1) * 32 ≤ _
    have : ps.length ≤ 4096 := by
      simp only [Bool.not_not, Bool.or_eq_false_iff, dBad, decide_eq_false_iff_not] at *
      omega
    omega
  · refine eqRD ?_
    show _ = ((⟨ss, ps ++ [(at', List.take 0 (List.replicate (Int.toNat 128) (0 : UInt8)) ++ List.take (List.replicate (Int.toNat 128) (0 : UInt8)).length b ++ List.drop (0 + min b.length (List.replicate (Int.toNat 128) (0 : UInt8)).length) (List.replicate (Int.toNat 128) 0))], left, st⟩ : Dk), (0 : Int))
    rw [pad_eq b (by simp at *; omega)]
    (try simp only [Bool.not_not] at *)
    simp only [dWrite, Dk.bad, Dk.has, *, cond_false, Bool.or_self, Bool.not_true, Bool.not_false]
theorem c32 (ss : List (List UInt8)) (ps : List (Int × List UInt8)) (left : Int) (st : Bool) (l : Int) : ACalls 32 [aD ss ps left st, o1 (vI l)] (aRD (dStop ⟨ss, ps, left, st⟩ l)) := by
  refine acalls (n := 22) (rs := [.cell 4 25, .tmp 5]) (Ts := [25, 28]) Try.func32 rfl rfl rfl rfl rfl rfl ?_
  repeat' (first
      | exact True.intro
      | exact rfl
      | refine And.intro rfl ?_
      | refine awc_seq ?_
      | refine awc_region ?_
      | refine awc_draw ?_
      | refine awt_a rfl rfl rfl ?_ ?_
      | refine awt_call0 rfl (c57 _ _ _ _) rfl rfl rfl rfl rfl ?_
      | refine awt_call1 rfl (c57 _ _ _ _) rfl rfl rfl rfl rfl ?_
      | refine awt_call2 rfl (c57 _ _ _ _) rfl rfl rfl rfl rfl ?_
      | refine awt_b rfl rfl rfl rfl ?_ ?_
      | refine awt_c rfl rfl rfl ?_ ?_
      | refine awt_gt rfl rfl ?_
      | refine awt_gf rfl rfl rfl ?_
      | refine awt_gu rfl rfl rfl ?_
      | (refine awt_h rfl rfl rfl ?_ ?_ <;> intro hb)
      | refine awt_nil ?_
      | refine dq (by kernel_rfl) ?_
      | refine thn_n ?_
      | refine thn_r ?_
      | refine thn_e ?_
      | refine awc_condT rfl ?_
      | refine awc_condF rfl ?_
      | (refine awc_cond rfl ?_ ?_ <;> intro hb)
      | refine awc_block ?_
      | refine blk_n ?_
      | refine blk_r ?_
      | refine blk_e ?_
      | refine blk_o rfl ?_
      | refine awc_ret ?_
      | refine awc_skip ?_
      | refine awc_label ?_
      | refine awc_exit ?_
      | refine retq_r ?_
      | refine retq_n ?_
      | exact ResIs.tv rfl
      | exact ResIs.ts rfl
      | exact ResIs.tc rfl
      | exact ResIs.tn rfl rfl
      | exact ResIs.to rfl rfl
      | apply ResIs.tagg rfl
      | exact ResIs.cv rfl trivial
      | exact ResIs.cs rfl trivial
      | exact ResIs.cn rfl trivial rfl
      | exact ResIs.co rfl trivial rfl
      | apply ResIs.cagg rfl trivial
      | exact CoeL.nil
      | apply CoeL.v
      | apply CoeL.sl
      | apply CoeL.clp
      | apply CoeL.emp rfl
      | apply CoeL.own rfl
      | apply ret_one
      | apply ret_two
      | apply ret_three
      | exact rawq_r rfl
      | apply rawq_rc rfl
      | apply ownq_rv rfl rfl)
  all_goals (try (refine eqRD ?_; (try simp only [Bool.not_not, Bool.not_false] at *); simp only [dStop, Dk.bad, *, cond_true, cond_false, Bool.or_true, Bool.true_or, Bool.or_self]; first | done | rfl))
theorem c33 (ss : List (List UInt8)) (ps : List (Int × List UInt8)) (left : Int) (st : Bool) (l : Int) : ACalls 33 [aD ss ps left st, o1 (vI l)] (aRD (dStop ⟨ss, ps, left, st⟩ l)) := by
  refine acalls (n := 24) (rs := [.cell 4 25, .tmp 5]) (Ts := [25, 28]) Try.func33 rfl rfl rfl rfl rfl rfl ?_
  repeat' (first
      | exact True.intro
      | exact rfl
      | refine And.intro rfl ?_
      | refine awc_seq ?_
      | refine awc_region ?_
      | refine awc_draw ?_
      | refine awt_a rfl rfl rfl ?_ ?_
      | refine awt_call0 rfl (c23 _ _ _ _) rfl rfl rfl rfl rfl ?_
      | refine awt_call1 rfl (c23 _ _ _ _) rfl rfl rfl rfl rfl ?_
      | refine awt_call2 rfl (c23 _ _ _ _) rfl rfl rfl rfl rfl ?_
      | refine awt_b rfl rfl rfl rfl ?_ ?_
      | refine awt_c rfl rfl rfl ?_ ?_
      | refine awt_gt rfl rfl ?_
      | refine awt_gf rfl rfl rfl ?_
      | refine awt_gu rfl rfl rfl ?_
      | (refine awt_h rfl rfl rfl ?_ ?_ <;> intro hb)
      | refine awt_nil ?_
      | refine dq (by kernel_rfl) ?_
      | refine thn_n ?_
      | refine thn_r ?_
      | refine thn_e ?_
      | refine awc_condT rfl ?_
      | refine awc_condF rfl ?_
      | (refine awc_cond rfl ?_ ?_ <;> intro hb)
      | refine awc_block ?_
      | refine blk_n ?_
      | refine blk_r ?_
      | refine blk_e ?_
      | refine blk_o rfl ?_
      | refine awc_ret ?_
      | refine awc_skip ?_
      | refine awc_label ?_
      | refine awc_exit ?_
      | refine retq_r ?_
      | refine retq_n ?_
      | exact ResIs.tv rfl
      | exact ResIs.ts rfl
      | exact ResIs.tc rfl
      | exact ResIs.tn rfl rfl
      | exact ResIs.to rfl rfl
      | apply ResIs.tagg rfl
      | exact ResIs.cv rfl trivial
      | exact ResIs.cs rfl trivial
      | exact ResIs.cn rfl trivial rfl
      | exact ResIs.co rfl trivial rfl
      | apply ResIs.cagg rfl trivial
      | exact CoeL.nil
      | apply CoeL.v
      | apply CoeL.sl
      | apply CoeL.clp
      | apply CoeL.emp rfl
      | apply CoeL.own rfl
      | apply ret_one
      | apply ret_two
      | apply ret_three
      | exact rawq_r rfl
      | apply rawq_rc rfl
      | apply ownq_rv rfl rfl)
  all_goals (try (refine eqRD ?_; (try simp only [Bool.not_false, dChk_ne] at *); simp only [dStop, Dk.bad, *, cond_true, cond_false, Bool.or_true, Bool.true_or, Bool.or_self]; first | done | rfl))
theorem c27 (ss : List (List UInt8)) (ps : List (Int × List UInt8)) (left : Int) (st : Bool) (at' : Int) (b : List UInt8) : ACalls 27 [aD ss ps left st, o1 (vI at'), aB b] (aRD (dWrite ⟨ss, ps, left, st⟩ at' b)) := by
  refine acalls (n := 57) (rs := [.cell 6 25, .tmp 7]) (Ts := [25, 28]) Try.func27 rfl rfl rfl rfl rfl rfl ?_
  refine awc_bd 0 _ rfl ?_
  intro hbd
  have hb2 : List.length ps * 32 ≤ 140737488355328 := hbd.2.1.1
  repeat' (first
      | exact True.intro
      | exact rfl
      | refine And.intro rfl ?_
      | refine awc_seq ?_
      | refine awc_region ?_
      | refine awc_draw ?_
      | refine awt_a rfl rfl rfl ?_ ?_
      | refine awt_call0 rfl (c23 _ _ _ _) rfl rfl rfl rfl rfl ?_
      | refine awt_call1 rfl (c23 _ _ _ _) rfl rfl rfl rfl rfl ?_
      | refine awt_call2 rfl (c23 _ _ _ _) rfl rfl rfl rfl rfl ?_
      | refine awt_b rfl rfl rfl rfl ?_ ?_
      | refine awt_c rfl rfl rfl ?_ ?_
      | refine awt_gt rfl rfl ?_
      | refine awt_gf rfl rfl rfl ?_
      | refine awt_gu rfl rfl rfl ?_
      | (refine awt_h rfl rfl rfl ?_ ?_ <;> intro hb)
      | refine awt_nil ?_
      | refine dq (by kernel_rfl) ?_
      | refine thn_n ?_
      | refine thn_r ?_
      | refine thn_e ?_
      | refine awc_condT rfl ?_
      | refine awc_condF rfl ?_
      | (refine awc_cond rfl ?_ ?_ <;> intro hb)
      | refine awc_block ?_
      | refine blk_n ?_
      | refine blk_r ?_
      | refine blk_e ?_
      | refine blk_o rfl ?_
      | refine awc_ret ?_
      | refine awc_skip ?_
      | refine awc_label ?_
      | refine awc_exit ?_
      | refine retq_r ?_
      | refine retq_n ?_
      | exact ResIs.tv rfl
      | exact ResIs.ts rfl
      | exact ResIs.tc rfl
      | exact ResIs.tn rfl rfl
      | exact ResIs.to rfl rfl
      | apply ResIs.tagg rfl
      | exact ResIs.cv rfl trivial
      | exact ResIs.cs rfl trivial
      | exact ResIs.cn rfl trivial rfl
      | exact ResIs.co rfl trivial rfl
      | apply ResIs.cagg rfl trivial
      | exact CoeL.nil
      | apply CoeL.v
      | apply CoeL.sl
      | apply CoeL.clp
      | apply CoeL.emp rfl
      | apply CoeL.own rfl
      | apply ret_one
      | apply ret_two
      | apply ret_three
      | exact rawq_r rfl
      | apply rawq_rc rfl
      | apply ownq_rv rfl rfl)
  all_goals (try (refine eqRD ?_; (try simp only [Bool.not_false, dChk_ne] at *); simp only [dWrite, Dk.bad, Dk.has, *, cond_true, cond_false, Bool.or_true, Bool.true_or, Bool.or_self, Bool.not_true, Bool.not_false, Bool.not_not]; first | done | rfl))
  · show b.length * 1 ≤ _
    simp at *; omega
  have hbl : b.length ≤ 128 := by simp at *; omega
  refine awc_loop (α := List UInt8) (fun l => ⟨57, [(1, o1 (vI at')), (3, o1 (.ptr 3 0)), (6, o1 (.ptr 6 0)), (8, o1 (.own 1000))], [(3, .box [.sl tB ss, .sl tW ps, vI left, vB st]), (6, .box [.emp, .emp, vI 0, vB false]), (1000, .own .u8 l)]⟩) (fun l => l.length ≤ 128 ∧ pad l = pad b) (fun l => 128 - l.length) b (Wk.ren [(1000, 39)] rfl ⟨rfl, rfl, rfl, rfl, trivial⟩ ⟨rfl, rfl, rfl, trivial⟩ rfl) ⟨hbl, rfl⟩ ?_
  rintro l ⟨hl, hpad⟩
  repeat' (first
      | exact True.intro
      | exact rfl
      | refine And.intro rfl ?_
      | refine awc_seq ?_
      | refine awc_region ?_
      | refine awc_draw ?_
      | refine awt_a rfl rfl rfl ?_ ?_
      | refine awt_b rfl rfl rfl rfl ?_ ?_
      | refine awt_c rfl rfl rfl ?_ ?_
      | refine awt_gt rfl rfl ?_
      | refine awt_gf rfl rfl rfl ?_
      | refine awt_gu rfl rfl rfl ?_
      | (refine awt_h rfl rfl rfl ?_ ?_ <;> intro hb)
      | refine awt_nil ?_
      | refine dq (by kernel_rfl) ?_
      | refine thn_n ?_
      | refine thn_r ?_
      | refine thn_e ?_
      | refine awc_condT rfl ?_
      | refine awc_condF rfl ?_
      | (refine awc_cond rfl ?_ ?_ <;> intro hb)
      | refine awc_block ?_
      | refine blk_n ?_
      | refine blk_r ?_
      | refine blk_e ?_
      | refine blk_o rfl ?_
      | refine awc_ret ?_
      | refine awc_skip ?_
      | refine awc_label ?_
      | refine awc_exit ?_
      | refine retq_r ?_
      | refine retq_n ?_
      | exact ResIs.tv rfl
      | exact ResIs.ts rfl
      | exact ResIs.tc rfl
      | exact ResIs.tn rfl rfl
      | exact ResIs.to rfl rfl
      | apply ResIs.tagg rfl
      | exact ResIs.cv rfl trivial
      | exact ResIs.cs rfl trivial
      | exact ResIs.cn rfl trivial rfl
      | exact ResIs.co rfl trivial rfl
      | apply ResIs.cagg rfl trivial
      | exact CoeL.nil
      | apply CoeL.v
      | apply CoeL.sl
      | apply CoeL.clp
      | apply CoeL.emp rfl
      | apply CoeL.own rfl
      | apply ret_one
      | apply ret_two
      | apply ret_three
      | exact rawq_r rfl
      | apply rawq_rc rfl
      | apply ownq_rv rfl rfl)
  · exact ⟨by omega, by omega⟩
  · refine ⟨?_, by simp⟩
    show (l.length + 1) * 1 ≤ _
    omega
  · have hl' : l.length < 128 := by simp at hb; omega
    refine ⟨l ++ [0], Wk.ren [(1000, 45)] rfl (by repeat' (first | exact True.intro | exact rfl | refine And.intro ?_ ?_ | (refine eqVI ?_; first | assumption | omega | (simp only [IntKind.wrap_i64]; omega) | (simp only [IntKind.wrap_i64]; dsimp only; omega)) | (refine eqVB ?_; assumption))) (by repeat' (first | exact True.intro | exact rfl | refine And.intro ?_ ?_ | (refine eqVI ?_; first | assumption | omega | (simp only [IntKind.wrap_i64]; omega) | (simp only [IntKind.wrap_i64]; dsimp only; omega)) | (refine eqVB ?_; assumption))) rfl, ?_, ?_⟩
    · refine ⟨by simp; omega, ?_⟩
      rw [← hpad]
      simp only [pad, List.length_append, List.length_singleton, List.append_assoc, List.singleton_append]
      rw [show 128 - l.length = (128 - (l.length + 1)) + 1 from by omega, List.replicate_succ]
    · simp; omega
  · exact hb2
  · exact ⟨trivial, trivial⟩
  · refine ⟨?_, by simp⟩
    show (ps.length + 1) * 32 ≤ _
    have : ps.length ≤ 4096 := by
      simp only [dChk_ne, Bool.or_eq_false_iff, dBad, decide_eq_false_iff_not] at *
      omega
    omega
  · refine eqRD ?_
    show _ = ((⟨ss, ps ++ [(at', l)], left, st⟩ : Dk), (0 : Int))
    have e : l = pad b := by
      rw [← hpad]
      have : l.length = 128 := by simp at hb; omega
      simp [pad, this]
    rw [e]
    clear e hpad
    (try simp only [dChk_ne] at *)
    simp only [dWrite, Dk.bad, Dk.has, *, cond_false, Bool.or_self, Bool.not_true, Bool.not_false]
end B
end Go.Proofs.Ytbmnhagbplkagaa
