import Derived.Test.YtbmnhagbplkagaaCc
/- The law DiskStopped answers true at every disk, numbers and bytes. -/
namespace Go.Proofs.Ytbmnhagbplkagaa
namespace B
open Go.RowKit
set_option maxHeartbeats 4000000
set_option maxRecDepth 100000
attribute [local irreducible] awc awT thn blk DQ retQ rawQ ownQ retOk ResIs

theorem c11 (ss : List (List UInt8)) (ps : List (Int × List UInt8)) (l : Int) (st : Bool) (a n : Int) (b : List UInt8) : ACalls 11 [aD ss ps l st, o1 (vI a), o1 (vI n), aB b] (o1 (vB true)) := by
  refine acalls (n := 121) (rs := [.tmp 8]) (Ts := [4]) Try.func11 rfl rfl rfl rfl rfl rfl ?_
  refine awc_bd 0 _ rfl ?_
  intro hbd
  have hb1 : List.length ss * 24 ≤ 140737488355328 := hbd.1.1
  have hb : (⟨ss, ps, l, true⟩ : Dk).bad = true := by simp [Dk.bad]
  have h1 : dRead ⟨ss, ps, l, true⟩ a = ([], 40) := by unfold dRead; rw [hb]; rfl
  have h2 : dWrite ⟨ss, ps, l, true⟩ a b = (.z, 40) := by unfold dWrite; rw [hb]; rfl
  have h3 : dSync ⟨ss, ps, l, true⟩ = (.z, 40) := by unfold dSync; rw [hb]; rfl
  have h4 : dStop ⟨ss, ps, l, true⟩ n = (.z, 40) := by unfold dStop; rw [hb]; rfl
  have hs : ACalls 21 [aD ss [] (-1) false, aD ss [] (-1) false] (o1 (vB true)) := by
    have := c21 ss [] (-1) false ss [] (-1) false
    rwa [show sameD ss [] (-1) false ss [] (-1) false = true by simp [sameD]] at this
  repeat' (first
      | exact True.intro
      | exact rfl
      | refine And.intro rfl ?_
      | refine awc_seq ?_
      | refine awc_region ?_
      | refine awc_draw ?_
      | refine awt_a rfl rfl rfl ?_ ?_
      | refine awt_call0 rfl (c17) rfl rfl rfl rfl rfl ?_
      | refine awt_call1 rfl (c17) rfl rfl rfl rfl rfl ?_
      | refine awt_call2 rfl (c17) rfl rfl rfl rfl rfl ?_
      | refine awt_call0 rfl (c18 _ _ _ _) rfl rfl rfl rfl rfl ?_
      | refine awt_call1 rfl (c18 _ _ _ _) rfl rfl rfl rfl rfl ?_
      | refine awt_call2 rfl (c18 _ _ _ _) rfl rfl rfl rfl rfl ?_
      | refine awt_call0 rfl (c24 _ _ _ _) rfl rfl rfl rfl rfl ?_
      | refine awt_call1 rfl (c24 _ _ _ _) rfl rfl rfl rfl rfl ?_
      | refine awt_call2 rfl (c24 _ _ _ _) rfl rfl rfl rfl rfl ?_
      | refine awt_call0 rfl (hs) rfl rfl rfl rfl rfl ?_
      | refine awt_call1 rfl (hs) rfl rfl rfl rfl rfl ?_
      | refine awt_call2 rfl (hs) rfl rfl rfl rfl rfl ?_
      | refine awt_b rfl rfl rfl rfl ?_ ?_
      | refine awt_c rfl rfl rfl ?_ ?_
      | refine awt_gt rfl rfl ?_
      | refine awt_gf rfl rfl rfl ?_
      | (refine awt_h rfl rfl rfl ?_ ?_ <;> intro hb)
      | refine awt_nil ?_
      | refine dq (by kernel_rfl) ?_
      | refine thn_n ?_
      | refine thn_r ?_
      | refine thn_e ?_
      | refine awc_condT rfl ?_
      | refine awc_condF rfl ?_
      | (refine awc_cond rfl ?_ ?_ <;> intro hb)
      | refine awc_block ?_
      | refine blk_n ?_
      | refine blk_r ?_
      | refine blk_e ?_
      | refine blk_o rfl ?_
      | refine awc_ret ?_
      | refine awc_skip ?_
      | refine awc_label ?_
      | refine awc_exit ?_
      | refine retq_r ?_
      | refine retq_n ?_
      | exact ResIs.tv rfl
      | exact ResIs.ts rfl
      | exact ResIs.tc rfl
      | exact ResIs.tn rfl rfl
      | exact ResIs.to rfl rfl
      | apply ResIs.tagg rfl
      | exact ResIs.cv rfl trivial
      | exact ResIs.cs rfl trivial
      | exact ResIs.cn rfl trivial rfl
      | exact ResIs.co rfl trivial rfl
      | apply ResIs.cagg rfl trivial
      | exact CoeL.nil
      | apply CoeL.v
      | apply CoeL.sl
      | apply CoeL.clp
      | apply CoeL.emp rfl
      | apply CoeL.own rfl
      | apply ret_one
      | apply ret_two
      | apply ret_three
      | exact rawq_r rfl
      | apply rawq_rc rfl
      | apply ownq_rv rfl rfl)
  · exfalso
    simp at hb
  refine awc_loop (α := Nat) (fun i => ⟨121, [(1, o1 (vI a)), (2, o1 (vI n)), (3, aB b), (4, o1 (.ptr 4 0)), (9, o1 (.ptr 9 0)), (11, o1 (vI i))], [(4, .box [.sl tB ss, .sl tW ps, vI l, vB st]), (9, .box [.sl tB ss, .sl tW [], vI (-1), vB false])]⟩) (fun i => i ≤ ss.length) (fun i => ss.length - i) 0 (Wk.ren [] rfl ⟨rfl, rfl, rfl, rfl, rfl, rfl, trivial⟩ ⟨rfl, rfl, trivial⟩ rfl) (Nat.zero_le _) ?_
  intro i hi
  repeat' (first
      | exact True.intro
      | exact rfl
      | refine And.intro rfl ?_
      | refine awc_seq ?_
      | refine awc_region ?_
      | refine awc_draw ?_
      | refine awt_a rfl rfl rfl ?_ ?_
      | refine awt_call0 rfl (cR h1) rfl rfl rfl rfl rfl ?_
      | refine awt_call1 rfl (cR h1) rfl rfl rfl rfl rfl ?_
      | refine awt_call2 rfl (cR h1) rfl rfl rfl rfl rfl ?_
      | refine awt_call0 rfl (cW h2) rfl rfl rfl rfl rfl ?_
      | refine awt_call1 rfl (cW h2) rfl rfl rfl rfl rfl ?_
      | refine awt_call2 rfl (cW h2) rfl rfl rfl rfl rfl ?_
      | refine awt_call0 rfl (cS h3) rfl rfl rfl rfl rfl ?_
      | refine awt_call1 rfl (cS h3) rfl rfl rfl rfl rfl ?_
      | refine awt_call2 rfl (cS h3) rfl rfl rfl rfl rfl ?_
      | refine awt_call0 rfl (cT h4) rfl rfl rfl rfl rfl ?_
      | refine awt_call1 rfl (cT h4) rfl rfl rfl rfl rfl ?_
      | refine awt_call2 rfl (cT h4) rfl rfl rfl rfl rfl ?_
      | refine awt_b rfl rfl rfl rfl ?_ ?_
      | refine awt_c rfl rfl rfl ?_ ?_
      | refine awt_gt rfl rfl ?_
      | refine awt_gf rfl rfl rfl ?_
      | (refine awt_h rfl rfl rfl ?_ ?_ <;> intro hb)
      | refine awt_nil ?_
      | refine dq (by kernel_rfl) ?_
      | refine thn_n ?_
      | refine thn_r ?_
      | refine thn_e ?_
      | refine awc_condT rfl ?_
      | refine awc_condF rfl ?_
      | (refine awc_cond rfl ?_ ?_ <;> intro hb)
      | refine awc_block ?_
      | refine blk_n ?_
      | refine blk_r ?_
      | refine blk_e ?_
      | refine blk_o rfl ?_
      | refine awc_ret ?_
      | refine awc_skip ?_
      | refine awc_label ?_
      | refine awc_exit ?_
      | refine retq_r ?_
      | refine retq_n ?_
      | exact ResIs.tv rfl
      | exact ResIs.ts rfl
      | exact ResIs.tc rfl
      | exact ResIs.tn rfl rfl
      | exact ResIs.to rfl rfl
      | apply ResIs.tagg rfl
      | exact ResIs.cv rfl trivial
      | exact ResIs.cs rfl trivial
      | exact ResIs.cn rfl trivial rfl
      | exact ResIs.co rfl trivial rfl
      | apply ResIs.cagg rfl trivial
      | exact CoeL.nil
      | apply CoeL.v
      | apply CoeL.sl
      | apply CoeL.clp
      | apply CoeL.emp rfl
      | apply CoeL.own rfl
      | apply ret_one
      | apply ret_two
      | apply ret_three
      | exact rawq_r rfl
      | apply rawq_rc rfl
      | apply ownq_rv rfl rfl)
  all_goals (try simp only [decide_eq_true_eq, decide_eq_false_iff_not, Bool.not_eq_true', Bool.not_eq_false', beq_iff_eq, beq_eq_false_iff_ne, ne_eq, Int.toNat_natCast] at *)
  all_goals (try omega)
  · exact absurd trivial hb
  · refine ⟨i + 1, Wk.ren [] rfl (by repeat' (first | exact True.intro | exact rfl | refine And.intro ?_ ?_ | (refine eqVI ?_; first | assumption | omega | (simp only [IntKind.wrap_i64]; omega) | (simp only [IntKind.wrap_i64]; dsimp only; omega)) | (refine eqVB ?_; assumption))) (by repeat' (first | exact True.intro | exact rfl | refine And.intro ?_ ?_ | (refine eqVI ?_; first | assumption | omega | (simp only [IntKind.wrap_i64]; omega) | (simp only [IntKind.wrap_i64]; dsimp only; omega)) | (refine eqVB ?_; assumption))) rfl, ?_, ?_⟩
    · omega
    · omega

end B
end Go.Proofs.Ytbmnhagbplkagaa
