import Derived.Test.YtbmnhagbplkagaaD12
import Derived.Test.YtbmnhagbplkagaaP6
/- The law JournalDamage answers true at every list of records and every change of one byte. -/
namespace Go.Proofs.Ytbmnhagbplkagaa
namespace B
open Go.RowKit
set_option maxHeartbeats 4000000
set_option maxRecDepth 100000
attribute [local irreducible] awc awT thn blk DQ retQ rawQ ownQ retOk ResIs

theorem u64_rngL (K : Int) : 0 ≤ IntKind.u64.wrap K ∧ IntKind.u64.wrap K < 18446744073709551616 := by
  simp only [IntKind.wrap_u64]; omega
theorem u8_rng (K : Int) : 0 ≤ IntKind.u8.wrap K ∧ IntKind.u8.wrap K < 256 := by
  simp only [IntKind.wrap_u8]; omega
theorem c16 (rs : List (List UInt8)) (sector at' : Int) (by' : UInt8) : ACalls 16 [aBB rs, o1 (vI sector), o1 (vI at'), o1 (.v (.int .u8 (by'.toNat : Int)))] (o1 (vB true)) := by
  have h19 : ACalls 19 [o1 (vI 40)] (.tup [.agg [.sl tB (List.replicate 40 zSec), .sl tW [], vI (-1), vB false], .one (vI 0)]) := by
    have := c19 40
    rw [show dNew 40 = _ from dNew_ok 40 (by decide) (by decide)] at this
    exact this
  have h38 : ACalls 38 [aD (List.replicate 40 zSec) [] (-1) false] (.tup [.agg [.sl tB [], vI 40, vI 0], .one (vI 0)]) := by
    have := c38 (List.replicate 40 zSec) [] (-1) false
    rw [show jOpen ⟨(List.replicate 40 zSec), [], -1, false⟩ = (⟨[], 40, 0⟩, 0) from (by
      have := (new_inv 40 (by decide) (by decide)).open (left := -1) (by decide) (by decide)
      rw [List.length_replicate] at this
      exact this)] at this
    exact this
  refine acalls (n := 211) (rs := [.tmp 8]) (Ts := [4]) Try.func16 rfl rfl rfl rfl rfl rfl ?_
  refine awc_bd 0 _ rfl ?_
  intro hbd
  have hb24 : List.length rs * 24 ≤ 140737488355328 := hbd.1
  repeat' (first
      | exact True.intro
      | exact rfl
      | refine And.intro rfl ?_
      | refine awc_seq ?_
      | refine awc_region ?_
      | refine awc_draw ?_
      | refine awt_a rfl rfl rfl ?_ ?_
      | refine awt_call0 rfl (c34) rfl rfl rfl rfl rfl ?_
      | refine awt_call1 rfl (c34) rfl rfl rfl rfl rfl ?_
      | refine awt_call2 rfl (c34) rfl rfl rfl rfl rfl ?_
      | refine awt_call0 rfl (c35 _ _ _ _ _) rfl rfl rfl rfl rfl ?_
      | refine awt_call1 rfl (c35 _ _ _ _ _) rfl rfl rfl rfl rfl ?_
      | refine awt_call2 rfl (c35 _ _ _ _ _) rfl rfl rfl rfl rfl ?_
      | refine awt_call0 rfl (h19) rfl rfl rfl rfl rfl ?_
      | refine awt_call1 rfl (h19) rfl rfl rfl rfl rfl ?_
      | refine awt_call2 rfl (h19) rfl rfl rfl rfl rfl ?_
      | refine awt_call0 rfl (h38) rfl rfl rfl rfl rfl ?_
      | refine awt_call1 rfl (h38) rfl rfl rfl rfl rfl ?_
      | refine awt_call2 rfl (h38) rfl rfl rfl rfl rfl ?_
      | refine awt_b rfl rfl rfl rfl ?_ ?_
      | refine awt_c rfl rfl rfl ?_ ?_
      | refine awt_gt rfl rfl ?_
      | refine awt_gf rfl rfl rfl ?_
      | refine awt_gu rfl rfl rfl ?_
      | (refine awt_h rfl rfl rfl ?_ ?_ <;> intro hb)
      | refine awt_nil ?_
      | refine dq (by kernel_rfl) ?_
      | refine thn_n ?_
      | refine thn_r ?_
      | refine thn_e ?_
      | refine awc_condT rfl ?_
      | refine awc_condF rfl ?_
      | (refine awc_cond rfl ?_ ?_ <;> intro hb)
      | refine awc_block ?_
      | refine blk_n ?_
      | refine blk_r ?_
      | refine blk_e ?_
      | refine blk_o rfl ?_
      | refine awc_ret ?_
      | refine awc_skip ?_
      | refine awc_label ?_
      | refine awc_exit ?_
      | refine retq_r ?_
      | refine retq_n ?_
      | exact ResIs.tv rfl
      | exact ResIs.ts rfl
      | exact ResIs.tc rfl
      | exact ResIs.tn rfl rfl
      | exact ResIs.to rfl rfl
      | apply ResIs.tagg rfl
      | exact ResIs.cv rfl trivial
      | exact ResIs.cs rfl trivial
      | exact ResIs.cn rfl trivial rfl
      | exact ResIs.co rfl trivial rfl
      | apply ResIs.cagg rfl trivial
      | exact CoeL.nil
      | apply CoeL.v
      | apply CoeL.sl
      | apply CoeL.clp
      | apply CoeL.emp rfl
      | apply CoeL.own rfl
      | apply ret_one
      | apply ret_two
      | apply ret_three
      | exact rawq_r rfl
      | apply rawq_rc rfl
      | apply ownq_rv rfl rfl)
  rename_i hr0
  have hby : by' ≠ 0 := fun q => by rw [q] at hb; exact absurd hb (by decide)
  clear hr0 hb
  refine awc_mid (α := List (List UInt8)) (fun N => ⟨211, [(1, o1 (vI sector)), (2, o1 (vI at')), (3, o1 (.v (.int .u8 (by'.toNat : Int)))), (9, o1 (.ptr 9 0)), (11, o1 (.ptr 11 0)), (13, o1 (.own 1000))], [(9, .box [.sl tB (List.replicate 40 zSec), .sl tW [], vI (-1), vB false]), (11, .box [.sl tB N, vI 40, vI 0]), (1000, .own .int (endsL N))]⟩) (fun N => usedN N ≤ 40) ?_ ?_
  · refine awc_loop (α := Nat) (fun i => ⟨211, [(1, o1 (vI sector)), (2, o1 (vI at')), (3, o1 (.v (.int .u8 (by'.toNat : Int)))), (9, o1 (.ptr 9 0)), (11, o1 (.ptr 11 0)), (13, o1 (.own 1000)), (60, aBB rs), (61, o1 (vI rs.length)), (62, o1 (vI i))], [(9, .box [.sl tB (List.replicate 40 zSec), .sl tW [], vI (-1), vB false]), (11, .box [.sl tB (rs.take i), vI 40, vI 0]), (1000, .own .int (endsL (rs.take i)))]⟩) (fun i => i ≤ rs.length ∧ usedN (rs.take i) ≤ 40) (fun i => rs.length - i) 0 (Wk.trans (own0L 13 1000 .int rfl rfl) (Wk.ren [] rfl ⟨rfl, rfl, rfl, rfl, rfl, rfl, rfl, rfl, rfl, trivial⟩ ⟨rfl, rfl, rfl, trivial⟩ rfl)) ⟨Nat.zero_le _, by show (0 : Nat) ≤ 40; omega⟩ ?_
    rintro i ⟨h1, h2⟩
    by_cases hil : i < rs.length
    · have h7 := hbd.2 _ (getD_mem tB.dflt hil)
      have h8 : List.length (rs.getD i tB.dflt) * 1 ≤ 140737488355328 := h7.1
      have hst := usedN_step hil
      have htl : (rs.take i).length = i := by rw [List.length_take]; omega
      have hll := len_le_usedN (rs.take i)
      have hel : List.length (endsL (rs.take i)) = i := by rw [endsL_len, htl]
      have h37 := c37 (rs.take i) 40 0 (rs.getD (Int.toNat (i : Int)) tB.dflt) (by omega)
      rw [show jApp ⟨rs.take i, 40, 0⟩ (rs.getD (Int.toNat (i : Int)) tB.dflt) = _ from jApp_ok (m := 40) (s := 0) (jBad_ok (m := 40) (by decide) (by decide) (by decide) (by omega) h2) h2 (by decide)] at h37
      have etn : rs.getD (Int.toNat (i : Int)) tB.dflt = rs.getD i tB.dflt := by rw [Int.toNat_natCast]
      have hx : (if IntKind.i64.wrap (Int.tdiv (IntKind.i64.wrap ((List.length (rs.getD (Int.toNat (i : Int)) tB.dflt) : Int) + 111)) 112) > 1 then IntKind.i64.wrap (Int.tdiv (IntKind.i64.wrap ((List.length (rs.getD (Int.toNat (i : Int)) tB.dflt) : Int) + 111)) 112) else 1) = (secN (List.length (rs.getD i tB.dflt)) : Int) := by
        rw [Int.toNat_natCast, i64w (n := (List.length (rs.getD i tB.dflt) : Int) + 111) (by omega) (by omega), Int.tdiv_eq_ediv_of_nonneg (by omega), i64w (by omega) (by omega)]
        unfold secN
        split <;> omega
      by_cases hf : usedN (rs.take i) + secN (List.length (rs.getD i tB.dflt)) ≤ 40
      · rw [if_pos (by rw [etn]; exact hf)] at h37
        have hsn : endsL (rs.take (i + 1)) = endsL (rs.take i) ++ [((usedN (rs.take (i + 1)) : Nat) : Int)] := by
          rw [take_getD tB.dflt hil, endsL_snoc, usedN_app]; rfl
        have e11 : rs.take i ++ [rs.getD (Int.toNat (i : Int)) tB.dflt] = rs.take (i + 1) := by rw [etn, take_getD tB.dflt hil]
        by_cases hi0 : i = 0
        · have hgt : decide ((List.length (endsL (rs.take i)) : Int) > 0) = false := decide_eq_false (by rw [hel]; omega)
          have hu0 : usedN (rs.take i) = 0 := by rw [hi0]; rfl
          repeat' (first
              | (exact absurd hb (by rw [hgt]; decide))
              | exact True.intro
              | exact rfl
              | refine And.intro rfl ?_
              | refine awc_seq ?_
              | refine awc_region ?_
              | refine awc_draw ?_
              | refine awt_a rfl rfl rfl ?_ ?_
              | refine awt_call0 rfl (h37) rfl rfl rfl rfl rfl ?_
              | refine awt_call1 rfl (h37) rfl rfl rfl rfl rfl ?_
              | refine awt_call2 rfl (h37) rfl rfl rfl rfl rfl ?_
              | refine awt_b rfl rfl rfl rfl ?_ ?_
              | refine awt_c rfl rfl rfl ?_ ?_
              | refine awt_gt rfl rfl ?_
              | refine awt_gf rfl rfl rfl ?_
              | refine awt_gu rfl rfl rfl ?_
              | (refine awt_h rfl rfl rfl ?_ ?_ <;> intro hb)
              | refine awt_nil ?_
              | refine dq (by kernel_rfl) ?_
              | refine thn_n ?_
              | refine thn_r ?_
              | refine thn_e ?_
              | refine awc_condT rfl ?_
              | refine awc_condF rfl ?_
              | (refine awc_cond rfl ?_ ?_ <;> intro hb)
              | refine awc_block ?_
              | refine blk_n ?_
              | refine blk_r ?_
              | refine blk_e ?_
              | refine blk_o rfl ?_
              | refine awc_ret ?_
              | refine awc_skip ?_
              | refine awc_label ?_
              | refine awc_exit ?_
              | refine retq_r ?_
              | refine retq_n ?_
              | exact ResIs.tv rfl
              | exact ResIs.ts rfl
              | exact ResIs.tc rfl
              | exact ResIs.tn rfl rfl
              | exact ResIs.to rfl rfl
              | apply ResIs.tagg rfl
              | exact ResIs.cv rfl trivial
              | exact ResIs.cs rfl trivial
              | exact ResIs.cn rfl trivial rfl
              | exact ResIs.co rfl trivial rfl
              | apply ResIs.cagg rfl trivial
              | exact CoeL.nil
              | apply CoeL.v
              | apply CoeL.sl
              | apply CoeL.clp
              | apply CoeL.emp rfl
              | apply CoeL.own rfl
              | apply ret_one
              | apply ret_two
              | apply ret_three
              | exact rawq_r rfl
              | apply rawq_rc rfl
              | apply ownq_rv rfl rfl)
          all_goals (try (exfalso; have := of_decide_eq_false hb; omega))
          all_goals (try exact ⟨by omega, by omega⟩)
          all_goals (try decide)
          · refine ⟨?_, by simp⟩
            show (List.length (endsL (rs.take i)) + 1) * 8 ≤ _
            rw [hel]; omega
          · refine ⟨i + 1, Wk.ren [(1000, 94)] rfl ⟨rfl, rfl, rfl, rfl, rfl, rfl, rfl, rfl, eqVI (by rw [i64w (by omega) (by omega)]; rfl), trivial⟩ ⟨rfl, congrArg (fun z => HB.box [.sl tB z, vI 40, vI 0]) e11, ?_, trivial⟩ rfl, ⟨hil, by omega⟩, by omega⟩
            refine congrArg (HB.own .int) ?_
            show endsL (rs.take i) ++ [(if IntKind.i64.wrap (Int.tdiv (IntKind.i64.wrap ((List.length (rs.getD (Int.toNat (i : Int)) tB.dflt) : Int) + 111)) 112) > 1 then IntKind.i64.wrap (Int.tdiv (IntKind.i64.wrap ((List.length (rs.getD (Int.toNat (i : Int)) tB.dflt) : Int) + 111)) 112) else 1)] = endsL (rs.take (i + 1))
            rw [hsn, hx, hst, hu0, Nat.zero_add]
        · have hgt : decide ((List.length (endsL (rs.take i)) : Int) > 0) = true := decide_eq_true (by rw [hel]; omega)
          have hlast : (endsL (rs.take i)).getD (Int.toNat (IntKind.i64.wrap ((List.length (endsL (rs.take i)) : Int) - 1)) * Ty.int.size) (Ty.dflt .int) = (usedN (rs.take i) : Int) := by
            have e1 : Int.toNat (IntKind.i64.wrap ((List.length (endsL (rs.take i)) : Int) - 1)) * Ty.int.size = (rs.take i).length - 1 := by
              rw [hel, i64w (by omega) (by omega), htl]
              show Int.toNat _ * 1 = _
              omega
            rw [e1]
            exact endsL_last _ (fun q => by rw [q] at htl; simp at htl; omega)
          repeat' (first
              | (exact absurd hb (by rw [hgt]; decide))
              | exact True.intro
              | exact rfl
              | refine And.intro rfl ?_
              | refine awc_seq ?_
              | refine awc_region ?_
              | refine awc_draw ?_
              | refine awt_a rfl rfl rfl ?_ ?_
              | refine awt_call0 rfl (h37) rfl rfl rfl rfl rfl ?_
              | refine awt_call1 rfl (h37) rfl rfl rfl rfl rfl ?_
              | refine awt_call2 rfl (h37) rfl rfl rfl rfl rfl ?_
              | refine awt_b rfl rfl rfl rfl ?_ ?_
              | refine awt_c rfl rfl rfl ?_ ?_
              | refine awt_gt rfl rfl ?_
              | refine awt_gf rfl rfl rfl ?_
              | refine awt_gu rfl rfl rfl ?_
              | (refine awt_h rfl rfl rfl ?_ ?_ <;> intro hb)
              | refine awt_nil ?_
              | refine dq (by kernel_rfl) ?_
              | refine thn_n ?_
              | refine thn_r ?_
              | refine thn_e ?_
              | refine awc_condT rfl ?_
              | refine awc_condF rfl ?_
              | (refine awc_cond rfl ?_ ?_ <;> intro hb)
              | refine awc_block ?_
              | refine blk_n ?_
              | refine blk_r ?_
              | refine blk_e ?_
              | refine blk_o rfl ?_
              | refine awc_ret ?_
              | refine awc_skip ?_
              | refine awc_label ?_
              | refine awc_exit ?_
              | refine retq_r ?_
              | refine retq_n ?_
              | exact ResIs.tv rfl
              | exact ResIs.ts rfl
              | exact ResIs.tc rfl
              | exact ResIs.tn rfl rfl
              | exact ResIs.to rfl rfl
              | apply ResIs.tagg rfl
              | exact ResIs.cv rfl trivial
              | exact ResIs.cs rfl trivial
              | exact ResIs.cn rfl trivial rfl
              | exact ResIs.co rfl trivial rfl
              | apply ResIs.cagg rfl trivial
              | exact CoeL.nil
              | apply CoeL.v
              | apply CoeL.sl
              | apply CoeL.clp
              | apply CoeL.emp rfl
              | apply CoeL.own rfl
              | apply ret_one
              | apply ret_two
              | apply ret_three
              | exact rawq_r rfl
              | apply rawq_rc rfl
              | apply ownq_rv rfl rfl)
          all_goals (try (exfalso; have := of_decide_eq_false hb; omega))
          all_goals (try exact ⟨by omega, by omega⟩)
          all_goals (try decide)
          · rw [hel, i64w (by omega) (by omega)]; omega
          · rw [hel, i64w (by omega) (by omega)]
            show Int.toNat _ * 1 < _
            omega
          · refine ⟨?_, by simp⟩
            show (List.length (endsL (rs.take i)) + 1) * 8 ≤ _
            rw [hel]; omega
          · refine ⟨i + 1, Wk.ren [(1000, 94)] rfl ⟨rfl, rfl, rfl, rfl, rfl, rfl, rfl, rfl, eqVI (by rw [i64w (by omega) (by omega)]; rfl), trivial⟩ ⟨rfl, congrArg (fun z => HB.box [.sl tB z, vI 40, vI 0]) e11, ?_, trivial⟩ rfl, ⟨hil, by omega⟩, by omega⟩
            refine congrArg (HB.own .int) ?_
            show endsL (rs.take i) ++ [IntKind.i64.wrap ((if IntKind.i64.wrap (Int.tdiv (IntKind.i64.wrap ((List.length (rs.getD (Int.toNat (i : Int)) tB.dflt) : Int) + 111)) 112) > 1 then IntKind.i64.wrap (Int.tdiv (IntKind.i64.wrap ((List.length (rs.getD (Int.toNat (i : Int)) tB.dflt) : Int) + 111)) 112) else 1) + (endsL (rs.take i)).getD (Int.toNat (IntKind.i64.wrap ((List.length (endsL (rs.take i)) : Int) - 1)) * Ty.int.size) (Ty.dflt .int))] = endsL (rs.take (i + 1))
            rw [hsn, hx, hlast, i64w (by omega) (by omega), hst]
            congr 2
            omega
      · rw [if_neg (by rw [etn]; exact hf)] at h37
        repeat' (first
            | exact True.intro
            | exact rfl
            | refine And.intro rfl ?_
            | refine awc_seq ?_
            | refine awc_region ?_
            | refine awc_draw ?_
            | refine awt_a rfl rfl rfl ?_ ?_
            | refine awt_call0 rfl (h37) rfl rfl rfl rfl rfl ?_
            | refine awt_call1 rfl (h37) rfl rfl rfl rfl rfl ?_
            | refine awt_call2 rfl (h37) rfl rfl rfl rfl rfl ?_
            | refine awt_b rfl rfl rfl rfl ?_ ?_
            | refine awt_c rfl rfl rfl ?_ ?_
            | refine awt_gt rfl rfl ?_
            | refine awt_gf rfl rfl rfl ?_
            | refine awt_gu rfl rfl rfl ?_
            | (refine awt_h rfl rfl rfl ?_ ?_ <;> intro hb)
            | refine awt_nil ?_
            | refine dq (by kernel_rfl) ?_
            | refine thn_n ?_
            | refine thn_r ?_
            | refine thn_e ?_
            | refine awc_condT rfl ?_
            | refine awc_condF rfl ?_
            | (refine awc_cond rfl ?_ ?_ <;> intro hb)
            | refine awc_block ?_
            | refine blk_n ?_
            | refine blk_r ?_
            | refine blk_e ?_
            | refine blk_o rfl ?_
            | refine awc_ret ?_
            | refine awc_skip ?_
            | refine awc_label ?_
            | refine awc_exit ?_
            | refine retq_r ?_
            | refine retq_n ?_
            | exact ResIs.tv rfl
            | exact ResIs.ts rfl
            | exact ResIs.tc rfl
            | exact ResIs.tn rfl rfl
            | exact ResIs.to rfl rfl
            | apply ResIs.tagg rfl
            | exact ResIs.cv rfl trivial
            | exact ResIs.cs rfl trivial
            | exact ResIs.cn rfl trivial rfl
            | exact ResIs.co rfl trivial rfl
            | apply ResIs.cagg rfl trivial
            | exact CoeL.nil
            | apply CoeL.v
            | apply CoeL.sl
            | apply CoeL.clp
            | apply CoeL.emp rfl
            | apply CoeL.own rfl
            | apply ret_one
            | apply ret_two
            | apply ret_three
            | exact rawq_r rfl
            | apply rawq_rc rfl
            | apply ownq_rv rfl rfl)
        all_goals (try (exfalso; have := of_decide_eq_false hb; omega))
        all_goals (try exact ⟨by omega, by omega⟩)
        refine ⟨rs.take i, Wk.ren [] rfl ⟨rfl, rfl, rfl, rfl, rfl, rfl, trivial⟩ ⟨rfl, rfl, rfl, trivial⟩ rfl, h2⟩
    · skip
      repeat' (first
          | exact True.intro
          | exact rfl
          | refine And.intro rfl ?_
          | refine awc_seq ?_
          | refine awc_region ?_
          | refine awc_draw ?_
          | refine awt_a rfl rfl rfl ?_ ?_
          | refine awt_b rfl rfl rfl rfl ?_ ?_
          | refine awt_c rfl rfl rfl ?_ ?_
          | refine awt_gt rfl rfl ?_
          | refine awt_gf rfl rfl rfl ?_
          | refine awt_gu rfl rfl rfl ?_
          | (refine awt_h rfl rfl rfl ?_ ?_ <;> intro hb)
          | refine awt_nil ?_
          | refine dq (by kernel_rfl) ?_
          | refine thn_n ?_
          | refine thn_r ?_
          | refine thn_e ?_
          | refine awc_condT rfl ?_
          | refine awc_condF rfl ?_
          | (refine awc_cond rfl ?_ ?_ <;> intro hb)
          | refine awc_block ?_
          | refine blk_n ?_
          | refine blk_r ?_
          | refine blk_e ?_
          | refine blk_o rfl ?_
          | refine awc_ret ?_
          | refine awc_skip ?_
          | refine awc_label ?_
          | refine awc_exit ?_
          | refine retq_r ?_
          | refine retq_n ?_
          | exact ResIs.tv rfl
          | exact ResIs.ts rfl
          | exact ResIs.tc rfl
          | exact ResIs.tn rfl rfl
          | exact ResIs.to rfl rfl
          | apply ResIs.tagg rfl
          | exact ResIs.cv rfl trivial
          | exact ResIs.cs rfl trivial
          | exact ResIs.cn rfl trivial rfl
          | exact ResIs.co rfl trivial rfl
          | apply ResIs.cagg rfl trivial
          | exact CoeL.nil
          | apply CoeL.v
          | apply CoeL.sl
          | apply CoeL.clp
          | apply CoeL.emp rfl
          | apply CoeL.own rfl
          | apply ret_one
          | apply ret_two
          | apply ret_three
          | exact rawq_r rfl
          | apply rawq_rc rfl
          | apply ownq_rv rfl rfl)
      all_goals (try (exfalso; have := of_decide_eq_true hb; omega))
      refine ⟨rs.take i, Wk.ren [] rfl ⟨rfl, rfl, rfl, rfl, rfl, rfl, trivial⟩ ⟨rfl, rfl, rfl, trivial⟩ rfl, h2⟩
  intro N hu
  by_cases hN : N = []
  · subst hN
    have h39 : ACalls 39 [aJ [] 40 0, aD (List.replicate 40 zSec) [] (-1) false] (.tup [.agg [.sl tB [], vI 40, vI 0], .agg [.sl tB (List.replicate 40 zSec), .sl tW [], vI (-1), vB false], .one (vI 0)]) := by
      have := c39 [] 40 0 (List.replicate 40 zSec) [] (-1) false
      rw [show jSync ⟨[], 40, 0⟩ ⟨(List.replicate 40 zSec), [], -1, false⟩ = _ from sync_new0 40 (by decide) (by decide)] at this
      exact this
    repeat' (first
        | exact True.intro
        | exact rfl
        | refine And.intro rfl ?_
        | refine awc_seq ?_
        | refine awc_region ?_
        | refine awc_draw ?_
        | refine awt_a rfl rfl rfl ?_ ?_
        | refine awt_call0 rfl (h39) rfl rfl rfl rfl rfl ?_
        | refine awt_call1 rfl (h39) rfl rfl rfl rfl rfl ?_
        | refine awt_call2 rfl (h39) rfl rfl rfl rfl rfl ?_
        | refine awt_b rfl rfl rfl rfl ?_ ?_
        | refine awt_c rfl rfl rfl ?_ ?_
        | refine awt_gt rfl rfl ?_
        | refine awt_gf rfl rfl rfl ?_
        | refine awt_gu rfl rfl rfl ?_
        | (refine awt_h rfl rfl rfl ?_ ?_ <;> intro hb)
        | refine awt_nil ?_
        | refine dq (by kernel_rfl) ?_
        | refine thn_n ?_
        | refine thn_r ?_
        | refine thn_e ?_
        | refine awc_condT rfl ?_
        | refine awc_condF rfl ?_
        | (refine awc_cond rfl ?_ ?_ <;> intro hb)
        | refine awc_block ?_
        | refine blk_n ?_
        | refine blk_r ?_
        | refine blk_e ?_
        | refine blk_o rfl ?_
        | refine awc_ret ?_
        | refine awc_skip ?_
        | refine awc_label ?_
        | refine awc_exit ?_
        | refine retq_r ?_
        | refine retq_n ?_
        | exact ResIs.tv rfl
        | exact ResIs.ts rfl
        | exact ResIs.tc rfl
        | exact ResIs.tn rfl rfl
        | exact ResIs.to rfl rfl
        | apply ResIs.tagg rfl
        | exact ResIs.cv rfl trivial
        | exact ResIs.cs rfl trivial
        | exact ResIs.cn rfl trivial rfl
        | exact ResIs.co rfl trivial rfl
        | apply ResIs.cagg rfl trivial
        | exact CoeL.nil
        | apply CoeL.v
        | apply CoeL.sl
        | apply CoeL.clp
        | apply CoeL.emp rfl
        | apply CoeL.own rfl
        | apply ret_one
        | apply ret_two
        | apply ret_three
        | exact rawq_r rfl
        | apply rawq_rc rfl
        | apply ownq_rv rfl rfl)
  have h39 : ACalls 39 [aJ N 40 0, aD (List.replicate 40 zSec) [] (-1) false] (.tup [.agg [.sl tB N, vI 40, vI N.length], .agg [.sl tB (wZ 40 N), .sl tW [], vI (-1), vB false], .one (vI 0)]) := by
    have := c39 N 40 0 (List.replicate 40 zSec) [] (-1) false
    rw [show jSync ⟨N, 40, 0⟩ ⟨(List.replicate 40 zSec), [], -1, false⟩ = _ from sync_new 40 (by decide) (by decide) N hu hN] at this
    exact this
  have hup := used_pos hN
  have hel : List.length (endsL N) = N.length := endsL_len N
  have hNl := len_le_usedN N
  have hN0 : 0 < N.length := List.length_pos_iff.2 hN
  have hne : ((List.length (endsL N) : Int) == 0) = false := by rw [hel, beq_eq_false_iff_ne]; omega
  have hInv := wZ_inv 40 (by decide) (by decide) N hu hN
  have hwl := wZ_len 40 N
  have hlast : (endsL N).getD (Int.toNat (IntKind.i64.wrap ((List.length (endsL N) : Int) - 1)) * Ty.int.size) (Ty.dflt .int) = (usedN N : Int) := by
    have e1 : Int.toNat (IntKind.i64.wrap ((List.length (endsL N) : Int) - 1)) * Ty.int.size = N.length - 1 := by
      rw [hel, i64w (by omega) (by omega)]
      show Int.toNat _ * 1 = _
      omega
    rw [e1]
    exact endsL_last N hN
  have hsr := u64_rngL sector
  have har := u64_rngL at'
  obtain ⟨K, hK⟩ : ∃ K : Nat, K = (IntKind.u64.wrap sector).toNat % usedN N := ⟨_, rfl⟩
  have hKl : K < usedN N := by rw [hK]; exact Nat.mod_lt _ hup
  have eK0 : Int.tmod (IntKind.u64.wrap sector) (usedN N : Int) = (K : Int) := by
    rw [Int.tmod_eq_emod_of_nonneg hsr.1, hK]
    have : IntKind.u64.wrap sector = ((IntKind.u64.wrap sector).toNat : Int) := by omega
    rw [this, Int.toNat_natCast]; rfl
  have eK : (IntKind.i64.wrap (Int.tmod (IntKind.u64.wrap sector) (IntKind.u64.wrap ((endsL N).getD (Int.toNat (IntKind.i64.wrap ((List.length (endsL N) : Int) - 1)) * Ty.int.size) (Ty.dflt .int))))) = (K : Int) := by rw [hlast, u64w (n := (usedN N : Int)) (by omega) (by omega), eK0, i64w (by omega) (by omega)]
  obtain ⟨P, hP⟩ : ∃ P : Nat, P = (IntKind.u64.wrap at').toNat % 128 := ⟨_, rfl⟩
  have hPl : P < 128 := by rw [hP]; exact Nat.mod_lt _ (by decide)
  have eP : (Int.tmod (IntKind.u64.wrap at') 128) = (P : Int) := by
    rw [Int.tmod_eq_emod_of_nonneg har.1, hP]
    have : IntKind.u64.wrap at' = ((IntKind.u64.wrap at').toNat : Int) := by omega
    rw [this, Int.toNat_natCast]; rfl
  obtain ⟨S, hS⟩ : ∃ S, S = sec (wZ 40 N) K := ⟨_, rfl⟩
  have eS : (wZ 40 N).getD (Int.toNat (K : Int)) tB.dflt = S := by rw [Int.toNat_natCast, hS]
  have hSl : S.length = 128 := by rw [hS]; exact hInv.all _ (getD_mem tB.dflt (by rw [hwl]; omega))
  obtain ⟨S', hS'⟩ : ∃ S', S' = S.set P (UInt8.ofNat (IntKind.u8.wrap ((BitVec.ofInt IntKind.u8.bits ((S.getD P 0).toNat : Int) ^^^ BitVec.ofInt IntKind.u8.bits (by'.toNat : Int)).toNat : Nat)).toNat) := ⟨_, rfl⟩
  have eS' : (S.set (Int.toNat (Int.tmod (IntKind.u64.wrap at') 128) * Ty.u8.size) (UInt8.ofNat (Int.toNat (IntKind.u8.wrap ((BitVec.ofInt IntKind.u8.bits ((S.getD (Int.toNat (Int.tmod (IntKind.u64.wrap at') 128) * Ty.u8.size) (Ty.dflt .u8)).toNat : Int) ^^^ BitVec.ofInt IntKind.u8.bits (by'.toNat : Int)).toNat : Nat))))) = S' := by
    rw [eP, Int.toNat_natCast, show P * Ty.u8.size = P from Nat.mul_one P, hS']; rfl
  have hSl' : S'.length = 128 := by rw [hS', List.length_set, hSl]
  have f1 : decide ((K : Int) ≥ ((wZ 40 N).length : Int)) = false := decide_eq_false (by rw [hwl]; omega)
  have f2 : decide ((List.length (endsL N) : Int) > (N.length : Int)) = false := decide_eq_false (by rw [hel]; omega)
  have f3 : ((((wZ 40 N).getD (Int.toNat (K : Int)) tB.dflt).length : Int) != 128) = false := by rw [eS, hSl]; decide
  have hw1 := write_one hInv (k := K) (by rw [hwl]; omega) hSl'
  have h26 : ACalls 26 [aD (wZ 40 N) [] (-1) false, o1 (vI K), aB S'] (.tup [.agg [.sl tB (wZ 40 N), .sl tW [((K : Int), S')], vI (-1), vB false], .one (vI 0)]) := by
    have := c26 (wZ 40 N) [] (-1) false K S'
    rw [hw1.1] at this
    exact this
  have h30 : ACalls 30 [aD (wZ 40 N) [((K : Int), S')] (-1) false] (.tup [.agg [.sl tB ((wZ 40 N).set K S'), .sl tW [], vI (-1), vB false], .one (vI 0)]) := by
    have := c30 (wZ 40 N) [((K : Int), S')] (-1) false
    rw [hw1.2] at this
    exact this
  have hrec : recs ((wZ 40 N).set K S') = N.take (cnt N K) := by
    rw [hS', hS]
    exact damage 40 (by decide) (by decide) N hu K P _ hKl hPl (xor_byte _ _ hby)
  obtain ⟨m1, hm1⟩ : ∃ m1 : Int, m1 = (((wZ 40 N).set K S').length : Int) := ⟨_, rfl⟩
  obtain ⟨m2, hm2⟩ : ∃ m2 : Int, m2 = ((N.take (cnt N K)).length : Int) := ⟨_, rfl⟩
  have h38b : ACalls 38 [aD ((wZ 40 N).set K S') [] (-1) false] (.tup [.agg [.sl tB (N.take (cnt N K)), vI m1, vI m2], .one (vI 0)]) := by
    have := c38 ((wZ 40 N).set K S') [] (-1) false
    rw [show jOpen ⟨(wZ 40 N).set K S', [], -1, false⟩ = _ from open_any (set_ok hInv hSl'), hrec] at this
    rw [hm1, hm2]
    exact this
  have hcl := cnt_le N K
  repeat' (first
      | (exact absurd hb (by rw [hne]; decide))
      | (exact absurd hb (by rw [f1]; decide))
      | (exact absurd hb (by rw [f2]; decide))
      | (exact absurd hb (by rw [f3]; decide))
      | (refine awc_at (id := 25) (s' := ⟨211, [(1, o1 (vI sector)), (2, o1 (vI at')), (3, o1 (.v (.int .u8 (by'.toNat : Int)))), (11, o1 (.ptr 11 0)), (13, o1 (.own 1000)), (20, o1 (.ptr 20 0)), (22, o1 (vI K))], [(11, .box [.sl tB N, vI 40, vI 0]), (1000, .own .int (endsL N)), (20, .box [.sl tB (wZ 40 N), .sl tW [], vI (-1), vB false])]⟩) (Wk.ren [] rfl ⟨rfl, rfl, rfl, rfl, rfl, rfl, eqVI eK, trivial⟩ ⟨rfl, rfl, rfl, trivial⟩ rfl) ?_)
      | (refine awc_at (id := 28) (s' := ⟨211, [(1, o1 (vI sector)), (2, o1 (vI at')), (3, o1 (.v (.int .u8 (by'.toNat : Int)))), (11, o1 (.ptr 11 0)), (13, o1 (.own 1000)), (20, o1 (.ptr 20 0)), (22, o1 (vI K)), (23, o1 (.own 151))], [(11, .box [.sl tB N, vI 40, vI 0]), (1000, .own .int (endsL N)), (20, .box [.sl tB (wZ 40 N), .sl tW [], vI (-1), vB false]), (151, .own .u8 S)]⟩) (Wk.ren [] rfl ⟨rfl, rfl, rfl, rfl, rfl, rfl, rfl, rfl, trivial⟩ ⟨rfl, rfl, rfl, congrArg (HB.own .u8) eS, trivial⟩ rfl) ?_)
      | (refine awc_at (id := 29) (s' := ⟨211, [(11, o1 (.ptr 11 0)), (13, o1 (.own 1000)), (20, o1 (.ptr 20 0)), (22, o1 (vI K)), (23, o1 (.own 151))], [(11, .box [.sl tB N, vI 40, vI 0]), (1000, .own .int (endsL N)), (20, .box [.sl tB (wZ 40 N), .sl tW [], vI (-1), vB false]), (151, .own .u8 S')]⟩) (Wk.ren [] rfl ⟨rfl, rfl, rfl, rfl, rfl, trivial⟩ ⟨rfl, rfl, rfl, congrArg (HB.own .u8) eS', trivial⟩ rfl) ?_)
      | exact True.intro
      | exact rfl
      | refine And.intro rfl ?_
      | refine awc_seq ?_
      | refine awc_region ?_
      | refine awc_draw ?_
      | refine awt_a rfl rfl rfl ?_ ?_
      | refine awt_call0 rfl (h39) rfl rfl rfl rfl rfl ?_
      | refine awt_call1 rfl (h39) rfl rfl rfl rfl rfl ?_
      | refine awt_call2 rfl (h39) rfl rfl rfl rfl rfl ?_
      | refine awt_call0 rfl (h26) rfl rfl rfl rfl rfl ?_
      | refine awt_call1 rfl (h26) rfl rfl rfl rfl rfl ?_
      | refine awt_call2 rfl (h26) rfl rfl rfl rfl rfl ?_
      | refine awt_call0 rfl (h30) rfl rfl rfl rfl rfl ?_
      | refine awt_call1 rfl (h30) rfl rfl rfl rfl rfl ?_
      | refine awt_call2 rfl (h30) rfl rfl rfl rfl rfl ?_
      | refine awt_call0 rfl (h38b) rfl rfl rfl rfl rfl ?_
      | refine awt_call1 rfl (h38b) rfl rfl rfl rfl rfl ?_
      | refine awt_call2 rfl (h38b) rfl rfl rfl rfl rfl ?_
      | refine awt_b rfl rfl rfl rfl ?_ ?_
      | refine awt_c rfl rfl rfl ?_ ?_
      | refine awt_gt rfl rfl ?_
      | refine awt_gf rfl rfl rfl ?_
      | refine awt_gu rfl rfl rfl ?_
      | (refine awt_h rfl rfl rfl ?_ ?_ <;> intro hb)
      | refine awt_nil ?_
      | refine dq (by kernel_rfl) ?_
      | refine thn_n ?_
      | refine thn_r ?_
      | refine thn_e ?_
      | refine awc_condT rfl ?_
      | refine awc_condF rfl ?_
      | (refine awc_cond rfl ?_ ?_ <;> intro hb)
      | refine awc_block ?_
      | refine blk_n ?_
      | refine blk_r ?_
      | refine blk_e ?_
      | refine blk_o rfl ?_
      | refine awc_ret ?_
      | refine awc_skip ?_
      | refine awc_label ?_
      | refine awc_exit ?_
      | refine retq_r ?_
      | refine retq_n ?_
      | exact ResIs.tv rfl
      | exact ResIs.ts rfl
      | exact ResIs.tc rfl
      | exact ResIs.tn rfl rfl
      | exact ResIs.to rfl rfl
      | apply ResIs.tagg rfl
      | exact ResIs.cv rfl trivial
      | exact ResIs.cs rfl trivial
      | exact ResIs.cn rfl trivial rfl
      | exact ResIs.co rfl trivial rfl
      | apply ResIs.cagg rfl trivial
      | exact CoeL.nil
      | apply CoeL.v
      | apply CoeL.sl
      | apply CoeL.clp
      | apply CoeL.emp rfl
      | apply CoeL.own rfl
      | apply ret_one
      | apply ret_two
      | apply ret_three
      | exact rawq_r rfl
      | apply rawq_rc rfl
      | apply ownq_rv rfl rfl)
  · rw [hel, i64w (by omega) (by omega)]; omega
  · rw [hel, i64w (by omega) (by omega)]
    show Int.toNat _ * 1 < _
    omega
  · rw [hlast, u64w (by omega) (by omega)]; omega
  · rw [hwl]; omega
  · rw [hwl]; omega
  · show List.length ((wZ 40 N).getD (Int.toNat (K : Int)) tB.dflt) * 1 ≤ _
    rw [eS, hSl]; decide
  · decide
  · rw [eP, hSl]; omega
  · rw [eP, hSl]
    show Int.toNat (P : Int) * 1 < 128
    omega
  · rw [eP, hSl]; omega
  · refine ⟨u8_rng _, rfl, rfl, ?_⟩
    rw [eP, hSl]
    show Int.toNat (P : Int) * 1 < 128
    omega
  refine awc_loop (α := Nat) (fun w => ⟨211, [(11, o1 (.ptr 11 0)), (13, o1 (.own 1000)), (21, o1 (vI 0)), (22, o1 (vI K)), (24, o1 (vI 0)), (25, o1 (.ptr 25 0)), (26, o1 (vI 0)), (27, o1 (vI w))], [(11, .box [.sl tB N, vI 40, vI 0]), (1000, .own .int (endsL N)), (25, .box [.sl tB (N.take (cnt N K)), vI m1, vI m2])]⟩) (fun w => w ≤ cnt N K) (fun w => N.length - w) 0 (Wk.ren [] rfl ⟨rfl, rfl, rfl, rfl, rfl, rfl, rfl, rfl, trivial⟩ ⟨rfl, rfl, rfl, trivial⟩ rfl) (Nat.zero_le _) ?_
  intro w hw
  have eW : ∀ h : w < N.length, (endsL N).getD (Int.toNat (w : Int) * Ty.int.size) (Ty.dflt .int) = (usedN (N.take (w + 1)) : Int) := fun h => by
    rw [Int.toNat_natCast, show w * Ty.int.size = w from Nat.mul_one w]
    exact endsL_get N w h
  by_cases hc : w < cnt N K
  · have hwN : w < N.length := by omega
    have g1 : decide ((w : Int) < (List.length (endsL N) : Int)) = true := decide_eq_true (by rw [hel]; omega)
    have g2 : decide ((endsL N).getD (Int.toNat (w : Int) * Ty.int.size) (Ty.dflt .int) ≤ (K : Int)) = true := decide_eq_true (by rw [eW hwN]; have := (cnt_spec N K w hwN).2 hc; omega)
    repeat' (first
        | (exact absurd hb (by rw [g1]; decide))
        | (exact absurd hb (by rw [g2]; decide))
        | exact True.intro
        | exact rfl
        | refine And.intro rfl ?_
        | refine awc_seq ?_
        | refine awc_region ?_
        | refine awc_draw ?_
        | refine awt_a rfl rfl rfl ?_ ?_
        | refine awt_b rfl rfl rfl rfl ?_ ?_
        | refine awt_c rfl rfl rfl ?_ ?_
        | refine awt_gt rfl rfl ?_
        | refine awt_gf rfl rfl rfl ?_
        | refine awt_gu rfl rfl rfl ?_
        | (refine awt_h rfl rfl rfl ?_ ?_ <;> intro hb)
        | refine awt_nil ?_
        | refine dq (by kernel_rfl) ?_
        | refine thn_n ?_
        | refine thn_r ?_
        | refine thn_e ?_
        | refine awc_condT rfl ?_
        | refine awc_condF rfl ?_
        | (refine awc_cond rfl ?_ ?_ <;> intro hb)
        | refine awc_block ?_
        | refine blk_n ?_
        | refine blk_r ?_
        | refine blk_e ?_
        | refine blk_o rfl ?_
        | refine awc_ret ?_
        | refine awc_skip ?_
        | refine awc_label ?_
        | refine awc_exit ?_
        | refine retq_r ?_
        | refine retq_n ?_
        | exact ResIs.tv rfl
        | exact ResIs.ts rfl
        | exact ResIs.tc rfl
        | exact ResIs.tn rfl rfl
        | exact ResIs.to rfl rfl
        | apply ResIs.tagg rfl
        | exact ResIs.cv rfl trivial
        | exact ResIs.cs rfl trivial
        | exact ResIs.cn rfl trivial rfl
        | exact ResIs.co rfl trivial rfl
        | apply ResIs.cagg rfl trivial
        | exact CoeL.nil
        | apply CoeL.v
        | apply CoeL.sl
        | apply CoeL.clp
        | apply CoeL.emp rfl
        | apply CoeL.own rfl
        | apply ret_one
        | apply ret_two
        | apply ret_three
        | exact rawq_r rfl
        | apply rawq_rc rfl
        | apply ownq_rv rfl rfl)
    · rw [hel]; omega
    · rw [hel]
      show Int.toNat (w : Int) * 1 < _
      omega
    · exact ⟨w + 1, Wk.ren [] rfl ⟨rfl, rfl, rfl, rfl, rfl, rfl, rfl, eqVI (by rw [i64w (by omega) (by omega)]; rfl), trivial⟩ ⟨rfl, rfl, rfl, trivial⟩ rfl, hc, by omega⟩
  · have hwc : w = cnt N K := by omega
    have h41 := c41 (N.take (cnt N K)) (N.take (Int.toNat (w : Int)))
    rw [decide_eq_true (show N.take (cnt N K) = N.take (Int.toNat (w : Int)) by rw [Int.toNat_natCast, hwc])] at h41
    by_cases hwN : w < N.length
    · have g1 : decide ((w : Int) < (List.length (endsL N) : Int)) = true := decide_eq_true (by rw [hel]; omega)
      have g2 : decide ((endsL N).getD (Int.toNat (w : Int) * Ty.int.size) (Ty.dflt .int) ≤ (K : Int)) = false := decide_eq_false (by rw [eW hwN]; intro q; exact hc ((cnt_spec N K w hwN).1 (by omega)))
      repeat' (first
          | (exact absurd hb (by rw [g1]; decide))
          | (exact absurd hb (by rw [g2]; decide))
          | exact True.intro
          | exact rfl
          | refine And.intro rfl ?_
          | refine awc_seq ?_
          | refine awc_region ?_
          | refine awc_draw ?_
          | refine awt_a rfl rfl rfl ?_ ?_
          | refine awt_call0 rfl (h41) rfl rfl rfl rfl rfl ?_
          | refine awt_call1 rfl (h41) rfl rfl rfl rfl rfl ?_
          | refine awt_call2 rfl (h41) rfl rfl rfl rfl rfl ?_
          | refine awt_b rfl rfl rfl rfl ?_ ?_
          | refine awt_c rfl rfl rfl ?_ ?_
          | refine awt_gt rfl rfl ?_
          | refine awt_gf rfl rfl rfl ?_
          | refine awt_gu rfl rfl rfl ?_
          | (refine awt_h rfl rfl rfl ?_ ?_ <;> intro hb)
          | refine awt_nil ?_
          | refine dq (by kernel_rfl) ?_
          | refine thn_n ?_
          | refine thn_r ?_
          | refine thn_e ?_
          | refine awc_condT rfl ?_
          | refine awc_condF rfl ?_
          | (refine awc_cond rfl ?_ ?_ <;> intro hb)
          | refine awc_block ?_
          | refine blk_n ?_
          | refine blk_r ?_
          | refine blk_e ?_
          | refine blk_o rfl ?_
          | refine awc_ret ?_
          | refine awc_skip ?_
          | refine awc_label ?_
          | refine awc_exit ?_
          | refine retq_r ?_
          | refine retq_n ?_
          | exact ResIs.tv rfl
          | exact ResIs.ts rfl
          | exact ResIs.tc rfl
          | exact ResIs.tn rfl rfl
          | exact ResIs.to rfl rfl
          | apply ResIs.tagg rfl
          | exact ResIs.cv rfl trivial
          | exact ResIs.cs rfl trivial
          | exact ResIs.cn rfl trivial rfl
          | exact ResIs.co rfl trivial rfl
          | apply ResIs.cagg rfl trivial
          | exact CoeL.nil
          | apply CoeL.v
          | apply CoeL.sl
          | apply CoeL.clp
          | apply CoeL.emp rfl
          | apply CoeL.own rfl
          | apply ret_one
          | apply ret_two
          | apply ret_three
          | exact rawq_r rfl
          | apply rawq_rc rfl
          | apply ownq_rv rfl rfl)
      · rw [hel]; omega
      · rw [hel]
        show Int.toNat (w : Int) * 1 < _
        omega
      · show (0 : Int) ≤ w ∧ (w : Int) ≤ N.length
        omega
    · have g1 : decide ((w : Int) < (List.length (endsL N) : Int)) = false := decide_eq_false (by rw [hel]; omega)
      repeat' (first
          | (exact absurd hb (by rw [g1]; decide))
          | exact True.intro
          | exact rfl
          | refine And.intro rfl ?_
          | refine awc_seq ?_
          | refine awc_region ?_
          | refine awc_draw ?_
          | refine awt_a rfl rfl rfl ?_ ?_
          | refine awt_call0 rfl (h41) rfl rfl rfl rfl rfl ?_
          | refine awt_call1 rfl (h41) rfl rfl rfl rfl rfl ?_
          | refine awt_call2 rfl (h41) rfl rfl rfl rfl rfl ?_
          | refine awt_b rfl rfl rfl rfl ?_ ?_
          | refine awt_c rfl rfl rfl ?_ ?_
          | refine awt_gt rfl rfl ?_
          | refine awt_gf rfl rfl rfl ?_
          | refine awt_gu rfl rfl rfl ?_
          | (refine awt_h rfl rfl rfl ?_ ?_ <;> intro hb)
          | refine awt_nil ?_
          | refine dq (by kernel_rfl) ?_
          | refine thn_n ?_
          | refine thn_r ?_
          | refine thn_e ?_
          | refine awc_condT rfl ?_
          | refine awc_condF rfl ?_
          | (refine awc_cond rfl ?_ ?_ <;> intro hb)
          | refine awc_block ?_
          | refine blk_n ?_
          | refine blk_r ?_
          | refine blk_e ?_
          | refine blk_o rfl ?_
          | refine awc_ret ?_
          | refine awc_skip ?_
          | refine awc_label ?_
          | refine awc_exit ?_
          | refine retq_r ?_
          | refine retq_n ?_
          | exact ResIs.tv rfl
          | exact ResIs.ts rfl
          | exact ResIs.tc rfl
          | exact ResIs.tn rfl rfl
          | exact ResIs.to rfl rfl
          | apply ResIs.tagg rfl
          | exact ResIs.cv rfl trivial
          | exact ResIs.cs rfl trivial
          | exact ResIs.cn rfl trivial rfl
          | exact ResIs.co rfl trivial rfl
          | apply ResIs.cagg rfl trivial
          | exact CoeL.nil
          | apply CoeL.v
          | apply CoeL.sl
          | apply CoeL.clp
          | apply CoeL.emp rfl
          | apply CoeL.own rfl
          | apply ret_one
          | apply ret_two
          | apply ret_three
          | exact rawq_r rfl
          | apply rawq_rc rfl
          | apply ownq_rv rfl rfl)
      show (0 : Int) ≤ w ∧ (w : Int) ≤ N.length
      omega
end B
end Go.Proofs.Ytbmnhagbplkagaa
