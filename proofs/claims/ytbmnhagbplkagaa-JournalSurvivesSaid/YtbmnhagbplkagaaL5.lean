import Derived.Test.YtbmnhagbplkagaaD12
import Derived.Test.YtbmnhagbplkagaaP7
import Derived.Test.YtbmnhagbplkagaaB30
/- The law JournalSurvives answers true at every number and every sequence of writings. -/
namespace Go.Proofs.Ytbmnhagbplkagaa
namespace B
open Go.RowKit
set_option maxHeartbeats 4000000
set_option maxRecDepth 100000
attribute [local irreducible] awc awT thn blk DQ retQ rawQ ownQ retOk ResIs

theorem open_inv {l K : List (List UInt8)} {G : Nat} (h : DInv l K G) : ACalls 38 [aD l [] (-1) false] (.tup [.agg [.sl tB K, vI l.length, vI K.length], .one (vI 0)]) := by
  have := c38 l [] (-1) false
  rw [show jOpen ⟨l, [], -1, false⟩ = _ from h.open (left := -1) (by decide) (by decide)] at this
  exact this
theorem c7 (sn : UInt8) (script : List (tCr.T)) : ACalls 7 [o1 (.v (.int .u8 (sn.toNat : Int))), o1 (.sl tCr script)] (o1 (vB true)) := by
  have hsn := sn.toNat_lt
  obtain ⟨n, hn⟩ : ∃ n : Nat, n = sn.toNat % 30 + 1 := ⟨_, rfl⟩
  have hn1 : 1 ≤ n ∧ n ≤ 30 := by omega
  have e0 : Int.tmod (sn.toNat : Int) 30 = ((sn.toNat % 30 : Nat) : Int) := by rw [Int.tmod_eq_emod_of_nonneg (by omega)]; rfl
  have eN : IntKind.i64.wrap (IntKind.i64.wrap (Int.tmod (sn.toNat : Int) 30) + 1) = (n : Int) := by
    rw [e0, i64w (n := ((sn.toNat % 30 : Nat) : Int)) (by omega) (by omega), i64w (by omega) (by omega)]; omega
  have h19 : ACalls 19 [o1 (vI (IntKind.i64.wrap (IntKind.i64.wrap (Int.tmod (sn.toNat : Int) 30) + 1)))] (.tup [.agg [.sl tB (List.replicate n zSec), .sl tW [], vI (-1), vB false], .one (vI 0)]) := by
    rw [eN]
    have := c19 n
    rw [show dNew n = _ from dNew_ok n (by omega) (by omega)] at this
    exact this
  have hnew := new_inv n (by omega) (by omega)
  refine acalls (n := 195) (rs := [.tmp 4]) (Ts := [4]) Try.func7 rfl rfl rfl rfl rfl rfl ?_
  refine awc_bd 1 _ rfl ?_
  intro hbd
  repeat' (first
      | exact True.intro
      | exact rfl
      | refine And.intro rfl ?_
      | refine awc_seq ?_
      | refine awc_region ?_
      | refine awc_draw ?_
      | refine awt_a rfl rfl rfl ?_ ?_
      | refine awt_call0 rfl (c34) rfl rfl rfl rfl rfl ?_
      | refine awt_call1 rfl (c34) rfl rfl rfl rfl rfl ?_
      | refine awt_call2 rfl (c34) rfl rfl rfl rfl rfl ?_
      | refine awt_call0 rfl (h19) rfl rfl rfl rfl rfl ?_
      | refine awt_call1 rfl (h19) rfl rfl rfl rfl rfl ?_
      | refine awt_call2 rfl (h19) rfl rfl rfl rfl rfl ?_
      | refine awt_b rfl rfl rfl rfl ?_ ?_
      | refine awt_c rfl rfl rfl ?_ ?_
      | refine awt_gt rfl rfl ?_
      | refine awt_gf rfl rfl rfl ?_
      | refine awt_gu rfl rfl rfl ?_
      | (refine awt_h rfl rfl rfl ?_ ?_ <;> intro hb)
      | refine awt_nil ?_
      | refine dq (by kernel_rfl) ?_
      | refine thn_n ?_
      | refine thn_r ?_
      | refine thn_e ?_
      | refine awc_condT rfl ?_
      | refine awc_condF rfl ?_
      | (refine awc_cond rfl ?_ ?_ <;> intro hb)
      | refine awc_block ?_
      | refine blk_n ?_
      | refine blk_r ?_
      | refine blk_e ?_
      | refine blk_o rfl ?_
      | refine awc_ret ?_
      | refine awc_skip ?_
      | refine awc_label ?_
      | refine awc_exit ?_
      | refine retq_r ?_
      | refine retq_n ?_
      | exact ResIs.tv rfl
      | exact ResIs.ts rfl
      | exact ResIs.tc rfl
      | exact ResIs.tn rfl rfl
      | exact ResIs.to rfl rfl
      | apply ResIs.tagg rfl
      | exact ResIs.cv rfl trivial
      | exact ResIs.cs rfl trivial
      | exact ResIs.cn rfl trivial rfl
      | exact ResIs.co rfl trivial rfl
      | apply ResIs.cagg rfl trivial
      | exact CoeL.nil
      | apply CoeL.v
      | apply CoeL.sl
      | apply CoeL.clp
      | apply CoeL.emp rfl
      | apply CoeL.own rfl
      | apply ret_one
      | apply ret_two
      | apply ret_three
      | exact rawq_r rfl
      | apply rawq_rc rfl
      | apply ownq_rv rfl rfl)
  · decide
  have hsl : script.length ≤ 8 := by have := of_decide_eq_false hb; omega
  clear hb
  refine awc_loop (α := Nat × List (List UInt8) × List (List UInt8)) (fun i => ⟨195, [(5, o1 (.ptr 5 0)), (7, aBB i.2.2), (38, o1 (.sl tCr script)), (39, o1 (vI script.length)), (40, o1 (vI i.1))], [(5, .box [.sl tB i.2.1, .sl tW [], vI (-1), vB false])]⟩) (fun i => i.1 ≤ script.length ∧ DInv i.2.1 i.2.2 i.1 ∧ i.2.1.length = n) (fun i => script.length - i.1) (0, List.replicate n zSec, []) (Wk.trans (Wk.sl 7 22 .emp rfl rfl) (Wk.ren [] rfl ⟨rfl, rfl, rfl, rfl, rfl, trivial⟩ ⟨rfl, trivial⟩ rfl)) ⟨Nat.zero_le _, hnew, List.length_replicate⟩ ?_
  rintro ⟨i, l, K⟩ ⟨h1, h2, h3⟩
  dsimp only at h1 h2 h3 ⊢
  have h38 := open_inv h2
  have h41 := c41 K K
  rw [decide_eq_true rfl] at h41
  by_cases hil : ¬ i < script.length
  · skip
    repeat' (first
        | exact True.intro
        | exact rfl
        | refine And.intro rfl ?_
        | refine awc_seq ?_
        | refine awc_region ?_
        | refine awc_draw ?_
        | refine awt_a rfl rfl rfl ?_ ?_
        | refine awt_call0 rfl (h38) rfl rfl rfl rfl rfl ?_
        | refine awt_call1 rfl (h38) rfl rfl rfl rfl rfl ?_
        | refine awt_call2 rfl (h38) rfl rfl rfl rfl rfl ?_
        | refine awt_call0 rfl (h41) rfl rfl rfl rfl rfl ?_
        | refine awt_call1 rfl (h41) rfl rfl rfl rfl rfl ?_
        | refine awt_call2 rfl (h41) rfl rfl rfl rfl rfl ?_
        | refine awt_b rfl rfl rfl rfl ?_ ?_
        | refine awt_c rfl rfl rfl ?_ ?_
        | refine awt_gt rfl rfl ?_
        | refine awt_gf rfl rfl rfl ?_
        | refine awt_gu rfl rfl rfl ?_
        | (refine awt_h rfl rfl rfl ?_ ?_ <;> intro hb)
        | refine awt_nil ?_
        | refine dq (by kernel_rfl) ?_
        | refine thn_n ?_
        | refine thn_r ?_
        | refine thn_e ?_
        | refine awc_condT rfl ?_
        | refine awc_condF rfl ?_
        | (refine awc_cond rfl ?_ ?_ <;> intro hb)
        | refine awc_block ?_
        | refine blk_n ?_
        | refine blk_r ?_
        | refine blk_e ?_
        | refine blk_o rfl ?_
        | refine awc_ret ?_
        | refine awc_skip ?_
        | refine awc_label ?_
        | refine awc_exit ?_
        | refine retq_r ?_
        | refine retq_n ?_
        | exact ResIs.tv rfl
        | exact ResIs.ts rfl
        | exact ResIs.tc rfl
        | exact ResIs.tn rfl rfl
        | exact ResIs.to rfl rfl
        | apply ResIs.tagg rfl
        | exact ResIs.cv rfl trivial
        | exact ResIs.cs rfl trivial
        | exact ResIs.cn rfl trivial rfl
        | exact ResIs.co rfl trivial rfl
        | apply ResIs.cagg rfl trivial
        | exact CoeL.nil
        | apply CoeL.v
        | apply CoeL.sl
        | apply CoeL.clp
        | apply CoeL.emp rfl
        | apply CoeL.own rfl
        | apply ret_one
        | apply ret_two
        | apply ret_three
        | exact rawq_r rfl
        | apply rawq_rc rfl
        | apply ownq_rv rfl rfl)
    all_goals (try (exfalso; have := of_decide_eq_true hb; omega))
  have hil := Decidable.of_not_not hil
  obtain ⟨⟨R, sp, lf⟩, hx⟩ : ∃ x, x = script.getD i (Ty.dflt tCr) := ⟨_, rfl⟩
  have ex : script.getD (Int.toNat (i : Int)) (Ty.dflt tCr) = (R, sp, lf) := by rw [Int.toNat_natCast, hx]
  have hlf := lf.toNat_lt
  have hRl : R.length * 24 ≤ 140737488355328 := by
    have h9 := hbd.2 _ (getD_mem (Ty.dflt tCr) hil)
    rw [← hx] at h9
    exact h9.1.1
  have hu := h2.used
  have hlen := h2.len
  have hKl := len_le_usedN K
  have f1 : ((K.length : Int) != (K.length : Int)) = false := by rw [bne_eq_false_iff_eq]
  repeat' (first
      | (exact absurd hb (by rw [f1]; decide))
      | (refine awc_new56 (l1 := [_, _]) ?_)
      | (refine ⟨rfl, rfl, ?_⟩)
      | (refine awc_at (id := 12) (s' := ⟨195, [(5, o1 (.ptr 5 0)), (7, aBB K), (9, o1 (.ptr 9 0)), (38, o1 (.sl tCr script)), (39, o1 (vI script.length)), (40, o1 (vI i))], [(5, .box [.sl tB l, .sl tW [], vI (-1), vB false]), (9, .box [.sl tB R, vB sp, .v (.int .u8 (lf.toNat : Int))])]⟩) (Wk.ren [] rfl ⟨rfl, rfl, rfl, rfl, rfl, rfl, trivial⟩ ⟨rfl, congrArg (fun z : List (List UInt8) × Bool × UInt8 => HB.box [.sl tB z.1, .v (.bool z.2.1), .v (.int .u8 (z.2.2.toNat : Int))]) ex, trivial⟩ rfl) ?_)
      | exact True.intro
      | exact rfl
      | refine And.intro rfl ?_
      | refine awc_seq ?_
      | refine awc_region ?_
      | refine awc_draw ?_
      | refine awt_a rfl rfl rfl ?_ ?_
      | refine awt_call0 rfl (c35 _ _ _ _ _) rfl rfl rfl rfl rfl ?_
      | refine awt_call1 rfl (c35 _ _ _ _ _) rfl rfl rfl rfl rfl ?_
      | refine awt_call2 rfl (c35 _ _ _ _ _) rfl rfl rfl rfl rfl ?_
      | refine awt_call0 rfl (h38) rfl rfl rfl rfl rfl ?_
      | refine awt_call1 rfl (h38) rfl rfl rfl rfl rfl ?_
      | refine awt_call2 rfl (h38) rfl rfl rfl rfl rfl ?_
      | refine awt_call0 rfl (h41) rfl rfl rfl rfl rfl ?_
      | refine awt_call1 rfl (h41) rfl rfl rfl rfl rfl ?_
      | refine awt_call2 rfl (h41) rfl rfl rfl rfl rfl ?_
      | refine awt_b rfl rfl rfl rfl ?_ ?_
      | refine awt_c rfl rfl rfl ?_ ?_
      | refine awt_gt rfl rfl ?_
      | refine awt_gf rfl rfl rfl ?_
      | refine awt_gu rfl rfl rfl ?_
      | (refine awt_h rfl rfl rfl ?_ ?_ <;> intro hb)
      | refine awt_nil ?_
      | refine dq (by kernel_rfl) ?_
      | refine thn_n ?_
      | refine thn_r ?_
      | refine thn_e ?_
      | refine awc_condT rfl ?_
      | refine awc_condF rfl ?_
      | (refine awc_cond rfl ?_ ?_ <;> intro hb)
      | refine awc_block ?_
      | refine blk_n ?_
      | refine blk_r ?_
      | refine blk_e ?_
      | refine blk_o rfl ?_
      | refine awc_ret ?_
      | refine awc_skip ?_
      | refine awc_label ?_
      | refine awc_exit ?_
      | refine retq_r ?_
      | refine retq_n ?_
      | exact ResIs.tv rfl
      | exact ResIs.ts rfl
      | exact ResIs.tc rfl
      | exact ResIs.tn rfl rfl
      | exact ResIs.to rfl rfl
      | apply ResIs.tagg rfl
      | exact ResIs.cv rfl trivial
      | exact ResIs.cs rfl trivial
      | exact ResIs.cn rfl trivial rfl
      | exact ResIs.co rfl trivial rfl
      | apply ResIs.cagg rfl trivial
      | exact CoeL.nil
      | apply CoeL.v
      | apply CoeL.sl
      | apply CoeL.clp
      | apply CoeL.emp rfl
      | apply CoeL.own rfl
      | apply ret_one
      | apply ret_two
      | apply ret_three
      | exact rawq_r rfl
      | apply rawq_rc rfl
      | apply ownq_rv rfl rfl)
  · exact ⟨by omega, by omega⟩
  clear hb
  refine awc_mid (α := List (List UInt8)) (fun N => ⟨195, [(5, o1 (.ptr 5 0)), (7, aBB K), (9, o1 (.ptr 9 0)), (10, o1 (.ptr 10 0)), (38, o1 (.sl tCr script)), (39, o1 (vI script.length)), (40, o1 (vI i))], [(5, .box [.sl tB l, .sl tW [], vI (-1), vB false]), (9, .box [.sl tB R, vB sp, .v (.int .u8 (lf.toNat : Int))]), (10, .box [.sl tB (K ++ N), vI l.length, vI K.length])]⟩) (fun N => usedN K + usedN N ≤ l.length) ?_ ?_
  · refine awc_loop (α := Nat × List (List UInt8)) (fun j => ⟨195, [(5, o1 (.ptr 5 0)), (7, aBB K), (9, o1 (.ptr 9 0)), (10, o1 (.ptr 10 0)), (38, o1 (.sl tCr script)), (39, o1 (vI script.length)), (40, o1 (vI i)), (72, aBB R), (73, o1 (vI R.length)), (74, o1 (vI j.1))], [(5, .box [.sl tB l, .sl tW [], vI (-1), vB false]), (9, .box [.sl tB R, vB sp, .v (.int .u8 (lf.toNat : Int))]), (10, .box [.sl tB (K ++ j.2), vI l.length, vI K.length])]⟩) (fun j => j.1 ≤ R.length ∧ usedN K + usedN j.2 ≤ l.length) (fun j => R.length - j.1) (0, []) (Wk.ren [] rfl ⟨rfl, rfl, rfl, rfl, rfl, rfl, rfl, rfl, rfl, rfl, trivial⟩ ⟨rfl, rfl, congrArg (fun z => HB.box [.sl tB z, vI l.length, vI K.length]) (List.append_nil K).symm, trivial⟩ rfl) ⟨Nat.zero_le _, by simp only [usedN]; omega⟩ ?_
    rintro ⟨j, N⟩ ⟨j1, j2⟩
    dsimp only at j1 j2 ⊢
    by_cases hjl : j < R.length
    · have huN := usedN_app K N
      have hll := len_le_usedN (K ++ N)
      have hjb : jBad (K ++ N) l.length K.length = false := jBad_ok h2.one hlen (by omega) (by rw [List.length_append]; omega) (by omega)
      have h37 := c37 (K ++ N) l.length K.length (R.getD (Int.toNat (j : Int)) tB.dflt) (by omega)
      rw [jApp_ok (m := l.length) hjb (by omega) hlen] at h37
      by_cases hf : usedN (K ++ N) + secN (List.length (R.getD (Int.toNat (j : Int)) tB.dflt)) ≤ l.length
      · rw [if_pos hf] at h37
        repeat' (first
            | exact True.intro
            | exact rfl
            | refine And.intro rfl ?_
            | refine awc_seq ?_
            | refine awc_region ?_
            | refine awc_draw ?_
            | refine awt_a rfl rfl rfl ?_ ?_
            | refine awt_call0 rfl (h37) rfl rfl rfl rfl rfl ?_
            | refine awt_call1 rfl (h37) rfl rfl rfl rfl rfl ?_
            | refine awt_call2 rfl (h37) rfl rfl rfl rfl rfl ?_
            | refine awt_b rfl rfl rfl rfl ?_ ?_
            | refine awt_c rfl rfl rfl ?_ ?_
            | refine awt_gt rfl rfl ?_
            | refine awt_gf rfl rfl rfl ?_
            | refine awt_gu rfl rfl rfl ?_
            | (refine awt_h rfl rfl rfl ?_ ?_ <;> intro hb)
            | refine awt_nil ?_
            | refine dq (by kernel_rfl) ?_
            | refine thn_n ?_
            | refine thn_r ?_
            | refine thn_e ?_
            | refine awc_condT rfl ?_
            | refine awc_condF rfl ?_
            | (refine awc_cond rfl ?_ ?_ <;> intro hb)
            | refine awc_block ?_
            | refine blk_n ?_
            | refine blk_r ?_
            | refine blk_e ?_
            | refine blk_o rfl ?_
            | refine awc_ret ?_
            | refine awc_skip ?_
            | refine awc_label ?_
            | refine awc_exit ?_
            | refine retq_r ?_
            | refine retq_n ?_
            | exact ResIs.tv rfl
            | exact ResIs.ts rfl
            | exact ResIs.tc rfl
            | exact ResIs.tn rfl rfl
            | exact ResIs.to rfl rfl
            | apply ResIs.tagg rfl
            | exact ResIs.cv rfl trivial
            | exact ResIs.cs rfl trivial
            | exact ResIs.cn rfl trivial rfl
            | exact ResIs.co rfl trivial rfl
            | apply ResIs.cagg rfl trivial
            | exact CoeL.nil
            | apply CoeL.v
            | apply CoeL.sl
            | apply CoeL.clp
            | apply CoeL.emp rfl
            | apply CoeL.own rfl
            | apply ret_one
            | apply ret_two
            | apply ret_three
            | exact rawq_r rfl
            | apply rawq_rc rfl
            | apply ownq_rv rfl rfl)
        all_goals (try (exfalso; have := of_decide_eq_false hb; omega))
        · exact ⟨by omega, by omega⟩
        · refine ⟨(j + 1, N ++ [R.getD (Int.toNat (j : Int)) tB.dflt]), Wk.ren [] rfl ⟨rfl, rfl, rfl, rfl, rfl, rfl, rfl, rfl, rfl, eqVI (by rw [i64w (by omega) (by omega)]; rfl), trivial⟩ ⟨rfl, rfl, congrArg (fun z => HB.box [.sl tB z, vI l.length, vI K.length]) (List.append_assoc K N [R.getD (Int.toNat (j : Int)) tB.dflt]), trivial⟩ rfl, ⟨hjl, ?_⟩, by dsimp only; omega⟩
          have e1 := usedN_app N [R.getD (Int.toNat (j : Int)) tB.dflt]
          have e2 : usedN [R.getD (Int.toNat (j : Int)) tB.dflt] = secN (List.length (R.getD (Int.toNat (j : Int)) tB.dflt)) := rfl
          dsimp only
          omega
      · rw [if_neg hf] at h37
        repeat' (first
            | exact True.intro
            | exact rfl
            | refine And.intro rfl ?_
            | refine awc_seq ?_
            | refine awc_region ?_
            | refine awc_draw ?_
            | refine awt_a rfl rfl rfl ?_ ?_
            | refine awt_call0 rfl (h37) rfl rfl rfl rfl rfl ?_
            | refine awt_call1 rfl (h37) rfl rfl rfl rfl rfl ?_
            | refine awt_call2 rfl (h37) rfl rfl rfl rfl rfl ?_
            | refine awt_b rfl rfl rfl rfl ?_ ?_
            | refine awt_c rfl rfl rfl ?_ ?_
            | refine awt_gt rfl rfl ?_
            | refine awt_gf rfl rfl rfl ?_
            | refine awt_gu rfl rfl rfl ?_
            | (refine awt_h rfl rfl rfl ?_ ?_ <;> intro hb)
            | refine awt_nil ?_
            | refine dq (by kernel_rfl) ?_
            | refine thn_n ?_
            | refine thn_r ?_
            | refine thn_e ?_
            | refine awc_condT rfl ?_
            | refine awc_condF rfl ?_
            | (refine awc_cond rfl ?_ ?_ <;> intro hb)
            | refine awc_block ?_
            | refine blk_n ?_
            | refine blk_r ?_
            | refine blk_e ?_
            | refine blk_o rfl ?_
            | refine awc_ret ?_
            | refine awc_skip ?_
            | refine awc_label ?_
            | refine awc_exit ?_
            | refine retq_r ?_
            | refine retq_n ?_
            | exact ResIs.tv rfl
            | exact ResIs.ts rfl
            | exact ResIs.tc rfl
            | exact ResIs.tn rfl rfl
            | exact ResIs.to rfl rfl
            | apply ResIs.tagg rfl
            | exact ResIs.cv rfl trivial
            | exact ResIs.cs rfl trivial
            | exact ResIs.cn rfl trivial rfl
            | exact ResIs.co rfl trivial rfl
            | apply ResIs.cagg rfl trivial
            | exact CoeL.nil
            | apply CoeL.v
            | apply CoeL.sl
            | apply CoeL.clp
            | apply CoeL.emp rfl
            | apply CoeL.own rfl
            | apply ret_one
            | apply ret_two
            | apply ret_three
            | exact rawq_r rfl
            | apply rawq_rc rfl
            | apply ownq_rv rfl rfl)
        all_goals (try (exfalso; have := of_decide_eq_false hb; omega))
        · exact ⟨by omega, by omega⟩
        · exact ⟨(j + 1, N), Wk.ren [] rfl ⟨rfl, rfl, rfl, rfl, rfl, rfl, rfl, rfl, rfl, eqVI (by rw [i64w (by omega) (by omega)]; rfl), trivial⟩ ⟨rfl, rfl, rfl, trivial⟩ rfl, ⟨hjl, j2⟩, by dsimp only; omega⟩
    · skip
      repeat' (first
          | exact True.intro
          | exact rfl
          | refine And.intro rfl ?_
          | refine awc_seq ?_
          | refine awc_region ?_
          | refine awc_draw ?_
          | refine awt_a rfl rfl rfl ?_ ?_
          | refine awt_b rfl rfl rfl rfl ?_ ?_
          | refine awt_c rfl rfl rfl ?_ ?_
          | refine awt_gt rfl rfl ?_
          | refine awt_gf rfl rfl rfl ?_
          | refine awt_gu rfl rfl rfl ?_
          | (refine awt_h rfl rfl rfl ?_ ?_ <;> intro hb)
          | refine awt_nil ?_
          | refine dq (by kernel_rfl) ?_
          | refine thn_n ?_
          | refine thn_r ?_
          | refine thn_e ?_
          | refine awc_condT rfl ?_
          | refine awc_condF rfl ?_
          | (refine awc_cond rfl ?_ ?_ <;> intro hb)
          | refine awc_block ?_
          | refine blk_n ?_
          | refine blk_r ?_
          | refine blk_e ?_
          | refine blk_o rfl ?_
          | refine awc_ret ?_
          | refine awc_skip ?_
          | refine awc_label ?_
          | refine awc_exit ?_
          | refine retq_r ?_
          | refine retq_n ?_
          | exact ResIs.tv rfl
          | exact ResIs.ts rfl
          | exact ResIs.tc rfl
          | exact ResIs.tn rfl rfl
          | exact ResIs.to rfl rfl
          | apply ResIs.tagg rfl
          | exact ResIs.cv rfl trivial
          | exact ResIs.cs rfl trivial
          | exact ResIs.cn rfl trivial rfl
          | exact ResIs.co rfl trivial rfl
          | apply ResIs.cagg rfl trivial
          | exact CoeL.nil
          | apply CoeL.v
          | apply CoeL.sl
          | apply CoeL.clp
          | apply CoeL.emp rfl
          | apply CoeL.own rfl
          | apply ret_one
          | apply ret_two
          | apply ret_three
          | exact rawq_r rfl
          | apply rawq_rc rfl
          | apply ownq_rv rfl rfl)
      all_goals (try (exfalso; have := of_decide_eq_true hb; omega))
      exact ⟨N, Wk.ren [] rfl ⟨rfl, rfl, rfl, rfl, rfl, rfl, rfl, trivial⟩ ⟨rfl, rfl, rfl, trivial⟩ rfl, j2⟩
  intro N huN
  have f2 : decide (((K ++ N).length : Int) < (K.length : Int)) = false := decide_eq_false (by rw [List.length_append]; omega)
  have f3 : (((K ++ N).length : Int) != ((K ++ N).length : Int)) = false := by rw [bne_eq_false_iff_eq]
  have h41b := c41 (K ++ N) (K ++ N)
  rw [decide_eq_true rfl] at h41b
  have eL0 : (Int.tmod (lf.toNat : Int) 40) = ((lf.toNat % 40 : Nat) : Int) := by rw [Int.tmod_eq_emod_of_nonneg (by omega)]; rfl
  have eL : IntKind.i64.wrap (Int.tmod (lf.toNat : Int) 40) = ((lf.toNat % 40 : Nat) : Int) := by rw [eL0, i64w (by omega) (by omega)]
  have hd0 : (⟨l, [], -1, false⟩ : Dk).bad = false := bad_iff.2 ⟨h2.dBad (left := -1) (by omega) (by omega), rfl⟩
  have h32 : ACalls 32 [aD l [] (-1) false, o1 (vI (IntKind.i64.wrap (Int.tmod (lf.toNat : Int) 40)))] (.tup [.agg [.sl tB l, .sl tW [], vI ((lf.toNat % 40 : Nat) : Int), vB false], .one (vI 0)]) := by
    rw [eL]
    have := c32 l [] (-1) false ((lf.toNat % 40 : Nat) : Int)
    have e : dStop ⟨l, [], -1, false⟩ ((lf.toNat % 40 : Nat) : Int) = (⟨l, [], ((lf.toNat % 40 : Nat) : Int), false⟩, 0) := by
      unfold dStop
      rw [hd0, decide_eq_false (show ¬ ((lf.toNat % 40 : Nat) : Int) < 0 by omega), decide_eq_false (show ¬ ((lf.toNat % 40 : Nat) : Int) > 65536 by omega)]
      rfl
    rw [e] at this
    exact this
  have hlenN : l.length ≤ 30 := by omega
  cases sp with
  | true =>
    have hr := round (N := N) h2 (left := ((lf.toNat % 40 : Nat) : Int)) (by omega) (by omega) huN (by omega)
    rcases hr with ⟨y, hy, hi, hyl⟩ | ⟨_, y, m, hy, hi, hyl⟩
    · have h39 : ACalls 39 [aJ (K ++ N) l.length K.length, aD l [] ((lf.toNat % 40 : Nat) : Int) false] (.tup [.agg [.sl tB (K ++ N), vI l.length, vI (K ++ N).length], .agg [.sl tB y.ss, .sl tW y.ps, vI y.left, vB y.st], .one (vI 0)]) := by
        have := c39 (K ++ N) l.length K.length l [] ((lf.toNat % 40 : Nat) : Int) false
        rw [hy] at this
        exact this
      have h24 := c24 y.ss y.ps y.left y.st
      repeat' (first
          | (exact absurd hb (by rw [f2]; decide))
          | (exact absurd hb (by rw [f3]; decide))
          | exact True.intro
          | exact rfl
          | refine And.intro rfl ?_
          | refine awc_seq ?_
          | refine awc_region ?_
          | refine awc_draw ?_
          | refine awt_a rfl rfl rfl ?_ ?_
          | refine awt_call0 rfl (h32) rfl rfl rfl rfl rfl ?_
          | refine awt_call1 rfl (h32) rfl rfl rfl rfl rfl ?_
          | refine awt_call2 rfl (h32) rfl rfl rfl rfl rfl ?_
          | refine awt_call0 rfl (h39) rfl rfl rfl rfl rfl ?_
          | refine awt_call1 rfl (h39) rfl rfl rfl rfl rfl ?_
          | refine awt_call2 rfl (h39) rfl rfl rfl rfl rfl ?_
          | refine awt_call0 rfl (h24) rfl rfl rfl rfl rfl ?_
          | refine awt_call1 rfl (h24) rfl rfl rfl rfl rfl ?_
          | refine awt_call2 rfl (h24) rfl rfl rfl rfl rfl ?_
          | refine awt_call0 rfl (h41b) rfl rfl rfl rfl rfl ?_
          | refine awt_call1 rfl (h41b) rfl rfl rfl rfl rfl ?_
          | refine awt_call2 rfl (h41b) rfl rfl rfl rfl rfl ?_
          | refine awt_b rfl rfl rfl rfl ?_ ?_
          | refine awt_c rfl rfl rfl ?_ ?_
          | refine awt_gt rfl rfl ?_
          | refine awt_gf rfl rfl rfl ?_
          | refine awt_gu rfl rfl rfl ?_
          | (refine awt_h rfl rfl rfl ?_ ?_ <;> intro hb)
          | refine awt_nil ?_
          | refine dq (by kernel_rfl) ?_
          | refine thn_n ?_
          | refine thn_r ?_
          | refine thn_e ?_
          | refine awc_condT rfl ?_
          | refine awc_condF rfl ?_
          | (refine awc_cond rfl ?_ ?_ <;> intro hb)
          | refine awc_block ?_
          | refine blk_n ?_
          | refine blk_r ?_
          | refine blk_e ?_
          | refine blk_o rfl ?_
          | refine awc_ret ?_
          | refine awc_skip ?_
          | refine awc_label ?_
          | refine awc_exit ?_
          | refine retq_r ?_
          | refine retq_n ?_
          | exact ResIs.tv rfl
          | exact ResIs.ts rfl
          | exact ResIs.tc rfl
          | exact ResIs.tn rfl rfl
          | exact ResIs.to rfl rfl
          | apply ResIs.tagg rfl
          | exact ResIs.cv rfl trivial
          | exact ResIs.cs rfl trivial
          | exact ResIs.cn rfl trivial rfl
          | exact ResIs.co rfl trivial rfl
          | apply ResIs.cagg rfl trivial
          | exact CoeL.nil
          | apply CoeL.v
          | apply CoeL.sl
          | apply CoeL.clp
          | apply CoeL.emp rfl
          | apply CoeL.own rfl
          | apply ret_one
          | apply ret_two
          | apply ret_three
          | exact rawq_r rfl
          | apply rawq_rc rfl
          | apply ownq_rv rfl rfl)
      all_goals (try decide)
      exact ⟨(i + 1, y.ss, K ++ N), Wk.ren [] rfl ⟨rfl, rfl, rfl, rfl, eqVI (by rw [i64w (by omega) (by omega)]; rfl), trivial⟩ ⟨rfl, trivial⟩ rfl, ⟨hil, hi, by rw [hyl]; exact h3⟩, by dsimp only; omega⟩
    · have h39 : ACalls 39 [aJ (K ++ N) l.length K.length, aD l [] ((lf.toNat % 40 : Nat) : Int) false] (.tup [.agg [.sl tB [], vI 0, vI 0], .agg [.sl tB y.ss, .sl tW y.ps, vI y.left, vB y.st], .one (vI 40)]) := by
        have := c39 (K ++ N) l.length K.length l [] ((lf.toNat % 40 : Nat) : Int) false
        rw [hy] at this
        exact this
      have h24 := c24 y.ss y.ps y.left y.st
      have h38b := open_inv hi
      have hml : (N.take m).length ≤ N.length := by rw [List.length_take]; exact Nat.min_le_right _ _
      have hpre : K ++ N.take m = (K ++ N).take (Int.toNat ((K ++ N.take m).length : Int)) := by
        rw [Int.toNat_natCast, List.length_append, List.take_length_add_append, List.length_take]
        congr 1
        by_cases q : m ≤ N.length
        · rw [Nat.min_eq_left q]
        · rw [Nat.min_eq_right (by omega), List.take_length, List.take_of_length_le (by omega)]
      have f4 : decide (((K ++ N.take m).length : Int) < (K.length : Int)) = false := decide_eq_false (by rw [List.length_append]; omega)
      have f5 : decide (((K ++ N.take m).length : Int) > ((K ++ N).length : Int)) = false := decide_eq_false (by rw [List.length_append, List.length_append]; omega)
      have h41c := c41 (K ++ N.take m) ((K ++ N).take (Int.toNat ((K ++ N.take m).length : Int)))
      rw [decide_eq_true hpre] at h41c
      repeat' (first
          | (exact absurd hb (by rw [f2]; decide))
          | (exact absurd hb (by rw [f4]; decide))
          | (exact absurd hb (by rw [f5]; decide))
          | exact True.intro
          | exact rfl
          | refine And.intro rfl ?_
          | refine awc_seq ?_
          | refine awc_region ?_
          | refine awc_draw ?_
          | refine awt_a rfl rfl rfl ?_ ?_
          | refine awt_call0 rfl (h32) rfl rfl rfl rfl rfl ?_
          | refine awt_call1 rfl (h32) rfl rfl rfl rfl rfl ?_
          | refine awt_call2 rfl (h32) rfl rfl rfl rfl rfl ?_
          | refine awt_call0 rfl (h39) rfl rfl rfl rfl rfl ?_
          | refine awt_call1 rfl (h39) rfl rfl rfl rfl rfl ?_
          | refine awt_call2 rfl (h39) rfl rfl rfl rfl rfl ?_
          | refine awt_call0 rfl (h24) rfl rfl rfl rfl rfl ?_
          | refine awt_call1 rfl (h24) rfl rfl rfl rfl rfl ?_
          | refine awt_call2 rfl (h24) rfl rfl rfl rfl rfl ?_
          | refine awt_call0 rfl (h38b) rfl rfl rfl rfl rfl ?_
          | refine awt_call1 rfl (h38b) rfl rfl rfl rfl rfl ?_
          | refine awt_call2 rfl (h38b) rfl rfl rfl rfl rfl ?_
          | refine awt_call0 rfl (h41c) rfl rfl rfl rfl rfl ?_
          | refine awt_call1 rfl (h41c) rfl rfl rfl rfl rfl ?_
          | refine awt_call2 rfl (h41c) rfl rfl rfl rfl rfl ?_
          | refine awt_b rfl rfl rfl rfl ?_ ?_
          | refine awt_c rfl rfl rfl ?_ ?_
          | refine awt_gt rfl rfl ?_
          | refine awt_gf rfl rfl rfl ?_
          | refine awt_gu rfl rfl rfl ?_
          | (refine awt_h rfl rfl rfl ?_ ?_ <;> intro hb)
          | refine awt_nil ?_
          | refine dq (by kernel_rfl) ?_
          | refine thn_n ?_
          | refine thn_r ?_
          | refine thn_e ?_
          | refine awc_condT rfl ?_
          | refine awc_condF rfl ?_
          | (refine awc_cond rfl ?_ ?_ <;> intro hb)
          | refine awc_block ?_
          | refine blk_n ?_
          | refine blk_r ?_
          | refine blk_e ?_
          | refine blk_o rfl ?_
          | refine awc_ret ?_
          | refine awc_skip ?_
          | refine awc_label ?_
          | refine awc_exit ?_
          | refine retq_r ?_
          | refine retq_n ?_
          | exact ResIs.tv rfl
          | exact ResIs.ts rfl
          | exact ResIs.tc rfl
          | exact ResIs.tn rfl rfl
          | exact ResIs.to rfl rfl
          | apply ResIs.tagg rfl
          | exact ResIs.cv rfl trivial
          | exact ResIs.cs rfl trivial
          | exact ResIs.cn rfl trivial rfl
          | exact ResIs.co rfl trivial rfl
          | apply ResIs.cagg rfl trivial
          | exact CoeL.nil
          | apply CoeL.v
          | apply CoeL.sl
          | apply CoeL.clp
          | apply CoeL.emp rfl
          | apply CoeL.own rfl
          | apply ret_one
          | apply ret_two
          | apply ret_three
          | exact rawq_r rfl
          | apply rawq_rc rfl
          | apply ownq_rv rfl rfl)
      all_goals (try decide)
      · show (0 : Int) ≤ ((K ++ N.take m).length : Int) ∧ ((K ++ N.take m).length : Int) ≤ ((K ++ N).length : Int)
        rw [List.length_append, List.length_append]; omega
      · exact ⟨(i + 1, y.ss, K ++ N.take m), Wk.ren [] rfl ⟨rfl, rfl, rfl, rfl, eqVI (by rw [i64w (by omega) (by omega)]; rfl), trivial⟩ ⟨rfl, trivial⟩ rfl, ⟨hil, hi, by rw [hyl]; exact h3⟩, by dsimp only; omega⟩
  | false =>
    have hr := round (N := N) h2 (left := -1) (by omega) (by omega) huN (by omega)
    rcases hr with ⟨y, hy, hi, hyl⟩ | ⟨hlt, _⟩
    · have h39 : ACalls 39 [aJ (K ++ N) l.length K.length, aD l [] (-1) false] (.tup [.agg [.sl tB (K ++ N), vI l.length, vI (K ++ N).length], .agg [.sl tB y.ss, .sl tW y.ps, vI y.left, vB y.st], .one (vI 0)]) := by
        have := c39 (K ++ N) l.length K.length l [] (-1) false
        rw [hy] at this
        exact this
      have h24 := c24 y.ss y.ps y.left y.st
      repeat' (first
          | (exact absurd hb (by rw [f2]; decide))
          | (exact absurd hb (by rw [f3]; decide))
          | exact True.intro
          | exact rfl
          | refine And.intro rfl ?_
          | refine awc_seq ?_
          | refine awc_region ?_
          | refine awc_draw ?_
          | refine awt_a rfl rfl rfl ?_ ?_
          | refine awt_call0 rfl (h39) rfl rfl rfl rfl rfl ?_
          | refine awt_call1 rfl (h39) rfl rfl rfl rfl rfl ?_
          | refine awt_call2 rfl (h39) rfl rfl rfl rfl rfl ?_
          | refine awt_call0 rfl (h24) rfl rfl rfl rfl rfl ?_
          | refine awt_call1 rfl (h24) rfl rfl rfl rfl rfl ?_
          | refine awt_call2 rfl (h24) rfl rfl rfl rfl rfl ?_
          | refine awt_call0 rfl (h41b) rfl rfl rfl rfl rfl ?_
          | refine awt_call1 rfl (h41b) rfl rfl rfl rfl rfl ?_
          | refine awt_call2 rfl (h41b) rfl rfl rfl rfl rfl ?_
          | refine awt_b rfl rfl rfl rfl ?_ ?_
          | refine awt_c rfl rfl rfl ?_ ?_
          | refine awt_gt rfl rfl ?_
          | refine awt_gf rfl rfl rfl ?_
          | refine awt_gu rfl rfl rfl ?_
          | (refine awt_h rfl rfl rfl ?_ ?_ <;> intro hb)
          | refine awt_nil ?_
          | refine dq (by kernel_rfl) ?_
          | refine thn_n ?_
          | refine thn_r ?_
          | refine thn_e ?_
          | refine awc_condT rfl ?_
          | refine awc_condF rfl ?_
          | (refine awc_cond rfl ?_ ?_ <;> intro hb)
          | refine awc_block ?_
          | refine blk_n ?_
          | refine blk_r ?_
          | refine blk_e ?_
          | refine blk_o rfl ?_
          | refine awc_ret ?_
          | refine awc_skip ?_
          | refine awc_label ?_
          | refine awc_exit ?_
          | refine retq_r ?_
          | refine retq_n ?_
          | exact ResIs.tv rfl
          | exact ResIs.ts rfl
          | exact ResIs.tc rfl
          | exact ResIs.tn rfl rfl
          | exact ResIs.to rfl rfl
          | apply ResIs.tagg rfl
          | exact ResIs.cv rfl trivial
          | exact ResIs.cs rfl trivial
          | exact ResIs.cn rfl trivial rfl
          | exact ResIs.co rfl trivial rfl
          | apply ResIs.cagg rfl trivial
          | exact CoeL.nil
          | apply CoeL.v
          | apply CoeL.sl
          | apply CoeL.clp
          | apply CoeL.emp rfl
          | apply CoeL.own rfl
          | apply ret_one
          | apply ret_two
          | apply ret_three
          | exact rawq_r rfl
          | apply rawq_rc rfl
          | apply ownq_rv rfl rfl)
      exact ⟨(i + 1, y.ss, K ++ N), Wk.ren [] rfl ⟨rfl, rfl, rfl, rfl, eqVI (by rw [i64w (by omega) (by omega)]; rfl), trivial⟩ ⟨rfl, trivial⟩ rfl, ⟨hil, hi, by rw [hyl]; exact h3⟩, by dsimp only; omega⟩
    · exact absurd hlt (by decide)
end B
end Go.Proofs.Ytbmnhagbplkagaa
