import Derived.Test.YtbmnhagbplkagaaD12
import Derived.Test.YtbmnhagbplkagaaP7
import Derived.Test.YtbmnhagbplkagaaD10e
/- The law JournalSteps answers true at every two lists of records that can be joined. -/
namespace Go.Proofs.Ytbmnhagbplkagaa
namespace B
open Go.RowKit
set_option maxHeartbeats 4000000
set_option maxRecDepth 100000
attribute [local irreducible] awc awT thn blk DQ retQ rawQ ownQ retOk ResIs

theorem round1 {l K N : List (List UInt8)} {G : Nat} (h : DInv l K G) (hu : usedN K + usedN N ≤ l.length) (hG : G + 1 ≤ 4294967295) :
    ∃ l', jSync ⟨K ++ N, l.length, K.length⟩ ⟨l, [], -1, false⟩ = (⟨K ++ N, l.length, (K ++ N).length⟩, ⟨l', [], -1, false⟩, 0) ∧ DInv l' (K ++ N) (G + 1) ∧ l'.length = l.length := by
  have hs := jSync_open h (left := -1) (by decide) (by decide) hu hG
  by_cases hN : N = []
  · subst hN
    rw [if_pos rfl] at hs
    refine ⟨l, ?_, ?_, rfl⟩
    · rw [hs, List.append_nil]
    · rw [List.append_nil]; exact h.mono (by omega)
  · rw [if_neg hN] at hs
    have hb := wDk_bad (N := N) h (left := -1) (by decide) (by decide) hu
    have hst : (wDk l K N (-1)).stops = false := rfl
    have hg := h.genS
    rw [sync_go hb hst] at hs
    exact ⟨perf l (wrs (genS l) (usedN K) (pcsL N)), hs, h.full hN hu (by omega), perf_len _ _⟩
theorem c36 (rs : List (List UInt8)) (m : Nat) (s : Int) (l : List (List UInt8)) (h1 : 1 ≤ m) (h2 : m ≤ 4096) (h3 : 0 ≤ s) (h4 : s ≤ rs.length) (h5 : usedN rs ≤ m) : ACalls 36 [aJ rs m s, aBB l] (aJ (addL m rs l) m s) := by
  refine acalls (n := 26) (rs := [.cell 4 45]) (Ts := [45]) Try.func36 rfl rfl rfl rfl rfl rfl ?_
  refine awc_bd 1 _ rfl ?_
  intro hbd
  have hb24 : List.length l * 24 ≤ 140737488355328 := hbd.1
  repeat' (first
      | exact True.intro
      | exact rfl
      | refine And.intro rfl ?_
      | refine awc_seq ?_
      | refine awc_region ?_
      | refine awc_draw ?_
      | refine awt_a rfl rfl rfl ?_ ?_
      | refine awt_b rfl rfl rfl rfl ?_ ?_
      | refine awt_c rfl rfl rfl ?_ ?_
      | refine awt_gt rfl rfl ?_
      | refine awt_gf rfl rfl rfl ?_
      | refine awt_gu rfl rfl rfl ?_
      | (refine awt_h rfl rfl rfl ?_ ?_ <;> intro hb)
      | refine awt_nil ?_
      | refine dq (by kernel_rfl) ?_
      | refine thn_n ?_
      | refine thn_r ?_
      | refine thn_e ?_
      | refine awc_condT rfl ?_
      | refine awc_condF rfl ?_
      | (refine awc_cond rfl ?_ ?_ <;> intro hb)
      | refine awc_block ?_
      | refine blk_n ?_
      | refine blk_r ?_
      | refine blk_e ?_
      | refine blk_o rfl ?_
      | refine awc_ret ?_
      | refine awc_skip ?_
      | refine awc_label ?_
      | refine awc_exit ?_
      | refine retq_r ?_
      | refine retq_n ?_
      | exact ResIs.tv rfl
      | exact ResIs.ts rfl
      | exact ResIs.tc rfl
      | exact ResIs.tn rfl rfl
      | exact ResIs.to rfl rfl
      | apply ResIs.tagg rfl
      | exact ResIs.cv rfl trivial
      | exact ResIs.cs rfl trivial
      | exact ResIs.cn rfl trivial rfl
      | exact ResIs.co rfl trivial rfl
      | apply ResIs.cagg rfl trivial
      | exact CoeL.nil
      | apply CoeL.v
      | apply CoeL.sl
      | apply CoeL.clp
      | apply CoeL.emp rfl
      | apply CoeL.own rfl
      | apply ret_one
      | apply ret_two
      | apply ret_three
      | exact rawq_r rfl
      | apply rawq_rc rfl
      | apply ownq_rv rfl rfl)
  refine awc_loop (α := Nat × List (List UInt8)) (fun i => ⟨26, [(2, o1 (.ptr 2 0)), (4, o1 (.ptr 4 0)), (9, aBB l), (10, o1 (vI l.length)), (11, o1 (vI i.1))], [(2, .box [.sl tB i.2, vI m, vI s]), (4, .box [.emp, vI 0, vI 0])]⟩) (fun i => i.1 ≤ l.length ∧ usedN i.2 ≤ m ∧ s ≤ i.2.length ∧ addL m rs l = addL m i.2 (l.drop i.1)) (fun i => l.length - i.1) (0, rs) (Wk.ren [] rfl ⟨rfl, rfl, rfl, rfl, rfl, trivial⟩ ⟨rfl, rfl, trivial⟩ rfl) ⟨Nat.zero_le _, h5, h4, rfl⟩ ?_
  rintro ⟨i, acc⟩ ⟨k1, k2, k3, k4⟩
  dsimp only at k1 k2 k3 k4 ⊢
  by_cases hil : i < l.length
  · have hst := drop_step tB.dflt hil
    rw [hst] at k4
    have hll := len_le_usedN acc
    have etn : l.getD (Int.toNat (i : Int)) tB.dflt = l.getD i tB.dflt := by rw [Int.toNat_natCast]
    have h37 := c37 acc m s (l.getD (Int.toNat (i : Int)) tB.dflt) (by omega)
    rw [jApp_ok (m := m) (jBad_ok h1 h2 h3 k3 k2) k2 h2] at h37
    have hu2 : usedN (acc ++ [l.getD i tB.dflt]) = usedN acc + secN (List.length (l.getD i tB.dflt)) := by rw [usedN_app]; rfl
    by_cases hf : usedN acc + secN (List.length (l.getD i tB.dflt)) ≤ m
    · rw [if_pos (by rw [etn]; exact hf)] at h37
      repeat' (first
          | exact True.intro
          | exact rfl
          | refine And.intro rfl ?_
          | refine awc_seq ?_
          | refine awc_region ?_
          | refine awc_draw ?_
          | refine awt_a rfl rfl rfl ?_ ?_
          | refine awt_call0 rfl (h37) rfl rfl rfl rfl rfl ?_
          | refine awt_call1 rfl (h37) rfl rfl rfl rfl rfl ?_
          | refine awt_call2 rfl (h37) rfl rfl rfl rfl rfl ?_
          | refine awt_b rfl rfl rfl rfl ?_ ?_
          | refine awt_c rfl rfl rfl ?_ ?_
          | refine awt_gt rfl rfl ?_
          | refine awt_gf rfl rfl rfl ?_
          | refine awt_gu rfl rfl rfl ?_
          | (refine awt_h rfl rfl rfl ?_ ?_ <;> intro hb)
          | refine awt_nil ?_
          | refine dq (by kernel_rfl) ?_
          | refine thn_n ?_
          | refine thn_r ?_
          | refine thn_e ?_
          | refine awc_condT rfl ?_
          | refine awc_condF rfl ?_
          | (refine awc_cond rfl ?_ ?_ <;> intro hb)
          | refine awc_block ?_
          | refine blk_n ?_
          | refine blk_r ?_
          | refine blk_e ?_
          | refine blk_o rfl ?_
          | refine awc_ret ?_
          | refine awc_skip ?_
          | refine awc_label ?_
          | refine awc_exit ?_
          | refine retq_r ?_
          | refine retq_n ?_
          | exact ResIs.tv rfl
          | exact ResIs.ts rfl
          | exact ResIs.tc rfl
          | exact ResIs.tn rfl rfl
          | exact ResIs.to rfl rfl
          | apply ResIs.tagg rfl
          | exact ResIs.cv rfl trivial
          | exact ResIs.cs rfl trivial
          | exact ResIs.cn rfl trivial rfl
          | exact ResIs.co rfl trivial rfl
          | apply ResIs.cagg rfl trivial
          | exact CoeL.nil
          | apply CoeL.v
          | apply CoeL.sl
          | apply CoeL.clp
          | apply CoeL.emp rfl
          | apply CoeL.own rfl
          | apply ret_one
          | apply ret_two
          | apply ret_three
          | exact rawq_r rfl
          | apply rawq_rc rfl
          | apply ownq_rv rfl rfl)
      all_goals (try (exfalso; have := of_decide_eq_false hb; omega))
      · exact ⟨by omega, by omega⟩
      · refine ⟨(i + 1, acc ++ [l.getD i tB.dflt]), Wk.ren [] rfl ⟨rfl, rfl, rfl, rfl, eqVI (by rw [i64w (by omega) (by omega)]; rfl), trivial⟩ ⟨congrArg (fun z => HB.box [.sl tB (acc ++ [z]), vI m, vI s]) etn, rfl, trivial⟩ rfl, ⟨hil, by dsimp only; omega, by rw [List.length_append]; omega, ?_⟩, by dsimp only; omega⟩
        rw [k4]
        show addL m (if usedN acc + secN (List.length (l.getD i tB.dflt)) ≤ m then _ else _) _ = _
        rw [if_pos hf]
    · rw [if_neg (by rw [etn]; exact hf)] at h37
      repeat' (first
          | exact True.intro
          | exact rfl
          | refine And.intro rfl ?_
          | refine awc_seq ?_
          | refine awc_region ?_
          | refine awc_draw ?_
          | refine awt_a rfl rfl rfl ?_ ?_
          | refine awt_call0 rfl (h37) rfl rfl rfl rfl rfl ?_
          | refine awt_call1 rfl (h37) rfl rfl rfl rfl rfl ?_
          | refine awt_call2 rfl (h37) rfl rfl rfl rfl rfl ?_
          | refine awt_b rfl rfl rfl rfl ?_ ?_
          | refine awt_c rfl rfl rfl ?_ ?_
          | refine awt_gt rfl rfl ?_
          | refine awt_gf rfl rfl rfl ?_
          | refine awt_gu rfl rfl rfl ?_
          | (refine awt_h rfl rfl rfl ?_ ?_ <;> intro hb)
          | refine awt_nil ?_
          | refine dq (by kernel_rfl) ?_
          | refine thn_n ?_
          | refine thn_r ?_
          | refine thn_e ?_
          | refine awc_condT rfl ?_
          | refine awc_condF rfl ?_
          | (refine awc_cond rfl ?_ ?_ <;> intro hb)
          | refine awc_block ?_
          | refine blk_n ?_
          | refine blk_r ?_
          | refine blk_e ?_
          | refine blk_o rfl ?_
          | refine awc_ret ?_
          | refine awc_skip ?_
          | refine awc_label ?_
          | refine awc_exit ?_
          | refine retq_r ?_
          | refine retq_n ?_
          | exact ResIs.tv rfl
          | exact ResIs.ts rfl
          | exact ResIs.tc rfl
          | exact ResIs.tn rfl rfl
          | exact ResIs.to rfl rfl
          | apply ResIs.tagg rfl
          | exact ResIs.cv rfl trivial
          | exact ResIs.cs rfl trivial
          | exact ResIs.cn rfl trivial rfl
          | exact ResIs.co rfl trivial rfl
          | apply ResIs.cagg rfl trivial
          | exact CoeL.nil
          | apply CoeL.v
          | apply CoeL.sl
          | apply CoeL.clp
          | apply CoeL.emp rfl
          | apply CoeL.own rfl
          | apply ret_one
          | apply ret_two
          | apply ret_three
          | exact rawq_r rfl
          | apply rawq_rc rfl
          | apply ownq_rv rfl rfl)
      all_goals (try (exfalso; have := of_decide_eq_false hb; omega))
      · exact ⟨by omega, by omega⟩
      · refine ⟨(i + 1, acc), Wk.ren [] rfl ⟨rfl, rfl, rfl, rfl, eqVI (by rw [i64w (by omega) (by omega)]; rfl), trivial⟩ ⟨rfl, rfl, trivial⟩ rfl, ⟨hil, k2, k3, ?_⟩, by dsimp only; omega⟩
        rw [k4]
        show addL m (if usedN acc + secN (List.length (l.getD i tB.dflt)) ≤ m then _ else _) _ = _
        rw [if_neg hf]
  · rw [List.drop_of_length_le (by omega)] at k4
    have k5 : acc = addL m rs l := k4.symm
    subst k5
    repeat' (first
        | exact True.intro
        | exact rfl
        | refine And.intro rfl ?_
        | refine awc_seq ?_
        | refine awc_region ?_
        | refine awc_draw ?_
        | refine awt_a rfl rfl rfl ?_ ?_
        | refine awt_b rfl rfl rfl rfl ?_ ?_
        | refine awt_c rfl rfl rfl ?_ ?_
        | refine awt_gt rfl rfl ?_
        | refine awt_gf rfl rfl rfl ?_
        | refine awt_gu rfl rfl rfl ?_
        | (refine awt_h rfl rfl rfl ?_ ?_ <;> intro hb)
        | refine awt_nil ?_
        | refine dq (by kernel_rfl) ?_
        | refine thn_n ?_
        | refine thn_r ?_
        | refine thn_e ?_
        | refine awc_condT rfl ?_
        | refine awc_condF rfl ?_
        | (refine awc_cond rfl ?_ ?_ <;> intro hb)
        | refine awc_block ?_
        | refine blk_n ?_
        | refine blk_r ?_
        | refine blk_e ?_
        | refine blk_o rfl ?_
        | refine awc_ret ?_
        | refine awc_skip ?_
        | refine awc_label ?_
        | refine awc_exit ?_
        | refine retq_r ?_
        | refine retq_n ?_
        | exact ResIs.tv rfl
        | exact ResIs.ts rfl
        | exact ResIs.tc rfl
        | exact ResIs.tn rfl rfl
        | exact ResIs.to rfl rfl
        | apply ResIs.tagg rfl
        | exact ResIs.cv rfl trivial
        | exact ResIs.cs rfl trivial
        | exact ResIs.cn rfl trivial rfl
        | exact ResIs.co rfl trivial rfl
        | apply ResIs.cagg rfl trivial
        | exact CoeL.nil
        | apply CoeL.v
        | apply CoeL.sl
        | apply CoeL.clp
        | apply CoeL.emp rfl
        | apply CoeL.own rfl
        | apply ret_one
        | apply ret_two
        | apply ret_three
        | exact rawq_r rfl
        | apply rawq_rc rfl
        | apply ownq_rv rfl rfl)
    all_goals (try (exfalso; have := of_decide_eq_true hb; omega))
theorem sameD_refl (ss : List (List UInt8)) (ps : List (Int × List UInt8)) (left : Int) (st : Bool) : sameD ss ps left st ss ps left st = true := by simp [sameD]
theorem sameJ_refl (j : Jr) : sameJ j j = true := by simp [sameJ]
theorem open_inv {l K : List (List UInt8)} {G : Nat} (h : DInv l K G) : ACalls 38 [aD l [] (-1) false] (.tup [.agg [.sl tB K, vI l.length, vI K.length], .one (vI 0)]) := by
  have := c38 l [] (-1) false
  rw [show jOpen ⟨l, [], -1, false⟩ = _ from h.open (left := -1) (by decide) (by decide)] at this
  exact this
theorem c6 (a b : List (List UInt8)) (hab : a.length + b.length ≤ 1073741824) : ACalls 6 [aBB a, aBB b] (o1 (vB true)) := by
  obtain ⟨Z, hZ⟩ : ∃ Z, Z = List.replicate 40 zSec := ⟨_, rfl⟩
  have hi0 : DInv Z [] 0 := by rw [hZ]; exact new_inv 40 (by decide) (by decide)
  have hZl : Z.length = 40 := by rw [hZ, List.length_replicate]
  have h19 : ACalls 19 [o1 (vI 40)] (.tup [.agg [.sl tB Z, .sl tW [], vI (-1), vB false], .one (vI 0)]) := by
    have := c19 40
    rw [show dNew 40 = _ from dNew_ok 40 (by decide) (by decide), ← hZ] at this
    exact this
  have h38 : ACalls 38 [aD Z [] (-1) false] (.tup [.agg [.sl tB [], vI 40, vI 0], .one (vI 0)]) := by
    have := open_inv hi0
    rw [hZl] at this
    exact this
  obtain ⟨A, hA⟩ : ∃ A, A = addL 40 [] a := ⟨_, rfl⟩
  obtain ⟨NA, hA1, hA2⟩ := addL_ex 40 a [] (by decide)
  rw [← hA, List.nil_append] at hA1
  rw [List.nil_append, ← hA1] at hA2
  obtain ⟨C, hC⟩ : ∃ C, C = addL 40 A b := ⟨_, rfl⟩
  obtain ⟨NB, hC1, hC2⟩ := addL_ex 40 b A hA2
  rw [← hC] at hC1
  have hC3 := hC2
  rw [← hC1] at hC3
  rw [usedN_app] at hC2
  have hAl := len_le_usedN A
  have h36a : ACalls 36 [aJ [] 40 0, aBB a] (aJ A 40 0) := by
    rw [hA]; exact c36 [] 40 0 a (by decide) (by decide) (by decide) (by decide) (by decide)
  have h36b : ACalls 36 [aJ A 40 0, aBB b] (aJ C 40 0) := by
    rw [hC]; exact c36 A 40 0 b (by decide) (by decide) (by decide) (by omega) hA2
  have h36c : ACalls 36 [aJ A 40 A.length, aBB b] (aJ C 40 A.length) := by
    rw [hC]; exact c36 A 40 A.length b (by decide) (by decide) (by omega) (by omega) hA2
  obtain ⟨l0, s0, i0, e0⟩ := round1 (N := C) hi0 (by simp only [usedN]; omega) (by decide)
  obtain ⟨l1, s1, i1, e1⟩ := round1 (N := A) hi0 (by simp only [usedN]; omega) (by decide)
  rw [List.nil_append] at s0 i0 s1 i1
  rw [hZl] at s0 s1 e0 e1
  obtain ⟨l2, s2, i2, e2⟩ := round1 (N := NB) i1 (by omega) (by decide)
  rw [← hC1] at s2 i2
  rw [e1] at s2 e2
  have s3 := jSync_open (N := []) i2 (left := -1) (by decide) (by decide) (by simp only [usedN]; omega) (by decide)
  rw [if_pos rfl, List.append_nil, e2] at s3
  have h39a : ACalls 39 [aJ C 40 0, aD Z [] (-1) false] (.tup [.agg [.sl tB C, vI 40, vI C.length], .agg [.sl tB l0, .sl tW [], vI (-1), vB false], .one (vI 0)]) := by
    have := c39 C 40 0 Z [] (-1) false
    rw [show jSync ⟨C, 40, 0⟩ ⟨Z, [], -1, false⟩ = _ from s0] at this
    exact this
  have h39b : ACalls 39 [aJ A 40 0, aD Z [] (-1) false] (.tup [.agg [.sl tB A, vI 40, vI A.length], .agg [.sl tB l1, .sl tW [], vI (-1), vB false], .one (vI 0)]) := by
    have := c39 A 40 0 Z [] (-1) false
    rw [show jSync ⟨A, 40, 0⟩ ⟨Z, [], -1, false⟩ = _ from s1] at this
    exact this
  have h39c : ACalls 39 [aJ C 40 A.length, aD l1 [] (-1) false] (.tup [.agg [.sl tB C, vI 40, vI C.length], .agg [.sl tB l2, .sl tW [], vI (-1), vB false], .one (vI 0)]) := by
    have := c39 C 40 A.length l1 [] (-1) false
    rw [show jSync ⟨C, 40, A.length⟩ ⟨l1, [], -1, false⟩ = _ from s2] at this
    exact this
  have h39d : ACalls 39 [aJ C 40 C.length, aD l2 [] (-1) false] (.tup [.agg [.sl tB C, vI 40, vI C.length], .agg [.sl tB l2, .sl tW [], vI (-1), vB false], .one (vI 0)]) := by
    have := c39 C 40 C.length l2 [] (-1) false
    rw [show jSync ⟨C, 40, C.length⟩ ⟨l2, [], -1, false⟩ = _ from s3] at this
    exact this
  have h38b := open_inv i0
  have h38c := open_inv i2
  have h40 := c40 C 40 C.length C 40 C.length
  rw [sameJ_refl] at h40
  have h41 := c41 C C
  rw [decide_eq_true rfl] at h41
  have h21 := c21 l2 [] (-1) false l2 [] (-1) false
  rw [sameD_refl] at h21
  refine acalls (n := 154) (rs := [.tmp 4]) (Ts := [4]) Try.func6 rfl rfl rfl rfl rfl rfl ?_
  repeat' (first
      | exact True.intro
      | exact rfl
      | refine And.intro rfl ?_
      | refine awc_seq ?_
      | refine awc_region ?_
      | refine awc_draw ?_
      | refine awt_a rfl rfl rfl ?_ ?_
      | refine awt_call0 rfl (c34) rfl rfl rfl rfl rfl ?_
      | refine awt_call1 rfl (c34) rfl rfl rfl rfl rfl ?_
      | refine awt_call2 rfl (c34) rfl rfl rfl rfl rfl ?_
      | refine awt_call0 rfl (c35 _ _ _ _ _) rfl rfl rfl rfl rfl ?_
      | refine awt_call1 rfl (c35 _ _ _ _ _) rfl rfl rfl rfl rfl ?_
      | refine awt_call2 rfl (c35 _ _ _ _ _) rfl rfl rfl rfl rfl ?_
      | refine awt_call0 rfl (h19) rfl rfl rfl rfl rfl ?_
      | refine awt_call1 rfl (h19) rfl rfl rfl rfl rfl ?_
      | refine awt_call2 rfl (h19) rfl rfl rfl rfl rfl ?_
      | refine awt_call0 rfl (h38) rfl rfl rfl rfl rfl ?_
      | refine awt_call1 rfl (h38) rfl rfl rfl rfl rfl ?_
      | refine awt_call2 rfl (h38) rfl rfl rfl rfl rfl ?_
      | refine awt_call0 rfl (h36a) rfl rfl rfl rfl rfl ?_
      | refine awt_call1 rfl (h36a) rfl rfl rfl rfl rfl ?_
      | refine awt_call2 rfl (h36a) rfl rfl rfl rfl rfl ?_
      | refine awt_call0 rfl (h36b) rfl rfl rfl rfl rfl ?_
      | refine awt_call1 rfl (h36b) rfl rfl rfl rfl rfl ?_
      | refine awt_call2 rfl (h36b) rfl rfl rfl rfl rfl ?_
      | refine awt_call0 rfl (h36c) rfl rfl rfl rfl rfl ?_
      | refine awt_call1 rfl (h36c) rfl rfl rfl rfl rfl ?_
      | refine awt_call2 rfl (h36c) rfl rfl rfl rfl rfl ?_
      | refine awt_call0 rfl (h39a) rfl rfl rfl rfl rfl ?_
      | refine awt_call1 rfl (h39a) rfl rfl rfl rfl rfl ?_
      | refine awt_call2 rfl (h39a) rfl rfl rfl rfl rfl ?_
      | refine awt_call0 rfl (h39b) rfl rfl rfl rfl rfl ?_
      | refine awt_call1 rfl (h39b) rfl rfl rfl rfl rfl ?_
      | refine awt_call2 rfl (h39b) rfl rfl rfl rfl rfl ?_
      | refine awt_call0 rfl (h39c) rfl rfl rfl rfl rfl ?_
      | refine awt_call1 rfl (h39c) rfl rfl rfl rfl rfl ?_
      | refine awt_call2 rfl (h39c) rfl rfl rfl rfl rfl ?_
      | refine awt_call0 rfl (h39d) rfl rfl rfl rfl rfl ?_
      | refine awt_call1 rfl (h39d) rfl rfl rfl rfl rfl ?_
      | refine awt_call2 rfl (h39d) rfl rfl rfl rfl rfl ?_
      | refine awt_call0 rfl (h38b) rfl rfl rfl rfl rfl ?_
      | refine awt_call1 rfl (h38b) rfl rfl rfl rfl rfl ?_
      | refine awt_call2 rfl (h38b) rfl rfl rfl rfl rfl ?_
      | refine awt_call0 rfl (h38c) rfl rfl rfl rfl rfl ?_
      | refine awt_call1 rfl (h38c) rfl rfl rfl rfl rfl ?_
      | refine awt_call2 rfl (h38c) rfl rfl rfl rfl rfl ?_
      | refine awt_call0 rfl (h40) rfl rfl rfl rfl rfl ?_
      | refine awt_call1 rfl (h40) rfl rfl rfl rfl rfl ?_
      | refine awt_call2 rfl (h40) rfl rfl rfl rfl rfl ?_
      | refine awt_call0 rfl (h41) rfl rfl rfl rfl rfl ?_
      | refine awt_call1 rfl (h41) rfl rfl rfl rfl rfl ?_
      | refine awt_call2 rfl (h41) rfl rfl rfl rfl rfl ?_
      | refine awt_call0 rfl (h21) rfl rfl rfl rfl rfl ?_
      | refine awt_call1 rfl (h21) rfl rfl rfl rfl rfl ?_
      | refine awt_call2 rfl (h21) rfl rfl rfl rfl rfl ?_
      | refine awt_b rfl rfl rfl rfl ?_ ?_
      | refine awt_c rfl rfl rfl ?_ ?_
      | refine awt_gt rfl rfl ?_
      | refine awt_gf rfl rfl rfl ?_
      | refine awt_gu rfl rfl rfl ?_
      | (refine awt_h rfl rfl rfl ?_ ?_ <;> intro hb)
      | refine awt_nil ?_
      | refine dq (by kernel_rfl) ?_
      | refine thn_n ?_
      | refine thn_r ?_
      | refine thn_e ?_
      | refine awc_condT rfl ?_
      | refine awc_condF rfl ?_
      | (refine awc_cond rfl ?_ ?_ <;> intro hb)
      | refine awc_block ?_
      | refine blk_n ?_
      | refine blk_r ?_
      | refine blk_e ?_
      | refine blk_o rfl ?_
      | refine awc_ret ?_
      | refine awc_skip ?_
      | refine awc_label ?_
      | refine awc_exit ?_
      | refine retq_r ?_
      | refine retq_n ?_
      | exact ResIs.tv rfl
      | exact ResIs.ts rfl
      | exact ResIs.tc rfl
      | exact ResIs.tn rfl rfl
      | exact ResIs.to rfl rfl
      | apply ResIs.tagg rfl
      | exact ResIs.cv rfl trivial
      | exact ResIs.cs rfl trivial
      | exact ResIs.cn rfl trivial rfl
      | exact ResIs.co rfl trivial rfl
      | apply ResIs.cagg rfl trivial
      | exact CoeL.nil
      | apply CoeL.v
      | apply CoeL.sl
      | apply CoeL.clp
      | apply CoeL.emp rfl
      | apply CoeL.own rfl
      | apply ret_one
      | apply ret_two
      | apply ret_three
      | exact rawq_r rfl
      | apply rawq_rc rfl
      | apply ownq_rv rfl rfl)
  · show a.length * 24 ≤ 140737488355328
    omega
  · exact ⟨by show (a.length + b.length) * 24 ≤ 140737488355328; omega, by simp⟩
end B
end Go.Proofs.Ytbmnhagbplkagaa
