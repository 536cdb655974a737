import Derived.Test.YtbmnhagbplkagaaD10b
/- Contracts of the reference of the journal: the journal of a disk, equality, the next generation. -/
namespace Go.Proofs.Ytbmnhagbplkagaa
namespace B
open Go.RowKit
set_option maxHeartbeats 4000000
set_option maxRecDepth 100000
attribute [local irreducible] awc awT thn blk DQ retQ rawQ ownQ retOk ResIs

theorem rRes_none {l : List (List UInt8)} {a : Nat} (h : jRec l a 0 = none) : rRes l a = ([], 0) := by
  unfold rRes; rw [h]
theorem rRes_some {l : List (List UInt8)} {a : Nat} {x : List UInt8 × Nat} (h : jRec l a 0 = some x) : rRes l a = (x.1, (x.2 : Int) - a) := by
  unfold rRes; rw [h]
theorem c72 (l : List (List UInt8)) (hl : ∀ s ∈ l, s.length = 128) (hn : l.length ≤ 4096) : ACalls 72 [aBB l] (aBB (recs l)) := by
  refine acalls (n := 41) (rs := [.tmp 2]) (Ts := [22]) Try.func72 rfl rfl rfl rfl rfl rfl ?_
  repeat' (first
      | exact True.intro
      | exact rfl
      | refine And.intro rfl ?_
      | refine awc_seq ?_
      | refine awc_region ?_
      | refine awc_draw ?_
      | refine awt_a rfl rfl rfl ?_ ?_
      | refine awt_b rfl rfl rfl rfl ?_ ?_
      | refine awt_c rfl rfl rfl ?_ ?_
      | refine awt_gt rfl rfl ?_
      | refine awt_gf rfl rfl rfl ?_
      | refine awt_gu rfl rfl rfl ?_
      | (refine awt_h rfl rfl rfl ?_ ?_ <;> intro hb)
      | refine awt_nil ?_
      | refine dq (by kernel_rfl) ?_
      | refine thn_n ?_
      | refine thn_r ?_
      | refine thn_e ?_
      | refine awc_condT rfl ?_
      | refine awc_condF rfl ?_
      | (refine awc_cond rfl ?_ ?_ <;> intro hb)
      | refine awc_block ?_
      | refine blk_n ?_
      | refine blk_r ?_
      | refine blk_e ?_
      | refine blk_o rfl ?_
      | refine awc_ret ?_
      | refine awc_skip ?_
      | refine awc_label ?_
      | refine awc_exit ?_
      | refine retq_r ?_
      | refine retq_n ?_
      | exact ResIs.tv rfl
      | exact ResIs.ts rfl
      | exact ResIs.tc rfl
      | exact ResIs.tn rfl rfl
      | exact ResIs.to rfl rfl
      | apply ResIs.tagg rfl
      | exact ResIs.cv rfl trivial
      | exact ResIs.cs rfl trivial
      | exact ResIs.cn rfl trivial rfl
      | exact ResIs.co rfl trivial rfl
      | apply ResIs.cagg rfl trivial
      | exact CoeL.nil
      | apply CoeL.v
      | apply CoeL.sl
      | apply CoeL.clp
      | apply CoeL.emp rfl
      | apply CoeL.own rfl
      | apply ret_one
      | apply ret_two
      | apply ret_three
      | exact rawq_r rfl
      | apply rawq_rc rfl
      | apply ownq_rv rfl rfl)
  refine awc_loop (α := Nat × Nat × Nat) (fun i => ⟨41, [(0, aBB l), (3, o1 (.own 1000)), (4, o1 (vI i.2.1)), (5, o1 (.v (.int .u64 i.2.2)))], [(1000, .own tB ((recs l).take i.1))]⟩) (fun i => i.2.1 ≤ l.length ∧ i.1 ≤ (its l 0 0).length ∧ (its l 0 0).drop i.1 = its l i.2.1 i.2.2) (fun i => l.length - i.2.1) (0, 0, 0) (Wk.trans (own0L 3 1000 tB rfl rfl) (Wk.ren [] rfl ⟨rfl, rfl, rfl, rfl, trivial⟩ ⟨rfl, trivial⟩ rfl)) ⟨Nat.zero_le _, Nat.zero_le _, rfl⟩ ?_
  rintro ⟨k, a, last⟩ ⟨ha, hk, hdrop⟩
  dsimp only at ha hk hdrop ⊢
  have h86 := c86 l a hl hn ha
  have h87 := c87 ((l.getD (Int.toNat (a : Int)) tB.dflt).take (Int.toNat 4)) (tk4 _)
  have hlr : (recs l).length = (its l 0 0).length := by unfold recs; rw [List.length_map]
  have hnil : jRec l a last = none → recs l = (recs l).take k := fun h4 => by
    rw [its_none h4] at hdrop
    have := congrArg List.length hdrop
    rw [List.length_drop, List.length_nil] at this
    rw [List.take_of_length_le (by omega)]
  cases hr : jRec l a 0 with
  | none =>
    rw [rRes_none hr] at h86
    have h4 : jRec l a last = none := by rw [jRec_last, hr]; split <;> rfl
    repeat' (first
        | exact True.intro
        | exact rfl
        | refine And.intro rfl ?_
        | refine awc_seq ?_
        | refine awc_region ?_
        | refine awc_draw ?_
        | refine awt_a rfl rfl rfl ?_ ?_
        | refine awt_call0 rfl (h86) rfl rfl rfl rfl rfl ?_
        | refine awt_call1 rfl (h86) rfl rfl rfl rfl rfl ?_
        | refine awt_call2 rfl (h86) rfl rfl rfl rfl rfl ?_
        | refine awt_call0 rfl (h87) rfl rfl rfl rfl rfl ?_
        | refine awt_call1 rfl (h87) rfl rfl rfl rfl rfl ?_
        | refine awt_call2 rfl (h87) rfl rfl rfl rfl rfl ?_
        | refine awt_b rfl rfl rfl rfl ?_ ?_
        | refine awt_c rfl rfl rfl ?_ ?_
        | refine awt_gt rfl rfl ?_
        | refine awt_gf rfl rfl rfl ?_
        | refine awt_gu rfl rfl rfl ?_
        | (refine awt_h rfl rfl rfl ?_ ?_ <;> intro hb)
        | refine awt_nil ?_
        | refine dq (by kernel_rfl) ?_
        | refine thn_n ?_
        | refine thn_r ?_
        | refine thn_e ?_
        | refine awc_condT rfl ?_
        | refine awc_condF rfl ?_
        | (refine awc_cond rfl ?_ ?_ <;> intro hb)
        | refine awc_block ?_
        | refine blk_n ?_
        | refine blk_r ?_
        | refine blk_e ?_
        | refine blk_o rfl ?_
        | refine awc_ret ?_
        | refine awc_skip ?_
        | refine awc_label ?_
        | refine awc_exit ?_
        | refine retq_r ?_
        | refine retq_n ?_
        | exact ResIs.tv rfl
        | exact ResIs.ts rfl
        | exact ResIs.tc rfl
        | exact ResIs.tn rfl rfl
        | exact ResIs.to rfl rfl
        | apply ResIs.tagg rfl
        | exact ResIs.cv rfl trivial
        | exact ResIs.cs rfl trivial
        | exact ResIs.cn rfl trivial rfl
        | exact ResIs.co rfl trivial rfl
        | apply ResIs.cagg rfl trivial
        | exact CoeL.nil
        | apply CoeL.v
        | apply CoeL.sl
        | apply CoeL.clp
        | apply CoeL.emp rfl
        | apply CoeL.own rfl
        | apply ret_one
        | apply ret_two
        | apply ret_three
        | exact rawq_r rfl
        | apply rawq_rc rfl
        | apply ownq_rv rfl rfl)
    refine eqSL ?_
    exact (hnil h4).symm
  | some x =>
    rw [rRes_some hr] at h86
    have hb2 := jRec_bound hr
    have ha' : a < l.length := by omega
    have hs0 : (l.getD a tB.dflt).length = 128 := hl _ (getD_mem _ ha')
    have hne : ((((x.2 : Int) - (a : Int))) == 0) = false := by rw [beq_eq_false_iff_ne]; omega
    repeat' (first
        | exact True.intro
        | exact rfl
        | refine And.intro rfl ?_
        | refine awc_seq ?_
        | refine awc_region ?_
        | refine awc_draw ?_
        | refine awt_a rfl rfl rfl ?_ ?_
        | refine awt_call0 rfl (h86) rfl rfl rfl rfl rfl ?_
        | refine awt_call1 rfl (h86) rfl rfl rfl rfl rfl ?_
        | refine awt_call2 rfl (h86) rfl rfl rfl rfl rfl ?_
        | refine awt_call0 rfl (h87) rfl rfl rfl rfl rfl ?_
        | refine awt_call1 rfl (h87) rfl rfl rfl rfl rfl ?_
        | refine awt_call2 rfl (h87) rfl rfl rfl rfl rfl ?_
        | refine awt_b rfl rfl rfl rfl ?_ ?_
        | refine awt_c rfl rfl rfl ?_ ?_
        | refine awt_gt rfl rfl ?_
        | refine awt_gf rfl rfl rfl ?_
        | refine awt_gu rfl rfl rfl ?_
        | (refine awt_h rfl rfl rfl ?_ ?_ <;> intro hb)
        | refine awt_nil ?_
        | refine dq (by kernel_rfl) ?_
        | refine thn_n ?_
        | refine thn_r ?_
        | refine thn_e ?_
        | refine awc_condT rfl ?_
        | refine awc_condF rfl ?_
        | (refine awc_cond rfl ?_ ?_ <;> intro hb)
        | refine awc_block ?_
        | refine blk_n ?_
        | refine blk_r ?_
        | refine blk_e ?_
        | refine blk_o rfl ?_
        | refine awc_ret ?_
        | refine awc_skip ?_
        | refine awc_label ?_
        | refine awc_exit ?_
        | refine retq_r ?_
        | refine retq_n ?_
        | exact ResIs.tv rfl
        | exact ResIs.ts rfl
        | exact ResIs.tc rfl
        | exact ResIs.tn rfl rfl
        | exact ResIs.to rfl rfl
        | apply ResIs.tagg rfl
        | exact ResIs.cv rfl trivial
        | exact ResIs.cs rfl trivial
        | exact ResIs.cn rfl trivial rfl
        | exact ResIs.co rfl trivial rfl
        | apply ResIs.cagg rfl trivial
        | exact CoeL.nil
        | apply CoeL.v
        | apply CoeL.sl
        | apply CoeL.clp
        | apply CoeL.emp rfl
        | apply CoeL.own rfl
        | apply ret_one
        | apply ret_two
        | apply ret_three
        | exact rawq_r rfl
        | apply rawq_rc rfl
        | apply ownq_rv rfl rfl)
    all_goals (try (first | exact ⟨by omega, by omega⟩ | (rw [Int.toNat_natCast, hs0]; simp only [cutOk]; decide; done)))
    · refine eqSL ?_
      refine (hnil ?_).symm
      have h : gnS (sec l a) < last := by
        have h : decide ((gnS (sec l a) : Int) < (last : Int)) = true := hb
        have := of_decide_eq_true h
        omega
      rw [jRec_last, if_pos h]
    · refine ⟨?_, by simp⟩
      show (((recs l).take k).length + 1) * 24 ≤ _
      have := recs_len l
      rw [List.length_take]; omega
    · have h : ¬ gnS (sec l a) < last := by
        have h : decide ((gnS (sec l a) : Int) < (last : Int)) = false := hb
        have := of_decide_eq_false h
        omega
      have hx : jRec l a last = some x := by rw [jRec_last, if_neg h, hr]
      rw [its_some hx] at hdrop
      have h0 : (recs l)[k]? = some x.1 := by
        unfold recs
        rw [List.getElem?_map]
        have := congrArg (fun z => z[0]?) hdrop
        have h1 : (its l 0 0)[k]? = some x := by simpa using this
        rw [h1]; rfl
      refine ⟨(k + 1, x.2, gnS (sec l a)), Wk.ren [(1000, 37)] rfl ⟨rfl, rfl, eqVI ?_, rfl, trivial⟩ ⟨congrArg (HB.own tB) ?_, trivial⟩ rfl, ⟨hb2.2, ?_, ?_⟩, by dsimp only; omega⟩
      · show IntKind.i64.wrap ((a : Int) + ((x.2 : Int) - (a : Int))) = _
        rw [i64w (by omega) (by omega)]; dsimp only; omega
      · show (recs l).take k ++ [x.1] = (recs l).take (k + 1)
        rw [List.take_add_one, h0]; rfl
      · have := congrArg List.length hdrop
        rw [List.length_drop, List.length_cons] at this
        dsimp only; omega
      · show (its l 0 0).drop (k + 1) = its l x.2 (gnS (sec l a))
        rw [← List.drop_drop, hdrop]; rfl
    · exfalso
      rw [hne] at hb
      cases hb
theorem c44 (ss : List (List UInt8)) (ps : List (Int × List UInt8)) (left : Int) (st : Bool) : ACalls 44 [aD ss ps left st] (aRJ (jOpen ⟨ss, ps, left, st⟩)) := by
  refine acalls (n := 30) (rs := [.cell 2 45, .tmp 3]) (Ts := [45, 28]) Try.func44 rfl rfl rfl rfl rfl rfl ?_
  have h44 : ∀ (h1 : dBad ss ps left = false) (h2 : st = false) (h3 : ps.length = 0), jOpen ⟨ss, ps, left, st⟩ = (⟨recs ss, ss.length, (recs ss).length⟩, 0) := fun h1 h2 h3 => by
    unfold jOpen
    rw [if_neg (by rw [h1]; exact Bool.false_ne_true), if_neg (by rw [h2]; exact Bool.false_ne_true), if_neg (by show ¬ ps.length > 0; omega)]
  cases hbad : dBad ss ps left with
  | true =>
    have hc := c23 ss ps left st
    have h1 : dChk ss ps left = 40 := by unfold dChk; rw [hbad]; rfl
    rw [h1] at hc
    repeat' (first
        | exact True.intro
        | exact rfl
        | refine And.intro rfl ?_
        | refine awc_seq ?_
        | refine awc_region ?_
        | refine awc_draw ?_
        | refine awt_a rfl rfl rfl ?_ ?_
        | refine awt_call0 rfl (hc) rfl rfl rfl rfl rfl ?_
        | refine awt_call1 rfl (hc) rfl rfl rfl rfl rfl ?_
        | refine awt_call2 rfl (hc) rfl rfl rfl rfl rfl ?_
        | refine awt_b rfl rfl rfl rfl ?_ ?_
        | refine awt_c rfl rfl rfl ?_ ?_
        | refine awt_gt rfl rfl ?_
        | refine awt_gf rfl rfl rfl ?_
        | refine awt_gu rfl rfl rfl ?_
        | (refine awt_h rfl rfl rfl ?_ ?_ <;> intro hb)
        | refine awt_nil ?_
        | refine dq (by kernel_rfl) ?_
        | refine thn_n ?_
        | refine thn_r ?_
        | refine thn_e ?_
        | refine awc_condT rfl ?_
        | refine awc_condF rfl ?_
        | (refine awc_cond rfl ?_ ?_ <;> intro hb)
        | refine awc_block ?_
        | refine blk_n ?_
        | refine blk_r ?_
        | refine blk_e ?_
        | refine blk_o rfl ?_
        | refine awc_ret ?_
        | refine awc_skip ?_
        | refine awc_label ?_
        | refine awc_exit ?_
        | refine retq_r ?_
        | refine retq_n ?_
        | exact ResIs.tv rfl
        | exact ResIs.ts rfl
        | exact ResIs.tc rfl
        | exact ResIs.tn rfl rfl
        | exact ResIs.to rfl rfl
        | apply ResIs.tagg rfl
        | exact ResIs.cv rfl trivial
        | exact ResIs.cs rfl trivial
        | exact ResIs.cn rfl trivial rfl
        | exact ResIs.co rfl trivial rfl
        | apply ResIs.cagg rfl trivial
        | exact CoeL.nil
        | apply CoeL.v
        | apply CoeL.sl
        | apply CoeL.clp
        | apply CoeL.emp rfl
        | apply CoeL.own rfl
        | apply ret_one
        | apply ret_two
        | apply ret_three
        | exact rawq_r rfl
        | apply rawq_rc rfl
        | apply ownq_rv rfl rfl)
    refine eqRJ ?_
    unfold jOpen
    rw [if_pos hbad]; rfl
  | false =>
    have hsz := dBad_iff.1 hbad
    have hc := c23 ss ps left st
    have h1 : dChk ss ps left = 0 := by unfold dChk; rw [hbad]; rfl
    rw [h1] at hc
    repeat' (first
        | exact True.intro
        | exact rfl
        | refine And.intro rfl ?_
        | refine awc_seq ?_
        | refine awc_region ?_
        | refine awc_draw ?_
        | refine awt_a rfl rfl rfl ?_ ?_
        | refine awt_call0 rfl (hc) rfl rfl rfl rfl rfl ?_
        | refine awt_call1 rfl (hc) rfl rfl rfl rfl rfl ?_
        | refine awt_call2 rfl (hc) rfl rfl rfl rfl rfl ?_
        | refine awt_call0 rfl (c72 ss hsz.2.2.2.2.2.2 hsz.2.1) rfl rfl rfl rfl rfl ?_
        | refine awt_call1 rfl (c72 ss hsz.2.2.2.2.2.2 hsz.2.1) rfl rfl rfl rfl rfl ?_
        | refine awt_call2 rfl (c72 ss hsz.2.2.2.2.2.2 hsz.2.1) rfl rfl rfl rfl rfl ?_
        | refine awt_b rfl rfl rfl rfl ?_ ?_
        | refine awt_c rfl rfl rfl ?_ ?_
        | refine awt_gt rfl rfl ?_
        | refine awt_gf rfl rfl rfl ?_
        | refine awt_gu rfl rfl rfl ?_
        | (refine awt_h rfl rfl rfl ?_ ?_ <;> intro hb)
        | refine awt_nil ?_
        | refine dq (by kernel_rfl) ?_
        | refine thn_n ?_
        | refine thn_r ?_
        | refine thn_e ?_
        | refine awc_condT rfl ?_
        | refine awc_condF rfl ?_
        | (refine awc_cond rfl ?_ ?_ <;> intro hb)
        | refine awc_block ?_
        | refine blk_n ?_
        | refine blk_r ?_
        | refine blk_e ?_
        | refine blk_o rfl ?_
        | refine awc_ret ?_
        | refine awc_skip ?_
        | refine awc_label ?_
        | refine awc_exit ?_
        | refine retq_r ?_
        | refine retq_n ?_
        | exact ResIs.tv rfl
        | exact ResIs.ts rfl
        | exact ResIs.tc rfl
        | exact ResIs.tn rfl rfl
        | exact ResIs.to rfl rfl
        | apply ResIs.tagg rfl
        | exact ResIs.cv rfl trivial
        | exact ResIs.cs rfl trivial
        | exact ResIs.cn rfl trivial rfl
        | exact ResIs.co rfl trivial rfl
        | apply ResIs.cagg rfl trivial
        | exact CoeL.nil
        | apply CoeL.v
        | apply CoeL.sl
        | apply CoeL.clp
        | apply CoeL.emp rfl
        | apply CoeL.own rfl
        | apply ret_one
        | apply ret_two
        | apply ret_three
        | exact rawq_r rfl
        | apply rawq_rc rfl
        | apply ownq_rv rfl rfl)
    · refine eqRJ ?_
      unfold jOpen
      rw [if_neg (by rw [hbad]; exact Bool.false_ne_true), if_pos hb]; rfl
    · rename_i h2
      refine eqRJ ?_
      unfold jOpen
      rw [if_neg (by rw [hbad]; exact Bool.false_ne_true), if_neg (by rw [h2]; exact Bool.false_ne_true), if_pos (by have := of_decide_eq_true hb; show ps.length > 0; omega)]; rfl
    · rename_i h2
      refine eqRJ ?_
      exact h44 hbad h2 (by have := of_decide_eq_false hb; omega)
def sameJ (a b : Jr) : Bool := decide (a.many = b.many ∧ a.synced = b.synced ∧ a.rs = b.rs)
theorem c40 (r1 : List (List UInt8)) (m1 s1 : Int) (r2 : List (List UInt8)) (m2 s2 : Int) : ACalls 40 [aJ r1 m1 s1, aJ r2 m2 s2] (o1 (vB (sameJ ⟨r1, m1, s1⟩ ⟨r2, m2, s2⟩))) := by
  refine acalls (n := 24) (rs := [.tmp 4]) (Ts := [4]) Try.func40 rfl rfl rfl rfl rfl rfl ?_
  repeat' (first
      | exact True.intro
      | exact rfl
      | refine And.intro rfl ?_
      | refine awc_seq ?_
      | refine awc_region ?_
      | refine awc_draw ?_
      | refine awt_a rfl rfl rfl ?_ ?_
      | refine awt_call0 rfl (c41 _ _) rfl rfl rfl rfl rfl ?_
      | refine awt_call1 rfl (c41 _ _) rfl rfl rfl rfl rfl ?_
      | refine awt_call2 rfl (c41 _ _) rfl rfl rfl rfl rfl ?_
      | refine awt_b rfl rfl rfl rfl ?_ ?_
      | refine awt_c rfl rfl rfl ?_ ?_
      | refine awt_gt rfl rfl ?_
      | refine awt_gf rfl rfl rfl ?_
      | refine awt_gu rfl rfl rfl ?_
      | (refine awt_h rfl rfl rfl ?_ ?_ <;> intro hb)
      | refine awt_nil ?_
      | refine dq (by kernel_rfl) ?_
      | refine thn_n ?_
      | refine thn_r ?_
      | refine thn_e ?_
      | refine awc_condT rfl ?_
      | refine awc_condF rfl ?_
      | (refine awc_cond rfl ?_ ?_ <;> intro hb)
      | refine awc_block ?_
      | refine blk_n ?_
      | refine blk_r ?_
      | refine blk_e ?_
      | refine blk_o rfl ?_
      | refine awc_ret ?_
      | refine awc_skip ?_
      | refine awc_label ?_
      | refine awc_exit ?_
      | refine retq_r ?_
      | refine retq_n ?_
      | exact ResIs.tv rfl
      | exact ResIs.ts rfl
      | exact ResIs.tc rfl
      | exact ResIs.tn rfl rfl
      | exact ResIs.to rfl rfl
      | apply ResIs.tagg rfl
      | exact ResIs.cv rfl trivial
      | exact ResIs.cs rfl trivial
      | exact ResIs.cn rfl trivial rfl
      | exact ResIs.co rfl trivial rfl
      | apply ResIs.cagg rfl trivial
      | exact CoeL.nil
      | apply CoeL.v
      | apply CoeL.sl
      | apply CoeL.clp
      | apply CoeL.emp rfl
      | apply CoeL.own rfl
      | apply ret_one
      | apply ret_two
      | apply ret_three
      | exact rawq_r rfl
      | apply rawq_rc rfl
      | apply ownq_rv rfl rfl)
  · rename_i h1
    rw [beq_iff_eq] at h1 hb
    refine eqVB ?_
    simp [sameJ, h1, hb]
  · have hb' : ¬ s1 = s2 := by rw [← beq_iff_eq, hb]; simp
    refine eqVB ?_
    simp [sameJ, hb']
  · have hb' : ¬ m1 = m2 := by rw [← beq_iff_eq, hb]; simp
    refine eqVB ?_
    simp [sameJ, hb']
theorem c75 (l : List (List UInt8)) (hl : ∀ s ∈ l, s.length = 128) (hn : l.length ≤ 4096) : ACalls 75 [aBB l] (o1 (.v (.int .u64 (genS l)))) := by
  refine acalls (n := 27) (rs := [.tmp 2]) (Ts := [94]) Try.func75 rfl rfl rfl rfl rfl rfl ?_
  repeat' (first
      | exact True.intro
      | exact rfl
      | refine And.intro rfl ?_
      | refine awc_seq ?_
      | refine awc_region ?_
      | refine awc_draw ?_
      | refine awt_a rfl rfl rfl ?_ ?_
      | refine awt_b rfl rfl rfl rfl ?_ ?_
      | refine awt_c rfl rfl rfl ?_ ?_
      | refine awt_gt rfl rfl ?_
      | refine awt_gf rfl rfl rfl ?_
      | refine awt_gu rfl rfl rfl ?_
      | (refine awt_h rfl rfl rfl ?_ ?_ <;> intro hb)
      | refine awt_nil ?_
      | refine dq (by kernel_rfl) ?_
      | refine thn_n ?_
      | refine thn_r ?_
      | refine thn_e ?_
      | refine awc_condT rfl ?_
      | refine awc_condF rfl ?_
      | (refine awc_cond rfl ?_ ?_ <;> intro hb)
      | refine awc_block ?_
      | refine blk_n ?_
      | refine blk_r ?_
      | refine blk_e ?_
      | refine blk_o rfl ?_
      | refine awc_ret ?_
      | refine awc_skip ?_
      | refine awc_label ?_
      | refine awc_exit ?_
      | refine retq_r ?_
      | refine retq_n ?_
      | exact ResIs.tv rfl
      | exact ResIs.ts rfl
      | exact ResIs.tc rfl
      | exact ResIs.tn rfl rfl
      | exact ResIs.to rfl rfl
      | apply ResIs.tagg rfl
      | exact ResIs.cv rfl trivial
      | exact ResIs.cs rfl trivial
      | exact ResIs.cn rfl trivial rfl
      | exact ResIs.co rfl trivial rfl
      | apply ResIs.cagg rfl trivial
      | exact CoeL.nil
      | apply CoeL.v
      | apply CoeL.sl
      | apply CoeL.clp
      | apply CoeL.emp rfl
      | apply CoeL.own rfl
      | apply ret_one
      | apply ret_two
      | apply ret_three
      | exact rawq_r rfl
      | apply rawq_rc rfl
      | apply ownq_rv rfl rfl)
  refine awc_loop (α := Nat) (fun i => ⟨27, [(0, aBB l), (3, o1 (.v (.int .u64 ((genG 1 (l.take i) : Int) - 1)))), (4, o1 (vI i))], []⟩) (fun i => i ≤ l.length) (fun i => l.length - i) 0 (Wk.ren [] rfl ⟨rfl, rfl, rfl, trivial⟩ trivial rfl) (Nat.zero_le _) ?_
  rintro i hi
  have hg0 := genG_ge (l.take i) 1
  have hgl : genG 1 (l.take i) ≤ 4294967296 := genS_le (l := l.take i) (fun s hs => hl s (List.mem_of_mem_take hs))
  by_cases hil : i < l.length
  · have hs : (l.getD i tB.dflt).length = 128 := hl _ (getD_mem _ hil)
    have h1 := c87 ((l.getD (Int.toNat (i : Int)) tB.dflt).take (Int.toNat 4)) (tk4 _)
    have h2 := c87 ((l.getD (Int.toNat (i : Int)) tB.dflt).drop (Int.toNat 124)) (by rw [Int.toNat_natCast, List.length_drop, hs]; decide)
    have hsn := genG_snoc 1 hil
    repeat' (first
        | exact True.intro
        | exact rfl
        | refine And.intro rfl ?_
        | refine awc_seq ?_
        | refine awc_region ?_
        | refine awc_draw ?_
        | refine awt_a rfl rfl rfl ?_ ?_
        | refine awt_call0 rfl (h1) rfl rfl rfl rfl rfl ?_
        | refine awt_call1 rfl (h1) rfl rfl rfl rfl rfl ?_
        | refine awt_call2 rfl (h1) rfl rfl rfl rfl rfl ?_
        | refine awt_call0 rfl (h2) rfl rfl rfl rfl rfl ?_
        | refine awt_call1 rfl (h2) rfl rfl rfl rfl rfl ?_
        | refine awt_call2 rfl (h2) rfl rfl rfl rfl rfl ?_
        | refine awt_b rfl rfl rfl rfl ?_ ?_
        | refine awt_c rfl rfl rfl ?_ ?_
        | refine awt_gt rfl rfl ?_
        | refine awt_gf rfl rfl rfl ?_
        | refine awt_gu rfl rfl rfl ?_
        | (refine awt_h rfl rfl rfl ?_ ?_ <;> intro hb)
        | refine awt_nil ?_
        | refine dq (by kernel_rfl) ?_
        | refine thn_n ?_
        | refine thn_r ?_
        | refine thn_e ?_
        | refine awc_condT rfl ?_
        | refine awc_condF rfl ?_
        | (refine awc_cond rfl ?_ ?_ <;> intro hb)
        | refine awc_block ?_
        | refine blk_n ?_
        | refine blk_r ?_
        | refine blk_e ?_
        | refine blk_o rfl ?_
        | refine awc_ret ?_
        | refine awc_skip ?_
        | refine awc_label ?_
        | refine awc_exit ?_
        | refine retq_r ?_
        | refine retq_n ?_
        | exact ResIs.tv rfl
        | exact ResIs.ts rfl
        | exact ResIs.tc rfl
        | exact ResIs.tn rfl rfl
        | exact ResIs.to rfl rfl
        | apply ResIs.tagg rfl
        | exact ResIs.cv rfl trivial
        | exact ResIs.cs rfl trivial
        | exact ResIs.cn rfl trivial rfl
        | exact ResIs.co rfl trivial rfl
        | apply ResIs.cagg rfl trivial
        | exact CoeL.nil
        | apply CoeL.v
        | apply CoeL.sl
        | apply CoeL.clp
        | apply CoeL.emp rfl
        | apply CoeL.own rfl
        | apply ret_one
        | apply ret_two
        | apply ret_three
        | exact rawq_r rfl
        | apply rawq_rc rfl
        | apply ownq_rv rfl rfl)
    all_goals (try (exfalso; have := of_decide_eq_false hb; omega))
    all_goals (try (first | exact ⟨by omega, by omega⟩ | (rw [Int.toNat_natCast, hs]; simp only [cutOk]; decide; done)))
    refine ⟨i + 1, Wk.ren [] rfl ⟨rfl, eqVI ?_, eqVI (by rw [i64w (by omega) (by omega)]; rfl), trivial⟩ trivial rfl, by omega, by omega⟩
    rw [Int.toNat_natCast]
    show (if (gnE (sec l i) : Int) > (if (gnS (sec l i) : Int) > ((genG 1 (l.take i) : Int) - 1) then (gnS (sec l i) : Int) else ((genG 1 (l.take i) : Int) - 1)) then (gnE (sec l i) : Int) else (if (gnS (sec l i) : Int) > ((genG 1 (l.take i) : Int) - 1) then (gnS (sec l i) : Int) else ((genG 1 (l.take i) : Int) - 1))) = _
    rw [hsn]
    split <;> split <;> omega
  · skip
    repeat' (first
        | exact True.intro
        | exact rfl
        | refine And.intro rfl ?_
        | refine awc_seq ?_
        | refine awc_region ?_
        | refine awc_draw ?_
        | refine awt_a rfl rfl rfl ?_ ?_
        | refine awt_b rfl rfl rfl rfl ?_ ?_
        | refine awt_c rfl rfl rfl ?_ ?_
        | refine awt_gt rfl rfl ?_
        | refine awt_gf rfl rfl rfl ?_
        | refine awt_gu rfl rfl rfl ?_
        | (refine awt_h rfl rfl rfl ?_ ?_ <;> intro hb)
        | refine awt_nil ?_
        | refine dq (by kernel_rfl) ?_
        | refine thn_n ?_
        | refine thn_r ?_
        | refine thn_e ?_
        | refine awc_condT rfl ?_
        | refine awc_condF rfl ?_
        | (refine awc_cond rfl ?_ ?_ <;> intro hb)
        | refine awc_block ?_
        | refine blk_n ?_
        | refine blk_r ?_
        | refine blk_e ?_
        | refine blk_o rfl ?_
        | refine awc_ret ?_
        | refine awc_skip ?_
        | refine awc_label ?_
        | refine awc_exit ?_
        | refine retq_r ?_
        | refine retq_n ?_
        | exact ResIs.tv rfl
        | exact ResIs.ts rfl
        | exact ResIs.tc rfl
        | exact ResIs.tn rfl rfl
        | exact ResIs.to rfl rfl
        | apply ResIs.tagg rfl
        | exact ResIs.cv rfl trivial
        | exact ResIs.cs rfl trivial
        | exact ResIs.cn rfl trivial rfl
        | exact ResIs.co rfl trivial rfl
        | apply ResIs.cagg rfl trivial
        | exact CoeL.nil
        | apply CoeL.v
        | apply CoeL.sl
        | apply CoeL.clp
        | apply CoeL.emp rfl
        | apply CoeL.own rfl
        | apply ret_one
        | apply ret_two
        | apply ret_three
        | exact rawq_r rfl
        | apply rawq_rc rfl
        | apply ownq_rv rfl rfl)
    all_goals (try (exfalso; have := of_decide_eq_true hb; omega))
    refine eqVI ?_
    rw [List.take_of_length_le (by omega)] at hgl hg0 ⊢
    rw [u64w (by omega) (by omega)]
    unfold genS
    omega
end B
end Go.Proofs.Ytbmnhagbplkagaa
