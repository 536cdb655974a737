import Derived.Test.YtbmnhagbplkagaaD10e
import Derived.Test.YtbmnhagbplkagaaD11b
import Derived.Test.YtbmnhagbplkagaaD11m
/- Contracts of the reference of the journal: a sync. -/
namespace Go.Proofs.Ytbmnhagbplkagaa
namespace B
open Go.RowKit
set_option maxHeartbeats 4000000
set_option maxRecDepth 100000
attribute [local irreducible] awc awT thn blk DQ retQ rawQ ownQ retOk ResIs

theorem u64_rng (K : Int) : 0 ≤ IntKind.u64.wrap K ∧ IntKind.u64.wrap K < 18446744073709551616 := by
  simp only [IntKind.wrap_u64]; omega
theorem wrok_step {g : Nat} {tot : Option Dk} {rest : List (UInt8 × List UInt8)} {d : Dk} {a : Int} {kd : UInt8} {p : List UInt8} (h : WrOk g tot ((kd, p) :: rest) d a) (hp : p.length ≤ 112) : WrOk g tot rest (dWrite d a (enc g (IntKind.u64.wrap a).toNat kd p)).1 (IntKind.i64.wrap (a + 1)) := by
  rcases h with ⟨k, rfl, h1, h2, h3, h4⟩ | ⟨rfl, h⟩
  · have hl := bad_len h1
    rw [u64w (by omega) (by omega), Int.toNat_natCast, i64w (by omega) (by omega)]
    rcases WrOk.step (p := (kd, p)) h1 h2 h3 h4 hp with ⟨_, hw, hok⟩ | ⟨hw, hn⟩
    · rw [hw]; exact hok
    · rw [hw]; exact .inr ⟨rfl, hn⟩
  · exact .inr ⟨rfl, h⟩
theorem kdB_eq (k n : Nat) (h : k < n) : kdB (((k : Int)) == 0) ((k : Int) == ((n : Int) - 1)) = kdN (decide (k = 0)) (n - k - 1) := by
  have e1 : (((k : Int)) == 0) = decide (k = 0) := by
    by_cases q : k = 0
    · rw [decide_eq_true q, beq_iff_eq]; omega
    · rw [decide_eq_false q, beq_eq_false_iff_ne]; omega
  have e2 : ((k : Int) == ((n : Int) - 1)) = Nat.beq (n - k - 1) 0 := by
    by_cases q : n - k - 1 = 0
    · rw [q, beq_iff_eq.2 (show (k : Int) = (n : Int) - 1 by omega)]; rfl
    · have : Nat.beq (n - k - 1) 0 = false := by
        cases hq : Nat.beq (n - k - 1) 0 with
        | false => rfl
        | true => exact absurd (Nat.eq_of_beq_eq_true hq) q
      rw [this, beq_eq_false_iff_ne]; omega
  rw [e1, e2]
  unfold kdB kdN
  cases decide (k = 0) <;> rfl
theorem pcs_at (b : List UInt8) (n k : Nat) (h : k < n) : pcs (decide (k = 0)) (b.drop (112 * k)) (n - k) = (kdN (decide (k = 0)) (n - k - 1), (b.drop (112 * k)).take 112) :: pcs (decide (k + 1 = 0)) (b.drop (112 * (k + 1))) (n - (k + 1)) := by
  rw [show n - k = (n - (k + 1)) + 1 by omega]
  rw [decide_eq_false (show ¬ k + 1 = 0 by omega), show 112 * (k + 1) = 112 * k + 112 by omega, ← List.drop_drop]
  rfl
theorem c50 (rs : List (List UInt8)) (many synced : Int) (ss : List (List UInt8)) (ps : List (Int × List UInt8)) (left : Int) (st : Bool) : ACalls 50 [aJ rs many synced, aD ss ps left st] (aRS (jSync ⟨rs, many, synced⟩ ⟨ss, ps, left, st⟩)) := by
  have hc47 := c47 rs many synced
  have hc23 := c23 ss ps left st
  cases hj : jBad rs many synced with
  | true =>
    have h1 : jChk rs many synced = 1 := by unfold jChk; rw [hj]; rfl
    rw [h1] at hc47
    refine acalls (n := 149) (rs := [.cell 4 45, .cell 5 25, .tmp 6]) (Ts := [45, 25, 28]) Try.func50 rfl rfl rfl rfl rfl rfl ?_
    repeat' (first
        | exact True.intro
        | exact rfl
        | refine And.intro rfl ?_
        | refine awc_seq ?_
        | refine awc_region ?_
        | refine awc_draw ?_
        | refine awt_a rfl rfl rfl ?_ ?_
        | refine awt_call0 rfl (hc47) rfl rfl rfl rfl rfl ?_
        | refine awt_call1 rfl (hc47) rfl rfl rfl rfl rfl ?_
        | refine awt_call2 rfl (hc47) rfl rfl rfl rfl rfl ?_
        | refine awt_b rfl rfl rfl rfl ?_ ?_
        | refine awt_c rfl rfl rfl ?_ ?_
        | refine awt_gt rfl rfl ?_
        | refine awt_gf rfl rfl rfl ?_
        | refine awt_gu rfl rfl rfl ?_
        | (refine awt_h rfl rfl rfl ?_ ?_ <;> intro hb)
        | refine awt_nil ?_
        | refine dq (by kernel_rfl) ?_
        | refine thn_n ?_
        | refine thn_r ?_
        | refine thn_e ?_
        | refine awc_condT rfl ?_
        | refine awc_condF rfl ?_
        | (refine awc_cond rfl ?_ ?_ <;> intro hb)
        | refine awc_block ?_
        | refine blk_n ?_
        | refine blk_r ?_
        | refine blk_e ?_
        | refine blk_o rfl ?_
        | refine awc_ret ?_
        | refine awc_skip ?_
        | refine awc_label ?_
        | refine awc_exit ?_
        | refine retq_r ?_
        | refine retq_n ?_
        | exact ResIs.tv rfl
        | exact ResIs.ts rfl
        | exact ResIs.tc rfl
        | exact ResIs.tn rfl rfl
        | exact ResIs.to rfl rfl
        | apply ResIs.tagg rfl
        | exact ResIs.cv rfl trivial
        | exact ResIs.cs rfl trivial
        | exact ResIs.cn rfl trivial rfl
        | exact ResIs.co rfl trivial rfl
        | apply ResIs.cagg rfl trivial
        | exact CoeL.nil
        | apply CoeL.v
        | apply CoeL.sl
        | apply CoeL.clp
        | apply CoeL.emp rfl
        | apply CoeL.own rfl
        | apply ret_one
        | apply ret_two
        | apply ret_three
        | exact rawq_r rfl
        | apply rawq_rc rfl
        | apply ownq_rv rfl rfl)
    refine eqRS ?_
    unfold jSync
    rw [if_pos hj]; rfl
  | false =>
  have hj' : ¬ (jBad rs many synced = true) := by rw [hj]; exact Bool.false_ne_true
  have h1 : jChk rs many synced = 0 := by unfold jChk; rw [hj]; rfl
  rw [h1] at hc47
  cases hd : dBad ss ps left with
  | true =>
    have h2 : dChk ss ps left = 40 := by unfold dChk; rw [hd]; rfl
    rw [h2] at hc23
    refine acalls (n := 149) (rs := [.cell 4 45, .cell 5 25, .tmp 6]) (Ts := [45, 25, 28]) Try.func50 rfl rfl rfl rfl rfl rfl ?_
    repeat' (first
        | exact True.intro
        | exact rfl
        | refine And.intro rfl ?_
        | refine awc_seq ?_
        | refine awc_region ?_
        | refine awc_draw ?_
        | refine awt_a rfl rfl rfl ?_ ?_
        | refine awt_call0 rfl (hc47) rfl rfl rfl rfl rfl ?_
        | refine awt_call1 rfl (hc47) rfl rfl rfl rfl rfl ?_
        | refine awt_call2 rfl (hc47) rfl rfl rfl rfl rfl ?_
        | refine awt_call0 rfl (hc23) rfl rfl rfl rfl rfl ?_
        | refine awt_call1 rfl (hc23) rfl rfl rfl rfl rfl ?_
        | refine awt_call2 rfl (hc23) rfl rfl rfl rfl rfl ?_
        | refine awt_b rfl rfl rfl rfl ?_ ?_
        | refine awt_c rfl rfl rfl ?_ ?_
        | refine awt_gt rfl rfl ?_
        | refine awt_gf rfl rfl rfl ?_
        | refine awt_gu rfl rfl rfl ?_
        | (refine awt_h rfl rfl rfl ?_ ?_ <;> intro hb)
        | refine awt_nil ?_
        | refine dq (by kernel_rfl) ?_
        | refine thn_n ?_
        | refine thn_r ?_
        | refine thn_e ?_
        | refine awc_condT rfl ?_
        | refine awc_condF rfl ?_
        | (refine awc_cond rfl ?_ ?_ <;> intro hb)
        | refine awc_block ?_
        | refine blk_n ?_
        | refine blk_r ?_
        | refine blk_e ?_
        | refine blk_o rfl ?_
        | refine awc_ret ?_
        | refine awc_skip ?_
        | refine awc_label ?_
        | refine awc_exit ?_
        | refine retq_r ?_
        | refine retq_n ?_
        | exact ResIs.tv rfl
        | exact ResIs.ts rfl
        | exact ResIs.tc rfl
        | exact ResIs.tn rfl rfl
        | exact ResIs.to rfl rfl
        | apply ResIs.tagg rfl
        | exact ResIs.cv rfl trivial
        | exact ResIs.cs rfl trivial
        | exact ResIs.cn rfl trivial rfl
        | exact ResIs.co rfl trivial rfl
        | apply ResIs.cagg rfl trivial
        | exact CoeL.nil
        | apply CoeL.v
        | apply CoeL.sl
        | apply CoeL.clp
        | apply CoeL.emp rfl
        | apply CoeL.own rfl
        | apply ret_one
        | apply ret_two
        | apply ret_three
        | exact rawq_r rfl
        | apply rawq_rc rfl
        | apply ownq_rv rfl rfl)
    refine eqRS ?_
    unfold jSync
    rw [if_neg hj', if_pos hd]; rfl
  | false =>
  have hd' : ¬ (dBad ss ps left = true) := by rw [hd]; exact Bool.false_ne_true
  have h2 : dChk ss ps left = 0 := by unfold dChk; rw [hd]; rfl
  rw [h2] at hc23
  have hsz := dBad_iff.1 hd
  cases st with
  | true =>
    have hr : jSync ⟨rs, many, synced⟩ ⟨ss, ps, left, true⟩ = (jz, .z, 40) := by
      unfold jSync
      rw [if_neg hj', if_neg hd', if_pos rfl]
    refine acalls (n := 149) (rs := [.cell 4 45, .cell 5 25, .tmp 6]) (Ts := [45, 25, 28]) Try.func50 rfl rfl rfl rfl rfl rfl ?_
    repeat' (first
        | exact True.intro
        | exact rfl
        | refine And.intro rfl ?_
        | refine awc_seq ?_
        | refine awc_region ?_
        | refine awc_draw ?_
        | refine awt_a rfl rfl rfl ?_ ?_
        | refine awt_call0 rfl (hc47) rfl rfl rfl rfl rfl ?_
        | refine awt_call1 rfl (hc47) rfl rfl rfl rfl rfl ?_
        | refine awt_call2 rfl (hc47) rfl rfl rfl rfl rfl ?_
        | refine awt_call0 rfl (hc23) rfl rfl rfl rfl rfl ?_
        | refine awt_call1 rfl (hc23) rfl rfl rfl rfl rfl ?_
        | refine awt_call2 rfl (hc23) rfl rfl rfl rfl rfl ?_
        | refine awt_b rfl rfl rfl rfl ?_ ?_
        | refine awt_c rfl rfl rfl ?_ ?_
        | refine awt_gt rfl rfl ?_
        | refine awt_gf rfl rfl rfl ?_
        | refine awt_gu rfl rfl rfl ?_
        | (refine awt_h rfl rfl rfl ?_ ?_ <;> intro hb)
        | refine awt_nil ?_
        | refine dq (by kernel_rfl) ?_
        | refine thn_n ?_
        | refine thn_r ?_
        | refine thn_e ?_
        | refine awc_condT rfl ?_
        | refine awc_condF rfl ?_
        | (refine awc_cond rfl ?_ ?_ <;> intro hb)
        | refine awc_block ?_
        | refine blk_n ?_
        | refine blk_r ?_
        | refine blk_e ?_
        | refine blk_o rfl ?_
        | refine awc_ret ?_
        | refine awc_skip ?_
        | refine awc_label ?_
        | refine awc_exit ?_
        | refine retq_r ?_
        | refine retq_n ?_
        | exact ResIs.tv rfl
        | exact ResIs.ts rfl
        | exact ResIs.tc rfl
        | exact ResIs.tn rfl rfl
        | exact ResIs.to rfl rfl
        | apply ResIs.tagg rfl
        | exact ResIs.cv rfl trivial
        | exact ResIs.cs rfl trivial
        | exact ResIs.cn rfl trivial rfl
        | exact ResIs.co rfl trivial rfl
        | apply ResIs.cagg rfl trivial
        | exact CoeL.nil
        | apply CoeL.v
        | apply CoeL.sl
        | apply CoeL.clp
        | apply CoeL.emp rfl
        | apply CoeL.own rfl
        | apply ret_one
        | apply ret_two
        | apply ret_three
        | exact rawq_r rfl
        | apply rawq_rc rfl
        | apply ownq_rv rfl rfl)
    all_goals (refine eqRS ?_; rw [hr]; rfl)
  | false =>
  have hmm : (many != (ss.length : Int)) = decide (¬ many = ss.length) := by
    by_cases q : many = ss.length
    · rw [decide_eq_false (not_not_intro q), bne_eq_false_iff_eq]; exact q
    · rw [decide_eq_true q, bne_iff_ne]; exact q
  have hpp : decide ((ps.length : Int) > 0) = decide (ps.length > 0) := by
    by_cases q : ps.length > 0
    · rw [decide_eq_true q, decide_eq_true]; omega
    · rw [decide_eq_false q, decide_eq_false]; omega
  by_cases hm : ¬ (many = ss.length) ∨ ps.length > 0
  · have hr : jSync ⟨rs, many, synced⟩ ⟨ss, ps, left, false⟩ = (jz, .z, 1) := by
      unfold jSync
      rw [if_neg hj', if_neg hd', if_neg (fun h => Bool.false_ne_true h), if_pos hm]
    have hneg : (many != (ss.length : Int)) = false → decide ((ps.length : Int) > 0) = false → False := fun q1 q2 => by
      rw [hmm] at q1; rw [hpp] at q2
      rcases hm with q | q
      · rw [decide_eq_true q] at q1; cases q1
      · rw [decide_eq_true q] at q2; cases q2
    refine acalls (n := 149) (rs := [.cell 4 45, .cell 5 25, .tmp 6]) (Ts := [45, 25, 28]) Try.func50 rfl rfl rfl rfl rfl rfl ?_
    repeat' (first
        | exact True.intro
        | exact rfl
        | refine And.intro rfl ?_
        | refine awc_seq ?_
        | refine awc_region ?_
        | refine awc_draw ?_
        | refine awt_a rfl rfl rfl ?_ ?_
        | refine awt_call0 rfl (hc47) rfl rfl rfl rfl rfl ?_
        | refine awt_call1 rfl (hc47) rfl rfl rfl rfl rfl ?_
        | refine awt_call2 rfl (hc47) rfl rfl rfl rfl rfl ?_
        | refine awt_call0 rfl (hc23) rfl rfl rfl rfl rfl ?_
        | refine awt_call1 rfl (hc23) rfl rfl rfl rfl rfl ?_
        | refine awt_call2 rfl (hc23) rfl rfl rfl rfl rfl ?_
        | refine awt_b rfl rfl rfl rfl ?_ ?_
        | refine awt_c rfl rfl rfl ?_ ?_
        | refine awt_gt rfl rfl ?_
        | refine awt_gf rfl rfl rfl ?_
        | refine awt_gu rfl rfl rfl ?_
        | (refine awt_h rfl rfl rfl ?_ ?_ <;> intro hb)
        | refine awt_nil ?_
        | refine dq (by kernel_rfl) ?_
        | refine thn_n ?_
        | refine thn_r ?_
        | refine thn_e ?_
        | refine awc_condT rfl ?_
        | refine awc_condF rfl ?_
        | (refine awc_cond rfl ?_ ?_ <;> intro hb)
        | refine awc_block ?_
        | refine blk_n ?_
        | refine blk_r ?_
        | refine blk_e ?_
        | refine blk_o rfl ?_
        | refine awc_ret ?_
        | refine awc_skip ?_
        | refine awc_label ?_
        | refine awc_exit ?_
        | refine retq_r ?_
        | refine retq_n ?_
        | exact ResIs.tv rfl
        | exact ResIs.ts rfl
        | exact ResIs.tc rfl
        | exact ResIs.tn rfl rfl
        | exact ResIs.to rfl rfl
        | apply ResIs.tagg rfl
        | exact ResIs.cv rfl trivial
        | exact ResIs.cs rfl trivial
        | exact ResIs.cn rfl trivial rfl
        | exact ResIs.co rfl trivial rfl
        | apply ResIs.cagg rfl trivial
        | exact CoeL.nil
        | apply CoeL.v
        | apply CoeL.sl
        | apply CoeL.clp
        | apply CoeL.emp rfl
        | apply CoeL.own rfl
        | apply ret_one
        | apply ret_two
        | apply ret_three
        | exact rawq_r rfl
        | apply rawq_rc rfl
        | apply ownq_rv rfl rfl)
    all_goals (try (refine eqRS ?_; rw [hr]; rfl))
    all_goals (exfalso; rename_i q1; exact hneg q1 hb)
  have hm1 : many = ss.length := Decidable.byContradiction fun q => hm (.inl q)
  have hp : ¬ ps.length > 0 := fun q => hm (.inr q)
  rw [decide_eq_false (not_not_intro hm1)] at hmm
  rw [decide_eq_false hp] at hpp
  have hss := hsz.2.2.2.2.2.2
  have hjg := jGood hj
  have hbd0 : (⟨ss, ps, left, false⟩ : Dk).bad = false := by unfold Dk.bad; rw [hd]; rfl
  have h72 := c72 ss hss hsz.2.1
  have h75 := c75 ss hss hsz.2.1
  have h41 := c41 (recs ss) (rs.take synced.toNat)
  have hgle := genS_le hss
  have hgp := genS_pos ss
  have hcutok : (0 : Int) ≤ synced ∧ synced ≤ rs.length := ⟨hjg.2.2.1, hjg.2.2.2.1⟩
  have hgd : decide ((genS ss : Int) > 4294967295) = decide (genS ss > 4294967295) := by
    by_cases q : genS ss > 4294967295
    · rw [decide_eq_true q, decide_eq_true]; omega
    · rw [decide_eq_false q, decide_eq_false]; omega
  by_cases hE : ¬ (recs ss = rs.take synced.toNat)
  · have hr : jSync ⟨rs, many, synced⟩ ⟨ss, ps, left, false⟩ = (jz, .z, 50) := by
      unfold jSync
      rw [if_neg hj', if_neg hd', if_neg (fun h => Bool.false_ne_true h), if_neg hm, if_pos (.inl hE)]
    rw [decide_eq_false hE] at h41
    refine acalls (n := 149) (rs := [.cell 4 45, .cell 5 25, .tmp 6]) (Ts := [45, 25, 28]) Try.func50 rfl rfl rfl rfl rfl rfl ?_
    repeat' (first
        | (exact absurd hb (by rw [hmm]; decide))
        | (exact absurd hb (by rw [hpp]; decide))
        | exact True.intro
        | exact rfl
        | refine And.intro rfl ?_
        | refine awc_seq ?_
        | refine awc_region ?_
        | refine awc_draw ?_
        | refine awt_a rfl rfl rfl ?_ ?_
        | refine awt_call0 rfl (hc47) rfl rfl rfl rfl rfl ?_
        | refine awt_call1 rfl (hc47) rfl rfl rfl rfl rfl ?_
        | refine awt_call2 rfl (hc47) rfl rfl rfl rfl rfl ?_
        | refine awt_call0 rfl (hc23) rfl rfl rfl rfl rfl ?_
        | refine awt_call1 rfl (hc23) rfl rfl rfl rfl rfl ?_
        | refine awt_call2 rfl (hc23) rfl rfl rfl rfl rfl ?_
        | refine awt_call0 rfl (h72) rfl rfl rfl rfl rfl ?_
        | refine awt_call1 rfl (h72) rfl rfl rfl rfl rfl ?_
        | refine awt_call2 rfl (h72) rfl rfl rfl rfl rfl ?_
        | refine awt_call0 rfl (h75) rfl rfl rfl rfl rfl ?_
        | refine awt_call1 rfl (h75) rfl rfl rfl rfl rfl ?_
        | refine awt_call2 rfl (h75) rfl rfl rfl rfl rfl ?_
        | refine awt_call0 rfl (h41) rfl rfl rfl rfl rfl ?_
        | refine awt_call1 rfl (h41) rfl rfl rfl rfl rfl ?_
        | refine awt_call2 rfl (h41) rfl rfl rfl rfl rfl ?_
        | refine awt_b rfl rfl rfl rfl ?_ ?_
        | refine awt_c rfl rfl rfl ?_ ?_
        | refine awt_gt rfl rfl ?_
        | refine awt_gf rfl rfl rfl ?_
        | refine awt_gu rfl rfl rfl ?_
        | (refine awt_h rfl rfl rfl ?_ ?_ <;> intro hb)
        | refine awt_nil ?_
        | refine dq (by kernel_rfl) ?_
        | refine thn_n ?_
        | refine thn_r ?_
        | refine thn_e ?_
        | refine awc_condT rfl ?_
        | refine awc_condF rfl ?_
        | (refine awc_cond rfl ?_ ?_ <;> intro hb)
        | refine awc_block ?_
        | refine blk_n ?_
        | refine blk_r ?_
        | refine blk_e ?_
        | refine blk_o rfl ?_
        | refine awc_ret ?_
        | refine awc_skip ?_
        | refine awc_label ?_
        | refine awc_exit ?_
        | refine retq_r ?_
        | refine retq_n ?_
        | exact ResIs.tv rfl
        | exact ResIs.ts rfl
        | exact ResIs.tc rfl
        | exact ResIs.tn rfl rfl
        | exact ResIs.to rfl rfl
        | apply ResIs.tagg rfl
        | exact ResIs.cv rfl trivial
        | exact ResIs.cs rfl trivial
        | exact ResIs.cn rfl trivial rfl
        | exact ResIs.co rfl trivial rfl
        | apply ResIs.cagg rfl trivial
        | exact CoeL.nil
        | apply CoeL.v
        | apply CoeL.sl
        | apply CoeL.clp
        | apply CoeL.emp rfl
        | apply CoeL.own rfl
        | apply ret_one
        | apply ret_two
        | apply ret_three
        | exact rawq_r rfl
        | apply rawq_rc rfl
        | apply ownq_rv rfl rfl)
    all_goals (try (refine eqRS ?_; rw [hr]; rfl))
    all_goals (try exact hcutok)
  have hE := Decidable.of_not_not hE
  rw [decide_eq_true hE] at h41
  by_cases hG : genS ss > 4294967295
  · have hr : jSync ⟨rs, many, synced⟩ ⟨ss, ps, left, false⟩ = (jz, .z, 50) := by
      unfold jSync
      rw [if_neg hj', if_neg hd', if_neg (fun h => Bool.false_ne_true h), if_neg hm, if_pos (.inr hG)]
    rw [decide_eq_true hG] at hgd
    refine acalls (n := 149) (rs := [.cell 4 45, .cell 5 25, .tmp 6]) (Ts := [45, 25, 28]) Try.func50 rfl rfl rfl rfl rfl rfl ?_
    repeat' (first
        | (exact absurd hb (by rw [hmm]; decide))
        | (exact absurd hb (by rw [hpp]; decide))
        | (exact absurd hb (by rw [hgd]; decide))
        | exact True.intro
        | exact rfl
        | refine And.intro rfl ?_
        | refine awc_seq ?_
        | refine awc_region ?_
        | refine awc_draw ?_
        | refine awt_a rfl rfl rfl ?_ ?_
        | refine awt_call0 rfl (hc47) rfl rfl rfl rfl rfl ?_
        | refine awt_call1 rfl (hc47) rfl rfl rfl rfl rfl ?_
        | refine awt_call2 rfl (hc47) rfl rfl rfl rfl rfl ?_
        | refine awt_call0 rfl (hc23) rfl rfl rfl rfl rfl ?_
        | refine awt_call1 rfl (hc23) rfl rfl rfl rfl rfl ?_
        | refine awt_call2 rfl (hc23) rfl rfl rfl rfl rfl ?_
        | refine awt_call0 rfl (h72) rfl rfl rfl rfl rfl ?_
        | refine awt_call1 rfl (h72) rfl rfl rfl rfl rfl ?_
        | refine awt_call2 rfl (h72) rfl rfl rfl rfl rfl ?_
        | refine awt_call0 rfl (h75) rfl rfl rfl rfl rfl ?_
        | refine awt_call1 rfl (h75) rfl rfl rfl rfl rfl ?_
        | refine awt_call2 rfl (h75) rfl rfl rfl rfl rfl ?_
        | refine awt_call0 rfl (h41) rfl rfl rfl rfl rfl ?_
        | refine awt_call1 rfl (h41) rfl rfl rfl rfl rfl ?_
        | refine awt_call2 rfl (h41) rfl rfl rfl rfl rfl ?_
        | refine awt_b rfl rfl rfl rfl ?_ ?_
        | refine awt_c rfl rfl rfl ?_ ?_
        | refine awt_gt rfl rfl ?_
        | refine awt_gf rfl rfl rfl ?_
        | refine awt_gu rfl rfl rfl ?_
        | (refine awt_h rfl rfl rfl ?_ ?_ <;> intro hb)
        | refine awt_nil ?_
        | refine dq (by kernel_rfl) ?_
        | refine thn_n ?_
        | refine thn_r ?_
        | refine thn_e ?_
        | refine awc_condT rfl ?_
        | refine awc_condF rfl ?_
        | (refine awc_cond rfl ?_ ?_ <;> intro hb)
        | refine awc_block ?_
        | refine blk_n ?_
        | refine blk_r ?_
        | refine blk_e ?_
        | refine blk_o rfl ?_
        | refine awc_ret ?_
        | refine awc_skip ?_
        | refine awc_label ?_
        | refine awc_exit ?_
        | refine retq_r ?_
        | refine retq_n ?_
        | exact ResIs.tv rfl
        | exact ResIs.ts rfl
        | exact ResIs.tc rfl
        | exact ResIs.tn rfl rfl
        | exact ResIs.to rfl rfl
        | apply ResIs.tagg rfl
        | exact ResIs.cv rfl trivial
        | exact ResIs.cs rfl trivial
        | exact ResIs.cn rfl trivial rfl
        | exact ResIs.co rfl trivial rfl
        | apply ResIs.cagg rfl trivial
        | exact CoeL.nil
        | apply CoeL.v
        | apply CoeL.sl
        | apply CoeL.clp
        | apply CoeL.emp rfl
        | apply CoeL.own rfl
        | apply ret_one
        | apply ret_two
        | apply ret_three
        | exact rawq_r rfl
        | apply rawq_rc rfl
        | apply ownq_rv rfl rfl)
    all_goals (try (refine eqRS ?_; rw [hr]; rfl))
    all_goals (try exact hcutok)
  rw [decide_eq_false hG] at hgd
  have hr0 : jSync ⟨rs, many, synced⟩ ⟨ss, ps, left, false⟩ = if synced = rs.length then (⟨rs, many, synced⟩, ⟨ss, ps, left, false⟩, 0) else match wrD (genS ss) (pcsL (rs.drop synced.toNat)) ⟨ss, ps, left, false⟩ (usedN (rs.take synced.toNat)) with
    | none => (jz, .z, 40)
    | some d' => if (dSync d').2 ≠ 0 then (jz, (dSync d').1, (dSync d').2) else (⟨rs, many, rs.length⟩, (dSync d').1, 0) := by
    unfold jSync
    rw [if_neg hj', if_neg hd', if_neg (fun h => Bool.false_ne_true h), if_neg hm, if_neg (fun h => h.elim (fun q => q hE) hG)]
    rfl
  by_cases hS : synced = rs.length
  · rw [if_pos hS] at hr0
    have hS' : (synced == (rs.length : Int)) = true := by rw [beq_iff_eq]; exact hS
    refine acalls (n := 149) (rs := [.cell 4 45, .cell 5 25, .tmp 6]) (Ts := [45, 25, 28]) Try.func50 rfl rfl rfl rfl rfl rfl ?_
    repeat' (first
        | (exact absurd hb (by rw [hmm]; decide))
        | (exact absurd hb (by rw [hpp]; decide))
        | (exact absurd hb (by rw [hgd]; decide))
        | (exact absurd hb (by rw [hS']; decide))
        | exact True.intro
        | exact rfl
        | refine And.intro rfl ?_
        | refine awc_seq ?_
        | refine awc_region ?_
        | refine awc_draw ?_
        | refine awt_a rfl rfl rfl ?_ ?_
        | refine awt_call0 rfl (hc47) rfl rfl rfl rfl rfl ?_
        | refine awt_call1 rfl (hc47) rfl rfl rfl rfl rfl ?_
        | refine awt_call2 rfl (hc47) rfl rfl rfl rfl rfl ?_
        | refine awt_call0 rfl (hc23) rfl rfl rfl rfl rfl ?_
        | refine awt_call1 rfl (hc23) rfl rfl rfl rfl rfl ?_
        | refine awt_call2 rfl (hc23) rfl rfl rfl rfl rfl ?_
        | refine awt_call0 rfl (h72) rfl rfl rfl rfl rfl ?_
        | refine awt_call1 rfl (h72) rfl rfl rfl rfl rfl ?_
        | refine awt_call2 rfl (h72) rfl rfl rfl rfl rfl ?_
        | refine awt_call0 rfl (h75) rfl rfl rfl rfl rfl ?_
        | refine awt_call1 rfl (h75) rfl rfl rfl rfl rfl ?_
        | refine awt_call2 rfl (h75) rfl rfl rfl rfl rfl ?_
        | refine awt_call0 rfl (h41) rfl rfl rfl rfl rfl ?_
        | refine awt_call1 rfl (h41) rfl rfl rfl rfl rfl ?_
        | refine awt_call2 rfl (h41) rfl rfl rfl rfl rfl ?_
        | refine awt_b rfl rfl rfl rfl ?_ ?_
        | refine awt_c rfl rfl rfl ?_ ?_
        | refine awt_gt rfl rfl ?_
        | refine awt_gf rfl rfl rfl ?_
        | refine awt_gu rfl rfl rfl ?_
        | (refine awt_h rfl rfl rfl ?_ ?_ <;> intro hb)
        | refine awt_nil ?_
        | refine dq (by kernel_rfl) ?_
        | refine thn_n ?_
        | refine thn_r ?_
        | refine thn_e ?_
        | refine awc_condT rfl ?_
        | refine awc_condF rfl ?_
        | (refine awc_cond rfl ?_ ?_ <;> intro hb)
        | refine awc_block ?_
        | refine blk_n ?_
        | refine blk_r ?_
        | refine blk_e ?_
        | refine blk_o rfl ?_
        | refine awc_ret ?_
        | refine awc_skip ?_
        | refine awc_label ?_
        | refine awc_exit ?_
        | refine retq_r ?_
        | refine retq_n ?_
        | exact ResIs.tv rfl
        | exact ResIs.ts rfl
        | exact ResIs.tc rfl
        | exact ResIs.tn rfl rfl
        | exact ResIs.to rfl rfl
        | apply ResIs.tagg rfl
        | exact ResIs.cv rfl trivial
        | exact ResIs.cs rfl trivial
        | exact ResIs.cn rfl trivial rfl
        | exact ResIs.co rfl trivial rfl
        | apply ResIs.cagg rfl trivial
        | exact CoeL.nil
        | apply CoeL.v
        | apply CoeL.sl
        | apply CoeL.clp
        | apply CoeL.emp rfl
        | apply CoeL.own rfl
        | apply ret_one
        | apply ret_two
        | apply ret_three
        | exact rawq_r rfl
        | apply rawq_rc rfl
        | apply ownq_rv rfl rfl)
    all_goals (try exact hcutok)
    all_goals (try (refine eqRS ?_; rw [hr0]))
  rw [if_neg hS] at hr0
  have hS' : (synced == (rs.length : Int)) = false := by rw [beq_eq_false_iff_ne]; exact hS
  have hu0 : usedN (rs.take synced.toNat) ≤ ss.length := by
    have := used_recs ss
    rw [hE] at this
    exact this
  have hu : usedI (rs.take synced.toNat) = (usedN (rs.take synced.toNat) : Int) := usedI_eq (by omega)
  have h74 := c74 (rs.take synced.toNat)
  rw [hu] at h74
  obtain ⟨g, hg⟩ : ∃ g, g = genS ss := ⟨_, rfl⟩
  obtain ⟨tot, htot⟩ : ∃ tot, tot = wrD g (pcsL (rs.drop synced.toNat)) ⟨ss, ps, left, false⟩ (usedN (rs.take synced.toNat)) := ⟨_, rfl⟩
  rw [← hg, ← htot] at hr0
  rw [← hg] at hgd hgle hgp hG h75
  refine acalls (n := 149) (rs := [.cell 4 45, .cell 5 25, .tmp 6]) (Ts := [45, 25, 28]) Try.func50 rfl rfl rfl rfl rfl rfl ?_
  refine awc_bd 0 _ rfl ?_
  intro hbd
  have hb24 : List.length rs * 24 ≤ 140737488355328 := hbd.1.1
  repeat' (first
      | (exact absurd hb (by rw [hmm]; decide))
      | (exact absurd hb (by rw [hpp]; decide))
      | (exact absurd hb (by rw [hgd]; decide))
      | (exact absurd hb (by rw [hS']; decide))
      | exact True.intro
      | exact rfl
      | refine And.intro rfl ?_
      | refine awc_seq ?_
      | refine awc_region ?_
      | refine awc_draw ?_
      | refine awt_a rfl rfl rfl ?_ ?_
      | refine awt_call0 rfl (hc47) rfl rfl rfl rfl rfl ?_
      | refine awt_call1 rfl (hc47) rfl rfl rfl rfl rfl ?_
      | refine awt_call2 rfl (hc47) rfl rfl rfl rfl rfl ?_
      | refine awt_call0 rfl (hc23) rfl rfl rfl rfl rfl ?_
      | refine awt_call1 rfl (hc23) rfl rfl rfl rfl rfl ?_
      | refine awt_call2 rfl (hc23) rfl rfl rfl rfl rfl ?_
      | refine awt_call0 rfl (h72) rfl rfl rfl rfl rfl ?_
      | refine awt_call1 rfl (h72) rfl rfl rfl rfl rfl ?_
      | refine awt_call2 rfl (h72) rfl rfl rfl rfl rfl ?_
      | refine awt_call0 rfl (h75) rfl rfl rfl rfl rfl ?_
      | refine awt_call1 rfl (h75) rfl rfl rfl rfl rfl ?_
      | refine awt_call2 rfl (h75) rfl rfl rfl rfl rfl ?_
      | refine awt_call0 rfl (h41) rfl rfl rfl rfl rfl ?_
      | refine awt_call1 rfl (h41) rfl rfl rfl rfl rfl ?_
      | refine awt_call2 rfl (h41) rfl rfl rfl rfl rfl ?_
      | refine awt_call0 rfl (h74) rfl rfl rfl rfl rfl ?_
      | refine awt_call1 rfl (h74) rfl rfl rfl rfl rfl ?_
      | refine awt_call2 rfl (h74) rfl rfl rfl rfl rfl ?_
      | refine awt_b rfl rfl rfl rfl ?_ ?_
      | refine awt_c rfl rfl rfl ?_ ?_
      | refine awt_gt rfl rfl ?_
      | refine awt_gf rfl rfl rfl ?_
      | refine awt_gu rfl rfl rfl ?_
      | (refine awt_h rfl rfl rfl ?_ ?_ <;> intro hb)
      | refine awt_nil ?_
      | refine dq (by kernel_rfl) ?_
      | refine thn_n ?_
      | refine thn_r ?_
      | refine thn_e ?_
      | refine awc_condT rfl ?_
      | refine awc_condF rfl ?_
      | (refine awc_cond rfl ?_ ?_ <;> intro hb)
      | refine awc_block ?_
      | refine blk_n ?_
      | refine blk_r ?_
      | refine blk_e ?_
      | refine blk_o rfl ?_
      | refine awc_ret ?_
      | refine awc_skip ?_
      | refine awc_label ?_
      | refine awc_exit ?_
      | refine retq_r ?_
      | refine retq_n ?_
      | exact ResIs.tv rfl
      | exact ResIs.ts rfl
      | exact ResIs.tc rfl
      | exact ResIs.tn rfl rfl
      | exact ResIs.to rfl rfl
      | apply ResIs.tagg rfl
      | exact ResIs.cv rfl trivial
      | exact ResIs.cs rfl trivial
      | exact ResIs.cn rfl trivial rfl
      | exact ResIs.co rfl trivial rfl
      | apply ResIs.cagg rfl trivial
      | exact CoeL.nil
      | apply CoeL.v
      | apply CoeL.sl
      | apply CoeL.clp
      | apply CoeL.emp rfl
      | apply CoeL.own rfl
      | apply ret_one
      | apply ret_two
      | apply ret_three
      | exact rawq_r rfl
      | apply rawq_rc rfl
      | apply ownq_rv rfl rfl)
  all_goals (try exact hcutok)
  refine awc_mid (α := Dk × Int) (fun d => ⟨149, [(2, o1 (.ptr 2 0)), (3, o1 (.ptr 3 0)), (4, o1 (.ptr 4 0)), (5, o1 (.ptr 5 0))], [(2, .box [.sl tB rs, vI many, vI synced]), (3, .box [.sl tB d.1.ss, .sl tW d.1.ps, vI d.1.left, vB d.1.st]), (4, .box [.emp, vI 0, vI 0]), (5, .box [.emp, .emp, vI 0, vB false])]⟩) (fun d => WrOk g tot [] d.1 d.2) ?_ ?_
  · refine awc_loop (α := Nat × Dk × Int) (fun i => ⟨149, [(2, o1 (.ptr 2 0)), (3, o1 (.ptr 3 0)), (4, o1 (.ptr 4 0)), (5, o1 (.ptr 5 0)), (9, o1 (.v (.int .u64 g))), (10, o1 (vI i.2.2)), (11, o1 (vI i.1))], [(2, .box [.sl tB rs, vI many, vI synced]), (3, .box [.sl tB i.2.1.ss, .sl tW i.2.1.ps, vI i.2.1.left, vB i.2.1.st]), (4, .box [.emp, vI 0, vI 0]), (5, .box [.emp, .emp, vI 0, vB false])]⟩) (fun i => i.1 ≤ rs.length ∧ WrOk g tot (pcsL (rs.drop i.1)) i.2.1 i.2.2) (fun i => rs.length - i.1) (synced.toNat, ⟨ss, ps, left, false⟩, usedN (rs.take synced.toNat)) (Wk.ren [] rfl ⟨rfl, rfl, rfl, rfl, rfl, rfl, eqVI (by dsimp only; omega), trivial⟩ ⟨rfl, rfl, rfl, rfl, trivial⟩ rfl) ⟨by dsimp only; omega, .inl ⟨_, rfl, hbd0, by show ps.length ≤ _; omega, hu0, htot⟩⟩ ?_
    rintro ⟨i, d, a⟩ ⟨h1, h2⟩
    dsimp only at h1 h2 ⊢
    by_cases hil : i < rs.length
    · have hst := drop_step tB.dflt hil
      have h7 := hbd.1.2 _ (getD_mem tB.dflt hil)
      have h8 : List.length (rs.getD i tB.dflt) * 1 ≤ 140737488355328 := h7.1
      have h73 : ACalls 73 [o1 (vI (List.length (rs.getD (Int.toNat (i : Int)) tB.dflt)))] (o1 (vI (secN (List.length (rs.getD i tB.dflt))))) := by
        rw [Int.toNat_natCast]; exact c73 _ (by omega)
      repeat' (first
          | exact True.intro
          | exact rfl
          | refine And.intro rfl ?_
          | refine awc_seq ?_
          | refine awc_region ?_
          | refine awc_draw ?_
          | refine awt_a rfl rfl rfl ?_ ?_
          | refine awt_call0 rfl (h73) rfl rfl rfl rfl rfl ?_
          | refine awt_call1 rfl (h73) rfl rfl rfl rfl rfl ?_
          | refine awt_call2 rfl (h73) rfl rfl rfl rfl rfl ?_
          | refine awt_b rfl rfl rfl rfl ?_ ?_
          | refine awt_c rfl rfl rfl ?_ ?_
          | refine awt_gt rfl rfl ?_
          | refine awt_gf rfl rfl rfl ?_
          | refine awt_gu rfl rfl rfl ?_
          | (refine awt_h rfl rfl rfl ?_ ?_ <;> intro hb)
          | refine awt_nil ?_
          | refine dq (by kernel_rfl) ?_
          | refine thn_n ?_
          | refine thn_r ?_
          | refine thn_e ?_
          | refine awc_condT rfl ?_
          | refine awc_condF rfl ?_
          | (refine awc_cond rfl ?_ ?_ <;> intro hb)
          | refine awc_block ?_
          | refine blk_n ?_
          | refine blk_r ?_
          | refine blk_e ?_
          | refine blk_o rfl ?_
          | refine awc_ret ?_
          | refine awc_skip ?_
          | refine awc_label ?_
          | refine awc_exit ?_
          | refine retq_r ?_
          | refine retq_n ?_
          | exact ResIs.tv rfl
          | exact ResIs.ts rfl
          | exact ResIs.tc rfl
          | exact ResIs.tn rfl rfl
          | exact ResIs.to rfl rfl
          | apply ResIs.tagg rfl
          | exact ResIs.cv rfl trivial
          | exact ResIs.cs rfl trivial
          | exact ResIs.cn rfl trivial rfl
          | exact ResIs.co rfl trivial rfl
          | apply ResIs.cagg rfl trivial
          | exact CoeL.nil
          | apply CoeL.v
          | apply CoeL.sl
          | apply CoeL.clp
          | apply CoeL.emp rfl
          | apply CoeL.own rfl
          | apply ret_one
          | apply ret_two
          | apply ret_three
          | exact rawq_r rfl
          | apply rawq_rc rfl
          | apply ownq_rv rfl rfl)
      all_goals (try (exfalso; have := of_decide_eq_false hb; omega))
      all_goals (try exact ⟨by omega, by omega⟩)
      obtain ⟨b, hb'⟩ : ∃ b, b = rs.getD i tB.dflt := ⟨_, rfl⟩
      obtain ⟨n, hn⟩ : ∃ n, n = secN b.length := ⟨_, rfl⟩
      have hbl : b.length ≤ 140737488355328 := by rw [hb']; show List.length (rs.getD i tB.dflt) ≤ _; omega
      have hn1 : n ≤ 140737488355328 := by rw [hn]; unfold secN; omega
      have hn2 : ∀ k, k < n → 112 * k ≤ b.length := fun k hk => by rw [hn] at hk; unfold secN at hk; omega
      refine awc_loop (α := Nat × Dk × Int) (fun j => ⟨149, [(2, o1 (.ptr 2 0)), (3, o1 (.ptr 3 0)), (4, o1 (.ptr 4 0)), (5, o1 (.ptr 5 0)), (9, o1 (.v (.int .u64 g))), (10, o1 (vI j.2.2)), (11, o1 (vI i)), (12, aB b), (13, o1 (vI n)), (14, o1 (vI j.1))], [(2, .box [.sl tB rs, vI many, vI synced]), (3, .box [.sl tB j.2.1.ss, .sl tW j.2.1.ps, vI j.2.1.left, vB j.2.1.st]), (4, .box [.emp, vI 0, vI 0]), (5, .box [.emp, .emp, vI 0, vB false])]⟩) (fun j => j.1 ≤ n ∧ WrOk g tot (pcs (decide (j.1 = 0)) (b.drop (112 * j.1)) (n - j.1) ++ pcsL (rs.drop (i + 1))) j.2.1 j.2.2) (fun j => n - j.1) (0, d, a) (Wk.ren [] rfl ⟨rfl, rfl, rfl, rfl, rfl, rfl, rfl, ?_, eqVI ?_, rfl, trivial⟩ ⟨rfl, rfl, rfl, rfl, trivial⟩ rfl) ⟨Nat.zero_le _, ?_⟩ ?_
      · show aB (rs.getD (Int.toNat (i : Int)) tB.dflt) = aB b
        rw [Int.toNat_natCast, hb']
      · rw [hn, hb']
      · rw [hst] at h2
        dsimp only
        rw [hn, hb']
        exact h2
      rintro ⟨k, d', a'⟩ ⟨hk, hw⟩
      dsimp only at hk hw ⊢
      by_cases hkn : k < n
      · have h112 := hn2 k hkn
        have e1 : IntKind.i64.wrap ((k : Int) * 112) = ((112 * k : Nat) : Int) := by rw [i64w (by omega) (by omega)]; omega
        have e2 : IntKind.i64.wrap (IntKind.i64.wrap ((k : Int) + 1) * 112) = ((112 * (k + 1) : Nat) : Int) := by rw [i64w (n := (k : Int) + 1) (by omega) (by omega), i64w (by omega) (by omega)]; omega
        have hX : Int.toNat (if IntKind.i64.wrap (IntKind.i64.wrap ((k : Int) + 1) * 112) < (b.length : Int) then IntKind.i64.wrap (IntKind.i64.wrap ((k : Int) + 1) * 112) else (b.length : Int)) = min b.length (112 * (k + 1)) := by
          rw [e2]; split <;> omega
        have hchunk : ((b.take (Int.toNat (if IntKind.i64.wrap (IntKind.i64.wrap ((k : Int) + 1) * 112) < (b.length : Int) then IntKind.i64.wrap (IntKind.i64.wrap ((k : Int) + 1) * 112) else (b.length : Int)))).drop (Int.toNat (IntKind.i64.wrap ((k : Int) * 112)))) = (b.drop (112 * k)).take 112 := by
          rw [hX, e1, Int.toNat_natCast, List.drop_take]
          by_cases q : b.length ≤ 112 * (k + 1)
          · rw [Nat.min_eq_left q, List.take_of_length_le (by rw [List.length_drop]; omega), List.take_of_length_le (by rw [List.length_drop]; omega)]
          · rw [Nat.min_eq_right (by omega)]
            congr 1
            omega
        have hcok : (0 : Int) ≤ IntKind.i64.wrap ((k : Int) * 112) ∧ IntKind.i64.wrap ((k : Int) * 112) ≤ (if IntKind.i64.wrap (IntKind.i64.wrap ((k : Int) + 1) * 112) < (b.length : Int) then IntKind.i64.wrap (IntKind.i64.wrap ((k : Int) + 1) * 112) else (b.length : Int)) ∧ (if IntKind.i64.wrap (IntKind.i64.wrap ((k : Int) + 1) * 112) < (b.length : Int) then IntKind.i64.wrap (IntKind.i64.wrap ((k : Int) + 1) * 112) else (b.length : Int)) ≤ b.length := by
          rw [e1, e2]; split <;> omega
        have hpl : ((b.drop (112 * k)).take 112).length ≤ 112 := by rw [List.length_take]; exact Nat.min_le_left _ _
        have hu64 := u64_rng a'
        have hnw : IntKind.i64.wrap ((n : Int) - 1) = (n : Int) - 1 := i64w (by omega) (by omega)
        have h76 : ACalls 76 [o1 (.v (.int .u64 g)), o1 (vI a'), o1 (vB ((k : Int) == 0)), o1 (vB ((k : Int) == IntKind.i64.wrap ((n : Int) - 1))), aB ((b.take (Int.toNat (if IntKind.i64.wrap (IntKind.i64.wrap ((k : Int) + 1) * 112) < (b.length : Int) then IntKind.i64.wrap (IntKind.i64.wrap ((k : Int) + 1) * 112) else (b.length : Int)))).drop (Int.toNat (IntKind.i64.wrap ((k : Int) * 112))))] (aB (enc g (IntKind.u64.wrap a').toNat (kdN (decide (k = 0)) (n - k - 1)) ((b.drop (112 * k)).take 112))) := by
          rw [hnw, hchunk, ← kdB_eq k n hkn]
          exact c76 g _ _ _ _ (by omega) (by omega) hpl a' (by omega)
        have h27 := c27 d'.ss d'.ps d'.left d'.st a' (enc g (IntKind.u64.wrap a').toNat (kdN (decide (k = 0)) (n - k - 1)) ((b.drop (112 * k)).take 112))
        rw [pcs_at b n k hkn] at hw
        have hw' := wrok_step hw hpl
        repeat' (first
            | exact True.intro
            | exact rfl
            | refine And.intro rfl ?_
            | refine awc_seq ?_
            | refine awc_region ?_
            | refine awc_draw ?_
            | refine awt_a rfl rfl rfl ?_ ?_
            | refine awt_call0 rfl (h76) rfl rfl rfl rfl rfl ?_
            | refine awt_call1 rfl (h76) rfl rfl rfl rfl rfl ?_
            | refine awt_call2 rfl (h76) rfl rfl rfl rfl rfl ?_
            | refine awt_call0 rfl (h27) rfl rfl rfl rfl rfl ?_
            | refine awt_call1 rfl (h27) rfl rfl rfl rfl rfl ?_
            | refine awt_call2 rfl (h27) rfl rfl rfl rfl rfl ?_
            | refine awt_b rfl rfl rfl rfl ?_ ?_
            | refine awt_c rfl rfl rfl ?_ ?_
            | refine awt_gt rfl rfl ?_
            | refine awt_gf rfl rfl rfl ?_
            | refine awt_gu rfl rfl rfl ?_
            | (refine awt_h rfl rfl rfl ?_ ?_ <;> intro hb)
            | refine awt_nil ?_
            | refine dq (by kernel_rfl) ?_
            | refine thn_n ?_
            | refine thn_r ?_
            | refine thn_e ?_
            | refine awc_condT rfl ?_
            | refine awc_condF rfl ?_
            | (refine awc_cond rfl ?_ ?_ <;> intro hb)
            | refine awc_block ?_
            | refine blk_n ?_
            | refine blk_r ?_
            | refine blk_e ?_
            | refine blk_o rfl ?_
            | refine awc_ret ?_
            | refine awc_skip ?_
            | refine awc_label ?_
            | refine awc_exit ?_
            | refine retq_r ?_
            | refine retq_n ?_
            | exact ResIs.tv rfl
            | exact ResIs.ts rfl
            | exact ResIs.tc rfl
            | exact ResIs.tn rfl rfl
            | exact ResIs.to rfl rfl
            | apply ResIs.tagg rfl
            | exact ResIs.cv rfl trivial
            | exact ResIs.cs rfl trivial
            | exact ResIs.cn rfl trivial rfl
            | exact ResIs.co rfl trivial rfl
            | apply ResIs.cagg rfl trivial
            | exact CoeL.nil
            | apply CoeL.v
            | apply CoeL.sl
            | apply CoeL.clp
            | apply CoeL.emp rfl
            | apply CoeL.own rfl
            | apply ret_one
            | apply ret_two
            | apply ret_three
            | exact rawq_r rfl
            | apply rawq_rc rfl
            | apply ownq_rv rfl rfl)
        all_goals (try (exfalso; have := of_decide_eq_false hb; omega))
        all_goals (try exact hcok)
        exact ⟨(k + 1, (dWrite d' a' (enc g (IntKind.u64.wrap a').toNat (kdN (decide (k = 0)) (n - k - 1)) ((b.drop (112 * k)).take 112))).1, IntKind.i64.wrap (a' + 1)), Wk.ren [] rfl ⟨rfl, rfl, rfl, rfl, rfl, rfl, rfl, rfl, rfl, eqVI (by rw [i64w (by omega) (by omega)]; rfl), trivial⟩ ⟨rfl, rfl, rfl, rfl, trivial⟩ rfl, ⟨hkn, hw'⟩, by dsimp only; omega⟩
      · have hkn' : k = n := by omega
        subst hkn'
        rw [Nat.sub_self] at hw
        repeat' (first
            | exact True.intro
            | exact rfl
            | refine And.intro rfl ?_
            | refine awc_seq ?_
            | refine awc_region ?_
            | refine awc_draw ?_
            | refine awt_a rfl rfl rfl ?_ ?_
            | refine awt_b rfl rfl rfl rfl ?_ ?_
            | refine awt_c rfl rfl rfl ?_ ?_
            | refine awt_gt rfl rfl ?_
            | refine awt_gf rfl rfl rfl ?_
            | refine awt_gu rfl rfl rfl ?_
            | (refine awt_h rfl rfl rfl ?_ ?_ <;> intro hb)
            | refine awt_nil ?_
            | refine dq (by kernel_rfl) ?_
            | refine thn_n ?_
            | refine thn_r ?_
            | refine thn_e ?_
            | refine awc_condT rfl ?_
            | refine awc_condF rfl ?_
            | (refine awc_cond rfl ?_ ?_ <;> intro hb)
            | refine awc_block ?_
            | refine blk_n ?_
            | refine blk_r ?_
            | refine blk_e ?_
            | refine blk_o rfl ?_
            | refine awc_ret ?_
            | refine awc_skip ?_
            | refine awc_label ?_
            | refine awc_exit ?_
            | refine retq_r ?_
            | refine retq_n ?_
            | exact ResIs.tv rfl
            | exact ResIs.ts rfl
            | exact ResIs.tc rfl
            | exact ResIs.tn rfl rfl
            | exact ResIs.to rfl rfl
            | apply ResIs.tagg rfl
            | exact ResIs.cv rfl trivial
            | exact ResIs.cs rfl trivial
            | exact ResIs.cn rfl trivial rfl
            | exact ResIs.co rfl trivial rfl
            | apply ResIs.cagg rfl trivial
            | exact CoeL.nil
            | apply CoeL.v
            | apply CoeL.sl
            | apply CoeL.clp
            | apply CoeL.emp rfl
            | apply CoeL.own rfl
            | apply ret_one
            | apply ret_two
            | apply ret_three
            | exact rawq_r rfl
            | apply rawq_rc rfl
            | apply ownq_rv rfl rfl)
        all_goals (try (exfalso; have := of_decide_eq_true hb; omega))
        exact ⟨(i + 1, d', a'), Wk.ren [] rfl ⟨rfl, rfl, rfl, rfl, rfl, rfl, eqVI (by rw [i64w (by omega) (by omega)]; rfl), trivial⟩ ⟨rfl, rfl, rfl, rfl, trivial⟩ rfl, ⟨hil, hw⟩, by dsimp only; omega⟩
    · skip
      repeat' (first
          | exact True.intro
          | exact rfl
          | refine And.intro rfl ?_
          | refine awc_seq ?_
          | refine awc_region ?_
          | refine awc_draw ?_
          | refine awt_a rfl rfl rfl ?_ ?_
          | refine awt_b rfl rfl rfl rfl ?_ ?_
          | refine awt_c rfl rfl rfl ?_ ?_
          | refine awt_gt rfl rfl ?_
          | refine awt_gf rfl rfl rfl ?_
          | refine awt_gu rfl rfl rfl ?_
          | (refine awt_h rfl rfl rfl ?_ ?_ <;> intro hb)
          | refine awt_nil ?_
          | refine dq (by kernel_rfl) ?_
          | refine thn_n ?_
          | refine thn_r ?_
          | refine thn_e ?_
          | refine awc_condT rfl ?_
          | refine awc_condF rfl ?_
          | (refine awc_cond rfl ?_ ?_ <;> intro hb)
          | refine awc_block ?_
          | refine blk_n ?_
          | refine blk_r ?_
          | refine blk_e ?_
          | refine blk_o rfl ?_
          | refine awc_ret ?_
          | refine awc_skip ?_
          | refine awc_label ?_
          | refine awc_exit ?_
          | refine retq_r ?_
          | refine retq_n ?_
          | exact ResIs.tv rfl
          | exact ResIs.ts rfl
          | exact ResIs.tc rfl
          | exact ResIs.tn rfl rfl
          | exact ResIs.to rfl rfl
          | apply ResIs.tagg rfl
          | exact ResIs.cv rfl trivial
          | exact ResIs.cs rfl trivial
          | exact ResIs.cn rfl trivial rfl
          | exact ResIs.co rfl trivial rfl
          | apply ResIs.cagg rfl trivial
          | exact CoeL.nil
          | apply CoeL.v
          | apply CoeL.sl
          | apply CoeL.clp
          | apply CoeL.emp rfl
          | apply CoeL.own rfl
          | apply ret_one
          | apply ret_two
          | apply ret_three
          | exact rawq_r rfl
          | apply rawq_rc rfl
          | apply ownq_rv rfl rfl)
      all_goals (try (exfalso; have := of_decide_eq_true hb; omega))
      refine ⟨(d, a), Wk.ren [] rfl ⟨rfl, rfl, rfl, rfl, trivial⟩ ⟨rfl, rfl, rfl, rfl, trivial⟩ rfl, ?_⟩
      rw [List.drop_of_length_le (by omega)] at h2
      exact h2
  rintro ⟨d, a⟩ hd2
  dsimp only at hd2 ⊢
  have h31 := c31 d.ss d.ps d.left d.st
  repeat' (first
      | exact True.intro
      | exact rfl
      | refine And.intro rfl ?_
      | refine awc_seq ?_
      | refine awc_region ?_
      | refine awc_draw ?_
      | refine awt_a rfl rfl rfl ?_ ?_
      | refine awt_call0 rfl (h31) rfl rfl rfl rfl rfl ?_
      | refine awt_call1 rfl (h31) rfl rfl rfl rfl rfl ?_
      | refine awt_call2 rfl (h31) rfl rfl rfl rfl rfl ?_
      | refine awt_b rfl rfl rfl rfl ?_ ?_
      | refine awt_c rfl rfl rfl ?_ ?_
      | refine awt_gt rfl rfl ?_
      | refine awt_gf rfl rfl rfl ?_
      | refine awt_gu rfl rfl rfl ?_
      | (refine awt_h rfl rfl rfl ?_ ?_ <;> intro hb)
      | refine awt_nil ?_
      | refine dq (by kernel_rfl) ?_
      | refine thn_n ?_
      | refine thn_r ?_
      | refine thn_e ?_
      | refine awc_condT rfl ?_
      | refine awc_condF rfl ?_
      | (refine awc_cond rfl ?_ ?_ <;> intro hb)
      | refine awc_block ?_
      | refine blk_n ?_
      | refine blk_r ?_
      | refine blk_e ?_
      | refine blk_o rfl ?_
      | refine awc_ret ?_
      | refine awc_skip ?_
      | refine awc_label ?_
      | refine awc_exit ?_
      | refine retq_r ?_
      | refine retq_n ?_
      | exact ResIs.tv rfl
      | exact ResIs.ts rfl
      | exact ResIs.tc rfl
      | exact ResIs.tn rfl rfl
      | exact ResIs.to rfl rfl
      | apply ResIs.tagg rfl
      | exact ResIs.cv rfl trivial
      | exact ResIs.cs rfl trivial
      | exact ResIs.cn rfl trivial rfl
      | exact ResIs.co rfl trivial rfl
      | apply ResIs.cagg rfl trivial
      | exact CoeL.nil
      | apply CoeL.v
      | apply CoeL.sl
      | apply CoeL.clp
      | apply CoeL.emp rfl
      | apply CoeL.own rfl
      | apply ret_one
      | apply ret_two
      | apply ret_three
      | exact rawq_r rfl
      | apply rawq_rc rfl
      | apply ownq_rv rfl rfl)
  · refine eqRS ?_
    have hne : (dSync d).2 ≠ 0 := by rw [bne_iff_ne] at hb; exact hb
    rcases hd2 with ⟨k, _, _, _, _, h⟩ | ⟨rfl, h⟩
    · rw [hr0, h]
      show (if (dSync d).2 ≠ 0 then _ else _) = _
      rw [if_pos hne]; rfl
    · rw [hr0, h]; rfl
  · refine eqRS ?_
    have hne : ¬ (dSync d).2 ≠ 0 := by rw [bne_eq_false_iff_eq] at hb; exact fun q => q hb
    rcases hd2 with ⟨k, _, _, _, _, h⟩ | ⟨rfl, h⟩
    · rw [hr0, h]
      show (if (dSync d).2 ≠ 0 then _ else _) = _
      rw [if_neg hne]
    · exact absurd (by decide : (dSync .z).2 ≠ 0) hne
end B
end Go.Proofs.Ytbmnhagbplkagaa
