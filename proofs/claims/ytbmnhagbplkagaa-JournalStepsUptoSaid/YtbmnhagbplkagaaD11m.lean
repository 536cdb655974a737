import Derived.Test.YtbmnhagbplkagaaD10a
/- Contracts of the journal: a sync that writes. -/
namespace Go.Proofs.Ytbmnhagbplkagaa
namespace B
open Go.RowKit
set_option maxHeartbeats 4000000
set_option maxRecDepth 100000
attribute [local irreducible] awc awT thn blk DQ retQ rawQ ownQ retOk ResIs

theorem c69 (a b : List (List UInt8)) : ACalls 69 [aBB a, aBB b, aF 70] (o1 (vB (decide (a = b)))) := by
  refine acalls (n := 32) (rs := [.tmp 6]) (Ts := [4]) Try.func69 rfl rfl rfl rfl rfl rfl ?_
  refine awc_bd 0 _ rfl ?_
  intro hbd
  have hb1 : List.length a * 24 ≤ 140737488355328 := hbd.1
  repeat' (first
      | exact True.intro
      | exact rfl
      | refine And.intro rfl ?_
      | refine awc_seq ?_
      | refine awc_region ?_
      | refine awc_draw ?_
      | refine awt_a rfl rfl rfl ?_ ?_
      | refine awt_b rfl rfl rfl rfl ?_ ?_
      | refine awt_c rfl rfl rfl ?_ ?_
      | refine awt_gt rfl rfl ?_
      | refine awt_gf rfl rfl rfl ?_
      | refine awt_gu rfl rfl rfl ?_
      | (refine awt_h rfl rfl rfl ?_ ?_ <;> intro hb)
      | refine awt_nil ?_
      | refine dq (by kernel_rfl) ?_
      | refine thn_n ?_
      | refine thn_r ?_
      | refine thn_e ?_
      | refine awc_condT rfl ?_
      | refine awc_condF rfl ?_
      | (refine awc_cond rfl ?_ ?_ <;> intro hb)
      | refine awc_block ?_
      | refine blk_n ?_
      | refine blk_r ?_
      | refine blk_e ?_
      | refine blk_o rfl ?_
      | refine awc_ret ?_
      | refine awc_skip ?_
      | refine awc_label ?_
      | refine awc_exit ?_
      | refine retq_r ?_
      | refine retq_n ?_
      | exact ResIs.tv rfl
      | exact ResIs.ts rfl
      | exact ResIs.tc rfl
      | exact ResIs.tn rfl rfl
      | exact ResIs.to rfl rfl
      | apply ResIs.tagg rfl
      | exact ResIs.cv rfl trivial
      | exact ResIs.cs rfl trivial
      | exact ResIs.cn rfl trivial rfl
      | exact ResIs.co rfl trivial rfl
      | apply ResIs.cagg rfl trivial
      | exact CoeL.nil
      | apply CoeL.v
      | apply CoeL.sl
      | apply CoeL.clp
      | apply CoeL.emp rfl
      | apply CoeL.own rfl
      | apply ret_one
      | apply ret_two
      | apply ret_three
      | exact rawq_r rfl
      | apply rawq_rc rfl
      | apply ownq_rv rfl rfl)
  · refine eqVB ?_
    have : a ≠ b := fun h => by subst h; simp at hb
    simp [this]
  have hl : a.length = b.length := by
    simp only [bne_eq_false_iff_eq] at hb
    omega
  refine awc_loop (α := Nat) (fun i => ⟨32, [(0, aBB a), (1, aBB b), (2, aF 70), (15, aBB a), (16, o1 (vI a.length)), (17, o1 (vI i))], []⟩) (fun i => i ≤ a.length ∧ (a = b ↔ a.drop i = b.drop i)) (fun i => a.length - i) 0 (Wk.ren [] rfl ⟨rfl, rfl, rfl, rfl, rfl, rfl, trivial⟩ trivial rfl) ⟨Nat.zero_le _, by simp⟩ ?_
  rintro i ⟨hi, hpre⟩
  by_cases hil : i < a.length
  · have hst := eq_step hl hil
    have hix : (0 : Int) ≤ i ∧ (i : Int) < a.length := ⟨by omega, by omega⟩
    have hix2 : (0 : Int) ≤ i ∧ (i : Int) < b.length := ⟨by omega, by omega⟩
    repeat' (first
        | exact True.intro
        | exact rfl
        | refine And.intro rfl ?_
        | refine awc_seq ?_
        | refine awc_region ?_
        | refine awc_draw ?_
        | refine awt_a rfl rfl rfl ?_ ?_
        | refine awt_call0 rfl (c70 _ _) rfl rfl rfl rfl rfl ?_
        | refine awt_call1 rfl (c70 _ _) rfl rfl rfl rfl rfl ?_
        | refine awt_call2 rfl (c70 _ _) rfl rfl rfl rfl rfl ?_
        | refine awt_b rfl rfl rfl rfl ?_ ?_
        | refine awt_c rfl rfl rfl ?_ ?_
        | refine awt_gt rfl rfl ?_
        | refine awt_gf rfl rfl rfl ?_
        | refine awt_gu rfl rfl rfl ?_
        | (refine awt_h rfl rfl rfl ?_ ?_ <;> intro hb)
        | refine awt_nil ?_
        | refine dq (by kernel_rfl) ?_
        | refine thn_n ?_
        | refine thn_r ?_
        | refine thn_e ?_
        | refine awc_condT rfl ?_
        | refine awc_condF rfl ?_
        | (refine awc_cond rfl ?_ ?_ <;> intro hb)
        | refine awc_block ?_
        | refine blk_n ?_
        | refine blk_r ?_
        | refine blk_e ?_
        | refine blk_o rfl ?_
        | refine awc_ret ?_
        | refine awc_skip ?_
        | refine awc_label ?_
        | refine awc_exit ?_
        | refine retq_r ?_
        | refine retq_n ?_
        | exact ResIs.tv rfl
        | exact ResIs.ts rfl
        | exact ResIs.tc rfl
        | exact ResIs.tn rfl rfl
        | exact ResIs.to rfl rfl
        | apply ResIs.tagg rfl
        | exact ResIs.cv rfl trivial
        | exact ResIs.cs rfl trivial
        | exact ResIs.cn rfl trivial rfl
        | exact ResIs.co rfl trivial rfl
        | apply ResIs.cagg rfl trivial
        | exact CoeL.nil
        | apply CoeL.v
        | apply CoeL.sl
        | apply CoeL.clp
        | apply CoeL.emp rfl
        | apply CoeL.own rfl
        | apply ret_one
        | apply ret_two
        | apply ret_three
        | exact rawq_r rfl
        | apply rawq_rc rfl
        | apply ownq_rv rfl rfl)
    all_goals (try (exfalso; simp only [decide_eq_false_iff_not] at hb; omega))
    · exact hix
    · exact hix2
    · refine eqVB ?_
      rw [Int.toNat_natCast] at hb
      have hne : ¬ a.getD i tB.dflt = b.getD i tB.dflt := by simpa using hb
      exact (decide_eq_false (fun h => hne (hst.1 (hpre.1 h)).1)).symm
    · rw [Int.toNat_natCast] at hb
      have heq : a.getD i tB.dflt = b.getD i tB.dflt := by simpa using hb
      refine ⟨i + 1, Wk.ren [] rfl ⟨rfl, rfl, rfl, rfl, rfl, eqVI (by rw [i64w (by omega) (by omega)]; rfl), trivial⟩ trivial rfl, ⟨by omega, ?_⟩, by omega⟩
      rw [hpre, hst]
      exact ⟨fun h => h.2, fun h => ⟨heq, h⟩⟩
  · skip
    repeat' (first
        | exact True.intro
        | exact rfl
        | refine And.intro rfl ?_
        | refine awc_seq ?_
        | refine awc_region ?_
        | refine awc_draw ?_
        | refine awt_a rfl rfl rfl ?_ ?_
        | refine awt_b rfl rfl rfl rfl ?_ ?_
        | refine awt_c rfl rfl rfl ?_ ?_
        | refine awt_gt rfl rfl ?_
        | refine awt_gf rfl rfl rfl ?_
        | refine awt_gu rfl rfl rfl ?_
        | (refine awt_h rfl rfl rfl ?_ ?_ <;> intro hb)
        | refine awt_nil ?_
        | refine dq (by kernel_rfl) ?_
        | refine thn_n ?_
        | refine thn_r ?_
        | refine thn_e ?_
        | refine awc_condT rfl ?_
        | refine awc_condF rfl ?_
        | (refine awc_cond rfl ?_ ?_ <;> intro hb)
        | refine awc_block ?_
        | refine blk_n ?_
        | refine blk_r ?_
        | refine blk_e ?_
        | refine blk_o rfl ?_
        | refine awc_ret ?_
        | refine awc_skip ?_
        | refine awc_label ?_
        | refine awc_exit ?_
        | refine retq_r ?_
        | refine retq_n ?_
        | exact ResIs.tv rfl
        | exact ResIs.ts rfl
        | exact ResIs.tc rfl
        | exact ResIs.tn rfl rfl
        | exact ResIs.to rfl rfl
        | apply ResIs.tagg rfl
        | exact ResIs.cv rfl trivial
        | exact ResIs.cs rfl trivial
        | exact ResIs.cn rfl trivial rfl
        | exact ResIs.co rfl trivial rfl
        | apply ResIs.cagg rfl trivial
        | exact CoeL.nil
        | apply CoeL.v
        | apply CoeL.sl
        | apply CoeL.clp
        | apply CoeL.emp rfl
        | apply CoeL.own rfl
        | apply ret_one
        | apply ret_two
        | apply ret_three
        | exact rawq_r rfl
        | apply rawq_rc rfl
        | apply ownq_rv rfl rfl)
    all_goals (try (exfalso; simp only [decide_eq_true_eq] at *; omega))
    refine eqVB ?_
    rw [List.drop_eq_nil_of_le (by omega), List.drop_eq_nil_of_le (by omega)] at hpre
    exact (decide_eq_true (hpre.2 rfl)).symm

abbrev aRS (x : Jr × Dk × Int) : AV := .tup [.agg [.sl tB x.1.rs, vI x.1.many, vI x.1.synced], .agg [.sl tB x.2.1.ss, .sl tW x.2.1.ps, vI x.2.1.left, vB x.2.1.st], .one (vI x.2.2)]
theorem eqRS {rs : List (List UInt8)} {m s : Int} {ss : List (List UInt8)} {ps : List (Int × List UInt8)} {l : Int} {b : Bool} {e : Int} {x : Jr × Dk × Int} (h : x = (⟨rs, m, s⟩, ⟨ss, ps, l, b⟩, e)) :
    AV.tup [.agg [.sl tB rs, vI m, vI s], .agg [.sl tB ss, .sl tW ps, vI l, vB b], .one (vI e)] = aRS x := by
  rw [h]
theorem wr_step {g : Nat} {tot : Option Dk} {rest : List (UInt8 × List UInt8)} {d : Dk} {k : Nat} {kd : UInt8} {b : List UInt8} (h : d.bad = false) (h1 : d.ps.length ≤ k) (h2 : k ≤ d.ss.length) (h3 : tot = wrD g ((kd, b) :: rest) d k) (hp : b.length ≤ 112) :
    (dWrite d k (enc g k kd b) = (⟨d.ss, d.ps ++ [((k : Int), enc g k kd b)], d.left, d.st⟩, 0) ∧ (⟨d.ss, d.ps ++ [((k : Int), enc g k kd b)], d.left, d.st⟩ : Dk).bad = false ∧ (d.ps ++ [((k : Int), enc g k kd b)]).length ≤ k + 1 ∧ k + 1 ≤ d.ss.length ∧ tot = wrD g rest ⟨d.ss, d.ps ++ [((k : Int), enc g k kd b)], d.left, d.st⟩ (k + 1)) ∨ (dWrite d k (enc g k kd b) = (.z, 40) ∧ tot = none) := by
  rcases WrOk.step (p := (kd, b)) h h1 h2 h3 hp with ⟨hk, hw, hok⟩ | hn
  · left
    rcases hok with ⟨k', e1, e2, e3, e4, e5⟩ | ⟨e1, _⟩
    · have : k' = k + 1 := by omega
      subst this
      exact ⟨hw, e2, e3, e4, e5⟩
    · have hl := bad_len h
      have := congrArg (fun z => z.ss.length) e1
      simp [Dk.z] at this
      rw [this] at hl
      simp at hl
  · exact .inr hn
def k0 (f : Bool) : UInt8 := bif f then 1 else 0
theorem k0_or (f : Bool) : IntKind.u8.wrap ((BitVec.ofInt IntKind.u8.bits ((k0 f).toNat : Int) ||| BitVec.ofInt IntKind.u8.bits 2).toNat : Nat) = ((kdN f 0).toNat : Int) := by
  cases f <;> decide
theorem k0_mid (f : Bool) (m : Nat) : k0 f = kdN f (m + 1) := by
  cases f <;> rfl
theorem c39m (rs : List (List UInt8)) (many synced : Int) (ss : List (List UInt8)) (ps : List (Int × List UInt8)) (left : Int) (hj : jBad rs many synced = false) (hd : dBad ss ps left = false) (hm : many = ss.length) (hp : ¬ ps.length > 0) : ACalls 39 [aJ rs many synced, aD ss ps left false] (aRS (jSync ⟨rs, many, synced⟩ ⟨ss, ps, left, false⟩)) := by
  refine acalls (n := 167) (rs := [.cell 4 45, .cell 5 25, .tmp 6]) (Ts := [45, 25, 28]) Try.func39 rfl rfl rfl rfl rfl rfl ?_
  have hc46 := c46 rs many synced
  have hc22 := c22 ss ps left false
  have hj' : ¬ (jBad rs many synced = true) := by rw [hj]; exact Bool.false_ne_true
  have h1 : jChk rs many synced = 0 := by unfold jChk; rw [hj]; rfl
  rw [h1] at hc46
  have hd' : ¬ (dBad ss ps left = true) := by rw [hd]; exact Bool.false_ne_true
  have h2 : dChk ss ps left = 0 := by unfold dChk; rw [hd]; rfl
  rw [h2] at hc22
  have hsz := dBad_iff.1 hd
  have hc38 := c38 ss ps left false
  have h3 : jOpen ⟨ss, ps, left, false⟩ = (⟨recs ss, ss.length, (recs ss).length⟩, 0) := by unfold jOpen; rw [if_neg hd', if_neg (fun h => Bool.false_ne_true h), if_neg hp]
  rw [h3] at hc38
  have hmm : (many != (ss.length : Int)) = false := by rw [bne_eq_false_iff_eq]; exact hm
  have hss := hsz.2.2.2.2.2.2
  refine awc_bd 0 _ rfl ?_
  intro hbd
  have hjg := jGood hj
  have hbd0 : (⟨ss, ps, left, false⟩ : Dk).bad = false := by unfold Dk.bad; rw [hd]; rfl
  repeat' (first
      | exact True.intro
      | exact rfl
      | refine And.intro rfl ?_
      | refine awc_seq ?_
      | refine awc_region ?_
      | refine awc_draw ?_
      | refine awt_a rfl rfl rfl ?_ ?_
      | refine awt_call0 rfl (hc46) rfl rfl rfl rfl rfl ?_
      | refine awt_call1 rfl (hc46) rfl rfl rfl rfl rfl ?_
      | refine awt_call2 rfl (hc46) rfl rfl rfl rfl rfl ?_
      | refine awt_call0 rfl (hc22) rfl rfl rfl rfl rfl ?_
      | refine awt_call1 rfl (hc22) rfl rfl rfl rfl rfl ?_
      | refine awt_call2 rfl (hc22) rfl rfl rfl rfl rfl ?_
      | refine awt_call0 rfl (hc38) rfl rfl rfl rfl rfl ?_
      | refine awt_call1 rfl (hc38) rfl rfl rfl rfl rfl ?_
      | refine awt_call2 rfl (hc38) rfl rfl rfl rfl rfl ?_
      | refine awt_b rfl rfl rfl rfl ?_ ?_
      | refine awt_c rfl rfl rfl ?_ ?_
      | refine awt_gt rfl rfl ?_
      | refine awt_gf rfl rfl rfl ?_
      | refine awt_gu rfl rfl rfl ?_
      | (refine awt_h rfl rfl rfl ?_ ?_ <;> intro hb)
      | refine awt_nil ?_
      | refine dq (by kernel_rfl) ?_
      | refine thn_n ?_
      | refine thn_r ?_
      | refine thn_e ?_
      | refine awc_condT rfl ?_
      | refine awc_condF rfl ?_
      | (refine awc_cond rfl ?_ ?_ <;> intro hb)
      | refine awc_block ?_
      | refine blk_n ?_
      | refine blk_r ?_
      | refine blk_e ?_
      | refine blk_o rfl ?_
      | refine awc_ret ?_
      | refine awc_skip ?_
      | refine awc_label ?_
      | refine awc_exit ?_
      | refine retq_r ?_
      | refine retq_n ?_
      | exact ResIs.tv rfl
      | exact ResIs.ts rfl
      | exact ResIs.tc rfl
      | exact ResIs.tn rfl rfl
      | exact ResIs.to rfl rfl
      | apply ResIs.tagg rfl
      | exact ResIs.cv rfl trivial
      | exact ResIs.cs rfl trivial
      | exact ResIs.cn rfl trivial rfl
      | exact ResIs.co rfl trivial rfl
      | apply ResIs.cagg rfl trivial
      | exact CoeL.nil
      | apply CoeL.v
      | apply CoeL.sl
      | apply CoeL.clp
      | apply CoeL.emp rfl
      | apply CoeL.own rfl
      | apply ret_one
      | apply ret_two
      | apply ret_three
      | exact rawq_r rfl
      | apply rawq_rc rfl
      | apply ownq_rv rfl rfl)
  · exfalso; rw [hmm] at hb; cases hb
  clear hb
  refine awc_mid (α := Unit) (fun _ => ⟨167, [(2, o1 (.ptr 2 0)), (3, o1 (.ptr 3 0)), (4, o1 (.ptr 4 0)), (5, o1 (.ptr 5 0)), (9, o1 (.ptr 9 0)), (10, o1 (.v (.int .u64 (genS ss))))], [(2, .box [.sl tB rs, vI many, vI synced]), (3, .box [.sl tB ss, .sl tW ps, vI left, vB false]), (4, .box [.emp, vI 0, vI 0]), (5, .box [.emp, .emp, vI 0, vB false]), (9, .box [.sl tB (recs ss), vI ss.length, vI (recs ss).length])]⟩) (fun _ => True) ?_ ?_
  · refine awc_loop (α := Nat) (fun i => ⟨167, [(2, o1 (.ptr 2 0)), (3, o1 (.ptr 3 0)), (4, o1 (.ptr 4 0)), (5, o1 (.ptr 5 0)), (9, o1 (.ptr 9 0)), (10, o1 (.v (.int .u64 (genG 1 (ss.take i))))), (57, aBB ss), (58, o1 (vI ss.length)), (59, o1 (vI i))], [(2, .box [.sl tB rs, vI many, vI synced]), (3, .box [.sl tB ss, .sl tW ps, vI left, vB false]), (4, .box [.emp, vI 0, vI 0]), (5, .box [.emp, .emp, vI 0, vB false]), (9, .box [.sl tB (recs ss), vI ss.length, vI (recs ss).length])]⟩) (fun i => i ≤ ss.length) (fun i => ss.length - i) 0 (Wk.ren [] rfl ⟨rfl, rfl, rfl, rfl, rfl, rfl, rfl, rfl, rfl, trivial⟩ ⟨rfl, rfl, rfl, rfl, rfl, trivial⟩ rfl) (Nat.zero_le _) ?_
    rintro i hi
    by_cases hil : i < ss.length
    · have hs : (ss.getD i tB.dflt).length = 128 := hss _ (getD_mem _ hil)
      have h1 := c68 ((ss.getD (Int.toNat (i : Int)) tB.dflt).take (Int.toNat 4)) (tk4 _)
      have h2 := c68 ((ss.getD (Int.toNat (i : Int)) tB.dflt).drop (Int.toNat 124)) (by rw [Int.toNat_natCast, List.length_drop, hs]; decide)
      have hsn := genG_snoc 1 hil
      have g1 := gn_lt (sec ss i)
      have g2 : gnE (sec ss i) < 4294967296 := ge_lt hs
      repeat' (first
          | exact True.intro
          | exact rfl
          | refine And.intro rfl ?_
          | refine awc_seq ?_
          | refine awc_region ?_
          | refine awc_draw ?_
          | refine awt_a rfl rfl rfl ?_ ?_
          | refine awt_call0 rfl (h1) rfl rfl rfl rfl rfl ?_
          | refine awt_call1 rfl (h1) rfl rfl rfl rfl rfl ?_
          | refine awt_call2 rfl (h1) rfl rfl rfl rfl rfl ?_
          | refine awt_call0 rfl (h2) rfl rfl rfl rfl rfl ?_
          | refine awt_call1 rfl (h2) rfl rfl rfl rfl rfl ?_
          | refine awt_call2 rfl (h2) rfl rfl rfl rfl rfl ?_
          | refine awt_b rfl rfl rfl rfl ?_ ?_
          | refine awt_c rfl rfl rfl ?_ ?_
          | refine awt_gt rfl rfl ?_
          | refine awt_gf rfl rfl rfl ?_
          | refine awt_gu rfl rfl rfl ?_
          | (refine awt_h rfl rfl rfl ?_ ?_ <;> intro hb)
          | refine awt_nil ?_
          | refine dq (by kernel_rfl) ?_
          | refine thn_n ?_
          | refine thn_r ?_
          | refine thn_e ?_
          | refine awc_condT rfl ?_
          | refine awc_condF rfl ?_
          | (refine awc_cond rfl ?_ ?_ <;> intro hb)
          | refine awc_block ?_
          | refine blk_n ?_
          | refine blk_r ?_
          | refine blk_e ?_
          | refine blk_o rfl ?_
          | refine awc_ret ?_
          | refine awc_skip ?_
          | refine awc_label ?_
          | refine awc_exit ?_
          | refine retq_r ?_
          | refine retq_n ?_
          | exact ResIs.tv rfl
          | exact ResIs.ts rfl
          | exact ResIs.tc rfl
          | exact ResIs.tn rfl rfl
          | exact ResIs.to rfl rfl
          | apply ResIs.tagg rfl
          | exact ResIs.cv rfl trivial
          | exact ResIs.cs rfl trivial
          | exact ResIs.cn rfl trivial rfl
          | exact ResIs.co rfl trivial rfl
          | apply ResIs.cagg rfl trivial
          | exact CoeL.nil
          | apply CoeL.v
          | apply CoeL.sl
          | apply CoeL.clp
          | apply CoeL.emp rfl
          | apply CoeL.own rfl
          | apply ret_one
          | apply ret_two
          | apply ret_three
          | exact rawq_r rfl
          | apply rawq_rc rfl
          | apply ownq_rv rfl rfl)
      all_goals (try (exfalso; have := of_decide_eq_false hb; omega))
      all_goals (try (first | exact ⟨by omega, by omega⟩ | (rw [Int.toNat_natCast, hs]; simp only [cutOk]; decide; done)))
      refine ⟨i + 1, Wk.ren [] rfl ⟨rfl, rfl, rfl, rfl, rfl, eqVI ?_, rfl, rfl, eqVI (by rw [i64w (by omega) (by omega)]; rfl), trivial⟩ ⟨rfl, rfl, rfl, rfl, rfl, trivial⟩ rfl, by omega, by omega⟩
      rw [Int.toNat_natCast]
      show (if IntKind.u64.wrap ((gnE (sec ss i) : Int) + 1) > (if IntKind.u64.wrap ((gnS (sec ss i) : Int) + 1) > (genG 1 (ss.take i) : Int) then IntKind.u64.wrap ((gnS (sec ss i) : Int) + 1) else (genG 1 (ss.take i) : Int)) then IntKind.u64.wrap ((gnE (sec ss i) : Int) + 1) else (if IntKind.u64.wrap ((gnS (sec ss i) : Int) + 1) > (genG 1 (ss.take i) : Int) then IntKind.u64.wrap ((gnS (sec ss i) : Int) + 1) else (genG 1 (ss.take i) : Int))) = _
      rw [hsn, u64w (by omega) (by omega), u64w (by omega) (by omega)]
      split <;> split <;> omega
    · skip
      repeat' (first
          | exact True.intro
          | exact rfl
          | refine And.intro rfl ?_
          | refine awc_seq ?_
          | refine awc_region ?_
          | refine awc_draw ?_
          | refine awt_a rfl rfl rfl ?_ ?_
          | refine awt_b rfl rfl rfl rfl ?_ ?_
          | refine awt_c rfl rfl rfl ?_ ?_
          | refine awt_gt rfl rfl ?_
          | refine awt_gf rfl rfl rfl ?_
          | refine awt_gu rfl rfl rfl ?_
          | (refine awt_h rfl rfl rfl ?_ ?_ <;> intro hb)
          | refine awt_nil ?_
          | refine dq (by kernel_rfl) ?_
          | refine thn_n ?_
          | refine thn_r ?_
          | refine thn_e ?_
          | refine awc_condT rfl ?_
          | refine awc_condF rfl ?_
          | (refine awc_cond rfl ?_ ?_ <;> intro hb)
          | refine awc_block ?_
          | refine blk_n ?_
          | refine blk_r ?_
          | refine blk_e ?_
          | refine blk_o rfl ?_
          | refine awc_ret ?_
          | refine awc_skip ?_
          | refine awc_label ?_
          | refine awc_exit ?_
          | refine retq_r ?_
          | refine retq_n ?_
          | exact ResIs.tv rfl
          | exact ResIs.ts rfl
          | exact ResIs.tc rfl
          | exact ResIs.tn rfl rfl
          | exact ResIs.to rfl rfl
          | apply ResIs.tagg rfl
          | exact ResIs.cv rfl trivial
          | exact ResIs.cs rfl trivial
          | exact ResIs.cn rfl trivial rfl
          | exact ResIs.co rfl trivial rfl
          | apply ResIs.cagg rfl trivial
          | exact CoeL.nil
          | apply CoeL.v
          | apply CoeL.sl
          | apply CoeL.clp
          | apply CoeL.emp rfl
          | apply CoeL.own rfl
          | apply ret_one
          | apply ret_two
          | apply ret_three
          | exact rawq_r rfl
          | apply rawq_rc rfl
          | apply ownq_rv rfl rfl)
      all_goals (try (exfalso; have := of_decide_eq_true hb; omega))
      refine ⟨(), Wk.ren [] rfl ⟨rfl, rfl, rfl, rfl, rfl, eqVI ?_, trivial⟩ ⟨rfl, rfl, rfl, rfl, rfl, trivial⟩ rfl, trivial⟩
      rw [List.take_of_length_le (by omega)]; rfl
  rintro _ _
  have h69 := c69 (recs ss) (rs.take synced.toNat)
  have hgle := genS_le hss
  have hgp := genS_pos ss
  have hcutok : (0 : Int) ≤ synced ∧ synced ≤ rs.length := ⟨hjg.2.2.1, hjg.2.2.2.1⟩
  by_cases hE : ¬ (recs ss = rs.take synced.toNat)
  · have hr : jSync ⟨rs, many, synced⟩ ⟨ss, ps, left, false⟩ = (jz, .z, 50) := by
      unfold jSync
      rw [if_neg hj', if_neg hd', if_neg (fun h => Bool.false_ne_true h), if_neg (fun h => h.elim (fun q => q hm) hp), if_pos (.inl hE)]
    rw [decide_eq_false hE] at h69
    repeat' (first
        | exact True.intro
        | exact rfl
        | refine And.intro rfl ?_
        | refine awc_seq ?_
        | refine awc_region ?_
        | refine awc_draw ?_
        | refine awt_a rfl rfl rfl ?_ ?_
        | refine awt_call0 rfl (h69) rfl rfl rfl rfl rfl ?_
        | refine awt_call1 rfl (h69) rfl rfl rfl rfl rfl ?_
        | refine awt_call2 rfl (h69) rfl rfl rfl rfl rfl ?_
        | refine awt_b rfl rfl rfl rfl ?_ ?_
        | refine awt_c rfl rfl rfl ?_ ?_
        | refine awt_gt rfl rfl ?_
        | refine awt_gf rfl rfl rfl ?_
        | refine awt_gu rfl rfl rfl ?_
        | (refine awt_h rfl rfl rfl ?_ ?_ <;> intro hb)
        | refine awt_nil ?_
        | refine dq (by kernel_rfl) ?_
        | refine thn_n ?_
        | refine thn_r ?_
        | refine thn_e ?_
        | refine awc_condT rfl ?_
        | refine awc_condF rfl ?_
        | (refine awc_cond rfl ?_ ?_ <;> intro hb)
        | refine awc_block ?_
        | refine blk_n ?_
        | refine blk_r ?_
        | refine blk_e ?_
        | refine blk_o rfl ?_
        | refine awc_ret ?_
        | refine awc_skip ?_
        | refine awc_label ?_
        | refine awc_exit ?_
        | refine retq_r ?_
        | refine retq_n ?_
        | exact ResIs.tv rfl
        | exact ResIs.ts rfl
        | exact ResIs.tc rfl
        | exact ResIs.tn rfl rfl
        | exact ResIs.to rfl rfl
        | apply ResIs.tagg rfl
        | exact ResIs.cv rfl trivial
        | exact ResIs.cs rfl trivial
        | exact ResIs.cn rfl trivial rfl
        | exact ResIs.co rfl trivial rfl
        | apply ResIs.cagg rfl trivial
        | exact CoeL.nil
        | apply CoeL.v
        | apply CoeL.sl
        | apply CoeL.clp
        | apply CoeL.emp rfl
        | apply CoeL.own rfl
        | apply ret_one
        | apply ret_two
        | apply ret_three
        | exact rawq_r rfl
        | apply rawq_rc rfl
        | apply ownq_rv rfl rfl)
    all_goals (try (refine eqRS ?_; rw [hr]; rfl))
    all_goals (try exact hcutok)
  have hE := Decidable.of_not_not hE
  rw [decide_eq_true hE] at h69
  have hsh : ((genS ss : Int).fdiv (2 ^ min (Int.toNat 32) IntKind.u64.bits) != 0) = decide (genS ss > 4294967295) := by
    rw [Int.fdiv_eq_ediv_of_nonneg _ (by decide)]
    show ((genS ss : Int) / 4294967296 != 0) = _
    by_cases q : genS ss > 4294967295
    · rw [decide_eq_true q, bne_iff_ne]; omega
    · rw [decide_eq_false q, bne_eq_false_iff_eq]; omega
  by_cases hG : genS ss > 4294967295
  · have hr : jSync ⟨rs, many, synced⟩ ⟨ss, ps, left, false⟩ = (jz, .z, 50) := by
      unfold jSync
      rw [if_neg hj', if_neg hd', if_neg (fun h => Bool.false_ne_true h), if_neg (fun h => h.elim (fun q => q hm) hp), if_pos (.inr hG)]
    rw [decide_eq_true hG] at hsh
    repeat' (first
        | (exact absurd hb (by rw [hsh]; decide))
        | exact True.intro
        | exact rfl
        | refine And.intro rfl ?_
        | refine awc_seq ?_
        | refine awc_region ?_
        | refine awc_draw ?_
        | refine awt_a rfl rfl rfl ?_ ?_
        | refine awt_call0 rfl (h69) rfl rfl rfl rfl rfl ?_
        | refine awt_call1 rfl (h69) rfl rfl rfl rfl rfl ?_
        | refine awt_call2 rfl (h69) rfl rfl rfl rfl rfl ?_
        | refine awt_b rfl rfl rfl rfl ?_ ?_
        | refine awt_c rfl rfl rfl ?_ ?_
        | refine awt_gt rfl rfl ?_
        | refine awt_gf rfl rfl rfl ?_
        | refine awt_gu rfl rfl rfl ?_
        | (refine awt_h rfl rfl rfl ?_ ?_ <;> intro hb)
        | refine awt_nil ?_
        | refine dq (by kernel_rfl) ?_
        | refine thn_n ?_
        | refine thn_r ?_
        | refine thn_e ?_
        | refine awc_condT rfl ?_
        | refine awc_condF rfl ?_
        | (refine awc_cond rfl ?_ ?_ <;> intro hb)
        | refine awc_block ?_
        | refine blk_n ?_
        | refine blk_r ?_
        | refine blk_e ?_
        | refine blk_o rfl ?_
        | refine awc_ret ?_
        | refine awc_skip ?_
        | refine awc_label ?_
        | refine awc_exit ?_
        | refine retq_r ?_
        | refine retq_n ?_
        | exact ResIs.tv rfl
        | exact ResIs.ts rfl
        | exact ResIs.tc rfl
        | exact ResIs.tn rfl rfl
        | exact ResIs.to rfl rfl
        | apply ResIs.tagg rfl
        | exact ResIs.cv rfl trivial
        | exact ResIs.cs rfl trivial
        | exact ResIs.cn rfl trivial rfl
        | exact ResIs.co rfl trivial rfl
        | apply ResIs.cagg rfl trivial
        | exact CoeL.nil
        | apply CoeL.v
        | apply CoeL.sl
        | apply CoeL.clp
        | apply CoeL.emp rfl
        | apply CoeL.own rfl
        | apply ret_one
        | apply ret_two
        | apply ret_three
        | exact rawq_r rfl
        | apply rawq_rc rfl
        | apply ownq_rv rfl rfl)
    all_goals (try (refine eqRS ?_; rw [hr]; rfl))
    all_goals (try exact hcutok)
    all_goals (try decide)
  rw [decide_eq_false hG] at hsh
  have hr0 : jSync ⟨rs, many, synced⟩ ⟨ss, ps, left, false⟩ = if synced = rs.length then (⟨rs, many, synced⟩, ⟨ss, ps, left, false⟩, 0) else match wrD (genS ss) (pcsL (rs.drop synced.toNat)) ⟨ss, ps, left, false⟩ (usedN (rs.take synced.toNat)) with
    | none => (jz, .z, 40)
    | some d' => if (dSync d').2 ≠ 0 then (jz, (dSync d').1, (dSync d').2) else (⟨rs, many, rs.length⟩, (dSync d').1, 0) := by
    unfold jSync
    rw [if_neg hj', if_neg hd', if_neg (fun h => Bool.false_ne_true h), if_neg (fun h => h.elim (fun q => q hm) hp), if_neg (fun h => h.elim (fun q => q hE) hG)]
    rfl
  by_cases hS : synced = rs.length
  · rw [if_pos hS] at hr0
    have hS' : (synced == (rs.length : Int)) = true := by rw [beq_iff_eq]; exact hS
    repeat' (first
        | (exact absurd hb (by rw [hsh]; decide))
        | (exact absurd hb (by rw [hS']; decide))
        | exact True.intro
        | exact rfl
        | refine And.intro rfl ?_
        | refine awc_seq ?_
        | refine awc_region ?_
        | refine awc_draw ?_
        | refine awt_a rfl rfl rfl ?_ ?_
        | refine awt_call0 rfl (h69) rfl rfl rfl rfl rfl ?_
        | refine awt_call1 rfl (h69) rfl rfl rfl rfl rfl ?_
        | refine awt_call2 rfl (h69) rfl rfl rfl rfl rfl ?_
        | refine awt_b rfl rfl rfl rfl ?_ ?_
        | refine awt_c rfl rfl rfl ?_ ?_
        | refine awt_gt rfl rfl ?_
        | refine awt_gf rfl rfl rfl ?_
        | refine awt_gu rfl rfl rfl ?_
        | (refine awt_h rfl rfl rfl ?_ ?_ <;> intro hb)
        | refine awt_nil ?_
        | refine dq (by kernel_rfl) ?_
        | refine thn_n ?_
        | refine thn_r ?_
        | refine thn_e ?_
        | refine awc_condT rfl ?_
        | refine awc_condF rfl ?_
        | (refine awc_cond rfl ?_ ?_ <;> intro hb)
        | refine awc_block ?_
        | refine blk_n ?_
        | refine blk_r ?_
        | refine blk_e ?_
        | refine blk_o rfl ?_
        | refine awc_ret ?_
        | refine awc_skip ?_
        | refine awc_label ?_
        | refine awc_exit ?_
        | refine retq_r ?_
        | refine retq_n ?_
        | exact ResIs.tv rfl
        | exact ResIs.ts rfl
        | exact ResIs.tc rfl
        | exact ResIs.tn rfl rfl
        | exact ResIs.to rfl rfl
        | apply ResIs.tagg rfl
        | exact ResIs.cv rfl trivial
        | exact ResIs.cs rfl trivial
        | exact ResIs.cn rfl trivial rfl
        | exact ResIs.co rfl trivial rfl
        | apply ResIs.cagg rfl trivial
        | exact CoeL.nil
        | apply CoeL.v
        | apply CoeL.sl
        | apply CoeL.clp
        | apply CoeL.emp rfl
        | apply CoeL.own rfl
        | apply ret_one
        | apply ret_two
        | apply ret_three
        | exact rawq_r rfl
        | apply rawq_rc rfl
        | apply ownq_rv rfl rfl)
    all_goals (try exact hcutok)
    all_goals (try decide)
    all_goals (try (refine eqRS ?_; rw [hr0]))
  rw [if_neg hS] at hr0
  have hS' : (synced == (rs.length : Int)) = false := by rw [beq_eq_false_iff_ne]; exact hS
  have hu : usedI (rs.take synced.toNat) = (usedN (rs.take synced.toNat) : Int) := by
    have := used_recs ss
    rw [hE] at this
    exact usedI_eq (by omega)
  have h65 := c65 (rs.take synced.toNat)
  rw [hu] at h65
  obtain ⟨g, hg⟩ : ∃ g, g = genS ss := ⟨_, rfl⟩
  obtain ⟨tot, htot⟩ : ∃ tot, tot = wrD g (pcsL (rs.drop synced.toNat)) ⟨ss, ps, left, false⟩ (usedN (rs.take synced.toNat)) := ⟨_, rfl⟩
  rw [← hg, ← htot] at hr0
  rw [← hg] at hsh hgle hgp hG ⊢
  have hu0 : usedN (rs.take synced.toNat) ≤ ss.length := by
    have := used_recs ss
    rw [hE] at this
    exact this
  have hb24 : List.length rs * 24 ≤ 140737488355328 := hbd.1.1
  have hrl : List.length (rs.drop synced.toNat) ≤ rs.length := by rw [List.length_drop]; omega
  repeat' (first
      | (exact absurd hb (by rw [hsh]; decide))
      | (exact absurd hb (by rw [hS']; decide))
      | exact True.intro
      | exact rfl
      | refine And.intro rfl ?_
      | refine awc_seq ?_
      | refine awc_region ?_
      | refine awc_draw ?_
      | refine awt_a rfl rfl rfl ?_ ?_
      | refine awt_call0 rfl (h69) rfl rfl rfl rfl rfl ?_
      | refine awt_call1 rfl (h69) rfl rfl rfl rfl rfl ?_
      | refine awt_call2 rfl (h69) rfl rfl rfl rfl rfl ?_
      | refine awt_call0 rfl (h65) rfl rfl rfl rfl rfl ?_
      | refine awt_call1 rfl (h65) rfl rfl rfl rfl rfl ?_
      | refine awt_call2 rfl (h65) rfl rfl rfl rfl rfl ?_
      | refine awt_b rfl rfl rfl rfl ?_ ?_
      | refine awt_c rfl rfl rfl ?_ ?_
      | refine awt_gt rfl rfl ?_
      | refine awt_gf rfl rfl rfl ?_
      | refine awt_gu rfl rfl rfl ?_
      | (refine awt_h rfl rfl rfl ?_ ?_ <;> intro hb)
      | refine awt_nil ?_
      | refine dq (by kernel_rfl) ?_
      | refine thn_n ?_
      | refine thn_r ?_
      | refine thn_e ?_
      | refine awc_condT rfl ?_
      | refine awc_condF rfl ?_
      | (refine awc_cond rfl ?_ ?_ <;> intro hb)
      | refine awc_block ?_
      | refine blk_n ?_
      | refine blk_r ?_
      | refine blk_e ?_
      | refine blk_o rfl ?_
      | refine awc_ret ?_
      | refine awc_skip ?_
      | refine awc_label ?_
      | refine awc_exit ?_
      | refine retq_r ?_
      | refine retq_n ?_
      | exact ResIs.tv rfl
      | exact ResIs.ts rfl
      | exact ResIs.tc rfl
      | exact ResIs.tn rfl rfl
      | exact ResIs.to rfl rfl
      | apply ResIs.tagg rfl
      | exact ResIs.cv rfl trivial
      | exact ResIs.cs rfl trivial
      | exact ResIs.cn rfl trivial rfl
      | exact ResIs.co rfl trivial rfl
      | apply ResIs.cagg rfl trivial
      | exact CoeL.nil
      | apply CoeL.v
      | apply CoeL.sl
      | apply CoeL.clp
      | apply CoeL.emp rfl
      | apply CoeL.own rfl
      | apply ret_one
      | apply ret_two
      | apply ret_three
      | exact rawq_r rfl
      | apply rawq_rc rfl
      | apply ownq_rv rfl rfl)
  all_goals (try exact hcutok)
  all_goals (try decide)
  clear hb
  refine awc_mid (α := Dk) (fun d => ⟨167, [(2, o1 (.ptr 2 0)), (3, o1 (.ptr 3 0)), (4, o1 (.ptr 4 0)), (5, o1 (.ptr 5 0))], [(2, .box [.sl tB rs, vI many, vI synced]), (3, .box [.sl tB d.ss, .sl tW d.ps, vI d.left, vB d.st]), (4, .box [.emp, vI 0, vI 0]), (5, .box [.emp, .emp, vI 0, vB false])]⟩) (fun d => tot = some d) ?_ ?_
  · refine awc_loop (α := Nat × Dk × Nat) (fun i => ⟨167, [(2, o1 (.ptr 2 0)), (3, o1 (.ptr 3 0)), (4, o1 (.ptr 4 0)), (5, o1 (.ptr 5 0)), (10, o1 (.v (.int .u64 g))), (13, o1 (vI i.2.2)), (108, aBB (rs.drop synced.toNat)), (109, o1 (vI (List.length (rs.drop synced.toNat)))), (110, o1 (vI i.1))], [(2, .box [.sl tB rs, vI many, vI synced]), (3, .box [.sl tB i.2.1.ss, .sl tW i.2.1.ps, vI i.2.1.left, vB i.2.1.st]), (4, .box [.emp, vI 0, vI 0]), (5, .box [.emp, .emp, vI 0, vB false])]⟩) (fun i => i.1 ≤ List.length (rs.drop synced.toNat) ∧ i.2.1.bad = false ∧ i.2.1.ps.length ≤ i.2.2 ∧ i.2.2 ≤ i.2.1.ss.length ∧ tot = wrD g (pcsL ((rs.drop synced.toNat).drop i.1)) i.2.1 i.2.2) (fun i => List.length (rs.drop synced.toNat) - i.1) (0, ⟨ss, ps, left, false⟩, usedN (rs.take synced.toNat)) (Wk.ren [] rfl ⟨rfl, rfl, rfl, rfl, rfl, rfl, rfl, rfl, rfl, trivial⟩ ⟨rfl, rfl, rfl, rfl, trivial⟩ rfl) ⟨Nat.zero_le _, hbd0, by show ps.length ≤ _; omega, hu0, htot⟩ ?_
    rintro ⟨i, d, a⟩ ⟨h1, h2, h3, h4, h5⟩
    dsimp only at h1 h2 h3 h4 h5 ⊢
    have hdl := bad_len h2
    by_cases hil : i < List.length (rs.drop synced.toNat)
    · have hst := drop_step tB.dflt hil
      have h64 := c64 ((rs.drop synced.toNat).getD (Int.toNat (i : Int)) tB.dflt)
      repeat' (first
          | exact True.intro
          | exact rfl
          | refine And.intro rfl ?_
          | refine awc_seq ?_
          | refine awc_region ?_
          | refine awc_draw ?_
          | refine awt_a rfl rfl rfl ?_ ?_
          | refine awt_call0 rfl (h64) rfl rfl rfl rfl rfl ?_
          | refine awt_call1 rfl (h64) rfl rfl rfl rfl rfl ?_
          | refine awt_call2 rfl (h64) rfl rfl rfl rfl rfl ?_
          | refine awt_b rfl rfl rfl rfl ?_ ?_
          | refine awt_c rfl rfl rfl ?_ ?_
          | refine awt_gt rfl rfl ?_
          | refine awt_gf rfl rfl rfl ?_
          | refine awt_gu rfl rfl rfl ?_
          | (refine awt_h rfl rfl rfl ?_ ?_ <;> intro hb)
          | refine awt_nil ?_
          | refine dq (by kernel_rfl) ?_
          | refine thn_n ?_
          | refine thn_r ?_
          | refine thn_e ?_
          | refine awc_condT rfl ?_
          | refine awc_condF rfl ?_
          | (refine awc_cond rfl ?_ ?_ <;> intro hb)
          | refine awc_block ?_
          | refine blk_n ?_
          | refine blk_r ?_
          | refine blk_e ?_
          | refine blk_o rfl ?_
          | refine awc_ret ?_
          | refine awc_skip ?_
          | refine awc_label ?_
          | refine awc_exit ?_
          | refine retq_r ?_
          | refine retq_n ?_
          | exact ResIs.tv rfl
          | exact ResIs.ts rfl
          | exact ResIs.tc rfl
          | exact ResIs.tn rfl rfl
          | exact ResIs.to rfl rfl
          | apply ResIs.tagg rfl
          | exact ResIs.cv rfl trivial
          | exact ResIs.cs rfl trivial
          | exact ResIs.cn rfl trivial rfl
          | exact ResIs.co rfl trivial rfl
          | apply ResIs.cagg rfl trivial
          | exact CoeL.nil
          | apply CoeL.v
          | apply CoeL.sl
          | apply CoeL.clp
          | apply CoeL.emp rfl
          | apply CoeL.own rfl
          | apply ret_one
          | apply ret_two
          | apply ret_three
          | exact rawq_r rfl
          | apply rawq_rc rfl
          | apply ownq_rv rfl rfl)
      all_goals (try (exfalso; have := of_decide_eq_false hb; omega))
      all_goals (try exact ⟨by omega, by omega⟩)
      refine awc_loop (α := Nat × Bool × List UInt8 × Dk × Nat) (fun j => ⟨167, [(2, o1 (.ptr 2 0)), (3, o1 (.ptr 3 0)), (4, o1 (.ptr 4 0)), (5, o1 (.ptr 5 0)), (10, o1 (.v (.int .u64 g))), (13, o1 (vI j.2.2.2.2)), (15, aB j.2.2.1), (16, o1 (.v (.int .u8 ((k0 j.2.1).toNat : Int)))), (17, o1 (vI j.1)), (108, aBB (rs.drop synced.toNat)), (109, o1 (vI (List.length (rs.drop synced.toNat)))), (110, o1 (vI i))], [(2, .box [.sl tB rs, vI many, vI synced]), (3, .box [.sl tB j.2.2.2.1.ss, .sl tW j.2.2.2.1.ps, vI j.2.2.2.1.left, vB j.2.2.2.1.st]), (4, .box [.emp, vI 0, vI 0]), (5, .box [.emp, .emp, vI 0, vB false])]⟩) (fun j => (∀ m, j.1 = m + 1 → VOk j.2.1 j.2.2.1 m) ∧ j.1 ≤ 140737488355328 ∧ j.2.2.2.1.bad = false ∧ j.2.2.2.1.ps.length ≤ j.2.2.2.2 ∧ j.2.2.2.2 ≤ j.2.2.2.1.ss.length ∧ tot = wrD g (pcs j.2.1 j.2.2.1 j.1 ++ pcsL ((rs.drop synced.toNat).drop (i + 1))) j.2.2.2.1 j.2.2.2.2) (fun j => j.1) (secN (List.length ((rs.drop synced.toNat).getD i tB.dflt)), true, (rs.drop synced.toNat).getD i tB.dflt, d, a) (Wk.ren [] rfl ⟨rfl, rfl, rfl, rfl, rfl, rfl, ?_, rfl, eqVI ?_, rfl, rfl, rfl, trivial⟩ ⟨rfl, rfl, rfl, rfl, trivial⟩ rfl) ⟨?_, ?_, h2, h3, h4, ?_⟩ ?_
      · show aB ((rs.drop synced.toNat).getD (Int.toNat (i : Int)) tB.dflt) = aB ((rs.drop synced.toNat).getD i tB.dflt)
        rw [Int.toNat_natCast]
      · rw [Int.toNat_natCast]
      · intro m hm
        have := vok_rec ((rs.drop synced.toNat).getD i tB.dflt)
        dsimp only at hm
        rw [hm] at this
        exact this
      · have h7 := hbd.1.2 _ (List.mem_of_mem_drop (getD_mem tB.dflt hil))
        have h8 : List.length ((rs.drop synced.toNat).getD i tB.dflt) * 1 ≤ 140737488355328 := h7.1
        show secN (List.length ((rs.drop synced.toNat).getD i tB.dflt)) ≤ 140737488355328
        unfold secN
        omega
      · rw [h5, hst]; rfl
      rintro ⟨n, f, b, d', a'⟩ ⟨j1, jn, j2, j3, j4, j5⟩
      dsimp only at j1 jn j2 j3 j4 j5 ⊢
      have hdl' := bad_len j2
      cases n with
      | zero =>
        repeat' (first
            | exact True.intro
            | exact rfl
            | refine And.intro rfl ?_
            | refine awc_seq ?_
            | refine awc_region ?_
            | refine awc_draw ?_
            | refine awt_a rfl rfl rfl ?_ ?_
            | refine awt_b rfl rfl rfl rfl ?_ ?_
            | refine awt_c rfl rfl rfl ?_ ?_
            | refine awt_gt rfl rfl ?_
            | refine awt_gf rfl rfl rfl ?_
            | refine awt_gu rfl rfl rfl ?_
            | (refine awt_h rfl rfl rfl ?_ ?_ <;> intro hb)
            | refine awt_nil ?_
            | refine dq (by kernel_rfl) ?_
            | refine thn_n ?_
            | refine thn_r ?_
            | refine thn_e ?_
            | refine awc_condT rfl ?_
            | refine awc_condF rfl ?_
            | (refine awc_cond rfl ?_ ?_ <;> intro hb)
            | refine awc_block ?_
            | refine blk_n ?_
            | refine blk_r ?_
            | refine blk_e ?_
            | refine blk_o rfl ?_
            | refine awc_ret ?_
            | refine awc_skip ?_
            | refine awc_label ?_
            | refine awc_exit ?_
            | refine retq_r ?_
            | refine retq_n ?_
            | exact ResIs.tv rfl
            | exact ResIs.ts rfl
            | exact ResIs.tc rfl
            | exact ResIs.tn rfl rfl
            | exact ResIs.to rfl rfl
            | apply ResIs.tagg rfl
            | exact ResIs.cv rfl trivial
            | exact ResIs.cs rfl trivial
            | exact ResIs.cn rfl trivial rfl
            | exact ResIs.co rfl trivial rfl
            | apply ResIs.cagg rfl trivial
            | exact CoeL.nil
            | apply CoeL.v
            | apply CoeL.sl
            | apply CoeL.clp
            | apply CoeL.emp rfl
            | apply CoeL.own rfl
            | apply ret_one
            | apply ret_two
            | apply ret_three
            | exact rawq_r rfl
            | apply rawq_rc rfl
            | apply ownq_rv rfl rfl)
        all_goals (try (exfalso; have := of_decide_eq_true hb; omega))
        refine ⟨(i + 1, d', a'), Wk.ren [] rfl ⟨rfl, rfl, rfl, rfl, rfl, rfl, rfl, rfl, eqVI (by rw [i64w (by omega) (by omega)]; rfl), trivial⟩ ⟨rfl, rfl, rfl, rfl, trivial⟩ rfl, ⟨hil, j2, j3, j4, j5⟩, by dsimp only; omega⟩
      | succ m =>
        have hv := j1 m rfl
        have hX : b.take (Int.toNat (if (112 : Int) < (b.length : Int) then 112 else (b.length : Int))) = b.take 112 := by
          split
          · rfl
          · rw [Int.toNat_natCast, List.take_of_length_le (Nat.le_refl _), List.take_of_length_le (by omega)]
        have hY : b.drop (Int.toNat (if (112 : Int) < (b.length : Int) then 112 else (b.length : Int))) = b.drop 112 := by
          split
          · rfl
          · rw [Int.toNat_natCast, List.drop_of_length_le (Nat.le_refl _), List.drop_of_length_le (by omega)]
        have hXr : (0 : Int) ≤ (if (112 : Int) < (b.length : Int) then 112 else (b.length : Int)) ∧ (if (112 : Int) < (b.length : Int) then 112 else (b.length : Int)) ≤ b.length := by split <;> omega
        have hpl : (b.take 112).length ≤ 112 := by rw [List.length_take]; exact Nat.min_le_left _ _
        have hstep := wr_step (kd := kdN f m) (b := b.take 112) (rest := pcs false (b.drop 112) m ++ pcsL ((rs.drop synced.toNat).drop (i + 1))) j2 j3 j4 j5 hpl
        have h26 := c26 d'.ss d'.ps d'.left d'.st a' (enc g a' (kdN f m) (b.take 112))
        have hmw : IntKind.i64.wrap (((m + 1 : Nat) : Int) - 1) = (m : Int) := by rw [i64w (by omega) (by omega)]; omega
        have haw : IntKind.i64.wrap ((a' : Int) + 1) = ((a' + 1 : Nat) : Int) := by rw [i64w (by omega) (by omega)]; rfl
        have hcl : ∀ (m' : Nat), m = m' + 1 → VOk false (b.drop 112) m' := fun m' q => by subst q; exact vok_next hv
        have hfail : tot = none → jSync ⟨rs, many, synced⟩ ⟨ss, ps, left, false⟩ = (jz, .z, 40) := fun q => by rw [hr0, q]
        by_cases hm0 : m = 0
        · subst hm0
          have h71 : ACalls 71 [o1 (.v (.int .u64 g)), o1 (vI a'), o1 (.v (.int .u8 (IntKind.u8.wrap ((BitVec.ofInt IntKind.u8.bits ((k0 f).toNat : Int) ||| BitVec.ofInt IntKind.u8.bits 2).toNat : Nat)))), aB (b.take (Int.toNat (if (112 : Int) < (b.length : Int) then 112 else (b.length : Int))))] (aB (enc g a' (kdN f 0) (b.take 112))) := by
            rw [k0_or, hX]; exact c71 g a' (kdN f 0) (b.take 112) (by omega) (by omega) hpl
          rcases hstep with ⟨hw, s2, s3, s4, s5⟩ | ⟨hw, hn⟩
          · have h26 : ACalls 26 [aD d'.ss d'.ps d'.left d'.st, o1 (vI a'), aB (enc g a' (kdN f 0) (b.take 112))] (aRD (⟨d'.ss, d'.ps ++ [((a' : Int), enc g a' (kdN f 0) (b.take 112))], d'.left, d'.st⟩, 0)) := by rw [← hw]; exact h26
            repeat' (first
                | exact True.intro
                | exact rfl
                | refine And.intro rfl ?_
                | refine awc_seq ?_
                | refine awc_region ?_
                | refine awc_draw ?_
                | refine awt_a rfl rfl rfl ?_ ?_
                | refine awt_call0 rfl (h71) rfl rfl rfl rfl rfl ?_
                | refine awt_call1 rfl (h71) rfl rfl rfl rfl rfl ?_
                | refine awt_call2 rfl (h71) rfl rfl rfl rfl rfl ?_
                | refine awt_call0 rfl (h26) rfl rfl rfl rfl rfl ?_
                | refine awt_call1 rfl (h26) rfl rfl rfl rfl rfl ?_
                | refine awt_call2 rfl (h26) rfl rfl rfl rfl rfl ?_
                | refine awt_b rfl rfl rfl rfl ?_ ?_
                | refine awt_c rfl rfl rfl ?_ ?_
                | refine awt_gt rfl rfl ?_
                | refine awt_gf rfl rfl rfl ?_
                | refine awt_gu rfl rfl rfl ?_
                | (refine awt_h rfl rfl rfl ?_ ?_ <;> intro hb)
                | refine awt_nil ?_
                | refine dq (by kernel_rfl) ?_
                | refine thn_n ?_
                | refine thn_r ?_
                | refine thn_e ?_
                | refine awc_condT rfl ?_
                | refine awc_condF rfl ?_
                | (refine awc_cond rfl ?_ ?_ <;> intro hb)
                | refine awc_block ?_
                | refine blk_n ?_
                | refine blk_r ?_
                | refine blk_e ?_
                | refine blk_o rfl ?_
                | refine awc_ret ?_
                | refine awc_skip ?_
                | refine awc_label ?_
                | refine awc_exit ?_
                | refine retq_r ?_
                | refine retq_n ?_
                | exact ResIs.tv rfl
                | exact ResIs.ts rfl
                | exact ResIs.tc rfl
                | exact ResIs.tn rfl rfl
                | exact ResIs.to rfl rfl
                | apply ResIs.tagg rfl
                | exact ResIs.cv rfl trivial
                | exact ResIs.cs rfl trivial
                | exact ResIs.cn rfl trivial rfl
                | exact ResIs.co rfl trivial rfl
                | apply ResIs.cagg rfl trivial
                | exact CoeL.nil
                | apply CoeL.v
                | apply CoeL.sl
                | apply CoeL.clp
                | apply CoeL.emp rfl
                | apply CoeL.own rfl
                | apply ret_one
                | apply ret_two
                | apply ret_three
                | exact rawq_r rfl
                | apply rawq_rc rfl
                | apply ownq_rv rfl rfl)
            all_goals (try (exfalso; have := of_decide_eq_false hb; omega))
            all_goals (try exact hXr)
            refine ⟨(0, false, b.drop 112, ⟨d'.ss, d'.ps ++ [((a' : Int), enc g a' (kdN f 0) (b.take 112))], d'.left, d'.st⟩, a' + 1), Wk.ren [] rfl ⟨rfl, rfl, rfl, rfl, rfl, eqVI haw, ?_, rfl, eqVI hmw, rfl, rfl, rfl, trivial⟩ ⟨rfl, rfl, rfl, rfl, trivial⟩ rfl, ⟨hcl, by dsimp only; omega, s2, s3, s4, s5⟩, by dsimp only; omega⟩
            exact congrArg aB hY
          · have h26 : ACalls 26 [aD d'.ss d'.ps d'.left d'.st, o1 (vI a'), aB (enc g a' (kdN f 0) (b.take 112))] (aRD (.z, 40)) := by rw [← hw]; exact h26
            repeat' (first
                | exact True.intro
                | exact rfl
                | refine And.intro rfl ?_
                | refine awc_seq ?_
                | refine awc_region ?_
                | refine awc_draw ?_
                | refine awt_a rfl rfl rfl ?_ ?_
                | refine awt_call0 rfl (h71) rfl rfl rfl rfl rfl ?_
                | refine awt_call1 rfl (h71) rfl rfl rfl rfl rfl ?_
                | refine awt_call2 rfl (h71) rfl rfl rfl rfl rfl ?_
                | refine awt_call0 rfl (h26) rfl rfl rfl rfl rfl ?_
                | refine awt_call1 rfl (h26) rfl rfl rfl rfl rfl ?_
                | refine awt_call2 rfl (h26) rfl rfl rfl rfl rfl ?_
                | refine awt_b rfl rfl rfl rfl ?_ ?_
                | refine awt_c rfl rfl rfl ?_ ?_
                | refine awt_gt rfl rfl ?_
                | refine awt_gf rfl rfl rfl ?_
                | refine awt_gu rfl rfl rfl ?_
                | (refine awt_h rfl rfl rfl ?_ ?_ <;> intro hb)
                | refine awt_nil ?_
                | refine dq (by kernel_rfl) ?_
                | refine thn_n ?_
                | refine thn_r ?_
                | refine thn_e ?_
                | refine awc_condT rfl ?_
                | refine awc_condF rfl ?_
                | (refine awc_cond rfl ?_ ?_ <;> intro hb)
                | refine awc_block ?_
                | refine blk_n ?_
                | refine blk_r ?_
                | refine blk_e ?_
                | refine blk_o rfl ?_
                | refine awc_ret ?_
                | refine awc_skip ?_
                | refine awc_label ?_
                | refine awc_exit ?_
                | refine retq_r ?_
                | refine retq_n ?_
                | exact ResIs.tv rfl
                | exact ResIs.ts rfl
                | exact ResIs.tc rfl
                | exact ResIs.tn rfl rfl
                | exact ResIs.to rfl rfl
                | apply ResIs.tagg rfl
                | exact ResIs.cv rfl trivial
                | exact ResIs.cs rfl trivial
                | exact ResIs.cn rfl trivial rfl
                | exact ResIs.co rfl trivial rfl
                | apply ResIs.cagg rfl trivial
                | exact CoeL.nil
                | apply CoeL.v
                | apply CoeL.sl
                | apply CoeL.clp
                | apply CoeL.emp rfl
                | apply CoeL.own rfl
                | apply ret_one
                | apply ret_two
                | apply ret_three
                | exact rawq_r rfl
                | apply rawq_rc rfl
                | apply ownq_rv rfl rfl)
            all_goals (try (exfalso; have := of_decide_eq_false hb; omega))
            all_goals (try exact hXr)
            refine eqRS ?_
            rw [hfail hn]; rfl
        · have hm1 : (((m + 1 : Nat) : Int) == 1) = false := by rw [beq_eq_false_iff_ne]; omega
          obtain ⟨m', rfl⟩ : ∃ m', m = m' + 1 := ⟨m - 1, by omega⟩
          have h71 : ACalls 71 [o1 (.v (.int .u64 g)), o1 (vI a'), o1 (.v (.int .u8 ((k0 f).toNat : Int))), aB (b.take (Int.toNat (if (112 : Int) < (b.length : Int) then 112 else (b.length : Int))))] (aB (enc g a' (kdN f (m' + 1)) (b.take 112))) := by
            rw [k0_mid f m', hX]; exact c71 g a' (kdN f (m' + 1)) (b.take 112) (by omega) (by omega) hpl
          rcases hstep with ⟨hw, s2, s3, s4, s5⟩ | ⟨hw, hn⟩
          · have h26 : ACalls 26 [aD d'.ss d'.ps d'.left d'.st, o1 (vI a'), aB (enc g a' (kdN f (m' + 1)) (b.take 112))] (aRD (⟨d'.ss, d'.ps ++ [((a' : Int), enc g a' (kdN f (m' + 1)) (b.take 112))], d'.left, d'.st⟩, 0)) := by rw [← hw]; exact h26
            repeat' (first
                | (exact absurd hb (by rw [hm1]; decide))
                | exact True.intro
                | exact rfl
                | refine And.intro rfl ?_
                | refine awc_seq ?_
                | refine awc_region ?_
                | refine awc_draw ?_
                | refine awt_a rfl rfl rfl ?_ ?_
                | refine awt_call0 rfl (h71) rfl rfl rfl rfl rfl ?_
                | refine awt_call1 rfl (h71) rfl rfl rfl rfl rfl ?_
                | refine awt_call2 rfl (h71) rfl rfl rfl rfl rfl ?_
                | refine awt_call0 rfl (h26) rfl rfl rfl rfl rfl ?_
                | refine awt_call1 rfl (h26) rfl rfl rfl rfl rfl ?_
                | refine awt_call2 rfl (h26) rfl rfl rfl rfl rfl ?_
                | refine awt_b rfl rfl rfl rfl ?_ ?_
                | refine awt_c rfl rfl rfl ?_ ?_
                | refine awt_gt rfl rfl ?_
                | refine awt_gf rfl rfl rfl ?_
                | refine awt_gu rfl rfl rfl ?_
                | (refine awt_h rfl rfl rfl ?_ ?_ <;> intro hb)
                | refine awt_nil ?_
                | refine dq (by kernel_rfl) ?_
                | refine thn_n ?_
                | refine thn_r ?_
                | refine thn_e ?_
                | refine awc_condT rfl ?_
                | refine awc_condF rfl ?_
                | (refine awc_cond rfl ?_ ?_ <;> intro hb)
                | refine awc_block ?_
                | refine blk_n ?_
                | refine blk_r ?_
                | refine blk_e ?_
                | refine blk_o rfl ?_
                | refine awc_ret ?_
                | refine awc_skip ?_
                | refine awc_label ?_
                | refine awc_exit ?_
                | refine retq_r ?_
                | refine retq_n ?_
                | exact ResIs.tv rfl
                | exact ResIs.ts rfl
                | exact ResIs.tc rfl
                | exact ResIs.tn rfl rfl
                | exact ResIs.to rfl rfl
                | apply ResIs.tagg rfl
                | exact ResIs.cv rfl trivial
                | exact ResIs.cs rfl trivial
                | exact ResIs.cn rfl trivial rfl
                | exact ResIs.co rfl trivial rfl
                | apply ResIs.cagg rfl trivial
                | exact CoeL.nil
                | apply CoeL.v
                | apply CoeL.sl
                | apply CoeL.clp
                | apply CoeL.emp rfl
                | apply CoeL.own rfl
                | apply ret_one
                | apply ret_two
                | apply ret_three
                | exact rawq_r rfl
                | apply rawq_rc rfl
                | apply ownq_rv rfl rfl)
            all_goals (try (exfalso; have := of_decide_eq_false hb; omega))
            all_goals (try exact hXr)
            refine ⟨(m' + 1, false, b.drop 112, ⟨d'.ss, d'.ps ++ [((a' : Int), enc g a' (kdN f (m' + 1)) (b.take 112))], d'.left, d'.st⟩, a' + 1), Wk.ren [] rfl ⟨rfl, rfl, rfl, rfl, rfl, eqVI haw, ?_, rfl, eqVI hmw, rfl, rfl, rfl, trivial⟩ ⟨rfl, rfl, rfl, rfl, trivial⟩ rfl, ⟨hcl, by dsimp only; omega, s2, s3, s4, s5⟩, by dsimp only; omega⟩
            exact congrArg aB hY
          · have h26 : ACalls 26 [aD d'.ss d'.ps d'.left d'.st, o1 (vI a'), aB (enc g a' (kdN f (m' + 1)) (b.take 112))] (aRD (.z, 40)) := by rw [← hw]; exact h26
            repeat' (first
                | (exact absurd hb (by rw [hm1]; decide))
                | exact True.intro
                | exact rfl
                | refine And.intro rfl ?_
                | refine awc_seq ?_
                | refine awc_region ?_
                | refine awc_draw ?_
                | refine awt_a rfl rfl rfl ?_ ?_
                | refine awt_call0 rfl (h71) rfl rfl rfl rfl rfl ?_
                | refine awt_call1 rfl (h71) rfl rfl rfl rfl rfl ?_
                | refine awt_call2 rfl (h71) rfl rfl rfl rfl rfl ?_
                | refine awt_call0 rfl (h26) rfl rfl rfl rfl rfl ?_
                | refine awt_call1 rfl (h26) rfl rfl rfl rfl rfl ?_
                | refine awt_call2 rfl (h26) rfl rfl rfl rfl rfl ?_
                | refine awt_b rfl rfl rfl rfl ?_ ?_
                | refine awt_c rfl rfl rfl ?_ ?_
                | refine awt_gt rfl rfl ?_
                | refine awt_gf rfl rfl rfl ?_
                | refine awt_gu rfl rfl rfl ?_
                | (refine awt_h rfl rfl rfl ?_ ?_ <;> intro hb)
                | refine awt_nil ?_
                | refine dq (by kernel_rfl) ?_
                | refine thn_n ?_
                | refine thn_r ?_
                | refine thn_e ?_
                | refine awc_condT rfl ?_
                | refine awc_condF rfl ?_
                | (refine awc_cond rfl ?_ ?_ <;> intro hb)
                | refine awc_block ?_
                | refine blk_n ?_
                | refine blk_r ?_
                | refine blk_e ?_
                | refine blk_o rfl ?_
                | refine awc_ret ?_
                | refine awc_skip ?_
                | refine awc_label ?_
                | refine awc_exit ?_
                | refine retq_r ?_
                | refine retq_n ?_
                | exact ResIs.tv rfl
                | exact ResIs.ts rfl
                | exact ResIs.tc rfl
                | exact ResIs.tn rfl rfl
                | exact ResIs.to rfl rfl
                | apply ResIs.tagg rfl
                | exact ResIs.cv rfl trivial
                | exact ResIs.cs rfl trivial
                | exact ResIs.cn rfl trivial rfl
                | exact ResIs.co rfl trivial rfl
                | apply ResIs.cagg rfl trivial
                | exact CoeL.nil
                | apply CoeL.v
                | apply CoeL.sl
                | apply CoeL.clp
                | apply CoeL.emp rfl
                | apply CoeL.own rfl
                | apply ret_one
                | apply ret_two
                | apply ret_three
                | exact rawq_r rfl
                | apply rawq_rc rfl
                | apply ownq_rv rfl rfl)
            all_goals (try (exfalso; have := of_decide_eq_false hb; omega))
            all_goals (try exact hXr)
            refine eqRS ?_
            rw [hfail hn]; rfl
    · skip
      repeat' (first
          | exact True.intro
          | exact rfl
          | refine And.intro rfl ?_
          | refine awc_seq ?_
          | refine awc_region ?_
          | refine awc_draw ?_
          | refine awt_a rfl rfl rfl ?_ ?_
          | refine awt_b rfl rfl rfl rfl ?_ ?_
          | refine awt_c rfl rfl rfl ?_ ?_
          | refine awt_gt rfl rfl ?_
          | refine awt_gf rfl rfl rfl ?_
          | refine awt_gu rfl rfl rfl ?_
          | (refine awt_h rfl rfl rfl ?_ ?_ <;> intro hb)
          | refine awt_nil ?_
          | refine dq (by kernel_rfl) ?_
          | refine thn_n ?_
          | refine thn_r ?_
          | refine thn_e ?_
          | refine awc_condT rfl ?_
          | refine awc_condF rfl ?_
          | (refine awc_cond rfl ?_ ?_ <;> intro hb)
          | refine awc_block ?_
          | refine blk_n ?_
          | refine blk_r ?_
          | refine blk_e ?_
          | refine blk_o rfl ?_
          | refine awc_ret ?_
          | refine awc_skip ?_
          | refine awc_label ?_
          | refine awc_exit ?_
          | refine retq_r ?_
          | refine retq_n ?_
          | exact ResIs.tv rfl
          | exact ResIs.ts rfl
          | exact ResIs.tc rfl
          | exact ResIs.tn rfl rfl
          | exact ResIs.to rfl rfl
          | apply ResIs.tagg rfl
          | exact ResIs.cv rfl trivial
          | exact ResIs.cs rfl trivial
          | exact ResIs.cn rfl trivial rfl
          | exact ResIs.co rfl trivial rfl
          | apply ResIs.cagg rfl trivial
          | exact CoeL.nil
          | apply CoeL.v
          | apply CoeL.sl
          | apply CoeL.clp
          | apply CoeL.emp rfl
          | apply CoeL.own rfl
          | apply ret_one
          | apply ret_two
          | apply ret_three
          | exact rawq_r rfl
          | apply rawq_rc rfl
          | apply ownq_rv rfl rfl)
      all_goals (try (exfalso; have := of_decide_eq_true hb; omega))
      refine ⟨d, Wk.ren [] rfl ⟨rfl, rfl, rfl, rfl, trivial⟩ ⟨rfl, rfl, rfl, rfl, trivial⟩ rfl, ?_⟩
      rw [h5, List.drop_of_length_le (by omega)]; rfl
  intro d hd2
  rw [hd2] at hr0
  have h30 := c30 d.ss d.ps d.left d.st
  repeat' (first
      | exact True.intro
      | exact rfl
      | refine And.intro rfl ?_
      | refine awc_seq ?_
      | refine awc_region ?_
      | refine awc_draw ?_
      | refine awt_a rfl rfl rfl ?_ ?_
      | refine awt_call0 rfl (h30) rfl rfl rfl rfl rfl ?_
      | refine awt_call1 rfl (h30) rfl rfl rfl rfl rfl ?_
      | refine awt_call2 rfl (h30) rfl rfl rfl rfl rfl ?_
      | refine awt_b rfl rfl rfl rfl ?_ ?_
      | refine awt_c rfl rfl rfl ?_ ?_
      | refine awt_gt rfl rfl ?_
      | refine awt_gf rfl rfl rfl ?_
      | refine awt_gu rfl rfl rfl ?_
      | (refine awt_h rfl rfl rfl ?_ ?_ <;> intro hb)
      | refine awt_nil ?_
      | refine dq (by kernel_rfl) ?_
      | refine thn_n ?_
      | refine thn_r ?_
      | refine thn_e ?_
      | refine awc_condT rfl ?_
      | refine awc_condF rfl ?_
      | (refine awc_cond rfl ?_ ?_ <;> intro hb)
      | refine awc_block ?_
      | refine blk_n ?_
      | refine blk_r ?_
      | refine blk_e ?_
      | refine blk_o rfl ?_
      | refine awc_ret ?_
      | refine awc_skip ?_
      | refine awc_label ?_
      | refine awc_exit ?_
      | refine retq_r ?_
      | refine retq_n ?_
      | exact ResIs.tv rfl
      | exact ResIs.ts rfl
      | exact ResIs.tc rfl
      | exact ResIs.tn rfl rfl
      | exact ResIs.to rfl rfl
      | apply ResIs.tagg rfl
      | exact ResIs.cv rfl trivial
      | exact ResIs.cs rfl trivial
      | exact ResIs.cn rfl trivial rfl
      | exact ResIs.co rfl trivial rfl
      | apply ResIs.cagg rfl trivial
      | exact CoeL.nil
      | apply CoeL.v
      | apply CoeL.sl
      | apply CoeL.clp
      | apply CoeL.emp rfl
      | apply CoeL.own rfl
      | apply ret_one
      | apply ret_two
      | apply ret_three
      | exact rawq_r rfl
      | apply rawq_rc rfl
      | apply ownq_rv rfl rfl)
  · refine eqRS ?_
    rw [bne_iff_ne] at hb
    rw [hr0]
    show (if (dSync d).2 ≠ 0 then _ else _) = _
    rw [if_pos hb]; rfl
  · refine eqRS ?_
    rw [bne_eq_false_iff_eq] at hb
    rw [hr0]
    show (if (dSync d).2 ≠ 0 then _ else _) = _
    rw [if_neg (fun q => q hb)]
end B
end Go.Proofs.Ytbmnhagbplkagaa
