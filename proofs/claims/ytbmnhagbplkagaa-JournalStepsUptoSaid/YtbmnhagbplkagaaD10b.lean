import Derived.Test.YtbmnhagbplkagaaD8y
import Derived.Test.YtbmnhagbplkagaaD8z
import Derived.Test.YtbmnhagbplkagaaP3
import Derived.Test.YtbmnhagbplkagaaD2
/- Contracts of the reference of the journal: the records on sectors, the journal of a disk. -/
namespace Go.Proofs.Ytbmnhagbplkagaa
namespace B
open Go.RowKit
set_option maxHeartbeats 4000000
set_option maxRecDepth 100000
attribute [local irreducible] awc awT thn blk DQ retQ rawQ ownQ retOk ResIs

/-- The record that begins at a sector, and how many sectors it takes. -/
def rRes (l : List (List UInt8)) (a : Nat) : List UInt8 × Int := match jRec l a 0 with
  | none => ([], 0)
  | some x => (x.1, (x.2 : Int) - a)
abbrev aRR (x : List UInt8 × Int) : AV := .tup [.one (.sl .u8 x.1), .one (vI x.2)]
theorem eqRR {b : List UInt8} {e : Int} {x : List UInt8 × Int} (h : x = (b, e)) : AV.tup [.one (.sl .u8 b), .one (vI e)] = aRR x := by
  rw [h]
theorem c86 (l : List (List UInt8)) (a : Nat) (hl : ∀ s ∈ l, s.length = 128) (hn : l.length ≤ 4096) (ha : a ≤ l.length) : ACalls 86 [aBB l, o1 (vI a)] (aRR (rRes l a)) := by
  refine acalls (n := 72) (rs := [.tmp 4, .tmp 5]) (Ts := [35, 3]) Try.func86 rfl rfl rfl rfl rfl rfl ?_
  repeat' (first
      | exact True.intro
      | exact rfl
      | refine And.intro rfl ?_
      | refine awc_seq ?_
      | refine awc_region ?_
      | refine awc_draw ?_
      | refine awt_a rfl rfl rfl ?_ ?_
      | refine awt_b rfl rfl rfl rfl ?_ ?_
      | refine awt_c rfl rfl rfl ?_ ?_
      | refine awt_gt rfl rfl ?_
      | refine awt_gf rfl rfl rfl ?_
      | refine awt_gu rfl rfl rfl ?_
      | (refine awt_h rfl rfl rfl ?_ ?_ <;> intro hb)
      | refine awt_nil ?_
      | refine dq (by kernel_rfl) ?_
      | refine thn_n ?_
      | refine thn_r ?_
      | refine thn_e ?_
      | refine awc_condT rfl ?_
      | refine awc_condF rfl ?_
      | (refine awc_cond rfl ?_ ?_ <;> intro hb)
      | refine awc_block ?_
      | refine blk_n ?_
      | refine blk_r ?_
      | refine blk_e ?_
      | refine blk_o rfl ?_
      | refine awc_ret ?_
      | refine awc_skip ?_
      | refine awc_label ?_
      | refine awc_exit ?_
      | refine retq_r ?_
      | refine retq_n ?_
      | exact ResIs.tv rfl
      | exact ResIs.ts rfl
      | exact ResIs.tc rfl
      | exact ResIs.tn rfl rfl
      | exact ResIs.to rfl rfl
      | apply ResIs.tagg rfl
      | exact ResIs.cv rfl trivial
      | exact ResIs.cs rfl trivial
      | exact ResIs.cn rfl trivial rfl
      | exact ResIs.co rfl trivial rfl
      | apply ResIs.cagg rfl trivial
      | exact CoeL.nil
      | apply CoeL.v
      | apply CoeL.sl
      | apply CoeL.clp
      | apply CoeL.emp rfl
      | apply CoeL.own rfl
      | apply ret_one
      | apply ret_two
      | apply ret_three
      | exact rawq_r rfl
      | apply rawq_rc rfl
      | apply ownq_rv rfl rfl)
  refine awc_loop (α := Nat × List UInt8) (fun i => ⟨72, [(0, aBB l), (1, o1 (vI a)), (6, o1 (.own 1000)), (7, o1 (vI i.1))], [(1000, .own .u8 i.2)]⟩) (fun i => a + i.1 ≤ l.length ∧ i.2.length ≤ 112 * i.1 ∧ jRec l a 0 = jGo l a 0 (l.length - (a + i.1)) (a + i.1) i.2) (fun i => l.length - (a + i.1)) (0, []) (Wk.trans (own0L 6 1000 .u8 rfl rfl) (Wk.ren [] rfl ⟨rfl, rfl, rfl, rfl, trivial⟩ ⟨rfl, trivial⟩ rfl)) ⟨ha, Nat.zero_le _, rfl⟩ ?_
  rintro ⟨k, b⟩ ⟨h1, h2, h3⟩
  dsimp only at h1 h2 h3 ⊢
  have ea : IntKind.i64.wrap ((a : Int) + (k : Int)) = ((a + k : Nat) : Int) := by rw [i64w (by omega) (by omega)]; omega
  by_cases hlt : a + k < l.length
  · have hs : (l.getD (a + k) tB.dflt).length = 128 := hl _ (getD_mem _ hlt)
    have hs0 : (l.getD a tB.dflt).length = 128 := hl _ (getD_mem _ (by omega))
    have h92 : ACalls 92 [aB (l.getD (Int.toNat (IntKind.i64.wrap ((a : Int) + (k : Int)))) tB.dflt), o1 (vI (IntKind.i64.wrap ((a : Int) + (k : Int))))] (o1 (vB (goodS (sec l (a + k)) (a + k)))) := by
      rw [ea, Int.toNat_natCast]; exact c92 _ _ hs (by omega)
    have h87 := c87 ((l.getD (Int.toNat (IntKind.i64.wrap ((a : Int) + (k : Int)))) tB.dflt).take (Int.toNat 4)) (tk4 _)
    have h870 := c87 ((l.getD (Int.toNat (a : Int)) tB.dflt).take (Int.toNat 4)) (tk4 _)
    have hst := jGo_step (a := a) (last := 0) (b := b) hlt
    have hfin : badAt l a 0 (a + k) = true → rRes l a = ([], 0) := fun h => by
      rw [h] at hst
      have : jRec l a 0 = none := by rw [h3, hst]; rfl
      unfold rRes; rw [this]
    have hgA : (!goodS (sec l (a + k)) (a + k)) = false → (!((((kdS (sec l (a + k))).toNat : Int).tmod 2 == 1) == ((k : Int) == 0))) = false → ((gnS (sec l (a + k)) : Int) != (gnS (sec l a) : Int)) = false → badAt l a 0 (a + k) = false := fun q1 q2 q3 =>
      badAt_no (by rwa [Bool.not_eq_false'] at q1) ((begTf q2).trans ⟨fun h => by omega, fun h => by omega⟩) (by rw [bne_eq_false_iff_eq] at q3; exact Int.ofNat.inj q3) (Nat.not_lt_zero _)
    have hgB : (!goodS (sec l (a + k)) (a + k)) = false → (!((((kdS (sec l (a + k))).toNat : Int).tmod 2 == 1) == ((k : Int) == 0))) = false → decide ((k : Int) > 0) = !true → badAt l a 0 (a + k) = false := fun q1 q2 q3 => by
      have hk0 : k = 0 := by have := of_decide_eq_false q3; omega
      exact badAt_no (by rwa [Bool.not_eq_false'] at q1) ((begTf q2).trans ⟨fun h => by omega, fun h => by omega⟩) (by rw [hk0]; rfl) (Nat.not_lt_zero _)
    have hd := (sec l (a + k) |>.getD 11 0).toNat_lt
    have hw : IntKind.i64.wrap (12 + IntKind.i64.wrap ((((l.getD (a + k) tB.dflt).getD (Int.toNat 11) (Ty.dflt .u8)).toNat : Nat) : Int)) = ((12 + lnS (sec l (a + k)) : Nat) : Int) := by
      show IntKind.i64.wrap (12 + IntKind.i64.wrap ((lnS (sec l (a + k)) : Nat) : Int)) = _
      unfold lnS
      rw [i64w (n := (((sec l (a + k)).getD 11 0).toNat : Int)) (by omega) (by omega), i64w (by omega) (by omega)]
      omega
    have hcut : cutL (l.getD (a + k) tB.dflt) (some 12) (some (IntKind.i64.wrap (12 + IntKind.i64.wrap ((((l.getD (a + k) tB.dflt).getD (Int.toNat 11) (Ty.dflt .u8)).toNat : Nat) : Int)))) = dataS (sec l (a + k)) := by
      rw [hw]
      show (((l.getD (a + k) tB.dflt)).take (Int.toNat ((12 + lnS (sec l (a + k)) : Nat) : Int))).drop 12 = _
      rw [Int.toNat_natCast]; rfl
    have ek : IntKind.i64.wrap ((k : Int) + 1) = ((k + 1 : Nat) : Int) := by rw [i64w (by omega) (by omega)]; rfl
    repeat' (first
        | exact True.intro
        | exact rfl
        | refine And.intro rfl ?_
        | refine awc_seq ?_
        | refine awc_region ?_
        | refine awc_draw ?_
        | refine awt_a rfl rfl rfl ?_ ?_
        | refine awt_call0 rfl (h92) rfl rfl rfl rfl rfl ?_
        | refine awt_call1 rfl (h92) rfl rfl rfl rfl rfl ?_
        | refine awt_call2 rfl (h92) rfl rfl rfl rfl rfl ?_
        | refine awt_call0 rfl (h87) rfl rfl rfl rfl rfl ?_
        | refine awt_call1 rfl (h87) rfl rfl rfl rfl rfl ?_
        | refine awt_call2 rfl (h87) rfl rfl rfl rfl rfl ?_
        | refine awt_call0 rfl (h870) rfl rfl rfl rfl rfl ?_
        | refine awt_call1 rfl (h870) rfl rfl rfl rfl rfl ?_
        | refine awt_call2 rfl (h870) rfl rfl rfl rfl rfl ?_
        | refine awt_b rfl rfl rfl rfl ?_ ?_
        | refine awt_c rfl rfl rfl ?_ ?_
        | refine awt_gt rfl rfl ?_
        | refine awt_gf rfl rfl rfl ?_
        | refine awt_gu rfl rfl rfl ?_
        | (refine awt_h rfl rfl rfl ?_ ?_ <;> intro hb)
        | refine awt_nil ?_
        | refine dq (by kernel_rfl) ?_
        | refine thn_n ?_
        | refine thn_r ?_
        | refine thn_e ?_
        | refine awc_condT rfl ?_
        | refine awc_condF rfl ?_
        | (refine awc_cond rfl ?_ ?_ <;> intro hb)
        | refine awc_block ?_
        | refine blk_n ?_
        | refine blk_r ?_
        | refine blk_e ?_
        | refine blk_o rfl ?_
        | refine awc_ret ?_
        | refine awc_skip ?_
        | refine awc_label ?_
        | refine awc_exit ?_
        | refine retq_r ?_
        | refine retq_n ?_
        | exact ResIs.tv rfl
        | exact ResIs.ts rfl
        | exact ResIs.tc rfl
        | exact ResIs.tn rfl rfl
        | exact ResIs.to rfl rfl
        | apply ResIs.tagg rfl
        | exact ResIs.cv rfl trivial
        | exact ResIs.cs rfl trivial
        | exact ResIs.cn rfl trivial rfl
        | exact ResIs.co rfl trivial rfl
        | apply ResIs.cagg rfl trivial
        | exact CoeL.nil
        | apply CoeL.v
        | apply CoeL.sl
        | apply CoeL.clp
        | apply CoeL.emp rfl
        | apply CoeL.own rfl
        | apply ret_one
        | apply ret_two
        | apply ret_three
        | exact rawq_r rfl
        | apply rawq_rc rfl
        | apply ownq_rv rfl rfl)
    all_goals (try simp only [ea, Int.toNat_natCast])
    all_goals (try (first | exact ⟨by omega, by omega⟩ | (rw [hs]; decide; done) | (rw [hs]; simp only [cutOk]; decide; done) | (rw [hs0]; simp only [cutOk]; decide; done) | decide | (exfalso; have := of_decide_eq_false hb; omega)))
    all_goals (try simp only [ea, Int.toNat_natCast] at hb)
    all_goals (try (refine eqRR (hfin (badAt_of ?_)); first
      | exact .inl (by rwa [Bool.not_eq_eq_eq_not] at hb)
      | exact .inr (.inl (by have := (begT.1 hb).1 rfl; show ¬ ((kdS (sec l (a + k))).toNat % 2 = 1 ↔ _); intro z; exact this (z.trans (by omega))))
      | exact .inr (.inr (.inl (by have h : ((gnS (sec l (a + k)) : Int) != (gnS (sec l a) : Int)) = true := hb; rw [bne_iff_ne] at h; exact fun z => h (by rw [z]))))))
    · rename_i q1 q2 q3
      (try simp only [ea, Int.toNat_natCast] at q1 q2 q3)
      have hg := hgA q1 q2 hb
      have hf := (good_formP (badAt_false hg).1).1
      rw [hw, hs]
      simp only [cutOk]
      omega
    · rename_i q1 q2 q3
      (try simp only [ea, Int.toNat_natCast] at q1 q2 q3)
      have hg := hgA q1 q2 hb
      have hf := (good_formP (badAt_false hg).1).1
      have hdl := data_len (badAt_false hg).1
      refine ⟨?_, by simp⟩
      show (b.length + List.length (cutL (l.getD (a + k) tB.dflt) (some 12) (some (IntKind.i64.wrap (12 + IntKind.i64.wrap ((((l.getD (a + k) tB.dflt).getD (Int.toNat 11) (Ty.dflt .u8)).toNat : Nat) : Int)))))) * 1 ≤ _
      rw [hcut, hdl]
      omega
    · rename_i q1 q2 q3 q4
      (try simp only [ea, Int.toNat_natCast] at q1 q2 q3 q4)
      have hg := hgA q1 q2 q4
      have hb' := (endG (s := sec l (a + k))).symm.trans hb
      have hx : jRec l a 0 = some (b ++ dataS (sec l (a + k)), a + k + 1) := by rw [h3, hst, hg, hb']; rfl
      refine eqRR ?_
      show rRes l a = (b ++ cutL (l.getD (a + k) tB.dflt) (some 12) (some (IntKind.i64.wrap (12 + IntKind.i64.wrap ((((l.getD (a + k) tB.dflt).getD (Int.toNat 11) (Ty.dflt .u8)).toNat : Nat) : Int)))), IntKind.i64.wrap ((k : Int) + 1))
      rw [hcut, ek]
      unfold rRes; rw [hx]
      dsimp only
      refine congrArg _ ?_
      omega
    · rename_i q1 q2 q3 q4
      (try simp only [ea, Int.toNat_natCast] at q1 q2 q3 q4)
      have hg := hgA q1 q2 q4
      have hb' := (endG (s := sec l (a + k))).symm.trans hb
      have hdl := data_len (badAt_false hg).1
      have hf := (good_formP (badAt_false hg).1).1
      refine ⟨(k + 1, b ++ dataS (sec l (a + k))), Wk.ren [(1000, 64)] rfl ⟨rfl, rfl, rfl, eqVI ek, trivial⟩ ⟨?_, trivial⟩ rfl, ⟨by dsimp only; omega, ?_, ?_⟩, by dsimp only; omega⟩
      · show HB.own .u8 (b ++ cutL (l.getD (a + k) tB.dflt) (some 12) (some (IntKind.i64.wrap (12 + IntKind.i64.wrap ((((l.getD (a + k) tB.dflt).getD (Int.toNat 11) (Ty.dflt .u8)).toNat : Nat) : Int))))) = HB.own .u8 _
        rw [hcut]
      · show (b ++ dataS (sec l (a + k))).length ≤ 112 * (k + 1)
        rw [List.length_append, hdl]; omega
      · show jRec l a 0 = jGo l a 0 (l.length - (a + k + 1)) (a + k + 1) (b ++ dataS (sec l (a + k)))
        rw [h3, hst, hg, hb']; rfl
    · rename_i q1 q2
      (try simp only [ea, Int.toNat_natCast] at q1 q2)
      have hg := hgB q1 q2 hb
      have hf := (good_formP (badAt_false hg).1).1
      rw [hw, hs]
      simp only [cutOk]
      omega
    · rename_i q1 q2
      (try simp only [ea, Int.toNat_natCast] at q1 q2)
      have hg := hgB q1 q2 hb
      have hf := (good_formP (badAt_false hg).1).1
      have hdl := data_len (badAt_false hg).1
      refine ⟨?_, by simp⟩
      show (b.length + List.length (cutL (l.getD (a + k) tB.dflt) (some 12) (some (IntKind.i64.wrap (12 + IntKind.i64.wrap ((((l.getD (a + k) tB.dflt).getD (Int.toNat 11) (Ty.dflt .u8)).toNat : Nat) : Int)))))) * 1 ≤ _
      rw [hcut, hdl]
      omega
    · rename_i q1 q2 q3
      (try simp only [ea, Int.toNat_natCast] at q1 q2 q3)
      have hg := hgB q1 q2 q3
      have hb' := (endG (s := sec l (a + k))).symm.trans hb
      have hx : jRec l a 0 = some (b ++ dataS (sec l (a + k)), a + k + 1) := by rw [h3, hst, hg, hb']; rfl
      refine eqRR ?_
      show rRes l a = (b ++ cutL (l.getD (a + k) tB.dflt) (some 12) (some (IntKind.i64.wrap (12 + IntKind.i64.wrap ((((l.getD (a + k) tB.dflt).getD (Int.toNat 11) (Ty.dflt .u8)).toNat : Nat) : Int)))), IntKind.i64.wrap ((k : Int) + 1))
      rw [hcut, ek]
      unfold rRes; rw [hx]
      dsimp only
      refine congrArg _ ?_
      omega
    · rename_i q1 q2 q3
      (try simp only [ea, Int.toNat_natCast] at q1 q2 q3)
      have hg := hgB q1 q2 q3
      have hb' := (endG (s := sec l (a + k))).symm.trans hb
      have hdl := data_len (badAt_false hg).1
      have hf := (good_formP (badAt_false hg).1).1
      refine ⟨(k + 1, b ++ dataS (sec l (a + k))), Wk.ren [(1000, 64)] rfl ⟨rfl, rfl, rfl, eqVI ek, trivial⟩ ⟨?_, trivial⟩ rfl, ⟨by dsimp only; omega, ?_, ?_⟩, by dsimp only; omega⟩
      · show HB.own .u8 (b ++ cutL (l.getD (a + k) tB.dflt) (some 12) (some (IntKind.i64.wrap (12 + IntKind.i64.wrap ((((l.getD (a + k) tB.dflt).getD (Int.toNat 11) (Ty.dflt .u8)).toNat : Nat) : Int))))) = HB.own .u8 _
        rw [hcut]
      · show (b ++ dataS (sec l (a + k))).length ≤ 112 * (k + 1)
        rw [List.length_append, hdl]; omega
      · show jRec l a 0 = jGo l a 0 (l.length - (a + k + 1)) (a + k + 1) (b ++ dataS (sec l (a + k)))
        rw [h3, hst, hg, hb']; rfl
  · skip
    repeat' (first
        | exact True.intro
        | exact rfl
        | refine And.intro rfl ?_
        | refine awc_seq ?_
        | refine awc_region ?_
        | refine awc_draw ?_
        | refine awt_a rfl rfl rfl ?_ ?_
        | refine awt_b rfl rfl rfl rfl ?_ ?_
        | refine awt_c rfl rfl rfl ?_ ?_
        | refine awt_gt rfl rfl ?_
        | refine awt_gf rfl rfl rfl ?_
        | refine awt_gu rfl rfl rfl ?_
        | (refine awt_h rfl rfl rfl ?_ ?_ <;> intro hb)
        | refine awt_nil ?_
        | refine dq (by kernel_rfl) ?_
        | refine thn_n ?_
        | refine thn_r ?_
        | refine thn_e ?_
        | refine awc_condT rfl ?_
        | refine awc_condF rfl ?_
        | (refine awc_cond rfl ?_ ?_ <;> intro hb)
        | refine awc_block ?_
        | refine blk_n ?_
        | refine blk_r ?_
        | refine blk_e ?_
        | refine blk_o rfl ?_
        | refine awc_ret ?_
        | refine awc_skip ?_
        | refine awc_label ?_
        | refine awc_exit ?_
        | refine retq_r ?_
        | refine retq_n ?_
        | exact ResIs.tv rfl
        | exact ResIs.ts rfl
        | exact ResIs.tc rfl
        | exact ResIs.tn rfl rfl
        | exact ResIs.to rfl rfl
        | apply ResIs.tagg rfl
        | exact ResIs.cv rfl trivial
        | exact ResIs.cs rfl trivial
        | exact ResIs.cn rfl trivial rfl
        | exact ResIs.co rfl trivial rfl
        | apply ResIs.cagg rfl trivial
        | exact CoeL.nil
        | apply CoeL.v
        | apply CoeL.sl
        | apply CoeL.clp
        | apply CoeL.emp rfl
        | apply CoeL.own rfl
        | apply ret_one
        | apply ret_two
        | apply ret_three
        | exact rawq_r rfl
        | apply rawq_rc rfl
        | apply ownq_rv rfl rfl)
    all_goals (try simp only [ea, Int.toNat_natCast] at *)
    all_goals (try (exfalso; have := of_decide_eq_true hb; omega))
    refine eqRR ?_
    have : jRec l a 0 = none := by rw [h3, jGo_end (by omega)]
    unfold rRes; rw [this]
end B
end Go.Proofs.Ytbmnhagbplkagaa
