import Derived.Test.YtbmnhagbplkagaaD6
import Derived.Test.YtbmnhagbplkagaaD8z
import Derived.Test.YtbmnhagbplkagaaP3
import Derived.Test.YtbmnhagbplkagaaC2
import Derived.Test.YtbmnhagbplkagaaBb
/- Contracts of the journal: the records on sectors, one after the other. -/
namespace Go.Proofs.Ytbmnhagbplkagaa
namespace B
open Go.RowKit
set_option maxHeartbeats 4000000
set_option maxRecDepth 100000
attribute [local irreducible] awc awT thn blk DQ retQ rawQ ownQ retOk ResIs awg thnG blkG retG itQ rndQ

theorem c67 (l : List (List UInt8)) : ACalls 67 [aBB l] (o1 (.clo 82 tBB l)) := by
  refine acalls_raw (n := 4) (t := 2) Try.func67 rfl rfl rfl rfl rfl ?_
  repeat' (first
      | (refine awc_at (id := 1) (freezeL 1 1 tBB l [.sl tB l] rfl rfl rfl trivial) ?_)
      | exact True.intro
      | exact rfl
      | refine And.intro rfl ?_
      | refine awc_seq ?_
      | refine awc_region ?_
      | refine awc_draw ?_
      | refine awt_a rfl rfl rfl ?_ ?_
      | refine awt_b rfl rfl rfl rfl ?_ ?_
      | refine awt_c rfl rfl rfl ?_ ?_
      | refine awt_gt rfl rfl ?_
      | refine awt_gf rfl rfl rfl ?_
      | refine awt_gu rfl rfl rfl ?_
      | (refine awt_h rfl rfl rfl ?_ ?_ <;> intro hb)
      | refine awt_nil ?_
      | refine dq (by kernel_rfl) ?_
      | refine thn_n ?_
      | refine thn_r ?_
      | refine thn_e ?_
      | refine awc_condT rfl ?_
      | refine awc_condF rfl ?_
      | (refine awc_cond rfl ?_ ?_ <;> intro hb)
      | refine awc_block ?_
      | refine blk_n ?_
      | refine blk_r ?_
      | refine blk_e ?_
      | refine blk_o rfl ?_
      | refine awc_ret ?_
      | refine awc_skip ?_
      | refine awc_label ?_
      | refine awc_exit ?_
      | refine retq_r ?_
      | refine retq_n ?_
      | exact ResIs.tv rfl
      | exact ResIs.ts rfl
      | exact ResIs.tc rfl
      | exact ResIs.tn rfl rfl
      | exact ResIs.to rfl rfl
      | apply ResIs.tagg rfl
      | exact ResIs.cv rfl trivial
      | exact ResIs.cs rfl trivial
      | exact ResIs.cn rfl trivial rfl
      | exact ResIs.co rfl trivial rfl
      | apply ResIs.cagg rfl trivial
      | exact CoeL.nil
      | apply CoeL.v
      | apply CoeL.sl
      | apply CoeL.clp
      | apply CoeL.emp rfl
      | apply CoeL.own rfl
      | apply ret_one
      | apply ret_two
      | apply ret_three
      | exact rawq_r rfl
      | apply rawq_rc rfl
      | apply ownq_rv rfl rfl)
def rItem (x : List UInt8 × Nat) : List AV := [o1 (vI x.2), aB x.1]
def rItems (l : List (List UInt8)) : List (List AV) := (its l 0 0).map rItem
theorem c82 (l : List (List UInt8)) (hl : ∀ s ∈ l, s.length = 128) (hn : l.length ≤ 4096) : ISpec 82 tBB l (rItems l) := by
  refine ispec (n := 77) Try.func82 rfl rfl rfl rfl ?_
  intro lb p J Jx hR hY
  have hlen : (rItems l).length = (its l 0 0).length := by simp [rItems]
  rw [hlen]
  repeat' (first
      | (refine awg_scope rfl ?_)
      | exact True.intro
      | exact rfl
      | refine And.intro rfl ?_
      | refine awg_seq ?_
      | refine awg_region rfl ?_
      | refine awg_draw rfl (fun _ => rfl) (fun _ => rfl) ?_
      | refine awt_a rfl rfl rfl ?_ ?_
      | refine awt_b rfl rfl rfl rfl ?_ ?_
      | refine awt_c rfl rfl rfl ?_ ?_
      | refine awt_gt rfl rfl ?_
      | refine awt_gf rfl rfl rfl ?_
      | refine awt_gu rfl rfl rfl ?_
      | (refine awt_h rfl rfl rfl ?_ ?_ <;> intro hb)
      | refine awt_nil ?_
      | refine dq (by kernel_rfl) ?_
      | refine thnG_n ?_
      | refine thnG_r ?_
      | refine thnG_e ?_
      | refine awg_condT rfl ?_
      | refine awg_condF rfl ?_
      | (refine awg_cond rfl ?_ ?_ <;> intro hb)
      | refine awg_block ?_
      | refine blkG_n ?_
      | refine blkG_r ?_
      | refine blkG_e ?_
      | refine blkG_o rfl ?_
      | refine awg_ret ?_
      | refine awg_skip ?_
      | refine awg_label ?_
      | refine awg_exit ?_
      | refine retg_0 ?_
      | refine retg_1 rfl ?_
      | exact ResIs.tv rfl
      | exact ResIs.ts rfl
      | exact ResIs.tc rfl
      | exact ResIs.tn rfl rfl
      | exact ResIs.to rfl rfl
      | apply ResIs.tagg rfl
      | exact ResIs.cv rfl trivial
      | exact ResIs.cs rfl trivial
      | exact ResIs.cn rfl trivial rfl
      | exact ResIs.co rfl trivial rfl
      | apply ResIs.cagg rfl trivial
      | exact CoeL.nil
      | apply CoeL.v
      | apply CoeL.sl
      | apply CoeL.clp
      | apply CoeL.emp rfl
      | apply CoeL.own rfl
      | apply ret_one
      | apply ret_two
      | apply ret_three
      | exact rawq_r rfl
      | apply rawq_rc rfl
      | apply ownq_rv rfl rfl)
  refine awg_loop (α := Nat × Nat × Nat) (fun i => ⟨77, [(0, o1 (.v (.func (.yield lb) #[] #[]))), (1, o1 (.elv p tBB l)), (3, o1 (vI i.2.1)), (4, o1 (.v (.int .u64 i.2.2)))], []⟩) (fun i => i.1) (fun i => i.2.1 ≤ l.length ∧ i.2.2 < 4294967296 ∧ i.1 ≤ (its l 0 0).length ∧ (its l 0 0).drop i.1 = its l i.2.1 i.2.2) (fun i => l.length + 1 - i.2.1) (0, 0, 0) (Wk.ren [] rfl ⟨rfl, rfl, rfl, rfl, trivial⟩ trivial rfl) rfl ⟨Nat.zero_le _, by decide, Nat.zero_le _, rfl⟩ ?_
  rintro ⟨k, a, last⟩ ⟨ha, hlast, hk, hdrop⟩
  dsimp only at ha hlast hk hdrop ⊢
  repeat' (first
      | exact True.intro
      | exact rfl
      | refine And.intro rfl ?_
      | refine awg_seq ?_
      | refine awg_region rfl ?_
      | refine awg_draw rfl (fun _ => rfl) (fun _ => rfl) ?_
      | refine awt_a rfl rfl rfl ?_ ?_
      | refine awt_b rfl rfl rfl rfl ?_ ?_
      | refine awt_c rfl rfl rfl ?_ ?_
      | refine awt_gt rfl rfl ?_
      | refine awt_gf rfl rfl rfl ?_
      | refine awt_gu rfl rfl rfl ?_
      | (refine awt_h rfl rfl rfl ?_ ?_ <;> intro hb)
      | refine awt_nil ?_
      | refine dq (by kernel_rfl) ?_
      | refine thnG_n ?_
      | refine thnG_r ?_
      | refine thnG_e ?_
      | refine awg_condT rfl ?_
      | refine awg_condF rfl ?_
      | (refine awg_cond rfl ?_ ?_ <;> intro hb)
      | refine awg_block ?_
      | refine blkG_n ?_
      | refine blkG_r ?_
      | refine blkG_e ?_
      | refine blkG_o rfl ?_
      | refine awg_ret ?_
      | refine awg_skip ?_
      | refine awg_label ?_
      | refine awg_exit ?_
      | refine retg_0 ?_
      | refine retg_1 rfl ?_
      | exact ResIs.tv rfl
      | exact ResIs.ts rfl
      | exact ResIs.tc rfl
      | exact ResIs.tn rfl rfl
      | exact ResIs.to rfl rfl
      | apply ResIs.tagg rfl
      | exact ResIs.cv rfl trivial
      | exact ResIs.cs rfl trivial
      | exact ResIs.cn rfl trivial rfl
      | exact ResIs.co rfl trivial rfl
      | apply ResIs.cagg rfl trivial
      | exact CoeL.nil
      | apply CoeL.v
      | apply CoeL.sl
      | apply CoeL.clp
      | apply CoeL.emp rfl
      | apply CoeL.own rfl
      | apply ret_one
      | apply ret_two
      | apply ret_three
      | exact rawq_r rfl
      | apply rawq_rc rfl
      | apply ownq_rv rfl rfl)
  refine awg_loop (α := Nat × List UInt8) (fun i => ⟨77, [(0, o1 (.v (.func (.yield lb) #[] #[]))), (1, o1 (.elv p tBB l)), (3, o1 (vI a)), (4, o1 (.v (.int .u64 last))), (5, o1 (.own 1000)), (6, o1 (vI i.1))], [(1000, .own .u8 i.2)]⟩) (fun _ => k) (fun i => a ≤ i.1 ∧ i.1 ≤ l.length ∧ i.2.length ≤ 112 * i.1 ∧ jRec l a last = jGo l a last (l.length - i.1) i.1 i.2) (fun i => l.length - i.1) (a, []) (Wk.trans (own0L 5 1000 .u8 rfl rfl) (Wk.ren [] rfl ⟨rfl, rfl, rfl, rfl, rfl, rfl, trivial⟩ ⟨rfl, trivial⟩ rfl)) rfl ⟨Nat.le_refl _, ha, Nat.zero_le _, rfl⟩ ?_
  rintro ⟨n, b⟩ ⟨h0, h1, h2, h3⟩
  dsimp only at h0 h1 h2 h3 ⊢
  by_cases hlt : n < l.length
  · have hs : (l.getD n tB.dflt).length = 128 := hl _ (getD_mem _ hlt)
    have hs0 : (l.getD a tB.dflt).length = 128 := hl _ (getD_mem _ (by omega))
    have h83 : ACalls 83 [aB (l.getD (Int.toNat (n : Int)) tB.dflt), o1 (vI n)] (o1 (vB (goodS (sec l n) n))) := c83 _ _ hs (by omega)
    have h68 := c68 ((l.getD (Int.toNat (n : Int)) tB.dflt).take (Int.toNat 4)) (tk4 _)
    have h680 := c68 ((l.getD (Int.toNat (a : Int)) tB.dflt).take (Int.toNat 4)) (tk4 _)
    have hst := jGo_step (a := a) (last := last) (b := b) hlt
    have hnil : jRec l a last = none → k = (its l 0 0).length := fun h4 => by
      rw [its_none h4] at hdrop
      have := congrArg List.length hdrop
      rw [List.length_drop, List.length_nil] at this
      omega
    have hfin : badAt l a last n = true → k = (its l 0 0).length := fun h => by
      rw [h] at hst
      exact hnil (by rw [h3, hst]; rfl)
    have hgood : (!goodS (sec l n) n) = false → (!((((((kdS (sec l n)).toNat % 2 : Nat) : Int)) != 0) == ((n : Int) == (a : Int)))) = false → ((gnS (sec l n) : Int) != (gnS (sec l a) : Int)) = false → decide ((gnS (sec l n) : Int) < (last : Int)) = false → badAt l a last n = false := fun q1 q2 q3 q4 =>
      badAt_no (by rwa [Bool.not_eq_false'] at q1) (by have := begR.1 q2; simpa using this) (by rw [bne_eq_false_iff_eq] at q3; omega) (by have := of_decide_eq_false q4; omega)
    have hd := (sec l n |>.getD 11 0).toNat_lt
    have hw : IntKind.i64.wrap (12 + IntKind.i64.wrap ((((l.getD (Int.toNat (n : Int)) tB.dflt).getD (Int.toNat 11) (Ty.dflt .u8)).toNat : Nat) : Int)) = ((12 + lnS (sec l n) : Nat) : Int) := by
      rw [Int.toNat_natCast]
      show IntKind.i64.wrap (12 + IntKind.i64.wrap ((lnS (sec l n) : Nat) : Int)) = _
      unfold lnS
      rw [i64w (n := (((sec l n).getD 11 0).toNat : Int)) (by omega) (by omega), i64w (by omega) (by omega)]
      omega
    have hcut : cutL (l.getD (Int.toNat (n : Int)) tB.dflt) (some 12) (some (IntKind.i64.wrap (12 + IntKind.i64.wrap ((((l.getD (Int.toNat (n : Int)) tB.dflt).getD (Int.toNat 11) (Ty.dflt .u8)).toNat : Nat) : Int)))) = dataS (sec l n) := by
      rw [hw]
      show (((l.getD (Int.toNat (n : Int)) tB.dflt)).take (Int.toNat ((12 + lnS (sec l n) : Nat) : Int))).drop 12 = _
      rw [Int.toNat_natCast, Int.toNat_natCast]; rfl
    repeat' (first
        | (refine awg_yield (l1 := [_, _, _]) (its := rItem (b ++ dataS (sec l n), n + 1)) hlen hR hY [(0, o1 (.v (.func (.yield lb) #[] #[]))), (3, o1 (vI (IntKind.i64.wrap ((n : Int) + 1)))), (4, o1 (.v (.int .u64 (num ((l.getD (Int.toNat (n : Int)) tB.dflt).take (Int.toNat 4))))))] ?_ ?_)
        | (refine ⟨rfl, ?_, rfl, rfl, ⟨rfl, rfl, rfl, rfl, rfl, rfl, trivial⟩, rfl, rfl, ?_, ?_⟩)
        | exact True.intro
        | exact rfl
        | refine And.intro rfl ?_
        | refine awg_seq ?_
        | refine awg_region rfl ?_
        | refine awg_draw rfl (fun _ => rfl) (fun _ => rfl) ?_
        | refine awt_a rfl rfl rfl ?_ ?_
        | refine awt_call0 rfl (h83) rfl rfl rfl rfl rfl ?_
        | refine awt_call1 rfl (h83) rfl rfl rfl rfl rfl ?_
        | refine awt_call2 rfl (h83) rfl rfl rfl rfl rfl ?_
        | refine awt_call0 rfl (h68) rfl rfl rfl rfl rfl ?_
        | refine awt_call1 rfl (h68) rfl rfl rfl rfl rfl ?_
        | refine awt_call2 rfl (h68) rfl rfl rfl rfl rfl ?_
        | refine awt_call0 rfl (h680) rfl rfl rfl rfl rfl ?_
        | refine awt_call1 rfl (h680) rfl rfl rfl rfl rfl ?_
        | refine awt_call2 rfl (h680) rfl rfl rfl rfl rfl ?_
        | refine awt_b rfl rfl rfl rfl ?_ ?_
        | refine awt_c rfl rfl rfl ?_ ?_
        | refine awt_gt rfl rfl ?_
        | refine awt_gf rfl rfl rfl ?_
        | refine awt_gu rfl rfl rfl ?_
        | (refine awt_h rfl rfl rfl ?_ ?_ <;> intro hb)
        | refine awt_nil ?_
        | refine dq (by kernel_rfl) ?_
        | refine thnG_n ?_
        | refine thnG_r ?_
        | refine thnG_e ?_
        | refine awg_condT rfl ?_
        | refine awg_condF rfl ?_
        | (refine awg_cond rfl ?_ ?_ <;> intro hb)
        | refine awg_block ?_
        | refine blkG_n ?_
        | refine blkG_r ?_
        | refine blkG_e ?_
        | refine blkG_o rfl ?_
        | refine awg_ret ?_
        | refine awg_skip ?_
        | refine awg_label ?_
        | refine awg_exit ?_
        | refine retg_0 ?_
        | refine retg_1 rfl ?_
        | exact ResIs.tv rfl
        | exact ResIs.ts rfl
        | exact ResIs.tc rfl
        | exact ResIs.tn rfl rfl
        | exact ResIs.to rfl rfl
        | apply ResIs.tagg rfl
        | exact ResIs.cv rfl trivial
        | exact ResIs.cs rfl trivial
        | exact ResIs.cn rfl trivial rfl
        | exact ResIs.co rfl trivial rfl
        | apply ResIs.cagg rfl trivial
        | exact CoeL.nil
        | apply CoeL.v
        | apply CoeL.sl
        | apply CoeL.clp
        | apply CoeL.emp rfl
        | apply CoeL.own rfl
        | apply ret_one
        | apply ret_two
        | apply ret_three
        | exact rawq_r rfl
        | apply rawq_rc rfl
        | apply ownq_rv rfl rfl)
    all_goals (try (first | exact ⟨by omega, by omega⟩ | (rw [Int.toNat_natCast, hs]; decide; done) | (rw [Int.toNat_natCast, hs]; simp only [cutOk]; decide; done) | (rw [Int.toNat_natCast, hs0]; simp only [cutOk]; decide; done) | exact itq_s | (exfalso; have := of_decide_eq_false hb; omega)))
    all_goals (try (refine itq_r (hfin (badAt_of ?_)); first
      | exact .inl (by rwa [Bool.not_eq_eq_eq_not] at hb)
      | exact .inr (.inl (by rw [and1] at hb; exact (begR.1 hb).1 rfl))
      | exact .inr (.inr (.inl (by have h : ((gnS (sec l n) : Int) != (gnS (sec l a) : Int)) = true := hb; rw [bne_iff_ne] at h; exact fun z => h (by rw [z]))))
      | exact .inr (.inr (.inr (by have h : decide ((gnS (sec l n) : Int) < (last : Int)) = true := hb; have := of_decide_eq_true h; omega)))))
    · rename_i q1 q2 q3
      rw [and1] at q2
      have hg := hgood q1 q2 q3 hb
      have hf := (good_formP (badAt_false hg).1).1
      rw [hw, Int.toNat_natCast, hs]
      simp only [cutOk]
      omega
    · rename_i q1 q2 q3
      rw [and1] at q2
      have hg := hgood q1 q2 q3 hb
      have hf := (good_formP (badAt_false hg).1).1
      have hdl := data_len (badAt_false hg).1
      refine ⟨?_, by simp⟩
      show (b.length + List.length (cutL (l.getD (Int.toNat (n : Int)) tB.dflt) (some 12) (some (IntKind.i64.wrap (12 + IntKind.i64.wrap ((((l.getD (Int.toNat (n : Int)) tB.dflt).getD (Int.toNat 11) (Ty.dflt .u8)).toNat : Nat) : Int)))))) * 1 ≤ _
      rw [hcut, hdl]
      omega
    all_goals (rename_i q1 q2 q3 q4; rw [and1] at q2; have hg := hgood q1 q2 q3 q4; rw [and2] at hb; have hb' := (endR (badAt_false hg).1).symm.trans hb)
    · have hx : jRec l a last = some (b ++ dataS (sec l n), n + 1) := by rw [h3, hst, hg, hb']; rfl
      rw [its_some hx] at hdrop
      have h0 : (its l 0 0)[k]? = some (b ++ dataS (sec l n), n + 1) := by
        have := congrArg (fun z => z[0]?) hdrop
        simpa using this
      unfold rItems
      rw [List.getElem?_map, h0]; rfl
    · show [o1 (vI (IntKind.i64.wrap ((n : Int) + 1))), o1 (.sl .u8 (b ++ cutL (l.getD (Int.toNat (n : Int)) tB.dflt) (some 12) (some (IntKind.i64.wrap (12 + IntKind.i64.wrap ((((l.getD (Int.toNat (n : Int)) tB.dflt).getD (Int.toNat 11) (Ty.dflt .u8)).toNat : Nat) : Int))))))] = _
      rw [hcut, i64w (by omega) (by omega)]
      rfl
    · have hx : jRec l a last = some (b ++ dataS (sec l n), n + 1) := by rw [h3, hst, hg, hb']; rfl
      rw [its_some hx] at hdrop
      refine ⟨(k + 1, n + 1, gnS (sec l n)), Wk.ren [] rfl ⟨rfl, rfl, eqVI (by rw [i64w (by omega) (by omega)]; rfl), rfl, trivial⟩ trivial rfl, rfl, ⟨hlt, gn_lt _, ?_, ?_⟩, by dsimp only; omega⟩
      · have := congrArg List.length hdrop
        rw [List.length_drop, List.length_cons] at this
        dsimp only; omega
      · show (its l 0 0).drop (k + 1) = its l (n + 1) (gnS (sec l n))
        rw [(badAt_false hg).2.2.1, ← List.drop_drop, hdrop]; rfl
    · have hdl := data_len (badAt_false hg).1
      have hf := (good_formP (badAt_false hg).1).1
      refine ⟨(n + 1, b ++ dataS (sec l n)), Wk.ren [(1000, 61)] rfl ⟨rfl, rfl, rfl, rfl, rfl, eqVI (by rw [i64w (by omega) (by omega)]; rfl), trivial⟩ ⟨?_, trivial⟩ rfl, rfl, ⟨by dsimp only; omega, hlt, ?_, ?_⟩, by dsimp only; omega⟩
      · show HB.own .u8 (b ++ cutL (l.getD (Int.toNat (n : Int)) tB.dflt) (some 12) (some (IntKind.i64.wrap (12 + IntKind.i64.wrap ((((l.getD (Int.toNat (n : Int)) tB.dflt).getD (Int.toNat 11) (Ty.dflt .u8)).toNat : Nat) : Int))))) = HB.own .u8 _
        rw [hcut]
      · show (b ++ dataS (sec l n)).length ≤ 112 * (n + 1)
        rw [List.length_append, hdl]; omega
      · show jRec l a last = jGo l a last (l.length - (n + 1)) (n + 1) (b ++ dataS (sec l n))
        rw [h3, hst, hg, hb']; rfl
  · skip
    repeat' (first
        | exact True.intro
        | exact rfl
        | refine And.intro rfl ?_
        | refine awg_seq ?_
        | refine awg_region rfl ?_
        | refine awg_draw rfl (fun _ => rfl) (fun _ => rfl) ?_
        | refine awt_a rfl rfl rfl ?_ ?_
        | refine awt_b rfl rfl rfl rfl ?_ ?_
        | refine awt_c rfl rfl rfl ?_ ?_
        | refine awt_gt rfl rfl ?_
        | refine awt_gf rfl rfl rfl ?_
        | refine awt_gu rfl rfl rfl ?_
        | (refine awt_h rfl rfl rfl ?_ ?_ <;> intro hb)
        | refine awt_nil ?_
        | refine dq (by kernel_rfl) ?_
        | refine thnG_n ?_
        | refine thnG_r ?_
        | refine thnG_e ?_
        | refine awg_condT rfl ?_
        | refine awg_condF rfl ?_
        | (refine awg_cond rfl ?_ ?_ <;> intro hb)
        | refine awg_block ?_
        | refine blkG_n ?_
        | refine blkG_r ?_
        | refine blkG_e ?_
        | refine blkG_o rfl ?_
        | refine awg_ret ?_
        | refine awg_skip ?_
        | refine awg_label ?_
        | refine awg_exit ?_
        | refine retg_0 ?_
        | refine retg_1 rfl ?_
        | exact ResIs.tv rfl
        | exact ResIs.ts rfl
        | exact ResIs.tc rfl
        | exact ResIs.tn rfl rfl
        | exact ResIs.to rfl rfl
        | apply ResIs.tagg rfl
        | exact ResIs.cv rfl trivial
        | exact ResIs.cs rfl trivial
        | exact ResIs.cn rfl trivial rfl
        | exact ResIs.co rfl trivial rfl
        | apply ResIs.cagg rfl trivial
        | exact CoeL.nil
        | apply CoeL.v
        | apply CoeL.sl
        | apply CoeL.clp
        | apply CoeL.emp rfl
        | apply CoeL.own rfl
        | apply ret_one
        | apply ret_two
        | apply ret_three
        | exact rawq_r rfl
        | apply rawq_rc rfl
        | apply ownq_rv rfl rfl)
    all_goals (try (exfalso; have := of_decide_eq_true hb; omega))
    refine itq_r ?_
    have h4 : jRec l a last = none := by rw [h3, jGo_end (by omega)]
    rw [its_none h4] at hdrop
    have := congrArg List.length hdrop
    rw [List.length_drop, List.length_nil] at this
    omega
end B
end Go.Proofs.Ytbmnhagbplkagaa
