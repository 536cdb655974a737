import Derived.Test.YtbmnhagbplkagaaCd
/- The law DiskHistory answers true at every script and number. -/
namespace Go.Proofs.Ytbmnhagbplkagaa
namespace B
open Go.RowKit
set_option maxHeartbeats 4000000
set_option maxRecDepth 100000
attribute [local irreducible] awc awT thn blk DQ retQ rawQ ownQ retOk ResIs

abbrev z4 : List UInt8 := [0, 0, 0, 0]
/-- The state between two steps: the bytes of the sectors' halves, what waits, what may still be done. -/
def hS (s : List ActT) (i : Nat) (f : List UInt8) (ws : List ActT) (room : Nat) : St :=
  ⟨163, [(0, o1 (.sl tAct s)), (5, o1 (.ptr 5 0)), (8, o1 (.ptr 8 0)), (9, o1 (.ptr 9 0)), (10, o1 (.ptr 10 0)), (11, o1 (.own 1000)), (12, o1 (vI room)), (13, o1 (vI i))],
    [(5, .box [.sl tB (sec f f), .sl tW (ws.map wr), vI room, vB false]), (8, .arr (foldF f ws)), (9, .arr f), (10, .arr f), (1000, .own tAct ws)]⟩
theorem tmod4 (c : UInt8) : IntKind.i64.wrap ((c.toNat : Int).tmod 4) = ((c.toNat % 4 : Nat) : Int) := by
  have h : (c.toNat : Int).tmod 4 = ((c.toNat % 4 : Nat) : Int) := by
    rw [Int.tmod_eq_emod_of_nonneg (by omega)]; omega
  rw [h, i64w (by omega) (by omega)]
theorem set4 (f : List UInt8) (a : ActT) : f.set (0 + ((a.2.1.toNat : Int).tmod 4).toNat) (UInt8.ofNat (Int.toNat (a.2.2.toNat : Int))) = stF f a := by
  unfold stF
  rw [u8_back, show 0 + ((a.2.1.toNat : Int).tmod 4).toNat = a.2.1.toNat % 4 by rw [Int.tmod_eq_emod_of_nonneg (by omega)]; omega]
theorem actEq (a : ActT) : ((a.1, UInt8.ofNat (Int.toNat (a.2.1.toNat : Int)), UInt8.ofNat (Int.toNat (a.2.2.toNat : Int))) : ActT) = a := by
  rw [u8_back, u8_back]
theorem foldF_take (f : List UInt8) {ws : List ActT} {k : Nat} (hk : k < ws.length) : foldF f (ws.take (k + 1)) = stF (foldF f (ws.take k)) (ws.getD k tAct.dflt) := by
  rw [take_snoc tAct.dflt hk, foldF_snoc]
theorem c8 (s : List ActT) (c : UInt8) : ACalls 8 [o1 (.sl tAct s), aY c] (o1 (vB true)) := by
  refine acalls (n := 163) (rs := [.tmp 4]) (Ts := [4]) Try.func8 rfl rfl rfl rfl rfl rfl ?_
  have hcc := u8_rng c
  have hN : dNew 4 = (⟨sec z4 z4, [], -1, false⟩, 0) := rfl
  have hT : dStop ⟨sec z4 z4, [], -1, false⟩ (IntKind.i64.wrap (c.toNat : Int)) = (hD z4 [] (c.toNat : Int), 0) := by
    rw [u8_i64]
    unfold dStop
    rw [show (⟨sec z4 z4, [], -1, false⟩ : Dk).bad = false from rfl, show (decide ((c.toNat : Int) < 0) || decide ((c.toNat : Int) > 65536)) = false by simp; omega]
    rfl
  by_cases hs : (s.length : Int) > 40
  · skip
    repeat' (first
        | exact True.intro
        | exact rfl
        | refine And.intro rfl ?_
        | refine awc_seq ?_
        | refine awc_region ?_
        | refine awc_draw ?_
        | refine awt_a rfl rfl rfl ?_ ?_
        | refine awt_call0 rfl (c17) rfl rfl rfl rfl rfl ?_
        | refine awt_call1 rfl (c17) rfl rfl rfl rfl rfl ?_
        | refine awt_call2 rfl (c17) rfl rfl rfl rfl rfl ?_
        | refine awt_b rfl rfl rfl rfl ?_ ?_
        | refine awt_c rfl rfl rfl ?_ ?_
        | refine awt_gt rfl rfl ?_
        | refine awt_gf rfl rfl rfl ?_
        | (refine awt_h rfl rfl rfl ?_ ?_ <;> intro hb)
        | refine awt_nil ?_
        | refine dq (by kernel_rfl) ?_
        | refine thn_n ?_
        | refine thn_r ?_
        | refine thn_e ?_
        | refine awc_condT rfl ?_
        | refine awc_condF rfl ?_
        | (refine awc_cond rfl ?_ ?_ <;> intro hb)
        | refine awc_block ?_
        | refine blk_n ?_
        | refine blk_r ?_
        | refine blk_e ?_
        | refine blk_o rfl ?_
        | refine awc_ret ?_
        | refine awc_skip ?_
        | refine awc_label ?_
        | refine awc_exit ?_
        | refine retq_r ?_
        | refine retq_n ?_
        | exact ResIs.tv rfl
        | exact ResIs.ts rfl
        | exact ResIs.tc rfl
        | exact ResIs.tn rfl rfl
        | exact ResIs.to rfl rfl
        | apply ResIs.tagg rfl
        | exact ResIs.cv rfl trivial
        | exact ResIs.cs rfl trivial
        | exact ResIs.cn rfl trivial rfl
        | exact ResIs.co rfl trivial rfl
        | apply ResIs.cagg rfl trivial
        | exact CoeL.nil
        | apply CoeL.v
        | apply CoeL.sl
        | apply CoeL.clp
        | apply CoeL.emp rfl
        | apply CoeL.own rfl
        | apply ret_one
        | apply ret_two
        | apply ret_three
        | exact rawq_r rfl
        | apply rawq_rc rfl
        | apply ownq_rv rfl rfl)
    all_goals (exfalso; rw [decide_eq_false_iff_not] at hb; omega)
  have hs' : s.length ≤ 40 := by omega
  have hN' := cN hN
  have hT' := cT hT
  repeat' (first
      | exact True.intro
      | exact rfl
      | refine And.intro rfl ?_
      | refine awc_seq ?_
      | refine awc_region ?_
      | refine awc_draw ?_
      | refine awt_a rfl rfl rfl ?_ ?_
      | refine awt_call0 rfl (c17) rfl rfl rfl rfl rfl ?_
      | refine awt_call1 rfl (c17) rfl rfl rfl rfl rfl ?_
      | refine awt_call2 rfl (c17) rfl rfl rfl rfl rfl ?_
      | refine awt_call0 rfl (hN') rfl rfl rfl rfl rfl ?_
      | refine awt_call1 rfl (hN') rfl rfl rfl rfl rfl ?_
      | refine awt_call2 rfl (hN') rfl rfl rfl rfl rfl ?_
      | refine awt_call0 rfl (hT') rfl rfl rfl rfl rfl ?_
      | refine awt_call1 rfl (hT') rfl rfl rfl rfl rfl ?_
      | refine awt_call2 rfl (hT') rfl rfl rfl rfl rfl ?_
      | refine awt_b rfl rfl rfl rfl ?_ ?_
      | refine awt_c rfl rfl rfl ?_ ?_
      | refine awt_gt rfl rfl ?_
      | refine awt_gf rfl rfl rfl ?_
      | (refine awt_h rfl rfl rfl ?_ ?_ <;> intro hb)
      | refine awt_nil ?_
      | refine dq (by kernel_rfl) ?_
      | refine thn_n ?_
      | refine thn_r ?_
      | refine thn_e ?_
      | refine awc_condT rfl ?_
      | refine awc_condF rfl ?_
      | (refine awc_cond rfl ?_ ?_ <;> intro hb)
      | refine awc_block ?_
      | refine blk_n ?_
      | refine blk_r ?_
      | refine blk_e ?_
      | refine blk_o rfl ?_
      | refine awc_ret ?_
      | refine awc_skip ?_
      | refine awc_label ?_
      | refine awc_exit ?_
      | refine retq_r ?_
      | refine retq_n ?_
      | exact ResIs.tv rfl
      | exact ResIs.ts rfl
      | exact ResIs.tc rfl
      | exact ResIs.tn rfl rfl
      | exact ResIs.to rfl rfl
      | apply ResIs.tagg rfl
      | exact ResIs.cv rfl trivial
      | exact ResIs.cs rfl trivial
      | exact ResIs.cn rfl trivial rfl
      | exact ResIs.co rfl trivial rfl
      | apply ResIs.cagg rfl trivial
      | exact CoeL.nil
      | apply CoeL.v
      | apply CoeL.sl
      | apply CoeL.clp
      | apply CoeL.emp rfl
      | apply CoeL.own rfl
      | apply ret_one
      | apply ret_two
      | apply ret_three
      | exact rawq_r rfl
      | apply rawq_rc rfl
      | apply ownq_rv rfl rfl)
  refine awc_wk (own0L 11 1000 tAct rfl rfl) ?_
  refine awc_loop (α := Nat × List UInt8 × List ActT × Nat) (fun x => hS s x.1 x.2.1 x.2.2.1 x.2.2.2) (fun x => x.1 ≤ s.length ∧ x.2.1.length = 4 ∧ x.2.2.1.length ≤ x.1 ∧ x.2.2.2 ≤ 255) (fun x => s.length - x.1) (0, z4, [], c.toNat) (Wk.ren [] rfl ⟨rfl, rfl, rfl, rfl, rfl, rfl, ?_, rfl, trivial⟩ ⟨rfl, rfl, rfl, rfl, rfl, trivial⟩ rfl) ⟨Nat.zero_le _, rfl, Nat.zero_le _, by show c.toNat ≤ 255; omega⟩ ?_
  · exact eqVI (u8_i64 c)
  rintro ⟨i, f, ws, room⟩ ⟨hi, hf, hws, hroom⟩
  dsimp only at hi hf hws hroom
  show awc _ _ (hS s i f ws room)
  unfold hS
  by_cases hl : i < s.length
  · have hi0 : Int.toNat (i : Int) = i := Int.toNat_natCast i
    obtain ⟨a, ha'⟩ : ∃ a, a = s.getD (Int.toNat (i : Int)) tAct.dflt := ⟨_, rfl⟩
    have hla : (foldF f ws).length = 4 := by rw [foldF_len, hf]
    have hix : (0 : Int) ≤ i ∧ (i : Int) < s.length := ⟨by omega, by omega⟩
    have hq4 : (0 : Int) ≤ (a.2.1.toNat : Int).tmod 4 ∧ (a.2.1.toNat : Int).tmod 4 < ((4 : Nat) : Int) := by
      rw [Int.tmod_eq_emod_of_nonneg (by omega)]; omega
    cases hsy : a.1 with
    | false =>
      have hw : ACalls 26 [aD (sec f f) (ws.map wr) room false, o1 (vI (IntKind.i64.wrap ((a.2.1.toNat : Int).tmod 4))), aB (dbl a.2.2)] (aRD (hD f (ws ++ [a]) room, 0)) := by
        rw [tmod4]
        exact cW (hD_write (room := (room : Int)) hf (by omega) (Int.natCast_nonneg _) (show (room : Int) ≤ 65536 by omega) a)
      have hh : ACalls 43 [aD (sec f f) ((ws ++ [a]).map wr) room false, aA ((foldF f ws).set (0 + ((a.2.1.toNat : Int).tmod 4).toNat) (UInt8.ofNat (Int.toNat (a.2.2.toNat : Int)))), aA ((foldF f ws).set (0 + ((a.2.1.toNat : Int).tmod 4).toNat) (UInt8.ofNat (Int.toNat (a.2.2.toNat : Int))))] (o1 (vB true)) := by
        rw [set4, ← foldF_snoc]
        exact c43 _ _ _ _ _ _ (by rw [foldF_len, hf]) (by rw [foldF_len, hf]) (fun k hk => hD_read (room := (room : Int)) hf (by simp; omega) (Int.natCast_nonneg _) (show (room : Int) ≤ 65536 by omega) hk)
      have hra := u8_rng a.2.1
      have hrb := u8_rng a.2.2
      have hac := actEq a
      have hstf := set4 (foldF f ws) a
      have hsn := foldF_snoc f ws a
      have hsy2 : (!a.1) = true := by rw [hsy]; rfl
      rw [ha'] at hw hh hq4 hra hrb hac hstf hsn hsy2
      clear hN hT hN' hT'
      repeat' (first
          | exact True.intro
          | exact rfl
          | refine And.intro rfl ?_
          | refine awc_seq ?_
          | refine awc_region ?_
          | refine awc_draw ?_
          | refine awt_a rfl rfl rfl ?_ ?_
          | refine awt_call0 rfl (c42 _) rfl rfl rfl rfl rfl ?_
          | refine awt_call1 rfl (c42 _) rfl rfl rfl rfl rfl ?_
          | refine awt_call2 rfl (c42 _) rfl rfl rfl rfl rfl ?_
          | refine awt_call0 rfl (hw) rfl rfl rfl rfl rfl ?_
          | refine awt_call1 rfl (hw) rfl rfl rfl rfl rfl ?_
          | refine awt_call2 rfl (hw) rfl rfl rfl rfl rfl ?_
          | refine awt_call0 rfl (hh) rfl rfl rfl rfl rfl ?_
          | refine awt_call1 rfl (hh) rfl rfl rfl rfl rfl ?_
          | refine awt_call2 rfl (hh) rfl rfl rfl rfl rfl ?_
          | refine awt_b rfl rfl rfl rfl ?_ ?_
          | refine awt_c rfl rfl rfl ?_ ?_
          | refine awt_gt rfl rfl ?_
          | refine awt_gf rfl rfl rfl ?_
          | (refine awt_h rfl rfl rfl ?_ ?_ <;> intro hb)
          | refine awt_nil ?_
          | refine dq (by kernel_rfl) ?_
          | refine thn_n ?_
          | refine thn_r ?_
          | refine thn_e ?_
          | refine awc_condT rfl ?_
          | refine awc_condF rfl ?_
          | (refine awc_cond rfl ?_ ?_ <;> intro hb)
          | refine awc_block ?_
          | refine blk_n ?_
          | refine blk_r ?_
          | refine blk_e ?_
          | refine blk_o rfl ?_
          | refine awc_ret ?_
          | refine awc_skip ?_
          | refine awc_label ?_
          | refine awc_exit ?_
          | refine retq_r ?_
          | refine retq_n ?_
          | exact ResIs.tv rfl
          | exact ResIs.ts rfl
          | exact ResIs.tc rfl
          | exact ResIs.tn rfl rfl
          | exact ResIs.to rfl rfl
          | apply ResIs.tagg rfl
          | exact ResIs.cv rfl trivial
          | exact ResIs.cs rfl trivial
          | exact ResIs.cn rfl trivial rfl
          | exact ResIs.co rfl trivial rfl
          | apply ResIs.cagg rfl trivial
          | exact CoeL.nil
          | apply CoeL.v
          | apply CoeL.sl
          | apply CoeL.clp
          | apply CoeL.emp rfl
          | apply CoeL.own rfl
          | apply ret_one
          | apply ret_two
          | apply ret_three
          | exact rawq_r rfl
          | apply rawq_rc rfl
          | apply ownq_rv rfl rfl)
      all_goals (try (exfalso; rw [hsy2] at hb; cases hb; done))
      all_goals (try (exfalso; rw [decide_eq_false_iff_not] at hb; omega))
      · exact hix
      · decide
      · decide
      · exact hq4
      · exact ⟨hrb.1, hrb.2, by rw [hla]; omega⟩
      · exact ⟨trivial, hra, hrb⟩
      · refine ⟨?_, by simp⟩
        show (ws.length + 1) * 3 ≤ _
        omega
      · rw [List.length_set]; exact hla
      · rw [List.length_set]; exact hla
      · refine ⟨(i + 1, f, ws ++ [s.getD (Int.toNat (i : Int)) tAct.dflt], room), Wk.ren [(1000, 83)] rfl ⟨rfl, rfl, rfl, rfl, rfl, rfl, rfl, ?_, trivial⟩ ⟨rfl, ?_, rfl, rfl, ?_, trivial⟩ rfl, ⟨by dsimp only; omega, hf, by simp; omega, hroom⟩, by dsimp only; omega⟩
        · refine eqVI ?_
          rw [i64w (by omega) (by omega)]; rfl
        · show HB.arr _ = HB.arr (foldF f (ws ++ [s.getD (Int.toNat (i : Int)) tAct.dflt]))
          rw [hstf, hsn]
        · show HB.own tAct (ws ++ [((s.getD (Int.toNat (i : Int)) tAct.dflt).1, UInt8.ofNat (Int.toNat ((s.getD (Int.toNat (i : Int)) tAct.dflt).2.1.toNat : Int)), UInt8.ofNat (Int.toNat ((s.getD (Int.toNat (i : Int)) tAct.dflt).2.2.toNat : Int)))]) = HB.own tAct (ws ++ [s.getD (Int.toNat (i : Int)) tAct.dflt])
          rw [hac]
    | true =>
      have hsy2 : (!a.1) = false := by rw [hsy]; rfl
      rw [ha'] at hsy2
      clear hN hT hN' hT'
      have hwl : (ws.length : Int) ≤ 40 := by omega
      by_cases hst : room < ws.length
      · have hS := cS (hD_stop (f := f) (ws := ws) hf (by omega) (show room ≤ 65536 by omega) hst)
        have hH : ACalls 43 [aD (sec (foldF f (ws.take (room + 1))) (foldF f (ws.take room))) [] (-1) false, aA (foldF f (ws.take (room + 1))), aA (foldF f (ws.take room))] (o1 (vB true)) :=
          c43 _ _ _ _ _ _ (by rw [foldF_len, hf]) (by rw [foldF_len, hf]) (fun k hk => rest_read (by rw [foldF_len, hf]) (by rw [foldF_len, hf]) hk)
        repeat' (first
            | exact True.intro
            | exact rfl
            | refine And.intro rfl ?_
            | refine awc_seq ?_
            | refine awc_region ?_
            | refine awc_draw ?_
            | refine awt_a rfl rfl rfl ?_ ?_
            | refine awt_call0 rfl (hS) rfl rfl rfl rfl rfl ?_
            | refine awt_call1 rfl (hS) rfl rfl rfl rfl rfl ?_
            | refine awt_call2 rfl (hS) rfl rfl rfl rfl rfl ?_
            | refine awt_call0 rfl (hH) rfl rfl rfl rfl rfl ?_
            | refine awt_call1 rfl (hH) rfl rfl rfl rfl rfl ?_
            | refine awt_call2 rfl (hH) rfl rfl rfl rfl rfl ?_
            | refine awt_call0 rfl (c24 _ _ _ _) rfl rfl rfl rfl rfl ?_
            | refine awt_call1 rfl (c24 _ _ _ _) rfl rfl rfl rfl rfl ?_
            | refine awt_call2 rfl (c24 _ _ _ _) rfl rfl rfl rfl rfl ?_
            | refine awt_b rfl rfl rfl rfl ?_ ?_
            | refine awt_c rfl rfl rfl ?_ ?_
            | refine awt_gt rfl rfl ?_
            | refine awt_gf rfl rfl rfl ?_
            | (refine awt_h rfl rfl rfl ?_ ?_ <;> intro hb)
            | refine awt_nil ?_
            | refine dq (by kernel_rfl) ?_
            | refine thn_n ?_
            | refine thn_r ?_
            | refine thn_e ?_
            | refine awc_condT rfl ?_
            | refine awc_condF rfl ?_
            | (refine awc_cond rfl ?_ ?_ <;> intro hb)
            | refine awc_block ?_
            | refine blk_n ?_
            | refine blk_r ?_
            | refine blk_e ?_
            | refine blk_o rfl ?_
            | refine awc_ret ?_
            | refine awc_skip ?_
            | refine awc_label ?_
            | refine awc_exit ?_
            | refine retq_r ?_
            | refine retq_n ?_
            | exact ResIs.tv rfl
            | exact ResIs.ts rfl
            | exact ResIs.tc rfl
            | exact ResIs.tn rfl rfl
            | exact ResIs.to rfl rfl
            | apply ResIs.tagg rfl
            | exact ResIs.cv rfl trivial
            | exact ResIs.cs rfl trivial
            | exact ResIs.cn rfl trivial rfl
            | exact ResIs.co rfl trivial rfl
            | apply ResIs.cagg rfl trivial
            | exact CoeL.nil
            | apply CoeL.v
            | apply CoeL.sl
            | apply CoeL.clp
            | apply CoeL.emp rfl
            | apply CoeL.own rfl
            | apply ret_one
            | apply ret_two
            | apply ret_three
            | exact rawq_r rfl
            | apply rawq_rc rfl
            | apply ownq_rv rfl rfl)
        all_goals (try (exfalso; rw [hsy2] at hb; cases hb; done))
        all_goals (try (exfalso; rw [decide_eq_false_iff_not] at hb; omega))
        have hix : (0 : Int) ≤ i ∧ (i : Int) < s.length := ⟨by omega, by omega⟩
        · exact hix
        refine awc_mid (α := Unit) (fun _ => ⟨163, [(0, o1 (.sl tAct s)), (5, o1 (.ptr 5 0)), (8, o1 (.ptr 8 0)), (9, o1 (.ptr 9 0)), (10, o1 (.ptr 10 0)), (11, o1 (.sl tAct ws)), (12, o1 (vI room)), (13, o1 (vI i)), (17, o1 (.ptr 17 0)), (18, o1 (vI 40)), (19, o1 (vB true))], [(5, .box [.sl tB (sec f f), .sl tW (ws.map wr), vI room, vB false]), (8, .arr (foldF f ws)), (9, .arr (foldF f (ws.take (room + 1)))), (10, .arr (foldF f (ws.take room))), (17, .box [.sl tB (sec (foldF f (ws.take (room + 1))) (foldF f (ws.take room))), .sl tW [], vI 0, vB true])]⟩) (fun _ => True) ?_ ?_
        · refine awc_loop (α := Nat) (fun k => ⟨163, [(0, o1 (.sl tAct s)), (5, o1 (.ptr 5 0)), (8, o1 (.ptr 8 0)), (9, o1 (.ptr 9 0)), (10, o1 (.ptr 10 0)), (11, o1 (.sl tAct ws)), (12, o1 (vI room)), (13, o1 (vI i)), (17, o1 (.ptr 17 0)), (18, o1 (vI 40)), (19, o1 (vB true)), (20, o1 (vI k))], [(5, .box [.sl tB (sec f f), .sl tW (ws.map wr), vI room, vB false]), (8, .arr (foldF f ws)), (9, .arr (foldF f (ws.take k))), (10, .arr (foldF f (ws.take (min k room)))), (17, .box [.sl tB (sec (foldF f (ws.take (room + 1))) (foldF f (ws.take room))), .sl tW [], vI 0, vB true])]⟩) (fun k => k ≤ ws.length ∧ k ≤ room + 1) (fun k => ws.length - k) 0 (Wk.trans (Wk.sl 11 58 (.own 1000) rfl rfl) (Wk.ren [] rfl ⟨rfl, rfl, rfl, rfl, rfl, rfl, rfl, rfl, rfl, rfl, ?_, rfl, trivial⟩ ⟨rfl, rfl, rfl, ?_, rfl, trivial⟩ rfl)) ⟨Nat.zero_le _, Nat.zero_le _⟩ ?_
          · refine eqVB ?_
            simp; omega
          · show HB.arr f = HB.arr (foldF f (ws.take (min 0 room)))
            rw [Nat.zero_min]; rfl
          rintro k ⟨hk1, hk2⟩
          have hl1 : (foldF f (ws.take k)).length = 4 := by rw [foldF_len, hf]
          have hl2 : (foldF f (ws.take (min k room))).length = 4 := by rw [foldF_len, hf]
          by_cases hkl : k < ws.length
          · have hq4 : (0 : Int) ≤ ((ws.getD (Int.toNat (k : Int)) tAct.dflt).2.1.toNat : Int).tmod 4 ∧ ((ws.getD (Int.toNat (k : Int)) tAct.dflt).2.1.toNat : Int).tmod 4 < ((4 : Nat) : Int) := by
              rw [Int.tmod_eq_emod_of_nonneg (by omega)]; omega
            have hrb := u8_rng (ws.getD (Int.toNat (k : Int)) tAct.dflt).2.2
            have hk0 : (0 : Int) ≤ k ∧ (k : Int) < ws.length := ⟨by omega, by omega⟩
            have hkn : Int.toNat (k : Int) = k := Int.toNat_natCast k
            have hs1 := set4 (foldF f (ws.take k)) (ws.getD (Int.toNat (k : Int)) tAct.dflt)
            have hs2 := set4 (foldF f (ws.take (min k room))) (ws.getD (Int.toNat (k : Int)) tAct.dflt)
            have hft := foldF_take f hkl
            repeat' (first
                | exact True.intro
                | exact rfl
                | refine And.intro rfl ?_
                | refine awc_seq ?_
                | refine awc_region ?_
                | refine awc_draw ?_
                | refine awt_a rfl rfl rfl ?_ ?_
                | refine awt_b rfl rfl rfl rfl ?_ ?_
                | refine awt_c rfl rfl rfl ?_ ?_
                | refine awt_gt rfl rfl ?_
                | refine awt_gf rfl rfl rfl ?_
                | (refine awt_h rfl rfl rfl ?_ ?_ <;> intro hb)
                | refine awt_nil ?_
                | refine dq (by kernel_rfl) ?_
                | refine thn_n ?_
                | refine thn_r ?_
                | refine thn_e ?_
                | refine awc_condT rfl ?_
                | refine awc_condF rfl ?_
                | (refine awc_cond rfl ?_ ?_ <;> intro hb)
                | refine awc_block ?_
                | refine blk_n ?_
                | refine blk_r ?_
                | refine blk_e ?_
                | refine blk_o rfl ?_
                | refine awc_ret ?_
                | refine awc_skip ?_
                | refine awc_label ?_
                | refine awc_exit ?_
                | refine retq_r ?_
                | refine retq_n ?_
                | exact ResIs.tv rfl
                | exact ResIs.ts rfl
                | exact ResIs.tc rfl
                | exact ResIs.tn rfl rfl
                | exact ResIs.to rfl rfl
                | apply ResIs.tagg rfl
                | exact ResIs.cv rfl trivial
                | exact ResIs.cs rfl trivial
                | exact ResIs.cn rfl trivial rfl
                | exact ResIs.co rfl trivial rfl
                | apply ResIs.cagg rfl trivial
                | exact CoeL.nil
                | apply CoeL.v
                | apply CoeL.sl
                | apply CoeL.clp
                | apply CoeL.emp rfl
                | apply CoeL.own rfl
                | apply ret_one
                | apply ret_two
                | apply ret_three
                | exact rawq_r rfl
                | apply rawq_rc rfl
                | apply ownq_rv rfl rfl)
            all_goals (try (exfalso; simp only [Bool.not_true, decide_eq_false_iff_not] at hb; omega))
            all_goals first
              | exact hk0
              | decide
              | exact hq4
              | exact ⟨hrb.1, hrb.2, by rw [hl1]; omega⟩
              | exact ⟨hrb.1, hrb.2, by rw [hl2]; omega⟩
              | (refine ⟨k + 1, Wk.ren [] rfl ⟨rfl, rfl, rfl, rfl, rfl, rfl, rfl, rfl, rfl, rfl, rfl, eqVI (by rw [i64w (by omega) (by omega)]; rfl), trivial⟩ ⟨rfl, rfl, ?_, ?_, rfl, trivial⟩ rfl, ⟨by omega, by simp only [decide_eq_true_eq] at *; omega⟩, by omega⟩
                 · show HB.arr _ = HB.arr (foldF f (ws.take (k + 1)))
                   rw [hs1, hft, hkn]
                 · show HB.arr _ = HB.arr (foldF f (ws.take (min (k + 1) room)))
                   rw [decide_eq_true_eq] at hb
                   rw [hs2, show min k room = k by omega, show min (k + 1) room = k + 1 by omega, hft, hkn])
              | (refine ⟨k + 1, Wk.ren [] rfl ⟨rfl, rfl, rfl, rfl, rfl, rfl, rfl, rfl, rfl, rfl, rfl, eqVI (by rw [i64w (by omega) (by omega)]; rfl), trivial⟩ ⟨rfl, rfl, ?_, ?_, rfl, trivial⟩ rfl, ⟨by omega, by simp only [decide_eq_true_eq] at *; omega⟩, by omega⟩
                 · show HB.arr _ = HB.arr (foldF f (ws.take (k + 1)))
                   rw [hs1, hft, hkn]
                 · show HB.arr _ = HB.arr (foldF f (ws.take (min (k + 1) room)))
                   rw [decide_eq_false_iff_not] at hb
                   rw [show min k room = room by omega, show min (k + 1) room = room by omega])
              | (rw [decide_eq_false_iff_not] at hb
                 refine ⟨(), Wk.ren [] rfl ⟨rfl, rfl, rfl, rfl, rfl, rfl, rfl, rfl, rfl, rfl, rfl, trivial⟩ ⟨rfl, rfl, ?_, ?_, rfl, trivial⟩ rfl, trivial⟩
                 · show HB.arr (foldF f (ws.take k)) = HB.arr (foldF f (ws.take (room + 1)))
                   rw [show k = room + 1 by omega]
                 · show HB.arr (foldF f (ws.take (min k room))) = HB.arr (foldF f (ws.take room))
                   rw [show min k room = room by omega])
          · skip
            repeat' (first
                | exact True.intro
                | exact rfl
                | refine And.intro rfl ?_
                | refine awc_seq ?_
                | refine awc_region ?_
                | refine awc_draw ?_
                | refine awt_a rfl rfl rfl ?_ ?_
                | refine awt_b rfl rfl rfl rfl ?_ ?_
                | refine awt_c rfl rfl rfl ?_ ?_
                | refine awt_gt rfl rfl ?_
                | refine awt_gf rfl rfl rfl ?_
                | (refine awt_h rfl rfl rfl ?_ ?_ <;> intro hb)
                | refine awt_nil ?_
                | refine dq (by kernel_rfl) ?_
                | refine thn_n ?_
                | refine thn_r ?_
                | refine thn_e ?_
                | refine awc_condT rfl ?_
                | refine awc_condF rfl ?_
                | (refine awc_cond rfl ?_ ?_ <;> intro hb)
                | refine awc_block ?_
                | refine blk_n ?_
                | refine blk_r ?_
                | refine blk_e ?_
                | refine blk_o rfl ?_
                | refine awc_ret ?_
                | refine awc_skip ?_
                | refine awc_label ?_
                | refine awc_exit ?_
                | refine retq_r ?_
                | refine retq_n ?_
                | exact ResIs.tv rfl
                | exact ResIs.ts rfl
                | exact ResIs.tc rfl
                | exact ResIs.tn rfl rfl
                | exact ResIs.to rfl rfl
                | apply ResIs.tagg rfl
                | exact ResIs.cv rfl trivial
                | exact ResIs.cs rfl trivial
                | exact ResIs.cn rfl trivial rfl
                | exact ResIs.co rfl trivial rfl
                | apply ResIs.cagg rfl trivial
                | exact CoeL.nil
                | apply CoeL.v
                | apply CoeL.sl
                | apply CoeL.clp
                | apply CoeL.emp rfl
                | apply CoeL.own rfl
                | apply ret_one
                | apply ret_two
                | apply ret_three
                | exact rawq_r rfl
                | apply rawq_rc rfl
                | apply ownq_rv rfl rfl)
            all_goals (try (exfalso; simp only [decide_eq_true_eq] at *; omega))
            all_goals (
              refine ⟨(), Wk.ren [] rfl ⟨rfl, rfl, rfl, rfl, rfl, rfl, rfl, rfl, rfl, rfl, rfl, trivial⟩ ⟨rfl, rfl, ?_, ?_, rfl, trivial⟩ rfl, trivial⟩
              · show HB.arr (foldF f (ws.take k)) = HB.arr (foldF f (ws.take (room + 1)))
                rw [List.take_of_length_le (show ws.length ≤ k by omega), List.take_of_length_le (show ws.length ≤ room + 1 by omega)]
              · show HB.arr (foldF f (ws.take (min k room))) = HB.arr (foldF f (ws.take room))
                by_cases q : k ≤ room
                · rw [show min k room = k by omega, List.take_of_length_le (show ws.length ≤ k by omega), List.take_of_length_le (show ws.length ≤ room by omega)]
                · rw [show min k room = room by omega])
        intro _ _
        repeat' (first
            | exact True.intro
            | exact rfl
            | refine And.intro rfl ?_
            | refine awc_seq ?_
            | refine awc_region ?_
            | refine awc_draw ?_
            | refine awt_a rfl rfl rfl ?_ ?_
            | refine awt_call0 rfl (hH) rfl rfl rfl rfl rfl ?_
            | refine awt_call1 rfl (hH) rfl rfl rfl rfl rfl ?_
            | refine awt_call2 rfl (hH) rfl rfl rfl rfl rfl ?_
            | refine awt_call0 rfl (c24 _ _ _ _) rfl rfl rfl rfl rfl ?_
            | refine awt_call1 rfl (c24 _ _ _ _) rfl rfl rfl rfl rfl ?_
            | refine awt_call2 rfl (c24 _ _ _ _) rfl rfl rfl rfl rfl ?_
            | refine awt_b rfl rfl rfl rfl ?_ ?_
            | refine awt_c rfl rfl rfl ?_ ?_
            | refine awt_gt rfl rfl ?_
            | refine awt_gf rfl rfl rfl ?_
            | (refine awt_h rfl rfl rfl ?_ ?_ <;> intro hb)
            | refine awt_nil ?_
            | refine dq (by kernel_rfl) ?_
            | refine thn_n ?_
            | refine thn_r ?_
            | refine thn_e ?_
            | refine awc_condT rfl ?_
            | refine awc_condF rfl ?_
            | (refine awc_cond rfl ?_ ?_ <;> intro hb)
            | refine awc_block ?_
            | refine blk_n ?_
            | refine blk_r ?_
            | refine blk_e ?_
            | refine blk_o rfl ?_
            | refine awc_ret ?_
            | refine awc_skip ?_
            | refine awc_label ?_
            | refine awc_exit ?_
            | refine retq_r ?_
            | refine retq_n ?_
            | exact ResIs.tv rfl
            | exact ResIs.ts rfl
            | exact ResIs.tc rfl
            | exact ResIs.tn rfl rfl
            | exact ResIs.to rfl rfl
            | apply ResIs.tagg rfl
            | exact ResIs.cv rfl trivial
            | exact ResIs.cs rfl trivial
            | exact ResIs.cn rfl trivial rfl
            | exact ResIs.co rfl trivial rfl
            | apply ResIs.cagg rfl trivial
            | exact CoeL.nil
            | apply CoeL.v
            | apply CoeL.sl
            | apply CoeL.clp
            | apply CoeL.emp rfl
            | apply CoeL.own rfl
            | apply ret_one
            | apply ret_two
            | apply ret_three
            | exact rawq_r rfl
            | apply rawq_rc rfl
            | apply ownq_rv rfl rfl)
        · rw [foldF_len, hf]
        · rw [foldF_len, hf]
      · have hS := cS (hD_go (f := f) (ws := ws) (room := (room : Int)) hf (by omega) (Int.natCast_nonneg _) (show (room : Int) ≤ 65536 by omega) (by omega))
        repeat' (first
            | exact True.intro
            | exact rfl
            | refine And.intro rfl ?_
            | refine awc_seq ?_
            | refine awc_region ?_
            | refine awc_draw ?_
            | refine awt_a rfl rfl rfl ?_ ?_
            | refine awt_call0 rfl (hS) rfl rfl rfl rfl rfl ?_
            | refine awt_call1 rfl (hS) rfl rfl rfl rfl rfl ?_
            | refine awt_call2 rfl (hS) rfl rfl rfl rfl rfl ?_
            | refine awt_b rfl rfl rfl rfl ?_ ?_
            | refine awt_c rfl rfl rfl ?_ ?_
            | refine awt_gt rfl rfl ?_
            | refine awt_gf rfl rfl rfl ?_
            | (refine awt_h rfl rfl rfl ?_ ?_ <;> intro hb)
            | refine awt_nil ?_
            | refine dq (by kernel_rfl) ?_
            | refine thn_n ?_
            | refine thn_r ?_
            | refine thn_e ?_
            | refine awc_condT rfl ?_
            | refine awc_condF rfl ?_
            | (refine awc_cond rfl ?_ ?_ <;> intro hb)
            | refine awc_block ?_
            | refine blk_n ?_
            | refine blk_r ?_
            | refine blk_e ?_
            | refine blk_o rfl ?_
            | refine awc_ret ?_
            | refine awc_skip ?_
            | refine awc_label ?_
            | refine awc_exit ?_
            | refine retq_r ?_
            | refine retq_n ?_
            | exact ResIs.tv rfl
            | exact ResIs.ts rfl
            | exact ResIs.tc rfl
            | exact ResIs.tn rfl rfl
            | exact ResIs.to rfl rfl
            | apply ResIs.tagg rfl
            | exact ResIs.cv rfl trivial
            | exact ResIs.cs rfl trivial
            | exact ResIs.cn rfl trivial rfl
            | exact ResIs.co rfl trivial rfl
            | apply ResIs.cagg rfl trivial
            | exact CoeL.nil
            | apply CoeL.v
            | apply CoeL.sl
            | apply CoeL.clp
            | apply CoeL.emp rfl
            | apply CoeL.own rfl
            | apply ret_one
            | apply ret_two
            | apply ret_three
            | exact rawq_r rfl
            | apply rawq_rc rfl
            | apply ownq_rv rfl rfl)
        all_goals (try (exfalso; rw [hsy2] at hb; cases hb; done))
        all_goals (try (exfalso; rw [decide_eq_false_iff_not] at hb; omega))
        have hix : (0 : Int) ≤ i ∧ (i : Int) < s.length := ⟨by omega, by omega⟩
        · exact hix
        refine awc_mid (α := Unit) (fun _ => ⟨163, [(0, o1 (.sl tAct s)), (5, o1 (.ptr 5 0)), (8, o1 (.ptr 8 0)), (9, o1 (.ptr 9 0)), (10, o1 (.ptr 10 0)), (11, o1 (.sl tAct ws)), (12, o1 (vI room)), (13, o1 (vI i)), (17, o1 (.ptr 17 0)), (18, o1 (vI 0)), (19, o1 (vB false))], [(5, .box [.sl tB (sec f f), .sl tW (ws.map wr), vI room, vB false]), (8, .arr (foldF f ws)), (9, .arr (foldF f (ws.take (room + 1)))), (10, .arr (foldF f (ws.take room))), (17, .box [.sl tB (sec (foldF f ws) (foldF f ws)), .sl tW [], vI ((room : Int) - ws.length), vB false])]⟩) (fun _ => True) ?_ ?_
        · refine awc_loop (α := Nat) (fun k => ⟨163, [(0, o1 (.sl tAct s)), (5, o1 (.ptr 5 0)), (8, o1 (.ptr 8 0)), (9, o1 (.ptr 9 0)), (10, o1 (.ptr 10 0)), (11, o1 (.sl tAct ws)), (12, o1 (vI room)), (13, o1 (vI i)), (17, o1 (.ptr 17 0)), (18, o1 (vI 0)), (19, o1 (vB false)), (20, o1 (vI k))], [(5, .box [.sl tB (sec f f), .sl tW (ws.map wr), vI room, vB false]), (8, .arr (foldF f ws)), (9, .arr (foldF f (ws.take k))), (10, .arr (foldF f (ws.take (min k room)))), (17, .box [.sl tB (sec (foldF f ws) (foldF f ws)), .sl tW [], vI ((room : Int) - ws.length), vB false])]⟩) (fun k => k ≤ ws.length ∧ k ≤ room + 1) (fun k => ws.length - k) 0 (Wk.trans (Wk.sl 11 58 (.own 1000) rfl rfl) (Wk.ren [] rfl ⟨rfl, rfl, rfl, rfl, rfl, rfl, rfl, rfl, rfl, rfl, ?_, rfl, trivial⟩ ⟨rfl, rfl, rfl, ?_, rfl, trivial⟩ rfl)) ⟨Nat.zero_le _, Nat.zero_le _⟩ ?_
          · refine eqVB ?_
            simp; omega
          · show HB.arr f = HB.arr (foldF f (ws.take (min 0 room)))
            rw [Nat.zero_min]; rfl
          rintro k ⟨hk1, hk2⟩
          have hl1 : (foldF f (ws.take k)).length = 4 := by rw [foldF_len, hf]
          have hl2 : (foldF f (ws.take (min k room))).length = 4 := by rw [foldF_len, hf]
          by_cases hkl : k < ws.length
          · have hq4 : (0 : Int) ≤ ((ws.getD (Int.toNat (k : Int)) tAct.dflt).2.1.toNat : Int).tmod 4 ∧ ((ws.getD (Int.toNat (k : Int)) tAct.dflt).2.1.toNat : Int).tmod 4 < ((4 : Nat) : Int) := by
              rw [Int.tmod_eq_emod_of_nonneg (by omega)]; omega
            have hrb := u8_rng (ws.getD (Int.toNat (k : Int)) tAct.dflt).2.2
            have hk0 : (0 : Int) ≤ k ∧ (k : Int) < ws.length := ⟨by omega, by omega⟩
            have hkn : Int.toNat (k : Int) = k := Int.toNat_natCast k
            have hs1 := set4 (foldF f (ws.take k)) (ws.getD (Int.toNat (k : Int)) tAct.dflt)
            have hs2 := set4 (foldF f (ws.take (min k room))) (ws.getD (Int.toNat (k : Int)) tAct.dflt)
            have hft := foldF_take f hkl
            repeat' (first
                | exact True.intro
                | exact rfl
                | refine And.intro rfl ?_
                | refine awc_seq ?_
                | refine awc_region ?_
                | refine awc_draw ?_
                | refine awt_a rfl rfl rfl ?_ ?_
                | refine awt_b rfl rfl rfl rfl ?_ ?_
                | refine awt_c rfl rfl rfl ?_ ?_
                | refine awt_gt rfl rfl ?_
                | refine awt_gf rfl rfl rfl ?_
                | (refine awt_h rfl rfl rfl ?_ ?_ <;> intro hb)
                | refine awt_nil ?_
                | refine dq (by kernel_rfl) ?_
                | refine thn_n ?_
                | refine thn_r ?_
                | refine thn_e ?_
                | refine awc_condT rfl ?_
                | refine awc_condF rfl ?_
                | (refine awc_cond rfl ?_ ?_ <;> intro hb)
                | refine awc_block ?_
                | refine blk_n ?_
                | refine blk_r ?_
                | refine blk_e ?_
                | refine blk_o rfl ?_
                | refine awc_ret ?_
                | refine awc_skip ?_
                | refine awc_label ?_
                | refine awc_exit ?_
                | refine retq_r ?_
                | refine retq_n ?_
                | exact ResIs.tv rfl
                | exact ResIs.ts rfl
                | exact ResIs.tc rfl
                | exact ResIs.tn rfl rfl
                | exact ResIs.to rfl rfl
                | apply ResIs.tagg rfl
                | exact ResIs.cv rfl trivial
                | exact ResIs.cs rfl trivial
                | exact ResIs.cn rfl trivial rfl
                | exact ResIs.co rfl trivial rfl
                | apply ResIs.cagg rfl trivial
                | exact CoeL.nil
                | apply CoeL.v
                | apply CoeL.sl
                | apply CoeL.clp
                | apply CoeL.emp rfl
                | apply CoeL.own rfl
                | apply ret_one
                | apply ret_two
                | apply ret_three
                | exact rawq_r rfl
                | apply rawq_rc rfl
                | apply ownq_rv rfl rfl)
            all_goals (try (exfalso; simp only [Bool.not_true, decide_eq_false_iff_not] at hb; omega))
            all_goals first
              | exact hk0
              | decide
              | exact hq4
              | exact ⟨hrb.1, hrb.2, by rw [hl1]; omega⟩
              | exact ⟨hrb.1, hrb.2, by rw [hl2]; omega⟩
              | (refine ⟨k + 1, Wk.ren [] rfl ⟨rfl, rfl, rfl, rfl, rfl, rfl, rfl, rfl, rfl, rfl, rfl, eqVI (by rw [i64w (by omega) (by omega)]; rfl), trivial⟩ ⟨rfl, rfl, ?_, ?_, rfl, trivial⟩ rfl, ⟨by omega, by simp only [decide_eq_true_eq] at *; omega⟩, by omega⟩
                 · show HB.arr _ = HB.arr (foldF f (ws.take (k + 1)))
                   rw [hs1, hft, hkn]
                 · show HB.arr _ = HB.arr (foldF f (ws.take (min (k + 1) room)))
                   rw [decide_eq_true_eq] at hb
                   rw [hs2, show min k room = k by omega, show min (k + 1) room = k + 1 by omega, hft, hkn])
              | (refine ⟨k + 1, Wk.ren [] rfl ⟨rfl, rfl, rfl, rfl, rfl, rfl, rfl, rfl, rfl, rfl, rfl, eqVI (by rw [i64w (by omega) (by omega)]; rfl), trivial⟩ ⟨rfl, rfl, ?_, ?_, rfl, trivial⟩ rfl, ⟨by omega, by simp only [decide_eq_true_eq] at *; omega⟩, by omega⟩
                 · show HB.arr _ = HB.arr (foldF f (ws.take (k + 1)))
                   rw [hs1, hft, hkn]
                 · show HB.arr _ = HB.arr (foldF f (ws.take (min (k + 1) room)))
                   rw [decide_eq_false_iff_not] at hb
                   rw [show min k room = room by omega, show min (k + 1) room = room by omega])
              | (rw [decide_eq_false_iff_not] at hb
                 refine ⟨(), Wk.ren [] rfl ⟨rfl, rfl, rfl, rfl, rfl, rfl, rfl, rfl, rfl, rfl, rfl, trivial⟩ ⟨rfl, rfl, ?_, ?_, rfl, trivial⟩ rfl, trivial⟩
                 · show HB.arr (foldF f (ws.take k)) = HB.arr (foldF f (ws.take (room + 1)))
                   rw [show k = room + 1 by omega]
                 · show HB.arr (foldF f (ws.take (min k room))) = HB.arr (foldF f (ws.take room))
                   rw [show min k room = room by omega])
          · skip
            repeat' (first
                | exact True.intro
                | exact rfl
                | refine And.intro rfl ?_
                | refine awc_seq ?_
                | refine awc_region ?_
                | refine awc_draw ?_
                | refine awt_a rfl rfl rfl ?_ ?_
                | refine awt_b rfl rfl rfl rfl ?_ ?_
                | refine awt_c rfl rfl rfl ?_ ?_
                | refine awt_gt rfl rfl ?_
                | refine awt_gf rfl rfl rfl ?_
                | (refine awt_h rfl rfl rfl ?_ ?_ <;> intro hb)
                | refine awt_nil ?_
                | refine dq (by kernel_rfl) ?_
                | refine thn_n ?_
                | refine thn_r ?_
                | refine thn_e ?_
                | refine awc_condT rfl ?_
                | refine awc_condF rfl ?_
                | (refine awc_cond rfl ?_ ?_ <;> intro hb)
                | refine awc_block ?_
                | refine blk_n ?_
                | refine blk_r ?_
                | refine blk_e ?_
                | refine blk_o rfl ?_
                | refine awc_ret ?_
                | refine awc_skip ?_
                | refine awc_label ?_
                | refine awc_exit ?_
                | refine retq_r ?_
                | refine retq_n ?_
                | exact ResIs.tv rfl
                | exact ResIs.ts rfl
                | exact ResIs.tc rfl
                | exact ResIs.tn rfl rfl
                | exact ResIs.to rfl rfl
                | apply ResIs.tagg rfl
                | exact ResIs.cv rfl trivial
                | exact ResIs.cs rfl trivial
                | exact ResIs.cn rfl trivial rfl
                | exact ResIs.co rfl trivial rfl
                | apply ResIs.cagg rfl trivial
                | exact CoeL.nil
                | apply CoeL.v
                | apply CoeL.sl
                | apply CoeL.clp
                | apply CoeL.emp rfl
                | apply CoeL.own rfl
                | apply ret_one
                | apply ret_two
                | apply ret_three
                | exact rawq_r rfl
                | apply rawq_rc rfl
                | apply ownq_rv rfl rfl)
            all_goals (try (exfalso; simp only [decide_eq_true_eq] at *; omega))
            all_goals (
              refine ⟨(), Wk.ren [] rfl ⟨rfl, rfl, rfl, rfl, rfl, rfl, rfl, rfl, rfl, rfl, rfl, trivial⟩ ⟨rfl, rfl, ?_, ?_, rfl, trivial⟩ rfl, trivial⟩
              · show HB.arr (foldF f (ws.take k)) = HB.arr (foldF f (ws.take (room + 1)))
                rw [List.take_of_length_le (show ws.length ≤ k by omega), List.take_of_length_le (show ws.length ≤ room + 1 by omega)]
              · show HB.arr (foldF f (ws.take (min k room))) = HB.arr (foldF f (ws.take room))
                by_cases q : k ≤ room
                · rw [show min k room = k by omega, List.take_of_length_le (show ws.length ≤ k by omega), List.take_of_length_le (show ws.length ≤ room by omega)]
                · rw [show min k room = room by omega])
        intro _ _
        have hH : ACalls 43 [aD (sec (foldF f ws) (foldF f ws)) [] ((room : Int) - ws.length) false, aA (foldF f ws), aA (foldF f ws)] (o1 (vB true)) := c43 _ _ _ _ _ _ (by rw [foldF_len, hf]) (by rw [foldF_len, hf]) (fun k hk => hD_read (f := foldF f ws) (ws := []) (room := (room : Int) - ws.length) (by rw [foldF_len, hf]) (Nat.zero_le _) (by omega) (by omega) hk)
        repeat' (first
            | exact True.intro
            | exact rfl
            | refine And.intro rfl ?_
            | refine awc_seq ?_
            | refine awc_region ?_
            | refine awc_draw ?_
            | refine awt_a rfl rfl rfl ?_ ?_
            | refine awt_call0 rfl (hH) rfl rfl rfl rfl rfl ?_
            | refine awt_call1 rfl (hH) rfl rfl rfl rfl rfl ?_
            | refine awt_call2 rfl (hH) rfl rfl rfl rfl rfl ?_
            | refine awt_b rfl rfl rfl rfl ?_ ?_
            | refine awt_c rfl rfl rfl ?_ ?_
            | refine awt_gt rfl rfl ?_
            | refine awt_gf rfl rfl rfl ?_
            | (refine awt_h rfl rfl rfl ?_ ?_ <;> intro hb)
            | refine awt_nil ?_
            | refine dq (by kernel_rfl) ?_
            | refine thn_n ?_
            | refine thn_r ?_
            | refine thn_e ?_
            | refine awc_condT rfl ?_
            | refine awc_condF rfl ?_
            | (refine awc_cond rfl ?_ ?_ <;> intro hb)
            | refine awc_block ?_
            | refine blk_n ?_
            | refine blk_r ?_
            | refine blk_e ?_
            | refine blk_o rfl ?_
            | refine awc_ret ?_
            | refine awc_skip ?_
            | refine awc_label ?_
            | refine awc_exit ?_
            | refine retq_r ?_
            | refine retq_n ?_
            | exact ResIs.tv rfl
            | exact ResIs.ts rfl
            | exact ResIs.tc rfl
            | exact ResIs.tn rfl rfl
            | exact ResIs.to rfl rfl
            | apply ResIs.tagg rfl
            | exact ResIs.cv rfl trivial
            | exact ResIs.cs rfl trivial
            | exact ResIs.cn rfl trivial rfl
            | exact ResIs.co rfl trivial rfl
            | apply ResIs.cagg rfl trivial
            | exact CoeL.nil
            | apply CoeL.v
            | apply CoeL.sl
            | apply CoeL.clp
            | apply CoeL.emp rfl
            | apply CoeL.own rfl
            | apply ret_one
            | apply ret_two
            | apply ret_three
            | exact rawq_r rfl
            | apply rawq_rc rfl
            | apply ownq_rv rfl rfl)
        · exact hla
        · exact hla
        · refine ⟨(i + 1, foldF f ws, [], room - ws.length), Wk.trans (own0L 11 2000 tAct rfl rfl) (Wk.ren [(1000, 2000)] rfl ⟨rfl, rfl, rfl, rfl, rfl, rfl, ?_, ?_, trivial⟩ ⟨?_, rfl, ?_, ?_, rfl, trivial⟩ rfl), ⟨by dsimp only; omega, hla, Nat.zero_le _, by dsimp only; omega⟩, by dsimp only; omega⟩
          · refine eqVI ?_
            rw [i64w (by omega) (by omega)]
            show (room : Int) - ws.length = ((room - ws.length : Nat) : Int)
            omega
          · refine eqVI ?_
            rw [i64w (by omega) (by omega)]; rfl
          · show HB.box [.sl tB (sec (foldF f ws) (foldF f ws)), .sl tW [], vI ((room : Int) - ws.length), vB false] = HB.box [.sl tB (sec (foldF f ws) (foldF f ws)), .sl tW [], vI ((room - ws.length : Nat) : Int), vB false]
            rw [show (room : Int) - ws.length = ((room - ws.length : Nat) : Int) by omega]
          · show HB.arr (foldF f (ws.take (room + 1))) = HB.arr (foldF f ws)
            rw [List.take_of_length_le (show ws.length ≤ room + 1 by omega)]
          · show HB.arr (foldF f (ws.take room)) = HB.arr (foldF f ws)
            rw [List.take_of_length_le (show ws.length ≤ room by omega)]
  · have hR : ACalls 43 [aD (sec f f) [] (-1) false, aA f, aA f] (o1 (vB true)) := c43 _ _ _ _ f f hf hf (fun k hk => rest_read hf hf hk)
    repeat' (first
        | exact True.intro
        | exact rfl
        | refine And.intro rfl ?_
        | refine awc_seq ?_
        | refine awc_region ?_
        | refine awc_draw ?_
        | refine awt_a rfl rfl rfl ?_ ?_
        | refine awt_call0 rfl (c24 _ _ _ _) rfl rfl rfl rfl rfl ?_
        | refine awt_call1 rfl (c24 _ _ _ _) rfl rfl rfl rfl rfl ?_
        | refine awt_call2 rfl (c24 _ _ _ _) rfl rfl rfl rfl rfl ?_
        | refine awt_call0 rfl (hR) rfl rfl rfl rfl rfl ?_
        | refine awt_call1 rfl (hR) rfl rfl rfl rfl rfl ?_
        | refine awt_call2 rfl (hR) rfl rfl rfl rfl rfl ?_
        | refine awt_b rfl rfl rfl rfl ?_ ?_
        | refine awt_c rfl rfl rfl ?_ ?_
        | refine awt_gt rfl rfl ?_
        | refine awt_gf rfl rfl rfl ?_
        | (refine awt_h rfl rfl rfl ?_ ?_ <;> intro hb)
        | refine awt_nil ?_
        | refine dq (by kernel_rfl) ?_
        | refine thn_n ?_
        | refine thn_r ?_
        | refine thn_e ?_
        | refine awc_condT rfl ?_
        | refine awc_condF rfl ?_
        | (refine awc_cond rfl ?_ ?_ <;> intro hb)
        | refine awc_block ?_
        | refine blk_n ?_
        | refine blk_r ?_
        | refine blk_e ?_
        | refine blk_o rfl ?_
        | refine awc_ret ?_
        | refine awc_skip ?_
        | refine awc_label ?_
        | refine awc_exit ?_
        | refine retq_r ?_
        | refine retq_n ?_
        | exact ResIs.tv rfl
        | exact ResIs.ts rfl
        | exact ResIs.tc rfl
        | exact ResIs.tn rfl rfl
        | exact ResIs.to rfl rfl
        | apply ResIs.tagg rfl
        | exact ResIs.cv rfl trivial
        | exact ResIs.cs rfl trivial
        | exact ResIs.cn rfl trivial rfl
        | exact ResIs.co rfl trivial rfl
        | apply ResIs.cagg rfl trivial
        | exact CoeL.nil
        | apply CoeL.v
        | apply CoeL.sl
        | apply CoeL.clp
        | apply CoeL.emp rfl
        | apply CoeL.own rfl
        | apply ret_one
        | apply ret_two
        | apply ret_three
        | exact rawq_r rfl
        | apply rawq_rc rfl
        | apply ownq_rv rfl rfl)
    all_goals first | exact hf | (exfalso; simp only [decide_eq_true_eq] at *; omega)

end B
end Go.Proofs.Ytbmnhagbplkagaa
