import Derived.Test.YtbmnhagbplkagaaD4
/- Contracts of the journal: a sector written, a sector's form. -/
namespace Go.Proofs.Ytbmnhagbplkagaa
namespace B
open Go.RowKit
set_option maxHeartbeats 4000000
set_option maxRecDepth 100000
attribute [local irreducible] awc awT thn blk DQ retQ rawQ ownQ retOk ResIs

/-- A sector from its number on, up to the second generation. -/
def bodyS (k : Nat) (kind : UInt8) (b : List UInt8) : List UInt8 := be k 2 ++ (kind :: UInt8.ofNat b.length :: (b ++ List.replicate (112 - b.length) 0))
/-- A sector. -/
def enc (g k : Nat) (kind : UInt8) (b : List UInt8) : List UInt8 := be g 4 ++ (be (crc (bodyS k kind b)) 4 ++ (bodyS k kind b ++ be g 4))
theorem body_len {k : Nat} {kind : UInt8} {b : List UInt8} (h : b.length ≤ 112) : (bodyS k kind b).length = 116 := by
  simp [bodyS, be_len]; omega
theorem enc_len {g k : Nat} {kind : UInt8} {b : List UInt8} (h : b.length ≤ 112) : (enc g k kind b).length = 128 := by
  simp [enc, be_len, body_len h]
def putG (xs : List UInt8) (N : Int) : List UInt8 := be N.toNat xs.length
theorem c84' : PCalls 84 putG := c84
attribute [local irreducible] putG be crc bodyS enc
theorem putG_len (xs : List UInt8) (N : Int) : (putG xs N).length = xs.length := by unfold putG; exact be_len _ _
theorem splice_len {X Y : List UInt8} {a m : Nat} (hY : Y.length = m) (h : a + m ≤ X.length) : (X.take a ++ Y ++ X.drop (a + m)).length = X.length := by
  simp [hY]; omega
theorem splice {A B C Y : List UInt8} {a m : Nat} (hA : A.length = a) (hB : B.length = m) : (A ++ (B ++ C)).take a ++ Y ++ (A ++ (B ++ C)).drop (a + m) = A ++ (Y ++ C) := by
  subst hA hB
  rw [List.take_left', ← List.append_assoc A B C, ← List.length_append, List.drop_left', List.append_assoc]
  · rfl
  · rfl
theorem cutmid {A B C : List UInt8} {a m : Nat} (hA : A.length = a) (hB : B.length = m) : ((A ++ (B ++ C)).drop a).take m = B := by
  subst hA hB
  rw [List.drop_left' rfl, List.take_left' rfl]
theorem put_step {U A B C : List UInt8} {a m : Nat} {N : Int} (hU : U = A ++ (B ++ C)) (hA : A.length = a) (hB : B.length = m) : List.take a U ++ putG (List.take m (List.drop a U)) N ++ List.drop (a + m) U = A ++ (be N.toNat m ++ C) := by
  subst hU
  rw [cutmid hA hB, splice hA hB]
  unfold putG
  rw [hB]
theorem set_at {A B : List UInt8} {x y : UInt8} {a : Nat} (hA : A.length = a) : (A ++ x :: B).set a y = A ++ y :: B := by
  subst hA
  rw [List.set_append_right _ _ (Nat.le_refl _), Nat.sub_self]; rfl
theorem c71 (g k : Nat) (kind : UInt8) (b : List UInt8) (hg : g < 18446744073709551616) (hk : k < 65536) (hb : b.length ≤ 112) : ACalls 71 [o1 (.v (.int .u64 g)), o1 (vI k), o1 (.v (.int .u8 (kind.toNat : Int))), aB b] (aB (enc g k kind b)) := by
  refine acalls (n := 35) (rs := [.tmp 8]) (Ts := [35]) Try.func71 rfl rfl rfl rfl rfl rfl ?_
  have hc := kind.toNat_lt
  obtain ⟨Z, hZ⟩ : ∃ Z, Z = List.replicate 128 (0 : UInt8) := ⟨_, rfl⟩
  have hZl : Z.length = 128 := by rw [hZ]; simp
  have hg0 : (0 : Int) ≤ (g : Int) := by omega
  have hg1 : (g : Int) < 18446744073709551616 := by omega
  have hkw : IntKind.u64.wrap (k : Int) = k := u64w (by omega) (by omega)
  have hk0 : (0 : Int) ≤ IntKind.u64.wrap (k : Int) := by rw [hkw]; omega
  have hk1 : IntKind.u64.wrap (k : Int) < 18446744073709551616 := by rw [hkw]; omega
  obtain ⟨Y, hY⟩ : ∃ Y : List UInt8, Y = List.take (cutLo none) Z ++ putG (List.take (cutHi Z.length (some 4) - cutLo none) (List.drop (cutLo none) Z)) g ++ List.drop (cutLo none + (cutHi Z.length (some 4) - cutLo none)) Z := ⟨_, rfl⟩
  have hYl : Y.length = 128 := by rw [hY, splice_len (by rw [putG_len, List.length_take, List.length_drop, hZl]; decide) (by rw [hZl]; decide), hZl]
  obtain ⟨X, hX⟩ : ∃ X : List UInt8, X = List.take (cutLo (some 8)) Y ++ putG (List.take (cutHi Y.length (some 10) - cutLo (some 8)) (List.drop (cutLo (some 8)) Y)) (IntKind.u64.wrap (k : Int)) ++ List.drop (cutLo (some 8) + (cutHi Y.length (some 10) - cutLo (some 8))) Y := ⟨_, rfl⟩
  have hXl : X.length = 128 := by rw [hX, splice_len (by rw [putG_len, List.length_take, List.length_drop, hYl]; decide) (by rw [hYl]; decide), hYl]
  obtain ⟨V, hV⟩ : ∃ V : List UInt8, V = (X.set (0 + Int.toNat 10) (UInt8.ofNat (Int.toNat (kind.toNat : Int)))).set (0 + Int.toNat 11) (UInt8.ofNat (Int.toNat (IntKind.u8.wrap (b.length : Int)))) := ⟨_, rfl⟩
  have hVl : V.length = 128 := by rw [hV, List.length_set, List.length_set, hXl]
  obtain ⟨U, hU⟩ : ∃ U : List UInt8, U = List.take (cutLo (some 12)) V ++ List.take (cutHi V.length none - cutLo (some 12)) b ++ List.drop (cutLo (some 12) + min b.length (cutHi V.length none - cutLo (some 12))) V := ⟨_, rfl⟩
  have hUl : U.length = 128 := by
    rw [hU, splice_len (by rw [List.length_take, Nat.min_comm]) (by rw [hVl]; show 12 + min b.length 116 ≤ 128; omega), hVl]
  obtain ⟨T, hT⟩ : ∃ T : List UInt8, T = List.take (cutLo (some 124)) U ++ putG (List.take (cutHi U.length none - cutLo (some 124)) (List.drop (cutLo (some 124)) U)) g ++ List.drop (cutLo (some 124) + (cutHi U.length none - cutLo (some 124))) U := ⟨_, rfl⟩
  have hTl : T.length = 128 := by rw [hT, splice_len (by rw [putG_len, List.length_take, List.length_drop, hUl]; decide) (by rw [hUl]; decide), hUl]
  obtain ⟨q, hq⟩ : ∃ q, q = crc (List.take (cutHi T.length (some 124) - cutLo (some 8)) (List.drop (cutLo (some 8)) T)) := ⟨_, rfl⟩
  have hq32 : q < 4294967296 := by rw [hq]; exact crc_lt _
  have hqw : IntKind.u64.wrap (q : Int) = q := u64w (by omega) (by omega)
  have hq0 : (0 : Int) ≤ IntKind.u64.wrap (q : Int) := by rw [hqw]; omega
  have hq1 : IntKind.u64.wrap (q : Int) < 18446744073709551616 := by rw [hqw]; omega
  have h85 := c85 (List.take (cutHi T.length (some 124) - cutLo (some 8)) (List.drop (cutLo (some 8)) T))
  rw [← hq] at h85
  obtain ⟨S, hS⟩ : ∃ S : List UInt8, S = List.take (cutLo (some 4)) T ++ putG (List.take (cutHi T.length (some 8) - cutLo (some 4)) (List.drop (cutLo (some 4)) T)) (IntKind.u64.wrap (q : Int)) ++ List.drop (cutLo (some 4) + (cutHi T.length (some 8) - cutLo (some 4))) T := ⟨_, rfl⟩
  have hSl : S.length = 128 := by rw [hS, splice_len (by rw [putG_len, List.length_take, List.length_drop, hTl]; decide) (by rw [hTl]; decide), hTl]
  repeat' (first
      | (refine awt_lend1 rfl h85 rfl rfl (congrArg (fun z => [AV.p (.one z)]) (if_pos (by rw [hTl]; decide))) rfl rfl rfl ?_)
      | (refine awc_at (id := 2) (s' := ⟨35, [(0, o1 (.v (.int .u64 g))), (1, o1 (vI k)), (2, o1 (.v (.int .u8 (kind.toNat : Int)))), (3, aB b), (9, o1 (.ptr 9 0))], [(9, .arr Z)]⟩) (Wk.ren [] rfl ⟨rfl, rfl, rfl, rfl, rfl, trivial⟩ ⟨congrArg HB.arr hZ.symm, trivial⟩ rfl) ?_)
      | (refine awc_at (id := 3) (s' := ⟨35, [(0, o1 (.v (.int .u64 g))), (1, o1 (vI k)), (2, o1 (.v (.int .u8 (kind.toNat : Int)))), (3, aB b), (9, o1 (.ptr 9 0))], [(9, .arr Y)]⟩) (Wk.ren [] rfl ⟨rfl, rfl, rfl, rfl, rfl, trivial⟩ ⟨congrArg HB.arr hY.symm, trivial⟩ rfl) ?_)
      | (refine awc_at (id := 4) (s' := ⟨35, [(0, o1 (.v (.int .u64 g))), (1, o1 (vI k)), (2, o1 (.v (.int .u8 (kind.toNat : Int)))), (3, aB b), (9, o1 (.ptr 9 0))], [(9, .arr X)]⟩) (Wk.ren [] rfl ⟨rfl, rfl, rfl, rfl, rfl, trivial⟩ ⟨congrArg HB.arr hX.symm, trivial⟩ rfl) ?_)
      | (refine awc_at (id := 5) (s' := ⟨35, [(0, o1 (.v (.int .u64 g))), (1, o1 (vI k)), (2, o1 (.v (.int .u8 (kind.toNat : Int)))), (3, aB b), (9, o1 (.ptr 9 0))], [(9, .arr V)]⟩) (Wk.ren [] rfl ⟨rfl, rfl, rfl, rfl, rfl, trivial⟩ ⟨congrArg HB.arr hV.symm, trivial⟩ rfl) ?_)
      | (refine awc_at (id := 6) (s' := ⟨35, [(0, o1 (.v (.int .u64 g))), (1, o1 (vI k)), (2, o1 (.v (.int .u8 (kind.toNat : Int)))), (3, aB b), (9, o1 (.ptr 9 0))], [(9, .arr U)]⟩) (Wk.ren [] rfl ⟨rfl, rfl, rfl, rfl, rfl, trivial⟩ ⟨congrArg HB.arr hU.symm, trivial⟩ rfl) ?_)
      | (refine awc_at (id := 7) (s' := ⟨35, [(0, o1 (.v (.int .u64 g))), (1, o1 (vI k)), (2, o1 (.v (.int .u8 (kind.toNat : Int)))), (3, aB b), (9, o1 (.ptr 9 0))], [(9, .arr T)]⟩) (Wk.ren [] rfl ⟨rfl, rfl, rfl, rfl, rfl, trivial⟩ ⟨congrArg HB.arr hT.symm, trivial⟩ rfl) ?_)
      | (refine awc_at (id := 8) (s' := ⟨35, [(0, o1 (.v (.int .u64 g))), (1, o1 (vI k)), (2, o1 (.v (.int .u8 (kind.toNat : Int)))), (3, aB b), (9, o1 (.ptr 9 0))], [(9, .arr S)]⟩) (Wk.ren [] rfl ⟨rfl, rfl, rfl, rfl, rfl, trivial⟩ ⟨congrArg HB.arr hS.symm, trivial⟩ rfl) ?_)
      | (refine awt_put rfl c84' rfl rfl rfl rfl (by rw [hZl]; decide) hg0 hg1 (by rw [hZl]; decide) ?_)
      | (refine awt_put rfl c84' rfl rfl rfl rfl (by rw [hYl]; decide) hk0 hk1 (by rw [hYl]; decide) ?_)
      | (refine awt_put rfl c84' rfl rfl rfl rfl (by rw [hUl]; decide) hg0 hg1 (by rw [hUl]; decide) ?_)
      | (refine awt_put rfl c84' rfl rfl rfl rfl (by rw [hTl]; decide) hq0 hq1 (by rw [hTl]; decide) ?_)
      | exact True.intro
      | exact rfl
      | refine And.intro rfl ?_
      | refine awc_seq ?_
      | refine awc_region ?_
      | refine awc_draw ?_
      | refine awt_a rfl rfl rfl ?_ ?_
      | refine awt_b rfl rfl rfl rfl ?_ ?_
      | refine awt_c rfl rfl rfl ?_ ?_
      | refine awt_gt rfl rfl ?_
      | refine awt_gf rfl rfl rfl ?_
      | refine awt_gu rfl rfl rfl ?_
      | (refine awt_h rfl rfl rfl ?_ ?_ <;> intro hb)
      | refine awt_nil ?_
      | refine dq (by kernel_rfl) ?_
      | refine thn_n ?_
      | refine thn_r ?_
      | refine thn_e ?_
      | refine awc_condT rfl ?_
      | refine awc_condF rfl ?_
      | (refine awc_cond rfl ?_ ?_ <;> intro hb)
      | refine awc_block ?_
      | refine blk_n ?_
      | refine blk_r ?_
      | refine blk_e ?_
      | refine blk_o rfl ?_
      | refine awc_ret ?_
      | refine awc_skip ?_
      | refine awc_label ?_
      | refine awc_exit ?_
      | refine retq_r ?_
      | refine retq_n ?_
      | exact ResIs.tv rfl
      | exact ResIs.ts rfl
      | exact ResIs.tc rfl
      | exact ResIs.tn rfl rfl
      | exact ResIs.to rfl rfl
      | apply ResIs.tagg rfl
      | exact ResIs.cv rfl trivial
      | exact ResIs.cs rfl trivial
      | exact ResIs.cn rfl trivial rfl
      | exact ResIs.co rfl trivial rfl
      | apply ResIs.cagg rfl trivial
      | exact CoeL.nil
      | apply CoeL.v
      | apply CoeL.sl
      | apply CoeL.clp
      | apply CoeL.emp rfl
      | apply CoeL.own rfl
      | apply ret_one
      | apply ret_two
      | apply ret_three
      | exact rawq_r rfl
      | apply rawq_rc rfl
      | apply ownq_rv rfl rfl)
  · rw [hZl]; exact ⟨rfl, by first | trivial | (simp only [cutOk]; decide), by decide⟩
  · rw [hYl]; exact ⟨rfl, by first | trivial | (simp only [cutOk]; decide), by decide⟩
  · decide
  · exact ⟨by omega, by omega, by rw [hXl]; decide⟩
  · decide
  · refine ⟨by rw [u8w (by omega) (by omega)]; omega, by rw [u8w (by omega) (by omega)]; omega, ?_⟩
    rw [List.length_set, hXl]; decide
  · rw [hVl]; exact ⟨rfl, by first | trivial | (simp only [cutOk]; decide), by decide⟩
  · exact ⟨trivial, rfl, by rw [hVl]; decide⟩
  · rw [hUl]; exact ⟨rfl, by first | trivial | (simp only [cutOk]; decide), by decide⟩
  · rw [hTl]; exact ⟨rfl, by first | trivial | (simp only [cutOk]; decide), by decide⟩
  · rw [hTl]; exact ⟨rfl, by first | trivial | (simp only [cutOk]; decide), by decide⟩
  · rw [hSl]; exact ⟨rfl, by first | trivial | (simp only [cutOk]; decide), by decide⟩
  have fin : (S.drop (cutLo none)).take (cutHi S.length none - cutLo none) = enc g k kind b := by
    show List.take (S.length - 0) (List.drop 0 S) = _
    rw [List.drop_zero, Nat.sub_zero, List.take_length]
    have l1 := be_len g 4
    have l2 := be_len k 2
    have rr : ∀ m n : Nat, List.replicate m (0 : UInt8) ++ List.replicate n 0 = List.replicate (m + n) 0 := fun m n => List.replicate_append_replicate
    have rl : ∀ m : Nat, (List.replicate m (0 : UInt8)).length = m := fun m => List.length_replicate
    have hYe : Y = be g 4 ++ List.replicate 124 0 := by
      rw [hY]
      exact put_step (A := []) (B := List.replicate 4 0) (C := List.replicate 124 0) (by rw [hZ, List.nil_append, rr]) rfl (rl 4)
    have hXe : X = (be g 4 ++ List.replicate 4 0) ++ (be k 2 ++ List.replicate 118 0) := by
      rw [hX, hkw]
      exact put_step (A := be g 4 ++ List.replicate 4 0) (B := List.replicate 2 0) (C := List.replicate 118 0) (by rw [hYe, List.append_assoc, rr, rr]) (by rw [List.length_append, l1, rl]; rfl) (rl 2)
    have lA : (be g 4 ++ List.replicate 4 (0 : UInt8) ++ be k 2).length = 10 := by rw [List.length_append, List.length_append, l1, l2, rl]
    have hVe : V = (be g 4 ++ List.replicate 4 0 ++ be k 2) ++ (kind :: UInt8.ofNat b.length :: List.replicate 116 0) := by
      have e1 : X = (be g 4 ++ List.replicate 4 0 ++ be k 2) ++ (0 :: 0 :: List.replicate 116 0) := by rw [hXe, ← List.append_assoc]; rfl
      have e2 : UInt8.ofNat (Int.toNat (kind.toNat : Int)) = kind := by simp
      have e3 : UInt8.ofNat (Int.toNat (IntKind.u8.wrap (b.length : Int))) = UInt8.ofNat b.length := by rw [u8w (by omega) (by omega), Int.toNat_natCast]
      rw [hV, e2, e3, e1]
      have e4 : ((be g 4 ++ List.replicate 4 0 ++ be k 2) ++ (0 :: 0 :: List.replicate 116 0)).set (0 + Int.toNat 10) kind = (be g 4 ++ List.replicate 4 0 ++ be k 2) ++ (kind :: 0 :: List.replicate 116 0) := set_at lA
      rw [e4]
      have e5 : ((be g 4 ++ List.replicate 4 0 ++ be k 2) ++ (kind :: 0 :: List.replicate 116 0)) = ((be g 4 ++ List.replicate 4 0 ++ be k 2) ++ [kind]) ++ (0 :: List.replicate 116 0) := by simp
      rw [e5]
      have e6 : (((be g 4 ++ List.replicate 4 0 ++ be k 2) ++ [kind]) ++ (0 :: List.replicate 116 0)).set (0 + Int.toNat 11) (UInt8.ofNat b.length) = ((be g 4 ++ List.replicate 4 0 ++ be k 2) ++ [kind]) ++ (UInt8.ofNat b.length :: List.replicate 116 0) := set_at (by rw [List.length_append, lA]; rfl)
      rw [e6]; simp
    have lB : (be g 4 ++ List.replicate 4 (0 : UInt8) ++ be k 2 ++ [kind, UInt8.ofNat b.length]).length = 12 := by rw [List.length_append, lA]; rfl
    have hUe : U = (be g 4 ++ List.replicate 4 0 ++ be k 2 ++ [kind, UInt8.ofNat b.length]) ++ (b ++ List.replicate (116 - b.length) 0) := by
      have e1 : V = (be g 4 ++ List.replicate 4 0 ++ be k 2 ++ [kind, UInt8.ofNat b.length]) ++ (List.replicate b.length 0 ++ List.replicate (116 - b.length) 0) := by
        rw [hVe, rr, show b.length + (116 - b.length) = 116 by omega]; simp
      have e2 : cutHi V.length none - cutLo (some 12) = 116 := by rw [hVl]; rfl
      rw [hU, e2, List.take_of_length_le (show b.length ≤ 116 by omega), Nat.min_eq_left (show b.length ≤ 116 by omega), e1]
      exact splice lB (rl _)
    have hTe : T = be g 4 ++ (List.replicate 4 0 ++ (bodyS k kind b ++ be g 4)) := by
      have e1 : U = ((be g 4 ++ List.replicate 4 0 ++ be k 2 ++ [kind, UInt8.ofNat b.length]) ++ (b ++ List.replicate (112 - b.length) 0)) ++ (List.replicate 4 0 ++ []) := by
        rw [hUe, List.append_nil, List.append_assoc _ _ (List.replicate 4 0), List.append_assoc b, rr, show 112 - b.length + 4 = 116 - b.length by omega]
      have e2 : (4 : Nat) = cutHi U.length none - cutLo (some 124) := by rw [hUl]; rfl
      have e3 := put_step (U := U) (N := (g : Int)) e1 (a := cutLo (some 124)) (m := cutHi U.length none - cutLo (some 124)) (by rw [List.length_append, lB, List.length_append, rl]; show _ = 124; omega) (by rw [rl]; exact e2)
      rw [hT, e3, ← e2, Int.toNat_natCast]
      unfold bodyS
      simp
    have lC : (be g 4 ++ List.replicate 4 (0 : UInt8)).length = 8 := by rw [List.length_append, l1, rl]
    have hqe : q = crc (bodyS k kind b) := by
      rw [hq]
      refine congrArg crc ?_
      have e1 : T = (be g 4 ++ List.replicate 4 0) ++ (bodyS k kind b ++ be g 4) := by rw [hTe, List.append_assoc]
      rw [e1]
      exact cutmid lC (body_len hb)
    rw [hS, hqw]
    have e4 := put_step (U := T) (N := (q : Int)) hTe (a := cutLo (some 4)) (m := cutHi T.length (some 8) - cutLo (some 4)) l1 (rl 4)
    rw [e4, Int.toNat_natCast, hqe]
    unfold enc
    rfl
  rw [← fin]
  exact ResIs.tsub rfl rfl (by rw [hSl]; decide)
end B
end Go.Proofs.Ytbmnhagbplkagaa
