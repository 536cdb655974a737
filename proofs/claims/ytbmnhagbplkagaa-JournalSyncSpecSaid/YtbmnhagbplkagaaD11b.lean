import Derived.Test.YtbmnhagbplkagaaD5
import Derived.Test.YtbmnhagbplkagaaP2
/- Contracts of the reference of the journal: a sector. -/
namespace Go.Proofs.Ytbmnhagbplkagaa
namespace B
open Go.RowKit
set_option maxHeartbeats 4000000
set_option maxRecDepth 100000
attribute [local irreducible] awc awT thn blk DQ retQ rawQ ownQ retOk ResIs

theorem be_shift (n : Nat) (j : Nat) : be n (j + 1) = be (n / 256) j ++ [UInt8.ofNat (n % 256)] := by
  induction j generalizing n with
  | zero => simp [be]
  | succ j ih =>
    have e : be n (j + 1 + 1) = UInt8.ofNat (n / 256 ^ (j + 1) % 256) :: be n (j + 1) := rfl
    have e2 : be (n / 256) (j + 1) = UInt8.ofNat (n / 256 / 256 ^ j % 256) :: be (n / 256) j := rfl
    rw [e, ih, e2, Nat.div_div_eq_div_mul, Nat.pow_succ, Nat.mul_comm (256 ^ j) 256]; rfl
theorem q256a (q : Nat) : IntKind.u8.wrap (Int.tmod (q : Int) 256) = ((q % 256 : Nat) : Int) := by
  rw [Int.tmod_eq_emod_of_nonneg (by omega)]
  have : (q : Int) % 256 = ((q % 256 : Nat) : Int) := rfl
  rw [this, u8w (by omega) (by omega)]
theorem q256b (q : Nat) (h : q < 18446744073709551616) : IntKind.u64.wrap (Int.tdiv (q : Int) 256) = ((q / 256 : Nat) : Int) := by
  rw [Int.tdiv_eq_ediv_of_nonneg (by omega)]
  have : (q : Int) / 256 = ((q / 256 : Nat) : Int) := rfl
  rw [this, u64w (by omega) (by omega)]
theorem c88 (n k : Nat) (hn : n < 18446744073709551616) (hk : k ≤ 100) : OCalls 88 [o1 (.v (.int .u64 n)), o1 (vI k)] .u8 (be n k) := by
  refine ocalls (n := 24) (t := 4) Try.func88 rfl rfl rfl rfl ?_
  repeat' (first
      | exact True.intro
      | exact rfl
      | refine And.intro rfl ?_
      | refine awc_seq ?_
      | refine awc_region ?_
      | refine awc_draw ?_
      | refine awt_a rfl rfl rfl ?_ ?_
      | refine awt_b rfl rfl rfl rfl ?_ ?_
      | refine awt_c rfl rfl rfl ?_ ?_
      | refine awt_gt rfl rfl ?_
      | refine awt_gf rfl rfl rfl ?_
      | refine awt_gu rfl rfl rfl ?_
      | (refine awt_h rfl rfl rfl ?_ ?_ <;> intro hb)
      | refine awt_nil ?_
      | refine dq (by kernel_rfl) ?_
      | refine thn_n ?_
      | refine thn_r ?_
      | refine thn_e ?_
      | refine awc_condT rfl ?_
      | refine awc_condF rfl ?_
      | (refine awc_cond rfl ?_ ?_ <;> intro hb)
      | refine awc_block ?_
      | refine blk_n ?_
      | refine blk_r ?_
      | refine blk_e ?_
      | refine blk_o rfl ?_
      | refine awc_ret ?_
      | refine awc_skip ?_
      | refine awc_label ?_
      | refine awc_exit ?_
      | refine retq_r ?_
      | refine retq_n ?_
      | exact ResIs.tv rfl
      | exact ResIs.ts rfl
      | exact ResIs.tc rfl
      | exact ResIs.tn rfl rfl
      | exact ResIs.to rfl rfl
      | apply ResIs.tagg rfl
      | exact ResIs.cv rfl trivial
      | exact ResIs.cs rfl trivial
      | exact ResIs.cn rfl trivial rfl
      | exact ResIs.co rfl trivial rfl
      | apply ResIs.cagg rfl trivial
      | exact CoeL.nil
      | apply CoeL.v
      | apply CoeL.sl
      | apply CoeL.clp
      | apply CoeL.emp rfl
      | apply CoeL.own rfl
      | apply ret_one
      | apply ret_two
      | apply ret_three
      | exact rawq_r rfl
      | apply rawq_rc rfl
      | apply ownq_rv rfl rfl)
  · exact ⟨by omega, by omega⟩
  have hkw : IntKind.i64.wrap ((k : Int) - 1) = (k : Int) - 1 := i64w (by omega) (by omega)
  refine awc_loop (α := Nat) (fun i => ⟨24, [(0, o1 (.v (.int .u64 ((n / 256 ^ i : Nat) : Int)))), (5, o1 (.own 8)), (6, o1 (vI ((k : Int) - 1 - i)))], [(8, .own .u8 (List.replicate (k - i) (0 : UInt8) ++ be n i))]⟩) (fun i => i ≤ k) (fun i => k - i) 0 (Wk.ren [] rfl ⟨eqVI (by simp), rfl, eqVI (by rw [hkw]; simp), trivial⟩ ⟨congrArg (HB.own .u8) (by simp [be]), trivial⟩ rfl) (Nat.zero_le _) ?_
  rintro i hi
  have hpos : 0 < 256 ^ i := Nat.pow_pos (by omega)
  have hdn : n / 256 ^ i ≤ n := Nat.div_le_self _ _
  have hlen : (List.replicate (k - i) (0 : UInt8) ++ be n i).length = k := by simp [be_len]; omega
  by_cases hil : i < k
  · have e1 := q256a (n / 256 ^ i)
    have e2 : IntKind.u64.wrap (Int.tdiv ((n / 256 ^ i : Nat) : Int) 256) = ((n / 256 ^ (i + 1) : Nat) : Int) := by
      rw [q256b _ (Nat.lt_of_le_of_lt hdn hn), Nat.div_div_eq_div_mul, ← Nat.pow_succ]
    have hq : n / 256 ^ i % 256 < 256 := Nat.mod_lt _ (by omega)
    have e3 : IntKind.i64.wrap ((k : Int) - 1 - i - 1) = (k : Int) - 1 - ((i + 1 : Nat) : Int) := by rw [i64w (by omega) (by omega)]; omega
    have e4 : ((k : Int) - 1 - i).toNat = k - 1 - i := by omega
    have e5 : (List.replicate (k - i) (0 : UInt8) ++ be n i).set (k - 1 - i) (UInt8.ofNat (n / 256 ^ i % 256)) = List.replicate (k - (i + 1)) (0 : UInt8) ++ be n (i + 1) := by
      have h1 : List.replicate (k - i) (0 : UInt8) = List.replicate (k - (i + 1)) 0 ++ [0] := by
        rw [show k - i = (k - (i + 1)) + 1 by omega, List.replicate_succ']
      rw [h1, List.append_assoc, List.set_append_right _ _ (by simp; omega)]
      rw [show k - 1 - i - (List.replicate (k - (i + 1)) (0 : UInt8)).length = 0 by simp; omega]
      rfl
    repeat' (first
        | exact True.intro
        | exact rfl
        | refine And.intro rfl ?_
        | refine awc_seq ?_
        | refine awc_region ?_
        | refine awc_draw ?_
        | refine awt_a rfl rfl rfl ?_ ?_
        | refine awt_b rfl rfl rfl rfl ?_ ?_
        | refine awt_c rfl rfl rfl ?_ ?_
        | refine awt_gt rfl rfl ?_
        | refine awt_gf rfl rfl rfl ?_
        | refine awt_gu rfl rfl rfl ?_
        | (refine awt_h rfl rfl rfl ?_ ?_ <;> intro hb)
        | refine awt_nil ?_
        | refine dq (by kernel_rfl) ?_
        | refine thn_n ?_
        | refine thn_r ?_
        | refine thn_e ?_
        | refine awc_condT rfl ?_
        | refine awc_condF rfl ?_
        | (refine awc_cond rfl ?_ ?_ <;> intro hb)
        | refine awc_block ?_
        | refine blk_n ?_
        | refine blk_r ?_
        | refine blk_e ?_
        | refine blk_o rfl ?_
        | refine awc_ret ?_
        | refine awc_skip ?_
        | refine awc_label ?_
        | refine awc_exit ?_
        | refine retq_r ?_
        | refine retq_n ?_
        | exact ResIs.tv rfl
        | exact ResIs.ts rfl
        | exact ResIs.tc rfl
        | exact ResIs.tn rfl rfl
        | exact ResIs.to rfl rfl
        | apply ResIs.tagg rfl
        | exact ResIs.cv rfl trivial
        | exact ResIs.cs rfl trivial
        | exact ResIs.cn rfl trivial rfl
        | exact ResIs.co rfl trivial rfl
        | apply ResIs.cagg rfl trivial
        | exact CoeL.nil
        | apply CoeL.v
        | apply CoeL.sl
        | apply CoeL.clp
        | apply CoeL.emp rfl
        | apply CoeL.own rfl
        | apply ret_one
        | apply ret_two
        | apply ret_three
        | exact rawq_r rfl
        | apply rawq_rc rfl
        | apply ownq_rv rfl rfl)
    all_goals (try (exfalso; have := of_decide_eq_false hb; omega))
    all_goals (try decide)
    · rw [hlen]; omega
    · rw [e1, e4, hlen]
      exact ⟨⟨by omega, by omega⟩, rfl, rfl, by show (k - 1 - i) * 1 < k; omega⟩
    · refine ⟨i + 1, Wk.ren [] rfl ⟨eqVI e2, rfl, eqVI e3, trivial⟩ ⟨congrArg (HB.own .u8) ?_, trivial⟩ rfl, by omega, by omega⟩
      rw [e1, e4]
      show (List.replicate (k - i) (0 : UInt8) ++ be n i).set ((k - 1 - i) * 1) (UInt8.ofNat (Int.toNat ((n / 256 ^ i % 256 : Nat) : Int))) = _
      rw [Nat.mul_one, Int.toNat_natCast, e5]
  · have hik : i = k := by omega
    subst hik
    repeat' (first
        | exact True.intro
        | exact rfl
        | refine And.intro rfl ?_
        | refine awc_seq ?_
        | refine awc_region ?_
        | refine awc_draw ?_
        | refine awt_a rfl rfl rfl ?_ ?_
        | refine awt_b rfl rfl rfl rfl ?_ ?_
        | refine awt_c rfl rfl rfl ?_ ?_
        | refine awt_gt rfl rfl ?_
        | refine awt_gf rfl rfl rfl ?_
        | refine awt_gu rfl rfl rfl ?_
        | (refine awt_h rfl rfl rfl ?_ ?_ <;> intro hb)
        | refine awt_nil ?_
        | refine dq (by kernel_rfl) ?_
        | refine thn_n ?_
        | refine thn_r ?_
        | refine thn_e ?_
        | refine awc_condT rfl ?_
        | refine awc_condF rfl ?_
        | (refine awc_cond rfl ?_ ?_ <;> intro hb)
        | refine awc_block ?_
        | refine blk_n ?_
        | refine blk_r ?_
        | refine blk_e ?_
        | refine blk_o rfl ?_
        | refine awc_ret ?_
        | refine awc_skip ?_
        | refine awc_label ?_
        | refine awc_exit ?_
        | refine retq_r ?_
        | refine retq_n ?_
        | exact ResIs.tv rfl
        | exact ResIs.ts rfl
        | exact ResIs.tc rfl
        | exact ResIs.tn rfl rfl
        | exact ResIs.to rfl rfl
        | apply ResIs.tagg rfl
        | exact ResIs.cv rfl trivial
        | exact ResIs.cs rfl trivial
        | exact ResIs.cn rfl trivial rfl
        | exact ResIs.co rfl trivial rfl
        | apply ResIs.cagg rfl trivial
        | exact CoeL.nil
        | apply CoeL.v
        | apply CoeL.sl
        | apply CoeL.clp
        | apply CoeL.emp rfl
        | apply CoeL.own rfl
        | apply ret_one
        | apply ret_two
        | apply ret_three
        | exact rawq_r rfl
        | apply rawq_rc rfl
        | apply ownq_rv rfl rfl)
    all_goals (try (exfalso; have := of_decide_eq_true hb; omega))
    show List.replicate (i - i) (0 : UInt8) ++ be n i = be n i
    rw [Nat.sub_self]; rfl
def kdB (b e : Bool) : UInt8 := bif b then (bif e then 3 else 1) else (bif e then 2 else 0)
theorem c76 (g k : Nat) (b e : Bool) (p : List UInt8) (hg : g < 18446744073709551616) (hk : k < 18446744073709551616) (hp : p.length ≤ 112) (K : Int) (hK : IntKind.u64.wrap K = k) : ACalls 76 [o1 (.v (.int .u64 g)), o1 (vI K), o1 (vB b), o1 (vB e), aB p] (aB (enc g k (kdB b e) p)) := by
  have h88 := c88 k 2 hk (by decide)
  rw [← hK] at h88
  have h884 := c88 g 4 hg (by decide)
  obtain ⟨kd, hkd⟩ : ∃ kd, kd = kdB b e := ⟨_, rfl⟩
  rw [← hkd]
  have hkl := kd.toNat_lt
  have hlw : IntKind.u8.wrap (p.length : Int) = (p.length : Int) := u8w (by omega) (by omega)
  have hzw : IntKind.i64.wrap (112 - (p.length : Int)) = ((112 - p.length : Nat) : Int) := by rw [i64w (by omega) (by omega)]; omega
  obtain ⟨X1, hX1⟩ : ∃ X1, X1 = be k 2 ++ [UInt8.ofNat (Int.toNat (kd.toNat : Int)), UInt8.ofNat (Int.toNat (IntKind.u8.wrap (p.length : Int)))] := ⟨_, rfl⟩
  have l1 : X1.length = 4 := by rw [hX1, List.length_append, be_len]; rfl
  obtain ⟨X2, hX2⟩ : ∃ X2, X2 = X1 ++ p := ⟨_, rfl⟩
  have l2 : X2.length = 4 + p.length := by rw [hX2, List.length_append, l1]
  obtain ⟨X3, hX3⟩ : ∃ X3, X3 = X2 ++ List.replicate (Int.toNat (IntKind.i64.wrap (112 - (p.length : Int)))) (0 : UInt8) := ⟨_, rfl⟩
  have l3 : X3.length = 116 := by rw [hX3, List.length_append, l2, hzw, Int.toNat_natCast, List.length_replicate]; omega
  have hcl := crc_lt X3
  have hcw : IntKind.u64.wrap (crc X3 : Int) = (crc X3 : Nat) := u64w (by omega) (by omega)
  have h88c := c88 (crc X3) 4 (by omega) (by decide)
  rw [← hcw] at h88c
  obtain ⟨X4, hX4⟩ : ∃ X4, X4 = be g 4 ++ be (crc X3) 4 := ⟨_, rfl⟩
  have l4 : X4.length = 8 := by rw [hX4, List.length_append, be_len, be_len]
  have fin : X4 ++ X3 ++ be g 4 = enc g k kd p := by
    have e1 : X1 = be k 2 ++ [kd, UInt8.ofNat p.length] := by
      rw [hX1, hlw, Int.toNat_natCast, Int.toNat_natCast]
      simp
    have e3 : X3 = bodyS k kd p := by
      rw [hX3, hX2, e1, hzw, Int.toNat_natCast]
      unfold bodyS
      simp
    rw [hX4, e3]
    unfold enc
    simp
  cases b <;> cases e
  · have h6 : 0 = (kd.toNat : Int) := by rw [hkd]; decide
    refine acalls (n := 50) (rs := [.tmp 10]) (Ts := [35]) Try.func76 rfl rfl rfl rfl rfl rfl ?_
    repeat' (first
        | (refine awc_at (id := 6) (s' := ⟨50, [(0, o1 (.v (.int .u64 g))), (1, o1 (vI K)), (4, aB p), (11, o1 (.v (.int .u8 (kd.toNat : Int))))], []⟩) (Wk.ren [] rfl ⟨rfl, rfl, rfl, eqVI h6, trivial⟩ trivial rfl) ?_)
        | (refine awc_at (id := 7) (s' := ⟨50, [(0, o1 (.v (.int .u64 g))), (4, aB p), (12, o1 (.own 28))], [(28, .own .u8 X1)]⟩) (Wk.ren [] rfl ⟨rfl, rfl, rfl, trivial⟩ ⟨congrArg (HB.own .u8) hX1.symm, trivial⟩ rfl) ?_)
        | (refine awc_at (id := 8) (s' := ⟨50, [(0, o1 (.v (.int .u64 g))), (4, aB p), (12, o1 (.own 31))], [(31, .own .u8 X2)]⟩) (Wk.ren [] rfl ⟨rfl, rfl, rfl, trivial⟩ ⟨congrArg (HB.own .u8) hX2.symm, trivial⟩ rfl) ?_)
        | (refine awc_at (id := 9) (s' := ⟨50, [(0, o1 (.v (.int .u64 g))), (12, o1 (.own 36))], [(36, .own .u8 X3)]⟩) (Wk.ren [] rfl ⟨rfl, rfl, trivial⟩ ⟨congrArg (HB.own .u8) hX3.symm, trivial⟩ rfl) ?_)
        | (refine awc_at (id := 10) (s' := ⟨50, [(0, o1 (.v (.int .u64 g))), (12, o1 (.own 36)), (13, o1 (.own 43))], [(36, .own .u8 X3), (43, .own .u8 X4)]⟩) (Wk.ren [] rfl ⟨rfl, rfl, rfl, trivial⟩ ⟨rfl, congrArg (HB.own .u8) hX4.symm, trivial⟩ rfl) ?_)
        | exact True.intro
        | exact rfl
        | refine And.intro rfl ?_
        | refine awc_seq ?_
        | refine awc_region ?_
        | refine awc_draw ?_
        | refine awt_a rfl rfl rfl ?_ ?_
        | refine awt_own0 rfl (h88) rfl rfl rfl rfl rfl rfl ?_
        | refine awt_own rfl (h88) rfl rfl rfl rfl rfl rfl ?_
        | refine awt_own0 rfl (h884) rfl rfl rfl rfl rfl rfl ?_
        | refine awt_own rfl (h884) rfl rfl rfl rfl rfl rfl ?_
        | refine awt_own0 rfl (h88c) rfl rfl rfl rfl rfl rfl ?_
        | refine awt_own rfl (h88c) rfl rfl rfl rfl rfl rfl ?_
        | refine awt_lend1 rfl (c89 _) rfl rfl rfl rfl rfl rfl ?_
        | refine awt_b rfl rfl rfl rfl ?_ ?_
        | refine awt_c rfl rfl rfl ?_ ?_
        | refine awt_gt rfl rfl ?_
        | refine awt_gf rfl rfl rfl ?_
        | refine awt_gu rfl rfl rfl ?_
        | (refine awt_h rfl rfl rfl ?_ ?_ <;> intro hb)
        | refine awt_nil ?_
        | refine dq (by kernel_rfl) ?_
        | refine thn_n ?_
        | refine thn_r ?_
        | refine thn_e ?_
        | refine awc_condT rfl ?_
        | refine awc_condF rfl ?_
        | (refine awc_cond rfl ?_ ?_ <;> intro hb)
        | refine awc_block ?_
        | refine blk_n ?_
        | refine blk_r ?_
        | refine blk_e ?_
        | refine blk_o rfl ?_
        | refine awc_ret ?_
        | refine awc_skip ?_
        | refine awc_label ?_
        | refine awc_exit ?_
        | refine retq_r ?_
        | refine retq_n ?_
        | exact ResIs.tv rfl
        | exact ResIs.ts rfl
        | exact ResIs.tc rfl
        | exact ResIs.tn rfl rfl
        | exact ResIs.to rfl rfl
        | apply ResIs.tagg rfl
        | exact ResIs.cv rfl trivial
        | exact ResIs.cs rfl trivial
        | exact ResIs.cn rfl trivial rfl
        | exact ResIs.co rfl trivial rfl
        | apply ResIs.cagg rfl trivial
        | exact CoeL.nil
        | apply CoeL.v
        | apply CoeL.sl
        | apply CoeL.clp
        | apply CoeL.emp rfl
        | apply CoeL.own rfl
        | apply ret_one
        | apply ret_two
        | apply ret_three
        | exact rawq_r rfl
        | apply rawq_rc rfl
        | apply ownq_rv rfl rfl)
    · rw [hlw]; omega
    · exact ⟨by show ((be k 2).length + 2) * 1 ≤ _; rw [be_len]; omega, by decide⟩
    · exact ⟨by show (X1.length + p.length) * 1 ≤ _; rw [l1]; omega, by decide⟩
    · rw [l2, hzw, Int.toNat_natCast]; omega
    · exact ⟨by show ((be g 4).length + (be (crc X3) 4).length) * 1 ≤ _; rw [be_len, be_len]; decide, by decide⟩
    · exact ⟨by show (X4.length + X3.length) * 1 ≤ _; rw [l4, l3]; decide, by decide⟩
    · exact ⟨by show ((X4 ++ X3).length + (be g 4).length) * 1 ≤ _; rw [List.length_append, l4, l3, be_len]; decide, by decide⟩
    · rw [← fin]
  · have h6 : IntKind.u8.wrap (0 + 2) = (kd.toNat : Int) := by rw [hkd]; decide
    refine acalls (n := 50) (rs := [.tmp 10]) (Ts := [35]) Try.func76 rfl rfl rfl rfl rfl rfl ?_
    repeat' (first
        | (refine awc_at (id := 6) (s' := ⟨50, [(0, o1 (.v (.int .u64 g))), (1, o1 (vI K)), (4, aB p), (11, o1 (.v (.int .u8 (kd.toNat : Int))))], []⟩) (Wk.ren [] rfl ⟨rfl, rfl, rfl, eqVI h6, trivial⟩ trivial rfl) ?_)
        | (refine awc_at (id := 7) (s' := ⟨50, [(0, o1 (.v (.int .u64 g))), (4, aB p), (12, o1 (.own 28))], [(28, .own .u8 X1)]⟩) (Wk.ren [] rfl ⟨rfl, rfl, rfl, trivial⟩ ⟨congrArg (HB.own .u8) hX1.symm, trivial⟩ rfl) ?_)
        | (refine awc_at (id := 8) (s' := ⟨50, [(0, o1 (.v (.int .u64 g))), (4, aB p), (12, o1 (.own 31))], [(31, .own .u8 X2)]⟩) (Wk.ren [] rfl ⟨rfl, rfl, rfl, trivial⟩ ⟨congrArg (HB.own .u8) hX2.symm, trivial⟩ rfl) ?_)
        | (refine awc_at (id := 9) (s' := ⟨50, [(0, o1 (.v (.int .u64 g))), (12, o1 (.own 36))], [(36, .own .u8 X3)]⟩) (Wk.ren [] rfl ⟨rfl, rfl, trivial⟩ ⟨congrArg (HB.own .u8) hX3.symm, trivial⟩ rfl) ?_)
        | (refine awc_at (id := 10) (s' := ⟨50, [(0, o1 (.v (.int .u64 g))), (12, o1 (.own 36)), (13, o1 (.own 43))], [(36, .own .u8 X3), (43, .own .u8 X4)]⟩) (Wk.ren [] rfl ⟨rfl, rfl, rfl, trivial⟩ ⟨rfl, congrArg (HB.own .u8) hX4.symm, trivial⟩ rfl) ?_)
        | exact True.intro
        | exact rfl
        | refine And.intro rfl ?_
        | refine awc_seq ?_
        | refine awc_region ?_
        | refine awc_draw ?_
        | refine awt_a rfl rfl rfl ?_ ?_
        | refine awt_own0 rfl (h88) rfl rfl rfl rfl rfl rfl ?_
        | refine awt_own rfl (h88) rfl rfl rfl rfl rfl rfl ?_
        | refine awt_own0 rfl (h884) rfl rfl rfl rfl rfl rfl ?_
        | refine awt_own rfl (h884) rfl rfl rfl rfl rfl rfl ?_
        | refine awt_own0 rfl (h88c) rfl rfl rfl rfl rfl rfl ?_
        | refine awt_own rfl (h88c) rfl rfl rfl rfl rfl rfl ?_
        | refine awt_lend1 rfl (c89 _) rfl rfl rfl rfl rfl rfl ?_
        | refine awt_b rfl rfl rfl rfl ?_ ?_
        | refine awt_c rfl rfl rfl ?_ ?_
        | refine awt_gt rfl rfl ?_
        | refine awt_gf rfl rfl rfl ?_
        | refine awt_gu rfl rfl rfl ?_
        | (refine awt_h rfl rfl rfl ?_ ?_ <;> intro hb)
        | refine awt_nil ?_
        | refine dq (by kernel_rfl) ?_
        | refine thn_n ?_
        | refine thn_r ?_
        | refine thn_e ?_
        | refine awc_condT rfl ?_
        | refine awc_condF rfl ?_
        | (refine awc_cond rfl ?_ ?_ <;> intro hb)
        | refine awc_block ?_
        | refine blk_n ?_
        | refine blk_r ?_
        | refine blk_e ?_
        | refine blk_o rfl ?_
        | refine awc_ret ?_
        | refine awc_skip ?_
        | refine awc_label ?_
        | refine awc_exit ?_
        | refine retq_r ?_
        | refine retq_n ?_
        | exact ResIs.tv rfl
        | exact ResIs.ts rfl
        | exact ResIs.tc rfl
        | exact ResIs.tn rfl rfl
        | exact ResIs.to rfl rfl
        | apply ResIs.tagg rfl
        | exact ResIs.cv rfl trivial
        | exact ResIs.cs rfl trivial
        | exact ResIs.cn rfl trivial rfl
        | exact ResIs.co rfl trivial rfl
        | apply ResIs.cagg rfl trivial
        | exact CoeL.nil
        | apply CoeL.v
        | apply CoeL.sl
        | apply CoeL.clp
        | apply CoeL.emp rfl
        | apply CoeL.own rfl
        | apply ret_one
        | apply ret_two
        | apply ret_three
        | exact rawq_r rfl
        | apply rawq_rc rfl
        | apply ownq_rv rfl rfl)
    · rw [hlw]; omega
    · exact ⟨by show ((be k 2).length + 2) * 1 ≤ _; rw [be_len]; omega, by decide⟩
    · exact ⟨by show (X1.length + p.length) * 1 ≤ _; rw [l1]; omega, by decide⟩
    · rw [l2, hzw, Int.toNat_natCast]; omega
    · exact ⟨by show ((be g 4).length + (be (crc X3) 4).length) * 1 ≤ _; rw [be_len, be_len]; decide, by decide⟩
    · exact ⟨by show (X4.length + X3.length) * 1 ≤ _; rw [l4, l3]; decide, by decide⟩
    · exact ⟨by show ((X4 ++ X3).length + (be g 4).length) * 1 ≤ _; rw [List.length_append, l4, l3, be_len]; decide, by decide⟩
    · rw [← fin]
  · have h6 : IntKind.u8.wrap (0 + 1) = (kd.toNat : Int) := by rw [hkd]; decide
    refine acalls (n := 50) (rs := [.tmp 10]) (Ts := [35]) Try.func76 rfl rfl rfl rfl rfl rfl ?_
    repeat' (first
        | (refine awc_at (id := 6) (s' := ⟨50, [(0, o1 (.v (.int .u64 g))), (1, o1 (vI K)), (4, aB p), (11, o1 (.v (.int .u8 (kd.toNat : Int))))], []⟩) (Wk.ren [] rfl ⟨rfl, rfl, rfl, eqVI h6, trivial⟩ trivial rfl) ?_)
        | (refine awc_at (id := 7) (s' := ⟨50, [(0, o1 (.v (.int .u64 g))), (4, aB p), (12, o1 (.own 28))], [(28, .own .u8 X1)]⟩) (Wk.ren [] rfl ⟨rfl, rfl, rfl, trivial⟩ ⟨congrArg (HB.own .u8) hX1.symm, trivial⟩ rfl) ?_)
        | (refine awc_at (id := 8) (s' := ⟨50, [(0, o1 (.v (.int .u64 g))), (4, aB p), (12, o1 (.own 31))], [(31, .own .u8 X2)]⟩) (Wk.ren [] rfl ⟨rfl, rfl, rfl, trivial⟩ ⟨congrArg (HB.own .u8) hX2.symm, trivial⟩ rfl) ?_)
        | (refine awc_at (id := 9) (s' := ⟨50, [(0, o1 (.v (.int .u64 g))), (12, o1 (.own 36))], [(36, .own .u8 X3)]⟩) (Wk.ren [] rfl ⟨rfl, rfl, trivial⟩ ⟨congrArg (HB.own .u8) hX3.symm, trivial⟩ rfl) ?_)
        | (refine awc_at (id := 10) (s' := ⟨50, [(0, o1 (.v (.int .u64 g))), (12, o1 (.own 36)), (13, o1 (.own 43))], [(36, .own .u8 X3), (43, .own .u8 X4)]⟩) (Wk.ren [] rfl ⟨rfl, rfl, rfl, trivial⟩ ⟨rfl, congrArg (HB.own .u8) hX4.symm, trivial⟩ rfl) ?_)
        | exact True.intro
        | exact rfl
        | refine And.intro rfl ?_
        | refine awc_seq ?_
        | refine awc_region ?_
        | refine awc_draw ?_
        | refine awt_a rfl rfl rfl ?_ ?_
        | refine awt_own0 rfl (h88) rfl rfl rfl rfl rfl rfl ?_
        | refine awt_own rfl (h88) rfl rfl rfl rfl rfl rfl ?_
        | refine awt_own0 rfl (h884) rfl rfl rfl rfl rfl rfl ?_
        | refine awt_own rfl (h884) rfl rfl rfl rfl rfl rfl ?_
        | refine awt_own0 rfl (h88c) rfl rfl rfl rfl rfl rfl ?_
        | refine awt_own rfl (h88c) rfl rfl rfl rfl rfl rfl ?_
        | refine awt_lend1 rfl (c89 _) rfl rfl rfl rfl rfl rfl ?_
        | refine awt_b rfl rfl rfl rfl ?_ ?_
        | refine awt_c rfl rfl rfl ?_ ?_
        | refine awt_gt rfl rfl ?_
        | refine awt_gf rfl rfl rfl ?_
        | refine awt_gu rfl rfl rfl ?_
        | (refine awt_h rfl rfl rfl ?_ ?_ <;> intro hb)
        | refine awt_nil ?_
        | refine dq (by kernel_rfl) ?_
        | refine thn_n ?_
        | refine thn_r ?_
        | refine thn_e ?_
        | refine awc_condT rfl ?_
        | refine awc_condF rfl ?_
        | (refine awc_cond rfl ?_ ?_ <;> intro hb)
        | refine awc_block ?_
        | refine blk_n ?_
        | refine blk_r ?_
        | refine blk_e ?_
        | refine blk_o rfl ?_
        | refine awc_ret ?_
        | refine awc_skip ?_
        | refine awc_label ?_
        | refine awc_exit ?_
        | refine retq_r ?_
        | refine retq_n ?_
        | exact ResIs.tv rfl
        | exact ResIs.ts rfl
        | exact ResIs.tc rfl
        | exact ResIs.tn rfl rfl
        | exact ResIs.to rfl rfl
        | apply ResIs.tagg rfl
        | exact ResIs.cv rfl trivial
        | exact ResIs.cs rfl trivial
        | exact ResIs.cn rfl trivial rfl
        | exact ResIs.co rfl trivial rfl
        | apply ResIs.cagg rfl trivial
        | exact CoeL.nil
        | apply CoeL.v
        | apply CoeL.sl
        | apply CoeL.clp
        | apply CoeL.emp rfl
        | apply CoeL.own rfl
        | apply ret_one
        | apply ret_two
        | apply ret_three
        | exact rawq_r rfl
        | apply rawq_rc rfl
        | apply ownq_rv rfl rfl)
    · rw [hlw]; omega
    · exact ⟨by show ((be k 2).length + 2) * 1 ≤ _; rw [be_len]; omega, by decide⟩
    · exact ⟨by show (X1.length + p.length) * 1 ≤ _; rw [l1]; omega, by decide⟩
    · rw [l2, hzw, Int.toNat_natCast]; omega
    · exact ⟨by show ((be g 4).length + (be (crc X3) 4).length) * 1 ≤ _; rw [be_len, be_len]; decide, by decide⟩
    · exact ⟨by show (X4.length + X3.length) * 1 ≤ _; rw [l4, l3]; decide, by decide⟩
    · exact ⟨by show ((X4 ++ X3).length + (be g 4).length) * 1 ≤ _; rw [List.length_append, l4, l3, be_len]; decide, by decide⟩
    · rw [← fin]
  · have h6 : IntKind.u8.wrap (IntKind.u8.wrap (0 + 1) + 2) = (kd.toNat : Int) := by rw [hkd]; decide
    refine acalls (n := 50) (rs := [.tmp 10]) (Ts := [35]) Try.func76 rfl rfl rfl rfl rfl rfl ?_
    repeat' (first
        | (refine awc_at (id := 6) (s' := ⟨50, [(0, o1 (.v (.int .u64 g))), (1, o1 (vI K)), (4, aB p), (11, o1 (.v (.int .u8 (kd.toNat : Int))))], []⟩) (Wk.ren [] rfl ⟨rfl, rfl, rfl, eqVI h6, trivial⟩ trivial rfl) ?_)
        | (refine awc_at (id := 7) (s' := ⟨50, [(0, o1 (.v (.int .u64 g))), (4, aB p), (12, o1 (.own 28))], [(28, .own .u8 X1)]⟩) (Wk.ren [] rfl ⟨rfl, rfl, rfl, trivial⟩ ⟨congrArg (HB.own .u8) hX1.symm, trivial⟩ rfl) ?_)
        | (refine awc_at (id := 8) (s' := ⟨50, [(0, o1 (.v (.int .u64 g))), (4, aB p), (12, o1 (.own 31))], [(31, .own .u8 X2)]⟩) (Wk.ren [] rfl ⟨rfl, rfl, rfl, trivial⟩ ⟨congrArg (HB.own .u8) hX2.symm, trivial⟩ rfl) ?_)
        | (refine awc_at (id := 9) (s' := ⟨50, [(0, o1 (.v (.int .u64 g))), (12, o1 (.own 36))], [(36, .own .u8 X3)]⟩) (Wk.ren [] rfl ⟨rfl, rfl, trivial⟩ ⟨congrArg (HB.own .u8) hX3.symm, trivial⟩ rfl) ?_)
        | (refine awc_at (id := 10) (s' := ⟨50, [(0, o1 (.v (.int .u64 g))), (12, o1 (.own 36)), (13, o1 (.own 43))], [(36, .own .u8 X3), (43, .own .u8 X4)]⟩) (Wk.ren [] rfl ⟨rfl, rfl, rfl, trivial⟩ ⟨rfl, congrArg (HB.own .u8) hX4.symm, trivial⟩ rfl) ?_)
        | exact True.intro
        | exact rfl
        | refine And.intro rfl ?_
        | refine awc_seq ?_
        | refine awc_region ?_
        | refine awc_draw ?_
        | refine awt_a rfl rfl rfl ?_ ?_
        | refine awt_own0 rfl (h88) rfl rfl rfl rfl rfl rfl ?_
        | refine awt_own rfl (h88) rfl rfl rfl rfl rfl rfl ?_
        | refine awt_own0 rfl (h884) rfl rfl rfl rfl rfl rfl ?_
        | refine awt_own rfl (h884) rfl rfl rfl rfl rfl rfl ?_
        | refine awt_own0 rfl (h88c) rfl rfl rfl rfl rfl rfl ?_
        | refine awt_own rfl (h88c) rfl rfl rfl rfl rfl rfl ?_
        | refine awt_lend1 rfl (c89 _) rfl rfl rfl rfl rfl rfl ?_
        | refine awt_b rfl rfl rfl rfl ?_ ?_
        | refine awt_c rfl rfl rfl ?_ ?_
        | refine awt_gt rfl rfl ?_
        | refine awt_gf rfl rfl rfl ?_
        | refine awt_gu rfl rfl rfl ?_
        | (refine awt_h rfl rfl rfl ?_ ?_ <;> intro hb)
        | refine awt_nil ?_
        | refine dq (by kernel_rfl) ?_
        | refine thn_n ?_
        | refine thn_r ?_
        | refine thn_e ?_
        | refine awc_condT rfl ?_
        | refine awc_condF rfl ?_
        | (refine awc_cond rfl ?_ ?_ <;> intro hb)
        | refine awc_block ?_
        | refine blk_n ?_
        | refine blk_r ?_
        | refine blk_e ?_
        | refine blk_o rfl ?_
        | refine awc_ret ?_
        | refine awc_skip ?_
        | refine awc_label ?_
        | refine awc_exit ?_
        | refine retq_r ?_
        | refine retq_n ?_
        | exact ResIs.tv rfl
        | exact ResIs.ts rfl
        | exact ResIs.tc rfl
        | exact ResIs.tn rfl rfl
        | exact ResIs.to rfl rfl
        | apply ResIs.tagg rfl
        | exact ResIs.cv rfl trivial
        | exact ResIs.cs rfl trivial
        | exact ResIs.cn rfl trivial rfl
        | exact ResIs.co rfl trivial rfl
        | apply ResIs.cagg rfl trivial
        | exact CoeL.nil
        | apply CoeL.v
        | apply CoeL.sl
        | apply CoeL.clp
        | apply CoeL.emp rfl
        | apply CoeL.own rfl
        | apply ret_one
        | apply ret_two
        | apply ret_three
        | exact rawq_r rfl
        | apply rawq_rc rfl
        | apply ownq_rv rfl rfl)
    · rw [hlw]; omega
    · exact ⟨by show ((be k 2).length + 2) * 1 ≤ _; rw [be_len]; omega, by decide⟩
    · exact ⟨by show (X1.length + p.length) * 1 ≤ _; rw [l1]; omega, by decide⟩
    · rw [l2, hzw, Int.toNat_natCast]; omega
    · exact ⟨by show ((be g 4).length + (be (crc X3) 4).length) * 1 ≤ _; rw [be_len, be_len]; decide, by decide⟩
    · exact ⟨by show (X4.length + X3.length) * 1 ≤ _; rw [l4, l3]; decide, by decide⟩
    · exact ⟨by show ((X4 ++ X3).length + (be g 4).length) * 1 ≤ _; rw [List.length_append, l4, l3, be_len]; decide, by decide⟩
    · rw [← fin]
end B
end Go.Proofs.Ytbmnhagbplkagaa
