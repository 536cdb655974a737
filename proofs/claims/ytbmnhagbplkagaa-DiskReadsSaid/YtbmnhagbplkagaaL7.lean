import Derived.Test.YtbmnhagbplkagaaCc
/- The law DiskReads answers true at every disk, numbers and bytes. -/
namespace Go.Proofs.Ytbmnhagbplkagaa
namespace B
open Go.RowKit
set_option maxHeartbeats 4000000
set_option maxRecDepth 100000
attribute [local irreducible] awc awT thn blk DQ retQ rawQ ownQ retOk ResIs

theorem c9 (ss : List (List UInt8)) (ps : List (Int × List UInt8)) (l : Int) (st : Bool) (a o : Int) (b c : List UInt8) : ACalls 9 [aD ss ps l st, o1 (vI a), o1 (vI o), aB b, aB c] (o1 (vB true)) := by
  refine acalls (n := 172) (rs := [.tmp 10]) (Ts := [4]) Try.func9 rfl rfl rfl rfl rfl rfl ?_
  refine awc_bd 0 _ rfl ?_
  intro hbd
  have hb1 : List.length ss * 24 ≤ 140737488355328 := hbd.1.1
  by_cases hr : (dRead ⟨ss, ps, l, st⟩ o).2 = 0
  rotate_left
  · have hc := cR (d := ⟨ss, ps, l, st⟩) (a := o) rfl
    repeat' (first
        | exact True.intro
        | exact rfl
        | refine And.intro rfl ?_
        | refine awc_seq ?_
        | refine awc_region ?_
        | refine awc_draw ?_
        | refine awt_a rfl rfl rfl ?_ ?_
        | refine awt_call0 rfl (c17) rfl rfl rfl rfl rfl ?_
        | refine awt_call1 rfl (c17) rfl rfl rfl rfl rfl ?_
        | refine awt_call2 rfl (c17) rfl rfl rfl rfl rfl ?_
        | refine awt_call0 rfl (c18 _ _ _ _) rfl rfl rfl rfl rfl ?_
        | refine awt_call1 rfl (c18 _ _ _ _) rfl rfl rfl rfl rfl ?_
        | refine awt_call2 rfl (c18 _ _ _ _) rfl rfl rfl rfl rfl ?_
        | refine awt_call0 rfl (hc) rfl rfl rfl rfl rfl ?_
        | refine awt_call1 rfl (hc) rfl rfl rfl rfl rfl ?_
        | refine awt_call2 rfl (hc) rfl rfl rfl rfl rfl ?_
        | refine awt_call0 rfl (c26 _ _ _ _ _ _) rfl rfl rfl rfl rfl ?_
        | refine awt_call1 rfl (c26 _ _ _ _ _ _) rfl rfl rfl rfl rfl ?_
        | refine awt_call2 rfl (c26 _ _ _ _ _ _) rfl rfl rfl rfl rfl ?_
        | refine awt_b rfl rfl rfl rfl ?_ ?_
        | refine awt_c rfl rfl rfl ?_ ?_
        | refine awt_gt rfl rfl ?_
        | refine awt_gf rfl rfl rfl ?_
        | (refine awt_h rfl rfl rfl ?_ ?_ <;> intro hb)
        | refine awt_nil ?_
        | refine dq (by kernel_rfl) ?_
        | refine thn_n ?_
        | refine thn_r ?_
        | refine thn_e ?_
        | refine awc_condT rfl ?_
        | refine awc_condF rfl ?_
        | (refine awc_cond rfl ?_ ?_ <;> intro hb)
        | refine awc_block ?_
        | refine blk_n ?_
        | refine blk_r ?_
        | refine blk_e ?_
        | refine blk_o rfl ?_
        | refine awc_ret ?_
        | refine awc_skip ?_
        | refine awc_label ?_
        | refine awc_exit ?_
        | refine retq_r ?_
        | refine retq_n ?_
        | exact ResIs.tv rfl
        | exact ResIs.ts rfl
        | exact ResIs.tc rfl
        | exact ResIs.tn rfl rfl
        | exact ResIs.to rfl rfl
        | apply ResIs.tagg rfl
        | exact ResIs.cv rfl trivial
        | exact ResIs.cs rfl trivial
        | exact ResIs.cn rfl trivial rfl
        | exact ResIs.co rfl trivial rfl
        | apply ResIs.cagg rfl trivial
        | exact CoeL.nil
        | apply CoeL.v
        | apply CoeL.sl
        | apply CoeL.clp
        | apply CoeL.emp rfl
        | apply CoeL.own rfl
        | apply ret_one
        | apply ret_two
        | apply ret_three
        | exact rawq_r rfl
        | apply rawq_rc rfl
        | apply ownq_rv rfl rfl)
    all_goals (exfalso; simp_all; done)
  by_cases hw : (dWrite ⟨ss, ps, l, st⟩ a b).2 = 0
  rotate_left
  · have hc := cW (d := ⟨ss, ps, l, st⟩) (a := a) (b := b) rfl
    have hr0 := cR (d := ⟨ss, ps, l, st⟩) (a := o) (x := ((dRead ⟨ss, ps, l, st⟩ o).1, 0)) (by rw [← hr])
    repeat' (first
        | exact True.intro
        | exact rfl
        | refine And.intro rfl ?_
        | refine awc_seq ?_
        | refine awc_region ?_
        | refine awc_draw ?_
        | refine awt_a rfl rfl rfl ?_ ?_
        | refine awt_call0 rfl (c17) rfl rfl rfl rfl rfl ?_
        | refine awt_call1 rfl (c17) rfl rfl rfl rfl rfl ?_
        | refine awt_call2 rfl (c17) rfl rfl rfl rfl rfl ?_
        | refine awt_call0 rfl (c18 _ _ _ _) rfl rfl rfl rfl rfl ?_
        | refine awt_call1 rfl (c18 _ _ _ _) rfl rfl rfl rfl rfl ?_
        | refine awt_call2 rfl (c18 _ _ _ _) rfl rfl rfl rfl rfl ?_
        | refine awt_call0 rfl (hr0) rfl rfl rfl rfl rfl ?_
        | refine awt_call1 rfl (hr0) rfl rfl rfl rfl rfl ?_
        | refine awt_call2 rfl (hr0) rfl rfl rfl rfl rfl ?_
        | refine awt_call0 rfl (hc) rfl rfl rfl rfl rfl ?_
        | refine awt_call1 rfl (hc) rfl rfl rfl rfl rfl ?_
        | refine awt_call2 rfl (hc) rfl rfl rfl rfl rfl ?_
        | refine awt_b rfl rfl rfl rfl ?_ ?_
        | refine awt_c rfl rfl rfl ?_ ?_
        | refine awt_gt rfl rfl ?_
        | refine awt_gf rfl rfl rfl ?_
        | (refine awt_h rfl rfl rfl ?_ ?_ <;> intro hb)
        | refine awt_nil ?_
        | refine dq (by kernel_rfl) ?_
        | refine thn_n ?_
        | refine thn_r ?_
        | refine thn_e ?_
        | refine awc_condT rfl ?_
        | refine awc_condF rfl ?_
        | (refine awc_cond rfl ?_ ?_ <;> intro hb)
        | refine awc_block ?_
        | refine blk_n ?_
        | refine blk_r ?_
        | refine blk_e ?_
        | refine blk_o rfl ?_
        | refine awc_ret ?_
        | refine awc_skip ?_
        | refine awc_label ?_
        | refine awc_exit ?_
        | refine retq_r ?_
        | refine retq_n ?_
        | exact ResIs.tv rfl
        | exact ResIs.ts rfl
        | exact ResIs.tc rfl
        | exact ResIs.tn rfl rfl
        | exact ResIs.to rfl rfl
        | apply ResIs.tagg rfl
        | exact ResIs.cv rfl trivial
        | exact ResIs.cs rfl trivial
        | exact ResIs.cn rfl trivial rfl
        | exact ResIs.co rfl trivial rfl
        | apply ResIs.cagg rfl trivial
        | exact CoeL.nil
        | apply CoeL.v
        | apply CoeL.sl
        | apply CoeL.clp
        | apply CoeL.emp rfl
        | apply CoeL.own rfl
        | apply ret_one
        | apply ret_two
        | apply ret_three
        | exact rawq_r rfl
        | apply rawq_rc rfl
        | apply ownq_rv rfl rfl)
    all_goals (exfalso; simp_all; done)
  obtain ⟨hbad, ha, hlb, hp⟩ := write_res hw
  obtain ⟨_, ho⟩ := read_res hr
  have h1 := cR (read_ok hbad ho)
  have h2 := cW (write_ok hbad ha hlb hp)
  have hbad2 := add_bad hbad ha hlb hp
  have h3 := cR (read_ok hbad2 (a := o) ho)
  have h4 := cR (read_ok hbad2 (a := a) ha)
  rw [show lastAt (Dk.add ⟨ss, ps, l, st⟩ a b).ps a ((Dk.add ⟨ss, ps, l, st⟩ a b).ss.getD a.toNat []) = pad b by
    show lastAt (ps ++ [(a, pad b)]) a _ = _
    rw [lastAt_append]; simp] at h4
  have key1 : ((pad b).length : Int) = 128 := by rw [pad_len hlb]; rfl
  have key2 : cutL (pad b) none (some (b.length : Int)) = b := pad_take (b := b)
  have key3 : ∀ x, a ≠ o → lastAt (ps ++ [(a, pad b)]) o x = lastAt ps o x := fun x hx => by
    rw [lastAt_append, show ((a, pad b).1 == o) = false by simpa using hx]; rfl
  have key4 : cutOk (pad b).length none (some (b.length : Int)) none := by
    rw [pad_len hlb]; simp only [cutOk]; omega
  by_cases hlc : (c.length : Int) > 128
  · skip
    repeat' (first
        | exact True.intro
        | exact rfl
        | refine And.intro rfl ?_
        | refine awc_seq ?_
        | refine awc_region ?_
        | refine awc_draw ?_
        | refine awt_a rfl rfl rfl ?_ ?_
        | refine awt_call0 rfl (c17) rfl rfl rfl rfl rfl ?_
        | refine awt_call1 rfl (c17) rfl rfl rfl rfl rfl ?_
        | refine awt_call2 rfl (c17) rfl rfl rfl rfl rfl ?_
        | refine awt_call0 rfl (c18 _ _ _ _) rfl rfl rfl rfl rfl ?_
        | refine awt_call1 rfl (c18 _ _ _ _) rfl rfl rfl rfl rfl ?_
        | refine awt_call2 rfl (c18 _ _ _ _) rfl rfl rfl rfl rfl ?_
        | refine awt_call0 rfl (h1) rfl rfl rfl rfl rfl ?_
        | refine awt_call1 rfl (h1) rfl rfl rfl rfl rfl ?_
        | refine awt_call2 rfl (h1) rfl rfl rfl rfl rfl ?_
        | refine awt_call0 rfl (h2) rfl rfl rfl rfl rfl ?_
        | refine awt_call1 rfl (h2) rfl rfl rfl rfl rfl ?_
        | refine awt_call2 rfl (h2) rfl rfl rfl rfl rfl ?_
        | refine awt_call0 rfl (h3) rfl rfl rfl rfl rfl ?_
        | refine awt_call1 rfl (h3) rfl rfl rfl rfl rfl ?_
        | refine awt_call2 rfl (h3) rfl rfl rfl rfl rfl ?_
        | refine awt_call0 rfl (h4) rfl rfl rfl rfl rfl ?_
        | refine awt_call1 rfl (h4) rfl rfl rfl rfl rfl ?_
        | refine awt_call2 rfl (h4) rfl rfl rfl rfl rfl ?_
        | refine awt_b rfl rfl rfl rfl ?_ ?_
        | refine awt_c rfl rfl rfl ?_ ?_
        | refine awt_gt rfl rfl ?_
        | refine awt_gf rfl rfl rfl ?_
        | (refine awt_h rfl rfl rfl ?_ ?_ <;> intro hb)
        | refine awt_nil ?_
        | refine dq (by kernel_rfl) ?_
        | refine thn_n ?_
        | refine thn_r ?_
        | refine thn_e ?_
        | refine awc_condT rfl ?_
        | refine awc_condF rfl ?_
        | (refine awc_cond rfl ?_ ?_ <;> intro hb)
        | refine awc_block ?_
        | refine blk_n ?_
        | refine blk_r ?_
        | refine blk_e ?_
        | refine blk_o rfl ?_
        | refine awc_ret ?_
        | refine awc_skip ?_
        | refine awc_label ?_
        | refine awc_exit ?_
        | refine retq_r ?_
        | refine retq_n ?_
        | exact ResIs.tv rfl
        | exact ResIs.ts rfl
        | exact ResIs.tc rfl
        | exact ResIs.tn rfl rfl
        | exact ResIs.to rfl rfl
        | apply ResIs.tagg rfl
        | exact ResIs.cv rfl trivial
        | exact ResIs.cs rfl trivial
        | exact ResIs.cn rfl trivial rfl
        | exact ResIs.co rfl trivial rfl
        | apply ResIs.cagg rfl trivial
        | exact CoeL.nil
        | apply CoeL.v
        | apply CoeL.sl
        | apply CoeL.clp
        | apply CoeL.emp rfl
        | apply CoeL.own rfl
        | apply ret_one
        | apply ret_two
        | apply ret_three
        | exact rawq_r rfl
        | apply rawq_rc rfl
        | apply ownq_rv rfl rfl)
    all_goals (try exact key4)
    all_goals (try (exfalso; clear h1 h2 h3 h4; simp_all [Dk.add]; done))
  by_cases hp2 : (Dk.add ⟨ss, ps, l, st⟩ a b).ps.length = 4096
  · have h5 : ACalls 26 [aD ss (ps ++ [(a, pad b)]) l st, o1 (vI o), aB c] (aRD (.z, 2)) := cW (d := Dk.add ⟨ss, ps, l, st⟩ a b) (a := o) (b := c) (x := (.z, 2)) (by
      unfold dWrite
      rw [hbad2, show (Dk.add ⟨ss, ps, l, st⟩ a b).has o = true from ho, show decide ((c.length : Int) > 128) = false by simpa using hlc, hp2]
      rfl)
    repeat' (first
        | exact True.intro
        | exact rfl
        | refine And.intro rfl ?_
        | refine awc_seq ?_
        | refine awc_region ?_
        | refine awc_draw ?_
        | refine awt_a rfl rfl rfl ?_ ?_
        | refine awt_call0 rfl (c17) rfl rfl rfl rfl rfl ?_
        | refine awt_call1 rfl (c17) rfl rfl rfl rfl rfl ?_
        | refine awt_call2 rfl (c17) rfl rfl rfl rfl rfl ?_
        | refine awt_call0 rfl (c18 _ _ _ _) rfl rfl rfl rfl rfl ?_
        | refine awt_call1 rfl (c18 _ _ _ _) rfl rfl rfl rfl rfl ?_
        | refine awt_call2 rfl (c18 _ _ _ _) rfl rfl rfl rfl rfl ?_
        | refine awt_call0 rfl (h1) rfl rfl rfl rfl rfl ?_
        | refine awt_call1 rfl (h1) rfl rfl rfl rfl rfl ?_
        | refine awt_call2 rfl (h1) rfl rfl rfl rfl rfl ?_
        | refine awt_call0 rfl (h2) rfl rfl rfl rfl rfl ?_
        | refine awt_call1 rfl (h2) rfl rfl rfl rfl rfl ?_
        | refine awt_call2 rfl (h2) rfl rfl rfl rfl rfl ?_
        | refine awt_call0 rfl (h3) rfl rfl rfl rfl rfl ?_
        | refine awt_call1 rfl (h3) rfl rfl rfl rfl rfl ?_
        | refine awt_call2 rfl (h3) rfl rfl rfl rfl rfl ?_
        | refine awt_call0 rfl (h4) rfl rfl rfl rfl rfl ?_
        | refine awt_call1 rfl (h4) rfl rfl rfl rfl rfl ?_
        | refine awt_call2 rfl (h4) rfl rfl rfl rfl rfl ?_
        | refine awt_call0 rfl (h5) rfl rfl rfl rfl rfl ?_
        | refine awt_call1 rfl (h5) rfl rfl rfl rfl rfl ?_
        | refine awt_call2 rfl (h5) rfl rfl rfl rfl rfl ?_
        | refine awt_b rfl rfl rfl rfl ?_ ?_
        | refine awt_c rfl rfl rfl ?_ ?_
        | refine awt_gt rfl rfl ?_
        | refine awt_gf rfl rfl rfl ?_
        | (refine awt_h rfl rfl rfl ?_ ?_ <;> intro hb)
        | refine awt_nil ?_
        | refine dq (by kernel_rfl) ?_
        | refine thn_n ?_
        | refine thn_r ?_
        | refine thn_e ?_
        | refine awc_condT rfl ?_
        | refine awc_condF rfl ?_
        | (refine awc_cond rfl ?_ ?_ <;> intro hb)
        | refine awc_block ?_
        | refine blk_n ?_
        | refine blk_r ?_
        | refine blk_e ?_
        | refine blk_o rfl ?_
        | refine awc_ret ?_
        | refine awc_skip ?_
        | refine awc_label ?_
        | refine awc_exit ?_
        | refine retq_r ?_
        | refine retq_n ?_
        | exact ResIs.tv rfl
        | exact ResIs.ts rfl
        | exact ResIs.tc rfl
        | exact ResIs.tn rfl rfl
        | exact ResIs.to rfl rfl
        | apply ResIs.tagg rfl
        | exact ResIs.cv rfl trivial
        | exact ResIs.cs rfl trivial
        | exact ResIs.cn rfl trivial rfl
        | exact ResIs.co rfl trivial rfl
        | apply ResIs.cagg rfl trivial
        | exact CoeL.nil
        | apply CoeL.v
        | apply CoeL.sl
        | apply CoeL.clp
        | apply CoeL.emp rfl
        | apply CoeL.own rfl
        | apply ret_one
        | apply ret_two
        | apply ret_three
        | exact rawq_r rfl
        | apply rawq_rc rfl
        | apply ownq_rv rfl rfl)
    all_goals (try exact key4)
    all_goals (try (exfalso; clear h1 h2 h3 h4 h5; simp_all [Dk.add]; done))
  have hlc' : c.length ≤ 128 := by omega
  have h5 := cW (write_ok hbad2 (a := o) ho hlc' hp2)
  have hbad3 := add_bad hbad2 (a := o) ho hlc' hp2
  cases hst : (Dk.add (Dk.add ⟨ss, ps, l, st⟩ a b) o c).stops with
  | true =>
    have h6 := cS (sync_stop hbad3 hst)
    repeat' (first
        | exact True.intro
        | exact rfl
        | refine And.intro rfl ?_
        | refine awc_seq ?_
        | refine awc_region ?_
        | refine awc_draw ?_
        | refine awt_a rfl rfl rfl ?_ ?_
        | refine awt_call0 rfl (c17) rfl rfl rfl rfl rfl ?_
        | refine awt_call1 rfl (c17) rfl rfl rfl rfl rfl ?_
        | refine awt_call2 rfl (c17) rfl rfl rfl rfl rfl ?_
        | refine awt_call0 rfl (c18 _ _ _ _) rfl rfl rfl rfl rfl ?_
        | refine awt_call1 rfl (c18 _ _ _ _) rfl rfl rfl rfl rfl ?_
        | refine awt_call2 rfl (c18 _ _ _ _) rfl rfl rfl rfl rfl ?_
        | refine awt_call0 rfl (h1) rfl rfl rfl rfl rfl ?_
        | refine awt_call1 rfl (h1) rfl rfl rfl rfl rfl ?_
        | refine awt_call2 rfl (h1) rfl rfl rfl rfl rfl ?_
        | refine awt_call0 rfl (h2) rfl rfl rfl rfl rfl ?_
        | refine awt_call1 rfl (h2) rfl rfl rfl rfl rfl ?_
        | refine awt_call2 rfl (h2) rfl rfl rfl rfl rfl ?_
        | refine awt_call0 rfl (h3) rfl rfl rfl rfl rfl ?_
        | refine awt_call1 rfl (h3) rfl rfl rfl rfl rfl ?_
        | refine awt_call2 rfl (h3) rfl rfl rfl rfl rfl ?_
        | refine awt_call0 rfl (h4) rfl rfl rfl rfl rfl ?_
        | refine awt_call1 rfl (h4) rfl rfl rfl rfl rfl ?_
        | refine awt_call2 rfl (h4) rfl rfl rfl rfl rfl ?_
        | refine awt_call0 rfl (h5) rfl rfl rfl rfl rfl ?_
        | refine awt_call1 rfl (h5) rfl rfl rfl rfl rfl ?_
        | refine awt_call2 rfl (h5) rfl rfl rfl rfl rfl ?_
        | refine awt_call0 rfl (h6) rfl rfl rfl rfl rfl ?_
        | refine awt_call1 rfl (h6) rfl rfl rfl rfl rfl ?_
        | refine awt_call2 rfl (h6) rfl rfl rfl rfl rfl ?_
        | refine awt_b rfl rfl rfl rfl ?_ ?_
        | refine awt_c rfl rfl rfl ?_ ?_
        | refine awt_gt rfl rfl ?_
        | refine awt_gf rfl rfl rfl ?_
        | (refine awt_h rfl rfl rfl ?_ ?_ <;> intro hb)
        | refine awt_nil ?_
        | refine dq (by kernel_rfl) ?_
        | refine thn_n ?_
        | refine thn_r ?_
        | refine thn_e ?_
        | refine awc_condT rfl ?_
        | refine awc_condF rfl ?_
        | (refine awc_cond rfl ?_ ?_ <;> intro hb)
        | refine awc_block ?_
        | refine blk_n ?_
        | refine blk_r ?_
        | refine blk_e ?_
        | refine blk_o rfl ?_
        | refine awc_ret ?_
        | refine awc_skip ?_
        | refine awc_label ?_
        | refine awc_exit ?_
        | refine retq_r ?_
        | refine retq_n ?_
        | exact ResIs.tv rfl
        | exact ResIs.ts rfl
        | exact ResIs.tc rfl
        | exact ResIs.tn rfl rfl
        | exact ResIs.to rfl rfl
        | apply ResIs.tagg rfl
        | exact ResIs.cv rfl trivial
        | exact ResIs.cs rfl trivial
        | exact ResIs.cn rfl trivial rfl
        | exact ResIs.co rfl trivial rfl
        | apply ResIs.cagg rfl trivial
        | exact CoeL.nil
        | apply CoeL.v
        | apply CoeL.sl
        | apply CoeL.clp
        | apply CoeL.emp rfl
        | apply CoeL.own rfl
        | apply ret_one
        | apply ret_two
        | apply ret_three
        | exact rawq_r rfl
        | apply rawq_rc rfl
        | apply ownq_rv rfl rfl)
    all_goals (try exact key4)
    all_goals (try (exfalso; clear h1 h2 h3 h4 h5 h6; simp_all [Dk.add]; done))
  | false =>
    have h6 := cS (sync_go hbad3 hst)
    have hbad4 := done_bad hbad3 hst
    have hin3 : ∀ k : Nat, k < ss.length → (Dk.add (Dk.add ⟨ss, ps, l, st⟩ a b) o c).has (k : Int) = true := fun k hk => has_iff.2 ⟨by omega, by show (k : Int) < ss.length; omega⟩
    have hin4 : ∀ k : Nat, k < ss.length → (Dk.add (Dk.add ⟨ss, ps, l, st⟩ a b) o c).done.has (k : Int) = true := fun k hk => has_iff.2 ⟨by omega, by show (k : Int) < (perf ss _).length; rw [perf_len]; omega⟩
    have hat3 := (dBad_iff.1 (bad_iff.1 hbad3).1).2.2.2.2.2.1
    have key5 : ∀ k : Nat, k < ss.length → lastAt (Dk.add (Dk.add ⟨ss, ps, l, st⟩ a b) o c).done.ps k ((Dk.add (Dk.add ⟨ss, ps, l, st⟩ a b) o c).done.ss.getD (Int.toNat (k : Int)) []) = lastAt (Dk.add (Dk.add ⟨ss, ps, l, st⟩ a b) o c).ps k ((Dk.add (Dk.add ⟨ss, ps, l, st⟩ a b) o c).ss.getD (Int.toNat (k : Int)) []) := fun k hk => by
      rw [Int.toNat_natCast]
      exact perf_get k _ _ hk (fun w hw => (hat3 w hw).1)
    have hchk : dChk (Dk.add (Dk.add ⟨ss, ps, l, st⟩ a b) o c).done.ss (Dk.add (Dk.add ⟨ss, ps, l, st⟩ a b) o c).done.ps (Dk.add (Dk.add ⟨ss, ps, l, st⟩ a b) o c).done.left = 0 := by
      simp [dChk, (bad_iff.1 hbad4).1]
    repeat' (first
        | exact True.intro
        | exact rfl
        | refine And.intro rfl ?_
        | refine awc_seq ?_
        | refine awc_region ?_
        | refine awc_draw ?_
        | refine awt_a rfl rfl rfl ?_ ?_
        | refine awt_call0 rfl (c17) rfl rfl rfl rfl rfl ?_
        | refine awt_call1 rfl (c17) rfl rfl rfl rfl rfl ?_
        | refine awt_call2 rfl (c17) rfl rfl rfl rfl rfl ?_
        | refine awt_call0 rfl (c18 _ _ _ _) rfl rfl rfl rfl rfl ?_
        | refine awt_call1 rfl (c18 _ _ _ _) rfl rfl rfl rfl rfl ?_
        | refine awt_call2 rfl (c18 _ _ _ _) rfl rfl rfl rfl rfl ?_
        | refine awt_call0 rfl (h1) rfl rfl rfl rfl rfl ?_
        | refine awt_call1 rfl (h1) rfl rfl rfl rfl rfl ?_
        | refine awt_call2 rfl (h1) rfl rfl rfl rfl rfl ?_
        | refine awt_call0 rfl (h2) rfl rfl rfl rfl rfl ?_
        | refine awt_call1 rfl (h2) rfl rfl rfl rfl rfl ?_
        | refine awt_call2 rfl (h2) rfl rfl rfl rfl rfl ?_
        | refine awt_call0 rfl (h3) rfl rfl rfl rfl rfl ?_
        | refine awt_call1 rfl (h3) rfl rfl rfl rfl rfl ?_
        | refine awt_call2 rfl (h3) rfl rfl rfl rfl rfl ?_
        | refine awt_call0 rfl (h4) rfl rfl rfl rfl rfl ?_
        | refine awt_call1 rfl (h4) rfl rfl rfl rfl rfl ?_
        | refine awt_call2 rfl (h4) rfl rfl rfl rfl rfl ?_
        | refine awt_call0 rfl (h5) rfl rfl rfl rfl rfl ?_
        | refine awt_call1 rfl (h5) rfl rfl rfl rfl rfl ?_
        | refine awt_call2 rfl (h5) rfl rfl rfl rfl rfl ?_
        | refine awt_call0 rfl (h6) rfl rfl rfl rfl rfl ?_
        | refine awt_call1 rfl (h6) rfl rfl rfl rfl rfl ?_
        | refine awt_call2 rfl (h6) rfl rfl rfl rfl rfl ?_
        | refine awt_b rfl rfl rfl rfl ?_ ?_
        | refine awt_c rfl rfl rfl ?_ ?_
        | refine awt_gt rfl rfl ?_
        | refine awt_gf rfl rfl rfl ?_
        | (refine awt_h rfl rfl rfl ?_ ?_ <;> intro hb)
        | refine awt_nil ?_
        | refine dq (by kernel_rfl) ?_
        | refine thn_n ?_
        | refine thn_r ?_
        | refine thn_e ?_
        | refine awc_condT rfl ?_
        | refine awc_condF rfl ?_
        | (refine awc_cond rfl ?_ ?_ <;> intro hb)
        | refine awc_block ?_
        | refine blk_n ?_
        | refine blk_r ?_
        | refine blk_e ?_
        | refine blk_o rfl ?_
        | refine awc_ret ?_
        | refine awc_skip ?_
        | refine awc_label ?_
        | refine awc_exit ?_
        | refine retq_r ?_
        | refine retq_n ?_
        | exact ResIs.tv rfl
        | exact ResIs.ts rfl
        | exact ResIs.tc rfl
        | exact ResIs.tn rfl rfl
        | exact ResIs.to rfl rfl
        | apply ResIs.tagg rfl
        | exact ResIs.cv rfl trivial
        | exact ResIs.cs rfl trivial
        | exact ResIs.cn rfl trivial rfl
        | exact ResIs.co rfl trivial rfl
        | apply ResIs.cagg rfl trivial
        | exact CoeL.nil
        | apply CoeL.v
        | apply CoeL.sl
        | apply CoeL.clp
        | apply CoeL.emp rfl
        | apply CoeL.own rfl
        | apply ret_one
        | apply ret_two
        | apply ret_three
        | exact rawq_r rfl
        | apply rawq_rc rfl
        | apply ownq_rv rfl rfl)
    all_goals (try exact key4)
    all_goals (try (exfalso; clear h1 h2 h3 h4 h5 h6; simp_all [Dk.add]; done))
    · refine awc_loop (α := Nat) (fun k => ⟨172, [(5, o1 (.ptr 5 0)), (19, o1 (.ptr 19 0)), (21, o1 (.ptr 21 0)), (23, o1 (vI k))], [(5, .box [.sl tB ss, .sl tW ps, vI l, vB st]), (19, .box [.sl tB ss, .sl tW (ps ++ [(a, pad b)] ++ [(o, pad c)]), vI l, vB st]), (21, .box [.sl tB (perf ss (ps ++ [(a, pad b)] ++ [(o, pad c)])), .sl tW [], vI (Dk.rest ⟨ss, ps ++ [(a, pad b)] ++ [(o, pad c)], l, st⟩), vB false])]⟩) (fun k => k ≤ ss.length) (fun k => ss.length - k) 0 (Wk.ren [] rfl ⟨rfl, rfl, rfl, rfl, trivial⟩ ⟨rfl, rfl, rfl, trivial⟩ rfl) (Nat.zero_le _) ?_
      intro k hk
      by_cases hkl : k < ss.length
      · have h7 := cR (read_ok hbad3 (a := (k : Int)) (hin3 k hkl))
        have h8 := cR (read_ok hbad4 (a := (k : Int)) (hin4 k hkl))
        rw [key5 k hkl] at h8
        repeat' (first
            | exact True.intro
            | exact rfl
            | refine And.intro rfl ?_
            | refine awc_seq ?_
            | refine awc_region ?_
            | refine awc_draw ?_
            | refine awt_a rfl rfl rfl ?_ ?_
            | refine awt_call0 rfl (h7) rfl rfl rfl rfl rfl ?_
            | refine awt_call1 rfl (h7) rfl rfl rfl rfl rfl ?_
            | refine awt_call2 rfl (h7) rfl rfl rfl rfl rfl ?_
            | refine awt_call0 rfl (h8) rfl rfl rfl rfl rfl ?_
            | refine awt_call1 rfl (h8) rfl rfl rfl rfl rfl ?_
            | refine awt_call2 rfl (h8) rfl rfl rfl rfl rfl ?_
            | refine awt_b rfl rfl rfl rfl ?_ ?_
            | refine awt_c rfl rfl rfl ?_ ?_
            | refine awt_gt rfl rfl ?_
            | refine awt_gf rfl rfl rfl ?_
            | (refine awt_h rfl rfl rfl ?_ ?_ <;> intro hb)
            | refine awt_nil ?_
            | refine dq (by kernel_rfl) ?_
            | refine thn_n ?_
            | refine thn_r ?_
            | refine thn_e ?_
            | refine awc_condT rfl ?_
            | refine awc_condF rfl ?_
            | (refine awc_cond rfl ?_ ?_ <;> intro hb)
            | refine awc_block ?_
            | refine blk_n ?_
            | refine blk_r ?_
            | refine blk_e ?_
            | refine blk_o rfl ?_
            | refine awc_ret ?_
            | refine awc_skip ?_
            | refine awc_label ?_
            | refine awc_exit ?_
            | refine retq_r ?_
            | refine retq_n ?_
            | exact ResIs.tv rfl
            | exact ResIs.ts rfl
            | exact ResIs.tc rfl
            | exact ResIs.tn rfl rfl
            | exact ResIs.to rfl rfl
            | apply ResIs.tagg rfl
            | exact ResIs.cv rfl trivial
            | exact ResIs.cs rfl trivial
            | exact ResIs.cn rfl trivial rfl
            | exact ResIs.co rfl trivial rfl
            | apply ResIs.cagg rfl trivial
            | exact CoeL.nil
            | apply CoeL.v
            | apply CoeL.sl
            | apply CoeL.clp
            | apply CoeL.emp rfl
            | apply CoeL.own rfl
            | apply ret_one
            | apply ret_two
            | apply ret_three
            | exact rawq_r rfl
            | apply rawq_rc rfl
            | apply ownq_rv rfl rfl)
        all_goals (try simp only [decide_eq_true_eq, decide_eq_false_iff_not, Bool.not_eq_true', Bool.not_eq_false', beq_iff_eq, bne_iff_ne, beq_eq_false_iff_ne, ne_eq, Int.toNat_natCast] at *)
        all_goals (try omega)
        · exact absurd trivial hb
        · refine ⟨k + 1, Wk.ren [] rfl (by repeat' (first | exact True.intro | exact rfl | refine And.intro ?_ ?_ | (refine eqVI ?_; first | assumption | omega | (simp only [IntKind.wrap_i64]; omega) | (simp only [IntKind.wrap_i64]; dsimp only; omega)) | (refine eqVB ?_; assumption))) (by repeat' (first | exact True.intro | exact rfl | refine And.intro ?_ ?_ | (refine eqVI ?_; first | assumption | omega | (simp only [IntKind.wrap_i64]; omega) | (simp only [IntKind.wrap_i64]; dsimp only; omega)) | (refine eqVB ?_; assumption))) rfl, ?_, ?_⟩
          · omega
          · omega
      · have h9 : ACalls 22 [aD (perf ss (ps ++ [(a, pad b)] ++ [(o, pad c)])) [] (Dk.rest ⟨ss, ps ++ [(a, pad b)] ++ [(o, pad c)], l, st⟩) false] (o1 (vI 0)) := by
          have := c22 (perf ss (ps ++ [(a, pad b)] ++ [(o, pad c)])) [] (Dk.rest ⟨ss, ps ++ [(a, pad b)] ++ [(o, pad c)], l, st⟩) false
          rwa [show dChk (perf ss (ps ++ [(a, pad b)] ++ [(o, pad c)])) [] (Dk.rest ⟨ss, ps ++ [(a, pad b)] ++ [(o, pad c)], l, st⟩) = 0 from hchk] at this
        repeat' (first
            | exact True.intro
            | exact rfl
            | refine And.intro rfl ?_
            | refine awc_seq ?_
            | refine awc_region ?_
            | refine awc_draw ?_
            | refine awt_a rfl rfl rfl ?_ ?_
            | refine awt_call0 rfl (h9) rfl rfl rfl rfl rfl ?_
            | refine awt_call1 rfl (h9) rfl rfl rfl rfl rfl ?_
            | refine awt_call2 rfl (h9) rfl rfl rfl rfl rfl ?_
            | refine awt_b rfl rfl rfl rfl ?_ ?_
            | refine awt_c rfl rfl rfl ?_ ?_
            | refine awt_gt rfl rfl ?_
            | refine awt_gf rfl rfl rfl ?_
            | (refine awt_h rfl rfl rfl ?_ ?_ <;> intro hb)
            | refine awt_nil ?_
            | refine dq (by kernel_rfl) ?_
            | refine thn_n ?_
            | refine thn_r ?_
            | refine thn_e ?_
            | refine awc_condT rfl ?_
            | refine awc_condF rfl ?_
            | (refine awc_cond rfl ?_ ?_ <;> intro hb)
            | refine awc_block ?_
            | refine blk_n ?_
            | refine blk_r ?_
            | refine blk_e ?_
            | refine blk_o rfl ?_
            | refine awc_ret ?_
            | refine awc_skip ?_
            | refine awc_label ?_
            | refine awc_exit ?_
            | refine retq_r ?_
            | refine retq_n ?_
            | exact ResIs.tv rfl
            | exact ResIs.ts rfl
            | exact ResIs.tc rfl
            | exact ResIs.tn rfl rfl
            | exact ResIs.to rfl rfl
            | apply ResIs.tagg rfl
            | exact ResIs.cv rfl trivial
            | exact ResIs.cs rfl trivial
            | exact ResIs.cn rfl trivial rfl
            | exact ResIs.co rfl trivial rfl
            | apply ResIs.cagg rfl trivial
            | exact CoeL.nil
            | apply CoeL.v
            | apply CoeL.sl
            | apply CoeL.clp
            | apply CoeL.emp rfl
            | apply CoeL.own rfl
            | apply ret_one
            | apply ret_two
            | apply ret_three
            | exact rawq_r rfl
            | apply rawq_rc rfl
            | apply ownq_rv rfl rfl)
        all_goals (exfalso; rw [decide_eq_true_eq] at hb; omega)
    · refine awc_loop (α := Nat) (fun k => ⟨172, [(5, o1 (.ptr 5 0)), (19, o1 (.ptr 19 0)), (21, o1 (.ptr 21 0)), (23, o1 (vI k))], [(5, .box [.sl tB ss, .sl tW ps, vI l, vB st]), (19, .box [.sl tB ss, .sl tW (ps ++ [(a, pad b)] ++ [(o, pad c)]), vI l, vB st]), (21, .box [.sl tB (perf ss (ps ++ [(a, pad b)] ++ [(o, pad c)])), .sl tW [], vI (Dk.rest ⟨ss, ps ++ [(a, pad b)] ++ [(o, pad c)], l, st⟩), vB false])]⟩) (fun k => k ≤ ss.length) (fun k => ss.length - k) 0 (Wk.ren [] rfl ⟨rfl, rfl, rfl, rfl, trivial⟩ ⟨rfl, rfl, rfl, trivial⟩ rfl) (Nat.zero_le _) ?_
      intro k hk
      by_cases hkl : k < ss.length
      · have h7 := cR (read_ok hbad3 (a := (k : Int)) (hin3 k hkl))
        have h8 := cR (read_ok hbad4 (a := (k : Int)) (hin4 k hkl))
        rw [key5 k hkl] at h8
        repeat' (first
            | exact True.intro
            | exact rfl
            | refine And.intro rfl ?_
            | refine awc_seq ?_
            | refine awc_region ?_
            | refine awc_draw ?_
            | refine awt_a rfl rfl rfl ?_ ?_
            | refine awt_call0 rfl (h7) rfl rfl rfl rfl rfl ?_
            | refine awt_call1 rfl (h7) rfl rfl rfl rfl rfl ?_
            | refine awt_call2 rfl (h7) rfl rfl rfl rfl rfl ?_
            | refine awt_call0 rfl (h8) rfl rfl rfl rfl rfl ?_
            | refine awt_call1 rfl (h8) rfl rfl rfl rfl rfl ?_
            | refine awt_call2 rfl (h8) rfl rfl rfl rfl rfl ?_
            | refine awt_b rfl rfl rfl rfl ?_ ?_
            | refine awt_c rfl rfl rfl ?_ ?_
            | refine awt_gt rfl rfl ?_
            | refine awt_gf rfl rfl rfl ?_
            | (refine awt_h rfl rfl rfl ?_ ?_ <;> intro hb)
            | refine awt_nil ?_
            | refine dq (by kernel_rfl) ?_
            | refine thn_n ?_
            | refine thn_r ?_
            | refine thn_e ?_
            | refine awc_condT rfl ?_
            | refine awc_condF rfl ?_
            | (refine awc_cond rfl ?_ ?_ <;> intro hb)
            | refine awc_block ?_
            | refine blk_n ?_
            | refine blk_r ?_
            | refine blk_e ?_
            | refine blk_o rfl ?_
            | refine awc_ret ?_
            | refine awc_skip ?_
            | refine awc_label ?_
            | refine awc_exit ?_
            | refine retq_r ?_
            | refine retq_n ?_
            | exact ResIs.tv rfl
            | exact ResIs.ts rfl
            | exact ResIs.tc rfl
            | exact ResIs.tn rfl rfl
            | exact ResIs.to rfl rfl
            | apply ResIs.tagg rfl
            | exact ResIs.cv rfl trivial
            | exact ResIs.cs rfl trivial
            | exact ResIs.cn rfl trivial rfl
            | exact ResIs.co rfl trivial rfl
            | apply ResIs.cagg rfl trivial
            | exact CoeL.nil
            | apply CoeL.v
            | apply CoeL.sl
            | apply CoeL.clp
            | apply CoeL.emp rfl
            | apply CoeL.own rfl
            | apply ret_one
            | apply ret_two
            | apply ret_three
            | exact rawq_r rfl
            | apply rawq_rc rfl
            | apply ownq_rv rfl rfl)
        all_goals (try simp only [decide_eq_true_eq, decide_eq_false_iff_not, Bool.not_true, Bool.not_eq_true', Bool.not_eq_false', beq_iff_eq, beq_eq_false_iff_ne, ne_eq, Int.toNat_natCast] at *)
        all_goals (try omega)
        · exact absurd trivial hb
        · refine ⟨k + 1, Wk.ren [] rfl (by repeat' (first | exact True.intro | exact rfl | refine And.intro ?_ ?_ | (refine eqVI ?_; first | assumption | omega | (simp only [IntKind.wrap_i64]; omega) | (simp only [IntKind.wrap_i64]; dsimp only; omega)) | (refine eqVB ?_; assumption))) (by repeat' (first | exact True.intro | exact rfl | refine And.intro ?_ ?_ | (refine eqVI ?_; first | assumption | omega | (simp only [IntKind.wrap_i64]; omega) | (simp only [IntKind.wrap_i64]; dsimp only; omega)) | (refine eqVB ?_; assumption))) rfl, ?_, ?_⟩
          · omega
          · omega
      · have h9 : ACalls 22 [aD (perf ss (ps ++ [(a, pad b)] ++ [(o, pad c)])) [] (Dk.rest ⟨ss, ps ++ [(a, pad b)] ++ [(o, pad c)], l, st⟩) false] (o1 (vI 0)) := by
          have := c22 (perf ss (ps ++ [(a, pad b)] ++ [(o, pad c)])) [] (Dk.rest ⟨ss, ps ++ [(a, pad b)] ++ [(o, pad c)], l, st⟩) false
          rwa [show dChk (perf ss (ps ++ [(a, pad b)] ++ [(o, pad c)])) [] (Dk.rest ⟨ss, ps ++ [(a, pad b)] ++ [(o, pad c)], l, st⟩) = 0 from hchk] at this
        repeat' (first
            | exact True.intro
            | exact rfl
            | refine And.intro rfl ?_
            | refine awc_seq ?_
            | refine awc_region ?_
            | refine awc_draw ?_
            | refine awt_a rfl rfl rfl ?_ ?_
            | refine awt_call0 rfl (h9) rfl rfl rfl rfl rfl ?_
            | refine awt_call1 rfl (h9) rfl rfl rfl rfl rfl ?_
            | refine awt_call2 rfl (h9) rfl rfl rfl rfl rfl ?_
            | refine awt_b rfl rfl rfl rfl ?_ ?_
            | refine awt_c rfl rfl rfl ?_ ?_
            | refine awt_gt rfl rfl ?_
            | refine awt_gf rfl rfl rfl ?_
            | (refine awt_h rfl rfl rfl ?_ ?_ <;> intro hb)
            | refine awt_nil ?_
            | refine dq (by kernel_rfl) ?_
            | refine thn_n ?_
            | refine thn_r ?_
            | refine thn_e ?_
            | refine awc_condT rfl ?_
            | refine awc_condF rfl ?_
            | (refine awc_cond rfl ?_ ?_ <;> intro hb)
            | refine awc_block ?_
            | refine blk_n ?_
            | refine blk_r ?_
            | refine blk_e ?_
            | refine blk_o rfl ?_
            | refine awc_ret ?_
            | refine awc_skip ?_
            | refine awc_label ?_
            | refine awc_exit ?_
            | refine retq_r ?_
            | refine retq_n ?_
            | exact ResIs.tv rfl
            | exact ResIs.ts rfl
            | exact ResIs.tc rfl
            | exact ResIs.tn rfl rfl
            | exact ResIs.to rfl rfl
            | apply ResIs.tagg rfl
            | exact ResIs.cv rfl trivial
            | exact ResIs.cs rfl trivial
            | exact ResIs.cn rfl trivial rfl
            | exact ResIs.co rfl trivial rfl
            | apply ResIs.cagg rfl trivial
            | exact CoeL.nil
            | apply CoeL.v
            | apply CoeL.sl
            | apply CoeL.clp
            | apply CoeL.emp rfl
            | apply CoeL.own rfl
            | apply ret_one
            | apply ret_two
            | apply ret_three
            | exact rawq_r rfl
            | apply rawq_rc rfl
            | apply ownq_rv rfl rfl)
        all_goals (exfalso; rw [decide_eq_true_eq] at hb; omega)

end B
end Go.Proofs.Ytbmnhagbplkagaa
