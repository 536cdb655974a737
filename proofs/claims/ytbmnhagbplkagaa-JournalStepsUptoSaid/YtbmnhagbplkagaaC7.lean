import Derived.Test.YtbmnhagbplkagaaC4
import Derived.Test.YtbmnhagbplkagaaBb
/- Contracts of the disk: reading. -/
namespace Go.Proofs.Ytbmnhagbplkagaa
namespace B
open Go.RowKit
set_option maxHeartbeats 4000000
set_option maxRecDepth 100000
attribute [local irreducible] awc awT thn blk DQ retQ rawQ ownQ retOk ResIs awg thnG blkG retG itQ rndQ

theorem c61 (ps : List (Int × List UInt8)) : ACalls 61 [aWW ps] (o1 (.clo 80 (.slice tW) ps)) := by
  refine acalls_raw (n := 4) (t := 2) Try.func61 rfl rfl rfl rfl rfl ?_
  repeat' (first
      | (refine awc_at (id := 1) (freezeL 1 1 (.slice tW) ps [.sl tW ps] rfl rfl rfl trivial) ?_)
      | exact True.intro
      | exact rfl
      | refine And.intro rfl ?_
      | refine awc_seq ?_
      | refine awc_region ?_
      | refine awc_draw ?_
      | refine awt_a rfl rfl rfl ?_ ?_
      | refine awt_b rfl rfl rfl rfl ?_ ?_
      | refine awt_c rfl rfl rfl ?_ ?_
      | refine awt_gt rfl rfl ?_
      | refine awt_gf rfl rfl rfl ?_
      | refine awt_gu rfl rfl rfl ?_
      | (refine awt_h rfl rfl rfl ?_ ?_ <;> intro hb)
      | refine awt_nil ?_
      | refine dq (by kernel_rfl) ?_
      | refine thn_n ?_
      | refine thn_r ?_
      | refine thn_e ?_
      | refine awc_condT rfl ?_
      | refine awc_condF rfl ?_
      | (refine awc_cond rfl ?_ ?_ <;> intro hb)
      | refine awc_block ?_
      | refine blk_n ?_
      | refine blk_r ?_
      | refine blk_e ?_
      | refine blk_o rfl ?_
      | refine awc_ret ?_
      | refine awc_skip ?_
      | refine awc_label ?_
      | refine awc_exit ?_
      | refine retq_r ?_
      | refine retq_n ?_
      | exact ResIs.tv rfl
      | exact ResIs.ts rfl
      | exact ResIs.tc rfl
      | exact ResIs.tn rfl rfl
      | exact ResIs.to rfl rfl
      | apply ResIs.tagg rfl
      | exact ResIs.cv rfl trivial
      | exact ResIs.cs rfl trivial
      | exact ResIs.cn rfl trivial rfl
      | exact ResIs.co rfl trivial rfl
      | apply ResIs.cagg rfl trivial
      | exact CoeL.nil
      | apply CoeL.v
      | apply CoeL.sl
      | apply CoeL.clp
      | apply CoeL.emp rfl
      | apply CoeL.own rfl
      | apply ret_one
      | apply ret_two
      | apply ret_three
      | exact rawq_r rfl
      | apply rawq_rc rfl
      | apply ownq_rv rfl rfl)
def bItem (ps : List (Int × List UInt8)) (k : Nat) : List AV := [o1 (vI ((ps.length : Int) - 1 - k)), aW (ps.getD (Int.toNat ((ps.length : Int) - 1 - k)) tW.dflt)]
def bItems (ps : List (Int × List UInt8)) : List (List AV) := (List.range ps.length).map (bItem ps)
theorem bItems_get {ps : List (Int × List UInt8)} {k : Nat} (h : k < ps.length) : (bItems ps)[k]? = some (bItem ps k) := by
  simp [bItems, h]
theorem bItems_len (ps : List (Int × List UInt8)) : (bItems ps).length = ps.length := by simp [bItems]
theorem c80 (ps : List (Int × List UInt8)) : ISpec 80 (.slice tW) ps (bItems ps) := by
  refine ispec (n := 19) Try.func80 rfl rfl rfl rfl ?_
  intro l p J Jx hR hY
  refine awg_bd 1 _ rfl ?_
  intro hbd
  have hb1 : List.length ps * 32 ≤ 140737488355328 := hbd.1
  rw [bItems_len]
  repeat' (first
      | exact True.intro
      | exact rfl
      | refine And.intro rfl ?_
      | refine awg_seq ?_
      | refine awg_region rfl ?_
      | refine awg_draw rfl (fun _ => rfl) (fun _ => rfl) ?_
      | refine awt_a rfl rfl rfl ?_ ?_
      | refine awt_b rfl rfl rfl rfl ?_ ?_
      | refine awt_c rfl rfl rfl ?_ ?_
      | refine awt_gt rfl rfl ?_
      | refine awt_gf rfl rfl rfl ?_
      | refine awt_gu rfl rfl rfl ?_
      | (refine awt_h rfl rfl rfl ?_ ?_ <;> intro hb)
      | refine awt_nil ?_
      | refine dq (by kernel_rfl) ?_
      | refine thnG_n ?_
      | refine thnG_r ?_
      | refine thnG_e ?_
      | refine awg_condT rfl ?_
      | refine awg_condF rfl ?_
      | (refine awg_cond rfl ?_ ?_ <;> intro hb)
      | refine awg_block ?_
      | refine blkG_n ?_
      | refine blkG_r ?_
      | refine blkG_e ?_
      | refine blkG_o rfl ?_
      | refine awg_ret ?_
      | refine awg_skip ?_
      | refine awg_label ?_
      | refine awg_exit ?_
      | refine retg_0 ?_
      | refine retg_1 rfl ?_
      | exact ResIs.tv rfl
      | exact ResIs.ts rfl
      | exact ResIs.tc rfl
      | exact ResIs.tn rfl rfl
      | exact ResIs.to rfl rfl
      | apply ResIs.tagg rfl
      | exact ResIs.cv rfl trivial
      | exact ResIs.cs rfl trivial
      | exact ResIs.cn rfl trivial rfl
      | exact ResIs.co rfl trivial rfl
      | apply ResIs.cagg rfl trivial
      | exact CoeL.nil
      | apply CoeL.v
      | apply CoeL.sl
      | apply CoeL.clp
      | apply CoeL.emp rfl
      | apply CoeL.own rfl
      | apply ret_one
      | apply ret_two
      | apply ret_three
      | exact rawq_r rfl
      | apply rawq_rc rfl
      | apply ownq_rv rfl rfl)
  refine awg_loop (α := Nat) (fun k => ⟨19, [(0, o1 (.v (.func (.yield l) #[] #[]))), (1, o1 (.elv p (.slice tW) ps)), (3, o1 (vI ((ps.length : Int) - 1 - k)))], []⟩) id (fun k => k ≤ ps.length) (fun k => ps.length - k) 0 (Wk.ren [] rfl ⟨rfl, rfl, ?_, trivial⟩ trivial rfl) rfl (Nat.zero_le _) ?_
  · refine eqVI ?_
    rw [i64w] <;> omega
  rintro k hk
  repeat' (first
      | (refine awg_yield (l1 := [_, _, _, _, _, _]) (bItems_len ps) hR hY [(0, o1 (.v (.func (.yield l) #[] #[]))), (3, o1 (vI ((ps.length : Int) - 1 - k)))] (bItems_get ?_) ?_)
      | (refine ⟨rfl, rfl, rfl, rfl, ⟨rfl, rfl, rfl, rfl, trivial⟩, rfl, rfl, ?_, ?_⟩)
      | exact True.intro
      | exact rfl
      | refine And.intro rfl ?_
      | refine awg_seq ?_
      | refine awg_region rfl ?_
      | refine awg_draw rfl (fun _ => rfl) (fun _ => rfl) ?_
      | refine awt_a rfl rfl rfl ?_ ?_
      | refine awt_b rfl rfl rfl rfl ?_ ?_
      | refine awt_c rfl rfl rfl ?_ ?_
      | refine awt_gt rfl rfl ?_
      | refine awt_gf rfl rfl rfl ?_
      | refine awt_gu rfl rfl rfl ?_
      | (refine awt_h rfl rfl rfl ?_ ?_ <;> intro hb)
      | refine awt_nil ?_
      | refine dq (by kernel_rfl) ?_
      | refine thnG_n ?_
      | refine thnG_r ?_
      | refine thnG_e ?_
      | refine awg_condT rfl ?_
      | refine awg_condF rfl ?_
      | (refine awg_cond rfl ?_ ?_ <;> intro hb)
      | refine awg_block ?_
      | refine blkG_n ?_
      | refine blkG_r ?_
      | refine blkG_e ?_
      | refine blkG_o rfl ?_
      | refine awg_ret ?_
      | refine awg_skip ?_
      | refine awg_label ?_
      | refine awg_exit ?_
      | refine retg_0 ?_
      | refine retg_1 rfl ?_
      | exact ResIs.tv rfl
      | exact ResIs.ts rfl
      | exact ResIs.tc rfl
      | exact ResIs.tn rfl rfl
      | exact ResIs.to rfl rfl
      | apply ResIs.tagg rfl
      | exact ResIs.cv rfl trivial
      | exact ResIs.cs rfl trivial
      | exact ResIs.cn rfl trivial rfl
      | exact ResIs.co rfl trivial rfl
      | apply ResIs.cagg rfl trivial
      | exact CoeL.nil
      | apply CoeL.v
      | apply CoeL.sl
      | apply CoeL.clp
      | apply CoeL.emp rfl
      | apply CoeL.own rfl
      | apply ret_one
      | apply ret_two
      | apply ret_three
      | exact rawq_r rfl
      | apply rawq_rc rfl
      | apply ownq_rv rfl rfl)
  all_goals (try simp only [decide_eq_true_eq, decide_eq_false_iff_not, Bool.not_true, Bool.not_false] at *)
  all_goals (try omega)
  · show k < _
    omega
  · refine ⟨k + 1, Wk.ren [] rfl ⟨rfl, rfl, ?_, trivial⟩ trivial rfl, rfl, by omega, by omega⟩
    refine eqVI ?_
    rw [i64w] <;> omega
  · exact itq_s
  · refine itq_n ?_
    show k = _
    omega

def lastAt : List (Int × List UInt8) → Int → List UInt8 → List UInt8
  | [], _, b => b
  | w :: l, a, b => lastAt l a (bif w.1 == a then w.2 else b)
theorem lastAt_none {a : Int} : ∀ (l : List (Int × List UInt8)) (b : List UInt8), (∀ w ∈ l, w.1 ≠ a) → lastAt l a b = b
  | [], _, _ => rfl
  | w :: l, b, h => by
    rw [lastAt, lastAt_none l _ (fun w hw => h w (by simp [hw]))]
    rw [show (w.1 == a) = false by simpa using h w (by simp)]
    rfl
theorem lastAt_hit {a : Int} : ∀ (l : List (Int × List UInt8)) (b : List UInt8) (i : Nat), i < l.length → (l.getD i tW.dflt).1 = a → (∀ k, i < k → k < l.length → (l.getD k tW.dflt).1 ≠ a) → lastAt l a b = (l.getD i tW.dflt).2
  | [], _, i, h, _, _ => by simp at h
  | w :: l, b, 0, h, h1, h2 => by
    rw [lastAt, lastAt_none l]
    · have h1' : w.1 = a := h1
      rw [show (w.1 == a) = true by simpa using h1']
      rfl
    · intro w' hw'
      obtain ⟨k, hk, rfl⟩ := List.mem_iff_getElem.1 hw'
      have := h2 (k + 1) (by omega) (by simpa using hk)
      rw [List.getD_cons_succ, List.getD_eq_getElem?_getD, List.getElem?_eq_getElem hk] at this
      exact this
  | w :: l, b, i + 1, h, h1, h2 => by
    rw [lastAt]
    exact lastAt_hit l _ i (by simpa using h) h1 (fun k hk hl => h2 (k + 1) (by omega) (by simpa using hl))

/-- A sector as it was written last. -/
def dRead (d : Dk) (at' : Int) : List UInt8 × Int := bif d.bad || !d.has at' then ([], 40) else (lastAt d.ps at' (d.ss.getD at'.toNat []), 0)
abbrev aRB (x : List UInt8 × Int) : AV := .tup [.one (.sl .u8 x.1), .one (vI x.2)]
theorem eqRB {b : List UInt8} {e : Int} {x : List UInt8 × Int} (h : x = (b, e)) : AV.tup [.one (.sl .u8 b), .one (vI e)] = aRB x := by
  rw [h]

theorem c28 (ss : List (List UInt8)) (ps : List (Int × List UInt8)) (left : Int) (st : Bool) (at' : Int) : ACalls 28 [aD ss ps left st, o1 (vI at')] (aRB (dRead ⟨ss, ps, left, st⟩ at')) := by
  refine acallsG (n := 33) (rs := [.cell 4 35, .cell 5 28]) (Ts := [35, 28]) Try.func28 rfl rfl rfl rfl rfl rfl ?_
  intro ok w
  refine awg_bd 0 _ rfl ?_
  intro hbd
  have hb1 : List.length ss * 24 ≤ 140737488355328 := hbd.1.1
  have hb2 : List.length ps * 32 ≤ 140737488355328 := hbd.2.1.1
  repeat' (first
      | exact True.intro
      | exact rfl
      | refine And.intro rfl ?_
      | refine awg_seq ?_
      | refine awg_region rfl ?_
      | refine awg_draw rfl (fun _ => rfl) (fun _ => rfl) ?_
      | refine awt_a rfl rfl rfl ?_ ?_
      | refine awt_call0 rfl (c57 _ _ _ _) rfl rfl rfl rfl rfl ?_
      | refine awt_call1 rfl (c57 _ _ _ _) rfl rfl rfl rfl rfl ?_
      | refine awt_call2 rfl (c57 _ _ _ _) rfl rfl rfl rfl rfl ?_
      | refine awt_call0 rfl (c58 _ _ _ _ _) rfl rfl rfl rfl rfl ?_
      | refine awt_call1 rfl (c58 _ _ _ _ _) rfl rfl rfl rfl rfl ?_
      | refine awt_call2 rfl (c58 _ _ _ _ _) rfl rfl rfl rfl rfl ?_
      | refine awt_call0 rfl (c61 _) rfl rfl rfl rfl rfl ?_
      | refine awt_call1 rfl (c61 _) rfl rfl rfl rfl rfl ?_
      | refine awt_call2 rfl (c61 _) rfl rfl rfl rfl rfl ?_
      | refine awt_b rfl rfl rfl rfl ?_ ?_
      | refine awt_c rfl rfl rfl ?_ ?_
      | refine awt_gt rfl rfl ?_
      | refine awt_gf rfl rfl rfl ?_
      | refine awt_gu rfl rfl rfl ?_
      | (refine awt_h rfl rfl rfl ?_ ?_ <;> intro hb)
      | refine awt_nil ?_
      | refine dq (by kernel_rfl) ?_
      | refine thnG_n ?_
      | refine thnG_r ?_
      | refine thnG_e ?_
      | refine awg_condT rfl ?_
      | refine awg_condF rfl ?_
      | (refine awg_cond rfl ?_ ?_ <;> intro hb)
      | refine awg_block ?_
      | refine blkG_n ?_
      | refine blkG_r ?_
      | refine blkG_e ?_
      | refine blkG_o rfl ?_
      | refine awg_ret ?_
      | refine awg_skip ?_
      | refine awg_label ?_
      | refine awg_exit ?_
      | refine retg_0 ?_
      | refine retg_1 rfl ?_
      | exact ResIs.tv rfl
      | exact ResIs.ts rfl
      | exact ResIs.tc rfl
      | exact ResIs.tn rfl rfl
      | exact ResIs.to rfl rfl
      | apply ResIs.tagg rfl
      | exact ResIs.cv rfl trivial
      | exact ResIs.cs rfl trivial
      | exact ResIs.cn rfl trivial rfl
      | exact ResIs.co rfl trivial rfl
      | apply ResIs.cagg rfl trivial
      | exact CoeL.nil
      | apply CoeL.v
      | apply CoeL.sl
      | apply CoeL.clp
      | apply CoeL.emp rfl
      | apply CoeL.own rfl
      | apply ret_one
      | apply ret_two
      | apply ret_three
      | exact rawq_r rfl
      | apply rawq_rc rfl
      | apply ownq_rv rfl rfl)
  · refine eqRB ?_
    simp only [Bool.not_not] at *
    simp only [dRead, Dk.bad, Dk.has, *, Bool.not_true, Bool.not_false, Bool.or_true, cond_true]
  · simp only [Bool.not_not] at *
    rename_i hbad
    have hat : 0 ≤ at' ∧ at' < ss.length := by
      simp only [Bool.or_eq_false_iff, decide_eq_false_iff_not] at hb
      omega
    have hres : ∀ x, lastAt ps at' (ss.getD at'.toNat []) = x → dRead ⟨ss, ps, left, st⟩ at' = (x, 0) := by
      intro x hx
      simp only [dRead, Dk.bad, Dk.has, hbad, hb, Bool.not_false, Bool.not_true, Bool.or_self, cond_false, hx]
    refine awg_range (f := 80) (ty := .slice tW) (x := ps) (ps := [20, 21]) (n := 33) (bItems ps) (fun _ => [(2, .box [.sl tB ss, .sl tW ps, vI left, vB st]), (3, .box [vI at']), (4, .box [.emp]), (5, .box [vI 0])])
      (fun j => ∀ k, ps.length ≤ k + j → k < ps.length → (ps.getD k tW.dflt).1 ≠ at')
      [(2, o1 (.ptr 2 0)), (3, o1 (.ptr 3 0)), (4, o1 (.ptr 4 0)), (5, o1 (.ptr 5 0)), (19, o1 (.clo 80 (.slice tW) ps))] (fun t => Nat.ble t 5 || Nat.beq t 19)
      (fun k h1 h2 => by omega) (Wk.ren [] rfl ⟨rfl, rfl, rfl, rfl, rfl, trivial⟩ ⟨rfl, rfl, rfl, rfl, trivial⟩ rfl) rfl rfl (c80 ps) rfl ?_ rfl rfl ⟨rfl, rfl⟩ ?_ ?_
    · intro its hits
      simp only [bItems, List.mem_map] at hits
      obtain ⟨k, _, rfl⟩ := hits
      exact ⟨rfl, rfl⟩
    · intro l D j its oR oB ac hits hF
      have hj : j < ps.length := by
        have := (List.getElem?_eq_some_iff.1 hits).1
        rwa [bItems_len] at this
      rw [bItems_get hj] at hits
      cases hits
      repeat' (first
          | (refine rnd_n (Wk.ren [] rfl ⟨rfl, rfl, rfl, rfl, rfl, trivial⟩ ⟨rfl, rfl, rfl, rfl, rfl, rfl, trivial⟩ rfl) ?_)
          | (refine rnd_r [(2, .box [.sl tB ss, .sl tW ps, vI left, vB st]), (3, .box [vI at']), (4, .box [.sl .u8 _]), (5, .box [vI 0])] (Wk.ren [] rfl ⟨rfl, rfl, rfl, rfl, rfl, trivial⟩ ⟨rfl, rfl, rfl, rfl, rfl, rfl, trivial⟩ rfl) ?_)
          | (refine retg_1 rfl ?_)
          | exact True.intro
          | exact rfl
          | refine And.intro rfl ?_
          | refine awg_seq ?_
          | refine awg_region rfl ?_
          | refine awg_draw rfl (fun _ => rfl) (fun _ => rfl) ?_
          | refine awt_a rfl rfl rfl ?_ ?_
          | refine awt_b rfl rfl rfl rfl ?_ ?_
          | refine awt_c rfl rfl rfl ?_ ?_
          | refine awt_gt rfl rfl ?_
          | refine awt_gf rfl rfl rfl ?_
          | refine awt_gu rfl rfl rfl ?_
          | (refine awt_h rfl rfl rfl ?_ ?_ <;> intro hb)
          | refine awt_nil ?_
          | refine dq (by kernel_rfl) ?_
          | refine thnG_n ?_
          | refine thnG_r ?_
          | refine thnG_e ?_
          | refine awg_condT rfl ?_
          | refine awg_condF rfl ?_
          | (refine awg_cond rfl ?_ ?_ <;> intro hb)
          | refine awg_block ?_
          | refine blkG_n ?_
          | refine blkG_r ?_
          | refine blkG_e ?_
          | refine blkG_o rfl ?_
          | refine awg_ret ?_
          | refine awg_skip ?_
          | refine awg_label ?_
          | refine awg_exit ?_
          | refine retg_0 ?_
          | refine retg_1 rfl ?_
          | exact ResIs.tv rfl
          | exact ResIs.ts rfl
          | exact ResIs.tc rfl
          | exact ResIs.tn rfl rfl
          | exact ResIs.to rfl rfl
          | apply ResIs.tagg rfl
          | exact ResIs.cv rfl trivial
          | exact ResIs.cs rfl trivial
          | exact ResIs.cn rfl trivial rfl
          | exact ResIs.co rfl trivial rfl
          | apply ResIs.cagg rfl trivial
          | exact CoeL.nil
          | apply CoeL.v
          | apply CoeL.sl
          | apply CoeL.clp
          | apply CoeL.emp rfl
          | apply CoeL.own rfl
          | apply ret_one
          | apply ret_two
          | apply ret_three
          | exact rawq_r rfl
          | apply rawq_rc rfl
          | apply ownq_rv rfl rfl)
      · refine eqRB (hres _ (lastAt_hit ps _ _ (by omega) (by simpa using hb) (fun k h1 h2 => hF k (by omega) h2)))
      · intro k h1 h2
        by_cases q : k = ((ps.length : Int) - 1 - j).toNat
        · subst q
          simpa using hb
        · exact hF k (by omega) h2
    · intro D hF
      repeat' (first
          | (refine retg_1 rfl ?_)
          | exact True.intro
          | exact rfl
          | refine And.intro rfl ?_
          | refine awg_seq ?_
          | refine awg_region rfl ?_
          | refine awg_draw rfl (fun _ => rfl) (fun _ => rfl) ?_
          | refine awt_a rfl rfl rfl ?_ ?_
          | refine awt_b rfl rfl rfl rfl ?_ ?_
          | refine awt_c rfl rfl rfl ?_ ?_
          | refine awt_gt rfl rfl ?_
          | refine awt_gf rfl rfl rfl ?_
          | refine awt_gu rfl rfl rfl ?_
          | (refine awt_h rfl rfl rfl ?_ ?_ <;> intro hb)
          | refine awt_nil ?_
          | refine dq (by kernel_rfl) ?_
          | refine thnG_n ?_
          | refine thnG_r ?_
          | refine thnG_e ?_
          | refine awg_condT rfl ?_
          | refine awg_condF rfl ?_
          | (refine awg_cond rfl ?_ ?_ <;> intro hb)
          | refine awg_block ?_
          | refine blkG_n ?_
          | refine blkG_r ?_
          | refine blkG_e ?_
          | refine blkG_o rfl ?_
          | refine awg_ret ?_
          | refine awg_skip ?_
          | refine awg_label ?_
          | refine awg_exit ?_
          | refine retg_0 ?_
          | refine retg_1 rfl ?_
          | exact ResIs.tv rfl
          | exact ResIs.ts rfl
          | exact ResIs.tc rfl
          | exact ResIs.tn rfl rfl
          | exact ResIs.to rfl rfl
          | apply ResIs.tagg rfl
          | exact ResIs.cv rfl trivial
          | exact ResIs.cs rfl trivial
          | exact ResIs.cn rfl trivial rfl
          | exact ResIs.co rfl trivial rfl
          | apply ResIs.cagg rfl trivial
          | exact CoeL.nil
          | apply CoeL.v
          | apply CoeL.sl
          | apply CoeL.clp
          | apply CoeL.emp rfl
          | apply CoeL.own rfl
          | apply ret_one
          | apply ret_two
          | apply ret_three
          | exact rawq_r rfl
          | apply rawq_rc rfl
          | apply ownq_rv rfl rfl)
      · exact hat
      · refine eqRB (hres _ (lastAt_none ps _ (fun w hw => ?_)))
        obtain ⟨k, hk, rfl⟩ := List.mem_iff_getElem.1 hw
        have := hF k (by rw [bItems_len]; omega) hk
        rw [List.getD_eq_getElem?_getD, List.getElem?_eq_getElem hk] at this
        exact this
  · refine eqRB ?_
    simp only [Bool.not_not, Bool.not_false] at hb
    simp only [dRead, Dk.bad, hb, Bool.true_or, cond_true]

theorem c29 (ss : List (List UInt8)) (ps : List (Int × List UInt8)) (left : Int) (st : Bool) (at' : Int) : ACalls 29 [aD ss ps left st, o1 (vI at')] (aRB (dRead ⟨ss, ps, left, st⟩ at')) := by
  refine acalls (n := 53) (rs := [.tmp 4, .tmp 5]) (Ts := [35, 28]) Try.func29 rfl rfl rfl rfl rfl rfl ?_
  refine awc_bd 0 _ rfl ?_
  intro hbd
  have hb1 : List.length ss * 24 ≤ 140737488355328 := hbd.1.1
  have hb2 : List.length ps * 32 ≤ 140737488355328 := hbd.2.1.1
  have hck := dChk_ne ss ps left
  have hc23 := c23 ss ps left st
  cases hbad : (dBad ss ps left || st) || (decide (at' < 0) || decide (at' ≥ (ss.length : Int))) with
  | true =>
    repeat' (first
        | exact True.intro
        | exact rfl
        | refine And.intro rfl ?_
        | refine awc_seq ?_
        | refine awc_region ?_
        | refine awc_draw ?_
        | refine awt_a rfl rfl rfl ?_ ?_
        | refine awt_call0 rfl (hc23) rfl rfl rfl rfl rfl ?_
        | refine awt_call1 rfl (hc23) rfl rfl rfl rfl rfl ?_
        | refine awt_call2 rfl (hc23) rfl rfl rfl rfl rfl ?_
        | refine awt_b rfl rfl rfl rfl ?_ ?_
        | refine awt_c rfl rfl rfl ?_ ?_
        | refine awt_gt rfl rfl ?_
        | refine awt_gf rfl rfl rfl ?_
        | refine awt_gu rfl rfl rfl ?_
        | (refine awt_h rfl rfl rfl ?_ ?_ <;> intro hb)
        | refine awt_nil ?_
        | refine dq (by kernel_rfl) ?_
        | refine thn_n ?_
        | refine thn_r ?_
        | refine thn_e ?_
        | refine awc_condT rfl ?_
        | refine awc_condF rfl ?_
        | (refine awc_cond rfl ?_ ?_ <;> intro hb)
        | refine awc_block ?_
        | refine blk_n ?_
        | refine blk_r ?_
        | refine blk_e ?_
        | refine blk_o rfl ?_
        | refine awc_ret ?_
        | refine awc_skip ?_
        | refine awc_label ?_
        | refine awc_exit ?_
        | refine retq_r ?_
        | refine retq_n ?_
        | exact ResIs.tv rfl
        | exact ResIs.ts rfl
        | exact ResIs.tc rfl
        | exact ResIs.tn rfl rfl
        | exact ResIs.to rfl rfl
        | apply ResIs.tagg rfl
        | exact ResIs.cv rfl trivial
        | exact ResIs.cs rfl trivial
        | exact ResIs.cn rfl trivial rfl
        | exact ResIs.co rfl trivial rfl
        | apply ResIs.cagg rfl trivial
        | exact CoeL.nil
        | apply CoeL.v
        | apply CoeL.sl
        | apply CoeL.clp
        | apply CoeL.emp rfl
        | apply CoeL.own rfl
        | apply ret_one
        | apply ret_two
        | apply ret_three
        | exact rawq_r rfl
        | apply rawq_rc rfl
        | apply ownq_rv rfl rfl)
    all_goals (try (exfalso; simp only [hck] at *; simp_all; done))
    all_goals (try (refine eqRB ?_; simp only [dRead, Dk.bad, Dk.has, Bool.not_not, hbad, cond_true]; done))
  | false =>
    have hbad0 := hbad
    simp only [Bool.or_eq_false_iff, decide_eq_false_iff_not] at hbad0
    obtain ⟨⟨hbad1, rfl⟩, hbad2, hbad3⟩ := hbad0
    have h0 : dChk ss ps left = 0 := by simp [dChk, hbad1]
    rw [h0] at hc23
    repeat' (first
        | exact True.intro
        | exact rfl
        | refine And.intro rfl ?_
        | refine awc_seq ?_
        | refine awc_region ?_
        | refine awc_draw ?_
        | refine awt_a rfl rfl rfl ?_ ?_
        | refine awt_call0 rfl (hc23) rfl rfl rfl rfl rfl ?_
        | refine awt_call1 rfl (hc23) rfl rfl rfl rfl rfl ?_
        | refine awt_call2 rfl (hc23) rfl rfl rfl rfl rfl ?_
        | refine awt_b rfl rfl rfl rfl ?_ ?_
        | refine awt_c rfl rfl rfl ?_ ?_
        | refine awt_gt rfl rfl ?_
        | refine awt_gf rfl rfl rfl ?_
        | refine awt_gu rfl rfl rfl ?_
        | (refine awt_h rfl rfl rfl ?_ ?_ <;> intro hb)
        | refine awt_nil ?_
        | refine dq (by kernel_rfl) ?_
        | refine thn_n ?_
        | refine thn_r ?_
        | refine thn_e ?_
        | refine awc_condT rfl ?_
        | refine awc_condF rfl ?_
        | (refine awc_cond rfl ?_ ?_ <;> intro hb)
        | refine awc_block ?_
        | refine blk_n ?_
        | refine blk_r ?_
        | refine blk_e ?_
        | refine blk_o rfl ?_
        | refine awc_ret ?_
        | refine awc_skip ?_
        | refine awc_label ?_
        | refine awc_exit ?_
        | refine retq_r ?_
        | refine retq_n ?_
        | exact ResIs.tv rfl
        | exact ResIs.ts rfl
        | exact ResIs.tc rfl
        | exact ResIs.tn rfl rfl
        | exact ResIs.to rfl rfl
        | apply ResIs.tagg rfl
        | exact ResIs.cv rfl trivial
        | exact ResIs.cs rfl trivial
        | exact ResIs.cn rfl trivial rfl
        | exact ResIs.co rfl trivial rfl
        | apply ResIs.cagg rfl trivial
        | exact CoeL.nil
        | apply CoeL.v
        | apply CoeL.sl
        | apply CoeL.clp
        | apply CoeL.emp rfl
        | apply CoeL.own rfl
        | apply ret_one
        | apply ret_two
        | apply ret_three
        | exact rawq_r rfl
        | apply rawq_rc rfl
        | apply ownq_rv rfl rfl)
    all_goals (try (exfalso; simp only [decide_eq_false_iff_not, decide_eq_true_eq, Bool.not_false] at *; omega))
    · omega
    refine awc_loop (α := Nat × List UInt8) (fun i => ⟨53, [(1, o1 (vI at')), (2, o1 (.ptr 2 0)), (6, aB i.2), (7, o1 (vI i.1))], [(2, .box [.sl tB ss, .sl tW ps, vI left, vB false])]⟩) (fun i => i.1 ≤ ps.length ∧ lastAt ps at' (ss.getD at'.toNat []) = lastAt (ps.drop i.1) at' i.2) (fun i => ps.length - i.1) (0, ss.getD at'.toNat []) (Wk.ren [] rfl ⟨rfl, rfl, rfl, rfl, trivial⟩ ⟨rfl, trivial⟩ rfl) ⟨Nat.zero_le _, rfl⟩ ?_
    rintro ⟨i, b⟩ ⟨hi, hpre⟩
    dsimp only at hi hpre
    repeat' (first
        | exact True.intro
        | exact rfl
        | refine And.intro rfl ?_
        | refine awc_seq ?_
        | refine awc_region ?_
        | refine awc_draw ?_
        | refine awt_a rfl rfl rfl ?_ ?_
        | refine awt_b rfl rfl rfl rfl ?_ ?_
        | refine awt_c rfl rfl rfl ?_ ?_
        | refine awt_gt rfl rfl ?_
        | refine awt_gf rfl rfl rfl ?_
        | refine awt_gu rfl rfl rfl ?_
        | (refine awt_h rfl rfl rfl ?_ ?_ <;> intro hb)
        | refine awt_nil ?_
        | refine dq (by kernel_rfl) ?_
        | refine thn_n ?_
        | refine thn_r ?_
        | refine thn_e ?_
        | refine awc_condT rfl ?_
        | refine awc_condF rfl ?_
        | (refine awc_cond rfl ?_ ?_ <;> intro hb)
        | refine awc_block ?_
        | refine blk_n ?_
        | refine blk_r ?_
        | refine blk_e ?_
        | refine blk_o rfl ?_
        | refine awc_ret ?_
        | refine awc_skip ?_
        | refine awc_label ?_
        | refine awc_exit ?_
        | refine retq_r ?_
        | refine retq_n ?_
        | exact ResIs.tv rfl
        | exact ResIs.ts rfl
        | exact ResIs.tc rfl
        | exact ResIs.tn rfl rfl
        | exact ResIs.to rfl rfl
        | apply ResIs.tagg rfl
        | exact ResIs.cv rfl trivial
        | exact ResIs.cs rfl trivial
        | exact ResIs.cn rfl trivial rfl
        | exact ResIs.co rfl trivial rfl
        | apply ResIs.cagg rfl trivial
        | exact CoeL.nil
        | apply CoeL.v
        | apply CoeL.sl
        | apply CoeL.clp
        | apply CoeL.emp rfl
        | apply CoeL.own rfl
        | apply ret_one
        | apply ret_two
        | apply ret_three
        | exact rawq_r rfl
        | apply rawq_rc rfl
        | apply ownq_rv rfl rfl)
    all_goals (try simp only [decide_eq_true_eq, decide_eq_false_iff_not, beq_iff_eq, beq_eq_false_iff_ne, ne_eq, Int.toNat_natCast] at *)
    all_goals (try omega)
    · refine ⟨(i + 1, (ps.getD i tW.dflt).2), Wk.ren [] rfl (by repeat' (first | exact True.intro | exact rfl | refine And.intro ?_ ?_ | (refine eqVI ?_; first | assumption | omega | (simp only [IntKind.wrap_i64]; omega) | (simp only [IntKind.wrap_i64]; dsimp only; omega)) | (refine eqVB ?_; assumption))) (by repeat' (first | exact True.intro | exact rfl | refine And.intro ?_ ?_ | (refine eqVI ?_; first | assumption | omega | (simp only [IntKind.wrap_i64]; omega) | (simp only [IntKind.wrap_i64]; dsimp only; omega)) | (refine eqVB ?_; assumption))) rfl, ?_, ?_⟩
      · refine ⟨by dsimp only; omega, ?_⟩
        rw [hpre, drop_step (i := i) tW.dflt (by omega), lastAt]
        rw [show ((ps.getD i tW.dflt).1 == at') = true by simpa using hb]
        rfl
      · dsimp only; omega
    · refine ⟨(i + 1, b), Wk.ren [] rfl (by repeat' (first | exact True.intro | exact rfl | refine And.intro ?_ ?_ | (refine eqVI ?_; first | assumption | omega | (simp only [IntKind.wrap_i64]; omega) | (simp only [IntKind.wrap_i64]; dsimp only; omega)) | (refine eqVB ?_; assumption))) (by repeat' (first | exact True.intro | exact rfl | refine And.intro ?_ ?_ | (refine eqVI ?_; first | assumption | omega | (simp only [IntKind.wrap_i64]; omega) | (simp only [IntKind.wrap_i64]; dsimp only; omega)) | (refine eqVB ?_; assumption))) rfl, ?_, ?_⟩
      · refine ⟨by dsimp only; omega, ?_⟩
        rw [hpre, drop_step (i := i) tW.dflt (by omega), lastAt]
        rw [show ((ps.getD i tW.dflt).1 == at') = false by simpa using hb]
        rfl
      · dsimp only; omega
    · refine eqRB ?_
      simp only [dRead, Dk.bad, Dk.has, hbad1, Bool.or_false, Bool.false_or, Bool.not_not]
      rw [show (decide (at' < 0) || decide (at' ≥ (ss.length : Int))) = false by simp; omega]
      rw [List.drop_eq_nil_of_le (by omega)] at hpre
      rw [hpre]
      rfl

end B
end Go.Proofs.Ytbmnhagbplkagaa
