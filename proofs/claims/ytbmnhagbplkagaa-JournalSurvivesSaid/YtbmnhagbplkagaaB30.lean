import Derived.Test.YtbmnhagbplkagaaBb
/- A region that makes a variable of the type Crash. -/
namespace Go.Proofs.Ytbmnhagbplkagaa
namespace B
open Go.RowKit

def z56 : PV := .agg [.emp, vB false, .v (.int .u8 0)]
theorem info56 : ∃ i, PP.info? 56 = some i ∧ i.zero = some z56.zv := info_of (T := 56) (by kernel_rfl)
theorem awc_new56 {id d : Nat} {l1 l2 : List Oper} {ty : Nat} {ps : String} {af : Array Edge} {Q : AExit → St → Prop} {s : St}
    (q : awT (l1 ++ ⟨some d, .alloc 56, ty, ps, af, none⟩ :: l2) l1 [] s (fun _ s1 => s1.noM d = true ∧ Nat.blt d s1.n = true ∧
      awT (l1 ++ ⟨some d, .alloc 56, ty, ps, af, none⟩ :: l2) l2 [] ⟨s1.n, (d, o1 (.ptr d 0)) :: s1.ts, (d, .box [.emp, vB false, .v (.int .u8 0)]) :: s1.hs⟩ (fun _ s' => Q .normal s'))) :
    awc (.region id (l1 ++ ⟨some d, .alloc 56, ty, ps, af, none⟩ :: l2).toArray false) Q s := by
  intro w0 okA a w R
  have hd0 : a.defers = [] := R.choose_spec.dfr
  have key : (Code.region id (l1 ++ ⟨some d, .alloc 56, ty, ps, af, none⟩ :: l2).toArray false).wpIn (FW none) 0 PP (lift w0 okA Q) (mkA [] a) w := by
    refine wpIn_region_lit (awT_wpListInR (kp := fun _ => false) (ac := #[]) ?_ l1 [] s a w q R (fun t ht => by cases ht) (by simp [dstOk, List.all_eq_true]; intro o _; cases o.dst <;> rfl))
    rintro tr s1 a1 w1 ⟨h1, h2, h3⟩ ⟨e, RE⟩ X1
    unfold wpListIn
    rw [if_pos (by simp [Region.wanted])]
    have hdl : d < s1.n := by simpa using h2
    obtain ⟨i, hi, hzero⟩ := info56
    obtain ⟨hzR, hzn⟩ := PV.zR (ok := okS w0 okA e s1) (l := lv s1) (e := e) (w := w1) (c := z56) rfl
    have hb := RE.newBox (E := 56) h1 (hzn _) rfl hzR
    have hb2 := RelE.put (d := d) hb hdl (av := o1 (.ptr d 0)) (v := .pointer (some ⟨w1.heap.size, 0, none⟩)) (ptr_new_R _ _)
    refine wp_in (K' := fun a' w' => Rel w0 okA ⟨s1.n, (d, o1 (.ptr d 0)) :: s1.ts, (d, .box [.emp, vB false, .v (.int .u8 0)]) :: s1.hs⟩ a' w') ?_ (fun a' w' h => h.choose_spec.dfr) (fun c q => by cases q) ?_
    · unfold Oper.wp
      have hrun : (execOp a1.eval ⟨some d, .alloc 56, ty, ps, af, none⟩).run PP w1 = .ok (.value (.pointer (some ⟨w1.heap.size, 0, none⟩))) (w1.alloc (.cells z56.zv.cells 56)) := by
        simp [execOp, Instr.alloc, zeroValue, typeInfo, hi, hzero, newVar, newRow]
      rw [hrun]
      exact ⟨_, hb2⟩
    · intro v w' hR
      refine awT_wpListIn (kp := fun _ => false) (ac := #[]) (fun _ s' a' w' hq hR hX => ⟨.normal, rfl, s', hq, ?_⟩) l2 [] _ _ _ h3 hR (fun t ht => by cases ht) (by simp [dstOk, List.all_eq_true]; intro o _; cases o.dst <;> rfl)
      rw [mkA_nil hR.choose_spec.dfr]
      exact hR
  have h := wpFW.1 key
  rw [mkA_nil hd0] at h
  exact h
end B
end Go.Proofs.Ytbmnhagbplkagaa
