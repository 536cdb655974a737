import Derived.Test.YtbmnhagbplkagaaR0
import Derived.Test.YtbmnhagbplkagaaD0
import Derived.Deep.CondSized
/- How great the arguments of the given statements are. -/
namespace Go.Proofs.Ytbmnhagbplkagaa
namespace B
open Go.RowKit Go.ChangeShapes Go.WideShapes
set_option maxRecDepth 100000

theorem bulk_one {H : Type} (d : DataW H) : 1 ≤ Rows.uptoBulk d := by
  cases d with
  | lit l => cases l <;> simp [Rows.uptoBulk]
  | nil => simp [Rows.uptoBulk]
  | ptr d => simp [Rows.uptoBulk]
  | slice elems spare => simp [Rows.uptoBulk]
  | agg parts => simp [Rows.uptoBulk]
  | iface t d => simp [Rows.uptoBulk]
  | map entries => simp [Rows.uptoBulk]
  | held h => simp [Rows.uptoBulk]
theorem bulk_part {H : Type} {d : DataW H} : ∀ {l : List (DataW H)}, d ∈ l → Rows.uptoBulk d ≤ Rows.uptoBulkAll l
  | x :: r, h => by
    simp only [Rows.uptoBulkAll]
    rcases List.mem_cons.1 h with rfl | h
    · omega
    · have := bulk_part h; omega
theorem bulk_length {H : Type} : ∀ (l : List (DataW H)), l.length ≤ Rows.uptoBulkAll l
  | [] => Nat.zero_le _
  | x :: r => by
    have := bulk_one x
    have := bulk_length r
    simp only [Rows.uptoBulkAll, List.length_cons]; omega

/-- The length of a slice that is read takes no more than the reach. -/
theorem len_reach {t : Ty} {T E : Nat} (hu : PP.underlying T = some (.slice E)) (hb : Nat.ble t.bytes (PP.bytesOf E) = true) {H : Type} {enc : TypeId × Value → H} {W : World} {fuel : Nat} {cs : List Value} {d : DataW H} {ps : List MemPlace}
    (h : DataW.trod enc PP W 0 (fun _ => true) true fuel T cs = some (d, ps)) (hw : wOk T d) {x : List t.T} (hx : Rd okAll W (.slice t) x cs) : x.length * t.bytes ≤ reachBytes ∧ x.length + 1 ≤ Rows.uptoBulk d := by
  obtain ⟨A, c, h1, _⟩ := hx
  rcases DataW.trod_slice hu h with ⟨rfl, _⟩ | ⟨a, len, cap, elems, rest, n, _, rfl, hx, _, hlc, hcap, hlen, hel, _, _⟩
  · have h2 := (List.cons.inj h1).1
    injection h2 with _ h3 _
    have h3' : x.length = 0 := h3.symm
    rw [h3']
    exact ⟨by omega, bulk_one d⟩
  · cases hx
    have h2 := (List.cons.inj h1).1
    injection h2 with _ h3 _
    have h3' : x.length = len := h3.symm
    have hwl : ∀ n ∈ (DataW.slice (elems.map (·.1)) (rest.map (·.1)) : DataW H).weights PP T, n ≤ reachBytes := hw
    simp only [DataW.weights, hu, List.mem_cons, List.mem_append, List.length_map] at hwl
    have hbytes := hwl _ (.inl rfl)
    have hb' : len * t.bytes ≤ len * PP.bytesOf E := Nat.mul_le_mul_left _ (by simpa using hb)
    have : len * PP.bytesOf E ≤ (elems.length + rest.length) * PP.bytesOf E := Nat.mul_le_mul_right _ (by omega)
    refine ⟨by rw [h3']; omega, ?_⟩
    have k1 := bulk_length (elems.map (·.1))
    rw [List.length_map] at k1
    simp only [Rows.uptoBulk]
    omega

theorem open_structB {H : Type} {enc : TypeId × Value → H} {W : World} {fuel T : Nat} {Fs : List Nat} {cs : List Value} {d : DataW H} {ps : List MemPlace} (hf : fldOk T Fs = true) (h : DataW.trod enc PP W 0 (fun _ => true) true fuel T cs = some (d, ps)) (hw : wOk T d) :
    cs.length = Fs.length ∧ ∀ (i F : Nat), Fs[i]? = some F → ∃ c n d' p, cs[i]? = some c ∧ DataW.trod enc PP W 0 (fun _ => true) true n F [c] = some (d', p) ∧ wOk F d' ∧ Rows.uptoBulk d' ≤ Rows.uptoBulk d := by
  unfold fldOk at hf
  cases hu : PP.underlying T with
  | none => rw [hu] at hf; cases hf
  | some u =>
    rw [hu] at hf
    cases u with
    | struct fs =>
      simp only [Bool.and_eq_true, beq_iff_eq, List.all_eq_true] at hf
      obtain ⟨⟨h1, h2⟩, h3⟩ := hf
      obtain ⟨xs, n, _, hx, hl, hl2, hel⟩ := DataW.trod_struct hu h
      cases hx
      have hfl : fs.toList.length = Fs.length := by
        have := congrArg List.length h1
        simpa using this
      refine ⟨hl.trans h2, fun i F hF => ?_⟩
      have hi : i < Fs.length := (List.getElem?_eq_some_iff.1 hF).1
      have hif : i < fs.size := by rw [← Array.length_toList, hfl]; exact hi
      have hz : (fs.toList.map fun f => (f.type, f.offset))[i]? = some (F, i) := by
        rw [h1, List.getElem?_zip_eq_some]
        exact ⟨hF, by simp [hi]⟩
      simp only [List.getElem?_map, Option.map_eq_some_iff, Prod.mk.injEq] at hz
      obtain ⟨f, hf1, hf2, hf3⟩ := hz
      have he := hel i f (by simpa using hf1)
      rw [hf2, hf3] at he
      have hc1 : PP.cellsOf F = 1 := by simpa using h3 F (List.mem_of_getElem? hF)
      rw [hc1] at he
      have hic : i < cs.length := by rw [hl, h2]; exact hi
      have hix : i < xs.length := by rw [hl2]; exact hif
      rw [List.drop_eq_getElem_cons hic, List.take_succ_cons, List.take_zero, List.getElem?_eq_getElem hix] at he
      refine ⟨cs[i], n, _, _, List.getElem?_eq_getElem hic, he, fun m hm => hw m ?_, ?_⟩
      · simp only [DataW.weights, hu]
        refine DataW.weights_mem_each (j := i) (t := F) (d := (xs[i]).1) ?_ ?_ m hm
        · simp only [List.getElem?_map, hf1, Option.map_some, hf2]
        · simp only [List.getElem?_map, List.getElem?_eq_getElem hix, Option.map_some]
      · have := bulk_part (d := (xs[i]).1) (l := xs.map (·.1)) (List.mem_map.2 ⟨xs[i], List.getElem_mem hix, rfl⟩)
        refine Nat.le_trans this ?_
        simp only [Rows.uptoBulk]
        omega
    | _ => cases hf

/-- The bytes of records that are read, and one for each, are within the bulk. -/
theorem bulk_BB {H : Type} {enc : TypeId × Value → H} {W : World} {fuel : Nat} {cs : List Value} {d : DataW H} {ps : List MemPlace} (h : DataW.trod enc PP W 0 (fun _ => true) true fuel 22 cs = some (d, ps)) (hw : wOk 22 d) {x : List (List UInt8)} (hx : Rd okAll W tBB x cs) : szR x + 1 ≤ Rows.uptoBulk d := by
  have hl := (len_reach (t := tB) Try.underlying22 (by kernel_rfl) h hw hx).2
  obtain ⟨A, c, h1, _, _, _, _, h6⟩ := hx
  rcases DataW.trod_slice Try.underlying22 h with ⟨rfl, _⟩ | ⟨a, len, cap, elems, rest, n, _, rfl, hx, _, hlc, hcap, hlen, hel, _, _⟩
  · have h2 := (List.cons.inj h1).1
    injection h2 with _ h3 _
    have h3' : x.length = 0 := h3.symm
    have : x = [] := List.eq_nil_of_length_eq_zero h3'
    subst this
    exact bulk_one d
  · cases hx
    have h2 := (List.cons.inj h1).1
    injection h2 with h2a h3 _
    have h3' : x.length = len := h3.symm
    have hwl : ∀ n ∈ (DataW.slice (elems.map (·.1)) (rest.map (·.1)) : DataW H).weights PP 22, n ≤ reachBytes := hw
    simp only [DataW.weights, Try.underlying22, List.mem_cons, List.mem_append, List.length_map] at hwl
    have hpt : ∀ i (hi : i < x.length) (hi2 : i < elems.length), (x[i]'hi).length + 1 ≤ Rows.uptoBulk (elems[i]'hi2).1 := by
      intro i hi hi2
      obtain ⟨b, o, hA, k⟩ := h6 a h2a.symm (by omega)
      obtain ⟨_, _, ds, k3, k4⟩ := k i hi
      have := hel i (by omega)
      rw [List.getElem?_eq_getElem hi2] at this
      obtain ⟨ds0, m1, m2⟩ := Option.bind_eq_some_iff.1 this
      subst hA
      have hc : PP.cellsOf 35 = 1 := by kernel_rfl
      rw [Addr.add_lit, hc] at m1
      obtain ⟨l1, l2⟩ := cells_at m1
      have hds1 : ds.length = 1 := Rd.len _ _ _ k4
      have hds : ds = ds0 := by
        rcases ds with _ | ⟨u, _ | ⟨v, ds⟩⟩ <;> simp at hds1
        rcases ds0 with _ | ⟨u', _ | ⟨v', ds0⟩⟩ <;> simp at l1
        have e1 := k3 0 u rfl
        have e2 := l2 0 u' rfl
        have e3 : W.cell? ⟨b, o + i * 1 + 0, none⟩ = some u := e1
        have e4 : W.cell? ⟨b, o + i * 1 + 0, none⟩ = some u' := e2
        rw [e3] at e4
        cases e4; rfl
      subst hds
      have hwe : wOk 35 (elems[i]'hi2).1 := fun m hm => hwl m (.inr (.inl (weights_all (List.mem_map.2 ⟨elems[i], List.getElem_mem hi2, rfl⟩) m hm)))
      exact (len_reach (t := .u8) Try.underlying35 (by kernel_rfl) m2 hwe k4).2
    have sum : ∀ (y : List (List UInt8)) (e : List (DataW H × List MemPlace)), y.length = e.length → (∀ i (hi : i < y.length) (hi2 : i < e.length), (y[i]'hi).length + 1 ≤ Rows.uptoBulk (e[i]'hi2).1) → szR y ≤ Rows.uptoBulkAll (e.map (·.1)) := by
      intro y
      induction y with
      | nil => intro e _ _; exact Nat.zero_le _
      | cons b y ih =>
        intro e hl hp
        cases e with
        | nil => simp at hl
        | cons u e =>
          have k1 := hp 0 (by simp) (by simp)
          have k2 := ih e (by simpa using hl) (fun i hi hi2 => hp (i + 1) (by simpa using hi) (by simpa using hi2))
          simp only [List.getElem_cons_zero] at k1
          simp only [szR, List.map_cons, Rows.uptoBulkAll]
          omega
    have := sum x elems (by omega) hpt
    simp only [Rows.uptoBulk]
    omega

section
variable {H : Type} {enc : TypeId × Value → H} {W : World} {base : Nat} {v : Value} {d : DataW H} {ps : List MemPlace}
theorem arg_bb (hv : Value.okWide PP W .any base 22 v) (h : DataW.Trod enc PP W 0 (fun _ => true) true 22 v d ps) (hw : wOk 22 d) : ∃ xs : List (List UInt8), (o1 (.sl tB xs)).D okAll W v ∧ szR xs + 1 ≤ Rows.uptoBulk d := by
  obtain ⟨a, len, cap, rfl⟩ := okWide_slice Try.underlying22 hv
  obtain ⟨fuel, hf⟩ := h
  obtain ⟨x, hx⟩ := opn_BB H enc W fuel _ d ps hf hw
  exact ⟨x, hx, bulk_BB hf hw hx⟩
theorem arg_b (hv : Value.okWide PP W .any base 35 v) (h : DataW.Trod enc PP W 0 (fun _ => true) true 35 v d ps) (hw : wOk 35 d) : ∃ xs : List UInt8, (o1 (.sl .u8 xs)).D okAll W v ∧ xs.length + 1 ≤ Rows.uptoBulk d := by
  obtain ⟨a, len, cap, rfl⟩ := okWide_slice Try.underlying35 hv
  obtain ⟨fuel, hf⟩ := h
  obtain ⟨x, hx⟩ := opn_B H enc W fuel _ d ps hf hw
  exact ⟨x, hx, (len_reach (t := .u8) Try.underlying35 (by kernel_rfl) hf hw hx).2⟩
theorem arg_journalB (hv : Value.okWide PP W .any base 45 v) (h : DataW.Trod enc PP W 0 (fun _ => true) true 45 v d ps) (hw : wOk 45 d) :
    ∃ (rs : List (List UInt8)) (a b : Int), (AV.p (.agg [.sl tB rs, vI a, vI b])).D okAll W v ∧ (rs.length + 1) * 24 ≤ 140737488355328 ∧ szR rs + 1 ≤ Rows.uptoBulk d := by
  obtain ⟨cs, rfl⟩ := arg_agg Try.underlying45 hv
  obtain ⟨fuel, hf⟩ := h
  have hf' : DataW.trod enc PP W 0 (fun _ => true) true fuel 45 cs = some (d, ps) := by simpa [Value.cells] using hf
  obtain ⟨hl, hel⟩ := open_structB (Fs := [22, 3, 3]) (by kernel_rfl) hf' hw
  obtain ⟨c0, n0, d0, p0, k0, m0, w0, u0⟩ := hel 0 22 rfl
  obtain ⟨c1, n1, d1, p1, k1, m1, w1, _⟩ := hel 1 3 rfl
  obtain ⟨c2, n2, d2, p2, k2, m2, w2, _⟩ := hel 2 3 rfl
  obtain ⟨x0, hx0⟩ := opn_BB H enc W _ _ _ _ m0 w0
  obtain ⟨x1, hx1⟩ := opn_int H enc W _ _ _ _ m1 w1
  obtain ⟨x2, hx2⟩ := opn_int H enc W _ _ _ _ m2 w2
  rcases cs with _ | ⟨y0, _ | ⟨y1, _ | ⟨y2, _ | ⟨y3, l⟩⟩⟩⟩ <;> simp at hl
  simp at k0 k1 k2
  subst k0 k1 k2
  have e1 : y1 = .int .i64 x1 := (List.cons.inj hx1).1
  have e2 : y2 = .int .i64 x2 := (List.cons.inj hx2).1
  have hr := (len_reach (t := tB) Try.underlying22 (by kernel_rfl) m0 w0 hx0).1
  have hr' : List.length (α := List UInt8) x0 * 24 ≤ 140737488351232 := hr
  have hb := bulk_BB m0 w0 hx0
  refine ⟨x0, x1, x2, ⟨_, rfl, hx0, Rd.one _ _ _ hx0 _ (by simp), ⟨e1, rfl⟩, by rw [e1]; rfl, ⟨e2, rfl⟩, by rw [e2]; rfl, trivial⟩, ?_, by omega⟩
  show (List.length (α := List UInt8) x0 + 1) * 24 ≤ _
  omega
end
end B
end Go.Proofs.Ytbmnhagbplkagaa
