import Derived.Test.YtbmnhagbplkagaaBb
import Derived.Test.YtbmnhagbplkagaaRows
import Derived.ProofKit
import Derived.OpenShut
import Derived.SizedLaws
import Derived.ChangeOld
import Derived.ShutString
import Derived.Below
import Derived.Deep.Slices
/- How the arguments of the given statements read as data. -/
namespace Go.Proofs.Ytbmnhagbplkagaa
namespace B
open Go.RowKit Go.ChangeShapes Go.WideShapes
set_option maxRecDepth 100000

theorem Ty.size_pos : ∀ t : Ty, 1 ≤ t.size
  | .u8 | .int | .bool | .slice _ => Nat.le_refl _
  | .pair a b => by have := a.size_pos; simp only [Ty.size]; omega

abbrev okAll : Nat → Prop := fun _ => True
def wOk {H : Type} (T : Nat) (d : DataW H) : Prop := ∀ n ∈ d.weights PP T, n ≤ reachBytes

/-- What the reading of a Go type means. -/
def Opn (t : Ty) (T : Nat) : Prop := ∀ (H : Type) (enc : TypeId × Value → H) (W : World) (fuel : Nat) (cs : List Value) (d : DataW H) (ps : List MemPlace),
  DataW.trod enc PP W 0 (fun _ => true) true fuel T cs = some (d, ps) → wOk T d → ∃ x : t.T, Rd okAll W t x cs

theorem opn_u8 : Opn .u8 5 := by
  intro H enc W fuel cs d ps h _
  obtain ⟨n, rfl, _, hw⟩ := DataW.trod_int Try.underlying5 h
  have hb := Go.bounds_u8 hw
  refine ⟨UInt8.ofNat n.toNat, ?_⟩
  show [Value.int .u8 n] = [Value.int .u8 ((UInt8.ofNat n.toNat).toNat : Int)]
  have : ((UInt8.ofNat n.toNat).toNat : Int) = n := by
    rw [UInt8.toNat_ofNat_of_lt' (by show n.toNat < 256; omega)]; omega
  rw [this]
theorem opn_int : Opn .int 3 := by
  intro H enc W fuel cs d ps h _
  obtain ⟨n, rfl, _, hw⟩ := DataW.trod_int Try.underlying3 h
  exact ⟨n, rfl⟩
theorem opn_bool : Opn .bool 4 := by
  intro H enc W fuel cs d ps h _
  obtain ⟨b, rfl, _⟩ := DataW.trod_bool Try.underlying4 h
  exact ⟨b, rfl⟩

theorem cells_at {W : World} {b o n : Nat} {cs : List Value} (h : W.cells? 0 ⟨b, o, none⟩ n = some cs) : cs.length = n ∧ At W b o cs := by
  unfold World.cells? at h
  rw [if_pos (Nat.zero_le _)] at h
  have hl := Go.mapM_some_length h
  refine ⟨by simpa using hl, fun j u hj => ?_⟩
  have hj' : j < n := by
    have := (List.getElem?_eq_some_iff.1 hj).1
    rw [hl] at this
    simpa using this
  have := Go.mapM_some_get h j j (by simp [hj'])
  rw [Addr.add_lit] at this
  rw [this, hj]

theorem weights_all {H : Type} {E : Nat} : ∀ {l : List (DataW H)} {d : DataW H}, d ∈ l → ∀ n ∈ d.weights PP E, n ∈ DataW.weightsAll PP E l
  | x :: l, d, hd, n, hn => by
    simp only [DataW.weightsAll, List.mem_append]
    rcases List.mem_cons.1 hd with rfl | hd
    · exact .inl hn
    · exact .inr (weights_all hd n hn)

theorem opn_slice {t : Ty} {T E : Nat} (ht : Opn t E) (hu : PP.underlying T = some (.slice E)) (hc : PP.cellsOf E = t.size) (hb : Nat.ble t.bytes (PP.bytesOf E) = true) : Opn (.slice t) T := by
  intro H enc W fuel cs d ps h hw
  rcases DataW.trod_slice hu h with ⟨rfl, _⟩ | ⟨a, len, cap, elems, rest, n, _, rfl, hx, _, hlc, hcap, hlen, hel, _, _⟩
  · refine ⟨[], none, 0, rfl, Nat.le_refl _, by omega, (show 0 * _ ≤ _ by omega), fun _ => rfl, fun ad had => by cases had⟩
  · cases hx
    have hwl : ∀ n ∈ (DataW.slice (elems.map (·.1)) (rest.map (·.1)) : DataW H).weights PP T, n ≤ reachBytes := hw
    simp only [DataW.weights, hu, List.mem_cons, List.mem_append, List.length_map] at hwl
    have hbytes := hwl _ (.inl rfl)
    have hsz := t.size_pos
    have hi : ∀ i, i < len → ∃ x : t.T, a.spot = none ∧ a.block < W.heap.size ∧ ∃ ds, At W a.block (a.off + i * t.size) ds ∧ Rd okAll W t x ds := by
      intro i hi
      have := hel i hi
      have hi' : i < elems.length := by omega
      rw [List.getElem?_eq_getElem hi'] at this
      obtain ⟨ds, h1, h2⟩ := Option.bind_eq_some_iff.1 this
      have hspot : a.spot = none ∧ a.block < W.heap.size := by
        have h0 := hel 0 (by omega)
        have h0' : 0 < elems.length := by omega
        rw [List.getElem?_eq_getElem h0'] at h0
        obtain ⟨ds0, h1, _⟩ := Option.bind_eq_some_iff.1 h0
        rw [Nat.zero_mul, hc] at h1
        have h1' : W.cells? 0 a t.size = some ds0 := h1
        unfold World.cells? at h1'
        rw [if_pos (Nat.zero_le _)] at h1'
        have := Go.mapM_some_get h1' 0 0 (by rw [List.getElem?_range hsz])
        have hl0 := Go.mapM_some_length h1'
        have h3 : W.cell? a = ds0[0]? := this
        rw [List.getElem?_eq_getElem (by rw [hl0]; simp; omega)] at h3
        unfold World.cell? at h3
        split at h3
        · rename_i hq
          split at h3
          · cases h3
          · rename_i hs
            refine ⟨by cases hsp : a.spot <;> simp_all, ?_⟩
            exact (Array.getElem?_eq_some_iff.1 hq).1
        · cases h3
      obtain ⟨b, o, sp⟩ := a
      obtain ⟨rfl, hlt⟩ := hspot
      rw [Addr.add_lit, hc] at h1
      obtain ⟨hl1, hat⟩ := cells_at h1
      obtain ⟨x, hx⟩ := ht H enc W n ds _ _ h2 (fun m hm => hwl m (.inr (.inl (weights_all (List.mem_map.2 ⟨elems[i], List.getElem_mem hi', rfl⟩) m hm))))
      exact ⟨x, rfl, hlt, ds, hat, hx⟩
    have hne : len = 0 ∨ Nonempty t.T := by
      rcases Nat.eq_zero_or_pos len with q | q
      · exact .inl q
      · exact .inr ⟨(hi 0 q).choose⟩
    rcases hne with q | q
    · subst q
      refine ⟨[], some a, cap, rfl, Nat.zero_le _, hcap, (show 0 * _ ≤ _ by omega), (fun q => by cases q), fun ad had hz => absurd hz (by simp)⟩
    · classical
      have q' : Inhabited t.T := ⟨Classical.choice q⟩
      obtain ⟨f, hf⟩ := Go.Deep.choose_lt (α := t.T) (p := fun i x => a.spot = none ∧ a.block < W.heap.size ∧ ∃ ds, At W a.block (a.off + i * t.size) ds ∧ Rd okAll W t x ds) hi
      have hl : ((List.range len).map f).length = len := by simp
      refine ⟨(List.range len).map f, some a, cap, by rw [hl], by rw [hl]; exact hlc, hcap, ?_, (fun q => by cases q), fun ad had hz => ?_⟩
      · rw [hl]
        have hb' : len * t.bytes ≤ len * PP.bytesOf E := Nat.mul_le_mul_left _ (by simpa using hb)
        have : len * PP.bytesOf E ≤ (elems.length + rest.length) * PP.bytesOf E := Nat.mul_le_mul_right _ (by omega)
        have h47 : reachBytes ≤ 140737488355328 := by decide
        omega
      · cases had
        rw [hl] at hz
        obtain ⟨b, o, sp⟩ := a
        obtain ⟨rfl, _⟩ := hf 0 hz
        refine ⟨b, o, rfl, fun i hi => ?_⟩
        have hi' : i < len := by rw [← hl]; exact hi
        obtain ⟨_, k1, ds, k2, k3⟩ := hf i hi'
        refine ⟨trivial, k1, ds, k2, ?_⟩
        have : ((List.range len).map f)[i]'hi = f i := by simp
        rw [this]; exact k3

/-- Fields that are one cell each. -/
noncomputable def fldOk (T : Nat) (Fs : List Nat) : Bool := match PP.underlying T with
  | some (.struct fs) => (fs.toList.map fun f => (f.type, f.offset)) == Fs.zip (List.range Fs.length) && PP.cellsOf T == Fs.length && Fs.all fun F => PP.cellsOf F == 1
  | _ => false

theorem open_struct {H : Type} {enc : TypeId × Value → H} {W : World} {fuel T : Nat} {Fs : List Nat} {cs : List Value} {d : DataW H} {ps : List MemPlace} (hf : fldOk T Fs = true) (h : DataW.trod enc PP W 0 (fun _ => true) true fuel T cs = some (d, ps)) (hw : wOk T d) :
    cs.length = Fs.length ∧ ∀ (i F : Nat), Fs[i]? = some F → ∃ c n d p, cs[i]? = some c ∧ DataW.trod enc PP W 0 (fun _ => true) true n F [c] = some (d, p) ∧ wOk F d := by
  unfold fldOk at hf
  cases hu : PP.underlying T with
  | none => rw [hu] at hf; cases hf
  | some u =>
    rw [hu] at hf
    cases u with
    | struct fs =>
      simp only [Bool.and_eq_true, beq_iff_eq, List.all_eq_true] at hf
      obtain ⟨⟨h1, h2⟩, h3⟩ := hf
      obtain ⟨xs, n, _, hx, hl, hl2, hel⟩ := DataW.trod_struct hu h
      cases hx
      have hfl : fs.toList.length = Fs.length := by
        have := congrArg List.length h1
        simpa using this
      refine ⟨hl.trans h2, fun i F hF => ?_⟩
      have hi : i < Fs.length := (List.getElem?_eq_some_iff.1 hF).1
      have hif : i < fs.size := by rw [← Array.length_toList, hfl]; exact hi
      have hz : (fs.toList.map fun f => (f.type, f.offset))[i]? = some (F, i) := by
        rw [h1, List.getElem?_zip_eq_some]
        exact ⟨hF, by simp [hi]⟩
      simp only [List.getElem?_map, Option.map_eq_some_iff, Prod.mk.injEq] at hz
      obtain ⟨f, hf1, hf2, hf3⟩ := hz
      have he := hel i f (by simpa using hf1)
      rw [hf2, hf3] at he
      have hc1 : PP.cellsOf F = 1 := by simpa using h3 F (List.mem_of_getElem? hF)
      rw [hc1] at he
      have hic : i < cs.length := by rw [hl, h2]; exact hi
      have hix : i < xs.length := by rw [hl2]; exact hif
      rw [List.drop_eq_getElem_cons hic, List.take_succ_cons, List.take_zero, List.getElem?_eq_getElem hix] at he
      refine ⟨cs[i], n, _, _, List.getElem?_eq_getElem hic, he, fun m hm => hw m ?_⟩
      simp only [DataW.weights, hu]
      refine DataW.weights_mem_each (j := i) (t := F) (d := (xs[i]).1) ?_ ?_ m hm
      · simp only [List.getElem?_map, hf1, Option.map_some, hf2]
      · simp only [List.getElem?_map, List.getElem?_eq_getElem hix, Option.map_some]
    | _ => cases hf

theorem opn_pair2 {a b : Ty} {T F G : Nat} (ha : Opn a F) (hb : Opn b G) (hf : fldOk T [F, G] = true) : Opn (.pair a b) T := by
  intro H enc W fuel cs d ps h hw
  obtain ⟨hl, hel⟩ := open_struct hf h hw
  obtain ⟨c0, n0, d0, p0, k0, m0, w0⟩ := hel 0 F rfl
  obtain ⟨c1, n1, d1, p1, k1, m1, w1⟩ := hel 1 G rfl
  obtain ⟨x, hx⟩ := ha H enc W _ _ _ _ m0 w0
  obtain ⟨y, hy⟩ := hb H enc W _ _ _ _ m1 w1
  refine ⟨(x, y), [c0], [c1], ?_, hx, hy⟩
  rcases cs with _ | ⟨x0, _ | ⟨x1, _ | ⟨x2, l⟩⟩⟩ <;> simp at hl
  simp at k0 k1
  rw [k0, k1]; rfl
theorem opn_pair3 {a b c : Ty} {T F G K : Nat} (ha : Opn a F) (hb : Opn b G) (hc : Opn c K) (hf : fldOk T [F, G, K] = true) : Opn (.pair a (.pair b c)) T := by
  intro H enc W fuel cs d ps h hw
  obtain ⟨hl, hel⟩ := open_struct hf h hw
  obtain ⟨c0, n0, d0, p0, k0, m0, w0⟩ := hel 0 F rfl
  obtain ⟨c1, n1, d1, p1, k1, m1, w1⟩ := hel 1 G rfl
  obtain ⟨c2, n2, d2, p2, k2, m2, w2⟩ := hel 2 K rfl
  obtain ⟨x, hx⟩ := ha H enc W _ _ _ _ m0 w0
  obtain ⟨y, hy⟩ := hb H enc W _ _ _ _ m1 w1
  obtain ⟨z, hz⟩ := hc H enc W _ _ _ _ m2 w2
  refine ⟨(x, y, z), [c0], [c1, c2], ?_, hx, [c1], [c2], rfl, hy, hz⟩
  rcases cs with _ | ⟨x0, _ | ⟨x1, _ | ⟨x2, _ | ⟨x3, l⟩⟩⟩⟩ <;> simp at hl
  simp at k0 k1 k2
  rw [k0, k1, k2]; rfl

theorem opn_B : Opn tB 35 := opn_slice opn_u8 Try.underlying35 (by kernel_rfl) (by kernel_rfl)
theorem opn_BB : Opn tBB 22 := opn_slice opn_B Try.underlying22 (by kernel_rfl) (by kernel_rfl)
theorem opn_W : Opn tW 76 := opn_pair2 opn_int opn_B (by kernel_rfl)
theorem opn_WW : Opn (.slice tW) 23 := opn_slice opn_W Try.underlying23 (by kernel_rfl) (by kernel_rfl)
theorem opn_Act : Opn tAct 61 := opn_pair3 opn_bool opn_u8 opn_u8 (by kernel_rfl)
theorem opn_Acts : Opn (.slice tAct) 58 := opn_slice opn_Act Try.underlying58 (by kernel_rfl) (by kernel_rfl)
theorem opn_Cr : Opn tCr 56 := opn_pair3 opn_BB opn_bool opn_u8 (by kernel_rfl)
theorem opn_Crs : Opn (.slice tCr) 54 := opn_slice opn_Cr Try.underlying54 (by kernel_rfl) (by kernel_rfl)

/-! ### arguments -/
section
variable {H : Type} {enc : TypeId × Value → H} {W : World} {base : Nat} {v : Value} {d : DataW H} {ps : List MemPlace}

theorem arg_int (hv : Value.okWide PP W .any base 3 v) (h : DataW.Trod enc PP W 0 (fun _ => true) true 3 v d ps) : ∃ n, (o1 (vI n)).D okAll W v := by
  obtain ⟨n, rfl, _⟩ := open_int Try.underlying3 hv h
  exact ⟨n, rfl, rfl⟩
theorem arg_u8 (hv : Value.okWide PP W .any base 5 v) (h : DataW.Trod enc PP W 0 (fun _ => true) true 5 v d ps) : ∃ c : UInt8, (o1 (.v (.int .u8 (c.toNat : Int)))).D okAll W v := by
  obtain ⟨n, rfl, _, _, hw⟩ := open_int Try.underlying5 hv h
  have hb := Go.bounds_u8 hw
  refine ⟨UInt8.ofNat n.toNat, ?_, rfl⟩
  have : ((UInt8.ofNat n.toNat).toNat : Int) = n := by
    rw [UInt8.toNat_ofNat_of_lt' (by show n.toNat < 256; omega)]; omega
  rw [this]
theorem arg_slice {t : Ty} {T E : Nat} (ht : Opn (.slice t) T) (hu : PP.underlying T = some (.slice E)) (hv : Value.okWide PP W .any base T v) (h : DataW.Trod enc PP W 0 (fun _ => true) true T v d ps) (hw : wOk T d) : ∃ xs : List t.T, (o1 (.sl t xs)).D okAll W v := by
  obtain ⟨a, len, cap, rfl⟩ := okWide_slice hu hv
  obtain ⟨fuel, hf⟩ := h
  exact ht H enc W fuel _ d ps hf hw
theorem arg_agg {T : Nat} {fs : Array Field} (hu : PP.underlying T = some (.struct fs)) (hv : Value.okWide PP W .any base T v) : ∃ cs : List Value, v = .agg cs.toArray := by
  unfold Value.okWide at hv
  rw [hu] at hv
  obtain ⟨cs, h, _⟩ := hv
  exact ⟨cs.toList, by rw [h]⟩
theorem arg_disk (hv : Value.okWide PP W .any base 25 v) (h : DataW.Trod enc PP W 0 (fun _ => true) true 25 v d ps) (hw : wOk 25 d) :
    ∃ (ss : List (List UInt8)) (ps : List (Int × List UInt8)) (left : Int) (st : Bool), (AV.p (.agg [.sl tB ss, .sl tW ps, vI left, vB st])).D okAll W v := by
  obtain ⟨cs, rfl⟩ := arg_agg Try.underlying25 hv
  obtain ⟨fuel, hf⟩ := h
  have hf' : DataW.trod enc PP W 0 (fun _ => true) true fuel 25 cs = some (d, ps) := by simpa [Value.cells] using hf
  obtain ⟨hl, hel⟩ := open_struct (Fs := [22, 23, 3, 4]) (by kernel_rfl) hf' hw
  obtain ⟨c0, n0, d0, p0, k0, m0, w0⟩ := hel 0 22 rfl
  obtain ⟨c1, n1, d1, p1, k1, m1, w1⟩ := hel 1 23 rfl
  obtain ⟨c2, n2, d2, p2, k2, m2, w2⟩ := hel 2 3 rfl
  obtain ⟨c3, n3, d3, p3, k3, m3, w3⟩ := hel 3 4 rfl
  obtain ⟨x0, hx0⟩ := opn_BB H enc W _ _ _ _ m0 w0
  obtain ⟨x1, hx1⟩ := opn_WW H enc W _ _ _ _ m1 w1
  obtain ⟨x2, hx2⟩ := opn_int H enc W _ _ _ _ m2 w2
  obtain ⟨x3, hx3⟩ := opn_bool H enc W _ _ _ _ m3 w3
  rcases cs with _ | ⟨y0, _ | ⟨y1, _ | ⟨y2, _ | ⟨y3, _ | ⟨y4, l⟩⟩⟩⟩⟩ <;> simp at hl
  simp at k0 k1 k2 k3
  subst k0 k1 k2 k3
  have e2 : y2 = .int .i64 x2 := (List.cons.inj hx2).1
  have e3 : y3 = .bool x3 := (List.cons.inj hx3).1
  refine ⟨x0, x1, x2, x3, _, rfl, hx0, Rd.one _ _ _ hx0 _ (by simp), hx1, Rd.one _ _ _ hx1 _ (by simp), ⟨e2, rfl⟩, by rw [e2]; rfl, ⟨e3, rfl⟩, by rw [e3]; rfl, trivial⟩
theorem arg_journal (hv : Value.okWide PP W .any base 45 v) (h : DataW.Trod enc PP W 0 (fun _ => true) true 45 v d ps) (hw : wOk 45 d) :
    ∃ (rs : List (List UInt8)) (a b : Int), (AV.p (.agg [.sl tB rs, vI a, vI b])).D okAll W v := by
  obtain ⟨cs, rfl⟩ := arg_agg Try.underlying45 hv
  obtain ⟨fuel, hf⟩ := h
  have hf' : DataW.trod enc PP W 0 (fun _ => true) true fuel 45 cs = some (d, ps) := by simpa [Value.cells] using hf
  obtain ⟨hl, hel⟩ := open_struct (Fs := [22, 3, 3]) (by kernel_rfl) hf' hw
  obtain ⟨c0, n0, d0, p0, k0, m0, w0⟩ := hel 0 22 rfl
  obtain ⟨c1, n1, d1, p1, k1, m1, w1⟩ := hel 1 3 rfl
  obtain ⟨c2, n2, d2, p2, k2, m2, w2⟩ := hel 2 3 rfl
  obtain ⟨x0, hx0⟩ := opn_BB H enc W _ _ _ _ m0 w0
  obtain ⟨x1, hx1⟩ := opn_int H enc W _ _ _ _ m1 w1
  obtain ⟨x2, hx2⟩ := opn_int H enc W _ _ _ _ m2 w2
  rcases cs with _ | ⟨y0, _ | ⟨y1, _ | ⟨y2, _ | ⟨y3, l⟩⟩⟩⟩ <;> simp at hl
  simp at k0 k1 k2
  subst k0 k1 k2
  have e1 : y1 = .int .i64 x1 := (List.cons.inj hx1).1
  have e2 : y2 = .int .i64 x2 := (List.cons.inj hx2).1
  refine ⟨x0, x1, x2, _, rfl, hx0, Rd.one _ _ _ hx0 _ (by simp), ⟨e1, rfl⟩, by rw [e1]; rfl, ⟨e2, rfl⟩, by rw [e2]; rfl, trivial⟩

theorem wOk_at {ts : List TypeId} {ds : List (DataW H)} (h : (DataW.weightsEach PP ts ds).all (· ≤ reachBytes) = true) (j : Nat) {t : TypeId} {d : DataW H} (ht : ts[j]? = some t) (hd : ds[j]? = some d) : wOk t d := fun n hn => by
  simpa using List.all_eq_true.1 h n (DataW.weights_mem_each ht hd n hn)
end

theorem row_own : ownKnob PP.godebug = none := by kernel_rfl
theorem row_laid : laidOutB PP = true := by kernel_rfl

/-- What a contract says of the call. -/
theorem acalls_true {f : Nat} {ins : List AV} {W : World} {vs : List Value} (h : ACalls f ins (o1 (vB true))) (hv : argsD okAll W ins vs) : Calls PP f vs.toArray W fun e W' => e = .returned (.bool true) ∧ Below W.heap.size W W' := by
  refine (h.2 okAll W vs hv).mono ?_
  rintro e W' ⟨v, rfl, hv, hb⟩
  exact ⟨by rw [hv.1], hb⟩

end B
end Go.Proofs.Ytbmnhagbplkagaa
