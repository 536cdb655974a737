import Derived.Test.YtbmnhagbplkagaaCc
/- What holds of a disk of four sectors whose halves are marked; the history as data. -/
namespace Go.Proofs.Ytbmnhagbplkagaa
namespace B
open Go.RowKit
set_option maxHeartbeats 4000000
set_option maxRecDepth 100000
attribute [local irreducible] awc awT thn blk DQ retQ rawQ ownQ retOk ResIs

abbrev ActT := Bool × UInt8 × UInt8
theorem u8_back (c : UInt8) : UInt8.ofNat (Int.toNat (c.toNat : Int)) = c := by simp
theorem u8_rng (c : UInt8) : (0 : Int) ≤ (c.toNat : Int) ∧ (c.toNat : Int) < 256 := ⟨by omega, by have := c.toNat_lt; omega⟩
theorem u8_i64 (c : UInt8) : IntKind.i64.wrap (c.toNat : Int) = c.toNat := by
  have := c.toNat_lt
  exact i64w (by omega) (by omega)
theorem take_snoc {α : Type} (d : α) {l : List α} {i : Nat} (h : i < l.length) : l.take (i + 1) = l.take i ++ [l.getD i d] := by
  rw [List.take_succ_eq_append_getElem h, List.getD_eq_getElem?_getD, List.getElem?_eq_getElem h]; rfl
theorem map_getD {α β : Type} (f : α → β) (d : α) (e : β) {l : List α} {i : Nat} (h : i < l.length) : (l.map f).getD i e = f (l.getD i d) := by
  rw [List.getD_eq_getElem?_getD, List.getD_eq_getElem?_getD, List.getElem?_map, List.getElem?_eq_getElem h]; rfl

/-- A sector whose halves begin with some bytes. -/
def two (x y : UInt8) : List UInt8 := x :: List.replicate 63 0 ++ y :: List.replicate 63 0
theorem two_len (x y : UInt8) : (two x y).length = 128 := by simp [two]
theorem dbl_two (c : UInt8) : dbl c = two c c := rfl
theorem pad_dbl (c : UInt8) : pad (dbl c) = dbl c := by
  unfold pad
  rw [dbl_two, two_len]; simp
/-- Sectors by the bytes of their halves. -/
def sec (f g : List UInt8) : List (List UInt8) := List.zipWith two f g
theorem sec_len {f g : List UInt8} (hf : f.length = 4) (hg : g.length = 4) : (sec f g).length = 4 := by simp [sec, hf, hg]
theorem sec_get {f g : List UInt8} {k : Nat} (hf : f.length = 4) (hg : g.length = 4) (hk : k < 4) : (sec f g).getD k [] = two (f.getD k 0) (g.getD k 0) := by
  rw [List.getD_eq_getElem?_getD, List.getD_eq_getElem?_getD, List.getD_eq_getElem?_getD]
  simp [sec, List.getElem?_zipWith, List.getElem?_eq_getElem (show k < f.length by omega), List.getElem?_eq_getElem (show k < g.length by omega)]
theorem sec_mem {f g : List UInt8} : ∀ b ∈ sec f g, b.length = 128 := by
  intro b hb
  obtain ⟨i, hi, rfl⟩ := List.mem_iff_getElem.1 hb
  simp [sec, two_len]
theorem sec_set {f g : List UInt8} {k : Nat} (x y : UInt8) : (sec f g).set k (two x y) = sec (f.set k x) (g.set k y) := by
  unfold sec
  apply List.ext_getElem?
  intro i
  rw [List.getElem?_set]
  simp only [List.getElem?_zipWith, List.getElem?_set, List.length_zipWith]
  by_cases q : k = i
  · subst q
    by_cases h1 : k < f.length <;> by_cases h2 : k < g.length <;> simp [h1, h2] <;> omega
  · simp [q]

def wr (a : ActT) : Int × List UInt8 := (((a.2.1.toNat % 4 : Nat) : Int), dbl a.2.2)
def stF (f : List UInt8) (a : ActT) : List UInt8 := f.set (a.2.1.toNat % 4) a.2.2
def foldF (f : List UInt8) (ws : List ActT) : List UInt8 := ws.foldl stF f
theorem foldF_len (ws : List ActT) : ∀ f : List UInt8, (foldF f ws).length = f.length := by
  induction ws with
  | nil => intro f; rfl
  | cons a ws ih => intro f; show (foldF (stF f a) ws).length = _; rw [ih]; simp [stF]
theorem foldF_snoc (f : List UInt8) (ws : List ActT) (a : ActT) : foldF f (ws ++ [a]) = stF (foldF f ws) a := by simp [foldF]
theorem perf_sec (ws : List ActT) : ∀ f : List UInt8, perf (sec f f) (ws.map wr) = sec (foldF f ws) (foldF f ws) := by
  induction ws with
  | nil => intro f; rfl
  | cons a ws ih =>
    intro f
    show perf ((sec f f).set (wr a).1.toNat (wr a).2) (ws.map wr) = _
    rw [show (wr a).2 = two a.2.2 a.2.2 from rfl, sec_set, show (wr a).1.toNat = a.2.1.toNat % 4 from rfl]
    exact ih (stF f a)

def hD (f : List UInt8) (ws : List ActT) (room : Int) : Dk := ⟨sec f f, ws.map wr, room, false⟩
theorem hD_bad {f : List UInt8} {ws : List ActT} {room : Int} (hf : f.length = 4) (hw : ws.length ≤ 40) (h0 : 0 ≤ room) (h1 : room ≤ 65536) : (hD f ws room).bad = false := by
  refine bad_iff.2 ⟨dBad_iff.2 ⟨?_, ?_, ?_, by show -1 ≤ room; omega, h1, ?_, sec_mem⟩, rfl⟩
  · show 1 ≤ (sec f f).length; rw [sec_len hf hf]; decide
  · show (sec f f).length ≤ _; rw [sec_len hf hf]; decide
  · show (ws.map wr).length ≤ _; rw [List.length_map]; omega
  · intro w hw
    obtain ⟨a, _, rfl⟩ := List.mem_map.1 hw
    refine ⟨?_, ?_, two_len _ _⟩
    · show (0 : Int) ≤ ((a.2.1.toNat % 4 : Nat) : Int); omega
    · show ((a.2.1.toNat % 4 : Nat) : Int) < ((sec f f).length : Int); rw [sec_len hf hf]; omega
theorem hD_has {f : List UInt8} {ws : List ActT} {room : Int} (hf : f.length = 4) {k : Nat} (hk : k < 4) : (hD f ws room).has (k : Int) = true :=
  has_iff.2 ⟨by omega, by show (k : Int) < ((sec f f).length : Int); rw [sec_len hf hf]; omega⟩
theorem hD_read {f : List UInt8} {ws : List ActT} {room : Int} (hf : f.length = 4) (hw : ws.length ≤ 40) (h0 : 0 ≤ room) (h1 : room ≤ 65536) {k : Nat} (hk : k < 4) :
    dRead (hD f ws room) (k : Int) = (two ((foldF f ws).getD k 0) ((foldF f ws).getD k 0), 0) := by
  rw [read_ok (hD_bad hf hw h0 h1) (hD_has hf hk), Int.toNat_natCast]
  have := perf_get k (ws.map wr) (sec f f) (by rw [sec_len hf hf]; exact hk) (fun w hw => by
    obtain ⟨a, _, rfl⟩ := List.mem_map.1 hw
    show (0 : Int) ≤ ((a.2.1.toNat % 4 : Nat) : Int); omega)
  rw [perf_sec, sec_get (by rw [foldF_len, hf]) (by rw [foldF_len, hf]) hk] at this
  show (lastAt (ws.map wr) k ((sec f f).getD k []), _) = _
  rw [← this]
theorem rest_read {f g : List UInt8} (hf : f.length = 4) (hg : g.length = 4) {k : Nat} (hk : k < 4) : dRead ⟨sec f g, [], -1, false⟩ (k : Int) = (two (f.getD k 0) (g.getD k 0), 0) := by
  rw [read_ok]
  · show ((sec f g).getD (Int.toNat (k : Int)) [], _) = _
    rw [Int.toNat_natCast, sec_get hf hg hk]
  · refine bad_iff.2 ⟨dBad_iff.2 ⟨?_, ?_, by simp, by show (-1 : Int) ≤ -1; omega, by show (-1 : Int) ≤ 65536; omega, (fun w hw => by cases hw), sec_mem⟩, rfl⟩
    · rw [sec_len hf hg]; decide
    · rw [sec_len hf hg]; decide
  · exact has_iff.2 ⟨by omega, by show (k : Int) < ((sec f g).length : Int); rw [sec_len hf hg]; omega⟩
theorem hD_write {f : List UInt8} {ws : List ActT} {room : Int} (hf : f.length = 4) (hw : ws.length ≤ 40) (h0 : 0 ≤ room) (h1 : room ≤ 65536) (a : ActT) :
    dWrite (hD f ws room) ((a.2.1.toNat % 4 : Nat) : Int) (dbl a.2.2) = (hD f (ws ++ [a]) room, 0) := by
  rw [write_ok (hD_bad hf hw h0 h1) (hD_has hf (by omega)) (by rw [dbl_two, two_len]; exact Nat.le_refl _) (by show (ws.map wr).length ≠ _; rw [List.length_map]; omega)]
  unfold Dk.add hD
  rw [pad_dbl, List.map_append]
  rfl
theorem hD_go {f : List UInt8} {ws : List ActT} {room : Int} (hf : f.length = 4) (hw : ws.length ≤ 40) (h0 : 0 ≤ room) (h1 : room ≤ 65536) (hr : (ws.length : Int) ≤ room) :
    dSync (hD f ws room) = (hD (foldF f ws) [] (room - ws.length), 0) := by
  rw [sync_go (hD_bad hf hw h0 h1)]
  · unfold Dk.done Dk.rest hD
    dsimp only
    rw [perf_sec, show decide (room ≥ 0) = true by simp; omega, List.length_map]
    rfl
  · unfold Dk.stops hD
    dsimp only
    rw [List.length_map, show decide (room < (ws.length : Int)) = false by simp; omega, Bool.and_false]
theorem hD_stop {f : List UInt8} {ws : List ActT} {room : Nat} (hf : f.length = 4) (hw : ws.length ≤ 40) (h1 : room ≤ 65536) (hr : room < ws.length) :
    dSync (hD f ws room) = (⟨sec (foldF f (ws.take (room + 1))) (foldF f (ws.take room)), [], 0, true⟩, 40) := by
  rw [sync_stop (hD_bad hf hw (by omega) (by omega))]
  · unfold Dk.torn hD
    dsimp only
    rw [Int.toNat_natCast, ← List.map_take, perf_sec, map_getD wr tAct.dflt _ hr, take_snoc tAct.dflt hr, foldF_snoc]
    have hl : (foldF f (ws.take room)).length = 4 := by rw [foldF_len, hf]
    generalize foldF f (ws.take room) = F at hl
    generalize hq : ws.getD room tAct.dflt = a
    refine Prod.ext ?_ rfl
    show (⟨_, _, _, _⟩ : Dk) = ⟨_, _, _, _⟩
    congr 1
    unfold dTorn
    rw [show (wr a).1.toNat = a.2.1.toNat % 4 from rfl, sec_get hl hl (by omega), show (wr a).2 = two a.2.2 a.2.2 from rfl]
    have e : (two a.2.2 a.2.2).take 64 ++ (two (F.getD (a.2.1.toNat % 4) 0) (F.getD (a.2.1.toNat % 4) 0)).drop 64 = two a.2.2 (F.getD (a.2.1.toNat % 4) 0) := rfl
    rw [e, sec_set]
    have e2 : F.set (a.2.1.toNat % 4) (F.getD (a.2.1.toNat % 4) 0) = F := by
      rw [List.getD_eq_getElem?_getD, List.getElem?_eq_getElem (by omega)]
      simp
    rw [e2]
    rfl
  · unfold Dk.stops hD
    dsimp only
    rw [List.length_map, show decide ((room : Int) < (ws.length : Int)) = true by simp; omega, show decide ((room : Int) ≥ 0) = true by simp]
    rfl

abbrev aA (f : List UInt8) : AV := .p (.arr f)
theorem c43 (ss : List (List UInt8)) (ps : List (Int × List UInt8)) (l : Int) (st : Bool) (f g : List UInt8) (hf : f.length = 4) (hg : g.length = 4) (h : ∀ k : Nat, k < 4 → dRead ⟨ss, ps, l, st⟩ (k : Int) = (two (f.getD k 0) (g.getD k 0), 0)) :
    ACalls 43 [aD ss ps l st, aA f, aA g] (o1 (vB true)) := by
  refine acalls (n := 57) (rs := [.tmp 6]) (Ts := [4]) Try.func43 rfl rfl rfl rfl rfl rfl ?_
  repeat' (first
      | exact True.intro
      | exact rfl
      | refine And.intro rfl ?_
      | refine awc_seq ?_
      | refine awc_region ?_
      | refine awc_draw ?_
      | refine awt_a rfl rfl rfl ?_ ?_
      | refine awt_b rfl rfl rfl rfl ?_ ?_
      | refine awt_c rfl rfl rfl ?_ ?_
      | refine awt_gt rfl rfl ?_
      | refine awt_gf rfl rfl rfl ?_
      | (refine awt_h rfl rfl rfl ?_ ?_ <;> intro hb)
      | refine awt_nil ?_
      | refine dq (by kernel_rfl) ?_
      | refine thn_n ?_
      | refine thn_r ?_
      | refine thn_e ?_
      | refine awc_condT rfl ?_
      | refine awc_condF rfl ?_
      | (refine awc_cond rfl ?_ ?_ <;> intro hb)
      | refine awc_block ?_
      | refine blk_n ?_
      | refine blk_r ?_
      | refine blk_e ?_
      | refine blk_o rfl ?_
      | refine awc_ret ?_
      | refine awc_skip ?_
      | refine awc_label ?_
      | refine awc_exit ?_
      | refine retq_r ?_
      | refine retq_n ?_
      | exact ResIs.tv rfl
      | exact ResIs.ts rfl
      | exact ResIs.tc rfl
      | exact ResIs.tn rfl rfl
      | exact ResIs.to rfl rfl
      | apply ResIs.tagg rfl
      | exact ResIs.cv rfl trivial
      | exact ResIs.cs rfl trivial
      | exact ResIs.cn rfl trivial rfl
      | exact ResIs.co rfl trivial rfl
      | apply ResIs.cagg rfl trivial
      | exact CoeL.nil
      | apply CoeL.v
      | apply CoeL.sl
      | apply CoeL.clp
      | apply CoeL.emp rfl
      | apply CoeL.own rfl
      | apply ret_one
      | apply ret_two
      | apply ret_three
      | exact rawq_r rfl
      | apply rawq_rc rfl
      | apply ownq_rv rfl rfl)
  refine awc_loop (α := Nat) (fun k => ⟨57, [(3, o1 (.ptr 3 0)), (4, o1 (.ptr 4 0)), (5, o1 (.ptr 5 0)), (7, o1 (vI k))], [(3, .box [.sl tB ss, .sl tW ps, vI l, vB st]), (4, .arr f), (5, .arr g)]⟩) (fun k => k ≤ 4) (fun k => 4 - k) 0 (Wk.ren [] rfl ⟨rfl, rfl, rfl, rfl, trivial⟩ ⟨rfl, rfl, rfl, trivial⟩ rfl) (Nat.zero_le _) ?_
  intro k hk
  by_cases hk4 : k < 4
  · have hc := cR (h k hk4)
    have hk' : Int.toNat (k : Int) < 4 := by omega
    repeat' (first
        | exact True.intro
        | exact rfl
        | refine And.intro rfl ?_
        | refine awc_seq ?_
        | refine awc_region ?_
        | refine awc_draw ?_
        | refine awt_a rfl rfl rfl ?_ ?_
        | refine awt_call0 rfl (hc) rfl rfl rfl rfl rfl ?_
        | refine awt_call1 rfl (hc) rfl rfl rfl rfl rfl ?_
        | refine awt_call2 rfl (hc) rfl rfl rfl rfl rfl ?_
        | refine awt_b rfl rfl rfl rfl ?_ ?_
        | refine awt_c rfl rfl rfl ?_ ?_
        | refine awt_gt rfl rfl ?_
        | refine awt_gf rfl rfl rfl ?_
        | (refine awt_h rfl rfl rfl ?_ ?_ <;> intro hb)
        | refine awt_nil ?_
        | refine dq (by kernel_rfl) ?_
        | refine thn_n ?_
        | refine thn_r ?_
        | refine thn_e ?_
        | refine awc_condT rfl ?_
        | refine awc_condF rfl ?_
        | (refine awc_cond rfl ?_ ?_ <;> intro hb)
        | refine awc_block ?_
        | refine blk_n ?_
        | refine blk_r ?_
        | refine blk_e ?_
        | refine blk_o rfl ?_
        | refine awc_ret ?_
        | refine awc_skip ?_
        | refine awc_label ?_
        | refine awc_exit ?_
        | refine retq_r ?_
        | refine retq_n ?_
        | exact ResIs.tv rfl
        | exact ResIs.ts rfl
        | exact ResIs.tc rfl
        | exact ResIs.tn rfl rfl
        | exact ResIs.to rfl rfl
        | apply ResIs.tagg rfl
        | exact ResIs.cv rfl trivial
        | exact ResIs.cs rfl trivial
        | exact ResIs.cn rfl trivial rfl
        | exact ResIs.co rfl trivial rfl
        | apply ResIs.cagg rfl trivial
        | exact CoeL.nil
        | apply CoeL.v
        | apply CoeL.sl
        | apply CoeL.clp
        | apply CoeL.emp rfl
        | apply CoeL.own rfl
        | apply ret_one
        | apply ret_two
        | apply ret_three
        | exact rawq_r rfl
        | apply rawq_rc rfl
        | apply ownq_rv rfl rfl)
    all_goals (try (exact ⟨by decide, by show (_ : Int) < ((two _ _).length : Int); rw [two_len]; decide⟩))
    all_goals (try (exact ⟨by omega, by show (k : Int) < ((4 : Nat) : Int); omega⟩))
    all_goals (try (show 0 + Int.toNat (k : Int) < _; omega))
    all_goals (try (exfalso; rw [decide_eq_false_iff_not] at hb; omega))
    all_goals (try simp only [Nat.zero_add, Int.toNat_natCast] at hb)
    · refine ⟨k + 1, Wk.ren [] rfl (by repeat' (first | exact True.intro | exact rfl | refine And.intro ?_ ?_ | (refine eqVI ?_; first | assumption | omega | (simp only [IntKind.wrap_i64]; omega) | (simp only [IntKind.wrap_i64]; dsimp only; omega)) | (refine eqVB ?_; assumption))) (by repeat' (first | exact True.intro | exact rfl | refine And.intro ?_ ?_ | (refine eqVI ?_; first | assumption | omega | (simp only [IntKind.wrap_i64]; omega) | (simp only [IntKind.wrap_i64]; dsimp only; omega)) | (refine eqVB ?_; assumption))) rfl, ?_, ?_⟩
      · omega
      · omega
    · exfalso
      rw [show (two (f.getD k 0) (g.getD k 0)).getD (Int.toNat 64) Ty.u8.dflt = g.getD k 0 from rfl] at hb
      simp at hb
    · exfalso
      rw [show (two (f.getD k 0) (g.getD k 0)).getD (Int.toNat 0) Ty.u8.dflt = f.getD k 0 from rfl] at hb
      simp at hb
  · skip
    repeat' (first
        | exact True.intro
        | exact rfl
        | refine And.intro rfl ?_
        | refine awc_seq ?_
        | refine awc_region ?_
        | refine awc_draw ?_
        | refine awt_a rfl rfl rfl ?_ ?_
        | refine awt_b rfl rfl rfl rfl ?_ ?_
        | refine awt_c rfl rfl rfl ?_ ?_
        | refine awt_gt rfl rfl ?_
        | refine awt_gf rfl rfl rfl ?_
        | (refine awt_h rfl rfl rfl ?_ ?_ <;> intro hb)
        | refine awt_nil ?_
        | refine dq (by kernel_rfl) ?_
        | refine thn_n ?_
        | refine thn_r ?_
        | refine thn_e ?_
        | refine awc_condT rfl ?_
        | refine awc_condF rfl ?_
        | (refine awc_cond rfl ?_ ?_ <;> intro hb)
        | refine awc_block ?_
        | refine blk_n ?_
        | refine blk_r ?_
        | refine blk_e ?_
        | refine blk_o rfl ?_
        | refine awc_ret ?_
        | refine awc_skip ?_
        | refine awc_label ?_
        | refine awc_exit ?_
        | refine retq_r ?_
        | refine retq_n ?_
        | exact ResIs.tv rfl
        | exact ResIs.ts rfl
        | exact ResIs.tc rfl
        | exact ResIs.tn rfl rfl
        | exact ResIs.to rfl rfl
        | apply ResIs.tagg rfl
        | exact ResIs.cv rfl trivial
        | exact ResIs.cs rfl trivial
        | exact ResIs.cn rfl trivial rfl
        | exact ResIs.co rfl trivial rfl
        | apply ResIs.cagg rfl trivial
        | exact CoeL.nil
        | apply CoeL.v
        | apply CoeL.sl
        | apply CoeL.clp
        | apply CoeL.emp rfl
        | apply CoeL.own rfl
        | apply ret_one
        | apply ret_two
        | apply ret_three
        | exact rawq_r rfl
        | apply rawq_rc rfl
        | apply ownq_rv rfl rfl)
    all_goals (exfalso; rw [decide_eq_true_eq] at hb; omega)
end B
end Go.Proofs.Ytbmnhagbplkagaa
