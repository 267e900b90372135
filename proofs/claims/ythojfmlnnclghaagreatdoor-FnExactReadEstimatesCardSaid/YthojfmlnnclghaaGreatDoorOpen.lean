/- What came in, opened: structs of int64 fields by value, slices of int64 and of such structs. -/
import Derived.Test.YthojfmlnnclghaaGreatDoorView
import Derived.Test.YthojfmlnnclghaaGreatDoorRows
namespace Go.Proofs.YthojfmlnnclghaaGreatDoor.Open
set_option linter.unusedVariables false
set_option linter.unusedSimpArgs false
open Go.ChangeShapes Go.WideShapes Go.ChangeAt Go.RowKit Go.Joins Go.Deep View

theorem own : ownKnob Tryz.prog.godebug = none := by kernel_rfl
theorem laidOut : laidOutB Tryz.prog = true := by kernel_rfl

section
variable {H : Type} {enc : TypeId × Value → H} {P : Program} {W : World} {base : Nat} {r : Reach} {b0 : Nat}
theorem open2 {t ti : TypeId} {f0 f1 : Field} {v : Value} {d : DataW H} {p : List MemPlace} (hone : oneCellFields P #[f0, f1] = true) (hC : P.cellsOf t = 2) (hs : P.underlying t = some (.struct #[f0, f1])) (hi : P.underlying ti = some (.int .i64))
    (hv : Value.okWide P W r b0 t v) (h : DataW.Trod enc P W 0 (fun _ => true) true t v d p) (e0 : f0.type = ti := by rfl) (e1 : f1.type = ti := by rfl) : ∃ x y : Int, v = .agg #[.int .i64 x, .int .i64 y] := by
  obtain ⟨c0, c1, y0, y1, m, rfl, rfl, rfl, hy0, hy1⟩ := open_agg2 hs hone hC hv h
  rw [e0] at hy0; rw [e1] at hy1
  obtain ⟨a, k0, rfl, wa⟩ := DataW.trod_int hi hy0
  obtain ⟨b, k1, rfl, wb⟩ := DataW.trod_int hi hy1
  simp at k0 k1
  subst k0 k1
  exact ⟨a, b, rfl⟩
theorem open3 {t ti : TypeId} {f0 f1 f2 : Field} {v : Value} {d : DataW H} {p : List MemPlace} (hone : oneCellFields P #[f0, f1, f2] = true) (hC : P.cellsOf t = 3) (hs : P.underlying t = some (.struct #[f0, f1, f2])) (hi : P.underlying ti = some (.int .i64))
    (hv : Value.okWide P W r b0 t v) (h : DataW.Trod enc P W 0 (fun _ => true) true t v d p) (e0 : f0.type = ti := by rfl) (e1 : f1.type = ti := by rfl) (e2 : f2.type = ti := by rfl) : ∃ x y z : Int, v = .agg #[.int .i64 x, .int .i64 y, .int .i64 z] := by
  obtain ⟨c0, c1, c2, y0, y1, y2, m, rfl, rfl, rfl, hy0, hy1, hy2⟩ := open_agg3 hs hone hC hv h
  rw [e0] at hy0; rw [e1] at hy1; rw [e2] at hy2
  obtain ⟨a, k0, rfl, wa⟩ := DataW.trod_int hi hy0
  obtain ⟨b, k1, rfl, wb⟩ := DataW.trod_int hi hy1
  obtain ⟨c, k2, rfl, wc⟩ := DataW.trod_int hi hy2
  simp at k0 k1 k2
  subst k0 k1 k2
  exact ⟨a, b, c, rfl⟩

theorem add_plain' (b o q : Nat) : (⟨b, o, none⟩ : Addr).add q = ⟨b, o + q, none⟩ := by unfold Addr.add; split <;> simp_all

/-- the number in a cell -/
def numAt (W : World) (a : Addr) (q : Nat) : Int := match W.cell? (a.add q) with | some (.int _ x) => x | _ => 0

theorem openSf {t e ti : TypeId} {fs : Array Field} {v : Value} {d : DataW H} {p : List MemPlace} (hone : oneCellFields P fs = true) (hC : P.cellsOf e = fs.size) (hpos : 0 < fs.size) (ht : P.underlying t = some (.slice e)) (he : P.underlying e = some (.struct fs)) (hi : P.underlying ti = some (.int .i64))
    (hall : ∀ (j : Nat) (f : Field), fs[j]? = some f → f.type = ti) (hv : Value.okWide P W r b0 t v) (h : DataW.Trod enc P W 0 (fun _ => true) true t v d p) :
    ∃ (A : Option Addr) (n c : Nat) (g : Nat → Nat → Int), v = .slice A n c ∧ n ≤ 9223372036854775807 ∧ (n ≤ 1048576 → Sl W fs.size A n c (fun i j => .int .i64 (g i j))) := by
  obtain ⟨a0, len, cap, rfl⟩ := okWide_slice ht hv
  obtain ⟨fuel, hf⟩ := h
  rcases open_slice ht hf with ⟨hcs, hx⟩ | ⟨a, len', cap', m, n, D, Pl, hcs, hb, hl, hm, hmm, hx, hin⟩
  · simp [Value.cells] at hcs
    obtain ⟨rfl, rfl, rfl⟩ := hcs
    exact ⟨none, 0, 0, fun _ _ => 0, rfl, by omega, fun _ => Sl.nil _⟩
  · simp [Value.cells] at hcs
    obtain ⟨rfl, rfl, rfl⟩ := hcs
    simp only [if_true] at hmm
    subst hmm
    have key : ∀ i, i < len → ∀ j, j < fs.size → ∃ x : Int, W.cell? (a.add (i * fs.size + j)) = some (.int .i64 x) := by
      intro i hi' j hj
      obtain ⟨cs', hc, htr⟩ := hin i (by omega)
      rw [hC] at hc
      obtain ⟨ys, n', hn', hy, hlen, hyl, hfld⟩ := DataW.trod_struct he htr
      obtain ⟨_, hcl, hat⟩ := World.cells?_some hc
      have hj' : fs[j]? = some fs[j] := Array.getElem?_eq_getElem hj
      obtain ⟨ho, hk⟩ := hone_of hone j _ hj'
      have h1 := hfld j _ hj'
      rw [ho, hk, hall j _ hj'] at h1
      have hdr : (cs'.drop j).take 1 = [cs'[j]'(by omega)] := by
        rw [List.drop_eq_getElem_cons (by omega)]
        rfl
      rw [hdr, List.getElem?_eq_getElem (by omega : j < ys.length)] at h1
      obtain ⟨x, hcx, _, _⟩ := DataW.trod_int hi h1
      simp at hcx
      refine ⟨x, ?_⟩
      rw [← Go.Deep.add_add, hat j hj, List.getElem?_eq_getElem (by omega : j < cs'.length), hcx]
    refine ⟨some a, len, m, fun i j => numAt W a (i * fs.size + j), rfl, by simp [maxLen] at hm; omega, fun hn => ⟨hn, hl, by simpa [maxLen] using hm, fun hp => ?_⟩⟩
    obtain ⟨b, off, spot⟩ := a
    obtain ⟨x0, hx0⟩ := key 0 hp 0 hpos
    have hspot : spot = none := by simpa [Addr.add] using World.cell?_spot hx0
    subst hspot
    refine ⟨b, off, rfl, ?_, fun i hi' j hj => ?_⟩
    · have := World.block_lt_of_cell? W _ hx0
      rwa [add_plain'] at this
    · obtain ⟨x, hx'⟩ := key i hi' j hj
      have e : numAt W ⟨b, off, none⟩ (i * fs.size + j) = x := by simp [numAt, hx']
      show W.cell? _ = some (.int .i64 (numAt W ⟨b, off, none⟩ (i * fs.size + j)))
      rw [e, Nat.add_assoc, ← add_plain']
      exact hx'

theorem openS2 {t e ti : TypeId} {f0 f1 : Field} {v : Value} {d : DataW H} {p : List MemPlace} (hone : oneCellFields P #[f0, f1] = true) (hC : P.cellsOf e = 2) (ht : P.underlying t = some (.slice e)) (he : P.underlying e = some (.struct #[f0, f1])) (hi : P.underlying ti = some (.int .i64))
    (hv : Value.okWide P W r b0 t v) (h : DataW.Trod enc P W 0 (fun _ => true) true t v d p) (e0 : f0.type = ti := by rfl) (e1 : f1.type = ti := by rfl) :
    ∃ (A : Option Addr) (n c : Nat) (T M : Nat → Int), v = .slice A n c ∧ n ≤ 9223372036854775807 ∧ (n ≤ 1048576 → Sl W 2 A n c (f2 T M)) := by
  obtain ⟨A, n, c, g, hv', hn, hs⟩ := openSf hone hC (by simp) ht he hi (fun j f hj => by
    match j, hj with
    | 0, hj => simp at hj; subst hj; exact e0
    | 1, hj => simp at hj; subst hj; exact e1) hv h
  refine ⟨A, n, c, (g · 0), (g · 1), hv', hn, fun h1 => (hs h1).congr fun i _ j hj => ?_⟩
  have : j < 2 := hj
  obtain rfl | rfl : j = 0 ∨ j = 1 := by omega
  all_goals simp [f2]
theorem openS3 {t e ti : TypeId} {f0 f1 f2' : Field} {v : Value} {d : DataW H} {p : List MemPlace} (hone : oneCellFields P #[f0, f1, f2'] = true) (hC : P.cellsOf e = 3) (ht : P.underlying t = some (.slice e)) (he : P.underlying e = some (.struct #[f0, f1, f2'])) (hi : P.underlying ti = some (.int .i64))
    (hv : Value.okWide P W r b0 t v) (h : DataW.Trod enc P W 0 (fun _ => true) true t v d p) (e0 : f0.type = ti := by rfl) (e1 : f1.type = ti := by rfl) (e2 : f2'.type = ti := by rfl) :
    ∃ (A : Option Addr) (n c : Nat) (X Y M : Nat → Int), v = .slice A n c ∧ n ≤ 9223372036854775807 ∧ (n ≤ 1048576 → Sl W 3 A n c (f3 X Y M)) := by
  obtain ⟨A, n, c, g, hv', hn, hs⟩ := openSf hone hC (by simp) ht he hi (fun j f hj => by
    match j, hj with
    | 0, hj => simp at hj; subst hj; exact e0
    | 1, hj => simp at hj; subst hj; exact e1
    | 2, hj => simp at hj; subst hj; exact e2) hv h
  refine ⟨A, n, c, (g · 0), (g · 1), (g · 2), hv', hn, fun h1 => (hs h1).congr fun i _ j hj => ?_⟩
  have : j < 3 := hj
  obtain rfl | rfl | rfl : j = 0 ∨ j = 1 ∨ j = 2 := by omega
  all_goals simp [f3]
theorem openS1 {t ti : TypeId} {v : Value} {d : DataW H} {p : List MemPlace} (ht : P.underlying t = some (.slice ti)) (hi : P.underlying ti = some (.int .i64)) (hC : P.cellsOf ti = 1)
    (hv : Value.okWide P W r b0 t v) (h : DataW.Trod enc P W 0 (fun _ => true) true t v d p) :
    ∃ (A : Option Addr) (n c : Nat) (T : Nat → Int), v = .slice A n c ∧ n ≤ 9223372036854775807 ∧ (n ≤ 1048576 → Sl W 1 A n c (f1 T)) := by
  obtain ⟨a0, len, cap, rfl⟩ := okWide_slice ht hv
  obtain ⟨fuel, hf⟩ := h
  rcases open_ints ht hi hC hf with ⟨hcs, hx⟩ | ⟨a, len', cap', zs, hcs, _, hl, hm, hz, hx, hcell, hwz⟩
  · simp [Value.cells] at hcs
    obtain ⟨rfl, rfl, rfl⟩ := hcs
    exact ⟨none, 0, 0, fun _ => 0, rfl, by omega, fun _ => Sl.nil _⟩
  · simp [Value.cells] at hcs
    obtain ⟨rfl, rfl, rfl⟩ := hcs
    simp only [if_true] at hz
    refine ⟨some a, len, cap, fun i => zs.getD i 0, rfl, by simp [maxLen] at hm; omega, fun hn => ⟨hn, hl, by simpa [maxLen] using hm, fun hp => ?_⟩⟩
    obtain ⟨b, off, spot⟩ := a
    have hspot : spot = none := by simpa [Addr.add] using World.cell?_spot (hcell 0 (by omega))
    subst hspot
    refine ⟨b, off, rfl, ?_, fun i hi' j hj => ?_⟩
    · have := World.block_lt_of_cell? W _ (hcell 0 (by omega))
      rwa [add_plain'] at this
    · obtain rfl : j = 0 := by omega
      have := hcell i (by omega)
      rw [add_plain'] at this
      simpa [f1] using this
end
end Go.Proofs.YthojfmlnnclghaaGreatDoor.Open
