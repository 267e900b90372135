/- What came in, opened: structs of int64 fields by value, slices of int64 and of such structs. -/
import Derived.Test.YtgkkdghmkcmmcaaView
import Derived.Test.YtgkkdghmkcmmcaaRows
namespace Go.Proofs.Ytgkkdghmkcmmcaa.Open
set_option linter.unusedVariables false
set_option linter.unusedSimpArgs false
open Go.ChangeShapes Go.WideShapes Go.ChangeAt Go.RowKit Go.Joins Go.Deep View

theorem own : ownKnob Try.prog.godebug = none := by kernel_rfl
theorem laidOut : laidOutB Try.prog = true := by kernel_rfl

section
variable {H : Type} {enc : TypeId × Value → H} {P : Program} {W : World} {base : Nat} {r : Reach} {b0 : Nat}
theorem open2 {t ti : TypeId} {f0 f1 : Field} {v : Value} {d : DataW H} {p : List MemPlace} (hone : oneCellFields P #[f0, f1] = true) (hC : P.cellsOf t = 2) (hs : P.underlying t = some (.struct #[f0, f1])) (hi : P.underlying ti = some (.int .i64))
    (hv : Value.okWide P W r b0 t v) (h : DataW.Trod enc P W 0 (fun _ => true) true t v d p) (e0 : f0.type = ti := by rfl) (e1 : f1.type = ti := by rfl) : ∃ x y : Int, v = .agg #[.int .i64 x, .int .i64 y] := by
  obtain ⟨c0, c1, y0, y1, m, rfl, rfl, rfl, hy0, hy1⟩ := open_agg2 hs hone hC hv h
  rw [e0] at hy0; rw [e1] at hy1
  obtain ⟨a, k0, rfl, wa⟩ := DataW.trod_int hi hy0
  obtain ⟨b, k1, rfl, wb⟩ := DataW.trod_int hi hy1
  simp at k0 k1
  subst k0 k1
  exact ⟨a, b, rfl⟩
theorem open3 {t ti : TypeId} {f0 f1 f2 : Field} {v : Value} {d : DataW H} {p : List MemPlace} (hone : oneCellFields P #[f0, f1, f2] = true) (hC : P.cellsOf t = 3) (hs : P.underlying t = some (.struct #[f0, f1, f2])) (hi : P.underlying ti = some (.int .i64))
    (hv : Value.okWide P W r b0 t v) (h : DataW.Trod enc P W 0 (fun _ => true) true t v d p) (e0 : f0.type = ti := by rfl) (e1 : f1.type = ti := by rfl) (e2 : f2.type = ti := by rfl) : ∃ x y z : Int, v = .agg #[.int .i64 x, .int .i64 y, .int .i64 z] := by
  obtain ⟨c0, c1, c2, y0, y1, y2, m, rfl, rfl, rfl, hy0, hy1, hy2⟩ := open_agg3 hs hone hC hv h
  rw [e0] at hy0; rw [e1] at hy1; rw [e2] at hy2
  obtain ⟨a, k0, rfl, wa⟩ := DataW.trod_int hi hy0
  obtain ⟨b, k1, rfl, wb⟩ := DataW.trod_int hi hy1
  obtain ⟨c, k2, rfl, wc⟩ := DataW.trod_int hi hy2
  simp at k0 k1 k2
  subst k0 k1 k2
  exact ⟨a, b, c, rfl⟩
end
end Go.Proofs.Ytgkkdghmkcmmcaa.Open
