/- What came in, opened: one estimate by value. -/
import Derived.Test.YthojfmlnnclghaaOpenE
namespace Go.Proofs.Ythojfmlnnclghaa.OpenE
set_option linter.unusedVariables false
set_option linter.unusedSimpArgs false
open Go.ChangeShapes Go.WideShapes Go.ChangeAt Go.RowKit Go.Joins Go.Deep View Go.Proofs.Ythojfmlnnclghaa.Open Est

section
variable {H : Type} {enc : TypeId × Value → H} {P : Program} {W : World} {base : Nat} {r : Reach} {b0 : Nat}
/-- each field's shape, of a struct of one-cell fields that came in by value -/
theorem openF {t : TypeId} {fs : Array Field} {v : Value} {d : DataW H} {p : List MemPlace} {Q : Nat → Value → Prop} (hone : oneCellFields P fs = true) (hC : P.cellsOf t = fs.size) (hs : P.underlying t = some (.struct fs))
    (hall : ∀ (j : Nat) (f : Field), fs[j]? = some f → ∀ fuel cs x, DataW.trod enc P W 0 (fun _ => true) true fuel f.type cs = some x → ∃ u, cs = [u] ∧ Q j u) (hv : Value.okWide P W r b0 t v) (h : DataW.Trod enc P W 0 (fun _ => true) true t v d p) :
    ∃ cs : Array Value, v = .agg cs ∧ cs.size = fs.size ∧ ∀ j, j < fs.size → ∃ u, cs[j]? = some u ∧ Q j u := by
  obtain ⟨cs, rfl, hsz⟩ := okWide_struct hs hv
  obtain ⟨fuel, hf⟩ := h
  obtain ⟨ys, n', _, _, _, hlen, hg⟩ := DataW.trod_struct hs hf
  refine ⟨cs, rfl, hsz.trans hC, fun j hj => ?_⟩
  have hj' : fs[j]? = some fs[j] := Array.getElem?_eq_getElem hj
  obtain ⟨ho, hk⟩ := hone_of hone j _ hj'
  have h1 := hg j _ hj'
  rw [ho, hk] at h1
  have hcl : (Value.agg cs).cells.toList = cs.toList := rfl
  rw [hcl] at h1
  have hlt : j < cs.toList.length := by simp; omega
  have hdr : (cs.toList.drop j).take 1 = [cs.toList[j]] := by
    rw [List.drop_eq_getElem_cons hlt]
    rfl
  rw [hdr, List.getElem?_eq_getElem (by omega : j < ys.length)] at h1
  obtain ⟨u, hu, hQ⟩ := hall j _ hj' _ _ _ h1
  injection hu with hu _
  refine ⟨u, ?_, hQ⟩
  rw [← hu]
  simp
theorem openE1 {t ti ts tb : TypeId} {f0 f1 f2 f3 f4 : Field} {v : Value} {d : DataW H} {p : List MemPlace} (hone : oneCellFields P #[f0, f1, f2, f3, f4] = true) (hC : P.cellsOf t = 5) (he : P.underlying t = some (.struct #[f0, f1, f2, f3, f4])) (hi : P.underlying ti = some (.int .i64)) (hs : P.underlying ts = some .string) (hb : P.underlying tb = some .bool)
    (hv : Value.okWide P W r b0 t v) (h : DataW.Trod enc P W 0 (fun _ => true) true t v d p) (e0 : f0.type = ti := by rfl) (e1 : f1.type = ts := by rfl) (e2 : f2.type = ts := by rfl) (e3 : f3.type = ti := by rfl) (e4 : f4.type = tb := by rfl) :
    ∃ e : E5, v = est e ∧ e.s.size ≤ 9223372036854775807 ∧ e.o.size ≤ 9223372036854775807 := by
  obtain ⟨cs, rfl, hsz, hq⟩ := openF (Q := QE) hone hC he (qe_all hi hs hb e0 e1 e2 e3 e4) hv h
  obtain ⟨u0, g0, x0, q0⟩ : ∃ u, cs[0]? = some u ∧ ∃ x : Int, u = .int .i64 x := hq 0 (show 0 < 5 by omega)
  obtain ⟨u1, g1, x1, q1, l1⟩ : ∃ u, cs[1]? = some u ∧ ∃ s : ByteArray, u = .string s ∧ s.size ≤ maxLen := hq 1 (show 1 < 5 by omega)
  obtain ⟨u2, g2, x2, q2, l2⟩ : ∃ u, cs[2]? = some u ∧ ∃ s : ByteArray, u = .string s ∧ s.size ≤ maxLen := hq 2 (show 2 < 5 by omega)
  obtain ⟨u3, g3, x3, q3⟩ : ∃ u, cs[3]? = some u ∧ ∃ x : Int, u = .int .i64 x := hq 3 (show 3 < 5 by omega)
  obtain ⟨u4, g4, x4, q4⟩ : ∃ u, cs[4]? = some u ∧ ∃ b : Bool, u = .bool b := hq 4 (show 4 < 5 by omega)
  subst q0; subst q1; subst q2; subst q3; subst q4
  refine ⟨⟨x0, x1, x2, x3, x4⟩, ?_, by simpa [maxLen] using l1, by simpa [maxLen] using l2⟩
  have hs5 : cs.size = 5 := hsz
  have : cs = #[.int .i64 x0, .string x1, .string x2, .int .i64 x3, .bool x4] := by
    apply Array.ext_getElem?
    intro i
    by_cases hi' : i < 5
    · obtain rfl | rfl | rfl | rfl | rfl : i = 0 ∨ i = 1 ∨ i = 2 ∨ i = 3 ∨ i = 4 := by omega
      · exact g0
      · exact g1
      · exact g2
      · exact g3
      · exact g4
    · rw [Array.getElem?_eq_none (by omega), Array.getElem?_eq_none (by simp; omega)]
  rw [this, est]
end
end Go.Proofs.Ythojfmlnnclghaa.OpenE
