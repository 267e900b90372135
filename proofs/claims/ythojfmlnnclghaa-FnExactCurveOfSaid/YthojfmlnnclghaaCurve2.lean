/- Walks over a light curve: the path, the longest gap. -/
import Derived.Test.YthojfmlnnclghaaView
import Derived.Test.YthojfmlnnclghaaNum
import Derived.Test.YthojfmlnnclghaaPl2
import Derived.Test.YthojfmlnnclghaaCurve
import Derived.BigQuiet
import Derived.Deep.QuietTactic
namespace Go.Proofs.Ythojfmlnnclghaa.Curve2
set_option linter.unusedVariables false
set_option linter.unusedSimpArgs false
open Go.RowKit Plain Num View Curve

theorem okCurve_bd {n : Nat} {T M : Nat → Int} (h : okCurve n T M = true) : n ≤ 100 ∧ (∀ i, i < n → 0 ≤ T i ∧ T i ≤ 10000000) ∧ (∀ i, i < n → -2000 ≤ M i ∧ M i ≤ 20000) ∧ (∀ i, 0 < i → i < n → T (i - 1) < T i) := by
  simp only [okCurve, Bool.and_eq_true, decide_eq_true_eq] at h
  refine ⟨h.1, fun i hi => ?_, fun i hi => ?_, fun i h0 hi => ?_⟩
  all_goals have := allB_iff.1 h.2 i hi; simp only [okPt, Bool.and_eq_true] at this
  · exact inB_iff.1 this.1.1
  · exact inB_iff.1 this.1.2
  · have h2 := this.2
    simp only [Bool.or_eq_true, beq_iff_eq, decide_eq_true_eq] at h2
    omega
theorem ret_pair {k l : IntKind} {a b c d : Int} (h : a = c) (h' : b = d) : Ending.returned (.tuple #[.int k a, .int l b]) = .returned (.tuple #[.int k c, .int l d]) := by rw [h, h']
theorem ret_three {k l m : IntKind} {a b c d e f : Int} (h : a = d) (h' : b = e) (h'' : c = f) : Ending.returned (.tuple #[.int k a, .int l b, .int m c]) = .returned (.tuple #[.int k d, .int l e, .int m f]) := by rw [h, h', h'']

def pathD (M : Nat → Int) (i : Nat) : Int := absI (M (i + 1) - M i)
def pathV (n : Nat) (T M : Nat → Int) : Int := if okCurve n T M = true then sumB (n - 1) (pathD M) else 0
def curveCode (n : Nat) (T M : Nat → Int) : Int := if okCurve n T M = true then 0 else 1
theorem absI_bd {a b : Int} (h : -b ≤ a) (h' : a ≤ b) : 0 ≤ absI a ∧ absI a ≤ b := by unfold absI; split <;> omega
theorem path_bd {n : Nat} {M : Nat → Int} (hM : ∀ i, i < n → -2000 ≤ M i ∧ M i ≤ 20000) {k : Nat} (hk : k + 1 ≤ n ∨ k = 0) : 0 ≤ sumB k (pathD M) ∧ sumB k (pathD M) ≤ k * 22000 := by
  have := sumB_bd (k := k) (f := pathD M) (a := 0) (b := 22000) (fun q hq => by
    have h1 := hM q (by omega); have h2 := hM (q + 1) (by omega)
    exact absI_bd (by omega) (by omega))
  simpa using this

end Go.Proofs.Ythojfmlnnclghaa.Curve2
