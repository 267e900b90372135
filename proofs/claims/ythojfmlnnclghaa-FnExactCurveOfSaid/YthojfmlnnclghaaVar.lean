/- The variance of magnitudes; the bins of points. -/
import Derived.Test.YthojfmlnnclghaaMags
import Derived.Test.YthojfmlnnclghaaFrac
import Derived.Test.YthojfmlnnclghaaList
import Derived.Test.YthojfmlnnclghaaCurve2
namespace Go.Proofs.Ythojfmlnnclghaa.Var
set_option linter.unusedVariables false
set_option linter.unusedSimpArgs false
open Go.RowKit Plain Num View Mags Frac Curve Curve2

theorem ret_frac {k l m : IntKind} {a b c d e f : Int} (h : a = d) (h' : b = e) (h'' : c = f) : Ending.returned (.tuple #[.agg #[.int k a, .int l b], .int m c]) = .returned (.tuple #[.agg #[.int k d, .int l e], .int m f]) := by rw [h, h', h'']
/-- the code of magnitudes that must not be empty -/
def someCode (n : Nat) (T : Nat → Int) : Int := if okMags n T = true then (if n = 0 then 3 else 0) else 2
theorem c_count (A : Option Addr) (n c : Nat) (w : World) (hn : n ≤ 1048576) : Calls Try.prog 75 #[.slice A n c] w fun e w' => e = .returned (.int .i64 n) ∧ w = w' := by
  go_enter Try.func75, Try.ntmps75
  go_wp2
  go_ret
  exact ⟨rfl, rfl⟩
theorem some_cases (n : Nat) (T : Nat → Int) : (okMags n T = true ∧ 1 ≤ n ∧ someCode n T = 0) ∨ (okMags n T = true ∧ n = 0 ∧ someCode n T = 3) ∨ (okMags n T = false ∧ someCode n T = 2) := by
  unfold someCode
  cases h : okMags n T <;> by_cases h0 : n = 0 <;> simp [h0] <;> omega
def varN (n : Nat) (T : Nat → Int) : Int := if someCode n T = 0 then lowN (sqs n T) (n * n) else 0
def varD (n : Nat) (T : Nat → Int) : Int := if someCode n T = 0 then lowD (sqs n T) (n * n) else 0
theorem nn_bd {n : Nat} (h1 : 1 ≤ n) (h2 : n ≤ 100) : 1 ≤ (n : Int) * n ∧ (n : Int) * n ≤ 10000 := by
  have : n * n ≤ 100 * 100 := Nat.mul_le_mul h2 h2
  have : 1 * 1 ≤ n * n := Nat.mul_le_mul h1 h1
  have e : (n : Int) * n = ((n * n : Nat) : Int) := by simp
  omega
end Go.Proofs.Ythojfmlnnclghaa.Var
