/- Lists of magnitudes: the checks, the sums of squares. -/
import Derived.Test.YthojfmlnnclghaaView
import Derived.Test.YthojfmlnnclghaaNum
import Derived.Test.YthojfmlnnclghaaPl2
import Derived.Test.YthojfmlnnclghaaIdx
import Derived.BigQuiet
import Derived.Deep.QuietTactic
namespace Go.Proofs.Ythojfmlnnclghaa.Mags
set_option linter.unusedVariables false
set_option linter.unusedSimpArgs false
open Go.RowKit Plain Num View

def okMags (n : Nat) (T : Nat → Int) : Bool := decide (n ≤ 100) && allB n (fun i => inB (T i) (-2000) 20000)
theorem okMags_bd {n : Nat} {T : Nat → Int} (h : okMags n T = true) : n ≤ 100 ∧ ∀ i, i < n → -2000 ≤ T i ∧ T i ≤ 20000 := by
  simp only [okMags, Bool.and_eq_true, decide_eq_true_eq] at h
  exact ⟨h.1, fun i hi => inB_iff.1 (allB_iff.1 h.2 i hi)⟩
theorem any_not {n : Nat} {p : Nat → Bool} : (!anyB n (fun i => !p i)) = allB n p := by
  cases h : allB n p with
  | true =>
    have : anyB n (fun i => !p i) = false := anyB_false.2 (fun i hi => by rw [allB_iff.1 h i hi]; rfl)
    rw [this]; rfl
  | false =>
    have : anyB n (fun i => !p i) = true := by
      rw [Bool.eq_false_iff] at h
      cases hh : anyB n (fun i => !p i) with
      | true => rfl
      | false => exact absurd (allB_iff.2 fun i hi => by have := anyB_false.1 hh i hi; simpa using this) h
    rw [this]; rfl

/-- the code of magnitudes -/
def magCode (n : Nat) (T : Nat → Int) : Int := if okMags n T = true then 0 else 2
theorem magCode_yes {n : Nat} {T : Nat → Int} (h : okMags n T = true) : magCode n T = 0 := by rw [magCode, if_pos h]
theorem magCode_no {n : Nat} {T : Nat → Int} (h : okMags n T = false) : magCode n T = 2 := by rw [magCode, h]; rfl

def sqAt (T : Nat → Int) (i j : Nat) : Int := (T i - T j) * (T i - T j)
/-- the sum of the squares of the differences of all pairs -/
def sqs (n : Nat) (T : Nat → Int) : Int := sumB n (fun i => sumB i (sqAt T i))
theorem sq_bd {a b : Int} (ha : -2000 ≤ a ∧ a ≤ 20000) (hb : -2000 ≤ b ∧ b ≤ 20000) : 0 ≤ (a - b) * (a - b) ∧ (a - b) * (a - b) ≤ 484000000 := by
  refine ⟨?_, ?_⟩
  · rcases Int.le_total 0 (a - b) with h | h
    · exact Int.mul_nonneg h h
    · exact Int.mul_nonneg_of_nonpos_of_nonpos h h
  · rcases Int.le_total 0 (a - b) with h | h
    · exact Int.le_trans (Int.mul_le_mul_of_nonneg_left (show a - b ≤ 22000 by omega) h) (by omega)
    · have := Int.mul_le_mul_of_nonneg_left (show -(a - b) ≤ 22000 by omega) (show 0 ≤ -(a - b) by omega)
      have e : -(a - b) * -(a - b) = (a - b) * (a - b) := by rw [Int.neg_mul_neg]
      omega
theorem sumsq_bd {n i : Nat} {T : Nat → Int} (h : ∀ i, i < n → -2000 ≤ T i ∧ T i ≤ 20000) (hi : i < n) {j : Nat} (hj : j ≤ i) : 0 ≤ sumB j (sqAt T i) ∧ sumB j (sqAt T i) ≤ j * 484000000 := by
  have := sumB_bd (k := j) (f := sqAt T i) (a := 0) (b := 484000000) (fun q hq => sq_bd (h i hi) (h q (by omega)))
  simpa using this
theorem sqs_bd {n : Nat} {T : Nat → Int} (hn : n ≤ 100) (h : ∀ i, i < n → -2000 ≤ T i ∧ T i ≤ 20000) {i : Nat} (hi : i ≤ n) : 0 ≤ sqs i T ∧ sqs i T ≤ i * 48400000000 := by
  have := sumB_bd (k := i) (f := fun i => sumB i (sqAt T i)) (a := 0) (b := 48400000000) (fun q hq => by
    have h1 := sumsq_bd h (show q < n by omega) (Nat.le_refl q)
    have : (q : Int) * 484000000 ≤ 100 * 484000000 := Int.mul_le_mul_of_nonneg_right (by omega) (by omega)
    omega)
  simpa [sqs] using this
theorem ret_pair {k l : IntKind} {a b c d : Int} (h : a = c) (h' : b = d) : Ending.returned (.tuple #[.int k a, .int l b]) = .returned (.tuple #[.int k c, .int l d]) := by rw [h, h']
def sqV (n : Nat) (T : Nat → Int) : Int := if okMags n T = true then sqs n T else 0
theorem okMags_cases (n : Nat) (T : Nat → Int) : (okMags n T = true ∧ magCode n T = 0 ∧ sqV n T = sqs n T) ∨ (okMags n T = false ∧ magCode n T = 2 ∧ sqV n T = 0) := by
  cases h : okMags n T with
  | true => exact .inl ⟨rfl, magCode_yes h, by rw [sqV, if_pos h]⟩
  | false => exact .inr ⟨rfl, magCode_no h, by rw [sqV, h]; rfl⟩
end Go.Proofs.Ythojfmlnnclghaa.Mags
