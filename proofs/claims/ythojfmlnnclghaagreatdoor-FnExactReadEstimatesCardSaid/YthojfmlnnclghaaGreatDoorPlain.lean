/- Plain functions that the program's small functions compute, and facts on them; nothing here speaks of the program. -/
import Derived.WalkKit
import Derived.Lib.Hide
namespace Go.Proofs.YthojfmlnnclghaaGreatDoor.Plain
set_option linter.unusedVariables false
set_option linter.unusedSimpArgs false

/-- within bounds -/
def inB (n a b : Int) : Bool := decide (a ≤ n) && decide (n ≤ b)
theorem inB_iff {n a b : Int} : inB n a b = true ↔ a ≤ n ∧ n ≤ b := by simp [inB]
theorem inB_yes {n a b : Int} (h1 : a ≤ n) (h2 : n ≤ b) : inB n a b = true := inB_iff.2 ⟨h1, h2⟩
theorem inB_lo {n a b : Int} (h : n < a) : inB n a b = false := by simp [inB]; omega
theorem inB_hi {n a b : Int} (h : b < n) : inB n a b = false := by simp [inB]; omega

/-- Go's quotient, rounded down -/
theorem fdiv_neg (a b : Int) (hb : 0 < b) (h : a.tmod b < 0) : a.tdiv b - 1 = a / b := by
  have h1 := Int.mul_tdiv_add_tmod a b
  have h2 := Int.mul_ediv_add_emod a b
  have h3 := Int.emod_nonneg a (by omega : b ≠ 0)
  have h4 := Int.emod_lt_of_pos a hb
  have h5 : -b < a.tmod b := by
    have := Int.lt_tmod_of_pos a hb
    omega
  have e : b * (a.tdiv b - 1 - a / b) = a % b - a.tmod b - b := by rw [Int.mul_sub, Int.mul_sub]; omega
  have hz : a.tdiv b - 1 - a / b = 0 := by
    rcases Int.lt_trichotomy (a.tdiv b - 1 - a / b) 0 with h | h | h
    · have := Int.mul_le_mul_of_nonneg_left (show a.tdiv b - 1 - a / b ≤ -1 by omega) (show 0 ≤ b by omega); omega
    · exact h
    · have := Int.mul_le_mul_of_nonneg_left (show (1 : Int) ≤ a.tdiv b - 1 - a / b by omega) (show 0 ≤ b by omega); omega
  omega
theorem fdiv_nonneg (a b : Int) (hb : 0 < b) (h : 0 ≤ a.tmod b) : a.tdiv b = a / b := by
  have h1 := Int.mul_tdiv_add_tmod a b
  have h2 := Int.mul_ediv_add_emod a b
  have h3 := Int.emod_nonneg a (by omega : b ≠ 0)
  have h4 := Int.emod_lt_of_pos a hb
  have h5 : a.tmod b < b := Int.tmod_lt_of_pos a hb
  have e : b * (a.tdiv b - a / b) = a % b - a.tmod b := by rw [Int.mul_sub]; omega
  have hz : a.tdiv b - a / b = 0 := by
    rcases Int.lt_trichotomy (a.tdiv b - a / b) 0 with h | h | h
    · have := Int.mul_le_mul_of_nonneg_left (show a.tdiv b - a / b ≤ -1 by omega) (show 0 ≤ b by omega); omega
    · exact h
    · have := Int.mul_le_mul_of_nonneg_left (show (1 : Int) ≤ a.tdiv b - a / b by omega) (show 0 ≤ b by omega); omega
  omega
theorem tdiv_bd (a b : Int) (hb : 1 ≤ b) (ha : -1000000000000000000 ≤ a) (ha' : a ≤ 1000000000000000000) : -1000000000000000000 ≤ a.tdiv b ∧ a.tdiv b ≤ 1000000000000000000 := by
  rcases (Int.lt_or_le (a.tmod b) 0) with h | h
  · have e := fdiv_neg a b (by omega) h
    have h1 : -1000000000000000000 ≤ a / b := Int.le_ediv_of_mul_le (by omega) (by
      have := Int.mul_le_mul_of_nonneg_left (show (1 : Int) ≤ b from hb) (show (0 : Int) ≤ 1000000000000000000 by omega); omega)
    have h2 : a / b ≤ 1000000000000000000 - 1 := by
      have hneg : a < 0 := by
        rcases (Int.lt_or_le a 0) with hh | hh
        · exact hh
        · have := Int.tmod_nonneg b hh; omega
      have := Int.ediv_neg_of_neg_of_pos hneg (show 0 < b by omega)
      omega
    omega
  · have e := fdiv_nonneg a b (by omega) h
    have h1 : -1000000000000000000 ≤ a / b := Int.le_ediv_of_mul_le (by omega) (by
      have := Int.mul_le_mul_of_nonneg_left (show (1 : Int) ≤ b from hb) (show (0 : Int) ≤ 1000000000000000000 by omega); omega)
    have h2 : a / b ≤ 1000000000000000000 := by
      rcases (Int.lt_or_le a 0) with hh | hh
      · have := Int.ediv_neg_of_neg_of_pos hh (show 0 < b by omega); omega
      · have := Int.ediv_le_self b hh; omega
    omega
/-- the absolute value -/
def absI (a : Int) : Int := if a < 0 then -a else a
theorem absI_nonneg (a : Int) : 0 ≤ absI a := by unfold absI; split <;> omega
theorem ret_int {k : IntKind} {a b : Int} (h : a = b) : Ending.returned (.int k a) = .returned (.int k b) := by rw [h]
theorem ret_bool {a b : Bool} (h : a = b) : Ending.returned (.bool a) = .returned (.bool b) := by rw [h]
/-- all numbers below k -/
def allB : Nat → (Nat → Bool) → Bool
  | 0, _ => true
  | k + 1, p => allB k p && p k
theorem allB_yes {k : Nat} {p : Nat → Bool} (h : allB k p = true) (hk : p k = true) : allB (k + 1) p = true := by rw [allB, h, hk]; rfl
theorem allB_iff {n : Nat} {p : Nat → Bool} : allB n p = true ↔ ∀ i, i < n → p i = true := by
  induction n with
  | zero => simp [allB]
  | succ n ih =>
    rw [allB, Bool.and_eq_true, ih]
    constructor
    · rintro ⟨h1, h2⟩ i hi
      rcases Nat.lt_succ_iff_lt_or_eq.1 hi with h | rfl
      · exact h1 i h
      · exact h2
    · exact fun h => ⟨fun i hi => h i (by omega), h n (by omega)⟩
theorem allB_no {n k : Nat} {p : Nat → Bool} (hk : k < n) (h : p k = false) : allB n p = false := by
  rw [Bool.eq_false_iff]
  intro hh
  have := allB_iff.1 hh k hk
  rw [h] at this
  cases this
end Go.Proofs.YthojfmlnnclghaaGreatDoor.Plain
