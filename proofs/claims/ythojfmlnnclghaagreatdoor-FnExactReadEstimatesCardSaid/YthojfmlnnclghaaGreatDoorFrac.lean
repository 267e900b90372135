/- The nearest integer, the greatest common divisor, fractions in lowest terms. -/
import Derived.Test.YthojfmlnnclghaaGreatDoorNum
import Derived.Test.YthojfmlnnclghaaGreatDoorBase
import Derived.BigQuiet
import Derived.Deep.QuietTactic
namespace Go.Proofs.YthojfmlnnclghaaGreatDoor.Frac
set_option linter.unusedVariables false
set_option linter.unusedSimpArgs false
open Go.RowKit Plain Num

/-- the nearest integer of a quotient, halves up -/
def nrI (a b : Int) : Int := (2 * a + b) / (2 * b)
theorem nr_up {a b : Int} (hb : 1 ≤ b) (h : b - (a - a / b * b) ≤ a - a / b * b) : a / b + 1 = nrI a b := by
  have e1 := Int.mul_ediv_add_emod a b
  have h3 := Int.emod_nonneg a (by omega : b ≠ 0)
  have h4 := Int.emod_lt_of_pos a (show 0 < b by omega)
  have e2 : 2 * a + b = (2 * b) * (a / b + 1) + (2 * (a % b) - b) := by rw [Int.mul_add, Int.mul_assoc 2 b, Int.mul_one]; omega
  have h5 : a / b * b = b * (a / b) := Int.mul_comm _ _
  have e6 : (2 * (a % b) - b) / (2 * b) = 0 := Int.ediv_eq_zero_of_lt (by omega) (by omega)
  rw [nrI, e2, Int.mul_add_ediv_left _ _ (by omega), e6]
  omega
theorem nr_dn {a b : Int} (hb : 1 ≤ b) (h : a - a / b * b < b - (a - a / b * b)) : a / b = nrI a b := by
  have e1 := Int.mul_ediv_add_emod a b
  have h3 := Int.emod_nonneg a (by omega : b ≠ 0)
  have h4 := Int.emod_lt_of_pos a (show 0 < b by omega)
  have e2 : 2 * a + b = (2 * b) * (a / b) + (2 * (a % b) + b) := by rw [Int.mul_assoc 2 b]; omega
  have h5 : a / b * b = b * (a / b) := Int.mul_comm _ _
  have e6 : (2 * (a % b) + b) / (2 * b) = 0 := Int.ediv_eq_zero_of_lt (by omega) (by omega)
  rw [nrI, e2, Int.mul_add_ediv_left _ _ (by omega), e6]
  omega
theorem nr_le {a b c : Int} (hb : 1 ≤ b) (h : a ≤ c * b) : nrI a b ≤ c := by
  have : 2 * a + b < (c + 1) * (2 * b) := by rw [Int.add_mul, Int.mul_left_comm]; omega
  have := Int.ediv_lt_of_lt_mul (show 0 < 2 * b by omega) this
  rw [nrI]; omega
theorem le_nr {a b c : Int} (hb : 1 ≤ b) (h : c * b ≤ a) : c ≤ nrI a b := by
  rw [nrI]
  exact Int.le_ediv_of_mul_le (by omega) (by rw [Int.mul_left_comm]; omega)
theorem gcd_step (a b : Int) : Int.gcd b (a.tmod b) = Int.gcd a b := by
  show Nat.gcd b.natAbs (a.tmod b).natAbs = Nat.gcd a.natAbs b.natAbs
  rw [Int.natAbs_tmod, Nat.gcd_comm a.natAbs, Nat.gcd_rec b.natAbs a.natAbs, Nat.gcd_comm]
theorem tmod_small (a : Int) {b : Int} (hb : b ≠ 0) : (a.tmod b).natAbs < b.natAbs := by
  rw [Int.natAbs_tmod]
  exact Nat.mod_lt _ (by omega)
theorem gcd_zero (a : Int) : absI a = (Int.gcd a 0 : Int) := by
  simp only [Int.gcd_zero_right, absI]
  split <;> omega
/-- the divisor of a fraction in lowest terms with a positive denominator -/
def lowG (a b : Int) : Int := if b < 0 then -(Int.gcd a b : Int) else (Int.gcd a b : Int)
def lowN (a b : Int) : Int := a / lowG a b
def lowD (a b : Int) : Int := b / lowG a b
theorem gcd_pos' {a b : Int} (hb : b ≠ 0) : 1 ≤ (Int.gcd a b : Int) := by
  have : 0 < Int.gcd a b := Int.gcd_pos_of_ne_zero_right a hb
  omega
theorem lowG_ne {a b : Int} (hb : b ≠ 0) : lowG a b ≠ 0 := by
  have := gcd_pos' (a := a) hb
  unfold lowG
  split <;> omega
theorem lowG_dl (a b : Int) : lowG a b ∣ a := by
  unfold lowG
  split
  · exact Int.neg_dvd.2 (Int.gcd_dvd_left a b)
  · exact Int.gcd_dvd_left a b
theorem lowG_dr (a b : Int) : lowG a b ∣ b := by
  unfold lowG
  split
  · exact Int.neg_dvd.2 (Int.gcd_dvd_right a b)
  · exact Int.gcd_dvd_right a b
theorem low_tdiv {a g : Int} (h : g ∣ a) : a.tdiv g = a / g := Int.tdiv_eq_ediv_of_dvd h
theorem tdiv_bd2 {a g m : Int} (hg : g ≠ 0) (ha : -m ≤ a) (ha' : a ≤ m) : -m ≤ a.tdiv g ∧ a.tdiv g ≤ m := by
  have h1 : (a.tdiv g).natAbs ≤ a.natAbs := by rw [Int.natAbs_tdiv]; exact Nat.div_le_self _ _
  omega
theorem gcd_abs (a b : Int) : Int.gcd (absI a) b = Int.gcd a b := by
  unfold absI
  split
  · show Nat.gcd (-a).natAbs b.natAbs = Nat.gcd a.natAbs b.natAbs; rw [Int.natAbs_neg]
  · rfl
end Go.Proofs.YthojfmlnnclghaaGreatDoor.Frac
