/- The dispersion for a period, divided by the whole one. -/
import Derived.Test.YtenjcdhehjdeoaaDisp2
namespace Go.Proofs.Ytenjcdhehjdeoaa.Disp
set_option linter.unusedVariables false
set_option linter.unusedSimpArgs false
set_option maxRecDepth 8000
open Go.RowKit Plain Num View Mags Curve Curve2 Bins DisB Frac

theorem low_swap {c d : Int} (hc : 1 ≤ c) (hd : 1 ≤ d) : lowN d c = lowD c d ∧ lowD d c = lowN c d := by
  rw [lowN, lowD, lowD, lowN, lowG_pos hc, lowG_pos hd, Int.gcd_comm d c]
  exact ⟨rfl, rfl⟩
/-- a quotient of two fractions in lowest terms -/
theorem low_quot {a b c d : Int} (hb : 1 ≤ b) (hc : 1 ≤ c) (hd : 1 ≤ d) : lowN (lowN a b * lowD c d) (lowD a b * lowN c d) = lowN (a * d) (b * c) ∧ lowD (lowN a b * lowD c d) (lowD a b * lowN c d) = lowD (a * d) (b * c) := by
  obtain ⟨e1, e2⟩ := low_swap hc hd
  rw [← e1, ← e2]
  exact low_prod hb hc
theorem mul_bd {a b A B : Int} (h1 : -A ≤ a) (h2 : a ≤ A) (h3 : -B ≤ b) (h4 : b ≤ B) : -(A * B) ≤ a * b ∧ a * b ≤ A * B := by
  have k : ∀ {b : Int}, 0 ≤ b → b ≤ B → -(A * B) ≤ a * b ∧ a * b ≤ A * B := fun {b} h3 h4 => by
    have e1 : a * b ≤ A * b := Int.mul_le_mul_of_nonneg_right h2 h3
    have e2 : A * b ≤ A * B := Int.mul_le_mul_of_nonneg_left h4 (by omega)
    have e3 : -A * b ≤ a * b := Int.mul_le_mul_of_nonneg_right h1 h3
    have e4 : -A * b = -(A * b) := Int.neg_mul _ _
    omega
  rcases Int.le_total 0 b with h | h
  · exact k h h4
  · have := k (b := -b) (by omega) (by omega)
    rw [Int.mul_neg] at this
    omega
def thC (n : Nat) (T M : Nat → Int) (p b : Int) : Int := if dspC n T M p b = 0 then (if inS n (fun _ => 0) M = 0 then 6 else 0) else dspC n T M p b
def thN (n : Nat) (T M : Nat → Int) (p b : Int) : Int := if thC n T M p b = 0 then lowN (inS n (binV T p b) M * inP n (fun _ => 0)) (inP n (binV T p b) * inS n (fun _ => 0) M) else 0
def thD (n : Nat) (T M : Nat → Int) (p b : Int) : Int := if thC n T M p b = 0 then lowD (inS n (binV T p b) M * inP n (fun _ => 0)) (inP n (binV T p b) * inS n (fun _ => 0) M) else 0
theorem inP_le (n : Nat) (B : Nat → Int) : inP n B ≤ inP n (fun _ => 0) := Pairs.sumB_le fun i _ => Pairs.sumB_le fun j _ => by split <;> simp
theorem th_cases (n : Nat) (T M : Nat → Int) (p b : Int) : (dspC n T M p b = 0 ∧ inS n (fun _ => 0) M ≠ 0 ∧ thC n T M p b = 0) ∨ (dspC n T M p b = 0 ∧ inS n (fun _ => 0) M = 0 ∧ thC n T M p b = 6) ∨ (dspC n T M p b ≠ 0 ∧ thC n T M p b = dspC n T M p b) := by
  unfold thC
  by_cases h : dspC n T M p b = 0 <;> by_cases h2 : inS n (fun _ => 0) M = 0 <;> simp [h, h2]
theorem th_zero {n : Nat} {T M : Nat → Int} {p b : Int} (h : thC n T M p b ≠ 0) : thN n T M p b = 0 ∧ thD n T M p b = 0 := by
  rw [thN, thD, if_neg h, if_neg h]
  exact ⟨rfl, rfl⟩
theorem dsp_yes {n : Nat} {T M : Nat → Int} {p b : Int} (h : dspC n T M p b = 0) : binCode n T M p b = 0 ∧ inP n (binV T p b) ≠ 0 := by
  rcases dsp_cases n T M p b with ⟨h1, h2, _⟩ | ⟨_, _, hc⟩ | ⟨h1, hc⟩
  · exact ⟨h1, h2⟩
  · omega
  · omega
theorem wh_yes {n : Nat} {T M : Nat → Int} {p b : Int} (h : dspC n T M p b = 0) : whC n T M = 0 ∧ 1 ≤ inP n (fun _ => 0) := by
  obtain ⟨h1, h2⟩ := dsp_yes h
  obtain ⟨hok, _, _⟩ := dsp_ok h1
  have h3 := inP_bd (B := binV T p b) (okCurve_bd hok).1
  have h4 := inP_le n (binV T p b)
  have h5 : inP n (fun _ => 0) ≠ 0 := by omega
  exact ⟨by rw [whC, if_pos hok, if_neg h5], by omega⟩
end Go.Proofs.Ytenjcdhehjdeoaa.Disp
