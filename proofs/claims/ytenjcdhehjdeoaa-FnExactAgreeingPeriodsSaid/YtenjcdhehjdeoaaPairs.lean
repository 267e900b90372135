/- Plain facts on sums over all pairs, and on the slope of the line with the least squares; nothing here speaks of the program. -/
import Derived.Test.YtenjcdhehjdeoaaPl2
import Derived.Test.YtenjcdhehjdeoaaFrac
namespace Go.Proofs.Ytenjcdhehjdeoaa.Pairs
set_option linter.unusedVariables false
set_option linter.unusedSimpArgs false
open Plain Frac

theorem sumB_le {n : Nat} {f g : Nat → Int} (h : ∀ i, i < n → f i ≤ g i) : sumB n f ≤ sumB n g := by
  induction n with
  | zero => simp [sumB]
  | succ n ih => have h1 := ih (fun i hi => h i (by omega)); have h2 := h n (by omega); simp only [sumB]; omega
theorem sumB_nonneg {n : Nat} {f : Nat → Int} (h : ∀ i, i < n → 0 ≤ f i) : 0 ≤ sumB n f := by
  induction n with
  | zero => simp [sumB]
  | succ n ih => have h1 := ih (fun i hi => h i (by omega)); have h2 := h n (by omega); simp only [sumB]; omega
theorem sumB_mul (n : Nat) (c : Int) (f : Nat → Int) : sumB n (fun i => c * f i) = c * sumB n f := by
  induction n with
  | zero => simp [sumB]
  | succ n ih => simp only [sumB]; rw [ih, Int.mul_add]
theorem sumB_add (n : Nat) (f g : Nat → Int) : sumB n (fun i => f i + g i) = sumB n f + sumB n g := by
  induction n with
  | zero => simp [sumB]
  | succ n ih => simp only [sumB]; rw [ih]; omega
/-- the sum over all pairs k < i < n -/
def prs (n : Nat) (f : Nat → Nat → Int) : Int := sumB n (fun i => sumB i (f i))
theorem prs_congr {n : Nat} {f g : Nat → Nat → Int} (h : ∀ i k, k < i → i < n → f i k = g i k) : prs n f = prs n g := sumB_congr fun i hi => sumB_congr fun k hk => h i k hk hi
theorem prs_le {n : Nat} {f g : Nat → Nat → Int} (h : ∀ i k, k < i → i < n → f i k ≤ g i k) : prs n f ≤ prs n g := sumB_le fun i hi => sumB_le fun k hk => h i k hk hi
theorem prs_mul (n : Nat) (c : Int) (f : Nat → Nat → Int) : prs n (fun i k => c * f i k) = c * prs n f := by
  unfold prs
  rw [← sumB_mul]
  exact sumB_congr fun i _ => sumB_mul i c (f i)
theorem prs_add (n : Nat) (f g : Nat → Nat → Int) : prs n (fun i k => f i k + g i k) = prs n f + prs n g := by
  unfold prs
  rw [← sumB_add]
  exact sumB_congr fun i _ => sumB_add i (f i) (g i)
theorem inner (x y : Nat → Int) (a b : Int) (n : Nat) : sumB n (fun k => (a - x k) * (b - y k)) = n * (a * b) - a * sumB n y - b * sumB n x + sumB n (fun k => x k * y k) := by
  induction n with
  | zero => simp [sumB]
  | succ n ih =>
    simp only [sumB]
    rw [ih]
    push_cast
    grind
def pxy (x y : Nat → Int) (i k : Nat) : Int := (x i - x k) * (y i - y k)
theorem pairs_id (x y : Nat → Int) (n : Nat) : (n : Int) * sumB n (fun i => x i * y i) - sumB n x * sumB n y = prs n (pxy x y) := by
  induction n with
  | zero => simp [sumB, prs]
  | succ n ih =>
    have h := inner x y (x n) (y n) n
    have e : prs (n + 1) (pxy x y) = prs n (pxy x y) + sumB n (fun k => (x n - x k) * (y n - y k)) := rfl
    rw [e, ← ih, h]
    simp only [sumB]
    push_cast
    grind
theorem mulself_nonneg (a : Int) : 0 ≤ a * a := by
  rcases Int.le_total 0 a with h | h
  · exact Int.mul_nonneg h h
  · exact Int.mul_nonneg_of_nonpos_of_nonpos h h
theorem sq_le {a b : Int} (h1 : -b ≤ a) (h2 : a ≤ b) : a * a ≤ b * b := by
  have e : b * b - a * a = (b - a) * (b + a) := by grind
  have := Int.mul_nonneg (show 0 ≤ b - a by omega) (show 0 ≤ b + a by omega)
  omega
theorem pairs_sq {x : Nat → Int} {n : Nat} {c b : Int} (h : ∀ i, i < n → -b ≤ x i - c ∧ x i - c ≤ b) (hn : n ≤ 100) : prs n (pxy x x) ≤ 10000 * (b * b) := by
  have e : prs n (pxy x x) = prs n (pxy (fun i => x i - c) (fun i => x i - c)) := prs_congr fun i k _ _ => by simp only [pxy]; grind
  rw [e, ← pairs_id]
  have h1 := mulself_nonneg (sumB n (fun i => x i - c))
  have h2 := sumB_bd (k := n) (f := fun i => (x i - c) * (x i - c)) (a := 0) (b := b * b) (fun i hi => ⟨mulself_nonneg _, sq_le (h i hi).1 (h i hi).2⟩)
  have h3 := mulself_nonneg b
  have h4 : (n : Int) * sumB n (fun i => (x i - c) * (x i - c)) ≤ n * (n * (b * b)) := Int.mul_le_mul_of_nonneg_left h2.2 (by omega)
  have h5 : (n : Int) * (b * b) ≤ 100 * (b * b) := Int.mul_le_mul_of_nonneg_right (by omega) h3
  have h6 : (n : Int) * (n * (b * b)) ≤ n * (100 * (b * b)) := Int.mul_le_mul_of_nonneg_left h5 (by omega)
  have h7 : (n : Int) * (100 * (b * b)) ≤ 100 * (100 * (b * b)) := Int.mul_le_mul_of_nonneg_right (by omega) (by omega)
  omega
/-- the sum of the products over all pairs of a light curve is not too great -/
theorem fine {T M : Nat → Int} {n : Nat} (hT : ∀ i, i < n → 0 ≤ T i ∧ T i ≤ 10000000) (hM : ∀ i, i < n → -2000 ≤ M i ∧ M i ≤ 20000) (hn : n ≤ 100) :
    -550000000000000 ≤ prs n (pxy T M) ∧ prs n (pxy T M) ≤ 550000000000000 := by
  have hx := pairs_sq (x := T) (n := n) (c := 5000000) (b := 5000000) (fun i hi => by have := hT i hi; omega) hn
  have hy := pairs_sq (x := M) (n := n) (c := 9000) (b := 11000) (fun i hi => by have := hM i hi; omega) hn
  have e := prs_add n (fun i k => 121 * pxy T T i k) (fun i k => 25000000 * pxy M M i k)
  rw [prs_mul, prs_mul] at e
  have u1 : prs n (fun i k => 110000 * pxy T M i k) ≤ prs n (fun i k => 121 * pxy T T i k + 25000000 * pxy M M i k) := prs_le fun i k _ _ => by
    have := mulself_nonneg (11 * (T i - T k) - 5000 * (M i - M k))
    simp only [pxy]
    grind
  have u2 : prs n (fun i k => -110000 * pxy T M i k) ≤ prs n (fun i k => 121 * pxy T T i k + 25000000 * pxy M M i k) := prs_le fun i k _ _ => by
    have := mulself_nonneg (11 * (T i - T k) + 5000 * (M i - M k))
    simp only [pxy]
    grind
  rw [prs_mul] at u1 u2
  omega
theorem part_le {f : Nat → Int} {n j : Nat} (h : ∀ i, i < n → 0 ≤ f i) (hj : j < n) : f j ≤ sumB n f := by
  induction n with
  | zero => omega
  | succ n ih =>
    have hn := h n (by omega)
    have h0 := sumB_nonneg (f := f) (n := n) (fun i hi => h i (by omega))
    simp only [sumB]
    by_cases e : j = n
    · subst e; omega
    · have := ih (fun i hi => h i (by omega)) (by omega); omega
theorem pxx_nonneg (T : Nat → Int) (i k : Nat) : 0 ≤ pxy T T i k := mulself_nonneg _
theorem den_pos {T : Nat → Int} {n : Nat} (hI : ∀ i, 0 < i → i < n → T (i - 1) < T i) (hn : 2 ≤ n) : 1 ≤ prs n (pxy T T) := by
  have h1 := part_le (f := fun i => sumB i (pxy T T i)) (n := n) (j := 1) (fun i _ => sumB_nonneg fun k _ => pxx_nonneg T i k) (by omega)
  have h2 : sumB 1 (pxy T T 1) = (T 1 - T 0) * (T 1 - T 0) := by simp [sumB, pxy]
  have h3 := hI 1 (by omega) (by omega)
  simp only [Nat.sub_self] at h3
  have h4 : 1 * 1 ≤ (T 1 - T 0) * (T 1 - T 0) := Int.mul_le_mul (by omega) (by omega) (by omega) (by omega)
  simp only [h2] at h1
  show 1 ≤ sumB n (fun i => sumB i (pxy T T i))
  omega
/-- a numerator is multiplied behind the step to lowest terms, or ahead of it -/
theorem low_mul {a b c : Int} (hb : 1 ≤ b) (hc : 1 ≤ c) : lowN a b * (c / (Int.gcd c (lowD a b) : Int)) = lowN (c * a) b ∧ lowD a b / (Int.gcd c (lowD a b) : Int) = lowD (c * a) b := by
  have hG : lowG a b = (Int.gcd a b : Int) := by rw [lowG, if_neg (by omega)]
  have hG2 : lowG (c * a) b = (Int.gcd (c * a) b : Int) := by rw [lowG, if_neg (by omega)]
  rw [lowN, lowN, lowD, lowD, hG, hG2]
  have hp := gcd_pos' (a := a) (b := b) (by omega)
  obtain ⟨m, hm⟩ := Int.gcd_dvd_left a b
  obtain ⟨d, hd⟩ := Int.gcd_dvd_right a b
  have hcop : Int.gcd m d = 1 := by
    have h := Int.gcd_mul_left (Int.gcd a b : Int) m d
    rw [← hm, ← hd, Int.natAbs_natCast] at h
    have : 0 < Int.gcd a b := by omega
    exact Nat.eq_of_mul_eq_mul_left this (by omega)
  generalize hg : Int.gcd a b = g at *
  have em : a / (g : Int) = m := by rw [hm]; exact Int.mul_ediv_cancel_left _ (by omega)
  have ed : b / (g : Int) = d := by rw [hd]; exact Int.mul_ediv_cancel_left _ (by omega)
  rw [em, ed]
  have hcd : Int.gcd (c * m) d = Int.gcd c d := by
    show Nat.gcd (c * m).natAbs d.natAbs = Nat.gcd c.natAbs d.natAbs
    rw [Int.natAbs_mul]
    exact Nat.Coprime.gcd_mul_right_cancel _ hcop
  have hbig : (Int.gcd (c * a) b : Int) = g * (Int.gcd c d : Int) := by
    rw [hm, hd, Int.mul_left_comm, Int.gcd_mul_left, hcd]
    simp
  rw [hbig]
  have hdp : 1 ≤ d := by
    rcases Int.lt_or_le 0 d with h | h
    · omega
    · have := Int.mul_nonpos_of_nonneg_of_nonpos (show (0 : Int) ≤ g by omega) h; omega
  have hq := gcd_pos' (a := c) (b := d) (by omega)
  obtain ⟨s, hs⟩ := Int.gcd_dvd_left c d
  obtain ⟨t, ht⟩ := Int.gcd_dvd_right c d
  generalize hr : Int.gcd c d = r at *
  have es : c / (r : Int) = s := by rw [hs]; exact Int.mul_ediv_cancel_left _ (by omega)
  have et : d / (r : Int) = t := by rw [ht]; exact Int.mul_ediv_cancel_left _ (by omega)
  rw [es, et]
  have hgr : (g : Int) * r ≠ 0 := Int.mul_ne_zero (by omega) (by omega)
  refine ⟨?_, ?_⟩
  · have : c * a = (g * r) * (m * s) := by rw [hm, hs]; grind
    rw [this, Int.mul_ediv_cancel_left _ hgr]
  · have : b = (g * r) * t := by rw [hd, ht]; grind
    rw [this, Int.mul_ediv_cancel_left _ hgr]
end Go.Proofs.Ytenjcdhehjdeoaa.Pairs
