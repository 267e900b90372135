/- The magnitudes of a curve, the least and the greatest, the amplitude, the shortest string. -/
import Derived.Test.YtenjcdhehjdeoaaCurve2
import Derived.Test.YtenjcdhehjdeoaaList
namespace Go.Proofs.Ytenjcdhehjdeoaa.Amp
set_option linter.unusedVariables false
set_option linter.unusedSimpArgs false
open Go.RowKit Plain Num View Curve Curve2

/-- the greatest, the least of the first k + 1 -/
def maxT (T : Nat → Int) : Nat → Int
  | 0 => T 0
  | k + 1 => if maxT T k < T (k + 1) then T (k + 1) else maxT T k
def minT (T : Nat → Int) : Nat → Int
  | 0 => T 0
  | k + 1 => if T (k + 1) < minT T k then T (k + 1) else minT T k
theorem maxT_bd {T : Nat → Int} {a b : Int} : ∀ {k : Nat}, (∀ i, i ≤ k → a ≤ T i ∧ T i ≤ b) → a ≤ maxT T k ∧ maxT T k ≤ b
  | 0, h => h 0 (by omega)
  | k + 1, h => by
    have h1 := maxT_bd (k := k) (fun i hi => h i (by omega))
    have h2 := h (k + 1) (by omega)
    rw [maxT]; split <;> omega
theorem minT_bd {T : Nat → Int} {a b : Int} : ∀ {k : Nat}, (∀ i, i ≤ k → a ≤ T i ∧ T i ≤ b) → a ≤ minT T k ∧ minT T k ≤ b
  | 0, h => h 0 (by omega)
  | k + 1, h => by
    have h1 := minT_bd (k := k) (fun i hi => h i (by omega))
    have h2 := h (k + 1) (by omega)
    rw [minT]; split <;> omega
theorem maxT_le {T : Nat → Int} : ∀ {k i : Nat}, i ≤ k → T i ≤ maxT T k
  | 0, i, h => by have : i = 0 := by omega
                  subst this; exact Int.le_refl _
  | k + 1, i, h => by
    rw [maxT]
    by_cases e : i = k + 1
    · subst e; split <;> omega
    · have := maxT_le (T := T) (k := k) (i := i) (by omega); split <;> omega
theorem minT_le {T : Nat → Int} : ∀ {k i : Nat}, i ≤ k → minT T k ≤ T i
  | 0, i, h => by have : i = 0 := by omega
                  subst this; exact Int.le_refl _
  | k + 1, i, h => by
    rw [minT]
    by_cases e : i = k + 1
    · subst e; split <;> omega
    · have := minT_le (T := T) (k := k) (i := i) (by omega); split <;> omega
theorem max_step {T : Nat → Int} {k : Nat} {x : Int} (hk : 1 ≤ k) (h : x = maxT T (k - 1)) : maxT T k = if x < T k then T k else x := by
  obtain ⟨j, rfl⟩ : ∃ j, k = j + 1 := ⟨k - 1, by omega⟩
  simp only [Nat.add_sub_cancel] at h
  rw [maxT, h]
theorem min_step {T : Nat → Int} {k : Nat} {x : Int} (hk : 1 ≤ k) (h : x = minT T (k - 1)) : minT T k = if T k < x then T k else x := by
  obtain ⟨j, rfl⟩ : ∃ j, k = j + 1 := ⟨k - 1, by omega⟩
  simp only [Nat.add_sub_cancel] at h
  rw [minT, h]
theorem max_yes {T : Nat → Int} {k : Nat} {x : Int} (hk : 1 ≤ k) (h : x = maxT T (k - 1)) (hlt : x < T k) : T k = maxT T (k + 1 - 1) := by rw [Nat.add_sub_cancel, max_step hk h, if_pos hlt]
theorem max_no {T : Nat → Int} {k : Nat} {x : Int} (hk : 1 ≤ k) (h : x = maxT T (k - 1)) (hlt : ¬ x < T k) : x = maxT T (k + 1 - 1) := by rw [Nat.add_sub_cancel, max_step hk h, if_neg hlt]
theorem min_yes {T : Nat → Int} {k : Nat} {x : Int} (hk : 1 ≤ k) (h : x = minT T (k - 1)) (hlt : T k < x) : T k = minT T (k + 1 - 1) := by rw [Nat.add_sub_cancel, min_step hk h, if_pos hlt]
theorem min_no {T : Nat → Int} {k : Nat} {x : Int} (hk : 1 ≤ k) (h : x = minT T (k - 1)) (hlt : ¬ T k < x) : x = minT T (k + 1 - 1) := by rw [Nat.add_sub_cancel, min_step hk h, if_neg hlt]
set_option maxHeartbeats 800000 in
theorem c_Min (A : Option Addr) (n c : Nat) (T : Nat → Int) (w : World) (hv : Sl w 1 A n c (f1 T)) (h0 : 0 < n) :
    Calls Try.prog 89 #[.slice A n c] w fun e w' => e = .returned (.int .i64 (minT T (n - 1))) ∧ w = w' := by
  have hn := hv.le
  obtain ⟨b, off, rfl, hb, hc⟩ := hv.at_ h0
  have c0 := cells1 hc 0 h0
  simp only [Nat.add_zero] at c0
  go_enter Try.func89, Try.ntmps89
  go_wp2
  go_loop [3, 4] (fun s i => ∃ (k : Nat) (x : Int), 1 ≤ k ∧ k ≤ n ∧ Hid (x = minT T (k - 1)) ∧ i = .int .i64 k ∧ s = .int .i64 x) (fun _ i => n - (intOf i).toNat)
  case atStart => exact ⟨1, T 0, by omega, by omega, (show T 0 = minT T (1 - 1) from rfl), rfl, rfl⟩
  case round =>
    obtain ⟨k, x, hk1, hk, hx, rfl, rfl⟩ := hrel
    by_cases hlt : k < n
    · have h1 := cells1 hc k hlt
      by_cases hgt : T k < x
      · go_wp2
        go_round
        case rel => exact ⟨k + 1, T k, by omega, by omega, min_yes hk1 hx.out hgt, by go_num, rfl⟩
        case measure => simp [intOf]; omega
      · go_wp2
        go_round
        case rel => exact ⟨k + 1, x, by omega, by omega, min_no hk1 hx.out (by omega), by go_num, rfl⟩
        case measure => simp [intOf]; omega
    · have hkn : k = n := by omega
      subst hkn
      go_wp2
      go_ret
      exact ⟨ret_int hx.out, rfl⟩
def ampV (n : Nat) (T M : Nat → Int) : Int := if okCurve n T M = true then (if n = 0 then 0 else maxT M (n - 1) - minT M (n - 1)) else 0
def ampCode (n : Nat) (T M : Nat → Int) : Int := if okCurve n T M = true then (if n = 0 then 3 else 0) else 1
theorem amp_cases (n : Nat) (T M : Nat → Int) : (okCurve n T M = true ∧ 1 ≤ n ∧ ampCode n T M = 0 ∧ ampV n T M = maxT M (n - 1) - minT M (n - 1)) ∨ (okCurve n T M = true ∧ n = 0 ∧ ampCode n T M = 3 ∧ ampV n T M = 0) ∨ (okCurve n T M = false ∧ ampCode n T M = 1 ∧ ampV n T M = 0) := by
  unfold ampCode ampV
  cases h : okCurve n T M <;> by_cases h2 : n = 0 <;> simp [h2] <;> omega
theorem c_l00Min1 (a b : Int) (w : World) (h : a < b) : Calls Try.prog 72 #[.int .i64 a, .int .i64 b] w fun e w' => e = .returned (.int .i64 a) ∧ w = w' := by
  go_enter Try.func72, Try.ntmps72
  go_wp2
  go_ret
  exact ⟨rfl, rfl⟩
theorem c_l00Min2 (a b : Int) (w : World) (h : ¬ a < b) : Calls Try.prog 72 #[.int .i64 a, .int .i64 b] w fun e w' => e = .returned (.int .i64 b) ∧ w = w' := by
  go_enter Try.func72, Try.ntmps72
  go_wp2
  go_ret
  exact ⟨rfl, rfl⟩
theorem c_l00Max1 (a b : Int) (w : World) (h : b < a) : Calls Try.prog 71 #[.int .i64 a, .int .i64 b] w fun e w' => e = .returned (.int .i64 a) ∧ w = w' := by
  go_enter Try.func71, Try.ntmps71
  go_wp2
  go_ret
  exact ⟨rfl, rfl⟩
theorem c_l00Max2 (a b : Int) (w : World) (h : ¬ b < a) : Calls Try.prog 71 #[.int .i64 a, .int .i64 b] w fun e w' => e = .returned (.int .i64 b) ∧ w = w' := by
  go_enter Try.func71, Try.ntmps71
  go_wp2
  go_ret
  exact ⟨rfl, rfl⟩
theorem min_merge {T : Nat → Int} {k : Nat} {x : Int} (hk : 1 ≤ k) (h : x = minT T (k - 1)) : (if x < T k then x else T k) = minT T (k + 1 - 1) := by
  rw [Nat.add_sub_cancel, min_step hk h]; split <;> split <;> omega
theorem max_merge {T : Nat → Int} {k : Nat} {x : Int} (hk : 1 ≤ k) (h : x = maxT T (k - 1)) : (if T k < x then x else T k) = maxT T (k + 1 - 1) := by
  rw [Nat.add_sub_cancel, max_step hk h]; split <;> split <;> omega
def shV (n : Nat) (T M : Nat → Int) : Int := if okCurve n T M = true ∧ n ≤ 40 then 2 * ampV n T M else 0
def shCode (n : Nat) (T M : Nat → Int) : Int := if okCurve n T M = true then (if n ≤ 40 then 0 else 5) else 1
theorem amp_bd {n : Nat} {T M : Nat → Int} : -22000 ≤ ampV n T M ∧ ampV n T M ≤ 22000 := by
  rcases amp_cases n T M with ⟨hok, h2, _, hval⟩ | ⟨_, _, _, hval⟩ | ⟨_, _, hval⟩
  · obtain ⟨h100, _, hM, _⟩ := okCurve_bd hok
    have b1 := maxT_bd (T := M) (k := n - 1) (a := -2000) (b := 20000) (fun i hi => hM i (by omega))
    have b2 := minT_bd (T := M) (k := n - 1) (a := -2000) (b := 20000) (fun i hi => hM i (by omega))
    omega
  · omega
  · omega
theorem sh_cases (n : Nat) (T M : Nat → Int) : (okCurve n T M = true ∧ n ≤ 40 ∧ shCode n T M = 0 ∧ shV n T M = 2 * ampV n T M) ∨ (okCurve n T M = true ∧ 40 < n ∧ shCode n T M = 5 ∧ shV n T M = 0) ∨ (okCurve n T M = false ∧ shCode n T M = 1 ∧ shV n T M = 0) := by
  unfold shCode shV
  cases h : okCurve n T M <;> by_cases h2 : n ≤ 40 <;> simp [h2] <;> omega
end Go.Proofs.Ytenjcdhehjdeoaa.Amp
