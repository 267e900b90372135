/- The gap of magnitudes behind a mark: the least positive difference, and the least of the greater ones. Plain words; nothing here speaks of the program. -/
import Derived.Test.YtenjcdhehjdeoaaAmp
namespace Go.Proofs.Ytenjcdhehjdeoaa.MagG
set_option linter.unusedVariables false
set_option linter.unusedSimpArgs false
open Go.RowKit Plain View Amp

/-- the least positive difference to the first k magnitudes; -1 if there is none -/
def nextG (M : Nat → Int) (i : Nat) : Nat → Int
  | 0 => -1
  | k + 1 => if 0 < M k - M i ∧ (nextG M i k < 0 ∨ M k - M i < nextG M i k) then M k - M i else nextG M i k
def gtB (M : Nat → Int) (i : Nat) (k : Nat) : Bool := decide (M i < M k)
/-- those of the first k magnitudes that are greater -/
def grL (M : Nat → Int) (i k : Nat) : List Int := sel k (gtB M i) M
theorem minT_congr {T T' : Nat → Int} : ∀ {k : Nat}, (∀ i, i ≤ k → T i = T' i) → minT T k = minT T' k
  | 0, h => h 0 (by omega)
  | k + 1, h => by rw [minT, minT, minT_congr (fun i hi => h i (by omega)), h (k + 1) (by omega)]
theorem lf_app {L : List Int} {x : Int} {i : Nat} (h : i < L.length) : lf (L ++ [x]) i = lf L i := by
  simp [lf, List.getElem?_append_left h]
theorem lf_last {L : List Int} {x : Int} : lf (L ++ [x]) L.length = x := by simp [lf]
theorem min_snoc {L : List Int} {x : Int} (h : 0 < L.length) : minT (lf (L ++ [x])) L.length = if x < minT (lf L) (L.length - 1) then x else minT (lf L) (L.length - 1) := by
  obtain ⟨j, hj⟩ : ∃ j, L.length = j + 1 := ⟨L.length - 1, by omega⟩
  have e : minT (lf (L ++ [x])) j = minT (lf L) j := minT_congr (fun i hi => lf_app (by omega))
  have e2 : lf (L ++ [x]) (j + 1) = x := by rw [← hj]; exact lf_last
  rw [hj, minT, e, e2]
  rfl
theorem gr_yes {M : Nat → Int} {i k : Nat} (h : M i < M k) : grL M i (k + 1) = grL M i k ++ [M k] := sel_yes (by simp [gtB, h])
theorem gr_no {M : Nat → Int} {i k : Nat} (h : ¬ M i < M k) : grL M i (k + 1) = grL M i k := sel_no (by simp [gtB, h])
theorem gap_rel {M : Nat → Int} {i : Nat} : ∀ (k : Nat), ((grL M i k).length = 0 ∧ nextG M i k = -1) ∨ (0 < (grL M i k).length ∧ 0 < nextG M i k ∧ nextG M i k = minT (lf (grL M i k)) ((grL M i k).length - 1) - M i)
  | 0 => .inl ⟨rfl, rfl⟩
  | k + 1 => by
    have ih := gap_rel (M := M) (i := i) k
    by_cases h : M i < M k
    · right
      have el : (grL M i (k + 1)).length = (grL M i k).length + 1 := by rw [gr_yes h]; simp
      rcases ih with ⟨h0, h1⟩ | ⟨h0, h1, h2⟩
      · have en : nextG M i (k + 1) = M k - M i := by rw [nextG, if_pos ⟨by omega, .inl (by omega)⟩]
        have e0 : grL M i k = [] := List.eq_nil_of_length_eq_zero h0
        refine ⟨by omega, by omega, ?_⟩
        rw [en, gr_yes h, e0]
        simp [minT, lf]
      · have em : minT (lf (grL M i (k + 1))) ((grL M i (k + 1)).length - 1) = if M k < minT (lf (grL M i k)) ((grL M i k).length - 1) then M k else minT (lf (grL M i k)) ((grL M i k).length - 1) := by
          rw [el, gr_yes h, Nat.add_sub_cancel]
          exact min_snoc h0
        by_cases hm : M k < minT (lf (grL M i k)) ((grL M i k).length - 1)
        · have en : nextG M i (k + 1) = M k - M i := by rw [nextG, if_pos ⟨by omega, .inr (by omega)⟩]
          rw [if_pos hm] at em
          exact ⟨by omega, by omega, by rw [en, em]⟩
        · have en : nextG M i (k + 1) = nextG M i k := by rw [nextG, if_neg (by omega)]
          rw [if_neg hm] at em
          exact ⟨by omega, by omega, by rw [en, em]; exact h2⟩
    · have en : nextG M i (k + 1) = nextG M i k := by rw [nextG, if_neg (by omega)]
      rw [gr_no h, en]
      exact ih
theorem nextG_bd {M : Nat → Int} {i k : Nat} {a b : Int} (hi : a ≤ M i ∧ M i ≤ b) (h : ∀ j, j < k → a ≤ M j ∧ M j ≤ b) (hab : 0 ≤ b - a) : -1 ≤ nextG M i k ∧ nextG M i k ≤ b - a := by
  induction k with
  | zero => exact ⟨by rw [nextG]; omega, by rw [nextG]; omega⟩
  | succ k ih =>
    have h1 := ih (fun j hj => h j (by omega))
    have h2 := h k (by omega)
    rw [nextG]
    split <;> omega
def gapB (M : Nat → Int) (v : Int) (n i : Nat) : Bool := decide (v < nextG M i n)
theorem gap_none {M : Nat → Int} {v : Int} {n i : Nat} (hv : 0 ≤ v) (h : (grL M i n).length = 0) : gapB M v n i = false := by
  rcases gap_rel (M := M) (i := i) n with ⟨_, h1⟩ | ⟨h0, _⟩
  · simp [gapB, h1]; omega
  · omega
theorem gap_some {M : Nat → Int} {v : Int} {n i : Nat} (h : 0 < (grL M i n).length) : gapB M v n i = decide (v < minT (lf (grL M i n)) ((grL M i n).length - 1) - M i) := by
  rcases gap_rel (M := M) (i := i) n with ⟨h0, _⟩ | ⟨_, _, h2⟩
  · omega
  · rw [gapB, h2]
/-- the marks behind which there is a gap -/
def iotaI (i : Nat) : Int := (i : Int)
end Go.Proofs.Ytenjcdhehjdeoaa.MagG
