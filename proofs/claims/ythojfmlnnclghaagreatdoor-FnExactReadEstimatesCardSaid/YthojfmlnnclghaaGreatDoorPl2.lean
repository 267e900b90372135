/- Plain functions on numbers below a bound: some, the first, the sum; nothing here speaks of the program. -/
import Derived.Test.YthojfmlnnclghaaGreatDoorPlain
namespace Go.Proofs.YthojfmlnnclghaaGreatDoor.Plain
set_option linter.unusedVariables false
set_option linter.unusedSimpArgs false

/-- some number below n; the first one -/
def anyB (n : Nat) (p : Nat → Bool) : Bool := (List.range n).any p
def idxB (n : Nat) (p : Nat → Bool) : Int := match (List.range n).find? p with
  | some i => (i : Int)
  | none => -1
theorem anyB_iff {n : Nat} {p : Nat → Bool} : anyB n p = true ↔ ∃ i, i < n ∧ p i = true := by simp [anyB]
theorem anyB_false {n : Nat} {p : Nat → Bool} : anyB n p = false ↔ ∀ i, i < n → p i = false := by simp [anyB]
theorem idxB_hit {n k : Nat} {p : Nat → Bool} (hk : k < n) (h : p k = true) (hb : allB k (fun i => !p i) = true) : idxB n p = k := by
  have e : (List.range n).find? p = some k := List.find?_range_eq_some.2 ⟨h, List.mem_range.2 hk, fun j hj => allB_iff.1 hb j hj⟩
  rw [idxB, e]
theorem idxB_miss {n : Nat} {p : Nat → Bool} (hb : allB n (fun i => !p i) = true) : idxB n p = -1 := by
  have e : (List.range n).find? p = none := List.find?_range_eq_none.2 (fun j hj => allB_iff.1 hb j hj)
  rw [idxB, e]
theorem idxB_nonneg {n : Nat} {p : Nat → Bool} : decide (0 ≤ idxB n p) = anyB n p := by
  unfold idxB anyB
  cases h : (List.range n).find? p with
  | none =>
    have := List.find?_range_eq_none.1 h
    have e : (List.range n).any p = false := by
      rw [List.any_eq_false]
      intro x hx
      have := this x (List.mem_range.1 hx)
      simpa using this
    rw [e]; rfl
  | some i =>
    have := (List.find?_range_eq_some.1 h)
    have e : (List.range n).any p = true := List.any_eq_true.2 ⟨i, this.2.1, this.1⟩
    rw [e]
    simp
theorem idxB_bd {n : Nat} {p : Nat → Bool} : -1 ≤ idxB n p ∧ idxB n p < (n : Int) := by
  unfold idxB
  cases h : (List.range n).find? p with
  | none => exact ⟨by show (-1 : Int) ≤ -1; omega, by show (-1 : Int) < n; omega⟩
  | some i =>
    have := List.mem_range.1 (List.find?_range_eq_some.1 h).2.1
    exact ⟨by show (-1 : Int) ≤ i; omega, by show (i : Int) < n; omega⟩

/-- the sum over all numbers below k -/
def sumB : Nat → (Nat → Int) → Int
  | 0, _ => 0
  | k + 1, f => sumB k f + f k
theorem sumB_succ (k : Nat) (f : Nat → Int) : sumB (k + 1) f = sumB k f + f k := rfl
theorem sumB_bd {k : Nat} {f : Nat → Int} {a b : Int} (h : ∀ i, i < k → a ≤ f i ∧ f i ≤ b) : k * a ≤ sumB k f ∧ sumB k f ≤ k * b := by
  induction k with
  | zero => simp [sumB]
  | succ k ih =>
    have h1 := ih (fun i hi => h i (by omega))
    have h2 := h k (by omega)
    have ea : ((k + 1 : Nat) : Int) * a = k * a + a := by rw [Int.natCast_add, Int.add_mul]; simp
    have eb : ((k + 1 : Nat) : Int) * b = k * b + b := by rw [Int.natCast_add, Int.add_mul]; simp
    rw [sumB, ea, eb]
    omega
theorem sumB_congr {k : Nat} {f g : Nat → Int} (h : ∀ i, i < k → f i = g i) : sumB k f = sumB k g := by
  induction k with
  | zero => rfl
  | succ k ih => rw [sumB, sumB, ih (fun i hi => h i (by omega)), h k (by omega)]
theorem allB_congr {k : Nat} {f g : Nat → Bool} (h : ∀ i, i < k → f i = g i) : allB k f = allB k g := by
  induction k with
  | zero => rfl
  | succ k ih => rw [allB, allB, ih (fun i hi => h i (by omega)), h k (by omega)]
end Go.Proofs.YthojfmlnnclghaaGreatDoor.Plain
