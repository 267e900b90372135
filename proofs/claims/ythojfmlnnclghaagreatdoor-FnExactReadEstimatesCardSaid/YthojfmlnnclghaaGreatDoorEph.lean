/- The ephemeris and the search: what the program and the reference return. -/
import Derived.Test.YthojfmlnnclghaaGreatDoorBase
import Derived.Test.YthojfmlnnclghaaGreatDoorNum
import Derived.Deep.RegionHeld3
namespace Go.Proofs.YthojfmlnnclghaaGreatDoor.Eph
set_option linter.unusedVariables false
set_option linter.unusedSimpArgs false
open Go.RowKit Plain Num

def okEph (e p : Int) : Bool := inB e 0 10000000 && inB p 1 1000000

def okSearch (f t s : Int) : Bool := inB f 1 1000000 && inB t f 1000000 && inB s 1 1000000 && decide ((t - f) / s + 1 ≤ 500)


theorem okEph_bd {e p : Int} (h : okEph e p = true) : (0 ≤ e ∧ e ≤ 10000000) ∧ (1 ≤ p ∧ p ≤ 1000000) := by
  simp only [okEph, Bool.and_eq_true] at h
  exact ⟨inB_iff.1 h.1, inB_iff.1 h.2⟩
/-- the code of an ephemeris and a time -/
def ephCode (e p t : Int) : Int := if okEph e p = true then (if inB t 0 10000000 = true then 0 else 2) else 1
def cycV (e p t : Int) : Int := if ephCode e p t = 0 then (t - e) / p else 0
def phV (e p t : Int) : Int := if ephCode e p t = 0 then (t - e) % p else 0

theorem ret_pair {k l : IntKind} {a b c d : Int} (h : a = c) (h' : b = d) : Ending.returned (.tuple #[.int k a, .int l b]) = .returned (.tuple #[.int k c, .int l d]) := by rw [h, h']
theorem ephCode_cases (e p t : Int) : (okEph e p = true ∧ inB t 0 10000000 = true ∧ ephCode e p t = 0) ∨ (okEph e p = true ∧ ¬ inB t 0 10000000 = true ∧ ephCode e p t = 2) ∨ (¬ okEph e p = true ∧ ephCode e p t = 1) := by
  unfold ephCode
  by_cases h1 : okEph e p = true <;> by_cases h2 : inB t 0 10000000 = true <;> simp [h1, h2]
end Go.Proofs.YthojfmlnnclghaaGreatDoor.Eph
