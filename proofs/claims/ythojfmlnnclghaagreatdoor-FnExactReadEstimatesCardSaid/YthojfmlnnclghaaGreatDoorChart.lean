/- Charts: marks, when they are valid. -/
import Derived.Test.YthojfmlnnclghaaGreatDoorView
import Derived.Test.YthojfmlnnclghaaGreatDoorNum
import Derived.Test.YthojfmlnnclghaaGreatDoorPl2
import Derived.Test.YthojfmlnnclghaaGreatDoorIdx
import Derived.BigQuiet
import Derived.Deep.QuietTactic
import Derived.Deep.RegionHeld3
import Derived.Deep.RegionWith
namespace Go.Proofs.YthojfmlnnclghaaGreatDoor.Chart
set_option linter.unusedVariables false
set_option linter.unusedSimpArgs false
open Go.RowKit Plain Num View

def okMark (x y m : Int) : Bool := inB x 0 2000 && inB y 0 2000 && inB m (-2000) 20000
def okMk (X Y M : Nat → Int) (i : Nat) : Bool := okMark (X i) (Y i) (M i) && !anyB i (fun j => X j == X i && Y j == Y i)
def okChart (n : Nat) (X Y M : Nat → Int) : Bool := decide (n ≤ 30) && allB n (okMk X Y M)
theorem okChart_n {n : Nat} {X Y M : Nat → Int} (h : okChart n X Y M = true) : n ≤ 30 := by
  simp only [okChart, Bool.and_eq_true, decide_eq_true_eq] at h
  exact h.1
theorem okChart_bd {n : Nat} {X Y M : Nat → Int} (h : okChart n X Y M = true) : ∀ i, i < n → (0 ≤ X i ∧ X i ≤ 2000) ∧ (0 ≤ Y i ∧ Y i ≤ 2000) ∧ (-2000 ≤ M i ∧ M i ≤ 20000) := by
  simp only [okChart, Bool.and_eq_true, decide_eq_true_eq] at h
  intro i hi
  have := allB_iff.1 h.2 i hi
  simp only [okMk, okMark, Bool.and_eq_true] at this
  exact ⟨inB_iff.1 this.1.1.1, inB_iff.1 this.1.1.2, inB_iff.1 this.1.2⟩
theorem Sl.pre {w k A n c f} (h : Sl w k A n c f) {m : Nat} (hm : m ≤ n) : Sl w k A m c f :=
  ⟨Nat.le_trans hm h.le, Nat.le_trans hm h.leC, h.leM, fun hp => by
    obtain ⟨b, off, e, hb, hc⟩ := h.at_ (by omega)
    exact ⟨b, off, e, hb, fun i hi j hj => hc i (by omega) j hj⟩⟩

end Go.Proofs.YthojfmlnnclghaaGreatDoor.Chart
