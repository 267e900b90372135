/- slices.IndexFunc and slices.ContainsFunc with whatever closure, and the closures of isAt and allIn. -/
import Derived.Test.YthojfmlnnclghaaGreatDoorView
import Derived.Test.YthojfmlnnclghaaGreatDoorNum
import Derived.Test.YthojfmlnnclghaaGreatDoorPl2
import Derived.Shelf.Abstract
namespace Go.Proofs.YthojfmlnnclghaaGreatDoor.Idx
set_option linter.unusedVariables false
set_option linter.unusedSimpArgs false
open Go.RowKit Go.Shelf Plain Num View

/-- A closure that answers 'p i' at element i and makes only new memory. -/
def Pred (P : Program) (w : World) (g : Nat) (lb : Array Value) (n : Nat) (arg : Nat → Value) (p : Nat → Bool) : Prop :=
  ∀ (W : World), Below w.heap.size w W → ∀ i, i < n → Calls P g (#[arg i] ++ lb) W fun e w' => e = .returned (.bool (p i)) ∧ Below W.heap.size W w'
theorem Pred.below {P : Program} {w w1 : World} {g : Nat} {lb : Array Value} {n : Nat} {arg : Nat → Value} {p : Nat → Bool} (h : Pred P w g lb n arg p) (hb : Below w.heap.size w w1) : Pred P w1 g lb n arg p :=
  fun W hW i hi => h W (Base.via hW hb) i hi
end Go.Proofs.YthojfmlnnclghaaGreatDoor.Idx
