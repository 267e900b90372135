/- The light curve of a star: the closure and the opening checks of both sides. -/
import Derived.Test.YthojfmlnnclghaaChoE
namespace Go.Proofs.Ythojfmlnnclghaa.CvE
set_option linter.unusedVariables false
set_option linter.unusedSimpArgs false
set_option maxRecDepth 8000
open Go.RowKit Go.Shelf Plain Num View Idx Est Name Es1 ChoE

/-- which estimates count -/
def cvP (star : ByteArray) (e : E5) : Bool := decide (e.s = star) && !e.b
set_option maxHeartbeats 1600000 in
theorem c_cvP (star : ByteArray) (e : E5) (g : Nat) (w : World) (hs : w.cell? ⟨g, 0, none⟩ = some (.string star)) :
    Calls Try.prog 55 #[est e, .pointer (some ⟨g, 0, none⟩)] w fun r w' => r = .returned (.bool (cvP star e)) ∧ Below w.heap.size w w' := by
  have HO : Hid (cvP star e = (decide (e.s = star) && !e.b)) := Lib.hid rfl
  have lg := World.block_lt_of_cell? _ _ hs
  dsimp only at lg
  obtain ⟨t, s, o, m, b⟩ := e
  simp only [est]
  dsimp only at HO
  generalize cvP star _ = v at *
  have e1 := bts_eq s star
  generalize decide (s = star) = z at *
  cases z <;> cases b <;>
    (go_enter Try.func55, Try.ntmps55
     go_wp2
     go_ret
     exact ⟨ret_b (by rw [HO.out]; rfl), (by repeat' (first | (with_reducible exact Below.refl _ _) | (with_reducible assumption) | (with_reducible refine Base.grow_alloc ?_ _) | (with_reducible refine Base.below_drewN ?_ _) | (with_reducible refine Below.drew ?_) | (with_reducible refine Below.setCell ?_ ?_ _) | go_size))⟩)
end Go.Proofs.Ythojfmlnnclghaa.CvE
