/- Reading a magnitude: the program's ReadMag. -/
import Derived.Test.YthojfmlnnclghaaGreatDoorRdM
namespace Go.Proofs.YthojfmlnnclghaaGreatDoor.Rd
set_option linter.unusedVariables false
set_option linter.unusedSimpArgs false
set_option maxRecDepth 8000
open Go.RowKit Plain Num View Dec Txt Name Etx

theorem c_MagText_no (m : Int) (w : World) (hm : inB m (-2000) 20000 = false) :
    Calls Tryz.prog 32 #[.int .i64 m] w fun e w' => e = .returned (.string ⟨#[]⟩) ∧ Below w.heap.size w w' := by
  have HV : Hid (∀ W : World, Calls Tryz.prog 55 #[.int .i64 m] W fun e w' => e = .returned (.bool false) ∧ W = w') := Lib.hid (fun W => by have := c_ValidMag m W; rw [hm] at this; exact this)
  clear hm
  go_enter Tryz.func32, Tryz.ntmps32
  go_wp2_with (first | (go_at_call 55; refine (HV.out _).mono ?_; rintro e w' ⟨rfl, rfl⟩))
  go_ret
  exact ⟨rfl, (by repeat' (first | (with_reducible exact Below.refl _ _) | (with_reducible assumption) | (with_reducible refine Base.grow_alloc ?_ _) | (with_reducible refine Base.below_drewN ?_ _) | (with_reducible refine Below.drew ?_) | (with_reducible refine Below.setCell ?_ ?_ _) | go_size))⟩
theorem cut_len (c : UInt8) (l : List UInt8) : (Lib.cut l [c]).1.length ≤ l.length ∧ (Lib.cut l [c]).2.1.length ≤ l.length := by
  rcases noC_or c l with h | ⟨a, b, rfl, h⟩
  · rw [cut_no h]; exact ⟨Nat.le_refl _, Nat.zero_le _⟩
  · rw [cut_at b h]; simp only [List.length_append, List.length_cons]; omega
theorem PN_small {u : Nat} (h : u < 100) : PN (Lib.itoa (u : Int)) u := by
  refine ⟨⟨by omega, by omega⟩, rfl, ?_⟩
  rw [trim_itoa, show (u : Int).natAbs = u from rfl]
  by_cases h1 : u < 10
  · rw [dec1 h1]; simp
  · rw [dec2 (by omega) h]; simp
/-- the text of a magnitude, cut: what its parts must be -/
theorem PM_reads {l W R : List UInt8} {m : Int} (h : PM l m) (hW : (Lib.cut (Lib.trimPrefix l [45]) [46]).1 = W) (hR : (Lib.cut (Lib.trimPrefix l [45]) [46]).2.1 = R) : PN W ((m.natAbs / 1000 : Nat) : Int) ∧ R = three (m.natAbs % 1000) := by
  have e := PM_cut h
  rw [e] at hW hR
  have hu := (PM_parts h).2.2.1
  refine ⟨?_, hR.symm⟩
  rw [← hW]
  exact PN_small (by omega)
/-- what MagText of any number says: the text, if there is one -/
theorem mag_end {s : ByteArray} {v : Int} : (inB v (-2000) 20000 = true → magL v = s.data.toList → RM s.data.toList v true) := fun h1 h2 => RM_yes ⟨h1, h2.symm⟩
end Go.Proofs.YthojfmlnnclghaaGreatDoor.Rd
