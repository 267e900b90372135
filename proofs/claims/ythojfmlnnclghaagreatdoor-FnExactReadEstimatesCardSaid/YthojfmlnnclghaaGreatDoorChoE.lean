/- The chosen ones of a list of estimates, with whatever closure. -/
import Derived.Test.YthojfmlnnclghaaGreatDoorMkE
import Derived.Test.YthojfmlnnclghaaGreatDoorIdx
import Derived.Test.YthojfmlnnclghaaGreatDoorList
import Derived.Test.YthojfmlnnclghaaGreatDoorCopy
namespace Go.Proofs.YthojfmlnnclghaaGreatDoor.ChoE
set_option linter.unusedVariables false
set_option linter.unusedSimpArgs false
set_option maxRecDepth 8000
open Go.RowKit Go.Shelf Plain Num View Idx Est Name Es1

def vals (e : E5) : List Value := [.int .i64 e.t, .string e.s, .string e.o, .int .i64 e.m, .bool e.b]
def cellE (L : List E5) : List Value := L.flatMap vals
def leE (L : List E5) : Nat → E5 := fun i => L.getD i zero5
theorem cellE_snoc (L : List E5) (e : E5) : cellE L ++ vals e = cellE (L ++ [e]) := by simp [cellE]
theorem cellE_len (L : List E5) : (cellE L).length = L.length * 5 := by
  induction L with
  | nil => rfl
  | cons e L ih =>
    have : cellE (e :: L) = vals e ++ cellE L := by simp [cellE]
    rw [this, List.length_append, ih, List.length_cons]
    simp only [vals, List.length_cons, List.length_nil]
    omega
theorem cellE_at (L : List E5) : ∀ i, i < L.length → ∀ j, j < 5 → (cellE L)[i * 5 + j]? = some (f5 (leE L) i j) := by
  induction L with
  | nil => intro i hi; simp at hi
  | cons e L ih =>
    intro i hi j hj
    have hc : cellE (e :: L) = vals e ++ cellE L := by simp [cellE]
    rw [hc]
    by_cases h0 : i = 0
    · subst h0
      rw [List.getElem?_append_left (by simp [vals]; omega)]
      obtain rfl | rfl | rfl | rfl | rfl : j = 0 ∨ j = 1 ∨ j = 2 ∨ j = 3 ∨ j = 4 := by omega
      all_goals simp [vals, f5, leE]
    · obtain ⟨i', rfl⟩ : ∃ i', i = i' + 1 := ⟨i - 1, by omega⟩
      rw [List.getElem?_append_right (by simp [vals]; omega)]
      have e1 : (i' + 1) * 5 + j - (vals e).length = i' * 5 + j := by simp [vals]; omega
      rw [e1, ih i' (by simpa using hi) j hj]
      simp [f5, leE]
theorem own_snocE {w : World} {B : Nat} {E : TypeId} {v : Value} {L : List E5} {e : E5} (h : w.ownsRow B E 5 v (L.length + 1) (cellE L ++ vals e)) : w.ownsRow B E 5 v (L ++ [e]).length (cellE (L ++ [e])) := by
  rw [cellE_snoc] at h
  simpa using h
theorem of_listE {w : World} {B : Nat} {E : TypeId} {v : Value} {L : List E5} (h : w.ownsRow B E 5 v L.length (cellE L)) (hn : L.length ≤ 1048576) : OwnK w B E 5 v L.length (f5 (leE L)) := OwnK.of_own h hn (cellE_at L)
end Go.Proofs.YthojfmlnnclghaaGreatDoor.ChoE
