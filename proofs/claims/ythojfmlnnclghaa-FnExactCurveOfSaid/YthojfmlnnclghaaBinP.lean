/- Points grouped by parts of the time: plain words; nothing here speaks of the program. -/
import Derived.Test.YthojfmlnnclghaaFrac
import Derived.Test.YthojfmlnnclghaaList
import Derived.Test.YthojfmlnnclghaaPl2
namespace Go.Proofs.Ythojfmlnnclghaa.BinC
set_option linter.unusedVariables false
set_option linter.unusedSimpArgs false
open Go.RowKit Plain View Frac

/-- the mean point of points i to k - 1 -/
def ptI (T M : Nat → Int) (i k : Nat) : Int × Int := (nrI (sumB (k - i) (fun q => T (i + q))) ((k - i : Nat) : Int), nrI (sumB (k - i) (fun q => M (i + q))) ((k - i : Nat) : Int))
/-- the groups that are closed once k points have been taken, and where the open one begins -/
def grp (n : Nat) (T M : Nat → Int) (v : Int) : Nat → List (Int × Int) × Nat
  | 0 => ([], 0)
  | k + 1 => if k + 1 < n ∧ T (k + 1) / v = T (grp n T M v k).2 / v then grp n T M v k else ((grp n T M v k).1 ++ [ptI T M (grp n T M v k).2 (k + 1)], k + 1)
/-- points i to k - 1 are in the open group; L are the closed ones -/
def InG (n : Nat) (T M : Nat → Int) (v : Int) (i k : Nat) (L : List (Int × Int)) : Prop := (k = i ∧ grp n T M v i = (L, i)) ∨ (i < k ∧ grp n T M v (k - 1) = (L, i))
theorem InG.start {n : Nat} {T M : Nat → Int} {v : Int} {i : Nat} {L : List (Int × Int)} (h : grp n T M v i = (L, i)) : InG n T M v i i L := .inl ⟨rfl, h⟩
theorem InG.next {n : Nat} {T M : Nat → Int} {v : Int} {i k : Nat} {L : List (Int × Int)} (h : InG n T M v i k L) (hk : k < n) (he : T k / v = T i / v) : InG n T M v i (k + 1) L := by
  right
  rcases h with ⟨rfl, h⟩ | ⟨hlt, h⟩
  · exact ⟨by omega, by simpa using h⟩
  · refine ⟨by omega, ?_⟩
    obtain ⟨j, rfl⟩ : ∃ j, k = j + 1 := ⟨k - 1, by omega⟩
    simp only [Nat.add_sub_cancel] at h ⊢
    rw [grp, h, if_pos ⟨hk, he⟩]
theorem InG.done {n : Nat} {T M : Nat → Int} {v : Int} {i k : Nat} {L : List (Int × Int)} (h : InG n T M v i k L) (hi : i < n) (he : ¬ (k < n ∧ T k / v = T i / v)) : i < k ∧ grp n T M v k = (L ++ [ptI T M i k], k) := by
  rcases h with ⟨rfl, h⟩ | ⟨hlt, h⟩
  · exact absurd ⟨hi, rfl⟩ he
  · refine ⟨hlt, ?_⟩
    obtain ⟨j, rfl⟩ : ∃ j, k = j + 1 := ⟨k - 1, by omega⟩
    simp only [Nat.add_sub_cancel] at h
    rw [grp, h, if_neg he]
theorem grp_len (n : Nat) (T M : Nat → Int) (v : Int) : ∀ k, (grp n T M v k).1.length ≤ k
  | 0 => by simp [grp]
  | k + 1 => by
    have := grp_len n T M v k
    rw [grp]
    split
    · omega
    · simp; omega
theorem grp_len' {n : Nat} {T M : Nat → Int} {v : Int} {k i : Nat} {L : List (Int × Int)} (h : grp n T M v k = (L, i)) : L.length ≤ k := by
  have := grp_len n T M v k
  rwa [h] at this
end Go.Proofs.Ythojfmlnnclghaa.BinC
