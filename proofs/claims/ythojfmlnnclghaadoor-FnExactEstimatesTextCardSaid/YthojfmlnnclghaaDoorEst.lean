/- Estimates in memory; the marks of the laws on them. -/
import Derived.Test.YthojfmlnnclghaaDoorBase
import Derived.Test.YthojfmlnnclghaaDoorView
import Derived.Test.YthojfmlnnclghaaDoorNum
import Derived.Test.YthojfmlnnclghaaDoorHelp
import Derived.BigQuiet
import Derived.Deep.QuietTactic
import Derived.Deep.RegionHeld3
namespace Go.Proofs.YthojfmlnnclghaaDoor.Est
set_option linter.unusedVariables false
set_option linter.unusedSimpArgs false
set_option maxRecDepth 8000
open Go.RowKit Plain Num View

structure E5 where
  t : Int
  s : ByteArray
  o : ByteArray
  m : Int
  b : Bool
def est (e : E5) : Value := .agg #[.int .i64 e.t, .string e.s, .string e.o, .int .i64 e.m, .bool e.b]
def f5 (E : Nat → E5) : Nat → Nat → Value := fun i j => if j = 0 then .int .i64 (E i).t else if j = 1 then .string (E i).s else if j = 2 then .string (E i).o else if j = 3 then .int .i64 (E i).m else .bool (E i).b
theorem cells5 {w : World} {b off n : Nat} {E : Nat → E5} (h : ∀ i, i < n → ∀ j, j < 5 → w.cell? ⟨b, off + i * 5 + j, none⟩ = some (f5 E i j)) (i : Nat) (hi : i < n) :
    w.cell? ⟨b, off + i * 5, none⟩ = some (.int .i64 (E i).t) ∧ w.cell? ⟨b, off + i * 5 + 1, none⟩ = some (.string (E i).s) ∧ w.cell? ⟨b, off + i * 5 + 2, none⟩ = some (.string (E i).o) ∧ w.cell? ⟨b, off + i * 5 + 3, none⟩ = some (.int .i64 (E i).m) ∧ w.cell? ⟨b, off + i * 5 + 4, none⟩ = some (.bool (E i).b) :=
  ⟨h i hi 0 (by omega), h i hi 1 (by omega), h i hi 2 (by omega), h i hi 3 (by omega), h i hi 4 (by omega)⟩

theorem ret_str {a b : ByteArray} (h : a = b) : Ending.returned (.string a) = .returned (.string b) := by rw [h]
theorem size_l (l : List UInt8) : (⟨l.toArray⟩ : ByteArray).size = l.length := by simp [ByteArray.size]
theorem ba_app' (x y : ByteArray) : x ++ y = ⟨(x.data.toList ++ y.data.toList).toArray⟩ := by
  apply ByteArray.ext
  simp
/-- the text of a mark -/
def mtD (k : Nat) (acc : List UInt8) : List UInt8 := if h : k = 0 then acc else mtD (k / 10) (UInt8.ofNat (48 + k % 10) :: acc)
termination_by k
decreasing_by omega
def mT (k : Nat) : ByteArray := if k = 0 then ⟨#[109, 48]⟩ else ⟨(109 :: mtD k []).toArray⟩
theorem mtD_step {k : Nat} (h : k ≠ 0) (acc : List UInt8) : mtD k acc = mtD (k / 10) (UInt8.ofNat (48 + k % 10) :: acc) := by rw [mtD, dif_neg h]
theorem mtD_zero (acc : List UInt8) : mtD 0 acc = acc := by rw [mtD, dif_pos rfl]
end Go.Proofs.YthojfmlnnclghaaDoor.Est
