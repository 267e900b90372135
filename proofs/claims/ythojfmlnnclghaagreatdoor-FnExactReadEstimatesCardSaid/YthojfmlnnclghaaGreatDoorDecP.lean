/- The decimal form of a number, digit by digit from its end; three digits. Plain words; nothing here speaks of the program. -/
import Derived.Test.YthojfmlnnclghaaGreatDoorPlain
import Derived.Lib.ItoaNum
import Derived.Lib.ItoaLen
namespace Go.Proofs.YthojfmlnnclghaaGreatDoor.Dec
set_option linter.unusedVariables false
set_option linter.unusedSimpArgs false
open Go Plain

/-- the digits of what is left of a number: none of 0 -/
def dgK (k : Int) : List UInt8 := if k = 0 then [] else Lib.decDigits k.natAbs
theorem dgK_zero : dgK 0 = [] := rfl
theorem dgK_step {k : Int} (h : k ≠ 0) : dgK k = dgK (k.tdiv 10) ++ [UInt8.ofNat (48 + k.natAbs % 10)] := by
  have e : (k.tdiv 10).natAbs = k.natAbs / 10 := by rw [Int.natAbs_tdiv]; rfl
  rw [dgK, if_neg h, Lib.decDigits]
  by_cases c : k.natAbs < 10
  · rw [dif_pos c, dgK, if_pos (by omega), Nat.mod_eq_of_lt c]; rfl
  · rw [dif_neg c, dgK, if_neg (by omega), e]
/-- the value of the last digit -/
theorem dig_val (k : Int) : absI (k.tmod 10) = ((k.natAbs % 10 : Nat) : Int) := by
  have e : (k.tmod 10).natAbs = k.natAbs % 10 := by rw [Int.natAbs_tmod]; rfl
  unfold absI
  split <;> omega
theorem dig_byte (k : Int) : ((UInt8.ofNat (48 + k.natAbs % 10)).toNat : Int) = 48 + absI (k.tmod 10) := by
  rw [dig_val, UInt8.toNat_ofNat']
  have : (48 + k.natAbs % 10) % 2 ^ 8 = 48 + k.natAbs % 10 := Nat.mod_eq_of_lt (by omega)
  rw [this]
  omega
theorem tmod_bd10 (k : Int) : -9 ≤ k.tmod 10 ∧ k.tmod 10 ≤ 9 := by
  have := dig_val k
  unfold absI at this
  split at this <;> omega
theorem tdiv_abs10 (k : Int) : (k.tdiv 10).natAbs = k.natAbs / 10 := by rw [Int.natAbs_tdiv]; rfl
theorem itoa_of {n : Int} (h : n ≠ 0) : Lib.itoa n = if n < 0 then 45 :: dgK n else dgK n := by
  unfold Lib.itoa dgK
  rw [if_neg h]
  by_cases c : n < 0
  · rw [if_pos c, if_pos c]
  · rw [if_neg c, if_neg c]
    congr 1
    omega
theorem itoa_zero : Lib.itoa 0 = [48] := by
  unfold Lib.itoa
  rw [if_neg (by omega), Lib.decDigits, dif_pos (by decide)]
  rfl
theorem dgK_len {n : Int} (h0 : -9223372036854775808 ≤ n) (h1 : n ≤ 9223372036854775807) : (dgK n).length ≤ 21 := by
  by_cases h : n = 0
  · subst h; simp [dgK]
  · have := Lib.itoa_length_le n h0 h1
    rw [itoa_of h] at this
    split at this
    · simp at this; omega
    · exact this
/-- numbers of up to three digits -/
theorem dec1 {u : Nat} (h : u < 10) : Lib.decDigits u = [UInt8.ofNat (48 + u)] := by rw [Lib.decDigits, dif_pos h]
theorem dec2 {u : Nat} (h : 10 ≤ u) (h' : u < 100) : Lib.decDigits u = [UInt8.ofNat (48 + u / 10), UInt8.ofNat (48 + u % 10)] := by
  rw [Lib.decDigits, dif_neg (by omega), dec1 (by omega)]; rfl
theorem dec3 {u : Nat} (h : 100 ≤ u) (h' : u < 1000) : Lib.decDigits u = [UInt8.ofNat (48 + u / 100), UInt8.ofNat (48 + u / 10 % 10), UInt8.ofNat (48 + u % 10)] := by
  rw [Lib.decDigits, dif_neg (by omega), dec2 (by omega) (by omega)]
  have : u / 10 / 10 = u / 100 := by omega
  rw [this]
  rfl
theorem itoaN (u : Nat) : Lib.itoa (u : Int) = Lib.decDigits u := by unfold Lib.itoa; rw [if_neg (by omega)]; simp
/-- three digits -/
def three (u : Nat) : List UInt8 := [UInt8.ofNat (48 + u / 100), UInt8.ofNat (48 + u / 10 % 10), UInt8.ofNat (48 + u % 10)]
theorem three_spec {u : Nat} (h : u < 1000) : Lib.itoa ((u / 100 : Nat) : Int) ++ Lib.itoa ((u / 10 % 10 : Nat) : Int) ++ Lib.itoa ((u % 10 : Nat) : Int) = three u := by
  rw [itoaN, itoaN, itoaN, dec1 (by omega), dec1 (by omega), dec1 (by omega)]
  rfl
/-- with zeros in front -/
def padL : Nat → List UInt8 → List UInt8
  | 0, l => l
  | k + 1, l => padL k (48 :: l)
theorem three_pad {u : Nat} (h : u < 1000) : padL (3 - (Lib.itoa (u : Int)).length) (Lib.itoa (u : Int)) = three u := by
  rw [itoaN]
  by_cases c : u < 10
  · rw [dec1 c]
    have e1 : u / 100 = 0 := by omega
    have e2 : u / 10 % 10 = 0 := by omega
    have e3 : u % 10 = u := by omega
    simp [padL, three, e1, e2, e3]
  · by_cases c2 : u < 100
    · rw [dec2 (by omega) c2]
      have e1 : u / 100 = 0 := by omega
      have e2 : u / 10 % 10 = u / 10 := by omega
      simp [padL, three, e1, e2]
    · rw [dec3 (by omega) h]
      simp [padL, three]
end Go.Proofs.YthojfmlnnclghaaGreatDoor.Dec
