/- The comparison stars next to a magnitude. -/
import Derived.Test.YtenjcdhehjdeoaaChart
import Derived.Test.YtenjcdhehjdeoaaMags
import Derived.Test.YtenjcdhehjdeoaaList
import Derived.Test.YtenjcdhehjdeoaaHelp
import Derived.Test.YtenjcdhehjdeoaaCurve2
namespace Go.Proofs.Ytenjcdhehjdeoaa.Enc
set_option linter.unusedVariables false
set_option linter.unusedSimpArgs false
set_option maxRecDepth 8000
open Go.RowKit Plain Num View Mags Chart

def encLo (T : Nat → Int) (m : Int) : Nat → Int
  | 0 => -1
  | k + 1 => if T k ≤ m ∧ (encLo T m k < 0 ∨ T (encLo T m k).toNat < T k) then k else encLo T m k
def encHi (T : Nat → Int) (m : Int) : Nat → Int
  | 0 => -1
  | k + 1 => if m < T k ∧ (encHi T m k < 0 ∨ T k < T (encHi T m k).toNat) then k else encHi T m k
theorem encLo_bd (T : Nat → Int) (m : Int) (k : Nat) : encLo T m k = -1 ∨ ∃ g : Nat, encLo T m k = g ∧ g < k := by
  induction k with
  | zero => exact .inl rfl
  | succ k ih =>
    rw [encLo]
    split
    · exact .inr ⟨k, rfl, by omega⟩
    · rcases ih with h | ⟨g, h1, h2⟩
      · exact .inl h
      · exact .inr ⟨g, h1, by omega⟩
theorem encHi_bd (T : Nat → Int) (m : Int) (k : Nat) : encHi T m k = -1 ∨ ∃ g : Nat, encHi T m k = g ∧ g < k := by
  induction k with
  | zero => exact .inl rfl
  | succ k ih =>
    rw [encHi]
    split
    · exact .inr ⟨k, rfl, by omega⟩
    · rcases ih with h | ⟨g, h1, h2⟩
      · exact .inl h
      · exact .inr ⟨g, h1, by omega⟩
section
variable {T : Nat → Int} {m : Int} {k : Nat}
theorem lo_no (h : ¬ T k ≤ m) : encLo T m k = encLo T m (k + 1) := by rw [encLo, if_neg (fun h2 => h h2.1)]
theorem lo_first (h : T k ≤ m) (h1 : encLo T m k = -1) : (k : Int) = encLo T m (k + 1) := by rw [encLo, if_pos ⟨h, .inl (by omega)⟩]
theorem lo_yes {g : Nat} (h : T k ≤ m) (h1 : encLo T m k = g) (h2 : T g < T k) : (k : Int) = encLo T m (k + 1) := by rw [encLo, if_pos ⟨h, .inr (by rw [h1]; simpa using h2)⟩]
theorem lo_keep {g : Nat} (h1 : encLo T m k = g) (h2 : ¬ T g < T k) : (g : Int) = encLo T m (k + 1) := by
  rw [encLo, h1, if_neg]
  rintro ⟨_, h | h⟩
  · omega
  · exact h2 (by simpa using h)
theorem hi_no (h : ¬ m < T k) : encHi T m k = encHi T m (k + 1) := by rw [encHi, if_neg (fun h2 => h h2.1)]
theorem hi_first (h : m < T k) (h1 : encHi T m k = -1) : (k : Int) = encHi T m (k + 1) := by rw [encHi, if_pos ⟨h, .inl (by omega)⟩]
theorem hi_yes {g : Nat} (h : m < T k) (h1 : encHi T m k = g) (h2 : T k < T g) : (k : Int) = encHi T m (k + 1) := by rw [encHi, if_pos ⟨h, .inr (by rw [h1]; simpa using h2)⟩]
theorem hi_keep {g : Nat} (h1 : encHi T m k = g) (h2 : ¬ T k < T g) : (g : Int) = encHi T m (k + 1) := by
  rw [encHi, h1, if_neg]
  rintro ⟨_, h | h⟩
  · omega
  · exact h2 (by simpa using h)
end
def encC (n : Nat) (T : Nat → Int) (m : Int) : Int := if (okMags n T && inB m (-2000) 20000) = true then (if encLo T m n < 0 ∨ encHi T m n < 0 then 3 else 0) else 2
def encA (n : Nat) (T : Nat → Int) (m : Int) : Int := if encC n T m = 0 then encLo T m n else 0
def encB (n : Nat) (T : Nat → Int) (m : Int) : Int := if encC n T m = 0 then encHi T m n else 0
theorem enc_bad {n : Nat} {T : Nat → Int} {m : Int} (h : (okMags n T && inB m (-2000) 20000) = false) : encC n T m = 2 ∧ encA n T m = 0 ∧ encB n T m = 0 := by
  have : encC n T m = 2 := by rw [encC, h]; rfl
  simp [encA, encB, this]
theorem enc_none {n : Nat} {T : Nat → Int} {m : Int} (h : (okMags n T && inB m (-2000) 20000) = true) (h2 : encLo T m n < 0 ∨ encHi T m n < 0) : encC n T m = 3 ∧ encA n T m = 0 ∧ encB n T m = 0 := by
  have : encC n T m = 3 := by rw [encC, if_pos h, if_pos h2]
  simp [encA, encB, this]
theorem enc_some {n : Nat} {T : Nat → Int} {m : Int} (h : (okMags n T && inB m (-2000) 20000) = true) (h1 : ¬ encLo T m n < 0) (h2 : ¬ encHi T m n < 0) : encC n T m = 0 ∧ encA n T m = encLo T m n ∧ encB n T m = encHi T m n := by
  have : encC n T m = 0 := by rw [encC, if_pos h, if_neg (by omega)]
  simp [encA, encB, this]
theorem ret3 {k l o : IntKind} {a b c d e f : Int} (h : a = d) (h' : b = e) (h'' : c = f) : Ending.returned (.tuple #[.int k a, .int l b, .int o c]) = .returned (.tuple #[.int k d, .int l e, .int o f]) := by rw [h, h', h'']
/-- the magnitudes of marks -/
theorem infoI : (Try.prog.info? 2).map (fun i => (i.zero, i.size, i.bytes)) = some (some (.int .i64 0), 1, 8) := by kernel_rfl
def pfC (n : Nat) (X Y M : Nat → Int) (m : Int) : Int := if okChart n X Y M = true then encC n M m else 1
def pfA (n : Nat) (X Y M : Nat → Int) (m : Int) : Int := if okChart n X Y M = true then encA n M m else 0
def pfB (n : Nat) (X Y M : Nat → Int) (m : Int) : Int := if okChart n X Y M = true then encB n M m else 0
end Go.Proofs.Ytenjcdhehjdeoaa.Enc
