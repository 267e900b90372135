/- The comparison stars next to a magnitude. -/
import Derived.Test.YtiinjnghnfofpaaChart
import Derived.Test.YtiinjnghnfofpaaMags
import Derived.Test.YtiinjnghnfofpaaList
import Derived.Test.YtiinjnghnfofpaaHelp
import Derived.Test.YtiinjnghnfofpaaCurve2
namespace Go.Proofs.Ytiinjnghnfofpaa.Enc
set_option linter.unusedVariables false
set_option linter.unusedSimpArgs false
set_option maxRecDepth 8000
open Go.RowKit Plain Num View Mags Chart

def encLo (T : Nat → Int) (m : Int) : Nat → Int
  | 0 => -1
  | k + 1 => if T k ≤ m ∧ (encLo T m k < 0 ∨ T (encLo T m k).toNat < T k) then k else encLo T m k
def encHi (T : Nat → Int) (m : Int) : Nat → Int
  | 0 => -1
  | k + 1 => if m < T k ∧ (encHi T m k < 0 ∨ T k < T (encHi T m k).toNat) then k else encHi T m k
theorem encLo_bd (T : Nat → Int) (m : Int) (k : Nat) : encLo T m k = -1 ∨ ∃ g : Nat, encLo T m k = g ∧ g < k := by
  induction k with
  | zero => exact .inl rfl
  | succ k ih =>
    rw [encLo]
    split
    · exact .inr ⟨k, rfl, by omega⟩
    · rcases ih with h | ⟨g, h1, h2⟩
      · exact .inl h
      · exact .inr ⟨g, h1, by omega⟩
theorem encHi_bd (T : Nat → Int) (m : Int) (k : Nat) : encHi T m k = -1 ∨ ∃ g : Nat, encHi T m k = g ∧ g < k := by
  induction k with
  | zero => exact .inl rfl
  | succ k ih =>
    rw [encHi]
    split
    · exact .inr ⟨k, rfl, by omega⟩
    · rcases ih with h | ⟨g, h1, h2⟩
      · exact .inl h
      · exact .inr ⟨g, h1, by omega⟩
section
variable {T : Nat → Int} {m : Int} {k : Nat}
theorem lo_no (h : ¬ T k ≤ m) : encLo T m k = encLo T m (k + 1) := by rw [encLo, if_neg (fun h2 => h h2.1)]
theorem lo_first (h : T k ≤ m) (h1 : encLo T m k = -1) : (k : Int) = encLo T m (k + 1) := by rw [encLo, if_pos ⟨h, .inl (by omega)⟩]
theorem lo_yes {g : Nat} (h : T k ≤ m) (h1 : encLo T m k = g) (h2 : T g < T k) : (k : Int) = encLo T m (k + 1) := by rw [encLo, if_pos ⟨h, .inr (by rw [h1]; simpa using h2)⟩]
theorem lo_keep {g : Nat} (h1 : encLo T m k = g) (h2 : ¬ T g < T k) : (g : Int) = encLo T m (k + 1) := by
  rw [encLo, h1, if_neg]
  rintro ⟨_, h | h⟩
  · omega
  · exact h2 (by simpa using h)
theorem hi_no (h : ¬ m < T k) : encHi T m k = encHi T m (k + 1) := by rw [encHi, if_neg (fun h2 => h h2.1)]
theorem hi_first (h : m < T k) (h1 : encHi T m k = -1) : (k : Int) = encHi T m (k + 1) := by rw [encHi, if_pos ⟨h, .inl (by omega)⟩]
theorem hi_yes {g : Nat} (h : m < T k) (h1 : encHi T m k = g) (h2 : T k < T g) : (k : Int) = encHi T m (k + 1) := by rw [encHi, if_pos ⟨h, .inr (by rw [h1]; simpa using h2)⟩]
theorem hi_keep {g : Nat} (h1 : encHi T m k = g) (h2 : ¬ T k < T g) : (g : Int) = encHi T m (k + 1) := by
  rw [encHi, h1, if_neg]
  rintro ⟨_, h | h⟩
  · omega
  · exact h2 (by simpa using h)
end
def encC (n : Nat) (T : Nat → Int) (m : Int) : Int := if (okMags n T && inB m (-2000) 20000) = true then (if encLo T m n < 0 ∨ encHi T m n < 0 then 3 else 0) else 2
def encA (n : Nat) (T : Nat → Int) (m : Int) : Int := if encC n T m = 0 then encLo T m n else 0
def encB (n : Nat) (T : Nat → Int) (m : Int) : Int := if encC n T m = 0 then encHi T m n else 0
theorem enc_bad {n : Nat} {T : Nat → Int} {m : Int} (h : (okMags n T && inB m (-2000) 20000) = false) : encC n T m = 2 ∧ encA n T m = 0 ∧ encB n T m = 0 := by
  have : encC n T m = 2 := by rw [encC, h]; rfl
  simp [encA, encB, this]
theorem enc_none {n : Nat} {T : Nat → Int} {m : Int} (h : (okMags n T && inB m (-2000) 20000) = true) (h2 : encLo T m n < 0 ∨ encHi T m n < 0) : encC n T m = 3 ∧ encA n T m = 0 ∧ encB n T m = 0 := by
  have : encC n T m = 3 := by rw [encC, if_pos h, if_pos h2]
  simp [encA, encB, this]
theorem enc_some {n : Nat} {T : Nat → Int} {m : Int} (h : (okMags n T && inB m (-2000) 20000) = true) (h1 : ¬ encLo T m n < 0) (h2 : ¬ encHi T m n < 0) : encC n T m = 0 ∧ encA n T m = encLo T m n ∧ encB n T m = encHi T m n := by
  have : encC n T m = 0 := by rw [encC, if_pos h, if_neg (by omega)]
  simp [encA, encB, this]
theorem ret3 {k l o : IntKind} {a b c d e f : Int} (h : a = d) (h' : b = e) (h'' : c = f) : Ending.returned (.tuple #[.int k a, .int l b, .int o c]) = .returned (.tuple #[.int k d, .int l e, .int o f]) := by rw [h, h', h'']
set_option maxHeartbeats 3200000 in
theorem c_EnclosingPair (A : Option Addr) (n c : Nat) (T : Nat → Int) (m : Int) (w : World) (hv : Sl w 1 A n c (f1 T)) :
    Calls Try.prog 72 #[.slice A n c, .int .i64 m] w fun e w' => e = .returned (.tuple #[.int .i64 (encA n T m), .int .i64 (encB n T m), .int .i64 (encC n T m)]) ∧ Below w.heap.size w w' := by
  have hn := hv.le
  cases hok : okMags n T
  · obtain ⟨e1, e2, e3⟩ := enc_bad (m := m) (show (okMags n T && inB m (-2000) 20000) = false by rw [hok]; rfl)
    have E1 := Lib.hid e1; have E2 := Lib.hid e2; have E3 := Lib.hid e3
    clear e1 e2 e3
    go_enter Try.func72, Try.ntmps72
    go_wp2_with (first | (go_at_call 112; refine (c_areMags _ _ _ T _ (hv.below (by repeat' (first | (with_reducible exact Below.refl _ _) | (with_reducible assumption) | (with_reducible refine Base.grow_alloc ?_ _) | (with_reducible refine Base.below_drewN ?_ _) | (with_reducible refine Below.drew ?_) | (with_reducible refine Below.setCell ?_ ?_ _) | go_size)))).mono ?_; rintro e w1 ⟨rfl, hb1⟩; obtain ⟨chb1, fhb1⟩ := Base.bcell hb1; have zhb1 := (hb1).size; (try simp at zhb1); (try have yhb1 : w.heap.size < (w1).heap.size := by omega)))
    go_wp2
    go_ret3
    exact ⟨ret3 E2.out.symm E3.out.symm E1.out.symm, (by repeat' (first | (with_reducible exact Below.refl _ _) | (with_reducible assumption) | (with_reducible refine Base.via hb1 ?_) | (with_reducible refine Base.grow_alloc ?_ _) | (with_reducible refine Base.below_drewN ?_ _) | (with_reducible refine Below.drew ?_) | (with_reducible refine Below.setCell ?_ ?_ _) | go_size))⟩
  · cases hm : inB m (-2000) 20000
    · obtain ⟨e1, e2, e3⟩ := enc_bad (m := m) (show (okMags n T && inB m (-2000) 20000) = false by rw [hok, hm]; rfl)
      have E1 := Lib.hid e1; have E2 := Lib.hid e2; have E3 := Lib.hid e3
      clear e1 e2 e3
      go_enter Try.func72, Try.ntmps72
      go_wp2_with (first | (go_at_call 112; refine (c_areMags _ _ _ T _ (hv.below (by repeat' (first | (with_reducible exact Below.refl _ _) | (with_reducible assumption) | (with_reducible refine Base.grow_alloc ?_ _) | (with_reducible refine Base.below_drewN ?_ _) | (with_reducible refine Below.drew ?_) | (with_reducible refine Below.setCell ?_ ?_ _) | go_size)))).mono ?_; rintro e w1 ⟨rfl, hb1⟩; obtain ⟨chb1, fhb1⟩ := Base.bcell hb1; have zhb1 := (hb1).size; (try simp at zhb1); (try have yhb1 : w.heap.size < (w1).heap.size := by omega)) | (go_at_call 113; refine (c_ValidMag _ _).mono ?_; rintro e w' ⟨rfl, rfl⟩))
      go_ret3
      exact ⟨ret3 E2.out.symm E3.out.symm E1.out.symm, (by repeat' (first | (with_reducible exact Below.refl _ _) | (with_reducible assumption) | (with_reducible refine Base.via hb1 ?_) | (with_reducible refine Base.grow_alloc ?_ _) | (with_reducible refine Base.below_drewN ?_ _) | (with_reducible refine Below.drew ?_) | (with_reducible refine Below.setCell ?_ ?_ _) | go_size))⟩
    · have HOK := Lib.hid (show (okMags n T && inB m (-2000) 20000) = true by rw [hok, hm]; rfl)
      go_enter Try.func72, Try.ntmps72
      go_wp2_with (first | (go_at_call 112; refine (c_areMags _ _ _ T _ (hv.below (by repeat' (first | (with_reducible exact Below.refl _ _) | (with_reducible assumption) | (with_reducible refine Base.grow_alloc ?_ _) | (with_reducible refine Base.below_drewN ?_ _) | (with_reducible refine Below.drew ?_) | (with_reducible refine Below.setCell ?_ ?_ _) | go_size)))).mono ?_; rintro e w1 ⟨rfl, hb1⟩; obtain ⟨chb1, fhb1⟩ := Base.bcell hb1; have zhb1 := (hb1).size; (try simp at zhb1); (try have yhb1 : w.heap.size < (w1).heap.size := by omega)) | (go_at_call 113; refine (c_ValidMag _ _).mono ?_; rintro e w' ⟨rfl, rfl⟩))
      have hvw := hv.below hb1
      clear chb1 fhb1 hok hm
      go_loopw [7, 8, 9, 10, 21] (fun lo hi _ _ i wr => ∃ (k : Nat) (l h : Int), k ≤ n ∧ i = .int .i64 k ∧ lo = .int .i64 l ∧ hi = .int .i64 h ∧ Hid (l = encLo T m k) ∧ Hid (h = encHi T m k) ∧ Below w1.heap.size w1 wr) (fun _ _ _ _ i _ => n - (intOf i).toNat)
      case atStart => exact ⟨0, -1, -1, Nat.zero_le _, rfl, rfl, rfl, (show (-1 : Int) = encLo T m 0 from rfl), (show (-1 : Int) = encHi T m 0 from rfl), (by repeat' (first | (with_reducible exact Below.refl _ _) | (with_reducible assumption) | (with_reducible refine Base.grow_alloc ?_ _) | (with_reducible refine Base.below_drewN ?_ _) | (with_reducible refine Below.drew ?_) | (with_reducible refine Below.setCell ?_ ?_ _) | go_size))⟩
      case round =>
        obtain ⟨k, l, h, hk, rfl, rfl, rfl, hl, hh, hbr⟩ := hrel
        by_cases hlt : k < n
        · obtain ⟨b, off, rfl, hb, hc⟩ := (hvw.below hbr).at_ (by omega)
          have h0 := cells1 hc k hlt
          by_cases hle : T k ≤ m
          · have hgt : ¬ m < T k := by omega
            have HH := Lib.hid (show h = encHi T m (k + 1) by rw [hh.out]; exact hi_no hgt)
            rcases encLo_bd T m k with h1 | ⟨g, h1, h2⟩
            · obtain rfl : l = -1 := hl.out.trans h1
              have HL := Lib.hid (lo_first hle h1)
              clear hc h1
              go_wp2
              go_roundw
              case rel => exact ⟨k + 1, k, h, by omega, by go_num, rfl, rfl, HL.out, HH.out, (by repeat' (first | (with_reducible exact Below.refl _ _) | (with_reducible assumption) | (with_reducible refine Base.grow_alloc ?_ _) | (with_reducible refine Base.below_drewN ?_ _) | (with_reducible refine Below.drew ?_) | (with_reducible refine Below.setCell ?_ ?_ _) | go_size))⟩
              case measure => simp [intOf]; omega
            · obtain rfl : l = (g : Int) := hl.out.trans h1
              have h3 := cells1 hc g (by omega)
              by_cases hl2 : T g < T k
              · have HL := Lib.hid (lo_yes hle h1 hl2)
                clear hc h1
                go_wp2
                go_roundw
                case rel => exact ⟨k + 1, k, h, by omega, by go_num, rfl, rfl, HL.out, HH.out, (by repeat' (first | (with_reducible exact Below.refl _ _) | (with_reducible assumption) | (with_reducible refine Base.grow_alloc ?_ _) | (with_reducible refine Base.below_drewN ?_ _) | (with_reducible refine Below.drew ?_) | (with_reducible refine Below.setCell ?_ ?_ _) | go_size))⟩
                case measure => simp [intOf]; omega
              · have HL := Lib.hid (lo_keep h1 hl2)
                clear hc h1
                go_wp2
                go_roundw
                case rel => exact ⟨k + 1, g, h, by omega, by go_num, rfl, rfl, HL.out, HH.out, (by repeat' (first | (with_reducible exact Below.refl _ _) | (with_reducible assumption) | (with_reducible refine Base.grow_alloc ?_ _) | (with_reducible refine Base.below_drewN ?_ _) | (with_reducible refine Below.drew ?_) | (with_reducible refine Below.setCell ?_ ?_ _) | go_size))⟩
                case measure => simp [intOf]; omega
          · have hgt : m < T k := by omega
            have HL := Lib.hid (show l = encLo T m (k + 1) by rw [hl.out]; exact lo_no hle)
            rcases encHi_bd T m k with h1 | ⟨g, h1, h2⟩
            · obtain rfl : h = -1 := hh.out.trans h1
              have HH := Lib.hid (hi_first hgt h1)
              clear hc h1
              go_wp2
              go_roundw
              case rel => exact ⟨k + 1, l, k, by omega, by go_num, rfl, rfl, HL.out, HH.out, (by repeat' (first | (with_reducible exact Below.refl _ _) | (with_reducible assumption) | (with_reducible refine Base.grow_alloc ?_ _) | (with_reducible refine Base.below_drewN ?_ _) | (with_reducible refine Below.drew ?_) | (with_reducible refine Below.setCell ?_ ?_ _) | go_size))⟩
              case measure => simp [intOf]; omega
            · obtain rfl : h = (g : Int) := hh.out.trans h1
              have h3 := cells1 hc g (by omega)
              by_cases hl2 : T k < T g
              · have HH := Lib.hid (hi_yes hgt h1 hl2)
                clear hc h1
                go_wp2
                go_roundw
                case rel => exact ⟨k + 1, l, k, by omega, by go_num, rfl, rfl, HL.out, HH.out, (by repeat' (first | (with_reducible exact Below.refl _ _) | (with_reducible assumption) | (with_reducible refine Base.grow_alloc ?_ _) | (with_reducible refine Base.below_drewN ?_ _) | (with_reducible refine Below.drew ?_) | (with_reducible refine Below.setCell ?_ ?_ _) | go_size))⟩
                case measure => simp [intOf]; omega
              · have HH := Lib.hid (hi_keep h1 hl2)
                clear hc h1
                go_wp2
                go_roundw
                case rel => exact ⟨k + 1, l, g, by omega, by go_num, rfl, rfl, HL.out, HH.out, (by repeat' (first | (with_reducible exact Below.refl _ _) | (with_reducible assumption) | (with_reducible refine Base.grow_alloc ?_ _) | (with_reducible refine Base.below_drewN ?_ _) | (with_reducible refine Below.drew ?_) | (with_reducible refine Below.setCell ?_ ?_ _) | go_size))⟩
                case measure => simp [intOf]; omega
        · have hkn : k = n := by omega
          subst hkn
          by_cases hl0 : l < 0
          · obtain ⟨e1, e2, e3⟩ := enc_none HOK.out (.inl (by rw [← hl.out]; exact hl0))
            have E1 := Lib.hid e1; have E2 := Lib.hid e2; have E3 := Lib.hid e3
            clear e1 e2 e3
            go_wp2
            go_ret3
            exact ⟨ret3 E2.out.symm E3.out.symm E1.out.symm, (by repeat' (first | (with_reducible exact Below.refl _ _) | (with_reducible assumption) | (with_reducible refine Base.via hbr ?_) | (with_reducible refine Base.via hb1 ?_) | (with_reducible refine Base.grow_alloc ?_ _) | (with_reducible refine Base.below_drewN ?_ _) | (with_reducible refine Below.drew ?_) | (with_reducible refine Below.setCell ?_ ?_ _) | go_size))⟩
          · by_cases hh0 : h < 0
            · obtain ⟨e1, e2, e3⟩ := enc_none HOK.out (.inr (by rw [← hh.out]; exact hh0))
              have E1 := Lib.hid e1; have E2 := Lib.hid e2; have E3 := Lib.hid e3
              clear e1 e2 e3
              go_wp2
              go_ret3
              exact ⟨ret3 E2.out.symm E3.out.symm E1.out.symm, (by repeat' (first | (with_reducible exact Below.refl _ _) | (with_reducible assumption) | (with_reducible refine Base.via hbr ?_) | (with_reducible refine Base.via hb1 ?_) | (with_reducible refine Base.grow_alloc ?_ _) | (with_reducible refine Base.below_drewN ?_ _) | (with_reducible refine Below.drew ?_) | (with_reducible refine Below.setCell ?_ ?_ _) | go_size))⟩
            · obtain ⟨e1, e2, e3⟩ := enc_some HOK.out (by rw [← hl.out]; exact hl0) (by rw [← hh.out]; exact hh0)
              have E1 := Lib.hid e1; have E2 := Lib.hid (hl.out.trans e2.symm); have E3 := Lib.hid (hh.out.trans e3.symm)
              have bl : -1 ≤ l ∧ l ≤ 1048576 := by rcases encLo_bd T m k with h1 | ⟨g, h1, h2⟩ <;> (have := hl.out; omega)
              have bh : -1 ≤ h ∧ h ≤ 1048576 := by rcases encHi_bd T m k with h1 | ⟨g, h1, h2⟩ <;> (have := hh.out; omega)
              clear e1 e2 e3
              go_wp2
              go_ret3
              exact ⟨ret3 E2.out E3.out E1.out.symm, (by repeat' (first | (with_reducible exact Below.refl _ _) | (with_reducible assumption) | (with_reducible refine Base.via hbr ?_) | (with_reducible refine Base.via hb1 ?_) | (with_reducible refine Base.grow_alloc ?_ _) | (with_reducible refine Base.below_drewN ?_ _) | (with_reducible refine Below.drew ?_) | (with_reducible refine Below.setCell ?_ ?_ _) | go_size))⟩
set_option maxHeartbeats 3200000 in
theorem c_specEnclosingPair (A : Option Addr) (n c : Nat) (T : Nat → Int) (m : Int) (w : World) (hv : Sl w 1 A n c (f1 T)) :
    Calls Try.prog 68 #[.slice A n c, .int .i64 m] w fun e w' => e = .returned (.tuple #[.int .i64 (encA n T m), .int .i64 (encB n T m), .int .i64 (encC n T m)]) ∧ Below w.heap.size w w' := by
  have hn := hv.le
  cases hok : okMags n T
  · obtain ⟨e1, e2, e3⟩ := enc_bad (m := m) (show (okMags n T && inB m (-2000) 20000) = false by rw [hok]; rfl)
    have E1 := Lib.hid e1; have E2 := Lib.hid e2; have E3 := Lib.hid e3
    clear e1 e2 e3
    go_enter Try.func68, Try.ntmps68
    have hmc := magCode_no hok
    go_wp2_with (first | (go_at_call 108; refine (c_l02List _ _ _ T _ hv).mono ?_; rintro e w' ⟨rfl, rfl⟩))
    go_wp2
    go_ret3
    exact ⟨ret3 E2.out.symm E3.out.symm E1.out.symm, (by repeat' (first | (with_reducible exact Below.refl _ _) | (with_reducible assumption) | (with_reducible refine Base.grow_alloc ?_ _) | (with_reducible refine Base.below_drewN ?_ _) | (with_reducible refine Below.drew ?_) | (with_reducible refine Below.setCell ?_ ?_ _) | go_size))⟩
  · have hmc := magCode_yes hok
    cases hm : inB m (-2000) 20000
    · obtain ⟨e1, e2, e3⟩ := enc_bad (m := m) (show (okMags n T && inB m (-2000) 20000) = false by rw [hok, hm]; rfl)
      have E1 := Lib.hid e1; have E2 := Lib.hid e2; have E3 := Lib.hid e3
      clear e1 e2 e3
      go_enter Try.func68, Try.ntmps68
      go_wp2_with (first | (go_at_call 108; refine (c_l02List _ _ _ T _ hv).mono ?_; rintro e w' ⟨rfl, rfl⟩) | (go_at_call 109; refine (c_l02Mag _ _).mono ?_; rintro e w' ⟨rfl, rfl⟩))
      go_ret3
      exact ⟨ret3 E2.out.symm E3.out.symm E1.out.symm, (by repeat' (first | (with_reducible exact Below.refl _ _) | (with_reducible assumption) | (with_reducible refine Base.grow_alloc ?_ _) | (with_reducible refine Base.below_drewN ?_ _) | (with_reducible refine Below.drew ?_) | (with_reducible refine Below.setCell ?_ ?_ _) | go_size))⟩
    · have HOK := Lib.hid (show (okMags n T && inB m (-2000) 20000) = true by rw [hok, hm]; rfl)
      go_enter Try.func68, Try.ntmps68
      go_wp2_with (first | (go_at_call 108; refine (c_l02List _ _ _ T _ hv).mono ?_; rintro e w' ⟨rfl, rfl⟩) | (go_at_call 109; refine (c_l02Mag _ _).mono ?_; rintro e w' ⟨rfl, rfl⟩))
      have hvw := hv
      clear hok hm hmc
      go_loopw [8, 9, 10] (fun lo hi i wr => ∃ (k : Nat) (l h : Int), k ≤ n ∧ i = .int .i64 k ∧ lo = .int .i64 l ∧ hi = .int .i64 h ∧ Hid (l = encLo T m k) ∧ Hid (h = encHi T m k) ∧ Below w.heap.size w wr) (fun _ _ i _ => n - (intOf i).toNat)
      case atStart => exact ⟨0, -1, -1, Nat.zero_le _, rfl, rfl, rfl, (show (-1 : Int) = encLo T m 0 from rfl), (show (-1 : Int) = encHi T m 0 from rfl), (by repeat' (first | (with_reducible exact Below.refl _ _) | (with_reducible assumption) | (with_reducible refine Base.grow_alloc ?_ _) | (with_reducible refine Base.below_drewN ?_ _) | (with_reducible refine Below.drew ?_) | (with_reducible refine Below.setCell ?_ ?_ _) | go_size))⟩
      case round =>
        obtain ⟨k, l, h, hk, rfl, rfl, rfl, hl, hh, hbr⟩ := hrel
        by_cases hlt : k < n
        · obtain ⟨b, off, rfl, hb, hc⟩ := (hvw.below hbr).at_ (by omega)
          have h0 := cells1 hc k hlt
          by_cases hle : T k ≤ m
          · have hgt : ¬ m < T k := by omega
            have d1 : decide (m < T k) = false := by simpa using hgt
            have HH := Lib.hid (show h = encHi T m (k + 1) by rw [hh.out]; exact hi_no hgt)
            rcases encLo_bd T m k with h1 | ⟨g, h1, h2⟩
            · obtain rfl : l = -1 := hl.out.trans h1
              have HL := Lib.hid (lo_first hle h1)
              clear hc h1
              go_wp2
              go_quiet (fail)
              go_wp2
              go_quiet (fail)
              go_wp2
              go_roundw
              case rel => exact ⟨k + 1, k, h, by omega, by go_num, rfl, rfl, HL.out, HH.out, (by repeat' (first | (with_reducible exact Below.refl _ _) | (with_reducible assumption) | (with_reducible refine Base.grow_alloc ?_ _) | (with_reducible refine Base.below_drewN ?_ _) | (with_reducible refine Below.drew ?_) | (with_reducible refine Below.setCell ?_ ?_ _) | go_size))⟩
              case measure => simp [intOf]; omega
            · obtain rfl : l = (g : Int) := hl.out.trans h1
              have h3 := cells1 hc g (by omega)
              have d2 : decide ((g : Int) < 0) = false := by simp
              by_cases hl2 : T g < T k
              · have HL := Lib.hid (lo_yes hle h1 hl2)
                clear hc h1
                go_wp2
                go_quiet (fail)
                go_wp2
                go_quiet (fail)
                go_wp2
                go_roundw
                case rel => exact ⟨k + 1, k, h, by omega, by go_num, rfl, rfl, HL.out, HH.out, (by repeat' (first | (with_reducible exact Below.refl _ _) | (with_reducible assumption) | (with_reducible refine Base.grow_alloc ?_ _) | (with_reducible refine Base.below_drewN ?_ _) | (with_reducible refine Below.drew ?_) | (with_reducible refine Below.setCell ?_ ?_ _) | go_size))⟩
                case measure => simp [intOf]; omega
              · have HL := Lib.hid (lo_keep h1 hl2)
                clear hc h1
                go_wp2
                go_quiet (fail)
                go_wp2
                go_quiet (fail)
                go_wp2
                go_roundw
                case rel => exact ⟨k + 1, g, h, by omega, by go_num, rfl, rfl, HL.out, HH.out, (by repeat' (first | (with_reducible exact Below.refl _ _) | (with_reducible assumption) | (with_reducible refine Base.grow_alloc ?_ _) | (with_reducible refine Base.below_drewN ?_ _) | (with_reducible refine Below.drew ?_) | (with_reducible refine Below.setCell ?_ ?_ _) | go_size))⟩
                case measure => simp [intOf]; omega
          · have hgt : m < T k := by omega
            have d1 : decide (T k ≤ m) = false := by simpa using hle
            have HL := Lib.hid (show l = encLo T m (k + 1) by rw [hl.out]; exact lo_no hle)
            rcases encHi_bd T m k with h1 | ⟨g, h1, h2⟩
            · obtain rfl : h = -1 := hh.out.trans h1
              have HH := Lib.hid (hi_first hgt h1)
              clear hc h1
              go_wp2
              go_quiet (fail)
              go_wp2
              go_quiet (fail)
              go_wp2
              go_roundw
              case rel => exact ⟨k + 1, l, k, by omega, by go_num, rfl, rfl, HL.out, HH.out, (by repeat' (first | (with_reducible exact Below.refl _ _) | (with_reducible assumption) | (with_reducible refine Base.grow_alloc ?_ _) | (with_reducible refine Base.below_drewN ?_ _) | (with_reducible refine Below.drew ?_) | (with_reducible refine Below.setCell ?_ ?_ _) | go_size))⟩
              case measure => simp [intOf]; omega
            · obtain rfl : h = (g : Int) := hh.out.trans h1
              have h3 := cells1 hc g (by omega)
              have d2 : decide ((g : Int) < 0) = false := by simp
              by_cases hl2 : T k < T g
              · have HH := Lib.hid (hi_yes hgt h1 hl2)
                clear hc h1
                go_wp2
                go_quiet (fail)
                go_wp2
                go_quiet (fail)
                go_wp2
                go_roundw
                case rel => exact ⟨k + 1, l, k, by omega, by go_num, rfl, rfl, HL.out, HH.out, (by repeat' (first | (with_reducible exact Below.refl _ _) | (with_reducible assumption) | (with_reducible refine Base.grow_alloc ?_ _) | (with_reducible refine Base.below_drewN ?_ _) | (with_reducible refine Below.drew ?_) | (with_reducible refine Below.setCell ?_ ?_ _) | go_size))⟩
                case measure => simp [intOf]; omega
              · have HH := Lib.hid (hi_keep h1 hl2)
                clear hc h1
                go_wp2
                go_quiet (fail)
                go_wp2
                go_quiet (fail)
                go_wp2
                go_roundw
                case rel => exact ⟨k + 1, l, g, by omega, by go_num, rfl, rfl, HL.out, HH.out, (by repeat' (first | (with_reducible exact Below.refl _ _) | (with_reducible assumption) | (with_reducible refine Base.grow_alloc ?_ _) | (with_reducible refine Base.below_drewN ?_ _) | (with_reducible refine Below.drew ?_) | (with_reducible refine Below.setCell ?_ ?_ _) | go_size))⟩
                case measure => simp [intOf]; omega
        · have hkn : k = n := by omega
          subst hkn
          by_cases hl0 : l < 0
          · obtain ⟨e1, e2, e3⟩ := enc_none HOK.out (.inl (by rw [← hl.out]; exact hl0))
            have E1 := Lib.hid e1; have E2 := Lib.hid e2; have E3 := Lib.hid e3
            clear e1 e2 e3
            go_wp2
            go_ret3
            exact ⟨ret3 E2.out.symm E3.out.symm E1.out.symm, (by repeat' (first | (with_reducible exact Below.refl _ _) | (with_reducible assumption) | (with_reducible refine Base.via hbr ?_) | (with_reducible refine Base.grow_alloc ?_ _) | (with_reducible refine Base.below_drewN ?_ _) | (with_reducible refine Below.drew ?_) | (with_reducible refine Below.setCell ?_ ?_ _) | go_size))⟩
          · by_cases hh0 : h < 0
            · obtain ⟨e1, e2, e3⟩ := enc_none HOK.out (.inr (by rw [← hh.out]; exact hh0))
              have E1 := Lib.hid e1; have E2 := Lib.hid e2; have E3 := Lib.hid e3
              clear e1 e2 e3
              go_wp2
              go_ret3
              exact ⟨ret3 E2.out.symm E3.out.symm E1.out.symm, (by repeat' (first | (with_reducible exact Below.refl _ _) | (with_reducible assumption) | (with_reducible refine Base.via hbr ?_) | (with_reducible refine Base.grow_alloc ?_ _) | (with_reducible refine Base.below_drewN ?_ _) | (with_reducible refine Below.drew ?_) | (with_reducible refine Below.setCell ?_ ?_ _) | go_size))⟩
            · obtain ⟨e1, e2, e3⟩ := enc_some HOK.out (by rw [← hl.out]; exact hl0) (by rw [← hh.out]; exact hh0)
              have E1 := Lib.hid e1; have E2 := Lib.hid (hl.out.trans e2.symm); have E3 := Lib.hid (hh.out.trans e3.symm)
              have bl : -1 ≤ l ∧ l ≤ 1048576 := by rcases encLo_bd T m k with h1 | ⟨g, h1, h2⟩ <;> (have := hl.out; omega)
              have bh : -1 ≤ h ∧ h ≤ 1048576 := by rcases encHi_bd T m k with h1 | ⟨g, h1, h2⟩ <;> (have := hh.out; omega)
              clear e1 e2 e3
              go_wp2
              go_ret3
              exact ⟨ret3 E2.out E3.out E1.out.symm, (by repeat' (first | (with_reducible exact Below.refl _ _) | (with_reducible assumption) | (with_reducible refine Base.via hbr ?_) | (with_reducible refine Base.grow_alloc ?_ _) | (with_reducible refine Base.below_drewN ?_ _) | (with_reducible refine Below.drew ?_) | (with_reducible refine Below.setCell ?_ ?_ _) | go_size))⟩
/-- the magnitudes of marks -/
theorem infoI : (Try.prog.info? 2).map (fun i => (i.zero, i.size, i.bytes)) = some (some (.int .i64 0), 1, 8) := by kernel_rfl
set_option maxHeartbeats 800000 in
theorem c_magsOf (A : Option Addr) (n c : Nat) (X Y M : Nat → Int) (w : World) (hv : Sl w 3 A n c (f3 X Y M)) :
    Calls Try.prog 73 #[.slice A n c] w fun e w' => ∃ v, e = .returned v ∧ OwnK w' w.heap.size 2 1 v n (f1 M) ∧ Below w.heap.size w w' := by
  have hn := hv.le
  obtain ⟨i0, hi0, hz0, hz1, hz2⟩ := info_parts infoI
  go_enter Try.func73, Try.ntmps73
  go_wp2
  go_loopw [3, 5, 9] (fun v _ i wr => ∃ k : Nat, k ≤ n ∧ i = .int .i64 k ∧ wr.ownsRow w.heap.size 2 1 v (sel k all1 M).length (cellL (sel k all1 M)) ∧ Below w.heap.size w wr) (fun _ _ i _ => n - (intOf i).toNat)
  case atStart => exact ⟨0, Nat.zero_le _, rfl, World.ownsRow_made _ _ _ (by omega) (by simp [maxLen]) rfl, (by repeat' (first | (with_reducible exact Below.refl _ _) | (with_reducible assumption) | (with_reducible refine Base.grow_alloc ?_ _) | (with_reducible refine Base.below_drewN ?_ _) | (with_reducible refine Below.drew ?_) | (with_reducible refine Below.setCell ?_ ?_ _) | go_size))⟩
  case round =>
    obtain ⟨k, hk, rfl, hown, hbr⟩ := hrel
    have hz := hbr.size
    have hl := sel_all_len (k := k) (g := M)
    by_cases hlt : k < n
    · obtain ⟨b, off, rfl, hb, hc⟩ := (hv.below hbr).at_ (by omega)
      obtain ⟨h0, h1, h2⟩ := cells3 hc k hlt
      clear hc
      go_wp2_with (first | (at_builtin; refine wpList_append_own _ rfl _ _ 46 rfl (w.heap.size) 2 i0 _ 1 8 Try.underlying46 hi0 hz0 hz1 hz2 rfl (by decide) _ _ _ rfl (own_of_below hown (by repeat' (first | (with_reducible exact Below.refl _ _) | (with_reducible assumption) | (with_reducible refine Base.grow_alloc ?_ _) | (with_reducible refine Base.below_drewN ?_ _) | (with_reducible refine Below.drew ?_) | (with_reducible refine Below.setCell ?_ ?_ _) | go_size))) ⟨_, 0, none⟩ 1 1 [.int .i64 (M k)] rfl rfl (cell_newL _ [.int .i64 (M k)] _ (by simp)) (by simp [Value.oneCell']) (by simp only [maxLen]; omega) (by omega) (by simp; omega) ?_))
      intro v' w1 hown' hgrow _
      have hb1 : Below w.heap.size w w1 := own_grow (by repeat' (first | (with_reducible exact Below.refl _ _) | (with_reducible assumption) | (with_reducible refine Base.grow_alloc ?_ _) | (with_reducible refine Base.below_drewN ?_ _) | (with_reducible refine Below.drew ?_) | (with_reducible refine Below.setCell ?_ ?_ _) | go_size)) hown (Nat.le_refl _) hgrow
      clear hown hgrow
      go_wp2
      go_roundw
      case rel => exact ⟨k + 1, by omega, by go_num, by rw [sel_yes rfl]; exact own_snoc (by rw [hl]; exact hown'), hb1⟩
      case measure => simp [intOf]; omega
    · have hkn : k = n := by omega
      subst hkn
      go_wp2
      go_ret
      exact ⟨_, rfl, OwnK.of_all hown hn, hbr⟩
set_option maxHeartbeats 800000 in
theorem c_l07Mags (A : Option Addr) (n c : Nat) (X Y M : Nat → Int) (w : World) (hv : Sl w 3 A n c (f3 X Y M)) :
    Calls Try.prog 69 #[.slice A n c] w fun e w' => ∃ v, e = .returned v ∧ OwnK w' w.heap.size 2 1 v n (f1 M) ∧ Below w.heap.size w w' := by
  have hn := hv.le
  obtain ⟨i0, hi0, hz0, hz1, hz2⟩ := info_parts infoI
  go_enter Try.func69, Try.ntmps69
  go_wp2
  go_loopw [3, 4] (fun v i wr => ∃ k : Nat, k ≤ n ∧ i = .int .i64 k ∧ wr.ownsRow w.heap.size 2 1 v (sel k all1 M).length (cellL (sel k all1 M)) ∧ Below w.heap.size w wr) (fun _ i _ => n - (intOf i).toNat)
  case atStart => exact ⟨0, Nat.zero_le _, rfl, World.ownsRow_made _ _ _ (by omega) (by simp [maxLen]) rfl, (by repeat' (first | (with_reducible exact Below.refl _ _) | (with_reducible assumption) | (with_reducible refine Base.grow_alloc ?_ _) | (with_reducible refine Base.below_drewN ?_ _) | (with_reducible refine Below.drew ?_) | (with_reducible refine Below.setCell ?_ ?_ _) | go_size))⟩
  case round =>
    obtain ⟨k, hk, rfl, hown, hbr⟩ := hrel
    have hz := hbr.size
    have hl := sel_all_len (k := k) (g := M)
    by_cases hlt : k < n
    · obtain ⟨b, off, rfl, hb, hc⟩ := (hv.below hbr).at_ (by omega)
      obtain ⟨h0, h1, h2⟩ := cells3 hc k hlt
      clear hc
      go_wp2_with (first | (at_builtin; refine wpList_append_own _ rfl _ _ 46 rfl (w.heap.size) 2 i0 _ 1 8 Try.underlying46 hi0 hz0 hz1 hz2 rfl (by decide) _ _ _ rfl (own_of_below hown (by repeat' (first | (with_reducible exact Below.refl _ _) | (with_reducible assumption) | (with_reducible refine Base.grow_alloc ?_ _) | (with_reducible refine Base.below_drewN ?_ _) | (with_reducible refine Below.drew ?_) | (with_reducible refine Below.setCell ?_ ?_ _) | go_size))) ⟨_, 0, none⟩ 1 1 [.int .i64 (M k)] rfl rfl (cell_newL _ [.int .i64 (M k)] _ (by simp)) (by simp [Value.oneCell']) (by simp only [maxLen]; omega) (by omega) (by simp; omega) ?_))
      intro v' w1 hown' hgrow _
      have hb1 : Below w.heap.size w w1 := own_grow (by repeat' (first | (with_reducible exact Below.refl _ _) | (with_reducible assumption) | (with_reducible refine Base.grow_alloc ?_ _) | (with_reducible refine Base.below_drewN ?_ _) | (with_reducible refine Below.drew ?_) | (with_reducible refine Below.setCell ?_ ?_ _) | go_size)) hown (Nat.le_refl _) hgrow
      clear hown hgrow
      go_wp2
      go_roundw
      case rel => exact ⟨k + 1, by omega, by go_num, by rw [sel_yes rfl]; exact own_snoc (by rw [hl]; exact hown'), hb1⟩
      case measure => simp [intOf]; omega
    · have hkn : k = n := by omega
      subst hkn
      go_wp2
      go_ret
      exact ⟨_, rfl, OwnK.of_all hown hn, hbr⟩
def pfC (n : Nat) (X Y M : Nat → Int) (m : Int) : Int := if okChart n X Y M = true then encC n M m else 1
def pfA (n : Nat) (X Y M : Nat → Int) (m : Int) : Int := if okChart n X Y M = true then encA n M m else 0
def pfB (n : Nat) (X Y M : Nat → Int) (m : Int) : Int := if okChart n X Y M = true then encB n M m else 0
theorem c_PairFor (A : Option Addr) (n c : Nat) (X Y M : Nat → Int) (m : Int) (w : World) (hv : Sl w 3 A n c (f3 X Y M)) :
    Calls Try.prog 23 #[.slice A n c, .int .i64 m] w fun e w' => e = .returned (.tuple #[.int .i64 (pfA n X Y M m), .int .i64 (pfB n X Y M m), .int .i64 (pfC n X Y M m)]) ∧ Below w.heap.size w w' := by
  cases hok : okChart n X Y M
  · have E1 := Lib.hid (show pfA n X Y M m = 0 by simp [pfA, hok]); have E2 := Lib.hid (show pfB n X Y M m = 0 by simp [pfB, hok]); have E3 := Lib.hid (show pfC n X Y M m = 1 by simp [pfC, hok])
    go_enter Try.func23, Try.ntmps23
    go_wp2_with (first | (go_at_call 71; refine (c_ValidChart _ _ _ X Y M _ (hv.below (by repeat' (first | (with_reducible exact Below.refl _ _) | (with_reducible assumption) | (with_reducible refine Base.grow_alloc ?_ _) | (with_reducible refine Base.below_drewN ?_ _) | (with_reducible refine Below.drew ?_) | (with_reducible refine Below.setCell ?_ ?_ _) | go_size)))).mono ?_; rintro e w1 ⟨rfl, hb1⟩; obtain ⟨chb1, fhb1⟩ := Base.bcell hb1; have zhb1 := (hb1).size; (try simp at zhb1); (try have yhb1 : w.heap.size < (w1).heap.size := by omega)))
    go_ret3
    exact ⟨ret3 E1.out.symm E2.out.symm E3.out.symm, (by repeat' (first | (with_reducible exact Below.refl _ _) | (with_reducible assumption) | (with_reducible refine Base.via hb1 ?_) | (with_reducible refine Base.grow_alloc ?_ _) | (with_reducible refine Base.below_drewN ?_ _) | (with_reducible refine Below.drew ?_) | (with_reducible refine Below.setCell ?_ ?_ _) | go_size))⟩
  · have E1 := Lib.hid (show pfA n X Y M m = encA n M m by simp [pfA, hok]); have E2 := Lib.hid (show pfB n X Y M m = encB n M m by simp [pfB, hok]); have E3 := Lib.hid (show pfC n X Y M m = encC n M m by simp [pfC, hok])
    go_enter Try.func23, Try.ntmps23
    go_wp2_with (first | (go_at_call 71; refine (c_ValidChart _ _ _ X Y M _ (hv.below (by repeat' (first | (with_reducible exact Below.refl _ _) | (with_reducible assumption) | (with_reducible refine Base.grow_alloc ?_ _) | (with_reducible refine Base.below_drewN ?_ _) | (with_reducible refine Below.drew ?_) | (with_reducible refine Below.setCell ?_ ?_ _) | go_size)))).mono ?_; rintro e w1 ⟨rfl, hb1⟩; obtain ⟨chb1, fhb1⟩ := Base.bcell hb1; have zhb1 := (hb1).size; (try simp at zhb1); (try have yhb1 : w.heap.size < (w1).heap.size := by omega)) | (go_at_call 73; refine (c_magsOf _ _ _ X Y M _ (hv.below (by repeat' (first | (with_reducible exact Below.refl _ _) | (with_reducible assumption) | (with_reducible refine Base.via hb1 ?_) | (with_reducible refine Base.grow_alloc ?_ _) | (with_reducible refine Base.below_drewN ?_ _) | (with_reducible refine Below.drew ?_) | (with_reducible refine Below.setCell ?_ ?_ _) | go_size)))).mono ?_))
    rintro e w2 ⟨v, rfl, ho, hb2⟩
    obtain ⟨A2, c2, rfl, V2, _⟩ := ho.view
    go_wp2_with (first | (go_at_call 72; refine (c_EnclosingPair _ _ _ M m _ V2).mono ?_; rintro e w3 ⟨rfl, hb3⟩; obtain ⟨chb3, fhb3⟩ := Base.bcell hb3; have zhb3 := (hb3).size; (try simp at zhb3); (try have yhb3 : w.heap.size < (w3).heap.size := by omega)))
    go_ret3
    exact ⟨ret3 E1.out.symm E2.out.symm E3.out.symm, (by repeat' (first | (with_reducible exact Below.refl _ _) | (with_reducible assumption) | (with_reducible refine Base.via hb3 ?_) | (with_reducible refine Base.via hb2 ?_) | (with_reducible refine Base.via hb1 ?_) | (with_reducible refine Base.grow_alloc ?_ _) | (with_reducible refine Base.below_drewN ?_ _) | (with_reducible refine Below.drew ?_) | (with_reducible refine Below.setCell ?_ ?_ _) | go_size))⟩
theorem c_specPairFor (A : Option Addr) (n c : Nat) (X Y M : Nat → Int) (m : Int) (w : World) (hv : Sl w 3 A n c (f3 X Y M)) :
    Calls Try.prog 21 #[.slice A n c, .int .i64 m] w fun e w' => e = .returned (.tuple #[.int .i64 (pfA n X Y M m), .int .i64 (pfB n X Y M m), .int .i64 (pfC n X Y M m)]) ∧ Below w.heap.size w w' := by
  cases hok : okChart n X Y M
  · have E1 := Lib.hid (show pfA n X Y M m = 0 by simp [pfA, hok]); have E2 := Lib.hid (show pfB n X Y M m = 0 by simp [pfB, hok]); have E3 := Lib.hid (show pfC n X Y M m = 1 by simp [pfC, hok])
    go_enter Try.func21, Try.ntmps21
    go_wp2_with (first | (go_at_call 67; refine (c_l07Ok _ _ _ X Y M _ (hv.below (by repeat' (first | (with_reducible exact Below.refl _ _) | (with_reducible assumption) | (with_reducible refine Base.grow_alloc ?_ _) | (with_reducible refine Base.below_drewN ?_ _) | (with_reducible refine Below.drew ?_) | (with_reducible refine Below.setCell ?_ ?_ _) | go_size)))).mono ?_; rintro e w1 ⟨rfl, hb1⟩; obtain ⟨chb1, fhb1⟩ := Base.bcell hb1; have zhb1 := (hb1).size; (try simp at zhb1); (try have yhb1 : w.heap.size < (w1).heap.size := by omega)))
    go_ret3
    exact ⟨ret3 E1.out.symm E2.out.symm E3.out.symm, (by repeat' (first | (with_reducible exact Below.refl _ _) | (with_reducible assumption) | (with_reducible refine Base.via hb1 ?_) | (with_reducible refine Base.grow_alloc ?_ _) | (with_reducible refine Base.below_drewN ?_ _) | (with_reducible refine Below.drew ?_) | (with_reducible refine Below.setCell ?_ ?_ _) | go_size))⟩
  · have E1 := Lib.hid (show pfA n X Y M m = encA n M m by simp [pfA, hok]); have E2 := Lib.hid (show pfB n X Y M m = encB n M m by simp [pfB, hok]); have E3 := Lib.hid (show pfC n X Y M m = encC n M m by simp [pfC, hok])
    go_enter Try.func21, Try.ntmps21
    go_wp2_with (first | (go_at_call 67; refine (c_l07Ok _ _ _ X Y M _ (hv.below (by repeat' (first | (with_reducible exact Below.refl _ _) | (with_reducible assumption) | (with_reducible refine Base.grow_alloc ?_ _) | (with_reducible refine Base.below_drewN ?_ _) | (with_reducible refine Below.drew ?_) | (with_reducible refine Below.setCell ?_ ?_ _) | go_size)))).mono ?_; rintro e w1 ⟨rfl, hb1⟩; obtain ⟨chb1, fhb1⟩ := Base.bcell hb1; have zhb1 := (hb1).size; (try simp at zhb1); (try have yhb1 : w.heap.size < (w1).heap.size := by omega)) | (go_at_call 69; refine (c_l07Mags _ _ _ X Y M _ (hv.below (by repeat' (first | (with_reducible exact Below.refl _ _) | (with_reducible assumption) | (with_reducible refine Base.via hb1 ?_) | (with_reducible refine Base.grow_alloc ?_ _) | (with_reducible refine Base.below_drewN ?_ _) | (with_reducible refine Below.drew ?_) | (with_reducible refine Below.setCell ?_ ?_ _) | go_size)))).mono ?_))
    rintro e w2 ⟨v, rfl, ho, hb2⟩
    obtain ⟨A2, c2, rfl, V2, _⟩ := ho.view
    go_wp2_with (first | (go_at_call 68; refine (c_specEnclosingPair _ _ _ M m _ V2).mono ?_; rintro e w3 ⟨rfl, hb3⟩; obtain ⟨chb3, fhb3⟩ := Base.bcell hb3; have zhb3 := (hb3).size; (try simp at zhb3); (try have yhb3 : w.heap.size < (w3).heap.size := by omega)))
    go_ret3
    exact ⟨ret3 E1.out.symm E2.out.symm E3.out.symm, (by repeat' (first | (with_reducible exact Below.refl _ _) | (with_reducible assumption) | (with_reducible refine Base.via hb3 ?_) | (with_reducible refine Base.via hb2 ?_) | (with_reducible refine Base.via hb1 ?_) | (with_reducible refine Base.grow_alloc ?_ _) | (with_reducible refine Base.below_drewN ?_ _) | (with_reducible refine Below.drew ?_) | (with_reducible refine Below.setCell ?_ ?_ _) | go_size))⟩
end Go.Proofs.Ytiinjnghnfofpaa.Enc
