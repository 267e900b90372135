/- The longest gap of a light curve. -/
import Derived.Test.YtgkkdghmkcmmcaaCurve2
namespace Go.Proofs.Ytgkkdghmkcmmcaa.Gap
set_option linter.unusedVariables false
set_option linter.unusedSimpArgs false
open Go.RowKit Plain Num View Curve Curve2

/-- the index behind the longest of the first k gaps, the first one of equal ones -/
def gapAt (T : Nat → Int) : Nat → Nat
  | 0 => 1
  | k + 1 => if T (gapAt T k) - T (gapAt T k - 1) < T (k + 1) - T k then k + 1 else gapAt T k
theorem gapAt_bd (T : Nat → Int) (k : Nat) : 1 ≤ gapAt T k ∧ gapAt T k ≤ max k 1 := by
  induction k with
  | zero => simp [gapAt]
  | succ k ih => rw [gapAt]; split <;> omega
theorem gapAt_one (T : Nat → Int) : gapAt T 1 = 1 := by simp [gapAt]
theorem gapAt_yes {T : Nat → Int} {k g : Nat} (hk : 1 ≤ k) (hg : g = gapAt T (k - 1)) (h : T g - T (g - 1) < T k - T (k - 1)) : gapAt T k = k := by
  obtain ⟨j, rfl⟩ : ∃ j, k = j + 1 := ⟨k - 1, by omega⟩
  simp only [Nat.add_sub_cancel] at hg h
  rw [gapAt, ← hg, if_pos h]
theorem gapAt_no {T : Nat → Int} {k g : Nat} (hk : 1 ≤ k) (hg : g = gapAt T (k - 1)) (h : ¬ T g - T (g - 1) < T k - T (k - 1)) : gapAt T k = g := by
  obtain ⟨j, rfl⟩ : ∃ j, k = j + 1 := ⟨k - 1, by omega⟩
  simp only [Nat.add_sub_cancel] at hg h
  rw [gapAt, ← hg, if_neg h]
def gapCode (n : Nat) (T M : Nat → Int) : Int := if okCurve n T M = true then (if n < 2 then 3 else 0) else 1
def gapFrom (n : Nat) (T M : Nat → Int) : Int := if gapCode n T M = 0 then T (gapAt T (n - 1) - 1) else 0
def gapTo (n : Nat) (T M : Nat → Int) : Int := if gapCode n T M = 0 then T (gapAt T (n - 1)) else 0
theorem gap_cases (n : Nat) (T M : Nat → Int) : (okCurve n T M = true ∧ 2 ≤ n ∧ gapCode n T M = 0) ∨ (okCurve n T M = true ∧ n < 2 ∧ gapCode n T M = 3) ∨ (okCurve n T M = false ∧ gapCode n T M = 1) := by
  unfold gapCode
  cases h : okCurve n T M <;> by_cases h2 : n < 2 <;> simp [h2] <;> omega

set_option maxHeartbeats 1600000 in
theorem c_LongestGap (A : Option Addr) (n c : Nat) (T M : Nat → Int) (w : World) (hv : Sl w 2 A n c (f2 T M)) :
    Calls Try.prog 48 #[.slice A n c] w fun e w' => e = .returned (.tuple #[.int .i64 (gapFrom n T M), .int .i64 (gapTo n T M), .int .i64 (gapCode n T M)]) ∧ Below w.heap.size w w' := by
  rcases gap_cases n T M with ⟨hok, h2, hcode⟩ | ⟨hok, h2, hcode⟩ | ⟨hok, hcode⟩
  · obtain ⟨h100, hT, _, _⟩ := okCurve_bd hok
    have HT := Lib.hid hT
    have HC := Lib.hid hcode
    clear hT hcode
    go_enter Try.func48, Try.ntmps48
    go_wp2_with (first | (go_at_call 31; refine (c_ValidCurve _ _ _ T M _ hv).mono ?_; rintro e w1 ⟨rfl, hb1⟩; obtain ⟨chb1, fhb1⟩ := Base.bcell hb1; have zhb1 := (hb1).size; (try simp at zhb1); (try have yhb1 : w.heap.size < (w1).heap.size := by omega)))
    clear chb1 fhb1 zhb1
    obtain ⟨b, off, rfl, hb, hc⟩ := (hv.below hb1).at_ (by omega)
    have h0 := (cells2 hc 0 (by omega)).1
    have h1 := (cells2 hc 1 (by omega)).1
    simp only [Nat.zero_mul, Nat.add_zero, Nat.one_mul] at h0 h1
    clear hc
    go_quiet (fail)
    clear h0 h1
    go_wp2
    go_loopw [5, 6, 7, 8, 9] (fun s t i _ _ wr => ∃ k g : Nat, 1 ≤ k ∧ k ≤ n ∧ Hid (g = gapAt T (k - 1)) ∧ i = .int .i64 k ∧ s = .int .i64 (T (g - 1)) ∧ t = .int .i64 (T g) ∧ Below w.heap.size w wr) (fun _ _ i _ _ _ => n - (intOf i).toNat)
    case atStart => exact ⟨1, 1, by omega, by omega, (show (1 : Nat) = gapAt T (1 - 1) from rfl), rfl, rfl, rfl, (by repeat' (first | (with_reducible exact Below.refl _ _) | (with_reducible assumption) | (with_reducible refine Base.via hb1 ?_) | (with_reducible refine Base.grow_alloc ?_ _) | (with_reducible refine Base.below_drewN ?_ _) | (with_reducible refine Below.drew ?_) | (with_reducible refine Below.setCell ?_ ?_ _) | go_size))⟩
    case round =>
      obtain ⟨k, g, hk1, hk, hg, rfl, rfl, rfl, hbr⟩ := hrel
      by_cases hlt : k < n
      · obtain ⟨b', off', e2, hb', hc⟩ := (hv.below hbr).at_ (by omega)
        injection e2 with e2
        injection e2 with e3 e4
        subst e3; subst e4
        have h0 := (cells2 hc k hlt).1
        have h1 := (cells2 hc (k - 1) (by omega)).1
        have g12 : 1 ≤ g ∧ g < n := by have := gapAt_bd T (k - 1); rw [← hg.out] at this; omega
        have t0 := HT.out k hlt
        have t1 := HT.out (k - 1) (by omega)
        have t2 := HT.out g (by omega)
        have t3 := HT.out (g - 1) (by omega)
        clear hc
        by_cases hgt : T g - T (g - 1) < T k - T (k - 1)
        · go_wp2
          go_quiet (fail)
          go_wp2
          go_roundw
          case rel => exact ⟨k + 1, k, by omega, by omega, (show k = gapAt T (k + 1 - 1) from (gapAt_yes hk1 hg.out (by omega)).symm), by go_num, rfl, rfl, (by repeat' (first | (with_reducible exact Below.refl _ _) | (with_reducible assumption) | (with_reducible refine Base.grow_alloc ?_ _) | (with_reducible refine Base.below_drewN ?_ _) | (with_reducible refine Below.drew ?_) | (with_reducible refine Below.setCell ?_ ?_ _) | go_size))⟩
          case measure => simp [intOf]; omega
        · go_wp2
          go_quiet (fail)
          go_wp2
          go_roundw
          case rel => exact ⟨k + 1, g, by omega, by omega, (show g = gapAt T (k + 1 - 1) from (gapAt_no hk1 hg.out (by omega)).symm), by go_num, rfl, rfl, (by repeat' (first | (with_reducible exact Below.refl _ _) | (with_reducible assumption) | (with_reducible refine Base.grow_alloc ?_ _) | (with_reducible refine Base.below_drewN ?_ _) | (with_reducible refine Below.drew ?_) | (with_reducible refine Below.setCell ?_ ?_ _) | go_size))⟩
          case measure => simp [intOf]; omega
      · have hkn : k = n := by omega
        subst hkn
        go_wp2
        go_ret3
        exact ⟨ret_three (by rw [gapFrom, if_pos HC.out, ← hg.out]) (by rw [gapTo, if_pos HC.out, ← hg.out]) HC.out.symm, hbr⟩
  · have HC := Lib.hid hcode
    clear hcode
    go_enter Try.func48, Try.ntmps48
    go_wp2_with (first | (go_at_call 31; refine (c_ValidCurve _ _ _ T M _ hv).mono ?_; rintro e w1 ⟨rfl, hb1⟩; obtain ⟨chb1, fhb1⟩ := Base.bcell hb1; have zhb1 := (hb1).size; (try simp at zhb1); (try have yhb1 : w.heap.size < (w1).heap.size := by omega)))
    go_ret3
    exact ⟨ret_three (by simp [gapFrom, HC.out]) (by simp [gapTo, HC.out]) HC.out.symm, (by repeat' (first | (with_reducible exact Below.refl _ _) | (with_reducible assumption) | (with_reducible refine Base.via hb1 ?_) | (with_reducible refine Base.grow_alloc ?_ _) | (with_reducible refine Base.below_drewN ?_ _) | (with_reducible refine Below.drew ?_) | (with_reducible refine Below.setCell ?_ ?_ _) | go_size))⟩
  · have HC := Lib.hid hcode
    clear hcode
    go_enter Try.func48, Try.ntmps48
    go_wp2_with (first | (go_at_call 31; refine (c_ValidCurve _ _ _ T M _ hv).mono ?_; rintro e w1 ⟨rfl, hb1⟩; obtain ⟨chb1, fhb1⟩ := Base.bcell hb1; have zhb1 := (hb1).size; (try simp at zhb1); (try have yhb1 : w.heap.size < (w1).heap.size := by omega)))
    go_ret3
    exact ⟨ret_three (by simp [gapFrom, HC.out]) (by simp [gapTo, HC.out]) HC.out.symm, (by repeat' (first | (with_reducible exact Below.refl _ _) | (with_reducible assumption) | (with_reducible refine Base.via hb1 ?_) | (with_reducible refine Base.grow_alloc ?_ _) | (with_reducible refine Base.below_drewN ?_ _) | (with_reducible refine Below.drew ?_) | (with_reducible refine Below.setCell ?_ ?_ _) | go_size))⟩
set_option maxHeartbeats 1600000 in
theorem c_specLongestGap (A : Option Addr) (n c : Nat) (T M : Nat → Int) (w : World) (hv : Sl w 2 A n c (f2 T M)) :
    Calls Try.prog 47 #[.slice A n c] w fun e w' => e = .returned (.tuple #[.int .i64 (gapFrom n T M), .int .i64 (gapTo n T M), .int .i64 (gapCode n T M)]) ∧ Below w.heap.size w w' := by
  rcases gap_cases n T M with ⟨hok, h2, hcode⟩ | ⟨hok, h2, hcode⟩ | ⟨hok, hcode⟩
  · obtain ⟨h100, hT, _, _⟩ := okCurve_bd hok
    have HT := Lib.hid hT
    have HC := Lib.hid hcode
    clear hT hcode
    go_enter Try.func47, Try.ntmps47
    go_wp2_with (first | (go_at_call 63; refine (c_l08Ok _ _ _ T M _ hv).mono ?_; rintro e w1 ⟨rfl, hb1⟩; obtain ⟨chb1, fhb1⟩ := Base.bcell hb1; have zhb1 := (hb1).size; (try simp at zhb1); (try have yhb1 : w.heap.size < (w1).heap.size := by omega)))
    clear chb1 fhb1 zhb1
    go_loopw [5, 6] (fun s i wr => ∃ k g : Nat, 2 ≤ k ∧ k ≤ n ∧ Hid (g = gapAt T (k - 1)) ∧ i = .int .i64 k ∧ s = .int .i64 g ∧ Below w.heap.size w wr) (fun _ i _ => n - (intOf i).toNat)
    case atStart => exact ⟨2, 1, by omega, by omega, (show (1 : Nat) = gapAt T (2 - 1) from (gapAt_one T).symm), rfl, rfl, (by repeat' (first | (with_reducible exact Below.refl _ _) | (with_reducible assumption) | (with_reducible refine Base.via hb1 ?_) | (with_reducible refine Base.grow_alloc ?_ _) | (with_reducible refine Base.below_drewN ?_ _) | (with_reducible refine Below.drew ?_) | (with_reducible refine Below.setCell ?_ ?_ _) | go_size))⟩
    case round =>
      obtain ⟨k, g, hk1, hk, hg, rfl, rfl, hbr⟩ := hrel
      have g12 : 1 ≤ g ∧ g ≤ k - 1 := by have := gapAt_bd T (k - 1); rw [← hg.out] at this; omega
      obtain ⟨b, off, rfl, hb, hc⟩ := (hv.below hbr).at_ (by omega)
      have h2 := (cells2 hc g (by omega)).1
      have h3 := (cells2 hc (g - 1) (by omega)).1
      by_cases hlt : k < n
      · have h0 := (cells2 hc k hlt).1
        have h1 := (cells2 hc (k - 1) (by omega)).1
        have t0 := HT.out k hlt
        have t1 := HT.out (k - 1) (by omega)
        have t2 := HT.out g (by omega)
        have t3 := HT.out (g - 1) (by omega)
        have e1 : IntKind.i64.wrap (T k - T (k - 1)) = T k - T (k - 1) := IntWalk.i64_in _ (by omega)
        have e2 : IntKind.i64.wrap (T g - T (g - 1)) = T g - T (g - 1) := IntWalk.i64_in _ (by omega)
        clear hc
        by_cases hgt : T g - T (g - 1) < T k - T (k - 1)
        · go_wp2
          go_quiet (fail)
          clear e1 e2
          go_wp2
          go_roundw
          case rel => exact ⟨k + 1, k, by omega, by omega, (show k = gapAt T (k + 1 - 1) from (gapAt_yes (by omega) hg.out (by omega)).symm), by go_num, rfl, (by repeat' (first | (with_reducible exact Below.refl _ _) | (with_reducible assumption) | (with_reducible refine Base.grow_alloc ?_ _) | (with_reducible refine Base.below_drewN ?_ _) | (with_reducible refine Below.drew ?_) | (with_reducible refine Below.setCell ?_ ?_ _) | go_size))⟩
          case measure => simp [intOf]; omega
        · go_wp2
          go_quiet (fail)
          clear e1 e2
          go_wp2
          go_roundw
          case rel => exact ⟨k + 1, g, by omega, by omega, (show g = gapAt T (k + 1 - 1) from (gapAt_no (by omega) hg.out (by omega)).symm), by go_num, rfl, (by repeat' (first | (with_reducible exact Below.refl _ _) | (with_reducible assumption) | (with_reducible refine Base.grow_alloc ?_ _) | (with_reducible refine Base.below_drewN ?_ _) | (with_reducible refine Below.drew ?_) | (with_reducible refine Below.setCell ?_ ?_ _) | go_size))⟩
          case measure => simp [intOf]; omega
      · have hkn : k = n := by omega
        subst hkn
        clear hc
        go_wp2
        go_quiet (fail)
        go_wp2
        go_ret3
        exact ⟨ret_three (by rw [gapFrom, if_pos HC.out, ← hg.out]) (by rw [gapTo, if_pos HC.out, ← hg.out]) HC.out.symm, (by repeat' (first | (with_reducible exact Below.refl _ _) | (with_reducible assumption) | (with_reducible refine Base.grow_alloc ?_ _) | (with_reducible refine Base.below_drewN ?_ _) | (with_reducible refine Below.drew ?_) | (with_reducible refine Below.setCell ?_ ?_ _) | go_size))⟩
  · have HC := Lib.hid hcode
    clear hcode
    go_enter Try.func47, Try.ntmps47
    go_wp2_with (first | (go_at_call 63; refine (c_l08Ok _ _ _ T M _ hv).mono ?_; rintro e w1 ⟨rfl, hb1⟩; obtain ⟨chb1, fhb1⟩ := Base.bcell hb1; have zhb1 := (hb1).size; (try simp at zhb1); (try have yhb1 : w.heap.size < (w1).heap.size := by omega)))
    go_ret3
    exact ⟨ret_three (by simp [gapFrom, HC.out]) (by simp [gapTo, HC.out]) HC.out.symm, (by repeat' (first | (with_reducible exact Below.refl _ _) | (with_reducible assumption) | (with_reducible refine Base.via hb1 ?_) | (with_reducible refine Base.grow_alloc ?_ _) | (with_reducible refine Base.below_drewN ?_ _) | (with_reducible refine Below.drew ?_) | (with_reducible refine Below.setCell ?_ ?_ _) | go_size))⟩
  · have HC := Lib.hid hcode
    clear hcode
    go_enter Try.func47, Try.ntmps47
    go_wp2_with (first | (go_at_call 63; refine (c_l08Ok _ _ _ T M _ hv).mono ?_; rintro e w1 ⟨rfl, hb1⟩; obtain ⟨chb1, fhb1⟩ := Base.bcell hb1; have zhb1 := (hb1).size; (try simp at zhb1); (try have yhb1 : w.heap.size < (w1).heap.size := by omega)))
    go_ret3
    exact ⟨ret_three (by simp [gapFrom, HC.out]) (by simp [gapTo, HC.out]) HC.out.symm, (by repeat' (first | (with_reducible exact Below.refl _ _) | (with_reducible assumption) | (with_reducible refine Base.via hb1 ?_) | (with_reducible refine Base.grow_alloc ?_ _) | (with_reducible refine Base.below_drewN ?_ _) | (with_reducible refine Below.drew ?_) | (with_reducible refine Below.setCell ?_ ?_ _) | go_size))⟩
end Go.Proofs.Ytgkkdghmkcmmcaa.Gap
