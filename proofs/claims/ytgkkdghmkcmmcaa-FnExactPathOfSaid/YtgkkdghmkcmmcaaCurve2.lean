/- Walks over a light curve: the path, the longest gap. -/
import Derived.Test.YtgkkdghmkcmmcaaView
import Derived.Test.YtgkkdghmkcmmcaaNum
import Derived.Test.YtgkkdghmkcmmcaaPl2
import Derived.Test.YtgkkdghmkcmmcaaCurve
import Derived.BigQuiet
import Derived.Deep.QuietTactic
namespace Go.Proofs.Ytgkkdghmkcmmcaa.Curve2
set_option linter.unusedVariables false
set_option linter.unusedSimpArgs false
open Go.RowKit Plain Num View Curve

theorem okCurve_bd {n : Nat} {T M : Nat → Int} (h : okCurve n T M = true) : n ≤ 100 ∧ (∀ i, i < n → 0 ≤ T i ∧ T i ≤ 10000000) ∧ (∀ i, i < n → -2000 ≤ M i ∧ M i ≤ 20000) ∧ (∀ i, 0 < i → i < n → T (i - 1) < T i) := by
  simp only [okCurve, Bool.and_eq_true, decide_eq_true_eq] at h
  refine ⟨h.1, fun i hi => ?_, fun i hi => ?_, fun i h0 hi => ?_⟩
  all_goals have := allB_iff.1 h.2 i hi; simp only [okPt, Bool.and_eq_true] at this
  · exact inB_iff.1 this.1.1
  · exact inB_iff.1 this.1.2
  · have h2 := this.2
    simp only [Bool.or_eq_true, beq_iff_eq, decide_eq_true_eq] at h2
    omega
theorem ret_pair {k l : IntKind} {a b c d : Int} (h : a = c) (h' : b = d) : Ending.returned (.tuple #[.int k a, .int l b]) = .returned (.tuple #[.int k c, .int l d]) := by rw [h, h']
theorem ret_three {k l m : IntKind} {a b c d e f : Int} (h : a = d) (h' : b = e) (h'' : c = f) : Ending.returned (.tuple #[.int k a, .int l b, .int m c]) = .returned (.tuple #[.int k d, .int l e, .int m f]) := by rw [h, h', h'']

def pathD (M : Nat → Int) (i : Nat) : Int := absI (M (i + 1) - M i)
def pathV (n : Nat) (T M : Nat → Int) : Int := if okCurve n T M = true then sumB (n - 1) (pathD M) else 0
def curveCode (n : Nat) (T M : Nat → Int) : Int := if okCurve n T M = true then 0 else 1
theorem absI_bd {a b : Int} (h : -b ≤ a) (h' : a ≤ b) : 0 ≤ absI a ∧ absI a ≤ b := by unfold absI; split <;> omega
theorem path_bd {n : Nat} {M : Nat → Int} (hM : ∀ i, i < n → -2000 ≤ M i ∧ M i ≤ 20000) {k : Nat} (hk : k + 1 ≤ n ∨ k = 0) : 0 ≤ sumB k (pathD M) ∧ sumB k (pathD M) ≤ k * 22000 := by
  have := sumB_bd (k := k) (f := pathD M) (a := 0) (b := 22000) (fun q hq => by
    have h1 := hM q (by omega); have h2 := hM (q + 1) (by omega)
    exact absI_bd (by omega) (by omega))
  simpa using this
set_option maxHeartbeats 1600000 in
theorem c_PathOf (A : Option Addr) (n c : Nat) (T M : Nat → Int) (w : World) (hv : Sl w 2 A n c (f2 T M)) :
    Calls Try.prog 50 #[.slice A n c] w fun e w' => e = .returned (.tuple #[.int .i64 (pathV n T M), .int .i64 (curveCode n T M)]) ∧ Below w.heap.size w w' := by
  cases hok : okCurve n T M with
  | false =>
    have HK := Lib.hid hok
    go_enter Try.func50, Try.ntmps50
    go_wp2_with (first | (go_at_call 31; refine (c_ValidCurve _ _ _ T M _ hv).mono ?_; rintro e w1 ⟨rfl, hb1⟩; obtain ⟨chb1, fhb1⟩ := Base.bcell hb1; have zhb1 := (hb1).size; (try simp at zhb1); (try have yhb1 : w.heap.size < (w1).heap.size := by omega)))
    go_ret2
    exact ⟨ret_pair (by simp [pathV, HK.out]) (by simp [curveCode, HK.out]), (by repeat' (first | (with_reducible exact Below.refl _ _) | (with_reducible assumption) | (with_reducible refine Base.via hb1 ?_) | (with_reducible refine Base.grow_alloc ?_ _) | (with_reducible refine Base.below_drewN ?_ _) | (with_reducible refine Below.drew ?_) | (with_reducible refine Below.setCell ?_ ?_ _) | go_size))⟩
  | true =>
    obtain ⟨h100, hT, hM, _⟩ := okCurve_bd hok
    have HM := Lib.hid hM
    have HK := Lib.hid hok
    clear hT hM
    go_enter Try.func50, Try.ntmps50
    go_wp2_with (first | (go_at_call 31; refine (c_ValidCurve _ _ _ T M _ hv).mono ?_; rintro e w1 ⟨rfl, hb1⟩; obtain ⟨chb1, fhb1⟩ := Base.bcell hb1; have zhb1 := (hb1).size; (try simp at zhb1); (try have yhb1 : w.heap.size < (w1).heap.size := by omega)))
    clear chb1 fhb1 zhb1
    go_loopw [4, 5] (fun s i wr => ∃ k : Nat, 1 ≤ k ∧ (k ≤ n ∨ k = 1) ∧ i = .int .i64 k ∧ s = .int .i64 (sumB (k - 1) (pathD M)) ∧ Below w.heap.size w wr) (fun _ i _ => n - (intOf i).toNat)
    case atStart => exact ⟨1, by omega, by omega, rfl, rfl, (by repeat' (first | (with_reducible exact Below.refl _ _) | (with_reducible assumption) | (with_reducible refine Base.via hb1 ?_) | (with_reducible refine Base.grow_alloc ?_ _) | (with_reducible refine Base.below_drewN ?_ _) | (with_reducible refine Below.drew ?_) | (with_reducible refine Below.setCell ?_ ?_ _) | go_size))⟩
    case round =>
      obtain ⟨k, hk1, hk, rfl, rfl, hbr⟩ := hrel
      have b1 := path_bd (n := n) HM.out (k := k - 1) (by omega)
      by_cases hlt : k < n
      · obtain ⟨b, off, rfl, hb, hc⟩ := (hv.below hbr).at_ (by omega)
        have h0 := (cells2 hc k hlt).2
        have h1 := (cells2 hc (k - 1) (by omega)).2
        have m0 := HM.out k hlt
        have m1 := HM.out (k - 1) (by omega)
        have ew : IntKind.i64.wrap (M k - M (k - 1)) = M k - M (k - 1) := IntWalk.i64_in _ (by omega)
        have b2 := absI_bd (a := M k - M (k - 1)) (b := 22000) (by omega) (by omega)
        have e1 : sumB k (pathD M) = sumB (k - 1) (pathD M) + absI (M k - M (k - 1)) := by
          obtain ⟨j, rfl⟩ : ∃ j, k = j + 1 := ⟨k - 1, by omega⟩
          simp [sumB, pathD]
        have E1 := Lib.hid e1
        clear hc e1
        go_wp2
        go_quiet ((first | (go_at_call 77; exact Calls.quiet_of_same ((c_abs _ _ (by omega) (by omega)).mono fun _ _ h => ⟨h.1, h.2.symm⟩))))
        clear ew
        go_wp2
        go_roundw
        case rel => exact ⟨k + 1, by omega, by omega, by go_num, by rw [Nat.add_sub_cancel, E1.out], (by repeat' (first | (with_reducible exact Below.refl _ _) | (with_reducible assumption) | (with_reducible refine Base.grow_alloc ?_ _) | (with_reducible refine Base.below_drewN ?_ _) | (with_reducible refine Below.drew ?_) | (with_reducible refine Below.setCell ?_ ?_ _) | go_size))⟩
        case measure => simp [intOf]; omega
      · have hkn : k - 1 = n - 1 := by omega
        have HN := Lib.hid hkn
        clear hkn
        go_wp2
        go_ret2
        exact ⟨ret_pair (by rw [pathV, if_pos HK.out, HN.out]) (by simp [curveCode, HK.out]), hbr⟩
set_option maxHeartbeats 1600000 in
theorem c_specPathOf (A : Option Addr) (n c : Nat) (T M : Nat → Int) (w : World) (hv : Sl w 2 A n c (f2 T M)) :
    Calls Try.prog 49 #[.slice A n c] w fun e w' => e = .returned (.tuple #[.int .i64 (pathV n T M), .int .i64 (curveCode n T M)]) ∧ Below w.heap.size w w' := by
  cases hok : okCurve n T M with
  | false =>
    have HK := Lib.hid hok
    go_enter Try.func49, Try.ntmps49
    go_wp2_with (first | (go_at_call 63; refine (c_l08Ok _ _ _ T M _ hv).mono ?_; rintro e w1 ⟨rfl, hb1⟩; obtain ⟨chb1, fhb1⟩ := Base.bcell hb1; have zhb1 := (hb1).size; (try simp at zhb1); (try have yhb1 : w.heap.size < (w1).heap.size := by omega)))
    go_ret2
    exact ⟨ret_pair (by simp [pathV, HK.out]) (by simp [curveCode, HK.out]), (by repeat' (first | (with_reducible exact Below.refl _ _) | (with_reducible assumption) | (with_reducible refine Base.via hb1 ?_) | (with_reducible refine Base.grow_alloc ?_ _) | (with_reducible refine Base.below_drewN ?_ _) | (with_reducible refine Below.drew ?_) | (with_reducible refine Below.setCell ?_ ?_ _) | go_size))⟩
  | true =>
    obtain ⟨h100, hT, hM, _⟩ := okCurve_bd hok
    have HM := Lib.hid hM
    have HK := Lib.hid hok
    clear hT hM
    go_enter Try.func49, Try.ntmps49
    go_wp2_with (first | (go_at_call 63; refine (c_l08Ok _ _ _ T M _ hv).mono ?_; rintro e w1 ⟨rfl, hb1⟩; obtain ⟨chb1, fhb1⟩ := Base.bcell hb1; have zhb1 := (hb1).size; (try simp at zhb1); (try have yhb1 : w.heap.size < (w1).heap.size := by omega)))
    clear chb1 fhb1 zhb1
    go_loopw [4, 5] (fun s i wr => ∃ k : Nat, 1 ≤ k ∧ (k ≤ n ∨ k = 1) ∧ i = .int .i64 k ∧ s = .int .i64 (sumB (k - 1) (pathD M)) ∧ Below w.heap.size w wr) (fun _ i _ => n - (intOf i).toNat)
    case atStart => exact ⟨1, by omega, by omega, rfl, rfl, (by repeat' (first | (with_reducible exact Below.refl _ _) | (with_reducible assumption) | (with_reducible refine Base.via hb1 ?_) | (with_reducible refine Base.grow_alloc ?_ _) | (with_reducible refine Base.below_drewN ?_ _) | (with_reducible refine Below.drew ?_) | (with_reducible refine Below.setCell ?_ ?_ _) | go_size))⟩
    case round =>
      obtain ⟨k, hk1, hk, rfl, rfl, hbr⟩ := hrel
      have b1 := path_bd (n := n) HM.out (k := k - 1) (by omega)
      by_cases hlt : k < n
      · obtain ⟨b, off, rfl, hb, hc⟩ := (hv.below hbr).at_ (by omega)
        have h0 := (cells2 hc k hlt).2
        have h1 := (cells2 hc (k - 1) (by omega)).2
        have m0 := HM.out k hlt
        have m1 := HM.out (k - 1) (by omega)
        have ew : IntKind.i64.wrap (M k - M (k - 1)) = M k - M (k - 1) := IntWalk.i64_in _ (by omega)
        have b2 := absI_bd (a := M k - M (k - 1)) (b := 22000) (by omega) (by omega)
        have e1 : sumB k (pathD M) = sumB (k - 1) (pathD M) + absI (M k - M (k - 1)) := by
          obtain ⟨j, rfl⟩ : ∃ j, k = j + 1 := ⟨k - 1, by omega⟩
          simp [sumB, pathD]
        have E1 := Lib.hid e1
        clear hc e1
        go_wp2
        go_quiet ((first | (go_at_call 76; exact Calls.quiet_of_same ((c_l02Size _ _ (by omega) (by omega)).mono fun _ _ h => ⟨h.1, h.2.symm⟩))))
        clear ew
        go_wp2
        go_roundw
        case rel => exact ⟨k + 1, by omega, by omega, by go_num, by rw [Nat.add_sub_cancel, E1.out], (by repeat' (first | (with_reducible exact Below.refl _ _) | (with_reducible assumption) | (with_reducible refine Base.grow_alloc ?_ _) | (with_reducible refine Base.below_drewN ?_ _) | (with_reducible refine Below.drew ?_) | (with_reducible refine Below.setCell ?_ ?_ _) | go_size))⟩
        case measure => simp [intOf]; omega
      · have hkn : k - 1 = n - 1 := by omega
        have HN := Lib.hid hkn
        clear hkn
        go_wp2
        go_ret2
        exact ⟨ret_pair (by rw [pathV, if_pos HK.out, HN.out]) (by simp [curveCode, HK.out]), hbr⟩

end Go.Proofs.Ytgkkdghmkcmmcaa.Curve2
