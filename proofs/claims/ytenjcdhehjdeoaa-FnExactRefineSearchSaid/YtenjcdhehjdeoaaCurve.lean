/- Light curves and charts: when they are valid, what the program's and the reference's checks return. -/
import Derived.Test.YtenjcdhehjdeoaaView
import Derived.Test.YtenjcdhehjdeoaaNum
import Derived.BigQuiet
import Derived.Deep.QuietTactic
namespace Go.Proofs.Ytenjcdhehjdeoaa.Curve
set_option linter.unusedVariables false
set_option linter.unusedSimpArgs false
open Go.RowKit Plain Num View

def okPt (T M : Nat → Int) (i : Nat) : Bool := inB (T i) 0 10000000 && inB (M i) (-2000) 20000 && (i == 0 || decide (T (i - 1) < T i))
def okCurve (n : Nat) (T M : Nat → Int) : Bool := decide (n ≤ 100) && allB n (okPt T M)

set_option maxHeartbeats 2000000 in
theorem c_ValidCurve (A : Option Addr) (n c : Nat) (T M : Nat → Int) (w : World) (hv : Sl w 2 A n c (f2 T M)) :
    Calls Try.prog 46 #[.slice A n c] w fun r w' => r = .returned (.bool (okCurve n T M)) ∧ Below w.heap.size w w' := by
  have hn := hv.le
  by_cases h100 : n ≤ 100
  · go_enter Try.func46, Try.ntmps46
    go_wp2
    go_loopw [10] (fun i wr => ∃ k : Nat, k ≤ n ∧ i = .int .i64 k ∧ Below w.heap.size w wr ∧ allB k (okPt T M) = true) (fun i _ => n - (intOf i).toNat)
    case atStart => exact ⟨0, Nat.zero_le _, rfl, Below.refl _ _, rfl⟩
    case round =>
      obtain ⟨k, hk, rfl, hbr, hall⟩ := hrel
      have HALL := Lib.hid hall
      clear hall
      by_cases hlt : k < n
      · obtain ⟨b, off, rfl, hb, hc⟩ := (hv.below hbr).at_ (by omega)
        obtain ⟨h0, h1⟩ := cells2 hc k hlt
        by_cases hT : inB (T k) 0 10000000 = true
        · by_cases hM : inB (M k) (-2000) 20000 = true
          · by_cases hk0 : 0 < k
            · have hp := (cells2 hc (k - 1) (by omega)).1
              by_cases hT2 : T (k - 1) < T k
              · clear hc
                go_wp2
                go_quiet ((first | (go_at_call 80; exact Calls.quiet_of_same ((c_ValidTime _ _).mono fun _ _ h => ⟨h.1, h.2.symm⟩)) | (go_at_call 81; exact Calls.quiet_of_same ((c_ValidMag _ _).mono fun _ _ h => ⟨h.1, h.2.symm⟩))))
                go_wp2
                go_roundw
                case rel => exact ⟨k + 1, by omega, by go_num, (by repeat' (first | (with_reducible exact Below.refl _ _) | (with_reducible assumption) | (with_reducible refine Base.grow_alloc ?_ _) | (with_reducible refine Base.below_drewN ?_ _) | (with_reducible refine Below.drew ?_) | (with_reducible refine Below.setCell ?_ ?_ _) | go_size)), allB_yes HALL.out (by simp [okPt, hT, hM, hT2])⟩
                case measure => simp [intOf]; omega
              · clear hc
                go_wp2
                go_quiet ((first | (go_at_call 80; exact Calls.quiet_of_same ((c_ValidTime _ _).mono fun _ _ h => ⟨h.1, h.2.symm⟩)) | (go_at_call 81; exact Calls.quiet_of_same ((c_ValidMag _ _).mono fun _ _ h => ⟨h.1, h.2.symm⟩))))
                go_wp2
                go_ret
                exact ⟨ret_bool (by rw [okCurve, allB_no hlt (by simp [okPt, hT2]; omega)]; simp), (by repeat' (first | (with_reducible exact Below.refl _ _) | (with_reducible assumption) | (with_reducible refine Base.grow_alloc ?_ _) | (with_reducible refine Base.below_drewN ?_ _) | (with_reducible refine Below.drew ?_) | (with_reducible refine Below.setCell ?_ ?_ _) | go_size))⟩
            · obtain rfl : k = 0 := by omega
              simp only [Nat.zero_mul, Nat.add_zero, Nat.zero_add] at h0 h1
              clear hc
              go_wp2
              go_quiet ((first | (go_at_call 80; exact Calls.quiet_of_same ((c_ValidTime _ _).mono fun _ _ h => ⟨h.1, h.2.symm⟩)) | (go_at_call 81; exact Calls.quiet_of_same ((c_ValidMag _ _).mono fun _ _ h => ⟨h.1, h.2.symm⟩))))
              go_wp2
              go_roundw
              case rel => exact ⟨1, by omega, by go_num, (by repeat' (first | (with_reducible exact Below.refl _ _) | (with_reducible assumption) | (with_reducible refine Base.grow_alloc ?_ _) | (with_reducible refine Base.below_drewN ?_ _) | (with_reducible refine Below.drew ?_) | (with_reducible refine Below.setCell ?_ ?_ _) | go_size)), allB_yes (k := 0) rfl (by simp [okPt, hT, hM])⟩
              case measure => simp [intOf]; omega
          · clear hc
            go_wp2
            go_quiet ((first | (go_at_call 80; exact Calls.quiet_of_same ((c_ValidTime _ _).mono fun _ _ h => ⟨h.1, h.2.symm⟩)) | (go_at_call 81; exact Calls.quiet_of_same ((c_ValidMag _ _).mono fun _ _ h => ⟨h.1, h.2.symm⟩))))
            go_wp2
            go_ret
            exact ⟨ret_bool (by rw [okCurve, allB_no hlt (by simp [okPt, hM])]; simp), (by repeat' (first | (with_reducible exact Below.refl _ _) | (with_reducible assumption) | (with_reducible refine Base.grow_alloc ?_ _) | (with_reducible refine Base.below_drewN ?_ _) | (with_reducible refine Below.drew ?_) | (with_reducible refine Below.setCell ?_ ?_ _) | go_size))⟩
        · clear hc
          go_wp2
          go_quiet ((first | (go_at_call 80; exact Calls.quiet_of_same ((c_ValidTime _ _).mono fun _ _ h => ⟨h.1, h.2.symm⟩)) | (go_at_call 81; exact Calls.quiet_of_same ((c_ValidMag _ _).mono fun _ _ h => ⟨h.1, h.2.symm⟩))))
          go_wp2
          go_ret
          exact ⟨ret_bool (by rw [okCurve, allB_no hlt (by simp [okPt, hT])]; simp), (by repeat' (first | (with_reducible exact Below.refl _ _) | (with_reducible assumption) | (with_reducible refine Base.grow_alloc ?_ _) | (with_reducible refine Base.below_drewN ?_ _) | (with_reducible refine Below.drew ?_) | (with_reducible refine Below.setCell ?_ ?_ _) | go_size))⟩
      · have hkn : k = n := by omega
        subst hkn
        go_wp2
        go_ret
        exact ⟨ret_bool (by rw [okCurve, HALL.out]; simp [h100]), hbr⟩
  · go_enter Try.func46, Try.ntmps46
    go_wp2
    go_ret
    exact ⟨ret_bool (by simp [okCurve, h100]), Below.refl _ _⟩
set_option maxHeartbeats 2000000 in
theorem c_l08Ok (A : Option Addr) (n c : Nat) (T M : Nat → Int) (w : World) (hv : Sl w 2 A n c (f2 T M)) :
    Calls Try.prog 41 #[.slice A n c] w fun r w' => r = .returned (.bool (okCurve n T M)) ∧ Below w.heap.size w w' := by
  have hn := hv.le
  go_enter Try.func41, Try.ntmps41
  go_wp2
  go_loopw [3] (fun i wr => ∃ k : Nat, k ≤ n ∧ i = .int .i64 k ∧ Below w.heap.size w wr ∧ allB k (okPt T M) = true) (fun i _ => n - (intOf i).toNat)
  case atStart => exact ⟨0, Nat.zero_le _, rfl, Below.refl _ _, rfl⟩
  case round =>
    obtain ⟨k, hk, rfl, hbr, hall⟩ := hrel
    have HALL := Lib.hid hall
    clear hall
    by_cases hlt : k < n
    · obtain ⟨b, off, rfl, hb, hc⟩ := (hv.below hbr).at_ (by omega)
      obtain ⟨h0, h1⟩ := cells2 hc k hlt
      by_cases hT : inB (T k) 0 10000000 = true
      · by_cases hM : inB (M k) (-2000) 20000 = true
        · by_cases hk0 : 0 < k
          · have hp := (cells2 hc (k - 1) (by omega)).1
            by_cases hT2 : T (k - 1) < T k
            · clear hc
              go_wp2
              go_quiet ((first | (go_at_call 77; exact Calls.quiet_of_same ((c_l06Time _ _).mono fun _ _ h => ⟨h.1, h.2.symm⟩)) | (go_at_call 78; exact Calls.quiet_of_same ((c_l02Mag _ _).mono fun _ _ h => ⟨h.1, h.2.symm⟩))))
              go_wp2
              go_roundw
              case rel => exact ⟨k + 1, by omega, by go_num, (by repeat' (first | (with_reducible exact Below.refl _ _) | (with_reducible assumption) | (with_reducible refine Base.grow_alloc ?_ _) | (with_reducible refine Base.below_drewN ?_ _) | (with_reducible refine Below.drew ?_) | (with_reducible refine Below.setCell ?_ ?_ _) | go_size)), allB_yes HALL.out (by simp [okPt, hT, hM, hT2])⟩
              case measure => simp [intOf]; omega
            · clear hc
              go_wp2
              go_quiet ((first | (go_at_call 77; exact Calls.quiet_of_same ((c_l06Time _ _).mono fun _ _ h => ⟨h.1, h.2.symm⟩)) | (go_at_call 78; exact Calls.quiet_of_same ((c_l02Mag _ _).mono fun _ _ h => ⟨h.1, h.2.symm⟩))))
              go_wp2
              go_ret
              exact ⟨ret_bool (by rw [okCurve, allB_no hlt (by simp [okPt, hT2]; omega)]; simp), (by repeat' (first | (with_reducible exact Below.refl _ _) | (with_reducible assumption) | (with_reducible refine Base.grow_alloc ?_ _) | (with_reducible refine Base.below_drewN ?_ _) | (with_reducible refine Below.drew ?_) | (with_reducible refine Below.setCell ?_ ?_ _) | go_size))⟩
          · obtain rfl : k = 0 := by omega
            simp only [Nat.zero_mul, Nat.add_zero, Nat.zero_add] at h0 h1
            clear hc
            go_wp2
            go_quiet ((first | (go_at_call 77; exact Calls.quiet_of_same ((c_l06Time _ _).mono fun _ _ h => ⟨h.1, h.2.symm⟩)) | (go_at_call 78; exact Calls.quiet_of_same ((c_l02Mag _ _).mono fun _ _ h => ⟨h.1, h.2.symm⟩))))
            go_wp2
            go_roundw
            case rel => exact ⟨1, by omega, by go_num, (by repeat' (first | (with_reducible exact Below.refl _ _) | (with_reducible assumption) | (with_reducible refine Base.grow_alloc ?_ _) | (with_reducible refine Base.below_drewN ?_ _) | (with_reducible refine Below.drew ?_) | (with_reducible refine Below.setCell ?_ ?_ _) | go_size)), allB_yes (k := 0) rfl (by simp [okPt, hT, hM])⟩
            case measure => simp [intOf]; omega
        · clear hc
          go_wp2
          go_quiet ((first | (go_at_call 77; exact Calls.quiet_of_same ((c_l06Time _ _).mono fun _ _ h => ⟨h.1, h.2.symm⟩)) | (go_at_call 78; exact Calls.quiet_of_same ((c_l02Mag _ _).mono fun _ _ h => ⟨h.1, h.2.symm⟩))))
          go_wp2
          go_ret
          exact ⟨ret_bool (by rw [okCurve, allB_no hlt (by simp [okPt, hM])]; simp), (by repeat' (first | (with_reducible exact Below.refl _ _) | (with_reducible assumption) | (with_reducible refine Base.grow_alloc ?_ _) | (with_reducible refine Base.below_drewN ?_ _) | (with_reducible refine Below.drew ?_) | (with_reducible refine Below.setCell ?_ ?_ _) | go_size))⟩
      · clear hc
        go_wp2
        go_quiet ((first | (go_at_call 77; exact Calls.quiet_of_same ((c_l06Time _ _).mono fun _ _ h => ⟨h.1, h.2.symm⟩)) | (go_at_call 78; exact Calls.quiet_of_same ((c_l02Mag _ _).mono fun _ _ h => ⟨h.1, h.2.symm⟩))))
        go_wp2
        go_ret
        exact ⟨ret_bool (by rw [okCurve, allB_no hlt (by simp [okPt, hT])]; simp), (by repeat' (first | (with_reducible exact Below.refl _ _) | (with_reducible assumption) | (with_reducible refine Base.grow_alloc ?_ _) | (with_reducible refine Base.below_drewN ?_ _) | (with_reducible refine Below.drew ?_) | (with_reducible refine Below.setCell ?_ ?_ _) | go_size))⟩
    · have hkn : k = n := by omega
      subst hkn
      go_wp2
      go_ret
      exact ⟨ret_bool (by rw [okCurve, HALL.out]; simp; omega), hbr⟩
end Go.Proofs.Ytenjcdhehjdeoaa.Curve
