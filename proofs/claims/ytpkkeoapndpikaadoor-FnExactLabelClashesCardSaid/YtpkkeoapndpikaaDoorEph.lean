/- The ephemeris and the search: what the program and the reference return. -/
import Derived.Test.YtpkkeoapndpikaaDoorBase
import Derived.Test.YtpkkeoapndpikaaDoorNum
import Derived.Deep.RegionHeld3
namespace Go.Proofs.YtpkkeoapndpikaaDoor.Eph
set_option linter.unusedVariables false
set_option linter.unusedSimpArgs false
open Go.RowKit Plain Num

def okEph (e p : Int) : Bool := inB e 0 10000000 && inB p 1 1000000

theorem c_ValidEphemeris (e p : Int) (w : World) : Calls Tryd.prog 39 #[.agg #[.int .i64 e, .int .i64 p]] w fun r w' => r = .returned (.bool (okEph e p)) ∧ Below w.heap.size w w' := by
  go_enter Tryd.func39, Tryd.ntmps39
  go_wp2_with (first | (go_at_call 50; refine (c_ValidTime _ _).mono ?_; rintro e w' ⟨rfl, rfl⟩) | (go_at_call 55; refine (c_in _ _ _ _).mono ?_; rintro e w' ⟨rfl, rfl⟩))
  all_goals go_ret
  · have h : inB e 0 10000000 = true := by assumption
    exact ⟨ret_bool (by simp [okEph, h]), by go_grown⟩
  · have h : ¬ inB e 0 10000000 = true := by assumption
    exact ⟨ret_bool (by simp [okEph, h]), by go_grown⟩
theorem c_l09Ok (e p : Int) (w : World) : Calls Tryd.prog 37 #[.agg #[.int .i64 e, .int .i64 p]] w fun r w' => r = .returned (.bool (okEph e p)) ∧ Below w.heap.size w w' := by
  go_enter Tryd.func37, Tryd.ntmps37
  go_wp2_with (first | (go_at_call 68; refine (c_l06Time _ _).mono ?_; rintro e w' ⟨rfl, rfl⟩) | (go_at_call 69; refine (c_l09Period _ _).mono ?_; rintro e w' ⟨rfl, rfl⟩))
  all_goals go_ret
  · have h : inB e 0 10000000 = true := by assumption
    exact ⟨ret_bool (by simp [okEph, h]), by go_grown⟩
  · have h : ¬ inB e 0 10000000 = true := by assumption
    exact ⟨ret_bool (by simp [okEph, h]), by go_grown⟩
def okSearch (f t s : Int) : Bool := inB f 1 1000000 && inB t f 1000000 && inB s 1 1000000 && decide ((t - f) / s + 1 ≤ 500)


theorem okEph_bd {e p : Int} (h : okEph e p = true) : (0 ≤ e ∧ e ≤ 10000000) ∧ (1 ≤ p ∧ p ≤ 1000000) := by
  simp only [okEph, Bool.and_eq_true] at h
  exact ⟨inB_iff.1 h.1, inB_iff.1 h.2⟩
/-- the code of an ephemeris and a time -/
def ephCode (e p t : Int) : Int := if okEph e p = true then (if inB t 0 10000000 = true then 0 else 2) else 1
def cycV (e p t : Int) : Int := if ephCode e p t = 0 then (t - e) / p else 0
def phV (e p t : Int) : Int := if ephCode e p t = 0 then (t - e) % p else 0

theorem c_phase (e p t : Int) (w : World) (b1 : 0 ≤ e ∧ e ≤ 10000000) (b2 : 1 ≤ p ∧ p ≤ 1000000) (b3 : 0 ≤ t ∧ t ≤ 10000000) :
    Calls Tryd.prog 52 #[.agg #[.int .i64 e, .int .i64 p], .int .i64 t] w fun r w' => r = .returned (.int .i64 ((t - e) % p)) ∧ Below w.heap.size w w' := by
  go_enter Tryd.func52, Tryd.ntmps52
  go_wp2_with (first | (go_at_call 75; refine (c_mod _ _ _ (by omega) (by omega) (by omega) (by omega)).mono ?_; rintro e w' ⟨rfl, rfl⟩))
  go_ret
  exact ⟨rfl, (by repeat' (first | (with_reducible exact Below.refl _ _) | (with_reducible assumption) | (with_reducible refine Base.grow_alloc ?_ _) | (with_reducible refine Base.below_drewN ?_ _) | (with_reducible refine Below.drew ?_) | (with_reducible refine Below.setCell ?_ ?_ _) | go_size))⟩
theorem c_l09Cycle (e p t : Int) (w : World) (b1 : 0 ≤ e ∧ e ≤ 10000000) (b2 : 1 ≤ p ∧ p ≤ 1000000) (b3 : 0 ≤ t ∧ t ≤ 10000000) :
    Calls Tryd.prog 74 #[.agg #[.int .i64 e, .int .i64 p], .int .i64 t] w fun r w' => r = .returned (.int .i64 ((t - e) / p)) ∧ Below w.heap.size w w' := by
  go_enter Tryd.func74, Tryd.ntmps74
  go_wp2_with (first | (go_at_call 82; refine (c_l02Floor _ _ _ (by omega) (by omega) (by omega)).mono ?_; rintro e w' ⟨rfl, rfl⟩))
  go_ret
  exact ⟨rfl, (by repeat' (first | (with_reducible exact Below.refl _ _) | (with_reducible assumption) | (with_reducible refine Base.grow_alloc ?_ _) | (with_reducible refine Base.below_drewN ?_ _) | (with_reducible refine Below.drew ?_) | (with_reducible refine Below.setCell ?_ ?_ _) | go_size))⟩
theorem c_l09Phase (e p t : Int) (w : World) (b1 : 0 ≤ e ∧ e ≤ 10000000) (b2 : 1 ≤ p ∧ p ≤ 1000000) (b3 : 0 ≤ t ∧ t ≤ 10000000) :
    Calls Tryd.prog 49 #[.agg #[.int .i64 e, .int .i64 p], .int .i64 t] w fun r w' => r = .returned (.int .i64 ((t - e) % p)) ∧ Below w.heap.size w w' := by
  have e1 := Int.mul_ediv_add_emod (t - e) p
  have h3 := Int.emod_nonneg (t - e) (by omega : p ≠ 0)
  have h4 := Int.emod_lt_of_pos (t - e) (show 0 < p by omega)
  have h5 : (t - e) / p * p = t - e - (t - e) % p := by rw [Int.mul_comm]; omega
  have h6 : -30000000 ≤ (t - e) / p * p := by omega
  have h7 : (t - e) / p * p ≤ 30000000 := by omega
  have H := Lib.hid h5
  clear e1 h5
  go_enter Tryd.func49, Tryd.ntmps49
  go_wp2
  go_region_held3 (fun w' => w'.cell? ⟨w.heap.size, 0, none⟩ = some (.int .i64 e) ∧ w'.cell? ⟨w.heap.size, 1, none⟩ = some (.int .i64 p) ∧ Below w.heap.size w w')
    ((first | exact ⟨by simp, by simp, (by repeat' (first | (with_reducible exact Below.refl _ _) | (with_reducible assumption) | (with_reducible refine Base.grow_alloc ?_ _) | (with_reducible refine Base.below_drewN ?_ _) | (with_reducible refine Below.drew ?_) | (with_reducible refine Below.setCell ?_ ?_ _) | go_size))⟩ | exact ⟨((Base.bcell hb1).1 _ _ (by simp)).trans (by simp), ((Base.bcell hb1).1 _ _ (by simp)).trans (by simp), (by repeat' (first | (with_reducible exact Below.refl _ _) | (with_reducible assumption) | (with_reducible refine Base.via hb1 ?_) | (with_reducible refine Base.grow_alloc ?_ _) | (with_reducible refine Base.below_drewN ?_ _) | (with_reducible refine Below.drew ?_) | (with_reducible refine Below.setCell ?_ ?_ _) | go_size))⟩))
    (first | (go_at_call 74; refine (c_l09Cycle _ _ _ _ b1 b2 b3).mono ?_; rintro e w1 ⟨rfl, hb1⟩))
  go_wp2
  go_ret
  exact ⟨ret_int (by rw [IntWalk.i64_in (t - e) (by omega), IntWalk.i64_in ((t - e) / p * p) (by omega), IntWalk.i64_in _ (by omega), H.out]; omega), (by repeat' (first | (with_reducible exact Below.refl _ _) | (with_reducible assumption) | (with_reducible refine Base.via hb1 ?_) | (with_reducible refine Base.grow_alloc ?_ _) | (with_reducible refine Base.below_drewN ?_ _) | (with_reducible refine Below.drew ?_) | (with_reducible refine Below.setCell ?_ ?_ _) | go_size))⟩
theorem c_l09Code (e p t : Int) (w : World) : Calls Tryd.prog 47 #[.agg #[.int .i64 e, .int .i64 p], .int .i64 t] w fun r w' => r = .returned (.int .i64 (ephCode e p t)) ∧ Below w.heap.size w w' := by
  by_cases h1 : okEph e p = true
  · by_cases h2 : inB t 0 10000000 = true
    · go_enter Tryd.func47, Tryd.ntmps47
      go_wp2_with (first | (go_at_call 37; refine (c_l09Ok _ _ _).mono ?_; rintro e w1 ⟨rfl, hb1⟩; obtain ⟨chb1, fhb1⟩ := Base.bcell hb1; have zhb1 := (hb1).size; (try simp at zhb1); (try have yhb1 : w.heap.size < (w1).heap.size := by omega)) | (go_at_call 68; refine (c_l06Time _ _).mono ?_; rintro e w' ⟨rfl, rfl⟩))
      go_ret
      exact ⟨ret_int (by simp [ephCode, h1, h2]), (by repeat' (first | (with_reducible exact Below.refl _ _) | (with_reducible assumption) | (with_reducible refine Base.via hb1 ?_) | (with_reducible refine Base.grow_alloc ?_ _) | (with_reducible refine Base.below_drewN ?_ _) | (with_reducible refine Below.drew ?_) | (with_reducible refine Below.setCell ?_ ?_ _) | go_size))⟩
    · go_enter Tryd.func47, Tryd.ntmps47
      go_wp2_with (first | (go_at_call 37; refine (c_l09Ok _ _ _).mono ?_; rintro e w1 ⟨rfl, hb1⟩; obtain ⟨chb1, fhb1⟩ := Base.bcell hb1; have zhb1 := (hb1).size; (try simp at zhb1); (try have yhb1 : w.heap.size < (w1).heap.size := by omega)) | (go_at_call 68; refine (c_l06Time _ _).mono ?_; rintro e w' ⟨rfl, rfl⟩))
      go_ret
      exact ⟨ret_int (by simp [ephCode, h1, h2]), (by repeat' (first | (with_reducible exact Below.refl _ _) | (with_reducible assumption) | (with_reducible refine Base.via hb1 ?_) | (with_reducible refine Base.grow_alloc ?_ _) | (with_reducible refine Base.below_drewN ?_ _) | (with_reducible refine Below.drew ?_) | (with_reducible refine Below.setCell ?_ ?_ _) | go_size))⟩
  · go_enter Tryd.func47, Tryd.ntmps47
    go_wp2_with (first | (go_at_call 37; refine (c_l09Ok _ _ _).mono ?_; rintro e w1 ⟨rfl, hb1⟩; obtain ⟨chb1, fhb1⟩ := Base.bcell hb1; have zhb1 := (hb1).size; (try simp at zhb1); (try have yhb1 : w.heap.size < (w1).heap.size := by omega)))
    go_ret
    exact ⟨ret_int (by simp [ephCode, h1]), (by repeat' (first | (with_reducible exact Below.refl _ _) | (with_reducible assumption) | (with_reducible refine Base.via hb1 ?_) | (with_reducible refine Base.grow_alloc ?_ _) | (with_reducible refine Base.below_drewN ?_ _) | (with_reducible refine Below.drew ?_) | (with_reducible refine Below.setCell ?_ ?_ _) | go_size))⟩
theorem ret_pair {k l : IntKind} {a b c d : Int} (h : a = c) (h' : b = d) : Ending.returned (.tuple #[.int k a, .int l b]) = .returned (.tuple #[.int k c, .int l d]) := by rw [h, h']
theorem ephCode_cases (e p t : Int) : (okEph e p = true ∧ inB t 0 10000000 = true ∧ ephCode e p t = 0) ∨ (okEph e p = true ∧ ¬ inB t 0 10000000 = true ∧ ephCode e p t = 2) ∨ (¬ okEph e p = true ∧ ephCode e p t = 1) := by
  unfold ephCode
  by_cases h1 : okEph e p = true <;> by_cases h2 : inB t 0 10000000 = true <;> simp [h1, h2]
end Go.Proofs.YtpkkeoapndpikaaDoor.Eph
