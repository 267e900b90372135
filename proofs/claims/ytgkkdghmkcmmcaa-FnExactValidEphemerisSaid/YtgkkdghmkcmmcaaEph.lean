/- The ephemeris and the search: what the program and the reference return. -/
import Derived.Test.YtgkkdghmkcmmcaaBase
import Derived.Test.YtgkkdghmkcmmcaaNum
namespace Go.Proofs.Ytgkkdghmkcmmcaa.Eph
open Go.RowKit Plain Num

def okEph (e p : Int) : Bool := inB e 0 10000000 && inB p 1 1000000

theorem c_ValidEphemeris (e p : Int) (w : World) : Calls Try.prog 17 #[.agg #[.int .i64 e, .int .i64 p]] w fun r w' => r = .returned (.bool (okEph e p)) ∧ Below w.heap.size w w' := by
  go_enter Try.func17, Try.ntmps17
  go_wp2_with (first | (go_at_call 52; refine (c_ValidTime _ _).mono ?_; rintro e w' ⟨rfl, rfl⟩) | (go_at_call 53; refine (c_in _ _ _ _).mono ?_; rintro e w' ⟨rfl, rfl⟩))
  all_goals go_ret
  · have h : inB e 0 10000000 = true := by assumption
    exact ⟨ret_bool (by simp [okEph, h]), by go_grown⟩
  · have h : ¬ inB e 0 10000000 = true := by assumption
    exact ⟨ret_bool (by simp [okEph, h]), by go_grown⟩
theorem c_l09Ok (e p : Int) (w : World) : Calls Try.prog 51 #[.agg #[.int .i64 e, .int .i64 p]] w fun r w' => r = .returned (.bool (okEph e p)) ∧ Below w.heap.size w w' := by
  go_enter Try.func51, Try.ntmps51
  go_wp2_with (first | (go_at_call 78; refine (c_l06Time _ _).mono ?_; rintro e w' ⟨rfl, rfl⟩) | (go_at_call 79; refine (c_l09Period _ _).mono ?_; rintro e w' ⟨rfl, rfl⟩))
  all_goals go_ret
  · have h : inB e 0 10000000 = true := by assumption
    exact ⟨ret_bool (by simp [okEph, h]), by go_grown⟩
  · have h : ¬ inB e 0 10000000 = true := by assumption
    exact ⟨ret_bool (by simp [okEph, h]), by go_grown⟩
theorem c_specValidEphemeris (e p : Int) (w : World) : Calls Try.prog 15 #[.agg #[.int .i64 e, .int .i64 p]] w fun r w' => r = .returned (.bool (okEph e p)) ∧ Below w.heap.size w w' := by
  go_enter Try.func15, Try.ntmps15
  go_wp2_with (first | (go_at_call 51; refine (c_l09Ok _ _ _).mono ?_; rintro e w1 ⟨rfl, hb1⟩; obtain ⟨chb1, fhb1⟩ := Base.bcell hb1; have zhb1 := (hb1).size; simp at zhb1))
  go_ret
  exact ⟨rfl, (by repeat' (first | (with_reducible exact Below.refl _ _) | (with_reducible refine Base.via hb1 ?_) | (with_reducible refine Below.alloc ?_ ?_ _) | (with_reducible refine Base.below_drewN ?_ _) | (with_reducible refine Below.drew ?_) | (with_reducible refine Below.setCell ?_ ?_ _) | go_size))⟩
theorem walk_ValidEphemeris (e p : Int) (w : World) : Calls Try.prog 3 #[.agg #[.int .i64 e, .int .i64 p]] w fun r w' => r = .returned (.bool true) ∧ Below w.heap.size w w' := by
  go_enter Try.func3, Try.ntmps3
  go_wp2_with (first | (go_at_call 15; refine (c_specValidEphemeris _ _ _).mono ?_; rintro e w1 ⟨rfl, hb1⟩; obtain ⟨chb1, fhb1⟩ := Base.bcell hb1; have zhb1 := (hb1).size; simp at zhb1) | (go_at_call 17; refine (c_ValidEphemeris _ _ _).mono ?_; rintro e w2 ⟨rfl, hb2⟩; obtain ⟨chb2, fhb2⟩ := Base.bcell hb2; have zhb2 := (hb2).size; simp at zhb2) | go_in)
  go_ret
  exact ⟨rfl, (by repeat' (first | (with_reducible exact Below.refl _ _) | (with_reducible refine Base.via hb1 ?_) | (with_reducible refine Base.via hb2 ?_) | (with_reducible refine Below.alloc ?_ ?_ _) | (with_reducible refine Base.below_drewN ?_ _) | (with_reducible refine Below.drew ?_) | (with_reducible refine Below.setCell ?_ ?_ _) | go_size))⟩
end Go.Proofs.Ytgkkdghmkcmmcaa.Eph
