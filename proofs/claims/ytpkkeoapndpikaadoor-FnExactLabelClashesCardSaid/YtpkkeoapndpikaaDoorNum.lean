/- What the program's small functions on numbers return. -/
import Derived.Test.YtpkkeoapndpikaaDoorPlain
import Derived.Test.YtpkkeoapndpikaaDoorRows
import Derived.Outline
import Derived.Handy
namespace Go.Proofs.YtpkkeoapndpikaaDoor.Num
set_option linter.unusedVariables false
set_option linter.unusedSimpArgs false
open Go.RowKit Plain

theorem c_in (n a b : Int) (w : World) : Calls Tryd.prog 55 #[.int .i64 n, .int .i64 a, .int .i64 b] w fun e w' => e = .returned (.bool (inB n a b)) ∧ w = w' := by
  go_enter Tryd.func55, Tryd.ntmps55
  go_wp2
  all_goals go_ret
  · have h : a ≤ n := by assumption
    exact ⟨ret_bool (by simp [inB, h]), rfl⟩
  · have h : n < a := by assumption
    exact ⟨ret_bool (by rw [inB_lo h]), rfl⟩
theorem c_l00In (n a b : Int) (w : World) : Calls Tryd.prog 53 #[.int .i64 n, .int .i64 a, .int .i64 b] w fun e w' => e = .returned (.bool (inB n a b)) ∧ w = w' := by
  go_enter Tryd.func53, Tryd.ntmps53
  go_wp2
  all_goals go_ret
  · have h : a ≤ n := by assumption
    exact ⟨ret_bool (by simp [inB, h]), rfl⟩
  · have h : n < a := by assumption
    exact ⟨ret_bool (by rw [inB_lo h]), rfl⟩
theorem c_ValidTime (n : Int) (w : World) : Calls Tryd.prog 50 #[.int .i64 n] w fun e w' => e = .returned (.bool (inB n 0 10000000)) ∧ w = w' := by
  go_enter Tryd.func50, Tryd.ntmps50
  go_wp2_with (go_at_call 55; refine (c_in _ _ _ _).mono ?_; rintro e w' ⟨rfl, rfl⟩)
  go_ret
  exact ⟨rfl, rfl⟩
theorem c_ValidMag (n : Int) (w : World) : Calls Tryd.prog 43 #[.int .i64 n] w fun e w' => e = .returned (.bool (inB n (-2000) 20000)) ∧ w = w' := by
  go_enter Tryd.func43, Tryd.ntmps43
  go_wp2_with (go_at_call 55; refine (c_in _ _ _ _).mono ?_; rintro e w' ⟨rfl, rfl⟩)
  go_ret
  exact ⟨rfl, rfl⟩
theorem c_l02Mag (n : Int) (w : World) : Calls Tryd.prog 41 #[.int .i64 n] w fun e w' => e = .returned (.bool (inB n (-2000) 20000)) ∧ w = w' := by
  go_enter Tryd.func41, Tryd.ntmps41
  go_wp2_with (go_at_call 53; refine (c_l00In _ _ _ _).mono ?_; rintro e w' ⟨rfl, rfl⟩)
  go_ret
  exact ⟨rfl, rfl⟩
theorem c_l06Time (n : Int) (w : World) : Calls Tryd.prog 68 #[.int .i64 n] w fun e w' => e = .returned (.bool (inB n 0 10000000)) ∧ w = w' := by
  go_enter Tryd.func68, Tryd.ntmps68
  go_wp2_with (go_at_call 53; refine (c_l00In _ _ _ _).mono ?_; rintro e w' ⟨rfl, rfl⟩)
  go_ret
  exact ⟨rfl, rfl⟩
theorem c_l07Place (n : Int) (w : World) : Calls Tryd.prog 73 #[.int .i64 n] w fun e w' => e = .returned (.bool (inB n 0 2000)) ∧ w = w' := by
  go_enter Tryd.func73, Tryd.ntmps73
  go_wp2_with (go_at_call 53; refine (c_l00In _ _ _ _).mono ?_; rintro e w' ⟨rfl, rfl⟩)
  go_ret
  exact ⟨rfl, rfl⟩
theorem c_l09Period (n : Int) (w : World) : Calls Tryd.prog 69 #[.int .i64 n] w fun e w' => e = .returned (.bool (inB n 1 1000000)) ∧ w = w' := by
  go_enter Tryd.func69, Tryd.ntmps69
  go_wp2_with (go_at_call 53; refine (c_l00In _ _ _ _).mono ?_; rintro e w' ⟨rfl, rfl⟩)
  go_ret
  exact ⟨rfl, rfl⟩
theorem c_floorDiv (a b : Int) (w : World) (ha : -1000000000000000000 ≤ a) (ha' : a ≤ 1000000000000000000) (hb : 1 ≤ b) :
    Calls Tryd.prog 72 #[.int .i64 a, .int .i64 b] w fun e w' => e = .returned (.int .i64 (a / b)) ∧ w = w' := by
  obtain ⟨t1, t2⟩ := tdiv_bd a b hb ha ha'
  rcases (Int.lt_or_le a 0) with hneg | hpos
  · go_enter Tryd.func72, Tryd.ntmps72
    go_wp2
    all_goals go_ret
    · have h : a.tmod b < 0 := by assumption
      exact ⟨ret_int (fdiv_neg a b (by omega) h), rfl⟩
    · have h : 0 ≤ a.tmod b := by assumption
      exact ⟨ret_int (fdiv_nonneg a b (by omega) h), rfl⟩
  · have hm : 0 ≤ a % b := Int.emod_nonneg a (by omega)
    go_enter Tryd.func72, Tryd.ntmps72
    go_wp2
    go_ret
    exact ⟨ret_int (Int.tdiv_eq_ediv_of_nonneg hpos), rfl⟩
theorem c_l02Floor (a b : Int) (w : World) (ha : -1000000000000000000 ≤ a) (ha' : a ≤ 1000000000000000000) (hb : 1 ≤ b) :
    Calls Tryd.prog 82 #[.int .i64 a, .int .i64 b] w fun e w' => e = .returned (.int .i64 (a / b)) ∧ w = w' := by
  obtain ⟨t1, t2⟩ := tdiv_bd a b hb ha ha'
  rcases (Int.lt_or_le a 0) with hneg | hpos
  · go_enter Tryd.func82, Tryd.ntmps82
    go_wp2
    all_goals go_ret
    · have h : a.tmod b < 0 := by assumption
      exact ⟨ret_int (fdiv_neg a b (by omega) h), rfl⟩
    · have h : 0 ≤ a.tmod b := by assumption
      exact ⟨ret_int (fdiv_nonneg a b (by omega) h), rfl⟩
  · have hm : 0 ≤ a % b := Int.emod_nonneg a (by omega)
    go_enter Tryd.func82, Tryd.ntmps82
    go_wp2
    go_ret
    exact ⟨ret_int (Int.tdiv_eq_ediv_of_nonneg hpos), rfl⟩
theorem c_mod (a b : Int) (w : World) (ha : -1000000000000000000 ≤ a) (ha' : a ≤ 1000000000000000000) (hb : 1 ≤ b) (hb' : b ≤ 1000000000000000000) :
    Calls Tryd.prog 75 #[.int .i64 a, .int .i64 b] w fun e w' => e = .returned (.int .i64 (a % b)) ∧ w = w' := by
  have e1 := Int.mul_ediv_add_emod a b
  have h3 := Int.emod_nonneg a (by omega : b ≠ 0)
  have h4 := Int.emod_lt_of_pos a (show 0 < b by omega)
  have h5 : a / b * b = a - a % b := by rw [Int.mul_comm]; omega
  have h6 : -2000000000000000000 ≤ a / b * b := by omega
  have h7 : a / b * b ≤ 2000000000000000000 := by omega
  have H := Lib.hid h5
  clear e1 h5
  go_enter Tryd.func75, Tryd.ntmps75
  go_wp2_with (go_at_call 72; refine (c_floorDiv _ _ _ ha ha' hb).mono ?_; rintro e w' ⟨rfl, rfl⟩)
  go_ret
  exact ⟨ret_int (by rw [H.out]; omega), rfl⟩
end Go.Proofs.YtpkkeoapndpikaaDoor.Num
