/- What the program's small functions on numbers return. -/
import Derived.Test.YthojfmlnnclghaaPlain
import Derived.Test.YthojfmlnnclghaaRows
import Derived.Outline
import Derived.Handy
namespace Go.Proofs.Ythojfmlnnclghaa.Num
set_option linter.unusedVariables false
set_option linter.unusedSimpArgs false
open Go.RowKit Plain

theorem c_in (n a b : Int) (w : World) : Calls Try.prog 43 #[.int .i64 n, .int .i64 a, .int .i64 b] w fun e w' => e = .returned (.bool (inB n a b)) ∧ w = w' := by
  go_enter Try.func43, Try.ntmps43
  go_wp2
  all_goals go_ret
  · have h : a ≤ n := by assumption
    exact ⟨ret_bool (by simp [inB, h]), rfl⟩
  · have h : n < a := by assumption
    exact ⟨ret_bool (by rw [inB_lo h]), rfl⟩
theorem c_l00In (n a b : Int) (w : World) : Calls Try.prog 41 #[.int .i64 n, .int .i64 a, .int .i64 b] w fun e w' => e = .returned (.bool (inB n a b)) ∧ w = w' := by
  go_enter Try.func41, Try.ntmps41
  go_wp2
  all_goals go_ret
  · have h : a ≤ n := by assumption
    exact ⟨ret_bool (by simp [inB, h]), rfl⟩
  · have h : n < a := by assumption
    exact ⟨ret_bool (by rw [inB_lo h]), rfl⟩
theorem c_ValidTime (n : Int) (w : World) : Calls Try.prog 78 #[.int .i64 n] w fun e w' => e = .returned (.bool (inB n 0 10000000)) ∧ w = w' := by
  go_enter Try.func78, Try.ntmps78
  go_wp2_with (go_at_call 43; refine (c_in _ _ _ _).mono ?_; rintro e w' ⟨rfl, rfl⟩)
  go_ret
  exact ⟨rfl, rfl⟩
theorem c_ValidMag (n : Int) (w : World) : Calls Try.prog 79 #[.int .i64 n] w fun e w' => e = .returned (.bool (inB n (-2000) 20000)) ∧ w = w' := by
  go_enter Try.func79, Try.ntmps79
  go_wp2_with (go_at_call 43; refine (c_in _ _ _ _).mono ?_; rintro e w' ⟨rfl, rfl⟩)
  go_ret
  exact ⟨rfl, rfl⟩
theorem c_l02Mag (n : Int) (w : World) : Calls Try.prog 77 #[.int .i64 n] w fun e w' => e = .returned (.bool (inB n (-2000) 20000)) ∧ w = w' := by
  go_enter Try.func77, Try.ntmps77
  go_wp2_with (go_at_call 41; refine (c_l00In _ _ _ _).mono ?_; rintro e w' ⟨rfl, rfl⟩)
  go_ret
  exact ⟨rfl, rfl⟩
theorem c_l06Time (n : Int) (w : World) : Calls Try.prog 76 #[.int .i64 n] w fun e w' => e = .returned (.bool (inB n 0 10000000)) ∧ w = w' := by
  go_enter Try.func76, Try.ntmps76
  go_wp2_with (go_at_call 41; refine (c_l00In _ _ _ _).mono ?_; rintro e w' ⟨rfl, rfl⟩)
  go_ret
  exact ⟨rfl, rfl⟩
theorem c_floorDiv (a b : Int) (w : World) (ha : -1000000000000000000 ≤ a) (ha' : a ≤ 1000000000000000000) (hb : 1 ≤ b) :
    Calls Try.prog 88 #[.int .i64 a, .int .i64 b] w fun e w' => e = .returned (.int .i64 (a / b)) ∧ w = w' := by
  obtain ⟨t1, t2⟩ := tdiv_bd a b hb ha ha'
  rcases (Int.lt_or_le a 0) with hneg | hpos
  · go_enter Try.func88, Try.ntmps88
    go_wp2
    all_goals go_ret
    · have h : a.tmod b < 0 := by assumption
      exact ⟨ret_int (fdiv_neg a b (by omega) h), rfl⟩
    · have h : 0 ≤ a.tmod b := by assumption
      exact ⟨ret_int (fdiv_nonneg a b (by omega) h), rfl⟩
  · have hm : 0 ≤ a % b := Int.emod_nonneg a (by omega)
    go_enter Try.func88, Try.ntmps88
    go_wp2
    go_ret
    exact ⟨ret_int (Int.tdiv_eq_ediv_of_nonneg hpos), rfl⟩
theorem c_l02Floor (a b : Int) (w : World) (ha : -1000000000000000000 ≤ a) (ha' : a ≤ 1000000000000000000) (hb : 1 ≤ b) :
    Calls Try.prog 87 #[.int .i64 a, .int .i64 b] w fun e w' => e = .returned (.int .i64 (a / b)) ∧ w = w' := by
  obtain ⟨t1, t2⟩ := tdiv_bd a b hb ha ha'
  rcases (Int.lt_or_le a 0) with hneg | hpos
  · go_enter Try.func87, Try.ntmps87
    go_wp2
    all_goals go_ret
    · have h : a.tmod b < 0 := by assumption
      exact ⟨ret_int (fdiv_neg a b (by omega) h), rfl⟩
    · have h : 0 ≤ a.tmod b := by assumption
      exact ⟨ret_int (fdiv_nonneg a b (by omega) h), rfl⟩
  · have hm : 0 ≤ a % b := Int.emod_nonneg a (by omega)
    go_enter Try.func87, Try.ntmps87
    go_wp2
    go_ret
    exact ⟨ret_int (Int.tdiv_eq_ediv_of_nonneg hpos), rfl⟩
theorem c_abs (a : Int) (w : World) (ha : -1000000000000000000 ≤ a) (_ha' : a ≤ 1000000000000000000) :
    Calls Try.prog 46 #[.int .i64 a] w fun e w' => e = .returned (.int .i64 (absI a)) ∧ w = w' := by
  by_cases h : a < 0
  · go_enter Try.func46, Try.ntmps46
    go_wp2
    go_ret
    exact ⟨ret_int (by rw [absI, if_pos h]), rfl⟩
  · go_enter Try.func46, Try.ntmps46
    go_wp2
    go_ret
    exact ⟨ret_int (by rw [absI, if_neg (by omega)]), rfl⟩
theorem c_l02Size (a : Int) (w : World) (ha : -1000000000000000000 ≤ a) (_ha' : a ≤ 1000000000000000000) :
    Calls Try.prog 69 #[.int .i64 a] w fun e w' => e = .returned (.int .i64 (absI a)) ∧ w = w' := by
  by_cases h : a < 0
  · go_enter Try.func69, Try.ntmps69
    go_wp2
    go_ret
    exact ⟨ret_int (by rw [absI, if_pos h]), rfl⟩
  · go_enter Try.func69, Try.ntmps69
    go_wp2
    go_ret
    exact ⟨ret_int (by rw [absI, if_neg (by omega)]), rfl⟩
end Go.Proofs.Ythojfmlnnclghaa.Num
