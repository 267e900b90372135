/- What the program's small functions on numbers return. -/
import Derived.Test.YthojfmlnnclghaaDoorPlain
import Derived.Test.YthojfmlnnclghaaDoorRows
import Derived.Outline
import Derived.Handy
namespace Go.Proofs.YthojfmlnnclghaaDoor.Num
set_option linter.unusedVariables false
set_option linter.unusedSimpArgs false
open Go.RowKit Plain

theorem c_in (n a b : Int) (w : World) : Calls Tryd.prog 47 #[.int .i64 n, .int .i64 a, .int .i64 b] w fun e w' => e = .returned (.bool (inB n a b)) ∧ w = w' := by
  go_enter Tryd.func47, Tryd.ntmps47
  go_wp2
  all_goals go_ret
  · have h : a ≤ n := by assumption
    exact ⟨ret_bool (by simp [inB, h]), rfl⟩
  · have h : n < a := by assumption
    exact ⟨ret_bool (by rw [inB_lo h]), rfl⟩
theorem c_l00In (n a b : Int) (w : World) : Calls Tryd.prog 44 #[.int .i64 n, .int .i64 a, .int .i64 b] w fun e w' => e = .returned (.bool (inB n a b)) ∧ w = w' := by
  go_enter Tryd.func44, Tryd.ntmps44
  go_wp2
  all_goals go_ret
  · have h : a ≤ n := by assumption
    exact ⟨ret_bool (by simp [inB, h]), rfl⟩
  · have h : n < a := by assumption
    exact ⟨ret_bool (by rw [inB_lo h]), rfl⟩
theorem c_ValidTime (n : Int) (w : World) : Calls Tryd.prog 33 #[.int .i64 n] w fun e w' => e = .returned (.bool (inB n 0 10000000)) ∧ w = w' := by
  go_enter Tryd.func33, Tryd.ntmps33
  go_wp2_with (go_at_call 47; refine (c_in _ _ _ _).mono ?_; rintro e w' ⟨rfl, rfl⟩)
  go_ret
  exact ⟨rfl, rfl⟩
theorem c_ValidMag (n : Int) (w : World) : Calls Tryd.prog 35 #[.int .i64 n] w fun e w' => e = .returned (.bool (inB n (-2000) 20000)) ∧ w = w' := by
  go_enter Tryd.func35, Tryd.ntmps35
  go_wp2_with (go_at_call 47; refine (c_in _ _ _ _).mono ?_; rintro e w' ⟨rfl, rfl⟩)
  go_ret
  exact ⟨rfl, rfl⟩
theorem c_l02Mag (n : Int) (w : World) : Calls Tryd.prog 31 #[.int .i64 n] w fun e w' => e = .returned (.bool (inB n (-2000) 20000)) ∧ w = w' := by
  go_enter Tryd.func31, Tryd.ntmps31
  go_wp2_with (go_at_call 44; refine (c_l00In _ _ _ _).mono ?_; rintro e w' ⟨rfl, rfl⟩)
  go_ret
  exact ⟨rfl, rfl⟩
theorem c_l06Time (n : Int) (w : World) : Calls Tryd.prog 29 #[.int .i64 n] w fun e w' => e = .returned (.bool (inB n 0 10000000)) ∧ w = w' := by
  go_enter Tryd.func29, Tryd.ntmps29
  go_wp2_with (go_at_call 44; refine (c_l00In _ _ _ _).mono ?_; rintro e w' ⟨rfl, rfl⟩)
  go_ret
  exact ⟨rfl, rfl⟩
theorem c_abs (a : Int) (w : World) (ha : -1000000000000000000 ≤ a) (_ha' : a ≤ 1000000000000000000) :
    Calls Tryd.prog 40 #[.int .i64 a] w fun e w' => e = .returned (.int .i64 (absI a)) ∧ w = w' := by
  by_cases h : a < 0
  · go_enter Tryd.func40, Tryd.ntmps40
    go_wp2
    go_ret
    exact ⟨ret_int (by rw [absI, if_pos h]), rfl⟩
  · go_enter Tryd.func40, Tryd.ntmps40
    go_wp2
    go_ret
    exact ⟨ret_int (by rw [absI, if_neg (by omega)]), rfl⟩
end Go.Proofs.YthojfmlnnclghaaDoor.Num
