/- Two lists of structs, compared: slices.Equal, and the reference's loop. -/
import Derived.Test.YtgkkdghmkcmmcaaView
import Derived.Test.YtgkkdghmkcmmcaaNum
import Derived.BigQuiet
import Derived.Deep.QuietTactic
import Derived.Laws.StructEq
namespace Go.Proofs.Ytgkkdghmkcmmcaa.Same
set_option linter.unusedVariables false
set_option linter.unusedSimpArgs false
open Go.RowKit Plain Num View

def eqb2 (a b c d : Int) : Bool := a == c && b == d
def eqb3 (a b c d e f : Int) : Bool := a == d && b == e && c == f
def same2 (n m : Nat) (T M T' M' : Nat → Int) : Bool := decide (n = m) && allB n (fun i => eqb2 (T i) (M i) (T' i) (M' i))
def same3 (n m : Nat) (X Y M X' Y' M' : Nat → Int) : Bool := decide (n = m) && allB n (fun i => eqb3 (X i) (Y i) (M i) (X' i) (Y' i) (M' i))

theorem neqPoint (x0 x1 y0 y1 : Int) (w : World) : (binOp .neq 69 (.agg #[.int .i64 x0, .int .i64 x1]) (.agg #[.int .i64 y0, .int .i64 y1])).run Try.prog w = .ok (.bool (!eqb2 x0 x1 y0 y1)) w := by
  have u := Try.underlying2
  have a := Try.isAgg2
  have z := Try.sizeOf2
  have hS : Try.prog.underlying 69 = some (.struct (Try.prog.fieldsOf 69)) := by kernel_rfl
  have hp : Try.prog.stoodInHeld 69 = false := by kernel_rfl
  rw [run_neq_struct, show (10000 : Nat) = 9999 + 1 from rfl, run_equalIn_agg w 9999 69 _ _ hS hp]
  simp only [Program.fieldsOf, Try.underlying69]
  go_simp
  by_cases h0 : x0 = y0 <;> by_cases h1 : x1 = y1 <;> simp [eqb2, *]
set_option maxHeartbeats 800000 in
theorem c_EqualPoint (A : Option Addr) (n c : Nat) (T M : Nat → Int) (B : Option Addr) (m d : Nat) (T' M' : Nat → Int) (w : World) (hv : Sl w 2 A n c (f2 T M)) (hu : Sl w 2 B m d (f2 T' M')) :
    Calls Try.prog 61 #[.slice A n c, .slice B m d] w fun e w' => e = .returned (.bool (same2 n m T M T' M')) ∧ Below w.heap.size w w' := by
  have hn := hv.le
  have hm := hu.le
  have hne := neqPoint
  by_cases hnm : n = m
  · subst hnm
    go_enter Try.func61, Try.ntmps61
    go_wp2
    go_loopw [13] (fun i wr => ∃ k : Nat, k ≤ n ∧ i = .int .i64 k ∧ Below w.heap.size w wr ∧ allB k (fun i => eqb2 (T i) (M i) (T' i) (M' i)) = true) (fun i _ => n - (intOf i).toNat)
    case atStart => exact ⟨0, Nat.zero_le _, rfl, Below.refl _ _, rfl⟩
    case round =>
      obtain ⟨k, hk, rfl, hbr, hall⟩ := hrel
      have HALL := Lib.hid hall
      clear hall
      by_cases hlt : k < n
      · obtain ⟨b, off, rfl, hb, hc⟩ := (hv.below hbr).at_ (by omega)
        obtain ⟨b', off', rfl, hb', hc'⟩ := (hu.below hbr).at_ (by omega)
        obtain ⟨h0, h1⟩ := cells2 hc k hlt
        obtain ⟨g0, g1⟩ := cells2 hc' k hlt
        clear hc hc'
        by_cases hq : eqb2 (T k) (M k) (T' k) (M' k) = true
        · go_wp2
          go_quiet (fail)
          go_wp2
          go_roundw
          case rel => exact ⟨k + 1, by omega, by go_num, (by repeat' (first | (with_reducible exact Below.refl _ _) | (with_reducible assumption) | (with_reducible refine Base.grow_alloc ?_ _) | (with_reducible refine Base.below_drewN ?_ _) | (with_reducible refine Below.drew ?_) | (with_reducible refine Below.setCell ?_ ?_ _) | go_size)), allB_yes HALL.out hq⟩
          case measure => simp [intOf]; omega
        · have hq' : eqb2 (T k) (M k) (T' k) (M' k) = false := by simpa using hq
          go_wp2
          go_quiet (fail)
          go_wp2
          go_ret
          exact ⟨ret_bool (by rw [same2, allB_no hlt hq']; simp), (by repeat' (first | (with_reducible exact Below.refl _ _) | (with_reducible assumption) | (with_reducible refine Base.grow_alloc ?_ _) | (with_reducible refine Base.below_drewN ?_ _) | (with_reducible refine Below.drew ?_) | (with_reducible refine Below.setCell ?_ ?_ _) | go_size))⟩
      · have hkn : k = n := by omega
        subst hkn
        go_wp2
        go_ret
        exact ⟨ret_bool (by rw [same2, HALL.out]; simp), hbr⟩
  · have hnm' : ((n : Int) == (m : Int)) = false := by simp; omega
    have hnm2 : ((n : Int) != (m : Int)) = true := by simp; omega
    go_enter Try.func61, Try.ntmps61
    go_wp2
    go_ret
    exact ⟨ret_bool (by simp [same2, hnm]), Below.refl _ _⟩
set_option maxHeartbeats 800000 in
theorem c_specSameCurve (A : Option Addr) (n c : Nat) (T M : Nat → Int) (B : Option Addr) (m d : Nat) (T' M' : Nat → Int) (w : World) (hv : Sl w 2 A n c (f2 T M)) (hu : Sl w 2 B m d (f2 T' M')) :
    Calls Try.prog 26 #[.slice A n c, .slice B m d] w fun e w' => e = .returned (.bool (same2 n m T M T' M')) ∧ Below w.heap.size w w' := by
  have hn := hv.le
  have hm := hu.le
  have hne := neqPoint
  by_cases hnm : n = m
  · subst hnm
    go_enter Try.func26, Try.ntmps26
    go_wp2
    go_loopw [5] (fun i wr => ∃ k : Nat, k ≤ n ∧ i = .int .i64 k ∧ Below w.heap.size w wr ∧ allB k (fun i => eqb2 (T i) (M i) (T' i) (M' i)) = true) (fun i _ => n - (intOf i).toNat)
    case atStart => exact ⟨0, Nat.zero_le _, rfl, Below.refl _ _, rfl⟩
    case round =>
      obtain ⟨k, hk, rfl, hbr, hall⟩ := hrel
      have HALL := Lib.hid hall
      clear hall
      by_cases hlt : k < n
      · obtain ⟨b, off, rfl, hb, hc⟩ := (hv.below hbr).at_ (by omega)
        obtain ⟨b', off', rfl, hb', hc'⟩ := (hu.below hbr).at_ (by omega)
        obtain ⟨h0, h1⟩ := cells2 hc k hlt
        obtain ⟨g0, g1⟩ := cells2 hc' k hlt
        clear hc hc'
        by_cases hq : eqb2 (T k) (M k) (T' k) (M' k) = true
        · go_wp2
          go_quiet (fail)
          go_wp2
          go_roundw
          case rel => exact ⟨k + 1, by omega, by go_num, (by repeat' (first | (with_reducible exact Below.refl _ _) | (with_reducible assumption) | (with_reducible refine Base.grow_alloc ?_ _) | (with_reducible refine Base.below_drewN ?_ _) | (with_reducible refine Below.drew ?_) | (with_reducible refine Below.setCell ?_ ?_ _) | go_size)), allB_yes HALL.out hq⟩
          case measure => simp [intOf]; omega
        · have hq' : eqb2 (T k) (M k) (T' k) (M' k) = false := by simpa using hq
          go_wp2
          go_quiet (fail)
          go_wp2
          go_ret
          exact ⟨ret_bool (by rw [same2, allB_no hlt hq']; simp), (by repeat' (first | (with_reducible exact Below.refl _ _) | (with_reducible assumption) | (with_reducible refine Base.grow_alloc ?_ _) | (with_reducible refine Base.below_drewN ?_ _) | (with_reducible refine Below.drew ?_) | (with_reducible refine Below.setCell ?_ ?_ _) | go_size))⟩
      · have hkn : k = n := by omega
        subst hkn
        go_wp2
        go_ret
        exact ⟨ret_bool (by rw [same2, HALL.out]; simp), hbr⟩
  · have hnm' : ((n : Int) == (m : Int)) = false := by simp; omega
    have hnm2 : ((n : Int) != (m : Int)) = true := by simp; omega
    go_enter Try.func26, Try.ntmps26
    go_wp2
    go_ret
    exact ⟨ret_bool (by simp [same2, hnm]), Below.refl _ _⟩
theorem c_SameCurve (A : Option Addr) (n c : Nat) (T M : Nat → Int) (B : Option Addr) (m d : Nat) (T' M' : Nat → Int) (w : World) (hv : Sl w 2 A n c (f2 T M)) (hu : Sl w 2 B m d (f2 T' M')) :
    Calls Try.prog 28 #[.slice A n c, .slice B m d] w fun e w' => e = .returned (.bool (same2 n m T M T' M')) ∧ Below w.heap.size w w' := by
  go_enter Try.func28, Try.ntmps28
  go_wp2_with (first | (go_at_call 61; refine (c_EqualPoint _ _ _ T M _ _ _ T' M' _ hv hu).mono ?_; rintro e w1 ⟨rfl, hb1⟩; obtain ⟨chb1, fhb1⟩ := Base.bcell hb1; have zhb1 := (hb1).size; (try simp at zhb1); (try have yhb1 : w.heap.size < (w1).heap.size := by omega)))
  go_ret
  exact ⟨rfl, (by repeat' (first | (with_reducible exact Below.refl _ _) | (with_reducible assumption) | (with_reducible refine Base.via hb1 ?_) | (with_reducible refine Base.grow_alloc ?_ _) | (with_reducible refine Base.below_drewN ?_ _) | (with_reducible refine Below.drew ?_) | (with_reducible refine Below.setCell ?_ ?_ _) | go_size))⟩
theorem neqMark (x0 x1 x2 y0 y1 y2 : Int) (w : World) : (binOp .neq 74 (.agg #[.int .i64 x0, .int .i64 x1, .int .i64 x2]) (.agg #[.int .i64 y0, .int .i64 y1, .int .i64 y2])).run Try.prog w = .ok (.bool (!eqb3 x0 x1 x2 y0 y1 y2)) w := by
  have u := Try.underlying2
  have a := Try.isAgg2
  have z := Try.sizeOf2
  have hS : Try.prog.underlying 74 = some (.struct (Try.prog.fieldsOf 74)) := by kernel_rfl
  have hp : Try.prog.stoodInHeld 74 = false := by kernel_rfl
  rw [run_neq_struct, show (10000 : Nat) = 9999 + 1 from rfl, run_equalIn_agg w 9999 74 _ _ hS hp]
  simp only [Program.fieldsOf, Try.underlying74]
  go_simp
  by_cases h0 : x0 = y0 <;> by_cases h1 : x1 = y1 <;> by_cases h2 : x2 = y2 <;> simp [eqb3, *]
set_option maxHeartbeats 800000 in
theorem c_EqualMark (A : Option Addr) (n c : Nat) (X Y M : Nat → Int) (B : Option Addr) (m d : Nat) (X' Y' M' : Nat → Int) (w : World) (hv : Sl w 3 A n c (f3 X Y M)) (hu : Sl w 3 B m d (f3 X' Y' M')) :
    Calls Try.prog 66 #[.slice A n c, .slice B m d] w fun e w' => e = .returned (.bool (same3 n m X Y M X' Y' M')) ∧ Below w.heap.size w w' := by
  have hn := hv.le
  have hm := hu.le
  have hne := neqMark
  by_cases hnm : n = m
  · subst hnm
    go_enter Try.func66, Try.ntmps66
    go_wp2
    go_loopw [13] (fun i wr => ∃ k : Nat, k ≤ n ∧ i = .int .i64 k ∧ Below w.heap.size w wr ∧ allB k (fun i => eqb3 (X i) (Y i) (M i) (X' i) (Y' i) (M' i)) = true) (fun i _ => n - (intOf i).toNat)
    case atStart => exact ⟨0, Nat.zero_le _, rfl, Below.refl _ _, rfl⟩
    case round =>
      obtain ⟨k, hk, rfl, hbr, hall⟩ := hrel
      have HALL := Lib.hid hall
      clear hall
      by_cases hlt : k < n
      · obtain ⟨b, off, rfl, hb, hc⟩ := (hv.below hbr).at_ (by omega)
        obtain ⟨b', off', rfl, hb', hc'⟩ := (hu.below hbr).at_ (by omega)
        obtain ⟨h0, h1, h2⟩ := cells3 hc k hlt
        obtain ⟨g0, g1, g2⟩ := cells3 hc' k hlt
        clear hc hc'
        by_cases hq : eqb3 (X k) (Y k) (M k) (X' k) (Y' k) (M' k) = true
        · go_wp2
          go_quiet (fail)
          go_wp2
          go_roundw
          case rel => exact ⟨k + 1, by omega, by go_num, (by repeat' (first | (with_reducible exact Below.refl _ _) | (with_reducible assumption) | (with_reducible refine Base.grow_alloc ?_ _) | (with_reducible refine Base.below_drewN ?_ _) | (with_reducible refine Below.drew ?_) | (with_reducible refine Below.setCell ?_ ?_ _) | go_size)), allB_yes HALL.out hq⟩
          case measure => simp [intOf]; omega
        · have hq' : eqb3 (X k) (Y k) (M k) (X' k) (Y' k) (M' k) = false := by simpa using hq
          go_wp2
          go_quiet (fail)
          go_wp2
          go_ret
          exact ⟨ret_bool (by rw [same3, allB_no hlt hq']; simp), (by repeat' (first | (with_reducible exact Below.refl _ _) | (with_reducible assumption) | (with_reducible refine Base.grow_alloc ?_ _) | (with_reducible refine Base.below_drewN ?_ _) | (with_reducible refine Below.drew ?_) | (with_reducible refine Below.setCell ?_ ?_ _) | go_size))⟩
      · have hkn : k = n := by omega
        subst hkn
        go_wp2
        go_ret
        exact ⟨ret_bool (by rw [same3, HALL.out]; simp), hbr⟩
  · have hnm' : ((n : Int) == (m : Int)) = false := by simp; omega
    have hnm2 : ((n : Int) != (m : Int)) = true := by simp; omega
    go_enter Try.func66, Try.ntmps66
    go_wp2
    go_ret
    exact ⟨ret_bool (by simp [same3, hnm]), Below.refl _ _⟩
set_option maxHeartbeats 800000 in
theorem c_specSameChart (A : Option Addr) (n c : Nat) (X Y M : Nat → Int) (B : Option Addr) (m d : Nat) (X' Y' M' : Nat → Int) (w : World) (hv : Sl w 3 A n c (f3 X Y M)) (hu : Sl w 3 B m d (f3 X' Y' M')) :
    Calls Try.prog 33 #[.slice A n c, .slice B m d] w fun e w' => e = .returned (.bool (same3 n m X Y M X' Y' M')) ∧ Below w.heap.size w w' := by
  have hn := hv.le
  have hm := hu.le
  have hne := neqMark
  by_cases hnm : n = m
  · subst hnm
    go_enter Try.func33, Try.ntmps33
    go_wp2
    go_loopw [5] (fun i wr => ∃ k : Nat, k ≤ n ∧ i = .int .i64 k ∧ Below w.heap.size w wr ∧ allB k (fun i => eqb3 (X i) (Y i) (M i) (X' i) (Y' i) (M' i)) = true) (fun i _ => n - (intOf i).toNat)
    case atStart => exact ⟨0, Nat.zero_le _, rfl, Below.refl _ _, rfl⟩
    case round =>
      obtain ⟨k, hk, rfl, hbr, hall⟩ := hrel
      have HALL := Lib.hid hall
      clear hall
      by_cases hlt : k < n
      · obtain ⟨b, off, rfl, hb, hc⟩ := (hv.below hbr).at_ (by omega)
        obtain ⟨b', off', rfl, hb', hc'⟩ := (hu.below hbr).at_ (by omega)
        obtain ⟨h0, h1, h2⟩ := cells3 hc k hlt
        obtain ⟨g0, g1, g2⟩ := cells3 hc' k hlt
        clear hc hc'
        by_cases hq : eqb3 (X k) (Y k) (M k) (X' k) (Y' k) (M' k) = true
        · go_wp2
          go_quiet (fail)
          go_wp2
          go_roundw
          case rel => exact ⟨k + 1, by omega, by go_num, (by repeat' (first | (with_reducible exact Below.refl _ _) | (with_reducible assumption) | (with_reducible refine Base.grow_alloc ?_ _) | (with_reducible refine Base.below_drewN ?_ _) | (with_reducible refine Below.drew ?_) | (with_reducible refine Below.setCell ?_ ?_ _) | go_size)), allB_yes HALL.out hq⟩
          case measure => simp [intOf]; omega
        · have hq' : eqb3 (X k) (Y k) (M k) (X' k) (Y' k) (M' k) = false := by simpa using hq
          go_wp2
          go_quiet (fail)
          go_wp2
          go_ret
          exact ⟨ret_bool (by rw [same3, allB_no hlt hq']; simp), (by repeat' (first | (with_reducible exact Below.refl _ _) | (with_reducible assumption) | (with_reducible refine Base.grow_alloc ?_ _) | (with_reducible refine Base.below_drewN ?_ _) | (with_reducible refine Below.drew ?_) | (with_reducible refine Below.setCell ?_ ?_ _) | go_size))⟩
      · have hkn : k = n := by omega
        subst hkn
        go_wp2
        go_ret
        exact ⟨ret_bool (by rw [same3, HALL.out]; simp), hbr⟩
  · have hnm' : ((n : Int) == (m : Int)) = false := by simp; omega
    have hnm2 : ((n : Int) != (m : Int)) = true := by simp; omega
    go_enter Try.func33, Try.ntmps33
    go_wp2
    go_ret
    exact ⟨ret_bool (by simp [same3, hnm]), Below.refl _ _⟩
theorem c_SameChart (A : Option Addr) (n c : Nat) (X Y M : Nat → Int) (B : Option Addr) (m d : Nat) (X' Y' M' : Nat → Int) (w : World) (hv : Sl w 3 A n c (f3 X Y M)) (hu : Sl w 3 B m d (f3 X' Y' M')) :
    Calls Try.prog 35 #[.slice A n c, .slice B m d] w fun e w' => e = .returned (.bool (same3 n m X Y M X' Y' M')) ∧ Below w.heap.size w w' := by
  go_enter Try.func35, Try.ntmps35
  go_wp2_with (first | (go_at_call 66; refine (c_EqualMark _ _ _ X Y M _ _ _ X' Y' M' _ hv hu).mono ?_; rintro e w1 ⟨rfl, hb1⟩; obtain ⟨chb1, fhb1⟩ := Base.bcell hb1; have zhb1 := (hb1).size; (try simp at zhb1); (try have yhb1 : w.heap.size < (w1).heap.size := by omega)))
  go_ret
  exact ⟨rfl, (by repeat' (first | (with_reducible exact Below.refl _ _) | (with_reducible assumption) | (with_reducible refine Base.via hb1 ?_) | (with_reducible refine Base.grow_alloc ?_ _) | (with_reducible refine Base.below_drewN ?_ _) | (with_reducible refine Below.drew ?_) | (with_reducible refine Below.setCell ?_ ?_ _) | go_size))⟩
end Go.Proofs.Ytgkkdghmkcmmcaa.Same
