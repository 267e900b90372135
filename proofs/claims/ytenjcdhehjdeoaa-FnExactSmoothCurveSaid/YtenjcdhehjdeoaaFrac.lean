/- The nearest integer, the greatest common divisor, fractions in lowest terms. -/
import Derived.Test.YtenjcdhehjdeoaaNum
import Derived.Test.YtenjcdhehjdeoaaBase
import Derived.BigQuiet
import Derived.Deep.QuietTactic
namespace Go.Proofs.Ytenjcdhehjdeoaa.Frac
set_option linter.unusedVariables false
set_option linter.unusedSimpArgs false
open Go.RowKit Plain Num

/-- the nearest integer of a quotient, halves up -/
def nrI (a b : Int) : Int := (2 * a + b) / (2 * b)
theorem nr_up {a b : Int} (hb : 1 ≤ b) (h : b - (a - a / b * b) ≤ a - a / b * b) : a / b + 1 = nrI a b := by
  have e1 := Int.mul_ediv_add_emod a b
  have h3 := Int.emod_nonneg a (by omega : b ≠ 0)
  have h4 := Int.emod_lt_of_pos a (show 0 < b by omega)
  have e2 : 2 * a + b = (2 * b) * (a / b + 1) + (2 * (a % b) - b) := by rw [Int.mul_add, Int.mul_assoc 2 b, Int.mul_one]; omega
  have h5 : a / b * b = b * (a / b) := Int.mul_comm _ _
  have e6 : (2 * (a % b) - b) / (2 * b) = 0 := Int.ediv_eq_zero_of_lt (by omega) (by omega)
  rw [nrI, e2, Int.mul_add_ediv_left _ _ (by omega), e6]
  omega
theorem nr_dn {a b : Int} (hb : 1 ≤ b) (h : a - a / b * b < b - (a - a / b * b)) : a / b = nrI a b := by
  have e1 := Int.mul_ediv_add_emod a b
  have h3 := Int.emod_nonneg a (by omega : b ≠ 0)
  have h4 := Int.emod_lt_of_pos a (show 0 < b by omega)
  have e2 : 2 * a + b = (2 * b) * (a / b) + (2 * (a % b) + b) := by rw [Int.mul_assoc 2 b]; omega
  have h5 : a / b * b = b * (a / b) := Int.mul_comm _ _
  have e6 : (2 * (a % b) + b) / (2 * b) = 0 := Int.ediv_eq_zero_of_lt (by omega) (by omega)
  rw [nrI, e2, Int.mul_add_ediv_left _ _ (by omega), e6]
  omega
theorem nr_le {a b c : Int} (hb : 1 ≤ b) (h : a ≤ c * b) : nrI a b ≤ c := by
  have : 2 * a + b < (c + 1) * (2 * b) := by rw [Int.add_mul, Int.mul_left_comm]; omega
  have := Int.ediv_lt_of_lt_mul (show 0 < 2 * b by omega) this
  rw [nrI]; omega
theorem le_nr {a b c : Int} (hb : 1 ≤ b) (h : c * b ≤ a) : c ≤ nrI a b := by
  rw [nrI]
  exact Int.le_ediv_of_mul_le (by omega) (by rw [Int.mul_left_comm]; omega)
theorem c_nearest (a b : Int) (w : World) (ha : -100000000000000000 ≤ a) (ha' : a ≤ 100000000000000000) (hb : 1 ≤ b) (hb' : b ≤ 100000000000000000) :
    Calls Try.prog 99 #[.int .i64 a, .int .i64 b] w fun e w' => e = .returned (.int .i64 (nrI a b)) ∧ w = w' := by
  have e1 := Int.mul_ediv_add_emod a b
  have h3 := Int.emod_nonneg a (by omega : b ≠ 0)
  have h4 := Int.emod_lt_of_pos a (show 0 < b by omega)
  have h5 : a / b * b = a - a % b := by rw [Int.mul_comm]; omega
  have h6 : -200000000000000000 ≤ a / b * b := by omega
  have h7 : a / b * b ≤ 200000000000000000 := by omega
  have h8 : -200000000000000000 ≤ a / b := Int.le_ediv_of_mul_le (by omega) (by
    have := Int.mul_le_mul_of_nonneg_left (show (1 : Int) ≤ b from hb) (show (0 : Int) ≤ 200000000000000000 by omega); omega)
  have h9 : a / b ≤ 200000000000000000 := by
    have := Int.ediv_le_ediv (show 0 < b by omega) ha'
    have := Int.ediv_le_self b (show (0 : Int) ≤ 100000000000000000 by omega)
    omega
  have H := Lib.hid h5
  clear e1 h5
  by_cases h : b - (a - a / b * b) ≤ a - a / b * b
  · have HE := Lib.hid (nr_up hb h)
    go_enter Try.func99, Try.ntmps99
    go_wp2_with (first | (go_at_call 114; refine (c_floorDiv _ _ _ (by omega) (by omega) hb).mono ?_; rintro e w' ⟨rfl, rfl⟩))
    go_ret
    exact ⟨ret_int HE.out, rfl⟩
  · have h' : a - a / b * b < b - (a - a / b * b) := by omega
    have HE := Lib.hid (nr_dn hb h')
    go_enter Try.func99, Try.ntmps99
    go_wp2_with (first | (go_at_call 114; refine (c_floorDiv _ _ _ (by omega) (by omega) hb).mono ?_; rintro e w' ⟨rfl, rfl⟩))
    go_ret
    exact ⟨ret_int HE.out, rfl⟩
theorem c_l02Round (a b : Int) (w : World) (ha : -100000000000000000 ≤ a) (ha' : a ≤ 100000000000000000) (hb : 1 ≤ b) (hb' : b ≤ 100000000000000000) :
    Calls Try.prog 96 #[.int .i64 a, .int .i64 b] w fun e w' => e = .returned (.int .i64 (nrI a b)) ∧ w = w' := by
  go_enter Try.func96, Try.ntmps96
  go_wp2_with (first | (go_at_call 110; refine (c_l02Floor _ _ _ (by omega) (by omega) (by omega)).mono ?_; rintro e w' ⟨rfl, rfl⟩))
  go_ret
  exact ⟨rfl, rfl⟩
theorem gcd_step (a b : Int) : Int.gcd b (a.tmod b) = Int.gcd a b := by
  show Nat.gcd b.natAbs (a.tmod b).natAbs = Nat.gcd a.natAbs b.natAbs
  rw [Int.natAbs_tmod, Nat.gcd_comm a.natAbs, Nat.gcd_rec b.natAbs a.natAbs, Nat.gcd_comm]
theorem tmod_small (a : Int) {b : Int} (hb : b ≠ 0) : (a.tmod b).natAbs < b.natAbs := by
  rw [Int.natAbs_tmod]
  exact Nat.mod_lt _ (by omega)
theorem gcd_zero (a : Int) : absI a = (Int.gcd a 0 : Int) := by
  simp only [Int.gcd_zero_right, absI]
  split <;> omega
set_option maxHeartbeats 800000 in
theorem c_gcd (a b : Int) (w : World) (ha : -1000000000000000000 ≤ a) (ha' : a ≤ 1000000000000000000) (hb : -1000000000000000000 ≤ b) (hb' : b ≤ 1000000000000000000) :
    Calls Try.prog 117 #[.int .i64 a, .int .i64 b] w fun e w' => e = .returned (.int .i64 (Int.gcd a b : Int)) ∧ Below w.heap.size w w' := by
  go_enter Try.func117, Try.ntmps117
  go_wp2
  go_loopw [0, 1] (fun p q wr => ∃ x y : Int, p = .int .i64 x ∧ q = .int .i64 y ∧ (-1000000000000000000 ≤ x ∧ x ≤ 1000000000000000000) ∧ (-1000000000000000000 ≤ y ∧ y ≤ 1000000000000000000) ∧ Hid (Int.gcd x y = Int.gcd a b) ∧ Below w.heap.size w wr) (fun _ q _ => (intOf q).natAbs)
  case atStart => exact ⟨a, b, rfl, rfl, ⟨ha, ha'⟩, ⟨hb, hb'⟩, (show Int.gcd a b = Int.gcd a b from rfl), (by repeat' (first | (with_reducible exact Below.refl _ _) | (with_reducible assumption) | (with_reducible refine Base.grow_alloc ?_ _) | (with_reducible refine Base.below_drewN ?_ _) | (with_reducible refine Below.drew ?_) | (with_reducible refine Below.setCell ?_ ?_ _) | go_size))⟩
  case round =>
    obtain ⟨x, y, rfl, rfl, ⟨hx, hx'⟩, ⟨hy, hy'⟩, hg, hbr⟩ := hrel
    by_cases h0 : y = 0
    · subst h0
      have HE := Lib.hid (show absI x = (Int.gcd a b : Int) by rw [← hg.out]; exact gcd_zero x)
      go_wp2_with (first | (go_at_call 50; refine (c_abs _ _ hx hx').mono ?_; rintro e w' ⟨rfl, rfl⟩))
      go_ret
      exact ⟨ret_int HE.out, (by repeat' (first | (with_reducible exact Below.refl _ _) | (with_reducible assumption) | (with_reducible refine Base.grow_alloc ?_ _) | (with_reducible refine Base.below_drewN ?_ _) | (with_reducible refine Below.drew ?_) | (with_reducible refine Below.setCell ?_ ?_ _) | go_size))⟩
    · have hm := tmod_small x h0
      have hm1 : -1000000000000000000 ≤ x.tmod y := by omega
      have hm2 : x.tmod y ≤ 1000000000000000000 := by omega
      have HG := Lib.hid (show Int.gcd y (x.tmod y) = Int.gcd a b by rw [gcd_step]; exact hg.out)
      have e1 : IntKind.i64.wrap (x.tmod y) = x.tmod y := IntWalk.i64_in _ (by omega)
      go_wp2
      go_quiet (fail)
      go_wp2
      go_roundw
      case rel => exact ⟨y, x.tmod y, rfl, rfl, ⟨hy, hy'⟩, ⟨hm1, hm2⟩, HG.out, (by repeat' (first | (with_reducible exact Below.refl _ _) | (with_reducible assumption) | (with_reducible refine Base.grow_alloc ?_ _) | (with_reducible refine Base.below_drewN ?_ _) | (with_reducible refine Below.drew ?_) | (with_reducible refine Below.setCell ?_ ?_ _) | go_size))⟩
      case measure => exact hm
/-- the divisor of a fraction in lowest terms with a positive denominator -/
def lowG (a b : Int) : Int := if b < 0 then -(Int.gcd a b : Int) else (Int.gcd a b : Int)
def lowN (a b : Int) : Int := a / lowG a b
def lowD (a b : Int) : Int := b / lowG a b
theorem gcd_pos' {a b : Int} (hb : b ≠ 0) : 1 ≤ (Int.gcd a b : Int) := by
  have : 0 < Int.gcd a b := Int.gcd_pos_of_ne_zero_right a hb
  omega
theorem lowG_ne {a b : Int} (hb : b ≠ 0) : lowG a b ≠ 0 := by
  have := gcd_pos' (a := a) hb
  unfold lowG
  split <;> omega
theorem lowG_dl (a b : Int) : lowG a b ∣ a := by
  unfold lowG
  split
  · exact Int.neg_dvd.2 (Int.gcd_dvd_left a b)
  · exact Int.gcd_dvd_left a b
theorem lowG_dr (a b : Int) : lowG a b ∣ b := by
  unfold lowG
  split
  · exact Int.neg_dvd.2 (Int.gcd_dvd_right a b)
  · exact Int.gcd_dvd_right a b
theorem low_tdiv {a g : Int} (h : g ∣ a) : a.tdiv g = a / g := Int.tdiv_eq_ediv_of_dvd h
theorem tdiv_bd2 {a g m : Int} (hg : g ≠ 0) (ha : -m ≤ a) (ha' : a ≤ m) : -m ≤ a.tdiv g ∧ a.tdiv g ≤ m := by
  have h1 : (a.tdiv g).natAbs ≤ a.natAbs := by rw [Int.natAbs_tdiv]; exact Nat.div_le_self _ _
  omega
set_option maxHeartbeats 800000 in
theorem c_lowest (a b : Int) (w : World) (ha : -1000000000000000000 ≤ a) (ha' : a ≤ 1000000000000000000) (hb : -1000000000000000000 ≤ b) (hb' : b ≤ 1000000000000000000) (h0 : b ≠ 0) :
    Calls Try.prog 109 #[.int .i64 a, .int .i64 b] w fun e w' => e = .returned (.agg #[.int .i64 (lowN a b), .int .i64 (lowD a b)]) ∧ Below w.heap.size w w' := by
  have hg1 := gcd_pos' (a := a) h0
  have hgb : (Int.gcd a b : Int) ≤ 1000000000000000000 := by
    have := Nat.le_of_dvd (show 0 < b.natAbs by omega) (Nat.gcd_dvd_right a.natAbs b.natAbs)
    have : (Int.gcd a b) ≤ b.natAbs := this
    omega
  have t1 := tdiv_bd2 (g := (Int.gcd a b : Int)) (by omega) ha ha'
  have t2 := tdiv_bd2 (g := (Int.gcd a b : Int)) (by omega) hb hb'
  have gn : ¬ (Int.gcd a b : Int) = 0 := by omega
  by_cases hn : b < 0
  · have hG : lowG a b = -(Int.gcd a b : Int) := by rw [lowG, if_pos hn]
    have E1 := Lib.hid (show -(a.tdiv (Int.gcd a b : Int)) = lowN a b by rw [lowN, hG, Int.ediv_neg, low_tdiv (Int.gcd_dvd_left a b)])
    have E2 := Lib.hid (show -(b.tdiv (Int.gcd a b : Int)) = lowD a b by rw [lowD, hG, Int.ediv_neg, low_tdiv (Int.gcd_dvd_right a b)])
    clear hG
    go_enter Try.func109, Try.ntmps109
    go_wp2_with (first | (go_at_call 117; refine (c_gcd a b _ ha ha' hb hb').mono ?_; rintro e w1 ⟨rfl, hb1⟩; obtain ⟨chb1, fhb1⟩ := Base.bcell hb1; have zhb1 := (hb1).size; (try simp at zhb1); (try have yhb1 : w.heap.size < (w1).heap.size := by omega)))
    have gn' : ¬ -(Int.gcd a b : Int) = 0 := by omega
    have u1 : wrap64 (-(a.tdiv (Int.gcd a b : Int))) = -(a.tdiv (Int.gcd a b : Int)) := IntWalk.wrap64_in _ (by omega)
    have u2 : wrap64 (-(b.tdiv (Int.gcd a b : Int))) = -(b.tdiv (Int.gcd a b : Int)) := IntWalk.wrap64_in _ (by omega)
    have k0 : w1.cell? ⟨w.heap.size, 0, none⟩ = some (.int .i64 0) := by rw [chb1 _ _ (by simp)]; simp
    have k1 : w1.cell? ⟨w.heap.size, 1, none⟩ = some (.int .i64 0) := by rw [chb1 _ _ (by simp)]; simp
    go_region
    go_wp2
    refine bodyPost_ret (v := .agg #[.int .i64 (lowN a b), .int .i64 (lowD a b)]) (by simp [results, Try.results109, go_sem, E1.out, E2.out, k0, k1]) rfl ⟨rfl, (by repeat' (first | (with_reducible exact Below.refl _ _) | (with_reducible assumption) | (with_reducible refine Base.via hb1 ?_) | (with_reducible refine Base.grow_alloc ?_ _) | (with_reducible refine Base.below_drewN ?_ _) | (with_reducible refine Below.drew ?_) | (with_reducible refine Below.setCell ?_ ?_ _) | go_size))⟩
  · have hG : lowG a b = (Int.gcd a b : Int) := by rw [lowG, if_neg hn]
    have E1 := Lib.hid (show a.tdiv (Int.gcd a b : Int) = lowN a b by rw [← hG, lowN]; exact low_tdiv (lowG_dl a b))
    have E2 := Lib.hid (show b.tdiv (Int.gcd a b : Int) = lowD a b by rw [← hG, lowD]; exact low_tdiv (lowG_dr a b))
    clear hG
    go_enter Try.func109, Try.ntmps109
    go_wp2_with (first | (go_at_call 117; refine (c_gcd a b _ ha ha' hb hb').mono ?_; rintro e w1 ⟨rfl, hb1⟩; obtain ⟨chb1, fhb1⟩ := Base.bcell hb1; have zhb1 := (hb1).size; (try simp at zhb1); (try have yhb1 : w.heap.size < (w1).heap.size := by omega)))
    have u1 : wrap64 (a.tdiv (Int.gcd a b : Int)) = a.tdiv (Int.gcd a b : Int) := IntWalk.wrap64_in _ (by omega)
    have u2 : wrap64 (b.tdiv (Int.gcd a b : Int)) = b.tdiv (Int.gcd a b : Int) := IntWalk.wrap64_in _ (by omega)
    have k0 : w1.cell? ⟨w.heap.size, 0, none⟩ = some (.int .i64 0) := by rw [chb1 _ _ (by simp)]; simp
    have k1 : w1.cell? ⟨w.heap.size, 1, none⟩ = some (.int .i64 0) := by rw [chb1 _ _ (by simp)]; simp
    go_region
    go_wp2
    refine bodyPost_ret (v := .agg #[.int .i64 (lowN a b), .int .i64 (lowD a b)]) (by simp [results, Try.results109, go_sem, E1.out, E2.out, k0, k1]) rfl ⟨rfl, (by repeat' (first | (with_reducible exact Below.refl _ _) | (with_reducible assumption) | (with_reducible refine Base.via hb1 ?_) | (with_reducible refine Base.grow_alloc ?_ _) | (with_reducible refine Base.below_drewN ?_ _) | (with_reducible refine Below.drew ?_) | (with_reducible refine Below.setCell ?_ ?_ _) | go_size))⟩
theorem gcd_abs (a b : Int) : Int.gcd (absI a) b = Int.gcd a b := by
  unfold absI
  split
  · show Nat.gcd (-a).natAbs b.natAbs = Nat.gcd a.natAbs b.natAbs; rw [Int.natAbs_neg]
  · rfl
end Go.Proofs.Ytenjcdhehjdeoaa.Frac
