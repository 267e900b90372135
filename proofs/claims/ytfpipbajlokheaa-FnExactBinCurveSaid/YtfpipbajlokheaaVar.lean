/- The variance of magnitudes; the bins of points. -/
import Derived.Test.YtfpipbajlokheaaMags
import Derived.Test.YtfpipbajlokheaaFrac
import Derived.Test.YtfpipbajlokheaaList
import Derived.Test.YtfpipbajlokheaaCurve2
namespace Go.Proofs.Ytfpipbajlokheaa.Var
set_option linter.unusedVariables false
set_option linter.unusedSimpArgs false
open Go.RowKit Plain Num View Mags Frac Curve Curve2

theorem ret_frac {k l m : IntKind} {a b c d e f : Int} (h : a = d) (h' : b = e) (h'' : c = f) : Ending.returned (.tuple #[.agg #[.int k a, .int l b], .int m c]) = .returned (.tuple #[.agg #[.int k d, .int l e], .int m f]) := by rw [h, h', h'']
/-- the code of magnitudes that must not be empty -/
def someCode (n : Nat) (T : Nat → Int) : Int := if okMags n T = true then (if n = 0 then 3 else 0) else 2
theorem c_someMags (A : Option Addr) (n c : Nat) (T : Nat → Int) (w : World) (hv : Sl w 1 A n c (f1 T)) :
    Calls Try.prog 89 #[.slice A n c] w fun e w' => e = .returned (.int .i64 (someCode n T)) ∧ Below w.heap.size w w' := by
  have hn := hv.le
  cases h : okMags n T
  · have HC := Lib.hid (show (2 : Int) = someCode n T by rw [someCode, h]; rfl)
    go_enter Try.func89, Try.ntmps89
    go_wp2_with (first | (go_at_call 110; refine (c_areMags _ _ _ T _ hv).mono ?_; rintro e w1 ⟨rfl, hb1⟩; obtain ⟨chb1, fhb1⟩ := Base.bcell hb1; have zhb1 := (hb1).size; (try simp at zhb1); (try have yhb1 : w.heap.size < (w1).heap.size := by omega)))
    go_ret
    exact ⟨ret_int HC.out, (by repeat' (first | (with_reducible exact Below.refl _ _) | (with_reducible assumption) | (with_reducible refine Base.via hb1 ?_) | (with_reducible refine Base.grow_alloc ?_ _) | (with_reducible refine Base.below_drewN ?_ _) | (with_reducible refine Below.drew ?_) | (with_reducible refine Below.setCell ?_ ?_ _) | go_size))⟩
  · by_cases h0 : n = 0
    · subst h0
      have HC := Lib.hid (show (3 : Int) = someCode 0 T by rw [someCode, if_pos h, if_pos rfl])
      go_enter Try.func89, Try.ntmps89
      go_wp2_with (first | (go_at_call 110; refine (c_areMags _ _ _ T _ hv).mono ?_; rintro e w1 ⟨rfl, hb1⟩; obtain ⟨chb1, fhb1⟩ := Base.bcell hb1; have zhb1 := (hb1).size; (try simp at zhb1); (try have yhb1 : w.heap.size < (w1).heap.size := by omega)))
      go_ret
      exact ⟨ret_int HC.out, (by repeat' (first | (with_reducible exact Below.refl _ _) | (with_reducible assumption) | (with_reducible refine Base.via hb1 ?_) | (with_reducible refine Base.grow_alloc ?_ _) | (with_reducible refine Base.below_drewN ?_ _) | (with_reducible refine Below.drew ?_) | (with_reducible refine Below.setCell ?_ ?_ _) | go_size))⟩
    · have HC := Lib.hid (show (0 : Int) = someCode n T by rw [someCode, if_pos h, if_neg h0])
      go_enter Try.func89, Try.ntmps89
      go_wp2_with (first | (go_at_call 110; refine (c_areMags _ _ _ T _ hv).mono ?_; rintro e w1 ⟨rfl, hb1⟩; obtain ⟨chb1, fhb1⟩ := Base.bcell hb1; have zhb1 := (hb1).size; (try simp at zhb1); (try have yhb1 : w.heap.size < (w1).heap.size := by omega)))
      go_ret
      exact ⟨ret_int HC.out, (by repeat' (first | (with_reducible exact Below.refl _ _) | (with_reducible assumption) | (with_reducible refine Base.via hb1 ?_) | (with_reducible refine Base.grow_alloc ?_ _) | (with_reducible refine Base.below_drewN ?_ _) | (with_reducible refine Below.drew ?_) | (with_reducible refine Below.setCell ?_ ?_ _) | go_size))⟩
theorem c_count (A : Option Addr) (n c : Nat) (w : World) (hn : n ≤ 1048576) : Calls Try.prog 91 #[.slice A n c] w fun e w' => e = .returned (.int .i64 n) ∧ w = w' := by
  go_enter Try.func91, Try.ntmps91
  go_wp2
  go_ret
  exact ⟨rfl, rfl⟩
theorem some_cases (n : Nat) (T : Nat → Int) : (okMags n T = true ∧ 1 ≤ n ∧ someCode n T = 0) ∨ (okMags n T = true ∧ n = 0 ∧ someCode n T = 3) ∨ (okMags n T = false ∧ someCode n T = 2) := by
  unfold someCode
  cases h : okMags n T <;> by_cases h0 : n = 0 <;> simp [h0] <;> omega
def varN (n : Nat) (T : Nat → Int) : Int := if someCode n T = 0 then lowN (sqs n T) (n * n) else 0
def varD (n : Nat) (T : Nat → Int) : Int := if someCode n T = 0 then lowD (sqs n T) (n * n) else 0
theorem nn_bd {n : Nat} (h1 : 1 ≤ n) (h2 : n ≤ 100) : 1 ≤ (n : Int) * n ∧ (n : Int) * n ≤ 10000 := by
  have : n * n ≤ 100 * 100 := Nat.mul_le_mul h2 h2
  have : 1 * 1 ≤ n * n := Nat.mul_le_mul h1 h1
  have e : (n : Int) * n = ((n * n : Nat) : Int) := by simp
  omega
set_option maxHeartbeats 800000 in
theorem c_VarianceOf (A : Option Addr) (n c : Nat) (T : Nat → Int) (w : World) (hv : Sl w 1 A n c (f1 T)) :
    Calls Try.prog 38 #[.slice A n c] w fun e w' => e = .returned (.tuple #[.agg #[.int .i64 (varN n T), .int .i64 (varD n T)], .int .i64 (someCode n T)]) ∧ Below w.heap.size w w' := by
  have hn := hv.le
  rcases some_cases n T with ⟨h, h0, hcode⟩ | ⟨h, rfl, hcode⟩ | ⟨h, hcode⟩
  · obtain ⟨b1, b2⟩ := okMags_bd h
    have hs := sqs_bd b1 b2 (Nat.le_refl n)
    have hn2 := nn_bd h0 b1
    have hs2 : (n : Int) * 48400000000 ≤ 100 * 48400000000 := Int.mul_le_mul_of_nonneg_right (by omega) (by omega)
    have HN := Lib.hid (show lowN (sqs n T) (n * n) = varN n T by rw [varN, if_pos hcode])
    have HD := Lib.hid (show lowD (sqs n T) (n * n) = varD n T by rw [varD, if_pos hcode])
    have HB := Lib.hid b2
    have HC := Lib.hid hcode
    clear b2
    go_enter Try.func38, Try.ntmps38
    go_wp2_with (first | (go_at_call 89; refine (c_someMags _ _ _ T _ (hv.below (by repeat' (first | (with_reducible exact Below.refl _ _) | (with_reducible assumption) | (with_reducible refine Base.grow_alloc ?_ _) | (with_reducible refine Base.below_drewN ?_ _) | (with_reducible refine Below.drew ?_) | (with_reducible refine Below.setCell ?_ ?_ _) | go_size)))).mono ?_; rintro e w1 ⟨rfl, hb1⟩; obtain ⟨chb1, fhb1⟩ := Base.bcell hb1; have zhb1 := (hb1).size; (try simp at zhb1); (try have yhb1 : w.heap.size < (w1).heap.size := by omega)) | (go_at_call 90; refine (c_pairSquares _ _ _ T _ (hv.below (by repeat' (first | (with_reducible exact Below.refl _ _) | (with_reducible assumption) | (with_reducible refine Base.via hb1 ?_) | (with_reducible refine Base.grow_alloc ?_ _) | (with_reducible refine Base.below_drewN ?_ _) | (with_reducible refine Below.drew ?_) | (with_reducible refine Below.setCell ?_ ?_ _) | go_size))) b1 HB.out).mono ?_; rintro e w2 ⟨rfl, hb2⟩; obtain ⟨chb2, fhb2⟩ := Base.bcell hb2; have zhb2 := (hb2).size; (try simp at zhb2); (try have yhb2 : w.heap.size < (w2).heap.size := by omega)) | (go_at_call 91; refine (c_count _ _ _ _ hn).mono ?_; rintro e w' ⟨rfl, rfl⟩) | (go_at_call 81; refine (c_lowest _ _ _ (by omega) (by omega) (by omega) (by omega) (by omega)).mono ?_; rintro e w3 ⟨rfl, hb3⟩; obtain ⟨chb3, fhb3⟩ := Base.bcell hb3; have zhb3 := (hb3).size; (try simp at zhb3); (try have yhb3 : w.heap.size < (w3).heap.size := by omega)))
    have k0 : World.cell? w3 ⟨w.heap.size, 0, none⟩ = some (.int .i64 0) := ((hb3.cell (p := ⟨w.heap.size, 0, none⟩) (by first | (simp; done) | (simp; omega) | omega)).trans ((hb2.cell (p := ⟨w.heap.size, 0, none⟩) (by first | (simp; done) | (simp; omega) | omega)).trans ((hb1.cell (p := ⟨w.heap.size, 0, none⟩) (by first | (simp; done) | (simp; omega) | omega)).trans (by simp [go_sem]))))
    have k1 : World.cell? w3 ⟨w.heap.size, 1, none⟩ = some (.int .i64 0) := ((hb3.cell (p := ⟨w.heap.size, 1, none⟩) (by first | (simp; done) | (simp; omega) | omega)).trans ((hb2.cell (p := ⟨w.heap.size, 1, none⟩) (by first | (simp; done) | (simp; omega) | omega)).trans ((hb1.cell (p := ⟨w.heap.size, 1, none⟩) (by first | (simp; done) | (simp; omega) | omega)).trans (by simp [go_sem]))))
    refine bodyPost_ret (v := .tuple #[.agg #[.int .i64 (lowN (sqs n T) (n * n)), .int .i64 (lowD (sqs n T) (n * n))], .int .i64 0]) (by simp [results, Try.results38, go_sem, k0, k1]) rfl ⟨ret_frac HN.out HD.out HC.out.symm, (by repeat' (first | (with_reducible exact Below.refl _ _) | (with_reducible assumption) | (with_reducible refine Base.via hb3 ?_) | (with_reducible refine Base.via hb2 ?_) | (with_reducible refine Base.via hb1 ?_) | (with_reducible refine Base.grow_alloc ?_ _) | (with_reducible refine Base.below_drewN ?_ _) | (with_reducible refine Below.drew ?_) | (with_reducible refine Below.setCell ?_ ?_ _) | go_size))⟩
  · have HN := Lib.hid (show (0 : Int) = varN 0 T by rw [varN, hcode]; rfl)
    have HD := Lib.hid (show (0 : Int) = varD 0 T by rw [varD, hcode]; rfl)
    have HC := Lib.hid hcode
    go_enter Try.func38, Try.ntmps38
    go_wp2_with (first | (go_at_call 89; refine (c_someMags _ _ _ T _ (hv.below (by repeat' (first | (with_reducible exact Below.refl _ _) | (with_reducible assumption) | (with_reducible refine Base.grow_alloc ?_ _) | (with_reducible refine Base.below_drewN ?_ _) | (with_reducible refine Below.drew ?_) | (with_reducible refine Below.setCell ?_ ?_ _) | go_size)))).mono ?_; rintro e w1 ⟨rfl, hb1⟩; obtain ⟨chb1, fhb1⟩ := Base.bcell hb1; have zhb1 := (hb1).size; (try simp at zhb1); (try have yhb1 : w.heap.size < (w1).heap.size := by omega)))
    have k0 : World.cell? w1 ⟨w.heap.size, 0, none⟩ = some (.int .i64 0) := ((hb1.cell (p := ⟨w.heap.size, 0, none⟩) (by first | (simp; done) | (simp; omega) | omega)).trans (by simp [go_sem]))
    have k1 : World.cell? w1 ⟨w.heap.size, 1, none⟩ = some (.int .i64 0) := ((hb1.cell (p := ⟨w.heap.size, 1, none⟩) (by first | (simp; done) | (simp; omega) | omega)).trans (by simp [go_sem]))
    refine bodyPost_ret (v := .tuple #[.agg #[.int .i64 0, .int .i64 0], .int .i64 3]) (by simp [results, Try.results38, go_sem, k0, k1, HC.out]) rfl ⟨ret_frac HN.out HD.out HC.out.symm, (by repeat' (first | (with_reducible exact Below.refl _ _) | (with_reducible assumption) | (with_reducible refine Base.via hb1 ?_) | (with_reducible refine Base.grow_alloc ?_ _) | (with_reducible refine Base.below_drewN ?_ _) | (with_reducible refine Below.drew ?_) | (with_reducible refine Below.setCell ?_ ?_ _) | go_size))⟩
  · have HN := Lib.hid (show (0 : Int) = varN n T by rw [varN, hcode]; rfl)
    have HD := Lib.hid (show (0 : Int) = varD n T by rw [varD, hcode]; rfl)
    have HC := Lib.hid hcode
    go_enter Try.func38, Try.ntmps38
    go_wp2_with (first | (go_at_call 89; refine (c_someMags _ _ _ T _ (hv.below (by repeat' (first | (with_reducible exact Below.refl _ _) | (with_reducible assumption) | (with_reducible refine Base.grow_alloc ?_ _) | (with_reducible refine Base.below_drewN ?_ _) | (with_reducible refine Below.drew ?_) | (with_reducible refine Below.setCell ?_ ?_ _) | go_size)))).mono ?_; rintro e w1 ⟨rfl, hb1⟩; obtain ⟨chb1, fhb1⟩ := Base.bcell hb1; have zhb1 := (hb1).size; (try simp at zhb1); (try have yhb1 : w.heap.size < (w1).heap.size := by omega)))
    have k0 : World.cell? w1 ⟨w.heap.size, 0, none⟩ = some (.int .i64 0) := ((hb1.cell (p := ⟨w.heap.size, 0, none⟩) (by first | (simp; done) | (simp; omega) | omega)).trans (by simp [go_sem]))
    have k1 : World.cell? w1 ⟨w.heap.size, 1, none⟩ = some (.int .i64 0) := ((hb1.cell (p := ⟨w.heap.size, 1, none⟩) (by first | (simp; done) | (simp; omega) | omega)).trans (by simp [go_sem]))
    refine bodyPost_ret (v := .tuple #[.agg #[.int .i64 0, .int .i64 0], .int .i64 2]) (by simp [results, Try.results38, go_sem, k0, k1, HC.out]) rfl ⟨ret_frac HN.out HD.out HC.out.symm, (by repeat' (first | (with_reducible exact Below.refl _ _) | (with_reducible assumption) | (with_reducible refine Base.via hb1 ?_) | (with_reducible refine Base.grow_alloc ?_ _) | (with_reducible refine Base.below_drewN ?_ _) | (with_reducible refine Below.drew ?_) | (with_reducible refine Below.setCell ?_ ?_ _) | go_size))⟩
set_option maxHeartbeats 800000 in
theorem c_specVarianceOf (A : Option Addr) (n c : Nat) (T : Nat → Int) (w : World) (hv : Sl w 1 A n c (f1 T)) :
    Calls Try.prog 36 #[.slice A n c] w fun e w' => e = .returned (.tuple #[.agg #[.int .i64 (varN n T), .int .i64 (varD n T)], .int .i64 (someCode n T)]) ∧ Below w.heap.size w w' := by
  have hn := hv.le
  rcases some_cases n T with ⟨h, h0, hcode⟩ | ⟨h, rfl, hcode⟩ | ⟨h, hcode⟩
  · obtain ⟨b1, b2⟩ := okMags_bd h
    have hs := sqs_bd b1 b2 (Nat.le_refl n)
    have hn2 := nn_bd h0 b1
    have hs2 : (n : Int) * 48400000000 ≤ 100 * 48400000000 := Int.mul_le_mul_of_nonneg_right (by omega) (by omega)
    have HN := Lib.hid (show lowN (sqs n T) (n * n) = varN n T by rw [varN, if_pos hcode])
    have HD := Lib.hid (show lowD (sqs n T) (n * n) = varD n T by rw [varD, if_pos hcode])
    have HB := Lib.hid b2
    have HC := Lib.hid hcode
    have hm := magCode_yes h
    have hnz : ¬ n = 0 := by omega
    clear b2 hcode
    go_enter Try.func36, Try.ntmps36
    go_wp2_with (first | (go_at_call 87; refine (c_l02List _ _ _ T _ (hv.below (by repeat' (first | (with_reducible exact Below.refl _ _) | (with_reducible assumption) | (with_reducible refine Base.grow_alloc ?_ _) | (with_reducible refine Base.below_drewN ?_ _) | (with_reducible refine Below.drew ?_) | (with_reducible refine Below.setCell ?_ ?_ _) | go_size)))).mono ?_; rintro e w' ⟨rfl, rfl⟩) | (go_at_call 88; refine (c_l11Squares _ _ _ T _ (hv.below (by repeat' (first | (with_reducible exact Below.refl _ _) | (with_reducible assumption) | (with_reducible refine Base.grow_alloc ?_ _) | (with_reducible refine Base.below_drewN ?_ _) | (with_reducible refine Below.drew ?_) | (with_reducible refine Below.setCell ?_ ?_ _) | go_size))) b1 HB.out).mono ?_; rintro e w2 ⟨rfl, hb2⟩; obtain ⟨chb2, fhb2⟩ := Base.bcell hb2; have zhb2 := (hb2).size; (try simp at zhb2); (try have yhb2 : w.heap.size < (w2).heap.size := by omega)) | (go_at_call 79; refine (c_l02Make _ _ _ (by omega) (by omega) (by omega) (by omega)).mono ?_; rintro e w3 ⟨rfl, hb3⟩; obtain ⟨chb3, fhb3⟩ := Base.bcell hb3; have zhb3 := (hb3).size; (try simp at zhb3); (try have yhb3 : w.heap.size < (w3).heap.size := by omega)))
    have k0 : World.cell? w3 ⟨w.heap.size, 0, none⟩ = some (.int .i64 0) := ((hb3.cell (p := ⟨w.heap.size, 0, none⟩) (by first | (simp; done) | (simp; omega) | omega)).trans ((hb2.cell (p := ⟨w.heap.size, 0, none⟩) (by first | (simp; done) | (simp; omega) | omega)).trans (by simp [go_sem])))
    have k1 : World.cell? w3 ⟨w.heap.size, 1, none⟩ = some (.int .i64 0) := ((hb3.cell (p := ⟨w.heap.size, 1, none⟩) (by first | (simp; done) | (simp; omega) | omega)).trans ((hb2.cell (p := ⟨w.heap.size, 1, none⟩) (by first | (simp; done) | (simp; omega) | omega)).trans (by simp [go_sem])))
    refine bodyPost_ret (v := .tuple #[.agg #[.int .i64 (lowN (sqs n T) (n * n)), .int .i64 (lowD (sqs n T) (n * n))], .int .i64 0]) (by simp [results, Try.results36, go_sem, k0, k1]) rfl ⟨ret_frac HN.out HD.out HC.out.symm, (by repeat' (first | (with_reducible exact Below.refl _ _) | (with_reducible assumption) | (with_reducible refine Base.via hb3 ?_) | (with_reducible refine Base.via hb2 ?_) | (with_reducible refine Base.grow_alloc ?_ _) | (with_reducible refine Base.below_drewN ?_ _) | (with_reducible refine Below.drew ?_) | (with_reducible refine Below.setCell ?_ ?_ _) | go_size))⟩
  · have HN := Lib.hid (show (0 : Int) = varN 0 T by rw [varN, hcode]; rfl)
    have HD := Lib.hid (show (0 : Int) = varD 0 T by rw [varD, hcode]; rfl)
    have HC := Lib.hid hcode
    have hm := magCode_yes h
    clear hcode
    go_enter Try.func36, Try.ntmps36
    go_wp2_with (first | (go_at_call 87; refine (c_l02List _ _ _ T _ (hv.below (by repeat' (first | (with_reducible exact Below.refl _ _) | (with_reducible assumption) | (with_reducible refine Base.grow_alloc ?_ _) | (with_reducible refine Base.below_drewN ?_ _) | (with_reducible refine Below.drew ?_) | (with_reducible refine Below.setCell ?_ ?_ _) | go_size)))).mono ?_; rintro e w' ⟨rfl, rfl⟩))
    refine bodyPost_ret (v := .tuple #[.agg #[.int .i64 0, .int .i64 0], .int .i64 3]) (by simp [results, Try.results36, go_sem]) rfl ⟨ret_frac HN.out HD.out HC.out.symm, (by repeat' (first | (with_reducible exact Below.refl _ _) | (with_reducible assumption) | (with_reducible refine Base.grow_alloc ?_ _) | (with_reducible refine Base.below_drewN ?_ _) | (with_reducible refine Below.drew ?_) | (with_reducible refine Below.setCell ?_ ?_ _) | go_size))⟩
  · have HN := Lib.hid (show (0 : Int) = varN n T by rw [varN, hcode]; rfl)
    have HD := Lib.hid (show (0 : Int) = varD n T by rw [varD, hcode]; rfl)
    have HC := Lib.hid hcode
    have hm := magCode_no h
    clear hcode
    go_enter Try.func36, Try.ntmps36
    go_wp2_with (first | (go_at_call 87; refine (c_l02List _ _ _ T _ (hv.below (by repeat' (first | (with_reducible exact Below.refl _ _) | (with_reducible assumption) | (with_reducible refine Base.grow_alloc ?_ _) | (with_reducible refine Base.below_drewN ?_ _) | (with_reducible refine Below.drew ?_) | (with_reducible refine Below.setCell ?_ ?_ _) | go_size)))).mono ?_; rintro e w' ⟨rfl, rfl⟩))
    refine bodyPost_ret (v := .tuple #[.agg #[.int .i64 0, .int .i64 0], .int .i64 2]) (by simp [results, Try.results36, go_sem, hm]) rfl ⟨ret_frac HN.out HD.out HC.out.symm, (by repeat' (first | (with_reducible exact Below.refl _ _) | (with_reducible assumption) | (with_reducible refine Base.grow_alloc ?_ _) | (with_reducible refine Base.below_drewN ?_ _) | (with_reducible refine Below.drew ?_) | (with_reducible refine Below.setCell ?_ ?_ _) | go_size))⟩
end Go.Proofs.Ytfpipbajlokheaa.Var
