/- The dispersion for a period, divided by the whole one. -/
import Derived.Test.YtiinjnghnfofpaaDisp2
namespace Go.Proofs.Ytiinjnghnfofpaa.Disp
set_option linter.unusedVariables false
set_option linter.unusedSimpArgs false
set_option maxRecDepth 8000
open Go.RowKit Plain Num View Mags Curve Curve2 Bins DisB Frac

theorem low_swap {c d : Int} (hc : 1 ≤ c) (hd : 1 ≤ d) : lowN d c = lowD c d ∧ lowD d c = lowN c d := by
  rw [lowN, lowD, lowD, lowN, lowG_pos hc, lowG_pos hd, Int.gcd_comm d c]
  exact ⟨rfl, rfl⟩
/-- a quotient of two fractions in lowest terms -/
theorem low_quot {a b c d : Int} (hb : 1 ≤ b) (hc : 1 ≤ c) (hd : 1 ≤ d) : lowN (lowN a b * lowD c d) (lowD a b * lowN c d) = lowN (a * d) (b * c) ∧ lowD (lowN a b * lowD c d) (lowD a b * lowN c d) = lowD (a * d) (b * c) := by
  obtain ⟨e1, e2⟩ := low_swap hc hd
  rw [← e1, ← e2]
  exact low_prod hb hc
theorem mul_bd {a b A B : Int} (h1 : -A ≤ a) (h2 : a ≤ A) (h3 : -B ≤ b) (h4 : b ≤ B) : -(A * B) ≤ a * b ∧ a * b ≤ A * B := by
  have k : ∀ {b : Int}, 0 ≤ b → b ≤ B → -(A * B) ≤ a * b ∧ a * b ≤ A * B := fun {b} h3 h4 => by
    have e1 : a * b ≤ A * b := Int.mul_le_mul_of_nonneg_right h2 h3
    have e2 : A * b ≤ A * B := Int.mul_le_mul_of_nonneg_left h4 (by omega)
    have e3 : -A * b ≤ a * b := Int.mul_le_mul_of_nonneg_right h1 h3
    have e4 : -A * b = -(A * b) := Int.neg_mul _ _
    omega
  rcases Int.le_total 0 b with h | h
  · exact k h h4
  · have := k (b := -b) (by omega) (by omega)
    rw [Int.mul_neg] at this
    omega
def thC (n : Nat) (T M : Nat → Int) (p b : Int) : Int := if dspC n T M p b = 0 then (if inS n (fun _ => 0) M = 0 then 6 else 0) else dspC n T M p b
def thN (n : Nat) (T M : Nat → Int) (p b : Int) : Int := if thC n T M p b = 0 then lowN (inS n (binV T p b) M * inP n (fun _ => 0)) (inP n (binV T p b) * inS n (fun _ => 0) M) else 0
def thD (n : Nat) (T M : Nat → Int) (p b : Int) : Int := if thC n T M p b = 0 then lowD (inS n (binV T p b) M * inP n (fun _ => 0)) (inP n (binV T p b) * inS n (fun _ => 0) M) else 0
theorem inP_le (n : Nat) (B : Nat → Int) : inP n B ≤ inP n (fun _ => 0) := Pairs.sumB_le fun i _ => Pairs.sumB_le fun j _ => by split <;> simp
theorem th_cases (n : Nat) (T M : Nat → Int) (p b : Int) : (dspC n T M p b = 0 ∧ inS n (fun _ => 0) M ≠ 0 ∧ thC n T M p b = 0) ∨ (dspC n T M p b = 0 ∧ inS n (fun _ => 0) M = 0 ∧ thC n T M p b = 6) ∨ (dspC n T M p b ≠ 0 ∧ thC n T M p b = dspC n T M p b) := by
  unfold thC
  by_cases h : dspC n T M p b = 0 <;> by_cases h2 : inS n (fun _ => 0) M = 0 <;> simp [h, h2]
theorem th_zero {n : Nat} {T M : Nat → Int} {p b : Int} (h : thC n T M p b ≠ 0) : thN n T M p b = 0 ∧ thD n T M p b = 0 := by
  rw [thN, thD, if_neg h, if_neg h]
  exact ⟨rfl, rfl⟩
theorem dsp_yes {n : Nat} {T M : Nat → Int} {p b : Int} (h : dspC n T M p b = 0) : binCode n T M p b = 0 ∧ inP n (binV T p b) ≠ 0 := by
  rcases dsp_cases n T M p b with ⟨h1, h2, _⟩ | ⟨_, _, hc⟩ | ⟨h1, hc⟩
  · exact ⟨h1, h2⟩
  · omega
  · omega
theorem wh_yes {n : Nat} {T M : Nat → Int} {p b : Int} (h : dspC n T M p b = 0) : whC n T M = 0 ∧ 1 ≤ inP n (fun _ => 0) := by
  obtain ⟨h1, h2⟩ := dsp_yes h
  obtain ⟨hok, _, _⟩ := dsp_ok h1
  have h3 := inP_bd (B := binV T p b) (okCurve_bd hok).1
  have h4 := inP_le n (binV T p b)
  have h5 : inP n (fun _ => 0) ≠ 0 := by omega
  exact ⟨by rw [whC, if_pos hok, if_neg h5], by omega⟩
set_option maxHeartbeats 1600000 in
theorem c_specThetaOf (A : Option Addr) (n c : Nat) (T M : Nat → Int) (p b : Int) (w : World) (hv : Sl w 2 A n c (f2 T M)) :
    Calls Try.prog 50 #[.slice A n c, .int .i64 p, .int .i64 b] w fun e w' => e = .returned (.tuple #[.agg #[.int .i64 (thN n T M p b), .int .i64 (thD n T M p b)], .int .i64 (thC n T M p b)]) ∧ Below w.heap.size w w' := by
  by_cases hbc : binCode n T M p b = 0
  · obtain ⟨hok, hp, hb⟩ := dsp_ok hbc
    obtain ⟨h100, hT, hM, _⟩ := okCurve_bd hok
    have bS := inS_bd (B := binV T p b) h100 hM
    have bP := inP_bd (B := binV T p b) h100
    have bS1 := inS_bd (B := fun _ => 0) h100 hM
    have bP1 := inP_bd (B := fun _ => 0) h100
    have HT := Lib.hid hT
    have HM := Lib.hid hM
    have HI := Lib.hid (fun W (hW : Sl W 2 A n c (f2 T M)) => c_l11Inside A n c T M p b W hW h100 HT.out HM.out hp hb)
    have HJ := Lib.hid (fun W (hW : Sl W 2 A n c (f2 T M)) => c_l11Inside A n c T M p 1 W hW h100 HT.out HM.out hp (by omega))
    rw [binV_one hp] at HJ
    have HTC := th_cases n T M p b
    have HDC := dsp_cases n T M p b
    have eN : thC n T M p b = 0 → thN n T M p b = lowN (inS n (binV T p b) M * inP n (fun _ => 0)) (inP n (binV T p b) * inS n (fun _ => 0) M) := fun h => by rw [thN, if_pos h]
    have eD : thC n T M p b = 0 → thD n T M p b = lowD (inS n (binV T p b) M * inP n (fun _ => 0)) (inP n (binV T p b) * inS n (fun _ => 0) M) := fun h => by rw [thD, if_pos h]
    have eP : dspC n T M p b = 0 → 1 ≤ inP n (fun _ => 0) := fun h => (wh_yes h).2
    have eZ := fun h => th_zero (n := n) (T := T) (M := M) (p := p) (b := b) h
    obtain ⟨P, hP⟩ : ∃ P, P = inP n (binV T p b) := ⟨_, rfl⟩
    obtain ⟨S, hS⟩ : ∃ S, S = inS n (binV T p b) M := ⟨_, rfl⟩
    obtain ⟨P1, hP1⟩ : ∃ P, P = inP n (fun _ => 0) := ⟨_, rfl⟩
    obtain ⟨S1, hS1⟩ : ∃ S, S = inS n (fun _ => 0) M := ⟨_, rfl⟩
    rw [← hP] at eN eD bP HI HDC
    rw [← hS] at eN eD bS HI
    rw [← hP1] at eN eD bP1 HJ eP
    rw [← hS1] at eN eD bS1 HJ HTC
    have HK := Lib.hid hbc
    clear hT hM hok hP hS hP1 hS1
    by_cases hp0 : P = 0
    · have hc : dspC n T M p b = 3 := by rcases HDC with ⟨_, h, _⟩ | ⟨_, _, h⟩ | ⟨h, _⟩ <;> omega
      have ht : thC n T M p b = 3 := by rcases HTC with ⟨h, _⟩ | ⟨h, _⟩ | ⟨_, h⟩ <;> omega
      obtain ⟨z1, z2⟩ := eZ (by omega)
      have HN := Lib.hid z1
      have HD := Lib.hid z2
      have HC := Lib.hid ht
      subst hp0
      clear hc ht z1 z2 HTC HDC eN eD eP eZ
      go_enter Try.func50, Try.ntmps50
      go_wp2_with (first | (go_at_call 57; refine (c_l11Code _ _ _ T M _ _ _ (hv.below (by repeat' (first | (with_reducible exact Below.refl _ _) | (with_reducible assumption) | (with_reducible refine Base.grow_alloc ?_ _) | (with_reducible refine Base.below_drewN ?_ _) | (with_reducible refine Below.drew ?_) | (with_reducible refine Below.setCell ?_ ?_ _) | go_size)))).mono ?_; rintro e w1 ⟨rfl, hb1⟩; obtain ⟨chb1, fhb1⟩ := Base.bcell hb1; have zhb1 := (hb1).size; (try simp at zhb1); (try have yhb1 : w.heap.size < (w1).heap.size := by omega)))
      go_wp2_with fail
      refine (HI.out _ (hv.below (by repeat' (first | (with_reducible exact Below.refl _ _) | (with_reducible assumption) | (with_reducible refine Base.via hb1 ?_) | (with_reducible refine Base.grow_alloc ?_ _) | (with_reducible refine Base.below_drewN ?_ _) | (with_reducible refine Below.drew ?_) | (with_reducible refine Below.setCell ?_ ?_ _) | go_size)))).mono ?_
      rintro e w2 ⟨rfl, hb2⟩
      obtain ⟨chb2, fhb2⟩ := Base.bcell hb2
      have zhb2 := hb2.size
      have yhb2 : w.heap.size < w2.heap.size := by omega
      go_wp2_with fail
      refine (HJ.out _ (hv.below (by repeat' (first | (with_reducible exact Below.refl _ _) | (with_reducible assumption) | (with_reducible refine Base.via hb2 ?_) | (with_reducible refine Base.via hb1 ?_) | (with_reducible refine Base.grow_alloc ?_ _) | (with_reducible refine Base.below_drewN ?_ _) | (with_reducible refine Below.drew ?_) | (with_reducible refine Below.setCell ?_ ?_ _) | go_size)))).mono ?_
      rintro e w3 ⟨rfl, hb3⟩
      obtain ⟨chb3, fhb3⟩ := Base.bcell hb3
      have zhb3 := hb3.size
      have yhb3 : w.heap.size < w3.heap.size := by omega
      go_wp2
      have k0 : World.cell? w3 ⟨w.heap.size, 0, none⟩ = some (.int .i64 0) := ((hb3.cell (p := ⟨w.heap.size, 0, none⟩) (by first | (simp; done) | (simp; omega) | omega)).trans ((hb2.cell (p := ⟨w.heap.size, 0, none⟩) (by first | (simp; done) | (simp; omega) | omega)).trans ((hb1.cell (p := ⟨w.heap.size, 0, none⟩) (by first | (simp; done) | (simp; omega) | omega)).trans (by simp [go_sem]))))
      have k1 : World.cell? w3 ⟨w.heap.size, 1, none⟩ = some (.int .i64 0) := ((hb3.cell (p := ⟨w.heap.size, 1, none⟩) (by first | (simp; done) | (simp; omega) | omega)).trans ((hb2.cell (p := ⟨w.heap.size, 1, none⟩) (by first | (simp; done) | (simp; omega) | omega)).trans ((hb1.cell (p := ⟨w.heap.size, 1, none⟩) (by first | (simp; done) | (simp; omega) | omega)).trans (by simp [go_sem]))))
      refine bodyPost_ret (v := .tuple #[.agg #[.int .i64 0, .int .i64 0], .int .i64 3]) (by simp [results, Try.results50, go_sem, k0, k1]) rfl ⟨Var.ret_frac HN.out.symm HD.out.symm HC.out.symm, (by repeat' (first | (with_reducible exact Below.refl _ _) | (with_reducible assumption) | (with_reducible refine Base.via hb3 ?_) | (with_reducible refine Base.via hb2 ?_) | (with_reducible refine Base.via hb1 ?_) | (with_reducible refine Base.grow_alloc ?_ _) | (with_reducible refine Base.below_drewN ?_ _) | (with_reducible refine Below.drew ?_) | (with_reducible refine Below.setCell ?_ ?_ _) | go_size))⟩
    · have hc : dspC n T M p b = 0 := by rcases HDC with ⟨_, _, h⟩ | ⟨_, h, _⟩ | ⟨h, _⟩ <;> omega
      have hP1 := eP hc
      have hpq : (P == 0) = false := by simpa using hp0
      by_cases hs0 : S1 = 0
      · have ht : thC n T M p b = 6 := by rcases HTC with ⟨_, h, _⟩ | ⟨_, _, h⟩ | ⟨h, _⟩ <;> omega
        obtain ⟨z1, z2⟩ := eZ (by omega)
        have HN := Lib.hid z1
        have HD := Lib.hid z2
        have HC := Lib.hid ht
        subst hs0
        clear hc ht z1 z2 HTC HDC eN eD eP eZ
        go_enter Try.func50, Try.ntmps50
        go_wp2_with (first | (go_at_call 57; refine (c_l11Code _ _ _ T M _ _ _ (hv.below (by repeat' (first | (with_reducible exact Below.refl _ _) | (with_reducible assumption) | (with_reducible refine Base.grow_alloc ?_ _) | (with_reducible refine Base.below_drewN ?_ _) | (with_reducible refine Below.drew ?_) | (with_reducible refine Below.setCell ?_ ?_ _) | go_size)))).mono ?_; rintro e w1 ⟨rfl, hb1⟩; obtain ⟨chb1, fhb1⟩ := Base.bcell hb1; have zhb1 := (hb1).size; (try simp at zhb1); (try have yhb1 : w.heap.size < (w1).heap.size := by omega)))
        go_wp2_with fail
        refine (HI.out _ (hv.below (by repeat' (first | (with_reducible exact Below.refl _ _) | (with_reducible assumption) | (with_reducible refine Base.via hb1 ?_) | (with_reducible refine Base.grow_alloc ?_ _) | (with_reducible refine Base.below_drewN ?_ _) | (with_reducible refine Below.drew ?_) | (with_reducible refine Below.setCell ?_ ?_ _) | go_size)))).mono ?_
        rintro e w2 ⟨rfl, hb2⟩
        obtain ⟨chb2, fhb2⟩ := Base.bcell hb2
        have zhb2 := hb2.size
        have yhb2 : w.heap.size < w2.heap.size := by omega
        go_wp2_with fail
        refine (HJ.out _ (hv.below (by repeat' (first | (with_reducible exact Below.refl _ _) | (with_reducible assumption) | (with_reducible refine Base.via hb2 ?_) | (with_reducible refine Base.via hb1 ?_) | (with_reducible refine Base.grow_alloc ?_ _) | (with_reducible refine Base.below_drewN ?_ _) | (with_reducible refine Below.drew ?_) | (with_reducible refine Below.setCell ?_ ?_ _) | go_size)))).mono ?_
        rintro e w3 ⟨rfl, hb3⟩
        obtain ⟨chb3, fhb3⟩ := Base.bcell hb3
        have zhb3 := hb3.size
        have yhb3 : w.heap.size < w3.heap.size := by omega
        go_wp2
        have k0 : World.cell? w3 ⟨w.heap.size, 0, none⟩ = some (.int .i64 0) := ((hb3.cell (p := ⟨w.heap.size, 0, none⟩) (by first | (simp; done) | (simp; omega) | omega)).trans ((hb2.cell (p := ⟨w.heap.size, 0, none⟩) (by first | (simp; done) | (simp; omega) | omega)).trans ((hb1.cell (p := ⟨w.heap.size, 0, none⟩) (by first | (simp; done) | (simp; omega) | omega)).trans (by simp [go_sem]))))
        have k1 : World.cell? w3 ⟨w.heap.size, 1, none⟩ = some (.int .i64 0) := ((hb3.cell (p := ⟨w.heap.size, 1, none⟩) (by first | (simp; done) | (simp; omega) | omega)).trans ((hb2.cell (p := ⟨w.heap.size, 1, none⟩) (by first | (simp; done) | (simp; omega) | omega)).trans ((hb1.cell (p := ⟨w.heap.size, 1, none⟩) (by first | (simp; done) | (simp; omega) | omega)).trans (by simp [go_sem]))))
        refine bodyPost_ret (v := .tuple #[.agg #[.int .i64 0, .int .i64 0], .int .i64 6]) (by simp [results, Try.results50, go_sem, k0, k1]) rfl ⟨Var.ret_frac HN.out.symm HD.out.symm HC.out.symm, (by repeat' (first | (with_reducible exact Below.refl _ _) | (with_reducible assumption) | (with_reducible refine Base.via hb3 ?_) | (with_reducible refine Base.via hb2 ?_) | (with_reducible refine Base.via hb1 ?_) | (with_reducible refine Base.grow_alloc ?_ _) | (with_reducible refine Base.below_drewN ?_ _) | (with_reducible refine Below.drew ?_) | (with_reducible refine Below.setCell ?_ ?_ _) | go_size))⟩
      · have ht : thC n T M p b = 0 := by rcases HTC with ⟨_, _, h⟩ | ⟨_, h, _⟩ | ⟨h, _⟩ <;> omega
        have HN := Lib.hid (eN ht)
        have HD := Lib.hid (eD ht)
        have HC := Lib.hid ht
        have hsq : (S1 == 0) = false := by simpa using hs0
        have b1 := mul_bd (a := S) (b := P1) (A := 4840000000000) (B := 10000) (by omega) (by omega) (by omega) (by omega)
        have b2 := mul_bd (a := P) (b := S1) (A := 10000) (B := 4840000000000) (by omega) (by omega) (by omega) (by omega)
        have b3 : 1 * 1 ≤ P * S1 := Int.mul_le_mul (by omega) (by omega) (by omega) (by omega)
        clear hc ht HTC HDC eN eD eP eZ hp0 hs0
        go_enter Try.func50, Try.ntmps50
        go_wp2_with (first | (go_at_call 57; refine (c_l11Code _ _ _ T M _ _ _ (hv.below (by repeat' (first | (with_reducible exact Below.refl _ _) | (with_reducible assumption) | (with_reducible refine Base.grow_alloc ?_ _) | (with_reducible refine Base.below_drewN ?_ _) | (with_reducible refine Below.drew ?_) | (with_reducible refine Below.setCell ?_ ?_ _) | go_size)))).mono ?_; rintro e w1 ⟨rfl, hb1⟩; obtain ⟨chb1, fhb1⟩ := Base.bcell hb1; have zhb1 := (hb1).size; (try simp at zhb1); (try have yhb1 : w.heap.size < (w1).heap.size := by omega)))
        go_wp2_with fail
        refine (HI.out _ (hv.below (by repeat' (first | (with_reducible exact Below.refl _ _) | (with_reducible assumption) | (with_reducible refine Base.via hb1 ?_) | (with_reducible refine Base.grow_alloc ?_ _) | (with_reducible refine Base.below_drewN ?_ _) | (with_reducible refine Below.drew ?_) | (with_reducible refine Below.setCell ?_ ?_ _) | go_size)))).mono ?_
        rintro e w2 ⟨rfl, hb2⟩
        obtain ⟨chb2, fhb2⟩ := Base.bcell hb2
        have zhb2 := hb2.size
        have yhb2 : w.heap.size < w2.heap.size := by omega
        go_wp2_with fail
        refine (HJ.out _ (hv.below (by repeat' (first | (with_reducible exact Below.refl _ _) | (with_reducible assumption) | (with_reducible refine Base.via hb2 ?_) | (with_reducible refine Base.via hb1 ?_) | (with_reducible refine Base.grow_alloc ?_ _) | (with_reducible refine Base.below_drewN ?_ _) | (with_reducible refine Below.drew ?_) | (with_reducible refine Below.setCell ?_ ?_ _) | go_size)))).mono ?_
        rintro e w3 ⟨rfl, hb3⟩
        obtain ⟨chb3, fhb3⟩ := Base.bcell hb3
        have zhb3 := hb3.size
        have yhb3 : w.heap.size < w3.heap.size := by omega
        go_wp2_with (first | (go_at_call 97; refine (c_l02Make (S * P1) (P * S1) _ (by omega) (by omega) (by omega) (by omega)).mono ?_; rintro e w4 ⟨rfl, hb4⟩; obtain ⟨chb4, fhb4⟩ := Base.bcell hb4; have zhb4 := (hb4).size; (try simp at zhb4); (try have yhb4 : w.heap.size < (w4).heap.size := by omega)))
        have k0 : World.cell? w4 ⟨w.heap.size, 0, none⟩ = some (.int .i64 0) := ((hb4.cell (p := ⟨w.heap.size, 0, none⟩) (by first | (simp; done) | (simp; omega) | omega)).trans ((hb3.cell (p := ⟨w.heap.size, 0, none⟩) (by first | (simp; done) | (simp; omega) | omega)).trans ((hb2.cell (p := ⟨w.heap.size, 0, none⟩) (by first | (simp; done) | (simp; omega) | omega)).trans ((hb1.cell (p := ⟨w.heap.size, 0, none⟩) (by first | (simp; done) | (simp; omega) | omega)).trans (by simp [go_sem])))))
        have k1 : World.cell? w4 ⟨w.heap.size, 1, none⟩ = some (.int .i64 0) := ((hb4.cell (p := ⟨w.heap.size, 1, none⟩) (by first | (simp; done) | (simp; omega) | omega)).trans ((hb3.cell (p := ⟨w.heap.size, 1, none⟩) (by first | (simp; done) | (simp; omega) | omega)).trans ((hb2.cell (p := ⟨w.heap.size, 1, none⟩) (by first | (simp; done) | (simp; omega) | omega)).trans ((hb1.cell (p := ⟨w.heap.size, 1, none⟩) (by first | (simp; done) | (simp; omega) | omega)).trans (by simp [go_sem])))))
        refine bodyPost_ret (v := .tuple #[.agg #[.int .i64 (lowN (S * P1) (P * S1)), .int .i64 (lowD (S * P1) (P * S1))], .int .i64 0]) (by simp [results, Try.results50, go_sem, k0, k1]) rfl ⟨Var.ret_frac HN.out.symm HD.out.symm HC.out.symm, (by repeat' (first | (with_reducible exact Below.refl _ _) | (with_reducible assumption) | (with_reducible refine Base.via hb4 ?_) | (with_reducible refine Base.via hb3 ?_) | (with_reducible refine Base.via hb2 ?_) | (with_reducible refine Base.via hb1 ?_) | (with_reducible refine Base.grow_alloc ?_ _) | (with_reducible refine Base.below_drewN ?_ _) | (with_reducible refine Below.drew ?_) | (with_reducible refine Below.setCell ?_ ?_ _) | go_size))⟩
  · have hc : dspC n T M p b = binCode n T M p b := by rw [dspC, if_neg hbc]
    have ht : thC n T M p b = binCode n T M p b := by rw [thC, if_neg (by omega), hc]
    obtain ⟨z1, z2⟩ := th_zero (by omega : thC n T M p b ≠ 0)
    have HN := Lib.hid z1
    have HD := Lib.hid z2
    have HC := Lib.hid ht
    have hq : (binCode n T M p b != 0) = true := by simpa using hbc
    clear hc ht z1 z2
    go_enter Try.func50, Try.ntmps50
    go_wp2_with (first | (go_at_call 57; refine (c_l11Code _ _ _ T M _ _ _ (hv.below (by repeat' (first | (with_reducible exact Below.refl _ _) | (with_reducible assumption) | (with_reducible refine Base.grow_alloc ?_ _) | (with_reducible refine Base.below_drewN ?_ _) | (with_reducible refine Below.drew ?_) | (with_reducible refine Below.setCell ?_ ?_ _) | go_size)))).mono ?_; rintro e w1 ⟨rfl, hb1⟩; obtain ⟨chb1, fhb1⟩ := Base.bcell hb1; have zhb1 := (hb1).size; (try simp at zhb1); (try have yhb1 : w.heap.size < (w1).heap.size := by omega)))
    have k0 : World.cell? w1 ⟨w.heap.size, 0, none⟩ = some (.int .i64 0) := ((hb1.cell (p := ⟨w.heap.size, 0, none⟩) (by first | (simp; done) | (simp; omega) | omega)).trans (by simp [go_sem]))
    have k1 : World.cell? w1 ⟨w.heap.size, 1, none⟩ = some (.int .i64 0) := ((hb1.cell (p := ⟨w.heap.size, 1, none⟩) (by first | (simp; done) | (simp; omega) | omega)).trans (by simp [go_sem]))
    refine bodyPost_ret (v := .tuple #[.agg #[.int .i64 0, .int .i64 0], .int .i64 (binCode n T M p b)]) (by simp [results, Try.results50, go_sem, k0, k1]) rfl ⟨Var.ret_frac HN.out.symm HD.out.symm HC.out.symm, (by repeat' (first | (with_reducible exact Below.refl _ _) | (with_reducible assumption) | (with_reducible refine Base.via hb1 ?_) | (with_reducible refine Base.grow_alloc ?_ _) | (with_reducible refine Base.below_drewN ?_ _) | (with_reducible refine Below.drew ?_) | (with_reducible refine Below.setCell ?_ ?_ _) | go_size))⟩
theorem dspN_bd {n : Nat} {T M : Nat → Int} {p b : Int} (h : dspC n T M p b = 0) : (0 ≤ dspN n T M p b ∧ dspN n T M p b ≤ 4840000000000) ∧ (1 ≤ dspD n T M p b ∧ dspD n T M p b ≤ 10000) := by
  obtain ⟨h1, h2⟩ := dsp_yes h
  obtain ⟨hok, hp, hb⟩ := dsp_ok h1
  obtain ⟨h100, hT, hM, _⟩ := okCurve_bd hok
  have bS := inS_bd (B := binV T p b) h100 hM
  have bP := inP_bd (B := binV T p b) h100
  obtain ⟨e1, e2⟩ := dsp_parts h1 h2
  obtain ⟨g, hg, ea, eb, pb⟩ := low_parts (a := inS n (binV T p b) M) (b := inP n (binV T p b)) (by omega)
  have := low_bd (a := inS n (binV T p b) M) (b := inP n (binV T p b)) (m := 4840000000000) (by omega) (by omega) (by omega)
  rw [e1, e2]
  refine ⟨⟨?_, by omega⟩, by omega, by omega⟩
  rcases Int.lt_or_le (lowN (inS n (binV T p b) M) (inP n (binV T p b))) 0 with h | h
  · have k3 := Int.mul_le_mul_of_nonneg_right hg (show 0 ≤ -lowN (inS n (binV T p b) M) (inP n (binV T p b)) by omega)
    have k4 : g * -lowN (inS n (binV T p b) M) (inP n (binV T p b)) = -(g * lowN (inS n (binV T p b) M) (inP n (binV T p b))) := Int.mul_neg _ _
    omega
  · exact h
theorem wh_bd {n : Nat} {T M : Nat → Int} (h : whC n T M = 0) : (0 ≤ whN n T M ∧ whN n T M ≤ 4840000000000) ∧ (1 ≤ whD n T M ∧ whD n T M ≤ 10000) := by
  obtain ⟨e1, e2, e3⟩ := wh_dsp n T M
  rw [← e2, ← e3]
  exact dspN_bd (by rw [e1]; exact h)
set_option maxHeartbeats 1600000 in
theorem c_ThetaOf (A : Option Addr) (n c : Nat) (T M : Nat → Int) (p b : Int) (w : World) (hv : Sl w 2 A n c (f2 T M)) :
    Calls Try.prog 51 #[.slice A n c, .int .i64 p, .int .i64 b] w fun e w' => e = .returned (.tuple #[.agg #[.int .i64 (thN n T M p b), .int .i64 (thD n T M p b)], .int .i64 (thC n T M p b)]) ∧ Below w.heap.size w w' := by
  by_cases hdc : dspC n T M p b = 0
  · obtain ⟨hwc, hP1⟩ := wh_yes hdc
    obtain ⟨h1, h2⟩ := dsp_yes hdc
    obtain ⟨hok, hp, hb⟩ := dsp_ok h1
    obtain ⟨h100, hT, hM, _⟩ := okCurve_bd hok
    have bP := inP_bd (B := binV T p b) h100
    have bS1 := inS_bd (B := fun _ => 0) h100 hM
    obtain ⟨⟨n1, n2⟩, d1, d2⟩ := dspN_bd hdc
    obtain ⟨⟨n3, n4⟩, d3, d4⟩ := wh_bd hwc
    have eN : dspN n T M p b = lowN (inS n (binV T p b) M) (inP n (binV T p b)) := (dsp_parts h1 h2).1
    have eD : dspD n T M p b = lowD (inS n (binV T p b) M) (inP n (binV T p b)) := (dsp_parts h1 h2).2
    have eWN : whN n T M = lowN (inS n (fun _ => 0) M) (inP n (fun _ => 0)) := by rw [whN, if_pos hwc]
    have eWD : whD n T M = lowD (inS n (fun _ => 0) M) (inP n (fun _ => 0)) := by rw [whD, if_pos hwc]
    have hz : whN n T M = 0 ↔ inS n (fun _ => 0) M = 0 := by rw [eWN]; exact lowN_zero (by omega)
    have HQ : inS n (fun _ => 0) M ≠ 0 → lowN (dspN n T M p b * whD n T M) (dspD n T M p b * whN n T M) = thN n T M p b ∧ lowD (dspN n T M p b * whD n T M) (dspD n T M p b * whN n T M) = thD n T M p b := fun hs => by
      have ht : thC n T M p b = 0 := by rw [thC, if_pos hdc, if_neg hs]
      rw [thN, thD, if_pos ht, if_pos ht, eN, eD, eWN, eWD]
      exact low_quot (by omega) (by omega) (by omega)
    have HA := Lib.hid (fun W (hW : Sl W 2 A n c (f2 T M)) => c_DispersionOf A n c T M p b W hW)
    have HB := Lib.hid (fun W (hW : Sl W 2 A n c (f2 T M)) => c_WholeDispersion A n c T M W hW)
    rw [hdc] at HA
    rw [hwc] at HB
    obtain ⟨x, hx⟩ : ∃ x, x = dspN n T M p b := ⟨_, rfl⟩
    obtain ⟨y, hy⟩ : ∃ y, y = dspD n T M p b := ⟨_, rfl⟩
    obtain ⟨u, hu⟩ : ∃ u, u = whN n T M := ⟨_, rfl⟩
    obtain ⟨v, hv'⟩ : ∃ v, v = whD n T M := ⟨_, rfl⟩
    rw [← hx] at n1 n2 HA HQ
    rw [← hy] at d1 d2 HA HQ
    rw [← hu] at n3 n4 HB hz HQ
    rw [← hv'] at d3 d4 HB HQ
    have HDC := Lib.hid hdc
    clear hx hy hu hv' eN eD eWN eWD hT hM hdc hwc
    by_cases hu0 : u = 0
    · have hs := hz.1 hu0
      have ht : thC n T M p b = 6 := by rw [thC, if_pos HDC.out, if_pos hs]
      obtain ⟨z1, z2⟩ := th_zero (by omega : thC n T M p b ≠ 0)
      have HN := Lib.hid z1
      have HD := Lib.hid z2
      have HC := Lib.hid ht
      subst hu0
      clear ht z1 z2 hz HQ hs
      go_enter Try.func51, Try.ntmps51
      go_wp2_with (first | (go_at_call 49; refine (HA.out _ (hv.below (by repeat' (first | (with_reducible exact Below.refl _ _) | (with_reducible assumption) | (with_reducible refine Base.grow_alloc ?_ _) | (with_reducible refine Base.below_drewN ?_ _) | (with_reducible refine Below.drew ?_) | (with_reducible refine Below.setCell ?_ ?_ _) | go_size)))).mono ?_; rintro e w1 ⟨rfl, hb1⟩; obtain ⟨chb1, fhb1⟩ := Base.bcell hb1; have zhb1 := (hb1).size; (try simp at zhb1); (try have yhb1 : w.heap.size < (w1).heap.size := by omega)))
      go_wp2_with (first | (go_at_call 47; refine (HB.out _ (hv.below (by repeat' (first | (with_reducible exact Below.refl _ _) | (with_reducible assumption) | (with_reducible refine Base.via hb1 ?_) | (with_reducible refine Base.grow_alloc ?_ _) | (with_reducible refine Base.below_drewN ?_ _) | (with_reducible refine Below.drew ?_) | (with_reducible refine Below.setCell ?_ ?_ _) | go_size)))).mono ?_; rintro e w2 ⟨rfl, hb2⟩; obtain ⟨chb2, fhb2⟩ := Base.bcell hb2; have zhb2 := (hb2).size; (try simp at zhb2); (try have yhb2 : w.heap.size < (w2).heap.size := by omega)))
      have a0 : World.cell? w1 ⟨w.heap.size, 0, none⟩ = some (.int .i64 0) := ((hb1.cell (p := ⟨w.heap.size, 0, none⟩) (by first | (simp; done) | (simp; omega) | omega)).trans (by simp [go_sem]))
      have a1 : World.cell? w1 ⟨w.heap.size, 1, none⟩ = some (.int .i64 0) := ((hb1.cell (p := ⟨w.heap.size, 1, none⟩) (by first | (simp; done) | (simp; omega) | omega)).trans (by simp [go_sem]))
      have k0 := cell_call (show Below w1.heap.size w1 w2 from (by repeat' (first | (with_reducible exact Below.refl _ _) | (with_reducible assumption) | (with_reducible refine Base.via hb2 ?_) | (with_reducible refine Base.grow_alloc ?_ _) | (with_reducible refine Base.below_drewN ?_ _) | (with_reducible refine Below.drew ?_) | (with_reducible refine Below.setCell ?_ ?_ _) | go_size))) a0
      have k1 := cell_call (show Below w1.heap.size w1 w2 from (by repeat' (first | (with_reducible exact Below.refl _ _) | (with_reducible assumption) | (with_reducible refine Base.via hb2 ?_) | (with_reducible refine Base.grow_alloc ?_ _) | (with_reducible refine Base.below_drewN ?_ _) | (with_reducible refine Below.drew ?_) | (with_reducible refine Below.setCell ?_ ?_ _) | go_size))) a1
      refine bodyPost_ret (v := .tuple #[.agg #[.int .i64 0, .int .i64 0], .int .i64 6]) (by simp [results, Try.results51, go_sem, k0, k1, yhb2]) rfl ⟨Var.ret_frac HN.out.symm HD.out.symm HC.out.symm, (by repeat' (first | (with_reducible exact Below.refl _ _) | (with_reducible assumption) | (with_reducible refine Base.via hb2 ?_) | (with_reducible refine Base.via hb1 ?_) | (with_reducible refine Base.grow_alloc ?_ _) | (with_reducible refine Base.below_drewN ?_ _) | (with_reducible refine Below.drew ?_) | (with_reducible refine Below.setCell ?_ ?_ _) | go_size))⟩
    · have hs : inS n (fun _ => 0) M ≠ 0 := fun h => hu0 (hz.2 h)
      have ht : thC n T M p b = 0 := by rw [thC, if_pos HDC.out, if_neg hs]
      obtain ⟨q1, q2⟩ := HQ hs
      have HN := Lib.hid q1
      have HD := Lib.hid q2
      have HC := Lib.hid ht
      have huq : (u == 0) = false := by simpa using hu0
      have b1 := mul_bd (a := x) (b := v) (A := 4840000000000) (B := 10000) (by omega) (by omega) (by omega) (by omega)
      have b2 := mul_bd (a := y) (b := u) (A := 10000) (B := 4840000000000) (by omega) (by omega) (by omega) (by omega)
      have b3 : 1 * 1 ≤ y * u := Int.mul_le_mul (by omega) (by omega) (by omega) (by omega)
      clear ht q1 q2 hz HQ hs hu0
      go_enter Try.func51, Try.ntmps51
      go_wp2_with (first | (go_at_call 49; refine (HA.out _ (hv.below (by repeat' (first | (with_reducible exact Below.refl _ _) | (with_reducible assumption) | (with_reducible refine Base.grow_alloc ?_ _) | (with_reducible refine Base.below_drewN ?_ _) | (with_reducible refine Below.drew ?_) | (with_reducible refine Below.setCell ?_ ?_ _) | go_size)))).mono ?_; rintro e w1 ⟨rfl, hb1⟩; obtain ⟨chb1, fhb1⟩ := Base.bcell hb1; have zhb1 := (hb1).size; (try simp at zhb1); (try have yhb1 : w.heap.size < (w1).heap.size := by omega)))
      go_wp2_with fail
      refine (HB.out _ (hv.below (by repeat' (first | (with_reducible exact Below.refl _ _) | (with_reducible assumption) | (with_reducible refine Base.via hb1 ?_) | (with_reducible refine Base.grow_alloc ?_ _) | (with_reducible refine Base.below_drewN ?_ _) | (with_reducible refine Below.drew ?_) | (with_reducible refine Below.setCell ?_ ?_ _) | go_size)))).mono ?_
      rintro e w2 ⟨rfl, hb2⟩
      obtain ⟨chb2, fhb2⟩ := Base.bcell hb2
      have zhb2 := hb2.size
      simp at zhb2
      have yhb2 : w.heap.size < w2.heap.size := by omega
      have y12 : w1.heap.size < w2.heap.size := by omega
      go_wp2_with (first | (go_at_call 99; refine (c_lowest (x * v) (y * u) _ (by omega) (by omega) (by omega) (by omega) (by omega)).mono ?_; rintro e w3 ⟨rfl, hb3⟩; obtain ⟨chb3, fhb3⟩ := Base.bcell hb3; have zhb3 := (hb3).size; (try simp at zhb3); (try have yhb3 : w.heap.size < (w3).heap.size := by omega)))
      have a0 : World.cell? w1 ⟨w.heap.size, 0, none⟩ = some (.int .i64 0) := ((hb1.cell (p := ⟨w.heap.size, 0, none⟩) (by first | (simp; done) | (simp; omega) | omega)).trans (by simp [go_sem]))
      have a1 : World.cell? w1 ⟨w.heap.size, 1, none⟩ = some (.int .i64 0) := ((hb1.cell (p := ⟨w.heap.size, 1, none⟩) (by first | (simp; done) | (simp; omega) | omega)).trans (by simp [go_sem]))
      have k0 := cell_call (show Below w1.heap.size w1 w3 from (by repeat' (first | (with_reducible exact Below.refl _ _) | (with_reducible assumption) | (with_reducible refine Base.via hb3 ?_) | (with_reducible refine Base.via hb2 ?_) | (with_reducible refine Base.grow_alloc ?_ _) | (with_reducible refine Base.below_drewN ?_ _) | (with_reducible refine Below.drew ?_) | (with_reducible refine Below.setCell ?_ ?_ _) | go_size))) a0
      have k1 := cell_call (show Below w1.heap.size w1 w3 from (by repeat' (first | (with_reducible exact Below.refl _ _) | (with_reducible assumption) | (with_reducible refine Base.via hb3 ?_) | (with_reducible refine Base.via hb2 ?_) | (with_reducible refine Base.grow_alloc ?_ _) | (with_reducible refine Base.below_drewN ?_ _) | (with_reducible refine Below.drew ?_) | (with_reducible refine Below.setCell ?_ ?_ _) | go_size))) a1
      refine bodyPost_ret (v := .tuple #[.agg #[.int .i64 (lowN (x * v) (y * u)), .int .i64 (lowD (x * v) (y * u))], .int .i64 0]) (by simp [results, Try.results51, go_sem, k0, k1]) rfl ⟨Var.ret_frac HN.out HD.out HC.out.symm, (by repeat' (first | (with_reducible exact Below.refl _ _) | (with_reducible assumption) | (with_reducible refine Base.via hb3 ?_) | (with_reducible refine Base.via hb2 ?_) | (with_reducible refine Base.via hb1 ?_) | (with_reducible refine Base.grow_alloc ?_ _) | (with_reducible refine Base.below_drewN ?_ _) | (with_reducible refine Below.drew ?_) | (with_reducible refine Below.setCell ?_ ?_ _) | go_size))⟩
  · have ht : thC n T M p b = dspC n T M p b := by rw [thC, if_neg hdc]
    obtain ⟨z1, z2⟩ := th_zero (by omega : thC n T M p b ≠ 0)
    obtain ⟨y1, y2⟩ := dsp_zero hdc
    have HN := Lib.hid z1
    have HD := Lib.hid z2
    have HC := Lib.hid ht
    have hq : (dspC n T M p b != 0) = true := by simpa using hdc
    have HA := Lib.hid (fun W (hW : Sl W 2 A n c (f2 T M)) => c_DispersionOf A n c T M p b W hW)
    rw [y1, y2] at HA
    clear ht z1 z2 y1 y2
    go_enter Try.func51, Try.ntmps51
    go_wp2_with (first | (go_at_call 49; refine (HA.out _ (hv.below (by repeat' (first | (with_reducible exact Below.refl _ _) | (with_reducible assumption) | (with_reducible refine Base.grow_alloc ?_ _) | (with_reducible refine Base.below_drewN ?_ _) | (with_reducible refine Below.drew ?_) | (with_reducible refine Below.setCell ?_ ?_ _) | go_size)))).mono ?_; rintro e w1 ⟨rfl, hb1⟩; obtain ⟨chb1, fhb1⟩ := Base.bcell hb1; have zhb1 := (hb1).size; (try simp at zhb1); (try have yhb1 : w.heap.size < (w1).heap.size := by omega)))
    have k0 : World.cell? w1 ⟨w.heap.size, 0, none⟩ = some (.int .i64 0) := ((hb1.cell (p := ⟨w.heap.size, 0, none⟩) (by first | (simp; done) | (simp; omega) | omega)).trans (by simp [go_sem]))
    have k1 : World.cell? w1 ⟨w.heap.size, 1, none⟩ = some (.int .i64 0) := ((hb1.cell (p := ⟨w.heap.size, 1, none⟩) (by first | (simp; done) | (simp; omega) | omega)).trans (by simp [go_sem]))
    refine bodyPost_ret (v := .tuple #[.agg #[.int .i64 0, .int .i64 0], .int .i64 (dspC n T M p b)]) (by simp [results, Try.results51, go_sem, k0, k1, yhb1]) rfl ⟨Var.ret_frac HN.out.symm HD.out.symm HC.out.symm, (by repeat' (first | (with_reducible exact Below.refl _ _) | (with_reducible assumption) | (with_reducible refine Base.via hb1 ?_) | (with_reducible refine Base.grow_alloc ?_ _) | (with_reducible refine Base.below_drewN ?_ _) | (with_reducible refine Below.drew ?_) | (with_reducible refine Below.setCell ?_ ?_ _) | go_size))⟩
end Go.Proofs.Ytiinjnghnfofpaa.Disp
