/- The dispersion for a period, the whole one, the quotient of both. -/
import Derived.Test.YtenjcdhehjdeoaaDisp
namespace Go.Proofs.Ytenjcdhehjdeoaa.Disp
set_option linter.unusedVariables false
set_option linter.unusedSimpArgs false
set_option maxRecDepth 8000
open Go.RowKit Plain Num View Mags Curve Curve2 Bins DisB Frac

def sqIf (B M : Nat → Int) (i j : Nat) : Int := if B i = B j then (M i - M j) * (M i - M j) else 0
def oneIf (B : Nat → Int) (i j : Nat) : Int := if B i = B j then 1 else 0
theorem sqIf_bd {n : Nat} {B M : Nat → Int} (hM : ∀ i, i < n → -2000 ≤ M i ∧ M i ≤ 20000) {i j : Nat} (hi : i < n) (hj : j < n) : 0 ≤ sqIf B M i j ∧ sqIf B M i j ≤ 484000000 := by
  have := sq_bd (hM i hi) (hM j hj)
  unfold sqIf
  split <;> omega
theorem rowS_bd {n : Nat} {B M : Nat → Int} (hn : n ≤ 100) (hM : ∀ i, i < n → -2000 ≤ M i ∧ M i ≤ 20000) {i q : Nat} (hi : i < n) (hq : q ≤ i) : (0 ≤ sumB q (sqIf B M i) ∧ sumB q (sqIf B M i) ≤ 48400000000) ∧ (0 ≤ sumB q (oneIf B i) ∧ sumB q (oneIf B i) ≤ 100) := by
  have h1 := sumB_bd (k := q) (f := sqIf B M i) (a := 0) (b := 484000000) (fun j hj => sqIf_bd hM hi (by omega))
  have h2 := sumB_bd (k := q) (f := oneIf B i) (a := 0) (b := 1) (fun j hj => by unfold oneIf; split <;> omega)
  omega
theorem inS_part {n : Nat} {B M : Nat → Int} (hn : n ≤ 100) (hM : ∀ i, i < n → -2000 ≤ M i ∧ M i ≤ 20000) {k : Nat} (hk : k ≤ n) : 0 ≤ inS k B M ∧ inS k B M ≤ 4840000000000 := inS_bd (by omega) (fun i hi => hM i (by omega))
set_option maxHeartbeats 1600000 in
theorem c_l11Inside (A : Option Addr) (n c : Nat) (T M : Nat → Int) (p b : Int) (w : World) (hv : Sl w 2 A n c (f2 T M)) (h100 : n ≤ 100) (hT : ∀ i, i < n → 0 ≤ T i ∧ T i ≤ 10000000) (hM : ∀ i, i < n → -2000 ≤ M i ∧ M i ≤ 20000) (hp : 1 ≤ p ∧ p ≤ 1000000) (hb : 1 ≤ b ∧ b ≤ 20) :
    Calls Try.prog 91 #[.slice A n c, .int .i64 p, .int .i64 b] w fun e w' => e = .returned (.tuple #[.int .i64 (inS n (binV T p b) M), .int .i64 (inP n (binV T p b))]) ∧ Below w.heap.size w w' := by
  have hn := hv.le
  have HT := Lib.hid hT
  have HM := Lib.hid hM
  clear hT hM
  go_enter Try.func91, Try.ntmps91
  go_wp2_with (first | (go_at_call 105; refine (c_l11Bins _ _ _ T M p b _ (hv.below (by repeat' (first | (with_reducible exact Below.refl _ _) | (with_reducible assumption) | (with_reducible refine Base.grow_alloc ?_ _) | (with_reducible refine Base.below_drewN ?_ _) | (with_reducible refine Below.drew ?_) | (with_reducible refine Below.setCell ?_ ?_ _) | go_size))) HT.out hp hb).mono ?_))
  rintro e w1 ⟨v1, rfl, ho1, hb1⟩
  obtain ⟨A1, c1, rfl, V1, _⟩ := ho1.view
  have hvw := hv.below hb1
  clear ho1
  obtain ⟨Bf, hBf⟩ : ∃ Bf, Bf = binV T p b := ⟨_, rfl⟩
  rw [← hBf] at V1
  have HBF := Lib.hid hBf
  clear hBf
  go_wp2
  go_loopw [9, 10, 11] (fun s t i wr => ∃ k : Nat, k ≤ n ∧ i = .int .i64 k ∧ s = .int .i64 (inS k Bf M) ∧ t = .int .i64 (inP k Bf) ∧ Below w1.heap.size w1 wr) (fun _ _ i _ => n - (intOf i).toNat)
  case atStart => exact ⟨0, Nat.zero_le _, rfl, rfl, rfl, (by repeat' (first | (with_reducible exact Below.refl _ _) | (with_reducible assumption) | (with_reducible refine Base.grow_alloc ?_ _) | (with_reducible refine Base.below_drewN ?_ _) | (with_reducible refine Below.drew ?_) | (with_reducible refine Below.setCell ?_ ?_ _) | go_size))⟩
  case round =>
    obtain ⟨k, hk, rfl, rfl, rfl, hbr⟩ := hrel
    have b0 := inS_part (B := Bf) h100 HM.out hk
    have b1 := inP_bd (n := k) (B := Bf) (by omega)
    by_cases hlt : k < n
    · have HS1 := Lib.hid (show inS (k + 1) Bf M = inS k Bf M + sumB k (sqIf Bf M k) from rfl)
      have HP1 := Lib.hid (show inP (k + 1) Bf = inP k Bf + sumB k (oneIf Bf k) from rfl)
      go_wp2
      go_loopw [9, 10, 12, 13] (fun s t j _ wr => ∃ q : Nat, q ≤ k ∧ j = .int .i64 q ∧ s = .int .i64 (inS k Bf M + sumB q (sqIf Bf M k)) ∧ t = .int .i64 (inP k Bf + sumB q (oneIf Bf k)) ∧ Below w1.heap.size w1 wr) (fun _ _ j _ _ => k - (intOf j).toNat)
      case atStart => exact ⟨0, Nat.zero_le _, rfl, by simp [sumB], by simp [sumB], hbr⟩
      case round =>
        obtain ⟨q, hq, rfl, rfl, rfl, hbq⟩ := hrel
        have r0 := rowS_bd (B := Bf) h100 HM.out hlt hq
        by_cases hlq : q < k
        · obtain ⟨bb, off, rfl, hbb, hc⟩ := (hvw.below hbq).at_ (by omega)
          obtain ⟨b', off', rfl, hb', hc'⟩ := (V1.below hbq).at_ (by omega)
          obtain ⟨_, h0⟩ := cells2 hc k hlt
          obtain ⟨_, h1⟩ := cells2 hc q (by omega)
          have g0 := cells1 hc' k hlt
          have g1 := cells1 hc' q (by omega)
          have mk := HM.out k hlt
          have mq := HM.out q (by omega)
          have sb := sq_bd mk mq
          have HS2 := Lib.hid (show sumB (q + 1) (sqIf Bf M k) = sumB q (sqIf Bf M k) + sqIf Bf M k q from rfl)
          have HP2 := Lib.hid (show sumB (q + 1) (oneIf Bf k) = sumB q (oneIf Bf k) + oneIf Bf k q from rfl)
          clear hc hc'
          by_cases he : Bf k = Bf q
          · have HE1 := Lib.hid (show sqIf Bf M k q = (M k - M q) * (M k - M q) by rw [sqIf, if_pos he])
            have HE2 := Lib.hid (show oneIf Bf k q = 1 by rw [oneIf, if_pos he])
            have e1 : IntKind.i64.wrap (M k - M q) = M k - M q := IntWalk.i64_in _ (by omega)
            have he' : (Bf k == Bf q) = true := by simpa using he
            clear he
            go_wp2
            go_quiet (fail)
            go_wp2
            go_quiet (fail)
            clear e1
            go_wp2
            go_roundw
            case rel => exact ⟨q + 1, by omega, by go_num, by rw [HS2.out, HE1.out]; go_num, by rw [HP2.out, HE2.out]; go_num, (by repeat' (first | (with_reducible exact Below.refl _ _) | (with_reducible assumption) | (with_reducible refine Base.grow_alloc ?_ _) | (with_reducible refine Base.below_drewN ?_ _) | (with_reducible refine Below.drew ?_) | (with_reducible refine Below.setCell ?_ ?_ _) | go_size))⟩
            case measure => simp [intOf]; omega
          · have HE1 := Lib.hid (show sqIf Bf M k q = 0 by rw [sqIf, if_neg he])
            have HE2 := Lib.hid (show oneIf Bf k q = 0 by rw [oneIf, if_neg he])
            have he' : (Bf k == Bf q) = false := by simpa using he
            go_wp2
            go_quiet (fail)
            go_wp2
            go_roundw
            case rel => exact ⟨q + 1, by omega, by go_num, by rw [HS2.out, HE1.out]; go_num, by rw [HP2.out, HE2.out]; go_num, (by repeat' (first | (with_reducible exact Below.refl _ _) | (with_reducible assumption) | (with_reducible refine Base.grow_alloc ?_ _) | (with_reducible refine Base.below_drewN ?_ _) | (with_reducible refine Below.drew ?_) | (with_reducible refine Below.setCell ?_ ?_ _) | go_size))⟩
            case measure => simp [intOf]; omega
        · have hqk : q = k := by omega
          subst hqk
          go_wp2
          go_roundw
          case rel => exact ⟨q + 1, by omega, by go_num, by rw [HS1.out], by rw [HP1.out], hbq⟩
          case measure => simp [intOf]; omega
    · have hkn : k = n := by omega
      subst hkn
      go_wp2
      go_ret2
      exact ⟨Curve2.ret_pair (by rw [HBF.out]) (by rw [HBF.out]), (by repeat' (first | (with_reducible exact Below.refl _ _) | (with_reducible assumption) | (with_reducible refine Base.via hbr ?_) | (with_reducible refine Base.via hb1 ?_) | (with_reducible refine Base.grow_alloc ?_ _) | (with_reducible refine Base.below_drewN ?_ _) | (with_reducible refine Below.drew ?_) | (with_reducible refine Below.setCell ?_ ?_ _) | go_size))⟩
def dspC (n : Nat) (T M : Nat → Int) (p b : Int) : Int := if binCode n T M p b = 0 then (if inP n (binV T p b) = 0 then 3 else 0) else binCode n T M p b
def dspN (n : Nat) (T M : Nat → Int) (p b : Int) : Int := if dspC n T M p b = 0 then lowN (inS n (binV T p b) M) (inP n (binV T p b)) else 0
def dspD (n : Nat) (T M : Nat → Int) (p b : Int) : Int := if dspC n T M p b = 0 then lowD (inS n (binV T p b) M) (inP n (binV T p b)) else 0
theorem dsp_cases (n : Nat) (T M : Nat → Int) (p b : Int) : (binCode n T M p b = 0 ∧ inP n (binV T p b) ≠ 0 ∧ dspC n T M p b = 0) ∨ (binCode n T M p b = 0 ∧ inP n (binV T p b) = 0 ∧ dspC n T M p b = 3) ∨ (binCode n T M p b ≠ 0 ∧ dspC n T M p b = binCode n T M p b) := by
  unfold dspC
  by_cases h : binCode n T M p b = 0 <;> by_cases h2 : inP n (binV T p b) = 0 <;> simp [h, h2]
theorem dsp_ok {n : Nat} {T M : Nat → Int} {p b : Int} (h : binCode n T M p b = 0) : okCurve n T M = true ∧ (1 ≤ p ∧ p ≤ 1000000) ∧ (1 ≤ b ∧ b ≤ 20) := by
  rcases bin_cases n T M p b with ⟨h1, h2, h3, _⟩ | ⟨_, _, hc⟩ | ⟨_, _, _, hc⟩ | ⟨_, hc⟩
  · exact ⟨h1, inB_iff.1 h2, inB_iff.1 h3⟩
  all_goals omega
theorem dsp_parts {n : Nat} {T M : Nat → Int} {p b : Int} (h : binCode n T M p b = 0) (h2 : inP n (binV T p b) ≠ 0) : dspN n T M p b = lowN (inS n (binV T p b) M) (inP n (binV T p b)) ∧ dspD n T M p b = lowD (inS n (binV T p b) M) (inP n (binV T p b)) := by
  have : dspC n T M p b = 0 := by rw [dspC, if_pos h, if_neg h2]
  rw [dspN, dspD, if_pos this, if_pos this]
  exact ⟨rfl, rfl⟩
theorem dsp_zero {n : Nat} {T M : Nat → Int} {p b : Int} (h : dspC n T M p b ≠ 0) : dspN n T M p b = 0 ∧ dspD n T M p b = 0 := by
  rw [dspN, dspD, if_neg h, if_neg h]
  exact ⟨rfl, rfl⟩
theorem binV_one {T : Nat → Int} {p : Int} (hp : 1 ≤ p ∧ p ≤ 1000000) : binV T p 1 = fun _ => 0 := by
  funext i
  obtain ⟨_, _, _, _, h5, h6, _⟩ := bin_bd (T := T) hp (show 1 ≤ (1 : Int) ∧ (1 : Int) ≤ 20 by omega) i
  omega
/-- the whole dispersion -/
def whC (n : Nat) (T M : Nat → Int) : Int := if okCurve n T M = true then (if inP n (fun _ => 0) = 0 then 3 else 0) else 1
def whN (n : Nat) (T M : Nat → Int) : Int := if whC n T M = 0 then lowN (inS n (fun _ => 0) M) (inP n (fun _ => 0)) else 0
def whD (n : Nat) (T M : Nat → Int) : Int := if whC n T M = 0 then lowD (inS n (fun _ => 0) M) (inP n (fun _ => 0)) else 0
theorem wh_cases (n : Nat) (T M : Nat → Int) : (okCurve n T M = true ∧ inP n (fun _ => 0) ≠ 0 ∧ whC n T M = 0) ∨ (okCurve n T M = true ∧ inP n (fun _ => 0) = 0 ∧ whC n T M = 3) ∨ (okCurve n T M = false ∧ whC n T M = 1) := by
  unfold whC
  cases h : okCurve n T M <;> by_cases h2 : inP n (fun _ => 0) = 0 <;> simp [h2]
theorem wh_dsp (n : Nat) (T M : Nat → Int) : dspC n T M 1 1 = whC n T M ∧ dspN n T M 1 1 = whN n T M ∧ dspD n T M 1 1 = whD n T M := by
  have e := binV_one (T := T) (p := 1) (by omega)
  have h1 : inB 1 1 1000000 = true := inB_yes (by omega) (by omega)
  have h2 : inB 1 1 20 = true := inB_yes (by omega) (by omega)
  have hC : dspC n T M 1 1 = whC n T M := by
    unfold dspC whC binCode
    rw [e, h1, h2]
    cases okCurve n T M <;> simp
  refine ⟨hC, ?_, ?_⟩
  · rw [dspN, whN, hC, e]
  · rw [dspD, whD, hC, e]
end Go.Proofs.Ytenjcdhehjdeoaa.Disp
