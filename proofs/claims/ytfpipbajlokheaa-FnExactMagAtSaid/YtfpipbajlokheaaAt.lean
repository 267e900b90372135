/- The magnitude of a curve at a time. -/
import Derived.Test.YtfpipbajlokheaaCurve2
import Derived.Test.YtfpipbajlokheaaFrac
namespace Go.Proofs.Ytfpipbajlokheaa.At
set_option linter.unusedVariables false
set_option linter.unusedSimpArgs false
open Go.RowKit Plain Num View Curve Curve2 Frac

theorem mul_bd {a b A B : Int} (h1 : -A ≤ a) (h2 : a ≤ A) (h3 : 0 ≤ b) (h4 : b ≤ B) : -(A * B) ≤ a * b ∧ a * b ≤ A * B := by
  have e1 : a * b ≤ A * b := Int.mul_le_mul_of_nonneg_right h2 h3
  have e2 : A * b ≤ A * B := Int.mul_le_mul_of_nonneg_left h4 (by omega)
  have e3 : -A * b ≤ a * b := Int.mul_le_mul_of_nonneg_right h1 h3
  have e4 : -A * b = -(A * b) := Int.neg_mul _ _
  omega
/-- the interpolation before point k -/
def itp (T M : Nat → Int) (t : Int) (k : Nat) : Int := nrI (M (k - 1) * (T k - T (k - 1)) + (M k - M (k - 1)) * (t - T (k - 1))) (T k - T (k - 1))
def atV (T M : Nat → Int) (t : Int) (k : Nat) : Int := if T k = t then M k else if k = 0 then 0 else itp T M t k
def atB (T : Nat → Int) (t : Int) (k : Nat) : Bool := decide (T k = t) || decide (0 < k)
/-- the first point at or behind a time -/
def atI (n : Nat) (T : Nat → Int) (t : Int) : Option Nat := (List.range n).find? fun i => decide (t ≤ T i)
theorem atI_hit {n k : Nat} {T : Nat → Int} {t : Int} (hk : k < n) (h : t ≤ T k) (hb : allB k (fun i => decide (T i < t)) = true) : atI n T t = some k :=
  List.find?_range_eq_some.2 ⟨by simpa using h, List.mem_range.2 hk, fun j hj => by have := allB_iff.1 hb j hj; simp at this ⊢; omega⟩
theorem atI_miss {n : Nat} {T : Nat → Int} {t : Int} (hb : allB n (fun i => decide (T i < t)) = true) : atI n T t = none :=
  List.find?_range_eq_none.2 (fun j hj => by have := allB_iff.1 hb j hj; simp at this ⊢; omega)
def magV (n : Nat) (T M : Nat → Int) (t : Int) : Int := if okCurve n T M = true ∧ inB t 0 10000000 = true then (match atI n T t with | some k => if atB T t k = true then atV T M t k else 0 | none => 0) else 0
def magC (n : Nat) (T M : Nat → Int) (t : Int) : Int := if okCurve n T M = true then (if inB t 0 10000000 = true then (match atI n T t with | some k => if atB T t k = true then 0 else 3 | none => 3) else 2) else 1
theorem mag_hit {n k : Nat} {T M : Nat → Int} {t : Int} (h1 : okCurve n T M = true) (h2 : inB t 0 10000000 = true) (hi : atI n T t = some k) (hb : atB T t k = true) : magV n T M t = atV T M t k ∧ magC n T M t = 0 := by
  simp [magV, magC, h1, h2, hi, hb]
theorem mag_none {n : Nat} {T M : Nat → Int} {t : Int} (h1 : okCurve n T M = true) (h2 : inB t 0 10000000 = true) (hi : atI n T t = none ∨ ∃ k, atI n T t = some k ∧ atB T t k = false) : magV n T M t = 0 ∧ magC n T M t = 3 := by
  rcases hi with hi | ⟨k, hi, hb⟩
  · simp [magV, magC, h1, h2, hi]
  · simp [magV, magC, h1, h2, hi, hb]
theorem mono0 {n : Nat} {T : Nat → Int} (h : ∀ i, 0 < i → i < n → T (i - 1) < T i) : ∀ {k : Nat}, k < n → T 0 ≤ T k
  | 0, _ => Int.le_refl _
  | k + 1, hk => by
    have h1 := mono0 h (k := k) (by omega)
    have h2 := h (k + 1) (by omega) hk
    simp only [Nat.add_sub_cancel] at h2
    omega
theorem itp_bd {T M : Nat → Int} {t : Int} {k : Nat} (hT : 0 ≤ T (k - 1) ∧ T (k - 1) ≤ 10000000) (hT2 : 0 ≤ T k ∧ T k ≤ 10000000) (hM : -2000 ≤ M (k - 1) ∧ M (k - 1) ≤ 20000) (hM2 : -2000 ≤ M k ∧ M k ≤ 20000) (h1 : T (k - 1) ≤ t) (h2 : t ≤ 10000000) (h3 : T (k - 1) < T k) :
    (-200000000000 ≤ M (k - 1) * (T k - T (k - 1)) ∧ M (k - 1) * (T k - T (k - 1)) ≤ 200000000000) ∧ (-220000000000 ≤ (M k - M (k - 1)) * (t - T (k - 1)) ∧ (M k - M (k - 1)) * (t - T (k - 1)) ≤ 220000000000) := by
  have a := mul_bd (a := M (k - 1)) (b := T k - T (k - 1)) (A := 20000) (B := 10000000) (by omega) (by omega) (by omega) (by omega)
  have b := mul_bd (a := M k - M (k - 1)) (b := t - T (k - 1)) (A := 22000) (B := 10000000) (by omega) (by omega) (by omega) (by omega)
  omega
set_option maxHeartbeats 1600000 in
theorem c_l08At (A : Option Addr) (n c : Nat) (T M : Nat → Int) (t : Int) (w : World) (hv : Sl w 2 A n c (f2 T M)) (h1 : okCurve n T M = true) (h2 : inB t 0 10000000 = true) :
    Calls Try.prog 85 #[.slice A n c, .int .i64 t] w fun e w' => (∃ v b, e = .returned (.tuple #[.int .i64 v, .bool b]) ∧ ((b = true ∧ v = magV n T M t ∧ magC n T M t = 0) ∨ (b = false ∧ magV n T M t = 0 ∧ magC n T M t = 3))) ∧ Below w.heap.size w w' := by
  obtain ⟨h100, hT, hM, hI⟩ := okCurve_bd h1
  obtain ⟨ht0, ht1⟩ := inB_iff.1 h2
  have HT := Lib.hid hT
  have HM := Lib.hid hM
  have HI := Lib.hid hI
  have H1 := Lib.hid h1
  have H2 := Lib.hid h2
  clear hT hM hI h1 h2
  go_enter Try.func85, Try.ntmps85
  go_wp2
  go_loopw [6, 7] (fun i _ wr => ∃ k : Nat, k ≤ n ∧ i = .int .i64 k ∧ Hid (allB k (fun i => decide (T i < t)) = true) ∧ Below w.heap.size w wr) (fun i _ _ => n - (intOf i).toNat)
  case atStart => exact ⟨0, Nat.zero_le _, rfl, (show allB 0 (fun i => decide (T i < t)) = true from rfl), (by repeat' (first | (with_reducible exact Below.refl _ _) | (with_reducible assumption) | (with_reducible refine Base.grow_alloc ?_ _) | (with_reducible refine Base.below_drewN ?_ _) | (with_reducible refine Below.drew ?_) | (with_reducible refine Below.setCell ?_ ?_ _) | go_size))⟩
  case round =>
    obtain ⟨k, hk, rfl, hall, hbr⟩ := hrel
    by_cases hlt : k < n
    · obtain ⟨b, off, rfl, hb, hc⟩ := (hv.below hbr).at_ (by omega)
      obtain ⟨c0, c1⟩ := cells2 hc k hlt
      have tk := HT.out k hlt
      have mk := HM.out k hlt
      by_cases heq : T k = t
      · have HR := Lib.hid (mag_hit H1.out H2.out (atI_hit hlt (by omega) hall.out) (by simp [atB, heq]))
        have HV := Lib.hid (show M k = atV T M t k by rw [atV, if_pos heq])
        clear hc
        subst heq
        go_wp2
        go_ret2
        exact ⟨⟨_, _, rfl, .inl ⟨rfl, HV.out.trans HR.out.1.symm, HR.out.2⟩⟩, (by repeat' (first | (with_reducible exact Below.refl _ _) | (with_reducible assumption) | (with_reducible refine Base.grow_alloc ?_ _) | (with_reducible refine Base.below_drewN ?_ _) | (with_reducible refine Below.drew ?_) | (with_reducible refine Below.setCell ?_ ?_ _) | go_size))⟩
      · have heq' : (T k == t) = false := by simpa using heq
        by_cases hgt : t < T k
        · by_cases hk0 : k = 0
          · subst hk0
            simp only [Nat.zero_mul, Nat.add_zero] at c0 c1
            have HR := Lib.hid (mag_none H1.out H2.out (.inr ⟨0, atI_hit hlt (by omega) hall.out, by simp [atB, heq]⟩))
            clear hc
            go_wp2
            go_ret2
            exact ⟨⟨_, _, rfl, .inr ⟨rfl, HR.out.1, HR.out.2⟩⟩, (by repeat' (first | (with_reducible exact Below.refl _ _) | (with_reducible assumption) | (with_reducible refine Base.grow_alloc ?_ _) | (with_reducible refine Base.below_drewN ?_ _) | (with_reducible refine Below.drew ?_) | (with_reducible refine Below.setCell ?_ ?_ _) | go_size))⟩
          · obtain ⟨d0, d1⟩ := cells2 hc (k - 1) (by omega)
            have tj := HT.out (k - 1) (by omega)
            have mj := HM.out (k - 1) (by omega)
            have hst := HI.out k (by omega) hlt
            have hle : T (k - 1) ≤ t := by have := allB_iff.1 hall.out (k - 1) (by omega); simp at this; omega
            obtain ⟨⟨b1, b2⟩, b3, b4⟩ := itp_bd tj tk mj mk hle ht1 hst
            have HR := Lib.hid (mag_hit H1.out H2.out (atI_hit hlt (by omega) hall.out) (by simp [atB]; omega))
            have HV := Lib.hid (show itp T M t k = atV T M t k by rw [atV, if_neg heq, if_neg hk0])
            have hk0' : ((k : Int) == 0) = false := by simp; omega
            clear hc
            go_wp2_with (first | (go_at_call 57; refine (c_l02Round _ _ _ (by omega) (by omega) (by omega) (by omega)).mono ?_; rintro e w' ⟨rfl, rfl⟩))
            go_ret2
            exact ⟨⟨_, _, rfl, .inl ⟨rfl, HV.out.trans HR.out.1.symm, HR.out.2⟩⟩, (by repeat' (first | (with_reducible exact Below.refl _ _) | (with_reducible assumption) | (with_reducible refine Base.grow_alloc ?_ _) | (with_reducible refine Base.below_drewN ?_ _) | (with_reducible refine Below.drew ?_) | (with_reducible refine Below.setCell ?_ ?_ _) | go_size))⟩
        · have HA := Lib.hid (allB_yes hall.out (by simp; omega))
          clear hc
          go_wp2
          go_roundw
          case rel => exact ⟨k + 1, by omega, by go_num, HA.out, (by repeat' (first | (with_reducible exact Below.refl _ _) | (with_reducible assumption) | (with_reducible refine Base.grow_alloc ?_ _) | (with_reducible refine Base.below_drewN ?_ _) | (with_reducible refine Below.drew ?_) | (with_reducible refine Below.setCell ?_ ?_ _) | go_size))⟩
          case measure => simp [intOf]; omega
    · have hkn : k = n := by omega
      subst hkn
      have HR := Lib.hid (mag_none H1.out H2.out (.inl (atI_miss hall.out)))
      go_wp2
      go_ret2
      exact ⟨⟨_, _, rfl, .inr ⟨rfl, HR.out.1, HR.out.2⟩⟩, hbr⟩
set_option maxHeartbeats 800000 in
theorem c_specMagAt (A : Option Addr) (n c : Nat) (T M : Nat → Int) (t : Int) (w : World) (hv : Sl w 2 A n c (f2 T M)) :
    Calls Try.prog 34 #[.slice A n c, .int .i64 t] w fun e w' => e = .returned (.tuple #[.int .i64 (magV n T M t), .int .i64 (magC n T M t)]) ∧ Below w.heap.size w w' := by
  cases h1 : okCurve n T M
  · have HR := Lib.hid (show (0 : Int) = magV n T M t ∧ (1 : Int) = magC n T M t by simp [magV, magC, h1])
    go_enter Try.func34, Try.ntmps34
    go_wp2_with (first | (go_at_call 69; refine (c_l08Ok _ _ _ T M _ hv).mono ?_; rintro e w1 ⟨rfl, hb1⟩; obtain ⟨chb1, fhb1⟩ := Base.bcell hb1; have zhb1 := (hb1).size; (try simp at zhb1); (try have yhb1 : w.heap.size < (w1).heap.size := by omega)))
    go_ret2
    exact ⟨ret_pair HR.out.1 HR.out.2, (by repeat' (first | (with_reducible exact Below.refl _ _) | (with_reducible assumption) | (with_reducible refine Base.via hb1 ?_) | (with_reducible refine Base.grow_alloc ?_ _) | (with_reducible refine Base.below_drewN ?_ _) | (with_reducible refine Below.drew ?_) | (with_reducible refine Below.setCell ?_ ?_ _) | go_size))⟩
  · cases h2 : inB t 0 10000000
    · have HR := Lib.hid (show (0 : Int) = magV n T M t ∧ (2 : Int) = magC n T M t by simp [magV, magC, h1, h2])
      go_enter Try.func34, Try.ntmps34
      go_wp2_with (first | (go_at_call 69; refine (c_l08Ok _ _ _ T M _ hv).mono ?_; rintro e w1 ⟨rfl, hb1⟩; obtain ⟨chb1, fhb1⟩ := Base.bcell hb1; have zhb1 := (hb1).size; (try simp at zhb1); (try have yhb1 : w.heap.size < (w1).heap.size := by omega)) | (go_at_call 84; refine (c_l06Time _ _).mono ?_; rintro e w' ⟨rfl, rfl⟩))
      go_ret2
      exact ⟨ret_pair HR.out.1 HR.out.2, (by repeat' (first | (with_reducible exact Below.refl _ _) | (with_reducible assumption) | (with_reducible refine Base.via hb1 ?_) | (with_reducible refine Base.grow_alloc ?_ _) | (with_reducible refine Base.below_drewN ?_ _) | (with_reducible refine Below.drew ?_) | (with_reducible refine Below.setCell ?_ ?_ _) | go_size))⟩
    · go_enter Try.func34, Try.ntmps34
      go_wp2_with (first | (go_at_call 69; refine (c_l08Ok _ _ _ T M _ hv).mono ?_; rintro e w1 ⟨rfl, hb1⟩; obtain ⟨chb1, fhb1⟩ := Base.bcell hb1; have zhb1 := (hb1).size; (try simp at zhb1); (try have yhb1 : w.heap.size < (w1).heap.size := by omega)) | (go_at_call 84; refine (c_l06Time _ _).mono ?_; rintro e w' ⟨rfl, rfl⟩) | (go_at_call 85; refine (c_l08At _ _ _ T M t _ (hv.below hb1) h1 h2).mono ?_))
      rintro e w2 ⟨⟨v, b, rfl, h⟩, hb2⟩
      rcases h with ⟨rfl, rfl, hc⟩ | ⟨rfl, hv0, hc⟩
      · have HC := Lib.hid hc
        clear hc
        go_wp2
        go_ret2
        exact ⟨ret_pair rfl HC.out.symm, (by repeat' (first | (with_reducible exact Below.refl _ _) | (with_reducible assumption) | (with_reducible refine Base.via hb2 ?_) | (with_reducible refine Base.via hb1 ?_) | (with_reducible refine Base.grow_alloc ?_ _) | (with_reducible refine Base.below_drewN ?_ _) | (with_reducible refine Below.drew ?_) | (with_reducible refine Below.setCell ?_ ?_ _) | go_size))⟩
      · have HC := Lib.hid hc
        have HV := Lib.hid hv0
        clear hc hv0
        go_wp2
        go_ret2
        exact ⟨ret_pair HV.out.symm HC.out.symm, (by repeat' (first | (with_reducible exact Below.refl _ _) | (with_reducible assumption) | (with_reducible refine Base.via hb2 ?_) | (with_reducible refine Base.via hb1 ?_) | (with_reducible refine Base.grow_alloc ?_ _) | (with_reducible refine Base.below_drewN ?_ _) | (with_reducible refine Below.drew ?_) | (with_reducible refine Below.setCell ?_ ?_ _) | go_size))⟩
set_option maxHeartbeats 1600000 in
theorem c_MagAt (A : Option Addr) (n c : Nat) (T M : Nat → Int) (t : Int) (w : World) (hv : Sl w 2 A n c (f2 T M)) :
    Calls Try.prog 35 #[.slice A n c, .int .i64 t] w fun e w' => e = .returned (.tuple #[.int .i64 (magV n T M t), .int .i64 (magC n T M t)]) ∧ Below w.heap.size w w' := by
  cases h1 : okCurve n T M
  · have HR := Lib.hid (show (0 : Int) = magV n T M t ∧ (1 : Int) = magC n T M t by simp [magV, magC, h1])
    go_enter Try.func35, Try.ntmps35
    go_wp2_with (first | (go_at_call 72; refine (c_ValidCurve _ _ _ T M _ hv).mono ?_; rintro e w1 ⟨rfl, hb1⟩; obtain ⟨chb1, fhb1⟩ := Base.bcell hb1; have zhb1 := (hb1).size; (try simp at zhb1); (try have yhb1 : w.heap.size < (w1).heap.size := by omega)))
    go_ret2
    exact ⟨ret_pair HR.out.1 HR.out.2, (by repeat' (first | (with_reducible exact Below.refl _ _) | (with_reducible assumption) | (with_reducible refine Base.via hb1 ?_) | (with_reducible refine Base.grow_alloc ?_ _) | (with_reducible refine Base.below_drewN ?_ _) | (with_reducible refine Below.drew ?_) | (with_reducible refine Below.setCell ?_ ?_ _) | go_size))⟩
  cases h2 : inB t 0 10000000
  · have HR := Lib.hid (show (0 : Int) = magV n T M t ∧ (2 : Int) = magC n T M t by simp [magV, magC, h1, h2])
    go_enter Try.func35, Try.ntmps35
    go_wp2_with (first | (go_at_call 72; refine (c_ValidCurve _ _ _ T M _ hv).mono ?_; rintro e w1 ⟨rfl, hb1⟩; obtain ⟨chb1, fhb1⟩ := Base.bcell hb1; have zhb1 := (hb1).size; (try simp at zhb1); (try have yhb1 : w.heap.size < (w1).heap.size := by omega)) | (go_at_call 86; refine (c_ValidTime _ _).mono ?_; rintro e w' ⟨rfl, rfl⟩))
    go_ret2
    exact ⟨ret_pair HR.out.1 HR.out.2, (by repeat' (first | (with_reducible exact Below.refl _ _) | (with_reducible assumption) | (with_reducible refine Base.via hb1 ?_) | (with_reducible refine Base.grow_alloc ?_ _) | (with_reducible refine Base.below_drewN ?_ _) | (with_reducible refine Below.drew ?_) | (with_reducible refine Below.setCell ?_ ?_ _) | go_size))⟩
  obtain ⟨h100, hT, hM, hI⟩ := okCurve_bd h1
  obtain ⟨ht0, ht1⟩ := inB_iff.1 h2
  have HT := Lib.hid hT
  have HM := Lib.hid hM
  have HI := Lib.hid hI
  have H1 := Lib.hid h1
  have H2 := Lib.hid h2
  clear hT hM hI
  go_enter Try.func35, Try.ntmps35
  go_wp2_with (first | (go_at_call 72; refine (c_ValidCurve _ _ _ T M _ hv).mono ?_; rintro e w1 ⟨rfl, hb1⟩; obtain ⟨chb1, fhb1⟩ := Base.bcell hb1; have zhb1 := (hb1).size; (try simp at zhb1); (try have yhb1 : w.heap.size < (w1).heap.size := by omega)) | (go_at_call 86; refine (c_ValidTime _ _).mono ?_; rintro e w' ⟨rfl, rfl⟩))
  clear chb1 fhb1 zhb1 h1 h2
  by_cases hfirst : 0 < n ∧ t < T 0
  · have HR := Lib.hid (mag_none H1.out H2.out (.inr ⟨0, atI_hit hfirst.1 (by omega) rfl, by simp [atB]; omega⟩))
    obtain ⟨hn0, hT0⟩ := hfirst
    go_loopw [6, 7, 20] (fun _ _ i wr => ∃ k : Nat, k ≤ n ∧ i = .int .i64 k ∧ Below w.heap.size w wr) (fun _ _ i _ => n - (intOf i).toNat)
    case atStart => exact ⟨0, Nat.zero_le _, rfl, (by repeat' (first | (with_reducible exact Below.refl _ _) | (with_reducible assumption) | (with_reducible refine Base.via hb1 ?_) | (with_reducible refine Base.grow_alloc ?_ _) | (with_reducible refine Base.below_drewN ?_ _) | (with_reducible refine Below.drew ?_) | (with_reducible refine Below.setCell ?_ ?_ _) | go_size))⟩
    case round =>
      obtain ⟨k, hk, rfl, hbr⟩ := hrel
      by_cases hlt : k < n
      · obtain ⟨b, off, rfl, hb, hc⟩ := (hv.below hbr).at_ (by omega)
        obtain ⟨c0, c1⟩ := cells2 hc k hlt
        have tk := HT.out k hlt
        have hge : t < T k := by have := mono0 HI.out hlt; omega
        have heq' : (T k == t) = false := by simp; omega
        by_cases hk0 : k = 0
        · subst hk0
          simp only [Nat.zero_mul, Nat.add_zero] at c0 c1
          clear hc
          go_wp2
          go_roundw
          case rel => exact ⟨1, by omega, by go_num, (by repeat' (first | (with_reducible exact Below.refl _ _) | (with_reducible assumption) | (with_reducible refine Base.grow_alloc ?_ _) | (with_reducible refine Base.below_drewN ?_ _) | (with_reducible refine Below.drew ?_) | (with_reducible refine Below.setCell ?_ ?_ _) | go_size))⟩
          case measure => simp [intOf]; omega
        · obtain ⟨d0, d1⟩ := cells2 hc (k - 1) (by omega)
          have hge2 : t < T (k - 1) := by have := mono0 HI.out (show k - 1 < n by omega); omega
          have hd : decide (T (k - 1) < t) = false := by simp; omega
          clear hc
          go_wp2
          go_roundw
          case rel => exact ⟨k + 1, by omega, by go_num, (by repeat' (first | (with_reducible exact Below.refl _ _) | (with_reducible assumption) | (with_reducible refine Base.grow_alloc ?_ _) | (with_reducible refine Base.below_drewN ?_ _) | (with_reducible refine Below.drew ?_) | (with_reducible refine Below.setCell ?_ ?_ _) | go_size))⟩
          case measure => simp [intOf]; omega
      · have hkn : k = n := by omega
        subst hkn
        go_wp2
        go_ret2
        exact ⟨ret_pair HR.out.1.symm HR.out.2.symm, hbr⟩
  · go_loopw [6, 7, 20] (fun _ _ i wr => ∃ k : Nat, k ≤ n ∧ i = .int .i64 k ∧ Hid (allB k (fun i => decide (T i < t)) = true) ∧ Below w.heap.size w wr) (fun _ _ i _ => n - (intOf i).toNat)
    case atStart => exact ⟨0, Nat.zero_le _, rfl, (show allB 0 (fun i => decide (T i < t)) = true from rfl), (by repeat' (first | (with_reducible exact Below.refl _ _) | (with_reducible assumption) | (with_reducible refine Base.via hb1 ?_) | (with_reducible refine Base.grow_alloc ?_ _) | (with_reducible refine Base.below_drewN ?_ _) | (with_reducible refine Below.drew ?_) | (with_reducible refine Below.setCell ?_ ?_ _) | go_size))⟩
    case round =>
      obtain ⟨k, hk, rfl, hall, hbr⟩ := hrel
      by_cases hlt : k < n
      · obtain ⟨b, off, rfl, hb, hc⟩ := (hv.below hbr).at_ (by omega)
        obtain ⟨c0, c1⟩ := cells2 hc k hlt
        have tk := HT.out k hlt
        have mk := HM.out k hlt
        by_cases heq : T k = t
        · have HR := Lib.hid (mag_hit H1.out H2.out (atI_hit hlt (by omega) hall.out) (by simp [atB, heq]))
          have HV := Lib.hid (show M k = atV T M t k by rw [atV, if_pos heq])
          clear hc
          subst heq
          go_wp2
          go_ret2
          exact ⟨ret_pair (HV.out.trans HR.out.1.symm) HR.out.2.symm, (by repeat' (first | (with_reducible exact Below.refl _ _) | (with_reducible assumption) | (with_reducible refine Base.grow_alloc ?_ _) | (with_reducible refine Base.below_drewN ?_ _) | (with_reducible refine Below.drew ?_) | (with_reducible refine Below.setCell ?_ ?_ _) | go_size))⟩
        · have heq' : (T k == t) = false := by simpa using heq
          by_cases hk0 : k = 0
          · subst hk0
            have hT0 : T 0 < t := by omega
            simp only [Nat.zero_mul, Nat.add_zero] at c0 c1
            have HA := Lib.hid (show allB 1 (fun i => decide (T i < t)) = true from allB_yes hall.out (by simpa using hT0))
            clear hc
            go_wp2
            go_roundw
            case rel => exact ⟨1, by omega, by go_num, HA.out, (by repeat' (first | (with_reducible exact Below.refl _ _) | (with_reducible assumption) | (with_reducible refine Base.grow_alloc ?_ _) | (with_reducible refine Base.below_drewN ?_ _) | (with_reducible refine Below.drew ?_) | (with_reducible refine Below.setCell ?_ ?_ _) | go_size))⟩
            case measure => simp [intOf]; omega
          · obtain ⟨d0, d1⟩ := cells2 hc (k - 1) (by omega)
            have tj := HT.out (k - 1) (by omega)
            have mj := HM.out (k - 1) (by omega)
            have hst := HI.out k (by omega) hlt
            have hle : T (k - 1) < t := by have := allB_iff.1 hall.out (k - 1) (by omega); simpa using this
            by_cases hgt : t < T k
            · obtain ⟨⟨b1, b2⟩, b3, b4⟩ := itp_bd tj tk mj mk (by omega) ht1 hst
              have HR := Lib.hid (mag_hit H1.out H2.out (atI_hit hlt (by omega) hall.out) (by simp [atB]; omega))
              have HV := Lib.hid (show itp T M t k = atV T M t k by rw [atV, if_neg heq, if_neg hk0])
              clear hc
              go_wp2_with (first | (go_at_call 60; refine (c_nearest _ _ _ (by omega) (by omega) (by omega) (by omega)).mono ?_; rintro e w' ⟨rfl, rfl⟩))
              go_ret2
              exact ⟨ret_pair (HV.out.trans HR.out.1.symm) HR.out.2.symm, (by repeat' (first | (with_reducible exact Below.refl _ _) | (with_reducible assumption) | (with_reducible refine Base.grow_alloc ?_ _) | (with_reducible refine Base.below_drewN ?_ _) | (with_reducible refine Below.drew ?_) | (with_reducible refine Below.setCell ?_ ?_ _) | go_size))⟩
            · have HA := Lib.hid (allB_yes hall.out (show decide (T k < t) = true by simp; omega))
              have hd : decide (t < T k) = false := by simp; omega
              clear hc
              go_wp2
              go_roundw
              case rel => exact ⟨k + 1, by omega, by go_num, HA.out, (by repeat' (first | (with_reducible exact Below.refl _ _) | (with_reducible assumption) | (with_reducible refine Base.grow_alloc ?_ _) | (with_reducible refine Base.below_drewN ?_ _) | (with_reducible refine Below.drew ?_) | (with_reducible refine Below.setCell ?_ ?_ _) | go_size))⟩
              case measure => simp [intOf]; omega
      · have hkn : k = n := by omega
        subst hkn
        have HR := Lib.hid (mag_none H1.out H2.out (.inl (atI_miss hall.out)))
        go_wp2
        go_ret2
        exact ⟨ret_pair HR.out.1.symm HR.out.2.symm, hbr⟩
end Go.Proofs.Ytfpipbajlokheaa.At
