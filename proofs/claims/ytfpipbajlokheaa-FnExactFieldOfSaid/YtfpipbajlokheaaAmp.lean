/- The magnitudes of a curve, the least and the greatest, the amplitude, the shortest string. -/
import Derived.Test.YtfpipbajlokheaaCurve2
import Derived.Test.YtfpipbajlokheaaList
namespace Go.Proofs.Ytfpipbajlokheaa.Amp
set_option linter.unusedVariables false
set_option linter.unusedSimpArgs false
open Go.RowKit Plain Num View Curve Curve2

/-- the greatest, the least of the first k + 1 -/
def maxT (T : Nat → Int) : Nat → Int
  | 0 => T 0
  | k + 1 => if maxT T k < T (k + 1) then T (k + 1) else maxT T k
def minT (T : Nat → Int) : Nat → Int
  | 0 => T 0
  | k + 1 => if T (k + 1) < minT T k then T (k + 1) else minT T k
theorem maxT_bd {T : Nat → Int} {a b : Int} : ∀ {k : Nat}, (∀ i, i ≤ k → a ≤ T i ∧ T i ≤ b) → a ≤ maxT T k ∧ maxT T k ≤ b
  | 0, h => h 0 (by omega)
  | k + 1, h => by
    have h1 := maxT_bd (k := k) (fun i hi => h i (by omega))
    have h2 := h (k + 1) (by omega)
    rw [maxT]; split <;> omega
theorem minT_bd {T : Nat → Int} {a b : Int} : ∀ {k : Nat}, (∀ i, i ≤ k → a ≤ T i ∧ T i ≤ b) → a ≤ minT T k ∧ minT T k ≤ b
  | 0, h => h 0 (by omega)
  | k + 1, h => by
    have h1 := minT_bd (k := k) (fun i hi => h i (by omega))
    have h2 := h (k + 1) (by omega)
    rw [minT]; split <;> omega
theorem maxT_le {T : Nat → Int} : ∀ {k i : Nat}, i ≤ k → T i ≤ maxT T k
  | 0, i, h => by have : i = 0 := by omega
                  subst this; exact Int.le_refl _
  | k + 1, i, h => by
    rw [maxT]
    by_cases e : i = k + 1
    · subst e; split <;> omega
    · have := maxT_le (T := T) (k := k) (i := i) (by omega); split <;> omega
theorem minT_le {T : Nat → Int} : ∀ {k i : Nat}, i ≤ k → minT T k ≤ T i
  | 0, i, h => by have : i = 0 := by omega
                  subst this; exact Int.le_refl _
  | k + 1, i, h => by
    rw [minT]
    by_cases e : i = k + 1
    · subst e; split <;> omega
    · have := minT_le (T := T) (k := k) (i := i) (by omega); split <;> omega
theorem max_step {T : Nat → Int} {k : Nat} {x : Int} (hk : 1 ≤ k) (h : x = maxT T (k - 1)) : maxT T k = if x < T k then T k else x := by
  obtain ⟨j, rfl⟩ : ∃ j, k = j + 1 := ⟨k - 1, by omega⟩
  simp only [Nat.add_sub_cancel] at h
  rw [maxT, h]
theorem min_step {T : Nat → Int} {k : Nat} {x : Int} (hk : 1 ≤ k) (h : x = minT T (k - 1)) : minT T k = if T k < x then T k else x := by
  obtain ⟨j, rfl⟩ : ∃ j, k = j + 1 := ⟨k - 1, by omega⟩
  simp only [Nat.add_sub_cancel] at h
  rw [minT, h]
theorem max_yes {T : Nat → Int} {k : Nat} {x : Int} (hk : 1 ≤ k) (h : x = maxT T (k - 1)) (hlt : x < T k) : T k = maxT T (k + 1 - 1) := by rw [Nat.add_sub_cancel, max_step hk h, if_pos hlt]
theorem max_no {T : Nat → Int} {k : Nat} {x : Int} (hk : 1 ≤ k) (h : x = maxT T (k - 1)) (hlt : ¬ x < T k) : x = maxT T (k + 1 - 1) := by rw [Nat.add_sub_cancel, max_step hk h, if_neg hlt]
theorem min_yes {T : Nat → Int} {k : Nat} {x : Int} (hk : 1 ≤ k) (h : x = minT T (k - 1)) (hlt : T k < x) : T k = minT T (k + 1 - 1) := by rw [Nat.add_sub_cancel, min_step hk h, if_pos hlt]
theorem min_no {T : Nat → Int} {k : Nat} {x : Int} (hk : 1 ≤ k) (h : x = minT T (k - 1)) (hlt : ¬ T k < x) : x = minT T (k + 1 - 1) := by rw [Nat.add_sub_cancel, min_step hk h, if_neg hlt]
theorem infoI : (Try.prog.info? 2).map (fun i => (i.zero, i.size, i.bytes)) = some (some (.int .i64 0), 1, 8) := by kernel_rfl
set_option maxHeartbeats 800000 in
theorem c_magsIn (A : Option Addr) (n c : Nat) (T M : Nat → Int) (w : World) (hv : Sl w 2 A n c (f2 T M)) :
    Calls Try.prog 73 #[.slice A n c] w fun e w' => ∃ v, e = .returned v ∧ OwnK w' w.heap.size 2 1 v n (f1 M) ∧ Below w.heap.size w w' := by
  have hn := hv.le
  obtain ⟨i0, hi0, hz0, hz1, hz2⟩ := info_parts infoI
  go_enter Try.func73, Try.ntmps73
  go_wp2
  go_loopw [3, 9] (fun v i wr => ∃ k : Nat, k ≤ n ∧ i = .int .i64 k ∧ wr.ownsRow w.heap.size 2 1 v (sel k all1 M).length (cellL (sel k all1 M)) ∧ Below w.heap.size w wr) (fun _ i _ => n - (intOf i).toNat)
  case atStart => exact ⟨0, Nat.zero_le _, rfl, World.ownsRow_made _ _ _ (by omega) (by simp [maxLen]) rfl, (by repeat' (first | (with_reducible exact Below.refl _ _) | (with_reducible assumption) | (with_reducible refine Base.grow_alloc ?_ _) | (with_reducible refine Base.below_drewN ?_ _) | (with_reducible refine Below.drew ?_) | (with_reducible refine Below.setCell ?_ ?_ _) | go_size))⟩
  case round =>
    obtain ⟨k, hk, rfl, hown, hbr⟩ := hrel
    have hz := hbr.size
    have hl := sel_all_len (k := k) (g := M)
    by_cases hlt : k < n
    · obtain ⟨b, off, rfl, hb, hc⟩ := (hv.below hbr).at_ (by omega)
      obtain ⟨h0, h1⟩ := cells2 hc k hlt
      clear hc
      go_wp2_with (first | (at_builtin; refine wpList_append_own _ rfl _ _ 22 rfl (w.heap.size) 2 i0 _ 1 8 Try.underlying22 hi0 hz0 hz1 hz2 rfl (by decide) _ _ _ rfl (own_of_below hown (by repeat' (first | (with_reducible exact Below.refl _ _) | (with_reducible assumption) | (with_reducible refine Base.grow_alloc ?_ _) | (with_reducible refine Base.below_drewN ?_ _) | (with_reducible refine Below.drew ?_) | (with_reducible refine Below.setCell ?_ ?_ _) | go_size))) ⟨_, 0, none⟩ 1 1 [.int .i64 (M k)] rfl rfl (cell_newL _ [.int .i64 (M k)] _ (by simp)) (by simp [Value.oneCell']) (by simp only [maxLen]; omega) (by omega) (by simp; omega) ?_))
      intro v' w1 hown' hgrow _
      have hb1 : Below w.heap.size w w1 := own_grow (by repeat' (first | (with_reducible exact Below.refl _ _) | (with_reducible assumption) | (with_reducible refine Base.grow_alloc ?_ _) | (with_reducible refine Base.below_drewN ?_ _) | (with_reducible refine Below.drew ?_) | (with_reducible refine Below.setCell ?_ ?_ _) | go_size)) hown (Nat.le_refl _) hgrow
      clear hown hgrow
      go_wp2
      go_roundw
      case rel => exact ⟨k + 1, by omega, by go_num, by rw [sel_yes rfl]; exact own_snoc (by rw [hl]; exact hown'), hb1⟩
      case measure => simp [intOf]; omega
    · have hkn : k = n := by omega
      subst hkn
      go_wp2
      go_ret
      exact ⟨_, rfl, OwnK.of_all hown hn, hbr⟩
set_option maxHeartbeats 800000 in
theorem c_Max (A : Option Addr) (n c : Nat) (T : Nat → Int) (w : World) (hv : Sl w 1 A n c (f1 T)) (h0 : 0 < n) :
    Calls Try.prog 74 #[.slice A n c] w fun e w' => e = .returned (.int .i64 (maxT T (n - 1))) ∧ w = w' := by
  have hn := hv.le
  obtain ⟨b, off, rfl, hb, hc⟩ := hv.at_ h0
  have c0 := cells1 hc 0 h0
  simp only [Nat.add_zero] at c0
  go_enter Try.func74, Try.ntmps74
  go_wp2
  go_loop [3, 4] (fun s i => ∃ (k : Nat) (x : Int), 1 ≤ k ∧ k ≤ n ∧ Hid (x = maxT T (k - 1)) ∧ i = .int .i64 k ∧ s = .int .i64 x) (fun _ i => n - (intOf i).toNat)
  case atStart => exact ⟨1, T 0, by omega, by omega, (show T 0 = maxT T (1 - 1) from rfl), rfl, rfl⟩
  case round =>
    obtain ⟨k, x, hk1, hk, hx, rfl, rfl⟩ := hrel
    by_cases hlt : k < n
    · have h1 := cells1 hc k hlt
      by_cases hgt : x < T k
      · go_wp2
        go_round
        case rel => exact ⟨k + 1, T k, by omega, by omega, max_yes hk1 hx.out hgt, by go_num, rfl⟩
        case measure => simp [intOf]; omega
      · go_wp2
        go_round
        case rel => exact ⟨k + 1, x, by omega, by omega, max_no hk1 hx.out (by omega), by go_num, rfl⟩
        case measure => simp [intOf]; omega
    · have hkn : k = n := by omega
      subst hkn
      go_wp2
      go_ret
      exact ⟨ret_int hx.out, rfl⟩
set_option maxHeartbeats 800000 in
theorem c_Min (A : Option Addr) (n c : Nat) (T : Nat → Int) (w : World) (hv : Sl w 1 A n c (f1 T)) (h0 : 0 < n) :
    Calls Try.prog 75 #[.slice A n c] w fun e w' => e = .returned (.int .i64 (minT T (n - 1))) ∧ w = w' := by
  have hn := hv.le
  obtain ⟨b, off, rfl, hb, hc⟩ := hv.at_ h0
  have c0 := cells1 hc 0 h0
  simp only [Nat.add_zero] at c0
  go_enter Try.func75, Try.ntmps75
  go_wp2
  go_loop [3, 4] (fun s i => ∃ (k : Nat) (x : Int), 1 ≤ k ∧ k ≤ n ∧ Hid (x = minT T (k - 1)) ∧ i = .int .i64 k ∧ s = .int .i64 x) (fun _ i => n - (intOf i).toNat)
  case atStart => exact ⟨1, T 0, by omega, by omega, (show T 0 = minT T (1 - 1) from rfl), rfl, rfl⟩
  case round =>
    obtain ⟨k, x, hk1, hk, hx, rfl, rfl⟩ := hrel
    by_cases hlt : k < n
    · have h1 := cells1 hc k hlt
      by_cases hgt : T k < x
      · go_wp2
        go_round
        case rel => exact ⟨k + 1, T k, by omega, by omega, min_yes hk1 hx.out hgt, by go_num, rfl⟩
        case measure => simp [intOf]; omega
      · go_wp2
        go_round
        case rel => exact ⟨k + 1, x, by omega, by omega, min_no hk1 hx.out (by omega), by go_num, rfl⟩
        case measure => simp [intOf]; omega
    · have hkn : k = n := by omega
      subst hkn
      go_wp2
      go_ret
      exact ⟨ret_int hx.out, rfl⟩
def ampV (n : Nat) (T M : Nat → Int) : Int := if okCurve n T M = true then (if n = 0 then 0 else maxT M (n - 1) - minT M (n - 1)) else 0
def ampCode (n : Nat) (T M : Nat → Int) : Int := if okCurve n T M = true then (if n = 0 then 3 else 0) else 1
theorem amp_cases (n : Nat) (T M : Nat → Int) : (okCurve n T M = true ∧ 1 ≤ n ∧ ampCode n T M = 0 ∧ ampV n T M = maxT M (n - 1) - minT M (n - 1)) ∨ (okCurve n T M = true ∧ n = 0 ∧ ampCode n T M = 3 ∧ ampV n T M = 0) ∨ (okCurve n T M = false ∧ ampCode n T M = 1 ∧ ampV n T M = 0) := by
  unfold ampCode ampV
  cases h : okCurve n T M <;> by_cases h2 : n = 0 <;> simp [h2] <;> omega
set_option maxHeartbeats 800000 in
theorem c_AmplitudeOf (A : Option Addr) (n c : Nat) (T M : Nat → Int) (w : World) (hv : Sl w 2 A n c (f2 T M)) :
    Calls Try.prog 28 #[.slice A n c] w fun e w' => e = .returned (.tuple #[.int .i64 (ampV n T M), .int .i64 (ampCode n T M)]) ∧ Below w.heap.size w w' := by
  rcases amp_cases n T M with ⟨hok, h2, hcode, hval⟩ | ⟨hok, rfl, hcode, hval⟩ | ⟨hok, hcode, hval⟩
  · obtain ⟨h100, _, hM, _⟩ := okCurve_bd hok
    have b1 := maxT_bd (T := M) (k := n - 1) (a := -2000) (b := 20000) (fun i hi => hM i (by omega))
    have b2 := minT_bd (T := M) (k := n - 1) (a := -2000) (b := 20000) (fun i hi => hM i (by omega))
    have HC := Lib.hid hcode
    have HV := Lib.hid hval
    have h0 : ¬ n = 0 := by omega
    clear hM hcode hval
    go_enter Try.func28, Try.ntmps28
    go_wp2_with (first | (go_at_call 72; refine (c_ValidCurve _ _ _ T M _ hv).mono ?_; rintro e w1 ⟨rfl, hb1⟩; obtain ⟨chb1, fhb1⟩ := Base.bcell hb1; have zhb1 := (hb1).size; (try simp at zhb1); (try have yhb1 : w.heap.size < (w1).heap.size := by omega)) | (go_at_call 73; refine (c_magsIn _ _ _ T M _ (hv.below hb1)).mono ?_))
    rintro e w2 ⟨v, rfl, ho, hb2⟩
    obtain ⟨A2, c2, rfl, V2, _⟩ := ho.view
    go_wp2_with (first | (go_at_call 74; refine (c_Max _ _ _ M _ V2 (by omega)).mono ?_; rintro e w' ⟨rfl, rfl⟩) | (go_at_call 75; refine (c_Min _ _ _ M _ V2 (by omega)).mono ?_; rintro e w' ⟨rfl, rfl⟩))
    go_ret2
    exact ⟨ret_pair HV.out.symm HC.out.symm, (by repeat' (first | (with_reducible exact Below.refl _ _) | (with_reducible assumption) | (with_reducible refine Base.via hb2 ?_) | (with_reducible refine Base.via hb1 ?_) | (with_reducible refine Base.grow_alloc ?_ _) | (with_reducible refine Base.below_drewN ?_ _) | (with_reducible refine Below.drew ?_) | (with_reducible refine Below.setCell ?_ ?_ _) | go_size))⟩
  · have HC := Lib.hid hcode
    have HV := Lib.hid hval
    clear hcode hval
    go_enter Try.func28, Try.ntmps28
    go_wp2_with (first | (go_at_call 72; refine (c_ValidCurve _ _ _ T M _ hv).mono ?_; rintro e w1 ⟨rfl, hb1⟩; obtain ⟨chb1, fhb1⟩ := Base.bcell hb1; have zhb1 := (hb1).size; (try simp at zhb1); (try have yhb1 : w.heap.size < (w1).heap.size := by omega)))
    go_ret2
    exact ⟨ret_pair HV.out.symm HC.out.symm, (by repeat' (first | (with_reducible exact Below.refl _ _) | (with_reducible assumption) | (with_reducible refine Base.via hb1 ?_) | (with_reducible refine Base.grow_alloc ?_ _) | (with_reducible refine Base.below_drewN ?_ _) | (with_reducible refine Below.drew ?_) | (with_reducible refine Below.setCell ?_ ?_ _) | go_size))⟩
  · have HC := Lib.hid hcode
    have HV := Lib.hid hval
    clear hcode hval
    go_enter Try.func28, Try.ntmps28
    go_wp2_with (first | (go_at_call 72; refine (c_ValidCurve _ _ _ T M _ hv).mono ?_; rintro e w1 ⟨rfl, hb1⟩; obtain ⟨chb1, fhb1⟩ := Base.bcell hb1; have zhb1 := (hb1).size; (try simp at zhb1); (try have yhb1 : w.heap.size < (w1).heap.size := by omega)))
    go_ret2
    exact ⟨ret_pair HV.out.symm HC.out.symm, (by repeat' (first | (with_reducible exact Below.refl _ _) | (with_reducible assumption) | (with_reducible refine Base.via hb1 ?_) | (with_reducible refine Base.grow_alloc ?_ _) | (with_reducible refine Base.below_drewN ?_ _) | (with_reducible refine Below.drew ?_) | (with_reducible refine Below.setCell ?_ ?_ _) | go_size))⟩
theorem c_l00Min1 (a b : Int) (w : World) (h : a < b) : Calls Try.prog 70 #[.int .i64 a, .int .i64 b] w fun e w' => e = .returned (.int .i64 a) ∧ w = w' := by
  go_enter Try.func70, Try.ntmps70
  go_wp2
  go_ret
  exact ⟨rfl, rfl⟩
theorem c_l00Min2 (a b : Int) (w : World) (h : ¬ a < b) : Calls Try.prog 70 #[.int .i64 a, .int .i64 b] w fun e w' => e = .returned (.int .i64 b) ∧ w = w' := by
  go_enter Try.func70, Try.ntmps70
  go_wp2
  go_ret
  exact ⟨rfl, rfl⟩
theorem c_l00Max1 (a b : Int) (w : World) (h : b < a) : Calls Try.prog 71 #[.int .i64 a, .int .i64 b] w fun e w' => e = .returned (.int .i64 a) ∧ w = w' := by
  go_enter Try.func71, Try.ntmps71
  go_wp2
  go_ret
  exact ⟨rfl, rfl⟩
theorem c_l00Max2 (a b : Int) (w : World) (h : ¬ b < a) : Calls Try.prog 71 #[.int .i64 a, .int .i64 b] w fun e w' => e = .returned (.int .i64 b) ∧ w = w' := by
  go_enter Try.func71, Try.ntmps71
  go_wp2
  go_ret
  exact ⟨rfl, rfl⟩
theorem min_merge {T : Nat → Int} {k : Nat} {x : Int} (hk : 1 ≤ k) (h : x = minT T (k - 1)) : (if x < T k then x else T k) = minT T (k + 1 - 1) := by
  rw [Nat.add_sub_cancel, min_step hk h]; split <;> split <;> omega
theorem max_merge {T : Nat → Int} {k : Nat} {x : Int} (hk : 1 ≤ k) (h : x = maxT T (k - 1)) : (if T k < x then x else T k) = maxT T (k + 1 - 1) := by
  rw [Nat.add_sub_cancel, max_step hk h]; split <;> split <;> omega
set_option maxHeartbeats 800000 in
theorem c_specAmplitudeOf (A : Option Addr) (n c : Nat) (T M : Nat → Int) (w : World) (hv : Sl w 2 A n c (f2 T M)) :
    Calls Try.prog 26 #[.slice A n c] w fun e w' => e = .returned (.tuple #[.int .i64 (ampV n T M), .int .i64 (ampCode n T M)]) ∧ Below w.heap.size w w' := by
  rcases amp_cases n T M with ⟨hok, h2, hcode, hval⟩ | ⟨hok, rfl, hcode, hval⟩ | ⟨hok, hcode, hval⟩
  · obtain ⟨h100, _, hM, _⟩ := okCurve_bd hok
    have HC := Lib.hid hcode
    have HV := Lib.hid hval
    have HM := Lib.hid hM
    have hn0 : ((n : Int) == 0) = false := by simp; omega
    clear hM hcode hval
    obtain ⟨b, off, rfl, hb, hc⟩ := hv.at_ (by omega)
    have h0 := (cells2 hc 0 (by omega)).2
    simp only [Nat.zero_mul, Nat.add_zero] at h0
    go_enter Try.func26, Try.ntmps26
    go_wp2_with (first | (go_at_call 69; refine (c_l08Ok _ _ _ T M _ hv).mono ?_; rintro e w1 ⟨rfl, hb1⟩; obtain ⟨chb1, fhb1⟩ := Base.bcell hb1; have zhb1 := (hb1).size; (try simp at zhb1); (try have yhb1 : w.heap.size < (w1).heap.size := by omega)))
    go_loopw [4, 5, 6] (fun s t i wr => ∃ (k : Nat) (x y : Int), 1 ≤ k ∧ k ≤ n ∧ Hid (x = minT M (k - 1)) ∧ Hid (y = maxT M (k - 1)) ∧ i = .int .i64 k ∧ s = .int .i64 x ∧ t = .int .i64 y ∧ Below w1.heap.size w1 wr) (fun _ _ i _ => n - (intOf i).toNat)
    case atStart => exact ⟨1, M 0, M 0, by omega, by omega, (show M 0 = minT M (1 - 1) from rfl), (show M 0 = maxT M (1 - 1) from rfl), rfl, rfl, rfl, (by repeat' (first | (with_reducible exact Below.refl _ _) | (with_reducible assumption) | (with_reducible refine Base.grow_alloc ?_ _) | (with_reducible refine Base.below_drewN ?_ _) | (with_reducible refine Below.drew ?_) | (with_reducible refine Below.setCell ?_ ?_ _) | go_size))⟩
    case round =>
      obtain ⟨k, x, y, hk1, hk, hx, hy, rfl, rfl, rfl, hbr⟩ := hrel
      by_cases hlt : k < n
      · have h1 := (hbr.cell (p := ⟨b, off + k * 2 + 1, none⟩) (by simp; omega)).trans ((chb1 _ _ hb).trans (cells2 hc k hlt).2)
        by_cases hA : x < M k
        · have HX := Lib.hid (show x = minT M (k + 1 - 1) by have := min_merge hk1 hx.out; rw [if_pos hA] at this; exact this)
          by_cases hB : M k < y
          · have HY := Lib.hid (show y = maxT M (k + 1 - 1) by have := max_merge hk1 hy.out; rw [if_pos hB] at this; exact this)
            go_wp2_with (first | (go_at_call 70; refine (c_l00Min1 _ _ _ (by omega)).mono ?_; rintro e w' ⟨rfl, rfl⟩) | (go_at_call 71; refine (c_l00Max1 _ _ _ (by omega)).mono ?_; rintro e w' ⟨rfl, rfl⟩))
            go_roundw
            case rel => exact ⟨k + 1, x, y, by omega, by omega, HX.out, HY.out, by go_num, rfl, rfl, (by repeat' (first | (with_reducible exact Below.refl _ _) | (with_reducible assumption) | (with_reducible refine Base.grow_alloc ?_ _) | (with_reducible refine Base.below_drewN ?_ _) | (with_reducible refine Below.drew ?_) | (with_reducible refine Below.setCell ?_ ?_ _) | go_size))⟩
            case measure => simp [intOf]; omega
          · have HY := Lib.hid (show M k = maxT M (k + 1 - 1) by have := max_merge hk1 hy.out; rw [if_neg hB] at this; exact this)
            go_wp2_with (first | (go_at_call 70; refine (c_l00Min1 _ _ _ (by omega)).mono ?_; rintro e w' ⟨rfl, rfl⟩) | (go_at_call 71; refine (c_l00Max2 _ _ _ (by omega)).mono ?_; rintro e w' ⟨rfl, rfl⟩))
            go_roundw
            case rel => exact ⟨k + 1, x, M k, by omega, by omega, HX.out, HY.out, by go_num, rfl, rfl, (by repeat' (first | (with_reducible exact Below.refl _ _) | (with_reducible assumption) | (with_reducible refine Base.grow_alloc ?_ _) | (with_reducible refine Base.below_drewN ?_ _) | (with_reducible refine Below.drew ?_) | (with_reducible refine Below.setCell ?_ ?_ _) | go_size))⟩
            case measure => simp [intOf]; omega
        · have HX := Lib.hid (show M k = minT M (k + 1 - 1) by have := min_merge hk1 hx.out; rw [if_neg hA] at this; exact this)
          by_cases hB : M k < y
          · have HY := Lib.hid (show y = maxT M (k + 1 - 1) by have := max_merge hk1 hy.out; rw [if_pos hB] at this; exact this)
            go_wp2_with (first | (go_at_call 70; refine (c_l00Min2 _ _ _ (by omega)).mono ?_; rintro e w' ⟨rfl, rfl⟩) | (go_at_call 71; refine (c_l00Max1 _ _ _ (by omega)).mono ?_; rintro e w' ⟨rfl, rfl⟩))
            go_roundw
            case rel => exact ⟨k + 1, M k, y, by omega, by omega, HX.out, HY.out, by go_num, rfl, rfl, (by repeat' (first | (with_reducible exact Below.refl _ _) | (with_reducible assumption) | (with_reducible refine Base.grow_alloc ?_ _) | (with_reducible refine Base.below_drewN ?_ _) | (with_reducible refine Below.drew ?_) | (with_reducible refine Below.setCell ?_ ?_ _) | go_size))⟩
            case measure => simp [intOf]; omega
          · have HY := Lib.hid (show M k = maxT M (k + 1 - 1) by have := max_merge hk1 hy.out; rw [if_neg hB] at this; exact this)
            go_wp2_with (first | (go_at_call 70; refine (c_l00Min2 _ _ _ (by omega)).mono ?_; rintro e w' ⟨rfl, rfl⟩) | (go_at_call 71; refine (c_l00Max2 _ _ _ (by omega)).mono ?_; rintro e w' ⟨rfl, rfl⟩))
            go_roundw
            case rel => exact ⟨k + 1, M k, M k, by omega, by omega, HX.out, HY.out, by go_num, rfl, rfl, (by repeat' (first | (with_reducible exact Below.refl _ _) | (with_reducible assumption) | (with_reducible refine Base.grow_alloc ?_ _) | (with_reducible refine Base.below_drewN ?_ _) | (with_reducible refine Below.drew ?_) | (with_reducible refine Below.setCell ?_ ?_ _) | go_size))⟩
            case measure => simp [intOf]; omega
      · have hkn : k = n := by omega
        subst hkn
        have b1 := maxT_bd (T := M) (k := k - 1) (a := -2000) (b := 20000) (fun i hi => HM.out i (by omega))
        have b2 := minT_bd (T := M) (k := k - 1) (a := -2000) (b := 20000) (fun i hi => HM.out i (by omega))
        rw [← hy.out] at b1
        rw [← hx.out] at b2
        have HV2 := Lib.hid (show y - x = ampV k T M by rw [hx.out, hy.out]; exact HV.out.symm)
        go_wp2
        go_ret2
        exact ⟨ret_pair HV2.out HC.out.symm, (by repeat' (first | (with_reducible exact Below.refl _ _) | (with_reducible assumption) | (with_reducible refine Base.via hbr ?_) | (with_reducible refine Base.via hb1 ?_) | (with_reducible refine Base.grow_alloc ?_ _) | (with_reducible refine Base.below_drewN ?_ _) | (with_reducible refine Below.drew ?_) | (with_reducible refine Below.setCell ?_ ?_ _) | go_size))⟩
  · have HC := Lib.hid hcode
    have HV := Lib.hid hval
    clear hcode hval
    go_enter Try.func26, Try.ntmps26
    go_wp2_with (first | (go_at_call 69; refine (c_l08Ok _ _ _ T M _ hv).mono ?_; rintro e w1 ⟨rfl, hb1⟩; obtain ⟨chb1, fhb1⟩ := Base.bcell hb1; have zhb1 := (hb1).size; (try simp at zhb1); (try have yhb1 : w.heap.size < (w1).heap.size := by omega)))
    go_ret2
    exact ⟨ret_pair HV.out.symm HC.out.symm, (by repeat' (first | (with_reducible exact Below.refl _ _) | (with_reducible assumption) | (with_reducible refine Base.via hb1 ?_) | (with_reducible refine Base.grow_alloc ?_ _) | (with_reducible refine Base.below_drewN ?_ _) | (with_reducible refine Below.drew ?_) | (with_reducible refine Below.setCell ?_ ?_ _) | go_size))⟩
  · have HC := Lib.hid hcode
    have HV := Lib.hid hval
    clear hcode hval
    go_enter Try.func26, Try.ntmps26
    go_wp2_with (first | (go_at_call 69; refine (c_l08Ok _ _ _ T M _ hv).mono ?_; rintro e w1 ⟨rfl, hb1⟩; obtain ⟨chb1, fhb1⟩ := Base.bcell hb1; have zhb1 := (hb1).size; (try simp at zhb1); (try have yhb1 : w.heap.size < (w1).heap.size := by omega)))
    go_ret2
    exact ⟨ret_pair HV.out.symm HC.out.symm, (by repeat' (first | (with_reducible exact Below.refl _ _) | (with_reducible assumption) | (with_reducible refine Base.via hb1 ?_) | (with_reducible refine Base.grow_alloc ?_ _) | (with_reducible refine Base.below_drewN ?_ _) | (with_reducible refine Below.drew ?_) | (with_reducible refine Below.setCell ?_ ?_ _) | go_size))⟩
def shV (n : Nat) (T M : Nat → Int) : Int := if okCurve n T M = true ∧ n ≤ 40 then 2 * ampV n T M else 0
def shCode (n : Nat) (T M : Nat → Int) : Int := if okCurve n T M = true then (if n ≤ 40 then 0 else 5) else 1
theorem amp_bd {n : Nat} {T M : Nat → Int} : -22000 ≤ ampV n T M ∧ ampV n T M ≤ 22000 := by
  rcases amp_cases n T M with ⟨hok, h2, _, hval⟩ | ⟨_, _, _, hval⟩ | ⟨_, _, hval⟩
  · obtain ⟨h100, _, hM, _⟩ := okCurve_bd hok
    have b1 := maxT_bd (T := M) (k := n - 1) (a := -2000) (b := 20000) (fun i hi => hM i (by omega))
    have b2 := minT_bd (T := M) (k := n - 1) (a := -2000) (b := 20000) (fun i hi => hM i (by omega))
    omega
  · omega
  · omega
theorem sh_cases (n : Nat) (T M : Nat → Int) : (okCurve n T M = true ∧ n ≤ 40 ∧ shCode n T M = 0 ∧ shV n T M = 2 * ampV n T M) ∨ (okCurve n T M = true ∧ 40 < n ∧ shCode n T M = 5 ∧ shV n T M = 0) ∨ (okCurve n T M = false ∧ shCode n T M = 1 ∧ shV n T M = 0) := by
  unfold shCode shV
  cases h : okCurve n T M <;> by_cases h2 : n ≤ 40 <;> simp [h2] <;> omega
set_option maxHeartbeats 800000 in
theorem c_ShortestString (A : Option Addr) (n c : Nat) (T M : Nat → Int) (w : World) (hv : Sl w 2 A n c (f2 T M)) :
    Calls Try.prog 48 #[.slice A n c] w fun e w' => e = .returned (.tuple #[.int .i64 (shV n T M), .int .i64 (shCode n T M)]) ∧ Below w.heap.size w w' := by
  have hn := hv.le
  have hbd := @amp_bd n T M
  rcases sh_cases n T M with ⟨hok, h2, hcode, hval⟩ | ⟨hok, h2, hcode, hval⟩ | ⟨hok, hcode, hval⟩
  · have HC := Lib.hid hcode
    have HV := Lib.hid hval
    clear hcode hval
    by_cases h0 : n = 0
    · subst h0
      have HZ := Lib.hid (show (0 : Int) = 2 * ampV 0 T M by rcases amp_cases 0 T M with ⟨_, h, _, _⟩ | ⟨_, _, _, h⟩ | ⟨_, _, h⟩ <;> omega)
      go_enter Try.func48, Try.ntmps48
      go_wp2_with (first | (go_at_call 72; refine (c_ValidCurve _ _ _ T M _ hv).mono ?_; rintro e w1 ⟨rfl, hb1⟩; obtain ⟨chb1, fhb1⟩ := Base.bcell hb1; have zhb1 := (hb1).size; (try simp at zhb1); (try have yhb1 : w.heap.size < (w1).heap.size := by omega)))
      go_ret2
      exact ⟨ret_pair (HZ.out.trans HV.out.symm) HC.out.symm, (by repeat' (first | (with_reducible exact Below.refl _ _) | (with_reducible assumption) | (with_reducible refine Base.via hb1 ?_) | (with_reducible refine Base.grow_alloc ?_ _) | (with_reducible refine Base.below_drewN ?_ _) | (with_reducible refine Below.drew ?_) | (with_reducible refine Below.setCell ?_ ?_ _) | go_size))⟩
    go_enter Try.func48, Try.ntmps48
    go_wp2_with (first | (go_at_call 72; refine (c_ValidCurve _ _ _ T M _ hv).mono ?_; rintro e w1 ⟨rfl, hb1⟩; obtain ⟨chb1, fhb1⟩ := Base.bcell hb1; have zhb1 := (hb1).size; (try simp at zhb1); (try have yhb1 : w.heap.size < (w1).heap.size := by omega)) | (go_at_call 28; refine (c_AmplitudeOf _ _ _ T M _ (hv.below hb1)).mono ?_; rintro e w2 ⟨rfl, hb2⟩; obtain ⟨chb2, fhb2⟩ := Base.bcell hb2; have zhb2 := (hb2).size; (try simp at zhb2); (try have yhb2 : w.heap.size < (w2).heap.size := by omega)))
    go_ret2
    exact ⟨ret_pair HV.out.symm HC.out.symm, (by repeat' (first | (with_reducible exact Below.refl _ _) | (with_reducible assumption) | (with_reducible refine Base.via hb2 ?_) | (with_reducible refine Base.via hb1 ?_) | (with_reducible refine Base.grow_alloc ?_ _) | (with_reducible refine Base.below_drewN ?_ _) | (with_reducible refine Below.drew ?_) | (with_reducible refine Below.setCell ?_ ?_ _) | go_size))⟩
  · have HC := Lib.hid hcode
    have HV := Lib.hid hval
    clear hcode hval
    go_enter Try.func48, Try.ntmps48
    go_wp2_with (first | (go_at_call 72; refine (c_ValidCurve _ _ _ T M _ hv).mono ?_; rintro e w1 ⟨rfl, hb1⟩; obtain ⟨chb1, fhb1⟩ := Base.bcell hb1; have zhb1 := (hb1).size; (try simp at zhb1); (try have yhb1 : w.heap.size < (w1).heap.size := by omega)))
    go_ret2
    exact ⟨ret_pair HV.out.symm HC.out.symm, (by repeat' (first | (with_reducible exact Below.refl _ _) | (with_reducible assumption) | (with_reducible refine Base.via hb1 ?_) | (with_reducible refine Base.grow_alloc ?_ _) | (with_reducible refine Base.below_drewN ?_ _) | (with_reducible refine Below.drew ?_) | (with_reducible refine Below.setCell ?_ ?_ _) | go_size))⟩
  · have HC := Lib.hid hcode
    have HV := Lib.hid hval
    clear hcode hval
    go_enter Try.func48, Try.ntmps48
    go_wp2_with (first | (go_at_call 72; refine (c_ValidCurve _ _ _ T M _ hv).mono ?_; rintro e w1 ⟨rfl, hb1⟩; obtain ⟨chb1, fhb1⟩ := Base.bcell hb1; have zhb1 := (hb1).size; (try simp at zhb1); (try have yhb1 : w.heap.size < (w1).heap.size := by omega)))
    go_ret2
    exact ⟨ret_pair HV.out.symm HC.out.symm, (by repeat' (first | (with_reducible exact Below.refl _ _) | (with_reducible assumption) | (with_reducible refine Base.via hb1 ?_) | (with_reducible refine Base.grow_alloc ?_ _) | (with_reducible refine Base.below_drewN ?_ _) | (with_reducible refine Below.drew ?_) | (with_reducible refine Below.setCell ?_ ?_ _) | go_size))⟩
set_option maxHeartbeats 800000 in
theorem c_specShortestString (A : Option Addr) (n c : Nat) (T M : Nat → Int) (w : World) (hv : Sl w 2 A n c (f2 T M)) :
    Calls Try.prog 47 #[.slice A n c] w fun e w' => e = .returned (.tuple #[.int .i64 (shV n T M), .int .i64 (shCode n T M)]) ∧ Below w.heap.size w w' := by
  have hn := hv.le
  have hbd := @amp_bd n T M
  rcases sh_cases n T M with ⟨hok, h2, hcode, hval⟩ | ⟨hok, h2, hcode, hval⟩ | ⟨hok, hcode, hval⟩
  · have HC := Lib.hid hcode
    have HV := Lib.hid hval
    clear hcode hval
    go_enter Try.func47, Try.ntmps47
    go_wp2_with (first | (go_at_call 69; refine (c_l08Ok _ _ _ T M _ hv).mono ?_; rintro e w1 ⟨rfl, hb1⟩; obtain ⟨chb1, fhb1⟩ := Base.bcell hb1; have zhb1 := (hb1).size; (try simp at zhb1); (try have yhb1 : w.heap.size < (w1).heap.size := by omega)) | (go_at_call 26; refine (c_specAmplitudeOf _ _ _ T M _ (hv.below hb1)).mono ?_; rintro e w2 ⟨rfl, hb2⟩; obtain ⟨chb2, fhb2⟩ := Base.bcell hb2; have zhb2 := (hb2).size; (try simp at zhb2); (try have yhb2 : w.heap.size < (w2).heap.size := by omega)))
    go_ret2
    exact ⟨ret_pair HV.out.symm HC.out.symm, (by repeat' (first | (with_reducible exact Below.refl _ _) | (with_reducible assumption) | (with_reducible refine Base.via hb2 ?_) | (with_reducible refine Base.via hb1 ?_) | (with_reducible refine Base.grow_alloc ?_ _) | (with_reducible refine Base.below_drewN ?_ _) | (with_reducible refine Below.drew ?_) | (with_reducible refine Below.setCell ?_ ?_ _) | go_size))⟩
  · have HC := Lib.hid hcode
    have HV := Lib.hid hval
    clear hcode hval
    go_enter Try.func47, Try.ntmps47
    go_wp2_with (first | (go_at_call 69; refine (c_l08Ok _ _ _ T M _ hv).mono ?_; rintro e w1 ⟨rfl, hb1⟩; obtain ⟨chb1, fhb1⟩ := Base.bcell hb1; have zhb1 := (hb1).size; (try simp at zhb1); (try have yhb1 : w.heap.size < (w1).heap.size := by omega)))
    go_ret2
    exact ⟨ret_pair HV.out.symm HC.out.symm, (by repeat' (first | (with_reducible exact Below.refl _ _) | (with_reducible assumption) | (with_reducible refine Base.via hb1 ?_) | (with_reducible refine Base.grow_alloc ?_ _) | (with_reducible refine Base.below_drewN ?_ _) | (with_reducible refine Below.drew ?_) | (with_reducible refine Below.setCell ?_ ?_ _) | go_size))⟩
  · have HC := Lib.hid hcode
    have HV := Lib.hid hval
    clear hcode hval
    go_enter Try.func47, Try.ntmps47
    go_wp2_with (first | (go_at_call 69; refine (c_l08Ok _ _ _ T M _ hv).mono ?_; rintro e w1 ⟨rfl, hb1⟩; obtain ⟨chb1, fhb1⟩ := Base.bcell hb1; have zhb1 := (hb1).size; (try simp at zhb1); (try have yhb1 : w.heap.size < (w1).heap.size := by omega)))
    go_ret2
    exact ⟨ret_pair HV.out.symm HC.out.symm, (by repeat' (first | (with_reducible exact Below.refl _ _) | (with_reducible assumption) | (with_reducible refine Base.via hb1 ?_) | (with_reducible refine Base.grow_alloc ?_ _) | (with_reducible refine Base.below_drewN ?_ _) | (with_reducible refine Below.drew ?_) | (with_reducible refine Below.setCell ?_ ?_ _) | go_size))⟩
end Go.Proofs.Ytfpipbajlokheaa.Amp
