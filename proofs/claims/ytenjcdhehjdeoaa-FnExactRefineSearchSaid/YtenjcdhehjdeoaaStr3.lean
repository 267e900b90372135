/- The best period of a search: both sides. -/
import Derived.Test.YtenjcdhehjdeoaaStr2
import Derived.Test.YtenjcdhehjdeoaaStrP
namespace Go.Proofs.Ytenjcdhehjdeoaa.Str
set_option linter.unusedVariables false
set_option linter.unusedSimpArgs false
set_option maxRecDepth 8000
open Go.RowKit Plain Num View Eph Curve Curve2 Per Least Amp

theorem len_bd {n : Nat} {T M : Nat → Int} {p : Int} (h100 : n ≤ 100) (hM : ∀ i, i < n → -2000 ≤ M i ∧ M i ≤ 20000) : 0 ≤ strL n T M p ∧ strL n T M p ≤ 2200000 := by
  have := str_bd (n := n) (T := T) (p := p) hM (Nat.le_refl n)
  unfold strL
  omega
set_option maxHeartbeats 800000 in
theorem c_Index (A : Option Addr) (n c : Nat) (F : Nat → Int) (x : Int) (w : World) (hv : Sl w 1 A n c (f1 F)) :
    Calls Try.prog 88 #[.slice A n c, .int .i64 x] w fun e w' => e = .returned (.int .i64 (idxB n (fun i => x == F i))) ∧ w = w' := by
  have hn := hv.le
  go_enter Try.func88, Try.ntmps88
  go_wp2
  go_loop [5, 8] (fun _ i => ∃ k : Nat, k ≤ n ∧ i = .int .i64 k ∧ Hid (allB k (fun i => !(x == F i)) = true)) (fun _ i => n - (intOf i).toNat)
  case atStart => exact ⟨0, Nat.zero_le _, rfl, (show allB 0 _ = true from rfl)⟩
  case round =>
    obtain ⟨k, hk, rfl, hall⟩ := hrel
    by_cases hlt : k < n
    · obtain ⟨b, off, rfl, hb, hc⟩ := hv.at_ (by omega)
      have h0 := cells1 hc k hlt
      clear hc
      cases hq : x == F k with
      | true =>
        have HQ := Lib.hid hq
        go_wp2
        go_ret
        exact ⟨ret_int (idxB_hit hlt HQ.out hall.out).symm, rfl⟩
      | false =>
        have HQ := Lib.hid hq
        go_wp2
        go_round
        case rel => exact ⟨k + 1, by omega, by go_num, allB_yes hall.out (by rw [HQ.out]; rfl)⟩
        case measure => simp [intOf]; omega
    · have hkn : k = n := by omega
      subst hkn
      go_wp2
      go_ret
      exact ⟨ret_int (idxB_miss hall.out).symm, rfl⟩
set_option maxHeartbeats 1600000 in
theorem c_shortest (A : Option Addr) (n c : Nat) (T M : Nat → Int) (B : Option Addr) (m cb : Nat) (P : Nat → Int) (w : World) (hv : Sl w 2 A n c (f2 T M)) (hu : Sl w 1 B m cb (f1 P)) (h100 : n ≤ 100)
    (hT : ∀ i, i < n → 0 ≤ T i ∧ T i ≤ 10000000) (hM : ∀ i, i < n → -2000 ≤ M i ∧ M i ≤ 20000) (hP : ∀ i, i < m → 1 ≤ P i ∧ P i ≤ 1000000) (hm : 0 < m) :
    Calls Try.prog 67 #[.slice A n c, .slice B m cb] w fun e w' => e = .returned (.int .i64 (P (amin (fun i => strL n T M (P i)) (m - 1)))) ∧ Below w.heap.size w w' := by
  have hml := hu.le
  have HF := Lib.hid (fun (W : World) (h1 : Sl W 2 A n c (f2 T M)) (h2 : Sl W 1 B m cb (f1 P)) => c_stringLengths A n c T M B m cb P W h1 h2 h100 hT hM hP)
  clear hT hM hP
  obtain ⟨F, hF⟩ : ∃ F : Nat → Int, (fun i => strL n T M (P i)) = F := ⟨_, rfl⟩
  rw [hF] at HF ⊢
  clear hF
  have hI := amin_idx (F := F) hm
  have hle := amin_le (F := F) (m - 1)
  generalize amin F (m - 1) = a at *
  go_enter Try.func67, Try.ntmps67
  go_wp2_with (first | (go_at_call 63; refine (HF.out _ hv hu).mono ?_))
  rintro e w1 ⟨v, rfl, ho, hb1⟩
  obtain ⟨A1, c1, rfl, V1, B1⟩ := ho.view
  obtain ⟨b, off, rfl, hb, hc⟩ := (hu.below hb1).at_ hm
  have h0 := cells1 hc a (by omega)
  have HIX := Lib.hid (fun W (hW : Sl W 1 A1 m c1 (f1 F)) => by have := c_Index A1 m c1 F (minT F (m - 1)) W hW; rw [hI] at this; exact this)
  have HMN := Lib.hid (fun W (hW : Sl W 1 A1 m c1 (f1 F)) => c_Min A1 m c1 F W hW hm)
  have i1 : (0 : Int) ≤ (a : Int) := by omega
  have i2 : (a : Int) < m := by omega
  clear hI hc ho B1
  go_wp2_with (first | (go_at_call 89; refine (HMN.out _ V1).mono ?_; rintro e w' ⟨rfl, rfl⟩) | (go_at_call 88; refine (HIX.out _ V1).mono ?_; rintro e w' ⟨rfl, rfl⟩))
  go_ret
  exact ⟨rfl, (by repeat' (first | (with_reducible exact Below.refl _ _) | (with_reducible assumption) | (with_reducible refine Base.via hb1 ?_) | (with_reducible refine Base.grow_alloc ?_ _) | (with_reducible refine Base.below_drewN ?_ _) | (with_reducible refine Below.drew ?_) | (with_reducible refine Below.setCell ?_ ?_ _) | go_size))⟩
set_option maxHeartbeats 1600000 in
theorem c_l10Best (A : Option Addr) (n c : Nat) (F : Nat → Int) (a b : Int) (P : Nat → Bool) (w : World) (hv : Sl w 1 A n c (f1 F)) (hP : ∀ k, P k = !(decide (a ≤ (k : Int)) && decide ((k : Int) ≤ b))) :
    Calls Try.prog 66 #[.slice A n c, .int .i64 a, .int .i64 b] w fun e w' => e = .returned (.int .i64 (bst P F n)) ∧ Below w.heap.size w w' := by
  have hn := hv.le
  have HP := Lib.hid hP
  clear hP
  go_enter Try.func66, Try.ntmps66
  go_wp2
  go_loopw [7, 8] (fun s i wr => ∃ (k : Nat) (x : Int), k ≤ n ∧ i = .int .i64 k ∧ s = .int .i64 x ∧ Hid (x = bst P F k) ∧ -1 ≤ x ∧ x < k ∧ Below w.heap.size w wr) (fun _ i _ => n - (intOf i).toNat)
  case atStart => exact ⟨0, -1, Nat.zero_le _, rfl, rfl, (show (-1 : Int) = bst P F 0 from rfl), by omega, by omega, (by repeat' (first | (with_reducible exact Below.refl _ _) | (with_reducible assumption) | (with_reducible refine Base.grow_alloc ?_ _) | (with_reducible refine Base.below_drewN ?_ _) | (with_reducible refine Below.drew ?_) | (with_reducible refine Below.setCell ?_ ?_ _) | go_size))⟩
  case round =>
    obtain ⟨k, x, hk, rfl, rfl, hx, x0, x1, hbr⟩ := hrel
    by_cases hlt : k < n
    · obtain ⟨bb, off, rfl, hb, hc⟩ := (hv.below hbr).at_ (by omega)
      have hpk := HP.out k
      by_cases e1 : a ≤ (k : Int)
      · by_cases e2 : (k : Int) ≤ b
        · have HE := Lib.hid (bst_out (F := F) (by rw [hpk]; simp [e1, e2]) hx.out)
          clear hpk
          go_wp2
          go_roundw
          case rel => exact ⟨k + 1, x, by omega, by go_num, rfl, HE.out, by omega, by omega, (by repeat' (first | (with_reducible exact Below.refl _ _) | (with_reducible assumption) | (with_reducible refine Base.grow_alloc ?_ _) | (with_reducible refine Base.below_drewN ?_ _) | (with_reducible refine Below.drew ?_) | (with_reducible refine Below.setCell ?_ ?_ _) | go_size))⟩
          case measure => simp [intOf]; omega
        · have hpt : P k = true := by rw [hpk]; simp [e1, e2]
          have HPT := Lib.hid hpt
          clear hpk hpt
          have h0 := cells1 hc k hlt
          by_cases hneg : x < 0
          · have HE := Lib.hid (bst_new HPT.out hx.out hneg)
            have hd : decide (x < 0) = true := by simpa using hneg
            clear hc
            go_wp2
            go_quiet (fail)
            go_wp2
            go_roundw
            case rel => exact ⟨k + 1, k, by omega, by go_num, rfl, HE.out, by omega, by omega, (by repeat' (first | (with_reducible exact Below.refl _ _) | (with_reducible assumption) | (with_reducible refine Base.grow_alloc ?_ _) | (with_reducible refine Base.below_drewN ?_ _) | (with_reducible refine Below.drew ?_) | (with_reducible refine Below.setCell ?_ ?_ _) | go_size))⟩
            case measure => simp [intOf]; omega
          · obtain ⟨j, rfl⟩ : ∃ j : Nat, x = j := ⟨x.toNat, by omega⟩
            have hd : decide ((j : Int) < 0) = false := by rw [decide_eq_false_iff_not]; omega
            have h1 := cells1 hc j (by omega)
            have i1 : (0 : Int) ≤ (j : Int) := by omega
            have i2 : (j : Int) < n := by omega
            have i3 : (0 : Int) ≤ (k : Int) := by omega
            have i4 : (k : Int) < n := by omega
            clear hc
            by_cases hl : F k < F j
            · have HE := Lib.hid (bst_less HPT.out hx.out (by simpa using hl))
              have hd2 : decide (F k < F j) = true := by simpa using hl
              go_wp2
              go_quiet (fail)
              go_wp2
              go_roundw
              case rel => exact ⟨k + 1, k, by omega, by go_num, rfl, HE.out, by omega, by omega, (by repeat' (first | (with_reducible exact Below.refl _ _) | (with_reducible assumption) | (with_reducible refine Base.grow_alloc ?_ _) | (with_reducible refine Base.below_drewN ?_ _) | (with_reducible refine Below.drew ?_) | (with_reducible refine Below.setCell ?_ ?_ _) | go_size))⟩
              case measure => simp [intOf]; omega
            · have HE := Lib.hid (bst_keep hx.out hneg (by simpa using hl))
              have hd2 : decide (F k < F j) = false := by simpa using hl
              go_wp2
              go_quiet (fail)
              go_wp2
              go_roundw
              case rel => exact ⟨k + 1, j, by omega, by go_num, rfl, HE.out, by omega, by omega, (by repeat' (first | (with_reducible exact Below.refl _ _) | (with_reducible assumption) | (with_reducible refine Base.grow_alloc ?_ _) | (with_reducible refine Base.below_drewN ?_ _) | (with_reducible refine Below.drew ?_) | (with_reducible refine Below.setCell ?_ ?_ _) | go_size))⟩
              case measure => simp [intOf]; omega
      · have hpt : P k = true := by rw [hpk]; simp [e1]
        have HPT := Lib.hid hpt
        clear hpk hpt
        have h0 := cells1 hc k hlt
        by_cases hneg : x < 0
        · have HE := Lib.hid (bst_new HPT.out hx.out hneg)
          have hd : decide (x < 0) = true := by simpa using hneg
          clear hc
          go_wp2
          go_quiet (fail)
          go_wp2
          go_roundw
          case rel => exact ⟨k + 1, k, by omega, by go_num, rfl, HE.out, by omega, by omega, (by repeat' (first | (with_reducible exact Below.refl _ _) | (with_reducible assumption) | (with_reducible refine Base.grow_alloc ?_ _) | (with_reducible refine Base.below_drewN ?_ _) | (with_reducible refine Below.drew ?_) | (with_reducible refine Below.setCell ?_ ?_ _) | go_size))⟩
          case measure => simp [intOf]; omega
        · obtain ⟨j, rfl⟩ : ∃ j : Nat, x = j := ⟨x.toNat, by omega⟩
          have hd : decide ((j : Int) < 0) = false := by rw [decide_eq_false_iff_not]; omega
          have h1 := cells1 hc j (by omega)
          have i1 : (0 : Int) ≤ (j : Int) := by omega
          have i2 : (j : Int) < n := by omega
          have i3 : (0 : Int) ≤ (k : Int) := by omega
          have i4 : (k : Int) < n := by omega
          clear hc
          by_cases hl : F k < F j
          · have HE := Lib.hid (bst_less HPT.out hx.out (by simpa using hl))
            have hd2 : decide (F k < F j) = true := by simpa using hl
            go_wp2
            go_quiet (fail)
            go_wp2
            go_roundw
            case rel => exact ⟨k + 1, k, by omega, by go_num, rfl, HE.out, by omega, by omega, (by repeat' (first | (with_reducible exact Below.refl _ _) | (with_reducible assumption) | (with_reducible refine Base.grow_alloc ?_ _) | (with_reducible refine Base.below_drewN ?_ _) | (with_reducible refine Below.drew ?_) | (with_reducible refine Below.setCell ?_ ?_ _) | go_size))⟩
            case measure => simp [intOf]; omega
          · have HE := Lib.hid (bst_keep hx.out hneg (by simpa using hl))
            have hd2 : decide (F k < F j) = false := by simpa using hl
            go_wp2
            go_quiet (fail)
            go_wp2
            go_roundw
            case rel => exact ⟨k + 1, j, by omega, by go_num, rfl, HE.out, by omega, by omega, (by repeat' (first | (with_reducible exact Below.refl _ _) | (with_reducible assumption) | (with_reducible refine Base.grow_alloc ?_ _) | (with_reducible refine Base.below_drewN ?_ _) | (with_reducible refine Below.drew ?_) | (with_reducible refine Below.setCell ?_ ?_ _) | go_size))⟩
            case measure => simp [intOf]; omega
    · have hkn : k = n := by omega
      subst hkn
      have HR := Lib.hid hx.out
      go_wp2
      go_ret
      exact ⟨ret_int HR.out, hbr⟩
end Go.Proofs.Ytenjcdhehjdeoaa.Str
