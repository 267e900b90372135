/- The bins of points. -/
import Derived.Test.YtenjcdhehjdeoaaNum
import Derived.Test.YtenjcdhehjdeoaaList
import Derived.Test.YtenjcdhehjdeoaaCurve2
namespace Go.Proofs.Ytenjcdhehjdeoaa.Bins
set_option linter.unusedVariables false
set_option linter.unusedSimpArgs false
open Go.RowKit Plain Num View Curve Curve2

/-- the code of a curve, a period and a number of bins -/
def binCode (n : Nat) (T M : Nat → Int) (p b : Int) : Int := if okCurve n T M = true then (if (inB p 1 1000000 && inB b 1 20) = true then 0 else 2) else 1
/-- the bin of point i -/
def binV (T : Nat → Int) (p b : Int) (i : Nat) : Int := b * (T i % p) / p
theorem bin_cases (n : Nat) (T M : Nat → Int) (p b : Int) : (okCurve n T M = true ∧ inB p 1 1000000 = true ∧ inB b 1 20 = true ∧ binCode n T M p b = 0) ∨ (okCurve n T M = true ∧ inB p 1 1000000 = false ∧ binCode n T M p b = 2) ∨ (okCurve n T M = true ∧ inB p 1 1000000 = true ∧ inB b 1 20 = false ∧ binCode n T M p b = 2) ∨ (okCurve n T M = false ∧ binCode n T M p b = 1) := by
  unfold binCode
  cases h : okCurve n T M <;> cases h1 : inB p 1 1000000 <;> cases h2 : inB b 1 20 <;> simp
theorem bin_bd {T : Nat → Int} {p b : Int} (hp : 1 ≤ p ∧ p ≤ 1000000) (hb : 1 ≤ b ∧ b ≤ 20) (i : Nat) : 0 ≤ T i % p ∧ T i % p < p ∧ 0 ≤ b * (T i % p) ∧ b * (T i % p) ≤ 20000000 ∧ 0 ≤ binV T p b i ∧ binV T p b i < b ∧ 0 ≤ b * (T i % p) / p ∧ b * (T i % p) / p < b := by
  have h1 := Int.emod_nonneg (T i) (show p ≠ 0 by omega)
  have h2 := Int.emod_lt_of_pos (T i) (show 0 < p by omega)
  have h3 := Int.mul_nonneg (show 0 ≤ b by omega) h1
  have h4 : b * (T i % p) ≤ b * (p - 1) := Int.mul_le_mul_of_nonneg_left (by omega) (by omega)
  have h5 : b * (T i % p) ≤ 20 * (T i % p) := Int.mul_le_mul_of_nonneg_right (by omega) h1
  have h6 := Int.ediv_nonneg h3 (show 0 ≤ p by omega)
  have h7 : b * (T i % p) / p < b := Int.ediv_lt_of_lt_mul (by omega) (by rw [Int.mul_sub] at h4; omega)
  exact ⟨h1, h2, h3, by omega, h6, h7, h6, h7⟩
theorem infoI : (Try.prog.info? 2).map (fun i => (i.zero, i.size, i.bytes)) = some (some (.int .i64 0), 1, 8) := by kernel_rfl
set_option maxHeartbeats 800000 in
theorem c_binsOf (A : Option Addr) (n c : Nat) (T M : Nat → Int) (p b : Int) (w : World) (hv : Sl w 2 A n c (f2 T M)) (hT : ∀ i, i < n → 0 ≤ T i ∧ T i ≤ 10000000) (hp : 1 ≤ p ∧ p ≤ 1000000) (hb : 1 ≤ b ∧ b ≤ 20) :
    Calls Try.prog 116 #[.slice A n c, .int .i64 p, .int .i64 b] w fun e w' => ∃ v, e = .returned v ∧ OwnK w' w.heap.size 2 1 v n (f1 (binV T p b)) ∧ Below w.heap.size w w' := by
  have hn := hv.le
  have HT := Lib.hid hT
  clear hT
  obtain ⟨hp1, hp2⟩ := hp
  obtain ⟨hb1, hb2⟩ := hb
  obtain ⟨i0, hi0, hz0, hz1, hz2⟩ := info_parts infoI
  go_enter Try.func116, Try.ntmps116
  go_wp2
  go_loopw [7, 13] (fun v i wr => ∃ k : Nat, k ≤ n ∧ i = .int .i64 k ∧ wr.ownsRow w.heap.size 2 1 v (sel k all1 (binV T p b)).length (cellL (sel k all1 (binV T p b))) ∧ Below w.heap.size w wr) (fun _ i _ => n - (intOf i).toNat)
  case atStart => exact ⟨0, Nat.zero_le _, rfl, World.ownsRow_made _ _ _ (by omega) (by simp [maxLen]) rfl, (by repeat' (first | (with_reducible exact Below.refl _ _) | (with_reducible assumption) | (with_reducible refine Base.grow_alloc ?_ _) | (with_reducible refine Base.below_drewN ?_ _) | (with_reducible refine Below.drew ?_) | (with_reducible refine Below.setCell ?_ ?_ _) | go_size))⟩
  case round =>
    obtain ⟨k, hk, rfl, hown, hbr⟩ := hrel
    have hz := hbr.size
    have hl := sel_all_len (k := k) (g := binV T p b)
    by_cases hlt : k < n
    · obtain ⟨bb, off, rfl, hbb, hc⟩ := (hv.below hbr).at_ (by omega)
      obtain ⟨h0, h1⟩ := cells2 hc k hlt
      have hTk := HT.out k hlt
      obtain ⟨q1, q2, q3, q4, _, _, q7, q8⟩ := bin_bd (T := T) ⟨hp1, hp2⟩ ⟨hb1, hb2⟩ k
      clear hc
      go_wp2_with (first | (at_builtin; refine wpList_append_own _ rfl _ _ 24 rfl (w.heap.size) 2 i0 _ 1 8 Try.underlying24 hi0 hz0 hz1 hz2 rfl (by decide) _ _ _ rfl (own_of_below hown (by repeat' (first | (with_reducible exact Below.refl _ _) | (with_reducible assumption) | (with_reducible refine Base.grow_alloc ?_ _) | (with_reducible refine Base.below_drewN ?_ _) | (with_reducible refine Below.drew ?_) | (with_reducible refine Below.setCell ?_ ?_ _) | go_size))) ⟨_, 0, none⟩ 1 1 [.int .i64 (b * (T k % p) / p)] rfl rfl (cell_newL _ [.int .i64 (b * (T k % p) / p)] _ (by simp)) (by simp [Value.oneCell']) (by simp only [maxLen]; omega) (by omega) (by simp; omega) ?_))
      intro v' w1 hown' hgrow _
      have hbx : Below w.heap.size w w1 := own_grow (by repeat' (first | (with_reducible exact Below.refl _ _) | (with_reducible assumption) | (with_reducible refine Base.grow_alloc ?_ _) | (with_reducible refine Base.below_drewN ?_ _) | (with_reducible refine Below.drew ?_) | (with_reducible refine Below.setCell ?_ ?_ _) | go_size)) hown (Nat.le_refl _) hgrow
      clear hown hgrow
      go_wp2
      go_roundw
      case rel => exact ⟨k + 1, by omega, by go_num, by rw [sel_yes rfl]; exact own_snoc (by rw [hl]; exact hown'), hbx⟩
      case measure => simp [intOf]; omega
    · have hkn : k = n := by omega
      subst hkn
      go_wp2
      go_ret
      exact ⟨_, rfl, OwnK.of_all hown hn, hbr⟩
theorem infoJ : (Try.prog.info? 2).map (fun i => (i.zero, i.size, i.bytes)) = some (some (.int .i64 0), 1, 8) := by kernel_rfl
set_option maxHeartbeats 800000 in
theorem c_l11Bins (A : Option Addr) (n c : Nat) (T M : Nat → Int) (p b : Int) (w : World) (hv : Sl w 2 A n c (f2 T M)) (hT : ∀ i, i < n → 0 ≤ T i ∧ T i ≤ 10000000) (hp : 1 ≤ p ∧ p ≤ 1000000) (hb : 1 ≤ b ∧ b ≤ 20) :
    Calls Try.prog 105 #[.slice A n c, .int .i64 p, .int .i64 b] w fun e w' => ∃ v, e = .returned v ∧ OwnK w' w.heap.size 2 1 v n (f1 (binV T p b)) ∧ Below w.heap.size w w' := by
  have hn := hv.le
  have HT := Lib.hid hT
  clear hT
  obtain ⟨hp1, hp2⟩ := hp
  obtain ⟨hb1, hb2⟩ := hb
  obtain ⟨i0, hi0, hz0, hz1, hz2⟩ := info_parts infoJ
  go_enter Try.func105, Try.ntmps105
  go_wp2
  go_loopw [7, 8] (fun v i wr => ∃ k : Nat, k ≤ n ∧ i = .int .i64 k ∧ wr.ownsRow w.heap.size 2 1 v (sel k all1 (binV T p b)).length (cellL (sel k all1 (binV T p b))) ∧ Below w.heap.size w wr) (fun _ i _ => n - (intOf i).toNat)
  case atStart => exact ⟨0, Nat.zero_le _, rfl, World.ownsRow_made _ _ _ (by omega) (by simp [maxLen]) rfl, (by repeat' (first | (with_reducible exact Below.refl _ _) | (with_reducible assumption) | (with_reducible refine Base.grow_alloc ?_ _) | (with_reducible refine Base.below_drewN ?_ _) | (with_reducible refine Below.drew ?_) | (with_reducible refine Below.setCell ?_ ?_ _) | go_size))⟩
  case round =>
    obtain ⟨k, hk, rfl, hown, hbr⟩ := hrel
    have hz := hbr.size
    have hl := sel_all_len (k := k) (g := binV T p b)
    by_cases hlt : k < n
    · obtain ⟨bb, off, rfl, hbb, hc⟩ := (hv.below hbr).at_ (by omega)
      obtain ⟨h0, h1⟩ := cells2 hc k hlt
      have hTk := HT.out k hlt
      obtain ⟨q1, q2, q3, q4, _, _, q7, q8⟩ := bin_bd (T := T) ⟨hp1, hp2⟩ ⟨hb1, hb2⟩ k
      clear hc
      go_wp2_with (first | (at_builtin; refine wpList_append_own _ rfl _ _ 24 rfl (w.heap.size) 2 i0 _ 1 8 Try.underlying24 hi0 hz0 hz1 hz2 rfl (by decide) _ _ _ rfl (own_of_below hown (by repeat' (first | (with_reducible exact Below.refl _ _) | (with_reducible assumption) | (with_reducible refine Base.grow_alloc ?_ _) | (with_reducible refine Base.below_drewN ?_ _) | (with_reducible refine Below.drew ?_) | (with_reducible refine Below.setCell ?_ ?_ _) | go_size))) ⟨_, 0, none⟩ 1 1 [.int .i64 (b * (T k % p) / p)] rfl rfl (cell_newL _ [.int .i64 (b * (T k % p) / p)] _ (by simp)) (by simp [Value.oneCell']) (by simp only [maxLen]; omega) (by omega) (by simp; omega) ?_))
      intro v' w1 hown' hgrow _
      have hbx : Below w.heap.size w w1 := own_grow (by repeat' (first | (with_reducible exact Below.refl _ _) | (with_reducible assumption) | (with_reducible refine Base.grow_alloc ?_ _) | (with_reducible refine Base.below_drewN ?_ _) | (with_reducible refine Below.drew ?_) | (with_reducible refine Below.setCell ?_ ?_ _) | go_size)) hown (Nat.le_refl _) hgrow
      clear hown hgrow
      go_wp2
      go_roundw
      case rel => exact ⟨k + 1, by omega, by go_num, by rw [sel_yes rfl]; exact own_snoc (by rw [hl]; exact hown'), hbx⟩
      case measure => simp [intOf]; omega
    · have hkn : k = n := by omega
      subst hkn
      go_wp2
      go_ret
      exact ⟨_, rfl, OwnK.of_all hown hn, hbr⟩
def binN (n : Nat) (T M : Nat → Int) (p b : Int) : Nat := if binCode n T M p b = 0 then n else 0
theorem code_ok {n : Nat} {T M : Nat → Int} {p b : Int} (h : binCode n T M p b = 0) : okCurve n T M = true ∧ (1 ≤ p ∧ p ≤ 1000000) ∧ (1 ≤ b ∧ b ≤ 20) := by
  rcases bin_cases n T M p b with ⟨h1, h2, h3, hc⟩ | ⟨h1, h2, hc⟩ | ⟨h1, h2, h3, hc⟩ | ⟨h1, hc⟩
  · exact ⟨h1, inB_iff.1 h2, inB_iff.1 h3⟩
  all_goals omega
end Go.Proofs.Ytenjcdhehjdeoaa.Bins
