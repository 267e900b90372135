/- The periods of a search. -/
import Derived.Test.YtenjcdhehjdeoaaEph
import Derived.Test.YtenjcdhehjdeoaaView
import Derived.Maps.AppendAt
namespace Go.Proofs.Ytenjcdhehjdeoaa.Per
set_option linter.unusedVariables false
set_option linter.unusedSimpArgs false
open Go.RowKit Plain Num View Eph

/-- how many periods a search has -/
def perN (f t s : Int) : Nat := if okSearch f t s = true then ((t - f) / s + 1).toNat else 0
def perF (f s : Int) : Nat → Int := fun i => f + i * s
def perCode (f t s : Int) : Int := if okSearch f t s = true then 0 else 1
theorem okSearch_bd {f t s : Int} (h : okSearch f t s = true) : (1 ≤ f ∧ f ≤ 1000000) ∧ (f ≤ t ∧ t ≤ 1000000) ∧ (1 ≤ s ∧ s ≤ 1000000) ∧ (t - f) / s + 1 ≤ 500 := by
  simp only [okSearch, Bool.and_eq_true, decide_eq_true_eq] at h
  exact ⟨inB_iff.1 h.1.1.1, inB_iff.1 h.1.1.2, inB_iff.1 h.1.2, h.2⟩
theorem perN_ok {f t s : Int} (h : okSearch f t s = true) : perN f t s ≤ 500 ∧ 1 ≤ perN f t s ∧ ∀ k : Nat, (k < perN f t s ↔ perF f s k ≤ t) ∧ (k ≤ perN f t s → f ≤ perF f s k ∧ perF f s k ≤ t + s) := by
  obtain ⟨b1, b2, b3, b4⟩ := okSearch_bd h
  have q1 : 0 ≤ (t - f) / s := Int.ediv_nonneg (by omega) (by omega)
  have e : perN f t s = ((t - f) / s + 1).toNat := by rw [perN, if_pos h]
  refine ⟨by omega, by omega, fun k => ?_⟩
  have key : (k : Int) ≤ (t - f) / s ↔ (k : Int) * s ≤ t - f := Int.le_ediv_iff_mul_le (by omega)
  refine ⟨?_, fun hk => ?_⟩
  · unfold perF
    rw [e]
    constructor
    · intro hk
      have := key.1 (by omega)
      omega
    · intro hk
      have := key.2 (by omega)
      omega
  · unfold perF
    have h0 : 0 ≤ (k : Int) * s := Int.mul_nonneg (by omega) (by omega)
    refine ⟨by omega, ?_⟩
    have h1 : (k : Int) - 1 ≤ (t - f) / s := by omega
    have h2 := (Int.le_ediv_iff_mul_le (show 0 < s by omega)).1 h1
    rw [Int.sub_mul] at h2
    omega
theorem infoI : (Try.prog.info? 2).map (fun i => (i.zero, i.size, i.bytes)) = some (some (.int .i64 0), 1, 8) := by kernel_rfl
/-- the cells of a list of numbers -/
def cellsI (n : Nat) (T : Nat → Int) : List Value := (List.range n).map fun i => .int .i64 (T i)
theorem cellsI_succ (n : Nat) (T : Nat → Int) : cellsI n T ++ [.int .i64 (T n)] = cellsI (n + 1) T := by simp [cellsI, List.range_succ]
theorem cellsI_at (n : Nat) (T : Nat → Int) : ∀ i, i < n → ∀ j, j < 1 → (cellsI n T)[i * 1 + j]? = some (f1 T i j) := by
  intro i hi j hj
  have : j = 0 := by omega
  subst this
  simp [cellsI, f1, hi]
theorem loopEnd {w1 : World} {B k : Nat} {v : Value} {E : TypeId} {T : Nat → Int} (h : w1.ownsRow B E 1 v k (cellsI k T)) (hk : k ≤ 1048576) : OwnK w1 B E 1 v k (f1 T) := OwnK.of_own h hk (cellsI_at k T)

set_option maxHeartbeats 1600000 in
theorem c_periods (f t s : Int) (w : World) (hok : okSearch f t s = true) :
    Calls Try.prog 64 #[.agg #[.int .i64 f, .int .i64 t, .int .i64 s]] w fun e w' => ∃ v, e = .returned v ∧ OwnK w' w.heap.size 2 1 v (perN f t s) (f1 (perF f s)) ∧ Below w.heap.size w w' := by
  obtain ⟨b1, b2, b3, b4⟩ := okSearch_bd hok
  obtain ⟨p1, p2, p3⟩ := perN_ok hok
  have HP := Lib.hid p3
  clear p3 b4
  generalize hN : perN f t s = N at *
  clear hN
  obtain ⟨i0, hi0, hz0, hz1, hz2⟩ := info_parts infoI
  go_enter Try.func64, Try.ntmps64
  go_wp2
  obtain ⟨W1, hW1⟩ : ∃ W1, W1 = w.alloc (.cells #[.int .i64 f, .int .i64 t, .int .i64 s] 48) := ⟨_, rfl⟩
  have hbw : Below w.heap.size w W1 := by rw [hW1]; exact (by repeat' (first | (with_reducible exact Below.refl _ _) | (with_reducible assumption) | (with_reducible refine Base.grow_alloc ?_ _) | (with_reducible refine Base.below_drewN ?_ _) | (with_reducible refine Below.drew ?_) | (with_reducible refine Below.setCell ?_ ?_ _) | go_size))
  have k1 : W1.cell? ⟨w.heap.size, 1, none⟩ = some (.int .i64 t) := by rw [hW1]; simp
  have k2 : W1.cell? ⟨w.heap.size, 2, none⟩ = some (.int .i64 s) := by rw [hW1]; simp
  have z1 : W1.heap.size = w.heap.size + 1 := by rw [hW1]; simp
  rw [← hW1]
  clear hW1
  go_loopw [3, 4] (fun v p wr => ∃ (k : Nat) (x : Int), k ≤ N ∧ Hid (x = perF f s k) ∧ p = .int .i64 x ∧ wr.ownsRow (w.heap.size + 1) 2 1 v k (cellsI k (perF f s)) ∧ Below (w.heap.size + 1) W1 wr) (fun _ p _ => (t + s - intOf p).toNat)
  case atStart => exact ⟨0, f, by omega, (show f = perF f s 0 by simp [perF]), rfl, by rw [← z1]; exact World.ownsRow_made _ _ _ (by omega) (by simp [maxLen]) rfl, (Below.refl _ _).alloc (by omega) _⟩
  case round =>
    obtain ⟨k, x, hk, hx, rfl, hown, hbr⟩ := hrel
    obtain ⟨h1, h2⟩ := HP.out k
    rw [← hx.out] at h1 h2
    have h2 := h2 hk
    have k1' := (hbr.cell (p := ⟨w.heap.size, 1, none⟩) (by simp)).trans k1
    have k2' := (hbr.cell (p := ⟨w.heap.size, 2, none⟩) (by simp)).trans k2
    have hzr := hbr.size
    by_cases hlt : x ≤ t
    · have hkN := h1.2 hlt
      have hx1 : x + s = perF f s (k + 1) := by rw [hx.out, perF, perF]; push_cast; rw [Int.add_mul]; omega
      have HX := Lib.hid hx1
      clear h1 hx1
      go_wp2_with (first | (at_builtin; refine wpList_append_own _ rfl _ _ 24 rfl (w.heap.size + 1) 2 i0 _ 1 8 Try.underlying24 hi0 hz0 hz1 hz2 rfl (by decide) _ _ _ rfl (hown.alloc _) ⟨_, 0, none⟩ 1 1 [.int .i64 x] rfl rfl (cell_one_new _ _ _) (by simp [Value.oneCell']) (by simp only [maxLen]; omega) (by omega) (by simp; omega) ?_))
      intro v' w1 hown' hgrow _
      have hb1 := own_below hbr (by omega) _ hown hgrow
      have k2 := (hb1.cell (p := ⟨w.heap.size, 2, none⟩) (by simp)).trans k2
      clear k1' k2'
      go_wp2
      go_roundw
      case rel => exact ⟨k + 1, x + s, by omega, HX.out, by go_num, by rw [← cellsI_succ, ← hx.out]; exact hown', hb1⟩
      case measure => simp [intOf]; omega
    · have hkN : k = N := by have := fun h => hlt (h1.1 h); omega
      subst hkN
      go_wp2
      go_ret
      exact ⟨_, rfl, (loopEnd hown (by omega)).mono (by omega), hbw.trans (hbr.mono (by omega))⟩
end Go.Proofs.Ytenjcdhehjdeoaa.Per
