/- The laws' own functions on estimates. -/
import Derived.Test.YthojfmlnnclghaaDoorEst
import Derived.Test.YthojfmlnnclghaaDoorCopy
namespace Go.Proofs.YthojfmlnnclghaaDoor.Est
set_option linter.unusedVariables false
set_option linter.unusedSimpArgs false
set_option maxRecDepth 8000
open Go.RowKit Plain Num View

theorem infoEst : (Tryd.prog.info? 33).map (fun i => (i.zero, i.size, i.bytes)) = some (some (.agg #[.int .i64 0, .string ⟨#[]⟩, .string ⟨#[]⟩, .int .i64 0, .bool false]), 5, 56) := by kernel_rfl
def zero5 : E5 := ⟨0, ⟨#[]⟩, ⟨#[]⟩, 0, false⟩
set_option maxHeartbeats 800000 in
theorem c_toEstimate (e : E5) (w : World) : Calls Tryd.prog 12 #[est e] w fun r w' => r = .returned (est e) ∧ Below w.heap.size w w' := by
  obtain ⟨t, s, o, m, b⟩ := e
  simp only [est]
  go_enter Tryd.func12, Tryd.ntmps12
  go_wp2
  refine bodyPost_ret (v := .agg #[.int .i64 t, .string s, .string o, .int .i64 m, .bool b]) (by simp [results, Tryd.results12, go_sem]) rfl ⟨rfl, (by repeat' (first | (with_reducible exact Below.refl _ _) | (with_reducible assumption) | (with_reducible refine Base.grow_alloc ?_ _) | (with_reducible refine Base.below_drewN ?_ _) | (with_reducible refine Below.drew ?_) | (with_reducible refine Below.setCell ?_ ?_ _) | go_size))⟩
theorem made5 (m : Nat) (i j : Nat) (hi : i < m) (hj : j < 5) : (madeCells #[.int .i64 0, .string ⟨#[]⟩, .string ⟨#[]⟩, .int .i64 0, .bool false] (m * 5))[i * 5 + j]? = some (f5 (fun _ => zero5) i j) := by
  unfold madeCells
  have h5 : (i * 5 + j) % 5 = j := by omega
  have hlt : i * 5 + j < m * 5 := by omega
  obtain rfl | rfl | rfl | rfl | rfl : j = 0 ∨ j = 1 ∨ j = 2 ∨ j = 3 ∨ j = 4 := by omega
  all_goals simp [Array.getElem?_map, Array.getElem?_range, h5, hlt, f5, zero5]
  all_goals omega
set_option maxHeartbeats 1600000 in
theorem c_toEstimateS (A : Option Addr) (n c : Nat) (E : Nat → E5) (w : World) (hv : Sl w 5 A n c (f5 E)) :
    Calls Tryd.prog 6 #[.slice A n c] w fun e w' => ∃ g, e = .returned (.slice (some ⟨g, 0, none⟩) n n) ∧ w.heap.size ≤ g ∧ RowK w' g 33 5 n (f5 E) ∧ Below w.heap.size w w' := by
  obtain ⟨i0, hi0, hz0, hz1, hz2⟩ := info_parts infoEst
  have hn := hv.le
  have hmk := fun W => run_make_rowN (P := Tryd.prog) 25 33 i0 _ Tryd.underlying25 hi0 hz0 n (by rw [hz2]; omega) (by omega) W
  rw [hz1] at hmk
  have hzero : RowK (w.alloc (.cells (madeCells #[.int .i64 0, .string ⟨#[]⟩, .string ⟨#[]⟩, .int .i64 0, .bool false] (n * 5)) 33)) w.heap.size 33 5 n (f5 (fun _ => zero5)) :=
    RowK.made _ (by rw [size_madeCells]; omega) (fun i hi j hj => made5 n i j hi hj)
  go_enter Tryd.func6, Tryd.ntmps6
  go_wp2
  go_loopw [4] (fun i wr => ∃ k : Nat, k ≤ n ∧ i = .int .i64 k ∧ RowK wr w.heap.size 33 5 n (f5 (fun i => if i < k then E i else zero5)) ∧ Below w.heap.size w wr) (fun i _ => n - (intOf i).toNat)
  case atStart => exact ⟨0, Nat.zero_le _, rfl, hzero.congr (fun i _ j _ => by simp), (by repeat' (first | (with_reducible exact Below.refl _ _) | (with_reducible assumption) | (with_reducible refine Base.grow_alloc ?_ _) | (with_reducible refine Base.below_drewN ?_ _) | (with_reducible refine Below.drew ?_) | (with_reducible refine Below.setCell ?_ ?_ _) | go_size))⟩
  case round =>
    obtain ⟨k, hk, rfl, hrow, hbr⟩ := hrel
    by_cases hlt : k < n
    · obtain ⟨b, off, rfl, hb, hc⟩ := (hv.below hbr).at_ (by omega)
      obtain ⟨h0, h1, h2, h3, h4⟩ := cells5 hc k hlt
      have hg := hrow.lt
      have HT := Lib.hid (fun W => c_toEstimate (E k) W)
      have HROW := Lib.hid hrow
      clear hc hrow
      go_wp2_with fail
      refine (HT.out _).mono ?_
      rintro e w1 ⟨rfl, hb1⟩
      have hrow1 := HROW.out.below hb1 hg
      have s0 := hrow1.cell hlt (show 0 < 5 by omega)
      have s1 := hrow1.cell hlt (show 1 < 5 by omega)
      have s2 := hrow1.cell hlt (show 2 < 5 by omega)
      have s3 := hrow1.cell hlt (show 3 < 5 by omega)
      have s4 := hrow1.cell hlt (show 4 < 5 by omega)
      simp only [Nat.add_zero] at s0
      have sf := hrow1.frozen
      have hg1 := hrow1.lt
      simp only [est]
      go_wp2
      go_roundw
      case rel =>
        refine ⟨k + 1, by omega, by go_num, ?_, (by repeat' (first | (with_reducible exact Below.refl _ _) | (with_reducible assumption) | (with_reducible refine Base.via hb1 ?_) | (with_reducible refine Base.via hbr ?_) | (with_reducible refine Base.grow_alloc ?_ _) | (with_reducible refine Base.below_drewN ?_ _) | (with_reducible refine Below.drew ?_) | (with_reducible refine Below.setCell ?_ ?_ _) | go_size))⟩
        refine RowK.congr (((((hrow1.set (j := 0) hlt (by omega) (.int .i64 (E k).t)).set (j := 1) hlt (by omega) (.string (E k).s)).set (j := 2) hlt (by omega) (.string (E k).o)).set (j := 3) hlt (by omega) (.int .i64 (E k).m)).set (j := 4) hlt (by omega) (.bool (E k).b)) ?_
        intro i hi j hj
        simp only [upd]
        by_cases e : i = k
        · subst e
          obtain rfl | rfl | rfl | rfl | rfl : j = 0 ∨ j = 1 ∨ j = 2 ∨ j = 3 ∨ j = 4 := by omega
          all_goals simp [f5]
        · have e2 : i < k + 1 ↔ i < k := by omega
          simp [e, e2, f5]
      case measure => simp [intOf]; omega
    · have hkn : k = n := by omega
      subst hkn
      go_wp2
      go_ret
      exact ⟨_, rfl, Nat.le_refl _, hrow.congr (fun i hi j _ => by simp [f5, hi]), hbr⟩
set_option maxHeartbeats 800000 in
theorem c_eqEstimate (e : E5) (w : World) : Calls Tryd.prog 18 #[est e, est e] w fun r w' => r = .returned (.bool true) ∧ Below w.heap.size w w' := by
  obtain ⟨t, s, o, m, b⟩ := e
  simp only [est]
  go_enter Tryd.func18, Tryd.ntmps18
  go_wp2
  go_ret
  exact ⟨rfl, (by repeat' (first | (with_reducible exact Below.refl _ _) | (with_reducible assumption) | (with_reducible refine Base.grow_alloc ?_ _) | (with_reducible refine Base.below_drewN ?_ _) | (with_reducible refine Below.drew ?_) | (with_reducible refine Below.setCell ?_ ?_ _) | go_size))⟩
set_option maxHeartbeats 1600000 in
theorem c_eqEstimateS (A B : Option Addr) (n c d : Nat) (E : Nat → E5) (w : World) (hv : Sl w 5 A n c (f5 E)) (hu : Sl w 5 B n d (f5 E)) :
    Calls Tryd.prog 8 #[.slice A n c, .slice B n d] w fun e w' => e = .returned (.bool true) ∧ Below w.heap.size w w' := by
  have hn := hv.le
  go_enter Tryd.func8, Tryd.ntmps8
  go_wp2
  go_loopw [5] (fun i wr => ∃ k : Nat, k ≤ n ∧ i = .int .i64 k ∧ Below w.heap.size w wr) (fun i _ => n - (intOf i).toNat)
  case atStart => exact ⟨0, Nat.zero_le _, rfl, Below.refl _ _⟩
  case round =>
    obtain ⟨k, hk, rfl, hbr⟩ := hrel
    by_cases hlt : k < n
    · obtain ⟨b, off, rfl, hb, hc⟩ := (hv.below hbr).at_ (by omega)
      obtain ⟨b', off', rfl, hb', hc'⟩ := (hu.below hbr).at_ (by omega)
      obtain ⟨h0, h1, h2, h3, h4⟩ := cells5 hc k hlt
      obtain ⟨g0, g1, g2, g3, g4⟩ := cells5 hc' k hlt
      have HT := Lib.hid (fun W => c_eqEstimate (E k) W)
      clear hc hc'
      go_wp2
      go_still_tail 8, (by kernel_rfl)
      change wpList _ _ _ _ _ wr.drew
      obtain ⟨w2, hw2⟩ : ∃ w2, w2 = wr.drew := ⟨_, rfl⟩
      have hb2 : Below w.heap.size w w2 := by rw [hw2]; exact hbr.drew
      rw [← hw2]
      clear hw2
      go_wp2_with fail
      refine (HT.out _).mono ?_
      rintro e w1 ⟨rfl, hb1⟩
      go_wp2
      go_roundw
      case rel => exact ⟨k + 1, by omega, by go_num, (by repeat' (first | (with_reducible exact Below.refl _ _) | (with_reducible assumption) | (with_reducible refine Base.via hb1 ?_) | (with_reducible refine Base.via hb2 ?_) | (with_reducible refine Base.grow_alloc ?_ _) | (with_reducible refine Base.below_drewN ?_ _) | (with_reducible refine Below.drew ?_) | (with_reducible refine Below.setCell ?_ ?_ _) | go_size))⟩
      case measure => simp [intOf]; omega
    · have hkn : k = n := by omega
      subst hkn
      go_wp2
      go_ret
      exact ⟨rfl, hbr⟩
/-- -1 for less than nothing -/
def n1 (x : Int) : Int := if x < 0 then -1 else x
theorem n1_neg {x : Int} (h : x < 0) : n1 x = -1 := if_pos h
theorem n1_pos {x : Int} (h : ¬ x < 0) : n1 x = x := if_neg h
/-- how much is left behind k estimates -/
def szK (E : Nat → E5) (left : Int) : Nat → Int
  | 0 => left
  | k + 1 => szK E left k - (E k).s.size - (E k).o.size
theorem szK_le (E : Nat → E5) (left : Int) (k : Nat) : szK E left k ≤ left := by
  induction k with
  | zero => exact Int.le_refl _
  | succ k ih => rw [szK]; omega
theorem szK_mono (E : Nat → E5) (left : Int) {k j : Nat} (h : k ≤ j) : szK E left j ≤ szK E left k := by
  induction j with
  | zero => have : k = 0 := by omega
            subst this; exact Int.le_refl _
  | succ j ih =>
    by_cases e : k = j + 1
    · subst e; exact Int.le_refl _
    · have := ih (by omega); rw [szK]; omega
theorem szK_bd {E : Nat → E5} {left : Int} {n : Nat} (h : 0 ≤ szK E left n) (i : Nat) (hi : i < n) : ((E i).s.size : Int) ≤ left ∧ ((E i).o.size : Int) ≤ left := by
  have h1 := szK_mono E left (show i + 1 ≤ n by omega)
  have h2 := szK_le E left i
  rw [szK] at h1
  omega
def szV (n : Nat) (E : Nat → E5) (left : Int) : Int := if left < n then -1 else n1 (szK E (left - n) n)
theorem c_szEstimate (e : E5) (left : Int) (w : World) (h0 : 0 ≤ left) (h1 : left ≤ 1048576) (hs : e.s.size ≤ 9223372036854775807) (ho : e.o.size ≤ 9223372036854775807) :
    Calls Tryd.prog 9 #[est e, .int .i64 left] w fun r w' => r = .returned (.int .i64 (n1 (left - e.s.size - e.o.size))) ∧ Below w.heap.size w w' := by
  obtain ⟨t, s, o, m, b⟩ := e
  simp only [est] at *
  by_cases h2 : left - s.size < 0
  · have HR : Hid (n1 (left - s.size - o.size) = -1) := Lib.hid (n1_neg (by omega))
    have e1 : IntKind.i64.wrap (left - s.size) = left - s.size := IntWalk.i64_in _ (by omega)
    go_enter Tryd.func9, Tryd.ntmps9
    go_wp2
    go_ret
    first | exact ⟨ret_int HR.out.symm, (by repeat' (first | (with_reducible exact Below.refl _ _) | (with_reducible assumption) | (with_reducible refine Base.grow_alloc ?_ _) | (with_reducible refine Base.below_drewN ?_ _) | (with_reducible refine Below.drew ?_) | (with_reducible refine Below.setCell ?_ ?_ _) | go_size))⟩ | exact ⟨rfl, (by repeat' (first | (with_reducible exact Below.refl _ _) | (with_reducible assumption) | (with_reducible refine Base.grow_alloc ?_ _) | (with_reducible refine Base.below_drewN ?_ _) | (with_reducible refine Below.drew ?_) | (with_reducible refine Below.setCell ?_ ?_ _) | go_size))⟩
  · have e1 : IntKind.i64.wrap (left - s.size) = left - s.size := IntWalk.i64_in _ (by omega)
    have e2 : IntKind.i64.wrap (left - s.size - o.size) = left - s.size - o.size := IntWalk.i64_in _ (by omega)
    by_cases h3 : left - s.size - o.size < 0
    · have HR : Hid (n1 (left - s.size - o.size) = -1) := Lib.hid (n1_neg h3)
      go_enter Tryd.func9, Tryd.ntmps9
      go_wp2
      go_ret
      first | exact ⟨ret_int HR.out.symm, (by repeat' (first | (with_reducible exact Below.refl _ _) | (with_reducible assumption) | (with_reducible refine Base.grow_alloc ?_ _) | (with_reducible refine Base.below_drewN ?_ _) | (with_reducible refine Below.drew ?_) | (with_reducible refine Below.setCell ?_ ?_ _) | go_size))⟩ | exact ⟨rfl, (by repeat' (first | (with_reducible exact Below.refl _ _) | (with_reducible assumption) | (with_reducible refine Base.grow_alloc ?_ _) | (with_reducible refine Base.below_drewN ?_ _) | (with_reducible refine Below.drew ?_) | (with_reducible refine Below.setCell ?_ ?_ _) | go_size))⟩
    · have HR : Hid (n1 (left - s.size - o.size) = left - s.size - o.size) := Lib.hid (n1_pos h3)
      go_enter Tryd.func9, Tryd.ntmps9
      go_wp2
      go_ret
      first | exact ⟨ret_int HR.out.symm, (by repeat' (first | (with_reducible exact Below.refl _ _) | (with_reducible assumption) | (with_reducible refine Base.grow_alloc ?_ _) | (with_reducible refine Base.below_drewN ?_ _) | (with_reducible refine Below.drew ?_) | (with_reducible refine Below.setCell ?_ ?_ _) | go_size))⟩ | exact ⟨rfl, (by repeat' (first | (with_reducible exact Below.refl _ _) | (with_reducible assumption) | (with_reducible refine Base.grow_alloc ?_ _) | (with_reducible refine Base.below_drewN ?_ _) | (with_reducible refine Below.drew ?_) | (with_reducible refine Below.setCell ?_ ?_ _) | go_size))⟩
theorem c_szEstimateS_no (A : Option Addr) (n c : Nat) (left : Int) (w : World) (hn : n ≤ 9223372036854775807) (h0 : 0 ≤ left) (h1 : left ≤ 1048576) (h : left < n) :
    Calls Tryd.prog 4 #[.slice A n c, .int .i64 left] w fun e w' => e = .returned (.int .i64 (-1)) ∧ w = w' := by
  go_enter Tryd.func4, Tryd.ntmps4
  go_wp2
  go_ret
  exact ⟨rfl, rfl⟩
set_option maxHeartbeats 800000 in
theorem c_szEstimateS (A : Option Addr) (n c : Nat) (E : Nat → E5) (left : Int) (w : World) (hv : Sl w 5 A n c (f5 E)) (hs : ∀ i, i < n → (E i).s.size ≤ 9223372036854775807 ∧ (E i).o.size ≤ 9223372036854775807) (h0 : 0 ≤ left) (h1 : left ≤ 1048576) (h : (n : Int) ≤ left) :
    Calls Tryd.prog 4 #[.slice A n c, .int .i64 left] w fun e w' => e = .returned (.int .i64 (n1 (szK E (left - n) n))) ∧ Below w.heap.size w w' := by
  have hn := hv.le
  obtain ⟨L, hL⟩ : ∃ L, left - (n : Int) = L := ⟨_, rfl⟩
  rw [hL]
  have HS := Lib.hid hs
  have e0 : IntKind.i64.wrap L = L := IntWalk.i64_in _ (by omega)
  have hL1 : 0 ≤ L := by omega
  have hL2 : L ≤ 1048576 := by omega
  clear hs
  go_enter Tryd.func4, Tryd.ntmps4
  go_wp2
  go_loopw [1, 5] (fun q i wr => ∃ (k : Nat) (x : Int), k ≤ n ∧ i = .int .i64 k ∧ q = .int .i64 x ∧ Hid (x = szK E L k) ∧ 0 ≤ x ∧ x ≤ 1048576 ∧ Below w.heap.size w wr) (fun _ i _ => n - (intOf i).toNat)
  case atStart => exact ⟨0, L, Nat.zero_le _, rfl, rfl, (show L = szK E L 0 from rfl), hL1, hL2, (by repeat' (first | (with_reducible exact Below.refl _ _) | (with_reducible assumption) | (with_reducible refine Base.grow_alloc ?_ _) | (with_reducible refine Base.below_drewN ?_ _) | (with_reducible refine Below.drew ?_) | (with_reducible refine Below.setCell ?_ ?_ _) | go_size))⟩
  case round =>
    obtain ⟨k, x, hk, rfl, rfl, hx, x0, x1, hbr⟩ := hrel
    by_cases hlt : k < n
    · obtain ⟨b, off, rfl, hb, hc⟩ := (hv.below hbr).at_ (by omega)
      obtain ⟨h0, h1, h2, h3, h4⟩ := cells5 hc k hlt
      obtain ⟨z1, z2⟩ := HS.out k hlt
      obtain ⟨y, hy⟩ : ∃ y, x - (E k).s.size - (E k).o.size = y := ⟨_, rfl⟩
      have HZ := Lib.hid (fun W => by have := c_szEstimate (E k) x W x0 x1 z1 z2; rw [hy] at this; exact this)
      have HY := Lib.hid (show y = szK E L (k + 1) by rw [szK, ← hx.out, hy])
      have hyx : y ≤ x := by omega
      clear hc hy
      by_cases hneg : y < 0
      · have HR : Hid (n1 (szK E L n) = -1) := Lib.hid (n1_neg (by have := szK_mono E L (show k + 1 ≤ n by omega); rw [← HY.out] at this; omega))
        rw [n1_neg hneg] at HZ
        go_wp2_with fail
        refine (HZ.out _).mono ?_
        rintro e w1 ⟨rfl, hb1⟩
        go_wp2
        go_ret
        exact ⟨ret_int HR.out.symm, (by repeat' (first | (with_reducible exact Below.refl _ _) | (with_reducible assumption) | (with_reducible refine Base.via hb1 ?_) | (with_reducible refine Base.via hbr ?_) | (with_reducible refine Base.grow_alloc ?_ _) | (with_reducible refine Base.below_drewN ?_ _) | (with_reducible refine Below.drew ?_) | (with_reducible refine Below.setCell ?_ ?_ _) | go_size))⟩
      · rw [n1_pos hneg] at HZ
        go_wp2_with fail
        refine (HZ.out _).mono ?_
        rintro e w1 ⟨rfl, hb1⟩
        go_wp2
        go_roundw
        case rel => exact ⟨k + 1, y, by omega, by go_num, rfl, HY.out, by omega, by omega, (by repeat' (first | (with_reducible exact Below.refl _ _) | (with_reducible assumption) | (with_reducible refine Base.via hb1 ?_) | (with_reducible refine Base.via hbr ?_) | (with_reducible refine Base.grow_alloc ?_ _) | (with_reducible refine Base.below_drewN ?_ _) | (with_reducible refine Below.drew ?_) | (with_reducible refine Below.setCell ?_ ?_ _) | go_size))⟩
        case measure => simp [intOf]; omega
    · have hkn : k = n := by omega
      subst hkn
      have HR : Hid (n1 (szK E L k) = x) := Lib.hid (by rw [← hx.out]; exact n1_pos (by omega))
      go_wp2
      go_ret
      exact ⟨ret_int HR.out.symm, hbr⟩
end Go.Proofs.YthojfmlnnclghaaDoor.Est
