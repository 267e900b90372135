/- What the law file's own helpers do: the copies, the comparisons, the marks. -/
import Derived.Test.YthojfmlnnclghaaView
import Derived.Test.YthojfmlnnclghaaNum
import Derived.BigQuiet
import Derived.Deep.QuietTactic
import Derived.StillTailTactics
namespace Go.Proofs.Ythojfmlnnclghaa.Help
set_option linter.unusedVariables false
set_option linter.unusedSimpArgs false
open Go.RowKit Plain Num View

theorem only_alloc {a w : World} {row : Option Nat} (h : a.grownBy w row) (o : Obj) : a.grownBy (w.alloc o) row :=
  ⟨h.os, h.tape, h.output, Nat.le_trans h.size (by simp), fun i hi hne => (Below.heap_alloc w o i (Nat.lt_of_lt_of_le hi h.size)).trans (h.block i hi hne)⟩
theorem only_setCell {a w : World} {g : Nat} (h : a.grownBy w (some g)) {p : Addr} (hp : p.block = g) (u : Value) : a.grownBy (w.setCell p u) (some g) :=
  ⟨h.os, h.tape, h.output, by simpa [World.setCell] using h.size, fun i hi hne => (Below.heap_setCell w p u i (by rintro rfl; exact hne (by rw [hp]))).trans (h.block i hi hne)⟩
/-- the marks -/
def marks (k : Nat) : Nat → Nat → Value := fun i j => .int .i64 (1 + (i * k + j : Nat))

theorem infoPoint : (Try.prog.info? 78).map (fun i => (i.zero, i.size, i.bytes)) = some (some (.agg #[.int .i64 0, .int .i64 0]), 2, 16) := by kernel_rfl
theorem c_eqPoint (x0 x1 : Int) (w : World) : Calls Try.prog 57 #[.agg #[.int .i64 x0, .int .i64 x1], .agg #[.int .i64 x0, .int .i64 x1]] w fun e w' => e = .returned (.bool true) ∧ Below w.heap.size w w' := by
  go_enter Try.func57, Try.ntmps57
  go_wp2
  go_ret
  exact ⟨rfl, (by repeat' (first | (with_reducible exact Below.refl _ _) | (with_reducible assumption) | (with_reducible refine Base.grow_alloc ?_ _) | (with_reducible refine Base.below_drewN ?_ _) | (with_reducible refine Below.drew ?_) | (with_reducible refine Below.setCell ?_ ?_ _) | go_size))⟩
set_option maxRecDepth 4000 in
set_option maxHeartbeats 400000 in
theorem c_eqPointS (A B : Option Addr) (n c d : Nat) (T M : Nat → Int) (w : World) (hv : Sl w 2 A n c (f2 T M)) (hu : Sl w 2 B n d (f2 T M)) :
    Calls Try.prog 24 #[.slice A n c, .slice B n d] w fun e w' => e = .returned (.bool true) ∧ Below w.heap.size w w' := by
  have hn := hv.le
  go_enter Try.func24, Try.ntmps24
  go_wp2
  go_loopw [5] (fun i wr => ∃ k : Nat, k ≤ n ∧ i = .int .i64 k ∧ Below w.heap.size w wr) (fun i _ => n - (intOf i).toNat)
  case atStart => exact ⟨0, Nat.zero_le _, rfl, Below.refl _ _⟩
  case round =>
    obtain ⟨k, hk, rfl, hbr⟩ := hrel
    by_cases hlt : k < n
    · obtain ⟨b, off, rfl, hb, hc⟩ := (hv.below hbr).at_ (by omega)
      obtain ⟨b', off', rfl, hb', hc'⟩ := (hu.below hbr).at_ (by omega)
      obtain ⟨h0, h1⟩ := cells2 hc k hlt
      obtain ⟨g0, g1⟩ := cells2 hc' k hlt
      clear hc hc'
      go_wp2
      go_still_tail 8, (by kernel_rfl)
      change wpList _ _ _ _ _ wr.drew
      obtain ⟨w2, hw2⟩ : ∃ w2, w2 = wr.drew := ⟨_, rfl⟩
      have hb2 : Below w.heap.size w w2 := by rw [hw2]; exact hbr.drew
      rw [← hw2]
      clear hw2
      go_wp2_with (first | (go_at_call 57; refine (c_eqPoint _ _ _).mono ?_; rintro e w1 ⟨rfl, hb1⟩; obtain ⟨chb1, fhb1⟩ := Base.bcell hb1; have zhb1 := (hb1).size; (try simp at zhb1); (try have yhb1 : w.heap.size < (w1).heap.size := by omega)))
      go_wp2
      go_roundw
      case rel => exact ⟨k + 1, by omega, by go_num, (by repeat' (first | (with_reducible exact Below.refl _ _) | (with_reducible assumption) | (with_reducible refine Base.via hb1 ?_) | (with_reducible refine Base.grow_alloc ?_ _) | (with_reducible refine Base.below_drewN ?_ _) | (with_reducible refine Below.drew ?_) | (with_reducible refine Below.setCell ?_ ?_ _) | go_size))⟩
      case measure => simp [intOf]; omega
    · have hkn : k = n := by omega
      subst hkn
      go_wp2
      go_ret
      exact ⟨rfl, hbr⟩
set_option maxHeartbeats 400000 in
theorem c_markPointS (B : Nat) (v : Value) (n : Nat) (f : Nat → Nat → Value) (k0 : Int) (w : World) (hv : OwnK w B 78 2 v n f) (hk0 : 0 ≤ k0) (hk1 : k0 ≤ 1099511627776) :
    Calls Try.prog 25 #[v, .int .i64 k0] w fun e w' => e = .returned (.int .i64 (k0 + (n * 2 : Nat))) ∧ OwnK w' B 78 2 v n (fun i j => .int .i64 (k0 + (i * 2 + j : Nat))) ∧ w.grownBy w' v.ownBlock := by
  obtain ⟨hn, ⟨rfl, rfl⟩ | ⟨g, c, rfl, hc, hm, hB, hr⟩⟩ := hv
  · go_enter Try.func25, Try.ntmps25
    go_wp2
    refine wp_loop_rounds 1 ?_
    rw [rounds_succ]
    go_wp2
    go_ret
    exact ⟨ret_int (by omega), ⟨hn, .inl ⟨rfl, rfl⟩⟩, World.grownBy.refl _ _⟩
  · go_enter Try.func25, Try.ntmps25
    go_wp2
    go_loopw [1, 5] (fun q i wr => ∃ k : Nat, k ≤ n ∧ i = .int .i64 k ∧ q = .int .i64 (k0 + (k * 2 : Nat)) ∧ RowK wr g 78 2 n (fun i j => if i < k then .int .i64 (k0 + (i * 2 + j : Nat)) else f i j) ∧ w.grownBy wr (some g)) (fun _ i _ => n - (intOf i).toNat)
    case atStart => exact ⟨0, Nat.zero_le _, rfl, by go_num, hr.congr (fun i _ j _ => by simp), World.grownBy.refl _ _⟩
    case round =>
      obtain ⟨k, hk, rfl, rfl, hrow, hgr⟩ := hrel
      by_cases hlt : k < n
      · have hg := hrow.lt
        have s0 := hrow.cell hlt (show 0 < 2 by omega)
        have s1 := hrow.cell hlt (show 1 < 2 by omega)
        simp only [Nat.add_zero] at s0
        have sf := hrow.frozen
        have hkk : k * 2 ≤ 1048576 * 2 := by omega
        go_wp2
        go_roundw
        case rel =>
          refine ⟨k + 1, by omega, by go_num, by go_num, ?_, only_setCell (only_setCell (hgr) rfl _) rfl _⟩
          refine RowK.congr (f := _) ((hrow.set (j := 0) hlt (by omega) _).set (j := 1) hlt (by omega) _) ?_
          intro i hi j hj
          simp only [upd]
          by_cases e : i = k
          · subst e
            obtain rfl | rfl : j = 0 ∨ j = 1 := by omega
            all_goals (simp; try omega)
          · have e2 : i < k + 1 ↔ i < k := by omega
            simp [e, e2]
        case measure => simp [intOf]; omega
      · have hkn : k = n := by omega
        subst hkn
        go_wp2
        go_ret
        exact ⟨rfl, ⟨hn, .inr ⟨g, c, rfl, hc, hm, hB, hrow.congr (fun i hi j _ => by simp [hi])⟩⟩, hgr⟩
set_option maxHeartbeats 400000 in
theorem c_heldPointS (A : Option Addr) (n c : Nat) (k0 : Int) (w : World) (hv : Sl w 2 A n c (fun i j => .int .i64 (k0 + (i * 2 + j : Nat)))) (hk0 : 0 ≤ k0) (hk1 : k0 ≤ 1099511627776) :
    Calls Try.prog 26 #[.slice A n c, .int .i64 k0] w fun e w' => e = .returned (.int .i64 (k0 + (n * 2 : Nat))) ∧ w = w' := by
  have hn := hv.le
  go_enter Try.func26, Try.ntmps26
  go_wp2
  go_loop [1, 5] (fun q i => ∃ k : Nat, k ≤ n ∧ i = .int .i64 k ∧ q = .int .i64 (k0 + (k * 2 : Nat))) (fun _ i => n - (intOf i).toNat)
  case atStart => exact ⟨0, Nat.zero_le _, rfl, by go_num⟩
  case round =>
    obtain ⟨k, hk, rfl, rfl⟩ := hrel
    by_cases hlt : k < n
    · obtain ⟨b, off, rfl, hb, hc⟩ := hv.at_ (by omega)
      have h0 : w.cell? ⟨b, off + k * 2, none⟩ = some (.int .i64 (k0 + (k * 2 : Nat))) := by have := hc k hlt 0 (by omega); first | exact this | (rw [this]; go_num)
      have h1 : w.cell? ⟨b, off + k * 2 + 1, none⟩ = some (.int .i64 (k0 + (k * 2 : Nat) + 1)) := by have := hc k hlt 1 (by omega); first | exact this | (rw [this]; go_num)
      clear hc
      have hkk : k * 2 ≤ 1048576 * 2 := by omega
      go_wp2
      go_round
      case rel => exact ⟨k + 1, by omega, by go_num, by go_num⟩
      case measure => simp [intOf]; omega
    · have hkn : k = n := by omega
      subst hkn
      go_wp2
      go_ret
      exact ⟨rfl, rfl⟩
theorem infoInt64 : (Try.prog.info? 2).map (fun i => (i.zero, i.size, i.bytes)) = some (some (.int .i64 0), 1, 8) := by kernel_rfl
set_option maxRecDepth 4000 in
set_option maxHeartbeats 400000 in
theorem c_eqInt64S (A B : Option Addr) (n c d : Nat) (T : Nat → Int) (w : World) (hv : Sl w 1 A n c (f1 T)) (hu : Sl w 1 B n d (f1 T)) :
    Calls Try.prog 48 #[.slice A n c, .slice B n d] w fun e w' => e = .returned (.bool true) ∧ Below w.heap.size w w' := by
  have hn := hv.le
  go_enter Try.func48, Try.ntmps48
  go_wp2
  go_loopw [5] (fun i wr => ∃ k : Nat, k ≤ n ∧ i = .int .i64 k ∧ Below w.heap.size w wr) (fun i _ => n - (intOf i).toNat)
  case atStart => exact ⟨0, Nat.zero_le _, rfl, Below.refl _ _⟩
  case round =>
    obtain ⟨k, hk, rfl, hbr⟩ := hrel
    by_cases hlt : k < n
    · obtain ⟨b, off, rfl, hb, hc⟩ := (hv.below hbr).at_ (by omega)
      obtain ⟨b', off', rfl, hb', hc'⟩ := (hu.below hbr).at_ (by omega)
      obtain h0 := cells1 hc k hlt
      obtain g0 := cells1 hc' k hlt
      clear hc hc'
      go_wp2
      go_quiet (fail)
      go_wp2
      go_roundw
      case rel => exact ⟨k + 1, by omega, by go_num, (by repeat' (first | (with_reducible exact Below.refl _ _) | (with_reducible assumption) | (with_reducible refine Base.grow_alloc ?_ _) | (with_reducible refine Base.below_drewN ?_ _) | (with_reducible refine Below.drew ?_) | (with_reducible refine Below.setCell ?_ ?_ _) | go_size))⟩
      case measure => simp [intOf]; omega
    · have hkn : k = n := by omega
      subst hkn
      go_wp2
      go_ret
      exact ⟨rfl, hbr⟩
set_option maxHeartbeats 400000 in
theorem c_markInt64S (B : Nat) (v : Value) (n : Nat) (f : Nat → Nat → Value) (k0 : Int) (w : World) (hv : OwnK w B 2 1 v n f) (hk0 : 0 ≤ k0) (hk1 : k0 ≤ 1099511627776) :
    Calls Try.prog 49 #[v, .int .i64 k0] w fun e w' => e = .returned (.int .i64 (k0 + (n * 1 : Nat))) ∧ OwnK w' B 2 1 v n (fun i j => .int .i64 (k0 + (i * 1 + j : Nat))) ∧ w.grownBy w' v.ownBlock := by
  obtain ⟨hn, ⟨rfl, rfl⟩ | ⟨g, c, rfl, hc, hm, hB, hr⟩⟩ := hv
  · go_enter Try.func49, Try.ntmps49
    go_wp2
    refine wp_loop_rounds 1 ?_
    rw [rounds_succ]
    go_wp2
    go_ret
    exact ⟨ret_int (by omega), ⟨hn, .inl ⟨rfl, rfl⟩⟩, World.grownBy.refl _ _⟩
  · go_enter Try.func49, Try.ntmps49
    go_wp2
    go_loopw [1, 5] (fun q i wr => ∃ k : Nat, k ≤ n ∧ i = .int .i64 k ∧ q = .int .i64 (k0 + (k * 1 : Nat)) ∧ RowK wr g 2 1 n (fun i j => if i < k then .int .i64 (k0 + (i * 1 + j : Nat)) else f i j) ∧ w.grownBy wr (some g)) (fun _ i _ => n - (intOf i).toNat)
    case atStart => exact ⟨0, Nat.zero_le _, rfl, by go_num, hr.congr (fun i _ j _ => by simp), World.grownBy.refl _ _⟩
    case round =>
      obtain ⟨k, hk, rfl, rfl, hrow, hgr⟩ := hrel
      by_cases hlt : k < n
      · have hg := hrow.lt
        have s0 := hrow.cell1 hlt
        have sf := hrow.frozen
        have hkk : k * 1 ≤ 1048576 * 1 := by omega
        go_wp2
        go_roundw
        case rel =>
          refine ⟨k + 1, by omega, by go_num, by go_num, ?_, only_setCell (hgr) rfl _⟩
          refine RowK.congr (f := _) (hrow.set1 hlt _) ?_
          intro i hi j hj
          simp only [upd]
          by_cases e : i = k
          · subst e
            obtain rfl : j = 0 := by omega
            all_goals (simp; try omega)
          · have e2 : i < k + 1 ↔ i < k := by omega
            simp [e, e2]
        case measure => simp [intOf]; omega
      · have hkn : k = n := by omega
        subst hkn
        go_wp2
        go_ret
        exact ⟨rfl, ⟨hn, .inr ⟨g, c, rfl, hc, hm, hB, hrow.congr (fun i hi j _ => by simp [hi])⟩⟩, hgr⟩
set_option maxHeartbeats 400000 in
theorem c_heldInt64S (A : Option Addr) (n c : Nat) (k0 : Int) (w : World) (hv : Sl w 1 A n c (fun i j => .int .i64 (k0 + (i * 1 + j : Nat)))) (hk0 : 0 ≤ k0) (hk1 : k0 ≤ 1099511627776) :
    Calls Try.prog 50 #[.slice A n c, .int .i64 k0] w fun e w' => e = .returned (.int .i64 (k0 + (n * 1 : Nat))) ∧ w = w' := by
  have hn := hv.le
  go_enter Try.func50, Try.ntmps50
  go_wp2
  go_loop [1, 5] (fun q i => ∃ k : Nat, k ≤ n ∧ i = .int .i64 k ∧ q = .int .i64 (k0 + (k * 1 : Nat))) (fun _ i => n - (intOf i).toNat)
  case atStart => exact ⟨0, Nat.zero_le _, rfl, by go_num⟩
  case round =>
    obtain ⟨k, hk, rfl, rfl⟩ := hrel
    by_cases hlt : k < n
    · obtain ⟨b, off, rfl, hb, hc⟩ := hv.at_ (by omega)
      have h0 : w.cell? ⟨b, off + k, none⟩ = some (.int .i64 (k0 + (k * 1 : Nat))) := by have := hc k hlt 0 (by omega); simp only [Nat.mul_one, Nat.add_zero] at this ⊢; first | exact this | (rw [this]; go_num)
      clear hc
      have hkk : k * 1 ≤ 1048576 * 1 := by omega
      go_wp2
      go_round
      case rel => exact ⟨k + 1, by omega, by go_num, by go_num⟩
      case measure => simp [intOf]; omega
    · have hkn : k = n := by omega
      subst hkn
      go_wp2
      go_ret
      exact ⟨rfl, rfl⟩
end Go.Proofs.Ythojfmlnnclghaa.Help
