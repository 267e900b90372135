/- The laws' own functions on estimates. -/
import Derived.Test.YthojfmlnnclghaaGreatDoorEst
import Derived.Test.YthojfmlnnclghaaGreatDoorCopy
namespace Go.Proofs.YthojfmlnnclghaaGreatDoor.Est
set_option linter.unusedVariables false
set_option linter.unusedSimpArgs false
set_option maxRecDepth 8000
open Go.RowKit Plain Num View

theorem infoEst : (Tryz.prog.info? 31).map (fun i => (i.zero, i.size, i.bytes)) = some (some (.agg #[.int .i64 0, .string ⟨#[]⟩, .string ⟨#[]⟩, .int .i64 0, .bool false]), 5, 56) := by kernel_rfl
def zero5 : E5 := ⟨0, ⟨#[]⟩, ⟨#[]⟩, 0, false⟩
set_option maxHeartbeats 800000 in
theorem c_eqEstimate (e : E5) (w : World) : Calls Tryz.prog 19 #[est e, est e] w fun r w' => r = .returned (.bool true) ∧ Below w.heap.size w w' := by
  obtain ⟨t, s, o, m, b⟩ := e
  simp only [est]
  go_enter Tryz.func19, Tryz.ntmps19
  go_wp2
  go_ret
  exact ⟨rfl, (by repeat' (first | (with_reducible exact Below.refl _ _) | (with_reducible assumption) | (with_reducible refine Base.grow_alloc ?_ _) | (with_reducible refine Base.below_drewN ?_ _) | (with_reducible refine Below.drew ?_) | (with_reducible refine Below.setCell ?_ ?_ _) | go_size))⟩
set_option maxHeartbeats 1600000 in
theorem c_eqEstimateS (A B : Option Addr) (n c d : Nat) (E : Nat → E5) (w : World) (hv : Sl w 5 A n c (f5 E)) (hu : Sl w 5 B n d (f5 E)) :
    Calls Tryz.prog 6 #[.slice A n c, .slice B n d] w fun e w' => e = .returned (.bool true) ∧ Below w.heap.size w w' := by
  have hn := hv.le
  go_enter Tryz.func6, Tryz.ntmps6
  go_wp2
  go_loopw [5] (fun i wr => ∃ k : Nat, k ≤ n ∧ i = .int .i64 k ∧ Below w.heap.size w wr) (fun i _ => n - (intOf i).toNat)
  case atStart => exact ⟨0, Nat.zero_le _, rfl, Below.refl _ _⟩
  case round =>
    obtain ⟨k, hk, rfl, hbr⟩ := hrel
    by_cases hlt : k < n
    · obtain ⟨b, off, rfl, hb, hc⟩ := (hv.below hbr).at_ (by omega)
      obtain ⟨b', off', rfl, hb', hc'⟩ := (hu.below hbr).at_ (by omega)
      obtain ⟨h0, h1, h2, h3, h4⟩ := cells5 hc k hlt
      obtain ⟨g0, g1, g2, g3, g4⟩ := cells5 hc' k hlt
      have HT := Lib.hid (fun W => c_eqEstimate (E k) W)
      clear hc hc'
      go_wp2
      go_still_tail 8, (by kernel_rfl)
      change wpList _ _ _ _ _ wr.drew
      obtain ⟨w2, hw2⟩ : ∃ w2, w2 = wr.drew := ⟨_, rfl⟩
      have hb2 : Below w.heap.size w w2 := by rw [hw2]; exact hbr.drew
      rw [← hw2]
      clear hw2
      go_wp2_with fail
      refine (HT.out _).mono ?_
      rintro e w1 ⟨rfl, hb1⟩
      go_wp2
      go_roundw
      case rel => exact ⟨k + 1, by omega, by go_num, (by repeat' (first | (with_reducible exact Below.refl _ _) | (with_reducible assumption) | (with_reducible refine Base.via hb1 ?_) | (with_reducible refine Base.via hb2 ?_) | (with_reducible refine Base.grow_alloc ?_ _) | (with_reducible refine Base.below_drewN ?_ _) | (with_reducible refine Below.drew ?_) | (with_reducible refine Below.setCell ?_ ?_ _) | go_size))⟩
      case measure => simp [intOf]; omega
    · have hkn : k = n := by omega
      subst hkn
      go_wp2
      go_ret
      exact ⟨rfl, hbr⟩
/-- -1 for less than nothing -/
def n1 (x : Int) : Int := if x < 0 then -1 else x
theorem n1_neg {x : Int} (h : x < 0) : n1 x = -1 := if_pos h
theorem n1_pos {x : Int} (h : ¬ x < 0) : n1 x = x := if_neg h
/-- how much is left behind k estimates -/
def szK (E : Nat → E5) (left : Int) : Nat → Int
  | 0 => left
  | k + 1 => szK E left k - (E k).s.size - (E k).o.size
theorem szK_le (E : Nat → E5) (left : Int) (k : Nat) : szK E left k ≤ left := by
  induction k with
  | zero => exact Int.le_refl _
  | succ k ih => rw [szK]; omega
theorem szK_mono (E : Nat → E5) (left : Int) {k j : Nat} (h : k ≤ j) : szK E left j ≤ szK E left k := by
  induction j with
  | zero => have : k = 0 := by omega
            subst this; exact Int.le_refl _
  | succ j ih =>
    by_cases e : k = j + 1
    · subst e; exact Int.le_refl _
    · have := ih (by omega); rw [szK]; omega
theorem szK_bd {E : Nat → E5} {left : Int} {n : Nat} (h : 0 ≤ szK E left n) (i : Nat) (hi : i < n) : ((E i).s.size : Int) ≤ left ∧ ((E i).o.size : Int) ≤ left := by
  have h1 := szK_mono E left (show i + 1 ≤ n by omega)
  have h2 := szK_le E left i
  rw [szK] at h1
  omega
def szV (n : Nat) (E : Nat → E5) (left : Int) : Int := if left < n then -1 else n1 (szK E (left - n) n)
end Go.Proofs.YthojfmlnnclghaaGreatDoor.Est
