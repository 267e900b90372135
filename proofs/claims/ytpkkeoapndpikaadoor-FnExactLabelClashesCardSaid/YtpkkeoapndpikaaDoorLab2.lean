/- Labels that overlap. -/
import Derived.Test.YtpkkeoapndpikaaDoorLab
import Derived.Test.YtpkkeoapndpikaaDoorCopy
import Derived.Deep.RegionHeld3
import Derived.Deep.QuietTactic
import Derived.BigQuiet
namespace Go.Proofs.YtpkkeoapndpikaaDoor.Lab
set_option linter.unusedVariables false
set_option linter.unusedSimpArgs false
set_option maxRecDepth 8000
open Go.RowKit Plain Num View Chart Frac Dec Txt

def meet (a b : Nat → Int) : Bool := decide (a 0 < b 2) && decide (b 0 < a 2) && decide (a 1 < b 3) && decide (b 1 < a 3)
theorem meet_comm (a b : Nat → Int) : meet a b = meet b a := by
  unfold meet
  cases decide (a 0 < b 2) <;> cases decide (b 0 < a 2) <;> cases decide (a 1 < b 3) <;> cases decide (b 1 < a 3) <;> rfl
theorem ret_bl {a b : Bool} (h : a = b) : Ending.returned (.bool a) = Ending.returned (.bool b) := by rw [h]
theorem row4 {w : World} {A : Option Addr} {c : Nat} {a : Nat → Int} (h : Sl w 1 A 4 c (f1 a)) : ∃ b off, A = some ⟨b, off, none⟩ ∧ b < w.heap.size ∧ w.cell? ⟨b, off, none⟩ = some (.int .i64 (a 0)) ∧ w.cell? ⟨b, off + 1, none⟩ = some (.int .i64 (a 1)) ∧ w.cell? ⟨b, off + 2, none⟩ = some (.int .i64 (a 2)) ∧ w.cell? ⟨b, off + 3, none⟩ = some (.int .i64 (a 3)) := by
  obtain ⟨b, off, e, hb, hc⟩ := h.at_ (by omega)
  exact ⟨b, off, e, hb, cells1 hc 0 (by omega), cells1 hc 1 (by omega), cells1 hc 2 (by omega), cells1 hc 3 (by omega)⟩
set_option maxHeartbeats 3200000 in
theorem c_overlap (A B : Option Addr) (ca cb : Nat) (a b : Nat → Int) (w : World) (ha : Sl w 1 A 4 ca (f1 a)) (hb : Sl w 1 B 4 cb (f1 b)) :
    Calls Tryd.prog 67 #[.slice A 4 ca, .slice B 4 cb] w fun e w' => e = .returned (.bool (meet a b)) ∧ Below w.heap.size w w' := by
  obtain ⟨p, o1, rfl, hp, p0, p1, p2, p3⟩ := row4 ha
  obtain ⟨q, o2, rfl, hq, q0, q1, q2, q3⟩ := row4 hb
  have HM := Lib.hid (show meet a b = (decide (a 0 < b 2) && decide (b 0 < a 2) && decide (a 1 < b 3) && decide (b 1 < a 3)) from rfl)
  obtain ⟨x0, e0⟩ : ∃ x, a 0 = x := ⟨_, rfl⟩
  obtain ⟨x1, e1⟩ : ∃ x, a 1 = x := ⟨_, rfl⟩
  obtain ⟨x2, e2⟩ : ∃ x, a 2 = x := ⟨_, rfl⟩
  obtain ⟨x3, e3⟩ : ∃ x, a 3 = x := ⟨_, rfl⟩
  obtain ⟨y0, g0⟩ : ∃ x, b 0 = x := ⟨_, rfl⟩
  obtain ⟨y1, g1⟩ : ∃ x, b 1 = x := ⟨_, rfl⟩
  obtain ⟨y2, g2⟩ : ∃ x, b 2 = x := ⟨_, rfl⟩
  obtain ⟨y3, g3⟩ : ∃ x, b 3 = x := ⟨_, rfl⟩
  rw [e0] at p0 HM; rw [e1] at p1 HM; rw [e2] at p2 HM; rw [e3] at p3 HM
  rw [g0] at q0 HM; rw [g1] at q1 HM; rw [g2] at q2 HM; rw [g3] at q3 HM
  have hl1 := ha.leC
  have hl2 := hb.leC
  clear ha hb e0 e1 e2 e3 g0 g1 g2 g3
  have HC : decide (x0 < y2) = false ∨ (decide (x0 < y2) = true ∧ decide (y0 < x2) = false) ∨ (decide (x0 < y2) = true ∧ decide (y0 < x2) = true ∧ decide (x1 < y3) = false) ∨ (decide (x0 < y2) = true ∧ decide (y0 < x2) = true ∧ decide (x1 < y3) = true ∧ decide (y1 < x3) = false) ∨ (decide (x0 < y2) = true ∧ decide (y0 < x2) = true ∧ decide (x1 < y3) = true ∧ decide (y1 < x3) = true) := by
    cases decide (x0 < y2) <;> cases decide (y0 < x2) <;> cases decide (x1 < y3) <;> cases decide (y1 < x3) <;> simp
  rcases HC with h1 | ⟨h1, h2⟩ | ⟨h1, h2, h3⟩ | ⟨h1, h2, h3, h4⟩ | ⟨h1, h2, h3, h4⟩
  all_goals
    go_enter Tryd.func67, Tryd.ntmps67
    go_wp2_with fail
    go_quiet (fail)
    go_wp2
    go_ret
    exact ⟨ret_bl (by rw [HM.out]; simp only [*]; rfl), (by repeat' (first | (with_reducible exact Below.refl _ _) | (with_reducible assumption) | (with_reducible refine Base.grow_alloc ?_ _) | (with_reducible refine Base.below_drewN ?_ _) | (with_reducible refine Below.drew ?_) | (with_reducible refine Below.setCell ?_ ?_ _) | go_size))⟩
set_option maxHeartbeats 3200000 in
theorem c_l07Meet (A B : Option Addr) (ca cb : Nat) (a b : Nat → Int) (w : World) (ha : Sl w 1 A 4 ca (f1 a)) (hb : Sl w 1 B 4 cb (f1 b)) :
    Calls Tryd.prog 63 #[.slice A 4 ca, .slice B 4 cb] w fun e w' => e = .returned (.bool (meet a b)) ∧ Below w.heap.size w w' := by
  obtain ⟨p, o1, rfl, hp, p0, p1, p2, p3⟩ := row4 ha
  obtain ⟨q, o2, rfl, hq, q0, q1, q2, q3⟩ := row4 hb
  have HM := Lib.hid (show meet a b = (decide (a 0 < b 2) && decide (b 0 < a 2) && decide (a 1 < b 3) && decide (b 1 < a 3)) from rfl)
  obtain ⟨x0, e0⟩ : ∃ x, a 0 = x := ⟨_, rfl⟩
  obtain ⟨x1, e1⟩ : ∃ x, a 1 = x := ⟨_, rfl⟩
  obtain ⟨x2, e2⟩ : ∃ x, a 2 = x := ⟨_, rfl⟩
  obtain ⟨x3, e3⟩ : ∃ x, a 3 = x := ⟨_, rfl⟩
  obtain ⟨y0, g0⟩ : ∃ x, b 0 = x := ⟨_, rfl⟩
  obtain ⟨y1, g1⟩ : ∃ x, b 1 = x := ⟨_, rfl⟩
  obtain ⟨y2, g2⟩ : ∃ x, b 2 = x := ⟨_, rfl⟩
  obtain ⟨y3, g3⟩ : ∃ x, b 3 = x := ⟨_, rfl⟩
  rw [e0] at p0 HM; rw [e1] at p1 HM; rw [e2] at p2 HM; rw [e3] at p3 HM
  rw [g0] at q0 HM; rw [g1] at q1 HM; rw [g2] at q2 HM; rw [g3] at q3 HM
  have hl1 := ha.leC
  have hl2 := hb.leC
  clear ha hb e0 e1 e2 e3 g0 g1 g2 g3
  have HC : decide (x0 < y2) = false ∨ (decide (x0 < y2) = true ∧ decide (y0 < x2) = false) ∨ (decide (x0 < y2) = true ∧ decide (y0 < x2) = true ∧ decide (x1 < y3) = false) ∨ (decide (x0 < y2) = true ∧ decide (y0 < x2) = true ∧ decide (x1 < y3) = true ∧ decide (y1 < x3) = false) ∨ (decide (x0 < y2) = true ∧ decide (y0 < x2) = true ∧ decide (x1 < y3) = true ∧ decide (y1 < x3) = true) := by
    cases decide (x0 < y2) <;> cases decide (y0 < x2) <;> cases decide (x1 < y3) <;> cases decide (y1 < x3) <;> simp
  rcases HC with h1 | ⟨h1, h2⟩ | ⟨h1, h2, h3⟩ | ⟨h1, h2, h3, h4⟩ | ⟨h1, h2, h3, h4⟩
  all_goals
    go_enter Tryd.func63, Tryd.ntmps63
    go_wp2_with fail
    go_quiet (fail)
    go_wp2
    go_ret
    exact ⟨ret_bl (by rw [HM.out]; simp only [*]; rfl), (by repeat' (first | (with_reducible exact Below.refl _ _) | (with_reducible assumption) | (with_reducible refine Base.grow_alloc ?_ _) | (with_reducible refine Base.below_drewN ?_ _) | (with_reducible refine Below.drew ?_) | (with_reducible refine Below.setCell ?_ ?_ _) | go_size))⟩
end Go.Proofs.YtpkkeoapndpikaaDoor.Lab
