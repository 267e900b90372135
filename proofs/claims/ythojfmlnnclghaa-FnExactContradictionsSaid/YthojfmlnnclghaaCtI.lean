/- Estimates that contradict each other: the program's side. -/
import Derived.Test.YthojfmlnnclghaaCvQ
import Derived.Test.YthojfmlnnclghaaPrs
import Derived.StillTailTactics
import Derived.Deep.DeepCutAuto
namespace Go.Proofs.Ythojfmlnnclghaa.Ct
set_option linter.unusedVariables false
set_option linter.unusedSimpArgs false
set_option maxRecDepth 8000
open Go.RowKit Go.Shelf Plain Num View Est Name Es1 OkE CvQ Nst Prs

/-- do two estimates contradict each other -/
def agE (d : Int) (x y : E5) : Bool := if x.b = true then (if y.b = true then false else decide (y.m + d < x.m)) else (if y.b = true then decide (x.m + d < y.m) else decide (d < absI (x.m - y.m)))
def ctP (E : Nat → E5) (a d : Int) (i k : Nat) : Bool := decide ((E i).s = (E k).s) && (decide (absI ((E i).t - (E k).t) ≤ a) && agE d (E i) (E k))
def ctC (n : Nat) (E : Nat → E5) (a d : Int) : Int := if okE n E = true then (if (inB a 0 100000 && inB d 1 20000) = true then 0 else 2) else 1
def ctL (n : Nat) (E : Nat → E5) (a d : Int) : List (Int × Int) := if ctC n E a d = 0 then prs (ctP E a d) n n else []
theorem ct_cases (n : Nat) (E : Nat → E5) (a d : Int) : (okE n E = true ∧ inB a 0 100000 = true ∧ inB d 1 20000 = true ∧ ctC n E a d = 0) ∨ (okE n E = true ∧ inB a 0 100000 = true ∧ inB d 1 20000 = false ∧ ctC n E a d = 2) ∨ (okE n E = true ∧ inB a 0 100000 = false ∧ ctC n E a d = 2) ∨ (okE n E = false ∧ ctC n E a d = 1) := by
  unfold ctC
  cases okE n E <;> cases inB a 0 100000 <;> cases inB d 1 20000 <;> simp
set_option maxHeartbeats 1600000 in
theorem c_contradict (x y : E5) (d : Int) (w : World) (hx : -2000 ≤ x.m ∧ x.m ≤ 20000) (hy : -2000 ≤ y.m ∧ y.m ≤ 20000) (hd : 0 ≤ d ∧ d ≤ 20000) :
    Calls Try.prog 47 #[est x, est y, .int .i64 d] w fun e w' => e = .returned (.bool (agE d x y)) ∧ Below w.heap.size w w' := by
  obtain ⟨t, s, o, m, b⟩ := x
  obtain ⟨t', s', o', m', b'⟩ := y
  simp only at hx hy
  obtain ⟨r, hr⟩ : ∃ r, agE d ⟨t, s, o, m, b⟩ ⟨t', s', o', m', b'⟩ = r := ⟨_, rfl⟩
  rw [hr]
  simp only [est]
  cases b <;> cases b' <;> simp only [agE, if_true, if_false, Bool.false_eq_true] at hr <;>
    (have HR := Lib.hid hr
     clear hr
     go_enter Try.func47, Try.ntmps47
     go_wp2_with (first | (go_at_call 46; refine (c_abs _ _ (by omega) (by omega)).mono ?_; rintro e w' ⟨rfl, rfl⟩))
     go_ret
     exact ⟨ret_b HR.out, (by repeat' (first | (with_reducible exact Below.refl _ _) | (with_reducible assumption) | (with_reducible refine Base.grow_alloc ?_ _) | (with_reducible refine Base.below_drewN ?_ _) | (with_reducible refine Below.drew ?_) | (with_reducible refine Below.setCell ?_ ?_ _) | go_size))⟩)
/-- two estimates in two blocks of the call's own -/
def CtLeft (w : World) (x y : E5) (p q : Value) (W : World) : Prop :=
  ∃ g h : Nat, p = .pointer (some ⟨g, 0, none⟩) ∧ q = .pointer (some ⟨h, 0, none⟩) ∧ (∀ j, j < 5 → W.cell? ⟨g, j, none⟩ = some (f5 (fun _ => x) 0 j)) ∧ (∀ j, j < 5 → W.cell? ⟨h, j, none⟩ = some (f5 (fun _ => y) 0 j)) ∧ Below w.heap.size w W
set_option maxHeartbeats 3200000 in
theorem c_ct1 (A : Option Addr) (n c : Nat) (E : Nat → E5) (a d : Int) (g0 g1 g2 : Nat) (i k : Nat) (w : World) (h0 : w.cell? ⟨g0, 0, none⟩ = some (.slice A n c)) (h1 : w.cell? ⟨g1, 0, none⟩ = some (.int .i64 a)) (h2 : w.cell? ⟨g2, 0, none⟩ = some (.int .i64 d)) (hv : Sl w 5 A n c (f5 E)) (hi : i < n) (hk : k < n)
    (hbd : ∀ i, i < n → (0 ≤ (E i).t ∧ (E i).t ≤ 10000000) ∧ (-2000 ≤ (E i).m ∧ (E i).m ≤ 20000)) (hd : 0 ≤ d ∧ d ≤ 20000) :
    Calls Try.prog 45 #[.int .i64 (i : Int), .int .i64 (k : Int), .pointer (some ⟨g0, 0, none⟩), .pointer (some ⟨g1, 0, none⟩), .pointer (some ⟨g2, 0, none⟩)] w fun e w' => e = .returned (.bool (ctP E a d i k)) ∧ Below w.heap.size w w' := by
  have hn := hv.le
  have HO : Hid (ctP E a d i k = (decide ((E i).s = (E k).s) && (decide (absI ((E i).t - (E k).t) ≤ a) && agE d (E i) (E k)))) := Lib.hid rfl
  obtain ⟨b, off, rfl, hb, hc⟩ := hv.at_ (by omega)
  obtain ⟨a0, a1, a2, a3, a4⟩ := cells5 hc i hi
  obtain ⟨c0, c1, c2, c3, c4⟩ := cells5 hc k hk
  have hbi := hbd i hi
  have hbk := hbd k hk
  have HCT := Lib.hid (fun W => c_contradict (E i) (E k) d W hbi.2 hbk.2 hd)
  have lg0 := World.block_lt_of_cell? _ _ h0
  have lg1 := World.block_lt_of_cell? _ _ h1
  have lg2 := World.block_lt_of_cell? _ _ h2
  dsimp only at lg0 lg1 lg2
  have i1 : (0 : Int) ≤ (k : Int) := by omega
  have i2 : (k : Int) < (n : Int) := by omega
  have i3 : (0 : Int) ≤ (i : Int) := by omega
  have i4 : (i : Int) < (n : Int) := by omega
  clear hc hbd hv
  generalize E i = x at *
  generalize E k = y at *
  obtain ⟨t, s, o, m, z⟩ := x
  obtain ⟨t', s', o', m', z'⟩ := y
  dsimp only at a0 a1 a2 a3 a4 c0 c1 c2 c3 c4 hbi hbk HO
  simp only [est] at HCT
  have e1 := bts_eq s s'
  generalize agE d _ _ = q at *
  go_enter Try.func45, Try.ntmps45
  go_wp2
  go_upto_region 1 with fail
  go_cut [8, 9] (fun p q W => CtLeft w ⟨t, s, o, m, z⟩ ⟨t', s', o', m', z'⟩ p q W)
  case first =>
    go_region
    all_goals
      go_wp2_with fail
      go_meet
      case rel =>
        refine ⟨_, _, rfl, rfl, fun j hj => ?_, fun j hj => ?_, (by repeat' (first | (with_reducible exact Below.refl _ _) | (with_reducible assumption) | (with_reducible refine Base.grow_alloc ?_ _) | (with_reducible refine Base.below_drewN ?_ _) | (with_reducible refine Below.drew ?_) | (with_reducible refine Below.setCell ?_ ?_ _) | go_size))⟩
        all_goals
          obtain rfl | rfl | rfl | rfl | rfl : j = 0 ∨ j = 1 ∨ j = 2 ∨ j = 3 ∨ j = 4 := by omega
          all_goals simp [go_sem, f5]
  case rest =>
    obtain ⟨g, h, rfl, rfl, hg, hh, hbc⟩ := hcut
    have x0 := hg 0 (by omega)
    have x1 := hg 1 (by omega)
    have x2 := hg 2 (by omega)
    have x3 := hg 3 (by omega)
    have x4 := hg 4 (by omega)
    have y0 := hh 0 (by omega)
    have y1 := hh 1 (by omega)
    have y2 := hh 2 (by omega)
    have y3 := hh 3 (by omega)
    have y4 := hh 4 (by omega)
    simp [f5] at x0 x1 x2 x3 x4 y0 y1 y2 y3 y4
    have q1 := cell_call hbc h1
    have q2 := cell_call hbc h2
    have lx := World.block_lt_of_cell? _ _ x0
    have ly := World.block_lt_of_cell? _ _ y0
    have lq1 := World.block_lt_of_cell? _ _ q1
    have lq2 := World.block_lt_of_cell? _ _ q2
    dsimp only at lx ly lq1 lq2
    clear hg hh h0 h1 h2 a0 a1 a2 a3 a4 c0 c1 c2 c3 c4 lg0 lg1 lg2
    have HAB : Hid (∀ W : World, Calls Try.prog 46 #[.int .i64 (t - t')] W fun e w' => e = .returned (.int .i64 (absI (t - t'))) ∧ W = w') := Lib.hid (fun W => c_abs _ W (by omega) (by omega))
    have wr1 : IntKind.i64.wrap (t - t') = t - t' := IntWalk.i64_in _ (by omega)
    generalize absI (t - t') = T at *
    generalize decide (s = s') = z1 at *
    obtain ⟨z2, hz2⟩ : ∃ z2, decide (T ≤ a) = z2 := ⟨_, rfl⟩
    rw [hz2] at HO
    cases z1
    · go_wp2
      go_quiet (fail)
      clear wr1
      go_wp2
      go_ret
      exact ⟨ret_b (by rw [HO.out]; rfl), (by repeat' (first | (with_reducible exact Below.refl _ _) | (with_reducible assumption) | (with_reducible refine Base.via hbc ?_) | (with_reducible refine Base.grow_alloc ?_ _) | (with_reducible refine Base.below_drewN ?_ _) | (with_reducible refine Below.drew ?_) | (with_reducible refine Below.setCell ?_ ?_ _) | go_size))⟩
    · cases z2
      · go_wp2
        go_quiet ((go_at_call 46; exact Calls.quiet_of_same ((HAB.out _).mono fun _ _ h => ⟨h.1, h.2.symm⟩)))
        clear wr1
        go_wp2
        go_ret
        exact ⟨ret_b (by rw [HO.out]; rfl), (by repeat' (first | (with_reducible exact Below.refl _ _) | (with_reducible assumption) | (with_reducible refine Base.via hbc ?_) | (with_reducible refine Base.grow_alloc ?_ _) | (with_reducible refine Base.below_drewN ?_ _) | (with_reducible refine Below.drew ?_) | (with_reducible refine Below.setCell ?_ ?_ _) | go_size))⟩
      · go_wp2
        go_still_tail 19, (by kernel_rfl)
        still_call ((HAB.out _).mono fun _ _ h => ⟨h.1, h.2.symm⟩)
        repeat still_step
        refine wpStill_nil ?_
        change wpList _ _ _ _ _ wc.drew
        obtain ⟨w3, hw3⟩ : ∃ w3, w3 = wc.drew := ⟨_, rfl⟩
        have hb3 : Below w.heap.size w w3 := by rw [hw3]; exact (by repeat' (first | (with_reducible exact Below.refl _ _) | (with_reducible assumption) | (with_reducible refine Base.via hbc ?_) | (with_reducible refine Base.grow_alloc ?_ _) | (with_reducible refine Base.below_drewN ?_ _) | (with_reducible refine Below.drew ?_) | (with_reducible refine Below.setCell ?_ ?_ _) | go_size))
        rw [← hw3]
        clear hw3 wr1
        go_wp2_with fail
        refine (HCT.out _).mono ?_
        rintro e w4 ⟨rfl, hb4⟩
        go_wp2
        go_ret
        exact ⟨ret_b (by rw [HO.out]; rfl), (by repeat' (first | (with_reducible exact Below.refl _ _) | (with_reducible assumption) | (with_reducible refine Base.via hb4 ?_) | (with_reducible refine Base.via hb3 ?_) | (with_reducible refine Base.grow_alloc ?_ _) | (with_reducible refine Base.below_drewN ?_ _) | (with_reducible refine Below.drew ?_) | (with_reducible refine Below.setCell ?_ ?_ _) | go_size))⟩
end Go.Proofs.Ythojfmlnnclghaa.Ct
