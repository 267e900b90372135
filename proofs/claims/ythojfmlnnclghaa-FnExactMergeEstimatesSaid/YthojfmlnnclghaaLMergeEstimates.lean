/- FnExactMergeEstimates: for every input the law returns true, and its arguments read behind the call as before. No condition. -/
import Derived.Test.YthojfmlnnclghaaMrg
import Derived.Test.YthojfmlnnclghaaMrgS
import Derived.Test.YthojfmlnnclghaaHelp
import Derived.Test.YthojfmlnnclghaaOpen
import Derived.Test.YthojfmlnnclghaaRows
import Derived.Test.YthojfmlnnclghaaOpenE
import Derived.Test.YthojfmlnnclghaaMkE
namespace Go.Proofs.Ythojfmlnnclghaa.LMergeEstimates
set_option linter.unusedVariables false
set_option linter.unusedSimpArgs false
open Go.ChangeShapes Go.WideShapes Go.ChangeAt Go.RowKit Go.Joins Plain View Est

set_option maxHeartbeats 3200000 in
theorem walk (A0 : Option Addr) (n0 c0 : Nat) (E0 : Nat → E5) (A1 : Option Addr) (n1 c1 : Nat) (E1 : Nat → E5) (w : World) (hnn0 : n0 ≤ 1048576) (hv0 : Sl w 5 A0 n0 c0 (f5 E0)) (hs0 : ∀ i, i < n0 → (E0 i).s.size ≤ 9223372036854775807 ∧ (E0 i).o.size ≤ 9223372036854775807) (hnn1 : n1 ≤ 1048576) (hv1 : Sl w 5 A1 n1 c1 (f5 E1)) (hs1 : ∀ i, i < n1 → (E1 i).s.size ≤ 9223372036854775807 ∧ (E1 i).o.size ≤ 9223372036854775807) :
    Calls Try.prog 7 #[.slice A0 n0 c0, .slice A1 n1 c1] w fun r w' => r = .returned (.bool true) ∧ Below w.heap.size w w' := by
  have HSZ0 := Est.c_szEstimateS A0 n0 c0 E0 1048576 w hv0 hs0 (by omega) (by omega) (by omega)
  rcases Decidable.em (szK E0 (1048576 - n0) n0 < 0) with hneg | hpos
  · rw [n1_neg hneg] at HSZ0
    have HZ0 := Lib.hid HSZ0
    clear HSZ0 hneg
    go_enter Try.func7, Try.ntmps7
    go_wp2_with fail
    refine HZ0.out.mono ?_
    rintro e w' ⟨rfl, hz0⟩
    go_wp2_with fail
    go_ret
    exact ⟨rfl, (by repeat' (first | (with_reducible exact Below.refl _ _) | (with_reducible assumption) | (with_reducible refine Base.via hz0 ?_) | (with_reducible refine Base.grow_alloc ?_ _) | (with_reducible refine Base.below_drewN ?_ _) | (with_reducible refine Below.drew ?_) | (with_reducible refine Below.setCell ?_ ?_ _) | go_size))⟩
  rw [n1_pos hpos] at HSZ0
  have hq0 : 0 ≤ szK E0 (1048576 - n0) n0 := by omega
  have hq0' := szK_le E0 (1048576 - n0) n0
  generalize szK E0 (1048576 - n0) n0 = z0 at *
  have HZ0 := Lib.hid HSZ0
  clear HSZ0 hpos
  rcases Nat.lt_or_ge z0.toNat n1 with hno | hyes
  · go_enter Try.func7, Try.ntmps7
    go_wp2_with fail
    refine HZ0.out.mono ?_
    rintro e w' ⟨rfl, hz0⟩
    go_wp2_with fail
    refine (Est.c_szEstimateS_no _ _ _ _ _ (by omega) (by omega) (by omega) (by omega)).mono ?_
    rintro e w' ⟨rfl, rfl⟩
    go_wp2_with fail
    go_ret
    exact ⟨rfl, (by repeat' (first | (with_reducible exact Below.refl _ _) | (with_reducible assumption) | (with_reducible refine Base.via hz0 ?_) | (with_reducible refine Base.grow_alloc ?_ _) | (with_reducible refine Base.below_drewN ?_ _) | (with_reducible refine Below.drew ?_) | (with_reducible refine Below.setCell ?_ ?_ _) | go_size))⟩
  have HSZ1 := Lib.hid (fun (W : World) (hW : Sl W 5 A1 n1 c1 (f5 E1)) => Est.c_szEstimateS A1 n1 c1 E1 z0 W hW hs1 (by omega) (by omega) (by omega))
  rcases Decidable.em (szK E1 (z0 - n1) n1 < 0) with hneg | hpos
  · rw [n1_neg hneg] at HSZ1
    clear hneg
    go_enter Try.func7, Try.ntmps7
    go_wp2_with fail
    refine HZ0.out.mono ?_
    rintro e w' ⟨rfl, hz0⟩
    go_wp2_with fail
    refine (HSZ1.out _ (hv1.below (by repeat' (first | (with_reducible exact Below.refl _ _) | (with_reducible assumption) | (with_reducible refine Base.via hz0 ?_) | (with_reducible refine Base.grow_alloc ?_ _) | (with_reducible refine Base.below_drewN ?_ _) | (with_reducible refine Below.drew ?_) | (with_reducible refine Below.setCell ?_ ?_ _) | go_size)))).mono ?_
    rintro e w' ⟨rfl, hz1⟩
    go_wp2_with fail
    go_ret
    exact ⟨rfl, (by repeat' (first | (with_reducible exact Below.refl _ _) | (with_reducible assumption) | (with_reducible refine Base.via hz1 ?_) | (with_reducible refine Base.via hz0 ?_) | (with_reducible refine Base.grow_alloc ?_ _) | (with_reducible refine Base.below_drewN ?_ _) | (with_reducible refine Below.drew ?_) | (with_reducible refine Below.setCell ?_ ?_ _) | go_size))⟩
  rw [n1_pos hpos] at HSZ1
  have hq1 : 0 ≤ szK E1 (z0 - n1) n1 := by omega
  generalize szK E1 (z0 - n1) n1 = z1 at *
  clear hpos
  go_enter Try.func7, Try.ntmps7
  go_wp2_with fail
  refine HZ0.out.mono ?_
  rintro e w' ⟨rfl, hz0⟩
  go_wp2_with fail
  refine (HSZ1.out _ (hv1.below (by repeat' (first | (with_reducible exact Below.refl _ _) | (with_reducible assumption) | (with_reducible refine Base.via hz0 ?_) | (with_reducible refine Base.grow_alloc ?_ _) | (with_reducible refine Base.below_drewN ?_ _) | (with_reducible refine Below.drew ?_) | (with_reducible refine Below.setCell ?_ ?_ _) | go_size)))).mono ?_
  rintro e w' ⟨rfl, hz1⟩
  go_wp2_with fail
  refine (Est.c_toEstimateS A0 n0 c0 E0 _ (hv0.below (by repeat' (first | (with_reducible exact Below.refl _ _) | (with_reducible assumption) | (with_reducible refine Base.via hz1 ?_) | (with_reducible refine Base.via hz0 ?_) | (with_reducible refine Base.grow_alloc ?_ _) | (with_reducible refine Base.below_drewN ?_ _) | (with_reducible refine Below.drew ?_) | (with_reducible refine Below.setCell ?_ ?_ _) | go_size)))).mono ?_
  rintro e w1 ⟨g1, rfl, qg1, r1, hb1⟩
  have v1 := r1.view (c := n0) hnn0 (Nat.le_refl _) (by omega)
  have o1 := OwnK.of_row hnn0 qg1 r1
  go_wp2_with fail
  refine (Est.c_toEstimateS A1 n1 c1 E1 _ (hv1.below (by repeat' (first | (with_reducible exact Below.refl _ _) | (with_reducible assumption) | (with_reducible refine Base.via hb1 ?_) | (with_reducible refine Base.via hz1 ?_) | (with_reducible refine Base.via hz0 ?_) | (with_reducible refine Base.grow_alloc ?_ _) | (with_reducible refine Base.below_drewN ?_ _) | (with_reducible refine Below.drew ?_) | (with_reducible refine Below.setCell ?_ ?_ _) | go_size)))).mono ?_
  rintro e w2 ⟨g2, rfl, qg2, r2, hb2⟩
  have v2 := r2.view (c := n1) hnn1 (Nat.le_refl _) (by omega)
  have o2 := OwnK.of_row hnn1 qg2 r2
  go_wp2_with fail
  refine (Mrg.c_specMergeEstimates _ _ _ _ E0 _ _ _ _ E1 _ (v1.below (by repeat' (first | (with_reducible exact Below.refl _ _) | (with_reducible assumption) | (with_reducible refine Base.via hb2 ?_) | (with_reducible refine Base.grow_alloc ?_ _) | (with_reducible refine Base.below_drewN ?_ _) | (with_reducible refine Below.drew ?_) | (with_reducible refine Below.setCell ?_ ?_ _) | go_size))) (v2.below (by repeat' (first | (with_reducible exact Below.refl _ _) | (with_reducible assumption) | (with_reducible refine Base.grow_alloc ?_ _) | (with_reducible refine Base.below_drewN ?_ _) | (with_reducible refine Below.drew ?_) | (with_reducible refine Below.setCell ?_ ?_ _) | go_size)))).mono ?_
  rintro e w3 ⟨u3, rfl, o3, hb3⟩
  obtain ⟨A3', C3', rfl, V3', _⟩ := o3.view
  go_wp2_with fail
  refine (Est.c_toEstimateS A0 n0 c0 E0 _ (hv0.below (by repeat' (first | (with_reducible exact Below.refl _ _) | (with_reducible assumption) | (with_reducible refine Base.via hb3 ?_) | (with_reducible refine Base.via hb2 ?_) | (with_reducible refine Base.via hb1 ?_) | (with_reducible refine Base.via hz1 ?_) | (with_reducible refine Base.via hz0 ?_) | (with_reducible refine Base.grow_alloc ?_ _) | (with_reducible refine Base.below_drewN ?_ _) | (with_reducible refine Below.drew ?_) | (with_reducible refine Below.setCell ?_ ?_ _) | go_size)))).mono ?_
  rintro e w4 ⟨g4, rfl, qg4, r4, hb4⟩
  have v4 := r4.view (c := n0) hnn0 (Nat.le_refl _) (by omega)
  have o4 := OwnK.of_row hnn0 qg4 r4
  go_wp2_with fail
  refine (Est.c_toEstimateS A1 n1 c1 E1 _ (hv1.below (by repeat' (first | (with_reducible exact Below.refl _ _) | (with_reducible assumption) | (with_reducible refine Base.via hb4 ?_) | (with_reducible refine Base.via hb3 ?_) | (with_reducible refine Base.via hb2 ?_) | (with_reducible refine Base.via hb1 ?_) | (with_reducible refine Base.via hz1 ?_) | (with_reducible refine Base.via hz0 ?_) | (with_reducible refine Base.grow_alloc ?_ _) | (with_reducible refine Base.below_drewN ?_ _) | (with_reducible refine Below.drew ?_) | (with_reducible refine Below.setCell ?_ ?_ _) | go_size)))).mono ?_
  rintro e w5 ⟨g5, rfl, qg5, r5, hb5⟩
  have v5 := r5.view (c := n1) hnn1 (Nat.le_refl _) (by omega)
  have o5 := OwnK.of_row hnn1 qg5 r5
  go_wp2_with fail
  refine (Mrg.c_MergeEstimates _ _ _ _ E0 _ _ _ _ E1 _ (v4.below (by repeat' (first | (with_reducible exact Below.refl _ _) | (with_reducible assumption) | (with_reducible refine Base.via hb5 ?_) | (with_reducible refine Base.grow_alloc ?_ _) | (with_reducible refine Base.below_drewN ?_ _) | (with_reducible refine Below.drew ?_) | (with_reducible refine Below.setCell ?_ ?_ _) | go_size))) (v5.below (by repeat' (first | (with_reducible exact Below.refl _ _) | (with_reducible assumption) | (with_reducible refine Base.grow_alloc ?_ _) | (with_reducible refine Base.below_drewN ?_ _) | (with_reducible refine Below.drew ?_) | (with_reducible refine Below.setCell ?_ ?_ _) | go_size)))).mono ?_
  rintro e w6 ⟨u6, rfl, o6, hb6⟩
  obtain ⟨A6', C6', rfl, V6', _⟩ := o6.view
  go_wp2_with fail
  refine (Est.c_eqEstimateS _ _ _ _ _ _ _ (o6.below (by repeat' (first | (with_reducible exact Below.refl _ _) | (with_reducible assumption) | (with_reducible refine Base.grow_alloc ?_ _) | (with_reducible refine Base.below_drewN ?_ _) | (with_reducible refine Below.drew ?_) | (with_reducible refine Below.setCell ?_ ?_ _) | go_size))).sl (o3.below (by repeat' (first | (with_reducible exact Below.refl _ _) | (with_reducible assumption) | (with_reducible refine Base.via hb6 ?_) | (with_reducible refine Base.via hb5 ?_) | (with_reducible refine Base.via hb4 ?_) | (with_reducible refine Base.grow_alloc ?_ _) | (with_reducible refine Base.below_drewN ?_ _) | (with_reducible refine Below.drew ?_) | (with_reducible refine Below.setCell ?_ ?_ _) | go_size))).sl).mono ?_
  rintro e w7 ⟨rfl, hb7⟩
  go_wp2_with fail
  refine (Est.c_toEstimateS A0 n0 c0 E0 _ (hv0.below (by repeat' (first | (with_reducible exact Below.refl _ _) | (with_reducible assumption) | (with_reducible refine Base.via hb7 ?_) | (with_reducible refine Base.via hb6 ?_) | (with_reducible refine Base.via hb5 ?_) | (with_reducible refine Base.via hb4 ?_) | (with_reducible refine Base.via hb3 ?_) | (with_reducible refine Base.via hb2 ?_) | (with_reducible refine Base.via hb1 ?_) | (with_reducible refine Base.via hz1 ?_) | (with_reducible refine Base.via hz0 ?_) | (with_reducible refine Base.grow_alloc ?_ _) | (with_reducible refine Base.below_drewN ?_ _) | (with_reducible refine Below.drew ?_) | (with_reducible refine Below.setCell ?_ ?_ _) | go_size)))).mono ?_
  rintro e w8 ⟨g8, rfl, qg8, r8, hb8⟩
  have v8 := r8.view (c := n0) hnn0 (Nat.le_refl _) (by omega)
  have o8 := OwnK.of_row hnn0 qg8 r8
  go_wp2_with fail
  refine (Est.c_eqEstimateS _ _ _ _ _ E0 _ (v4.below (by repeat' (first | (with_reducible exact Below.refl _ _) | (with_reducible assumption) | (with_reducible refine Base.via hb8 ?_) | (with_reducible refine Base.via hb7 ?_) | (with_reducible refine Base.via hb6 ?_) | (with_reducible refine Base.via hb5 ?_) | (with_reducible refine Base.grow_alloc ?_ _) | (with_reducible refine Base.below_drewN ?_ _) | (with_reducible refine Below.drew ?_) | (with_reducible refine Below.setCell ?_ ?_ _) | go_size))) (v8.below (by repeat' (first | (with_reducible exact Below.refl _ _) | (with_reducible assumption) | (with_reducible refine Base.grow_alloc ?_ _) | (with_reducible refine Base.below_drewN ?_ _) | (with_reducible refine Below.drew ?_) | (with_reducible refine Below.setCell ?_ ?_ _) | go_size)))).mono ?_
  rintro e w9 ⟨rfl, hb9⟩
  go_wp2_with fail
  refine (Est.c_toEstimateS A1 n1 c1 E1 _ (hv1.below (by repeat' (first | (with_reducible exact Below.refl _ _) | (with_reducible assumption) | (with_reducible refine Base.via hb9 ?_) | (with_reducible refine Base.via hb8 ?_) | (with_reducible refine Base.via hb7 ?_) | (with_reducible refine Base.via hb6 ?_) | (with_reducible refine Base.via hb5 ?_) | (with_reducible refine Base.via hb4 ?_) | (with_reducible refine Base.via hb3 ?_) | (with_reducible refine Base.via hb2 ?_) | (with_reducible refine Base.via hb1 ?_) | (with_reducible refine Base.via hz1 ?_) | (with_reducible refine Base.via hz0 ?_) | (with_reducible refine Base.grow_alloc ?_ _) | (with_reducible refine Base.below_drewN ?_ _) | (with_reducible refine Below.drew ?_) | (with_reducible refine Below.setCell ?_ ?_ _) | go_size)))).mono ?_
  rintro e w10 ⟨g10, rfl, qg10, r10, hb10⟩
  have v10 := r10.view (c := n1) hnn1 (Nat.le_refl _) (by omega)
  have o10 := OwnK.of_row hnn1 qg10 r10
  go_wp2_with fail
  refine (Est.c_eqEstimateS _ _ _ _ _ E1 _ (v5.below (by repeat' (first | (with_reducible exact Below.refl _ _) | (with_reducible assumption) | (with_reducible refine Base.via hb10 ?_) | (with_reducible refine Base.via hb9 ?_) | (with_reducible refine Base.via hb8 ?_) | (with_reducible refine Base.via hb7 ?_) | (with_reducible refine Base.via hb6 ?_) | (with_reducible refine Base.grow_alloc ?_ _) | (with_reducible refine Base.below_drewN ?_ _) | (with_reducible refine Below.drew ?_) | (with_reducible refine Below.setCell ?_ ?_ _) | go_size))) (v10.below (by repeat' (first | (with_reducible exact Below.refl _ _) | (with_reducible assumption) | (with_reducible refine Base.grow_alloc ?_ _) | (with_reducible refine Base.below_drewN ?_ _) | (with_reducible refine Below.drew ?_) | (with_reducible refine Below.setCell ?_ ?_ _) | go_size)))).mono ?_
  rintro e w11 ⟨rfl, hb11⟩
  have t12 : Below w.heap.size w w11 := (by repeat' (first | (with_reducible exact Below.refl _ _) | (with_reducible assumption) | (with_reducible refine Base.via hb11 ?_) | (with_reducible refine Base.via hb10 ?_) | (with_reducible refine Base.via hb9 ?_) | (with_reducible refine Base.via hb8 ?_) | (with_reducible refine Base.via hb7 ?_) | (with_reducible refine Base.via hb6 ?_) | (with_reducible refine Base.via hb5 ?_) | (with_reducible refine Base.via hb4 ?_) | (with_reducible refine Base.via hb3 ?_) | (with_reducible refine Base.via hb2 ?_) | (with_reducible refine Base.via hb1 ?_) | (with_reducible refine Base.via hz1 ?_) | (with_reducible refine Base.via hz0 ?_) | (with_reducible refine Base.grow_alloc ?_ _) | (with_reducible refine Base.below_drewN ?_ _) | (with_reducible refine Below.drew ?_) | (with_reducible refine Below.setCell ?_ ?_ _) | go_size))
  go_wp2_with fail
  refine (MkE.c_markEstimateS _ _ _ _ 1 _ (o4.below (by repeat' (first | (with_reducible exact Below.refl _ _) | (with_reducible assumption) | (with_reducible refine Base.via hb11 ?_) | (with_reducible refine Base.via hb10 ?_) | (with_reducible refine Base.via hb9 ?_) | (with_reducible refine Base.via hb8 ?_) | (with_reducible refine Base.via hb7 ?_) | (with_reducible refine Base.via hb6 ?_) | (with_reducible refine Base.via hb5 ?_) | (with_reducible refine Base.grow_alloc ?_ _) | (with_reducible refine Base.below_drewN ?_ _) | (with_reducible refine Below.drew ?_) | (with_reducible refine Below.setCell ?_ ?_ _) | go_size))) (by omega)).mono ?_
  rintro e w12 ⟨rfl, m12, g12⟩
  have hb12 := below_marked t12 g12 o4.blk (by have s0 := hz0.size; have s1 := hz1.size; have s2 := hb1.size; have s3 := hb2.size; have s4 := hb3.size; have s5 := hb4.size; have s6 := hb5.size; have s7 := hb6.size; have s8 := hb7.size; have s9 := hb8.size; have s10 := hb9.size; have s11 := hb10.size; have s12 := hb11.size; omega) t12.size
  have T12_3 := (o3.below (by repeat' (first | (with_reducible exact Below.refl _ _) | (with_reducible assumption) | (with_reducible refine Base.via hb11 ?_) | (with_reducible refine Base.via hb10 ?_) | (with_reducible refine Base.via hb9 ?_) | (with_reducible refine Base.via hb8 ?_) | (with_reducible refine Base.via hb7 ?_) | (with_reducible refine Base.via hb6 ?_) | (with_reducible refine Base.via hb5 ?_) | (with_reducible refine Base.via hb4 ?_) | (with_reducible refine Base.grow_alloc ?_ _) | (with_reducible refine Base.below_drewN ?_ _) | (with_reducible refine Below.drew ?_) | (with_reducible refine Below.setCell ?_ ?_ _) | go_size))).marked o3.blk g12 o4.blk (by have s0 := hz0.size; have s1 := hz1.size; have s2 := hb1.size; have s3 := hb2.size; have s4 := hb3.size; have s5 := hb4.size; have s6 := hb5.size; have s7 := hb6.size; have s8 := hb7.size; have s9 := hb8.size; have s10 := hb9.size; have s11 := hb10.size; have s12 := hb11.size; omega)
  have T12_6 := (o6.below (by repeat' (first | (with_reducible exact Below.refl _ _) | (with_reducible assumption) | (with_reducible refine Base.via hb11 ?_) | (with_reducible refine Base.via hb10 ?_) | (with_reducible refine Base.via hb9 ?_) | (with_reducible refine Base.via hb8 ?_) | (with_reducible refine Base.via hb7 ?_) | (with_reducible refine Base.grow_alloc ?_ _) | (with_reducible refine Base.below_drewN ?_ _) | (with_reducible refine Below.drew ?_) | (with_reducible refine Below.setCell ?_ ?_ _) | go_size))).marked o6.blk g12 o4.blk (by have s0 := hz0.size; have s1 := hz1.size; have s2 := hb1.size; have s3 := hb2.size; have s4 := hb3.size; have s5 := hb4.size; have s6 := hb5.size; have s7 := hb6.size; have s8 := hb7.size; have s9 := hb8.size; have s10 := hb9.size; have s11 := hb10.size; have s12 := hb11.size; omega)
  have T12_x5 := (o5.below (by repeat' (first | (with_reducible exact Below.refl _ _) | (with_reducible assumption) | (with_reducible refine Base.via hb11 ?_) | (with_reducible refine Base.via hb10 ?_) | (with_reducible refine Base.via hb9 ?_) | (with_reducible refine Base.via hb8 ?_) | (with_reducible refine Base.via hb7 ?_) | (with_reducible refine Base.via hb6 ?_) | (with_reducible refine Base.grow_alloc ?_ _) | (with_reducible refine Base.below_drewN ?_ _) | (with_reducible refine Below.drew ?_) | (with_reducible refine Below.setCell ?_ ?_ _) | go_size))).marked o5.blk g12 o4.blk (by have s0 := hz0.size; have s1 := hz1.size; have s2 := hb1.size; have s3 := hb2.size; have s4 := hb3.size; have s5 := hb4.size; have s6 := hb5.size; have s7 := hb6.size; have s8 := hb7.size; have s9 := hb8.size; have s10 := hb9.size; have s11 := hb10.size; have s12 := hb11.size; omega)
  have t13 : Below w.heap.size w w12 := (by repeat' (first | (with_reducible exact Below.refl _ _) | (with_reducible assumption) | (with_reducible refine Base.via hb12 ?_) | (with_reducible refine Base.grow_alloc ?_ _) | (with_reducible refine Base.below_drewN ?_ _) | (with_reducible refine Below.drew ?_) | (with_reducible refine Below.setCell ?_ ?_ _) | go_size))
  go_wp2_with fail
  refine (MkE.c_markEstimateS _ _ _ _ (1 + n0 * 5) _ (T12_x5.below (by repeat' (first | (with_reducible exact Below.refl _ _) | (with_reducible assumption) | (with_reducible refine Base.grow_alloc ?_ _) | (with_reducible refine Base.below_drewN ?_ _) | (with_reducible refine Below.drew ?_) | (with_reducible refine Below.setCell ?_ ?_ _) | go_size))) (by omega)).mono ?_
  rintro e w13 ⟨rfl, m13, g13⟩
  have hb13 := below_marked t13 g13 o5.blk (by have s0 := hz0.size; have s1 := hz1.size; have s2 := hb1.size; have s3 := hb2.size; have s4 := hb3.size; have s5 := hb4.size; have s6 := hb5.size; have s7 := hb6.size; have s8 := hb7.size; have s9 := hb8.size; have s10 := hb9.size; have s11 := hb10.size; have s12 := hb11.size; have s13 := g12.size; have s14 := hb12.size; omega) t13.size
  have T13_3 := (T12_3.below (by repeat' (first | (with_reducible exact Below.refl _ _) | (with_reducible assumption) | (with_reducible refine Base.grow_alloc ?_ _) | (with_reducible refine Base.below_drewN ?_ _) | (with_reducible refine Below.drew ?_) | (with_reducible refine Below.setCell ?_ ?_ _) | go_size))).marked o3.blk g13 o5.blk (by have s0 := hz0.size; have s1 := hz1.size; have s2 := hb1.size; have s3 := hb2.size; have s4 := hb3.size; have s5 := hb4.size; have s6 := hb5.size; have s7 := hb6.size; have s8 := hb7.size; have s9 := hb8.size; have s10 := hb9.size; have s11 := hb10.size; have s12 := hb11.size; have s13 := g12.size; have s14 := hb12.size; omega)
  have T13_6 := (T12_6.below (by repeat' (first | (with_reducible exact Below.refl _ _) | (with_reducible assumption) | (with_reducible refine Base.grow_alloc ?_ _) | (with_reducible refine Base.below_drewN ?_ _) | (with_reducible refine Below.drew ?_) | (with_reducible refine Below.setCell ?_ ?_ _) | go_size))).marked o6.blk g13 o5.blk (by have s0 := hz0.size; have s1 := hz1.size; have s2 := hb1.size; have s3 := hb2.size; have s4 := hb3.size; have s5 := hb4.size; have s6 := hb5.size; have s7 := hb6.size; have s8 := hb7.size; have s9 := hb8.size; have s10 := hb9.size; have s11 := hb10.size; have s12 := hb11.size; have s13 := g12.size; have s14 := hb12.size; omega)
  go_wp2_with fail
  refine (Est.c_eqEstimateS _ _ _ _ _ _ _ (T13_6.below (by repeat' (first | (with_reducible exact Below.refl _ _) | (with_reducible assumption) | (with_reducible refine Base.grow_alloc ?_ _) | (with_reducible refine Base.below_drewN ?_ _) | (with_reducible refine Below.drew ?_) | (with_reducible refine Below.setCell ?_ ?_ _) | go_size))).sl (T13_3.below (by repeat' (first | (with_reducible exact Below.refl _ _) | (with_reducible assumption) | (with_reducible refine Base.grow_alloc ?_ _) | (with_reducible refine Base.below_drewN ?_ _) | (with_reducible refine Below.drew ?_) | (with_reducible refine Below.setCell ?_ ?_ _) | go_size))).sl).mono ?_
  rintro e w14 ⟨rfl, hb14⟩
  have t15 : Below w.heap.size w w14 := (by repeat' (first | (with_reducible exact Below.refl _ _) | (with_reducible assumption) | (with_reducible refine Base.via hb14 ?_) | (with_reducible refine Base.via hb13 ?_) | (with_reducible refine Base.grow_alloc ?_ _) | (with_reducible refine Base.below_drewN ?_ _) | (with_reducible refine Below.drew ?_) | (with_reducible refine Below.setCell ?_ ?_ _) | go_size))
  go_wp2_with fail
  refine (MkE.c_markEstimateS _ _ _ _ 1 _ (T13_6.below (by repeat' (first | (with_reducible exact Below.refl _ _) | (with_reducible assumption) | (with_reducible refine Base.via hb14 ?_) | (with_reducible refine Base.grow_alloc ?_ _) | (with_reducible refine Base.below_drewN ?_ _) | (with_reducible refine Below.drew ?_) | (with_reducible refine Below.setCell ?_ ?_ _) | go_size))) (by omega)).mono ?_
  rintro e w15 ⟨rfl, m15, g15⟩
  have hb15 := below_marked t15 g15 o6.blk (by have s0 := hz0.size; have s1 := hz1.size; have s2 := hb1.size; have s3 := hb2.size; have s4 := hb3.size; have s5 := hb4.size; have s6 := hb5.size; have s7 := hb6.size; have s8 := hb7.size; have s9 := hb8.size; have s10 := hb9.size; have s11 := hb10.size; have s12 := hb11.size; have s13 := g12.size; have s14 := hb12.size; have s15 := g13.size; have s16 := hb13.size; have s17 := hb14.size; omega) t15.size
  have T15_3 := (T13_3.below (by repeat' (first | (with_reducible exact Below.refl _ _) | (with_reducible assumption) | (with_reducible refine Base.via hb14 ?_) | (with_reducible refine Base.grow_alloc ?_ _) | (with_reducible refine Base.below_drewN ?_ _) | (with_reducible refine Below.drew ?_) | (with_reducible refine Below.setCell ?_ ?_ _) | go_size))).marked o3.blk g15 o6.blk (by have s0 := hz0.size; have s1 := hz1.size; have s2 := hb1.size; have s3 := hb2.size; have s4 := hb3.size; have s5 := hb4.size; have s6 := hb5.size; have s7 := hb6.size; have s8 := hb7.size; have s9 := hb8.size; have s10 := hb9.size; have s11 := hb10.size; have s12 := hb11.size; have s13 := g12.size; have s14 := hb12.size; have s15 := g13.size; have s16 := hb13.size; have s17 := hb14.size; omega)
  go_wp2_with fail
  refine (MkE.c_heldEstimateS _ _ _ 1 _ (m15.below (by repeat' (first | (with_reducible exact Below.refl _ _) | (with_reducible assumption) | (with_reducible refine Base.grow_alloc ?_ _) | (with_reducible refine Base.below_drewN ?_ _) | (with_reducible refine Below.drew ?_) | (with_reducible refine Below.setCell ?_ ?_ _) | go_size))).sl (by omega)).mono ?_
  rintro e w16 ⟨rfl, hb16⟩
  go_wp2_with fail
  refine (Est.c_toEstimateS A0 n0 c0 E0 _ (hv0.below (by repeat' (first | (with_reducible exact Below.refl _ _) | (with_reducible assumption) | (with_reducible refine Base.via hb16 ?_) | (with_reducible refine Base.via hb15 ?_) | (with_reducible refine Base.grow_alloc ?_ _) | (with_reducible refine Base.below_drewN ?_ _) | (with_reducible refine Below.drew ?_) | (with_reducible refine Below.setCell ?_ ?_ _) | go_size)))).mono ?_
  rintro e w17 ⟨g17, rfl, qg17, r17, hb17⟩
  have v17 := r17.view (c := n0) hnn0 (Nat.le_refl _) (by omega)
  have o17 := OwnK.of_row hnn0 qg17 r17
  go_wp2_with fail
  refine (Est.c_toEstimateS A1 n1 c1 E1 _ (hv1.below (by repeat' (first | (with_reducible exact Below.refl _ _) | (with_reducible assumption) | (with_reducible refine Base.via hb17 ?_) | (with_reducible refine Base.via hb16 ?_) | (with_reducible refine Base.via hb15 ?_) | (with_reducible refine Base.grow_alloc ?_ _) | (with_reducible refine Base.below_drewN ?_ _) | (with_reducible refine Below.drew ?_) | (with_reducible refine Below.setCell ?_ ?_ _) | go_size)))).mono ?_
  rintro e w18 ⟨g18, rfl, qg18, r18, hb18⟩
  have v18 := r18.view (c := n1) hnn1 (Nat.le_refl _) (by omega)
  have o18 := OwnK.of_row hnn1 qg18 r18
  go_wp2_with fail
  refine (Mrg.c_MergeEstimates _ _ _ _ E0 _ _ _ _ E1 _ (v17.below (by repeat' (first | (with_reducible exact Below.refl _ _) | (with_reducible assumption) | (with_reducible refine Base.via hb18 ?_) | (with_reducible refine Base.grow_alloc ?_ _) | (with_reducible refine Base.below_drewN ?_ _) | (with_reducible refine Below.drew ?_) | (with_reducible refine Below.setCell ?_ ?_ _) | go_size))) (v18.below (by repeat' (first | (with_reducible exact Below.refl _ _) | (with_reducible assumption) | (with_reducible refine Base.grow_alloc ?_ _) | (with_reducible refine Base.below_drewN ?_ _) | (with_reducible refine Below.drew ?_) | (with_reducible refine Below.setCell ?_ ?_ _) | go_size)))).mono ?_
  rintro e w19 ⟨u19, rfl, o19, hb19⟩
  obtain ⟨A19', C19', rfl, V19', _⟩ := o19.view
  go_wp2_with fail
  refine (Est.c_eqEstimateS _ _ _ _ _ _ _ (o19.below (by repeat' (first | (with_reducible exact Below.refl _ _) | (with_reducible assumption) | (with_reducible refine Base.grow_alloc ?_ _) | (with_reducible refine Base.below_drewN ?_ _) | (with_reducible refine Below.drew ?_) | (with_reducible refine Below.setCell ?_ ?_ _) | go_size))).sl (T15_3.below (by repeat' (first | (with_reducible exact Below.refl _ _) | (with_reducible assumption) | (with_reducible refine Base.via hb19 ?_) | (with_reducible refine Base.via hb18 ?_) | (with_reducible refine Base.via hb17 ?_) | (with_reducible refine Base.via hb16 ?_) | (with_reducible refine Base.grow_alloc ?_ _) | (with_reducible refine Base.below_drewN ?_ _) | (with_reducible refine Below.drew ?_) | (with_reducible refine Below.setCell ?_ ?_ _) | go_size))).sl).mono ?_
  rintro e w20 ⟨rfl, hb20⟩
  go_wp2_with fail
  refine (MkE.c_heldEstimateS _ _ _ 1 _ (m15.below (by repeat' (first | (with_reducible exact Below.refl _ _) | (with_reducible assumption) | (with_reducible refine Base.via hb20 ?_) | (with_reducible refine Base.via hb19 ?_) | (with_reducible refine Base.via hb18 ?_) | (with_reducible refine Base.via hb17 ?_) | (with_reducible refine Base.via hb16 ?_) | (with_reducible refine Base.grow_alloc ?_ _) | (with_reducible refine Base.below_drewN ?_ _) | (with_reducible refine Below.drew ?_) | (with_reducible refine Below.setCell ?_ ?_ _) | go_size))).sl (by omega)).mono ?_
  rintro e w21 ⟨rfl, hb21⟩
  go_wp2_with fail
  go_ret
  exact ⟨rfl, (by repeat' (first | (with_reducible exact Below.refl _ _) | (with_reducible assumption) | (with_reducible refine Base.via hb21 ?_) | (with_reducible refine Base.via hb20 ?_) | (with_reducible refine Base.via hb19 ?_) | (with_reducible refine Base.via hb18 ?_) | (with_reducible refine Base.via hb17 ?_) | (with_reducible refine Base.via hb16 ?_) | (with_reducible refine Base.via hb15 ?_) | (with_reducible refine Base.grow_alloc ?_ _) | (with_reducible refine Base.below_drewN ?_ _) | (with_reducible refine Below.drew ?_) | (with_reducible refine Below.setCell ?_ ?_ _) | go_size))⟩

theorem walk_big0 (A0 : Option Addr) (n0 c0 : Nat) (E0 : Nat → E5) (A1 : Option Addr) (n1 c1 : Nat) (E1 : Nat → E5) (w : World) (hm : n0 ≤ 9223372036854775807) (hbig : 1048576 < n0) :
    Calls Try.prog 7 #[.slice A0 n0 c0, .slice A1 n1 c1] w fun r w' => r = .returned (.bool true) ∧ Below w.heap.size w w' := by
  go_enter Try.func7, Try.ntmps7
  go_wp2_with fail
  refine (Est.c_szEstimateS_no _ _ _ _ _ (by omega) (by omega) (by omega) (by omega)).mono ?_
  rintro e w' ⟨rfl, rfl⟩
  go_wp2_with fail
  go_ret
  exact ⟨rfl, (by repeat' (first | (with_reducible exact Below.refl _ _) | (with_reducible assumption) | (with_reducible refine Base.grow_alloc ?_ _) | (with_reducible refine Base.below_drewN ?_ _) | (with_reducible refine Below.drew ?_) | (with_reducible refine Below.setCell ?_ ?_ _) | go_size))⟩

theorem walk_big1 (A0 : Option Addr) (n0 c0 : Nat) (E0 : Nat → E5) (A1 : Option Addr) (n1 c1 : Nat) (E1 : Nat → E5) (w : World) (hnn0 : n0 ≤ 1048576) (hv0 : Sl w 5 A0 n0 c0 (f5 E0)) (hs0 : ∀ i, i < n0 → (E0 i).s.size ≤ 9223372036854775807 ∧ (E0 i).o.size ≤ 9223372036854775807) (hm : n1 ≤ 9223372036854775807) (hbig : 1048576 < n1) :
    Calls Try.prog 7 #[.slice A0 n0 c0, .slice A1 n1 c1] w fun r w' => r = .returned (.bool true) ∧ Below w.heap.size w w' := by
  have HSZ0 := Est.c_szEstimateS A0 n0 c0 E0 1048576 w hv0 hs0 (by omega) (by omega) (by omega)
  rcases Decidable.em (szK E0 (1048576 - n0) n0 < 0) with hneg | hpos
  · rw [n1_neg hneg] at HSZ0
    have HZ0 := Lib.hid HSZ0
    clear HSZ0 hneg
    go_enter Try.func7, Try.ntmps7
    go_wp2_with fail
    refine HZ0.out.mono ?_
    rintro e w' ⟨rfl, hz0⟩
    go_wp2_with fail
    go_ret
    exact ⟨rfl, (by repeat' (first | (with_reducible exact Below.refl _ _) | (with_reducible assumption) | (with_reducible refine Base.via hz0 ?_) | (with_reducible refine Base.grow_alloc ?_ _) | (with_reducible refine Base.below_drewN ?_ _) | (with_reducible refine Below.drew ?_) | (with_reducible refine Below.setCell ?_ ?_ _) | go_size))⟩
  rw [n1_pos hpos] at HSZ0
  have hq0 : 0 ≤ szK E0 (1048576 - n0) n0 := by omega
  have hq0' := szK_le E0 (1048576 - n0) n0
  generalize szK E0 (1048576 - n0) n0 = z0 at *
  have HZ0 := Lib.hid HSZ0
  clear HSZ0 hpos
  go_enter Try.func7, Try.ntmps7
  go_wp2_with fail
  refine HZ0.out.mono ?_
  rintro e w' ⟨rfl, hz0⟩
  go_wp2_with fail
  refine (Est.c_szEstimateS_no _ _ _ _ _ (by omega) (by omega) (by omega) (by omega)).mono ?_
  rintro e w' ⟨rfl, rfl⟩
  go_wp2_with fail
  go_ret
  exact ⟨rfl, (by repeat' (first | (with_reducible exact Below.refl _ _) | (with_reducible assumption) | (with_reducible refine Base.via hz0 ?_) | (with_reducible refine Base.grow_alloc ?_ _) | (with_reducible refine Base.below_drewN ?_ _) | (with_reducible refine Below.drew ?_) | (with_reducible refine Below.setCell ?_ ?_ _) | go_size))⟩

set_option maxRecDepth 100000 in
theorem lifted (os : Os) (started : os.Started) (H : Type) (enc : TypeId × Value → H) :
    ReturnsInHanded {} Try.checked os 7 .any (Rows.fnExactMergeEstimatesSpec.pre6 enc Try.prog Try.f7 Rows.fnExactMergeEstimatesRow.domain false) (Rows.fnExactMergeEstimatesSpec.post enc Try.prog Try.f7 false true false false) := by
  refine returnsInHanded_of_change (C := Try.checked) Open.own started (by kernel_rfl) Try.func7
    (ChangeSpec.witness6 (enc := enc) (C := Try.checked) false ⟨#[], #[.slice none 0 0, .slice none 0 0], []⟩ 8 (by kernel_rfl) (by kernel_rfl) (by kernel_rfl) (by kernel_rfl)) ?_
  intro W base args ds gs before hval0 hW _ _
  have hval : ∀ (j : Nat) t v, Try.f7.params[j]? = some t → args[j]? = some v → Value.okWide Try.prog W .any base t v := hval0
  have hW' := hW
  obtain ⟨p, q, hA0, hV, rfl, _, _⟩ := hW
  have hA : DataW.TrodAll enc Try.prog W 0 (fun _ => true) true Try.f7.params.toList args.toList ds p := hA0
  rw [Try.params7] at hA hval
  obtain ⟨v0, vs0, d0, ds0, p0, q0, hargs, rfl, rfl, h0, r0⟩ := trodAll_cons hA
  obtain ⟨v1, vs1, d1, ds1, p1, q1, rfl, rfl, rfl, h1, r1⟩ := trodAll_cons r0
  obtain ⟨rfl, rfl, rfl⟩ := trodAll_nil r1
  obtain rfl : args = #[v0, v1] := by cases args; simp_all
  obtain ⟨hg, hq⟩ := trodVars_none hV
  subst hg; subst hq
  obtain ⟨A0, n0, c0, E0, rfl, m0, s0⟩ := OpenE.openSE (by kernel_rfl) (by kernel_rfl) Try.underlying22 Try.underlying47 Try.underlying2 Try.underlying9 Try.underlying4 (hval 0 22 v0 rfl rfl) h0
  obtain ⟨A1, n1, c1, E1, rfl, m1, s1⟩ := OpenE.openSE (by kernel_rfl) (by kernel_rfl) Try.underlying22 Try.underlying47 Try.underlying2 Try.underlying9 Try.underlying4 (hval 1 22 v1 rfl rfl) h1
  clear hA0 hval0 hA r0
  have fin : Calls Try.checked.prog 7 #[.slice A0 n0 c0, .slice A1 n1 c1] W fun r w' => r = .returned (.bool true) ∧ Below W.heap.size W w' := by
    rcases Nat.lt_or_ge 1048576 n0 with hb0 | hb0
    · exact walk_big0 A0 n0 c0 E0 A1 n1 c1 E1 W m0 hb0
    rcases Nat.lt_or_ge 1048576 n1 with hb1 | hb1
    · exact walk_big1 A0 n0 c0 E0 A1 n1 c1 E1 W hb0 (s0 hb0).1 (s0 hb0).2 m1 hb1
    exact walk A0 n0 c0 E0 A1 n1 c1 E1 W hb0 (s0 hb0).1 (s0 hb0).2 hb1 (s1 hb1).1 (s1 hb1).2
  refine fin.mono fun e W' ⟨he, hb⟩ => ?_
  subst he
  exact ⟨_, rfl, Base.lawPost Open.laidOut (of_decide_eq_true (by kernel_rfl)) rfl Try.underlying4 rfl rfl hW' hb⟩

theorem holds : Rows.FnExactMergeEstimatesSaid :=
  OpenClaim.holds_of_wide 7 Try.f7 rfl rfl rfl rfl rfl rfl rfl ⟨rfl, rfl, rfl, rfl, rfl⟩ rfl rfl rfl rfl rfl (by kernel_rfl) Try.func7 (by kernel_rfl)
    (of_decide_eq_true (by kernel_rfl)) (by unfold Func.isWrapper; first | (rw [if_pos (by decide +kernel)]; kernel_rfl) | (rw [if_neg (by decide +kernel)]; exact ⟨rfl, rfl⟩))
    (fun os started H enc _ => lifted os started H enc)
#print axioms holds
end Go.Proofs.Ythojfmlnnclghaa.LMergeEstimates
