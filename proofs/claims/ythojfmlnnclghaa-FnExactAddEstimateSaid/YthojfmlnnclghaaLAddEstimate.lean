/- FnExactAddEstimate: for every input the law returns true, and its arguments read behind the call as before. No condition. -/
import Derived.Test.YthojfmlnnclghaaAdE
import Derived.Test.YthojfmlnnclghaaOpenV
import Derived.Test.YthojfmlnnclghaaHelp
import Derived.Test.YthojfmlnnclghaaOpen
import Derived.Test.YthojfmlnnclghaaRows
import Derived.Test.YthojfmlnnclghaaOpenE
import Derived.Test.YthojfmlnnclghaaMkE
import Derived.Deep.RegionHeld3
namespace Go.Proofs.Ythojfmlnnclghaa.LAddEstimate
set_option linter.unusedVariables false
set_option linter.unusedSimpArgs false
open Go.ChangeShapes Go.WideShapes Go.ChangeAt Go.RowKit Go.Joins Plain View Est

set_option maxHeartbeats 3200000 in
theorem walk (A0 : Option Addr) (n0 c0 : Nat) (E0 : Nat → E5) (a1 : E5) (w : World) (hz1 : a1.s.size ≤ 9223372036854775807 ∧ a1.o.size ≤ 9223372036854775807) (hnn0 : n0 ≤ 1048576) (hv0 : Sl w 5 A0 n0 c0 (f5 E0)) (hs0 : ∀ i, i < n0 → (E0 i).s.size ≤ 9223372036854775807 ∧ (E0 i).o.size ≤ 9223372036854775807) :
    Calls Try.prog 6 #[.slice A0 n0 c0, est a1] w fun r w' => r = .returned (.bool true) ∧ Below w.heap.size w w' := by
  obtain ⟨t, s, o, m, z⟩ := a1
  simp only [est] at hz1 ⊢
  have HTE : Hid (∀ W : World, Calls Try.prog 29 #[.agg #[.int .i64 t, .string s, .string o, .int .i64 m, .bool z]] W fun r w' => r = .returned (.agg #[.int .i64 t, .string s, .string o, .int .i64 m, .bool z]) ∧ Below W.heap.size W w') := Lib.hid (fun W => Est.c_toEstimate ⟨t, s, o, m, z⟩ W)
  have HSZ0 := Lib.hid (fun (W : World) (hW : Sl W 5 A0 n0 c0 (f5 E0)) => Est.c_szEstimateS A0 n0 c0 E0 1048576 W hW hs0 (by omega) (by omega) (by omega))
  rcases Decidable.em (szK E0 (1048576 - n0) n0 < 0) with hneg | hpos
  · rw [n1_neg hneg] at HSZ0
    clear hneg
    go_enter Try.func6, Try.ntmps6
    go_wp2_with fail
    refine (HSZ0.out _ (hv0.below (by repeat' (first | (with_reducible exact Below.refl _ _) | (with_reducible assumption) | (with_reducible refine Base.grow_alloc ?_ _) | (with_reducible refine Base.below_drewN ?_ _) | (with_reducible refine Below.drew ?_) | (with_reducible refine Below.setCell ?_ ?_ _) | go_size)))).mono ?_
    rintro e w' ⟨rfl, hz0⟩
    go_wp2_with fail
    go_ret
    exact ⟨rfl, (by repeat' (first | (with_reducible exact Below.refl _ _) | (with_reducible assumption) | (with_reducible refine Base.via hz0 ?_) | (with_reducible refine Base.grow_alloc ?_ _) | (with_reducible refine Base.below_drewN ?_ _) | (with_reducible refine Below.drew ?_) | (with_reducible refine Below.setCell ?_ ?_ _) | go_size))⟩
  rw [n1_pos hpos] at HSZ0
  have hq0 : 0 ≤ szK E0 (1048576 - n0) n0 := by omega
  have hq0' := szK_le E0 (1048576 - n0) n0
  generalize szK E0 (1048576 - n0) n0 = z0 at *
  clear hpos
  have HSZ1 : Hid (∀ W : World, Calls Try.prog 27 #[.agg #[.int .i64 t, .string s, .string o, .int .i64 m, .bool z], .int .i64 z0] W fun r w' => r = .returned (.int .i64 (n1 (z0 - s.size - o.size))) ∧ Below W.heap.size W w') := Lib.hid (fun W => Est.c_szEstimate ⟨t, s, o, m, z⟩ z0 W (by omega) (by omega) hz1.1 hz1.2)
  rcases Decidable.em (z0 - s.size - o.size < 0) with hneg | hpos
  · rw [n1_neg hneg] at HSZ1
    clear hneg
    go_enter Try.func6, Try.ntmps6
    go_wp2_with fail
    obtain ⟨wb, hwb⟩ : ∃ wb : World, wb = w.alloc (.cells #[.int .i64 t, .string s, .string o, .int .i64 m, .bool z] 47) := ⟨_, rfl⟩
    have k0 : wb.cell? ⟨w.heap.size, 0, none⟩ = some (.int .i64 t) := by rw [hwb]; simp [go_sem]
    have k1 : wb.cell? ⟨w.heap.size, 1, none⟩ = some (.string s) := by rw [hwb]; simp [go_sem]
    have k2 : wb.cell? ⟨w.heap.size, 2, none⟩ = some (.string o) := by rw [hwb]; simp [go_sem]
    have k3 : wb.cell? ⟨w.heap.size, 3, none⟩ = some (.int .i64 m) := by rw [hwb]; simp [go_sem]
    have k4 : wb.cell? ⟨w.heap.size, 4, none⟩ = some (.bool z) := by rw [hwb]; simp [go_sem]
    have hbx : Below w.heap.size w wb := by rw [hwb]; exact (by repeat' (first | (with_reducible exact Below.refl _ _) | (with_reducible assumption) | (with_reducible refine Base.grow_alloc ?_ _) | (with_reducible refine Base.below_drewN ?_ _) | (with_reducible refine Below.drew ?_) | (with_reducible refine Below.setCell ?_ ?_ _) | go_size))
    have hzx : w.heap.size + 1 ≤ wb.heap.size := by rw [hwb]; simp
    rw [← hwb]
    clear hwb
    have HK := Lib.hid (fun (W : World) (hW : Below wb.heap.size wb W) => (⟨cell_call hW k0, cell_call hW k1, cell_call hW k2, cell_call hW k3, cell_call hW k4⟩ : _ ∧ _ ∧ _ ∧ _ ∧ _))
    clear k0 k1 k2 k3 k4
    refine (HSZ0.out _ (hv0.below hbx)).mono ?_
    rintro e wz ⟨rfl, hz0⟩
    obtain ⟨k0, k1, k2, k3, k4⟩ := HK.out wz hz0
    go_wp2_with fail
    refine (HSZ1.out _).mono ?_
    rintro e wy ⟨rfl, hy0⟩
    clear k0 k1 k2 k3 k4
    go_wp2_with fail
    go_ret
    exact ⟨rfl, (by repeat' (first | (with_reducible exact Below.refl _ _) | (with_reducible assumption) | (with_reducible refine Base.via hy0 ?_) | (with_reducible refine Base.via hz0 ?_) | (with_reducible refine Base.via hbx ?_) | (with_reducible refine Base.grow_alloc ?_ _) | (with_reducible refine Base.below_drewN ?_ _) | (with_reducible refine Below.drew ?_) | (with_reducible refine Below.setCell ?_ ?_ _) | go_size))⟩
  rw [n1_pos hpos] at HSZ1
  have hq1 : 0 ≤ z0 - s.size - o.size := by omega
  generalize z0 - s.size - o.size = z1 at *
  clear hpos
  go_enter Try.func6, Try.ntmps6
  go_wp2_with fail
  obtain ⟨wb, hwb⟩ : ∃ wb : World, wb = w.alloc (.cells #[.int .i64 t, .string s, .string o, .int .i64 m, .bool z] 47) := ⟨_, rfl⟩
  have k0 : wb.cell? ⟨w.heap.size, 0, none⟩ = some (.int .i64 t) := by rw [hwb]; simp [go_sem]
  have k1 : wb.cell? ⟨w.heap.size, 1, none⟩ = some (.string s) := by rw [hwb]; simp [go_sem]
  have k2 : wb.cell? ⟨w.heap.size, 2, none⟩ = some (.string o) := by rw [hwb]; simp [go_sem]
  have k3 : wb.cell? ⟨w.heap.size, 3, none⟩ = some (.int .i64 m) := by rw [hwb]; simp [go_sem]
  have k4 : wb.cell? ⟨w.heap.size, 4, none⟩ = some (.bool z) := by rw [hwb]; simp [go_sem]
  have hbx : Below w.heap.size w wb := by rw [hwb]; exact (by repeat' (first | (with_reducible exact Below.refl _ _) | (with_reducible assumption) | (with_reducible refine Base.grow_alloc ?_ _) | (with_reducible refine Base.below_drewN ?_ _) | (with_reducible refine Below.drew ?_) | (with_reducible refine Below.setCell ?_ ?_ _) | go_size))
  have hzx : w.heap.size + 1 ≤ wb.heap.size := by rw [hwb]; simp
  rw [← hwb]
  clear hwb
  have HK := Lib.hid (fun (W : World) (hW : Below wb.heap.size wb W) => (⟨cell_call hW k0, cell_call hW k1, cell_call hW k2, cell_call hW k3, cell_call hW k4⟩ : _ ∧ _ ∧ _ ∧ _ ∧ _))
  clear k0 k1 k2 k3 k4
  refine (HSZ0.out _ (hv0.below hbx)).mono ?_
  rintro e wz ⟨rfl, hz0⟩
  obtain ⟨k0, k1, k2, k3, k4⟩ := HK.out wz hz0
  go_wp2_with fail
  refine (HSZ1.out _).mono ?_
  rintro e wy ⟨rfl, hy0⟩
  clear k0 k1 k2 k3 k4
  obtain ⟨k0, k1, k2, k3, k4⟩ := HK.out wy (by repeat' (first | (with_reducible exact Below.refl _ _) | (with_reducible assumption) | (with_reducible refine Base.via hy0 ?_) | (with_reducible refine Base.via hz0 ?_) | (with_reducible refine Base.grow_alloc ?_ _) | (with_reducible refine Base.below_drewN ?_ _) | (with_reducible refine Below.drew ?_) | (with_reducible refine Below.setCell ?_ ?_ _) | go_size))
  have HS : ∀ W : World, Below wy.heap.size wy W → (W.cell? ⟨w.heap.size, 0, none⟩ = some (.int .i64 t) ∧ W.cell? ⟨w.heap.size, 1, none⟩ = some (.string s) ∧ W.cell? ⟨w.heap.size, 2, none⟩ = some (.string o) ∧ W.cell? ⟨w.heap.size, 3, none⟩ = some (.int .i64 m) ∧ W.cell? ⟨w.heap.size, 4, none⟩ = some (.bool z)) ∧ Below wy.heap.size wy W := fun W hW => ⟨⟨cell_call hW k0, cell_call hW k1, cell_call hW k2, cell_call hW k3, cell_call hW k4⟩, hW⟩
  have hz_wy := hzx
  clear k0 k1 k2 k3 k4
  go_wp2_with fail
  refine wp_region_held_drew (S := (fun W => (W.cell? ⟨w.heap.size, 0, none⟩ = some (.int .i64 t) ∧ W.cell? ⟨w.heap.size, 1, none⟩ = some (.string s) ∧ W.cell? ⟨w.heap.size, 2, none⟩ = some (.string o) ∧ W.cell? ⟨w.heap.size, 3, none⟩ = some (.int .i64 m) ∧ W.cell? ⟨w.heap.size, 4, none⟩ = some (.bool z)) ∧ Below wy.heap.size wy W)) (by kernel_rfl) (by (try dsimp only); (exact HS _ (by repeat' (first | (with_reducible exact Below.refl _ _) | (with_reducible assumption) | (with_reducible refine Base.via hb3 ?_) | (with_reducible refine Base.via hb2 ?_) | (with_reducible refine Base.via hb1 ?_) | (with_reducible refine Base.grow_alloc ?_ _) | (with_reducible refine Base.below_drewN ?_ _) | (with_reducible refine Below.drew ?_) | (with_reducible refine Below.setCell ?_ ?_ _) | go_size)))) (fun hHeld => ?_)
  refine wpAnyH_take (i := 0) (oi := ⟨some 27, _, _, _, _, _⟩) (v := ?_) rfl (by kernel_rfl) (by kernel_rfl) (by kernel_rfl) (fun _ _ _ h => h) (Or.inl ⟨by rfl, ?_⟩) (by assumption) ?_
  rotate_left
  · (intro w' hSw; (try dsimp only at hSw); go_simp; try with_reducible rfl)
  try simp only [Act.put, List.setIfInBounds_toArray, List.set_cons_zero, List.set_cons_succ]
  refine wpAnyH_take (i := 2) (oi := ⟨some 29, _, _, _, _, _⟩) (v := ?_) rfl (by kernel_rfl) (by kernel_rfl) (by kernel_rfl) (fun _ _ _ h => h) (Or.inl ⟨by rfl, ?_⟩) (by assumption) ?_
  rotate_left
  · (intro w' hSw; (try dsimp only at hSw); go_simp; try with_reducible rfl)
  try simp only [Act.put, List.setIfInBounds_toArray, List.set_cons_zero, List.set_cons_succ]
  refine wpAnyH_ready (rs := [1]) (by kernel_rfl) (by simp) ?_
  refine AllReadyH.cons (o := ⟨some 28, _, _, _, _, _⟩) rfl (fun K hK => ?_) AllReadyH.nil
  go_simp
  (go_at_call 10; refine (Est.c_toEstimateS A0 n0 c0 E0 _ (hv0.below (by repeat' (first | (with_reducible exact Below.refl _ _) | (with_reducible assumption) | (with_reducible refine Base.via hy0 ?_) | (with_reducible refine Base.via hz0 ?_) | (with_reducible refine Base.via hbx ?_) | (with_reducible refine Base.grow_alloc ?_ _) | (with_reducible refine Base.below_drewN ?_ _) | (with_reducible refine Below.drew ?_) | (with_reducible refine Below.setCell ?_ ?_ _) | go_size)))).mono ?_; rintro e w1 ⟨g1, rfl, qg1, r1, hb1⟩)
  refine hK.out _ _ (by (try dsimp only); (exact HS _ (by repeat' (first | (with_reducible exact Below.refl _ _) | (with_reducible assumption) | (with_reducible refine Base.via hb3 ?_) | (with_reducible refine Base.via hb2 ?_) | (with_reducible refine Base.via hb1 ?_) | (with_reducible refine Base.grow_alloc ?_ _) | (with_reducible refine Base.below_drewN ?_ _) | (with_reducible refine Below.drew ?_) | (with_reducible refine Below.setCell ?_ ?_ _) | go_size)))) (fun hHeld => ?_)
  clear hK K
  try simp only [Act.put, List.setIfInBounds_toArray, List.set_cons_zero, List.set_cons_succ]
  refine wpAnyH_ready (rs := [3]) (by kernel_rfl) (by simp) ?_
  refine AllReadyH.cons (o := ⟨some 30, _, _, _, _, _⟩) rfl (fun K hK => ?_) AllReadyH.nil
  go_simp
  (go_at_call 29; refine (HTE.out _).mono ?_; rintro e w2 ⟨rfl, hb2⟩)
  refine hK.out _ _ (by (try dsimp only); (exact HS _ (by repeat' (first | (with_reducible exact Below.refl _ _) | (with_reducible assumption) | (with_reducible refine Base.via hb3 ?_) | (with_reducible refine Base.via hb2 ?_) | (with_reducible refine Base.via hb1 ?_) | (with_reducible refine Base.grow_alloc ?_ _) | (with_reducible refine Base.below_drewN ?_ _) | (with_reducible refine Below.drew ?_) | (with_reducible refine Below.setCell ?_ ?_ _) | go_size)))) (fun hHeld => ?_)
  clear hK K
  try simp only [Act.put, List.setIfInBounds_toArray, List.set_cons_zero, List.set_cons_succ]
  refine wpAnyH_ready (rs := [4]) (by kernel_rfl) (by simp) ?_
  refine AllReadyH.cons (o := ⟨some 31, _, _, _, _, _⟩) rfl (fun K hK => ?_) AllReadyH.nil
  go_simp
  (go_at_call 28; refine (AdE.c_specAddEstimate g1 0 n0 n0 E0 ⟨t, s, o, m, z⟩ _ ((r1.view (c := n0) hnn0 (Nat.le_refl _) (by omega)).below (by repeat' (first | (with_reducible exact Below.refl _ _) | (with_reducible assumption) | (with_reducible refine Base.via hb2 ?_) | (with_reducible refine Base.grow_alloc ?_ _) | (with_reducible refine Base.below_drewN ?_ _) | (with_reducible refine Below.drew ?_) | (with_reducible refine Below.setCell ?_ ?_ _) | go_size)))).mono ?_; rintro e w3 ⟨u3, rfl, o3, hb3⟩)
  refine hK.out _ _ (by (try dsimp only); (exact HS _ (by repeat' (first | (with_reducible exact Below.refl _ _) | (with_reducible assumption) | (with_reducible refine Base.via hb3 ?_) | (with_reducible refine Base.via hb2 ?_) | (with_reducible refine Base.via hb1 ?_) | (with_reducible refine Base.grow_alloc ?_ _) | (with_reducible refine Base.below_drewN ?_ _) | (with_reducible refine Below.drew ?_) | (with_reducible refine Below.setCell ?_ ?_ _) | go_size)))) (fun hHeld => ?_)
  clear hK K
  try simp only [Act.put, List.setIfInBounds_toArray, List.set_cons_zero, List.set_cons_succ]
  refine wpAnyH_take (i := 5) (oi := ⟨some 26, _, _, _, _, _⟩) (v := ?_) rfl (by kernel_rfl) (by kernel_rfl) (by kernel_rfl) (fun _ _ _ h => h) (Or.inl ⟨by rfl, ?_⟩) (by assumption) ?_
  rotate_left
  · (intro w' hSw; (try dsimp only at hSw); go_simp; try with_reducible rfl)
  try simp only [Act.put, List.setIfInBounds_toArray, List.set_cons_zero, List.set_cons_succ]
  refine wpAnyH_take (i := 6) (oi := ⟨some 32, _, _, _, _, _⟩) (v := ?_) rfl (by kernel_rfl) (by kernel_rfl) (by kernel_rfl) (fun _ _ _ h => h) (Or.inl ⟨by rfl, ?_⟩) (by assumption) ?_
  rotate_left
  · (intro w' hSw; (try dsimp only at hSw); go_simp; try with_reducible rfl)
  try simp only [Act.put, List.setIfInBounds_toArray, List.set_cons_zero, List.set_cons_succ]
  refine wpAnyH_take (i := 7) (oi := ⟨some 33, _, _, _, _, _⟩) (v := ?_) rfl (by kernel_rfl) (by kernel_rfl) (by kernel_rfl) (fun _ _ _ h => h) (Or.inl ⟨by rfl, ?_⟩) (by assumption) ?_
  rotate_left
  · (intro w' hSw; (try dsimp only at hSw); go_simp; try with_reducible rfl)
  try simp only [Act.put, List.setIfInBounds_toArray, List.set_cons_zero, List.set_cons_succ]
  refine wpAnyH_take (i := 8) (oi := ⟨some 6, _, _, _, _, _⟩) (v := ?_) rfl (by kernel_rfl) (by kernel_rfl) (by kernel_rfl) (fun _ _ _ h => h) (Or.inl ⟨by rfl, ?_⟩) (by assumption) ?_
  rotate_left
  · (intro w' hSw; (try dsimp only at hSw); go_simp; try with_reducible rfl)
  try simp only [Act.put, List.setIfInBounds_toArray, List.set_cons_zero, List.set_cons_succ]
  refine wpAnyH_take (i := 9) (oi := ⟨some 7, _, _, _, _, _⟩) (v := ?_) rfl (by kernel_rfl) (by kernel_rfl) (by kernel_rfl) (fun _ _ _ h => h) (Or.inl ⟨by rfl, ?_⟩) (by assumption) ?_
  rotate_left
  · (intro w' hSw; (try dsimp only at hSw); go_simp; try with_reducible rfl)
  try simp only [Act.put, List.setIfInBounds_toArray, List.set_cons_zero, List.set_cons_succ]
  refine wpAnyH_done (by kernel_rfl) ?_ _
  have hr3 : Below wy.heap.size wy w3 := (‹_ ∧ Below wy.heap.size wy w3›).2
  have hl3 : wy.heap.size ≤ w2.heap.size := Nat.le_trans hb1.size hb2.size
  clear hHeld HS hb1 hb2 hb3
  obtain ⟨A3', C3', rfl, V3', _⟩ := o3.view
  go_wp2_with fail
  refine (Est.c_toEstimateS A0 n0 c0 E0 _ (hv0.below (by repeat' (first | (with_reducible exact Below.refl _ _) | (with_reducible assumption) | (with_reducible refine Base.via hr3 ?_) | (with_reducible refine Base.via hy0 ?_) | (with_reducible refine Base.via hz0 ?_) | (with_reducible refine Base.via hbx ?_) | (with_reducible refine Base.grow_alloc ?_ _) | (with_reducible refine Base.below_drewN ?_ _) | (with_reducible refine Below.drew ?_) | (with_reducible refine Below.setCell ?_ ?_ _) | go_size)))).mono ?_
  rintro e w4 ⟨g4, rfl, qg4, r4, hb4⟩
  have v4 := r4.view (c := n0) hnn0 (Nat.le_refl _) (by omega)
  have o4 := OwnK.of_row hnn0 qg4 r4
  obtain ⟨k0, k1, k2, k3, k4⟩ := HK.out w4 (by repeat' (first | (with_reducible exact Below.refl _ _) | (with_reducible assumption) | (with_reducible refine Base.via hb4 ?_) | (with_reducible refine Base.via hr3 ?_) | (with_reducible refine Base.via hy0 ?_) | (with_reducible refine Base.via hz0 ?_) | (with_reducible refine Base.grow_alloc ?_ _) | (with_reducible refine Base.below_drewN ?_ _) | (with_reducible refine Below.drew ?_) | (with_reducible refine Below.setCell ?_ ?_ _) | go_size))
  go_wp2_with fail
  refine (HTE.out _).mono ?_
  rintro e w5 ⟨rfl, hb5⟩
  clear k0 k1 k2 k3 k4
  go_wp2_with fail
  refine (AdE.c_AddEstimate g4 0 n0 n0 E0 ⟨t, s, o, m, z⟩ _ (v4.below (by repeat' (first | (with_reducible exact Below.refl _ _) | (with_reducible assumption) | (with_reducible refine Base.via hb5 ?_) | (with_reducible refine Base.grow_alloc ?_ _) | (with_reducible refine Base.below_drewN ?_ _) | (with_reducible refine Below.drew ?_) | (with_reducible refine Below.setCell ?_ ?_ _) | go_size)))).mono ?_
  rintro e w6 ⟨u6, rfl, o6, hb6⟩
  obtain ⟨A6', C6', rfl, V6', _⟩ := o6.view
  go_wp2_with fail
  refine (Est.c_eqEstimateS _ _ _ _ _ _ _ (o6.below (by repeat' (first | (with_reducible exact Below.refl _ _) | (with_reducible assumption) | (with_reducible refine Base.grow_alloc ?_ _) | (with_reducible refine Base.below_drewN ?_ _) | (with_reducible refine Below.drew ?_) | (with_reducible refine Below.setCell ?_ ?_ _) | go_size))).sl (o3.below (by repeat' (first | (with_reducible exact Below.refl _ _) | (with_reducible assumption) | (with_reducible refine Base.via hb6 ?_) | (with_reducible refine Base.via hb5 ?_) | (with_reducible refine Base.via hb4 ?_) | (with_reducible refine Base.grow_alloc ?_ _) | (with_reducible refine Base.below_drewN ?_ _) | (with_reducible refine Below.drew ?_) | (with_reducible refine Below.setCell ?_ ?_ _) | go_size))).sl).mono ?_
  rintro e w7 ⟨rfl, hb7⟩
  go_wp2_with fail
  refine (Est.c_toEstimateS A0 n0 c0 E0 _ (hv0.below (by repeat' (first | (with_reducible exact Below.refl _ _) | (with_reducible assumption) | (with_reducible refine Base.via hb7 ?_) | (with_reducible refine Base.via hb6 ?_) | (with_reducible refine Base.via hb5 ?_) | (with_reducible refine Base.via hb4 ?_) | (with_reducible refine Base.via hr3 ?_) | (with_reducible refine Base.via hy0 ?_) | (with_reducible refine Base.via hz0 ?_) | (with_reducible refine Base.via hbx ?_) | (with_reducible refine Base.grow_alloc ?_ _) | (with_reducible refine Base.below_drewN ?_ _) | (with_reducible refine Below.drew ?_) | (with_reducible refine Below.setCell ?_ ?_ _) | go_size)))).mono ?_
  rintro e w8 ⟨g8, rfl, qg8, r8, hb8⟩
  have v8 := r8.view (c := n0) hnn0 (Nat.le_refl _) (by omega)
  have o8 := OwnK.of_row hnn0 qg8 r8
  go_wp2_with fail
  refine (Est.c_eqEstimateS _ _ _ _ _ E0 _ (v4.below (by repeat' (first | (with_reducible exact Below.refl _ _) | (with_reducible assumption) | (with_reducible refine Base.via hb8 ?_) | (with_reducible refine Base.via hb7 ?_) | (with_reducible refine Base.via hb6 ?_) | (with_reducible refine Base.via hb5 ?_) | (with_reducible refine Base.grow_alloc ?_ _) | (with_reducible refine Base.below_drewN ?_ _) | (with_reducible refine Below.drew ?_) | (with_reducible refine Below.setCell ?_ ?_ _) | go_size))) (v8.below (by repeat' (first | (with_reducible exact Below.refl _ _) | (with_reducible assumption) | (with_reducible refine Base.grow_alloc ?_ _) | (with_reducible refine Base.below_drewN ?_ _) | (with_reducible refine Below.drew ?_) | (with_reducible refine Below.setCell ?_ ?_ _) | go_size)))).mono ?_
  rintro e w9 ⟨rfl, hb9⟩
  have t10 : Below w.heap.size w w9 := (by repeat' (first | (with_reducible exact Below.refl _ _) | (with_reducible assumption) | (with_reducible refine Base.via hb9 ?_) | (with_reducible refine Base.via hb8 ?_) | (with_reducible refine Base.via hb7 ?_) | (with_reducible refine Base.via hb6 ?_) | (with_reducible refine Base.via hb5 ?_) | (with_reducible refine Base.via hb4 ?_) | (with_reducible refine Base.via hr3 ?_) | (with_reducible refine Base.via hy0 ?_) | (with_reducible refine Base.via hz0 ?_) | (with_reducible refine Base.via hbx ?_) | (with_reducible refine Base.grow_alloc ?_ _) | (with_reducible refine Base.below_drewN ?_ _) | (with_reducible refine Below.drew ?_) | (with_reducible refine Below.setCell ?_ ?_ _) | go_size))
  go_wp2_with fail
  refine (MkE.c_markEstimateS _ _ _ _ 1 _ (o4.below (by repeat' (first | (with_reducible exact Below.refl _ _) | (with_reducible assumption) | (with_reducible refine Base.via hb9 ?_) | (with_reducible refine Base.via hb8 ?_) | (with_reducible refine Base.via hb7 ?_) | (with_reducible refine Base.via hb6 ?_) | (with_reducible refine Base.via hb5 ?_) | (with_reducible refine Base.grow_alloc ?_ _) | (with_reducible refine Base.below_drewN ?_ _) | (with_reducible refine Below.drew ?_) | (with_reducible refine Below.setCell ?_ ?_ _) | go_size))) (by omega)).mono ?_
  rintro e w10 ⟨rfl, m10, g10⟩
  have hb10 := below_marked t10 g10 o4.blk (by have s0 := hbx.size; have s1 := hz0.size; have s2 := hy0.size; have s3 := hr3.size; have s4 := hl3; have s5 := hb4.size; have s6 := hb5.size; have s7 := hb6.size; have s8 := hb7.size; have s9 := hb8.size; have s10 := hb9.size; omega) t10.size
  have T10_3 := (o3.below (by repeat' (first | (with_reducible exact Below.refl _ _) | (with_reducible assumption) | (with_reducible refine Base.via hb9 ?_) | (with_reducible refine Base.via hb8 ?_) | (with_reducible refine Base.via hb7 ?_) | (with_reducible refine Base.via hb6 ?_) | (with_reducible refine Base.via hb5 ?_) | (with_reducible refine Base.via hb4 ?_) | (with_reducible refine Base.grow_alloc ?_ _) | (with_reducible refine Base.below_drewN ?_ _) | (with_reducible refine Below.drew ?_) | (with_reducible refine Below.setCell ?_ ?_ _) | go_size))).marked o3.blk g10 o4.blk (by have s0 := hbx.size; have s1 := hz0.size; have s2 := hy0.size; have s3 := hr3.size; have s4 := hl3; have s5 := hb4.size; have s6 := hb5.size; have s7 := hb6.size; have s8 := hb7.size; have s9 := hb8.size; have s10 := hb9.size; omega)
  have T10_6 := (o6.below (by repeat' (first | (with_reducible exact Below.refl _ _) | (with_reducible assumption) | (with_reducible refine Base.via hb9 ?_) | (with_reducible refine Base.via hb8 ?_) | (with_reducible refine Base.via hb7 ?_) | (with_reducible refine Base.grow_alloc ?_ _) | (with_reducible refine Base.below_drewN ?_ _) | (with_reducible refine Below.drew ?_) | (with_reducible refine Below.setCell ?_ ?_ _) | go_size))).marked o6.blk g10 o4.blk (by have s0 := hbx.size; have s1 := hz0.size; have s2 := hy0.size; have s3 := hr3.size; have s4 := hl3; have s5 := hb4.size; have s6 := hb5.size; have s7 := hb6.size; have s8 := hb7.size; have s9 := hb8.size; have s10 := hb9.size; omega)
  have tB10 : Below wb.heap.size wb w9 := (by repeat' (first | (with_reducible exact Below.refl _ _) | (with_reducible assumption) | (with_reducible refine Base.via hb9 ?_) | (with_reducible refine Base.via hb8 ?_) | (with_reducible refine Base.via hb7 ?_) | (with_reducible refine Base.via hb6 ?_) | (with_reducible refine Base.via hb5 ?_) | (with_reducible refine Base.via hb4 ?_) | (with_reducible refine Base.via hr3 ?_) | (with_reducible refine Base.via hy0 ?_) | (with_reducible refine Base.via hz0 ?_) | (with_reducible refine Base.grow_alloc ?_ _) | (with_reducible refine Base.below_drewN ?_ _) | (with_reducible refine Below.drew ?_) | (with_reducible refine Below.setCell ?_ ?_ _) | go_size))
  have hB10 := below_marked tB10 g10 o4.blk (by have s0 := hbx.size; have s1 := hz0.size; have s2 := hy0.size; have s3 := hr3.size; have s4 := hl3; have s5 := hb4.size; have s6 := hb5.size; have s7 := hb6.size; have s8 := hb7.size; have s9 := hb8.size; have s10 := hb9.size; omega) tB10.size
  go_wp2_with fail
  refine (Est.c_eqEstimateS _ _ _ _ _ _ _ (T10_6.below (by repeat' (first | (with_reducible exact Below.refl _ _) | (with_reducible assumption) | (with_reducible refine Base.grow_alloc ?_ _) | (with_reducible refine Base.below_drewN ?_ _) | (with_reducible refine Below.drew ?_) | (with_reducible refine Below.setCell ?_ ?_ _) | go_size))).sl (T10_3.below (by repeat' (first | (with_reducible exact Below.refl _ _) | (with_reducible assumption) | (with_reducible refine Base.grow_alloc ?_ _) | (with_reducible refine Base.below_drewN ?_ _) | (with_reducible refine Below.drew ?_) | (with_reducible refine Below.setCell ?_ ?_ _) | go_size))).sl).mono ?_
  rintro e w11 ⟨rfl, hb11⟩
  have t12 : Below w.heap.size w w11 := (by repeat' (first | (with_reducible exact Below.refl _ _) | (with_reducible assumption) | (with_reducible refine Base.via hb11 ?_) | (with_reducible refine Base.via hb10 ?_) | (with_reducible refine Base.grow_alloc ?_ _) | (with_reducible refine Base.below_drewN ?_ _) | (with_reducible refine Below.drew ?_) | (with_reducible refine Below.setCell ?_ ?_ _) | go_size))
  go_wp2_with fail
  refine (MkE.c_markEstimateS _ _ _ _ 1 _ (T10_6.below (by repeat' (first | (with_reducible exact Below.refl _ _) | (with_reducible assumption) | (with_reducible refine Base.via hb11 ?_) | (with_reducible refine Base.grow_alloc ?_ _) | (with_reducible refine Base.below_drewN ?_ _) | (with_reducible refine Below.drew ?_) | (with_reducible refine Below.setCell ?_ ?_ _) | go_size))) (by omega)).mono ?_
  rintro e w12 ⟨rfl, m12, g12⟩
  have hb12 := below_marked t12 g12 o6.blk (by have s0 := hbx.size; have s1 := hz0.size; have s2 := hy0.size; have s3 := hr3.size; have s4 := hl3; have s5 := hb4.size; have s6 := hb5.size; have s7 := hb6.size; have s8 := hb7.size; have s9 := hb8.size; have s10 := hb9.size; have s11 := g10.size; have s12 := hb10.size; have s13 := hb11.size; omega) t12.size
  have T12_3 := (T10_3.below (by repeat' (first | (with_reducible exact Below.refl _ _) | (with_reducible assumption) | (with_reducible refine Base.via hb11 ?_) | (with_reducible refine Base.grow_alloc ?_ _) | (with_reducible refine Base.below_drewN ?_ _) | (with_reducible refine Below.drew ?_) | (with_reducible refine Below.setCell ?_ ?_ _) | go_size))).marked o3.blk g12 o6.blk (by have s0 := hbx.size; have s1 := hz0.size; have s2 := hy0.size; have s3 := hr3.size; have s4 := hl3; have s5 := hb4.size; have s6 := hb5.size; have s7 := hb6.size; have s8 := hb7.size; have s9 := hb8.size; have s10 := hb9.size; have s11 := g10.size; have s12 := hb10.size; have s13 := hb11.size; omega)
  have tB12 : Below wb.heap.size wb w11 := (by repeat' (first | (with_reducible exact Below.refl _ _) | (with_reducible assumption) | (with_reducible refine Base.via hb11 ?_) | (with_reducible refine Base.via hB10 ?_) | (with_reducible refine Base.grow_alloc ?_ _) | (with_reducible refine Base.below_drewN ?_ _) | (with_reducible refine Below.drew ?_) | (with_reducible refine Below.setCell ?_ ?_ _) | go_size))
  have hB12 := below_marked tB12 g12 o6.blk (by have s0 := hbx.size; have s1 := hz0.size; have s2 := hy0.size; have s3 := hr3.size; have s4 := hl3; have s5 := hb4.size; have s6 := hb5.size; have s7 := hb6.size; have s8 := hb7.size; have s9 := hb8.size; have s10 := hb9.size; have s11 := g10.size; have s12 := hb10.size; have s13 := hb11.size; omega) tB12.size
  go_wp2_with fail
  refine (MkE.c_heldEstimateS _ _ _ 1 _ (m12.below (by repeat' (first | (with_reducible exact Below.refl _ _) | (with_reducible assumption) | (with_reducible refine Base.grow_alloc ?_ _) | (with_reducible refine Base.below_drewN ?_ _) | (with_reducible refine Below.drew ?_) | (with_reducible refine Below.setCell ?_ ?_ _) | go_size))).sl (by omega)).mono ?_
  rintro e w13 ⟨rfl, hb13⟩
  obtain ⟨k0, k1, k2, k3, k4⟩ := HK.out w13 (by repeat' (first | (with_reducible exact Below.refl _ _) | (with_reducible assumption) | (with_reducible refine Base.via hb13 ?_) | (with_reducible refine Base.via hB12 ?_) | (with_reducible refine Base.grow_alloc ?_ _) | (with_reducible refine Base.below_drewN ?_ _) | (with_reducible refine Below.drew ?_) | (with_reducible refine Below.setCell ?_ ?_ _) | go_size))
  have HS : ∀ W : World, Below w13.heap.size w13 W → (W.cell? ⟨w.heap.size, 0, none⟩ = some (.int .i64 t) ∧ W.cell? ⟨w.heap.size, 1, none⟩ = some (.string s) ∧ W.cell? ⟨w.heap.size, 2, none⟩ = some (.string o) ∧ W.cell? ⟨w.heap.size, 3, none⟩ = some (.int .i64 m) ∧ W.cell? ⟨w.heap.size, 4, none⟩ = some (.bool z)) ∧ Below w13.heap.size w13 W := fun W hW => ⟨⟨cell_call hW k0, cell_call hW k1, cell_call hW k2, cell_call hW k3, cell_call hW k4⟩, hW⟩
  have hz_w13 := hzx
  clear k0 k1 k2 k3 k4
  go_wp2_with fail
  refine wp_region_held_drew (S := (fun W => (W.cell? ⟨w.heap.size, 0, none⟩ = some (.int .i64 t) ∧ W.cell? ⟨w.heap.size, 1, none⟩ = some (.string s) ∧ W.cell? ⟨w.heap.size, 2, none⟩ = some (.string o) ∧ W.cell? ⟨w.heap.size, 3, none⟩ = some (.int .i64 m) ∧ W.cell? ⟨w.heap.size, 4, none⟩ = some (.bool z)) ∧ Below w13.heap.size w13 W)) (by kernel_rfl) (by (try dsimp only); (exact HS _ (by repeat' (first | (with_reducible exact Below.refl _ _) | (with_reducible assumption) | (with_reducible refine Base.via hb16 ?_) | (with_reducible refine Base.via hb15 ?_) | (with_reducible refine Base.via hb14 ?_) | (with_reducible refine Base.grow_alloc ?_ _) | (with_reducible refine Base.below_drewN ?_ _) | (with_reducible refine Below.drew ?_) | (with_reducible refine Below.setCell ?_ ?_ _) | go_size)))) (fun hHeld => ?_)
  refine wpAnyH_take (i := 0) (oi := ⟨some 85, _, _, _, _, _⟩) (v := ?_) rfl (by kernel_rfl) (by kernel_rfl) (by kernel_rfl) (fun _ _ _ h => h) (Or.inl ⟨by rfl, ?_⟩) (by assumption) ?_
  rotate_left
  · (intro w' hSw; (try dsimp only at hSw); go_simp; try with_reducible rfl)
  try simp only [Act.put, List.setIfInBounds_toArray, List.set_cons_zero, List.set_cons_succ]
  refine wpAnyH_take (i := 2) (oi := ⟨some 87, _, _, _, _, _⟩) (v := ?_) rfl (by kernel_rfl) (by kernel_rfl) (by kernel_rfl) (fun _ _ _ h => h) (Or.inl ⟨by rfl, ?_⟩) (by assumption) ?_
  rotate_left
  · (intro w' hSw; (try dsimp only at hSw); go_simp; try with_reducible rfl)
  try simp only [Act.put, List.setIfInBounds_toArray, List.set_cons_zero, List.set_cons_succ]
  refine wpAnyH_ready (rs := [1]) (by kernel_rfl) (by simp) ?_
  refine AllReadyH.cons (o := ⟨some 86, _, _, _, _, _⟩) rfl (fun K hK => ?_) AllReadyH.nil
  go_simp
  (go_at_call 10; refine (Est.c_toEstimateS A0 n0 c0 E0 _ (hv0.below (by repeat' (first | (with_reducible exact Below.refl _ _) | (with_reducible assumption) | (with_reducible refine Base.via hb13 ?_) | (with_reducible refine Base.via hb12 ?_) | (with_reducible refine Base.grow_alloc ?_ _) | (with_reducible refine Base.below_drewN ?_ _) | (with_reducible refine Below.drew ?_) | (with_reducible refine Below.setCell ?_ ?_ _) | go_size)))).mono ?_; rintro e w14 ⟨g14, rfl, qg14, r14, hb14⟩)
  refine hK.out _ _ (by (try dsimp only); (exact HS _ (by repeat' (first | (with_reducible exact Below.refl _ _) | (with_reducible assumption) | (with_reducible refine Base.via hb16 ?_) | (with_reducible refine Base.via hb15 ?_) | (with_reducible refine Base.via hb14 ?_) | (with_reducible refine Base.grow_alloc ?_ _) | (with_reducible refine Base.below_drewN ?_ _) | (with_reducible refine Below.drew ?_) | (with_reducible refine Below.setCell ?_ ?_ _) | go_size)))) (fun hHeld => ?_)
  clear hK K
  try simp only [Act.put, List.setIfInBounds_toArray, List.set_cons_zero, List.set_cons_succ]
  refine wpAnyH_ready (rs := [3]) (by kernel_rfl) (by simp) ?_
  refine AllReadyH.cons (o := ⟨some 88, _, _, _, _, _⟩) rfl (fun K hK => ?_) AllReadyH.nil
  go_simp
  (go_at_call 29; refine (HTE.out _).mono ?_; rintro e w15 ⟨rfl, hb15⟩)
  refine hK.out _ _ (by (try dsimp only); (exact HS _ (by repeat' (first | (with_reducible exact Below.refl _ _) | (with_reducible assumption) | (with_reducible refine Base.via hb16 ?_) | (with_reducible refine Base.via hb15 ?_) | (with_reducible refine Base.via hb14 ?_) | (with_reducible refine Base.grow_alloc ?_ _) | (with_reducible refine Base.below_drewN ?_ _) | (with_reducible refine Below.drew ?_) | (with_reducible refine Below.setCell ?_ ?_ _) | go_size)))) (fun hHeld => ?_)
  clear hK K
  try simp only [Act.put, List.setIfInBounds_toArray, List.set_cons_zero, List.set_cons_succ]
  refine wpAnyH_ready (rs := [4]) (by kernel_rfl) (by simp) ?_
  refine AllReadyH.cons (o := ⟨some 89, _, _, _, _, _⟩) rfl (fun K hK => ?_) AllReadyH.nil
  go_simp
  (go_at_call 30; refine (AdE.c_AddEstimate g14 0 n0 n0 E0 ⟨t, s, o, m, z⟩ _ ((r14.view (c := n0) hnn0 (Nat.le_refl _) (by omega)).below (by repeat' (first | (with_reducible exact Below.refl _ _) | (with_reducible assumption) | (with_reducible refine Base.via hb15 ?_) | (with_reducible refine Base.grow_alloc ?_ _) | (with_reducible refine Base.below_drewN ?_ _) | (with_reducible refine Below.drew ?_) | (with_reducible refine Below.setCell ?_ ?_ _) | go_size)))).mono ?_; rintro e w16 ⟨u16, rfl, o16, hb16⟩)
  refine hK.out _ _ (by (try dsimp only); (exact HS _ (by repeat' (first | (with_reducible exact Below.refl _ _) | (with_reducible assumption) | (with_reducible refine Base.via hb16 ?_) | (with_reducible refine Base.via hb15 ?_) | (with_reducible refine Base.via hb14 ?_) | (with_reducible refine Base.grow_alloc ?_ _) | (with_reducible refine Base.below_drewN ?_ _) | (with_reducible refine Below.drew ?_) | (with_reducible refine Below.setCell ?_ ?_ _) | go_size)))) (fun hHeld => ?_)
  clear hK K
  try simp only [Act.put, List.setIfInBounds_toArray, List.set_cons_zero, List.set_cons_succ]
  refine wpAnyH_take (i := 5) (oi := ⟨some 84, _, _, _, _, _⟩) (v := ?_) rfl (by kernel_rfl) (by kernel_rfl) (by kernel_rfl) (fun _ _ _ h => h) (Or.inl ⟨by rfl, ?_⟩) (by assumption) ?_
  rotate_left
  · (intro w' hSw; (try dsimp only at hSw); go_simp; try with_reducible rfl)
  try simp only [Act.put, List.setIfInBounds_toArray, List.set_cons_zero, List.set_cons_succ]
  refine wpAnyH_take (i := 6) (oi := ⟨some 90, _, _, _, _, _⟩) (v := ?_) rfl (by kernel_rfl) (by kernel_rfl) (by kernel_rfl) (fun _ _ _ h => h) (Or.inl ⟨by rfl, ?_⟩) (by assumption) ?_
  rotate_left
  · (intro w' hSw; (try dsimp only at hSw); go_simp; try with_reducible rfl)
  try simp only [Act.put, List.setIfInBounds_toArray, List.set_cons_zero, List.set_cons_succ]
  refine wpAnyH_take (i := 7) (oi := ⟨some 91, _, _, _, _, _⟩) (v := ?_) rfl (by kernel_rfl) (by kernel_rfl) (by kernel_rfl) (fun _ _ _ h => h) (Or.inl ⟨by rfl, ?_⟩) (by assumption) ?_
  rotate_left
  · (intro w' hSw; (try dsimp only at hSw); go_simp; try with_reducible rfl)
  try simp only [Act.put, List.setIfInBounds_toArray, List.set_cons_zero, List.set_cons_succ]
  refine wpAnyH_take (i := 8) (oi := ⟨some 14, _, _, _, _, _⟩) (v := ?_) rfl (by kernel_rfl) (by kernel_rfl) (by kernel_rfl) (fun _ _ _ h => h) (Or.inl ⟨by rfl, ?_⟩) (by assumption) ?_
  rotate_left
  · (intro w' hSw; (try dsimp only at hSw); go_simp; try with_reducible rfl)
  try simp only [Act.put, List.setIfInBounds_toArray, List.set_cons_zero, List.set_cons_succ]
  refine wpAnyH_take (i := 9) (oi := ⟨some 15, _, _, _, _, _⟩) (v := ?_) rfl (by kernel_rfl) (by kernel_rfl) (by kernel_rfl) (fun _ _ _ h => h) (Or.inl ⟨by rfl, ?_⟩) (by assumption) ?_
  rotate_left
  · (intro w' hSw; (try dsimp only at hSw); go_simp; try with_reducible rfl)
  try simp only [Act.put, List.setIfInBounds_toArray, List.set_cons_zero, List.set_cons_succ]
  refine wpAnyH_done (by kernel_rfl) ?_ _
  have hr16 : Below w13.heap.size w13 w16 := (‹_ ∧ Below w13.heap.size w13 w16›).2
  have hl16 : w13.heap.size ≤ w15.heap.size := Nat.le_trans hb14.size hb15.size
  clear hHeld HS hb14 hb15 hb16
  obtain ⟨A16', C16', rfl, V16', _⟩ := o16.view
  go_wp2_with fail
  refine (Est.c_eqEstimateS _ _ _ _ _ _ _ (o16.below (by repeat' (first | (with_reducible exact Below.refl _ _) | (with_reducible assumption) | (with_reducible refine Base.grow_alloc ?_ _) | (with_reducible refine Base.below_drewN ?_ _) | (with_reducible refine Below.drew ?_) | (with_reducible refine Below.setCell ?_ ?_ _) | go_size))).sl (T12_3.below (by repeat' (first | (with_reducible exact Below.refl _ _) | (with_reducible assumption) | (with_reducible refine Base.via hr16 ?_) | (with_reducible refine Base.via hb13 ?_) | (with_reducible refine Base.grow_alloc ?_ _) | (with_reducible refine Base.below_drewN ?_ _) | (with_reducible refine Below.drew ?_) | (with_reducible refine Below.setCell ?_ ?_ _) | go_size))).sl).mono ?_
  rintro e w17 ⟨rfl, hb17⟩
  go_wp2_with fail
  refine (MkE.c_heldEstimateS _ _ _ 1 _ (m12.below (by repeat' (first | (with_reducible exact Below.refl _ _) | (with_reducible assumption) | (with_reducible refine Base.via hb17 ?_) | (with_reducible refine Base.via hr16 ?_) | (with_reducible refine Base.via hb13 ?_) | (with_reducible refine Base.grow_alloc ?_ _) | (with_reducible refine Base.below_drewN ?_ _) | (with_reducible refine Below.drew ?_) | (with_reducible refine Below.setCell ?_ ?_ _) | go_size))).sl (by omega)).mono ?_
  rintro e w18 ⟨rfl, hb18⟩
  go_wp2_with fail
  go_ret
  exact ⟨rfl, (by repeat' (first | (with_reducible exact Below.refl _ _) | (with_reducible assumption) | (with_reducible refine Base.via hb18 ?_) | (with_reducible refine Base.via hb17 ?_) | (with_reducible refine Base.via hr16 ?_) | (with_reducible refine Base.via hb13 ?_) | (with_reducible refine Base.via hb12 ?_) | (with_reducible refine Base.grow_alloc ?_ _) | (with_reducible refine Base.below_drewN ?_ _) | (with_reducible refine Below.drew ?_) | (with_reducible refine Below.setCell ?_ ?_ _) | go_size))⟩

theorem walk_big0 (A0 : Option Addr) (n0 c0 : Nat) (E0 : Nat → E5) (a1 : E5) (w : World) (hm : n0 ≤ 9223372036854775807) (hbig : 1048576 < n0) :
    Calls Try.prog 6 #[.slice A0 n0 c0, est a1] w fun r w' => r = .returned (.bool true) ∧ Below w.heap.size w w' := by
  obtain ⟨t, s, o, m, z⟩ := a1
  simp only [est]
  go_enter Try.func6, Try.ntmps6
  go_wp2_with fail
  refine (Est.c_szEstimateS_no _ _ _ _ _ (by omega) (by omega) (by omega) (by omega)).mono ?_
  rintro e w' ⟨rfl, rfl⟩
  go_wp2_with fail
  go_ret
  exact ⟨rfl, (by repeat' (first | (with_reducible exact Below.refl _ _) | (with_reducible assumption) | (with_reducible refine Base.grow_alloc ?_ _) | (with_reducible refine Base.below_drewN ?_ _) | (with_reducible refine Below.drew ?_) | (with_reducible refine Below.setCell ?_ ?_ _) | go_size))⟩

set_option maxRecDepth 100000 in
theorem lifted (os : Os) (started : os.Started) (H : Type) (enc : TypeId × Value → H) :
    ReturnsInHanded {} Try.checked os 6 .any (Rows.fnExactAddEstimateSpec.pre6 enc Try.prog Try.f6 Rows.fnExactAddEstimateRow.domain false) (Rows.fnExactAddEstimateSpec.post enc Try.prog Try.f6 false true false false) := by
  refine returnsInHanded_of_change (C := Try.checked) Open.own started (by kernel_rfl) Try.func6
    (ChangeSpec.witness6 (enc := enc) (C := Try.checked) false ⟨#[], #[.slice none 0 0, .agg #[.int .i64 0, .string ⟨#[]⟩, .string ⟨#[]⟩, .int .i64 0, .bool false]], []⟩ 8 (by kernel_rfl) (by kernel_rfl) (by kernel_rfl) (by kernel_rfl)) ?_
  intro W base args ds gs before hval0 hW _ _
  have hval : ∀ (j : Nat) t v, Try.f6.params[j]? = some t → args[j]? = some v → Value.okWide Try.prog W .any base t v := hval0
  have hW' := hW
  obtain ⟨p, q, hA0, hV, rfl, _, _⟩ := hW
  have hA : DataW.TrodAll enc Try.prog W 0 (fun _ => true) true Try.f6.params.toList args.toList ds p := hA0
  rw [Try.params6] at hA hval
  obtain ⟨v0, vs0, d0, ds0, p0, q0, hargs, rfl, rfl, h0, r0⟩ := trodAll_cons hA
  obtain ⟨v1, vs1, d1, ds1, p1, q1, rfl, rfl, rfl, h1, r1⟩ := trodAll_cons r0
  obtain ⟨rfl, rfl, rfl⟩ := trodAll_nil r1
  obtain rfl : args = #[v0, v1] := by cases args; simp_all
  obtain ⟨hg, hq⟩ := trodVars_none hV
  subst hg; subst hq
  obtain ⟨A0, n0, c0, E0, rfl, m0, s0⟩ := OpenE.openSE (by kernel_rfl) (by kernel_rfl) Try.underlying22 Try.underlying47 Try.underlying2 Try.underlying9 Try.underlying4 (hval 0 22 v0 rfl rfl) h0
  obtain ⟨a1, rfl, z1⟩ := OpenE.openE1 (by kernel_rfl) (by kernel_rfl) Try.underlying47 Try.underlying2 Try.underlying9 Try.underlying4 (hval 1 47 v1 rfl rfl) h1
  clear hA0 hval0 hA r0
  have fin : Calls Try.checked.prog 6 #[.slice A0 n0 c0, est a1] W fun r w' => r = .returned (.bool true) ∧ Below W.heap.size W w' := by
    rcases Nat.lt_or_ge 1048576 n0 with hb0 | hb0
    · exact walk_big0 A0 n0 c0 E0 a1 W m0 hb0
    exact walk A0 n0 c0 E0 a1 W z1 hb0 (s0 hb0).1 (s0 hb0).2
  refine fin.mono fun e W' ⟨he, hb⟩ => ?_
  subst he
  exact ⟨_, rfl, Base.lawPost Open.laidOut (of_decide_eq_true (by kernel_rfl)) rfl Try.underlying4 rfl rfl hW' hb⟩

theorem holds : Rows.FnExactAddEstimateSaid :=
  OpenClaim.holds_of_wide 6 Try.f6 rfl rfl rfl rfl rfl rfl rfl ⟨rfl, rfl, rfl, rfl, rfl⟩ rfl rfl rfl rfl rfl (by kernel_rfl) Try.func6 (by kernel_rfl)
    (of_decide_eq_true (by kernel_rfl)) (by unfold Func.isWrapper; first | (rw [if_pos (by decide +kernel)]; kernel_rfl) | (rw [if_neg (by decide +kernel)]; exact ⟨rfl, rfl⟩))
    (fun os started H enc _ => lifted os started H enc)
#print axioms holds
end Go.Proofs.Ythojfmlnnclghaa.LAddEstimate
