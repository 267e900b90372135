/- FnExactStringLengths: for every input the law returns true, and its arguments read behind the call as before. No condition. -/
import Derived.Test.YtenjcdhehjdeoaaStr2
import Derived.Test.YtenjcdhehjdeoaaHelp
import Derived.Test.YtenjcdhehjdeoaaOpen
import Derived.Test.YtenjcdhehjdeoaaRows
import Derived.Deep.RegionHeld3
namespace Go.Proofs.Ytenjcdhehjdeoaa.LStringLengths
set_option linter.unusedVariables false
set_option linter.unusedSimpArgs false
open Go.ChangeShapes Go.WideShapes Go.ChangeAt Go.RowKit Go.Joins Plain View

set_option maxHeartbeats 1600000 in
theorem walk (A0 : Option Addr) (n0 c0 : Nat) (f0x f0y : Nat → Int) (a1x a1y a1z : Int) (w : World) (hnn0 : n0 ≤ 1048576) (hv0 : Sl w 2 A0 n0 c0 (f2 f0x f0y)) :
    Calls Try.prog 7 #[.slice A0 n0 c0, .agg #[.int .i64 a1x, .int .i64 a1y, .int .i64 a1z]] w fun r w' => r = .returned (.bool true) ∧ Below w.heap.size w w' := by
  go_enter Try.func7, Try.ntmps7
  go_wp2_with fail
  refine (Help.c_szPointS_yes _ _ _ _ _ (by omega) (by omega) (by omega) (by omega)).mono ?_
  rintro e w' ⟨rfl, rfl⟩
  go_wp2_with fail
  go_region_held3 (fun W => (W.cell? ⟨w.heap.size, 0, none⟩ = some (.int .i64 a1x) ∧ W.cell? ⟨w.heap.size, 1, none⟩ = some (.int .i64 a1y) ∧ W.cell? ⟨w.heap.size, 2, none⟩ = some (.int .i64 a1z)) ∧ Below w.heap.size w W)
    ((repeat' apply And.intro) <;> first | assumption | exact (by repeat' (first | (with_reducible exact Below.refl _ _) | (with_reducible assumption) | (with_reducible refine Base.via hb3 ?_) | (with_reducible refine Base.via hb2 ?_) | (with_reducible refine Base.via hb1 ?_) | (with_reducible refine Base.grow_alloc ?_ _) | (with_reducible refine Base.below_drewN ?_ _) | (with_reducible refine Below.drew ?_) | (with_reducible refine Below.setCell ?_ ?_ _) | go_size)) | (simp; done))
    (first | (go_at_call 14; refine (Help.c_toPointS A0 n0 c0 f0x f0y _ (hv0.below (by repeat' (first | (with_reducible exact Below.refl _ _) | (with_reducible assumption) | (with_reducible refine Base.grow_alloc ?_ _) | (with_reducible refine Base.below_drewN ?_ _) | (with_reducible refine Below.drew ?_) | (with_reducible refine Below.setCell ?_ ?_ _) | go_size)))).mono ?_; rintro e w1 ⟨gw1, rfl, qgw1, rw1, hb1⟩; have vw1 := rw1.view (c := n0) hnn0 (Nat.le_refl _) (by omega); have orw1 := OwnK.of_row hnn0 qgw1 rw1; have zhb1 := hb1.size; simp at zhb1; have khb1_0_0 : w1.cell? ⟨w.heap.size, 0, none⟩ = some (.int .i64 a1x) := (hb1.cell (p := ⟨w.heap.size, 0, none⟩) (by simp)).trans (by simp); have khb1_0_1 : w1.cell? ⟨w.heap.size, 1, none⟩ = some (.int .i64 a1y) := (hb1.cell (p := ⟨w.heap.size, 1, none⟩) (by simp)).trans (by simp); have khb1_0_2 : w1.cell? ⟨w.heap.size, 2, none⟩ = some (.int .i64 a1z) := (hb1.cell (p := ⟨w.heap.size, 2, none⟩) (by simp)).trans (by simp)) | (go_at_call 30; refine (Help.c_toSearch _ _ _ _).mono ?_; rintro e w2 ⟨rfl, hb2⟩; have zhb2 := Nat.le_trans zhb1 hb2.size; have khb2_0_0 : w2.cell? ⟨w.heap.size, 0, none⟩ = some (.int .i64 a1x) := (hb2.cell (p := ⟨w.heap.size, 0, none⟩) (by simp; omega)).trans khb1_0_0; have khb2_0_1 : w2.cell? ⟨w.heap.size, 1, none⟩ = some (.int .i64 a1y) := (hb2.cell (p := ⟨w.heap.size, 1, none⟩) (by simp; omega)).trans khb1_0_1; have khb2_0_2 : w2.cell? ⟨w.heap.size, 2, none⟩ = some (.int .i64 a1z) := (hb2.cell (p := ⟨w.heap.size, 2, none⟩) (by simp; omega)).trans khb1_0_2) | (go_at_call 29; refine (Str.c_specStringLengths _ _ _ f0x f0y a1x a1y a1z _ (vw1.below (by repeat' (first | (with_reducible exact Below.refl _ _) | (with_reducible assumption) | (with_reducible refine Base.via hb2 ?_) | (with_reducible refine Base.grow_alloc ?_ _) | (with_reducible refine Base.below_drewN ?_ _) | (with_reducible refine Below.drew ?_) | (with_reducible refine Below.setCell ?_ ?_ _) | go_size)))).mono ?_; rintro e w3 ⟨sw30, rfl, ow30, hb3⟩; obtain ⟨Asw30, Csw30, rfl, Vsw30, Bsw30⟩ := ow30.view; have zhb3 := Nat.le_trans zhb2 hb3.size; have khb3_0_0 : w3.cell? ⟨w.heap.size, 0, none⟩ = some (.int .i64 a1x) := (hb3.cell (p := ⟨w.heap.size, 0, none⟩) (by simp; omega)).trans khb2_0_0; have khb3_0_1 : w3.cell? ⟨w.heap.size, 1, none⟩ = some (.int .i64 a1y) := (hb3.cell (p := ⟨w.heap.size, 1, none⟩) (by simp; omega)).trans khb2_0_1; have khb3_0_2 : w3.cell? ⟨w.heap.size, 2, none⟩ = some (.int .i64 a1z) := (hb3.cell (p := ⟨w.heap.size, 2, none⟩) (by simp; omega)).trans khb2_0_2))
  go_wp2_with fail
  go_wp2_with fail
  refine (Help.c_toPointS A0 n0 c0 f0x f0y _ (hv0.below (by repeat' (first | (with_reducible exact Below.refl _ _) | (with_reducible assumption) | (with_reducible refine Base.via hb3 ?_) | (with_reducible refine Base.via hb2 ?_) | (with_reducible refine Base.via hb1 ?_) | (with_reducible refine Base.grow_alloc ?_ _) | (with_reducible refine Base.below_drewN ?_ _) | (with_reducible refine Below.drew ?_) | (with_reducible refine Below.setCell ?_ ?_ _) | go_size)))).mono ?_
  rintro e w4 ⟨gw4, rfl, qgw4, rw4, hb4⟩
  have vw4 := rw4.view (c := n0) hnn0 (Nat.le_refl _) (by omega)
  have orw4 := OwnK.of_row hnn0 qgw4 rw4
  have zhb4 := Nat.le_trans zhb3 hb4.size
  have khb4_0_0 : w4.cell? ⟨w.heap.size, 0, none⟩ = some (.int .i64 a1x) := (hb4.cell (p := ⟨w.heap.size, 0, none⟩) (by simp; omega)).trans khb3_0_0
  have khb4_0_1 : w4.cell? ⟨w.heap.size, 1, none⟩ = some (.int .i64 a1y) := (hb4.cell (p := ⟨w.heap.size, 1, none⟩) (by simp; omega)).trans khb3_0_1
  have khb4_0_2 : w4.cell? ⟨w.heap.size, 2, none⟩ = some (.int .i64 a1z) := (hb4.cell (p := ⟨w.heap.size, 2, none⟩) (by simp; omega)).trans khb3_0_2
  go_wp2_with fail
  refine (Help.c_toSearch _ _ _ _).mono ?_
  rintro e w5 ⟨rfl, hb5⟩
  have zhb5 := Nat.le_trans zhb4 hb5.size
  have khb5_0_0 : w5.cell? ⟨w.heap.size, 0, none⟩ = some (.int .i64 a1x) := (hb5.cell (p := ⟨w.heap.size, 0, none⟩) (by simp; omega)).trans khb4_0_0
  have khb5_0_1 : w5.cell? ⟨w.heap.size, 1, none⟩ = some (.int .i64 a1y) := (hb5.cell (p := ⟨w.heap.size, 1, none⟩) (by simp; omega)).trans khb4_0_1
  have khb5_0_2 : w5.cell? ⟨w.heap.size, 2, none⟩ = some (.int .i64 a1z) := (hb5.cell (p := ⟨w.heap.size, 2, none⟩) (by simp; omega)).trans khb4_0_2
  go_wp2_with fail
  refine (Str.c_StringLengths _ _ _ f0x f0y a1x a1y a1z _ (vw4.below (by repeat' (first | (with_reducible exact Below.refl _ _) | (with_reducible assumption) | (with_reducible refine Base.via hb5 ?_) | (with_reducible refine Base.grow_alloc ?_ _) | (with_reducible refine Base.below_drewN ?_ _) | (with_reducible refine Below.drew ?_) | (with_reducible refine Below.setCell ?_ ?_ _) | go_size)))).mono ?_
  rintro e w6 ⟨sw60, rfl, ow60, hb6⟩
  obtain ⟨Asw60, Csw60, rfl, Vsw60, Bsw60⟩ := ow60.view
  have zhb6 := Nat.le_trans zhb5 hb6.size
  have khb6_0_0 : w6.cell? ⟨w.heap.size, 0, none⟩ = some (.int .i64 a1x) := (hb6.cell (p := ⟨w.heap.size, 0, none⟩) (by simp; omega)).trans khb5_0_0
  have khb6_0_1 : w6.cell? ⟨w.heap.size, 1, none⟩ = some (.int .i64 a1y) := (hb6.cell (p := ⟨w.heap.size, 1, none⟩) (by simp; omega)).trans khb5_0_1
  have khb6_0_2 : w6.cell? ⟨w.heap.size, 2, none⟩ = some (.int .i64 a1z) := (hb6.cell (p := ⟨w.heap.size, 2, none⟩) (by simp; omega)).trans khb5_0_2
  go_wp2_with fail
  refine (Help.c_eqInt64S _ _ _ _ _ _ _ (Vsw60.below (by repeat' (first | (with_reducible exact Below.refl _ _) | (with_reducible assumption) | (with_reducible refine Base.grow_alloc ?_ _) | (with_reducible refine Base.below_drewN ?_ _) | (with_reducible refine Below.drew ?_) | (with_reducible refine Below.setCell ?_ ?_ _) | go_size))) (Vsw30.below (by repeat' (first | (with_reducible exact Below.refl _ _) | (with_reducible assumption) | (with_reducible refine Base.via hb6 ?_) | (with_reducible refine Base.via hb5 ?_) | (with_reducible refine Base.via hb4 ?_) | (with_reducible refine Base.grow_alloc ?_ _) | (with_reducible refine Base.below_drewN ?_ _) | (with_reducible refine Below.drew ?_) | (with_reducible refine Below.setCell ?_ ?_ _) | go_size)))).mono ?_
  rintro e w7 ⟨rfl, hb7⟩
  have zhb7 := Nat.le_trans zhb6 hb7.size
  have khb7_0_0 : w7.cell? ⟨w.heap.size, 0, none⟩ = some (.int .i64 a1x) := (hb7.cell (p := ⟨w.heap.size, 0, none⟩) (by simp; omega)).trans khb6_0_0
  have khb7_0_1 : w7.cell? ⟨w.heap.size, 1, none⟩ = some (.int .i64 a1y) := (hb7.cell (p := ⟨w.heap.size, 1, none⟩) (by simp; omega)).trans khb6_0_1
  have khb7_0_2 : w7.cell? ⟨w.heap.size, 2, none⟩ = some (.int .i64 a1z) := (hb7.cell (p := ⟨w.heap.size, 2, none⟩) (by simp; omega)).trans khb6_0_2
  go_wp2_with fail
  refine (Help.c_toPointS A0 n0 c0 f0x f0y _ (hv0.below (by repeat' (first | (with_reducible exact Below.refl _ _) | (with_reducible assumption) | (with_reducible refine Base.via hb7 ?_) | (with_reducible refine Base.via hb6 ?_) | (with_reducible refine Base.via hb5 ?_) | (with_reducible refine Base.via hb4 ?_) | (with_reducible refine Base.via hb3 ?_) | (with_reducible refine Base.via hb2 ?_) | (with_reducible refine Base.via hb1 ?_) | (with_reducible refine Base.grow_alloc ?_ _) | (with_reducible refine Base.below_drewN ?_ _) | (with_reducible refine Below.drew ?_) | (with_reducible refine Below.setCell ?_ ?_ _) | go_size)))).mono ?_
  rintro e w8 ⟨gw8, rfl, qgw8, rw8, hb8⟩
  have vw8 := rw8.view (c := n0) hnn0 (Nat.le_refl _) (by omega)
  have orw8 := OwnK.of_row hnn0 qgw8 rw8
  have zhb8 := Nat.le_trans zhb7 hb8.size
  have khb8_0_0 : w8.cell? ⟨w.heap.size, 0, none⟩ = some (.int .i64 a1x) := (hb8.cell (p := ⟨w.heap.size, 0, none⟩) (by simp; omega)).trans khb7_0_0
  have khb8_0_1 : w8.cell? ⟨w.heap.size, 1, none⟩ = some (.int .i64 a1y) := (hb8.cell (p := ⟨w.heap.size, 1, none⟩) (by simp; omega)).trans khb7_0_1
  have khb8_0_2 : w8.cell? ⟨w.heap.size, 2, none⟩ = some (.int .i64 a1z) := (hb8.cell (p := ⟨w.heap.size, 2, none⟩) (by simp; omega)).trans khb7_0_2
  go_wp2_with fail
  refine (Help.c_eqPointS _ _ _ _ _ f0x f0y _ (vw4.below (by repeat' (first | (with_reducible exact Below.refl _ _) | (with_reducible assumption) | (with_reducible refine Base.via hb8 ?_) | (with_reducible refine Base.via hb7 ?_) | (with_reducible refine Base.via hb6 ?_) | (with_reducible refine Base.via hb5 ?_) | (with_reducible refine Base.grow_alloc ?_ _) | (with_reducible refine Base.below_drewN ?_ _) | (with_reducible refine Below.drew ?_) | (with_reducible refine Below.setCell ?_ ?_ _) | go_size))) (vw8.below (by repeat' (first | (with_reducible exact Below.refl _ _) | (with_reducible assumption) | (with_reducible refine Base.grow_alloc ?_ _) | (with_reducible refine Base.below_drewN ?_ _) | (with_reducible refine Below.drew ?_) | (with_reducible refine Below.setCell ?_ ?_ _) | go_size)))).mono ?_
  rintro e w9 ⟨rfl, hb9⟩
  have zhb9 := Nat.le_trans zhb8 hb9.size
  have khb9_0_0 : w9.cell? ⟨w.heap.size, 0, none⟩ = some (.int .i64 a1x) := (hb9.cell (p := ⟨w.heap.size, 0, none⟩) (by simp; omega)).trans khb8_0_0
  have khb9_0_1 : w9.cell? ⟨w.heap.size, 1, none⟩ = some (.int .i64 a1y) := (hb9.cell (p := ⟨w.heap.size, 1, none⟩) (by simp; omega)).trans khb8_0_1
  have khb9_0_2 : w9.cell? ⟨w.heap.size, 2, none⟩ = some (.int .i64 a1z) := (hb9.cell (p := ⟨w.heap.size, 2, none⟩) (by simp; omega)).trans khb8_0_2
  have tw10 : Below w.heap.size w w9 := (by repeat' (first | (with_reducible exact Below.refl _ _) | (with_reducible assumption) | (with_reducible refine Base.via hb9 ?_) | (with_reducible refine Base.via hb8 ?_) | (with_reducible refine Base.via hb7 ?_) | (with_reducible refine Base.via hb6 ?_) | (with_reducible refine Base.via hb5 ?_) | (with_reducible refine Base.via hb4 ?_) | (with_reducible refine Base.via hb3 ?_) | (with_reducible refine Base.via hb2 ?_) | (with_reducible refine Base.via hb1 ?_) | (with_reducible refine Base.grow_alloc ?_ _) | (with_reducible refine Base.below_drewN ?_ _) | (with_reducible refine Below.drew ?_) | (with_reducible refine Below.setCell ?_ ?_ _) | go_size))
  go_wp2_with fail
  refine (Help.c_markPointS _ _ _ _ 1 _ (orw4.below (by repeat' (first | (with_reducible exact Below.refl _ _) | (with_reducible assumption) | (with_reducible refine Base.via hb9 ?_) | (with_reducible refine Base.via hb8 ?_) | (with_reducible refine Base.via hb7 ?_) | (with_reducible refine Base.via hb6 ?_) | (with_reducible refine Base.via hb5 ?_) | (with_reducible refine Base.grow_alloc ?_ _) | (with_reducible refine Base.below_drewN ?_ _) | (with_reducible refine Below.drew ?_) | (with_reducible refine Below.setCell ?_ ?_ _) | go_size))) (by omega) (by omega)).mono ?_
  rintro e w10 ⟨rfl, mw10, gw10⟩
  have hb10 := below_marked tw10 gw10 orw4.blk (by have s0 := zhb1; have s1 := hb2.size; have s2 := hb3.size; have s3 := hb4.size; have s4 := hb5.size; have s5 := hb6.size; have s6 := hb7.size; have s7 := hb8.size; have s8 := hb9.size; omega) tw10.size
  have W0w10 := (Vsw30.below (by repeat' (first | (with_reducible exact Below.refl _ _) | (with_reducible assumption) | (with_reducible refine Base.via hb9 ?_) | (with_reducible refine Base.via hb8 ?_) | (with_reducible refine Base.via hb7 ?_) | (with_reducible refine Base.via hb6 ?_) | (with_reducible refine Base.via hb5 ?_) | (with_reducible refine Base.via hb4 ?_) | (with_reducible refine Base.grow_alloc ?_ _) | (with_reducible refine Base.below_drewN ?_ _) | (with_reducible refine Below.drew ?_) | (with_reducible refine Below.setCell ?_ ?_ _) | go_size))).marked ow30.blk gw10 orw4.blk (by have s0 := zhb1; have s1 := hb2.size; have s2 := hb3.size; have s3 := hb4.size; have s4 := hb5.size; have s5 := hb6.size; have s6 := hb7.size; have s7 := hb8.size; have s8 := hb9.size; omega)
  have G0w10 := (ow60.below (by repeat' (first | (with_reducible exact Below.refl _ _) | (with_reducible assumption) | (with_reducible refine Base.via hb9 ?_) | (with_reducible refine Base.via hb8 ?_) | (with_reducible refine Base.via hb7 ?_) | (with_reducible refine Base.grow_alloc ?_ _) | (with_reducible refine Base.below_drewN ?_ _) | (with_reducible refine Below.drew ?_) | (with_reducible refine Below.setCell ?_ ?_ _) | go_size))).marked ow60.blk gw10 orw4.blk (by have s0 := zhb1; have s1 := hb2.size; have s2 := hb3.size; have s3 := hb4.size; have s4 := hb5.size; have s5 := hb6.size; have s6 := hb7.size; have s7 := hb8.size; have s8 := hb9.size; omega)
  have zhb10 := Nat.le_trans zhb9 gw10.size
  have khb10_0_0 : w10.cell? ⟨w.heap.size, 0, none⟩ = some (.int .i64 a1x) := (cell_marked (p := ⟨w.heap.size, 0, none⟩) gw10 orw4.blk (by simp; omega) (by have s0 := zhb1; have s1 := hb2.size; have s2 := hb3.size; have s3 := hb4.size; have s4 := hb5.size; have s5 := hb6.size; have s6 := hb7.size; have s7 := hb8.size; have s8 := hb9.size; simp; omega)).trans khb9_0_0
  have khb10_0_1 : w10.cell? ⟨w.heap.size, 1, none⟩ = some (.int .i64 a1y) := (cell_marked (p := ⟨w.heap.size, 1, none⟩) gw10 orw4.blk (by simp; omega) (by have s0 := zhb1; have s1 := hb2.size; have s2 := hb3.size; have s3 := hb4.size; have s4 := hb5.size; have s5 := hb6.size; have s6 := hb7.size; have s7 := hb8.size; have s8 := hb9.size; simp; omega)).trans khb9_0_1
  have khb10_0_2 : w10.cell? ⟨w.heap.size, 2, none⟩ = some (.int .i64 a1z) := (cell_marked (p := ⟨w.heap.size, 2, none⟩) gw10 orw4.blk (by simp; omega) (by have s0 := zhb1; have s1 := hb2.size; have s2 := hb3.size; have s3 := hb4.size; have s4 := hb5.size; have s5 := hb6.size; have s6 := hb7.size; have s7 := hb8.size; have s8 := hb9.size; simp; omega)).trans khb9_0_2
  go_wp2_with fail
  refine (Help.c_eqInt64S _ _ _ _ _ _ _ (G0w10.sl.below (by repeat' (first | (with_reducible exact Below.refl _ _) | (with_reducible assumption) | (with_reducible refine Base.grow_alloc ?_ _) | (with_reducible refine Base.below_drewN ?_ _) | (with_reducible refine Below.drew ?_) | (with_reducible refine Below.setCell ?_ ?_ _) | go_size))) (W0w10.below (by repeat' (first | (with_reducible exact Below.refl _ _) | (with_reducible assumption) | (with_reducible refine Base.grow_alloc ?_ _) | (with_reducible refine Base.below_drewN ?_ _) | (with_reducible refine Below.drew ?_) | (with_reducible refine Below.setCell ?_ ?_ _) | go_size)))).mono ?_
  rintro e w11 ⟨rfl, hb11⟩
  have zhb11 := Nat.le_trans zhb10 hb11.size
  have khb11_0_0 : w11.cell? ⟨w.heap.size, 0, none⟩ = some (.int .i64 a1x) := (hb11.cell (p := ⟨w.heap.size, 0, none⟩) (by simp; omega)).trans khb10_0_0
  have khb11_0_1 : w11.cell? ⟨w.heap.size, 1, none⟩ = some (.int .i64 a1y) := (hb11.cell (p := ⟨w.heap.size, 1, none⟩) (by simp; omega)).trans khb10_0_1
  have khb11_0_2 : w11.cell? ⟨w.heap.size, 2, none⟩ = some (.int .i64 a1z) := (hb11.cell (p := ⟨w.heap.size, 2, none⟩) (by simp; omega)).trans khb10_0_2
  have tw12 : Below w.heap.size w w11 := (by repeat' (first | (with_reducible exact Below.refl _ _) | (with_reducible assumption) | (with_reducible refine Base.via hb11 ?_) | (with_reducible refine Base.via hb10 ?_) | (with_reducible refine Base.grow_alloc ?_ _) | (with_reducible refine Base.below_drewN ?_ _) | (with_reducible refine Below.drew ?_) | (with_reducible refine Below.setCell ?_ ?_ _) | go_size))
  go_wp2_with fail
  refine (Help.c_markInt64S _ _ _ _ 1 _ (G0w10.below (by repeat' (first | (with_reducible exact Below.refl _ _) | (with_reducible assumption) | (with_reducible refine Base.via hb11 ?_) | (with_reducible refine Base.grow_alloc ?_ _) | (with_reducible refine Base.below_drewN ?_ _) | (with_reducible refine Below.drew ?_) | (with_reducible refine Below.setCell ?_ ?_ _) | go_size))) (by omega) (by omega)).mono ?_
  rintro e w12 ⟨rfl, mw12, gw12⟩
  have hb12 := below_marked tw12 gw12 ow60.blk (by have s0 := zhb1; have s1 := hb2.size; have s2 := hb3.size; have s3 := hb4.size; have s4 := hb5.size; have s5 := hb6.size; have s6 := hb7.size; have s7 := hb8.size; have s8 := hb9.size; have s9 := hb10.size; have s10 := hb11.size; have s11 := gw10.size; omega) tw12.size
  have W0w12 := (W0w10.below (by repeat' (first | (with_reducible exact Below.refl _ _) | (with_reducible assumption) | (with_reducible refine Base.via hb11 ?_) | (with_reducible refine Base.grow_alloc ?_ _) | (with_reducible refine Base.below_drewN ?_ _) | (with_reducible refine Below.drew ?_) | (with_reducible refine Below.setCell ?_ ?_ _) | go_size))).marked ow30.blk gw12 ow60.blk (by have s0 := zhb1; have s1 := hb2.size; have s2 := hb3.size; have s3 := hb4.size; have s4 := hb5.size; have s5 := hb6.size; have s6 := hb7.size; have s7 := hb8.size; have s8 := hb9.size; have s9 := hb10.size; have s10 := hb11.size; have s11 := gw10.size; omega)
  have zhb12 := Nat.le_trans zhb11 gw12.size
  have khb12_0_0 : w12.cell? ⟨w.heap.size, 0, none⟩ = some (.int .i64 a1x) := (cell_marked (p := ⟨w.heap.size, 0, none⟩) gw12 ow60.blk (by simp; omega) (by have s0 := zhb1; have s1 := hb2.size; have s2 := hb3.size; have s3 := hb4.size; have s4 := hb5.size; have s5 := hb6.size; have s6 := hb7.size; have s7 := hb8.size; have s8 := hb9.size; have s9 := hb10.size; have s10 := hb11.size; have s11 := gw10.size; simp; omega)).trans khb11_0_0
  have khb12_0_1 : w12.cell? ⟨w.heap.size, 1, none⟩ = some (.int .i64 a1y) := (cell_marked (p := ⟨w.heap.size, 1, none⟩) gw12 ow60.blk (by simp; omega) (by have s0 := zhb1; have s1 := hb2.size; have s2 := hb3.size; have s3 := hb4.size; have s4 := hb5.size; have s5 := hb6.size; have s6 := hb7.size; have s7 := hb8.size; have s8 := hb9.size; have s9 := hb10.size; have s10 := hb11.size; have s11 := gw10.size; simp; omega)).trans khb11_0_1
  have khb12_0_2 : w12.cell? ⟨w.heap.size, 2, none⟩ = some (.int .i64 a1z) := (cell_marked (p := ⟨w.heap.size, 2, none⟩) gw12 ow60.blk (by simp; omega) (by have s0 := zhb1; have s1 := hb2.size; have s2 := hb3.size; have s3 := hb4.size; have s4 := hb5.size; have s5 := hb6.size; have s6 := hb7.size; have s7 := hb8.size; have s8 := hb9.size; have s9 := hb10.size; have s10 := hb11.size; have s11 := gw10.size; simp; omega)).trans khb11_0_2
  go_wp2_with fail
  refine (Help.c_heldInt64S _ _ _ 1 _ (mw12.below (by repeat' (first | (with_reducible exact Below.refl _ _) | (with_reducible assumption) | (with_reducible refine Base.grow_alloc ?_ _) | (with_reducible refine Base.below_drewN ?_ _) | (with_reducible refine Below.drew ?_) | (with_reducible refine Below.setCell ?_ ?_ _) | go_size))).sl (by omega) (by omega)).mono ?_
  rintro e w' ⟨rfl, rfl⟩
  go_wp2_with fail
  go_region_held3 (fun W => (W.cell? ⟨w.heap.size, 0, none⟩ = some (.int .i64 a1x) ∧ W.cell? ⟨w.heap.size, 1, none⟩ = some (.int .i64 a1y) ∧ W.cell? ⟨w.heap.size, 2, none⟩ = some (.int .i64 a1z)) ∧ Below w.heap.size w W)
    ((repeat' apply And.intro) <;> first | assumption | exact (by repeat' (first | (with_reducible exact Below.refl _ _) | (with_reducible assumption) | (with_reducible refine Base.via hb15 ?_) | (with_reducible refine Base.via hb14 ?_) | (with_reducible refine Base.via hb13 ?_) | (with_reducible refine Base.via hb12 ?_) | (with_reducible refine Base.grow_alloc ?_ _) | (with_reducible refine Base.below_drewN ?_ _) | (with_reducible refine Below.drew ?_) | (with_reducible refine Below.setCell ?_ ?_ _) | go_size)) | (simp; done))
    (first | (go_at_call 14; refine (Help.c_toPointS A0 n0 c0 f0x f0y _ (hv0.below (by repeat' (first | (with_reducible exact Below.refl _ _) | (with_reducible assumption) | (with_reducible refine Base.via hb12 ?_) | (with_reducible refine Base.grow_alloc ?_ _) | (with_reducible refine Base.below_drewN ?_ _) | (with_reducible refine Below.drew ?_) | (with_reducible refine Below.setCell ?_ ?_ _) | go_size)))).mono ?_; rintro e w13 ⟨gw13, rfl, qgw13, rw13, hb13⟩; have vw13 := rw13.view (c := n0) hnn0 (Nat.le_refl _) (by omega); have orw13 := OwnK.of_row hnn0 qgw13 rw13; have zhb13 := Nat.le_trans zhb12 hb13.size; have khb13_0_0 : w13.cell? ⟨w.heap.size, 0, none⟩ = some (.int .i64 a1x) := (hb13.cell (p := ⟨w.heap.size, 0, none⟩) (by simp; omega)).trans khb12_0_0; have khb13_0_1 : w13.cell? ⟨w.heap.size, 1, none⟩ = some (.int .i64 a1y) := (hb13.cell (p := ⟨w.heap.size, 1, none⟩) (by simp; omega)).trans khb12_0_1; have khb13_0_2 : w13.cell? ⟨w.heap.size, 2, none⟩ = some (.int .i64 a1z) := (hb13.cell (p := ⟨w.heap.size, 2, none⟩) (by simp; omega)).trans khb12_0_2) | (go_at_call 30; refine (Help.c_toSearch _ _ _ _).mono ?_; rintro e w14 ⟨rfl, hb14⟩; have zhb14 := Nat.le_trans zhb13 hb14.size; have khb14_0_0 : w14.cell? ⟨w.heap.size, 0, none⟩ = some (.int .i64 a1x) := (hb14.cell (p := ⟨w.heap.size, 0, none⟩) (by simp; omega)).trans khb13_0_0; have khb14_0_1 : w14.cell? ⟨w.heap.size, 1, none⟩ = some (.int .i64 a1y) := (hb14.cell (p := ⟨w.heap.size, 1, none⟩) (by simp; omega)).trans khb13_0_1; have khb14_0_2 : w14.cell? ⟨w.heap.size, 2, none⟩ = some (.int .i64 a1z) := (hb14.cell (p := ⟨w.heap.size, 2, none⟩) (by simp; omega)).trans khb13_0_2) | (go_at_call 31; refine (Str.c_StringLengths _ _ _ f0x f0y a1x a1y a1z _ (vw13.below (by repeat' (first | (with_reducible exact Below.refl _ _) | (with_reducible assumption) | (with_reducible refine Base.via hb14 ?_) | (with_reducible refine Base.grow_alloc ?_ _) | (with_reducible refine Base.below_drewN ?_ _) | (with_reducible refine Below.drew ?_) | (with_reducible refine Below.setCell ?_ ?_ _) | go_size)))).mono ?_; rintro e w15 ⟨sw150, rfl, ow150, hb15⟩; obtain ⟨Asw150, Csw150, rfl, Vsw150, Bsw150⟩ := ow150.view; have zhb15 := Nat.le_trans zhb14 hb15.size; have khb15_0_0 : w15.cell? ⟨w.heap.size, 0, none⟩ = some (.int .i64 a1x) := (hb15.cell (p := ⟨w.heap.size, 0, none⟩) (by simp; omega)).trans khb14_0_0; have khb15_0_1 : w15.cell? ⟨w.heap.size, 1, none⟩ = some (.int .i64 a1y) := (hb15.cell (p := ⟨w.heap.size, 1, none⟩) (by simp; omega)).trans khb14_0_1; have khb15_0_2 : w15.cell? ⟨w.heap.size, 2, none⟩ = some (.int .i64 a1z) := (hb15.cell (p := ⟨w.heap.size, 2, none⟩) (by simp; omega)).trans khb14_0_2))
  go_wp2_with fail
  go_wp2_with fail
  refine (Help.c_eqInt64S _ _ _ _ _ _ _ (Vsw150.below (by repeat' (first | (with_reducible exact Below.refl _ _) | (with_reducible assumption) | (with_reducible refine Base.grow_alloc ?_ _) | (with_reducible refine Base.below_drewN ?_ _) | (with_reducible refine Below.drew ?_) | (with_reducible refine Below.setCell ?_ ?_ _) | go_size))) (W0w12.below (by repeat' (first | (with_reducible exact Below.refl _ _) | (with_reducible assumption) | (with_reducible refine Base.via hb15 ?_) | (with_reducible refine Base.via hb14 ?_) | (with_reducible refine Base.via hb13 ?_) | (with_reducible refine Base.grow_alloc ?_ _) | (with_reducible refine Base.below_drewN ?_ _) | (with_reducible refine Below.drew ?_) | (with_reducible refine Below.setCell ?_ ?_ _) | go_size)))).mono ?_
  rintro e w16 ⟨rfl, hb16⟩
  have zhb16 := Nat.le_trans zhb15 hb16.size
  have khb16_0_0 : w16.cell? ⟨w.heap.size, 0, none⟩ = some (.int .i64 a1x) := (hb16.cell (p := ⟨w.heap.size, 0, none⟩) (by simp; omega)).trans khb15_0_0
  have khb16_0_1 : w16.cell? ⟨w.heap.size, 1, none⟩ = some (.int .i64 a1y) := (hb16.cell (p := ⟨w.heap.size, 1, none⟩) (by simp; omega)).trans khb15_0_1
  have khb16_0_2 : w16.cell? ⟨w.heap.size, 2, none⟩ = some (.int .i64 a1z) := (hb16.cell (p := ⟨w.heap.size, 2, none⟩) (by simp; omega)).trans khb15_0_2
  go_wp2_with fail
  refine (Help.c_heldInt64S _ _ _ 1 _ (mw12.below (by repeat' (first | (with_reducible exact Below.refl _ _) | (with_reducible assumption) | (with_reducible refine Base.via hb16 ?_) | (with_reducible refine Base.via hb15 ?_) | (with_reducible refine Base.via hb14 ?_) | (with_reducible refine Base.via hb13 ?_) | (with_reducible refine Base.grow_alloc ?_ _) | (with_reducible refine Base.below_drewN ?_ _) | (with_reducible refine Below.drew ?_) | (with_reducible refine Below.setCell ?_ ?_ _) | go_size))).sl (by omega) (by omega)).mono ?_
  rintro e w' ⟨rfl, rfl⟩
  go_wp2_with fail
  go_ret
  exact ⟨rfl, (by repeat' (first | (with_reducible exact Below.refl _ _) | (with_reducible assumption) | (with_reducible refine Base.via hb16 ?_) | (with_reducible refine Base.via hb15 ?_) | (with_reducible refine Base.via hb14 ?_) | (with_reducible refine Base.via hb13 ?_) | (with_reducible refine Base.via hb12 ?_) | (with_reducible refine Base.grow_alloc ?_ _) | (with_reducible refine Base.below_drewN ?_ _) | (with_reducible refine Below.drew ?_) | (with_reducible refine Below.setCell ?_ ?_ _) | go_size))⟩

theorem walk_big (A0 : Option Addr) (n0 c0 : Nat) (a1x a1y a1z : Int) (w : World) (hm : n0 ≤ 9223372036854775807) (hbig : 1048576 < n0) :
    Calls Try.prog 7 #[.slice A0 n0 c0, .agg #[.int .i64 a1x, .int .i64 a1y, .int .i64 a1z]] w fun r w' => r = .returned (.bool true) ∧ Below w.heap.size w w' := by
  go_enter Try.func7, Try.ntmps7
  go_wp2_with fail
  refine (Help.c_szPointS_no _ _ _ _ _ (by omega) (by omega) (by omega) (by omega)).mono ?_
  rintro e w' ⟨rfl, rfl⟩
  go_wp2_with fail
  go_ret
  exact ⟨rfl, (by repeat' (first | (with_reducible exact Below.refl _ _) | (with_reducible assumption) | (with_reducible refine Base.grow_alloc ?_ _) | (with_reducible refine Base.below_drewN ?_ _) | (with_reducible refine Below.drew ?_) | (with_reducible refine Below.setCell ?_ ?_ _) | go_size))⟩

set_option maxRecDepth 100000 in
theorem lifted (os : Os) (started : os.Started) (H : Type) (enc : TypeId × Value → H) :
    ReturnsInHanded {} Try.checked os 7 .any (Rows.fnExactStringLengthsSpec.pre6 enc Try.prog Try.f7 Rows.fnExactStringLengthsRow.domain false) (Rows.fnExactStringLengthsSpec.post enc Try.prog Try.f7 false true false false) := by
  refine returnsInHanded_of_change (C := Try.checked) Open.own started (by kernel_rfl) Try.func7
    (ChangeSpec.witness6 (enc := enc) (C := Try.checked) false ⟨#[], #[.slice none 0 0, .agg #[.int .i64 0, .int .i64 0, .int .i64 0]], []⟩ 8 (by kernel_rfl) (by kernel_rfl) (by kernel_rfl) (by kernel_rfl)) ?_
  intro W base args ds gs before hval0 hW _ _
  have hval : ∀ (j : Nat) t v, Try.f7.params[j]? = some t → args[j]? = some v → Value.okWide Try.prog W .any base t v := hval0
  have hW' := hW
  obtain ⟨p, q, hA0, hV, rfl, _, _⟩ := hW
  have hA : DataW.TrodAll enc Try.prog W 0 (fun _ => true) true Try.f7.params.toList args.toList ds p := hA0
  rw [Try.params7] at hA hval
  obtain ⟨v0, vs0, d0, ds0, p0, q0, hargs, rfl, rfl, h0, r0⟩ := trodAll_cons hA
  obtain ⟨v1, vs1, d1, ds1, p1, q1, rfl, rfl, rfl, h1, r1⟩ := trodAll_cons r0
  obtain ⟨rfl, rfl, rfl⟩ := trodAll_nil r1
  obtain rfl : args = #[v0, v1] := by cases args; simp_all
  obtain ⟨hg, hq⟩ := trodVars_none hV
  subst hg; subst hq
  obtain ⟨A0, n0, c0, f0x, f0y, rfl, m0, s0⟩ := Open.openS2 (by kernel_rfl) (by kernel_rfl) Try.underlying22 Try.underlying65 Try.underlying2 (hval 0 22 v0 rfl rfl) h0
  obtain ⟨a1x, a1y, a1z, rfl⟩ := Open.open3 (by kernel_rfl) (by kernel_rfl) Try.underlying46 Try.underlying2 (hval 1 46 v1 rfl rfl) h1
  clear hA0 hval0 hA r0
  have fin : Calls Try.checked.prog 7 #[.slice A0 n0 c0, .agg #[.int .i64 a1x, .int .i64 a1y, .int .i64 a1z]] W fun r w' => r = .returned (.bool true) ∧ Below W.heap.size W w' := by
    rcases Nat.lt_or_ge 1048576 (n0) with hs0 | hs0
    · exact walk_big A0 n0 c0 a1x a1y a1z W m0 (by omega)
    exact walk A0 n0 c0 f0x f0y a1x a1y a1z W (by omega) (s0 (by omega))
  refine fin.mono fun e W' ⟨he, hb⟩ => ?_
  subst he
  exact ⟨_, rfl, Base.lawPost Open.laidOut (of_decide_eq_true (by kernel_rfl)) rfl Try.underlying4 rfl rfl hW' hb⟩

theorem holds : Rows.FnExactStringLengthsSaid :=
  OpenClaim.holds_of_wide 7 Try.f7 rfl rfl rfl rfl rfl rfl rfl ⟨rfl, rfl, rfl, rfl, rfl⟩ rfl rfl rfl rfl rfl (by kernel_rfl) Try.func7 (by kernel_rfl)
    (of_decide_eq_true (by kernel_rfl)) (by unfold Func.isWrapper; first | (rw [if_pos (by decide +kernel)]; kernel_rfl) | (rw [if_neg (by decide +kernel)]; exact ⟨rfl, rfl⟩))
    (fun os started H enc _ => lifted os started H enc)
#print axioms holds
end Go.Proofs.Ytenjcdhehjdeoaa.LStringLengths
