/- FnExactRefineSearch: for every input the law returns true, and its arguments read behind the call as before. No condition. -/
import Derived.Test.YtenjcdhehjdeoaaRef
import Derived.Test.YtenjcdhehjdeoaaRef2
import Derived.Test.YtenjcdhehjdeoaaHelp
import Derived.Test.YtenjcdhehjdeoaaOpen
import Derived.Test.YtenjcdhehjdeoaaRows
import Derived.Deep.RegionHeld3
import Derived.Deep.DeepCutAuto
namespace Go.Proofs.Ytenjcdhehjdeoaa.LRefineSearch
set_option linter.unusedVariables false
set_option linter.unusedSimpArgs false
open Go.ChangeShapes Go.WideShapes Go.ChangeAt Go.RowKit Go.Joins Plain View

theorem new_call {W w1 : World} {cs : Array Value} {t : TypeId} (hb : Below (W.alloc (.cells cs t)).heap.size (W.alloc (.cells cs t)) w1) {b q : Nat} (hbq : b = W.heap.size) {v : Value} (hv : cs[q]? = some v) : w1.cell? ⟨b, q, none⟩ = some v := by
  subst hbq
  refine (hb.cell (p := ⟨W.heap.size, q, none⟩) (by simp)).trans ?_
  have h := heap_alloc_new W (.cells cs t)
  unfold World.cell?
  rw [h]
  simpa using hv
theorem new_call_f {W w1 : World} {cs : Array Value} {t : TypeId} (hb : Below (W.alloc (.cells cs t)).heap.size (W.alloc (.cells cs t)) w1) {b q : Nat} (hbq : b = W.heap.size) : w1.frozen? ⟨b, q, none⟩ = false := by
  subst hbq
  refine (hb.frozen (p := ⟨W.heap.size, q, none⟩) (by simp)).trans ?_
  have h := heap_alloc_new W (.cells cs t)
  unfold World.frozen?
  rw [h]
  simp
theorem new_callD {W w1 : World} {cs : Array Value} {t : TypeId} (hb : Below (W.alloc (.cells cs t)).drew.heap.size (W.alloc (.cells cs t)).drew w1) {b q : Nat} (hbq : b = W.heap.size) {v : Value} (hv : cs[q]? = some v) : w1.cell? ⟨b, q, none⟩ = some v := by
  subst hbq
  refine (hb.cell (p := ⟨W.heap.size, q, none⟩) (by show W.heap.size < (W.alloc (.cells cs t)).heap.size; simp)).trans ?_
  show (W.alloc (.cells cs t)).cell? _ = _
  have h := heap_alloc_new W (.cells cs t)
  unfold World.cell?
  rw [h]
  simpa using hv
theorem new_callDf {W w1 : World} {cs : Array Value} {t : TypeId} (hb : Below (W.alloc (.cells cs t)).drew.heap.size (W.alloc (.cells cs t)).drew w1) {b q : Nat} (hbq : b = W.heap.size) : w1.frozen? ⟨b, q, none⟩ = false := by
  subst hbq
  refine (hb.frozen (p := ⟨W.heap.size, q, none⟩) (by show W.heap.size < (W.alloc (.cells cs t)).heap.size; simp)).trans ?_
  show (W.alloc (.cells cs t)).frozen? _ = _
  have h := heap_alloc_new W (.cells cs t)
  unfold World.frozen?
  rw [h]
  simp
/-- what the region with the call leaves: the box of the result, the code -/
def Left (wo : World) (X Y Z C : Int) (p c : Value) (W : World) : Prop :=
  ∃ g : Nat, p = .pointer (some ⟨g, 0, none⟩) ∧ c = .int .i64 C ∧ W.cell? ⟨g, 0, none⟩ = some (.int .i64 X) ∧ W.cell? ⟨g, 1, none⟩ = some (.int .i64 Y) ∧ W.cell? ⟨g, 2, none⟩ = some (.int .i64 Z) ∧ wo.heap.size ≤ g ∧ Below wo.heap.size wo W
theorem left_box {wo W : World} {X Y Z C : Int} {g : Nat} {u v x : Value} (c0 : W.cell? ⟨g, 0, none⟩ = some u) (c1 : W.cell? ⟨g, 1, none⟩ = some v) (c2 : W.cell? ⟨g, 2, none⟩ = some x) (hg : wo.heap.size ≤ g) (hb : Below wo.heap.size wo (((W.setCell ⟨g, 0, none⟩ (.int .i64 X)).setCell ⟨g, 1, none⟩ (.int .i64 Y)).setCell ⟨g, 2, none⟩ (.int .i64 Z))) :
    Left wo X Y Z C (.pointer (some ⟨g, 0, none⟩)) (.int .i64 C) (((W.setCell ⟨g, 0, none⟩ (.int .i64 X)).setCell ⟨g, 1, none⟩ (.int .i64 Y)).setCell ⟨g, 2, none⟩ (.int .i64 Z)) :=
  ⟨g, rfl, rfl, (World.cell?_setCell_other _ _ _ _ (by simp)).trans ((World.cell?_setCell_other _ _ _ _ (by simp)).trans (World.cell?_setCell_same _ _ _ c0)), (World.cell?_setCell_other _ _ _ _ (by simp)).trans (World.cell?_setCell_same _ _ _ ((World.cell?_setCell_other _ _ _ _ (by simp)).trans c1)), World.cell?_setCell_same _ _ _ ((World.cell?_setCell_other _ _ _ _ (by simp)).trans ((World.cell?_setCell_other _ _ _ _ (by simp)).trans c2)), hg, hb⟩
theorem left_new {wo W : World} {X Y Z C : Int} {t : TypeId} (hg : wo.heap.size ≤ W.heap.size) (hb : Below wo.heap.size wo (W.alloc (.cells #[.int .i64 X, .int .i64 Y, .int .i64 Z] t))) :
    Left wo X Y Z C (.pointer (some ⟨W.heap.size, 0, none⟩)) (.int .i64 C) (W.alloc (.cells #[.int .i64 X, .int .i64 Y, .int .i64 Z] t)) :=
  ⟨W.heap.size, rfl, rfl, by simp [go_sem], by simp [go_sem], by simp [go_sem], hg, hb⟩
set_option maxRecDepth 8000 in
set_option maxHeartbeats 12800000 in
theorem walk (A0 : Option Addr) (n0 c0 : Nat) (f0x f0y : Nat → Int) (a1x a1y a1z : Int) (a2 : Int) (w : World) (hnn0 : n0 ≤ 1048576) (hv0 : Sl w 2 A0 n0 c0 (f2 f0x f0y)) :
    Calls Try.prog 10 #[.slice A0 n0 c0, .agg #[.int .i64 a1x, .int .i64 a1y, .int .i64 a1z], .int .i64 a2] w fun r w' => r = .returned (.bool true) ∧ Below w.heap.size w w' := by
  go_enter Try.func10, Try.ntmps10
  go_wp2_with fail
  refine (Help.c_szPointS_yes _ _ _ _ _ (by omega) (by omega) (by omega) (by omega)).mono ?_
  rintro e w' ⟨rfl, rfl⟩
  go_upto_region 5 with fail
  obtain ⟨wo, hwo⟩ : ∃ wo : World, wo = w.alloc (.cells #[.int .i64 a1x, .int .i64 a1y, .int .i64 a1z] 46) := ⟨_, rfl⟩
  have k0 : wo.cell? ⟨w.heap.size, 0, none⟩ = some (.int .i64 a1x) := by rw [hwo]; simp [go_sem]
  have k1 : wo.cell? ⟨w.heap.size, 1, none⟩ = some (.int .i64 a1y) := by rw [hwo]; simp [go_sem]
  have k2 : wo.cell? ⟨w.heap.size, 2, none⟩ = some (.int .i64 a1z) := by rw [hwo]; simp [go_sem]
  have hbo : Below w.heap.size w wo := by rw [hwo]; exact (by repeat' (first | (with_reducible exact Below.refl _ _) | (with_reducible assumption) | (with_reducible refine Base.grow_alloc ?_ _) | (with_reducible refine Base.below_drewN ?_ _) | (with_reducible refine Below.drew ?_) | (with_reducible refine Below.setCell ?_ ?_ _) | go_size))
  have hvo := hv0.below hbo
  rw [← hwo]
  clear hwo
  have HS : ∀ W : World, Below wo.heap.size wo W → (W.cell? ⟨w.heap.size, 0, none⟩ = some (.int .i64 a1x) ∧ W.cell? ⟨w.heap.size, 1, none⟩ = some (.int .i64 a1y) ∧ W.cell? ⟨w.heap.size, 2, none⟩ = some (.int .i64 a1z)) ∧ Below wo.heap.size wo W :=
    fun W hW => ⟨⟨cell_call hW k0, cell_call hW k1, cell_call hW k2⟩, hW⟩
  go_cut [8, 9] (fun p c W => Left wo (Ref.rsX n0 f0x f0y a1x a1y a1z a2) (Ref.rsY n0 f0x f0y a1x a1y a1z a2) (Ref.rsZ n0 f0x f0y a1x a1y a1z a2) (Ref.rsC n0 f0x f0y a1x a1y a1z a2) p c W)
  case first =>
    go_region_held3 (fun W => (W.cell? ⟨w.heap.size, 0, none⟩ = some (.int .i64 a1x) ∧ W.cell? ⟨w.heap.size, 1, none⟩ = some (.int .i64 a1y) ∧ W.cell? ⟨w.heap.size, 2, none⟩ = some (.int .i64 a1z)) ∧ Below wo.heap.size wo W)
      (exact HS _ (by repeat' (first | (with_reducible exact Below.refl _ _) | (with_reducible assumption) | (with_reducible refine Base.via hb3 ?_) | (with_reducible refine Base.via hb2 ?_) | (with_reducible refine Base.via hb1 ?_) | (with_reducible refine Base.grow_alloc ?_ _) | (with_reducible refine Base.below_drewN ?_ _) | (with_reducible refine Below.drew ?_) | (with_reducible refine Below.setCell ?_ ?_ _) | go_size)))
      (first | (go_at_call 14; refine (Help.c_toPointS A0 n0 c0 f0x f0y _ (hvo.below (‹_ ∧ Below wo.heap.size wo _›).2)).mono ?_; rintro e w1 ⟨gw1, rfl, qgw1, rw1, hb1⟩; have vw1 := rw1.view (c := n0) hnn0 (Nat.le_refl _) (by omega); have z1 := hb1.size; (try simp at z1); (try (have G1_0_0 := new_call (b := wo.heap.size) (q := 0) hb1 rfl rfl; have G1_0_1 := new_call (b := wo.heap.size) (q := 1) hb1 rfl rfl; have G1_0_2 := new_call (b := wo.heap.size) (q := 2) hb1 rfl rfl; have F1_0_0 := new_call_f (b := wo.heap.size) (q := 0) hb1 rfl; have F1_0_1 := new_call_f (b := wo.heap.size) (q := 1) hb1 rfl; have F1_0_2 := new_call_f (b := wo.heap.size) (q := 2) hb1 rfl)); (try (have G1_0_0 := new_callD (b := wo.heap.size) (q := 0) hb1 rfl rfl; have G1_0_1 := new_callD (b := wo.heap.size) (q := 1) hb1 rfl rfl; have G1_0_2 := new_callD (b := wo.heap.size) (q := 2) hb1 rfl rfl; have F1_0_0 := new_callDf (b := wo.heap.size) (q := 0) hb1 rfl; have F1_0_1 := new_callDf (b := wo.heap.size) (q := 1) hb1 rfl; have F1_0_2 := new_callDf (b := wo.heap.size) (q := 2) hb1 rfl))) | (go_at_call 30; refine (Help.c_toSearch _ _ _ _).mono ?_; rintro e w2 ⟨rfl, hb2⟩; have z2 := hb2.size; (try simp at z2); (try (have G2_0_0 := cell_call hb2 G1_0_0; have G2_0_1 := cell_call hb2 G1_0_1; have G2_0_2 := cell_call hb2 G1_0_2; have F2_0_0 := fr_call hb2 G1_0_0 F1_0_0; have F2_0_1 := fr_call hb2 G1_0_1 F1_0_1; have F2_0_2 := fr_call hb2 G1_0_2 F1_0_2)); (try (have G2_1_0 := new_call (b := w1.heap.size) (q := 0) hb2 rfl rfl; have G2_1_1 := new_call (b := w1.heap.size) (q := 1) hb2 rfl rfl; have G2_1_2 := new_call (b := w1.heap.size) (q := 2) hb2 rfl rfl; have F2_1_0 := new_call_f (b := w1.heap.size) (q := 0) hb2 rfl; have F2_1_1 := new_call_f (b := w1.heap.size) (q := 1) hb2 rfl; have F2_1_2 := new_call_f (b := w1.heap.size) (q := 2) hb2 rfl)); (try (have G2_1_0 := new_callD (b := w1.heap.size) (q := 0) hb2 rfl rfl; have G2_1_1 := new_callD (b := w1.heap.size) (q := 1) hb2 rfl rfl; have G2_1_2 := new_callD (b := w1.heap.size) (q := 2) hb2 rfl rfl; have F2_1_0 := new_callDf (b := w1.heap.size) (q := 0) hb2 rfl; have F2_1_1 := new_callDf (b := w1.heap.size) (q := 1) hb2 rfl; have F2_1_2 := new_callDf (b := w1.heap.size) (q := 2) hb2 rfl))) | (go_at_call 36; refine (Ref.c_specRefineSearch _ _ _ f0x f0y a1x a1y a1z a2 _ (vw1.below (by repeat' (first | (with_reducible exact Below.refl _ _) | (with_reducible assumption) | (with_reducible refine Base.via hb2 ?_) | (with_reducible refine Base.grow_alloc ?_ _) | (with_reducible refine Base.below_drewN ?_ _) | (with_reducible refine Below.drew ?_) | (with_reducible refine Below.setCell ?_ ?_ _) | go_size)))).mono ?_; rintro e w3 ⟨rfl, hb3⟩; have z3 := hb3.size; (try simp at z3); (try (have G3_0_0 := cell_call hb3 G2_0_0; have G3_0_1 := cell_call hb3 G2_0_1; have G3_0_2 := cell_call hb3 G2_0_2; have F3_0_0 := fr_call hb3 G2_0_0 F2_0_0; have F3_0_1 := fr_call hb3 G2_0_1 F2_0_1; have F3_0_2 := fr_call hb3 G2_0_2 F2_0_2)); (try (have G3_1_0 := cell_call hb3 G2_1_0; have G3_1_1 := cell_call hb3 G2_1_1; have G3_1_2 := cell_call hb3 G2_1_2; have F3_1_0 := fr_call hb3 G2_1_0 F2_1_0; have F3_1_1 := fr_call hb3 G2_1_1 F2_1_1; have F3_1_2 := fr_call hb3 G2_1_2 F2_1_2)); (try (have G3_2_0 := new_call (b := w2.heap.size) (q := 0) hb3 rfl rfl; have G3_2_1 := new_call (b := w2.heap.size) (q := 1) hb3 rfl rfl; have G3_2_2 := new_call (b := w2.heap.size) (q := 2) hb3 rfl rfl; have F3_2_0 := new_call_f (b := w2.heap.size) (q := 0) hb3 rfl; have F3_2_1 := new_call_f (b := w2.heap.size) (q := 1) hb3 rfl; have F3_2_2 := new_call_f (b := w2.heap.size) (q := 2) hb3 rfl)); (try (have G3_2_0 := new_callD (b := w2.heap.size) (q := 0) hb3 rfl rfl; have G3_2_1 := new_callD (b := w2.heap.size) (q := 1) hb3 rfl rfl; have G3_2_2 := new_callD (b := w2.heap.size) (q := 2) hb3 rfl rfl; have F3_2_0 := new_callDf (b := w2.heap.size) (q := 0) hb3 rfl; have F3_2_1 := new_callDf (b := w2.heap.size) (q := 1) hb3 rfl; have F3_2_2 := new_callDf (b := w2.heap.size) (q := 2) hb3 rfl))))
    all_goals
      go_wp2_with fail
      go_meet
      case rel =>
        first
        | exact left_new (by omega) (‹_ ∧ Below wo.heap.size wo _›).2
        | exact left_box (by assumption) (by assumption) (by assumption) (by omega) (‹_ ∧ Below wo.heap.size wo _›).2
  case rest =>
    obtain ⟨g, rfl, rfl, g0, g1, g2, hg, hbc⟩ := hcut
    obtain ⟨wd, hwd⟩ : ∃ wd : World, wd = wc := ⟨_, rfl⟩
    rw [← hwd] at hbc g0 g1 g2 ⊢
    clear hwd
    have j0 := cell_call hbc k0
    have j1 := cell_call hbc k1
    have j2 := cell_call hbc k2
    clear k0 k1 k2 HS
    go_wp2_with fail
    refine (Help.c_toPointS A0 n0 c0 f0x f0y _ (hvo.below hbc)).mono ?_
    rintro e w4 ⟨gw4, rfl, qgw4, rw4, hb4⟩
    have vw4 := rw4.view (c := n0) hnn0 (Nat.le_refl _) (by omega)
    have j0 := cell_call hb4 j0
    have j1 := cell_call hb4 j1
    have j2 := cell_call hb4 j2
    have g0 := cell_call hb4 g0
    have g1 := cell_call hb4 g1
    have g2 := cell_call hb4 g2
    go_wp2_with fail
    refine (Help.c_toSearch _ _ _ _).mono ?_
    rintro e w5 ⟨rfl, hb5⟩
    have g0 := cell_call hb5 g0
    have g1 := cell_call hb5 g1
    have g2 := cell_call hb5 g2
    go_wp2_with fail
    refine (Ref.c_RefineSearch _ _ _ f0x f0y a1x a1y a1z a2 _ (vw4.below (by repeat' (first | (with_reducible exact Below.refl _ _) | (with_reducible assumption) | (with_reducible refine Base.via hb5 ?_) | (with_reducible refine Base.grow_alloc ?_ _) | (with_reducible refine Base.below_drewN ?_ _) | (with_reducible refine Below.drew ?_) | (with_reducible refine Below.setCell ?_ ?_ _) | go_size)))).mono ?_
    rintro e w6 ⟨rfl, hb6⟩
    have g0 := cell_call hb6 g0
    have g1 := cell_call hb6 g1
    have g2 := cell_call hb6 g2
    have lg := World.block_lt_of_cell? _ _ g0
    dsimp only at lg
    go_wp2_with fail
    refine (Help.c_eqSearch _ _ _ _).mono ?_
    rintro e w7 ⟨rfl, hb7⟩
    go_wp2_with fail
    refine (Help.c_toPointS A0 n0 c0 f0x f0y _ (hvo.below (by repeat' (first | (with_reducible exact Below.refl _ _) | (with_reducible assumption) | (with_reducible refine Base.via hb7 ?_) | (with_reducible refine Base.via hb6 ?_) | (with_reducible refine Base.via hb5 ?_) | (with_reducible refine Base.via hb4 ?_) | (with_reducible refine Base.via hbc ?_) | (with_reducible refine Base.grow_alloc ?_ _) | (with_reducible refine Base.below_drewN ?_ _) | (with_reducible refine Below.drew ?_) | (with_reducible refine Below.setCell ?_ ?_ _) | go_size)))).mono ?_
    rintro e w8 ⟨gw8, rfl, qgw8, rw8, hb8⟩
    have vw8 := rw8.view (c := n0) hnn0 (Nat.le_refl _) (by omega)
    go_wp2_with fail
    refine (Help.c_eqPointS _ _ _ _ _ f0x f0y _ (vw4.below (by repeat' (first | (with_reducible exact Below.refl _ _) | (with_reducible assumption) | (with_reducible refine Base.via hb8 ?_) | (with_reducible refine Base.via hb7 ?_) | (with_reducible refine Base.via hb6 ?_) | (with_reducible refine Base.via hb5 ?_) | (with_reducible refine Base.grow_alloc ?_ _) | (with_reducible refine Base.below_drewN ?_ _) | (with_reducible refine Below.drew ?_) | (with_reducible refine Below.setCell ?_ ?_ _) | go_size))) (vw8.below (by repeat' (first | (with_reducible exact Below.refl _ _) | (with_reducible assumption) | (with_reducible refine Base.grow_alloc ?_ _) | (with_reducible refine Base.below_drewN ?_ _) | (with_reducible refine Below.drew ?_) | (with_reducible refine Below.setCell ?_ ?_ _) | go_size)))).mono ?_
    rintro e w9 ⟨rfl, hb9⟩
    go_wp2_with fail
    go_ret
    exact ⟨rfl, (by repeat' (first | (with_reducible exact Below.refl _ _) | (with_reducible assumption) | (with_reducible refine Base.via hb9 ?_) | (with_reducible refine Base.via hb8 ?_) | (with_reducible refine Base.via hb7 ?_) | (with_reducible refine Base.via hb6 ?_) | (with_reducible refine Base.via hb5 ?_) | (with_reducible refine Base.via hb4 ?_) | (with_reducible refine Base.via hbc ?_) | (with_reducible refine Base.via hbo ?_) | (with_reducible refine Base.grow_alloc ?_ _) | (with_reducible refine Base.below_drewN ?_ _) | (with_reducible refine Below.drew ?_) | (with_reducible refine Below.setCell ?_ ?_ _) | go_size))⟩

theorem walk_big (A0 : Option Addr) (n0 c0 : Nat) (a1x a1y a1z : Int) (a2 : Int) (w : World) (hm : n0 ≤ 9223372036854775807) (hbig : 1048576 < n0) :
    Calls Try.prog 10 #[.slice A0 n0 c0, .agg #[.int .i64 a1x, .int .i64 a1y, .int .i64 a1z], .int .i64 a2] w fun r w' => r = .returned (.bool true) ∧ Below w.heap.size w w' := by
  go_enter Try.func10, Try.ntmps10
  go_wp2_with fail
  refine (Help.c_szPointS_no _ _ _ _ _ (by omega) (by omega) (by omega) (by omega)).mono ?_
  rintro e w' ⟨rfl, rfl⟩
  go_wp2_with fail
  go_ret
  exact ⟨rfl, (by repeat' (first | (with_reducible exact Below.refl _ _) | (with_reducible assumption) | (with_reducible refine Base.grow_alloc ?_ _) | (with_reducible refine Base.below_drewN ?_ _) | (with_reducible refine Below.drew ?_) | (with_reducible refine Below.setCell ?_ ?_ _) | go_size))⟩

set_option maxRecDepth 100000 in
theorem lifted (os : Os) (started : os.Started) (H : Type) (enc : TypeId × Value → H) :
    ReturnsInHanded {} Try.checked os 10 .any (Rows.fnExactRefineSearchSpec.pre6 enc Try.prog Try.f10 Rows.fnExactRefineSearchRow.domain false) (Rows.fnExactRefineSearchSpec.post enc Try.prog Try.f10 false true false false) := by
  refine returnsInHanded_of_change (C := Try.checked) Open.own started (by kernel_rfl) Try.func10
    (ChangeSpec.witness6 (enc := enc) (C := Try.checked) false ⟨#[], #[.slice none 0 0, .agg #[.int .i64 0, .int .i64 0, .int .i64 0], .int .i64 0], []⟩ 8 (by kernel_rfl) (by kernel_rfl) (by kernel_rfl) (by kernel_rfl)) ?_
  intro W base args ds gs before hval0 hW _ _
  have hval : ∀ (j : Nat) t v, Try.f10.params[j]? = some t → args[j]? = some v → Value.okWide Try.prog W .any base t v := hval0
  have hW' := hW
  obtain ⟨p, q, hA0, hV, rfl, _, _⟩ := hW
  have hA : DataW.TrodAll enc Try.prog W 0 (fun _ => true) true Try.f10.params.toList args.toList ds p := hA0
  rw [Try.params10] at hA hval
  obtain ⟨v0, vs0, d0, ds0, p0, q0, hargs, rfl, rfl, h0, r0⟩ := trodAll_cons hA
  obtain ⟨v1, vs1, d1, ds1, p1, q1, rfl, rfl, rfl, h1, r1⟩ := trodAll_cons r0
  obtain ⟨v2, vs2, d2, ds2, p2, q2, rfl, rfl, rfl, h2, r2⟩ := trodAll_cons r1
  obtain ⟨rfl, rfl, rfl⟩ := trodAll_nil r2
  obtain rfl : args = #[v0, v1, v2] := by cases args; simp_all
  obtain ⟨hg, hq⟩ := trodVars_none hV
  subst hg; subst hq
  obtain ⟨A0, n0, c0, f0x, f0y, rfl, m0, s0⟩ := Open.openS2 (by kernel_rfl) (by kernel_rfl) Try.underlying22 Try.underlying65 Try.underlying2 (hval 0 22 v0 rfl rfl) h0
  obtain ⟨a1x, a1y, a1z, rfl⟩ := Open.open3 (by kernel_rfl) (by kernel_rfl) Try.underlying46 Try.underlying2 (hval 1 46 v1 rfl rfl) h1
  obtain ⟨a2, rfl, rfl, rfl, _⟩ := open_int Try.underlying2 (hval 2 2 v2 rfl rfl) h2
  clear hA0 hval0 hA r0
  have fin : Calls Try.checked.prog 10 #[.slice A0 n0 c0, .agg #[.int .i64 a1x, .int .i64 a1y, .int .i64 a1z], .int .i64 a2] W fun r w' => r = .returned (.bool true) ∧ Below W.heap.size W w' := by
    rcases Nat.lt_or_ge 1048576 (n0) with hs0 | hs0
    · exact walk_big A0 n0 c0 a1x a1y a1z a2 W m0 (by omega)
    exact walk A0 n0 c0 f0x f0y a1x a1y a1z a2 W (by omega) (s0 (by omega))
  refine fin.mono fun e W' ⟨he, hb⟩ => ?_
  subst he
  exact ⟨_, rfl, Base.lawPost Open.laidOut (of_decide_eq_true (by kernel_rfl)) rfl Try.underlying4 rfl rfl hW' hb⟩

theorem holds : Rows.FnExactRefineSearchSaid :=
  OpenClaim.holds_of_wide 10 Try.f10 rfl rfl rfl rfl rfl rfl rfl ⟨rfl, rfl, rfl, rfl, rfl⟩ rfl rfl rfl rfl rfl (by kernel_rfl) Try.func10 (by kernel_rfl)
    (of_decide_eq_true (by kernel_rfl)) (by unfold Func.isWrapper; first | (rw [if_pos (by decide +kernel)]; kernel_rfl) | (rw [if_neg (by decide +kernel)]; exact ⟨rfl, rfl⟩))
    (fun os started H enc _ => lifted os started H enc)
#print axioms holds
end Go.Proofs.Ytenjcdhehjdeoaa.LRefineSearch
