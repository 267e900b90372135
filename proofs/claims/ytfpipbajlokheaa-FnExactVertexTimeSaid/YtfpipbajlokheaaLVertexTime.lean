/- FnExactVertexTime: for every input the law returns true, and its arguments read behind the call as before. No condition. -/
import Derived.Test.YtfpipbajlokheaaVertex
import Derived.Test.YtfpipbajlokheaaVertex2
import Derived.Test.YtfpipbajlokheaaHelp
import Derived.Test.YtfpipbajlokheaaOpen
import Derived.Test.YtfpipbajlokheaaRows
import Derived.Deep.RegionHeld3
import Derived.Deep.DeepCutAuto
namespace Go.Proofs.Ytfpipbajlokheaa.LVertexTime
set_option linter.unusedVariables false
set_option linter.unusedSimpArgs false
open Go.ChangeShapes Go.WideShapes Go.ChangeAt Go.RowKit Go.Joins Plain View

theorem new_call {W w1 : World} {cs : Array Value} {t : TypeId} (hb : Below (W.alloc (.cells cs t)).heap.size (W.alloc (.cells cs t)) w1) {b q : Nat} (hbq : b = W.heap.size) {v : Value} (hv : cs[q]? = some v) : w1.cell? ⟨b, q, none⟩ = some v := by
  subst hbq
  refine (hb.cell (p := ⟨W.heap.size, q, none⟩) (by simp)).trans ?_
  have h := heap_alloc_new W (.cells cs t)
  unfold World.cell?
  rw [h]
  simpa using hv
theorem new_call_f {W w1 : World} {cs : Array Value} {t : TypeId} (hb : Below (W.alloc (.cells cs t)).heap.size (W.alloc (.cells cs t)) w1) {b q : Nat} (hbq : b = W.heap.size) : w1.frozen? ⟨b, q, none⟩ = false := by
  subst hbq
  refine (hb.frozen (p := ⟨W.heap.size, q, none⟩) (by simp)).trans ?_
  have h := heap_alloc_new W (.cells cs t)
  unfold World.frozen?
  rw [h]
  simp
theorem new_callD {W w1 : World} {cs : Array Value} {t : TypeId} (hb : Below (W.alloc (.cells cs t)).drew.heap.size (W.alloc (.cells cs t)).drew w1) {b q : Nat} (hbq : b = W.heap.size) {v : Value} (hv : cs[q]? = some v) : w1.cell? ⟨b, q, none⟩ = some v := by
  subst hbq
  refine (hb.cell (p := ⟨W.heap.size, q, none⟩) (by show W.heap.size < (W.alloc (.cells cs t)).heap.size; simp)).trans ?_
  show (W.alloc (.cells cs t)).cell? _ = _
  have h := heap_alloc_new W (.cells cs t)
  unfold World.cell?
  rw [h]
  simpa using hv
theorem new_callDf {W w1 : World} {cs : Array Value} {t : TypeId} (hb : Below (W.alloc (.cells cs t)).drew.heap.size (W.alloc (.cells cs t)).drew w1) {b q : Nat} (hbq : b = W.heap.size) : w1.frozen? ⟨b, q, none⟩ = false := by
  subst hbq
  refine (hb.frozen (p := ⟨W.heap.size, q, none⟩) (by show W.heap.size < (W.alloc (.cells cs t)).heap.size; simp)).trans ?_
  show (W.alloc (.cells cs t)).frozen? _ = _
  have h := heap_alloc_new W (.cells cs t)
  unfold World.frozen?
  rw [h]
  simp
/-- what the region with the call leaves: the box of the result, the code, the boxes of the arguments as they were -/
def Left (w wo : World) (a0x a0y a1x a1y a2x a2y : Int) (p c : Value) (W : World) : Prop :=
  ∃ g : Nat, p = .pointer (some ⟨g, 0, none⟩) ∧ c = .int .i64 (Vertex.verC a0x a0y a1x a1y a2x a2y) ∧ W.cell? ⟨g, 0, none⟩ = some (.int .i64 (Vertex.verN a0x a0y a1x a1y a2x a2y)) ∧ W.cell? ⟨g, 1, none⟩ = some (.int .i64 (Vertex.verD a0x a0y a1x a1y a2x a2y)) ∧ wo.heap.size ≤ g ∧ Below wo.heap.size wo W
theorem left_box {w wo W : World} {a0x a0y a1x a1y a2x a2y : Int} {g : Nat} {u v : Value} (c0 : W.cell? ⟨g, 0, none⟩ = some u) (c1 : W.cell? ⟨g, 1, none⟩ = some v) (hg : wo.heap.size ≤ g) (hb : Below wo.heap.size wo ((W.setCell ⟨g, 0, none⟩ (.int .i64 (Vertex.verN a0x a0y a1x a1y a2x a2y))).setCell ⟨g, 1, none⟩ (.int .i64 (Vertex.verD a0x a0y a1x a1y a2x a2y)))) :
    Left w wo a0x a0y a1x a1y a2x a2y (.pointer (some ⟨g, 0, none⟩)) (.int .i64 (Vertex.verC a0x a0y a1x a1y a2x a2y)) ((W.setCell ⟨g, 0, none⟩ (.int .i64 (Vertex.verN a0x a0y a1x a1y a2x a2y))).setCell ⟨g, 1, none⟩ (.int .i64 (Vertex.verD a0x a0y a1x a1y a2x a2y))) :=
  ⟨g, rfl, rfl, (World.cell?_setCell_other _ _ _ _ (by simp)).trans (World.cell?_setCell_same _ _ _ c0), World.cell?_setCell_same _ _ _ ((World.cell?_setCell_other _ _ _ _ (by simp)).trans c1), hg, hb⟩
theorem left_new {w wo W : World} {a0x a0y a1x a1y a2x a2y : Int} {t : TypeId} (hg : wo.heap.size ≤ W.heap.size) (hb : Below wo.heap.size wo (W.alloc (.cells #[.int .i64 (Vertex.verN a0x a0y a1x a1y a2x a2y), .int .i64 (Vertex.verD a0x a0y a1x a1y a2x a2y)] t))) :
    Left w wo a0x a0y a1x a1y a2x a2y (.pointer (some ⟨W.heap.size, 0, none⟩)) (.int .i64 (Vertex.verC a0x a0y a1x a1y a2x a2y)) (W.alloc (.cells #[.int .i64 (Vertex.verN a0x a0y a1x a1y a2x a2y), .int .i64 (Vertex.verD a0x a0y a1x a1y a2x a2y)] t)) :=
  ⟨W.heap.size, rfl, rfl, by simp [go_sem], by simp [go_sem], hg, hb⟩
set_option maxRecDepth 8000 in
set_option maxHeartbeats 1600000 in
theorem walk (a0x a0y : Int) (a1x a1y : Int) (a2x a2y : Int) (w : World) :
    Calls Try.prog 6 #[.agg #[.int .i64 a0x, .int .i64 a0y], .agg #[.int .i64 a1x, .int .i64 a1y], .agg #[.int .i64 a2x, .int .i64 a2y]] w fun r w' => r = .returned (.bool true) ∧ Below w.heap.size w w' := by
  go_enter Try.func6, Try.ntmps6
  go_wp2_with fail
  obtain ⟨wo, hwo⟩ : ∃ wo : World, wo = ((w.alloc (.cells #[.int .i64 a0x, .int .i64 a0y] 44)).alloc (.cells #[.int .i64 a1x, .int .i64 a1y] 44)).alloc (.cells #[.int .i64 a2x, .int .i64 a2y] 44) := ⟨_, rfl⟩
  have zo : w.heap.size + 3 ≤ wo.heap.size := by rw [hwo]; simp
  have k00 : wo.cell? ⟨w.heap.size, 0, none⟩ = some (.int .i64 a0x) := by rw [hwo]; simp [go_sem]
  have k01 : wo.cell? ⟨w.heap.size, 1, none⟩ = some (.int .i64 a0y) := by rw [hwo]; simp [go_sem]
  have k10 : wo.cell? ⟨w.heap.size + 1, 0, none⟩ = some (.int .i64 a1x) := by rw [hwo]; simp [go_sem]
  have k11 : wo.cell? ⟨w.heap.size + 1, 1, none⟩ = some (.int .i64 a1y) := by rw [hwo]; simp [go_sem]
  have k20 : wo.cell? ⟨w.heap.size + 1 + 1, 0, none⟩ = some (.int .i64 a2x) := by rw [hwo]; simp [go_sem]
  have k21 : wo.cell? ⟨w.heap.size + 1 + 1, 1, none⟩ = some (.int .i64 a2y) := by rw [hwo]; simp [go_sem]
  have hbo : Below w.heap.size w wo := by rw [hwo]; exact (by repeat' (first | (with_reducible exact Below.refl _ _) | (with_reducible assumption) | (with_reducible refine Base.grow_alloc ?_ _) | (with_reducible refine Base.below_drewN ?_ _) | (with_reducible refine Below.drew ?_) | (with_reducible refine Below.setCell ?_ ?_ _) | go_size))
  rw [← hwo]
  clear hwo
  have HS : ∀ {w0 : World}, Below wo.heap.size wo w0 → ∀ W : World, Below wo.heap.size w0 W → (W.cell? ⟨w.heap.size, 0, none⟩ = some (.int .i64 a0x) ∧ W.cell? ⟨w.heap.size, 1, none⟩ = some (.int .i64 a0y) ∧ W.cell? ⟨w.heap.size + 1, 0, none⟩ = some (.int .i64 a1x) ∧ W.cell? ⟨w.heap.size + 1, 1, none⟩ = some (.int .i64 a1y) ∧ W.cell? ⟨w.heap.size + 1 + 1, 0, none⟩ = some (.int .i64 a2x) ∧ W.cell? ⟨w.heap.size + 1 + 1, 1, none⟩ = some (.int .i64 a2y)) ∧ Below wo.heap.size w0 W :=
    fun {w0} h0 W hW => ⟨⟨((h0.trans hW).cell (p := ⟨w.heap.size, 0, none⟩) (show w.heap.size < wo.heap.size by omega)).trans k00, ((h0.trans hW).cell (p := ⟨w.heap.size, 1, none⟩) (show w.heap.size < wo.heap.size by omega)).trans k01, ((h0.trans hW).cell (p := ⟨w.heap.size + 1, 0, none⟩) (show w.heap.size + 1 < wo.heap.size by omega)).trans k10, ((h0.trans hW).cell (p := ⟨w.heap.size + 1, 1, none⟩) (show w.heap.size + 1 < wo.heap.size by omega)).trans k11, ((h0.trans hW).cell (p := ⟨w.heap.size + 1 + 1, 0, none⟩) (show w.heap.size + 1 + 1 < wo.heap.size by omega)).trans k20, ((h0.trans hW).cell (p := ⟨w.heap.size + 1 + 1, 1, none⟩) (show w.heap.size + 1 + 1 < wo.heap.size by omega)).trans k21⟩, hW⟩
  have H0 := Below.refl wo.heap.size wo
  go_upto_region 1 with fail
  go_cut [7, 8] (fun p c W => Left w wo a0x a0y a1x a1y a2x a2y p c W)
  case first =>
    go_region_held3 (fun W => (W.cell? ⟨w.heap.size, 0, none⟩ = some (.int .i64 a0x) ∧ W.cell? ⟨w.heap.size, 1, none⟩ = some (.int .i64 a0y) ∧ W.cell? ⟨w.heap.size + 1, 0, none⟩ = some (.int .i64 a1x) ∧ W.cell? ⟨w.heap.size + 1, 1, none⟩ = some (.int .i64 a1y) ∧ W.cell? ⟨w.heap.size + 1 + 1, 0, none⟩ = some (.int .i64 a2x) ∧ W.cell? ⟨w.heap.size + 1 + 1, 1, none⟩ = some (.int .i64 a2y)) ∧ Below wo.heap.size wo W)
      (exact HS H0 _ (by repeat' (first | (with_reducible exact Below.refl _ _) | (with_reducible assumption) | (with_reducible refine Base.via hb4 ?_) | (with_reducible refine Base.via hb3 ?_) | (with_reducible refine Base.via hb2 ?_) | (with_reducible refine Base.via hb1 ?_) | (with_reducible refine Base.grow_alloc ?_ _) | (with_reducible refine Base.below_drewN ?_ _) | (with_reducible refine Below.drew ?_) | (with_reducible refine Below.setCell ?_ ?_ _) | go_size)))
      (first | (go_at_call_of 31 (Value.agg #[.int .i64 a0x, .int .i64 a0y]); refine (Help.c_toPoint _ _ _).mono ?_; rintro e w1 ⟨rfl, hb1⟩; have zhb1 := hb1.size; (try simp at zhb1); (try (have G1_0_0 := new_callD (b := wo.heap.size) (q := 0) hb1 rfl rfl; have G1_0_1 := new_callD (b := wo.heap.size) (q := 1) hb1 rfl rfl; have G1_0_f := new_callDf (b := wo.heap.size) (q := 0) hb1 rfl; have G1_0_g := new_callDf (b := wo.heap.size) (q := 1) hb1 rfl))) | (go_at_call_of 31 (Value.agg #[.int .i64 a1x, .int .i64 a1y]); refine (Help.c_toPoint _ _ _).mono ?_; rintro e w2 ⟨rfl, hb2⟩; have zhb2 := hb2.size; (try simp at zhb2); (try (have G2_0_0 := cell_call hb2 G1_0_0; have G2_0_1 := cell_call hb2 G1_0_1; have G2_0_f := fr_call hb2 G1_0_0 G1_0_f; have G2_0_g := fr_call hb2 G1_0_1 G1_0_g)); (try (have G2_d_0 := cell_call hb2 G1_d_0; have G2_d_1 := cell_call hb2 G1_d_1; have G2_d_f := fr_call hb2 G1_d_0 G1_d_f; have G2_d_g := fr_call hb2 G1_d_1 G1_d_g)); (try (have G2_1_0 := new_call (b := w1.heap.size) (q := 0) hb2 rfl rfl; have G2_1_1 := new_call (b := w1.heap.size) (q := 1) hb2 rfl rfl; have G2_1_f := new_call_f (b := w1.heap.size) (q := 0) hb2 rfl; have G2_1_g := new_call_f (b := w1.heap.size) (q := 1) hb2 rfl))) | (go_at_call_of 31 (Value.agg #[.int .i64 a2x, .int .i64 a2y]); refine (Help.c_toPoint _ _ _).mono ?_; rintro e w3 ⟨rfl, hb3⟩; have zhb3 := hb3.size; (try simp at zhb3); (try (have G3_0_0 := cell_call hb3 G2_0_0; have G3_0_1 := cell_call hb3 G2_0_1; have G3_0_f := fr_call hb3 G2_0_0 G2_0_f; have G3_0_g := fr_call hb3 G2_0_1 G2_0_g)); (try (have G3_d_0 := cell_call hb3 G2_d_0; have G3_d_1 := cell_call hb3 G2_d_1; have G3_d_f := fr_call hb3 G2_d_0 G2_d_f; have G3_d_g := fr_call hb3 G2_d_1 G2_d_g)); (try (have G3_1_0 := cell_call hb3 G2_1_0; have G3_1_1 := cell_call hb3 G2_1_1; have G3_1_f := fr_call hb3 G2_1_0 G2_1_f; have G3_1_g := fr_call hb3 G2_1_1 G2_1_g)); (try (have G3_2_0 := new_call (b := w2.heap.size) (q := 0) hb3 rfl rfl; have G3_2_1 := new_call (b := w2.heap.size) (q := 1) hb3 rfl rfl; have G3_2_f := new_call_f (b := w2.heap.size) (q := 0) hb3 rfl; have G3_2_g := new_call_f (b := w2.heap.size) (q := 1) hb3 rfl))) | (go_at_call 30; refine (Vertex.c_specVertexTime a0x a0y a1x a1y a2x a2y _).mono ?_; rintro e w4 ⟨rfl, hb4⟩; have zhb4 := hb4.size; (try simp at zhb4); (try (have G4_0_0 := cell_call hb4 G3_0_0; have G4_0_1 := cell_call hb4 G3_0_1; have G4_0_f := fr_call hb4 G3_0_0 G3_0_f; have G4_0_g := fr_call hb4 G3_0_1 G3_0_g)); (try (have G4_d_0 := cell_call hb4 G3_d_0; have G4_d_1 := cell_call hb4 G3_d_1; have G4_d_f := fr_call hb4 G3_d_0 G3_d_f; have G4_d_g := fr_call hb4 G3_d_1 G3_d_g)); (try (have G4_1_0 := cell_call hb4 G3_1_0; have G4_1_1 := cell_call hb4 G3_1_1; have G4_1_f := fr_call hb4 G3_1_0 G3_1_f; have G4_1_g := fr_call hb4 G3_1_1 G3_1_g)); (try (have G4_2_0 := cell_call hb4 G3_2_0; have G4_2_1 := cell_call hb4 G3_2_1; have G4_2_f := fr_call hb4 G3_2_0 G3_2_f; have G4_2_g := fr_call hb4 G3_2_1 G3_2_g)); (try (have G4_3_0 := new_call (b := w3.heap.size) (q := 0) hb4 rfl rfl; have G4_3_1 := new_call (b := w3.heap.size) (q := 1) hb4 rfl rfl; have G4_3_f := new_call_f (b := w3.heap.size) (q := 0) hb4 rfl; have G4_3_g := new_call_f (b := w3.heap.size) (q := 1) hb4 rfl))))
    all_goals
      go_wp2_with fail
      go_meet
      case rel =>
        first
        | exact left_new (by omega) (‹_ ∧ Below wo.heap.size wo _›).2
        | exact left_box (by assumption) (by assumption) (by omega) (‹_ ∧ Below wo.heap.size wo _›).2
  case rest =>
    obtain ⟨g, rfl, rfl, hg0, hg1, hg2, hg3⟩ := hcut
    have q00 := cell_call hg3 k00
    have q01 := cell_call hg3 k01
    have q10 := cell_call hg3 k10
    have q11 := cell_call hg3 k11
    have q20 := cell_call hg3 k20
    have q21 := cell_call hg3 k21
    have zc := hg3.size
    have hbc : Below w.heap.size w wc := (by repeat' (first | (with_reducible exact Below.refl _ _) | (with_reducible assumption) | (with_reducible refine Base.via hg3 ?_) | (with_reducible refine Base.via hbo ?_) | (with_reducible refine Base.grow_alloc ?_ _) | (with_reducible refine Base.below_drewN ?_ _) | (with_reducible refine Below.drew ?_) | (with_reducible refine Below.setCell ?_ ?_ _) | go_size))
    clear HS H0 k00 k01 k10 k11 k20 k21
    obtain ⟨wx, hwx⟩ : ∃ wx : World, wx = wc := ⟨_, rfl⟩
    rw [← hwx] at hg0 hg1 q00 q01 q10 q11 q20 q21 zc hbc hg3 ⊢
    clear hwx
    have HS : ∀ {w0 : World}, Below wx.heap.size wx w0 → ∀ W : World, Below wx.heap.size w0 W → (W.cell? ⟨w.heap.size, 0, none⟩ = some (.int .i64 a0x) ∧ W.cell? ⟨w.heap.size, 1, none⟩ = some (.int .i64 a0y) ∧ W.cell? ⟨w.heap.size + 1, 0, none⟩ = some (.int .i64 a1x) ∧ W.cell? ⟨w.heap.size + 1, 1, none⟩ = some (.int .i64 a1y) ∧ W.cell? ⟨w.heap.size + 1 + 1, 0, none⟩ = some (.int .i64 a2x) ∧ W.cell? ⟨w.heap.size + 1 + 1, 1, none⟩ = some (.int .i64 a2y)) ∧ Below wx.heap.size w0 W :=
      fun {w0} h0 W hW => ⟨⟨((h0.trans hW).cell (p := ⟨w.heap.size, 0, none⟩) (show w.heap.size < wx.heap.size by omega)).trans q00, ((h0.trans hW).cell (p := ⟨w.heap.size, 1, none⟩) (show w.heap.size < wx.heap.size by omega)).trans q01, ((h0.trans hW).cell (p := ⟨w.heap.size + 1, 0, none⟩) (show w.heap.size + 1 < wx.heap.size by omega)).trans q10, ((h0.trans hW).cell (p := ⟨w.heap.size + 1, 1, none⟩) (show w.heap.size + 1 < wx.heap.size by omega)).trans q11, ((h0.trans hW).cell (p := ⟨w.heap.size + 1 + 1, 0, none⟩) (show w.heap.size + 1 + 1 < wx.heap.size by omega)).trans q20, ((h0.trans hW).cell (p := ⟨w.heap.size + 1 + 1, 1, none⟩) (show w.heap.size + 1 + 1 < wx.heap.size by omega)).trans q21⟩, hW⟩
    have H0 := Below.refl wx.heap.size wx
    have HV := Lib.hid (fun W => Vertex2.c_VertexTime a0x a0y a1x a1y a2x a2y W)
    have HG0 := Lib.hid hg0
    have HG1 := Lib.hid hg1
    have hgl : g < wx.heap.size := World.block_lt_of_cell? _ _ hg0
    clear hg0 hg1 hg3
    go_upto_region 2 with fail
    go_cut [9, 10] (fun p c W => Left w wx a0x a0y a1x a1y a2x a2y p c W)
    case first =>
      go_region_held3 (fun W => (W.cell? ⟨w.heap.size, 0, none⟩ = some (.int .i64 a0x) ∧ W.cell? ⟨w.heap.size, 1, none⟩ = some (.int .i64 a0y) ∧ W.cell? ⟨w.heap.size + 1, 0, none⟩ = some (.int .i64 a1x) ∧ W.cell? ⟨w.heap.size + 1, 1, none⟩ = some (.int .i64 a1y) ∧ W.cell? ⟨w.heap.size + 1 + 1, 0, none⟩ = some (.int .i64 a2x) ∧ W.cell? ⟨w.heap.size + 1 + 1, 1, none⟩ = some (.int .i64 a2y)) ∧ Below wx.heap.size wx W)
        (exact HS H0 _ (by repeat' (first | (with_reducible exact Below.refl _ _) | (with_reducible assumption) | (with_reducible refine Base.via hb4 ?_) | (with_reducible refine Base.via hb3 ?_) | (with_reducible refine Base.via hb2 ?_) | (with_reducible refine Base.via hb1 ?_) | (with_reducible refine Base.grow_alloc ?_ _) | (with_reducible refine Base.below_drewN ?_ _) | (with_reducible refine Below.drew ?_) | (with_reducible refine Below.setCell ?_ ?_ _) | go_size)))
        (first | (go_at_call_of 31 (Value.agg #[.int .i64 a0x, .int .i64 a0y]); refine (Help.c_toPoint _ _ _).mono ?_; rintro e w1 ⟨rfl, hb1⟩; have zhb1 := hb1.size; (try simp at zhb1); (try (have G1_0_0 := new_callD (b := wx.heap.size) (q := 0) hb1 rfl rfl; have G1_0_1 := new_callD (b := wx.heap.size) (q := 1) hb1 rfl rfl; have G1_0_f := new_callDf (b := wx.heap.size) (q := 0) hb1 rfl; have G1_0_g := new_callDf (b := wx.heap.size) (q := 1) hb1 rfl))) | (go_at_call_of 31 (Value.agg #[.int .i64 a1x, .int .i64 a1y]); refine (Help.c_toPoint _ _ _).mono ?_; rintro e w2 ⟨rfl, hb2⟩; have zhb2 := hb2.size; (try simp at zhb2); (try (have G2_0_0 := cell_call hb2 G1_0_0; have G2_0_1 := cell_call hb2 G1_0_1; have G2_0_f := fr_call hb2 G1_0_0 G1_0_f; have G2_0_g := fr_call hb2 G1_0_1 G1_0_g)); (try (have G2_d_0 := cell_call hb2 G1_d_0; have G2_d_1 := cell_call hb2 G1_d_1; have G2_d_f := fr_call hb2 G1_d_0 G1_d_f; have G2_d_g := fr_call hb2 G1_d_1 G1_d_g)); (try (have G2_1_0 := new_call (b := w1.heap.size) (q := 0) hb2 rfl rfl; have G2_1_1 := new_call (b := w1.heap.size) (q := 1) hb2 rfl rfl; have G2_1_f := new_call_f (b := w1.heap.size) (q := 0) hb2 rfl; have G2_1_g := new_call_f (b := w1.heap.size) (q := 1) hb2 rfl))) | (go_at_call_of 31 (Value.agg #[.int .i64 a2x, .int .i64 a2y]); refine (Help.c_toPoint _ _ _).mono ?_; rintro e w3 ⟨rfl, hb3⟩; have zhb3 := hb3.size; (try simp at zhb3); (try (have G3_0_0 := cell_call hb3 G2_0_0; have G3_0_1 := cell_call hb3 G2_0_1; have G3_0_f := fr_call hb3 G2_0_0 G2_0_f; have G3_0_g := fr_call hb3 G2_0_1 G2_0_g)); (try (have G3_d_0 := cell_call hb3 G2_d_0; have G3_d_1 := cell_call hb3 G2_d_1; have G3_d_f := fr_call hb3 G2_d_0 G2_d_f; have G3_d_g := fr_call hb3 G2_d_1 G2_d_g)); (try (have G3_1_0 := cell_call hb3 G2_1_0; have G3_1_1 := cell_call hb3 G2_1_1; have G3_1_f := fr_call hb3 G2_1_0 G2_1_f; have G3_1_g := fr_call hb3 G2_1_1 G2_1_g)); (try (have G3_2_0 := new_call (b := w2.heap.size) (q := 0) hb3 rfl rfl; have G3_2_1 := new_call (b := w2.heap.size) (q := 1) hb3 rfl rfl; have G3_2_f := new_call_f (b := w2.heap.size) (q := 0) hb3 rfl; have G3_2_g := new_call_f (b := w2.heap.size) (q := 1) hb3 rfl))) | (go_at_call 32; refine Calls.mono (HV.out _) ?_; rintro e w4 ⟨rfl, hb4⟩; have zhb4 := hb4.size; (try simp at zhb4); (try (have G4_0_0 := cell_call hb4 G3_0_0; have G4_0_1 := cell_call hb4 G3_0_1; have G4_0_f := fr_call hb4 G3_0_0 G3_0_f; have G4_0_g := fr_call hb4 G3_0_1 G3_0_g)); (try (have G4_d_0 := cell_call hb4 G3_d_0; have G4_d_1 := cell_call hb4 G3_d_1; have G4_d_f := fr_call hb4 G3_d_0 G3_d_f; have G4_d_g := fr_call hb4 G3_d_1 G3_d_g)); (try (have G4_1_0 := cell_call hb4 G3_1_0; have G4_1_1 := cell_call hb4 G3_1_1; have G4_1_f := fr_call hb4 G3_1_0 G3_1_f; have G4_1_g := fr_call hb4 G3_1_1 G3_1_g)); (try (have G4_2_0 := cell_call hb4 G3_2_0; have G4_2_1 := cell_call hb4 G3_2_1; have G4_2_f := fr_call hb4 G3_2_0 G3_2_f; have G4_2_g := fr_call hb4 G3_2_1 G3_2_g)); (try (have G4_3_0 := new_call (b := w3.heap.size) (q := 0) hb4 rfl rfl; have G4_3_1 := new_call (b := w3.heap.size) (q := 1) hb4 rfl rfl; have G4_3_f := new_call_f (b := w3.heap.size) (q := 0) hb4 rfl; have G4_3_g := new_call_f (b := w3.heap.size) (q := 1) hb4 rfl))))
      all_goals
        go_wp2_with fail
        go_meet
        case rel =>
          first
          | exact left_new (by omega) (‹_ ∧ Below wx.heap.size wx _›).2
          | exact left_box (by assumption) (by assumption) (by omega) (‹_ ∧ Below wx.heap.size wx _›).2
    case rest =>
      obtain ⟨g', rfl, rfl, gh0, gh1, gh2, gh3⟩ := hcut
      have e0 := cell_call gh3 HG0.out
      have e1 := cell_call gh3 HG1.out
      clear HS H0 HG0 HG1
      go_wp2_with (first | (go_at_call 33; refine (Help.c_eqFraction _ _ _).mono ?_; rintro e w5 ⟨rfl, hb5⟩))
      go_ret
      exact ⟨rfl, (by repeat' (first | (with_reducible exact Below.refl _ _) | (with_reducible assumption) | (with_reducible refine Base.via hb5 ?_) | (with_reducible refine Base.via gh3 ?_) | (with_reducible refine Base.via hbc ?_) | (with_reducible refine Base.grow_alloc ?_ _) | (with_reducible refine Base.below_drewN ?_ _) | (with_reducible refine Below.drew ?_) | (with_reducible refine Below.setCell ?_ ?_ _) | go_size))⟩

set_option maxRecDepth 100000 in
theorem lifted (os : Os) (started : os.Started) (H : Type) (enc : TypeId × Value → H) :
    ReturnsInHanded {} Try.checked os 6 .any (Rows.fnExactVertexTimeSpec.pre6 enc Try.prog Try.f6 Rows.fnExactVertexTimeRow.domain false) (Rows.fnExactVertexTimeSpec.post enc Try.prog Try.f6 false true false false) := by
  refine returnsInHanded_of_change (C := Try.checked) Open.own started (by kernel_rfl) Try.func6
    (ChangeSpec.witness6 (enc := enc) (C := Try.checked) false ⟨#[], #[.agg #[.int .i64 0, .int .i64 0], .agg #[.int .i64 0, .int .i64 0], .agg #[.int .i64 0, .int .i64 0]], []⟩ 8 (by kernel_rfl) (by kernel_rfl) (by kernel_rfl) (by kernel_rfl)) ?_
  intro W base args ds gs before hval0 hW _ _
  have hval : ∀ (j : Nat) t v, Try.f6.params[j]? = some t → args[j]? = some v → Value.okWide Try.prog W .any base t v := hval0
  have hW' := hW
  obtain ⟨p, q, hA0, hV, rfl, _, _⟩ := hW
  have hA : DataW.TrodAll enc Try.prog W 0 (fun _ => true) true Try.f6.params.toList args.toList ds p := hA0
  rw [Try.params6] at hA hval
  obtain ⟨v0, vs0, d0, ds0, p0, q0, hargs, rfl, rfl, h0, r0⟩ := trodAll_cons hA
  obtain ⟨v1, vs1, d1, ds1, p1, q1, rfl, rfl, rfl, h1, r1⟩ := trodAll_cons r0
  obtain ⟨v2, vs2, d2, ds2, p2, q2, rfl, rfl, rfl, h2, r2⟩ := trodAll_cons r1
  obtain ⟨rfl, rfl, rfl⟩ := trodAll_nil r2
  obtain rfl : args = #[v0, v1, v2] := by cases args; simp_all
  obtain ⟨hg, hq⟩ := trodVars_none hV
  subst hg; subst hq
  obtain ⟨a0x, a0y, rfl⟩ := Open.open2 (by kernel_rfl) (by kernel_rfl) Try.underlying44 Try.underlying2 (hval 0 44 v0 rfl rfl) h0
  obtain ⟨a1x, a1y, rfl⟩ := Open.open2 (by kernel_rfl) (by kernel_rfl) Try.underlying44 Try.underlying2 (hval 1 44 v1 rfl rfl) h1
  obtain ⟨a2x, a2y, rfl⟩ := Open.open2 (by kernel_rfl) (by kernel_rfl) Try.underlying44 Try.underlying2 (hval 2 44 v2 rfl rfl) h2
  clear hA0 hval0 hA r0
  have fin : Calls Try.checked.prog 6 #[.agg #[.int .i64 a0x, .int .i64 a0y], .agg #[.int .i64 a1x, .int .i64 a1y], .agg #[.int .i64 a2x, .int .i64 a2y]] W fun r w' => r = .returned (.bool true) ∧ Below W.heap.size W w' := by
    exact walk a0x a0y a1x a1y a2x a2y W
  refine fin.mono fun e W' ⟨he, hb⟩ => ?_
  subst he
  exact ⟨_, rfl, Base.lawPost Open.laidOut (of_decide_eq_true (by kernel_rfl)) rfl Try.underlying4 rfl rfl hW' hb⟩

theorem holds : Rows.FnExactVertexTimeSaid :=
  OpenClaim.holds_of_wide 6 Try.f6 rfl rfl rfl rfl rfl rfl rfl ⟨rfl, rfl, rfl, rfl, rfl⟩ rfl rfl rfl rfl rfl (by kernel_rfl) Try.func6 (by kernel_rfl)
    (of_decide_eq_true (by kernel_rfl)) (by unfold Func.isWrapper; first | (rw [if_pos (by decide +kernel)]; kernel_rfl) | (rw [if_neg (by decide +kernel)]; exact ⟨rfl, rfl⟩))
    (fun os started H enc _ => lifted os started H enc)
#print axioms holds
end Go.Proofs.Ytfpipbajlokheaa.LVertexTime
