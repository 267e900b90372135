/- FnExactAgreeingPeriods: for every input the law returns true, and its arguments read behind the call as before. No condition. -/
import Derived.Test.YtenjcdhehjdeoaaAgr
import Derived.Test.YtenjcdhehjdeoaaHelp
import Derived.Test.YtenjcdhehjdeoaaOpen
import Derived.Test.YtenjcdhehjdeoaaRows
import Derived.Deep.RegionHeld3
namespace Go.Proofs.Ytenjcdhehjdeoaa.LAgreeingPeriods
set_option linter.unusedVariables false
set_option linter.unusedSimpArgs false
open Go.ChangeShapes Go.WideShapes Go.ChangeAt Go.RowKit Go.Joins Plain View

set_option maxHeartbeats 1600000 in
theorem walk (A0 : Option Addr) (n0 c0 : Nat) (f0x f0y : Nat → Int) (a1x a1y a1z : Int) (a2 : Int) (w : World) (hnn0 : n0 ≤ 1048576) (hv0 : Sl w 2 A0 n0 c0 (f2 f0x f0y)) :
    Calls Try.prog 11 #[.slice A0 n0 c0, .agg #[.int .i64 a1x, .int .i64 a1y, .int .i64 a1z], .int .i64 a2] w fun r w' => r = .returned (.bool true) ∧ Below w.heap.size w w' := by
  go_enter Try.func11, Try.ntmps11
  go_wp2_with fail
  refine (Help.c_szPointS_yes _ _ _ _ _ (by omega) (by omega) (by omega) (by omega)).mono ?_
  rintro e w' ⟨rfl, rfl⟩
  go_wp2_with fail
  go_region_held3 (fun W => (W.cell? ⟨w.heap.size, 0, none⟩ = some (.int .i64 a1x) ∧ W.cell? ⟨w.heap.size, 1, none⟩ = some (.int .i64 a1y) ∧ W.cell? ⟨w.heap.size, 2, none⟩ = some (.int .i64 a1z)) ∧ Below w.heap.size w W)
    ((repeat' apply And.intro) <;> first | assumption | exact (by repeat' (first | (with_reducible exact Below.refl _ _) | (with_reducible assumption) | (with_reducible refine Base.via hb3 ?_) | (with_reducible refine Base.via hb2 ?_) | (with_reducible refine Base.via hb1 ?_) | (with_reducible refine Base.grow_alloc ?_ _) | (with_reducible refine Base.below_drewN ?_ _) | (with_reducible refine Below.drew ?_) | (with_reducible refine Below.setCell ?_ ?_ _) | go_size)) | (simp; done))
    (first | (go_at_call 14; refine (Help.c_toPointS A0 n0 c0 f0x f0y _ (hv0.below (by repeat' (first | (with_reducible exact Below.refl _ _) | (with_reducible assumption) | (with_reducible refine Base.grow_alloc ?_ _) | (with_reducible refine Base.below_drewN ?_ _) | (with_reducible refine Below.drew ?_) | (with_reducible refine Below.setCell ?_ ?_ _) | go_size)))).mono ?_; rintro e w1 ⟨gw1, rfl, qgw1, rw1, hb1⟩; have vw1 := rw1.view (c := n0) hnn0 (Nat.le_refl _) (by omega); have orw1 := OwnK.of_row hnn0 qgw1 rw1; have zhb1 := hb1.size; simp at zhb1; have khb1_0_0 : w1.cell? ⟨w.heap.size, 0, none⟩ = some (.int .i64 a1x) := (hb1.cell (p := ⟨w.heap.size, 0, none⟩) (by simp)).trans (by simp); have khb1_0_1 : w1.cell? ⟨w.heap.size, 1, none⟩ = some (.int .i64 a1y) := (hb1.cell (p := ⟨w.heap.size, 1, none⟩) (by simp)).trans (by simp); have khb1_0_2 : w1.cell? ⟨w.heap.size, 2, none⟩ = some (.int .i64 a1z) := (hb1.cell (p := ⟨w.heap.size, 2, none⟩) (by simp)).trans (by simp)) | (go_at_call 30; refine (Help.c_toSearch _ _ _ _).mono ?_; rintro e w2 ⟨rfl, hb2⟩; have zhb2 := Nat.le_trans zhb1 hb2.size; have khb2_0_0 : w2.cell? ⟨w.heap.size, 0, none⟩ = some (.int .i64 a1x) := (hb2.cell (p := ⟨w.heap.size, 0, none⟩) (by simp; omega)).trans khb1_0_0; have khb2_0_1 : w2.cell? ⟨w.heap.size, 1, none⟩ = some (.int .i64 a1y) := (hb2.cell (p := ⟨w.heap.size, 1, none⟩) (by simp; omega)).trans khb1_0_1; have khb2_0_2 : w2.cell? ⟨w.heap.size, 2, none⟩ = some (.int .i64 a1z) := (hb2.cell (p := ⟨w.heap.size, 2, none⟩) (by simp; omega)).trans khb1_0_2) | (go_at_call 39; refine (Agr.c_specAgreeingPeriods _ _ _ f0x f0y a1x a1y a1z a2 _ (vw1.below (by repeat' (first | (with_reducible exact Below.refl _ _) | (with_reducible assumption) | (with_reducible refine Base.via hb2 ?_) | (with_reducible refine Base.grow_alloc ?_ _) | (with_reducible refine Base.below_drewN ?_ _) | (with_reducible refine Below.drew ?_) | (with_reducible refine Below.setCell ?_ ?_ _) | go_size)))).mono ?_; rintro e w3 ⟨rfl, hb3⟩; have zhb3 := Nat.le_trans zhb2 hb3.size; have khb3_0_0 : w3.cell? ⟨w.heap.size, 0, none⟩ = some (.int .i64 a1x) := (hb3.cell (p := ⟨w.heap.size, 0, none⟩) (by simp; omega)).trans khb2_0_0; have khb3_0_1 : w3.cell? ⟨w.heap.size, 1, none⟩ = some (.int .i64 a1y) := (hb3.cell (p := ⟨w.heap.size, 1, none⟩) (by simp; omega)).trans khb2_0_1; have khb3_0_2 : w3.cell? ⟨w.heap.size, 2, none⟩ = some (.int .i64 a1z) := (hb3.cell (p := ⟨w.heap.size, 2, none⟩) (by simp; omega)).trans khb2_0_2))
  go_wp2_with fail
  go_wp2_with fail
  refine (Help.c_toPointS A0 n0 c0 f0x f0y _ (hv0.below (by repeat' (first | (with_reducible exact Below.refl _ _) | (with_reducible assumption) | (with_reducible refine Base.via hb3 ?_) | (with_reducible refine Base.via hb2 ?_) | (with_reducible refine Base.via hb1 ?_) | (with_reducible refine Base.grow_alloc ?_ _) | (with_reducible refine Base.below_drewN ?_ _) | (with_reducible refine Below.drew ?_) | (with_reducible refine Below.setCell ?_ ?_ _) | go_size)))).mono ?_
  rintro e w4 ⟨gw4, rfl, qgw4, rw4, hb4⟩
  have vw4 := rw4.view (c := n0) hnn0 (Nat.le_refl _) (by omega)
  have orw4 := OwnK.of_row hnn0 qgw4 rw4
  have zhb4 := Nat.le_trans zhb3 hb4.size
  have khb4_0_0 : w4.cell? ⟨w.heap.size, 0, none⟩ = some (.int .i64 a1x) := (hb4.cell (p := ⟨w.heap.size, 0, none⟩) (by simp; omega)).trans khb3_0_0
  have khb4_0_1 : w4.cell? ⟨w.heap.size, 1, none⟩ = some (.int .i64 a1y) := (hb4.cell (p := ⟨w.heap.size, 1, none⟩) (by simp; omega)).trans khb3_0_1
  have khb4_0_2 : w4.cell? ⟨w.heap.size, 2, none⟩ = some (.int .i64 a1z) := (hb4.cell (p := ⟨w.heap.size, 2, none⟩) (by simp; omega)).trans khb3_0_2
  go_wp2_with fail
  refine (Help.c_toSearch _ _ _ _).mono ?_
  rintro e w5 ⟨rfl, hb5⟩
  have zhb5 := Nat.le_trans zhb4 hb5.size
  have khb5_0_0 : w5.cell? ⟨w.heap.size, 0, none⟩ = some (.int .i64 a1x) := (hb5.cell (p := ⟨w.heap.size, 0, none⟩) (by simp; omega)).trans khb4_0_0
  have khb5_0_1 : w5.cell? ⟨w.heap.size, 1, none⟩ = some (.int .i64 a1y) := (hb5.cell (p := ⟨w.heap.size, 1, none⟩) (by simp; omega)).trans khb4_0_1
  have khb5_0_2 : w5.cell? ⟨w.heap.size, 2, none⟩ = some (.int .i64 a1z) := (hb5.cell (p := ⟨w.heap.size, 2, none⟩) (by simp; omega)).trans khb4_0_2
  go_wp2_with fail
  refine (Agr.c_AgreeingPeriods _ _ _ f0x f0y a1x a1y a1z a2 _ (vw4.below (by repeat' (first | (with_reducible exact Below.refl _ _) | (with_reducible assumption) | (with_reducible refine Base.via hb5 ?_) | (with_reducible refine Base.grow_alloc ?_ _) | (with_reducible refine Base.below_drewN ?_ _) | (with_reducible refine Below.drew ?_) | (with_reducible refine Below.setCell ?_ ?_ _) | go_size)))).mono ?_
  rintro e w6 ⟨rfl, hb6⟩
  have zhb6 := Nat.le_trans zhb5 hb6.size
  have khb6_0_0 : w6.cell? ⟨w.heap.size, 0, none⟩ = some (.int .i64 a1x) := (hb6.cell (p := ⟨w.heap.size, 0, none⟩) (by simp; omega)).trans khb5_0_0
  have khb6_0_1 : w6.cell? ⟨w.heap.size, 1, none⟩ = some (.int .i64 a1y) := (hb6.cell (p := ⟨w.heap.size, 1, none⟩) (by simp; omega)).trans khb5_0_1
  have khb6_0_2 : w6.cell? ⟨w.heap.size, 2, none⟩ = some (.int .i64 a1z) := (hb6.cell (p := ⟨w.heap.size, 2, none⟩) (by simp; omega)).trans khb5_0_2
  go_wp2_with fail
  refine (Help.c_toPointS A0 n0 c0 f0x f0y _ (hv0.below (by repeat' (first | (with_reducible exact Below.refl _ _) | (with_reducible assumption) | (with_reducible refine Base.via hb6 ?_) | (with_reducible refine Base.via hb5 ?_) | (with_reducible refine Base.via hb4 ?_) | (with_reducible refine Base.via hb3 ?_) | (with_reducible refine Base.via hb2 ?_) | (with_reducible refine Base.via hb1 ?_) | (with_reducible refine Base.grow_alloc ?_ _) | (with_reducible refine Base.below_drewN ?_ _) | (with_reducible refine Below.drew ?_) | (with_reducible refine Below.setCell ?_ ?_ _) | go_size)))).mono ?_
  rintro e w7 ⟨gw7, rfl, qgw7, rw7, hb7⟩
  have vw7 := rw7.view (c := n0) hnn0 (Nat.le_refl _) (by omega)
  have orw7 := OwnK.of_row hnn0 qgw7 rw7
  have zhb7 := Nat.le_trans zhb6 hb7.size
  have khb7_0_0 : w7.cell? ⟨w.heap.size, 0, none⟩ = some (.int .i64 a1x) := (hb7.cell (p := ⟨w.heap.size, 0, none⟩) (by simp; omega)).trans khb6_0_0
  have khb7_0_1 : w7.cell? ⟨w.heap.size, 1, none⟩ = some (.int .i64 a1y) := (hb7.cell (p := ⟨w.heap.size, 1, none⟩) (by simp; omega)).trans khb6_0_1
  have khb7_0_2 : w7.cell? ⟨w.heap.size, 2, none⟩ = some (.int .i64 a1z) := (hb7.cell (p := ⟨w.heap.size, 2, none⟩) (by simp; omega)).trans khb6_0_2
  go_wp2_with fail
  refine (Help.c_eqPointS _ _ _ _ _ f0x f0y _ (vw4.below (by repeat' (first | (with_reducible exact Below.refl _ _) | (with_reducible assumption) | (with_reducible refine Base.via hb7 ?_) | (with_reducible refine Base.via hb6 ?_) | (with_reducible refine Base.via hb5 ?_) | (with_reducible refine Base.grow_alloc ?_ _) | (with_reducible refine Base.below_drewN ?_ _) | (with_reducible refine Below.drew ?_) | (with_reducible refine Below.setCell ?_ ?_ _) | go_size))) (vw7.below (by repeat' (first | (with_reducible exact Below.refl _ _) | (with_reducible assumption) | (with_reducible refine Base.grow_alloc ?_ _) | (with_reducible refine Base.below_drewN ?_ _) | (with_reducible refine Below.drew ?_) | (with_reducible refine Below.setCell ?_ ?_ _) | go_size)))).mono ?_
  rintro e w8 ⟨rfl, hb8⟩
  go_wp2_with fail
  go_ret
  exact ⟨rfl, (by repeat' (first | (with_reducible exact Below.refl _ _) | (with_reducible assumption) | (with_reducible refine Base.via hb8 ?_) | (with_reducible refine Base.via hb7 ?_) | (with_reducible refine Base.via hb6 ?_) | (with_reducible refine Base.via hb5 ?_) | (with_reducible refine Base.via hb4 ?_) | (with_reducible refine Base.via hb3 ?_) | (with_reducible refine Base.via hb2 ?_) | (with_reducible refine Base.via hb1 ?_) | (with_reducible refine Base.grow_alloc ?_ _) | (with_reducible refine Base.below_drewN ?_ _) | (with_reducible refine Below.drew ?_) | (with_reducible refine Below.setCell ?_ ?_ _) | go_size))⟩

theorem walk_big (A0 : Option Addr) (n0 c0 : Nat) (a1x a1y a1z : Int) (a2 : Int) (w : World) (hm : n0 ≤ 9223372036854775807) (hbig : 1048576 < n0) :
    Calls Try.prog 11 #[.slice A0 n0 c0, .agg #[.int .i64 a1x, .int .i64 a1y, .int .i64 a1z], .int .i64 a2] w fun r w' => r = .returned (.bool true) ∧ Below w.heap.size w w' := by
  go_enter Try.func11, Try.ntmps11
  go_wp2_with fail
  refine (Help.c_szPointS_no _ _ _ _ _ (by omega) (by omega) (by omega) (by omega)).mono ?_
  rintro e w' ⟨rfl, rfl⟩
  go_wp2_with fail
  go_ret
  exact ⟨rfl, (by repeat' (first | (with_reducible exact Below.refl _ _) | (with_reducible assumption) | (with_reducible refine Base.grow_alloc ?_ _) | (with_reducible refine Base.below_drewN ?_ _) | (with_reducible refine Below.drew ?_) | (with_reducible refine Below.setCell ?_ ?_ _) | go_size))⟩

set_option maxRecDepth 100000 in
theorem lifted (os : Os) (started : os.Started) (H : Type) (enc : TypeId × Value → H) :
    ReturnsInHanded {} Try.checked os 11 .any (Rows.fnExactAgreeingPeriodsSpec.pre6 enc Try.prog Try.f11 Rows.fnExactAgreeingPeriodsRow.domain false) (Rows.fnExactAgreeingPeriodsSpec.post enc Try.prog Try.f11 false true false false) := by
  refine returnsInHanded_of_change (C := Try.checked) Open.own started (by kernel_rfl) Try.func11
    (ChangeSpec.witness6 (enc := enc) (C := Try.checked) false ⟨#[], #[.slice none 0 0, .agg #[.int .i64 0, .int .i64 0, .int .i64 0], .int .i64 0], []⟩ 8 (by kernel_rfl) (by kernel_rfl) (by kernel_rfl) (by kernel_rfl)) ?_
  intro W base args ds gs before hval0 hW _ _
  have hval : ∀ (j : Nat) t v, Try.f11.params[j]? = some t → args[j]? = some v → Value.okWide Try.prog W .any base t v := hval0
  have hW' := hW
  obtain ⟨p, q, hA0, hV, rfl, _, _⟩ := hW
  have hA : DataW.TrodAll enc Try.prog W 0 (fun _ => true) true Try.f11.params.toList args.toList ds p := hA0
  rw [Try.params11] at hA hval
  obtain ⟨v0, vs0, d0, ds0, p0, q0, hargs, rfl, rfl, h0, r0⟩ := trodAll_cons hA
  obtain ⟨v1, vs1, d1, ds1, p1, q1, rfl, rfl, rfl, h1, r1⟩ := trodAll_cons r0
  obtain ⟨v2, vs2, d2, ds2, p2, q2, rfl, rfl, rfl, h2, r2⟩ := trodAll_cons r1
  obtain ⟨rfl, rfl, rfl⟩ := trodAll_nil r2
  obtain rfl : args = #[v0, v1, v2] := by cases args; simp_all
  obtain ⟨hg, hq⟩ := trodVars_none hV
  subst hg; subst hq
  obtain ⟨A0, n0, c0, f0x, f0y, rfl, m0, s0⟩ := Open.openS2 (by kernel_rfl) (by kernel_rfl) Try.underlying22 Try.underlying65 Try.underlying2 (hval 0 22 v0 rfl rfl) h0
  obtain ⟨a1x, a1y, a1z, rfl⟩ := Open.open3 (by kernel_rfl) (by kernel_rfl) Try.underlying46 Try.underlying2 (hval 1 46 v1 rfl rfl) h1
  obtain ⟨a2, rfl, rfl, rfl, _⟩ := open_int Try.underlying2 (hval 2 2 v2 rfl rfl) h2
  clear hA0 hval0 hA r0
  have fin : Calls Try.checked.prog 11 #[.slice A0 n0 c0, .agg #[.int .i64 a1x, .int .i64 a1y, .int .i64 a1z], .int .i64 a2] W fun r w' => r = .returned (.bool true) ∧ Below W.heap.size W w' := by
    rcases Nat.lt_or_ge 1048576 (n0) with hs0 | hs0
    · exact walk_big A0 n0 c0 a1x a1y a1z a2 W m0 (by omega)
    exact walk A0 n0 c0 f0x f0y a1x a1y a1z a2 W (by omega) (s0 (by omega))
  refine fin.mono fun e W' ⟨he, hb⟩ => ?_
  subst he
  exact ⟨_, rfl, Base.lawPost Open.laidOut (of_decide_eq_true (by kernel_rfl)) rfl Try.underlying4 rfl rfl hW' hb⟩

theorem holds : Rows.FnExactAgreeingPeriodsSaid :=
  OpenClaim.holds_of_wide 11 Try.f11 rfl rfl rfl rfl rfl rfl rfl ⟨rfl, rfl, rfl, rfl, rfl⟩ rfl rfl rfl rfl rfl (by kernel_rfl) Try.func11 (by kernel_rfl)
    (of_decide_eq_true (by kernel_rfl)) (by unfold Func.isWrapper; first | (rw [if_pos (by decide +kernel)]; kernel_rfl) | (rw [if_neg (by decide +kernel)]; exact ⟨rfl, rfl⟩))
    (fun os started H enc _ => lifted os started H enc)
#print axioms holds
end Go.Proofs.Ytenjcdhehjdeoaa.LAgreeingPeriods
