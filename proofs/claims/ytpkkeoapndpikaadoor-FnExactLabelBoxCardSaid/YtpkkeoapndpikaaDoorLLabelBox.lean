/- FnExactLabelBox: for every input the law returns true, and its arguments read behind the call as before. No condition. -/
import Derived.Test.YtpkkeoapndpikaaDoorLab
import Derived.Test.YtpkkeoapndpikaaDoorHelp
import Derived.Test.YtpkkeoapndpikaaDoorOpen
import Derived.Test.YtpkkeoapndpikaaDoorRows
import Derived.Test.YtpkkeoapndpikaaDoorLaid
namespace Go.Proofs.YtpkkeoapndpikaaDoor.LLabelBox
set_option linter.unusedVariables false
set_option linter.unusedSimpArgs false
open Go.ChangeShapes Go.WideShapes Go.ChangeAt Go.RowKit Go.Joins Plain View

set_option maxHeartbeats 1600000 in
theorem walk (a0x a0y a0z : Int) (a1 : Int) (w : World) (ht : Dec.Tb w) :
    Calls Tryd.prog 7 #[.agg #[.int .i64 a0x, .int .i64 a0y, .int .i64 a0z], .int .i64 a1] w fun r w' => r = .returned (.bool true) ∧ Below w.heap.size w w' := by
  have HTB := Lib.hid ht
  clear ht
  go_enter Tryd.func7, Tryd.ntmps7
  go_wp2_with fail
  refine (Help.c_toMark _ _ _ _).mono ?_
  rintro e w1 ⟨rfl, hb1⟩
  have zhb1 := hb1.size
  simp at zhb1
  have khb1_0_0 : w1.cell? ⟨w.heap.size, 0, none⟩ = some (.int .i64 a0x) := (hb1.cell (p := ⟨w.heap.size, 0, none⟩) (by simp)).trans (by simp)
  have khb1_0_1 : w1.cell? ⟨w.heap.size, 1, none⟩ = some (.int .i64 a0y) := (hb1.cell (p := ⟨w.heap.size, 1, none⟩) (by simp)).trans (by simp)
  have khb1_0_2 : w1.cell? ⟨w.heap.size, 2, none⟩ = some (.int .i64 a0z) := (hb1.cell (p := ⟨w.heap.size, 2, none⟩) (by simp)).trans (by simp)
  go_wp2_with fail
  refine (Lab.c_specLabelBox a0x a0y a0z a1 _).mono ?_
  rintro e w2 ⟨sw20, rfl, ow20, hb2⟩
  obtain ⟨Asw20, Csw20, rfl, Vsw20, Bsw20⟩ := ow20.view
  have zhb2 := Nat.le_trans zhb1 hb2.size
  have khb2_0_0 : w2.cell? ⟨w.heap.size, 0, none⟩ = some (.int .i64 a0x) := (hb2.cell (p := ⟨w.heap.size, 0, none⟩) (by simp; omega)).trans khb1_0_0
  have khb2_0_1 : w2.cell? ⟨w.heap.size, 1, none⟩ = some (.int .i64 a0y) := (hb2.cell (p := ⟨w.heap.size, 1, none⟩) (by simp; omega)).trans khb1_0_1
  have khb2_0_2 : w2.cell? ⟨w.heap.size, 2, none⟩ = some (.int .i64 a0z) := (hb2.cell (p := ⟨w.heap.size, 2, none⟩) (by simp; omega)).trans khb1_0_2
  go_wp2_with fail
  refine (Help.c_toMark _ _ _ _).mono ?_
  rintro e w3 ⟨rfl, hb3⟩
  have zhb3 := Nat.le_trans zhb2 hb3.size
  have khb3_0_0 : w3.cell? ⟨w.heap.size, 0, none⟩ = some (.int .i64 a0x) := (hb3.cell (p := ⟨w.heap.size, 0, none⟩) (by simp; omega)).trans khb2_0_0
  have khb3_0_1 : w3.cell? ⟨w.heap.size, 1, none⟩ = some (.int .i64 a0y) := (hb3.cell (p := ⟨w.heap.size, 1, none⟩) (by simp; omega)).trans khb2_0_1
  have khb3_0_2 : w3.cell? ⟨w.heap.size, 2, none⟩ = some (.int .i64 a0z) := (hb3.cell (p := ⟨w.heap.size, 2, none⟩) (by simp; omega)).trans khb2_0_2
  go_wp2_with fail
  refine (Lab.c_LabelBox a0x a0y a0z a1 _ (HTB.out.below (by repeat' (first | (with_reducible exact Below.refl _ _) | (with_reducible assumption) | (with_reducible refine Base.via hb3 ?_) | (with_reducible refine Base.via hb2 ?_) | (with_reducible refine Base.via hb1 ?_) | (with_reducible refine Base.grow_alloc ?_ _) | (with_reducible refine Base.below_drewN ?_ _) | (with_reducible refine Below.drew ?_) | (with_reducible refine Below.setCell ?_ ?_ _) | go_size)))).mono ?_
  rintro e w4 ⟨sw40, rfl, ow40, hb4⟩
  obtain ⟨Asw40, Csw40, rfl, Vsw40, Bsw40⟩ := ow40.view
  have zhb4 := Nat.le_trans zhb3 hb4.size
  have khb4_0_0 : w4.cell? ⟨w.heap.size, 0, none⟩ = some (.int .i64 a0x) := (hb4.cell (p := ⟨w.heap.size, 0, none⟩) (by simp; omega)).trans khb3_0_0
  have khb4_0_1 : w4.cell? ⟨w.heap.size, 1, none⟩ = some (.int .i64 a0y) := (hb4.cell (p := ⟨w.heap.size, 1, none⟩) (by simp; omega)).trans khb3_0_1
  have khb4_0_2 : w4.cell? ⟨w.heap.size, 2, none⟩ = some (.int .i64 a0z) := (hb4.cell (p := ⟨w.heap.size, 2, none⟩) (by simp; omega)).trans khb3_0_2
  go_wp2_with fail
  refine (Help.c_eqInt64S _ _ _ _ _ _ _ (Vsw40.below (by repeat' (first | (with_reducible exact Below.refl _ _) | (with_reducible assumption) | (with_reducible refine Base.grow_alloc ?_ _) | (with_reducible refine Base.below_drewN ?_ _) | (with_reducible refine Below.drew ?_) | (with_reducible refine Below.setCell ?_ ?_ _) | go_size))) (Vsw20.below (by repeat' (first | (with_reducible exact Below.refl _ _) | (with_reducible assumption) | (with_reducible refine Base.via hb4 ?_) | (with_reducible refine Base.via hb3 ?_) | (with_reducible refine Base.grow_alloc ?_ _) | (with_reducible refine Base.below_drewN ?_ _) | (with_reducible refine Below.drew ?_) | (with_reducible refine Below.setCell ?_ ?_ _) | go_size)))).mono ?_
  rintro e w5 ⟨rfl, hb5⟩
  have zhb5 := Nat.le_trans zhb4 hb5.size
  have khb5_0_0 : w5.cell? ⟨w.heap.size, 0, none⟩ = some (.int .i64 a0x) := (hb5.cell (p := ⟨w.heap.size, 0, none⟩) (by simp; omega)).trans khb4_0_0
  have khb5_0_1 : w5.cell? ⟨w.heap.size, 1, none⟩ = some (.int .i64 a0y) := (hb5.cell (p := ⟨w.heap.size, 1, none⟩) (by simp; omega)).trans khb4_0_1
  have khb5_0_2 : w5.cell? ⟨w.heap.size, 2, none⟩ = some (.int .i64 a0z) := (hb5.cell (p := ⟨w.heap.size, 2, none⟩) (by simp; omega)).trans khb4_0_2
  have tw6 : Below w.heap.size w w5 := (by repeat' (first | (with_reducible exact Below.refl _ _) | (with_reducible assumption) | (with_reducible refine Base.via hb5 ?_) | (with_reducible refine Base.via hb4 ?_) | (with_reducible refine Base.via hb3 ?_) | (with_reducible refine Base.via hb2 ?_) | (with_reducible refine Base.via hb1 ?_) | (with_reducible refine Base.grow_alloc ?_ _) | (with_reducible refine Base.below_drewN ?_ _) | (with_reducible refine Below.drew ?_) | (with_reducible refine Below.setCell ?_ ?_ _) | go_size))
  go_wp2_with fail
  refine (Help.c_markInt64S _ _ _ _ 1 _ (ow40.below (by repeat' (first | (with_reducible exact Below.refl _ _) | (with_reducible assumption) | (with_reducible refine Base.via hb5 ?_) | (with_reducible refine Base.grow_alloc ?_ _) | (with_reducible refine Base.below_drewN ?_ _) | (with_reducible refine Below.drew ?_) | (with_reducible refine Below.setCell ?_ ?_ _) | go_size))) (by omega) (by omega)).mono ?_
  rintro e w6 ⟨rfl, mw6, gw6⟩
  have hb6 := below_marked tw6 gw6 ow40.blk (by have s0 := zhb1; have s1 := hb2.size; have s2 := hb3.size; have s3 := hb4.size; have s4 := hb5.size; omega) tw6.size
  have W0w6 := (Vsw20.below (by repeat' (first | (with_reducible exact Below.refl _ _) | (with_reducible assumption) | (with_reducible refine Base.via hb5 ?_) | (with_reducible refine Base.via hb4 ?_) | (with_reducible refine Base.via hb3 ?_) | (with_reducible refine Base.grow_alloc ?_ _) | (with_reducible refine Base.below_drewN ?_ _) | (with_reducible refine Below.drew ?_) | (with_reducible refine Below.setCell ?_ ?_ _) | go_size))).marked ow20.blk gw6 ow40.blk (by have s0 := zhb1; have s1 := hb2.size; have s2 := hb3.size; have s3 := hb4.size; have s4 := hb5.size; omega)
  have zhb6 := Nat.le_trans zhb5 gw6.size
  have khb6_0_0 : w6.cell? ⟨w.heap.size, 0, none⟩ = some (.int .i64 a0x) := (cell_marked (p := ⟨w.heap.size, 0, none⟩) gw6 ow40.blk (by simp; omega) (by have s0 := zhb1; have s1 := hb2.size; have s2 := hb3.size; have s3 := hb4.size; have s4 := hb5.size; simp; omega)).trans khb5_0_0
  have khb6_0_1 : w6.cell? ⟨w.heap.size, 1, none⟩ = some (.int .i64 a0y) := (cell_marked (p := ⟨w.heap.size, 1, none⟩) gw6 ow40.blk (by simp; omega) (by have s0 := zhb1; have s1 := hb2.size; have s2 := hb3.size; have s3 := hb4.size; have s4 := hb5.size; simp; omega)).trans khb5_0_1
  have khb6_0_2 : w6.cell? ⟨w.heap.size, 2, none⟩ = some (.int .i64 a0z) := (cell_marked (p := ⟨w.heap.size, 2, none⟩) gw6 ow40.blk (by simp; omega) (by have s0 := zhb1; have s1 := hb2.size; have s2 := hb3.size; have s3 := hb4.size; have s4 := hb5.size; simp; omega)).trans khb5_0_2
  go_wp2_with fail
  refine (Help.c_heldInt64S _ _ _ 1 _ (mw6.below (by repeat' (first | (with_reducible exact Below.refl _ _) | (with_reducible assumption) | (with_reducible refine Base.grow_alloc ?_ _) | (with_reducible refine Base.below_drewN ?_ _) | (with_reducible refine Below.drew ?_) | (with_reducible refine Below.setCell ?_ ?_ _) | go_size))).sl (by omega) (by omega)).mono ?_
  rintro e w' ⟨rfl, rfl⟩
  go_wp2_with fail
  refine (Help.c_toMark _ _ _ _).mono ?_
  rintro e w7 ⟨rfl, hb7⟩
  have zhb7 := Nat.le_trans zhb6 hb7.size
  have khb7_0_0 : w7.cell? ⟨w.heap.size, 0, none⟩ = some (.int .i64 a0x) := (hb7.cell (p := ⟨w.heap.size, 0, none⟩) (by simp; omega)).trans khb6_0_0
  have khb7_0_1 : w7.cell? ⟨w.heap.size, 1, none⟩ = some (.int .i64 a0y) := (hb7.cell (p := ⟨w.heap.size, 1, none⟩) (by simp; omega)).trans khb6_0_1
  have khb7_0_2 : w7.cell? ⟨w.heap.size, 2, none⟩ = some (.int .i64 a0z) := (hb7.cell (p := ⟨w.heap.size, 2, none⟩) (by simp; omega)).trans khb6_0_2
  go_wp2_with fail
  refine (Lab.c_LabelBox a0x a0y a0z a1 _ (HTB.out.below (by repeat' (first | (with_reducible exact Below.refl _ _) | (with_reducible assumption) | (with_reducible refine Base.via hb7 ?_) | (with_reducible refine Base.via hb6 ?_) | (with_reducible refine Base.grow_alloc ?_ _) | (with_reducible refine Base.below_drewN ?_ _) | (with_reducible refine Below.drew ?_) | (with_reducible refine Below.setCell ?_ ?_ _) | go_size)))).mono ?_
  rintro e w8 ⟨sw80, rfl, ow80, hb8⟩
  obtain ⟨Asw80, Csw80, rfl, Vsw80, Bsw80⟩ := ow80.view
  have zhb8 := Nat.le_trans zhb7 hb8.size
  have khb8_0_0 : w8.cell? ⟨w.heap.size, 0, none⟩ = some (.int .i64 a0x) := (hb8.cell (p := ⟨w.heap.size, 0, none⟩) (by simp; omega)).trans khb7_0_0
  have khb8_0_1 : w8.cell? ⟨w.heap.size, 1, none⟩ = some (.int .i64 a0y) := (hb8.cell (p := ⟨w.heap.size, 1, none⟩) (by simp; omega)).trans khb7_0_1
  have khb8_0_2 : w8.cell? ⟨w.heap.size, 2, none⟩ = some (.int .i64 a0z) := (hb8.cell (p := ⟨w.heap.size, 2, none⟩) (by simp; omega)).trans khb7_0_2
  go_wp2_with fail
  refine (Help.c_eqInt64S _ _ _ _ _ _ _ (Vsw80.below (by repeat' (first | (with_reducible exact Below.refl _ _) | (with_reducible assumption) | (with_reducible refine Base.grow_alloc ?_ _) | (with_reducible refine Base.below_drewN ?_ _) | (with_reducible refine Below.drew ?_) | (with_reducible refine Below.setCell ?_ ?_ _) | go_size))) (W0w6.below (by repeat' (first | (with_reducible exact Below.refl _ _) | (with_reducible assumption) | (with_reducible refine Base.via hb8 ?_) | (with_reducible refine Base.via hb7 ?_) | (with_reducible refine Base.grow_alloc ?_ _) | (with_reducible refine Base.below_drewN ?_ _) | (with_reducible refine Below.drew ?_) | (with_reducible refine Below.setCell ?_ ?_ _) | go_size)))).mono ?_
  rintro e w9 ⟨rfl, hb9⟩
  have zhb9 := Nat.le_trans zhb8 hb9.size
  have khb9_0_0 : w9.cell? ⟨w.heap.size, 0, none⟩ = some (.int .i64 a0x) := (hb9.cell (p := ⟨w.heap.size, 0, none⟩) (by simp; omega)).trans khb8_0_0
  have khb9_0_1 : w9.cell? ⟨w.heap.size, 1, none⟩ = some (.int .i64 a0y) := (hb9.cell (p := ⟨w.heap.size, 1, none⟩) (by simp; omega)).trans khb8_0_1
  have khb9_0_2 : w9.cell? ⟨w.heap.size, 2, none⟩ = some (.int .i64 a0z) := (hb9.cell (p := ⟨w.heap.size, 2, none⟩) (by simp; omega)).trans khb8_0_2
  go_wp2_with fail
  refine (Help.c_heldInt64S _ _ _ 1 _ (mw6.below (by repeat' (first | (with_reducible exact Below.refl _ _) | (with_reducible assumption) | (with_reducible refine Base.via hb9 ?_) | (with_reducible refine Base.via hb8 ?_) | (with_reducible refine Base.via hb7 ?_) | (with_reducible refine Base.grow_alloc ?_ _) | (with_reducible refine Base.below_drewN ?_ _) | (with_reducible refine Below.drew ?_) | (with_reducible refine Below.setCell ?_ ?_ _) | go_size))).sl (by omega) (by omega)).mono ?_
  rintro e w' ⟨rfl, rfl⟩
  go_wp2_with fail
  go_ret
  exact ⟨rfl, (by repeat' (first | (with_reducible exact Below.refl _ _) | (with_reducible assumption) | (with_reducible refine Base.via hb9 ?_) | (with_reducible refine Base.via hb8 ?_) | (with_reducible refine Base.via hb7 ?_) | (with_reducible refine Base.via hb6 ?_) | (with_reducible refine Base.grow_alloc ?_ _) | (with_reducible refine Base.below_drewN ?_ _) | (with_reducible refine Below.drew ?_) | (with_reducible refine Below.setCell ?_ ?_ _) | go_size))⟩

set_option maxRecDepth 100000 in
theorem lifted (os : Os) (started : os.Started) (H : Type) (enc : TypeId × Value → H) :
    ReturnsInHanded {} Tryd.checked os 7 .any (fun w args => (Rows.fnExactLabelBoxSpec.pre enc Tryd.prog Tryd.f7 [] false w args ∧ laidMetH Tryd.prog Laid.laid3 w) ∧ sizedMet enc Tryd.prog Tryd.f7 (OpenSpec.ofChange Rows.fnExactLabelBoxSpec) false w args)
      (Rows.fnExactLabelBoxSpec.post enc Tryd.prog Tryd.f7 false true false false) := by
  refine returnsInHanded_of_change_and (C := Tryd.checked) (X := fun w _ => laidMetH Tryd.prog Laid.laid3 w) (fun _ _ _ hh h => h.of_heap hh) Open.own started (by kernel_rfl) Tryd.func7
    (ChangeSpec.witness_shaped (enc := enc) (C := Tryd.checked) (os := os) (X := fun w _ => laidMetH Tryd.prog Laid.laid3 w) false (World.doorLaid Tryd.prog 24 os) #[.agg #[.int .i64 0, .int .i64 0, .int .i64 0], .int .i64 0] 8 rfl (World.shaped_of_RefB (by kernel_rfl) (by kernel_rfl)) (by kernel_rfl) (by kernel_rfl) (by kernel_rfl) (Laid.door_met os _)) ?_
  intro W base args ds gs before hval0 hW _ _ hLD _
  have hval : ∀ (j : Nat) t v, Tryd.f7.params[j]? = some t → args[j]? = some v → Value.okWide Tryd.prog W .any base t v := hval0
  have htab := Laid.of_laid hLD
  have hW' := hW
  obtain ⟨p, q, hA0, hV, rfl, _, _⟩ := hW
  have hA : DataW.TrodAll enc Tryd.prog W 0 (fun _ => true) true Tryd.f7.params.toList args.toList ds p := hA0
  rw [Tryd.params7] at hA hval
  obtain ⟨v0, vs0, d0, ds0, p0, q0, hargs, rfl, rfl, h0, r0⟩ := trodAll_cons hA
  obtain ⟨v1, vs1, d1, ds1, p1, q1, rfl, rfl, rfl, h1, r1⟩ := trodAll_cons r0
  obtain ⟨rfl, rfl, rfl⟩ := trodAll_nil r1
  obtain rfl : args = #[v0, v1] := by cases args; simp_all
  obtain ⟨hg, hq⟩ := trodVars_none hV
  subst hg; subst hq
  obtain ⟨a0x, a0y, a0z, rfl⟩ := Open.open3 (by kernel_rfl) (by kernel_rfl) Tryd.underlying31 Tryd.underlying2 (hval 0 31 v0 rfl rfl) h0
  obtain ⟨a1, rfl, rfl, rfl, _⟩ := open_int Tryd.underlying2 (hval 1 2 v1 rfl rfl) h1
  clear hA0 hval0 hA r0
  have fin : Calls Tryd.checked.prog 7 #[.agg #[.int .i64 a0x, .int .i64 a0y, .int .i64 a0z], .int .i64 a1] W fun r w' => r = .returned (.bool true) ∧ Below W.heap.size W w' := by
    exact walk a0x a0y a0z a1 W htab
  refine fin.mono fun e W' ⟨he, hb⟩ => ?_
  subst he
  exact ⟨_, rfl, Base.lawPost Open.laidOut (of_decide_eq_true (by kernel_rfl)) rfl Tryd.underlying4 rfl rfl hW' hb⟩

theorem holds : Rows.FnExactLabelBoxSaid :=
  OpenClaim.holds_of_wide 7 Tryd.f7 rfl rfl rfl rfl rfl rfl rfl ⟨rfl, rfl, rfl, rfl, rfl⟩ rfl rfl rfl rfl rfl (by kernel_rfl) Tryd.func7 (by kernel_rfl)
    (of_decide_eq_true (by kernel_rfl)) (by unfold Func.isWrapper; first | (rw [if_pos (by decide +kernel)]; kernel_rfl) | (rw [if_neg (by decide +kernel)]; exact ⟨rfl, rfl⟩))
    (fun os started H enc _ => lifted os started H enc)
/-- The tied card. -/
theorem card_holds : Rows.FnExactLabelBoxCardSaid :=
  Claim7.holds_tied_plain_at .later [] [.data, .data, .data] true Rows.fnExactLabelBoxCard.stood.harness false
    holds (fun _ h => by cases h) (by kernel_rfl) (fun _ h => by cases h) fnExactLabelBox_row_tie rfl ⟨rfl, rfl⟩ (by kernel_rfl) rfl
    (fun f fn hf hfn => by
      obtain rfl : f = 7 := Option.some.inj ((show Tryd.prog.funcNamed Rows.fnExactLabelBoxRow.func = some 7 by kernel_rfl).symm.trans hf) |>.symm
      obtain rfl : fn = Tryd.f7 := (Option.some.inj (Tryd.func7.symm.trans hfn)).symm
      exact ⟨by kernel_rfl, fun j t ht => by
        rw [Tryd.params7] at ht
        have hm : t ∈ [31, 2] := by simpa using Array.mem_of_getElem? ht
        have hall : ([31, 2].all fun u => !Tryd.prog.wantsStandIn u) = true := by kernel_rfl
        exact (show Tryd.prog.wantsStandIn t = false by simpa using List.all_eq_true.1 hall t hm)⟩)
    (by kernel_rfl)
#print axioms card_holds
end Go.Proofs.YtpkkeoapndpikaaDoor.LLabelBox
