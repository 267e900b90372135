/- FnExactPhaseText: for every input the law returns true, and its arguments read behind the call as before. No condition. -/
import Derived.Test.YtpkkeoapndpikaaDoorTxt2
import Derived.Test.YtpkkeoapndpikaaDoorHelp
import Derived.Test.YtpkkeoapndpikaaDoorOpen
import Derived.Test.YtpkkeoapndpikaaDoorRows
import Derived.Test.YtpkkeoapndpikaaDoorLaid
namespace Go.Proofs.YtpkkeoapndpikaaDoor.LPhaseText
set_option linter.unusedVariables false
set_option linter.unusedSimpArgs false
open Go.ChangeShapes Go.WideShapes Go.ChangeAt Go.RowKit Go.Joins Plain View

set_option maxHeartbeats 1600000 in
theorem walk (a0x a0y : Int) (a1 : Int) (w : World) (ht : Dec.Tb w) :
    Calls Tryd.prog 6 #[.agg #[.int .i64 a0x, .int .i64 a0y], .int .i64 a1] w fun r w' => r = .returned (.bool true) ∧ Below w.heap.size w w' := by
  have HTB := Lib.hid ht
  clear ht
  go_enter Tryd.func6, Tryd.ntmps6
  go_wp2_with fail
  refine (Help.c_toEphemeris _ _ _).mono ?_
  rintro e w1 ⟨rfl, hb1⟩
  have zhb1 := hb1.size
  simp at zhb1
  have khb1_0_0 : w1.cell? ⟨w.heap.size, 0, none⟩ = some (.int .i64 a0x) := (hb1.cell (p := ⟨w.heap.size, 0, none⟩) (by simp)).trans (by simp)
  have khb1_0_1 : w1.cell? ⟨w.heap.size, 1, none⟩ = some (.int .i64 a0y) := (hb1.cell (p := ⟨w.heap.size, 1, none⟩) (by simp)).trans (by simp)
  go_wp2_with fail
  refine (Txt.c_specPhaseText a0x a0y a1 _).mono ?_
  rintro e w2 ⟨rfl, hb2⟩
  have zhb2 := Nat.le_trans zhb1 hb2.size
  have khb2_0_0 : w2.cell? ⟨w.heap.size, 0, none⟩ = some (.int .i64 a0x) := (hb2.cell (p := ⟨w.heap.size, 0, none⟩) (by simp; omega)).trans khb1_0_0
  have khb2_0_1 : w2.cell? ⟨w.heap.size, 1, none⟩ = some (.int .i64 a0y) := (hb2.cell (p := ⟨w.heap.size, 1, none⟩) (by simp; omega)).trans khb1_0_1
  go_wp2_with fail
  refine (Help.c_toEphemeris _ _ _).mono ?_
  rintro e w3 ⟨rfl, hb3⟩
  have zhb3 := Nat.le_trans zhb2 hb3.size
  have khb3_0_0 : w3.cell? ⟨w.heap.size, 0, none⟩ = some (.int .i64 a0x) := (hb3.cell (p := ⟨w.heap.size, 0, none⟩) (by simp; omega)).trans khb2_0_0
  have khb3_0_1 : w3.cell? ⟨w.heap.size, 1, none⟩ = some (.int .i64 a0y) := (hb3.cell (p := ⟨w.heap.size, 1, none⟩) (by simp; omega)).trans khb2_0_1
  go_wp2_with fail
  refine (Txt.c_PhaseText a0x a0y a1 _ (HTB.out.below (by repeat' (first | (with_reducible exact Below.refl _ _) | (with_reducible assumption) | (with_reducible refine Base.via hb3 ?_) | (with_reducible refine Base.via hb2 ?_) | (with_reducible refine Base.via hb1 ?_) | (with_reducible refine Base.grow_alloc ?_ _) | (with_reducible refine Base.below_drewN ?_ _) | (with_reducible refine Below.drew ?_) | (with_reducible refine Below.setCell ?_ ?_ _) | go_size)))).mono ?_
  rintro e w4 ⟨rfl, hb4⟩
  have zhb4 := Nat.le_trans zhb3 hb4.size
  have khb4_0_0 : w4.cell? ⟨w.heap.size, 0, none⟩ = some (.int .i64 a0x) := (hb4.cell (p := ⟨w.heap.size, 0, none⟩) (by simp; omega)).trans khb3_0_0
  have khb4_0_1 : w4.cell? ⟨w.heap.size, 1, none⟩ = some (.int .i64 a0y) := (hb4.cell (p := ⟨w.heap.size, 1, none⟩) (by simp; omega)).trans khb3_0_1
  go_wp2_with fail
  go_ret
  exact ⟨rfl, (by repeat' (first | (with_reducible exact Below.refl _ _) | (with_reducible assumption) | (with_reducible refine Base.via hb4 ?_) | (with_reducible refine Base.via hb3 ?_) | (with_reducible refine Base.via hb2 ?_) | (with_reducible refine Base.via hb1 ?_) | (with_reducible refine Base.grow_alloc ?_ _) | (with_reducible refine Base.below_drewN ?_ _) | (with_reducible refine Below.drew ?_) | (with_reducible refine Below.setCell ?_ ?_ _) | go_size))⟩

set_option maxRecDepth 100000 in
theorem lifted (os : Os) (started : os.Started) (H : Type) (enc : TypeId × Value → H) :
    ReturnsInHanded {} Tryd.checked os 6 .any (fun w args => (Rows.fnExactPhaseTextSpec.pre enc Tryd.prog Tryd.f6 [] false w args ∧ laidMetH Tryd.prog Laid.laid3 w) ∧ sizedMet enc Tryd.prog Tryd.f6 (OpenSpec.ofChange Rows.fnExactPhaseTextSpec) false w args)
      (Rows.fnExactPhaseTextSpec.post enc Tryd.prog Tryd.f6 false true false false) := by
  refine returnsInHanded_of_change_and (C := Tryd.checked) (X := fun w _ => laidMetH Tryd.prog Laid.laid3 w) (fun _ _ _ hh h => h.of_heap hh) Open.own started (by kernel_rfl) Tryd.func6
    (ChangeSpec.witness_shaped (enc := enc) (C := Tryd.checked) (os := os) (X := fun w _ => laidMetH Tryd.prog Laid.laid3 w) false (World.doorLaid Tryd.prog 24 os) #[.agg #[.int .i64 0, .int .i64 0], .int .i64 0] 8 rfl (World.shaped_of_RefB (by kernel_rfl) (by kernel_rfl)) (by kernel_rfl) (by kernel_rfl) (by kernel_rfl) (Laid.door_met os _)) ?_
  intro W base args ds gs before hval0 hW _ _ hLD _
  have hval : ∀ (j : Nat) t v, Tryd.f6.params[j]? = some t → args[j]? = some v → Value.okWide Tryd.prog W .any base t v := hval0
  have htab := Laid.of_laid hLD
  have hW' := hW
  obtain ⟨p, q, hA0, hV, rfl, _, _⟩ := hW
  have hA : DataW.TrodAll enc Tryd.prog W 0 (fun _ => true) true Tryd.f6.params.toList args.toList ds p := hA0
  rw [Tryd.params6] at hA hval
  obtain ⟨v0, vs0, d0, ds0, p0, q0, hargs, rfl, rfl, h0, r0⟩ := trodAll_cons hA
  obtain ⟨v1, vs1, d1, ds1, p1, q1, rfl, rfl, rfl, h1, r1⟩ := trodAll_cons r0
  obtain ⟨rfl, rfl, rfl⟩ := trodAll_nil r1
  obtain rfl : args = #[v0, v1] := by cases args; simp_all
  obtain ⟨hg, hq⟩ := trodVars_none hV
  subst hg; subst hq
  obtain ⟨a0x, a0y, rfl⟩ := Open.open2 (by kernel_rfl) (by kernel_rfl) Tryd.underlying23 Tryd.underlying2 (hval 0 23 v0 rfl rfl) h0
  obtain ⟨a1, rfl, rfl, rfl, _⟩ := open_int Tryd.underlying2 (hval 1 2 v1 rfl rfl) h1
  clear hA0 hval0 hA r0
  have fin : Calls Tryd.checked.prog 6 #[.agg #[.int .i64 a0x, .int .i64 a0y], .int .i64 a1] W fun r w' => r = .returned (.bool true) ∧ Below W.heap.size W w' := by
    exact walk a0x a0y a1 W htab
  refine fin.mono fun e W' ⟨he, hb⟩ => ?_
  subst he
  exact ⟨_, rfl, Base.lawPost Open.laidOut (of_decide_eq_true (by kernel_rfl)) rfl Tryd.underlying4 rfl rfl hW' hb⟩

theorem holds : Rows.FnExactPhaseTextSaid :=
  OpenClaim.holds_of_wide 6 Tryd.f6 rfl rfl rfl rfl rfl rfl rfl ⟨rfl, rfl, rfl, rfl, rfl⟩ rfl rfl rfl rfl rfl (by kernel_rfl) Tryd.func6 (by kernel_rfl)
    (of_decide_eq_true (by kernel_rfl)) (by unfold Func.isWrapper; first | (rw [if_pos (by decide +kernel)]; kernel_rfl) | (rw [if_neg (by decide +kernel)]; exact ⟨rfl, rfl⟩))
    (fun os started H enc _ => lifted os started H enc)
/-- The tied card. -/
theorem card_holds : Rows.FnExactPhaseTextCardSaid :=
  Claim7.holds_tied_plain_at .later [] [.data, .data, .data] true Rows.fnExactPhaseTextCard.stood.harness false
    holds (fun _ h => by cases h) (by kernel_rfl) (fun _ h => by cases h) fnExactPhaseText_row_tie rfl ⟨rfl, rfl⟩ (by kernel_rfl) rfl
    (fun f fn hf hfn => by
      obtain rfl : f = 6 := Option.some.inj ((show Tryd.prog.funcNamed Rows.fnExactPhaseTextRow.func = some 6 by kernel_rfl).symm.trans hf) |>.symm
      obtain rfl : fn = Tryd.f6 := (Option.some.inj (Tryd.func6.symm.trans hfn)).symm
      exact ⟨by kernel_rfl, fun j t ht => by
        rw [Tryd.params6] at ht
        have hm : t ∈ [23, 2] := by simpa using Array.mem_of_getElem? ht
        have hall : ([23, 2].all fun u => !Tryd.prog.wantsStandIn u) = true := by kernel_rfl
        exact (show Tryd.prog.wantsStandIn t = false by simpa using List.all_eq_true.1 hall t hm)⟩)
    (by kernel_rfl)
#print axioms card_holds
end Go.Proofs.YtpkkeoapndpikaaDoor.LPhaseText
