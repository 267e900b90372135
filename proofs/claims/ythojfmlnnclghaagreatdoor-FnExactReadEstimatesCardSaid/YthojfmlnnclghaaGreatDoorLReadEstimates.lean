/- FnExactReadEstimates: for every input the law returns true, and its argument reads behind the call as before. The condition: the tables of the library as laid. -/
import Derived.Test.YthojfmlnnclghaaGreatDoorRdF
import Derived.Test.YthojfmlnnclghaaGreatDoorRdG
import Derived.Test.YthojfmlnnclghaaGreatDoorHelp
import Derived.Test.YthojfmlnnclghaaGreatDoorOpen
import Derived.Test.YthojfmlnnclghaaGreatDoorRows
import Derived.Test.YthojfmlnnclghaaGreatDoorLaidZ
import Derived.Test.YthojfmlnnclghaaGreatDoorMkE
import Derived.ChangeMaps5
namespace Go.Proofs.YthojfmlnnclghaaGreatDoor.LReadEstimates
set_option linter.unusedVariables false
set_option linter.unusedSimpArgs false
open Go.ChangeShapes Go.WideShapes Go.ChangeAt Go.RowKit Go.Joins Plain View Est

set_option maxHeartbeats 6400000 in
theorem walk (a0 : ByteArray) (w : World) (hz : Rd.Tz w) (hl0 : a0.size ≤ 1048576) :
    Calls Tryz.prog 3 #[.string a0] w fun r w' => r = .returned (.bool true) ∧ Below w.heap.size w w' := by
  have HZ := Lib.hid hz
  clear hz
  go_enter Tryz.func3, Tryz.ntmps3
  go_wp2_with fail
  refine (Rd.c_specReadEstimates a0 _ hl0).mono ?_
  rintro e w1 ⟨⟨L, v1, b, rfl, o1, hre1⟩, hb1⟩
  have HRE1 := Lib.hid hre1
  have hLn := Rd.RE_len hre1
  clear hre1
  obtain ⟨A1, C1, rfl, V1, _⟩ := o1.view
  go_wp2_with fail
  refine (Rd.c_ReadEstimates a0 _ (HZ.out.below (by repeat' (first | (with_reducible exact Below.refl _ _) | (with_reducible assumption) | (with_reducible refine Base.via hb1 ?_) | (with_reducible refine Base.grow_alloc ?_ _) | (with_reducible refine Base.below_drewN ?_ _) | (with_reducible refine Below.drew ?_) | (with_reducible refine Below.setCell ?_ ?_ _) | go_size))) hl0).mono ?_
  rintro e w2 ⟨⟨L2, v2, b2, rfl, o2, hre2⟩, hb2⟩
  obtain ⟨rfl, rfl⟩ := Rd.RE_eq HRE1.out hre2
  clear hre2
  obtain ⟨A2, C2, rfl, V2, _⟩ := o2.view
  go_wp2_with fail
  refine (Est.c_eqEstimateS _ _ _ _ _ _ _ (o2.below (by repeat' (first | (with_reducible exact Below.refl _ _) | (with_reducible assumption) | (with_reducible refine Base.grow_alloc ?_ _) | (with_reducible refine Base.below_drewN ?_ _) | (with_reducible refine Below.drew ?_) | (with_reducible refine Below.setCell ?_ ?_ _) | go_size))).sl (o1.below (by repeat' (first | (with_reducible exact Below.refl _ _) | (with_reducible assumption) | (with_reducible refine Base.via hb2 ?_) | (with_reducible refine Base.grow_alloc ?_ _) | (with_reducible refine Base.below_drewN ?_ _) | (with_reducible refine Below.drew ?_) | (with_reducible refine Below.setCell ?_ ?_ _) | go_size))).sl).mono ?_
  rintro e w3 ⟨rfl, hb3⟩
  have t3 : Below w.heap.size w w3 := (by repeat' (first | (with_reducible exact Below.refl _ _) | (with_reducible assumption) | (with_reducible refine Base.via hb3 ?_) | (with_reducible refine Base.via hb2 ?_) | (with_reducible refine Base.via hb1 ?_) | (with_reducible refine Base.grow_alloc ?_ _) | (with_reducible refine Base.below_drewN ?_ _) | (with_reducible refine Below.drew ?_) | (with_reducible refine Below.setCell ?_ ?_ _) | go_size))
  cases b
  all_goals
    go_wp2_with fail
    refine (MkE.c_markEstimateS _ _ _ _ 1 _ (o2.below (by repeat' (first | (with_reducible exact Below.refl _ _) | (with_reducible assumption) | (with_reducible refine Base.via hb3 ?_) | (with_reducible refine Base.grow_alloc ?_ _) | (with_reducible refine Base.below_drewN ?_ _) | (with_reducible refine Below.drew ?_) | (with_reducible refine Below.setCell ?_ ?_ _) | go_size))) (by omega)).mono ?_
    rintro e w4 ⟨rfl, m4, g4⟩
    have hb4 := below_marked t3 g4 o2.blk hb1.size t3.size
    have T1 := (o1.below (by repeat' (first | (with_reducible exact Below.refl _ _) | (with_reducible assumption) | (with_reducible refine Base.via hb3 ?_) | (with_reducible refine Base.via hb2 ?_) | (with_reducible refine Base.grow_alloc ?_ _) | (with_reducible refine Base.below_drewN ?_ _) | (with_reducible refine Below.drew ?_) | (with_reducible refine Below.setCell ?_ ?_ _) | go_size))).marked o1.blk g4 o2.blk (Or.inl (Nat.le_refl _))
    go_wp2_with fail
    refine (MkE.c_heldEstimateS _ _ _ 1 _ (m4.below (by repeat' (first | (with_reducible exact Below.refl _ _) | (with_reducible assumption) | (with_reducible refine Base.grow_alloc ?_ _) | (with_reducible refine Base.below_drewN ?_ _) | (with_reducible refine Below.drew ?_) | (with_reducible refine Below.setCell ?_ ?_ _) | go_size))).sl (by omega)).mono ?_
    rintro e w5 ⟨rfl, hb5⟩
    go_wp2_with fail
    refine (Rd.c_ReadEstimates a0 _ (HZ.out.below (by repeat' (first | (with_reducible exact Below.refl _ _) | (with_reducible assumption) | (with_reducible refine Base.via hb5 ?_) | (with_reducible refine Base.via hb4 ?_) | (with_reducible refine Base.grow_alloc ?_ _) | (with_reducible refine Base.below_drewN ?_ _) | (with_reducible refine Below.drew ?_) | (with_reducible refine Below.setCell ?_ ?_ _) | go_size))) hl0).mono ?_
    rintro e w6 ⟨⟨L6, v6, b6, rfl, o6, hre6⟩, hb6⟩
    obtain ⟨rfl, rfl⟩ := Rd.RE_eq HRE1.out hre6
    clear hre6
    obtain ⟨A6, C6, rfl, V6, _⟩ := o6.view
    go_wp2_with fail
    refine (Est.c_eqEstimateS _ _ _ _ _ _ _ (o6.below (by repeat' (first | (with_reducible exact Below.refl _ _) | (with_reducible assumption) | (with_reducible refine Base.grow_alloc ?_ _) | (with_reducible refine Base.below_drewN ?_ _) | (with_reducible refine Below.drew ?_) | (with_reducible refine Below.setCell ?_ ?_ _) | go_size))).sl (T1.below (by repeat' (first | (with_reducible exact Below.refl _ _) | (with_reducible assumption) | (with_reducible refine Base.via hb6 ?_) | (with_reducible refine Base.via hb5 ?_) | (with_reducible refine Base.grow_alloc ?_ _) | (with_reducible refine Base.below_drewN ?_ _) | (with_reducible refine Below.drew ?_) | (with_reducible refine Below.setCell ?_ ?_ _) | go_size))).sl).mono ?_
    rintro e w7 ⟨rfl, hb7⟩
    go_wp2_with fail
    refine (MkE.c_heldEstimateS _ _ _ 1 _ (m4.below (by repeat' (first | (with_reducible exact Below.refl _ _) | (with_reducible assumption) | (with_reducible refine Base.via hb7 ?_) | (with_reducible refine Base.via hb6 ?_) | (with_reducible refine Base.via hb5 ?_) | (with_reducible refine Base.grow_alloc ?_ _) | (with_reducible refine Base.below_drewN ?_ _) | (with_reducible refine Below.drew ?_) | (with_reducible refine Below.setCell ?_ ?_ _) | go_size))).sl (by omega)).mono ?_
    rintro e w8 ⟨rfl, hb8⟩
    go_wp2_with fail
    go_ret
    exact ⟨rfl, (by repeat' (first | (with_reducible exact Below.refl _ _) | (with_reducible assumption) | (with_reducible refine Base.via hb8 ?_) | (with_reducible refine Base.via hb7 ?_) | (with_reducible refine Base.via hb6 ?_) | (with_reducible refine Base.via hb5 ?_) | (with_reducible refine Base.via hb4 ?_) | (with_reducible refine Base.grow_alloc ?_ _) | (with_reducible refine Base.below_drewN ?_ _) | (with_reducible refine Below.drew ?_) | (with_reducible refine Below.setCell ?_ ?_ _) | go_size))⟩

theorem walk_big (a0 : ByteArray) (w : World) (hm : a0.size ≤ 9223372036854775807) (hbig : 1048576 < a0.size) :
    Calls Tryz.prog 3 #[.string a0] w fun r w' => r = .returned (.bool true) ∧ Below w.heap.size w w' := by
  go_enter Tryz.func3, Tryz.ntmps3
  go_wp2_with fail
  go_ret
  exact ⟨rfl, (by repeat' (first | (with_reducible exact Below.refl _ _) | (with_reducible assumption) | (with_reducible refine Base.grow_alloc ?_ _) | (with_reducible refine Base.below_drewN ?_ _) | (with_reducible refine Below.drew ?_) | (with_reducible refine Below.setCell ?_ ?_ _) | go_size))⟩

set_option maxRecDepth 100000 in
theorem lifted (os : Os) (started : os.Started) (H : Type) (enc : TypeId × Value → H) :
    ReturnsInHanded {} Tryz.checked os 3 .any (fun w args => (Rows.fnExactReadEstimatesSpec.pre enc Tryz.prog Tryz.f3 [] false w args ∧ laidMetH Tryz.prog LaidZ.laid7 w) ∧ sizedMet enc Tryz.prog Tryz.f3 (OpenSpec.ofChange Rows.fnExactReadEstimatesSpec) false w args)
      (Rows.fnExactReadEstimatesSpec.post enc Tryz.prog Tryz.f3 false true false false) := by
  refine LaidZ.handed_and_shaped (C := Tryz.checked) (X := fun w _ => laidMetH Tryz.prog LaidZ.laid7 w) (fun _ _ _ hh h => h.of_heap hh) Open.own started (by kernel_rfl) Tryz.func3
    (ChangeSpec.witness_shaped (enc := enc) (C := Tryz.checked) (os := os) (X := fun w _ => laidMetH Tryz.prog LaidZ.laid7 w) false (World.laidAll Tryz.prog os LaidZ.laid7) #[.string ⟨#[]⟩] 8 (World.laidAll_os _ _ _) (LaidZ.witness_shape os _) (by kernel_rfl) (by kernel_rfl) (by kernel_rfl) (LaidZ.witness_met os _)) ?_
  intro W base args ds gs before hval0 hW hLD hsh
  have hval : ∀ (j : Nat) t v, Tryz.f3.params[j]? = some t → args[j]? = some v → Value.okWide Tryz.prog W .any base t v := hval0
  have htab := LaidZ.of_laid hLD hsh
  have hW' := hW
  obtain ⟨p, q, hA0, hV, rfl, _, _⟩ := hW
  have hA : DataW.TrodAll enc Tryz.prog W 0 (fun _ => true) true Tryz.f3.params.toList args.toList ds p := hA0
  rw [Tryz.params3] at hA hval
  obtain ⟨v0, vs0, d0, ds0, p0, q0, hargs, rfl, rfl, h0, r0⟩ := trodAll_cons hA
  obtain ⟨rfl, rfl, rfl⟩ := trodAll_nil r0
  obtain rfl : args = #[v0] := by cases args; simp_all
  obtain ⟨hg, hq⟩ := trodVars_none hV
  subst hg; subst hq
  obtain ⟨a0, rfl, rfl, rfl, ml0⟩ := Go.ChangeMaps.open_string Tryz.underlying9 (hval 0 9 v0 rfl rfl) h0
  simp only [maxLen] at ml0
  clear hA0 hval0 hA r0
  have fin : Calls Tryz.checked.prog 3 #[.string a0] W fun r w' => r = .returned (.bool true) ∧ Below W.heap.size W w' := by
    rcases Nat.lt_or_ge 1048576 a0.size with hb0 | hb0
    · exact walk_big a0 W ml0 hb0
    exact walk a0 W htab hb0
  refine fin.mono fun e W' ⟨he, hb⟩ => ?_
  subst he
  exact ⟨_, rfl, Base.lawPost Open.laidOut (of_decide_eq_true (by kernel_rfl)) rfl Tryz.underlying4 rfl rfl hW' hb⟩

theorem holds : Rows.FnExactReadEstimatesSaid :=
  OpenClaim.holds_of_wide 3 Tryz.f3 rfl rfl rfl rfl rfl rfl rfl ⟨rfl, rfl, rfl, rfl, rfl⟩ rfl rfl rfl rfl rfl (by kernel_rfl) Tryz.func3 (by kernel_rfl)
    (of_decide_eq_true (by kernel_rfl)) (by unfold Func.isWrapper; first | (rw [if_pos (by decide +kernel)]; kernel_rfl) | (rw [if_neg (by decide +kernel)]; exact ⟨rfl, rfl⟩))
    (fun os started H enc _ => lifted os started H enc)
/-- The tied card. -/
theorem card_holds : Rows.FnExactReadEstimatesCardSaid :=
  Claim7.holds_tied_plain_at .later [] [.data, .data, .data, .data, .sentinel, .sentinel, .pinned] true Rows.fnExactReadEstimatesCard.stood.harness true
    holds (fun _ h => by cases h) (by kernel_rfl) (fun _ h => by cases h) fnExactReadEstimates_row_tie rfl ⟨rfl, rfl⟩ (by kernel_rfl) rfl
    (fun f fn hf hfn => by
      obtain rfl : f = 3 := Option.some.inj ((show Tryz.prog.funcNamed Rows.fnExactReadEstimatesRow.func = some 3 by kernel_rfl).symm.trans hf) |>.symm
      obtain rfl : fn = Tryz.f3 := (Option.some.inj (Tryz.func3.symm.trans hfn)).symm
      exact ⟨by kernel_rfl, fun j t ht => by
        rw [Tryz.params3] at ht
        have hm : t ∈ [9] := by simpa using Array.mem_of_getElem? ht
        have hall : ([9].all fun u => !Tryz.prog.wantsStandIn u) = true := by kernel_rfl
        exact (show Tryz.prog.wantsStandIn t = false by simpa using List.all_eq_true.1 hall t hm)⟩)
    (by kernel_rfl)
#print axioms card_holds
end Go.Proofs.YthojfmlnnclghaaGreatDoor.LReadEstimates
