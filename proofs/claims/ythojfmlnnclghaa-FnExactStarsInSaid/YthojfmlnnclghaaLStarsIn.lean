/- FnExactStarsIn: for every input the law returns true, and its arguments read behind the call as before. No condition. -/
import Derived.Test.YthojfmlnnclghaaPutN
import Derived.Test.YthojfmlnnclghaaStars
import Derived.Test.YthojfmlnnclghaaHelp
import Derived.Test.YthojfmlnnclghaaOpen
import Derived.Test.YthojfmlnnclghaaRows
import Derived.Test.YthojfmlnnclghaaOpenE
import Derived.Test.YthojfmlnnclghaaStS
namespace Go.Proofs.Ythojfmlnnclghaa.LStarsIn
set_option linter.unusedVariables false
set_option linter.unusedSimpArgs false
open Go.ChangeShapes Go.WideShapes Go.ChangeAt Go.RowKit Go.Joins Plain View Est

set_option maxHeartbeats 1600000 in
theorem walk (A0 : Option Addr) (n0 c0 : Nat) (E0 : Nat → E5) (w : World) (hnn0 : n0 ≤ 1048576) (hv0 : Sl w 5 A0 n0 c0 (f5 E0)) (hs0 : ∀ i, i < n0 → (E0 i).s.size ≤ 9223372036854775807 ∧ (E0 i).o.size ≤ 9223372036854775807) :
    Calls Try.prog 3 #[.slice A0 n0 c0] w fun r w' => r = .returned (.bool true) ∧ Below w.heap.size w w' := by
  have HSZ := Est.c_szEstimateS A0 n0 c0 E0 1048576 w hv0 hs0 (by omega) (by omega) (by omega)
  rcases Decidable.em (szK E0 (1048576 - n0) n0 < 0) with hneg | hpos
  · rw [n1_neg hneg] at HSZ
    have HZ := Lib.hid HSZ
    clear HSZ hneg
    go_enter Try.func3, Try.ntmps3
    go_wp2_with fail
    refine HZ.out.mono ?_
    rintro e w' ⟨rfl, hb0⟩
    go_wp2_with fail
    go_ret
    exact ⟨rfl, (by repeat' (first | (with_reducible exact Below.refl _ _) | (with_reducible assumption) | (with_reducible refine Base.via hb0 ?_) | (with_reducible refine Base.grow_alloc ?_ _) | (with_reducible refine Base.below_drewN ?_ _) | (with_reducible refine Below.drew ?_) | (with_reducible refine Below.setCell ?_ ?_ _) | go_size))⟩
  rw [n1_pos hpos] at HSZ
  have hz0 : 0 ≤ szK E0 (1048576 - n0) n0 := by omega
  generalize szK E0 (1048576 - n0) n0 = z at *
  have HZ := Lib.hid HSZ
  clear HSZ hpos
  go_enter Try.func3, Try.ntmps3
  go_wp2_with fail
  refine HZ.out.mono ?_
  rintro e w' ⟨rfl, hb0⟩
  go_wp2_with fail
  refine (Est.c_toEstimateS A0 n0 c0 E0 _ (hv0.below (by repeat' (first | (with_reducible exact Below.refl _ _) | (with_reducible assumption) | (with_reducible refine Base.via hb0 ?_) | (with_reducible refine Base.grow_alloc ?_ _) | (with_reducible refine Base.below_drewN ?_ _) | (with_reducible refine Below.drew ?_) | (with_reducible refine Below.setCell ?_ ?_ _) | go_size)))).mono ?_
  rintro e w1 ⟨gw1, rfl, qgw1, rw1, hb1⟩
  have vw1 := rw1.view (c := n0) hnn0 (Nat.le_refl _) (by omega)
  have orw1 := OwnK.of_row hnn0 qgw1 rw1
  go_wp2_with fail
  refine (PutN.c_specStarsIn _ _ _ E0 _ (vw1.below (by repeat' (first | (with_reducible exact Below.refl _ _) | (with_reducible assumption) | (with_reducible refine Base.grow_alloc ?_ _) | (with_reducible refine Base.below_drewN ?_ _) | (with_reducible refine Below.drew ?_) | (with_reducible refine Below.setCell ?_ ?_ _) | go_size)))).mono ?_
  rintro e w2 ⟨sw20, rfl, ow20, hb2⟩
  obtain ⟨Asw20, Csw20, rfl, Vsw20, Bsw20⟩ := ow20.view
  go_wp2_with fail
  refine (Est.c_toEstimateS A0 n0 c0 E0 _ (hv0.below (by repeat' (first | (with_reducible exact Below.refl _ _) | (with_reducible assumption) | (with_reducible refine Base.via hb2 ?_) | (with_reducible refine Base.via hb1 ?_) | (with_reducible refine Base.via hb0 ?_) | (with_reducible refine Base.grow_alloc ?_ _) | (with_reducible refine Base.below_drewN ?_ _) | (with_reducible refine Below.drew ?_) | (with_reducible refine Below.setCell ?_ ?_ _) | go_size)))).mono ?_
  rintro e w3 ⟨gw3, rfl, qgw3, rw3, hb3⟩
  have vw3 := rw3.view (c := n0) hnn0 (Nat.le_refl _) (by omega)
  have orw3 := OwnK.of_row hnn0 qgw3 rw3
  go_wp2_with fail
  refine (Stars.c_StarsIn _ _ _ E0 _ (vw3.below (by repeat' (first | (with_reducible exact Below.refl _ _) | (with_reducible assumption) | (with_reducible refine Base.grow_alloc ?_ _) | (with_reducible refine Base.below_drewN ?_ _) | (with_reducible refine Below.drew ?_) | (with_reducible refine Below.setCell ?_ ?_ _) | go_size)))).mono ?_
  rintro e w4 ⟨sw40, rfl, ow40, hb4⟩
  obtain ⟨Asw40, Csw40, rfl, Vsw40, Bsw40⟩ := ow40.view
  go_wp2_with fail
  refine (StS.c_eqStringS _ _ _ _ _ _ _ (Vsw40.below (by repeat' (first | (with_reducible exact Below.refl _ _) | (with_reducible assumption) | (with_reducible refine Base.grow_alloc ?_ _) | (with_reducible refine Base.below_drewN ?_ _) | (with_reducible refine Below.drew ?_) | (with_reducible refine Below.setCell ?_ ?_ _) | go_size))) (Vsw20.below (by repeat' (first | (with_reducible exact Below.refl _ _) | (with_reducible assumption) | (with_reducible refine Base.via hb4 ?_) | (with_reducible refine Base.via hb3 ?_) | (with_reducible refine Base.grow_alloc ?_ _) | (with_reducible refine Base.below_drewN ?_ _) | (with_reducible refine Below.drew ?_) | (with_reducible refine Below.setCell ?_ ?_ _) | go_size)))).mono ?_
  rintro e w5 ⟨rfl, hb5⟩
  go_wp2_with fail
  refine (Est.c_toEstimateS A0 n0 c0 E0 _ (hv0.below (by repeat' (first | (with_reducible exact Below.refl _ _) | (with_reducible assumption) | (with_reducible refine Base.via hb5 ?_) | (with_reducible refine Base.via hb4 ?_) | (with_reducible refine Base.via hb3 ?_) | (with_reducible refine Base.via hb2 ?_) | (with_reducible refine Base.via hb1 ?_) | (with_reducible refine Base.via hb0 ?_) | (with_reducible refine Base.grow_alloc ?_ _) | (with_reducible refine Base.below_drewN ?_ _) | (with_reducible refine Below.drew ?_) | (with_reducible refine Below.setCell ?_ ?_ _) | go_size)))).mono ?_
  rintro e w6 ⟨gw6, rfl, qgw6, rw6, hb6⟩
  have vw6 := rw6.view (c := n0) hnn0 (Nat.le_refl _) (by omega)
  have orw6 := OwnK.of_row hnn0 qgw6 rw6
  go_wp2_with fail
  refine (Est.c_eqEstimateS _ _ _ _ _ E0 _ (vw3.below (by repeat' (first | (with_reducible exact Below.refl _ _) | (with_reducible assumption) | (with_reducible refine Base.via hb6 ?_) | (with_reducible refine Base.via hb5 ?_) | (with_reducible refine Base.via hb4 ?_) | (with_reducible refine Base.grow_alloc ?_ _) | (with_reducible refine Base.below_drewN ?_ _) | (with_reducible refine Below.drew ?_) | (with_reducible refine Below.setCell ?_ ?_ _) | go_size))) (vw6.below (by repeat' (first | (with_reducible exact Below.refl _ _) | (with_reducible assumption) | (with_reducible refine Base.grow_alloc ?_ _) | (with_reducible refine Base.below_drewN ?_ _) | (with_reducible refine Below.drew ?_) | (with_reducible refine Below.setCell ?_ ?_ _) | go_size)))).mono ?_
  rintro e w7 ⟨rfl, hb7⟩
  have tw8 : Below w.heap.size w w7 := (by repeat' (first | (with_reducible exact Below.refl _ _) | (with_reducible assumption) | (with_reducible refine Base.via hb7 ?_) | (with_reducible refine Base.via hb6 ?_) | (with_reducible refine Base.via hb5 ?_) | (with_reducible refine Base.via hb4 ?_) | (with_reducible refine Base.via hb3 ?_) | (with_reducible refine Base.via hb2 ?_) | (with_reducible refine Base.via hb1 ?_) | (with_reducible refine Base.via hb0 ?_) | (with_reducible refine Base.grow_alloc ?_ _) | (with_reducible refine Base.below_drewN ?_ _) | (with_reducible refine Below.drew ?_) | (with_reducible refine Below.setCell ?_ ?_ _) | go_size))
  go_wp2_with fail
  refine (MkE.c_markEstimateS _ _ _ _ 1 _ (orw3.below (by repeat' (first | (with_reducible exact Below.refl _ _) | (with_reducible assumption) | (with_reducible refine Base.via hb7 ?_) | (with_reducible refine Base.via hb6 ?_) | (with_reducible refine Base.via hb5 ?_) | (with_reducible refine Base.via hb4 ?_) | (with_reducible refine Base.grow_alloc ?_ _) | (with_reducible refine Base.below_drewN ?_ _) | (with_reducible refine Below.drew ?_) | (with_reducible refine Below.setCell ?_ ?_ _) | go_size))) (by omega)).mono ?_
  rintro e w8 ⟨rfl, mw8, gw8⟩
  have hb8 := below_marked tw8 gw8 orw3.blk (by have sx := hb0.size; have s0 := hb1.size; have s1 := hb2.size; have s2 := hb3.size; have s3 := hb4.size; have s4 := hb5.size; have s5 := hb6.size; have s6 := hb7.size; omega) tw8.size
  have W0w8 := (Vsw20.below (by repeat' (first | (with_reducible exact Below.refl _ _) | (with_reducible assumption) | (with_reducible refine Base.via hb7 ?_) | (with_reducible refine Base.via hb6 ?_) | (with_reducible refine Base.via hb5 ?_) | (with_reducible refine Base.via hb4 ?_) | (with_reducible refine Base.via hb3 ?_) | (with_reducible refine Base.grow_alloc ?_ _) | (with_reducible refine Base.below_drewN ?_ _) | (with_reducible refine Below.drew ?_) | (with_reducible refine Below.setCell ?_ ?_ _) | go_size))).marked ow20.blk gw8 orw3.blk (by have sx := hb0.size; have s0 := hb1.size; have s1 := hb2.size; have s2 := hb3.size; have s3 := hb4.size; have s4 := hb5.size; have s5 := hb6.size; have s6 := hb7.size; omega)
  have G0w8 := (ow40.below (by repeat' (first | (with_reducible exact Below.refl _ _) | (with_reducible assumption) | (with_reducible refine Base.via hb7 ?_) | (with_reducible refine Base.via hb6 ?_) | (with_reducible refine Base.via hb5 ?_) | (with_reducible refine Base.grow_alloc ?_ _) | (with_reducible refine Base.below_drewN ?_ _) | (with_reducible refine Below.drew ?_) | (with_reducible refine Below.setCell ?_ ?_ _) | go_size))).marked ow40.blk gw8 orw3.blk (by have sx := hb0.size; have s0 := hb1.size; have s1 := hb2.size; have s2 := hb3.size; have s3 := hb4.size; have s4 := hb5.size; have s5 := hb6.size; have s6 := hb7.size; omega)
  go_wp2_with fail
  refine (StS.c_eqStringS _ _ _ _ _ _ _ (G0w8.sl.below (by repeat' (first | (with_reducible exact Below.refl _ _) | (with_reducible assumption) | (with_reducible refine Base.grow_alloc ?_ _) | (with_reducible refine Base.below_drewN ?_ _) | (with_reducible refine Below.drew ?_) | (with_reducible refine Below.setCell ?_ ?_ _) | go_size))) (W0w8.below (by repeat' (first | (with_reducible exact Below.refl _ _) | (with_reducible assumption) | (with_reducible refine Base.grow_alloc ?_ _) | (with_reducible refine Base.below_drewN ?_ _) | (with_reducible refine Below.drew ?_) | (with_reducible refine Below.setCell ?_ ?_ _) | go_size)))).mono ?_
  rintro e w9 ⟨rfl, hb9⟩
  have tw10 : Below w.heap.size w w9 := (by repeat' (first | (with_reducible exact Below.refl _ _) | (with_reducible assumption) | (with_reducible refine Base.via hb9 ?_) | (with_reducible refine Base.via hb8 ?_) | (with_reducible refine Base.grow_alloc ?_ _) | (with_reducible refine Base.below_drewN ?_ _) | (with_reducible refine Below.drew ?_) | (with_reducible refine Below.setCell ?_ ?_ _) | go_size))
  go_wp2_with fail
  refine (StS.c_markStringS _ _ _ _ 1 _ (G0w8.below (by repeat' (first | (with_reducible exact Below.refl _ _) | (with_reducible assumption) | (with_reducible refine Base.via hb9 ?_) | (with_reducible refine Base.grow_alloc ?_ _) | (with_reducible refine Base.below_drewN ?_ _) | (with_reducible refine Below.drew ?_) | (with_reducible refine Below.setCell ?_ ?_ _) | go_size))) (by omega)).mono ?_
  rintro e w10 ⟨rfl, mw10, gw10⟩
  have hb10 := below_marked tw10 gw10 ow40.blk (by have sx := hb0.size; have s0 := hb1.size; have s1 := hb2.size; have s2 := hb3.size; have s3 := hb4.size; have s4 := hb5.size; have s5 := hb6.size; have s6 := hb7.size; have s7 := hb8.size; have s8 := hb9.size; have s9 := gw8.size; omega) tw10.size
  have W0w10 := (W0w8.below (by repeat' (first | (with_reducible exact Below.refl _ _) | (with_reducible assumption) | (with_reducible refine Base.via hb9 ?_) | (with_reducible refine Base.grow_alloc ?_ _) | (with_reducible refine Base.below_drewN ?_ _) | (with_reducible refine Below.drew ?_) | (with_reducible refine Below.setCell ?_ ?_ _) | go_size))).marked ow20.blk gw10 ow40.blk (by have sx := hb0.size; have s0 := hb1.size; have s1 := hb2.size; have s2 := hb3.size; have s3 := hb4.size; have s4 := hb5.size; have s5 := hb6.size; have s6 := hb7.size; have s7 := hb8.size; have s8 := hb9.size; have s9 := gw8.size; omega)
  go_wp2_with fail
  refine (StS.c_heldStringS _ _ _ 1 _ (mw10.below (by repeat' (first | (with_reducible exact Below.refl _ _) | (with_reducible assumption) | (with_reducible refine Base.grow_alloc ?_ _) | (with_reducible refine Base.below_drewN ?_ _) | (with_reducible refine Below.drew ?_) | (with_reducible refine Below.setCell ?_ ?_ _) | go_size))).sl (by omega)).mono ?_
  rintro e wh1 ⟨rfl, hbh1⟩
  go_wp2_with fail
  refine (Est.c_toEstimateS A0 n0 c0 E0 _ (hv0.below (by repeat' (first | (with_reducible exact Below.refl _ _) | (with_reducible assumption) | (with_reducible refine Base.via hbh1 ?_) | (with_reducible refine Base.via hb10 ?_) | (with_reducible refine Base.grow_alloc ?_ _) | (with_reducible refine Base.below_drewN ?_ _) | (with_reducible refine Below.drew ?_) | (with_reducible refine Below.setCell ?_ ?_ _) | go_size)))).mono ?_
  rintro e w11 ⟨gw11, rfl, qgw11, rw11, hb11⟩
  have vw11 := rw11.view (c := n0) hnn0 (Nat.le_refl _) (by omega)
  have orw11 := OwnK.of_row hnn0 qgw11 rw11
  go_wp2_with fail
  refine (Stars.c_StarsIn _ _ _ E0 _ (vw11.below (by repeat' (first | (with_reducible exact Below.refl _ _) | (with_reducible assumption) | (with_reducible refine Base.grow_alloc ?_ _) | (with_reducible refine Base.below_drewN ?_ _) | (with_reducible refine Below.drew ?_) | (with_reducible refine Below.setCell ?_ ?_ _) | go_size)))).mono ?_
  rintro e w12 ⟨sw120, rfl, ow120, hb12⟩
  obtain ⟨Asw120, Csw120, rfl, Vsw120, Bsw120⟩ := ow120.view
  go_wp2_with fail
  refine (StS.c_eqStringS _ _ _ _ _ _ _ (Vsw120.below (by repeat' (first | (with_reducible exact Below.refl _ _) | (with_reducible assumption) | (with_reducible refine Base.grow_alloc ?_ _) | (with_reducible refine Base.below_drewN ?_ _) | (with_reducible refine Below.drew ?_) | (with_reducible refine Below.setCell ?_ ?_ _) | go_size))) (W0w10.below (by repeat' (first | (with_reducible exact Below.refl _ _) | (with_reducible assumption) | (with_reducible refine Base.via hb12 ?_) | (with_reducible refine Base.via hb11 ?_) | (with_reducible refine Base.via hbh1 ?_) | (with_reducible refine Base.grow_alloc ?_ _) | (with_reducible refine Base.below_drewN ?_ _) | (with_reducible refine Below.drew ?_) | (with_reducible refine Below.setCell ?_ ?_ _) | go_size)))).mono ?_
  rintro e w13 ⟨rfl, hb13⟩
  go_wp2_with fail
  refine (StS.c_heldStringS _ _ _ 1 _ (mw10.below (by repeat' (first | (with_reducible exact Below.refl _ _) | (with_reducible assumption) | (with_reducible refine Base.via hb13 ?_) | (with_reducible refine Base.via hb12 ?_) | (with_reducible refine Base.via hb11 ?_) | (with_reducible refine Base.via hbh1 ?_) | (with_reducible refine Base.grow_alloc ?_ _) | (with_reducible refine Base.below_drewN ?_ _) | (with_reducible refine Below.drew ?_) | (with_reducible refine Below.setCell ?_ ?_ _) | go_size))).sl (by omega)).mono ?_
  rintro e wh2 ⟨rfl, hbh2⟩
  go_wp2_with fail
  go_ret
  exact ⟨rfl, (by repeat' (first | (with_reducible exact Below.refl _ _) | (with_reducible assumption) | (with_reducible refine Base.via hbh2 ?_) | (with_reducible refine Base.via hb13 ?_) | (with_reducible refine Base.via hb12 ?_) | (with_reducible refine Base.via hb11 ?_) | (with_reducible refine Base.via hbh1 ?_) | (with_reducible refine Base.via hb10 ?_) | (with_reducible refine Base.grow_alloc ?_ _) | (with_reducible refine Base.below_drewN ?_ _) | (with_reducible refine Below.drew ?_) | (with_reducible refine Below.setCell ?_ ?_ _) | go_size))⟩

theorem walk_big (A0 : Option Addr) (n0 c0 : Nat) (w : World) (hm : n0 ≤ 9223372036854775807) (hbig : 1048576 < n0) :
    Calls Try.prog 3 #[.slice A0 n0 c0] w fun r w' => r = .returned (.bool true) ∧ Below w.heap.size w w' := by
  go_enter Try.func3, Try.ntmps3
  go_wp2_with fail
  refine (Est.c_szEstimateS_no _ _ _ _ _ (by omega) (by omega) (by omega) (by omega)).mono ?_
  rintro e w' ⟨rfl, rfl⟩
  go_wp2_with fail
  go_ret
  exact ⟨rfl, (by repeat' (first | (with_reducible exact Below.refl _ _) | (with_reducible assumption) | (with_reducible refine Base.grow_alloc ?_ _) | (with_reducible refine Base.below_drewN ?_ _) | (with_reducible refine Below.drew ?_) | (with_reducible refine Below.setCell ?_ ?_ _) | go_size))⟩

set_option maxRecDepth 100000 in
theorem lifted (os : Os) (started : os.Started) (H : Type) (enc : TypeId × Value → H) :
    ReturnsInHanded {} Try.checked os 3 .any (Rows.fnExactStarsInSpec.pre6 enc Try.prog Try.f3 Rows.fnExactStarsInRow.domain false) (Rows.fnExactStarsInSpec.post enc Try.prog Try.f3 false true false false) := by
  refine returnsInHanded_of_change (C := Try.checked) Open.own started (by kernel_rfl) Try.func3
    (ChangeSpec.witness6 (enc := enc) (C := Try.checked) false ⟨#[], #[.slice none 0 0], []⟩ 8 (by kernel_rfl) (by kernel_rfl) (by kernel_rfl) (by kernel_rfl)) ?_
  intro W base args ds gs before hval0 hW _ _
  have hval : ∀ (j : Nat) t v, Try.f3.params[j]? = some t → args[j]? = some v → Value.okWide Try.prog W .any base t v := hval0
  have hW' := hW
  obtain ⟨p, q, hA0, hV, rfl, _, _⟩ := hW
  have hA : DataW.TrodAll enc Try.prog W 0 (fun _ => true) true Try.f3.params.toList args.toList ds p := hA0
  rw [Try.params3] at hA hval
  obtain ⟨v0, vs0, d0, ds0, p0, q0, hargs, rfl, rfl, h0, r0⟩ := trodAll_cons hA
  obtain ⟨rfl, rfl, rfl⟩ := trodAll_nil r0
  obtain rfl : args = #[v0] := by cases args; simp_all
  obtain ⟨hg, hq⟩ := trodVars_none hV
  subst hg; subst hq
  obtain ⟨A0, n0, c0, E0, rfl, m0, s0⟩ := OpenE.openSE (by kernel_rfl) (by kernel_rfl) Try.underlying22 Try.underlying47 Try.underlying2 Try.underlying9 Try.underlying4 (hval 0 22 v0 rfl rfl) h0
  clear hA0 hval0 hA r0
  have fin : Calls Try.checked.prog 3 #[.slice A0 n0 c0] W fun r w' => r = .returned (.bool true) ∧ Below W.heap.size W w' := by
    rcases Nat.lt_or_ge 1048576 (n0) with hs0 | hs0
    · exact walk_big A0 n0 c0 W m0 (by omega)
    exact walk A0 n0 c0 E0 W (by omega) (s0 (by omega)).1 (s0 (by omega)).2
  refine fin.mono fun e W' ⟨he, hb⟩ => ?_
  subst he
  exact ⟨_, rfl, Base.lawPost Open.laidOut (of_decide_eq_true (by kernel_rfl)) rfl Try.underlying4 rfl rfl hW' hb⟩

theorem holds : Rows.FnExactStarsInSaid :=
  OpenClaim.holds_of_wide 3 Try.f3 rfl rfl rfl rfl rfl rfl rfl ⟨rfl, rfl, rfl, rfl, rfl⟩ rfl rfl rfl rfl rfl (by kernel_rfl) Try.func3 (by kernel_rfl)
    (of_decide_eq_true (by kernel_rfl)) (by unfold Func.isWrapper; first | (rw [if_pos (by decide +kernel)]; kernel_rfl) | (rw [if_neg (by decide +kernel)]; exact ⟨rfl, rfl⟩))
    (fun os started H enc _ => lifted os started H enc)
#print axioms holds
end Go.Proofs.Ythojfmlnnclghaa.LStarsIn
