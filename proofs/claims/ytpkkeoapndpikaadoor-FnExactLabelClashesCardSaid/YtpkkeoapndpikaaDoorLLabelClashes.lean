/- FnExactLabelClashes: for every input the law returns true, and its arguments read behind the call as before. No condition. -/
import Derived.Test.YtpkkeoapndpikaaDoorLcl
import Derived.Test.YtpkkeoapndpikaaDoorNstM
import Derived.Test.YtpkkeoapndpikaaDoorHelp
import Derived.Test.YtpkkeoapndpikaaDoorOpen
import Derived.Test.YtpkkeoapndpikaaDoorRows
import Derived.Test.YtpkkeoapndpikaaDoorLaid
namespace Go.Proofs.YtpkkeoapndpikaaDoor.LLabelClashes
set_option linter.unusedVariables false
set_option linter.unusedSimpArgs false
open Go.ChangeShapes Go.WideShapes Go.ChangeAt Go.RowKit Go.Joins Plain View

set_option maxHeartbeats 3200000 in
theorem walk (A0 : Option Addr) (n0 c0 : Nat) (f0x f0y f0z : Nat → Int) (A1 : Option Addr) (n1 c1 : Nat) (f1x : Nat → Int) (w : World) (ht : Dec.Tb w) (hnn0 : n0 ≤ 1048576) (hv0 : Sl w 3 A0 n0 c0 (f3 f0x f0y f0z)) (hnn1 : n1 ≤ 1048576) (hv1 : Sl w 1 A1 n1 c1 (f1 f1x)) :
    Calls Tryd.prog 9 #[.slice A0 n0 c0, .slice A1 n1 c1] w fun r w' => r = .returned (.bool true) ∧ Below w.heap.size w w' := by
  have HTB := Lib.hid ht
  clear ht
  go_enter Tryd.func9, Tryd.ntmps9
  go_wp2_with fail
  refine (Help.c_szMarkS_yes _ _ _ _ _ (by omega) (by omega) (by omega) (by omega)).mono ?_
  rintro e w' ⟨rfl, rfl⟩
  go_wp2_with fail
  refine (Help.c_toMarkS A0 n0 c0 f0x f0y f0z _ (hv0.below (by repeat' (first | (with_reducible exact Below.refl _ _) | (with_reducible assumption) | (with_reducible refine Base.grow_alloc ?_ _) | (with_reducible refine Base.below_drewN ?_ _) | (with_reducible refine Below.drew ?_) | (with_reducible refine Below.setCell ?_ ?_ _) | go_size)))).mono ?_
  rintro e w1 ⟨g1, rfl, qg1, r1, hb1⟩
  have v1 := r1.view (c := n0) hnn0 (Nat.le_refl _) (by omega)
  have o1 := OwnK.of_row hnn0 qg1 r1
  go_wp2_with fail
  refine (Help.c_toInt64S A1 n1 c1 f1x _ (hv1.below (by repeat' (first | (with_reducible exact Below.refl _ _) | (with_reducible assumption) | (with_reducible refine Base.via hb1 ?_) | (with_reducible refine Base.grow_alloc ?_ _) | (with_reducible refine Base.below_drewN ?_ _) | (with_reducible refine Below.drew ?_) | (with_reducible refine Below.setCell ?_ ?_ _) | go_size)))).mono ?_
  rintro e w2 ⟨g2, rfl, qg2, r2, hb2⟩
  have v2 := r2.view (c := n1) hnn1 (Nat.le_refl _) (by omega)
  have o2 := OwnK.of_row hnn1 qg2 r2
  go_wp2_with fail
  refine (Lcl.c_specLabelClashes _ _ _ f0x f0y f0z _ _ _ f1x _ (v1.below (by repeat' (first | (with_reducible exact Below.refl _ _) | (with_reducible assumption) | (with_reducible refine Base.via hb2 ?_) | (with_reducible refine Base.grow_alloc ?_ _) | (with_reducible refine Base.below_drewN ?_ _) | (with_reducible refine Below.drew ?_) | (with_reducible refine Below.setCell ?_ ?_ _) | go_size))) (v2.below (by repeat' (first | (with_reducible exact Below.refl _ _) | (with_reducible assumption) | (with_reducible refine Base.grow_alloc ?_ _) | (with_reducible refine Base.below_drewN ?_ _) | (with_reducible refine Below.drew ?_) | (with_reducible refine Below.setCell ?_ ?_ _) | go_size)))).mono ?_
  rintro e w3 ⟨u3, G3, rfl, o3, hb3⟩
  go_wp2_with fail
  refine (Help.c_toMarkS A0 n0 c0 f0x f0y f0z _ (hv0.below (by repeat' (first | (with_reducible exact Below.refl _ _) | (with_reducible assumption) | (with_reducible refine Base.via hb3 ?_) | (with_reducible refine Base.via hb2 ?_) | (with_reducible refine Base.via hb1 ?_) | (with_reducible refine Base.grow_alloc ?_ _) | (with_reducible refine Base.below_drewN ?_ _) | (with_reducible refine Below.drew ?_) | (with_reducible refine Below.setCell ?_ ?_ _) | go_size)))).mono ?_
  rintro e w4 ⟨g4, rfl, qg4, r4, hb4⟩
  have v4 := r4.view (c := n0) hnn0 (Nat.le_refl _) (by omega)
  have o4 := OwnK.of_row hnn0 qg4 r4
  go_wp2_with fail
  refine (Help.c_toInt64S A1 n1 c1 f1x _ (hv1.below (by repeat' (first | (with_reducible exact Below.refl _ _) | (with_reducible assumption) | (with_reducible refine Base.via hb4 ?_) | (with_reducible refine Base.via hb3 ?_) | (with_reducible refine Base.via hb2 ?_) | (with_reducible refine Base.via hb1 ?_) | (with_reducible refine Base.grow_alloc ?_ _) | (with_reducible refine Base.below_drewN ?_ _) | (with_reducible refine Below.drew ?_) | (with_reducible refine Below.setCell ?_ ?_ _) | go_size)))).mono ?_
  rintro e w5 ⟨g5, rfl, qg5, r5, hb5⟩
  have v5 := r5.view (c := n1) hnn1 (Nat.le_refl _) (by omega)
  have o5 := OwnK.of_row hnn1 qg5 r5
  go_wp2_with fail
  refine (Lcl.c_LabelClashes _ _ _ f0x f0y f0z _ _ _ f1x _ (v4.below (by repeat' (first | (with_reducible exact Below.refl _ _) | (with_reducible assumption) | (with_reducible refine Base.via hb5 ?_) | (with_reducible refine Base.grow_alloc ?_ _) | (with_reducible refine Base.below_drewN ?_ _) | (with_reducible refine Below.drew ?_) | (with_reducible refine Below.setCell ?_ ?_ _) | go_size))) (v5.below (by repeat' (first | (with_reducible exact Below.refl _ _) | (with_reducible assumption) | (with_reducible refine Base.grow_alloc ?_ _) | (with_reducible refine Base.below_drewN ?_ _) | (with_reducible refine Below.drew ?_) | (with_reducible refine Below.setCell ?_ ?_ _) | go_size))) (HTB.out.below (by repeat' (first | (with_reducible exact Below.refl _ _) | (with_reducible assumption) | (with_reducible refine Base.via hb5 ?_) | (with_reducible refine Base.via hb4 ?_) | (with_reducible refine Base.via hb3 ?_) | (with_reducible refine Base.via hb2 ?_) | (with_reducible refine Base.via hb1 ?_) | (with_reducible refine Base.grow_alloc ?_ _) | (with_reducible refine Base.below_drewN ?_ _) | (with_reducible refine Below.drew ?_) | (with_reducible refine Below.setCell ?_ ?_ _) | go_size)))).mono ?_
  rintro e w6 ⟨u6, G6, rfl, o6, hb6⟩
  go_wp2_with fail
  refine (NstM.c_eqInt64SS _ _ _ _ _ _ _ _ _ _ _ (o6.below (by repeat' (first | (with_reducible exact Below.refl _ _) | (with_reducible assumption) | (with_reducible refine Base.grow_alloc ?_ _) | (with_reducible refine Base.below_drewN ?_ _) | (with_reducible refine Below.drew ?_) | (with_reducible refine Below.setCell ?_ ?_ _) | go_size))) (o3.below (by repeat' (first | (with_reducible exact Below.refl _ _) | (with_reducible assumption) | (with_reducible refine Base.via hb6 ?_) | (with_reducible refine Base.via hb5 ?_) | (with_reducible refine Base.via hb4 ?_) | (with_reducible refine Base.grow_alloc ?_ _) | (with_reducible refine Base.below_drewN ?_ _) | (with_reducible refine Below.drew ?_) | (with_reducible refine Below.setCell ?_ ?_ _) | go_size)))).mono ?_
  rintro e w7 ⟨rfl, hb7⟩
  go_wp2_with fail
  refine (Help.c_toMarkS A0 n0 c0 f0x f0y f0z _ (hv0.below (by repeat' (first | (with_reducible exact Below.refl _ _) | (with_reducible assumption) | (with_reducible refine Base.via hb7 ?_) | (with_reducible refine Base.via hb6 ?_) | (with_reducible refine Base.via hb5 ?_) | (with_reducible refine Base.via hb4 ?_) | (with_reducible refine Base.via hb3 ?_) | (with_reducible refine Base.via hb2 ?_) | (with_reducible refine Base.via hb1 ?_) | (with_reducible refine Base.grow_alloc ?_ _) | (with_reducible refine Base.below_drewN ?_ _) | (with_reducible refine Below.drew ?_) | (with_reducible refine Below.setCell ?_ ?_ _) | go_size)))).mono ?_
  rintro e w8 ⟨g8, rfl, qg8, r8, hb8⟩
  have v8 := r8.view (c := n0) hnn0 (Nat.le_refl _) (by omega)
  have o8 := OwnK.of_row hnn0 qg8 r8
  go_wp2_with fail
  refine (Help.c_eqMarkS _ _ _ _ _ f0x f0y f0z _ (v4.below (by repeat' (first | (with_reducible exact Below.refl _ _) | (with_reducible assumption) | (with_reducible refine Base.via hb8 ?_) | (with_reducible refine Base.via hb7 ?_) | (with_reducible refine Base.via hb6 ?_) | (with_reducible refine Base.via hb5 ?_) | (with_reducible refine Base.grow_alloc ?_ _) | (with_reducible refine Base.below_drewN ?_ _) | (with_reducible refine Below.drew ?_) | (with_reducible refine Below.setCell ?_ ?_ _) | go_size))) (v8.below (by repeat' (first | (with_reducible exact Below.refl _ _) | (with_reducible assumption) | (with_reducible refine Base.grow_alloc ?_ _) | (with_reducible refine Base.below_drewN ?_ _) | (with_reducible refine Below.drew ?_) | (with_reducible refine Below.setCell ?_ ?_ _) | go_size)))).mono ?_
  rintro e w9 ⟨rfl, hb9⟩
  go_wp2_with fail
  refine (Help.c_toInt64S A1 n1 c1 f1x _ (hv1.below (by repeat' (first | (with_reducible exact Below.refl _ _) | (with_reducible assumption) | (with_reducible refine Base.via hb9 ?_) | (with_reducible refine Base.via hb8 ?_) | (with_reducible refine Base.via hb7 ?_) | (with_reducible refine Base.via hb6 ?_) | (with_reducible refine Base.via hb5 ?_) | (with_reducible refine Base.via hb4 ?_) | (with_reducible refine Base.via hb3 ?_) | (with_reducible refine Base.via hb2 ?_) | (with_reducible refine Base.via hb1 ?_) | (with_reducible refine Base.grow_alloc ?_ _) | (with_reducible refine Base.below_drewN ?_ _) | (with_reducible refine Below.drew ?_) | (with_reducible refine Below.setCell ?_ ?_ _) | go_size)))).mono ?_
  rintro e w10 ⟨g10, rfl, qg10, r10, hb10⟩
  have v10 := r10.view (c := n1) hnn1 (Nat.le_refl _) (by omega)
  have o10 := OwnK.of_row hnn1 qg10 r10
  go_wp2_with fail
  refine (Help.c_eqInt64S _ _ _ _ _ f1x _ (v5.below (by repeat' (first | (with_reducible exact Below.refl _ _) | (with_reducible assumption) | (with_reducible refine Base.via hb10 ?_) | (with_reducible refine Base.via hb9 ?_) | (with_reducible refine Base.via hb8 ?_) | (with_reducible refine Base.via hb7 ?_) | (with_reducible refine Base.via hb6 ?_) | (with_reducible refine Base.grow_alloc ?_ _) | (with_reducible refine Base.below_drewN ?_ _) | (with_reducible refine Below.drew ?_) | (with_reducible refine Below.setCell ?_ ?_ _) | go_size))) (v10.below (by repeat' (first | (with_reducible exact Below.refl _ _) | (with_reducible assumption) | (with_reducible refine Base.grow_alloc ?_ _) | (with_reducible refine Base.below_drewN ?_ _) | (with_reducible refine Below.drew ?_) | (with_reducible refine Below.setCell ?_ ?_ _) | go_size)))).mono ?_
  rintro e w11 ⟨rfl, hb11⟩
  have t12 : Below w.heap.size w w11 := (by repeat' (first | (with_reducible exact Below.refl _ _) | (with_reducible assumption) | (with_reducible refine Base.via hb11 ?_) | (with_reducible refine Base.via hb10 ?_) | (with_reducible refine Base.via hb9 ?_) | (with_reducible refine Base.via hb8 ?_) | (with_reducible refine Base.via hb7 ?_) | (with_reducible refine Base.via hb6 ?_) | (with_reducible refine Base.via hb5 ?_) | (with_reducible refine Base.via hb4 ?_) | (with_reducible refine Base.via hb3 ?_) | (with_reducible refine Base.via hb2 ?_) | (with_reducible refine Base.via hb1 ?_) | (with_reducible refine Base.grow_alloc ?_ _) | (with_reducible refine Base.below_drewN ?_ _) | (with_reducible refine Below.drew ?_) | (with_reducible refine Below.setCell ?_ ?_ _) | go_size))
  go_wp2_with fail
  refine (Help.c_markMarkS _ _ _ _ 1 _ (o4.below (by repeat' (first | (with_reducible exact Below.refl _ _) | (with_reducible assumption) | (with_reducible refine Base.via hb11 ?_) | (with_reducible refine Base.via hb10 ?_) | (with_reducible refine Base.via hb9 ?_) | (with_reducible refine Base.via hb8 ?_) | (with_reducible refine Base.via hb7 ?_) | (with_reducible refine Base.via hb6 ?_) | (with_reducible refine Base.via hb5 ?_) | (with_reducible refine Base.grow_alloc ?_ _) | (with_reducible refine Base.below_drewN ?_ _) | (with_reducible refine Below.drew ?_) | (with_reducible refine Below.setCell ?_ ?_ _) | go_size))) (by omega) (by omega)).mono ?_
  rintro e w12 ⟨rfl, m12, g12⟩
  have hb12 := below_marked t12 g12 o4.blk (by have s0 := hb1.size; have s1 := hb2.size; have s2 := hb3.size; have s3 := hb4.size; have s4 := hb5.size; have s5 := hb6.size; have s6 := hb7.size; have s7 := hb8.size; have s8 := hb9.size; have s9 := hb10.size; have s10 := hb11.size; omega) t12.size
  have T12_3 := (o3.below (by repeat' (first | (with_reducible exact Below.refl _ _) | (with_reducible assumption) | (with_reducible refine Base.via hb11 ?_) | (with_reducible refine Base.via hb10 ?_) | (with_reducible refine Base.via hb9 ?_) | (with_reducible refine Base.via hb8 ?_) | (with_reducible refine Base.via hb7 ?_) | (with_reducible refine Base.via hb6 ?_) | (with_reducible refine Base.via hb5 ?_) | (with_reducible refine Base.via hb4 ?_) | (with_reducible refine Base.grow_alloc ?_ _) | (with_reducible refine Base.below_drewN ?_ _) | (with_reducible refine Below.drew ?_) | (with_reducible refine Below.setCell ?_ ?_ _) | go_size))).marked g12 o4.blk (by have s0 := hb1.size; have s1 := hb2.size; have s2 := hb3.size; have s3 := hb4.size; have s4 := hb5.size; have s5 := hb6.size; have s6 := hb7.size; have s7 := hb8.size; have s8 := hb9.size; have s9 := hb10.size; have s10 := hb11.size; omega)
  have T12_6 := (o6.below (by repeat' (first | (with_reducible exact Below.refl _ _) | (with_reducible assumption) | (with_reducible refine Base.via hb11 ?_) | (with_reducible refine Base.via hb10 ?_) | (with_reducible refine Base.via hb9 ?_) | (with_reducible refine Base.via hb8 ?_) | (with_reducible refine Base.via hb7 ?_) | (with_reducible refine Base.grow_alloc ?_ _) | (with_reducible refine Base.below_drewN ?_ _) | (with_reducible refine Below.drew ?_) | (with_reducible refine Below.setCell ?_ ?_ _) | go_size))).marked g12 o4.blk (by have s0 := hb1.size; have s1 := hb2.size; have s2 := hb3.size; have s3 := hb4.size; have s4 := hb5.size; have s5 := hb6.size; have s6 := hb7.size; have s7 := hb8.size; have s8 := hb9.size; have s9 := hb10.size; have s10 := hb11.size; omega)
  have T12_x5 := (o5.below (by repeat' (first | (with_reducible exact Below.refl _ _) | (with_reducible assumption) | (with_reducible refine Base.via hb11 ?_) | (with_reducible refine Base.via hb10 ?_) | (with_reducible refine Base.via hb9 ?_) | (with_reducible refine Base.via hb8 ?_) | (with_reducible refine Base.via hb7 ?_) | (with_reducible refine Base.via hb6 ?_) | (with_reducible refine Base.grow_alloc ?_ _) | (with_reducible refine Base.below_drewN ?_ _) | (with_reducible refine Below.drew ?_) | (with_reducible refine Below.setCell ?_ ?_ _) | go_size))).marked o5.blk g12 o4.blk (by have s0 := hb1.size; have s1 := hb2.size; have s2 := hb3.size; have s3 := hb4.size; have s4 := hb5.size; have s5 := hb6.size; have s6 := hb7.size; have s7 := hb8.size; have s8 := hb9.size; have s9 := hb10.size; have s10 := hb11.size; omega)
  have t13 : Below w.heap.size w w12 := (by repeat' (first | (with_reducible exact Below.refl _ _) | (with_reducible assumption) | (with_reducible refine Base.via hb12 ?_) | (with_reducible refine Base.grow_alloc ?_ _) | (with_reducible refine Base.below_drewN ?_ _) | (with_reducible refine Below.drew ?_) | (with_reducible refine Below.setCell ?_ ?_ _) | go_size))
  go_wp2_with fail
  refine (Help.c_markInt64S _ _ _ _ _ _ (T12_x5.below (by repeat' (first | (with_reducible exact Below.refl _ _) | (with_reducible assumption) | (with_reducible refine Base.grow_alloc ?_ _) | (with_reducible refine Base.below_drewN ?_ _) | (with_reducible refine Below.drew ?_) | (with_reducible refine Below.setCell ?_ ?_ _) | go_size))) (by omega) (by omega)).mono ?_
  rintro e w13 ⟨rfl, m13, g13⟩
  have hb13 := below_marked t13 g13 o5.blk (by have s0 := hb1.size; have s1 := hb2.size; have s2 := hb3.size; have s3 := hb4.size; have s4 := hb5.size; have s5 := hb6.size; have s6 := hb7.size; have s7 := hb8.size; have s8 := hb9.size; have s9 := hb10.size; have s10 := hb11.size; have s11 := g12.size; have s12 := hb12.size; omega) t13.size
  have T13_3 := (T12_3.below (by repeat' (first | (with_reducible exact Below.refl _ _) | (with_reducible assumption) | (with_reducible refine Base.grow_alloc ?_ _) | (with_reducible refine Base.below_drewN ?_ _) | (with_reducible refine Below.drew ?_) | (with_reducible refine Below.setCell ?_ ?_ _) | go_size))).marked g13 o5.blk (by have s0 := hb1.size; have s1 := hb2.size; have s2 := hb3.size; have s3 := hb4.size; have s4 := hb5.size; have s5 := hb6.size; have s6 := hb7.size; have s7 := hb8.size; have s8 := hb9.size; have s9 := hb10.size; have s10 := hb11.size; have s11 := g12.size; have s12 := hb12.size; omega)
  have T13_6 := (T12_6.below (by repeat' (first | (with_reducible exact Below.refl _ _) | (with_reducible assumption) | (with_reducible refine Base.grow_alloc ?_ _) | (with_reducible refine Base.below_drewN ?_ _) | (with_reducible refine Below.drew ?_) | (with_reducible refine Below.setCell ?_ ?_ _) | go_size))).marked g13 o5.blk (by have s0 := hb1.size; have s1 := hb2.size; have s2 := hb3.size; have s3 := hb4.size; have s4 := hb5.size; have s5 := hb6.size; have s6 := hb7.size; have s7 := hb8.size; have s8 := hb9.size; have s9 := hb10.size; have s10 := hb11.size; have s11 := g12.size; have s12 := hb12.size; omega)
  go_wp2_with fail
  refine (NstM.c_eqInt64SS _ _ _ _ _ _ _ _ _ _ _ (T13_6.below (by repeat' (first | (with_reducible exact Below.refl _ _) | (with_reducible assumption) | (with_reducible refine Base.grow_alloc ?_ _) | (with_reducible refine Base.below_drewN ?_ _) | (with_reducible refine Below.drew ?_) | (with_reducible refine Below.setCell ?_ ?_ _) | go_size))) (T13_3.below (by repeat' (first | (with_reducible exact Below.refl _ _) | (with_reducible assumption) | (with_reducible refine Base.grow_alloc ?_ _) | (with_reducible refine Base.below_drewN ?_ _) | (with_reducible refine Below.drew ?_) | (with_reducible refine Below.setCell ?_ ?_ _) | go_size)))).mono ?_
  rintro e w14 ⟨rfl, hb14⟩
  have t15 : Below w.heap.size w w14 := (by repeat' (first | (with_reducible exact Below.refl _ _) | (with_reducible assumption) | (with_reducible refine Base.via hb14 ?_) | (with_reducible refine Base.via hb13 ?_) | (with_reducible refine Base.grow_alloc ?_ _) | (with_reducible refine Base.below_drewN ?_ _) | (with_reducible refine Below.drew ?_) | (with_reducible refine Below.setCell ?_ ?_ _) | go_size))
  go_wp2_with fail
  refine (NstM.c_markInt64SS _ _ _ _ _ _ 1 _ (T13_6.below (by repeat' (first | (with_reducible exact Below.refl _ _) | (with_reducible assumption) | (with_reducible refine Base.via hb14 ?_) | (with_reducible refine Base.grow_alloc ?_ _) | (with_reducible refine Base.below_drewN ?_ _) | (with_reducible refine Below.drew ?_) | (with_reducible refine Below.setCell ?_ ?_ _) | go_size))) (by omega)).mono ?_
  rintro e w15 ⟨rfl, m15, g15⟩
  have hb15 : Below w.heap.size w w15 := t15.trans (g15.mono (by have s0 := hb1.size; have s1 := hb2.size; have s2 := hb3.size; have s3 := hb4.size; have s4 := hb5.size; have s5 := hb6.size; have s6 := hb7.size; have s7 := hb8.size; have s8 := hb9.size; have s9 := hb10.size; have s10 := hb11.size; have s11 := g12.size; have s12 := hb12.size; have s13 := g13.size; have s14 := hb13.size; have s15 := hb14.size; omega))
  have T15_3 := (T13_3.below (by repeat' (first | (with_reducible exact Below.refl _ _) | (with_reducible assumption) | (with_reducible refine Base.via hb14 ?_) | (with_reducible refine Base.grow_alloc ?_ _) | (with_reducible refine Base.below_drewN ?_ _) | (with_reducible refine Below.drew ?_) | (with_reducible refine Below.setCell ?_ ?_ _) | go_size))).low g15 (by have s0 := hb1.size; have s1 := hb2.size; have s2 := hb3.size; have s3 := hb4.size; have s4 := hb5.size; have s5 := hb6.size; have s6 := hb7.size; have s7 := hb8.size; have s8 := hb9.size; have s9 := hb10.size; have s10 := hb11.size; have s11 := g12.size; have s12 := hb12.size; have s13 := g13.size; have s14 := hb13.size; have s15 := hb14.size; omega)
  go_wp2_with fail
  refine (NstM.c_heldInt64SS _ _ _ _ _ 1 _ (m15.below (by repeat' (first | (with_reducible exact Below.refl _ _) | (with_reducible assumption) | (with_reducible refine Base.grow_alloc ?_ _) | (with_reducible refine Base.below_drewN ?_ _) | (with_reducible refine Below.drew ?_) | (with_reducible refine Below.setCell ?_ ?_ _) | go_size))) (by omega)).mono ?_
  rintro e w16 ⟨rfl, hb16⟩
  go_wp2_with fail
  refine (Help.c_toMarkS A0 n0 c0 f0x f0y f0z _ (hv0.below (by repeat' (first | (with_reducible exact Below.refl _ _) | (with_reducible assumption) | (with_reducible refine Base.via hb16 ?_) | (with_reducible refine Base.via hb15 ?_) | (with_reducible refine Base.grow_alloc ?_ _) | (with_reducible refine Base.below_drewN ?_ _) | (with_reducible refine Below.drew ?_) | (with_reducible refine Below.setCell ?_ ?_ _) | go_size)))).mono ?_
  rintro e w17 ⟨g17, rfl, qg17, r17, hb17⟩
  have v17 := r17.view (c := n0) hnn0 (Nat.le_refl _) (by omega)
  have o17 := OwnK.of_row hnn0 qg17 r17
  go_wp2_with fail
  refine (Help.c_toInt64S A1 n1 c1 f1x _ (hv1.below (by repeat' (first | (with_reducible exact Below.refl _ _) | (with_reducible assumption) | (with_reducible refine Base.via hb17 ?_) | (with_reducible refine Base.via hb16 ?_) | (with_reducible refine Base.via hb15 ?_) | (with_reducible refine Base.grow_alloc ?_ _) | (with_reducible refine Base.below_drewN ?_ _) | (with_reducible refine Below.drew ?_) | (with_reducible refine Below.setCell ?_ ?_ _) | go_size)))).mono ?_
  rintro e w18 ⟨g18, rfl, qg18, r18, hb18⟩
  have v18 := r18.view (c := n1) hnn1 (Nat.le_refl _) (by omega)
  have o18 := OwnK.of_row hnn1 qg18 r18
  go_wp2_with fail
  refine (Lcl.c_LabelClashes _ _ _ f0x f0y f0z _ _ _ f1x _ (v17.below (by repeat' (first | (with_reducible exact Below.refl _ _) | (with_reducible assumption) | (with_reducible refine Base.via hb18 ?_) | (with_reducible refine Base.grow_alloc ?_ _) | (with_reducible refine Base.below_drewN ?_ _) | (with_reducible refine Below.drew ?_) | (with_reducible refine Below.setCell ?_ ?_ _) | go_size))) (v18.below (by repeat' (first | (with_reducible exact Below.refl _ _) | (with_reducible assumption) | (with_reducible refine Base.grow_alloc ?_ _) | (with_reducible refine Base.below_drewN ?_ _) | (with_reducible refine Below.drew ?_) | (with_reducible refine Below.setCell ?_ ?_ _) | go_size))) (HTB.out.below (by repeat' (first | (with_reducible exact Below.refl _ _) | (with_reducible assumption) | (with_reducible refine Base.via hb18 ?_) | (with_reducible refine Base.via hb17 ?_) | (with_reducible refine Base.via hb16 ?_) | (with_reducible refine Base.via hb15 ?_) | (with_reducible refine Base.grow_alloc ?_ _) | (with_reducible refine Base.below_drewN ?_ _) | (with_reducible refine Below.drew ?_) | (with_reducible refine Below.setCell ?_ ?_ _) | go_size)))).mono ?_
  rintro e w19 ⟨u19, G19, rfl, o19, hb19⟩
  go_wp2_with fail
  refine (NstM.c_eqInt64SS _ _ _ _ _ _ _ _ _ _ _ (o19.below (by repeat' (first | (with_reducible exact Below.refl _ _) | (with_reducible assumption) | (with_reducible refine Base.grow_alloc ?_ _) | (with_reducible refine Base.below_drewN ?_ _) | (with_reducible refine Below.drew ?_) | (with_reducible refine Below.setCell ?_ ?_ _) | go_size))) (T15_3.below (by repeat' (first | (with_reducible exact Below.refl _ _) | (with_reducible assumption) | (with_reducible refine Base.via hb19 ?_) | (with_reducible refine Base.via hb18 ?_) | (with_reducible refine Base.via hb17 ?_) | (with_reducible refine Base.via hb16 ?_) | (with_reducible refine Base.grow_alloc ?_ _) | (with_reducible refine Base.below_drewN ?_ _) | (with_reducible refine Below.drew ?_) | (with_reducible refine Below.setCell ?_ ?_ _) | go_size)))).mono ?_
  rintro e w20 ⟨rfl, hb20⟩
  go_wp2_with fail
  refine (NstM.c_heldInt64SS _ _ _ _ _ 1 _ (m15.below (by repeat' (first | (with_reducible exact Below.refl _ _) | (with_reducible assumption) | (with_reducible refine Base.via hb20 ?_) | (with_reducible refine Base.via hb19 ?_) | (with_reducible refine Base.via hb18 ?_) | (with_reducible refine Base.via hb17 ?_) | (with_reducible refine Base.via hb16 ?_) | (with_reducible refine Base.grow_alloc ?_ _) | (with_reducible refine Base.below_drewN ?_ _) | (with_reducible refine Below.drew ?_) | (with_reducible refine Below.setCell ?_ ?_ _) | go_size))) (by omega)).mono ?_
  rintro e w21 ⟨rfl, hb21⟩
  go_wp2_with fail
  go_ret
  exact ⟨rfl, (by repeat' (first | (with_reducible exact Below.refl _ _) | (with_reducible assumption) | (with_reducible refine Base.via hb21 ?_) | (with_reducible refine Base.via hb20 ?_) | (with_reducible refine Base.via hb19 ?_) | (with_reducible refine Base.via hb18 ?_) | (with_reducible refine Base.via hb17 ?_) | (with_reducible refine Base.via hb16 ?_) | (with_reducible refine Base.via hb15 ?_) | (with_reducible refine Base.grow_alloc ?_ _) | (with_reducible refine Base.below_drewN ?_ _) | (with_reducible refine Below.drew ?_) | (with_reducible refine Below.setCell ?_ ?_ _) | go_size))⟩

theorem walk_big0 (A0 : Option Addr) (n0 c0 : Nat) (A1 : Option Addr) (n1 c1 : Nat) (w : World) (hn1 : n1 ≤ 1048576) (hm : n0 ≤ 9223372036854775807) (hbig : 1048576 < n0) :
    Calls Tryd.prog 9 #[.slice A0 n0 c0, .slice A1 n1 c1] w fun r w' => r = .returned (.bool true) ∧ Below w.heap.size w w' := by
  go_enter Tryd.func9, Tryd.ntmps9
  go_wp2_with fail
  refine (Help.c_szMarkS_no _ _ _ _ _ (by omega) (by omega) (by omega) (by omega)).mono ?_
  rintro e w' ⟨rfl, rfl⟩
  go_wp2_with fail
  go_ret
  exact ⟨rfl, (by repeat' (first | (with_reducible exact Below.refl _ _) | (with_reducible assumption) | (with_reducible refine Base.grow_alloc ?_ _) | (with_reducible refine Base.below_drewN ?_ _) | (with_reducible refine Below.drew ?_) | (with_reducible refine Below.setCell ?_ ?_ _) | go_size))⟩

theorem walk_big1 (A0 : Option Addr) (n0 c0 : Nat) (A1 : Option Addr) (n1 c1 : Nat) (w : World) (hm : n1 ≤ 9223372036854775807) (hbig : 1048576 < n1) :
    Calls Tryd.prog 9 #[.slice A0 n0 c0, .slice A1 n1 c1] w fun r w' => r = .returned (.bool true) ∧ Below w.heap.size w w' := by
  go_enter Tryd.func9, Tryd.ntmps9
  go_wp2_with fail
  go_ret
  exact ⟨rfl, (by repeat' (first | (with_reducible exact Below.refl _ _) | (with_reducible assumption) | (with_reducible refine Base.grow_alloc ?_ _) | (with_reducible refine Base.below_drewN ?_ _) | (with_reducible refine Below.drew ?_) | (with_reducible refine Below.setCell ?_ ?_ _) | go_size))⟩

set_option maxRecDepth 100000 in
theorem lifted (os : Os) (started : os.Started) (H : Type) (enc : TypeId × Value → H) :
    ReturnsInHanded {} Tryd.checked os 9 .any (fun w args => (Rows.fnExactLabelClashesSpec.pre enc Tryd.prog Tryd.f9 [] false w args ∧ laidMetH Tryd.prog Laid.laid3 w) ∧ sizedMet enc Tryd.prog Tryd.f9 (OpenSpec.ofChange Rows.fnExactLabelClashesSpec) false w args)
      (Rows.fnExactLabelClashesSpec.post enc Tryd.prog Tryd.f9 false true false false) := by
  refine returnsInHanded_of_change_and (C := Tryd.checked) (X := fun w _ => laidMetH Tryd.prog Laid.laid3 w) (fun _ _ _ hh h => h.of_heap hh) Open.own started (by kernel_rfl) Tryd.func9
    (ChangeSpec.witness_shaped (enc := enc) (C := Tryd.checked) (os := os) (X := fun w _ => laidMetH Tryd.prog Laid.laid3 w) false (World.doorLaid Tryd.prog 24 os) #[.slice none 0 0, .slice none 0 0] 8 rfl (World.shaped_of_RefB (by kernel_rfl) (by kernel_rfl)) (by kernel_rfl) (by kernel_rfl) (by kernel_rfl) (Laid.door_met os _)) ?_
  intro W base args ds gs before hval0 hW _ _ hLD _
  have hval : ∀ (j : Nat) t v, Tryd.f9.params[j]? = some t → args[j]? = some v → Value.okWide Tryd.prog W .any base t v := hval0
  have htab := Laid.of_laid hLD
  have hW' := hW
  obtain ⟨p, q, hA0, hV, rfl, _, _⟩ := hW
  have hA : DataW.TrodAll enc Tryd.prog W 0 (fun _ => true) true Tryd.f9.params.toList args.toList ds p := hA0
  rw [Tryd.params9] at hA hval
  obtain ⟨v0, vs0, d0, ds0, p0, q0, hargs, rfl, rfl, h0, r0⟩ := trodAll_cons hA
  obtain ⟨v1, vs1, d1, ds1, p1, q1, rfl, rfl, rfl, h1, r1⟩ := trodAll_cons r0
  obtain ⟨rfl, rfl, rfl⟩ := trodAll_nil r1
  obtain rfl : args = #[v0, v1] := by cases args; simp_all
  obtain ⟨hg, hq⟩ := trodVars_none hV
  subst hg; subst hq
  obtain ⟨A0, n0, c0, f0x, f0y, f0z, rfl, m0, s0⟩ := Open.openS3 (by kernel_rfl) (by kernel_rfl) Tryd.underlying44 Tryd.underlying31 Tryd.underlying2 (hval 0 44 v0 rfl rfl) h0
  obtain ⟨A1, n1, c1, f1x, rfl, m1, s1⟩ := Open.openS1 Tryd.underlying38 Tryd.underlying2 (by kernel_rfl) (hval 1 38 v1 rfl rfl) h1
  clear hA0 hval0 hA r0
  have fin : Calls Tryd.checked.prog 9 #[.slice A0 n0 c0, .slice A1 n1 c1] W fun r w' => r = .returned (.bool true) ∧ Below W.heap.size W w' := by
    rcases Nat.lt_or_ge 1048576 n1 with hb1 | hb1
    · exact walk_big1 A0 n0 c0 A1 n1 c1 W m1 hb1
    rcases Nat.lt_or_ge 1048576 n0 with hb0 | hb0
    · exact walk_big0 A0 n0 c0 A1 n1 c1 W hb1 m0 hb0
    exact walk A0 n0 c0 f0x f0y f0z A1 n1 c1 f1x W htab hb0 (s0 hb0) hb1 (s1 hb1)
  refine fin.mono fun e W' ⟨he, hb⟩ => ?_
  subst he
  exact ⟨_, rfl, Base.lawPost Open.laidOut (of_decide_eq_true (by kernel_rfl)) rfl Tryd.underlying4 rfl rfl hW' hb⟩

theorem holds : Rows.FnExactLabelClashesSaid :=
  OpenClaim.holds_of_wide 9 Tryd.f9 rfl rfl rfl rfl rfl rfl rfl ⟨rfl, rfl, rfl, rfl, rfl⟩ rfl rfl rfl rfl rfl (by kernel_rfl) Tryd.func9 (by kernel_rfl)
    (of_decide_eq_true (by kernel_rfl)) (by unfold Func.isWrapper; first | (rw [if_pos (by decide +kernel)]; kernel_rfl) | (rw [if_neg (by decide +kernel)]; exact ⟨rfl, rfl⟩))
    (fun os started H enc _ => lifted os started H enc)
/-- The tied card. -/
theorem card_holds : Rows.FnExactLabelClashesCardSaid :=
  Claim7.holds_tied_plain_at .later [] [.data, .data, .data] true Rows.fnExactLabelClashesCard.stood.harness false
    holds (fun _ h => by cases h) (by kernel_rfl) (fun _ h => by cases h) fnExactLabelClashes_row_tie rfl ⟨rfl, rfl⟩ (by kernel_rfl) rfl
    (fun f fn hf hfn => by
      obtain rfl : f = 9 := Option.some.inj ((show Tryd.prog.funcNamed Rows.fnExactLabelClashesRow.func = some 9 by kernel_rfl).symm.trans hf) |>.symm
      obtain rfl : fn = Tryd.f9 := (Option.some.inj (Tryd.func9.symm.trans hfn)).symm
      exact ⟨by kernel_rfl, fun j t ht => by
        rw [Tryd.params9] at ht
        have hm : t ∈ [44, 38] := by simpa using Array.mem_of_getElem? ht
        have hall : ([44, 38].all fun u => !Tryd.prog.wantsStandIn u) = true := by kernel_rfl
        exact (show Tryd.prog.wantsStandIn t = false by simpa using List.all_eq_true.1 hall t hm)⟩)
    (by kernel_rfl)
#print axioms card_holds
end Go.Proofs.YtpkkeoapndpikaaDoor.LLabelClashes
