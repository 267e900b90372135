/- The labels of a whole chart. -/
import Derived.Test.YtpkkeoapndpikaaDoorLab5
namespace Go.Proofs.YtpkkeoapndpikaaDoor.Lab
set_option linter.unusedVariables false
set_option linter.unusedSimpArgs false
set_option maxRecDepth 8000
open Go.RowKit Plain Num View Chart Frac Dec Txt

def putC (n : Nat) (X Y M : Nat → Int) : Int := if okChart n X Y M = true then (if 8 < n then 5 else if (pt X Y M n []).isSome = true then 0 else 9) else 1
def putL (n : Nat) (X Y M : Nat → Int) : List Int := if putC n X Y M = 0 then (pt X Y M n []).getD [] else []
theorem put_cases (n : Nat) (X Y M : Nat → Int) : (okChart n X Y M = false ∧ putC n X Y M = 1) ∨ (okChart n X Y M = true ∧ 8 < n ∧ putC n X Y M = 5) ∨ (okChart n X Y M = true ∧ n ≤ 8 ∧ pt X Y M n [] = none ∧ putC n X Y M = 9) ∨ (∃ L, okChart n X Y M = true ∧ n ≤ 8 ∧ pt X Y M n [] = some L ∧ putC n X Y M = 0) := by
  unfold putC
  cases h : okChart n X Y M
  · exact .inl ⟨rfl, rfl⟩
  · by_cases h8 : 8 < n
    · exact .inr (.inl ⟨rfl, h8, by simp [h8]⟩)
    · cases hp : pt X Y M n [] with
      | none => exact .inr (.inr (.inl ⟨rfl, by omega, rfl, by simp [h8]⟩))
      | some L => exact .inr (.inr (.inr ⟨L, rfl, by omega, rfl, by simp [h8]⟩))
theorem own_nil {w : World} {E : TypeId} {B : Nat} (hB : B ≤ w.heap.size) {q : Nat} (hq : q = w.heap.size) : OwnK (w.alloc (.cells #[] E)) B E 1 (.slice (some ⟨q, 0, none⟩) 0 0) 0 (f1 (lf [])) := by
  subst hq
  exact OwnK.of_row (by omega) hB (RowK.made _ (by simp) fun i hi => absurd hi (by omega))
theorem c_PutLabels (A : Option Addr) (n c : Nat) (X Y M : Nat → Int) (w : World) (hv : Sl w 3 A n c (f3 X Y M)) (ht : Tb w) :
    Calls Tryd.prog 28 #[.slice A n c] w fun e w' => ∃ v, e = .returned (.tuple #[v, .int .i64 (putC n X Y M)]) ∧ OwnK w' w.heap.size 2 1 v (putL n X Y M).length (f1 (lf (putL n X Y M))) ∧ Below w.heap.size w w' := by
  have hn := hv.le
  rcases put_cases n X Y M with ⟨h1, hc⟩ | ⟨h1, h8, hc⟩ | ⟨h1, h8, hp, hc⟩ | ⟨L, h1, h8, hp, hc⟩
  · have HL := Lib.hid (show (putL n X Y M).length = 0 by rw [putL, if_neg (by omega)]; rfl)
    have HC := Lib.hid hc
    clear hc ht
    go_enter Tryd.func28, Tryd.ntmps28
    go_wp2_with (first | (go_at_call 59; refine (c_ValidChart _ _ _ X Y M _ (hv.below (by repeat' (first | (with_reducible exact Below.refl _ _) | (with_reducible assumption) | (with_reducible refine Base.grow_alloc ?_ _) | (with_reducible refine Base.below_drewN ?_ _) | (with_reducible refine Below.drew ?_) | (with_reducible refine Below.setCell ?_ ?_ _) | go_size)))).mono ?_; rintro e w1 ⟨rfl, hb1⟩; obtain ⟨chb1, fhb1⟩ := Base.bcell hb1; have zhb1 := (hb1).size; (try simp at zhb1); (try have yhb1 : w.heap.size < (w1).heap.size := by omega)))
    go_ret2
    exact ⟨_, ret_o HC.out.symm, OwnK.zero HL.out, (by repeat' (first | (with_reducible exact Below.refl _ _) | (with_reducible assumption) | (with_reducible refine Base.via hb1 ?_) | (with_reducible refine Base.grow_alloc ?_ _) | (with_reducible refine Base.below_drewN ?_ _) | (with_reducible refine Below.drew ?_) | (with_reducible refine Below.setCell ?_ ?_ _) | go_size))⟩
  · have HL := Lib.hid (show (putL n X Y M).length = 0 by rw [putL, if_neg (by omega)]; rfl)
    have HC := Lib.hid hc
    clear hc ht
    go_enter Tryd.func28, Tryd.ntmps28
    go_wp2_with (first | (go_at_call 59; refine (c_ValidChart _ _ _ X Y M _ (hv.below (by repeat' (first | (with_reducible exact Below.refl _ _) | (with_reducible assumption) | (with_reducible refine Base.grow_alloc ?_ _) | (with_reducible refine Base.below_drewN ?_ _) | (with_reducible refine Below.drew ?_) | (with_reducible refine Below.setCell ?_ ?_ _) | go_size)))).mono ?_; rintro e w1 ⟨rfl, hb1⟩; obtain ⟨chb1, fhb1⟩ := Base.bcell hb1; have zhb1 := (hb1).size; (try simp at zhb1); (try have yhb1 : w.heap.size < (w1).heap.size := by omega)))
    go_ret2
    exact ⟨_, ret_o HC.out.symm, OwnK.zero HL.out, (by repeat' (first | (with_reducible exact Below.refl _ _) | (with_reducible assumption) | (with_reducible refine Base.via hb1 ?_) | (with_reducible refine Base.grow_alloc ?_ _) | (with_reducible refine Base.below_drewN ?_ _) | (with_reducible refine Below.drew ?_) | (with_reducible refine Below.setCell ?_ ?_ _) | go_size))⟩
  · have HL := Lib.hid (show (putL n X Y M).length = 0 by rw [putL, if_neg (by omega)]; rfl)
    have HC := Lib.hid hc
    have HP := Lib.hid (fun (W W1 : World) (hb : Below w.heap.size w W) => c_putRest A n c X Y M (okChart_mk h1) n [] ⟨W.heap.size, 0, none⟩ 0 0 W.heap.size (W.alloc (.cells #[] 2)) _ ((ht.below hb).below (by repeat' (first | (with_reducible exact Below.refl _ _) | (with_reducible assumption) | (with_reducible refine Base.grow_alloc ?_ _) | (with_reducible refine Base.below_drewN ?_ _) | (with_reducible refine Below.drew ?_) | (with_reducible refine Below.setCell ?_ ?_ _) | go_size))) ((hv.below hb).below (by repeat' (first | (with_reducible exact Below.refl _ _) | (with_reducible assumption) | (with_reducible refine Base.grow_alloc ?_ _) | (with_reducible refine Base.below_drewN ?_ _) | (with_reducible refine Below.drew ?_) | (with_reducible refine Below.setCell ?_ ?_ _) | go_size))) rfl (by omega) (own_nil (Nat.le_refl _) rfl) (by simp) hp)
    clear hc ht hp
    go_enter Tryd.func28, Tryd.ntmps28
    go_wp2_with (first | (go_at_call 59; refine (c_ValidChart _ _ _ X Y M _ (hv.below (by repeat' (first | (with_reducible exact Below.refl _ _) | (with_reducible assumption) | (with_reducible refine Base.grow_alloc ?_ _) | (with_reducible refine Base.below_drewN ?_ _) | (with_reducible refine Below.drew ?_) | (with_reducible refine Below.setCell ?_ ?_ _) | go_size)))).mono ?_; rintro e w1 ⟨rfl, hb1⟩; obtain ⟨chb1, fhb1⟩ := Base.bcell hb1; have zhb1 := (hb1).size; (try simp at zhb1); (try have yhb1 : w.heap.size < (w1).heap.size := by omega)) | (go_at_call 60; refine (HP.out _ w (by repeat' (first | (with_reducible exact Below.refl _ _) | (with_reducible assumption) | (with_reducible refine Base.via hb1 ?_) | (with_reducible refine Base.grow_alloc ?_ _) | (with_reducible refine Base.below_drewN ?_ _) | (with_reducible refine Below.drew ?_) | (with_reducible refine Below.setCell ?_ ?_ _) | go_size))).mono ?_; rintro e w2 ⟨v2, rfl, ho2, hb2⟩; simp only [Option.isSome_none, Option.isSome_some]))
    go_ret2
    exact ⟨_, ret_o HC.out.symm, OwnK.zero HL.out, (by repeat' (first | (with_reducible exact Below.refl _ _) | (with_reducible assumption) | (with_reducible refine Base.via hb2 ?_) | (with_reducible refine Base.via hb1 ?_) | (with_reducible refine Base.grow_alloc ?_ _) | (with_reducible refine Base.below_drewN ?_ _) | (with_reducible refine Below.drew ?_) | (with_reducible refine Below.setCell ?_ ?_ _) | go_size))⟩
  · have HL := Lib.hid (show putL n X Y M = L by rw [putL, if_pos hc, hp]; rfl)
    have HC := Lib.hid hc
    have HP := Lib.hid (fun (W W1 : World) (hb : Below w.heap.size w W) => c_putRest A n c X Y M (okChart_mk h1) n [] ⟨W.heap.size, 0, none⟩ 0 0 W.heap.size (W.alloc (.cells #[] 2)) _ ((ht.below hb).below (by repeat' (first | (with_reducible exact Below.refl _ _) | (with_reducible assumption) | (with_reducible refine Base.grow_alloc ?_ _) | (with_reducible refine Base.below_drewN ?_ _) | (with_reducible refine Below.drew ?_) | (with_reducible refine Below.setCell ?_ ?_ _) | go_size))) ((hv.below hb).below (by repeat' (first | (with_reducible exact Below.refl _ _) | (with_reducible assumption) | (with_reducible refine Base.grow_alloc ?_ _) | (with_reducible refine Base.below_drewN ?_ _) | (with_reducible refine Below.drew ?_) | (with_reducible refine Below.setCell ?_ ?_ _) | go_size))) rfl (by omega) (own_nil (Nat.le_refl _) rfl) (by simp) hp)
    clear hc ht hp
    go_enter Tryd.func28, Tryd.ntmps28
    go_wp2_with (first | (go_at_call 59; refine (c_ValidChart _ _ _ X Y M _ (hv.below (by repeat' (first | (with_reducible exact Below.refl _ _) | (with_reducible assumption) | (with_reducible refine Base.grow_alloc ?_ _) | (with_reducible refine Base.below_drewN ?_ _) | (with_reducible refine Below.drew ?_) | (with_reducible refine Below.setCell ?_ ?_ _) | go_size)))).mono ?_; rintro e w1 ⟨rfl, hb1⟩; obtain ⟨chb1, fhb1⟩ := Base.bcell hb1; have zhb1 := (hb1).size; (try simp at zhb1); (try have yhb1 : w.heap.size < (w1).heap.size := by omega)) | (go_at_call 60; refine (HP.out _ w (by repeat' (first | (with_reducible exact Below.refl _ _) | (with_reducible assumption) | (with_reducible refine Base.via hb1 ?_) | (with_reducible refine Base.grow_alloc ?_ _) | (with_reducible refine Base.below_drewN ?_ _) | (with_reducible refine Below.drew ?_) | (with_reducible refine Below.setCell ?_ ?_ _) | go_size))).mono ?_; rintro e w2 ⟨v2, rfl, ho2, hb2⟩; simp only [Option.isSome_none, Option.isSome_some]))
    have hz1 := hb1.size
    go_ret2
    exact ⟨_, ret_o HC.out.symm, by rw [HL.out]; exact ho2.mono hz1, (by repeat' (first | (with_reducible exact Below.refl _ _) | (with_reducible assumption) | (with_reducible refine Base.via hb2 ?_) | (with_reducible refine Base.via hb1 ?_) | (with_reducible refine Base.grow_alloc ?_ _) | (with_reducible refine Base.below_drewN ?_ _) | (with_reducible refine Below.drew ?_) | (with_reducible refine Below.setCell ?_ ?_ _) | go_size))⟩
theorem c_specPutLabels (A : Option Addr) (n c : Nat) (X Y M : Nat → Int) (w : World) (hv : Sl w 3 A n c (f3 X Y M)) :
    Calls Tryd.prog 26 #[.slice A n c] w fun e w' => ∃ v, e = .returned (.tuple #[v, .int .i64 (putC n X Y M)]) ∧ OwnK w' w.heap.size 2 1 v (putL n X Y M).length (f1 (lf (putL n X Y M))) ∧ Below w.heap.size w w' := by
  have hn := hv.le
  rcases put_cases n X Y M with ⟨h1, hc⟩ | ⟨h1, h8, hc⟩ | ⟨h1, h8, hp, hc⟩ | ⟨L, h1, h8, hp, hc⟩
  · have HL := Lib.hid (show (putL n X Y M).length = 0 by rw [putL, if_neg (by omega)]; rfl)
    have HC := Lib.hid hc
    clear hc
    go_enter Tryd.func26, Tryd.ntmps26
    go_wp2_with (first | (go_at_call 57; refine (c_l07Ok _ _ _ X Y M _ (hv.below (by repeat' (first | (with_reducible exact Below.refl _ _) | (with_reducible assumption) | (with_reducible refine Base.grow_alloc ?_ _) | (with_reducible refine Base.below_drewN ?_ _) | (with_reducible refine Below.drew ?_) | (with_reducible refine Below.setCell ?_ ?_ _) | go_size)))).mono ?_; rintro e w1 ⟨rfl, hb1⟩; obtain ⟨chb1, fhb1⟩ := Base.bcell hb1; have zhb1 := (hb1).size; (try simp at zhb1); (try have yhb1 : w.heap.size < (w1).heap.size := by omega)))
    go_ret2
    exact ⟨_, ret_o HC.out.symm, OwnK.zero HL.out, (by repeat' (first | (with_reducible exact Below.refl _ _) | (with_reducible assumption) | (with_reducible refine Base.via hb1 ?_) | (with_reducible refine Base.grow_alloc ?_ _) | (with_reducible refine Base.below_drewN ?_ _) | (with_reducible refine Below.drew ?_) | (with_reducible refine Below.setCell ?_ ?_ _) | go_size))⟩
  · have HL := Lib.hid (show (putL n X Y M).length = 0 by rw [putL, if_neg (by omega)]; rfl)
    have HC := Lib.hid hc
    clear hc
    go_enter Tryd.func26, Tryd.ntmps26
    go_wp2_with (first | (go_at_call 57; refine (c_l07Ok _ _ _ X Y M _ (hv.below (by repeat' (first | (with_reducible exact Below.refl _ _) | (with_reducible assumption) | (with_reducible refine Base.grow_alloc ?_ _) | (with_reducible refine Base.below_drewN ?_ _) | (with_reducible refine Below.drew ?_) | (with_reducible refine Below.setCell ?_ ?_ _) | go_size)))).mono ?_; rintro e w1 ⟨rfl, hb1⟩; obtain ⟨chb1, fhb1⟩ := Base.bcell hb1; have zhb1 := (hb1).size; (try simp at zhb1); (try have yhb1 : w.heap.size < (w1).heap.size := by omega)))
    go_ret2
    exact ⟨_, ret_o HC.out.symm, OwnK.zero HL.out, (by repeat' (first | (with_reducible exact Below.refl _ _) | (with_reducible assumption) | (with_reducible refine Base.via hb1 ?_) | (with_reducible refine Base.grow_alloc ?_ _) | (with_reducible refine Base.below_drewN ?_ _) | (with_reducible refine Below.drew ?_) | (with_reducible refine Below.setCell ?_ ?_ _) | go_size))⟩
  · have HL := Lib.hid (show (putL n X Y M).length = 0 by rw [putL, if_neg (by omega)]; rfl)
    have HC := Lib.hid hc
    have HP := Lib.hid (fun (W W1 : World) (hb : Below w.heap.size w W) => c_l07Put A n c X Y M (okChart_mk h1) n [] ⟨W.heap.size, 0, none⟩ 0 0 W.heap.size (W.alloc (.cells #[] 2)) _ ((hv.below hb).below (by repeat' (first | (with_reducible exact Below.refl _ _) | (with_reducible assumption) | (with_reducible refine Base.grow_alloc ?_ _) | (with_reducible refine Base.below_drewN ?_ _) | (with_reducible refine Below.drew ?_) | (with_reducible refine Below.setCell ?_ ?_ _) | go_size))) rfl (by omega) (own_nil (Nat.le_refl _) rfl) (by simp) hp)
    clear hc hp
    go_enter Tryd.func26, Tryd.ntmps26
    go_wp2_with (first | (go_at_call 57; refine (c_l07Ok _ _ _ X Y M _ (hv.below (by repeat' (first | (with_reducible exact Below.refl _ _) | (with_reducible assumption) | (with_reducible refine Base.grow_alloc ?_ _) | (with_reducible refine Base.below_drewN ?_ _) | (with_reducible refine Below.drew ?_) | (with_reducible refine Below.setCell ?_ ?_ _) | go_size)))).mono ?_; rintro e w1 ⟨rfl, hb1⟩; obtain ⟨chb1, fhb1⟩ := Base.bcell hb1; have zhb1 := (hb1).size; (try simp at zhb1); (try have yhb1 : w.heap.size < (w1).heap.size := by omega)) | (go_at_call 58; refine (HP.out _ w (by repeat' (first | (with_reducible exact Below.refl _ _) | (with_reducible assumption) | (with_reducible refine Base.via hb1 ?_) | (with_reducible refine Base.grow_alloc ?_ _) | (with_reducible refine Base.below_drewN ?_ _) | (with_reducible refine Below.drew ?_) | (with_reducible refine Below.setCell ?_ ?_ _) | go_size))).mono ?_; rintro e w2 ⟨v2, rfl, ho2, hb2⟩; simp only [Option.isSome_none, Option.isSome_some]))
    go_ret2
    exact ⟨_, ret_o HC.out.symm, OwnK.zero HL.out, (by repeat' (first | (with_reducible exact Below.refl _ _) | (with_reducible assumption) | (with_reducible refine Base.via hb2 ?_) | (with_reducible refine Base.via hb1 ?_) | (with_reducible refine Base.grow_alloc ?_ _) | (with_reducible refine Base.below_drewN ?_ _) | (with_reducible refine Below.drew ?_) | (with_reducible refine Below.setCell ?_ ?_ _) | go_size))⟩
  · have HL := Lib.hid (show putL n X Y M = L by rw [putL, if_pos hc, hp]; rfl)
    have HC := Lib.hid hc
    have HP := Lib.hid (fun (W W1 : World) (hb : Below w.heap.size w W) => c_l07Put A n c X Y M (okChart_mk h1) n [] ⟨W.heap.size, 0, none⟩ 0 0 W.heap.size (W.alloc (.cells #[] 2)) _ ((hv.below hb).below (by repeat' (first | (with_reducible exact Below.refl _ _) | (with_reducible assumption) | (with_reducible refine Base.grow_alloc ?_ _) | (with_reducible refine Base.below_drewN ?_ _) | (with_reducible refine Below.drew ?_) | (with_reducible refine Below.setCell ?_ ?_ _) | go_size))) rfl (by omega) (own_nil (Nat.le_refl _) rfl) (by simp) hp)
    clear hc hp
    go_enter Tryd.func26, Tryd.ntmps26
    go_wp2_with (first | (go_at_call 57; refine (c_l07Ok _ _ _ X Y M _ (hv.below (by repeat' (first | (with_reducible exact Below.refl _ _) | (with_reducible assumption) | (with_reducible refine Base.grow_alloc ?_ _) | (with_reducible refine Base.below_drewN ?_ _) | (with_reducible refine Below.drew ?_) | (with_reducible refine Below.setCell ?_ ?_ _) | go_size)))).mono ?_; rintro e w1 ⟨rfl, hb1⟩; obtain ⟨chb1, fhb1⟩ := Base.bcell hb1; have zhb1 := (hb1).size; (try simp at zhb1); (try have yhb1 : w.heap.size < (w1).heap.size := by omega)) | (go_at_call 58; refine (HP.out _ w (by repeat' (first | (with_reducible exact Below.refl _ _) | (with_reducible assumption) | (with_reducible refine Base.via hb1 ?_) | (with_reducible refine Base.grow_alloc ?_ _) | (with_reducible refine Base.below_drewN ?_ _) | (with_reducible refine Below.drew ?_) | (with_reducible refine Below.setCell ?_ ?_ _) | go_size))).mono ?_; rintro e w2 ⟨v2, rfl, ho2, hb2⟩; simp only [Option.isSome_none, Option.isSome_some]))
    have hz1 := hb1.size
    go_ret2
    exact ⟨_, ret_o HC.out.symm, by rw [HL.out]; exact ho2.mono hz1, (by repeat' (first | (with_reducible exact Below.refl _ _) | (with_reducible assumption) | (with_reducible refine Base.via hb2 ?_) | (with_reducible refine Base.via hb1 ?_) | (with_reducible refine Base.grow_alloc ?_ _) | (with_reducible refine Base.below_drewN ?_ _) | (with_reducible refine Below.drew ?_) | (with_reducible refine Below.setCell ?_ ?_ _) | go_size))⟩
end Go.Proofs.YtpkkeoapndpikaaDoor.Lab
