/- Texts of estimates. -/
import Derived.Test.YthojfmlnnclghaaGreatDoorTxt
import Derived.Test.YthojfmlnnclghaaGreatDoorOkE
import Derived.Test.YthojfmlnnclghaaGreatDoorBld
import Derived.Deep.RegionHeld3
namespace Go.Proofs.YthojfmlnnclghaaGreatDoor.Etx
set_option linter.unusedVariables false
set_option linter.unusedSimpArgs false
set_option maxRecDepth 8000
open Go.RowKit Plain Num View Dec Txt Est Es1

def magL (m : Int) : List UInt8 := (if m < 0 then [45] else []) ++ (Lib.itoa ((m.natAbs / 1000 : Nat) : Int) ++ ([46] ++ three (m.natAbs % 1000)))
theorem magL_neg {m : Int} (h : m < 0) {q r : ByteArray} (hq : q = ⟨(Lib.itoa ((m.natAbs / 1000 : Nat) : Int)).toArray⟩) (hr : r = ⟨(three (m.natAbs % 1000)).toArray⟩) : (⟨#[45]⟩ : ByteArray) ++ q ++ ⟨#[46]⟩ ++ r = ⟨(magL m).toArray⟩ := by
  subst hq hr
  rw [magL, if_pos h, ← ba_app, ← ba_app, ← ba_app]
  apply ByteArray.ext
  simp
theorem magL_pos {m : Int} (h : ¬ m < 0) {q r : ByteArray} (hq : q = ⟨(Lib.itoa ((m.natAbs / 1000 : Nat) : Int)).toArray⟩) (hr : r = ⟨(three (m.natAbs % 1000)).toArray⟩) : (⟨#[]⟩ : ByteArray) ++ q ++ ⟨#[46]⟩ ++ r = ⟨(magL m).toArray⟩ := by
  subst hq hr
  rw [magL, if_neg h, ← ba_app, ← ba_app, ← ba_app]
  apply ByteArray.ext
  simp
theorem itoa_sz {m : Int} (h : -20000000 ≤ m) (h' : m ≤ 20000000) : (⟨(Lib.itoa m).toArray⟩ : ByteArray).size ≤ 21 := by
  rw [Txt.size_l]
  exact Lib.itoa_length_le _ (by omega) (by omega)
theorem three_sz (u : Nat) : (⟨(three u).toArray⟩ : ByteArray).size = 3 := rfl
theorem magL_len {m : Int} (h : inB m (-2000) 20000 = true) : (magL m).length ≤ 26 := by
  have := inB_iff.1 h
  have h1 : (Lib.itoa ((m.natAbs / 1000 : Nat) : Int)).length ≤ 21 := Lib.itoa_length_le _ (by omega) (by omega)
  have h2 : (three (m.natAbs % 1000)).length = 3 := rfl
  unfold magL
  by_cases c : m < 0
  · rw [if_pos c]; simp only [List.length_append, List.length_cons, List.length_nil, h2]; omega
  · rw [if_neg c]; simp only [List.length_append, List.length_cons, List.length_nil, h2]; omega
set_option maxHeartbeats 1600000 in
theorem c_MagText (m : Int) (w : World) (ht : Tb w) (hm : inB m (-2000) 20000 = true) :
    Calls Tryz.prog 32 #[.int .i64 m] w fun e w' => e = .returned (.string ⟨(magL m).toArray⟩) ∧ Below w.heap.size w w' := by
  obtain ⟨m0, m1⟩ := inB_iff.1 hm
  have HT := Lib.hid ht
  clear ht
  obtain ⟨u, hu⟩ : ∃ u : Nat, m.natAbs = u := ⟨_, rfl⟩
  have hub : u ≤ 20000 := by omega
  have e0 : absI m = (u : Int) := by unfold absI; split <;> omega
  obtain ⟨x, hx⟩ : ∃ x : ByteArray, x = ⟨(Lib.itoa ((u / 1000 : Nat) : Int)).toArray⟩ := ⟨_, rfl⟩
  obtain ⟨y, hy⟩ : ∃ y : ByteArray, y = ⟨(three (u % 1000)).toArray⟩ := ⟨_, rfl⟩
  have q1 : x.size ≤ 21 := hx ▸ itoa_sz (m := ((u / 1000 : Nat) : Int)) (by omega) (by omega)
  have q2 : y.size = 3 := hy ▸ three_sz (u % 1000)
  have e1 : ((u / 1000 : Nat) : Int) = (u : Int) / 1000 := by omega
  have e2 : ((u % 1000 : Nat) : Int) = (u : Int) % 1000 := by omega
  have HD : Hid (∀ W : World, Tb W → Calls Tryz.prog 30 #[.int .i64 ((u : Int) / 1000)] W fun e w' => e = .returned (.string x) ∧ Below W.heap.size W w') := Lib.hid (fun W hT => by rw [hx, ← e1]; exact c_Decimal ((u / 1000 : Nat) : Int) W hT (by omega) (by omega))
  have HP : Hid (∀ W : World, Tb W → Calls Tryz.prog 57 #[.int .i64 ((u : Int) % 1000), .int .i64 3] W fun e w' => e = .returned (.string y) ∧ Below W.heap.size W w') := Lib.hid (fun W hT => by rw [hy, ← e2]; exact c_padded (u % 1000) W hT (by omega))
  have hr : y = ⟨(three (m.natAbs % 1000)).toArray⟩ := by rw [hy, hu]
  have hq : x = ⟨(Lib.itoa ((m.natAbs / 1000 : Nat) : Int)).toArray⟩ := by rw [hx, hu]
  clear hx hy
  have HV : Hid (∀ W : World, Calls Tryz.prog 55 #[.int .i64 m] W fun e w' => e = .returned (.bool true) ∧ W = w') := Lib.hid (fun W => by have := c_ValidMag m W; rw [hm] at this; exact this)
  have HA : Hid (∀ W : World, Calls Tryz.prog 56 #[.int .i64 m] W fun e w' => e = .returned (.int .i64 u) ∧ W = w') := Lib.hid (fun W => by have := c_abs m W (by omega) (by omega); rw [e0] at this; exact this)
  clear hm e0
  by_cases hneg : m < 0
  · have HE := Lib.hid (magL_neg hneg hq hr)
    clear hq hr hu
    have a1 := add_run (P := Tryz.prog) ⟨#[45]⟩ x (by decide) (by omega)
    have a2 := add_run (P := Tryz.prog) (⟨#[45]⟩ ++ x) ⟨#[46]⟩ (by rw [size_app, show (⟨#[45]⟩ : ByteArray).size = 1 from rfl]; omega) (by decide)
    have a3 := add_run (P := Tryz.prog) (⟨#[45]⟩ ++ x ++ ⟨#[46]⟩) y (by rw [size_app, size_app, show (⟨#[45]⟩ : ByteArray).size = 1 from rfl, show (⟨#[46]⟩ : ByteArray).size = 1 from rfl]; omega) (by omega)
    go_enter Tryz.func32, Tryz.ntmps32
    go_wp2_with (first | (go_at_call 55; refine (HV.out _).mono ?_; rintro e w' ⟨rfl, rfl⟩) | (go_at_call 56; refine (HA.out _).mono ?_; rintro e w' ⟨rfl, rfl⟩) | (go_at_call 30; refine (HD.out _ (HT.out.below (by repeat' (first | (with_reducible exact Below.refl _ _) | (with_reducible assumption) | (with_reducible refine Base.grow_alloc ?_ _) | (with_reducible refine Base.below_drewN ?_ _) | (with_reducible refine Below.drew ?_) | (with_reducible refine Below.setCell ?_ ?_ _) | go_size)))).mono ?_; rintro e w1 ⟨rfl, hb1⟩; obtain ⟨chb1, fhb1⟩ := Base.bcell hb1; have zhb1 := (hb1).size; (try simp at zhb1); (try have yhb1 : w.heap.size < (w1).heap.size := by omega)) | (go_at_call 57; refine (HP.out _ (HT.out.below (by repeat' (first | (with_reducible exact Below.refl _ _) | (with_reducible assumption) | (with_reducible refine Base.via hb1 ?_) | (with_reducible refine Base.grow_alloc ?_ _) | (with_reducible refine Base.below_drewN ?_ _) | (with_reducible refine Below.drew ?_) | (with_reducible refine Below.setCell ?_ ?_ _) | go_size)))).mono ?_; rintro e w2 ⟨rfl, hb2⟩; obtain ⟨chb2, fhb2⟩ := Base.bcell hb2; have zhb2 := (hb2).size; (try simp at zhb2); (try have yhb2 : w.heap.size < (w2).heap.size := by omega)))
    go_ret
    exact ⟨Txt.ret_str HE.out, (by repeat' (first | (with_reducible exact Below.refl _ _) | (with_reducible assumption) | (with_reducible refine Base.via hb2 ?_) | (with_reducible refine Base.via hb1 ?_) | (with_reducible refine Base.grow_alloc ?_ _) | (with_reducible refine Base.below_drewN ?_ _) | (with_reducible refine Below.drew ?_) | (with_reducible refine Below.setCell ?_ ?_ _) | go_size))⟩
  · have HE := Lib.hid (magL_pos hneg hq hr)
    clear hq hr hu
    have a1 := add_run (P := Tryz.prog) ⟨#[]⟩ x (by decide) (by omega)
    have a2 := add_run (P := Tryz.prog) (⟨#[]⟩ ++ x) ⟨#[46]⟩ (by rw [size_app, show (⟨#[]⟩ : ByteArray).size = 0 from rfl]; omega) (by decide)
    have a3 := add_run (P := Tryz.prog) (⟨#[]⟩ ++ x ++ ⟨#[46]⟩) y (by rw [size_app, size_app, show (⟨#[]⟩ : ByteArray).size = 0 from rfl, show (⟨#[46]⟩ : ByteArray).size = 1 from rfl]; omega) (by omega)
    go_enter Tryz.func32, Tryz.ntmps32
    go_wp2_with (first | (go_at_call 55; refine (HV.out _).mono ?_; rintro e w' ⟨rfl, rfl⟩) | (go_at_call 56; refine (HA.out _).mono ?_; rintro e w' ⟨rfl, rfl⟩) | (go_at_call 30; refine (HD.out _ (HT.out.below (by repeat' (first | (with_reducible exact Below.refl _ _) | (with_reducible assumption) | (with_reducible refine Base.grow_alloc ?_ _) | (with_reducible refine Base.below_drewN ?_ _) | (with_reducible refine Below.drew ?_) | (with_reducible refine Below.setCell ?_ ?_ _) | go_size)))).mono ?_; rintro e w1 ⟨rfl, hb1⟩; obtain ⟨chb1, fhb1⟩ := Base.bcell hb1; have zhb1 := (hb1).size; (try simp at zhb1); (try have yhb1 : w.heap.size < (w1).heap.size := by omega)) | (go_at_call 57; refine (HP.out _ (HT.out.below (by repeat' (first | (with_reducible exact Below.refl _ _) | (with_reducible assumption) | (with_reducible refine Base.via hb1 ?_) | (with_reducible refine Base.grow_alloc ?_ _) | (with_reducible refine Base.below_drewN ?_ _) | (with_reducible refine Below.drew ?_) | (with_reducible refine Below.setCell ?_ ?_ _) | go_size)))).mono ?_; rintro e w2 ⟨rfl, hb2⟩; obtain ⟨chb2, fhb2⟩ := Base.bcell hb2; have zhb2 := (hb2).size; (try simp at zhb2); (try have yhb2 : w.heap.size < (w2).heap.size := by omega)))
    go_ret
    exact ⟨Txt.ret_str HE.out, (by repeat' (first | (with_reducible exact Below.refl _ _) | (with_reducible assumption) | (with_reducible refine Base.via hb2 ?_) | (with_reducible refine Base.via hb1 ?_) | (with_reducible refine Base.grow_alloc ?_ _) | (with_reducible refine Base.below_drewN ?_ _) | (with_reducible refine Below.drew ?_) | (with_reducible refine Below.setCell ?_ ?_ _) | go_size))⟩
set_option maxHeartbeats 1600000 in
theorem c_l02Text (m : Int) (w : World) (hm : inB m (-2000) 20000 = true) :
    Calls Tryz.prog 43 #[.int .i64 m] w fun e w' => e = .returned (.string ⟨(magL m).toArray⟩) ∧ Below w.heap.size w w' := by
  obtain ⟨m0, m1⟩ := inB_iff.1 hm
  obtain ⟨u, hu⟩ : ∃ u : Nat, m.natAbs = u := ⟨_, rfl⟩
  have hub : u ≤ 20000 := by omega
  obtain ⟨x, hx⟩ : ∃ x : ByteArray, x = ⟨(Lib.itoa ((u / 1000 : Nat) : Int)).toArray⟩ := ⟨_, rfl⟩
  obtain ⟨y, hy⟩ : ∃ y : ByteArray, y = ⟨(three (u % 1000)).toArray⟩ := ⟨_, rfl⟩
  have q1 : x.size ≤ 21 := hx ▸ itoa_sz (m := ((u / 1000 : Nat) : Int)) (by omega) (by omega)
  have q2 : y.size = 3 := hy ▸ three_sz (u % 1000)
  have e1 : ((u / 1000 : Nat) : Int) = (u : Int) / 1000 := by omega
  have e2 : ((u % 1000 : Nat) : Int) = (u : Int) % 1000 := by omega
  have HD : Hid (∀ W : World, Calls Tryz.prog 40 #[.int .i64 ((u : Int) / 1000)] W fun e w' => e = .returned (.string x) ∧ Below W.heap.size W w') := Lib.hid (fun W => by rw [hx, ← e1]; exact c_l01Dec ((u / 1000 : Nat) : Int) W (by omega) (by omega))
  have HP : Hid (∀ W : World, Calls Tryz.prog 65 #[.int .i64 ((u : Int) % 1000)] W fun e w' => e = .returned (.string y) ∧ Below W.heap.size W w') := Lib.hid (fun W => by rw [hy, show (u % 1000 : Nat) = ((u : Int) % 1000).toNat by omega]; exact c_l02Three ((u : Int) % 1000) W (by omega) (by omega))
  have hr : y = ⟨(three (m.natAbs % 1000)).toArray⟩ := by rw [hy, hu]
  have hq : x = ⟨(Lib.itoa ((m.natAbs / 1000 : Nat) : Int)).toArray⟩ := by rw [hx, hu]
  clear hx hy hm
  by_cases hneg : m < 0
  · have HE := Lib.hid (magL_neg hneg hq hr)
    obtain rfl : m = -(u : Int) := by omega
    clear hq hr hu e1 e2
    have a1 := add_run (P := Tryz.prog) ⟨#[45]⟩ x (by decide) (by omega)
    have a2 := add_run (P := Tryz.prog) (⟨#[45]⟩ ++ x) ⟨#[46]⟩ (by rw [size_app, show (⟨#[45]⟩ : ByteArray).size = 1 from rfl]; omega) (by decide)
    have a3 := add_run (P := Tryz.prog) (⟨#[45]⟩ ++ x ++ ⟨#[46]⟩) y (by rw [size_app, size_app, show (⟨#[45]⟩ : ByteArray).size = 1 from rfl, show (⟨#[46]⟩ : ByteArray).size = 1 from rfl]; omega) (by omega)
    go_enter Tryz.func43, Tryz.ntmps43
    go_wp2_with fail
    refine (HD.out _).mono ?_
    rintro e w1 ⟨rfl, hb1⟩
    go_wp2_with fail
    refine (HP.out _).mono ?_
    rintro e w2 ⟨rfl, hb2⟩
    go_wp2_with fail
    go_ret
    exact ⟨Txt.ret_str HE.out, (by repeat' (first | (with_reducible exact Below.refl _ _) | (with_reducible assumption) | (with_reducible refine Base.via hb2 ?_) | (with_reducible refine Base.via hb1 ?_) | (with_reducible refine Base.grow_alloc ?_ _) | (with_reducible refine Base.below_drewN ?_ _) | (with_reducible refine Below.drew ?_) | (with_reducible refine Below.setCell ?_ ?_ _) | go_size))⟩
  · have HE := Lib.hid (magL_pos hneg hq hr)
    obtain rfl : m = (u : Int) := by omega
    clear hq hr hu
    have a1 := add_run (P := Tryz.prog) ⟨#[]⟩ x (by decide) (by omega)
    have a2 := add_run (P := Tryz.prog) (⟨#[]⟩ ++ x) ⟨#[46]⟩ (by rw [size_app, show (⟨#[]⟩ : ByteArray).size = 0 from rfl]; omega) (by decide)
    have a3 := add_run (P := Tryz.prog) (⟨#[]⟩ ++ x ++ ⟨#[46]⟩) y (by rw [size_app, size_app, show (⟨#[]⟩ : ByteArray).size = 0 from rfl, show (⟨#[46]⟩ : ByteArray).size = 1 from rfl]; omega) (by omega)
    go_enter Tryz.func43, Tryz.ntmps43
    go_wp2_with fail
    refine (HD.out _).mono ?_
    rintro e w1 ⟨rfl, hb1⟩
    go_wp2_with fail
    refine (HP.out _).mono ?_
    rintro e w2 ⟨rfl, hb2⟩
    go_wp2_with fail
    go_ret
    exact ⟨Txt.ret_str HE.out, (by repeat' (first | (with_reducible exact Below.refl _ _) | (with_reducible assumption) | (with_reducible refine Base.via hb2 ?_) | (with_reducible refine Base.via hb1 ?_) | (with_reducible refine Base.grow_alloc ?_ _) | (with_reducible refine Base.below_drewN ?_ _) | (with_reducible refine Below.drew ?_) | (with_reducible refine Below.setCell ?_ ?_ _) | go_size))⟩
end Go.Proofs.YthojfmlnnclghaaGreatDoor.Etx
