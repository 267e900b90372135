/- Boxes of labels. -/
import Derived.Test.YtpkkeoapndpikaaDoorTxt2
import Derived.Test.YtpkkeoapndpikaaDoorList
namespace Go.Proofs.YtpkkeoapndpikaaDoor.Lab
set_option linter.unusedVariables false
set_option linter.unusedSimpArgs false
set_option maxRecDepth 8000
open Go.RowKit Plain Num View Chart Frac Dec Txt

/-- A slice of four given numbers. -/
def four (a b c d : Int) : Nat → Int := fun i => if i = 0 then a else if i = 1 then b else if i = 2 then c else d
theorem four_row {w : World} {E : TypeId} {a b c d : Int} {q : Nat} (hq : q = w.heap.size) : RowK (w.alloc (.cells #[.int .i64 a, .int .i64 b, .int .i64 c, .int .i64 d] E)) q E 1 4 (f1 (four a b c d)) := by
  subst hq
  refine RowK.made _ (by simp) fun i hi j hj => ?_
  have : j = 0 := by omega
  subst this
  have : i = 0 ∨ i = 1 ∨ i = 2 ∨ i = 3 := by omega
  rcases this with rfl | rfl | rfl | rfl <;> simp [f1, four]
/-- the box of a label: x, y its star; h half its width; s its side -/
def bx (x y h s : Int) : Nat → Int :=
  if s = 0 then four (x + 4) (y - 4) (x + 4 + 2 * h) (y + 4) else if s = 1 then four (x - 4 - 2 * h) (y - 4) (x - 4) (y + 4)
  else if s = 2 then four (x - h) (y + 4) (x + h) (y + 12) else four (x - h) (y - 12) (x + h) (y - 4)
def bxM (x y m s : Int) : Nat → Int := bx x y (3 * ((labS m).size : Int)) s
theorem box_row {w : World} {E : TypeId} {a b c d : Int} {f : Nat → Int} {q : Nat} (hq : q = w.heap.size) {a' b' c' d' : Int} (hf : f = four a' b' c' d') (ha : a = a') (hb : b = b') (hc : c = c') (hd : d = d') {B : Nat} (hB : B ≤ w.heap.size) :
    OwnK (w.alloc (.cells #[.int .i64 a, .int .i64 b, .int .i64 c, .int .i64 d] E)) B E 1 (.slice (some ⟨q, 0, none⟩) 4 4) 4 (f1 f) := by
  subst hf; subst ha; subst hb; subst hc; subst hd
  exact OwnK.of_row (by omega) (by omega) (four_row hq)
theorem bx0 {x y h s : Int} (hs : s = 0) : bx x y h s = four (x + 4) (y - 4) (x + 4 + 2 * h) (y + 4) := by rw [bx, if_pos hs]
theorem bx1 {x y h s : Int} (hs : s = 1) : bx x y h s = four (x - 4 - 2 * h) (y - 4) (x - 4) (y + 4) := by rw [bx, if_neg (by omega), if_pos hs]
theorem bx2 {x y h s : Int} (hs : s = 2) : bx x y h s = four (x - h) (y + 4) (x + h) (y + 12) := by rw [bx, if_neg (by omega), if_neg (by omega), if_pos hs]
theorem bx3 {x y h s : Int} (h0 : ¬ s = 0) (h1 : ¬ s = 1) (h2 : ¬ s = 2) : bx x y h s = four (x - h) (y - 12) (x + h) (y - 4) := by rw [bx, if_neg h0, if_neg h1, if_neg h2]
set_option maxHeartbeats 1600000 in
theorem c_labelBox (x y m s : Int) (w : World) (ht : Tb w) (hk : okMark x y m = true) :
    Calls Tryd.prog 56 #[.agg #[.int .i64 x, .int .i64 y, .int .i64 m], .int .i64 s] w fun r w' => ∃ v, r = .returned v ∧ OwnK w' w.heap.size 2 1 v 4 (f1 (bxM x y m s)) ∧ Below w.heap.size w w' := by
  obtain ⟨⟨x0, x1⟩, ⟨y0, y1⟩, hm⟩ := okMark_bd' hk
  have q3 := lab_size hm
  have HT := Lib.hid ht
  have HLO := Lib.hid (fun W hb => c_LabelOf m W (HT.out.below (w' := W) hb))
  obtain ⟨L, hL⟩ : ∃ L, (labS m).size = L := ⟨_, rfl⟩
  rw [hL] at q3
  have HBX := Lib.hid (show bxM x y m s = bx x y (3 * (L : Int)) s by rw [bxM, hL])
  clear ht hm hk
  by_cases h0 : s = 0
  · have HB := Lib.hid (HBX.out.trans (bx0 h0))
    subst h0
    go_enter Tryd.func56, Tryd.ntmps56
    go_wp2_with (first | (go_at_call 14; refine (HLO.out _ (by repeat' (first | (with_reducible exact Below.refl _ _) | (with_reducible assumption) | (with_reducible refine Base.grow_alloc ?_ _) | (with_reducible refine Base.below_drewN ?_ _) | (with_reducible refine Below.drew ?_) | (with_reducible refine Below.setCell ?_ ?_ _) | go_size))).mono ?_; rintro e w1 ⟨rfl, hb1⟩; obtain ⟨chb1, fhb1⟩ := Base.bcell hb1; have zhb1 := (hb1).size; (try simp at zhb1); (try have yhb1 : w.heap.size < (w1).heap.size := by omega)))
    have hz := hb1.size
    go_ret
    exact ⟨_, rfl, box_row rfl HB.out (by omega) (by omega) (by omega) (by omega) (by omega), (by repeat' (first | (with_reducible exact Below.refl _ _) | (with_reducible assumption) | (with_reducible refine Base.via hb1 ?_) | (with_reducible refine Base.grow_alloc ?_ _) | (with_reducible refine Base.below_drewN ?_ _) | (with_reducible refine Below.drew ?_) | (with_reducible refine Below.setCell ?_ ?_ _) | go_size))⟩
  · by_cases h1 : s = 1
    · have HB := Lib.hid (HBX.out.trans (bx1 h1))
      subst h1
      go_enter Tryd.func56, Tryd.ntmps56
      go_wp2_with (first | (go_at_call 14; refine (HLO.out _ (by repeat' (first | (with_reducible exact Below.refl _ _) | (with_reducible assumption) | (with_reducible refine Base.grow_alloc ?_ _) | (with_reducible refine Base.below_drewN ?_ _) | (with_reducible refine Below.drew ?_) | (with_reducible refine Below.setCell ?_ ?_ _) | go_size))).mono ?_; rintro e w1 ⟨rfl, hb1⟩; obtain ⟨chb1, fhb1⟩ := Base.bcell hb1; have zhb1 := (hb1).size; (try simp at zhb1); (try have yhb1 : w.heap.size < (w1).heap.size := by omega)))
      have hz := hb1.size
      go_ret
      exact ⟨_, rfl, box_row rfl HB.out (by omega) (by omega) (by omega) (by omega) (by omega), (by repeat' (first | (with_reducible exact Below.refl _ _) | (with_reducible assumption) | (with_reducible refine Base.via hb1 ?_) | (with_reducible refine Base.grow_alloc ?_ _) | (with_reducible refine Base.below_drewN ?_ _) | (with_reducible refine Below.drew ?_) | (with_reducible refine Below.setCell ?_ ?_ _) | go_size))⟩
    · by_cases h2 : s = 2
      · have HB := Lib.hid (HBX.out.trans (bx2 h2))
        subst h2
        go_enter Tryd.func56, Tryd.ntmps56
        go_wp2_with (first | (go_at_call 14; refine (HLO.out _ (by repeat' (first | (with_reducible exact Below.refl _ _) | (with_reducible assumption) | (with_reducible refine Base.grow_alloc ?_ _) | (with_reducible refine Base.below_drewN ?_ _) | (with_reducible refine Below.drew ?_) | (with_reducible refine Below.setCell ?_ ?_ _) | go_size))).mono ?_; rintro e w1 ⟨rfl, hb1⟩; obtain ⟨chb1, fhb1⟩ := Base.bcell hb1; have zhb1 := (hb1).size; (try simp at zhb1); (try have yhb1 : w.heap.size < (w1).heap.size := by omega)))
        have hz := hb1.size
        go_ret
        exact ⟨_, rfl, box_row rfl HB.out (by omega) (by omega) (by omega) (by omega) (by omega), (by repeat' (first | (with_reducible exact Below.refl _ _) | (with_reducible assumption) | (with_reducible refine Base.via hb1 ?_) | (with_reducible refine Base.grow_alloc ?_ _) | (with_reducible refine Base.below_drewN ?_ _) | (with_reducible refine Below.drew ?_) | (with_reducible refine Below.setCell ?_ ?_ _) | go_size))⟩
      · have HB := Lib.hid (HBX.out.trans (bx3 h0 h1 h2))
        go_enter Tryd.func56, Tryd.ntmps56
        go_wp2_with (first | (go_at_call 14; refine (HLO.out _ (by repeat' (first | (with_reducible exact Below.refl _ _) | (with_reducible assumption) | (with_reducible refine Base.grow_alloc ?_ _) | (with_reducible refine Base.below_drewN ?_ _) | (with_reducible refine Below.drew ?_) | (with_reducible refine Below.setCell ?_ ?_ _) | go_size))).mono ?_; rintro e w1 ⟨rfl, hb1⟩; obtain ⟨chb1, fhb1⟩ := Base.bcell hb1; have zhb1 := (hb1).size; (try simp at zhb1); (try have yhb1 : w.heap.size < (w1).heap.size := by omega)))
        have hz := hb1.size
        go_ret
        exact ⟨_, rfl, box_row rfl HB.out (by omega) (by omega) (by omega) (by omega) (by omega), (by repeat' (first | (with_reducible exact Below.refl _ _) | (with_reducible assumption) | (with_reducible refine Base.via hb1 ?_) | (with_reducible refine Base.grow_alloc ?_ _) | (with_reducible refine Base.below_drewN ?_ _) | (with_reducible refine Below.drew ?_) | (with_reducible refine Below.setCell ?_ ?_ _) | go_size))⟩
set_option maxHeartbeats 1600000 in
theorem c_l07Box (x y m s : Int) (w : World) (hk : okMark x y m = true) :
    Calls Tryd.prog 54 #[.agg #[.int .i64 x, .int .i64 y, .int .i64 m], .int .i64 s] w fun r w' => ∃ v, r = .returned v ∧ OwnK w' w.heap.size 2 1 v 4 (f1 (bxM x y m s)) ∧ Below w.heap.size w w' := by
  obtain ⟨⟨x0, x1⟩, ⟨y0, y1⟩, hm⟩ := okMark_bd' hk
  have q3 := lab_size hm
  have HLO := Lib.hid (fun W => c_l07Label m W hm)
  obtain ⟨L, hL⟩ : ∃ L, (labS m).size = L := ⟨_, rfl⟩
  rw [hL] at q3
  have HBX := Lib.hid (show bxM x y m s = bx x y (3 * (L : Int)) s by rw [bxM, hL])
  have hd : (6 * (L : Int)).tdiv 2 = 3 * L := by rw [Int.tdiv_eq_ediv_of_nonneg (by omega)]; omega
  have hd2 : IntKind.i64.wrap ((6 * (L : Int)).tdiv 2) = 3 * L := by rw [hd]; exact IntWalk.i64_in _ (by omega)
  clear hm hk
  by_cases h0 : s = 0
  · have HB := Lib.hid (HBX.out.trans (bx0 h0))
    subst h0
    go_enter Tryd.func54, Tryd.ntmps54
    go_wp2_with (first | (go_at_call 42; refine (HLO.out _).mono ?_; rintro e w1 ⟨rfl, hb1⟩; obtain ⟨chb1, fhb1⟩ := Base.bcell hb1; have zhb1 := (hb1).size; (try simp at zhb1); (try have yhb1 : w.heap.size < (w1).heap.size := by omega)))
    have hz := hb1.size
    go_ret
    exact ⟨_, rfl, box_row rfl HB.out (by omega) (by omega) (by omega) (by omega) (by omega), (by repeat' (first | (with_reducible exact Below.refl _ _) | (with_reducible assumption) | (with_reducible refine Base.via hb1 ?_) | (with_reducible refine Base.grow_alloc ?_ _) | (with_reducible refine Base.below_drewN ?_ _) | (with_reducible refine Below.drew ?_) | (with_reducible refine Below.setCell ?_ ?_ _) | go_size))⟩
  · by_cases h1 : s = 1
    · have HB := Lib.hid (HBX.out.trans (bx1 h1))
      subst h1
      go_enter Tryd.func54, Tryd.ntmps54
      go_wp2_with (first | (go_at_call 42; refine (HLO.out _).mono ?_; rintro e w1 ⟨rfl, hb1⟩; obtain ⟨chb1, fhb1⟩ := Base.bcell hb1; have zhb1 := (hb1).size; (try simp at zhb1); (try have yhb1 : w.heap.size < (w1).heap.size := by omega)))
      have hz := hb1.size
      go_ret
      exact ⟨_, rfl, box_row rfl HB.out (by omega) (by omega) (by omega) (by omega) (by omega), (by repeat' (first | (with_reducible exact Below.refl _ _) | (with_reducible assumption) | (with_reducible refine Base.via hb1 ?_) | (with_reducible refine Base.grow_alloc ?_ _) | (with_reducible refine Base.below_drewN ?_ _) | (with_reducible refine Below.drew ?_) | (with_reducible refine Below.setCell ?_ ?_ _) | go_size))⟩
    · by_cases h2 : s = 2
      · have HB := Lib.hid (HBX.out.trans (bx2 h2))
        subst h2
        go_enter Tryd.func54, Tryd.ntmps54
        go_wp2_with (first | (go_at_call 42; refine (HLO.out _).mono ?_; rintro e w1 ⟨rfl, hb1⟩; obtain ⟨chb1, fhb1⟩ := Base.bcell hb1; have zhb1 := (hb1).size; (try simp at zhb1); (try have yhb1 : w.heap.size < (w1).heap.size := by omega)))
        have hz := hb1.size
        go_ret
        exact ⟨_, rfl, box_row rfl HB.out (by omega) (by omega) (by omega) (by omega) (by omega), (by repeat' (first | (with_reducible exact Below.refl _ _) | (with_reducible assumption) | (with_reducible refine Base.via hb1 ?_) | (with_reducible refine Base.grow_alloc ?_ _) | (with_reducible refine Base.below_drewN ?_ _) | (with_reducible refine Below.drew ?_) | (with_reducible refine Below.setCell ?_ ?_ _) | go_size))⟩
      · have HB := Lib.hid (HBX.out.trans (bx3 h0 h1 h2))
        go_enter Tryd.func54, Tryd.ntmps54
        go_wp2_with (first | (go_at_call 42; refine (HLO.out _).mono ?_; rintro e w1 ⟨rfl, hb1⟩; obtain ⟨chb1, fhb1⟩ := Base.bcell hb1; have zhb1 := (hb1).size; (try simp at zhb1); (try have yhb1 : w.heap.size < (w1).heap.size := by omega)))
        have hz := hb1.size
        go_ret
        exact ⟨_, rfl, box_row rfl HB.out (by omega) (by omega) (by omega) (by omega) (by omega), (by repeat' (first | (with_reducible exact Below.refl _ _) | (with_reducible assumption) | (with_reducible refine Base.via hb1 ?_) | (with_reducible refine Base.grow_alloc ?_ _) | (with_reducible refine Base.below_drewN ?_ _) | (with_reducible refine Below.drew ?_) | (with_reducible refine Below.setCell ?_ ?_ _) | go_size))⟩
def lbC (x y m s : Int) : Int := if okMark x y m = true then (if inB s 0 3 = true then 0 else 2) else 1
def lbN (x y m s : Int) : Nat := if okMark x y m = true ∧ inB s 0 3 = true then 4 else 0
theorem ret_o {v : Value} {a b : Int} (h : a = b) : Ending.returned (.tuple #[v, .int .i64 a]) = Ending.returned (.tuple #[v, .int .i64 b]) := by rw [h]
theorem c_LabelBox (x y m s : Int) (w : World) (ht : Tb w) :
    Calls Tryd.prog 21 #[.agg #[.int .i64 x, .int .i64 y, .int .i64 m], .int .i64 s] w fun r w' => ∃ v, r = .returned (.tuple #[v, .int .i64 (lbC x y m s)]) ∧ OwnK w' w.heap.size 2 1 v (lbN x y m s) (f1 (bxM x y m s)) ∧ Below w.heap.size w w' := by
  cases hk : okMark x y m
  · have HC := Lib.hid (show lbC x y m s = 1 by simp [lbC, hk])
    have HN := Lib.hid (show lbN x y m s = 0 by simp [lbN, hk])
    go_enter Tryd.func21, Tryd.ntmps21
    go_wp2_with (first | (go_at_call 46; refine (c_isMark x y m _).mono ?_; rintro e w1 ⟨rfl, hb1⟩; obtain ⟨chb1, fhb1⟩ := Base.bcell hb1; have zhb1 := (hb1).size; (try simp at zhb1); (try have yhb1 : w.heap.size < (w1).heap.size := by omega)))
    go_ret2
    exact ⟨_, ret_o HC.out.symm, OwnK.zero HN.out, (by repeat' (first | (with_reducible exact Below.refl _ _) | (with_reducible assumption) | (with_reducible refine Base.via hb1 ?_) | (with_reducible refine Base.grow_alloc ?_ _) | (with_reducible refine Base.below_drewN ?_ _) | (with_reducible refine Below.drew ?_) | (with_reducible refine Below.setCell ?_ ?_ _) | go_size))⟩
  · have HBX := Lib.hid (fun W hb => c_labelBox x y m s W (ht.below (w' := W) hb) hk)
    cases hs : inB s 0 3
    · have HC := Lib.hid (show lbC x y m s = 2 by simp [lbC, hk, hs])
      have HN := Lib.hid (show lbN x y m s = 0 by simp [lbN, hs])
      clear ht
      go_enter Tryd.func21, Tryd.ntmps21
      go_wp2_with (first | (go_at_call 46; refine (c_isMark x y m _).mono ?_; rintro e w1 ⟨rfl, hb1⟩; obtain ⟨chb1, fhb1⟩ := Base.bcell hb1; have zhb1 := (hb1).size; (try simp at zhb1); (try have yhb1 : w.heap.size < (w1).heap.size := by omega)) | (go_at_call 55; refine (c_in _ _ _ _).mono ?_; rintro e w' ⟨rfl, rfl⟩))
      go_ret2
      exact ⟨_, ret_o HC.out.symm, OwnK.zero HN.out, (by repeat' (first | (with_reducible exact Below.refl _ _) | (with_reducible assumption) | (with_reducible refine Base.via hb1 ?_) | (with_reducible refine Base.grow_alloc ?_ _) | (with_reducible refine Base.below_drewN ?_ _) | (with_reducible refine Below.drew ?_) | (with_reducible refine Below.setCell ?_ ?_ _) | go_size))⟩
    · have HC := Lib.hid (show lbC x y m s = 0 by simp [lbC, hk, hs])
      have HN := Lib.hid (show lbN x y m s = 4 by simp [lbN, hk, hs])
      clear ht
      go_enter Tryd.func21, Tryd.ntmps21
      go_wp2_with (first | (go_at_call 46; refine (c_isMark x y m _).mono ?_; rintro e w1 ⟨rfl, hb1⟩; obtain ⟨chb1, fhb1⟩ := Base.bcell hb1; have zhb1 := (hb1).size; (try simp at zhb1); (try have yhb1 : w.heap.size < (w1).heap.size := by omega)) | (go_at_call 55; refine (c_in _ _ _ _).mono ?_; rintro e w' ⟨rfl, rfl⟩))
      have k0 : World.cell? w1 ⟨w.heap.size, 0, none⟩ = some (.int .i64 x) := ((hb1.cell (p := ⟨w.heap.size, 0, none⟩) (by first | (simp; done) | (simp; omega) | omega)).trans (by simp [go_sem]))
      have k1 : World.cell? w1 ⟨w.heap.size, 1, none⟩ = some (.int .i64 y) := ((hb1.cell (p := ⟨w.heap.size, 1, none⟩) (by first | (simp; done) | (simp; omega) | omega)).trans (by simp [go_sem]))
      have k2 : World.cell? w1 ⟨w.heap.size, 2, none⟩ = some (.int .i64 m) := ((hb1.cell (p := ⟨w.heap.size, 2, none⟩) (by first | (simp; done) | (simp; omega) | omega)).trans (by simp [go_sem]))
      have hbw : Below w.heap.size w w1 := (by repeat' (first | (with_reducible exact Below.refl _ _) | (with_reducible assumption) | (with_reducible refine Base.via hb1 ?_) | (with_reducible refine Base.grow_alloc ?_ _) | (with_reducible refine Base.below_drewN ?_ _) | (with_reducible refine Below.drew ?_) | (with_reducible refine Below.setCell ?_ ?_ _) | go_size))
      clear chb1 fhb1
      go_wp2_with (first | (go_at_call 56; refine (HBX.out _ hbw).mono ?_; rintro r w2 ⟨v2, rfl, ho2, hb2⟩))
      go_ret2
      exact ⟨_, ret_o HC.out.symm, by rw [HN.out]; exact ho2.mono hbw.size, (by repeat' (first | (with_reducible exact Below.refl _ _) | (with_reducible assumption) | (with_reducible refine Base.via hb2 ?_) | (with_reducible refine Base.via hbw ?_) | (with_reducible refine Base.grow_alloc ?_ _) | (with_reducible refine Base.below_drewN ?_ _) | (with_reducible refine Below.drew ?_) | (with_reducible refine Below.setCell ?_ ?_ _) | go_size))⟩
theorem c_specLabelBox (x y m s : Int) (w : World) :
    Calls Tryd.prog 20 #[.agg #[.int .i64 x, .int .i64 y, .int .i64 m], .int .i64 s] w fun r w' => ∃ v, r = .returned (.tuple #[v, .int .i64 (lbC x y m s)]) ∧ OwnK w' w.heap.size 2 1 v (lbN x y m s) (f1 (bxM x y m s)) ∧ Below w.heap.size w w' := by
  cases hk : okMark x y m
  · have HC := Lib.hid (show lbC x y m s = 1 by simp [lbC, hk])
    have HN := Lib.hid (show lbN x y m s = 0 by simp [lbN, hk])
    go_enter Tryd.func20, Tryd.ntmps20
    go_wp2_with (first | (go_at_call 45; refine (c_l07One x y m _).mono ?_; rintro e w1 ⟨rfl, hb1⟩; obtain ⟨chb1, fhb1⟩ := Base.bcell hb1; have zhb1 := (hb1).size; (try simp at zhb1); (try have yhb1 : w.heap.size < (w1).heap.size := by omega)))
    go_ret2
    exact ⟨_, ret_o HC.out.symm, OwnK.zero HN.out, (by repeat' (first | (with_reducible exact Below.refl _ _) | (with_reducible assumption) | (with_reducible refine Base.via hb1 ?_) | (with_reducible refine Base.grow_alloc ?_ _) | (with_reducible refine Base.below_drewN ?_ _) | (with_reducible refine Below.drew ?_) | (with_reducible refine Below.setCell ?_ ?_ _) | go_size))⟩
  · have HBX := Lib.hid (fun W => c_l07Box x y m s W hk)
    cases hs : inB s 0 3
    · have HC := Lib.hid (show lbC x y m s = 2 by simp [lbC, hk, hs])
      have HN := Lib.hid (show lbN x y m s = 0 by simp [lbN, hs])
      go_enter Tryd.func20, Tryd.ntmps20
      go_wp2_with (first | (go_at_call 45; refine (c_l07One x y m _).mono ?_; rintro e w1 ⟨rfl, hb1⟩; obtain ⟨chb1, fhb1⟩ := Base.bcell hb1; have zhb1 := (hb1).size; (try simp at zhb1); (try have yhb1 : w.heap.size < (w1).heap.size := by omega)) | (go_at_call 53; refine (c_l00In _ _ _ _).mono ?_; rintro e w' ⟨rfl, rfl⟩))
      go_ret2
      exact ⟨_, ret_o HC.out.symm, OwnK.zero HN.out, (by repeat' (first | (with_reducible exact Below.refl _ _) | (with_reducible assumption) | (with_reducible refine Base.via hb1 ?_) | (with_reducible refine Base.grow_alloc ?_ _) | (with_reducible refine Base.below_drewN ?_ _) | (with_reducible refine Below.drew ?_) | (with_reducible refine Below.setCell ?_ ?_ _) | go_size))⟩
    · have HC := Lib.hid (show lbC x y m s = 0 by simp [lbC, hk, hs])
      have HN := Lib.hid (show lbN x y m s = 4 by simp [lbN, hk, hs])
      go_enter Tryd.func20, Tryd.ntmps20
      go_wp2_with (first | (go_at_call 45; refine (c_l07One x y m _).mono ?_; rintro e w1 ⟨rfl, hb1⟩; obtain ⟨chb1, fhb1⟩ := Base.bcell hb1; have zhb1 := (hb1).size; (try simp at zhb1); (try have yhb1 : w.heap.size < (w1).heap.size := by omega)) | (go_at_call 53; refine (c_l00In _ _ _ _).mono ?_; rintro e w' ⟨rfl, rfl⟩))
      have k0 : World.cell? w1 ⟨w.heap.size, 0, none⟩ = some (.int .i64 x) := ((hb1.cell (p := ⟨w.heap.size, 0, none⟩) (by first | (simp; done) | (simp; omega) | omega)).trans (by simp [go_sem]))
      have k1 : World.cell? w1 ⟨w.heap.size, 1, none⟩ = some (.int .i64 y) := ((hb1.cell (p := ⟨w.heap.size, 1, none⟩) (by first | (simp; done) | (simp; omega) | omega)).trans (by simp [go_sem]))
      have k2 : World.cell? w1 ⟨w.heap.size, 2, none⟩ = some (.int .i64 m) := ((hb1.cell (p := ⟨w.heap.size, 2, none⟩) (by first | (simp; done) | (simp; omega) | omega)).trans (by simp [go_sem]))
      have hbw : Below w.heap.size w w1 := (by repeat' (first | (with_reducible exact Below.refl _ _) | (with_reducible assumption) | (with_reducible refine Base.via hb1 ?_) | (with_reducible refine Base.grow_alloc ?_ _) | (with_reducible refine Base.below_drewN ?_ _) | (with_reducible refine Below.drew ?_) | (with_reducible refine Below.setCell ?_ ?_ _) | go_size))
      clear chb1 fhb1
      go_wp2_with (first | (go_at_call 54; refine (HBX.out _).mono ?_; rintro r w2 ⟨v2, rfl, ho2, hb2⟩))
      go_ret2
      exact ⟨_, ret_o HC.out.symm, by rw [HN.out]; exact ho2.mono hbw.size, (by repeat' (first | (with_reducible exact Below.refl _ _) | (with_reducible assumption) | (with_reducible refine Base.via hb2 ?_) | (with_reducible refine Base.via hbw ?_) | (with_reducible refine Base.grow_alloc ?_ _) | (with_reducible refine Base.below_drewN ?_ _) | (with_reducible refine Below.drew ?_) | (with_reducible refine Below.setCell ?_ ?_ _) | go_size))⟩
end Go.Proofs.YtpkkeoapndpikaaDoor.Lab
