/- Texts of marks and phases. -/
import Derived.Test.YtpkkeoapndpikaaDoorTxt
namespace Go.Proofs.YtpkkeoapndpikaaDoor.Txt
set_option linter.unusedVariables false
set_option linter.unusedSimpArgs false
set_option maxRecDepth 8000
open Go.RowKit Plain Num View Eph Chart Frac Dec

def markS (x y m : Int) : ByteArray := if okMark x y m = true then ⟨(Lib.itoa x ++ [44] ++ Lib.itoa y ++ [32] ++ Lib.itoa (nrI m 100)).toArray⟩ else ⟨#[]⟩
theorem okMark_bd' {x y m : Int} (h : okMark x y m = true) : (0 ≤ x ∧ x ≤ 2000) ∧ (0 ≤ y ∧ y ≤ 2000) ∧ inB m (-2000) 20000 = true := by
  simp only [okMark, Bool.and_eq_true] at h
  exact ⟨inB_iff.1 h.1.1, inB_iff.1 h.1.2, h.2⟩
theorem markS_eq {x y m : Int} (h : okMark x y m = true) : (⟨(Lib.itoa x).toArray⟩ : ByteArray) ++ ⟨#[44]⟩ ++ ⟨(Lib.itoa y).toArray⟩ ++ ⟨#[32]⟩ ++ labS m = markS x y m := by
  rw [markS, if_pos h, labS, if_pos (okMark_bd' h).2.2, ← ba_app, ← ba_app, ← ba_app, ← ba_app]
theorem markS_no {x y m : Int} (h : okMark x y m = false) : markS x y m = ⟨#[]⟩ := by rw [markS, h]; rfl
theorem lab_size {m : Int} (h : inB m (-2000) 20000 = true) : (labS m).size ≤ 21 := by
  have := lab_bd h
  rw [labS, if_pos h, size_l]
  exact Lib.itoa_length_le _ (by omega) (by omega)
set_option maxHeartbeats 1600000 in
theorem c_MarkText (x y m : Int) (w : World) (ht : Tb w) :
    Calls Tryd.prog 17 #[.agg #[.int .i64 x, .int .i64 y, .int .i64 m]] w fun r w' => r = .returned (.string (markS x y m)) ∧ Below w.heap.size w w' := by
  have HT := Lib.hid ht
  clear ht
  cases hok : okMark x y m
  · have HE := Lib.hid (markS_no hok)
    go_enter Tryd.func17, Tryd.ntmps17
    go_wp2_with (first | (go_at_call 46; refine (c_isMark x y m _).mono ?_; rintro e w1 ⟨rfl, hb1⟩; obtain ⟨chb1, fhb1⟩ := Base.bcell hb1; have zhb1 := (hb1).size; (try simp at zhb1); (try have yhb1 : w.heap.size < (w1).heap.size := by omega)))
    go_ret
    exact ⟨ret_str HE.out.symm, (by repeat' (first | (with_reducible exact Below.refl _ _) | (with_reducible assumption) | (with_reducible refine Base.via hb1 ?_) | (with_reducible refine Base.grow_alloc ?_ _) | (with_reducible refine Base.below_drewN ?_ _) | (with_reducible refine Below.drew ?_) | (with_reducible refine Below.setCell ?_ ?_ _) | go_size))⟩
  · obtain ⟨⟨x0, x1⟩, ⟨y0, y1⟩, hm⟩ := okMark_bd' hok
    have HE := Lib.hid (markS_eq hok)
    have q1 : (Lib.itoa x).length ≤ 21 := Lib.itoa_length_le _ (by omega) (by omega)
    have q2 : (Lib.itoa y).length ≤ 21 := Lib.itoa_length_le _ (by omega) (by omega)
    have q3 := lab_size hm
    go_enter Tryd.func17, Tryd.ntmps17
    go_wp2_with (first | (go_at_call 46; refine (c_isMark x y m _).mono ?_; rintro e w1 ⟨rfl, hb1⟩; obtain ⟨chb1, fhb1⟩ := Base.bcell hb1; have zhb1 := (hb1).size; (try simp at zhb1); (try have yhb1 : w.heap.size < (w1).heap.size := by omega)))
    have k0 : World.cell? w1 ⟨w.heap.size, 0, none⟩ = some (.int .i64 x) := ((hb1.cell (p := ⟨w.heap.size, 0, none⟩) (by first | (simp; done) | (simp; omega) | omega)).trans (by simp [go_sem]))
    have k1 : World.cell? w1 ⟨w.heap.size, 1, none⟩ = some (.int .i64 y) := ((hb1.cell (p := ⟨w.heap.size, 1, none⟩) (by first | (simp; done) | (simp; omega) | omega)).trans (by simp [go_sem]))
    have k2 : World.cell? w1 ⟨w.heap.size, 2, none⟩ = some (.int .i64 m) := ((hb1.cell (p := ⟨w.heap.size, 2, none⟩) (by first | (simp; done) | (simp; omega) | omega)).trans (by simp [go_sem]))
    have hbw : Below w.heap.size w w1 := (by repeat' (first | (with_reducible exact Below.refl _ _) | (with_reducible assumption) | (with_reducible refine Base.via hb1 ?_) | (with_reducible refine Base.grow_alloc ?_ _) | (with_reducible refine Base.below_drewN ?_ _) | (with_reducible refine Below.drew ?_) | (with_reducible refine Below.setCell ?_ ?_ _) | go_size))
    have HTB := Lib.hid (HT.out.below hbw)
    clear chb1 fhb1
    have s1 : (⟨(Lib.itoa x).toArray⟩ : ByteArray).size ≤ 21 := by rw [size_l]; exact q1
    have s2 : (⟨(Lib.itoa y).toArray⟩ : ByteArray).size ≤ 21 := by rw [size_l]; exact q2
    have s3 : (⟨#[44]⟩ : ByteArray).size = 1 := rfl
    have s4 : (⟨#[32]⟩ : ByteArray).size = 1 := rfl
    have a1 := add_run (P := Tryd.prog) ⟨(Lib.itoa x).toArray⟩ ⟨#[44]⟩ (by omega) (by omega)
    have a2 := add_run (P := Tryd.prog) (⟨(Lib.itoa x).toArray⟩ ++ ⟨#[44]⟩) ⟨(Lib.itoa y).toArray⟩ (by rw [size_app]; omega) (by omega)
    have a3 := add_run (P := Tryd.prog) (⟨(Lib.itoa x).toArray⟩ ++ ⟨#[44]⟩ ++ ⟨(Lib.itoa y).toArray⟩) ⟨#[32]⟩ (by rw [size_app, size_app]; omega) (by omega)
    have a4 := add_run (P := Tryd.prog) (⟨(Lib.itoa x).toArray⟩ ++ ⟨#[44]⟩ ++ ⟨(Lib.itoa y).toArray⟩ ++ ⟨#[32]⟩) (labS m) (by rw [size_app, size_app, size_app]; omega) (by omega)
    clear s1 s2 s3 s4
    go_region_held3 (fun W => W.cell? ⟨w.heap.size, 0, none⟩ = some (.int .i64 x) ∧ W.cell? ⟨w.heap.size, 1, none⟩ = some (.int .i64 y) ∧ W.cell? ⟨w.heap.size, 2, none⟩ = some (.int .i64 m))
      (first | exact ⟨cell_drew k0, cell_drew k1, cell_drew k2⟩ | exact ⟨cell_call hb4 (‹World.cell? _ _ = some _ ∧ World.cell? _ _ = some _ ∧ World.cell? _ _ = some _›).1, cell_call hb4 (‹World.cell? _ _ = some _ ∧ World.cell? _ _ = some _ ∧ World.cell? _ _ = some _›).2.1, cell_call hb4 (‹World.cell? _ _ = some _ ∧ World.cell? _ _ = some _ ∧ World.cell? _ _ = some _›).2.2⟩ | exact ⟨cell_call hb5 (‹World.cell? _ _ = some _ ∧ World.cell? _ _ = some _ ∧ World.cell? _ _ = some _›).1, cell_call hb5 (‹World.cell? _ _ = some _ ∧ World.cell? _ _ = some _ ∧ World.cell? _ _ = some _›).2.1, cell_call hb5 (‹World.cell? _ _ = some _ ∧ World.cell? _ _ = some _ ∧ World.cell? _ _ = some _›).2.2⟩ | exact ⟨cell_call hb6 (‹World.cell? _ _ = some _ ∧ World.cell? _ _ = some _ ∧ World.cell? _ _ = some _›).1, cell_call hb6 (‹World.cell? _ _ = some _ ∧ World.cell? _ _ = some _ ∧ World.cell? _ _ = some _›).2.1, cell_call hb6 (‹World.cell? _ _ = some _ ∧ World.cell? _ _ = some _ ∧ World.cell? _ _ = some _›).2.2⟩)
      (first | (go_at_call 14; refine (c_LabelOf m _ (HTB.out.below (by repeat' (first | (with_reducible exact Below.refl _ _) | (with_reducible assumption) | (with_reducible refine Base.via hb5 ?_) | (with_reducible refine Base.via hb4 ?_) | (with_reducible refine Base.grow_alloc ?_ _) | (with_reducible refine Base.below_drewN ?_ _) | (with_reducible refine Below.drew ?_) | (with_reducible refine Below.setCell ?_ ?_ _) | go_size)))).mono ?_; rintro r w6 ⟨rfl, hb6⟩) | (go_at_call_of 40 (Value.int .i64 y); refine (c_Decimal y _ (HTB.out.below (by repeat' (first | (with_reducible exact Below.refl _ _) | (with_reducible assumption) | (with_reducible refine Base.via hb4 ?_) | (with_reducible refine Base.grow_alloc ?_ _) | (with_reducible refine Base.below_drewN ?_ _) | (with_reducible refine Below.drew ?_) | (with_reducible refine Below.setCell ?_ ?_ _) | go_size))) (by omega) (by omega)).mono ?_; rintro r w5 ⟨rfl, hb5⟩) | (go_at_call_of 40 (Value.int .i64 x); refine (c_Decimal x _ (HTB.out.below (by repeat' (first | (with_reducible exact Below.refl _ _) | (with_reducible assumption) | (with_reducible refine Base.grow_alloc ?_ _) | (with_reducible refine Base.below_drewN ?_ _) | (with_reducible refine Below.drew ?_) | (with_reducible refine Below.setCell ?_ ?_ _) | go_size))) (by omega) (by omega)).mono ?_; rintro r w4 ⟨rfl, hb4⟩))
    all_goals
      go_wp2
      go_ret
      exact ⟨ret_str HE.out, (by repeat' (first | (with_reducible exact Below.refl _ _) | (with_reducible assumption) | (with_reducible refine Base.via hb6 ?_) | (with_reducible refine Base.via hb5 ?_) | (with_reducible refine Base.via hb4 ?_) | (with_reducible refine Base.via hbw ?_) | (with_reducible refine Base.grow_alloc ?_ _) | (with_reducible refine Base.below_drewN ?_ _) | (with_reducible refine Below.drew ?_) | (with_reducible refine Below.setCell ?_ ?_ _) | go_size))⟩
set_option maxHeartbeats 1600000 in
theorem c_specMarkText (x y m : Int) (w : World) :
    Calls Tryd.prog 15 #[.agg #[.int .i64 x, .int .i64 y, .int .i64 m]] w fun r w' => r = .returned (.string (markS x y m)) ∧ Below w.heap.size w w' := by
  cases hok : okMark x y m
  · have HE := Lib.hid (markS_no hok)
    go_enter Tryd.func15, Tryd.ntmps15
    go_wp2_with (first | (go_at_call 45; refine (c_l07One x y m _).mono ?_; rintro e w1 ⟨rfl, hb1⟩; obtain ⟨chb1, fhb1⟩ := Base.bcell hb1; have zhb1 := (hb1).size; (try simp at zhb1); (try have yhb1 : w.heap.size < (w1).heap.size := by omega)))
    go_ret
    exact ⟨ret_str HE.out.symm, (by repeat' (first | (with_reducible exact Below.refl _ _) | (with_reducible assumption) | (with_reducible refine Base.via hb1 ?_) | (with_reducible refine Base.grow_alloc ?_ _) | (with_reducible refine Base.below_drewN ?_ _) | (with_reducible refine Below.drew ?_) | (with_reducible refine Below.setCell ?_ ?_ _) | go_size))⟩
  · obtain ⟨⟨x0, x1⟩, ⟨y0, y1⟩, hm⟩ := okMark_bd' hok
    have HE := Lib.hid (markS_eq hok)
    have q1 : (Lib.itoa x).length ≤ 21 := Lib.itoa_length_le _ (by omega) (by omega)
    have q2 : (Lib.itoa y).length ≤ 21 := Lib.itoa_length_le _ (by omega) (by omega)
    have q3 := lab_size hm
    go_enter Tryd.func15, Tryd.ntmps15
    go_wp2_with (first | (go_at_call 45; refine (c_l07One x y m _).mono ?_; rintro e w1 ⟨rfl, hb1⟩; obtain ⟨chb1, fhb1⟩ := Base.bcell hb1; have zhb1 := (hb1).size; (try simp at zhb1); (try have yhb1 : w.heap.size < (w1).heap.size := by omega)))
    have k0 : World.cell? w1 ⟨w.heap.size, 0, none⟩ = some (.int .i64 x) := ((hb1.cell (p := ⟨w.heap.size, 0, none⟩) (by first | (simp; done) | (simp; omega) | omega)).trans (by simp [go_sem]))
    have k1 : World.cell? w1 ⟨w.heap.size, 1, none⟩ = some (.int .i64 y) := ((hb1.cell (p := ⟨w.heap.size, 1, none⟩) (by first | (simp; done) | (simp; omega) | omega)).trans (by simp [go_sem]))
    have k2 : World.cell? w1 ⟨w.heap.size, 2, none⟩ = some (.int .i64 m) := ((hb1.cell (p := ⟨w.heap.size, 2, none⟩) (by first | (simp; done) | (simp; omega) | omega)).trans (by simp [go_sem]))
    have hbw : Below w.heap.size w w1 := (by repeat' (first | (with_reducible exact Below.refl _ _) | (with_reducible assumption) | (with_reducible refine Base.via hb1 ?_) | (with_reducible refine Base.grow_alloc ?_ _) | (with_reducible refine Base.below_drewN ?_ _) | (with_reducible refine Below.drew ?_) | (with_reducible refine Below.setCell ?_ ?_ _) | go_size))
    clear chb1 fhb1
    have s1 : (⟨(Lib.itoa x).toArray⟩ : ByteArray).size ≤ 21 := by rw [size_l]; exact q1
    have s2 : (⟨(Lib.itoa y).toArray⟩ : ByteArray).size ≤ 21 := by rw [size_l]; exact q2
    have s3 : (⟨#[44]⟩ : ByteArray).size = 1 := rfl
    have s4 : (⟨#[32]⟩ : ByteArray).size = 1 := rfl
    have a1 := add_run (P := Tryd.prog) ⟨(Lib.itoa x).toArray⟩ ⟨#[44]⟩ (by omega) (by omega)
    have a2 := add_run (P := Tryd.prog) (⟨(Lib.itoa x).toArray⟩ ++ ⟨#[44]⟩) ⟨(Lib.itoa y).toArray⟩ (by rw [size_app]; omega) (by omega)
    have a3 := add_run (P := Tryd.prog) (⟨(Lib.itoa x).toArray⟩ ++ ⟨#[44]⟩ ++ ⟨(Lib.itoa y).toArray⟩) ⟨#[32]⟩ (by rw [size_app, size_app]; omega) (by omega)
    have a4 := add_run (P := Tryd.prog) (⟨(Lib.itoa x).toArray⟩ ++ ⟨#[44]⟩ ++ ⟨(Lib.itoa y).toArray⟩ ++ ⟨#[32]⟩) (labS m) (by rw [size_app, size_app, size_app]; omega) (by omega)
    clear s1 s2 s3 s4
    go_region_held3 (fun W => W.cell? ⟨w.heap.size, 0, none⟩ = some (.int .i64 x) ∧ W.cell? ⟨w.heap.size, 1, none⟩ = some (.int .i64 y) ∧ W.cell? ⟨w.heap.size, 2, none⟩ = some (.int .i64 m))
      (first | exact ⟨cell_drew k0, cell_drew k1, cell_drew k2⟩ | exact ⟨cell_call hb4 (‹World.cell? _ _ = some _ ∧ World.cell? _ _ = some _ ∧ World.cell? _ _ = some _›).1, cell_call hb4 (‹World.cell? _ _ = some _ ∧ World.cell? _ _ = some _ ∧ World.cell? _ _ = some _›).2.1, cell_call hb4 (‹World.cell? _ _ = some _ ∧ World.cell? _ _ = some _ ∧ World.cell? _ _ = some _›).2.2⟩ | exact ⟨cell_call hb5 (‹World.cell? _ _ = some _ ∧ World.cell? _ _ = some _ ∧ World.cell? _ _ = some _›).1, cell_call hb5 (‹World.cell? _ _ = some _ ∧ World.cell? _ _ = some _ ∧ World.cell? _ _ = some _›).2.1, cell_call hb5 (‹World.cell? _ _ = some _ ∧ World.cell? _ _ = some _ ∧ World.cell? _ _ = some _›).2.2⟩ | exact ⟨cell_call hb6 (‹World.cell? _ _ = some _ ∧ World.cell? _ _ = some _ ∧ World.cell? _ _ = some _›).1, cell_call hb6 (‹World.cell? _ _ = some _ ∧ World.cell? _ _ = some _ ∧ World.cell? _ _ = some _›).2.1, cell_call hb6 (‹World.cell? _ _ = some _ ∧ World.cell? _ _ = some _ ∧ World.cell? _ _ = some _›).2.2⟩)
      (first | (go_at_call 42; refine (c_l07Label m _ hm).mono ?_; rintro r w6 ⟨rfl, hb6⟩) | (go_at_call_of 38 (Value.int .i64 y); refine (c_l01Dec y _ (by omega) (by omega)).mono ?_; rintro r w5 ⟨rfl, hb5⟩) | (go_at_call_of 38 (Value.int .i64 x); refine (c_l01Dec x _ (by omega) (by omega)).mono ?_; rintro r w4 ⟨rfl, hb4⟩))
    all_goals
      go_wp2
      go_ret
      exact ⟨ret_str HE.out, (by repeat' (first | (with_reducible exact Below.refl _ _) | (with_reducible assumption) | (with_reducible refine Base.via hb6 ?_) | (with_reducible refine Base.via hb5 ?_) | (with_reducible refine Base.via hb4 ?_) | (with_reducible refine Base.via hbw ?_) | (with_reducible refine Base.grow_alloc ?_ _) | (with_reducible refine Base.below_drewN ?_ _) | (with_reducible refine Below.drew ?_) | (with_reducible refine Below.setCell ?_ ?_ _) | go_size))⟩
def phS (e p t : Int) : ByteArray := if (okEph e p && inB t 0 10000000) = true then ⟨([48, 46] ++ three (1000 * ((t - e) % p) / p).toNat).toArray⟩ else ⟨#[]⟩
theorem ph_x {e p t : Int} (hp : 1 ≤ p ∧ p ≤ 1000000) : 0 ≤ (t - e) % p ∧ (t - e) % p < p ∧ 0 ≤ 1000 * ((t - e) % p) / p ∧ 1000 * ((t - e) % p) / p < 1000 := by
  have h1 := Int.emod_nonneg (t - e) (show p ≠ 0 by omega)
  have h2 := Int.emod_lt_of_pos (t - e) (show 0 < p by omega)
  exact ⟨h1, h2, Int.ediv_nonneg (by omega) (by omega), Int.ediv_lt_of_lt_mul (by omega) (by omega)⟩
theorem phS_eq {e p t : Int} (h : (okEph e p && inB t 0 10000000) = true) : (⟨#[48, 46]⟩ : ByteArray) ++ ⟨(three (1000 * ((t - e) % p) / p).toNat).toArray⟩ = phS e p t := by
  rw [phS, if_pos h, ← ba_app]
theorem quo_in {a p : Int} (h0 : 0 ≤ a) (ha : a ≤ 9223372036854775807) (hp : 1 ≤ p) : IntKind.i64.wrap (a.tdiv p) = a / p := by
  have e : a.tdiv p = a / p := Int.tdiv_eq_ediv_of_nonneg h0
  have h1 := Int.ediv_nonneg h0 (show 0 ≤ p by omega)
  have h2 := Int.ediv_le_self p h0
  rw [e]
  exact IntWalk.i64_in _ (by omega)
theorem phS_no {e p t : Int} (h : (okEph e p && inB t 0 10000000) = false) : phS e p t = ⟨#[]⟩ := by rw [phS, h]; rfl
set_option maxHeartbeats 1600000 in
theorem c_PhaseText (e p t : Int) (w : World) (ht : Tb w) :
    Calls Tryd.prog 19 #[.agg #[.int .i64 e, .int .i64 p], .int .i64 t] w fun r w' => r = .returned (.string (phS e p t)) ∧ Below w.heap.size w w' := by
  have HT := Lib.hid ht
  clear ht
  cases hok : (okEph e p && inB t 0 10000000)
  · have HE := Lib.hid (phS_no hok)
    cases hk : okEph e p
    · go_enter Tryd.func19, Tryd.ntmps19
      go_wp2_with (first | (go_at_call 39; refine (c_ValidEphemeris e p _).mono ?_; rintro e w1 ⟨rfl, hb1⟩; obtain ⟨chb1, fhb1⟩ := Base.bcell hb1; have zhb1 := (hb1).size; (try simp at zhb1); (try have yhb1 : w.heap.size < (w1).heap.size := by omega)) | (go_at_call 50; refine (c_ValidTime _ _).mono ?_; rintro e w' ⟨rfl, rfl⟩))
      go_ret
      exact ⟨ret_str HE.out.symm, (by repeat' (first | (with_reducible exact Below.refl _ _) | (with_reducible assumption) | (with_reducible refine Base.via hb1 ?_) | (with_reducible refine Base.grow_alloc ?_ _) | (with_reducible refine Base.below_drewN ?_ _) | (with_reducible refine Below.drew ?_) | (with_reducible refine Below.setCell ?_ ?_ _) | go_size))⟩
    · have hk2 : inB t 0 10000000 = false := by rw [hk] at hok; simpa using hok
      go_enter Tryd.func19, Tryd.ntmps19
      go_wp2_with (first | (go_at_call 39; refine (c_ValidEphemeris e p _).mono ?_; rintro e w1 ⟨rfl, hb1⟩; obtain ⟨chb1, fhb1⟩ := Base.bcell hb1; have zhb1 := (hb1).size; (try simp at zhb1); (try have yhb1 : w.heap.size < (w1).heap.size := by omega)) | (go_at_call 50; refine (c_ValidTime _ _).mono ?_; rintro e w' ⟨rfl, rfl⟩))
      go_ret
      exact ⟨ret_str HE.out.symm, (by repeat' (first | (with_reducible exact Below.refl _ _) | (with_reducible assumption) | (with_reducible refine Base.via hb1 ?_) | (with_reducible refine Base.grow_alloc ?_ _) | (with_reducible refine Base.below_drewN ?_ _) | (with_reducible refine Below.drew ?_) | (with_reducible refine Below.setCell ?_ ?_ _) | go_size))⟩
  · obtain ⟨ho1, ho2⟩ := Bool.and_eq_true_iff.1 hok
    obtain ⟨⟨e0, e1⟩, p0, p1⟩ := okEph_bd' ho1
    have htb := inB_iff.1 ho2
    obtain ⟨r0, r1, x0, x1⟩ := ph_x (e := e) (t := t) ⟨p0, p1⟩
    obtain ⟨x, hx⟩ : ∃ x : Nat, 1000 * ((t - e) % p) / p = x := ⟨(1000 * ((t - e) % p) / p).toNat, by omega⟩
    have HE := Lib.hid (show (⟨#[48, 46]⟩ : ByteArray) ++ ⟨(three x).toArray⟩ = phS e p t by rw [← phS_eq hok, hx, Int.toNat_natCast])
    have HPH := Lib.hid (fun W => c_phase e p t W ⟨e0, e1⟩ ⟨p0, p1⟩ htb)
    have hx1 : x < 1000 := by omega
    obtain ⟨q, hq⟩ : ∃ q, q = (t - e) % p := ⟨_, rfl⟩
    rw [← hq] at r0 r1 hx HPH
    have w1' : IntKind.i64.wrap (1000 * q) = 1000 * q := IntWalk.i64_in _ (by omega)
    have w2' : IntKind.i64.wrap ((1000 * q).tdiv p) = x := by rw [quo_in (by omega) (by omega) p0, hx]
    have pz : ¬ p = 0 := by omega
    have s1 : (⟨(three x).toArray⟩ : ByteArray).size ≤ 3 := by rw [size_l]; simp [three]
    have s2 : (⟨#[48, 46]⟩ : ByteArray).size = 2 := rfl
    have a1 := add_run (P := Tryd.prog) ⟨#[48, 46]⟩ ⟨(three x).toArray⟩ (by omega) (by omega)
    clear s1 s2 x0 x1 hq hx
    go_enter Tryd.func19, Tryd.ntmps19
    go_wp2_with (first | (go_at_call 39; refine (c_ValidEphemeris e p _).mono ?_; rintro e w1 ⟨rfl, hb1⟩; obtain ⟨chb1, fhb1⟩ := Base.bcell hb1; have zhb1 := (hb1).size; (try simp at zhb1); (try have yhb1 : w.heap.size < (w1).heap.size := by omega)) | (go_at_call 50; refine (c_ValidTime _ _).mono ?_; rintro e w' ⟨rfl, rfl⟩))
    have k0 : World.cell? w1 ⟨w.heap.size, 0, none⟩ = some (.int .i64 e) := ((hb1.cell (p := ⟨w.heap.size, 0, none⟩) (by first | (simp; done) | (simp; omega) | omega)).trans (by simp [go_sem]))
    have k1 : World.cell? w1 ⟨w.heap.size, 1, none⟩ = some (.int .i64 p) := ((hb1.cell (p := ⟨w.heap.size, 1, none⟩) (by first | (simp; done) | (simp; omega) | omega)).trans (by simp [go_sem]))
    have hbw : Below w.heap.size w w1 := (by repeat' (first | (with_reducible exact Below.refl _ _) | (with_reducible assumption) | (with_reducible refine Base.via hb1 ?_) | (with_reducible refine Base.grow_alloc ?_ _) | (with_reducible refine Base.below_drewN ?_ _) | (with_reducible refine Below.drew ?_) | (with_reducible refine Below.setCell ?_ ?_ _) | go_size))
    have HTB := Lib.hid (HT.out.below hbw)
    clear chb1 fhb1
    go_region_held3 (fun W => W.cell? ⟨w.heap.size, 0, none⟩ = some (.int .i64 e) ∧ W.cell? ⟨w.heap.size, 1, none⟩ = some (.int .i64 p))
      (first | exact ⟨cell_drew k0, cell_drew k1⟩ | exact ⟨cell_call hb4 (‹World.cell? _ _ = some _ ∧ World.cell? _ _ = some _›).1, cell_call hb4 (‹World.cell? _ _ = some _ ∧ World.cell? _ _ = some _›).2⟩ | exact ⟨cell_call hb5 (‹World.cell? _ _ = some _ ∧ World.cell? _ _ = some _›).1, cell_call hb5 (‹World.cell? _ _ = some _ ∧ World.cell? _ _ = some _›).2⟩)
      (first | (go_at_call 52; refine Calls.mono (HPH.out _) ?_; rintro r w4 ⟨rfl, hb4⟩) | (go_at_call 51; refine (c_padded x _ (HTB.out.below (by repeat' (first | (with_reducible exact Below.refl _ _) | (with_reducible assumption) | (with_reducible refine Base.via hb4 ?_) | (with_reducible refine Base.grow_alloc ?_ _) | (with_reducible refine Base.below_drewN ?_ _) | (with_reducible refine Below.drew ?_) | (with_reducible refine Below.setCell ?_ ?_ _) | go_size))) (by omega)).mono ?_; rintro r w5 ⟨rfl, hb5⟩))
    all_goals
      clear w1' w2'
      go_wp2
      go_ret
      exact ⟨ret_str HE.out, (by repeat' (first | (with_reducible exact Below.refl _ _) | (with_reducible assumption) | (with_reducible refine Base.via hb5 ?_) | (with_reducible refine Base.via hb4 ?_) | (with_reducible refine Base.via hbw ?_) | (with_reducible refine Base.grow_alloc ?_ _) | (with_reducible refine Base.below_drewN ?_ _) | (with_reducible refine Below.drew ?_) | (with_reducible refine Below.setCell ?_ ?_ _) | go_size))⟩
set_option maxHeartbeats 1600000 in
theorem c_specPhaseText (e p t : Int) (w : World) :
    Calls Tryd.prog 18 #[.agg #[.int .i64 e, .int .i64 p], .int .i64 t] w fun r w' => r = .returned (.string (phS e p t)) ∧ Below w.heap.size w w' := by
  cases hok : (okEph e p && inB t 0 10000000)
  · have HE := Lib.hid (phS_no hok)
    have hcz : (ephCode e p t != 0) = true := by
      simp only [Bool.and_eq_false_iff] at hok
      unfold ephCode
      rcases hok with h | h
      · rw [h]; simp
      · cases okEph e p <;> rw [h] <;> simp
    go_enter Tryd.func18, Tryd.ntmps18
    go_wp2_with (first | (go_at_call 47; refine (c_l09Code e p t _).mono ?_; rintro e w1 ⟨rfl, hb1⟩; obtain ⟨chb1, fhb1⟩ := Base.bcell hb1; have zhb1 := (hb1).size; (try simp at zhb1); (try have yhb1 : w.heap.size < (w1).heap.size := by omega)))
    go_ret
    exact ⟨ret_str HE.out.symm, (by repeat' (first | (with_reducible exact Below.refl _ _) | (with_reducible assumption) | (with_reducible refine Base.via hb1 ?_) | (with_reducible refine Base.grow_alloc ?_ _) | (with_reducible refine Base.below_drewN ?_ _) | (with_reducible refine Below.drew ?_) | (with_reducible refine Below.setCell ?_ ?_ _) | go_size))⟩
  · obtain ⟨ho1, ho2⟩ := Bool.and_eq_true_iff.1 hok
    obtain ⟨⟨e0, e1⟩, p0, p1⟩ := okEph_bd' ho1
    have htb := inB_iff.1 ho2
    obtain ⟨r0, r1, x0, x1⟩ := ph_x (e := e) (t := t) ⟨p0, p1⟩
    obtain ⟨x, hx⟩ : ∃ x : Nat, 1000 * ((t - e) % p) / p = x := ⟨(1000 * ((t - e) % p) / p).toNat, by omega⟩
    have HE := Lib.hid (show (⟨#[48, 46]⟩ : ByteArray) ++ ⟨(three x).toArray⟩ = phS e p t by rw [← phS_eq hok, hx, Int.toNat_natCast])
    have HPH := Lib.hid (fun W => c_l09Phase e p t W ⟨e0, e1⟩ ⟨p0, p1⟩ htb)
    have hx1 : x < 1000 := by omega
    obtain ⟨q, hq⟩ : ∃ q, q = (t - e) % p := ⟨_, rfl⟩
    rw [← hq] at r0 r1 hx HPH
    have w1' : IntKind.i64.wrap (1000 * q) = 1000 * q := IntWalk.i64_in _ (by omega)
    have w2' : IntKind.i64.wrap ((1000 * q).tdiv p) = x := by rw [quo_in (by omega) (by omega) p0, hx]
    have pz : ¬ p = 0 := by omega
    have s1 : (⟨(three x).toArray⟩ : ByteArray).size ≤ 3 := by rw [size_l]; simp [three]
    have s2 : (⟨#[48, 46]⟩ : ByteArray).size = 2 := rfl
    have a1 := add_run (P := Tryd.prog) ⟨#[48, 46]⟩ ⟨(three x).toArray⟩ (by omega) (by omega)
    clear s1 s2 x0 x1 hq hx
    have hcz : (ephCode e p t != 0) = false := by
      unfold ephCode
      rw [(Bool.and_eq_true_iff.1 hok).1, (Bool.and_eq_true_iff.1 hok).2]; rfl
    go_enter Tryd.func18, Tryd.ntmps18
    go_wp2_with (first | (go_at_call 47; refine (c_l09Code e p t _).mono ?_; rintro e w1 ⟨rfl, hb1⟩; obtain ⟨chb1, fhb1⟩ := Base.bcell hb1; have zhb1 := (hb1).size; (try simp at zhb1); (try have yhb1 : w.heap.size < (w1).heap.size := by omega)))
    have k0 : World.cell? w1 ⟨w.heap.size, 0, none⟩ = some (.int .i64 e) := ((hb1.cell (p := ⟨w.heap.size, 0, none⟩) (by first | (simp; done) | (simp; omega) | omega)).trans (by simp [go_sem]))
    have k1 : World.cell? w1 ⟨w.heap.size, 1, none⟩ = some (.int .i64 p) := ((hb1.cell (p := ⟨w.heap.size, 1, none⟩) (by first | (simp; done) | (simp; omega) | omega)).trans (by simp [go_sem]))
    have hbw : Below w.heap.size w w1 := (by repeat' (first | (with_reducible exact Below.refl _ _) | (with_reducible assumption) | (with_reducible refine Base.via hb1 ?_) | (with_reducible refine Base.grow_alloc ?_ _) | (with_reducible refine Base.below_drewN ?_ _) | (with_reducible refine Below.drew ?_) | (with_reducible refine Below.setCell ?_ ?_ _) | go_size))
    clear chb1 fhb1
    go_region_held3 (fun W => W.cell? ⟨w.heap.size, 0, none⟩ = some (.int .i64 e) ∧ W.cell? ⟨w.heap.size, 1, none⟩ = some (.int .i64 p))
      (first | exact ⟨cell_drew k0, cell_drew k1⟩ | exact ⟨cell_call hb4 (‹World.cell? _ _ = some _ ∧ World.cell? _ _ = some _›).1, cell_call hb4 (‹World.cell? _ _ = some _ ∧ World.cell? _ _ = some _›).2⟩ | exact ⟨cell_call hb5 (‹World.cell? _ _ = some _ ∧ World.cell? _ _ = some _›).1, cell_call hb5 (‹World.cell? _ _ = some _ ∧ World.cell? _ _ = some _›).2⟩)
      (first | (go_at_call 49; refine Calls.mono (HPH.out _) ?_; rintro r w4 ⟨rfl, hb4⟩) | (go_at_call 48; refine (c_l02Three (x : Int) _ (by omega) (by omega)).mono ?_; rintro r w5 ⟨rfl, hb5⟩))
    all_goals
      clear w1' w2'
      go_wp2
      go_ret
      exact ⟨ret_str HE.out, (by repeat' (first | (with_reducible exact Below.refl _ _) | (with_reducible assumption) | (with_reducible refine Base.via hb5 ?_) | (with_reducible refine Base.via hb4 ?_) | (with_reducible refine Base.via hbw ?_) | (with_reducible refine Base.grow_alloc ?_ _) | (with_reducible refine Base.below_drewN ?_ _) | (with_reducible refine Below.drew ?_) | (with_reducible refine Below.setCell ?_ ?_ _) | go_size))⟩
end Go.Proofs.YtpkkeoapndpikaaDoor.Txt
