/- Texts of ephemerides, labels, marks and phases. -/
import Derived.Test.YtpkkeoapndpikaaDoorDec
import Derived.Test.YtpkkeoapndpikaaDoorEph
import Derived.Test.YtpkkeoapndpikaaDoorChart
import Derived.Test.YtpkkeoapndpikaaDoorFrac
import Derived.Deep.RegionHeld3
namespace Go.Proofs.YtpkkeoapndpikaaDoor.Txt
set_option linter.unusedVariables false
set_option linter.unusedSimpArgs false
set_option maxRecDepth 8000
open Go.RowKit Plain Num View Eph Chart Frac Dec

/-- the bytes of a text -/
def sLen : Value → Nat
  | .string b => b.size
  | _ => 0
theorem ret_v {a b : Value} (h : a = b) : Ending.returned a = .returned b := by rw [h]
theorem ba_app (a b : List UInt8) : (⟨a.toArray⟩ : ByteArray) ++ ⟨b.toArray⟩ = ⟨(a ++ b).toArray⟩ := by
  apply ByteArray.ext
  rw [ByteArray.data_append]
  simp
theorem ret_str {a b : ByteArray} (h : a = b) : Ending.returned (.string a) = .returned (.string b) := by rw [h]
theorem three_int {u : Nat} (h : u < 1000) : Lib.itoa ((u : Int) / 100) ++ Lib.itoa ((u : Int) / 10 % 10) ++ Lib.itoa ((u : Int) % 10) = three u := by
  rw [← three_spec h, show (u : Int) / 100 = ((u / 100 : Nat) : Int) by omega, show (u : Int) / 10 % 10 = ((u / 10 % 10 : Nat) : Int) by omega, show (u : Int) % 10 = ((u % 10 : Nat) : Int) by omega]
theorem dec_len {u : Nat} (h : u < 1000) : (Lib.itoa (u : Int)).length ≤ 3 := by
  rw [itoaN]
  by_cases c : u < 10
  · rw [dec1 c]; simp
  · by_cases c2 : u < 100
    · rw [dec2 (by omega) c2]; simp
    · rw [dec3 (by omega) h]; simp
theorem c_padded (u : Nat) (w : World) (ht : Tb w) (hu : u < 1000) :
    Calls Tryd.prog 51 #[.int .i64 u, .int .i64 3] w fun e w' => e = .returned (.string ⟨(three u).toArray⟩) ∧ Below w.heap.size w w' := by
  have HP := Lib.hid (three_pad hu)
  have hl := dec_len hu
  go_enter Tryd.func51, Tryd.ntmps51
  go_wp2_with (first | (go_at_call 40; refine (c_Decimal _ _ ht (by omega) (by omega)).mono ?_; rintro e w1 ⟨rfl, hb1⟩; obtain ⟨chb1, fhb1⟩ := Base.bcell hb1; have zhb1 := (hb1).size; (try simp at zhb1); (try have yhb1 : w.heap.size < (w1).heap.size := by omega)))
  go_loopw [5] (fun s wr => ∃ l : List UInt8, s = .string ⟨l.toArray⟩ ∧ l.length ≤ 3 ∧ Hid (padL (3 - l.length) l = three u) ∧ Below w1.heap.size w1 wr) (fun s _ => 3 - sLen s)
  case atStart => exact ⟨_, rfl, hl, HP.out, (by repeat' (first | (with_reducible exact Below.refl _ _) | (with_reducible assumption) | (with_reducible refine Base.grow_alloc ?_ _) | (with_reducible refine Base.below_drewN ?_ _) | (with_reducible refine Below.drew ?_) | (with_reducible refine Below.setCell ?_ ?_ _) | go_size))⟩
  case round =>
    obtain ⟨l, rfl, hll, hpad, hbr⟩ := hrel
    by_cases h3 : l.length < 3
    · have HQ := Lib.hid (show padL (3 - (48 :: l).length) (48 :: l) = three u by
        rw [← hpad.out, show 3 - l.length = (3 - (48 :: l).length) + 1 by simp; omega]; rfl)
      go_wp2
      go_roundw
      case rel => exact ⟨48 :: l, congrArg Value.string (ba_app [48] l), by simp; omega, HQ.out, hbr⟩
      case measure => simp [sLen, ByteArray.size]; omega
    · have HQ := Lib.hid (show l = three u by rw [← hpad.out, show 3 - l.length = 0 by omega]; rfl)
      go_wp2
      go_ret
      exact ⟨by rw [← HQ.out]; rfl, (by repeat' (first | (with_reducible exact Below.refl _ _) | (with_reducible assumption) | (with_reducible refine Base.via hbr ?_) | (with_reducible refine Base.via hb1 ?_) | (with_reducible refine Base.grow_alloc ?_ _) | (with_reducible refine Base.below_drewN ?_ _) | (with_reducible refine Below.drew ?_) | (with_reducible refine Below.setCell ?_ ?_ _) | go_size))⟩
theorem c_l02Three (n : Int) (w : World) (h0 : 0 ≤ n) (h1 : n < 1000) :
    Calls Tryd.prog 48 #[.int .i64 n] w fun e w' => e = .returned (.string ⟨(three n.toNat).toArray⟩) ∧ Below w.heap.size w w' := by
  have HP := Lib.hid (three_int (u := n.toNat) (by omega))
  rw [show ((n.toNat : Nat) : Int) = n by omega] at HP
  have q1 : (Lib.itoa (n / 100)).length ≤ 21 := Lib.itoa_length_le _ (by omega) (by omega)
  have q2 : (Lib.itoa (n / 10 % 10)).length ≤ 21 := Lib.itoa_length_le _ (by omega) (by omega)
  have q3 : (Lib.itoa (n % 10)).length ≤ 21 := Lib.itoa_length_le _ (by omega) (by omega)
  go_enter Tryd.func48, Tryd.ntmps48
  go_wp2_with fail
  refine (c_l01Dec _ _ (by omega) (by omega)).mono ?_
  rintro e w1 ⟨rfl, hb1⟩
  go_wp2_with fail
  refine (c_l01Dec _ _ (by omega) (by omega)).mono ?_
  rintro e w2 ⟨rfl, hb2⟩
  go_wp2_with fail
  refine (c_l01Dec _ _ (by omega) (by omega)).mono ?_
  rintro e w3 ⟨rfl, hb3⟩
  go_wp2
  go_ret
  exact ⟨ret_str (by rw [ba_app, ba_app, HP.out]), (by repeat' (first | (with_reducible exact Below.refl _ _) | (with_reducible assumption) | (with_reducible refine Base.via hb3 ?_) | (with_reducible refine Base.via hb2 ?_) | (with_reducible refine Base.via hb1 ?_) | (with_reducible refine Base.grow_alloc ?_ _) | (with_reducible refine Base.below_drewN ?_ _) | (with_reducible refine Below.drew ?_) | (with_reducible refine Below.setCell ?_ ?_ _) | go_size))⟩
theorem add_run {P : Program} (x y : ByteArray) (hx : x.size ≤ 1000) (hy : y.size ≤ 1000) : ∀ W : World, (Op.stringOp .add x y).run P W = .ok (.string (x ++ y)) W := fun W => run_string_add_sum W x y (by omega)
theorem size_l (l : List UInt8) : (⟨l.toArray⟩ : ByteArray).size = l.length := by simp [ByteArray.size]
theorem size_app (x y : ByteArray) : (x ++ y).size = x.size + y.size := by simp
def ephS (e p : Int) : ByteArray := if okEph e p = true then ⟨(Lib.itoa e ++ [32, 43, 32] ++ Lib.itoa p ++ [32, 42, 32, 69]).toArray⟩ else ⟨#[]⟩
theorem ephS_eq {e p : Int} (h : okEph e p = true) : (⟨(Lib.itoa e).toArray⟩ : ByteArray) ++ ⟨#[32, 43, 32]⟩ ++ ⟨(Lib.itoa p).toArray⟩ ++ ⟨#[32, 42, 32, 69]⟩ = ephS e p := by
  rw [ephS, if_pos h, ← ba_app, ← ba_app, ← ba_app]
theorem ephS_no {e p : Int} (h : okEph e p = false) : ephS e p = ⟨#[]⟩ := by rw [ephS, h]; rfl
theorem okEph_bd' {e p : Int} (h : okEph e p = true) : (0 ≤ e ∧ e ≤ 10000000) ∧ (1 ≤ p ∧ p ≤ 1000000) := by
  simp only [okEph, Bool.and_eq_true] at h
  exact ⟨inB_iff.1 h.1, inB_iff.1 h.2⟩
set_option maxHeartbeats 800000 in
theorem c_EphemerisText (e p : Int) (w : World) (ht : Tb w) :
    Calls Tryd.prog 12 #[.agg #[.int .i64 e, .int .i64 p]] w fun r w' => r = .returned (.string (ephS e p)) ∧ Below w.heap.size w w' := by
  have HT := Lib.hid ht
  clear ht
  cases hok : okEph e p
  · have HE := Lib.hid (ephS_no hok)
    go_enter Tryd.func12, Tryd.ntmps12
    go_wp2_with (first | (go_at_call 39; refine (c_ValidEphemeris e p _).mono ?_; rintro e w1 ⟨rfl, hb1⟩; obtain ⟨chb1, fhb1⟩ := Base.bcell hb1; have zhb1 := (hb1).size; (try simp at zhb1); (try have yhb1 : w.heap.size < (w1).heap.size := by omega)))
    go_ret
    exact ⟨ret_str HE.out.symm, (by repeat' (first | (with_reducible exact Below.refl _ _) | (with_reducible assumption) | (with_reducible refine Base.via hb1 ?_) | (with_reducible refine Base.grow_alloc ?_ _) | (with_reducible refine Base.below_drewN ?_ _) | (with_reducible refine Below.drew ?_) | (with_reducible refine Below.setCell ?_ ?_ _) | go_size))⟩
  · obtain ⟨⟨e0, e1⟩, p0, p1⟩ := okEph_bd' hok
    have HE := Lib.hid (ephS_eq hok)
    have q1 : (Lib.itoa e).length ≤ 21 := Lib.itoa_length_le _ (by omega) (by omega)
    have q2 : (Lib.itoa p).length ≤ 21 := Lib.itoa_length_le _ (by omega) (by omega)
    go_enter Tryd.func12, Tryd.ntmps12
    go_wp2_with (first | (go_at_call 39; refine (c_ValidEphemeris e p _).mono ?_; rintro e w1 ⟨rfl, hb1⟩; obtain ⟨chb1, fhb1⟩ := Base.bcell hb1; have zhb1 := (hb1).size; (try simp at zhb1); (try have yhb1 : w.heap.size < (w1).heap.size := by omega)))
    have k0 : World.cell? w1 ⟨w.heap.size, 0, none⟩ = some (.int .i64 e) := ((hb1.cell (p := ⟨w.heap.size, 0, none⟩) (by first | (simp; done) | (simp; omega) | omega)).trans (by simp [go_sem]))
    have k1 : World.cell? w1 ⟨w.heap.size, 1, none⟩ = some (.int .i64 p) := ((hb1.cell (p := ⟨w.heap.size, 1, none⟩) (by first | (simp; done) | (simp; omega) | omega)).trans (by simp [go_sem]))
    have hbw : Below w.heap.size w w1 := (by repeat' (first | (with_reducible exact Below.refl _ _) | (with_reducible assumption) | (with_reducible refine Base.via hb1 ?_) | (with_reducible refine Base.grow_alloc ?_ _) | (with_reducible refine Base.below_drewN ?_ _) | (with_reducible refine Below.drew ?_) | (with_reducible refine Below.setCell ?_ ?_ _) | go_size))
    have HTB := Lib.hid (HT.out.below hbw)
    clear chb1 fhb1
    have s1 : (⟨(Lib.itoa e).toArray⟩ : ByteArray).size ≤ 21 := by rw [size_l]; exact q1
    have s2 : (⟨(Lib.itoa p).toArray⟩ : ByteArray).size ≤ 21 := by rw [size_l]; exact q2
    have s3 : (⟨#[32, 43, 32]⟩ : ByteArray).size = 3 := rfl
    have s4 : (⟨#[32, 42, 32, 69]⟩ : ByteArray).size = 4 := rfl
    have a1 := add_run (P := Tryd.prog) ⟨(Lib.itoa e).toArray⟩ ⟨#[32, 43, 32]⟩ (by omega) (by omega)
    have a2 := add_run (P := Tryd.prog) (⟨(Lib.itoa e).toArray⟩ ++ ⟨#[32, 43, 32]⟩) ⟨(Lib.itoa p).toArray⟩ (by rw [size_app]; omega) (by omega)
    have a3 := add_run (P := Tryd.prog) (⟨(Lib.itoa e).toArray⟩ ++ ⟨#[32, 43, 32]⟩ ++ ⟨(Lib.itoa p).toArray⟩) ⟨#[32, 42, 32, 69]⟩ (by rw [size_app, size_app]; omega) (by omega)
    clear s1 s2 s3 s4
    go_region_held3 (fun W => W.cell? ⟨w.heap.size, 0, none⟩ = some (.int .i64 e) ∧ W.cell? ⟨w.heap.size, 1, none⟩ = some (.int .i64 p))
      (first | exact ⟨cell_drew k0, cell_drew k1⟩ | exact ⟨cell_call hb4 (‹World.cell? _ _ = some _ ∧ World.cell? _ _ = some _›).1, cell_call hb4 (‹World.cell? _ _ = some _ ∧ World.cell? _ _ = some _›).2⟩ | exact ⟨cell_call hb5 (‹World.cell? _ _ = some _ ∧ World.cell? _ _ = some _›).1, cell_call hb5 (‹World.cell? _ _ = some _ ∧ World.cell? _ _ = some _›).2⟩)
      (first | (go_at_call_of 40 (Value.int .i64 p); refine (c_Decimal p _ (HTB.out.below (by repeat' (first | (with_reducible exact Below.refl _ _) | (with_reducible assumption) | (with_reducible refine Base.via hb4 ?_) | (with_reducible refine Base.grow_alloc ?_ _) | (with_reducible refine Base.below_drewN ?_ _) | (with_reducible refine Below.drew ?_) | (with_reducible refine Below.setCell ?_ ?_ _) | go_size))) (by omega) (by omega)).mono ?_; rintro r w5 ⟨rfl, hb5⟩) | (go_at_call_of 40 (Value.int .i64 e); refine (c_Decimal e _ (HTB.out.below (by repeat' (first | (with_reducible exact Below.refl _ _) | (with_reducible assumption) | (with_reducible refine Base.grow_alloc ?_ _) | (with_reducible refine Base.below_drewN ?_ _) | (with_reducible refine Below.drew ?_) | (with_reducible refine Below.setCell ?_ ?_ _) | go_size))) (by omega) (by omega)).mono ?_; rintro r w4 ⟨rfl, hb4⟩))
    all_goals
      go_wp2
      go_ret
      exact ⟨ret_str HE.out, (by repeat' (first | (with_reducible exact Below.refl _ _) | (with_reducible assumption) | (with_reducible refine Base.via hb5 ?_) | (with_reducible refine Base.via hb4 ?_) | (with_reducible refine Base.via hbw ?_) | (with_reducible refine Base.grow_alloc ?_ _) | (with_reducible refine Base.below_drewN ?_ _) | (with_reducible refine Below.drew ?_) | (with_reducible refine Below.setCell ?_ ?_ _) | go_size))⟩
set_option maxHeartbeats 800000 in
theorem c_specEphemerisText (e p : Int) (w : World) :
    Calls Tryd.prog 10 #[.agg #[.int .i64 e, .int .i64 p]] w fun r w' => r = .returned (.string (ephS e p)) ∧ Below w.heap.size w w' := by
  cases hok : okEph e p
  · have HE := Lib.hid (ephS_no hok)
    go_enter Tryd.func10, Tryd.ntmps10
    go_wp2_with (first | (go_at_call 37; refine (c_l09Ok e p _).mono ?_; rintro e w1 ⟨rfl, hb1⟩; obtain ⟨chb1, fhb1⟩ := Base.bcell hb1; have zhb1 := (hb1).size; (try simp at zhb1); (try have yhb1 : w.heap.size < (w1).heap.size := by omega)))
    go_ret
    exact ⟨ret_str HE.out.symm, (by repeat' (first | (with_reducible exact Below.refl _ _) | (with_reducible assumption) | (with_reducible refine Base.via hb1 ?_) | (with_reducible refine Base.grow_alloc ?_ _) | (with_reducible refine Base.below_drewN ?_ _) | (with_reducible refine Below.drew ?_) | (with_reducible refine Below.setCell ?_ ?_ _) | go_size))⟩
  · obtain ⟨⟨e0, e1⟩, p0, p1⟩ := okEph_bd' hok
    have HE := Lib.hid (ephS_eq hok)
    have q1 : (Lib.itoa e).length ≤ 21 := Lib.itoa_length_le _ (by omega) (by omega)
    have q2 : (Lib.itoa p).length ≤ 21 := Lib.itoa_length_le _ (by omega) (by omega)
    go_enter Tryd.func10, Tryd.ntmps10
    go_wp2_with (first | (go_at_call 37; refine (c_l09Ok e p _).mono ?_; rintro e w1 ⟨rfl, hb1⟩; obtain ⟨chb1, fhb1⟩ := Base.bcell hb1; have zhb1 := (hb1).size; (try simp at zhb1); (try have yhb1 : w.heap.size < (w1).heap.size := by omega)))
    have k0 : World.cell? w1 ⟨w.heap.size, 0, none⟩ = some (.int .i64 e) := ((hb1.cell (p := ⟨w.heap.size, 0, none⟩) (by first | (simp; done) | (simp; omega) | omega)).trans (by simp [go_sem]))
    have k1 : World.cell? w1 ⟨w.heap.size, 1, none⟩ = some (.int .i64 p) := ((hb1.cell (p := ⟨w.heap.size, 1, none⟩) (by first | (simp; done) | (simp; omega) | omega)).trans (by simp [go_sem]))
    have hbw : Below w.heap.size w w1 := (by repeat' (first | (with_reducible exact Below.refl _ _) | (with_reducible assumption) | (with_reducible refine Base.via hb1 ?_) | (with_reducible refine Base.grow_alloc ?_ _) | (with_reducible refine Base.below_drewN ?_ _) | (with_reducible refine Below.drew ?_) | (with_reducible refine Below.setCell ?_ ?_ _) | go_size))
    clear chb1 fhb1
    have s1 : (⟨(Lib.itoa e).toArray⟩ : ByteArray).size ≤ 21 := by rw [size_l]; exact q1
    have s2 : (⟨(Lib.itoa p).toArray⟩ : ByteArray).size ≤ 21 := by rw [size_l]; exact q2
    have s3 : (⟨#[32, 43, 32]⟩ : ByteArray).size = 3 := rfl
    have s4 : (⟨#[32, 42, 32, 69]⟩ : ByteArray).size = 4 := rfl
    have a1 := add_run (P := Tryd.prog) ⟨(Lib.itoa e).toArray⟩ ⟨#[32, 43, 32]⟩ (by omega) (by omega)
    have a2 := add_run (P := Tryd.prog) (⟨(Lib.itoa e).toArray⟩ ++ ⟨#[32, 43, 32]⟩) ⟨(Lib.itoa p).toArray⟩ (by rw [size_app]; omega) (by omega)
    have a3 := add_run (P := Tryd.prog) (⟨(Lib.itoa e).toArray⟩ ++ ⟨#[32, 43, 32]⟩ ++ ⟨(Lib.itoa p).toArray⟩) ⟨#[32, 42, 32, 69]⟩ (by rw [size_app, size_app]; omega) (by omega)
    clear s1 s2 s3 s4
    go_region_held3 (fun W => W.cell? ⟨w.heap.size, 0, none⟩ = some (.int .i64 e) ∧ W.cell? ⟨w.heap.size, 1, none⟩ = some (.int .i64 p))
      (first | exact ⟨cell_drew k0, cell_drew k1⟩ | exact ⟨cell_call hb4 (‹World.cell? _ _ = some _ ∧ World.cell? _ _ = some _›).1, cell_call hb4 (‹World.cell? _ _ = some _ ∧ World.cell? _ _ = some _›).2⟩ | exact ⟨cell_call hb5 (‹World.cell? _ _ = some _ ∧ World.cell? _ _ = some _›).1, cell_call hb5 (‹World.cell? _ _ = some _ ∧ World.cell? _ _ = some _›).2⟩)
      (first | (go_at_call_of 38 (Value.int .i64 p); refine (c_l01Dec p _ (by omega) (by omega)).mono ?_; rintro r w5 ⟨rfl, hb5⟩) | (go_at_call_of 38 (Value.int .i64 e); refine (c_l01Dec e _ (by omega) (by omega)).mono ?_; rintro r w4 ⟨rfl, hb4⟩))
    all_goals
      go_wp2
      go_ret
      exact ⟨ret_str HE.out, (by repeat' (first | (with_reducible exact Below.refl _ _) | (with_reducible assumption) | (with_reducible refine Base.via hb5 ?_) | (with_reducible refine Base.via hb4 ?_) | (with_reducible refine Base.via hbw ?_) | (with_reducible refine Base.grow_alloc ?_ _) | (with_reducible refine Base.below_drewN ?_ _) | (with_reducible refine Below.drew ?_) | (with_reducible refine Below.setCell ?_ ?_ _) | go_size))⟩
def labS (m : Int) : ByteArray := if inB m (-2000) 20000 = true then ⟨(Lib.itoa (nrI m 100)).toArray⟩ else ⟨#[]⟩
theorem lab_bd {m : Int} (h : inB m (-2000) 20000 = true) : -20 ≤ nrI m 100 ∧ nrI m 100 ≤ 200 := by
  obtain ⟨h1, h2⟩ := inB_iff.1 h
  exact ⟨le_nr (by omega) (by omega), nr_le (by omega) (by omega)⟩
theorem c_LabelOf (m : Int) (w : World) (ht : Tb w) :
    Calls Tryd.prog 14 #[.int .i64 m] w fun r w' => r = .returned (.string (labS m)) ∧ Below w.heap.size w w' := by
  have HT := Lib.hid ht
  clear ht
  cases hok : inB m (-2000) 20000
  · have HE := Lib.hid (show labS m = ⟨#[]⟩ by rw [labS, hok]; rfl)
    go_enter Tryd.func14, Tryd.ntmps14
    go_wp2_with (first | (go_at_call 43; refine (c_ValidMag _ _).mono ?_; rintro e w' ⟨rfl, rfl⟩))
    go_ret
    exact ⟨ret_str HE.out.symm, (by repeat' (first | (with_reducible exact Below.refl _ _) | (with_reducible assumption) | (with_reducible refine Base.grow_alloc ?_ _) | (with_reducible refine Base.below_drewN ?_ _) | (with_reducible refine Below.drew ?_) | (with_reducible refine Below.setCell ?_ ?_ _) | go_size))⟩
  · have hm := inB_iff.1 hok
    have hb := lab_bd hok
    have HE := Lib.hid (show labS m = ⟨(Lib.itoa (nrI m 100)).toArray⟩ by rw [labS, if_pos hok])
    go_enter Tryd.func14, Tryd.ntmps14
    go_wp2_with (first | (go_at_call 43; refine (c_ValidMag _ _).mono ?_; rintro e w' ⟨rfl, rfl⟩) | (go_at_call 44; refine (c_nearest m 100 _ (by omega) (by omega) (by omega) (by omega)).mono ?_; rintro e w' ⟨rfl, rfl⟩) | (go_at_call 40; refine (c_Decimal _ _ HT.out (by omega) (by omega)).mono ?_; rintro e w1 ⟨rfl, hb1⟩; obtain ⟨chb1, fhb1⟩ := Base.bcell hb1; have zhb1 := (hb1).size; (try simp at zhb1); (try have yhb1 : w.heap.size < (w1).heap.size := by omega)))
    go_ret
    exact ⟨ret_str HE.out.symm, (by repeat' (first | (with_reducible exact Below.refl _ _) | (with_reducible assumption) | (with_reducible refine Base.via hb1 ?_) | (with_reducible refine Base.grow_alloc ?_ _) | (with_reducible refine Base.below_drewN ?_ _) | (with_reducible refine Below.drew ?_) | (with_reducible refine Below.setCell ?_ ?_ _) | go_size))⟩
theorem c_l07Label (m : Int) (w : World) (hok : inB m (-2000) 20000 = true) :
    Calls Tryd.prog 42 #[.int .i64 m] w fun r w' => r = .returned (.string (labS m)) ∧ Below w.heap.size w w' := by
  have hm := inB_iff.1 hok
  have hb := lab_bd hok
  have HE := Lib.hid (show labS m = ⟨(Lib.itoa (nrI m 100)).toArray⟩ by rw [labS, if_pos hok])
  go_enter Tryd.func42, Tryd.ntmps42
  go_wp2_with (first | (go_at_call 71; refine (c_l02Round m 100 _ (by omega) (by omega) (by omega) (by omega)).mono ?_; rintro e w' ⟨rfl, rfl⟩) | (go_at_call 38; refine (c_l01Dec _ _ (by omega) (by omega)).mono ?_; rintro e w1 ⟨rfl, hb1⟩; obtain ⟨chb1, fhb1⟩ := Base.bcell hb1; have zhb1 := (hb1).size; (try simp at zhb1); (try have yhb1 : w.heap.size < (w1).heap.size := by omega)))
  go_ret
  exact ⟨ret_str HE.out.symm, (by repeat' (first | (with_reducible exact Below.refl _ _) | (with_reducible assumption) | (with_reducible refine Base.via hb1 ?_) | (with_reducible refine Base.grow_alloc ?_ _) | (with_reducible refine Base.below_drewN ?_ _) | (with_reducible refine Below.drew ?_) | (with_reducible refine Below.setCell ?_ ?_ _) | go_size))⟩
theorem c_specLabelOf (m : Int) (w : World) :
    Calls Tryd.prog 13 #[.int .i64 m] w fun r w' => r = .returned (.string (labS m)) ∧ Below w.heap.size w w' := by
  cases hok : inB m (-2000) 20000
  · have HE := Lib.hid (show labS m = ⟨#[]⟩ by rw [labS, hok]; rfl)
    go_enter Tryd.func13, Tryd.ntmps13
    go_wp2_with (first | (go_at_call 41; refine (c_l02Mag _ _).mono ?_; rintro e w' ⟨rfl, rfl⟩))
    go_ret
    exact ⟨ret_str HE.out.symm, (by repeat' (first | (with_reducible exact Below.refl _ _) | (with_reducible assumption) | (with_reducible refine Base.grow_alloc ?_ _) | (with_reducible refine Base.below_drewN ?_ _) | (with_reducible refine Below.drew ?_) | (with_reducible refine Below.setCell ?_ ?_ _) | go_size))⟩
  · go_enter Tryd.func13, Tryd.ntmps13
    go_wp2_with (first | (go_at_call 41; refine (c_l02Mag _ _).mono ?_; rintro e w' ⟨rfl, rfl⟩) | (go_at_call 42; refine (c_l07Label m _ hok).mono ?_; rintro e w1 ⟨rfl, hb1⟩; obtain ⟨chb1, fhb1⟩ := Base.bcell hb1; have zhb1 := (hb1).size; (try simp at zhb1); (try have yhb1 : w.heap.size < (w1).heap.size := by omega)))
    go_ret
    exact ⟨rfl, (by repeat' (first | (with_reducible exact Below.refl _ _) | (with_reducible assumption) | (with_reducible refine Base.via hb1 ?_) | (with_reducible refine Base.grow_alloc ?_ _) | (with_reducible refine Base.below_drewN ?_ _) | (with_reducible refine Below.drew ?_) | (with_reducible refine Below.setCell ?_ ?_ _) | go_size))⟩
end Go.Proofs.YtpkkeoapndpikaaDoor.Txt
