/- Texts of ephemerides, labels, marks and phases. -/
import Derived.Test.YthojfmlnnclghaaGreatDoorDec
import Derived.Test.YthojfmlnnclghaaGreatDoorEph
import Derived.Test.YthojfmlnnclghaaGreatDoorChart
import Derived.Test.YthojfmlnnclghaaGreatDoorFrac
import Derived.Deep.RegionHeld3
namespace Go.Proofs.YthojfmlnnclghaaGreatDoor.Txt
set_option linter.unusedVariables false
set_option linter.unusedSimpArgs false
set_option maxRecDepth 8000
open Go.RowKit Plain Num View Eph Chart Frac Dec

/-- the bytes of a text -/
def sLen : Value → Nat
  | .string b => b.size
  | _ => 0
theorem ret_v {a b : Value} (h : a = b) : Ending.returned a = .returned b := by rw [h]
theorem ba_app (a b : List UInt8) : (⟨a.toArray⟩ : ByteArray) ++ ⟨b.toArray⟩ = ⟨(a ++ b).toArray⟩ := by
  apply ByteArray.ext
  rw [ByteArray.data_append]
  simp
theorem ret_str {a b : ByteArray} (h : a = b) : Ending.returned (.string a) = .returned (.string b) := by rw [h]
theorem three_int {u : Nat} (h : u < 1000) : Lib.itoa ((u : Int) / 100) ++ Lib.itoa ((u : Int) / 10 % 10) ++ Lib.itoa ((u : Int) % 10) = three u := by
  rw [← three_spec h, show (u : Int) / 100 = ((u / 100 : Nat) : Int) by omega, show (u : Int) / 10 % 10 = ((u / 10 % 10 : Nat) : Int) by omega, show (u : Int) % 10 = ((u % 10 : Nat) : Int) by omega]
theorem dec_len {u : Nat} (h : u < 1000) : (Lib.itoa (u : Int)).length ≤ 3 := by
  rw [itoaN]
  by_cases c : u < 10
  · rw [dec1 c]; simp
  · by_cases c2 : u < 100
    · rw [dec2 (by omega) c2]; simp
    · rw [dec3 (by omega) h]; simp
theorem c_padded (u : Nat) (w : World) (ht : Tb w) (hu : u < 1000) :
    Calls Tryz.prog 57 #[.int .i64 u, .int .i64 3] w fun e w' => e = .returned (.string ⟨(three u).toArray⟩) ∧ Below w.heap.size w w' := by
  have HP := Lib.hid (three_pad hu)
  have hl := dec_len hu
  go_enter Tryz.func57, Tryz.ntmps57
  go_wp2_with (first | (go_at_call 30; refine (c_Decimal _ _ ht (by omega) (by omega)).mono ?_; rintro e w1 ⟨rfl, hb1⟩; obtain ⟨chb1, fhb1⟩ := Base.bcell hb1; have zhb1 := (hb1).size; (try simp at zhb1); (try have yhb1 : w.heap.size < (w1).heap.size := by omega)))
  go_loopw [5] (fun s wr => ∃ l : List UInt8, s = .string ⟨l.toArray⟩ ∧ l.length ≤ 3 ∧ Hid (padL (3 - l.length) l = three u) ∧ Below w1.heap.size w1 wr) (fun s _ => 3 - sLen s)
  case atStart => exact ⟨_, rfl, hl, HP.out, (by repeat' (first | (with_reducible exact Below.refl _ _) | (with_reducible assumption) | (with_reducible refine Base.grow_alloc ?_ _) | (with_reducible refine Base.below_drewN ?_ _) | (with_reducible refine Below.drew ?_) | (with_reducible refine Below.setCell ?_ ?_ _) | go_size))⟩
  case round =>
    obtain ⟨l, rfl, hll, hpad, hbr⟩ := hrel
    by_cases h3 : l.length < 3
    · have HQ := Lib.hid (show padL (3 - (48 :: l).length) (48 :: l) = three u by
        rw [← hpad.out, show 3 - l.length = (3 - (48 :: l).length) + 1 by simp; omega]; rfl)
      go_wp2
      go_roundw
      case rel => exact ⟨48 :: l, congrArg Value.string (ba_app [48] l), by simp; omega, HQ.out, hbr⟩
      case measure => simp [sLen, ByteArray.size]; omega
    · have HQ := Lib.hid (show l = three u by rw [← hpad.out, show 3 - l.length = 0 by omega]; rfl)
      go_wp2
      go_ret
      exact ⟨by rw [← HQ.out]; rfl, (by repeat' (first | (with_reducible exact Below.refl _ _) | (with_reducible assumption) | (with_reducible refine Base.via hbr ?_) | (with_reducible refine Base.via hb1 ?_) | (with_reducible refine Base.grow_alloc ?_ _) | (with_reducible refine Base.below_drewN ?_ _) | (with_reducible refine Below.drew ?_) | (with_reducible refine Below.setCell ?_ ?_ _) | go_size))⟩
theorem c_l02Three (n : Int) (w : World) (h0 : 0 ≤ n) (h1 : n < 1000) :
    Calls Tryz.prog 65 #[.int .i64 n] w fun e w' => e = .returned (.string ⟨(three n.toNat).toArray⟩) ∧ Below w.heap.size w w' := by
  have HP := Lib.hid (three_int (u := n.toNat) (by omega))
  rw [show ((n.toNat : Nat) : Int) = n by omega] at HP
  have q1 : (Lib.itoa (n / 100)).length ≤ 21 := Lib.itoa_length_le _ (by omega) (by omega)
  have q2 : (Lib.itoa (n / 10 % 10)).length ≤ 21 := Lib.itoa_length_le _ (by omega) (by omega)
  have q3 : (Lib.itoa (n % 10)).length ≤ 21 := Lib.itoa_length_le _ (by omega) (by omega)
  go_enter Tryz.func65, Tryz.ntmps65
  go_wp2_with fail
  refine (c_l01Dec _ _ (by omega) (by omega)).mono ?_
  rintro e w1 ⟨rfl, hb1⟩
  go_wp2_with fail
  refine (c_l01Dec _ _ (by omega) (by omega)).mono ?_
  rintro e w2 ⟨rfl, hb2⟩
  go_wp2_with fail
  refine (c_l01Dec _ _ (by omega) (by omega)).mono ?_
  rintro e w3 ⟨rfl, hb3⟩
  go_wp2
  go_ret
  exact ⟨ret_str (by rw [ba_app, ba_app, HP.out]), (by repeat' (first | (with_reducible exact Below.refl _ _) | (with_reducible assumption) | (with_reducible refine Base.via hb3 ?_) | (with_reducible refine Base.via hb2 ?_) | (with_reducible refine Base.via hb1 ?_) | (with_reducible refine Base.grow_alloc ?_ _) | (with_reducible refine Base.below_drewN ?_ _) | (with_reducible refine Below.drew ?_) | (with_reducible refine Below.setCell ?_ ?_ _) | go_size))⟩
theorem add_run {P : Program} (x y : ByteArray) (hx : x.size ≤ 1000) (hy : y.size ≤ 1000) : ∀ W : World, (Op.stringOp .add x y).run P W = .ok (.string (x ++ y)) W := fun W => run_string_add_sum W x y (by omega)
theorem size_l (l : List UInt8) : (⟨l.toArray⟩ : ByteArray).size = l.length := by simp [ByteArray.size]
theorem size_app (x y : ByteArray) : (x ++ y).size = x.size + y.size := by simp
def ephS (e p : Int) : ByteArray := if okEph e p = true then ⟨(Lib.itoa e ++ [32, 43, 32] ++ Lib.itoa p ++ [32, 42, 32, 69]).toArray⟩ else ⟨#[]⟩
theorem ephS_eq {e p : Int} (h : okEph e p = true) : (⟨(Lib.itoa e).toArray⟩ : ByteArray) ++ ⟨#[32, 43, 32]⟩ ++ ⟨(Lib.itoa p).toArray⟩ ++ ⟨#[32, 42, 32, 69]⟩ = ephS e p := by
  rw [ephS, if_pos h, ← ba_app, ← ba_app, ← ba_app]
theorem ephS_no {e p : Int} (h : okEph e p = false) : ephS e p = ⟨#[]⟩ := by rw [ephS, h]; rfl
theorem okEph_bd' {e p : Int} (h : okEph e p = true) : (0 ≤ e ∧ e ≤ 10000000) ∧ (1 ≤ p ∧ p ≤ 1000000) := by
  simp only [okEph, Bool.and_eq_true] at h
  exact ⟨inB_iff.1 h.1, inB_iff.1 h.2⟩
def labS (m : Int) : ByteArray := if inB m (-2000) 20000 = true then ⟨(Lib.itoa (nrI m 100)).toArray⟩ else ⟨#[]⟩
theorem lab_bd {m : Int} (h : inB m (-2000) 20000 = true) : -20 ≤ nrI m 100 ∧ nrI m 100 ≤ 200 := by
  obtain ⟨h1, h2⟩ := inB_iff.1 h
  exact ⟨le_nr (by omega) (by omega), nr_le (by omega) (by omega)⟩
end Go.Proofs.YthojfmlnnclghaaGreatDoor.Txt
