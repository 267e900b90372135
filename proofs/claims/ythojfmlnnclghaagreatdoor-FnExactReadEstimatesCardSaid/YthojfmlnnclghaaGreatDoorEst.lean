/- Estimates in memory; the marks of the laws on them. -/
import Derived.Test.YthojfmlnnclghaaGreatDoorBase
import Derived.Test.YthojfmlnnclghaaGreatDoorView
import Derived.Test.YthojfmlnnclghaaGreatDoorNum
import Derived.Test.YthojfmlnnclghaaGreatDoorHelp
import Derived.BigQuiet
import Derived.Deep.QuietTactic
import Derived.Deep.RegionHeld3
namespace Go.Proofs.YthojfmlnnclghaaGreatDoor.Est
set_option linter.unusedVariables false
set_option linter.unusedSimpArgs false
set_option maxRecDepth 8000
open Go.RowKit Plain Num View

structure E5 where
  t : Int
  s : ByteArray
  o : ByteArray
  m : Int
  b : Bool
def est (e : E5) : Value := .agg #[.int .i64 e.t, .string e.s, .string e.o, .int .i64 e.m, .bool e.b]
def f5 (E : Nat → E5) : Nat → Nat → Value := fun i j => if j = 0 then .int .i64 (E i).t else if j = 1 then .string (E i).s else if j = 2 then .string (E i).o else if j = 3 then .int .i64 (E i).m else .bool (E i).b
theorem cells5 {w : World} {b off n : Nat} {E : Nat → E5} (h : ∀ i, i < n → ∀ j, j < 5 → w.cell? ⟨b, off + i * 5 + j, none⟩ = some (f5 E i j)) (i : Nat) (hi : i < n) :
    w.cell? ⟨b, off + i * 5, none⟩ = some (.int .i64 (E i).t) ∧ w.cell? ⟨b, off + i * 5 + 1, none⟩ = some (.string (E i).s) ∧ w.cell? ⟨b, off + i * 5 + 2, none⟩ = some (.string (E i).o) ∧ w.cell? ⟨b, off + i * 5 + 3, none⟩ = some (.int .i64 (E i).m) ∧ w.cell? ⟨b, off + i * 5 + 4, none⟩ = some (.bool (E i).b) :=
  ⟨h i hi 0 (by omega), h i hi 1 (by omega), h i hi 2 (by omega), h i hi 3 (by omega), h i hi 4 (by omega)⟩

theorem ret_str {a b : ByteArray} (h : a = b) : Ending.returned (.string a) = .returned (.string b) := by rw [h]
theorem size_l (l : List UInt8) : (⟨l.toArray⟩ : ByteArray).size = l.length := by simp [ByteArray.size]
theorem ba_app' (x y : ByteArray) : x ++ y = ⟨(x.data.toList ++ y.data.toList).toArray⟩ := by
  apply ByteArray.ext
  simp
/-- the text of a mark -/
def mtD (k : Nat) (acc : List UInt8) : List UInt8 := if h : k = 0 then acc else mtD (k / 10) (UInt8.ofNat (48 + k % 10) :: acc)
termination_by k
decreasing_by omega
def mT (k : Nat) : ByteArray := if k = 0 then ⟨#[109, 48]⟩ else ⟨(109 :: mtD k []).toArray⟩
theorem mtD_step {k : Nat} (h : k ≠ 0) (acc : List UInt8) : mtD k acc = mtD (k / 10) (UInt8.ofNat (48 + k % 10) :: acc) := by rw [mtD, dif_neg h]
theorem mtD_zero (acc : List UInt8) : mtD 0 acc = acc := by rw [mtD, dif_pos rfl]
set_option maxHeartbeats 1600000 in
theorem c_markText (k : Nat) (hk : k ≤ 100000000) (w : World) : Calls Tryz.prog 20 #[.int .i64 k] w fun e w' => e = .returned (.string (mT k)) ∧ Below w.heap.size w w' := by
  by_cases h0 : k = 0
  · subst h0
    go_enter Tryz.func20, Tryz.ntmps20
    go_wp2
    go_ret
    exact ⟨rfl, (by repeat' (first | (with_reducible exact Below.refl _ _) | (with_reducible assumption) | (with_reducible refine Base.grow_alloc ?_ _) | (with_reducible refine Base.below_drewN ?_ _) | (with_reducible refine Below.drew ?_) | (with_reducible refine Below.setCell ?_ ?_ _) | go_size))⟩
  · have HR : Hid (mT k = ⟨(109 :: mtD k []).toArray⟩) := Lib.hid (by rw [mT, if_neg h0])
    go_enter Tryz.func20, Tryz.ntmps20
    go_wp2
    go_loopw [0, 3] (fun q v wr => ∃ (j : Nat) (acc : List UInt8), j ≤ k ∧ q = .int .i64 j ∧ v = .string ⟨acc.toArray⟩ ∧ Hid (mtD j acc = mtD k []) ∧ acc.length + j ≤ k ∧ Below w.heap.size w wr) (fun q _ _ => (intOf q).toNat)
    case atStart => exact ⟨k, [], Nat.le_refl _, rfl, rfl, (show mtD k [] = mtD k [] from rfl), by simp, (by repeat' (first | (with_reducible exact Below.refl _ _) | (with_reducible assumption) | (with_reducible refine Base.grow_alloc ?_ _) | (with_reducible refine Base.below_drewN ?_ _) | (with_reducible refine Below.drew ?_) | (with_reducible refine Below.setCell ?_ ?_ _) | go_size))⟩
    case round =>
      obtain ⟨j, acc, hj, rfl, rfl, hm, hac, hbr⟩ := hrel
      by_cases hpos : 0 < j
      · have HM := Lib.hid ((mtD_step (by omega) acc).symm.trans hm.out)
        have e1 : (j : Int).tmod 10 = ((j % 10 : Nat) : Int) := Int.ofNat_tmod j 10
        have e2 : (j : Int).tdiv 10 = ((j / 10 : Nat) : Int) := Int.ofNat_tdiv j 10
        have hd0 : (UInt8.ofNat (48 + j % 10)).toNat = 48 + j % 10 := by
          rw [UInt8.toNat_ofNat']
          omega
        obtain ⟨d, hdd⟩ : ∃ d : UInt8, UInt8.ofNat (48 + j % 10) = d := ⟨_, rfl⟩
        rw [hdd] at hd0 HM
        have hd := hd0
        clear hdd hd0
        have hcv : (convert 60 9 (.slice (some ⟨wr.heap.size, 0, none⟩) 1 1)).run Tryz.prog (wr.alloc (.cells #[.int .u8 (48 + (j : Int) % 10)] 5)) = .ok (.string ⟨#[d]⟩) (wr.alloc (.cells #[.int .u8 (48 + (j : Int) % 10)] 5)) :=
          run_convert_bytes_back (P := Tryz.prog) _ 60 9 5 ⟨wr.heap.size, 0, none⟩ 1 [d] Tryz.underlying60 Tryz.underlying5 Tryz.underlying9 (fun q hq => by
            obtain rfl : q = 0 := by simpa using hq
            have e5 : ((⟨wr.heap.size, 0, none⟩ : Addr).add 0) = ⟨wr.heap.size, 0, none⟩ := by rw [Addr.add_lit]
            rw [e5, List.getElem_cons_zero, hd]
            simp)
        have hadd : ∀ W : World, (Op.stringOp .add ⟨#[d]⟩ ⟨acc.toArray⟩).run Tryz.prog W = .ok (.string (⟨#[d]⟩ ++ ⟨acc.toArray⟩)) W := fun W => run_string_add_sum W _ _ (by rw [size_l]; simp [ByteArray.size]; omega)
        have happ : (⟨#[d]⟩ : ByteArray) ++ ⟨acc.toArray⟩ = ⟨(d :: acc).toArray⟩ := by
          rw [ba_app']; rfl
        have HAPP := Lib.hid happ
        clear happ hd
        go_wp2
        go_roundw
        case rel => exact ⟨j / 10, d :: acc, by omega, by go_num, by rw [HAPP.out], HM.out, by simp; omega, (by repeat' (first | (with_reducible exact Below.refl _ _) | (with_reducible assumption) | (with_reducible refine Base.grow_alloc ?_ _) | (with_reducible refine Base.below_drewN ?_ _) | (with_reducible refine Below.drew ?_) | (with_reducible refine Below.setCell ?_ ?_ _) | go_size))⟩
        case measure => simp [intOf]; omega
      · have hj0 : j = 0 := by omega
        subst hj0
        have HM := Lib.hid ((mtD_zero acc).symm.trans hm.out)
        have hadd : ∀ W : World, (Op.stringOp .add ⟨#[109]⟩ ⟨acc.toArray⟩).run Tryz.prog W = .ok (.string (⟨#[109]⟩ ++ ⟨acc.toArray⟩)) W := fun W => run_string_add_sum W _ _ (by rw [size_l]; simp [ByteArray.size]; omega)
        have happ : (⟨#[109]⟩ : ByteArray) ++ ⟨acc.toArray⟩ = ⟨(109 :: acc).toArray⟩ := by
          rw [ba_app']; rfl
        have HAPP := Lib.hid happ
        clear happ
        go_wp2
        go_ret
        exact ⟨ret_str (show (⟨#[109]⟩ : ByteArray) ++ ⟨acc.toArray⟩ = mT k by rw [HAPP.out, HR.out, HM.out]), (by repeat' (first | (with_reducible exact Below.refl _ _) | (with_reducible assumption) | (with_reducible refine Base.via hbr ?_) | (with_reducible refine Base.grow_alloc ?_ _) | (with_reducible refine Base.below_drewN ?_ _) | (with_reducible refine Below.drew ?_) | (with_reducible refine Below.setCell ?_ ?_ _) | go_size))⟩
end Go.Proofs.YthojfmlnnclghaaGreatDoor.Est
