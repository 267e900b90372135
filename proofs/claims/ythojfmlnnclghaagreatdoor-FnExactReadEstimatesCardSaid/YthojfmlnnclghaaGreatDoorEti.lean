/- The text of a list of estimates: the program's side. -/
import Derived.Test.YthojfmlnnclghaaGreatDoorEtl
namespace Go.Proofs.YthojfmlnnclghaaGreatDoor.Etx
set_option linter.unusedVariables false
set_option linter.unusedSimpArgs false
set_option maxRecDepth 8000
open Go.RowKit Plain Num View Dec Txt Est Es1 Name Bd OkE

def txtL (E : Nat → E5) : Nat → List UInt8
  | 0 => []
  | k + 1 => txtL E k ++ (lineL (E k) ++ [10])
def txtS (n : Nat) (E : Nat → E5) : ByteArray := if okE n E = true then ⟨(txtL E n).toArray⟩ else ⟨#[]⟩
theorem txtL_len {n : Nat} {E : Nat → E5} (h : okE n E = true) : ∀ k, k ≤ n → (txtL E k).length ≤ 101 * k := by
  intro k
  induction k with
  | zero => intro _; simp [txtL]
  | succ k ih =>
    intro hk
    have h1 := ih (by omega)
    have h2 := lineL_len (okE_at h k (by omega)).1
    simp only [txtL, List.length_append, List.length_cons, List.length_nil]
    omega
theorem okE_n {n : Nat} {E : Nat → E5} (h : okE n E = true) : n ≤ 100 := by
  simp only [okE, Bool.and_eq_true, decide_eq_true_eq] at h
  exact h.1
theorem bld_below {T e : TypeId} {B b : Nat} {bs : List Value} {w w' : World} (h : Lib.IsBuilder T e B b bs w) (hb : Below w.heap.size w w') : Lib.IsBuilder T e B b bs w' := by
  have key : ∀ p, Lib.BuilderAt T e B b p bs w → Lib.BuilderAt T e B b p bs w' := by
    rintro p ⟨hB, v, hbk, hown, hne⟩
    have hlt : b < w.heap.size := by
      rcases Nat.lt_or_ge b w.heap.size with h' | h'
      · exact h'
      · simp [Array.getElem?_eq_none h'] at hbk
    exact ⟨hB, v, (hb.block b hlt).trans hbk, own_of_below hown hb, hne⟩
  rcases h with h | h
  · exact Or.inl (key _ h)
  · exact Or.inr (key _ h)
theorem cells_line (a b : List UInt8) : Lib.byteCells a ++ Lib.strCells ⟨b.toArray⟩ ++ [.int .u8 10] = Lib.byteCells (a ++ (b ++ [10])) := by
  simp [Lib.byteCells, Lib.strCells]
set_option maxHeartbeats 3200000 in
theorem c_EstimatesText (A : Option Addr) (n c : Nat) (E : Nat → E5) (w : World) (hv : Sl w 5 A n c (f5 E)) (ht : Tb w) :
    Calls Tryz.prog 18 #[.slice A n c] w fun r w' => r = .returned (.string (txtS n E)) ∧ Below w.heap.size w w' := by
  have hn := hv.le
  have HT := Lib.hid ht
  clear ht
  cases hok : okE n E
  · have HX := Lib.hid (show txtS n E = ⟨#[]⟩ by rw [txtS, hok]; rfl)
    have HV : Hid (∀ W : World, Sl W 5 A n c (f5 E) → Calls Tryz.prog 17 #[.slice A n c] W fun r w' => r = .returned (.bool false) ∧ Below W.heap.size W w') := Lib.hid (fun W h => by have := c_ValidEstimates A n c E W h; rw [hok] at this; exact this)
    clear hok
    go_enter Tryz.func18, Tryz.ntmps18
    go_wp2_with (first | (go_at_call 17; refine (HV.out _ hv).mono ?_; rintro e w1 ⟨rfl, hb1⟩; obtain ⟨chb1, fhb1⟩ := Base.bcell hb1; have zhb1 := (hb1).size; (try simp at zhb1); (try have yhb1 : w.heap.size < (w1).heap.size := by omega)))
    go_ret
    exact ⟨Txt.ret_str HX.out.symm, (by repeat' (first | (with_reducible exact Below.refl _ _) | (with_reducible assumption) | (with_reducible refine Base.via hb1 ?_) | (with_reducible refine Base.grow_alloc ?_ _) | (with_reducible refine Base.below_drewN ?_ _) | (with_reducible refine Below.drew ?_) | (with_reducible refine Below.setCell ?_ ?_ _) | go_size))⟩
  · have HX := Lib.hid (show txtS n E = ⟨(txtL E n).toArray⟩ by rw [txtS, hok]; rfl)
    have HV : Hid (∀ W : World, Sl W 5 A n c (f5 E) → Calls Tryz.prog 17 #[.slice A n c] W fun r w' => r = .returned (.bool true) ∧ Below W.heap.size W w') := Lib.hid (fun W h => by have := c_ValidEstimates A n c E W h; rw [hok] at this; exact this)
    have HO := Lib.hid hok
    have h100 := okE_n hok
    clear hok
    go_enter Tryz.func18, Tryz.ntmps18
    go_wp2_with (first | (go_at_call 17; refine (HV.out _ hv).mono ?_; rintro e w1 ⟨rfl, hb1⟩; obtain ⟨chb1, fhb1⟩ := Base.bcell hb1; have zhb1 := (hb1).size; (try simp at zhb1); (try have yhb1 : w.heap.size < (w1).heap.size := by omega)))
    have hbw : Below w.heap.size w w1 := (by repeat' (first | (with_reducible exact Below.refl _ _) | (with_reducible assumption) | (with_reducible refine Base.via hb1 ?_) | (with_reducible refine Base.grow_alloc ?_ _) | (with_reducible refine Base.below_drewN ?_ _) | (with_reducible refine Below.drew ?_) | (with_reducible refine Below.setCell ?_ ?_ _) | go_size))
    clear chb1 fhb1
    go_loopw [11] (fun i wr => ∃ k : Nat, k ≤ n ∧ i = .int .i64 k ∧ Lib.IsBuilder 62 5 w1.heap.size w1.heap.size (Lib.byteCells (txtL E k)) wr ∧ Below w1.heap.size w1 wr) (fun i _ => n - (intOf i).toNat)
    case atStart => exact ⟨0, Nat.zero_le _, rfl, Lib.fresh_isBuilder _ _ w1, (by repeat' (first | (with_reducible exact Below.refl _ _) | (with_reducible assumption) | (with_reducible refine Base.grow_alloc ?_ _) | (with_reducible refine Base.below_drewN ?_ _) | (with_reducible refine Below.drew ?_) | (with_reducible refine Below.setCell ?_ ?_ _) | go_size))⟩
    case round =>
      obtain ⟨k, hk, rfl, hbd, hbr⟩ := hrel
      have hbx : Below w.heap.size w wr := (by repeat' (first | (with_reducible exact Below.refl _ _) | (with_reducible assumption) | (with_reducible refine Base.via hbr ?_) | (with_reducible refine Base.via hbw ?_) | (with_reducible refine Base.grow_alloc ?_ _) | (with_reducible refine Base.below_drewN ?_ _) | (with_reducible refine Below.drew ?_) | (with_reducible refine Below.setCell ?_ ?_ _) | go_size))
      by_cases hlt : k < n
      · obtain ⟨b, off, rfl, hb, hc⟩ := (hv.below hbx).at_ (by omega)
        obtain ⟨h0, h1, h2, h3, h4⟩ := cells5 hc k hlt
        have hone := (okE_at HO.out k hlt).1
        have hll := lineL_len hone
        have hal := txtL_len HO.out k (by omega)
        have HL : Hid (∀ W : World, Tb W → Calls Tryz.prog 36 #[(.agg #[.int .i64 (E k).t, .string (E k).s, .string (E k).o, .int .i64 (E k).m, .bool (E k).b])] W fun r w' => r = .returned (.string ⟨(lineL (E k)).toArray⟩) ∧ Below W.heap.size W w') := Lib.hid (fun W hT => c_line (E k) W hT hone)
        have HTX := Lib.hid (show txtL E (k + 1) = txtL E k ++ (lineL (E k) ++ [10]) from rfl)
        clear hone hc
        have hsz : (⟨(lineL (E k)).toArray⟩ : ByteArray).size ≤ 100 := by rw [Txt.size_l]; exact hll
        generalize lineL (E k) = LL at *
        generalize txtL E k = AA at *
        have hbl : (Lib.byteCells AA).length = AA.length := Lib.byteCells_length _
        have hsl : (Lib.strCells ⟨LL.toArray⟩).length = LL.length := by rw [Lib.strCells_length, Txt.size_l]
        have HCE := Lib.hid (cells_line AA LL)
        have hz := hbr.size
        have HWS : Hid (∀ W : World, Below wr.heap.size wr W → Calls Tryz.prog 35 #[.pointer (some ⟨w1.heap.size, 0, none⟩), .string ⟨LL.toArray⟩] W fun r w' => r = .returned (.tuple #[.int .i64 (⟨LL.toArray⟩ : ByteArray).size, .nilIface]) ∧ Lib.IsBuilder 62 5 w1.heap.size w1.heap.size (Lib.byteCells AA ++ Lib.strCells ⟨LL.toArray⟩) w' ∧ Below w1.heap.size W w') := Lib.hid (fun W hW => (c_WriteString w1.heap.size w1.heap.size (Lib.byteCells AA) ⟨LL.toArray⟩ W (bld_below hbd hW) (by omega) (by have := hW.size; omega)).mono (fun r w' h => ⟨h.1, Or.inr h.2.1, h.2.2⟩))
        have HWB : Hid (∀ W : World, Lib.IsBuilder 62 5 w1.heap.size w1.heap.size (Lib.byteCells AA ++ Lib.strCells ⟨LL.toArray⟩) W → w1.heap.size ≤ W.heap.size → Calls Tryz.prog 37 #[.pointer (some ⟨w1.heap.size, 0, none⟩), .int .u8 10] W fun r w' => r = .returned .nilIface ∧ Lib.IsBuilder 62 5 w1.heap.size w1.heap.size (Lib.byteCells (AA ++ (LL ++ [10]))) w' ∧ Below w1.heap.size W w') := Lib.hid (fun W hb hs => by
          have := c_WriteByte w1.heap.size w1.heap.size (Lib.byteCells AA ++ Lib.strCells ⟨LL.toArray⟩) 10 W hb (by rw [List.length_append]; omega) hs
          rw [HCE.out] at this
          exact this.mono (fun r w' h => ⟨h.1, Or.inr h.2.1, h.2.2⟩))
        clear hbl hsl HCE hbd hsz
        go_wp2_with (first | (go_at_call 36; refine (HL.out _ (HT.out.below (by repeat' (first | (with_reducible exact Below.refl _ _) | (with_reducible assumption) | (with_reducible refine Base.via hbr ?_) | (with_reducible refine Base.via hbw ?_) | (with_reducible refine Base.grow_alloc ?_ _) | (with_reducible refine Base.below_drewN ?_ _) | (with_reducible refine Below.drew ?_) | (with_reducible refine Below.setCell ?_ ?_ _) | go_size)))).mono ?_; rintro r w2 ⟨rfl, hb2⟩) | (go_at_call 35; refine (HWS.out _ (by repeat' (first | (with_reducible exact Below.refl _ _) | (with_reducible assumption) | (with_reducible refine Base.via hb2 ?_) | (with_reducible refine Base.grow_alloc ?_ _) | (with_reducible refine Base.below_drewN ?_ _) | (with_reducible refine Below.drew ?_) | (with_reducible refine Below.setCell ?_ ?_ _) | go_size))).mono ?_; rintro r w3 ⟨rfl, hbd3, hb3⟩) | (go_at_call 37; refine (HWB.out _ hbd3 (by have h2 := hb2.size; have h3 := hb3.size; simp at h2 h3; omega)).mono ?_; rintro r w4 ⟨rfl, hbd4, hb4⟩))
        go_roundw
        case rel => exact ⟨k + 1, by omega, by go_num, HTX.out ▸ hbd4, ((show Below w1.heap.size w1 w2 from (by repeat' (first | (with_reducible exact Below.refl _ _) | (with_reducible assumption) | (with_reducible refine Base.via hb2 ?_) | (with_reducible refine Base.via hbr ?_) | (with_reducible refine Base.grow_alloc ?_ _) | (with_reducible refine Base.below_drewN ?_ _) | (with_reducible refine Below.drew ?_) | (with_reducible refine Below.setCell ?_ ?_ _) | go_size))).trans hb3).trans hb4⟩
        case measure => simp [intOf]; omega
      · obtain rfl : k = n := by omega
        have hz := hbr.size
        go_wp2_with (first | (go_at_call 38; refine (Tryz.Builder_String_any w1.heap.size w1.heap.size (txtL E k) _ hbd (by omega)).mono ?_; rintro r w3 ⟨rfl, hb3⟩))
        go_ret
        exact ⟨Txt.ret_str HX.out.symm, hbx.trans (hb3.mono hbw.size)⟩
end Go.Proofs.YthojfmlnnclghaaGreatDoor.Etx
