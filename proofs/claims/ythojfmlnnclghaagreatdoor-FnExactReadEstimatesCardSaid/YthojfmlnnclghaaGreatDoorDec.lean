/- The decimal form of a number: the library's, and the statement's, digit by digit. -/
import Derived.Test.YthojfmlnnclghaaGreatDoorDecP
import Derived.Test.YthojfmlnnclghaaGreatDoorView
import Derived.Test.YthojfmlnnclghaaGreatDoorNum
import Derived.Test.YthojfmlnnclghaaGreatDoorShelf
import Derived.Lib.AppendIntMem
import Derived.WalkSmall
import Derived.WalkLawsBesides
import Derived.RangeFuncBox
import Derived.Outline
namespace Go.Proofs.YthojfmlnnclghaaGreatDoor.Dec
set_option linter.unusedVariables false
set_option linter.unusedSimpArgs false
set_option maxRecDepth 8000
open Go.RowKit Plain Num View

/-- the library's table of powers of ten, as it is laid -/
def Tb (w : World) : Prop := Lib.TabIs Tryz.prog w "internal/strconv.uint64pow10" .u64 Lib.pow10Tab
theorem gTab : Tryz.prog.globalNamed "internal/strconv.uint64pow10" = some 5 := by kernel_rfl
theorem Tb.lt {w : World} (h : Tb w) : 5 < w.heap.size := by
  have h1 := Lib.TabIs.cell h gTab 0 (by decide)
  exact World.block_lt_of_cell? _ _ h1
theorem Tb.below {w w' : World} (h : Tb w) (hb : Below w.heap.size w w') : Tb w' := var?_below hb gTab h.lt h
theorem c_Decimal (n : Int) (w : World) (ht : Tb w) (h0 : -9223372036854775808 ≤ n) (h1 : n ≤ 9223372036854775807) :
    Calls Tryz.prog 30 #[.int .i64 n] w fun e w' => e = .returned (.string ⟨(Lib.itoa n).toArray⟩) ∧ Below w.heap.size w w' := by
  have HT := Lib.hid ht
  have H0 := Lib.hid h0
  have H1 := Lib.hid h1
  clear ht h0 h1
  go_enter Tryz.func30, Tryz.ntmps30
  go_wp2_with (go_at_call 54; refine (Tryz.strconv_FormatInt_10 n H0.out H1.out _ HT.out).mono ?_; rintro e w1 ⟨rfl, k, os, rfl⟩)
  go_ret
  exact ⟨rfl, Lib.below_grow _ _ (Nat.le_refl _) _ _⟩
theorem infoB : (Tryz.prog.info? 5).map (fun i => (i.zero, i.size, i.bytes)) = some (some (.int .u8 0), 1, 1) := by kernel_rfl
theorem own_one {w : World} {B : Nat} {E : TypeId} {x : Value} (hB : B ≤ w.heap.size) : (w.alloc (.cells #[x] E)).ownsRow B E 1 (.slice (some ⟨w.heap.size, 0, none⟩) 1 1) 1 [x] := by
  refine ⟨by simp, .inr ⟨w.heap.size, 1, #[x], rfl, hB, heap_alloc_new w _, Nat.le_refl _, by simp [maxLen], by simp, ?_⟩⟩
  simp
theorem row_cell {w : World} {B : Nat} {E : TypeId} {g n c : Nat} {D : List UInt8} (h : w.ownsRow B E 1 (.slice (some ⟨g, 0, none⟩) n c) n (Lib.byteCells D)) (hn : D.length = n) : ∀ j u, (Lib.byteCells D)[j]? = some u → w.cell? ((⟨g, 0, none⟩ : Addr).add j) = some u := by
  intro j u hj
  have e : ((⟨g, 0, none⟩ : Addr).add j) = ⟨g, j, none⟩ := by rw [Addr.add_lit, Nat.zero_add]
  obtain ⟨_, ⟨h0, _⟩ | ⟨g', cap, cur, hv, hb, hh, hnc, hm, hs, ht⟩⟩ := h
  · cases h0
  · injection hv with e1 e2 e3
    injection e1 with e1
    injection e1 with e1
    subst e1
    rw [e]
    have hjl : j < D.length := by
      have := (List.getElem?_eq_some_iff.1 hj).1
      simpa [Lib.byteCells] using this
    rw [← ht, List.getElem?_take] at hj
    rw [if_pos (by omega)] at hj
    simp [World.cell?, hh]
    simpa using hj
theorem cells_cons {b : UInt8} {D : List UInt8} {x : Int} (h : (b.toNat : Int) = x) : [Value.int .u8 x] ++ Lib.byteCells D = Lib.byteCells (b :: D) := by
  simp [Lib.byteCells, ← h]
theorem bytes_one {D : List UInt8} : ∀ u ∈ Lib.byteCells D, u.oneCell' = true := by
  intro u hu
  obtain ⟨b, _, rfl⟩ := List.mem_map.1 hu
  rfl
set_option maxHeartbeats 1600000 in
theorem c_l01Dec (n : Int) (w : World) (h0 : -9223372036854775808 ≤ n) (h1 : n ≤ 9223372036854775807) :
    Calls Tryz.prog 40 #[.int .i64 n] w fun e w' => e = .returned (.string ⟨(Lib.itoa n).toArray⟩) ∧ Below w.heap.size w w' := by
  obtain ⟨i0, hi0, hz0, hz1, hz2⟩ := info_parts infoB
  have hlen := dgK_len h0 h1
  have hst : dgK n = dgK n ++ [] := by simp
  have HST := Lib.hid hst
  have HL := Lib.hid hlen
  clear hst hlen
  go_enter Tryz.func40, Tryz.ntmps40
  go_wp2
  go_loopw [3, 4, 5] (fun v q _ wr => ∃ (k : Int) (D : List UInt8) (g c : Nat), v = .slice (some ⟨g, 0, none⟩) D.length c ∧ q = .int .i64 k ∧ (-9223372036854775808 ≤ k ∧ k ≤ 9223372036854775807) ∧ Hid (dgK n = dgK k ++ D) ∧ wr.ownsRow w.heap.size 5 1 (.slice (some ⟨g, 0, none⟩) D.length c) D.length (Lib.byteCells D) ∧ Below w.heap.size w wr) (fun _ q _ _ => (intOf q).natAbs)
  case atStart => exact ⟨n, [], _, _, rfl, rfl, ⟨h0, h1⟩, HST.out, World.ownsRow_made _ _ _ (by omega) (by simp [maxLen]) rfl, (by repeat' (first | (with_reducible exact Below.refl _ _) | (with_reducible assumption) | (with_reducible refine Base.grow_alloc ?_ _) | (with_reducible refine Base.below_drewN ?_ _) | (with_reducible refine Below.drew ?_) | (with_reducible refine Below.setCell ?_ ?_ _) | go_size))⟩
  case round =>
    obtain ⟨k, D, g, c, rfl, rfl, ⟨k0, k1⟩, hd, hown, hbr⟩ := hrel
    have hz := hbr.size
    have hDl : D.length ≤ 21 := by
      have e1 := HL.out
      have e2 := congrArg List.length hd.out
      simp only [List.length_append] at e2
      omega
    by_cases hk : k = 0
    · subst hk
      have HD := Lib.hid (show dgK n = D by rw [hd.out, dgK_zero]; rfl)
      by_cases hn0 : n = 0
      · subst hn0
        have hD0 : D.length = 0 := by rw [← HD.out]; rfl
        have HI := Lib.hid itoa_zero
        rw [hD0]
        go_wp2
        go_ret
        exact ⟨by rw [HI.out]; rfl, hbr⟩
      · have hpos : 0 < D.length := by
          rw [← HD.out, dgK_step hn0]; simp
        have hne : ((D.length : Int) == 0) = false := by rw [beq_eq_false_iff_ne]; omega
        have hne' : (D.length == 0) = false := by rw [beq_eq_false_iff_ne]; omega
        have kc := run_convert_bytes_back (P := Tryz.prog) wr 60 9 5 ⟨g, 0, none⟩ c D Tryz.underlying60 Tryz.underlying5 Tryz.underlying9 (fun j hj => row_cell hown rfl j _ (by simp [Lib.byteCells, List.getElem?_eq_getElem hj]))
        by_cases hneg : n < 0
        · have HI := Lib.hid (show Lib.itoa n = 45 :: D by rw [itoa_of hn0, if_pos hneg, HD.out])
          go_wp2
          go_ret
          exact ⟨by rw [HI.out]; rfl, hbr⟩
        · have HI := Lib.hid (show Lib.itoa n = D by rw [itoa_of hn0, if_neg hneg, HD.out])
          go_wp2
          go_ret
          exact ⟨by rw [HI.out]; rfl, hbr⟩
    · have HS := Lib.hid (show dgK n = dgK (k.tdiv 10) ++ ([UInt8.ofNat (48 + k.natAbs % 10)] ++ D) by rw [hd.out, dgK_step hk, List.append_assoc])
      have HB := Lib.hid (dig_byte k)
      obtain ⟨t1, t2⟩ := tmod_bd10 k
      have ta := tdiv_abs10 k
      have td : -922337203685477581 ≤ k.tdiv 10 ∧ k.tdiv 10 ≤ 922337203685477580 := by omega
      obtain ⟨td1, td2⟩ := td
      have HM := Lib.hid (show (k.tdiv 10).natAbs < k.natAbs by omega)
      have hkq : (k != 0) = true := by simpa using hk
      clear ta
      by_cases hm : k.tmod 10 < 0
      · have HA := Lib.hid (show ((UInt8.ofNat (48 + k.natAbs % 10)).toNat : Int) = 48 + -(k.tmod 10) by rw [HB.out, absI, if_pos hm])
        go_wp2_with (at_builtin; refine wpList_append_own _ rfl _ _ 60 rfl (w.heap.size) 5 i0 _ 1 1 Tryz.underlying60 hi0 hz0 hz1 hz2 rfl (by decide) _ _ _ rfl (own_one (x := .int .u8 (48 + -(k.tmod 10))) hz) ⟨g, 0, none⟩ D.length c (Lib.byteCells D) rfl (by simp [Lib.byteCells]) (row_cell (own_of_below hown (by repeat' (first | (with_reducible exact Below.refl _ _) | (with_reducible assumption) | (with_reducible refine Base.grow_alloc ?_ _) | (with_reducible refine Base.below_drewN ?_ _) | (with_reducible refine Below.drew ?_) | (with_reducible refine Below.setCell ?_ ?_ _) | go_size))) rfl) bytes_one (by simp only [maxLen]; omega) (by omega) (by simp; omega) ?_)
        intro v' w1 hown' hgrow _
        have hb1 : Below w.heap.size w w1 := own_grow (by repeat' (first | (with_reducible exact Below.refl _ _) | (with_reducible assumption) | (with_reducible refine Base.grow_alloc ?_ _) | (with_reducible refine Base.below_drewN ?_ _) | (with_reducible refine Below.drew ?_) | (with_reducible refine Below.setCell ?_ ?_ _) | go_size)) (own_one (w := wr) (B := w.heap.size) (E := 5) (x := .int .u8 (48 + -(k.tmod 10))) hz) (Nat.le_refl _) hgrow
        have hown2 : w1.ownsRow w.heap.size 5 1 v' (D.length + 1) (Lib.byteCells (UInt8.ofNat (48 + k.natAbs % 10) :: D)) := by
          rw [← cells_cons HA.out, Nat.add_comm D.length 1]; exact hown'
        clear hown'
        obtain ⟨g', c', rfl⟩ := ownsRow_succ hown2
        clear hown hgrow
        go_wp2
        go_roundw
        case rel => exact ⟨k.tdiv 10, UInt8.ofNat (48 + k.natAbs % 10) :: D, g', c', rfl, rfl, ⟨by omega, by omega⟩, HS.out, hown2, hb1⟩
        case measure => simpa [intOf] using HM.out
      · have HA := Lib.hid (show ((UInt8.ofNat (48 + k.natAbs % 10)).toNat : Int) = 48 + k.tmod 10 by rw [HB.out, absI, if_neg hm])
        go_wp2_with (at_builtin; refine wpList_append_own _ rfl _ _ 60 rfl (w.heap.size) 5 i0 _ 1 1 Tryz.underlying60 hi0 hz0 hz1 hz2 rfl (by decide) _ _ _ rfl (own_one (x := .int .u8 (48 + k.tmod 10)) hz) ⟨g, 0, none⟩ D.length c (Lib.byteCells D) rfl (by simp [Lib.byteCells]) (row_cell (own_of_below hown (by repeat' (first | (with_reducible exact Below.refl _ _) | (with_reducible assumption) | (with_reducible refine Base.grow_alloc ?_ _) | (with_reducible refine Base.below_drewN ?_ _) | (with_reducible refine Below.drew ?_) | (with_reducible refine Below.setCell ?_ ?_ _) | go_size))) rfl) bytes_one (by simp only [maxLen]; omega) (by omega) (by simp; omega) ?_)
        intro v' w1 hown' hgrow _
        have hb1 : Below w.heap.size w w1 := own_grow (by repeat' (first | (with_reducible exact Below.refl _ _) | (with_reducible assumption) | (with_reducible refine Base.grow_alloc ?_ _) | (with_reducible refine Base.below_drewN ?_ _) | (with_reducible refine Below.drew ?_) | (with_reducible refine Below.setCell ?_ ?_ _) | go_size)) (own_one (w := wr) (B := w.heap.size) (E := 5) (x := .int .u8 (48 + k.tmod 10)) hz) (Nat.le_refl _) hgrow
        have hown2 : w1.ownsRow w.heap.size 5 1 v' (D.length + 1) (Lib.byteCells (UInt8.ofNat (48 + k.natAbs % 10) :: D)) := by
          rw [← cells_cons HA.out, Nat.add_comm D.length 1]; exact hown'
        clear hown'
        obtain ⟨g', c', rfl⟩ := ownsRow_succ hown2
        clear hown hgrow
        go_wp2
        go_roundw
        case rel => exact ⟨k.tdiv 10, UInt8.ofNat (48 + k.natAbs % 10) :: D, g', c', rfl, rfl, ⟨by omega, by omega⟩, HS.out, hown2, hb1⟩
        case measure => simpa [intOf] using HM.out
end Go.Proofs.YthojfmlnnclghaaGreatDoor.Dec
