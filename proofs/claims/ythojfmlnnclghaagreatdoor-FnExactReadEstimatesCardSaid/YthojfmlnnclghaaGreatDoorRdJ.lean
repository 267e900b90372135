/- Reading a magnitude: the walk of the program's ReadMag. -/
import Derived.Test.YthojfmlnnclghaaGreatDoorRdI
namespace Go.Proofs.YthojfmlnnclghaaGreatDoor.Rd
set_option linter.unusedVariables false
set_option linter.unusedSimpArgs false
set_option maxRecDepth 8000
open Go.RowKit Plain Num View Dec Txt Name Etx

def mmF (v y0 y1 y2 : Int) : Nat → Int
  | 0 => v * 1000
  | 1 => v * 1000 + 100 * y0
  | 2 => v * 1000 + 100 * y0 + 10 * y1
  | _ => v * 1000 + 100 * y0 + 10 * y1 + y2
theorem u8_bd (x : Int) (h0 : -48 ≤ x) (h1 : x ≤ 255) : IntKind.u8.wrap x = if 0 ≤ x then x else x + 256 := by
  have : IntKind.u8.wrap x = x % 256 := by first | rfl | (unfold IntKind.wrap; simp) 
  rw [this]
  split <;> omega
set_option maxHeartbeats 3200000 in
theorem c_ReadMag (s : ByteArray) (w : World) (hz : Tz w) (hs : s.size ≤ 1048576) :
    Calls Tryz.prog 16 #[.string s] w fun r w' => RMr s.data.toList r ∧ Below w.heap.size w w' := by
  obtain ⟨D, hD⟩ : ∃ D, Lib.trimPrefix s.data.toList [45] = D := ⟨_, rfl⟩
  obtain ⟨neg, hneg⟩ : ∃ neg, Lib.hasPrefix s.data.toList [45] = neg := ⟨_, rfl⟩
  have hDl : D.length ≤ s.size := by
    have e : s.data.toList.length = s.size := by rw [Array.length_toList]; rfl
    rw [← hD, Lib.trimPrefix, ← e]
    split
    · rw [List.length_drop]; omega
    · exact Nat.le_refl _
  have hDs : (⟨D.toArray⟩ : ByteArray).size = D.length := Txt.size_l D
  obtain ⟨W, hW⟩ : ∃ W, (Lib.cut D [46]).1 = W := ⟨_, rfl⟩
  obtain ⟨R, hR⟩ : ∃ R, (Lib.cut D [46]).2.1 = R := ⟨_, rfl⟩
  obtain ⟨fo, hfo⟩ : ∃ fo, (Lib.cut D [46]).2.2 = fo := ⟨_, rfl⟩
  have hWl : W.length ≤ D.length := hW ▸ (cut_len 46 D).1
  have hRle : R.length ≤ s.size := Nat.le_trans (hR ▸ (cut_len 46 D).2) hDl
  obtain ⟨mx, hmx⟩ := hz.2.1
  have HCP : Hid (∀ X : World, Calls Tryz.prog 14 #[.string s, .string ⟨#[45]⟩] X fun e w' => e = .returned (.tuple #[.string ⟨D.toArray⟩, .bool neg]) ∧ X = w') := Lib.hid (fun X => (Tryz.strings_CutPrefix s ⟨#[45]⟩ X).mono (fun e w' h => ⟨by rw [h.1]; simp only [hD, hneg], h.2.symm⟩))
  have HCT : Hid (Calls Tryz.prog 12 #[.string ⟨D.toArray⟩, .string ⟨#[46]⟩] w fun e w' => e = .returned (.tuple #[.string ⟨W.toArray⟩, .string ⟨R.toArray⟩, .bool fo]) ∧ Below w.heap.size w w') := Lib.hid ((Tryz.strings_Cut ⟨D.toArray⟩ ⟨#[46]⟩ mx w (by omega) hmx).mono (fun e w' h => ⟨by rw [h.1]; simp only [hW, hR, hfo], by obtain ⟨n, e⟩ := h.2; rw [e]; exact (by repeat' (first | (with_reducible exact Below.refl _ _) | (with_reducible assumption) | (with_reducible refine Base.grow_alloc ?_ _) | (with_reducible refine Base.below_drewN ?_ _) | (with_reducible refine Below.drew ?_) | (with_reducible refine Below.setCell ?_ ?_ _) | go_size))⟩))
  have HPM := Lib.hid (fun (m : Int) (h : PM s.data.toList m) => PM_reads h (W := W) (R := R) (by rw [hD]; exact hW) (by rw [hD]; exact hR))
  have HPP := Lib.hid (fun (m : Int) (h : PM s.data.toList m) => (hneg ▸ (PM_parts h).2.2))
  have HRD := Lib.hid (fun (X : World) (hX : Tz X) => c_ReadDecimal ⟨W.toArray⟩ X hX (by rw [Txt.size_l]; omega))
  have HZ := Lib.hid hz
  have hRs : (⟨R.toArray⟩ : ByteArray).size = R.length := Txt.size_l R
  clear hD hneg hDl hDs hW hR hfo hWl hmx hz
  generalize (⟨D.toArray⟩ : ByteArray) = DS at *
  go_enter Tryz.func16, Tryz.ntmps16
  go_wp2_with (first | (go_at_call 14; refine (HCP.out _).mono ?_; rintro e w' ⟨rfl, rfl⟩) | (go_at_call 12; refine HCT.out.mono ?_; rintro e w1 ⟨rfl, hb1⟩) | (go_at_call 15; refine (HRD.out _ (HZ.out.below (by repeat' (first | (with_reducible exact Below.refl _ _) | (with_reducible assumption) | (with_reducible refine Base.via hb1 ?_) | (with_reducible refine Base.grow_alloc ?_ _) | (with_reducible refine Base.below_drewN ?_ _) | (with_reducible refine Below.drew ?_) | (with_reducible refine Below.setCell ?_ ?_ _) | go_size)))).mono ?_; rintro e w2 ⟨⟨v, b, rfl, hrn⟩, hb2⟩; have HRN := Lib.hid hrn; clear hrn; cases b))
  · have HR := Lib.hid (RM_no (l := s.data.toList) (v := 0) (fun m hm => by
      have h1 := (HRN.out.2 _ (HPM.out m hm).1).1
      cases h1))
    go_ret2
    exact ⟨⟨_, _, rfl, HR.out⟩, (by repeat' (first | (with_reducible exact Below.refl _ _) | (with_reducible assumption) | (with_reducible refine Base.via hb2 ?_) | (with_reducible refine Base.via hb1 ?_) | (with_reducible refine Base.grow_alloc ?_ _) | (with_reducible refine Base.below_drewN ?_ _) | (with_reducible refine Below.drew ?_) | (with_reducible refine Below.setCell ?_ ?_ _) | go_size))⟩
  have HVU := Lib.hid (fun (m : Int) (hm : PM s.data.toList m) => (HRN.out.2 _ (HPM.out m hm).1).2)
  cases hin : inB v 0 20
  · have HR := Lib.hid (RM_no (l := s.data.toList) (v := 0) (fun m hm => by
      have h1 := HVU.out m hm
      have h2 := (HPP.out m hm).1
      rw [inB_iff.2 (by omega)] at hin
      cases hin))
    have HIN : Hid (∀ X : World, Calls Tryz.prog 31 #[.int .i64 v, .int .i64 0, .int .i64 20] X fun e w' => e = .returned (.bool false) ∧ X = w') := Lib.hid (fun X => by have h := c_in v 0 20 X; rw [hin] at h; exact h)
    clear hin
    go_wp2_with (first | (go_at_call 31; refine (HIN.out _).mono ?_; rintro e w' ⟨rfl, rfl⟩))
    go_ret2
    exact ⟨⟨_, _, rfl, HR.out⟩, (by repeat' (first | (with_reducible exact Below.refl _ _) | (with_reducible assumption) | (with_reducible refine Base.via hb2 ?_) | (with_reducible refine Base.via hb1 ?_) | (with_reducible refine Base.grow_alloc ?_ _) | (with_reducible refine Base.below_drewN ?_ _) | (with_reducible refine Below.drew ?_) | (with_reducible refine Below.setCell ?_ ?_ _) | go_size))⟩
  have HIN : Hid (∀ X : World, Calls Tryz.prog 31 #[.int .i64 v, .int .i64 0, .int .i64 20] X fun e w' => e = .returned (.bool true) ∧ X = w') := Lib.hid (fun X => by have h := c_in v 0 20 X; rw [hin] at h; exact h)
  obtain ⟨v0, v1⟩ := inB_iff.1 hin
  clear hin
  by_cases h3 : R.length = 3
  case neg =>
    have HR := Lib.hid (RM_no (l := s.data.toList) (v := 0) (fun m hm => h3 (by rw [(HPM.out m hm).2]; rfl)))
    go_wp2_with (first | (go_at_call 31; refine (HIN.out _).mono ?_; rintro e w' ⟨rfl, rfl⟩))
    go_ret2
    exact ⟨⟨_, _, rfl, HR.out⟩, (by repeat' (first | (with_reducible exact Below.refl _ _) | (with_reducible assumption) | (with_reducible refine Base.via hb2 ?_) | (with_reducible refine Base.via hb1 ?_) | (with_reducible refine Base.grow_alloc ?_ _) | (with_reducible refine Base.below_drewN ?_ _) | (with_reducible refine Below.drew ?_) | (with_reducible refine Below.setCell ?_ ?_ _) | go_size))⟩
  go_wp2_with (first | (go_at_call 31; refine (HIN.out _).mono ?_; rintro e w' ⟨rfl, rfl⟩))
  obtain ⟨RS, hRS⟩ : ∃ RS : ByteArray, (⟨R.toArray⟩ : ByteArray) = RS := ⟨_, rfl⟩
  have hRL : RS.data.toList = R := by rw [← hRS]
  simp only [hRS] at hRs ⊢
  obtain ⟨c0, hc0, hx0⟩ := by8_list (t := RS) (k := 0) (by omega)
  obtain ⟨c1, hc1, hx1⟩ := by8_list (t := RS) (k := 1) (by omega)
  obtain ⟨c2, hc2, hx2⟩ := by8_list (t := RS) (k := 2) (by omega)
  have g0 : (((RS[0]'(by omega)).toNat : Nat) : Int) = ((c0.toNat : Nat) : Int) := (by8_eq (s := RS) (i := 0) (by omega)).trans hx0
  have g1 : (((RS[1]'(by omega)).toNat : Nat) : Int) = ((c1.toNat : Nat) : Int) := (by8_eq (s := RS) (i := 1) (by omega)).trans hx1
  have g2 : (((RS[2]'(by omega)).toNat : Nat) : Int) = ((c2.toNat : Nat) : Int) := (by8_eq (s := RS) (i := 2) (by omega)).trans hx2
  have hR3 : R = [c0, c1, c2] := by
    rw [hRL] at hc0 hc1 hc2
    match R, h3, hc0, hc1, hc2 with
    | [a, b, c], _, hc0, hc1, hc2 =>
      simp only [List.getElem?_cons_zero, List.getElem?_cons_succ, Option.some.injEq] at hc0 hc1 hc2
      rw [hc0, hc1, hc2]
  have l0 : (c0.toNat : Int) ≤ 255 := by have := c0.toNat_lt; omega
  have l1 : (c1.toNat : Int) ≤ 255 := by have := c1.toNat_lt; omega
  have l2 : (c2.toNat : Int) ≤ 255 := by have := c2.toNat_lt; omega
  obtain ⟨y0, hy0⟩ : ∃ y, IntKind.u8.wrap ((c0.toNat : Int) - 48) = y := ⟨_, rfl⟩
  obtain ⟨y1, hy1⟩ : ∃ y, IntKind.u8.wrap ((c1.toNat : Int) - 48) = y := ⟨_, rfl⟩
  obtain ⟨y2, hy2⟩ : ∃ y, IntKind.u8.wrap ((c2.toNat : Int) - 48) = y := ⟨_, rfl⟩
  have q0 := u8_bd ((c0.toNat : Int) - 48) (by omega) (by omega)
  have q1 := u8_bd ((c1.toNat : Int) - 48) (by omega) (by omega)
  have q2 := u8_bd ((c2.toNat : Int) - 48) (by omega) (by omega)
  rw [hy0] at q0
  rw [hy1] at q1
  rw [hy2] at q2
  have b0 : 0 ≤ y0 ∧ y0 ≤ 255 := by rw [q0]; split <;> omega
  have b1 : 0 ≤ y1 ∧ y1 ≤ 255 := by rw [q1]; split <;> omega
  have b2 : 0 ≤ y2 ∧ y2 ≤ 255 := by rw [q2]; split <;> omega
  have HQ0 := Lib.hid q0
  have HQ1 := Lib.hid q1
  have HQ2 := Lib.hid q2
  obtain ⟨b00, b01⟩ := b0
  obtain ⟨b10, b11⟩ := b1
  obtain ⟨b20, b21⟩ := b2
  clear hc0 hc1 hc2 hx0 hx1 hx2 hRL q0 q1 q2
  go_loopw [46, 11] (fun i m wr => ∃ k : Nat, k ≤ 3 ∧ i = .int .i64 k ∧ m = .int .i64 (mmF v y0 y1 y2 k) ∧ wr = w2.alloc (.cells #[.int .i64 100, .int .i64 10, .int .i64 1] 2)) (fun i _ _ => 3 - (intOf i).toNat)
  case atStart => exact ⟨0, by omega, rfl, rfl, rfl⟩
  case round =>
    obtain ⟨k, hk, rfl, rfl, rfl⟩ := hrel
    rcases (show k = 0 ∨ k = 1 ∨ k = 2 ∨ k = 3 by omega) with rfl | rfl | rfl | rfl
    · rw [show mmF v y0 y1 y2 0 = v * 1000 from rfl]
      go_wp2
      go_roundw
      case rel => exact ⟨1, by omega, rfl, rfl, trivial⟩
      case measure => decide
    · rw [show mmF v y0 y1 y2 1 = v * 1000 + 100 * y0 from rfl]
      go_wp2
      go_roundw
      case rel => exact ⟨2, by omega, rfl, rfl, trivial⟩
      case measure => decide
    · rw [show mmF v y0 y1 y2 2 = v * 1000 + 100 * y0 + 10 * y1 from rfl]
      go_wp2
      go_roundw
      case rel => exact ⟨3, by omega, rfl, congrArg (Value.int .i64) (by show _ = v * 1000 + 100 * y0 + 10 * y1 + y2; omega), trivial⟩
      case measure => decide
    · rw [show mmF v y0 y1 y2 3 = v * 1000 + 100 * y0 + 10 * y1 + y2 from rfl]
      have HMU : Hid (∀ m, PM s.data.toList m → (if neg = true then -(v * 1000 + 100 * y0 + 10 * y1 + y2) else v * 1000 + 100 * y0 + 10 * y1 + y2) = m) := Lib.hid (fun m hm => by
        have e1 := HVU.out m hm
        have e2 := HPP.out m hm
        have e3 := (HPM.out m hm).2
        rw [hR3, three] at e3
        obtain ⟨f0, e4⟩ := List.cons.inj e3
        obtain ⟨f1, e5⟩ := List.cons.inj e4
        obtain ⟨f2, _⟩ := List.cons.inj e5
        have t0 := dg_of (show m.natAbs % 1000 / 100 < 10 by omega)
        have t1 := dg_of (show m.natAbs % 1000 / 10 % 10 < 10 by omega)
        have t2 := dg_of (show m.natAbs % 1000 % 10 < 10 by omega)
        rw [← f0] at t0
        rw [← f1] at t1
        rw [← f2] at t2
        have z0 := HQ0.out
        have z1 := HQ1.out
        have z2 := HQ2.out
        rw [if_pos (by omega)] at z0 z1 z2
        rw [e2.2]
        split <;> omega)
      have hM0 : 0 ≤ v * 1000 + 100 * y0 + 10 * y1 + y2 := by omega
      have hM1 : v * 1000 + 100 * y0 + 10 * y1 + y2 ≤ 60000 := by omega
      clear g0 g1 g2 l0 l1 l2 b00 b01 b10 b11 b20 b21 hy0 hy1 hy2 HQ0 HQ1 HQ2
      generalize v * 1000 + 100 * y0 + 10 * y1 + y2 = M at *
      cases neg
      · simp only [Bool.false_eq_true, if_false] at HMU
        cases hin : inB M (-2000) 20000
        · have HR := Lib.hid (RM_no (l := s.data.toList) (v := 0) (fun m hm => by
            have h1 := hm.1
            rw [← HMU.out m hm, hin] at h1
            cases h1))
          have HMT : Hid (∀ X : World, Calls Tryz.prog 32 #[.int .i64 M] X fun e w' => e = .returned (.string ⟨#[]⟩) ∧ Below X.heap.size X w') := Lib.hid (fun X => c_MagText_no M X hin)
          have hcmp : s.toList.isEmpty = false := by
            rw [ByteArray.toList_eq]
            cases h : s.data.toList with
            | nil =>
              exfalso
              have := congrArg List.length h
              rw [Array.length_toList] at this
              have h2 : s.size = s.data.size := rfl
              have h5 : s.size = 0 := by rw [h2, this]; rfl
              omega
            | cons x y => rfl
          have hcmp2 : (([] : List UInt8) == s.toList) = false := by
            cases h : s.toList with
            | nil => rw [h] at hcmp; cases hcmp
            | cons x y => rfl
          clear hin
          go_wp2_with (first | (go_at_call 32; refine (HMT.out _).mono ?_; rintro e w3 ⟨rfl, hb3⟩; obtain ⟨chb3, fhb3⟩ := Base.bcell hb3; have zhb3 := (hb3).size; (try simp at zhb3); (try have yhb3 : w.heap.size < (w3).heap.size := by omega)))
          go_ret2
          exact ⟨⟨_, _, rfl, HR.out⟩, (by repeat' (first | (with_reducible exact Below.refl _ _) | (with_reducible assumption) | (with_reducible refine Base.via hb3 ?_) | (with_reducible refine Base.via hb2 ?_) | (with_reducible refine Base.via hb1 ?_) | (with_reducible refine Base.grow_alloc ?_ _) | (with_reducible refine Base.below_drewN ?_ _) | (with_reducible refine Below.drew ?_) | (with_reducible refine Below.setCell ?_ ?_ _) | go_size))⟩
        · have HMT : Hid (∀ X : World, Tb X → Calls Tryz.prog 32 #[.int .i64 M] X fun e w' => e = .returned (.string ⟨(magL M).toArray⟩) ∧ Below X.heap.size X w') := Lib.hid (fun X hX => c_MagText M X hX hin)
          by_cases heq : magL M = s.data.toList
          · have HR := Lib.hid (mag_end hin heq)
            have hcmp : ((⟨(magL M).toArray⟩ : ByteArray).toList == s.toList) = true := bts_yes (by simpa using heq)
            clear heq hin
            generalize (⟨(magL M).toArray⟩ : ByteArray) = VS at *
            go_wp2_with (first | (go_at_call 32; refine (HMT.out _ (HZ.out.1.below (by repeat' (first | (with_reducible exact Below.refl _ _) | (with_reducible assumption) | (with_reducible refine Base.via hb2 ?_) | (with_reducible refine Base.via hb1 ?_) | (with_reducible refine Base.grow_alloc ?_ _) | (with_reducible refine Base.below_drewN ?_ _) | (with_reducible refine Below.drew ?_) | (with_reducible refine Below.setCell ?_ ?_ _) | go_size)))).mono ?_; rintro e w3 ⟨rfl, hb3⟩; obtain ⟨chb3, fhb3⟩ := Base.bcell hb3; have zhb3 := (hb3).size; (try simp at zhb3); (try have yhb3 : w.heap.size < (w3).heap.size := by omega)))
            go_ret2
            exact ⟨⟨_, _, rfl, HR.out⟩, (by repeat' (first | (with_reducible exact Below.refl _ _) | (with_reducible assumption) | (with_reducible refine Base.via hb3 ?_) | (with_reducible refine Base.via hb2 ?_) | (with_reducible refine Base.via hb1 ?_) | (with_reducible refine Base.grow_alloc ?_ _) | (with_reducible refine Base.below_drewN ?_ _) | (with_reducible refine Below.drew ?_) | (with_reducible refine Below.setCell ?_ ?_ _) | go_size))⟩
          · have HR := Lib.hid (RM_no (l := s.data.toList) (v := 0) (fun m hm => heq (by rw [HMU.out m hm]; exact hm.2.symm)))
            have hcmp : ((⟨(magL M).toArray⟩ : ByteArray).toList == s.toList) = false := bts_no (by simpa using heq)
            clear heq hin
            generalize (⟨(magL M).toArray⟩ : ByteArray) = VS at *
            go_wp2_with (first | (go_at_call 32; refine (HMT.out _ (HZ.out.1.below (by repeat' (first | (with_reducible exact Below.refl _ _) | (with_reducible assumption) | (with_reducible refine Base.via hb2 ?_) | (with_reducible refine Base.via hb1 ?_) | (with_reducible refine Base.grow_alloc ?_ _) | (with_reducible refine Base.below_drewN ?_ _) | (with_reducible refine Below.drew ?_) | (with_reducible refine Below.setCell ?_ ?_ _) | go_size)))).mono ?_; rintro e w3 ⟨rfl, hb3⟩; obtain ⟨chb3, fhb3⟩ := Base.bcell hb3; have zhb3 := (hb3).size; (try simp at zhb3); (try have yhb3 : w.heap.size < (w3).heap.size := by omega)))
            go_ret2
            exact ⟨⟨_, _, rfl, HR.out⟩, (by repeat' (first | (with_reducible exact Below.refl _ _) | (with_reducible assumption) | (with_reducible refine Base.via hb3 ?_) | (with_reducible refine Base.via hb2 ?_) | (with_reducible refine Base.via hb1 ?_) | (with_reducible refine Base.grow_alloc ?_ _) | (with_reducible refine Base.below_drewN ?_ _) | (with_reducible refine Below.drew ?_) | (with_reducible refine Below.setCell ?_ ?_ _) | go_size))⟩
      · simp only [if_true] at HMU
        cases hin : inB (-M) (-2000) 20000
        · have HR := Lib.hid (RM_no (l := s.data.toList) (v := 0) (fun m hm => by
            have h1 := hm.1
            rw [← HMU.out m hm, hin] at h1
            cases h1))
          have HMT : Hid (∀ X : World, Calls Tryz.prog 32 #[.int .i64 (-M)] X fun e w' => e = .returned (.string ⟨#[]⟩) ∧ Below X.heap.size X w') := Lib.hid (fun X => c_MagText_no (-M) X hin)
          have hcmp : s.toList.isEmpty = false := by
            rw [ByteArray.toList_eq]
            cases h : s.data.toList with
            | nil =>
              exfalso
              have := congrArg List.length h
              rw [Array.length_toList] at this
              have h2 : s.size = s.data.size := rfl
              have h5 : s.size = 0 := by rw [h2, this]; rfl
              omega
            | cons x y => rfl
          have hcmp2 : (([] : List UInt8) == s.toList) = false := by
            cases h : s.toList with
            | nil => rw [h] at hcmp; cases hcmp
            | cons x y => rfl
          clear hin
          go_wp2_with (first | (go_at_call 32; refine (HMT.out _).mono ?_; rintro e w3 ⟨rfl, hb3⟩; obtain ⟨chb3, fhb3⟩ := Base.bcell hb3; have zhb3 := (hb3).size; (try simp at zhb3); (try have yhb3 : w.heap.size < (w3).heap.size := by omega)))
          go_ret2
          exact ⟨⟨_, _, rfl, HR.out⟩, (by repeat' (first | (with_reducible exact Below.refl _ _) | (with_reducible assumption) | (with_reducible refine Base.via hb3 ?_) | (with_reducible refine Base.via hb2 ?_) | (with_reducible refine Base.via hb1 ?_) | (with_reducible refine Base.grow_alloc ?_ _) | (with_reducible refine Base.below_drewN ?_ _) | (with_reducible refine Below.drew ?_) | (with_reducible refine Below.setCell ?_ ?_ _) | go_size))⟩
        · have HMT : Hid (∀ X : World, Tb X → Calls Tryz.prog 32 #[.int .i64 (-M)] X fun e w' => e = .returned (.string ⟨(magL (-M)).toArray⟩) ∧ Below X.heap.size X w') := Lib.hid (fun X hX => c_MagText (-M) X hX hin)
          by_cases heq : magL (-M) = s.data.toList
          · have HR := Lib.hid (mag_end hin heq)
            have hcmp : ((⟨(magL (-M)).toArray⟩ : ByteArray).toList == s.toList) = true := bts_yes (by simpa using heq)
            clear heq hin
            generalize (⟨(magL (-M)).toArray⟩ : ByteArray) = VS at *
            go_wp2_with (first | (go_at_call 32; refine (HMT.out _ (HZ.out.1.below (by repeat' (first | (with_reducible exact Below.refl _ _) | (with_reducible assumption) | (with_reducible refine Base.via hb2 ?_) | (with_reducible refine Base.via hb1 ?_) | (with_reducible refine Base.grow_alloc ?_ _) | (with_reducible refine Base.below_drewN ?_ _) | (with_reducible refine Below.drew ?_) | (with_reducible refine Below.setCell ?_ ?_ _) | go_size)))).mono ?_; rintro e w3 ⟨rfl, hb3⟩; obtain ⟨chb3, fhb3⟩ := Base.bcell hb3; have zhb3 := (hb3).size; (try simp at zhb3); (try have yhb3 : w.heap.size < (w3).heap.size := by omega)))
            go_ret2
            exact ⟨⟨_, _, rfl, HR.out⟩, (by repeat' (first | (with_reducible exact Below.refl _ _) | (with_reducible assumption) | (with_reducible refine Base.via hb3 ?_) | (with_reducible refine Base.via hb2 ?_) | (with_reducible refine Base.via hb1 ?_) | (with_reducible refine Base.grow_alloc ?_ _) | (with_reducible refine Base.below_drewN ?_ _) | (with_reducible refine Below.drew ?_) | (with_reducible refine Below.setCell ?_ ?_ _) | go_size))⟩
          · have HR := Lib.hid (RM_no (l := s.data.toList) (v := 0) (fun m hm => heq (by rw [HMU.out m hm]; exact hm.2.symm)))
            have hcmp : ((⟨(magL (-M)).toArray⟩ : ByteArray).toList == s.toList) = false := bts_no (by simpa using heq)
            clear heq hin
            generalize (⟨(magL (-M)).toArray⟩ : ByteArray) = VS at *
            go_wp2_with (first | (go_at_call 32; refine (HMT.out _ (HZ.out.1.below (by repeat' (first | (with_reducible exact Below.refl _ _) | (with_reducible assumption) | (with_reducible refine Base.via hb2 ?_) | (with_reducible refine Base.via hb1 ?_) | (with_reducible refine Base.grow_alloc ?_ _) | (with_reducible refine Base.below_drewN ?_ _) | (with_reducible refine Below.drew ?_) | (with_reducible refine Below.setCell ?_ ?_ _) | go_size)))).mono ?_; rintro e w3 ⟨rfl, hb3⟩; obtain ⟨chb3, fhb3⟩ := Base.bcell hb3; have zhb3 := (hb3).size; (try simp at zhb3); (try have yhb3 : w.heap.size < (w3).heap.size := by omega)))
            go_ret2
            exact ⟨⟨_, _, rfl, HR.out⟩, (by repeat' (first | (with_reducible exact Below.refl _ _) | (with_reducible assumption) | (with_reducible refine Base.via hb3 ?_) | (with_reducible refine Base.via hb2 ?_) | (with_reducible refine Base.via hb1 ?_) | (with_reducible refine Base.grow_alloc ?_ _) | (with_reducible refine Base.below_drewN ?_ _) | (with_reducible refine Below.drew ?_) | (with_reducible refine Below.setCell ?_ ?_ _) | go_size))⟩
end Go.Proofs.YthojfmlnnclghaaGreatDoor.Rd
