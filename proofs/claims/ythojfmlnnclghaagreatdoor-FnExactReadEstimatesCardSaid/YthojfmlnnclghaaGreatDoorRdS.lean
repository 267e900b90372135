/- Reading a magnitude: the reference's ReadMag. -/
import Derived.Test.YthojfmlnnclghaaGreatDoorRdI
import Derived.Test.YthojfmlnnclghaaGreatDoorRdR
import Derived.Test.YthojfmlnnclghaaGreatDoorSpl
namespace Go.Proofs.YthojfmlnnclghaaGreatDoor.Rd
set_option linter.unusedVariables false
set_option linter.unusedSimpArgs false
set_option maxRecDepth 8000
open Go.RowKit Plain Num View Dec Txt Name Etx

/-- the two parts of a magnitude's text -/
theorem PM_spl {l : List UInt8} {m : Int} (h : PM l m) : spl 46 l = [(if m < 0 then [45] else []) ++ Lib.itoa ((m.natAbs / 1000 : Nat) : Int), three (m.natAbs % 1000)] := by
  have hb := inB_iff.1 h.1
  have h1 : noC 46 ((if m < 0 then [45] else []) ++ Lib.itoa ((m.natAbs / 1000 : Nat) : Int)) := by
    refine noC_app ?_ (dot_no _)
    split
    · exact noC_cons (by decide) (noC_nil _)
    · exact noC_nil _
  have e : l = ((if m < 0 then [45] else []) ++ Lib.itoa ((m.natAbs / 1000 : Nat) : Int)) ++ 46 :: three (m.natAbs % 1000) := by rw [h.2, magL, List.append_assoc]; rfl
  rw [e, spl_at _ h1, spl_no (three_no (by omega))]
/-- a part of a text, out of the row -/
theorem part_cell {w : World} {B g cap : Nat} {E : TypeId} {P : List (List UInt8)} (h : w.ownsRow B E 1 (.slice (some ⟨g, 0, none⟩) P.length cap) P.length (strs P)) {k : Nat} {x : List UInt8} (hx : P[k]? = some x) : w.cell? ⟨g, k, none⟩ = some (.string ⟨x.toArray⟩) := by
  have := h.cells (g := g) rfl k (.string ⟨x.toArray⟩) (by simp [strs, hx])
  rw [Addr.add_lit, Nat.zero_add] at this
  exact this
/-- what the parts of a magnitude's text must be -/
theorem PM_AB {l A B : List UInt8} {m : Int} (h : PM l m) (hs : spl 46 l = [A, B]) : Lib.hasPrefix A [45] = decide (m < 0) ∧ PN (Lib.trimPrefix A [45]) ((m.natAbs / 1000 : Nat) : Int) ∧ B = three (m.natAbs % 1000) ∧ m.natAbs ≤ 20000 := by
  have e := PM_spl h
  rw [hs] at e
  obtain ⟨eA, e2⟩ := List.cons.inj e
  have eB := (List.cons.inj e2).1
  have hb := inB_iff.1 h.1
  obtain ⟨c, r, hd, c0, c1⟩ := dec_cons (m.natAbs / 1000)
  have hp : Lib.hasPrefix A [45] = decide (m < 0) := by
    by_cases hm : m < 0
    · rw [eA, if_pos hm]; simp [Lib.hasPrefix, hm]
    · rw [eA, if_neg hm, List.nil_append, itoaN', hd, Lib.hasPrefix]
      simp only [List.isPrefixOf, Bool.and_true, hm, decide_false, beq_eq_false_iff_ne]
      rintro rfl
      have e45 : (45 : UInt8).toNat = 45 := rfl
      omega
  refine ⟨hp, ?_, eB, by omega⟩
  have ht : Lib.trimPrefix A [45] = Lib.itoa ((m.natAbs / 1000 : Nat) : Int) := by
    by_cases hm : m < 0
    · rw [Lib.trimPrefix, if_pos (by rw [hp]; simp [hm]), eA, if_pos hm]; rfl
    · rw [Lib.trimPrefix, if_neg (by rw [hp]; simp [hm]), eA, if_neg hm]; rfl
  rw [ht]
  exact PN_small (by omega)
def nnG (v e0 e1 e2 : Int) : Nat → Int
  | 0 => v
  | 1 => 10 * v + e0
  | 2 => 10 * (10 * v + e0) + e1
  | _ => 10 * (10 * (10 * v + e0) + e1) + e2
set_option maxHeartbeats 3200000 in
theorem c_specReadMag (s : ByteArray) (w : World) (hs : s.size ≤ 1048576) :
    Calls Tryz.prog 22 #[.string s] w fun r w' => RMr s.data.toList r ∧ Below w.heap.size w w' := by
  have hL : s.data.toList.length = s.size := by rw [Array.length_toList]; rfl
  have HSP := Lib.hid (fun (X : World) => c_l01Split s 46 X hs)
  have HPS := Lib.hid (fun (m : Int) (h : PM s.data.toList m) => PM_spl h)
  have HSL := Lib.hid (fun x hx => spl_len 46 _ s.data.toList (Nat.le_refl _) x hx)
  obtain ⟨P, hP⟩ : ∃ P, spl 46 s.data.toList = P := ⟨_, rfl⟩
  rw [hP] at HSP HPS HSL
  by_cases h2 : P.length = 2
  case neg =>
    have HR := Lib.hid (RM_no (l := s.data.toList) (v := 0) (fun m hm => h2 (by rw [HPS.out m hm]; rfl)))
    go_enter Tryz.func22, Tryz.ntmps22
    go_wp2_with (first | (go_at_call 9; refine (HSP.out _).mono ?_; rintro e w1 ⟨g, cap, rfl, ho1, hb1⟩; have hz1 := hb1.size))
    go_ret2
    exact ⟨⟨_, _, rfl, HR.out⟩, (by repeat' (first | (with_reducible exact Below.refl _ _) | (with_reducible assumption) | (with_reducible refine Base.via hb1 ?_) | (with_reducible refine Base.grow_alloc ?_ _) | (with_reducible refine Base.below_drewN ?_ _) | (with_reducible refine Below.drew ?_) | (with_reducible refine Below.setCell ?_ ?_ _) | go_size))⟩
  obtain ⟨A, B, rfl⟩ : ∃ A B, P = [A, B] := by
    match P, h2 with
    | [A, B], _ => exact ⟨A, B, rfl⟩
  clear h2
  have hAl : A.length ≤ s.size := by rw [← hL]; exact HSL.out A (by simp)
  have hBs : (⟨B.toArray⟩ : ByteArray).size = B.length := Txt.size_l B
  have hAs : (⟨A.toArray⟩ : ByteArray).size = A.length := Txt.size_l A
  by_cases h3 : B.length = 3
  case neg =>
    have HR := Lib.hid (RM_no (l := s.data.toList) (v := 0) (fun m hm => h3 (by
      have h := HPS.out m hm
      have e := (List.cons.inj (List.cons.inj h).2).1
      rw [e]; rfl)))
    go_enter Tryz.func22, Tryz.ntmps22
    go_wp2_with (first | (go_at_call 9; refine (HSP.out _).mono ?_; rintro e w1 ⟨g, cap, rfl, ho1, hb1⟩; have hz1 := hb1.size; have k1 := part_cell ho1 (k := 1) (x := B) rfl; simp only [List.length_cons, List.length_nil] at ho1 ⊢))
    go_ret2
    exact ⟨⟨_, _, rfl, HR.out⟩, (by repeat' (first | (with_reducible exact Below.refl _ _) | (with_reducible assumption) | (with_reducible refine Base.via hb1 ?_) | (with_reducible refine Base.grow_alloc ?_ _) | (with_reducible refine Base.below_drewN ?_ _) | (with_reducible refine Below.drew ?_) | (with_reducible refine Below.setCell ?_ ?_ _) | go_size))⟩
  have HAB := Lib.hid (fun (m : Int) (h : PM s.data.toList m) => PM_AB h hP)
  have HPV := Lib.hid (fun (m : Int) (h : PM s.data.toList m) => (PM_parts h).2.2.2)
  clear HPS HSL hP
  by_cases hA0 : 0 < A.length
  case neg =>
    have hAe : A = [] := List.eq_nil_of_length_eq_zero (by omega)
    have HR := Lib.hid (RM_no (l := s.data.toList) (v := 0) (fun m hm => by
      have h := PN_len (HAB.out m hm).2.1
      rw [hAe] at h
      simp [Lib.trimPrefix, Lib.hasPrefix] at h))
    have HNB : Hid (∀ X : World, Calls Tryz.prog 21 #[.string ⟨A.toArray⟩] X fun r w' => (∃ v, r = .returned (.tuple #[.int .i64 v, .bool false])) ∧ Below X.heap.size X w') := Lib.hid (fun X => (c_l01Number ⟨A.toArray⟩ X (by omega)).mono (fun r w' h => by
      obtain ⟨⟨v, b, rfl, hr⟩, hb⟩ := h
      cases b
      · exact ⟨⟨v, rfl⟩, hb⟩
      · exfalso
        have h := PN_len (hr.1 rfl)
        simp [hAe, Lib.trimPrefix, Lib.hasPrefix] at h))
    clear hAe
    go_enter Tryz.func22, Tryz.ntmps22
    go_wp2_with (first | (go_at_call 9; refine (HSP.out _).mono ?_; rintro e w1 ⟨g, cap, rfl, ho1, hb1⟩; have hz1 := hb1.size; have k1 := part_cell ho1 (k := 1) (x := B) rfl; have k0 := part_cell ho1 (k := 0) (x := A) rfl; simp only [List.length_cons, List.length_nil] at ho1 ⊢) | (go_at_call 21; refine (HNB.out _).mono ?_; rintro r w2 ⟨⟨v, rfl⟩, hb2⟩))
    go_ret2
    exact ⟨⟨_, _, rfl, HR.out⟩, (by repeat' (first | (with_reducible exact Below.refl _ _) | (with_reducible assumption) | (with_reducible refine Base.via hb2 ?_) | (with_reducible refine Base.via hb1 ?_) | (with_reducible refine Base.grow_alloc ?_ _) | (with_reducible refine Base.below_drewN ?_ _) | (with_reducible refine Below.drew ?_) | (with_reducible refine Below.setCell ?_ ?_ _) | go_size))⟩
  obtain ⟨AS, hASe⟩ : ∃ AS : ByteArray, (⟨A.toArray⟩ : ByteArray) = AS := ⟨_, rfl⟩
  have hAL : AS.data.toList = A := by rw [← hASe]
  rw [hASe] at hAs
  have hA1 : 0 < AS.size := by omega
  have hA2 : AS.size ≤ 1048576 := by omega
  clear hA0 hAs hAl
  obtain ⟨c0, hc0⟩ : ∃ c0, by8 AS 0 = c0 := ⟨_, rfl⟩
  have g0 : (((AS[0]'(by omega)).toNat : Nat) : Int) = c0 := (by8_eq (s := AS) (i := 0) (by omega)).trans hc0
  have HC0 := Lib.hid hc0
  clear hc0
  by_cases h45 : c0 = 45
  · have hpre : Lib.hasPrefix A [45] = true := hAL ▸ pre_yes (by omega) (by rw [HC0.out]; exact h45)
    obtain ⟨WS, hWe⟩ : ∃ WS : ByteArray, AS.extract 1 AS.size = WS := ⟨_, rfl⟩
    have hWL : WS.data.toList = Lib.trimPrefix A [45] := by rw [← hWe, Lib.extract_data, Lib.trimPrefix, if_pos hpre, hAL]; exact List.take_of_length_le (by rw [List.length_drop, ← hAL, Array.length_toList]; exact Nat.le_refl _)
    have hWs : WS.size ≤ 1048576 := by rw [← hWe]; simp [ByteArray.size_extract]; omega
    have hx : (c0 == 45) = true := by simp [h45]
    have HNB := Lib.hid (fun (X : World) => c_l01Number WS X hWs)
    rw [hWL] at HNB
    have HSG := Lib.hid (fun (m : Int) (h : PM s.data.toList m) => (hpre ▸ (HAB.out m h).1 : true = decide (m < 0)))
    clear hpre HC0 hWs hAL
    go_enter Tryz.func22, Tryz.ntmps22
    go_wp2_with (first | (go_at_call 9; refine (HSP.out _).mono ?_; rintro e w1 ⟨g, cap, rfl, ho1, hb1⟩; have hz1 := hb1.size; have k1 := part_cell ho1 (k := 1) (x := B) rfl; have k0 := part_cell ho1 (k := 0) (x := A) rfl; rw [hASe] at k0; simp only [List.length_cons, List.length_nil] at ho1 ⊢) | (go_at_call 21; refine (HNB.out _).mono ?_; rintro r w2 ⟨⟨v, b, rfl, hrn⟩, hb2⟩; have k2 := cell_call hb2 k1; have HRN := Lib.hid hrn; clear hrn; cases b))
    · have HR := Lib.hid (RM_no (l := s.data.toList) (v := 0) (fun m hm => by
        have h1 := (HRN.out.2 _ (HAB.out m hm).2.1).1
        cases h1))
      go_ret2
      exact ⟨⟨_, _, rfl, HR.out⟩, (by repeat' (first | (with_reducible exact Below.refl _ _) | (with_reducible assumption) | (with_reducible refine Base.via hb2 ?_) | (with_reducible refine Base.via hb1 ?_) | (with_reducible refine Base.grow_alloc ?_ _) | (with_reducible refine Base.below_drewN ?_ _) | (with_reducible refine Below.drew ?_) | (with_reducible refine Below.setCell ?_ ?_ _) | go_size))⟩
    have HVU := Lib.hid (fun (m : Int) (hm : PM s.data.toList m) => (HRN.out.2 _ (HAB.out m hm).2.1).2)
    cases hin : inB v 0 20
    · have HR := Lib.hid (RM_no (l := s.data.toList) (v := 0) (fun m hm => by
        have h1 := HVU.out m hm
        have h2 := (HAB.out m hm).2.2.2
        rw [inB_iff.2 (by omega)] at hin
        cases hin))
      have HIN : Hid (∀ X : World, Calls Tryz.prog 41 #[.int .i64 v, .int .i64 0, .int .i64 20] X fun e w' => e = .returned (.bool false) ∧ X = w') := Lib.hid (fun X => by have h := c_l00In v 0 20 X; rw [hin] at h; exact h)
      clear hin
      go_wp2_with (first | (go_at_call 41; refine (HIN.out _).mono ?_; rintro e w' ⟨rfl, rfl⟩))
      go_ret2
      exact ⟨⟨_, _, rfl, HR.out⟩, (by repeat' (first | (with_reducible exact Below.refl _ _) | (with_reducible assumption) | (with_reducible refine Base.via hb2 ?_) | (with_reducible refine Base.via hb1 ?_) | (with_reducible refine Base.grow_alloc ?_ _) | (with_reducible refine Base.below_drewN ?_ _) | (with_reducible refine Below.drew ?_) | (with_reducible refine Below.setCell ?_ ?_ _) | go_size))⟩
    have HIN : Hid (∀ X : World, Calls Tryz.prog 41 #[.int .i64 v, .int .i64 0, .int .i64 20] X fun e w' => e = .returned (.bool true) ∧ X = w') := Lib.hid (fun X => by have h := c_l00In v 0 20 X; rw [hin] at h; exact h)
    obtain ⟨v0, v1⟩ := inB_iff.1 hin
    clear hin
    go_wp2_with (first | (go_at_call 41; refine (HIN.out _).mono ?_; rintro e w' ⟨rfl, rfl⟩))
    obtain ⟨BS, hBe⟩ : ∃ BS : ByteArray, (⟨B.toArray⟩ : ByteArray) = BS := ⟨_, rfl⟩
    have hBL : BS.data.toList = B := by rw [← hBe]
    simp only [hBe] at hBs k2 ⊢
    obtain ⟨c0, hc0, hx0⟩ := by8_list (t := BS) (k := 0) (by omega)
    obtain ⟨c1, hc1, hx1⟩ := by8_list (t := BS) (k := 1) (by omega)
    obtain ⟨c2, hc2, hx2⟩ := by8_list (t := BS) (k := 2) (by omega)
    have f0 : (((BS[0]'(by omega)).toNat : Nat) : Int) = ((c0.toNat : Nat) : Int) := (by8_eq (s := BS) (i := 0) (by omega)).trans hx0
    have f1 : (((BS[1]'(by omega)).toNat : Nat) : Int) = ((c1.toNat : Nat) : Int) := (by8_eq (s := BS) (i := 1) (by omega)).trans hx1
    have f2 : (((BS[2]'(by omega)).toNat : Nat) : Int) = ((c2.toNat : Nat) : Int) := (by8_eq (s := BS) (i := 2) (by omega)).trans hx2
    have hB3 : B = [c0, c1, c2] := by
      rw [hBL] at hc0 hc1 hc2
      match B, h3, hc0, hc1, hc2 with
      | [a, b, c], _, hc0, hc1, hc2 =>
        simp only [List.getElem?_cons_zero, List.getElem?_cons_succ, Option.some.injEq] at hc0 hc1 hc2
        rw [hc0, hc1, hc2]
    clear hc0 hc1 hc2 hx0 hx1 hx2
    obtain ⟨e0, he0⟩ : ∃ e0, (c0.toNat : Int) - 48 = e0 := ⟨_, rfl⟩
    obtain ⟨e1, he1⟩ : ∃ e1, (c1.toNat : Int) - 48 = e1 := ⟨_, rfl⟩
    obtain ⟨e2, he2⟩ : ∃ e2, (c2.toNat : Int) - 48 = e2 := ⟨_, rfl⟩
    go_loopw [9, 7] (fun i n wr => ∃ k : Nat, k ≤ 3 ∧ i = .int .i64 k ∧ n = .int .i64 (nnG v e0 e1 e2 k) ∧ Hid ((1 ≤ k → dgB c0 = true) ∧ (2 ≤ k → dgB c1 = true) ∧ (3 ≤ k → dgB c2 = true)) ∧ wr = w2) (fun i _ _ => 3 - (intOf i).toNat)
    case atStart => exact ⟨0, by omega, rfl, rfl, (show (1 ≤ 0 → dgB c0 = true) ∧ (2 ≤ 0 → dgB c1 = true) ∧ (3 ≤ 0 → dgB c2 = true) from ⟨fun h => by omega, fun h => by omega, fun h => by omega⟩), rfl⟩
    case round =>
      obtain ⟨k, hk, rfl, rfl, hdg, rfl⟩ := hrel
      rcases (show k = 0 ∨ k = 1 ∨ k = 2 ∨ k = 3 by omega) with rfl | rfl | rfl | rfl
      · rw [show nnG v e0 e1 e2 0 = v from rfl]
        by_cases hd : dgB c0 = true
        · obtain ⟨d0, d1⟩ := dgB_iff.1 hd
          have HDI : Hid (∀ X : World, Calls Tryz.prog 39 #[.int .u8 (c0.toNat : Int)] X fun e w' => e = .returned (.bool true) ∧ X = w') := Lib.hid (fun X => by have h := Name.c_l01Digit (c0.toNat : Int) X; rw [show (decide (48 ≤ (c0.toNat : Int)) && decide ((c0.toNat : Int) ≤ 57)) = true by simp; omega] at h; exact h)
          have HD := Lib.hid hd
          clear hd
          go_wp2_with (first | (go_at_call 39; refine (HDI.out _).mono ?_; rintro e w' ⟨rfl, rfl⟩))
          go_roundw
          case rel => exact ⟨1, by omega, rfl, congrArg (Value.int .i64) (by show _ = 10 * v + e0; omega), (show (1 ≤ 1 → dgB c0 = true) ∧ (2 ≤ 1 → dgB c1 = true) ∧ (3 ≤ 1 → dgB c2 = true) from ⟨fun _ => HD.out, fun h => by omega, fun h => by omega⟩), trivial⟩
          case measure => decide
        · have HR := Lib.hid (RM_no (l := s.data.toList) (v := 0) (fun m hm => hd (by
            have e := (HAB.out m hm).2.2.1
            refine three_dg (v := m.natAbs % 1000) (by omega) c0 ?_
            rw [← e, hB3]; simp)))
          have HDI : Hid (∀ X : World, Calls Tryz.prog 39 #[.int .u8 (c0.toNat : Int)] X fun e w' => e = .returned (.bool false) ∧ X = w') := Lib.hid (fun X => by have h := Name.c_l01Digit (c0.toNat : Int) X; rw [show (decide (48 ≤ (c0.toNat : Int)) && decide ((c0.toNat : Int) ≤ 57)) = false by (have h9 : ¬ (48 ≤ c0.toNat ∧ c0.toNat ≤ 57) := fun h => hd (dgB_iff.2 h)); rw [Bool.and_eq_false_iff, decide_eq_false_iff_not, decide_eq_false_iff_not]; omega] at h; exact h)
          clear hd
          go_wp2_with (first | (go_at_call 39; refine (HDI.out _).mono ?_; rintro e w' ⟨rfl, rfl⟩))
          go_ret2
          exact ⟨⟨_, _, rfl, HR.out⟩, (by repeat' (first | (with_reducible exact Below.refl _ _) | (with_reducible assumption) | (with_reducible refine Base.via hb2 ?_) | (with_reducible refine Base.via hb1 ?_) | (with_reducible refine Base.grow_alloc ?_ _) | (with_reducible refine Base.below_drewN ?_ _) | (with_reducible refine Below.drew ?_) | (with_reducible refine Below.setCell ?_ ?_ _) | go_size))⟩
      · rw [show nnG v e0 e1 e2 1 = 10 * v + e0 from rfl]
        by_cases hd : dgB c1 = true
        · obtain ⟨d0, d1⟩ := dgB_iff.1 hd
          have HDI : Hid (∀ X : World, Calls Tryz.prog 39 #[.int .u8 (c1.toNat : Int)] X fun e w' => e = .returned (.bool true) ∧ X = w') := Lib.hid (fun X => by have h := Name.c_l01Digit (c1.toNat : Int) X; rw [show (decide (48 ≤ (c1.toNat : Int)) && decide ((c1.toNat : Int) ≤ 57)) = true by simp; omega] at h; exact h)
          have HD := Lib.hid hd
          clear hd
          obtain ⟨z0, z0'⟩ := dgB_iff.1 (hdg.out.1 (by omega))
          go_wp2_with (first | (go_at_call 39; refine (HDI.out _).mono ?_; rintro e w' ⟨rfl, rfl⟩))
          go_roundw
          case rel => exact ⟨2, by omega, rfl, congrArg (Value.int .i64) (by show _ = 10 * (10 * v + e0) + e1; omega), (show (1 ≤ 2 → dgB c0 = true) ∧ (2 ≤ 2 → dgB c1 = true) ∧ (3 ≤ 2 → dgB c2 = true) from ⟨fun _ => hdg.out.1 (by omega), fun _ => HD.out, fun h => by omega⟩), trivial⟩
          case measure => decide
        · have HR := Lib.hid (RM_no (l := s.data.toList) (v := 0) (fun m hm => hd (by
            have e := (HAB.out m hm).2.2.1
            refine three_dg (v := m.natAbs % 1000) (by omega) c1 ?_
            rw [← e, hB3]; simp)))
          have HDI : Hid (∀ X : World, Calls Tryz.prog 39 #[.int .u8 (c1.toNat : Int)] X fun e w' => e = .returned (.bool false) ∧ X = w') := Lib.hid (fun X => by have h := Name.c_l01Digit (c1.toNat : Int) X; rw [show (decide (48 ≤ (c1.toNat : Int)) && decide ((c1.toNat : Int) ≤ 57)) = false by (have h9 : ¬ (48 ≤ c1.toNat ∧ c1.toNat ≤ 57) := fun h => hd (dgB_iff.2 h)); rw [Bool.and_eq_false_iff, decide_eq_false_iff_not, decide_eq_false_iff_not]; omega] at h; exact h)
          clear hd
          go_wp2_with (first | (go_at_call 39; refine (HDI.out _).mono ?_; rintro e w' ⟨rfl, rfl⟩))
          go_ret2
          exact ⟨⟨_, _, rfl, HR.out⟩, (by repeat' (first | (with_reducible exact Below.refl _ _) | (with_reducible assumption) | (with_reducible refine Base.via hb2 ?_) | (with_reducible refine Base.via hb1 ?_) | (with_reducible refine Base.grow_alloc ?_ _) | (with_reducible refine Base.below_drewN ?_ _) | (with_reducible refine Below.drew ?_) | (with_reducible refine Below.setCell ?_ ?_ _) | go_size))⟩
      · rw [show nnG v e0 e1 e2 2 = 10 * (10 * v + e0) + e1 from rfl]
        by_cases hd : dgB c2 = true
        · obtain ⟨d0, d1⟩ := dgB_iff.1 hd
          have HDI : Hid (∀ X : World, Calls Tryz.prog 39 #[.int .u8 (c2.toNat : Int)] X fun e w' => e = .returned (.bool true) ∧ X = w') := Lib.hid (fun X => by have h := Name.c_l01Digit (c2.toNat : Int) X; rw [show (decide (48 ≤ (c2.toNat : Int)) && decide ((c2.toNat : Int) ≤ 57)) = true by simp; omega] at h; exact h)
          have HD := Lib.hid hd
          clear hd
          obtain ⟨z0, z0'⟩ := dgB_iff.1 (hdg.out.1 (by omega))
          obtain ⟨z1, z1'⟩ := dgB_iff.1 (hdg.out.2.1 (by omega))
          go_wp2_with (first | (go_at_call 39; refine (HDI.out _).mono ?_; rintro e w' ⟨rfl, rfl⟩))
          go_roundw
          case rel => exact ⟨3, by omega, rfl, congrArg (Value.int .i64) (by show _ = 10 * (10 * (10 * v + e0) + e1) + e2; omega), (show (1 ≤ 3 → dgB c0 = true) ∧ (2 ≤ 3 → dgB c1 = true) ∧ (3 ≤ 3 → dgB c2 = true) from ⟨fun _ => hdg.out.1 (by omega), fun _ => hdg.out.2.1 (by omega), fun _ => HD.out⟩), trivial⟩
          case measure => decide
        · have HR := Lib.hid (RM_no (l := s.data.toList) (v := 0) (fun m hm => hd (by
            have e := (HAB.out m hm).2.2.1
            refine three_dg (v := m.natAbs % 1000) (by omega) c2 ?_
            rw [← e, hB3]; simp)))
          have HDI : Hid (∀ X : World, Calls Tryz.prog 39 #[.int .u8 (c2.toNat : Int)] X fun e w' => e = .returned (.bool false) ∧ X = w') := Lib.hid (fun X => by have h := Name.c_l01Digit (c2.toNat : Int) X; rw [show (decide (48 ≤ (c2.toNat : Int)) && decide ((c2.toNat : Int) ≤ 57)) = false by (have h9 : ¬ (48 ≤ c2.toNat ∧ c2.toNat ≤ 57) := fun h => hd (dgB_iff.2 h)); rw [Bool.and_eq_false_iff, decide_eq_false_iff_not, decide_eq_false_iff_not]; omega] at h; exact h)
          clear hd
          go_wp2_with (first | (go_at_call 39; refine (HDI.out _).mono ?_; rintro e w' ⟨rfl, rfl⟩))
          go_ret2
          exact ⟨⟨_, _, rfl, HR.out⟩, (by repeat' (first | (with_reducible exact Below.refl _ _) | (with_reducible assumption) | (with_reducible refine Base.via hb2 ?_) | (with_reducible refine Base.via hb1 ?_) | (with_reducible refine Base.grow_alloc ?_ _) | (with_reducible refine Base.below_drewN ?_ _) | (with_reducible refine Below.drew ?_) | (with_reducible refine Below.setCell ?_ ?_ _) | go_size))⟩
      · rw [show nnG v e0 e1 e2 3 = 10 * (10 * (10 * v + e0) + e1) + e2 from rfl]
        obtain ⟨z0, z0'⟩ := dgB_iff.1 (hdg.out.1 (by omega))
        obtain ⟨z1, z1'⟩ := dgB_iff.1 (hdg.out.2.1 (by omega))
        obtain ⟨z2, z2'⟩ := dgB_iff.1 (hdg.out.2.2 (by omega))
        have HMU : Hid (∀ m, PM s.data.toList m → -(10 * (10 * (10 * v + e0) + e1) + e2) = m) := Lib.hid (fun m hm => by
          have w1 := HVU.out m hm
          obtain ⟨_, _, w2, w3⟩ := HAB.out m hm
          have w4 := HSG.out m hm
          rw [hB3, three] at w2
          obtain ⟨q0, w5⟩ := List.cons.inj w2
          obtain ⟨q1, w6⟩ := List.cons.inj w5
          obtain ⟨q2, _⟩ := List.cons.inj w6
          have t0 := dg_of (show m.natAbs % 1000 / 100 < 10 by omega)
          have t1 := dg_of (show m.natAbs % 1000 / 10 % 10 < 10 by omega)
          have t2 := dg_of (show m.natAbs % 1000 % 10 < 10 by omega)
          rw [← q0] at t0
          rw [← q1] at t1
          rw [← q2] at t2
          have w5 : m < 0 := by simpa using w4.symm
          omega)
        have hM0 : 0 ≤ 10 * (10 * (10 * v + e0) + e1) + e2 := by omega
        have hM1 : 10 * (10 * (10 * v + e0) + e1) + e2 ≤ 60000 := by omega
        clear f0 f1 f2 he0 he1 he2 z0 z0' z1 z1' z2 z2' hdg
        generalize 10 * (10 * (10 * v + e0) + e1) + e2 = N at *
        cases hin : inB (-N) (-2000) 20000
        · have HR := Lib.hid (RM_no (l := s.data.toList) (v := 0) (fun m hm => by
            have h1 := hm.1
            rw [← HMU.out m hm, hin] at h1
            cases h1))
          have HMG : Hid (∀ X : World, Calls Tryz.prog 42 #[.int .i64 (-N)] X fun e w' => e = .returned (.bool false) ∧ X = w') := Lib.hid (fun X => by have h := c_l02Mag (-N) X; rw [hin] at h; exact h)
          clear hin
          go_wp2_with (first | (go_at_call 42; refine (HMG.out _).mono ?_; rintro e w' ⟨rfl, rfl⟩))
          go_ret2
          exact ⟨⟨_, _, rfl, HR.out⟩, (by repeat' (first | (with_reducible exact Below.refl _ _) | (with_reducible assumption) | (with_reducible refine Base.via hb2 ?_) | (with_reducible refine Base.via hb1 ?_) | (with_reducible refine Base.grow_alloc ?_ _) | (with_reducible refine Base.below_drewN ?_ _) | (with_reducible refine Below.drew ?_) | (with_reducible refine Below.setCell ?_ ?_ _) | go_size))⟩
        · have HMG : Hid (∀ X : World, Calls Tryz.prog 42 #[.int .i64 (-N)] X fun e w' => e = .returned (.bool true) ∧ X = w') := Lib.hid (fun X => by have h := c_l02Mag (-N) X; rw [hin] at h; exact h)
          have HMT : Hid (∀ X : World, Calls Tryz.prog 43 #[.int .i64 (-N)] X fun e w' => e = .returned (.string ⟨(magL (-N)).toArray⟩) ∧ Below X.heap.size X w') := Lib.hid (fun X => c_l02Text (-N) X hin)
          by_cases heq : magL (-N) = s.data.toList
          · have HR := Lib.hid (mag_end hin heq)
            have hcmp : ((⟨(magL (-N)).toArray⟩ : ByteArray).toList == s.toList) = true := bts_yes (by simpa using heq)
            clear heq hin
            generalize (⟨(magL (-N)).toArray⟩ : ByteArray) = VS at *
            go_wp2_with (first | (go_at_call 42; refine (HMG.out _).mono ?_; rintro e w' ⟨rfl, rfl⟩) | (go_at_call 43; refine (HMT.out _).mono ?_; rintro e w3 ⟨rfl, hb3⟩; obtain ⟨chb3, fhb3⟩ := Base.bcell hb3; have zhb3 := (hb3).size; (try simp at zhb3); (try have yhb3 : w.heap.size < (w3).heap.size := by omega)))
            go_ret2
            exact ⟨⟨_, _, rfl, HR.out⟩, (by repeat' (first | (with_reducible exact Below.refl _ _) | (with_reducible assumption) | (with_reducible refine Base.via hb3 ?_) | (with_reducible refine Base.via hb2 ?_) | (with_reducible refine Base.via hb1 ?_) | (with_reducible refine Base.grow_alloc ?_ _) | (with_reducible refine Base.below_drewN ?_ _) | (with_reducible refine Below.drew ?_) | (with_reducible refine Below.setCell ?_ ?_ _) | go_size))⟩
          · have HR := Lib.hid (RM_no (l := s.data.toList) (v := 0) (fun m hm => heq (by rw [HMU.out m hm]; exact hm.2.symm)))
            have hcmp : ((⟨(magL (-N)).toArray⟩ : ByteArray).toList == s.toList) = false := bts_no (by simpa using heq)
            clear heq hin
            generalize (⟨(magL (-N)).toArray⟩ : ByteArray) = VS at *
            go_wp2_with (first | (go_at_call 42; refine (HMG.out _).mono ?_; rintro e w' ⟨rfl, rfl⟩) | (go_at_call 43; refine (HMT.out _).mono ?_; rintro e w3 ⟨rfl, hb3⟩; obtain ⟨chb3, fhb3⟩ := Base.bcell hb3; have zhb3 := (hb3).size; (try simp at zhb3); (try have yhb3 : w.heap.size < (w3).heap.size := by omega)))
            go_ret2
            exact ⟨⟨_, _, rfl, HR.out⟩, (by repeat' (first | (with_reducible exact Below.refl _ _) | (with_reducible assumption) | (with_reducible refine Base.via hb3 ?_) | (with_reducible refine Base.via hb2 ?_) | (with_reducible refine Base.via hb1 ?_) | (with_reducible refine Base.grow_alloc ?_ _) | (with_reducible refine Base.below_drewN ?_ _) | (with_reducible refine Below.drew ?_) | (with_reducible refine Below.setCell ?_ ?_ _) | go_size))⟩
  · have hpre : Lib.hasPrefix A [45] = false := hAL ▸ pre_no (fun h => h45 (by rw [← HC0.out]; exact h))
    have hWL : AS.data.toList = Lib.trimPrefix A [45] := by rw [Lib.trimPrefix, if_neg (by rw [hpre]; exact Bool.false_ne_true)]; exact hAL
    have hWs : AS.size ≤ 1048576 := by omega
    have hx : (c0 == 45) = false := by simp [h45]
    have HNB := Lib.hid (fun (X : World) => c_l01Number AS X hWs)
    rw [hWL] at HNB
    have HSG := Lib.hid (fun (m : Int) (h : PM s.data.toList m) => (hpre ▸ (HAB.out m h).1 : false = decide (m < 0)))
    clear hpre HC0 hWs hAL
    go_enter Tryz.func22, Tryz.ntmps22
    go_wp2_with (first | (go_at_call 9; refine (HSP.out _).mono ?_; rintro e w1 ⟨g, cap, rfl, ho1, hb1⟩; have hz1 := hb1.size; have k1 := part_cell ho1 (k := 1) (x := B) rfl; have k0 := part_cell ho1 (k := 0) (x := A) rfl; rw [hASe] at k0; simp only [List.length_cons, List.length_nil] at ho1 ⊢) | (go_at_call 21; refine (HNB.out _).mono ?_; rintro r w2 ⟨⟨v, b, rfl, hrn⟩, hb2⟩; have k2 := cell_call hb2 k1; have HRN := Lib.hid hrn; clear hrn; cases b))
    · have HR := Lib.hid (RM_no (l := s.data.toList) (v := 0) (fun m hm => by
        have h1 := (HRN.out.2 _ (HAB.out m hm).2.1).1
        cases h1))
      go_ret2
      exact ⟨⟨_, _, rfl, HR.out⟩, (by repeat' (first | (with_reducible exact Below.refl _ _) | (with_reducible assumption) | (with_reducible refine Base.via hb2 ?_) | (with_reducible refine Base.via hb1 ?_) | (with_reducible refine Base.grow_alloc ?_ _) | (with_reducible refine Base.below_drewN ?_ _) | (with_reducible refine Below.drew ?_) | (with_reducible refine Below.setCell ?_ ?_ _) | go_size))⟩
    have HVU := Lib.hid (fun (m : Int) (hm : PM s.data.toList m) => (HRN.out.2 _ (HAB.out m hm).2.1).2)
    cases hin : inB v 0 20
    · have HR := Lib.hid (RM_no (l := s.data.toList) (v := 0) (fun m hm => by
        have h1 := HVU.out m hm
        have h2 := (HAB.out m hm).2.2.2
        rw [inB_iff.2 (by omega)] at hin
        cases hin))
      have HIN : Hid (∀ X : World, Calls Tryz.prog 41 #[.int .i64 v, .int .i64 0, .int .i64 20] X fun e w' => e = .returned (.bool false) ∧ X = w') := Lib.hid (fun X => by have h := c_l00In v 0 20 X; rw [hin] at h; exact h)
      clear hin
      go_wp2_with (first | (go_at_call 41; refine (HIN.out _).mono ?_; rintro e w' ⟨rfl, rfl⟩))
      go_ret2
      exact ⟨⟨_, _, rfl, HR.out⟩, (by repeat' (first | (with_reducible exact Below.refl _ _) | (with_reducible assumption) | (with_reducible refine Base.via hb2 ?_) | (with_reducible refine Base.via hb1 ?_) | (with_reducible refine Base.grow_alloc ?_ _) | (with_reducible refine Base.below_drewN ?_ _) | (with_reducible refine Below.drew ?_) | (with_reducible refine Below.setCell ?_ ?_ _) | go_size))⟩
    have HIN : Hid (∀ X : World, Calls Tryz.prog 41 #[.int .i64 v, .int .i64 0, .int .i64 20] X fun e w' => e = .returned (.bool true) ∧ X = w') := Lib.hid (fun X => by have h := c_l00In v 0 20 X; rw [hin] at h; exact h)
    obtain ⟨v0, v1⟩ := inB_iff.1 hin
    clear hin
    go_wp2_with (first | (go_at_call 41; refine (HIN.out _).mono ?_; rintro e w' ⟨rfl, rfl⟩))
    obtain ⟨BS, hBe⟩ : ∃ BS : ByteArray, (⟨B.toArray⟩ : ByteArray) = BS := ⟨_, rfl⟩
    have hBL : BS.data.toList = B := by rw [← hBe]
    simp only [hBe] at hBs k2 ⊢
    obtain ⟨c0, hc0, hx0⟩ := by8_list (t := BS) (k := 0) (by omega)
    obtain ⟨c1, hc1, hx1⟩ := by8_list (t := BS) (k := 1) (by omega)
    obtain ⟨c2, hc2, hx2⟩ := by8_list (t := BS) (k := 2) (by omega)
    have f0 : (((BS[0]'(by omega)).toNat : Nat) : Int) = ((c0.toNat : Nat) : Int) := (by8_eq (s := BS) (i := 0) (by omega)).trans hx0
    have f1 : (((BS[1]'(by omega)).toNat : Nat) : Int) = ((c1.toNat : Nat) : Int) := (by8_eq (s := BS) (i := 1) (by omega)).trans hx1
    have f2 : (((BS[2]'(by omega)).toNat : Nat) : Int) = ((c2.toNat : Nat) : Int) := (by8_eq (s := BS) (i := 2) (by omega)).trans hx2
    have hB3 : B = [c0, c1, c2] := by
      rw [hBL] at hc0 hc1 hc2
      match B, h3, hc0, hc1, hc2 with
      | [a, b, c], _, hc0, hc1, hc2 =>
        simp only [List.getElem?_cons_zero, List.getElem?_cons_succ, Option.some.injEq] at hc0 hc1 hc2
        rw [hc0, hc1, hc2]
    clear hc0 hc1 hc2 hx0 hx1 hx2
    obtain ⟨e0, he0⟩ : ∃ e0, (c0.toNat : Int) - 48 = e0 := ⟨_, rfl⟩
    obtain ⟨e1, he1⟩ : ∃ e1, (c1.toNat : Int) - 48 = e1 := ⟨_, rfl⟩
    obtain ⟨e2, he2⟩ : ∃ e2, (c2.toNat : Int) - 48 = e2 := ⟨_, rfl⟩
    go_loopw [9, 7] (fun i n wr => ∃ k : Nat, k ≤ 3 ∧ i = .int .i64 k ∧ n = .int .i64 (nnG v e0 e1 e2 k) ∧ Hid ((1 ≤ k → dgB c0 = true) ∧ (2 ≤ k → dgB c1 = true) ∧ (3 ≤ k → dgB c2 = true)) ∧ wr = w2) (fun i _ _ => 3 - (intOf i).toNat)
    case atStart => exact ⟨0, by omega, rfl, rfl, (show (1 ≤ 0 → dgB c0 = true) ∧ (2 ≤ 0 → dgB c1 = true) ∧ (3 ≤ 0 → dgB c2 = true) from ⟨fun h => by omega, fun h => by omega, fun h => by omega⟩), rfl⟩
    case round =>
      obtain ⟨k, hk, rfl, rfl, hdg, rfl⟩ := hrel
      rcases (show k = 0 ∨ k = 1 ∨ k = 2 ∨ k = 3 by omega) with rfl | rfl | rfl | rfl
      · rw [show nnG v e0 e1 e2 0 = v from rfl]
        by_cases hd : dgB c0 = true
        · obtain ⟨d0, d1⟩ := dgB_iff.1 hd
          have HDI : Hid (∀ X : World, Calls Tryz.prog 39 #[.int .u8 (c0.toNat : Int)] X fun e w' => e = .returned (.bool true) ∧ X = w') := Lib.hid (fun X => by have h := Name.c_l01Digit (c0.toNat : Int) X; rw [show (decide (48 ≤ (c0.toNat : Int)) && decide ((c0.toNat : Int) ≤ 57)) = true by simp; omega] at h; exact h)
          have HD := Lib.hid hd
          clear hd
          go_wp2_with (first | (go_at_call 39; refine (HDI.out _).mono ?_; rintro e w' ⟨rfl, rfl⟩))
          go_roundw
          case rel => exact ⟨1, by omega, rfl, congrArg (Value.int .i64) (by show _ = 10 * v + e0; omega), (show (1 ≤ 1 → dgB c0 = true) ∧ (2 ≤ 1 → dgB c1 = true) ∧ (3 ≤ 1 → dgB c2 = true) from ⟨fun _ => HD.out, fun h => by omega, fun h => by omega⟩), trivial⟩
          case measure => decide
        · have HR := Lib.hid (RM_no (l := s.data.toList) (v := 0) (fun m hm => hd (by
            have e := (HAB.out m hm).2.2.1
            refine three_dg (v := m.natAbs % 1000) (by omega) c0 ?_
            rw [← e, hB3]; simp)))
          have HDI : Hid (∀ X : World, Calls Tryz.prog 39 #[.int .u8 (c0.toNat : Int)] X fun e w' => e = .returned (.bool false) ∧ X = w') := Lib.hid (fun X => by have h := Name.c_l01Digit (c0.toNat : Int) X; rw [show (decide (48 ≤ (c0.toNat : Int)) && decide ((c0.toNat : Int) ≤ 57)) = false by (have h9 : ¬ (48 ≤ c0.toNat ∧ c0.toNat ≤ 57) := fun h => hd (dgB_iff.2 h)); rw [Bool.and_eq_false_iff, decide_eq_false_iff_not, decide_eq_false_iff_not]; omega] at h; exact h)
          clear hd
          go_wp2_with (first | (go_at_call 39; refine (HDI.out _).mono ?_; rintro e w' ⟨rfl, rfl⟩))
          go_ret2
          exact ⟨⟨_, _, rfl, HR.out⟩, (by repeat' (first | (with_reducible exact Below.refl _ _) | (with_reducible assumption) | (with_reducible refine Base.via hb2 ?_) | (with_reducible refine Base.via hb1 ?_) | (with_reducible refine Base.grow_alloc ?_ _) | (with_reducible refine Base.below_drewN ?_ _) | (with_reducible refine Below.drew ?_) | (with_reducible refine Below.setCell ?_ ?_ _) | go_size))⟩
      · rw [show nnG v e0 e1 e2 1 = 10 * v + e0 from rfl]
        by_cases hd : dgB c1 = true
        · obtain ⟨d0, d1⟩ := dgB_iff.1 hd
          have HDI : Hid (∀ X : World, Calls Tryz.prog 39 #[.int .u8 (c1.toNat : Int)] X fun e w' => e = .returned (.bool true) ∧ X = w') := Lib.hid (fun X => by have h := Name.c_l01Digit (c1.toNat : Int) X; rw [show (decide (48 ≤ (c1.toNat : Int)) && decide ((c1.toNat : Int) ≤ 57)) = true by simp; omega] at h; exact h)
          have HD := Lib.hid hd
          clear hd
          obtain ⟨z0, z0'⟩ := dgB_iff.1 (hdg.out.1 (by omega))
          go_wp2_with (first | (go_at_call 39; refine (HDI.out _).mono ?_; rintro e w' ⟨rfl, rfl⟩))
          go_roundw
          case rel => exact ⟨2, by omega, rfl, congrArg (Value.int .i64) (by show _ = 10 * (10 * v + e0) + e1; omega), (show (1 ≤ 2 → dgB c0 = true) ∧ (2 ≤ 2 → dgB c1 = true) ∧ (3 ≤ 2 → dgB c2 = true) from ⟨fun _ => hdg.out.1 (by omega), fun _ => HD.out, fun h => by omega⟩), trivial⟩
          case measure => decide
        · have HR := Lib.hid (RM_no (l := s.data.toList) (v := 0) (fun m hm => hd (by
            have e := (HAB.out m hm).2.2.1
            refine three_dg (v := m.natAbs % 1000) (by omega) c1 ?_
            rw [← e, hB3]; simp)))
          have HDI : Hid (∀ X : World, Calls Tryz.prog 39 #[.int .u8 (c1.toNat : Int)] X fun e w' => e = .returned (.bool false) ∧ X = w') := Lib.hid (fun X => by have h := Name.c_l01Digit (c1.toNat : Int) X; rw [show (decide (48 ≤ (c1.toNat : Int)) && decide ((c1.toNat : Int) ≤ 57)) = false by (have h9 : ¬ (48 ≤ c1.toNat ∧ c1.toNat ≤ 57) := fun h => hd (dgB_iff.2 h)); rw [Bool.and_eq_false_iff, decide_eq_false_iff_not, decide_eq_false_iff_not]; omega] at h; exact h)
          clear hd
          go_wp2_with (first | (go_at_call 39; refine (HDI.out _).mono ?_; rintro e w' ⟨rfl, rfl⟩))
          go_ret2
          exact ⟨⟨_, _, rfl, HR.out⟩, (by repeat' (first | (with_reducible exact Below.refl _ _) | (with_reducible assumption) | (with_reducible refine Base.via hb2 ?_) | (with_reducible refine Base.via hb1 ?_) | (with_reducible refine Base.grow_alloc ?_ _) | (with_reducible refine Base.below_drewN ?_ _) | (with_reducible refine Below.drew ?_) | (with_reducible refine Below.setCell ?_ ?_ _) | go_size))⟩
      · rw [show nnG v e0 e1 e2 2 = 10 * (10 * v + e0) + e1 from rfl]
        by_cases hd : dgB c2 = true
        · obtain ⟨d0, d1⟩ := dgB_iff.1 hd
          have HDI : Hid (∀ X : World, Calls Tryz.prog 39 #[.int .u8 (c2.toNat : Int)] X fun e w' => e = .returned (.bool true) ∧ X = w') := Lib.hid (fun X => by have h := Name.c_l01Digit (c2.toNat : Int) X; rw [show (decide (48 ≤ (c2.toNat : Int)) && decide ((c2.toNat : Int) ≤ 57)) = true by simp; omega] at h; exact h)
          have HD := Lib.hid hd
          clear hd
          obtain ⟨z0, z0'⟩ := dgB_iff.1 (hdg.out.1 (by omega))
          obtain ⟨z1, z1'⟩ := dgB_iff.1 (hdg.out.2.1 (by omega))
          go_wp2_with (first | (go_at_call 39; refine (HDI.out _).mono ?_; rintro e w' ⟨rfl, rfl⟩))
          go_roundw
          case rel => exact ⟨3, by omega, rfl, congrArg (Value.int .i64) (by show _ = 10 * (10 * (10 * v + e0) + e1) + e2; omega), (show (1 ≤ 3 → dgB c0 = true) ∧ (2 ≤ 3 → dgB c1 = true) ∧ (3 ≤ 3 → dgB c2 = true) from ⟨fun _ => hdg.out.1 (by omega), fun _ => hdg.out.2.1 (by omega), fun _ => HD.out⟩), trivial⟩
          case measure => decide
        · have HR := Lib.hid (RM_no (l := s.data.toList) (v := 0) (fun m hm => hd (by
            have e := (HAB.out m hm).2.2.1
            refine three_dg (v := m.natAbs % 1000) (by omega) c2 ?_
            rw [← e, hB3]; simp)))
          have HDI : Hid (∀ X : World, Calls Tryz.prog 39 #[.int .u8 (c2.toNat : Int)] X fun e w' => e = .returned (.bool false) ∧ X = w') := Lib.hid (fun X => by have h := Name.c_l01Digit (c2.toNat : Int) X; rw [show (decide (48 ≤ (c2.toNat : Int)) && decide ((c2.toNat : Int) ≤ 57)) = false by (have h9 : ¬ (48 ≤ c2.toNat ∧ c2.toNat ≤ 57) := fun h => hd (dgB_iff.2 h)); rw [Bool.and_eq_false_iff, decide_eq_false_iff_not, decide_eq_false_iff_not]; omega] at h; exact h)
          clear hd
          go_wp2_with (first | (go_at_call 39; refine (HDI.out _).mono ?_; rintro e w' ⟨rfl, rfl⟩))
          go_ret2
          exact ⟨⟨_, _, rfl, HR.out⟩, (by repeat' (first | (with_reducible exact Below.refl _ _) | (with_reducible assumption) | (with_reducible refine Base.via hb2 ?_) | (with_reducible refine Base.via hb1 ?_) | (with_reducible refine Base.grow_alloc ?_ _) | (with_reducible refine Base.below_drewN ?_ _) | (with_reducible refine Below.drew ?_) | (with_reducible refine Below.setCell ?_ ?_ _) | go_size))⟩
      · rw [show nnG v e0 e1 e2 3 = 10 * (10 * (10 * v + e0) + e1) + e2 from rfl]
        obtain ⟨z0, z0'⟩ := dgB_iff.1 (hdg.out.1 (by omega))
        obtain ⟨z1, z1'⟩ := dgB_iff.1 (hdg.out.2.1 (by omega))
        obtain ⟨z2, z2'⟩ := dgB_iff.1 (hdg.out.2.2 (by omega))
        have HMU : Hid (∀ m, PM s.data.toList m → (10 * (10 * (10 * v + e0) + e1) + e2) = m) := Lib.hid (fun m hm => by
          have w1 := HVU.out m hm
          obtain ⟨_, _, w2, w3⟩ := HAB.out m hm
          have w4 := HSG.out m hm
          rw [hB3, three] at w2
          obtain ⟨q0, w5⟩ := List.cons.inj w2
          obtain ⟨q1, w6⟩ := List.cons.inj w5
          obtain ⟨q2, _⟩ := List.cons.inj w6
          have t0 := dg_of (show m.natAbs % 1000 / 100 < 10 by omega)
          have t1 := dg_of (show m.natAbs % 1000 / 10 % 10 < 10 by omega)
          have t2 := dg_of (show m.natAbs % 1000 % 10 < 10 by omega)
          rw [← q0] at t0
          rw [← q1] at t1
          rw [← q2] at t2
          have w5 : ¬ m < 0 := by simpa using w4.symm
          omega)
        have hM0 : 0 ≤ 10 * (10 * (10 * v + e0) + e1) + e2 := by omega
        have hM1 : 10 * (10 * (10 * v + e0) + e1) + e2 ≤ 60000 := by omega
        clear f0 f1 f2 he0 he1 he2 z0 z0' z1 z1' z2 z2' hdg
        generalize 10 * (10 * (10 * v + e0) + e1) + e2 = N at *
        cases hin : inB (N) (-2000) 20000
        · have HR := Lib.hid (RM_no (l := s.data.toList) (v := 0) (fun m hm => by
            have h1 := hm.1
            rw [← HMU.out m hm, hin] at h1
            cases h1))
          have HMG : Hid (∀ X : World, Calls Tryz.prog 42 #[.int .i64 (N)] X fun e w' => e = .returned (.bool false) ∧ X = w') := Lib.hid (fun X => by have h := c_l02Mag (N) X; rw [hin] at h; exact h)
          clear hin
          go_wp2_with (first | (go_at_call 42; refine (HMG.out _).mono ?_; rintro e w' ⟨rfl, rfl⟩))
          go_ret2
          exact ⟨⟨_, _, rfl, HR.out⟩, (by repeat' (first | (with_reducible exact Below.refl _ _) | (with_reducible assumption) | (with_reducible refine Base.via hb2 ?_) | (with_reducible refine Base.via hb1 ?_) | (with_reducible refine Base.grow_alloc ?_ _) | (with_reducible refine Base.below_drewN ?_ _) | (with_reducible refine Below.drew ?_) | (with_reducible refine Below.setCell ?_ ?_ _) | go_size))⟩
        · have HMG : Hid (∀ X : World, Calls Tryz.prog 42 #[.int .i64 (N)] X fun e w' => e = .returned (.bool true) ∧ X = w') := Lib.hid (fun X => by have h := c_l02Mag (N) X; rw [hin] at h; exact h)
          have HMT : Hid (∀ X : World, Calls Tryz.prog 43 #[.int .i64 (N)] X fun e w' => e = .returned (.string ⟨(magL (N)).toArray⟩) ∧ Below X.heap.size X w') := Lib.hid (fun X => c_l02Text (N) X hin)
          by_cases heq : magL (N) = s.data.toList
          · have HR := Lib.hid (mag_end hin heq)
            have hcmp : ((⟨(magL (N)).toArray⟩ : ByteArray).toList == s.toList) = true := bts_yes (by simpa using heq)
            clear heq hin
            generalize (⟨(magL (N)).toArray⟩ : ByteArray) = VS at *
            go_wp2_with (first | (go_at_call 42; refine (HMG.out _).mono ?_; rintro e w' ⟨rfl, rfl⟩) | (go_at_call 43; refine (HMT.out _).mono ?_; rintro e w3 ⟨rfl, hb3⟩; obtain ⟨chb3, fhb3⟩ := Base.bcell hb3; have zhb3 := (hb3).size; (try simp at zhb3); (try have yhb3 : w.heap.size < (w3).heap.size := by omega)))
            go_ret2
            exact ⟨⟨_, _, rfl, HR.out⟩, (by repeat' (first | (with_reducible exact Below.refl _ _) | (with_reducible assumption) | (with_reducible refine Base.via hb3 ?_) | (with_reducible refine Base.via hb2 ?_) | (with_reducible refine Base.via hb1 ?_) | (with_reducible refine Base.grow_alloc ?_ _) | (with_reducible refine Base.below_drewN ?_ _) | (with_reducible refine Below.drew ?_) | (with_reducible refine Below.setCell ?_ ?_ _) | go_size))⟩
          · have HR := Lib.hid (RM_no (l := s.data.toList) (v := 0) (fun m hm => heq (by rw [HMU.out m hm]; exact hm.2.symm)))
            have hcmp : ((⟨(magL (N)).toArray⟩ : ByteArray).toList == s.toList) = false := bts_no (by simpa using heq)
            clear heq hin
            generalize (⟨(magL (N)).toArray⟩ : ByteArray) = VS at *
            go_wp2_with (first | (go_at_call 42; refine (HMG.out _).mono ?_; rintro e w' ⟨rfl, rfl⟩) | (go_at_call 43; refine (HMT.out _).mono ?_; rintro e w3 ⟨rfl, hb3⟩; obtain ⟨chb3, fhb3⟩ := Base.bcell hb3; have zhb3 := (hb3).size; (try simp at zhb3); (try have yhb3 : w.heap.size < (w3).heap.size := by omega)))
            go_ret2
            exact ⟨⟨_, _, rfl, HR.out⟩, (by repeat' (first | (with_reducible exact Below.refl _ _) | (with_reducible assumption) | (with_reducible refine Base.via hb3 ?_) | (with_reducible refine Base.via hb2 ?_) | (with_reducible refine Base.via hb1 ?_) | (with_reducible refine Base.grow_alloc ?_ _) | (with_reducible refine Base.below_drewN ?_ _) | (with_reducible refine Below.drew ?_) | (with_reducible refine Below.setCell ?_ ?_ _) | go_size))⟩
end Go.Proofs.YthojfmlnnclghaaGreatDoor.Rd
