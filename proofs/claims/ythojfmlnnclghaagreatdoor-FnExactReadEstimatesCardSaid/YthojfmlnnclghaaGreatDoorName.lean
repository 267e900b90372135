/- Names: what is one, both sides. -/
import Derived.Test.YthojfmlnnclghaaGreatDoorBase
import Derived.Test.YthojfmlnnclghaaGreatDoorView
import Derived.Test.YthojfmlnnclghaaGreatDoorNum
import Derived.Test.YthojfmlnnclghaaGreatDoorEst
namespace Go.Proofs.YthojfmlnnclghaaGreatDoor.Name
set_option linter.unusedVariables false
set_option linter.unusedSimpArgs false
set_option maxRecDepth 8000
open Go.RowKit Plain Num View Est

/-- a string's byte as a number -/
def by8 (s : ByteArray) (i : Nat) : Int := if h : i < s.size then ((s[i]'h).toNat : Int) else 0
theorem by8_bd (s : ByteArray) (i : Nat) : 0 ≤ by8 s i ∧ by8 s i ≤ 255 := by
  unfold by8
  split
  · rename_i h
    have := (s[i]'h).toNat_lt
    omega
  · omega
theorem by8_eq {s : ByteArray} {i : Nat} (hi : i < s.size) : (((s[i]'hi).toNat : Nat) : Int) = by8 s i := by
  unfold by8
  rw [dif_pos hi]
def nmB (c : Int) (k : Nat) : Bool := (decide (97 ≤ c) && decide (c ≤ 122)) || (decide (k ≠ 0) && ((decide (48 ≤ c) && decide (c ≤ 57)) || decide (c = 45)))
theorem nmB_y {c : Int} {k : Nat} {z : Bool} (hz : decide (k = 0) = z) (h : (97 ≤ c ∧ c ≤ 122) ∨ (z = false ∧ ((48 ≤ c ∧ c ≤ 57) ∨ c = 45))) : nmB c k = true := by
  subst hz
  rw [decide_eq_false_iff_not] at h
  simp only [nmB, Bool.or_eq_true, Bool.and_eq_true, decide_eq_true_eq]
  exact h
theorem nmB_n {c : Int} {k : Nat} {z : Bool} (hz : decide (k = 0) = z) (h : ¬ ((97 ≤ c ∧ c ≤ 122) ∨ (z = false ∧ ((48 ≤ c ∧ c ≤ 57) ∨ c = 45)))) : nmB c k = false := by
  cases hb : nmB c k
  · rfl
  · exfalso
    subst hz
    rw [decide_eq_false_iff_not] at h
    simp only [nmB, Bool.or_eq_true, Bool.and_eq_true, decide_eq_true_eq] at hb
    exact h hb
def nmOk (s : ByteArray) : Bool := decide (1 ≤ s.size) && decide (s.size ≤ 12) && allB s.size (fun i => nmB (by8 s i) i)
theorem nmOk_lo {s : ByteArray} (h : ¬ 1 ≤ s.size) : nmOk s = false := by simp [nmOk, h]
theorem nmOk_hi {s : ByteArray} (h : ¬ s.size ≤ 12) : nmOk s = false := by simp [nmOk, h]
theorem nmOk_no {s : ByteArray} {k : Nat} (hk : k < s.size) (h : nmB (by8 s k) k = false) : nmOk s = false := by rw [nmOk, allB_no (p := fun i => nmB (by8 s i) i) hk h, Bool.and_false]
theorem nmOk_yes {s : ByteArray} (h1 : 1 ≤ s.size) (h2 : s.size ≤ 12) (h : allB s.size (fun i => nmB (by8 s i) i) = true) : nmOk s = true := by rw [nmOk, h]; simp [h1, h2]
theorem nmOk_size {s : ByteArray} (h : nmOk s = true) : 1 ≤ s.size ∧ s.size ≤ 12 := by
  simp only [nmOk, Bool.and_eq_true, decide_eq_true_eq] at h
  exact h.1
theorem cls (c : Int) : c < 45 ∨ (45 ≤ c ∧ c ≤ 45) ∨ (45 < c ∧ c < 48) ∨ (48 ≤ c ∧ c ≤ 57) ∨ (57 < c ∧ c < 97) ∨ (97 ≤ c ∧ c ≤ 122) ∨ 122 < c := by
  by_cases h1 : c < 45
  · exact .inl h1
  by_cases h2 : c = 45
  · exact .inr (.inl ⟨by omega, by omega⟩)
  by_cases h3 : c < 48
  · exact .inr (.inr (.inl ⟨by omega, h3⟩))
  by_cases h4 : c ≤ 57
  · exact .inr (.inr (.inr (.inl ⟨by omega, h4⟩)))
  by_cases h5 : c < 97
  · exact .inr (.inr (.inr (.inr (.inl ⟨by omega, h5⟩))))
  by_cases h6 : c ≤ 122
  · exact .inr (.inr (.inr (.inr (.inr (.inl ⟨by omega, h6⟩)))))
  · exact .inr (.inr (.inr (.inr (.inr (.inr (by omega))))))
theorem ret_b {a b : Bool} (h : a = b) : Ending.returned (.bool a) = .returned (.bool b) := by rw [h]
set_option maxHeartbeats 1600000 in
theorem c_IsName (s : ByteArray) (w : World) : Calls Tryz.prog 59 #[.string s] w fun e w' => e = .returned (.bool (nmOk s)) ∧ Below w.heap.size w w' := by
  by_cases h1 : 1 ≤ s.size
  case neg =>
    have HN := Lib.hid (nmOk_lo h1)
    have e0 : s.size = 0 := by omega
    go_enter Tryz.func59, Tryz.ntmps59
    go_wp2
    go_ret
    exact ⟨ret_b HN.out.symm, (by repeat' (first | (with_reducible exact Below.refl _ _) | (with_reducible assumption) | (with_reducible refine Base.grow_alloc ?_ _) | (with_reducible refine Base.below_drewN ?_ _) | (with_reducible refine Below.drew ?_) | (with_reducible refine Below.setCell ?_ ?_ _) | go_size))⟩
  by_cases h2 : s.size ≤ 12
  case neg =>
    have HN := Lib.hid (nmOk_hi h2)
    go_enter Tryz.func59, Tryz.ntmps59
    go_wp2
    go_ret
    exact ⟨ret_b HN.out.symm, (by repeat' (first | (with_reducible exact Below.refl _ _) | (with_reducible assumption) | (with_reducible refine Base.grow_alloc ?_ _) | (with_reducible refine Base.below_drewN ?_ _) | (with_reducible refine Below.drew ?_) | (with_reducible refine Below.setCell ?_ ?_ _) | go_size))⟩
  go_enter Tryz.func59, Tryz.ntmps59
  go_wp2
  go_loopw [16] (fun q wr => ∃ k : Nat, k ≤ s.size ∧ q = .int .i64 k ∧ Hid (allB k (fun i => nmB (by8 s i) i) = true) ∧ Below w.heap.size w wr) (fun q _ => s.size - (intOf q).toNat)
  case atStart => exact ⟨0, Nat.zero_le _, rfl, (show allB 0 _ = true from rfl), (by repeat' (first | (with_reducible exact Below.refl _ _) | (with_reducible assumption) | (with_reducible refine Base.grow_alloc ?_ _) | (with_reducible refine Base.below_drewN ?_ _) | (with_reducible refine Below.drew ?_) | (with_reducible refine Below.setCell ?_ ?_ _) | go_size))⟩
  case round =>
    obtain ⟨k, hk, rfl, hm, hbr⟩ := hrel
    by_cases hlt : k < s.size
    · obtain ⟨b0, b1⟩ := by8_bd s k
      have HY := Lib.hid (fun (h : nmB (by8 s k) k = true) => (allB_yes hm.out h : allB (k + 1) (fun i => nmB (by8 s i) i) = true))
      have HN := Lib.hid (fun (h : nmB (by8 s k) k = false) => nmOk_no hlt h)
      have hc := by8_eq hlt
      generalize by8 s k = c at *
      obtain ⟨z, hz, HZ⟩ : ∃ z : Bool, ((k : Int) == 0) = z ∧ Hid (decide (k = 0) = z) := ⟨decide (k = 0), by rw [Bool.eq_iff_iff]; simp, Lib.hid rfl⟩
      cases z <;> rcases cls c with h | ⟨h, h'⟩ | ⟨h, h'⟩ | ⟨h, h'⟩ | ⟨h, h'⟩ | ⟨h, h'⟩ | h <;> (try have f0 : decide (97 ≤ c) = true := by simp; omega) <;> (try have f0 : decide (97 ≤ c) = false := by simp; omega) <;> (try have f1 : decide (c ≤ 122) = true := by simp; omega) <;> (try have f1 : decide (c ≤ 122) = false := by simp; omega) <;> (try have f2 : decide (48 ≤ c) = true := by simp; omega) <;> (try have f2 : decide (48 ≤ c) = false := by simp; omega) <;> (try have f3 : decide (c ≤ 57) = true := by simp; omega) <;> (try have f3 : decide (c ≤ 57) = false := by simp; omega) <;> (try have h5 : (c == 45) = false := by simp; omega) <;> (try have h5 : (c == 45) = true := by simp; omega) <;> go_wp2
      all_goals
        first
        | (go_ret; exact ⟨ret_b (HN.out (nmB_n HZ.out (by rintro (⟨_, _⟩ | ⟨hh, ⟨_, _⟩ | _⟩) <;> first | omega | (cases hh; done)))).symm, (by repeat' (first | (with_reducible exact Below.refl _ _) | (with_reducible assumption) | (with_reducible refine Base.via hbr ?_) | (with_reducible refine Base.grow_alloc ?_ _) | (with_reducible refine Base.below_drewN ?_ _) | (with_reducible refine Below.drew ?_) | (with_reducible refine Below.setCell ?_ ?_ _) | go_size))⟩)
        | exact ⟨⟨k + 1, by omega, by go_num, HY.out (nmB_y HZ.out (by first | exact .inl ⟨by omega, by omega⟩ | exact .inr ⟨rfl, .inl ⟨by omega, by omega⟩⟩ | exact .inr ⟨rfl, .inr (by omega)⟩)), (by repeat' (first | (with_reducible exact Below.refl _ _) | (with_reducible assumption) | (with_reducible refine Base.grow_alloc ?_ _) | (with_reducible refine Base.below_drewN ?_ _) | (with_reducible refine Below.drew ?_) | (with_reducible refine Below.setCell ?_ ?_ _) | go_size))⟩, by simp [intOf]; omega⟩
    · have hke : k = s.size := by omega
      subst hke
      have HN := Lib.hid (nmOk_yes h1 h2 hm.out)
      go_wp2
      go_ret
      exact ⟨ret_b HN.out.symm, (by repeat' (first | (with_reducible exact Below.refl _ _) | (with_reducible assumption) | (with_reducible refine Base.via hbr ?_) | (with_reducible refine Base.grow_alloc ?_ _) | (with_reducible refine Base.below_drewN ?_ _) | (with_reducible refine Below.drew ?_) | (with_reducible refine Below.setCell ?_ ?_ _) | go_size))⟩
theorem c_l01Small (c : Int) (w : World) : Calls Tryz.prog 66 #[.int .u8 c] w fun e w' => e = .returned (.bool (decide (97 ≤ c) && decide (c ≤ 122))) ∧ w = w' := by
  by_cases h1 : 97 ≤ c <;> by_cases h2 : c ≤ 122 <;> (go_enter Tryz.func66, Tryz.ntmps66; go_wp2; go_ret; exact ⟨by simp [h1, h2], rfl⟩)
theorem c_l01Digit (c : Int) (w : World) : Calls Tryz.prog 39 #[.int .u8 c] w fun e w' => e = .returned (.bool (decide (48 ≤ c) && decide (c ≤ 57))) ∧ w = w' := by
  by_cases h1 : 48 ≤ c <;> by_cases h2 : c ≤ 57 <;> (go_enter Tryz.func39, Tryz.ntmps39; go_wp2; go_ret; exact ⟨by simp [h1, h2], rfl⟩)
set_option maxHeartbeats 1600000 in
theorem c_specIsName (s : ByteArray) (w : World) : Calls Tryz.prog 45 #[.string s] w fun e w' => e = .returned (.bool (nmOk s)) ∧ Below w.heap.size w w' := by
  by_cases h1 : 1 ≤ s.size
  case neg =>
    have HN := Lib.hid (nmOk_lo h1)
    have e0 : s.size = 0 := by omega
    obtain rfl : s = ⟨#[]⟩ := by apply ByteArray.ext; exact Array.eq_empty_of_size_eq_zero e0
    go_enter Tryz.func45, Tryz.ntmps45
    go_wp2
    go_ret
    exact ⟨ret_b HN.out.symm, (by repeat' (first | (with_reducible exact Below.refl _ _) | (with_reducible assumption) | (with_reducible refine Base.grow_alloc ?_ _) | (with_reducible refine Base.below_drewN ?_ _) | (with_reducible refine Below.drew ?_) | (with_reducible refine Below.setCell ?_ ?_ _) | go_size))⟩
  have e1 : s.toList.isEmpty = false := by
    rw [ByteArray.toList_eq]
    cases h : s.data.toList with
    | nil =>
      exfalso
      apply absurd h1
      have := congrArg List.length h
      simp at this
      simp [ByteArray.size, this]
    | cons x y => rfl
  by_cases h2 : s.size ≤ 12
  case neg =>
    have HN := Lib.hid (nmOk_hi h2)
    go_enter Tryz.func45, Tryz.ntmps45
    go_wp2
    go_ret
    exact ⟨ret_b HN.out.symm, (by repeat' (first | (with_reducible exact Below.refl _ _) | (with_reducible assumption) | (with_reducible refine Base.grow_alloc ?_ _) | (with_reducible refine Base.below_drewN ?_ _) | (with_reducible refine Below.drew ?_) | (with_reducible refine Below.setCell ?_ ?_ _) | go_size))⟩
  obtain ⟨c0, hc0⟩ : ∃ c0, by8 s 0 = c0 := ⟨_, rfl⟩
  have g0 : (((s[0]'(by omega)).toNat : Nat) : Int) = c0 := (by8_eq (s := s) (i := 0) (by omega)).trans hc0
  have HC0 := Lib.hid hc0
  clear hc0
  by_cases hs : 97 ≤ c0 ∧ c0 ≤ 122
  case neg =>
    have HN := Lib.hid (nmOk_no (s := s) (k := 0) (by omega) (by rw [HC0.out]; exact nmB_n (z := true) rfl (by rintro (h | ⟨h, _⟩); exact hs h; cases h)))
    have hd : (decide (97 ≤ c0) && decide (c0 ≤ 122)) = false := by
      by_cases h3 : 97 ≤ c0 <;> by_cases h4 : c0 ≤ 122 <;> simp [h3, h4]
      omega
    go_enter Tryz.func45, Tryz.ntmps45
    go_wp2_with (first | (go_at_call 66; refine (c_l01Small _ _).mono ?_; rw [hd]; rintro e w' ⟨rfl, rfl⟩))
    go_ret
    exact ⟨ret_b HN.out.symm, (by repeat' (first | (with_reducible exact Below.refl _ _) | (with_reducible assumption) | (with_reducible refine Base.grow_alloc ?_ _) | (with_reducible refine Base.below_drewN ?_ _) | (with_reducible refine Below.drew ?_) | (with_reducible refine Below.setCell ?_ ?_ _) | go_size))⟩
  have hd : (decide (97 ≤ c0) && decide (c0 ≤ 122)) = true := by simp [hs.1, hs.2]
  have HS := Lib.hid hs
  clear hs
  go_enter Tryz.func45, Tryz.ntmps45
  go_wp2_with (first | (go_at_call 66; refine (c_l01Small _ _).mono ?_; rw [hd]; rintro e w' ⟨rfl, rfl⟩))
  go_loopw [3] (fun q wr => ∃ k : Nat, k ≤ s.size ∧ q = .int .i64 k ∧ Hid (allB k (fun i => nmB (by8 s i) i) = true) ∧ Below w.heap.size w wr) (fun q _ => s.size - (intOf q).toNat)
  case atStart => exact ⟨0, Nat.zero_le _, rfl, (show allB 0 _ = true from rfl), (by repeat' (first | (with_reducible exact Below.refl _ _) | (with_reducible assumption) | (with_reducible refine Base.grow_alloc ?_ _) | (with_reducible refine Base.below_drewN ?_ _) | (with_reducible refine Below.drew ?_) | (with_reducible refine Below.setCell ?_ ?_ _) | go_size))⟩
  case round =>
    obtain ⟨k, hk, rfl, hm, hbr⟩ := hrel
    by_cases hlt : k < s.size
    · clear hd g0 e1
      have hc := by8_eq hlt
      have HY := Lib.hid (fun (h : nmB (by8 s k) k = true) => (allB_yes hm.out h : allB (k + 1) (fun i => nmB (by8 s i) i) = true))
      have HN := Lib.hid (fun (h : nmB (by8 s k) k = false) => nmOk_no hlt h)
      have HZ : Hid (k = 0 → 97 ≤ by8 s k ∧ by8 s k ≤ 122) := Lib.hid (fun h => by rw [h, HC0.out]; exact HS.out)
      generalize by8 s k = c at *
      rcases cls c with h | ⟨h, h'⟩ | ⟨h, h'⟩ | ⟨h, h'⟩ | ⟨h, h'⟩ | ⟨h, h'⟩ | h <;> (try have f0 : decide (97 ≤ c) = true := by simp; omega) <;> (try have f0 : decide (97 ≤ c) = false := by simp; omega) <;> (try have f1 : decide (c ≤ 122) = true := by simp; omega) <;> (try have f1 : decide (c ≤ 122) = false := by simp; omega) <;> (try have f2 : decide (48 ≤ c) = true := by simp; omega) <;> (try have f2 : decide (48 ≤ c) = false := by simp; omega) <;> (try have f3 : decide (c ≤ 57) = true := by simp; omega) <;> (try have f3 : decide (c ≤ 57) = false := by simp; omega) <;> (try have h5 : (c == 45) = false := by simp; omega) <;> (try have h5 : (c == 45) = true := by simp; omega) <;> (try have h6 : (c != 45) = true := by simp; omega) <;> go_wp2_with (first | (go_at_call 66; refine (c_l01Small _ _).mono ?_; (first | rw [show (decide (97 ≤ c) && decide (c ≤ 122)) = true by simp; omega] | rw [show (decide (97 ≤ c) && decide (c ≤ 122)) = false by simp; omega]); rintro e w' ⟨rfl, rfl⟩) | (go_at_call 39; refine (c_l01Digit _ _).mono ?_; (first | rw [show (decide (48 ≤ c) && decide (c ≤ 57)) = true by simp; omega] | rw [show (decide (48 ≤ c) && decide (c ≤ 57)) = false by simp; omega]); rintro e w' ⟨rfl, rfl⟩))
      all_goals
        first
        | (go_ret; exact ⟨ret_b (HN.out (nmB_n (z := decide (k = 0)) rfl (by rintro (⟨_, _⟩ | ⟨_, ⟨_, _⟩ | _⟩) <;> omega))).symm, (by repeat' (first | (with_reducible exact Below.refl _ _) | (with_reducible assumption) | (with_reducible refine Base.via hbr ?_) | (with_reducible refine Base.grow_alloc ?_ _) | (with_reducible refine Base.below_drewN ?_ _) | (with_reducible refine Below.drew ?_) | (with_reducible refine Below.setCell ?_ ?_ _) | go_size))⟩)
        | exact ⟨⟨k + 1, by omega, by go_num, HY.out (nmB_y (z := false) (decide_eq_false (fun hz => absurd (HZ.out hz) (by omega))) (by first | exact .inr ⟨rfl, .inl ⟨by omega, by omega⟩⟩ | exact .inr ⟨rfl, .inr (by omega)⟩)), (by repeat' (first | (with_reducible exact Below.refl _ _) | (with_reducible assumption) | (with_reducible refine Base.grow_alloc ?_ _) | (with_reducible refine Base.below_drewN ?_ _) | (with_reducible refine Below.drew ?_) | (with_reducible refine Below.setCell ?_ ?_ _) | go_size))⟩, by simp [intOf]; omega⟩
        | exact ⟨⟨k + 1, by omega, by go_num, HY.out (nmB_y (z := decide (k = 0)) rfl (.inl ⟨by omega, by omega⟩)), (by repeat' (first | (with_reducible exact Below.refl _ _) | (with_reducible assumption) | (with_reducible refine Base.grow_alloc ?_ _) | (with_reducible refine Base.below_drewN ?_ _) | (with_reducible refine Below.drew ?_) | (with_reducible refine Below.setCell ?_ ?_ _) | go_size))⟩, by simp [intOf]; omega⟩
    · have hke : k = s.size := by omega
      subst hke
      have HN := Lib.hid (nmOk_yes h1 h2 hm.out)
      go_wp2
      go_ret
      exact ⟨ret_b HN.out.symm, (by repeat' (first | (with_reducible exact Below.refl _ _) | (with_reducible assumption) | (with_reducible refine Base.via hbr ?_) | (with_reducible refine Base.grow_alloc ?_ _) | (with_reducible refine Base.below_drewN ?_ _) | (with_reducible refine Below.drew ?_) | (with_reducible refine Below.setCell ?_ ?_ _) | go_size))⟩
end Go.Proofs.YthojfmlnnclghaaGreatDoor.Name
