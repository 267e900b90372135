/- The library's comparisons as the estimates' order needs them. -/
import Derived.Test.YthojfmlnnclghaaGreatDoorOne
import Derived.Sort.Walk0
namespace Go.Proofs.YthojfmlnnclghaaGreatDoor.Cmp
set_option linter.unusedVariables false
set_option linter.unusedSimpArgs false
set_option maxRecDepth 8000
open Go.RowKit Plain Num View Est Name Es1

theorem ret_i {a b : Int} (h : a = b) : Ending.returned (.int .i64 a) = .returned (.int .i64 b) := by rw [h]
theorem cb_lt : ∀ a b : List UInt8, (decide (Lib.compareBytes a b < 0)) = Op.bytesLess a b
  | [], [] => by simp [Lib.compareBytes, Op.bytesLess]
  | [], _ :: _ => by simp [Lib.compareBytes, Op.bytesLess]
  | _ :: _, [] => by simp [Lib.compareBytes, Op.bytesLess]
  | a :: x, b :: y => by
    have ih := cb_lt x y
    rw [Lib.compareBytes, Op.bytesLess]
    by_cases h1 : a < b
    · simp [h1]
    · rw [if_neg h1]
      by_cases h2 : b < a
      · rw [if_pos h2]
        have h3 : ¬ a = b := by intro h; rw [h] at h2; exact absurd h2 (UInt8.lt_irrefl _)
        simp [h1, h3]
      · rw [if_neg h2]
        have h3 : a = b := UInt8.le_antisymm (UInt8.not_lt.1 h2) (UInt8.not_lt.1 h1)
        rw [ih]
        simp [h3, UInt8.lt_irrefl]
theorem cb_eq : ∀ a b : List UInt8, Lib.compareBytes a b = 0 ↔ a = b
  | [], [] => by simp [Lib.compareBytes]
  | [], _ :: _ => by simp [Lib.compareBytes]
  | _ :: _, [] => by simp [Lib.compareBytes]
  | a :: x, b :: y => by
    have ih := cb_eq x y
    rw [Lib.compareBytes]
    by_cases h1 : a < b
    · rw [if_pos h1]
      have h3 : ¬ a = b := by intro h; rw [h] at h1; exact absurd h1 (UInt8.lt_irrefl _)
      simp [h3]
    · rw [if_neg h1]
      by_cases h2 : b < a
      · rw [if_pos h2]
        have h3 : ¬ a = b := by intro h; rw [h] at h2; exact absurd h2 (UInt8.lt_irrefl _)
        simp [h3]
      · rw [if_neg h2]
        have h3 : a = b := UInt8.le_antisymm (UInt8.not_lt.1 h2) (UInt8.not_lt.1 h1)
        rw [ih, h3]
        simp
def cbE (a b : ByteArray) : Int := Lib.compareBytes a.data.toList b.data.toList
theorem cbE_lt (a b : ByteArray) : decide (cbE a b < 0) = sLt a b := by rw [cbE, cb_lt, sLt, ByteArray.toList_eq, ByteArray.toList_eq]
theorem cbE_eq (a b : ByteArray) : cbE a b = 0 ↔ a = b := by
  rw [cbE, cb_eq]
  constructor
  · intro h; exact ByteArray.ext (Array.toList_inj.1 h)
  · intro h; rw [h]
def cmpI (a b : Int) : Int := if a < b then -1 else if b < a then 1 else 0
def orI (a b c : Int) : Int := if a = 0 then (if b = 0 then c else b) else a
def cmpE (x y : E5) : Int := orI (cmpI x.t y.t) (cbE x.s y.s) (cbE x.o y.o)
theorem cmpE_lt (x y : E5) : decide (cmpE x y < 0) = befE x y := by
  unfold cmpE orI befE cmpI
  by_cases h1 : x.t < y.t
  · have h2 : ¬ x.t = y.t := by omega
    simp [h1, h2]
  · by_cases h3 : y.t < x.t
    · have h2 : ¬ x.t = y.t := by omega
      simp [h1, h2, h3]
    · have h2 : x.t = y.t := by omega
      rw [if_pos h2, if_neg h1, if_neg h3, if_pos rfl]
      by_cases h4 : x.s = y.s
      · rw [if_pos h4, if_pos ((cbE_eq _ _).2 h4), cbE_lt]
      · rw [if_neg h4, if_neg (fun h => h4 ((cbE_eq _ _).1 h)), cbE_lt]
/-- the first of three numbers that is not 0 -/
def FO (X : Nat → Int) (n : Nat) (r : Int) : Prop := (r = 0 ∧ ∀ i, i < n → X i = 0) ∨ ∃ k, k < n ∧ X k = r ∧ r ≠ 0 ∧ ∀ i, i < k → X i = 0
def x3 (a b c : Int) : Nat → Int := fun i => if i = 0 then a else if i = 1 then b else c
theorem fo_or {a b c r : Int} (h : FO (x3 a b c) 3 r) : r = orI a b c := by
  rcases h with ⟨h0, hz⟩ | ⟨k, hk, he, hr, hz⟩
  · have z0 : a = 0 := hz 0 (by omega)
    have z1 : b = 0 := hz 1 (by omega)
    have z2 : c = 0 := hz 2 (by omega)
    rw [orI, if_pos z0, if_pos z1, z2, h0]
  · match k, hk with
    | 0, _ =>
      have e : a = r := he
      rw [orI, if_neg (by rw [e]; exact hr), e]
    | 1, _ =>
      have e : b = r := he
      have z0 : a = 0 := hz 0 (by omega)
      rw [orI, if_pos z0, if_neg (by rw [e]; exact hr), e]
    | 2, _ =>
      have e : c = r := he
      have z0 : a = 0 := hz 0 (by omega)
      have z1 : b = 0 := hz 1 (by omega)
      rw [orI, if_pos z0, if_pos z1, e]
    | k + 3, hk => omega
theorem cells3 (W : World) (a b c : Int) (t : TypeId) (i : Nat) (hi : i < 3) : (W.alloc (.cells #[.int .i64 a, .int .i64 b, .int .i64 c] t)).drew.cell? ⟨W.heap.size, i, none⟩ = some (.int .i64 (x3 a b c i)) := by
  match i, hi with
  | 0, _ => simp [go_sem, x3]
  | 1, _ => simp [go_sem, x3]
  | 2, _ => simp [go_sem, x3]
theorem c_isNaN (a : Int) (w : World) : Calls Tryz.prog 80 #[.int .i64 a] w fun e w' => e = .returned (.bool false) ∧ w = w' := by
  go_enter Tryz.func80, Tryz.ntmps80
  go_wp2
  go_ret
  exact ⟨rfl, rfl⟩
theorem c_cmpI (a b : Int) (w : World) : Calls Tryz.prog 61 #[.int .i64 a, .int .i64 b] w fun e w' => e = .returned (.int .i64 (cmpI a b)) ∧ w = w' := by
  rcases Int.lt_trichotomy a b with h | h | h
  · have HC := Lib.hid (show cmpI a b = -1 by rw [cmpI, if_pos h])
    go_enter Tryz.func61, Tryz.ntmps61
    go_wp2_with (first | (go_at_call 80; refine (c_isNaN _ _).mono ?_; rintro r w1 ⟨rfl, rfl⟩))
    go_ret
    exact ⟨ret_i HC.out.symm, rfl⟩
  · have HC := Lib.hid (show cmpI a b = 0 by rw [cmpI, if_neg (by omega), if_neg (by omega)])
    subst h
    go_enter Tryz.func61, Tryz.ntmps61
    go_wp2_with (first | (go_at_call 80; refine (c_isNaN _ _).mono ?_; rintro r w1 ⟨rfl, rfl⟩))
    go_ret
    exact ⟨ret_i HC.out.symm, rfl⟩
  · have HC := Lib.hid (show cmpI a b = 1 by rw [cmpI, if_neg (by omega), if_pos h])
    have h' : ¬ a < b := by omega
    go_enter Tryz.func61, Tryz.ntmps61
    go_wp2_with (first | (go_at_call 80; refine (c_isNaN _ _).mono ?_; rintro r w1 ⟨rfl, rfl⟩))
    go_ret
    exact ⟨ret_i HC.out.symm, rfl⟩
set_option maxHeartbeats 1600000 in
theorem c_cmpOr (X : Nat → Int) (g : Nat) (w : World) (hc : ∀ i, i < 3 → w.cell? ⟨g, i, none⟩ = some (.int .i64 (X i))) : Calls Tryz.prog 60 #[.slice (some ⟨g, 0, none⟩) 3 3] w fun e w' => ∃ r, e = .returned (.int .i64 r) ∧ Hid (FO X 3 r) ∧ Below w.heap.size w w' := by
  have lg := World.block_lt_of_cell? _ _ (hc 0 (by omega))
  dsimp only at lg
  have HC := Lib.hid hc
  clear hc
  go_enter Tryz.func60, Tryz.ntmps60
  go_wp2
  go_loopw [8] (fun q wr => ∃ k : Nat, k ≤ 3 ∧ q = .int .i64 k ∧ Hid (∀ i, i < k → X i = 0) ∧ Below w.heap.size w wr) (fun q _ => 3 - (intOf q).toNat)
  case atStart => exact ⟨0, Nat.zero_le _, rfl, (show ∀ i, i < 0 → X i = 0 from fun i hi => absurd hi (by omega)), (by repeat' (first | (with_reducible exact Below.refl _ _) | (with_reducible assumption) | (with_reducible refine Base.grow_alloc ?_ _) | (with_reducible refine Base.below_drewN ?_ _) | (with_reducible refine Below.drew ?_) | (with_reducible refine Below.setCell ?_ ?_ _) | go_size))⟩
  case round =>
    obtain ⟨k, hk, rfl, hm, hbr⟩ := hrel
    by_cases hlt : k < 3
    · have hck := cell_call hbr (HC.out k hlt)
      by_cases hz : X k = 0
      · have HZ := Lib.hid hz
        rw [hz] at hck
        clear hz
        go_wp2
        exact ⟨⟨k + 1, by omega, by go_num, Lib.hid (fun i hi => by
          by_cases hik : i = k
          · rw [hik]; exact HZ.out
          · exact hm.out i (by omega)), (by repeat' (first | (with_reducible exact Below.refl _ _) | (with_reducible assumption) | (with_reducible refine Base.grow_alloc ?_ _) | (with_reducible refine Base.below_drewN ?_ _) | (with_reducible refine Below.drew ?_) | (with_reducible refine Below.setCell ?_ ?_ _) | go_size))⟩, by simp [intOf]; omega⟩
      · have HZ := Lib.hid hz
        have hz' : (X k == 0) = false := by simp [hz]
        have HP : Hid (FO X 3 (X k)) := Lib.hid (.inr ⟨k, hlt, rfl, hz, hm.out⟩)
        generalize X k = v at *
        clear hz
        go_wp2
        go_ret
        exact ⟨v, rfl, HP, (by repeat' (first | (with_reducible exact Below.refl _ _) | (with_reducible assumption) | (with_reducible refine Base.via hbr ?_) | (with_reducible refine Base.grow_alloc ?_ _) | (with_reducible refine Base.below_drewN ?_ _) | (with_reducible refine Below.drew ?_) | (with_reducible refine Below.setCell ?_ ?_ _) | go_size))⟩
    · have hke : k = 3 := by omega
      subst hke
      have HP : Hid (FO X 3 0) := Lib.hid (.inl ⟨rfl, hm.out⟩)
      go_wp2
      go_ret
      exact ⟨0, rfl, HP, (by repeat' (first | (with_reducible exact Below.refl _ _) | (with_reducible assumption) | (with_reducible refine Base.via hbr ?_) | (with_reducible refine Base.grow_alloc ?_ _) | (with_reducible refine Base.below_drewN ?_ _) | (with_reducible refine Below.drew ?_) | (with_reducible refine Below.setCell ?_ ?_ _) | go_size))⟩
set_option maxHeartbeats 1600000 in
theorem c_compareEstimates (x y : E5) (w : World) : Calls Tryz.prog 34 #[est x, est y] w fun e w' => e = .returned (.int .i64 (cmpE x y)) ∧ Below w.heap.size w w' := by
  have HO : Hid (∀ r, FO (x3 (cmpI x.t y.t) (cbE x.s y.s) (cbE x.o y.o)) 3 r → r = cmpE x y) := Lib.hid (fun r h => fo_or h)
  have HC1 := Lib.hid (fun (W : World) => c_cmpI x.t y.t W)
  have HC2 : Hid (∀ W : World, Calls Tryz.prog 62 #[.string x.s, .string y.s] W fun e w' => e = .returned (.int .i64 (cbE x.s y.s)) ∧ w' = W) := Lib.hid (fun W => Tryz.strings_Compare x.s y.s W)
  have HC3 : Hid (∀ W : World, Calls Tryz.prog 62 #[.string x.o, .string y.o] W fun e w' => e = .returned (.int .i64 (cbE x.o y.o)) ∧ w' = W) := Lib.hid (fun W => Tryz.strings_Compare x.o y.o W)
  unfold est
  obtain ⟨t, s, o, m, bb⟩ := x
  obtain ⟨t', s', o', m', bb'⟩ := y
  dsimp only at HO HC1 HC2 HC3 ⊢
  generalize cmpE _ _ = v at *
  generalize cmpI t t' = u1 at *
  generalize cbE s s' = u2 at *
  generalize cbE o o' = u3 at *
  go_enter Tryz.func34, Tryz.ntmps34
  go_wp2_with fail
  obtain ⟨wo, hwo⟩ : ∃ wo : World, wo = (w.alloc (.cells #[.int .i64 t, .string s, .string o, .int .i64 m, .bool bb] 31)).alloc (.cells #[.int .i64 t', .string s', .string o', .int .i64 m', .bool bb'] 31) := ⟨_, rfl⟩
  have k0 : wo.cell? ⟨w.heap.size, 0, none⟩ = some (.int .i64 t) := by rw [hwo]; simp [go_sem]
  have k1 : wo.cell? ⟨w.heap.size, 1, none⟩ = some (.string s) := by rw [hwo]; simp [go_sem]
  have k2 : wo.cell? ⟨w.heap.size, 2, none⟩ = some (.string o) := by rw [hwo]; simp [go_sem]
  have j0 : wo.cell? ⟨w.heap.size + 1, 0, none⟩ = some (.int .i64 t') := by rw [hwo]; simp [go_sem]
  have j1 : wo.cell? ⟨w.heap.size + 1, 1, none⟩ = some (.string s') := by rw [hwo]; simp [go_sem]
  have j2 : wo.cell? ⟨w.heap.size + 1, 2, none⟩ = some (.string o') := by rw [hwo]; simp [go_sem]
  have hbo : Below w.heap.size w wo := by rw [hwo]; exact (by repeat' (first | (with_reducible exact Below.refl _ _) | (with_reducible assumption) | (with_reducible refine Base.grow_alloc ?_ _) | (with_reducible refine Base.below_drewN ?_ _) | (with_reducible refine Below.drew ?_) | (with_reducible refine Below.setCell ?_ ?_ _) | go_size))
  rw [← hwo]
  clear hwo
  have HS : ∀ W : World, Below wo.heap.size wo W → (W.cell? ⟨w.heap.size, 0, none⟩ = some (.int .i64 t) ∧ W.cell? ⟨w.heap.size, 1, none⟩ = some (.string s) ∧ W.cell? ⟨w.heap.size, 2, none⟩ = some (.string o) ∧ W.cell? ⟨w.heap.size + 1, 0, none⟩ = some (.int .i64 t') ∧ W.cell? ⟨w.heap.size + 1, 1, none⟩ = some (.string s') ∧ W.cell? ⟨w.heap.size + 1, 2, none⟩ = some (.string o')) ∧ Below wo.heap.size wo W :=
    fun W hW => ⟨⟨cell_call hW k0, cell_call hW k1, cell_call hW k2, cell_call hW j0, cell_call hW j1, cell_call hW j2⟩, hW⟩
  clear k0 k1 k2 j0 j1 j2
  refine wp_region_held_drew (S := (fun W => (W.cell? ⟨w.heap.size, 0, none⟩ = some (.int .i64 t) ∧ W.cell? ⟨w.heap.size, 1, none⟩ = some (.string s) ∧ W.cell? ⟨w.heap.size, 2, none⟩ = some (.string o) ∧ W.cell? ⟨w.heap.size + 1, 0, none⟩ = some (.int .i64 t') ∧ W.cell? ⟨w.heap.size + 1, 1, none⟩ = some (.string s') ∧ W.cell? ⟨w.heap.size + 1, 2, none⟩ = some (.string o')) ∧ Below wo.heap.size wo W)) (by kernel_rfl) (by (try dsimp only); (exact HS _ (by repeat' (first | (with_reducible exact Below.refl _ _) | (with_reducible assumption) | (with_reducible refine Base.via hb7 ?_) | (with_reducible refine Base.grow_alloc ?_ _) | (with_reducible refine Base.below_drewN ?_ _) | (with_reducible refine Below.drew ?_) | (with_reducible refine Below.setCell ?_ ?_ _) | go_size)))) (fun hHeld => ?_)
  refine wpAnyH_take (i := 0) (oi := ⟨some 5, _, _, _, _, _⟩) (v := ?_) rfl (by kernel_rfl) (by kernel_rfl) (by kernel_rfl) (fun _ _ _ h => h) (Or.inl ⟨by rfl, ?_⟩) (by assumption) ?_
  rotate_left
  · (intro w' hSw; (try dsimp only at hSw); go_simp; try with_reducible rfl)
  try simp only [Act.put, List.setIfInBounds_toArray, List.set_cons_zero, List.set_cons_succ]
  refine wpAnyH_take (i := 1) (oi := ⟨some 6, _, _, _, _, _⟩) (v := ?_) rfl (by kernel_rfl) (by kernel_rfl) (by kernel_rfl) (fun _ _ _ h => h) (Or.inl ⟨by rfl, ?_⟩) (by assumption) ?_
  rotate_left
  · (intro w' hSw; (try dsimp only at hSw); go_simp; try with_reducible rfl)
  try simp only [Act.put, List.setIfInBounds_toArray, List.set_cons_zero, List.set_cons_succ]
  refine wpAnyH_take (i := 2) (oi := ⟨some 7, _, _, _, _, _⟩) (v := ?_) rfl (by kernel_rfl) (by kernel_rfl) (by kernel_rfl) (fun _ _ _ h => h) (Or.inl ⟨by rfl, ?_⟩) (by assumption) ?_
  rotate_left
  · (intro w' hSw; (try dsimp only at hSw); go_simp; try with_reducible rfl)
  try simp only [Act.put, List.setIfInBounds_toArray, List.set_cons_zero, List.set_cons_succ]
  refine wpAnyH_take (i := 3) (oi := ⟨some 8, _, _, _, _, _⟩) (v := ?_) rfl (by kernel_rfl) (by kernel_rfl) (by kernel_rfl) (fun _ _ _ h => h) (Or.inl ⟨by rfl, ?_⟩) (by assumption) ?_
  rotate_left
  · (intro w' hSw; (try dsimp only at hSw); go_simp; try with_reducible rfl)
  try simp only [Act.put, List.setIfInBounds_toArray, List.set_cons_zero, List.set_cons_succ]
  refine wpAnyH_take (i := 5) (oi := ⟨some 10, _, _, _, _, _⟩) (v := ?_) rfl (by kernel_rfl) (by kernel_rfl) (by kernel_rfl) (fun _ _ _ h => h) (Or.inl ⟨by rfl, ?_⟩) (by assumption) ?_
  rotate_left
  · (intro w' hSw; (try dsimp only at hSw); go_simp; try with_reducible rfl)
  try simp only [Act.put, List.setIfInBounds_toArray, List.set_cons_zero, List.set_cons_succ]
  refine wpAnyH_take (i := 6) (oi := ⟨some 11, _, _, _, _, _⟩) (v := ?_) rfl (by kernel_rfl) (by kernel_rfl) (by kernel_rfl) (fun _ _ _ h => h) (Or.inl ⟨by rfl, ?_⟩) (by assumption) ?_
  rotate_left
  · (intro w' hSw; (try dsimp only at hSw); go_simp; try with_reducible rfl)
  try simp only [Act.put, List.setIfInBounds_toArray, List.set_cons_zero, List.set_cons_succ]
  refine wpAnyH_take (i := 7) (oi := ⟨some 12, _, _, _, _, _⟩) (v := ?_) rfl (by kernel_rfl) (by kernel_rfl) (by kernel_rfl) (fun _ _ _ h => h) (Or.inl ⟨by rfl, ?_⟩) (by assumption) ?_
  rotate_left
  · (intro w' hSw; (try dsimp only at hSw); go_simp; try with_reducible rfl)
  try simp only [Act.put, List.setIfInBounds_toArray, List.set_cons_zero, List.set_cons_succ]
  refine wpAnyH_take (i := 8) (oi := ⟨some 13, _, _, _, _, _⟩) (v := ?_) rfl (by kernel_rfl) (by kernel_rfl) (by kernel_rfl) (fun _ _ _ h => h) (Or.inl ⟨by rfl, ?_⟩) (by assumption) ?_
  rotate_left
  · (intro w' hSw; (try dsimp only at hSw); go_simp; try with_reducible rfl)
  try simp only [Act.put, List.setIfInBounds_toArray, List.set_cons_zero, List.set_cons_succ]
  refine wpAnyH_take (i := 10) (oi := ⟨some 15, _, _, _, _, _⟩) (v := ?_) rfl (by kernel_rfl) (by kernel_rfl) (by kernel_rfl) (fun _ _ _ h => h) (Or.inl ⟨by rfl, ?_⟩) (by assumption) ?_
  rotate_left
  · (intro w' hSw; (try dsimp only at hSw); go_simp; try with_reducible rfl)
  try simp only [Act.put, List.setIfInBounds_toArray, List.set_cons_zero, List.set_cons_succ]
  refine wpAnyH_take (i := 11) (oi := ⟨some 16, _, _, _, _, _⟩) (v := ?_) rfl (by kernel_rfl) (by kernel_rfl) (by kernel_rfl) (fun _ _ _ h => h) (Or.inl ⟨by rfl, ?_⟩) (by assumption) ?_
  rotate_left
  · (intro w' hSw; (try dsimp only at hSw); go_simp; try with_reducible rfl)
  try simp only [Act.put, List.setIfInBounds_toArray, List.set_cons_zero, List.set_cons_succ]
  refine wpAnyH_take (i := 12) (oi := ⟨some 17, _, _, _, _, _⟩) (v := ?_) rfl (by kernel_rfl) (by kernel_rfl) (by kernel_rfl) (fun _ _ _ h => h) (Or.inl ⟨by rfl, ?_⟩) (by assumption) ?_
  rotate_left
  · (intro w' hSw; (try dsimp only at hSw); go_simp; try with_reducible rfl)
  try simp only [Act.put, List.setIfInBounds_toArray, List.set_cons_zero, List.set_cons_succ]
  refine wpAnyH_take (i := 13) (oi := ⟨some 18, _, _, _, _, _⟩) (v := ?_) rfl (by kernel_rfl) (by kernel_rfl) (by kernel_rfl) (fun _ _ _ h => h) (Or.inl ⟨by rfl, ?_⟩) (by assumption) ?_
  rotate_left
  · (intro w' hSw; (try dsimp only at hSw); go_simp; try with_reducible rfl)
  try simp only [Act.put, List.setIfInBounds_toArray, List.set_cons_zero, List.set_cons_succ]
  refine wpAnyH_ready (rs := [4]) (by kernel_rfl) (by simp) ?_
  refine AllReadyH.cons (o := ⟨some 9, _, _, _, _, _⟩) rfl (fun K hK => ?_) AllReadyH.nil
  go_simp
  (go_at_call 61; refine (HC1.out _).mono ?_; rintro e w3 ⟨rfl, rfl⟩)
  refine hK.out _ _ (by (try dsimp only); (exact HS _ (by repeat' (first | (with_reducible exact Below.refl _ _) | (with_reducible assumption) | (with_reducible refine Base.via hb7 ?_) | (with_reducible refine Base.grow_alloc ?_ _) | (with_reducible refine Base.below_drewN ?_ _) | (with_reducible refine Below.drew ?_) | (with_reducible refine Below.setCell ?_ ?_ _) | go_size)))) (fun hHeld => ?_)
  clear hK K
  try simp only [Act.put, List.setIfInBounds_toArray, List.set_cons_zero, List.set_cons_succ]
  refine wpAnyH_ready (rs := [9]) (by kernel_rfl) (by simp) ?_
  refine AllReadyH.cons (o := ⟨some 14, _, _, _, _, _⟩) rfl (fun K hK => ?_) AllReadyH.nil
  go_simp
  (go_at_call 62; refine (HC2.out _).mono ?_; rintro e w4 ⟨rfl, rfl⟩)
  refine hK.out _ _ (by (try dsimp only); (exact HS _ (by repeat' (first | (with_reducible exact Below.refl _ _) | (with_reducible assumption) | (with_reducible refine Base.via hb7 ?_) | (with_reducible refine Base.grow_alloc ?_ _) | (with_reducible refine Base.below_drewN ?_ _) | (with_reducible refine Below.drew ?_) | (with_reducible refine Below.setCell ?_ ?_ _) | go_size)))) (fun hHeld => ?_)
  clear hK K
  try simp only [Act.put, List.setIfInBounds_toArray, List.set_cons_zero, List.set_cons_succ]
  refine wpAnyH_ready (rs := [14]) (by kernel_rfl) (by simp) ?_
  refine AllReadyH.cons (o := ⟨some 19, _, _, _, _, _⟩) rfl (fun K hK => ?_) AllReadyH.nil
  go_simp
  (go_at_call 62; refine (HC3.out _).mono ?_; rintro e w5 ⟨rfl, rfl⟩)
  refine hK.out _ _ (by (try dsimp only); (exact HS _ (by repeat' (first | (with_reducible exact Below.refl _ _) | (with_reducible assumption) | (with_reducible refine Base.via hb7 ?_) | (with_reducible refine Base.grow_alloc ?_ _) | (with_reducible refine Base.below_drewN ?_ _) | (with_reducible refine Below.drew ?_) | (with_reducible refine Below.setCell ?_ ?_ _) | go_size)))) (fun hHeld => ?_)
  clear hK K
  try simp only [Act.put, List.setIfInBounds_toArray, List.set_cons_zero, List.set_cons_succ]
  refine wpAnyH_ready (rs := [15]) (by kernel_rfl) (by simp) ?_
  refine AllReadyH.cons (o := ⟨some 20, _, _, _, _, _⟩) rfl (fun K hK => ?_) AllReadyH.nil
  go_simp
  skip
  refine hK.out _ _ (by (try dsimp only); (exact HS _ (by repeat' (first | (with_reducible exact Below.refl _ _) | (with_reducible assumption) | (with_reducible refine Base.via hb7 ?_) | (with_reducible refine Base.grow_alloc ?_ _) | (with_reducible refine Base.below_drewN ?_ _) | (with_reducible refine Below.drew ?_) | (with_reducible refine Below.setCell ?_ ?_ _) | go_size)))) (fun hHeld => ?_)
  clear hK K
  try simp only [Act.put, List.setIfInBounds_toArray, List.set_cons_zero, List.set_cons_succ]
  refine wpAnyH_ready (rs := [16]) (by kernel_rfl) (by simp) ?_
  refine AllReadyH.cons (o := ⟨some 21, _, _, _, _, _⟩) rfl (fun K hK => ?_) AllReadyH.nil
  go_simp
  (go_at_call 60; refine (c_cmpOr (x3 u1 u2 u3) wo.heap.size _ (fun i hi => cells3 _ _ _ _ _ i hi)).mono ?_; rintro e w7 ⟨r, rfl, hr, hb7⟩)
  refine hK.out _ _ (by (try dsimp only); (exact HS _ (by repeat' (first | (with_reducible exact Below.refl _ _) | (with_reducible assumption) | (with_reducible refine Base.via hb7 ?_) | (with_reducible refine Base.grow_alloc ?_ _) | (with_reducible refine Base.below_drewN ?_ _) | (with_reducible refine Below.drew ?_) | (with_reducible refine Below.setCell ?_ ?_ _) | go_size)))) (fun hHeld => ?_)
  clear hK K
  try simp only [Act.put, List.setIfInBounds_toArray, List.set_cons_zero, List.set_cons_succ]
  refine wpAnyH_take (i := 17) (oi := ⟨some 4, _, _, _, _, _⟩) (v := ?_) rfl (by kernel_rfl) (by kernel_rfl) (by kernel_rfl) (fun _ _ _ h => h) (Or.inl ⟨by rfl, ?_⟩) (by assumption) ?_
  rotate_left
  · (intro w' hSw; (try dsimp only at hSw); go_simp; try with_reducible rfl)
  try simp only [Act.put, List.setIfInBounds_toArray, List.set_cons_zero, List.set_cons_succ]
  refine wpAnyH_done (by kernel_rfl) ?_ _
  go_wp2
  go_ret
  exact ⟨ret_i (HO.out _ hr.out), (by repeat' (first | (with_reducible exact Below.refl _ _) | (with_reducible assumption) | (with_reducible refine Base.via hb7 ?_) | (with_reducible refine Base.via hbo ?_) | (with_reducible refine Base.grow_alloc ?_ _) | (with_reducible refine Base.below_drewN ?_ _) | (with_reducible refine Below.drew ?_) | (with_reducible refine Below.setCell ?_ ?_ _) | go_size))⟩
end Go.Proofs.YthojfmlnnclghaaGreatDoor.Cmp
