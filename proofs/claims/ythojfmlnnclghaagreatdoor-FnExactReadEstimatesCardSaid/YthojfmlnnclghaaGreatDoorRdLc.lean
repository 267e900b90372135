/- Reading a line that has no mark '<'. -/
import Derived.Test.YthojfmlnnclghaaGreatDoorRdL
namespace Go.Proofs.YthojfmlnnclghaaGreatDoor.Rd
set_option linter.unusedVariables false
set_option linter.unusedSimpArgs false
set_option maxRecDepth 8000
open Go.RowKit Plain Num View Dec Txt Name Etx Est

set_option maxHeartbeats 6400000 in
theorem c_l06Line_c (s : ByteArray) (w : World) (hs : s.size ≤ 1048576) (A B C D : List UInt8) (hP : spl 32 s.data.toList = [A, B, C, D]) (hD0 : 0 < D.length) (h60 : ¬ by8 ⟨D.toArray⟩ 0 = 60) :
    Calls Tryz.prog 10 #[.string s] w fun r w' => RLr s.data.toList r ∧ Below w.heap.size w w' := by
  have hL : s.data.toList.length = s.size := by rw [Array.length_toList]; rfl
  have HSP := Lib.hid (fun (X : World) => c_l01Split s 32 X hs)
  have HSL := Lib.hid (fun x hx => spl_len 32 _ s.data.toList (Nat.le_refl _) x hx)
  rw [hP] at HSP HSL
  have hAl : (⟨A.toArray⟩ : ByteArray).size ≤ 1048576 := by rw [Txt.size_l]; exact Nat.le_trans (HSL.out A (by simp)) (by omega)
  have hDl : D.length ≤ s.size := by rw [← hL]; exact HSL.out D (by simp)
  have hDs : (⟨D.toArray⟩ : ByteArray).size = D.length := Txt.size_l D
  have HNB := Lib.hid (fun (X : World) => c_l01Number ⟨A.toArray⟩ X hAl)
  have HRL := Lib.hid (fun (t m : Int) (f b1 b2 : Bool) (hf : Lib.hasPrefix D [60] = f) (h1 : RN A t b1) (h2 : RM (Lib.trimPrefix D [60]) m b2) => RL_of hP hf h1 h2)
  clear HSL hP hAl
  obtain ⟨DS, hDe⟩ : ∃ DS : ByteArray, (⟨D.toArray⟩ : ByteArray) = DS := ⟨_, rfl⟩
  have hDL : DS.data.toList = D := by rw [← hDe]
  rw [hDe] at hDs
  have hDm : DS.size ≤ 1048576 := by omega
  clear hDl hL
  rw [hDe] at h60
  rw [← hDs] at hD0
  obtain ⟨c0, hc0⟩ : ∃ c0, by8 DS 0 = c0 := ⟨_, rfl⟩
  have g0 : (((DS[0]'(by omega)).toNat : Nat) : Int) = c0 := (by8_eq (s := DS) (i := 0) (by omega)).trans hc0
  have HC0 := Lib.hid hc0
  clear hc0
  rw [HC0.out] at h60
  have hf : Lib.hasPrefix D [60] = false := hDL ▸ p60_no (fun h => h60 (by rw [← HC0.out]; exact h))
  have HRM := Lib.hid (fun (X : World) => c_specReadMag DS X hDm)
  rw [show DS.data.toList = Lib.trimPrefix D [60] by rw [hDL, Lib.trimPrefix, if_neg (by rw [hf]; exact Bool.false_ne_true)]] at HRM
  have hx : (c0 == 60) = false := by simp [h60]
  clear hDL hDs HC0 h60
  go_enter Tryz.func10, Tryz.ntmps10
  go_wp2_with (first | (go_at_call 9; refine (HSP.out _).mono ?_; rintro e w1 ⟨g, cap, rfl, ho1, hb1⟩; have zhb1 := hb1.size; (try simp at zhb1); have x0 : World.cell? w1 ⟨w.heap.size, 0, none⟩ = some (.int .i64 0) := ((hb1.cell (p := ⟨w.heap.size, 0, none⟩) (by first | (simp; done) | (simp; omega) | omega)).trans (by simp [go_sem])); have y0 : World.frozen? w1 ⟨w.heap.size, 0, none⟩ = false := ((hb1.frozen (p := ⟨w.heap.size, 0, none⟩) (by first | (simp; done) | (simp; omega) | omega)).trans (by simp [go_sem])); have x1 : World.cell? w1 ⟨w.heap.size, 1, none⟩ = some (.string ⟨#[]⟩) := ((hb1.cell (p := ⟨w.heap.size, 1, none⟩) (by first | (simp; done) | (simp; omega) | omega)).trans (by simp [go_sem])); have y1 : World.frozen? w1 ⟨w.heap.size, 1, none⟩ = false := ((hb1.frozen (p := ⟨w.heap.size, 1, none⟩) (by first | (simp; done) | (simp; omega) | omega)).trans (by simp [go_sem])); have x2 : World.cell? w1 ⟨w.heap.size, 2, none⟩ = some (.string ⟨#[]⟩) := ((hb1.cell (p := ⟨w.heap.size, 2, none⟩) (by first | (simp; done) | (simp; omega) | omega)).trans (by simp [go_sem])); have y2 : World.frozen? w1 ⟨w.heap.size, 2, none⟩ = false := ((hb1.frozen (p := ⟨w.heap.size, 2, none⟩) (by first | (simp; done) | (simp; omega) | omega)).trans (by simp [go_sem])); have x3 : World.cell? w1 ⟨w.heap.size, 3, none⟩ = some (.int .i64 0) := ((hb1.cell (p := ⟨w.heap.size, 3, none⟩) (by first | (simp; done) | (simp; omega) | omega)).trans (by simp [go_sem])); have y3 : World.frozen? w1 ⟨w.heap.size, 3, none⟩ = false := ((hb1.frozen (p := ⟨w.heap.size, 3, none⟩) (by first | (simp; done) | (simp; omega) | omega)).trans (by simp [go_sem])); have x4 : World.cell? w1 ⟨w.heap.size, 4, none⟩ = some (.bool false) := ((hb1.cell (p := ⟨w.heap.size, 4, none⟩) (by first | (simp; done) | (simp; omega) | omega)).trans (by simp [go_sem])); have y4 : World.frozen? w1 ⟨w.heap.size, 4, none⟩ = false := ((hb1.frozen (p := ⟨w.heap.size, 4, none⟩) (by first | (simp; done) | (simp; omega) | omega)).trans (by simp [go_sem])); have HB := Lib.hid (fun (X : World) (hX : Below w1.heap.size w1 X) => (⟨⟨cell_call hX x0, cell_call hX x1, cell_call hX x2, cell_call hX x3, cell_call hX x4⟩, fr_call hX x0 y0, fr_call hX x1 y1, fr_call hX x2 y2, fr_call hX x3 y3, fr_call hX x4 y4⟩ : (_ ∧ _ ∧ _ ∧ _ ∧ _) ∧ (_ ∧ _ ∧ _ ∧ _ ∧ _))); clear x0 y0 x1 y1 x2 y2 x3 y3 x4 y4; have k0 := part_cell ho1 (k := 0) (x := A) rfl; have k1 := part_cell ho1 (k := 1) (x := B) rfl; have k2 := part_cell ho1 (k := 2) (x := C) rfl; have k3 := part_cell ho1 (k := 3) (x := D) rfl; rw [hDe] at k3; have HK := Lib.hid (fun (X : World) (hX : Below w1.heap.size w1 X) => (⟨cell_call hX k1, cell_call hX k2, cell_call hX k3⟩ : _ ∧ _ ∧ _)); have lg := (World.block_lt_of_cell? _ _ k0); simp only at lg; clear k1 k2 k3; simp only [List.length_cons, List.length_nil] at ho1 ⊢) | (go_at_call 21; refine (HNB.out _).mono ?_; rintro e w2 ⟨⟨t, b1, rfl, hrn⟩, hb2⟩; have HRN := Lib.hid hrn; clear hrn k0; obtain ⟨k1, k2, k3⟩ := HK.out w2 (by repeat' (first | (with_reducible exact Below.refl _ _) | (with_reducible assumption) | (with_reducible refine Base.via hb2 ?_) | (with_reducible refine Base.grow_alloc ?_ _) | (with_reducible refine Base.below_drewN ?_ _) | (with_reducible refine Below.drew ?_) | (with_reducible refine Below.setCell ?_ ?_ _) | go_size)); have zhb2 := hb2.size; (try simp at zhb2)) | (go_at_call 22; refine (HRM.out _).mono ?_; rintro e w3 ⟨⟨m, b2, rfl, hrm⟩, hb3⟩; have HRM2 := Lib.hid hrm; clear hrm k1 k2 k3; obtain ⟨k1, k2, k3⟩ := HK.out w3 (by repeat' (first | (with_reducible exact Below.refl _ _) | (with_reducible assumption) | (with_reducible refine Base.via hb3 ?_) | (with_reducible refine Base.via hb2 ?_) | (with_reducible refine Base.grow_alloc ?_ _) | (with_reducible refine Base.below_drewN ?_ _) | (with_reducible refine Below.drew ?_) | (with_reducible refine Below.setCell ?_ ?_ _) | go_size)); have zhb3 := hb3.size; (try simp at zhb3)))
  have hbw : Below w.heap.size w w3 := (by repeat' (first | (with_reducible exact Below.refl _ _) | (with_reducible assumption) | (with_reducible refine Base.via hb3 ?_) | (with_reducible refine Base.via hb2 ?_) | (with_reducible refine Base.via hb1 ?_) | (with_reducible refine Base.grow_alloc ?_ _) | (with_reducible refine Base.below_drewN ?_ _) | (with_reducible refine Below.drew ?_) | (with_reducible refine Below.setCell ?_ ?_ _) | go_size))
  obtain ⟨⟨x0, x1, x2, x3, x4⟩, z0, z1, z2, z3, z4⟩ := HB.out w3 (by repeat' (first | (with_reducible exact Below.refl _ _) | (with_reducible assumption) | (with_reducible refine Base.via hb3 ?_) | (with_reducible refine Base.via hb2 ?_) | (with_reducible refine Base.grow_alloc ?_ _) | (with_reducible refine Base.below_drewN ?_ _) | (with_reducible refine Below.drew ?_) | (with_reducible refine Below.setCell ?_ ?_ _) | go_size))
  clear HB
  have HR := Lib.hid (HRL.out t m false b1 b2 hf HRN.out HRM2.out)
  have lgw : g < w3.heap.size := by omega
  have lww : w.heap.size < w3.heap.size := by omega
  have hgw : w.heap.size ≠ g := by have := (ho1.lt g rfl).1; simp at this; omega
  clear HRN HRM2 HRM HNB HSP HRL HK k3 ho1 hb3 hb2 hb1 zhb1 zhb2 zhb3 lg hDe hDm hf hs
  generalize (⟨B.toArray⟩ : ByteArray) = BS at *
  generalize (⟨C.toArray⟩ : ByteArray) = CS at *
  cases b1
  · simp only [Bool.false_and] at HR
    go_wp2
    refine wp_region_held_drew (S := (fun W => (W.cell? ⟨g, 1, none⟩ = some (.string BS) ∧ W.cell? ⟨g, 2, none⟩ = some (.string CS)) ∧ Below w.heap.size w W)) (by kernel_rfl) (by (try dsimp only); (exact ⟨⟨k1, k2⟩, hbw.drew⟩)) (fun hHeld => ?_)
    refine wpAnyH_take (i := 0) (oi := ⟨some 43, _, _, _, _, _⟩) (v := ?_) rfl (by kernel_rfl) (by kernel_rfl) (by kernel_rfl) (fun _ _ _ h => h) (Or.inl ⟨by rfl, ?_⟩) (by assumption) ?_
    rotate_left
    · (intro w' hSw; (try dsimp only at hSw); go_simp; try with_reducible rfl)
    try simp only [Act.put, List.setIfInBounds_toArray, List.set_cons_zero, List.set_cons_succ]
    refine wpAnyH_take (i := 1) (oi := ⟨some 44, _, _, _, _, _⟩) (v := ?_) rfl (by kernel_rfl) (by kernel_rfl) (by kernel_rfl) (fun _ _ _ h => h) (Or.inl ⟨by rfl, ?_⟩) (by assumption) ?_
    rotate_left
    · (intro w' hSw; (try dsimp only at hSw); go_simp; try with_reducible rfl)
    try simp only [Act.put, List.setIfInBounds_toArray, List.set_cons_zero, List.set_cons_succ]
    refine wpAnyH_take (i := 2) (oi := ⟨some 45, _, _, _, _, _⟩) (v := ?_) rfl (by kernel_rfl) (by kernel_rfl) (by kernel_rfl) (fun _ _ _ h => h) (Or.inl ⟨by rfl, ?_⟩) (by assumption) ?_
    rotate_left
    · (intro w' hSw; (try dsimp only at hSw); go_simp; try with_reducible rfl)
    try simp only [Act.put, List.setIfInBounds_toArray, List.set_cons_zero, List.set_cons_succ]
    refine wpAnyH_take (i := 3) (oi := ⟨some 46, _, _, _, _, _⟩) (v := ?_) rfl (by kernel_rfl) (by kernel_rfl) (by kernel_rfl) (fun _ _ _ h => h) (Or.inl ⟨by rfl, ?_⟩) (by assumption) ?_
    rotate_left
    · (intro w' hSw; (try dsimp only at hSw); go_simp; try with_reducible rfl)
    try simp only [Act.put, List.setIfInBounds_toArray, List.set_cons_zero, List.set_cons_succ]
    refine wpAnyH_take (i := 4) (oi := ⟨some 47, _, _, _, _, _⟩) (v := ?_) rfl (by kernel_rfl) (by kernel_rfl) (by kernel_rfl) (fun _ _ _ h => h) (Or.inl ⟨by rfl, ?_⟩) (by assumption) ?_
    rotate_left
    · (intro w' hSw; (try dsimp only at hSw); go_simp; try with_reducible rfl)
    try simp only [Act.put, List.setIfInBounds_toArray, List.set_cons_zero, List.set_cons_succ]
    refine wpAnyH_take (i := 5) (oi := ⟨some 48, _, _, _, _, _⟩) (v := ?_) rfl (by kernel_rfl) (by kernel_rfl) (by kernel_rfl) (fun _ _ _ h => h) (Or.inl ⟨by rfl, ?_⟩) (by assumption) ?_
    rotate_left
    · (intro w' hSw; (try dsimp only at hSw); go_simp; try with_reducible rfl)
    try simp only [Act.put, List.setIfInBounds_toArray, List.set_cons_zero, List.set_cons_succ]
    refine wpAnyH_take (i := 6) (oi := ⟨some 49, _, _, _, _, _⟩) (v := ?_) rfl (by kernel_rfl) (by kernel_rfl) (by kernel_rfl) (fun _ _ _ h => h) (Or.inl ⟨by rfl, ?_⟩) (by assumption) ?_
    rotate_left
    · (intro w' hSw; (try dsimp only at hSw); go_simp; try with_reducible rfl)
    try simp only [Act.put, List.setIfInBounds_toArray, List.set_cons_zero, List.set_cons_succ]
    refine wpAnyH_take (i := 7) (oi := ⟨some 50, _, _, _, _, _⟩) (v := ?_) rfl (by kernel_rfl) (by kernel_rfl) (by kernel_rfl) (fun _ _ _ h => h) (Or.inl ⟨by rfl, ?_⟩) (by assumption) ?_
    rotate_left
    · (intro w' hSw; (try dsimp only at hSw); go_simp; try with_reducible rfl)
    try simp only [Act.put, List.setIfInBounds_toArray, List.set_cons_zero, List.set_cons_succ]
    refine wpAnyH_take (i := 8) (oi := ⟨some 51, _, _, _, _, _⟩) (v := ?_) rfl (by kernel_rfl) (by kernel_rfl) (by kernel_rfl) (fun _ _ _ h => h) (Or.inl ⟨by rfl, ?_⟩) (by assumption) ?_
    rotate_left
    · (intro w' hSw; (try dsimp only at hSw); go_simp; try with_reducible rfl)
    try simp only [Act.put, List.setIfInBounds_toArray, List.set_cons_zero, List.set_cons_succ]
    refine wpAnyH_take (i := 9) (oi := ⟨some 52, _, _, _, _, _⟩) (v := ?_) rfl (by kernel_rfl) (by kernel_rfl) (by kernel_rfl) (fun _ _ _ h => h) (Or.inl ⟨by rfl, ?_⟩) (by assumption) ?_
    rotate_left
    · (intro w' hSw; (try dsimp only at hSw); go_simp; try with_reducible rfl)
    try simp only [Act.put, List.setIfInBounds_toArray, List.set_cons_zero, List.set_cons_succ]
    refine wpAnyH_take (i := 10) (oi := ⟨some 53, _, _, _, _, _⟩) (v := ?_) rfl (by kernel_rfl) (by kernel_rfl) (by kernel_rfl) (fun _ _ _ h => h) (Or.inl ⟨by rfl, ?_⟩) (by assumption) ?_
    rotate_left
    · (intro w' hSw; (try dsimp only at hSw); go_simp; try with_reducible rfl)
    try simp only [Act.put, List.setIfInBounds_toArray, List.set_cons_zero, List.set_cons_succ]
    refine wpAnyH_take (i := 11) (oi := ⟨some 54, _, _, _, _, _⟩) (v := ?_) rfl (by kernel_rfl) (by kernel_rfl) (by kernel_rfl) (fun _ _ _ h => h) (Or.inl ⟨by rfl, ?_⟩) (by assumption) ?_
    rotate_left
    · (intro w' hSw; (try dsimp only at hSw); go_simp; try with_reducible rfl)
    try simp only [Act.put, List.setIfInBounds_toArray, List.set_cons_zero, List.set_cons_succ]
    refine wpAnyH_take (i := 12) (oi := ⟨some 55, _, _, _, _, _⟩) (v := undef) rfl (by kernel_rfl) (by kernel_rfl) (by kernel_rfl) (fun _ _ _ h => h) (Or.inr ⟨by rfl, rfl⟩) (by assumption) ?_
    try simp only [Act.put, List.setIfInBounds_toArray, List.set_cons_zero, List.set_cons_succ]
    refine wpAnyH_take (i := 13) (oi := ⟨some 56, _, _, _, _, _⟩) (v := ?_) rfl (by kernel_rfl) (by kernel_rfl) (by kernel_rfl) (fun _ _ _ h => h) (Or.inl ⟨by rfl, ?_⟩) (by assumption) ?_
    rotate_left
    · (intro w' hSw; (try dsimp only at hSw); go_simp; try with_reducible rfl)
    try simp only [Act.put, List.setIfInBounds_toArray, List.set_cons_zero, List.set_cons_succ]
    refine wpAnyH_ready (rs := [14]) (by kernel_rfl) (by simp) ?_
    refine AllReadyH.cons (o := ⟨none, _, _, _, _, _⟩) rfl (fun KK hK => ?_) AllReadyH.nil
    go_simp
    obtain ⟨w5, hw5, ⟨n1, n2⟩, ⟨y0, y1, y2, y3, y4⟩, hb5, hl5⟩ := box5 (a0 := .int .i64 t) (a1 := .string BS) (a2 := .string CS) (a3 := .int .i64 m) (a4 := .bool false) hbw lww hgw k1 k2 x0 x1 x2 x3 x4
    rw [← hw5]
    refine hK.out _ _ (by (try dsimp only); exact ⟨⟨n1, n2⟩, hb5⟩) (fun hHeld => ?_)
    clear hK KK hw5 x0 x1 x2 x3 x4
    try simp only [Act.put, List.setIfInBounds_toArray, List.set_cons_zero, List.set_cons_succ]
    refine wpAnyH_take (i := 15) (oi := ⟨some 3, _, _, _, _, _⟩) (v := ?_) rfl (by kernel_rfl) (by kernel_rfl) (by kernel_rfl) (fun _ _ _ h => h) (Or.inl ⟨by rfl, ?_⟩) (by assumption) ?_
    rotate_left
    · (intro w' hSw; (try dsimp only at hSw); go_simp; try with_reducible rfl)
    try simp only [Act.put, List.setIfInBounds_toArray, List.set_cons_zero, List.set_cons_succ]
    refine wpAnyH_done (by kernel_rfl) ?_ _
    go_wp2
    refine bodyPost_ret (v := .tuple #[.agg #[.int .i64 t, .string BS, .string CS, .int .i64 m, .bool false], .bool false]) (by simp [results, Tryz.results10, go_sem, hl5, y0, y1, y2, y3, y4]) rfl ⟨⟨_, _, rfl, HR.out⟩, hb5⟩
  · simp only [Bool.true_and] at HR
    go_wp2
    refine wp_region_held_drew (S := (fun W => (W.cell? ⟨g, 1, none⟩ = some (.string BS) ∧ W.cell? ⟨g, 2, none⟩ = some (.string CS)) ∧ Below w.heap.size w W)) (by kernel_rfl) (by (try dsimp only); (exact ⟨⟨k1, k2⟩, hbw.drew⟩)) (fun hHeld => ?_)
    refine wpAnyH_take (i := 0) (oi := ⟨some 43, _, _, _, _, _⟩) (v := ?_) rfl (by kernel_rfl) (by kernel_rfl) (by kernel_rfl) (fun _ _ _ h => h) (Or.inl ⟨by rfl, ?_⟩) (by assumption) ?_
    rotate_left
    · (intro w' hSw; (try dsimp only at hSw); go_simp; try with_reducible rfl)
    try simp only [Act.put, List.setIfInBounds_toArray, List.set_cons_zero, List.set_cons_succ]
    refine wpAnyH_take (i := 1) (oi := ⟨some 44, _, _, _, _, _⟩) (v := ?_) rfl (by kernel_rfl) (by kernel_rfl) (by kernel_rfl) (fun _ _ _ h => h) (Or.inl ⟨by rfl, ?_⟩) (by assumption) ?_
    rotate_left
    · (intro w' hSw; (try dsimp only at hSw); go_simp; try with_reducible rfl)
    try simp only [Act.put, List.setIfInBounds_toArray, List.set_cons_zero, List.set_cons_succ]
    refine wpAnyH_take (i := 2) (oi := ⟨some 45, _, _, _, _, _⟩) (v := ?_) rfl (by kernel_rfl) (by kernel_rfl) (by kernel_rfl) (fun _ _ _ h => h) (Or.inl ⟨by rfl, ?_⟩) (by assumption) ?_
    rotate_left
    · (intro w' hSw; (try dsimp only at hSw); go_simp; try with_reducible rfl)
    try simp only [Act.put, List.setIfInBounds_toArray, List.set_cons_zero, List.set_cons_succ]
    refine wpAnyH_take (i := 3) (oi := ⟨some 46, _, _, _, _, _⟩) (v := ?_) rfl (by kernel_rfl) (by kernel_rfl) (by kernel_rfl) (fun _ _ _ h => h) (Or.inl ⟨by rfl, ?_⟩) (by assumption) ?_
    rotate_left
    · (intro w' hSw; (try dsimp only at hSw); go_simp; try with_reducible rfl)
    try simp only [Act.put, List.setIfInBounds_toArray, List.set_cons_zero, List.set_cons_succ]
    refine wpAnyH_take (i := 4) (oi := ⟨some 47, _, _, _, _, _⟩) (v := ?_) rfl (by kernel_rfl) (by kernel_rfl) (by kernel_rfl) (fun _ _ _ h => h) (Or.inl ⟨by rfl, ?_⟩) (by assumption) ?_
    rotate_left
    · (intro w' hSw; (try dsimp only at hSw); go_simp; try with_reducible rfl)
    try simp only [Act.put, List.setIfInBounds_toArray, List.set_cons_zero, List.set_cons_succ]
    refine wpAnyH_take (i := 5) (oi := ⟨some 48, _, _, _, _, _⟩) (v := ?_) rfl (by kernel_rfl) (by kernel_rfl) (by kernel_rfl) (fun _ _ _ h => h) (Or.inl ⟨by rfl, ?_⟩) (by assumption) ?_
    rotate_left
    · (intro w' hSw; (try dsimp only at hSw); go_simp; try with_reducible rfl)
    try simp only [Act.put, List.setIfInBounds_toArray, List.set_cons_zero, List.set_cons_succ]
    refine wpAnyH_take (i := 6) (oi := ⟨some 49, _, _, _, _, _⟩) (v := ?_) rfl (by kernel_rfl) (by kernel_rfl) (by kernel_rfl) (fun _ _ _ h => h) (Or.inl ⟨by rfl, ?_⟩) (by assumption) ?_
    rotate_left
    · (intro w' hSw; (try dsimp only at hSw); go_simp; try with_reducible rfl)
    try simp only [Act.put, List.setIfInBounds_toArray, List.set_cons_zero, List.set_cons_succ]
    refine wpAnyH_take (i := 7) (oi := ⟨some 50, _, _, _, _, _⟩) (v := ?_) rfl (by kernel_rfl) (by kernel_rfl) (by kernel_rfl) (fun _ _ _ h => h) (Or.inl ⟨by rfl, ?_⟩) (by assumption) ?_
    rotate_left
    · (intro w' hSw; (try dsimp only at hSw); go_simp; try with_reducible rfl)
    try simp only [Act.put, List.setIfInBounds_toArray, List.set_cons_zero, List.set_cons_succ]
    refine wpAnyH_take (i := 8) (oi := ⟨some 51, _, _, _, _, _⟩) (v := ?_) rfl (by kernel_rfl) (by kernel_rfl) (by kernel_rfl) (fun _ _ _ h => h) (Or.inl ⟨by rfl, ?_⟩) (by assumption) ?_
    rotate_left
    · (intro w' hSw; (try dsimp only at hSw); go_simp; try with_reducible rfl)
    try simp only [Act.put, List.setIfInBounds_toArray, List.set_cons_zero, List.set_cons_succ]
    refine wpAnyH_take (i := 9) (oi := ⟨some 52, _, _, _, _, _⟩) (v := ?_) rfl (by kernel_rfl) (by kernel_rfl) (by kernel_rfl) (fun _ _ _ h => h) (Or.inl ⟨by rfl, ?_⟩) (by assumption) ?_
    rotate_left
    · (intro w' hSw; (try dsimp only at hSw); go_simp; try with_reducible rfl)
    try simp only [Act.put, List.setIfInBounds_toArray, List.set_cons_zero, List.set_cons_succ]
    refine wpAnyH_take (i := 10) (oi := ⟨some 53, _, _, _, _, _⟩) (v := ?_) rfl (by kernel_rfl) (by kernel_rfl) (by kernel_rfl) (fun _ _ _ h => h) (Or.inl ⟨by rfl, ?_⟩) (by assumption) ?_
    rotate_left
    · (intro w' hSw; (try dsimp only at hSw); go_simp; try with_reducible rfl)
    try simp only [Act.put, List.setIfInBounds_toArray, List.set_cons_zero, List.set_cons_succ]
    refine wpAnyH_take (i := 11) (oi := ⟨some 54, _, _, _, _, _⟩) (v := ?_) rfl (by kernel_rfl) (by kernel_rfl) (by kernel_rfl) (fun _ _ _ h => h) (Or.inl ⟨by rfl, ?_⟩) (by assumption) ?_
    rotate_left
    · (intro w' hSw; (try dsimp only at hSw); go_simp; try with_reducible rfl)
    try simp only [Act.put, List.setIfInBounds_toArray, List.set_cons_zero, List.set_cons_succ]
    refine wpAnyH_take (i := 12) (oi := ⟨some 55, _, _, _, _, _⟩) (v := ?_) rfl (by kernel_rfl) (by kernel_rfl) (by kernel_rfl) (fun _ _ _ h => h) (Or.inl ⟨by rfl, ?_⟩) (by assumption) ?_
    rotate_left
    · (intro w' hSw; (try dsimp only at hSw); go_simp; try with_reducible rfl)
    try simp only [Act.put, List.setIfInBounds_toArray, List.set_cons_zero, List.set_cons_succ]
    refine wpAnyH_take (i := 13) (oi := ⟨some 56, _, _, _, _, _⟩) (v := ?_) rfl (by kernel_rfl) (by kernel_rfl) (by kernel_rfl) (fun _ _ _ h => h) (Or.inl ⟨by rfl, ?_⟩) (by assumption) ?_
    rotate_left
    · (intro w' hSw; (try dsimp only at hSw); go_simp; try with_reducible rfl)
    try simp only [Act.put, List.setIfInBounds_toArray, List.set_cons_zero, List.set_cons_succ]
    refine wpAnyH_ready (rs := [14]) (by kernel_rfl) (by simp) ?_
    refine AllReadyH.cons (o := ⟨none, _, _, _, _, _⟩) rfl (fun KK hK => ?_) AllReadyH.nil
    go_simp
    obtain ⟨w5, hw5, ⟨n1, n2⟩, ⟨y0, y1, y2, y3, y4⟩, hb5, hl5⟩ := box5 (a0 := .int .i64 t) (a1 := .string BS) (a2 := .string CS) (a3 := .int .i64 m) (a4 := .bool false) hbw lww hgw k1 k2 x0 x1 x2 x3 x4
    rw [← hw5]
    refine hK.out _ _ (by (try dsimp only); exact ⟨⟨n1, n2⟩, hb5⟩) (fun hHeld => ?_)
    clear hK KK hw5 x0 x1 x2 x3 x4
    try simp only [Act.put, List.setIfInBounds_toArray, List.set_cons_zero, List.set_cons_succ]
    refine wpAnyH_take (i := 15) (oi := ⟨some 3, _, _, _, _, _⟩) (v := ?_) rfl (by kernel_rfl) (by kernel_rfl) (by kernel_rfl) (fun _ _ _ h => h) (Or.inl ⟨by rfl, ?_⟩) (by assumption) ?_
    rotate_left
    · (intro w' hSw; (try dsimp only at hSw); go_simp; try with_reducible rfl)
    try simp only [Act.put, List.setIfInBounds_toArray, List.set_cons_zero, List.set_cons_succ]
    refine wpAnyH_done (by kernel_rfl) ?_ _
    go_wp2
    refine bodyPost_ret (v := .tuple #[.agg #[.int .i64 t, .string BS, .string CS, .int .i64 m, .bool false], .bool b2]) (by simp [results, Tryz.results10, go_sem, hl5, y0, y1, y2, y3, y4]) rfl ⟨⟨_, _, rfl, HR.out⟩, hb5⟩
end Go.Proofs.YthojfmlnnclghaaGreatDoor.Rd
