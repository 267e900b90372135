/- Charts: marks, when they are valid. -/
import Derived.Test.YtpkkeoapndpikaaDoorView
import Derived.Test.YtpkkeoapndpikaaDoorNum
import Derived.Test.YtpkkeoapndpikaaDoorPl2
import Derived.Test.YtpkkeoapndpikaaDoorIdx
import Derived.BigQuiet
import Derived.Deep.QuietTactic
import Derived.Deep.RegionHeld3
import Derived.Deep.RegionWith
namespace Go.Proofs.YtpkkeoapndpikaaDoor.Chart
set_option linter.unusedVariables false
set_option linter.unusedSimpArgs false
open Go.RowKit Plain Num View

def okMark (x y m : Int) : Bool := inB x 0 2000 && inB y 0 2000 && inB m (-2000) 20000
def okMk (X Y M : Nat → Int) (i : Nat) : Bool := okMark (X i) (Y i) (M i) && !anyB i (fun j => X j == X i && Y j == Y i)
def okChart (n : Nat) (X Y M : Nat → Int) : Bool := decide (n ≤ 30) && allB n (okMk X Y M)
theorem okChart_n {n : Nat} {X Y M : Nat → Int} (h : okChart n X Y M = true) : n ≤ 30 := by
  simp only [okChart, Bool.and_eq_true, decide_eq_true_eq] at h
  exact h.1
theorem okChart_bd {n : Nat} {X Y M : Nat → Int} (h : okChart n X Y M = true) : ∀ i, i < n → (0 ≤ X i ∧ X i ≤ 2000) ∧ (0 ≤ Y i ∧ Y i ≤ 2000) ∧ (-2000 ≤ M i ∧ M i ≤ 20000) := by
  simp only [okChart, Bool.and_eq_true, decide_eq_true_eq] at h
  intro i hi
  have := allB_iff.1 h.2 i hi
  simp only [okMk, okMark, Bool.and_eq_true] at this
  exact ⟨inB_iff.1 this.1.1.1, inB_iff.1 this.1.1.2, inB_iff.1 this.1.2⟩
theorem Sl.pre {w k A n c f} (h : Sl w k A n c f) {m : Nat} (hm : m ≤ n) : Sl w k A m c f :=
  ⟨Nat.le_trans hm h.le, Nat.le_trans hm h.leC, h.leM, fun hp => by
    obtain ⟨b, off, e, hb, hc⟩ := h.at_ (by omega)
    exact ⟨b, off, e, hb, fun i hi j hj => hc i (by omega) j hj⟩⟩

theorem c_isMark (x y m : Int) (w : World) : Calls Tryd.prog 46 #[.agg #[.int .i64 x, .int .i64 y, .int .i64 m]] w fun r w' => r = .returned (.bool (okMark x y m)) ∧ Below w.heap.size w w' := by
  by_cases h1 : inB x 0 2000 = true
  · by_cases h2 : inB y 0 2000 = true
    · go_enter Tryd.func46, Tryd.ntmps46
      go_wp2_with (first | (go_at_call 55; refine (c_in _ _ _ _).mono ?_; rintro e w' ⟨rfl, rfl⟩) | (go_at_call 43; refine (c_ValidMag _ _).mono ?_; rintro e w' ⟨rfl, rfl⟩))
      go_ret
      exact ⟨ret_bool (by simp [okMark, h1, h2]), (by repeat' (first | (with_reducible exact Below.refl _ _) | (with_reducible assumption) | (with_reducible refine Base.grow_alloc ?_ _) | (with_reducible refine Base.below_drewN ?_ _) | (with_reducible refine Below.drew ?_) | (with_reducible refine Below.setCell ?_ ?_ _) | go_size))⟩
    · go_enter Tryd.func46, Tryd.ntmps46
      go_wp2_with (first | (go_at_call 55; refine (c_in _ _ _ _).mono ?_; rintro e w' ⟨rfl, rfl⟩) | (go_at_call 43; refine (c_ValidMag _ _).mono ?_; rintro e w' ⟨rfl, rfl⟩))
      go_ret
      exact ⟨ret_bool (by simp [okMark, h2]), (by repeat' (first | (with_reducible exact Below.refl _ _) | (with_reducible assumption) | (with_reducible refine Base.grow_alloc ?_ _) | (with_reducible refine Base.below_drewN ?_ _) | (with_reducible refine Below.drew ?_) | (with_reducible refine Below.setCell ?_ ?_ _) | go_size))⟩
  · go_enter Tryd.func46, Tryd.ntmps46
    go_wp2_with (first | (go_at_call 55; refine (c_in _ _ _ _).mono ?_; rintro e w' ⟨rfl, rfl⟩) | (go_at_call 43; refine (c_ValidMag _ _).mono ?_; rintro e w' ⟨rfl, rfl⟩))
    go_ret
    exact ⟨ret_bool (by simp [okMark, h1]), (by repeat' (first | (with_reducible exact Below.refl _ _) | (with_reducible assumption) | (with_reducible refine Base.grow_alloc ?_ _) | (with_reducible refine Base.below_drewN ?_ _) | (with_reducible refine Below.drew ?_) | (with_reducible refine Below.setCell ?_ ?_ _) | go_size))⟩
theorem c_l07One (x y m : Int) (w : World) : Calls Tryd.prog 45 #[.agg #[.int .i64 x, .int .i64 y, .int .i64 m]] w fun r w' => r = .returned (.bool (okMark x y m)) ∧ Below w.heap.size w w' := by
  by_cases h1 : inB x 0 2000 = true
  · by_cases h2 : inB y 0 2000 = true
    · go_enter Tryd.func45, Tryd.ntmps45
      go_wp2_with (first | (go_at_call 73; refine (c_l07Place _ _).mono ?_; rintro e w' ⟨rfl, rfl⟩) | (go_at_call 41; refine (c_l02Mag _ _).mono ?_; rintro e w' ⟨rfl, rfl⟩))
      go_ret
      exact ⟨ret_bool (by simp [okMark, h1, h2]), (by repeat' (first | (with_reducible exact Below.refl _ _) | (with_reducible assumption) | (with_reducible refine Base.grow_alloc ?_ _) | (with_reducible refine Base.below_drewN ?_ _) | (with_reducible refine Below.drew ?_) | (with_reducible refine Below.setCell ?_ ?_ _) | go_size))⟩
    · go_enter Tryd.func45, Tryd.ntmps45
      go_wp2_with (first | (go_at_call 73; refine (c_l07Place _ _).mono ?_; rintro e w' ⟨rfl, rfl⟩) | (go_at_call 41; refine (c_l02Mag _ _).mono ?_; rintro e w' ⟨rfl, rfl⟩))
      go_ret
      exact ⟨ret_bool (by simp [okMark, h2]), (by repeat' (first | (with_reducible exact Below.refl _ _) | (with_reducible assumption) | (with_reducible refine Base.grow_alloc ?_ _) | (with_reducible refine Base.below_drewN ?_ _) | (with_reducible refine Below.drew ?_) | (with_reducible refine Below.setCell ?_ ?_ _) | go_size))⟩
  · go_enter Tryd.func45, Tryd.ntmps45
    go_wp2_with (first | (go_at_call 73; refine (c_l07Place _ _).mono ?_; rintro e w' ⟨rfl, rfl⟩) | (go_at_call 41; refine (c_l02Mag _ _).mono ?_; rintro e w' ⟨rfl, rfl⟩))
    go_ret
    exact ⟨ret_bool (by simp [okMark, h1]), (by repeat' (first | (with_reducible exact Below.refl _ _) | (with_reducible assumption) | (with_reducible refine Base.grow_alloc ?_ _) | (with_reducible refine Base.below_drewN ?_ _) | (with_reducible refine Below.drew ?_) | (with_reducible refine Below.setCell ?_ ?_ _) | go_size))⟩
set_option maxHeartbeats 4000000 in
theorem c_ValidChart (A : Option Addr) (n c : Nat) (X Y M : Nat → Int) (w : World) (hv : Sl w 3 A n c (f3 X Y M)) :
    Calls Tryd.prog 59 #[.slice A n c] w fun r w' => r = .returned (.bool (okChart n X Y M)) ∧ Below w.heap.size w w' := by
  have hn := hv.le
  have hnc := hv.leC
  have hcm := hv.leM
  by_cases h30 : n ≤ 30
  · go_enter Tryd.func59, Tryd.ntmps59
    go_wp2
    go_loopw [10] (fun i wr => ∃ k : Nat, k ≤ n ∧ i = .int .i64 k ∧ Below w.heap.size w wr ∧ allB k (okMk X Y M) = true) (fun i _ => n - (intOf i).toNat)
    case atStart => exact ⟨0, Nat.zero_le _, rfl, Below.refl _ _, rfl⟩
    case round =>
      obtain ⟨k, hk, rfl, hbr, hall⟩ := hrel
      have HALL := Lib.hid hall
      clear hall
      by_cases hlt : k < n
      · obtain ⟨b, off, rfl, hb, hc⟩ := (hv.below hbr).at_ (by omega)
        obtain ⟨h0, h1, h2⟩ := cells3 hc k hlt
        have hki : (k : Int) ≤ (c : Int) := by omega
        have hkc : k ≤ c := by omega
        have hc0 : ¬ c = 0 := by omega
        have hvk := Lib.hid (Sl.pre (hv.below hbr) hk)
        clear hc
        have hM' : okMark (X k) (Y k) (M k) = true ∨ okMark (X k) (Y k) (M k) = false := by cases okMark (X k) (Y k) (M k) <;> simp
        rcases hM' with hM | hM
        · cases hA : anyB k (fun j => X j == X k && Y j == Y k)
          · go_wp2
            go_region_held3 (fun W => W.cell? ⟨wr.heap.size, 0, none⟩ = some (.int .i64 (X k)) ∧ W.cell? ⟨wr.heap.size, 1, none⟩ = some (.int .i64 (Y k)) ∧ W.cell? ⟨wr.heap.size, 2, none⟩ = some (.int .i64 (M k)) ∧ wr.heap.size < W.heap.size ∧ Below wr.heap.size wr W)
              ((first | exact ⟨by simp, by simp, by simp, by simp, (by repeat' (first | (with_reducible exact Below.refl _ _) | (with_reducible assumption) | (with_reducible refine Base.grow_alloc ?_ _) | (with_reducible refine Base.below_drewN ?_ _) | (with_reducible refine Below.drew ?_) | (with_reducible refine Below.setCell ?_ ?_ _) | go_size))⟩ | exact ⟨((Base.bcell hb1).1 _ _ (by simp)).trans (by simp), ((Base.bcell hb1).1 _ _ (by simp)).trans (by simp), ((Base.bcell hb1).1 _ _ (by simp)).trans (by simp), Nat.lt_of_lt_of_le (by simp) hb1.size, (by repeat' (first | (with_reducible exact Below.refl _ _) | (with_reducible assumption) | (with_reducible refine Base.via hb1 ?_) | (with_reducible refine Base.grow_alloc ?_ _) | (with_reducible refine Base.below_drewN ?_ _) | (with_reducible refine Below.drew ?_) | (with_reducible refine Below.setCell ?_ ?_ _) | go_size))⟩ | (obtain ⟨s0, s1, s2, s3, s4⟩ := ‹_ ∧ _ ∧ _ ∧ _ ∧ _›; exact ⟨((Base.bcell hb2).1 _ _ s3).trans s0, ((Base.bcell hb2).1 _ _ s3).trans s1, ((Base.bcell hb2).1 _ _ s3).trans s2, Nat.lt_of_lt_of_le s3 hb2.size, Base.via hb2 s4⟩)))
              (first | (go_at_call 46; refine (c_isMark _ _ _ _).mono ?_; rintro e w1 ⟨rfl, hb1⟩) | (go_at_call 77; refine (Idx.c_isAt _ _ _ X Y M _ _ _ (hvk.out.below (by obtain ⟨_, _, _, _, s4⟩ := ‹_ ∧ _ ∧ _ ∧ _ ∧ _›; exact s4))).mono ?_; rintro e w2 ⟨rfl, hb2⟩))
            go_wp2
            go_roundw
            case rel => exact ⟨k + 1, by omega, by go_num, (by repeat' (first | (with_reducible exact Below.refl _ _) | (with_reducible assumption) | (with_reducible refine Base.via hb2 ?_) | (with_reducible refine Base.via hb1 ?_) | (with_reducible refine Base.grow_alloc ?_ _) | (with_reducible refine Base.below_drewN ?_ _) | (with_reducible refine Below.drew ?_) | (with_reducible refine Below.setCell ?_ ?_ _) | go_size)), allB_yes HALL.out (by simp [okMk, hM, hA])⟩
            case measure => simp [intOf]; omega
          · go_wp2
            go_region_held3 (fun W => W.cell? ⟨wr.heap.size, 0, none⟩ = some (.int .i64 (X k)) ∧ W.cell? ⟨wr.heap.size, 1, none⟩ = some (.int .i64 (Y k)) ∧ W.cell? ⟨wr.heap.size, 2, none⟩ = some (.int .i64 (M k)) ∧ wr.heap.size < W.heap.size ∧ Below wr.heap.size wr W)
              ((first | exact ⟨by simp, by simp, by simp, by simp, (by repeat' (first | (with_reducible exact Below.refl _ _) | (with_reducible assumption) | (with_reducible refine Base.grow_alloc ?_ _) | (with_reducible refine Base.below_drewN ?_ _) | (with_reducible refine Below.drew ?_) | (with_reducible refine Below.setCell ?_ ?_ _) | go_size))⟩ | exact ⟨((Base.bcell hb1).1 _ _ (by simp)).trans (by simp), ((Base.bcell hb1).1 _ _ (by simp)).trans (by simp), ((Base.bcell hb1).1 _ _ (by simp)).trans (by simp), Nat.lt_of_lt_of_le (by simp) hb1.size, (by repeat' (first | (with_reducible exact Below.refl _ _) | (with_reducible assumption) | (with_reducible refine Base.via hb1 ?_) | (with_reducible refine Base.grow_alloc ?_ _) | (with_reducible refine Base.below_drewN ?_ _) | (with_reducible refine Below.drew ?_) | (with_reducible refine Below.setCell ?_ ?_ _) | go_size))⟩ | (obtain ⟨s0, s1, s2, s3, s4⟩ := ‹_ ∧ _ ∧ _ ∧ _ ∧ _›; exact ⟨((Base.bcell hb2).1 _ _ s3).trans s0, ((Base.bcell hb2).1 _ _ s3).trans s1, ((Base.bcell hb2).1 _ _ s3).trans s2, Nat.lt_of_lt_of_le s3 hb2.size, Base.via hb2 s4⟩)))
              (first | (go_at_call 46; refine (c_isMark _ _ _ _).mono ?_; rintro e w1 ⟨rfl, hb1⟩) | (go_at_call 77; refine (Idx.c_isAt _ _ _ X Y M _ _ _ (hvk.out.below (by obtain ⟨_, _, _, _, s4⟩ := ‹_ ∧ _ ∧ _ ∧ _ ∧ _›; exact s4))).mono ?_; rintro e w2 ⟨rfl, hb2⟩))
            go_wp2
            go_ret
            exact ⟨ret_bool (by rw [okChart, allB_no hlt (by simp [okMk, hA])]; simp), (by repeat' (first | (with_reducible exact Below.refl _ _) | (with_reducible assumption) | (with_reducible refine Base.via hb2 ?_) | (with_reducible refine Base.via hb1 ?_) | (with_reducible refine Base.grow_alloc ?_ _) | (with_reducible refine Base.below_drewN ?_ _) | (with_reducible refine Below.drew ?_) | (with_reducible refine Below.setCell ?_ ?_ _) | go_size))⟩
        · go_wp2
          refine wp_region_held_drew (S := (fun W => W.cell? ⟨wr.heap.size, 0, none⟩ = some (.int .i64 (X k)) ∧ W.cell? ⟨wr.heap.size, 1, none⟩ = some (.int .i64 (Y k)) ∧ W.cell? ⟨wr.heap.size, 2, none⟩ = some (.int .i64 (M k)) ∧ wr.heap.size < W.heap.size ∧ Below wr.heap.size wr W)) (by kernel_rfl) (by (try dsimp only); (first | exact ⟨by simp, by simp, by simp, by simp, (by repeat' (first | (with_reducible exact Below.refl _ _) | (with_reducible assumption) | (with_reducible refine Base.grow_alloc ?_ _) | (with_reducible refine Base.below_drewN ?_ _) | (with_reducible refine Below.drew ?_) | (with_reducible refine Below.setCell ?_ ?_ _) | go_size))⟩ | exact ⟨((Base.bcell hb1).1 _ _ (by simp)).trans (by simp), ((Base.bcell hb1).1 _ _ (by simp)).trans (by simp), ((Base.bcell hb1).1 _ _ (by simp)).trans (by simp), Nat.lt_of_lt_of_le (by simp) hb1.size, (by repeat' (first | (with_reducible exact Below.refl _ _) | (with_reducible assumption) | (with_reducible refine Base.via hb1 ?_) | (with_reducible refine Base.grow_alloc ?_ _) | (with_reducible refine Base.below_drewN ?_ _) | (with_reducible refine Below.drew ?_) | (with_reducible refine Below.setCell ?_ ?_ _) | go_size))⟩)) (fun hHeld => ?_)
          refine wpAnyH_take (i := 0) (oi := ⟨some 15, _, _, _, _, _⟩) (v := ?_) rfl (by kernel_rfl) (by kernel_rfl) (by kernel_rfl) (fun _ _ _ h => h) (Or.inl ⟨by rfl, ?_⟩) (by assumption) ?_
          rotate_left
          · (intro w' hSw; (try dsimp only at hSw); go_simp; try with_reducible rfl)
          try simp only [Act.put, List.setIfInBounds_toArray, List.set_cons_zero, List.set_cons_succ]
          refine wpAnyH_ready (rs := [1]) (by kernel_rfl) (by simp) ?_
          refine AllReadyH.cons (o := ⟨some 16, _, _, _, _, _⟩) rfl (fun K hK => ?_) AllReadyH.nil
          go_simp
          (go_at_call 46; refine (c_isMark _ _ _ _).mono ?_; rw [hM]; rintro e w1 ⟨rfl, hb1⟩)
          refine hK.out _ _ (by (try dsimp only); (first | exact ⟨by simp, by simp, by simp, by simp, (by repeat' (first | (with_reducible exact Below.refl _ _) | (with_reducible assumption) | (with_reducible refine Base.grow_alloc ?_ _) | (with_reducible refine Base.below_drewN ?_ _) | (with_reducible refine Below.drew ?_) | (with_reducible refine Below.setCell ?_ ?_ _) | go_size))⟩ | exact ⟨((Base.bcell hb1).1 _ _ (by simp)).trans (by simp), ((Base.bcell hb1).1 _ _ (by simp)).trans (by simp), ((Base.bcell hb1).1 _ _ (by simp)).trans (by simp), Nat.lt_of_lt_of_le (by simp) hb1.size, (by repeat' (first | (with_reducible exact Below.refl _ _) | (with_reducible assumption) | (with_reducible refine Base.via hb1 ?_) | (with_reducible refine Base.grow_alloc ?_ _) | (with_reducible refine Base.below_drewN ?_ _) | (with_reducible refine Below.drew ?_) | (with_reducible refine Below.setCell ?_ ?_ _) | go_size))⟩)) (fun hHeld => ?_)
          clear hK K
          try simp only [Act.put, List.setIfInBounds_toArray, List.set_cons_zero, List.set_cons_succ]
          refine wpAnyH_take (i := 2) (oi := ⟨some 17, _, _, _, _, _⟩) (v := ?_) rfl (by kernel_rfl) (by kernel_rfl) (by kernel_rfl) (fun _ _ _ h => h) (Or.inl ⟨by rfl, ?_⟩) (by assumption) ?_
          rotate_left
          · (intro w' hSw; (try dsimp only at hSw); go_simp; try with_reducible rfl)
          try simp only [Act.put, List.setIfInBounds_toArray, List.set_cons_zero, List.set_cons_succ]
          refine wpAnyH_take (i := 3) (oi := ⟨some 18, _, _, _, _, _⟩) (v := ?_) rfl (by kernel_rfl) (by kernel_rfl) (by kernel_rfl) (fun _ _ _ h => h) (Or.inl ⟨by rfl, ?_⟩) (by assumption) ?_
          rotate_left
          · (intro w' hSw; (try dsimp only at hSw); go_simp; try with_reducible rfl)
          try simp only [Act.put, List.setIfInBounds_toArray, List.set_cons_zero, List.set_cons_succ]
          refine wpAnyH_take (i := 4) (oi := ⟨some 19, _, _, _, _, _⟩) (v := undef) rfl (by kernel_rfl) (by kernel_rfl) (by kernel_rfl) (fun _ _ _ h => h) (Or.inr ⟨by rfl, rfl⟩) (by assumption) ?_
          try simp only [Act.put, List.setIfInBounds_toArray, List.set_cons_zero, List.set_cons_succ]
          refine wpAnyH_take (i := 5) (oi := ⟨some 20, _, _, _, _, _⟩) (v := undef) rfl (by kernel_rfl) (by kernel_rfl) (by kernel_rfl) (fun _ _ _ h => h) (Or.inr ⟨by rfl, rfl⟩) (by assumption) ?_
          try simp only [Act.put, List.setIfInBounds_toArray, List.set_cons_zero, List.set_cons_succ]
          refine wpAnyH_take (i := 6) (oi := ⟨some 21, _, _, _, _, _⟩) (v := undef) rfl (by kernel_rfl) (by kernel_rfl) (by kernel_rfl) (fun _ _ _ h => h) (Or.inr ⟨by rfl, rfl⟩) (by assumption) ?_
          try simp only [Act.put, List.setIfInBounds_toArray, List.set_cons_zero, List.set_cons_succ]
          refine wpAnyH_take (i := 7) (oi := ⟨some 22, _, _, _, _, _⟩) (v := undef) rfl (by kernel_rfl) (by kernel_rfl) (by kernel_rfl) (fun _ _ _ h => h) (Or.inr ⟨by rfl, rfl⟩) (by assumption) ?_
          try simp only [Act.put, List.setIfInBounds_toArray, List.set_cons_zero, List.set_cons_succ]
          refine wpAnyH_take (i := 8) (oi := ⟨some 23, _, _, _, _, _⟩) (v := undef) rfl (by kernel_rfl) (by kernel_rfl) (by kernel_rfl) (fun _ _ _ h => h) (Or.inr ⟨by rfl, rfl⟩) (by assumption) ?_
          try simp only [Act.put, List.setIfInBounds_toArray, List.set_cons_zero, List.set_cons_succ]
          refine wpAnyH_take (i := 9) (oi := ⟨some 24, _, _, _, _, _⟩) (v := undef) rfl (by kernel_rfl) (by kernel_rfl) (by kernel_rfl) (fun _ _ _ h => h) (Or.inr ⟨by rfl, rfl⟩) (by assumption) ?_
          try simp only [Act.put, List.setIfInBounds_toArray, List.set_cons_zero, List.set_cons_succ]
          refine wpAnyH_take (i := 10) (oi := ⟨some 25, _, _, _, _, _⟩) (v := undef) rfl (by kernel_rfl) (by kernel_rfl) (by kernel_rfl) (fun _ _ _ h => h) (Or.inr ⟨by rfl, rfl⟩) (by assumption) ?_
          try simp only [Act.put, List.setIfInBounds_toArray, List.set_cons_zero, List.set_cons_succ]
          refine wpAnyH_take (i := 11) (oi := ⟨some 26, _, _, _, _, _⟩) (v := undef) rfl (by kernel_rfl) (by kernel_rfl) (by kernel_rfl) (fun _ _ _ h => h) (Or.inr ⟨by rfl, rfl⟩) (by assumption) ?_
          try simp only [Act.put, List.setIfInBounds_toArray, List.set_cons_zero, List.set_cons_succ]
          refine wpAnyH_take (i := 12) (oi := ⟨some 27, _, _, _, _, _⟩) (v := ?_) rfl (by kernel_rfl) (by kernel_rfl) (by kernel_rfl) (fun _ _ _ h => h) (Or.inl ⟨by rfl, ?_⟩) (by assumption) ?_
          rotate_left
          · (intro w' hSw; (try dsimp only at hSw); go_simp; try with_reducible rfl)
          try simp only [Act.put, List.setIfInBounds_toArray, List.set_cons_zero, List.set_cons_succ]
          refine wpAnyH_done (by kernel_rfl) ?_ _
          go_wp2
          go_ret
          exact ⟨ret_bool (by rw [okChart, allB_no hlt (by simp [okMk, hM])]; simp), (by repeat' (first | (with_reducible exact Below.refl _ _) | (with_reducible assumption) | (with_reducible refine Base.via hb1 ?_) | (with_reducible refine Base.grow_alloc ?_ _) | (with_reducible refine Base.below_drewN ?_ _) | (with_reducible refine Below.drew ?_) | (with_reducible refine Below.setCell ?_ ?_ _) | go_size))⟩
      · have hkn : k = n := by omega
        subst hkn
        go_wp2
        go_ret
        exact ⟨ret_bool (by rw [okChart, HALL.out]; simp [h30]), hbr⟩
  · go_enter Tryd.func59, Tryd.ntmps59
    go_wp2
    go_ret
    exact ⟨ret_bool (by simp [okChart, h30]), Below.refl _ _⟩
theorem chart_no {n : Nat} {X Y M : Nat → Int} {k j : Nat} (hk : k < n) (hj : j < k) (h1 : (X j == X k) = true) (h2 : (Y j == Y k) = true) : okChart n X Y M = false := by
  rw [okChart, allB_no hk (p := okMk X Y M)]
  · simp
  · have : anyB k (fun j => X j == X k && Y j == Y k) = true := anyB_iff.2 ⟨j, hj, by rw [h1, h2]; rfl⟩
    simp [okMk, this]
set_option maxHeartbeats 4000000 in
theorem c_l07Ok (A : Option Addr) (n c : Nat) (X Y M : Nat → Int) (w : World) (hv : Sl w 3 A n c (f3 X Y M)) :
    Calls Tryd.prog 57 #[.slice A n c] w fun r w' => r = .returned (.bool (okChart n X Y M)) ∧ Below w.heap.size w w' := by
  have hn := hv.le
  go_enter Tryd.func57, Tryd.ntmps57
  go_wp2
  go_loopw [3] (fun i wr => ∃ k : Nat, k ≤ n ∧ i = .int .i64 k ∧ Below w.heap.size w wr ∧ allB k (okMk X Y M) = true) (fun i _ => n - (intOf i).toNat)
  case atStart => exact ⟨0, Nat.zero_le _, rfl, Below.refl _ _, rfl⟩
  case round =>
    obtain ⟨k, hk, rfl, hbr, hall⟩ := hrel
    have HALL := Lib.hid hall
    clear hall
    by_cases hlt : k < n
    · obtain ⟨b, off, rfl, hb, hc⟩ := (hv.below hbr).at_ (by omega)
      obtain ⟨h0, h1, h2⟩ := cells3 hc k hlt
      clear hc
      by_cases hM : okMark (X k) (Y k) (M k) = true
      · go_wp2_with (first | (go_at_call 45; refine (c_l07One _ _ _ _).mono ?_; rintro e w1 ⟨rfl, hb1⟩; obtain ⟨chb1, fhb1⟩ := Base.bcell hb1; have zhb1 := (hb1).size; (try simp at zhb1); (try have yhb1 : w.heap.size < (w1).heap.size := by omega)))
        have hbr1 : Below w.heap.size w w1 := (by repeat' (first | (with_reducible exact Below.refl _ _) | (with_reducible assumption) | (with_reducible refine Base.via hb1 ?_) | (with_reducible refine Base.grow_alloc ?_ _) | (with_reducible refine Base.below_drewN ?_ _) | (with_reducible refine Below.drew ?_) | (with_reducible refine Below.setCell ?_ ?_ _) | go_size))
        clear chb1 fhb1 zhb1
        obtain ⟨wo, rfl⟩ : ∃ wo : World, wo = wr := ⟨_, rfl⟩
        go_loopw [4] (fun j wr => ∃ q : Nat, q ≤ k ∧ j = .int .i64 q ∧ Below w.heap.size w wr ∧ allB q (fun j => !(X j == X k && Y j == Y k)) = true) (fun j _ => k - (intOf j).toNat)
        case atStart => exact ⟨0, Nat.zero_le _, rfl, hbr1, rfl⟩
        case round =>
          obtain ⟨q, hq, rfl, hbq, hallq⟩ := hrel
          have HALQ := Lib.hid hallq
          clear hallq
          by_cases hlq : q < k
          · obtain ⟨b2, off2, e2, hb2, hc2⟩ := (hv.below hbq).at_ (by omega)
            injection e2 with e2
            injection e2 with e3 e4
            subst e3; subst e4
            obtain ⟨g0, g1, g2⟩ := cells3 hc2 k hlt
            obtain ⟨j0, j1, j2⟩ := cells3 hc2 q (by omega)
            clear hc2 h0 h1 h2
            cases hx : (X q == X k)
            · go_wp2
              go_quiet (fail)
              go_wp2
              go_roundw
              case rel => exact ⟨q + 1, by omega, by go_num, (by repeat' (first | (with_reducible exact Below.refl _ _) | (with_reducible assumption) | (with_reducible refine Base.grow_alloc ?_ _) | (with_reducible refine Base.below_drewN ?_ _) | (with_reducible refine Below.drew ?_) | (with_reducible refine Below.setCell ?_ ?_ _) | go_size)), allB_yes HALQ.out (by simp [hx])⟩
              case measure => simp [intOf]; omega
            · cases hy : (Y q == Y k)
              · go_wp2
                go_quiet (fail)
                go_wp2
                go_roundw
                case rel => exact ⟨q + 1, by omega, by go_num, (by repeat' (first | (with_reducible exact Below.refl _ _) | (with_reducible assumption) | (with_reducible refine Base.grow_alloc ?_ _) | (with_reducible refine Base.below_drewN ?_ _) | (with_reducible refine Below.drew ?_) | (with_reducible refine Below.setCell ?_ ?_ _) | go_size)), allB_yes HALQ.out (by simp [hy])⟩
                case measure => simp [intOf]; omega
              · go_wp2
                go_quiet (fail)
                go_wp2
                go_ret
                exact ⟨ret_bool (chart_no hlt hlq hx hy).symm, (by repeat' (first | (with_reducible exact Below.refl _ _) | (with_reducible assumption) | (with_reducible refine Base.grow_alloc ?_ _) | (with_reducible refine Base.below_drewN ?_ _) | (with_reducible refine Below.drew ?_) | (with_reducible refine Below.setCell ?_ ?_ _) | go_size))⟩
          · have hqk : q = k := by omega
            subst hqk
            go_wp2
            go_roundw
            case rel =>
              refine ⟨q + 1, by omega, by go_num, hbq, allB_yes HALL.out ?_⟩
              have : anyB q (fun j => X j == X q && Y j == Y q) = false := anyB_false.2 (fun j hj => by have h := allB_iff.1 HALQ.out j hj; rw [Bool.not_eq_true'] at h; exact h)
              simp only [okMk, hM, this]; rfl
            case measure => simp [intOf]; omega
      · go_wp2_with (first | (go_at_call 45; refine (c_l07One _ _ _ _).mono ?_; rintro e w1 ⟨rfl, hb1⟩; obtain ⟨chb1, fhb1⟩ := Base.bcell hb1; have zhb1 := (hb1).size; (try simp at zhb1); (try have yhb1 : w.heap.size < (w1).heap.size := by omega)))
        go_ret
        exact ⟨ret_bool (by rw [okChart, allB_no hlt (by simp [okMk, hM])]; simp), (by repeat' (first | (with_reducible exact Below.refl _ _) | (with_reducible assumption) | (with_reducible refine Base.via hb1 ?_) | (with_reducible refine Base.grow_alloc ?_ _) | (with_reducible refine Base.below_drewN ?_ _) | (with_reducible refine Below.drew ?_) | (with_reducible refine Below.setCell ?_ ?_ _) | go_size))⟩
    · have hkn : k = n := by omega
      subst hkn
      go_wp2
      go_ret
      exact ⟨ret_bool (by rw [okChart, HALL.out]; simp; omega), hbr⟩
end Go.Proofs.YtpkkeoapndpikaaDoor.Chart
