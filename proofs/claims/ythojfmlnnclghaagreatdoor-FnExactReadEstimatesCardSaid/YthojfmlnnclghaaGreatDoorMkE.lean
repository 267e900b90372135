/- Estimates marked by the laws. -/
import Derived.Test.YthojfmlnnclghaaGreatDoorOkE
namespace Go.Proofs.YthojfmlnnclghaaGreatDoor.MkE
set_option linter.unusedVariables false
set_option linter.unusedSimpArgs false
set_option maxRecDepth 8000
open Go.RowKit Plain Num View Help Est Name Es1

/-- what the marks leave -/
def mkE (k0 : Nat) (i : Nat) : E5 := ⟨((k0 + i * 5 : Nat) : Int), mT (k0 + i * 5 + 1), mT (k0 + i * 5 + 2), ((k0 + i * 5 + 3 : Nat) : Int), decide ((k0 + i * 5 + 4) % 3 = 0)⟩
theorem below_grown {w w' : World} (h : Below w.heap.size w w') (row : Option Nat) : w.grownBy w' row := ⟨h.os, h.tape, h.output, h.size, fun k hk _ => h.block k hk⟩
set_option maxHeartbeats 1600000 in
theorem c_markEstimateS (B : Nat) (v : Value) (n : Nat) (f : Nat → Nat → Value) (k0 : Nat) (w : World) (hv : OwnK w B 31 5 v n f) (hk1 : k0 ≤ 50000000) :
    Calls Tryz.prog 7 #[v, .int .i64 (k0 : Int)] w fun e w' => e = .returned (.int .i64 ((k0 + n * 5 : Nat) : Int)) ∧ OwnK w' B 31 5 v n (f5 (mkE k0)) ∧ w.grownBy w' v.ownBlock := by
  obtain ⟨hn, ⟨rfl, rfl⟩ | ⟨g, c, rfl, hc, hm, hB, hr⟩⟩ := hv
  · go_enter Tryz.func7, Tryz.ntmps7
    go_wp2
    refine wp_loop_rounds 1 ?_
    rw [rounds_succ]
    go_wp2
    go_ret
    exact ⟨ret_int (by omega), ⟨hn, .inl ⟨rfl, rfl⟩⟩, World.grownBy.refl _ _⟩
  · go_enter Tryz.func7, Tryz.ntmps7
    go_wp2
    go_loopw [1, 5] (fun q i wr => ∃ k : Nat, k ≤ n ∧ i = .int .i64 k ∧ q = .int .i64 ((k0 + k * 5 : Nat) : Int) ∧ RowK wr g 31 5 n (fun i j => if i < k then f5 (mkE k0) i j else f i j) ∧ w.grownBy wr (some g)) (fun _ i _ => n - (intOf i).toNat)
    case atStart => exact ⟨0, Nat.zero_le _, rfl, by go_num, hr.congr (fun i _ j _ => by simp), World.grownBy.refl _ _⟩
    case round =>
      obtain ⟨k, hk, rfl, rfl, hrow, hgr⟩ := hrel
      by_cases hlt : k < n
      · have hg := hrow.lt
        have HME : Hid (mkE k0 k = ⟨((k0 + k * 5 : Nat) : Int), mT (k0 + k * 5 + 1), mT (k0 + k * 5 + 2), ((k0 + k * 5 + 3 : Nat) : Int), decide ((k0 + k * 5 + 4) % 3 = 0)⟩) := Lib.hid rfl
        have HQ5 : Hid (k0 + (k + 1) * 5 = k0 + k * 5 + 5) := Lib.hid (by omega)
        have hq : k0 + k * 5 ≤ 60000000 := by omega
        generalize k0 + k * 5 = q at *
        have HT : Hid (∀ (W : World) (z : Int) (m : Nat), z = (m : Int) → m ≤ 100000000 → Calls Tryz.prog 20 #[.int .i64 z] W fun e w' => e = .returned (.string (mT m)) ∧ Below W.heap.size W w') := Lib.hid (fun W z m hz hm => by subst hz; exact c_markText m hm W)
        have s0 := hrow.cell hlt (show 0 < 5 by omega)
        have s1 := hrow.cell hlt (show 1 < 5 by omega)
        have s2 := hrow.cell hlt (show 2 < 5 by omega)
        have s3 := hrow.cell hlt (show 3 < 5 by omega)
        have s4 := hrow.cell hlt (show 4 < 5 by omega)
        simp only [Nat.add_zero] at s0
        have sf := hrow.frozen
        go_wp2_with fail
        refine (HT.out _ _ (q + 1) (by omega) (by omega)).mono ?_
        rintro e w1 ⟨rfl, hb1⟩
        have R1 := (hrow.set (j := 0) hlt (by omega) (.int .i64 (q : Int))).below hb1 (by simpa using hg)
        have G1 := (only_setCell (hgr) rfl _).trans (below_grown hb1 (some g))
        have t1 := R1.cell hlt (show 1 < 5 by omega)
        have tf := R1.frozen
        have lg1 := R1.lt
        clear s0 s1 s2 s3 s4 sf
        go_wp2_with fail
        refine (HT.out _ _ (q + 2) (by omega) (by omega)).mono ?_
        rintro e w2 ⟨rfl, hb2⟩
        have R2 := (R1.set (j := 1) hlt (by omega) (.string (mT (q + 1)))).below hb2 (by simpa using lg1)
        have G2 := (only_setCell G1 rfl _).trans (below_grown hb2 (some g))
        have u2 := R2.cell hlt (show 2 < 5 by omega)
        have u3 := R2.cell hlt (show 3 < 5 by omega)
        have u4 := R2.cell hlt (show 4 < 5 by omega)
        have uf := R2.frozen
        have lg2 := R2.lt
        clear t1 tf lg1
        go_wp2
        have e3 : (q : Int) + 1 + 1 + 1 = ((q + 3 : Nat) : Int) := by omega
        have e4 : (((q : Int) + 1 + 1 + 1 + 1) % 3 == 0) = decide ((q + 4) % 3 = 0) := by
          rw [Bool.eq_iff_iff, beq_iff_eq, decide_eq_true_eq]
          omega
        rw [e4, e3]
        refine ⟨⟨k + 1, by omega, by go_num, congrArg (Value.int IntKind.i64) (by rw [HQ5.out]; omega), ?_, only_setCell (only_setCell (only_setCell G2 rfl _) rfl _) rfl _⟩, by simp [intOf]; omega⟩
        refine RowK.congr (f := _) (((R2.set (j := 2) hlt (by omega) _).set (j := 3) hlt (by omega) _).set (j := 4) hlt (by omega) _) ?_
        intro i hi j hj
        simp only [upd]
        by_cases e : i = k
        · subst e
          obtain rfl | rfl | rfl | rfl | rfl : j = 0 ∨ j = 1 ∨ j = 2 ∨ j = 3 ∨ j = 4 := by omega
          all_goals simp [f5, HME.out]
        · have e2 : i < k + 1 ↔ i < k := by omega
          simp [e, e2]
      · have hkn : k = n := by omega
        subst hkn
        go_wp2
        go_ret
        exact ⟨rfl, ⟨hn, .inr ⟨g, c, rfl, hc, hm, hB, hrow.congr (fun i hi j _ => by simp [hi])⟩⟩, hgr⟩
set_option maxHeartbeats 3200000 in
theorem c_heldEstimateS (A : Option Addr) (n c : Nat) (k0 : Nat) (w : World) (hv : Sl w 5 A n c (f5 (mkE k0))) (hk1 : k0 ≤ 50000000) :
    Calls Tryz.prog 8 #[.slice A n c, .int .i64 (k0 : Int)] w fun e w' => e = .returned (.int .i64 ((k0 + n * 5 : Nat) : Int)) ∧ Below w.heap.size w w' := by
  have hn := hv.le
  go_enter Tryz.func8, Tryz.ntmps8
  go_wp2
  go_loopw [1, 5] (fun q i wr => ∃ k : Nat, k ≤ n ∧ i = .int .i64 k ∧ q = .int .i64 ((k0 + k * 5 : Nat) : Int) ∧ Below w.heap.size w wr) (fun _ i _ => n - (intOf i).toNat)
  case atStart => exact ⟨0, Nat.zero_le _, rfl, by go_num, Below.refl _ _⟩
  case round =>
    obtain ⟨k, hk, rfl, rfl, hbr⟩ := hrel
    by_cases hlt : k < n
    · obtain ⟨b, off, rfl, hb, hc⟩ := (hv.below hbr).at_ (by omega)
      obtain ⟨h0, h1, h2, h3, h4⟩ := cells5 hc k hlt
      have HQ5 : Hid (k0 + (k + 1) * 5 = k0 + k * 5 + 5) := Lib.hid (by omega)
      have hq : k0 + k * 5 ≤ 60000000 := by omega
      have hM : mkE k0 k = ⟨((k0 + k * 5 : Nat) : Int), mT (k0 + k * 5 + 1), mT (k0 + k * 5 + 2), ((k0 + k * 5 + 3 : Nat) : Int), decide ((k0 + k * 5 + 4) % 3 = 0)⟩ := rfl
      rw [hM] at h0 h1 h2 h3 h4
      clear hM hc
      generalize k0 + k * 5 = q at *
      dsimp only at h0 h1 h2 h3 h4
      have hlb := hb
      have HT : Hid (∀ (W : World) (z : Int) (m : Nat), z = (m : Int) → m ≤ 100000000 → Calls Tryz.prog 20 #[.int .i64 z] W fun e w' => e = .returned (.string (mT m)) ∧ Below W.heap.size W w') := Lib.hid (fun W z m hz hm => by subst hz; exact c_markText m hm W)
      go_wp2_with fail
      have HK : ∀ W : World, Below wr.heap.size wr W → W.cell? ⟨b, off + k * 5 + 1, none⟩ = some (.string (mT (q + 1))) ∧ Below wr.heap.size wr W := fun W hW => ⟨cell_call hW h1, hW⟩
      refine wp_region_held_drew (S := (fun W => W.cell? ⟨b, off + k * 5 + 1, none⟩ = some (.string (mT (q + 1))) ∧ Below wr.heap.size wr W)) (by kernel_rfl) (by (try dsimp only); (exact HK _ (by repeat' (first | (with_reducible exact Below.refl _ _) | (with_reducible assumption) | (with_reducible refine Base.via hb1 ?_) | (with_reducible refine Base.grow_alloc ?_ _) | (with_reducible refine Base.below_drewN ?_ _) | (with_reducible refine Below.drew ?_) | (with_reducible refine Below.setCell ?_ ?_ _) | go_size)))) (fun hHeld => ?_)
      refine wpAnyH_take (i := 0) (oi := ⟨some 21, _, _, _, _, _⟩) (v := ?_) rfl (by kernel_rfl) (by kernel_rfl) (by kernel_rfl) (fun _ _ _ h => h) (Or.inl ⟨by rfl, ?_⟩) (by assumption) ?_
      rotate_left
      · (intro w' hSw; (try dsimp only at hSw); go_simp; try with_reducible rfl)
      try simp only [Act.put, List.setIfInBounds_toArray, List.set_cons_zero, List.set_cons_succ]
      refine wpAnyH_take (i := 1) (oi := ⟨some 22, _, _, _, _, _⟩) (v := ?_) rfl (by kernel_rfl) (by kernel_rfl) (by kernel_rfl) (fun _ _ _ h => h) (Or.inl ⟨by rfl, ?_⟩) (by assumption) ?_
      rotate_left
      · (intro w' hSw; (try dsimp only at hSw); go_simp; try with_reducible rfl)
      try simp only [Act.put, List.setIfInBounds_toArray, List.set_cons_zero, List.set_cons_succ]
      refine wpAnyH_take (i := 2) (oi := ⟨some 23, _, _, _, _, _⟩) (v := ?_) rfl (by kernel_rfl) (by kernel_rfl) (by kernel_rfl) (fun _ _ _ h => h) (Or.inl ⟨by rfl, ?_⟩) (by assumption) ?_
      rotate_left
      · (intro w' hSw; (try dsimp only at hSw); go_simp; try with_reducible rfl)
      try simp only [Act.put, List.setIfInBounds_toArray, List.set_cons_zero, List.set_cons_succ]
      refine wpAnyH_take (i := 3) (oi := ⟨some 24, _, _, _, _, _⟩) (v := ?_) rfl (by kernel_rfl) (by kernel_rfl) (by kernel_rfl) (fun _ _ _ h => h) (Or.inl ⟨by rfl, ?_⟩) (by assumption) ?_
      rotate_left
      · (intro w' hSw; (try dsimp only at hSw); go_simp; try with_reducible rfl)
      try simp only [Act.put, List.setIfInBounds_toArray, List.set_cons_zero, List.set_cons_succ]
      refine wpAnyH_take (i := 4) (oi := ⟨some 25, _, _, _, _, _⟩) (v := ?_) rfl (by kernel_rfl) (by kernel_rfl) (by kernel_rfl) (fun _ _ _ h => h) (Or.inl ⟨by rfl, ?_⟩) (by assumption) ?_
      rotate_left
      · (intro w' hSw; (try dsimp only at hSw); go_simp; try with_reducible rfl)
      try simp only [Act.put, List.setIfInBounds_toArray, List.set_cons_zero, List.set_cons_succ]
      refine wpAnyH_take (i := 5) (oi := ⟨some 26, _, _, _, _, _⟩) (v := ?_) rfl (by kernel_rfl) (by kernel_rfl) (by kernel_rfl) (fun _ _ _ h => h) (Or.inl ⟨by rfl, ?_⟩) (by assumption) ?_
      rotate_left
      · (intro w' hSw; (try dsimp only at hSw); go_simp; try with_reducible rfl)
      try simp only [Act.put, List.setIfInBounds_toArray, List.set_cons_zero, List.set_cons_succ]
      refine wpAnyH_ready (rs := [6]) (by kernel_rfl) (by simp) ?_
      refine AllReadyH.cons (o := ⟨some 27, _, _, _, _, _⟩) rfl (fun K hK => ?_) AllReadyH.nil
      go_simp
      (go_at_call 20; refine (HT.out _ _ (q + 1) (by omega) (by omega)).mono ?_; rintro e w1 ⟨rfl, hb1⟩)
      refine hK.out _ _ (by (try dsimp only); (exact HK _ (by repeat' (first | (with_reducible exact Below.refl _ _) | (with_reducible assumption) | (with_reducible refine Base.via hb1 ?_) | (with_reducible refine Base.grow_alloc ?_ _) | (with_reducible refine Base.below_drewN ?_ _) | (with_reducible refine Below.drew ?_) | (with_reducible refine Below.setCell ?_ ?_ _) | go_size)))) (fun hHeld => ?_)
      clear hK K
      try simp only [Act.put, List.setIfInBounds_toArray, List.set_cons_zero, List.set_cons_succ]
      refine wpAnyH_take (i := 7) (oi := ⟨some 28, _, _, _, _, _⟩) (v := ?_) rfl (by kernel_rfl) (by kernel_rfl) (by kernel_rfl) (fun _ _ _ h => h) (Or.inl ⟨by rfl, ?_⟩) (by assumption) ?_
      rotate_left
      · (intro w' hSw; (try dsimp only at hSw); go_simp; try with_reducible rfl)
      try simp only [Act.put, List.setIfInBounds_toArray, List.set_cons_zero, List.set_cons_succ]
      refine wpAnyH_done (by kernel_rfl) ?_ _
      have hbw : Below wr.heap.size wr w1 := (‹_ ∧ Below wr.heap.size wr w1›).2
      have i2 := cell_call hbw h2
      have i3 := cell_call hbw h3
      have i4 := cell_call hbw h4
      have lb1 := World.block_lt_of_cell? _ _ i2
      dsimp only at lb1
      have hbr1 : Below w.heap.size w w1 := Base.via hbw hbr
      clear h0 h1 h2 h3 h4 hHeld HK
      go_wp2_with fail
      have HK : ∀ W : World, Below w1.heap.size w1 W → W.cell? ⟨b, off + k * 5 + 2, none⟩ = some (.string (mT (q + 2))) ∧ Below w1.heap.size w1 W := fun W hW => ⟨cell_call hW i2, hW⟩
      refine wp_region_held_drew (S := (fun W => W.cell? ⟨b, off + k * 5 + 2, none⟩ = some (.string (mT (q + 2))) ∧ Below w1.heap.size w1 W)) (by kernel_rfl) (by (try dsimp only); (exact HK _ (by repeat' (first | (with_reducible exact Below.refl _ _) | (with_reducible assumption) | (with_reducible refine Base.via hb2 ?_) | (with_reducible refine Base.grow_alloc ?_ _) | (with_reducible refine Base.below_drewN ?_ _) | (with_reducible refine Below.drew ?_) | (with_reducible refine Below.setCell ?_ ?_ _) | go_size)))) (fun hHeld => ?_)
      refine wpAnyH_take (i := 0) (oi := ⟨some 31, _, _, _, _, _⟩) (v := ?_) rfl (by kernel_rfl) (by kernel_rfl) (by kernel_rfl) (fun _ _ _ h => h) (Or.inl ⟨by rfl, ?_⟩) (by assumption) ?_
      rotate_left
      · (intro w' hSw; (try dsimp only at hSw); go_simp; try with_reducible rfl)
      try simp only [Act.put, List.setIfInBounds_toArray, List.set_cons_zero, List.set_cons_succ]
      refine wpAnyH_take (i := 1) (oi := ⟨some 32, _, _, _, _, _⟩) (v := ?_) rfl (by kernel_rfl) (by kernel_rfl) (by kernel_rfl) (fun _ _ _ h => h) (Or.inl ⟨by rfl, ?_⟩) (by assumption) ?_
      rotate_left
      · (intro w' hSw; (try dsimp only at hSw); go_simp; try with_reducible rfl)
      try simp only [Act.put, List.setIfInBounds_toArray, List.set_cons_zero, List.set_cons_succ]
      refine wpAnyH_take (i := 2) (oi := ⟨some 33, _, _, _, _, _⟩) (v := ?_) rfl (by kernel_rfl) (by kernel_rfl) (by kernel_rfl) (fun _ _ _ h => h) (Or.inl ⟨by rfl, ?_⟩) (by assumption) ?_
      rotate_left
      · (intro w' hSw; (try dsimp only at hSw); go_simp; try with_reducible rfl)
      try simp only [Act.put, List.setIfInBounds_toArray, List.set_cons_zero, List.set_cons_succ]
      refine wpAnyH_take (i := 3) (oi := ⟨some 34, _, _, _, _, _⟩) (v := ?_) rfl (by kernel_rfl) (by kernel_rfl) (by kernel_rfl) (fun _ _ _ h => h) (Or.inl ⟨by rfl, ?_⟩) (by assumption) ?_
      rotate_left
      · (intro w' hSw; (try dsimp only at hSw); go_simp; try with_reducible rfl)
      try simp only [Act.put, List.setIfInBounds_toArray, List.set_cons_zero, List.set_cons_succ]
      refine wpAnyH_take (i := 4) (oi := ⟨some 35, _, _, _, _, _⟩) (v := ?_) rfl (by kernel_rfl) (by kernel_rfl) (by kernel_rfl) (fun _ _ _ h => h) (Or.inl ⟨by rfl, ?_⟩) (by assumption) ?_
      rotate_left
      · (intro w' hSw; (try dsimp only at hSw); go_simp; try with_reducible rfl)
      try simp only [Act.put, List.setIfInBounds_toArray, List.set_cons_zero, List.set_cons_succ]
      refine wpAnyH_take (i := 5) (oi := ⟨some 36, _, _, _, _, _⟩) (v := ?_) rfl (by kernel_rfl) (by kernel_rfl) (by kernel_rfl) (fun _ _ _ h => h) (Or.inl ⟨by rfl, ?_⟩) (by assumption) ?_
      rotate_left
      · (intro w' hSw; (try dsimp only at hSw); go_simp; try with_reducible rfl)
      try simp only [Act.put, List.setIfInBounds_toArray, List.set_cons_zero, List.set_cons_succ]
      refine wpAnyH_ready (rs := [6]) (by kernel_rfl) (by simp) ?_
      refine AllReadyH.cons (o := ⟨some 37, _, _, _, _, _⟩) rfl (fun K hK => ?_) AllReadyH.nil
      go_simp
      (go_at_call 20; refine (HT.out _ _ (q + 2) (by omega) (by omega)).mono ?_; rintro e w2 ⟨rfl, hb2⟩)
      refine hK.out _ _ (by (try dsimp only); (exact HK _ (by repeat' (first | (with_reducible exact Below.refl _ _) | (with_reducible assumption) | (with_reducible refine Base.via hb2 ?_) | (with_reducible refine Base.grow_alloc ?_ _) | (with_reducible refine Base.below_drewN ?_ _) | (with_reducible refine Below.drew ?_) | (with_reducible refine Below.setCell ?_ ?_ _) | go_size)))) (fun hHeld => ?_)
      clear hK K
      try simp only [Act.put, List.setIfInBounds_toArray, List.set_cons_zero, List.set_cons_succ]
      refine wpAnyH_take (i := 7) (oi := ⟨some 38, _, _, _, _, _⟩) (v := ?_) rfl (by kernel_rfl) (by kernel_rfl) (by kernel_rfl) (fun _ _ _ h => h) (Or.inl ⟨by rfl, ?_⟩) (by assumption) ?_
      rotate_left
      · (intro w' hSw; (try dsimp only at hSw); go_simp; try with_reducible rfl)
      try simp only [Act.put, List.setIfInBounds_toArray, List.set_cons_zero, List.set_cons_succ]
      refine wpAnyH_done (by kernel_rfl) ?_ _
      have hbw2 : Below w1.heap.size w1 w2 := (‹_ ∧ Below w1.heap.size w1 w2›).2
      have l3 := cell_call hbw2 i3
      have l4 := cell_call hbw2 i4
      have lb2 := World.block_lt_of_cell? _ _ l3
      dsimp only at lb2
      have hbr2 : Below w.heap.size w w2 := Base.via hbw2 hbr1
      have e3 : ((q + 3 : Nat) : Int) = (q : Int) + 1 + 1 + 1 := by omega
      rw [e3] at l3
      have e4 : (((q : Int) + 1 + 1 + 1 + 1) % 3 == 0) = decide ((q + 4) % 3 = 0) := by
        rw [Bool.eq_iff_iff, beq_iff_eq, decide_eq_true_eq]
        omega
      generalize decide ((q + 4) % 3 = 0) = z at *
      clear i2 i3 i4 hHeld HK e3
      cases z
      all_goals
        go_wp2
        exact ⟨⟨k + 1, by omega, by go_num, congrArg (Value.int IntKind.i64) (by rw [HQ5.out]; omega), hbr2⟩, by simp [intOf]; omega⟩
    · have hkn : k = n := by omega
      subst hkn
      go_wp2
      go_ret
      exact ⟨rfl, hbr⟩
end Go.Proofs.YthojfmlnnclghaaGreatDoor.MkE
