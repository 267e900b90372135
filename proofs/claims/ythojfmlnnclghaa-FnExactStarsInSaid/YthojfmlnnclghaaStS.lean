/- Lists of strings: the laws' help. -/
import Derived.Test.YthojfmlnnclghaaMkE
namespace Go.Proofs.Ythojfmlnnclghaa.StS
set_option linter.unusedVariables false
set_option linter.unusedSimpArgs false
set_option maxRecDepth 8000
open Go.RowKit Plain Num View Help Est Name Es1 MkE

def fS (S : Nat → ByteArray) : Nat → Nat → Value := fun i _ => .string (S i)
/-- what the marks leave -/
def mkS (k0 : Nat) (i : Nat) : ByteArray := mT (k0 + i)
theorem cellsS {w : World} {b off n : Nat} {S : Nat → ByteArray} (h : ∀ i, i < n → ∀ j, j < 1 → w.cell? ⟨b, off + i * 1 + j, none⟩ = some (fS S i j)) (i : Nat) (hi : i < n) : w.cell? ⟨b, off + i, none⟩ = some (.string (S i)) := by
  have := h i hi 0 (by omega)
  simpa [fS] using this
set_option maxHeartbeats 1600000 in
theorem c_eqStringS (A B : Option Addr) (n c d : Nat) (S : Nat → ByteArray) (w : World) (hv : Sl w 1 A n c (fS S)) (hu : Sl w 1 B n d (fS S)) :
    Calls Try.prog 12 #[.slice A n c, .slice B n d] w fun e w' => e = .returned (.bool true) ∧ Below w.heap.size w w' := by
  have hn := hv.le
  go_enter Try.func12, Try.ntmps12
  go_wp2
  go_loopw [5] (fun i wr => ∃ k : Nat, k ≤ n ∧ i = .int .i64 k ∧ Below w.heap.size w wr) (fun i _ => n - (intOf i).toNat)
  case atStart => exact ⟨0, Nat.zero_le _, rfl, Below.refl _ _⟩
  case round =>
    obtain ⟨k, hk, rfl, hbr⟩ := hrel
    by_cases hlt : k < n
    · obtain ⟨b, off, rfl, hb, hc⟩ := (hv.below hbr).at_ (by omega)
      obtain ⟨b', off', rfl, hb', hc'⟩ := (hu.below hbr).at_ (by omega)
      have h0 := cellsS hc k hlt
      have g0 := cellsS hc' k hlt
      clear hc hc'
      go_wp2
      go_quiet (fail)
      go_wp2
      exact ⟨⟨k + 1, by omega, by go_num, (by repeat' (first | (with_reducible exact Below.refl _ _) | (with_reducible assumption) | (with_reducible refine Base.grow_alloc ?_ _) | (with_reducible refine Base.below_drewN ?_ _) | (with_reducible refine Below.drew ?_) | (with_reducible refine Below.setCell ?_ ?_ _) | go_size))⟩, by simp [intOf]; omega⟩
    · have hkn : k = n := by omega
      subst hkn
      go_wp2
      go_ret
      exact ⟨rfl, hbr⟩
set_option maxHeartbeats 1600000 in
theorem c_markStringS (B : Nat) (v : Value) (n : Nat) (f : Nat → Nat → Value) (k0 : Nat) (w : World) (hv : OwnK w B 9 1 v n f) (hk1 : k0 ≤ 50000000) :
    Calls Try.prog 15 #[v, .int .i64 (k0 : Int)] w fun e w' => e = .returned (.int .i64 ((k0 + n : Nat) : Int)) ∧ OwnK w' B 9 1 v n (fS (mkS k0)) ∧ w.grownBy w' v.ownBlock := by
  obtain ⟨hn, ⟨rfl, rfl⟩ | ⟨g, c, rfl, hc, hm, hB, hr⟩⟩ := hv
  · go_enter Try.func15, Try.ntmps15
    go_wp2
    refine wp_loop_rounds 1 ?_
    rw [rounds_succ]
    go_wp2
    go_ret
    exact ⟨ret_int (by omega), ⟨hn, .inl ⟨rfl, rfl⟩⟩, World.grownBy.refl _ _⟩
  · go_enter Try.func15, Try.ntmps15
    go_wp2
    go_loopw [1, 5] (fun q i wr => ∃ k : Nat, k ≤ n ∧ i = .int .i64 k ∧ q = .int .i64 ((k0 + k : Nat) : Int) ∧ RowK wr g 9 1 n (fun i j => if i < k then fS (mkS k0) i j else f i j) ∧ w.grownBy wr (some g)) (fun _ i _ => n - (intOf i).toNat)
    case atStart => exact ⟨0, Nat.zero_le _, rfl, by go_num, hr.congr (fun i _ j _ => by simp), World.grownBy.refl _ _⟩
    case round =>
      obtain ⟨k, hk, rfl, rfl, hrow, hgr⟩ := hrel
      by_cases hlt : k < n
      · have hg := hrow.lt
        have HME : Hid (mkS k0 k = mT (k0 + k)) := Lib.hid rfl
        have HQ5 : Hid (k0 + (k + 1) = k0 + k + 1) := Lib.hid (by omega)
        have hq : k0 + k ≤ 60000000 := by omega
        generalize k0 + k = q at *
        have HT : Hid (∀ (W : World) (z : Int) (m : Nat), z = (m : Int) → m ≤ 100000000 → Calls Try.prog 40 #[.int .i64 z] W fun e w' => e = .returned (.string (mT m)) ∧ Below W.heap.size W w') := Lib.hid (fun W z m hz hm => by subst hz; exact c_markText m hm W)
        go_wp2_with fail
        refine (HT.out _ _ q (by omega) (by omega)).mono ?_
        rintro e w1 ⟨rfl, hb1⟩
        have R1 := hrow.below hb1 hg
        have G1 := (hgr).trans (below_grown hb1 (some g))
        have t1 := R1.cell1 hlt
        have tf := R1.frozen
        have lg1 := R1.lt
        go_wp2
        refine ⟨⟨k + 1, by omega, by go_num, congrArg (Value.int IntKind.i64) (by rw [HQ5.out]; omega), ?_, only_setCell G1 rfl _⟩, by simp [intOf]; omega⟩
        refine RowK.congr (f := _) (R1.set1 hlt _) ?_
        intro i hi j hj
        simp only [upd]
        by_cases e : i = k
        · subst e
          obtain rfl : j = 0 := by omega
          simp [fS, HME.out]
        · have e2 : i < k + 1 ↔ i < k := by omega
          simp [e, e2]
      · have hkn : k = n := by omega
        subst hkn
        go_wp2
        go_ret
        exact ⟨rfl, ⟨hn, .inr ⟨g, c, rfl, hc, hm, hB, hrow.congr (fun i hi j _ => by simp [hi])⟩⟩, hgr⟩
set_option maxHeartbeats 3200000 in
theorem c_heldStringS (A : Option Addr) (n c : Nat) (k0 : Nat) (w : World) (hv : Sl w 1 A n c (fS (mkS k0))) (hk1 : k0 ≤ 50000000) :
    Calls Try.prog 16 #[.slice A n c, .int .i64 (k0 : Int)] w fun e w' => e = .returned (.int .i64 ((k0 + n : Nat) : Int)) ∧ Below w.heap.size w w' := by
  have hn := hv.le
  go_enter Try.func16, Try.ntmps16
  go_wp2
  go_loopw [1, 5] (fun q i wr => ∃ k : Nat, k ≤ n ∧ i = .int .i64 k ∧ q = .int .i64 ((k0 + k : Nat) : Int) ∧ Below w.heap.size w wr) (fun _ i _ => n - (intOf i).toNat)
  case atStart => exact ⟨0, Nat.zero_le _, rfl, by go_num, Below.refl _ _⟩
  case round =>
    obtain ⟨k, hk, rfl, rfl, hbr⟩ := hrel
    by_cases hlt : k < n
    · obtain ⟨b, off, rfl, hb, hc⟩ := (hv.below hbr).at_ (by omega)
      have h1 := cellsS hc k hlt
      have HQ5 : Hid (k0 + (k + 1) = k0 + k + 1) := Lib.hid (by omega)
      have hq : k0 + k ≤ 60000000 := by omega
      rw [show mkS k0 k = mT (k0 + k) from rfl] at h1
      clear hc
      generalize k0 + k = q at *
      have HT : Hid (∀ (W : World) (z : Int) (m : Nat), z = (m : Int) → m ≤ 100000000 → Calls Try.prog 40 #[.int .i64 z] W fun e w' => e = .returned (.string (mT m)) ∧ Below W.heap.size W w') := Lib.hid (fun W z m hz hm => by subst hz; exact c_markText m hm W)
      go_wp2_with fail
      have HK : ∀ W : World, Below wr.heap.size wr W → W.cell? ⟨b, off + k, none⟩ = some (.string (mT q)) ∧ Below wr.heap.size wr W := fun W hW => ⟨cell_call hW h1, hW⟩
      refine wp_region_held_drew (S := (fun W => W.cell? ⟨b, off + k, none⟩ = some (.string (mT q)) ∧ Below wr.heap.size wr W)) (by kernel_rfl) (by (try dsimp only); (exact HK _ (by repeat' (first | (with_reducible exact Below.refl _ _) | (with_reducible assumption) | (with_reducible refine Base.via hb1 ?_) | (with_reducible refine Base.grow_alloc ?_ _) | (with_reducible refine Base.below_drewN ?_ _) | (with_reducible refine Below.drew ?_) | (with_reducible refine Below.setCell ?_ ?_ _) | go_size)))) (fun hHeld => ?_)
      refine wpAnyH_take (i := 0) (oi := ⟨some 12, _, _, _, _, _⟩) (v := ?_) rfl (by kernel_rfl) (by kernel_rfl) (by kernel_rfl) (fun _ _ _ h => h) (Or.inl ⟨by rfl, ?_⟩) (by assumption) ?_
      rotate_left
      · (intro w' hSw; (try dsimp only at hSw); go_simp; try with_reducible rfl)
      try simp only [Act.put, List.setIfInBounds_toArray, List.set_cons_zero, List.set_cons_succ]
      refine wpAnyH_take (i := 1) (oi := ⟨some 13, _, _, _, _, _⟩) (v := ?_) rfl (by kernel_rfl) (by kernel_rfl) (by kernel_rfl) (fun _ _ _ h => h) (Or.inl ⟨by rfl, ?_⟩) (by assumption) ?_
      rotate_left
      · (intro w' hSw; (try dsimp only at hSw); go_simp; try with_reducible rfl)
      try simp only [Act.put, List.setIfInBounds_toArray, List.set_cons_zero, List.set_cons_succ]
      refine wpAnyH_take (i := 2) (oi := ⟨some 14, _, _, _, _, _⟩) (v := ?_) rfl (by kernel_rfl) (by kernel_rfl) (by kernel_rfl) (fun _ _ _ h => h) (Or.inl ⟨by rfl, ?_⟩) (by assumption) ?_
      rotate_left
      · (intro w' hSw; (try dsimp only at hSw); go_simp; try with_reducible rfl)
      try simp only [Act.put, List.setIfInBounds_toArray, List.set_cons_zero, List.set_cons_succ]
      refine wpAnyH_take (i := 3) (oi := ⟨some 15, _, _, _, _, _⟩) (v := ?_) rfl (by kernel_rfl) (by kernel_rfl) (by kernel_rfl) (fun _ _ _ h => h) (Or.inl ⟨by rfl, ?_⟩) (by assumption) ?_
      rotate_left
      · (intro w' hSw; (try dsimp only at hSw); go_simp; try with_reducible rfl)
      try simp only [Act.put, List.setIfInBounds_toArray, List.set_cons_zero, List.set_cons_succ]
      refine wpAnyH_take (i := 4) (oi := ⟨some 16, _, _, _, _, _⟩) (v := ?_) rfl (by kernel_rfl) (by kernel_rfl) (by kernel_rfl) (fun _ _ _ h => h) (Or.inl ⟨by rfl, ?_⟩) (by assumption) ?_
      rotate_left
      · (intro w' hSw; (try dsimp only at hSw); go_simp; try with_reducible rfl)
      try simp only [Act.put, List.setIfInBounds_toArray, List.set_cons_zero, List.set_cons_succ]
      refine wpAnyH_ready (rs := [5]) (by kernel_rfl) (by simp) ?_
      refine AllReadyH.cons (o := ⟨some 17, _, _, _, _, _⟩) rfl (fun K hK => ?_) AllReadyH.nil
      go_simp
      (go_at_call 40; refine (HT.out _ _ q (by omega) (by omega)).mono ?_; rintro e w1 ⟨rfl, hb1⟩)
      refine hK.out _ _ (by (try dsimp only); (exact HK _ (by repeat' (first | (with_reducible exact Below.refl _ _) | (with_reducible assumption) | (with_reducible refine Base.via hb1 ?_) | (with_reducible refine Base.grow_alloc ?_ _) | (with_reducible refine Base.below_drewN ?_ _) | (with_reducible refine Below.drew ?_) | (with_reducible refine Below.setCell ?_ ?_ _) | go_size)))) (fun hHeld => ?_)
      clear hK K
      try simp only [Act.put, List.setIfInBounds_toArray, List.set_cons_zero, List.set_cons_succ]
      refine wpAnyH_take (i := 6) (oi := ⟨some 18, _, _, _, _, _⟩) (v := ?_) rfl (by kernel_rfl) (by kernel_rfl) (by kernel_rfl) (fun _ _ _ h => h) (Or.inl ⟨by rfl, ?_⟩) (by assumption) ?_
      rotate_left
      · (intro w' hSw; (try dsimp only at hSw); go_simp; try with_reducible rfl)
      try simp only [Act.put, List.setIfInBounds_toArray, List.set_cons_zero, List.set_cons_succ]
      refine wpAnyH_done (by kernel_rfl) ?_ _
      have hbw : Below wr.heap.size wr w1 := (‹_ ∧ Below wr.heap.size wr w1›).2
      have hbr1 : Below w.heap.size w w1 := Base.via hbw hbr
      clear hHeld HK h1
      go_wp2
      exact ⟨⟨k + 1, by omega, by go_num, congrArg (Value.int IntKind.i64) (by rw [HQ5.out]; omega), hbr1⟩, by simp [intOf]; omega⟩
    · have hkn : k = n := by omega
      subst hkn
      go_wp2
      go_ret
      exact ⟨rfl, hbr⟩
end Go.Proofs.Ythojfmlnnclghaa.StS
