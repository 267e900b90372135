/- The means of the bins of phases. -/
import Derived.Test.YtiinjnghnfofpaaPhase3
namespace Go.Proofs.Ytiinjnghnfofpaa.Phase
set_option linter.unusedVariables false
set_option linter.unusedSimpArgs false
set_option maxRecDepth 8000
open Go.RowKit Plain Num View Mags Curve Curve2 DisB Eph Frac

theorem c_sumP (A : Option Addr) (n c : Nat) (L : Nat → Int) (w : World) (hv : Sl w 1 A n c (f1 L)) (hn : n ≤ 100) (hL : ∀ i, i < n → -2000 ≤ L i ∧ L i ≤ 20000) :
    Calls Try.prog 128 #[.slice A n c] w fun e w' => e = .returned (.int .i64 (sumB n L)) ∧ Below w.heap.size w w' := by
  have HL := Lib.hid hL
  have HB := Lib.hid (fun k (hk : k ≤ n) => sumB_bd (k := k) (f := L) (a := -2000) (b := 20000) (fun i hi => hL i (by omega)))
  clear hL
  go_enter Try.func128, Try.ntmps128
  go_wp2
  go_loopw [3, 5, 8] (fun s _ i wr => ∃ k : Nat, k ≤ n ∧ i = .int .i64 k ∧ s = .int .i64 (sumB k L) ∧ Below w.heap.size w wr) (fun _ _ i _ => n - (intOf i).toNat)
  case atStart => exact ⟨0, Nat.zero_le _, rfl, rfl, (by repeat' (first | (with_reducible exact Below.refl _ _) | (with_reducible assumption) | (with_reducible refine Base.grow_alloc ?_ _) | (with_reducible refine Base.below_drewN ?_ _) | (with_reducible refine Below.drew ?_) | (with_reducible refine Below.setCell ?_ ?_ _) | go_size))⟩
  case round =>
    obtain ⟨k, hk, rfl, rfl, hbr⟩ := hrel
    by_cases hlt : k < n
    · obtain ⟨b, off, rfl, hb, hc⟩ := (hv.below hbr).at_ (by omega)
      have h0 := cells1 hc k hlt
      obtain ⟨u1, u2⟩ := HB.out k hk
      obtain ⟨u3, u4⟩ := HL.out k hlt
      clear hc
      go_wp2
      go_roundw
      case rel => exact ⟨k + 1, by omega, by go_num, rfl, hbr⟩
      case measure => simp [intOf]; omega
    · have hkn : k = n := by omega
      subst hkn
      go_wp2
      go_ret
      exact ⟨rfl, hbr⟩
theorem c_meanP (A : Option Addr) (n c : Nat) (L : Nat → Int) (w : World) (hv : Sl w 1 A n c (f1 L)) (h0 : 1 ≤ n) (hn : n ≤ 100) (hL : ∀ i, i < n → -2000 ≤ L i ∧ L i ≤ 20000) :
    Calls Try.prog 87 #[.slice A n c] w fun e w' => e = .returned (.int .i64 (nrI (sumB n L) n)) ∧ Below w.heap.size w w' := by
  obtain ⟨u1, u2⟩ := sumB_bd (k := n) (f := L) (a := -2000) (b := 20000) hL
  go_enter Try.func87, Try.ntmps87
  go_wp2_with (first | (go_at_call 128; refine (c_sumP _ _ _ L _ (hv.below (by repeat' (first | (with_reducible exact Below.refl _ _) | (with_reducible assumption) | (with_reducible refine Base.grow_alloc ?_ _) | (with_reducible refine Base.below_drewN ?_ _) | (with_reducible refine Below.drew ?_) | (with_reducible refine Below.setCell ?_ ?_ _) | go_size))) hn hL).mono ?_; rintro e w1 ⟨rfl, hb1⟩; obtain ⟨chb1, fhb1⟩ := Base.bcell hb1; have zhb1 := (hb1).size; (try simp at zhb1); (try have yhb1 : w.heap.size < (w1).heap.size := by omega)) | (go_at_call 85; refine (Var.c_count _ _ _ _ (by omega)).mono ?_; rintro e w' ⟨rfl, rfl⟩) | (go_at_call 127; refine (c_nearest _ _ _ (by omega) (by omega) (by omega) (by omega)).mono ?_; rintro e w' ⟨rfl, rfl⟩))
  go_ret
  exact ⟨rfl, (by repeat' (first | (with_reducible exact Below.refl _ _) | (with_reducible assumption) | (with_reducible refine Base.via hb1 ?_) | (with_reducible refine Base.grow_alloc ?_ _) | (with_reducible refine Base.below_drewN ?_ _) | (with_reducible refine Below.drew ?_) | (with_reducible refine Below.setCell ?_ ?_ _) | go_size))⟩
end Go.Proofs.Ytiinjnghnfofpaa.Phase
