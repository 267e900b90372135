/- The means of the bins of phases: the program's list. -/
import Derived.Test.YtiinjnghnfofpaaPhase4
namespace Go.Proofs.Ytiinjnghnfofpaa.Phase
set_option linter.unusedVariables false
set_option linter.unusedSimpArgs false
set_option maxRecDepth 8000
open Go.RowKit Plain Num View Mags Curve Curve2 DisB Eph Frac

def mnP (n : Nat) (B M : Nat → Int) (k : Nat) : Bool := decide (0 < cntI n B M k)
def mnG (n : Nat) (B M : Nat → Int) (k : Nat) : Int × Int := ((k : Int), nrI (sumI n B M k) (cntI n B M k))
def mnS (n : Nat) (T M : Nat → Int) (e p b : Int) : List (Int × Int) := if phC n T M e p b = 0 then sel b.toNat (mnP n (phB e p b T) M) (mnG n (phB e p b T) M) else []
theorem infoPt : (Try.prog.info? 78).map (fun i => (i.zero, i.size, i.bytes)) = some (some (.agg #[.int .i64 0, .int .i64 0]), 2, 16) := by kernel_rfl
set_option maxHeartbeats 800000 in
theorem c_PhaseMeans (e p : Int) (A : Option Addr) (n c : Nat) (T M : Nat → Int) (b : Int) (w : World) (hv : Sl w 2 A n c (f2 T M)) :
    Calls Try.prog 36 #[.agg #[.int .i64 e, .int .i64 p], .slice A n c, .int .i64 b] w fun r w' => ∃ v, r = .returned (.tuple #[v, .int .i64 (phC n T M e p b)]) ∧ OwnK w' w.heap.size 78 2 v (mnS n T M e p b).length (f2 (lp1 (mnS n T M e p b)) (lp2 (mnS n T M e p b))) ∧ Below w.heap.size w w' := by
  have hn := hv.le
  by_cases hph : phC n T M e p b = 0
  · obtain ⟨h1, h2, h3⟩ := ph_ok hph
    obtain ⟨h100, hT, hM, _⟩ := okCurve_bd h2
    obtain ⟨b1, b2⟩ := inB_iff.1 h3
    obtain ⟨m, rfl⟩ : ∃ m : Nat, b = m := ⟨b.toNat, by omega⟩
    have hm : 1 ≤ m ∧ m ≤ 50 := by omega
    obtain ⟨i0, hi0, hz0, hz1, hz2⟩ := info_parts infoPt
    have HN := Lib.hid (show mnS n T M e p m = sel m (mnP n (phB e p m T) M) (mnG n (phB e p m T) M) by rw [mnS, if_pos hph, Int.toNat_natCast])
    have HC := Lib.hid hph
    have HM := Lib.hid hM
    clear hph hT hM
    go_enter Try.func36, Try.ntmps36
    go_wp2_with (first | (go_at_call 84; refine (c_byBins_ok _ n _ m T M e p _ (hv.below (by repeat' (first | (with_reducible exact Below.refl _ _) | (with_reducible assumption) | (with_reducible refine Base.grow_alloc ?_ _) | (with_reducible refine Base.below_drewN ?_ _) | (with_reducible refine Below.drew ?_) | (with_reducible refine Below.setCell ?_ ?_ _) | go_size))) h1 h2 hm).mono ?_))
    rintro r w1 ⟨q, g, B, rfl, hbin, hb1⟩
    have hbw : Below w.heap.size w w1 := (by repeat' (first | (with_reducible exact Below.refl _ _) | (with_reducible assumption) | (with_reducible refine Base.via hb1 ?_) | (with_reducible refine Base.grow_alloc ?_ _) | (with_reducible refine Base.below_drewN ?_ _) | (with_reducible refine Below.drew ?_) | (with_reducible refine Below.setCell ?_ ?_ _) | go_size))
    have hlen : ∀ i, (bl n (phB e p m T) M i).length ≤ n := fun i => bl_len n (phB e p m T) M i
    have HLEN := Lib.hid hlen
    clear hlen
    go_wp2
    go_loopw [10, 11, 12, 26] (fun v _ _ i wr => ∃ k : Nat, k ≤ m ∧ i = .int .i64 k ∧ wr.ownsRow w1.heap.size 78 2 v (sel k (mnP n (phB e p m T) M) (mnG n (phB e p m T) M)).length (cellP (sel k (mnP n (phB e p m T) M) (mnG n (phB e p m T) M))) ∧ Below w1.heap.size w1 wr) (fun _ _ _ i _ => m - (intOf i).toNat)
    case atStart => exact ⟨0, Nat.zero_le _, rfl, World.ownsRow_made _ _ _ (by omega) (by simp [maxLen]) rfl, (by repeat' (first | (with_reducible exact Below.refl _ _) | (with_reducible assumption) | (with_reducible refine Base.grow_alloc ?_ _) | (with_reducible refine Base.below_drewN ?_ _) | (with_reducible refine Below.drew ?_) | (with_reducible refine Below.setCell ?_ ?_ _) | go_size))⟩
    case round =>
      obtain ⟨k, hk, rfl, hown, hbr⟩ := hrel
      have hz := hbr.size
      have hl := sel_len (k := k) (P := mnP n (phB e p m T) M) (g := mnG n (phB e p m T) M)
      by_cases hlt : k < m
      · have hbk := hbin.below hbr
        have hc := hbk.cell hlt
        have hll := HLEN.out k
        obtain ⟨A', c', hg, V⟩ := hbk.sl hlt (by omega)
        rw [hg] at hc
        by_cases hpos : 0 < (bl n (phB e p m T) M k).length
        · have HY := Lib.hid (sel_yes (k := k) (P := mnP n (phB e p m T) M) (g := mnG n (phB e p m T) M) (by simp only [mnP, cntI]; exact decide_eq_true (by omega)))
          have HMN := Lib.hid (fun W (hW : Below wr.heap.size wr W) => c_meanP A' (bl n (phB e p m T) M k).length c' (lf (bl n (phB e p m T) M k)) W (V.below hW) hpos (by omega) (fun i hi => bl_bd HM.out i hi))
          clear hbk hg V
          go_wp2_with (first | (go_at_call 87; refine (HMN.out _ (by repeat' (first | (with_reducible exact Below.refl _ _) | (with_reducible assumption) | (with_reducible refine Base.grow_alloc ?_ _) | (with_reducible refine Base.below_drewN ?_ _) | (with_reducible refine Below.drew ?_) | (with_reducible refine Below.setCell ?_ ?_ _) | go_size))).mono ?_; rintro e w2 ⟨rfl, hb2⟩; obtain ⟨chb2, fhb2⟩ := Base.bcell hb2; have zhb2 := (hb2).size; (try simp at zhb2); (try have yhb2 : w.heap.size < (w2).heap.size := by omega)) | (at_builtin; refine wpList_append_own _ rfl _ _ 26 rfl (w1.heap.size) 78 i0 _ 2 16 Try.underlying26 hi0 hz0 hz1 hz2 rfl (by decide) _ _ _ rfl (own_of_below hown (by repeat' (first | (with_reducible exact Below.refl _ _) | (with_reducible assumption) | (with_reducible refine Base.via hb2 ?_) | (with_reducible refine Base.grow_alloc ?_ _) | (with_reducible refine Base.below_drewN ?_ _) | (with_reducible refine Below.drew ?_) | (with_reducible refine Below.setCell ?_ ?_ _) | go_size))) ⟨_, 0, none⟩ 1 1 [.int .i64 ((k : Int)), .int .i64 (nrI (sumB (bl n (phB e p m T) M k).length (lf (bl n (phB e p m T) M k))) ((bl n (phB e p m T) M k).length : Int))] rfl rfl (cell_newL _ [.int .i64 ((k : Int)), .int .i64 (nrI (sumB (bl n (phB e p m T) M k).length (lf (bl n (phB e p m T) M k))) ((bl n (phB e p m T) M k).length : Int))] _ (by simp)) (by simp [Value.oneCell']) (by simp only [maxLen]; omega) (by omega) (by simp; omega) ?_))
          intro v' w3 hown' hgrow _
          have hb3 : Below w1.heap.size w1 w3 := own_grow (by repeat' (first | (with_reducible exact Below.refl _ _) | (with_reducible assumption) | (with_reducible refine Base.via hb2 ?_) | (with_reducible refine Base.grow_alloc ?_ _) | (with_reducible refine Base.below_drewN ?_ _) | (with_reducible refine Below.drew ?_) | (with_reducible refine Below.setCell ?_ ?_ _) | go_size)) hown (Nat.le_refl _) hgrow
          clear hown hgrow
          go_wp2
          go_roundw
          case rel => exact ⟨k + 1, by omega, by go_num, by rw [HY.out]; exact own_snocP hown', hb3⟩
          case measure => simp [intOf]; omega
        · have HY := Lib.hid (sel_no (k := k) (P := mnP n (phB e p m T) M) (g := mnG n (phB e p m T) M) (by simp only [mnP, cntI]; exact decide_eq_false (by omega)))
          have h00 : (bl n (phB e p m T) M k).length = 0 := by omega
          rw [h00] at hc
          clear hbk hg V
          go_wp2
          go_roundw
          case rel => exact ⟨k + 1, by omega, by go_num, by rw [HY.out]; exact hown, hbr⟩
          case measure => simp [intOf]; omega
      · have hkn : k = m := by omega
        subst hkn
        go_wp2
        go_ret2
        exact ⟨_, ret_o HC.out.symm, by rw [HN.out]; exact (OwnK.of_listP hown (by omega)).mono hbw.size, (by repeat' (first | (with_reducible exact Below.refl _ _) | (with_reducible assumption) | (with_reducible refine Base.via hbr ?_) | (with_reducible refine Base.via hbw ?_) | (with_reducible refine Base.grow_alloc ?_ _) | (with_reducible refine Base.below_drewN ?_ _) | (with_reducible refine Below.drew ?_) | (with_reducible refine Below.setCell ?_ ?_ _) | go_size))⟩
  · have HN := Lib.hid (show (mnS n T M e p b).length = 0 by rw [mnS, if_neg hph]; rfl)
    have hq : (phC n T M e p b != 0) = true := by simpa using hph
    go_enter Try.func36, Try.ntmps36
    go_wp2_with (first | (go_at_call 84; refine (c_byBins_no _ _ _ T M e p b _ (hv.below (by repeat' (first | (with_reducible exact Below.refl _ _) | (with_reducible assumption) | (with_reducible refine Base.grow_alloc ?_ _) | (with_reducible refine Base.below_drewN ?_ _) | (with_reducible refine Below.drew ?_) | (with_reducible refine Below.setCell ?_ ?_ _) | go_size))) hph).mono ?_; rintro e w1 ⟨rfl, hb1⟩; obtain ⟨chb1, fhb1⟩ := Base.bcell hb1; have zhb1 := (hb1).size; (try simp at zhb1); (try have yhb1 : w.heap.size < (w1).heap.size := by omega)))
    go_ret2
    exact ⟨_, rfl, OwnK.zero HN.out, (by repeat' (first | (with_reducible exact Below.refl _ _) | (with_reducible assumption) | (with_reducible refine Base.via hb1 ?_) | (with_reducible refine Base.grow_alloc ?_ _) | (with_reducible refine Base.below_drewN ?_ _) | (with_reducible refine Below.drew ?_) | (with_reducible refine Below.setCell ?_ ?_ _) | go_size))⟩
end Go.Proofs.Ytiinjnghnfofpaa.Phase
