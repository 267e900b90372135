/- The means of the bins of phases: the statement's list. -/
import Derived.Test.YtiinjnghnfofpaaPhase5
import Derived.Deep.RegionLaw
import Derived.Deep.AppendLies
namespace Go.Proofs.Ytiinjnghnfofpaa.Phase
set_option linter.unusedVariables false
set_option linter.unusedSimpArgs false
set_option maxRecDepth 8000
open Go.RowKit Plain Num View Mags Curve Curve2 DisB Eph Frac

set_option maxHeartbeats 1600000 in
theorem c_specPhaseMeans (e p : Int) (A : Option Addr) (n c : Nat) (T M : Nat → Int) (b : Int) (w : World) (hv : Sl w 2 A n c (f2 T M)) :
    Calls Try.prog 35 #[.agg #[.int .i64 e, .int .i64 p], .slice A n c, .int .i64 b] w fun r w' => ∃ v, r = .returned (.tuple #[v, .int .i64 (phC n T M e p b)]) ∧ OwnK w' w.heap.size 78 2 v (mnS n T M e p b).length (f2 (lp1 (mnS n T M e p b)) (lp2 (mnS n T M e p b))) ∧ Below w.heap.size w w' := by
  have hn := hv.le
  by_cases hph : phC n T M e p b = 0
  · obtain ⟨h1, h2, h3⟩ := ph_ok hph
    obtain ⟨h100, hT, hM, _⟩ := okCurve_bd h2
    obtain ⟨b1, b2⟩ := inB_iff.1 h3
    obtain ⟨m, rfl⟩ : ∃ m : Nat, b = m := ⟨b.toNat, by omega⟩
    have hm : 1 ≤ m ∧ m ≤ 50 := by omega
    have hq : (phC n T M e p m != 0) = false := by simp [hph]
    obtain ⟨i0, hi0, hz0, hz1, hz2⟩ := info_parts infoPt
    have HN := Lib.hid (show mnS n T M e p m = sel m (mnP n (phB e p m T) M) (mnG n (phB e p m T) M) by rw [mnS, if_pos hph, Int.toNat_natCast])
    have HC := Lib.hid hph
    have HCN := Lib.hid (fun x => cnt_bd n (phB e p m T) M x)
    have HSM := Lib.hid (fun x => sum_bd (n := n) (B := phB e p m T) (M := M) h100 hM x)
    clear hph hT hM
    go_enter Try.func35, Try.ntmps35
    go_wp2_with (first | (go_at_call 82; refine (c_l09Bins _ _ _ T M e p m _ (hv.below (by repeat' (first | (with_reducible exact Below.refl _ _) | (with_reducible assumption) | (with_reducible refine Base.grow_alloc ?_ _) | (with_reducible refine Base.below_drewN ?_ _) | (with_reducible refine Below.drew ?_) | (with_reducible refine Below.setCell ?_ ?_ _) | go_size)))).mono ?_; rintro e w1 ⟨rfl, hb1⟩; obtain ⟨chb1, fhb1⟩ := Base.bcell hb1; have zhb1 := (hb1).size; (try simp at zhb1); (try have yhb1 : w.heap.size < (w1).heap.size := by omega)))
    have k0 : World.cell? w1 ⟨w.heap.size, 0, none⟩ = some (.int .i64 e) := ((hb1.cell (p := ⟨w.heap.size, 0, none⟩) (by first | (simp; done) | (simp; omega) | omega)).trans (by simp [go_sem]))
    have k1 : World.cell? w1 ⟨w.heap.size, 1, none⟩ = some (.int .i64 p) := ((hb1.cell (p := ⟨w.heap.size, 1, none⟩) (by first | (simp; done) | (simp; omega) | omega)).trans (by simp [go_sem]))
    go_wp2_with (first | (go_at_call 83; refine (c_l09Sums _ _ _ m T M e p _ (hv.below (by repeat' (first | (with_reducible exact Below.refl _ _) | (with_reducible assumption) | (with_reducible refine Base.via hb1 ?_) | (with_reducible refine Base.grow_alloc ?_ _) | (with_reducible refine Base.below_drewN ?_ _) | (with_reducible refine Below.drew ?_) | (with_reducible refine Below.setCell ?_ ?_ _) | go_size))) h1 h2 hm).mono ?_))
    rintro r w2 ⟨ga, gb, rfl, ha, hb, ra, rb, hb2⟩
    have hbw : Below w.heap.size w w2 := (by repeat' (first | (with_reducible exact Below.refl _ _) | (with_reducible assumption) | (with_reducible refine Base.via hb1 ?_) | (with_reducible refine Base.via hb2 ?_) | (with_reducible refine Base.grow_alloc ?_ _) | (with_reducible refine Base.below_drewN ?_ _) | (with_reducible refine Below.drew ?_) | (with_reducible refine Below.setCell ?_ ?_ _) | go_size))
    clear chb1 fhb1 k0 k1
    go_wp2
    go_loopw [11, 12] (fun v i wr => ∃ k : Nat, k ≤ m ∧ i = .int .i64 k ∧ wr.ownsRow w2.heap.size 78 2 v (sel k (mnP n (phB e p m T) M) (mnG n (phB e p m T) M)).length (cellP (sel k (mnP n (phB e p m T) M) (mnG n (phB e p m T) M))) ∧ Below w2.heap.size w2 wr) (fun _ i _ => m - (intOf i).toNat)
    case atStart => exact ⟨0, Nat.zero_le _, rfl, World.ownsRow_made _ _ _ (by omega) (by simp [maxLen]) rfl, (by repeat' (first | (with_reducible exact Below.refl _ _) | (with_reducible assumption) | (with_reducible refine Base.grow_alloc ?_ _) | (with_reducible refine Base.below_drewN ?_ _) | (with_reducible refine Below.drew ?_) | (with_reducible refine Below.setCell ?_ ?_ _) | go_size))⟩
    case round =>
      obtain ⟨k, hk, rfl, hown, hbr⟩ := hrel
      have hz := hbr.size
      have hl := sel_len (k := k) (P := mnP n (phB e p m T) M) (g := mnG n (phB e p m T) M)
      by_cases hlt : k < m
      · have ra' := ra.below hbr ra.lt
        have rb' := rb.below hbr rb.lt
        have c0 := ra'.cell1 hlt
        have d0 := rb'.cell1 hlt
        simp only [f1] at c0 d0
        obtain ⟨n1, n2⟩ := HCN.out k
        obtain ⟨s1, s2⟩ := HSM.out k
        have g1 := ra'.lt
        have g2 := rb'.lt
        by_cases hpos : 0 < cntI n (phB e p m T) M k
        · have HY := Lib.hid (sel_yes (k := k) (P := mnP n (phB e p m T) M) (g := mnG n (phB e p m T) M) (by simp only [mnP]; exact decide_eq_true hpos))
          have HR := Lib.hid (fun W => c_l02Round (sumI n (phB e p m T) M k) (cntI n (phB e p m T) M k) W (by omega) (by omega) (by omega) (by omega))
          clear ra' rb'
          go_wp2
          go_region_law (first | (refine step_append_lies _ (by rfl) _ _ _ (by rfl) w2.heap.size 78 i0 _ 2 16 Try.underlying26 hi0 hz0 hz1 hz2 rfl (by decide) _ _ _ (by rfl) (own_of_below hown (by repeat' (first | (with_reducible exact Below.refl _ _) | (with_reducible assumption) | (with_reducible refine Base.grow_alloc ?_ _) | (with_reducible refine Base.below_drewN ?_ _) | (with_reducible refine Below.drew ?_) | (with_reducible refine Below.setCell ?_ ?_ _) | go_size))) ⟨_, 0, none⟩ 1 1 [.int .i64 (k : Int), .int .i64 (nrI (sumI n (phB e p m T) M k) (cntI n (phB e p m T) M k))] (by rfl) (by rfl) (cell_newL _ _ _ rfl) (by simp [Value.oneCell']) (by decide) (by simp only [maxLen]; omega) (by omega) (by simp; omega) _ (by rfl) ?_; intro gb cap w3 hown' hgrow hat hlt3) | (go_simp; go_at_call 86; refine (HR.out _).mono ?_; rintro e w' ⟨rfl, rfl⟩))
          all_goals
            have hb3 : Below w2.heap.size w2 w3 := own_grow (by repeat' (first | (with_reducible exact Below.refl _ _) | (with_reducible assumption) | (with_reducible refine Base.grow_alloc ?_ _) | (with_reducible refine Base.below_drewN ?_ _) | (with_reducible refine Below.drew ?_) | (with_reducible refine Below.setCell ?_ ?_ _) | go_size)) hown (Nat.le_refl _) hgrow
            clear hown hgrow
            go_wp2
            go_roundw
            case rel => exact ⟨k + 1, by omega, by go_num, by rw [HY.out]; exact own_snocP hown', hb3⟩
            case measure => simp [intOf]; omega
        · have HY := Lib.hid (sel_no (k := k) (P := mnP n (phB e p m T) M) (g := mnG n (phB e p m T) M) (by simp only [mnP]; exact decide_eq_false hpos))
          clear ra' rb'
          go_wp2
          go_roundw
          case rel => exact ⟨k + 1, by omega, by go_num, by rw [HY.out]; exact hown, hbr⟩
          case measure => simp [intOf]; omega
      · have hkn : k = m := by omega
        subst hkn
        go_wp2
        go_ret2
        exact ⟨_, ret_o HC.out.symm, by rw [HN.out]; exact (OwnK.of_listP hown (by omega)).mono hbw.size, (by repeat' (first | (with_reducible exact Below.refl _ _) | (with_reducible assumption) | (with_reducible refine Base.via hbr ?_) | (with_reducible refine Base.via hbw ?_) | (with_reducible refine Base.grow_alloc ?_ _) | (with_reducible refine Base.below_drewN ?_ _) | (with_reducible refine Below.drew ?_) | (with_reducible refine Below.setCell ?_ ?_ _) | go_size))⟩
  · have HN := Lib.hid (show (mnS n T M e p b).length = 0 by rw [mnS, if_neg hph]; rfl)
    have hq : (phC n T M e p b != 0) = true := by simpa using hph
    go_enter Try.func35, Try.ntmps35
    go_wp2_with (first | (go_at_call 82; refine (c_l09Bins _ _ _ T M e p b _ (hv.below (by repeat' (first | (with_reducible exact Below.refl _ _) | (with_reducible assumption) | (with_reducible refine Base.grow_alloc ?_ _) | (with_reducible refine Base.below_drewN ?_ _) | (with_reducible refine Below.drew ?_) | (with_reducible refine Below.setCell ?_ ?_ _) | go_size)))).mono ?_; rintro e w1 ⟨rfl, hb1⟩; obtain ⟨chb1, fhb1⟩ := Base.bcell hb1; have zhb1 := (hb1).size; (try simp at zhb1); (try have yhb1 : w.heap.size < (w1).heap.size := by omega)))
    go_ret2
    exact ⟨_, rfl, OwnK.zero HN.out, (by repeat' (first | (with_reducible exact Below.refl _ _) | (with_reducible assumption) | (with_reducible refine Base.via hb1 ?_) | (with_reducible refine Base.grow_alloc ?_ _) | (with_reducible refine Base.below_drewN ?_ _) | (with_reducible refine Below.drew ?_) | (with_reducible refine Below.setCell ?_ ?_ _) | go_size))⟩
end Go.Proofs.Ytiinjnghnfofpaa.Phase
