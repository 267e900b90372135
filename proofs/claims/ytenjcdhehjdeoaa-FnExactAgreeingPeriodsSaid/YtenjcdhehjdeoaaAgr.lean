/- Whether two ways to a period agree: both sides. -/
import Derived.Test.YtenjcdhehjdeoaaStr4
import Derived.Test.YtenjcdhehjdeoaaBest3
namespace Go.Proofs.Ytenjcdhehjdeoaa.Agr
set_option linter.unusedVariables false
set_option linter.unusedSimpArgs false
set_option maxRecDepth 8000
open Go.RowKit Plain Num View Eph Curve Curve2 Per Best Str

noncomputable def agC (n : Nat) (T M : Nat → Int) (f t s b : Int) : Int := if bestC n T M f t s b = 0 then srC n T M f t s 3 else bestC n T M f t s b
noncomputable def agB (n : Nat) (T M : Nat → Int) (f t s b : Int) : Bool := if agC n T M f t s b = 0 then decide (absI (bestV n T M f t s b - bpV n T M f t s) ≤ s) else false
theorem ag_bd {n : Nat} {T M : Nat → Int} {f t s b : Int} (h1 : bestC n T M f t s b = 0) (h2 : srC n T M f t s 3 = 0) : (1 ≤ bestV n T M f t s b ∧ bestV n T M f t s b ≤ 1000000) ∧ (1 ≤ bpV n T M f t s ∧ bpV n T M f t s ≤ 1000000) ∧ agC n T M f t s b = 0 ∧ agB n T M f t s b = decide (absI (bestV n T M f t s b - bpV n T M f t s) ≤ s) := by
  obtain ⟨g1, g2, g3, _⟩ := sr_ok h2
  obtain ⟨h100, _, hM, _⟩ := okCurve_bd g1
  have hc : agC n T M f t s b = 0 := by rw [agC, if_pos h1, h2]
  refine ⟨?_, ?_, hc, by rw [agB, if_pos hc]⟩
  · by_cases hask : askC n T M f t s b = 0
    · have hb := (bb_bd (n := n) (T := T) (M := M) (f := f) (s := s) (b := b) (k := perN f t s) h100 hM (fun i hi => Best.per_bd g2 i hi)).1
      rw [bestV, if_pos hask]
      rw [bestC, if_pos hask] at h1
      split at h1
      · omega
      · rcases hb with hb | hb
        · contradiction
        · exact hb
    · rw [bestC, if_neg hask] at h1
      exact absurd h1 hask
  · rw [bpV, if_pos h2]
    exact Str.per_bd g2 _ (bpI_lt g2)
theorem ret_bi {a a' : Bool} {b b' : Int} (h : a = a') (h' : b = b') : Ending.returned (.tuple #[.bool a, .int .i64 b]) = .returned (.tuple #[.bool a', .int .i64 b']) := by rw [h, h']
set_option maxHeartbeats 1600000 in
theorem c_AgreeingPeriods (A : Option Addr) (n c : Nat) (T M : Nat → Int) (f t s b : Int) (w : World) (hv : Sl w 2 A n c (f2 T M)) :
    Calls Try.prog 40 #[.slice A n c, .agg #[.int .i64 f, .int .i64 t, .int .i64 s], .int .i64 b] w fun e w' => e = .returned (.tuple #[.bool (agB n T M f t s b), .int .i64 (agC n T M f t s b)]) ∧ Below w.heap.size w w' := by
  have H1 := Lib.hid (fun (W : World) (hW : Sl W 2 A n c (f2 T M)) => c_BestByBins A n c T M f t s b W hW)
  have H2 := Lib.hid (fun (W : World) (hW : Sl W 2 A n c (f2 T M)) => c_BestPeriod A n c T M f t s W hW)
  by_cases h1 : bestC n T M f t s b = 0
  · by_cases h2 : srC n T M f t s 3 = 0
    · obtain ⟨b1, b2, hc, hb⟩ := ag_bd h1 h2
      have hs := (okSearch_bd (sr_ok h2).2.1).2.2.1
      have HC := Lib.hid hc
      have HB := Lib.hid hb
      rw [h1] at H1
      rw [h2] at H2
      clear hc hb h1 h2
      generalize bestV n T M f t s b = x at *
      generalize bpV n T M f t s = y at *
      have ew : IntKind.i64.wrap (x - y) = x - y := IntWalk.i64_in _ (by omega)
      go_enter Try.func40, Try.ntmps40
      go_wp2_with (first | (go_at_call 76; refine (H1.out _ (hv.below (by repeat' (first | (with_reducible exact Below.refl _ _) | (with_reducible assumption) | (with_reducible refine Base.grow_alloc ?_ _) | (with_reducible refine Base.below_drewN ?_ _) | (with_reducible refine Below.drew ?_) | (with_reducible refine Below.setCell ?_ ?_ _) | go_size)))).mono ?_; rintro e w1 ⟨rfl, hb1⟩; obtain ⟨chb1, fhb1⟩ := Base.bcell hb1; have zhb1 := (hb1).size; (try simp at zhb1); (try have yhb1 : w.heap.size < (w1).heap.size := by omega)) | (go_at_call 33; refine (H2.out _ (hv.below (by repeat' (first | (with_reducible exact Below.refl _ _) | (with_reducible assumption) | (with_reducible refine Base.via hb1 ?_) | (with_reducible refine Base.grow_alloc ?_ _) | (with_reducible refine Base.below_drewN ?_ _) | (with_reducible refine Below.drew ?_) | (with_reducible refine Below.setCell ?_ ?_ _) | go_size)))).mono ?_; rintro e w2 ⟨rfl, hb2⟩; obtain ⟨chb2, fhb2⟩ := Base.bcell hb2; have zhb2 := (hb2).size; (try simp at zhb2); (try have yhb2 : w.heap.size < (w2).heap.size := by omega)))
      have k2 : World.cell? w2 ⟨w.heap.size, 2, none⟩ = some (.int .i64 s) := ((hb2.cell (p := ⟨w.heap.size, 2, none⟩) (by first | (simp; done) | (simp; omega) | omega)).trans ((hb1.cell (p := ⟨w.heap.size, 2, none⟩) (by first | (simp; done) | (simp; omega) | omega)).trans (by simp [go_sem])))
      have lw : w.heap.size < w2.heap.size := World.block_lt_of_cell? _ _ k2
      have hbw : Below w.heap.size w w2 := (by repeat' (first | (with_reducible exact Below.refl _ _) | (with_reducible assumption) | (with_reducible refine Base.via hb2 ?_) | (with_reducible refine Base.via hb1 ?_) | (with_reducible refine Base.grow_alloc ?_ _) | (with_reducible refine Base.below_drewN ?_ _) | (with_reducible refine Below.drew ?_) | (with_reducible refine Below.setCell ?_ ?_ _) | go_size))
      clear chb1 fhb1 chb2 fhb2 hb1 hb2
      go_quiet ((first | (go_at_call 50; exact Calls.quiet_of_same ((c_abs _ _ (by omega) (by omega)).mono fun _ _ h => ⟨h.1, h.2.symm⟩))))
      go_wp2
      go_ret2
      exact ⟨ret_bi HB.out.symm HC.out.symm, (by repeat' (first | (with_reducible exact Below.refl _ _) | (with_reducible assumption) | (with_reducible refine Base.via hbw ?_) | (with_reducible refine Base.grow_alloc ?_ _) | (with_reducible refine Base.below_drewN ?_ _) | (with_reducible refine Below.drew ?_) | (with_reducible refine Below.setCell ?_ ?_ _) | go_size))⟩
    · have hc : agC n T M f t s b = srC n T M f t s 3 := by rw [agC, if_pos h1]
      have HC := Lib.hid hc
      have HB := Lib.hid (show agB n T M f t s b = false by rw [agB, hc, if_neg h2])
      have hq : (srC n T M f t s 3 != 0) = true := by simpa using h2
      rw [h1] at H1
      clear hc h1
      go_enter Try.func40, Try.ntmps40
      go_wp2_with (first | (go_at_call 76; refine (H1.out _ (hv.below (by repeat' (first | (with_reducible exact Below.refl _ _) | (with_reducible assumption) | (with_reducible refine Base.grow_alloc ?_ _) | (with_reducible refine Base.below_drewN ?_ _) | (with_reducible refine Below.drew ?_) | (with_reducible refine Below.setCell ?_ ?_ _) | go_size)))).mono ?_; rintro e w1 ⟨rfl, hb1⟩; obtain ⟨chb1, fhb1⟩ := Base.bcell hb1; have zhb1 := (hb1).size; (try simp at zhb1); (try have yhb1 : w.heap.size < (w1).heap.size := by omega)) | (go_at_call 33; refine (H2.out _ (hv.below (by repeat' (first | (with_reducible exact Below.refl _ _) | (with_reducible assumption) | (with_reducible refine Base.via hb1 ?_) | (with_reducible refine Base.grow_alloc ?_ _) | (with_reducible refine Base.below_drewN ?_ _) | (with_reducible refine Below.drew ?_) | (with_reducible refine Below.setCell ?_ ?_ _) | go_size)))).mono ?_; rintro e w2 ⟨rfl, hb2⟩; obtain ⟨chb2, fhb2⟩ := Base.bcell hb2; have zhb2 := (hb2).size; (try simp at zhb2); (try have yhb2 : w.heap.size < (w2).heap.size := by omega)))
      go_ret2
      exact ⟨ret_bi HB.out.symm HC.out.symm, (by repeat' (first | (with_reducible exact Below.refl _ _) | (with_reducible assumption) | (with_reducible refine Base.via hb2 ?_) | (with_reducible refine Base.via hb1 ?_) | (with_reducible refine Base.grow_alloc ?_ _) | (with_reducible refine Base.below_drewN ?_ _) | (with_reducible refine Below.drew ?_) | (with_reducible refine Below.setCell ?_ ?_ _) | go_size))⟩
  · have hc : agC n T M f t s b = bestC n T M f t s b := by rw [agC, if_neg h1]
    have HC := Lib.hid hc
    have HB := Lib.hid (show agB n T M f t s b = false by rw [agB, hc, if_neg h1])
    have hq : (bestC n T M f t s b != 0) = true := by simpa using h1
    clear hc
    go_enter Try.func40, Try.ntmps40
    go_wp2_with (first | (go_at_call 76; refine (H1.out _ (hv.below (by repeat' (first | (with_reducible exact Below.refl _ _) | (with_reducible assumption) | (with_reducible refine Base.grow_alloc ?_ _) | (with_reducible refine Base.below_drewN ?_ _) | (with_reducible refine Below.drew ?_) | (with_reducible refine Below.setCell ?_ ?_ _) | go_size)))).mono ?_; rintro e w1 ⟨rfl, hb1⟩; obtain ⟨chb1, fhb1⟩ := Base.bcell hb1; have zhb1 := (hb1).size; (try simp at zhb1); (try have yhb1 : w.heap.size < (w1).heap.size := by omega)))
    go_ret2
    exact ⟨ret_bi HB.out.symm HC.out.symm, (by repeat' (first | (with_reducible exact Below.refl _ _) | (with_reducible assumption) | (with_reducible refine Base.via hb1 ?_) | (with_reducible refine Base.grow_alloc ?_ _) | (with_reducible refine Base.below_drewN ?_ _) | (with_reducible refine Below.drew ?_) | (with_reducible refine Below.setCell ?_ ?_ _) | go_size))⟩
set_option maxHeartbeats 1600000 in
theorem c_specAgreeingPeriods (A : Option Addr) (n c : Nat) (T M : Nat → Int) (f t s b : Int) (w : World) (hv : Sl w 2 A n c (f2 T M)) :
    Calls Try.prog 39 #[.slice A n c, .agg #[.int .i64 f, .int .i64 t, .int .i64 s], .int .i64 b] w fun e w' => e = .returned (.tuple #[.bool (agB n T M f t s b), .int .i64 (agC n T M f t s b)]) ∧ Below w.heap.size w w' := by
  have H0 := Lib.hid (fun (W : World) (hW : Sl W 2 A n c (f2 T M)) => c_l11Ask A n c T M f t s b W hW)
  have H2 := Lib.hid (fun (W : World) (hW : Sl W 2 A n c (f2 T M)) => c_specBestPeriod A n c T M f t s W hW)
  by_cases hask : askC n T M f t s b = 0
  · have h4 : okCurve n T M = true ∧ okSearch f t s = true ∧ inB b 1 20 = true ∧ n ≤ 40 := by rcases Best.ask_cases n T M f t s b with ⟨h1, h2, h3, h4, hc⟩ | ⟨h1, h2, h3, h4, hc⟩ | ⟨h1, h2, h3, hc⟩ | ⟨h1, h2, hc⟩ | ⟨h1, hc⟩ <;> first | exact ⟨h1, h2, h3, h4⟩ | omega
    obtain ⟨hok, hs, hb, h40⟩ := h4
    have H1 := Lib.hid (fun (W : World) (hW : Sl W 2 A n c (f2 T M)) => c_l11Best A n c T M f t s b W hW hok hs hb)
    have hV : bestV n T M f t s b = (bb n T M f s b (perN f t s)).1 := by rw [bestV, if_pos hask]
    have hBC : bestC n T M f t s b = if (bb n T M f s b (perN f t s)).1 = 0 then 3 else 0 := by rw [bestC, if_pos hask]
    rw [← hV] at H1 hBC
    rw [hask] at H0
    by_cases h1 : bestV n T M f t s b = 0
    · rw [if_pos h1] at hBC
      have hc : agC n T M f t s b = 3 := by rw [agC, hBC]; rfl
      have HC := Lib.hid hc
      have HB := Lib.hid (show agB n T M f t s b = false by rw [agB, hc]; rfl)
      rw [h1] at H1
      clear hc h1 hV hBC hask
      go_enter Try.func39, Try.ntmps39
      go_wp2_with (first | (go_at_call 74; refine (H0.out _ (hv.below (by repeat' (first | (with_reducible exact Below.refl _ _) | (with_reducible assumption) | (with_reducible refine Base.grow_alloc ?_ _) | (with_reducible refine Base.below_drewN ?_ _) | (with_reducible refine Below.drew ?_) | (with_reducible refine Below.setCell ?_ ?_ _) | go_size)))).mono ?_; rintro e w1 ⟨rfl, hb1⟩; obtain ⟨chb1, fhb1⟩ := Base.bcell hb1; have zhb1 := (hb1).size; (try simp at zhb1); (try have yhb1 : w.heap.size < (w1).heap.size := by omega)) | (go_at_call 75; refine (H1.out _ (hv.below (by repeat' (first | (with_reducible exact Below.refl _ _) | (with_reducible assumption) | (with_reducible refine Base.via hb1 ?_) | (with_reducible refine Base.grow_alloc ?_ _) | (with_reducible refine Base.below_drewN ?_ _) | (with_reducible refine Below.drew ?_) | (with_reducible refine Below.setCell ?_ ?_ _) | go_size)))).mono ?_; rintro e w2 ⟨rfl, hb2⟩; obtain ⟨chb2, fhb2⟩ := Base.bcell hb2; have zhb2 := (hb2).size; (try simp at zhb2); (try have yhb2 : w.heap.size < (w2).heap.size := by omega)) | (go_at_call 32; refine (H2.out _ (hv.below (by repeat' (first | (with_reducible exact Below.refl _ _) | (with_reducible assumption) | (with_reducible refine Base.via hb2 ?_) | (with_reducible refine Base.via hb1 ?_) | (with_reducible refine Base.grow_alloc ?_ _) | (with_reducible refine Base.below_drewN ?_ _) | (with_reducible refine Below.drew ?_) | (with_reducible refine Below.setCell ?_ ?_ _) | go_size)))).mono ?_; rintro e w3 ⟨rfl, hb3⟩; obtain ⟨chb3, fhb3⟩ := Base.bcell hb3; have zhb3 := (hb3).size; (try simp at zhb3); (try have yhb3 : w.heap.size < (w3).heap.size := by omega)))
      go_ret2
      exact ⟨ret_bi HB.out.symm HC.out.symm, (by repeat' (first | (with_reducible exact Below.refl _ _) | (with_reducible assumption) | (with_reducible refine Base.via hb3 ?_) | (with_reducible refine Base.via hb2 ?_) | (with_reducible refine Base.via hb1 ?_) | (with_reducible refine Base.grow_alloc ?_ _) | (with_reducible refine Base.below_drewN ?_ _) | (with_reducible refine Below.drew ?_) | (with_reducible refine Below.setCell ?_ ?_ _) | go_size))⟩
    · rw [if_neg h1] at hBC
      have hq1 : (bestV n T M f t s b == 0) = false := by simpa using h1
      by_cases h2 : srC n T M f t s 3 = 0
      · obtain ⟨b1, b2, hc, hb⟩ := ag_bd hBC h2
        have hs := (okSearch_bd hs).2.2.1
        have HC := Lib.hid hc
        have HB := Lib.hid hb
        rw [h2] at H2
        clear hc hb h2 hBC hV hask
        generalize bestV n T M f t s b = x at *
        generalize bpV n T M f t s = y at *
        have ew : IntKind.i64.wrap (x - y) = x - y := IntWalk.i64_in _ (by omega)
        go_enter Try.func39, Try.ntmps39
        go_wp2_with (first | (go_at_call 74; refine (H0.out _ (hv.below (by repeat' (first | (with_reducible exact Below.refl _ _) | (with_reducible assumption) | (with_reducible refine Base.grow_alloc ?_ _) | (with_reducible refine Base.below_drewN ?_ _) | (with_reducible refine Below.drew ?_) | (with_reducible refine Below.setCell ?_ ?_ _) | go_size)))).mono ?_; rintro e w1 ⟨rfl, hb1⟩; obtain ⟨chb1, fhb1⟩ := Base.bcell hb1; have zhb1 := (hb1).size; (try simp at zhb1); (try have yhb1 : w.heap.size < (w1).heap.size := by omega)) | (go_at_call 75; refine (H1.out _ (hv.below (by repeat' (first | (with_reducible exact Below.refl _ _) | (with_reducible assumption) | (with_reducible refine Base.via hb1 ?_) | (with_reducible refine Base.grow_alloc ?_ _) | (with_reducible refine Base.below_drewN ?_ _) | (with_reducible refine Below.drew ?_) | (with_reducible refine Below.setCell ?_ ?_ _) | go_size)))).mono ?_; rintro e w2 ⟨rfl, hb2⟩; obtain ⟨chb2, fhb2⟩ := Base.bcell hb2; have zhb2 := (hb2).size; (try simp at zhb2); (try have yhb2 : w.heap.size < (w2).heap.size := by omega)) | (go_at_call 32; refine (H2.out _ (hv.below (by repeat' (first | (with_reducible exact Below.refl _ _) | (with_reducible assumption) | (with_reducible refine Base.via hb2 ?_) | (with_reducible refine Base.via hb1 ?_) | (with_reducible refine Base.grow_alloc ?_ _) | (with_reducible refine Base.below_drewN ?_ _) | (with_reducible refine Below.drew ?_) | (with_reducible refine Below.setCell ?_ ?_ _) | go_size)))).mono ?_; rintro e w3 ⟨rfl, hb3⟩; obtain ⟨chb3, fhb3⟩ := Base.bcell hb3; have zhb3 := (hb3).size; (try simp at zhb3); (try have yhb3 : w.heap.size < (w3).heap.size := by omega)))
        have k2 : World.cell? w3 ⟨w.heap.size, 2, none⟩ = some (.int .i64 s) := ((hb3.cell (p := ⟨w.heap.size, 2, none⟩) (by first | (simp; done) | (simp; omega) | omega)).trans ((hb2.cell (p := ⟨w.heap.size, 2, none⟩) (by first | (simp; done) | (simp; omega) | omega)).trans ((hb1.cell (p := ⟨w.heap.size, 2, none⟩) (by first | (simp; done) | (simp; omega) | omega)).trans (by simp [go_sem]))))
        have lw : w.heap.size < w3.heap.size := World.block_lt_of_cell? _ _ k2
        have hbw : Below w.heap.size w w3 := (by repeat' (first | (with_reducible exact Below.refl _ _) | (with_reducible assumption) | (with_reducible refine Base.via hb3 ?_) | (with_reducible refine Base.via hb2 ?_) | (with_reducible refine Base.via hb1 ?_) | (with_reducible refine Base.grow_alloc ?_ _) | (with_reducible refine Base.below_drewN ?_ _) | (with_reducible refine Below.drew ?_) | (with_reducible refine Below.setCell ?_ ?_ _) | go_size))
        clear chb1 fhb1 chb2 fhb2 chb3 fhb3 hb1 hb2 hb3
        go_quiet ((first | (go_at_call 43; exact Calls.quiet_of_same ((c_l02Size _ _ (by omega) (by omega)).mono fun _ _ h => ⟨h.1, h.2.symm⟩))))
        go_wp2
        go_ret2
        exact ⟨ret_bi HB.out.symm HC.out.symm, (by repeat' (first | (with_reducible exact Below.refl _ _) | (with_reducible assumption) | (with_reducible refine Base.via hbw ?_) | (with_reducible refine Base.grow_alloc ?_ _) | (with_reducible refine Base.below_drewN ?_ _) | (with_reducible refine Below.drew ?_) | (with_reducible refine Below.setCell ?_ ?_ _) | go_size))⟩
      · have h3 : srC n T M f t s 3 = 3 := by
          rcases sr_cases n T M f t s 3 with ⟨_, _, _, _, hc⟩ | ⟨_, _, _, _, hc⟩ | ⟨_, _, g, hc⟩ | ⟨_, g, hc⟩ | ⟨g, hc⟩
          · exact absurd hc h2
          · exact hc
          · omega
          · rw [hs] at g; cases g
          · rw [hok] at g; cases g
        have hc : agC n T M f t s b = 3 := by rw [agC, if_pos hBC, h3]
        have HC := Lib.hid hc
        have HB := Lib.hid (show agB n T M f t s b = false by rw [agB, hc]; rfl)
        rw [h3] at H2
        clear hc h2 h3 hV hBC hask
        go_enter Try.func39, Try.ntmps39
        go_wp2_with (first | (go_at_call 74; refine (H0.out _ (hv.below (by repeat' (first | (with_reducible exact Below.refl _ _) | (with_reducible assumption) | (with_reducible refine Base.grow_alloc ?_ _) | (with_reducible refine Base.below_drewN ?_ _) | (with_reducible refine Below.drew ?_) | (with_reducible refine Below.setCell ?_ ?_ _) | go_size)))).mono ?_; rintro e w1 ⟨rfl, hb1⟩; obtain ⟨chb1, fhb1⟩ := Base.bcell hb1; have zhb1 := (hb1).size; (try simp at zhb1); (try have yhb1 : w.heap.size < (w1).heap.size := by omega)) | (go_at_call 75; refine (H1.out _ (hv.below (by repeat' (first | (with_reducible exact Below.refl _ _) | (with_reducible assumption) | (with_reducible refine Base.via hb1 ?_) | (with_reducible refine Base.grow_alloc ?_ _) | (with_reducible refine Base.below_drewN ?_ _) | (with_reducible refine Below.drew ?_) | (with_reducible refine Below.setCell ?_ ?_ _) | go_size)))).mono ?_; rintro e w2 ⟨rfl, hb2⟩; obtain ⟨chb2, fhb2⟩ := Base.bcell hb2; have zhb2 := (hb2).size; (try simp at zhb2); (try have yhb2 : w.heap.size < (w2).heap.size := by omega)) | (go_at_call 32; refine (H2.out _ (hv.below (by repeat' (first | (with_reducible exact Below.refl _ _) | (with_reducible assumption) | (with_reducible refine Base.via hb2 ?_) | (with_reducible refine Base.via hb1 ?_) | (with_reducible refine Base.grow_alloc ?_ _) | (with_reducible refine Base.below_drewN ?_ _) | (with_reducible refine Below.drew ?_) | (with_reducible refine Below.setCell ?_ ?_ _) | go_size)))).mono ?_; rintro e w3 ⟨rfl, hb3⟩; obtain ⟨chb3, fhb3⟩ := Base.bcell hb3; have zhb3 := (hb3).size; (try simp at zhb3); (try have yhb3 : w.heap.size < (w3).heap.size := by omega)))
        go_ret2
        exact ⟨ret_bi HB.out.symm HC.out.symm, (by repeat' (first | (with_reducible exact Below.refl _ _) | (with_reducible assumption) | (with_reducible refine Base.via hb3 ?_) | (with_reducible refine Base.via hb2 ?_) | (with_reducible refine Base.via hb1 ?_) | (with_reducible refine Base.grow_alloc ?_ _) | (with_reducible refine Base.below_drewN ?_ _) | (with_reducible refine Below.drew ?_) | (with_reducible refine Below.setCell ?_ ?_ _) | go_size))⟩
  · have hBC : bestC n T M f t s b = askC n T M f t s b := by rw [bestC, if_neg hask]
    have hc : agC n T M f t s b = askC n T M f t s b := by rw [agC, hBC, if_neg hask]
    have HC := Lib.hid hc
    have HB := Lib.hid (show agB n T M f t s b = false by rw [agB, hc, if_neg hask])
    have hq : (askC n T M f t s b != 0) = true := by simpa using hask
    clear hc hBC
    go_enter Try.func39, Try.ntmps39
    go_wp2_with (first | (go_at_call 74; refine (H0.out _ (hv.below (by repeat' (first | (with_reducible exact Below.refl _ _) | (with_reducible assumption) | (with_reducible refine Base.grow_alloc ?_ _) | (with_reducible refine Base.below_drewN ?_ _) | (with_reducible refine Below.drew ?_) | (with_reducible refine Below.setCell ?_ ?_ _) | go_size)))).mono ?_; rintro e w1 ⟨rfl, hb1⟩; obtain ⟨chb1, fhb1⟩ := Base.bcell hb1; have zhb1 := (hb1).size; (try simp at zhb1); (try have yhb1 : w.heap.size < (w1).heap.size := by omega)))
    go_ret2
    exact ⟨ret_bi HB.out.symm HC.out.symm, (by repeat' (first | (with_reducible exact Below.refl _ _) | (with_reducible assumption) | (with_reducible refine Base.via hb1 ?_) | (with_reducible refine Base.grow_alloc ?_ _) | (with_reducible refine Base.below_drewN ?_ _) | (with_reducible refine Below.drew ?_) | (with_reducible refine Below.setCell ?_ ?_ _) | go_size))⟩
end Go.Proofs.Ytenjcdhehjdeoaa.Agr
