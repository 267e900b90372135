/- A finer search around the best period: the reference. -/
import Derived.Test.YtenjcdhehjdeoaaRef
import Derived.Deep.DeepCutAuto
namespace Go.Proofs.Ytenjcdhehjdeoaa.Ref
set_option linter.unusedVariables false
set_option linter.unusedSimpArgs false
set_option maxRecDepth 8000
open Go.RowKit Plain Num View Eph Curve Curve2 Per Least Amp Str
theorem c_l00MinI (a b : Int) (w : World) : Calls Try.prog 72 #[.int .i64 a, .int .i64 b] w fun e w' => e = .returned (.int .i64 (if a < b then a else b)) ∧ w' = w := by
  by_cases h : a < b
  · rw [if_pos h]; exact (c_l00Min1 a b w h).mono fun _ _ h => ⟨h.1, h.2.symm⟩
  · rw [if_neg h]; exact (c_l00Min2 a b w h).mono fun _ _ h => ⟨h.1, h.2.symm⟩
theorem c_l00MaxI (a b : Int) (w : World) : Calls Try.prog 71 #[.int .i64 a, .int .i64 b] w fun e w' => e = .returned (.int .i64 (if b < a then a else b)) ∧ w' = w := by
  by_cases h : b < a
  · rw [if_pos h]; exact (c_l00Max1 a b w h).mono fun _ _ h => ⟨h.1, h.2.symm⟩
  · rw [if_neg h]; exact (c_l00Max2 a b w h).mono fun _ _ h => ⟨h.1, h.2.symm⟩
set_option maxHeartbeats 1600000 in
theorem c_specRefineSearch (A : Option Addr) (n c : Nat) (T M : Nat → Int) (f t s p : Int) (w : World) (hv : Sl w 2 A n c (f2 T M)) :
    Calls Try.prog 36 #[.slice A n c, .agg #[.int .i64 f, .int .i64 t, .int .i64 s], .int .i64 p] w fun e w' => e = .returned (.tuple #[.agg #[.int .i64 (rsX n T M f t s p), .int .i64 (rsY n T M f t s p), .int .i64 (rsZ n T M f t s p)], .int .i64 (rsC n T M f t s p)]) ∧ Below w.heap.size w w' := by
  have HBP := Lib.hid (fun (W : World) (hW : Sl W 2 A n c (f2 T M)) => c_l10Asked A n c T M f t s W hW)
  rcases rs_cases n T M f t s p with ⟨h1, h2, h3, h4, hc⟩ | ⟨h1, h2, h3, h4, hc⟩ | ⟨h1, h2, h3, hc⟩ | ⟨h1, h2, hc⟩ | ⟨h1, hc⟩
  · obtain ⟨sb1, sb2, sb3, _⟩ := okSearch_bd h2
    obtain ⟨p1, p2⟩ := inB_iff.1 h3
    have hlt := bpI_lt (n := n) (T := T) (M := M) h2
    have hN := (perN_ok h2).1
    have HF0 := Lib.hid (fun (W : World) (hW : Sl W 2 A n c (f2 T M)) => c_l10All A n c T M f t s W hW h1 h2)
    have HB0 := Lib.hid (fun (W : World) (B : Option Addr) (cb : Nat) (hW : Sl W 1 B (perN f t s) cb (f1 (lenF n T M f s))) => by have := c_l10Best B (perN f t s) cb (lenF n T M f s) 0 (-1) allP W hW (fun k => rfl); rw [bst_bp h2] at this; exact this)
    have hV : bpV n T M f t s = f + s * (bpI n T M f t s : Int) := by rw [bpV, if_pos h4, perF, Int.mul_comm]
    have hbp : 1 ≤ bpV n T M f t s ∧ bpV n T M f t s ≤ 1000000 := by rw [bpV, if_pos h4]; exact per_bd h2 _ (bpI_lt h2)
    have eC : rsC n T M f t s p = if okSearch (rsF n T M f t s) (rsT n T M f t s) (rsS s p) = true then 0 else 6 := by rw [rsC, if_pos hc]
    have eF : rsF n T M f t s = max (bpV n T M f t s - s) 1 := rfl
    have eT : rsT n T M f t s = min (bpV n T M f t s + s) 1000000 := rfl
    have eS : rsS s p = max (s / p) 1 := rfl
    have q1 : 0 ≤ s / p := Int.ediv_nonneg (by omega) (by omega)
    have q2 : s / p ≤ s := Int.ediv_le_self _ (by omega)
    have q3 : s.tdiv p = s / p := Int.tdiv_eq_ediv_of_nonneg (by omega)
    rw [h4] at HBP
    have HC0 := Lib.hid eC
    have HXX := Lib.hid (show rsX n T M f t s p = if rsC n T M f t s p = 0 then rsF n T M f t s else 0 from rfl)
    have HYY := Lib.hid (show rsY n T M f t s p = if rsC n T M f t s p = 0 then rsT n T M f t s else 0 from rfl)
    have HZZ := Lib.hid (show rsZ n T M f t s p = if rsC n T M f t s p = 0 then rsS s p else 0 from rfl)
    have HF := Lib.hid eF
    have HT := Lib.hid eT
    have HS := Lib.hid eS
    clear eF eT eS eC hc h4
    generalize bpI n T M f t s = i at *
    have hm0 : 0 ≤ s * (i : Int) := Int.mul_nonneg (by omega) (by omega)
    generalize bpV n T M f t s = x at *
    have m1' : IntKind.i64.wrap (s * (i : Int)) = s * (i : Int) := IntWalk.i64_in _ (by omega)
    have m2' : IntKind.i64.wrap (f + s * (i : Int)) = x := by rw [IntWalk.i64_in _ (by omega)]; exact hV.symm
    have HM1 := Lib.hid m1'
    have HM2 := Lib.hid m2'
    clear m1' m2' hV
    generalize hy1 : rsF n T M f t s = y1 at *
    generalize hy2 : rsT n T M f t s = y2 at *
    generalize hy3 : rsS s p = y3 at *
    clear hy1 hy2 hy3
    have w1' : IntKind.i64.wrap (x - s) = x - s := IntWalk.i64_in _ (by omega)
    have w2' : IntKind.i64.wrap (x + s) = x + s := IntWalk.i64_in _ (by omega)
    have w3' : IntKind.i64.wrap (s / p) = s / p := IntWalk.i64_in _ (by omega)
    have w4' : IntKind.i64.wrap (s.tdiv p) = s / p := by rw [q3]; exact w3'
    have p0 : ¬ p = 0 := by omega
    go_enter Try.func36, Try.ntmps36
    go_wp2_with (first | (go_at_call 41; refine (c_l08Ok _ _ _ T M _ (hv.below (by repeat' (first | (with_reducible exact Below.refl _ _) | (with_reducible assumption) | (with_reducible refine Base.grow_alloc ?_ _) | (with_reducible refine Base.below_drewN ?_ _) | (with_reducible refine Below.drew ?_) | (with_reducible refine Below.setCell ?_ ?_ _) | go_size)))).mono ?_; rintro e w1 ⟨rfl, hb1⟩; obtain ⟨chb1, fhb1⟩ := Base.bcell hb1; have zhb1 := (hb1).size; (try simp at zhb1); (try have y0hb1 : w.heap.size < (w1).heap.size := by omega); (try have y1hb1 : w.heap.size + 1 < (w1).heap.size := by omega); (try have y2hb1 : w.heap.size + 1 + 1 < (w1).heap.size := by omega); (try have y3hb1 : w.heap.size + 1 + 1 + 1 < (w1).heap.size := by omega)) | (go_at_call 70; refine (c_l10Ok f t s _).mono ?_; rintro e w2 ⟨rfl, hb2⟩; obtain ⟨chb2, fhb2⟩ := Base.bcell hb2; have zhb2 := (hb2).size; (try simp at zhb2); (try have y0hb2 : w.heap.size < (w2).heap.size := by omega); (try have y1hb2 : w.heap.size + 1 < (w2).heap.size := by omega); (try have y2hb2 : w.heap.size + 1 + 1 < (w2).heap.size := by omega); (try have y3hb2 : w.heap.size + 1 + 1 + 1 < (w2).heap.size := by omega)) | (go_at_call 42; refine (c_l00In _ _ _ _).mono ?_; rintro e w' ⟨rfl, rfl⟩) | (go_at_call 65; refine (HBP.out _ (hv.below (by repeat' (first | (with_reducible exact Below.refl _ _) | (with_reducible assumption) | (with_reducible refine Base.via hb2 ?_) | (with_reducible refine Base.via hb1 ?_) | (with_reducible refine Base.grow_alloc ?_ _) | (with_reducible refine Base.below_drewN ?_ _) | (with_reducible refine Below.drew ?_) | (with_reducible refine Below.setCell ?_ ?_ _) | go_size)))).mono ?_; rintro e w3 ⟨rfl, hb3⟩; obtain ⟨chb3, fhb3⟩ := Base.bcell hb3; have zhb3 := (hb3).size; (try simp at zhb3); (try have y0hb3 : w.heap.size < (w3).heap.size := by omega); (try have y1hb3 : w.heap.size + 1 < (w3).heap.size := by omega); (try have y2hb3 : w.heap.size + 1 + 1 < (w3).heap.size := by omega); (try have y3hb3 : w.heap.size + 1 + 1 + 1 < (w3).heap.size := by omega)))
    have k0 : World.cell? w3 ⟨w.heap.size, 0, none⟩ = some (.int .i64 f) := ((hb3.cell (p := ⟨w.heap.size, 0, none⟩) (by first | (simp; done) | (simp; omega) | omega)).trans ((hb2.cell (p := ⟨w.heap.size, 0, none⟩) (by first | (simp; done) | (simp; omega) | omega)).trans ((hb1.cell (p := ⟨w.heap.size, 0, none⟩) (by first | (simp; done) | (simp; omega) | omega)).trans (by simp [go_sem]))))
    have k1 : World.cell? w3 ⟨w.heap.size, 1, none⟩ = some (.int .i64 t) := ((hb3.cell (p := ⟨w.heap.size, 1, none⟩) (by first | (simp; done) | (simp; omega) | omega)).trans ((hb2.cell (p := ⟨w.heap.size, 1, none⟩) (by first | (simp; done) | (simp; omega) | omega)).trans ((hb1.cell (p := ⟨w.heap.size, 1, none⟩) (by first | (simp; done) | (simp; omega) | omega)).trans (by simp [go_sem]))))
    have k2 : World.cell? w3 ⟨w.heap.size, 2, none⟩ = some (.int .i64 s) := ((hb3.cell (p := ⟨w.heap.size, 2, none⟩) (by first | (simp; done) | (simp; omega) | omega)).trans ((hb2.cell (p := ⟨w.heap.size, 2, none⟩) (by first | (simp; done) | (simp; omega) | omega)).trans ((hb1.cell (p := ⟨w.heap.size, 2, none⟩) (by first | (simp; done) | (simp; omega) | omega)).trans (by simp [go_sem]))))
    have r0 : World.cell? w3 ⟨w.heap.size + 1, 0, none⟩ = some (.int .i64 0) := ((hb3.cell (p := ⟨w.heap.size + 1, 0, none⟩) (by first | (simp; done) | (simp; omega) | omega)).trans ((hb2.cell (p := ⟨w.heap.size + 1, 0, none⟩) (by first | (simp; done) | (simp; omega) | omega)).trans ((hb1.cell (p := ⟨w.heap.size + 1, 0, none⟩) (by first | (simp; done) | (simp; omega) | omega)).trans (by simp [go_sem]))))
    have r1 : World.cell? w3 ⟨w.heap.size + 1, 1, none⟩ = some (.int .i64 0) := ((hb3.cell (p := ⟨w.heap.size + 1, 1, none⟩) (by first | (simp; done) | (simp; omega) | omega)).trans ((hb2.cell (p := ⟨w.heap.size + 1, 1, none⟩) (by first | (simp; done) | (simp; omega) | omega)).trans ((hb1.cell (p := ⟨w.heap.size + 1, 1, none⟩) (by first | (simp; done) | (simp; omega) | omega)).trans (by simp [go_sem]))))
    have r2 : World.cell? w3 ⟨w.heap.size + 1, 2, none⟩ = some (.int .i64 0) := ((hb3.cell (p := ⟨w.heap.size + 1, 2, none⟩) (by first | (simp; done) | (simp; omega) | omega)).trans ((hb2.cell (p := ⟨w.heap.size + 1, 2, none⟩) (by first | (simp; done) | (simp; omega) | omega)).trans ((hb1.cell (p := ⟨w.heap.size + 1, 2, none⟩) (by first | (simp; done) | (simp; omega) | omega)).trans (by simp [go_sem]))))
    have z0 : World.frozen? w3 ⟨w.heap.size + 1, 0, none⟩ = false := ((hb3.frozen (p := ⟨w.heap.size + 1, 0, none⟩) (by first | (simp; done) | (simp; omega) | omega)).trans ((hb2.frozen (p := ⟨w.heap.size + 1, 0, none⟩) (by first | (simp; done) | (simp; omega) | omega)).trans ((hb1.frozen (p := ⟨w.heap.size + 1, 0, none⟩) (by first | (simp; done) | (simp; omega) | omega)).trans (by simp [go_sem]))))
    have z1 : World.frozen? w3 ⟨w.heap.size + 1, 1, none⟩ = false := ((hb3.frozen (p := ⟨w.heap.size + 1, 1, none⟩) (by first | (simp; done) | (simp; omega) | omega)).trans ((hb2.frozen (p := ⟨w.heap.size + 1, 1, none⟩) (by first | (simp; done) | (simp; omega) | omega)).trans ((hb1.frozen (p := ⟨w.heap.size + 1, 1, none⟩) (by first | (simp; done) | (simp; omega) | omega)).trans (by simp [go_sem]))))
    have z2 : World.frozen? w3 ⟨w.heap.size + 1, 2, none⟩ = false := ((hb3.frozen (p := ⟨w.heap.size + 1, 2, none⟩) (by first | (simp; done) | (simp; omega) | omega)).trans ((hb2.frozen (p := ⟨w.heap.size + 1, 2, none⟩) (by first | (simp; done) | (simp; omega) | omega)).trans ((hb1.frozen (p := ⟨w.heap.size + 1, 2, none⟩) (by first | (simp; done) | (simp; omega) | omega)).trans (by simp [go_sem]))))
    have hbw : Below w.heap.size w w3 := (by repeat' (first | (with_reducible exact Below.refl _ _) | (with_reducible assumption) | (with_reducible refine Base.via hb3 ?_) | (with_reducible refine Base.via hb2 ?_) | (with_reducible refine Base.via hb1 ?_) | (with_reducible refine Base.grow_alloc ?_ _) | (with_reducible refine Base.below_drewN ?_ _) | (with_reducible refine Below.drew ?_) | (with_reducible refine Below.setCell ?_ ?_ _) | go_size))
    have lr := World.block_lt_of_cell? _ _ r0
    dsimp only at lr
    have lw : w.heap.size < w3.heap.size := by omega
    clear chb1 fhb1 chb2 fhb2 chb3 fhb3 hb1 hb2 hb3
    have hvw := hv.below hbw
    go_upto_region 8 with fail
    go_cut [9] (fun q W => q = .int .i64 x ∧ Below w3.heap.size w3 W)
    case first =>
      go_region_held3 (fun V => (V.cell? ⟨w.heap.size, 0, none⟩ = some (.int .i64 f) ∧ V.cell? ⟨w.heap.size, 1, none⟩ = some (.int .i64 t) ∧ V.cell? ⟨w.heap.size, 2, none⟩ = some (.int .i64 s)) ∧ Below w3.heap.size w3 V)
        (first | exact ⟨⟨cell_drew k0, cell_drew k1, cell_drew k2⟩, (by repeat' (first | (with_reducible exact Below.refl _ _) | (with_reducible assumption) | (with_reducible refine Base.grow_alloc ?_ _) | (with_reducible refine Base.below_drewN ?_ _) | (with_reducible refine Below.drew ?_) | (with_reducible refine Below.setCell ?_ ?_ _) | go_size))⟩ | (obtain ⟨⟨d0, d1, d2⟩, hs⟩ := ‹_ ∧ Below w3.heap.size w3 _›; exact ⟨⟨cell_call hb5 d0, cell_call hb5 d1, cell_call hb5 d2⟩, Base.via hb5 hs⟩) | (obtain ⟨⟨d0, d1, d2⟩, hs⟩ := ‹_ ∧ Below w3.heap.size w3 _›; exact ⟨⟨cell_call hb4 d0, cell_call hb4 d1, cell_call hb4 d2⟩, Base.via hb4 hs⟩))
        (first | (have hs := (‹_ ∧ Below w3.heap.size w3 _›).2; go_at_call 61; refine (HF0.out _ (hvw.below hs)).mono ?_; rintro e w4 ⟨v4, rfl, ho4, hb4⟩; obtain ⟨A4, c4, rfl, V4, B4⟩ := ho4.view) | (go_at_call 66; refine (HB0.out _ A4 c4 (V4.below (by repeat' (first | (with_reducible exact Below.refl _ _) | (with_reducible assumption) | (with_reducible refine Base.grow_alloc ?_ _) | (with_reducible refine Base.below_drewN ?_ _) | (with_reducible refine Below.drew ?_) | (with_reducible refine Below.setCell ?_ ?_ _) | go_size)))).mono ?_; rintro e w5 ⟨rfl, hb5⟩))
      all_goals
        obtain ⟨_, hE⟩ := ‹_ ∧ Below w3.heap.size w3 _›
        go_wp2_with fail
        go_meet
        case rel => exact ⟨by rw [HM1.out, HM2.out], (by repeat' (first | (with_reducible exact Below.refl _ _) | (with_reducible assumption) | (with_reducible refine Base.via hE ?_) | (with_reducible refine Base.grow_alloc ?_ _) | (with_reducible refine Base.below_drewN ?_ _) | (with_reducible refine Below.drew ?_) | (with_reducible refine Below.setCell ?_ ?_ _) | go_size))⟩
    case rest =>
      obtain ⟨rfl, hE⟩ := hcut
      obtain ⟨w4, hw4⟩ : ∃ w4 : World, w4 = wc := ⟨_, rfl⟩
      rw [← hw4] at hE ⊢
      clear hw4
      have e1 : (if x - s < 1 then 1 else x - s) = y1 := by rw [HF.out]; split <;> omega
      have e2 : (if 1000000 < x + s then 1000000 else x + s) = y2 := by rw [HT.out]; split <;> omega
      have e3 : (if s / p < 1 then 1 else s / p) = y3 := by rw [HS.out]; split <;> omega
      have HMX1 := Lib.hid (fun (W : World) => by have := c_l00MaxI 1 (x - s) W; rw [show (if x - s < 1 then 1 else x - s) = y1 from e1] at this; exact this)
      have HMN2 := Lib.hid (fun (W : World) => by have := c_l00MinI 1000000 (x + s) W; rw [show (if 1000000 < x + s then 1000000 else x + s) = y2 from e2] at this; exact this)
      have HMX3 := Lib.hid (fun (W : World) => by have := c_l00MaxI 1 (s / p) W; rw [show (if s / p < 1 then 1 else s / p) = y3 from e3] at this; exact this)
      clear e1 e2 e3
      have k2e := cell_call hE k2
      have lwe : w.heap.size < w4.heap.size := World.block_lt_of_cell? _ _ k2e
      have R0e := cell_call hE r0
      have R1e := cell_call hE r1
      have R2e := cell_call hE r2
      have z0e := fr_call hE r0 z0
      have z1e := fr_call hE r1 z1
      have z2e := fr_call hE r2 z2
      have hbwe : Below w.heap.size w w4 := Base.via hE hbw
      go_wp2_with fail
      go_region_held3 (fun W => W.cell? ⟨w.heap.size, 2, none⟩ = some (.int .i64 s) ∧ Below w4.heap.size w4 W)
        (first | exact ⟨cell_drew k2e, (by repeat' (first | (with_reducible exact Below.refl _ _) | (with_reducible assumption) | (with_reducible refine Base.grow_alloc ?_ _) | (with_reducible refine Base.below_drewN ?_ _) | (with_reducible refine Below.drew ?_) | (with_reducible refine Below.setCell ?_ ?_ _) | go_size))⟩ | assumption | exact ⟨by simp [go_sem, k2e, lwe], (by repeat' (first | (with_reducible exact Below.refl _ _) | (with_reducible assumption) | (with_reducible refine Base.grow_alloc ?_ _) | (with_reducible refine Base.below_drewN ?_ _) | (with_reducible refine Below.drew ?_) | (with_reducible refine Below.setCell ?_ ?_ _) | go_size))⟩)
        (first | (go_at_call_of 71 (Value.int .i64 (x - s)); refine (HMX1.out _).mono ?_; rintro e w' ⟨rfl, rfl⟩) | (go_at_call_of 71 (Value.int .i64 (s / p)); refine (HMX3.out _).mono ?_; rintro e w' ⟨rfl, rfl⟩) | (go_at_call 72; refine (HMN2.out _).mono ?_; rintro e w' ⟨rfl, rfl⟩))
      all_goals
        obtain ⟨wo, hwo⟩ : ∃ wo : World, wo = (w4.alloc (.cells #[.int .i64 y1, .int .i64 y2, .int .i64 y3] 48)).drew := ⟨_, rfl⟩
        have ho : Below w4.heap.size w4 wo := by rw [hwo]; exact (by repeat' (first | (with_reducible exact Below.refl _ _) | (with_reducible assumption) | (with_reducible refine Base.grow_alloc ?_ _) | (with_reducible refine Base.below_drewN ?_ _) | (with_reducible refine Below.drew ?_) | (with_reducible refine Below.setCell ?_ ?_ _) | go_size))
        have s0 : wo.cell? ⟨w4.heap.size, 0, none⟩ = some (.int .i64 y1) := by rw [hwo]; simp
        have s1 : wo.cell? ⟨w4.heap.size, 1, none⟩ = some (.int .i64 y2) := by rw [hwo]; simp
        have s2 : wo.cell? ⟨w4.heap.size, 2, none⟩ = some (.int .i64 y3) := by rw [hwo]; simp
        have R0 := cell_call ho R0e
        have R1 := cell_call ho R1e
        have R2 := cell_call ho R2e
        have Z0 := fr_call ho R0e z0e
        have Z1 := fr_call ho R1e z1e
        have Z2 := fr_call ho R2e z2e
        have hbo : Below w.heap.size w wo := (by repeat' (first | (with_reducible exact Below.refl _ _) | (with_reducible assumption) | (with_reducible refine Base.via ho ?_) | (with_reducible refine Base.via hbwe ?_) | (with_reducible refine Base.grow_alloc ?_ _) | (with_reducible refine Base.below_drewN ?_ _) | (with_reducible refine Below.drew ?_) | (with_reducible refine Below.setCell ?_ ?_ _) | go_size))
        have lo := World.block_lt_of_cell? _ _ R0
        have ls := World.block_lt_of_cell? _ _ s0
        dsimp only at lo ls
        rw [← hwo]
        clear hwo R0e R1e R2e z0e z1e z2e k2e lwe r0 r1 r2 z0 z1 z2 k0 k1 k2 lw
        cases hok : okSearch y1 y2 y3
        · have HCC := Lib.hid (show rsC n T M f t s p = 6 by rw [HC0.out, hok]; rfl)
          have HX := Lib.hid (show rsX n T M f t s p = 0 by rw [HXX.out, HCC.out]; rfl)
          have HY := Lib.hid (show rsY n T M f t s p = 0 by rw [HYY.out, HCC.out]; rfl)
          have HZ := Lib.hid (show rsZ n T M f t s p = 0 by rw [HZZ.out, HCC.out]; rfl)
          go_wp2_with (first | (go_at_call 70; refine (c_l10Ok y1 y2 y3 _).mono ?_; rintro e w7 ⟨rfl, hb7⟩; have t0 := cell_call hb7 R0; have t1 := cell_call hb7 R1; have t2 := cell_call hb7 R2; have v0 := fr_call hb7 R0 Z0; have v1 := fr_call hb7 R1 Z1; have v2 := fr_call hb7 R2 Z2; have l4 := hb7.size))
          refine bodyPost_ret (v := .tuple #[.agg #[.int .i64 0, .int .i64 0, .int .i64 0], .int .i64 6]) (by simp [results, Try.results36, go_sem, t0, t1, t2]) rfl ⟨ret_srch HX.out.symm HY.out.symm HZ.out.symm HCC.out.symm, (by repeat' (first | (with_reducible exact Below.refl _ _) | (with_reducible assumption) | (with_reducible refine Base.via hb7 ?_) | (with_reducible refine Base.via hbo ?_) | (with_reducible refine Base.grow_alloc ?_ _) | (with_reducible refine Base.below_drewN ?_ _) | (with_reducible refine Below.drew ?_) | (with_reducible refine Below.setCell ?_ ?_ _) | go_size))⟩
        · have HCC := Lib.hid (show rsC n T M f t s p = 0 by rw [HC0.out, hok]; rfl)
          have HX := Lib.hid (show rsX n T M f t s p = y1 by rw [HXX.out, if_pos HCC.out])
          have HY := Lib.hid (show rsY n T M f t s p = y2 by rw [HYY.out, if_pos HCC.out])
          have HZ := Lib.hid (show rsZ n T M f t s p = y3 by rw [HZZ.out, if_pos HCC.out])
          go_wp2_with (first | (go_at_call 70; refine (c_l10Ok y1 y2 y3 _).mono ?_; rintro e w7 ⟨rfl, hb7⟩; have t0 := cell_call hb7 R0; have t1 := cell_call hb7 R1; have t2 := cell_call hb7 R2; have v0 := fr_call hb7 R0 Z0; have v1 := fr_call hb7 R1 Z1; have v2 := fr_call hb7 R2 Z2; have x0 := cell_call hb7 s0; have x1 := cell_call hb7 s1; have x2 := cell_call hb7 s2; have l4 := hb7.size))
          refine bodyPost_ret (v := .tuple #[.agg #[.int .i64 y1, .int .i64 y2, .int .i64 y3], .int .i64 0]) (by simp [results, Try.results36, go_sem, t0, t1, t2]) rfl ⟨ret_srch HX.out.symm HY.out.symm HZ.out.symm HCC.out.symm, (by repeat' (first | (with_reducible exact Below.refl _ _) | (with_reducible assumption) | (with_reducible refine Base.via hb7 ?_) | (with_reducible refine Base.via hbo ?_) | (with_reducible refine Base.grow_alloc ?_ _) | (with_reducible refine Base.below_drewN ?_ _) | (with_reducible refine Below.drew ?_) | (with_reducible refine Below.setCell ?_ ?_ _) | go_size))⟩
  · obtain ⟨eC, eX, eY, eZ⟩ := rs_no (n := n) (T := T) (M := M) (f := f) (t := t) (s := s) (p := p) (by rw [hc]; exact h4)
    have HC := Lib.hid (eC.trans hc)
    have HX := Lib.hid eX
    have HY := Lib.hid eY
    have HZ := Lib.hid eZ
    have hq : (srC n T M f t s 3 != 0) = true := by simpa using h4
    clear eC eX eY eZ hc
    go_enter Try.func36, Try.ntmps36
    go_wp2_with (first | (go_at_call 41; refine (c_l08Ok _ _ _ T M _ (hv.below (by repeat' (first | (with_reducible exact Below.refl _ _) | (with_reducible assumption) | (with_reducible refine Base.grow_alloc ?_ _) | (with_reducible refine Base.below_drewN ?_ _) | (with_reducible refine Below.drew ?_) | (with_reducible refine Below.setCell ?_ ?_ _) | go_size)))).mono ?_; rintro e w1 ⟨rfl, hb1⟩; obtain ⟨chb1, fhb1⟩ := Base.bcell hb1; have zhb1 := (hb1).size; (try simp at zhb1); (try have y0hb1 : w.heap.size < (w1).heap.size := by omega); (try have y1hb1 : w.heap.size + 1 < (w1).heap.size := by omega); (try have y2hb1 : w.heap.size + 1 + 1 < (w1).heap.size := by omega); (try have y3hb1 : w.heap.size + 1 + 1 + 1 < (w1).heap.size := by omega)) | (go_at_call 70; refine (c_l10Ok f t s _).mono ?_; rintro e w2 ⟨rfl, hb2⟩; obtain ⟨chb2, fhb2⟩ := Base.bcell hb2; have zhb2 := (hb2).size; (try simp at zhb2); (try have y0hb2 : w.heap.size < (w2).heap.size := by omega); (try have y1hb2 : w.heap.size + 1 < (w2).heap.size := by omega); (try have y2hb2 : w.heap.size + 1 + 1 < (w2).heap.size := by omega); (try have y3hb2 : w.heap.size + 1 + 1 + 1 < (w2).heap.size := by omega)) | (go_at_call 42; refine (c_l00In _ _ _ _).mono ?_; rintro e w' ⟨rfl, rfl⟩) | (go_at_call 65; refine (HBP.out _ (hv.below (by repeat' (first | (with_reducible exact Below.refl _ _) | (with_reducible assumption) | (with_reducible refine Base.via hb2 ?_) | (with_reducible refine Base.via hb1 ?_) | (with_reducible refine Base.grow_alloc ?_ _) | (with_reducible refine Base.below_drewN ?_ _) | (with_reducible refine Below.drew ?_) | (with_reducible refine Below.setCell ?_ ?_ _) | go_size)))).mono ?_; rintro e w3 ⟨rfl, hb3⟩; obtain ⟨chb3, fhb3⟩ := Base.bcell hb3; have zhb3 := (hb3).size; (try simp at zhb3); (try have y0hb3 : w.heap.size < (w3).heap.size := by omega); (try have y1hb3 : w.heap.size + 1 < (w3).heap.size := by omega); (try have y2hb3 : w.heap.size + 1 + 1 < (w3).heap.size := by omega); (try have y3hb3 : w.heap.size + 1 + 1 + 1 < (w3).heap.size := by omega)))
    refine bodyPost_ret (v := .tuple #[.agg #[.int .i64 0, .int .i64 0, .int .i64 0], .int .i64 _]) (by simp [results, Try.results36, go_sem, chb1, chb2, chb3, y0hb1, y1hb1, y0hb2, y1hb2, y0hb3, y1hb3]; done) rfl ⟨ret_srch HX.out.symm HY.out.symm HZ.out.symm HC.out.symm, (by repeat' (first | (with_reducible exact Below.refl _ _) | (with_reducible assumption) | (with_reducible refine Base.via hb3 ?_) | (with_reducible refine Base.via hb2 ?_) | (with_reducible refine Base.via hb1 ?_) | (with_reducible refine Base.grow_alloc ?_ _) | (with_reducible refine Base.below_drewN ?_ _) | (with_reducible refine Below.drew ?_) | (with_reducible refine Below.setCell ?_ ?_ _) | go_size))⟩
  all_goals
    obtain ⟨eC, eX, eY, eZ⟩ := rs_no (n := n) (T := T) (M := M) (f := f) (t := t) (s := s) (p := p) (by rw [hc]; decide)
    have HC := Lib.hid (eC.trans hc)
    have HX := Lib.hid eX
    have HY := Lib.hid eY
    have HZ := Lib.hid eZ
    clear eC eX eY eZ hc
    go_enter Try.func36, Try.ntmps36
    go_wp2_with (first | (go_at_call 41; refine (c_l08Ok _ _ _ T M _ (hv.below (by repeat' (first | (with_reducible exact Below.refl _ _) | (with_reducible assumption) | (with_reducible refine Base.grow_alloc ?_ _) | (with_reducible refine Base.below_drewN ?_ _) | (with_reducible refine Below.drew ?_) | (with_reducible refine Below.setCell ?_ ?_ _) | go_size)))).mono ?_; rintro e w1 ⟨rfl, hb1⟩; obtain ⟨chb1, fhb1⟩ := Base.bcell hb1; have zhb1 := (hb1).size; (try simp at zhb1); (try have y0hb1 : w.heap.size < (w1).heap.size := by omega); (try have y1hb1 : w.heap.size + 1 < (w1).heap.size := by omega); (try have y2hb1 : w.heap.size + 1 + 1 < (w1).heap.size := by omega); (try have y3hb1 : w.heap.size + 1 + 1 + 1 < (w1).heap.size := by omega)) | (go_at_call 70; refine (c_l10Ok f t s _).mono ?_; rintro e w2 ⟨rfl, hb2⟩; obtain ⟨chb2, fhb2⟩ := Base.bcell hb2; have zhb2 := (hb2).size; (try simp at zhb2); (try have y0hb2 : w.heap.size < (w2).heap.size := by omega); (try have y1hb2 : w.heap.size + 1 < (w2).heap.size := by omega); (try have y2hb2 : w.heap.size + 1 + 1 < (w2).heap.size := by omega); (try have y3hb2 : w.heap.size + 1 + 1 + 1 < (w2).heap.size := by omega)) | (go_at_call 42; refine (c_l00In _ _ _ _).mono ?_; rintro e w' ⟨rfl, rfl⟩))
    refine bodyPost_ret (v := .tuple #[.agg #[.int .i64 0, .int .i64 0, .int .i64 0], .int .i64 _]) (by first | (simp [results, Try.results36, go_sem, chb1, y0hb1, y1hb1]; done) | (simp [results, Try.results36, go_sem, chb1, chb2, y0hb1, y1hb1, y0hb2, y1hb2]; done)) rfl ⟨ret_srch HX.out.symm HY.out.symm HZ.out.symm HC.out.symm, (by repeat' (first | (with_reducible exact Below.refl _ _) | (with_reducible assumption) | (with_reducible refine Base.via hb2 ?_) | (with_reducible refine Base.via hb1 ?_) | (with_reducible refine Base.grow_alloc ?_ _) | (with_reducible refine Base.below_drewN ?_ _) | (with_reducible refine Below.drew ?_) | (with_reducible refine Below.setCell ?_ ?_ _) | go_size))⟩
end Go.Proofs.Ytenjcdhehjdeoaa.Ref
