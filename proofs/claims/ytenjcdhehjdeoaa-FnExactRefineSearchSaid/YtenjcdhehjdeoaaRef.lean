/- A finer search around the best period: both sides. -/
import Derived.Test.YtenjcdhehjdeoaaStr4
import Derived.Deep.RegionHeld3
namespace Go.Proofs.Ytenjcdhehjdeoaa.Ref
set_option linter.unusedVariables false
set_option linter.unusedSimpArgs false
set_option maxRecDepth 8000
open Go.RowKit Plain Num View Eph Curve Curve2 Per Least Amp Str

/-- the code ahead of the finer search -/
def rs0 (n : Nat) (T M : Nat → Int) (f t s p : Int) : Int := if (okCurve n T M && okSearch f t s) = true then (if inB p 2 20 = true then srC n T M f t s 3 else 2) else 1
noncomputable def rsF (n : Nat) (T M : Nat → Int) (f t s : Int) : Int := max (bpV n T M f t s - s) 1
noncomputable def rsT (n : Nat) (T M : Nat → Int) (f t s : Int) : Int := min (bpV n T M f t s + s) 1000000
def rsS (s p : Int) : Int := max (s / p) 1
noncomputable def rsC (n : Nat) (T M : Nat → Int) (f t s p : Int) : Int := if rs0 n T M f t s p = 0 then (if okSearch (rsF n T M f t s) (rsT n T M f t s) (rsS s p) = true then 0 else 6) else rs0 n T M f t s p
noncomputable def rsX (n : Nat) (T M : Nat → Int) (f t s p : Int) : Int := if rsC n T M f t s p = 0 then rsF n T M f t s else 0
noncomputable def rsY (n : Nat) (T M : Nat → Int) (f t s p : Int) : Int := if rsC n T M f t s p = 0 then rsT n T M f t s else 0
noncomputable def rsZ (n : Nat) (T M : Nat → Int) (f t s p : Int) : Int := if rsC n T M f t s p = 0 then rsS s p else 0
theorem rs_cases (n : Nat) (T M : Nat → Int) (f t s p : Int) : (okCurve n T M = true ∧ okSearch f t s = true ∧ inB p 2 20 = true ∧ srC n T M f t s 3 = 0 ∧ rs0 n T M f t s p = 0) ∨ (okCurve n T M = true ∧ okSearch f t s = true ∧ inB p 2 20 = true ∧ srC n T M f t s 3 ≠ 0 ∧ rs0 n T M f t s p = srC n T M f t s 3) ∨ (okCurve n T M = true ∧ okSearch f t s = true ∧ inB p 2 20 = false ∧ rs0 n T M f t s p = 2) ∨ (okCurve n T M = true ∧ okSearch f t s = false ∧ rs0 n T M f t s p = 1) ∨ (okCurve n T M = false ∧ rs0 n T M f t s p = 1) := by
  unfold rs0
  cases h1 : okCurve n T M <;> cases h2 : okSearch f t s <;> cases h3 : inB p 2 20 <;> simp
  by_cases h : srC n T M f t s 3 = 0
  · exact .inl h
  · exact .inr h
theorem rs_no {n : Nat} {T M : Nat → Int} {f t s p : Int} (h : rs0 n T M f t s p ≠ 0) : rsC n T M f t s p = rs0 n T M f t s p ∧ rsX n T M f t s p = 0 ∧ rsY n T M f t s p = 0 ∧ rsZ n T M f t s p = 0 := by
  have e : rsC n T M f t s p = rs0 n T M f t s p := by rw [rsC, if_neg h]
  have h' : rsC n T M f t s p ≠ 0 := by rw [e]; exact h
  exact ⟨e, by rw [rsX, if_neg h'], by rw [rsY, if_neg h'], by rw [rsZ, if_neg h']⟩
theorem ret_srch {a b c d a' b' c' d' : Int} (h0 : a = a') (h1 : b = b') (h2 : c = c') (h3 : d = d') : Ending.returned (.tuple #[.agg #[.int .i64 a, .int .i64 b, .int .i64 c], .int .i64 d]) = Ending.returned (.tuple #[.agg #[.int .i64 a', .int .i64 b', .int .i64 c'], .int .i64 d']) := by rw [h0, h1, h2, h3]
set_option maxHeartbeats 1600000 in
theorem c_RefineSearch (A : Option Addr) (n c : Nat) (T M : Nat → Int) (f t s p : Int) (w : World) (hv : Sl w 2 A n c (f2 T M)) :
    Calls Try.prog 37 #[.slice A n c, .agg #[.int .i64 f, .int .i64 t, .int .i64 s], .int .i64 p] w fun e w' => e = .returned (.tuple #[.agg #[.int .i64 (rsX n T M f t s p), .int .i64 (rsY n T M f t s p), .int .i64 (rsZ n T M f t s p)], .int .i64 (rsC n T M f t s p)]) ∧ Below w.heap.size w w' := by
  have HBP := Lib.hid (fun (W : World) (hW : Sl W 2 A n c (f2 T M)) => c_BestPeriod A n c T M f t s W hW)
  rcases rs_cases n T M f t s p with ⟨h1, h2, h3, h4, hc⟩ | ⟨h1, h2, h3, h4, hc⟩ | ⟨h1, h2, h3, hc⟩ | ⟨h1, h2, hc⟩ | ⟨h1, hc⟩
  · obtain ⟨sb1, sb2, sb3, _⟩ := okSearch_bd h2
    obtain ⟨p1, p2⟩ := inB_iff.1 h3
    have hbp : 1 ≤ bpV n T M f t s ∧ bpV n T M f t s ≤ 1000000 := by rw [bpV, if_pos h4]; exact per_bd h2 _ (bpI_lt h2)
    have eC : rsC n T M f t s p = if okSearch (rsF n T M f t s) (rsT n T M f t s) (rsS s p) = true then 0 else 6 := by rw [rsC, if_pos hc]
    have eF : rsF n T M f t s = max (bpV n T M f t s - s) 1 := rfl
    have eT : rsT n T M f t s = min (bpV n T M f t s + s) 1000000 := rfl
    have eS : rsS s p = max (s / p) 1 := rfl
    have q1 : 0 ≤ s / p := Int.ediv_nonneg (by omega) (by omega)
    have q2 : s / p ≤ s := Int.ediv_le_self _ (by omega)
    have q3 : s.tdiv p = s / p := Int.tdiv_eq_ediv_of_nonneg (by omega)
    rw [h4] at HBP
    have HC0 := Lib.hid eC
    have HXX := Lib.hid (show rsX n T M f t s p = if rsC n T M f t s p = 0 then rsF n T M f t s else 0 from rfl)
    have HYY := Lib.hid (show rsY n T M f t s p = if rsC n T M f t s p = 0 then rsT n T M f t s else 0 from rfl)
    have HZZ := Lib.hid (show rsZ n T M f t s p = if rsC n T M f t s p = 0 then rsS s p else 0 from rfl)
    have HF := Lib.hid eF
    have HT := Lib.hid eT
    have HS := Lib.hid eS
    clear eF eT eS eC hc h4
    generalize bpV n T M f t s = x at *
    generalize hy1 : rsF n T M f t s = y1 at *
    generalize hy2 : rsT n T M f t s = y2 at *
    generalize hy3 : rsS s p = y3 at *
    clear hy1 hy2 hy3
    have w1' : IntKind.i64.wrap (x - s) = x - s := IntWalk.i64_in _ (by omega)
    have w2' : IntKind.i64.wrap (x + s) = x + s := IntWalk.i64_in _ (by omega)
    have w3' : IntKind.i64.wrap (s / p) = s / p := IntWalk.i64_in _ (by omega)
    have w4' : IntKind.i64.wrap (s.tdiv p) = s / p := by rw [q3]; exact w3'
    have p0 : ¬ p = 0 := by omega
    go_enter Try.func37, Try.ntmps37
    go_wp2_with (first | (go_at_call 46; refine (c_ValidCurve _ _ _ T M _ (hv.below (by repeat' (first | (with_reducible exact Below.refl _ _) | (with_reducible assumption) | (with_reducible refine Base.grow_alloc ?_ _) | (with_reducible refine Base.below_drewN ?_ _) | (with_reducible refine Below.drew ?_) | (with_reducible refine Below.setCell ?_ ?_ _) | go_size)))).mono ?_; rintro e w1 ⟨rfl, hb1⟩; obtain ⟨chb1, fhb1⟩ := Base.bcell hb1; have zhb1 := (hb1).size; (try simp at zhb1); (try have y0hb1 : w.heap.size < (w1).heap.size := by omega); (try have y1hb1 : w.heap.size + 1 < (w1).heap.size := by omega); (try have y2hb1 : w.heap.size + 1 + 1 < (w1).heap.size := by omega); (try have y3hb1 : w.heap.size + 1 + 1 + 1 < (w1).heap.size := by omega)) | (go_at_call 73; refine (c_ValidSearch f t s _).mono ?_; rintro e w2 ⟨rfl, hb2⟩; obtain ⟨chb2, fhb2⟩ := Base.bcell hb2; have zhb2 := (hb2).size; (try simp at zhb2); (try have y0hb2 : w.heap.size < (w2).heap.size := by omega); (try have y1hb2 : w.heap.size + 1 < (w2).heap.size := by omega); (try have y2hb2 : w.heap.size + 1 + 1 < (w2).heap.size := by omega); (try have y3hb2 : w.heap.size + 1 + 1 + 1 < (w2).heap.size := by omega)) | (go_at_call 47; refine (c_in _ _ _ _).mono ?_; rintro e w' ⟨rfl, rfl⟩) | (go_at_call 33; refine (HBP.out _ (hv.below (by repeat' (first | (with_reducible exact Below.refl _ _) | (with_reducible assumption) | (with_reducible refine Base.via hb2 ?_) | (with_reducible refine Base.via hb1 ?_) | (with_reducible refine Base.grow_alloc ?_ _) | (with_reducible refine Base.below_drewN ?_ _) | (with_reducible refine Below.drew ?_) | (with_reducible refine Below.setCell ?_ ?_ _) | go_size)))).mono ?_; rintro e w3 ⟨rfl, hb3⟩; obtain ⟨chb3, fhb3⟩ := Base.bcell hb3; have zhb3 := (hb3).size; (try simp at zhb3); (try have y0hb3 : w.heap.size < (w3).heap.size := by omega); (try have y1hb3 : w.heap.size + 1 < (w3).heap.size := by omega); (try have y2hb3 : w.heap.size + 1 + 1 < (w3).heap.size := by omega); (try have y3hb3 : w.heap.size + 1 + 1 + 1 < (w3).heap.size := by omega)))
    have k2 : World.cell? w3 ⟨w.heap.size, 2, none⟩ = some (.int .i64 s) := ((hb3.cell (p := ⟨w.heap.size, 2, none⟩) (by first | (simp; done) | (simp; omega) | omega)).trans ((hb2.cell (p := ⟨w.heap.size, 2, none⟩) (by first | (simp; done) | (simp; omega) | omega)).trans ((hb1.cell (p := ⟨w.heap.size, 2, none⟩) (by first | (simp; done) | (simp; omega) | omega)).trans (by simp [go_sem]))))
    have r0 : World.cell? w3 ⟨w.heap.size + 1, 0, none⟩ = some (.int .i64 0) := ((hb3.cell (p := ⟨w.heap.size + 1, 0, none⟩) (by first | (simp; done) | (simp; omega) | omega)).trans ((hb2.cell (p := ⟨w.heap.size + 1, 0, none⟩) (by first | (simp; done) | (simp; omega) | omega)).trans ((hb1.cell (p := ⟨w.heap.size + 1, 0, none⟩) (by first | (simp; done) | (simp; omega) | omega)).trans (by simp [go_sem]))))
    have r1 : World.cell? w3 ⟨w.heap.size + 1, 1, none⟩ = some (.int .i64 0) := ((hb3.cell (p := ⟨w.heap.size + 1, 1, none⟩) (by first | (simp; done) | (simp; omega) | omega)).trans ((hb2.cell (p := ⟨w.heap.size + 1, 1, none⟩) (by first | (simp; done) | (simp; omega) | omega)).trans ((hb1.cell (p := ⟨w.heap.size + 1, 1, none⟩) (by first | (simp; done) | (simp; omega) | omega)).trans (by simp [go_sem]))))
    have r2 : World.cell? w3 ⟨w.heap.size + 1, 2, none⟩ = some (.int .i64 0) := ((hb3.cell (p := ⟨w.heap.size + 1, 2, none⟩) (by first | (simp; done) | (simp; omega) | omega)).trans ((hb2.cell (p := ⟨w.heap.size + 1, 2, none⟩) (by first | (simp; done) | (simp; omega) | omega)).trans ((hb1.cell (p := ⟨w.heap.size + 1, 2, none⟩) (by first | (simp; done) | (simp; omega) | omega)).trans (by simp [go_sem]))))
    have z0 : World.frozen? w3 ⟨w.heap.size + 1, 0, none⟩ = false := ((hb3.frozen (p := ⟨w.heap.size + 1, 0, none⟩) (by first | (simp; done) | (simp; omega) | omega)).trans ((hb2.frozen (p := ⟨w.heap.size + 1, 0, none⟩) (by first | (simp; done) | (simp; omega) | omega)).trans ((hb1.frozen (p := ⟨w.heap.size + 1, 0, none⟩) (by first | (simp; done) | (simp; omega) | omega)).trans (by simp [go_sem]))))
    have z1 : World.frozen? w3 ⟨w.heap.size + 1, 1, none⟩ = false := ((hb3.frozen (p := ⟨w.heap.size + 1, 1, none⟩) (by first | (simp; done) | (simp; omega) | omega)).trans ((hb2.frozen (p := ⟨w.heap.size + 1, 1, none⟩) (by first | (simp; done) | (simp; omega) | omega)).trans ((hb1.frozen (p := ⟨w.heap.size + 1, 1, none⟩) (by first | (simp; done) | (simp; omega) | omega)).trans (by simp [go_sem]))))
    have z2 : World.frozen? w3 ⟨w.heap.size + 1, 2, none⟩ = false := ((hb3.frozen (p := ⟨w.heap.size + 1, 2, none⟩) (by first | (simp; done) | (simp; omega) | omega)).trans ((hb2.frozen (p := ⟨w.heap.size + 1, 2, none⟩) (by first | (simp; done) | (simp; omega) | omega)).trans ((hb1.frozen (p := ⟨w.heap.size + 1, 2, none⟩) (by first | (simp; done) | (simp; omega) | omega)).trans (by simp [go_sem]))))
    have hbw : Below w.heap.size w w3 := (by repeat' (first | (with_reducible exact Below.refl _ _) | (with_reducible assumption) | (with_reducible refine Base.via hb3 ?_) | (with_reducible refine Base.via hb2 ?_) | (with_reducible refine Base.via hb1 ?_) | (with_reducible refine Base.grow_alloc ?_ _) | (with_reducible refine Base.below_drewN ?_ _) | (with_reducible refine Below.drew ?_) | (with_reducible refine Below.setCell ?_ ?_ _) | go_size))
    have lr := World.block_lt_of_cell? _ _ r0
    dsimp only at lr
    have lw : w.heap.size < w3.heap.size := by omega
    clear chb1 fhb1 chb2 fhb2 chb3 fhb3 hb1 hb2 hb3
    have e1 : (if x - s < 1 then 1 else x - s) = y1 := by rw [HF.out]; split <;> omega
    have e2 : (if 1000000 < x + s then 1000000 else x + s) = y2 := by rw [HT.out]; split <;> omega
    have e3 : (if s / p < 1 then 1 else s / p) = y3 := by rw [HS.out]; split <;> omega
    have HE1 := Lib.hid e1
    have HE2 := Lib.hid e2
    have HE3 := Lib.hid e3
    clear e1 e2 e3
    refine wp_region_held_drew (S := (fun W => W.cell? ⟨w.heap.size, 2, none⟩ = some (.int .i64 s) ∧ Below w3.heap.size w3 W)) (by kernel_rfl) (by (try dsimp only); (first | exact ⟨cell_drew k2, (by repeat' (first | (with_reducible exact Below.refl _ _) | (with_reducible assumption) | (with_reducible refine Base.grow_alloc ?_ _) | (with_reducible refine Base.below_drewN ?_ _) | (with_reducible refine Below.drew ?_) | (with_reducible refine Below.setCell ?_ ?_ _) | go_size))⟩ | exact ⟨by simp [go_sem, k2, lw], (by repeat' (first | (with_reducible exact Below.refl _ _) | (with_reducible assumption) | (with_reducible refine Base.grow_alloc ?_ _) | (with_reducible refine Base.below_drewN ?_ _) | (with_reducible refine Below.drew ?_) | (with_reducible refine Below.setCell ?_ ?_ _) | go_size))⟩)) (fun hHeld => ?_)
    refine wpAnyH_take (i := 0) (oi := ⟨some 36, _, _, _, _, _⟩) (v := ?_) rfl (by kernel_rfl) (by kernel_rfl) (by kernel_rfl) (fun _ _ _ h => h) (Or.inl ⟨by rfl, ?_⟩) (by assumption) ?_
    rotate_left
    · (intro w' hSw; (try dsimp only at hSw); go_simp; try with_reducible rfl)
    try simp only [Act.put, List.setIfInBounds_toArray, List.set_cons_zero, List.set_cons_succ]
    refine wpAnyH_take (i := 1) (oi := ⟨some 37, _, _, _, _, _⟩) (v := ?_) rfl (by kernel_rfl) (by kernel_rfl) (by kernel_rfl) (fun _ _ _ h => h) (Or.inl ⟨by rfl, ?_⟩) (by assumption) ?_
    rotate_left
    · (intro w' hSw; (try dsimp only at hSw); go_simp; try with_reducible rfl)
    try simp only [Act.put, List.setIfInBounds_toArray, List.set_cons_zero, List.set_cons_succ]
    refine wpAnyH_take (i := 2) (oi := ⟨some 38, _, _, _, _, _⟩) (v := ?_) rfl (by kernel_rfl) (by kernel_rfl) (by kernel_rfl) (fun _ _ _ h => h) (Or.inl ⟨by rfl, ?_⟩) (by assumption) ?_
    rotate_left
    · (intro w' hSw; (try dsimp only at hSw); go_simp; try with_reducible rfl)
    try simp only [Act.put, List.setIfInBounds_toArray, List.set_cons_zero, List.set_cons_succ]
    refine wpAnyH_take (i := 3) (oi := ⟨some 39, _, _, _, _, _⟩) (v := ?_) rfl (by kernel_rfl) (by kernel_rfl) (by kernel_rfl) (fun _ _ _ h => h) (Or.inl ⟨by rfl, ?_⟩) (by assumption) ?_
    rotate_left
    · (intro w' hSw; (try dsimp only at hSw); go_simp; try with_reducible rfl)
    try simp only [Act.put, List.setIfInBounds_toArray, List.set_cons_zero, List.set_cons_succ]
    refine wpAnyH_take (i := 4) (oi := ⟨some 40, _, _, _, _, _⟩) (v := ?_) rfl (by kernel_rfl) (by kernel_rfl) (by kernel_rfl) (fun _ _ _ h => h) (Or.inl ⟨by rfl, ?_⟩) (by assumption) ?_
    rotate_left
    · (intro w' hSw; (try dsimp only at hSw); go_simp; try with_reducible rfl)
    try simp only [Act.put, List.setIfInBounds_toArray, List.set_cons_zero, List.set_cons_succ]
    refine wpAnyH_take (i := 5) (oi := ⟨some 41, _, _, _, _, _⟩) (v := ?_) rfl (by kernel_rfl) (by kernel_rfl) (by kernel_rfl) (fun _ _ _ h => h) (Or.inl ⟨by rfl, ?_⟩) (by assumption) ?_
    rotate_left
    · (intro w' hSw; (try dsimp only at hSw); go_simp; try with_reducible rfl)
    try simp only [Act.put, List.setIfInBounds_toArray, List.set_cons_zero, List.set_cons_succ]
    refine wpAnyH_take (i := 6) (oi := ⟨some 42, _, _, _, _, _⟩) (v := ?_) rfl (by kernel_rfl) (by kernel_rfl) (by kernel_rfl) (fun _ _ _ h => h) (Or.inl ⟨by rfl, ?_⟩) (by assumption) ?_
    rotate_left
    · (intro w' hSw; (try dsimp only at hSw); go_simp; try with_reducible rfl)
    try simp only [Act.put, List.setIfInBounds_toArray, List.set_cons_zero, List.set_cons_succ]
    refine wpAnyH_take (i := 7) (oi := ⟨some 43, _, _, _, _, _⟩) (v := ?_) rfl (by kernel_rfl) (by kernel_rfl) (by kernel_rfl) (fun _ _ _ h => h) (Or.inl ⟨by rfl, ?_⟩) (by assumption) ?_
    rotate_left
    · (intro w' hSw; (try dsimp only at hSw); go_simp; try with_reducible rfl)
    try simp only [Act.put, List.setIfInBounds_toArray, List.set_cons_zero, List.set_cons_succ]
    refine wpAnyH_take (i := 8) (oi := ⟨some 44, _, _, _, _, _⟩) (v := ?_) rfl (by kernel_rfl) (by kernel_rfl) (by kernel_rfl) (fun _ _ _ h => h) (Or.inl ⟨by rfl, ?_⟩) (by assumption) ?_
    rotate_left
    · (intro w' hSw; (try dsimp only at hSw); go_simp; try with_reducible rfl)
    try simp only [Act.put, List.setIfInBounds_toArray, List.set_cons_zero, List.set_cons_succ]
    refine wpAnyH_take (i := 9) (oi := ⟨some 45, _, _, _, _, _⟩) (v := ?_) rfl (by kernel_rfl) (by kernel_rfl) (by kernel_rfl) (fun _ _ _ h => h) (Or.inl ⟨by rfl, ?_⟩) (by assumption) ?_
    rotate_left
    · (intro w' hSw; (try dsimp only at hSw); go_simp; try with_reducible rfl)
    try simp only [Act.put, List.setIfInBounds_toArray, List.set_cons_zero, List.set_cons_succ]
    refine wpAnyH_take (i := 10) (oi := ⟨some 46, _, _, _, _, _⟩) (v := ?_) rfl (by kernel_rfl) (by kernel_rfl) (by kernel_rfl) (fun _ _ _ h => h) (Or.inl ⟨by rfl, ?_⟩) (by assumption) ?_
    rotate_left
    · (intro w' hSw; (try dsimp only at hSw); go_simp; try with_reducible rfl)
    try simp only [Act.put, List.setIfInBounds_toArray, List.set_cons_zero, List.set_cons_succ]
    refine wpAnyH_take (i := 11) (oi := ⟨some 47, _, _, _, _, _⟩) (v := ?_) rfl (by kernel_rfl) (by kernel_rfl) (by kernel_rfl) (fun _ _ _ h => h) (Or.inl ⟨by rfl, ?_⟩) (by assumption) ?_
    rotate_left
    · (intro w' hSw; (try dsimp only at hSw); go_simp; try with_reducible rfl)
    try simp only [Act.put, List.setIfInBounds_toArray, List.set_cons_zero, List.set_cons_succ]
    refine wpAnyH_take (i := 12) (oi := ⟨some 48, _, _, _, _, _⟩) (v := ?_) rfl (by kernel_rfl) (by kernel_rfl) (by kernel_rfl) (fun _ _ _ h => h) (Or.inl ⟨by rfl, ?_⟩) (by assumption) ?_
    rotate_left
    · (intro w' hSw; (try dsimp only at hSw); go_simp; try with_reducible rfl)
    try simp only [Act.put, List.setIfInBounds_toArray, List.set_cons_zero, List.set_cons_succ]
    refine wpAnyH_take (i := 13) (oi := ⟨some 49, _, _, _, _, _⟩) (v := ?_) rfl (by kernel_rfl) (by kernel_rfl) (by kernel_rfl) (fun _ _ _ h => h) (Or.inl ⟨by rfl, ?_⟩) (by assumption) ?_
    rotate_left
    · (intro w' hSw; (try dsimp only at hSw); go_simp; try with_reducible rfl)
    try simp only [Act.put, List.setIfInBounds_toArray, List.set_cons_zero, List.set_cons_succ]
    refine wpAnyH_take (i := 14) (oi := ⟨some 50, _, _, _, _, _⟩) (v := ?_) rfl (by kernel_rfl) (by kernel_rfl) (by kernel_rfl) (fun _ _ _ h => h) (Or.inl ⟨by rfl, ?_⟩) (by assumption) ?_
    rotate_left
    · (intro w' hSw; (try dsimp only at hSw); go_simp; try with_reducible rfl)
    try simp only [Act.put, List.setIfInBounds_toArray, List.set_cons_zero, List.set_cons_succ]
    refine wpAnyH_take (i := 15) (oi := ⟨some 51, _, _, _, _, _⟩) (v := ?_) rfl (by kernel_rfl) (by kernel_rfl) (by kernel_rfl) (fun _ _ _ h => h) (Or.inl ⟨by rfl, ?_⟩) (by assumption) ?_
    rotate_left
    · (intro w' hSw; (try dsimp only at hSw); go_simp; try with_reducible rfl)
    try simp only [Act.put, List.setIfInBounds_toArray, List.set_cons_zero, List.set_cons_succ]
    refine wpAnyH_ready (rs := [16]) (by kernel_rfl) (by simp) ?_
    refine AllReadyH.cons (o := ⟨some 10, _, _, _, _, _⟩) rfl (fun K hK => ?_) AllReadyH.nil
    go_simp
    skip
    refine hK.out _ _ (by (try dsimp only); (first | exact ⟨cell_drew k2, (by repeat' (first | (with_reducible exact Below.refl _ _) | (with_reducible assumption) | (with_reducible refine Base.grow_alloc ?_ _) | (with_reducible refine Base.below_drewN ?_ _) | (with_reducible refine Below.drew ?_) | (with_reducible refine Below.setCell ?_ ?_ _) | go_size))⟩ | exact ⟨by simp [go_sem, k2, lw], (by repeat' (first | (with_reducible exact Below.refl _ _) | (with_reducible assumption) | (with_reducible refine Base.grow_alloc ?_ _) | (with_reducible refine Base.below_drewN ?_ _) | (with_reducible refine Below.drew ?_) | (with_reducible refine Below.setCell ?_ ?_ _) | go_size))⟩)) (fun hHeld => ?_)
    clear hK K
    try simp only [Act.put, List.setIfInBounds_toArray, List.set_cons_zero, List.set_cons_succ]
    refine wpAnyH_ready (rs := [17]) (by kernel_rfl) (by simp) ?_
    refine AllReadyH.cons (o := ⟨none, _, _, _, _, _⟩) rfl (fun K hK => ?_) AllReadyH.nil
    go_simp
    skip
    refine hK.out _ _ (by (try dsimp only); (first | exact ⟨cell_drew k2, (by repeat' (first | (with_reducible exact Below.refl _ _) | (with_reducible assumption) | (with_reducible refine Base.grow_alloc ?_ _) | (with_reducible refine Base.below_drewN ?_ _) | (with_reducible refine Below.drew ?_) | (with_reducible refine Below.setCell ?_ ?_ _) | go_size))⟩ | exact ⟨by simp [go_sem, k2, lw], (by repeat' (first | (with_reducible exact Below.refl _ _) | (with_reducible assumption) | (with_reducible refine Base.grow_alloc ?_ _) | (with_reducible refine Base.below_drewN ?_ _) | (with_reducible refine Below.drew ?_) | (with_reducible refine Below.setCell ?_ ?_ _) | go_size))⟩)) (fun hHeld => ?_)
    clear hK K
    try simp only [Act.put, List.setIfInBounds_toArray, List.set_cons_zero, List.set_cons_succ]
    refine wpAnyH_done (by kernel_rfl) ?_ _
    rw [HE1.out, HE2.out, HE3.out]
    obtain ⟨wo, hwo⟩ : ∃ wo : World, wo = (w3.alloc (.cells #[.int .i64 y1, .int .i64 y2, .int .i64 y3] 48)).drew := ⟨_, rfl⟩
    have ho : Below w3.heap.size w3 wo := by rw [hwo]; exact (by repeat' (first | (with_reducible exact Below.refl _ _) | (with_reducible assumption) | (with_reducible refine Base.grow_alloc ?_ _) | (with_reducible refine Base.below_drewN ?_ _) | (with_reducible refine Below.drew ?_) | (with_reducible refine Below.setCell ?_ ?_ _) | go_size))
    have s0 : wo.cell? ⟨w3.heap.size, 0, none⟩ = some (.int .i64 y1) := by rw [hwo]; simp
    have s1 : wo.cell? ⟨w3.heap.size, 1, none⟩ = some (.int .i64 y2) := by rw [hwo]; simp
    have s2 : wo.cell? ⟨w3.heap.size, 2, none⟩ = some (.int .i64 y3) := by rw [hwo]; simp
    have R0 := cell_call ho r0
    have R1 := cell_call ho r1
    have R2 := cell_call ho r2
    have Z0 := fr_call ho r0 z0
    have Z1 := fr_call ho r1 z1
    have Z2 := fr_call ho r2 z2
    have hbo : Below w.heap.size w wo := (by repeat' (first | (with_reducible exact Below.refl _ _) | (with_reducible assumption) | (with_reducible refine Base.via ho ?_) | (with_reducible refine Base.via hbw ?_) | (with_reducible refine Base.grow_alloc ?_ _) | (with_reducible refine Base.below_drewN ?_ _) | (with_reducible refine Below.drew ?_) | (with_reducible refine Below.setCell ?_ ?_ _) | go_size))
    have lo := World.block_lt_of_cell? _ _ R0
    have ls := World.block_lt_of_cell? _ _ s0
    dsimp only at lo ls
    rw [← hwo]
    clear hwo r0 r1 r2 z0 z1 z2 k2 lw
    cases hok : okSearch y1 y2 y3
    · have HCC := Lib.hid (show rsC n T M f t s p = 6 by rw [HC0.out, hok]; rfl)
      have HX := Lib.hid (show rsX n T M f t s p = 0 by rw [HXX.out, HCC.out]; rfl)
      have HY := Lib.hid (show rsY n T M f t s p = 0 by rw [HYY.out, HCC.out]; rfl)
      have HZ := Lib.hid (show rsZ n T M f t s p = 0 by rw [HZZ.out, HCC.out]; rfl)
      go_wp2_with (first | (go_at_call 73; refine (c_ValidSearch y1 y2 y3 _).mono ?_; rintro e w4 ⟨rfl, hb4⟩; have t0 := cell_call hb4 R0; have t1 := cell_call hb4 R1; have t2 := cell_call hb4 R2; have v0 := fr_call hb4 R0 Z0; have v1 := fr_call hb4 R1 Z1; have v2 := fr_call hb4 R2 Z2; have l4 := hb4.size))
      refine bodyPost_ret (v := .tuple #[.agg #[.int .i64 0, .int .i64 0, .int .i64 0], .int .i64 6]) (by simp [results, Try.results37, go_sem, t0, t1, t2]) rfl ⟨ret_srch HX.out.symm HY.out.symm HZ.out.symm HCC.out.symm, (by repeat' (first | (with_reducible exact Below.refl _ _) | (with_reducible assumption) | (with_reducible refine Base.via hb4 ?_) | (with_reducible refine Base.via hbo ?_) | (with_reducible refine Base.grow_alloc ?_ _) | (with_reducible refine Base.below_drewN ?_ _) | (with_reducible refine Below.drew ?_) | (with_reducible refine Below.setCell ?_ ?_ _) | go_size))⟩
    · have HCC := Lib.hid (show rsC n T M f t s p = 0 by rw [HC0.out, hok]; rfl)
      have HX := Lib.hid (show rsX n T M f t s p = y1 by rw [HXX.out, if_pos HCC.out])
      have HY := Lib.hid (show rsY n T M f t s p = y2 by rw [HYY.out, if_pos HCC.out])
      have HZ := Lib.hid (show rsZ n T M f t s p = y3 by rw [HZZ.out, if_pos HCC.out])
      go_wp2_with (first | (go_at_call 73; refine (c_ValidSearch y1 y2 y3 _).mono ?_; rintro e w4 ⟨rfl, hb4⟩; have t0 := cell_call hb4 R0; have t1 := cell_call hb4 R1; have t2 := cell_call hb4 R2; have v0 := fr_call hb4 R0 Z0; have v1 := fr_call hb4 R1 Z1; have v2 := fr_call hb4 R2 Z2; have x0 := cell_call hb4 s0; have x1 := cell_call hb4 s1; have x2 := cell_call hb4 s2; have l4 := hb4.size))
      refine bodyPost_ret (v := .tuple #[.agg #[.int .i64 y1, .int .i64 y2, .int .i64 y3], .int .i64 0]) (by simp [results, Try.results37, go_sem, t0, t1, t2]) rfl ⟨ret_srch HX.out.symm HY.out.symm HZ.out.symm HCC.out.symm, (by repeat' (first | (with_reducible exact Below.refl _ _) | (with_reducible assumption) | (with_reducible refine Base.via hb4 ?_) | (with_reducible refine Base.via hbo ?_) | (with_reducible refine Base.grow_alloc ?_ _) | (with_reducible refine Base.below_drewN ?_ _) | (with_reducible refine Below.drew ?_) | (with_reducible refine Below.setCell ?_ ?_ _) | go_size))⟩
  · obtain ⟨eC, eX, eY, eZ⟩ := rs_no (n := n) (T := T) (M := M) (f := f) (t := t) (s := s) (p := p) (by rw [hc]; exact h4)
    have HC := Lib.hid (eC.trans hc)
    have HX := Lib.hid eX
    have HY := Lib.hid eY
    have HZ := Lib.hid eZ
    have hq : (srC n T M f t s 3 != 0) = true := by simpa using h4
    clear eC eX eY eZ hc
    go_enter Try.func37, Try.ntmps37
    go_wp2_with (first | (go_at_call 46; refine (c_ValidCurve _ _ _ T M _ (hv.below (by repeat' (first | (with_reducible exact Below.refl _ _) | (with_reducible assumption) | (with_reducible refine Base.grow_alloc ?_ _) | (with_reducible refine Base.below_drewN ?_ _) | (with_reducible refine Below.drew ?_) | (with_reducible refine Below.setCell ?_ ?_ _) | go_size)))).mono ?_; rintro e w1 ⟨rfl, hb1⟩; obtain ⟨chb1, fhb1⟩ := Base.bcell hb1; have zhb1 := (hb1).size; (try simp at zhb1); (try have y0hb1 : w.heap.size < (w1).heap.size := by omega); (try have y1hb1 : w.heap.size + 1 < (w1).heap.size := by omega); (try have y2hb1 : w.heap.size + 1 + 1 < (w1).heap.size := by omega); (try have y3hb1 : w.heap.size + 1 + 1 + 1 < (w1).heap.size := by omega)) | (go_at_call 73; refine (c_ValidSearch f t s _).mono ?_; rintro e w2 ⟨rfl, hb2⟩; obtain ⟨chb2, fhb2⟩ := Base.bcell hb2; have zhb2 := (hb2).size; (try simp at zhb2); (try have y0hb2 : w.heap.size < (w2).heap.size := by omega); (try have y1hb2 : w.heap.size + 1 < (w2).heap.size := by omega); (try have y2hb2 : w.heap.size + 1 + 1 < (w2).heap.size := by omega); (try have y3hb2 : w.heap.size + 1 + 1 + 1 < (w2).heap.size := by omega)) | (go_at_call 47; refine (c_in _ _ _ _).mono ?_; rintro e w' ⟨rfl, rfl⟩) | (go_at_call 33; refine (HBP.out _ (hv.below (by repeat' (first | (with_reducible exact Below.refl _ _) | (with_reducible assumption) | (with_reducible refine Base.via hb2 ?_) | (with_reducible refine Base.via hb1 ?_) | (with_reducible refine Base.grow_alloc ?_ _) | (with_reducible refine Base.below_drewN ?_ _) | (with_reducible refine Below.drew ?_) | (with_reducible refine Below.setCell ?_ ?_ _) | go_size)))).mono ?_; rintro e w3 ⟨rfl, hb3⟩; obtain ⟨chb3, fhb3⟩ := Base.bcell hb3; have zhb3 := (hb3).size; (try simp at zhb3); (try have y0hb3 : w.heap.size < (w3).heap.size := by omega); (try have y1hb3 : w.heap.size + 1 < (w3).heap.size := by omega); (try have y2hb3 : w.heap.size + 1 + 1 < (w3).heap.size := by omega); (try have y3hb3 : w.heap.size + 1 + 1 + 1 < (w3).heap.size := by omega)))
    refine bodyPost_ret (v := .tuple #[.agg #[.int .i64 0, .int .i64 0, .int .i64 0], .int .i64 _]) (by simp [results, Try.results37, go_sem, chb1, chb2, chb3, y0hb1, y1hb1, y0hb2, y1hb2, y0hb3, y1hb3]; done) rfl ⟨ret_srch HX.out.symm HY.out.symm HZ.out.symm HC.out.symm, (by repeat' (first | (with_reducible exact Below.refl _ _) | (with_reducible assumption) | (with_reducible refine Base.via hb3 ?_) | (with_reducible refine Base.via hb2 ?_) | (with_reducible refine Base.via hb1 ?_) | (with_reducible refine Base.grow_alloc ?_ _) | (with_reducible refine Base.below_drewN ?_ _) | (with_reducible refine Below.drew ?_) | (with_reducible refine Below.setCell ?_ ?_ _) | go_size))⟩
  all_goals
    obtain ⟨eC, eX, eY, eZ⟩ := rs_no (n := n) (T := T) (M := M) (f := f) (t := t) (s := s) (p := p) (by rw [hc]; decide)
    have HC := Lib.hid (eC.trans hc)
    have HX := Lib.hid eX
    have HY := Lib.hid eY
    have HZ := Lib.hid eZ
    clear eC eX eY eZ hc
    go_enter Try.func37, Try.ntmps37
    go_wp2_with (first | (go_at_call 46; refine (c_ValidCurve _ _ _ T M _ (hv.below (by repeat' (first | (with_reducible exact Below.refl _ _) | (with_reducible assumption) | (with_reducible refine Base.grow_alloc ?_ _) | (with_reducible refine Base.below_drewN ?_ _) | (with_reducible refine Below.drew ?_) | (with_reducible refine Below.setCell ?_ ?_ _) | go_size)))).mono ?_; rintro e w1 ⟨rfl, hb1⟩; obtain ⟨chb1, fhb1⟩ := Base.bcell hb1; have zhb1 := (hb1).size; (try simp at zhb1); (try have y0hb1 : w.heap.size < (w1).heap.size := by omega); (try have y1hb1 : w.heap.size + 1 < (w1).heap.size := by omega); (try have y2hb1 : w.heap.size + 1 + 1 < (w1).heap.size := by omega); (try have y3hb1 : w.heap.size + 1 + 1 + 1 < (w1).heap.size := by omega)) | (go_at_call 73; refine (c_ValidSearch f t s _).mono ?_; rintro e w2 ⟨rfl, hb2⟩; obtain ⟨chb2, fhb2⟩ := Base.bcell hb2; have zhb2 := (hb2).size; (try simp at zhb2); (try have y0hb2 : w.heap.size < (w2).heap.size := by omega); (try have y1hb2 : w.heap.size + 1 < (w2).heap.size := by omega); (try have y2hb2 : w.heap.size + 1 + 1 < (w2).heap.size := by omega); (try have y3hb2 : w.heap.size + 1 + 1 + 1 < (w2).heap.size := by omega)) | (go_at_call 47; refine (c_in _ _ _ _).mono ?_; rintro e w' ⟨rfl, rfl⟩))
    refine bodyPost_ret (v := .tuple #[.agg #[.int .i64 0, .int .i64 0, .int .i64 0], .int .i64 _]) (by first | (simp [results, Try.results37, go_sem, chb1, y0hb1, y1hb1]; done) | (simp [results, Try.results37, go_sem, chb1, chb2, y0hb1, y1hb1, y0hb2, y1hb2]; done)) rfl ⟨ret_srch HX.out.symm HY.out.symm HZ.out.symm HC.out.symm, (by repeat' (first | (with_reducible exact Below.refl _ _) | (with_reducible assumption) | (with_reducible refine Base.via hb2 ?_) | (with_reducible refine Base.via hb1 ?_) | (with_reducible refine Base.grow_alloc ?_ _) | (with_reducible refine Base.below_drewN ?_ _) | (with_reducible refine Below.drew ?_) | (with_reducible refine Below.setCell ?_ ?_ _) | go_size))⟩
end Go.Proofs.Ytenjcdhehjdeoaa.Ref
