/- The vertex of a parabola through three points. -/
import Derived.Test.YtiinjnghnfofpaaCurve2
import Derived.Test.YtiinjnghnfofpaaFrac
import Derived.Test.YtiinjnghnfofpaaList
import Derived.Deep.RegionHeld3
namespace Go.Proofs.Ytiinjnghnfofpaa.Vertex
set_option linter.unusedVariables false
set_option linter.unusedSimpArgs false
set_option maxRecDepth 8000
open Go.RowKit Plain Num View Curve Curve2 Frac

/-- a given triple as a table -/
def tri (a b c : Int) : Nat → Int := fun i => if i = 0 then a else if i = 1 then b else c
def bendV (at_ am bt bm ct cm : Int) : Int := (cm - am) * (bt - at_) - (bm - am) * (ct - at_)
def tiltV (at_ am bt bm ct cm : Int) : Int := (bm - am) * (ct - at_) * (ct - at_) - (cm - am) * (bt - at_) * (bt - at_)
def verC (at_ am bt bm ct cm : Int) : Int := if okCurve 3 (tri at_ bt ct) (tri am bm cm) = true then (if 100000 < ct - at_ then 2 else if bendV at_ am bt bm ct cm = 0 then 6 else 0) else 1
def verN (at_ am bt bm ct cm : Int) : Int := if verC at_ am bt bm ct cm = 0 then lowN (at_ * 2 * bendV at_ am bt bm ct cm - tiltV at_ am bt bm ct cm) (2 * bendV at_ am bt bm ct cm) else 0
def verD (at_ am bt bm ct cm : Int) : Int := if verC at_ am bt bm ct cm = 0 then lowD (at_ * 2 * bendV at_ am bt bm ct cm - tiltV at_ am bt bm ct cm) (2 * bendV at_ am bt bm ct cm) else 0
theorem mul_bd {a b A B : Int} (h1 : -A ≤ a) (h2 : a ≤ A) (h3 : -B ≤ b) (h4 : b ≤ B) : -(A * B) ≤ a * b ∧ a * b ≤ A * B := by
  have k : ∀ {b : Int}, 0 ≤ b → b ≤ B → -(A * B) ≤ a * b ∧ a * b ≤ A * B := fun {b} h3 h4 => by
    have e1 : a * b ≤ A * b := Int.mul_le_mul_of_nonneg_right h2 h3
    have e2 : A * b ≤ A * B := Int.mul_le_mul_of_nonneg_left h4 (by omega)
    have e3 : -A * b ≤ a * b := Int.mul_le_mul_of_nonneg_right h1 h3
    have e4 : -A * b = -(A * b) := Int.neg_mul _ _
    omega
  rcases Int.le_total 0 b with h | h
  · exact k h h4
  · have := k (b := -b) (by omega) (by omega)
    rw [Int.mul_neg] at this
    omega
/-- what a valid, near triple is -/
theorem tri_bd {at_ am bt bm ct cm : Int} (h : okCurve 3 (tri at_ bt ct) (tri am bm cm) = true) : (0 ≤ at_ ∧ at_ < bt ∧ bt < ct ∧ ct ≤ 10000000) ∧ (-2000 ≤ am ∧ am ≤ 20000) ∧ (-2000 ≤ bm ∧ bm ≤ 20000) ∧ (-2000 ≤ cm ∧ cm ≤ 20000) := by
  obtain ⟨_, hT, hM, hI⟩ := okCurve_bd h
  have t0 := hT 0 (by omega)
  have t2 := hT 2 (by omega)
  have m0 := hM 0 (by omega)
  have m1 := hM 1 (by omega)
  have m2 := hM 2 (by omega)
  have i1 := hI 1 (by omega) (by omega)
  have i2 := hI 2 (by omega) (by omega)
  simp [tri] at t0 t2 m0 m1 m2 i1 i2
  omega
theorem ver_bd {at_ am bt bm ct cm : Int} (h : okCurve 3 (tri at_ bt ct) (tri am bm cm) = true) (hn : ct - at_ ≤ 100000) :
    (-2200000000 ≤ (cm - am) * (bt - at_) ∧ (cm - am) * (bt - at_) ≤ 2200000000) ∧ (-2200000000 ≤ (bm - am) * (ct - at_) ∧ (bm - am) * (ct - at_) ≤ 2200000000) ∧
    (-220000000000000 ≤ (cm - am) * (bt - at_) * (bt - at_) ∧ (cm - am) * (bt - at_) * (bt - at_) ≤ 220000000000000) ∧ (-220000000000000 ≤ (bm - am) * (ct - at_) * (ct - at_) ∧ (bm - am) * (ct - at_) * (ct - at_) ≤ 220000000000000) := by
  obtain ⟨h1, h2, h3, h4⟩ := tri_bd h
  have a1 := mul_bd (a := cm - am) (b := bt - at_) (A := 22000) (B := 100000) (by omega) (by omega) (by omega) (by omega)
  have a2 := mul_bd (a := bm - am) (b := ct - at_) (A := 22000) (B := 100000) (by omega) (by omega) (by omega) (by omega)
  have a3 := mul_bd (a := (cm - am) * (bt - at_)) (b := bt - at_) (A := 2200000000) (B := 100000) (by omega) (by omega) (by omega) (by omega)
  have a4 := mul_bd (a := (bm - am) * (ct - at_)) (b := ct - at_) (A := 2200000000) (B := 100000) (by omega) (by omega) (by omega) (by omega)
  omega
theorem low_neg {a b : Int} (hb : b < 0) : lowN (-a) (-b) = lowN a b ∧ lowD (-a) (-b) = lowD a b := by
  have e : lowG (-a) (-b) = -lowG a b := by
    have hg : Int.gcd (-a) (-b) = Int.gcd a b := by
      show Nat.gcd (-a).natAbs (-b).natAbs = Nat.gcd a.natAbs b.natAbs
      rw [Int.natAbs_neg, Int.natAbs_neg]
    unfold lowG
    rw [if_pos hb, if_neg (by omega), hg, Int.neg_neg]
  rw [lowN, lowN, lowD, lowD, e, Int.ediv_neg, Int.ediv_neg, Int.neg_ediv_of_dvd (lowG_dl a b), Int.neg_ediv_of_dvd (lowG_dr a b), Int.neg_neg, Int.neg_neg]
  exact ⟨rfl, rfl⟩
theorem tri_view {w : World} {E : TypeId} {b : Nat} {at_ am bt bm ct cm : Int} (hb : b = w.heap.size) :
    Sl (w.alloc (.cells #[.int .i64 at_, .int .i64 am, .int .i64 bt, .int .i64 bm, .int .i64 ct, .int .i64 cm] E)) 2 (some ⟨b, 0, none⟩) 3 3 (f2 (tri at_ bt ct) (tri am bm cm)) := by
  subst hb
  refine (RowK.made (E := E) (k := 2) (n := 3) _ (by simp) ?_).view (by omega) (by omega) (by omega)
  intro i hi j hj
  have h1 : i = 0 ∨ i = 1 ∨ i = 2 := by omega
  have h2 : j = 0 ∨ j = 1 := by omega
  rcases h1 with rfl | rfl | rfl <;> rcases h2 with rfl | rfl <;> simp [f2, tri]
set_option maxHeartbeats 800000 in
theorem c_l12Code (at_ am bt bm ct cm : Int) (w : World) :
    Calls Try.prog 115 #[.agg #[.int .i64 at_, .int .i64 am], .agg #[.int .i64 bt, .int .i64 bm], .agg #[.int .i64 ct, .int .i64 cm]] w fun e w' => e = .returned (.int .i64 (if okCurve 3 (tri at_ bt ct) (tri am bm cm) = true then (if 100000 < ct - at_ then 2 else 0) else 1)) ∧ Below w.heap.size w w' := by
  cases h : okCurve 3 (tri at_ bt ct) (tri am bm cm)
  · go_enter Try.func115, Try.ntmps115
    go_wp2_with (first | (go_at_call 75; refine (c_l08Ok _ 3 3 (tri at_ bt ct) (tri am bm cm) _ (tri_view (by simp))).mono ?_; rintro e w1 ⟨rfl, hb1⟩; obtain ⟨chb1, fhb1⟩ := Base.bcell hb1; have zhb1 := (hb1).size; (try simp at zhb1); (try have yhb1 : w.heap.size < (w1).heap.size := by omega)))
    go_ret
    exact ⟨rfl, (by repeat' (first | (with_reducible exact Below.refl _ _) | (with_reducible assumption) | (with_reducible refine Base.via hb1 ?_) | (with_reducible refine Base.grow_alloc ?_ _) | (with_reducible refine Base.below_drewN ?_ _) | (with_reducible refine Below.drew ?_) | (with_reducible refine Below.setCell ?_ ?_ _) | go_size))⟩
  · have hb := tri_bd h
    by_cases hf : 100000 < ct - at_
    · go_enter Try.func115, Try.ntmps115
      go_wp2_with (first | (go_at_call 75; refine (c_l08Ok _ 3 3 (tri at_ bt ct) (tri am bm cm) _ (tri_view (by simp))).mono ?_; rintro e w1 ⟨rfl, hb1⟩; obtain ⟨chb1, fhb1⟩ := Base.bcell hb1; have zhb1 := (hb1).size; (try simp at zhb1); (try have yhb1 : w.heap.size < (w1).heap.size := by omega)))
      go_ret
      exact ⟨ret_int (by simp [hf]), (by repeat' (first | (with_reducible exact Below.refl _ _) | (with_reducible assumption) | (with_reducible refine Base.via hb1 ?_) | (with_reducible refine Base.grow_alloc ?_ _) | (with_reducible refine Base.below_drewN ?_ _) | (with_reducible refine Below.drew ?_) | (with_reducible refine Below.setCell ?_ ?_ _) | go_size))⟩
    · go_enter Try.func115, Try.ntmps115
      go_wp2_with (first | (go_at_call 75; refine (c_l08Ok _ 3 3 (tri at_ bt ct) (tri am bm cm) _ (tri_view (by simp))).mono ?_; rintro e w1 ⟨rfl, hb1⟩; obtain ⟨chb1, fhb1⟩ := Base.bcell hb1; have zhb1 := (hb1).size; (try simp at zhb1); (try have yhb1 : w.heap.size < (w1).heap.size := by omega)))
      go_ret
      exact ⟨ret_int (by simp [hf]), (by repeat' (first | (with_reducible exact Below.refl _ _) | (with_reducible assumption) | (with_reducible refine Base.via hb1 ?_) | (with_reducible refine Base.grow_alloc ?_ _) | (with_reducible refine Base.below_drewN ?_ _) | (with_reducible refine Below.drew ?_) | (with_reducible refine Below.setCell ?_ ?_ _) | go_size))⟩
set_option maxHeartbeats 800000 in
theorem c_l12Vertex (at_ am bt bm ct cm : Int) (w : World) (h : okCurve 3 (tri at_ bt ct) (tri am bm cm) = true) (hn : ct - at_ ≤ 100000) :
    Calls Try.prog 116 #[.agg #[.int .i64 at_, .int .i64 am], .agg #[.int .i64 bt, .int .i64 bm], .agg #[.int .i64 ct, .int .i64 cm]] w fun e w' => e = .returned (.tuple #[.int .i64 (-tiltV at_ am bt bm ct cm), .int .i64 (bendV at_ am bt bm ct cm)]) ∧ Below w.heap.size w w' := by
  obtain ⟨h1, h2, h3, h4⟩ := tri_bd h
  obtain ⟨b1, b2, b3, b4⟩ := ver_bd h hn
  have E1 := Lib.hid (show (cm - am) * (bt - at_) * (bt - at_) - (bm - am) * (ct - at_) * (ct - at_) = -tiltV at_ am bt bm ct cm by rw [tiltV]; omega)
  have E2 := Lib.hid (show (cm - am) * (bt - at_) - (bm - am) * (ct - at_) = bendV at_ am bt bm ct cm from rfl)
  go_enter Try.func116, Try.ntmps116
  go_wp2
  go_ret2
  exact ⟨ret_pair E1.out E2.out, (by repeat' (first | (with_reducible exact Below.refl _ _) | (with_reducible assumption) | (with_reducible refine Base.grow_alloc ?_ _) | (with_reducible refine Base.below_drewN ?_ _) | (with_reducible refine Below.drew ?_) | (with_reducible refine Below.setCell ?_ ?_ _) | go_size))⟩
theorem c_bend (a b u m : Int) (w : World) (h1 : -2200000000 ≤ m * a ∧ m * a ≤ 2200000000) (h2 : -2200000000 ≤ u * b ∧ u * b ≤ 2200000000) :
    Calls Try.prog 119 #[.agg #[.int .i64 a, .int .i64 b, .int .i64 u, .int .i64 m]] w fun e w' => e = .returned (.int .i64 (m * a - u * b)) ∧ Below w.heap.size w w' := by
  go_enter Try.func119, Try.ntmps119
  go_wp2
  go_ret
  exact ⟨rfl, (by repeat' (first | (with_reducible exact Below.refl _ _) | (with_reducible assumption) | (with_reducible refine Base.grow_alloc ?_ _) | (with_reducible refine Base.below_drewN ?_ _) | (with_reducible refine Below.drew ?_) | (with_reducible refine Below.setCell ?_ ?_ _) | go_size))⟩
theorem c_tilt (a b u m : Int) (w : World) (h1 : -2200000000 ≤ m * a ∧ m * a ≤ 2200000000) (h2 : -2200000000 ≤ u * b ∧ u * b ≤ 2200000000) (h3 : -220000000000000 ≤ m * a * a ∧ m * a * a ≤ 220000000000000) (h4 : -220000000000000 ≤ u * b * b ∧ u * b * b ≤ 220000000000000) :
    Calls Try.prog 120 #[.agg #[.int .i64 a, .int .i64 b, .int .i64 u, .int .i64 m]] w fun e w' => e = .returned (.int .i64 (u * b * b - m * a * a)) ∧ Below w.heap.size w w' := by
  go_enter Try.func120, Try.ntmps120
  go_wp2
  go_ret
  exact ⟨rfl, (by repeat' (first | (with_reducible exact Below.refl _ _) | (with_reducible assumption) | (with_reducible refine Base.grow_alloc ?_ _) | (with_reducible refine Base.below_drewN ?_ _) | (with_reducible refine Below.drew ?_) | (with_reducible refine Below.setCell ?_ ?_ _) | go_size))⟩
theorem ver_cases (at_ am bt bm ct cm : Int) : (okCurve 3 (tri at_ bt ct) (tri am bm cm) = true ∧ ct - at_ ≤ 100000 ∧ bendV at_ am bt bm ct cm ≠ 0 ∧ verC at_ am bt bm ct cm = 0) ∨ (okCurve 3 (tri at_ bt ct) (tri am bm cm) = true ∧ ct - at_ ≤ 100000 ∧ bendV at_ am bt bm ct cm = 0 ∧ verC at_ am bt bm ct cm = 6) ∨ (okCurve 3 (tri at_ bt ct) (tri am bm cm) = true ∧ 100000 < ct - at_ ∧ verC at_ am bt bm ct cm = 2) ∨ (okCurve 3 (tri at_ bt ct) (tri am bm cm) = false ∧ verC at_ am bt bm ct cm = 1) := by
  unfold verC
  cases okCurve 3 (tri at_ bt ct) (tri am bm cm) <;> by_cases h1 : 100000 < ct - at_ <;> by_cases h2 : bendV at_ am bt bm ct cm = 0 <;> simp [h1, h2] <;> omega
theorem ret_par {v : Value} {a b : Int} (h : b = a) : Ending.returned (.tuple #[v, .int .i64 a]) = Ending.returned (.tuple #[v, .int .i64 b]) := by rw [h]
set_option maxHeartbeats 1600000 in
theorem c_parabolaOf (at_ am bt bm ct cm : Int) (w : World) :
    Calls Try.prog 118 #[.agg #[.int .i64 at_, .int .i64 am], .agg #[.int .i64 bt, .int .i64 bm], .agg #[.int .i64 ct, .int .i64 cm]] w fun e w' => (∃ x0 x1 x2 x3, e = .returned (.tuple #[.agg #[.int .i64 x0, .int .i64 x1, .int .i64 x2, .int .i64 x3], .int .i64 (verC at_ am bt bm ct cm)]) ∧ (verC at_ am bt bm ct cm = 0 → x0 = bt - at_ ∧ x1 = ct - at_ ∧ x2 = bm - am ∧ x3 = cm - am)) ∧ Below w.heap.size w w' := by
  rcases ver_cases at_ am bt bm ct cm with ⟨h, hn, hb, hc⟩ | ⟨h, hn, hb, hc⟩ | ⟨h, hn, hc⟩ | ⟨h, hc⟩
  · obtain ⟨h1, h2, h3, h4⟩ := tri_bd h
    obtain ⟨b1, b2, b3, b4⟩ := ver_bd h hn
    have hb' : (cm - am) * (bt - at_) - (bm - am) * (ct - at_) ≠ 0 := hb
    have hb'' : (((cm - am) * (bt - at_) - (bm - am) * (ct - at_)) == 0) = false := by simpa using hb'
    have HC := Lib.hid hc
    clear hc hb hb'
    go_enter Try.func118, Try.ntmps118
    go_wp2_with (first | ((go_at_call 78; refine (c_ValidCurve _ 3 3 (tri at_ bt ct) (tri am bm cm) _ (tri_view (by simp))).mono ?_; rintro e w1 ⟨rfl, hb1⟩; obtain ⟨chb1, fhb1⟩ := Base.bcell hb1; have zhb1 := (hb1).size; (try simp at zhb1); (try have yhb1 : w.heap.size < (w1).heap.size := by omega)); (have q1 : w.heap.size + 1 + 1 + 1 < w1.heap.size := by omega); (have q2 : w.heap.size + 1 + 1 + 1 < w1.heap.size + 1 := by omega)) | (go_at_call 119; refine (c_bend _ _ _ _ _ b1 b2).mono ?_; rintro e w2 ⟨rfl, hb2⟩; obtain ⟨chb2, fhb2⟩ := Base.bcell hb2; have zhb2 := (hb2).size; (try simp at zhb2); (try have yhb2 : w.heap.size < (w2).heap.size := by omega)))
    have k0 : World.cell? w2 ⟨w.heap.size + 1 + 1 + 1, 0, none⟩ = some (.int .i64 0) := (chb2 (w.heap.size + 1 + 1 + 1) 0 (by first | omega | (simp; omega))).trans (by first | (simp [q1, chb1]; done) | (simp [q1, chb1, go_sem]; done))
    have k1 : World.cell? w2 ⟨w.heap.size + 1 + 1 + 1, 1, none⟩ = some (.int .i64 0) := (chb2 (w.heap.size + 1 + 1 + 1) 1 (by first | omega | (simp; omega))).trans (by first | (simp [q1, chb1]; done) | (simp [q1, chb1, go_sem]; done))
    have k2 : World.cell? w2 ⟨w.heap.size + 1 + 1 + 1, 2, none⟩ = some (.int .i64 0) := (chb2 (w.heap.size + 1 + 1 + 1) 2 (by first | omega | (simp; omega))).trans (by first | (simp [q1, chb1]; done) | (simp [q1, chb1, go_sem]; done))
    have k3 : World.cell? w2 ⟨w.heap.size + 1 + 1 + 1, 3, none⟩ = some (.int .i64 0) := (chb2 (w.heap.size + 1 + 1 + 1) 3 (by first | omega | (simp; omega))).trans (by first | (simp [q1, chb1]; done) | (simp [q1, chb1, go_sem]; done))
    refine bodyPost_ret (v := .tuple #[.agg #[.int .i64 (bt - at_), .int .i64 (ct - at_), .int .i64 (bm - am), .int .i64 (cm - am)], .int .i64 0]) (by simp [results, Try.results118, go_sem, q1, k0, k1, k2, k3]) rfl ⟨⟨_, _, _, _, ret_par HC.out, fun _ => ⟨rfl, rfl, rfl, rfl⟩⟩, (by repeat' (first | (with_reducible exact Below.refl _ _) | (with_reducible assumption) | (with_reducible refine Base.via hb2 ?_) | (with_reducible refine Base.via hb1 ?_) | (with_reducible refine Base.grow_alloc ?_ _) | (with_reducible refine Base.below_drewN ?_ _) | (with_reducible refine Below.drew ?_) | (with_reducible refine Below.setCell ?_ ?_ _) | go_size))⟩
  · obtain ⟨h1, h2, h3, h4⟩ := tri_bd h
    obtain ⟨b1, b2, b3, b4⟩ := ver_bd h hn
    have hb' : (cm - am) * (bt - at_) - (bm - am) * (ct - at_) = 0 := hb
    have HC := Lib.hid hc
    clear hb
    go_enter Try.func118, Try.ntmps118
    go_wp2_with (first | ((go_at_call 78; refine (c_ValidCurve _ 3 3 (tri at_ bt ct) (tri am bm cm) _ (tri_view (by simp))).mono ?_; rintro e w1 ⟨rfl, hb1⟩; obtain ⟨chb1, fhb1⟩ := Base.bcell hb1; have zhb1 := (hb1).size; (try simp at zhb1); (try have yhb1 : w.heap.size < (w1).heap.size := by omega)); (have q1 : w.heap.size + 1 + 1 + 1 < w1.heap.size := by omega); (have q2 : w.heap.size + 1 + 1 + 1 < w1.heap.size + 1 := by omega)) | (go_at_call 119; refine (hb' ▸ c_bend _ _ _ _ _ b1 b2).mono ?_; rintro e w2 ⟨rfl, hb2⟩; obtain ⟨chb2, fhb2⟩ := Base.bcell hb2; have zhb2 := (hb2).size; (try simp at zhb2); (try have yhb2 : w.heap.size < (w2).heap.size := by omega)))
    have k0 : World.cell? w2 ⟨w.heap.size + 1 + 1 + 1, 0, none⟩ = some (.int .i64 0) := (chb2 (w.heap.size + 1 + 1 + 1) 0 (by first | omega | (simp; omega))).trans (by first | (simp [q1, chb1]; done) | (simp [q1, chb1, go_sem]; done))
    have k1 : World.cell? w2 ⟨w.heap.size + 1 + 1 + 1, 1, none⟩ = some (.int .i64 0) := (chb2 (w.heap.size + 1 + 1 + 1) 1 (by first | omega | (simp; omega))).trans (by first | (simp [q1, chb1]; done) | (simp [q1, chb1, go_sem]; done))
    have k2 : World.cell? w2 ⟨w.heap.size + 1 + 1 + 1, 2, none⟩ = some (.int .i64 0) := (chb2 (w.heap.size + 1 + 1 + 1) 2 (by first | omega | (simp; omega))).trans (by first | (simp [q1, chb1]; done) | (simp [q1, chb1, go_sem]; done))
    have k3 : World.cell? w2 ⟨w.heap.size + 1 + 1 + 1, 3, none⟩ = some (.int .i64 0) := (chb2 (w.heap.size + 1 + 1 + 1) 3 (by first | omega | (simp; omega))).trans (by first | (simp [q1, chb1]; done) | (simp [q1, chb1, go_sem]; done))
    refine bodyPost_ret (v := .tuple #[.agg #[.int .i64 0, .int .i64 0, .int .i64 0, .int .i64 0], .int .i64 6]) (by simp [results, Try.results118, go_sem, q1, k0, k1, k2, k3]) rfl ⟨⟨_, _, _, _, ret_par HC.out, fun h => by omega⟩, (by repeat' (first | (with_reducible exact Below.refl _ _) | (with_reducible assumption) | (with_reducible refine Base.via hb2 ?_) | (with_reducible refine Base.via hb1 ?_) | (with_reducible refine Base.grow_alloc ?_ _) | (with_reducible refine Base.below_drewN ?_ _) | (with_reducible refine Below.drew ?_) | (with_reducible refine Below.setCell ?_ ?_ _) | go_size))⟩
  · obtain ⟨h1, h2, h3, h4⟩ := tri_bd h
    have HC := Lib.hid hc
    go_enter Try.func118, Try.ntmps118
    go_wp2_with (first | ((go_at_call 78; refine (c_ValidCurve _ 3 3 (tri at_ bt ct) (tri am bm cm) _ (tri_view (by simp))).mono ?_; rintro e w1 ⟨rfl, hb1⟩; obtain ⟨chb1, fhb1⟩ := Base.bcell hb1; have zhb1 := (hb1).size; (try simp at zhb1); (try have yhb1 : w.heap.size < (w1).heap.size := by omega)); (have q1 : w.heap.size + 1 + 1 + 1 < w1.heap.size := by omega); (have q2 : w.heap.size + 1 + 1 + 1 < w1.heap.size + 1 := by omega)))
    have k0 : World.cell? w1 ⟨w.heap.size + 1 + 1 + 1, 0, none⟩ = some (.int .i64 0) := (hb1.cell (p := ⟨w.heap.size + 1 + 1 + 1, 0, none⟩) (by first | (simp; done) | (simp; omega))).trans (by simp [go_sem])
    have k1 : World.cell? w1 ⟨w.heap.size + 1 + 1 + 1, 1, none⟩ = some (.int .i64 0) := (hb1.cell (p := ⟨w.heap.size + 1 + 1 + 1, 1, none⟩) (by first | (simp; done) | (simp; omega))).trans (by simp [go_sem])
    have k2 : World.cell? w1 ⟨w.heap.size + 1 + 1 + 1, 2, none⟩ = some (.int .i64 0) := (hb1.cell (p := ⟨w.heap.size + 1 + 1 + 1, 2, none⟩) (by first | (simp; done) | (simp; omega))).trans (by simp [go_sem])
    have k3 : World.cell? w1 ⟨w.heap.size + 1 + 1 + 1, 3, none⟩ = some (.int .i64 0) := (hb1.cell (p := ⟨w.heap.size + 1 + 1 + 1, 3, none⟩) (by first | (simp; done) | (simp; omega))).trans (by simp [go_sem])
    refine bodyPost_ret (v := .tuple #[.agg #[.int .i64 0, .int .i64 0, .int .i64 0, .int .i64 0], .int .i64 2]) (by simp [results, Try.results118, go_sem, q1, k0, k1, k2, k3]) rfl ⟨⟨_, _, _, _, ret_par HC.out, fun h => by omega⟩, (by repeat' (first | (with_reducible exact Below.refl _ _) | (with_reducible assumption) | (with_reducible refine Base.via hb1 ?_) | (with_reducible refine Base.grow_alloc ?_ _) | (with_reducible refine Base.below_drewN ?_ _) | (with_reducible refine Below.drew ?_) | (with_reducible refine Below.setCell ?_ ?_ _) | go_size))⟩
  · have HC := Lib.hid hc
    go_enter Try.func118, Try.ntmps118
    go_wp2_with (first | ((go_at_call 78; refine (c_ValidCurve _ 3 3 (tri at_ bt ct) (tri am bm cm) _ (tri_view (by simp))).mono ?_; rintro e w1 ⟨rfl, hb1⟩; obtain ⟨chb1, fhb1⟩ := Base.bcell hb1; have zhb1 := (hb1).size; (try simp at zhb1); (try have yhb1 : w.heap.size < (w1).heap.size := by omega)); (have q1 : w.heap.size + 1 + 1 + 1 < w1.heap.size := by omega); (have q2 : w.heap.size + 1 + 1 + 1 < w1.heap.size + 1 := by omega)))
    have k0 : World.cell? w1 ⟨w.heap.size + 1 + 1 + 1, 0, none⟩ = some (.int .i64 0) := (hb1.cell (p := ⟨w.heap.size + 1 + 1 + 1, 0, none⟩) (by first | (simp; done) | (simp; omega))).trans (by simp [go_sem])
    have k1 : World.cell? w1 ⟨w.heap.size + 1 + 1 + 1, 1, none⟩ = some (.int .i64 0) := (hb1.cell (p := ⟨w.heap.size + 1 + 1 + 1, 1, none⟩) (by first | (simp; done) | (simp; omega))).trans (by simp [go_sem])
    have k2 : World.cell? w1 ⟨w.heap.size + 1 + 1 + 1, 2, none⟩ = some (.int .i64 0) := (hb1.cell (p := ⟨w.heap.size + 1 + 1 + 1, 2, none⟩) (by first | (simp; done) | (simp; omega))).trans (by simp [go_sem])
    have k3 : World.cell? w1 ⟨w.heap.size + 1 + 1 + 1, 3, none⟩ = some (.int .i64 0) := (hb1.cell (p := ⟨w.heap.size + 1 + 1 + 1, 3, none⟩) (by first | (simp; done) | (simp; omega))).trans (by simp [go_sem])
    refine bodyPost_ret (v := .tuple #[.agg #[.int .i64 0, .int .i64 0, .int .i64 0, .int .i64 0], .int .i64 1]) (by simp [results, Try.results118, go_sem, q1, k0, k1, k2, k3]) rfl ⟨⟨_, _, _, _, ret_par HC.out, fun h => by omega⟩, (by repeat' (first | (with_reducible exact Below.refl _ _) | (with_reducible assumption) | (with_reducible refine Base.via hb1 ?_) | (with_reducible refine Base.grow_alloc ?_ _) | (with_reducible refine Base.below_drewN ?_ _) | (with_reducible refine Below.drew ?_) | (with_reducible refine Below.setCell ?_ ?_ _) | go_size))⟩
theorem ret_frac {k l m : IntKind} {a b c d e f : Int} (h : a = d) (h' : b = e) (h'' : c = f) : Ending.returned (.tuple #[.agg #[.int k a, .int l b], .int m c]) = .returned (.tuple #[.agg #[.int k d, .int l e], .int m f]) := by rw [h, h', h'']
set_option maxHeartbeats 1600000 in
theorem c_specVertexTime (at_ am bt bm ct cm : Int) (w : World) :
    Calls Try.prog 77 #[.agg #[.int .i64 at_, .int .i64 am], .agg #[.int .i64 bt, .int .i64 bm], .agg #[.int .i64 ct, .int .i64 cm]] w fun e w' => e = .returned (.tuple #[.agg #[.int .i64 (verN at_ am bt bm ct cm), .int .i64 (verD at_ am bt bm ct cm)], .int .i64 (verC at_ am bt bm ct cm)]) ∧ Below w.heap.size w w' := by
  rcases ver_cases at_ am bt bm ct cm with ⟨h, hn, hb, hc⟩ | ⟨h, hn, hb, hc⟩ | ⟨h, hn, hc⟩ | ⟨h, hc⟩
  · obtain ⟨h1, h2, h3, h4⟩ := tri_bd h
    obtain ⟨b1, b2, b3, b4⟩ := ver_bd h hn
    have hcode : (if okCurve 3 (tri at_ bt ct) (tri am bm cm) = true then (if 100000 < ct - at_ then (2 : Int) else 0) else 1) = 0 := by rw [if_pos h, if_neg (by omega)]
    obtain ⟨q, hq⟩ : ∃ q, q = bendV at_ am bt bm ct cm := ⟨_, rfl⟩
    obtain ⟨t, ht⟩ : ∃ t, t = tiltV at_ am bt bm ct cm := ⟨_, rfl⟩
    have bq : -4400000000 ≤ q ∧ q ≤ 4400000000 := by rw [hq, bendV]; omega
    have bt_ : -440000000000000 ≤ t ∧ t ≤ 440000000000000 := by rw [ht, tiltV]; omega
    have hN : verN at_ am bt bm ct cm = lowN (at_ * 2 * q - t) (2 * q) := by rw [verN, if_pos hc, hq, ht]
    have hD : verD at_ am bt bm ct cm = lowD (at_ * 2 * q - t) (2 * q) := by rw [verD, if_pos hc, hq, ht]
    have ha := mul_bd (a := q) (b := at_) (A := 4400000000) (B := 10000000) (by omega) (by omega) (by omega) (by omega)
    have hv : ∀ w, Calls Try.prog 116 #[.agg #[.int .i64 at_, .int .i64 am], .agg #[.int .i64 bt, .int .i64 bm], .agg #[.int .i64 ct, .int .i64 cm]] w fun e w' => e = .returned (.tuple #[.int .i64 (-t), .int .i64 q]) ∧ Below w.heap.size w w' := fun w => by rw [hq, ht]; exact c_l12Vertex at_ am bt bm ct cm w h hn
    have HV := Lib.hid hv
    have HC := Lib.hid hc
    have HK := Lib.hid hcode
    rw [← hq] at hb
    clear hv hc hcode hq ht b1 b2 b3 b4
    rcases Int.lt_or_gt_of_ne hb with hlt | hgt
    · have hx := Int.mul_neg (2 * at_) q
      have hz := Int.mul_assoc at_ 2 q
      have hz2 := Int.mul_assoc 2 at_ q
      have hz3 := Int.mul_left_comm 2 at_ q
      have hz4 := Int.mul_comm q at_
      have e1 : at_ * 2 * q = 2 * at_ * q := by rw [Int.mul_comm at_ 2]
      have hA : t + 2 * at_ * -q = -(at_ * 2 * q - t) := by omega
      have hB : 2 * -q = -(2 * q) := by omega
      obtain ⟨l1, l2⟩ := low_neg (a := at_ * 2 * q - t) (b := 2 * q) (by omega)
      have HN := Lib.hid (show lowN (t + 2 * at_ * -q) (2 * -q) = verN at_ am bt bm ct cm by rw [hA, hB, l1, hN])
      have HD := Lib.hid (show lowD (t + 2 * at_ * -q) (2 * -q) = verD at_ am bt bm ct cm by rw [hA, hB, l2, hD])
      have bx : -88000000000000000 ≤ 2 * at_ * q ∧ 2 * at_ * q ≤ 88000000000000000 := by omega
      have bx2 : -88000000000000000 ≤ 2 * at_ * -q ∧ 2 * at_ * -q ≤ 88000000000000000 := by omega
      have hq0 : (q == 0) = false := by simp; omega
      clear hN hD l1 l2 hA hB hz hz2 hz3 hz4 e1 hx
      go_enter Try.func77, Try.ntmps77
      go_wp2_with (first | (go_at_call 115; refine (HK.out ▸ c_l12Code at_ am bt bm ct cm _).mono ?_; rintro e w1 ⟨rfl, hb1⟩; obtain ⟨chb1, fhb1⟩ := Base.bcell hb1; have zhb1 := (hb1).size; (try simp at zhb1); (try have y0hb1 : w.heap.size < (w1).heap.size := by omega); (try have y1hb1 : w.heap.size + 1 < (w1).heap.size := by omega); (try have y2hb1 : w.heap.size + 1 + 1 < (w1).heap.size := by omega); (try have y3hb1 : w.heap.size + 1 + 1 + 1 < (w1).heap.size := by omega)) | (go_at_call 116; refine (HV.out _).mono ?_; rintro e w2 ⟨rfl, hb2⟩; obtain ⟨chb2, fhb2⟩ := Base.bcell hb2; have zhb2 := (hb2).size; (try simp at zhb2); (try have y0hb2 : w.heap.size < (w2).heap.size := by omega); (try have y1hb2 : w.heap.size + 1 < (w2).heap.size := by omega); (try have y2hb2 : w.heap.size + 1 + 1 < (w2).heap.size := by omega); (try have y3hb2 : w.heap.size + 1 + 1 + 1 < (w2).heap.size := by omega)) | (go_at_call 97; refine (c_l02Make _ _ _ (by omega) (by omega) (by omega) (by omega)).mono ?_; rintro e w3 ⟨rfl, hb3⟩; obtain ⟨chb3, fhb3⟩ := Base.bcell hb3; have zhb3 := (hb3).size; (try simp at zhb3); (try have y0hb3 : w.heap.size < (w3).heap.size := by omega); (try have y1hb3 : w.heap.size + 1 < (w3).heap.size := by omega); (try have y2hb3 : w.heap.size + 1 + 1 < (w3).heap.size := by omega); (try have y3hb3 : w.heap.size + 1 + 1 + 1 < (w3).heap.size := by omega)))
      have k0 : World.cell? w3 ⟨w.heap.size + 1 + 1 + 1, 0, none⟩ = some (.int .i64 0) := ((hb3.cell (p := ⟨w.heap.size + 1 + 1 + 1, 0, none⟩) (by first | (simp; done) | (simp; omega) | omega)).trans ((hb2.cell (p := ⟨w.heap.size + 1 + 1 + 1, 0, none⟩) (by first | (simp; done) | (simp; omega) | omega)).trans ((hb1.cell (p := ⟨w.heap.size + 1 + 1 + 1, 0, none⟩) (by first | (simp; done) | (simp; omega) | omega)).trans (by simp [go_sem]))))
      have k1 : World.cell? w3 ⟨w.heap.size + 1 + 1 + 1, 1, none⟩ = some (.int .i64 0) := ((hb3.cell (p := ⟨w.heap.size + 1 + 1 + 1, 1, none⟩) (by first | (simp; done) | (simp; omega) | omega)).trans ((hb2.cell (p := ⟨w.heap.size + 1 + 1 + 1, 1, none⟩) (by first | (simp; done) | (simp; omega) | omega)).trans ((hb1.cell (p := ⟨w.heap.size + 1 + 1 + 1, 1, none⟩) (by first | (simp; done) | (simp; omega) | omega)).trans (by simp [go_sem]))))
      refine bodyPost_ret (v := .tuple #[.agg #[.int .i64 (lowN (t + 2 * at_ * -q) (2 * -q)), .int .i64 (lowD (t + 2 * at_ * -q) (2 * -q))], .int .i64 0]) (by simp [results, Try.results77, go_sem, k0, k1]) rfl ⟨ret_frac HN.out HD.out HC.out.symm, (by repeat' (first | (with_reducible exact Below.refl _ _) | (with_reducible assumption) | (with_reducible refine Base.via hb3 ?_) | (with_reducible refine Base.via hb2 ?_) | (with_reducible refine Base.via hb1 ?_) | (with_reducible refine Base.grow_alloc ?_ _) | (with_reducible refine Base.below_drewN ?_ _) | (with_reducible refine Below.drew ?_) | (with_reducible refine Below.setCell ?_ ?_ _) | go_size))⟩
    · have e1 : at_ * 2 * q = 2 * at_ * q := by rw [Int.mul_comm at_ 2]
      have hz3 := Int.mul_assoc 2 at_ q
      have hz4 := Int.mul_comm q at_
      have hA : -t + 2 * at_ * q = at_ * 2 * q - t := by omega
      have HN := Lib.hid (show lowN (-t + 2 * at_ * q) (2 * q) = verN at_ am bt bm ct cm by rw [hA, hN])
      have HD := Lib.hid (show lowD (-t + 2 * at_ * q) (2 * q) = verD at_ am bt bm ct cm by rw [hA, hD])
      have bx : -88000000000000000 ≤ 2 * at_ * q ∧ 2 * at_ * q ≤ 88000000000000000 := by omega
      have hq0 : (q == 0) = false := by simp; omega
      clear hN hD hA hz3 hz4 e1
      go_enter Try.func77, Try.ntmps77
      go_wp2_with (first | (go_at_call 115; refine (HK.out ▸ c_l12Code at_ am bt bm ct cm _).mono ?_; rintro e w1 ⟨rfl, hb1⟩; obtain ⟨chb1, fhb1⟩ := Base.bcell hb1; have zhb1 := (hb1).size; (try simp at zhb1); (try have y0hb1 : w.heap.size < (w1).heap.size := by omega); (try have y1hb1 : w.heap.size + 1 < (w1).heap.size := by omega); (try have y2hb1 : w.heap.size + 1 + 1 < (w1).heap.size := by omega); (try have y3hb1 : w.heap.size + 1 + 1 + 1 < (w1).heap.size := by omega)) | (go_at_call 116; refine (HV.out _).mono ?_; rintro e w2 ⟨rfl, hb2⟩; obtain ⟨chb2, fhb2⟩ := Base.bcell hb2; have zhb2 := (hb2).size; (try simp at zhb2); (try have y0hb2 : w.heap.size < (w2).heap.size := by omega); (try have y1hb2 : w.heap.size + 1 < (w2).heap.size := by omega); (try have y2hb2 : w.heap.size + 1 + 1 < (w2).heap.size := by omega); (try have y3hb2 : w.heap.size + 1 + 1 + 1 < (w2).heap.size := by omega)) | (go_at_call 97; refine (c_l02Make _ _ _ (by omega) (by omega) (by omega) (by omega)).mono ?_; rintro e w3 ⟨rfl, hb3⟩; obtain ⟨chb3, fhb3⟩ := Base.bcell hb3; have zhb3 := (hb3).size; (try simp at zhb3); (try have y0hb3 : w.heap.size < (w3).heap.size := by omega); (try have y1hb3 : w.heap.size + 1 < (w3).heap.size := by omega); (try have y2hb3 : w.heap.size + 1 + 1 < (w3).heap.size := by omega); (try have y3hb3 : w.heap.size + 1 + 1 + 1 < (w3).heap.size := by omega)))
      have k0 : World.cell? w3 ⟨w.heap.size + 1 + 1 + 1, 0, none⟩ = some (.int .i64 0) := ((hb3.cell (p := ⟨w.heap.size + 1 + 1 + 1, 0, none⟩) (by first | (simp; done) | (simp; omega) | omega)).trans ((hb2.cell (p := ⟨w.heap.size + 1 + 1 + 1, 0, none⟩) (by first | (simp; done) | (simp; omega) | omega)).trans ((hb1.cell (p := ⟨w.heap.size + 1 + 1 + 1, 0, none⟩) (by first | (simp; done) | (simp; omega) | omega)).trans (by simp [go_sem]))))
      have k1 : World.cell? w3 ⟨w.heap.size + 1 + 1 + 1, 1, none⟩ = some (.int .i64 0) := ((hb3.cell (p := ⟨w.heap.size + 1 + 1 + 1, 1, none⟩) (by first | (simp; done) | (simp; omega) | omega)).trans ((hb2.cell (p := ⟨w.heap.size + 1 + 1 + 1, 1, none⟩) (by first | (simp; done) | (simp; omega) | omega)).trans ((hb1.cell (p := ⟨w.heap.size + 1 + 1 + 1, 1, none⟩) (by first | (simp; done) | (simp; omega) | omega)).trans (by simp [go_sem]))))
      refine bodyPost_ret (v := .tuple #[.agg #[.int .i64 (lowN (-t + 2 * at_ * q) (2 * q)), .int .i64 (lowD (-t + 2 * at_ * q) (2 * q))], .int .i64 0]) (by simp [results, Try.results77, go_sem, k0, k1]) rfl ⟨ret_frac HN.out HD.out HC.out.symm, (by repeat' (first | (with_reducible exact Below.refl _ _) | (with_reducible assumption) | (with_reducible refine Base.via hb3 ?_) | (with_reducible refine Base.via hb2 ?_) | (with_reducible refine Base.via hb1 ?_) | (with_reducible refine Base.grow_alloc ?_ _) | (with_reducible refine Base.below_drewN ?_ _) | (with_reducible refine Below.drew ?_) | (with_reducible refine Below.setCell ?_ ?_ _) | go_size))⟩
  · have hv : ∀ w, Calls Try.prog 116 #[.agg #[.int .i64 at_, .int .i64 am], .agg #[.int .i64 bt, .int .i64 bm], .agg #[.int .i64 ct, .int .i64 cm]] w fun e w' => e = .returned (.tuple #[.int .i64 (-tiltV at_ am bt bm ct cm), .int .i64 0]) ∧ Below w.heap.size w w' := fun w => by rw [← hb]; exact c_l12Vertex at_ am bt bm ct cm w h hn
    have HN := Lib.hid (show (0 : Int) = verN at_ am bt bm ct cm by rw [verN, hc]; rfl)
    have HD := Lib.hid (show (0 : Int) = verD at_ am bt bm ct cm by rw [verD, hc]; rfl)
    have HC := Lib.hid hc
    have HK := Lib.hid (show (if okCurve 3 (tri at_ bt ct) (tri am bm cm) = true then (if 100000 < ct - at_ then (2 : Int) else 0) else 1) = 0 by rw [if_pos h, if_neg (by omega)])
    clear hc
    go_enter Try.func77, Try.ntmps77
    go_wp2_with (first | (go_at_call 115; refine (HK.out ▸ c_l12Code at_ am bt bm ct cm _).mono ?_; rintro e w1 ⟨rfl, hb1⟩; obtain ⟨chb1, fhb1⟩ := Base.bcell hb1; have zhb1 := (hb1).size; (try simp at zhb1); (try have y0hb1 : w.heap.size < (w1).heap.size := by omega); (try have y1hb1 : w.heap.size + 1 < (w1).heap.size := by omega); (try have y2hb1 : w.heap.size + 1 + 1 < (w1).heap.size := by omega); (try have y3hb1 : w.heap.size + 1 + 1 + 1 < (w1).heap.size := by omega)) | (go_at_call 116; refine (hv _).mono ?_; rintro e w2 ⟨rfl, hb2⟩; obtain ⟨chb2, fhb2⟩ := Base.bcell hb2; have zhb2 := (hb2).size; (try simp at zhb2); (try have y0hb2 : w.heap.size < (w2).heap.size := by omega); (try have y1hb2 : w.heap.size + 1 < (w2).heap.size := by omega); (try have y2hb2 : w.heap.size + 1 + 1 < (w2).heap.size := by omega); (try have y3hb2 : w.heap.size + 1 + 1 + 1 < (w2).heap.size := by omega)))
    have k0 : World.cell? w2 ⟨w.heap.size + 1 + 1 + 1, 0, none⟩ = some (.int .i64 0) := ((hb2.cell (p := ⟨w.heap.size + 1 + 1 + 1, 0, none⟩) (by first | (simp; done) | (simp; omega) | omega)).trans ((hb1.cell (p := ⟨w.heap.size + 1 + 1 + 1, 0, none⟩) (by first | (simp; done) | (simp; omega) | omega)).trans (by simp [go_sem])))
    have k1 : World.cell? w2 ⟨w.heap.size + 1 + 1 + 1, 1, none⟩ = some (.int .i64 0) := ((hb2.cell (p := ⟨w.heap.size + 1 + 1 + 1, 1, none⟩) (by first | (simp; done) | (simp; omega) | omega)).trans ((hb1.cell (p := ⟨w.heap.size + 1 + 1 + 1, 1, none⟩) (by first | (simp; done) | (simp; omega) | omega)).trans (by simp [go_sem])))
    refine bodyPost_ret (v := .tuple #[.agg #[.int .i64 0, .int .i64 0], .int .i64 6]) (by simp [results, Try.results77, go_sem, k0, k1]) rfl ⟨ret_frac HN.out HD.out HC.out.symm, (by repeat' (first | (with_reducible exact Below.refl _ _) | (with_reducible assumption) | (with_reducible refine Base.via hb2 ?_) | (with_reducible refine Base.via hb1 ?_) | (with_reducible refine Base.grow_alloc ?_ _) | (with_reducible refine Base.below_drewN ?_ _) | (with_reducible refine Below.drew ?_) | (with_reducible refine Below.setCell ?_ ?_ _) | go_size))⟩
  · have HN := Lib.hid (show (0 : Int) = verN at_ am bt bm ct cm by rw [verN, hc]; rfl)
    have HD := Lib.hid (show (0 : Int) = verD at_ am bt bm ct cm by rw [verD, hc]; rfl)
    have HC := Lib.hid hc
    have HK := Lib.hid (show (if okCurve 3 (tri at_ bt ct) (tri am bm cm) = true then (if 100000 < ct - at_ then (2 : Int) else 0) else 1) = 2 by rw [if_pos h, if_pos (by omega)])
    clear hc
    go_enter Try.func77, Try.ntmps77
    go_wp2_with (first | (go_at_call 115; refine (HK.out ▸ c_l12Code at_ am bt bm ct cm _).mono ?_; rintro e w1 ⟨rfl, hb1⟩; obtain ⟨chb1, fhb1⟩ := Base.bcell hb1; have zhb1 := (hb1).size; (try simp at zhb1); (try have y0hb1 : w.heap.size < (w1).heap.size := by omega); (try have y1hb1 : w.heap.size + 1 < (w1).heap.size := by omega); (try have y2hb1 : w.heap.size + 1 + 1 < (w1).heap.size := by omega); (try have y3hb1 : w.heap.size + 1 + 1 + 1 < (w1).heap.size := by omega)))
    have k0 : World.cell? w1 ⟨w.heap.size + 1 + 1 + 1, 0, none⟩ = some (.int .i64 0) := ((hb1.cell (p := ⟨w.heap.size + 1 + 1 + 1, 0, none⟩) (by first | (simp; done) | (simp; omega) | omega)).trans (by simp [go_sem]))
    have k1 : World.cell? w1 ⟨w.heap.size + 1 + 1 + 1, 1, none⟩ = some (.int .i64 0) := ((hb1.cell (p := ⟨w.heap.size + 1 + 1 + 1, 1, none⟩) (by first | (simp; done) | (simp; omega) | omega)).trans (by simp [go_sem]))
    refine bodyPost_ret (v := .tuple #[.agg #[.int .i64 0, .int .i64 0], .int .i64 2]) (by simp [results, Try.results77, go_sem, k0, k1]) rfl ⟨ret_frac HN.out HD.out HC.out.symm, (by repeat' (first | (with_reducible exact Below.refl _ _) | (with_reducible assumption) | (with_reducible refine Base.via hb1 ?_) | (with_reducible refine Base.grow_alloc ?_ _) | (with_reducible refine Base.below_drewN ?_ _) | (with_reducible refine Below.drew ?_) | (with_reducible refine Below.setCell ?_ ?_ _) | go_size))⟩
  · have HN := Lib.hid (show (0 : Int) = verN at_ am bt bm ct cm by rw [verN, hc]; rfl)
    have HD := Lib.hid (show (0 : Int) = verD at_ am bt bm ct cm by rw [verD, hc]; rfl)
    have HC := Lib.hid hc
    have HK := Lib.hid (show (if okCurve 3 (tri at_ bt ct) (tri am bm cm) = true then (if 100000 < ct - at_ then (2 : Int) else 0) else 1) = 1 by rw [h]; rfl)
    clear hc
    go_enter Try.func77, Try.ntmps77
    go_wp2_with (first | (go_at_call 115; refine (HK.out ▸ c_l12Code at_ am bt bm ct cm _).mono ?_; rintro e w1 ⟨rfl, hb1⟩; obtain ⟨chb1, fhb1⟩ := Base.bcell hb1; have zhb1 := (hb1).size; (try simp at zhb1); (try have y0hb1 : w.heap.size < (w1).heap.size := by omega); (try have y1hb1 : w.heap.size + 1 < (w1).heap.size := by omega); (try have y2hb1 : w.heap.size + 1 + 1 < (w1).heap.size := by omega); (try have y3hb1 : w.heap.size + 1 + 1 + 1 < (w1).heap.size := by omega)))
    have k0 : World.cell? w1 ⟨w.heap.size + 1 + 1 + 1, 0, none⟩ = some (.int .i64 0) := ((hb1.cell (p := ⟨w.heap.size + 1 + 1 + 1, 0, none⟩) (by first | (simp; done) | (simp; omega) | omega)).trans (by simp [go_sem]))
    have k1 : World.cell? w1 ⟨w.heap.size + 1 + 1 + 1, 1, none⟩ = some (.int .i64 0) := ((hb1.cell (p := ⟨w.heap.size + 1 + 1 + 1, 1, none⟩) (by first | (simp; done) | (simp; omega) | omega)).trans (by simp [go_sem]))
    refine bodyPost_ret (v := .tuple #[.agg #[.int .i64 0, .int .i64 0], .int .i64 1]) (by simp [results, Try.results77, go_sem, k0, k1]) rfl ⟨ret_frac HN.out HD.out HC.out.symm, (by repeat' (first | (with_reducible exact Below.refl _ _) | (with_reducible assumption) | (with_reducible refine Base.via hb1 ?_) | (with_reducible refine Base.grow_alloc ?_ _) | (with_reducible refine Base.below_drewN ?_ _) | (with_reducible refine Below.drew ?_) | (with_reducible refine Below.setCell ?_ ?_ _) | go_size))⟩
end Go.Proofs.Ytiinjnghnfofpaa.Vertex
