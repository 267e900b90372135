/- The time of the vertex, the program's side. -/
import Derived.Test.YtfpipbajlokheaaVertex
namespace Go.Proofs.Ytfpipbajlokheaa.Vertex2
set_option linter.unusedVariables false
set_option linter.unusedSimpArgs false
open Go.RowKit Plain Num View Curve Curve2 Frac Vertex

set_option maxHeartbeats 1600000 in
theorem c_VertexTime (at_ am bt bm ct cm : Int) (w : World) :
    Calls Try.prog 32 #[.agg #[.int .i64 at_, .int .i64 am], .agg #[.int .i64 bt, .int .i64 bm], .agg #[.int .i64 ct, .int .i64 cm]] w fun e w' => e = .returned (.tuple #[.agg #[.int .i64 (verN at_ am bt bm ct cm), .int .i64 (verD at_ am bt bm ct cm)], .int .i64 (verC at_ am bt bm ct cm)]) ∧ Below w.heap.size w w' := by
  by_cases hc : verC at_ am bt bm ct cm = 0
  · have h : okCurve 3 (tri at_ bt ct) (tri am bm cm) = true ∧ ct - at_ ≤ 100000 ∧ bendV at_ am bt bm ct cm ≠ 0 := by rcases ver_cases at_ am bt bm ct cm with ⟨h, hn, hb, _⟩ | ⟨_, _, _, hx⟩ | ⟨_, _, hx⟩ | ⟨_, hx⟩ <;> first | exact ⟨h, hn, hb⟩ | omega
    obtain ⟨h, hn, hb⟩ := h
    obtain ⟨h1, h2, h3, h4⟩ := tri_bd h
    obtain ⟨b1, b2, b3, b4⟩ := ver_bd h hn
    obtain ⟨q, hq⟩ : ∃ q, q = (cm - am) * (bt - at_) - (bm - am) * (ct - at_) := ⟨_, rfl⟩
    obtain ⟨t, ht⟩ : ∃ t, t = (bm - am) * (ct - at_) * (ct - at_) - (cm - am) * (bt - at_) * (bt - at_) := ⟨_, rfl⟩
    have HN := Lib.hid (show lowN (at_ * 2 * q - t) (2 * q) = verN at_ am bt bm ct cm by rw [verN, if_pos hc, hq, ht]; rfl)
    have HD := Lib.hid (show lowD (at_ * 2 * q - t) (2 * q) = verD at_ am bt bm ct cm by rw [verD, if_pos hc, hq, ht]; rfl)
    have hq0 : q ≠ 0 := by rw [hq]; exact hb
    have bq : -4400000000 ≤ q ∧ q ≤ 4400000000 := by rw [hq]; omega
    have bt_ : -440000000000000 ≤ t ∧ t ≤ 440000000000000 := by rw [ht]; omega
    have hz := mul_bd (a := at_ * 2) (b := q) (A := 20000000) (B := 4400000000) (by omega) (by omega) (by omega) (by omega)
    have HB := Lib.hid (show ∀ w, Calls Try.prog 82 #[.agg #[.int .i64 (bt - at_), .int .i64 (ct - at_), .int .i64 (bm - am), .int .i64 (cm - am)]] w fun e w' => e = .returned (.int .i64 q) ∧ Below w.heap.size w w' from fun w => by rw [hq]; exact c_bend _ _ _ _ w b1 b2)
    have HT := Lib.hid (show ∀ w, Calls Try.prog 83 #[.agg #[.int .i64 (bt - at_), .int .i64 (ct - at_), .int .i64 (bm - am), .int .i64 (cm - am)]] w fun e w' => e = .returned (.int .i64 t) ∧ Below w.heap.size w w' from fun w => by rw [ht]; exact c_tilt _ _ _ _ w b1 b2 b3 b4)
    have HL := Lib.hid (show ∀ w, Calls Try.prog 81 #[.int .i64 (at_ * 2 * q - t), .int .i64 (2 * q)] w fun e w' => e = .returned (.agg #[.int .i64 (lowN (at_ * 2 * q - t) (2 * q)), .int .i64 (lowD (at_ * 2 * q - t) (2 * q))]) ∧ Below w.heap.size w w' from fun w => c_lowest _ _ w (by omega) (by omega) (by omega) (by omega) (by omega))
    have e1 : IntKind.i64.wrap (at_ * 2) = at_ * 2 := IntWalk.i64_in _ (by omega)
    have e2 : IntKind.i64.wrap (at_ * 2 * q) = at_ * 2 * q := IntWalk.i64_in _ (by omega)
    have e3 : IntKind.i64.wrap (at_ * 2 * q - t) = at_ * 2 * q - t := IntWalk.i64_in _ (by omega)
    have e4 : IntKind.i64.wrap (2 * q) = 2 * q := IntWalk.i64_in _ (by omega)
    have HC := Lib.hid hc
    clear hb hq ht b1 b2 b3 b4 h1 h2 h3 h4 bq bt_ hz h hn hq0
    go_enter Try.func32, Try.ntmps32
    go_wp2_with (first | (go_at_call 80; refine (c_parabolaOf at_ am bt bm ct cm _).mono ?_))
    rintro e w1 ⟨⟨x0, x1, x2, x3, rfl, hx⟩, hb1⟩
    obtain ⟨rfl, rfl, rfl, rfl⟩ := hx hc
    obtain ⟨chb1, fhb1⟩ := Base.bcell hb1
    have zhb1 := hb1.size
    simp at zhb1
    go_wp2
    have q1 : w.heap.size + 1 + 1 + 1 < w1.heap.size := by omega
    have q0 : w.heap.size < w1.heap.size := by omega
    obtain ⟨wo, hwo⟩ : ∃ wo : World, wo = w1.alloc (.cells #[.int .i64 (bt - at_), .int .i64 (ct - at_), .int .i64 (bm - am), .int .i64 (cm - am)] 90) := ⟨_, rfl⟩
    have zo : wo.heap.size = w1.heap.size + 1 := by rw [hwo]; simp
    have q2 : w.heap.size + 1 + 1 + 1 < wo.heap.size := by omega
    have q3 : w1.heap.size < wo.heap.size := by omega
    have ho : Below w1.heap.size w1 wo := by rw [hwo]; exact (by repeat' (first | (with_reducible exact Below.refl _ _) | (with_reducible assumption) | (with_reducible refine Base.grow_alloc ?_ _) | (with_reducible refine Base.below_drewN ?_ _) | (with_reducible refine Below.drew ?_) | (with_reducible refine Below.setCell ?_ ?_ _) | go_size))
    have s0 : wo.cell? ⟨w.heap.size, 0, none⟩ = some (.int .i64 at_) := (ho.cell (p := ⟨w.heap.size, 0, none⟩) q0).trans ((hb1.cell (p := ⟨w.heap.size, 0, none⟩) (by simp; omega)).trans (by simp [go_sem]))
    have s1 : wo.cell? ⟨w1.heap.size, 0, none⟩ = some (.int .i64 (bt - at_)) := by rw [hwo]; simp
    have s2 : wo.cell? ⟨w1.heap.size, 1, none⟩ = some (.int .i64 (ct - at_)) := by rw [hwo]; simp
    have s3 : wo.cell? ⟨w1.heap.size, 2, none⟩ = some (.int .i64 (bm - am)) := by rw [hwo]; simp
    have s4 : wo.cell? ⟨w1.heap.size, 3, none⟩ = some (.int .i64 (cm - am)) := by rw [hwo]; simp
    have t0 : wo.cell? ⟨w.heap.size + 1 + 1 + 1, 0, none⟩ = some (.int .i64 0) := (ho.cell (p := ⟨w.heap.size + 1 + 1 + 1, 0, none⟩) q1).trans ((hb1.cell (p := ⟨w.heap.size + 1 + 1 + 1, 0, none⟩) (by simp)).trans (by simp [go_sem]))
    have t1 : wo.cell? ⟨w.heap.size + 1 + 1 + 1, 1, none⟩ = some (.int .i64 0) := (ho.cell (p := ⟨w.heap.size + 1 + 1 + 1, 1, none⟩) q1).trans ((hb1.cell (p := ⟨w.heap.size + 1 + 1 + 1, 1, none⟩) (by simp)).trans (by simp [go_sem]))
    have u0 : wo.frozen? ⟨w.heap.size + 1 + 1 + 1, 0, none⟩ = false := (ho.frozen (p := ⟨w.heap.size + 1 + 1 + 1, 0, none⟩) q1).trans ((hb1.frozen (p := ⟨w.heap.size + 1 + 1 + 1, 0, none⟩) (by simp)).trans (by simp [go_sem]))
    have u1 : wo.frozen? ⟨w.heap.size + 1 + 1 + 1, 1, none⟩ = false := (ho.frozen (p := ⟨w.heap.size + 1 + 1 + 1, 1, none⟩) q1).trans ((hb1.frozen (p := ⟨w.heap.size + 1 + 1 + 1, 1, none⟩) (by simp)).trans (by simp [go_sem]))
    have hbo : Below w.heap.size w wo := by rw [hwo]; exact (by repeat' (first | (with_reducible exact Below.refl _ _) | (with_reducible assumption) | (with_reducible refine Base.via hb1 ?_) | (with_reducible refine Base.grow_alloc ?_ _) | (with_reducible refine Base.below_drewN ?_ _) | (with_reducible refine Below.drew ?_) | (with_reducible refine Below.setCell ?_ ?_ _) | go_size))
    rw [← hwo]
    clear hwo chb1 fhb1 hb1 ho
    go_region_held3 (fun W => (W.cell? ⟨w.heap.size, 0, none⟩ = some (.int .i64 at_) ∧ W.cell? ⟨w1.heap.size, 0, none⟩ = some (.int .i64 (bt - at_)) ∧ W.cell? ⟨w1.heap.size, 1, none⟩ = some (.int .i64 (ct - at_)) ∧ W.cell? ⟨w1.heap.size, 2, none⟩ = some (.int .i64 (bm - am)) ∧ W.cell? ⟨w1.heap.size, 3, none⟩ = some (.int .i64 (cm - am)) ∧ W.cell? ⟨w.heap.size + 1 + 1 + 1, 0, none⟩ = some (cv W ⟨w.heap.size + 1 + 1 + 1, 0, none⟩) ∧ W.cell? ⟨w.heap.size + 1 + 1 + 1, 1, none⟩ = some (cv W ⟨w.heap.size + 1 + 1 + 1, 1, none⟩) ∧ W.frozen? ⟨w.heap.size + 1 + 1 + 1, 0, none⟩ = false ∧ W.frozen? ⟨w.heap.size + 1 + 1 + 1, 1, none⟩ = false) ∧ Below w.heap.size w W)
 (first | (obtain ⟨⟨c0, c1, c2, c3, c4, c5, c6, c7, c8⟩, hs⟩ := ‹_ ∧ Below w.heap.size w _›; exact ⟨⟨cell_call hb1 c0, cell_call hb1 c1, cell_call hb1 c2, cell_call hb1 c3, cell_call hb1 c4, cv_call hb1 c5, cv_call hb1 c6, fr_call hb1 c5 c7, fr_call hb1 c6 c8⟩, Base.via hb1 hs⟩) | (obtain ⟨⟨c0, c1, c2, c3, c4, c5, c6, c7, c8⟩, hs⟩ := ‹_ ∧ Below w.heap.size w _›; exact ⟨⟨cell_call hb2 c0, cell_call hb2 c1, cell_call hb2 c2, cell_call hb2 c3, cell_call hb2 c4, cv_call hb2 c5, cv_call hb2 c6, fr_call hb2 c5 c7, fr_call hb2 c6 c8⟩, Base.via hb2 hs⟩) | (obtain ⟨⟨c0, c1, c2, c3, c4, c5, c6, c7, c8⟩, hs⟩ := ‹_ ∧ Below w.heap.size w _›; exact ⟨⟨cell_call hb3 c0, cell_call hb3 c1, cell_call hb3 c2, cell_call hb3 c3, cell_call hb3 c4, cv_call hb3 c5, cv_call hb3 c6, fr_call hb3 c5 c7, fr_call hb3 c6 c8⟩, Base.via hb3 hs⟩) | (obtain ⟨⟨c0, c1, c2, c3, c4, c5, c6, c7, c8⟩, hs⟩ := ‹_ ∧ Below w.heap.size w _›; exact ⟨⟨cell_store (by first | (simp; done) | (simp; omega)) (cell_store (by first | (simp; done) | (simp; omega)) c0), cell_store (by first | (simp; done) | (simp; omega)) (cell_store (by first | (simp; done) | (simp; omega)) c1), cell_store (by first | (simp; done) | (simp; omega)) (cell_store (by first | (simp; done) | (simp; omega)) c2), cell_store (by first | (simp; done) | (simp; omega)) (cell_store (by first | (simp; done) | (simp; omega)) c3), cell_store (by first | (simp; done) | (simp; omega)) (cell_store (by first | (simp; done) | (simp; omega)) c4), cv_store (cv_store c5), cv_store (cv_store c6), fr_store (fr_store c7), fr_store (fr_store c8)⟩, (by repeat' (first | (with_reducible exact Below.refl _ _) | (with_reducible assumption) | (with_reducible refine Base.grow_alloc ?_ _) | (with_reducible refine Base.below_drewN ?_ _) | (with_reducible refine Below.drew ?_) | (with_reducible refine Below.setCell ?_ ?_ _) | go_size))⟩) | exact ⟨⟨cell_drew (by assumption), cell_drew (by assumption), cell_drew (by assumption), cell_drew (by assumption), cell_drew (by assumption), cv_drew (cv_of (by assumption)), cv_drew (cv_of (by assumption)), fr_drew (by assumption), fr_drew (by assumption)⟩, (by repeat' (first | (with_reducible exact Below.refl _ _) | (with_reducible assumption) | (with_reducible refine Base.via hbo ?_) | (with_reducible refine Base.grow_alloc ?_ _) | (with_reducible refine Base.below_drewN ?_ _) | (with_reducible refine Below.drew ?_) | (with_reducible refine Below.setCell ?_ ?_ _) | go_size))⟩)
 ((first | (go_at_call 82; refine (HB.out _).mono ?_; rintro e w2 ⟨rfl, hb1⟩) | (go_at_call 83; refine (HT.out _).mono ?_; rintro e w3 ⟨rfl, hb2⟩) | (go_at_call 81; refine (HL.out _).mono ?_; rintro e w4 ⟨rfl, hb3⟩; obtain ⟨⟨_, _, _, _, _, m0, m1, _, _⟩, _⟩ := ‹_ ∧ Below w.heap.size w _›; have k0 := cv_call hb3 m0; have k1 := cv_call hb3 m1)))
    obtain ⟨_, hE⟩ := ‹_ ∧ Below w.heap.size w _›
    go_wp2
    refine bodyPost_ret (v := .tuple #[.agg #[.int .i64 (lowN (at_ * 2 * q - t) (2 * q)), .int .i64 (lowD (at_ * 2 * q - t) (2 * q))], .int .i64 0]) (by simp [results, Try.results32, go_sem, k0, k1]) rfl ⟨Vertex.ret_frac HN.out HD.out HC.out.symm, (by repeat' (first | (with_reducible exact Below.refl _ _) | (with_reducible assumption) | (with_reducible refine Base.grow_alloc ?_ _) | (with_reducible refine Base.below_drewN ?_ _) | (with_reducible refine Below.drew ?_) | (with_reducible refine Below.setCell ?_ ?_ _) | go_size))⟩
  · have HN := Lib.hid (show (0 : Int) = verN at_ am bt bm ct cm by rw [verN, if_neg hc])
    have HD := Lib.hid (show (0 : Int) = verD at_ am bt bm ct cm by rw [verD, if_neg hc])
    have hc' : (verC at_ am bt bm ct cm != 0) = true := by simpa using hc
    go_enter Try.func32, Try.ntmps32
    go_wp2_with (first | (go_at_call 80; refine (c_parabolaOf at_ am bt bm ct cm _).mono ?_))
    rintro e w1 ⟨⟨x0, x1, x2, x3, rfl, hx⟩, hb1⟩
    obtain ⟨chb1, fhb1⟩ := Base.bcell hb1
    have zhb1 := hb1.size
    simp at zhb1
    have q1 : w.heap.size + 1 + 1 + 1 < w1.heap.size := by omega
    have k0 : World.cell? w1 ⟨w.heap.size + 1 + 1 + 1, 0, none⟩ = some (.int .i64 0) := ((hb1.cell (p := ⟨w.heap.size + 1 + 1 + 1, 0, none⟩) (by first | (simp; done) | (simp; omega) | omega)).trans (by simp [go_sem]))
    have k1 : World.cell? w1 ⟨w.heap.size + 1 + 1 + 1, 1, none⟩ = some (.int .i64 0) := ((hb1.cell (p := ⟨w.heap.size + 1 + 1 + 1, 1, none⟩) (by first | (simp; done) | (simp; omega) | omega)).trans (by simp [go_sem]))
    go_wp2
    refine bodyPost_ret (v := .tuple #[.agg #[.int .i64 0, .int .i64 0], .int .i64 (verC at_ am bt bm ct cm)]) (by simp [results, Try.results32, go_sem, q1, k0, k1]) rfl ⟨Vertex.ret_frac HN.out HD.out rfl, (by repeat' (first | (with_reducible exact Below.refl _ _) | (with_reducible assumption) | (with_reducible refine Base.via hb1 ?_) | (with_reducible refine Base.grow_alloc ?_ _) | (with_reducible refine Base.below_drewN ?_ _) | (with_reducible refine Below.drew ?_) | (with_reducible refine Below.setCell ?_ ?_ _) | go_size))⟩
end Go.Proofs.Ytfpipbajlokheaa.Vertex2
