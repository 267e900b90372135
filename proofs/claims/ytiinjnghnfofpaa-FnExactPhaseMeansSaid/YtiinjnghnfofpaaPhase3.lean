/- The statements' numbers of points of the bins of phases. -/
import Derived.Test.YtiinjnghnfofpaaPhase2
namespace Go.Proofs.Ytiinjnghnfofpaa.Phase
set_option linter.unusedVariables false
set_option linter.unusedSimpArgs false
set_option maxRecDepth 8000
open Go.RowKit Plain Num View Mags Curve Curve2 DisB Eph Frac

theorem upd_cnt {n : Nat} {B M : Nat → Int} {x m : Nat} (hx : B n = (x : Int)) (i : Nat) (_ : i < m) (j : Nat) (hj : j < 1) : upd (f1 (cntI n B M)) x 0 (.int .i64 (cntI n B M x + 1)) i j = f1 (cntI (n + 1) B M) i j := by
  have : j = 0 := by omega
  subst this
  unfold upd f1
  rw [cnt_succ, hx]
  by_cases e : i = x
  · subst e; simp
  · rw [if_neg (by simp [e]), if_neg (by omega)]
theorem upd_sum {n : Nat} {B M : Nat → Int} {x m : Nat} (hx : B n = (x : Int)) (i : Nat) (_ : i < m) (j : Nat) (hj : j < 1) : upd (f1 (sumI n B M)) x 0 (.int .i64 (sumI n B M x + M n)) i j = f1 (sumI (n + 1) B M) i j := by
  have : j = 0 := by omega
  subst this
  unfold upd f1
  rw [sum_succ, hx]
  by_cases e : i = x
  · subst e; simp
  · rw [if_neg (by simp [e]), if_neg (by omega)]
set_option maxHeartbeats 1600000 in
theorem c_l09Sums (A : Option Addr) (n c m : Nat) (T M : Nat → Int) (e p : Int) (w : World) (hv : Sl w 2 A n c (f2 T M)) (he : okEph e p = true) (hok : okCurve n T M = true) (hm : 1 ≤ m ∧ m ≤ 50) :
    Calls Try.prog 83 #[.agg #[.int .i64 e, .int .i64 p], .slice A n c, .int .i64 m] w fun r w' => ∃ a b, r = .returned (.tuple #[.slice (some ⟨a, 0, none⟩) m m, .slice (some ⟨b, 0, none⟩) m m]) ∧ w.heap.size ≤ a ∧ w.heap.size ≤ b ∧ RowK w' a 2 1 m (f1 (cntI n (phB e p m T) M)) ∧ RowK w' b 2 1 m (f1 (sumI n (phB e p m T) M)) ∧ Below w.heap.size w w' := by
  have hn := hv.le
  obtain ⟨h100, hT, hM, _⟩ := okCurve_bd hok
  obtain ⟨eb, hp⟩ := okEph_bd he
  have hmb : 1 ≤ (m : Int) ∧ (m : Int) ≤ 50 := by omega
  obtain ⟨i0, hi0, hz0, hz1, hz2⟩ := info_parts Disp.infoI
  have hmk := fun W => run_make_rowN (P := Try.prog) 46 2 i0 _ Try.underlying46 hi0 hz0 m (by rw [hz2]; omega) (by omega) W
  rw [hz1] at hmk
  have hzero : ∀ W : World, RowK (W.alloc (.cells (madeCells #[.int .i64 0] m) 2)) W.heap.size 2 1 m (fun _ _ => .int .i64 0) :=
    fun W => RowK.made _ (by rw [size_madeCells]; omega) (fun i hi j hj => by have := made_at1 m (i * 1 + j) (by omega) (v := .int .i64 0); simpa using this)
  have HZ := Lib.hid hzero
  have HT := Lib.hid hT
  have HM := Lib.hid hM
  have HBD := Lib.hid (fun i => ph_bd (T := T) (e := e) hp hmb i)
  have HCN := Lib.hid (fun k x => cnt_bd k (phB e p m T) M x)
  have HSM := Lib.hid (fun k (hk : k ≤ n) x => sum_bd (n := k) (B := phB e p m T) (M := M) (by omega) (fun i hi => hM i (by omega)) x)
  have HPH := Lib.hid (fun t W (ht : 0 ≤ t ∧ t ≤ 10000000) => c_l09Phase e p t W eb hp ht)
  clear hT hM hzero
  go_enter Try.func83, Try.ntmps83
  go_wp2
  generalize hw1 : w.alloc (.cells #[.int .i64 e, .int .i64 p] _) = w1
  have k0 : w1.cell? ⟨w.heap.size, 0, none⟩ = some (.int .i64 e) := by rw [← hw1]; simp
  have k1 : w1.cell? ⟨w.heap.size, 1, none⟩ = some (.int .i64 p) := by rw [← hw1]; simp
  have hb1 : Below w.heap.size w w1 := by rw [← hw1]; exact (by repeat' (first | (with_reducible exact Below.refl _ _) | (with_reducible assumption) | (with_reducible refine Base.grow_alloc ?_ _) | (with_reducible refine Base.below_drewN ?_ _) | (with_reducible refine Below.drew ?_) | (with_reducible refine Below.setCell ?_ ?_ _) | go_size))
  have hz1w : w1.heap.size = w.heap.size + 1 := by rw [← hw1]; simp
  clear hw1
  generalize hw2 : w1.alloc (.cells (madeCells #[.int .i64 0] m) 2) = w2
  have r1 := HZ.out w1
  rw [hw2] at r1
  have hb2 : Below w1.heap.size w1 w2 := by rw [← hw2]; exact (by repeat' (first | (with_reducible exact Below.refl _ _) | (with_reducible assumption) | (with_reducible refine Base.grow_alloc ?_ _) | (with_reducible refine Base.below_drewN ?_ _) | (with_reducible refine Below.drew ?_) | (with_reducible refine Below.setCell ?_ ?_ _) | go_size))
  have hz2w : w2.heap.size = w1.heap.size + 1 := by rw [← hw2]; simp
  clear hw2
  generalize hw3 : w2.alloc (.cells (madeCells #[.int .i64 0] m) 2) = w3
  have r2 := HZ.out w2
  rw [hw3] at r2
  have hb3 : Below w2.heap.size w2 w3 := by rw [← hw3]; exact (by repeat' (first | (with_reducible exact Below.refl _ _) | (with_reducible assumption) | (with_reducible refine Base.grow_alloc ?_ _) | (with_reducible refine Base.below_drewN ?_ _) | (with_reducible refine Below.drew ?_) | (with_reducible refine Below.setCell ?_ ?_ _) | go_size))
  clear hw3
  have r1' := r1.below hb3 r1.lt
  have y0 := cell_call (hb2.trans (hb3.mono hb2.size)) k0
  have y1 := cell_call (hb2.trans (hb3.mono hb2.size)) k1
  have hbw : Below w.heap.size w w3 := (by repeat' (first | (with_reducible exact Below.refl _ _) | (with_reducible assumption) | (with_reducible refine Base.via hb1 ?_) | (with_reducible refine Base.via hb2 ?_) | (with_reducible refine Base.via hb3 ?_) | (with_reducible refine Base.grow_alloc ?_ _) | (with_reducible refine Base.below_drewN ?_ _) | (with_reducible refine Below.drew ?_) | (with_reducible refine Below.setCell ?_ ?_ _) | go_size))
  rw [hz1w] at r1'
  rw [hz2w, hz1w] at r2
  clear k0 k1 r1
  go_loopw [10, 11] (fun i _ wr => ∃ k : Nat, k ≤ n ∧ i = .int .i64 k ∧ RowK wr (w.heap.size + 1) 2 1 m (f1 (cntI k (phB e p m T) M)) ∧ RowK wr (w.heap.size + 1 + 1) 2 1 m (f1 (sumI k (phB e p m T) M)) ∧ wr.cell? ⟨w.heap.size, 0, none⟩ = some (.int .i64 e) ∧ wr.cell? ⟨w.heap.size, 1, none⟩ = some (.int .i64 p) ∧ Below w.heap.size w wr) (fun i _ _ => n - (intOf i).toNat)
  case atStart => exact ⟨0, Nat.zero_le _, rfl, r1', r2, y0, y1, hbw⟩
  case round =>
    obtain ⟨k, hk, rfl, q1, q2, x0, x1, hbr⟩ := hrel
    by_cases hlt : k < n
    · obtain ⟨b, off, rfl, hbw0, hc00⟩ := hv.at_ (by omega)
      obtain ⟨b', off', e0, hb, hc⟩ := (hv.below hbr).at_ (by omega)
      injection e0 with e0
      injection e0 with e1 e2
      subst e1; subst e2
      clear hc00
      obtain ⟨h0, h1⟩ := cells2 hc k hlt
      obtain ⟨y1, y2, y3, y4, q5, q6, y7, y8⟩ := HBD.out k
      have hTk := HT.out k hlt
      have hMk := HM.out k hlt
      obtain ⟨x, hx⟩ : ∃ x : Nat, phB e p m T k = x := ⟨(phB e p m T k).toNat, by omega⟩
      have hxm : x < m := by omega
      have HX := Lib.hid hx
      have hx' : (m : Int) * ((T k - e) % p) / p = x := hx
      have HPK := Lib.hid (fun W => HPH.out (T k) W hTk)
      obtain ⟨ph, hph⟩ : ∃ ph, (T k - e) % p = ph := ⟨_, rfl⟩
      rw [hph] at hx' HPK y1 y2 y3 y4 y7 y8
      have ea : IntKind.i64.wrap ((m : Int) * ph) = (m : Int) * ph := IntWalk.i64_in _ (by omega)
      have eb' : IntKind.i64.wrap (x : Int) = x := IntWalk.i64_in _ (by omega)
      have hp0 : ¬ p = 0 := by omega
      have etd : IntKind.i64.wrap (((m : Int) * ph).tdiv p) = x := by rw [Int.tdiv_eq_ediv_of_nonneg y3, hx']; exact eb'
      have c0 := q1.cell1 hxm
      have c1 := q1.frozen x
      have d0 := q2.cell1 hxm
      have d1 := q2.frozen x
      have hcn := HCN.out k x
      have hsm := HSM.out k hk x
      simp only [f1] at c0 d0
      have g1 := q1.lt
      have g2 := q2.lt
      clear hc q5 q6 hph hx
      go_wp2
      go_region_held3 (fun W => (W.cell? ⟨w.heap.size, 0, none⟩ = some (.int .i64 e) ∧ W.cell? ⟨w.heap.size, 1, none⟩ = some (.int .i64 p) ∧ W.cell? ⟨b, off + k * 2, none⟩ = some (.int .i64 (T k))) ∧ Below wr.heap.size wr W)
        (first | exact ⟨⟨cell_drew x0, cell_drew x1, cell_drew h0⟩, (by repeat' (first | (with_reducible exact Below.refl _ _) | (with_reducible assumption) | (with_reducible refine Base.grow_alloc ?_ _) | (with_reducible refine Base.below_drewN ?_ _) | (with_reducible refine Below.drew ?_) | (with_reducible refine Below.setCell ?_ ?_ _) | go_size))⟩ | exact ⟨⟨cell_call hb4 x0, cell_call hb4 x1, cell_call hb4 h0⟩, (by repeat' (first | (with_reducible exact Below.refl _ _) | (with_reducible assumption) | (with_reducible refine Base.via hb4 ?_) | (with_reducible refine Base.grow_alloc ?_ _) | (with_reducible refine Base.below_drewN ?_ _) | (with_reducible refine Below.drew ?_) | (with_reducible refine Below.setCell ?_ ?_ _) | go_size))⟩)
        (first | (go_at_call 122; refine (HPK.out _).mono ?_; rintro r4 w4 ⟨rfl, hb4⟩))
      have hb4' : Below wr.heap.size wr w4 := (by repeat' (first | (with_reducible exact Below.refl _ _) | (with_reducible assumption) | (with_reducible refine Base.via hb4 ?_) | (with_reducible refine Base.grow_alloc ?_ _) | (with_reducible refine Base.below_drewN ?_ _) | (with_reducible refine Below.drew ?_) | (with_reducible refine Below.setCell ?_ ?_ _) | go_size))
      have q1 := q1.below hb4' q1.lt
      have q2 := q2.below hb4' q2.lt
      have c0 := q1.cell1 hxm
      have c1 := q1.frozen x
      simp only [f1] at c0
      have z1 := cell_call hb4' h1
      have x0 := cell_call hb4' x0
      have x1 := cell_call hb4' x1
      have g1 := q1.lt
      have g2 := q2.lt
      clear d0 d1 h0 h1
      go_wp2
      have hb5 : Below w.heap.size w (w4.setCell ⟨w.heap.size + 1, x, none⟩ (.int .i64 (cntI k (phB e p m T) M x + 1))) := (by repeat' (first | (with_reducible exact Below.refl _ _) | (with_reducible assumption) | (with_reducible refine Base.via hb4' ?_) | (with_reducible refine Base.via hbr ?_) | (with_reducible refine Base.grow_alloc ?_ _) | (with_reducible refine Base.below_drewN ?_ _) | (with_reducible refine Below.drew ?_) | (with_reducible refine Below.setCell ?_ ?_ _) | go_size))
      have t1 := (q1.set1 hxm (.int .i64 (cntI k (phB e p m T) M x + 1))).congr (upd_cnt HX.out)
      have t2 := q2.far (p := ⟨w.heap.size + 1, x, none⟩) (by simp) (.int .i64 (cntI k (phB e p m T) M x + 1))
      have z1 := cell_store (q := ⟨w.heap.size + 1, x, none⟩) (u := .int .i64 (cntI k (phB e p m T) M x + 1)) (by simp; omega) z1
      have x0 := cell_store (q := ⟨w.heap.size + 1, x, none⟩) (u := .int .i64 (cntI k (phB e p m T) M x + 1)) (by simp) x0
      have x1 := cell_store (q := ⟨w.heap.size + 1, x, none⟩) (u := .int .i64 (cntI k (phB e p m T) M x + 1)) (by simp) x1
      generalize w4.setCell ⟨w.heap.size + 1, x, none⟩ (.int .i64 (cntI k (phB e p m T) M x + 1)) = w5 at hb5 t1 t2 z1 x0 x1 ⊢
      have d0 := t2.cell1 hxm
      have d1 := t2.frozen x
      simp only [f1] at d0
      have g5 := t2.lt
      clear c0 c1 hb4 hb4' q1 q2 g1 g2
      go_still_tail 11, (by kernel_rfl)
      change wpList _ _ _ _ _ w5.drew
      go_wp2
      go_roundw
      case rel => exact ⟨k + 1, by omega, by go_num, t1.drew.far (by simp) _, (t2.drew.set1 hxm _).congr (upd_sum HX.out), cell_store (by simp; omega) x0, cell_store (by simp; omega) x1, (by repeat' (first | (with_reducible exact Below.refl _ _) | (with_reducible assumption) | (with_reducible refine Base.via hb5 ?_) | (with_reducible refine Base.grow_alloc ?_ _) | (with_reducible refine Base.below_drewN ?_ _) | (with_reducible refine Below.drew ?_) | (with_reducible refine Below.setCell ?_ ?_ _) | go_size))⟩
      case measure => simp [intOf]; omega
    · have hkn : k = n := by omega
      subst hkn
      go_wp2
      go_ret2
      exact ⟨_, _, rfl, by omega, by omega, q1, q2, hbr⟩
set_option maxHeartbeats 800000 in
theorem c_specPhaseCounts (e p : Int) (A : Option Addr) (n c : Nat) (T M : Nat → Int) (b : Int) (w : World) (hv : Sl w 2 A n c (f2 T M)) :
    Calls Try.prog 28 #[.agg #[.int .i64 e, .int .i64 p], .slice A n c, .int .i64 b] w fun r w' => ∃ v, r = .returned (.tuple #[v, .int .i64 (phC n T M e p b)]) ∧ OwnK w' w.heap.size 2 1 v (phL n T M e p b) (f1 (cntI n (phB e p b T) M)) ∧ Below w.heap.size w w' := by
  have hn := hv.le
  by_cases hph : phC n T M e p b = 0
  · obtain ⟨h1, h2, h3⟩ := ph_ok hph
    obtain ⟨b1, b2⟩ := inB_iff.1 h3
    obtain ⟨m, rfl⟩ : ∃ m : Nat, b = m := ⟨b.toNat, by omega⟩
    have hm : 1 ≤ m ∧ m ≤ 50 := by omega
    have hq : (phC n T M e p m != 0) = false := by simp [hph]
    have HN := Lib.hid (show phL n T M e p m = m by rw [phL, if_pos hph, Int.toNat_natCast])
    have HC := Lib.hid hph
    clear hph
    go_enter Try.func28, Try.ntmps28
    go_wp2_with (first | (go_at_call 82; refine (c_l09Bins _ _ _ T M e p m _ (hv.below (by repeat' (first | (with_reducible exact Below.refl _ _) | (with_reducible assumption) | (with_reducible refine Base.grow_alloc ?_ _) | (with_reducible refine Base.below_drewN ?_ _) | (with_reducible refine Below.drew ?_) | (with_reducible refine Below.setCell ?_ ?_ _) | go_size)))).mono ?_; rintro e w1 ⟨rfl, hb1⟩; obtain ⟨chb1, fhb1⟩ := Base.bcell hb1; have zhb1 := (hb1).size; (try simp at zhb1); (try have yhb1 : w.heap.size < (w1).heap.size := by omega)))
    have k0 : World.cell? w1 ⟨w.heap.size, 0, none⟩ = some (.int .i64 e) := ((hb1.cell (p := ⟨w.heap.size, 0, none⟩) (by first | (simp; done) | (simp; omega) | omega)).trans (by simp [go_sem]))
    have k1 : World.cell? w1 ⟨w.heap.size, 1, none⟩ = some (.int .i64 p) := ((hb1.cell (p := ⟨w.heap.size, 1, none⟩) (by first | (simp; done) | (simp; omega) | omega)).trans (by simp [go_sem]))
    go_wp2_with (first | (go_at_call 83; refine (c_l09Sums _ _ _ m T M e p _ (hv.below (by repeat' (first | (with_reducible exact Below.refl _ _) | (with_reducible assumption) | (with_reducible refine Base.via hb1 ?_) | (with_reducible refine Base.grow_alloc ?_ _) | (with_reducible refine Base.below_drewN ?_ _) | (with_reducible refine Below.drew ?_) | (with_reducible refine Below.setCell ?_ ?_ _) | go_size))) h1 h2 hm).mono ?_))
    rintro r w2 ⟨ga, gb, rfl, ha, hb, ra, rb, hb2⟩
    go_wp2
    go_ret2
    exact ⟨_, ret_o HC.out.symm, by rw [HN.out]; exact OwnK.of_row (by omega) (Nat.le_trans (Below.size (by repeat' (first | (with_reducible exact Below.refl _ _) | (with_reducible assumption) | (with_reducible refine Base.via hb1 ?_) | (with_reducible refine Base.grow_alloc ?_ _) | (with_reducible refine Base.below_drewN ?_ _) | (with_reducible refine Below.drew ?_) | (with_reducible refine Below.setCell ?_ ?_ _) | go_size))) ha) ra, (by repeat' (first | (with_reducible exact Below.refl _ _) | (with_reducible assumption) | (with_reducible refine Base.via hb1 ?_) | (with_reducible refine Base.via hb2 ?_) | (with_reducible refine Base.grow_alloc ?_ _) | (with_reducible refine Base.below_drewN ?_ _) | (with_reducible refine Below.drew ?_) | (with_reducible refine Below.setCell ?_ ?_ _) | go_size))⟩
  · have HN := Lib.hid (show phL n T M e p b = 0 by rw [phL, if_neg hph])
    have hq : (phC n T M e p b != 0) = true := by simpa using hph
    go_enter Try.func28, Try.ntmps28
    go_wp2_with (first | (go_at_call 82; refine (c_l09Bins _ _ _ T M e p b _ (hv.below (by repeat' (first | (with_reducible exact Below.refl _ _) | (with_reducible assumption) | (with_reducible refine Base.grow_alloc ?_ _) | (with_reducible refine Base.below_drewN ?_ _) | (with_reducible refine Below.drew ?_) | (with_reducible refine Below.setCell ?_ ?_ _) | go_size)))).mono ?_; rintro e w1 ⟨rfl, hb1⟩; obtain ⟨chb1, fhb1⟩ := Base.bcell hb1; have zhb1 := (hb1).size; (try simp at zhb1); (try have yhb1 : w.heap.size < (w1).heap.size := by omega)))
    go_ret2
    exact ⟨_, rfl, OwnK.zero HN.out, (by repeat' (first | (with_reducible exact Below.refl _ _) | (with_reducible assumption) | (with_reducible refine Base.via hb1 ?_) | (with_reducible refine Base.grow_alloc ?_ _) | (with_reducible refine Base.below_drewN ?_ _) | (with_reducible refine Below.drew ?_) | (with_reducible refine Below.setCell ?_ ?_ _) | go_size))⟩
end Go.Proofs.Ytiinjnghnfofpaa.Phase
