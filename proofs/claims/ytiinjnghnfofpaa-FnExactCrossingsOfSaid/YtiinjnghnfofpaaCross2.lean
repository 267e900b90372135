/- The times at which a light curve has a level: the statement's side. -/
import Derived.Test.YtiinjnghnfofpaaCross
namespace Go.Proofs.Ytiinjnghnfofpaa.Cross
set_option linter.unusedVariables false
set_option linter.unusedSimpArgs false
set_option maxRecDepth 8000
open Go.RowKit Plain Num View Curve Curve2 Frac Vertex

theorem far_cell {W W' : World} {u : Value} (hg : W.grownBy W' u.ownBlock) {p : Addr} {x : Value} (h : W.cell? p = some x) (hne : ∀ b, u.ownBlock = some b → b ≠ p.block) : W'.cell? p = some x :=
  (World.cell?_of_block (hg.block p.block (World.block_lt_of_cell? _ _ h) (fun e => hne _ e.symm rfl))).trans h
/-- both ways to say a crossing -/
theorem cr_same {t t1 m m1 v x y : Int} (hx : x = m - v) (hy : y = m1 - v) (h : (x < 0 ∧ 0 ≤ y) ∨ (0 ≤ x ∧ y < 0)) :
    lowN (t * absI (y - x) + (t1 - t) * absI x) (absI (y - x)) = lowN (t * (m1 - m) + (v - m) * (t1 - t)) (m1 - m) ∧ lowD (t * absI (y - x) + (t1 - t) * absI x) (absI (y - x)) = lowD (t * (m1 - m) + (v - m) * (t1 - t)) (m1 - m) := by
  have e : y - x = m1 - m := by omega
  rcases h with ⟨h1, h2⟩ | ⟨h1, h2⟩
  · have e1 : absI (y - x) = m1 - m := by unfold absI; rw [if_neg (by omega)]; omega
    have e2 : absI x = v - m := by unfold absI; rw [if_pos (by omega)]; omega
    rw [e1, e2, Int.mul_comm (t1 - t) (v - m)]
    exact ⟨rfl, rfl⟩
  · have e1 : absI (y - x) = -(m1 - m) := by unfold absI; rw [if_pos (by omega)]; omega
    have e2 : absI x = -(v - m) := by unfold absI; rw [if_neg (by omega)]; omega
    have e3 : t * -(m1 - m) + (t1 - t) * -(v - m) = -(t * (m1 - m) + (v - m) * (t1 - t)) := by
      rw [Int.mul_neg, Int.mul_neg, Int.mul_comm (t1 - t) (v - m)]; omega
    rw [e1, e2, e3]
    exact low_neg (by omega)
theorem c_l12Level (A : Option Addr) (n c : Nat) (T M : Nat → Int) (v : Int) (w : World) (hv : Sl w 2 A n c (f2 T M)) :
    Calls Try.prog 93 #[.slice A n c, .int .i64 v] w fun e w' => e = .returned (.int .i64 (crC n T M v)) ∧ Below w.heap.size w w' := by
  rcases cr_cases n T M v with ⟨h1, h2, hc⟩ | ⟨h1, h2, hc⟩ | ⟨h1, hc⟩
  all_goals
    have HC := Lib.hid hc
    clear hc
    go_enter Try.func93, Try.ntmps93
    go_wp2_with (first | (go_at_call 75; refine (c_l08Ok _ _ _ T M _ (hv.below (by repeat' (first | (with_reducible exact Below.refl _ _) | (with_reducible assumption) | (with_reducible refine Base.grow_alloc ?_ _) | (with_reducible refine Base.below_drewN ?_ _) | (with_reducible refine Below.drew ?_) | (with_reducible refine Below.setCell ?_ ?_ _) | go_size)))).mono ?_; rintro e w1 ⟨rfl, hb1⟩; obtain ⟨chb1, fhb1⟩ := Base.bcell hb1; have zhb1 := (hb1).size; (try simp at zhb1); (try have yhb1 : w.heap.size < (w1).heap.size := by omega)) | (go_at_call 109; refine (c_l02Mag _ _).mono ?_; rintro e w' ⟨rfl, rfl⟩))
    go_ret
    exact ⟨ret_int HC.out.symm, (by repeat' (first | (with_reducible exact Below.refl _ _) | (with_reducible assumption) | (with_reducible refine Base.via hb1 ?_) | (with_reducible refine Base.grow_alloc ?_ _) | (with_reducible refine Base.below_drewN ?_ _) | (with_reducible refine Below.drew ?_) | (with_reducible refine Below.setCell ?_ ?_ _) | go_size))⟩
set_option maxHeartbeats 1600000 in
theorem c_l12Cross (A : Option Addr) (n c : Nat) (T M : Nat → Int) (v : Int) (w : World) (hv : Sl w 2 A n c (f2 T M)) (h1 : okCurve n T M = true) (h2 : inB v (-2000) 20000 = true) :
    Calls Try.prog 94 #[.slice A n c, .int .i64 v] w fun e w' => ∃ u, e = .returned u ∧ OwnK w' w.heap.size 39 2 u (sel (n - 1) (crB M v) (crP T M v)).length (f2 (lp1 (sel (n - 1) (crB M v) (crP T M v))) (lp2 (sel (n - 1) (crB M v) (crP T M v)))) ∧ Below w.heap.size w w' := by
  have hn := hv.le
  obtain ⟨i0, hi0, hz0, hz1, hz2⟩ := info_parts Best.infoF
  obtain ⟨h100, hT, hM, _⟩ := okCurve_bd h1
  have hvb := inB_iff.1 h2
  have HT := Lib.hid hT
  have HM := Lib.hid hM
  clear hT hM
  go_enter Try.func94, Try.ntmps94
  go_wp2
  go_loopw [5, 6, 7, 8] (fun u i _ _ wr => ∃ k : Nat, (k + 1 ≤ n ∨ k = 0) ∧ i = .int .i64 k ∧ wr.ownsRow w.heap.size 39 2 u (sel k (crB M v) (crP T M v)).length (cellP (sel k (crB M v) (crP T M v))) ∧ Below w.heap.size w wr) (fun _ i _ _ _ => n - (intOf i).toNat)
  case atStart => exact ⟨0, by omega, rfl, World.ownsRow_made _ _ _ (by omega) (by simp [maxLen]) rfl, (by repeat' (first | (with_reducible exact Below.refl _ _) | (with_reducible assumption) | (with_reducible refine Base.grow_alloc ?_ _) | (with_reducible refine Base.below_drewN ?_ _) | (with_reducible refine Below.drew ?_) | (with_reducible refine Below.setCell ?_ ?_ _) | go_size))⟩
  case round =>
    obtain ⟨k, hk, rfl, hown, hbr⟩ := hrel
    have hz := hbr.size
    have hl := sel_len (k := k) (P := crB M v) (g := crP T M v)
    by_cases hlt : k + 1 < n
    · obtain ⟨b, off, rfl, hb, hc⟩ := hv.at_ (by omega)
      have hc' : ∀ i, i < n → ∀ j, j < 2 → wr.cell? ⟨b, off + i * 2 + j, none⟩ = some (f2 T M i j) := fun i hi j hj => (hbr.cell (p := ⟨b, off + i * 2 + j, none⟩) hb).trans (hc i hi j hj)
      obtain ⟨p0, p1⟩ := cells2 hc' k (by omega)
      obtain ⟨q0, q1⟩ := cells2 hc' (k + 1) hlt
      obtain ⟨⟨m1, m2⟩, m3, m4⟩ := cr_bd (i := k) HT.out HM.out hvb hlt
      have tj := HT.out k (by omega); have tj1 := HT.out (k + 1) hlt; have mj := HM.out k (by omega); have mj1 := HM.out (k + 1) hlt
      have i1 : (0 : Int) ≤ (k : Int) := by omega
      have i2 : (k : Int) < (n : Int) := by omega
      have i3 : (0 : Int) ≤ (k : Int) + 1 := by omega
      have i4 : (k : Int) + 1 < (n : Int) := by omega
      have hne : ∀ q, u5.ownBlock = some q → q ≠ b := fun q hq e => by have := (hown.lt q hq).1; omega
      clear hc hc'
      cases hcr : crB M v k
      · have HQ := Lib.hid (sel_no (g := crP T M v) hcr)
        have hx : (M k < v ∧ M (k + 1) < v) ∨ (v ≤ M k ∧ v ≤ M (k + 1)) := by
          unfold crB at hcr
          by_cases h1 : M k < v <;> by_cases h2 : M (k + 1) < v <;> simp [h1, h2] at hcr <;> omega
        clear hcr
        rcases hx with ⟨x1, x2⟩ | ⟨x1, x2⟩
        all_goals
          go_wp2
          go_roundw
          case rel => exact ⟨k + 1, by omega, by go_num, by rw [HQ.out]; exact hown, (by repeat' (first | (with_reducible exact Below.refl _ _) | (with_reducible assumption) | (with_reducible refine Base.grow_alloc ?_ _) | (with_reducible refine Base.below_drewN ?_ _) | (with_reducible refine Below.drew ?_) | (with_reducible refine Below.setCell ?_ ?_ _) | go_size))⟩
          case measure => simp [intOf]; omega
      · have HQ := Lib.hid (sel_yes (g := crP T M v) hcr)
        have hx := cr_yes hcr
        clear hcr
        obtain ⟨x, hxx⟩ : ∃ x, x = M k - v := ⟨_, rfl⟩
        obtain ⟨y, hyy⟩ : ∃ y, y = M (k + 1) - v := ⟨_, rfl⟩
        have HP := Lib.hid (cr_same (t := T k) (t1 := T (k + 1)) hxx hyy (by omega))
        have HX := Lib.hid hxx
        have HY := Lib.hid hyy
        have d1 : 1 ≤ absI (y - x) ∧ absI (y - x) ≤ 22000 := by unfold absI; split <;> omega
        have d2 : 0 ≤ absI x ∧ absI x ≤ 22000 := by unfold absI; split <;> omega
        have e1 : IntKind.i64.wrap (y - x) = y - x := IntWalk.i64_in _ (by omega)
        have e2 : IntKind.i64.wrap (T (k + 1) - T k) = T (k + 1) - T k := IntWalk.i64_in _ (by omega)
        have g1 := mul_bd (a := T k) (b := absI (y - x)) (A := 10000000) (B := 22000) (by omega) (by omega) (by omega) (by omega)
        have g2 := mul_bd (a := T (k + 1) - T k) (b := absI x) (A := 10000000) (B := 22000) (by omega) (by omega) (by omega) (by omega)
        have e3 : IntKind.i64.wrap (T k * absI (y - x)) = T k * absI (y - x) := IntWalk.i64_in _ (by omega)
        have e4 : IntKind.i64.wrap ((T (k + 1) - T k) * absI x) = (T (k + 1) - T k) * absI x := IntWalk.i64_in _ (by omega)
        have e5 : IntKind.i64.wrap (T k * absI (y - x) + (T (k + 1) - T k) * absI x) = T k * absI (y - x) + (T (k + 1) - T k) * absI x := IntWalk.i64_in _ (by omega)
        have e6 : IntKind.i64.wrap ((k : Int) + 1) = (k : Int) + 1 := IntWalk.i64_in _ (by omega)
        have xb : -22000 ≤ x ∧ x ≤ 22000 := by omega
        have yb : -22000 ≤ y ∧ y ≤ 22000 := by omega
        have HS1 := Lib.hid (fun W => c_l02Size (y - x) W (by omega) (by omega))
        have HS2 := Lib.hid (fun W => c_l02Size x W (by omega) (by omega))
        have HMK := Lib.hid (fun W => c_l02Make (T k * absI (y - x) + (T (k + 1) - T k) * absI x) (absI (y - x)) W (by omega) (by omega) (by omega) (by omega))
        clear g1 g2
        rcases hx with ⟨x1, x2⟩ | ⟨x1, x2⟩
        all_goals
          clear hxx hyy
          go_wp2
          rw [← HX.out, ← HY.out]
          go_region_held3 (fun W => W.cell? ⟨b, off + k * 2, none⟩ = some (.int .i64 (T k)) ∧ W.cell? ⟨b, off + (k + 1) * 2, none⟩ = some (.int .i64 (T (k + 1))))
            (first | exact ⟨cell_drew p0, cell_drew q0⟩ | assumption | exact ⟨far_cell hgrow (‹World.cell? _ _ = some _ ∧ World.cell? _ _ = some _›).1 hne, far_cell hgrow (‹World.cell? _ _ = some _ ∧ World.cell? _ _ = some _›).2 hne⟩ | exact ⟨cell_call hb2 (‹World.cell? _ _ = some _ ∧ World.cell? _ _ = some _›).1, cell_call hb2 (‹World.cell? _ _ = some _ ∧ World.cell? _ _ = some _›).2⟩ | (go_keep; done))
            (first | (refine step_append_lies (o := ⟨some 79, _, _, _, _, _⟩) _ (by rfl) _ _ _ (by rfl) w.heap.size 39 i0 _ 2 16 Try.underlying59 hi0 hz0 hz1 hz2 rfl (by decide) u5 _ _ (by rfl) (own_of_below hown (by repeat' (first | (with_reducible exact Below.refl _ _) | (with_reducible assumption) | (with_reducible refine Base.via hb2 ?_) | (with_reducible refine Base.grow_alloc ?_ _) | (with_reducible refine Base.below_drewN ?_ _) | (with_reducible refine Below.drew ?_) | (with_reducible refine Below.setCell ?_ ?_ _) | go_size))) ⟨_, 0, none⟩ 1 1 [.int .i64 (lowN (T k * absI (y - x) + (T (k + 1) - T k) * absI x) (absI (y - x))), .int .i64 (lowD (T k * absI (y - x) + (T (k + 1) - T k) * absI x) (absI (y - x)))] (by rfl) (by rfl) (cell_newL _ _ _ rfl) (by simp [Value.oneCell']) (by decide) (by simp only [maxLen]; omega) (by omega) (by simp; omega) _ (by rfl) ?_; intro gb cap w3 hown' hgrow hat hlt3) | (go_at_call_of 129 (Value.int .i64 (y - x)); refine Calls.mono (HS1.out _) ?_; rintro e w' ⟨rfl, rfl⟩) | (go_at_call_of 129 (Value.int .i64 x); refine Calls.mono (HS2.out _) ?_; rintro e w' ⟨rfl, rfl⟩) | (go_at_call 97; refine Calls.mono (HMK.out _) ?_; rintro e w2 ⟨rfl, hb2⟩; have zb2 := hb2.size; (try simp at zb2)))
          all_goals
            have hb3 : Below w.heap.size w w3 := own_grow (by repeat' (first | (with_reducible exact Below.refl _ _) | (with_reducible assumption) | (with_reducible refine Base.via hb2 ?_) | (with_reducible refine Base.grow_alloc ?_ _) | (with_reducible refine Base.below_drewN ?_ _) | (with_reducible refine Below.drew ?_) | (with_reducible refine Below.setCell ?_ ?_ _) | go_size)) hown (Nat.le_refl _) hgrow
            clear hown hgrow e1 e2 e3 e4 e5 e6
            go_wp2
            go_roundw
            case rel => exact ⟨k + 1, by omega, by go_num, by rw [HQ.out]; rw [HP.out.1, HP.out.2] at hown'; exact own_snocP hown', hb3⟩
            case measure => simp [intOf]; omega
    · have hkn : k = n - 1 := by omega
      have HOO := Lib.hid (OwnK.of_listP hown (by omega))
      rw [hkn] at HOO
      clear hkn
      go_wp2
      go_ret
      exact ⟨_, rfl, HOO.out, (by repeat' (first | (with_reducible exact Below.refl _ _) | (with_reducible assumption) | (with_reducible refine Base.via hbr ?_) | (with_reducible refine Base.grow_alloc ?_ _) | (with_reducible refine Base.below_drewN ?_ _) | (with_reducible refine Below.drew ?_) | (with_reducible refine Below.setCell ?_ ?_ _) | go_size))⟩
set_option maxHeartbeats 800000 in
theorem c_specCrossingsOf (A : Option Addr) (n c : Nat) (T M : Nat → Int) (v : Int) (w : World) (hv : Sl w 2 A n c (f2 T M)) :
    Calls Try.prog 41 #[.slice A n c, .int .i64 v] w fun e w' => ∃ u, e = .returned (.tuple #[u, .int .i64 (crC n T M v)]) ∧ OwnK w' w.heap.size 39 2 u (crL n T M v).length (f2 (lp1 (crL n T M v)) (lp2 (crL n T M v))) ∧ Below w.heap.size w w' := by
  rcases cr_cases n T M v with ⟨h1, h2, hc⟩ | ⟨h1, h2, hc⟩ | ⟨h1, hc⟩
  · have HC := Lib.hid hc
    have hq : (crC n T M v != 0) = false := by simp [hc]
    have HL := Lib.hid (show crL n T M v = sel (n - 1) (crB M v) (crP T M v) by rw [crL, if_pos hc])
    clear hc
    go_enter Try.func41, Try.ntmps41
    go_wp2_with (first | (go_at_call 93; refine (c_l12Level _ _ _ T M v _ (hv.below (by repeat' (first | (with_reducible exact Below.refl _ _) | (with_reducible assumption) | (with_reducible refine Base.grow_alloc ?_ _) | (with_reducible refine Base.below_drewN ?_ _) | (with_reducible refine Below.drew ?_) | (with_reducible refine Below.setCell ?_ ?_ _) | go_size)))).mono ?_; rintro e w1 ⟨rfl, hb1⟩; obtain ⟨chb1, fhb1⟩ := Base.bcell hb1; have zhb1 := (hb1).size; (try simp at zhb1); (try have yhb1 : w.heap.size < (w1).heap.size := by omega)) | (go_at_call 94; refine (c_l12Cross A n c T M v _ (hv.below (by repeat' (first | (with_reducible exact Below.refl _ _) | (with_reducible assumption) | (with_reducible refine Base.via hb1 ?_) | (with_reducible refine Base.grow_alloc ?_ _) | (with_reducible refine Base.below_drewN ?_ _) | (with_reducible refine Below.drew ?_) | (with_reducible refine Below.setCell ?_ ?_ _) | go_size))) h1 h2).mono ?_))
    rintro e w2 ⟨u, rfl, ho, hb2⟩
    go_wp2
    go_ret2
    exact ⟨_, ret_o HC.out.symm, by rw [HL.out]; exact ho.mono hb1.size, (by repeat' (first | (with_reducible exact Below.refl _ _) | (with_reducible assumption) | (with_reducible refine Base.via hb2 ?_) | (with_reducible refine Base.via hb1 ?_) | (with_reducible refine Base.grow_alloc ?_ _) | (with_reducible refine Base.below_drewN ?_ _) | (with_reducible refine Below.drew ?_) | (with_reducible refine Below.setCell ?_ ?_ _) | go_size))⟩
  all_goals
    have hq : (crC n T M v != 0) = true := by simp [hc]
    have HL := Lib.hid (show (crL n T M v).length = 0 by rw [crL, hc]; rfl)
    clear hc
    go_enter Try.func41, Try.ntmps41
    go_wp2_with (first | (go_at_call 93; refine (c_l12Level _ _ _ T M v _ (hv.below (by repeat' (first | (with_reducible exact Below.refl _ _) | (with_reducible assumption) | (with_reducible refine Base.grow_alloc ?_ _) | (with_reducible refine Base.below_drewN ?_ _) | (with_reducible refine Below.drew ?_) | (with_reducible refine Below.setCell ?_ ?_ _) | go_size)))).mono ?_; rintro e w1 ⟨rfl, hb1⟩; obtain ⟨chb1, fhb1⟩ := Base.bcell hb1; have zhb1 := (hb1).size; (try simp at zhb1); (try have yhb1 : w.heap.size < (w1).heap.size := by omega)))
    go_ret2
    exact ⟨_, rfl, OwnK.zero HL.out, (by repeat' (first | (with_reducible exact Below.refl _ _) | (with_reducible assumption) | (with_reducible refine Base.via hb1 ?_) | (with_reducible refine Base.grow_alloc ?_ _) | (with_reducible refine Base.below_drewN ?_ _) | (with_reducible refine Below.drew ?_) | (with_reducible refine Below.setCell ?_ ?_ _) | go_size))⟩
end Go.Proofs.Ytiinjnghnfofpaa.Cross
