/- The times at which a light curve has a level. -/
import Derived.Test.YtiinjnghnfofpaaVertex
import Derived.Test.YtiinjnghnfofpaaBest
import Derived.Deep.RegionHeld3
import Derived.Deep.AppendLies
namespace Go.Proofs.Ytiinjnghnfofpaa.Cross
set_option linter.unusedVariables false
set_option linter.unusedSimpArgs false
set_option maxRecDepth 8000
open Go.RowKit Plain Num View Curve Curve2 Frac Vertex

def crC (n : Nat) (T M : Nat → Int) (v : Int) : Int := if okCurve n T M = true then (if inB v (-2000) 20000 = true then 0 else 2) else 1
def crB (M : Nat → Int) (v : Int) (i : Nat) : Bool := decide (M i < v) != decide (M (i + 1) < v)
def crNum (T M : Nat → Int) (v : Int) (i : Nat) : Int := T i * (M (i + 1) - M i) + (v - M i) * (T (i + 1) - T i)
def crP (T M : Nat → Int) (v : Int) (i : Nat) : Int × Int := (lowN (crNum T M v i) (M (i + 1) - M i), lowD (crNum T M v i) (M (i + 1) - M i))
/-- the crossings as a list -/
def crL (n : Nat) (T M : Nat → Int) (v : Int) : List (Int × Int) := if crC n T M v = 0 then sel (n - 1) (crB M v) (crP T M v) else []
theorem cr_cases (n : Nat) (T M : Nat → Int) (v : Int) : (okCurve n T M = true ∧ inB v (-2000) 20000 = true ∧ crC n T M v = 0) ∨ (okCurve n T M = true ∧ inB v (-2000) 20000 = false ∧ crC n T M v = 2) ∨ (okCurve n T M = false ∧ crC n T M v = 1) := by
  unfold crC
  cases okCurve n T M <;> cases inB v (-2000) 20000 <;> simp
theorem ret_o {v : Value} {a b : Int} (h : a = b) : Ending.returned (.tuple #[v, .int .i64 a]) = Ending.returned (.tuple #[v, .int .i64 b]) := by rw [h]
/-- both neighbours on the two sides of the level: the rise is not 0 -/
theorem cr_yes {M : Nat → Int} {v : Int} {i : Nat} (h : crB M v i = true) : (M i < v ∧ v ≤ M (i + 1)) ∨ (v ≤ M i ∧ M (i + 1) < v) := by
  unfold crB at h
  by_cases h1 : M i < v <;> by_cases h2 : M (i + 1) < v <;> simp [h1, h2] at h <;> omega
theorem cr_bd {n i : Nat} {T M : Nat → Int} {v : Int} (hT : ∀ i, i < n → 0 ≤ T i ∧ T i ≤ 10000000) (hM : ∀ i, i < n → -2000 ≤ M i ∧ M i ≤ 20000) (hv : -2000 ≤ v ∧ v ≤ 20000) (hi : i + 1 < n) :
    (-220000000000 ≤ T i * (M (i + 1) - M i) ∧ T i * (M (i + 1) - M i) ≤ 220000000000) ∧ (-220000000000 ≤ (v - M i) * (T (i + 1) - T i) ∧ (v - M i) * (T (i + 1) - T i) ≤ 220000000000) := by
  have t0 := hT i (by omega); have t1 := hT (i + 1) hi; have m0 := hM i (by omega); have m1 := hM (i + 1) hi
  have a := mul_bd (a := T i) (b := M (i + 1) - M i) (A := 10000000) (B := 22000) (by omega) (by omega) (by omega) (by omega)
  have b := mul_bd (a := v - M i) (b := T (i + 1) - T i) (A := 22000) (B := 10000000) (by omega) (by omega) (by omega) (by omega)
  omega
set_option maxHeartbeats 1600000 in
theorem c_crossings (A : Option Addr) (n c : Nat) (T M : Nat → Int) (v : Int) (w : World) (hv : Sl w 2 A n c (f2 T M)) :
    Calls Try.prog 95 #[.slice A n c, .int .i64 v] w fun e w' => ∃ u, e = .returned (.tuple #[u, .int .i64 (crC n T M v)]) ∧ OwnK w' w.heap.size 39 2 u (crL n T M v).length (f2 (lp1 (crL n T M v)) (lp2 (crL n T M v))) ∧ Below w.heap.size w w' := by
  have hn := hv.le
  obtain ⟨i0, hi0, hz0, hz1, hz2⟩ := info_parts Best.infoF
  rcases cr_cases n T M v with ⟨h1, h2, hc⟩ | ⟨h1, h2, hc⟩ | ⟨h1, hc⟩
  · obtain ⟨h100, hT, hM, _⟩ := okCurve_bd h1
    have hvb := inB_iff.1 h2
    have HT := Lib.hid hT
    have HM := Lib.hid hM
    have HC := Lib.hid hc
    have HL := Lib.hid (show crL n T M v = sel (n - 1) (crB M v) (crP T M v) by rw [crL, if_pos hc])
    clear hT hM hc
    go_enter Try.func95, Try.ntmps95
    go_wp2_with (first | (go_at_call 78; refine (c_ValidCurve _ _ _ T M _ (hv.below (by repeat' (first | (with_reducible exact Below.refl _ _) | (with_reducible assumption) | (with_reducible refine Base.grow_alloc ?_ _) | (with_reducible refine Base.below_drewN ?_ _) | (with_reducible refine Below.drew ?_) | (with_reducible refine Below.setCell ?_ ?_ _) | go_size)))).mono ?_; rintro e w1 ⟨rfl, hb1⟩; obtain ⟨chb1, fhb1⟩ := Base.bcell hb1; have zhb1 := (hb1).size; (try simp at zhb1); (try have yhb1 : w.heap.size < (w1).heap.size := by omega)) | (go_at_call 113; refine (c_ValidMag _ _).mono ?_; rintro e w' ⟨rfl, rfl⟩))
    have hvw := hv.below hb1
    clear chb1 fhb1
    go_loopw [6, 7, 8, 9, 10] (fun u i _ _ _ wr => ∃ k : Nat, 1 ≤ k ∧ (k ≤ n ∨ k = 1) ∧ i = .int .i64 k ∧ wr.ownsRow w1.heap.size 39 2 u (sel (k - 1) (crB M v) (crP T M v)).length (cellP (sel (k - 1) (crB M v) (crP T M v))) ∧ Below w1.heap.size w1 wr) (fun _ i _ _ _ _ => n - (intOf i).toNat)
    case atStart => exact ⟨1, by omega, by omega, rfl, World.ownsRow_made _ _ _ (by omega) (by simp [maxLen]) rfl, (by repeat' (first | (with_reducible exact Below.refl _ _) | (with_reducible assumption) | (with_reducible refine Base.grow_alloc ?_ _) | (with_reducible refine Base.below_drewN ?_ _) | (with_reducible refine Below.drew ?_) | (with_reducible refine Below.setCell ?_ ?_ _) | go_size))⟩
    case round =>
      obtain ⟨k, hk1, hk, rfl, hown, hbr⟩ := hrel
      have hz := hbr.size
      have hl := sel_len (k := k - 1) (P := crB M v) (g := crP T M v)
      by_cases hlt : k < n
      · obtain ⟨b, off, rfl, hb, hc⟩ := (hvw.below hbr).at_ (by omega)
        obtain ⟨j, rfl⟩ : ∃ j, k = j + 1 := ⟨k - 1, by omega⟩
        simp only [Nat.add_sub_cancel] at hown hl
        obtain ⟨p0, p1⟩ := cells2 hc j (by omega)
        obtain ⟨q0, q1⟩ := cells2 hc (j + 1) hlt
        obtain ⟨⟨m1, m2⟩, m3, m4⟩ := cr_bd (i := j) HT.out HM.out hvb hlt
        have tj := HT.out j (by omega); have tj1 := HT.out (j + 1) hlt; have mj := HM.out j (by omega); have mj1 := HM.out (j + 1) hlt
        have i1 : (0 : Int) ≤ (j : Int) := by omega
        have i2 : (j : Int) < (n : Int) := by omega
        have i3 : (0 : Int) ≤ (j : Int) + 1 := by omega
        have i4 : (j : Int) + 1 < (n : Int) := by omega
        have hbl : b < wr.heap.size := hb
        have e0 : IntKind.i64.wrap ((j : Int) + 1 - 1) = (j : Int) := by rw [IntWalk.i64_in _ (by omega)]; omega
        have e000 : IntKind.i64.wrap (j : Int) = (j : Int) := IntWalk.i64_in _ (by omega)
        have e00 : IntKind.i64.wrap (((j + 1 : Nat) : Int) - 1) = (j : Int) := by rw [IntWalk.i64_in _ (by omega)]; omega
        clear hc
        cases hcr : crB M v j
        · have HQ := Lib.hid (sel_no (g := crP T M v) hcr)
          have hx : (M j < v ∧ M (j + 1) < v) ∨ (v ≤ M j ∧ v ≤ M (j + 1)) := by
            unfold crB at hcr
            by_cases h1 : M j < v <;> by_cases h2 : M (j + 1) < v <;> simp [h1, h2] at hcr <;> omega
          clear hcr
          rcases hx with ⟨x1, x2⟩ | ⟨x1, x2⟩
          all_goals
            first | have hd1 : decide (M j < v) = true := decide_eq_true (by omega) | have hd1 : decide (M j < v) = false := decide_eq_false (by omega)
            first | have hd2 : decide (M (j + 1) < v) = true := decide_eq_true (by omega) | have hd2 : decide (M (j + 1) < v) = false := decide_eq_false (by omega)
            go_wp2
            go_region_held3 (fun W => W.cell? ⟨b, off + j * 2, none⟩ = some (.int .i64 (T j)) ∧ W.cell? ⟨b, off + j * 2 + 1, none⟩ = some (.int .i64 (M j)) ∧ W.cell? ⟨b, off + (j + 1) * 2, none⟩ = some (.int .i64 (T (j + 1))) ∧ W.cell? ⟨b, off + (j + 1) * 2 + 1, none⟩ = some (.int .i64 (M (j + 1)))) (go_keep) (fail)
            all_goals
              go_wp2
              go_roundw
              case rel => exact ⟨j + 1 + 1, by omega, by omega, by go_num, by simp only [Nat.add_sub_cancel]; rw [HQ.out]; exact own_of_below hown (by repeat' (first | (with_reducible exact Below.refl _ _) | (with_reducible assumption) | (with_reducible refine Base.grow_alloc ?_ _) | (with_reducible refine Base.below_drewN ?_ _) | (with_reducible refine Below.drew ?_) | (with_reducible refine Below.setCell ?_ ?_ _) | go_size)), (by repeat' (first | (with_reducible exact Below.refl _ _) | (with_reducible assumption) | (with_reducible refine Base.grow_alloc ?_ _) | (with_reducible refine Base.below_drewN ?_ _) | (with_reducible refine Below.drew ?_) | (with_reducible refine Below.setCell ?_ ?_ _) | go_size))⟩
              case measure => simp [intOf]; omega
        · have HQ := Lib.hid (sel_yes (g := crP T M v) hcr)
          have hx := cr_yes hcr
          clear hcr
          rcases hx with ⟨x1, x2⟩ | ⟨x1, x2⟩
          all_goals
            first | have hd1 : decide (M j < v) = true := decide_eq_true (by omega) | have hd1 : decide (M j < v) = false := decide_eq_false (by omega)
            first | have hd2 : decide (M (j + 1) < v) = true := decide_eq_true (by omega) | have hd2 : decide (M (j + 1) < v) = false := decide_eq_false (by omega)
            go_wp2
            go_region_held3 (fun W => W.cell? ⟨b, off + j * 2, none⟩ = some (.int .i64 (T j)) ∧ W.cell? ⟨b, off + j * 2 + 1, none⟩ = some (.int .i64 (M j)) ∧ W.cell? ⟨b, off + (j + 1) * 2, none⟩ = some (.int .i64 (T (j + 1))) ∧ W.cell? ⟨b, off + (j + 1) * 2 + 1, none⟩ = some (.int .i64 (M (j + 1)))) (go_keep) (fail)
            all_goals
              go_wp2_with (first | (go_at_call 99; refine (c_lowest _ _ _ (by omega) (by omega) (by omega) (by omega) (by omega)).mono ?_; rintro e w2 ⟨rfl, hb2⟩; obtain ⟨chb2, fhb2⟩ := Base.bcell hb2; have zhb2 := (hb2).size; (try simp at zhb2); (try have yhb2 : w.heap.size < (w2).heap.size := by omega)) | (at_builtin; refine wpList_append_own _ rfl _ _ 59 rfl (w1.heap.size) 39 i0 _ 2 16 Try.underlying59 hi0 hz0 hz1 hz2 rfl (by decide) _ _ _ rfl (own_of_below hown (by repeat' (first | (with_reducible exact Below.refl _ _) | (with_reducible assumption) | (with_reducible refine Base.via hb2 ?_) | (with_reducible refine Base.grow_alloc ?_ _) | (with_reducible refine Base.below_drewN ?_ _) | (with_reducible refine Below.drew ?_) | (with_reducible refine Below.setCell ?_ ?_ _) | go_size))) ⟨_, 0, none⟩ 1 1 [.int .i64 (lowN (T j * (M (j + 1) - M j) + (v - M j) * (T (j + 1) - T j)) (M (j + 1) - M j)), .int .i64 (lowD (T j * (M (j + 1) - M j) + (v - M j) * (T (j + 1) - T j)) (M (j + 1) - M j))] rfl rfl (cell_newL _ [.int .i64 (lowN (T j * (M (j + 1) - M j) + (v - M j) * (T (j + 1) - T j)) (M (j + 1) - M j)), .int .i64 (lowD (T j * (M (j + 1) - M j) + (v - M j) * (T (j + 1) - T j)) (M (j + 1) - M j))] _ (by simp)) (by simp [Value.oneCell']) (by simp only [maxLen]; omega) (by omega) (by simp; omega) ?_))
              intro v' w3 hown' hgrow _
              have hb3 : Below w1.heap.size w1 w3 := own_grow (by repeat' (first | (with_reducible exact Below.refl _ _) | (with_reducible assumption) | (with_reducible refine Base.via hb2 ?_) | (with_reducible refine Base.grow_alloc ?_ _) | (with_reducible refine Base.below_drewN ?_ _) | (with_reducible refine Below.drew ?_) | (with_reducible refine Below.setCell ?_ ?_ _) | go_size)) hown (Nat.le_refl _) hgrow
              clear hown hgrow
              go_wp2
              go_roundw
              case rel => exact ⟨j + 1 + 1, by omega, by omega, by go_num, by simp only [Nat.add_sub_cancel]; rw [HQ.out]; exact own_snocP hown', hb3⟩
              case measure => simp [intOf]; omega
      · have hkn : k - 1 = n - 1 := by omega
        have HOO := Lib.hid (OwnK.of_listP hown (by omega))
        rw [hkn] at HOO
        clear hkn
        go_wp2
        go_ret2
        exact ⟨_, ret_o HC.out.symm, by rw [HL.out]; exact HOO.out.mono hb1.size, (by repeat' (first | (with_reducible exact Below.refl _ _) | (with_reducible assumption) | (with_reducible refine Base.via hbr ?_) | (with_reducible refine Base.via hb1 ?_) | (with_reducible refine Base.grow_alloc ?_ _) | (with_reducible refine Base.below_drewN ?_ _) | (with_reducible refine Below.drew ?_) | (with_reducible refine Below.setCell ?_ ?_ _) | go_size))⟩
  all_goals
    have HL := Lib.hid (show (crL n T M v).length = 0 by rw [crL, hc]; rfl)
    have HC := Lib.hid hc
    clear hc
    go_enter Try.func95, Try.ntmps95
    go_wp2_with (first | (go_at_call 78; refine (c_ValidCurve _ _ _ T M _ (hv.below (by repeat' (first | (with_reducible exact Below.refl _ _) | (with_reducible assumption) | (with_reducible refine Base.grow_alloc ?_ _) | (with_reducible refine Base.below_drewN ?_ _) | (with_reducible refine Below.drew ?_) | (with_reducible refine Below.setCell ?_ ?_ _) | go_size)))).mono ?_; rintro e w1 ⟨rfl, hb1⟩; obtain ⟨chb1, fhb1⟩ := Base.bcell hb1; have zhb1 := (hb1).size; (try simp at zhb1); (try have yhb1 : w.heap.size < (w1).heap.size := by omega)) | (go_at_call 113; refine (c_ValidMag _ _).mono ?_; rintro e w' ⟨rfl, rfl⟩))
    go_ret2
    exact ⟨_, ret_o HC.out.symm, OwnK.zero HL.out, (by repeat' (first | (with_reducible exact Below.refl _ _) | (with_reducible assumption) | (with_reducible refine Base.via hb1 ?_) | (with_reducible refine Base.grow_alloc ?_ _) | (with_reducible refine Base.below_drewN ?_ _) | (with_reducible refine Below.drew ?_) | (with_reducible refine Below.setCell ?_ ?_ _) | go_size))⟩
theorem c_CrossingsOf (A : Option Addr) (n c : Nat) (T M : Nat → Int) (v : Int) (w : World) (hv : Sl w 2 A n c (f2 T M)) :
    Calls Try.prog 42 #[.slice A n c, .int .i64 v] w fun e w' => ∃ u, e = .returned (.tuple #[u, .int .i64 (crC n T M v)]) ∧ OwnK w' w.heap.size 39 2 u (crL n T M v).length (f2 (lp1 (crL n T M v)) (lp2 (crL n T M v))) ∧ Below w.heap.size w w' := by
  go_enter Try.func42, Try.ntmps42
  go_wp2_with (go_at_call 95; refine (c_crossings A n c T M v _ (hv.below (by repeat' (first | (with_reducible exact Below.refl _ _) | (with_reducible assumption) | (with_reducible refine Base.grow_alloc ?_ _) | (with_reducible refine Base.below_drewN ?_ _) | (with_reducible refine Below.drew ?_) | (with_reducible refine Below.setCell ?_ ?_ _) | go_size)))).mono ?_)
  rintro e w1 ⟨u, rfl, ho, hb1⟩
  go_wp2
  go_ret2
  exact ⟨u, rfl, ho, (by repeat' (first | (with_reducible exact Below.refl _ _) | (with_reducible assumption) | (with_reducible refine Base.via hb1 ?_) | (with_reducible refine Base.grow_alloc ?_ _) | (with_reducible refine Base.below_drewN ?_ _) | (with_reducible refine Below.drew ?_) | (with_reducible refine Below.setCell ?_ ?_ _) | go_size))⟩
end Go.Proofs.Ytiinjnghnfofpaa.Cross
