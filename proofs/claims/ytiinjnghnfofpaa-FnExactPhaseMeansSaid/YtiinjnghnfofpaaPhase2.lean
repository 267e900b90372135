/- The numbers of points of the bins of phases, and the means. -/
import Derived.Test.YtiinjnghnfofpaaPhase
import Derived.Test.YtiinjnghnfofpaaBest
import Derived.StillTailTactics
namespace Go.Proofs.Ytiinjnghnfofpaa.Phase
set_option linter.unusedVariables false
set_option linter.unusedSimpArgs false
set_option maxRecDepth 8000
open Go.RowKit Plain Num View Mags Curve Curve2 DisB Eph Frac

def cntI (n : Nat) (B M : Nat → Int) (k : Nat) : Int := ((bl n B M k).length : Int)
def sumI (n : Nat) (B M : Nat → Int) (k : Nat) : Int := sumB (bl n B M k).length (lf (bl n B M k))
theorem cnt_succ (n : Nat) (B M : Nat → Int) (k : Nat) : cntI (n + 1) B M k = if B n = (k : Int) then cntI n B M k + 1 else cntI n B M k := by
  unfold cntI
  rw [bl_succ]
  split <;> simp
theorem sum_succ (n : Nat) (B M : Nat → Int) (k : Nat) : sumI (n + 1) B M k = if B n = (k : Int) then sumI n B M k + M n else sumI n B M k := by
  have h := fun q => sum_bl q B M k (fun x => x)
  unfold sumI
  rw [show sumB (bl (n + 1) B M k).length (lf (bl (n + 1) B M k)) = _ from h (n + 1), show sumB (bl n B M k).length (lf (bl n B M k)) = _ from h n, sumB]
  split <;> simp
theorem cnt_bd (n : Nat) (B M : Nat → Int) (k : Nat) : 0 ≤ cntI n B M k ∧ cntI n B M k ≤ n := by
  have := bl_len n B M k
  unfold cntI
  omega
theorem sum_bd {n : Nat} {B M : Nat → Int} (hn : n ≤ 100) (hM : ∀ i, i < n → -2000 ≤ M i ∧ M i ≤ 20000) (k : Nat) : -200000 ≤ sumI n B M k ∧ sumI n B M k ≤ 2000000 := by
  have h1 := bl_len n B M k
  have := sumB_bd (k := (bl n B M k).length) (f := lf (bl n B M k)) (a := -2000) (b := 20000) (fun i hi => bl_bd hM i hi)
  unfold sumI
  omega
def phL (n : Nat) (T M : Nat → Int) (e p b : Int) : Nat := if phC n T M e p b = 0 then b.toNat else 0
theorem ret_o {v : Value} {a b : Int} (h : a = b) : Ending.returned (.tuple #[v, .int .i64 a]) = Ending.returned (.tuple #[v, .int .i64 b]) := by rw [h]
theorem ph_ok {n : Nat} {T M : Nat → Int} {e p b : Int} (h : phC n T M e p b = 0) : okEph e p = true ∧ okCurve n T M = true ∧ inB b 1 50 = true := by
  rcases ph_cases n T M e p b with ⟨h1, h2, h3, _⟩ | ⟨_, _, _, hc⟩ | ⟨_, _, hc⟩ | ⟨_, hc⟩
  · exact ⟨h1, h2, h3⟩
  all_goals omega
set_option maxHeartbeats 800000 in
theorem c_byBins_no (A : Option Addr) (n c : Nat) (T M : Nat → Int) (e p b : Int) (w : World) (hv : Sl w 2 A n c (f2 T M)) (h : phC n T M e p b ≠ 0) :
    Calls Try.prog 84 #[.agg #[.int .i64 e, .int .i64 p], .slice A n c, .int .i64 b] w fun r w' => r = .returned (.tuple #[.slice none 0 0, .int .i64 (phC n T M e p b)]) ∧ Below w.heap.size w w' := by
  rcases ph_cases n T M e p b with ⟨h1, h2, h3, hc⟩ | ⟨h1, h2, h3, hc⟩ | ⟨h1, h2, hc⟩ | ⟨h1, hc⟩
  · exact absurd hc h
  all_goals
    have HC := Lib.hid hc
    clear hc h
    go_enter Try.func84, Try.ntmps84
    go_wp2_with (first | (go_at_call 123; refine (c_ValidEphemeris e p _).mono ?_; rintro e w1 ⟨rfl, hb1⟩; obtain ⟨chb1, fhb1⟩ := Base.bcell hb1; have zhb1 := (hb1).size; (try simp at zhb1); (try have yhb1 : w.heap.size < (w1).heap.size := by omega)) | (go_at_call 78; refine (c_ValidCurve _ _ _ T M _ (hv.below (by repeat' (first | (with_reducible exact Below.refl _ _) | (with_reducible assumption) | (with_reducible refine Base.via hb1 ?_) | (with_reducible refine Base.grow_alloc ?_ _) | (with_reducible refine Base.below_drewN ?_ _) | (with_reducible refine Below.drew ?_) | (with_reducible refine Below.setCell ?_ ?_ _) | go_size)))).mono ?_; rintro e w2 ⟨rfl, hb2⟩; obtain ⟨chb2, fhb2⟩ := Base.bcell hb2; have zhb2 := (hb2).size; (try simp at zhb2); (try have yhb2 : w.heap.size < (w2).heap.size := by omega)) | (go_at_call 79; refine (c_in _ _ _ _).mono ?_; rintro e w' ⟨rfl, rfl⟩))
    go_ret2
    exact ⟨ret_o HC.out.symm, (by repeat' (first | (with_reducible exact Below.refl _ _) | (with_reducible assumption) | (with_reducible refine Base.via hb2 ?_) | (with_reducible refine Base.via hb1 ?_) | (with_reducible refine Base.grow_alloc ?_ _) | (with_reducible refine Base.below_drewN ?_ _) | (with_reducible refine Below.drew ?_) | (with_reducible refine Below.setCell ?_ ?_ _) | go_size))⟩
set_option maxHeartbeats 800000 in
theorem c_PhaseCounts (e p : Int) (A : Option Addr) (n c : Nat) (T M : Nat → Int) (b : Int) (w : World) (hv : Sl w 2 A n c (f2 T M)) :
    Calls Try.prog 30 #[.agg #[.int .i64 e, .int .i64 p], .slice A n c, .int .i64 b] w fun r w' => ∃ v, r = .returned (.tuple #[v, .int .i64 (phC n T M e p b)]) ∧ OwnK w' w.heap.size 2 1 v (phL n T M e p b) (f1 (cntI n (phB e p b T) M)) ∧ Below w.heap.size w w' := by
  have hn := hv.le
  by_cases hph : phC n T M e p b = 0
  · obtain ⟨h1, h2, h3⟩ := ph_ok hph
    obtain ⟨b1, b2⟩ := inB_iff.1 h3
    obtain ⟨m, rfl⟩ : ∃ m : Nat, b = m := ⟨b.toNat, by omega⟩
    have hm : 1 ≤ m ∧ m ≤ 50 := by omega
    obtain ⟨i0, hi0, hz0, hz1, hz2⟩ := info_parts Disp.infoI
    have HN := Lib.hid (show phL n T M e p m = m by rw [phL, if_pos hph, Int.toNat_natCast])
    have HC := Lib.hid hph
    clear hph
    go_enter Try.func30, Try.ntmps30
    go_wp2_with (first | (go_at_call 84; refine (c_byBins_ok _ n _ m T M e p _ (hv.below (by repeat' (first | (with_reducible exact Below.refl _ _) | (with_reducible assumption) | (with_reducible refine Base.grow_alloc ?_ _) | (with_reducible refine Base.below_drewN ?_ _) | (with_reducible refine Below.drew ?_) | (with_reducible refine Below.setCell ?_ ?_ _) | go_size))) h1 h2 hm).mono ?_))
    rintro r w1 ⟨q, g, B, rfl, hbin, hb1⟩
    have hbw : Below w.heap.size w w1 := (by repeat' (first | (with_reducible exact Below.refl _ _) | (with_reducible assumption) | (with_reducible refine Base.via hb1 ?_) | (with_reducible refine Base.grow_alloc ?_ _) | (with_reducible refine Base.below_drewN ?_ _) | (with_reducible refine Below.drew ?_) | (with_reducible refine Below.setCell ?_ ?_ _) | go_size))
    have hlen : ∀ i, (bl n (phB e p m T) M i).length ≤ 1048576 := fun i => by have := bl_len n (phB e p m T) M i; omega
    have HLEN := Lib.hid hlen
    clear hlen
    go_wp2
    go_loopw [10, 12, 26] (fun v _ i wr => ∃ k : Nat, k ≤ m ∧ i = .int .i64 k ∧ wr.ownsRow w1.heap.size 2 1 v (sel k all1 (cntI n (phB e p m T) M)).length (cellL (sel k all1 (cntI n (phB e p m T) M))) ∧ Below w1.heap.size w1 wr) (fun _ _ i _ => m - (intOf i).toNat)
    case atStart => exact ⟨0, Nat.zero_le _, rfl, World.ownsRow_made _ _ _ (by omega) (by simp [maxLen]) rfl, (by repeat' (first | (with_reducible exact Below.refl _ _) | (with_reducible assumption) | (with_reducible refine Base.grow_alloc ?_ _) | (with_reducible refine Base.below_drewN ?_ _) | (with_reducible refine Below.drew ?_) | (with_reducible refine Below.setCell ?_ ?_ _) | go_size))⟩
    case round =>
      obtain ⟨k, hk, rfl, hown, hbr⟩ := hrel
      have hz := hbr.size
      have hl := sel_all_len (k := k) (g := cntI n (phB e p m T) M)
      by_cases hlt : k < m
      · have hbk := hbin.below hbr
        have hc := hbk.cell hlt
        obtain ⟨A', c', hg, V⟩ := hbk.sl hlt (HLEN.out k)
        rw [hg] at hc
        have hll := HLEN.out k
        have HCN := Lib.hid (show ((bl n (phB e p m T) M k).length : Int) = cntI n (phB e p m T) M k from rfl)
        clear hbk hg V
        go_wp2_with (first | (go_at_call 85; refine (Var.c_count _ _ _ _ (by omega)).mono ?_; rintro e w' ⟨rfl, rfl⟩) | (at_builtin; refine wpList_append_own _ rfl _ _ 46 rfl (w1.heap.size) 2 i0 _ 1 8 Try.underlying46 hi0 hz0 hz1 hz2 rfl (by decide) _ _ _ rfl (own_of_below hown (by repeat' (first | (with_reducible exact Below.refl _ _) | (with_reducible assumption) | (with_reducible refine Base.grow_alloc ?_ _) | (with_reducible refine Base.below_drewN ?_ _) | (with_reducible refine Below.drew ?_) | (with_reducible refine Below.setCell ?_ ?_ _) | go_size))) ⟨_, 0, none⟩ 1 1 [.int .i64 (((bl n (phB e p m T) M k).length : Int))] rfl rfl (cell_newL _ [.int .i64 (((bl n (phB e p m T) M k).length : Int))] _ (by simp)) (by simp [Value.oneCell']) (by simp only [maxLen]; omega) (by omega) (by simp; omega) ?_))
        intro v' w2 hown' hgrow _
        have hb2 : Below w1.heap.size w1 w2 := own_grow (by repeat' (first | (with_reducible exact Below.refl _ _) | (with_reducible assumption) | (with_reducible refine Base.grow_alloc ?_ _) | (with_reducible refine Base.below_drewN ?_ _) | (with_reducible refine Below.drew ?_) | (with_reducible refine Below.setCell ?_ ?_ _) | go_size)) hown (Nat.le_refl _) hgrow
        clear hown hgrow
        go_wp2
        go_roundw
        case rel => exact ⟨k + 1, by omega, by go_num, by rw [sel_yes rfl]; exact own_snoc (by rw [hl, ← HCN.out]; exact hown'), hb2⟩
        case measure => simp [intOf]; omega
      · have hkn : k = m := by omega
        subst hkn
        go_wp2
        go_ret2
        exact ⟨_, ret_o HC.out.symm, by rw [HN.out]; exact (OwnK.of_all hown (by omega)).mono hbw.size, (by repeat' (first | (with_reducible exact Below.refl _ _) | (with_reducible assumption) | (with_reducible refine Base.via hbr ?_) | (with_reducible refine Base.via hbw ?_) | (with_reducible refine Base.grow_alloc ?_ _) | (with_reducible refine Base.below_drewN ?_ _) | (with_reducible refine Below.drew ?_) | (with_reducible refine Below.setCell ?_ ?_ _) | go_size))⟩
  · have HN := Lib.hid (show phL n T M e p b = 0 by rw [phL, if_neg hph])
    have hq : (phC n T M e p b != 0) = true := by simpa using hph
    go_enter Try.func30, Try.ntmps30
    go_wp2_with (first | (go_at_call 84; refine (c_byBins_no _ _ _ T M e p b _ (hv.below (by repeat' (first | (with_reducible exact Below.refl _ _) | (with_reducible assumption) | (with_reducible refine Base.grow_alloc ?_ _) | (with_reducible refine Base.below_drewN ?_ _) | (with_reducible refine Below.drew ?_) | (with_reducible refine Below.setCell ?_ ?_ _) | go_size))) hph).mono ?_; rintro e w1 ⟨rfl, hb1⟩; obtain ⟨chb1, fhb1⟩ := Base.bcell hb1; have zhb1 := (hb1).size; (try simp at zhb1); (try have yhb1 : w.heap.size < (w1).heap.size := by omega)))
    go_ret2
    exact ⟨_, rfl, OwnK.zero HN.out, (by repeat' (first | (with_reducible exact Below.refl _ _) | (with_reducible assumption) | (with_reducible refine Base.via hb1 ?_) | (with_reducible refine Base.grow_alloc ?_ _) | (with_reducible refine Base.below_drewN ?_ _) | (with_reducible refine Below.drew ?_) | (with_reducible refine Below.setCell ?_ ?_ _) | go_size))⟩
set_option maxHeartbeats 800000 in
theorem c_l09Bins (A : Option Addr) (n c : Nat) (T M : Nat → Int) (e p b : Int) (w : World) (hv : Sl w 2 A n c (f2 T M)) :
    Calls Try.prog 82 #[.agg #[.int .i64 e, .int .i64 p], .slice A n c, .int .i64 b] w fun r w' => r = .returned (.int .i64 (phC n T M e p b)) ∧ Below w.heap.size w w' := by
  rcases ph_cases n T M e p b with ⟨h1, h2, h3, hc⟩ | ⟨h1, h2, h3, hc⟩ | ⟨h1, h2, hc⟩ | ⟨h1, hc⟩
  all_goals
    have HC := Lib.hid hc
    clear hc
    go_enter Try.func82, Try.ntmps82
    go_wp2_with (first | (go_at_call 121; refine (c_l09Ok e p _).mono ?_; rintro e w1 ⟨rfl, hb1⟩; obtain ⟨chb1, fhb1⟩ := Base.bcell hb1; have zhb1 := (hb1).size; (try simp at zhb1); (try have yhb1 : w.heap.size < (w1).heap.size := by omega)) | (go_at_call 75; refine (c_l08Ok _ _ _ T M _ (hv.below (by repeat' (first | (with_reducible exact Below.refl _ _) | (with_reducible assumption) | (with_reducible refine Base.via hb1 ?_) | (with_reducible refine Base.grow_alloc ?_ _) | (with_reducible refine Base.below_drewN ?_ _) | (with_reducible refine Below.drew ?_) | (with_reducible refine Below.setCell ?_ ?_ _) | go_size)))).mono ?_; rintro e w2 ⟨rfl, hb2⟩; obtain ⟨chb2, fhb2⟩ := Base.bcell hb2; have zhb2 := (hb2).size; (try simp at zhb2); (try have yhb2 : w.heap.size < (w2).heap.size := by omega)) | (go_at_call 76; refine (c_l00In _ _ _ _).mono ?_; rintro e w' ⟨rfl, rfl⟩))
    go_ret
    exact ⟨ret_int HC.out.symm, (by repeat' (first | (with_reducible exact Below.refl _ _) | (with_reducible assumption) | (with_reducible refine Base.via hb2 ?_) | (with_reducible refine Base.via hb1 ?_) | (with_reducible refine Base.grow_alloc ?_ _) | (with_reducible refine Base.below_drewN ?_ _) | (with_reducible refine Below.drew ?_) | (with_reducible refine Below.setCell ?_ ?_ _) | go_size))⟩
end Go.Proofs.Ytiinjnghnfofpaa.Phase
