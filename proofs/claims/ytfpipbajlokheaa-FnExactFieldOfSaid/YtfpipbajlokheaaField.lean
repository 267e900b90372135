/- The field of a chart. -/
import Derived.Test.YtfpipbajlokheaaChart
import Derived.Test.YtfpipbajlokheaaList
import Derived.Test.YtfpipbajlokheaaAmp
import Derived.Deep.RegionHeld3
import Derived.StillTailTactics
namespace Go.Proofs.Ytfpipbajlokheaa.Field
set_option linter.unusedVariables false
set_option linter.unusedSimpArgs false
set_option maxRecDepth 8000
open Go.RowKit Plain Num View Chart Amp

def fieldC (n : Nat) (X Y M : Nat → Int) : Int := if okChart n X Y M = true then (if n = 0 then 3 else 0) else 1
def fieldN (n : Nat) (X Y M : Nat → Int) : Nat := if fieldC n X Y M = 0 then 4 else 0
/-- the four bounds of the first k + 1 marks -/
def fieldV (n : Nat) (X Y : Nat → Int) (i : Nat) : Int := if i = 0 then minT X (n - 1) else if i = 1 then minT Y (n - 1) else if i = 2 then maxT X (n - 1) else maxT Y (n - 1)
theorem field_cases (n : Nat) (X Y M : Nat → Int) : (okChart n X Y M = true ∧ 1 ≤ n ∧ fieldC n X Y M = 0) ∨ (okChart n X Y M = true ∧ n = 0 ∧ fieldC n X Y M = 3) ∨ (okChart n X Y M = false ∧ fieldC n X Y M = 1) := by
  unfold fieldC
  cases h : okChart n X Y M <;> by_cases h3 : n = 0 <;> simp [h3] <;> omega
theorem ret_o {v : Value} {a b : Int} (h : a = b) : Ending.returned (.tuple #[v, .int .i64 a]) = Ending.returned (.tuple #[v, .int .i64 b]) := by rw [h]
/-- A slice of four given numbers. -/
def four (a b c d : Int) : Nat → Int := fun i => if i = 0 then a else if i = 1 then b else if i = 2 then c else d
theorem four_row {w : World} {E : TypeId} {a b c d : Int} {q : Nat} (hq : q = w.heap.size) : RowK (w.alloc (.cells #[.int .i64 a, .int .i64 b, .int .i64 c, .int .i64 d] E)) q E 1 4 (f1 (four a b c d)) := by
  subst hq
  refine RowK.made _ (by simp) fun i hi j hj => ?_
  have : j = 0 := by omega
  subst this
  have : i = 0 ∨ i = 1 ∨ i = 2 ∨ i = 3 := by omega
  rcases this with rfl | rfl | rfl | rfl <;> simp [f1, four]
/-- the bounds so far, of k marks -/
def curF (X Y : Nat → Int) (k : Nat) (a b c d : Int) : Prop := (k = 0 ∧ a = 2000 ∧ b = 2000 ∧ c = 0 ∧ d = 0) ∨ (1 ≤ k ∧ a = minT X (k - 1) ∧ b = minT Y (k - 1) ∧ c = maxT X (k - 1) ∧ d = maxT Y (k - 1))
theorem min_next {T : Nat → Int} {k : Nat} {x : Int} (h : (k = 0 ∧ x = 2000 ∧ T 0 ≤ 2000) ∨ (1 ≤ k ∧ x = minT T (k - 1))) : (if T k < x then T k else x) = minT T (k + 1 - 1) := by
  rw [Nat.add_sub_cancel]
  rcases h with ⟨rfl, rfl, h⟩ | ⟨h1, h2⟩
  · rw [minT]; split <;> omega
  · rw [min_step h1 h2]
theorem max_next {T : Nat → Int} {k : Nat} {x : Int} (h : (k = 0 ∧ x = 0 ∧ 0 ≤ T 0) ∨ (1 ≤ k ∧ x = maxT T (k - 1))) : (if x < T k then T k else x) = maxT T (k + 1 - 1) := by
  rw [Nat.add_sub_cancel]
  rcases h with ⟨rfl, rfl, h⟩ | ⟨h1, h2⟩
  · rw [maxT]; split <;> omega
  · rw [max_step h1 h2]
theorem cur_next {X Y : Nat → Int} {k : Nat} {a b c d : Int} (hX : 0 ≤ X 0 ∧ X 0 ≤ 2000) (hY : 0 ≤ Y 0 ∧ Y 0 ≤ 2000) (h : curF X Y k a b c d) : curF X Y (k + 1) (if X k < a then X k else a) (if Y k < b then Y k else b) (if c < X k then X k else c) (if d < Y k then Y k else d) := by
  refine .inr ⟨by omega, ?_, ?_, ?_, ?_⟩
  · exact min_next (by rcases h with h | h <;> omega)
  · exact min_next (by rcases h with h | h <;> omega)
  · exact max_next (by rcases h with h | h <;> omega)
  · exact max_next (by rcases h with h | h <;> omega)
theorem cur_next2 {X Y : Nat → Int} {k : Nat} {a b c d : Int} (hk : 1 ≤ k) (h : curF X Y k a b c d) : curF X Y (k + 1) (if a < X k then a else X k) (if b < Y k then b else Y k) (if X k < c then c else X k) (if Y k < d then d else Y k) := by
  rcases h with h | ⟨_, ha, hb, hc, hd⟩
  · omega
  · refine .inr ⟨by omega, ?_, ?_, ?_, ?_⟩
    · rw [← min_next (.inr ⟨hk, ha⟩)]; split <;> split <;> omega
    · rw [← min_next (.inr ⟨hk, hb⟩)]; split <;> split <;> omega
    · rw [← max_next (.inr ⟨hk, hc⟩)]; split <;> split <;> omega
    · rw [← max_next (.inr ⟨hk, hd⟩)]; split <;> split <;> omega
theorem cur_end {X Y : Nat → Int} {k : Nat} {a b c d : Int} (hk : 1 ≤ k) (h : curF X Y k a b c d) : ∀ i, i < 4 → four a b c d i = fieldV k X Y i := by
  intro i hi
  rcases h with h | ⟨_, rfl, rfl, rfl, rfl⟩
  · omega
  · rfl
set_option maxHeartbeats 1600000 in
theorem c_FieldOf (A : Option Addr) (n c : Nat) (X Y M : Nat → Int) (w : World) (hv : Sl w 3 A n c (f3 X Y M)) :
    Calls Try.prog 52 #[.slice A n c] w fun e w' => ∃ v, e = .returned (.tuple #[v, .int .i64 (fieldC n X Y M)]) ∧ OwnK w' w.heap.size 2 1 v (fieldN n X Y M) (f1 (fieldV n X Y)) ∧ Below w.heap.size w w' := by
  have hn := hv.le
  rcases field_cases n X Y M with ⟨h1, h2, hc⟩ | ⟨h1, rfl, hc⟩ | ⟨h1, hc⟩
  · have HN := Lib.hid (show fieldN n X Y M = 4 by rw [fieldN, if_pos hc])
    have HC := Lib.hid hc
    have HB := Lib.hid (okChart_bd h1)
    have hn0 : ((n : Int) == 0) = false := by simp; omega
    clear hc
    go_enter Try.func52, Try.ntmps52
    go_wp2_with (first | (go_at_call 66; refine (c_ValidChart _ _ _ X Y M _ (hv.below (by repeat' (first | (with_reducible exact Below.refl _ _) | (with_reducible assumption) | (with_reducible refine Base.grow_alloc ?_ _) | (with_reducible refine Base.below_drewN ?_ _) | (with_reducible refine Below.drew ?_) | (with_reducible refine Below.setCell ?_ ?_ _) | go_size)))).mono ?_; rintro e w1 ⟨rfl, hb1⟩; obtain ⟨chb1, fhb1⟩ := Base.bcell hb1; have zhb1 := (hb1).size; (try simp at zhb1); (try have yhb1 : w.heap.size < (w1).heap.size := by omega)))
    have hvw := hv.below hb1
    clear chb1 fhb1
    go_loopw [4, 6, 18] (fun v _ i wr => ∃ (k q : Nat) (a b c d : Int), k ≤ n ∧ i = .int .i64 k ∧ v = .slice (some ⟨q, 0, none⟩) 4 4 ∧ w1.heap.size ≤ q ∧ RowK wr q 2 1 4 (f1 (four a b c d)) ∧ Hid (curF X Y k a b c d) ∧ Below w1.heap.size w1 wr) (fun _ _ i _ => n - (intOf i).toNat)
    case atStart => exact ⟨0, _, 2000, 2000, 0, 0, Nat.zero_le _, rfl, rfl, Nat.le_refl _, four_row rfl, (show curF X Y 0 2000 2000 0 0 from .inl ⟨rfl, rfl, rfl, rfl, rfl⟩), (by repeat' (first | (with_reducible exact Below.refl _ _) | (with_reducible assumption) | (with_reducible refine Base.grow_alloc ?_ _) | (with_reducible refine Base.below_drewN ?_ _) | (with_reducible refine Below.drew ?_) | (with_reducible refine Below.setCell ?_ ?_ _) | go_size))⟩
    case round =>
      obtain ⟨k, q, a, b, c', d, hk, rfl, rfl, hq, hrow, hcur, hbr⟩ := hrel
      by_cases hlt : k < n
      · obtain ⟨bb, off, rfl, hbb, hcc⟩ := (hvw.below hbr).at_ (by omega)
        obtain ⟨p0, p1, p2⟩ := cells3 hcc k hlt
        have HCN := Lib.hid (cur_next (HB.out 0 (by omega)).1 (HB.out 0 (by omega)).2.1 hcur.out (k := k))
        have s0 := hrow.cell1 (show 0 < 4 by omega)
        have s1 := hrow.cell1 (show 1 < 4 by omega)
        have s2 := hrow.cell1 (show 2 < 4 by omega)
        have s3 := hrow.cell1 (show 3 < 4 by omega)
        simp only [f1, four] at s0 s1 s2 s3
        have hql := hrow.lt
        clear hcc
        go_wp2
        obtain ⟨wo, hwo⟩ : ∃ wo : World, wo = wr.alloc (.cells #[.int .i64 (X k), .int .i64 (Y k), .int .i64 (M k)] 65) := ⟨_, rfl⟩
        have hgo : Below wr.heap.size wr wo := by rw [hwo]; exact (by repeat' (first | (with_reducible exact Below.refl _ _) | (with_reducible assumption) | (with_reducible refine Base.grow_alloc ?_ _) | (with_reducible refine Base.below_drewN ?_ _) | (with_reducible refine Below.drew ?_) | (with_reducible refine Below.setCell ?_ ?_ _) | go_size))
        have t0 := cell_call hgo s0
        have t1 := cell_call hgo s1
        have t2 := cell_call hgo s2
        have t3 := cell_call hgo s3
        have u0 : wo.cell? ⟨wr.heap.size, 0, none⟩ = some (.int .i64 (X k)) := by rw [hwo]; simp
        have u1 : wo.cell? ⟨wr.heap.size, 1, none⟩ = some (.int .i64 (Y k)) := by rw [hwo]; simp
        have hbo : Below w1.heap.size w1 wo := (by repeat' (first | (with_reducible exact Below.refl _ _) | (with_reducible assumption) | (with_reducible refine Base.via hgo ?_) | (with_reducible refine Base.grow_alloc ?_ _) | (with_reducible refine Base.below_drewN ?_ _) | (with_reducible refine Below.drew ?_) | (with_reducible refine Below.setCell ?_ ?_ _) | go_size))
        rw [← hwo]
        clear hwo s0 s1 s2 s3 hgo
        go_still_tail 24, (by kernel_rfl)
        change wpList _ _ _ _ _ wo.drew
        obtain ⟨w2, hw2⟩ : ∃ w2, w2 = wo.drew := ⟨_, rfl⟩
        have hb2 : Below w1.heap.size w1 w2 := by rw [hw2]; exact (by repeat' (first | (with_reducible exact Below.refl _ _) | (with_reducible assumption) | (with_reducible refine Base.via hbo ?_) | (with_reducible refine Base.grow_alloc ?_ _) | (with_reducible refine Base.below_drewN ?_ _) | (with_reducible refine Below.drew ?_) | (with_reducible refine Below.setCell ?_ ?_ _) | go_size))
        rw [← hw2]
        clear hw2
        go_wp2
        go_roundw
        case rel => exact ⟨k + 1, _, _, _, _, _, by omega, by go_num, rfl, hb2.size, four_row rfl, HCN.out, (by repeat' (first | (with_reducible exact Below.refl _ _) | (with_reducible assumption) | (with_reducible refine Base.via hb2 ?_) | (with_reducible refine Base.grow_alloc ?_ _) | (with_reducible refine Base.below_drewN ?_ _) | (with_reducible refine Below.drew ?_) | (with_reducible refine Below.setCell ?_ ?_ _) | go_size))⟩
        case measure => simp [intOf]; omega
      · have hkn : k = n := by omega
        subst hkn
        go_wp2
        go_ret2
        exact ⟨_, ret_o HC.out.symm, by rw [HN.out]; exact (OwnK.of_row (by omega) (by omega) (hrow.congr fun i hi j _ => by simp only [f1]; rw [cur_end h2 hcur.out i hi])), (by repeat' (first | (with_reducible exact Below.refl _ _) | (with_reducible assumption) | (with_reducible refine Base.via hbr ?_) | (with_reducible refine Base.via hb1 ?_) | (with_reducible refine Base.grow_alloc ?_ _) | (with_reducible refine Base.below_drewN ?_ _) | (with_reducible refine Below.drew ?_) | (with_reducible refine Below.setCell ?_ ?_ _) | go_size))⟩
  all_goals
    have HN := Lib.hid (by rw [fieldN, hc]; rfl : fieldN _ X Y M = 0)
    have HC := Lib.hid hc
    clear hc
    go_enter Try.func52, Try.ntmps52
    go_wp2_with (first | (go_at_call 66; refine (c_ValidChart _ _ _ X Y M _ (hv.below (by repeat' (first | (with_reducible exact Below.refl _ _) | (with_reducible assumption) | (with_reducible refine Base.grow_alloc ?_ _) | (with_reducible refine Base.below_drewN ?_ _) | (with_reducible refine Below.drew ?_) | (with_reducible refine Below.setCell ?_ ?_ _) | go_size)))).mono ?_; rintro e w1 ⟨rfl, hb1⟩; obtain ⟨chb1, fhb1⟩ := Base.bcell hb1; have zhb1 := (hb1).size; (try simp at zhb1); (try have yhb1 : w.heap.size < (w1).heap.size := by omega)))
    go_ret2
    exact ⟨_, ret_o HC.out.symm, OwnK.zero HN.out, (by repeat' (first | (with_reducible exact Below.refl _ _) | (with_reducible assumption) | (with_reducible refine Base.via hb1 ?_) | (with_reducible refine Base.grow_alloc ?_ _) | (with_reducible refine Base.below_drewN ?_ _) | (with_reducible refine Below.drew ?_) | (with_reducible refine Below.setCell ?_ ?_ _) | go_size))⟩
theorem c_l00MinI (a b : Int) (w : World) : Calls Try.prog 70 #[.int .i64 a, .int .i64 b] w fun e w' => e = .returned (.int .i64 (if a < b then a else b)) ∧ w' = w := by
  by_cases h : a < b
  · rw [if_pos h]; exact (c_l00Min1 a b w h).mono fun _ _ h => ⟨h.1, h.2.symm⟩
  · rw [if_neg h]; exact (c_l00Min2 a b w h).mono fun _ _ h => ⟨h.1, h.2.symm⟩
theorem c_l00MaxI (a b : Int) (w : World) : Calls Try.prog 71 #[.int .i64 a, .int .i64 b] w fun e w' => e = .returned (.int .i64 (if b < a then a else b)) ∧ w' = w := by
  by_cases h : b < a
  · rw [if_pos h]; exact (c_l00Max1 a b w h).mono fun _ _ h => ⟨h.1, h.2.symm⟩
  · rw [if_neg h]; exact (c_l00Max2 a b w h).mono fun _ _ h => ⟨h.1, h.2.symm⟩
set_option maxHeartbeats 1600000 in
theorem c_specFieldOf (A : Option Addr) (n c : Nat) (X Y M : Nat → Int) (w : World) (hv : Sl w 3 A n c (f3 X Y M)) :
    Calls Try.prog 51 #[.slice A n c] w fun e w' => ∃ v, e = .returned (.tuple #[v, .int .i64 (fieldC n X Y M)]) ∧ OwnK w' w.heap.size 2 1 v (fieldN n X Y M) (f1 (fieldV n X Y)) ∧ Below w.heap.size w w' := by
  have hn := hv.le
  rcases field_cases n X Y M with ⟨h1, h2, hc⟩ | ⟨h1, rfl, hc⟩ | ⟨h1, hc⟩
  · have HN := Lib.hid (show fieldN n X Y M = 4 by rw [fieldN, if_pos hc])
    have HC := Lib.hid hc
    have hn0 : ((n : Int) == 0) = false := by simp; omega
    clear hc
    go_enter Try.func51, Try.ntmps51
    go_wp2_with (first | (go_at_call 64; refine (c_l07Ok _ _ _ X Y M _ (hv.below (by repeat' (first | (with_reducible exact Below.refl _ _) | (with_reducible assumption) | (with_reducible refine Base.grow_alloc ?_ _) | (with_reducible refine Base.below_drewN ?_ _) | (with_reducible refine Below.drew ?_) | (with_reducible refine Below.setCell ?_ ?_ _) | go_size)))).mono ?_; rintro e w1 ⟨rfl, hb1⟩; obtain ⟨chb1, fhb1⟩ := Base.bcell hb1; have zhb1 := (hb1).size; (try simp at zhb1); (try have yhb1 : w.heap.size < (w1).heap.size := by omega)))
    have hvw := hv.below hb1
    obtain ⟨bb, off, rfl, hbb, hcc⟩ := hvw.at_ (by omega)
    obtain ⟨p0, p1, p2⟩ := cells3 hcc 0 (by omega)
    simp only [Nat.zero_mul, Nat.add_zero] at p0 p1 p2
    clear chb1 fhb1 hcc
    have h20 : 0 < n := by omega
    go_still_tail 16, (by kernel_rfl)
    change wpList _ _ _ _ _ w1.drew
    obtain ⟨w2, hw2⟩ : ∃ w2, w2 = w1.drew := ⟨_, rfl⟩
    have hb2 : Below w1.heap.size w1 w2 := by rw [hw2]; exact (by repeat' (first | (with_reducible exact Below.refl _ _) | (with_reducible assumption) | (with_reducible refine Base.grow_alloc ?_ _) | (with_reducible refine Base.below_drewN ?_ _) | (with_reducible refine Below.drew ?_) | (with_reducible refine Below.setCell ?_ ?_ _) | go_size))
    have hvw := hvw.below hb2
    rw [← hw2]
    clear hw2 p0 p1 p2
    go_wp2
    go_loopw [4, 5] (fun v i wr => ∃ (k q : Nat) (a b c d : Int), 1 ≤ k ∧ k ≤ n ∧ i = .int .i64 k ∧ v = .slice (some ⟨q, 0, none⟩) 4 4 ∧ w2.heap.size ≤ q ∧ RowK wr q 2 1 4 (f1 (four a b c d)) ∧ Hid (curF X Y k a b c d) ∧ Below w2.heap.size w2 wr) (fun _ i _ => n - (intOf i).toNat)
    case atStart => exact ⟨1, _, X 0, Y 0, X 0, Y 0, Nat.le_refl _, h2, rfl, rfl, Nat.le_refl _, four_row rfl, (show curF X Y 1 (X 0) (Y 0) (X 0) (Y 0) from .inr ⟨Nat.le_refl _, rfl, rfl, rfl, rfl⟩), (by repeat' (first | (with_reducible exact Below.refl _ _) | (with_reducible assumption) | (with_reducible refine Base.grow_alloc ?_ _) | (with_reducible refine Base.below_drewN ?_ _) | (with_reducible refine Below.drew ?_) | (with_reducible refine Below.setCell ?_ ?_ _) | go_size))⟩
    case round =>
      obtain ⟨k, q, a, b, c', d, hk1, hk, rfl, rfl, hq, hrow, hcur, hbr⟩ := hrel
      by_cases hlt : k < n
      · obtain ⟨bb', off', e0, hbb', hcc⟩ := (hvw.below hbr).at_ (by omega)
        injection e0 with e0
        injection e0 with e1 e2
        subst e1; subst e2
        obtain ⟨p0, p1, p2⟩ := cells3 hcc k hlt
        have HCN := Lib.hid (cur_next2 hk1 hcur.out)
        have s0 := hrow.cell1 (show 0 < 4 by omega)
        have s1 := hrow.cell1 (show 1 < 4 by omega)
        have s2 := hrow.cell1 (show 2 < 4 by omega)
        have s3 := hrow.cell1 (show 3 < 4 by omega)
        simp only [f1, four] at s0 s1 s2 s3
        have hql := hrow.lt
        clear hcc
        go_wp2
        go_still_tail 36, (by kernel_rfl)
        still_call (c_l00MinI _ _ _)
        repeat still_step
        still_call (c_l00MinI _ _ _)
        repeat still_step
        still_call (c_l00MaxI _ _ _)
        repeat still_step
        still_call (c_l00MaxI _ _ _)
        repeat still_step
        refine wpStill_nil ?_
        change wpList _ _ _ _ _ wr.drew
        obtain ⟨w3, hw3⟩ : ∃ w3, w3 = wr.drew := ⟨_, rfl⟩
        have hb3 : Below w2.heap.size w2 w3 := by rw [hw3]; exact (by repeat' (first | (with_reducible exact Below.refl _ _) | (with_reducible assumption) | (with_reducible refine Base.grow_alloc ?_ _) | (with_reducible refine Base.below_drewN ?_ _) | (with_reducible refine Below.drew ?_) | (with_reducible refine Below.setCell ?_ ?_ _) | go_size))
        rw [← hw3]
        clear hw3 s0 s1 s2 s3 p0 p1 p2
        go_wp2
        go_roundw
        case rel => exact ⟨k + 1, _, _, _, _, _, by omega, by omega, by go_num, rfl, hb3.size, four_row rfl, HCN.out, (by repeat' (first | (with_reducible exact Below.refl _ _) | (with_reducible assumption) | (with_reducible refine Base.via hb3 ?_) | (with_reducible refine Base.grow_alloc ?_ _) | (with_reducible refine Base.below_drewN ?_ _) | (with_reducible refine Below.drew ?_) | (with_reducible refine Below.setCell ?_ ?_ _) | go_size))⟩
        case measure => simp [intOf]; omega
      · have hkn : k = n := by omega
        subst hkn
        have hz1 := hb1.size
        have hz2 := hb2.size
        go_wp2
        go_ret2
        exact ⟨_, ret_o HC.out.symm, by rw [HN.out]; exact (OwnK.of_row (by omega) (by omega) (hrow.congr fun i hi j _ => by simp only [f1]; rw [cur_end h2 hcur.out i hi])), (by repeat' (first | (with_reducible exact Below.refl _ _) | (with_reducible assumption) | (with_reducible refine Base.via hbr ?_) | (with_reducible refine Base.via hb2 ?_) | (with_reducible refine Base.via hb1 ?_) | (with_reducible refine Base.grow_alloc ?_ _) | (with_reducible refine Base.below_drewN ?_ _) | (with_reducible refine Below.drew ?_) | (with_reducible refine Below.setCell ?_ ?_ _) | go_size))⟩
  all_goals
    have HN := Lib.hid (by rw [fieldN, hc]; rfl : fieldN _ X Y M = 0)
    have HC := Lib.hid hc
    clear hc
    go_enter Try.func51, Try.ntmps51
    go_wp2_with (first | (go_at_call 64; refine (c_l07Ok _ _ _ X Y M _ (hv.below (by repeat' (first | (with_reducible exact Below.refl _ _) | (with_reducible assumption) | (with_reducible refine Base.grow_alloc ?_ _) | (with_reducible refine Base.below_drewN ?_ _) | (with_reducible refine Below.drew ?_) | (with_reducible refine Below.setCell ?_ ?_ _) | go_size)))).mono ?_; rintro e w1 ⟨rfl, hb1⟩; obtain ⟨chb1, fhb1⟩ := Base.bcell hb1; have zhb1 := (hb1).size; (try simp at zhb1); (try have yhb1 : w.heap.size < (w1).heap.size := by omega)))
    go_ret2
    exact ⟨_, ret_o HC.out.symm, OwnK.zero HN.out, (by repeat' (first | (with_reducible exact Below.refl _ _) | (with_reducible assumption) | (with_reducible refine Base.via hb1 ?_) | (with_reducible refine Base.grow_alloc ?_ _) | (with_reducible refine Base.below_drewN ?_ _) | (with_reducible refine Below.drew ?_) | (with_reducible refine Below.setCell ?_ ?_ _) | go_size))⟩
end Go.Proofs.Ytfpipbajlokheaa.Field
