/- The nearest mark. -/
import Derived.Test.YtfpipbajlokheaaChart
import Derived.Test.YtfpipbajlokheaaMags
namespace Go.Proofs.Ytfpipbajlokheaa.Near
set_option linter.unusedVariables false
set_option linter.unusedSimpArgs false
open Go.RowKit Plain Num View Chart

/-- the square of the distance of mark i -/
def dist (X Y : Nat → Int) (x y : Int) (i : Nat) : Int := (X i - x) * (X i - x) + (Y i - y) * (Y i - y)
/-- the first index of the least of the first k + 1 -/
def argm (D : Nat → Int) : Nat → Nat
  | 0 => 0
  | k + 1 => if D (k + 1) < D (argm D k) then k + 1 else argm D k
theorem argm_le (D : Nat → Int) (k : Nat) : argm D k ≤ k := by
  induction k with
  | zero => simp [argm]
  | succ k ih => rw [argm]; split <;> omega
theorem argm_yes {D : Nat → Int} {k g : Nat} (hg : g = argm D (k - 1)) (h : D k < D g) : k = argm D (k + 1 - 1) := by
  cases k with
  | zero => rfl
  | succ k => simp only [Nat.add_sub_cancel] at hg ⊢; rw [argm, ← hg, if_pos h]
theorem argm_no {D : Nat → Int} {k g : Nat} (hg : g = argm D (k - 1)) (h : ¬ D k < D g) : g = argm D (k + 1 - 1) := by
  cases k with
  | zero => exact hg
  | succ k => simp only [Nat.add_sub_cancel] at hg ⊢; rw [argm, ← hg, if_neg h]
theorem sq2_bd {a b : Int} (ha : 0 ≤ a ∧ a ≤ 2000) (hb : 0 ≤ b ∧ b ≤ 2000) : 0 ≤ (a - b) * (a - b) ∧ (a - b) * (a - b) ≤ 4000000 := by
  refine ⟨?_, ?_⟩
  · rcases Int.le_total 0 (a - b) with h | h
    · exact Int.mul_nonneg h h
    · exact Int.mul_nonneg_of_nonpos_of_nonpos h h
  · rcases Int.le_total 0 (a - b) with h | h
    · exact Int.le_trans (Int.mul_le_mul_of_nonneg_left (show a - b ≤ 2000 by omega) h) (by omega)
    · have := Int.mul_le_mul_of_nonneg_left (show -(a - b) ≤ 2000 by omega) (show 0 ≤ -(a - b) by omega)
      have e : -(a - b) * -(a - b) = (a - b) * (a - b) := by rw [Int.neg_mul_neg]
      omega
def nearC (n : Nat) (X Y M : Nat → Int) (x y : Int) : Int := if okChart n X Y M = true then (if (inB x 0 2000 && inB y 0 2000) = true then (if n = 0 then 3 else 0) else 2) else 1
def nearV (n : Nat) (X Y M : Nat → Int) (x y : Int) : Int := if nearC n X Y M x y = 0 then (argm (dist X Y x y) (n - 1) : Int) else 0
theorem near_cases (n : Nat) (X Y M : Nat → Int) (x y : Int) : (okChart n X Y M = true ∧ inB x 0 2000 = true ∧ inB y 0 2000 = true ∧ 1 ≤ n ∧ nearC n X Y M x y = 0) ∨ (okChart n X Y M = true ∧ inB x 0 2000 = true ∧ inB y 0 2000 = true ∧ n = 0 ∧ nearC n X Y M x y = 3) ∨ (okChart n X Y M = true ∧ inB x 0 2000 = false ∧ nearC n X Y M x y = 2) ∨ (okChart n X Y M = true ∧ inB x 0 2000 = true ∧ inB y 0 2000 = false ∧ nearC n X Y M x y = 2) ∨ (okChart n X Y M = false ∧ nearC n X Y M x y = 1) := by
  unfold nearC
  cases h : okChart n X Y M <;> cases h1 : inB x 0 2000 <;> cases h2 : inB y 0 2000 <;> by_cases h3 : n = 0 <;> simp [h3] <;> omega
theorem ret_pair {k l : IntKind} {a b c d : Int} (h : a = c) (h' : b = d) : Ending.returned (.tuple #[.int k a, .int l b]) = .returned (.tuple #[.int k c, .int l d]) := by rw [h, h']
set_option maxHeartbeats 1600000 in
theorem c_specNearestMark (A : Option Addr) (n c : Nat) (X Y M : Nat → Int) (x y : Int) (w : World) (hv : Sl w 3 A n c (f3 X Y M)) :
    Calls Try.prog 21 #[.slice A n c, .int .i64 x, .int .i64 y] w fun e w' => e = .returned (.tuple #[.int .i64 (nearV n X Y M x y), .int .i64 (nearC n X Y M x y)]) ∧ Below w.heap.size w w' := by
  have hn := hv.le
  rcases near_cases n X Y M x y with ⟨h1, h2, h3, h4, hc⟩ | ⟨h1, h2, h3, rfl, hc⟩ | ⟨h1, h2, hc⟩ | ⟨h1, h2, h3, hc⟩ | ⟨h1, hc⟩
  · obtain ⟨x0, x1⟩ := inB_iff.1 h2
    obtain ⟨y0, y1⟩ := inB_iff.1 h3
    have HV := Lib.hid (show nearV n X Y M x y = (argm (dist X Y x y) (n - 1) : Int) by rw [nearV, if_pos hc])
    have HC := Lib.hid hc
    have HB := Lib.hid (okChart_bd h1)
    clear hc
    go_enter Try.func21, Try.ntmps21
    go_wp2_with (first | (go_at_call 64; refine (c_l07Ok _ _ _ X Y M _ hv).mono ?_; rintro e w1 ⟨rfl, hb1⟩; obtain ⟨chb1, fhb1⟩ := Base.bcell hb1; have zhb1 := (hb1).size; (try simp at zhb1); (try have yhb1 : w.heap.size < (w1).heap.size := by omega)) | (go_at_call 65; refine (c_l07Place _ _).mono ?_; rintro e w' ⟨rfl, rfl⟩))
    clear chb1 fhb1 zhb1
    go_loopw [8, 9, 10, 11, 12] (fun s l i _ _ wr => ∃ (k g : Nat), k ≤ n ∧ i = .int .i64 k ∧ ((k = 0 ∧ s = .int .i64 (-1) ∧ l = .int .i64 0) ∨ (1 ≤ k ∧ g < k ∧ Hid (g = argm (dist X Y x y) (k - 1)) ∧ s = .int .i64 g ∧ l = .int .i64 (dist X Y x y g))) ∧ Below w.heap.size w wr) (fun _ _ i _ _ _ => n - (intOf i).toNat)
    case atStart => exact ⟨0, 0, Nat.zero_le _, rfl, .inl ⟨rfl, rfl, rfl⟩, (by repeat' (first | (with_reducible exact Below.refl _ _) | (with_reducible assumption) | (with_reducible refine Base.via hb1 ?_) | (with_reducible refine Base.grow_alloc ?_ _) | (with_reducible refine Base.below_drewN ?_ _) | (with_reducible refine Below.drew ?_) | (with_reducible refine Below.setCell ?_ ?_ _) | go_size))⟩
    case round =>
      obtain ⟨k, g, hk, rfl, hcase, hbr⟩ := hrel
      by_cases hlt : k < n
      · obtain ⟨b, off, rfl, hb, hcc⟩ := (hv.below hbr).at_ (by omega)
        obtain ⟨p0, p1, p2⟩ := cells3 hcc k hlt
        obtain ⟨bx, by_, _⟩ := HB.out k hlt
        have q1 := sq2_bd bx ⟨x0, x1⟩
        have q2 := sq2_bd by_ ⟨y0, y1⟩
        obtain ⟨bx0, bx1⟩ := bx
        obtain ⟨by0, by1⟩ := by_
        have HD := Lib.hid (show (X k - x) * (X k - x) + (Y k - y) * (Y k - y) = dist X Y x y k from rfl)
        clear hcc
        rcases hcase with ⟨rfl, rfl, rfl⟩ | ⟨hk1, hgk, hg, rfl, rfl⟩
        · simp only [Nat.zero_mul, Nat.add_zero] at p0 p1 p2
          go_wp2
          go_roundw
          case rel => exact ⟨1, 0, by omega, by go_num, .inr ⟨by omega, by omega, (show (0 : Nat) = argm (dist X Y x y) (1 - 1) from rfl), by go_num, rfl⟩, (by repeat' (first | (with_reducible exact Below.refl _ _) | (with_reducible assumption) | (with_reducible refine Base.grow_alloc ?_ _) | (with_reducible refine Base.below_drewN ?_ _) | (with_reducible refine Below.drew ?_) | (with_reducible refine Below.setCell ?_ ?_ _) | go_size))⟩
          case measure => simp [intOf]; omega
        · by_cases hgt : (X k - x) * (X k - x) + (Y k - y) * (Y k - y) < dist X Y x y g
          · have HG := Lib.hid (argm_yes hg.out hgt)
            go_wp2
            go_roundw
            case rel => exact ⟨k + 1, k, by omega, by go_num, .inr ⟨by omega, by omega, HG.out, rfl, by rw [← HD.out]⟩, (by repeat' (first | (with_reducible exact Below.refl _ _) | (with_reducible assumption) | (with_reducible refine Base.grow_alloc ?_ _) | (with_reducible refine Base.below_drewN ?_ _) | (with_reducible refine Below.drew ?_) | (with_reducible refine Below.setCell ?_ ?_ _) | go_size))⟩
            case measure => simp [intOf]; omega
          · have HG := Lib.hid (argm_no hg.out hgt)
            go_wp2
            go_roundw
            case rel => exact ⟨k + 1, g, by omega, by go_num, .inr ⟨by omega, by omega, HG.out, rfl, rfl⟩, (by repeat' (first | (with_reducible exact Below.refl _ _) | (with_reducible assumption) | (with_reducible refine Base.grow_alloc ?_ _) | (with_reducible refine Base.below_drewN ?_ _) | (with_reducible refine Below.drew ?_) | (with_reducible refine Below.setCell ?_ ?_ _) | go_size))⟩
            case measure => simp [intOf]; omega
      · have hkn : k = n := by omega
        subst hkn
        rcases hcase with ⟨rfl, rfl, rfl⟩ | ⟨hk1, hgk, hg, rfl, rfl⟩
        · omega
        · have HV2 := Lib.hid (show (g : Int) = nearV k X Y M x y by rw [HV.out, ← hg.out])
          go_wp2
          go_ret2
          exact ⟨ret_pair HV2.out HC.out.symm, hbr⟩
  · have HV := Lib.hid (show (0 : Int) = nearV 0 X Y M x y by rw [nearV, hc]; rfl)
    have HC := Lib.hid hc
    clear hc
    go_enter Try.func21, Try.ntmps21
    go_wp2_with (first | (go_at_call 64; refine (c_l07Ok _ _ _ X Y M _ hv).mono ?_; rintro e w1 ⟨rfl, hb1⟩; obtain ⟨chb1, fhb1⟩ := Base.bcell hb1; have zhb1 := (hb1).size; (try simp at zhb1); (try have yhb1 : w.heap.size < (w1).heap.size := by omega)) | (go_at_call 65; refine (c_l07Place _ _).mono ?_; rintro e w' ⟨rfl, rfl⟩))
    refine wp_loop_rounds 1 ?_
    rw [rounds_succ]
    go_wp2
    go_ret2
    exact ⟨ret_pair HV.out HC.out.symm, (by repeat' (first | (with_reducible exact Below.refl _ _) | (with_reducible assumption) | (with_reducible refine Base.via hb1 ?_) | (with_reducible refine Base.grow_alloc ?_ _) | (with_reducible refine Base.below_drewN ?_ _) | (with_reducible refine Below.drew ?_) | (with_reducible refine Below.setCell ?_ ?_ _) | go_size))⟩
  all_goals
    have HV := Lib.hid (show (0 : Int) = nearV n X Y M x y by rw [nearV, hc]; rfl)
    have HC := Lib.hid hc
    clear hc
    go_enter Try.func21, Try.ntmps21
    go_wp2_with (first | (go_at_call 64; refine (c_l07Ok _ _ _ X Y M _ hv).mono ?_; rintro e w1 ⟨rfl, hb1⟩; obtain ⟨chb1, fhb1⟩ := Base.bcell hb1; have zhb1 := (hb1).size; (try simp at zhb1); (try have yhb1 : w.heap.size < (w1).heap.size := by omega)) | (go_at_call 65; refine (c_l07Place _ _).mono ?_; rintro e w' ⟨rfl, rfl⟩))
    go_ret2
    exact ⟨ret_pair HV.out HC.out.symm, (by repeat' (first | (with_reducible exact Below.refl _ _) | (with_reducible assumption) | (with_reducible refine Base.via hb1 ?_) | (with_reducible refine Base.grow_alloc ?_ _) | (with_reducible refine Base.below_drewN ?_ _) | (with_reducible refine Below.drew ?_) | (with_reducible refine Below.setCell ?_ ?_ _) | go_size))⟩
set_option maxHeartbeats 800000 in
theorem c_far (X Y M x y : Int) (bx by' : Nat) (w : World) (hx : w.cell? ⟨bx, 0, none⟩ = some (.int .i64 x)) (hy : w.cell? ⟨by', 0, none⟩ = some (.int .i64 y)) (lx : bx < w.heap.size) (ly : by' < w.heap.size)
    (rX : 0 ≤ X ∧ X ≤ 2000) (rY : 0 ≤ Y ∧ Y ≤ 2000) (rx : 0 ≤ x ∧ x ≤ 2000) (ry : 0 ≤ y ∧ y ≤ 2000) :
    Calls Try.prog 67 #[.agg #[.int .i64 X, .int .i64 Y, .int .i64 M], .pointer (some ⟨bx, 0, none⟩), .pointer (some ⟨by', 0, none⟩)] w fun e w' => e = .returned (.int .i64 ((X - x) * (X - x) + (Y - y) * (Y - y))) ∧ Below w.heap.size w w' := by
  have q1 := sq2_bd rX rx
  have q2 := sq2_bd rY ry
  go_enter Try.func67, Try.ntmps67
  go_wp2
  go_ret
  exact ⟨rfl, (by repeat' (first | (with_reducible exact Below.refl _ _) | (with_reducible assumption) | (with_reducible refine Base.grow_alloc ?_ _) | (with_reducible refine Base.below_drewN ?_ _) | (with_reducible refine Below.drew ?_) | (with_reducible refine Below.setCell ?_ ?_ _) | go_size))⟩
set_option maxHeartbeats 1600000 in
theorem c_NearestMark (A : Option Addr) (n c : Nat) (X Y M : Nat → Int) (x y : Int) (w : World) (hv : Sl w 3 A n c (f3 X Y M)) :
    Calls Try.prog 23 #[.slice A n c, .int .i64 x, .int .i64 y] w fun e w' => e = .returned (.tuple #[.int .i64 (nearV n X Y M x y), .int .i64 (nearC n X Y M x y)]) ∧ Below w.heap.size w w' := by
  have hn := hv.le
  have eg : ∀ args w, (callFunc 67 args).run Try.prog w = .ok (.enter 67 args) w := enters_of Try.func67 (by kernel_rfl) rfl
  rcases near_cases n X Y M x y with ⟨h1, h2, h3, h4, hc⟩ | ⟨h1, h2, h3, rfl, hc⟩ | ⟨h1, h2, hc⟩ | ⟨h1, h2, h3, hc⟩ | ⟨h1, hc⟩
  · have hx := inB_iff.1 h2
    have hy := inB_iff.1 h3
    have HV := Lib.hid (show nearV n X Y M x y = (argm (dist X Y x y) (n - 1) : Int) by rw [nearV, if_pos hc])
    have HCD := Lib.hid hc
    have HB := Lib.hid (okChart_bd h1)
    have hn0 : ((n : Int) == 0) = false := by simp; omega
    clear hc
    go_enter Try.func23, Try.ntmps23
    go_wp2_with (first | (go_at_call 66; refine (c_ValidChart _ _ _ X Y M _ (hv.below (by repeat' (first | (with_reducible exact Below.refl _ _) | (with_reducible assumption) | (with_reducible refine Base.grow_alloc ?_ _) | (with_reducible refine Base.below_drewN ?_ _) | (with_reducible refine Below.drew ?_) | (with_reducible refine Below.setCell ?_ ?_ _) | go_size)))).mono ?_; rintro e w1 ⟨rfl, hb1⟩; obtain ⟨chb1, fhb1⟩ := Base.bcell hb1; have zhb1 := (hb1).size; (try simp at zhb1); (try have yhb1 : w.heap.size < (w1).heap.size := by omega)) | (go_at_call 59; refine (c_in _ _ _ _).mono ?_; rintro e w' ⟨rfl, rfl⟩))
    have k0 : World.cell? w1 ⟨w.heap.size, 0, none⟩ = some (.int .i64 x) := ((hb1.cell (p := ⟨w.heap.size, 0, none⟩) (by first | (simp; done) | (simp; omega) | omega)).trans (by simp [go_sem]))
    have k1 : World.cell? w1 ⟨w.heap.size + 1, 0, none⟩ = some (.int .i64 y) := ((hb1.cell (p := ⟨w.heap.size + 1, 0, none⟩) (by first | (simp; done) | (simp; omega) | omega)).trans (by simp [go_sem]))
    have hvw := hv.below (show Below w.heap.size w w1 from (by repeat' (first | (with_reducible exact Below.refl _ _) | (with_reducible assumption) | (with_reducible refine Base.via hb1 ?_) | (with_reducible refine Base.grow_alloc ?_ _) | (with_reducible refine Base.below_drewN ?_ _) | (with_reducible refine Below.drew ?_) | (with_reducible refine Below.setCell ?_ ?_ _) | go_size)))
    have hbw : Below w.heap.size w w1 := (by repeat' (first | (with_reducible exact Below.refl _ _) | (with_reducible assumption) | (with_reducible refine Base.via hb1 ?_) | (with_reducible refine Base.grow_alloc ?_ _) | (with_reducible refine Base.below_drewN ?_ _) | (with_reducible refine Below.drew ?_) | (with_reducible refine Below.setCell ?_ ?_ _) | go_size))
    clear chb1 fhb1 hb1
    go_loopw [9, 10, 11, 32] (fun s _ _ i wr => ∃ (k g : Nat), k ≤ n ∧ g < n ∧ Hid (g = argm (dist X Y x y) (k - 1)) ∧ i = .int .i64 k ∧ s = .int .i64 g ∧ Below w1.heap.size w1 wr) (fun _ _ _ i _ => n - (intOf i).toNat)
    case atStart => exact ⟨0, 0, Nat.zero_le _, by omega, (show (0 : Nat) = argm (dist X Y x y) (0 - 1) from rfl), rfl, rfl, (by repeat' (first | (with_reducible exact Below.refl _ _) | (with_reducible assumption) | (with_reducible refine Base.grow_alloc ?_ _) | (with_reducible refine Base.below_drewN ?_ _) | (with_reducible refine Below.drew ?_) | (with_reducible refine Below.setCell ?_ ?_ _) | go_size))⟩
    case round =>
      obtain ⟨k, g, hk, hgn, hg, rfl, rfl, hbr⟩ := hrel
      have hzr := hbr.size
      by_cases hlt : k < n
      · obtain ⟨b, off, rfl, hb, hcc⟩ := (hvw.below hbr).at_ (by omega)
        obtain ⟨p0, p1, p2⟩ := cells3 hcc k hlt
        obtain ⟨g0, g1, g2⟩ := cells3 hcc g hgn
        obtain ⟨bx, by_, _⟩ := HB.out k hlt
        obtain ⟨dx, dy, _⟩ := HB.out g hgn
        have r0 := (hbr.cell (p := ⟨w.heap.size, 0, none⟩) (by simp; omega)).trans k0
        have r1 := (hbr.cell (p := ⟨w.heap.size + 1, 0, none⟩) (by simp; omega)).trans k1
        clear hcc
        go_wp2
        obtain ⟨wo, hwo⟩ : ∃ wo : World, wo = wr.alloc (.cells #[.int .i64 (X k), .int .i64 (Y k), .int .i64 (M k)] 65) := ⟨_, rfl⟩
        have hbo : Below w1.heap.size w1 wo := by rw [hwo]; exact (by repeat' (first | (with_reducible exact Below.refl _ _) | (with_reducible assumption) | (with_reducible refine Base.grow_alloc ?_ _) | (with_reducible refine Base.below_drewN ?_ _) | (with_reducible refine Below.drew ?_) | (with_reducible refine Below.setCell ?_ ?_ _) | go_size))
        have zo : wo.heap.size = wr.heap.size + 1 := by rw [hwo]; simp
        have hgo : Below wr.heap.size wr wo := by rw [hwo]; exact (by repeat' (first | (with_reducible exact Below.refl _ _) | (with_reducible assumption) | (with_reducible refine Base.grow_alloc ?_ _) | (with_reducible refine Base.below_drewN ?_ _) | (with_reducible refine Below.drew ?_) | (with_reducible refine Below.setCell ?_ ?_ _) | go_size))
        have HC : ∀ W : World, Below wo.heap.size wo W → W.cell? ⟨wr.heap.size, 0, none⟩ = some (.int .i64 (X k)) ∧ W.cell? ⟨wr.heap.size, 1, none⟩ = some (.int .i64 (Y k)) ∧ W.cell? ⟨wr.heap.size, 2, none⟩ = some (.int .i64 (M k)) ∧ W.cell? ⟨b, off + g * 3, none⟩ = some (.int .i64 (X g)) ∧ W.cell? ⟨b, off + g * 3 + 1, none⟩ = some (.int .i64 (Y g)) ∧ W.cell? ⟨b, off + g * 3 + 2, none⟩ = some (.int .i64 (M g)) := fun W hW => by
          refine ⟨(hW.cell (p := ⟨wr.heap.size, 0, none⟩) (by simp [zo])).trans (by rw [hwo]; simp), (hW.cell (p := ⟨wr.heap.size, 1, none⟩) (by simp [zo])).trans (by rw [hwo]; simp), (hW.cell (p := ⟨wr.heap.size, 2, none⟩) (by simp [zo])).trans (by rw [hwo]; simp), (hW.cell (p := ⟨b, off + g * 3, none⟩) (by simp [zo]; omega)).trans ((hgo.cell (by simp; omega)).trans g0), (hW.cell (p := ⟨b, off + g * 3 + 1, none⟩) (by simp [zo]; omega)).trans ((hgo.cell (by simp; omega)).trans g1), (hW.cell (p := ⟨b, off + g * 3 + 2, none⟩) (by simp [zo]; omega)).trans ((hgo.cell (by simp; omega)).trans g2)⟩
        have HX : ∀ W : World, Below wo.heap.size wo W → W.cell? ⟨w.heap.size, 0, none⟩ = some (.int .i64 x) := fun W hW => (hW.cell (p := ⟨w.heap.size, 0, none⟩) (by simp [zo]; omega)).trans ((hgo.cell (by simp; omega)).trans r0)
        have HY : ∀ W : World, Below wo.heap.size wo W → W.cell? ⟨w.heap.size + 1, 0, none⟩ = some (.int .i64 y) := fun W hW => (hW.cell (p := ⟨w.heap.size + 1, 0, none⟩) (by simp [zo]; omega)).trans ((hgo.cell (by simp; omega)).trans r1)
        rw [← hwo]
        clear hwo
        by_cases hgt : (X k - x) * (X k - x) + (Y k - y) * (Y k - y) < (X g - x) * (X g - x) + (Y g - y) * (Y g - y)
        · have HG := Lib.hid (argm_yes hg.out (show dist X Y x y k < dist X Y x y g from hgt))
          go_region_held3 (fun W => (W.cell? ⟨wr.heap.size, 0, none⟩ = some (.int .i64 (X k)) ∧ W.cell? ⟨wr.heap.size, 1, none⟩ = some (.int .i64 (Y k)) ∧ W.cell? ⟨wr.heap.size, 2, none⟩ = some (.int .i64 (M k)) ∧ W.cell? ⟨b, off + g * 3, none⟩ = some (.int .i64 (X g)) ∧ W.cell? ⟨b, off + g * 3 + 1, none⟩ = some (.int .i64 (Y g)) ∧ W.cell? ⟨b, off + g * 3 + 2, none⟩ = some (.int .i64 (M g))) ∧ Below wo.heap.size wo W)
 (first | (have hs := (‹_ ∧ Below _ _ _›).2; exact ⟨HC _ (Base.via hb1 hs), Base.via hb1 hs⟩) | exact ⟨HC _ (by repeat' (first | (with_reducible exact Below.refl _ _) | (with_reducible assumption) | (with_reducible refine Base.grow_alloc ?_ _) | (with_reducible refine Base.below_drewN ?_ _) | (with_reducible refine Below.drew ?_) | (with_reducible refine Below.setCell ?_ ?_ _) | go_size)), (by repeat' (first | (with_reducible exact Below.refl _ _) | (with_reducible assumption) | (with_reducible refine Base.grow_alloc ?_ _) | (with_reducible refine Base.below_drewN ?_ _) | (with_reducible refine Below.drew ?_) | (with_reducible refine Below.setCell ?_ ?_ _) | go_size))⟩)
 ((go_at_fn 67; refine (c_far _ _ _ _ _ _ _ _ (HX _ (by first | exact (‹_ ∧ Below _ _ _›).2 | exact (by repeat' (first | (with_reducible exact Below.refl _ _) | (with_reducible assumption) | (with_reducible refine Base.grow_alloc ?_ _) | (with_reducible refine Base.below_drewN ?_ _) | (with_reducible refine Below.drew ?_) | (with_reducible refine Below.setCell ?_ ?_ _) | go_size)))) (HY _ (by first | exact (‹_ ∧ Below _ _ _›).2 | exact (by repeat' (first | (with_reducible exact Below.refl _ _) | (with_reducible assumption) | (with_reducible refine Base.grow_alloc ?_ _) | (with_reducible refine Base.below_drewN ?_ _) | (with_reducible refine Below.drew ?_) | (with_reducible refine Below.setCell ?_ ?_ _) | go_size)))) (by have := (show Below wo.heap.size wo _ from (by first | exact (‹_ ∧ Below _ _ _›).2 | exact (by repeat' (first | (with_reducible exact Below.refl _ _) | (with_reducible assumption) | (with_reducible refine Base.grow_alloc ?_ _) | (with_reducible refine Base.below_drewN ?_ _) | (with_reducible refine Below.drew ?_) | (with_reducible refine Below.setCell ?_ ?_ _) | go_size)))).size; omega) (by have := (show Below wo.heap.size wo _ from (by first | exact (‹_ ∧ Below _ _ _›).2 | exact (by repeat' (first | (with_reducible exact Below.refl _ _) | (with_reducible assumption) | (with_reducible refine Base.grow_alloc ?_ _) | (with_reducible refine Base.below_drewN ?_ _) | (with_reducible refine Below.drew ?_) | (with_reducible refine Below.setCell ?_ ?_ _) | go_size)))).size; omega) (by assumption) (by assumption) hx hy).mono ?_; rintro e w2 ⟨rfl, hb1⟩))
          have hbE : Below wo.heap.size wo w2 := (‹_ ∧ Below _ _ w2›).2
          clear hb1
          go_wp2
          go_roundw
          case rel => exact ⟨k + 1, k, by omega, by omega, HG.out, by go_num, rfl, (by repeat' (first | (with_reducible exact Below.refl _ _) | (with_reducible assumption) | (with_reducible refine Base.via hbE ?_) | (with_reducible refine Base.via hbo ?_) | (with_reducible refine Base.grow_alloc ?_ _) | (with_reducible refine Base.below_drewN ?_ _) | (with_reducible refine Below.drew ?_) | (with_reducible refine Below.setCell ?_ ?_ _) | go_size))⟩
          case measure => simp [intOf]; omega
        · have HG := Lib.hid (argm_no hg.out (show ¬ dist X Y x y k < dist X Y x y g from hgt))
          go_region_held3 (fun W => (W.cell? ⟨wr.heap.size, 0, none⟩ = some (.int .i64 (X k)) ∧ W.cell? ⟨wr.heap.size, 1, none⟩ = some (.int .i64 (Y k)) ∧ W.cell? ⟨wr.heap.size, 2, none⟩ = some (.int .i64 (M k)) ∧ W.cell? ⟨b, off + g * 3, none⟩ = some (.int .i64 (X g)) ∧ W.cell? ⟨b, off + g * 3 + 1, none⟩ = some (.int .i64 (Y g)) ∧ W.cell? ⟨b, off + g * 3 + 2, none⟩ = some (.int .i64 (M g))) ∧ Below wo.heap.size wo W)
 (first | (have hs := (‹_ ∧ Below _ _ _›).2; exact ⟨HC _ (Base.via hb1 hs), Base.via hb1 hs⟩) | exact ⟨HC _ (by repeat' (first | (with_reducible exact Below.refl _ _) | (with_reducible assumption) | (with_reducible refine Base.grow_alloc ?_ _) | (with_reducible refine Base.below_drewN ?_ _) | (with_reducible refine Below.drew ?_) | (with_reducible refine Below.setCell ?_ ?_ _) | go_size)), (by repeat' (first | (with_reducible exact Below.refl _ _) | (with_reducible assumption) | (with_reducible refine Base.grow_alloc ?_ _) | (with_reducible refine Base.below_drewN ?_ _) | (with_reducible refine Below.drew ?_) | (with_reducible refine Below.setCell ?_ ?_ _) | go_size))⟩)
 ((go_at_fn 67; refine (c_far _ _ _ _ _ _ _ _ (HX _ (by first | exact (‹_ ∧ Below _ _ _›).2 | exact (by repeat' (first | (with_reducible exact Below.refl _ _) | (with_reducible assumption) | (with_reducible refine Base.grow_alloc ?_ _) | (with_reducible refine Base.below_drewN ?_ _) | (with_reducible refine Below.drew ?_) | (with_reducible refine Below.setCell ?_ ?_ _) | go_size)))) (HY _ (by first | exact (‹_ ∧ Below _ _ _›).2 | exact (by repeat' (first | (with_reducible exact Below.refl _ _) | (with_reducible assumption) | (with_reducible refine Base.grow_alloc ?_ _) | (with_reducible refine Base.below_drewN ?_ _) | (with_reducible refine Below.drew ?_) | (with_reducible refine Below.setCell ?_ ?_ _) | go_size)))) (by have := (show Below wo.heap.size wo _ from (by first | exact (‹_ ∧ Below _ _ _›).2 | exact (by repeat' (first | (with_reducible exact Below.refl _ _) | (with_reducible assumption) | (with_reducible refine Base.grow_alloc ?_ _) | (with_reducible refine Base.below_drewN ?_ _) | (with_reducible refine Below.drew ?_) | (with_reducible refine Below.setCell ?_ ?_ _) | go_size)))).size; omega) (by have := (show Below wo.heap.size wo _ from (by first | exact (‹_ ∧ Below _ _ _›).2 | exact (by repeat' (first | (with_reducible exact Below.refl _ _) | (with_reducible assumption) | (with_reducible refine Base.grow_alloc ?_ _) | (with_reducible refine Base.below_drewN ?_ _) | (with_reducible refine Below.drew ?_) | (with_reducible refine Below.setCell ?_ ?_ _) | go_size)))).size; omega) (by assumption) (by assumption) hx hy).mono ?_; rintro e w2 ⟨rfl, hb1⟩))
          have hbE : Below wo.heap.size wo w2 := (‹_ ∧ Below _ _ w2›).2
          clear hb1
          go_wp2
          go_roundw
          case rel => exact ⟨k + 1, g, by omega, by omega, HG.out, by go_num, rfl, (by repeat' (first | (with_reducible exact Below.refl _ _) | (with_reducible assumption) | (with_reducible refine Base.via hbE ?_) | (with_reducible refine Base.via hbo ?_) | (with_reducible refine Base.grow_alloc ?_ _) | (with_reducible refine Base.below_drewN ?_ _) | (with_reducible refine Below.drew ?_) | (with_reducible refine Below.setCell ?_ ?_ _) | go_size))⟩
          case measure => simp [intOf]; omega
      · have hkn : k = n := by omega
        subst hkn
        have HV2 := Lib.hid (show (g : Int) = nearV k X Y M x y by rw [HV.out, ← hg.out])
        go_wp2
        go_ret2
        exact ⟨ret_pair HV2.out HCD.out.symm, (by repeat' (first | (with_reducible exact Below.refl _ _) | (with_reducible assumption) | (with_reducible refine Base.via hbr ?_) | (with_reducible refine Base.via hbw ?_) | (with_reducible refine Base.grow_alloc ?_ _) | (with_reducible refine Base.below_drewN ?_ _) | (with_reducible refine Below.drew ?_) | (with_reducible refine Below.setCell ?_ ?_ _) | go_size))⟩
  · have HV := Lib.hid (show (0 : Int) = nearV 0 X Y M x y by rw [nearV, hc]; rfl)
    have HC := Lib.hid hc
    clear hc
    go_enter Try.func23, Try.ntmps23
    go_wp2_with (first | (go_at_call 66; refine (c_ValidChart _ _ _ X Y M _ (hv.below (by repeat' (first | (with_reducible exact Below.refl _ _) | (with_reducible assumption) | (with_reducible refine Base.grow_alloc ?_ _) | (with_reducible refine Base.below_drewN ?_ _) | (with_reducible refine Below.drew ?_) | (with_reducible refine Below.setCell ?_ ?_ _) | go_size)))).mono ?_; rintro e w1 ⟨rfl, hb1⟩; obtain ⟨chb1, fhb1⟩ := Base.bcell hb1; have zhb1 := (hb1).size; (try simp at zhb1); (try have yhb1 : w.heap.size < (w1).heap.size := by omega)) | (go_at_call 59; refine (c_in _ _ _ _).mono ?_; rintro e w' ⟨rfl, rfl⟩))
    go_ret2
    exact ⟨ret_pair HV.out HC.out.symm, (by repeat' (first | (with_reducible exact Below.refl _ _) | (with_reducible assumption) | (with_reducible refine Base.via hb1 ?_) | (with_reducible refine Base.grow_alloc ?_ _) | (with_reducible refine Base.below_drewN ?_ _) | (with_reducible refine Below.drew ?_) | (with_reducible refine Below.setCell ?_ ?_ _) | go_size))⟩
  all_goals
    have HV := Lib.hid (show (0 : Int) = nearV n X Y M x y by rw [nearV, hc]; rfl)
    have HC := Lib.hid hc
    clear hc
    go_enter Try.func23, Try.ntmps23
    go_wp2_with (first | (go_at_call 66; refine (c_ValidChart _ _ _ X Y M _ (hv.below (by repeat' (first | (with_reducible exact Below.refl _ _) | (with_reducible assumption) | (with_reducible refine Base.grow_alloc ?_ _) | (with_reducible refine Base.below_drewN ?_ _) | (with_reducible refine Below.drew ?_) | (with_reducible refine Below.setCell ?_ ?_ _) | go_size)))).mono ?_; rintro e w1 ⟨rfl, hb1⟩; obtain ⟨chb1, fhb1⟩ := Base.bcell hb1; have zhb1 := (hb1).size; (try simp at zhb1); (try have yhb1 : w.heap.size < (w1).heap.size := by omega)) | (go_at_call 59; refine (c_in _ _ _ _).mono ?_; rintro e w' ⟨rfl, rfl⟩))
    go_ret2
    exact ⟨ret_pair HV.out HC.out.symm, (by repeat' (first | (with_reducible exact Below.refl _ _) | (with_reducible assumption) | (with_reducible refine Base.via hb1 ?_) | (with_reducible refine Base.grow_alloc ?_ _) | (with_reducible refine Base.below_drewN ?_ _) | (with_reducible refine Below.drew ?_) | (with_reducible refine Below.setCell ?_ ?_ _) | go_size))⟩
end Go.Proofs.Ytfpipbajlokheaa.Near
