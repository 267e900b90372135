/- What the law file's own helpers do: the copies, the comparisons, the marks. -/
import Derived.Test.YtpkkeoapndpikaaDoorView
import Derived.Test.YtpkkeoapndpikaaDoorNum
import Derived.BigQuiet
import Derived.Deep.QuietTactic
import Derived.StillTailTactics
namespace Go.Proofs.YtpkkeoapndpikaaDoor.Help
set_option linter.unusedVariables false
set_option linter.unusedSimpArgs false
open Go.RowKit Plain Num View

theorem only_alloc {a w : World} {row : Option Nat} (h : a.grownBy w row) (o : Obj) : a.grownBy (w.alloc o) row :=
  ⟨h.os, h.tape, h.output, Nat.le_trans h.size (by simp), fun i hi hne => (Below.heap_alloc w o i (Nat.lt_of_lt_of_le hi h.size)).trans (h.block i hi hne)⟩
theorem only_setCell {a w : World} {g : Nat} (h : a.grownBy w (some g)) {p : Addr} (hp : p.block = g) (u : Value) : a.grownBy (w.setCell p u) (some g) :=
  ⟨h.os, h.tape, h.output, by simpa [World.setCell] using h.size, fun i hi hne => (Below.heap_setCell w p u i (by rintro rfl; exact hne (by rw [hp]))).trans (h.block i hi hne)⟩
/-- the marks -/
def marks (k : Nat) : Nat → Nat → Value := fun i j => .int .i64 (1 + (i * k + j : Nat))

theorem infoMark : (Tryd.prog.info? 33).map (fun i => (i.zero, i.size, i.bytes)) = some (some (.agg #[.int .i64 0, .int .i64 0, .int .i64 0]), 3, 24) := by kernel_rfl
theorem c_toMark (x0 x1 x2 : Int) (w : World) : Calls Tryd.prog 16 #[.agg #[.int .i64 x0, .int .i64 x1, .int .i64 x2]] w fun e w' => e = .returned (.agg #[.int .i64 x0, .int .i64 x1, .int .i64 x2]) ∧ Below w.heap.size w w' := by
  go_enter Tryd.func16, Tryd.ntmps16
  go_wp2
  refine bodyPost_ret (v := .agg #[.int .i64 x0, .int .i64 x1, .int .i64 x2]) (by simp [results, Tryd.results16, go_sem]) rfl ⟨rfl, (by repeat' (first | (with_reducible exact Below.refl _ _) | (with_reducible assumption) | (with_reducible refine Base.grow_alloc ?_ _) | (with_reducible refine Base.below_drewN ?_ _) | (with_reducible refine Below.drew ?_) | (with_reducible refine Below.setCell ?_ ?_ _) | go_size))⟩
theorem c_eqMark (x0 x1 x2 : Int) (w : World) : Calls Tryd.prog 61 #[.agg #[.int .i64 x0, .int .i64 x1, .int .i64 x2], .agg #[.int .i64 x0, .int .i64 x1, .int .i64 x2]] w fun e w' => e = .returned (.bool true) ∧ Below w.heap.size w w' := by
  go_enter Tryd.func61, Tryd.ntmps61
  go_wp2
  go_ret
  exact ⟨rfl, (by repeat' (first | (with_reducible exact Below.refl _ _) | (with_reducible assumption) | (with_reducible refine Base.grow_alloc ?_ _) | (with_reducible refine Base.below_drewN ?_ _) | (with_reducible refine Below.drew ?_) | (with_reducible refine Below.setCell ?_ ?_ _) | go_size))⟩
set_option maxHeartbeats 400000 in
theorem c_toMarkS (A : Option Addr) (n c : Nat) (X Y M : Nat → Int) (w : World) (hv : Sl w 3 A n c (f3 X Y M)) :
    Calls Tryd.prog 27 #[.slice A n c] w fun e w' => ∃ g, e = .returned (.slice (some ⟨g, 0, none⟩) n n) ∧ w.heap.size ≤ g ∧ RowK w' g 33 3 n (f3 X Y M) ∧ Below w.heap.size w w' := by
  obtain ⟨i0, hi0, hz0, hz1, hz2⟩ := info_parts infoMark
  have hn := hv.le
  have hmk := fun W => run_make_rowN (P := Tryd.prog) 47 33 i0 _ Tryd.underlying47 hi0 hz0 n (by rw [hz2]; omega) (by omega) W
  rw [hz1] at hmk
  have hzero : RowK (w.alloc (.cells (madeCells #[.int .i64 0, .int .i64 0, .int .i64 0] (n * 3)) 33)) w.heap.size 33 3 n (fun _ _ => .int .i64 0) :=
    RowK.made _ (by rw [size_madeCells]; omega) (fun i hi j hj => by have := made_at3 n (i * 3 + j) (by omega) (v := .int .i64 0); simpa using this)
  go_enter Tryd.func27, Tryd.ntmps27
  go_wp2
  go_loopw [4] (fun i wr => ∃ k : Nat, k ≤ n ∧ i = .int .i64 k ∧ RowK wr w.heap.size 33 3 n (fun i j => if i < k then (f3 X Y M) i j else .int .i64 0) ∧ Below w.heap.size w wr) (fun i _ => n - (intOf i).toNat)
  case atStart => exact ⟨0, Nat.zero_le _, rfl, hzero.congr (fun i _ j _ => by simp), (by repeat' (first | (with_reducible exact Below.refl _ _) | (with_reducible assumption) | (with_reducible refine Base.grow_alloc ?_ _) | (with_reducible refine Base.below_drewN ?_ _) | (with_reducible refine Below.drew ?_) | (with_reducible refine Below.setCell ?_ ?_ _) | go_size))⟩
  case round =>
    obtain ⟨k, hk, rfl, hrow, hbr⟩ := hrel
    by_cases hlt : k < n
    · obtain ⟨b, off, rfl, hb, hc⟩ := (hv.below hbr).at_ (by omega)
      obtain ⟨h0, h1, h2⟩ := cells3 hc k hlt
      have hg := hrow.lt
      have s0 := hrow.cell hlt (show 0 < 3 by omega)
      have s1 := hrow.cell hlt (show 1 < 3 by omega)
      have s2 := hrow.cell hlt (show 2 < 3 by omega)
      simp only [Nat.add_zero] at s0
      have sf := hrow.frozen
      clear hc
      go_wp2_with (first | (go_at_call 16; refine (c_toMark _ _ _ _).mono ?_; rintro e w1 ⟨rfl, hb1⟩; obtain ⟨chb1, fhb1⟩ := Base.bcell hb1; have zhb1 := (hb1).size; (try simp at zhb1); (try have yhb1 : w.heap.size < (w1).heap.size := by omega)))
      go_roundw
      case rel =>
        refine ⟨k + 1, by omega, by go_num, ?_, (by repeat' (first | (with_reducible exact Below.refl _ _) | (with_reducible assumption) | (with_reducible refine Base.via hb1 ?_) | (with_reducible refine Base.grow_alloc ?_ _) | (with_reducible refine Base.below_drewN ?_ _) | (with_reducible refine Below.drew ?_) | (with_reducible refine Below.setCell ?_ ?_ _) | go_size))⟩
        refine RowK.congr ((((hrow.below hb1 hg).set (j := 0) hlt (by omega) (.int .i64 (X k))).set (j := 1) hlt (by omega) (.int .i64 (Y k))).set (j := 2) hlt (by omega) (.int .i64 (M k))) ?_
        intro i hi j hj
        simp only [upd]
        by_cases e : i = k
        · subst e
          obtain rfl | rfl | rfl : j = 0 ∨ j = 1 ∨ j = 2 := by omega
          all_goals simp [f3]
        · have e2 : i < k + 1 ↔ i < k := by omega
          simp [e, e2]
      case measure => simp [intOf]; omega
    · have hkn : k = n := by omega
      subst hkn
      go_wp2
      go_ret
      exact ⟨_, rfl, Nat.le_refl _, hrow.congr (fun i hi j _ => by simp [hi]), hbr⟩
theorem c_szMarkS_no (A : Option Addr) (n c : Nat) (left : Int) (w : World) (hn : n ≤ 9223372036854775807) (h0 : 0 ≤ left) (h1 : left ≤ 1048576) (h : left < n) :
    Calls Tryd.prog 25 #[.slice A n c, .int .i64 left] w fun e w' => e = .returned (.int .i64 (-1)) ∧ w = w' := by
  go_enter Tryd.func25, Tryd.ntmps25
  go_wp2
  go_ret
  exact ⟨rfl, rfl⟩
theorem c_szMarkS_yes (A : Option Addr) (n c : Nat) (left : Int) (w : World) (hn : n ≤ 9223372036854775807) (h0 : 0 ≤ left) (h1 : left ≤ 1048576) (h : (n : Int) ≤ left) :
    Calls Tryd.prog 25 #[.slice A n c, .int .i64 left] w fun e w' => e = .returned (.int .i64 (left - n)) ∧ w = w' := by
  go_enter Tryd.func25, Tryd.ntmps25
  go_wp2
  go_ret
  exact ⟨rfl, rfl⟩
set_option maxRecDepth 4000 in
set_option maxHeartbeats 400000 in
theorem c_eqMarkS (A B : Option Addr) (n c d : Nat) (X Y M : Nat → Int) (w : World) (hv : Sl w 3 A n c (f3 X Y M)) (hu : Sl w 3 B n d (f3 X Y M)) :
    Calls Tryd.prog 29 #[.slice A n c, .slice B n d] w fun e w' => e = .returned (.bool true) ∧ Below w.heap.size w w' := by
  have hn := hv.le
  go_enter Tryd.func29, Tryd.ntmps29
  go_wp2
  go_loopw [5] (fun i wr => ∃ k : Nat, k ≤ n ∧ i = .int .i64 k ∧ Below w.heap.size w wr) (fun i _ => n - (intOf i).toNat)
  case atStart => exact ⟨0, Nat.zero_le _, rfl, Below.refl _ _⟩
  case round =>
    obtain ⟨k, hk, rfl, hbr⟩ := hrel
    by_cases hlt : k < n
    · obtain ⟨b, off, rfl, hb, hc⟩ := (hv.below hbr).at_ (by omega)
      obtain ⟨b', off', rfl, hb', hc'⟩ := (hu.below hbr).at_ (by omega)
      obtain ⟨h0, h1, h2⟩ := cells3 hc k hlt
      obtain ⟨g0, g1, g2⟩ := cells3 hc' k hlt
      clear hc hc'
      go_wp2
      go_still_tail 8, (by kernel_rfl)
      change wpList _ _ _ _ _ wr.drew
      obtain ⟨w2, hw2⟩ : ∃ w2, w2 = wr.drew := ⟨_, rfl⟩
      have hb2 : Below w.heap.size w w2 := by rw [hw2]; exact hbr.drew
      rw [← hw2]
      clear hw2
      go_wp2_with (first | (go_at_call 61; refine (c_eqMark _ _ _ _).mono ?_; rintro e w1 ⟨rfl, hb1⟩; obtain ⟨chb1, fhb1⟩ := Base.bcell hb1; have zhb1 := (hb1).size; (try simp at zhb1); (try have yhb1 : w.heap.size < (w1).heap.size := by omega)))
      go_wp2
      go_roundw
      case rel => exact ⟨k + 1, by omega, by go_num, (by repeat' (first | (with_reducible exact Below.refl _ _) | (with_reducible assumption) | (with_reducible refine Base.via hb1 ?_) | (with_reducible refine Base.grow_alloc ?_ _) | (with_reducible refine Base.below_drewN ?_ _) | (with_reducible refine Below.drew ?_) | (with_reducible refine Below.setCell ?_ ?_ _) | go_size))⟩
      case measure => simp [intOf]; omega
    · have hkn : k = n := by omega
      subst hkn
      go_wp2
      go_ret
      exact ⟨rfl, hbr⟩
set_option maxHeartbeats 400000 in
theorem c_markMarkS (B : Nat) (v : Value) (n : Nat) (f : Nat → Nat → Value) (k0 : Int) (w : World) (hv : OwnK w B 33 3 v n f) (hk0 : 0 ≤ k0) (hk1 : k0 ≤ 1099511627776) :
    Calls Tryd.prog 30 #[v, .int .i64 k0] w fun e w' => e = .returned (.int .i64 (k0 + (n * 3 : Nat))) ∧ OwnK w' B 33 3 v n (fun i j => .int .i64 (k0 + (i * 3 + j : Nat))) ∧ w.grownBy w' v.ownBlock := by
  obtain ⟨hn, ⟨rfl, rfl⟩ | ⟨g, c, rfl, hc, hm, hB, hr⟩⟩ := hv
  · go_enter Tryd.func30, Tryd.ntmps30
    go_wp2
    refine wp_loop_rounds 1 ?_
    rw [rounds_succ]
    go_wp2
    go_ret
    exact ⟨ret_int (by omega), ⟨hn, .inl ⟨rfl, rfl⟩⟩, World.grownBy.refl _ _⟩
  · go_enter Tryd.func30, Tryd.ntmps30
    go_wp2
    go_loopw [1, 5] (fun q i wr => ∃ k : Nat, k ≤ n ∧ i = .int .i64 k ∧ q = .int .i64 (k0 + (k * 3 : Nat)) ∧ RowK wr g 33 3 n (fun i j => if i < k then .int .i64 (k0 + (i * 3 + j : Nat)) else f i j) ∧ w.grownBy wr (some g)) (fun _ i _ => n - (intOf i).toNat)
    case atStart => exact ⟨0, Nat.zero_le _, rfl, by go_num, hr.congr (fun i _ j _ => by simp), World.grownBy.refl _ _⟩
    case round =>
      obtain ⟨k, hk, rfl, rfl, hrow, hgr⟩ := hrel
      by_cases hlt : k < n
      · have hg := hrow.lt
        have s0 := hrow.cell hlt (show 0 < 3 by omega)
        have s1 := hrow.cell hlt (show 1 < 3 by omega)
        have s2 := hrow.cell hlt (show 2 < 3 by omega)
        simp only [Nat.add_zero] at s0
        have sf := hrow.frozen
        have hkk : k * 3 ≤ 1048576 * 3 := by omega
        go_wp2
        go_roundw
        case rel =>
          refine ⟨k + 1, by omega, by go_num, by go_num, ?_, only_setCell (only_setCell (only_setCell (hgr) rfl _) rfl _) rfl _⟩
          refine RowK.congr (f := _) (((hrow.set (j := 0) hlt (by omega) _).set (j := 1) hlt (by omega) _).set (j := 2) hlt (by omega) _) ?_
          intro i hi j hj
          simp only [upd]
          by_cases e : i = k
          · subst e
            obtain rfl | rfl | rfl : j = 0 ∨ j = 1 ∨ j = 2 := by omega
            all_goals (simp; try omega)
          · have e2 : i < k + 1 ↔ i < k := by omega
            simp [e, e2]
        case measure => simp [intOf]; omega
      · have hkn : k = n := by omega
        subst hkn
        go_wp2
        go_ret
        exact ⟨rfl, ⟨hn, .inr ⟨g, c, rfl, hc, hm, hB, hrow.congr (fun i hi j _ => by simp [hi])⟩⟩, hgr⟩
theorem infoInt64 : (Tryd.prog.info? 2).map (fun i => (i.zero, i.size, i.bytes)) = some (some (.int .i64 0), 1, 8) := by kernel_rfl
set_option maxHeartbeats 400000 in
theorem c_toInt64S (A : Option Addr) (n c : Nat) (T : Nat → Int) (w : World) (hv : Sl w 1 A n c (f1 T)) :
    Calls Tryd.prog 32 #[.slice A n c] w fun e w' => ∃ g, e = .returned (.slice (some ⟨g, 0, none⟩) n n) ∧ w.heap.size ≤ g ∧ RowK w' g 2 1 n (f1 T) ∧ Below w.heap.size w w' := by
  obtain ⟨i0, hi0, hz0, hz1, hz2⟩ := info_parts infoInt64
  have hn := hv.le
  have hmk := fun W => run_make_rowN (P := Tryd.prog) 38 2 i0 _ Tryd.underlying38 hi0 hz0 n (by rw [hz2]; omega) (by omega) W
  rw [hz1] at hmk
  have hzero : RowK (w.alloc (.cells (madeCells #[.int .i64 0] n) 2)) w.heap.size 2 1 n (fun _ _ => .int .i64 0) :=
    RowK.made _ (by rw [size_madeCells]; omega) (fun i hi j hj => by have := made_at1 n (i * 1 + j) (by omega) (v := .int .i64 0); simpa using this)
  go_enter Tryd.func32, Tryd.ntmps32
  go_wp2
  go_loopw [4] (fun i wr => ∃ k : Nat, k ≤ n ∧ i = .int .i64 k ∧ RowK wr w.heap.size 2 1 n (fun i j => if i < k then (f1 T) i j else .int .i64 0) ∧ Below w.heap.size w wr) (fun i _ => n - (intOf i).toNat)
  case atStart => exact ⟨0, Nat.zero_le _, rfl, hzero.congr (fun i _ j _ => by simp), (by repeat' (first | (with_reducible exact Below.refl _ _) | (with_reducible assumption) | (with_reducible refine Base.grow_alloc ?_ _) | (with_reducible refine Base.below_drewN ?_ _) | (with_reducible refine Below.drew ?_) | (with_reducible refine Below.setCell ?_ ?_ _) | go_size))⟩
  case round =>
    obtain ⟨k, hk, rfl, hrow, hbr⟩ := hrel
    by_cases hlt : k < n
    · obtain ⟨b, off, rfl, hb, hc⟩ := (hv.below hbr).at_ (by omega)
      obtain h0 := cells1 hc k hlt
      have hg := hrow.lt
      have s0 := hrow.cell1 hlt
      have sf := hrow.frozen
      clear hc
      go_wp2
      go_roundw
      case rel =>
        refine ⟨k + 1, by omega, by go_num, ?_, (by repeat' (first | (with_reducible exact Below.refl _ _) | (with_reducible assumption) | (with_reducible refine Base.grow_alloc ?_ _) | (with_reducible refine Base.below_drewN ?_ _) | (with_reducible refine Below.drew ?_) | (with_reducible refine Below.setCell ?_ ?_ _) | go_size))⟩
        refine RowK.congr (hrow.set1 hlt (.int .i64 (T k))) ?_
        intro i hi j hj
        simp only [upd]
        by_cases e : i = k
        · subst e
          have : j = 0 := by omega
          subst this
          simp [f1]
        · have e2 : i < k + 1 ↔ i < k := by omega
          simp [e, e2]
      case measure => simp [intOf]; omega
    · have hkn : k = n := by omega
      subst hkn
      go_wp2
      go_ret
      exact ⟨_, rfl, Nat.le_refl _, hrow.congr (fun i hi j _ => by simp [hi]), hbr⟩
set_option maxRecDepth 4000 in
set_option maxHeartbeats 400000 in
theorem c_eqInt64S (A B : Option Addr) (n c d : Nat) (T : Nat → Int) (w : World) (hv : Sl w 1 A n c (f1 T)) (hu : Sl w 1 B n d (f1 T)) :
    Calls Tryd.prog 22 #[.slice A n c, .slice B n d] w fun e w' => e = .returned (.bool true) ∧ Below w.heap.size w w' := by
  have hn := hv.le
  go_enter Tryd.func22, Tryd.ntmps22
  go_wp2
  go_loopw [5] (fun i wr => ∃ k : Nat, k ≤ n ∧ i = .int .i64 k ∧ Below w.heap.size w wr) (fun i _ => n - (intOf i).toNat)
  case atStart => exact ⟨0, Nat.zero_le _, rfl, Below.refl _ _⟩
  case round =>
    obtain ⟨k, hk, rfl, hbr⟩ := hrel
    by_cases hlt : k < n
    · obtain ⟨b, off, rfl, hb, hc⟩ := (hv.below hbr).at_ (by omega)
      obtain ⟨b', off', rfl, hb', hc'⟩ := (hu.below hbr).at_ (by omega)
      obtain h0 := cells1 hc k hlt
      obtain g0 := cells1 hc' k hlt
      clear hc hc'
      go_wp2
      go_quiet (fail)
      go_wp2
      go_roundw
      case rel => exact ⟨k + 1, by omega, by go_num, (by repeat' (first | (with_reducible exact Below.refl _ _) | (with_reducible assumption) | (with_reducible refine Base.grow_alloc ?_ _) | (with_reducible refine Base.below_drewN ?_ _) | (with_reducible refine Below.drew ?_) | (with_reducible refine Below.setCell ?_ ?_ _) | go_size))⟩
      case measure => simp [intOf]; omega
    · have hkn : k = n := by omega
      subst hkn
      go_wp2
      go_ret
      exact ⟨rfl, hbr⟩
set_option maxHeartbeats 400000 in
theorem c_markInt64S (B : Nat) (v : Value) (n : Nat) (f : Nat → Nat → Value) (k0 : Int) (w : World) (hv : OwnK w B 2 1 v n f) (hk0 : 0 ≤ k0) (hk1 : k0 ≤ 1099511627776) :
    Calls Tryd.prog 23 #[v, .int .i64 k0] w fun e w' => e = .returned (.int .i64 (k0 + (n * 1 : Nat))) ∧ OwnK w' B 2 1 v n (fun i j => .int .i64 (k0 + (i * 1 + j : Nat))) ∧ w.grownBy w' v.ownBlock := by
  obtain ⟨hn, ⟨rfl, rfl⟩ | ⟨g, c, rfl, hc, hm, hB, hr⟩⟩ := hv
  · go_enter Tryd.func23, Tryd.ntmps23
    go_wp2
    refine wp_loop_rounds 1 ?_
    rw [rounds_succ]
    go_wp2
    go_ret
    exact ⟨ret_int (by omega), ⟨hn, .inl ⟨rfl, rfl⟩⟩, World.grownBy.refl _ _⟩
  · go_enter Tryd.func23, Tryd.ntmps23
    go_wp2
    go_loopw [1, 5] (fun q i wr => ∃ k : Nat, k ≤ n ∧ i = .int .i64 k ∧ q = .int .i64 (k0 + (k * 1 : Nat)) ∧ RowK wr g 2 1 n (fun i j => if i < k then .int .i64 (k0 + (i * 1 + j : Nat)) else f i j) ∧ w.grownBy wr (some g)) (fun _ i _ => n - (intOf i).toNat)
    case atStart => exact ⟨0, Nat.zero_le _, rfl, by go_num, hr.congr (fun i _ j _ => by simp), World.grownBy.refl _ _⟩
    case round =>
      obtain ⟨k, hk, rfl, rfl, hrow, hgr⟩ := hrel
      by_cases hlt : k < n
      · have hg := hrow.lt
        have s0 := hrow.cell1 hlt
        have sf := hrow.frozen
        have hkk : k * 1 ≤ 1048576 * 1 := by omega
        go_wp2
        go_roundw
        case rel =>
          refine ⟨k + 1, by omega, by go_num, by go_num, ?_, only_setCell (hgr) rfl _⟩
          refine RowK.congr (f := _) (hrow.set1 hlt _) ?_
          intro i hi j hj
          simp only [upd]
          by_cases e : i = k
          · subst e
            obtain rfl : j = 0 := by omega
            all_goals (simp; try omega)
          · have e2 : i < k + 1 ↔ i < k := by omega
            simp [e, e2]
        case measure => simp [intOf]; omega
      · have hkn : k = n := by omega
        subst hkn
        go_wp2
        go_ret
        exact ⟨rfl, ⟨hn, .inr ⟨g, c, rfl, hc, hm, hB, hrow.congr (fun i hi j _ => by simp [hi])⟩⟩, hgr⟩
set_option maxHeartbeats 400000 in
theorem c_heldInt64S (A : Option Addr) (n c : Nat) (k0 : Int) (w : World) (hv : Sl w 1 A n c (fun i j => .int .i64 (k0 + (i * 1 + j : Nat)))) (hk0 : 0 ≤ k0) (hk1 : k0 ≤ 1099511627776) :
    Calls Tryd.prog 24 #[.slice A n c, .int .i64 k0] w fun e w' => e = .returned (.int .i64 (k0 + (n * 1 : Nat))) ∧ w = w' := by
  have hn := hv.le
  go_enter Tryd.func24, Tryd.ntmps24
  go_wp2
  go_loop [1, 5] (fun q i => ∃ k : Nat, k ≤ n ∧ i = .int .i64 k ∧ q = .int .i64 (k0 + (k * 1 : Nat))) (fun _ i => n - (intOf i).toNat)
  case atStart => exact ⟨0, Nat.zero_le _, rfl, by go_num⟩
  case round =>
    obtain ⟨k, hk, rfl, rfl⟩ := hrel
    by_cases hlt : k < n
    · obtain ⟨b, off, rfl, hb, hc⟩ := hv.at_ (by omega)
      have h0 : w.cell? ⟨b, off + k, none⟩ = some (.int .i64 (k0 + (k * 1 : Nat))) := by have := hc k hlt 0 (by omega); simp only [Nat.mul_one, Nat.add_zero] at this ⊢; first | exact this | (rw [this]; go_num)
      clear hc
      have hkk : k * 1 ≤ 1048576 * 1 := by omega
      go_wp2
      go_round
      case rel => exact ⟨k + 1, by omega, by go_num, by go_num⟩
      case measure => simp [intOf]; omega
    · have hkn : k = n := by omega
      subst hkn
      go_wp2
      go_ret
      exact ⟨rfl, rfl⟩
theorem c_toEphemeris (x0 x1 : Int) (w : World) : Calls Tryd.prog 11 #[.agg #[.int .i64 x0, .int .i64 x1]] w fun e w' => e = .returned (.agg #[.int .i64 x0, .int .i64 x1]) ∧ Below w.heap.size w w' := by
  go_enter Tryd.func11, Tryd.ntmps11
  go_wp2
  refine bodyPost_ret (v := .agg #[.int .i64 x0, .int .i64 x1]) (by simp [results, Tryd.results11, go_sem]) rfl ⟨rfl, (by repeat' (first | (with_reducible exact Below.refl _ _) | (with_reducible assumption) | (with_reducible refine Base.grow_alloc ?_ _) | (with_reducible refine Base.below_drewN ?_ _) | (with_reducible refine Below.drew ?_) | (with_reducible refine Below.setCell ?_ ?_ _) | go_size))⟩
end Go.Proofs.YtpkkeoapndpikaaDoor.Help
