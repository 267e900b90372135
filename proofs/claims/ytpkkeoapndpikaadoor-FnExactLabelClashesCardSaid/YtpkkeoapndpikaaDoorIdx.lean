/- slices.IndexFunc and slices.ContainsFunc with whatever closure, and the closures of isAt and allIn. -/
import Derived.Test.YtpkkeoapndpikaaDoorView
import Derived.Test.YtpkkeoapndpikaaDoorNum
import Derived.Test.YtpkkeoapndpikaaDoorPl2
import Derived.Shelf.Abstract
namespace Go.Proofs.YtpkkeoapndpikaaDoor.Idx
set_option linter.unusedVariables false
set_option linter.unusedSimpArgs false
open Go.RowKit Go.Shelf Plain Num View

/-- A closure that answers 'p i' at element i and makes only new memory. -/
def Pred (P : Program) (w : World) (g : Nat) (lb : Array Value) (n : Nat) (arg : Nat → Value) (p : Nat → Bool) : Prop :=
  ∀ (W : World), Below w.heap.size w W → ∀ i, i < n → Calls P g (#[arg i] ++ lb) W fun e w' => e = .returned (.bool (p i)) ∧ Below W.heap.size W w'
theorem Pred.below {P : Program} {w w1 : World} {g : Nat} {lb : Array Value} {n : Nat} {arg : Nat → Value} {p : Nat → Bool} (h : Pred P w g lb n arg p) (hb : Below w.heap.size w w1) : Pred P w1 g lb n arg p :=
  fun W hW i hi => h W (Base.via hW hb) i hi
set_option maxHeartbeats 800000 in
theorem c_IndexFuncMark (A : Option Addr) (n c : Nat) (X Y M : Nat → Int) (g : Nat) (lb : Array Value) (p : Nat → Bool) (w : World) (eg : ∀ args w, (callFunc g args).run Tryd.prog w = .ok (.enter g args) w)
    (hv : Sl w 3 A n c (f3 X Y M)) (hp : Pred Tryd.prog w g lb n (fun i => .agg #[.int .i64 (X i), .int .i64 (Y i), .int .i64 (M i)]) p) :
    Calls Tryd.prog 90 #[.slice A n c, .func (.func g) #[] lb] w fun e w' => e = .returned (.int .i64 (idxB n p)) ∧ Below w.heap.size w w' := by
  have hn := hv.le
  have HP := Lib.hid hp
  clear hp
  go_enter Tryd.func90, Tryd.ntmps90
  go_wp2
  go_loopw [8] (fun i wr => ∃ k : Nat, k ≤ n ∧ i = .int .i64 k ∧ Below w.heap.size w wr ∧ allB k (fun i => !p i) = true) (fun i _ => n - (intOf i).toNat)
  case atStart => exact ⟨0, Nat.zero_le _, rfl, Below.refl _ _, rfl⟩
  case round =>
    obtain ⟨k, hk, rfl, hbr, hall⟩ := hrel
    have HALL := Lib.hid hall
    clear hall
    by_cases hlt : k < n
    · obtain ⟨b, off, rfl, hb, hc⟩ := (hv.below hbr).at_ (by omega)
      obtain ⟨h0, h1, h2⟩ := cells3 hc k hlt
      have hcall := HP.out wr hbr k hlt
      clear hc
      cases hq : p k with
      | true =>
        rw [hq] at hcall
        have HQ := Lib.hid hq
        clear hq
        go_wp2_with (go_at_fn g; refine hcall.mono ?_; rintro e w1 ⟨rfl, hb1⟩)
        go_ret
        exact ⟨ret_int (idxB_hit hlt HQ.out HALL.out).symm, (by repeat' (first | (with_reducible exact Below.refl _ _) | (with_reducible assumption) | (with_reducible refine Base.via hb1 ?_) | (with_reducible refine Base.grow_alloc ?_ _) | (with_reducible refine Base.below_drewN ?_ _) | (with_reducible refine Below.drew ?_) | (with_reducible refine Below.setCell ?_ ?_ _) | go_size))⟩
      | false =>
        rw [hq] at hcall
        have HQ := Lib.hid hq
        clear hq
        go_wp2_with (go_at_fn g; refine hcall.mono ?_; rintro e w1 ⟨rfl, hb1⟩)
        go_roundw
        case rel => exact ⟨k + 1, by omega, by go_num, (by repeat' (first | (with_reducible exact Below.refl _ _) | (with_reducible assumption) | (with_reducible refine Base.via hb1 ?_) | (with_reducible refine Base.grow_alloc ?_ _) | (with_reducible refine Base.below_drewN ?_ _) | (with_reducible refine Below.drew ?_) | (with_reducible refine Below.setCell ?_ ?_ _) | go_size)), allB_yes HALL.out (by rw [HQ.out]; rfl)⟩
        case measure => simp [intOf]; omega
    · have hkn : k = n := by omega
      subst hkn
      go_wp2
      go_ret
      exact ⟨ret_int (idxB_miss HALL.out).symm, hbr⟩
set_option maxHeartbeats 400000 in
theorem c_ContainsFuncMark (A : Option Addr) (n c : Nat) (X Y M : Nat → Int) (g : Nat) (lb : Array Value) (p : Nat → Bool) (w : World) (eg : ∀ args w, (callFunc g args).run Tryd.prog w = .ok (.enter g args) w)
    (hv : Sl w 3 A n c (f3 X Y M)) (hp : Pred Tryd.prog w g lb n (fun i => .agg #[.int .i64 (X i), .int .i64 (Y i), .int .i64 (M i)]) p) :
    Calls Tryd.prog 83 #[.slice A n c, .func (.func g) #[] lb] w fun e w' => e = .returned (.bool (anyB n p)) ∧ Below w.heap.size w w' := by
  have HP := Lib.hid hp
  clear hp
  have hbd := @idxB_bd n p
  go_enter Tryd.func83, Tryd.ntmps83
  go_wp2_with (go_at_call 90; refine (c_IndexFuncMark _ _ _ X Y M g lb p _ eg hv HP.out).mono ?_; rintro e w1 ⟨rfl, hb1⟩)
  go_ret
  exact ⟨ret_bool idxB_nonneg, (by repeat' (first | (with_reducible exact Below.refl _ _) | (with_reducible assumption) | (with_reducible refine Base.via hb1 ?_) | (with_reducible refine Base.grow_alloc ?_ _) | (with_reducible refine Base.below_drewN ?_ _) | (with_reducible refine Below.drew ?_) | (with_reducible refine Below.setCell ?_ ?_ _) | go_size))⟩
set_option maxHeartbeats 800000 in
theorem c_IndexFuncInt64 (A : Option Addr) (n c : Nat) (T : Nat → Int) (g : Nat) (lb : Array Value) (p : Nat → Bool) (w : World) (eg : ∀ args w, (callFunc g args).run Tryd.prog w = .ok (.enter g args) w)
    (hv : Sl w 1 A n c (f1 T)) (hp : Pred Tryd.prog w g lb n (fun i => .int .i64 (T i)) p) :
    Calls Tryd.prog 85 #[.slice A n c, .func (.func g) #[] lb] w fun e w' => e = .returned (.int .i64 (idxB n p)) ∧ Below w.heap.size w w' := by
  have hn := hv.le
  have HP := Lib.hid hp
  clear hp
  go_enter Tryd.func85, Tryd.ntmps85
  go_wp2
  go_loopw [8] (fun i wr => ∃ k : Nat, k ≤ n ∧ i = .int .i64 k ∧ Below w.heap.size w wr ∧ allB k (fun i => !p i) = true) (fun i _ => n - (intOf i).toNat)
  case atStart => exact ⟨0, Nat.zero_le _, rfl, Below.refl _ _, rfl⟩
  case round =>
    obtain ⟨k, hk, rfl, hbr, hall⟩ := hrel
    have HALL := Lib.hid hall
    clear hall
    by_cases hlt : k < n
    · obtain ⟨b, off, rfl, hb, hc⟩ := (hv.below hbr).at_ (by omega)
      obtain h0 := cells1 hc k hlt
      have hcall := HP.out wr hbr k hlt
      clear hc
      cases hq : p k with
      | true =>
        rw [hq] at hcall
        have HQ := Lib.hid hq
        clear hq
        go_wp2_with (go_at_fn g; refine hcall.mono ?_; rintro e w1 ⟨rfl, hb1⟩)
        go_ret
        exact ⟨ret_int (idxB_hit hlt HQ.out HALL.out).symm, (by repeat' (first | (with_reducible exact Below.refl _ _) | (with_reducible assumption) | (with_reducible refine Base.via hb1 ?_) | (with_reducible refine Base.grow_alloc ?_ _) | (with_reducible refine Base.below_drewN ?_ _) | (with_reducible refine Below.drew ?_) | (with_reducible refine Below.setCell ?_ ?_ _) | go_size))⟩
      | false =>
        rw [hq] at hcall
        have HQ := Lib.hid hq
        clear hq
        go_wp2_with (go_at_fn g; refine hcall.mono ?_; rintro e w1 ⟨rfl, hb1⟩)
        go_roundw
        case rel => exact ⟨k + 1, by omega, by go_num, (by repeat' (first | (with_reducible exact Below.refl _ _) | (with_reducible assumption) | (with_reducible refine Base.via hb1 ?_) | (with_reducible refine Base.grow_alloc ?_ _) | (with_reducible refine Base.below_drewN ?_ _) | (with_reducible refine Below.drew ?_) | (with_reducible refine Below.setCell ?_ ?_ _) | go_size)), allB_yes HALL.out (by rw [HQ.out]; rfl)⟩
        case measure => simp [intOf]; omega
    · have hkn : k = n := by omega
      subst hkn
      go_wp2
      go_ret
      exact ⟨ret_int (idxB_miss HALL.out).symm, hbr⟩
set_option maxHeartbeats 400000 in
theorem c_ContainsFuncInt64 (A : Option Addr) (n c : Nat) (T : Nat → Int) (g : Nat) (lb : Array Value) (p : Nat → Bool) (w : World) (eg : ∀ args w, (callFunc g args).run Tryd.prog w = .ok (.enter g args) w)
    (hv : Sl w 1 A n c (f1 T)) (hp : Pred Tryd.prog w g lb n (fun i => .int .i64 (T i)) p) :
    Calls Tryd.prog 79 #[.slice A n c, .func (.func g) #[] lb] w fun e w' => e = .returned (.bool (anyB n p)) ∧ Below w.heap.size w w' := by
  have HP := Lib.hid hp
  clear hp
  have hbd := @idxB_bd n p
  go_enter Tryd.func79, Tryd.ntmps79
  go_wp2_with (go_at_call 85; refine (c_IndexFuncInt64 _ _ _ T g lb p _ eg hv HP.out).mono ?_; rintro e w1 ⟨rfl, hb1⟩)
  go_ret
  exact ⟨ret_bool idxB_nonneg, (by repeat' (first | (with_reducible exact Below.refl _ _) | (with_reducible assumption) | (with_reducible refine Base.via hb1 ?_) | (with_reducible refine Base.grow_alloc ?_ _) | (with_reducible refine Base.below_drewN ?_ _) | (with_reducible refine Below.drew ?_) | (with_reducible refine Below.setCell ?_ ?_ _) | go_size))⟩
theorem c_isAt1 (x y m a b : Int) (bx by' : Nat) (w : World) (hx : w.cell? ⟨bx, 0, none⟩ = some (.int .i64 a)) (hy : w.cell? ⟨by', 0, none⟩ = some (.int .i64 b)) (lx : bx < w.heap.size) (ly : by' < w.heap.size) :
    Calls Tryd.prog 84 #[.agg #[.int .i64 x, .int .i64 y, .int .i64 m], .pointer (some ⟨bx, 0, none⟩), .pointer (some ⟨by', 0, none⟩)] w fun e w' => e = .returned (.bool (x == a && y == b)) ∧ Below w.heap.size w w' := by
  cases hq : (x == a)
  · go_enter Tryd.func84, Tryd.ntmps84
    go_wp2
    go_ret
    exact ⟨ret_bool (by simp), (by repeat' (first | (with_reducible exact Below.refl _ _) | (with_reducible assumption) | (with_reducible refine Base.grow_alloc ?_ _) | (with_reducible refine Base.below_drewN ?_ _) | (with_reducible refine Below.drew ?_) | (with_reducible refine Below.setCell ?_ ?_ _) | go_size))⟩
  · go_enter Tryd.func84, Tryd.ntmps84
    go_wp2
    go_ret
    exact ⟨ret_bool (by simp), (by repeat' (first | (with_reducible exact Below.refl _ _) | (with_reducible assumption) | (with_reducible refine Base.grow_alloc ?_ _) | (with_reducible refine Base.below_drewN ?_ _) | (with_reducible refine Below.drew ?_) | (with_reducible refine Below.setCell ?_ ?_ _) | go_size))⟩
set_option maxHeartbeats 400000 in
theorem c_isAt (A : Option Addr) (n c : Nat) (X Y M : Nat → Int) (x y : Int) (w : World) (hv : Sl w 3 A n c (f3 X Y M)) :
    Calls Tryd.prog 77 #[.slice A n c, .int .i64 x, .int .i64 y] w fun e w' => e = .returned (.bool (anyB n (fun i => X i == x && Y i == y))) ∧ Below w.heap.size w w' := by
  have eg : ∀ args w, (callFunc 84 args).run Tryd.prog w = .ok (.enter 84 args) w := enters_of Tryd.func84 (by kernel_rfl) rfl
  have hp : Idx.Pred Tryd.prog ((w.alloc (.cells #[.int .i64 x] 2)).alloc (.cells #[.int .i64 y] 2)) 84 #[.pointer (some ⟨w.heap.size, 0, none⟩), .pointer (some ⟨w.heap.size + 1, 0, none⟩)] n (fun i => .agg #[.int .i64 (X i), .int .i64 (Y i), .int .i64 (M i)]) (fun i => X i == x && Y i == y) := by
    intro W hW i hi
    have z := hW.size
    simp at z
    have k0 : W.cell? ⟨w.heap.size, 0, none⟩ = some (.int .i64 x) := (hW.cell (p := ⟨w.heap.size, 0, none⟩) (by first | (simp; done) | (simp; omega))).trans (by simp)
    have k1 : W.cell? ⟨w.heap.size + 1, 0, none⟩ = some (.int .i64 y) := (hW.cell (p := ⟨w.heap.size + 1, 0, none⟩) (by first | (simp; done) | (simp; omega))).trans (by simp)
    exact c_isAt1 _ _ _ _ _ _ _ W k0 k1 (by omega) (by omega)
  have HP := Lib.hid hp
  clear hp
  go_enter Tryd.func77, Tryd.ntmps77
  go_wp2_with (go_at_call 83; refine (c_ContainsFuncMark _ _ _ X Y M 84 _ _ _ eg (hv.below (by repeat' (first | (with_reducible exact Below.refl _ _) | (with_reducible assumption) | (with_reducible refine Base.grow_alloc ?_ _) | (with_reducible refine Base.below_drewN ?_ _) | (with_reducible refine Below.drew ?_) | (with_reducible refine Below.setCell ?_ ?_ _) | go_size))) HP.out).mono ?_; rintro e w1 ⟨rfl, hb1⟩)
  go_ret
  exact ⟨rfl, (by repeat' (first | (with_reducible exact Below.refl _ _) | (with_reducible assumption) | (with_reducible refine Base.via hb1 ?_) | (with_reducible refine Base.grow_alloc ?_ _) | (with_reducible refine Base.below_drewN ?_ _) | (with_reducible refine Below.drew ?_) | (with_reducible refine Below.setCell ?_ ?_ _) | go_size))⟩
theorem c_allIn1 (x a b : Int) (bx by' : Nat) (w : World) (hx : w.cell? ⟨bx, 0, none⟩ = some (.int .i64 a)) (hy : w.cell? ⟨by', 0, none⟩ = some (.int .i64 b)) :
    Calls Tryd.prog 80 #[.int .i64 x, .pointer (some ⟨bx, 0, none⟩), .pointer (some ⟨by', 0, none⟩)] w fun e w' => e = .returned (.bool (!inB x a b)) ∧ Below w.heap.size w w' := by
  go_enter Tryd.func80, Tryd.ntmps80
  go_wp2_with (first | (go_at_call 55; refine (c_in _ _ _ _).mono ?_; rintro e w' ⟨rfl, rfl⟩))
  go_ret
  exact ⟨rfl, (by repeat' (first | (with_reducible exact Below.refl _ _) | (with_reducible assumption) | (with_reducible refine Base.grow_alloc ?_ _) | (with_reducible refine Base.below_drewN ?_ _) | (with_reducible refine Below.drew ?_) | (with_reducible refine Below.setCell ?_ ?_ _) | go_size))⟩
set_option maxHeartbeats 400000 in
theorem c_allIn (A : Option Addr) (n c : Nat) (T : Nat → Int) (x y : Int) (w : World) (hv : Sl w 1 A n c (f1 T)) :
    Calls Tryd.prog 64 #[.slice A n c, .int .i64 x, .int .i64 y] w fun e w' => e = .returned (.bool (!anyB n (fun i => !inB (T i) x y))) ∧ Below w.heap.size w w' := by
  have eg : ∀ args w, (callFunc 80 args).run Tryd.prog w = .ok (.enter 80 args) w := enters_of Tryd.func80 (by kernel_rfl) rfl
  have hp : Idx.Pred Tryd.prog ((w.alloc (.cells #[.int .i64 x] 2)).alloc (.cells #[.int .i64 y] 2)) 80 #[.pointer (some ⟨w.heap.size, 0, none⟩), .pointer (some ⟨w.heap.size + 1, 0, none⟩)] n (fun i => .int .i64 (T i)) (fun i => !inB (T i) x y) := by
    intro W hW i hi
    have k0 : W.cell? ⟨w.heap.size, 0, none⟩ = some (.int .i64 x) := (hW.cell (p := ⟨w.heap.size, 0, none⟩) (by first | (simp; done) | (simp; omega))).trans (by simp)
    have k1 : W.cell? ⟨w.heap.size + 1, 0, none⟩ = some (.int .i64 y) := (hW.cell (p := ⟨w.heap.size + 1, 0, none⟩) (by first | (simp; done) | (simp; omega))).trans (by simp)
    exact c_allIn1 _ _ _ _ _ W k0 k1
  have HP := Lib.hid hp
  clear hp
  go_enter Tryd.func64, Tryd.ntmps64
  go_wp2_with (go_at_call 79; refine (c_ContainsFuncInt64 _ _ _ T 80 _ _ _ eg (hv.below (by repeat' (first | (with_reducible exact Below.refl _ _) | (with_reducible assumption) | (with_reducible refine Base.grow_alloc ?_ _) | (with_reducible refine Base.below_drewN ?_ _) | (with_reducible refine Below.drew ?_) | (with_reducible refine Below.setCell ?_ ?_ _) | go_size))) HP.out).mono ?_; rintro e w1 ⟨rfl, hb1⟩)
  go_ret
  exact ⟨rfl, (by repeat' (first | (with_reducible exact Below.refl _ _) | (with_reducible assumption) | (with_reducible refine Base.via hb1 ?_) | (with_reducible refine Base.grow_alloc ?_ _) | (with_reducible refine Base.below_drewN ?_ _) | (with_reducible refine Below.drew ?_) | (with_reducible refine Below.setCell ?_ ?_ _) | go_size))⟩
end Go.Proofs.YtpkkeoapndpikaaDoor.Idx
