/- Points grouped by parts of the time: the program's side. -/
import Derived.Test.YthojfmlnnclghaaBinP
import Derived.Test.YthojfmlnnclghaaCurve2
import Derived.Test.YthojfmlnnclghaaVar
import Derived.Deep.RegionHeld3
import Derived.Deep.AppendLies
namespace Go.Proofs.Ythojfmlnnclghaa.BinC
set_option linter.unusedVariables false
set_option linter.unusedSimpArgs false
set_option maxRecDepth 8000
open Go.RowKit Plain Num View Curve Curve2 Frac

theorem infoI : (Try.prog.info? 2).map (fun i => (i.zero, i.size, i.bytes)) = some (some (.int .i64 0), 1, 8) := by kernel_rfl
/-- two rows of the call's own, apart from each other; nothing below B has turned since 'a' -/
def Two (B : Nat) (a W : World) (E : TypeId) (u v : Value) (xs ys : List Value) : Prop := B ≤ W.heap.size ∧ Below B a W ∧ W.ownsRow B E 1 u xs.length xs ∧ W.ownsRow B E 1 v ys.length ys ∧ (∀ b, u.ownBlock = some b → v.ownBlock ≠ some b)
section
variable {B : Nat} {a W W' : World} {E : TypeId} {u v : Value} {xs ys : List Value}
theorem Two.below (h : Two B a W E u v xs ys) (hb : Below W.heap.size W W') : Two B a W' E u v xs ys :=
  ⟨Nat.le_trans h.1 hb.size, h.2.1.trans (hb.mono h.1), own_of_below h.2.2.1 hb, own_of_below h.2.2.2.1 hb, h.2.2.2.2⟩
theorem Two.fst {g cap : Nat} {x : Value} {n : Nat} (h : Two B a W E u v xs ys) (ho : W'.ownsRow B E 1 (.slice (some ⟨g, 0, none⟩) n cap) n (xs ++ [x])) (hn : n = (xs ++ [x]).length) (hg : W.grownBy W' u.ownBlock) (hat : u.ownBlock = some g ∨ g = W.heap.size) :
    Two B a W' E (.slice (some ⟨g, 0, none⟩) n cap) v (xs ++ [x]) ys := by
  obtain ⟨h1, h2, h3, h4, h5⟩ := h
  refine ⟨Nat.le_trans h1 hg.size, h2.grown hg h1 (fun q hq => (h3.lt q hq).1), by rw [← hn]; exact ho, h4.kept hg (by cases hv : v.ownBlock with | none => exact .inl rfl | some q => exact .inr (fun e => h5 q e.symm hv)), fun b hb e => ?_⟩
  · simp [Value.ownBlock] at hb
    subst hb
    rcases hat with c | c
    · exact h5 g c e
    · have := (h4.lt g e).2
      omega
theorem Two.swap (h : Two B a W E u v xs ys) : Two B a W E v u ys xs := ⟨h.1, h.2.1, h.2.2.2.1, h.2.2.1, fun b hb e => h.2.2.2.2 b e hb⟩
theorem Two.snd {g cap : Nat} {y : Value} {n : Nat} (h : Two B a W E u v xs ys) (ho : W'.ownsRow B E 1 (.slice (some ⟨g, 0, none⟩) n cap) n (ys ++ [y])) (hn : n = (ys ++ [y]).length) (hg : W.grownBy W' v.ownBlock) (hat : v.ownBlock = some g ∨ g = W.heap.size) :
    Two B a W' E u (.slice (some ⟨g, 0, none⟩) n cap) xs (ys ++ [y]) := (h.swap.fst ho hn hg hat).swap
theorem news1 {b : Nat} {x : Value} (h : W.cell? ⟨b, 0, none⟩ = some x) : ∀ j y, [x][j]? = some y → W.cell? ((⟨b, 0, none⟩ : Addr).add j) = some y := by
  intro j y hj
  have e : ((⟨b, 0, none⟩ : Addr).add j) = ⟨b, j, none⟩ := by rw [Addr.add_lit, Nat.zero_add]
  rw [e]
  cases j with
  | zero => simp at hj; subst hj; exact h
  | succ j => simp at hj
theorem far_cell (hg : W.grownBy W' u.ownBlock) {p : Addr} {x : Value} (h : W.cell? p = some x) (hne : ∀ b, u.ownBlock = some b → b ≠ p.block) : W'.cell? p = some x :=
  (World.cell?_of_block (hg.block p.block (World.block_lt_of_cell? _ _ h) (fun e => hne _ e.symm rfl))).trans h
theorem Two.ne1 (h : Two B a W E u v xs ys) {q : Nat} (hq : W.heap.size ≤ q) : ∀ b, u.ownBlock = some b → b ≠ q := fun b hb e => by have := (h.2.2.1.lt b hb).2; omega
theorem Two.ne2 (h : Two B a W E u v xs ys) {q : Nat} (hq : W.heap.size ≤ q) : ∀ b, v.ownBlock = some b → b ≠ q := h.swap.ne1 hq
end
theorem n_l1 {X : World} {x : Value} {t : TypeId} : (X.alloc (.cells #[x] t)).cell? ⟨X.heap.size, 0, none⟩ = some x := by simp
theorem n_l1D {X : World} {x : Value} {t : TypeId} : (X.alloc (.cells #[x] t)).drew.cell? ⟨X.heap.size, 0, none⟩ = some x := n_l1
theorem n_la {X : World} {x : Value} {t : TypeId} {o : Obj} : ((X.alloc (.cells #[x] t)).alloc o).cell? ⟨X.heap.size, 0, none⟩ = some x := by simp
theorem n_laD {X : World} {x : Value} {t : TypeId} {o : Obj} : ((X.alloc (.cells #[x] t)).alloc o).drew.cell? ⟨X.heap.size, 0, none⟩ = some x := n_la
theorem n_lb {X : World} {x : Value} {t : TypeId} {o : Obj} : ((X.alloc o).alloc (.cells #[x] t)).cell? ⟨X.heap.size + 1, 0, none⟩ = some x := by simp
theorem n_lbD {X : World} {x : Value} {t : TypeId} {o : Obj} : ((X.alloc o).alloc (.cells #[x] t)).drew.cell? ⟨X.heap.size + 1, 0, none⟩ = some x := n_lb
theorem two_set {W : World} {g : Nat} {a b : Value} (h0 : W.cell? ⟨g, 0, none⟩ = some a) (h1 : W.cell? ⟨g, 1, none⟩ = some b) (x y : Value) :
    ((W.setCell ⟨g, 0, none⟩ x).setCell ⟨g, 1, none⟩ y).cell? ⟨g, 0, none⟩ = some x ∧ ((W.setCell ⟨g, 0, none⟩ x).setCell ⟨g, 1, none⟩ y).cell? ⟨g, 1, none⟩ = some y := by
  have e0 : (W.setCell ⟨g, 0, none⟩ x).cell? ⟨g, 0, none⟩ = some x := World.cell?_setCell_same _ _ _ h0
  have e1 : (W.setCell ⟨g, 0, none⟩ x).cell? ⟨g, 1, none⟩ = some b := (World.cell?_setCell_other _ _ _ _ (by simp)).trans h1
  exact ⟨(World.cell?_setCell_other _ _ _ _ (by simp)).trans e0, World.cell?_setCell_same _ _ _ e1⟩
theorem made_own {W : World} {E : TypeId} {B b : Nat} (hb : b = W.heap.size) (hB : B ≤ b) : (W.alloc (.cells #[] E)).ownsRow B E 1 (.slice (some ⟨b, 0, none⟩) 0 0) 0 [] := by
  subst hb
  exact World.ownsRow_made W _ _ hB (by simp [maxLen]) rfl
theorem c_sumG (A : Option Addr) (n c : Nat) (L : Nat → Int) (w : World) (hv : Sl w 1 A n c (f1 L)) (hn : n ≤ 100) (hL : ∀ i, i < n → -10000000 ≤ L i ∧ L i ≤ 10000000) :
    Calls Try.prog 74 #[.slice A n c] w fun e w' => e = .returned (.int .i64 (sumB n L)) ∧ Below w.heap.size w w' := by
  have HL := Lib.hid hL
  have HB := Lib.hid (fun k (hk : k ≤ n) => sumB_bd (k := k) (f := L) (a := -10000000) (b := 10000000) (fun i hi => hL i (by omega)))
  clear hL
  go_enter Try.func74, Try.ntmps74
  go_wp2
  go_loopw [3, 5, 8] (fun s _ i wr => ∃ k : Nat, k ≤ n ∧ i = .int .i64 k ∧ s = .int .i64 (sumB k L) ∧ Below w.heap.size w wr) (fun _ _ i _ => n - (intOf i).toNat)
  case atStart => exact ⟨0, Nat.zero_le _, rfl, rfl, (by repeat' (first | (with_reducible exact Below.refl _ _) | (with_reducible assumption) | (with_reducible refine Base.grow_alloc ?_ _) | (with_reducible refine Base.below_drewN ?_ _) | (with_reducible refine Below.drew ?_) | (with_reducible refine Below.setCell ?_ ?_ _) | go_size))⟩
  case round =>
    obtain ⟨k, hk, rfl, rfl, hbr⟩ := hrel
    by_cases hlt : k < n
    · obtain ⟨b, off, rfl, hb, hc⟩ := (hv.below hbr).at_ (by omega)
      have h0 := cells1 hc k hlt
      obtain ⟨u1, u2⟩ := HB.out k hk
      obtain ⟨u3, u4⟩ := HL.out k hlt
      clear hc
      go_wp2
      go_roundw
      case rel => exact ⟨k + 1, by omega, by go_num, rfl, hbr⟩
      case measure => simp [intOf]; omega
    · have hkn : k = n := by omega
      subst hkn
      go_wp2
      go_ret
      exact ⟨rfl, hbr⟩
theorem c_meanG (A : Option Addr) (n c : Nat) (L : Nat → Int) (w : World) (hv : Sl w 1 A n c (f1 L)) (h0 : 1 ≤ n) (hn : n ≤ 100) (hL : ∀ i, i < n → -10000000 ≤ L i ∧ L i ≤ 10000000) :
    Calls Try.prog 56 #[.slice A n c] w fun e w' => e = .returned (.int .i64 (nrI (sumB n L) n)) ∧ Below w.heap.size w w' := by
  obtain ⟨u1, u2⟩ := sumB_bd (k := n) (f := L) (a := -10000000) (b := 10000000) hL
  go_enter Try.func56, Try.ntmps56
  go_wp2_with (first | (go_at_call 74; refine (c_sumG _ _ _ L _ (hv.below (by repeat' (first | (with_reducible exact Below.refl _ _) | (with_reducible assumption) | (with_reducible refine Base.grow_alloc ?_ _) | (with_reducible refine Base.below_drewN ?_ _) | (with_reducible refine Below.drew ?_) | (with_reducible refine Below.setCell ?_ ?_ _) | go_size))) hn hL).mono ?_; rintro e w1 ⟨rfl, hb1⟩; obtain ⟨chb1, fhb1⟩ := Base.bcell hb1; have zhb1 := (hb1).size; (try simp at zhb1); (try have yhb1 : w.heap.size < (w1).heap.size := by omega)) | (go_at_call 75; refine (Var.c_count _ _ _ _ (by omega)).mono ?_; rintro e w' ⟨rfl, rfl⟩) | (go_at_call 73; refine (c_nearest _ _ _ (by omega) (by omega) (by omega) (by omega)).mono ?_; rintro e w' ⟨rfl, rfl⟩))
  go_ret
  exact ⟨rfl, (by repeat' (first | (with_reducible exact Below.refl _ _) | (with_reducible assumption) | (with_reducible refine Base.via hb1 ?_) | (with_reducible refine Base.grow_alloc ?_ _) | (with_reducible refine Base.below_drewN ?_ _) | (with_reducible refine Below.drew ?_) | (with_reducible refine Below.setCell ?_ ?_ _) | go_size))⟩
end Go.Proofs.Ythojfmlnnclghaa.BinC
