/- A row of rows of the call's own: bins with lists of numbers. Plain words; nothing here speaks of the program. -/
import Derived.Test.YtenjcdhehjdeoaaList
namespace Go.Proofs.Ytenjcdhehjdeoaa.View
set_option linter.unusedVariables false
set_option linter.unusedSimpArgs false
open Go.RowKit

/-- Block b holds m slices g of the call's own, no two of them in one block; slice i reads as the list L i. -/
structure BinsAt (w : World) (B b : Nat) (S E : TypeId) (m : Nat) (g : Nat → Value) (L : Nat → List Int) : Prop where
  row : RowK w b S 1 m (fun i _ => g i)
  own : ∀ i, i < m → w.ownsRow B E 1 (g i) (L i).length (cellL (L i))
  far : ∀ i, i < m → (g i).ownBlock ≠ some b
  apart : ∀ i j, i < m → j < m → i ≠ j → ∀ q, (g i).ownBlock = some q → (g j).ownBlock ≠ some q
section
variable {w w' : World} {B b : Nat} {S E : TypeId} {m : Nat} {g : Nat → Value} {L L' : Nat → List Int}
theorem BinsAt.below (h : BinsAt w B b S E m g L) (hb : Below w.heap.size w w') : BinsAt w' B b S E m g L :=
  ⟨h.row.below hb h.row.lt, fun i hi => own_of_below (h.own i hi) hb, h.far, h.apart⟩
theorem BinsAt.congr (h : BinsAt w B b S E m g L) (he : ∀ i, i < m → L i = L' i) : BinsAt w B b S E m g L' :=
  ⟨h.row, fun i hi => by rw [← he i hi]; exact h.own i hi, h.far, h.apart⟩
theorem BinsAt.cell (h : BinsAt w B b S E m g L) {i : Nat} (hi : i < m) : w.cell? ⟨b, i, none⟩ = some (g i) := h.row.cell1 hi
theorem BinsAt.made {n : Nat} (cs : Array Value) (hs : n ≤ cs.size) (hf : ∀ i, i < n → cs[i]? = some (.slice none 0 0)) : BinsAt (w.alloc (.cells cs S)) B w.heap.size S E n (fun _ => .slice none 0 0) (fun _ => []) :=
  ⟨RowK.made cs (by omega) (fun i hi j hj => by have : j = 0 := by omega
                                                subst this; simpa using hf i hi), fun i _ => World.ownsRow_nil _ _ _ _, fun i _ => by simp [Value.ownBlock], fun i j _ _ _ q hq => by simp [Value.ownBlock] at hq⟩
def updL (L : Nat → List Int) (k : Nat) (x : Int) : Nat → List Int := fun i => if i = k then L k ++ [x] else L i
/-- one more number at the end of row k, whose slice is then written back -/
theorem BinsAt.step (h : BinsAt w B b S E m g L) {k : Nat} (hk : k < m) {v' : Value} {x : Int} (ho : w'.ownsRow B E 1 v' ((L k).length + 1) (cellL (L k) ++ [.int .i64 x])) (hg : w.grownBy w' (g k).ownBlock) (hat : v'.ownBlock = (g k).ownBlock ∨ v'.ownBlock = some w.heap.size) :
    BinsAt (w'.setCell ⟨b, k, none⟩ v') B b S E m (fun i => if i = k then v' else g i) (updL L k x) := by
  have hlt : ∀ i, i < m → ∀ q, (g i).ownBlock = some q → q < w.heap.size := fun i hi q hq => ((h.own i hi).lt q hq).2
  have hbl := h.row.lt
  have hv : v'.ownBlock ≠ some b := by
    rcases hat with e | e
    · rw [e]; exact h.far k hk
    · rw [e]; intro e2; injection e2 with e2; omega
  have hr : RowK w' b S 1 m (fun i _ => g i) := h.row.grown hg (fun e => h.far k hk e.symm)
  have hkeep : ∀ {u : Value} {n : Nat} {xs : List Value}, w'.ownsRow B E 1 u n xs → u.ownBlock ≠ some b → (w'.setCell ⟨b, k, none⟩ v').ownsRow B E 1 u n xs := fun {u n xs} hu hne =>
    hu.kept (row := some b) ⟨rfl, rfl, rfl, by simp [World.setCell], fun q _ hq => Below.heap_setCell w' _ _ q (by rintro rfl; exact hq rfl)⟩ (.inr hne)
  refine ⟨?_, ?_, ?_, ?_⟩
  · refine (hr.set1 hk v').congr fun i _ j hj => ?_
    have : j = 0 := by omega
    subst this
    simp [upd]
  · intro i hi
    by_cases e : i = k
    · subst e
      simp only [updL, if_true]
      refine hkeep ?_ hv
      rw [cellL_snoc] at ho
      simpa using ho
    · simp only [updL, if_neg e]
      refine hkeep ((h.own i hi).kept hg ?_) (h.far i hi)
      cases hq : (g i).ownBlock with
      | none => exact .inl rfl
      | some q => exact .inr (by intro e2; exact h.apart i k hi hk e q hq e2.symm)
  · intro i hi
    by_cases e : i = k
    · simp only [if_pos e]; exact hv
    · simp only [if_neg e]; exact h.far i hi
  · intro i j hi hj hij q hq
    have key : ∀ i, i < m → i ≠ k → ∀ q, (g i).ownBlock = some q → v'.ownBlock ≠ some q := fun i hi hik q hq => by
      rcases hat with e | e
      · rw [e]; exact h.apart i k hi hk hik q hq
      · rw [e]; intro e2; injection e2 with e2; have := hlt i hi q hq; omega
    by_cases e1 : i = k
    · have e2 : j ≠ k := by omega
      simp only [if_pos e1] at hq
      simp only [if_neg e2]
      intro hj2
      exact key j hj e2 q hj2 hq
    · simp only [if_neg e1] at hq
      by_cases e2 : j = k
      · simp only [if_pos e2]; exact key i hi e1 q hq
      · simp only [if_neg e2]; exact h.apart i j hi hj hij q hq
theorem BinsAt.step_grown {a : World} (h : BinsAt w B b S E m g L) (ha : a.grownBy w (some b)) (haB : a.heap.size ≤ B) {k : Nat} (hk : k < m) (hg : w.grownBy w' (g k).ownBlock) (v' : Value) : a.grownBy (w'.setCell ⟨b, k, none⟩ v') (some b) :=
  ⟨hg.os.trans ha.os, hg.tape.trans ha.tape, hg.output.trans ha.output, by have h1 := ha.size; have h2 := hg.size; simp [World.setCell]; omega, fun q hq hne => by
    rw [Below.heap_setCell w' _ _ q (by rintro rfl; exact hne rfl)]
    rw [hg.block q (Nat.lt_of_lt_of_le hq ha.size) (by intro e; have := ((h.own k hk).lt q e.symm).1; omega)]
    exact ha.block q hq hne⟩
theorem grown_below {a : World} {r : Option Nat} (ha : a.grownBy w r) (hb : Below w.heap.size w w') : a.grownBy w' r :=
  ⟨hb.os.trans ha.os, hb.tape.trans ha.tape, hb.output.trans ha.output, Nat.le_trans ha.size hb.size, fun q hq hne => (hb.block q (Nat.lt_of_lt_of_le hq ha.size)).trans (ha.block q hq hne)⟩
theorem grown_refl {a : World} {r : Option Nat} : a.grownBy a r := ⟨rfl, rfl, rfl, Nat.le_refl _, fun _ _ _ => rfl⟩
theorem below_grown {a w0 : World} (h0 : Below w0.heap.size w0 a) (hb : w0.heap.size ≤ b) (ha : a.grownBy w (some b)) : Below w0.heap.size w0 w :=
  h0.grown ha h0.size (fun q hq => by have := Option.some.inj hq; omega)
theorem BinsAt.sl (h : BinsAt w B b S E m g L) {i : Nat} (hi : i < m) (hn : (L i).length ≤ 1048576) : ∃ A c, g i = .slice A (L i).length c ∧ Sl w 1 A (L i).length c (f1 (lf (L i))) := by
  obtain ⟨A, c, e, hv, _⟩ := (OwnK.of_list (h.own i hi) hn).view
  exact ⟨A, c, e, hv⟩
/-- the outer slice -/
theorem BinsAt.outer (h : BinsAt w B b S E m g L) (hn : m ≤ 1048576) : Sl w 1 (some ⟨b, 0, none⟩) m m (fun i _ => g i) := h.row.view hn (Nat.le_refl _) (by omega)
end
end Go.Proofs.Ytenjcdhehjdeoaa.View
