/- Lists of numbers and of pairs of numbers as slices of the call's own. Plain words; nothing here speaks of the program. -/
import Derived.Test.YthojfmlnnclghaaGreatDoorView
import Derived.Maps.AppendAt
namespace Go.Proofs.YthojfmlnnclghaaGreatDoor.View
set_option linter.unusedVariables false
set_option linter.unusedSimpArgs false
open Go.RowKit

/-- the cells of a list of numbers; the list as a table -/
def cellL (L : List Int) : List Value := L.map (Value.int .i64)
def lf (L : List Int) : Nat → Int := fun i => L.getD i 0
theorem cellL_snoc (L : List Int) (x : Int) : cellL L ++ [.int .i64 x] = cellL (L ++ [x]) := by simp [cellL]
theorem cellL_len (L : List Int) : (cellL L).length = L.length := by simp [cellL]
theorem cellL_at (L : List Int) : ∀ i, i < L.length → ∀ j, j < 1 → (cellL L)[i * 1 + j]? = some (f1 (lf L) i j) := by
  intro i hi j hj
  have : j = 0 := by omega
  subst this
  simp [cellL, f1, lf, hi]
theorem own_snoc {w : World} {B : Nat} {E : TypeId} {v : Value} {L : List Int} {x : Int} (h : w.ownsRow B E 1 v (L.length + 1) (cellL L ++ [.int .i64 x])) : w.ownsRow B E 1 v (L ++ [x]).length (cellL (L ++ [x])) := by
  rw [cellL_snoc] at h
  simpa using h
theorem OwnK.of_list {w : World} {B : Nat} {E : TypeId} {v : Value} {L : List Int} (h : w.ownsRow B E 1 v L.length (cellL L)) (hn : L.length ≤ 1048576) : OwnK w B E 1 v L.length (f1 (lf L)) := OwnK.of_own h hn (cellL_at L)
theorem OwnK.row1 {w : World} {B : Nat} {E : TypeId} {v : Value} {n : Nat} {T : Nat → Int} (h : OwnK w B E 1 v n (f1 T)) : n ≤ 1048576 := h.1
/-- the cells of a list of pairs; the list as two tables -/
def cellP (L : List (Int × Int)) : List Value := L.flatMap fun p => [.int .i64 p.1, .int .i64 p.2]
def lp1 (L : List (Int × Int)) : Nat → Int := fun i => (L.getD i (0, 0)).1
def lp2 (L : List (Int × Int)) : Nat → Int := fun i => (L.getD i (0, 0)).2
theorem cellP_snoc (L : List (Int × Int)) (x y : Int) : cellP L ++ [.int .i64 x, .int .i64 y] = cellP (L ++ [(x, y)]) := by simp [cellP]
theorem cellP_len (L : List (Int × Int)) : (cellP L).length = L.length * 2 := by
  induction L with
  | nil => rfl
  | cons p L ih => simp only [cellP, List.flatMap_cons, List.length_append, List.length_cons, List.length_nil] at ih ⊢; omega
theorem cellP_at (L : List (Int × Int)) : ∀ i, i < L.length → ∀ j, j < 2 → (cellP L)[i * 2 + j]? = some (f2 (lp1 L) (lp2 L) i j) := by
  induction L with
  | nil => intro i hi; simp at hi
  | cons p L ih =>
    intro i hi j hj
    cases i with
    | zero =>
      have h : j = 0 ∨ j = 1 := by omega
      rcases h with rfl | rfl <;> simp [cellP, f2, lp1, lp2]
    | succ i =>
      have h := ih i (by simpa using hi) j hj
      have e : (i + 1) * 2 + j = (i * 2 + j) + 1 + 1 := by omega
      rw [e]
      simpa [cellP, f2, lp1, lp2] using h
theorem own_snocP {w : World} {B : Nat} {E : TypeId} {v : Value} {L : List (Int × Int)} {x y : Int} (h : w.ownsRow B E 2 v (L.length + 1) (cellP L ++ [.int .i64 x, .int .i64 y])) : w.ownsRow B E 2 v (L ++ [(x, y)]).length (cellP (L ++ [(x, y)])) := by
  rw [cellP_snoc] at h
  simpa using h
theorem OwnK.of_listP {w : World} {B : Nat} {E : TypeId} {v : Value} {L : List (Int × Int)} (h : w.ownsRow B E 2 v L.length (cellP L)) (hn : L.length ≤ 1048576) : OwnK w B E 2 v L.length (f2 (lp1 L) (lp2 L)) := OwnK.of_own h hn (cellP_at L)
/-- the cells of a new block -/
theorem cell_new (w : World) (xs : List Value) (t : TypeId) : ∀ j u, xs[j]? = some u → (w.alloc (.cells xs.toArray t)).cell? ((⟨w.heap.size, 0, none⟩ : Addr).add j) = some u := by
  intro j u hj
  have e : ((⟨w.heap.size, 0, none⟩ : Addr).add j) = ⟨w.heap.size, j, none⟩ := by rw [Addr.add_lit, Nat.zero_add]
  rw [e]
  have h := heap_alloc_new w (.cells xs.toArray t)
  unfold World.cell?
  rw [h]
  simpa using hj
/-- those of the first k numbers that are wanted, one by one -/
def sel {α : Type} : Nat → (Nat → Bool) → (Nat → α) → List α
  | 0, _, _ => []
  | k + 1, P, g => sel k P g ++ (if P k = true then [g k] else [])
section
variable {α : Type} {k : Nat} {P : Nat → Bool} {g : Nat → α}
theorem sel_yes (h : P k = true) : sel (k + 1) P g = sel k P g ++ [g k] := by rw [sel, if_pos h]
theorem sel_no (h : P k = false) : sel (k + 1) P g = sel k P g := by rw [sel, h]; simp
theorem sel_len : (sel k P g).length ≤ k := by
  induction k with
  | zero => simp [sel]
  | succ k ih => rw [sel]; split <;> simp <;> omega
theorem sel_mem {x : α} (h : x ∈ sel k P g) : ∃ i, i < k ∧ P i = true ∧ x = g i := by
  induction k with
  | zero => simp [sel] at h
  | succ k ih =>
    rw [sel, List.mem_append] at h
    rcases h with h | h
    · obtain ⟨i, hi, h1, h2⟩ := ih h
      exact ⟨i, by omega, h1, h2⟩
    · split at h
      · rename_i hp
        simp at h
        exact ⟨k, by omega, hp, h⟩
      · simp at h
theorem sel_congr {P' : Nat → Bool} {g' : Nat → α} (h : ∀ i, i < k → P i = P' i ∧ g i = g' i) : sel k P g = sel k P' g' := by
  induction k with
  | zero => rfl
  | succ k ih =>
    obtain ⟨h1, h2⟩ := h k (by omega)
    rw [sel, sel, ih (fun i hi => h i (by omega)), h1, h2]
end
/-- all of the first k -/
def all1 (_ : Nat) : Bool := true
theorem sel_all_len {α : Type} {k : Nat} {g : Nat → α} : (sel k all1 g).length = k := by
  induction k with
  | zero => rfl
  | succ k ih => rw [sel_yes rfl, List.length_append, ih]; rfl
theorem sel_all_get {α : Type} {k : Nat} {g : Nat → α} {d : α} {i : Nat} (hi : i < k) : (sel k all1 g).getD i d = g i := by
  induction k with
  | zero => omega
  | succ k ih =>
    rw [sel_yes rfl]
    by_cases h : i < k
    · rw [← ih h, List.getD_eq_getElem?_getD, List.getElem?_append_left (by rw [sel_all_len]; exact h), ← List.getD_eq_getElem?_getD]
    · have : i = k := by omega
      subst this
      rw [List.getD_eq_getElem?_getD, List.getElem?_append_right (by rw [sel_all_len]; omega), sel_all_len]
      simp
theorem lf_all {k : Nat} {g : Nat → Int} {i : Nat} (hi : i < k) : lf (sel k all1 g) i = g i := sel_all_get hi
theorem OwnK.of_all {w : World} {B : Nat} {E : TypeId} {v : Value} {k : Nat} {g : Nat → Int} (h : w.ownsRow B E 1 v (sel k all1 g).length (cellL (sel k all1 g))) (hn : k ≤ 1048576) : OwnK w B E 1 v k (f1 g) := by
  have h2 := OwnK.of_list h (by rw [sel_all_len]; exact hn)
  rw [sel_all_len] at h2
  exact h2.congr (fun i hi j _ => by simp only [f1]; rw [lf_all hi])
theorem ret_slice {v : Value} {a b : Int} (h : a = b) : Ending.returned (.tuple #[v, .int .i64 a]) = Ending.returned (.tuple #[v, .int .i64 b]) := by rw [h]
end Go.Proofs.YthojfmlnnclghaaGreatDoor.View
