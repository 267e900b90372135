/- The first of the least. Plain words; nothing here speaks of the program. -/
import Derived.Test.YtenjcdhehjdeoaaAmp
import Derived.Test.YtenjcdhehjdeoaaIdx
import Derived.Test.YtenjcdhehjdeoaaList
namespace Go.Proofs.Ytenjcdhehjdeoaa.Least
set_option linter.unusedVariables false
set_option linter.unusedSimpArgs false
open Plain View Amp

/-- the first of the least of the numbers 0 to k -/
def amin (F : Nat → Int) : Nat → Nat
  | 0 => 0
  | k + 1 => if F (k + 1) < F (amin F k) then k + 1 else amin F k
section
variable {F : Nat → Int}
theorem amin_le (k : Nat) : amin F k ≤ k := by
  induction k with
  | zero => exact Nat.le_refl _
  | succ k ih => rw [amin]; split <;> omega
theorem amin_least (k : Nat) : ∀ j, j ≤ k → F (amin F k) ≤ F j := by
  induction k with
  | zero => intro j hj; have : j = 0 := by omega
            subst this; exact Int.le_refl _
  | succ k ih =>
    intro j hj
    rw [amin]
    split
    · rename_i h
      by_cases e : j = k + 1
      · subst e; omega
      · have := ih j (by omega); omega
    · by_cases e : j = k + 1
      · subst e; omega
      · exact ih j (by omega)
theorem amin_first (k : Nat) : ∀ j, j < amin F k → F (amin F k) < F j := by
  induction k with
  | zero => intro j hj; simp [amin] at hj
  | succ k ih =>
    intro j hj
    rw [amin] at hj ⊢
    split at hj
    · rename_i h
      rw [if_pos h]
      have := amin_least (F := F) k j (by omega)
      omega
    · rename_i h
      rw [if_neg h]
      exact ih j hj
theorem amin_min (k : Nat) : F (amin F k) = minT F k := by
  induction k with
  | zero => rfl
  | succ k ih =>
    rw [amin, minT]
    split <;> split <;> first | rfl | omega
theorem amin_idx {m : Nat} (hm : 0 < m) : idxB m (fun i => minT F (m - 1) == F i) = (amin F (m - 1) : Int) := by
  have hl := amin_le (F := F) (m - 1)
  refine idxB_hit (by omega) ?_ ?_
  · rw [← amin_min]; simp
  · rw [allB_iff]
    intro i hi
    have := amin_first (F := F) (m - 1) i hi
    rw [← amin_min]
    simp
    omega
theorem amin_congr {G : Nat → Int} {k : Nat} (h : ∀ i, i ≤ k → F i = G i) : amin F k = amin G k := by
  induction k with
  | zero => rfl
  | succ k ih =>
    have e := ih (fun i hi => h i (by omega))
    have hl := amin_le (F := F) k
    rw [amin, amin, ← e, h (k + 1) (Nat.le_refl _), h (amin F k) (by omega)]
end
/-- the first of the least of those wanted below k; -1: none -/
def bst (P : Nat → Bool) (F : Nat → Int) : Nat → Int
  | 0 => -1
  | k + 1 => if P k = true ∧ (bst P F k < 0 ∨ F k < F (bst P F k).toNat) then (k : Int) else bst P F k
section
variable {P : Nat → Bool} {F : Nat → Int} {k : Nat} {b : Int}
theorem bst_bd (P : Nat → Bool) (F : Nat → Int) (k : Nat) : -1 ≤ bst P F k ∧ bst P F k < k := by
  induction k with
  | zero => simp [bst]
  | succ k ih => rw [bst]; split <;> omega
theorem bst_out (h : P k = false) (hb : b = bst P F k) : b = bst P F (k + 1) := by rw [bst, h, if_neg (by simp)]; exact hb
theorem bst_new (h : P k = true) (hb : b = bst P F k) (hn : b < 0) : (k : Int) = bst P F (k + 1) := by rw [bst, ← hb, if_pos ⟨h, .inl hn⟩]
theorem bst_less (h : P k = true) (hb : b = bst P F k) (hl : F k < F b.toNat) : (k : Int) = bst P F (k + 1) := by rw [bst, ← hb, if_pos ⟨h, .inr hl⟩]
theorem bst_keep (hb : b = bst P F k) (hn : ¬ b < 0) (hl : ¬ F k < F b.toNat) : b = bst P F (k + 1) := by
  rw [bst, ← hb, if_neg]
  rintro ⟨_, h | h⟩
  · exact hn h
  · exact hl h
theorem bst_all (hP : ∀ i, P i = true) (k : Nat) : bst P F (k + 1) = (amin F k : Int) := by
  induction k with
  | zero => simp [bst, hP, amin]
  | succ k ih =>
    rw [bst, ih, amin, hP]
    simp only [true_and, Int.toNat_natCast]
    by_cases h : F (k + 1) < F (amin F k)
    · rw [if_pos (.inr h), if_pos h]
    · rw [if_neg (by omega), if_neg h]
theorem getD_left {L : List Nat} {x i d : Nat} (h : i < L.length) : (L ++ [x]).getD i d = L.getD i d := by
  rw [List.getD_eq_getElem?_getD, List.getD_eq_getElem?_getD, List.getElem?_append_left h]
theorem getD_last {L : List Nat} {x d : Nat} : (L ++ [x]).getD L.length d = x := by
  rw [List.getD_eq_getElem?_getD, List.getElem?_append_right (Nat.le_refl _)]
  simp
theorem bst_sel (P : Nat → Bool) (F : Nat → Int) (k : Nat) : ((sel k P (fun i => i)).length = 0 ∧ bst P F k = -1) ∨ (0 < (sel k P (fun i => i)).length ∧ bst P F k = (((sel k P (fun i => i)).getD (amin (fun j => F ((sel k P (fun i => i)).getD j 0)) ((sel k P (fun i => i)).length - 1)) 0 : Nat) : Int)) := by
  induction k with
  | zero => exact .inl ⟨rfl, rfl⟩
  | succ k ih =>
    cases hp : P k with
    | false =>
      rw [sel_no hp, ← bst_out hp rfl]
      exact ih
    | true =>
      rw [sel_yes hp]
      generalize sel k P (fun i => i) = L at *
      refine .inr ⟨by simp, ?_⟩
      rw [List.length_append, List.length_singleton, Nat.add_sub_cancel]
      rcases ih with ⟨h0, hb⟩ | ⟨h0, hb⟩
      · have : L = [] := List.eq_nil_of_length_eq_zero h0
        subst this
        rw [← bst_new hp rfl (by omega)]
        rfl
      · obtain ⟨q, hq⟩ : ∃ q, L.length = q + 1 := ⟨L.length - 1, by omega⟩
        rw [hq, Nat.add_sub_cancel] at hb
        have hl := amin_le (F := fun j => F (L.getD j 0)) q
        have hc : amin (fun j => F ((L ++ [k]).getD j 0)) q = amin (fun j => F (L.getD j 0)) q := amin_congr fun i hi => by
          rw [getD_left (by omega)]
        have hk : (L ++ [k]).getD (q + 1) 0 = k := by rw [← hq]; exact getD_last
        have hx : (L ++ [k]).getD (amin (fun j => F (L.getD j 0)) q) 0 = L.getD (amin (fun j => F (L.getD j 0)) q) 0 := getD_left (by omega)
        rw [hq, amin, hc, hk, hx]
        rw [bst, hb, hp, Int.toNat_natCast]
        by_cases h : F k < F (L.getD (amin (fun j => F (L.getD j 0)) q) 0)
        · rw [if_pos ⟨rfl, .inr h⟩, if_pos h, hk]
        · rw [if_neg (by omega), if_neg h, hx]
end
theorem sel_map {α β : Type} (P : Nat → Bool) (g : Nat → α) (h : α → β) (k : Nat) : sel k P (fun i => h (g i)) = (sel k P g).map h := by
  induction k with
  | zero => rfl
  | succ k ih => rw [sel, sel, ih, List.map_append]; split <;> rfl
theorem sel_at {P : Nat → Bool} {g : Nat → Int} {k j : Nat} (hj : j < (sel k P (fun i => i)).length) : lf (sel k P g) j = g ((sel k P (fun i => i)).getD j 0) := by
  have e : sel k P g = (sel k P (fun i => i)).map g := sel_map P (fun i => i) g k
  rw [e]
  simp only [lf, List.getD_eq_getElem?_getD, List.getElem?_map, List.getElem?_eq_getElem hj]
  rfl
theorem sel_len_eq {α β : Type} {P : Nat → Bool} (g : Nat → α) (h : Nat → β) (k : Nat) : (sel k P g).length = (sel k P h).length := by
  have e1 : sel k P g = (sel k P (fun i => i)).map g := sel_map P (fun i => i) g k
  have e2 : sel k P h = (sel k P (fun i => i)).map h := sel_map P (fun i => i) h k
  rw [e1, e2, List.length_map, List.length_map]
end Go.Proofs.Ytenjcdhehjdeoaa.Least
