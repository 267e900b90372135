/- Words and lines: plain words; nothing here speaks of the program. -/
import Derived.Test.YthojfmlnnclghaaGreatDoorRdP
namespace Go.Proofs.YthojfmlnnclghaaGreatDoor.Rd
set_option linter.unusedVariables false
set_option linter.unusedSimpArgs false
open Go Plain Dec

def noC (c : UInt8) (l : List UInt8) : Prop := ∀ x ∈ l, x ≠ c
theorem noC_nil (c : UInt8) : noC c [] := fun x h => by cases h
theorem noC_cons {c x : UInt8} {l : List UInt8} (h : x ≠ c) (hl : noC c l) : noC c (x :: l) := fun y hy => by
  rcases List.mem_cons.1 hy with rfl | hy
  · exact h
  · exact hl y hy
theorem noC_app {c : UInt8} {a b : List UInt8} (ha : noC c a) (hb : noC c b) : noC c (a ++ b) := fun y hy => by
  rcases List.mem_append.1 hy with hy | hy
  · exact ha y hy
  · exact hb y hy
theorem noC_or (c : UInt8) (l : List UInt8) : noC c l ∨ ∃ a b, l = a ++ c :: b ∧ noC c a := by
  induction l with
  | nil => exact Or.inl (noC_nil c)
  | cons x l ih =>
    by_cases h : x = c
    · exact Or.inr ⟨[], l, by rw [h]; rfl, noC_nil c⟩
    · rcases ih with h1 | ⟨a, b, h1, h2⟩
      · exact Or.inl (noC_cons h h1)
      · exact Or.inr ⟨x :: a, b, by rw [h1]; rfl, noC_cons h h2⟩
theorem iB_no {c : UInt8} {l : List UInt8} (h : noC c l) : Lib.indexByte l c = -1 := by
  induction l with
  | nil => rfl
  | cons x l ih =>
    have hx : (x == c) = false := by rw [beq_eq_false_iff_ne]; exact h x List.mem_cons_self
    rw [Lib.indexByte, hx, ih (fun y hy => h y (List.mem_cons_of_mem _ hy))]
    rfl
theorem iB_at {c : UInt8} {a : List UInt8} (b : List UInt8) (h : noC c a) : Lib.indexByte (a ++ c :: b) c = a.length := by
  induction a with
  | nil => rw [List.nil_append, Lib.indexByte, beq_self_eq_true]; rfl
  | cons x a ih =>
    have hx : (x == c) = false := by rw [beq_eq_false_iff_ne]; exact h x List.mem_cons_self
    have i := ih (fun y hy => h y (List.mem_cons_of_mem _ hy))
    rw [List.cons_append, Lib.indexByte, hx, i]
    have e : ((a.length : Int) == -1) = false := by rw [beq_eq_false_iff_ne]; omega
    rw [e, List.length_cons]
    simp
theorem idx_no {c : UInt8} {l : List UInt8} (h : noC c l) : Lib.index l [c] = -1 := by rw [Lib.index_one]; exact iB_no h
theorem idx_at {c : UInt8} {a : List UInt8} (b : List UInt8) (h : noC c a) : Lib.index (a ++ c :: b) [c] = a.length := by rw [Lib.index_one]; exact iB_at b h
theorem cut_no {c : UInt8} {a : List UInt8} (h : noC c a) : Lib.cut a [c] = (a, [], false) := by
  rw [Lib.cut, idx_no h, if_neg (by decide)]
theorem cut_at {c : UInt8} {a : List UInt8} (b : List UInt8) (h : noC c a) : Lib.cut (a ++ c :: b) [c] = (a, b, true) := by
  rw [Lib.cut, idx_at b h, if_pos (by omega)]
  simp
def spl (c : UInt8) : List UInt8 → List (List UInt8)
  | [] => [[]]
  | x :: r => if x = c then [] :: spl c r else match spl c r with
    | [] => [[x]]
    | h :: t => (x :: h) :: t
theorem spl_no {c : UInt8} {a : List UInt8} (h : noC c a) : spl c a = [a] := by
  induction a with
  | nil => rfl
  | cons x a ih => rw [spl, if_neg (h x List.mem_cons_self), ih (fun y hy => h y (List.mem_cons_of_mem _ hy))]
theorem spl_at {c : UInt8} {a : List UInt8} (b : List UInt8) (h : noC c a) : spl c (a ++ c :: b) = a :: spl c b := by
  induction a with
  | nil => rw [List.nil_append, spl, if_pos rfl]
  | cons x a ih => rw [List.cons_append, spl, if_neg (h x List.mem_cons_self), ih (fun y hy => h y (List.mem_cons_of_mem _ hy))]
/-- put together again -/
def jn (c : UInt8) : List (List UInt8) → List UInt8
  | [] => []
  | [a] => a
  | a :: b :: t => a ++ c :: jn c (b :: t)
theorem spl_cons (c : UInt8) (l : List UInt8) : ∃ h t, spl c l = h :: t := by
  rcases noC_or c l with h | ⟨a, b, rfl, h⟩
  · exact ⟨_, _, spl_no h⟩
  · exact ⟨_, _, spl_at b h⟩
theorem jn_spl (c : UInt8) : ∀ (n : Nat) (l : List UInt8), l.length ≤ n → jn c (spl c l) = l := by
  intro n
  induction n with
  | zero => intro l hl; rw [List.eq_nil_of_length_eq_zero (Nat.le_zero.1 hl)]; rfl
  | succ n ih =>
    intro l hl
    rcases noC_or c l with h | ⟨a, b, rfl, h⟩
    · rw [spl_no h]; rfl
    · have hb : b.length ≤ n := by simp only [List.length_append, List.length_cons] at hl; omega
      have i := ih b hb
      obtain ⟨x, t, e⟩ := spl_cons c b
      rw [spl_at b h]
      rw [e] at i ⊢
      rw [jn, i]
theorem splitK_spl (c : UInt8) : ∀ (n : Nat) (l : List UInt8), l.length ≤ n → Lib.splitK [c] 0 (Lib.count l [c]) l = spl c l ∧ Lib.count l [c] + 1 = (spl c l).length := by
  intro n
  induction n with
  | zero =>
    intro l hl
    rw [List.eq_nil_of_length_eq_zero (Nat.le_zero.1 hl), spl_no (noC_nil c), Lib.count_miss (idx_no (noC_nil c))]
    exact ⟨rfl, rfl⟩
  | succ n ih =>
    intro l hl
    rcases noC_or c l with h | ⟨a, b, rfl, h⟩
    · rw [spl_no h, Lib.count_miss (idx_no h)]
      exact ⟨rfl, rfl⟩
    · have hb : b.length ≤ n := by simp only [List.length_append, List.length_cons] at hl; omega
      obtain ⟨i1, i2⟩ := ih b hb
      have hx := idx_at b h
      have hd : (a ++ c :: b).drop (a.length + [c].length) = b := by simp
      rw [Lib.count_hit (by simp) hx, hd, spl_at b h, Nat.add_comm 1, Lib.splitK, hx, if_neg (by rw [beq_iff_eq]; omega)]
      rw [show ((a.length : Int)).toNat = a.length from rfl, hd, i1, List.length_cons, i2]
      refine ⟨?_, rfl⟩
      simp
theorem splitB_spl (c : UInt8) (s : ByteArray) : (Lib.splitB ⟨#[c]⟩ 0 (Lib.countB s ⟨#[c]⟩) s).map (·.data.toList) = spl c s.data.toList ∧ Lib.countB s ⟨#[c]⟩ + 1 = (spl c s.data.toList).length := by
  have h := splitK_spl c _ s.data.toList (Nat.le_refl _)
  refine ⟨?_, h.2⟩
  rw [Lib.splitB_data]
  exact h.1
/-- a part of a text is no longer than the text -/
theorem spl_len (c : UInt8) : ∀ (n : Nat) (l : List UInt8), l.length ≤ n → ∀ x ∈ spl c l, x.length ≤ l.length := by
  intro n
  induction n with
  | zero =>
    intro l hl x hx
    rw [List.eq_nil_of_length_eq_zero (Nat.le_zero.1 hl), spl_no (noC_nil c)] at hx
    rw [List.mem_singleton.1 hx]; simp
  | succ n ih =>
    intro l hl x hx
    rcases noC_or c l with h | ⟨a, b, rfl, h⟩
    · rw [spl_no h] at hx
      rw [List.mem_singleton.1 hx]; exact Nat.le_refl _
    · have hb : b.length ≤ n := by simp only [List.length_append, List.length_cons] at hl; omega
      rw [spl_at b h] at hx
      simp only [List.length_append, List.length_cons]
      rcases List.mem_cons.1 hx with rfl | hx
      · omega
      · have := ih b hb x hx
        omega
end Go.Proofs.YthojfmlnnclghaaGreatDoor.Rd
