/- Plain: putting names one by one into an ordered list, each once, is to sort them and strike what is said twice. -/
import Derived.Lib.SlicesCompact
import Derived.Lib.RowBridge
namespace Go.Proofs.Ythojfmlnnclghaa.StarP
set_option linter.unusedVariables false
set_option linter.unusedSimpArgs false

section
variable {α : Type} (lt : α → α → Prop)
theorem strict_unique (irr : ∀ a, ¬ lt a a) (tr : ∀ a b c, lt a b → lt b c → lt a c) : ∀ (l m : List α), l.Pairwise lt → m.Pairwise lt → (∀ x, x ∈ l ↔ x ∈ m) → l = m
  | [], [], _, _, _ => rfl
  | [], b :: m, _, _, h => absurd ((h b).2 (by simp)) (by simp)
  | a :: l, [], _, _, h => absurd ((h a).1 (by simp)) (by simp)
  | a :: l, b :: m, hl, hm, h => by
    rw [List.pairwise_cons] at hl hm
    have hab : a = b := by
      have h1 := (h a).1 (by simp)
      have h2 := (h b).2 (by simp)
      rw [List.mem_cons] at h1 h2
      rcases h1 with h1 | h1
      · exact h1
      · rcases h2 with h2 | h2
        · exact h2.symm
        · exact absurd (tr _ _ _ (hl.1 b h2) (hm.1 a h1)) (irr _)
    subst hab
    congr 1
    refine strict_unique irr tr l m hl.2 hm.2 (fun x => ⟨fun hx => ?_, fun hx => ?_⟩)
    · have := (h x).1 (List.mem_cons_of_mem _ hx)
      rw [List.mem_cons] at this
      rcases this with rfl | h1
      · exact absurd (hl.1 x hx) (irr _)
      · exact h1
    · have := (h x).2 (List.mem_cons_of_mem _ hx)
      rw [List.mem_cons] at this
      rcases this with rfl | h1
      · exact absurd (hm.1 x hx) (irr _)
      · exact h1
end
theorem lt_of_ne {a b : List UInt8} (h : a ≤ b) (hn : a ≠ b) : a < b := by
  rcases Decidable.em (a < b) with h1 | h1
  · exact h1
  · exact absurd (List.le_antisymm h (List.not_lt.1 h1)) hn
/-- what is kept of the first m of an ordered row: ordered strictly, the same members, the last of them its end -/
theorem kept (d : Array (List UInt8)) (hd : ∀ i j, i ≤ j → j < d.size → d[i]! ≤ d[j]!) : ∀ m, m ≤ d.size → (Lib.compactUpTo d m).Pairwise (· < ·) ∧ (∀ x, x ∈ Lib.compactUpTo d m ↔ ∃ i, i < m ∧ d[i]! = x)
  | 0, _ => by
    have : Lib.compactUpTo d 0 = [] := rfl
    rw [this]
    exact ⟨List.Pairwise.nil, fun x => ⟨fun h => absurd h (by simp), fun ⟨i, hi, _⟩ => absurd hi (by omega)⟩⟩
  | m + 1, hm => by
    obtain ⟨ih1, ih2⟩ := kept d hd m (by omega)
    rw [Lib.compactUpTo_succ]
    by_cases hk : m = 0 ∨ d[m]! ≠ d[m - 1]!
    · have hkeep : Lib.keeps d m = true := by
        rcases hk with rfl | hk
        · exact Lib.keeps_lt_one d 0 (by omega)
        · exact Lib.keeps_pos hk
      rw [if_pos hkeep]
      refine ⟨?_, fun x => ?_⟩
      · rw [List.pairwise_append]
        refine ⟨ih1, by simp, fun a ha b hb => ?_⟩
        obtain rfl : b = d[m]! := by simpa using hb
        obtain ⟨i, hi, rfl⟩ := (ih2 a).1 ha
        rcases hk with rfl | hk
        · omega
        · have h1 := hd i (m - 1) (by omega) (by omega)
          have h2 := lt_of_ne (hd (m - 1) m (by omega) (by omega)) (fun e => hk e.symm)
          exact List.lt_of_le_of_lt h1 h2
      · rw [List.mem_append, ih2]
        constructor
        · rintro (⟨i, hi, rfl⟩ | h)
          · exact ⟨i, by omega, rfl⟩
          · obtain rfl : x = d[m]! := by simpa using h
            exact ⟨m, by omega, rfl⟩
        · rintro ⟨i, hi, rfl⟩
          by_cases e : i = m
          · subst e; exact .inr (by simp)
          · exact .inl ⟨i, by omega, rfl⟩
    · have hm0 : 0 < m := by
        rcases Nat.eq_zero_or_pos m with h | h
        · exact absurd (.inl h) hk
        · exact h
      have he : d[m]! = d[m - 1]! := by
        rcases Decidable.em (d[m]! = d[m - 1]!) with h | h
        · exact h
        · exact absurd (.inr h) hk
      rw [Lib.keeps_neg hm0 he, if_neg (by simp), List.append_nil]
      refine ⟨ih1, fun x => ?_⟩
      rw [ih2]
      constructor
      · rintro ⟨i, hi, rfl⟩
        exact ⟨i, by omega, rfl⟩
      · rintro ⟨i, hi, rfl⟩
        by_cases e : i = m
        · subst e; exact ⟨i - 1, by omega, he.symm⟩
        · exact ⟨i, by omega, rfl⟩
def srtS (L : List (List UInt8)) : List (List UInt8) := L.mergeSort fun x y => decide (x ≤ y)
theorem srtS_sorted (L : List (List UInt8)) : (srtS L).Pairwise (· ≤ ·) := by
  have h := List.pairwise_mergeSort (le := fun x y : List UInt8 => decide (x ≤ y)) (fun a b c h1 h2 => by simp only [decide_eq_true_eq] at *; exact List.le_trans h1 h2) (fun a b => by rcases List.le_total a b with h | h <;> simp [h]) L
  exact h.imp fun h => by simpa using h
theorem compact_srt (L : List (List UInt8)) : (Lib.compact (srtS L)).Pairwise (· < ·) ∧ ∀ x, x ∈ Lib.compact (srtS L) ↔ x ∈ L := by
  have hs := srtS_sorted L
  have hd : ∀ i j, i ≤ j → j < (srtS L).toArray.size → (srtS L).toArray[i]! ≤ (srtS L).toArray[j]! := by
    intro i j hij hj
    have hj' : j < (srtS L).length := by simpa using hj
    by_cases e : i = j
    · subst e; exact List.le_refl _
    · have := (List.pairwise_iff_getElem.1 hs) i j (by omega) hj' (by omega)
      simpa [getElem!_pos, hj', (show i < (srtS L).length by omega)] using this
  obtain ⟨h1, h2⟩ := kept _ hd (srtS L).length (by simp)
  refine ⟨h1, fun x => ?_⟩
  rw [show Lib.compact (srtS L) = Lib.compactUpTo (srtS L).toArray (srtS L).length from rfl, h2]
  rw [← List.mem_mergeSort (le := fun x y => decide (x ≤ y)) (l := L)]
  show _ ↔ x ∈ srtS L
  rw [List.mem_iff_getElem]
  constructor
  · rintro ⟨i, hi, rfl⟩
    exact ⟨i, hi, by simp [getElem!_pos, hi]⟩
  · rintro ⟨i, hi, rfl⟩
    exact ⟨i, hi, by simp [getElem!_pos, hi]⟩
/-- where a name goes: behind the last of the first k that is not bigger -/
def pk (L : List (List UInt8)) (x : List UInt8) : Nat → Nat
  | 0 => 0
  | k + 1 => if x < L.getD k [] then pk L x k else k + 1
theorem pk_spec (L : List (List UInt8)) (x : List UInt8) : ∀ m, pk L x m ≤ m ∧ (∀ j, pk L x m ≤ j → j < m → x < L.getD j []) ∧ (0 < pk L x m → ¬ x < L.getD (pk L x m - 1) [])
  | 0 => ⟨by simp [pk], fun j _ hj => by omega, fun h => by simp [pk] at h⟩
  | m + 1 => by
    obtain ⟨h1, h2, h3⟩ := pk_spec L x m
    by_cases h : x < L.getD m []
    · have e : pk L x (m + 1) = pk L x m := by rw [pk, if_pos h]
      rw [e]
      refine ⟨by omega, fun j hj hm => ?_, h3⟩
      by_cases ej : j = m
      · rw [ej]; exact h
      · exact h2 j hj (by omega)
    · have e : pk L x (m + 1) = m + 1 := by rw [pk, if_neg h]
      rw [e]
      exact ⟨by omega, fun j hj hm => by omega, fun _ => by simpa using h⟩
/-- a name put into an ordered list, unless it is there -/
def putN (L : List (List UInt8)) (x : List UInt8) : List (List UInt8) :=
  if 0 < pk L x L.length ∧ L.getD (pk L x L.length - 1) [] = x then L else L.take (pk L x L.length) ++ [x] ++ L.drop (pk L x L.length)
theorem getD_get {L : List (List UInt8)} {i : Nat} (h : i < L.length) : L.getD i [] = L[i] := by simp [h]
theorem put_ok {L : List (List UInt8)} (h : L.Pairwise (· < ·)) (x : List UInt8) : (putN L x).Pairwise (· < ·) ∧ ∀ y, y ∈ putN L x ↔ y ∈ L ∨ y = x := by
  obtain ⟨h1, h2, h3⟩ := pk_spec L x L.length
  unfold putN
  generalize pk L x L.length = k at *
  by_cases he : 0 < k ∧ L.getD (k - 1) [] = x
  · rw [if_pos he]
    refine ⟨h, fun y => ⟨fun hy => .inl hy, fun hy => ?_⟩⟩
    rcases hy with hy | rfl
    · exact hy
    · rw [← he.2, getD_get (by omega)]
      exact List.getElem_mem _
  · rw [if_neg he]
    have hlo : ∀ a, a ∈ L.take k → a < x := by
      intro a ha
      obtain ⟨i, hi, rfl⟩ := List.mem_iff_getElem.1 ha
      simp only [List.length_take] at hi
      rw [List.getElem_take]
      have hx : ¬ x < L[k - 1]'(by omega) := by
        have := h3 (by omega)
        rwa [getD_get (by omega)] at this
      have hne : L[k - 1]'(by omega) ≠ x := fun e => he ⟨by omega, by rw [getD_get (by omega)]; exact e⟩
      have hl : L[k - 1]'(by omega) < x := lt_of_ne (List.not_lt.1 hx) hne
      by_cases ei : i = k - 1
      · subst ei; exact hl
      · exact List.lt_trans ((List.pairwise_iff_getElem.1 h) i (k - 1) (by omega) (by omega) (by omega)) hl
    have hhi : ∀ b, b ∈ L.drop k → x < b := by
      intro b hb
      obtain ⟨i, hi, rfl⟩ := List.mem_iff_getElem.1 hb
      simp only [List.length_drop] at hi
      rw [List.getElem_drop]
      have := h2 (k + i) (by omega) (by omega)
      rwa [getD_get (by omega)] at this
    refine ⟨?_, fun y => ?_⟩
    · rw [List.pairwise_append, List.pairwise_append]
      refine ⟨⟨h.sublist (List.take_sublist _ _), by simp, fun a ha b hb => ?_⟩, h.sublist (List.drop_sublist _ _), fun a ha b hb => ?_⟩
      · obtain rfl : b = x := by simpa using hb
        exact hlo a ha
      · rw [List.mem_append] at ha
        rcases ha with ha | ha
        · exact List.lt_trans (hlo a ha) (hhi b hb)
        · obtain rfl : a = x := by simpa using ha
          exact hhi b hb
    · rw [List.mem_append, List.mem_append, List.mem_singleton]
      constructor
      · rintro ((hy | hy) | hy)
        · exact .inl (List.mem_of_mem_take hy)
        · exact .inr hy
        · exact .inl (List.mem_of_mem_drop hy)
      · rintro (hy | hy)
        · rw [← List.take_append_drop k L, List.mem_append] at hy
          rcases hy with hy | hy
          · exact .inl (.inl hy)
          · exact .inr hy
        · exact .inl (.inr hy)
/-- names put one by one -/
def puts (x : Nat → List UInt8) : Nat → List (List UInt8)
  | 0 => []
  | k + 1 => putN (puts x k) (x k)
theorem puts_ok (x : Nat → List UInt8) : ∀ n, (puts x n).Pairwise (· < ·) ∧ ∀ y, y ∈ puts x n ↔ ∃ i, i < n ∧ x i = y
  | 0 => ⟨List.Pairwise.nil, fun y => ⟨fun h => absurd h (by simp [puts]), fun ⟨i, hi, _⟩ => absurd hi (by omega)⟩⟩
  | n + 1 => by
    obtain ⟨h1, h2⟩ := puts_ok x n
    obtain ⟨g1, g2⟩ := put_ok h1 (x n)
    refine ⟨g1, fun y => ?_⟩
    rw [show puts x (n + 1) = putN (puts x n) (x n) from rfl, g2, h2]
    constructor
    · rintro (⟨i, hi, rfl⟩ | rfl)
      · exact ⟨i, by omega, rfl⟩
      · exact ⟨n, by omega, rfl⟩
    · rintro ⟨i, hi, rfl⟩
      by_cases e : i = n
      · subst e; exact .inr rfl
      · exact .inl ⟨i, by omega, rfl⟩
theorem puts_eq (x : Nat → List UInt8) (n : Nat) : puts x n = Lib.compact (srtS ((List.range n).map x)) := by
  obtain ⟨h1, h2⟩ := puts_ok x n
  obtain ⟨g1, g2⟩ := compact_srt ((List.range n).map x)
  refine strict_unique (· < ·) List.lt_irrefl (fun a b c => List.lt_trans) _ _ h1 g1 (fun y => ?_)
  rw [h2, g2, List.mem_map]
  constructor
  · rintro ⟨i, hi, rfl⟩; exact ⟨i, List.mem_range.2 hi, rfl⟩
  · rintro ⟨i, hi, rfl⟩; exact ⟨i, List.mem_range.1 hi, rfl⟩
end Go.Proofs.Ythojfmlnnclghaa.StarP
