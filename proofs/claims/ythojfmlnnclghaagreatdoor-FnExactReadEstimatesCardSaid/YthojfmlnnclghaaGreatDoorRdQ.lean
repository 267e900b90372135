/- Reading a number: the reference's l01Number. -/
import Derived.Test.YthojfmlnnclghaaGreatDoorRdN
import Derived.Test.YthojfmlnnclghaaGreatDoorName
namespace Go.Proofs.YthojfmlnnclghaaGreatDoor.Rd
set_option linter.unusedVariables false
set_option linter.unusedSimpArgs false
set_option maxRecDepth 8000
open Go.RowKit Plain Num View Dec Txt Name

theorem PN_val {l : List UInt8} {n : Int} (h : PN l n) : (n = if Lib.hasPrefix l [45] = true then -((valF 0 (Lib.trimPrefix l [45]) : Nat) : Int) else ((valF 0 (Lib.trimPrefix l [45]) : Nat) : Int)) ∧ ∀ c ∈ Lib.trimPrefix l [45], dgB c = true := by
  have ht : Lib.trimPrefix l [45] = Lib.decDigits n.natAbs := by rw [h.2.1]; exact trim_itoa n
  refine ⟨?_, by rw [ht]; exact dec_dg _⟩
  rw [ht, valF_dec]
  rcases itoa_case n with ⟨h1, he⟩ | ⟨h1, he⟩
  · rw [h.2.1, he, if_pos (by simp [Lib.hasPrefix])]
    omega
  · obtain ⟨c, r, hd, c0, c1⟩ := dec_cons n.natAbs
    rw [h.2.1, he, hd, if_neg]
    · omega
    · simp only [Lib.hasPrefix, List.isPrefixOf, Bool.and_true, beq_iff_eq]
      rintro rfl
      simp at c0
theorem by8_list {t : ByteArray} {k : Nat} (h : k < t.size) : ∃ c : UInt8, t.data.toList[k]? = some c ∧ by8 t k = ((c.toNat : Nat) : Int) := by
  refine ⟨t[k]'h, ?_, by rw [← by8_eq h]⟩
  have : k < t.data.toList.length := by rw [Array.length_toList]; exact h
  rw [List.getElem?_eq_getElem this, Array.getElem_toList]
  rfl
theorem pow18 {k : Nat} (h : k ≤ 17) : (10 : Nat) ^ k ≤ 100000000000000000 := Nat.le_trans (Nat.pow_le_pow_right (by decide) h) (by decide)
theorem pow18' {k : Nat} (h : k ≤ 18) : (10 : Nat) ^ k ≤ 1000000000000000000 := Nat.le_trans (Nat.pow_le_pow_right (by decide) h) (by decide)
theorem valF_lt0 {l : List UInt8} (hd : ∀ c ∈ l, dgB c = true) {k : Nat} (hk : l.length ≤ k) : valF 0 l < 10 ^ k := by
  have h1 := valF_lt l hd 0
  rw [Nat.zero_add, Nat.one_mul] at h1
  exact Nat.lt_of_lt_of_le h1 (Nat.pow_le_pow_right (by decide) hk)
theorem take_step {l : List UInt8} {k : Nat} {c : UInt8} (h : l[k]? = some c) : l.take (k + 1) = l.take k ++ [c] := by
  rw [List.take_add_one, h]; rfl
theorem val_step {l : List UInt8} {k : Nat} {c : UInt8} (h : l[k]? = some c) : valF 0 (l.take (k + 1)) = valF 0 (l.take k) * 10 + (c.toNat - 48) := by
  rw [take_step h, valF_app, valF_cons, valF_nil, stV_eq]
theorem dg_step {l : List UInt8} {k : Nat} {c : UInt8} (h : l[k]? = some c) (hl : ∀ x ∈ l.take k, dgB x = true) (hc : dgB c = true) : ∀ x ∈ l.take (k + 1), dgB x = true := by
  rw [take_step h]
  intro x hx
  rcases List.mem_append.1 hx with hx | hx
  · exact hl x hx
  · rw [List.mem_singleton.1 hx]; exact hc
/-- the digits' loop and what is behind it, in words: t is what is left of s behind its sign -/
theorem num_end {s t : ByteArray} (ht : t.data.toList = Lib.trimPrefix s.data.toList [45]) (hl : t.data.toList.length ≤ 18) {v : Int} (hd : ∀ c ∈ t.data.toList, dgB c = true)
    (hv : v = if Lib.hasPrefix s.data.toList [45] = true then -((valF 0 t.data.toList : Nat) : Int) else ((valF 0 t.data.toList : Nat) : Int)) :
    (Lib.itoa v = s.data.toList → RN s.data.toList v true) ∧ (¬ Lib.itoa v = s.data.toList → RN s.data.toList 0 false) ∧ -1000000000000000000 ≤ v ∧ v ≤ 1000000000000000000 := by
  have h1 := valF_lt0 hd hl
  have h2 := pow18' (Nat.le_refl 18)
  have hb : -1000000000000000000 ≤ v ∧ v ≤ 1000000000000000000 := by
    rw [hv]; split <;> omega
  refine ⟨fun h => RN_yes ⟨⟨by omega, by omega⟩, h.symm, by rw [← ht]; exact hl⟩, fun h => RN_no fun n hn => h ?_, hb⟩
  have h3 := (PN_val hn).1
  rw [← ht] at h3
  rw [hv, ← h3]
  exact hn.2.1.symm
end Go.Proofs.YthojfmlnnclghaaGreatDoor.Rd
