/- Reading numbers and words: plain words; nothing here speaks of the program. -/
import Derived.Test.YthojfmlnnclghaaGreatDoorDecP
import Derived.Lib.ItoaMem
import Derived.Lib.ParseIntB
import Derived.Lib.ParseIntBTie
import Derived.Lib.Strings
import Derived.Lib.IndexMore
import Derived.Lib.IndexBytes
import Derived.Lib.IndexLaws
import Derived.Lib.CutLaws
import Derived.Lib.Split
import Derived.Lib.SplitLaws
import Derived.Lib.CountLaws
namespace Go.Proofs.YthojfmlnnclghaaGreatDoor.Rd
set_option linter.unusedVariables false
set_option linter.unusedSimpArgs false
open Go Plain Dec

/-- the value of digits -/
def stV (a : Nat) (c : UInt8) : Nat := a * 10 + (c.toNat - 48)
theorem stV_eq (a : Nat) (c : UInt8) : stV a c = a * 10 + (c.toNat - 48) := by unfold stV; rfl
def valF (acc : Nat) (l : List UInt8) : Nat := l.foldl stV acc
theorem valF_nil (acc : Nat) : valF acc [] = acc := by unfold valF; rw [List.foldl_nil]
theorem valF_cons (acc : Nat) (c : UInt8) (r : List UInt8) : valF acc (c :: r) = valF (stV acc c) r := by unfold valF; rw [List.foldl_cons]
def dgB (c : UInt8) : Bool := decide (48 ≤ c.toNat) && decide (c.toNat ≤ 57)
theorem dgB_iff {c : UInt8} : dgB c = true ↔ 48 ≤ c.toNat ∧ c.toNat ≤ 57 := by simp [dgB]
theorem dg_of {d : Nat} (h : d < 10) : (UInt8.ofNat (48 + d)).toNat = 48 + d := by rw [UInt8.toNat_ofNat']; omega
theorem dec_dg (u : Nat) : ∀ c ∈ Lib.decDigits u, dgB c = true := by
  induction u using Nat.strongRecOn with
  | _ u ih =>
    rw [Lib.decDigits]
    split
    · rename_i h
      intro c hc
      obtain rfl := List.mem_singleton.1 hc
      rw [dgB_iff, dg_of h]
      omega
    · rename_i h
      intro c hc
      rcases List.mem_append.1 hc with hc | hc
      · exact ih (u / 10) (by omega) c hc
      · obtain rfl := List.mem_singleton.1 hc
        rw [dgB_iff, dg_of (by omega)]
        omega
theorem valF_app (a b : List UInt8) (acc : Nat) : valF acc (a ++ b) = valF (valF acc a) b := by unfold valF; rw [List.foldl_append]
theorem valF_one (acc : Nat) (c : UInt8) {d : Nat} (h : c.toNat = 48 + d) : valF acc [c] = acc * 10 + d := by
  rw [valF_cons, valF_nil, stV_eq]
  omega
theorem valF_dec (u : Nat) : valF 0 (Lib.decDigits u) = u := by
  induction u using Nat.strongRecOn with
  | _ u ih =>
    rcases Decidable.em (u < 10) with h | h
    · rw [Lib.decDigits, dif_pos h]
      exact (valF_one 0 _ (dg_of h)).trans (by omega)
    · rw [Lib.decDigits, dif_neg h, valF_app, ih (u / 10) (by omega)]
      exact (valF_one (u / 10) _ (dg_of (show u % 10 < 10 by omega))).trans (by omega)
theorem valF_ge (l : List UInt8) : ∀ acc, acc ≤ valF acc l := by
  induction l with
  | nil => intro acc; rw [valF_nil]; exact Nat.le_refl _
  | cons x l ih =>
    intro acc
    rw [valF_cons]
    exact Nat.le_trans (by rw [stV_eq]; omega) (ih (stV acc x))
theorem mul_step {a v q d : Nat} (h : v < (a * 10 + d + 1) * q) (hd : d < 10) : v < (a + 1) * (q * 10) := by
  have h4 : a * 10 + d + 1 ≤ (a + 1) * 10 := by omega
  have h5 := Nat.mul_le_mul_right q h4
  have h6 : (a + 1) * (q * 10) = (a + 1) * 10 * q := by rw [Nat.mul_comm q 10, ← Nat.mul_assoc]
  rw [h6]
  exact Nat.lt_of_lt_of_le h h5
theorem valF_lt (l : List UInt8) (hd : ∀ c ∈ l, dgB c = true) : ∀ acc, valF acc l < (acc + 1) * 10 ^ l.length := by
  induction l with
  | nil =>
    intro acc
    rw [List.length_nil, Nat.pow_zero, Nat.mul_one, valF_nil]
    exact Nat.lt_succ_self acc
  | cons x l ih =>
    intro acc
    have h1 := ih (fun c hc => hd c (List.mem_cons_of_mem _ hc)) (stV acc x)
    have h2 := dgB_iff.1 (hd x List.mem_cons_self)
    rw [stV_eq] at h1
    rw [List.length_cons, Nat.pow_succ, valF_cons, stV_eq]
    exact mul_step h1 (by omega)
theorem pU_ok (M : Nat) (hM : M ≤ 18446744073709551615) (l : List UInt8) (hd : ∀ c ∈ l, dgB c = true) : ∀ acc, valF acc l ≤ M → Lib.parseUintM M acc l = .ok (valF acc l) := by
  induction l with
  | nil => intro acc _; rw [valF_nil, Lib.parseUintM]
  | cons x l ih =>
    intro acc hv
    have h2 := dgB_iff.1 (hd x List.mem_cons_self)
    have h3 := valF_ge l (stV acc x)
    rw [valF_cons] at hv ⊢
    rw [stV_eq] at hv h3 ⊢
    rw [Lib.parseUintM, if_pos h2, if_neg (by omega), if_neg (by omega)]
    exact ih (fun c hc => hd c (List.mem_cons_of_mem _ hc)) _ hv
theorem dec_ne (u : Nat) : Lib.decDigits u ≠ [] := by
  rw [Lib.decDigits]; split <;> simp
theorem dec_cons (u : Nat) : ∃ c r, Lib.decDigits u = c :: r ∧ 48 ≤ c.toNat ∧ c.toNat ≤ 57 := by
  rcases h : Lib.decDigits u with _ | ⟨c, r⟩
  · exact absurd h (dec_ne u)
  · exact ⟨c, r, rfl, dgB_iff.1 (dec_dg u c (by rw [h]; exact List.mem_cons_self))⟩
theorem itoa_case (n : Int) : (n < 0 ∧ Lib.itoa n = 45 :: Lib.decDigits n.natAbs) ∨ (¬ n < 0 ∧ Lib.itoa n = Lib.decDigits n.natAbs) := by
  rcases Decidable.em (n < 0) with h | h
  · left; exact ⟨h, by unfold Lib.itoa; rw [if_pos h]⟩
  · right; exact ⟨h, by unfold Lib.itoa; rw [if_neg h, show n.toNat = n.natAbs by omega]⟩
theorem pI_itoa {n : Int} (h0 : -9223372036854775808 ≤ n) (h1 : n ≤ 9223372036854775807) : Lib.parseIntB 64 (Lib.itoa n) = .ok n := by
  have hu : Lib.parseUintB 64 (Lib.decDigits n.natAbs) = .ok n.natAbs := by
    rw [Lib.parseUintB, if_neg (dec_ne _), pU_ok _ (by decide) _ (dec_dg _) 0 (by rw [valF_dec]; simp; omega), valF_dec]
  rcases itoa_case n with ⟨h, he⟩ | ⟨h, he⟩
  · rw [he, Lib.parseIntB]
    simp only [show ((45 : UInt8).toNat = 43 ∨ (45 : UInt8).toNat = 45) from Or.inr rfl, if_true, hu]
    have e : (2 : Nat) ^ (64 - 1) = 9223372036854775808 := by decide
    rw [e, if_neg (fun h' => h'.1 rfl), if_neg (fun h' => by have := h'.2; omega), if_pos (show UInt8.toNat 45 = 45 from rfl)]
    exact congrArg Lib.NumEnd.ok (by omega)
  · obtain ⟨c, r, hd, c0, c1⟩ := dec_cons n.natAbs
    rw [he, hd, Lib.parseIntB]
    rw [hd] at hu
    have e43 : ¬ c.toNat = 43 := by omega
    have e45 : ¬ c.toNat = 45 := by omega
    simp only [e43, e45, or_self, if_false, hu]
    have e : (2 : Nat) ^ (64 - 1) = 9223372036854775808 := by decide
    rw [e, if_neg (fun h' => by have := h'.2; omega), if_neg (fun h' => h'.1.elim)]
    exact congrArg Lib.NumEnd.ok (by omega)
theorem trim_itoa (n : Int) : Lib.trimPrefix (Lib.itoa n) [45] = Lib.decDigits n.natAbs := by
  rcases itoa_case n with ⟨h, he⟩ | ⟨h, he⟩
  · rw [he]; simp [Lib.trimPrefix, Lib.hasPrefix]
  · obtain ⟨c, r, hd, c0, c1⟩ := dec_cons n.natAbs
    rw [he, hd, Lib.trimPrefix, Lib.hasPrefix, if_neg]
    simp only [List.isPrefixOf, Bool.and_true, beq_iff_eq]
    rintro rfl
    simp at c0
/-- the text is that of a number -/
def PN (l : List UInt8) (n : Int) : Prop := (-9223372036854775808 ≤ n ∧ n ≤ 9223372036854775807) ∧ l = Lib.itoa n ∧ (Lib.trimPrefix l [45]).length ≤ 18
/-- what a reader of numbers hands back -/
def RN (l : List UInt8) (v : Int) (b : Bool) : Prop := (b = true → PN l v) ∧ ∀ n, PN l n → b = true ∧ v = n
theorem RN_no {l : List UInt8} {v : Int} (h : ∀ n, ¬ PN l n) : RN l v false := ⟨(fun h => Bool.noConfusion h), fun n hn => absurd hn (h n)⟩
theorem RN_yes {l : List UInt8} {v : Int} (h : PN l v) : RN l v true := ⟨fun _ => h, fun n hn => by
  refine ⟨rfl, ?_⟩
  have e := pI_itoa h.1.1 h.1.2
  rw [← h.2.1, hn.2.1, pI_itoa hn.1.1 hn.1.2] at e
  exact (Lib.NumEnd.ok.inj e).symm⟩
theorem PN_parse {l : List UInt8} {n : Int} (h : PN l n) : Lib.parseIntB 64 l = .ok n := by rw [h.2.1]; exact pI_itoa h.1.1 h.1.2
theorem PN_len {l : List UInt8} {n : Int} (h : PN l n) : 1 ≤ (Lib.trimPrefix l [45]).length ∧ (Lib.trimPrefix l [45]).length ≤ 18 := by
  refine ⟨?_, h.2.2⟩
  rw [h.2.1, trim_itoa]
  obtain ⟨c, r, hd, _⟩ := dec_cons n.natAbs
  rw [hd]; simp
end Go.Proofs.YthojfmlnnclghaaGreatDoor.Rd
