/- Plain: the chosen estimates of a star; their times do not fall. -/
import Derived.Test.YthojfmlnnclghaaCvE
import Derived.Test.YthojfmlnnclghaaCvP
import Derived.Test.YthojfmlnnclghaaOkE
namespace Go.Proofs.Ythojfmlnnclghaa.CvQ
set_option linter.unusedVariables false
set_option linter.unusedSimpArgs false
open Plain Num View Est Name Es1 OkE CvE CvP

def pr (e : E5) : Int × Int := (e.t, e.m)
/-- times and mags of the chosen of the first k -/
def chs (star : ByteArray) (E : Nat → E5) (k : Nat) : List (Int × Int) := sel k (fun i => cvP star (E i)) (fun i => pr (E i))
theorem chs_map (star : ByteArray) (E : Nat → E5) (k : Nat) : (sel k (fun i => cvP star (E i)) E).map pr = chs star E k := by
  induction k with
  | zero => rfl
  | succ k ih =>
    unfold chs at *
    rw [sel, sel, List.map_append, ih]
    split <;> simp
theorem bef_t {x y : E5} (h : befE x y = true) : x.t ≤ y.t := by
  unfold befE at h
  split at h
  · rename_i e
    rw [e]
    exact Int.le_refl _
  · have := of_decide_eq_true h
    omega
theorem tmono {n : Nat} {E : Nat → E5} (h : okE n E = true) (i : Nat) : ∀ j, i ≤ j → j < n → (E i).t ≤ (E j).t := by
  intro j
  induction j with
  | zero =>
    intro h1 _
    obtain rfl : i = 0 := by omega
    exact Int.le_refl _
  | succ j ih =>
    intro h1 h2
    by_cases e : i = j + 1
    · rw [e]; exact Int.le_refl _
    · have h3 := ih (by omega) (by omega)
      have h4 := bef_t ((okE_at h (j + 1) h2).2 (by omega))
      rw [Nat.add_sub_cancel] at h4
      omega
theorem ok_bd {n : Nat} {E : Nat → E5} (h : okE n E = true) (k : Nat) (hk : k < n) : (0 ≤ (E k).t ∧ (E k).t ≤ 10000000) ∧ (-2000 ≤ (E k).m ∧ (E k).m ≤ 20000) := by
  have h1 := (okE_at h k hk).1
  simp only [oneE, Bool.and_eq_true] at h1
  exact ⟨inB_iff.1 h1.1.1.1, inB_iff.1 h1.2⟩
theorem chs_new {star : ByteArray} {E : Nat → E5} {i : Nat} {t : Int} (h : ∀ j, j < i → (E j).t < t) : newT (fo (chs star E i)) t :=
  newT_of fun e he => by
    obtain ⟨j, hj, _, rfl⟩ := sel_mem he
    exact h j hj
theorem chs_yes {star : ByteArray} {E : Nat → E5} {k : Nat} (h : cvP star (E k) = true) : fo (chs star E (k + 1)) = stp (fo (chs star E k)) ((E k).t, (E k).m) := by
  rw [chs, sel_yes h, fo_snoc]
  rfl
theorem chs_no {star : ByteArray} {E : Nat → E5} {k : Nat} (h : cvP star (E k) = false) : chs star E (k + 1) = chs star E k := by
  rw [chs, sel_no h]
  rfl
/-- the light curve of a star, and the code -/
def cvC (n : Nat) (E : Nat → E5) (star : ByteArray) : Int := if okE n E = true then (if nmOk star = true then 0 else 2) else 1
def cvL (n : Nat) (E : Nat → E5) (star : ByteArray) : List (Int × Int) := if cvC n E star = 0 then outL (fo (chs star E n)) else []
end Go.Proofs.Ythojfmlnnclghaa.CvQ
