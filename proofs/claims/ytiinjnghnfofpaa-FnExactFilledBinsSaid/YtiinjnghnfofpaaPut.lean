/- Plain facts on putting numbers into a rising list, once each; nothing here speaks of the program. -/
import Derived.Test.YtiinjnghnfofpaaList
import Derived.Test.YtiinjnghnfofpaaPl2
namespace Go.Proofs.Ytiinjnghnfofpaa.Put
set_option linter.unusedVariables false
set_option linter.unusedSimpArgs false
open Plain View

/-- whether one of the first k is x or more; what has been put out behind the first k -/
def putD (L : List Int) (x : Int) : Bool := L.any fun y => decide (x ≤ y)
def putStep (x : Int) (s : List Int) (d : Bool) (y : Int) : List Int := if d = false ∧ x ≤ y then (if x < y then s ++ [x] ++ [y] else s ++ [y]) else s ++ [y]
def putO : List Int → Int → List Int
  | [], _ => []
  | y :: L, x => if x ≤ y then (if x < y then x :: y :: L else y :: L) else y :: putO L x
def putF (L : List Int) (x : Int) : List Int := if putD L x = true then putO L x else L ++ [x]
theorem putD_snoc (L : List Int) (x y : Int) : putD (L ++ [y]) x = (putD L x || decide (x ≤ y)) := by simp [putD]
theorem putO_no {L : List Int} {x : Int} (h : putD L x = false) : putO L x = L := by
  induction L with
  | nil => rfl
  | cons y L ih =>
    simp only [putD, List.any_cons, Bool.or_eq_false_iff, decide_eq_false_iff_not] at h
    rw [putO, if_neg h.1, ih (by simpa [putD] using h.2)]
theorem putO_yes {L : List Int} {x : Int} (y : Int) (h : putD L x = true) : putO (L ++ [y]) x = putO L x ++ [y] := by
  induction L with
  | nil => simp [putD] at h
  | cons z L ih =>
    simp only [List.cons_append, putO]
    by_cases hz : x ≤ z
    · rw [if_pos hz, if_pos hz]; split <;> simp
    · rw [if_neg hz, if_neg hz, ih (by simpa [putD, hz] using h)]; rfl
theorem putO_app {L : List Int} {x y : Int} (h : putD L x = false) : putO (L ++ [y]) x = L ++ putO [y] x := by
  induction L with
  | nil => rfl
  | cons z L ih =>
    simp only [putD, List.any_cons, Bool.or_eq_false_iff, decide_eq_false_iff_not] at h
    rw [List.cons_append, putO, if_neg h.1, ih (by simpa [putD] using h.2)]
    rfl
theorem putO_snoc (L : List Int) (x y : Int) : putO (L ++ [y]) x = putStep x (putO L x) (putD L x) y := by
  cases h : putD L x
  · rw [putO_no h, putO_app h]
    by_cases h1 : x ≤ y <;> by_cases h2 : x < y <;> simp [putO, putStep, h1, h2]
  · rw [putO_yes y h]
    simp [putStep]
theorem putF_gt {L : List Int} {x : Int} (h : ∀ y ∈ L, y < x) : putF L x = L ++ [x] := by
  have : putD L x = false := by simp only [putD, List.any_eq_false, decide_eq_true_eq]; intro y hy; have := h y hy; omega
  rw [putF, this]; rfl
theorem putF_lt {L : List Int} {x y : Int} (h : x < y) : putF (L ++ [y]) x = putF L x ++ [y] := by
  have e : putD (L ++ [y]) x = true := by rw [putD_snoc]; simp; right; omega
  rw [putF, if_pos e, putO_snoc, putF, putStep]
  cases hd : putD L x
  · rw [if_pos ⟨rfl, by omega⟩, if_pos h, putO_no hd]; rfl
  · rw [if_neg (by simp)]; rfl
theorem putF_eq {L : List Int} {y : Int} (h : ∀ z ∈ L, z < y) : putF (L ++ [y]) y = L ++ [y] := by
  have hd : putD L y = false := by simp only [putD, List.any_eq_false, decide_eq_true_eq]; intro z hz; have := h z hz; omega
  have e : putD (L ++ [y]) y = true := by rw [putD_snoc]; simp
  rw [putF, if_pos e, putO_snoc, putStep, if_pos ⟨hd, by omega⟩, if_neg (by omega), putO_no hd]
def toI (k : Nat) : Int := k
theorem sel_lt {b : Nat} {P : Nat → Bool} {y : Int} (h : y ∈ sel b P toI) : y < b := by
  obtain ⟨i, hi, _, rfl⟩ := sel_mem h
  simp only [toI]; omega
/-- a number below b put among those below b that are there -/
theorem putF_sel {b x : Nat} (hx : x < b) (P : Nat → Bool) : putF (sel b P toI) (x : Int) = sel b (fun k => P k || k == x) toI := by
  have hcut : ∀ c, c ≤ x → sel c (fun k => P k || k == x) toI = sel c P toI := fun c hc => sel_congr fun i hi => ⟨by rw [show (i == x) = false by simp; omega, Bool.or_false], rfl⟩
  induction b with
  | zero => omega
  | succ b ih =>
    by_cases e : x = b
    · subst e
      rw [sel_yes (P := fun k => P k || k == x) (by simp), hcut x (Nat.le_refl _)]
      cases hp : P x
      · rw [sel_no hp]
        exact putF_gt fun y hy => sel_lt hy
      · rw [sel_yes hp]
        exact putF_eq fun y hy => sel_lt hy
    · have h1 := ih (by omega)
      cases hp : P b
      · rw [sel_no hp, h1, sel_no (by simp [hp]; omega)]
      · rw [sel_yes hp, sel_yes (P := fun k => P k || k == x) (by simp [hp]), ← h1]
        exact putF_lt (by simp only [toI]; omega)
end Go.Proofs.Ytiinjnghnfofpaa.Put
