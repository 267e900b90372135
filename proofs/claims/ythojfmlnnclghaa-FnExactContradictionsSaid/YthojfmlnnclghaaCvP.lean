/- Plain: chosen estimates grouped by their time, one after the other. -/
import Derived.Test.YthojfmlnnclghaaFrac
import Derived.Test.YthojfmlnnclghaaList
namespace Go.Proofs.Ythojfmlnnclghaa.CvP
set_option linter.unusedVariables false
set_option linter.unusedSimpArgs false
open Plain View Frac

/-- one more (time, mag) to the groups (time, sum, how many), the latest group first -/
def stp (acc : List (Int × Int × Nat)) (e : Int × Int) : List (Int × Int × Nat) :=
  match acc with
  | [] => [(e.1, e.2, 1)]
  | q :: r => if e.1 = q.1 then (q.1, q.2.1 + e.2, q.2.2 + 1) :: r else (e.1, e.2, 1) :: q :: r
def fo (S : List (Int × Int)) : List (Int × Int × Nat) := S.foldl stp []
/-- the points of the groups, in order -/
def outL (acc : List (Int × Int × Nat)) : List (Int × Int) := acc.reverse.map fun q => (q.1, nrI q.2.1 (q.2.2 : Int))
theorem fo_nil : fo [] = [] := rfl
theorem fo_snoc (S : List (Int × Int)) (e : Int × Int) : fo (S ++ [e]) = stp (fo S) e := by simp [fo]
theorem outL_cons (t s : Int) (c : Nat) (r : List (Int × Int × Nat)) : outL ((t, s, c) :: r) = outL r ++ [(t, nrI s (c : Int))] := by simp [outL]
/-- no group has this time at its head -/
def newT (acc : List (Int × Int × Nat)) (t : Int) : Prop := ∀ q r, acc = q :: r → q.1 ≠ t
theorem stp_new {acc : List (Int × Int × Nat)} {t m : Int} (h : newT acc t) : stp acc (t, m) = (t, m, 1) :: acc := by
  cases acc with
  | nil => rfl
  | cons q r =>
    have := h q r rfl
    show (if t = q.1 then _ else _) = _
    rw [if_neg (fun e => this e.symm)]
theorem stp_old (t s m : Int) (c : Nat) (r : List (Int × Int × Nat)) : stp ((t, s, c) :: r) (t, m) = (t, s + m, c + 1) :: r := by
  show (if t = t then _ else _) = _
  rw [if_pos rfl]
/-- the open group: c of them with the sum s, behind the closed ones -/
def open' (t s : Int) (c : Nat) (r : List (Int × Int × Nat)) : List (Int × Int × Nat) := if c = 0 then r else (t, s, c) :: r
theorem open_next {t s m : Int} {c : Nat} {r : List (Int × Int × Nat)} (h : newT r t) (hs : c = 0 → s = 0) : stp (open' t s c r) (t, m) = open' t (s + m) (c + 1) r := by
  unfold open'
  rw [if_neg (by omega : ¬ c + 1 = 0)]
  by_cases h0 : c = 0
  · rw [if_pos h0, stp_new h, hs h0, h0]
    simp
  · rw [if_neg h0, stp_old]
theorem open_out {t s : Int} {c : Nat} {r : List (Int × Int × Nat)} : outL (open' t s c r) = outL r ++ (if c = 0 then [] else [(t, nrI s (c : Int))]) := by
  unfold open'
  split
  · simp
  · rw [outL_cons]
theorem stp_len (acc : List (Int × Int × Nat)) (e : Int × Int) : (stp acc e).length ≤ acc.length + 1 := by
  unfold stp
  split
  · simp
  · split <;> simp
theorem fo_len (S : List (Int × Int)) : (fo S).length ≤ S.length := by
  have h : ∀ (S : List (Int × Int)) (acc : List (Int × Int × Nat)), (S.foldl stp acc).length ≤ acc.length + S.length := by
    intro S
    induction S with
    | nil => intro acc; simp
    | cons e S ih =>
      intro acc
      have h1 := ih (stp acc e)
      have h2 := stp_len acc e
      rw [List.foldl_cons, List.length_cons]
      omega
  simpa [fo] using h S []
theorem outL_len (acc : List (Int × Int × Nat)) : (outL acc).length = acc.length := by simp [outL]
/-- heads that do not pass a time -/
def headLe (acc : List (Int × Int × Nat)) (t : Int) : Prop := ∀ q r, acc = q :: r → q.1 ≤ t
theorem headLe.new {acc : List (Int × Int × Nat)} {t t' : Int} (h : headLe acc t) (hlt : t < t') : newT acc t' := fun q r e => by
  have := h q r e
  omega
theorem headLe.mono {acc : List (Int × Int × Nat)} {t t' : Int} (h : headLe acc t) (hlt : t ≤ t') : headLe acc t' := fun q r e => by
  have := h q r e
  omega
theorem headLe_nil (t : Int) : headLe [] t := fun q r e => by cases e
theorem headLe_open {t s : Int} {c : Nat} {r : List (Int × Int × Nat)} (h : headLe r t) : headLe (open' t s c r) t := by
  unfold open'
  split
  · exact h
  · intro q r' e
    injection e with e1 e2
    rw [← e1]
    exact Int.le_refl _
theorem stp_head (acc : List (Int × Int × Nat)) (e : Int × Int) : ∃ s c r, stp acc e = (e.1, s, c) :: r := by
  cases acc with
  | nil => exact ⟨_, _, _, rfl⟩
  | cons q r =>
    by_cases h : e.1 = q.1
    · refine ⟨q.2.1 + e.2, q.2.2 + 1, r, ?_⟩
      show (if e.1 = q.1 then _ else _) = _
      rw [if_pos h, h]
    · refine ⟨e.2, 1, q :: r, ?_⟩
      show (if e.1 = q.1 then _ else _) = _
      rw [if_neg h]
/-- the latest group has a time of the list -/
theorem fo_head (S : List (Int × Int)) {q : Int × Int × Nat} {r : List (Int × Int × Nat)} (h : fo S = q :: r) : ∃ e, e ∈ S ∧ e.1 = q.1 := by
  rcases List.eq_nil_or_concat S with rfl | ⟨S', e, rfl⟩
  · cases h
  · refine ⟨e, by simp, ?_⟩
    obtain ⟨s, c, r', h2⟩ := stp_head (fo S') e
    have h3 : fo (S' ++ [e]) = (e.1, s, c) :: r' := (fo_snoc S' e).trans h2
    have h4 : (e.1, s, c) :: r' = q :: r := h3.symm.trans (by simpa using h)
    injection h4 with h5 _
    rw [← h5]
theorem newT_of {S : List (Int × Int)} {t : Int} (h : ∀ e, e ∈ S → e.1 < t) : newT (fo S) t := fun q r e => by
  obtain ⟨x, hx, he⟩ := fo_head S e
  have := h x hx
  omega
end Go.Proofs.Ythojfmlnnclghaa.CvP
