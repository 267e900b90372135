/- The merge of one element into a run, the insertion sort, runs of a length. Plain words; nothing here speaks of the program. -/
import Derived.Test.YtenjcdhehjdeoaaSymP
namespace Go.Proofs.Ytenjcdhehjdeoaa.Sym
set_option linter.unusedVariables false
set_option linter.unusedSimpArgs false
section
variable {K : Int → Int} {D D' : Nat → Int} {a b m n : Nat}
theorem rot_none {D : Nat → Int} {a m : Nat} (h : a ≤ m) : rot D a m m = D := by
  funext q
  unfold rot
  by_cases c : q < a ∨ m ≤ q
  · rw [if_pos c]
  · rw [if_neg c, if_neg (by omega)]; congr 1; omega
theorem rot_none' {D : Nat → Int} {m b : Nat} (h : m ≤ b) : rot D m m b = D := by
  funext q
  unfold rot
  by_cases c : q < m ∨ b ≤ q
  · rw [if_pos c]
  · rw [if_neg c, if_pos (by omega)]; congr 1; omega
theorem rot_up {D : Nat → Int} {a k : Nat} (h : a ≤ k) : sw (rot D a (a + 1) (k + 1)) k (k + 1) = rot D a (a + 1) (k + 1 + 1) := by
  funext q
  unfold sw rot
  by_cases e1 : q = k
  · subst e1
    rw [if_pos rfl, if_pos (by omega), if_neg (by omega), if_pos (by omega)]
    congr 1; omega
  · rw [if_neg e1]
    by_cases e2 : q = k + 1
    · subst e2
      rw [if_pos rfl, if_neg (by omega), if_neg (by omega), if_neg (by omega), if_neg (by omega)]
      congr 1; omega
    · rw [if_neg e2]
      by_cases c : q < a ∨ k + 1 ≤ q
      · rw [if_pos c, if_pos (by omega)]
      · rw [if_neg c, if_pos (by omega), if_neg (by omega), if_pos (by omega)]
theorem rot_dn {D : Nat → Int} {m k : Nat} (h : k < m) : sw (rot D (k + 1) m (m + 1)) (k + 1) k = rot D k m (m + 1) := by
  funext q
  unfold sw rot
  by_cases e1 : q = k + 1
  · subst e1
    rw [if_pos rfl, if_pos (by omega), if_neg (by omega), if_neg (by omega)]
    congr 1; omega
  · rw [if_neg e1]
    by_cases e2 : q = k
    · subst e2
      rw [if_pos rfl, if_neg (by omega), if_pos (by omega), if_neg (by omega), if_pos (by omega)]
      congr 1; omega
    · rw [if_neg e2]
      by_cases c : q < k + 1 ∨ m + 1 ≤ q
      · rw [if_pos c, if_pos (by omega)]
      · rw [if_neg c, if_neg (by omega), if_neg (by omega), if_neg (by omega)]
/-- the first element alone is the left run -/
theorem one_left {i : Nat} (hr : Asc K D (a + 1) b) (hlow : Low D a (a + 1) b) (ai : a + 1 ≤ i) (ib : i ≤ b) (h1 : i = a + 1 ∨ ltK K (D (i - 1)) (D a)) (h2 : i = b ∨ ¬ ltK K (D i) (D a)) :
    Same D (rot D a (a + 1) i) a b ∧ Asc K (rot D a (a + 1) i) a b := by
  refine ⟨(rot_same (by omega) ai).wide (Nat.le_refl _) ib, ?_⟩
  have hl : Asc K D a (a + 1) := Asc.small (by omega)
  obtain ⟨hh, _, g1, g2, g3⟩ := sym_halves (K := K) (mid := a + (i - (a + 1))) hl hr (Nat.le_refl a) (by omega) ai ib rfl (.inl rfl) (h1.elim (fun h => .inr (.inl h)) (fun h => .inr (.inr h)))
  refine Asc.append g1 (Asc.append g2 g3 fun p q p1 p2 q1 q2 => ?_) hh
  have ep : p = a + (i - (a + 1)) := by omega
  have e1 : rot D a (a + 1) i p = D a := by unfold rot; rw [if_neg (by omega), if_neg (by omega)]; congr 1; omega
  have e2 : rot D a (a + 1) i q = D q := by unfold rot; rw [if_pos (by omega)]
  rw [e1, e2]
  rcases h2 with h | h
  · omega
  · have h3 : ltK K (D a) (D i) := by
      rcases ltK_total (K := K) (x := D a) (y := D i) (by have := hlow a i (Nat.le_refl _) (by omega) (by omega) (by omega); omega) with c | c
      · exact c
      · exact absurd c h
    by_cases c : q = i
    · subst c; exact h3
    · exact ltK_trans h3 (hr i q (by omega) (by omega) q2)
/-- the last element alone is the right run -/
theorem one_right {i : Nat} (hl : Asc K D a m) (hlow : Low D a m (m + 1)) (ai : a ≤ i) (im : i ≤ m) (h1 : i = a ∨ ¬ ltK K (D m) (D (i - 1))) (h2 : i = m ∨ ltK K (D m) (D i)) :
    Same D (rot D i m (m + 1)) a (m + 1) ∧ Asc K (rot D i m (m + 1)) a (m + 1) := by
  refine ⟨(rot_same im (by omega)).wide ai (Nat.le_refl _), ?_⟩
  have hr : Asc K D m (m + 1) := Asc.small (by omega)
  obtain ⟨hh, g0, g1, g2, _⟩ := sym_halves (K := K) (mid := i + (m + 1 - m)) hl hr ai im (show m ≤ m + 1 by omega) (Nat.le_refl _) rfl (.inr (.inl rfl)) (h2.elim .inl (fun h => .inr (.inr h)))
  refine Asc.append (Asc.append g0 g1 fun p q p1 p2 q1 q2 => ?_) g2 hh
  have e1 : rot D i m (m + 1) p = D p := by unfold rot; rw [if_pos (by omega)]
  have e2 : rot D i m (m + 1) q = D m := by unfold rot; rw [if_neg (by omega), if_pos (by omega)]; congr 1; omega
  rw [e1, e2]
  rcases h1 with h | h
  · omega
  · have h3 : ltK K (D (i - 1)) (D m) := by
      rcases ltK_total (K := K) (x := D (i - 1)) (y := D m) (by have := hlow (i - 1) m (by omega) (by omega) (by omega) (by omega); omega) with c | c
      · exact c
      · exact absurd c h
    by_cases c : p = i - 1
    · subst c; exact h3
    · exact ltK_trans (hl p (i - 1) p1 (by omega) (by omega)) h3

/-- the element at j is on its way down; all others up to i ascend -/
def InsAt (K : Int → Int) (D : Nat → Int) (a j i : Nat) : Prop := a ≤ j ∧ j ≤ i ∧ (∀ p q, a ≤ p → p < q → q ≤ i → p ≠ j → q ≠ j → ltK K (D p) (D q)) ∧ (∀ q, j < q → q ≤ i → ltK K (D j) (D q)) ∧ (∀ q, a ≤ q → q < j → D q < D j)
theorem InsAt.start {i : Nat} (h : Asc K D a i) (hai : a ≤ i) (hl : ∀ q, a ≤ q → q < i → D q < D i) : InsAt K D a i i :=
  ⟨hai, Nat.le_refl _, fun p q h1 h2 h3 h4 h5 => h p q h1 h2 (by omega), fun q h1 h2 => by omega, hl⟩
theorem InsAt.step {i j : Nat} (h : InsAt K D a (j + 1) i) (hj : a ≤ j) (hk : K (D (j + 1)) < K (D j)) : InsAt K (sw D (j + 1) j) a j i := by
  obtain ⟨h1, h2, h3, h4, h5⟩ := h
  have s1 : sw D (j + 1) j j = D (j + 1) := by unfold sw; rw [if_neg (by omega), if_pos rfl]
  have s2 : sw D (j + 1) j (j + 1) = D j := by unfold sw; rw [if_pos rfl]
  have s3 : ∀ q, q ≠ j → q ≠ j + 1 → sw D (j + 1) j q = D q := fun q c1 c2 => by unfold sw; rw [if_neg c2, if_neg c1]
  refine ⟨hj, by omega, fun p q p1 pq q1 c1 c2 => ?_, fun q q1 q2 => ?_, fun q q1 q2 => ?_⟩
  · by_cases e1 : p = j + 1
    · subst e1
      rw [s2, s3 q c2 (by omega)]
      exact h3 j q hj (by omega) q1 (by omega) (by omega)
    · by_cases e2 : q = j + 1
      · subst e2
        rw [s2, s3 p c1 e1]
        exact h3 p j p1 (by omega) (by omega) (by omega) (by omega)
      · rw [s3 p c1 e1, s3 q c2 e2]
        exact h3 p q p1 pq q1 e1 e2
  · rw [s1]
    by_cases e : q = j + 1
    · subst e; rw [s2]; exact .inl hk
    · rw [s3 q (by omega) e]; exact h4 q (by omega) q2
  · rw [s1, s3 q (by omega) (by omega)]
    exact h5 q q1 (by omega)
theorem InsAt.done {i j : Nat} (h : InsAt K D a j i) (hs : j = a ∨ ¬ K (D j) < K (D (j - 1))) : Asc K D a (i + 1) := by
  obtain ⟨h1, h2, h3, h4, h5⟩ := h
  have hb : ∀ p, a ≤ p → p < j → ltK K (D p) (D j) := fun p p1 p2 => by
    rcases hs with c | c
    · omega
    · have hx : ltK K (D (j - 1)) (D j) := ltK_not (h5 (j - 1) (by omega) (by omega)) c
      by_cases e : p = j - 1
      · subst e; exact hx
      · exact ltK_trans (h3 p (j - 1) p1 (by omega) (by omega) (by omega) (by omega)) hx
  intro p q p1 pq q1
  by_cases e1 : q = j
  · subst e1; exact hb p p1 pq
  · by_cases e2 : p = j
    · subst e2; exact h4 q pq (by omega)
    · exact h3 p q p1 pq (by omega) e2 e1
theorem low_of_same {E : Nat → Int} {i : Nat} (h0 : ∀ p q, a ≤ p → p < q → q < b → E p < E q) (hs : Same E D a i) (hi : i < b) : ∀ q, a ≤ q → q < i → D q < D i := fun q q1 q2 => by
  obtain ⟨j, j1, j2, e⟩ := hs.2.1 q q1 q2
  rw [e, hs.1 i (.inr (Nat.le_refl _))]
  exact h0 j i j1 j2 hi

/-- all runs of length s from p on -/
def Runs (K : Int → Int) (D : Nat → Int) (s n p : Nat) : Prop := ∀ t, p + t * s < n → Blk K D (p + t * s) (min (p + t * s + s) n)
/-- the first T runs of length s -/
def Upto (K : Int → Int) (D : Nat → Int) (s T : Nat) : Prop := ∀ t, t < T → Blk K D (t * s) (t * s + s)
theorem Runs.head {s p : Nat} (h : Runs K D s n p) (hp : p < n) : Blk K D p (min (p + s) n) := by
  have := h 0 (by omega)
  simpa using this
theorem Runs.tail {s p : Nat} (h : Runs K D s n p) : Runs K D s n (p + s) := fun t ht => by
  have e : p + s + t * s = p + (t + 1) * s := by rw [Nat.succ_mul]; omega
  rw [e] at ht ⊢
  exact h (t + 1) ht
theorem Runs.of_eq {s p : Nat} (h : Runs K D s n p) (e : ∀ i, p ≤ i → i < n → D' i = D i) : Runs K D' s n p := fun t ht =>
  (h t ht).of_eq fun i h1 h2 => e i (by omega) (by omega)
theorem Upto.zero {s : Nat} : Upto K D s 0 := fun t ht => by omega
theorem Upto.of_eq {s T : Nat} (h : Upto K D s T) (e : ∀ i, i < T * s → D' i = D i) : Upto K D' s T := fun t ht =>
  (h t ht).of_eq fun i h1 h2 => e i (by
    have h3 : (t + 1) * s ≤ T * s := Nat.mul_le_mul_right s ht
    rw [Nat.succ_mul] at h3
    omega)
theorem Upto.succ {s T : Nat} (h : Upto K D s T) (h1 : Blk K D (T * s) (T * s + s)) : Upto K D s (T + 1) := fun t ht => by
  by_cases c : t = T
  · subst c; exact h1
  · exact h t (by omega)
theorem Upto.runs {s T : Nat} (h : Upto K D s T) (hs : 0 < s) (hT : T * s ≤ n) (hn : n < T * s + s) (h1 : T * s < n → Blk K D (T * s) n) : Runs K D s n 0 := fun t ht => by
  rw [Nat.zero_add] at ht ⊢
  rcases Nat.lt_trichotomy t T with c | c | c
  · have h3 : (t + 1) * s ≤ T * s := Nat.mul_le_mul_right s c
    rw [Nat.succ_mul] at h3
    rw [Nat.min_eq_left (by omega)]
    exact h t c
  · subst c
    rw [Nat.min_eq_right (by omega)]
    exact h1 ht
  · have h3 : (T + 1) * s ≤ t * s := Nat.mul_le_mul_right s c
    rw [Nat.succ_mul] at h3
    omega
theorem Runs.whole {s : Nat} (h : Runs K D s n 0) (hs : n ≤ s) : Blk K D 0 n := by
  by_cases h0 : 0 < n
  · have := h.head h0
    rw [Nat.min_eq_right (by omega)] at this
    exact this
  · have : n = 0 := by omega
    subst this
    exact ⟨Asc.small (by omega), fun i h1 h2 => by omega, fun x h1 h2 => by omega⟩
end
/-- the order of n numbers -/
noncomputable def foL (K : Int → Int) (n : Nat) : List Int := open Classical in if h : ∃ L : List Int, L.length = n ∧ Blk K (fun i => L.getD i 0) 0 n then Classical.choose h else []
theorem foL_eq {K : Int → Int} {n : Nat} {L : List Int} (hl : L.length = n) (h : Blk K (fun i => L.getD i 0) 0 n) : foL K n = L := by
  have hx : ∃ L : List Int, L.length = n ∧ Blk K (fun i => L.getD i 0) 0 n := ⟨L, hl, h⟩
  unfold foL
  rw [dif_pos hx]
  have hc := Classical.choose_spec hx
  apply List.ext_getElem
  · rw [hc.1, hl]
  · intro i h1 h2
    have := hc.2.unique h i (by omega)
    rw [List.getD_eq_getElem?_getD, List.getD_eq_getElem?_getD, List.getElem?_eq_getElem h1, List.getElem?_eq_getElem h2] at this
    simpa using this
end Go.Proofs.Ytenjcdhehjdeoaa.Sym
