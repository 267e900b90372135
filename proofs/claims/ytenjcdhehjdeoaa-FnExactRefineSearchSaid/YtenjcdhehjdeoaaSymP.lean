/- Orders by a number, equal ones by their own value: strictly ascending runs, their merging, rotations. Plain words; nothing here speaks of the program. -/
import Derived.Test.YtenjcdhehjdeoaaPlain
namespace Go.Proofs.Ytenjcdhehjdeoaa.Sym
set_option linter.unusedVariables false
set_option linter.unusedSimpArgs false

/-- before another one: by the number, then by itself -/
def ltK (K : Int → Int) (x y : Int) : Prop := K x < K y ∨ (K x = K y ∧ x < y)
section
variable {K : Int → Int}
theorem ltK_trans {x y z : Int} (h1 : ltK K x y) (h2 : ltK K y z) : ltK K x z := by unfold ltK at *; omega
theorem ltK_irrefl {x : Int} : ¬ ltK K x x := by unfold ltK; omega
theorem ltK_total {x y : Int} (h : x ≠ y) : ltK K x y ∨ ltK K y x := by unfold ltK; omega
theorem ltK_asymm {x y : Int} (h : ltK K x y) : ¬ ltK K y x := by unfold ltK at *; omega
/-- of two in ascending order the second is before the first just where its number is less -/
theorem ltK_up {x y : Int} (h : x < y) : ltK K y x ↔ K y < K x := by unfold ltK; omega
theorem ltK_not {x y : Int} (h : x < y) (h2 : ¬ K y < K x) : ltK K x y := by unfold ltK; omega
end

def Asc (K : Int → Int) (D : Nat → Int) (a b : Nat) : Prop := ∀ i j, a ≤ i → i < j → j < b → ltK K (D i) (D j)
/-- the same elements from a to b, in another order; the others as they were -/
def Same (D D' : Nat → Int) (a b : Nat) : Prop := (∀ i, i < a ∨ b ≤ i → D' i = D i) ∧ (∀ i, a ≤ i → i < b → ∃ j, a ≤ j ∧ j < b ∧ D' i = D j) ∧ (∀ i, a ≤ i → i < b → ∃ j, a ≤ j ∧ j < b ∧ D i = D' j)
/-- every one of the first run is less, by itself, than every one of the second -/
def Low (D : Nat → Int) (a m b : Nat) : Prop := ∀ i j, a ≤ i → i < m → m ≤ j → j < b → D i < D j
section
variable {K : Int → Int} {D D' D'' : Nat → Int} {a b m n : Nat}
theorem Same.refl (D : Nat → Int) (a b : Nat) : Same D D a b := ⟨fun _ _ => rfl, fun i h1 h2 => ⟨i, h1, h2, rfl⟩, fun i h1 h2 => ⟨i, h1, h2, rfl⟩⟩
theorem Same.trans (h1 : Same D D' a b) (h2 : Same D' D'' a b) : Same D D'' a b := by
  refine ⟨fun i hi => (h2.1 i hi).trans (h1.1 i hi), fun i ha hb => ?_, fun i ha hb => ?_⟩
  · obtain ⟨j, j1, j2, e⟩ := h2.2.1 i ha hb
    obtain ⟨q, q1, q2, e2⟩ := h1.2.1 j j1 j2
    exact ⟨q, q1, q2, e.trans e2⟩
  · obtain ⟨j, j1, j2, e⟩ := h1.2.2 i ha hb
    obtain ⟨q, q1, q2, e2⟩ := h2.2.2 j j1 j2
    exact ⟨q, q1, q2, e.trans e2⟩
theorem Same.wide {a' b' : Nat} (h : Same D D' a b) (ha : a' ≤ a) (hb : b ≤ b') : Same D D' a' b' := by
  refine ⟨fun i hi => h.1 i (by omega), fun i h1 h2 => ?_, fun i h1 h2 => ?_⟩
  · by_cases hi : a ≤ i ∧ i < b
    · obtain ⟨j, j1, j2, e⟩ := h.2.1 i hi.1 hi.2
      exact ⟨j, by omega, by omega, e⟩
    · exact ⟨i, h1, h2, h.1 i (by omega)⟩
  · by_cases hi : a ≤ i ∧ i < b
    · obtain ⟨j, j1, j2, e⟩ := h.2.2 i hi.1 hi.2
      exact ⟨j, by omega, by omega, e⟩
    · exact ⟨i, h1, h2, (h.1 i (by omega)).symm⟩
theorem Asc.of_eq (h : Asc K D a b) (e : ∀ i, a ≤ i → i < b → D' i = D i) : Asc K D' a b := fun i j h1 h2 h3 => by
  rw [e i h1 (by omega), e j (by omega) h3]; exact h i j h1 h2 h3
theorem Asc.narrow {a' b' : Nat} (h : Asc K D a b) (ha : a ≤ a') (hb : b' ≤ b) : Asc K D a' b' := fun i j h1 h2 h3 => h i j (by omega) h2 (by omega)
theorem Asc.small (h : b ≤ a + 1) : Asc K D a b := fun i j h1 h2 h3 => by omega
/-- two runs in a row, the last of the first before the first of the second -/
theorem Asc.append (h1 : Asc K D a m) (h2 : Asc K D m b) (h : ∀ i j, a ≤ i → i < m → m ≤ j → j < b → ltK K (D i) (D j)) : Asc K D a b := fun i j hi hij hj => by
  by_cases c1 : j < m
  · exact h1 i j hi hij c1
  · by_cases c2 : i < m
    · exact h i j hi c2 (by omega) hj
    · exact h2 i j (by omega) hij hj
theorem Low.narrow {a' m' b' : Nat} (h : Low D a m b) (ha : a ≤ a') (hm : m' = m) (hb : b' ≤ b) : Low D a' m' b' := by
  subst hm
  exact fun i j h1 h2 h3 h4 => h i j (by omega) h2 h3 (by omega)
end
/-- what two places hold, exchanged -/
def sw (D : Nat → Int) (i j : Nat) : Nat → Int := fun q => if q = i then D j else if q = j then D i else D q
theorem sw_same {D : Nat → Int} {i j a b : Nat} (hi : a ≤ i ∧ i < b) (hj : a ≤ j ∧ j < b) : Same D (sw D i j) a b := by
  refine ⟨fun q hq => ?_, fun q h1 h2 => ?_, fun q h1 h2 => ?_⟩
  · unfold sw; rw [if_neg (by omega), if_neg (by omega)]
  · unfold sw
    split
    · exact ⟨j, hj.1, hj.2, rfl⟩
    · split
      · exact ⟨i, hi.1, hi.2, rfl⟩
      · exact ⟨q, h1, h2, rfl⟩
  · by_cases e1 : q = i
    · subst e1
      by_cases e2 : q = j
      · subst e2
        exact ⟨q, hi.1, hi.2, by unfold sw; rw [if_pos rfl]⟩
      · exact ⟨j, hj.1, hj.2, by unfold sw; rw [if_neg (fun h => e2 h.symm), if_pos rfl]⟩
    · by_cases e2 : q = j
      · subst e2
        exact ⟨i, hi.1, hi.2, by unfold sw; rw [if_pos rfl]⟩
      · exact ⟨q, h1, h2, by unfold sw; rw [if_neg e1, if_neg e2]⟩

/-- k cells from i exchanged with k cells from j -/
def swR (D : Nat → Int) (i j k : Nat) : Nat → Int := fun q => if i ≤ q ∧ q < i + k then D (q - i + j) else if j ≤ q ∧ q < j + k then D (q - j + i) else D q
theorem swR_zero {D : Nat → Int} {i j : Nat} : swR D i j 0 = D := by
  funext q; unfold swR; rw [if_neg (by omega), if_neg (by omega)]
theorem swR_succ {D : Nat → Int} {i j k : Nat} (h : i + k < j ∨ j + k < i) : sw (swR D i j k) (i + k) (j + k) = swR D i j (k + 1) := by
  funext q
  unfold sw swR
  by_cases e1 : q = i + k
  · subst e1
    rw [if_pos rfl, if_neg (by omega), if_neg (by omega), if_pos (by omega)]
    congr 1; omega
  · rw [if_neg e1]
    by_cases e2 : q = j + k
    · subst e2
      rw [if_pos rfl, if_neg (by omega), if_neg (by omega), if_neg (by omega), if_pos (by omega)]
      congr 1; omega
    · rw [if_neg e2]
      by_cases c1 : i ≤ q ∧ q < i + k
      · rw [if_pos c1, if_pos (by omega)]
      · rw [if_neg c1]
        by_cases c2 : j ≤ q ∧ q < j + k
        · rw [if_pos c2, if_neg (by omega), if_pos (by omega)]
        · rw [if_neg c2, if_neg (by omega), if_neg (by omega)]
/-- the runs from a to m and from m to b exchanged -/
def rot (D : Nat → Int) (a m b : Nat) : Nat → Int := fun q => if q < a ∨ b ≤ q then D q else if q < a + (b - m) then D (q + (m - a)) else D (q - (b - m))
theorem rot_left {D : Nat → Int} {m i j : Nat} (hi : i ≤ m) (hij : j < i) : rot (swR D (m - i) m j) (m - (i - j)) m (m + j) = rot D (m - i) m (m + j) := by
  funext q
  unfold rot swR
  by_cases c0 : q < m - i ∨ m + j ≤ q
  · rw [if_pos (by omega), if_neg (by omega), if_neg (by omega), if_pos c0]
  · rw [if_neg c0]
    by_cases c1 : q < m - i + (m + j - m)
    · rw [if_pos c1, if_pos (by omega), if_pos (by omega)]
      congr 1; omega
    · rw [if_neg c1, if_neg (by omega)]
      by_cases c2 : q < m - (i - j) + (m + j - m)
      · rw [if_pos c2]
        by_cases c3 : q + (m - (m - (i - j))) < m
        · omega
        · rw [if_neg (by omega), if_pos (by omega)]
          congr 1; omega
      · rw [if_neg c2]
        rw [if_neg (by omega), if_neg (by omega)]
theorem rot_right {D : Nat → Int} {m i j : Nat} (hi : i ≤ m) (hij : i < j) (h0 : 0 < i) : rot (swR D (m - i) (m + j - i) i) (m - i) m (m + (j - i)) = rot D (m - i) m (m + j) := by
  funext q
  unfold rot swR
  by_cases c0 : q < m - i ∨ m + j ≤ q
  · rw [if_pos (by omega), if_neg (by omega), if_neg (by omega), if_pos c0]
  · rw [if_neg c0]
    by_cases c1 : m + (j - i) ≤ q
    · rw [if_pos (by omega), if_neg (by omega), if_pos (by omega), if_neg (by omega)]
      congr 1; omega
    · rw [if_neg (by omega)]
      by_cases c2 : q < m - i + (m + (j - i) - m)
      · rw [if_pos c2, if_neg (by omega), if_neg (by omega), if_pos (by omega)]
      · rw [if_neg c2]
        rw [if_pos (by omega), if_pos (by omega)]
        congr 1; omega
theorem rot_even {D : Nat → Int} {m i : Nat} (hi : i ≤ m) : swR D (m - i) m i = rot D (m - i) m (m + i) := by
  funext q
  unfold rot swR
  by_cases c0 : q < m - i ∨ m + i ≤ q
  · rw [if_pos c0, if_neg (by omega), if_neg (by omega)]
  · rw [if_neg c0]
    by_cases c1 : q < m - i + (m + i - m)
    · rw [if_pos c1, if_pos (by omega)]
      congr 1; omega
    · rw [if_neg c1, if_neg (by omega), if_pos (by omega)]
      congr 1; omega
theorem rot_same {D : Nat → Int} {a m b : Nat} (h1 : a ≤ m) (h2 : m ≤ b) : Same D (rot D a m b) a b := by
  refine ⟨fun q hq => ?_, fun q ha hb => ?_, fun q ha hb => ?_⟩
  · unfold rot; rw [if_pos hq]
  · unfold rot
    rw [if_neg (by omega)]
    by_cases c : q < a + (b - m)
    · rw [if_pos c]; exact ⟨_, by omega, by omega, rfl⟩
    · rw [if_neg c]; exact ⟨_, by omega, by omega, rfl⟩
  · by_cases c : q < m
    · refine ⟨q + (b - m), by omega, by omega, ?_⟩
      unfold rot
      rw [if_neg (by omega), if_neg (by omega)]
      congr 1; omega
    · refine ⟨q - (m - a), by omega, by omega, ?_⟩
      unfold rot
      rw [if_neg (by omega), if_pos (by omega)]
      congr 1; omega

/-- A block of the numbers p to e - 1, ascending. -/
def Blk (K : Int → Int) (D : Nat → Int) (p e : Nat) : Prop := Asc K D p e ∧ (∀ i, p ≤ i → i < e → (p : Int) ≤ D i ∧ D i < e) ∧ (∀ x : Nat, p ≤ x → x < e → ∃ i, p ≤ i ∧ i < e ∧ D i = x)
section
variable {K : Int → Int} {D D' : Nat → Int} {a b m n : Nat}
theorem Blk.of_eq (h : Blk K D a b) (e : ∀ i, a ≤ i → i < b → D' i = D i) : Blk K D' a b := by
  refine ⟨h.1.of_eq e, fun i h1 h2 => by rw [e i h1 h2]; exact h.2.1 i h1 h2, fun x h1 h2 => ?_⟩
  obtain ⟨i, i1, i2, i3⟩ := h.2.2 x h1 h2
  exact ⟨i, i1, i2, by rw [e i i1 i2]; exact i3⟩
theorem Blk.low (h1 : Blk K D a m) (h2 : Blk K D m b) : Low D a m b := fun i j i1 i2 i3 i4 => by
  have := h1.2.1 i i1 i2
  have := h2.2.1 j i3 i4
  omega
theorem Blk.merged (h1 : Blk K D a m) (h2 : Blk K D m b) (am : a ≤ m) (mb : m ≤ b) (hs : Same D D' a b) (ha : Asc K D' a b) : Blk K D' a b := by
  refine ⟨ha, fun i i1 i2 => ?_, fun x x1 x2 => ?_⟩
  · obtain ⟨j, j1, j2, e⟩ := hs.2.1 i i1 i2
    rw [e]
    by_cases c : j < m
    · have := h1.2.1 j j1 c; omega
    · have := h2.2.1 j (by omega) j2; omega
  · have : ∃ i, a ≤ i ∧ i < b ∧ D i = x := by
      by_cases c : x < m
      · obtain ⟨i, i1, i2, i3⟩ := h1.2.2 x x1 c
        exact ⟨i, i1, by omega, i3⟩
      · obtain ⟨i, i1, i2, i3⟩ := h2.2.2 x (by omega) x2
        exact ⟨i, by omega, i2, i3⟩
    obtain ⟨i, i1, i2, i3⟩ := this
    obtain ⟨j, j1, j2, e⟩ := hs.2.2 i i1 i2
    exact ⟨j, j1, j2, by rw [← e]; exact i3⟩
theorem Blk.sorted (h1 : ∀ i, a ≤ i → i < b → D i = i) (hs : Same D D' a b) (ha : Asc K D' a b) : Blk K D' a b := by
  refine ⟨ha, fun i i1 i2 => ?_, fun x x1 x2 => ?_⟩
  · obtain ⟨j, j1, j2, e⟩ := hs.2.1 i i1 i2
    rw [e, h1 j j1 j2]
    omega
  · obtain ⟨j, j1, j2, e⟩ := hs.2.2 x x1 x2
    exact ⟨j, j1, j2, by rw [← e]; exact h1 x x1 x2⟩
theorem Blk.unique (h : Blk K D 0 n) (h' : Blk K D' 0 n) : ∀ i, i < n → D i = D' i := by
  intro i
  induction i using Nat.strongRecOn with
  | _ i ih =>
    intro hi
    have key : ∀ {E E' : Nat → Int}, Blk K E 0 n → Blk K E' 0 n → (∀ j, j < i → E j = E' j) → ¬ ltK K (E i) (E' i) := by
      intro E E' hE hE' hag hlt
      obtain ⟨x1, x2⟩ := hE.2.1 i (by omega) hi
      obtain ⟨j, j1, j2, e⟩ := hE'.2.2 (E i).toNat (by omega) (by omega)
      rw [show (((E i).toNat : Nat) : Int) = E i by omega] at e
      rcases Nat.lt_trichotomy j i with c | c | c
      · have h1 := hE.1 j i (by omega) c hi
        rw [hag j c, e] at h1
        exact ltK_irrefl h1
      · subst c; rw [e] at hlt; exact ltK_irrefl hlt
      · have h1 := hE'.1 i j (by omega) c j2
        rw [e] at h1
        exact ltK_asymm hlt h1
    by_cases e : D i = D' i
    · exact e
    · rcases ltK_total (K := K) e with c | c
      · exact absurd c (key h h' (fun j hj => ih j hj (by omega)))
      · exact absurd c (key h' h (fun j hj => (ih j hj (by omega)).symm))
end
/-- The merge's halves: behind the rotation every one on the left is before every one on the right. -/
theorem sym_halves {K : Int → Int} {D : Nat → Int} {a m b mid s e : Nat} (hl : Asc K D a m) (hr : Asc K D m b) (as : a ≤ s) (sm : s ≤ m) (me : m ≤ e) (eb : e ≤ b) (hmid : s + (e - m) = mid)
    (h1 : s = a ∨ e = b ∨ ltK K (D (s - 1)) (D e)) (h2 : s = m ∨ e = m ∨ ltK K (D (e - 1)) (D s)) :
    (∀ i j, a ≤ i → i < mid → mid ≤ j → j < b → ltK K (rot D s m e i) (rot D s m e j)) ∧ Asc K (rot D s m e) a s ∧ Asc K (rot D s m e) s mid ∧ Asc K (rot D s m e) mid e ∧ Asc K (rot D s m e) e b := by
  have r1 : ∀ q, q < s → rot D s m e q = D q := fun q hq => by unfold rot; rw [if_pos (by omega)]
  have r2 : ∀ q, s ≤ q → q < mid → rot D s m e q = D (q + (m - s)) := fun q h h' => by unfold rot; rw [if_neg (by omega), if_pos (by omega)]
  have r3 : ∀ q, mid ≤ q → q < e → rot D s m e q = D (q - (e - m)) := fun q h h' => by unfold rot; rw [if_neg (by omega), if_neg (by omega)]
  have r4 : ∀ q, e ≤ q → rot D s m e q = D q := fun q h => by unfold rot; rw [if_pos (by omega)]
  -- every one of the first part of the left run before every one of the second part of the right run
  have A : ∀ i j, a ≤ i → i < s → e ≤ j → j < b → ltK K (D i) (D j) := fun i j i1 i2 j1 j2 => by
    rcases h1 with h | h | h
    · omega
    · omega
    · have x : ltK K (D i) (D (s - 1)) ∨ i = s - 1 := by
        by_cases c : i = s - 1
        · exact .inr c
        · exact .inl (hl i (s - 1) i1 (by omega) (by omega))
      have y : ltK K (D e) (D j) ∨ j = e := by
        by_cases c : j = e
        · exact .inr c
        · exact .inl (hr e j (by omega) (by omega) j2)
      rcases x with x | rfl
      · rcases y with y | rfl
        · exact ltK_trans x (ltK_trans h y)
        · exact ltK_trans x h
      · rcases y with y | rfl
        · exact ltK_trans h y
        · exact h
  have B : ∀ i j, m ≤ i → i < e → s ≤ j → j < m → ltK K (D i) (D j) := fun i j i1 i2 j1 j2 => by
    rcases h2 with h | h | h
    · omega
    · omega
    · have x : ltK K (D i) (D (e - 1)) ∨ i = e - 1 := by
        by_cases c : i = e - 1
        · exact .inr c
        · exact .inl (hr i (e - 1) i1 (by omega) (by omega))
      have y : ltK K (D s) (D j) ∨ j = s := by
        by_cases c : j = s
        · exact .inr c
        · exact .inl (hl s j (by omega) (by omega) j2)
      rcases x with x | rfl
      · rcases y with y | rfl
        · exact ltK_trans x (ltK_trans h y)
        · exact ltK_trans x h
      · rcases y with y | rfl
        · exact ltK_trans h y
        · exact h
  refine ⟨fun i j i1 i2 j1 j2 => ?_, fun i j i1 i2 i3 => ?_, fun i j i1 i2 i3 => ?_, fun i j i1 i2 i3 => ?_, fun i j i1 i2 i3 => ?_⟩
  · by_cases c1 : i < s
    · rw [r1 i c1]
      by_cases c2 : j < e
      · rw [r3 j j1 c2]; exact hl _ _ i1 (by omega) (by omega)
      · rw [r4 j (by omega)]; exact A i j i1 c1 (by omega) j2
    · rw [r2 i (by omega) i2]
      by_cases c2 : j < e
      · rw [r3 j j1 c2]; exact B _ _ (by omega) (by omega) (by omega) (by omega)
      · rw [r4 j (by omega)]; exact hr _ _ (by omega) (by omega) j2
  · rw [r1 i (by omega), r1 j i3]; exact hl i j i1 i2 (by omega)
  · rw [r2 i i1 (by omega), r2 j (by omega) i3]; exact hr _ _ (by omega) (by omega) (by omega)
  · rw [r3 i i1 (by omega), r3 j (by omega) i3]; exact hl _ _ (by omega) (by omega) (by omega)
  · rw [r4 i i1, r4 j (by omega)]; exact hr i j (by omega) i2 i3
theorem rot_low {D : Nat → Int} {a m b mid s e : Nat} (h : Low D a m b) (as : a ≤ s) (sm : s ≤ m) (me : m ≤ e) (eb : e ≤ b) (hmid : s + (e - m) = mid) : Low (rot D s m e) a s mid ∧ Low (rot D s m e) mid e b := by
  constructor
  · intro i j i1 i2 j1 j2
    have e1 : rot D s m e i = D i := by unfold rot; rw [if_pos (by omega)]
    have e2 : rot D s m e j = D (j + (m - s)) := by unfold rot; rw [if_neg (by omega), if_pos (by omega)]
    rw [e1, e2]
    exact h _ _ i1 (by omega) (by omega) (by omega)
  · intro i j i1 i2 j1 j2
    have e1 : rot D s m e i = D (i - (e - m)) := by unfold rot; rw [if_neg (by omega), if_neg (by omega)]
    have e2 : rot D s m e j = D j := by unfold rot; rw [if_pos (by omega)]
    rw [e1, e2]
    exact h _ _ (by omega) (by omega) (by omega) j2
theorem halves_done {K : Int → Int} {D D1 D2 : Nat → Int} {a mid b : Nat} (am : a ≤ mid) (mb : mid ≤ b) (hh : ∀ i j, a ≤ i → i < mid → mid ≤ j → j < b → ltK K (D i) (D j))
    (s1 : Same D D1 a mid) (a1 : Asc K D1 a mid) (s2 : Same D1 D2 mid b) (a2 : Asc K D2 mid b) : Same D D2 a b ∧ Asc K D2 a b := by
  refine ⟨(s1.wide (Nat.le_refl _) mb).trans (s2.wide am (Nat.le_refl _)), ?_⟩
  refine Asc.append (a1.of_eq fun i i1 i2 => s2.1 i (by omega)) a2 fun i j i1 i2 j1 j2 => ?_
  rw [s2.1 i (by omega)]
  obtain ⟨p, p1, p2, e1⟩ := s1.2.1 i i1 i2
  obtain ⟨q, q1, q2, e2⟩ := s2.2.1 j j1 j2
  rw [e1, e2, s1.1 q (by omega)]
  exact hh p q p1 p2 q1 q2
end Go.Proofs.Ytenjcdhehjdeoaa.Sym
