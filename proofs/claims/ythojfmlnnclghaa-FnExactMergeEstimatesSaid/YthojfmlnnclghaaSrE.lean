/- Sorted estimates: their order, the place of one more, two lists made one. Plain: no program here. -/
import Derived.Test.YthojfmlnnclghaaOkE
import Derived.Test.YthojfmlnnclghaaChoE
import Derived.Sort.Walk0
import Derived.Laws.Cover1
namespace Go.Proofs.Ythojfmlnnclghaa.SrE
set_option linter.unusedVariables false
set_option linter.unusedSimpArgs false
open Go.Sort Plain Num View Est Name Es1 Cmp OkE ChoE

/-- the same time, star and observer -/
def keq (x y : E5) : Bool := decide (x.t = y.t) && (decide (x.s = y.s) && decide (x.o = y.o))
theorem keq_iff {x y : E5} : keq x y = true ↔ x.t = y.t ∧ x.s = y.s ∧ x.o = y.o := by simp [keq]
theorem sLt_iff (a b : ByteArray) : sLt a b = true ↔ a.data.toList < b.data.toList := by
  rw [sLt, ByteArray.toList_eq, ByteArray.toList_eq, bytesLess_eq]
  simp
theorem lt_of_ne {a b : List UInt8} (h : a ≤ b) (hn : a ≠ b) : a < b := by
  rcases Decidable.em (a < b) with h1 | h1
  · exact h1
  · exact absurd (List.le_antisymm h (List.not_lt.1 h1)) hn
/-- what is kept of the first m of an ordered row: ordered strictly, the same members, the last of them its end -/
theorem ba_tri (a b : ByteArray) : a.data.toList < b.data.toList ∨ a = b ∨ b.data.toList < a.data.toList := by
  by_cases h1 : a.data.toList < b.data.toList
  · exact .inl h1
  · by_cases h2 : a.data.toList = b.data.toList
    · exact .inr (.inl (ByteArray.ext (Array.toList_inj.1 h2)))
    · exact .inr (.inr (lt_of_ne (List.not_lt.1 h1) (fun e => h2 e.symm)))
theorem bef_iff {x y : E5} : befE x y = true ↔ x.t < y.t ∨ (x.t = y.t ∧ (x.s.data.toList < y.s.data.toList ∨ (x.s = y.s ∧ x.o.data.toList < y.o.data.toList))) := by
  unfold befE
  by_cases h1 : x.t = y.t
  · rw [if_pos h1]
    by_cases h2 : x.s = y.s
    · rw [if_pos h2, sLt_iff]
      constructor
      · exact fun h => .inr ⟨h1, .inr ⟨h2, h⟩⟩
      · rintro (h | ⟨_, h | ⟨_, h⟩⟩)
        · omega
        · rw [h2] at h; exact absurd h (List.lt_irrefl _)
        · exact h
    · rw [if_neg h2, sLt_iff]
      constructor
      · exact fun h => .inr ⟨h1, .inl h⟩
      · rintro (h | ⟨_, h | ⟨h, _⟩⟩)
        · omega
        · exact h
        · exact absurd h h2
  · rw [if_neg h1, decide_eq_true_eq]
    constructor
    · exact .inl
    · rintro (h | ⟨h, _⟩)
      · exact h
      · exact absurd h h1
theorem bef_trans {x y z : E5} (h1 : befE x y = true) (h2 : befE y z = true) : befE x z = true := by
  rw [bef_iff] at *
  rcases h1 with a | ⟨a, b | ⟨b, c⟩⟩ <;> rcases h2 with d | ⟨d, e | ⟨e, f⟩⟩
  · exact .inl (by omega)
  · exact .inl (by omega)
  · exact .inl (by omega)
  · exact .inl (by omega)
  · exact .inr ⟨by omega, .inl (List.lt_trans b e)⟩
  · exact .inr ⟨by omega, .inl (by rw [← e]; exact b)⟩
  · exact .inl (by omega)
  · exact .inr ⟨by omega, .inl (by rw [b]; exact e)⟩
  · exact .inr ⟨by omega, .inr ⟨b.trans e, List.lt_trans c f⟩⟩
theorem bef_irrefl (x : E5) : befE x x = false := by
  rw [Bool.eq_false_iff]
  intro h
  rw [bef_iff] at h
  rcases h with a | ⟨_, b | ⟨_, c⟩⟩
  · omega
  · exact List.lt_irrefl _ b
  · exact List.lt_irrefl _ c
theorem bef_asymm {x y : E5} (h : befE x y = true) : befE y x = false := by
  rw [Bool.eq_false_iff]
  intro h2
  have := bef_trans h h2
  rw [bef_irrefl] at this
  cases this
theorem bef_tri (x y : E5) : befE x y = true ∨ keq x y = true ∨ befE y x = true := by
  rw [bef_iff, bef_iff, keq_iff]
  rcases Int.lt_trichotomy x.t y.t with h | h | h
  · exact .inl (.inl h)
  · rcases ba_tri x.s y.s with a | a | a
    · exact .inl (.inr ⟨h, .inl a⟩)
    · rcases ba_tri x.o y.o with b | b | b
      · exact .inl (.inr ⟨h, .inr ⟨a, b⟩⟩)
      · exact .inr (.inl ⟨h, a, b⟩)
      · exact .inr (.inr (.inr ⟨h.symm, .inr ⟨a.symm, b⟩⟩))
    · exact .inr (.inr (.inr ⟨h.symm, .inl a⟩))
  · exact .inr (.inr (.inl h))
theorem keq_l {x y : E5} (z : E5) (h : keq x y = true) : befE x z = befE y z := by
  obtain ⟨a, b, c⟩ := keq_iff.1 h
  unfold befE
  rw [a, b, c]
theorem keq_r {x y : E5} (z : E5) (h : keq x y = true) : befE z x = befE z y := by
  obtain ⟨a, b, c⟩ := keq_iff.1 h
  unfold befE
  rw [a, b, c]
theorem keq_symm {x y : E5} (h : keq x y = true) : keq y x = true := by
  obtain ⟨a, b, c⟩ := keq_iff.1 h
  exact keq_iff.2 ⟨a.symm, b.symm, c.symm⟩
theorem keq_trans {x y z : E5} (h : keq x y = true) (h2 : keq y z = true) : keq x z = true := by
  obtain ⟨a, b, c⟩ := keq_iff.1 h
  obtain ⟨d, e, f⟩ := keq_iff.1 h2
  exact keq_iff.2 ⟨a.trans d, b.trans e, c.trans f⟩
theorem keq_nobef {x y : E5} (h : keq x y = true) : befE x y = false := by rw [keq_l y h, bef_irrefl]
theorem cmpE_zero (x y : E5) : (cmpE x y == 0) = keq x y := by
  rw [Bool.eq_iff_iff, beq_iff_eq, keq_iff]
  unfold cmpE orI cmpI
  by_cases h1 : x.t < y.t
  · have : ¬ x.t = y.t := by omega
    simp [h1, this]
  · by_cases h2 : y.t < x.t
    · have : ¬ x.t = y.t := by omega
      simp [h1, h2, this]
    · have h3 : x.t = y.t := by omega
      rw [if_neg h1, if_neg h2, if_pos rfl]
      by_cases h4 : x.s = y.s
      · rw [if_pos ((cbE_eq _ _).2 h4), cbE_eq]
        exact ⟨fun h => ⟨h3, h4, h⟩, fun h => h.2.2⟩
      · rw [if_neg (fun h => h4 ((cbE_eq _ _).1 h)), cbE_eq]
        exact ⟨fun h => absurd h h4, fun h => absurd h.2.1 h4⟩
/-- strictly in order -/
def Srt (n : Nat) (E : Nat → E5) : Prop := ∀ i j, i < j → j < n → befE (E i) (E j) = true
theorem okE_srt {n : Nat} {E : Nat → E5} (h : okE n E = true) : Srt n E := by
  intro i j
  induction j with
  | zero => intro h1 _; omega
  | succ j ih =>
    intro h1 h2
    have h3 := (okE_at h (j + 1) h2).2 (by omega)
    rw [Nat.add_sub_cancel] at h3
    by_cases e : i = j
    · rw [e]; exact h3
    · exact bef_trans (ih (by omega) (by omega)) h3
/-- how many stand ahead of e -/
def lbE (E : Nat → E5) (e : E5) : Nat → Nat
  | 0 => 0
  | n + 1 => if befE (E n) e = true then n + 1 else lbE E e n
theorem lbE_spec {n : Nat} {E : Nat → E5} (e : E5) (h : Srt n E) : lbE E e n ≤ n ∧ (∀ i, i < lbE E e n → befE (E i) e = true) ∧ ∀ i, lbE E e n ≤ i → i < n → befE (E i) e = false := by
  induction n with
  | zero => exact ⟨Nat.le_refl _, fun i hi => by simp [lbE] at hi, fun i _ hi => by omega⟩
  | succ n ih =>
    rw [lbE]
    by_cases hb : befE (E n) e = true
    · rw [if_pos hb]
      refine ⟨Nat.le_refl _, fun i hi => ?_, fun i h1 h2 => by omega⟩
      by_cases e1 : i = n
      · rw [e1]; exact hb
      · exact bef_trans (h i n (by omega) (by omega)) hb
    · rw [if_neg hb]
      obtain ⟨a, b, c⟩ := ih (fun i j h1 h2 => h i j h1 (by omega))
      refine ⟨by omega, b, fun i h1 h2 => ?_⟩
      by_cases e1 : i = n
      · rw [e1]; simpa using hb
      · exact c i h1 (by omega)
/-- is there one with e's time, star and observer -/
def fdE (n : Nat) (E : Nat → E5) (e : E5) : Bool := decide (lbE E e n < n) && keq (E (lbE E e n)) e
theorem fd_yes {n : Nat} {E : Nat → E5} {e : E5} (h : fdE n E e = true) : lbE E e n < n ∧ keq (E (lbE E e n)) e = true := by
  simpa [fdE] using h
theorem fd_no {n : Nat} {E : Nat → E5} {e : E5} (hs : Srt n E) (h : fdE n E e = false) : ∀ i, lbE E e n ≤ i → i < n → befE e (E i) = true := by
  intro i h1 h2
  have h3 : keq (E (lbE E e n)) e = false := by
    unfold fdE at h
    have : decide (lbE E e n < n) = true := by simp; omega
    rw [this] at h
    simpa using h
  have h4 : befE e (E (lbE E e n)) = true := by
    rcases bef_tri (E (lbE E e n)) e with a | a | a
    · rw [(lbE_spec e hs).2.2 _ (Nat.le_refl _) (by omega)] at a; cases a
    · rw [h3] at a; cases a
    · exact a
  by_cases e1 : i = lbE E e n
  · rw [e1]; exact h4
  · exact bef_trans h4 (hs _ i (by omega) h2)
theorem fd_iff {n : Nat} {E : Nat → E5} {e : E5} (hs : Srt n E) : fdE n E e = true ↔ ∃ i, i < n ∧ keq (E i) e = true := by
  constructor
  · intro h
    exact ⟨_, fd_yes h⟩
  · rintro ⟨i, hi, hk⟩
    rw [← Bool.not_eq_false]
    intro h
    obtain ⟨h1, h2, h3⟩ := lbE_spec e hs
    rcases Nat.lt_or_ge i (lbE E e n) with c | c
    · have := h2 i c
      rw [keq_nobef hk] at this; cases this
    · have := fd_no hs h i c hi
      rw [keq_nobef (keq_symm hk)] at this; cases this
theorem keq_uniq {n : Nat} {E : Nat → E5} {e : E5} (hs : Srt n E) {i j : Nat} (hi : i < n) (hj : j < n) (h1 : keq (E i) e = true) (h2 : keq (E j) e = true) : i = j := by
  have hk := keq_trans h1 (keq_symm h2)
  rcases Nat.lt_trichotomy i j with c | c | c
  · have := hs i j c hj
    rw [keq_nobef hk] at this; cases this
  · exact c
  · have := hs j i c hi
    rw [keq_nobef (keq_symm hk)] at this; cases this
/-- neither ahead of the other: the one that is looked for -/
theorem find_at {n : Nat} {E : Nat → E5} {e : E5} (hs : Srt n E) {i : Nat} (hi : i < n) : (!befE (E i) e && !befE e (E i)) = (fdE n E e && decide (i = lbE E e n)) := by
  rw [Bool.eq_iff_iff]
  constructor
  · intro h
    have h1 : befE (E i) e = false ∧ befE e (E i) = false := by simpa using h
    have hk : keq (E i) e = true := by
      rcases bef_tri (E i) e with a | a | a
      · rw [h1.1] at a; cases a
      · exact a
      · rw [h1.2] at a; cases a
    have hf := (fd_iff hs).2 ⟨i, hi, hk⟩
    obtain ⟨h3, h4⟩ := fd_yes hf
    rw [hf, keq_uniq hs hi h3 hk h4]
    simp
  · intro h
    have h1 : fdE n E e = true ∧ i = lbE E e n := by simpa using h
    have h2 := (fd_yes h1.1).2
    rw [← h1.2] at h2
    rw [keq_nobef h2, keq_nobef (keq_symm h2)]
    rfl
/-- a list with e at K -/
def insL (L : List E5) (K : Nat) (e : E5) : List E5 := L.take K ++ [e] ++ L.drop K
def lsE (n : Nat) (E : Nat → E5) : List E5 := (List.range n).map E
theorem lsE_len (n : Nat) (E : Nat → E5) : (lsE n E).length = n := by simp [lsE]
theorem lsE_at {n : Nat} {E : Nat → E5} {i : Nat} (hi : i < n) : leE (lsE n E) i = E i := by simp [leE, lsE, hi]
theorem lsE_mem {n : Nat} {E : Nat → E5} {x : E5} : x ∈ lsE n E ↔ ∃ i, i < n ∧ E i = x := by simp [lsE]
theorem insL_len {L : List E5} {K : Nat} {e : E5} (h : K ≤ L.length) : (insL L K e).length = L.length + 1 := by
  simp [insL]; omega
theorem insL_mem {L : List E5} {K : Nat} {e x : E5} : x ∈ insL L K e ↔ x = e ∨ x ∈ L := by
  have h : x ∈ L ↔ x ∈ L.take K ∨ x ∈ L.drop K := by
    rw [← List.mem_append, List.take_append_drop]
  rw [h]
  simp only [insL, List.mem_append, List.mem_singleton]
  constructor
  · rintro ((a | a) | a)
    · exact .inr (.inl a)
    · exact .inl a
    · exact .inr (.inr a)
  · rintro (a | a | a)
    · exact .inl (.inr a)
    · exact .inl (.inl a)
    · exact .inr a
theorem insL_lt {L : List E5} {K : Nat} {e : E5} (hK : K ≤ L.length) {i : Nat} (hi : i < K) : leE (insL L K e) i = leE L i := by
  simp only [leE, insL, List.getD_eq_getElem?_getD]
  rw [List.append_assoc, List.getElem?_append_left (by simp; omega), List.getElem?_take_of_lt hi]
theorem insL_eq {L : List E5} {K : Nat} {e : E5} (hK : K ≤ L.length) : leE (insL L K e) K = e := by
  simp only [leE, insL, List.getD_eq_getElem?_getD]
  rw [List.append_assoc, List.getElem?_append_right (by simp; omega)]
  have : K - (List.take K L).length = 0 := by simp; omega
  rw [this]
  simp
theorem insL_gt {L : List E5} {K : Nat} {e : E5} (hK : K ≤ L.length) {i : Nat} (hi : K < i) : leE (insL L K e) i = leE L (i - 1) := by
  simp only [leE, insL, List.getD_eq_getElem?_getD]
  rw [List.getElem?_append_right (by simp; omega), List.getElem?_drop]
  congr 2
  simp
  omega
theorem srt_ins {L : List E5} {e : E5} (hs : Srt L.length (leE L)) (hf : fdE L.length (leE L) e = false) : Srt (L.length + 1) (leE (insL L (lbE (leE L) e L.length) e)) := by
  obtain ⟨h1, h2, h3⟩ := lbE_spec e hs
  have h4 := fd_no hs hf
  generalize lbE (leE L) e L.length = K at *
  intro i j hij hj
  rcases Nat.lt_trichotomy i K with a | a | a
  · rw [insL_lt h1 a]
    rcases Nat.lt_trichotomy j K with b | b | b
    · rw [insL_lt h1 b]; exact hs i j hij (by omega)
    · subst b; rw [insL_eq h1]; exact h2 i a
    · rw [insL_gt h1 b]; exact hs i (j - 1) (by omega) (by omega)
  · subst a
    rw [insL_eq h1, insL_gt h1 (by omega)]
    exact h4 (j - 1) (by omega) (by omega)
  · rw [insL_gt h1 a, insL_gt h1 (by omega)]
    exact hs (i - 1) (j - 1) (by omega) (by omega)
theorem leE_mem {L : List E5} {x : E5} : x ∈ L ↔ ∃ i, i < L.length ∧ leE L i = x := by
  rw [List.mem_iff_getElem]
  constructor
  · rintro ⟨i, hi, h⟩
    exact ⟨i, hi, by simp [leE, hi, h]⟩
  · rintro ⟨i, hi, h⟩
    exact ⟨i, hi, by simpa [leE, hi] using h⟩
/-- the rest of two estimates with the same key -/
def sme (x y : E5) : Bool := decide (x.m = y.m) && (x.b == y.b)
/-- one more into a sorted list; nothing if it clashes -/
def stepM (e : E5) (L : List E5) : Option (List E5) :=
  if fdE L.length (leE L) e = true then (if sme (leE L (lbE (leE L) e L.length)) e = true then some L else none) else some (insL L (lbE (leE L) e L.length) e)
def mM (L0 : List E5) (F : Nat → E5) : Nat → Option (List E5)
  | 0 => some L0
  | i + 1 => (mM L0 F i).bind (stepM (F i))
theorem mM_none {L0 : List E5} {F : Nat → E5} {i n : Nat} (h : mM L0 F i = none) (hin : i ≤ n) : mM L0 F n = none := by
  induction n with
  | zero => have : i = 0 := by omega
            subst this; exact h
  | succ n ih =>
    by_cases e : i = n + 1
    · rw [← e]; exact h
    · rw [mM, ih (by omega)]; rfl
theorem mM_succ {L0 L : List E5} {F : Nat → E5} {i : Nat} (h : mM L0 F i = some L) : mM L0 F (i + 1) = stepM (F i) L := by rw [mM, h]; rfl
theorem step_same {e : E5} {L : List E5} (h : fdE L.length (leE L) e = true) (h2 : sme (leE L (lbE (leE L) e L.length)) e = true) : stepM e L = some L := by rw [stepM, if_pos h, if_pos h2]
theorem step_clash {e : E5} {L : List E5} (h : fdE L.length (leE L) e = true) (h2 : sme (leE L (lbE (leE L) e L.length)) e = false) : stepM e L = none := by rw [stepM, if_pos h, if_neg (by rw [h2]; simp)]
theorem step_new {e : E5} {L : List E5} (h : fdE L.length (leE L) e = false) : stepM e L = some (insL L (lbE (leE L) e L.length) e) := by rw [stepM, if_neg (by rw [h]; simp)]
theorem mM_inv {n0 n : Nat} {E F : Nat → E5} (h0 : Srt n0 E) {i : Nat} (hi : i ≤ n) {L : List E5} (h : mM (lsE n0 E) F i = some L) :
    Srt L.length (leE L) ∧ L.length ≤ n0 + i ∧ (∀ x, x ∈ lsE n0 E → x ∈ L) ∧ ∀ x, x ∈ L → x ∈ lsE n0 E ∨ ∃ j, j < i ∧ F j = x := by
  induction i generalizing L with
  | zero =>
    obtain rfl : lsE n0 E = L := Option.some.inj h
    refine ⟨fun i j h1 h2 => ?_, by rw [lsE_len]; omega, fun x hx => hx, fun x hx => .inl hx⟩
    rw [lsE_len] at h2
    rw [lsE_at (by omega), lsE_at h2]
    exact h0 i j h1 h2
  | succ i ih =>
    cases hm : mM (lsE n0 E) F i with
    | none => rw [mM, hm] at h; cases h
    | some L1 =>
      rw [mM_succ hm] at h
      obtain ⟨a, b, c, d⟩ := ih (by omega) hm
      cases hf : fdE L1.length (leE L1) (F i)
      · rw [step_new hf] at h
        obtain rfl := Option.some.inj h
        have hK := (lbE_spec (F i) a).1
        refine ⟨by rw [insL_len hK]; exact srt_ins a hf, by rw [insL_len hK]; omega, fun x hx => insL_mem.2 (.inr (c x hx)), fun x hx => ?_⟩
        rcases insL_mem.1 hx with e | e
        · exact .inr ⟨i, by omega, e.symm⟩
        · rcases d x e with g | ⟨j, hj, g⟩
          · exact .inl g
          · exact .inr ⟨j, by omega, g⟩
      · cases h2 : sme (leE L1 (lbE (leE L1) (F i) L1.length)) (F i)
        · rw [step_clash hf h2] at h; cases h
        · rw [step_same hf h2] at h
          obtain rfl := Option.some.inj h
          refine ⟨a, by omega, c, fun x hx => ?_⟩
          rcases d x hx with g | ⟨j, hj, g⟩
          · exact .inl g
          · exact .inr ⟨j, by omega, g⟩
/-- to look for the next one in the first list says the same -/
theorem mM_find {n0 n : Nat} {E F : Nat → E5} (h0 : Srt n0 E) (h1 : Srt n F) {i : Nat} (hi : i < n) {L : List E5} (h : mM (lsE n0 E) F i = some L) :
    fdE n0 E (F i) = fdE L.length (leE L) (F i) ∧ (fdE n0 E (F i) = true → E (lbE E (F i) n0) = leE L (lbE (leE L) (F i) L.length)) := by
  obtain ⟨a, b, c, d⟩ := mM_inv h0 (Nat.le_of_lt hi) h
  have key : fdE n0 E (F i) = true → fdE L.length (leE L) (F i) = true ∧ E (lbE E (F i) n0) = leE L (lbE (leE L) (F i) L.length) := by
    intro hf
    obtain ⟨h2, h3⟩ := fd_yes hf
    obtain ⟨j, hj, he⟩ := leE_mem.1 (c _ (lsE_mem.2 ⟨_, h2, rfl⟩))
    have hk : keq (leE L j) (F i) = true := by rw [he]; exact h3
    have hf2 := (fd_iff a).2 ⟨j, hj, hk⟩
    obtain ⟨h4, h5⟩ := fd_yes hf2
    refine ⟨hf2, ?_⟩
    rw [← he, keq_uniq a hj h4 hk h5]
  refine ⟨?_, fun hf => (key hf).2⟩
  rw [Bool.eq_iff_iff]
  refine ⟨fun hf => (key hf).1, fun hf => ?_⟩
  obtain ⟨h4, h5⟩ := fd_yes hf
  rcases d _ (leE_mem.2 ⟨_, h4, rfl⟩) with g | ⟨j, hj, g⟩
  · obtain ⟨q, hq, he⟩ := lsE_mem.1 g
    exact (fd_iff h0).2 ⟨q, hq, by rw [he]; exact h5⟩
  · have := h1 j i hj hi
    rw [g, keq_nobef h5] at this
    cases this
end Go.Proofs.Ythojfmlnnclghaa.SrE
