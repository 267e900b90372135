/- Plain facts on points sorted into bins: sums within bins, filled bins, fractions compared; nothing here speaks of the program. -/
import Derived.Test.YtenjcdhehjdeoaaList
import Derived.Test.YtenjcdhehjdeoaaMags
import Derived.Test.YtenjcdhehjdeoaaPairs
namespace Go.Proofs.Ytenjcdhehjdeoaa.DisB
set_option linter.unusedVariables false
set_option linter.unusedSimpArgs false
open Plain Frac View Mags Pairs

/-- the numbers of the points of bin k among the first n -/
def bl (n : Nat) (B M : Nat → Int) (k : Nat) : List Int := sel n (fun j => B j == (k : Int)) M
theorem bl_succ (n : Nat) (B M : Nat → Int) (k : Nat) : bl (n + 1) B M k = bl n B M k ++ (if B n = (k : Int) then [M n] else []) := by
  rw [bl, sel]
  by_cases h : B n = (k : Int) <;> simp [h, bl]
theorem bl_len (n : Nat) (B M : Nat → Int) (k : Nat) : (bl n B M k).length ≤ n := sel_len
theorem bl_bd {n : Nat} {B M : Nat → Int} {k : Nat} {lo hi : Int} (h : ∀ i, i < n → lo ≤ M i ∧ M i ≤ hi) (i : Nat) (hi' : i < (bl n B M k).length) : lo ≤ lf (bl n B M k) i ∧ lf (bl n B M k) i ≤ hi := by
  have hm : lf (bl n B M k) i ∈ bl n B M k := by simp [lf, hi']
  obtain ⟨j, hj, _, e⟩ := sel_mem hm
  rw [e]
  exact h j hj
theorem lf_append_left {L L' : List Int} {i : Nat} (h : i < L.length) : lf (L ++ L') i = lf L i := by
  simp [lf, List.getElem?_append_left h]
theorem lf_append_here (L : List Int) (x : Int) : lf (L ++ [x]) L.length = x := by simp [lf]
theorem sum_bl (n : Nat) (B M : Nat → Int) (k : Nat) (f : Int → Int) : sumB (bl n B M k).length (fun j => f (lf (bl n B M k) j)) = sumB n (fun j => if B j = (k : Int) then f (M j) else 0) := by
  induction n with
  | zero => rfl
  | succ n ih =>
    rw [sumB, ← ih, bl_succ]
    by_cases h : B n = (k : Int)
    · simp only [h, if_true, List.length_append, List.length_cons, List.length_nil, Nat.zero_add]
      rw [sumB, lf_append_here]
      congr 1
      exact sumB_congr fun i hi => by rw [lf_append_left hi]
    · simp only [h, if_false, List.append_nil]
      omega
theorem sum_pick {b : Nat} {v : Int} (h0 : 0 ≤ v) (h1 : v < b) (X : Nat → Int) : sumB b (fun k => if v = (k : Int) then X k else 0) = X v.toNat := by
  have hz : ∀ c : Nat, (c : Int) ≤ v → sumB c (fun k => if v = (k : Int) then X k else 0) = 0 := fun c => by
    induction c with
    | zero => intro _; rfl
    | succ c ih => intro hc; rw [sumB, ih (by omega), if_neg (by omega)]; rfl
  induction b with
  | zero => omega
  | succ b ih =>
    rw [sumB]
    by_cases h : v = (b : Int)
    · rw [hz b (by omega), if_pos h]
      have : v.toNat = b := by omega
      rw [this]; omega
    · rw [ih (by omega), if_neg h]; omega
theorem sqs_snoc (L : List Int) (x : Int) : sqs (L ++ [x]).length (lf (L ++ [x])) = sqs L.length (lf L) + sumB L.length (fun j => (x - lf L j) * (x - lf L j)) := by
  simp only [List.length_append, List.length_cons, List.length_nil, Nat.zero_add]
  rw [sqs, sumB]
  congr 1
  · exact sumB_congr fun i hi => sumB_congr fun j hj => by rw [sqAt, sqAt, lf_append_left hi, lf_append_left (by omega)]
  · exact sumB_congr fun j hj => by rw [sqAt, lf_append_here, lf_append_left hj]
/-- sums over all pairs in one bin -/
def inS (n : Nat) (B M : Nat → Int) : Int := sumB n (fun i => sumB i (fun j => if B i = B j then (M i - M j) * (M i - M j) else 0))
def inP (n : Nat) (B : Nat → Int) : Int := sumB n (fun i => sumB i (fun j => if B i = B j then 1 else 0))
def tri (l : Nat) : Int := (l : Int) * ((l : Int) - 1) / 2
theorem tri_succ (l : Nat) : tri (l + 1) = tri l + l := by
  unfold tri
  have e : ((l + 1 : Nat) : Int) * (((l + 1 : Nat) : Int) - 1) = (l : Int) * ((l : Int) - 1) + l * 2 := by push_cast; grind
  rw [e, Int.add_mul_ediv_right _ _ (by omega)]
theorem tri_bd {l : Nat} (h : l ≤ 100) : 0 ≤ tri l ∧ tri l ≤ 4950 := by
  have : ∀ q : Nat, 0 ≤ tri q ∧ 2 * tri q ≤ q * 99 + 0 ∨ 100 < q := fun q => by
    induction q with
    | zero => left; simp [tri]
    | succ q ih => 
      by_cases hq : 100 < q + 1
      · exact .inr hq
      · left
        have e : ((q : Int) + 1) * ((q : Int) + 1 - 1) = q * (q + 1) := by grind
        have h1 : tri (q + 1) = (q : Int) * (q + 1) / 2 := by unfold tri; push_cast; rw [e]
        have h2 : (q : Int) * (q + 1) ≤ 99 * (q + 1) := Int.mul_le_mul_of_nonneg_right (by omega) (by omega)
        have h3 : 0 ≤ (q : Int) * (q + 1) := Int.mul_nonneg (by omega) (by omega)
        rw [h1]
        omega
  rcases this l with h1 | h1 <;> omega
theorem bins_sum {n b : Nat} {B M : Nat → Int} (h : ∀ i, i < n → 0 ≤ B i ∧ B i < b) : sumB b (fun k => sqs (bl n B M k).length (lf (bl n B M k))) = inS n B M := by
  induction n with
  | zero =>
    have : ∀ b : Nat, sumB b (fun k => sqs (bl 0 B M k).length (lf (bl 0 B M k))) = 0 := fun b => by
      induction b with
      | zero => rfl
      | succ b ih => rw [sumB, ih]; rfl
    rw [this]; rfl
  | succ n ih =>
    have e : sumB b (fun k => sqs (bl (n + 1) B M k).length (lf (bl (n + 1) B M k))) = sumB b (fun k => sqs (bl n B M k).length (lf (bl n B M k)) + (if B n = (k : Int) then sumB (bl n B M k).length (fun j => (M n - lf (bl n B M k) j) * (M n - lf (bl n B M k) j)) else 0)) := sumB_congr fun k _ => by
      rw [bl_succ]
      by_cases hk : B n = (k : Int)
      · simp only [hk, if_true]; exact sqs_snoc _ _
      · simp only [hk, if_false, List.append_nil]; omega
    rw [e, sumB_add, ih (fun i hi => h i (by omega)), inS, inS, sumB]
    have hn := h n (by omega)
    rw [sum_pick hn.1 hn.2 (fun k => sumB (bl n B M k).length (fun j => (M n - lf (bl n B M k) j) * (M n - lf (bl n B M k) j)))]
    rw [sum_bl n B M _ (fun y => (M n - y) * (M n - y))]
    have hv : ((B n).toNat : Int) = B n := by omega
    rw [hv]
    congr 1
    exact sumB_congr fun j _ => by
      by_cases hj : B n = B j
      · rw [if_pos hj.symm, if_pos hj]
      · rw [if_neg (fun q => hj q.symm), if_neg hj]
theorem bins_pairs {n b : Nat} {B M : Nat → Int} (h : ∀ i, i < n → 0 ≤ B i ∧ B i < b) : sumB b (fun k => tri (bl n B M k).length) = inP n B := by
  induction n with
  | zero =>
    have : ∀ b : Nat, sumB b (fun k => tri (bl 0 B M k).length) = 0 := fun b => by
      induction b with
      | zero => rfl
      | succ b ih => rw [sumB, ih]; rfl
    rw [this]; rfl
  | succ n ih =>
    have e : sumB b (fun k => tri (bl (n + 1) B M k).length) = sumB b (fun k => tri (bl n B M k).length + (if B n = (k : Int) then ((bl n B M k).length : Int) else 0)) := sumB_congr fun k _ => by
      rw [bl_succ]
      by_cases hk : B n = (k : Int)
      · simp only [hk, if_true, List.length_append, List.length_cons, List.length_nil, Nat.zero_add]; exact tri_succ _
      · simp only [hk, if_false, List.append_nil]; omega
    rw [e, sumB_add, ih (fun i hi => h i (by omega)), inP, inP, sumB]
    have hn := h n (by omega)
    rw [sum_pick hn.1 hn.2 (fun k => ((bl n B M k).length : Int))]
    have h1 : ∀ l : Nat, sumB l (fun _ => (1 : Int)) = l := fun l => by
      induction l with
      | zero => rfl
      | succ l ih => rw [sumB, ih]; push_cast; rfl
    have hs := sum_bl n B M (B n).toNat (fun _ => 1)
    rw [h1] at hs
    rw [hs]
    have hv : ((B n).toNat : Int) = B n := by omega
    rw [hv]
    congr 1
    exact sumB_congr fun j _ => by
      by_cases hj : B n = B j
      · rw [if_pos hj.symm, if_pos hj]
      · rw [if_neg (fun q => hj q.symm), if_neg hj]
theorem inS_bd {n : Nat} {B M : Nat → Int} (hn : n ≤ 100) (hM : ∀ i, i < n → -2000 ≤ M i ∧ M i ≤ 20000) : 0 ≤ inS n B M ∧ inS n B M ≤ 4840000000000 := by
  have h := sumB_bd (k := n) (f := fun i => sumB i (fun j => if B i = B j then (M i - M j) * (M i - M j) else 0)) (a := 0) (b := 48400000000) (fun i hi => by
    have h := sumB_bd (k := i) (f := fun j => if B i = B j then (M i - M j) * (M i - M j) else 0) (a := 0) (b := 484000000) (fun j hj => by
      have := sq_bd (hM i hi) (hM j (by omega))
      split <;> omega)
    omega)
  unfold inS
  omega
theorem inP_bd {n : Nat} {B : Nat → Int} (hn : n ≤ 100) : 0 ≤ inP n B ∧ inP n B ≤ 10000 := by
  have h := sumB_bd (k := n) (f := fun i => sumB i (fun j => if B i = B j then (1 : Int) else 0)) (a := 0) (b := 100) (fun i hi => by
    have h := sumB_bd (k := i) (f := fun j => if B i = B j then (1 : Int) else 0) (a := 0) (b := 1) (fun j hj => by
      split <;> omega)
    omega)
  unfold inP
  omega

/-- fractions in lowest terms, multiplied and compared -/
theorem lowG_pos {a b : Int} (hb : 1 ≤ b) : lowG a b = (Int.gcd a b : Int) := by rw [lowG, if_neg (by omega)]
theorem low_scale {a b g : Int} (hb : 1 ≤ b) (hg : 1 ≤ g) : lowN (g * a) (g * b) = lowN a b ∧ lowD (g * a) (g * b) = lowD a b := by
  have hgb : 1 ≤ g * b := by have := Int.mul_le_mul hg hb (by omega) (by omega); omega
  have e : (Int.gcd (g * a) (g * b) : Int) = g * (Int.gcd a b : Int) := by
    have hn : (g.natAbs : Int) = g := by omega
    rw [Int.gcd_mul_left]; push_cast; rw [hn]
  have hp := gcd_pos' (a := a) (b := b) (by omega)
  rw [lowN, lowN, lowD, lowD, lowG_pos hgb, lowG_pos hb, e]
  exact ⟨Int.mul_ediv_mul_of_pos _ _ (by omega), Int.mul_ediv_mul_of_pos _ _ (by omega)⟩
theorem low_parts {a b : Int} (hb : 1 ≤ b) : ∃ g : Int, 1 ≤ g ∧ a = g * lowN a b ∧ b = g * lowD a b ∧ 1 ≤ lowD a b := by
  have hp := gcd_pos' (a := a) (b := b) (by omega)
  have hN : (Int.gcd a b : Int) * lowN a b = a := by rw [lowN, lowG_pos hb]; exact Int.mul_ediv_cancel' (Int.gcd_dvd_left a b)
  have hD : (Int.gcd a b : Int) * lowD a b = b := by rw [lowD, lowG_pos hb]; exact Int.mul_ediv_cancel' (Int.gcd_dvd_right a b)
  refine ⟨(Int.gcd a b : Int), by omega, hN.symm, hD.symm, ?_⟩
  rcases Int.lt_or_le 0 (lowD a b) with h | h
  · omega
  · have := Int.mul_nonpos_of_nonneg_of_nonpos (show (0 : Int) ≤ (Int.gcd a b : Int) by omega) h; omega
theorem low_prod {a b c d : Int} (hb : 1 ≤ b) (hd : 1 ≤ d) : lowN (lowN a b * lowN c d) (lowD a b * lowD c d) = lowN (a * c) (b * d) ∧ lowD (lowN a b * lowN c d) (lowD a b * lowD c d) = lowD (a * c) (b * d) := by
  obtain ⟨g, hg, ea, eb, pb⟩ := low_parts (a := a) hb
  obtain ⟨h, hh, ec, ed, pd⟩ := low_parts (a := c) hd
  have hgh : 1 ≤ g * h := by have := Int.mul_le_mul hg hh (by omega) (by omega); omega
  have hbd : 1 ≤ lowD a b * lowD c d := by have := Int.mul_le_mul pb pd (by omega) (by omega); omega
  have e1 : a * c = (g * h) * (lowN a b * lowN c d) := by
    generalize lowN a b = x at *; generalize lowN c d = y at *
    subst ea; subst ec; grind
  have e2 : b * d = (g * h) * (lowD a b * lowD c d) := by
    generalize lowD a b = x at *; generalize lowD c d = y at *
    rw [eb, ed]; grind
  have := low_scale (a := lowN a b * lowN c d) hbd hgh
  rw [← e1, ← e2] at this
  exact ⟨this.1.symm, this.2.symm⟩
theorem low_less {a b c d : Int} (hb : 1 ≤ b) (hd : 1 ≤ d) : decide (lowN a b * lowD c d < lowN c d * lowD a b) = decide (a * d < c * b) := by
  obtain ⟨g, hg, ea, eb, pb⟩ := low_parts (a := a) hb
  obtain ⟨h, hh, ec, ed, pd⟩ := low_parts (a := c) hd
  have hgh : 1 ≤ g * h := by have := Int.mul_le_mul hg hh (by omega) (by omega); omega
  have e1 : a * d = (g * h) * (lowN a b * lowD c d) := by
    generalize lowN a b = x at *; generalize lowD c d = y at *
    rw [ea, ed]; grind
  have e2 : c * b = (g * h) * (lowN c d * lowD a b) := by
    generalize lowN c d = x at *; generalize lowD a b = y at *
    rw [ec, eb]; grind
  rw [e1, e2]
  have k := Int.mul_lt_mul_left (a := g * h) (b := lowN a b * lowD c d) (c := lowN c d * lowD a b) (by omega)
  rw [Bool.eq_iff_iff]
  simp only [decide_eq_true_eq]
  exact k.symm
theorem lowN_zero {a b : Int} (hb : 1 ≤ b) : lowN a b = 0 ↔ a = 0 := by
  obtain ⟨g, hg, ea, _, _⟩ := low_parts (a := a) hb
  constructor
  · intro h; rw [ea, h, Int.mul_zero]
  · intro h
    subst h
    rcases Int.mul_eq_zero.1 ea.symm with h | h <;> omega
theorem low_bd {a b m : Int} (hb : 1 ≤ b) (h1 : -m ≤ a) (h2 : a ≤ m) : (-m ≤ lowN a b ∧ lowN a b ≤ m) ∧ (1 ≤ lowD a b ∧ lowD a b ≤ b) := by
  obtain ⟨g, hg, ea, eb, pb⟩ := low_parts (a := a) hb
  have k1 : lowD a b * 1 ≤ lowD a b * g := Int.mul_le_mul_of_nonneg_left hg (by omega)
  have k2 : g * lowD a b = lowD a b * g := Int.mul_comm _ _
  refine ⟨?_, pb, by omega⟩
  rcases Int.le_total 0 (lowN a b) with h | h
  · have := Int.mul_le_mul_of_nonneg_right hg h; rw [← ea] at this; omega
  · have k3 := Int.mul_le_mul_of_nonneg_right hg (show 0 ≤ -lowN a b by omega)
    have k4 : g * -lowN a b = -(g * lowN a b) := Int.mul_neg _ _
    omega
end Go.Proofs.Ytenjcdhehjdeoaa.DisB
