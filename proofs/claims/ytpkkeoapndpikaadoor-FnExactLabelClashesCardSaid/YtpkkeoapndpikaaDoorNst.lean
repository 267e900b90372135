/- Pairs of numbers, each in a row of its own, the rows in one row of the call's own. Plain words; nothing here speaks of the program. -/
import Derived.Test.YtpkkeoapndpikaaDoorList
namespace Go.Proofs.YtpkkeoapndpikaaDoor.Nst
set_option linter.unusedVariables false
set_option linter.unusedSimpArgs false
open Go.RowKit View

/-- the slice value of row i -/
def rowV (G : Nat → Nat) (i : Nat) : Value := .slice (some ⟨G i, 0, none⟩) 2 2
def pf (L : List (Int × Int)) : Nat → Nat → Int := fun i j => if j = 0 then lp1 L i else lp2 L i
/-- what a row of two holds -/
def fr (F : Nat → Nat → Int) (i : Nat) : Nat → Nat → Value := fun j _ => .int .i64 (F i j)
/-- all rows lie in [lo, hi), apart from each other -/
def Nst (w : World) (lo hi : Nat) (T E : TypeId) (v : Value) (n : Nat) (G : Nat → Nat) (F : Nat → Nat → Int) : Prop :=
  OwnK w lo T 1 v n (fun i _ => rowV G i) ∧ hi ≤ w.heap.size ∧ Blk v lo hi ∧ ∀ i, i < n → lo ≤ G i ∧ G i < hi ∧ RowK w (G i) E 1 2 (fr F i) ∧ v.ownBlock ≠ some (G i) ∧ ∀ j, j < n → G i = G j → i = j
section
variable {w w' : World} {lo hi : Nat} {T E : TypeId} {v : Value} {n : Nat} {G : Nat → Nat} {F : Nat → Nat → Int}
theorem Nst.keep (h : Nst w lo hi T E v n G F) (hs : w.heap.size ≤ w'.heap.size) (hb : ∀ b, lo ≤ b → b < hi → w'.heap[b]? = w.heap[b]?) : Nst w' lo hi T E v n G F := by
  obtain ⟨⟨hn, h1⟩, h2, h3, h4⟩ := h
  refine ⟨⟨hn, ?_⟩, Nat.le_trans h2 hs, h3, fun i hi => ?_⟩
  · rcases h1 with h0 | ⟨g, c, rfl, a, b, hB, hr⟩
    · exact .inl h0
    · have := h3 g rfl
      exact .inr ⟨g, c, rfl, a, b, hB, hr.of_block (hb g this.1 this.2)⟩
  · obtain ⟨a, b, c, d, e⟩ := h4 i hi
    exact ⟨a, b, c.of_block (hb _ a b), d, e⟩
theorem Nst.below (h : Nst w lo hi T E v n G F) (hb : Below w.heap.size w w') : Nst w' lo hi T E v n G F :=
  h.keep hb.size fun b _ h2 => hb.block b (Nat.lt_of_lt_of_le h2 h.2.1)
theorem Nst.low {B : Nat} (h : Nst w lo hi T E v n G F) (hb : Below B w w') (hB : hi ≤ B) : Nst w' lo hi T E v n G F :=
  h.keep hb.size fun b _ h2 => hb.block b (Nat.lt_of_lt_of_le h2 hB)
theorem Nst.marked {v' : Value} {lo' hi' : Nat} (h : Nst w lo hi T E v n G F) (hg : w.grownBy w' v'.ownBlock) (hv : Blk v' lo' hi') (hd : hi ≤ lo' ∨ hi' ≤ lo) : Nst w' lo hi T E v n G F :=
  h.keep hg.size fun b h1 h2 => hg.block b (Nat.lt_of_lt_of_le h2 h.2.1) (by
    intro e
    have := hv b e.symm
    omega)
theorem Nst.mono (h : Nst w lo hi T E v n G F) {lo' : Nat} (hl : lo' ≤ lo) : Nst w lo' hi T E v n G F :=
  ⟨h.1.mono hl, h.2.1, fun b e => ⟨Nat.le_trans hl (h.2.2.1 b e).1, (h.2.2.1 b e).2⟩, fun i hi => ⟨Nat.le_trans hl (h.2.2.2 i hi).1, (h.2.2.2 i hi).2⟩⟩
theorem Nst.nil (w : World) (lo : Nat) (T E : TypeId) (G : Nat → Nat) (F : Nat → Nat → Int) (h : n = 0) : Nst w lo w.heap.size T E (.slice none 0 0) n G F :=
  ⟨OwnK.zero h, Nat.le_refl _, fun b e => by simp [Value.ownBlock] at e, fun i hi => by omega⟩
theorem Nst.le (h : Nst w lo hi T E v n G F) : n ≤ 1048576 := h.1.1
/-- one row has been written -/
theorem Nst.put (h : Nst w lo hi T E v n G F) {k : Nat} (hk : k < n) {f : Nat → Nat → Value} {B : Nat} (ho : OwnK w' B E 1 (rowV G k) 2 f) (hg : w.grownBy w' (rowV G k).ownBlock) {F' : Nat → Nat → Int} (hf : ∀ j, j < 2 → f j 0 = .int .i64 (F' k j)) (hF : ∀ i, i < n → i ≠ k → ∀ j, j < 2 → F' i j = F i j) : Nst w' lo hi T E v n G F' := by
  obtain ⟨⟨hn, h1⟩, h2, h3, h4⟩ := h
  have hg' : w.grownBy w' (some (G k)) := hg
  have hkk := h4 k hk
  refine ⟨⟨hn, ?_⟩, Nat.le_trans h2 hg.size, h3, fun i hi' => ?_⟩
  · rcases h1 with h0 | ⟨g, c, rfl, a, b, hB, hr⟩
    · exact .inl h0
    · exact .inr ⟨g, c, rfl, a, b, hB, hr.of_block (hg'.block g hr.lt hkk.2.2.2.1)⟩
  · obtain ⟨a, b, c, d, e⟩ := h4 i hi'
    refine ⟨a, b, ?_, d, e⟩
    by_cases hik : i = k
    · subst hik
      obtain ⟨_, ⟨h0, _⟩ | ⟨g, c', e1, _, _, _, hr⟩⟩ := ho
      · simp [rowV] at h0
      · simp [rowV] at e1
        obtain ⟨rfl, _⟩ := e1
        refine hr.congr fun j hj q hq => ?_
        obtain rfl : q = 0 := by omega
        exact hf j hj
    · refine (c.of_block (hg'.block _ c.lt (fun e2 => hik (e k hk (Option.some.inj e2))))).congr fun j hj q hq => ?_
      show Value.int .i64 (F i j) = .int .i64 (F' i j)
      rw [hF i hi' hik j hj]
end
/-- under way: rows that have been appended -/
def Bld (w : World) (lo : Nat) (T E : TypeId) (v : Value) (L : List (Int × Int)) (G : Nat → Nat) : Prop :=
  w.ownsRow lo T 1 v L.length ((List.range L.length).map (rowV G)) ∧ ∀ i, i < L.length → lo ≤ G i ∧ RowK w (G i) E 1 2 (fr (pf L) i) ∧ v.ownBlock ≠ some (G i) ∧ ∀ j, j < L.length → G i = G j → i = j
section
variable {w w' W : World} {lo : Nat} {T E : TypeId} {v : Value} {L : List (Int × Int)} {G : Nat → Nat}
theorem Bld.below (h : Bld w lo T E v L G) (hb : Below w.heap.size w w') : Bld w' lo T E v L G :=
  ⟨own_of_below h.1 hb, fun i hi => by
    obtain ⟨a, b, c⟩ := h.2 i hi
    exact ⟨a, b.below hb b.lt, c⟩⟩
theorem Bld.made (hlo : lo ≤ w.heap.size) : Bld (w.alloc (.cells #[] T)) lo T E (.slice (some ⟨w.heap.size, 0, none⟩) 0 0) [] (fun _ => 0) :=
  ⟨World.ownsRow_made _ _ _ hlo (by simp [maxLen]) rfl, fun i hi => by simp at hi⟩
theorem pf_old (L : List (Int × Int)) (q : Int × Int) {i : Nat} (hi : i < L.length) (j : Nat) : pf (L ++ [q]) i j = pf L i j := by
  simp only [pf, lp1, lp2, List.getD_eq_getElem?_getD]
  rw [List.getElem?_append_left hi]
theorem pf_new (L : List (Int × Int)) (x y : Int) (j : Nat) : pf (L ++ [(x, y)]) L.length j = if j = 0 then x else y := by
  simp [pf, lp1, lp2]
theorem Bld.snoc {b g cap : Nat} {x y : Int} (h : Bld w lo T E v L G) (hlo : lo ≤ w.heap.size) (hbw : Below w.heap.size w W) (hb : w.heap.size ≤ b) (hr : RowK W b E 1 2 (fun j _ => .int .i64 (if j = 0 then x else y)))
    (ho : w'.ownsRow lo T 1 (.slice (some ⟨g, 0, none⟩) (L.length + 1) cap) (L.length + 1) ((List.range L.length).map (rowV G) ++ [.slice (some ⟨b, 0, none⟩) 2 2])) (hg : W.grownBy w' v.ownBlock) (hat : v.ownBlock = some g ∨ W.heap.size ≤ g) :
    Bld w' lo T E (.slice (some ⟨g, 0, none⟩) (L.length + 1) cap) (L ++ [(x, y)]) (fun i => if i = L.length then b else G i) := by
  have el : (L ++ [(x, y)]).length = L.length + 1 := by simp
  have hvb : v.ownBlock ≠ some b := fun e => by
    have := (h.1.lt b e).2
    omega
  have hGw : ∀ i, i < L.length → G i < w.heap.size := fun i hi => (h.2 i hi).2.1.lt
  have hsz := hbw.size
  have hbW := hr.lt
  refine ⟨?_, fun i hi => ?_⟩
  · rw [el]
    have e : (List.range (L.length + 1)).map (rowV fun i => if i = L.length then b else G i) = (List.range L.length).map (rowV G) ++ [.slice (some ⟨b, 0, none⟩) 2 2] := by
      rw [List.range_succ, List.map_append]
      congr 1
      · apply List.map_congr_left
        intro i hi
        have := List.mem_range.1 hi
        simp only [rowV]
        rw [if_neg (by omega)]
      · simp [rowV]
    rw [e]
    exact ho
  · rw [el] at hi
    dsimp only
    by_cases e : i = L.length
    · subst e
      rw [if_pos rfl]
      refine ⟨Nat.le_trans hlo hb, (hr.of_block (hg.block b hbW (fun e => hvb e.symm))).congr fun j hj q hq => ?_, ?_, fun j hj e2 => ?_⟩
      · simp only [fr]; rw [pf_new]
      · intro e
        simp only [Value.ownBlock, Option.some.injEq] at e
        rcases hat with h1 | h1
        · exact hvb (h1.trans (by rw [e]))
        · omega
      · by_cases e3 : j = L.length
        · exact e3.symm
        · rw [if_neg e3] at e2
          have := hGw j (by rw [el] at hj; omega)
          omega
    · rw [if_neg e]
      have hi' : i < L.length := by omega
      obtain ⟨a, c, d, f⟩ := h.2 i hi'
      have hc := c.below hbw c.lt
      refine ⟨a, (hc.of_block (hg.block _ hc.lt (fun e => d e.symm))).congr fun j hj q hq => ?_, ?_, fun j hj e2 => ?_⟩
      · simp only [fr]; rw [pf_old _ _ hi']
      · intro e1
        simp only [Value.ownBlock, Option.some.injEq] at e1
        rcases hat with h1 | h1
        · exact d (h1.trans (by rw [e1]))
        · have := hGw i hi'
          omega
      · by_cases e3 : j = L.length
        · rw [if_pos e3] at e2
          have := hGw i hi'
          omega
        · rw [if_neg e3] at e2
          exact f j (by rw [el] at hj; omega) e2
theorem Bld.nst (h : Bld w lo T E v L G) (hn : L.length ≤ 1048576) : Nst w lo w.heap.size T E v L.length G (pf L) := by
  refine ⟨OwnK.of_own h.1 hn (fun i hi j hj => ?_), Nat.le_refl _, h.1.lt, fun i hi => ?_⟩
  · obtain rfl : j = 0 := by omega
    simp [hi]
  · obtain ⟨a, b, c, d⟩ := h.2 i hi
    exact ⟨a, b.lt, b, c, d⟩
theorem Bld.grown {a : World} {lo' : Nat} (h : Bld w lo T E v L G) (hb : Below lo' a W) (hg : W.grownBy w' v.ownBlock) (hl : lo' ≤ lo) (hs : lo' ≤ W.heap.size) : Below lo' a w' :=
  hb.grown hg hs (fun q hq => Nat.le_trans hl (h.1.lt q hq).1)
end
/-- the wanted pairs (i, j) with i < j < k -/
def rowP (p : Nat → Nat → Bool) (i : Nat) : Nat → List (Int × Int)
  | 0 => []
  | k + 1 => rowP p i k ++ (if i < k ∧ p i k = true then [((i : Int), (k : Int))] else [])
/-- all wanted pairs of numbers below n, the first below i -/
def prs (p : Nat → Nat → Bool) (n : Nat) : Nat → List (Int × Int)
  | 0 => []
  | i + 1 => prs p n i ++ rowP p i n
theorem rowP_lo {p : Nat → Nat → Bool} {i k : Nat} (h : k ≤ i + 1) : rowP p i k = [] := by
  induction k with
  | zero => rfl
  | succ k ih => rw [rowP, ih (by omega), if_neg (by omega)]; rfl
theorem rowP_yes {p : Nat → Nat → Bool} {i k : Nat} (hi : i < k) (h : p i k = true) : rowP p i (k + 1) = rowP p i k ++ [((i : Int), (k : Int))] := by
  rw [rowP, if_pos ⟨hi, h⟩]
theorem rowP_no {p : Nat → Nat → Bool} {i k : Nat} (h : p i k = false) : rowP p i (k + 1) = rowP p i k := by
  rw [rowP, if_neg (by rw [h]; simp)]; simp
theorem rowP_len {p : Nat → Nat → Bool} {i k : Nat} : (rowP p i k).length ≤ k := by
  induction k with
  | zero => simp [rowP]
  | succ k ih => rw [rowP]; split <;> simp <;> omega
theorem prs_len {p : Nat → Nat → Bool} {n i : Nat} : (prs p n i).length ≤ i * n := by
  induction i with
  | zero => simp [prs]
  | succ i ih =>
    have := rowP_len (p := p) (i := i) (k := n)
    rw [prs, List.length_append, Nat.add_mul]
    omega
theorem prs_congr {p q : Nat → Nat → Bool} {n : Nat} (h : ∀ i k, i < k → k < n → p i k = q i k) (i : Nat) : prs p n i = prs q n i := by
  have hr : ∀ i k, k ≤ n → rowP p i k = rowP q i k := by
    intro i k
    induction k with
    | zero => intro _; rfl
    | succ k ih =>
      intro hk
      rw [rowP, rowP, ih (by omega)]
      by_cases hik : i < k
      · rw [h i k hik (by omega)]
      · rw [if_neg (fun e => hik e.1), if_neg (fun e => hik e.1)]
  induction i with
  | zero => rfl
  | succ i ih => rw [prs, prs, ih, hr i n (Nat.le_refl _)]
end Go.Proofs.YtpkkeoapndpikaaDoor.Nst
