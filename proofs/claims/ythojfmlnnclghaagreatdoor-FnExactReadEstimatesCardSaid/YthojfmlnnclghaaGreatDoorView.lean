/- Slices in memory: one that reads as a table of values (whoever owns it), and one that lies in a row of the call's own. Plain words; nothing here speaks of the program. -/
import Derived.Test.YthojfmlnnclghaaGreatDoorBase
import Derived.OwnWalk
import Derived.Deep.OwnRows
namespace Go.Proofs.YthojfmlnnclghaaGreatDoor.View
set_option linter.unusedVariables false
set_option linter.unusedSimpArgs false
open Go.RowKit

/-- The slice value '.slice A n c' has n elements of k cells; cell j of element i holds 'f i j'. -/
def Sl (w : World) (k : Nat) (A : Option Addr) (n c : Nat) (f : Nat → Nat → Value) : Prop :=
  n ≤ 1048576 ∧ n ≤ c ∧ c ≤ 9223372036854775807 ∧ (0 < n → ∃ b off, A = some ⟨b, off, none⟩ ∧ b < w.heap.size ∧ ∀ i, i < n → ∀ j, j < k → w.cell? ⟨b, off + i * k + j, none⟩ = some (f i j))

theorem Sl.le {w k A n c f} (h : Sl w k A n c f) : n ≤ 1048576 := h.1
theorem Sl.leC {w k A n c f} (h : Sl w k A n c f) : n ≤ c := h.2.1
theorem Sl.leM {w k A n c f} (h : Sl w k A n c f) : c ≤ 9223372036854775807 := h.2.2.1
theorem Sl.at_ {w k A n c f} (h : Sl w k A n c f) (hn : 0 < n) : ∃ b off, A = some ⟨b, off, none⟩ ∧ b < w.heap.size ∧ ∀ i, i < n → ∀ j, j < k → w.cell? ⟨b, off + i * k + j, none⟩ = some (f i j) := h.2.2.2 hn
theorem Sl.below {w w' k A n c f} (h : Sl w k A n c f) (hb : Below w.heap.size w w') : Sl w' k A n c f :=
  ⟨h.1, h.2.1, h.2.2.1, fun hn => by
    obtain ⟨b, off, hA, hlt, hc⟩ := h.at_ hn
    exact ⟨b, off, hA, Nat.lt_of_lt_of_le hlt hb.size, fun i hi j hj => (hb.cell (p := ⟨b, off + i * k + j, none⟩) hlt).trans (hc i hi j hj)⟩⟩
/-- Behind writes to a row 'g' of the call's own that is not the slice's. -/
theorem Sl.congr {w k A n c f f'} (h : Sl w k A n c f) (hf : ∀ i, i < n → ∀ j, j < k → f i j = f' i j) : Sl w k A n c f' :=
  ⟨h.1, h.2.1, h.2.2.1, fun hn => by
    obtain ⟨b, off, hA, hlt, hc⟩ := h.at_ hn
    exact ⟨b, off, hA, hlt, fun i hi j hj => by rw [hc i hi j hj, hf i hi j hj]⟩⟩
theorem Sl.nil {w k} (f : Nat → Nat → Value) : Sl w k none 0 0 f := ⟨by omega, by omega, by omega, fun h => absurd h (by omega)⟩

/-- Block b is a row of the call's own: n elements of k cells at its head. -/
def RowK (w : World) (b : Nat) (E : TypeId) (k n : Nat) (f : Nat → Nat → Value) : Prop :=
  ∃ c : Array Value, w.heap[b]? = some (.cells c E (0, 0)) ∧ n * k ≤ c.size ∧ ∀ i, i < n → ∀ j, j < k → c[i * k + j]? = some (f i j)

section
variable {w w' : World} {b : Nat} {E : TypeId} {k n : Nat} {f f' : Nat → Nat → Value}
theorem RowK.cell (h : RowK w b E k n f) {i j : Nat} (hi : i < n) (hj : j < k) : w.cell? ⟨b, i * k + j, none⟩ = some (f i j) := by
  obtain ⟨c, hb, _, hc⟩ := h
  simp [World.cell?, hb, hc i hi j hj]
theorem RowK.frozen (h : RowK w b E k n f) (q : Nat) : w.frozen? ⟨b, q, none⟩ = false := by
  obtain ⟨c, hb, _, _⟩ := h
  simp [World.frozen?, hb]
theorem RowK.lt (h : RowK w b E k n f) : b < w.heap.size := by
  obtain ⟨c, hb, _, _⟩ := h
  exact (Array.getElem?_eq_some_iff.1 hb).1
theorem RowK.congr (h : RowK w b E k n f) (hf : ∀ i, i < n → ∀ j, j < k → f i j = f' i j) : RowK w b E k n f' := by
  obtain ⟨c, hb, hs, hc⟩ := h
  exact ⟨c, hb, hs, fun i hi j hj => by rw [hc i hi j hj, hf i hi j hj]⟩
theorem RowK.of_block (h : RowK w b E k n f) (e : w'.heap[b]? = w.heap[b]?) : RowK w' b E k n f := by
  obtain ⟨c, hb, hs, hc⟩ := h
  exact ⟨c, e.trans hb, hs, hc⟩
theorem RowK.below {B : Nat} (h : RowK w b E k n f) (hb : Below B w w') (hB : b < B) : RowK w' b E k n f := h.of_block (hb.block b hB)
theorem RowK.grown {row : Option Nat} (h : RowK w b E k n f) (hg : w.grownBy w' row) (hr : some b ≠ row) : RowK w' b E k n f := h.of_block (hg.block b h.lt hr)
theorem RowK.alloc (h : RowK w b E k n f) (o : Obj) : RowK (w.alloc o) b E k n f := h.of_block (Below.heap_alloc w o b h.lt)
theorem RowK.drew (h : RowK w b E k n f) : RowK w.drew b E k n f := h
theorem RowK.drewN (h : RowK w b E k n f) (m : Nat) : RowK (w.drewN m) b E k n f := h
theorem RowK.far (h : RowK w b E k n f) {p : Addr} (hp : b ≠ p.block) (u : Value) : RowK (w.setCell p u) b E k n f := h.of_block (Below.heap_setCell w p u b hp)

def upd (f : Nat → Nat → Value) (i j : Nat) (v : Value) : Nat → Nat → Value := fun i' j' => if i' = i ∧ j' = j then v else f i' j'
theorem flat_inj {k i j i' j' : Nat} (hj : j < k) (hj' : j' < k) (h : i * k + j = i' * k + j') : i = i' ∧ j = j' := by
  have h1 : (i * k + j) / k = i := by rw [Nat.add_comm, Nat.add_mul_div_right _ _ (by omega), Nat.div_eq_of_lt hj]; omega
  have h2 : (i' * k + j') / k = i' := by rw [Nat.add_comm, Nat.add_mul_div_right _ _ (by omega), Nat.div_eq_of_lt hj']; omega
  have e : i = i' := by rw [← h1, ← h2, h]
  subst e
  exact ⟨rfl, by omega⟩
theorem RowK.set (h : RowK w b E k n f) {i j : Nat} (_hi : i < n) (hj : j < k) (v : Value) : RowK (w.setCell ⟨b, i * k + j, none⟩ v) b E k n (upd f i j v) := by
  obtain ⟨c, hb, hs, hc⟩ := h
  refine ⟨c.setIfInBounds (i * k + j) v, ?_, by simpa using hs, ?_⟩
  · simp [World.setCell, Array.getElem?_modify, hb]
  · intro i' hi' j' hj'
    have hc' := hc i' hi' j' hj'
    have hlt : i' * k + j' < c.size := (Array.getElem?_eq_some_iff.1 hc').1
    rw [Array.getElem?_setIfInBounds]
    unfold upd
    by_cases e : i * k + j = i' * k + j'
    · obtain ⟨rfl, rfl⟩ := flat_inj hj hj' e
      rw [if_pos rfl, if_pos hlt, if_pos ⟨rfl, rfl⟩]
    · rw [if_neg e, if_neg (by rintro ⟨rfl, rfl⟩; exact e rfl)]
      exact hc'
theorem RowK.set1 (h : RowK w b E 1 n f) {i : Nat} (hi : i < n) (v : Value) : RowK (w.setCell ⟨b, i, none⟩ v) b E 1 n (upd f i 0 v) := by
  have := h.set hi (show 0 < 1 by omega) v
  simpa using this
theorem RowK.cell1 (h : RowK w b E 1 n f) {i : Nat} (hi : i < n) : w.cell? ⟨b, i, none⟩ = some (f i 0) := by
  have := h.cell hi (show 0 < 1 by omega)
  simpa using this
theorem RowK.view (h : RowK w b E k n f) {c : Nat} (hn : n ≤ 1048576) (hc : n ≤ c) (hm : c ≤ 9223372036854775807) : Sl w k (some ⟨b, 0, none⟩) n c f :=
  ⟨hn, hc, hm, fun _ => ⟨b, 0, rfl, h.lt, fun i hi j hj => by rw [Nat.zero_add]; exact h.cell hi hj⟩⟩
end

/-- A slice value of the call's own: nil, or at the head of a row from block B on. -/
def OwnK (w : World) (B : Nat) (E : TypeId) (k : Nat) (v : Value) (n : Nat) (f : Nat → Nat → Value) : Prop :=
  n ≤ 1048576 ∧ ((v = .slice none 0 0 ∧ n = 0) ∨ ∃ g c, v = .slice (some ⟨g, 0, none⟩) n c ∧ n ≤ c ∧ c ≤ 9223372036854775807 ∧ B ≤ g ∧ RowK w g E k n f)

section
variable {w w' : World} {B : Nat} {E : TypeId} {k n : Nat} {v : Value} {f f' : Nat → Nat → Value}
theorem OwnK.view (h : OwnK w B E k v n f) : ∃ A c, v = .slice A n c ∧ Sl w k A n c f ∧ (∀ b, (Value.ownBlock v) = some b → B ≤ b ∧ b < w.heap.size) := by
  obtain ⟨hn, ⟨rfl, rfl⟩ | ⟨g, c, rfl, hc, hm, hB, hr⟩⟩ := h
  · exact ⟨none, 0, rfl, Sl.nil f, fun b hb => by simp [Value.ownBlock] at hb⟩
  · exact ⟨_, _, rfl, hr.view hn hc hm, fun b hb => by simp [Value.ownBlock] at hb; subst hb; exact ⟨hB, hr.lt⟩⟩
theorem OwnK.of_own {xs : List Value} (h : w.ownsRow B E k v n xs) (hn : n ≤ 1048576) (hf : ∀ i, i < n → ∀ j, j < k → xs[i * k + j]? = some (f i j)) : OwnK w B E k v n f := by
  refine ⟨hn, ?_⟩
  obtain ⟨hl, ⟨rfl, rfl⟩ | ⟨g, cap, cur, rfl, hg, hh, hnc, hcap, hsz, htake⟩⟩ := h
  · exact .inl ⟨rfl, rfl⟩
  · refine .inr ⟨g, cap, rfl, hnc, by simpa [maxLen] using hcap, hg, cur, hh, by rw [hsz]; exact Nat.mul_le_mul_right k hnc, fun i hi j hj => ?_⟩
    have h1 := hf i hi j hj
    rw [← htake, List.getElem?_take] at h1
    split at h1
    · simpa using h1
    · cases h1
theorem OwnK.congr (h : OwnK w B E k v n f) (hf : ∀ i, i < n → ∀ j, j < k → f i j = f' i j) : OwnK w B E k v n f' := by
  obtain ⟨hn, h0 | ⟨g, c, hv, hc, hm, hB, hr⟩⟩ := h
  · exact ⟨hn, .inl h0⟩
  · exact ⟨hn, .inr ⟨g, c, hv, hc, hm, hB, hr.congr hf⟩⟩
theorem OwnK.mono (h : OwnK w B E k v n f) {B' : Nat} (hB' : B' ≤ B) : OwnK w B' E k v n f := by
  obtain ⟨hn, h0 | ⟨g, c, hv, hc, hm, hB, hr⟩⟩ := h
  · exact ⟨hn, .inl h0⟩
  · exact ⟨hn, .inr ⟨g, c, hv, hc, hm, Nat.le_trans hB' hB, hr⟩⟩
theorem OwnK.below (h : OwnK w B E k v n f) (hb : Below w.heap.size w w') : OwnK w' B E k v n f := by
  obtain ⟨hn, h0 | ⟨g, c, hv, hc, hm, hB, hr⟩⟩ := h
  · exact ⟨hn, .inl h0⟩
  · exact ⟨hn, .inr ⟨g, c, hv, hc, hm, hB, hr.below hb hr.lt⟩⟩
/-- Another row of the call's own has been written. -/
theorem OwnK.grown {row : Option Nat} (h : OwnK w B E k v n f) (hg : w.grownBy w' row) (hr : ∀ b, row = some b → Value.ownBlock v ≠ some b) : OwnK w' B E k v n f := by
  obtain ⟨hn, h0 | ⟨g, c, rfl, hc, hm, hB, hrr⟩⟩ := h
  · exact ⟨hn, .inl h0⟩
  · refine ⟨hn, .inr ⟨g, c, rfl, hc, hm, hB, hrr.grown hg ?_⟩⟩
    intro e
    exact hr g e.symm rfl
theorem Sl.grown {A c} {row : Option Nat} (h : Sl w k A n c f) (hg : w.grownBy w' row) (hr : ∀ b, row = some b → w.heap.size ≤ b ∨ ∀ a, A = some a → a.block ≠ b) : Sl w' k A n c f :=
  ⟨h.1, h.2.1, h.2.2.1, fun hn => by
    obtain ⟨b, off, rfl, hlt, hc⟩ := h.at_ hn
    refine ⟨b, off, rfl, Nat.lt_of_lt_of_le hlt hg.size, fun i hi j hj => (World.cell?_of_block (hg.block b hlt ?_)).trans (hc i hi j hj)⟩
    intro e
    rcases hr b e.symm with h | h
    · omega
    · exact h _ rfl rfl⟩
end

/-- two integers an element; three; one -/
def f2 (T M : Nat → Int) : Nat → Nat → Value := fun i j => if j = 0 then .int .i64 (T i) else .int .i64 (M i)
def f3 (X Y M : Nat → Int) : Nat → Nat → Value := fun i j => if j = 0 then .int .i64 (X i) else if j = 1 then .int .i64 (Y i) else .int .i64 (M i)
def f1 (T : Nat → Int) : Nat → Nat → Value := fun i _ => .int .i64 (T i)

theorem cells2 {w : World} {b off n : Nat} {T M : Nat → Int} (h : ∀ i, i < n → ∀ j, j < 2 → w.cell? ⟨b, off + i * 2 + j, none⟩ = some (f2 T M i j)) (i : Nat) (hi : i < n) :
    w.cell? ⟨b, off + i * 2, none⟩ = some (.int .i64 (T i)) ∧ w.cell? ⟨b, off + i * 2 + 1, none⟩ = some (.int .i64 (M i)) :=
  ⟨h i hi 0 (by omega), h i hi 1 (by omega)⟩
theorem cells3 {w : World} {b off n : Nat} {X Y M : Nat → Int} (h : ∀ i, i < n → ∀ j, j < 3 → w.cell? ⟨b, off + i * 3 + j, none⟩ = some (f3 X Y M i j)) (i : Nat) (hi : i < n) :
    w.cell? ⟨b, off + i * 3, none⟩ = some (.int .i64 (X i)) ∧ w.cell? ⟨b, off + i * 3 + 1, none⟩ = some (.int .i64 (Y i)) ∧ w.cell? ⟨b, off + i * 3 + 2, none⟩ = some (.int .i64 (M i)) :=
  ⟨h i hi 0 (by omega), h i hi 1 (by omega), h i hi 2 (by omega)⟩
theorem cells1 {w : World} {b off n : Nat} {T : Nat → Int} (h : ∀ i, i < n → ∀ j, j < 1 → w.cell? ⟨b, off + i * 1 + j, none⟩ = some (f1 T i j)) (i : Nat) (hi : i < n) :
    w.cell? ⟨b, off + i, none⟩ = some (.int .i64 (T i)) := by
  have := h i hi 0 (by omega)
  simpa [f1] using this
/-- 'make([]T, n)': the new row. -/
theorem run_make_rowN {P : Program} (t e : TypeId) (i : TypeInfo) (z : Value) (ht : P.underlying t = some (.slice e)) (hi : P.info? e = some i) (hz : i.zero = some z)
    (n : Nat) (hbytes : i.bytes * n ≤ 281474976710656) (h63 : n ≤ 9223372036854775807) (w : World) :
    (Instr.makeSlice t (.int .i64 (n : Int)) (.int .i64 (n : Int))).run P w = .ok (.slice (some ⟨w.heap.size, 0, none⟩) n n) (w.alloc (.cells (madeCells z.cells (n * i.size)) e)) := by
  have hb : (i.bytes : Int) * (n : Int) ≤ 281474976710656 := by
    have h : ((i.bytes * n : Nat) : Int) ≤ 281474976710656 := by omega
    rwa [Int.natCast_mul] at h
  have hr := run_make (P := P) w t e i z ht hi hz .i64 .i64 n n (by omega) (by omega) hb (by omega)
  simp only [Int.toNat_natCast] at hr
  exact hr
theorem made_at1 (m : Nat) (q : Nat) (hq : q < m * 1) {v : Value} : (madeCells #[v] (m * 1))[q]? = some v := by
  unfold madeCells
  simp [Array.getElem?_map, Array.getElem?_range, Nat.mod_one]
  omega
theorem made_at2 (m : Nat) (q : Nat) (hq : q < m * 2) {v : Value} : (madeCells #[v, v] (m * 2))[q]? = some v := by
  unfold madeCells
  have h : q % 2 = 0 ∨ q % 2 = 1 := by omega
  rcases h with h | h <;> simp [Array.getElem?_map, Array.getElem?_range, h, hq]
theorem made_at3 (m : Nat) (q : Nat) (hq : q < m * 3) {v : Value} : (madeCells #[v, v, v] (m * 3))[q]? = some v := by
  unfold madeCells
  have h : q % 3 = 0 ∨ q % 3 = 1 ∨ q % 3 = 2 := by omega
  rcases h with h | h | h <;> simp [Array.getElem?_map, Array.getElem?_range, h, hq]
theorem RowK.made {w : World} {E : TypeId} {k n : Nat} (cs : Array Value) (hs : n * k ≤ cs.size) {f : Nat → Nat → Value} (hf : ∀ i, i < n → ∀ j, j < k → cs[i * k + j]? = some (f i j)) :
    RowK (w.alloc (.cells cs E)) w.heap.size E k n f := ⟨cs, heap_alloc_new w _, hs, hf⟩
/-- Behind an append to a row of the call's own: what lay below that row's bound is as it was. -/
theorem own_below {B : Nat} {a w w' : World} {E : TypeId} {k n : Nat} {v : Value} {xs : List Value} (hb : Below B a w) (hB : B ≤ w.heap.size) (o : Obj) (ho : w.ownsRow B E k v n xs) (hg : (w.alloc o).grownBy w' v.ownBlock) : Below B a w' :=
  (hb.alloc hB o).grown hg (by simp; omega) (fun q hq => (ho.lt q hq).1)
/-- Where a slice value's block lies. -/
def Blk (v : Value) (lo hi : Nat) : Prop := ∀ b, Value.ownBlock v = some b → lo ≤ b ∧ b < hi
section
variable {w w' : World} {B : Nat} {E : TypeId} {k n : Nat} {v : Value} {f : Nat → Nat → Value} {lo hi lo' hi' : Nat}
theorem Sl.marked {A : Option Addr} {c : Nat} (h : Sl w k A n c f) (hA : Blk (.slice A n c) lo hi) (hg : w.grownBy w' v.ownBlock) (hv : Blk v lo' hi') (hd : hi ≤ lo' ∨ hi' ≤ lo) : Sl w' k A n c f :=
  h.grown hg (fun b hb => .inr (by
    rintro a rfl e
    have h1 := hA a.block (by simp [Value.ownBlock])
    have h2 := hv b hb
    omega))
theorem OwnK.marked {u : Value} (h : OwnK w B E k u n f) (hA : Blk u lo hi) (hg : w.grownBy w' v.ownBlock) (hv : Blk v lo' hi') (hd : hi ≤ lo' ∨ hi' ≤ lo) : OwnK w' B E k u n f :=
  h.grown hg (fun b hb e => by
    have h1 := hA b e
    have h2 := hv b hb
    omega)
theorem below_marked {a : World} (hb : Below B a w) (hg : w.grownBy w' v.ownBlock) (hv : Blk v lo hi) (hB : B ≤ lo) (hB2 : B ≤ w.heap.size) : Below B a w' :=
  hb.grown hg hB2 (fun q hq => Nat.le_trans hB (hv q hq).1)
theorem cell_marked (hg : w.grownBy w' v.ownBlock) (hv : Blk v lo hi) {p : Addr} (hlt : p.block < w.heap.size) (hp : p.block < lo) : w'.cell? p = w.cell? p :=
  World.cell?_of_block (hg.block p.block hlt (by
    intro e
    have := hv p.block e.symm
    omega))
theorem OwnK.sl {A : Option Addr} {c : Nat} (h : OwnK w B E k (.slice A n c) n f) : Sl w k A n c f := by
  obtain ⟨A', c', e, hv, _⟩ := h.view
  injection e with e1 e2 e3
  subst e1; subst e3
  exact hv
theorem OwnK.blk (h : OwnK w B E k v n f) : Blk v B w.heap.size := by
  obtain ⟨A', c', rfl, _, hb⟩ := h.view
  exact hb
theorem OwnK.of_row {g : Nat} (hn : n ≤ 1048576) (hB : B ≤ g) (h : RowK w g E k n f) : OwnK w B E k (.slice (some ⟨g, 0, none⟩) n n) n f :=
  ⟨hn, .inr ⟨g, n, rfl, Nat.le_refl _, by omega, hB, h⟩⟩
end
theorem OwnK.none (w : World) (B : Nat) (E : TypeId) (k : Nat) (f : Nat → Nat → Value) : OwnK w B E k (.slice none 0 0) 0 f := ⟨by omega, .inl ⟨rfl, rfl⟩⟩
theorem ret_own {v : Value} {a b : Int} (h : a = b) : Ending.returned (.tuple #[v, .int .i64 a]) = Ending.returned (.tuple #[v, .int .i64 b]) := by rw [h]
theorem OwnK.zero {w : World} {B : Nat} {E : TypeId} {k n : Nat} {f : Nat → Nat → Value} (h : n = 0) : OwnK w B E k (.slice .none 0 0) n f := h ▸ OwnK.none w B E k f
/-- A row of the call's own is kept by what only makes new memory. -/
theorem own_of_below {w W : World} {B : Nat} {E : TypeId} {k n : Nat} {v : Value} {xs : List Value} (h : w.ownsRow B E k v n xs) (hb : Below w.heap.size w W) : W.ownsRow B E k v n xs :=
  h.kept (row := none) ⟨hb.os, hb.tape, hb.output, hb.size, fun q hq _ => hb.block q hq⟩ (by cases hv : v.ownBlock <;> simp)
/-- Behind an append to such a row. -/
theorem own_grow {a w W w' : World} {B : Nat} {E : TypeId} {k n : Nat} {v : Value} {xs : List Value} (hb : Below a.heap.size a W) (ho : w.ownsRow B E k v n xs) (hB : a.heap.size ≤ B) (hg : W.grownBy w' v.ownBlock) : Below a.heap.size a w' :=
  hb.grown hg hb.size (fun q hq => Nat.le_trans hB (ho.lt q hq).1)
/-- The cells of a new block, its number in whatever form. -/
theorem cell_newL (w : World) (xs : List Value) (t : TypeId) {b : Nat} (hb : b = w.heap.size) : ∀ j u, xs[j]? = some u → (w.alloc (.cells xs.toArray t)).cell? ((⟨b, 0, none⟩ : Addr).add j) = some u := by
  subst hb
  intro j u hj
  have e : ((⟨w.heap.size, 0, none⟩ : Addr).add j) = ⟨w.heap.size, j, none⟩ := by rw [Addr.add_lit, Nat.zero_add]
  rw [e]
  have h := heap_alloc_new w (.cells xs.toArray t)
  unfold World.cell?
  rw [h]
  simpa using hj
theorem cell_call {W W' : World} {p : Addr} {v : Value} (hb : Below W.heap.size W W') (h : W.cell? p = some v) : W'.cell? p = some v := (hb.cell (World.block_lt_of_cell? _ _ h)).trans h
theorem cell_drew {W : World} {p : Addr} {v : Value} (h : W.cell? p = some v) : W.drew.cell? p = some v := h
theorem cell_store {W : World} {p q : Addr} {v u : Value} (hne : p.block ≠ q.block) (h : W.cell? p = some v) : (W.setCell q u).cell? p = some v := (World.cell?_of_block (Below.heap_setCell W q u p.block hne)).trans h
/-- What a cell holds, whatever it is: a fact that outlives stores into it. -/
def cv (W : World) (p : Addr) : Value := (W.cell? p).getD undef
theorem cv_of {W : World} {p : Addr} {v : Value} (h : W.cell? p = some v) : W.cell? p = some (cv W p) := by rw [cv, h]; rfl
theorem cv_call {W W' : World} {p : Addr} {v : Value} (hb : Below W.heap.size W W') (h : W.cell? p = some v) : W'.cell? p = some (cv W' p) := cv_of (cell_call hb h)
theorem cv_drew {W : World} {p : Addr} (h : W.cell? p = some (cv W p)) : W.drew.cell? p = some (cv W.drew p) := h
theorem cv_store {W : World} {p q : Addr} {v u : Value} (h : W.cell? p = some v) : (W.setCell q u).cell? p = some (cv (W.setCell q u) p) := by
  by_cases e : q = p
  · subst e
    exact cv_of (World.cell?_setCell_same _ _ _ h)
  · exact cv_of ((World.cell?_setCell_other _ _ _ _ e).trans h)
theorem fr_store {W : World} {p q : Addr} {u : Value} (h : W.frozen? p = false) : (W.setCell q u).frozen? p = false := (World.frozen?_setCell _ _ _ _).trans h
theorem fr_drew {W : World} {p : Addr} (h : W.frozen? p = false) : W.drew.frozen? p = false := h
theorem fr_call {W W' : World} {p : Addr} (hb : Below W.heap.size W W') {v : Value} (hc : W.cell? p = some v) (h : W.frozen? p = false) : W'.frozen? p = false := (hb.frozen (World.block_lt_of_cell? _ _ hc)).trans h
end Go.Proofs.YthojfmlnnclghaaGreatDoor.View
