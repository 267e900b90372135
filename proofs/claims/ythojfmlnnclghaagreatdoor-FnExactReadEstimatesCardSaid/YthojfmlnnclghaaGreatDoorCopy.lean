/- Slices of whatever small structs, copied and made longer. Plain words; nothing here speaks of the program. -/
import Derived.Test.YthojfmlnnclghaaGreatDoorList
namespace Go.Proofs.YthojfmlnnclghaaGreatDoor.View
set_option linter.unusedVariables false
set_option linter.unusedSimpArgs false
open Go.RowKit

/-- the cells of n elements of k cells -/
def cellF (k n : Nat) (f : Nat → Nat → Value) : List Value := (List.range (n * k)).map fun q => f (q / k) (q % k)
theorem cellF_len (k n : Nat) (f : Nat → Nat → Value) : (cellF k n f).length = n * k := by simp [cellF]
theorem div_at {k i j : Nat} (hj : j < k) : (i * k + j) / k = i ∧ (i * k + j) % k = j := by
  refine ⟨?_, ?_⟩
  · rw [Nat.add_comm, Nat.add_mul_div_right _ _ (by omega), Nat.div_eq_of_lt hj]; omega
  · rw [Nat.add_comm, Nat.add_mul_mod_self_right, Nat.mod_eq_of_lt hj]
theorem at_lt {k n i j : Nat} (hi : i < n) (hj : j < k) : i * k + j < n * k := by
  have h1 : (i + 1) * k ≤ n * k := Nat.mul_le_mul_right k hi
  rw [Nat.add_mul] at h1
  omega
theorem cellF_at (k n : Nat) (f : Nat → Nat → Value) : ∀ i, i < n → ∀ j, j < k → (cellF k n f)[i * k + j]? = some (f i j) := by
  intro i hi j hj
  obtain ⟨h1, h2⟩ := div_at (i := i) hj
  simp [cellF, at_lt hi hj, h1, h2]
theorem cellF_succ (k n : Nat) (f : Nat → Nat → Value) : cellF k n f ++ (List.range k).map (f n) = cellF k (n + 1) f := by
  have e : (n + 1) * k = n * k + k := by rw [Nat.add_mul]; omega
  rw [cellF, cellF, e, List.range_add, List.map_append, List.map_map]
  congr 1
  apply List.map_congr_left
  intro j hj
  have hj := List.mem_range.1 hj
  obtain ⟨h1, h2⟩ := div_at (i := n) hj
  simp [h1, h2]
theorem cellF_congr {k n : Nat} {f f' : Nat → Nat → Value} (h : ∀ i, i < n → ∀ j, j < k → f i j = f' i j) : cellF k n f = cellF k n f' := by
  apply List.map_congr_left
  intro q hq
  have hq := List.mem_range.1 hq
  have hk : 0 < k := by rcases Nat.eq_zero_or_pos k with rfl | h <;> omega
  exact h _ (Nat.div_lt_of_lt_mul (by rw [Nat.mul_comm]; exact hq)) _ (Nat.mod_lt _ hk)
theorem add_at (b o q : Nat) : (⟨b, o, none⟩ : Addr).add q = ⟨b, o + q, none⟩ := by unfold Addr.add; split <;> simp_all
theorem Sl.news {w : World} {k n c : Nat} {ad : Addr} {f : Nat → Nat → Value} (h : Sl w k (some ad) n c f) : ∀ j u, (cellF k n f)[j]? = some u → w.cell? (ad.add j) = some u := by
  intro q u hq
  have hlt : q < n * k := by
    have := (List.getElem?_eq_some_iff.1 hq).1
    rwa [cellF_len] at this
  have hk : 0 < k := by rcases Nat.eq_zero_or_pos k with rfl | h <;> omega
  have hn : 0 < n := by rcases Nat.eq_zero_or_pos n with rfl | h <;> omega
  obtain ⟨b, off, e, _, hc⟩ := h.at_ hn
  injection e with e
  subst e
  have h1 := hc (q / k) (Nat.div_lt_of_lt_mul (by rw [Nat.mul_comm]; exact hlt)) (q % k) (Nat.mod_lt _ hk)
  have e2 : off + q / k * k + q % k = off + q := by have := Nat.div_add_mod q k; rw [Nat.mul_comm] at this; omega
  rw [e2] at h1
  rw [add_at, h1]
  simp [cellF, hlt] at hq
  rw [hq]
theorem OwnK.of_cellF {w : World} {B : Nat} {E : TypeId} {k n : Nat} {v : Value} {f : Nat → Nat → Value} (h : w.ownsRow B E k v n (cellF k n f)) (hn : n ≤ 1048576) : OwnK w B E k v n f := OwnK.of_own h hn (cellF_at k n f)
theorem one_f1 {n : Nat} {T : Nat → Int} : ∀ u ∈ cellF 1 n (f1 T), u.oneCell' = true := by simp [cellF, f1, Value.oneCell']
theorem one_f2 {n : Nat} {T M : Nat → Int} : ∀ u ∈ cellF 2 n (f2 T M), u.oneCell' = true := by
  intro u hu
  obtain ⟨q, _, rfl⟩ := List.mem_map.1 hu
  simp only [f2]
  split <;> rfl
theorem one_f3 {n : Nat} {X Y M : Nat → Int} : ∀ u ∈ cellF 3 n (f3 X Y M), u.oneCell' = true := by
  intro u hu
  obtain ⟨q, _, rfl⟩ := List.mem_map.1 hu
  simp only [f3]
  repeat (first | rfl | split)
/-- a table with one more -/
def addT (n : Nat) (T : Nat → Int) (x : Int) : Nat → Int := fun i => if i < n then T i else x
theorem addT_lt {n : Nat} {T : Nat → Int} {x : Int} {i : Nat} (h : i < n) : addT n T x i = T i := by simp [addT, h]
theorem addT_at {n : Nat} {T : Nat → Int} {x : Int} : addT n T x n = x := by simp [addT]
/-- the first k elements -/
theorem Sl.take {w k A n c f} (h : Sl w k A n c f) {m : Nat} (hm : m ≤ n) : Sl w k A m c f :=
  ⟨Nat.le_trans hm h.le, Nat.le_trans hm h.leC, h.leM, fun hp => by
    obtain ⟨b, off, e, hb, hc⟩ := h.at_ (by omega)
    exact ⟨b, off, e, hb, fun i hi j hj => hc i (by omega) j hj⟩⟩
/-- the elements from i to before m -/
theorem Sl.sub {w k b off n c f} (h : Sl w k (some ⟨b, off, none⟩) n c f) {i m : Nat} (him : i ≤ m) (hm : m ≤ n) (hb : b < w.heap.size) : Sl w k (some ⟨b, off + i * k, none⟩) (m - i) (c - i) (fun j => f (i + j)) :=
  ⟨by have := h.le; omega, by have := h.leC; omega, by have := h.leM; omega, fun hp => by
    obtain ⟨b', off', e, hb', hc⟩ := h.at_ (by omega)
    injection e with e
    injection e with e1 e2
    subst e1; subst e2
    refine ⟨b, _, rfl, hb', fun q hq j hj => ?_⟩
    have := hc (i + q) (by omega) j hj
    rw [Nat.add_mul] at this
    rw [← this]
    congr 2
    omega⟩
end Go.Proofs.YthojfmlnnclghaaGreatDoor.View
