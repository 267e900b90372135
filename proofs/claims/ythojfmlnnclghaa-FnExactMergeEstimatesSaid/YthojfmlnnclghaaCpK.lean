/- 'copy' at elements of more than one cell; rows into which cells are laid. Plain words; nothing here speaks of the program. -/
import Derived.Test.YthojfmlnnclghaaChoE
import Derived.Laws.CopyOwn
import Derived.Deep.AppendLies
namespace Go.Proofs.Ythojfmlnnclghaa.CpK
set_option linter.unusedVariables false
set_option linter.unusedSimpArgs false
open Go.RowKit View ChoE

section
variable {P : Program}
theorem run_copyK (w : World) (dT sT ty elem : TypeId) (k g o dLen dCap sb so sLen sCap : Nat) (cur : List Value) (t : TypeId) (cs : List Value) (m : Nat) (hu : P.underlying dT = some (.slice elem)) (hs : (P.info? elem).map (·.size) = some k)
    (hg : w.heap[g]? = some (.cells cur.toArray t (0, 0))) (hm : m = Nat.min sLen dLen) (hn : cs.length = m * k)
    (hsrc : ∀ j v, cs[j]? = some v → w.cell? ⟨sb, so + j, none⟩ = some v) (hfit : o + cs.length ≤ cur.length) (h1 : ∀ v ∈ cs, v.oneCell' = true) :
    (Builtin.copy_ #[dT, sT] ty #[.slice (some ⟨g, o, none⟩) dLen dCap, .slice (some ⟨sb, so, none⟩) sLen sCap]).run P w = .ok (goInt m) (w.setRow g (splice cur o cs).toArray) := by
  have hl := run_loadCells_list (P := P) w ⟨sb, so, none⟩ cs (fun j v hj => by rw [Addr.add_lit]; exact hsrc j v hj)
  have hst := run_storeCells_at P g o t cs 0 cur.toArray w hg (by simpa using hfit) h1
  cases hq : P.info? elem with
  | none => simp [hq] at hs
  | some i =>
    have hi : i.size = k := by simpa [hq] using hs
    rw [hn] at hl
    simp only [Nat.add_zero, List.append_assoc] at hst
    simp [Builtin.copy_, run_underlying hu, Builtin.lenOf, Builtin.firstCells, sizeOf, typeInfo, hq, hi, ← hm, hl, hst, splice]
/-- 'copy' as a step of the walk: the row that is written is the call's own -/
theorem wp_copyK {o : Oper} {a : Act} {w : World} {K : Act → World → Prop} {Q : Exit → Act → World → Prop} (d s : Operand) (dT sT : TypeId)
    (ho : o.op = .call { callee := .builtin .copy, args := #[d, s], argTypes := #[dT, sT] }) (elem : TypeId) (k : Nat) (hu : P.underlying dT = some (.slice elem)) (hsz : (P.info? elem).map (·.size) = some k)
    (g o1 dLen dCap sb s1 sLen sCap : Nat) (hd : a.eval d = .slice (some ⟨g, o1, none⟩) dLen dCap) (hs : a.eval s = .slice (some ⟨sb, s1, none⟩) sLen sCap)
    (cur : List Value) (t : TypeId) (hg : w.heap[g]? = some (.cells cur.toArray t (0, 0))) (cs : List Value) (m off so : Nat) (hm : m = Nat.min sLen dLen) (hn : cs.length = m * k) (ho1 : o1 = off) (hs1 : s1 = so)
    (hsrc : ∀ j v, cs[j]? = some v → w.cell? ⟨sb, so + j, none⟩ = some v) (hfit : off + cs.length ≤ cur.length) (h1 : ∀ v ∈ cs, v.oneCell' = true) (B : Nat) (w0 : World) (hb : Below B w0 w) (hBg : B ≤ g)
    (h : ∀ w', Hid (w'.heap[g]? = some (.cells (splice cur off cs).toArray t (0, 0))) → Below B w0 w' → (∀ b, b ≠ g → w'.heap[b]? = w.heap[b]?) → K (a.put o.dst (goInt m)) w') : o.wp P a w K Q := by
  subst ho1; subst hs1
  have hrun := run_copyK (P := P) w dT sT o.type elem k g o1 dLen dCap sb s1 sLen sCap cur t cs m hu hsz hg hm hn hsrc hfit h1
  unfold Oper.wp
  simp only [execOp, ho, resolve, invoke, builtin, Sem.run_bind, Sem.run_pure, Result.andThen_ok, List.map_toArray, List.map_cons, List.map_nil, hd, hs, hrun]
  exact h _ (show _ = _ by simpa using setRow_heap w g _ _ t _ hg) (below_setRow hb hBg _) (fun b hb' => setRow_other w g b _ hb')
theorem wpList_copyK {w : World} {ops : Array Oper} {rest : List Oper} {o : Oper} {a : Act} {Q : Exit → Act → World → Prop} (hgd : o.guard = none) (d s : Operand) (dT sT : TypeId)
    (ho : o.op = .call { callee := .builtin .copy, args := #[d, s], argTypes := #[dT, sT] }) (elem : TypeId) (k : Nat) (hu : P.underlying dT = some (.slice elem)) (hsz : (P.info? elem).map (·.size) = some k)
    (g o1 dLen dCap sb s1 sLen sCap : Nat) (hd : a.eval d = .slice (some ⟨g, o1, none⟩) dLen dCap) (hs : a.eval s = .slice (some ⟨sb, s1, none⟩) sLen sCap)
    (cur : List Value) (t : TypeId) (hg : w.heap[g]? = some (.cells cur.toArray t (0, 0))) (cs : List Value) (m off so : Nat) (hm : m = Nat.min sLen dLen) (hn : cs.length = m * k) (ho1 : o1 = off) (hs1 : s1 = so)
    (hsrc : ∀ j v, cs[j]? = some v → w.cell? ⟨sb, so + j, none⟩ = some v) (hfit : off + cs.length ≤ cur.length) (h1 : ∀ v ∈ cs, v.oneCell' = true) (B : Nat) (w0 : World) (hb : Below B w0 w) (hBg : B ≤ g)
    (h : ∀ w', Hid (w'.heap[g]? = some (.cells (splice cur off cs).toArray t (0, 0))) → Below B w0 w' → (∀ b, b ≠ g → w'.heap[b]? = w.heap[b]?) → wpList P ops Q rest (a.put o.dst (goInt m)) w') : wpList P ops Q (o :: rest) a w :=
  wpList_plain hgd fun _ hK => wp_copyK d s dT sT ho elem k hu hsz g o1 dLen dCap sb s1 sLen sCap hd hs cur t hg cs m off so hm hn ho1 hs1 hsrc hfit h1 B w0 hb hBg fun w' h2 h3 h4 => hK _ _ (h w' h2 h3 h4)
/-- .. of a region that draws its order -/
theorem step_copyK {w : World} {ops : Array Oper} {o : Oper} {a : Act} {K : Act → World → Prop} {Q : Exit → Act → World → Prop} {E : Prop} (hgd : o.guard = none) (d s : Operand) (dT sT : TypeId)
    (ho : o.op = .call { callee := .builtin .copy, args := #[d, s], argTypes := #[dT, sT] }) (elem : TypeId) (k : Nat) (hu : P.underlying dT = some (.slice elem)) (hsz : (P.info? elem).map (·.size) = some k)
    (g o1 dLen dCap sb s1 sLen sCap : Nat) (hd : a.eval d = .slice (some ⟨g, o1, none⟩) dLen dCap) (hs : a.eval s = .slice (some ⟨sb, s1, none⟩) sLen sCap)
    (cur : List Value) (t : TypeId) (hg : w.heap[g]? = some (.cells cur.toArray t (0, 0))) (cs : List Value) (m off so : Nat) (hm : m = Nat.min sLen dLen) (hn : cs.length = m * k) (ho1 : o1 = off) (hs1 : s1 = so)
    (hsrc : ∀ j v, cs[j]? = some v → w.cell? ⟨sb, so + j, none⟩ = some v) (hfit : off + cs.length ≤ cur.length) (h1 : ∀ v ∈ cs, v.oneCell' = true) (B : Nat) (w0 : World) (hb : Below B w0 w) (hBg : B ≤ g)
    (h : ∀ w', Hid (w'.heap[g]? = some (.cells (splice cur off cs).toArray t (0, 0))) → Below B w0 w' → (∀ b, b ≠ g → w'.heap[b]? = w.heap[b]?) → K (a.put o.dst (goInt m)) w') :
    if Region.wanted o (yielded ops a.tmps) = true then Oper.wp P o a w K Q else E := by
  have hw : Region.wanted o (yielded ops a.tmps) = true := by simp [Region.wanted, hgd]
  rw [if_pos hw]
  exact wp_copyK d s dT sT ho elem k hu hsz g o1 dLen dCap sb s1 sLen sCap hd hs cur t hg cs m off so hm hn ho1 hs1 hsrc hfit h1 B w0 hb hBg h
end
/-- into a row with room: what stood from C1's end on goes V's length further, V comes in its place -/
theorem splice_room {α : Type} (C1 C2 R V : List α) (h : V.length ≤ R.length) : splice (splice (C1 ++ C2 ++ R) (C1.length + V.length) C2) C1.length V = C1 ++ V ++ C2 ++ R.drop V.length := by
  have e1 : (C1 ++ C2 ++ R).take (C1.length + V.length) = C1 ++ (C2 ++ R).take V.length := by
    rw [List.append_assoc, List.take_append, Nat.add_sub_cancel_left, List.take_of_length_le (by omega)]
  have e2 : (C1 ++ C2 ++ R).drop (C1.length + V.length + C2.length) = R.drop V.length := by
    rw [show C1.length + V.length + C2.length = (C1 ++ C2).length + V.length by simp; omega, List.drop_append]
    simp
  have e3 : ((C2 ++ R).take V.length).length = V.length := by simp; omega
  unfold splice
  rw [e1, e2]
  have e4 : (C1 ++ (C2 ++ R).take V.length ++ (C2 ++ R.drop V.length)).take C1.length = C1 := by rw [List.append_assoc, List.take_append]; simp
  have e5 : (C1 ++ (C2 ++ R).take V.length ++ (C2 ++ R.drop V.length)).drop (C1.length + V.length) = C2 ++ R.drop V.length := by
    rw [List.drop_append_of_le_length (by simp; omega), List.drop_eq_nil_of_le (by simp; omega)]
    rfl
  rw [e4, e5]
  simp
/-- into a new row -/
theorem splice_new {α : Type} (C1 Z1 Z2 C2 V : List α) (h : Z1.length = V.length + C2.length) : splice (splice (C1 ++ Z1 ++ Z2) C1.length V) (C1.length + V.length) C2 = C1 ++ V ++ C2 ++ Z2 := by
  have e1 : (C1 ++ Z1 ++ Z2).take C1.length = C1 := by rw [List.append_assoc, List.take_append]; simp
  have e2 : (C1 ++ Z1 ++ Z2).drop (C1.length + V.length) = Z1.drop V.length ++ Z2 := by
    rw [List.append_assoc, List.drop_append, List.drop_append]
    simp
    rw [List.drop_eq_nil_of_le (by simp), show V.length - Z1.length = 0 by omega]
    simp
  unfold splice
  rw [e1, e2]
  have e3 : (C1 ++ (V ++ (Z1.drop V.length ++ Z2))).take (C1.length + V.length) = C1 ++ V := by
    rw [← List.append_assoc, List.take_append_of_le_length (by simp)]
    exact List.take_of_length_le (by simp)
  have e4 : (C1 ++ (V ++ (Z1.drop V.length ++ Z2))).drop (C1.length + V.length + C2.length) = Z2 := by
    have : C1 ++ (V ++ (Z1.drop V.length ++ Z2)) = (C1 ++ V ++ Z1.drop V.length) ++ Z2 := by simp
    rw [this, show C1.length + V.length + C2.length = (C1 ++ V ++ Z1.drop V.length).length by simp; omega]
    exact List.drop_left
  rw [e3, e4]
  simp
theorem ownsRow_mono {w : World} {B B' : Nat} {E : TypeId} {k n : Nat} {v : Value} {xs : List Value} (h : w.ownsRow B E k v n xs) (hB : B' ≤ B) : w.ownsRow B' E k v n xs := by
  refine ⟨h.1, ?_⟩
  rcases h.2 with h | ⟨g, cap, cur, e, hg, r⟩
  · exact .inl h
  · exact .inr ⟨g, cap, cur, e, Nat.le_trans hB hg, r⟩
theorem ownsRow_cast {w : World} {B : Nat} {E : TypeId} {k n n' : Nat} {v : Value} {xs xs' : List Value} (h : w.ownsRow B E k v n xs) (hn : n = n') (hx : xs = xs') : w.ownsRow B E k v n' xs' := by
  subst hn; subst hx; exact h
theorem own_form {w : World} {B : Nat} {E : TypeId} {k n : Nat} {v : Value} {xs : List Value} (h : w.ownsRow B E k v n xs) (hv : v ≠ .slice none 0 0) : ∃ g c, v = .slice (some ⟨g, 0, none⟩) n c ∧ n ≤ c ∧ c ≤ 9223372036854775807 ∧ B ≤ g ∧ g < w.heap.size := by
  obtain ⟨hl, ⟨rfl, rfl⟩ | ⟨g, cap, cur, rfl, hg, hh, hnc, hcap, hsz, htake⟩⟩ := h
  · exact absurd rfl hv
  · exact ⟨g, cap, rfl, hnc, by simpa [maxLen] using hcap, hg, (Array.getElem?_eq_some_iff.1 hh).1⟩
end Go.Proofs.Ythojfmlnnclghaa.CpK
