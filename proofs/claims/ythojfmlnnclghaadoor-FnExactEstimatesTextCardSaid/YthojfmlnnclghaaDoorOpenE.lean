/- What came in, opened: slices of estimates and one estimate by value. -/
import Derived.Test.YthojfmlnnclghaaDoorOpen
import Derived.Test.YthojfmlnnclghaaDoorEst
namespace Go.Proofs.YthojfmlnnclghaaDoor.OpenE
set_option linter.unusedVariables false
set_option linter.unusedSimpArgs false
open Go.ChangeShapes Go.WideShapes Go.ChangeAt Go.RowKit Go.Joins Go.Deep View Go.Proofs.YthojfmlnnclghaaDoor.Open Est

section
variable {H : Type} {enc : TypeId × Value → H} {P : Program} {W : World} {base : Nat} {r : Reach} {b0 : Nat}
theorem openSv {t e : TypeId} {fs : Array Field} {v : Value} {d : DataW H} {p : List MemPlace} {Q : Nat → Value → Prop} (hone : oneCellFields P fs = true) (hC : P.cellsOf e = fs.size) (hpos : 0 < fs.size) (ht : P.underlying t = some (.slice e)) (he : P.underlying e = some (.struct fs))
    (hall : ∀ (j : Nat) (f : Field), fs[j]? = some f → ∀ fuel cs x, DataW.trod enc P W 0 (fun _ => true) true fuel f.type cs = some x → ∃ u, cs = [u] ∧ Q j u) (hv : Value.okWide P W r b0 t v) (h : DataW.Trod enc P W 0 (fun _ => true) true t v d p) :
    ∃ (A : Option Addr) (n c : Nat) (g : Nat → Nat → Value), v = .slice A n c ∧ n ≤ 9223372036854775807 ∧ (n ≤ 1048576 → Sl W fs.size A n c g ∧ ∀ i, i < n → ∀ j, j < fs.size → Q j (g i j)) := by
  obtain ⟨a0, len, cap, rfl⟩ := okWide_slice ht hv
  obtain ⟨fuel, hf⟩ := h
  rcases open_slice ht hf with ⟨hcs, hx⟩ | ⟨a, len', cap', m, n, D, Pl, hcs, hb, hl, hm, hmm, hx, hin⟩
  · simp [Value.cells] at hcs
    obtain ⟨rfl, rfl, rfl⟩ := hcs
    exact ⟨none, 0, 0, fun _ _ => undef, rfl, by omega, fun _ => ⟨Sl.nil _, fun i hi => absurd hi (by omega)⟩⟩
  · simp [Value.cells] at hcs
    obtain ⟨rfl, rfl, rfl⟩ := hcs
    simp only [if_true] at hmm
    subst hmm
    have key : ∀ i, i < len → ∀ j, j < fs.size → ∃ x : Value, W.cell? (a.add (i * fs.size + j)) = some x ∧ Q j x := by
      intro i hi' j hj
      obtain ⟨cs', hc, htr⟩ := hin i (by omega)
      rw [hC] at hc
      obtain ⟨ys, n', hn', hy, hlen, hyl, hfld⟩ := DataW.trod_struct he htr
      obtain ⟨_, hcl, hat⟩ := World.cells?_some hc
      have hj' : fs[j]? = some fs[j] := Array.getElem?_eq_getElem hj
      obtain ⟨ho, hk⟩ := hone_of hone j _ hj'
      have h1 := hfld j _ hj'
      rw [ho, hk] at h1
      have hdr : (cs'.drop j).take 1 = [cs'[j]'(by omega)] := by
        rw [List.drop_eq_getElem_cons (by omega)]
        rfl
      rw [hdr, List.getElem?_eq_getElem (by omega : j < ys.length)] at h1
      obtain ⟨u, hcx, hQ⟩ := hall j _ hj' _ _ _ h1
      simp at hcx
      refine ⟨u, ?_, hQ⟩
      rw [← Go.Deep.add_add, hat j hj, List.getElem?_eq_getElem (by omega : j < cs'.length), hcx]
    refine ⟨some a, len, m, fun i j => (W.cell? (a.add (i * fs.size + j))).getD undef, rfl, by simp [maxLen] at hm; omega, fun hn => ⟨⟨hn, hl, by simpa [maxLen] using hm, fun hp => ?_⟩, fun i hi j hj => ?_⟩⟩
    · obtain ⟨b, off, spot⟩ := a
      obtain ⟨x0, hx0, _⟩ := key 0 hp 0 hpos
      have hspot : spot = none := by simpa [Addr.add] using World.cell?_spot hx0
      subst hspot
      refine ⟨b, off, rfl, ?_, fun i hi' j hj => ?_⟩
      · have := World.block_lt_of_cell? W _ hx0
        rwa [add_plain'] at this
      · obtain ⟨x, hx', _⟩ := key i hi' j hj
        show W.cell? _ = some ((W.cell? (Addr.add ⟨b, off, none⟩ (i * fs.size + j))).getD undef)
        rw [hx', Nat.add_assoc, ← add_plain']
        exact hx'
    · obtain ⟨x, hx', hQ⟩ := key i hi j hj
      show Q j ((W.cell? (a.add (i * fs.size + j))).getD undef)
      rw [hx']
      exact hQ
/-- the shapes of an estimate's fields -/
def QE (j : Nat) (u : Value) : Prop := if j = 0 then (∃ x : Int, u = .int .i64 x) else if j = 1 then (∃ s : ByteArray, u = .string s ∧ s.size ≤ maxLen) else if j = 2 then (∃ s : ByteArray, u = .string s ∧ s.size ≤ maxLen) else if j = 3 then (∃ x : Int, u = .int .i64 x) else (∃ b : Bool, u = .bool b)
def vI : Value → Int | .int _ x => x | _ => 0
def vS : Value → ByteArray | .string s => s | _ => ⟨#[]⟩
def vB : Value → Bool | .bool b => b | _ => false
theorem qe_all {ti ts tb : TypeId} {f0 f1 f2 f3 f4 : Field} (hi : P.underlying ti = some (.int .i64)) (hs : P.underlying ts = some .string) (hb : P.underlying tb = some .bool) (e0 : f0.type = ti) (e1 : f1.type = ts) (e2 : f2.type = ts) (e3 : f3.type = ti) (e4 : f4.type = tb) :
    ∀ (j : Nat) (f : Field), #[f0, f1, f2, f3, f4][j]? = some f → ∀ fuel cs x, DataW.trod enc P W 0 (fun _ => true) true fuel f.type cs = some x → ∃ u, cs = [u] ∧ QE j u := by
  intro j f hj fuel cs x hx
  match j, hj with
  | 0, hj =>
    simp at hj; subst hj; rw [e0] at hx
    obtain ⟨y, h, _⟩ := DataW.trod_int hi hx
    exact ⟨_, h, y, rfl⟩
  | 1, hj =>
    simp at hj; subst hj; rw [e1] at hx
    obtain ⟨y, h, _, hl⟩ := DataW.trod_string hs hx
    exact ⟨_, h, y, rfl, hl⟩
  | 2, hj =>
    simp at hj; subst hj; rw [e2] at hx
    obtain ⟨y, h, _, hl⟩ := DataW.trod_string hs hx
    exact ⟨_, h, y, rfl, hl⟩
  | 3, hj =>
    simp at hj; subst hj; rw [e3] at hx
    obtain ⟨y, h, _⟩ := DataW.trod_int hi hx
    exact ⟨_, h, y, rfl⟩
  | 4, hj =>
    simp at hj; subst hj; rw [e4] at hx
    obtain ⟨y, h, _⟩ := DataW.trod_bool hb hx
    exact ⟨_, h, y, rfl⟩
  | j + 5, hj => simp at hj
theorem openSE {t e ti ts tb : TypeId} {f0 f1 f2 f3 f4 : Field} {v : Value} {d : DataW H} {p : List MemPlace} (hone : oneCellFields P #[f0, f1, f2, f3, f4] = true) (hC : P.cellsOf e = 5) (ht : P.underlying t = some (.slice e)) (he : P.underlying e = some (.struct #[f0, f1, f2, f3, f4])) (hi : P.underlying ti = some (.int .i64)) (hs : P.underlying ts = some .string) (hb : P.underlying tb = some .bool)
    (hv : Value.okWide P W r b0 t v) (h : DataW.Trod enc P W 0 (fun _ => true) true t v d p) (e0 : f0.type = ti := by rfl) (e1 : f1.type = ts := by rfl) (e2 : f2.type = ts := by rfl) (e3 : f3.type = ti := by rfl) (e4 : f4.type = tb := by rfl) :
    ∃ (A : Option Addr) (n c : Nat) (E : Nat → E5), v = .slice A n c ∧ n ≤ 9223372036854775807 ∧ (n ≤ 1048576 → Sl W 5 A n c (f5 E) ∧ ∀ i, i < n → (E i).s.size ≤ 9223372036854775807 ∧ (E i).o.size ≤ 9223372036854775807) := by
  obtain ⟨A, n, c, g, hv', hn, hg⟩ := openSv (Q := QE) hone hC (by simp) ht he (qe_all hi hs hb e0 e1 e2 e3 e4) hv h
  refine ⟨A, n, c, fun i => ⟨vI (g i 0), vS (g i 1), vS (g i 2), vI (g i 3), vB (g i 4)⟩, hv', hn, fun h1 => ⟨(hg h1).1.congr fun i hi' j hj => ?_, fun i hi' => ?_⟩⟩
  · have hj : j < 5 := hj
    have q := (hg h1).2 i hi' j hj
    obtain rfl | rfl | rfl | rfl | rfl : j = 0 ∨ j = 1 ∨ j = 2 ∨ j = 3 ∨ j = 4 := by omega
    · obtain ⟨x, hx⟩ := q
      rw [hx]; simp [f5, hx, vI]
    · obtain ⟨x, hx, _⟩ := q
      rw [hx]; simp [f5, hx, vS]
    · obtain ⟨x, hx, _⟩ := q
      rw [hx]; simp [f5, hx, vS]
    · obtain ⟨x, hx⟩ := q
      rw [hx]; simp [f5, hx, vI]
    · obtain ⟨x, hx⟩ := q
      rw [hx]; simp [f5, hx, vB]
  · obtain ⟨x, hx, lx⟩ : ∃ s : ByteArray, g i 1 = .string s ∧ s.size ≤ maxLen := (hg h1).2 i hi' 1 (show 1 < 5 by omega)
    obtain ⟨y, hy, ly⟩ : ∃ s : ByteArray, g i 2 = .string s ∧ s.size ≤ maxLen := (hg h1).2 i hi' 2 (show 2 < 5 by omega)
    simp only [hx, hy, vS]
    simp only [maxLen] at lx ly
    omega
end
end Go.Proofs.YthojfmlnnclghaaDoor.OpenE
