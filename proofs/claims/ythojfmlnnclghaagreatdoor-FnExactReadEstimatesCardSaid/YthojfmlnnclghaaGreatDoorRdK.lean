/- Reading a line: plain words. -/
import Derived.Test.YthojfmlnnclghaaGreatDoorRdS
import Derived.Test.YthojfmlnnclghaaGreatDoorEtl
namespace Go.Proofs.YthojfmlnnclghaaGreatDoor.Rd
set_option linter.unusedVariables false
set_option linter.unusedSimpArgs false
open Go Plain Dec Etx Est

/-- the text is that of an estimate (its names have no blank) -/
def PL (l : List UInt8) (e : E5) : Prop := PN (Lib.itoa e.t) e.t ∧ noC 32 e.s.data.toList ∧ noC 32 e.o.data.toList ∧ inB e.m (-2000) 20000 = true ∧ l = lineL e
def RL (l : List UInt8) (e : E5) (b : Bool) : Prop := (b = true → PL l e) ∧ ∀ e', PL l e' → b = true ∧ e = e'
def RLr (l : List UInt8) (r : Ending) : Prop := ∃ e b, r = .returned (.tuple #[est e, .bool b]) ∧ RL l e b
theorem RL_no {l : List UInt8} {e : E5} (h : ∀ e', ¬ PL l e') : RL l e false := ⟨(fun h => Bool.noConfusion h), fun n hn => absurd hn (h n)⟩
theorem spl_noC (c : UInt8) : ∀ (n : Nat) (l : List UInt8), l.length ≤ n → ∀ x ∈ spl c l, noC c x := by
  intro n
  induction n with
  | zero =>
    intro l hl x hx
    rw [List.eq_nil_of_length_eq_zero (Nat.le_zero.1 hl), spl_no (noC_nil c)] at hx
    rw [List.mem_singleton.1 hx]; exact noC_nil c
  | succ n ih =>
    intro l hl x hx
    rcases noC_or c l with h | ⟨a, b, rfl, h⟩
    · rw [spl_no h] at hx
      rw [List.mem_singleton.1 hx]; exact h
    · have hb : b.length ≤ n := by simp only [List.length_append, List.length_cons] at hl; omega
      rw [spl_at b h] at hx
      rcases List.mem_cons.1 hx with rfl | hx
      · exact h
      · exact ih b hb x hx
theorem itoa_no (n : Int) : noC 32 (Lib.itoa n) := by
  rcases itoa_case n with ⟨_, he⟩ | ⟨_, he⟩
  · rw [he]; exact noC_cons (by decide) (dgs_noC (dec_dg _) (by decide))
  · rw [he]; exact dgs_noC (dec_dg _) (by decide)
theorem magL_no {m : Int} {c : UInt8} (h1 : (45 : UInt8) ≠ c) (h2 : (46 : UInt8) ≠ c) (h3 : dgB c = false) : noC c (magL m) := by
  unfold magL
  refine noC_app ?_ (noC_app ?_ (noC_app (noC_cons h2 (noC_nil _)) (dgs_noC (three_dg (by omega)) h3)))
  · split
    · exact noC_cons h1 (noC_nil _)
    · exact noC_nil _
  · rw [itoaN']; exact dgs_noC (dec_dg _) h3
def fnt (b : Bool) : List UInt8 := if b then [60] else []
theorem line_eq (e : E5) : lineL e = Lib.itoa e.t ++ 32 :: (e.s.data.toList ++ 32 :: (e.o.data.toList ++ 32 :: (fnt e.b ++ magL e.m))) := rfl
theorem fnt_no (b : Bool) {c : UInt8} (h : (60 : UInt8) ≠ c) : noC c (fnt b) := by
  cases b
  · exact noC_nil _
  · exact noC_cons h (noC_nil _)
theorem PL_spl {l : List UInt8} {e : E5} (h : PL l e) : spl 32 l = [Lib.itoa e.t, e.s.data.toList, e.o.data.toList, fnt e.b ++ magL e.m] := by
  rw [h.2.2.2.2, line_eq, spl_at _ (itoa_no _), spl_at _ h.2.1, spl_at _ h.2.2.1, spl_no (noC_app (fnt_no _ (by decide)) (magL_no (by decide) (by decide) (by decide)))]
theorem magL_first {m : Int} : Lib.hasPrefix (magL m) [60] = false := by
  have h : noC 60 (magL m) := magL_no (by decide) (by decide) (by decide)
  cases hl : magL m with
  | nil => rfl
  | cons x r =>
    rw [hl] at h
    rw [Lib.hasPrefix]
    simp only [List.isPrefixOf, Bool.and_true, beq_eq_false_iff_ne]
    exact fun e => h x List.mem_cons_self e.symm
theorem PL_mag {l : List UInt8} {e : E5} (h : PL l e) : Lib.hasPrefix (fnt e.b ++ magL e.m) [60] = e.b ∧ Lib.trimPrefix (fnt e.b ++ magL e.m) [60] = magL e.m := by
  cases e.b
  · have h1 : Lib.hasPrefix (fnt false ++ magL e.m) [60] = false := magL_first
    exact ⟨h1, by rw [Lib.trimPrefix, if_neg (by rw [h1]; exact Bool.false_ne_true)]; rfl⟩
  · have h1 : Lib.hasPrefix (fnt true ++ magL e.m) [60] = true := by simp [fnt, Lib.hasPrefix]
    exact ⟨h1, by rw [Lib.trimPrefix, if_pos h1]; rfl⟩
theorem trim_back (w : List UInt8) : fnt (Lib.hasPrefix w [60]) ++ Lib.trimPrefix w [60] = w := by
  cases hp : Lib.hasPrefix w [60]
  · rw [Lib.trimPrefix, if_neg (by rw [hp]; exact Bool.false_ne_true)]; rfl
  · rw [Lib.trimPrefix, if_pos hp]
    cases w with
    | nil => cases hp
    | cons x r =>
      have : 60 = x := by simpa [Lib.hasPrefix] using hp
      rw [← this]; rfl
/-- put together: what the readers of the parts say of the line -/
theorem RL_of {l A B C D : List UInt8} {t m : Int} {f b1 b2 : Bool} (hs : spl 32 l = [A, B, C, D]) (hf : Lib.hasPrefix D [60] = f) (h1 : RN A t b1) (h2 : RM (Lib.trimPrefix D [60]) m b2) :
    RL l ⟨t, ⟨B.toArray⟩, ⟨C.toArray⟩, m, f⟩ (b1 && b2) := by
  constructor
  · intro hb
    rw [Bool.and_eq_true] at hb
    have p1 := h1.1 hb.1
    have p2 := h2.1 hb.2
    have hn := spl_noC 32 _ l (Nat.le_refl _)
    rw [hs] at hn
    have hj := jn_spl 32 _ l (Nat.le_refl _)
    rw [hs] at hj
    refine ⟨by rw [← p1.2.1]; exact p1, hn B (by simp), hn C (by simp), p2.1, ?_⟩
    rw [line_eq, ← hj]
    show A ++ 32 :: (B ++ 32 :: (C ++ 32 :: D)) = _
    simp only
    rw [← p1.2.1, ← p2.2, ← hf, trim_back]
  · intro e' he
    have e1 := PL_spl he
    rw [hs] at e1
    obtain ⟨eA, e2⟩ := List.cons.inj e1
    obtain ⟨eB, e3⟩ := List.cons.inj e2
    obtain ⟨eC, e4⟩ := List.cons.inj e3
    have eD := (List.cons.inj e4).1
    obtain ⟨m1, m2⟩ := PL_mag he
    rw [← eD] at m1 m2
    obtain ⟨x1, x2⟩ := h1.2 e'.t (eA ▸ he.1)
    obtain ⟨x3, x4⟩ := h2.2 e'.m ⟨he.2.2.2.1, m2⟩
    refine ⟨by rw [x1, x3]; rfl, ?_⟩
    obtain ⟨t', s', o', m', b'⟩ := e'
    dsimp only at *
    rw [eB, eC, x2, x4, ← hf, m1]
end Go.Proofs.YthojfmlnnclghaaGreatDoor.Rd
