/- Reading the text of a list of estimates: plain words. -/
import Derived.Test.YthojfmlnnclghaaGreatDoorRdK
import Derived.Test.YthojfmlnnclghaaGreatDoorEti
import Derived.Test.YthojfmlnnclghaaGreatDoorChoE
namespace Go.Proofs.YthojfmlnnclghaaGreatDoor.Rd
set_option linter.unusedVariables false
set_option linter.unusedSimpArgs false
open Go Plain Dec Etx Est OkE ChoE Es1 Name Num

theorem dec_len (k : Nat) : ∀ u, u < 10 ^ (k + 1) → (Lib.decDigits u).length ≤ k + 1 := by
  induction k with
  | zero =>
    intro u hu
    rw [Lib.decDigits, dif_pos (by simpa using hu)]
    exact Nat.le_refl _
  | succ k ih =>
    intro u hu
    rcases Decidable.em (u < 10) with h | h
    · rw [Lib.decDigits, dif_pos h, List.length_singleton]; omega
    · have h1 := ih (u / 10) (by rw [Nat.pow_succ] at hu; omega)
      rw [Lib.decDigits, dif_neg h, List.length_append, List.length_singleton]
      omega
theorem PN_t {n : Int} (h0 : 0 ≤ n) (h1 : n ≤ 10000000) : PN (Lib.itoa n) n := by
  refine ⟨⟨by omega, by omega⟩, rfl, ?_⟩
  rw [trim_itoa]
  have := dec_len 17 n.natAbs (Nat.lt_of_le_of_lt (show n.natAbs ≤ 10000000 by omega) (by decide))
  omega
theorem name_no {s : ByteArray} (h : nmOk s = true) {c : UInt8} (hc : c = 32 ∨ c = 10) : noC c s.data.toList := by
  simp only [nmOk, Bool.and_eq_true, decide_eq_true_eq] at h
  intro x hx e
  obtain ⟨i, hi, hxi⟩ := List.getElem_of_mem hx
  have hi' : i < s.size := by rw [Array.length_toList] at hi; exact hi
  have hb := allB_iff.1 h.2 i hi'
  obtain ⟨y, hy, h8⟩ := by8_list hi'
  rw [List.getElem?_eq_getElem hi, hxi] at hy
  have hxy := Option.some.inj hy
  rw [h8, ← hxy, e] at hb
  rcases hc with rfl | rfl <;> simp [nmB] at hb
theorem PL_one {e : E5} (h : oneE e = true) : PL (lineL e) e := by
  have hb := oneE_bd h
  simp only [oneE, Bool.and_eq_true] at h
  exact ⟨PN_t hb.1.1 hb.1.2, name_no h.1.1.2 (Or.inl rfl), name_no h.1.2 (Or.inl rfl), hb.2.2.2, rfl⟩
theorem itoa_no10 (n : Int) : noC 10 (Lib.itoa n) := by
  rcases itoa_case n with ⟨_, he⟩ | ⟨_, he⟩
  · rw [he]; exact noC_cons (by decide) (dgs_noC (dec_dg _) (by decide))
  · rw [he]; exact dgs_noC (dec_dg _) (by decide)
theorem line_no {e : E5} (h : oneE e = true) : noC 10 (lineL e) := by
  simp only [oneE, Bool.and_eq_true] at h
  rw [line_eq]
  refine noC_app (itoa_no10 _) (noC_cons (by decide) (noC_app (name_no h.1.1.2 (Or.inr rfl)) (noC_cons (by decide) (noC_app (name_no h.1.2 (Or.inr rfl)) (noC_cons (by decide) (noC_app (fnt_no _ (by decide)) (magL_no (by decide) (by decide) (by decide))))))))
theorem PL_RL {l : List UInt8} {e : E5} (h : PL l e) : RL l e true := by
  obtain ⟨m1, m2⟩ := PL_mag h
  have h1 : RN (Lib.itoa e.t) e.t true := RN_yes h.1
  have h2 : RM (Lib.trimPrefix (fnt e.b ++ magL e.m) [60]) e.m true := RM_yes ⟨h.2.2.2.1, m2⟩
  have := RL_of (PL_spl h) m1 h1 h2
  obtain ⟨t, ⟨⟨s⟩⟩, ⟨⟨o⟩⟩, m, b⟩ := e
  exact this
/-- the text of estimates, a line each -/
def txT : List E5 → List UInt8
  | [] => []
  | e :: r => lineL e ++ 10 :: txT r
theorem txT_app (a b : List E5) : txT (a ++ b) = txT a ++ txT b := by
  induction a with
  | nil => rfl
  | cons e a ih => rw [List.cons_append, txT, txT, ih, List.append_assoc]; rfl
theorem txT_snoc (a : List E5) (e : E5) : txT (a ++ [e]) = txT a ++ (lineL e ++ [10]) := by rw [txT_app]; rfl
theorem txL_take (L : List E5) : ∀ k, k ≤ L.length → txtL (leE L) k = txT (L.take k) := by
  intro k
  induction k with
  | zero => intro _; rw [List.take_zero]; rfl
  | succ k ih =>
    intro hk
    have hx : leE L k = L[k] := by rw [leE, List.getD_eq_getElem?_getD, List.getElem?_eq_getElem hk]; rfl
    rw [txtL, ih (by omega), hx, List.take_succ_eq_append_getElem hk, txT_snoc]
theorem txL_eq (L : List E5) : txtL (leE L) L.length = txT L := by rw [txL_take L _ (Nat.le_refl _), List.take_length]
/-- the list is the one whose text it is -/
def PE (l : List UInt8) (L : List E5) : Prop := okE L.length (leE L) = true ∧ l = txT L
theorem PE_len {l : List UInt8} {L : List E5} (h : PE l L) : L.length ≤ 100 := okE_le h.1
theorem PE_one {l : List UInt8} {L : List E5} (h : PE l L) : ∀ e ∈ L, oneE e = true := by
  intro e he
  obtain ⟨i, hi, rfl⟩ := List.getElem_of_mem he
  have := (okE_at h.1 i hi).1
  rwa [show leE L i = L[i] by rw [leE, List.getD_eq_getElem?_getD, List.getElem?_eq_getElem hi]; rfl] at this
/-- the lines of a text -/
theorem txT_spl {L : List E5} (h : ∀ e ∈ L, oneE e = true) : spl 10 (txT L) = L.map lineL ++ [[]] := by
  induction L with
  | nil => rfl
  | cons e L ih =>
    rw [txT, spl_at _ (line_no (h e List.mem_cons_self)), ih (fun x hx => h x (List.mem_cons_of_mem _ hx))]
    rfl
theorem txT_cut {e : E5} {L : List E5} (h : oneE e = true) : Lib.cut (txT (e :: L)) [10] = (lineL e, txT L, true) := by
  rw [txT]; exact cut_at _ (line_no h)
theorem txT_jn (L : List E5) : jn 10 (L.map lineL ++ [[]]) = txT L := by
  induction L with
  | nil => rfl
  | cons e L ih =>
    rw [txT, ← ih]
    cases h : (L.map lineL ++ [[]]) with
    | nil => simp at h
    | cons x y => rw [List.map_cons, List.cons_append, h]; rfl
/-- the list is what has been read and what is left -/
def Lft (l : List UInt8) (F : List E5) (R : List UInt8) : Prop := ∀ L, PE l L → ∃ M, L = F ++ M ∧ R = txT M
theorem Lft_zero (l : List UInt8) : Lft l [] l := fun L h => ⟨L, rfl, h.2⟩
theorem Lft_cons {l R : List UInt8} {F : List E5} (h : Lft l F R) (hR : R ≠ []) {L : List E5} (hL : PE l L) : ∃ e M, L = F ++ e :: M ∧ R = txT (e :: M) ∧ oneE e = true := by
  obtain ⟨M, e1, e2⟩ := h L hL
  cases M with
  | nil => exact absurd e2 hR
  | cons e M => exact ⟨e, M, e1, e2, PE_one hL e (by rw [e1]; simp)⟩
/-- a hundred have been read and more is left -/
theorem Lft_big {l R : List UInt8} {F : List E5} (h : Lft l F R) (hR : R ≠ []) (hF : F.length = 100) : ∀ L, ¬ PE l L := by
  intro L hL
  obtain ⟨e, M, e1, _⟩ := Lft_cons h hR hL
  have := PE_len hL
  rw [e1, List.length_append, List.length_cons] at this
  omega
/-- a line that is no estimate's -/
theorem Lft_bad {l R A B : List UInt8} {b : Bool} {F : List E5} (h : Lft l F R) (hR : R ≠ []) (hc : Lib.cut R [10] = (A, B, b)) (hA : ∀ e, ¬ PL A e) : ∀ L, ¬ PE l L := by
  intro L hL
  obtain ⟨e, M, e1, e2, e3⟩ := Lft_cons h hR hL
  rw [e2, txT_cut e3] at hc
  exact hA e ((Prod.mk.inj hc).1 ▸ PL_one e3)
theorem Lft_next {l R A B : List UInt8} {b : Bool} {F : List E5} {e : E5} (h : Lft l F R) (hR : R ≠ []) (hc : Lib.cut R [10] = (A, B, b)) (hA : PL A e) : Lft l (F ++ [e]) B := by
  intro L hL
  obtain ⟨x, M, e1, e2, e3⟩ := Lft_cons h hR hL
  rw [e2, txT_cut e3] at hc
  have c1 := (Prod.mk.inj hc).1
  have c2 := (Prod.mk.inj (Prod.mk.inj hc).2).1
  have hx := ((PL_RL hA).2 x (c1 ▸ PL_one e3)).2
  exact ⟨M, by rw [e1, hx, List.append_assoc]; rfl, c2.symm⟩
theorem Lft_end {l : List UInt8} {F : List E5} (h : Lft l F []) {L : List E5} (hL : PE l L) : L = F := by
  obtain ⟨M, e1, e2⟩ := h L hL
  cases M with
  | nil => rw [e1, List.append_nil]
  | cons e M =>
    exfalso
    have := congrArg List.length e2
    rw [txT, List.length_append, List.length_cons] at this
    simp at this
theorem Lft_yes {l : List UInt8} {F : List E5} (h1 : okE F.length (leE F) = true) (h2 : txT F = l) : PE l F := ⟨h1, h2.symm⟩
theorem map_inj : ∀ {L M : List E5}, (∀ e ∈ L, PL (lineL e) e) → (∀ e ∈ M, PL (lineL e) e) → L.map lineL = M.map lineL → L = M := by
  intro L
  induction L with
  | nil => intro M _ _ h; cases M with
    | nil => rfl
    | cons x M => cases h
  | cons e L ih => intro M o1 o2 h; cases M with
    | nil => cases h
    | cons x M =>
      rw [List.map_cons, List.map_cons] at h
      obtain ⟨c1, c2⟩ := List.cons.inj h
      have hx := ((PL_RL (o1 e List.mem_cons_self)).2 x (c1 ▸ o2 x List.mem_cons_self)).2
      rw [hx, ih (fun y hy => o1 y (List.mem_cons_of_mem _ hy)) (fun y hy => o2 y (List.mem_cons_of_mem _ hy)) c2]
theorem PE_inj {l : List UInt8} {L M : List E5} (h : PE l L) (h' : PE l M) : L = M := by
  have e1 := txT_spl (PE_one h)
  have e2 := txT_spl (PE_one h')
  rw [← h.2] at e1
  rw [← h'.2, e1] at e2
  exact map_inj (fun e he => PL_one (PE_one h e he)) (fun e he => PL_one (PE_one h' e he)) (List.append_cancel_right e2)
/-- what has been read of the lines -/
def Lns (P : List (List UInt8)) (F : List E5) : Prop := P.take F.length = F.map lineL ∧ ∀ e ∈ F, PL (lineL e) e
theorem Lns_zero (P : List (List UInt8)) : Lns P [] := ⟨rfl, fun e h => by cases h⟩
theorem Lns_next {P : List (List UInt8)} {F : List E5} {e : E5} {A : List UInt8} (h : Lns P F) (hA : P[F.length]? = some A) (hP : PL A e) : Lns P (F ++ [e]) := by
  have hl : A = lineL e := hP.2.2.2.2
  refine ⟨?_, fun x hx => ?_⟩
  · rw [List.length_append, List.length_singleton, List.take_add_one, h.1, hA, hl, List.map_append]
    rfl
  · rcases List.mem_append.1 hx with hx | hx
    · exact h.2 x hx
    · rw [List.mem_singleton.1 hx, ← hl]; exact hP
theorem PE_P {l : List UInt8} {L : List E5} (h : PE l L) : spl 10 l = L.map lineL ++ [[]] := by
  rw [h.2]; exact txT_spl (PE_one h)
/-- a line that is no estimate's -/
theorem Lns_bad {l A : List UInt8} {k : Nat} (hA : (spl 10 l)[k]? = some A) (hk : k + 1 < (spl 10 l).length) (hn : ∀ e, ¬ PL A e) : ∀ L, ¬ PE l L := by
  intro L hL
  have hp := PE_P hL
  rw [hp] at hA hk
  simp only [List.length_append, List.length_map, List.length_singleton] at hk
  rw [List.getElem?_append_left (by rw [List.length_map]; omega), List.getElem?_map, List.getElem?_eq_getElem (by omega)] at hA
  have e := Option.some.inj hA
  exact hn (L[k]'(by omega)) (e ▸ PL_one (PE_one hL _ (List.getElem_mem _)))
theorem Lns_end {l : List UInt8} {F : List E5} (h : Lns (spl 10 l) F) (hl : F.length + 1 = (spl 10 l).length) (h0 : (spl 10 l)[F.length]? = some []) : txT F = l ∧ ∀ L, PE l L → L = F := by
  have hs : spl 10 l = F.map lineL ++ [[]] := by
    rw [← h.1]
    have := List.take_append_drop F.length (spl 10 l)
    have hd : (spl 10 l).drop F.length = [[]] := by
      rw [List.drop_eq_getElem_cons (by omega), List.drop_eq_nil_of_le (by omega)]
      rw [List.getElem?_eq_getElem (by omega)] at h0
      rw [Option.some.inj h0]
    rw [hd] at this
    exact this.symm
  refine ⟨?_, fun L hL => ?_⟩
  · rw [← txT_jn F, ← hs, jn_spl 10 _ l (Nat.le_refl _)]
  · have hp := PE_P hL
    rw [hs] at hp
    exact (map_inj h.2 (fun e he => PL_one (PE_one hL e he)) (List.append_cancel_right hp)).symm
theorem PE_last {l : List UInt8} {L : List E5} (h : PE l L) : (spl 10 l).length = L.length + 1 ∧ (spl 10 l)[L.length]? = some [] := by
  rw [PE_P h]
  refine ⟨by simp, ?_⟩
  rw [List.getElem?_append_right (by rw [List.length_map]; exact Nat.le_refl _), List.length_map, Nat.sub_self]
  rfl
end Go.Proofs.YthojfmlnnclghaaGreatDoor.Rd
