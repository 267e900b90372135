/- Labels put one by one. -/
import Derived.Test.YtpkkeoapndpikaaDoorLab2
import Derived.Test.YtpkkeoapndpikaaDoorHelp
namespace Go.Proofs.YtpkkeoapndpikaaDoor.Lab
set_option linter.unusedVariables false
set_option linter.unusedSimpArgs false
set_option maxRecDepth 8000
open Go.RowKit Plain Num View Chart Frac Dec Txt

theorem okChart_mk {n : Nat} {X Y M : Nat → Int} (h : okChart n X Y M = true) : ∀ i, i < n → okMark (X i) (Y i) (M i) = true := by
  intro i hi
  have h2 := allB_iff.1 (Bool.and_eq_true_iff.1 h).2 i hi
  exact (Bool.and_eq_true_iff.1 h2).1
/-- the box of mark i on side s -/
def bxA (X Y M : Nat → Int) (i : Nat) (s : Int) : Nat → Int := bxM (X i) (Y i) (M i) s
/-- the next label, on side s, overlaps none of those before -/
def fits (X Y M : Nat → Int) (S : List Int) (s : Int) (i : Nat) : Bool := !meet (bxA X Y M i (lf S i)) (bxA X Y M S.length s)
/-- the first of the sides 4 - j .. 3 with an answer -/
def orF (f : Int → Option (List Int)) : Nat → Option (List Int)
  | 0 => none
  | j + 1 => (f (4 - (j + 1 : Nat))).or (orF f j)
/-- the labels put behind those whose sides are S: r more -/
def pt (X Y M : Nat → Int) : Nat → List Int → Option (List Int)
  | 0, S => some S
  | r + 1, S => orF (fun s => if allB S.length (fits X Y M S s) = true then pt X Y M r (S ++ [s]) else none) 4
def ptF (X Y M : Nat → Int) (r : Nat) (S : List Int) (s : Int) : Option (List Int) := if allB S.length (fits X Y M S s) = true then pt X Y M r (S ++ [s]) else none
theorem pt_succ (X Y M : Nat → Int) (r : Nat) (S : List Int) : pt X Y M (r + 1) S = orF (ptF X Y M r S) 4 := rfl
theorem orF_next {f : Int → Option (List Int)} {s : Nat} (hs : s < 4) (h : f (s : Int) = none) : orF f (4 - s) = orF f (4 - (s + 1)) := by
  obtain ⟨j, hj⟩ : ∃ j, 4 - s = j + 1 := ⟨3 - s, by omega⟩
  rw [hj, show 4 - (s + 1) = j by omega, orF, show (4 : Int) - ((j + 1 : Nat) : Int) = s by omega, h]
  rfl
theorem orF_hit {f : Int → Option (List Int)} {s : Nat} {L : List Int} (hs : s < 4) (h : f (s : Int) = some L) : orF f (4 - s) = some L := by
  obtain ⟨j, hj⟩ : ∃ j, 4 - s = j + 1 := ⟨3 - s, by omega⟩
  rw [hj, orF, show (4 : Int) - ((j + 1 : Nat) : Int) = s by omega, h]
  rfl
theorem pt_len {X Y M : Nat → Int} : ∀ {r : Nat} {S L : List Int}, pt X Y M r S = some L → L.length = S.length + r := by
  intro r
  induction r with
  | zero => intro S L h; cases h; rfl
  | succ r ih =>
    intro S L h
    rw [pt_succ] at h
    have : ∀ j, orF (ptF X Y M r S) j = some L → L.length = S.length + (r + 1) := by
      intro j
      induction j with
      | zero => intro h; cases h
      | succ j ihj =>
        intro h
        rw [orF] at h
        cases hp : ptF X Y M r S (4 - (j + 1 : Nat)) with
        | none => rw [hp] at h; exact ihj h
        | some l =>
          rw [hp] at h
          cases h
          unfold ptF at hp
          split at hp
          · have := ih hp
            rw [List.length_append, List.length_singleton] at this
            omega
          · cases hp
    exact this _ h
/-- the cells of a slice of numbers, as they are copied -/
theorem Sl.newsL {w : World} {k c : Nat} {ad : Addr} {S : List Int} (hk : S.length = k) (h : Sl w 1 (some ad) k c (f1 (lf S))) : ∀ (j : Nat) (u : Value), (cellL S)[j]? = some u → w.cell? (ad.add j) = some u := by
  subst hk
  intro j u hj
  have hlt : j < S.length := by
    have := (List.getElem?_eq_some_iff.1 hj).1
    rwa [cellL_len] at this
  obtain ⟨b, off, e, _, hc⟩ := h.at_ (by omega)
  injection e with e
  subst e
  have h0 := cells1 hc j hlt
  have h1 := cellL_at S j hlt 0 (by omega)
  rw [Nat.mul_one, Nat.add_zero] at h1
  rw [hj] at h1
  injection h1 with h1
  rw [add_at, h0, h1]
  rfl
theorem one_L {S : List Int} : ∀ u ∈ cellL S, u.oneCell' = true := by simp [cellL, Value.oneCell']
theorem fits_yes {X Y M : Nat → Int} {S : List Int} {s : Int} {j : Nat} (h : meet (bxA X Y M j (lf S j)) (bxA X Y M S.length s) = false) : fits X Y M S s j = true := by rw [fits, h]; rfl
theorem fits_no {X Y M : Nat → Int} {S : List Int} {s : Int} {j : Nat} (h : meet (bxA X Y M j (lf S j)) (bxA X Y M S.length s) = true) : fits X Y M S s j = false := by rw [fits, h]; rfl
theorem allB_succ (k : Nat) (p : Nat → Bool) : allB (k + 1) p = (allB k p && p k) := rfl
theorem c_copyOf64 (ad : Addr) (k c : Nat) (S : List Int) (w : World) (hk : S.length = k) (hv : Sl w 1 (some ad) k c (f1 (lf S))) :
    Calls Tryd.prog 78 #[.slice (some ad) k c] w fun e w' => ∃ v, e = .returned v ∧ w'.ownsRow w.heap.size 2 1 v S.length (cellL S) ∧ Below w.heap.size w w' := by
  have hn := hv.le
  obtain ⟨i0, hi0, hz0, hz1, hz2⟩ := info_parts Help.infoInt64
  have ho : (w.alloc (.cells #[] 2)).ownsRow w.heap.size 2 1 (.slice (some ⟨w.heap.size, 0, none⟩) 0 0) 0 [] := World.ownsRow_made _ _ _ (by omega) (by simp [maxLen]) rfl
  go_enter Tryd.func78, Tryd.ntmps78
  go_wp2_with (at_builtin; refine wpList_append_own _ rfl _ _ 38 rfl (w.heap.size) 2 i0 _ 1 8 Tryd.underlying38 hi0 hz0 hz1 hz2 rfl (by decide) _ _ _ rfl ho ad k c (cellL S) rfl (by rw [cellL_len, hk, Nat.mul_one]) (Sl.newsL hk (hv.below (by repeat' (first | (with_reducible exact Below.refl _ _) | (with_reducible assumption) | (with_reducible refine Base.grow_alloc ?_ _) | (with_reducible refine Base.below_drewN ?_ _) | (with_reducible refine Below.drew ?_) | (with_reducible refine Below.setCell ?_ ?_ _) | go_size)))) one_L (by simp only [maxLen]; omega) (by omega) (by simp) ?_)
  intro v' w1 hown' hgrow _
  have hb1 : Below w.heap.size w w1 := own_grow (by repeat' (first | (with_reducible exact Below.refl _ _) | (with_reducible assumption) | (with_reducible refine Base.grow_alloc ?_ _) | (with_reducible refine Base.below_drewN ?_ _) | (with_reducible refine Below.drew ?_) | (with_reducible refine Below.setCell ?_ ?_ _) | go_size)) ho (Nat.le_refl _) hgrow
  go_wp2
  go_ret
  exact ⟨_, rfl, (by rw [hk]; first | exact hown' | simpa using hown'), hb1⟩
theorem c_l00Own (ad : Addr) (k c : Nat) (S : List Int) (w : World) (hk : S.length = k) (hv : Sl w 1 (some ad) k c (f1 (lf S))) :
    Calls Tryd.prog 76 #[.slice (some ad) k c] w fun e w' => ∃ v, e = .returned v ∧ w'.ownsRow w.heap.size 2 1 v S.length (cellL S) ∧ Below w.heap.size w w' := by
  have hn := hv.le
  obtain ⟨i0, hi0, hz0, hz1, hz2⟩ := info_parts Help.infoInt64
  have ho : (w.alloc (.cells #[] 2)).ownsRow w.heap.size 2 1 (.slice (some ⟨w.heap.size, 0, none⟩) 0 0) 0 [] := World.ownsRow_made _ _ _ (by omega) (by simp [maxLen]) rfl
  go_enter Tryd.func76, Tryd.ntmps76
  go_wp2_with (at_builtin; refine wpList_append_own _ rfl _ _ 38 rfl (w.heap.size) 2 i0 _ 1 8 Tryd.underlying38 hi0 hz0 hz1 hz2 rfl (by decide) _ _ _ rfl ho ad k c (cellL S) rfl (by rw [cellL_len, hk, Nat.mul_one]) (Sl.newsL hk (hv.below (by repeat' (first | (with_reducible exact Below.refl _ _) | (with_reducible assumption) | (with_reducible refine Base.grow_alloc ?_ _) | (with_reducible refine Base.below_drewN ?_ _) | (with_reducible refine Below.drew ?_) | (with_reducible refine Below.setCell ?_ ?_ _) | go_size)))) one_L (by simp only [maxLen]; omega) (by omega) (by simp) ?_)
  intro v' w1 hown' hgrow _
  have hb1 : Below w.heap.size w w1 := own_grow (by repeat' (first | (with_reducible exact Below.refl _ _) | (with_reducible assumption) | (with_reducible refine Base.grow_alloc ?_ _) | (with_reducible refine Base.below_drewN ?_ _) | (with_reducible refine Below.drew ?_) | (with_reducible refine Below.setCell ?_ ?_ _) | go_size)) ho (Nat.le_refl _) hgrow
  go_wp2
  go_ret
  exact ⟨_, rfl, (by rw [hk]; first | exact hown' | simpa using hown'), hb1⟩
end Go.Proofs.YtpkkeoapndpikaaDoor.Lab
