/- The median of numbers: both sides. -/
import Derived.Test.YtenjcdhehjdeoaaMed
import Derived.Test.YtenjcdhehjdeoaaOrd2
import Derived.Test.YtenjcdhehjdeoaaFrac
import Derived.Deep.RegionHeld3
namespace Go.Proofs.Ytenjcdhehjdeoaa.Med
set_option linter.unusedVariables false
set_option linter.unusedSimpArgs false
set_option maxRecDepth 8000
open Go.RowKit Plain Num View Frac
open Proofs.Ytenjcdhehjdeoaa.Ord (c_l00Own newsL one_L ownsRow_cast ownsRow_mono)

abbrev Up (L : List Int) : Prop := L.Pairwise (fun a b => a ≤ b)
theorem up_srt (n : Nat) (T : Nat → Int) : Up (srt n T) := by
  have h := List.pairwise_mergeSort (le := fun x y : Int => decide (x ≤ y)) (fun a b c h1 h2 => by simp only [decide_eq_true_eq] at *; omega) (fun a b => by by_cases h : a ≤ b <;> simp [h]; omega) (upto T n)
  exact h.imp fun h => by simpa using h
theorem srt_perm (n : Nat) (T : Nat → Int) : (srt n T).Perm (upto T n) := List.mergeSort_perm _ _
theorem srt_of {n : Nat} {T : Nat → Int} {L : List Int} (h1 : Up L) (h2 : L.Perm (upto T n)) : L = srt n T :=
  List.Perm.eq_of_pairwise (fun a b _ _ h h' => by omega) h1 (up_srt n T) (h2.trans (srt_perm n T).symm)
theorem lf_at {L : List Int} {i : Nat} (hi : i < L.length) : lf L i = L[i] := by simp [lf, hi]
theorem srt_bd {n : Nat} {T : Nat → Int} {a b : Int} (h : ∀ i, i < n → a ≤ T i ∧ T i ≤ b) (i : Nat) (hi : i < n) : a ≤ lf (srt n T) i ∧ lf (srt n T) i ≤ b := by
  have hl : i < (srt n T).length := by rw [srt_len]; exact hi
  have hm : lf (srt n T) i ∈ srt n T := by rw [lf_at hl]; exact List.getElem_mem hl
  have := (srt_perm n T).mem_iff.1 hm
  obtain ⟨q, q1, q2⟩ := List.mem_map.1 this
  rw [← q2]
  exact h q (List.mem_range.1 q1)
theorem up_ins {L : List Int} {j : Nat} {x : Int} (h : Up L) (h1 : ∀ q, j ≤ q → q < L.length → x < lf L q) (h2 : j = 0 ∨ (j ≤ L.length ∧ ¬ x < lf L (j - 1))) : Up (L.take j ++ [x] ++ L.drop j) := by
  have h3 : Up (L.take j ++ L.drop j) := by rw [List.take_append_drop]; exact h
  obtain ⟨p1, p2, p3⟩ := List.pairwise_append.1 h3
  have hlo : ∀ a ∈ L.take j, a ≤ x := by
    intro a ha
    rcases h2 with h2 | ⟨h2, h4⟩
    · subst h2; simp at ha
    · obtain ⟨i, hi, rfl⟩ := List.mem_iff_getElem.1 ha
      have hi' : i < j := by simp at hi; omega
      have e1 : (L.take j)[i] = L[i]'(by omega) := by simp
      rw [e1]
      have e2 : lf L (j - 1) = L[j - 1]'(by omega) := lf_at (by omega)
      rw [e2] at h4
      by_cases e : i = j - 1
      · subst e; omega
      · have := List.pairwise_iff_getElem.1 h i (j - 1) (by omega) (by omega) (by omega)
        omega
  have hhi : ∀ b ∈ L.drop j, x < b := by
    intro b hb
    obtain ⟨i, hi, rfl⟩ := List.mem_iff_getElem.1 hb
    have hi' : j + i < L.length := by simp at hi; omega
    have e1 : (L.drop j)[i] = L[j + i] := by simp
    rw [e1, ← lf_at hi']
    exact h1 (j + i) (by omega) hi'
  refine List.pairwise_append.2 ⟨List.pairwise_append.2 ⟨p1, by simp, fun a ha b hb => ?_⟩, p2, fun a ha b hb => ?_⟩
  · simp at hb; subst hb; exact hlo a ha
  · rcases List.mem_append.1 ha with ha | ha
    · exact p3 a ha b hb
    · simp at ha; subst ha; have := hhi b hb; omega
theorem perm_ins {L : List Int} {j : Nat} {n : Nat} {T : Nat → Int} (h : L.Perm (upto T n)) : (L.take j ++ [T n] ++ L.drop j).Perm (upto T (n + 1)) := by
  rw [upto_succ, List.append_assoc, List.singleton_append]
  refine List.perm_middle.trans ?_
  rw [List.take_append_drop]
  refine (List.Perm.cons _ h).trans ?_
  exact (List.perm_append_singleton _ _).symm
/-- the median of n numbers, n at least 1 -/
def medV (n : Nat) (T : Nat → Int) : Int := if n % 2 = 1 then lf (srt n T) (n / 2) else nrI (lf (srt n T) (n / 2 - 1) + lf (srt n T) (n / 2)) 2
theorem med_odd {n : Nat} {T : Nat → Int} (h : n % 2 = 1) : medV n T = lf (srt n T) (n / 2) := by rw [medV, if_pos h]
theorem med_even {n : Nat} {T : Nat → Int} (h : ¬ n % 2 = 1) : medV n T = nrI (lf (srt n T) (n / 2 - 1) + lf (srt n T) (n / 2)) 2 := by rw [medV, if_neg h]
theorem med_bd {n : Nat} {T : Nat → Int} (h1 : 1 ≤ n) (hT : ∀ i, i < n → -2000 ≤ T i ∧ T i ≤ 20000) : -2000 ≤ medV n T ∧ medV n T ≤ 20000 := by
  by_cases h : n % 2 = 1
  · rw [med_odd h]; exact srt_bd hT _ (by omega)
  · rw [med_even h]
    have a1 := srt_bd hT (n / 2 - 1) (by omega)
    have a2 := srt_bd hT (n / 2) (by omega)
    exact ⟨le_nr (by omega) (by omega), nr_le (by omega) (by omega)⟩
set_option maxHeartbeats 1600000 in
theorem c_median (A : Option Addr) (n c : Nat) (T : Nat → Int) (w : World) (hv : Sl w 1 A n c (f1 T)) (h1 : 1 ≤ n) (hT : ∀ i, i < n → -2000 ≤ T i ∧ T i ≤ 20000) :
    Calls Try.prog 82 #[.slice A n c] w fun e w' => e = .returned (.int .i64 (medV n T)) ∧ Below w.heap.size w w' := by
  have hn := hv.le
  obtain ⟨b, off, rfl, hb, _⟩ := hv.at_ (by omega)
  have HS := Lib.hid (fun (W : World) (Bv : Nat) (hW : Below w.heap.size w W) (hc : W.cell? ⟨Bv, 0, none⟩ = some (.slice (some ⟨b, off, none⟩) n c)) => c_Sorted _ n c Bv T W (hv.below hW) (fun h => by cases h) (fun a e => by injection e with e; subst e; exact ⟨b, off, rfl, Nat.lt_of_lt_of_le hb hW.size⟩) hc)
  have HT := Lib.hid (fun i (hi : i < n) => srt_bd hT i hi)
  clear hT hv
  go_enter Try.func82, Try.ntmps82
  go_wp2_with (first | (go_at_call 98; refine (c_Values _ n c _).mono ?_; rintro e w1 ⟨rfl, rfl⟩) | (go_at_call 97; refine (HS.out _ w.heap.size (by repeat' (first | (with_reducible exact Below.refl _ _) | (with_reducible assumption) | (with_reducible refine Base.grow_alloc ?_ _) | (with_reducible refine Base.below_drewN ?_ _) | (with_reducible refine Below.drew ?_) | (with_reducible refine Below.setCell ?_ ?_ _) | go_size)) (by simp [go_sem])).mono ?_))
  rintro e w2 ⟨v, rfl, ho, hb2⟩
  obtain ⟨A2, c2, rfl, V2, B2⟩ := ho.view
  have hbw : Below w.heap.size w w2 := (by repeat' (first | (with_reducible exact Below.refl _ _) | (with_reducible assumption) | (with_reducible refine Base.via hb2 ?_) | (with_reducible refine Base.grow_alloc ?_ _) | (with_reducible refine Base.below_drewN ?_ _) | (with_reducible refine Below.drew ?_) | (with_reducible refine Below.setCell ?_ ?_ _) | go_size))
  obtain ⟨b2, off2, rfl, hb2', hc2⟩ := V2.at_ (by omega)
  clear ho B2
  obtain ⟨q, hq⟩ : ∃ q, n / 2 = q := ⟨_, rfl⟩
  have o1 := cells1 hc2 q (by omega)
  have t1 := HT.out q (by omega)
  have eq1 : (n : Int).tdiv 2 = q := by
    rw [← hq]
    exact Int.ofNat_tdiv n 2
  have eq2 : (n : Int) / 2 = q := by omega
  have i1 : (0 : Int) ≤ (q : Int) := by omega
  have i2 : (q : Int) < n := by omega
  by_cases hodd : n % 2 = 1
  · have HR := Lib.hid (show medV n T = lf (srt n T) q by rw [med_odd hodd, hq])
    have em : ((n : Int).tmod 2 == 1) = true := by
      rw [beq_iff_eq]
      have : (n : Int).tmod 2 = ((n % 2 : Nat) : Int) := Int.ofNat_tmod n 2
      omega
    have em2 : (n : Int) % 2 = 1 := by omega
    clear hq hc2
    go_wp2
    go_ret
    exact ⟨ret_int HR.out.symm, hbw⟩
  · obtain ⟨r, rfl⟩ : ∃ r, q = r + 1 := ⟨q - 1, by omega⟩
    have o2 := cells1 hc2 r (by omega)
    have t2 := HT.out r (by omega)
    have HR := Lib.hid (show medV n T = nrI (lf (srt n T) r + lf (srt n T) (r + 1)) 2 by rw [med_even hodd, hq]; rfl)
    have em : ((n : Int).tmod 2 == 1) = false := by
      rw [beq_eq_false_iff_ne]
      have : (n : Int).tmod 2 = ((n % 2 : Nat) : Int) := Int.ofNat_tmod n 2
      omega
    have em2 : ¬ (n : Int) % 2 = 1 := by omega
    have i3 : (0 : Int) ≤ (r : Int) := by omega
    have i4 : (r : Int) < n := by omega
    clear hq hc2
    generalize lf (srt n T) r = x at *
    generalize lf (srt n T) (r + 1) = y at *
    have ew : IntKind.i64.wrap (x + y) = x + y := IntWalk.i64_in _ (by omega)
    go_wp2
    go_quiet ((first | (go_at_call 99; exact Calls.quiet_of_same ((c_nearest _ _ _ (by omega) (by omega) (by omega) (by omega)).mono fun _ _ h => ⟨h.1, h.2.symm⟩))))
    go_wp2
    go_ret
    exact ⟨ret_int HR.out.symm, (by repeat' (first | (with_reducible exact Below.refl _ _) | (with_reducible assumption) | (with_reducible refine Base.via hbw ?_) | (with_reducible refine Base.grow_alloc ?_ _) | (with_reducible refine Base.below_drewN ?_ _) | (with_reducible refine Below.drew ?_) | (with_reducible refine Below.setCell ?_ ?_ _) | go_size))⟩
end Go.Proofs.Ytenjcdhehjdeoaa.Med
