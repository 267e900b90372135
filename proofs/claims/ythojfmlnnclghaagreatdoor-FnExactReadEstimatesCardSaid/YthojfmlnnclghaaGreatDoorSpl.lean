/- The parts of a text between bytes: the reference's l01Split. -/
import Derived.Test.YthojfmlnnclghaaGreatDoorRdQ
import Derived.Deep.RegionHeld3
namespace Go.Proofs.YthojfmlnnclghaaGreatDoor.Rd
set_option linter.unusedVariables false
set_option linter.unusedSimpArgs false
set_option maxRecDepth 8000
open Go.RowKit Plain Num View Dec Txt Name

theorem infoStr : (Tryz.prog.info? 9).map (fun i => (i.zero, i.size, i.bytes)) = some (some (.string ⟨#[]⟩), 1, 16) := by kernel_rfl
def strs (P : List (List UInt8)) : List Value := P.map fun l => Value.string ⟨l.toArray⟩
theorem strs_app (P Q : List (List UInt8)) : strs (P ++ Q) = strs P ++ strs Q := by simp [strs]
theorem strs_len (P : List (List UInt8)) : (strs P).length = P.length := by simp [strs]
theorem ext_str (s : ByteArray) (a b : Nat) : Value.string (s.extract a b) = .string ⟨((s.data.toList.drop a).take (b - a)).toArray⟩ := by
  congr 1
  apply ByteArray.ext
  apply Array.toList_inj.1
  rw [Lib.extract_data]
theorem take_noC {c : UInt8} {l : List UInt8} {k : Nat} {x : UInt8} (h : noC c (l.take k)) (hx : l[k]? = some x) (hne : x ≠ c) : noC c (l.take (k + 1)) := by
  rw [take_step hx]
  exact noC_app h (noC_cons hne (noC_nil c))
theorem split_at {c : UInt8} {l : List UInt8} {k : Nat} (h : noC c (l.take k)) (hx : l[k]? = some c) : spl c l = l.take k :: spl c (l.drop (k + 1)) := by
  have hk : k < l.length := by
    rcases Nat.lt_or_ge k l.length with h1 | h1
    · exact h1
    · rw [List.getElem?_eq_none h1] at hx; cases hx
  have e : l = l.take k ++ c :: l.drop (k + 1) := by
    have h2 := List.take_append_drop k l
    rw [List.drop_eq_getElem_cons hk] at h2
    have h3 : l[k] = c := by rw [List.getElem?_eq_getElem hk] at hx; exact Option.some.inj hx
    rw [h3] at h2
    exact h2.symm
  have := spl_at (l.drop (k + 1)) h
  rw [← e] at this
  exact this
set_option maxHeartbeats 3200000 in
theorem c_l01Split (s : ByteArray) (c : UInt8) (w : World) (hs : s.size ≤ 1048576) :
    Calls Tryz.prog 9 #[.string s, .int .u8 (c.toNat : Int)] w fun r w' => ∃ g cap, r = .returned (.slice (some ⟨g, 0, none⟩) (spl c s.data.toList).length cap) ∧ w'.ownsRow w.heap.size 9 1 (.slice (some ⟨g, 0, none⟩) (spl c s.data.toList).length cap) (spl c s.data.toList).length (strs (spl c s.data.toList)) ∧ Below w.heap.size w w' := by
  obtain ⟨i0, hi0, hz0, hz1, hz2⟩ := info_parts infoStr
  have hL : s.data.toList.length = s.size := by rw [Array.length_toList]; rfl
  have hcb := c.toNat_lt
  obtain ⟨L, hLe⟩ : ∃ L, s.data.toList = L := ⟨_, rfl⟩
  have HE := Lib.hid (fun a b => ext_str s a b)
  rw [hLe] at HE hL ⊢
  go_enter Tryz.func9, Tryz.ntmps9
  go_wp2
  go_loopw [5, 6, 7] (fun o f i wr => ∃ (k m g cap : Nat) (P : List (List UInt8)), m ≤ k ∧ k ≤ s.size ∧ P.length ≤ m ∧ i = .int .i64 k ∧ f = .int .i64 m ∧ o = .slice (some ⟨g, 0, none⟩) P.length cap ∧ Hid (spl c L = P ++ spl c (L.drop m)) ∧ Hid (noC c ((L.drop m).take (k - m))) ∧ wr.ownsRow w.heap.size 9 1 (.slice (some ⟨g, 0, none⟩) P.length cap) P.length (strs P) ∧ Below w.heap.size w wr) (fun _ _ i _ => s.size - (intOf i).toNat)
  case atStart => exact ⟨0, 0, _, _, [], Nat.le_refl _, Nat.zero_le _, Nat.le_refl _, rfl, rfl, rfl, (show spl c L = [] ++ spl c (L.drop 0) from rfl), (show noC c ((L.drop 0).take 0) by rw [List.take_zero]; exact noC_nil c), World.ownsRow_made _ _ _ (by omega) (by simp [maxLen]) rfl, (by repeat' (first | (with_reducible exact Below.refl _ _) | (with_reducible assumption) | (with_reducible refine Base.grow_alloc ?_ _) | (with_reducible refine Base.below_drewN ?_ _) | (with_reducible refine Below.drew ?_) | (with_reducible refine Below.setCell ?_ ?_ _) | go_size))⟩
  case round =>
    obtain ⟨k, m, g, cap, P, hmk, hk, hPm, rfl, rfl, rfl, hsp, hno, hown, hbr⟩ := hrel
    have hzb := hbr.size
    by_cases hlt : k < s.size
    · obtain ⟨x, hx, hx8⟩ := by8_list hlt
      have gk : (((s[k]'hlt).toNat : Nat) : Int) = ((x.toNat : Nat) : Int) := (by8_eq hlt).trans hx8
      rw [hLe] at hx
      have hx' : (L.drop m)[k - m]? = some x := by rw [List.getElem?_drop, show m + (k - m) = k by omega]; exact hx
      by_cases hc : x = c
      · subst hc
        have HS := Lib.hid (split_at hno.out hx')
        have HS2 := Lib.hid (show spl x L = (P ++ [(L.drop m).take (k - m)]) ++ spl x (L.drop (k + 1)) by
          rw [hsp.out, HS.out, List.drop_drop, show m + (k - m + 1) = k + 1 by omega, List.append_assoc]; rfl)
        have HV := Lib.hid (HE.out m k)
        clear hx hx8 hx' HS hsp hno
        have i1 : (0 : Int) ≤ (m : Int) := by omega
        have i2 : (m : Int) ≤ (k : Int) := by omega
        have i3 : (k : Int) ≤ (s.size : Int) := by omega
        go_wp2_with (at_builtin; refine wpList_append_own _ rfl _ _ 28 rfl w.heap.size 9 i0 (.string ⟨#[]⟩) 1 16 Tryz.underlying28 hi0 hz0 hz1 hz2 rfl (by decide) (.slice (some ⟨g, 0, none⟩) P.length cap) P.length _ rfl (hown.alloc _) ⟨wr.heap.size, 0, none⟩ 1 1 [.string (s.extract m k)] rfl rfl (cell_newL _ _ _ rfl) (by simp [Value.oneCell']) (by simp only [maxLen]; omega) (by omega) (by simp; omega) ?_)
        intro v' w2 hown' hgrow _
        have hb2 : Below w.heap.size w w2 := own_grow (by repeat' (first | (with_reducible exact Below.refl _ _) | (with_reducible assumption) | (with_reducible refine Base.via hbr ?_) | (with_reducible refine Base.grow_alloc ?_ _) | (with_reducible refine Base.below_drewN ?_ _) | (with_reducible refine Below.drew ?_) | (with_reducible refine Below.setCell ?_ ?_ _) | go_size)) hown (Nat.le_refl _) hgrow
        obtain ⟨g', c', rfl⟩ := ownsRow_succ hown'
        rw [HV.out] at hown'
        go_wp2
        go_roundw
        case rel => exact ⟨k + 1, k + 1, g', c', P ++ [(L.drop m).take (k - m)], Nat.le_refl _, by omega, by rw [List.length_append]; simp; omega, by go_num, by go_num, by rw [List.length_append]; rfl, HS2.out, (show noC x ((L.drop (k + 1)).take (k + 1 - (k + 1))) by rw [Nat.sub_self, List.take_zero]; exact noC_nil x), by rw [List.length_append, strs_app]; exact hown', hb2⟩
        case measure => simp [intOf]; omega
      · have hbx : (((x.toNat : Nat) : Int) == ((c.toNat : Nat) : Int)) = false := by
          rw [beq_eq_false_iff_ne]
          intro h
          exact hc (UInt8.toNat_inj.1 (by omega))
        have HN := Lib.hid (take_noC hno.out hx' hc)
        rw [show k - m + 1 = k + 1 - m by omega] at HN
        clear hx hx8 hx' hno hc
        go_wp2
        go_roundw
        case rel => exact ⟨k + 1, m, g, cap, P, by omega, by omega, hPm, by go_num, rfl, rfl, hsp, HN.out, hown, hbr⟩
        case measure => simp [intOf]; omega
    · obtain rfl : k = s.size := by omega
      have HS2 := Lib.hid (show spl c L = P ++ [(L.drop m).take (s.size - m)] by
        rw [hsp.out, spl_no (a := L.drop m)]
        · rw [List.take_of_length_le (by rw [List.length_drop]; omega)]
        · have h := hno.out
          rw [List.take_of_length_le (by rw [List.length_drop]; omega)] at h
          exact h)
      have HV := Lib.hid (HE.out m s.size)
      clear hsp hno
      have i1 : (0 : Int) ≤ (m : Int) := by omega
      have i2 : (m : Int) ≤ (s.size : Int) := by omega
      go_wp2_with (at_builtin; refine wpList_append_own _ rfl _ _ 28 rfl w.heap.size 9 i0 (.string ⟨#[]⟩) 1 16 Tryz.underlying28 hi0 hz0 hz1 hz2 rfl (by decide) (.slice (some ⟨g, 0, none⟩) P.length cap) P.length _ rfl (hown.alloc _) ⟨wr.heap.size, 0, none⟩ 1 1 [.string (s.extract m s.size)] rfl rfl (cell_newL _ _ _ rfl) (by simp [Value.oneCell']) (by simp only [maxLen]; omega) (by omega) (by simp; omega) ?_)
      intro v' w2 hown' hgrow _
      have hb2 : Below w.heap.size w w2 := own_grow (by repeat' (first | (with_reducible exact Below.refl _ _) | (with_reducible assumption) | (with_reducible refine Base.via hbr ?_) | (with_reducible refine Base.grow_alloc ?_ _) | (with_reducible refine Base.below_drewN ?_ _) | (with_reducible refine Below.drew ?_) | (with_reducible refine Below.setCell ?_ ?_ _) | go_size)) hown (Nat.le_refl _) hgrow
      obtain ⟨g', c', rfl⟩ := ownsRow_succ hown'
      rw [HV.out] at hown'
      go_wp2
      go_ret
      exact ⟨g', c', by rw [HS2.out, List.length_append]; rfl, by rw [HS2.out, List.length_append, strs_app]; exact hown', hb2⟩
end Go.Proofs.YthojfmlnnclghaaGreatDoor.Rd
