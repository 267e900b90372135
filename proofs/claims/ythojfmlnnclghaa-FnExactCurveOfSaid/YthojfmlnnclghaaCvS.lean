/- The light curve of a star: the reference. UNDER WAY (sorry inside). -/
import Derived.Test.YthojfmlnnclghaaCvQ
import Derived.BigQuiet
import Derived.Deep.QuietTactic
import Derived.Deep.AppendLies
import Derived.Deep.RegionHeld3
namespace Go.Proofs.Ythojfmlnnclghaa.CvS
set_option linter.unusedVariables false
set_option linter.unusedSimpArgs false
set_option maxRecDepth 8000
open Go.RowKit Go.Shelf Plain Num View Frac Est Name Es1 OkE CvE CvP CvQ

theorem infoPt : (Try.prog.info? 78).map (fun i => (i.zero, i.size, i.bytes)) = some (some (.agg #[.int .i64 0, .int .i64 0]), 2, 16) := by kernel_rfl
set_option maxHeartbeats 3200000 in
theorem c_l08Of (A : Option Addr) (n c : Nat) (E : Nat → E5) (star : ByteArray) (w : World) (hv : Sl w 5 A n c (f5 E)) (hok : okE n E = true) :
    Calls Try.prog 52 #[.slice A n c, .string star] w fun e w' => ∃ v, e = .returned v ∧ w'.ownsRow w.heap.size 78 2 v (outL (fo (chs star E n))).length (cellP (outL (fo (chs star E n)))) ∧ Below w.heap.size w w' := by
  have hn := hv.le
  have h100 := okE_le hok
  obtain ⟨i0, hi0, hz0, hz1, hz2⟩ := info_parts infoPt
  have HBD := Lib.hid (ok_bd hok)
  have HTM := Lib.hid (tmono hok)
  clear hok
  go_enter Try.func52, Try.ntmps52
  go_wp2
  go_loopw [5, 6, 7, 8, 9] (fun u q _ _ _ wr => ∃ i : Nat, i ≤ n ∧ q = .int .i64 i ∧ Hid (∀ j, j < i → i < n → (E j).t < (E i).t) ∧ wr.ownsRow w.heap.size 78 2 u (outL (fo (chs star E i))).length (cellP (outL (fo (chs star E i)))) ∧ Below w.heap.size w wr) (fun _ q _ _ _ _ => n - (intOf q).toNat)
  case atStart => exact ⟨0, Nat.zero_le _, rfl, Lib.hid (fun j hj => absurd hj (by omega)), World.ownsRow_made _ _ _ (by omega) (by simp [maxLen]) rfl, (by repeat' (first | (with_reducible exact Below.refl _ _) | (with_reducible assumption) | (with_reducible refine Base.grow_alloc ?_ _) | (with_reducible refine Base.below_drewN ?_ _) | (with_reducible refine Below.drew ?_) | (with_reducible refine Below.setCell ?_ ?_ _) | go_size))⟩
  case round =>
    obtain ⟨i, hi, rfl, hbd, hown, hbr⟩ := hrel
    have hz := hbr.size
    by_cases hlt : i < n
    · have HOWN := Lib.hid hown
      have HNW := Lib.hid (chs_new (star := star) (fun j hj => hbd.out j hj hlt))
      clear hown
      go_wp2
      obtain ⟨wo, hwo⟩ : ∃ wo : World, wo = wr := ⟨_, rfl⟩
      rw [← hwo] at hbr hz HOWN ⊢
      clear hwo
      go_loopw [7, 8, 9] (fun sm sn q wq => ∃ (k cn : Nat) (s : Int), i ≤ k ∧ k ≤ n ∧ cn ≤ k - i ∧ q = .int .i64 k ∧ sm = .int .i64 s ∧ sn = .int .i64 (cn : Int) ∧ (-2000 * (cn : Int) ≤ s ∧ s ≤ 20000 * (cn : Int)) ∧ Hid (fo (chs star E k) = open' (E i).t s cn (fo (chs star E i)) ∧ (∀ j, i ≤ j → j < k → (E j).t = (E i).t)) ∧ Below wo.heap.size wo wq) (fun _ _ q _ => n - (intOf q).toNat)
      case atStart => exact ⟨i, 0, 0, Nat.le_refl _, hi, by omega, rfl, rfl, rfl, ⟨by omega, by omega⟩, (show _ ∧ _ from ⟨rfl, fun j h1 h2 => by omega⟩), (by repeat' (first | (with_reducible exact Below.refl _ _) | (with_reducible assumption) | (with_reducible refine Base.grow_alloc ?_ _) | (with_reducible refine Base.below_drewN ?_ _) | (with_reducible refine Below.drew ?_) | (with_reducible refine Below.setCell ?_ ?_ _) | go_size))⟩
      case round =>
        obtain ⟨k, cn, s, hik, hkn, hcn, rfl, rfl, rfl, hsb, hin, hbq⟩ := hrel
        have hzq := hbq.size
        obtain ⟨b, off, rfl, hb, hc⟩ := (hv.below (hbr.trans (hbq.mono hbr.size))).at_ (by omega)
        have HV := Lib.hid hv
        clear hv
        by_cases hgo : k < n ∧ (E k).t = (E i).t
        · obtain ⟨hlk, heq⟩ := hgo
          obtain ⟨a0, a1, a2, a3, a4⟩ := cells5 hc k hlk
          obtain ⟨b0, b1, b2, b3, b4⟩ := cells5 hc i hlt
          have hbk := HBD.out k hlk
          have i1 : (0 : Int) ≤ (k : Int) := by omega
          have i2 : (k : Int) < (n : Int) := by omega
          have i3 : (0 : Int) ≤ (i : Int) := by omega
          have i4 : (i : Int) < (n : Int) := by omega
          have HCV : Hid (cvP star (E k) = (decide ((E k).s = star) && !(E k).b)) := Lib.hid rfl
          have e1 := bts_eq (E k).s star
          have HYES : Hid (cvP star (E k) = true → fo (chs star E (k + 1)) = open' (E i).t (s + (E k).m) (cn + 1) (fo (chs star E i))) := Lib.hid (fun h => by rw [chs_yes h, hin.out.1, heq]; exact open_next (m := (E k).m) HNW.out (by omega))
          have HNO := Lib.hid (fun (h : cvP star (E k) = false) => chs_no h)
          have HTE : Hid (∀ j, i ≤ j → j < k + 1 → (E j).t = (E i).t) := Lib.hid (fun j h1 h2 => by
            by_cases e : j = k
            · rw [e]; exact heq
            · exact hin.out.2 j h1 (by omega))
          rw [heq] at a0 hbk
          clear hc heq a2 b1 b2 b3 b4
          generalize decide ((E k).s = star) = z1 at *
          generalize (E k).b = z2 at *
          cases z1 <;> cases z2
          all_goals
            go_wp2
            go_quiet (fail)
            go_wp2
            first
            | exact ⟨⟨k + 1, cn, s, by omega, by omega, by omega, by go_num, rfl, rfl, hsb, (show _ ∧ _ from ⟨by rw [HNO.out (by rw [HCV.out]; rfl)]; exact hin.out.1, HTE.out⟩), (by repeat' (first | (with_reducible exact Below.refl _ _) | (with_reducible assumption) | (with_reducible refine Base.via hbq ?_) | (with_reducible refine Base.grow_alloc ?_ _) | (with_reducible refine Base.below_drewN ?_ _) | (with_reducible refine Below.drew ?_) | (with_reducible refine Below.setCell ?_ ?_ _) | go_size))⟩, by simp [intOf]; omega⟩
            | exact ⟨⟨k + 1, cn + 1, s + (E k).m, by omega, by omega, by omega, by go_num, rfl, by go_num, ⟨by omega, by omega⟩, (show _ ∧ _ from ⟨HYES.out (by rw [HCV.out]; rfl), HTE.out⟩), (by repeat' (first | (with_reducible exact Below.refl _ _) | (with_reducible assumption) | (with_reducible refine Base.via hbq ?_) | (with_reducible refine Base.grow_alloc ?_ _) | (with_reducible refine Base.below_drewN ?_ _) | (with_reducible refine Below.drew ?_) | (with_reducible refine Below.setCell ?_ ?_ _) | go_size))⟩, by simp [intOf]; omega⟩
        · have hik' : i < k := by
            rcases Nat.lt_or_ge i k with h | h
            · exact h
            · obtain rfl : k = i := by omega
              exact absurd ⟨hlt, rfl⟩ hgo
          have HBD2 : Hid (∀ j, j < k → k < n → (E j).t < (E k).t) := Lib.hid (fun j h1 h2 => by
            have h3 := HTM.out i k (by omega) h2
            have h4 : (E j).t ≤ (E i).t := by
              rcases Nat.lt_or_ge j i with h | h
              · exact HTM.out j i (by omega) hlt
              · rw [hin.out.2 j h h1]; exact Int.le_refl _
            have h5 : (E k).t ≠ (E i).t := fun e => hgo ⟨h2, e⟩
            omega)
          obtain ⟨b0, b1, b2, b3, b4⟩ := cells5 hc i hlt
          have i3 : (0 : Int) ≤ (i : Int) := by omega
          have i4 : (i : Int) < (n : Int) := by omega
          by_cases hc0 : cn = 0
          · have HF : Hid (fo (chs star E k) = fo (chs star E i)) := Lib.hid (by rw [hin.out.1, hc0]; rfl)
            subst hc0
            by_cases hlk : k < n
            · have heq : ((E k).t == (E i).t) = false := by simpa using (fun h => hgo ⟨hlk, h⟩)
              obtain ⟨a0, a1, a2, a3, a4⟩ := cells5 hc k hlk
              have i1 : (0 : Int) ≤ (k : Int) := by omega
              have i2 : (k : Int) < (n : Int) := by omega
              clear hc a1 a2 a3 a4 b1 b2 b3 b4 hgo
              go_wp2
              go_quiet (fail)
              go_wp2
              exact ⟨⟨k, by omega, rfl, HBD2.out, by rw [HF.out]; exact own_of_below HOWN.out (by repeat' (first | (with_reducible exact Below.refl _ _) | (with_reducible assumption) | (with_reducible refine Base.via hbq ?_) | (with_reducible refine Base.grow_alloc ?_ _) | (with_reducible refine Base.below_drewN ?_ _) | (with_reducible refine Below.drew ?_) | (with_reducible refine Below.setCell ?_ ?_ _) | go_size)), (by repeat' (first | (with_reducible exact Below.refl _ _) | (with_reducible assumption) | (with_reducible refine Base.via hbq ?_) | (with_reducible refine Base.via hbr ?_) | (with_reducible refine Base.grow_alloc ?_ _) | (with_reducible refine Base.below_drewN ?_ _) | (with_reducible refine Below.drew ?_) | (with_reducible refine Below.setCell ?_ ?_ _) | go_size))⟩, by simp [intOf]; omega⟩
            · have hkn' : k = n := by omega
              clear hc b1 b2 b3 b4 hgo
              subst hkn'
              go_wp2
              go_quiet (fail)
              go_wp2
              exact ⟨⟨k, by omega, rfl, HBD2.out, by rw [HF.out]; exact own_of_below HOWN.out (by repeat' (first | (with_reducible exact Below.refl _ _) | (with_reducible assumption) | (with_reducible refine Base.via hbq ?_) | (with_reducible refine Base.grow_alloc ?_ _) | (with_reducible refine Base.below_drewN ?_ _) | (with_reducible refine Below.drew ?_) | (with_reducible refine Below.setCell ?_ ?_ _) | go_size)), (by repeat' (first | (with_reducible exact Below.refl _ _) | (with_reducible assumption) | (with_reducible refine Base.via hbq ?_) | (with_reducible refine Base.via hbr ?_) | (with_reducible refine Base.grow_alloc ?_ _) | (with_reducible refine Base.below_drewN ?_ _) | (with_reducible refine Below.drew ?_) | (with_reducible refine Below.setCell ?_ ?_ _) | go_size))⟩, by simp [intOf]; omega⟩
          · have HO : Hid (outL (fo (chs star E k)) = outL (fo (chs star E i)) ++ [((E i).t, nrI s (cn : Int))]) := Lib.hid (by rw [hin.out.1, open_out, if_neg hc0])
            have hl : (outL (fo (chs star E i))).length ≤ n := by
              have h1 := fo_len (chs star E i)
              have h2 := sel_len (k := i) (P := fun i => cvP star (E i)) (g := fun i => pr (E i))
              rw [outL_len]
              unfold chs at h1 ⊢
              omega
            have hown := own_of_below HOWN.out hbq
            clear HOWN
            generalize outL (fo (chs star E i)) = L at *
            have HR := Lib.hid (fun W => c_l02Round s (cn : Int) W (by omega) (by omega) (by omega) (by omega))
            have hzz := hbq.size
            have hpos : decide ((0 : Int) < (cn : Int)) = true := by simp; omega
            by_cases hlk : k < n
            · have heq : ((E k).t == (E i).t) = false := by simpa using (fun h => hgo ⟨hlk, h⟩)
              obtain ⟨a0, a1, a2, a3, a4⟩ := cells5 hc k hlk
              have i1 : (0 : Int) ≤ (k : Int) := by omega
              have i2 : (k : Int) < (n : Int) := by omega
              clear hc a1 a2 a3 a4 b1 b2 b3 b4 hgo
              go_wp2
              go_quiet (fail)
              clear heq a0
              go_wp2
              go_region_law (first | (refine step_append_lies _ (by rfl) _ _ _ (by rfl) w.heap.size 78 i0 _ 2 16 Try.underlying40 hi0 hz0 hz1 hz2 rfl (by decide) _ _ _ (by rfl) (own_of_below hown (by repeat' (first | (with_reducible exact Below.refl _ _) | (with_reducible assumption) | (with_reducible refine Base.grow_alloc ?_ _) | (with_reducible refine Base.below_drewN ?_ _) | (with_reducible refine Below.drew ?_) | (with_reducible refine Below.setCell ?_ ?_ _) | go_size))) ⟨_, 0, none⟩ 1 1 [.int .i64 (E i).t, .int .i64 (nrI s (cn : Int))] (by rfl) (by rfl) (cell_newL _ _ _ rfl) (by simp [Value.oneCell']) (by decide) (by simp only [maxLen]; omega) (by omega) (by simp; omega) _ (by rfl) ?_; intro gb cap w3 hown' hgrow hat hlt3) | (go_simp; go_at_call 72; refine (HR.out _).mono ?_; rintro e w' ⟨rfl, rfl⟩))
              all_goals
                have hb3 : Below w.heap.size w w3 := own_grow (by repeat' (first | (with_reducible exact Below.refl _ _) | (with_reducible assumption) | (with_reducible refine Base.via hbq ?_) | (with_reducible refine Base.via hbr ?_) | (with_reducible refine Base.grow_alloc ?_ _) | (with_reducible refine Base.below_drewN ?_ _) | (with_reducible refine Below.drew ?_) | (with_reducible refine Below.setCell ?_ ?_ _) | go_size)) hown (Nat.le_refl _) hgrow
                clear hown hgrow
                go_wp2
                exact ⟨⟨k, by omega, rfl, HBD2.out, by rw [HO.out]; exact own_snocP hown', hb3⟩, by simp [intOf]; omega⟩
            · have hkn' : k = n := by omega
              clear hc b1 b2 b3 b4 hgo
              subst hkn'
              go_wp2
              go_quiet (fail)
              go_wp2
              go_region_law (first | (refine step_append_lies _ (by rfl) _ _ _ (by rfl) w.heap.size 78 i0 _ 2 16 Try.underlying40 hi0 hz0 hz1 hz2 rfl (by decide) _ _ _ (by rfl) (own_of_below hown (by repeat' (first | (with_reducible exact Below.refl _ _) | (with_reducible assumption) | (with_reducible refine Base.grow_alloc ?_ _) | (with_reducible refine Base.below_drewN ?_ _) | (with_reducible refine Below.drew ?_) | (with_reducible refine Below.setCell ?_ ?_ _) | go_size))) ⟨_, 0, none⟩ 1 1 [.int .i64 (E i).t, .int .i64 (nrI s (cn : Int))] (by rfl) (by rfl) (cell_newL _ _ _ rfl) (by simp [Value.oneCell']) (by decide) (by simp only [maxLen]; omega) (by omega) (by simp; omega) _ (by rfl) ?_; intro gb cap w3 hown' hgrow hat hlt3) | (go_simp; go_at_call 72; refine (HR.out _).mono ?_; rintro e w' ⟨rfl, rfl⟩))
              all_goals
                have hb3 : Below w.heap.size w w3 := own_grow (by repeat' (first | (with_reducible exact Below.refl _ _) | (with_reducible assumption) | (with_reducible refine Base.via hbq ?_) | (with_reducible refine Base.via hbr ?_) | (with_reducible refine Base.grow_alloc ?_ _) | (with_reducible refine Base.below_drewN ?_ _) | (with_reducible refine Below.drew ?_) | (with_reducible refine Below.setCell ?_ ?_ _) | go_size)) hown (Nat.le_refl _) hgrow
                clear hown hgrow
                go_wp2
                exact ⟨⟨k, by omega, rfl, HBD2.out, by rw [HO.out]; exact own_snocP hown', hb3⟩, by simp [intOf]; omega⟩
    · have hkn : i = n := by omega
      subst hkn
      go_wp2
      go_ret
      exact ⟨_, rfl, hown, hbr⟩
end Go.Proofs.Ythojfmlnnclghaa.CvS
