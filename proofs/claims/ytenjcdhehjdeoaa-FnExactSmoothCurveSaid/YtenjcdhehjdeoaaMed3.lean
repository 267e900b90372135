/- The sort of the reference, its median. -/
import Derived.Test.YtenjcdhehjdeoaaMed2
import Derived.Deep.AppendLies
namespace Go.Proofs.Ytenjcdhehjdeoaa.Med
set_option linter.unusedVariables false
set_option linter.unusedSimpArgs false
set_option maxRecDepth 8000
open Go.RowKit Plain Num View Frac
open Proofs.Ytenjcdhehjdeoaa.Ord (c_l00Own newsL one_L ownsRow_cast ownsRow_mono)
theorem news_below {W W' : World} (hb : Below W.heap.size W W') {ad : Addr} {news : List Value} (h : ∀ (j : Nat) (u : Value), news[j]? = some u → W.cell? (ad.add j) = some u) : ∀ (j : Nat) (u : Value), news[j]? = some u → W'.cell? (ad.add j) = some u := fun j u hj => cell_call hb (h j u hj)
set_option maxHeartbeats 6400000 in
theorem c_l02Sort (A : Option Addr) (n c : Nat) (T : Nat → Int) (w : World) (hv : Sl w 1 A n c (f1 T)) :
    Calls Try.prog 95 #[.slice A n c] w fun e w' => ∃ v, e = .returned v ∧ OwnK w' w.heap.size 2 1 v n (f1 (lf (srt n T))) ∧ Below w.heap.size w w' := by
  have hn := hv.le
  obtain ⟨i0, hi0, hz0, hz1, hz2⟩ := info_parts Help.infoInt64
  go_enter Try.func95, Try.ntmps95
  go_wp2
  go_loopw [3, 4, 5, 6] (fun u i _ _ wr => ∃ (k g gc : Nat) (L : List Int), k ≤ n ∧ i = .int .i64 k ∧ u = .slice (some ⟨g, 0, none⟩) k gc ∧ k ≤ gc ∧ gc ≤ 9223372036854775807 ∧ w.heap.size ≤ g ∧ Hid (wr.ownsRow w.heap.size 2 1 u k (cellL L) ∧ L.length = k ∧ Up L ∧ L.Perm (upto T k)) ∧ Below w.heap.size w wr) (fun _ i _ _ _ => n - (intOf i).toNat)
  case atStart => exact ⟨0, w.heap.size, 0, [], Nat.zero_le _, rfl, rfl, by omega, by omega, by omega, (show _ ∧ _ from ⟨World.ownsRow_made (size := 1) _ #[] 0 (Nat.le_refl _) (by simp [maxLen]) rfl, rfl, List.Pairwise.nil, List.Perm.refl _⟩), (by repeat' (first | (with_reducible exact Below.refl _ _) | (with_reducible assumption) | (with_reducible refine Base.grow_alloc ?_ _) | (with_reducible refine Base.below_drewN ?_ _) | (with_reducible refine Below.drew ?_) | (with_reducible refine Below.setCell ?_ ?_ _) | go_size))⟩
  case round =>
    obtain ⟨k, g, gc, L, hk, rfl, rfl, hgc, hgm, hg, hrow, hbr⟩ := hrel
    have HROW := Lib.hid hrow.out.1
    have HLEN := Lib.hid hrow.out.2.1
    have HUPL := Lib.hid hrow.out.2.2.1
    have HPRM := Lib.hid hrow.out.2.2.2
    have hgl : g < wr.heap.size := (OwnK.of_own hrow.out.1 (by omega) (by rw [← HLEN.out]; exact cellL_at L)).blk g rfl |>.2
    clear hrow
    by_cases hlt : k < n
    · go_wp2
      go_loopw [5] (fun v wr => ∃ j : Nat, j ≤ k ∧ v = .int .i64 j ∧ g < wr.heap.size ∧ Hid (wr.ownsRow w.heap.size 2 1 (.slice (some ⟨g, 0, none⟩) k gc) k (cellL L) ∧ ∀ q, j ≤ q → q < k → T k < lf L q) ∧ Below w.heap.size w wr) (fun v _ => (intOf v).toNat)
      case atStart => exact ⟨k, Nat.le_refl _, rfl, hgl, (show _ ∧ _ from ⟨HROW.out, fun q h1 h2 => by omega⟩), hbr⟩
      case round =>
        clear HROW hbr hgl
        obtain ⟨j, hj, rfl, hgl, hrow, hbr⟩ := hrel
        have HROW := Lib.hid hrow.out.1
        have HUP := Lib.hid hrow.out.2
        clear hrow
        obtain ⟨b, off, hA, hb, hc⟩ := (hv.below hbr).at_ (show 0 < n by omega)
        have q0 := cells1 hc k hlt
        clear hc
        subst hA
        have hzr := hbr.size
        by_cases hcont : ∃ y : Nat, j = y + 1 ∧ T k < lf L y
        · obtain ⟨y, rfl, hph⟩ := hcont
          have hUP := Lib.hid (show ∀ q, y ≤ q → q < k → T k < lf L q from fun q h1 h2 => by
            by_cases h : q = y
            · subst h; exact hph
            · exact HUP.out q (by omega) h2)
          have o0 : wr.cell? ⟨g, y, none⟩ = some (.int .i64 (lf L y)) := by
            have hs := (OwnK.of_own HROW.out (by omega) (by rw [← HLEN.out]; exact cellL_at L)).sl
            obtain ⟨b', off', e4, _, hcc⟩ := hs.at_ (by omega)
            injection e4 with e4
            injection e4 with e5 e6
            subst e5; subst e6
            have := cells1 hcc y (by omega)
            simpa using this
          have hd : decide (T k < lf L y) = true := by simpa using hph
          have ey : IntKind.i64.wrap ((y : Int) + 1 - 1) = (y : Int) := by rw [IntWalk.i64_in _ (by omega)]; omega
          have ey2 : IntKind.i64.wrap (y : Int) = (y : Int) := IntWalk.i64_in _ (by omega)
          have i1 : (0 : Int) ≤ (y : Int) := by omega
          have i2 : (y : Int) < (k : Int) := by omega
          have i3 : (0 : Int) < (y : Int) + 1 := by omega
          have i6 : (0 : Int) ≤ (k : Int) := by omega
          have i7 : (k : Int) < (n : Int) := by omega
          clear hph
          go_wp2
          go_quiet (fail)
          go_wp2
          go_roundw
          case rel => exact ⟨y, by omega, by go_num, hgl, (show _ ∧ _ from ⟨own_of_below HROW.out (by repeat' (first | (with_reducible exact Below.refl _ _) | (with_reducible assumption) | (with_reducible refine Base.grow_alloc ?_ _) | (with_reducible refine Base.below_drewN ?_ _) | (with_reducible refine Below.drew ?_) | (with_reducible refine Below.setCell ?_ ?_ _) | go_size)), hUP.out⟩), (by repeat' (first | (with_reducible exact Below.refl _ _) | (with_reducible assumption) | (with_reducible refine Base.grow_alloc ?_ _) | (with_reducible refine Base.below_drewN ?_ _) | (with_reducible refine Below.drew ?_) | (with_reducible refine Below.setCell ?_ ?_ _) | go_size))⟩
          case measure => simp [intOf]
        · have hstop : j = 0 ∨ (∃ y : Nat, j = y + 1 ∧ ¬ T k < lf L y) := by
            rcases Nat.eq_zero_or_pos j with h | h
            · exact .inl h
            · exact .inr ⟨j - 1, by omega, fun hx => hcont ⟨j - 1, by omega, hx⟩⟩
          clear hcont
          have HINS : Hid (Up (L.take j ++ [T k] ++ L.drop j)) := Lib.hid (up_ins HUPL.out (fun q h1 h2 => HUP.out q h1 (by rw [← HLEN.out]; exact h2)) (by
            rcases hstop with h | ⟨y, h, hx⟩
            · exact .inl h
            · subst h; exact .inr ⟨by rw [HLEN.out]; exact hj, hx⟩))
          have HPERM : Hid ((L.take j ++ [T k] ++ L.drop j).Perm (upto T (k + 1))) := Lib.hid (perm_ins HPRM.out)
          have HSL : Hid (Sl wr 1 (some ⟨g, 0, none⟩) j gc (f1 (lf (L.take j)))) := Lib.hid (by
            have h1 := (OwnK.of_own HROW.out (by omega) (by rw [← HLEN.out]; exact cellL_at L)).sl
            refine (h1.take hj).congr fun i hi j' _ => ?_
            simp only [f1, lf, List.getD_eq_getElem?_getD]
            rw [List.getElem?_take, if_pos hi])
          have HSD : Hid (Sl wr 1 (some ⟨g, j, none⟩) (k - j) (gc - j) (f1 (lf (L.drop j)))) := Lib.hid (by
            have h1 := (OwnK.of_own HROW.out (by omega) (by rw [← HLEN.out]; exact cellL_at L)).sl
            have h2 := Sl.sub h1 hj (Nat.le_refl k) hgl
            rw [Nat.zero_add, Nat.mul_one] at h2
            refine h2.congr fun i hi j' _ => ?_
            simp only [f1, lf, List.getD_eq_getElem?_getD]
            rw [List.getElem?_drop])
          have HS : ∀ W W' : World, (W.cell? ⟨b, off + k, none⟩ = some (.int .i64 (T k)) ∧ Below wr.heap.size wr W) → Below W.heap.size W W' → (W'.cell? ⟨b, off + k, none⟩ = some (.int .i64 (T k)) ∧ Below wr.heap.size wr W') := fun W W' ⟨p0, hs⟩ hb => ⟨cell_call hb p0, Base.via hb hs⟩
          have HG : ∀ (W W' : World) (v : Value) (m : Nat) (xs : List Value), W.ownsRow wr.heap.size 2 1 v m xs → W.grownBy W' v.ownBlock → (W.cell? ⟨b, off + k, none⟩ = some (.int .i64 (T k)) ∧ Below wr.heap.size wr W) → (W'.cell? ⟨b, off + k, none⟩ = some (.int .i64 (T k)) ∧ Below wr.heap.size wr W') := fun W W' v m xs ho hg ⟨p0, hs⟩ => by
            have hb' : Below wr.heap.size wr W' := hs.grown hg hs.size (fun q hq => (ho.lt q hq).1)
            exact ⟨(hb'.cell (p := ⟨b, off + k, none⟩) hb).trans q0, hb'⟩
          have i6 : (0 : Int) ≤ (k : Int) := by omega
          have i7 : (k : Int) < (n : Int) := by omega
          have hE : Below wr.heap.size wr wr := Below.refl _ _
          rcases hstop with h | ⟨y, h, hx⟩
          · subst h
            go_wp2
            go_quiet (fail)
            go_wp2_with fail
            go_region_held3 (fun W => W.cell? ⟨b, off + k, none⟩ = some (.int .i64 (T k)) ∧ Below wr.heap.size wr W)
              (first | exact HS _ _ (by assumption) hb5 | exact HS _ _ (by assumption) ((Below.refl _ _).alloc (Nat.le_refl _) _) | exact HG _ _ _ _ _ (by first | exact hoW | exact hoW.alloc _) hgrow6 (by assumption) | exact ⟨q0, (by repeat' (first | (with_reducible exact Below.refl _ _) | (with_reducible assumption) | (with_reducible refine Base.via hE ?_) | (with_reducible refine Base.grow_alloc ?_ _) | (with_reducible refine Base.below_drewN ?_ _) | (with_reducible refine Below.drew ?_) | (with_reducible refine Below.setCell ?_ ?_ _) | go_size))⟩ | exact ⟨cell_drew q0, (by repeat' (first | (with_reducible exact Below.refl _ _) | (with_reducible assumption) | (with_reducible refine Base.via hE ?_) | (with_reducible refine Base.grow_alloc ?_ _) | (with_reducible refine Base.below_drewN ?_ _) | (with_reducible refine Below.drew ?_) | (with_reducible refine Below.setCell ?_ ?_ _) | go_size))⟩)
              (first | (have hs := (‹_ ∧ Below wr.heap.size wr _›).2; go_at_call 84; refine (c_l00Own ⟨g, 0, none⟩ 0 gc (L.take 0) _ (by first | (simp; done) | (simp; have := HLEN.out; omega)) (HSL.out.below hs)).mono ?_; rintro r5 w5 ⟨v5, rfl, hne5, ho5', hb5⟩; have ho5 : w5.ownsRow wr.heap.size 2 1 v5 0 (cellL (L.take 0)) := ownsRow_mono ho5' hs.size) | (have hs := (‹_ ∧ Below wr.heap.size wr _›); refine step_append_lies _ (by rfl) _ _ _ (by rfl) wr.heap.size 2 i0 _ 1 8 Try.underlying24 hi0 hz0 hz1 hz2 rfl (by decide) v5 0 _ (by rfl) (by first | exact ho5 | exact ho5.alloc _) ⟨_, 0, none⟩ 1 1 [.int .i64 (T k)] (by rfl) (by rfl) (by first | exact cell_newL _ _ _ rfl | exact news_below hb5 (cell_newL _ _ _ rfl)) (by simp [Value.oneCell']) (by decide) (by simp only [maxLen]; omega) (by omega) hs.2.size _ (by rfl) ?_; intro g6 cap6 w6 hown6 hgrow6 hat6 hlt6; have hoW := ho5))
            all_goals
              obtain ⟨_, hb6⟩ := ‹_ ∧ Below wr.heap.size wr _›
              have HO6 : Hid (w6.ownsRow wr.heap.size 2 1 (.slice (some ⟨g6, 0, none⟩) (0 + 1) cap6) (0 + 1) (cellL (L.take 0 ++ [T k]))) := Lib.hid (by rw [← cellL_snoc]; exact hown6)
              have hz6 := hb6.size
              clear hown6 hgrow6 hat6 hb5 ho5 ho5' hne5
              go_wp2_with (first | (at_builtin; refine wpList_append_own _ rfl _ _ 24 rfl (wr.heap.size) 2 i0 _ 1 8 Try.underlying24 hi0 hz0 hz1 hz2 rfl (by decide) _ _ _ rfl HO6.out ⟨g, 0, none⟩ (k - 0) _ (cellL (L.drop 0)) (by first | rfl | (simp; done)) (by rw [cellL_len, List.length_drop, HLEN.out, Nat.mul_one]) (newsL (by rw [List.length_drop, HLEN.out]) (HSD.out.below (by repeat' (first | (with_reducible exact Below.refl _ _) | (with_reducible assumption) | (with_reducible refine Base.via hb6 ?_) | (with_reducible refine Base.grow_alloc ?_ _) | (with_reducible refine Base.below_drewN ?_ _) | (with_reducible refine Below.drew ?_) | (with_reducible refine Below.setCell ?_ ?_ _) | go_size)))) one_L (by simp only [maxLen]; omega) (by omega) (by first | omega | (simp; omega)) ?_))
              intro v7 w7 hown7 hgrow7 hnil7
              have hb7 : Below wr.heap.size wr w7 := own_grow (by repeat' (first | (with_reducible exact Below.refl _ _) | (with_reducible assumption) | (with_reducible refine Base.via hb6 ?_) | (with_reducible refine Base.grow_alloc ?_ _) | (with_reducible refine Base.below_drewN ?_ _) | (with_reducible refine Below.drew ?_) | (with_reducible refine Below.setCell ?_ ?_ _) | go_size)) HO6.out (Nat.le_refl _) hgrow7
              have hne7 : v7 ≠ .slice none 0 0 := by simpa using hnil7
              have HO7 : Hid (w7.ownsRow wr.heap.size 2 1 v7 (k + 1) (cellL (L.take 0 ++ [T k] ++ L.drop 0))) := Lib.hid (ownsRow_cast hown7 (by omega) (by  simp [cellL]))
              obtain ⟨g7, c7, rfl, f1', f2', f3', f4'⟩ := own_form HO7.out hne7
              clear hown7 hgrow7 hnil7 hne7
              go_wp2
              go_roundw
              case rel => exact ⟨k + 1, g7, c7, L.take 0 ++ [T k] ++ L.drop 0, by omega, by go_num, rfl, f1', f2', by omega, (show _ ∧ _ from ⟨ownsRow_mono HO7.out (by omega), by simp; have := HLEN.out; omega, HINS.out, HPERM.out⟩), Base.via hb7 hbr⟩
              case measure => simp [intOf]; omega
          · subst h
            have o0 : wr.cell? ⟨g, y, none⟩ = some (.int .i64 (lf L y)) := by
              have hs := (OwnK.of_own HROW.out (by omega) (by rw [← HLEN.out]; exact cellL_at L)).sl
              obtain ⟨b', off', e4, _, hcc⟩ := hs.at_ (by omega)
              injection e4 with e4
              injection e4 with e5 e6
              subst e5; subst e6
              have := cells1 hcc y (by omega)
              simpa using this
            have hd : decide (T k < lf L y) = false := by simpa using hx
            have ey : IntKind.i64.wrap ((y : Int) + 1 - 1) = (y : Int) := by rw [IntWalk.i64_in _ (by omega)]; omega
            have ey2 : IntKind.i64.wrap (y : Int) = (y : Int) := IntWalk.i64_in _ (by omega)
            have i1 : (0 : Int) ≤ (y : Int) := by omega
            have i2 : (y : Int) < (k : Int) := by omega
            have i3 : (0 : Int) < (y : Int) + 1 := by omega
            have i4 : (0 : Int) ≤ (y : Int) + 1 := by omega
            have i5 : (y : Int) + 1 ≤ (k : Int) := by omega
            have i8 : (y : Int) + 1 ≤ (gc : Int) := by omega
            have t8 : ((y : Int) + 1).toNat = y + 1 := by omega
            clear hx
            by_cases hgj : gc = y + 1
            · subst hgj
              obtain rfl : k = y + 1 := by omega
              have hdrop : L.drop (y + 1) = [] := List.drop_eq_nil_of_le (by rw [HLEN.out]; exact Nat.le_refl _)
              have HDROP := Lib.hid hdrop
              clear hdrop
              have i9 : (y : Int) + 1 < (n : Int) := by omega
              have t9 : ((y : Int) + 1).toNat = y + 1 := by omega
              have t10 : (((y + 1 : Nat) : Int)).toNat = y + 1 := by omega
              go_wp2
              go_quiet (fail)
              go_wp2_with fail
              go_region_held3 (fun W => W.cell? ⟨b, off + (y + 1), none⟩ = some (.int .i64 (T (y + 1))) ∧ Below wr.heap.size wr W)
                (first | exact HS _ _ (by assumption) hb5 | exact HS _ _ (by assumption) ((Below.refl _ _).alloc (Nat.le_refl _) _) | exact HG _ _ _ _ _ (by first | exact hoW | exact hoW.alloc _) hgrow6 (by assumption) | exact ⟨q0, (by repeat' (first | (with_reducible exact Below.refl _ _) | (with_reducible assumption) | (with_reducible refine Base.via hE ?_) | (with_reducible refine Base.grow_alloc ?_ _) | (with_reducible refine Base.below_drewN ?_ _) | (with_reducible refine Below.drew ?_) | (with_reducible refine Below.setCell ?_ ?_ _) | go_size))⟩ | exact ⟨cell_drew q0, (by repeat' (first | (with_reducible exact Below.refl _ _) | (with_reducible assumption) | (with_reducible refine Base.via hE ?_) | (with_reducible refine Base.grow_alloc ?_ _) | (with_reducible refine Base.below_drewN ?_ _) | (with_reducible refine Below.drew ?_) | (with_reducible refine Below.setCell ?_ ?_ _) | go_size))⟩)
                (first | (have hs := (‹_ ∧ Below wr.heap.size wr _›).2; go_at_call 84; refine (c_l00Own ⟨g, 0, none⟩ (y + 1) (y + 1) (L.take (y + 1)) _ (by first | (simp; done) | (simp; have := HLEN.out; omega)) (HSL.out.below hs)).mono ?_; rintro r5 w5 ⟨v5, rfl, hne5, ho5', hb5⟩; have ho5 : w5.ownsRow wr.heap.size 2 1 v5 (y + 1) (cellL (L.take (y + 1))) := ownsRow_mono ho5' hs.size) | (have hs := (‹_ ∧ Below wr.heap.size wr _›); refine step_append_lies _ (by rfl) _ _ _ (by rfl) wr.heap.size 2 i0 _ 1 8 Try.underlying24 hi0 hz0 hz1 hz2 rfl (by decide) v5 (y + 1) _ (by rfl) (by first | exact ho5 | exact ho5.alloc _) ⟨_, 0, none⟩ 1 1 [.int .i64 (T (y + 1))] (by rfl) (by rfl) (by first | exact cell_newL _ _ _ rfl | exact news_below hb5 (cell_newL _ _ _ rfl)) (by simp [Value.oneCell']) (by decide) (by simp only [maxLen]; omega) (by omega) hs.2.size _ (by rfl) ?_; intro g6 cap6 w6 hown6 hgrow6 hat6 hlt6; have hoW := ho5))
              all_goals
                obtain ⟨_, hb6⟩ := ‹_ ∧ Below wr.heap.size wr _›
                have HO6 : Hid (w6.ownsRow wr.heap.size 2 1 (.slice (some ⟨g6, 0, none⟩) ((y + 1) + 1) cap6) ((y + 1) + 1) (cellL (L.take (y + 1) ++ [T (y + 1)]))) := Lib.hid (by rw [← cellL_snoc]; exact hown6)
                have hz6 := hb6.size
                clear hown6 hgrow6 hat6 hb5 ho5 ho5' hne5
                go_wp2_with (first | (at_builtin; refine wpList_append_own _ rfl _ _ 24 rfl (wr.heap.size) 2 i0 _ 1 8 Try.underlying24 hi0 hz0 hz1 hz2 rfl (by decide) _ _ _ rfl HO6.out ⟨g, 0, none⟩ 0 _ [] (by first | rfl | (simp; done)) (by rfl) (fun j u hu => by simp at hu) (by simp) (by simp only [maxLen]; omega) (by omega) (by first | omega | (simp; omega)) ?_))
                intro v7 w7 hown7 hgrow7 hnil7
                have hb7 : Below wr.heap.size wr w7 := own_grow (by repeat' (first | (with_reducible exact Below.refl _ _) | (with_reducible assumption) | (with_reducible refine Base.via hb6 ?_) | (with_reducible refine Base.grow_alloc ?_ _) | (with_reducible refine Base.below_drewN ?_ _) | (with_reducible refine Below.drew ?_) | (with_reducible refine Below.setCell ?_ ?_ _) | go_size)) HO6.out (Nat.le_refl _) hgrow7
                have hne7 : v7 ≠ .slice none 0 0 := by simpa using hnil7
                have HO7 : Hid (w7.ownsRow wr.heap.size 2 1 v7 (y + 1 + 1) (cellL (L.take (y + 1) ++ [T (y + 1)] ++ L.drop (y + 1)))) := Lib.hid (ownsRow_cast hown7 (by omega) (by rw [HDROP.out]; simp [cellL]))
                obtain ⟨g7, c7, rfl, f1', f2', f3', f4'⟩ := own_form HO7.out hne7
                clear hown7 hgrow7 hnil7 hne7
                go_wp2
                go_roundw
                case rel => exact ⟨y + 1 + 1, g7, c7, L.take (y + 1) ++ [T (y + 1)] ++ L.drop (y + 1), by omega, by go_num, rfl, f1', f2', by omega, (show _ ∧ _ from ⟨ownsRow_mono HO7.out (by omega), by simp; have := HLEN.out; omega, HINS.out, HPERM.out⟩), Base.via hb7 hbr⟩
                case measure => simp [intOf]; omega
            · have hgj2 : ¬ gc = y + 1 := hgj
              go_wp2
              go_quiet (fail)
              go_wp2_with fail
              go_region_held3 (fun W => W.cell? ⟨b, off + k, none⟩ = some (.int .i64 (T k)) ∧ Below wr.heap.size wr W)
                (first | exact HS _ _ (by assumption) hb5 | exact HS _ _ (by assumption) ((Below.refl _ _).alloc (Nat.le_refl _) _) | exact HG _ _ _ _ _ (by first | exact hoW | exact hoW.alloc _) hgrow6 (by assumption) | exact ⟨q0, (by repeat' (first | (with_reducible exact Below.refl _ _) | (with_reducible assumption) | (with_reducible refine Base.via hE ?_) | (with_reducible refine Base.grow_alloc ?_ _) | (with_reducible refine Base.below_drewN ?_ _) | (with_reducible refine Below.drew ?_) | (with_reducible refine Below.setCell ?_ ?_ _) | go_size))⟩ | exact ⟨cell_drew q0, (by repeat' (first | (with_reducible exact Below.refl _ _) | (with_reducible assumption) | (with_reducible refine Base.via hE ?_) | (with_reducible refine Base.grow_alloc ?_ _) | (with_reducible refine Base.below_drewN ?_ _) | (with_reducible refine Below.drew ?_) | (with_reducible refine Below.setCell ?_ ?_ _) | go_size))⟩)
                (first | (have hs := (‹_ ∧ Below wr.heap.size wr _›).2; go_at_call 84; refine (c_l00Own ⟨g, 0, none⟩ (y + 1) gc (L.take (y + 1)) _ (by first | (simp; done) | (simp; have := HLEN.out; omega)) (HSL.out.below hs)).mono ?_; rintro r5 w5 ⟨v5, rfl, hne5, ho5', hb5⟩; have ho5 : w5.ownsRow wr.heap.size 2 1 v5 (y + 1) (cellL (L.take (y + 1))) := ownsRow_mono ho5' hs.size) | (have hs := (‹_ ∧ Below wr.heap.size wr _›); refine step_append_lies _ (by rfl) _ _ _ (by rfl) wr.heap.size 2 i0 _ 1 8 Try.underlying24 hi0 hz0 hz1 hz2 rfl (by decide) v5 (y + 1) _ (by rfl) (by first | exact ho5 | exact ho5.alloc _) ⟨_, 0, none⟩ 1 1 [.int .i64 (T k)] (by rfl) (by rfl) (by first | exact cell_newL _ _ _ rfl | exact news_below hb5 (cell_newL _ _ _ rfl)) (by simp [Value.oneCell']) (by decide) (by simp only [maxLen]; omega) (by omega) hs.2.size _ (by rfl) ?_; intro g6 cap6 w6 hown6 hgrow6 hat6 hlt6; have hoW := ho5))
              all_goals
                obtain ⟨_, hb6⟩ := ‹_ ∧ Below wr.heap.size wr _›
                have HO6 : Hid (w6.ownsRow wr.heap.size 2 1 (.slice (some ⟨g6, 0, none⟩) ((y + 1) + 1) cap6) ((y + 1) + 1) (cellL (L.take (y + 1) ++ [T k]))) := Lib.hid (by rw [← cellL_snoc]; exact hown6)
                have hz6 := hb6.size
                clear hown6 hgrow6 hat6 hb5 ho5 ho5' hne5
                go_wp2_with (first | (at_builtin; refine wpList_append_own _ rfl _ _ 24 rfl (wr.heap.size) 2 i0 _ 1 8 Try.underlying24 hi0 hz0 hz1 hz2 rfl (by decide) _ _ _ rfl HO6.out ⟨g, y + 1, none⟩ (k - (y + 1)) _ (cellL (L.drop (y + 1))) (by first | rfl | (simp; done)) (by rw [cellL_len, List.length_drop, HLEN.out, Nat.mul_one]) (newsL (by rw [List.length_drop, HLEN.out]) (HSD.out.below (by repeat' (first | (with_reducible exact Below.refl _ _) | (with_reducible assumption) | (with_reducible refine Base.via hb6 ?_) | (with_reducible refine Base.grow_alloc ?_ _) | (with_reducible refine Base.below_drewN ?_ _) | (with_reducible refine Below.drew ?_) | (with_reducible refine Below.setCell ?_ ?_ _) | go_size)))) one_L (by simp only [maxLen]; omega) (by omega) (by first | omega | (simp; omega)) ?_))
                intro v7 w7 hown7 hgrow7 hnil7
                have hb7 : Below wr.heap.size wr w7 := own_grow (by repeat' (first | (with_reducible exact Below.refl _ _) | (with_reducible assumption) | (with_reducible refine Base.via hb6 ?_) | (with_reducible refine Base.grow_alloc ?_ _) | (with_reducible refine Base.below_drewN ?_ _) | (with_reducible refine Below.drew ?_) | (with_reducible refine Below.setCell ?_ ?_ _) | go_size)) HO6.out (Nat.le_refl _) hgrow7
                have hne7 : v7 ≠ .slice none 0 0 := by simpa using hnil7
                have HO7 : Hid (w7.ownsRow wr.heap.size 2 1 v7 (k + 1) (cellL (L.take (y + 1) ++ [T k] ++ L.drop (y + 1)))) := Lib.hid (ownsRow_cast hown7 (by omega) (by  simp [cellL]))
                obtain ⟨g7, c7, rfl, f1', f2', f3', f4'⟩ := own_form HO7.out hne7
                clear hown7 hgrow7 hnil7 hne7
                go_wp2
                go_roundw
                case rel => exact ⟨k + 1, g7, c7, L.take (y + 1) ++ [T k] ++ L.drop (y + 1), by omega, by go_num, rfl, f1', f2', by omega, (show _ ∧ _ from ⟨ownsRow_mono HO7.out (by omega), by simp; have := HLEN.out; omega, HINS.out, HPERM.out⟩), Base.via hb7 hbr⟩
                case measure => simp [intOf]; omega
    · have hkn : k = n := by omega
      subst hkn
      go_wp2
      go_ret
      have hE := srt_of HUPL.out HPRM.out
      refine ⟨_, rfl, ?_, hbr⟩
      have h1 := (OwnK.of_own HROW.out (by omega) (by rw [← HLEN.out]; exact cellL_at L))
      rw [hE] at h1
      exact h1
end Go.Proofs.Ytenjcdhehjdeoaa.Med
