/- The order of indices by numbers, equal ones in their order: what the reference computes, and both results. -/
import Derived.Test.YtenjcdhehjdeoaaOrd
import Derived.Test.YtenjcdhehjdeoaaCopy
import Derived.Deep.AppendLies
namespace Go.Proofs.Ytenjcdhehjdeoaa.Ord
set_option linter.unusedVariables false
set_option linter.unusedSimpArgs false
set_option maxRecDepth 8000
open Go.RowKit Plain Num View Sym Srt

theorem own_form {w : World} {B : Nat} {E : TypeId} {k n : Nat} {v : Value} {xs : List Value} (h : w.ownsRow B E k v n xs) (hv : v ≠ .slice none 0 0) : ∃ g c, v = .slice (some ⟨g, 0, none⟩) n c ∧ n ≤ c ∧ c ≤ 9223372036854775807 ∧ B ≤ g ∧ g < w.heap.size := by
  obtain ⟨hl, ⟨rfl, rfl⟩ | ⟨g, cap, cur, rfl, hg, hh, hnc, hcap, hsz, htake⟩⟩ := h
  · exact absurd rfl hv
  · exact ⟨g, cap, rfl, hnc, by simpa [maxLen] using hcap, hg, (Array.getElem?_eq_some_iff.1 hh).1⟩
theorem ownsRow_mono {w : World} {B B' : Nat} {E : TypeId} {k n : Nat} {v : Value} {xs : List Value} (h : w.ownsRow B E k v n xs) (hB : B' ≤ B) : w.ownsRow B' E k v n xs := by
  refine ⟨h.1, ?_⟩
  rcases h.2 with h | ⟨g, cap, cur, e, hg, r⟩
  · exact .inl h
  · exact .inr ⟨g, cap, cur, e, Nat.le_trans hB hg, r⟩
theorem ownsRow_cast {w : World} {B : Nat} {E : TypeId} {k n n' : Nat} {v : Value} {xs xs' : List Value} (h : w.ownsRow B E k v n xs) (hn : n = n') (hx : xs = xs') : w.ownsRow B E k v n' xs' := by
  subst hn; subst hx; exact h
theorem newsL {w : World} {k c : Nat} {ad : Addr} {S : List Int} (hk : S.length = k) (h : Sl w 1 (some ad) k c (f1 (lf S))) : ∀ (j : Nat) (u : Value), (cellL S)[j]? = some u → w.cell? (ad.add j) = some u := by
  subst hk
  intro j u hj
  have hlt : j < S.length := by
    have := (List.getElem?_eq_some_iff.1 hj).1
    rwa [cellL_len] at this
  obtain ⟨b, off, e, _, hc⟩ := h.at_ (by omega)
  injection e with e
  subst e
  have h0 := cells1 hc j hlt
  have h1 := cellL_at S j hlt 0 (by omega)
  rw [Nat.mul_one, Nat.add_zero] at h1
  rw [hj] at h1
  injection h1 with h1
  rw [h1, Addr.add_lit]
  exact h0
theorem one_L {S : List Int} : ∀ u ∈ cellL S, u.oneCell' = true := by simp [cellL, Value.oneCell']
theorem c_l00Own (ad : Addr) (k c : Nat) (S : List Int) (w : World) (hk : S.length = k) (hv : Sl w 1 (some ad) k c (f1 (lf S))) :
    Calls Try.prog 84 #[.slice (some ad) k c] w fun e w' => ∃ v, e = .returned v ∧ v ≠ .slice none 0 0 ∧ w'.ownsRow w.heap.size 2 1 v k (cellL S) ∧ Below w.heap.size w w' := by
  have hn := hv.le
  obtain ⟨i0, hi0, hz0, hz1, hz2⟩ := info_parts infoI
  have ho : (w.alloc (.cells #[] 2)).ownsRow w.heap.size 2 1 (.slice (some ⟨w.heap.size, 0, none⟩) 0 0) 0 [] := World.ownsRow_made _ _ _ (by omega) (by simp [maxLen]) rfl
  go_enter Try.func84, Try.ntmps84
  go_wp2_with (at_builtin; refine wpList_append_own _ rfl _ _ 24 rfl (w.heap.size) 2 i0 _ 1 8 Try.underlying24 hi0 hz0 hz1 hz2 rfl (by decide) _ _ _ rfl ho ad k c (cellL S) rfl (by rw [cellL_len, hk, Nat.mul_one]) (newsL hk (hv.below (by repeat' (first | (with_reducible exact Below.refl _ _) | (with_reducible assumption) | (with_reducible refine Base.grow_alloc ?_ _) | (with_reducible refine Base.below_drewN ?_ _) | (with_reducible refine Below.drew ?_) | (with_reducible refine Below.setCell ?_ ?_ _) | go_size)))) one_L (by simp only [maxLen]; omega) (by omega) (by simp) ?_)
  intro v' w1 hown' hgrow hnil
  have hne : v' ≠ .slice none 0 0 := by simpa using hnil
  have hb1 : Below w.heap.size w w1 := own_grow (by repeat' (first | (with_reducible exact Below.refl _ _) | (with_reducible assumption) | (with_reducible refine Base.grow_alloc ?_ _) | (with_reducible refine Base.below_drewN ?_ _) | (with_reducible refine Below.drew ?_) | (with_reducible refine Below.setCell ?_ ?_ _) | go_size)) ho (Nat.le_refl _) hgrow
  go_wp2
  go_ret
  exact ⟨_, rfl, hne, (by first | exact hown' | simpa using hown'), hb1⟩
set_option maxHeartbeats 6400000 in
theorem c_l09Fold (e p : Int) (A : Option Addr) (n c : Nat) (T M : Nat → Int) (w : World) (hv : Sl w 2 A n c (f2 T M)) (b1 : 0 ≤ e ∧ e ≤ 10000000) (b2 : 1 ≤ p ∧ p ≤ 1000000) (hT : ∀ i, i < n → 0 ≤ T i ∧ T i ≤ 10000000) :
    Calls Try.prog 57 #[.agg #[.int .i64 e, .int .i64 p], .slice A n c] w fun r w' => ∃ v, r = .returned v ∧ OwnK w' w.heap.size 2 1 v n (f1 (lf (foL (phK e p T) n))) ∧ Below w.heap.size w w' := by
  have hn := hv.le
  have HT := Lib.hid hT
  clear hT
  obtain ⟨i0, hi0, hz0, hz1, hz2⟩ := info_parts infoI
  go_enter Try.func57, Try.ntmps57
  go_wp2
  go_loopw [5, 6, 7, 8] (fun u i _ _ wr => ∃ (k g gc : Nat) (L : List Int), k ≤ n ∧ i = .int .i64 k ∧ u = .slice (some ⟨g, 0, none⟩) k gc ∧ k ≤ gc ∧ gc ≤ 9223372036854775807 ∧ w.heap.size < g ∧ Hid (wr.ownsRow (w.heap.size + 1) 2 1 u k (cellL L) ∧ L.length = k ∧ Blk (phK e p T) (lf L) 0 k) ∧ Below w.heap.size w wr ∧ wr.cell? ⟨w.heap.size, 0, none⟩ = some (.int .i64 e) ∧ wr.cell? ⟨w.heap.size, 1, none⟩ = some (.int .i64 p)) (fun _ i _ _ _ => n - (intOf i).toNat)
  case atStart => exact ⟨0, w.heap.size + 1, 0, [], Nat.zero_le _, rfl, rfl, by omega, by omega, by omega, (show _ ∧ _ from ⟨(by have h := World.ownsRow_made (base := w.heap.size + 1) (e := 2) (size := 1) (w.alloc (.cells #[.int .i64 e, .int .i64 p] 42)) #[] 0 (by simp) (by simp [maxLen]) rfl; simpa [cellL] using h), rfl, Asc.small (by omega), fun i h1 h2 => by omega, fun x h1 h2 => by omega⟩), (by repeat' (first | (with_reducible exact Below.refl _ _) | (with_reducible assumption) | (with_reducible refine Base.grow_alloc ?_ _) | (with_reducible refine Base.below_drewN ?_ _) | (with_reducible refine Below.drew ?_) | (with_reducible refine Below.setCell ?_ ?_ _) | go_size)), by simp [go_sem], by simp [go_sem]⟩
  case round =>
    obtain ⟨k, g, gc, L, hk, rfl, rfl, hgc, hgm, hg, hrow, hbr, hc0, hc1⟩ := hrel
    have HROW := Lib.hid hrow.out.1
    have HLEN := Lib.hid hrow.out.2.1
    have HBLK := Lib.hid hrow.out.2.2
    have hgl : g < wr.heap.size := (OwnK.of_own hrow.out.1 (by omega) (by rw [← HLEN.out]; exact cellL_at L)).blk g rfl |>.2
    clear hrow
    by_cases hlt : k < n
    · go_wp2
      go_loopw [7] (fun v wr => ∃ j : Nat, j ≤ k ∧ v = .int .i64 j ∧ g < wr.heap.size ∧ Hid (wr.ownsRow (w.heap.size + 1) 2 1 (.slice (some ⟨g, 0, none⟩) k gc) k (cellL L) ∧ ∀ q, j ≤ q → q < k → phK e p T k < phK e p T (lf L q)) ∧ Below w.heap.size w wr ∧ wr.cell? ⟨w.heap.size, 0, none⟩ = some (.int .i64 e) ∧ wr.cell? ⟨w.heap.size, 1, none⟩ = some (.int .i64 p)) (fun v _ => (intOf v).toNat)
      case atStart => exact ⟨k, Nat.le_refl _, rfl, hgl, (show _ ∧ _ from ⟨HROW.out, fun q h1 h2 => by omega⟩), hbr, hc0, hc1⟩
      case round =>
        clear HROW hbr hc0 hc1 hgl
        obtain ⟨j, hj, rfl, hgl, hrow, hbr, hc0, hc1⟩ := hrel
        have HROW := Lib.hid hrow.out.1
        have HUP := Lib.hid hrow.out.2
        clear hrow
        have lb0 : w.heap.size < wr.heap.size := World.block_lt_of_cell? _ _ hc0
        obtain ⟨b, off, hA, hb, hc⟩ := (hv.below hbr).at_ (show 0 < n by omega)
        obtain ⟨q0, q1⟩ := cells2 hc k hlt
        have HCV := Lib.hid hc
        clear hc q1
        have t0 := HT.out k hlt
        subst hA
        by_cases hcont : ∃ y : Nat, j = y + 1 ∧ phK e p T k < phK e p T (lf L y)
        · obtain ⟨y, rfl, hph⟩ := hcont
          have hrange := HBLK.out.2.1 y (by omega) (by omega)
          obtain ⟨x, hx⟩ : ∃ x : Nat, lf L y = x := ⟨(lf L y).toNat, by omega⟩
          have hxn : x < n := by omega
          have hUP := Lib.hid (show ∀ q, y ≤ q → q < k → phK e p T k < phK e p T (lf L q) from fun q h1 h2 => by
            by_cases h : q = y
            · subst h; exact hph
            · exact HUP.out q (by omega) h2)
          have o0 : wr.cell? ⟨g, y, none⟩ = some (.int .i64 (x : Int)) := by
            have h1 := (OwnK.of_own HROW.out (by omega) (by rw [← HLEN.out]; exact cellL_at L))
            obtain ⟨A', c', e', hs, _⟩ := h1.view
            injection e' with e1 e2 e3
            subst e1; subst e3
            obtain ⟨b', off', e4, _, hcc⟩ := hs.at_ (by omega)
            injection e4 with e4
            injection e4 with e5 e6
            subst e5; subst e6
            have := cells1 hcc y (by omega)
            rw [hx] at this
            simpa using this
          obtain ⟨p0, p1⟩ := cells2 HCV.out x hxn
          have t1 := HT.out x hxn
          rw [hx, phK_at, phK_at] at hph
          have hd : decide ((T k - e) % p < (T x - e) % p) = true := by simpa using hph
          have ey : IntKind.i64.wrap ((y : Int) + 1 - 1) = (y : Int) := by rw [IntWalk.i64_in _ (by omega)]; omega
          have ey2 : IntKind.i64.wrap (y : Int) = (y : Int) := IntWalk.i64_in _ (by omega)
          have i1 : (0 : Int) ≤ (y : Int) := by omega
          have i2 : (y : Int) < (k : Int) := by omega
          have i3 : (0 : Int) < (y : Int) + 1 := by omega
          have i4 : (0 : Int) ≤ (x : Int) := by omega
          have i5 : (x : Int) < (n : Int) := by omega
          have i6 : (0 : Int) ≤ (k : Int) := by omega
          have i7 : (k : Int) < (n : Int) := by omega
          have c1 := hc0
          have c2 := hc1
          clear p1 hx hph
          go_wp2
          go_region_held3 (fun V => (V.cell? ⟨w.heap.size, 0, none⟩ = some (.int .i64 e) ∧ V.cell? ⟨w.heap.size, 1, none⟩ = some (.int .i64 p) ∧ V.cell? ⟨g, y, none⟩ = some (.int .i64 (x : Int)) ∧ V.cell? ⟨b, off + x * 2, none⟩ = some (.int .i64 (T x)) ∧ V.cell? ⟨b, off + k * 2, none⟩ = some (.int .i64 (T k))) ∧ Below wr.heap.size wr V)
            (first | exact ⟨⟨cell_drew c1, cell_drew c2, cell_drew o0, cell_drew p0, cell_drew q0⟩, (by repeat' (first | (with_reducible exact Below.refl _ _) | (with_reducible assumption) | (with_reducible refine Base.grow_alloc ?_ _) | (with_reducible refine Base.below_drewN ?_ _) | (with_reducible refine Below.drew ?_) | (with_reducible refine Below.setCell ?_ ?_ _) | go_size))⟩ | (obtain ⟨⟨d0, d1, d2, d3, d4⟩, hs⟩ := ‹_ ∧ Below wr.heap.size wr _›; exact ⟨⟨cell_call hb2 d0, cell_call hb2 d1, cell_call hb2 d2, cell_call hb2 d3, cell_call hb2 d4⟩, Base.via hb2 hs⟩) | (obtain ⟨⟨d0, d1, d2, d3, d4⟩, hs⟩ := ‹_ ∧ Below wr.heap.size wr _›; exact ⟨⟨cell_call hb1 d0, cell_call hb1 d1, cell_call hb1 d2, cell_call hb1 d3, cell_call hb1 d4⟩, Base.via hb1 hs⟩))
            (first | (go_at_call_of 83 (Value.int .i64 (T x)); refine (Eph.c_l09Phase e p (T x) _ b1 b2 t1).mono ?_; rintro e w1 ⟨rfl, hb1⟩) | (go_at_call_of 83 (Value.int .i64 (T k)); refine (Eph.c_l09Phase e p (T k) _ b1 b2 t0).mono ?_; rintro e w2 ⟨rfl, hb2⟩))
          all_goals
            obtain ⟨⟨d0, d1, _, _, _⟩, hE⟩ := ‹_ ∧ Below wr.heap.size wr _›
            have hzE := hE.size
            go_wp2
            go_roundw
            case rel => exact ⟨y, by omega, by go_num, by omega, (show _ ∧ _ from ⟨own_of_below HROW.out hE, hUP.out⟩), Base.via hE hbr, d0, d1⟩
            case measure => simp [intOf]
        · have hstop : j = 0 ∨ (∃ y : Nat, j = y + 1 ∧ ¬ phK e p T k < phK e p T (lf L y)) := by
            rcases Nat.eq_zero_or_pos j with h | h
            · exact .inl h
            · exact .inr ⟨j - 1, by omega, fun hx => hcont ⟨j - 1, by omega, hx⟩⟩
          clear hcont
          have HINS : Hid (Blk (phK e p T) (lf (L.take j ++ [(k : Int)] ++ L.drop j)) 0 (k + 1)) := Lib.hid (ins_blk HLEN.out HBLK.out hj HUP.out (by
            rcases hstop with h | ⟨y, h, hx⟩
            · exact .inl h
            · subst h; exact .inr hx))
          have HSL : Hid (Sl wr 1 (some ⟨g, 0, none⟩) j gc (f1 (lf (L.take j)))) := Lib.hid (by
            have h1 := (OwnK.of_own HROW.out (by omega) (by rw [← HLEN.out]; exact cellL_at L)).sl
            refine (h1.take hj).congr fun i hi j' _ => ?_
            simp only [f1, lf, List.getD_eq_getElem?_getD]
            rw [List.getElem?_take, if_pos hi])
          have HSD : Hid (Sl wr 1 (some ⟨g, j, none⟩) (k - j) (gc - j) (f1 (lf (L.drop j)))) := Lib.hid (by
            have h1 := (OwnK.of_own HROW.out (by omega) (by rw [← HLEN.out]; exact cellL_at L)).sl
            have h2 := Sl.sub h1 hj (Nat.le_refl k) hgl
            rw [Nat.zero_add, Nat.mul_one] at h2
            refine h2.congr fun i hi j' _ => ?_
            simp only [f1, lf, List.getD_eq_getElem?_getD]
            rw [List.getElem?_drop])
          rcases hstop with h | ⟨y, h, hx⟩
          · subst h
            have hE : Below wr.heap.size wr wr := Below.refl _ _
            go_wp2
            go_quiet (fail)
            go_wp2_with (first | (go_at_call 84; refine (c_l00Own ⟨g, 0, none⟩ 0 gc (L.take 0) _ (by first | (simp; done) | (simp; have := HLEN.out; omega)) (HSL.out.below (by repeat' (first | (with_reducible exact Below.refl _ _) | (with_reducible assumption) | (with_reducible refine Base.via hE ?_) | (with_reducible refine Base.grow_alloc ?_ _) | (with_reducible refine Base.below_drewN ?_ _) | (with_reducible refine Below.drew ?_) | (with_reducible refine Below.setCell ?_ ?_ _) | go_size)))).mono ?_; rintro r5 w5 ⟨v5, rfl, hne5, ho5, hb5⟩; have hb5' : Below wr.heap.size wr w5 := (by repeat' (first | (with_reducible exact Below.refl _ _) | (with_reducible assumption) | (with_reducible refine Base.via hb5 ?_) | (with_reducible refine Base.via hE ?_) | (with_reducible refine Base.grow_alloc ?_ _) | (with_reducible refine Base.below_drewN ?_ _) | (with_reducible refine Below.drew ?_) | (with_reducible refine Below.setCell ?_ ?_ _) | go_size)); have ho5' : w5.ownsRow wr.heap.size 2 1 v5 0 (cellL (L.take 0)) := ownsRow_mono ho5 (by first | exact hE.size | (simp; done) | omega); have hz5 := hb5'.size) | (at_builtin; refine wpList_append_own _ rfl _ _ 24 rfl (wr.heap.size) 2 i0 _ 1 8 Try.underlying24 hi0 hz0 hz1 hz2 rfl (by decide) _ _ _ rfl (own_of_below ho5' (by repeat' (first | (with_reducible exact Below.refl _ _) | (with_reducible assumption) | (with_reducible refine Base.grow_alloc ?_ _) | (with_reducible refine Base.below_drewN ?_ _) | (with_reducible refine Below.drew ?_) | (with_reducible refine Below.setCell ?_ ?_ _) | go_size))) ⟨_, 0, none⟩ 1 1 [.int .i64 ((k : Int))] rfl rfl (cell_newL _ [.int .i64 ((k : Int))] _ (by simp)) (by simp [Value.oneCell']) (by simp only [maxLen]; omega) (by omega) (by simp; omega) ?_))
            intro v6 w6 hown6 hgrow6 hnil6
            have hb6 : Below wr.heap.size wr w6 := own_grow (by repeat' (first | (with_reducible exact Below.refl _ _) | (with_reducible assumption) | (with_reducible refine Base.via hb5' ?_) | (with_reducible refine Base.grow_alloc ?_ _) | (with_reducible refine Base.below_drewN ?_ _) | (with_reducible refine Below.drew ?_) | (with_reducible refine Below.setCell ?_ ?_ _) | go_size)) (own_of_below ho5' (by repeat' (first | (with_reducible exact Below.refl _ _) | (with_reducible assumption) | (with_reducible refine Base.grow_alloc ?_ _) | (with_reducible refine Base.below_drewN ?_ _) | (with_reducible refine Below.drew ?_) | (with_reducible refine Below.setCell ?_ ?_ _) | go_size))) (Nat.le_refl _) hgrow6
            have hne6 : v6 ≠ .slice none 0 0 := by simpa [hne5] using hnil6
            have HO6 : Hid (w6.ownsRow wr.heap.size 2 1 v6 (0 + 1) (cellL (L.take 0 ++ [(k : Int)]))) := Lib.hid (by rw [← cellL_snoc]; exact hown6)
            have hz6 := hb6.size
            clear hown6 hgrow6 hnil6 hb5 hb5' ho5 ho5' hz5
            go_wp2_with (first | (at_builtin; refine wpList_append_own _ rfl _ _ 24 rfl (wr.heap.size) 2 i0 _ 1 8 Try.underlying24 hi0 hz0 hz1 hz2 rfl (by decide) _ _ _ rfl HO6.out ⟨g, 0, none⟩ (k - 0) _ (cellL (L.drop 0)) (by first | rfl | (simp; done)) (by rw [cellL_len, List.length_drop, HLEN.out, Nat.mul_one]) (newsL (by rw [List.length_drop, HLEN.out]) (HSD.out.below (by repeat' (first | (with_reducible exact Below.refl _ _) | (with_reducible assumption) | (with_reducible refine Base.via hb6 ?_) | (with_reducible refine Base.grow_alloc ?_ _) | (with_reducible refine Base.below_drewN ?_ _) | (with_reducible refine Below.drew ?_) | (with_reducible refine Below.setCell ?_ ?_ _) | go_size)))) one_L (by simp only [maxLen]; omega) (by omega) (by first | omega | (simp; omega)) ?_))
            intro v7 w7 hown7 hgrow7 hnil7
            have hb7 : Below wr.heap.size wr w7 := own_grow (by repeat' (first | (with_reducible exact Below.refl _ _) | (with_reducible assumption) | (with_reducible refine Base.via hb6 ?_) | (with_reducible refine Base.grow_alloc ?_ _) | (with_reducible refine Base.below_drewN ?_ _) | (with_reducible refine Below.drew ?_) | (with_reducible refine Below.setCell ?_ ?_ _) | go_size)) HO6.out (Nat.le_refl _) hgrow7
            have hne7 : v7 ≠ .slice none 0 0 := by simpa [hne6] using hnil7
            have HO7 : Hid (w7.ownsRow wr.heap.size 2 1 v7 (k + 1) (cellL (L.take 0 ++ [(k : Int)] ++ L.drop 0))) := Lib.hid (ownsRow_cast hown7 (by omega) (by simp [cellL]))
            obtain ⟨g7, c7, rfl, f1', f2', f3', f4'⟩ := own_form HO7.out hne7
            have k0 := cell_call hb7 hc0
            have k1 := cell_call hb7 hc1
            clear hown7 hgrow7 hnil7 hne7 hne6
            go_wp2
            go_roundw
            case rel => exact ⟨k + 1, g7, c7, L.take 0 ++ [(k : Int)] ++ L.drop 0, by omega, by go_num, rfl, f1', f2', by omega, (show _ ∧ _ from ⟨ownsRow_mono HO7.out (by omega), by simp; have := HLEN.out; omega, HINS.out⟩), Base.via hb7 hbr, k0, k1⟩
            case measure => simp [intOf]; omega
          · subst h
            have hrange := HBLK.out.2.1 y (by omega) (by omega)
            obtain ⟨x, hxx⟩ : ∃ x : Nat, lf L y = x := ⟨(lf L y).toNat, by omega⟩
            have hxn : x < n := by omega
            have o0 : wr.cell? ⟨g, y, none⟩ = some (.int .i64 (x : Int)) := by
              have h1 := (OwnK.of_own HROW.out (by omega) (by rw [← HLEN.out]; exact cellL_at L)).sl
              obtain ⟨b', off', e4, _, hcc⟩ := h1.at_ (by omega)
              injection e4 with e4
              injection e4 with e5 e6
              subst e5; subst e6
              have := cells1 hcc y (by omega)
              rw [hxx] at this
              simpa using this
            obtain ⟨p0, p1⟩ := cells2 HCV.out x hxn
            have t1 := HT.out x hxn
            rw [hxx, phK_at, phK_at] at hx
            have hd : decide ((T k - e) % p < (T x - e) % p) = false := by simpa using hx
            have ey : IntKind.i64.wrap ((y : Int) + 1 - 1) = (y : Int) := by rw [IntWalk.i64_in _ (by omega)]; omega
            have ey2 : IntKind.i64.wrap (y : Int) = (y : Int) := IntWalk.i64_in _ (by omega)
            have i1 : (0 : Int) ≤ (y : Int) := by omega
            have i2 : (y : Int) < (k : Int) := by omega
            have i3 : (0 : Int) < (y : Int) + 1 := by omega
            have i4 : (0 : Int) ≤ (x : Int) := by omega
            have i5 : (x : Int) < (n : Int) := by omega
            have i6 : (0 : Int) ≤ (k : Int) := by omega
            have i7 : (k : Int) < (n : Int) := by omega
            have c1 := hc0
            have c2 := hc1
            clear p1 hxx hx
            go_wp2
            go_region_held3 (fun V => (V.cell? ⟨w.heap.size, 0, none⟩ = some (.int .i64 e) ∧ V.cell? ⟨w.heap.size, 1, none⟩ = some (.int .i64 p) ∧ V.cell? ⟨g, y, none⟩ = some (.int .i64 (x : Int)) ∧ V.cell? ⟨b, off + x * 2, none⟩ = some (.int .i64 (T x)) ∧ V.cell? ⟨b, off + k * 2, none⟩ = some (.int .i64 (T k))) ∧ Below wr.heap.size wr V)
              (first | exact ⟨⟨cell_drew c1, cell_drew c2, cell_drew o0, cell_drew p0, cell_drew q0⟩, (by repeat' (first | (with_reducible exact Below.refl _ _) | (with_reducible assumption) | (with_reducible refine Base.grow_alloc ?_ _) | (with_reducible refine Base.below_drewN ?_ _) | (with_reducible refine Below.drew ?_) | (with_reducible refine Below.setCell ?_ ?_ _) | go_size))⟩ | (obtain ⟨⟨d0, d1, d2, d3, d4⟩, hs⟩ := ‹_ ∧ Below wr.heap.size wr _›; exact ⟨⟨cell_call hb2 d0, cell_call hb2 d1, cell_call hb2 d2, cell_call hb2 d3, cell_call hb2 d4⟩, Base.via hb2 hs⟩) | (obtain ⟨⟨d0, d1, d2, d3, d4⟩, hs⟩ := ‹_ ∧ Below wr.heap.size wr _›; exact ⟨⟨cell_call hb1 d0, cell_call hb1 d1, cell_call hb1 d2, cell_call hb1 d3, cell_call hb1 d4⟩, Base.via hb1 hs⟩))
              (first | (go_at_call_of 83 (Value.int .i64 (T x)); refine (Eph.c_l09Phase e p (T x) _ b1 b2 t1).mono ?_; rintro e w1 ⟨rfl, hb1⟩) | (go_at_call_of 83 (Value.int .i64 (T k)); refine (Eph.c_l09Phase e p (T k) _ b1 b2 t0).mono ?_; rintro e w2 ⟨rfl, hb2⟩))
            all_goals
              obtain ⟨_, hE⟩ := ‹_ ∧ Below wr.heap.size wr _›
              have hzE := hE.size
              clear c1 c2 o0 p0 q0
              by_cases hgj : gc = y + 1
              · subst hgj
                obtain rfl : k = y + 1 := by omega
                have hdrop : L.drop (y + 1) = [] := List.drop_eq_nil_of_le (by rw [HLEN.out]; exact Nat.le_refl _)
                have HDROP := Lib.hid hdrop
                clear hdrop
                go_wp2_with (first | (go_at_call 84; refine (c_l00Own ⟨g, 0, none⟩ (y + 1) (y + 1) (L.take (y + 1)) _ (by first | (simp; done) | (simp; have := HLEN.out; omega)) (HSL.out.below (by repeat' (first | (with_reducible exact Below.refl _ _) | (with_reducible assumption) | (with_reducible refine Base.via hE ?_) | (with_reducible refine Base.grow_alloc ?_ _) | (with_reducible refine Base.below_drewN ?_ _) | (with_reducible refine Below.drew ?_) | (with_reducible refine Below.setCell ?_ ?_ _) | go_size)))).mono ?_; rintro r5 w5 ⟨v5, rfl, hne5, ho5, hb5⟩; have hb5' : Below wr.heap.size wr w5 := (by repeat' (first | (with_reducible exact Below.refl _ _) | (with_reducible assumption) | (with_reducible refine Base.via hb5 ?_) | (with_reducible refine Base.via hE ?_) | (with_reducible refine Base.grow_alloc ?_ _) | (with_reducible refine Base.below_drewN ?_ _) | (with_reducible refine Below.drew ?_) | (with_reducible refine Below.setCell ?_ ?_ _) | go_size)); have ho5' : w5.ownsRow wr.heap.size 2 1 v5 (y + 1) (cellL (L.take (y + 1))) := ownsRow_mono ho5 (by first | exact hE.size | (simp; done) | omega); have hz5 := hb5'.size) | (at_builtin; refine wpList_append_own _ rfl _ _ 24 rfl (wr.heap.size) 2 i0 _ 1 8 Try.underlying24 hi0 hz0 hz1 hz2 rfl (by decide) _ _ _ rfl (own_of_below ho5' (by repeat' (first | (with_reducible exact Below.refl _ _) | (with_reducible assumption) | (with_reducible refine Base.grow_alloc ?_ _) | (with_reducible refine Base.below_drewN ?_ _) | (with_reducible refine Below.drew ?_) | (with_reducible refine Below.setCell ?_ ?_ _) | go_size))) ⟨_, 0, none⟩ 1 1 [.int .i64 (((y + 1 : Nat) : Int))] rfl rfl (cell_newL _ [.int .i64 (((y + 1 : Nat) : Int))] _ (by simp)) (by simp [Value.oneCell']) (by simp only [maxLen]; omega) (by omega) (by simp; omega) ?_))
                intro v6 w6 hown6 hgrow6 hnil6
                have hb6 : Below wr.heap.size wr w6 := own_grow (by repeat' (first | (with_reducible exact Below.refl _ _) | (with_reducible assumption) | (with_reducible refine Base.via hb5' ?_) | (with_reducible refine Base.grow_alloc ?_ _) | (with_reducible refine Base.below_drewN ?_ _) | (with_reducible refine Below.drew ?_) | (with_reducible refine Below.setCell ?_ ?_ _) | go_size)) (own_of_below ho5' (by repeat' (first | (with_reducible exact Below.refl _ _) | (with_reducible assumption) | (with_reducible refine Base.grow_alloc ?_ _) | (with_reducible refine Base.below_drewN ?_ _) | (with_reducible refine Below.drew ?_) | (with_reducible refine Below.setCell ?_ ?_ _) | go_size))) (Nat.le_refl _) hgrow6
                have hne6 : v6 ≠ .slice none 0 0 := by simpa [hne5] using hnil6
                have HO6 : Hid (w6.ownsRow wr.heap.size 2 1 v6 ((y + 1) + 1) (cellL (L.take (y + 1) ++ [((y + 1 : Nat) : Int)]))) := Lib.hid (by rw [← cellL_snoc]; exact hown6)
                have hz6 := hb6.size
                clear hown6 hgrow6 hnil6 hb5 hb5' ho5 ho5' hz5
                go_wp2_with (first | (at_builtin; refine wpList_append_own _ rfl _ _ 24 rfl (wr.heap.size) 2 i0 _ 1 8 Try.underlying24 hi0 hz0 hz1 hz2 rfl (by decide) _ _ _ rfl HO6.out ⟨g, 0, none⟩ 0 _ [] (by first | rfl | (simp; done)) (by rfl) (fun j u hu => by simp at hu) (by simp) (by simp only [maxLen]; omega) (by omega) (by first | omega | (simp; omega)) ?_))
                intro v7 w7 hown7 hgrow7 hnil7
                have hb7 : Below wr.heap.size wr w7 := own_grow (by repeat' (first | (with_reducible exact Below.refl _ _) | (with_reducible assumption) | (with_reducible refine Base.via hb6 ?_) | (with_reducible refine Base.grow_alloc ?_ _) | (with_reducible refine Base.below_drewN ?_ _) | (with_reducible refine Below.drew ?_) | (with_reducible refine Below.setCell ?_ ?_ _) | go_size)) HO6.out (Nat.le_refl _) hgrow7
                have hne7 : v7 ≠ .slice none 0 0 := by simpa [hne6] using hnil7
                have HO7 : Hid (w7.ownsRow wr.heap.size 2 1 v7 (y + 1 + 1) (cellL (L.take (y + 1) ++ [((y + 1 : Nat) : Int)] ++ L.drop (y + 1)))) := Lib.hid (ownsRow_cast hown7 (by omega) (by rw [HDROP.out]; simp [cellL]))
                obtain ⟨g7, c7, rfl, f1', f2', f3', f4'⟩ := own_form HO7.out hne7
                have k0 := cell_call hb7 hc0
                have k1 := cell_call hb7 hc1
                clear hown7 hgrow7 hnil7 hne7 hne6
                go_wp2
                go_roundw
                case rel => exact ⟨y + 1 + 1, g7, c7, L.take (y + 1) ++ [((y + 1 : Nat) : Int)] ++ L.drop (y + 1), by omega, by go_num, rfl, f1', f2', by omega, (show _ ∧ _ from ⟨ownsRow_mono HO7.out (by omega), by simp; have := HLEN.out; omega, HINS.out⟩), Base.via hb7 hbr, k0, k1⟩
                case measure => simp [intOf]; omega
              · have hgj2 : ¬ gc = y + 1 := hgj
                go_wp2_with (first | (go_at_call 84; refine (c_l00Own ⟨g, 0, none⟩ (y + 1) gc (L.take (y + 1)) _ (by first | (simp; done) | (simp; have := HLEN.out; omega)) (HSL.out.below (by repeat' (first | (with_reducible exact Below.refl _ _) | (with_reducible assumption) | (with_reducible refine Base.via hE ?_) | (with_reducible refine Base.grow_alloc ?_ _) | (with_reducible refine Base.below_drewN ?_ _) | (with_reducible refine Below.drew ?_) | (with_reducible refine Below.setCell ?_ ?_ _) | go_size)))).mono ?_; rintro r5 w5 ⟨v5, rfl, hne5, ho5, hb5⟩; have hb5' : Below wr.heap.size wr w5 := (by repeat' (first | (with_reducible exact Below.refl _ _) | (with_reducible assumption) | (with_reducible refine Base.via hb5 ?_) | (with_reducible refine Base.via hE ?_) | (with_reducible refine Base.grow_alloc ?_ _) | (with_reducible refine Base.below_drewN ?_ _) | (with_reducible refine Below.drew ?_) | (with_reducible refine Below.setCell ?_ ?_ _) | go_size)); have ho5' : w5.ownsRow wr.heap.size 2 1 v5 (y + 1) (cellL (L.take (y + 1))) := ownsRow_mono ho5 (by first | exact hE.size | (simp; done) | omega); have hz5 := hb5'.size) | (at_builtin; refine wpList_append_own _ rfl _ _ 24 rfl (wr.heap.size) 2 i0 _ 1 8 Try.underlying24 hi0 hz0 hz1 hz2 rfl (by decide) _ _ _ rfl (own_of_below ho5' (by repeat' (first | (with_reducible exact Below.refl _ _) | (with_reducible assumption) | (with_reducible refine Base.grow_alloc ?_ _) | (with_reducible refine Base.below_drewN ?_ _) | (with_reducible refine Below.drew ?_) | (with_reducible refine Below.setCell ?_ ?_ _) | go_size))) ⟨_, 0, none⟩ 1 1 [.int .i64 ((k : Int))] rfl rfl (cell_newL _ [.int .i64 ((k : Int))] _ (by simp)) (by simp [Value.oneCell']) (by simp only [maxLen]; omega) (by omega) (by simp; omega) ?_))
                intro v6 w6 hown6 hgrow6 hnil6
                have hb6 : Below wr.heap.size wr w6 := own_grow (by repeat' (first | (with_reducible exact Below.refl _ _) | (with_reducible assumption) | (with_reducible refine Base.via hb5' ?_) | (with_reducible refine Base.grow_alloc ?_ _) | (with_reducible refine Base.below_drewN ?_ _) | (with_reducible refine Below.drew ?_) | (with_reducible refine Below.setCell ?_ ?_ _) | go_size)) (own_of_below ho5' (by repeat' (first | (with_reducible exact Below.refl _ _) | (with_reducible assumption) | (with_reducible refine Base.grow_alloc ?_ _) | (with_reducible refine Base.below_drewN ?_ _) | (with_reducible refine Below.drew ?_) | (with_reducible refine Below.setCell ?_ ?_ _) | go_size))) (Nat.le_refl _) hgrow6
                have hne6 : v6 ≠ .slice none 0 0 := by simpa [hne5] using hnil6
                have HO6 : Hid (w6.ownsRow wr.heap.size 2 1 v6 ((y + 1) + 1) (cellL (L.take (y + 1) ++ [(k : Int)]))) := Lib.hid (by rw [← cellL_snoc]; exact hown6)
                have hz6 := hb6.size
                clear hown6 hgrow6 hnil6 hb5 hb5' ho5 ho5' hz5
                go_wp2_with (first | (at_builtin; refine wpList_append_own _ rfl _ _ 24 rfl (wr.heap.size) 2 i0 _ 1 8 Try.underlying24 hi0 hz0 hz1 hz2 rfl (by decide) _ _ _ rfl HO6.out ⟨g, y + 1, none⟩ (k - (y + 1)) _ (cellL (L.drop (y + 1))) (by first | rfl | (simp; done)) (by rw [cellL_len, List.length_drop, HLEN.out, Nat.mul_one]) (newsL (by rw [List.length_drop, HLEN.out]) (HSD.out.below (by repeat' (first | (with_reducible exact Below.refl _ _) | (with_reducible assumption) | (with_reducible refine Base.via hb6 ?_) | (with_reducible refine Base.grow_alloc ?_ _) | (with_reducible refine Base.below_drewN ?_ _) | (with_reducible refine Below.drew ?_) | (with_reducible refine Below.setCell ?_ ?_ _) | go_size)))) one_L (by simp only [maxLen]; omega) (by omega) (by first | omega | (simp; omega)) ?_))
                intro v7 w7 hown7 hgrow7 hnil7
                have hb7 : Below wr.heap.size wr w7 := own_grow (by repeat' (first | (with_reducible exact Below.refl _ _) | (with_reducible assumption) | (with_reducible refine Base.via hb6 ?_) | (with_reducible refine Base.grow_alloc ?_ _) | (with_reducible refine Base.below_drewN ?_ _) | (with_reducible refine Below.drew ?_) | (with_reducible refine Below.setCell ?_ ?_ _) | go_size)) HO6.out (Nat.le_refl _) hgrow7
                have hne7 : v7 ≠ .slice none 0 0 := by simpa [hne6] using hnil7
                have HO7 : Hid (w7.ownsRow wr.heap.size 2 1 v7 (k + 1) (cellL (L.take (y + 1) ++ [(k : Int)] ++ L.drop (y + 1)))) := Lib.hid (ownsRow_cast hown7 (by omega) (by simp [cellL]))
                obtain ⟨g7, c7, rfl, f1', f2', f3', f4'⟩ := own_form HO7.out hne7
                have k0 := cell_call hb7 hc0
                have k1 := cell_call hb7 hc1
                clear hown7 hgrow7 hnil7 hne7 hne6
                go_wp2
                go_roundw
                case rel => exact ⟨k + 1, g7, c7, L.take (y + 1) ++ [(k : Int)] ++ L.drop (y + 1), by omega, by go_num, rfl, f1', f2', by omega, (show _ ∧ _ from ⟨ownsRow_mono HO7.out (by omega), by simp; have := HLEN.out; omega, HINS.out⟩), Base.via hb7 hbr, k0, k1⟩
                case measure => simp [intOf]; omega
    · have hkn : k = n := by omega
      subst hkn
      go_wp2
      go_ret
      have HF := Lib.hid (foL_row HBLK.out)
      refine ⟨_, rfl, ?_, hbr⟩
      have h1 := (OwnK.of_own HROW.out (by omega) (by rw [← HLEN.out]; exact cellL_at L))
      exact (h1.mono (by omega)).congr fun i hi j' _ => by simp only [f1]; rw [HF.out i hi]
end Go.Proofs.Ytenjcdhehjdeoaa.Ord
