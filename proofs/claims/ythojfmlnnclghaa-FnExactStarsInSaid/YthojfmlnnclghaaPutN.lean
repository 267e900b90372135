/- A name put into an ordered list: the reference. -/
import Derived.Test.YthojfmlnnclghaaStars
import Derived.Test.YthojfmlnnclghaaStarP
import Derived.Sort.Walk0
import Derived.Laws.Cover1
namespace Go.Proofs.Ythojfmlnnclghaa.PutN
set_option linter.unusedVariables false
set_option linter.unusedSimpArgs false
set_option maxRecDepth 8000
open Go.RowKit Go.Shelf Go.Sort Plain Num View Idx Est Name Es1 StS Nms StarP

theorem own_form {w : World} {B : Nat} {E : TypeId} {k n : Nat} {v : Value} {xs : List Value} (h : w.ownsRow B E k v n xs) (hv : v ≠ .slice none 0 0) : ∃ g c, v = .slice (some ⟨g, 0, none⟩) n c ∧ n ≤ c ∧ c ≤ 9223372036854775807 ∧ B ≤ g ∧ g < w.heap.size := by
  obtain ⟨hl, ⟨rfl, rfl⟩ | ⟨g, cap, cur, rfl, hg, hh, hnc, hcap, hsz, htake⟩⟩ := h
  · exact absurd rfl hv
  · exact ⟨g, cap, rfl, hnc, by simpa [maxLen] using hcap, hg, (Array.getElem?_eq_some_iff.1 hh).1⟩
theorem ownsRow_mono {w : World} {B B' : Nat} {E : TypeId} {k n : Nat} {v : Value} {xs : List Value} (h : w.ownsRow B E k v n xs) (hB : B' ≤ B) : w.ownsRow B' E k v n xs := by
  refine ⟨h.1, ?_⟩
  rcases h.2 with h | ⟨g, cap, cur, e, hg, r⟩
  · exact .inl h
  · exact .inr ⟨g, cap, cur, e, Nat.le_trans hB hg, r⟩
theorem ownsRow_cast {w : World} {B : Nat} {E : TypeId} {k n n' : Nat} {v : Value} {xs xs' : List Value} (h : w.ownsRow B E k v n xs) (hn : n = n') (hx : xs = xs') : w.ownsRow B E k v n' xs' := by
  subst hn; subst hx; exact h
/-- the cells of an own row of strings -/
theorem own_cell {w : World} {B g cap : Nat} {T : TypeId} {L : List (List UInt8)} (h : w.ownsRow B T 1 (.slice (some ⟨g, 0, none⟩) L.length cap) L.length (L.map encStr)) (i : Nat) (hi : i < L.length) : w.cell? ⟨g, i, none⟩ = some (encStr (L.getD i [])) := by
  have hsl : OwnK w B T 1 (.slice (some ⟨g, 0, none⟩) L.length cap) L.length (fS (leS L)) → w.cell? ⟨g, i, none⟩ = some (encStr (L.getD i [])) := by
    intro ho
    obtain ⟨b, off, e, _, hc⟩ := ho.sl.at_ (by omega)
    injection e with e
    injection e with e1 e2
    subst e1; subst e2
    have := cellsS hc i hi
    simpa [leS, encStr] using this
  by_cases hn : L.length ≤ 1048576
  · exact hsl (OwnK.of_own h hn (encL_at L))
  · rcases h.2 with ⟨h0, _⟩ | ⟨g', cap', cur, he, hb, hg, h1, h2, h3, h4⟩
    · simp at h0
    · simp only [Value.slice.injEq, Option.some.injEq, Addr.mk.injEq, and_true, true_and] at he
      obtain ⟨rfl, rfl⟩ := he
      have h5 : cur.toList[i]? = some (encStr (L.getD i [])) := by
        have h6 : (cur.toList.take (L.length * 1))[i]? = cur.toList[i]? := List.getElem?_take_of_lt (by omega)
        rw [← h6, h4]
        simp [hi]
      unfold World.cell?
      simpa [hg] using h5
theorem news_take {w : World} {g : Nat} {L : List (List UInt8)} (hc : ∀ i, i < L.length → w.cell? ⟨g, i, none⟩ = some (encStr (L.getD i []))) (k : Nat) : ∀ (j : Nat) (u : Value), ((L.take k).map encStr)[j]? = some u → w.cell? ((⟨g, 0, none⟩ : Addr).add j) = some u := by
  intro j u hj
  have hlt : j < (L.take k).length := by
    have := (List.getElem?_eq_some_iff.1 hj).1
    simpa using this
  have hl : j < L.length ∧ j < k := by simp only [List.length_take] at hlt; omega
  rw [Addr.add_lit, Nat.zero_add, hc j hl.1]
  rw [← hj]
  simp [hl.1, hl.2, List.getElem?_take]
theorem news_drop {w : World} {g : Nat} {L : List (List UInt8)} (hc : ∀ i, i < L.length → w.cell? ⟨g, i, none⟩ = some (encStr (L.getD i []))) (k : Nat) : ∀ (j : Nat) (u : Value), ((L.drop k).map encStr)[j]? = some u → w.cell? ((⟨g, k, none⟩ : Addr).add j) = some u := by
  intro j u hj
  have hlt : j < (L.drop k).length := by
    have := (List.getElem?_eq_some_iff.1 hj).1
    simpa using this
  have hl : k + j < L.length := by simp only [List.length_drop] at hlt; omega
  rw [Addr.add_lit, hc (k + j) hl]
  rw [← hj]
  simp [hl, List.getElem?_drop]
theorem one_S {L : List (List UInt8)} : ∀ u ∈ L.map encStr, u.oneCell' = true := by simp [encStr, Value.oneCell']
theorem cmp3 (a b : List UInt8) : (b < a ∧ Op.bytesLess a b = false ∧ (a == b) = false) ∨ (a = b ∧ Op.bytesLess a b = false ∧ (a == b) = true) ∨ (a < b ∧ Op.bytesLess a b = true ∧ (a == b) = false) := by
  rw [bytesLess_eq]
  by_cases h1 : a < b
  · exact .inr (.inr ⟨h1, by simp [h1], by rw [beq_eq_false_iff_ne]; intro e; rw [e] at h1; exact List.lt_irrefl _ h1⟩)
  · by_cases h2 : a = b
    · exact .inr (.inl ⟨h2, by simp [h1], by simp [h2]⟩)
    · exact .inl ⟨lt_of_ne (List.not_lt.1 h1) (fun e => h2 e.symm), by simp [h1], by simp [h2]⟩
set_option maxHeartbeats 3200000 in
theorem c_l06PutName (B g gc : Nat) (L : List (List UInt8)) (x : ByteArray) (w : World) (hB : B ≤ w.heap.size) (hL : L.length ≤ 1048576) (hgc : L.length ≤ gc) (hgm : gc ≤ 9223372036854775807) (hown : w.ownsRow B 9 1 (.slice (some ⟨g, 0, none⟩) L.length gc) L.length (L.map encStr)) :
    Calls Try.prog 35 #[.slice (some ⟨g, 0, none⟩) L.length gc, .string x] w fun e w' => ∃ g' gc', e = .returned (.slice (some ⟨g', 0, none⟩) (putN L x.data.toList).length gc') ∧ w'.ownsRow B 9 1 (.slice (some ⟨g', 0, none⟩) (putN L x.data.toList).length gc') (putN L x.data.toList).length ((putN L x.data.toList).map encStr) ∧ (putN L x.data.toList).length ≤ gc' ∧ Below w.heap.size w w' := by
  obtain ⟨n, hn⟩ : ∃ n, L.length = n := ⟨_, rfl⟩
  have HNL := Lib.hid hn
  obtain ⟨xl, hxl⟩ : ∃ xl, x.data.toList = xl := ⟨_, rfl⟩
  have hxt : x.toList = xl := by rw [ByteArray.toList_eq, hxl]
  have HXL : Hid (xl = x.data.toList) := Lib.hid hxl.symm
  rw [hxl]
  have hcell := own_cell hown
  have HCL : Hid (∀ W : World, Below w.heap.size w W → ∀ i, i < L.length → W.cell? ⟨g, i, none⟩ = some (encStr (L.getD i []))) := Lib.hid (fun W hW i hi => cell_call hW (hcell i hi))
  obtain ⟨i0, hi0, hz0, hz1, hz2⟩ := info_parts infoStr
  obtain ⟨K, hK⟩ : ∃ K, pk L xl L.length = K := ⟨_, rfl⟩
  have hp := pk_spec L xl L.length
  rw [hK] at hp
  have hKle := hp.1
  have HPU : Hid (putN L xl = if 0 < K ∧ L.getD (K - 1) [] = xl then L else L.take K ++ [xl] ++ L.drop K) := Lib.hid (by rw [putN, hK])
  have HOW := Lib.hid hown
  rw [hn] at hgc hL hKle HCL ⊢
  clear hp hcell hown hxl hn
  go_enter Try.func35, Try.ntmps35
  go_wp2
  go_loopw [5] (fun q wr => ∃ k : Nat, k ≤ n ∧ q = .int .i64 k ∧ Hid (pk L xl k = K) ∧ Below w.heap.size w wr) (fun q _ => (intOf q).toNat)
  case atStart => exact ⟨n, Nat.le_refl _, rfl, (show pk L xl n = K by rw [← HNL.out]; exact hK), (by repeat' (first | (with_reducible exact Below.refl _ _) | (with_reducible assumption) | (with_reducible refine Base.grow_alloc ?_ _) | (with_reducible refine Base.below_drewN ?_ _) | (with_reducible refine Below.drew ?_) | (with_reducible refine Below.setCell ?_ ?_ _) | go_size))⟩
  case round =>
    obtain ⟨k, hk, rfl, hm, hbr⟩ := hrel
    have hzr := hbr.size
    have hstep : ∀ kk, k = kk + 1 → pk L xl k = if xl < L.getD kk [] then pk L xl kk else kk + 1 := fun kk e => by subst e; rfl
    have HSTEP := Lib.hid hstep
    clear hstep
    have ho0 : (wr.alloc (.cells #[] 9)).ownsRow w.heap.size 9 1 (.slice (some ⟨wr.heap.size, 0, none⟩) 0 0) 0 [] := World.ownsRow_made _ _ _ (by simpa using hzr) (by simp [maxLen]) rfl
    by_cases hk0 : k = 0
    · have HPUT : Hid (putN L xl = L.take 0 ++ [xl] ++ L.drop 0) := Lib.hid (by
        have e : K = 0 := by rw [← hm.out, hk0]; rfl
        rw [HPU.out, if_neg (by rw [e]; simp), e])
      subst hk0
      by_cases hgk : gc = 0
      · have HDROP : Hid (L.drop 0 = []) := Lib.hid (List.drop_eq_nil_of_le (by rw [HNL.out]; omega))
        obtain rfl : n = 0 := by omega
        subst hgk
        clear hk hgc
        go_wp2_with (first | (at_builtin; refine wpList_append_own _ rfl _ _ 24 rfl (w.heap.size) 9 i0 _ 1 16 Try.underlying24 hi0 hz0 hz1 hz2 rfl (by decide) _ _ _ rfl (ho0) ⟨g, 0, none⟩ 0 _ ([]) (by first | rfl | (simp; done)) (by rfl) (fun j u hu => by simp at hu) (by simp) (by simp only [maxLen]; omega) (by omega) (by first | omega | (simp; omega)) ?_))
        intro v5 w5 hown5 hgrow5 hnil5
        have hb5 : Below w.heap.size w w5 := own_grow (by repeat' (first | (with_reducible exact Below.refl _ _) | (with_reducible assumption) | (with_reducible refine Base.grow_alloc ?_ _) | (with_reducible refine Base.below_drewN ?_ _) | (with_reducible refine Below.drew ?_) | (with_reducible refine Below.setCell ?_ ?_ _) | go_size)) ho0 (Nat.le_refl _) hgrow5
        have hne5 : v5 ≠ .slice none 0 0 := by simpa using hnil5
        have HO5 : Hid (w5.ownsRow w.heap.size 9 1 v5 0 ((L.take 0).map encStr)) := Lib.hid (ownsRow_cast hown5 (by omega) (by simp))
        have hz5 := hb5.size
        clear hown5 hgrow5 hnil5
        go_wp2_with (first | (at_builtin; refine wpList_append_own _ rfl _ _ 24 rfl (w.heap.size) 9 i0 _ 1 16 Try.underlying24 hi0 hz0 hz1 hz2 rfl (by decide) _ _ _ rfl (own_of_below HO5.out (by repeat' (first | (with_reducible exact Below.refl _ _) | (with_reducible assumption) | (with_reducible refine Base.grow_alloc ?_ _) | (with_reducible refine Base.below_drewN ?_ _) | (with_reducible refine Below.drew ?_) | (with_reducible refine Below.setCell ?_ ?_ _) | go_size))) ⟨_, 0, none⟩ 1 _ ([.string x]) (by first | rfl | (simp; done)) (by rfl) (cell_newL _ [.string x] _ (by simp)) (by simp [Value.oneCell']) (by simp only [maxLen]; omega) (by omega) (by first | omega | (simp; omega)) ?_))
        intro v6 w6 hown6 hgrow6 hnil6
        have hb6 : Below w.heap.size w w6 := own_grow (by repeat' (first | (with_reducible exact Below.refl _ _) | (with_reducible assumption) | (with_reducible refine Base.via hb5 ?_) | (with_reducible refine Base.grow_alloc ?_ _) | (with_reducible refine Base.below_drewN ?_ _) | (with_reducible refine Below.drew ?_) | (with_reducible refine Below.setCell ?_ ?_ _) | go_size)) (own_of_below HO5.out (by repeat' (first | (with_reducible exact Below.refl _ _) | (with_reducible assumption) | (with_reducible refine Base.grow_alloc ?_ _) | (with_reducible refine Base.below_drewN ?_ _) | (with_reducible refine Below.drew ?_) | (with_reducible refine Below.setCell ?_ ?_ _) | go_size))) (Nat.le_refl _) hgrow6
        have hne6 : v6 ≠ .slice none 0 0 := by simpa [hne5] using hnil6
        have HO6 : Hid (w6.ownsRow w.heap.size 9 1 v6 (0 + 1) ((L.take 0 ++ [xl]).map encStr)) := Lib.hid (ownsRow_cast hown6 rfl (by rw [List.map_append, HXL.out]; simp [encStr]))
        have hz6 := hb6.size
        clear hown6 hgrow6 hnil6
        go_wp2_with (first | (at_builtin; refine wpList_append_own _ rfl _ _ 24 rfl (w.heap.size) 9 i0 _ 1 16 Try.underlying24 hi0 hz0 hz1 hz2 rfl (by decide) _ _ _ rfl (HO6.out) ⟨g, 0, none⟩ 0 _ ([]) (by first | rfl | (simp; done)) (by rfl) (fun j u hu => by simp at hu) (by simp) (by simp only [maxLen]; omega) (by omega) (by first | omega | (simp; omega)) ?_))
        intro v7 w7 hown7 hgrow7 hnil7
        have hb7 : Below w.heap.size w w7 := own_grow (by repeat' (first | (with_reducible exact Below.refl _ _) | (with_reducible assumption) | (with_reducible refine Base.via hb6 ?_) | (with_reducible refine Base.grow_alloc ?_ _) | (with_reducible refine Base.below_drewN ?_ _) | (with_reducible refine Below.drew ?_) | (with_reducible refine Below.setCell ?_ ?_ _) | go_size)) HO6.out (Nat.le_refl _) hgrow7
        have hne7 : v7 ≠ .slice none 0 0 := by simpa [hne6] using hnil7
        have HO7 : Hid (w7.ownsRow w.heap.size 9 1 v7 (L.take 0 ++ [xl] ++ L.drop 0).length ((L.take 0 ++ [xl] ++ L.drop 0).map encStr)) := Lib.hid (ownsRow_cast hown7 (by simp [HNL.out] <;> omega) (by rw [HDROP.out]; simp))
        obtain ⟨g7, c7, hv7, f1', f2', f3', f4'⟩ := own_form HO7.out hne7
        clear hown7 hgrow7 hnil7 hne7 hne6 hne5
        subst hv7
        go_wp2
        go_ret
        rw [HPUT.out]
        exact ⟨g7, c7, rfl, ownsRow_mono HO7.out hB, f1', hb7⟩
      · have hg0 : ¬ gc = 0 := hgk
        go_wp2_with (first | (at_builtin; refine wpList_append_own _ rfl _ _ 24 rfl (w.heap.size) 9 i0 _ 1 16 Try.underlying24 hi0 hz0 hz1 hz2 rfl (by decide) _ _ _ rfl (ho0) ⟨g, 0, none⟩ 0 _ ([]) (by first | rfl | (simp; done)) (by rfl) (fun j u hu => by simp at hu) (by simp) (by simp only [maxLen]; omega) (by omega) (by first | omega | (simp; omega)) ?_))
        intro v5 w5 hown5 hgrow5 hnil5
        have hb5 : Below w.heap.size w w5 := own_grow (by repeat' (first | (with_reducible exact Below.refl _ _) | (with_reducible assumption) | (with_reducible refine Base.grow_alloc ?_ _) | (with_reducible refine Base.below_drewN ?_ _) | (with_reducible refine Below.drew ?_) | (with_reducible refine Below.setCell ?_ ?_ _) | go_size)) ho0 (Nat.le_refl _) hgrow5
        have hne5 : v5 ≠ .slice none 0 0 := by simpa using hnil5
        have HO5 : Hid (w5.ownsRow w.heap.size 9 1 v5 0 ((L.take 0).map encStr)) := Lib.hid (ownsRow_cast hown5 (by omega) (by simp))
        have hz5 := hb5.size
        clear hown5 hgrow5 hnil5
        go_wp2_with (first | (at_builtin; refine wpList_append_own _ rfl _ _ 24 rfl (w.heap.size) 9 i0 _ 1 16 Try.underlying24 hi0 hz0 hz1 hz2 rfl (by decide) _ _ _ rfl (own_of_below HO5.out (by repeat' (first | (with_reducible exact Below.refl _ _) | (with_reducible assumption) | (with_reducible refine Base.grow_alloc ?_ _) | (with_reducible refine Base.below_drewN ?_ _) | (with_reducible refine Below.drew ?_) | (with_reducible refine Below.setCell ?_ ?_ _) | go_size))) ⟨_, 0, none⟩ 1 _ ([.string x]) (by first | rfl | (simp; done)) (by rfl) (cell_newL _ [.string x] _ (by simp)) (by simp [Value.oneCell']) (by simp only [maxLen]; omega) (by omega) (by first | omega | (simp; omega)) ?_))
        intro v6 w6 hown6 hgrow6 hnil6
        have hb6 : Below w.heap.size w w6 := own_grow (by repeat' (first | (with_reducible exact Below.refl _ _) | (with_reducible assumption) | (with_reducible refine Base.via hb5 ?_) | (with_reducible refine Base.grow_alloc ?_ _) | (with_reducible refine Base.below_drewN ?_ _) | (with_reducible refine Below.drew ?_) | (with_reducible refine Below.setCell ?_ ?_ _) | go_size)) (own_of_below HO5.out (by repeat' (first | (with_reducible exact Below.refl _ _) | (with_reducible assumption) | (with_reducible refine Base.grow_alloc ?_ _) | (with_reducible refine Base.below_drewN ?_ _) | (with_reducible refine Below.drew ?_) | (with_reducible refine Below.setCell ?_ ?_ _) | go_size))) (Nat.le_refl _) hgrow6
        have hne6 : v6 ≠ .slice none 0 0 := by simpa [hne5] using hnil6
        have HO6 : Hid (w6.ownsRow w.heap.size 9 1 v6 (0 + 1) ((L.take 0 ++ [xl]).map encStr)) := Lib.hid (ownsRow_cast hown6 rfl (by rw [List.map_append, HXL.out]; simp [encStr]))
        have hz6 := hb6.size
        clear hown6 hgrow6 hnil6
        go_wp2_with (first | (at_builtin; refine wpList_append_own _ rfl _ _ 24 rfl (w.heap.size) 9 i0 _ 1 16 Try.underlying24 hi0 hz0 hz1 hz2 rfl (by decide) _ _ _ rfl (HO6.out) ⟨g, 0, none⟩ n _ ((L.drop 0).map encStr) (by first | rfl | (simp; done)) (by simp [HNL.out]) (news_drop (by rw [HNL.out]; exact HCL.out _ (by repeat' (first | (with_reducible exact Below.refl _ _) | (with_reducible assumption) | (with_reducible refine Base.via hb6 ?_) | (with_reducible refine Base.grow_alloc ?_ _) | (with_reducible refine Base.below_drewN ?_ _) | (with_reducible refine Below.drew ?_) | (with_reducible refine Below.setCell ?_ ?_ _) | go_size))) 0) (one_S) (by simp only [maxLen]; omega) (by omega) (by first | omega | (simp; omega)) ?_))
        intro v7 w7 hown7 hgrow7 hnil7
        have hb7 : Below w.heap.size w w7 := own_grow (by repeat' (first | (with_reducible exact Below.refl _ _) | (with_reducible assumption) | (with_reducible refine Base.via hb6 ?_) | (with_reducible refine Base.grow_alloc ?_ _) | (with_reducible refine Base.below_drewN ?_ _) | (with_reducible refine Below.drew ?_) | (with_reducible refine Below.setCell ?_ ?_ _) | go_size)) HO6.out (Nat.le_refl _) hgrow7
        have hne7 : v7 ≠ .slice none 0 0 := by simpa [hne6] using hnil7
        have HO7 : Hid (w7.ownsRow w.heap.size 9 1 v7 (L.take 0 ++ [xl] ++ L.drop 0).length ((L.take 0 ++ [xl] ++ L.drop 0).map encStr)) := Lib.hid (ownsRow_cast hown7 (by simp [HNL.out] <;> omega) (by simp))
        obtain ⟨g7, c7, hv7, f1', f2', f3', f4'⟩ := own_form HO7.out hne7
        clear hown7 hgrow7 hnil7 hne7 hne6 hne5
        subst hv7
        go_wp2
        go_ret
        rw [HPUT.out]
        exact ⟨g7, c7, rfl, ownsRow_mono HO7.out hB, f1', hb7⟩
    · obtain ⟨kk, rfl⟩ : ∃ kk, k = kk + 1 := ⟨k - 1, by omega⟩
      have hkp : decide (0 < kk + 1) = true := by simp
      obtain ⟨s', hs'⟩ : ∃ s' : List UInt8, L.getD kk [] = s' := ⟨_, rfl⟩
      have h0 : wr.cell? ⟨g, kk, none⟩ = some (.string ⟨s'.toArray⟩) := by have := HCL.out wr hbr kk (by omega); rw [hs'] at this; exact this
      have h3 := cmp3 s' xl
      have e1 : (⟨s'.toArray⟩ : ByteArray).toList = s' := by rw [ByteArray.toList_eq]
      have hst := HSTEP.out kk rfl
      rw [hs'] at hst
      have HST := Lib.hid hst
      have HSE := Lib.hid hs'
      have hwk : IntKind.i64.wrap ((kk : Int) + 1 - 1) = (kk : Int) := by rw [IntWalk.i64_in _ (by omega)]; omega
      rw [← e1, ← hxt] at h3
      have HE1 := Lib.hid e1
      have HXT := Lib.hid hxt
      generalize hsb : (⟨s'.toArray⟩ : ByteArray) = sb at *
      clear e1 hst hs' hxt hsb
      rcases h3 with ⟨hlt, c1, c2⟩ | ⟨he, c1, c2⟩ | ⟨hgt, c1, c2⟩
      · have HR := Lib.hid (show pk L xl kk = K by rw [← hm.out, HST.out, if_pos (by rw [← HXT.out, ← HE1.out]; exact hlt)])
        clear hlt
        go_wp2
        exact ⟨⟨kk, by omega, by go_num, HR.out, (by repeat' (first | (with_reducible exact Below.refl _ _) | (with_reducible assumption) | (with_reducible refine Base.grow_alloc ?_ _) | (with_reducible refine Base.below_drewN ?_ _) | (with_reducible refine Below.drew ?_) | (with_reducible refine Below.setCell ?_ ?_ _) | go_size))⟩, by simp [intOf]⟩
      · have hKk : K = kk + 1 := by rw [← hm.out, HST.out, if_neg (by rw [← HXT.out, ← HE1.out, he]; exact List.lt_irrefl _)]
        have HPUT : Hid (putN L xl = L) := Lib.hid (by rw [HPU.out, if_pos ⟨by omega, by rw [hKk, Nat.add_sub_cancel, HSE.out]; exact (HE1.out.symm.trans he).trans HXT.out⟩])
        clear he hKk
        go_wp2
        go_ret
        rw [HPUT.out]
        exact ⟨g, gc, by rw [HNL.out]; rfl, own_of_below HOW.out hbr, by rw [HNL.out]; exact hgc, (by repeat' (first | (with_reducible exact Below.refl _ _) | (with_reducible assumption) | (with_reducible refine Base.grow_alloc ?_ _) | (with_reducible refine Base.below_drewN ?_ _) | (with_reducible refine Below.drew ?_) | (with_reducible refine Below.setCell ?_ ?_ _) | go_size))⟩
      · have hKk : K = kk + 1 := by rw [← hm.out, HST.out, if_neg (by rw [← HXT.out, ← HE1.out]; exact fun h => List.lt_irrefl _ (List.lt_trans h hgt))]
        have HPUT : Hid (putN L xl = L.take (kk + 1) ++ [xl] ++ L.drop (kk + 1)) := Lib.hid (by rw [HPU.out, if_neg (by rw [hKk, Nat.add_sub_cancel, HSE.out]; rintro ⟨_, h⟩; rw [← HXT.out, ← HE1.out] at h; rw [h] at hgt; exact List.lt_irrefl _ hgt), hKk])
        clear hgt hKk
        by_cases hgk : gc = kk + 1
        · have HDROP : Hid (L.drop (kk + 1) = []) := Lib.hid (List.drop_eq_nil_of_le (by rw [HNL.out]; omega))
          obtain rfl : n = kk + 1 := by omega
          subst hgk
          go_wp2_with (first | (at_builtin; refine wpList_append_own _ rfl _ _ 24 rfl (w.heap.size) 9 i0 _ 1 16 Try.underlying24 hi0 hz0 hz1 hz2 rfl (by decide) _ _ _ rfl (ho0) ⟨g, 0, none⟩ (kk + 1) _ ((L.take (kk + 1)).map encStr) (by first | rfl | (simp; done)) (by simp [HNL.out] <;> omega) (news_take (by rw [HNL.out]; exact HCL.out _ (by repeat' (first | (with_reducible exact Below.refl _ _) | (with_reducible assumption) | (with_reducible refine Base.grow_alloc ?_ _) | (with_reducible refine Base.below_drewN ?_ _) | (with_reducible refine Below.drew ?_) | (with_reducible refine Below.setCell ?_ ?_ _) | go_size))) (kk + 1)) (one_S) (by simp only [maxLen]; omega) (by omega) (by first | omega | (simp; omega)) ?_))
          intro v5 w5 hown5 hgrow5 hnil5
          have hb5 : Below w.heap.size w w5 := own_grow (by repeat' (first | (with_reducible exact Below.refl _ _) | (with_reducible assumption) | (with_reducible refine Base.grow_alloc ?_ _) | (with_reducible refine Base.below_drewN ?_ _) | (with_reducible refine Below.drew ?_) | (with_reducible refine Below.setCell ?_ ?_ _) | go_size)) ho0 (Nat.le_refl _) hgrow5
          have hne5 : v5 ≠ .slice none 0 0 := by simpa using hnil5
          have HO5 : Hid (w5.ownsRow w.heap.size 9 1 v5 (kk + 1) ((L.take (kk + 1)).map encStr)) := Lib.hid (ownsRow_cast hown5 (by omega) (by simp))
          have hz5 := hb5.size
          clear hown5 hgrow5 hnil5
          go_wp2_with (first | (at_builtin; refine wpList_append_own _ rfl _ _ 24 rfl (w.heap.size) 9 i0 _ 1 16 Try.underlying24 hi0 hz0 hz1 hz2 rfl (by decide) _ _ _ rfl (own_of_below HO5.out (by repeat' (first | (with_reducible exact Below.refl _ _) | (with_reducible assumption) | (with_reducible refine Base.grow_alloc ?_ _) | (with_reducible refine Base.below_drewN ?_ _) | (with_reducible refine Below.drew ?_) | (with_reducible refine Below.setCell ?_ ?_ _) | go_size))) ⟨_, 0, none⟩ 1 _ ([.string x]) (by first | rfl | (simp; done)) (by rfl) (cell_newL _ [.string x] _ (by simp)) (by simp [Value.oneCell']) (by simp only [maxLen]; omega) (by omega) (by first | omega | (simp; omega)) ?_))
          intro v6 w6 hown6 hgrow6 hnil6
          have hb6 : Below w.heap.size w w6 := own_grow (by repeat' (first | (with_reducible exact Below.refl _ _) | (with_reducible assumption) | (with_reducible refine Base.via hb5 ?_) | (with_reducible refine Base.grow_alloc ?_ _) | (with_reducible refine Base.below_drewN ?_ _) | (with_reducible refine Below.drew ?_) | (with_reducible refine Below.setCell ?_ ?_ _) | go_size)) (own_of_below HO5.out (by repeat' (first | (with_reducible exact Below.refl _ _) | (with_reducible assumption) | (with_reducible refine Base.grow_alloc ?_ _) | (with_reducible refine Base.below_drewN ?_ _) | (with_reducible refine Below.drew ?_) | (with_reducible refine Below.setCell ?_ ?_ _) | go_size))) (Nat.le_refl _) hgrow6
          have hne6 : v6 ≠ .slice none 0 0 := by simpa [hne5] using hnil6
          have HO6 : Hid (w6.ownsRow w.heap.size 9 1 v6 ((kk + 1) + 1) ((L.take (kk + 1) ++ [xl]).map encStr)) := Lib.hid (ownsRow_cast hown6 rfl (by rw [List.map_append, HXL.out]; simp [encStr]))
          have hz6 := hb6.size
          clear hown6 hgrow6 hnil6
          go_wp2_with (first | (at_builtin; refine wpList_append_own _ rfl _ _ 24 rfl (w.heap.size) 9 i0 _ 1 16 Try.underlying24 hi0 hz0 hz1 hz2 rfl (by decide) _ _ _ rfl (HO6.out) ⟨g, 0, none⟩ 0 _ ([]) (by first | rfl | (simp; done)) (by rfl) (fun j u hu => by simp at hu) (by simp) (by simp only [maxLen]; omega) (by omega) (by first | omega | (simp; omega)) ?_))
          intro v7 w7 hown7 hgrow7 hnil7
          have hb7 : Below w.heap.size w w7 := own_grow (by repeat' (first | (with_reducible exact Below.refl _ _) | (with_reducible assumption) | (with_reducible refine Base.via hb6 ?_) | (with_reducible refine Base.grow_alloc ?_ _) | (with_reducible refine Base.below_drewN ?_ _) | (with_reducible refine Below.drew ?_) | (with_reducible refine Below.setCell ?_ ?_ _) | go_size)) HO6.out (Nat.le_refl _) hgrow7
          have hne7 : v7 ≠ .slice none 0 0 := by simpa [hne6] using hnil7
          have HO7 : Hid (w7.ownsRow w.heap.size 9 1 v7 (L.take (kk + 1) ++ [xl] ++ L.drop (kk + 1)).length ((L.take (kk + 1) ++ [xl] ++ L.drop (kk + 1)).map encStr)) := Lib.hid (ownsRow_cast hown7 (by simp [HNL.out] <;> omega) (by rw [HDROP.out]; simp))
          obtain ⟨g7, c7, hv7, f1', f2', f3', f4'⟩ := own_form HO7.out hne7
          clear hown7 hgrow7 hnil7 hne7 hne6 hne5
          subst hv7
          go_wp2
          go_ret
          rw [HPUT.out]
          exact ⟨g7, c7, rfl, ownsRow_mono HO7.out hB, f1', hb7⟩
        · have hg0 : ¬ gc = kk + 1 := hgk
          go_wp2_with (first | (at_builtin; refine wpList_append_own _ rfl _ _ 24 rfl (w.heap.size) 9 i0 _ 1 16 Try.underlying24 hi0 hz0 hz1 hz2 rfl (by decide) _ _ _ rfl (ho0) ⟨g, 0, none⟩ (kk + 1) _ ((L.take (kk + 1)).map encStr) (by first | rfl | (simp; done)) (by simp [HNL.out] <;> omega) (news_take (by rw [HNL.out]; exact HCL.out _ (by repeat' (first | (with_reducible exact Below.refl _ _) | (with_reducible assumption) | (with_reducible refine Base.grow_alloc ?_ _) | (with_reducible refine Base.below_drewN ?_ _) | (with_reducible refine Below.drew ?_) | (with_reducible refine Below.setCell ?_ ?_ _) | go_size))) (kk + 1)) (one_S) (by simp only [maxLen]; omega) (by omega) (by first | omega | (simp; omega)) ?_))
          intro v5 w5 hown5 hgrow5 hnil5
          have hb5 : Below w.heap.size w w5 := own_grow (by repeat' (first | (with_reducible exact Below.refl _ _) | (with_reducible assumption) | (with_reducible refine Base.grow_alloc ?_ _) | (with_reducible refine Base.below_drewN ?_ _) | (with_reducible refine Below.drew ?_) | (with_reducible refine Below.setCell ?_ ?_ _) | go_size)) ho0 (Nat.le_refl _) hgrow5
          have hne5 : v5 ≠ .slice none 0 0 := by simpa using hnil5
          have HO5 : Hid (w5.ownsRow w.heap.size 9 1 v5 (kk + 1) ((L.take (kk + 1)).map encStr)) := Lib.hid (ownsRow_cast hown5 (by omega) (by simp))
          have hz5 := hb5.size
          clear hown5 hgrow5 hnil5
          go_wp2_with (first | (at_builtin; refine wpList_append_own _ rfl _ _ 24 rfl (w.heap.size) 9 i0 _ 1 16 Try.underlying24 hi0 hz0 hz1 hz2 rfl (by decide) _ _ _ rfl (own_of_below HO5.out (by repeat' (first | (with_reducible exact Below.refl _ _) | (with_reducible assumption) | (with_reducible refine Base.grow_alloc ?_ _) | (with_reducible refine Base.below_drewN ?_ _) | (with_reducible refine Below.drew ?_) | (with_reducible refine Below.setCell ?_ ?_ _) | go_size))) ⟨_, 0, none⟩ 1 _ ([.string x]) (by first | rfl | (simp; done)) (by rfl) (cell_newL _ [.string x] _ (by simp)) (by simp [Value.oneCell']) (by simp only [maxLen]; omega) (by omega) (by first | omega | (simp; omega)) ?_))
          intro v6 w6 hown6 hgrow6 hnil6
          have hb6 : Below w.heap.size w w6 := own_grow (by repeat' (first | (with_reducible exact Below.refl _ _) | (with_reducible assumption) | (with_reducible refine Base.via hb5 ?_) | (with_reducible refine Base.grow_alloc ?_ _) | (with_reducible refine Base.below_drewN ?_ _) | (with_reducible refine Below.drew ?_) | (with_reducible refine Below.setCell ?_ ?_ _) | go_size)) (own_of_below HO5.out (by repeat' (first | (with_reducible exact Below.refl _ _) | (with_reducible assumption) | (with_reducible refine Base.grow_alloc ?_ _) | (with_reducible refine Base.below_drewN ?_ _) | (with_reducible refine Below.drew ?_) | (with_reducible refine Below.setCell ?_ ?_ _) | go_size))) (Nat.le_refl _) hgrow6
          have hne6 : v6 ≠ .slice none 0 0 := by simpa [hne5] using hnil6
          have HO6 : Hid (w6.ownsRow w.heap.size 9 1 v6 ((kk + 1) + 1) ((L.take (kk + 1) ++ [xl]).map encStr)) := Lib.hid (ownsRow_cast hown6 rfl (by rw [List.map_append, HXL.out]; simp [encStr]))
          have hz6 := hb6.size
          clear hown6 hgrow6 hnil6
          go_wp2_with (first | (at_builtin; refine wpList_append_own _ rfl _ _ 24 rfl (w.heap.size) 9 i0 _ 1 16 Try.underlying24 hi0 hz0 hz1 hz2 rfl (by decide) _ _ _ rfl (HO6.out) ⟨g, (kk + 1), none⟩ (n - (kk + 1)) _ ((L.drop (kk + 1)).map encStr) (by first | rfl | (simp; done)) (by simp [HNL.out]) (news_drop (by rw [HNL.out]; exact HCL.out _ (by repeat' (first | (with_reducible exact Below.refl _ _) | (with_reducible assumption) | (with_reducible refine Base.via hb6 ?_) | (with_reducible refine Base.grow_alloc ?_ _) | (with_reducible refine Base.below_drewN ?_ _) | (with_reducible refine Below.drew ?_) | (with_reducible refine Below.setCell ?_ ?_ _) | go_size))) (kk + 1)) (one_S) (by simp only [maxLen]; omega) (by omega) (by first | omega | (simp; omega)) ?_))
          intro v7 w7 hown7 hgrow7 hnil7
          have hb7 : Below w.heap.size w w7 := own_grow (by repeat' (first | (with_reducible exact Below.refl _ _) | (with_reducible assumption) | (with_reducible refine Base.via hb6 ?_) | (with_reducible refine Base.grow_alloc ?_ _) | (with_reducible refine Base.below_drewN ?_ _) | (with_reducible refine Below.drew ?_) | (with_reducible refine Below.setCell ?_ ?_ _) | go_size)) HO6.out (Nat.le_refl _) hgrow7
          have hne7 : v7 ≠ .slice none 0 0 := by simpa [hne6] using hnil7
          have HO7 : Hid (w7.ownsRow w.heap.size 9 1 v7 (L.take (kk + 1) ++ [xl] ++ L.drop (kk + 1)).length ((L.take (kk + 1) ++ [xl] ++ L.drop (kk + 1)).map encStr)) := Lib.hid (ownsRow_cast hown7 (by simp [HNL.out] <;> omega) (by simp))
          obtain ⟨g7, c7, hv7, f1', f2', f3', f4'⟩ := own_form HO7.out hne7
          clear hown7 hgrow7 hnil7 hne7 hne6 hne5
          subst hv7
          go_wp2
          go_ret
          rw [HPUT.out]
          exact ⟨g7, c7, rfl, ownsRow_mono HO7.out hB, f1', hb7⟩
theorem stL_puts {n : Nat} {E : Nat → E5} (h : OkE.okE n E = true) : Stars.stL n E = puts (fun i => (E i).s.data.toList) n := by
  rw [Stars.stL, if_pos h, puts_eq]
  rfl
theorem puts_len (x : Nat → List UInt8) (n : Nat) : (puts x n).length ≤ n := by
  induction n with
  | zero => simp [puts]
  | succ n ih =>
    show (putN (puts x n) (x n)).length ≤ n + 1
    unfold putN
    split
    · omega
    · simp
      omega
set_option maxHeartbeats 1600000 in
theorem c_specStarsIn (A : Option Addr) (n c : Nat) (E : Nat → E5) (w : World) (hv : Sl w 5 A n c (f5 E)) :
    Calls Try.prog 9 #[.slice A n c] w fun e w' => ∃ v, e = .returned (.tuple #[v, .int .i64 (Stars.stC n E)]) ∧ OwnK w' w.heap.size 9 1 v (Stars.stL n E).length (fS (leS (Stars.stL n E))) ∧ RowKit.Below w.heap.size w w' := by
  have HV := Lib.hid (fun (W : World) (hW : Sl W 5 A n c (f5 E)) => OkE.c_l06Ok A n c E W hW)
  have hn := hv.le
  cases hok : OkE.okE n E
  · have HL := Lib.hid (show Stars.stL n E = [] by rw [Stars.stL, hok]; rfl)
    have HC := Lib.hid (show Stars.stC n E = 1 by rw [Stars.stC, hok]; rfl)
    rw [hok] at HV
    go_enter Try.func9, Try.ntmps9
    go_wp2_with (first | (go_at_call 34; refine (HV.out _ hv).mono ?_; rintro e w1 ⟨rfl, hb1⟩))
    refine bodyPost_ret (v := .tuple #[.slice none 0 0, .int .i64 1]) (by simp [results, Try.results9, go_sem]) rfl ?_
    rw [HL.out, HC.out]
    exact ⟨.slice none 0 0, rfl, OwnK.zero rfl, (by repeat' (first | (with_reducible exact Below.refl _ _) | (with_reducible assumption) | (with_reducible refine Base.via hb1 ?_) | (with_reducible refine Base.grow_alloc ?_ _) | (with_reducible refine Base.below_drewN ?_ _) | (with_reducible refine Below.drew ?_) | (with_reducible refine Below.setCell ?_ ?_ _) | go_size))⟩
  · have HL := Lib.hid (stL_puts hok)
    have HC := Lib.hid (show Stars.stC n E = 0 by rw [Stars.stC, hok]; rfl)
    rw [hok] at HV
    obtain ⟨x, hx⟩ : ∃ x : Nat → List UInt8, (fun i => (E i).s.data.toList) = x := ⟨_, rfl⟩
    have HX : Hid (∀ i, (E i).s.data.toList = x i) := Lib.hid (fun i => by rw [← hx])
    rw [hx] at HL
    have HLEN := Lib.hid (puts_len x)
    clear hx
    go_enter Try.func9, Try.ntmps9
    go_wp2_with (first | (go_at_call 34; refine (HV.out _ hv).mono ?_; rintro e w1 ⟨rfl, hb1⟩))
    have hs1 := hb1.size
    go_loopw [4, 5] (fun u i wr => ∃ k g gc : Nat, k ≤ n ∧ i = .int .i64 k ∧ Hid (u = .slice (some ⟨g, 0, none⟩) (puts x k).length gc ∧ (puts x k).length ≤ gc ∧ gc ≤ 9223372036854775807 ∧ wr.ownsRow w.heap.size 9 1 (.slice (some ⟨g, 0, none⟩) (puts x k).length gc) (puts x k).length ((puts x k).map encStr)) ∧ RowKit.Below w.heap.size w wr) (fun _ i _ => n - (intOf i).toNat)
    case atStart => exact ⟨0, w1.heap.size, 0, Nat.zero_le _, rfl, (show _ ∧ _ ∧ _ ∧ _ from ⟨rfl, by simp [puts], by omega, World.ownsRow_made _ _ _ (by omega) (by simp [maxLen]) rfl⟩), (by repeat' (first | (with_reducible exact Below.refl _ _) | (with_reducible assumption) | (with_reducible refine Base.via hb1 ?_) | (with_reducible refine Base.grow_alloc ?_ _) | (with_reducible refine Base.below_drewN ?_ _) | (with_reducible refine Below.drew ?_) | (with_reducible refine Below.setCell ?_ ?_ _) | go_size))⟩
    case round =>
      obtain ⟨k, g, gc, hk, rfl, hrow, hbr⟩ := hrel
      obtain ⟨rfl, hgc, hgm, hown⟩ := hrow.out
      have HOWN := Lib.hid hown
      have hzr := hbr.size
      have hlk := HLEN.out k
      clear hrow hown
      by_cases hlt : k < n
      · obtain ⟨b, off, rfl, hb, hc⟩ := (hv.below hbr).at_ (by omega)
        obtain ⟨h0, h1, h2, h3, h4⟩ := cells5 hc k hlt
        have HPC := Lib.hid (fun (W : World) (hW : RowKit.Below wr.heap.size wr W) => c_l06PutName w.heap.size g gc (puts x k) (E k).s W (Nat.le_trans hzr hW.size) (by omega) hgc hgm (own_of_below HOWN.out hW))
        have HXK := Lib.hid (HX.out k)
        have HPS : Hid (putN (puts x k) (x k) = puts x (k + 1)) := Lib.hid rfl
        generalize puts x k = L at *
        clear hc h0 h2 h3 h4
        go_wp2_with (first | (go_at_call 35; refine (HPC.out _ (by repeat' (first | (with_reducible exact Below.refl _ _) | (with_reducible assumption) | (with_reducible refine Base.grow_alloc ?_ _) | (with_reducible refine Base.below_drewN ?_ _) | (with_reducible refine Below.drew ?_) | (with_reducible refine Below.setCell ?_ ?_ _) | go_size))).mono ?_; rintro e w2 ⟨g', gc', rfl, ho', hl', hb2⟩))
        rw [HXK.out, HPS.out] at ho' hl' ⊢
        obtain ⟨_, _, e7, _, f7, _, _⟩ := own_form ho' (by simp)
        injection e7 with _ _ e8
        subst e8
        exact ⟨⟨k + 1, g', gc', by omega, by go_num, (show _ ∧ _ ∧ _ ∧ _ from ⟨rfl, hl', f7, ho'⟩), (by repeat' (first | (with_reducible exact Below.refl _ _) | (with_reducible assumption) | (with_reducible refine Base.via hb2 ?_) | (with_reducible refine Base.grow_alloc ?_ _) | (with_reducible refine Base.below_drewN ?_ _) | (with_reducible refine Below.drew ?_) | (with_reducible refine Below.setCell ?_ ?_ _) | go_size))⟩, by simp [intOf]; omega⟩
      · have hkn : k = n := by omega
        subst hkn
        go_wp2
        refine bodyPost_ret (v := .tuple #[.slice (some ⟨g, 0, none⟩) (puts x k).length gc, .int .i64 0]) (by simp [results, Try.results9, go_sem]) rfl ?_
        rw [HL.out, HC.out]
        exact ⟨_, rfl, OwnK.of_own HOWN.out (by omega) (encL_at _), hbr⟩
end Go.Proofs.Ythojfmlnnclghaa.PutN
