/- Sorted estimates: the reference's search and its putting. -/
import Derived.Test.YthojfmlnnclghaaBsE
namespace Go.Proofs.Ythojfmlnnclghaa.PutE
set_option linter.unusedVariables false
set_option linter.unusedSimpArgs false
set_option maxRecDepth 8000
open Go.RowKit Go.Shelf Plain Num View Est Name Es1 Cmp OkE ChoE SrE CpK InsE BsE

theorem find_no {n : Nat} {E : Nat → E5} {e : E5} (h : ∀ i, i < n → (!befE (E i) e && !befE e (E i)) = false) (hs : Srt n E) : fdE n E e = false := by
  rw [Bool.eq_false_iff]
  intro hf
  have h1 := fd_yes hf
  have := h _ h1.1
  rw [find_at hs h1.1, hf] at this
  simp at this
set_option maxHeartbeats 1600000 in
theorem c_l06Find (A : Option Addr) (n c : Nat) (E : Nat → E5) (e : E5) (b' off' : Nat) (w : World) (hv : Sl w 5 A n c (f5 E)) (hs : Srt n E) (k0 : w.cell? ⟨b', off', none⟩ = some (.int .i64 e.t)) (k1 : w.cell? ⟨b', off' + 1, none⟩ = some (.string e.s)) (k2 : w.cell? ⟨b', off' + 2, none⟩ = some (.string e.o)) :
    Calls Try.prog 59 #[.slice A n c, .pointer (some ⟨b', off', none⟩)] w fun r w' => r = .returned (.int .i64 (if fdE n E e = true then (lbE E e n : Int) else -1)) ∧ Below w.heap.size w w' := by
  have hn := hv.le
  obtain ⟨R, hR⟩ : ∃ R, R = (if fdE n E e = true then (lbE E e n : Int) else -1) := ⟨_, rfl⟩
  have HFA := Lib.hid (fun i (hi : i < n) => find_at (e := e) hs hi)
  have HNO := Lib.hid (fun (h : ∀ i, i < n → (!befE (E i) e && !befE e (E i)) = false) => show R = -1 by rw [hR, find_no h hs]; rfl)
  have HYE := Lib.hid (fun i (hi : i < n) (h : (!befE (E i) e && !befE e (E i)) = true) => show R = (i : Int) by
    rw [find_at hs hi, Bool.and_eq_true, decide_eq_true_eq] at h
    rw [hR, if_pos h.1, ← h.2])
  rw [← hR]
  clear hR hs
  have lk := World.block_lt_of_cell? _ _ k0
  dsimp only at lk
  have HK := Lib.hid (fun (W : World) (hW : Below w.heap.size w W) => (⟨cell_call hW k0, cell_call hW k1, cell_call hW k2⟩ : _ ∧ _ ∧ _))
  clear k0 k1 k2
  go_enter Try.func59, Try.ntmps59
  go_wp2
  go_loopw [5] (fun i wr => ∃ k : Nat, k ≤ n ∧ i = .int .i64 k ∧ Hid (∀ i, i < k → (!befE (E i) e && !befE e (E i)) = false) ∧ Below w.heap.size w wr) (fun i _ => n - (intOf i).toNat)
  case atStart => exact ⟨0, Nat.zero_le _, rfl, Lib.hid (fun i hi => absurd hi (by omega)), Below.refl _ _⟩
  case round =>
    obtain ⟨k, hk, rfl, hm, hbr⟩ := hrel
    by_cases hlt : k < n
    · obtain ⟨b, off, rfl, hb, hc⟩ := (hv.below hbr).at_ (by omega)
      obtain ⟨h0, h1, h2, h3, h4⟩ := cells5 hc k hlt
      obtain ⟨q0, q1, q2⟩ := HK.out wr hbr
      have HB1 := Lib.hid (fun (W : World) (hW : Below wr.heap.size wr W) => c_l06Before (E k) e b (off + k * 5) b' off' W (cell_call hW h0) (cell_call hW h1) (cell_call hW h2) (cell_call hW q0) (cell_call hW q1) (cell_call hW q2))
      have HB2 := Lib.hid (fun (W : World) (hW : Below wr.heap.size wr W) => c_l06Before e (E k) b' off' b (off + k * 5) W (cell_call hW q0) (cell_call hW q1) (cell_call hW q2) (cell_call hW h0) (cell_call hW h1) (cell_call hW h2))
      have HNX := Lib.hid (fun (h : (!befE (E k) e && !befE e (E k)) = false) => show ∀ i, i < k + 1 → (!befE (E i) e && !befE e (E i)) = false from fun i hi => by
        by_cases e1 : i = k
        · rw [e1]; exact h
        · exact hm.out i (by omega))
      have HY2 := Lib.hid (HYE.out k hlt)
      clear hc h0 h1 h2 h3 h4 q0 q1 q2
      generalize befE (E k) e = z1 at *
      generalize befE e (E k) = z2 at *
      cases z1
      · cases z2
        · have HR := Lib.hid (HY2.out rfl)
          clear HY2 HNX
          go_wp2_with fail
          refine (HB1.out _ (by repeat' (first | (with_reducible exact Below.refl _ _) | (with_reducible assumption) | (with_reducible refine Base.grow_alloc ?_ _) | (with_reducible refine Base.below_drewN ?_ _) | (with_reducible refine Below.drew ?_) | (with_reducible refine Below.setCell ?_ ?_ _) | go_size))).mono ?_
          rintro e w1 ⟨rfl, hb1⟩
          go_wp2_with fail
          refine (HB2.out _ (by repeat' (first | (with_reducible exact Below.refl _ _) | (with_reducible assumption) | (with_reducible refine Base.via hb1 ?_) | (with_reducible refine Base.grow_alloc ?_ _) | (with_reducible refine Base.below_drewN ?_ _) | (with_reducible refine Below.drew ?_) | (with_reducible refine Below.setCell ?_ ?_ _) | go_size))).mono ?_
          rintro e w2 ⟨rfl, hb2⟩
          go_wp2
          go_ret
          exact ⟨ret_int HR.out.symm, (by repeat' (first | (with_reducible exact Below.refl _ _) | (with_reducible assumption) | (with_reducible refine Base.via hb2 ?_) | (with_reducible refine Base.via hb1 ?_) | (with_reducible refine Base.via hbr ?_) | (with_reducible refine Base.grow_alloc ?_ _) | (with_reducible refine Base.below_drewN ?_ _) | (with_reducible refine Below.drew ?_) | (with_reducible refine Below.setCell ?_ ?_ _) | go_size))⟩
        · have HN2 := Lib.hid (HNX.out rfl)
          clear HY2 HNX
          go_wp2_with fail
          refine (HB1.out _ (by repeat' (first | (with_reducible exact Below.refl _ _) | (with_reducible assumption) | (with_reducible refine Base.grow_alloc ?_ _) | (with_reducible refine Base.below_drewN ?_ _) | (with_reducible refine Below.drew ?_) | (with_reducible refine Below.setCell ?_ ?_ _) | go_size))).mono ?_
          rintro e w1 ⟨rfl, hb1⟩
          go_wp2_with fail
          refine (HB2.out _ (by repeat' (first | (with_reducible exact Below.refl _ _) | (with_reducible assumption) | (with_reducible refine Base.via hb1 ?_) | (with_reducible refine Base.grow_alloc ?_ _) | (with_reducible refine Base.below_drewN ?_ _) | (with_reducible refine Below.drew ?_) | (with_reducible refine Below.setCell ?_ ?_ _) | go_size))).mono ?_
          rintro e w2 ⟨rfl, hb2⟩
          go_wp2
          exact ⟨⟨k + 1, by omega, by go_num, HN2.out, (by repeat' (first | (with_reducible exact Below.refl _ _) | (with_reducible assumption) | (with_reducible refine Base.via hb2 ?_) | (with_reducible refine Base.via hb1 ?_) | (with_reducible refine Base.via hbr ?_) | (with_reducible refine Base.grow_alloc ?_ _) | (with_reducible refine Base.below_drewN ?_ _) | (with_reducible refine Below.drew ?_) | (with_reducible refine Below.setCell ?_ ?_ _) | go_size))⟩, by simp [intOf]; omega⟩
      · have HN2 := Lib.hid (HNX.out rfl)
        clear HY2 HNX
        go_wp2_with (first | (go_at_call 66; refine (HB1.out _ (by repeat' (first | (with_reducible exact Below.refl _ _) | (with_reducible assumption) | (with_reducible refine Base.grow_alloc ?_ _) | (with_reducible refine Base.below_drewN ?_ _) | (with_reducible refine Below.drew ?_) | (with_reducible refine Below.setCell ?_ ?_ _) | go_size))).mono ?_; rintro e w1 ⟨rfl, hb1⟩))
        exact ⟨⟨k + 1, by omega, by go_num, HN2.out, (by repeat' (first | (with_reducible exact Below.refl _ _) | (with_reducible assumption) | (with_reducible refine Base.via hb1 ?_) | (with_reducible refine Base.via hbr ?_) | (with_reducible refine Base.grow_alloc ?_ _) | (with_reducible refine Base.below_drewN ?_ _) | (with_reducible refine Below.drew ?_) | (with_reducible refine Below.setCell ?_ ?_ _) | go_size))⟩, by simp [intOf]; omega⟩
    · have hkn : k = n := by omega
      subst hkn
      have HR := Lib.hid (HNO.out hm.out)
      go_wp2
      go_ret
      exact ⟨ret_int HR.out.symm, hbr⟩
theorem take_lsE {n k : Nat} {E : Nat → E5} (h : k ≤ n) : (lsE n E).take k = lsE k E := by
  apply List.ext_getElem
  · simp [lsE]; omega
  · intro i h1 h2
    simp [lsE]
theorem news_take {w : World} {b off n c : Nat} {E : Nat → E5} (hv : Sl w 5 (some ⟨b, off, none⟩) n c (f5 E)) {k : Nat} (hk : k ≤ n) : ∀ (j : Nat) (u : Value), (cellE (lsE k E))[j]? = some u → w.cell? ((⟨b, off, none⟩ : Addr).add j) = some u := by
  rw [← cellF_E]
  exact (hv.take hk).news
theorem drop_cells {n : Nat} {E : Nat → E5} (k : Nat) : cellE ((lsE n E).drop k) = cellF 5 (n - k) (fun j => f5 E (k + j)) := by
  have h : (lsE n E).drop k = lsE (n - k) (fun i => E (k + i)) := by
    apply List.ext_getElem
    · simp [lsE]
    · intro i h1 h2
      simp [lsE]
  rw [h, ← cellF_E]
  exact cellF_congr fun i _ j _ => rfl
theorem news_drop {w : World} {b off n c : Nat} {E : Nat → E5} (hv : Sl w 5 (some ⟨b, off, none⟩) n c (f5 E)) {k : Nat} (hk : k ≤ n) : ∀ (j : Nat) (u : Value), (cellE ((lsE n E).drop k))[j]? = some u → w.cell? ((⟨b, off + k * 5, none⟩ : Addr).add j) = some u := by
  intro j u hj
  have hlt : j < (cellE ((lsE n E).drop k)).length := (List.getElem?_eq_some_iff.1 hj).1
  rw [cellE_len, List.length_drop, lsE_len] at hlt
  obtain ⟨b2, o2, e2, hb, _⟩ := hv.at_ (by omega)
  injection e2 with e2
  injection e2 with e3 e4
  subst e3; subst e4
  rw [drop_cells] at hj
  exact (hv.sub hk (Nat.le_refl _) hb).news j u hj
set_option maxHeartbeats 6400000 in
theorem c_l06Put (b off n c : Nat) (E : Nat → E5) (e : E5) (w : World) (hv : Sl w 5 (some ⟨b, off, none⟩) n c (f5 E)) (hs : Srt n E) (hf : fdE n E e = false) (hn1 : n ≤ 1000) :
    Calls Try.prog 60 #[.slice (some ⟨b, off, none⟩) n c, est e] w fun r w' => ∃ g gc, r = .returned (.slice (some ⟨g, 0, none⟩) (n + 1) gc) ∧ w'.ownsRow w.heap.size 51 5 (.slice (some ⟨g, 0, none⟩) (n + 1) gc) (n + 1) (cellE (insL (lsE n E) (lbE E e n) e)) ∧ Below w.heap.size w w' := by
  have hn := hv.le
  have hnc := hv.leC
  have hcm := hv.leM
  obtain ⟨i0, hi0, hz0, hz1, hz2⟩ := info_parts infoEst
  obtain ⟨K, hK⟩ : ∃ K, lbE E e n = K := ⟨_, rfl⟩
  have hlb := lbE_spec e hs
  have hge := fd_no hs hf
  rw [hK] at hlb hge ⊢
  have hKn := hlb.1
  have HLT := Lib.hid (fun i hi => bef_asymm (hlb.2.1 i hi))
  have HGE := Lib.hid hge
  have HINS := Lib.hid (show cellE (insL (lsE n E) K e) = cellE (lsE K E ++ [e]) ++ cellE ((lsE n E).drop K) by rw [cellE_ins, take_lsE hKn, cellE_app, cellE_one])
  have HBE := Lib.hid (fun (W : World) (i : Nat) (b1 o1 b2 o2 : Nat) => c_l06Before e (E i) b1 o1 b2 o2 W)
  have HV := Lib.hid hv
  clear hlb hge hs hf hK
  obtain ⟨t, s, o, m, z⟩ := e
  simp only [est]
  dsimp only at HBE
  go_enter Try.func60, Try.ntmps60
  go_wp2
  obtain ⟨wb, hwb⟩ : ∃ wb : World, wb = w.alloc (.cells #[.int .i64 t, .string s, .string o, .int .i64 m, .bool z] 51) := ⟨_, rfl⟩
  have k0 : wb.cell? ⟨w.heap.size, 0, none⟩ = some (.int .i64 t) := by rw [hwb]; simp [go_sem]
  have k1 : wb.cell? ⟨w.heap.size, 1, none⟩ = some (.string s) := by rw [hwb]; simp [go_sem]
  have k2 : wb.cell? ⟨w.heap.size, 2, none⟩ = some (.string o) := by rw [hwb]; simp [go_sem]
  have k3 : wb.cell? ⟨w.heap.size, 3, none⟩ = some (.int .i64 m) := by rw [hwb]; simp [go_sem]
  have k4 : wb.cell? ⟨w.heap.size, 4, none⟩ = some (.bool z) := by rw [hwb]; simp [go_sem]
  have hbw : Below w.heap.size w wb := by rw [hwb]; exact (by repeat' (first | (with_reducible exact Below.refl _ _) | (with_reducible assumption) | (with_reducible refine Base.grow_alloc ?_ _) | (with_reducible refine Base.below_drewN ?_ _) | (with_reducible refine Below.drew ?_) | (with_reducible refine Below.setCell ?_ ?_ _) | go_size))
  have hzb : w.heap.size + 1 ≤ wb.heap.size := by rw [hwb]; simp
  rw [← hwb]
  clear hwb
  have HO0 : Hid (∀ {W W' : World}, Below wb.heap.size wb W → Below (W.alloc (.cells #[] 51)).heap.size (W.alloc (.cells #[] 51)) W' → W'.ownsRow wb.heap.size 51 5 (.slice (some ⟨W.heap.size, 0, none⟩) 0 0) 0 []) := Lib.hid (fun hW hW' => own_of_below (World.ownsRow_made _ _ _ hW.size (by simp [maxLen]) rfl) hW')
  have HK := Lib.hid (fun (W : World) (hW : Below wb.heap.size wb W) => (⟨cell_call hW k0, cell_call hW k1, cell_call hW k2, cell_call hW k3, cell_call hW k4⟩ : _ ∧ _ ∧ _ ∧ _ ∧ _))
  clear k0 k1 k2 k3 k4
  go_loopw [5] (fun q wr => ∃ k : Nat, k ≤ n ∧ q = .int .i64 k ∧ K ≤ k ∧ Below wb.heap.size wb wr) (fun q _ => (intOf q).toNat)
  case atStart => exact ⟨n, Nat.le_refl _, rfl, hKn, (by repeat' (first | (with_reducible exact Below.refl _ _) | (with_reducible assumption) | (with_reducible refine Base.grow_alloc ?_ _) | (with_reducible refine Base.below_drewN ?_ _) | (with_reducible refine Below.drew ?_) | (with_reducible refine Below.setCell ?_ ?_ _) | go_size))⟩
  case round =>
    obtain ⟨k, hk, rfl, hKk, hbq⟩ := hrel
    have hbr : Below w.heap.size w wr := hbw.trans (hbq.mono hbw.size)
    have hzq := hbq.size
    obtain ⟨k0, k1, k2, k3, k4⟩ := HK.out wr hbq
    by_cases hk0 : k = 0
    · subst hk0
      obtain rfl : K = 0 := by omega
      have HTK := Lib.hid (fun (W : World) (hW : Below w.heap.size w W) => news_take (hv.below hW) (Nat.zero_le n))
      have HDR : Hid (∀ W : World, Below w.heap.size w W → ∀ (j : Nat) (u : Value), (cellE ((lsE n E).drop 0))[j]? = some u → W.cell? ((⟨b, off, none⟩ : Addr).add j) = some u) := Lib.hid (fun W hW => by have := news_drop (hv.below hW) (Nat.zero_le n); simpa using this)
      have HDRN : Hid (n = 0 → (lsE n E).drop 0 = []) := Lib.hid (fun h => List.drop_eq_nil_of_le (by rw [lsE_len, h]; exact Nat.le_refl _))
      by_cases hgk : c = 0
      · obtain rfl : n = 0 := by omega
        subst hgk
        replace HDRN := Lib.hid (HDRN.out rfl)
        clear hk hnc
        go_wp2_with (at_builtin; refine wpList_append_own _ rfl _ _ 27 rfl (wb.heap.size) 51 i0 _ 5 56 Try.underlying27 hi0 hz0 hz1 hz2 rfl (by decide) _ _ _ rfl (HO0.out (by repeat' (first | (with_reducible exact Below.refl _ _) | (with_reducible assumption) | (with_reducible refine Base.via hbq ?_) | (with_reducible refine Base.grow_alloc ?_ _) | (with_reducible refine Base.below_drewN ?_ _) | (with_reducible refine Below.drew ?_) | (with_reducible refine Below.setCell ?_ ?_ _) | go_size)) (by repeat' (first | (with_reducible exact Below.refl _ _) | (with_reducible assumption) | (with_reducible refine Base.grow_alloc ?_ _) | (with_reducible refine Base.below_drewN ?_ _) | (with_reducible refine Below.drew ?_) | (with_reducible refine Below.setCell ?_ ?_ _) | go_size))) ⟨b, off, none⟩ 0 _ ([]) (by first | rfl | (simp; done)) (by rfl) (fun j u hu => by simp at hu) (by simp) (by simp only [maxLen]; omega) (by omega) (by first | omega | (simp; omega)) ?_)
        intro v5 w5 hown5 hgrow5 hnil5
        have hb5 : Below wb.heap.size wb w5 := own_grow (by repeat' (first | (with_reducible exact Below.refl _ _) | (with_reducible assumption) | (with_reducible refine Base.via hbq ?_) | (with_reducible refine Base.grow_alloc ?_ _) | (with_reducible refine Base.below_drewN ?_ _) | (with_reducible refine Below.drew ?_) | (with_reducible refine Below.setCell ?_ ?_ _) | go_size)) (HO0.out (by repeat' (first | (with_reducible exact Below.refl _ _) | (with_reducible assumption) | (with_reducible refine Base.via hbq ?_) | (with_reducible refine Base.grow_alloc ?_ _) | (with_reducible refine Base.below_drewN ?_ _) | (with_reducible refine Below.drew ?_) | (with_reducible refine Below.setCell ?_ ?_ _) | go_size)) (by repeat' (first | (with_reducible exact Below.refl _ _) | (with_reducible assumption) | (with_reducible refine Base.grow_alloc ?_ _) | (with_reducible refine Base.below_drewN ?_ _) | (with_reducible refine Below.drew ?_) | (with_reducible refine Below.setCell ?_ ?_ _) | go_size))) (Nat.le_refl _) hgrow5
        have hne5 : v5 ≠ .slice none 0 0 := by simpa using hnil5
        have HO5 : Hid (w5.ownsRow wb.heap.size 51 5 v5 0 (cellE (lsE 0 E))) := Lib.hid (ownsRow_cast hown5 (by omega) (by simp [cellE, lsE]))
        have hz5 := hb5.size
        obtain ⟨k0, k1, k2, k3, k4⟩ := HK.out w5 hb5
        have lk := World.block_lt_of_cell? _ _ k0
        dsimp only at lk
        clear hown5 hgrow5 hnil5
        go_wp2_with (at_builtin; refine wpList_append_own _ rfl _ _ 27 rfl (wb.heap.size) 51 i0 _ 5 56 Try.underlying27 hi0 hz0 hz1 hz2 rfl (by decide) _ _ _ rfl (own_of_below HO5.out (by repeat' (first | (with_reducible exact Below.refl _ _) | (with_reducible assumption) | (with_reducible refine Base.grow_alloc ?_ _) | (with_reducible refine Base.below_drewN ?_ _) | (with_reducible refine Below.drew ?_) | (with_reducible refine Below.setCell ?_ ?_ _) | go_size))) ⟨_, 0, none⟩ 1 _ ([.int .i64 t, .string s, .string o, .int .i64 m, .bool z]) (by first | rfl | (simp; done)) (by rfl) (cell_newL _ [.int .i64 t, .string s, .string o, .int .i64 m, .bool z] _ (by simp)) (by simp [Value.oneCell']) (by simp only [maxLen]; omega) (by omega) (by first | omega | (simp; omega)) ?_)
        intro v6 w6 hown6 hgrow6 hnil6
        have hb6 : Below wb.heap.size wb w6 := own_grow (by repeat' (first | (with_reducible exact Below.refl _ _) | (with_reducible assumption) | (with_reducible refine Base.via hb5 ?_) | (with_reducible refine Base.grow_alloc ?_ _) | (with_reducible refine Base.below_drewN ?_ _) | (with_reducible refine Below.drew ?_) | (with_reducible refine Below.setCell ?_ ?_ _) | go_size)) (own_of_below HO5.out (by repeat' (first | (with_reducible exact Below.refl _ _) | (with_reducible assumption) | (with_reducible refine Base.grow_alloc ?_ _) | (with_reducible refine Base.below_drewN ?_ _) | (with_reducible refine Below.drew ?_) | (with_reducible refine Below.setCell ?_ ?_ _) | go_size))) (Nat.le_refl _) hgrow6
        have hne6 : v6 ≠ .slice none 0 0 := by simpa [hne5] using hnil6
        have HO6 : Hid (w6.ownsRow wb.heap.size 51 5 v6 (0 + 1) (cellE (lsE 0 E ++ [⟨t, s, o, m, z⟩]))) := Lib.hid (ownsRow_cast hown6 rfl (by rw [cellE_app, cellE_one]; rfl))
        have hz6 := hb6.size
        clear hown6 hgrow6 hnil6
        go_wp2_with (at_builtin; refine wpList_append_own _ rfl _ _ 27 rfl (wb.heap.size) 51 i0 _ 5 56 Try.underlying27 hi0 hz0 hz1 hz2 rfl (by decide) _ _ _ rfl (HO6.out) ⟨b, off, none⟩ 0 _ ([]) (by first | rfl | (simp; done)) (by rfl) (fun j u hu => by simp at hu) (by simp) (by simp only [maxLen]; omega) (by omega) (by first | omega | (simp; omega)) ?_)
        intro v7 w7 hown7 hgrow7 hnil7
        have hb7 : Below wb.heap.size wb w7 := own_grow (by repeat' (first | (with_reducible exact Below.refl _ _) | (with_reducible assumption) | (with_reducible refine Base.via hb6 ?_) | (with_reducible refine Base.grow_alloc ?_ _) | (with_reducible refine Base.below_drewN ?_ _) | (with_reducible refine Below.drew ?_) | (with_reducible refine Below.setCell ?_ ?_ _) | go_size)) HO6.out (Nat.le_refl _) hgrow7
        have hne7 : v7 ≠ .slice none 0 0 := by simpa [hne6] using hnil7
        have HO7 : Hid (w7.ownsRow wb.heap.size 51 5 v7 (0 + 1) (cellE (insL (lsE 0 E) 0 ⟨t, s, o, m, z⟩))) := Lib.hid (ownsRow_cast hown7 (by omega) (by first | (rw [HINS.out]; done) | (rw [HINS.out, cellE_app]; done) | (rw [HINS.out, HDRN.out]; simp [cellE]; done) | (rw [HINS.out]; simp [cellE_app, cellE])))
        obtain ⟨g7, c7, hv7, f1', f2', f3', f4'⟩ := own_form HO7.out hne7
        clear hown7 hgrow7 hnil7 hne7 hne6 hne5
        subst hv7
        go_wp2
        go_ret
        exact ⟨g7, c7, rfl, ownsRow_mono HO7.out hbw.size, hbw.trans (hb7.mono hbw.size)⟩
      · have hg0 : ¬ c = 0 := hgk
        replace HDRN : Hid (True) := Lib.hid trivial
        go_wp2_with (at_builtin; refine wpList_append_own _ rfl _ _ 27 rfl (wb.heap.size) 51 i0 _ 5 56 Try.underlying27 hi0 hz0 hz1 hz2 rfl (by decide) _ _ _ rfl (HO0.out (by repeat' (first | (with_reducible exact Below.refl _ _) | (with_reducible assumption) | (with_reducible refine Base.via hbq ?_) | (with_reducible refine Base.grow_alloc ?_ _) | (with_reducible refine Base.below_drewN ?_ _) | (with_reducible refine Below.drew ?_) | (with_reducible refine Below.setCell ?_ ?_ _) | go_size)) (by repeat' (first | (with_reducible exact Below.refl _ _) | (with_reducible assumption) | (with_reducible refine Base.grow_alloc ?_ _) | (with_reducible refine Base.below_drewN ?_ _) | (with_reducible refine Below.drew ?_) | (with_reducible refine Below.setCell ?_ ?_ _) | go_size))) ⟨b, off, none⟩ 0 _ ([]) (by first | rfl | (simp; done)) (by rfl) (fun j u hu => by simp at hu) (by simp) (by simp only [maxLen]; omega) (by omega) (by first | omega | (simp; omega)) ?_)
        intro v5 w5 hown5 hgrow5 hnil5
        have hb5 : Below wb.heap.size wb w5 := own_grow (by repeat' (first | (with_reducible exact Below.refl _ _) | (with_reducible assumption) | (with_reducible refine Base.via hbq ?_) | (with_reducible refine Base.grow_alloc ?_ _) | (with_reducible refine Base.below_drewN ?_ _) | (with_reducible refine Below.drew ?_) | (with_reducible refine Below.setCell ?_ ?_ _) | go_size)) (HO0.out (by repeat' (first | (with_reducible exact Below.refl _ _) | (with_reducible assumption) | (with_reducible refine Base.via hbq ?_) | (with_reducible refine Base.grow_alloc ?_ _) | (with_reducible refine Base.below_drewN ?_ _) | (with_reducible refine Below.drew ?_) | (with_reducible refine Below.setCell ?_ ?_ _) | go_size)) (by repeat' (first | (with_reducible exact Below.refl _ _) | (with_reducible assumption) | (with_reducible refine Base.grow_alloc ?_ _) | (with_reducible refine Base.below_drewN ?_ _) | (with_reducible refine Below.drew ?_) | (with_reducible refine Below.setCell ?_ ?_ _) | go_size))) (Nat.le_refl _) hgrow5
        have hne5 : v5 ≠ .slice none 0 0 := by simpa using hnil5
        have HO5 : Hid (w5.ownsRow wb.heap.size 51 5 v5 0 (cellE (lsE 0 E))) := Lib.hid (ownsRow_cast hown5 (by omega) (by simp [cellE, lsE]))
        have hz5 := hb5.size
        obtain ⟨k0, k1, k2, k3, k4⟩ := HK.out w5 hb5
        have lk := World.block_lt_of_cell? _ _ k0
        dsimp only at lk
        clear hown5 hgrow5 hnil5
        go_wp2_with (at_builtin; refine wpList_append_own _ rfl _ _ 27 rfl (wb.heap.size) 51 i0 _ 5 56 Try.underlying27 hi0 hz0 hz1 hz2 rfl (by decide) _ _ _ rfl (own_of_below HO5.out (by repeat' (first | (with_reducible exact Below.refl _ _) | (with_reducible assumption) | (with_reducible refine Base.grow_alloc ?_ _) | (with_reducible refine Base.below_drewN ?_ _) | (with_reducible refine Below.drew ?_) | (with_reducible refine Below.setCell ?_ ?_ _) | go_size))) ⟨_, 0, none⟩ 1 _ ([.int .i64 t, .string s, .string o, .int .i64 m, .bool z]) (by first | rfl | (simp; done)) (by rfl) (cell_newL _ [.int .i64 t, .string s, .string o, .int .i64 m, .bool z] _ (by simp)) (by simp [Value.oneCell']) (by simp only [maxLen]; omega) (by omega) (by first | omega | (simp; omega)) ?_)
        intro v6 w6 hown6 hgrow6 hnil6
        have hb6 : Below wb.heap.size wb w6 := own_grow (by repeat' (first | (with_reducible exact Below.refl _ _) | (with_reducible assumption) | (with_reducible refine Base.via hb5 ?_) | (with_reducible refine Base.grow_alloc ?_ _) | (with_reducible refine Base.below_drewN ?_ _) | (with_reducible refine Below.drew ?_) | (with_reducible refine Below.setCell ?_ ?_ _) | go_size)) (own_of_below HO5.out (by repeat' (first | (with_reducible exact Below.refl _ _) | (with_reducible assumption) | (with_reducible refine Base.grow_alloc ?_ _) | (with_reducible refine Base.below_drewN ?_ _) | (with_reducible refine Below.drew ?_) | (with_reducible refine Below.setCell ?_ ?_ _) | go_size))) (Nat.le_refl _) hgrow6
        have hne6 : v6 ≠ .slice none 0 0 := by simpa [hne5] using hnil6
        have HO6 : Hid (w6.ownsRow wb.heap.size 51 5 v6 (0 + 1) (cellE (lsE 0 E ++ [⟨t, s, o, m, z⟩]))) := Lib.hid (ownsRow_cast hown6 rfl (by rw [cellE_app, cellE_one]; rfl))
        have hz6 := hb6.size
        clear hown6 hgrow6 hnil6
        go_wp2_with (at_builtin; refine wpList_append_own _ rfl _ _ 27 rfl (wb.heap.size) 51 i0 _ 5 56 Try.underlying27 hi0 hz0 hz1 hz2 rfl (by decide) _ _ _ rfl (HO6.out) ⟨b, off, none⟩ n _ (cellE ((lsE n E).drop 0)) (by first | rfl | (simp; done)) (by simp [cellE_len, lsE_len]) (HDR.out _ (by repeat' (first | (with_reducible exact Below.refl _ _) | (with_reducible assumption) | (with_reducible refine Base.via hb6 ?_) | (with_reducible refine Base.via hbw ?_) | (with_reducible refine Base.grow_alloc ?_ _) | (with_reducible refine Base.below_drewN ?_ _) | (with_reducible refine Below.drew ?_) | (with_reducible refine Below.setCell ?_ ?_ _) | go_size))) (one_E _) (by simp only [maxLen]; omega) (by omega) (by first | omega | (simp; omega)) ?_)
        intro v7 w7 hown7 hgrow7 hnil7
        have hb7 : Below wb.heap.size wb w7 := own_grow (by repeat' (first | (with_reducible exact Below.refl _ _) | (with_reducible assumption) | (with_reducible refine Base.via hb6 ?_) | (with_reducible refine Base.grow_alloc ?_ _) | (with_reducible refine Base.below_drewN ?_ _) | (with_reducible refine Below.drew ?_) | (with_reducible refine Below.setCell ?_ ?_ _) | go_size)) HO6.out (Nat.le_refl _) hgrow7
        have hne7 : v7 ≠ .slice none 0 0 := by simpa [hne6] using hnil7
        have HO7 : Hid (w7.ownsRow wb.heap.size 51 5 v7 (n + 1) (cellE (insL (lsE n E) 0 ⟨t, s, o, m, z⟩))) := Lib.hid (ownsRow_cast hown7 (by omega) (by first | (rw [HINS.out]; done) | (rw [HINS.out, cellE_app]; done) | (rw [HINS.out, HDRN.out]; simp [cellE]; done) | (rw [HINS.out]; simp [cellE_app, cellE])))
        obtain ⟨g7, c7, hv7, f1', f2', f3', f4'⟩ := own_form HO7.out hne7
        clear hown7 hgrow7 hnil7 hne7 hne6 hne5
        subst hv7
        go_wp2
        go_ret
        exact ⟨g7, c7, rfl, ownsRow_mono HO7.out hbw.size, hbw.trans (hb7.mono hbw.size)⟩
    · obtain ⟨kk, rfl⟩ : ∃ kk, k = kk + 1 := ⟨k - 1, by omega⟩
      obtain ⟨b2, o2, e2, hb, hc⟩ := (hv.below hbr).at_ (by omega)
      injection e2 with e2
      injection e2 with e3 e4
      subst e3; subst e4
      obtain ⟨a0, a1, a2, a3, a4⟩ := cells5 hc kk (by omega)
      have HB := Lib.hid (HBE.out wr kk w.heap.size 0 b (off + kk * 5) k0 k1 k2 a0 a1 a2)
      have hkp : decide (0 < kk + 1) = true := by simp
      have hwk : IntKind.i64.wrap ((kk : Int) + 1 - 1) = (kk : Int) := by rw [IntWalk.i64_in _ (by omega)]; omega
      clear hc a0 a1 a2 a3 a4
      rcases Nat.lt_or_ge kk K with hKk2 | hKk2
      · obtain rfl : K = kk + 1 := by omega
        have hbf := HLT.out kk (by omega)
        rw [hbf] at HB
        have HTK := Lib.hid (fun (W : World) (hW : Below w.heap.size w W) => news_take (hv.below hW) hKn)
        have HDR := Lib.hid (fun (W : World) (hW : Below w.heap.size w W) => news_drop (hv.below hW) hKn)
        have HDRN : Hid (n = kk + 1 → (lsE n E).drop (kk + 1) = []) := Lib.hid (fun h => List.drop_eq_nil_of_le (by rw [lsE_len, h]; exact Nat.le_refl _))
        clear hbf
        by_cases hgk : c = kk + 1
        · obtain rfl : n = kk + 1 := by omega
          subst hgk
          replace HDRN := Lib.hid (HDRN.out rfl)
          go_wp2_with (first | (go_at_call 66; refine HB.out.mono ?_; rintro e w1 ⟨rfl, hb1⟩; have zz1 := hb1.size) | (at_builtin; refine wpList_append_own _ rfl _ _ 27 rfl (wb.heap.size) 51 i0 _ 5 56 Try.underlying27 hi0 hz0 hz1 hz2 rfl (by decide) _ _ _ rfl (HO0.out (by repeat' (first | (with_reducible exact Below.refl _ _) | (with_reducible assumption) | (with_reducible refine Base.via hb1 ?_) | (with_reducible refine Base.via hbq ?_) | (with_reducible refine Base.grow_alloc ?_ _) | (with_reducible refine Base.below_drewN ?_ _) | (with_reducible refine Below.drew ?_) | (with_reducible refine Below.setCell ?_ ?_ _) | go_size)) (by repeat' (first | (with_reducible exact Below.refl _ _) | (with_reducible assumption) | (with_reducible refine Base.grow_alloc ?_ _) | (with_reducible refine Base.below_drewN ?_ _) | (with_reducible refine Below.drew ?_) | (with_reducible refine Below.setCell ?_ ?_ _) | go_size))) ⟨b, off, none⟩ (kk + 1) _ (cellE (lsE (kk + 1) E)) (by first | rfl | (simp; done)) (by rw [cellE_len, lsE_len]) (HTK.out _ (by repeat' (first | (with_reducible exact Below.refl _ _) | (with_reducible assumption) | (with_reducible refine Base.via hb1 ?_) | (with_reducible refine Base.via hbq ?_) | (with_reducible refine Base.via hbw ?_) | (with_reducible refine Base.grow_alloc ?_ _) | (with_reducible refine Base.below_drewN ?_ _) | (with_reducible refine Below.drew ?_) | (with_reducible refine Below.setCell ?_ ?_ _) | go_size))) (one_E _) (by simp only [maxLen]; omega) (by omega) (by first | omega | (simp; omega)) ?_))
          intro v5 w5 hown5 hgrow5 hnil5
          have hb5 : Below wb.heap.size wb w5 := own_grow (by repeat' (first | (with_reducible exact Below.refl _ _) | (with_reducible assumption) | (with_reducible refine Base.via hb1 ?_) | (with_reducible refine Base.via hbq ?_) | (with_reducible refine Base.grow_alloc ?_ _) | (with_reducible refine Base.below_drewN ?_ _) | (with_reducible refine Below.drew ?_) | (with_reducible refine Below.setCell ?_ ?_ _) | go_size)) (HO0.out (by repeat' (first | (with_reducible exact Below.refl _ _) | (with_reducible assumption) | (with_reducible refine Base.via hb1 ?_) | (with_reducible refine Base.via hbq ?_) | (with_reducible refine Base.grow_alloc ?_ _) | (with_reducible refine Base.below_drewN ?_ _) | (with_reducible refine Below.drew ?_) | (with_reducible refine Below.setCell ?_ ?_ _) | go_size)) (by repeat' (first | (with_reducible exact Below.refl _ _) | (with_reducible assumption) | (with_reducible refine Base.grow_alloc ?_ _) | (with_reducible refine Base.below_drewN ?_ _) | (with_reducible refine Below.drew ?_) | (with_reducible refine Below.setCell ?_ ?_ _) | go_size))) (Nat.le_refl _) hgrow5
          have hne5 : v5 ≠ .slice none 0 0 := by simpa using hnil5
          have HO5 : Hid (w5.ownsRow wb.heap.size 51 5 v5 (kk + 1) (cellE (lsE (kk + 1) E))) := Lib.hid (ownsRow_cast hown5 (by omega) (by simp [cellE, lsE]))
          have hz5 := hb5.size
          obtain ⟨k0, k1, k2, k3, k4⟩ := HK.out w5 hb5
          have lk := World.block_lt_of_cell? _ _ k0
          dsimp only at lk
          clear hown5 hgrow5 hnil5
          go_wp2_with (at_builtin; refine wpList_append_own _ rfl _ _ 27 rfl (wb.heap.size) 51 i0 _ 5 56 Try.underlying27 hi0 hz0 hz1 hz2 rfl (by decide) _ _ _ rfl (own_of_below HO5.out (by repeat' (first | (with_reducible exact Below.refl _ _) | (with_reducible assumption) | (with_reducible refine Base.grow_alloc ?_ _) | (with_reducible refine Base.below_drewN ?_ _) | (with_reducible refine Below.drew ?_) | (with_reducible refine Below.setCell ?_ ?_ _) | go_size))) ⟨_, 0, none⟩ 1 _ ([.int .i64 t, .string s, .string o, .int .i64 m, .bool z]) (by first | rfl | (simp; done)) (by rfl) (cell_newL _ [.int .i64 t, .string s, .string o, .int .i64 m, .bool z] _ (by simp)) (by simp [Value.oneCell']) (by simp only [maxLen]; omega) (by omega) (by first | omega | (simp; omega)) ?_)
          intro v6 w6 hown6 hgrow6 hnil6
          have hb6 : Below wb.heap.size wb w6 := own_grow (by repeat' (first | (with_reducible exact Below.refl _ _) | (with_reducible assumption) | (with_reducible refine Base.via hb5 ?_) | (with_reducible refine Base.grow_alloc ?_ _) | (with_reducible refine Base.below_drewN ?_ _) | (with_reducible refine Below.drew ?_) | (with_reducible refine Below.setCell ?_ ?_ _) | go_size)) (own_of_below HO5.out (by repeat' (first | (with_reducible exact Below.refl _ _) | (with_reducible assumption) | (with_reducible refine Base.grow_alloc ?_ _) | (with_reducible refine Base.below_drewN ?_ _) | (with_reducible refine Below.drew ?_) | (with_reducible refine Below.setCell ?_ ?_ _) | go_size))) (Nat.le_refl _) hgrow6
          have hne6 : v6 ≠ .slice none 0 0 := by simpa [hne5] using hnil6
          have HO6 : Hid (w6.ownsRow wb.heap.size 51 5 v6 ((kk + 1) + 1) (cellE (lsE (kk + 1) E ++ [⟨t, s, o, m, z⟩]))) := Lib.hid (ownsRow_cast hown6 rfl (by rw [cellE_app, cellE_one]; rfl))
          have hz6 := hb6.size
          clear hown6 hgrow6 hnil6
          go_wp2_with (at_builtin; refine wpList_append_own _ rfl _ _ 27 rfl (wb.heap.size) 51 i0 _ 5 56 Try.underlying27 hi0 hz0 hz1 hz2 rfl (by decide) _ _ _ rfl (HO6.out) ⟨b, off, none⟩ 0 _ ([]) (by first | rfl | (simp; done)) (by rfl) (fun j u hu => by simp at hu) (by simp) (by simp only [maxLen]; omega) (by omega) (by first | omega | (simp; omega)) ?_)
          intro v7 w7 hown7 hgrow7 hnil7
          have hb7 : Below wb.heap.size wb w7 := own_grow (by repeat' (first | (with_reducible exact Below.refl _ _) | (with_reducible assumption) | (with_reducible refine Base.via hb6 ?_) | (with_reducible refine Base.grow_alloc ?_ _) | (with_reducible refine Base.below_drewN ?_ _) | (with_reducible refine Below.drew ?_) | (with_reducible refine Below.setCell ?_ ?_ _) | go_size)) HO6.out (Nat.le_refl _) hgrow7
          have hne7 : v7 ≠ .slice none 0 0 := by simpa [hne6] using hnil7
          have HO7 : Hid (w7.ownsRow wb.heap.size 51 5 v7 ((kk + 1) + 1) (cellE (insL (lsE (kk + 1) E) (kk + 1) ⟨t, s, o, m, z⟩))) := Lib.hid (ownsRow_cast hown7 (by omega) (by first | (rw [HINS.out]; done) | (rw [HINS.out, cellE_app]; done) | (rw [HINS.out, HDRN.out]; simp [cellE]; done) | (rw [HINS.out]; simp [cellE_app, cellE])))
          obtain ⟨g7, c7, hv7, f1', f2', f3', f4'⟩ := own_form HO7.out hne7
          clear hown7 hgrow7 hnil7 hne7 hne6 hne5
          subst hv7
          go_wp2
          go_ret
          exact ⟨g7, c7, rfl, ownsRow_mono HO7.out hbw.size, hbw.trans (hb7.mono hbw.size)⟩
        · have hg0 : ¬ c = kk + 1 := hgk
          replace HDRN : Hid (True) := Lib.hid trivial
          go_wp2_with (first | (go_at_call 66; refine HB.out.mono ?_; rintro e w1 ⟨rfl, hb1⟩; have zz1 := hb1.size) | (at_builtin; refine wpList_append_own _ rfl _ _ 27 rfl (wb.heap.size) 51 i0 _ 5 56 Try.underlying27 hi0 hz0 hz1 hz2 rfl (by decide) _ _ _ rfl (HO0.out (by repeat' (first | (with_reducible exact Below.refl _ _) | (with_reducible assumption) | (with_reducible refine Base.via hb1 ?_) | (with_reducible refine Base.via hbq ?_) | (with_reducible refine Base.grow_alloc ?_ _) | (with_reducible refine Base.below_drewN ?_ _) | (with_reducible refine Below.drew ?_) | (with_reducible refine Below.setCell ?_ ?_ _) | go_size)) (by repeat' (first | (with_reducible exact Below.refl _ _) | (with_reducible assumption) | (with_reducible refine Base.grow_alloc ?_ _) | (with_reducible refine Base.below_drewN ?_ _) | (with_reducible refine Below.drew ?_) | (with_reducible refine Below.setCell ?_ ?_ _) | go_size))) ⟨b, off, none⟩ (kk + 1) _ (cellE (lsE (kk + 1) E)) (by first | rfl | (simp; done)) (by rw [cellE_len, lsE_len]) (HTK.out _ (by repeat' (first | (with_reducible exact Below.refl _ _) | (with_reducible assumption) | (with_reducible refine Base.via hb1 ?_) | (with_reducible refine Base.via hbq ?_) | (with_reducible refine Base.via hbw ?_) | (with_reducible refine Base.grow_alloc ?_ _) | (with_reducible refine Base.below_drewN ?_ _) | (with_reducible refine Below.drew ?_) | (with_reducible refine Below.setCell ?_ ?_ _) | go_size))) (one_E _) (by simp only [maxLen]; omega) (by omega) (by first | omega | (simp; omega)) ?_))
          intro v5 w5 hown5 hgrow5 hnil5
          have hb5 : Below wb.heap.size wb w5 := own_grow (by repeat' (first | (with_reducible exact Below.refl _ _) | (with_reducible assumption) | (with_reducible refine Base.via hb1 ?_) | (with_reducible refine Base.via hbq ?_) | (with_reducible refine Base.grow_alloc ?_ _) | (with_reducible refine Base.below_drewN ?_ _) | (with_reducible refine Below.drew ?_) | (with_reducible refine Below.setCell ?_ ?_ _) | go_size)) (HO0.out (by repeat' (first | (with_reducible exact Below.refl _ _) | (with_reducible assumption) | (with_reducible refine Base.via hb1 ?_) | (with_reducible refine Base.via hbq ?_) | (with_reducible refine Base.grow_alloc ?_ _) | (with_reducible refine Base.below_drewN ?_ _) | (with_reducible refine Below.drew ?_) | (with_reducible refine Below.setCell ?_ ?_ _) | go_size)) (by repeat' (first | (with_reducible exact Below.refl _ _) | (with_reducible assumption) | (with_reducible refine Base.grow_alloc ?_ _) | (with_reducible refine Base.below_drewN ?_ _) | (with_reducible refine Below.drew ?_) | (with_reducible refine Below.setCell ?_ ?_ _) | go_size))) (Nat.le_refl _) hgrow5
          have hne5 : v5 ≠ .slice none 0 0 := by simpa using hnil5
          have HO5 : Hid (w5.ownsRow wb.heap.size 51 5 v5 (kk + 1) (cellE (lsE (kk + 1) E))) := Lib.hid (ownsRow_cast hown5 (by omega) (by simp [cellE, lsE]))
          have hz5 := hb5.size
          obtain ⟨k0, k1, k2, k3, k4⟩ := HK.out w5 hb5
          have lk := World.block_lt_of_cell? _ _ k0
          dsimp only at lk
          clear hown5 hgrow5 hnil5
          go_wp2_with (at_builtin; refine wpList_append_own _ rfl _ _ 27 rfl (wb.heap.size) 51 i0 _ 5 56 Try.underlying27 hi0 hz0 hz1 hz2 rfl (by decide) _ _ _ rfl (own_of_below HO5.out (by repeat' (first | (with_reducible exact Below.refl _ _) | (with_reducible assumption) | (with_reducible refine Base.grow_alloc ?_ _) | (with_reducible refine Base.below_drewN ?_ _) | (with_reducible refine Below.drew ?_) | (with_reducible refine Below.setCell ?_ ?_ _) | go_size))) ⟨_, 0, none⟩ 1 _ ([.int .i64 t, .string s, .string o, .int .i64 m, .bool z]) (by first | rfl | (simp; done)) (by rfl) (cell_newL _ [.int .i64 t, .string s, .string o, .int .i64 m, .bool z] _ (by simp)) (by simp [Value.oneCell']) (by simp only [maxLen]; omega) (by omega) (by first | omega | (simp; omega)) ?_)
          intro v6 w6 hown6 hgrow6 hnil6
          have hb6 : Below wb.heap.size wb w6 := own_grow (by repeat' (first | (with_reducible exact Below.refl _ _) | (with_reducible assumption) | (with_reducible refine Base.via hb5 ?_) | (with_reducible refine Base.grow_alloc ?_ _) | (with_reducible refine Base.below_drewN ?_ _) | (with_reducible refine Below.drew ?_) | (with_reducible refine Below.setCell ?_ ?_ _) | go_size)) (own_of_below HO5.out (by repeat' (first | (with_reducible exact Below.refl _ _) | (with_reducible assumption) | (with_reducible refine Base.grow_alloc ?_ _) | (with_reducible refine Base.below_drewN ?_ _) | (with_reducible refine Below.drew ?_) | (with_reducible refine Below.setCell ?_ ?_ _) | go_size))) (Nat.le_refl _) hgrow6
          have hne6 : v6 ≠ .slice none 0 0 := by simpa [hne5] using hnil6
          have HO6 : Hid (w6.ownsRow wb.heap.size 51 5 v6 ((kk + 1) + 1) (cellE (lsE (kk + 1) E ++ [⟨t, s, o, m, z⟩]))) := Lib.hid (ownsRow_cast hown6 rfl (by rw [cellE_app, cellE_one]; rfl))
          have hz6 := hb6.size
          clear hown6 hgrow6 hnil6
          go_wp2_with (at_builtin; refine wpList_append_own _ rfl _ _ 27 rfl (wb.heap.size) 51 i0 _ 5 56 Try.underlying27 hi0 hz0 hz1 hz2 rfl (by decide) _ _ _ rfl (HO6.out) ⟨b, off + (kk + 1) * 5, none⟩ (n - (kk + 1)) _ (cellE ((lsE n E).drop (kk + 1))) (by first | rfl | (simp; done)) (by simp [cellE_len, lsE_len]) (HDR.out _ (by repeat' (first | (with_reducible exact Below.refl _ _) | (with_reducible assumption) | (with_reducible refine Base.via hb6 ?_) | (with_reducible refine Base.via hbw ?_) | (with_reducible refine Base.grow_alloc ?_ _) | (with_reducible refine Base.below_drewN ?_ _) | (with_reducible refine Below.drew ?_) | (with_reducible refine Below.setCell ?_ ?_ _) | go_size))) (one_E _) (by simp only [maxLen]; omega) (by omega) (by first | omega | (simp; omega)) ?_)
          intro v7 w7 hown7 hgrow7 hnil7
          have hb7 : Below wb.heap.size wb w7 := own_grow (by repeat' (first | (with_reducible exact Below.refl _ _) | (with_reducible assumption) | (with_reducible refine Base.via hb6 ?_) | (with_reducible refine Base.grow_alloc ?_ _) | (with_reducible refine Base.below_drewN ?_ _) | (with_reducible refine Below.drew ?_) | (with_reducible refine Below.setCell ?_ ?_ _) | go_size)) HO6.out (Nat.le_refl _) hgrow7
          have hne7 : v7 ≠ .slice none 0 0 := by simpa [hne6] using hnil7
          have HO7 : Hid (w7.ownsRow wb.heap.size 51 5 v7 (n + 1) (cellE (insL (lsE n E) (kk + 1) ⟨t, s, o, m, z⟩))) := Lib.hid (ownsRow_cast hown7 (by omega) (by first | (rw [HINS.out]; done) | (rw [HINS.out, cellE_app]; done) | (rw [HINS.out, HDRN.out]; simp [cellE]; done) | (rw [HINS.out]; simp [cellE_app, cellE])))
          obtain ⟨g7, c7, hv7, f1', f2', f3', f4'⟩ := own_form HO7.out hne7
          clear hown7 hgrow7 hnil7 hne7 hne6 hne5
          subst hv7
          go_wp2
          go_ret
          exact ⟨g7, c7, rfl, ownsRow_mono HO7.out hbw.size, hbw.trans (hb7.mono hbw.size)⟩
      · have hbf := HGE.out kk hKk2 (by omega)
        rw [hbf] at HB
        clear hbf
        go_wp2_with (go_at_call 66; refine HB.out.mono ?_; rintro e w1 ⟨rfl, hb1⟩)
        exact ⟨⟨kk, by omega, by go_num, hKk2, (by repeat' (first | (with_reducible exact Below.refl _ _) | (with_reducible assumption) | (with_reducible refine Base.via hb1 ?_) | (with_reducible refine Base.via hbq ?_) | (with_reducible refine Base.grow_alloc ?_ _) | (with_reducible refine Base.below_drewN ?_ _) | (with_reducible refine Below.drew ?_) | (with_reducible refine Below.setCell ?_ ?_ _) | go_size))⟩, by simp [intOf]⟩
end Go.Proofs.Ythojfmlnnclghaa.PutE
