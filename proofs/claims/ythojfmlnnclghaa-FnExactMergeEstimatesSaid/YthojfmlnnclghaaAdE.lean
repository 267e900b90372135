/- One estimate more: both sides. -/
import Derived.Test.YthojfmlnnclghaaPutE
import Derived.Deep.RegionHeld3
namespace Go.Proofs.Ythojfmlnnclghaa.AdE
set_option linter.unusedVariables false
set_option linter.unusedSimpArgs false
set_option maxRecDepth 8000
open Go.RowKit Go.Shelf Plain Num View Est Name Es1 Cmp OkE ChoE SrE CpK InsE BsE PutE

def adC (n : Nat) (E : Nat → E5) (e : E5) : Int := if okE n E = true then (if oneE e = true then (if fdE n E e = true then 4 else if n = 100 then 5 else 0) else 2) else 1
def adL (n : Nat) (E : Nat → E5) (e : E5) : List E5 := if adC n E e = 0 then insL (lsE n E) (lbE E e n) e else []
theorem ad_cases (n : Nat) (E : Nat → E5) (e : E5) : (okE n E = true ∧ oneE e = true ∧ fdE n E e = false ∧ n < 100 ∧ adC n E e = 0) ∨ (okE n E = true ∧ oneE e = true ∧ fdE n E e = false ∧ n = 100 ∧ adC n E e = 5) ∨ (okE n E = true ∧ oneE e = true ∧ fdE n E e = true ∧ adC n E e = 4) ∨ (okE n E = true ∧ oneE e = false ∧ adC n E e = 2) ∨ (okE n E = false ∧ adC n E e = 1) := by
  unfold adC
  cases h : okE n E
  · simp
  · have := okE_le h
    cases h1 : oneE e <;> cases h2 : fdE n E e <;> by_cases h3 : n = 100 <;> simp [h3] <;> omega
theorem ret_ad {v : Value} {a b : Int} (h : a = b) : Ending.returned (.tuple #[v, .int .i64 a]) = Ending.returned (.tuple #[v, .int .i64 b]) := by rw [h]
theorem ownE {w : World} {B : Nat} {T : TypeId} {v : Value} {L : List E5} {n : Nat} (h : w.ownsRow B T 5 v n (cellE L)) (hl : L.length = n) (hn : n ≤ 1048576) : OwnK w B T 5 v L.length (f5 (leE L)) := by
  subst hl
  exact of_listE h hn
set_option maxHeartbeats 3200000 in
theorem c_AddEstimate (b off n c : Nat) (E : Nat → E5) (e : E5) (w : World) (hv : Sl w 5 (some ⟨b, off, none⟩) n c (f5 E)) :
    Calls Try.prog 30 #[.slice (some ⟨b, off, none⟩) n c, est e] w fun r w' => ∃ u, r = .returned (.tuple #[u, .int .i64 (adC n E e)]) ∧ OwnK w' w.heap.size 51 5 u (adL n E e).length (f5 (leE (adL n E e))) ∧ Below w.heap.size w w' := by
  have hn := hv.le
  obtain ⟨i0, hi0, hz0, hz1, hz2⟩ := info_parts infoEst
  have HV := Lib.hid (fun (W : World) (hW : Sl W 5 (some ⟨b, off, none⟩) n c (f5 E)) => c_ValidEstimates (some ⟨b, off, none⟩) n c E W hW)
  have HI := Lib.hid (fun (W : World) => c_isEstimate e W)
  rcases ad_cases n E e with ⟨h1, h2, h3, h4, hc⟩ | ⟨h1, h2, h3, h4, hc⟩ | ⟨h1, h2, h3, hc⟩ | ⟨h1, h2, hc⟩ | ⟨h1, hc⟩
  · have hs := okE_srt h1
    have HB := Lib.hid (fun (W : World) (hW : Sl W 5 (some ⟨b, off, none⟩) n c (f5 E)) => c_BinSearchE (some ⟨b, off, none⟩) n c E e W hW hs (by omega))
    have HCP := Lib.hid (fun (W : World) (hW : Sl W 5 (some ⟨b, off, none⟩) n c (f5 E)) => c_copyOfE ⟨b, off, none⟩ n c E W hW)
    have hK := (lbE_spec e hs).1
    have HL := Lib.hid (show adL n E e = insL (lsE n E) (lbE E e n) e by rw [adL, if_pos hc])
    have HLL := Lib.hid (show (insL (lsE n E) (lbE E e n) e).length = n + 1 by rw [insL_len (by rw [lsE_len]; exact hK), lsE_len])
    have HC := Lib.hid hc
    have h100 : ((n : Int) == 100) = false := by simp; omega
    have HIN := Lib.hid (fun (B g cap vb : Nat) (W : World) (hB : B ≤ W.heap.size) (ho : W.ownsRow B 51 5 (.slice (some ⟨g, 0, none⟩) n cap) n (cellE (lsE n E))) (hvb : vb ≠ g) (hv : W.heap[vb]? = some (.cells (vals e).toArray 51 (0, 0))) => by
      have := c_InsertE B g cap (lsE n E) (lbE E e n) e vb W hB (by rw [lsE_len]; exact hK) (by rw [lsE_len]; omega) (by rw [lsE_len]; exact ho) hvb hv
      rw [lsE_len] at this
      exact this)
    rw [h1] at HV
    rw [h2] at HI
    rw [h3] at HB
    clear hc h1 h2 h3 hs
    generalize insL (lsE n E) (lbE E e n) e = LI at *
    generalize lbE E e n = K at *
    obtain ⟨t, s, o, m, z⟩ := e
    simp only [est] at HI HB ⊢
    go_enter Try.func30, Try.ntmps30
    go_wp2_with fail
    refine (HV.out _ (hv.below (by repeat' (first | (with_reducible exact Below.refl _ _) | (with_reducible assumption) | (with_reducible refine Base.grow_alloc ?_ _) | (with_reducible refine Base.below_drewN ?_ _) | (with_reducible refine Below.drew ?_) | (with_reducible refine Below.setCell ?_ ?_ _) | go_size)))).mono ?_
    rintro e w1 ⟨rfl, hb1⟩
    have k0 : World.cell? w1 ⟨w.heap.size, 0, none⟩ = some (.int .i64 t) := ((hb1.cell (p := ⟨w.heap.size, 0, none⟩) (by first | (simp; done) | (simp; omega) | omega)).trans (by simp [go_sem]))
    have k1 : World.cell? w1 ⟨w.heap.size, 1, none⟩ = some (.string s) := ((hb1.cell (p := ⟨w.heap.size, 1, none⟩) (by first | (simp; done) | (simp; omega) | omega)).trans (by simp [go_sem]))
    have k2 : World.cell? w1 ⟨w.heap.size, 2, none⟩ = some (.string o) := ((hb1.cell (p := ⟨w.heap.size, 2, none⟩) (by first | (simp; done) | (simp; omega) | omega)).trans (by simp [go_sem]))
    have k3 : World.cell? w1 ⟨w.heap.size, 3, none⟩ = some (.int .i64 m) := ((hb1.cell (p := ⟨w.heap.size, 3, none⟩) (by first | (simp; done) | (simp; omega) | omega)).trans (by simp [go_sem]))
    have k4 : World.cell? w1 ⟨w.heap.size, 4, none⟩ = some (.bool z) := ((hb1.cell (p := ⟨w.heap.size, 4, none⟩) (by first | (simp; done) | (simp; omega) | omega)).trans (by simp [go_sem]))
    have hbw : Below w.heap.size w w1 := (by repeat' (first | (with_reducible exact Below.refl _ _) | (with_reducible assumption) | (with_reducible refine Base.via hb1 ?_) | (with_reducible refine Base.grow_alloc ?_ _) | (with_reducible refine Base.below_drewN ?_ _) | (with_reducible refine Below.drew ?_) | (with_reducible refine Below.setCell ?_ ?_ _) | go_size))
    have HK1 := Lib.hid (fun (W : World) (hW : Below w1.heap.size w1 W) => (⟨cell_call hW k0, cell_call hW k1, cell_call hW k2, cell_call hW k3, cell_call hW k4⟩ : _ ∧ _ ∧ _ ∧ _ ∧ _))
    go_wp2_with fail
    refine (HI.out _).mono ?_
    rintro e w2 ⟨rfl, hb2⟩
    obtain ⟨k0, k1, k2, k3, k4⟩ := HK1.out w2 hb2
    go_wp2_with fail
    refine (HB.out _ (hv.below (by repeat' (first | (with_reducible exact Below.refl _ _) | (with_reducible assumption) | (with_reducible refine Base.via hb2 ?_) | (with_reducible refine Base.via hbw ?_) | (with_reducible refine Base.grow_alloc ?_ _) | (with_reducible refine Base.below_drewN ?_ _) | (with_reducible refine Below.drew ?_) | (with_reducible refine Below.setCell ?_ ?_ _) | go_size)))).mono ?_
    rintro e w3 ⟨rfl, hb3⟩
    have hbw3 : Below w.heap.size w w3 := (by repeat' (first | (with_reducible exact Below.refl _ _) | (with_reducible assumption) | (with_reducible refine Base.via hb3 ?_) | (with_reducible refine Base.via hb2 ?_) | (with_reducible refine Base.via hbw ?_) | (with_reducible refine Base.grow_alloc ?_ _) | (with_reducible refine Base.below_drewN ?_ _) | (with_reducible refine Below.drew ?_) | (with_reducible refine Below.setCell ?_ ?_ _) | go_size))
    obtain ⟨k0, k1, k2, k3, k4⟩ := HK1.out w3 (by repeat' (first | (with_reducible exact Below.refl _ _) | (with_reducible assumption) | (with_reducible refine Base.via hb3 ?_) | (with_reducible refine Base.via hb2 ?_) | (with_reducible refine Base.grow_alloc ?_ _) | (with_reducible refine Base.below_drewN ?_ _) | (with_reducible refine Below.drew ?_) | (with_reducible refine Below.setCell ?_ ?_ _) | go_size))
    have hv3 := hv.below hbw3
    have lk := World.block_lt_of_cell? _ _ k0
    dsimp only at lk
    have HS : ∀ W : World, Below w3.heap.size w3 W → (W.cell? ⟨w.heap.size, 0, none⟩ = some (.int .i64 t) ∧ W.cell? ⟨w.heap.size, 1, none⟩ = some (.string s) ∧ W.cell? ⟨w.heap.size, 2, none⟩ = some (.string o) ∧ W.cell? ⟨w.heap.size, 3, none⟩ = some (.int .i64 m) ∧ W.cell? ⟨w.heap.size, 4, none⟩ = some (.bool z)) ∧ Below w3.heap.size w3 W :=
      fun W hW => ⟨⟨cell_call hW k0, cell_call hW k1, cell_call hW k2, cell_call hW k3, cell_call hW k4⟩, hW⟩
    clear HK1 k0 k1 k2 k3 k4 HV HI HB
    go_wp2
    refine wp_region_held_drew (S := (fun W => (W.cell? ⟨w.heap.size, 0, none⟩ = some (.int .i64 t) ∧ W.cell? ⟨w.heap.size, 1, none⟩ = some (.string s) ∧ W.cell? ⟨w.heap.size, 2, none⟩ = some (.string o) ∧ W.cell? ⟨w.heap.size, 3, none⟩ = some (.int .i64 m) ∧ W.cell? ⟨w.heap.size, 4, none⟩ = some (.bool z)) ∧ Below w3.heap.size w3 W)) (by kernel_rfl) (by (try dsimp only); (exact HS _ (by repeat' (first | (with_reducible exact Below.refl _ _) | (with_reducible assumption) | (with_reducible refine Base.grow_alloc ?_ _) | (with_reducible refine Base.below_drewN ?_ _) | (with_reducible refine Below.drew ?_) | (with_reducible refine Below.setCell ?_ ?_ _) | go_size)))) (fun hHeld => ?_)
    refine wpAnyH_take (i := 0) (oi := ⟨some 28, _, _, _, _, _⟩) (v := ?_) rfl (by kernel_rfl) (by kernel_rfl) (by kernel_rfl) (fun _ _ _ h => h) (Or.inl ⟨by rfl, ?_⟩) (by assumption) ?_
    rotate_left
    · (intro w' hSw; (try dsimp only at hSw); go_simp; try with_reducible rfl)
    try simp only [Act.put, List.setIfInBounds_toArray, List.set_cons_zero, List.set_cons_succ]
    refine wpAnyH_take (i := 2) (oi := ⟨some 30, _, _, _, _, _⟩) (v := ?_) rfl (by kernel_rfl) (by kernel_rfl) (by kernel_rfl) (fun _ _ _ h => h) (Or.inl ⟨by rfl, ?_⟩) (by assumption) ?_
    rotate_left
    · (intro w' hSw; (try dsimp only at hSw); go_simp; try with_reducible rfl)
    try simp only [Act.put, List.setIfInBounds_toArray, List.set_cons_zero, List.set_cons_succ]
    refine wpAnyH_take (i := 3) (oi := ⟨some 31, _, _, _, _, _⟩) (v := ?_) rfl (by kernel_rfl) (by kernel_rfl) (by kernel_rfl) (fun _ _ _ h => h) (Or.inl ⟨by rfl, ?_⟩) (by assumption) ?_
    rotate_left
    · (intro w' hSw; (try dsimp only at hSw); go_simp; try with_reducible rfl)
    try simp only [Act.put, List.setIfInBounds_toArray, List.set_cons_zero, List.set_cons_succ]
    refine wpAnyH_ready (rs := [1, 4]) (by kernel_rfl) (by simp) ?_
    refine AllReadyH.cons (o := ⟨some 29, _, _, _, _, _⟩) rfl (fun KK hK => ?_) (AllReadyH.cons (o := ⟨some 32, _, _, _, _, _⟩) rfl (fun KK hK => ?_) AllReadyH.nil)
    · go_simp
      go_at_call 65
      refine (HCP.out _ (hv3.below (by repeat' (first | (with_reducible exact Below.refl _ _) | (with_reducible assumption) | (with_reducible refine Base.grow_alloc ?_ _) | (with_reducible refine Base.below_drewN ?_ _) | (with_reducible refine Below.drew ?_) | (with_reducible refine Below.setCell ?_ ?_ _) | go_size)))).mono ?_
      rintro e w4 ⟨g, cap, rfl, ho4, hb4⟩
      refine hK.out _ _ (by (try dsimp only); exact HS _ (by repeat' (first | (with_reducible exact Below.refl _ _) | (with_reducible assumption) | (with_reducible refine Base.via hb4 ?_) | (with_reducible refine Base.grow_alloc ?_ _) | (with_reducible refine Base.below_drewN ?_ _) | (with_reducible refine Below.drew ?_) | (with_reducible refine Below.setCell ?_ ?_ _) | go_size))) (fun hHeld => ?_)
      clear hK KK
      try simp only [Act.put, List.setIfInBounds_toArray, List.set_cons_zero, List.set_cons_succ]
      have hg4 := (ho4.lt g rfl).2
      refine wpAnyH_ready (rs := [4]) (by kernel_rfl) (by simp) ?_
      refine AllReadyH.cons (o := ⟨some 32, _, _, _, _, _⟩) rfl (fun K hK => ?_) AllReadyH.nil
      go_simp
      skip
      refine hK.out _ _ (by (try dsimp only); (exact HS _ (by repeat' (first | (with_reducible exact Below.refl _ _) | (with_reducible assumption) | (with_reducible refine Base.via hb4 ?_) | (with_reducible refine Base.grow_alloc ?_ _) | (with_reducible refine Base.below_drewN ?_ _) | (with_reducible refine Below.drew ?_) | (with_reducible refine Below.setCell ?_ ?_ _) | go_size)))) (fun hHeld => ?_)
      clear hK K
      try simp only [Act.put, List.setIfInBounds_toArray, List.set_cons_zero, List.set_cons_succ]
      refine wpAnyH_ready (rs := [5]) (by kernel_rfl) (by simp) ?_
      refine AllReadyH.cons (o := ⟨some 33, _, _, _, _, _⟩) rfl (fun K hK => ?_) AllReadyH.nil
      go_simp
      (go_at_call 64; refine (HIN.out w3.heap.size g cap _ _ (by have h : w3.heap.size ≤ w4.heap.size := hb4.size; simp; omega) (ownsRow_mono (own_of_below ho4 (by repeat' (first | (with_reducible exact Below.refl _ _) | (with_reducible assumption) | (with_reducible refine Base.grow_alloc ?_ _) | (with_reducible refine Base.below_drewN ?_ _) | (with_reducible refine Below.drew ?_) | (with_reducible refine Below.setCell ?_ ?_ _) | go_size))) (by exact Nat.le_refl _)) (fun h => by omega) (heap_alloc_new w4 _)).mono ?_; rintro e w5 ⟨g5, c5, rfl, ho5, hb5⟩)
      refine hK.out _ _ (by (try dsimp only); (exact HS _ ((show Below w3.heap.size w3 _ from (by repeat' (first | (with_reducible exact Below.refl _ _) | (with_reducible assumption) | (with_reducible refine Base.via hb4 ?_) | (with_reducible refine Base.grow_alloc ?_ _) | (with_reducible refine Base.below_drewN ?_ _) | (with_reducible refine Below.drew ?_) | (with_reducible refine Below.setCell ?_ ?_ _) | go_size))).trans hb5))) (fun hHeld => ?_)
      clear hK K
      try simp only [Act.put, List.setIfInBounds_toArray, List.set_cons_zero, List.set_cons_succ]
      refine wpAnyH_take (i := 6) (oi := ⟨some 4, _, _, _, _, _⟩) (v := ?_) rfl (by kernel_rfl) (by kernel_rfl) (by kernel_rfl) (fun _ _ _ h => h) (Or.inl ⟨by rfl, ?_⟩) (by assumption) ?_
      rotate_left
      · (intro w' hSw; (try dsimp only at hSw); go_simp; try with_reducible rfl)
      try simp only [Act.put, List.setIfInBounds_toArray, List.set_cons_zero, List.set_cons_succ]
      refine wpAnyH_take (i := 7) (oi := ⟨some 5, _, _, _, _, _⟩) (v := ?_) rfl (by kernel_rfl) (by kernel_rfl) (by kernel_rfl) (fun _ _ _ h => h) (Or.inl ⟨by rfl, ?_⟩) (by assumption) ?_
      rotate_left
      · (intro w' hSw; (try dsimp only at hSw); go_simp; try with_reducible rfl)
      try simp only [Act.put, List.setIfInBounds_toArray, List.set_cons_zero, List.set_cons_succ]
      refine wpAnyH_done (by kernel_rfl) ?_ _
      have hb6 : Below w3.heap.size w3 w5 := (‹_ ∧ Below w3.heap.size w3 w5›).2
      go_wp2
      go_ret2
      exact ⟨_, ret_ad HC.out.symm, by rw [HL.out]; exact (ownE ho5 HLL.out (by omega)).mono hbw3.size, (by repeat' (first | (with_reducible exact Below.refl _ _) | (with_reducible assumption) | (with_reducible refine Base.via hb6 ?_) | (with_reducible refine Base.via hbw3 ?_) | (with_reducible refine Base.grow_alloc ?_ _) | (with_reducible refine Base.below_drewN ?_ _) | (with_reducible refine Below.drew ?_) | (with_reducible refine Below.setCell ?_ ?_ _) | go_size))⟩
    · go_simp
      refine hK.out _ _ (by (try dsimp only); exact HS _ (by repeat' (first | (with_reducible exact Below.refl _ _) | (with_reducible assumption) | (with_reducible refine Base.grow_alloc ?_ _) | (with_reducible refine Base.below_drewN ?_ _) | (with_reducible refine Below.drew ?_) | (with_reducible refine Below.setCell ?_ ?_ _) | go_size))) (fun hHeld => ?_)
      clear hK KK
      try simp only [Act.put, List.setIfInBounds_toArray, List.set_cons_zero, List.set_cons_succ]
      refine wpAnyH_ready (rs := [1]) (by kernel_rfl) (by simp) ?_
      refine AllReadyH.cons (o := ⟨some 29, _, _, _, _, _⟩) rfl (fun K hK => ?_) AllReadyH.nil
      go_simp
      (go_at_call 65; refine (HCP.out _ (hv3.below (by repeat' (first | (with_reducible exact Below.refl _ _) | (with_reducible assumption) | (with_reducible refine Base.grow_alloc ?_ _) | (with_reducible refine Base.below_drewN ?_ _) | (with_reducible refine Below.drew ?_) | (with_reducible refine Below.setCell ?_ ?_ _) | go_size)))).mono ?_; rintro e w4 ⟨g, cap, rfl, ho4, hb4⟩)
      refine hK.out _ _ (by (try dsimp only); (exact HS _ (by repeat' (first | (with_reducible exact Below.refl _ _) | (with_reducible assumption) | (with_reducible refine Base.via hb4 ?_) | (with_reducible refine Base.grow_alloc ?_ _) | (with_reducible refine Base.below_drewN ?_ _) | (with_reducible refine Below.drew ?_) | (with_reducible refine Below.setCell ?_ ?_ _) | go_size)))) (fun hHeld => ?_)
      clear hK K
      try simp only [Act.put, List.setIfInBounds_toArray, List.set_cons_zero, List.set_cons_succ]
      have hg4 := (ho4.lt g rfl).1
      have hz4 := hb4.size
      simp at hg4 hz4
      refine wpAnyH_ready (rs := [5]) (by kernel_rfl) (by simp) ?_
      refine AllReadyH.cons (o := ⟨some 33, _, _, _, _, _⟩) rfl (fun K hK => ?_) AllReadyH.nil
      go_simp
      (go_at_call 64; refine (HIN.out w3.heap.size g cap _ _ (by omega) (ownsRow_mono ho4 (by simp)) (fun h => by omega) ((hb4.block _ (by simp)).trans (heap_alloc_new _ _))).mono ?_; rintro e w5 ⟨g5, c5, rfl, ho5, hb5⟩)
      refine hK.out _ _ (by (try dsimp only); (exact HS _ ((show Below w3.heap.size w3 _ from (by repeat' (first | (with_reducible exact Below.refl _ _) | (with_reducible assumption) | (with_reducible refine Base.via hb4 ?_) | (with_reducible refine Base.grow_alloc ?_ _) | (with_reducible refine Base.below_drewN ?_ _) | (with_reducible refine Below.drew ?_) | (with_reducible refine Below.setCell ?_ ?_ _) | go_size))).trans hb5))) (fun hHeld => ?_)
      clear hK K
      try simp only [Act.put, List.setIfInBounds_toArray, List.set_cons_zero, List.set_cons_succ]
      refine wpAnyH_take (i := 6) (oi := ⟨some 4, _, _, _, _, _⟩) (v := ?_) rfl (by kernel_rfl) (by kernel_rfl) (by kernel_rfl) (fun _ _ _ h => h) (Or.inl ⟨by rfl, ?_⟩) (by assumption) ?_
      rotate_left
      · (intro w' hSw; (try dsimp only at hSw); go_simp; try with_reducible rfl)
      try simp only [Act.put, List.setIfInBounds_toArray, List.set_cons_zero, List.set_cons_succ]
      refine wpAnyH_take (i := 7) (oi := ⟨some 5, _, _, _, _, _⟩) (v := ?_) rfl (by kernel_rfl) (by kernel_rfl) (by kernel_rfl) (fun _ _ _ h => h) (Or.inl ⟨by rfl, ?_⟩) (by assumption) ?_
      rotate_left
      · (intro w' hSw; (try dsimp only at hSw); go_simp; try with_reducible rfl)
      try simp only [Act.put, List.setIfInBounds_toArray, List.set_cons_zero, List.set_cons_succ]
      refine wpAnyH_done (by kernel_rfl) ?_ _
      have hb6 : Below w3.heap.size w3 w5 := (‹_ ∧ Below w3.heap.size w3 w5›).2
      go_wp2
      go_ret2
      exact ⟨_, ret_ad HC.out.symm, by rw [HL.out]; exact (ownE ho5 HLL.out (by omega)).mono hbw3.size, (by repeat' (first | (with_reducible exact Below.refl _ _) | (with_reducible assumption) | (with_reducible refine Base.via hb6 ?_) | (with_reducible refine Base.via hbw3 ?_) | (with_reducible refine Base.grow_alloc ?_ _) | (with_reducible refine Base.below_drewN ?_ _) | (with_reducible refine Below.drew ?_) | (with_reducible refine Below.setCell ?_ ?_ _) | go_size))⟩
  · subst h4
    have HL := Lib.hid (show (adL 100 E e).length = 0 by rw [adL, hc]; rfl)
    have HC := Lib.hid hc
    have hs := okE_srt h1
    have HB := Lib.hid (fun (W : World) (hW : Sl W 5 (some ⟨b, off, none⟩) 100 c (f5 E)) => c_BinSearchE (some ⟨b, off, none⟩) 100 c E e W hW hs (by have := okE_le h1; omega))
    rw [h1] at HV
    rw [h2] at HI
    rw [h3] at HB
    clear hc h1 h2 h3 hs
    generalize lbE E e 100 = K at *
    generalize adL 100 E e = LI at *
    generalize adC 100 E e = CC at *
    obtain ⟨t, s, o, m, z⟩ := e
    simp only [est] at HI HB ⊢
    go_enter Try.func30, Try.ntmps30
    go_wp2_with fail
    refine (HV.out _ (hv.below (by repeat' (first | (with_reducible exact Below.refl _ _) | (with_reducible assumption) | (with_reducible refine Base.grow_alloc ?_ _) | (with_reducible refine Base.below_drewN ?_ _) | (with_reducible refine Below.drew ?_) | (with_reducible refine Below.setCell ?_ ?_ _) | go_size)))).mono ?_
    rintro e w1 ⟨rfl, hb1⟩
    have k0 : World.cell? w1 ⟨w.heap.size, 0, none⟩ = some (.int .i64 t) := ((hb1.cell (p := ⟨w.heap.size, 0, none⟩) (by first | (simp; done) | (simp; omega) | omega)).trans (by simp [go_sem]))
    have k1 : World.cell? w1 ⟨w.heap.size, 1, none⟩ = some (.string s) := ((hb1.cell (p := ⟨w.heap.size, 1, none⟩) (by first | (simp; done) | (simp; omega) | omega)).trans (by simp [go_sem]))
    have k2 : World.cell? w1 ⟨w.heap.size, 2, none⟩ = some (.string o) := ((hb1.cell (p := ⟨w.heap.size, 2, none⟩) (by first | (simp; done) | (simp; omega) | omega)).trans (by simp [go_sem]))
    have k3 : World.cell? w1 ⟨w.heap.size, 3, none⟩ = some (.int .i64 m) := ((hb1.cell (p := ⟨w.heap.size, 3, none⟩) (by first | (simp; done) | (simp; omega) | omega)).trans (by simp [go_sem]))
    have k4 : World.cell? w1 ⟨w.heap.size, 4, none⟩ = some (.bool z) := ((hb1.cell (p := ⟨w.heap.size, 4, none⟩) (by first | (simp; done) | (simp; omega) | omega)).trans (by simp [go_sem]))
    have hbw : Below w.heap.size w w1 := (by repeat' (first | (with_reducible exact Below.refl _ _) | (with_reducible assumption) | (with_reducible refine Base.via hb1 ?_) | (with_reducible refine Base.grow_alloc ?_ _) | (with_reducible refine Base.below_drewN ?_ _) | (with_reducible refine Below.drew ?_) | (with_reducible refine Below.setCell ?_ ?_ _) | go_size))
    have HK1 := Lib.hid (fun (W : World) (hW : Below w1.heap.size w1 W) => (⟨cell_call hW k0, cell_call hW k1, cell_call hW k2, cell_call hW k3, cell_call hW k4⟩ : _ ∧ _ ∧ _ ∧ _ ∧ _))
    go_wp2_with fail
    refine (HI.out _).mono ?_
    rintro e w2 ⟨rfl, hb2⟩
    obtain ⟨k0, k1, k2, k3, k4⟩ := HK1.out w2 hb2
    go_wp2_with fail
    refine (HB.out _ (hv.below (by repeat' (first | (with_reducible exact Below.refl _ _) | (with_reducible assumption) | (with_reducible refine Base.via hb2 ?_) | (with_reducible refine Base.via hbw ?_) | (with_reducible refine Base.grow_alloc ?_ _) | (with_reducible refine Base.below_drewN ?_ _) | (with_reducible refine Below.drew ?_) | (with_reducible refine Below.setCell ?_ ?_ _) | go_size)))).mono ?_
    rintro e w3 ⟨rfl, hb3⟩
    go_wp2_with fail
    go_ret2
    exact ⟨_, ret_ad HC.out.symm, OwnK.zero HL.out, (by repeat' (first | (with_reducible exact Below.refl _ _) | (with_reducible assumption) | (with_reducible refine Base.via hb3 ?_) | (with_reducible refine Base.via hb2 ?_) | (with_reducible refine Base.via hbw ?_) | (with_reducible refine Base.grow_alloc ?_ _) | (with_reducible refine Base.below_drewN ?_ _) | (with_reducible refine Below.drew ?_) | (with_reducible refine Below.setCell ?_ ?_ _) | go_size))⟩
  · have HL := Lib.hid (show (adL n E e).length = 0 by rw [adL, hc]; rfl)
    have HC := Lib.hid hc
    have hs := okE_srt h1
    have HB := Lib.hid (fun (W : World) (hW : Sl W 5 (some ⟨b, off, none⟩) n c (f5 E)) => c_BinSearchE (some ⟨b, off, none⟩) n c E e W hW hs (by have := okE_le h1; omega))
    rw [h1] at HV
    rw [h2] at HI
    rw [h3] at HB
    clear hc h1 h2 h3 hs
    generalize lbE E e n = K at *
    generalize adL n E e = LI at *
    generalize adC n E e = CC at *
    obtain ⟨t, s, o, m, z⟩ := e
    simp only [est] at HI HB ⊢
    go_enter Try.func30, Try.ntmps30
    go_wp2_with fail
    refine (HV.out _ (hv.below (by repeat' (first | (with_reducible exact Below.refl _ _) | (with_reducible assumption) | (with_reducible refine Base.grow_alloc ?_ _) | (with_reducible refine Base.below_drewN ?_ _) | (with_reducible refine Below.drew ?_) | (with_reducible refine Below.setCell ?_ ?_ _) | go_size)))).mono ?_
    rintro e w1 ⟨rfl, hb1⟩
    have k0 : World.cell? w1 ⟨w.heap.size, 0, none⟩ = some (.int .i64 t) := ((hb1.cell (p := ⟨w.heap.size, 0, none⟩) (by first | (simp; done) | (simp; omega) | omega)).trans (by simp [go_sem]))
    have k1 : World.cell? w1 ⟨w.heap.size, 1, none⟩ = some (.string s) := ((hb1.cell (p := ⟨w.heap.size, 1, none⟩) (by first | (simp; done) | (simp; omega) | omega)).trans (by simp [go_sem]))
    have k2 : World.cell? w1 ⟨w.heap.size, 2, none⟩ = some (.string o) := ((hb1.cell (p := ⟨w.heap.size, 2, none⟩) (by first | (simp; done) | (simp; omega) | omega)).trans (by simp [go_sem]))
    have k3 : World.cell? w1 ⟨w.heap.size, 3, none⟩ = some (.int .i64 m) := ((hb1.cell (p := ⟨w.heap.size, 3, none⟩) (by first | (simp; done) | (simp; omega) | omega)).trans (by simp [go_sem]))
    have k4 : World.cell? w1 ⟨w.heap.size, 4, none⟩ = some (.bool z) := ((hb1.cell (p := ⟨w.heap.size, 4, none⟩) (by first | (simp; done) | (simp; omega) | omega)).trans (by simp [go_sem]))
    have hbw : Below w.heap.size w w1 := (by repeat' (first | (with_reducible exact Below.refl _ _) | (with_reducible assumption) | (with_reducible refine Base.via hb1 ?_) | (with_reducible refine Base.grow_alloc ?_ _) | (with_reducible refine Base.below_drewN ?_ _) | (with_reducible refine Below.drew ?_) | (with_reducible refine Below.setCell ?_ ?_ _) | go_size))
    have HK1 := Lib.hid (fun (W : World) (hW : Below w1.heap.size w1 W) => (⟨cell_call hW k0, cell_call hW k1, cell_call hW k2, cell_call hW k3, cell_call hW k4⟩ : _ ∧ _ ∧ _ ∧ _ ∧ _))
    go_wp2_with fail
    refine (HI.out _).mono ?_
    rintro e w2 ⟨rfl, hb2⟩
    obtain ⟨k0, k1, k2, k3, k4⟩ := HK1.out w2 hb2
    go_wp2_with fail
    refine (HB.out _ (hv.below (by repeat' (first | (with_reducible exact Below.refl _ _) | (with_reducible assumption) | (with_reducible refine Base.via hb2 ?_) | (with_reducible refine Base.via hbw ?_) | (with_reducible refine Base.grow_alloc ?_ _) | (with_reducible refine Base.below_drewN ?_ _) | (with_reducible refine Below.drew ?_) | (with_reducible refine Below.setCell ?_ ?_ _) | go_size)))).mono ?_
    rintro e w3 ⟨rfl, hb3⟩
    go_wp2_with fail
    go_ret2
    exact ⟨_, ret_ad HC.out.symm, OwnK.zero HL.out, (by repeat' (first | (with_reducible exact Below.refl _ _) | (with_reducible assumption) | (with_reducible refine Base.via hb3 ?_) | (with_reducible refine Base.via hb2 ?_) | (with_reducible refine Base.via hbw ?_) | (with_reducible refine Base.grow_alloc ?_ _) | (with_reducible refine Base.below_drewN ?_ _) | (with_reducible refine Below.drew ?_) | (with_reducible refine Below.setCell ?_ ?_ _) | go_size))⟩
  · have HL := Lib.hid (show (adL n E e).length = 0 by rw [adL, hc]; rfl)
    have HC := Lib.hid hc
    rw [h1] at HV
    rw [h2] at HI
    clear hc h1 h2
    generalize adL n E e = LI at *
    generalize adC n E e = CC at *
    obtain ⟨t, s, o, m, z⟩ := e
    simp only [est] at HI ⊢
    go_enter Try.func30, Try.ntmps30
    go_wp2_with fail
    refine (HV.out _ (hv.below (by repeat' (first | (with_reducible exact Below.refl _ _) | (with_reducible assumption) | (with_reducible refine Base.grow_alloc ?_ _) | (with_reducible refine Base.below_drewN ?_ _) | (with_reducible refine Below.drew ?_) | (with_reducible refine Below.setCell ?_ ?_ _) | go_size)))).mono ?_
    rintro e w1 ⟨rfl, hb1⟩
    have k0 : World.cell? w1 ⟨w.heap.size, 0, none⟩ = some (.int .i64 t) := ((hb1.cell (p := ⟨w.heap.size, 0, none⟩) (by first | (simp; done) | (simp; omega) | omega)).trans (by simp [go_sem]))
    have k1 : World.cell? w1 ⟨w.heap.size, 1, none⟩ = some (.string s) := ((hb1.cell (p := ⟨w.heap.size, 1, none⟩) (by first | (simp; done) | (simp; omega) | omega)).trans (by simp [go_sem]))
    have k2 : World.cell? w1 ⟨w.heap.size, 2, none⟩ = some (.string o) := ((hb1.cell (p := ⟨w.heap.size, 2, none⟩) (by first | (simp; done) | (simp; omega) | omega)).trans (by simp [go_sem]))
    have k3 : World.cell? w1 ⟨w.heap.size, 3, none⟩ = some (.int .i64 m) := ((hb1.cell (p := ⟨w.heap.size, 3, none⟩) (by first | (simp; done) | (simp; omega) | omega)).trans (by simp [go_sem]))
    have k4 : World.cell? w1 ⟨w.heap.size, 4, none⟩ = some (.bool z) := ((hb1.cell (p := ⟨w.heap.size, 4, none⟩) (by first | (simp; done) | (simp; omega) | omega)).trans (by simp [go_sem]))
    have hbw : Below w.heap.size w w1 := (by repeat' (first | (with_reducible exact Below.refl _ _) | (with_reducible assumption) | (with_reducible refine Base.via hb1 ?_) | (with_reducible refine Base.grow_alloc ?_ _) | (with_reducible refine Base.below_drewN ?_ _) | (with_reducible refine Below.drew ?_) | (with_reducible refine Below.setCell ?_ ?_ _) | go_size))
    have HK1 := Lib.hid (fun (W : World) (hW : Below w1.heap.size w1 W) => (⟨cell_call hW k0, cell_call hW k1, cell_call hW k2, cell_call hW k3, cell_call hW k4⟩ : _ ∧ _ ∧ _ ∧ _ ∧ _))
    go_wp2_with fail
    refine (HI.out _).mono ?_
    rintro e w2 ⟨rfl, hb2⟩
    obtain ⟨k0, k1, k2, k3, k4⟩ := HK1.out w2 hb2
    go_wp2_with fail
    go_ret2
    exact ⟨_, ret_ad HC.out.symm, OwnK.zero HL.out, (by repeat' (first | (with_reducible exact Below.refl _ _) | (with_reducible assumption) | (with_reducible refine Base.via hb2 ?_) | (with_reducible refine Base.via hbw ?_) | (with_reducible refine Base.grow_alloc ?_ _) | (with_reducible refine Base.below_drewN ?_ _) | (with_reducible refine Below.drew ?_) | (with_reducible refine Below.setCell ?_ ?_ _) | go_size))⟩
  · have HL := Lib.hid (show (adL n E e).length = 0 by rw [adL, hc]; rfl)
    have HC := Lib.hid hc
    rw [h1] at HV
    clear hc h1
    generalize adL n E e = LI at *
    generalize adC n E e = CC at *
    obtain ⟨t, s, o, m, z⟩ := e
    simp only [est] at HI ⊢
    go_enter Try.func30, Try.ntmps30
    go_wp2_with fail
    refine (HV.out _ (hv.below (by repeat' (first | (with_reducible exact Below.refl _ _) | (with_reducible assumption) | (with_reducible refine Base.grow_alloc ?_ _) | (with_reducible refine Base.below_drewN ?_ _) | (with_reducible refine Below.drew ?_) | (with_reducible refine Below.setCell ?_ ?_ _) | go_size)))).mono ?_
    rintro e w1 ⟨rfl, hb1⟩
    have k0 : World.cell? w1 ⟨w.heap.size, 0, none⟩ = some (.int .i64 t) := ((hb1.cell (p := ⟨w.heap.size, 0, none⟩) (by first | (simp; done) | (simp; omega) | omega)).trans (by simp [go_sem]))
    have k1 : World.cell? w1 ⟨w.heap.size, 1, none⟩ = some (.string s) := ((hb1.cell (p := ⟨w.heap.size, 1, none⟩) (by first | (simp; done) | (simp; omega) | omega)).trans (by simp [go_sem]))
    have k2 : World.cell? w1 ⟨w.heap.size, 2, none⟩ = some (.string o) := ((hb1.cell (p := ⟨w.heap.size, 2, none⟩) (by first | (simp; done) | (simp; omega) | omega)).trans (by simp [go_sem]))
    have k3 : World.cell? w1 ⟨w.heap.size, 3, none⟩ = some (.int .i64 m) := ((hb1.cell (p := ⟨w.heap.size, 3, none⟩) (by first | (simp; done) | (simp; omega) | omega)).trans (by simp [go_sem]))
    have k4 : World.cell? w1 ⟨w.heap.size, 4, none⟩ = some (.bool z) := ((hb1.cell (p := ⟨w.heap.size, 4, none⟩) (by first | (simp; done) | (simp; omega) | omega)).trans (by simp [go_sem]))
    have hbw : Below w.heap.size w w1 := (by repeat' (first | (with_reducible exact Below.refl _ _) | (with_reducible assumption) | (with_reducible refine Base.via hb1 ?_) | (with_reducible refine Base.grow_alloc ?_ _) | (with_reducible refine Base.below_drewN ?_ _) | (with_reducible refine Below.drew ?_) | (with_reducible refine Below.setCell ?_ ?_ _) | go_size))
    go_wp2_with fail
    go_ret2
    exact ⟨_, ret_ad HC.out.symm, OwnK.zero HL.out, (by repeat' (first | (with_reducible exact Below.refl _ _) | (with_reducible assumption) | (with_reducible refine Base.via hbw ?_) | (with_reducible refine Base.grow_alloc ?_ _) | (with_reducible refine Base.below_drewN ?_ _) | (with_reducible refine Below.drew ?_) | (with_reducible refine Below.setCell ?_ ?_ _) | go_size))⟩
set_option maxHeartbeats 3200000 in
theorem c_specAddEstimate (b off n c : Nat) (E : Nat → E5) (e : E5) (w : World) (hv : Sl w 5 (some ⟨b, off, none⟩) n c (f5 E)) :
    Calls Try.prog 28 #[.slice (some ⟨b, off, none⟩) n c, est e] w fun r w' => ∃ u, r = .returned (.tuple #[u, .int .i64 (adC n E e)]) ∧ OwnK w' w.heap.size 51 5 u (adL n E e).length (f5 (leE (adL n E e))) ∧ Below w.heap.size w w' := by
  have hn := hv.le
  have HV := Lib.hid (fun (W : World) (hW : Sl W 5 (some ⟨b, off, none⟩) n c (f5 E)) => c_l06Ok (some ⟨b, off, none⟩) n c E W hW)
  have HI := Lib.hid (fun (W : World) (b' : Nat) => c_l06One e b' 0 W)
  rcases ad_cases n E e with ⟨h1, h2, h3, h4, hc⟩ | ⟨h1, h2, h3, h4, hc⟩ | ⟨h1, h2, h3, hc⟩ | ⟨h1, h2, hc⟩ | ⟨h1, hc⟩
  · have HC := Lib.hid hc
    have hs := okE_srt h1
    have hK := (lbE_spec e hs).1
    have HL := Lib.hid (show adL n E e = insL (lsE n E) (lbE E e n) e by rw [adL, if_pos hc])
    have HLL := Lib.hid (show (insL (lsE n E) (lbE E e n) e).length = n + 1 by rw [insL_len (by rw [lsE_len]; exact hK), lsE_len])
    have HPU := Lib.hid (fun (W : World) (hW : Sl W 5 (some ⟨b, off, none⟩) n c (f5 E)) => c_l06Put b off n c E e W hW hs h3 (by omega))
    have h100 : decide ((100 : Int) ≤ (n : Int)) = false := by simp; omega
    have HF := Lib.hid (fun (W : World) (b' : Nat) (hW : Sl W 5 (some ⟨b, off, none⟩) n c (f5 E)) => c_l06Find (some ⟨b, off, none⟩) n c E e b' 0 W hW hs)
    rw [h1] at HV
    rw [h2] at HI
    rw [h3] at HF
    simp only [Bool.false_eq_true, if_false] at HF
    clear hc h1 h2 h3 hs
    generalize insL (lsE n E) (lbE E e n) e = LI at *
    generalize adC n E e = CC at *
    obtain ⟨t, s, o, m, z⟩ := e
    dsimp only at HI HF
    simp only [est] at HPU ⊢
    go_enter Try.func28, Try.ntmps28
    go_wp2_with fail
    refine (HV.out _ (hv.below (by repeat' (first | (with_reducible exact Below.refl _ _) | (with_reducible assumption) | (with_reducible refine Base.grow_alloc ?_ _) | (with_reducible refine Base.below_drewN ?_ _) | (with_reducible refine Below.drew ?_) | (with_reducible refine Below.setCell ?_ ?_ _) | go_size)))).mono ?_
    rintro e w1 ⟨rfl, hb1⟩
    have k0 : World.cell? w1 ⟨w.heap.size, 0, none⟩ = some (.int .i64 t) := ((hb1.cell (p := ⟨w.heap.size, 0, none⟩) (by first | (simp; done) | (simp; omega) | omega)).trans (by simp [go_sem]))
    have k1 : World.cell? w1 ⟨w.heap.size, 1, none⟩ = some (.string s) := ((hb1.cell (p := ⟨w.heap.size, 1, none⟩) (by first | (simp; done) | (simp; omega) | omega)).trans (by simp [go_sem]))
    have k2 : World.cell? w1 ⟨w.heap.size, 2, none⟩ = some (.string o) := ((hb1.cell (p := ⟨w.heap.size, 2, none⟩) (by first | (simp; done) | (simp; omega) | omega)).trans (by simp [go_sem]))
    have k3 : World.cell? w1 ⟨w.heap.size, 3, none⟩ = some (.int .i64 m) := ((hb1.cell (p := ⟨w.heap.size, 3, none⟩) (by first | (simp; done) | (simp; omega) | omega)).trans (by simp [go_sem]))
    have k4 : World.cell? w1 ⟨w.heap.size, 4, none⟩ = some (.bool z) := ((hb1.cell (p := ⟨w.heap.size, 4, none⟩) (by first | (simp; done) | (simp; omega) | omega)).trans (by simp [go_sem]))
    have hbw : Below w.heap.size w w1 := (by repeat' (first | (with_reducible exact Below.refl _ _) | (with_reducible assumption) | (with_reducible refine Base.via hb1 ?_) | (with_reducible refine Base.grow_alloc ?_ _) | (with_reducible refine Base.below_drewN ?_ _) | (with_reducible refine Below.drew ?_) | (with_reducible refine Below.setCell ?_ ?_ _) | go_size))
    have HK1 := Lib.hid (fun (W : World) (hW : Below w1.heap.size w1 W) => (⟨cell_call hW k0, cell_call hW k1, cell_call hW k2, cell_call hW k3, cell_call hW k4⟩ : _ ∧ _ ∧ _ ∧ _ ∧ _))
    go_wp2_with fail
    refine (HI.out _ _ k0 k1 k2 k3).mono ?_
    rintro e w2 ⟨rfl, hb2⟩
    obtain ⟨k0, k1, k2, k3, k4⟩ := HK1.out w2 hb2
    go_wp2_with fail
    refine (HF.out _ _ (hv.below (by repeat' (first | (with_reducible exact Below.refl _ _) | (with_reducible assumption) | (with_reducible refine Base.via hb2 ?_) | (with_reducible refine Base.via hbw ?_) | (with_reducible refine Base.grow_alloc ?_ _) | (with_reducible refine Base.below_drewN ?_ _) | (with_reducible refine Below.drew ?_) | (with_reducible refine Below.setCell ?_ ?_ _) | go_size))) k0 k1 k2).mono ?_
    rintro e w3 ⟨rfl, hb3⟩
    have hbw3 : Below w.heap.size w w3 := (by repeat' (first | (with_reducible exact Below.refl _ _) | (with_reducible assumption) | (with_reducible refine Base.via hb3 ?_) | (with_reducible refine Base.via hb2 ?_) | (with_reducible refine Base.via hbw ?_) | (with_reducible refine Base.grow_alloc ?_ _) | (with_reducible refine Base.below_drewN ?_ _) | (with_reducible refine Below.drew ?_) | (with_reducible refine Below.setCell ?_ ?_ _) | go_size))
    obtain ⟨k0, k1, k2, k3, k4⟩ := HK1.out w3 (by repeat' (first | (with_reducible exact Below.refl _ _) | (with_reducible assumption) | (with_reducible refine Base.via hb3 ?_) | (with_reducible refine Base.via hb2 ?_) | (with_reducible refine Base.grow_alloc ?_ _) | (with_reducible refine Base.below_drewN ?_ _) | (with_reducible refine Below.drew ?_) | (with_reducible refine Below.setCell ?_ ?_ _) | go_size))
    go_wp2_with fail
    refine (HPU.out _ (hv.below hbw3)).mono ?_
    rintro e w4 ⟨g, gc, rfl, ho4, hb4⟩
    go_wp2_with fail
    go_ret2
    exact ⟨_, ret_ad HC.out.symm, by rw [HL.out]; exact (ownE ho4 HLL.out (by omega)).mono hbw3.size, (by repeat' (first | (with_reducible exact Below.refl _ _) | (with_reducible assumption) | (with_reducible refine Base.via hb4 ?_) | (with_reducible refine Base.via hbw3 ?_) | (with_reducible refine Base.grow_alloc ?_ _) | (with_reducible refine Base.below_drewN ?_ _) | (with_reducible refine Below.drew ?_) | (with_reducible refine Below.setCell ?_ ?_ _) | go_size))⟩
  · subst h4
    have HC := Lib.hid hc
    have HL := Lib.hid (show (adL 100 E e).length = 0 by rw [adL, hc]; rfl)
    have hs := okE_srt h1
    have HF := Lib.hid (fun (W : World) (b' : Nat) (hW : Sl W 5 (some ⟨b, off, none⟩) 100 c (f5 E)) => c_l06Find (some ⟨b, off, none⟩) 100 c E e b' 0 W hW hs)
    rw [h1] at HV
    rw [h2] at HI
    rw [h3] at HF
    simp only [Bool.false_eq_true, if_false] at HF
    clear hc h1 h2 h3 hs
    generalize adL 100 E e = LI at *
    generalize adC 100 E e = CC at *
    obtain ⟨t, s, o, m, z⟩ := e
    dsimp only at HI HF
    simp only [est]
    go_enter Try.func28, Try.ntmps28
    go_wp2_with fail
    refine (HV.out _ (hv.below (by repeat' (first | (with_reducible exact Below.refl _ _) | (with_reducible assumption) | (with_reducible refine Base.grow_alloc ?_ _) | (with_reducible refine Base.below_drewN ?_ _) | (with_reducible refine Below.drew ?_) | (with_reducible refine Below.setCell ?_ ?_ _) | go_size)))).mono ?_
    rintro e w1 ⟨rfl, hb1⟩
    have k0 : World.cell? w1 ⟨w.heap.size, 0, none⟩ = some (.int .i64 t) := ((hb1.cell (p := ⟨w.heap.size, 0, none⟩) (by first | (simp; done) | (simp; omega) | omega)).trans (by simp [go_sem]))
    have k1 : World.cell? w1 ⟨w.heap.size, 1, none⟩ = some (.string s) := ((hb1.cell (p := ⟨w.heap.size, 1, none⟩) (by first | (simp; done) | (simp; omega) | omega)).trans (by simp [go_sem]))
    have k2 : World.cell? w1 ⟨w.heap.size, 2, none⟩ = some (.string o) := ((hb1.cell (p := ⟨w.heap.size, 2, none⟩) (by first | (simp; done) | (simp; omega) | omega)).trans (by simp [go_sem]))
    have k3 : World.cell? w1 ⟨w.heap.size, 3, none⟩ = some (.int .i64 m) := ((hb1.cell (p := ⟨w.heap.size, 3, none⟩) (by first | (simp; done) | (simp; omega) | omega)).trans (by simp [go_sem]))
    have k4 : World.cell? w1 ⟨w.heap.size, 4, none⟩ = some (.bool z) := ((hb1.cell (p := ⟨w.heap.size, 4, none⟩) (by first | (simp; done) | (simp; omega) | omega)).trans (by simp [go_sem]))
    have hbw : Below w.heap.size w w1 := (by repeat' (first | (with_reducible exact Below.refl _ _) | (with_reducible assumption) | (with_reducible refine Base.via hb1 ?_) | (with_reducible refine Base.grow_alloc ?_ _) | (with_reducible refine Base.below_drewN ?_ _) | (with_reducible refine Below.drew ?_) | (with_reducible refine Below.setCell ?_ ?_ _) | go_size))
    have HK1 := Lib.hid (fun (W : World) (hW : Below w1.heap.size w1 W) => (⟨cell_call hW k0, cell_call hW k1, cell_call hW k2, cell_call hW k3, cell_call hW k4⟩ : _ ∧ _ ∧ _ ∧ _ ∧ _))
    go_wp2_with fail
    refine (HI.out _ _ k0 k1 k2 k3).mono ?_
    rintro e w2 ⟨rfl, hb2⟩
    obtain ⟨k0, k1, k2, k3, k4⟩ := HK1.out w2 hb2
    go_wp2_with fail
    refine (HF.out _ _ (hv.below (by repeat' (first | (with_reducible exact Below.refl _ _) | (with_reducible assumption) | (with_reducible refine Base.via hb2 ?_) | (with_reducible refine Base.via hbw ?_) | (with_reducible refine Base.grow_alloc ?_ _) | (with_reducible refine Base.below_drewN ?_ _) | (with_reducible refine Below.drew ?_) | (with_reducible refine Below.setCell ?_ ?_ _) | go_size))) k0 k1 k2).mono ?_
    rintro e w3 ⟨rfl, hb3⟩
    go_wp2_with fail
    go_ret2
    exact ⟨_, ret_ad HC.out.symm, OwnK.zero HL.out, (by repeat' (first | (with_reducible exact Below.refl _ _) | (with_reducible assumption) | (with_reducible refine Base.via hb3 ?_) | (with_reducible refine Base.via hb2 ?_) | (with_reducible refine Base.via hbw ?_) | (with_reducible refine Base.grow_alloc ?_ _) | (with_reducible refine Base.below_drewN ?_ _) | (with_reducible refine Below.drew ?_) | (with_reducible refine Below.setCell ?_ ?_ _) | go_size))⟩
  · have HC := Lib.hid hc
    have HL := Lib.hid (show (adL n E e).length = 0 by rw [adL, hc]; rfl)
    have hs := okE_srt h1
    have hK0 : (0 : Int) ≤ (lbE E e n : Int) := by omega
    have HF := Lib.hid (fun (W : World) (b' : Nat) (hW : Sl W 5 (some ⟨b, off, none⟩) n c (f5 E)) => c_l06Find (some ⟨b, off, none⟩) n c E e b' 0 W hW hs)
    rw [h1] at HV
    rw [h2] at HI
    rw [h3] at HF
    simp only [if_true] at HF
    clear hc h1 h2 h3 hs
    generalize adL n E e = LI at *
    generalize adC n E e = CC at *
    generalize lbE E e n = K at *
    obtain ⟨t, s, o, m, z⟩ := e
    dsimp only at HI HF
    simp only [est]
    go_enter Try.func28, Try.ntmps28
    go_wp2_with fail
    refine (HV.out _ (hv.below (by repeat' (first | (with_reducible exact Below.refl _ _) | (with_reducible assumption) | (with_reducible refine Base.grow_alloc ?_ _) | (with_reducible refine Base.below_drewN ?_ _) | (with_reducible refine Below.drew ?_) | (with_reducible refine Below.setCell ?_ ?_ _) | go_size)))).mono ?_
    rintro e w1 ⟨rfl, hb1⟩
    have k0 : World.cell? w1 ⟨w.heap.size, 0, none⟩ = some (.int .i64 t) := ((hb1.cell (p := ⟨w.heap.size, 0, none⟩) (by first | (simp; done) | (simp; omega) | omega)).trans (by simp [go_sem]))
    have k1 : World.cell? w1 ⟨w.heap.size, 1, none⟩ = some (.string s) := ((hb1.cell (p := ⟨w.heap.size, 1, none⟩) (by first | (simp; done) | (simp; omega) | omega)).trans (by simp [go_sem]))
    have k2 : World.cell? w1 ⟨w.heap.size, 2, none⟩ = some (.string o) := ((hb1.cell (p := ⟨w.heap.size, 2, none⟩) (by first | (simp; done) | (simp; omega) | omega)).trans (by simp [go_sem]))
    have k3 : World.cell? w1 ⟨w.heap.size, 3, none⟩ = some (.int .i64 m) := ((hb1.cell (p := ⟨w.heap.size, 3, none⟩) (by first | (simp; done) | (simp; omega) | omega)).trans (by simp [go_sem]))
    have k4 : World.cell? w1 ⟨w.heap.size, 4, none⟩ = some (.bool z) := ((hb1.cell (p := ⟨w.heap.size, 4, none⟩) (by first | (simp; done) | (simp; omega) | omega)).trans (by simp [go_sem]))
    have hbw : Below w.heap.size w w1 := (by repeat' (first | (with_reducible exact Below.refl _ _) | (with_reducible assumption) | (with_reducible refine Base.via hb1 ?_) | (with_reducible refine Base.grow_alloc ?_ _) | (with_reducible refine Base.below_drewN ?_ _) | (with_reducible refine Below.drew ?_) | (with_reducible refine Below.setCell ?_ ?_ _) | go_size))
    have HK1 := Lib.hid (fun (W : World) (hW : Below w1.heap.size w1 W) => (⟨cell_call hW k0, cell_call hW k1, cell_call hW k2, cell_call hW k3, cell_call hW k4⟩ : _ ∧ _ ∧ _ ∧ _ ∧ _))
    go_wp2_with fail
    refine (HI.out _ _ k0 k1 k2 k3).mono ?_
    rintro e w2 ⟨rfl, hb2⟩
    obtain ⟨k0, k1, k2, k3, k4⟩ := HK1.out w2 hb2
    go_wp2_with fail
    refine (HF.out _ _ (hv.below (by repeat' (first | (with_reducible exact Below.refl _ _) | (with_reducible assumption) | (with_reducible refine Base.via hb2 ?_) | (with_reducible refine Base.via hbw ?_) | (with_reducible refine Base.grow_alloc ?_ _) | (with_reducible refine Base.below_drewN ?_ _) | (with_reducible refine Below.drew ?_) | (with_reducible refine Below.setCell ?_ ?_ _) | go_size))) k0 k1 k2).mono ?_
    rintro e w3 ⟨rfl, hb3⟩
    go_wp2_with fail
    go_ret2
    exact ⟨_, ret_ad HC.out.symm, OwnK.zero HL.out, (by repeat' (first | (with_reducible exact Below.refl _ _) | (with_reducible assumption) | (with_reducible refine Base.via hb3 ?_) | (with_reducible refine Base.via hb2 ?_) | (with_reducible refine Base.via hbw ?_) | (with_reducible refine Base.grow_alloc ?_ _) | (with_reducible refine Base.below_drewN ?_ _) | (with_reducible refine Below.drew ?_) | (with_reducible refine Below.setCell ?_ ?_ _) | go_size))⟩
  · have HC := Lib.hid hc
    have HL := Lib.hid (show (adL n E e).length = 0 by rw [adL, hc]; rfl)
    rw [h1] at HV
    rw [h2] at HI
    clear hc h1 h2
    generalize adL n E e = LI at *
    generalize adC n E e = CC at *
    obtain ⟨t, s, o, m, z⟩ := e
    dsimp only at HI
    simp only [est]
    go_enter Try.func28, Try.ntmps28
    go_wp2_with fail
    refine (HV.out _ (hv.below (by repeat' (first | (with_reducible exact Below.refl _ _) | (with_reducible assumption) | (with_reducible refine Base.grow_alloc ?_ _) | (with_reducible refine Base.below_drewN ?_ _) | (with_reducible refine Below.drew ?_) | (with_reducible refine Below.setCell ?_ ?_ _) | go_size)))).mono ?_
    rintro e w1 ⟨rfl, hb1⟩
    have k0 : World.cell? w1 ⟨w.heap.size, 0, none⟩ = some (.int .i64 t) := ((hb1.cell (p := ⟨w.heap.size, 0, none⟩) (by first | (simp; done) | (simp; omega) | omega)).trans (by simp [go_sem]))
    have k1 : World.cell? w1 ⟨w.heap.size, 1, none⟩ = some (.string s) := ((hb1.cell (p := ⟨w.heap.size, 1, none⟩) (by first | (simp; done) | (simp; omega) | omega)).trans (by simp [go_sem]))
    have k2 : World.cell? w1 ⟨w.heap.size, 2, none⟩ = some (.string o) := ((hb1.cell (p := ⟨w.heap.size, 2, none⟩) (by first | (simp; done) | (simp; omega) | omega)).trans (by simp [go_sem]))
    have k3 : World.cell? w1 ⟨w.heap.size, 3, none⟩ = some (.int .i64 m) := ((hb1.cell (p := ⟨w.heap.size, 3, none⟩) (by first | (simp; done) | (simp; omega) | omega)).trans (by simp [go_sem]))
    have k4 : World.cell? w1 ⟨w.heap.size, 4, none⟩ = some (.bool z) := ((hb1.cell (p := ⟨w.heap.size, 4, none⟩) (by first | (simp; done) | (simp; omega) | omega)).trans (by simp [go_sem]))
    have hbw : Below w.heap.size w w1 := (by repeat' (first | (with_reducible exact Below.refl _ _) | (with_reducible assumption) | (with_reducible refine Base.via hb1 ?_) | (with_reducible refine Base.grow_alloc ?_ _) | (with_reducible refine Base.below_drewN ?_ _) | (with_reducible refine Below.drew ?_) | (with_reducible refine Below.setCell ?_ ?_ _) | go_size))
    have HK1 := Lib.hid (fun (W : World) (hW : Below w1.heap.size w1 W) => (⟨cell_call hW k0, cell_call hW k1, cell_call hW k2, cell_call hW k3, cell_call hW k4⟩ : _ ∧ _ ∧ _ ∧ _ ∧ _))
    go_wp2_with fail
    refine (HI.out _ _ k0 k1 k2 k3).mono ?_
    rintro e w2 ⟨rfl, hb2⟩
    obtain ⟨k0, k1, k2, k3, k4⟩ := HK1.out w2 hb2
    go_wp2_with fail
    go_ret2
    exact ⟨_, ret_ad HC.out.symm, OwnK.zero HL.out, (by repeat' (first | (with_reducible exact Below.refl _ _) | (with_reducible assumption) | (with_reducible refine Base.via hb2 ?_) | (with_reducible refine Base.via hbw ?_) | (with_reducible refine Base.grow_alloc ?_ _) | (with_reducible refine Base.below_drewN ?_ _) | (with_reducible refine Below.drew ?_) | (with_reducible refine Below.setCell ?_ ?_ _) | go_size))⟩
  · have HC := Lib.hid hc
    have HL := Lib.hid (show (adL n E e).length = 0 by rw [adL, hc]; rfl)
    rw [h1] at HV
    clear hc h1
    generalize adL n E e = LI at *
    generalize adC n E e = CC at *
    obtain ⟨t, s, o, m, z⟩ := e
    dsimp only at HI
    simp only [est]
    go_enter Try.func28, Try.ntmps28
    go_wp2_with fail
    refine (HV.out _ (hv.below (by repeat' (first | (with_reducible exact Below.refl _ _) | (with_reducible assumption) | (with_reducible refine Base.grow_alloc ?_ _) | (with_reducible refine Base.below_drewN ?_ _) | (with_reducible refine Below.drew ?_) | (with_reducible refine Below.setCell ?_ ?_ _) | go_size)))).mono ?_
    rintro e w1 ⟨rfl, hb1⟩
    have k0 : World.cell? w1 ⟨w.heap.size, 0, none⟩ = some (.int .i64 t) := ((hb1.cell (p := ⟨w.heap.size, 0, none⟩) (by first | (simp; done) | (simp; omega) | omega)).trans (by simp [go_sem]))
    have k1 : World.cell? w1 ⟨w.heap.size, 1, none⟩ = some (.string s) := ((hb1.cell (p := ⟨w.heap.size, 1, none⟩) (by first | (simp; done) | (simp; omega) | omega)).trans (by simp [go_sem]))
    have k2 : World.cell? w1 ⟨w.heap.size, 2, none⟩ = some (.string o) := ((hb1.cell (p := ⟨w.heap.size, 2, none⟩) (by first | (simp; done) | (simp; omega) | omega)).trans (by simp [go_sem]))
    have k3 : World.cell? w1 ⟨w.heap.size, 3, none⟩ = some (.int .i64 m) := ((hb1.cell (p := ⟨w.heap.size, 3, none⟩) (by first | (simp; done) | (simp; omega) | omega)).trans (by simp [go_sem]))
    have k4 : World.cell? w1 ⟨w.heap.size, 4, none⟩ = some (.bool z) := ((hb1.cell (p := ⟨w.heap.size, 4, none⟩) (by first | (simp; done) | (simp; omega) | omega)).trans (by simp [go_sem]))
    have hbw : Below w.heap.size w w1 := (by repeat' (first | (with_reducible exact Below.refl _ _) | (with_reducible assumption) | (with_reducible refine Base.via hb1 ?_) | (with_reducible refine Base.grow_alloc ?_ _) | (with_reducible refine Base.below_drewN ?_ _) | (with_reducible refine Below.drew ?_) | (with_reducible refine Below.setCell ?_ ?_ _) | go_size))
    go_wp2_with fail
    go_ret2
    exact ⟨_, ret_ad HC.out.symm, OwnK.zero HL.out, (by repeat' (first | (with_reducible exact Below.refl _ _) | (with_reducible assumption) | (with_reducible refine Base.via hbw ?_) | (with_reducible refine Base.grow_alloc ?_ _) | (with_reducible refine Base.below_drewN ?_ _) | (with_reducible refine Below.drew ?_) | (with_reducible refine Below.setCell ?_ ?_ _) | go_size))⟩
end Go.Proofs.Ythojfmlnnclghaa.AdE
