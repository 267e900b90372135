/- Estimates: a copy of a list; slices.BinarySearchFunc in a sorted list. -/
import Derived.Test.YthojfmlnnclghaaInsE
import Derived.StillTailTactics
import Derived.BigQuiet
import Derived.Deep.QuietTactic
namespace Go.Proofs.Ythojfmlnnclghaa.BsE
set_option linter.unusedVariables false
set_option linter.unusedSimpArgs false
set_option maxRecDepth 8000
open Go.RowKit Go.Shelf Plain Num View Est Name Es1 Cmp OkE ChoE SrE CpK InsE

theorem lsE_succ (n : Nat) (E : Nat → E5) : lsE (n + 1) E = lsE n E ++ [E n] := by simp [lsE, List.range_succ]
theorem cellF_E (n : Nat) (E : Nat → E5) : cellF 5 n (f5 E) = cellE (lsE n E) := by
  induction n with
  | zero => rfl
  | succ n ih =>
    rw [← cellF_succ, ih, lsE_succ, cellE_app, cellE_one]
    rfl
theorem ret_t {v : Value} {a b : Bool} (h : a = b) : Ending.returned (.tuple #[v, .bool a]) = Ending.returned (.tuple #[v, .bool b]) := by rw [h]
theorem c_copyOfE (ad : Addr) (n c : Nat) (E : Nat → E5) (w : World) (hv : Sl w 5 (some ad) n c (f5 E)) :
    Calls Try.prog 65 #[.slice (some ad) n c] w fun e w' => ∃ g cap, e = .returned (.slice (some ⟨g, 0, none⟩) n cap) ∧ w'.ownsRow w.heap.size 51 5 (.slice (some ⟨g, 0, none⟩) n cap) n (cellE (lsE n E)) ∧ Below w.heap.size w w' := by
  have hn := hv.le
  obtain ⟨i0, hi0, hz0, hz1, hz2⟩ := info_parts infoEst
  have ho : (w.alloc (.cells #[] 51)).ownsRow w.heap.size 51 5 (.slice (some ⟨w.heap.size, 0, none⟩) 0 0) 0 [] := World.ownsRow_made _ _ _ (by omega) (by simp [maxLen]) rfl
  have HO := Lib.hid ho
  clear ho
  have HN := Lib.hid (hv.below (w' := w.alloc (.cells #[] 51)) (by repeat' (first | (with_reducible exact Below.refl _ _) | (with_reducible assumption) | (with_reducible refine Base.grow_alloc ?_ _) | (with_reducible refine Base.below_drewN ?_ _) | (with_reducible refine Below.drew ?_) | (with_reducible refine Below.setCell ?_ ?_ _) | go_size))).news
  go_enter Try.func65, Try.ntmps65
  go_wp2_with (at_builtin; refine wpList_append_own _ rfl _ _ 27 rfl (w.heap.size) 51 i0 _ 5 56 Try.underlying27 hi0 hz0 hz1 hz2 rfl (by decide) _ _ _ rfl HO.out ad n c (cellF 5 n (f5 E)) rfl (cellF_len _ _ _) HN.out (by rw [cellF_E]; exact one_E _) (by simp only [maxLen]; omega) (by omega) (by simp) ?_)
  intro v' w1 hown' hgrow hnil
  have hb1 : Below w.heap.size w w1 := own_grow (by repeat' (first | (with_reducible exact Below.refl _ _) | (with_reducible assumption) | (with_reducible refine Base.grow_alloc ?_ _) | (with_reducible refine Base.below_drewN ?_ _) | (with_reducible refine Below.drew ?_) | (with_reducible refine Below.setCell ?_ ?_ _) | go_size)) HO.out (Nat.le_refl _) hgrow
  have hown2 : w1.ownsRow w.heap.size 51 5 v' n (cellE (lsE n E)) := ownsRow_cast hown' (by omega) (by rw [cellF_E])
  obtain ⟨g2, c2, hv2, _, _, _, _⟩ := own_form hown2 (by simpa using hnil)
  have HO2 := Lib.hid hown2
  clear hown' hown2 hgrow hnil
  subst hv2
  go_wp2
  go_ret
  exact ⟨g2, c2, rfl, HO2.out, hb1⟩
set_option maxHeartbeats 3200000 in
theorem c_BinSearchE (A : Option Addr) (n c : Nat) (E : Nat → E5) (e : E5) (w : World) (hv : Sl w 5 A n c (f5 E)) (hs : Srt n E) (hn : n ≤ 1000) :
    Calls Try.prog 62 #[.slice A n c, est e, .func (.func 63) #[] #[]] w fun r w' => r = .returned (.tuple #[.int .i64 (lbE E e n : Int), .bool (fdE n E e)]) ∧ Below w.heap.size w w' := by
  have hlb := lbE_spec e hs
  obtain ⟨K, hK⟩ : ∃ K, lbE E e n = K := ⟨_, rfl⟩
  have HFD : Hid (fdE n E e = (decide (K < n) && keq (E K) e)) := Lib.hid (by rw [fdE, hK])
  have hKn := hlb.1
  have HLT := Lib.hid hlb.2.1
  have HGE := Lib.hid hlb.2.2
  rw [hK] at hKn HLT HGE ⊢
  generalize fdE n E e = F at *
  clear hlb hK hs
  have HCM := Lib.hid (fun (x : E5) (W : World) => c_compareEstimates x e W)
  obtain ⟨t, s, o, m, z⟩ := e
  simp only [est] at HCM ⊢
  go_enter Try.func62, Try.ntmps62
  go_wp2
  obtain ⟨wb, hwb⟩ : ∃ wb : World, wb = w.alloc (.cells #[.int .i64 t, .string s, .string o, .int .i64 m, .bool z] 51) := ⟨_, rfl⟩
  have k0 : wb.cell? ⟨w.heap.size, 0, none⟩ = some (.int .i64 t) := by rw [hwb]; simp [go_sem]
  have k1 : wb.cell? ⟨w.heap.size, 1, none⟩ = some (.string s) := by rw [hwb]; simp [go_sem]
  have k2 : wb.cell? ⟨w.heap.size, 2, none⟩ = some (.string o) := by rw [hwb]; simp [go_sem]
  have k3 : wb.cell? ⟨w.heap.size, 3, none⟩ = some (.int .i64 m) := by rw [hwb]; simp [go_sem]
  have k4 : wb.cell? ⟨w.heap.size, 4, none⟩ = some (.bool z) := by rw [hwb]; simp [go_sem]
  have hbw : Below w.heap.size w wb := by rw [hwb]; exact (by repeat' (first | (with_reducible exact Below.refl _ _) | (with_reducible assumption) | (with_reducible refine Base.grow_alloc ?_ _) | (with_reducible refine Base.below_drewN ?_ _) | (with_reducible refine Below.drew ?_) | (with_reducible refine Below.setCell ?_ ?_ _) | go_size))
  have hvw := hv.below hbw
  rw [← hwb]
  clear hwb
  have HK := Lib.hid (fun (W : World) (hW : Below wb.heap.size wb W) => (⟨cell_call hW k0, cell_call hW k1, cell_call hW k2, cell_call hW k3, cell_call hW k4⟩ : _ ∧ _ ∧ _ ∧ _ ∧ _))
  clear k0 k1 k2 k3 k4
  go_loopw [9, 10, 11] (fun p q _ wr => ∃ lo hi : Nat, p = .int .i64 lo ∧ q = .int .i64 hi ∧ lo ≤ K ∧ K ≤ hi ∧ hi ≤ n ∧ Below wb.heap.size wb wr) (fun p q _ _ => (intOf q).toNat - (intOf p).toNat)
  case atStart => exact ⟨0, n, rfl, rfl, Nat.zero_le _, hKn, Nat.le_refl _, (by repeat' (first | (with_reducible exact Below.refl _ _) | (with_reducible assumption) | (with_reducible refine Base.grow_alloc ?_ _) | (with_reducible refine Base.below_drewN ?_ _) | (with_reducible refine Below.drew ?_) | (with_reducible refine Below.setCell ?_ ?_ _) | go_size))⟩
  case round =>
    obtain ⟨lo, hi, rfl, rfl, h1, h2, h3, hbr⟩ := hrel
    obtain ⟨k0, k1, k2, k3, k4⟩ := HK.out wr hbr
    have lk := World.block_lt_of_cell? _ _ k0
    dsimp only at lk
    by_cases hlt : lo < hi
    · obtain ⟨b, off, rfl, hb, hc⟩ := (hvw.below hbr).at_ (by omega)
      obtain ⟨a0, a1, a2, a3, a4⟩ := cells5 hc ((lo + hi) / 2) (by omega)
      have HC : Hid (∀ W : World, Calls Try.prog 63 #[.agg #[.int .i64 (E ((lo + hi) / 2)).t, .string (E ((lo + hi) / 2)).s, .string (E ((lo + hi) / 2)).o, .int .i64 (E ((lo + hi) / 2)).m, .bool (E ((lo + hi) / 2)).b], .agg #[.int .i64 t, .string s, .string o, .int .i64 m, .bool z]] W fun e w' => e = .returned (.int .i64 (cmpE (E ((lo + hi) / 2)) ⟨t, s, o, m, z⟩)) ∧ Below W.heap.size W w') := Lib.hid (fun W => HCM.out (E ((lo + hi) / 2)) W)
      have hcl := cmpE_lt (E ((lo + hi) / 2)) ⟨t, s, o, m, z⟩
      have i1 : (0 : Int) ≤ ((lo : Int) + (hi : Int)) / 2 := by omega
      have i2 : ((lo : Int) + (hi : Int)) / 2 < (n : Int) := by omega
      have i3 : (((lo : Int) + (hi : Int)) / 2).toNat = (lo + hi) / 2 := by omega
      clear hc
      cases hbf : befE (E ((lo + hi) / 2)) ⟨t, s, o, m, z⟩
      · have hKh : K ≤ (lo + hi) / 2 := by
          rcases Nat.lt_or_ge ((lo + hi) / 2) K with c | c
          · have := HLT.out _ c
            rw [hbf] at this; cases this
          · exact c
        rw [hbf] at hcl
        have hneg : ¬ cmpE (E ((lo + hi) / 2)) ⟨t, s, o, m, z⟩ < 0 := by simpa using hcl
        clear hbf hcl
        generalize cmpE (E ((lo + hi) / 2)) ⟨t, s, o, m, z⟩ = r at *
        go_wp2
        go_still_tail 6, (by kernel_rfl)
        change wpList _ _ _ _ _ wr.drew
        obtain ⟨w2, hw2⟩ : ∃ w2, w2 = wr.drew := ⟨_, rfl⟩
        have hb2 : Below wb.heap.size wb w2 := by rw [hw2]; exact hbr.drew
        rw [← hw2]
        clear hw2
        go_wp2_with fail
        refine (HC.out _).mono ?_
        rintro e w3 ⟨rfl, hb3⟩
        go_wp2
        exact ⟨⟨lo, (lo + hi) / 2, rfl, by go_num, by omega, by omega, by omega, (by repeat' (first | (with_reducible exact Below.refl _ _) | (with_reducible assumption) | (with_reducible refine Base.via hb3 ?_) | (with_reducible refine Base.via hb2 ?_) | (with_reducible refine Base.grow_alloc ?_ _) | (with_reducible refine Base.below_drewN ?_ _) | (with_reducible refine Below.drew ?_) | (with_reducible refine Below.setCell ?_ ?_ _) | go_size))⟩, by simp [intOf]; omega⟩
      · have hKh : (lo + hi) / 2 < K := by
          rcases Nat.lt_or_ge ((lo + hi) / 2) K with c | c
          · exact c
          · have := HGE.out _ c (by omega)
            rw [hbf] at this; cases this
        rw [hbf] at hcl
        have hneg : cmpE (E ((lo + hi) / 2)) ⟨t, s, o, m, z⟩ < 0 := by simpa using hcl
        clear hbf hcl
        generalize cmpE (E ((lo + hi) / 2)) ⟨t, s, o, m, z⟩ = r at *
        go_wp2
        go_still_tail 6, (by kernel_rfl)
        change wpList _ _ _ _ _ wr.drew
        obtain ⟨w2, hw2⟩ : ∃ w2, w2 = wr.drew := ⟨_, rfl⟩
        have hb2 : Below wb.heap.size wb w2 := by rw [hw2]; exact hbr.drew
        rw [← hw2]
        clear hw2
        go_wp2_with fail
        refine (HC.out _).mono ?_
        rintro e w3 ⟨rfl, hb3⟩
        go_wp2
        exact ⟨⟨(lo + hi) / 2 + 1, hi, by go_num, rfl, by omega, by omega, by omega, (by repeat' (first | (with_reducible exact Below.refl _ _) | (with_reducible assumption) | (with_reducible refine Base.via hb3 ?_) | (with_reducible refine Base.via hb2 ?_) | (with_reducible refine Base.grow_alloc ?_ _) | (with_reducible refine Base.below_drewN ?_ _) | (with_reducible refine Below.drew ?_) | (with_reducible refine Below.setCell ?_ ?_ _) | go_size))⟩, by simp [intOf]; omega⟩
    · obtain rfl : lo = K := by omega
      obtain rfl : hi = lo := by omega
      by_cases hKn : hi < n
      · obtain ⟨b, off, rfl, hb, hc⟩ := (hvw.below hbr).at_ (by omega)
        obtain ⟨a0, a1, a2, a3, a4⟩ := cells5 hc hi hKn
        have HC : Hid (∀ W : World, Calls Try.prog 63 #[.agg #[.int .i64 (E hi).t, .string (E hi).s, .string (E hi).o, .int .i64 (E hi).m, .bool (E hi).b], .agg #[.int .i64 t, .string s, .string o, .int .i64 m, .bool z]] W fun e w' => e = .returned (.int .i64 (cmpE (E hi) ⟨t, s, o, m, z⟩)) ∧ Below W.heap.size W w') := Lib.hid (fun W => HCM.out (E hi) W)
        have HF2 : Hid (F = (cmpE (E hi) ⟨t, s, o, m, z⟩ == 0)) := Lib.hid (by rw [HFD.out, cmpE_zero]; simp [hKn])
        clear hc
        generalize cmpE (E hi) ⟨t, s, o, m, z⟩ = r at *
        have hd : decide ((hi : Int) < (n : Int)) = true := by simp; omega
        have i1 : (0 : Int) ≤ (hi : Int) := by omega
        have i2 : (hi : Int) < (n : Int) := by omega
        have HS : ∀ W : World, Below wr.heap.size wr W → ((W.cell? ⟨b, off + hi * 5, none⟩ = some (.int .i64 (E hi).t) ∧ W.cell? ⟨b, off + hi * 5 + 1, none⟩ = some (.string (E hi).s) ∧ W.cell? ⟨b, off + hi * 5 + 2, none⟩ = some (.string (E hi).o) ∧ W.cell? ⟨b, off + hi * 5 + 3, none⟩ = some (.int .i64 (E hi).m) ∧ W.cell? ⟨b, off + hi * 5 + 4, none⟩ = some (.bool (E hi).b)) ∧ (W.cell? ⟨w.heap.size, 0, none⟩ = some (.int .i64 t) ∧ W.cell? ⟨w.heap.size, 1, none⟩ = some (.string s) ∧ W.cell? ⟨w.heap.size, 2, none⟩ = some (.string o) ∧ W.cell? ⟨w.heap.size, 3, none⟩ = some (.int .i64 m) ∧ W.cell? ⟨w.heap.size, 4, none⟩ = some (.bool z))) ∧ Below wr.heap.size wr W :=
          fun W hW => ⟨⟨⟨cell_call hW a0, cell_call hW a1, cell_call hW a2, cell_call hW a3, cell_call hW a4⟩, cell_call hW k0, cell_call hW k1, cell_call hW k2, cell_call hW k3, cell_call hW k4⟩, hW⟩
        clear a0 a1 a2 a3 a4 k0 k1 k2 k3 k4
        go_wp2_with fail
        refine wp_region_held_drew (S := (fun W => ((W.cell? ⟨b, off + hi * 5, none⟩ = some (.int .i64 (E hi).t) ∧ W.cell? ⟨b, off + hi * 5 + 1, none⟩ = some (.string (E hi).s) ∧ W.cell? ⟨b, off + hi * 5 + 2, none⟩ = some (.string (E hi).o) ∧ W.cell? ⟨b, off + hi * 5 + 3, none⟩ = some (.int .i64 (E hi).m) ∧ W.cell? ⟨b, off + hi * 5 + 4, none⟩ = some (.bool (E hi).b)) ∧ (W.cell? ⟨w.heap.size, 0, none⟩ = some (.int .i64 t) ∧ W.cell? ⟨w.heap.size, 1, none⟩ = some (.string s) ∧ W.cell? ⟨w.heap.size, 2, none⟩ = some (.string o) ∧ W.cell? ⟨w.heap.size, 3, none⟩ = some (.int .i64 m) ∧ W.cell? ⟨w.heap.size, 4, none⟩ = some (.bool z))) ∧ Below wr.heap.size wr W)) (by kernel_rfl) (by (try dsimp only); (exact HS _ (by repeat' (first | (with_reducible exact Below.refl _ _) | (with_reducible assumption) | (with_reducible refine Base.via hb3 ?_) | (with_reducible refine Base.grow_alloc ?_ _) | (with_reducible refine Base.below_drewN ?_ _) | (with_reducible refine Below.drew ?_) | (with_reducible refine Below.setCell ?_ ?_ _) | go_size)))) (fun hHeld => ?_)
        refine wpAnyH_take (i := 0) (oi := ⟨some 35, _, _, _, _, _⟩) (v := ?_) rfl (by kernel_rfl) (by kernel_rfl) (by kernel_rfl) (fun _ _ _ h => h) (Or.inl ⟨by rfl, ?_⟩) (by assumption) ?_
        rotate_left
        · (intro w' hSw; (try dsimp only at hSw); go_simp; try with_reducible rfl)
        try simp only [Act.put, List.setIfInBounds_toArray, List.set_cons_zero, List.set_cons_succ]
        refine wpAnyH_take (i := 1) (oi := ⟨some 36, _, _, _, _, _⟩) (v := ?_) rfl (by kernel_rfl) (by kernel_rfl) (by kernel_rfl) (fun _ _ _ h => h) (Or.inl ⟨by rfl, ?_⟩) (by assumption) ?_
        rotate_left
        · (intro w' hSw; (try dsimp only at hSw); go_simp; try with_reducible rfl)
        try simp only [Act.put, List.setIfInBounds_toArray, List.set_cons_zero, List.set_cons_succ]
        refine wpAnyH_take (i := 2) (oi := ⟨some 37, _, _, _, _, _⟩) (v := ?_) rfl (by kernel_rfl) (by kernel_rfl) (by kernel_rfl) (fun _ _ _ h => h) (Or.inl ⟨by rfl, ?_⟩) (by assumption) ?_
        rotate_left
        · (intro w' hSw; (try dsimp only at hSw); go_simp; try with_reducible rfl)
        try simp only [Act.put, List.setIfInBounds_toArray, List.set_cons_zero, List.set_cons_succ]
        refine wpAnyH_take (i := 3) (oi := ⟨some 38, _, _, _, _, _⟩) (v := ?_) rfl (by kernel_rfl) (by kernel_rfl) (by kernel_rfl) (fun _ _ _ h => h) (Or.inl ⟨by rfl, ?_⟩) (by assumption) ?_
        rotate_left
        · (intro w' hSw; (try dsimp only at hSw); go_simp; try with_reducible rfl)
        try simp only [Act.put, List.setIfInBounds_toArray, List.set_cons_zero, List.set_cons_succ]
        refine wpAnyH_take (i := 4) (oi := ⟨some 39, _, _, _, _, _⟩) (v := ?_) rfl (by kernel_rfl) (by kernel_rfl) (by kernel_rfl) (fun _ _ _ h => h) (Or.inl ⟨by rfl, ?_⟩) (by assumption) ?_
        rotate_left
        · (intro w' hSw; (try dsimp only at hSw); go_simp; try with_reducible rfl)
        try simp only [Act.put, List.setIfInBounds_toArray, List.set_cons_zero, List.set_cons_succ]
        refine wpAnyH_take (i := 5) (oi := ⟨some 40, _, _, _, _, _⟩) (v := ?_) rfl (by kernel_rfl) (by kernel_rfl) (by kernel_rfl) (fun _ _ _ h => h) (Or.inl ⟨by rfl, ?_⟩) (by assumption) ?_
        rotate_left
        · (intro w' hSw; (try dsimp only at hSw); go_simp; try with_reducible rfl)
        try simp only [Act.put, List.setIfInBounds_toArray, List.set_cons_zero, List.set_cons_succ]
        refine wpAnyH_take (i := 6) (oi := ⟨some 41, _, _, _, _, _⟩) (v := ?_) rfl (by kernel_rfl) (by kernel_rfl) (by kernel_rfl) (fun _ _ _ h => h) (Or.inl ⟨by rfl, ?_⟩) (by assumption) ?_
        rotate_left
        · (intro w' hSw; (try dsimp only at hSw); go_simp; try with_reducible rfl)
        try simp only [Act.put, List.setIfInBounds_toArray, List.set_cons_zero, List.set_cons_succ]
        refine wpAnyH_take (i := 7) (oi := ⟨some 42, _, _, _, _, _⟩) (v := ?_) rfl (by kernel_rfl) (by kernel_rfl) (by kernel_rfl) (fun _ _ _ h => h) (Or.inl ⟨by rfl, ?_⟩) (by assumption) ?_
        rotate_left
        · (intro w' hSw; (try dsimp only at hSw); go_simp; try with_reducible rfl)
        try simp only [Act.put, List.setIfInBounds_toArray, List.set_cons_zero, List.set_cons_succ]
        refine wpAnyH_take (i := 8) (oi := ⟨some 43, _, _, _, _, _⟩) (v := ?_) rfl (by kernel_rfl) (by kernel_rfl) (by kernel_rfl) (fun _ _ _ h => h) (Or.inl ⟨by rfl, ?_⟩) (by assumption) ?_
        rotate_left
        · (intro w' hSw; (try dsimp only at hSw); go_simp; try with_reducible rfl)
        try simp only [Act.put, List.setIfInBounds_toArray, List.set_cons_zero, List.set_cons_succ]
        refine wpAnyH_take (i := 9) (oi := ⟨some 44, _, _, _, _, _⟩) (v := ?_) rfl (by kernel_rfl) (by kernel_rfl) (by kernel_rfl) (fun _ _ _ h => h) (Or.inl ⟨by rfl, ?_⟩) (by assumption) ?_
        rotate_left
        · (intro w' hSw; (try dsimp only at hSw); go_simp; try with_reducible rfl)
        try simp only [Act.put, List.setIfInBounds_toArray, List.set_cons_zero, List.set_cons_succ]
        refine wpAnyH_take (i := 10) (oi := ⟨some 45, _, _, _, _, _⟩) (v := ?_) rfl (by kernel_rfl) (by kernel_rfl) (by kernel_rfl) (fun _ _ _ h => h) (Or.inl ⟨by rfl, ?_⟩) (by assumption) ?_
        rotate_left
        · (intro w' hSw; (try dsimp only at hSw); go_simp; try with_reducible rfl)
        try simp only [Act.put, List.setIfInBounds_toArray, List.set_cons_zero, List.set_cons_succ]
        refine wpAnyH_ready (rs := [11]) (by kernel_rfl) (by simp) ?_
        refine AllReadyH.cons (o := ⟨some 46, _, _, _, _, _⟩) rfl (fun K hK => ?_) AllReadyH.nil
        go_simp
        (go_at_call 63; refine (HC.out _).mono ?_; rintro e w3 ⟨rfl, hb3⟩)
        refine hK.out _ _ (by (try dsimp only); (exact HS _ (by repeat' (first | (with_reducible exact Below.refl _ _) | (with_reducible assumption) | (with_reducible refine Base.via hb3 ?_) | (with_reducible refine Base.grow_alloc ?_ _) | (with_reducible refine Base.below_drewN ?_ _) | (with_reducible refine Below.drew ?_) | (with_reducible refine Below.setCell ?_ ?_ _) | go_size)))) (fun hHeld => ?_)
        clear hK K
        try simp only [Act.put, List.setIfInBounds_toArray, List.set_cons_zero, List.set_cons_succ]
        refine wpAnyH_take (i := 12) (oi := ⟨some 47, _, _, _, _, _⟩) (v := ?_) rfl (by kernel_rfl) (by kernel_rfl) (by kernel_rfl) (fun _ _ _ h => h) (Or.inl ⟨by rfl, ?_⟩) (by assumption) ?_
        rotate_left
        · (intro w' hSw; (try dsimp only at hSw); go_simp; try with_reducible rfl)
        try simp only [Act.put, List.setIfInBounds_toArray, List.set_cons_zero, List.set_cons_succ]
        refine wpAnyH_take (i := 13) (oi := ⟨some 48, _, _, _, _, _⟩) (v := ?_) rfl (by kernel_rfl) (by kernel_rfl) (by kernel_rfl) (fun _ _ _ h => h) (Or.inl ⟨by rfl, ?_⟩) (by assumption) ?_
        rotate_left
        · (intro w' hSw; (try dsimp only at hSw); go_simp; try with_reducible rfl)
        try simp only [Act.put, List.setIfInBounds_toArray, List.set_cons_zero, List.set_cons_succ]
        refine wpAnyH_take (i := 14) (oi := ⟨some 6, _, _, _, _, _⟩) (v := ?_) rfl (by kernel_rfl) (by kernel_rfl) (by kernel_rfl) (fun _ _ _ h => h) (Or.inl ⟨by rfl, ?_⟩) (by assumption) ?_
        rotate_left
        · (intro w' hSw; (try dsimp only at hSw); go_simp; try with_reducible rfl)
        try simp only [Act.put, List.setIfInBounds_toArray, List.set_cons_zero, List.set_cons_succ]
        refine wpAnyH_take (i := 15) (oi := ⟨some 7, _, _, _, _, _⟩) (v := ?_) rfl (by kernel_rfl) (by kernel_rfl) (by kernel_rfl) (fun _ _ _ h => h) (Or.inl ⟨by rfl, ?_⟩) (by assumption) ?_
        rotate_left
        · (intro w' hSw; (try dsimp only at hSw); go_simp; try with_reducible rfl)
        try simp only [Act.put, List.setIfInBounds_toArray, List.set_cons_zero, List.set_cons_succ]
        refine wpAnyH_done (by kernel_rfl) ?_ _
        go_wp2
        go_ret2
        exact ⟨ret_t HF2.out.symm, Base.via (‹_ ∧ Below wr.heap.size wr _›).2 (by repeat' (first | (with_reducible exact Below.refl _ _) | (with_reducible assumption) | (with_reducible refine Base.via hbr ?_) | (with_reducible refine Base.via hbw ?_) | (with_reducible refine Base.grow_alloc ?_ _) | (with_reducible refine Base.below_drewN ?_ _) | (with_reducible refine Below.drew ?_) | (with_reducible refine Below.setCell ?_ ?_ _) | go_size))⟩
      · have HF2 : Hid (F = false) := Lib.hid (by rw [HFD.out]; simp [hKn])
        have hd : decide ((hi : Int) < (n : Int)) = false := by simp; omega
        go_wp2
        go_quiet (fail)
        go_wp2
        go_ret2
        exact ⟨ret_t HF2.out.symm, (by repeat' (first | (with_reducible exact Below.refl _ _) | (with_reducible assumption) | (with_reducible refine Base.via hbr ?_) | (with_reducible refine Base.via hbw ?_) | (with_reducible refine Base.grow_alloc ?_ _) | (with_reducible refine Base.below_drewN ?_ _) | (with_reducible refine Below.drew ?_) | (with_reducible refine Below.setCell ?_ ?_ _) | go_size))⟩
end Go.Proofs.Ythojfmlnnclghaa.BsE
