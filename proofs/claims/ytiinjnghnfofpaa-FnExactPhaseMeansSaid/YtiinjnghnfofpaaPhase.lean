/- Points sorted into bins of phases. -/
import Derived.Test.YtiinjnghnfofpaaDisp
import Derived.Test.YtiinjnghnfofpaaEph
import Derived.Deep.RegionHeld3
namespace Go.Proofs.Ytiinjnghnfofpaa.Phase
set_option linter.unusedVariables false
set_option linter.unusedSimpArgs false
set_option maxRecDepth 8000
open Go.RowKit Plain Num View Mags Curve Curve2 DisB Eph

/-- the bin of point i -/
def phB (e p b : Int) (T : Nat → Int) (i : Nat) : Int := b * ((T i - e) % p) / p
def phC (n : Nat) (T M : Nat → Int) (e p b : Int) : Int := if (okEph e p && okCurve n T M) = true then (if inB b 1 50 = true then 0 else 2) else 1
theorem ph_cases (n : Nat) (T M : Nat → Int) (e p b : Int) : (okEph e p = true ∧ okCurve n T M = true ∧ inB b 1 50 = true ∧ phC n T M e p b = 0) ∨ (okEph e p = true ∧ okCurve n T M = true ∧ inB b 1 50 = false ∧ phC n T M e p b = 2) ∨ (okEph e p = true ∧ okCurve n T M = false ∧ phC n T M e p b = 1) ∨ (okEph e p = false ∧ phC n T M e p b = 1) := by
  unfold phC
  cases okEph e p <;> cases okCurve n T M <;> cases inB b 1 50 <;> simp
theorem ph_bd {T : Nat → Int} {e p b : Int} (hp : 1 ≤ p ∧ p ≤ 1000000) (hb : 1 ≤ b ∧ b ≤ 50) (i : Nat) : 0 ≤ (T i - e) % p ∧ (T i - e) % p < p ∧ 0 ≤ b * ((T i - e) % p) ∧ b * ((T i - e) % p) ≤ 50000000 ∧ 0 ≤ phB e p b T i ∧ phB e p b T i < b ∧ 0 ≤ b * ((T i - e) % p) / p ∧ b * ((T i - e) % p) / p < b := by
  have h1 := Int.emod_nonneg (T i - e) (show p ≠ 0 by omega)
  have h2 := Int.emod_lt_of_pos (T i - e) (show 0 < p by omega)
  have h3 := Int.mul_nonneg (show 0 ≤ b by omega) h1
  have h4 : b * ((T i - e) % p) ≤ b * (p - 1) := Int.mul_le_mul_of_nonneg_left (by omega) (by omega)
  have h5 : b * ((T i - e) % p) ≤ 50 * ((T i - e) % p) := Int.mul_le_mul_of_nonneg_right (by omega) h1
  have h6 := Int.ediv_nonneg h3 (show 0 ≤ p by omega)
  have h7 : b * ((T i - e) % p) / p < b := Int.ediv_lt_of_lt_mul (by omega) (by rw [Int.mul_sub] at h4; omega)
  exact ⟨h1, h2, h3, by omega, h6, h7, h6, h7⟩
theorem c_bin (e p ph b : Int) (w : World) (hp : 1 ≤ p ∧ p ≤ 1000000) (h0 : 0 ≤ b * ph) (h1 : b * ph ≤ 50000000) (h2 : 0 ≤ b * ph / p) :
    Calls Try.prog 124 #[.agg #[.int .i64 e, .int .i64 p], .int .i64 ph, .int .i64 b] w fun r w' => r = .returned (.int .i64 (b * ph / p)) ∧ Below w.heap.size w w' := by
  have h3 : b * ph / p ≤ 50000000 := by have := Int.ediv_le_self p h0; omega
  obtain ⟨p0, p1⟩ := hp
  go_enter Try.func124, Try.ntmps124
  go_wp2
  go_ret
  exact ⟨rfl, (by repeat' (first | (with_reducible exact Below.refl _ _) | (with_reducible assumption) | (with_reducible refine Base.grow_alloc ?_ _) | (with_reducible refine Base.below_drewN ?_ _) | (with_reducible refine Below.drew ?_) | (with_reducible refine Below.setCell ?_ ?_ _) | go_size))⟩
set_option maxHeartbeats 1600000 in
theorem c_byBins_ok (A : Option Addr) (n c m : Nat) (T M : Nat → Int) (e p : Int) (w : World) (hv : Sl w 2 A n c (f2 T M)) (he : okEph e p = true) (hok : okCurve n T M = true) (hm : 1 ≤ m ∧ m ≤ 50) :
    Calls Try.prog 84 #[.agg #[.int .i64 e, .int .i64 p], .slice A n c, .int .i64 m] w fun r w' => ∃ q g B, r = .returned (.tuple #[.slice (some ⟨q, 0, none⟩) m m, .int .i64 0]) ∧ BinsAt w' B q 46 2 m g (bl n (phB e p m T) M) ∧ Below w.heap.size w w' := by
  have hn := hv.le
  obtain ⟨h100, hT, hM, _⟩ := okCurve_bd hok
  obtain ⟨eb, hp⟩ := okEph_bd he
  have hmb : 1 ≤ (m : Int) ∧ (m : Int) ≤ 50 := by omega
  have hib : inB (m : Int) 1 50 = true := inB_yes hmb.1 hmb.2
  obtain ⟨i0, hi0, hz0, hz1, hz2⟩ := info_parts Disp.infoI
  obtain ⟨j0, hj0, hy0, hy1, hy2⟩ := info_parts Disp.infoS
  have hmk := fun W => run_make_rowN (P := Try.prog) 82 46 j0 _ Try.underlying82 hj0 hy0 m (by rw [hy2]; omega) (by omega) W
  rw [hy1] at hmk
  have HZ := Lib.hid (fun W : World => (BinsAt.made (w := W) (B := W.heap.size + 1) (S := 46) (E := 2) (n := m) (madeCells #[.slice none 0 0] m) (by rw [size_madeCells]; omega) (fun i hi => by have := made_at1 m i (by omega) (v := .slice none 0 0); simpa using this)))
  have HT := Lib.hid hT
  have HBD := Lib.hid (fun i => ph_bd (T := T) (e := e) hp hmb i)
  clear hT hM
  go_enter Try.func84, Try.ntmps84
  go_wp2_with (first | (go_at_call 123; refine (c_ValidEphemeris e p _).mono ?_; rintro e w1 ⟨rfl, hb1⟩; obtain ⟨chb1, fhb1⟩ := Base.bcell hb1; have zhb1 := (hb1).size; (try simp at zhb1); (try have yhb1 : w.heap.size < (w1).heap.size := by omega)) | (go_at_call 78; refine (c_ValidCurve _ _ _ T M _ (hv.below (by repeat' (first | (with_reducible exact Below.refl _ _) | (with_reducible assumption) | (with_reducible refine Base.via hb1 ?_) | (with_reducible refine Base.grow_alloc ?_ _) | (with_reducible refine Base.below_drewN ?_ _) | (with_reducible refine Below.drew ?_) | (with_reducible refine Below.setCell ?_ ?_ _) | go_size)))).mono ?_; rintro e w2 ⟨rfl, hb2⟩; obtain ⟨chb2, fhb2⟩ := Base.bcell hb2; have zhb2 := (hb2).size; (try simp at zhb2); (try have yhb2 : w.heap.size < (w2).heap.size := by omega)) | (go_at_call 79; refine (c_in _ _ _ _).mono ?_; rintro e w' ⟨rfl, rfl⟩))
  have k0 : World.cell? w2 ⟨w.heap.size, 0, none⟩ = some (.int .i64 e) := ((hb2.cell (p := ⟨w.heap.size, 0, none⟩) (by first | (simp; done) | (simp; omega) | omega)).trans ((hb1.cell (p := ⟨w.heap.size, 0, none⟩) (by first | (simp; done) | (simp; omega) | omega)).trans (by simp [go_sem])))
  have k1 : World.cell? w2 ⟨w.heap.size, 1, none⟩ = some (.int .i64 p) := ((hb2.cell (p := ⟨w.heap.size, 1, none⟩) (by first | (simp; done) | (simp; omega) | omega)).trans ((hb1.cell (p := ⟨w.heap.size, 1, none⟩) (by first | (simp; done) | (simp; omega) | omega)).trans (by simp [go_sem])))
  have hbw2 : Below w.heap.size w w2 := (by repeat' (first | (with_reducible exact Below.refl _ _) | (with_reducible assumption) | (with_reducible refine Base.via hb2 ?_) | (with_reducible refine Base.via hb1 ?_) | (with_reducible refine Base.grow_alloc ?_ _) | (with_reducible refine Base.below_drewN ?_ _) | (with_reducible refine Below.drew ?_) | (with_reducible refine Below.setCell ?_ ?_ _) | go_size))
  have hlw : w.heap.size < w2.heap.size := World.block_lt_of_cell? _ _ k0
  obtain ⟨wm, hwm⟩ : ∃ wm : World, wm = w2.alloc (.cells (madeCells #[.slice none 0 0] m) 46) := ⟨_, rfl⟩
  have hbm : Below w2.heap.size w2 wm := by rw [hwm]; exact (by repeat' (first | (with_reducible exact Below.refl _ _) | (with_reducible assumption) | (with_reducible refine Base.grow_alloc ?_ _) | (with_reducible refine Base.below_drewN ?_ _) | (with_reducible refine Below.drew ?_) | (with_reducible refine Below.setCell ?_ ?_ _) | go_size))
  have hzm : wm.heap.size = w2.heap.size + 1 := by rw [hwm]; simp
  have hzero := HZ.out w2
  rw [← hwm, ← hzm] at hzero
  rw [← hwm]
  have hbins0 : BinsAt wm wm.heap.size w2.heap.size 46 2 m (fun _ => .slice none 0 0) (bl 0 (phB e p m T) M) := hzero
  have hbw : Below w.heap.size w wm := (by repeat' (first | (with_reducible exact Below.refl _ _) | (with_reducible assumption) | (with_reducible refine Base.via hbm ?_) | (with_reducible refine Base.via hbw2 ?_) | (with_reducible refine Base.grow_alloc ?_ _) | (with_reducible refine Base.below_drewN ?_ _) | (with_reducible refine Below.drew ?_) | (with_reducible refine Below.setCell ?_ ?_ _) | go_size))
  have m0 := cell_call hbm k0
  have m1 := cell_call hbm k1
  clear hwm hmk hzero chb1 fhb1 chb2 fhb2
  go_wp2
  go_loopw [10, 11, 29] (fun _ _ i wr => ∃ (k : Nat) (g : Nat → Value), k ≤ n ∧ i = .int .i64 k ∧ BinsAt wr wm.heap.size w2.heap.size 46 2 m g (bl k (phB e p m T) M) ∧ wm.grownBy wr (some w2.heap.size)) (fun _ _ i _ => n - (intOf i).toNat)
  case atStart => exact ⟨0, _, Nat.zero_le _, rfl, hbins0, grown_refl⟩
  case round =>
    obtain ⟨k, g, hk, rfl, hbin, hgr⟩ := hrel
    have hzr := hgr.size
    have hbr : Below w.heap.size w wr := below_grown hbw (by omega) hgr
    have x0 : wr.cell? ⟨w.heap.size, 0, none⟩ = some (.int .i64 e) := (World.cell?_of_block (hgr.block w.heap.size (by omega) (by intro h; have := Option.some.inj h; omega))).trans m0
    have x1 : wr.cell? ⟨w.heap.size, 1, none⟩ = some (.int .i64 p) := (World.cell?_of_block (hgr.block w.heap.size (by omega) (by intro h; have := Option.some.inj h; omega))).trans m1
    by_cases hlt : k < n
    · obtain ⟨b, off, rfl, hb, hc⟩ := (hv.below hbr).at_ (by omega)
      obtain ⟨h0, h1⟩ := cells2 hc k hlt
      obtain ⟨y1, y2, y3, y4, q5, q6, y7, y8⟩ := HBD.out k
      have hTk := HT.out k hlt
      obtain ⟨x, hx⟩ : ∃ x : Nat, phB e p m T k = x := ⟨(phB e p m T k).toNat, by omega⟩
      have hxm : x < m := by omega
      have HX := Lib.hid hx
      have hx' : (m : Int) * ((T k - e) % p) / p = x := hx
      have HBN := Lib.hid (fun W => c_bin e p ((T k - e) % p) m W hp y3 y4 y7)
      rw [hx'] at HBN
      have HPH := Lib.hid (fun W => c_phase e p (T k) W eb hp hTk)
      have hL := Lib.hid (bl_len k (phB e p m T) M x)
      have hox := hbin.own x hxm
      have hlr := hbin.row.lt
      have h3 := hbin.cell hxm
      clear hc hx hx' q5 q6 y1 y2 y3 y4 y7 y8
      go_wp2
      obtain ⟨wo, hwo⟩ : ∃ wo : World, wo = wr.alloc (.cells #[.int .i64 (T k), .int .i64 (M k)] 78) := ⟨_, rfl⟩
      have hbo : Below wr.heap.size wr wo := by rw [hwo]; exact (by repeat' (first | (with_reducible exact Below.refl _ _) | (with_reducible assumption) | (with_reducible refine Base.grow_alloc ?_ _) | (with_reducible refine Base.below_drewN ?_ _) | (with_reducible refine Below.drew ?_) | (with_reducible refine Below.setCell ?_ ?_ _) | go_size))
      have z0 : wo.cell? ⟨wr.heap.size, 0, none⟩ = some (.int .i64 (T k)) := by rw [hwo]; simp
      have z1 : wo.cell? ⟨wr.heap.size, 1, none⟩ = some (.int .i64 (M k)) := by rw [hwo]; simp
      have v0 := cell_call hbo x0
      have v1 := cell_call hbo x1
      rw [← hwo]
      clear hwo
      have HS : ∀ W W' : World, ((W.cell? ⟨w.heap.size, 0, none⟩ = some (.int .i64 e) ∧ W.cell? ⟨w.heap.size, 1, none⟩ = some (.int .i64 p) ∧ W.cell? ⟨wr.heap.size, 0, none⟩ = some (.int .i64 (T k))) ∧ Below wo.heap.size wo W) → Below W.heap.size W W' → ((W'.cell? ⟨w.heap.size, 0, none⟩ = some (.int .i64 e) ∧ W'.cell? ⟨w.heap.size, 1, none⟩ = some (.int .i64 p) ∧ W'.cell? ⟨wr.heap.size, 0, none⟩ = some (.int .i64 (T k))) ∧ Below wo.heap.size wo W') :=
        fun W W' ⟨⟨p0, p1, p2⟩, hs⟩ hb => ⟨⟨cell_call hb p0, cell_call hb p1, cell_call hb p2⟩, Base.via hb hs⟩
      go_region_held3 (fun W => (W.cell? ⟨w.heap.size, 0, none⟩ = some (.int .i64 e) ∧ W.cell? ⟨w.heap.size, 1, none⟩ = some (.int .i64 p) ∧ W.cell? ⟨wr.heap.size, 0, none⟩ = some (.int .i64 (T k))) ∧ Below wo.heap.size wo W)
        (first | exact ⟨⟨cell_drew v0, cell_drew v1, cell_drew z0⟩, (by repeat' (first | (with_reducible exact Below.refl _ _) | (with_reducible assumption) | (with_reducible refine Base.grow_alloc ?_ _) | (with_reducible refine Base.below_drewN ?_ _) | (with_reducible refine Below.drew ?_) | (with_reducible refine Below.setCell ?_ ?_ _) | go_size))⟩ | exact HS _ _ (by assumption) hb4 | exact HS _ _ (by assumption) hb5)
        (first | (go_at_call 125; refine (HPH.out _).mono ?_; rintro e w4 ⟨rfl, hb4⟩) | (go_at_call 124; refine (HBN.out _).mono ?_; rintro e w5 ⟨rfl, hb5⟩))
      have hbE : Below wr.heap.size wr w5 := (hbo.trans ((‹_ ∧ Below wo.heap.size wo w5›).2.mono hbo.size))
      have z1' : w5.cell? ⟨wr.heap.size, 1, none⟩ = some (.int .i64 (M k)) := cell_call (‹_ ∧ Below wo.heap.size wo w5›).2 z1
      have hbin5 := hbin.below hbE
      have hgr5 := grown_below hgr hbE
      have hox := hbin5.own x hxm
      have hlr := hbin5.row.lt
      have h3 := hbin5.cell hxm
      have hz5 := hgr5.size
      have hl5 : wr.heap.size < w5.heap.size := World.block_lt_of_cell? _ _ z1'
      clear hb4 hb5 hbin hgr
      go_wp2
      go_region_law (first | (refine step_append_lies _ (by rfl) _ _ _ (by rfl) wm.heap.size 2 i0 _ 1 8 Try.underlying46 hi0 hz0 hz1 hz2 rfl (by decide) (g x) _ _ (by rfl) (own_of_below hox (by repeat' (first | (with_reducible exact Below.refl _ _) | (with_reducible assumption) | (with_reducible refine Base.grow_alloc ?_ _) | (with_reducible refine Base.below_drewN ?_ _) | (with_reducible refine Below.drew ?_) | (with_reducible refine Below.setCell ?_ ?_ _) | go_size))) ⟨_, 0, none⟩ 1 1 [.int .i64 (M k)] (by rfl) (by rfl) (cell_newL _ _ _ rfl) (by simp [Value.oneCell']) (by decide) (by simp only [maxLen]; have := hL.out; omega) (by have := hL.out; omega) (by simp; omega) _ (by rfl) ?_; intro gb cap w3 hown' hgrow hat hlt3; have hrow3 := (hbin5.row.below (B := w5.heap.size) (by repeat' (first | (with_reducible exact Below.refl _ _) | (with_reducible assumption) | (with_reducible refine Base.grow_alloc ?_ _) | (with_reducible refine Base.below_drewN ?_ _) | (with_reducible refine Below.drew ?_) | (with_reducible refine Below.setCell ?_ ?_ _) | go_size)) hbin5.row.lt).grown hgrow (fun e => hbin5.far x hxm e.symm); have hc3 := hrow3.cell1 hxm; have hf3 := hrow3.frozen x))
      all_goals
        have hstep := (hbin5.below (show Below w5.heap.size w5 (w5.drew.alloc (.cells #[.int .i64 (M k)] 2)) from (by repeat' (first | (with_reducible exact Below.refl _ _) | (with_reducible assumption) | (with_reducible refine Base.grow_alloc ?_ _) | (with_reducible refine Base.below_drewN ?_ _) | (with_reducible refine Below.drew ?_) | (with_reducible refine Below.setCell ?_ ?_ _) | go_size)))).step hxm hown' hgrow (hat.elim (fun e => .inl (by rw [e]; rfl)) (fun e => .inr (by rw [e]; simp [Value.ownBlock])))
        have hgr2 := (hbin5.below (show Below w5.heap.size w5 (w5.drew.alloc (.cells #[.int .i64 (M k)] 2)) from (by repeat' (first | (with_reducible exact Below.refl _ _) | (with_reducible assumption) | (with_reducible refine Base.grow_alloc ?_ _) | (with_reducible refine Base.below_drewN ?_ _) | (with_reducible refine Below.drew ?_) | (with_reducible refine Below.setCell ?_ ?_ _) | go_size)))).step_grown (grown_below hgr5 (by repeat' (first | (with_reducible exact Below.refl _ _) | (with_reducible assumption) | (with_reducible refine Base.grow_alloc ?_ _) | (with_reducible refine Base.below_drewN ?_ _) | (with_reducible refine Below.drew ?_) | (with_reducible refine Below.setCell ?_ ?_ _) | go_size))) (Nat.le_refl _) hxm hgrow (.slice (some ⟨gb, 0, none⟩) ((bl k (phB e p m T) M x).length + 1) cap)
        go_wp2
        go_roundw
        case rel => exact ⟨k + 1, _, by omega, by go_num, hstep.congr (fun i hi => Disp.upd_bl HX.out i), hgr2⟩
        case measure => simp [intOf]; omega
    · have hkn : k = n := by omega
      subst hkn
      go_wp2
      go_ret2
      exact ⟨_, _, _, rfl, hbin, hbr⟩
end Go.Proofs.Ytiinjnghnfofpaa.Phase
