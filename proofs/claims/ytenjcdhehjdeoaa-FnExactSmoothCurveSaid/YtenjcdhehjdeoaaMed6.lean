/- Smooth curves: both sides. -/
import Derived.Test.YtenjcdhehjdeoaaMed5
namespace Go.Proofs.Ytenjcdhehjdeoaa.Med
set_option linter.unusedVariables false
set_option linter.unusedSimpArgs false
set_option maxRecDepth 8000
open Go.RowKit Plain Num View Frac Curve Curve2

theorem infoPt : (Try.prog.info? 62).map (fun i => (i.zero, i.size, i.bytes)) = some (some (.agg #[.int .i64 0, .int .i64 0]), 2, 16) := by kernel_rfl
def smC (n : Nat) (T M : Nat → Int) (v : Int) : Int := if okCurve n T M = true then (if inB v 0 10 = true then 0 else 2) else 1
def smN (n : Nat) (T M : Nat → Int) (v : Int) : Nat := if smC n T M v = 0 then n else 0
def smF (n : Nat) (M : Nat → Int) (v : Int) (i : Nat) : Int := rmV n M i v.toNat
def smP (n : Nat) (T M : Nat → Int) (s : Nat) (i : Nat) : Int × Int := (T i, rmV n M i s)
theorem sm_cases (n : Nat) (T M : Nat → Int) (v : Int) : (okCurve n T M = true ∧ inB v 0 10 = true ∧ smC n T M v = 0) ∨ (okCurve n T M = true ∧ inB v 0 10 = false ∧ smC n T M v = 2) ∨ (okCurve n T M = false ∧ smC n T M v = 1) := by
  unfold smC
  cases okCurve n T M <;> cases inB v 0 10 <;> simp
theorem lp_all {k : Nat} {g : Nat → Int × Int} {i : Nat} (hi : i < k) : lp1 (sel k all1 g) i = (g i).1 ∧ lp2 (sel k all1 g) i = (g i).2 := by
  rw [lp1, lp2, sel_all_get hi]
  exact ⟨rfl, rfl⟩
theorem of_allP {w : World} {B : Nat} {E : TypeId} {v : Value} {k : Nat} {g : Nat → Int × Int} {a b : Nat → Int} (h : w.ownsRow B E 2 v (sel k all1 g).length (cellP (sel k all1 g))) (hn : k ≤ 1048576) (ha : ∀ i, i < k → (g i).1 = a i) (hb : ∀ i, i < k → (g i).2 = b i) : OwnK w B E 2 v k (f2 a b) := by
  have h2 := OwnK.of_listP h (by rw [sel_all_len]; exact hn)
  rw [sel_all_len] at h2
  exact h2.congr (fun i hi j _ => by simp only [f2]; rw [(lp_all hi).1, (lp_all hi).2, ha i hi, hb i hi])
set_option maxHeartbeats 1600000 in
theorem c_SmoothCurve (A : Option Addr) (n c : Nat) (T M : Nat → Int) (v : Int) (w : World) (hv : Sl w 2 A n c (f2 T M)) :
    Calls Try.prog 22 #[.slice A n c, .int .i64 v] w fun e w' => ∃ u, e = .returned (.tuple #[u, .int .i64 (smC n T M v)]) ∧ OwnK w' w.heap.size 62 2 u (smN n T M v) (f2 T (smF n M v)) ∧ Below w.heap.size w w' := by
  have hn := hv.le
  obtain ⟨i0, hi0, hz0, hz1, hz2⟩ := info_parts infoPt
  rcases sm_cases n T M v with ⟨h1, h2, hc⟩ | ⟨h1, h2, hc⟩ | ⟨h1, hc⟩
  · have HN := Lib.hid (show smN n T M v = n by rw [smN, if_pos hc])
    have HC := Lib.hid hc
    obtain ⟨h100, _, hM, _⟩ := okCurve_bd h1
    have hvb := inB_iff.1 h2
    obtain ⟨s, rfl⟩ : ∃ s : Nat, v = s := ⟨v.toNat, by omega⟩
    have HRM := Lib.hid (fun (V : World) (i : Nat) (hi : i < n) (hV : Sl V 2 A n c (f2 T M)) => c_runningMedian A n c T M i s V hV hi (by omega) h100 hM)
    clear hc hM
    go_enter Try.func22, Try.ntmps22
    go_wp2_with (first | (go_at_call 46; refine (c_ValidCurve _ _ _ T M _ (hv.below (by repeat' (first | (with_reducible exact Below.refl _ _) | (with_reducible assumption) | (with_reducible refine Base.grow_alloc ?_ _) | (with_reducible refine Base.below_drewN ?_ _) | (with_reducible refine Below.drew ?_) | (with_reducible refine Below.setCell ?_ ?_ _) | go_size)))).mono ?_; rintro e w1 ⟨rfl, hb1⟩; obtain ⟨chb1, fhb1⟩ := Base.bcell hb1; have zhb1 := (hb1).size; (try simp at zhb1); (try have yhb1 : w.heap.size < (w1).heap.size := by omega)) | (go_at_call 47; refine (c_in _ _ _ _).mono ?_; rintro e w' ⟨rfl, rfl⟩))
    have hbw : Below w.heap.size w w1 := (by repeat' (first | (with_reducible exact Below.refl _ _) | (with_reducible assumption) | (with_reducible refine Base.via hb1 ?_) | (with_reducible refine Base.grow_alloc ?_ _) | (with_reducible refine Base.below_drewN ?_ _) | (with_reducible refine Below.drew ?_) | (with_reducible refine Below.setCell ?_ ?_ _) | go_size))
    have hvw := hv.below hbw
    clear chb1 fhb1
    go_loopw [6, 7, 8, 20] (fun u _ _ q wr => ∃ k : Nat, k ≤ n ∧ q = .int .i64 k ∧ wr.ownsRow w1.heap.size 62 2 u (sel k all1 (smP n T M s)).length (cellP (sel k all1 (smP n T M s))) ∧ Below w1.heap.size w1 wr) (fun _ _ _ q _ => n - (intOf q).toNat)
    case atStart => exact ⟨0, Nat.zero_le _, rfl, World.ownsRow_made _ _ _ (by omega) (by simp [maxLen]) rfl, (by repeat' (first | (with_reducible exact Below.refl _ _) | (with_reducible assumption) | (with_reducible refine Base.grow_alloc ?_ _) | (with_reducible refine Base.below_drewN ?_ _) | (with_reducible refine Below.drew ?_) | (with_reducible refine Below.setCell ?_ ?_ _) | go_size))⟩
    case round =>
      obtain ⟨k, hk, rfl, hown, hbr⟩ := hrel
      have hz := hbr.size
      have hl := sel_all_len (k := k) (g := smP n T M s)
      by_cases hlt : k < n
      · obtain ⟨b', off, rfl, hb', hcc⟩ := (hvw.below hbr).at_ (by omega)
        obtain ⟨q0, q1⟩ := cells2 hcc k hlt
        have HOWN := Lib.hid hown
        have HSY := Lib.hid (sel_yes (k := k) (P := all1) (g := smP n T M s) rfl)
        have hlr := hl
        clear hcc hown
        go_wp2
        obtain ⟨wo, hwo⟩ : ∃ wo : World, wo = wr.alloc (.cells #[.int .i64 (T k), .int .i64 (M k)] 62) := ⟨_, rfl⟩
        have u0 : wo.cell? ⟨wr.heap.size, 0, none⟩ = some (.int .i64 (T k)) := by rw [hwo]; simp
        have hbo : Below wr.heap.size wr wo := by rw [hwo]; exact (by repeat' (first | (with_reducible exact Below.refl _ _) | (with_reducible assumption) | (with_reducible refine Base.grow_alloc ?_ _) | (with_reducible refine Base.below_drewN ?_ _) | (with_reducible refine Below.drew ?_) | (with_reducible refine Below.setCell ?_ ?_ _) | go_size))
        have hlo : wr.heap.size < wo.heap.size := World.block_lt_of_cell? _ _ u0
        have ho0 := own_of_below HOWN.out hbo
        rw [hl] at ho0
        have hzo := hbo.size
        rw [← hwo]
        clear hwo q0 q1
        have hbw1 : Below w1.heap.size w1 wo := Base.via hbo hbr
        have HNE := Lib.hid HOWN.out.lt
        have HS : ∀ W W' : World, (W.cell? ⟨wr.heap.size, 0, none⟩ = some (.int .i64 (T k)) ∧ Below w1.heap.size w1 W) → Below W.heap.size W W' → (W'.cell? ⟨wr.heap.size, 0, none⟩ = some (.int .i64 (T k)) ∧ Below w1.heap.size w1 W') := fun W W' ⟨p0, hs⟩ hb => ⟨cell_call hb p0, Base.via hb hs⟩
        have HG : ∀ (W W' : World) (v : Value) (m : Nat) (xs : List Value), W.ownsRow w1.heap.size 62 2 v m xs → W.grownBy W' v.ownBlock → (∀ q, v.ownBlock = some q → w1.heap.size ≤ q ∧ q < wr.heap.size) → (W.cell? ⟨wr.heap.size, 0, none⟩ = some (.int .i64 (T k)) ∧ Below w1.heap.size w1 W) → (W'.cell? ⟨wr.heap.size, 0, none⟩ = some (.int .i64 (T k)) ∧ Below w1.heap.size w1 W') := fun W W' v m xs ho hg hne ⟨p0, hs⟩ =>
          ⟨(World.cell?_of_block (hg.block wr.heap.size (World.block_lt_of_cell? _ _ p0) (fun e => by have := (hne wr.heap.size e.symm).2; omega))).trans p0, hs.grown hg hs.size (fun q hq => (ho.lt q hq).1)⟩
        go_region_held3 (fun W => W.cell? ⟨wr.heap.size, 0, none⟩ = some (.int .i64 (T k)) ∧ Below w1.heap.size w1 W)
          (first | exact HS _ _ (by assumption) hb3 | exact HS _ _ (by assumption) ((Below.refl _ _).alloc (Nat.le_refl _) _) | exact HG _ _ _ _ _ (own_of_below ho0 (by repeat' (first | (with_reducible exact Below.refl _ _) | (with_reducible assumption) | (with_reducible refine Base.via hb3 ?_) | (with_reducible refine Base.grow_alloc ?_ _) | (with_reducible refine Base.below_drewN ?_ _) | (with_reducible refine Below.drew ?_) | (with_reducible refine Below.setCell ?_ ?_ _) | go_size))) hgrow6 HNE.out (by assumption) | exact ⟨cell_drew u0, (by repeat' (first | (with_reducible exact Below.refl _ _) | (with_reducible assumption) | (with_reducible refine Base.via hbw1 ?_) | (with_reducible refine Base.grow_alloc ?_ _) | (with_reducible refine Base.below_drewN ?_ _) | (with_reducible refine Below.drew ?_) | (with_reducible refine Below.setCell ?_ ?_ _) | go_size))⟩)
          (first | (have hs := (‹_ ∧ Below w1.heap.size w1 _›).2; go_at_call 51; refine (HRM.out _ k hlt (hvw.below hs)).mono ?_; rintro e w3 ⟨rfl, hb3⟩) | (have hs := (‹_ ∧ Below w1.heap.size w1 _›).2; refine step_append_lies _ (by rfl) _ _ _ (by rfl) w1.heap.size 62 i0 _ 2 16 Try.underlying27 hi0 hz0 hz1 hz2 rfl (by decide) _ k _ (by rfl) (own_of_below ho0 (by repeat' (first | (with_reducible exact Below.refl _ _) | (with_reducible assumption) | (with_reducible refine Base.via hb3 ?_) | (with_reducible refine Base.grow_alloc ?_ _) | (with_reducible refine Base.below_drewN ?_ _) | (with_reducible refine Below.drew ?_) | (with_reducible refine Below.setCell ?_ ?_ _) | go_size))) ⟨_, 0, none⟩ 1 1 [.int .i64 (T k), .int .i64 (rmV n M k s)] (by rfl) (by rfl) (cell_newL _ _ _ rfl) (by simp [Value.oneCell']) (by decide) (by simp only [maxLen]; omega) (by omega) hs.size _ (by rfl) ?_; intro g6 cap6 w6 hown6 hgrow6 hat6 hlt6))
        all_goals
          obtain ⟨_, hE⟩ := ‹_ ∧ Below w1.heap.size w1 _›
          go_wp2
          go_roundw
          case rel => exact ⟨k + 1, by omega, by go_num, by rw [HSY.out]; exact own_snocP (by rw [hl]; exact hown6), (by repeat' (first | (with_reducible exact Below.refl _ _) | (with_reducible assumption) | (with_reducible refine Base.via hE ?_) | (with_reducible refine Base.grow_alloc ?_ _) | (with_reducible refine Base.below_drewN ?_ _) | (with_reducible refine Below.drew ?_) | (with_reducible refine Below.setCell ?_ ?_ _) | go_size))⟩
          case measure => simp [intOf]; omega
      · have hkn : k = n := by omega
        subst hkn
        go_wp2
        go_ret2
        exact ⟨_, ret_slice HC.out.symm, by rw [HN.out]; exact (of_allP hown (by omega) (fun i _ => rfl) (fun i _ => by simp [smP, smF])).mono hbw.size, (by repeat' (first | (with_reducible exact Below.refl _ _) | (with_reducible assumption) | (with_reducible refine Base.via hbr ?_) | (with_reducible refine Base.via hbw ?_) | (with_reducible refine Base.grow_alloc ?_ _) | (with_reducible refine Base.below_drewN ?_ _) | (with_reducible refine Below.drew ?_) | (with_reducible refine Below.setCell ?_ ?_ _) | go_size))⟩
  all_goals
    have HN := Lib.hid (show smN n T M v = 0 by rw [smN, hc]; rfl)
    have HC := Lib.hid hc
    clear hc
    go_enter Try.func22, Try.ntmps22
    go_wp2_with (first | (go_at_call 46; refine (c_ValidCurve _ _ _ T M _ (hv.below (by repeat' (first | (with_reducible exact Below.refl _ _) | (with_reducible assumption) | (with_reducible refine Base.grow_alloc ?_ _) | (with_reducible refine Base.below_drewN ?_ _) | (with_reducible refine Below.drew ?_) | (with_reducible refine Below.setCell ?_ ?_ _) | go_size)))).mono ?_; rintro e w1 ⟨rfl, hb1⟩; obtain ⟨chb1, fhb1⟩ := Base.bcell hb1; have zhb1 := (hb1).size; (try simp at zhb1); (try have yhb1 : w.heap.size < (w1).heap.size := by omega)) | (go_at_call 47; refine (c_in _ _ _ _).mono ?_; rintro e w' ⟨rfl, rfl⟩))
    go_ret2
    exact ⟨_, ret_slice HC.out.symm, OwnK.zero HN.out, (by repeat' (first | (with_reducible exact Below.refl _ _) | (with_reducible assumption) | (with_reducible refine Base.via hb1 ?_) | (with_reducible refine Base.grow_alloc ?_ _) | (with_reducible refine Base.below_drewN ?_ _) | (with_reducible refine Below.drew ?_) | (with_reducible refine Below.setCell ?_ ?_ _) | go_size))⟩
set_option maxHeartbeats 1600000 in
theorem c_specSmoothCurve (A : Option Addr) (n c : Nat) (T M : Nat → Int) (v : Int) (w : World) (hv : Sl w 2 A n c (f2 T M)) :
    Calls Try.prog 21 #[.slice A n c, .int .i64 v] w fun e w' => ∃ u, e = .returned (.tuple #[u, .int .i64 (smC n T M v)]) ∧ OwnK w' w.heap.size 62 2 u (smN n T M v) (f2 T (smF n M v)) ∧ Below w.heap.size w w' := by
  have hn := hv.le
  obtain ⟨i0, hi0, hz0, hz1, hz2⟩ := info_parts infoPt
  rcases sm_cases n T M v with ⟨h1, h2, hc⟩ | ⟨h1, h2, hc⟩ | ⟨h1, hc⟩
  · have HN := Lib.hid (show smN n T M v = n by rw [smN, if_pos hc])
    have HC := Lib.hid hc
    obtain ⟨h100, _, hM, _⟩ := okCurve_bd h1
    have hvb := inB_iff.1 h2
    obtain ⟨s, rfl⟩ : ∃ s : Nat, v = s := ⟨v.toNat, by omega⟩
    have HRM := Lib.hid (fun (V : World) (i : Nat) (hi : i < n) (hV : Sl V 2 A n c (f2 T M)) => c_l08Median A n c T M i s V hV hi (by omega) h100 hM)
    clear hc hM
    go_enter Try.func21, Try.ntmps21
    go_wp2_with (first | (go_at_call 41; refine (c_l08Ok _ _ _ T M _ (hv.below (by repeat' (first | (with_reducible exact Below.refl _ _) | (with_reducible assumption) | (with_reducible refine Base.grow_alloc ?_ _) | (with_reducible refine Base.below_drewN ?_ _) | (with_reducible refine Below.drew ?_) | (with_reducible refine Below.setCell ?_ ?_ _) | go_size)))).mono ?_; rintro e w1 ⟨rfl, hb1⟩; obtain ⟨chb1, fhb1⟩ := Base.bcell hb1; have zhb1 := (hb1).size; (try simp at zhb1); (try have yhb1 : w.heap.size < (w1).heap.size := by omega)) | (go_at_call 42; refine (c_l00In _ _ _ _).mono ?_; rintro e w' ⟨rfl, rfl⟩))
    have hbw : Below w.heap.size w w1 := (by repeat' (first | (with_reducible exact Below.refl _ _) | (with_reducible assumption) | (with_reducible refine Base.via hb1 ?_) | (with_reducible refine Base.grow_alloc ?_ _) | (with_reducible refine Base.below_drewN ?_ _) | (with_reducible refine Below.drew ?_) | (with_reducible refine Below.setCell ?_ ?_ _) | go_size))
    have hvw := hv.below hbw
    clear chb1 fhb1
    go_loopw [6, 7] (fun u q wr => ∃ k : Nat, k ≤ n ∧ q = .int .i64 k ∧ wr.ownsRow w1.heap.size 62 2 u (sel k all1 (smP n T M s)).length (cellP (sel k all1 (smP n T M s))) ∧ Below w1.heap.size w1 wr) (fun _ q _ => n - (intOf q).toNat)
    case atStart => exact ⟨0, Nat.zero_le _, rfl, World.ownsRow_made _ _ _ (by omega) (by simp [maxLen]) rfl, (by repeat' (first | (with_reducible exact Below.refl _ _) | (with_reducible assumption) | (with_reducible refine Base.grow_alloc ?_ _) | (with_reducible refine Base.below_drewN ?_ _) | (with_reducible refine Below.drew ?_) | (with_reducible refine Below.setCell ?_ ?_ _) | go_size))⟩
    case round =>
      obtain ⟨k, hk, rfl, hown, hbr⟩ := hrel
      have hz := hbr.size
      have hl := sel_all_len (k := k) (g := smP n T M s)
      by_cases hlt : k < n
      · obtain ⟨b', off, rfl, hb', hcc⟩ := (hvw.below hbr).at_ (by omega)
        obtain ⟨q0, q1⟩ := cells2 hcc k hlt
        have HSY := Lib.hid (sel_yes (k := k) (P := all1) (g := smP n T M s) rfl)
        have hlr := hl
        clear hcc
        have ho0 := hown
        rw [hl] at ho0
        have i1 : (0 : Int) ≤ (k : Int) := by omega
        have i2 : (k : Int) < n := by omega
        have HNE := Lib.hid (fun (q : Nat) (e : _ = some q) => (hown.lt q e).1)
        have hbv : b' < w1.heap.size := by
          obtain ⟨b2, off2, e2, hb2, _⟩ := hvw.at_ (show 0 < n by omega)
          injection e2 with e2
          injection e2 with e3 e4
          omega
        have HS : ∀ W W' : World, (W.cell? ⟨b', off + k * 2, none⟩ = some (.int .i64 (T k)) ∧ Below w1.heap.size w1 W) → Below W.heap.size W W' → (W'.cell? ⟨b', off + k * 2, none⟩ = some (.int .i64 (T k)) ∧ Below w1.heap.size w1 W') := fun W W' ⟨p0, hs⟩ hb => ⟨cell_call hb p0, Base.via hb hs⟩
        have HG : ∀ (W W' : World) (v : Value) (m : Nat) (xs : List Value), W.ownsRow w1.heap.size 62 2 v m xs → W.grownBy W' v.ownBlock → (W.cell? ⟨b', off + k * 2, none⟩ = some (.int .i64 (T k)) ∧ Below w1.heap.size w1 W) → (W'.cell? ⟨b', off + k * 2, none⟩ = some (.int .i64 (T k)) ∧ Below w1.heap.size w1 W') := fun W W' v m xs ho hg ⟨p0, hs⟩ =>
          ⟨(World.cell?_of_block (hg.block b' (World.block_lt_of_cell? _ _ p0) (fun e => by have := (ho.lt b' e.symm).1; omega))).trans p0, hs.grown hg hs.size (fun q hq => (ho.lt q hq).1)⟩
        clear hown
        go_wp2
        go_region_held3 (fun W => W.cell? ⟨b', off + k * 2, none⟩ = some (.int .i64 (T k)) ∧ Below w1.heap.size w1 W)
          (first | exact HS _ _ (by assumption) hb3 | exact HS _ _ (by assumption) ((Below.refl _ _).alloc (Nat.le_refl _) _) | exact HG _ _ _ _ _ (own_of_below ho0 (by repeat' (first | (with_reducible exact Below.refl _ _) | (with_reducible assumption) | (with_reducible refine Base.via hb3 ?_) | (with_reducible refine Base.grow_alloc ?_ _) | (with_reducible refine Base.below_drewN ?_ _) | (with_reducible refine Below.drew ?_) | (with_reducible refine Below.setCell ?_ ?_ _) | go_size))) hgrow6 (by assumption) | exact ⟨cell_drew q0, (by repeat' (first | (with_reducible exact Below.refl _ _) | (with_reducible assumption) | (with_reducible refine Base.via hbr ?_) | (with_reducible refine Base.grow_alloc ?_ _) | (with_reducible refine Base.below_drewN ?_ _) | (with_reducible refine Below.drew ?_) | (with_reducible refine Below.setCell ?_ ?_ _) | go_size))⟩)
          (first | (have hs := (‹_ ∧ Below w1.heap.size w1 _›).2; go_at_call 44; refine (HRM.out _ k hlt (hvw.below hs)).mono ?_; rintro e w3 ⟨rfl, hb3⟩) | (have hs := (‹_ ∧ Below w1.heap.size w1 _›).2; refine step_append_lies _ (by rfl) _ _ _ (by rfl) w1.heap.size 62 i0 _ 2 16 Try.underlying27 hi0 hz0 hz1 hz2 rfl (by decide) _ k _ (by rfl) (own_of_below ho0 (by repeat' (first | (with_reducible exact Below.refl _ _) | (with_reducible assumption) | (with_reducible refine Base.via hb3 ?_) | (with_reducible refine Base.grow_alloc ?_ _) | (with_reducible refine Base.below_drewN ?_ _) | (with_reducible refine Below.drew ?_) | (with_reducible refine Below.setCell ?_ ?_ _) | go_size))) ⟨_, 0, none⟩ 1 1 [.int .i64 (T k), .int .i64 (rmV n M k s)] (by rfl) (by rfl) (cell_newL _ _ _ rfl) (by simp [Value.oneCell']) (by decide) (by simp only [maxLen]; omega) (by omega) hs.size _ (by rfl) ?_; intro g6 cap6 w6 hown6 hgrow6 hat6 hlt6))
        all_goals
          obtain ⟨_, hE⟩ := ‹_ ∧ Below w1.heap.size w1 _›
          go_wp2
          go_roundw
          case rel => exact ⟨k + 1, by omega, by go_num, by rw [HSY.out]; exact own_snocP (by rw [hl]; exact hown6), (by repeat' (first | (with_reducible exact Below.refl _ _) | (with_reducible assumption) | (with_reducible refine Base.via hE ?_) | (with_reducible refine Base.grow_alloc ?_ _) | (with_reducible refine Base.below_drewN ?_ _) | (with_reducible refine Below.drew ?_) | (with_reducible refine Below.setCell ?_ ?_ _) | go_size))⟩
          case measure => simp [intOf]; omega
      · have hkn : k = n := by omega
        subst hkn
        go_wp2
        go_ret2
        exact ⟨_, ret_slice HC.out.symm, by rw [HN.out]; exact (of_allP hown (by omega) (fun i _ => rfl) (fun i _ => by simp [smP, smF])).mono hbw.size, (by repeat' (first | (with_reducible exact Below.refl _ _) | (with_reducible assumption) | (with_reducible refine Base.via hbr ?_) | (with_reducible refine Base.via hbw ?_) | (with_reducible refine Base.grow_alloc ?_ _) | (with_reducible refine Base.below_drewN ?_ _) | (with_reducible refine Below.drew ?_) | (with_reducible refine Below.setCell ?_ ?_ _) | go_size))⟩
  all_goals
    have HN := Lib.hid (show smN n T M v = 0 by rw [smN, hc]; rfl)
    have HC := Lib.hid hc
    clear hc
    go_enter Try.func21, Try.ntmps21
    go_wp2_with (first | (go_at_call 41; refine (c_l08Ok _ _ _ T M _ (hv.below (by repeat' (first | (with_reducible exact Below.refl _ _) | (with_reducible assumption) | (with_reducible refine Base.grow_alloc ?_ _) | (with_reducible refine Base.below_drewN ?_ _) | (with_reducible refine Below.drew ?_) | (with_reducible refine Below.setCell ?_ ?_ _) | go_size)))).mono ?_; rintro e w1 ⟨rfl, hb1⟩; obtain ⟨chb1, fhb1⟩ := Base.bcell hb1; have zhb1 := (hb1).size; (try simp at zhb1); (try have yhb1 : w.heap.size < (w1).heap.size := by omega)) | (go_at_call 42; refine (c_l00In _ _ _ _).mono ?_; rintro e w' ⟨rfl, rfl⟩))
    go_ret2
    exact ⟨_, ret_slice HC.out.symm, OwnK.zero HN.out, (by repeat' (first | (with_reducible exact Below.refl _ _) | (with_reducible assumption) | (with_reducible refine Base.via hb1 ?_) | (with_reducible refine Base.grow_alloc ?_ _) | (with_reducible refine Base.below_drewN ?_ _) | (with_reducible refine Below.drew ?_) | (with_reducible refine Below.setCell ?_ ?_ _) | go_size))⟩
end Go.Proofs.Ytenjcdhehjdeoaa.Med
