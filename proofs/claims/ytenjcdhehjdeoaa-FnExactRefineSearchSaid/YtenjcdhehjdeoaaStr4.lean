/- The best period of a search, the second best one: both sides. -/
import Derived.Test.YtenjcdhehjdeoaaStr3
import Derived.Test.YtenjcdhehjdeoaaChosen
import Derived.Deep.RegionHeld3
namespace Go.Proofs.Ytenjcdhehjdeoaa.Str
set_option linter.unusedVariables false
set_option linter.unusedSimpArgs false
set_option maxRecDepth 8000
open Go.RowKit Plain Num View Eph Curve Curve2 Per Least Amp

/-- the place of the best period -/
noncomputable def bpI (n : Nat) (T M : Nat → Int) (f t s : Int) : Nat := amin (lenF n T M f s) (perN f t s - 1)
noncomputable def bpV (n : Nat) (T M : Nat → Int) (f t s : Int) : Int := if srC n T M f t s 3 = 0 then perF f s (bpI n T M f t s) else 0
theorem bpI_lt {n : Nat} {T M : Nat → Int} {f t s : Int} (h : okSearch f t s = true) : bpI n T M f t s < perN f t s := by
  have := amin_le (F := lenF n T M f s) (perN f t s - 1)
  have := (perN_ok h).2.1
  unfold bpI
  omega
def allP (k : Nat) : Bool := !(decide ((0 : Int) ≤ (k : Int)) && decide ((k : Int) ≤ -1))
theorem allP_yes (k : Nat) : allP k = true := by simp [allP]; omega
theorem bst_bp {n : Nat} {T M : Nat → Int} {f t s : Int} (h : okSearch f t s = true) : bst allP (lenF n T M f s) (perN f t s) = (bpI n T M f t s : Int) := by
  have h1 := (perN_ok h).2.1
  obtain ⟨q, hq⟩ : ∃ q, perN f t s = q + 1 := ⟨perN f t s - 1, by omega⟩
  rw [bpI, hq, Nat.add_sub_cancel]
  exact bst_all allP_yes q
set_option maxHeartbeats 1600000 in
theorem c_BestPeriod (A : Option Addr) (n c : Nat) (T M : Nat → Int) (f t s : Int) (w : World) (hv : Sl w 2 A n c (f2 T M)) :
    Calls Try.prog 33 #[.slice A n c, .agg #[.int .i64 f, .int .i64 t, .int .i64 s]] w fun e w' => e = .returned (.tuple #[.int .i64 (bpV n T M f t s), .int .i64 (srC n T M f t s 3)]) ∧ Below w.heap.size w w' := by
  have HSR := Lib.hid (fun (W : World) (hW : Sl W 2 A n c (f2 T M)) => c_searchable A n c T M f t s 3 (by omega) W hW)
  by_cases hc : srC n T M f t s 3 = 0
  · obtain ⟨h1, h2, h3, _⟩ := sr_ok hc
    obtain ⟨h100, hT, hM, _⟩ := okCurve_bd h1
    have hN := (perN_ok h2).2.1
    have HV := Lib.hid (show bpV n T M f t s = perF f s (amin (fun i => strL n T M (perF f s i)) (perN f t s - 1)) by rw [bpV, if_pos hc]; rfl)
    have HPB := Lib.hid (per_bd h2)
    have HPR := Lib.hid (fun W => c_periods f t s W h2)
    have HF := Lib.hid (fun (W : World) (B : Option Addr) (cb : Nat) (hW : Sl W 2 A n c (f2 T M)) (hu : Sl W 1 B (perN f t s) cb (f1 (perF f s))) => c_shortest A n c T M B (perN f t s) cb (perF f s) W hW hu h100 hT hM HPB.out (by omega))
    rw [hc] at HSR
    have HC := Lib.hid hc
    clear hT hM hc
    go_enter Try.func33, Try.ntmps33
    go_wp2_with (first | (go_at_call 62; refine (HSR.out _ (hv.below (by repeat' (first | (with_reducible exact Below.refl _ _) | (with_reducible assumption) | (with_reducible refine Base.grow_alloc ?_ _) | (with_reducible refine Base.below_drewN ?_ _) | (with_reducible refine Below.drew ?_) | (with_reducible refine Below.setCell ?_ ?_ _) | go_size)))).mono ?_; rintro e w1 ⟨rfl, hb1⟩; obtain ⟨chb1, fhb1⟩ := Base.bcell hb1; have zhb1 := (hb1).size; (try simp at zhb1); (try have yhb1 : w.heap.size < (w1).heap.size := by omega)) | (go_at_call 64; refine (HPR.out _).mono ?_))
    rintro e w2 ⟨v2, rfl, ho2, hb2⟩
    obtain ⟨A2, c2, rfl, V2, B2⟩ := ho2.view
    have hb12 : Below w1.heap.size w1 w2 := (by repeat' (first | (with_reducible exact Below.refl _ _) | (with_reducible assumption) | (with_reducible refine Base.via hb2 ?_) | (with_reducible refine Base.grow_alloc ?_ _) | (with_reducible refine Base.below_drewN ?_ _) | (with_reducible refine Below.drew ?_) | (with_reducible refine Below.setCell ?_ ?_ _) | go_size))
    have hbw : Below w.heap.size w w2 := (by repeat' (first | (with_reducible exact Below.refl _ _) | (with_reducible assumption) | (with_reducible refine Base.via hb12 ?_) | (with_reducible refine Base.via hb1 ?_) | (with_reducible refine Base.grow_alloc ?_ _) | (with_reducible refine Base.below_drewN ?_ _) | (with_reducible refine Below.drew ?_) | (with_reducible refine Below.setCell ?_ ?_ _) | go_size))
    clear ho2 B2
    go_wp2_with (first | (go_at_call 67; refine (HF.out _ A2 c2 (hv.below (by repeat' (first | (with_reducible exact Below.refl _ _) | (with_reducible assumption) | (with_reducible refine Base.via hbw ?_) | (with_reducible refine Base.grow_alloc ?_ _) | (with_reducible refine Base.below_drewN ?_ _) | (with_reducible refine Below.drew ?_) | (with_reducible refine Below.setCell ?_ ?_ _) | go_size))) (V2.below (by repeat' (first | (with_reducible exact Below.refl _ _) | (with_reducible assumption) | (with_reducible refine Base.grow_alloc ?_ _) | (with_reducible refine Base.below_drewN ?_ _) | (with_reducible refine Below.drew ?_) | (with_reducible refine Below.setCell ?_ ?_ _) | go_size)))).mono ?_; rintro e w3 ⟨rfl, hb3⟩; obtain ⟨chb3, fhb3⟩ := Base.bcell hb3; have zhb3 := (hb3).size; (try simp at zhb3); (try have yhb3 : w.heap.size < (w3).heap.size := by omega)))
    go_ret2
    exact ⟨Curve2.ret_pair HV.out.symm HC.out.symm, (by repeat' (first | (with_reducible exact Below.refl _ _) | (with_reducible assumption) | (with_reducible refine Base.via hb3 ?_) | (with_reducible refine Base.via hbw ?_) | (with_reducible refine Base.grow_alloc ?_ _) | (with_reducible refine Base.below_drewN ?_ _) | (with_reducible refine Below.drew ?_) | (with_reducible refine Below.setCell ?_ ?_ _) | go_size))⟩
  · have HV := Lib.hid (show bpV n T M f t s = 0 by rw [bpV, if_neg hc])
    have hq : (srC n T M f t s 3 != 0) = true := by simpa using hc
    go_enter Try.func33, Try.ntmps33
    go_wp2_with (first | (go_at_call 62; refine (HSR.out _ (hv.below (by repeat' (first | (with_reducible exact Below.refl _ _) | (with_reducible assumption) | (with_reducible refine Base.grow_alloc ?_ _) | (with_reducible refine Base.below_drewN ?_ _) | (with_reducible refine Below.drew ?_) | (with_reducible refine Below.setCell ?_ ?_ _) | go_size)))).mono ?_; rintro e w1 ⟨rfl, hb1⟩; obtain ⟨chb1, fhb1⟩ := Base.bcell hb1; have zhb1 := (hb1).size; (try simp at zhb1); (try have yhb1 : w.heap.size < (w1).heap.size := by omega)))
    go_ret2
    exact ⟨Curve2.ret_pair HV.out.symm rfl, (by repeat' (first | (with_reducible exact Below.refl _ _) | (with_reducible assumption) | (with_reducible refine Base.via hb1 ?_) | (with_reducible refine Base.grow_alloc ?_ _) | (with_reducible refine Base.below_drewN ?_ _) | (with_reducible refine Below.drew ?_) | (with_reducible refine Below.setCell ?_ ?_ _) | go_size))⟩
theorem sr_three {n : Nat} {T M : Nat → Int} {f t s : Int} : (srC n T M f t s 0 = 0 ∧ 3 ≤ n ∧ srC n T M f t s 3 = 0) ∨ (srC n T M f t s 0 = 0 ∧ n < 3 ∧ srC n T M f t s 3 = 3) ∨ ((srC n T M f t s 0 == 0) = false ∧ srC n T M f t s 3 = srC n T M f t s 0) := by
  unfold srC
  cases okCurve n T M <;> cases okSearch f t s <;> by_cases h : 40 < n <;> by_cases h2 : n < 3 <;> simp [h, h2] <;> omega
set_option maxHeartbeats 800000 in
theorem c_l10Asked (A : Option Addr) (n c : Nat) (T M : Nat → Int) (f t s : Int) (w : World) (hv : Sl w 2 A n c (f2 T M)) :
    Calls Try.prog 65 #[.slice A n c, .agg #[.int .i64 f, .int .i64 t, .int .i64 s]] w fun e w' => e = .returned (.int .i64 (srC n T M f t s 3)) ∧ Below w.heap.size w w' := by
  have hn := hv.le
  have HSR := Lib.hid (fun (W : World) (hW : Sl W 2 A n c (f2 T M)) => c_l10Code A n c T M f t s W hW)
  rcases sr_three (n := n) (T := T) (M := M) (f := f) (t := t) (s := s) with ⟨h1, h2, hc⟩ | ⟨h1, h2, hc⟩ | ⟨h1, hc⟩
  · rw [h1] at HSR
    have HC := Lib.hid hc
    clear hc h1
    go_enter Try.func65, Try.ntmps65
    go_wp2_with (first | (go_at_call 60; refine (HSR.out _ (hv.below (by repeat' (first | (with_reducible exact Below.refl _ _) | (with_reducible assumption) | (with_reducible refine Base.grow_alloc ?_ _) | (with_reducible refine Base.below_drewN ?_ _) | (with_reducible refine Below.drew ?_) | (with_reducible refine Below.setCell ?_ ?_ _) | go_size)))).mono ?_; rintro e w1 ⟨rfl, hb1⟩; obtain ⟨chb1, fhb1⟩ := Base.bcell hb1; have zhb1 := (hb1).size; (try simp at zhb1); (try have yhb1 : w.heap.size < (w1).heap.size := by omega)))
    go_ret
    exact ⟨ret_int HC.out.symm, (by repeat' (first | (with_reducible exact Below.refl _ _) | (with_reducible assumption) | (with_reducible refine Base.via hb1 ?_) | (with_reducible refine Base.grow_alloc ?_ _) | (with_reducible refine Base.below_drewN ?_ _) | (with_reducible refine Below.drew ?_) | (with_reducible refine Below.setCell ?_ ?_ _) | go_size))⟩
  · rw [h1] at HSR
    have HC := Lib.hid hc
    clear hc h1
    go_enter Try.func65, Try.ntmps65
    go_wp2_with (first | (go_at_call 60; refine (HSR.out _ (hv.below (by repeat' (first | (with_reducible exact Below.refl _ _) | (with_reducible assumption) | (with_reducible refine Base.grow_alloc ?_ _) | (with_reducible refine Base.below_drewN ?_ _) | (with_reducible refine Below.drew ?_) | (with_reducible refine Below.setCell ?_ ?_ _) | go_size)))).mono ?_; rintro e w1 ⟨rfl, hb1⟩; obtain ⟨chb1, fhb1⟩ := Base.bcell hb1; have zhb1 := (hb1).size; (try simp at zhb1); (try have yhb1 : w.heap.size < (w1).heap.size := by omega)))
    go_ret
    exact ⟨ret_int HC.out.symm, (by repeat' (first | (with_reducible exact Below.refl _ _) | (with_reducible assumption) | (with_reducible refine Base.via hb1 ?_) | (with_reducible refine Base.grow_alloc ?_ _) | (with_reducible refine Base.below_drewN ?_ _) | (with_reducible refine Below.drew ?_) | (with_reducible refine Below.setCell ?_ ?_ _) | go_size))⟩
  · have HC := Lib.hid hc
    clear hc
    go_enter Try.func65, Try.ntmps65
    go_wp2_with (first | (go_at_call 60; refine (HSR.out _ (hv.below (by repeat' (first | (with_reducible exact Below.refl _ _) | (with_reducible assumption) | (with_reducible refine Base.grow_alloc ?_ _) | (with_reducible refine Base.below_drewN ?_ _) | (with_reducible refine Below.drew ?_) | (with_reducible refine Below.setCell ?_ ?_ _) | go_size)))).mono ?_; rintro e w1 ⟨rfl, hb1⟩; obtain ⟨chb1, fhb1⟩ := Base.bcell hb1; have zhb1 := (hb1).size; (try simp at zhb1); (try have yhb1 : w.heap.size < (w1).heap.size := by omega)))
    go_ret
    exact ⟨ret_int HC.out.symm, (by repeat' (first | (with_reducible exact Below.refl _ _) | (with_reducible assumption) | (with_reducible refine Base.via hb1 ?_) | (with_reducible refine Base.grow_alloc ?_ _) | (with_reducible refine Base.below_drewN ?_ _) | (with_reducible refine Below.drew ?_) | (with_reducible refine Below.setCell ?_ ?_ _) | go_size))⟩
set_option maxHeartbeats 1600000 in
theorem c_specBestPeriod (A : Option Addr) (n c : Nat) (T M : Nat → Int) (f t s : Int) (w : World) (hv : Sl w 2 A n c (f2 T M)) :
    Calls Try.prog 32 #[.slice A n c, .agg #[.int .i64 f, .int .i64 t, .int .i64 s]] w fun e w' => e = .returned (.tuple #[.int .i64 (bpV n T M f t s), .int .i64 (srC n T M f t s 3)]) ∧ Below w.heap.size w w' := by
  have HSR := Lib.hid (fun (W : World) (hW : Sl W 2 A n c (f2 T M)) => c_l10Asked A n c T M f t s W hW)
  by_cases hc : srC n T M f t s 3 = 0
  · obtain ⟨h1, h2, h3, _⟩ := sr_ok hc
    obtain ⟨sb1, sb2, sb3, _⟩ := okSearch_bd h2
    have hlt := bpI_lt (n := n) (T := T) (M := M) h2
    have hN := (perN_ok h2).1
    have hpb := per_bd h2 _ hlt
    have hV : bpV n T M f t s = perF f s (bpI n T M f t s) := by rw [bpV, if_pos hc]
    have HF := Lib.hid (fun (W : World) (hW : Sl W 2 A n c (f2 T M)) => c_l10All A n c T M f t s W hW h1 h2)
    have HB := Lib.hid (fun (W : World) (B : Option Addr) (cb : Nat) (hW : Sl W 1 B (perN f t s) cb (f1 (lenF n T M f s))) => by have := c_l10Best B (perN f t s) cb (lenF n T M f s) 0 (-1) allP W hW (fun k => rfl); rw [bst_bp h2] at this; exact this)
    rw [hc] at HSR
    have HC := Lib.hid hc
    clear hc
    obtain ⟨i, hi⟩ : ∃ i, bpI n T M f t s = i := ⟨_, rfl⟩
    rw [hi] at hlt hpb hV HB
    clear hi
    have HV : Hid (bpV n T M f t s = f + s * i) := Lib.hid (by rw [hV, perF, Int.mul_comm])
    have hm : 0 ≤ s * (i : Int) ∧ f + s * (i : Int) ≤ 1000000 := by
      have : 0 ≤ s * (i : Int) := Int.mul_nonneg (by omega) (by omega)
      rw [perF, Int.mul_comm] at hpb
      omega
    clear hV hpb
    go_enter Try.func32, Try.ntmps32
    go_wp2_with (first | (go_at_call 65; refine (HSR.out _ (hv.below (by repeat' (first | (with_reducible exact Below.refl _ _) | (with_reducible assumption) | (with_reducible refine Base.grow_alloc ?_ _) | (with_reducible refine Base.below_drewN ?_ _) | (with_reducible refine Below.drew ?_) | (with_reducible refine Below.setCell ?_ ?_ _) | go_size)))).mono ?_; rintro e w1 ⟨rfl, hb1⟩; obtain ⟨chb1, fhb1⟩ := Base.bcell hb1; have zhb1 := (hb1).size; (try simp at zhb1); (try have yhb1 : w.heap.size < (w1).heap.size := by omega)))
    have k0 : World.cell? w1 ⟨w.heap.size, 0, none⟩ = some (.int .i64 f) := ((hb1.cell (p := ⟨w.heap.size, 0, none⟩) (by first | (simp; done) | (simp; omega) | omega)).trans (by simp [go_sem]))
    have k1 : World.cell? w1 ⟨w.heap.size, 1, none⟩ = some (.int .i64 t) := ((hb1.cell (p := ⟨w.heap.size, 1, none⟩) (by first | (simp; done) | (simp; omega) | omega)).trans (by simp [go_sem]))
    have k2 : World.cell? w1 ⟨w.heap.size, 2, none⟩ = some (.int .i64 s) := ((hb1.cell (p := ⟨w.heap.size, 2, none⟩) (by first | (simp; done) | (simp; omega) | omega)).trans (by simp [go_sem]))
    have hbw : Below w.heap.size w w1 := (by repeat' (first | (with_reducible exact Below.refl _ _) | (with_reducible assumption) | (with_reducible refine Base.via hb1 ?_) | (with_reducible refine Base.grow_alloc ?_ _) | (with_reducible refine Base.below_drewN ?_ _) | (with_reducible refine Below.drew ?_) | (with_reducible refine Below.setCell ?_ ?_ _) | go_size))
    have hvw := hv.below hbw
    clear chb1 fhb1 hb1
    go_region_held3 (fun V => (V.cell? ⟨w.heap.size, 0, none⟩ = some (.int .i64 f) ∧ V.cell? ⟨w.heap.size, 1, none⟩ = some (.int .i64 t) ∧ V.cell? ⟨w.heap.size, 2, none⟩ = some (.int .i64 s)) ∧ Below w1.heap.size w1 V)
      (first | exact ⟨⟨cell_drew k0, cell_drew k1, cell_drew k2⟩, (by repeat' (first | (with_reducible exact Below.refl _ _) | (with_reducible assumption) | (with_reducible refine Base.grow_alloc ?_ _) | (with_reducible refine Base.below_drewN ?_ _) | (with_reducible refine Below.drew ?_) | (with_reducible refine Below.setCell ?_ ?_ _) | go_size))⟩ | (obtain ⟨⟨d0, d1, d2⟩, hs⟩ := ‹_ ∧ Below w1.heap.size w1 _›; exact ⟨⟨cell_call hb3 d0, cell_call hb3 d1, cell_call hb3 d2⟩, Base.via hb3 hs⟩) | (obtain ⟨⟨d0, d1, d2⟩, hs⟩ := ‹_ ∧ Below w1.heap.size w1 _›; exact ⟨⟨cell_call hb2 d0, cell_call hb2 d1, cell_call hb2 d2⟩, Base.via hb2 hs⟩))
      (first | (have hs := (‹_ ∧ Below w1.heap.size w1 _›).2; go_at_call 61; refine (HF.out _ (hvw.below hs)).mono ?_; rintro e w2 ⟨v2, rfl, ho2, hb2⟩; obtain ⟨A2, c2, rfl, V2, B2⟩ := ho2.view) | (go_at_call 66; refine (HB.out _ A2 c2 (V2.below (by repeat' (first | (with_reducible exact Below.refl _ _) | (with_reducible assumption) | (with_reducible refine Base.grow_alloc ?_ _) | (with_reducible refine Base.below_drewN ?_ _) | (with_reducible refine Below.drew ?_) | (with_reducible refine Below.setCell ?_ ?_ _) | go_size)))).mono ?_; rintro e w3 ⟨rfl, hb3⟩))
    all_goals
      obtain ⟨_, hE⟩ := ‹_ ∧ Below w1.heap.size w1 _›
      go_wp2
      go_ret2
      exact ⟨Curve2.ret_pair (by rw [IntWalk.i64_in (s * (i : Int)) (by omega), IntWalk.i64_in _ (by omega)]; exact HV.out.symm) HC.out.symm, (by repeat' (first | (with_reducible exact Below.refl _ _) | (with_reducible assumption) | (with_reducible refine Base.via hE ?_) | (with_reducible refine Base.via hbw ?_) | (with_reducible refine Base.grow_alloc ?_ _) | (with_reducible refine Base.below_drewN ?_ _) | (with_reducible refine Below.drew ?_) | (with_reducible refine Below.setCell ?_ ?_ _) | go_size))⟩
  · have HV := Lib.hid (show bpV n T M f t s = 0 by rw [bpV, if_neg hc])
    have hq : (srC n T M f t s 3 != 0) = true := by simpa using hc
    go_enter Try.func32, Try.ntmps32
    go_wp2_with (first | (go_at_call 65; refine (HSR.out _ (hv.below (by repeat' (first | (with_reducible exact Below.refl _ _) | (with_reducible assumption) | (with_reducible refine Base.grow_alloc ?_ _) | (with_reducible refine Base.below_drewN ?_ _) | (with_reducible refine Below.drew ?_) | (with_reducible refine Below.setCell ?_ ?_ _) | go_size)))).mono ?_; rintro e w1 ⟨rfl, hb1⟩; obtain ⟨chb1, fhb1⟩ := Base.bcell hb1; have zhb1 := (hb1).size; (try simp at zhb1); (try have yhb1 : w.heap.size < (w1).heap.size := by omega)))
    go_ret2
    exact ⟨Curve2.ret_pair HV.out.symm rfl, (by repeat' (first | (with_reducible exact Below.refl _ _) | (with_reducible assumption) | (with_reducible refine Base.via hb1 ?_) | (with_reducible refine Base.grow_alloc ?_ _) | (with_reducible refine Base.below_drewN ?_ _) | (with_reducible refine Below.drew ?_) | (with_reducible refine Below.setCell ?_ ?_ _) | go_size))⟩
end Go.Proofs.Ytenjcdhehjdeoaa.Str
