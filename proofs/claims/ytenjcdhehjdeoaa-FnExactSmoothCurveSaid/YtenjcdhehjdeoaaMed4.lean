/- Running medians: both sides. -/
import Derived.Test.YtenjcdhehjdeoaaMed3
import Derived.Test.YtenjcdhehjdeoaaCurve2
namespace Go.Proofs.Ytenjcdhehjdeoaa.Med
set_option linter.unusedVariables false
set_option linter.unusedSimpArgs false
set_option maxRecDepth 8000
open Go.RowKit Plain Num View Frac

set_option maxHeartbeats 1600000 in
theorem c_l02Median (A : Option Addr) (n c : Nat) (T : Nat → Int) (w : World) (hv : Sl w 1 A n c (f1 T)) (h1 : 1 ≤ n) (hT : ∀ i, i < n → -2000 ≤ T i ∧ T i ≤ 20000) :
    Calls Try.prog 79 #[.slice A n c] w fun e w' => e = .returned (.int .i64 (medV n T)) ∧ Below w.heap.size w w' := by
  have hn := hv.le
  have HS := Lib.hid (c_l02Sort A n c T w hv)
  have HT := Lib.hid (fun i (hi : i < n) => srt_bd hT i hi)
  clear hT hv
  go_enter Try.func79, Try.ntmps79
  go_wp2_with (first | (go_at_call 95; refine HS.out.mono ?_))
  rintro e w2 ⟨v, rfl, ho, hb2⟩
  obtain ⟨A2, c2, rfl, V2, B2⟩ := ho.view
  have hbw : Below w.heap.size w w2 := (by repeat' (first | (with_reducible exact Below.refl _ _) | (with_reducible assumption) | (with_reducible refine Base.via hb2 ?_) | (with_reducible refine Base.grow_alloc ?_ _) | (with_reducible refine Base.below_drewN ?_ _) | (with_reducible refine Below.drew ?_) | (with_reducible refine Below.setCell ?_ ?_ _) | go_size))
  obtain ⟨b2, off2, rfl, hb2', hc2⟩ := V2.at_ (by omega)
  clear ho B2
  obtain ⟨q, hq⟩ : ∃ q, n / 2 = q := ⟨_, rfl⟩
  have o1 := cells1 hc2 q (by omega)
  have t1 := HT.out q (by omega)
  have eq1 : (n : Int).tdiv 2 = q := by
    rw [← hq]
    exact Int.ofNat_tdiv n 2
  have eq2 : (n : Int) / 2 = q := by omega
  have i1 : (0 : Int) ≤ (q : Int) := by omega
  have i2 : (q : Int) < n := by omega
  by_cases hodd : n % 2 = 1
  · have HR := Lib.hid (show medV n T = lf (srt n T) q by rw [med_odd hodd, hq])
    have em : ((n : Int).tmod 2 == 1) = true := by
      rw [beq_iff_eq]
      have : (n : Int).tmod 2 = ((n % 2 : Nat) : Int) := Int.ofNat_tmod n 2
      omega
    have em2 : (n : Int) % 2 = 1 := by omega
    clear hq hc2
    go_wp2
    go_ret
    exact ⟨ret_int HR.out.symm, hbw⟩
  · obtain ⟨r, rfl⟩ : ∃ r, q = r + 1 := ⟨q - 1, by omega⟩
    have o2 := cells1 hc2 r (by omega)
    have t2 := HT.out r (by omega)
    have HR := Lib.hid (show medV n T = nrI (lf (srt n T) r + lf (srt n T) (r + 1)) 2 by rw [med_even hodd, hq]; rfl)
    have em : ((n : Int).tmod 2 == 1) = false := by
      rw [beq_eq_false_iff_ne]
      have : (n : Int).tmod 2 = ((n % 2 : Nat) : Int) := Int.ofNat_tmod n 2
      omega
    have em2 : ¬ (n : Int) % 2 = 1 := by omega
    have i3 : (0 : Int) ≤ (r : Int) := by omega
    have i4 : (r : Int) < n := by omega
    have e5 : IntKind.i64.wrap ((r : Int) + 1) = (r : Int) + 1 := IntWalk.i64_in _ (by omega)
    have e6 : IntKind.i64.wrap ((r : Int) + 1 - 1) = (r : Int) := by rw [IntWalk.i64_in _ (by omega)]; omega
    have e7 : IntKind.i64.wrap (r : Int) = (r : Int) := IntWalk.i64_in _ (by omega)
    have t5 : ((r : Int) + 1).toNat = r + 1 := by omega
    clear hq hc2
    generalize lf (srt n T) r = x at *
    generalize lf (srt n T) (r + 1) = y at *
    have ew : IntKind.i64.wrap (x + y) = x + y := IntWalk.i64_in _ (by omega)
    go_wp2
    go_quiet ((first | (go_at_call 96; exact Calls.quiet_of_same ((c_l02Round _ _ _ (by omega) (by omega) (by omega) (by omega)).mono fun _ _ h => ⟨h.1, h.2.symm⟩))))
    go_wp2
    go_ret
    exact ⟨ret_int HR.out.symm, (by repeat' (first | (with_reducible exact Below.refl _ _) | (with_reducible assumption) | (with_reducible refine Base.via hbw ?_) | (with_reducible refine Base.grow_alloc ?_ _) | (with_reducible refine Base.below_drewN ?_ _) | (with_reducible refine Below.drew ?_) | (with_reducible refine Below.setCell ?_ ?_ _) | go_size))⟩
/-- the window around place i -/
def winN (n i s : Nat) : Nat := min (i + s + 1) n - (i - s)
def winF (M : Nat → Int) (i s : Nat) (j : Nat) : Int := M (i - s + j)
/-- the running median -/
def rmV (n : Nat) (M : Nat → Int) (i s : Nat) : Int := medV (winN n i s) (winF M i s)
theorem rm_bd {n i s : Nat} {M : Nat → Int} (hi : i < n) (hM : ∀ j, j < n → -2000 ≤ M j ∧ M j ≤ 20000) : -2000 ≤ rmV n M i s ∧ rmV n M i s ≤ 20000 :=
  med_bd (by unfold winN; omega) (fun j hj => hM _ (by unfold winN at hj; omega))
set_option maxHeartbeats 1600000 in
theorem c_runningMedian (A : Option Addr) (n c : Nat) (T M : Nat → Int) (i s : Nat) (w : World) (hv : Sl w 2 A n c (f2 T M)) (hi : i < n) (hs : s ≤ 10) (h100 : n ≤ 100) (hM : ∀ j, j < n → -2000 ≤ M j ∧ M j ≤ 20000) :
    Calls Try.prog 51 #[.slice A n c, .int .i64 i, .int .i64 s] w fun e w' => e = .returned (.int .i64 (rmV n M i s)) ∧ Below w.heap.size w w' := by
  have hnc := hv.leC
  have hcm := hv.leM
  obtain ⟨b, off, rfl, hb, hc⟩ := hv.at_ (by omega)
  obtain ⟨i0, hi0, hz0, hz1, hz2⟩ := info_parts Help.infoInt64
  obtain ⟨lo, hlo⟩ : ∃ lo, i - s = lo := ⟨_, rfl⟩
  obtain ⟨hg, hhg⟩ : ∃ hg, min (i + s + 1) n = hg := ⟨_, rfl⟩
  have hlh : lo < hg := by omega
  have hgn : hg ≤ n := by omega
  obtain ⟨m, hm⟩ : ∃ m, hg - lo = m := ⟨_, rfl⟩
  have HR : Hid (rmV n M i s = medV m (fun j => M (lo + j))) := Lib.hid (by
    have e1 : winN n i s = m := by unfold winN; omega
    have e2 : winF M i s = fun j => M (lo + j) := by funext j; unfold winF; rw [hlo]
    rw [rmV, e1, e2])
  have HC := Lib.hid (show ∀ j, j < m → w.cell? ⟨b, off + lo * 2 + j * 2, none⟩ = some (.int .i64 (T (lo + j))) ∧ w.cell? ⟨b, off + lo * 2 + j * 2 + 1, none⟩ = some (.int .i64 (M (lo + j))) from fun j hj => by
    obtain ⟨h0, h1⟩ := cells2 hc (lo + j) (by omega)
    have e : off + (lo + j) * 2 = off + lo * 2 + j * 2 := by omega
    rw [e] at h0 h1
    exact ⟨h0, h1⟩)
  have HMD := Lib.hid (fun (W : World) (A1 : Option Addr) (c1 : Nat) (V : Sl W 1 A1 m c1 (f1 (fun j => M (lo + j)))) => c_median A1 m c1 (fun j => M (lo + j)) W V (by omega) (fun j hj => hM _ (by omega)))
  clear hc hM hv
  have e1 : IntKind.i64.wrap ((i : Int) - s) = (i : Int) - s := IntWalk.i64_in _ (by omega)
  have e2 : IntKind.i64.wrap ((i : Int) + s) = (i : Int) + s := IntWalk.i64_in _ (by omega)
  have e3 : IntKind.i64.wrap ((i : Int) + s + 1) = (i : Int) + s + 1 := IntWalk.i64_in _ (by omega)
  have g1 : (0 : Int) ≤ (lo : Int) := by omega
  have g2 : (lo : Int) ≤ (hg : Int) := by omega
  have g3 : (hg : Int) ≤ (c : Int) := by omega
  have g4 : ¬ c = lo := by omega
  have x1 : max ((i : Int) - s) 0 = (lo : Int) := by omega
  have x2 : min ((i : Int) + s + 1) (n : Int) = (hg : Int) := by omega
  have hml : m ≤ 1048576 := by omega
  clear hlo hhg
  go_enter Try.func51, Try.ntmps51
  go_wp2
  clear x1 x2 e1 e2 e3
  go_loopw [7, 9, 25] (fun v _ q wr => ∃ k : Nat, k ≤ m ∧ q = .int .i64 k ∧ wr.ownsRow w.heap.size 2 1 v (sel k all1 (fun j => M (lo + j))).length (cellL (sel k all1 (fun j => M (lo + j)))) ∧ Below w.heap.size w wr) (fun _ _ q _ => m - (intOf q).toNat)
  case atStart => exact ⟨0, Nat.zero_le _, rfl, World.ownsRow_made _ _ _ (by omega) (by simp [maxLen]) rfl, (by repeat' (first | (with_reducible exact Below.refl _ _) | (with_reducible assumption) | (with_reducible refine Base.grow_alloc ?_ _) | (with_reducible refine Base.below_drewN ?_ _) | (with_reducible refine Below.drew ?_) | (with_reducible refine Below.setCell ?_ ?_ _) | go_size))⟩
  case round =>
    obtain ⟨k, hk, rfl, hown, hbr⟩ := hrel
    have hz := hbr.size
    have hl := sel_all_len (k := k) (g := fun j => M (lo + j))
    by_cases hlt : k < m
    · obtain ⟨q0, q1⟩ := HC.out k hlt
      have h0 := (hbr.cell (p := ⟨b, off + lo * 2 + k * 2, none⟩) hb).trans q0
      have h1 := (hbr.cell (p := ⟨b, off + lo * 2 + k * 2 + 1, none⟩) hb).trans q1
      clear q0 q1
      go_wp2_with (first | (at_builtin; refine wpList_append_own _ rfl _ _ 24 rfl (w.heap.size) 2 i0 _ 1 8 Try.underlying24 hi0 hz0 hz1 hz2 rfl (by decide) _ _ _ rfl (own_of_below hown (by repeat' (first | (with_reducible exact Below.refl _ _) | (with_reducible assumption) | (with_reducible refine Base.grow_alloc ?_ _) | (with_reducible refine Base.below_drewN ?_ _) | (with_reducible refine Below.drew ?_) | (with_reducible refine Below.setCell ?_ ?_ _) | go_size))) ⟨_, 0, none⟩ 1 1 [.int .i64 (M (lo + k))] rfl rfl (cell_newL _ [.int .i64 (M (lo + k))] _ (by simp)) (by simp [Value.oneCell']) (by simp only [maxLen]; omega) (by omega) (by simp; omega) ?_))
      intro v' w1 hown' hgrow _
      have hb1 : Below w.heap.size w w1 := own_grow (by repeat' (first | (with_reducible exact Below.refl _ _) | (with_reducible assumption) | (with_reducible refine Base.grow_alloc ?_ _) | (with_reducible refine Base.below_drewN ?_ _) | (with_reducible refine Below.drew ?_) | (with_reducible refine Below.setCell ?_ ?_ _) | go_size)) hown (Nat.le_refl _) hgrow
      clear hown hgrow
      go_wp2
      go_roundw
      case rel => exact ⟨k + 1, by omega, by go_num, by rw [sel_yes rfl]; exact own_snoc (by rw [hl]; exact hown'), hb1⟩
      case measure => simp [intOf]; omega
    · have hkn : k = m := by omega
      subst hkn
      obtain ⟨A1, c1, rfl, V1, _⟩ := (OwnK.of_all hown (by omega)).view
      clear hown
      go_wp2_with (first | (go_at_call 82; refine (HMD.out _ A1 c1 (V1.below (by repeat' (first | (with_reducible exact Below.refl _ _) | (with_reducible assumption) | (with_reducible refine Base.grow_alloc ?_ _) | (with_reducible refine Base.below_drewN ?_ _) | (with_reducible refine Below.drew ?_) | (with_reducible refine Below.setCell ?_ ?_ _) | go_size)))).mono ?_; rintro e w1 ⟨rfl, hb1⟩; obtain ⟨chb1, fhb1⟩ := Base.bcell hb1; have zhb1 := (hb1).size; (try simp at zhb1); (try have yhb1 : w.heap.size < (w1).heap.size := by omega)))
      go_ret
      exact ⟨ret_int HR.out.symm, (by repeat' (first | (with_reducible exact Below.refl _ _) | (with_reducible assumption) | (with_reducible refine Base.via hb1 ?_) | (with_reducible refine Base.via hbr ?_) | (with_reducible refine Base.grow_alloc ?_ _) | (with_reducible refine Base.below_drewN ?_ _) | (with_reducible refine Below.drew ?_) | (with_reducible refine Below.setCell ?_ ?_ _) | go_size))⟩
set_option maxHeartbeats 1600000 in
theorem c_l08Median (A : Option Addr) (n c : Nat) (T M : Nat → Int) (i s : Nat) (w : World) (hv : Sl w 2 A n c (f2 T M)) (hi : i < n) (hs : s ≤ 10) (h100 : n ≤ 100) (hM : ∀ j, j < n → -2000 ≤ M j ∧ M j ≤ 20000) :
    Calls Try.prog 44 #[.slice A n c, .int .i64 i, .int .i64 s] w fun e w' => e = .returned (.int .i64 (rmV n M i s)) ∧ Below w.heap.size w w' := by
  obtain ⟨b, off, rfl, hb, hc⟩ := hv.at_ (by omega)
  obtain ⟨i0, hi0, hz0, hz1, hz2⟩ := info_parts Help.infoInt64
  obtain ⟨lo, hlo⟩ : ∃ lo, i - s = lo := ⟨_, rfl⟩
  obtain ⟨m, hm⟩ : ∃ m, min (i + s + 1) n - lo = m := ⟨_, rfl⟩
  have HR : Hid (rmV n M i s = medV m (fun j => M (lo + j))) := Lib.hid (by
    have e1 : winN n i s = m := by unfold winN; omega
    have e2 : winF M i s = fun j => M (lo + j) := by funext j; unfold winF; rw [hlo]
    rw [rmV, e1, e2])
  have HC := Lib.hid (show ∀ j, j < n → w.cell? ⟨b, off + j * 2 + 1, none⟩ = some (.int .i64 (M j)) from fun j hj => (cells2 hc j hj).2)
  have HMD := Lib.hid (fun (W : World) (A1 : Option Addr) (c1 : Nat) (V : Sl W 1 A1 m c1 (f1 (fun j => M (lo + j)))) => c_l02Median A1 m c1 (fun j => M (lo + j)) W V (by omega) (fun j hj => hM _ (by omega)))
  clear hc hM hv
  have e1 : IntKind.i64.wrap ((i : Int) - s) = (i : Int) - s := IntWalk.i64_in _ (by omega)
  have e2 : IntKind.i64.wrap ((i : Int) + s) = (i : Int) + s := IntWalk.i64_in _ (by omega)
  have hml : m ≤ 1048576 := by omega
  go_enter Try.func44, Try.ntmps44
  go_wp2
  go_loopw [7, 8] (fun v q wr => ∃ (k : Nat) (x : Int), k ≤ m ∧ q = .int .i64 x ∧ (i : Int) - s ≤ x ∧ x ≤ i + s + 1 ∧ (x < lo → k = 0) ∧ ((lo : Int) ≤ x → x < n → x = lo + k) ∧ ((n : Int) ≤ x → k = m) ∧ wr.ownsRow w.heap.size 2 1 v (sel k all1 (fun j => M (lo + j))).length (cellL (sel k all1 (fun j => M (lo + j)))) ∧ Below w.heap.size w wr) (fun _ q _ => ((i : Int) + s + 1 - intOf q).toNat)
  case atStart => exact ⟨0, (i : Int) - s, Nat.zero_le _, rfl, by omega, by omega, by omega, by omega, by omega, World.ownsRow_made _ _ _ (by omega) (by simp [maxLen]) rfl, (by repeat' (first | (with_reducible exact Below.refl _ _) | (with_reducible assumption) | (with_reducible refine Base.grow_alloc ?_ _) | (with_reducible refine Base.below_drewN ?_ _) | (with_reducible refine Below.drew ?_) | (with_reducible refine Below.setCell ?_ ?_ _) | go_size))⟩
  case round =>
    obtain ⟨k, x, hk, rfl, x0, x1, x2, x3, x4, hown, hbr⟩ := hrel
    have hz := hbr.size
    have hl := sel_all_len (k := k) (g := fun j => M (lo + j))
    by_cases hle : x ≤ (i : Int) + s
    · by_cases hin : (0 : Int) ≤ x ∧ x < n
      · obtain ⟨y0, y1⟩ := hin
        have y2 : x = lo + k := x3 (by omega) y1
        obtain ⟨xn, rfl⟩ : ∃ xn : Nat, x = xn := ⟨x.toNat, by omega⟩
        have hxn : xn = lo + k := by omega
        have h1 := (hbr.cell (p := ⟨b, off + xn * 2 + 1, none⟩) hb).trans (HC.out xn (by omega))
        have hkm : k < m := by omega
        have HX := Lib.hid hxn
        clear y2 hxn x2 x3 x4
        go_wp2_with (first | (at_builtin; refine wpList_append_own _ rfl _ _ 24 rfl (w.heap.size) 2 i0 _ 1 8 Try.underlying24 hi0 hz0 hz1 hz2 rfl (by decide) _ _ _ rfl (own_of_below hown (by repeat' (first | (with_reducible exact Below.refl _ _) | (with_reducible assumption) | (with_reducible refine Base.grow_alloc ?_ _) | (with_reducible refine Base.below_drewN ?_ _) | (with_reducible refine Below.drew ?_) | (with_reducible refine Below.setCell ?_ ?_ _) | go_size))) ⟨_, 0, none⟩ 1 1 [.int .i64 (M xn)] rfl rfl (cell_newL _ [.int .i64 (M xn)] _ (by simp)) (by simp [Value.oneCell']) (by simp only [maxLen]; omega) (by omega) (by simp; omega) ?_))
        intro v' w1 hown' hgrow _
        have hb1 : Below w.heap.size w w1 := own_grow (by repeat' (first | (with_reducible exact Below.refl _ _) | (with_reducible assumption) | (with_reducible refine Base.grow_alloc ?_ _) | (with_reducible refine Base.below_drewN ?_ _) | (with_reducible refine Below.drew ?_) | (with_reducible refine Below.setCell ?_ ?_ _) | go_size)) hown (Nat.le_refl _) hgrow
        have HXX := HX.out
        clear hown hgrow
        go_wp2
        go_roundw
        case rel => exact ⟨k + 1, (xn : Int) + 1, by omega, by go_num, by omega, by omega, by omega, by omega, by omega, by rw [sel_yes rfl]; exact own_snoc (by rw [hl, ← HX.out]; exact hown'), hb1⟩
        case measure => simp [intOf]; omega
      · by_cases y0 : (0 : Int) ≤ x
        · have y1 : ¬ x < n := fun h => hin ⟨y0, h⟩
          clear hin
          go_wp2
          go_roundw
          case rel => exact ⟨k, x + 1, by omega, by go_num, by omega, by omega, by omega, by omega, by omega, own_of_below hown (by repeat' (first | (with_reducible exact Below.refl _ _) | (with_reducible assumption) | (with_reducible refine Base.grow_alloc ?_ _) | (with_reducible refine Base.below_drewN ?_ _) | (with_reducible refine Below.drew ?_) | (with_reducible refine Below.setCell ?_ ?_ _) | go_size)), (by repeat' (first | (with_reducible exact Below.refl _ _) | (with_reducible assumption) | (with_reducible refine Base.grow_alloc ?_ _) | (with_reducible refine Base.below_drewN ?_ _) | (with_reducible refine Below.drew ?_) | (with_reducible refine Below.setCell ?_ ?_ _) | go_size))⟩
          case measure => simp [intOf]; omega
        · clear hin
          go_wp2
          go_roundw
          case rel => exact ⟨k, x + 1, by omega, by go_num, by omega, by omega, by omega, by omega, by omega, own_of_below hown (by repeat' (first | (with_reducible exact Below.refl _ _) | (with_reducible assumption) | (with_reducible refine Base.grow_alloc ?_ _) | (with_reducible refine Base.below_drewN ?_ _) | (with_reducible refine Below.drew ?_) | (with_reducible refine Below.setCell ?_ ?_ _) | go_size)), (by repeat' (first | (with_reducible exact Below.refl _ _) | (with_reducible assumption) | (with_reducible refine Base.grow_alloc ?_ _) | (with_reducible refine Base.below_drewN ?_ _) | (with_reducible refine Below.drew ?_) | (with_reducible refine Below.setCell ?_ ?_ _) | go_size))⟩
          case measure => simp [intOf]; omega
    · have hkn : k = m := by
        by_cases h : x < n
        · have := x3 (by omega) h; omega
        · exact x4 (by omega)
      subst hkn
      obtain ⟨A1, c1, rfl, V1, _⟩ := (OwnK.of_all hown (by omega)).view
      clear hown
      go_wp2_with (first | (go_at_call 79; refine (HMD.out _ A1 c1 (V1.below (by repeat' (first | (with_reducible exact Below.refl _ _) | (with_reducible assumption) | (with_reducible refine Base.grow_alloc ?_ _) | (with_reducible refine Base.below_drewN ?_ _) | (with_reducible refine Below.drew ?_) | (with_reducible refine Below.setCell ?_ ?_ _) | go_size)))).mono ?_; rintro e w1 ⟨rfl, hb1⟩; obtain ⟨chb1, fhb1⟩ := Base.bcell hb1; have zhb1 := (hb1).size; (try simp at zhb1); (try have yhb1 : w.heap.size < (w1).heap.size := by omega)))
      go_ret
      exact ⟨ret_int HR.out.symm, (by repeat' (first | (with_reducible exact Below.refl _ _) | (with_reducible assumption) | (with_reducible refine Base.via hb1 ?_) | (with_reducible refine Base.via hbr ?_) | (with_reducible refine Base.grow_alloc ?_ _) | (with_reducible refine Base.below_drewN ?_ _) | (with_reducible refine Below.drew ?_) | (with_reducible refine Below.setCell ?_ ?_ _) | go_size))⟩
end Go.Proofs.Ytenjcdhehjdeoaa.Med
