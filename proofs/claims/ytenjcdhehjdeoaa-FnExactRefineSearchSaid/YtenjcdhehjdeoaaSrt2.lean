/- A row of the call's own: rotations, and the insertion sort by a closure. -/
import Derived.Test.YtenjcdhehjdeoaaSrt
import Derived.Test.YtenjcdhehjdeoaaIdx
namespace Go.Proofs.Ytenjcdhehjdeoaa.Srt
set_option linter.unusedVariables false
set_option linter.unusedSimpArgs false
set_option maxRecDepth 8000
open Go.RowKit Plain Num View Sym

theorem c_swapRange' (g n c : Nat) (w0 : World) (gf : Nat) (lb : Array Value) (a b k : Nat) (x y z : Int) (hx : x = a) (hy : y = b) (hz : z = k) (D : Nat → Int) (w : World) (hn : n ≤ 1048576) (hc : n ≤ c) (hcm : c ≤ 9223372036854775807)
    (hs : St w0 w 2 g n D) (ha : a + k ≤ n) (hb : b + k ≤ n) (hd : a + k ≤ b ∨ b + k ≤ a) :
    Calls Try.prog 141 #[.slice (some ⟨g, 0, none⟩) n c, .int .i64 x, .int .i64 y, .int .i64 z, .func (.func gf) #[] lb] w fun e w' => e = .returned (.tuple #[]) ∧ St w0 w' 2 g n (swR D a b k) := by
  subst hx; subst hy; subst hz
  exact c_swapRange g n c w0 gf lb a b k D w hn hc hcm hs ha hb hd
set_option maxHeartbeats 3200000 in
theorem c_rotate (g n c : Nat) (w0 : World) (gf : Nat) (lb : Array Value) (a m b : Nat) (D : Nat → Int) (w : World) (hn : n ≤ 1048576) (hc : n ≤ c) (hcm : c ≤ 9223372036854775807)
    (hs : St w0 w 2 g n D) (ham : a < m) (hmb : m < b) (hbn : b ≤ n) :
    Calls Try.prog 134 #[.slice (some ⟨g, 0, none⟩) n c, .int .i64 a, .int .i64 m, .int .i64 b, .func (.func gf) #[] lb] w fun e w' => e = .returned (.tuple #[]) ∧ St w0 w' 2 g n (rot D a m b) := by
  have HS := Lib.hid hs
  clear hs
  go_enter Try.func134, Try.ntmps134
  go_wp2
  go_loopw [10, 11] (fun u v wr => ∃ (i j : Nat), u = .int .i64 i ∧ v = .int .i64 j ∧ 0 < i ∧ 0 < j ∧ a + i ≤ m ∧ m + j ≤ b ∧ Hid (∃ D', rot D' (m - i) m (m + j) = rot D a m b ∧ St w0 wr 2 g n D')) (fun u v _ => (intOf u).toNat + (intOf v).toNat)
  case atStart => exact ⟨m - a, b - m, by congr 1; omega, by congr 1; omega, by omega, by omega, by omega, by omega, (show ∃ D', _ from ⟨D, by rw [show m - (m - a) = a by omega, show m + (b - m) = b by omega], HS.out⟩)⟩
  case round =>
    obtain ⟨i, j, rfl, rfl, hi, hj, hai, hjb, hst⟩ := hrel
    obtain ⟨D', hrot, hst⟩ := hst.out
    have HR := Lib.hid hrot
    have HST := Lib.hid hst
    clear hrot hst
    by_cases hij : i = j
    · subst hij
      have HE := Lib.hid ((rot_even (D := D') (show i ≤ m by omega)).trans HR.out)
      go_wp2_with (first | (go_at_call 141; refine (c_swapRange' g n c w0 gf lb (m - i) m i _ _ _ (by omega) (by omega) (by omega) D' _ hn hc hcm HST.out (by omega) (by omega) (by omega)).mono ?_; rintro e w2 ⟨rfl, hs2⟩))
      go_end0
      exact ⟨rfl, by rw [← HE.out]; exact hs2⟩
    · have hne : ¬ ((i : Int) = (j : Int)) := by omega
      by_cases hlt : j < i
      · have HE := Lib.hid ((rot_left (D := D') (show i ≤ m by omega) hlt).trans HR.out)
        go_wp2_with (first | (go_at_call 141; refine (c_swapRange' g n c w0 gf lb (m - i) m j _ _ _ (by omega) (by omega) (by omega) D' _ hn hc hcm HST.out (by omega) (by omega) (by omega)).mono ?_; rintro e w2 ⟨rfl, hs2⟩))
        go_roundw
        case rel => exact ⟨i - j, j, by congr 1; omega, rfl, by omega, by omega, by omega, by omega, (show ∃ D', _ from ⟨_, HE.out, hs2⟩)⟩
        case measure => simp [intOf]; omega
      · have HE := Lib.hid ((rot_right (D := D') (show i ≤ m by omega) (show i < j by omega) hi).trans HR.out)
        go_wp2_with (first | (go_at_call 141; refine (c_swapRange' g n c w0 gf lb (m - i) (m + j - i) i _ _ _ (by omega) (by omega) (by omega) D' _ hn hc hcm HST.out (by omega) (by omega) (by omega)).mono ?_; rintro e w2 ⟨rfl, hs2⟩))
        go_roundw
        case rel => exact ⟨i, j - i, rfl, by congr 1; omega, by omega, by omega, by omega, by omega, (show ∃ D', _ from ⟨_, HE.out, hs2⟩)⟩
        case measure => simp [intOf]; omega
set_option maxHeartbeats 3200000 in
theorem c_insertion (g n c : Nat) (w0 : World) (gf : Nat) (lb : Array Value) (K : Int → Int) (eg : ∀ args w, (callFunc gf args).run Try.prog w = .ok (.enter gf args) w) (hcmp : CmpOk Try.prog w0 gf lb n K)
    (a b : Nat) (D : Nat → Int) (w : World) (hn : n ≤ 1048576) (hc : n ≤ c) (hcm : c ≤ 9223372036854775807)
    (hs : St w0 w 2 g n D) (hr : Rng D n) (hab : a ≤ b) (hbn : b ≤ n) (hup : ∀ p q, a ≤ p → p < q → q < b → D p < D q) :
    Calls Try.prog 121 #[.slice (some ⟨g, 0, none⟩) n c, .int .i64 a, .int .i64 b, .func (.func gf) #[] lb] w fun e w' => e = .returned (.tuple #[]) ∧ ∃ D', Same D D' a b ∧ Asc K D' a b ∧ St w0 w' 2 g n D' := by
  have HS := Lib.hid hs
  have HR := Lib.hid hr
  have HU := Lib.hid hup
  have HC := Lib.hid hcmp
  clear hs hr hup hcmp
  go_enter Try.func121, Try.ntmps121
  go_wp2
  go_loopw [8] (fun u wr => ∃ i : Nat, u = .int .i64 i ∧ a + 1 ≤ i ∧ (i ≤ b ∨ (i = a + 1 ∧ b = a)) ∧ Hid (∃ D', (i ≤ b → Same D D' a i) ∧ (b = a → D' = D) ∧ Asc K D' a i ∧ St w0 wr 2 g n D')) (fun u _ => b + 1 - (intOf u).toNat)
  case atStart => exact ⟨a + 1, by go_num, by omega, by omega, (show ∃ D', _ from ⟨D, fun _ => Same.refl D a _, fun _ => rfl, Asc.small (by omega), HS.out⟩)⟩
  case round =>
    obtain ⟨i, rfl, hai, hib, hst⟩ := hrel
    obtain ⟨D1, hsm, hze, hasc, hst1⟩ := hst.out
    have HSM := Lib.hid hsm
    have HZE := Lib.hid hze
    have HASC := Lib.hid hasc
    have HST1 := Lib.hid hst1
    clear hst hsm hze hasc hst1
    by_cases hlt : i < b
    · have HI := Lib.hid (InsAt.start HASC.out (show a ≤ i by omega) (low_of_same HU.out (HSM.out (by omega)) hlt))
      have HSW := Lib.hid ((HSM.out (by omega)).wide (Nat.le_refl a) (show i ≤ i + 1 by omega))
      go_wp2
      go_loopw [9] (fun u wr => ∃ j : Nat, u = .int .i64 j ∧ a ≤ j ∧ j ≤ i ∧ Hid (∃ D2, InsAt K D2 a j i ∧ Same D D2 a (i + 1) ∧ St w0 wr 2 g n D2)) (fun u _ => (intOf u).toNat)
      case atStart => exact ⟨i, rfl, by omega, by omega, (show ∃ D2, _ from ⟨D1, HI.out, HSW.out, HST1.out⟩)⟩
      case round =>
        obtain ⟨j, rfl, haj, hji, hst⟩ := hrel
        obtain ⟨D2, hin, hsm2, hst2⟩ := hst.out
        have HIN := Lib.hid hin
        have HSM2 := Lib.hid hsm2
        have HST2 := Lib.hid hst2
        have hr2 : Rng D2 n := Same.rng (hsm2.wide (Nat.zero_le _) (by omega)) HR.out
        have hlr := hst2.lt
        clear hst hin hsm2 hst2
        have hbw := HST2.out.2.2
        by_cases hj : j = a
        · have hjd : decide ((a : Int) < (j : Int)) = false := by rw [decide_eq_false_iff_not]; omega
          have HD := Lib.hid (InsAt.done HIN.out (.inl hj))
          go_wp2
          go_quiet (fail)
          go_wp2
          go_roundw
          case rel => exact ⟨i + 1, by go_num, by omega, .inl (by omega), (show ∃ D', _ from ⟨D2, fun _ => HSM2.out, fun h => by omega, HD.out, HST2.out.drewN _⟩)⟩
          case measure => simp [intOf]; omega
        · obtain ⟨k, rfl⟩ : ∃ k, j = k + 1 := ⟨j - 1, by omega⟩
          have c1 := HST2.out.cell (show k + 1 < n by omega)
          have c2 := HST2.out.cell (show k < n by omega)
          have r1 := hr2 (k + 1) (by omega)
          have r2 := hr2 k (by omega)
          have HCJ := Lib.hid (fun W hb => HC.out W hb (D2 (k + 1)) (D2 k) r1.1 r1.2 r2.1 r2.2)
          have HNG := Lib.hid (cmpV_neg (K := K) (x := D2 (k + 1)) (y := D2 k))
          obtain ⟨cv, hcv⟩ : ∃ cv, cmpV K (D2 (k + 1)) (D2 k) = cv := ⟨_, rfl⟩
          rw [hcv] at HCJ HNG
          have e0 : IntKind.i64.wrap ((k : Int) + 1 - 1) = (k : Int) := by rw [IntWalk.i64_in _ (by omega)]; omega
          have e1 : IntKind.i64.wrap (k : Int) = (k : Int) := IntWalk.i64_in _ (by omega)
          have i1 : (0 : Int) ≤ (k : Int) := by omega
          have i2 : (k : Int) < (n : Int) := by omega
          have i3 : (0 : Int) ≤ (k : Int) + 1 := by omega
          have i4 : (k : Int) + 1 < (n : Int) := by omega
          have i5 : (a : Int) < (k : Int) + 1 := by omega
          have t1 : ((k : Int) + 1).toNat = k + 1 := by omega
          clear r1 r2 hcv
          by_cases hneg : cv < 0
          · have hd : decide (cv < 0) = true := by simpa using hneg
            have HIN2 := Lib.hid (InsAt.step HIN.out (show a ≤ k by omega) (HNG.out.1 hneg))
            clear hneg
            go_wp2
            go_region_held3 (fun W => (W.cell? ⟨g, k + 1, none⟩ = some (.int .i64 (D2 (k + 1))) ∧ W.cell? ⟨g, k, none⟩ = some (.int .i64 (D2 k))) ∧ Below wr.heap.size wr W)
              (first | exact ⟨⟨cell_drew c1, cell_drew c2⟩, (by repeat' (first | (with_reducible exact Below.refl _ _) | (with_reducible assumption) | (with_reducible refine Base.grow_alloc ?_ _) | (with_reducible refine Base.below_drewN ?_ _) | (with_reducible refine Below.drew ?_) | (with_reducible refine Below.setCell ?_ ?_ _) | go_size))⟩ | exact ⟨⟨cell_call hb4 c1, cell_call hb4 c2⟩, (by repeat' (first | (with_reducible exact Below.refl _ _) | (with_reducible assumption) | (with_reducible refine Base.via hb4 ?_) | (with_reducible refine Base.grow_alloc ?_ _) | (with_reducible refine Base.below_drewN ?_ _) | (with_reducible refine Below.drew ?_) | (with_reducible refine Below.setCell ?_ ?_ _) | go_size))⟩)
              (first | (go_at_fn gf; refine (HCJ.out _ (by repeat' (first | (with_reducible exact Below.refl _ _) | (with_reducible assumption) | (with_reducible refine Base.via hbw ?_) | (with_reducible refine Base.grow_alloc ?_ _) | (with_reducible refine Base.below_drewN ?_ _) | (with_reducible refine Below.drew ?_) | (with_reducible refine Below.setCell ?_ ?_ _) | go_size))).mono ?_; rintro e w4 ⟨rfl, hb4⟩))
            have hb4' : Below wr.heap.size wr w4 := (by repeat' (first | (with_reducible exact Below.refl _ _) | (with_reducible assumption) | (with_reducible refine Base.via hb4 ?_) | (with_reducible refine Base.grow_alloc ?_ _) | (with_reducible refine Base.below_drewN ?_ _) | (with_reducible refine Below.drew ?_) | (with_reducible refine Below.setCell ?_ ?_ _) | go_size))
            have st4 := HST2.out.below hb4'
            have d1 := st4.cell (show k + 1 < n by omega)
            have d2 := st4.cell (show k < n by omega)
            have fz1 := st4.frozen (k + 1)
            have fz2 := st4.frozen k
            have hl4 := st4.lt
            have HN := Lib.hid (st4.sw (show k + 1 < n by omega) (show k < n by omega))
            clear st4 hb4 hb4' c1 c2
            go_wp2
            go_region
            go_wp2
            go_roundw
            case rel => exact ⟨k, by go_num, by omega, by omega, (show ∃ D2, _ from ⟨_, HIN2.out, HSM2.out.trans (sw_same (by omega) (by omega)), HN.out.drew⟩)⟩
            case measure => simp [intOf]
          · have hd : decide (cv < 0) = false := by simpa using hneg
            have HD := Lib.hid (InsAt.done HIN.out (.inr (fun h => hneg (HNG.out.2 h))))
            clear hneg
            go_wp2
            go_region_held3 (fun W => (W.cell? ⟨g, k + 1, none⟩ = some (.int .i64 (D2 (k + 1))) ∧ W.cell? ⟨g, k, none⟩ = some (.int .i64 (D2 k))) ∧ Below wr.heap.size wr W)
              (first | exact ⟨⟨cell_drew c1, cell_drew c2⟩, (by repeat' (first | (with_reducible exact Below.refl _ _) | (with_reducible assumption) | (with_reducible refine Base.grow_alloc ?_ _) | (with_reducible refine Base.below_drewN ?_ _) | (with_reducible refine Below.drew ?_) | (with_reducible refine Below.setCell ?_ ?_ _) | go_size))⟩ | exact ⟨⟨cell_call hb4 c1, cell_call hb4 c2⟩, (by repeat' (first | (with_reducible exact Below.refl _ _) | (with_reducible assumption) | (with_reducible refine Base.via hb4 ?_) | (with_reducible refine Base.grow_alloc ?_ _) | (with_reducible refine Base.below_drewN ?_ _) | (with_reducible refine Below.drew ?_) | (with_reducible refine Below.setCell ?_ ?_ _) | go_size))⟩)
              (first | (go_at_fn gf; refine (HCJ.out _ (by repeat' (first | (with_reducible exact Below.refl _ _) | (with_reducible assumption) | (with_reducible refine Base.via hbw ?_) | (with_reducible refine Base.grow_alloc ?_ _) | (with_reducible refine Base.below_drewN ?_ _) | (with_reducible refine Below.drew ?_) | (with_reducible refine Below.setCell ?_ ?_ _) | go_size))).mono ?_; rintro e w4 ⟨rfl, hb4⟩))
            have hb4' : Below wr.heap.size wr w4 := (by repeat' (first | (with_reducible exact Below.refl _ _) | (with_reducible assumption) | (with_reducible refine Base.via hb4 ?_) | (with_reducible refine Base.grow_alloc ?_ _) | (with_reducible refine Base.below_drewN ?_ _) | (with_reducible refine Below.drew ?_) | (with_reducible refine Below.setCell ?_ ?_ _) | go_size))
            have HS4 := Lib.hid (HST2.out.below hb4')
            clear hb4 hb4' c1 c2
            go_wp2
            go_roundw
            case rel => exact ⟨i + 1, by go_num, by omega, .inl (by omega), (show ∃ D', _ from ⟨D2, fun _ => HSM2.out, fun h => by omega, HD.out, HS4.out⟩)⟩
            case measure => simp [intOf]; omega
    · go_wp2
      go_end0
      rcases hib with h | ⟨h1, h2⟩
      · obtain rfl : i = b := by omega
        exact ⟨rfl, D1, HSM.out (Nat.le_refl _), HASC.out, HST1.out⟩
      · refine ⟨rfl, D1, ?_, Asc.small (by omega), HST1.out⟩
        rw [HZE.out h2]
        exact Same.refl D a b
end Go.Proofs.Ytenjcdhehjdeoaa.Srt
