/- Two runs of a row merged in place, by a closure: one of them of one element. -/
import Derived.Test.YtenjcdhehjdeoaaSrt2
namespace Go.Proofs.Ytenjcdhehjdeoaa.Srt
set_option linter.unusedVariables false
set_option linter.unusedSimpArgs false
set_option maxRecDepth 8000
open Go.RowKit Plain Num View Sym

theorem half_in {i j n : Nat} (h : i < j) (hj : j ≤ n) : i ≤ (i + j) / 2 ∧ (i + j) / 2 < j := by omega
set_option maxHeartbeats 3200000 in
theorem c_sym1 (g n c : Nat) (w0 : World) (gf : Nat) (lb : Array Value) (K : Int → Int) (eg : ∀ args w, (callFunc gf args).run Try.prog w = .ok (.enter gf args) w) (hcmp : CmpOk Try.prog w0 gf lb n K)
    (a m b : Nat) (D : Nat → Int) (w : World) (hn : n ≤ 1048576) (hc : n ≤ c) (hcm : c ≤ 9223372036854775807)
    (hs : St w0 w 2 g n D) (hr : Rng D n) (hm1 : m ≤ a + 1) (hm2 : a + 1 ≤ m) (hmb : a + 1 < b) (hbn : b ≤ n) (hasc : Asc K D (a + 1) b) (hlow : Low D a (a + 1) b) :
    Calls Try.prog 122 #[.slice (some ⟨g, 0, none⟩) n c, .int .i64 a, .int .i64 m, .int .i64 b, .func (.func gf) #[] lb] w fun e w' => e = .returned (.tuple #[]) ∧ ∃ D', Same D D' a b ∧ Asc K D' a b ∧ St w0 w' 2 g n D' := by
  have HS := Lib.hid hs
  have HR := Lib.hid hr
  have HA := Lib.hid hasc
  have HL := Lib.hid hlow
  have HC := Lib.hid hcmp
  clear hs hr hasc hlow hcmp
  have ea : IntKind.i64.wrap ((m : Int) - a) = 1 := by rw [IntWalk.i64_in _ (by omega)]; omega
  have ea1 : ((m : Int) - a) = 1 := by omega
  have n1 : (0 : Int) ≤ (a : Int) := by omega
  have n2 : (a : Int) < (n : Int) := by omega
  go_enter Try.func122, Try.ntmps122
  go_wp2
  go_loopw [10, 11] (fun u v wr => ∃ i j : Nat, u = .int .i64 i ∧ v = .int .i64 j ∧ a + 1 ≤ i ∧ i ≤ j ∧ j ≤ b ∧ Hid ((i = a + 1 ∨ ltK K (D (i - 1)) (D a)) ∧ (j = b ∨ ¬ ltK K (D j) (D a)) ∧ St w0 wr 2 g n D)) (fun u v _ => (intOf v).toNat - (intOf u).toNat)
  case atStart => exact ⟨m, b, rfl, rfl, by omega, by omega, by omega, (show _ ∧ _ from ⟨.inl (by omega), .inl rfl, HS.out⟩)⟩
  case round =>
    obtain ⟨i, j, rfl, rfl, hi, hij, hjb, hst⟩ := hrel
    have HP1 := Lib.hid hst.out.1
    have HP2 := Lib.hid hst.out.2.1
    have HST := Lib.hid hst.out.2.2
    have hbw := hst.out.2.2.2.2
    have hlr := hst.out.2.2.lt
    clear hst
    by_cases hlt : i < j
    · obtain ⟨h1, h2⟩ := half_in hlt (show j ≤ n by omega)
      obtain ⟨h, hh⟩ : ∃ h, (i + j) / 2 = h := ⟨_, rfl⟩
      rw [hh] at h1 h2
      have eh : ((i : Int) + j) / 2 = h := by omega
      have n3 : (0 : Int) ≤ (h : Int) := by omega
      have n4 : (h : Int) < (n : Int) := by omega
      have HUP := Lib.hid (ltK_up (K := K) (HL.out a h (Nat.le_refl _) (by omega) (by omega) (by omega)))
      have c1 := HST.out.cell (show h < n by omega)
      have c2 := HST.out.cell (show a < n by omega)
      have r1 := HR.out (h) (by omega)
      have r2 := HR.out (a) (by omega)
      have HCJ := Lib.hid (fun W hb => HC.out W hb (D (h)) (D (a)) r1.1 r1.2 r2.1 r2.2)
      have HNG := Lib.hid (cmpV_neg (K := K) (x := D (h)) (y := D (a)))
      obtain ⟨cv, hcv⟩ : ∃ cv, cmpV K (D (h)) (D (a)) = cv := ⟨_, rfl⟩
      rw [hcv] at HCJ HNG
      clear r1 r2 hcv
      by_cases hneg : cv < 0
      · have hd : decide (cv < 0) = true := by simpa using hneg
        have HQ := Lib.hid (HUP.out.2 (HNG.out.1 hneg))
        clear hneg
        go_wp2
        go_region_held3 (fun W => (W.cell? ⟨g, h, none⟩ = some (.int .i64 (D (h))) ∧ W.cell? ⟨g, a, none⟩ = some (.int .i64 (D (a)))) ∧ Below wr.heap.size wr W)
          (first | exact ⟨⟨cell_drew c1, cell_drew c2⟩, (by repeat' (first | (with_reducible exact Below.refl _ _) | (with_reducible assumption) | (with_reducible refine Base.grow_alloc ?_ _) | (with_reducible refine Base.below_drewN ?_ _) | (with_reducible refine Below.drew ?_) | (with_reducible refine Below.setCell ?_ ?_ _) | go_size))⟩ | exact ⟨⟨cell_call hb4 c1, cell_call hb4 c2⟩, (by repeat' (first | (with_reducible exact Below.refl _ _) | (with_reducible assumption) | (with_reducible refine Base.via hb4 ?_) | (with_reducible refine Base.grow_alloc ?_ _) | (with_reducible refine Base.below_drewN ?_ _) | (with_reducible refine Below.drew ?_) | (with_reducible refine Below.setCell ?_ ?_ _) | go_size))⟩)
          (first | (go_at_fn gf; refine (HCJ.out _ (by repeat' (first | (with_reducible exact Below.refl _ _) | (with_reducible assumption) | (with_reducible refine Base.via hbw ?_) | (with_reducible refine Base.grow_alloc ?_ _) | (with_reducible refine Base.below_drewN ?_ _) | (with_reducible refine Below.drew ?_) | (with_reducible refine Below.setCell ?_ ?_ _) | go_size))).mono ?_; rintro e w4 ⟨rfl, hb4⟩))
        have hb4' : Below wr.heap.size wr w4 := (by repeat' (first | (with_reducible exact Below.refl _ _) | (with_reducible assumption) | (with_reducible refine Base.via hb4 ?_) | (with_reducible refine Base.grow_alloc ?_ _) | (with_reducible refine Base.below_drewN ?_ _) | (with_reducible refine Below.drew ?_) | (with_reducible refine Below.setCell ?_ ?_ _) | go_size))
        have HS4 := Lib.hid (HST.out.below hb4')
        clear hb4 hb4' c1 c2
        go_wp2
        go_roundw
        case rel => exact ⟨h + 1, j, by go_num, rfl, by omega, by omega, by omega, (show _ ∧ _ from ⟨.inr HQ.out, HP2.out, HS4.out⟩)⟩
        case measure => simp [intOf]; omega
      · have hd : decide (cv < 0) = false := by simpa using hneg
        have HQ := Lib.hid (fun x => hneg (HNG.out.2 (HUP.out.1 x)))
        clear hneg
        go_wp2
        go_region_held3 (fun W => (W.cell? ⟨g, h, none⟩ = some (.int .i64 (D (h))) ∧ W.cell? ⟨g, a, none⟩ = some (.int .i64 (D (a)))) ∧ Below wr.heap.size wr W)
          (first | exact ⟨⟨cell_drew c1, cell_drew c2⟩, (by repeat' (first | (with_reducible exact Below.refl _ _) | (with_reducible assumption) | (with_reducible refine Base.grow_alloc ?_ _) | (with_reducible refine Base.below_drewN ?_ _) | (with_reducible refine Below.drew ?_) | (with_reducible refine Below.setCell ?_ ?_ _) | go_size))⟩ | exact ⟨⟨cell_call hb4 c1, cell_call hb4 c2⟩, (by repeat' (first | (with_reducible exact Below.refl _ _) | (with_reducible assumption) | (with_reducible refine Base.via hb4 ?_) | (with_reducible refine Base.grow_alloc ?_ _) | (with_reducible refine Base.below_drewN ?_ _) | (with_reducible refine Below.drew ?_) | (with_reducible refine Below.setCell ?_ ?_ _) | go_size))⟩)
          (first | (go_at_fn gf; refine (HCJ.out _ (by repeat' (first | (with_reducible exact Below.refl _ _) | (with_reducible assumption) | (with_reducible refine Base.via hbw ?_) | (with_reducible refine Base.grow_alloc ?_ _) | (with_reducible refine Base.below_drewN ?_ _) | (with_reducible refine Below.drew ?_) | (with_reducible refine Below.setCell ?_ ?_ _) | go_size))).mono ?_; rintro e w4 ⟨rfl, hb4⟩))
        have hb4' : Below wr.heap.size wr w4 := (by repeat' (first | (with_reducible exact Below.refl _ _) | (with_reducible assumption) | (with_reducible refine Base.via hb4 ?_) | (with_reducible refine Base.grow_alloc ?_ _) | (with_reducible refine Base.below_drewN ?_ _) | (with_reducible refine Below.drew ?_) | (with_reducible refine Below.setCell ?_ ?_ _) | go_size))
        have HS4 := Lib.hid (HST.out.below hb4')
        clear hb4 hb4' c1 c2
        go_wp2
        go_roundw
        case rel => exact ⟨i, h, rfl, rfl, by omega, by omega, by omega, (show _ ∧ _ from ⟨HP1.out, .inr HQ.out, HS4.out⟩)⟩
        case measure => simp [intOf]; omega
    · obtain rfl : i = j := by omega
      have HONE := Lib.hid (one_left HA.out HL.out hi hjb HP1.out HP2.out)
      have z1 : IntKind.i64.wrap ((i : Int) - 1) = (i : Int) - 1 := IntWalk.i64_in _ (by omega)
      go_wp2
      go_loopw [13] (fun u wr => ∃ k : Nat, u = .int .i64 k ∧ a ≤ k ∧ k + 1 ≤ i ∧ Hid (St w0 wr 2 g n (rot D a (a + 1) (k + 1)))) (fun u _ => i - (intOf u).toNat)
      case atStart => exact ⟨a, rfl, by omega, by omega, (show St _ _ _ _ _ _ by rw [rot_none (by omega)]; exact HST.out)⟩
      case round =>
        obtain ⟨k, rfl, hak, hki, hst⟩ := hrel
        by_cases hk : k + 1 < i
        · have d1 := hst.out.cell (show k + 1 < n by omega)
          have d2 := hst.out.cell (show k < n by omega)
          have fz1 := hst.out.frozen (k + 1)
          have fz2 := hst.out.frozen k
          have hl4 := hst.out.lt
          have kk : (k : Int) < (i : Int) - 1 := by omega
          have k1 : (0 : Int) ≤ (k : Int) := by omega
          have k2 : (k : Int) < (n : Int) := by omega
          have k3 : (0 : Int) ≤ (k : Int) + 1 := by omega
          have k4 : (k : Int) + 1 < (n : Int) := by omega
          have k5 : ((k : Int) + 1).toNat = k + 1 := by omega
          have HN := Lib.hid (hst.out.sw (show k < n by omega) (show k + 1 < n by omega))
          go_wp2
          go_region
          go_wp2
          go_roundw
          case rel => exact ⟨k + 1, by go_num, by omega, by omega, (show St _ _ _ _ _ _ by rw [← rot_up hak]; exact HN.out.drew)⟩
          case measure => simp [intOf]; omega
        · have HE := Lib.hid (show k + 1 = i by omega)
          have kk : ¬ ((k : Int) < (i : Int) - 1) := by omega
          go_wp2
          (try simp only [Exit.inBlock, Exit.then]); refine bodyPost_ret (results_none rfl _ _ _) rfl ?_
          exact ⟨rfl, _, HONE.out.1, HONE.out.2, by rw [← HE.out]; exact hst.out⟩
set_option maxHeartbeats 3200000 in
theorem c_sym2 (g n c : Nat) (w0 : World) (gf : Nat) (lb : Array Value) (K : Int → Int) (eg : ∀ args w, (callFunc gf args).run Try.prog w = .ok (.enter gf args) w) (hcmp : CmpOk Try.prog w0 gf lb n K)
    (a m b : Nat) (D : Nat → Int) (w : World) (hn : n ≤ 1048576) (hc : n ≤ c) (hcm : c ≤ 9223372036854775807)
    (hs : St w0 w 2 g n D) (hr : Rng D n) (ham : a + 1 < m) (hb1 : b ≤ m + 1) (hb2 : m + 1 ≤ b) (hbn : b ≤ n) (hasc : Asc K D a m) (hlow : Low D a m (m + 1)) :
    Calls Try.prog 122 #[.slice (some ⟨g, 0, none⟩) n c, .int .i64 a, .int .i64 m, .int .i64 b, .func (.func gf) #[] lb] w fun e w' => e = .returned (.tuple #[]) ∧ ∃ D', Same D D' a (m + 1) ∧ Asc K D' a (m + 1) ∧ St w0 w' 2 g n D' := by
  have HS := Lib.hid hs
  have HR := Lib.hid hr
  have HA := Lib.hid hasc
  have HL := Lib.hid hlow
  have HC := Lib.hid hcmp
  clear hs hr hasc hlow hcmp
  have ea : IntKind.i64.wrap ((b : Int) - m) = 1 := by rw [IntWalk.i64_in _ (by omega)]; omega
  have ea1 : ((b : Int) - m) = 1 := by omega
  have eb : IntKind.i64.wrap ((m : Int) - a) = (m : Int) - a := IntWalk.i64_in _ (by omega)
  have eb1 : ((m : Int) - a == 1) = false := by rw [beq_eq_false_iff_ne]; omega
  have n1 : (0 : Int) ≤ (m : Int) := by omega
  have n2 : (m : Int) < (n : Int) := by omega
  go_enter Try.func122, Try.ntmps122
  go_wp2
  go_loopw [14, 15] (fun u v wr => ∃ i j : Nat, u = .int .i64 i ∧ v = .int .i64 j ∧ a ≤ i ∧ i ≤ j ∧ j ≤ m ∧ Hid ((i = a ∨ ¬ ltK K (D m) (D (i - 1))) ∧ (j = m ∨ ltK K (D m) (D j)) ∧ St w0 wr 2 g n D)) (fun u v _ => (intOf v).toNat - (intOf u).toNat)
  case atStart => exact ⟨a, m, rfl, rfl, by omega, by omega, by omega, (show _ ∧ _ from ⟨.inl rfl, .inl rfl, HS.out⟩)⟩
  case round =>
    obtain ⟨i, j, rfl, rfl, hi, hij, hjm, hst⟩ := hrel
    have HP1 := Lib.hid hst.out.1
    have HP2 := Lib.hid hst.out.2.1
    have HST := Lib.hid hst.out.2.2
    have hbw := hst.out.2.2.2.2
    have hlr := hst.out.2.2.lt
    clear hst
    by_cases hlt : i < j
    · obtain ⟨h1, h2⟩ := half_in hlt (show j ≤ n by omega)
      obtain ⟨h, hh⟩ : ∃ h, (i + j) / 2 = h := ⟨_, rfl⟩
      rw [hh] at h1 h2
      have eh : ((i : Int) + j) / 2 = h := by omega
      have n3 : (0 : Int) ≤ (h : Int) := by omega
      have n4 : (h : Int) < (n : Int) := by omega
      have HUP := Lib.hid (ltK_up (K := K) (HL.out h m (by omega) (by omega) (by omega) (by omega)))
      have c1 := HST.out.cell (show m < n by omega)
      have c2 := HST.out.cell (show h < n by omega)
      have r1 := HR.out (m) (by omega)
      have r2 := HR.out (h) (by omega)
      have HCJ := Lib.hid (fun W hb => HC.out W hb (D (m)) (D (h)) r1.1 r1.2 r2.1 r2.2)
      have HNG := Lib.hid (cmpV_neg (K := K) (x := D (m)) (y := D (h)))
      obtain ⟨cv, hcv⟩ : ∃ cv, cmpV K (D (m)) (D (h)) = cv := ⟨_, rfl⟩
      rw [hcv] at HCJ HNG
      clear r1 r2 hcv
      by_cases hneg : cv < 0
      · have hd : decide (cv < 0) = true := by simpa using hneg
        have HQ := Lib.hid (HUP.out.2 (HNG.out.1 hneg))
        clear hneg
        go_wp2
        go_region_held3 (fun W => (W.cell? ⟨g, m, none⟩ = some (.int .i64 (D (m))) ∧ W.cell? ⟨g, h, none⟩ = some (.int .i64 (D (h)))) ∧ Below wr.heap.size wr W)
          (first | exact ⟨⟨cell_drew c1, cell_drew c2⟩, (by repeat' (first | (with_reducible exact Below.refl _ _) | (with_reducible assumption) | (with_reducible refine Base.grow_alloc ?_ _) | (with_reducible refine Base.below_drewN ?_ _) | (with_reducible refine Below.drew ?_) | (with_reducible refine Below.setCell ?_ ?_ _) | go_size))⟩ | exact ⟨⟨cell_call hb4 c1, cell_call hb4 c2⟩, (by repeat' (first | (with_reducible exact Below.refl _ _) | (with_reducible assumption) | (with_reducible refine Base.via hb4 ?_) | (with_reducible refine Base.grow_alloc ?_ _) | (with_reducible refine Base.below_drewN ?_ _) | (with_reducible refine Below.drew ?_) | (with_reducible refine Below.setCell ?_ ?_ _) | go_size))⟩)
          (first | (go_at_fn gf; refine (HCJ.out _ (by repeat' (first | (with_reducible exact Below.refl _ _) | (with_reducible assumption) | (with_reducible refine Base.via hbw ?_) | (with_reducible refine Base.grow_alloc ?_ _) | (with_reducible refine Base.below_drewN ?_ _) | (with_reducible refine Below.drew ?_) | (with_reducible refine Below.setCell ?_ ?_ _) | go_size))).mono ?_; rintro e w4 ⟨rfl, hb4⟩))
        have hb4' : Below wr.heap.size wr w4 := (by repeat' (first | (with_reducible exact Below.refl _ _) | (with_reducible assumption) | (with_reducible refine Base.via hb4 ?_) | (with_reducible refine Base.grow_alloc ?_ _) | (with_reducible refine Base.below_drewN ?_ _) | (with_reducible refine Below.drew ?_) | (with_reducible refine Below.setCell ?_ ?_ _) | go_size))
        have HS4 := Lib.hid (HST.out.below hb4')
        clear hb4 hb4' c1 c2
        go_wp2
        go_roundw
        case rel => exact ⟨i, h, rfl, rfl, by omega, by omega, by omega, (show _ ∧ _ from ⟨HP1.out, .inr HQ.out, HS4.out⟩)⟩
        case measure => simp [intOf]; omega
      · have hd : decide (cv < 0) = false := by simpa using hneg
        have HQ := Lib.hid (fun x => hneg (HNG.out.2 (HUP.out.1 x)))
        clear hneg
        go_wp2
        go_region_held3 (fun W => (W.cell? ⟨g, m, none⟩ = some (.int .i64 (D (m))) ∧ W.cell? ⟨g, h, none⟩ = some (.int .i64 (D (h)))) ∧ Below wr.heap.size wr W)
          (first | exact ⟨⟨cell_drew c1, cell_drew c2⟩, (by repeat' (first | (with_reducible exact Below.refl _ _) | (with_reducible assumption) | (with_reducible refine Base.grow_alloc ?_ _) | (with_reducible refine Base.below_drewN ?_ _) | (with_reducible refine Below.drew ?_) | (with_reducible refine Below.setCell ?_ ?_ _) | go_size))⟩ | exact ⟨⟨cell_call hb4 c1, cell_call hb4 c2⟩, (by repeat' (first | (with_reducible exact Below.refl _ _) | (with_reducible assumption) | (with_reducible refine Base.via hb4 ?_) | (with_reducible refine Base.grow_alloc ?_ _) | (with_reducible refine Base.below_drewN ?_ _) | (with_reducible refine Below.drew ?_) | (with_reducible refine Below.setCell ?_ ?_ _) | go_size))⟩)
          (first | (go_at_fn gf; refine (HCJ.out _ (by repeat' (first | (with_reducible exact Below.refl _ _) | (with_reducible assumption) | (with_reducible refine Base.via hbw ?_) | (with_reducible refine Base.grow_alloc ?_ _) | (with_reducible refine Base.below_drewN ?_ _) | (with_reducible refine Below.drew ?_) | (with_reducible refine Below.setCell ?_ ?_ _) | go_size))).mono ?_; rintro e w4 ⟨rfl, hb4⟩))
        have hb4' : Below wr.heap.size wr w4 := (by repeat' (first | (with_reducible exact Below.refl _ _) | (with_reducible assumption) | (with_reducible refine Base.via hb4 ?_) | (with_reducible refine Base.grow_alloc ?_ _) | (with_reducible refine Base.below_drewN ?_ _) | (with_reducible refine Below.drew ?_) | (with_reducible refine Below.setCell ?_ ?_ _) | go_size))
        have HS4 := Lib.hid (HST.out.below hb4')
        clear hb4 hb4' c1 c2
        go_wp2
        go_roundw
        case rel => exact ⟨h + 1, j, by go_num, rfl, by omega, by omega, by omega, (show _ ∧ _ from ⟨.inr HQ.out, HP2.out, HS4.out⟩)⟩
        case measure => simp [intOf]; omega
    · obtain rfl : i = j := by omega
      have HONE := Lib.hid (one_right HA.out HL.out hi hjm HP1.out HP2.out)
      go_wp2
      go_loopw [17] (fun u wr => ∃ k : Nat, u = .int .i64 k ∧ i ≤ k ∧ k ≤ m ∧ Hid (St w0 wr 2 g n (rot D k m (m + 1)))) (fun u _ => (intOf u).toNat)
      case atStart => exact ⟨m, rfl, by omega, by omega, (show St _ _ _ _ _ _ by rw [rot_none' (by omega)]; exact HST.out)⟩
      case round =>
        obtain ⟨k, rfl, hik, hkm, hst⟩ := hrel
        by_cases hk : i < k
        · obtain ⟨q, rfl⟩ : ∃ q, k = q + 1 := ⟨k - 1, by omega⟩
          have d1 := hst.out.cell (show q + 1 < n by omega)
          have d2 := hst.out.cell (show q < n by omega)
          have fz1 := hst.out.frozen (q + 1)
          have fz2 := hst.out.frozen q
          have hl4 := hst.out.lt
          have e0 : IntKind.i64.wrap ((q : Int) + 1 - 1) = (q : Int) := by rw [IntWalk.i64_in _ (by omega)]; omega
          have e1 : IntKind.i64.wrap (q : Int) = (q : Int) := IntWalk.i64_in _ (by omega)
          have k0 : (i : Int) < (q : Int) + 1 := by omega
          have k1 : (0 : Int) ≤ (q : Int) := by omega
          have k2 : (q : Int) < (n : Int) := by omega
          have k3 : (0 : Int) ≤ (q : Int) + 1 := by omega
          have k4 : (q : Int) + 1 < (n : Int) := by omega
          have k5 : ((q : Int) + 1).toNat = q + 1 := by omega
          have HN := Lib.hid (hst.out.sw (show q + 1 < n by omega) (show q < n by omega))
          go_wp2
          go_region
          go_wp2
          go_roundw
          case rel => exact ⟨q, by go_num, by omega, by omega, (show St _ _ _ _ _ _ by rw [← rot_dn (D := D) (m := m) (k := q) (by omega)]; exact HN.out.drew)⟩
          case measure => simp [intOf]
        · have HE := Lib.hid (show k = i by omega)
          have kk : ¬ ((i : Int) < (k : Int)) := by omega
          go_wp2
          (try simp only [Exit.inBlock, Exit.then]); refine bodyPost_ret (results_none rfl _ _ _) rfl ?_
          exact ⟨rfl, _, HONE.out.1, HONE.out.2, by rw [← HE.out]; exact hst.out⟩
end Go.Proofs.Ytenjcdhehjdeoaa.Srt
