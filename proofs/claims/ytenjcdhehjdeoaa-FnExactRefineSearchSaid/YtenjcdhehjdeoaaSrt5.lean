/- Two runs of a row merged in place, by a closure: the whole. -/
import Derived.Test.YtenjcdhehjdeoaaSrt4
namespace Go.Proofs.Ytenjcdhehjdeoaa.Srt
set_option linter.unusedVariables false
set_option linter.unusedSimpArgs false
set_option maxRecDepth 8000
open Go.RowKit Plain Num View Sym

set_option maxHeartbeats 40000000 in
theorem c_sym3b (g n c : Nat) (w0 : World) (gf : Nat) (lb : Array Value) (K : Int → Int) (eg : ∀ args w, (callFunc gf args).run Try.prog w = .ok (.enter gf args) w) (hcmp : CmpOk Try.prog w0 gf lb n K)
    (N : Nat) (ih : SymP Try.prog 122 2 g n c w0 gf lb K N) (a m b : Nat) (D : Nat → Int) (w : World) (hn : n ≤ 1048576) (hc : n ≤ c) (hcm : c ≤ 9223372036854775807)
    (hN : b - a ≤ N + 1) (hs : St w0 w 2 g n D) (hr : Rng D n) (ham : a + 1 < m) (hmb : m + 1 < b) (hbn : b ≤ n) (hl : Asc K D a m) (hrr : Asc K D m b) (hlow : Low D a m b) (hmm0 : m ≤ (a + b) / 2) :
    Calls Try.prog 122 #[.slice (some ⟨g, 0, none⟩) n c, .int .i64 a, .int .i64 m, .int .i64 b, .func (.func gf) #[] lb] w fun e w' => e = .returned (.tuple #[]) ∧ ∃ D', Same D D' a b ∧ Asc K D' a b ∧ St w0 w' 2 g n D' := by
  have HS := Lib.hid hs
  have HR := Lib.hid hr
  have HA := Lib.hid hl
  have HB := Lib.hid hrr
  have HL := Lib.hid hlow
  have HC := Lib.hid hcmp
  have HIH := Lib.hid ih
  clear hs hr hl hrr hlow hcmp ih
  have ea : IntKind.i64.wrap ((m : Int) - a) = (m : Int) - a := IntWalk.i64_in _ (by omega)
  have ea1 : ((m : Int) - a == 1) = false := by rw [beq_eq_false_iff_ne]; omega
  have eb : IntKind.i64.wrap ((b : Int) - m) = (b : Int) - m := IntWalk.i64_in _ (by omega)
  have eb1 : ((b : Int) - m == 1) = false := by rw [beq_eq_false_iff_ne]; omega
  obtain ⟨mid, hmid⟩ : ∃ mid, (a + b) / 2 = mid := ⟨_, rfl⟩
  have emid : ((a : Int) + b) / 2 = mid := by omega
  have md1 : a + b ≤ 2 * mid + 1 := by omega
  have md2 : 2 * mid ≤ a + b := by omega
  have hmm : ¬ mid < m := by omega
  clear hmm0
  obtain ⟨nn, hnn⟩ : ∃ nn, mid + m = nn := ⟨_, rfl⟩
  have enn : (mid : Int) + m = nn := by omega
  obtain ⟨p, hp⟩ : ∃ p, nn - 1 = p := ⟨_, rfl⟩
  have ep : (nn : Int) - 1 = p := by omega
  have nn1 : nn ≤ mid + m := by omega
  have nn2 : mid + m ≤ nn := by omega
  have p1 : p + 1 ≤ nn := by omega
  have p2 : nn ≤ p + 1 := by omega
  clear hmid hnn hp
  all_goals
    obtain ⟨s0, r0, f1', f2', f3', f4', f5', f6', f7', es0⟩ : ∃ s0 r0 : Nat, a ≤ s0 ∧ s0 ≤ r0 ∧ r0 ≤ m ∧ r0 ≤ mid ∧ nn ≤ b + s0 ∧ (s0 ≤ a ∨ b + s0 ≤ nn) ∧ (m ≤ r0 ∨ mid ≤ r0) ∧ (if mid < m then ((nn : Int) - b = s0 ∧ r0 = mid) else (s0 = a ∧ r0 = m)) := by
      first
        | exact ⟨nn - b, mid, by omega, by omega, by omega, by omega, by omega, by omega, by omega, by rw [if_pos (by omega)]; exact ⟨by omega, rfl⟩⟩
        | exact ⟨a, m, by omega, by omega, by omega, by omega, by omega, by omega, by omega, by rw [if_neg (by omega)]; exact ⟨rfl, rfl⟩⟩
    first | rw [if_pos hmm] at es0 | rw [if_neg hmm] at es0
    have HES := Lib.hid es0
    first | have es1 : (nn : Int) - b = s0 := es0.1 | skip
    clear es0
    go_enter Try.func122, Try.ntmps122
    go_wp2
    go_loopw [20, 21] (fun u v wr => ∃ s r : Nat, u = .int .i64 s ∧ v = .int .i64 r ∧ s0 ≤ s ∧ s ≤ r ∧ r ≤ r0 ∧ Hid ((s = s0 ∨ ltK K (D (s - 1)) (D (nn - s))) ∧ (r = r0 ∨ ltK K (D (nn - 1 - r)) (D r)) ∧ St w0 wr 2 g n D)) (fun u v _ => (intOf v).toNat - (intOf u).toNat)
    case atStart => exact ⟨s0, r0, (by first | rfl | (rw [HES.out.1])), (by rw [HES.out.2]), by omega, by omega, by omega, (show _ ∧ _ from ⟨.inl rfl, .inl rfl, HS.out⟩)⟩
    case round =>
      obtain ⟨s, r, rfl, rfl, hss, hsr, hrr0, hst⟩ := hrel
      have HP1 := Lib.hid hst.out.1
      have HP2 := Lib.hid hst.out.2.1
      have HST := Lib.hid hst.out.2.2
      have hbw := hst.out.2.2.2.2
      have hlr := hst.out.2.2.lt
      clear hst
      by_cases hlt : s < r
      · obtain ⟨h1, h2⟩ := half_in hlt (show r ≤ n by omega)
        obtain ⟨h, hh⟩ : ∃ h, (s + r) / 2 = h := ⟨_, rfl⟩
        rw [hh] at h1 h2
        have eh : ((s : Int) + r) / 2 = h := by omega
        obtain ⟨q, hq⟩ : ∃ q, p - h = q := ⟨_, rfl⟩
        have eq' : (p : Int) - h = q := by omega
        have eqw : IntKind.i64.wrap (q : Int) = q := IntWalk.i64_in _ (by omega)
        have eqw2 : IntKind.i64.wrap ((p : Int) - h) = q := by rw [eq']; exact eqw
        have q1 : q + h ≤ p := by omega
        have q2 : p ≤ q + h := by omega
        have HQN := Lib.hid (show nn - 1 - h = q by omega)
        have HQM := Lib.hid (show nn - (h + 1) = q by omega)
        clear hq hh
        have n1 : (0 : Int) ≤ (q : Int) := by omega
        have n2 : (q : Int) < (n : Int) := by omega
        have n3 : (0 : Int) ≤ (h : Int) := by omega
        have n4 : (h : Int) < (n : Int) := by omega
        have HUP := Lib.hid (ltK_up (K := K) (HL.out h q (by omega) (by omega) (by omega) (by omega)))
        have HNT := Lib.hid (fun hx => ltK_not (K := K) (HL.out h q (by omega) (by omega) (by omega) (by omega)) hx)
        have c1 := HST.out.cell (show q < n by omega)
        have c2 := HST.out.cell (show h < n by omega)
        have r1 := HR.out (q) (by omega)
        have r2 := HR.out (h) (by omega)
        have HCJ := Lib.hid (fun W hb => HC.out W hb (D (q)) (D (h)) r1.1 r1.2 r2.1 r2.2)
        have HNG := Lib.hid (cmpV_neg (K := K) (x := D (q)) (y := D (h)))
        obtain ⟨cv, hcv⟩ : ∃ cv, cmpV K (D (q)) (D (h)) = cv := ⟨_, rfl⟩
        rw [hcv] at HCJ HNG
        clear r1 r2 hcv
        by_cases hneg : cv < 0
        · have hd : decide (cv < 0) = true := by simpa using hneg
          have HQ := Lib.hid (HUP.out.2 (HNG.out.1 hneg))
          clear hneg
          go_wp2
          go_region_held3 (fun W => (W.cell? ⟨g, q, none⟩ = some (.int .i64 (D (q))) ∧ W.cell? ⟨g, h, none⟩ = some (.int .i64 (D (h)))) ∧ Below wr.heap.size wr W)
            (first | exact ⟨⟨cell_drew c1, cell_drew c2⟩, (by repeat' (first | (with_reducible exact Below.refl _ _) | (with_reducible assumption) | (with_reducible refine Base.grow_alloc ?_ _) | (with_reducible refine Base.below_drewN ?_ _) | (with_reducible refine Below.drew ?_) | (with_reducible refine Below.setCell ?_ ?_ _) | go_size))⟩ | exact ⟨⟨cell_call hb4 c1, cell_call hb4 c2⟩, (by repeat' (first | (with_reducible exact Below.refl _ _) | (with_reducible assumption) | (with_reducible refine Base.via hb4 ?_) | (with_reducible refine Base.grow_alloc ?_ _) | (with_reducible refine Base.below_drewN ?_ _) | (with_reducible refine Below.drew ?_) | (with_reducible refine Below.setCell ?_ ?_ _) | go_size))⟩)
            (first | (go_at_fn gf; refine (HCJ.out _ (by repeat' (first | (with_reducible exact Below.refl _ _) | (with_reducible assumption) | (with_reducible refine Base.via hbw ?_) | (with_reducible refine Base.grow_alloc ?_ _) | (with_reducible refine Base.below_drewN ?_ _) | (with_reducible refine Below.drew ?_) | (with_reducible refine Below.setCell ?_ ?_ _) | go_size))).mono ?_; rintro e w4 ⟨rfl, hb4⟩))
          have hb4' : Below wr.heap.size wr w4 := (by repeat' (first | (with_reducible exact Below.refl _ _) | (with_reducible assumption) | (with_reducible refine Base.via hb4 ?_) | (with_reducible refine Base.grow_alloc ?_ _) | (with_reducible refine Base.below_drewN ?_ _) | (with_reducible refine Below.drew ?_) | (with_reducible refine Below.setCell ?_ ?_ _) | go_size))
          have HS4 := Lib.hid (HST.out.below hb4')
          clear hb4 hb4' c1 c2
          go_wp2
          go_roundw
          case rel => exact ⟨s, h, rfl, rfl, by omega, by omega, by omega, (show _ ∧ _ from ⟨HP1.out, .inr (by rw [HQN.out]; exact HQ.out), HS4.out⟩)⟩
          case measure => simp [intOf]; omega
        · have hd : decide (cv < 0) = false := by simpa using hneg
          have HQ := Lib.hid (HNT.out (fun x => hneg (HNG.out.2 x)))
          clear hneg
          go_wp2
          go_region_held3 (fun W => (W.cell? ⟨g, q, none⟩ = some (.int .i64 (D (q))) ∧ W.cell? ⟨g, h, none⟩ = some (.int .i64 (D (h)))) ∧ Below wr.heap.size wr W)
            (first | exact ⟨⟨cell_drew c1, cell_drew c2⟩, (by repeat' (first | (with_reducible exact Below.refl _ _) | (with_reducible assumption) | (with_reducible refine Base.grow_alloc ?_ _) | (with_reducible refine Base.below_drewN ?_ _) | (with_reducible refine Below.drew ?_) | (with_reducible refine Below.setCell ?_ ?_ _) | go_size))⟩ | exact ⟨⟨cell_call hb4 c1, cell_call hb4 c2⟩, (by repeat' (first | (with_reducible exact Below.refl _ _) | (with_reducible assumption) | (with_reducible refine Base.via hb4 ?_) | (with_reducible refine Base.grow_alloc ?_ _) | (with_reducible refine Base.below_drewN ?_ _) | (with_reducible refine Below.drew ?_) | (with_reducible refine Below.setCell ?_ ?_ _) | go_size))⟩)
            (first | (go_at_fn gf; refine (HCJ.out _ (by repeat' (first | (with_reducible exact Below.refl _ _) | (with_reducible assumption) | (with_reducible refine Base.via hbw ?_) | (with_reducible refine Base.grow_alloc ?_ _) | (with_reducible refine Base.below_drewN ?_ _) | (with_reducible refine Below.drew ?_) | (with_reducible refine Below.setCell ?_ ?_ _) | go_size))).mono ?_; rintro e w4 ⟨rfl, hb4⟩))
          have hb4' : Below wr.heap.size wr w4 := (by repeat' (first | (with_reducible exact Below.refl _ _) | (with_reducible assumption) | (with_reducible refine Base.via hb4 ?_) | (with_reducible refine Base.grow_alloc ?_ _) | (with_reducible refine Base.below_drewN ?_ _) | (with_reducible refine Below.drew ?_) | (with_reducible refine Below.setCell ?_ ?_ _) | go_size))
          have HS4 := Lib.hid (HST.out.below hb4')
          clear hb4 hb4' c1 c2
          go_wp2
          go_roundw
          case rel => exact ⟨h + 1, r, by go_num, rfl, by omega, by omega, by omega, (show _ ∧ _ from ⟨.inr (by rw [HQM.out]; exact HQ.out), HP2.out, HS4.out⟩)⟩
          case measure => simp [intOf]; omega
      · have hsr' : s = r := by omega
        obtain ⟨e, he⟩ : ∃ e, nn - s = e := ⟨_, rfl⟩
        have ee : (nn : Int) - s = e := by omega
        have e1 : e + s ≤ nn := by omega
        have e2 : nn ≤ e + s := by omega
        obtain ⟨hh, g0, g1, g2, g3⟩ := sym_halves (K := K) (mid := mid) HA.out HB.out (show a ≤ s by omega) (show s ≤ m by omega) (show m ≤ e by omega) (show e ≤ b by omega) (by omega)
          (by
            rcases HP1.out with x | x
            · rcases f6' with y | y
              · exact .inl (by omega)
              · exact .inr (.inl (by omega))
            · exact .inr (.inr (by rw [he] at x; exact x)))
          (by
            rcases HP2.out with x | x
            · rcases f7' with y | y
              · exact .inl (by omega)
              · exact .inr (.inl (by omega))
            · refine .inr (.inr ?_)
              rw [← hsr', show nn - 1 - s = e - 1 by omega] at x
              exact x)
        obtain ⟨lw1, lw2⟩ := rot_low HL.out (show a ≤ s by omega) (show s ≤ m by omega) (show m ≤ e by omega) (show e ≤ b by omega) (show s + (e - m) = mid by omega)
        have HR1 : Hid (Rng (rot D s m e) n) := Lib.hid (Same.rng ((rot_same (show s ≤ m by omega) (show m ≤ e by omega)).wide (Nat.zero_le _) (by omega)) HR.out)
        have HSM : Hid (Same D (rot D s m e) a b) := Lib.hid ((rot_same (show s ≤ m by omega) (show m ≤ e by omega)).wide (by omega) (by omega))
        have HSTL : Hid (s = m ∨ e = m → rot D s m e = D) := Lib.hid (rot_still (show s ≤ m by omega) (show m ≤ e by omega))
        have HROT := Lib.hid (fun (W : World) (h1 : s < m) (h2 : m < e) (h3 : St w0 W 2 g n D) => c_rotate g n c w0 gf lb s m e D W hn hc hcm h3 h1 h2 (by omega))
        obtain ⟨D1, hD1⟩ : ∃ D1, rot D s m e = D1 := ⟨_, rfl⟩
        rw [hD1] at hh g0 g1 g2 g3 lw1 lw2 HR1 HSM HSTL HROT
        clear hD1 he
        have HI1 := Lib.hid (fun (W : World) (h1 : a < s) (h2 : s < mid) (h3 : St w0 W 2 g n D1) => HIH.out a s mid D1 W (by omega) h3 HR1.out h1 h2 (by omega) g0 g1 lw1)
        have HAS := Lib.hid (show (s = a ∨ s = mid) → Asc K D1 a mid from fun x => by
          rcases x with x | x
          · subst x; exact g1
          · subst x; exact g0)
        have HFIN := Lib.hid (fun (D2 D3 : Nat → Int) (s1 : Same D1 D2 a mid) (a1 : Asc K D2 a mid) (s2 : Same D2 D3 mid b) (a2 : Asc K D3 mid b) => (fun x : Same D1 D3 a b ∧ Asc K D3 a b => (And.intro (HSM.out.trans x.1) x.2 : Same D D3 a b ∧ Asc K D3 a b)) (halves_done (by omega) (by omega) hh s1 a1 s2 a2))
        have HI2 := Lib.hid (show ∀ (W : World), mid < e → e < b → (∃ D2, Same D1 D2 a mid ∧ Asc K D2 a mid ∧ St w0 W 2 g n D2) → Calls Try.prog 122 #[.slice (some ⟨g, 0, none⟩) n c, .int .i64 mid, .int .i64 e, .int .i64 b, .func (.func gf) #[] lb] W fun e w' => e = .returned (.tuple #[]) ∧ ∃ D', Same D D' a b ∧ Asc K D' a b ∧ St w0 w' 2 g n D' from fun W h1 h2 ⟨D2, x1, x2, x3⟩ =>
          (HIH.out mid e b D2 W (by omega) x3 (Same.rng (x1.wide (Nat.zero_le _) (by omega)) HR1.out) h1 h2 hbn (g2.of_eq fun i i1 _ => x1.1 i (.inr i1)) (g3.of_eq fun i i1 _ => x1.1 i (.inr (by omega))) (low_right (K := K) lw2 x1)).mono fun e w' hx => by
            obtain ⟨he, D3, y1, y2, y3⟩ := hx
            obtain ⟨z1, z2⟩ := HFIN.out D2 D3 x1 x2 y1 y2
            exact ⟨he, D3, z1, z2, y3⟩)
        have HEND := Lib.hid (show ∀ (W : World), (mid = e ∨ e = b) → (∃ D2, Same D1 D2 a mid ∧ Asc K D2 a mid ∧ St w0 W 2 g n D2) → ∃ D', Same D D' a b ∧ Asc K D' a b ∧ St w0 W 2 g n D' from fun W h ⟨D2, x1, x2, x3⟩ => by
          have a2 : Asc K D2 mid b := by
            rcases h with h | h
            · subst h; exact g3.of_eq fun i i1 _ => x1.1 i (.inr i1)
            · subst h; exact g2.of_eq fun i i1 _ => x1.1 i (.inr i1)
          obtain ⟨z1, z2⟩ := HFIN.out D2 D2 x1 x2 (Same.refl _ _ _) a2
          exact ⟨D2, z1, z2, x3⟩)
        clear hh g0 g1 g2 g3 lw1 lw2
        clear hsr'
        by_cases t1 : s < m <;> by_cases t2 : s < mid <;> by_cases t3 : a < s <;> by_cases t4 : e < b
        all_goals try (exfalso; omega; done)
        all_goals
          first | have u1 : m < e := by omega | have u1 : ¬ m < e := by omega
          first | have u2 : mid < e := by omega | have u2 : ¬ mid < e := by omega
          try (have tt : ¬ (a < s ∧ s < mid) := by omega)
          try (have tu : ¬ (mid < e ∧ e < b) := by omega)
          have HAX := Lib.hid (show ¬ (a < s ∧ s < mid) → Asc K D1 a mid from fun x => HAS.out (by omega))
          have HEX := Lib.hid (fun (W : World) (x : ¬ (mid < e ∧ e < b)) => HEND.out W (by omega))
          try (have HS1 : Hid (St w0 wr 2 g n D1) := Lib.hid ((HSTL.out (by omega)).symm ▸ HST.out))
          clear hbw hlr HP1 HP2 f1' f2' f3' f4' f5' f6' f7' md1 md2 nn1 nn2 p1 p2 e1 e2 hss hsr hrr0
          go_wp2_with (first
            | (go_at_call 134; refine (HROT.out _ t1 u1 HST.out).mono ?_; rintro e1 w1 ⟨rfl, hs1⟩; have HS1 := Lib.hid hs1; clear hs1)
            | (go_at_call_of 122 (Value.int .i64 (s : Int)); refine (HI1.out _ t3 t2 HS1.out).mono ?_; rintro e2 w2 ⟨rfl, hx2⟩; have HX2 := Lib.hid hx2; clear hx2)
            | (go_at_call_of 122 (Value.int .i64 (e : Int)); refine (HI2.out _ u2 t4 HX2.out).mono ?_; rintro e3 w3 ⟨rfl, hx3⟩; have HX3 := Lib.hid hx3; clear hx3)
            | (go_at_call_of 122 (Value.int .i64 (e : Int)); refine (HI2.out _ u2 t4 ⟨D1, Same.refl _ _ _, HAX.out tt, HS1.out⟩).mono ?_; rintro e3 w3 ⟨rfl, hx3⟩; have HX3 := Lib.hid hx3; clear hx3))
          all_goals go_end0
          all_goals first
            | exact ⟨rfl, HX3.out⟩
            | exact ⟨rfl, HEX.out _ tu HX2.out⟩
            | exact ⟨rfl, HEX.out _ tu ⟨D1, Same.refl _ _ _, HAX.out tt, HS1.out⟩⟩
end Go.Proofs.Ytenjcdhehjdeoaa.Srt
