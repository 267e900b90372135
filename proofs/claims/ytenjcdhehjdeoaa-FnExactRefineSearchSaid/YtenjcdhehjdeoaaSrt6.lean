/- A row of the call's own, sorted by a closure, equal ones left in their order: the whole. -/
import Derived.Test.YtenjcdhehjdeoaaSrt5
namespace Go.Proofs.Ytenjcdhehjdeoaa.Srt
set_option linter.unusedVariables false
set_option linter.unusedSimpArgs false
set_option maxRecDepth 8000
open Go.RowKit Plain Num View Sym

theorem c_symMerge (g n c : Nat) (w0 : World) (gf : Nat) (lb : Array Value) (K : Int → Int) (eg : ∀ args w, (callFunc gf args).run Try.prog w = .ok (.enter gf args) w) (hcmp : CmpOk Try.prog w0 gf lb n K)
    (hn : n ≤ 1048576) (hc : n ≤ c) (hcm : c ≤ 9223372036854775807) (N : Nat) : SymP Try.prog 122 2 g n c w0 gf lb K N := by
  induction N with
  | zero => intro a m b D w hN hs hr ham hmb hbn hl hrr hlow; omega
  | succ N ih =>
    intro a m b D w hN hs hr ham hmb hbn hl hrr hlow
    by_cases h1 : m = a + 1
    · subst h1
      exact c_sym1 g n c w0 gf lb K eg hcmp a (a + 1) b D w hn hc hcm hs hr (Nat.le_refl _) (Nat.le_refl _) hmb hbn hrr hlow
    · by_cases h2 : b = m + 1
      · subst h2
        exact c_sym2 g n c w0 gf lb K eg hcmp a m (m + 1) D w hn hc hcm hs hr (by omega) (Nat.le_refl _) (Nat.le_refl _) hbn hl hlow
      · by_cases h3 : (a + b) / 2 < m
        · exact c_sym3a g n c w0 gf lb K eg hcmp N ih a m b D w hn hc hcm hN hs hr (by omega) (by omega) hbn hl hrr hlow h3
        · exact c_sym3b g n c w0 gf lb K eg hcmp N ih a m b D w hn hc hcm hN hs hr (by omega) (by omega) hbn hl hrr hlow (by omega)
/-- two blocks in a row, merged -/
theorem c_blkMerge (g n c : Nat) (w0 : World) (gf : Nat) (lb : Array Value) (K : Int → Int) (eg : ∀ args w, (callFunc gf args).run Try.prog w = .ok (.enter gf args) w) (hcmp : CmpOk Try.prog w0 gf lb n K)
    (hn : n ≤ 1048576) (hc : n ≤ c) (hcm : c ≤ 9223372036854775807) (a m b : Nat) (x y z : Int) (hx : x = a) (hy : y = m) (hz : z = b) (D : Nat → Int) (w : World) (hs : St w0 w 2 g n D) (hr : Rng D n)
    (ham : a < m) (hmb : m < b) (hbn : b ≤ n) (h1 : Blk K D a m) (h2 : Blk K D m b) :
    Calls Try.prog 122 #[.slice (some ⟨g, 0, none⟩) n c, .int .i64 x, .int .i64 y, .int .i64 z, .func (.func gf) #[] lb] w fun e w' => e = .returned (.tuple #[]) ∧ ∃ D', Same D D' a b ∧ Blk K D' a b ∧ Rng D' n ∧ St w0 w' 2 g n D' := by
  subst hx; subst hy; subst hz
  refine (c_symMerge g n c w0 gf lb K eg hcmp hn hc hcm (b - a) a m b D w (Nat.le_refl _) hs hr ham hmb hbn h1.1 h2.1 (h1.low h2)).mono ?_
  rintro e w1 ⟨rfl, D1, s1, a1, st⟩
  exact ⟨rfl, D1, s1, h1.merged h2 (by omega) (by omega) s1 a1, Same.rng (s1.wide (Nat.zero_le _) hbn) hr, st⟩
/-- a part in ascending order of itself, sorted -/
theorem c_blkInsert (g n c : Nat) (w0 : World) (gf : Nat) (lb : Array Value) (K : Int → Int) (eg : ∀ args w, (callFunc gf args).run Try.prog w = .ok (.enter gf args) w) (hcmp : CmpOk Try.prog w0 gf lb n K)
    (hn : n ≤ 1048576) (hc : n ≤ c) (hcm : c ≤ 9223372036854775807) (a b : Nat) (D : Nat → Int) (w : World) (hs : St w0 w 2 g n D) (hr : Rng D n)
    (hab : a ≤ b) (hbn : b ≤ n) (h1 : ∀ i, a ≤ i → i < n → D i = i) :
    Calls Try.prog 121 #[.slice (some ⟨g, 0, none⟩) n c, .int .i64 a, .int .i64 b, .func (.func gf) #[] lb] w fun e w' => e = .returned (.tuple #[]) ∧ ∃ D', Same D D' a b ∧ Blk K D' a b ∧ Rng D' n ∧ St w0 w' 2 g n D' := by
  refine (c_insertion g n c w0 gf lb K eg hcmp a b D w hn hc hcm hs hr hab hbn (fun p q h2 h3 h4 => ?_)).mono ?_
  · rw [h1 p h2 (by omega), h1 q (by omega) (by omega)]; omega
  rintro e w1 ⟨rfl, D1, s1, a1, st⟩
  exact ⟨rfl, D1, s1, Blk.sorted (fun i i1 i2 => h1 i i1 (by omega)) s1 a1, Same.rng (s1.wide (Nat.zero_le _) hbn) hr, st⟩
set_option maxHeartbeats 6400000 in
theorem c_stable (g n c : Nat) (w0 : World) (gf : Nat) (lb : Array Value) (K : Int → Int) (eg : ∀ args w, (callFunc gf args).run Try.prog w = .ok (.enter gf args) w) (hcmp : CmpOk Try.prog w0 gf lb n K)
    (hn : n ≤ 1048576) (hc : n ≤ c) (hcm : c ≤ 9223372036854775807) (D : Nat → Int) (w : World) (hs : St w0 w 2 g n D) (hid : ∀ i, i < n → D i = i) :
    Calls Try.prog 115 #[.slice (some ⟨g, 0, none⟩) n c, .int .i64 n, .func (.func gf) #[] lb] w fun e w' => e = .returned (.tuple #[]) ∧ ∃ D', Blk K D' 0 n ∧ St w0 w' 2 g n D' := by
  have hr : Rng D n := fun i hi => by rw [hid i hi]; omega
  have HMG := Lib.hid (c_blkMerge g n c w0 gf lb K eg hcmp hn hc hcm)
  have HIN := Lib.hid (c_blkInsert g n c w0 gf lb K eg hcmp hn hc hcm)
  have HS := Lib.hid hs
  have HR := Lib.hid hr
  have HD := Lib.hid hid
  clear hs hr hid hcmp
  go_enter Try.func115, Try.ntmps115
  go_wp2
  go_loopw [7, 8] (fun u v wr => ∃ a b : Nat, u = .int .i64 a ∧ v = .int .i64 b ∧ b ≤ a + 20 ∧ a + 20 ≤ b ∧ a ≤ n ∧ Hid (∃ t D', a = t * 20 ∧ Upto K D' 20 t ∧ (∀ i, a ≤ i → i < n → D' i = i) ∧ Rng D' n ∧ St w0 wr 2 g n D')) (fun u _ _ => n - (intOf u).toNat)
  case atStart => exact ⟨0, 20, rfl, rfl, by omega, by omega, by omega, (show ∃ t D', _ from ⟨0, D, by omega, Upto.zero, fun i _ h => HD.out i h, HR.out, HS.out⟩)⟩
  case round =>
    obtain ⟨a, b, rfl, rfl, b1, b2, han, hst⟩ := hrel
    obtain ⟨t, D1, hat, hup, htl, hr1, hst1⟩ := hst.out
    have HAT := Lib.hid hat
    have HUP := Lib.hid hup
    have HTL := Lib.hid htl
    have HI1 := Lib.hid (fun (y : Nat) (h1 : a ≤ y) (h2 : y ≤ n) => HIN.out a y D1 wr hst1 hr1 h1 h2 htl)
    clear hst hat hup htl hr1 hst1
    by_cases hbn : b ≤ n
    · go_wp2_with (first | (go_at_call 121; refine (HI1.out b (by omega) hbn).mono ?_; rintro e w1 ⟨rfl, hx⟩; have HX := Lib.hid hx; clear hx))
      obtain ⟨D2, s2, k2, r2, st2⟩ := HX.out
      go_roundw
      case rel =>
        refine ⟨b, b + 20, rfl, by go_num, by omega, by omega, by omega, (show ∃ t D', _ from ⟨t + 1, D2, ?_, ?_, ?_, r2, st2⟩)⟩
        · have := HAT.out; omega
        · refine (HUP.out.of_eq fun i hi => s2.1 i (.inl ?_)).succ ?_
          · have := HAT.out; omega
          · rw [← HAT.out, show a + 20 = b by omega]; exact k2
        · intro i i1 i2
          rw [s2.1 i (.inr i1)]
          exact HTL.out i (by omega) i2
      case measure => simp [intOf]; omega
    · go_wp2_with (first | (go_at_call 121; refine (HI1.out n han (Nat.le_refl _)).mono ?_; rintro e w1 ⟨rfl, hx⟩; have HX := Lib.hid hx; clear hx))
      go_loopw [6, 7, 8, 9] (fun x _ _ _ wr => ∃ s : Nat, x = .int .i64 s ∧ 1 ≤ s ∧ s ≤ 2097152 ∧ Hid (∃ D', Runs K D' s n 0 ∧ Rng D' n ∧ St w0 wr 2 g n D')) (fun x _ _ _ _ => n - (intOf x).toNat)
      case atStart =>
        obtain ⟨D2, s2, k2, r2, st2⟩ := HX.out
        refine ⟨20, rfl, by omega, by omega, (show ∃ D', _ from ⟨D2, ?_, r2, st2⟩)⟩
        have hat := HAT.out
        refine Upto.runs (T := t) (HUP.out.of_eq fun i hi => s2.1 i (.inl (by omega))) (by omega) (by omega) (by omega) (fun _ => by rw [← hat]; exact k2)
      case round =>
        obtain ⟨s, rfl, s1, s2, hst⟩ := hrel
        obtain ⟨D2, hrs, hr2, hst2⟩ := hst.out
        have HRS := Lib.hid hrs
        have HR2 := Lib.hid hr2
        have HST2 := Lib.hid hst2
        clear hst hrs hr2 hst2
        by_cases hsn : s < n
        · go_wp2
          go_loopw [7, 8] (fun u v wr => ∃ a b : Nat, u = .int .i64 a ∧ v = .int .i64 b ∧ b ≤ a + 2 * s ∧ a + 2 * s ≤ b ∧ a ≤ n ∧ Hid (∃ t D', a = t * (2 * s) ∧ Upto K D' (2 * s) t ∧ Runs K D' s n a ∧ Rng D' n ∧ St w0 wr 2 g n D')) (fun u _ _ => n - (intOf u).toNat)
          case atStart => exact ⟨0, 2 * s, rfl, by go_num, by omega, by omega, by omega, (show ∃ t D', _ from ⟨0, D2, by omega, Upto.zero, HRS.out, HR2.out, HST2.out⟩)⟩
          case round =>
            obtain ⟨a', b', rfl, rfl, b1', b2', han', hst'⟩ := hrel
            obtain ⟨t', D3, hat', hup', hrs', hr3, hst3⟩ := hst'.out
            have HAT' := Lib.hid hat'
            have HUP' := Lib.hid hup'
            have HRS' := Lib.hid hrs'
            have HMG' := Lib.hid (fun (m y : Nat) (x' y' z' : Int) (hx : x' = a') (hy : y' = m) (hz : z' = y) (h1 : a' < m) (h2 : m < y) (h3 : y ≤ n) => HMG.out a' m y x' y' z' hx hy hz D3 wr hst3 hr3 h1 h2 h3)
            have HR3 := Lib.hid hr3
            have HST3 := Lib.hid hst3
            clear hst' hat' hup' hrs' hr3 hst3 HX HI1 HTL HAT HUP
            by_cases hbn' : b' ≤ n
            · have HB1 : Hid (Blk K D3 a' (a' + s)) := Lib.hid (by
                have := HRS'.out.head (by omega)
                rwa [Nat.min_eq_left (by omega)] at this)
              have HB2 : Hid (Blk K D3 (a' + s) b') := Lib.hid (by
                have := HRS'.out.tail.head (by omega)
                rwa [Nat.min_eq_left (by omega), show a' + s + s = b' by omega] at this)
              go_wp2_with (first | (go_at_call 122; refine (HMG'.out (a' + s) b' _ _ _ (by omega) (by omega) (by omega) (by omega) (by omega) hbn' HB1.out HB2.out).mono ?_; rintro e w1 ⟨rfl, hx⟩; have HX := Lib.hid hx; clear hx))
              obtain ⟨D4, s4, k4, r4, st4⟩ := HX.out
              go_roundw
              case rel =>
                refine ⟨b', b' + 2 * s, rfl, by go_num, by omega, by omega, by omega, (show ∃ t D', _ from ⟨t' + 1, D4, ?_, ?_, ?_, r4, st4⟩)⟩
                · have := HAT'.out; rw [Nat.succ_mul]; omega
                · refine (HUP'.out.of_eq fun i hi => s4.1 i (.inl ?_)).succ ?_
                  · have := HAT'.out; omega
                  · rw [← HAT'.out, show a' + 2 * s = b' by omega]; exact k4
                · have := HRS'.out.tail.tail
                  rw [show a' + s + s = b' by omega] at this
                  exact this.of_eq fun i i1 _ => s4.1 i (.inr i1)
              case measure => simp [intOf]; omega
            · by_cases hm : a' + s < n
              · have HB1 : Hid (Blk K D3 a' (a' + s)) := Lib.hid (by
                  have := HRS'.out.head (by omega)
                  rwa [Nat.min_eq_left (by omega)] at this)
                have HB2 : Hid (Blk K D3 (a' + s) n) := Lib.hid (by
                  have := HRS'.out.tail.head (by omega)
                  rwa [Nat.min_eq_right (by omega)] at this)
                have hm' : (a' : Int) + s < n := by omega
                go_wp2_with (first | (go_at_call 122; refine (HMG'.out (a' + s) n _ _ _ (by omega) (by omega) (by omega) (by omega) (by omega) (Nat.le_refl _) HB1.out HB2.out).mono ?_; rintro e w1 ⟨rfl, hx⟩; have HX := Lib.hid hx; clear hx))
                obtain ⟨D4, s4, k4, r4, st4⟩ := HX.out
                go_roundw
                case rel =>
                  refine ⟨2 * s, by go_num, by omega, by omega, (show ∃ D', _ from ⟨D4, ?_, r4, st4⟩)⟩
                  have hat := HAT'.out
                  exact Upto.runs (T := t') (HUP'.out.of_eq fun i hi => s4.1 i (.inl (by omega))) (by omega) (by omega) (by omega) (fun _ => by rw [← hat]; exact k4)
                case measure => simp [intOf]; omega
              · have hm' : ¬ (a' : Int) + s < n := by omega
                go_wp2
                go_roundw
                case rel =>
                  refine ⟨2 * s, by go_num, by omega, by omega, (show ∃ D', _ from ⟨D3, ?_, HR3.out, HST3.out⟩)⟩
                  have hat := HAT'.out
                  refine Upto.runs (T := t') HUP'.out (by omega) (by omega) (by omega) (fun h => ?_)
                  rw [← hat] at h ⊢
                  have := HRS'.out.head h
                  rwa [Nat.min_eq_right (by omega)] at this
                case measure => simp [intOf]; omega
        · go_wp2
          go_end0
          exact ⟨rfl, D2, HRS.out.whole (by omega), HST2.out⟩
theorem c_sortStable (g n c : Nat) (w0 : World) (gf : Nat) (lb : Array Value) (K : Int → Int) (eg : ∀ args w, (callFunc gf args).run Try.prog w = .ok (.enter gf args) w) (hcmp : CmpOk Try.prog w0 gf lb n K)
    (hn : n ≤ 1048576) (hc : n ≤ c) (hcm : c ≤ 9223372036854775807) (D : Nat → Int) (w : World) (hs : St w0 w 2 g n D) (hid : ∀ i, i < n → D i = i) :
    Calls Try.prog 102 #[.slice (some ⟨g, 0, none⟩) n c, .func (.func gf) #[] lb] w fun e w' => e = .returned (.tuple #[]) ∧ ∃ D', Blk K D' 0 n ∧ St w0 w' 2 g n D' := by
  have H := Lib.hid (c_stable g n c w0 gf lb K eg hcmp hn hc hcm D w hs hid)
  clear hs hid hcmp
  go_enter Try.func102, Try.ntmps102
  go_wp2_with (first | (go_at_call 115; refine H.out.mono ?_; rintro e w1 ⟨rfl, hx⟩))
  go_end0
  exact ⟨rfl, hx⟩
theorem c_insertionNil (gf : Nat) (lb : Array Value) (w : World) :
    Calls Try.prog 121 #[.slice none 0 0, .int .i64 0, .int .i64 0, .func (.func gf) #[] lb] w fun e w' => e = .returned (.tuple #[]) ∧ w = w' := by
  go_enter Try.func121, Try.ntmps121
  go_wp2
  go_loopw [8] (fun u wr => u = .int .i64 1 ∧ w = wr) (fun _ _ => 0)
  case atStart => exact ⟨rfl, rfl⟩
  case round =>
    obtain ⟨rfl, rfl⟩ := hrel
    go_wp2
    go_end0
    exact ⟨rfl, rfl⟩
set_option maxHeartbeats 1600000 in
theorem c_stableNil (gf : Nat) (lb : Array Value) (w : World) :
    Calls Try.prog 115 #[.slice none 0 0, .int .i64 0, .func (.func gf) #[] lb] w fun e w' => e = .returned (.tuple #[]) ∧ w = w' := by
  go_enter Try.func115, Try.ntmps115
  go_wp2
  go_loopw [7, 8] (fun u v wr => u = .int .i64 0 ∧ v = .int .i64 20 ∧ w = wr) (fun _ _ _ => 0)
  case atStart => exact ⟨rfl, rfl, rfl⟩
  case round =>
    obtain ⟨rfl, rfl, rfl⟩ := hrel
    go_wp2_with (first | (go_at_call 121; refine (c_insertionNil gf lb _).mono ?_; rintro e w' ⟨rfl, rfl⟩))
    go_loopw [6, 7, 8, 9] (fun x _ _ _ wr => x = .int .i64 20 ∧ w = wr) (fun _ _ _ _ _ => 0)
    case atStart => exact ⟨rfl, rfl⟩
    case round =>
      obtain ⟨rfl, rfl⟩ := hrel
      go_wp2
      go_end0
      exact ⟨rfl, rfl⟩
theorem c_sortStableNil (gf : Nat) (lb : Array Value) (w : World) :
    Calls Try.prog 102 #[.slice none 0 0, .func (.func gf) #[] lb] w fun e w' => e = .returned (.tuple #[]) ∧ w = w' := by
  go_enter Try.func102, Try.ntmps102
  go_wp2_with (first | (go_at_call 115; refine (c_stableNil gf lb _).mono ?_; rintro e w' ⟨rfl, rfl⟩))
  go_end0
  exact ⟨rfl, rfl⟩
end Go.Proofs.Ytenjcdhehjdeoaa.Srt
