/- The slope of the best straight line. -/
import Derived.Test.YtfpipbajlokheaaPairs
import Derived.Test.YtfpipbajlokheaaDisB
import Derived.Test.YtfpipbajlokheaaFrac
import Derived.Test.YtfpipbajlokheaaList
import Derived.Test.YtfpipbajlokheaaCurve2
import Derived.Test.YtfpipbajlokheaaVar
namespace Go.Proofs.Ytfpipbajlokheaa.Slope
set_option linter.unusedVariables false
set_option linter.unusedSimpArgs false
set_option maxRecDepth 8000
open Go.RowKit Plain Num View Frac Curve Curve2 Pairs

theorem c_l02SizeW (a : Int) (w : World) (ha : -9000000000000000000 ≤ a) (_ha' : a ≤ 9000000000000000000) :
    Calls Try.prog 58 #[.int .i64 a] w fun e w' => e = .returned (.int .i64 (absI a)) ∧ w = w' := by
  by_cases h : a < 0
  · go_enter Try.func58, Try.ntmps58
    go_wp2
    go_ret
    exact ⟨ret_int (by rw [absI, if_pos h]), rfl⟩
  · go_enter Try.func58, Try.ntmps58
    go_wp2
    go_ret
    exact ⟨ret_int (by rw [absI, if_neg (by omega)]), rfl⟩
set_option maxHeartbeats 800000 in
theorem c_l02GcdW (a b : Int) (w : World) (ha : 0 ≤ a) (ha' : a ≤ 9000000000000000000) (hb : 0 ≤ b) (hb' : b ≤ 9000000000000000000) :
    Calls Try.prog 109 #[.int .i64 a, .int .i64 b] w fun e w' => e = .returned (.int .i64 (Int.gcd a b : Int)) ∧ w = w' := by
  go_enter Try.func109, Try.ntmps109
  go_wp2
  go_loop [0, 1, 5] (fun p q _ => ∃ x y : Int, p = .int .i64 x ∧ q = .int .i64 y ∧ (0 ≤ x ∧ x ≤ 9000000000000000000) ∧ (0 ≤ y ∧ y ≤ 9000000000000000000) ∧ Hid (Int.gcd x y = Int.gcd a b)) (fun _ q _ => (intOf q).natAbs)
  case atStart => exact ⟨a, b, rfl, rfl, ⟨ha, ha'⟩, ⟨hb, hb'⟩, (show Int.gcd a b = Int.gcd a b from rfl)⟩
  case round =>
    obtain ⟨x, y, rfl, rfl, ⟨hx, hx'⟩, ⟨hy, hy'⟩, hg⟩ := hrel
    by_cases h0 : y = 0
    · subst h0
      have HE := Lib.hid (show x = (Int.gcd a b : Int) by rw [← hg.out]; simp; omega)
      go_wp2
      go_ret
      exact ⟨ret_int HE.out, rfl⟩
    · have hm := tmod_small x h0
      have hm0 := Int.tmod_nonneg y hx
      have hm2 : x.tmod y ≤ 9000000000000000000 := by omega
      have HG := Lib.hid (show Int.gcd y (x.tmod y) = Int.gcd a b by rw [gcd_step]; exact hg.out)
      go_wp2
      go_round
      case rel => exact ⟨y, x.tmod y, rfl, by first | rfl | (rw [Int.tmod_eq_emod_of_nonneg hx]), ⟨hy, hy'⟩, ⟨hm0, hm2⟩, HG.out⟩
      case measure => first | exact hm | (have e := hm; rw [Int.tmod_eq_emod_of_nonneg hx] at e; exact e)
set_option maxHeartbeats 800000 in
theorem c_l02MakeW (a b : Int) (w : World) (ha : -9000000000000000000 ≤ a) (ha' : a ≤ 9000000000000000000) (hb : 1 ≤ b) (hb' : b ≤ 9000000000000000000) :
    Calls Try.prog 79 #[.int .i64 a, .int .i64 b] w fun e w' => e = .returned (.agg #[.int .i64 (lowN a b), .int .i64 (lowD a b)]) ∧ Below w.heap.size w w' := by
  have h0 : b ≠ 0 := by omega
  have hg1 := gcd_pos' (a := a) h0
  have ab0 := absI_nonneg a
  have ab1 : absI a ≤ 9000000000000000000 := by unfold absI; split <;> omega
  have t1 := tdiv_bd2 (g := (Int.gcd a b : Int)) (by omega) ha ha'
  have t2 := tdiv_bd2 (g := (Int.gcd a b : Int)) (by omega) (show -9000000000000000000 ≤ b by omega) hb'
  have gn : ¬ (Int.gcd a b : Int) = 0 := by omega
  have hG : lowG a b = (Int.gcd a b : Int) := by rw [lowG, if_neg (by omega)]
  have E1 := Lib.hid (show a.tdiv (Int.gcd a b : Int) = lowN a b by rw [← hG, lowN]; exact low_tdiv (lowG_dl a b))
  have E2 := Lib.hid (show b.tdiv (Int.gcd a b : Int) = lowD a b by rw [← hG, lowD]; exact low_tdiv (lowG_dr a b))
  clear hG
  go_enter Try.func79, Try.ntmps79
  go_wp2_with (first | (go_at_call 58; refine (c_l02SizeW _ _ ha ha').mono ?_; rintro e w' ⟨rfl, rfl⟩) | (go_at_call 109; refine ((gcd_abs a b ▸ c_l02GcdW (absI a) b _ ab0 ab1 (by omega) hb')).mono ?_; rintro e w' ⟨rfl, rfl⟩))
  have u1 : wrap64 (a.tdiv (Int.gcd a b : Int)) = a.tdiv (Int.gcd a b : Int) := IntWalk.wrap64_in _ (by omega)
  have u2 : wrap64 (b.tdiv (Int.gcd a b : Int)) = b.tdiv (Int.gcd a b : Int) := IntWalk.wrap64_in _ (by omega)
  go_region
  go_wp2
  refine bodyPost_ret (v := .agg #[.int .i64 (lowN a b), .int .i64 (lowD a b)]) (by simp [results, Try.results79, go_sem, E1.out, E2.out]) rfl ⟨rfl, (by repeat' (first | (with_reducible exact Below.refl _ _) | (with_reducible assumption) | (with_reducible refine Base.grow_alloc ?_ _) | (with_reducible refine Base.below_drewN ?_ _) | (with_reducible refine Below.drew ?_) | (with_reducible refine Below.setCell ?_ ?_ _) | go_size))⟩

def slopeC (n : Nat) (T M : Nat → Int) : Int := if okCurve n T M = true then (if n < 2 then 3 else 0) else 1
def slopeN (n : Nat) (T M : Nat → Int) : Int := if slopeC n T M = 0 then lowN (10000 * prs n (pxy T M)) (prs n (pxy T T)) else 0
def slopeD (n : Nat) (T M : Nat → Int) : Int := if slopeC n T M = 0 then lowD (10000 * prs n (pxy T M)) (prs n (pxy T T)) else 0
theorem slope_cases (n : Nat) (T M : Nat → Int) : (okCurve n T M = true ∧ 2 ≤ n ∧ slopeC n T M = 0) ∨ (okCurve n T M = true ∧ n < 2 ∧ slopeC n T M = 3) ∨ (okCurve n T M = false ∧ slopeC n T M = 1) := by
  unfold slopeC
  cases h : okCurve n T M <;> by_cases h2 : n < 2 <;> simp [h2] <;> omega
theorem pr_bd {n : Nat} {T M : Nat → Int} (hn : n ≤ 100) (hT : ∀ i, i < n → 0 ≤ T i ∧ T i ≤ 10000000) (hM : ∀ i, i < n → -2000 ≤ M i ∧ M i ≤ 20000) {i k : Nat} (hi : i < n) (hk : k < n) :
    (-10000000 ≤ T i - T k ∧ T i - T k ≤ 10000000) ∧ (-22000 ≤ M i - M k ∧ M i - M k ≤ 22000) ∧ (-220000000000 ≤ pxy T M i k ∧ pxy T M i k ≤ 220000000000) ∧ (0 ≤ pxy T T i k ∧ pxy T T i k ≤ 100000000000000) := by
  have t1 := hT i hi; have t2 := hT k hk; have m1 := hM i hi; have m2 := hM k hk
  have a1 : -10000000 ≤ T i - T k ∧ T i - T k ≤ 10000000 := by omega
  have a2 : -22000 ≤ M i - M k ∧ M i - M k ≤ 22000 := by omega
  refine ⟨a1, a2, ?_, ?_⟩
  · have h1 := sq_le (a := 11 * (T i - T k) - 5000 * (M i - M k)) (b := 220000000) (by omega) (by omega)
    have e1 : (11 * (T i - T k) - 5000 * (M i - M k)) * (11 * (T i - T k) - 5000 * (M i - M k)) = 121 * ((T i - T k) * (T i - T k)) - 110000 * pxy T M i k + 25000000 * ((M i - M k) * (M i - M k)) := by simp only [pxy]; grind
    have h2 := sq_le (a := 11 * (T i - T k) + 5000 * (M i - M k)) (b := 220000000) (by omega) (by omega)
    have e2 : (11 * (T i - T k) + 5000 * (M i - M k)) * (11 * (T i - T k) + 5000 * (M i - M k)) = 121 * ((T i - T k) * (T i - T k)) + 110000 * pxy T M i k + 25000000 * ((M i - M k) * (M i - M k)) := by simp only [pxy]; grind
    have h3 := mulself_nonneg (11 * (T i - T k) + 5000 * (M i - M k))
    have h4 := mulself_nonneg (11 * (T i - T k) - 5000 * (M i - M k))
    omega
  · have h1 := sq_le (a := T i - T k) (b := 10000000) a1.1 a1.2
    have h2 := mulself_nonneg (T i - T k)
    simp only [pxy]; omega
theorem row_bd {n : Nat} {T M : Nat → Int} (hn : n ≤ 100) (hT : ∀ i, i < n → 0 ≤ T i ∧ T i ≤ 10000000) (hM : ∀ i, i < n → -2000 ≤ M i ∧ M i ≤ 20000) {i : Nat} (hi : i < n) {q : Nat} (hq : q ≤ i) :
    (-22000000000000 ≤ sumB q (pxy T M i) ∧ sumB q (pxy T M i) ≤ 22000000000000) ∧ (0 ≤ sumB q (pxy T T i) ∧ sumB q (pxy T T i) ≤ 10000000000000000) := by
  have h1 := sumB_bd (k := q) (f := pxy T M i) (a := -220000000000) (b := 220000000000) (fun k hk => (pr_bd hn hT hM hi (by omega)).2.2.1)
  have h2 := sumB_bd (k := q) (f := pxy T T i) (a := 0) (b := 100000000000000) (fun k hk => (pr_bd hn hT hM hi (by omega)).2.2.2)
  omega
theorem prs_bd {n : Nat} {T M : Nat → Int} (hn : n ≤ 100) (hT : ∀ i, i < n → 0 ≤ T i ∧ T i ≤ 10000000) (hM : ∀ i, i < n → -2000 ≤ M i ∧ M i ≤ 20000) {i : Nat} (hi : i ≤ n) :
    (-2200000000000000 ≤ prs i (pxy T M) ∧ prs i (pxy T M) ≤ 2200000000000000) ∧ (0 ≤ prs i (pxy T T) ∧ prs i (pxy T T) ≤ 1000000000000000000) := by
  have h1 := sumB_bd (k := i) (f := fun i => sumB i (pxy T M i)) (a := -22000000000000) (b := 22000000000000) (fun k hk => (row_bd hn hT hM (by omega) (Nat.le_refl _)).1)
  have h2 := sumB_bd (k := i) (f := fun i => sumB i (pxy T T i)) (a := 0) (b := 10000000000000000) (fun k hk => (row_bd hn hT hM (by omega) (Nat.le_refl _)).2)
  unfold prs
  omega
set_option maxHeartbeats 1600000 in
theorem c_l08Line (A : Option Addr) (n c : Nat) (A' : Option Addr) (c' : Nat) (T M : Nat → Int) (w : World) (hv : Sl w 1 A n c (f1 T)) (hu : Sl w 1 A' n c' (f1 M)) (h100 : n ≤ 100) (hT : ∀ i, i < n → 0 ≤ T i ∧ T i ≤ 10000000) (hM : ∀ i, i < n → -2000 ≤ M i ∧ M i ≤ 20000) :
    Calls Try.prog 100 #[.slice A n c, .slice A' n c'] w fun e w' => e = .returned (.tuple #[.int .i64 (prs n (pxy T M)), .int .i64 (prs n (pxy T T))]) ∧ Below w.heap.size w w' := by
  have HT := Lib.hid hT
  have HM := Lib.hid hM
  clear hT hM
  go_enter Try.func100, Try.ntmps100
  go_wp2
  go_loopw [6, 7, 8] (fun s t i wr => ∃ k : Nat, k ≤ n ∧ i = .int .i64 k ∧ s = .int .i64 (prs k (pxy T M)) ∧ t = .int .i64 (prs k (pxy T T)) ∧ Below w.heap.size w wr) (fun _ _ i _ => n - (intOf i).toNat)
  case atStart => exact ⟨0, Nat.zero_le _, rfl, rfl, rfl, Below.refl _ _⟩
  case round =>
    obtain ⟨k, hk, rfl, rfl, rfl, hbr⟩ := hrel
    have b0 := prs_bd h100 HT.out HM.out hk
    by_cases hlt : k < n
    · go_wp2
      go_loopw [6, 7, 9, 10] (fun s t j _ wr => ∃ q : Nat, q ≤ k ∧ j = .int .i64 q ∧ s = .int .i64 (prs k (pxy T M) + sumB q (pxy T M k)) ∧ t = .int .i64 (prs k (pxy T T) + sumB q (pxy T T k)) ∧ Below w.heap.size w wr) (fun _ _ j _ _ => k - (intOf j).toNat)
      case atStart => exact ⟨0, Nat.zero_le _, rfl, by simp [sumB], by simp [sumB], hbr⟩
      case round =>
        obtain ⟨q, hq, rfl, rfl, rfl, hbq⟩ := hrel
        have b1 := row_bd h100 HT.out HM.out hlt hq
        by_cases hlq : q < k
        · obtain ⟨b, off, rfl, hb, hc⟩ := (hv.below hbq).at_ (by omega)
          obtain ⟨b', off', rfl, hb', hc'⟩ := (hu.below hbq).at_ (by omega)
          have h0 := cells1 hc k hlt
          have h1 := cells1 hc q (by omega)
          have g0 := cells1 hc' k hlt
          have g1 := cells1 hc' q (by omega)
          obtain ⟨d1, d2, d3, d4⟩ := pr_bd h100 HT.out HM.out hlt (show q < n by omega)
          have HX := Lib.hid (show (T k - T q) * (M k - M q) = pxy T M k q from rfl)
          have HY := Lib.hid (show (T k - T q) * (T k - T q) = pxy T T k q from rfl)
          simp only [pxy] at d3 d4
          have e1 : IntKind.i64.wrap (T k - T q) = T k - T q := IntWalk.i64_in _ (by omega)
          have e2 : IntKind.i64.wrap (M k - M q) = M k - M q := IntWalk.i64_in _ (by omega)
          have e3 : IntKind.i64.wrap ((T k - T q) * (M k - M q)) = (T k - T q) * (M k - M q) := IntWalk.i64_in _ (by omega)
          have e4 : IntKind.i64.wrap (prs k (pxy T M) + sumB q (pxy T M k) + (T k - T q) * (M k - M q)) = prs k (pxy T M) + sumB q (pxy T M k) + (T k - T q) * (M k - M q) := IntWalk.i64_in _ (by omega)
          clear hc hc'
          go_wp2
          go_quiet (fail)
          go_wp2
          go_quiet (fail)
          clear e1 e2 e3 e4
          go_wp2
          go_roundw
          case rel => exact ⟨q + 1, by omega, by go_num, by rw [sumB_succ, ← HX.out]; go_num, by rw [sumB_succ, ← HY.out]; go_num, (by repeat' (first | (with_reducible exact Below.refl _ _) | (with_reducible assumption) | (with_reducible refine Base.grow_alloc ?_ _) | (with_reducible refine Base.below_drewN ?_ _) | (with_reducible refine Below.drew ?_) | (with_reducible refine Below.setCell ?_ ?_ _) | go_size))⟩
          case measure => simp [intOf]; omega
        · have hqk : q = k := by omega
          subst hqk
          go_wp2
          go_roundw
          case rel => exact ⟨q + 1, by omega, by go_num, rfl, rfl, hbq⟩
          case measure => simp [intOf]; omega
    · have hkn : k = n := by omega
      subst hkn
      go_wp2
      go_ret2
      exact ⟨rfl, hbr⟩
/-- Two rows of the call's own in two blocks: behind an append to the first. -/
theorem apart1 {H : Nat} {v v' u : Value} (hat : v'.ownBlock = v.ownBlock ∨ v'.ownBlock = some H) (hlt : ∀ q, u.ownBlock = some q → q < H) (hne : ∀ q, v.ownBlock = some q → u.ownBlock ≠ some q) : ∀ q, v'.ownBlock = some q → u.ownBlock ≠ some q := by
  intro q hq hq2
  rcases hat with e | e
  · exact hne q (by rw [← e, hq]) hq2
  · rw [hq] at e
    have := Option.some.inj e
    have := hlt q hq2
    omega
theorem kept1 {w w' : World} {B : Nat} {E : TypeId} {k n : Nat} {v u : Value} {xs : List Value} (ho : w.ownsRow B E k u n xs) (hne : ∀ q, v.ownBlock = some q → u.ownBlock ≠ some q) (hg : w.grownBy w' v.ownBlock) : w'.ownsRow B E k u n xs :=
  ho.kept hg (by
    cases hu : u.ownBlock with
    | none => exact .inl rfl
    | some q => exact .inr (fun e => hne q e.symm hu))
theorem own_made {w : World} {B b : Nat} {E : TypeId} {k : Nat} (hB : B ≤ w.heap.size) (hb : b = w.heap.size := by simp) : (w.alloc (.cells #[] E)).ownsRow B E k (.slice (some ⟨b, 0, none⟩) 0 0) 0 [] := hb ▸ World.ownsRow_made _ _ _ hB (by simp [maxLen]) (by simp)
theorem infoI : (Try.prog.info? 2).map (fun i => (i.zero, i.size, i.bytes)) = some (some (.int .i64 0), 1, 8) := by kernel_rfl
set_option maxHeartbeats 1600000 in
theorem c_specSlopeOf (A : Option Addr) (n c : Nat) (T M : Nat → Int) (w : World) (hv : Sl w 2 A n c (f2 T M)) :
    Calls Try.prog 49 #[.slice A n c] w fun e w' => e = .returned (.tuple #[.agg #[.int .i64 (slopeN n T M), .int .i64 (slopeD n T M)], .int .i64 (slopeC n T M)]) ∧ Below w.heap.size w w' := by
  have hn := hv.le
  obtain ⟨i0, hi0, hz0, hz1, hz2⟩ := info_parts infoI
  rcases slope_cases n T M with ⟨h, h2, hc⟩ | ⟨h, h2, hc⟩ | ⟨h, hc⟩
  · obtain ⟨h100, hT, hM, hI⟩ := okCurve_bd h
    have HT := Lib.hid hT
    have HM := Lib.hid hM
    have hd := den_pos hI h2
    have hf := fine hT hM h100
    have hp := (prs_bd h100 hT hM (Nat.le_refl n)).2
    have HN := Lib.hid (show lowN (10000 * prs n (pxy T M)) (prs n (pxy T T)) = slopeN n T M by rw [slopeN, if_pos hc])
    have HD := Lib.hid (show lowD (10000 * prs n (pxy T M)) (prs n (pxy T T)) = slopeD n T M by rw [slopeD, if_pos hc])
    have HC := Lib.hid hc
    clear hT hM hI hc
    go_enter Try.func49, Try.ntmps49
    go_wp2_with (first | (go_at_call 69; refine (c_l08Ok _ _ _ T M _ (hv.below (by repeat' (first | (with_reducible exact Below.refl _ _) | (with_reducible assumption) | (with_reducible refine Base.grow_alloc ?_ _) | (with_reducible refine Base.below_drewN ?_ _) | (with_reducible refine Below.drew ?_) | (with_reducible refine Below.setCell ?_ ?_ _) | go_size)))).mono ?_; rintro e w1 ⟨rfl, hb1⟩; obtain ⟨chb1, fhb1⟩ := Base.bcell hb1; have zhb1 := (hb1).size; (try simp at zhb1); (try have yhb1 : w.heap.size < (w1).heap.size := by omega)))
    have k0 : World.cell? w1 ⟨w.heap.size, 0, none⟩ = some (.int .i64 0) := ((hb1.cell (p := ⟨w.heap.size, 0, none⟩) (by first | (simp; done) | (simp; omega) | omega)).trans (by simp [go_sem]))
    have k1 : World.cell? w1 ⟨w.heap.size, 1, none⟩ = some (.int .i64 0) := ((hb1.cell (p := ⟨w.heap.size, 1, none⟩) (by first | (simp; done) | (simp; omega) | omega)).trans (by simp [go_sem]))
    have fk0 : World.frozen? w1 ⟨w.heap.size, 0, none⟩ = false := ((hb1.frozen (p := ⟨w.heap.size, 0, none⟩) (by first | (simp; done) | (simp; omega) | omega)).trans (by simp [go_sem]))
    have fk1 : World.frozen? w1 ⟨w.heap.size, 1, none⟩ = false := ((hb1.frozen (p := ⟨w.heap.size, 1, none⟩) (by first | (simp; done) | (simp; omega) | omega)).trans (by simp [go_sem]))
    have hvw := hv.below (show Below w.heap.size w w1 from (by repeat' (first | (with_reducible exact Below.refl _ _) | (with_reducible assumption) | (with_reducible refine Base.via hb1 ?_) | (with_reducible refine Base.grow_alloc ?_ _) | (with_reducible refine Base.below_drewN ?_ _) | (with_reducible refine Below.drew ?_) | (with_reducible refine Below.setCell ?_ ?_ _) | go_size)))
    have hbw : Below w.heap.size w w1 := (by repeat' (first | (with_reducible exact Below.refl _ _) | (with_reducible assumption) | (with_reducible refine Base.via hb1 ?_) | (with_reducible refine Base.grow_alloc ?_ _) | (with_reducible refine Base.below_drewN ?_ _) | (with_reducible refine Below.drew ?_) | (with_reducible refine Below.setCell ?_ ?_ _) | go_size))
    have hlw : w.heap.size < w1.heap.size := World.block_lt_of_cell? _ _ k0
    clear chb1 fhb1 zhb1 yhb1 hb1
    go_loopw [4, 5, 6] (fun xs ys i wr => ∃ k : Nat, k ≤ n ∧ i = .int .i64 k ∧ wr.ownsRow w1.heap.size 2 1 xs (sel k all1 T).length (cellL (sel k all1 T)) ∧ wr.ownsRow w1.heap.size 2 1 ys (sel k all1 M).length (cellL (sel k all1 M)) ∧ (∀ q, xs.ownBlock = some q → ys.ownBlock ≠ some q) ∧ Below w1.heap.size w1 wr) (fun _ _ i _ => n - (intOf i).toNat)
    case atStart => exact ⟨0, Nat.zero_le _, rfl, World.ownsRow.alloc (own_made (by omega)) _, (by refine own_made ?_; first | omega | (simp; done) | (simp; omega)), (fun q hq hq2 => by have h1 := Option.some.inj hq; have h2 := Option.some.inj hq2; subst h1; simp at h2), (by repeat' (first | (with_reducible exact Below.refl _ _) | (with_reducible assumption) | (with_reducible refine Base.grow_alloc ?_ _) | (with_reducible refine Base.below_drewN ?_ _) | (with_reducible refine Below.drew ?_) | (with_reducible refine Below.setCell ?_ ?_ _) | go_size))⟩
    case round =>
      obtain ⟨k, hk, rfl, ho1, ho2, hne, hbr⟩ := hrel
      have hz := hbr.size
      have hl1 := sel_all_len (k := k) (g := T)
      have hl2 := sel_all_len (k := k) (g := M)
      by_cases hlt : k < n
      · obtain ⟨b, off, rfl, hb, hcc⟩ := (hvw.below hbr).at_ (by omega)
        obtain ⟨h0, h1⟩ := cells2 hcc k hlt
        clear hcc
        have hblk : b < w1.heap.size := by
          obtain ⟨b', off', e0, hb', _⟩ := hvw.at_ (by omega)
          injection e0 with e0; injection e0 with e1 e2; omega
        have hcl2 : ∀ W : World, Below w1.heap.size w1 W → ∀ {Z : World} {r : Option Nat}, Z.grownBy W r → W.cell? ⟨b, off + k * 2 + 1, none⟩ = some (.int .i64 (M k)) := fun W hW _ _ _ => (hW.cell (p := ⟨b, off + k * 2 + 1, none⟩) hblk).trans ((hbr.cell (p := ⟨b, off + k * 2 + 1, none⟩) hblk).symm.trans h1)
        go_wp2_with (first | (at_builtin; refine wpList_append_own_at _ rfl _ _ 22 rfl (w1.heap.size) 2 i0 _ 1 8 Try.underlying22 hi0 hz0 hz1 hz2 rfl (by decide) _ _ _ rfl (own_of_below ho1 (by repeat' (first | (with_reducible exact Below.refl _ _) | (with_reducible assumption) | (with_reducible refine Base.grow_alloc ?_ _) | (with_reducible refine Base.below_drewN ?_ _) | (with_reducible refine Below.drew ?_) | (with_reducible refine Below.setCell ?_ ?_ _) | go_size))) ⟨_, 0, none⟩ 1 1 [.int .i64 (T k)] rfl rfl (cell_newL _ [.int .i64 (T k)] _ (by simp)) (by simp [Value.oneCell']) (by simp only [maxLen]; omega) (by omega) (by simp; omega) ?_))
        intro v' w2 hown' hgrow _ hat
        have hb2 : Below w1.heap.size w1 w2 := own_grow (by repeat' (first | (with_reducible exact Below.refl _ _) | (with_reducible assumption) | (with_reducible refine Base.grow_alloc ?_ _) | (with_reducible refine Base.below_drewN ?_ _) | (with_reducible refine Below.drew ?_) | (with_reducible refine Below.setCell ?_ ?_ _) | go_size)) ho1 (Nat.le_refl _) hgrow
        have hne2 := apart1 hat (fun q hq => by have := (ho2.lt q hq).2; omega) hne
        have ho2' := kept1 (own_of_below ho2 (by repeat' (first | (with_reducible exact Below.refl _ _) | (with_reducible assumption) | (with_reducible refine Base.grow_alloc ?_ _) | (with_reducible refine Base.below_drewN ?_ _) | (with_reducible refine Below.drew ?_) | (with_reducible refine Below.setCell ?_ ?_ _) | go_size))) hne hgrow
        have h1' : w2.cell? ⟨b, off + k * 2 + 1, none⟩ = some (.int .i64 (M k)) := hcl2 w2 hb2 hgrow
        have hz' := hb2.size
        clear hgrow hat ho2 h1
        go_wp2_with (first | (at_builtin; refine wpList_append_own_at _ rfl _ _ 22 rfl (w1.heap.size) 2 i0 _ 1 8 Try.underlying22 hi0 hz0 hz1 hz2 rfl (by decide) _ _ _ rfl (own_of_below ho2' (by repeat' (first | (with_reducible exact Below.refl _ _) | (with_reducible assumption) | (with_reducible refine Base.grow_alloc ?_ _) | (with_reducible refine Base.below_drewN ?_ _) | (with_reducible refine Below.drew ?_) | (with_reducible refine Below.setCell ?_ ?_ _) | go_size))) ⟨_, 0, none⟩ 1 1 [.int .i64 (M k)] rfl rfl (cell_newL _ [.int .i64 (M k)] _ (by simp)) (by simp [Value.oneCell']) (by simp only [maxLen]; omega) (by omega) (by simp; omega) ?_))
        intro v'' w3 hown'' hgrow _ hat
        have hb3 : Below w1.heap.size w1 w3 := own_grow (by repeat' (first | (with_reducible exact Below.refl _ _) | (with_reducible assumption) | (with_reducible refine Base.via hb2 ?_) | (with_reducible refine Base.grow_alloc ?_ _) | (with_reducible refine Base.below_drewN ?_ _) | (with_reducible refine Below.drew ?_) | (with_reducible refine Below.setCell ?_ ?_ _) | go_size)) ho2' (Nat.le_refl _) hgrow
        have hne3 := apart1 hat (fun q hq => by have := (hown'.lt q hq).2; omega) (fun q hq hq2 => hne2 q hq2 hq)
        have ho1' := kept1 (own_of_below hown' (by repeat' (first | (with_reducible exact Below.refl _ _) | (with_reducible assumption) | (with_reducible refine Base.grow_alloc ?_ _) | (with_reducible refine Base.below_drewN ?_ _) | (with_reducible refine Below.drew ?_) | (with_reducible refine Below.setCell ?_ ?_ _) | go_size))) (fun q hq hq2 => hne2 q hq2 hq) hgrow
        clear hown' hgrow hat
        go_wp2
        go_roundw
        case rel => exact ⟨k + 1, by omega, by go_num, by rw [sel_yes rfl]; exact own_snoc (by rw [hl1]; exact ho1'), by rw [sel_yes rfl]; exact own_snoc (by rw [hl2]; exact hown''), fun q hq hq2 => hne3 q hq2 hq, (by repeat' (first | (with_reducible exact Below.refl _ _) | (with_reducible assumption) | (with_reducible refine Base.via hb3 ?_) | (with_reducible refine Base.grow_alloc ?_ _) | (with_reducible refine Base.below_drewN ?_ _) | (with_reducible refine Below.drew ?_) | (with_reducible refine Below.setCell ?_ ?_ _) | go_size))⟩
        case measure => simp [intOf]; omega
      · have hkn : k = n := by omega
        subst hkn
        obtain ⟨A1, c1, rfl, V1, _⟩ := (OwnK.of_all ho1 (by omega)).view
        obtain ⟨A2, c2, rfl, V2, _⟩ := (OwnK.of_all ho2 (by omega)).view
        have q0 := (hbr.cell (p := ⟨w.heap.size, 0, none⟩) hlw).trans k0
        have q1 := (hbr.cell (p := ⟨w.heap.size, 1, none⟩) hlw).trans k1
        have g0 := (hbr.frozen (p := ⟨w.heap.size, 0, none⟩) hlw).trans fk0
        have g1 := (hbr.frozen (p := ⟨w.heap.size, 1, none⟩) hlw).trans fk1
        have hz2 := hbr.size
        have hzz : w.heap.size < wr.heap.size := by omega
        clear ho1 ho2 hne
        go_wp2_with (first | (go_at_call 100; refine (c_l08Line _ _ _ _ _ T M _ (V1.below (by repeat' (first | (with_reducible exact Below.refl _ _) | (with_reducible assumption) | (with_reducible refine Base.grow_alloc ?_ _) | (with_reducible refine Base.below_drewN ?_ _) | (with_reducible refine Below.drew ?_) | (with_reducible refine Below.setCell ?_ ?_ _) | go_size))) (V2.below (by repeat' (first | (with_reducible exact Below.refl _ _) | (with_reducible assumption) | (with_reducible refine Base.grow_alloc ?_ _) | (with_reducible refine Base.below_drewN ?_ _) | (with_reducible refine Below.drew ?_) | (with_reducible refine Below.setCell ?_ ?_ _) | go_size))) h100 HT.out HM.out).mono ?_; rintro e w2 ⟨rfl, hb2⟩; obtain ⟨chb2, fhb2⟩ := Base.bcell hb2; have zhb2 := (hb2).size; (try simp at zhb2); (try have yhb2 : w.heap.size < (w2).heap.size := by omega)) | (go_at_call 79; refine (c_l02MakeW _ _ _ (by omega) (by omega) (by omega) (by omega)).mono ?_; rintro e w3 ⟨rfl, hb3⟩; obtain ⟨chb3, fhb3⟩ := Base.bcell hb3; have zhb3 := (hb3).size; (try simp at zhb3); (try have yhb3 : w.heap.size < (w3).heap.size := by omega)))
        have r0 := cell_call hb3 (cell_call hb2 q0)
        have r1 := cell_call hb3 (cell_call hb2 q1)
        refine bodyPost_ret (v := .tuple #[.agg #[.int .i64 (lowN (10000 * prs k (pxy T M)) (prs k (pxy T T))), .int .i64 (lowD (10000 * prs k (pxy T M)) (prs k (pxy T T)))], .int .i64 0]) (by simp [results, Try.results49, go_sem, r0, r1]) rfl ⟨Var.ret_frac HN.out HD.out HC.out.symm, (by repeat' (first | (with_reducible exact Below.refl _ _) | (with_reducible assumption) | (with_reducible refine Base.via hb3 ?_) | (with_reducible refine Base.via hb2 ?_) | (with_reducible refine Base.via hbr ?_) | (with_reducible refine Base.via hbw ?_) | (with_reducible refine Base.grow_alloc ?_ _) | (with_reducible refine Base.below_drewN ?_ _) | (with_reducible refine Below.drew ?_) | (with_reducible refine Below.setCell ?_ ?_ _) | go_size))⟩
  all_goals
    have HN := Lib.hid (by rw [slopeN, hc]; rfl : slopeN n T M = 0)
    have HD := Lib.hid (by rw [slopeD, hc]; rfl : slopeD n T M = 0)
    have HC := Lib.hid hc
    clear hc
    go_enter Try.func49, Try.ntmps49
    go_wp2_with (first | (go_at_call 69; refine (c_l08Ok _ _ _ T M _ (hv.below (by repeat' (first | (with_reducible exact Below.refl _ _) | (with_reducible assumption) | (with_reducible refine Base.grow_alloc ?_ _) | (with_reducible refine Base.below_drewN ?_ _) | (with_reducible refine Below.drew ?_) | (with_reducible refine Below.setCell ?_ ?_ _) | go_size)))).mono ?_; rintro e w1 ⟨rfl, hb1⟩; obtain ⟨chb1, fhb1⟩ := Base.bcell hb1; have zhb1 := (hb1).size; (try simp at zhb1); (try have yhb1 : w.heap.size < (w1).heap.size := by omega)))
    have k0 : World.cell? w1 ⟨w.heap.size, 0, none⟩ = some (.int .i64 0) := ((hb1.cell (p := ⟨w.heap.size, 0, none⟩) (by first | (simp; done) | (simp; omega) | omega)).trans (by simp [go_sem]))
    have k1 : World.cell? w1 ⟨w.heap.size, 1, none⟩ = some (.int .i64 0) := ((hb1.cell (p := ⟨w.heap.size, 1, none⟩) (by first | (simp; done) | (simp; omega) | omega)).trans (by simp [go_sem]))
    first
      | refine bodyPost_ret (v := .tuple #[.agg #[.int .i64 0, .int .i64 0], .int .i64 3]) (by simp [results, Try.results49, go_sem, k0, k1]) rfl ⟨Var.ret_frac HN.out.symm HD.out.symm HC.out.symm, (by repeat' (first | (with_reducible exact Below.refl _ _) | (with_reducible assumption) | (with_reducible refine Base.via hb1 ?_) | (with_reducible refine Base.grow_alloc ?_ _) | (with_reducible refine Base.below_drewN ?_ _) | (with_reducible refine Below.drew ?_) | (with_reducible refine Below.setCell ?_ ?_ _) | go_size))⟩
      | refine bodyPost_ret (v := .tuple #[.agg #[.int .i64 0, .int .i64 0], .int .i64 1]) (by simp [results, Try.results49, go_sem, k0, k1]) rfl ⟨Var.ret_frac HN.out.symm HD.out.symm HC.out.symm, (by repeat' (first | (with_reducible exact Below.refl _ _) | (with_reducible assumption) | (with_reducible refine Base.via hb1 ?_) | (with_reducible refine Base.grow_alloc ?_ _) | (with_reducible refine Base.below_drewN ?_ _) | (with_reducible refine Below.drew ?_) | (with_reducible refine Below.setCell ?_ ?_ _) | go_size))⟩
/-- numbers told from the first one on -/
def fromF (T : Nat → Int) (i : Nat) : Int := T i - T 0
theorem from_pr (n : Nat) (T M : Nat → Int) : prs n (pxy (fromF T) (fromF M)) = prs n (pxy T M) := prs_congr fun i k _ _ => by simp only [pxy, fromF]; grind
theorem from_bd {n k : Nat} {T M : Nat → Int} (hn : n ≤ 100) (hT : ∀ i, i < n → 0 ≤ T i ∧ T i ≤ 10000000) (hM : ∀ i, i < n → -2000 ≤ M i ∧ M i ≤ 20000) (hk : k ≤ n) :
    (-1000000000 ≤ sumB k (fromF T) ∧ sumB k (fromF T) ≤ 1000000000) ∧ (-2200000 ≤ sumB k (fromF M) ∧ sumB k (fromF M) ≤ 2200000) ∧ (-22000000000000 ≤ sumB k (fun i => fromF T i * fromF M i) ∧ sumB k (fun i => fromF T i * fromF M i) ≤ 22000000000000) ∧ (0 ≤ sumB k (fun i => fromF T i * fromF T i) ∧ sumB k (fun i => fromF T i * fromF T i) ≤ 10000000000000000) := by
  have h1 := sumB_bd (k := k) (f := fromF T) (a := -10000000) (b := 10000000) (fun i hi => by have := (pr_bd hn hT hM (show i < n by omega) (show 0 < n by omega)).1; simpa [fromF] using this)
  have h2 := sumB_bd (k := k) (f := fromF M) (a := -22000) (b := 22000) (fun i hi => by have := (pr_bd hn hT hM (show i < n by omega) (show 0 < n by omega)).2.1; simpa [fromF] using this)
  have h3 := sumB_bd (k := k) (f := fun i => fromF T i * fromF M i) (a := -220000000000) (b := 220000000000) (fun i hi => (pr_bd hn hT hM (show i < n by omega) (show 0 < n by omega)).2.2.1)
  have h4 := sumB_bd (k := k) (f := fun i => fromF T i * fromF T i) (a := 0) (b := 100000000000000) (fun i hi => (pr_bd hn hT hM (show i < n by omega) (show 0 < n by omega)).2.2.2)
  omega
theorem mul_bd {a b A B : Int} (h1 : -A ≤ a) (h2 : a ≤ A) (h3 : -B ≤ b) (h4 : b ≤ B) : -(A * B) ≤ a * b ∧ a * b ≤ A * B := by
  have k : ∀ {b : Int}, 0 ≤ b → b ≤ B → -(A * B) ≤ a * b ∧ a * b ≤ A * B := fun {b} h3 h4 => by
    have e1 : a * b ≤ A * b := Int.mul_le_mul_of_nonneg_right h2 h3
    have e2 : A * b ≤ A * B := Int.mul_le_mul_of_nonneg_left h4 (by omega)
    have e3 : -A * b ≤ a * b := Int.mul_le_mul_of_nonneg_right h1 h3
    have e4 : -A * b = -(A * b) := Int.neg_mul _ _
    omega
  rcases Int.le_total 0 b with h | h
  · exact k h h4
  · have := k (b := -b) (by omega) (by omega)
    rw [Int.mul_neg] at this
    omega
theorem c_countP (A : Option Addr) (n c : Nat) (w : World) (hn : n ≤ 1048576) : Calls Try.prog 101 #[.slice A n c] w fun e w' => e = .returned (.int .i64 n) ∧ w = w' := by
  go_enter Try.func101, Try.ntmps101
  go_wp2
  go_ret
  exact ⟨rfl, rfl⟩
set_option maxHeartbeats 1600000 in
theorem c_SlopeOf (A : Option Addr) (n c : Nat) (T M : Nat → Int) (w : World) (hv : Sl w 2 A n c (f2 T M)) :
    Calls Try.prog 50 #[.slice A n c] w fun e w' => e = .returned (.tuple #[.agg #[.int .i64 (slopeN n T M), .int .i64 (slopeD n T M)], .int .i64 (slopeC n T M)]) ∧ Below w.heap.size w w' := by
  have hn := hv.le
  rcases slope_cases n T M with ⟨h, h2, hc⟩ | ⟨h, h2, hc⟩ | ⟨h, hc⟩
  · obtain ⟨h100, hT, hM, hI⟩ := okCurve_bd h
    have HT := Lib.hid hT
    have HM := Lib.hid hM
    have hd := den_pos hI h2
    have hf := fine hT hM h100
    have hp := (prs_bd h100 hT hM (Nat.le_refl n)).2
    have HB := Lib.hid (fun k (hk : k ≤ n) => from_bd h100 hT hM hk)
    have HX := Lib.hid (show (n : Int) * sumB n (fun i => fromF T i * fromF M i) - sumB n (fromF T) * sumB n (fromF M) = prs n (pxy T M) by rw [pairs_id, from_pr])
    have HY := Lib.hid (show (n : Int) * sumB n (fun i => fromF T i * fromF T i) - sumB n (fromF T) * sumB n (fromF T) = prs n (pxy T T) by rw [pairs_id, from_pr])
    obtain ⟨lm1, lm2⟩ := low_mul (a := prs n (pxy T M)) (b := prs n (pxy T T)) (c := 10000) hd (by omega)
    obtain ⟨⟨bN1, bN2⟩, bD1, bD2⟩ := DisB.low_bd (a := prs n (pxy T M)) (b := prs n (pxy T T)) (m := 550000000000000) hd hf.1 hf.2
    obtain ⟨N, eN⟩ : ∃ N, N = lowN (prs n (pxy T M)) (prs n (pxy T T)) := ⟨_, rfl⟩
    obtain ⟨D, eD⟩ : ∃ D, D = lowD (prs n (pxy T M)) (prs n (pxy T T)) := ⟨_, rfl⟩
    obtain ⟨G, eG⟩ : ∃ G : Int, G = (Int.gcd 10000 D : Int) := ⟨_, rfl⟩
    rw [← eN, ← eD, ← eG] at lm1
    rw [← eD, ← eG] at lm2
    rw [← eN] at bN1 bN2
    rw [← eD] at bD1 bD2
    have bD3 : D ≤ 1000000000000000000 := by omega
    have bG1 : 1 ≤ G := by rw [eG]; exact gcd_pos' (by omega)
    have bG2 : G ∣ 10000 := by rw [eG]; exact Int.gcd_dvd_left 10000 D
    have bG3 : G ∣ D := by rw [eG]; exact Int.gcd_dvd_right 10000 D
    have q1 : (10000 : Int).tdiv G = 10000 / G := low_tdiv bG2
    have q2 : D.tdiv G = D / G := low_tdiv bG3
    have tb1 := tdiv_bd2 (g := G) (a := 10000) (m := 10000) (by omega) (by omega) (by omega)
    have tb2 := tdiv_bd2 (g := G) (a := D) (m := 1000000000000000000) (by omega) (by omega) bD3
    have tb3 := mul_bd (a := N) (b := (10000 : Int).tdiv G) (A := 550000000000000) (B := 10000) (by omega) (by omega) (by omega) (by omega)
    have HN := Lib.hid (show N * (10000 : Int).tdiv G = slopeN n T M by rw [slopeN, if_pos hc, ← lm1, q1])
    have HD := Lib.hid (show D.tdiv G = slopeD n T M by rw [slopeD, if_pos hc, ← lm2, q2])
    have HGC := Lib.hid (show ∀ w, Calls Try.prog 102 #[.int .i64 10000, .int .i64 D] w fun e w' => e = .returned (.int .i64 G) ∧ Below w.heap.size w w' from fun w => by rw [eG]; exact c_gcd 10000 D w (by omega) (by omega) (by omega) (by omega))
    have EN := Lib.hid eN
    have ED := Lib.hid eD
    clear q1 q2 bG2 bG3 eG eN eD bD2
    have HC := Lib.hid hc
    clear hT hM hI hc lm1 lm2
    go_enter Try.func50, Try.ntmps50
    go_wp2_with (first | (go_at_call 72; refine (c_ValidCurve _ _ _ T M _ (hv.below (by repeat' (first | (with_reducible exact Below.refl _ _) | (with_reducible assumption) | (with_reducible refine Base.grow_alloc ?_ _) | (with_reducible refine Base.below_drewN ?_ _) | (with_reducible refine Below.drew ?_) | (with_reducible refine Below.setCell ?_ ?_ _) | go_size)))).mono ?_; rintro e w1 ⟨rfl, hb1⟩; obtain ⟨chb1, fhb1⟩ := Base.bcell hb1; have zhb1 := (hb1).size; (try simp at zhb1); (try have yhb1 : w.heap.size < (w1).heap.size := by omega)) | (go_at_call 101; refine (c_countP _ _ _ _ hn).mono ?_; rintro e w' ⟨rfl, rfl⟩))
    have k0 : World.cell? w1 ⟨w.heap.size, 0, none⟩ = some (.int .i64 0) := ((hb1.cell (p := ⟨w.heap.size, 0, none⟩) (by first | (simp; done) | (simp; omega) | omega)).trans (by simp [go_sem]))
    have k1 : World.cell? w1 ⟨w.heap.size, 1, none⟩ = some (.int .i64 0) := ((hb1.cell (p := ⟨w.heap.size, 1, none⟩) (by first | (simp; done) | (simp; omega) | omega)).trans (by simp [go_sem]))
    have fk0 : World.frozen? w1 ⟨w.heap.size, 0, none⟩ = false := ((hb1.frozen (p := ⟨w.heap.size, 0, none⟩) (by first | (simp; done) | (simp; omega) | omega)).trans (by simp [go_sem]))
    have fk1 : World.frozen? w1 ⟨w.heap.size, 1, none⟩ = false := ((hb1.frozen (p := ⟨w.heap.size, 1, none⟩) (by first | (simp; done) | (simp; omega) | omega)).trans (by simp [go_sem]))
    have hvw := hv.below (show Below w.heap.size w w1 from (by repeat' (first | (with_reducible exact Below.refl _ _) | (with_reducible assumption) | (with_reducible refine Base.via hb1 ?_) | (with_reducible refine Base.grow_alloc ?_ _) | (with_reducible refine Base.below_drewN ?_ _) | (with_reducible refine Below.drew ?_) | (with_reducible refine Below.setCell ?_ ?_ _) | go_size)))
    have hbw : Below w.heap.size w w1 := (by repeat' (first | (with_reducible exact Below.refl _ _) | (with_reducible assumption) | (with_reducible refine Base.via hb1 ?_) | (with_reducible refine Base.grow_alloc ?_ _) | (with_reducible refine Base.below_drewN ?_ _) | (with_reducible refine Below.drew ?_) | (with_reducible refine Below.setCell ?_ ?_ _) | go_size))
    have hlw : w.heap.size < w1.heap.size := World.block_lt_of_cell? _ _ k0
    clear chb1 fhb1 zhb1 yhb1 hb1
    go_loopw [5, 6, 7, 8, 10, 11, 12, 29] (fun t m tm tt _ _ _ i wr => ∃ k : Nat, k ≤ n ∧ i = .int .i64 k ∧ t = .int .i64 (sumB k (fromF T)) ∧ m = .int .i64 (sumB k (fromF M)) ∧ tm = .int .i64 (sumB k (fun i => fromF T i * fromF M i)) ∧ tt = .int .i64 (sumB k (fun i => fromF T i * fromF T i)) ∧ Below w1.heap.size w1 wr) (fun _ _ _ _ _ _ _ i _ => n - (intOf i).toNat)
    case atStart => exact ⟨0, Nat.zero_le _, rfl, rfl, rfl, rfl, rfl, (by repeat' (first | (with_reducible exact Below.refl _ _) | (with_reducible assumption) | (with_reducible refine Base.grow_alloc ?_ _) | (with_reducible refine Base.below_drewN ?_ _) | (with_reducible refine Below.drew ?_) | (with_reducible refine Below.setCell ?_ ?_ _) | go_size))⟩
    case round =>
      obtain ⟨k, hk, rfl, rfl, rfl, rfl, rfl, hbr⟩ := hrel
      have hz := hbr.size
      have b0 := HB.out k hk
      by_cases hlt : k < n
      · obtain ⟨b, off, rfl, hb, hcc⟩ := (hvw.below hbr).at_ (by omega)
        obtain ⟨h0, h1⟩ := cells2 hcc k hlt
        obtain ⟨g0, g1⟩ := cells2 hcc 0 (by omega)
        simp only [Nat.zero_mul, Nat.add_zero] at g0 g1
        obtain ⟨d1, d2, d3, d4⟩ := pr_bd h100 HT.out HM.out hlt (show 0 < n by omega)
        simp only [pxy] at d3 d4
        have b1 := HB.out (k + 1) hlt
        have HS := Lib.hid (show ∀ g : Nat → Int, sumB (k + 1) g = sumB k g + g k from fun g => rfl)
        have e1 : IntKind.i64.wrap (T k - T 0) = T k - T 0 := IntWalk.i64_in _ (by omega)
        have e2 : IntKind.i64.wrap (M k - M 0) = M k - M 0 := IntWalk.i64_in _ (by omega)
        have hnp : 0 < n := by omega
        clear hcc b1
        go_wp2
        go_quiet (fail)
        clear e1 e2
        go_wp2
        go_roundw
        case rel => exact ⟨k + 1, by omega, by go_num, by rw [HS.out]; rfl, by rw [HS.out]; rfl, by rw [HS.out]; rfl, by rw [HS.out]; rfl, (by repeat' (first | (with_reducible exact Below.refl _ _) | (with_reducible assumption) | (with_reducible refine Base.grow_alloc ?_ _) | (with_reducible refine Base.below_drewN ?_ _) | (with_reducible refine Below.drew ?_) | (with_reducible refine Below.setCell ?_ ?_ _) | go_size))⟩
        case measure => simp [intOf]; omega
      · have hkn : k = n := by omega
        subst hkn
        have q0 := (hbr.cell (p := ⟨w.heap.size, 0, none⟩) hlw).trans k0
        have q1 := (hbr.cell (p := ⟨w.heap.size, 1, none⟩) hlw).trans k1
        have f0 := (hbr.frozen (p := ⟨w.heap.size, 0, none⟩) hlw).trans fk0
        have f1 := (hbr.frozen (p := ⟨w.heap.size, 1, none⟩) hlw).trans fk1
        have hzz : w.heap.size < wr.heap.size := by omega
        obtain ⟨⟨t1, t2⟩, ⟨m1, m2⟩, ⟨x1, x2⟩, ⟨y1, y2⟩⟩ := b0
        have z1 := mul_bd t1 t2 m1 m2
        have z2 := mul_bd t1 t2 t1 t2
        have z3 := mul_bd (a := (k : Int)) (A := 100) (by omega) (by omega) x1 x2
        have z4 := mul_bd (a := (k : Int)) (A := 100) (b := sumB k (fun i => fromF T i * fromF T i)) (B := 10000000000000000) (by omega) (by omega) (by omega) y2
        have HL := Lib.hid (show ∀ w, Calls Try.prog 81 #[.int .i64 ((k : Int) * sumB k (fun i => fromF T i * fromF M i) - sumB k (fromF T) * sumB k (fromF M)), .int .i64 ((k : Int) * sumB k (fun i => fromF T i * fromF T i) - sumB k (fromF T) * sumB k (fromF T))] w fun e w' => e = .returned (.agg #[.int .i64 N, .int .i64 D]) ∧ Below w.heap.size w w' from fun w => by rw [HX.out, HY.out, EN.out, ED.out]; exact c_lowest _ _ w (by omega) (by omega) (by omega) (by omega) (by omega))
        go_wp2_with (first | (go_at_call 81; refine (HL.out _).mono ?_; rintro e w2 ⟨rfl, hb2⟩; obtain ⟨chb2, fhb2⟩ := Base.bcell hb2; have zhb2 := hb2.size; have yhb2 : w.heap.size < w2.heap.size := by omega) | (go_at_call 102; refine (HGC.out _).mono ?_; rintro e w3 ⟨rfl, hb3⟩))
        have r0 := cell_call hb2 q0
        have r1 := cell_call hb2 q1
        have r2 := fr_call hb2 q0 f0
        have r3 := fr_call hb2 q1 f1
        have hb2' : Below w2.heap.size w2 (w2.alloc (.cells #[.int .i64 N, .int .i64 D] 46)) := (by repeat' (first | (with_reducible exact Below.refl _ _) | (with_reducible assumption) | (with_reducible refine Base.grow_alloc ?_ _) | (with_reducible refine Base.below_drewN ?_ _) | (with_reducible refine Below.drew ?_) | (with_reducible refine Below.setCell ?_ ?_ _) | go_size))
        have s0 := cell_call hb3 (cell_call hb2' r0)
        have s1 := cell_call hb3 (cell_call hb2' r1)
        have s2 := fr_call hb3 (cell_call hb2' r0) (fr_call hb2' r0 r2)
        have s3 := fr_call hb3 (cell_call hb2' r1) (fr_call hb2' r1 r3)
        have n0 : w3.cell? ⟨w2.heap.size, 0, none⟩ = some (.int .i64 N) := (hb3.cell (p := ⟨w2.heap.size, 0, none⟩) (by simp)).trans (by simp)
        have n1 : w3.cell? ⟨w2.heap.size, 1, none⟩ = some (.int .i64 D) := (hb3.cell (p := ⟨w2.heap.size, 1, none⟩) (by simp)).trans (by simp)
        have gn : ¬ G = 0 := by omega
        have u1 : wrap64 ((10000 : Int).tdiv G) = (10000 : Int).tdiv G := IntWalk.wrap64_in _ (by omega)
        have u2 : wrap64 (N * (10000 : Int).tdiv G) = N * (10000 : Int).tdiv G := IntWalk.wrap64_in _ (by omega)
        have u3 : wrap64 (D.tdiv G) = D.tdiv G := IntWalk.wrap64_in _ (by omega)
        clear chb2 fhb2
        go_region
        go_wp2
        refine bodyPost_ret (v := .tuple #[.agg #[.int .i64 (slopeN k T M), .int .i64 (slopeD k T M)], .int .i64 0]) (by simp [results, Try.results50, go_sem, HN.out, HD.out, s0, s1]) rfl ⟨Var.ret_frac rfl rfl HC.out.symm, (by repeat' (first | (with_reducible exact Below.refl _ _) | (with_reducible assumption) | (with_reducible refine Base.via hb3 ?_) | (with_reducible refine Base.via hb2 ?_) | (with_reducible refine Base.via hbr ?_) | (with_reducible refine Base.via hbw ?_) | (with_reducible refine Base.grow_alloc ?_ _) | (with_reducible refine Base.below_drewN ?_ _) | (with_reducible refine Below.drew ?_) | (with_reducible refine Below.setCell ?_ ?_ _) | go_size))⟩
  all_goals
    have HN := Lib.hid (by rw [slopeN, hc]; rfl : slopeN n T M = 0)
    have HD := Lib.hid (by rw [slopeD, hc]; rfl : slopeD n T M = 0)
    have HC := Lib.hid hc
    clear hc
    go_enter Try.func50, Try.ntmps50
    go_wp2_with (first | (go_at_call 72; refine (c_ValidCurve _ _ _ T M _ (hv.below (by repeat' (first | (with_reducible exact Below.refl _ _) | (with_reducible assumption) | (with_reducible refine Base.grow_alloc ?_ _) | (with_reducible refine Base.below_drewN ?_ _) | (with_reducible refine Below.drew ?_) | (with_reducible refine Below.setCell ?_ ?_ _) | go_size)))).mono ?_; rintro e w1 ⟨rfl, hb1⟩; obtain ⟨chb1, fhb1⟩ := Base.bcell hb1; have zhb1 := (hb1).size; (try simp at zhb1); (try have yhb1 : w.heap.size < (w1).heap.size := by omega)))
    have k0 : World.cell? w1 ⟨w.heap.size, 0, none⟩ = some (.int .i64 0) := ((hb1.cell (p := ⟨w.heap.size, 0, none⟩) (by first | (simp; done) | (simp; omega) | omega)).trans (by simp [go_sem]))
    have k1 : World.cell? w1 ⟨w.heap.size, 1, none⟩ = some (.int .i64 0) := ((hb1.cell (p := ⟨w.heap.size, 1, none⟩) (by first | (simp; done) | (simp; omega) | omega)).trans (by simp [go_sem]))
    first
      | refine bodyPost_ret (v := .tuple #[.agg #[.int .i64 0, .int .i64 0], .int .i64 3]) (by simp [results, Try.results50, go_sem, k0, k1]) rfl ⟨Var.ret_frac HN.out.symm HD.out.symm HC.out.symm, (by repeat' (first | (with_reducible exact Below.refl _ _) | (with_reducible assumption) | (with_reducible refine Base.via hb1 ?_) | (with_reducible refine Base.grow_alloc ?_ _) | (with_reducible refine Base.below_drewN ?_ _) | (with_reducible refine Below.drew ?_) | (with_reducible refine Below.setCell ?_ ?_ _) | go_size))⟩
      | refine bodyPost_ret (v := .tuple #[.agg #[.int .i64 0, .int .i64 0], .int .i64 1]) (by simp [results, Try.results50, go_sem, k0, k1]) rfl ⟨Var.ret_frac HN.out.symm HD.out.symm HC.out.symm, (by repeat' (first | (with_reducible exact Below.refl _ _) | (with_reducible assumption) | (with_reducible refine Base.via hb1 ?_) | (with_reducible refine Base.grow_alloc ?_ _) | (with_reducible refine Base.below_drewN ?_ _) | (with_reducible refine Below.drew ?_) | (with_reducible refine Below.setCell ?_ ?_ _) | go_size))⟩
end Go.Proofs.Ytfpipbajlokheaa.Slope
