/- The period of a search with the least dispersion. -/
import Derived.Test.YtenjcdhehjdeoaaBest
namespace Go.Proofs.Ytenjcdhehjdeoaa.Best
set_option linter.unusedVariables false
set_option linter.unusedSimpArgs false
set_option maxRecDepth 8000
open Go.RowKit Plain Num View Mags Curve Curve2 Bins DisB Frac Disp Eph Per

/-- the sum and the number of pairs for period i -/
def pS (n : Nat) (T M : Nat → Int) (f s b : Int) (i : Nat) : Int := inS n (binV T (perF f s i) b) M
def pP (n : Nat) (T M : Nat → Int) (f s b : Int) (i : Nat) : Int := inP n (binV T (perF f s i) b)
/-- the best period of the first k, 0 for none, with its sum and its number of pairs -/
def bb (n : Nat) (T M : Nat → Int) (f s b : Int) : Nat → Int × Int × Int
  | 0 => (0, 0, 1)
  | k + 1 => if 0 < pP n T M f s b k ∧ ((bb n T M f s b k).1 = 0 ∨ pS n T M f s b k * (bb n T M f s b k).2.2 < (bb n T M f s b k).2.1 * pP n T M f s b k) then (perF f s k, pS n T M f s b k, pP n T M f s b k) else bb n T M f s b k
section
variable {n : Nat} {T M : Nat → Int} {f s b : Int} {k : Nat} {x l r : Int}
theorem bb_none (h : pP n T M f s b k = 0) (hb : bb n T M f s b k = (x, l, r)) : bb n T M f s b (k + 1) = (x, l, r) := by rw [bb, if_neg (by omega), hb]
theorem bb_first {S P q : Int} (hq : perF f s k = q) (hS : pS n T M f s b k = S) (hP : pP n T M f s b k = P) (h : 0 < P) (hb : bb n T M f s b k = (0, l, r)) : bb n T M f s b (k + 1) = (q, S, P) := by rw [bb, hP, hS, hb, if_pos ⟨h, .inl rfl⟩, hq]
theorem bb_less {S P q : Int} (hq : perF f s k = q) (hS : pS n T M f s b k = S) (hP : pP n T M f s b k = P) (h : 0 < P) (hb : bb n T M f s b k = (x, l, r)) (hl : S * r < l * P) : bb n T M f s b (k + 1) = (q, S, P) := by rw [bb, hP, hS, hb, if_pos ⟨h, .inr hl⟩, hq]
theorem bb_keep {S P : Int} (hS : pS n T M f s b k = S) (hP : pP n T M f s b k = P) (hb : bb n T M f s b k = (x, l, r)) (hx : x ≠ 0) (hl : ¬ S * r < l * P) : bb n T M f s b (k + 1) = (x, l, r) := by
  rw [bb, hP, hS, hb, if_neg]
  rintro ⟨_, h | h⟩
  · exact hx h
  · exact hl h
theorem bb_bd (h100 : n ≤ 100) (hM : ∀ i, i < n → -2000 ≤ M i ∧ M i ≤ 20000) (hp : ∀ i, i < k → 1 ≤ perF f s i ∧ perF f s i ≤ 1000000) : ((bb n T M f s b k).1 = 0 ∨ (1 ≤ (bb n T M f s b k).1 ∧ (bb n T M f s b k).1 ≤ 1000000)) ∧ (0 ≤ (bb n T M f s b k).2.1 ∧ (bb n T M f s b k).2.1 ≤ 4840000000000) ∧ (1 ≤ (bb n T M f s b k).2.2 ∧ (bb n T M f s b k).2.2 ≤ 10000) := by
  induction k with
  | zero => simp [bb]
  | succ k ih =>
    have ih := ih (fun i hi => hp i (by omega))
    rw [bb]
    split
    · rename_i h
      have h1 := hp k (by omega)
      have h2 := inS_bd (B := binV T (perF f s k) b) h100 hM
      have h3 := inP_bd (B := binV T (perF f s k) b) h100
      have h4 := h.1
      simp only [pS, pP] at h4 ⊢
      omega
    · exact ih
end
def bestC (n : Nat) (T M : Nat → Int) (f t s b : Int) : Int := if askC n T M f t s b = 0 then (if (bb n T M f s b (perN f t s)).1 = 0 then 3 else 0) else askC n T M f t s b
def bestV (n : Nat) (T M : Nat → Int) (f t s b : Int) : Int := if askC n T M f t s b = 0 then (bb n T M f s b (perN f t s)).1 else 0
set_option maxHeartbeats 1600000 in
theorem c_l11Best (A : Option Addr) (n c : Nat) (T M : Nat → Int) (f t s b : Int) (w : World) (hv : Sl w 2 A n c (f2 T M)) (hok : okCurve n T M = true) (hs : okSearch f t s = true) (hb : inB b 1 20 = true) :
    Calls Try.prog 75 #[.slice A n c, .agg #[.int .i64 f, .int .i64 t, .int .i64 s], .int .i64 b] w fun e w' => e = .returned (.int .i64 (bb n T M f s b (perN f t s)).1) ∧ Below w.heap.size w w' := by
  obtain ⟨h100, hT, hM, _⟩ := okCurve_bd hok
  have hb' := inB_iff.1 hb
  obtain ⟨sb1, sb2, sb3, _⟩ := okSearch_bd hs
  have HT := Lib.hid hT
  have HM := Lib.hid hM
  have HPB := Lib.hid (per_bd hs)
  obtain ⟨hNb, _, hP3⟩ := perN_ok hs
  have HP3 := Lib.hid hP3
  clear hT hM hP3 hok hb
  go_enter Try.func75, Try.ntmps75
  go_wp2
  obtain ⟨w1, hw1⟩ : ∃ w1 : World, w1 = w.alloc (.cells #[.int .i64 f, .int .i64 t, .int .i64 s] 48) := ⟨_, rfl⟩
  have k0 : w1.cell? ⟨w.heap.size, 1, none⟩ = some (.int .i64 t) := by rw [hw1]; simp
  have k1 : w1.cell? ⟨w.heap.size, 2, none⟩ = some (.int .i64 s) := by rw [hw1]; simp
  have hbw : Below w.heap.size w w1 := by rw [hw1]; exact (by repeat' (first | (with_reducible exact Below.refl _ _) | (with_reducible assumption) | (with_reducible refine Base.grow_alloc ?_ _) | (with_reducible refine Base.below_drewN ?_ _) | (with_reducible refine Below.drew ?_) | (with_reducible refine Below.setCell ?_ ?_ _) | go_size))
  have hlw : w.heap.size < w1.heap.size := World.block_lt_of_cell? _ _ k0
  have hvw := hv.below hbw
  rw [← hw1]
  clear hw1
  go_loopw [7, 8, 9, 10, 11, 12] (fun be le pe p _ _ wr => ∃ (k : Nat) (x a l r : Int), k ≤ perN f t s ∧ Hid (x = perF f s k) ∧ p = .int .i64 x ∧ be = .int .i64 a ∧ le = .int .i64 l ∧ pe = .int .i64 r ∧ Hid (bb n T M f s b k = (a, l, r)) ∧ Below w1.heap.size w1 wr) (fun _ _ _ p _ _ _ => (t + s - intOf p).toNat)
  case atStart => exact ⟨0, f, 0, 0, 1, by omega, (show f = perF f s 0 by simp [perF]), rfl, rfl, rfl, rfl, (show bb n T M f s b 0 = (0, 0, 1) from rfl), (by repeat' (first | (with_reducible exact Below.refl _ _) | (with_reducible assumption) | (with_reducible refine Base.grow_alloc ?_ _) | (with_reducible refine Base.below_drewN ?_ _) | (with_reducible refine Below.drew ?_) | (with_reducible refine Below.setCell ?_ ?_ _) | go_size))⟩
  case round =>
    obtain ⟨k, x, a, l, r, hk, hx, rfl, rfl, rfl, rfl, hbb, hbr⟩ := hrel
    obtain ⟨h1, h2⟩ := HP3.out k
    rw [← hx.out] at h1 h2
    have h2 := h2 hk
    have q0 := (hbr.cell (p := ⟨w.heap.size, 1, none⟩) hlw).trans k0
    have q1 := (hbr.cell (p := ⟨w.heap.size, 2, none⟩) hlw).trans k1
    have hlr : w.heap.size < wr.heap.size := World.block_lt_of_cell? _ _ q0
    obtain ⟨a1, l1, r1⟩ := bb_bd (n := n) (T := T) (M := M) (f := f) (s := s) (b := b) (k := k) h100 HM.out (fun i hi => HPB.out i (by omega))
    rw [hbb.out] at a1 l1 r1
    dsimp only at a1 l1 r1
    by_cases hlt : x ≤ t
    · have hkN := h1.2 hlt
      have hx1 : x + s = perF f s (k + 1) := by rw [hx.out, perF, perF]; push_cast; rw [Int.add_mul]; omega
      have HX := Lib.hid hx1
      have hxb := HPB.out k hkN
      rw [← hx.out] at hxb
      have bS := inS_bd (B := binV T x b) h100 HM.out
      have bP := inP_bd (B := binV T x b) h100
      have HI := Lib.hid (fun W (hW : Sl W 2 A n c (f2 T M)) => c_l11Inside A n c T M x b W hW h100 HT.out HM.out hxb hb')
      have eS : pS n T M f s b k = inS n (binV T x b) M := by rw [pS, ← hx.out]
      have eP : pP n T M f s b k = inP n (binV T x b) := by rw [pP, ← hx.out]
      obtain ⟨P, hP⟩ : ∃ P, P = inP n (binV T x b) := ⟨_, rfl⟩
      obtain ⟨S, hS⟩ : ∃ S, S = inS n (binV T x b) M := ⟨_, rfl⟩
      rw [← hP] at eP bP HI
      rw [← hS] at eS bS HI
      have ES := Lib.hid eS
      have EP := Lib.hid eP
      clear h1 hx1 eS eP hP hS
      by_cases hP0 : P = 0
      · have HE := Lib.hid (bb_none (by rw [EP.out]; exact hP0) hbb.out)
        subst hP0
        have hd : decide ((0 : Int) < 0) = false := by decide
        go_wp2_with (first | (go_at_call 91; refine (HI.out _ (hvw.below (by repeat' (first | (with_reducible exact Below.refl _ _) | (with_reducible assumption) | (with_reducible refine Base.via hbr ?_) | (with_reducible refine Base.grow_alloc ?_ _) | (with_reducible refine Base.below_drewN ?_ _) | (with_reducible refine Below.drew ?_) | (with_reducible refine Below.setCell ?_ ?_ _) | go_size)))).mono ?_; rintro e w3 ⟨rfl, hb3⟩; obtain ⟨chb3, fhb3⟩ := Base.bcell hb3; have zhb3 := (hb3).size; (try simp at zhb3); (try have yhb3 : w.heap.size < (w3).heap.size := by omega)))
        go_roundw
        case rel => exact ⟨k + 1, x + s, a, l, r, by omega, HX.out, by go_num, rfl, rfl, rfl, HE.out, (by repeat' (first | (with_reducible exact Below.refl _ _) | (with_reducible assumption) | (with_reducible refine Base.via hb3 ?_) | (with_reducible refine Base.grow_alloc ?_ _) | (with_reducible refine Base.below_drewN ?_ _) | (with_reducible refine Below.drew ?_) | (with_reducible refine Below.setCell ?_ ?_ _) | go_size))⟩
        case measure => simp [intOf]; omega
      · have hP1 : 0 < P := by omega
        by_cases ha : a = 0
        · subst ha
          have HE := Lib.hid (bb_first hx.out.symm ES.out EP.out hP1 hbb.out)
          clear hP0
          go_wp2_with (first | (go_at_call 91; refine (HI.out _ (hvw.below (by repeat' (first | (with_reducible exact Below.refl _ _) | (with_reducible assumption) | (with_reducible refine Base.via hbr ?_) | (with_reducible refine Base.grow_alloc ?_ _) | (with_reducible refine Base.below_drewN ?_ _) | (with_reducible refine Below.drew ?_) | (with_reducible refine Below.setCell ?_ ?_ _) | go_size)))).mono ?_; rintro e w3 ⟨rfl, hb3⟩; obtain ⟨chb3, fhb3⟩ := Base.bcell hb3; have zhb3 := (hb3).size; (try simp at zhb3); (try have yhb3 : w.heap.size < (w3).heap.size := by omega)))
          go_roundw
          case rel => exact ⟨k + 1, x + s, x, S, P, by omega, HX.out, by go_num, rfl, rfl, rfl, HE.out, (by repeat' (first | (with_reducible exact Below.refl _ _) | (with_reducible assumption) | (with_reducible refine Base.via hb3 ?_) | (with_reducible refine Base.grow_alloc ?_ _) | (with_reducible refine Base.below_drewN ?_ _) | (with_reducible refine Below.drew ?_) | (with_reducible refine Below.setCell ?_ ?_ _) | go_size))⟩
          case measure => simp [intOf]; omega
        · have haq : (a == 0) = false := by simpa using ha
          have m1 := mul_bd (a := S) (b := r) (A := 4840000000000) (B := 10000) (by omega) (by omega) (by omega) (by omega)
          have m2 := mul_bd (a := l) (b := P) (A := 4840000000000) (B := 10000) (by omega) (by omega) (by omega) (by omega)
          by_cases hl : S * r < l * P
          · have HE := Lib.hid (bb_less hx.out.symm ES.out EP.out hP1 hbb.out hl)
            clear hP0 ha
            go_wp2_with (first | (go_at_call 91; refine (HI.out _ (hvw.below (by repeat' (first | (with_reducible exact Below.refl _ _) | (with_reducible assumption) | (with_reducible refine Base.via hbr ?_) | (with_reducible refine Base.grow_alloc ?_ _) | (with_reducible refine Base.below_drewN ?_ _) | (with_reducible refine Below.drew ?_) | (with_reducible refine Below.setCell ?_ ?_ _) | go_size)))).mono ?_; rintro e w3 ⟨rfl, hb3⟩; obtain ⟨chb3, fhb3⟩ := Base.bcell hb3; have zhb3 := (hb3).size; (try simp at zhb3); (try have yhb3 : w.heap.size < (w3).heap.size := by omega)))
            go_roundw
            case rel => exact ⟨k + 1, x + s, x, S, P, by omega, HX.out, by go_num, rfl, rfl, rfl, HE.out, (by repeat' (first | (with_reducible exact Below.refl _ _) | (with_reducible assumption) | (with_reducible refine Base.via hb3 ?_) | (with_reducible refine Base.grow_alloc ?_ _) | (with_reducible refine Base.below_drewN ?_ _) | (with_reducible refine Below.drew ?_) | (with_reducible refine Below.setCell ?_ ?_ _) | go_size))⟩
            case measure => simp [intOf]; omega
          · have HE := Lib.hid (bb_keep ES.out EP.out hbb.out ha hl)
            clear hP0 ha
            go_wp2_with (first | (go_at_call 91; refine (HI.out _ (hvw.below (by repeat' (first | (with_reducible exact Below.refl _ _) | (with_reducible assumption) | (with_reducible refine Base.via hbr ?_) | (with_reducible refine Base.grow_alloc ?_ _) | (with_reducible refine Base.below_drewN ?_ _) | (with_reducible refine Below.drew ?_) | (with_reducible refine Below.setCell ?_ ?_ _) | go_size)))).mono ?_; rintro e w3 ⟨rfl, hb3⟩; obtain ⟨chb3, fhb3⟩ := Base.bcell hb3; have zhb3 := (hb3).size; (try simp at zhb3); (try have yhb3 : w.heap.size < (w3).heap.size := by omega)))
            go_roundw
            case rel => exact ⟨k + 1, x + s, a, l, r, by omega, HX.out, by go_num, rfl, rfl, rfl, HE.out, (by repeat' (first | (with_reducible exact Below.refl _ _) | (with_reducible assumption) | (with_reducible refine Base.via hb3 ?_) | (with_reducible refine Base.grow_alloc ?_ _) | (with_reducible refine Base.below_drewN ?_ _) | (with_reducible refine Below.drew ?_) | (with_reducible refine Below.setCell ?_ ?_ _) | go_size))⟩
            case measure => simp [intOf]; omega
    · have hkn : k = perN f t s := by have := fun h => hlt (h1.1 h); omega
      have HR := Lib.hid (show a = (bb n T M f s b (perN f t s)).1 by rw [← hkn, hbb.out])
      clear hkn h1
      go_wp2
      go_ret
      exact ⟨ret_int HR.out, (by repeat' (first | (with_reducible exact Below.refl _ _) | (with_reducible assumption) | (with_reducible refine Base.via hbr ?_) | (with_reducible refine Base.via hbw ?_) | (with_reducible refine Base.grow_alloc ?_ _) | (with_reducible refine Base.below_drewN ?_ _) | (with_reducible refine Below.drew ?_) | (with_reducible refine Below.setCell ?_ ?_ _) | go_size))⟩
end Go.Proofs.Ytenjcdhehjdeoaa.Best
