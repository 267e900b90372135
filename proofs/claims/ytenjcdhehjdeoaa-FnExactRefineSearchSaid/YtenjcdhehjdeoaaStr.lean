/- The length of the string of a light curve: both sides. -/
import Derived.Test.YtenjcdhehjdeoaaOrd3
import Derived.Test.YtenjcdhehjdeoaaPer
import Derived.BigQuiet
import Derived.Deep.QuietTactic
namespace Go.Proofs.Ytenjcdhehjdeoaa.Str
set_option linter.unusedVariables false
set_option linter.unusedSimpArgs false
set_option maxRecDepth 8000
open Go.RowKit Plain Num View Sym Srt Eph Curve Curve2 Proofs.Ytenjcdhehjdeoaa.Ord

/-- the point at place i by the phases of a period -/
noncomputable def odN (p : Int) (T : Nat → Int) (n i : Nat) : Nat := (lf (foL (phK 0 p T) n) i).toNat
noncomputable def strT (n : Nat) (T M : Nat → Int) (p : Int) (i : Nat) : Int := absI (M (odN p T n i) - M (odN p T n ((i + 1) % n)))
noncomputable def strL (n : Nat) (T M : Nat → Int) (p : Int) : Int := sumB n (strT n T M p)
theorem odN_lt {p : Int} {T : Nat → Int} {n i : Nat} (hi : i < n) : odN p T n i < n ∧ lf (foL (phK 0 p T) n) i = (odN p T n i : Int) := by
  have := foL_in (phK 0 p T) n i hi
  unfold odN
  omega
theorem absI_flip (a b : Int) : absI (a - b) = absI (b - a) := by unfold absI; split <;> split <;> omega
theorem strT_bd {n : Nat} {T M : Nat → Int} {p : Int} (hM : ∀ i, i < n → -2000 ≤ M i ∧ M i ≤ 20000) {k : Nat} (hk : k < n) : 0 ≤ strT n T M p k ∧ strT n T M p k ≤ 22000 := by
  have h1 := hM _ (odN_lt (p := p) (T := T) hk).1
  have h2 := hM _ (odN_lt (p := p) (T := T) (Nat.mod_lt (k + 1) (show 0 < n by omega))).1
  exact absI_bd (by omega) (by omega)
theorem str_bd {n : Nat} {T M : Nat → Int} {p : Int} (hM : ∀ i, i < n → -2000 ≤ M i ∧ M i ≤ 20000) {k : Nat} (hk : k ≤ n) : 0 ≤ sumB k (strT n T M p) ∧ sumB k (strT n T M p) ≤ k * 22000 := by
  have := sumB_bd (k := k) (f := strT n T M p) (a := 0) (b := 22000) (fun q hq => strT_bd hM (by omega))
  simpa using this
set_option maxHeartbeats 1600000 in
theorem c_stringLength (A : Option Addr) (n c : Nat) (T M : Nat → Int) (p : Int) (w : World) (hv : Sl w 2 A n c (f2 T M)) (h100 : n ≤ 100) (hT : ∀ i, i < n → 0 ≤ T i ∧ T i ≤ 10000000) (hM : ∀ i, i < n → -2000 ≤ M i ∧ M i ≤ 20000) (hp : 1 ≤ p ∧ p ≤ 1000000) :
    Calls Try.prog 55 #[.slice A n c, .int .i64 p] w fun e w' => e = .returned (.int .i64 (strL n T M p)) ∧ Below w.heap.size w w' := by
  have HM := Lib.hid hM
  have HF := Lib.hid (fun (W : World) (hW : Sl W 2 A n c (f2 T M)) => c_foldOrder 0 p A n c T M W hW (by omega) hp hT)
  clear hT hM
  go_enter Try.func55, Try.ntmps55
  go_wp2_with (first | (go_at_call 59; refine (HF.out _ (hv.below (by repeat' (first | (with_reducible exact Below.refl _ _) | (with_reducible assumption) | (with_reducible refine Base.grow_alloc ?_ _) | (with_reducible refine Base.below_drewN ?_ _) | (with_reducible refine Below.drew ?_) | (with_reducible refine Below.setCell ?_ ?_ _) | go_size)))).mono ?_))
  rintro e w1 ⟨v, rfl, ho, hb1⟩
  obtain ⟨A1, c1, rfl, V1, B1⟩ := ho.view
  have hbw : Below w.heap.size w w1 := (by repeat' (first | (with_reducible exact Below.refl _ _) | (with_reducible assumption) | (with_reducible refine Base.via hb1 ?_) | (with_reducible refine Base.grow_alloc ?_ _) | (with_reducible refine Base.below_drewN ?_ _) | (with_reducible refine Below.drew ?_) | (with_reducible refine Below.setCell ?_ ?_ _) | go_size))
  have hvw := hv.below hbw
  clear ho B1
  go_wp2
  go_loopw [6, 7, 8, 9, 16] (fun s _ _ _ i wr => ∃ (k : Nat) (x : Int), k ≤ n ∧ i = .int .i64 k ∧ s = .int .i64 x ∧ Hid (x = sumB k (strT n T M p)) ∧ Below w1.heap.size w1 wr) (fun _ _ _ _ i _ => n - (intOf i).toNat)
  case atStart => exact ⟨0, 0, Nat.zero_le _, rfl, rfl, (show (0 : Int) = sumB 0 (strT n T M p) from rfl), (by repeat' (first | (with_reducible exact Below.refl _ _) | (with_reducible assumption) | (with_reducible refine Base.grow_alloc ?_ _) | (with_reducible refine Base.below_drewN ?_ _) | (with_reducible refine Below.drew ?_) | (with_reducible refine Below.setCell ?_ ?_ _) | go_size))⟩
  case round =>
    obtain ⟨k, x, hk, rfl, rfl, hx, hbr⟩ := hrel
    by_cases hlt : k < n
    · obtain ⟨b, off, rfl, hb, hc⟩ := (hvw.below hbr).at_ (by omega)
      obtain ⟨b1, off1, rfl, hb1', hc1⟩ := (V1.below hbr).at_ (by omega)
      have hn0 : 0 < n := by omega
      obtain ⟨q, hq⟩ : ∃ q, (k + 1) % n = q := ⟨_, rfl⟩
      have hqn : q < n := by rw [← hq]; exact Nat.mod_lt _ hn0
      have o0 := cells1 hc1 k hlt
      have o1 := cells1 hc1 q hqn
      obtain ⟨l0, e0⟩ := odN_lt (p := p) (T := T) hlt
      obtain ⟨l1, e1⟩ := odN_lt (p := p) (T := T) hqn
      have m0 := HM.out _ l0
      have m1 := HM.out _ l1
      have hT0 : strT n T M p k = absI (M (odN p T n k) - M (odN p T n q)) := by rw [strT, hq]
      have hbd := str_bd (T := T) (p := p) HM.out hk
      rw [← hx.out] at hbd
      have hbt := strT_bd (T := T) (p := p) HM.out hlt
      rw [hT0] at hbt
      rw [e0] at o0
      rw [e1] at o1
      have HX : Hid (x + absI (M (odN p T n k) - M (odN p T n q)) = sumB (k + 1) (strT n T M p)) := Lib.hid (by rw [sumB_succ, hT0, ← hx.out])
      have r0 := (cells2 hc _ l0).2
      have r1 := (cells2 hc _ l1).2
      clear e0 e1 hT0
      generalize odN p T n k = a at *
      generalize odN p T n q = a' at *
      have hm : ((k : Int) + 1).tmod n = q := by
        rw [← hq]
        have : ((k : Int) + 1) = ((k + 1 : Nat) : Int) := by omega
        rw [this, Int.ofNat_tmod]
      have hnz : ¬ (n : Int) = 0 := by omega
      have ew : IntKind.i64.wrap (M a - M a') = M a - M a' := IntWalk.i64_in _ (by omega)
      have w0 : IntKind.i64.wrap (q : Int) = q := IntWalk.i64_in _ (by omega)
      have i1 : (0 : Int) ≤ (q : Int) := by omega
      have i2 : (q : Int) < n := by omega
      have i3 : (0 : Int) ≤ (a : Int) := by omega
      have i4 : (a : Int) < n := by omega
      have i5 : (0 : Int) ≤ (a' : Int) := by omega
      have i6 : (a' : Int) < n := by omega
      clear hc hc1 hq
      go_wp2
      go_quiet ((first | (go_at_call 50; exact Calls.quiet_of_same ((c_abs _ _ (by omega) (by omega)).mono fun _ _ h => ⟨h.1, h.2.symm⟩))))
      clear ew
      go_wp2
      go_roundw
      case rel => exact ⟨k + 1, _, by omega, by go_num, rfl, HX.out, (by repeat' (first | (with_reducible exact Below.refl _ _) | (with_reducible assumption) | (with_reducible refine Base.grow_alloc ?_ _) | (with_reducible refine Base.below_drewN ?_ _) | (with_reducible refine Below.drew ?_) | (with_reducible refine Below.setCell ?_ ?_ _) | go_size))⟩
      case measure => simp [intOf]; omega
    · have hkn : k = n := by omega
      subst hkn
      have HR := Lib.hid (show x = strL k T M p from hx.out)
      go_wp2
      go_ret
      exact ⟨ret_int HR.out, (by repeat' (first | (with_reducible exact Below.refl _ _) | (with_reducible assumption) | (with_reducible refine Base.via hbr ?_) | (with_reducible refine Base.via hbw ?_) | (with_reducible refine Base.grow_alloc ?_ _) | (with_reducible refine Base.below_drewN ?_ _) | (with_reducible refine Below.drew ?_) | (with_reducible refine Below.setCell ?_ ?_ _) | go_size))⟩
set_option maxHeartbeats 1600000 in
theorem c_l10Length (A : Option Addr) (n c : Nat) (T M : Nat → Int) (p : Int) (w : World) (hv : Sl w 2 A n c (f2 T M)) (h100 : n ≤ 100) (hT : ∀ i, i < n → 0 ≤ T i ∧ T i ≤ 10000000) (hM : ∀ i, i < n → -2000 ≤ M i ∧ M i ≤ 20000) (hp : 1 ≤ p ∧ p ≤ 1000000) :
    Calls Try.prog 54 #[.slice A n c, .int .i64 p] w fun e w' => e = .returned (.int .i64 (strL n T M p)) ∧ Below w.heap.size w w' := by
  have HM := Lib.hid hM
  have HF := Lib.hid (fun (W : World) (hW : Sl W 2 A n c (f2 T M)) => c_l09Fold 0 p A n c T M W hW (by omega) hp hT)
  clear hT hM
  go_enter Try.func54, Try.ntmps54
  go_wp2_with (first | (go_at_call 57; refine (HF.out _ (hv.below (by repeat' (first | (with_reducible exact Below.refl _ _) | (with_reducible assumption) | (with_reducible refine Base.grow_alloc ?_ _) | (with_reducible refine Base.below_drewN ?_ _) | (with_reducible refine Below.drew ?_) | (with_reducible refine Below.setCell ?_ ?_ _) | go_size)))).mono ?_))
  rintro e w1 ⟨v, rfl, ho, hb1⟩
  obtain ⟨A1, c1, rfl, V1, B1⟩ := ho.view
  have hbw : Below w.heap.size w w1 := (by repeat' (first | (with_reducible exact Below.refl _ _) | (with_reducible assumption) | (with_reducible refine Base.via hb1 ?_) | (with_reducible refine Base.grow_alloc ?_ _) | (with_reducible refine Base.below_drewN ?_ _) | (with_reducible refine Below.drew ?_) | (with_reducible refine Below.setCell ?_ ?_ _) | go_size))
  have hvw := hv.below hbw
  clear ho B1
  go_wp2
  go_loopw [6, 7, 8] (fun s i _ wr => ∃ (k : Nat) (x : Int), k ≤ n ∧ i = .int .i64 k ∧ s = .int .i64 x ∧ Hid (x = sumB k (strT n T M p)) ∧ Below w1.heap.size w1 wr) (fun _ i _ _ => n - (intOf i).toNat)
  case atStart => exact ⟨0, 0, Nat.zero_le _, rfl, rfl, (show (0 : Int) = sumB 0 (strT n T M p) from rfl), (by repeat' (first | (with_reducible exact Below.refl _ _) | (with_reducible assumption) | (with_reducible refine Base.grow_alloc ?_ _) | (with_reducible refine Base.below_drewN ?_ _) | (with_reducible refine Below.drew ?_) | (with_reducible refine Below.setCell ?_ ?_ _) | go_size))⟩
  case round =>
    obtain ⟨k, x, hk, rfl, rfl, hx, hbr⟩ := hrel
    by_cases hlt : k < n
    · obtain ⟨b, off, rfl, hb, hc⟩ := (hvw.below hbr).at_ (by omega)
      obtain ⟨b1, off1, rfl, hb1', hc1⟩ := (V1.below hbr).at_ (by omega)
      have hn0 : 0 < n := by omega
      obtain ⟨q, hq⟩ : ∃ q, (k + 1) % n = q := ⟨_, rfl⟩
      have hqn : q < n := by rw [← hq]; exact Nat.mod_lt _ hn0
      have o0 := cells1 hc1 k hlt
      have o1 := cells1 hc1 q hqn
      obtain ⟨l0, e0⟩ := odN_lt (p := p) (T := T) hlt
      obtain ⟨l1, e1⟩ := odN_lt (p := p) (T := T) hqn
      have m0 := HM.out _ l0
      have m1 := HM.out _ l1
      have hT0 : strT n T M p k = absI (M (odN p T n q) - M (odN p T n k)) := by rw [strT, hq, absI_flip]
      have hbd := str_bd (T := T) (p := p) HM.out hk
      rw [← hx.out] at hbd
      have hbt := strT_bd (T := T) (p := p) HM.out hlt
      rw [hT0] at hbt
      rw [e0] at o0
      rw [e1] at o1
      have HX : Hid (x + absI (M (odN p T n q) - M (odN p T n k)) = sumB (k + 1) (strT n T M p)) := Lib.hid (by rw [sumB_succ, hT0, ← hx.out])
      have r0 := (cells2 hc _ l0).2
      have r1 := (cells2 hc _ l1).2
      clear e0 e1 hT0
      generalize odN p T n k = a at *
      generalize odN p T n q = a' at *
      have hm : ((k : Int) + 1).tmod n = q := by
        rw [← hq]
        have : ((k : Int) + 1) = ((k + 1 : Nat) : Int) := by omega
        rw [this, Int.ofNat_tmod]
      have hnz : ¬ (n : Int) = 0 := by omega
      have ew : IntKind.i64.wrap (M a' - M a) = M a' - M a := IntWalk.i64_in _ (by omega)
      have w0 : IntKind.i64.wrap (q : Int) = q := IntWalk.i64_in _ (by omega)
      have i1 : (0 : Int) ≤ (q : Int) := by omega
      have i2 : (q : Int) < n := by omega
      have i3 : (0 : Int) ≤ (a : Int) := by omega
      have i4 : (a : Int) < n := by omega
      have i5 : (0 : Int) ≤ (a' : Int) := by omega
      have i6 : (a' : Int) < n := by omega
      clear hc hc1 hq
      go_wp2
      go_quiet ((first | (go_at_call 43; exact Calls.quiet_of_same ((c_l02Size _ _ (by omega) (by omega)).mono fun _ _ h => ⟨h.1, h.2.symm⟩))))
      clear ew
      go_wp2
      go_roundw
      case rel => exact ⟨k + 1, _, by omega, by go_num, rfl, HX.out, (by repeat' (first | (with_reducible exact Below.refl _ _) | (with_reducible assumption) | (with_reducible refine Base.grow_alloc ?_ _) | (with_reducible refine Base.below_drewN ?_ _) | (with_reducible refine Below.drew ?_) | (with_reducible refine Below.setCell ?_ ?_ _) | go_size))⟩
      case measure => simp [intOf]; omega
    · have hkn : k = n := by omega
      subst hkn
      have HR := Lib.hid (show x = strL k T M p from hx.out)
      go_wp2
      go_ret
      exact ⟨ret_int HR.out, (by repeat' (first | (with_reducible exact Below.refl _ _) | (with_reducible assumption) | (with_reducible refine Base.via hbr ?_) | (with_reducible refine Base.via hbw ?_) | (with_reducible refine Base.grow_alloc ?_ _) | (with_reducible refine Base.below_drewN ?_ _) | (with_reducible refine Below.drew ?_) | (with_reducible refine Below.setCell ?_ ?_ _) | go_size))⟩
def slC (n : Nat) (T M : Nat → Int) (p : Int) : Int := if okCurve n T M = true then (if inB p 1 1000000 = true then (if 40 < n then 5 else 0) else 2) else 1
noncomputable def slV (n : Nat) (T M : Nat → Int) (p : Int) : Int := if slC n T M p = 0 then strL n T M p else 0
theorem sl_cases (n : Nat) (T M : Nat → Int) (p : Int) : (okCurve n T M = true ∧ inB p 1 1000000 = true ∧ n ≤ 40 ∧ slC n T M p = 0) ∨ (okCurve n T M = true ∧ inB p 1 1000000 = true ∧ 40 < n ∧ slC n T M p = 5) ∨ (okCurve n T M = true ∧ inB p 1 1000000 = false ∧ slC n T M p = 2) ∨ (okCurve n T M = false ∧ slC n T M p = 1) := by
  unfold slC
  cases okCurve n T M <;> cases inB p 1 1000000 <;> by_cases h : 40 < n <;> simp [h] <;> omega
set_option maxHeartbeats 800000 in
theorem c_StringLength (A : Option Addr) (n c : Nat) (T M : Nat → Int) (p : Int) (w : World) (hv : Sl w 2 A n c (f2 T M)) :
    Calls Try.prog 25 #[.slice A n c, .int .i64 p] w fun e w' => e = .returned (.tuple #[.int .i64 (slV n T M p), .int .i64 (slC n T M p)]) ∧ Below w.heap.size w w' := by
  have hn := hv.le
  rcases sl_cases n T M p with ⟨h1, h2, h3, hc⟩ | ⟨h1, h2, h3, hc⟩ | ⟨h1, h2, hc⟩ | ⟨h1, hc⟩
  · have HV := Lib.hid (show slV n T M p = strL n T M p by rw [slV, if_pos hc])
    have HC := Lib.hid hc
    obtain ⟨h100, hT, hM, _⟩ := okCurve_bd h1
    have HF := Lib.hid (fun (W : World) (hW : Sl W 2 A n c (f2 T M)) => c_stringLength A n c T M p W hW h100 hT hM (inB_iff.1 h2))
    clear hc hT hM
    go_enter Try.func25, Try.ntmps25
    go_wp2_with (first | (go_at_call 46; refine (c_ValidCurve _ _ _ T M _ (hv.below (by repeat' (first | (with_reducible exact Below.refl _ _) | (with_reducible assumption) | (with_reducible refine Base.grow_alloc ?_ _) | (with_reducible refine Base.below_drewN ?_ _) | (with_reducible refine Below.drew ?_) | (with_reducible refine Below.setCell ?_ ?_ _) | go_size)))).mono ?_; rintro e w1 ⟨rfl, hb1⟩; obtain ⟨chb1, fhb1⟩ := Base.bcell hb1; have zhb1 := (hb1).size; (try simp at zhb1); (try have yhb1 : w.heap.size < (w1).heap.size := by omega)) | (go_at_call 47; refine (c_in _ _ _ _).mono ?_; rintro e w' ⟨rfl, rfl⟩) | (go_at_call 55; refine (HF.out _ (hv.below (by repeat' (first | (with_reducible exact Below.refl _ _) | (with_reducible assumption) | (with_reducible refine Base.via hb1 ?_) | (with_reducible refine Base.grow_alloc ?_ _) | (with_reducible refine Base.below_drewN ?_ _) | (with_reducible refine Below.drew ?_) | (with_reducible refine Below.setCell ?_ ?_ _) | go_size)))).mono ?_; rintro e w2 ⟨rfl, hb2⟩; obtain ⟨chb2, fhb2⟩ := Base.bcell hb2; have zhb2 := (hb2).size; (try simp at zhb2); (try have yhb2 : w.heap.size < (w2).heap.size := by omega)))
    go_ret2
    exact ⟨Curve2.ret_pair HV.out.symm HC.out.symm, (by repeat' (first | (with_reducible exact Below.refl _ _) | (with_reducible assumption) | (with_reducible refine Base.via hb2 ?_) | (with_reducible refine Base.via hb1 ?_) | (with_reducible refine Base.grow_alloc ?_ _) | (with_reducible refine Base.below_drewN ?_ _) | (with_reducible refine Below.drew ?_) | (with_reducible refine Below.setCell ?_ ?_ _) | go_size))⟩
  all_goals
    have HV := Lib.hid (show slV n T M p = 0 by rw [slV, hc]; rfl)
    have HC := Lib.hid hc
    clear hc
    go_enter Try.func25, Try.ntmps25
    go_wp2_with (first | (go_at_call 46; refine (c_ValidCurve _ _ _ T M _ (hv.below (by repeat' (first | (with_reducible exact Below.refl _ _) | (with_reducible assumption) | (with_reducible refine Base.grow_alloc ?_ _) | (with_reducible refine Base.below_drewN ?_ _) | (with_reducible refine Below.drew ?_) | (with_reducible refine Below.setCell ?_ ?_ _) | go_size)))).mono ?_; rintro e w1 ⟨rfl, hb1⟩; obtain ⟨chb1, fhb1⟩ := Base.bcell hb1; have zhb1 := (hb1).size; (try simp at zhb1); (try have yhb1 : w.heap.size < (w1).heap.size := by omega)) | (go_at_call 47; refine (c_in _ _ _ _).mono ?_; rintro e w' ⟨rfl, rfl⟩))
    go_ret2
    exact ⟨Curve2.ret_pair HV.out.symm HC.out.symm, (by repeat' (first | (with_reducible exact Below.refl _ _) | (with_reducible assumption) | (with_reducible refine Base.via hb1 ?_) | (with_reducible refine Base.grow_alloc ?_ _) | (with_reducible refine Base.below_drewN ?_ _) | (with_reducible refine Below.drew ?_) | (with_reducible refine Below.setCell ?_ ?_ _) | go_size))⟩
set_option maxHeartbeats 800000 in
theorem c_specStringLength (A : Option Addr) (n c : Nat) (T M : Nat → Int) (p : Int) (w : World) (hv : Sl w 2 A n c (f2 T M)) :
    Calls Try.prog 24 #[.slice A n c, .int .i64 p] w fun e w' => e = .returned (.tuple #[.int .i64 (slV n T M p), .int .i64 (slC n T M p)]) ∧ Below w.heap.size w w' := by
  have hn := hv.le
  rcases sl_cases n T M p with ⟨h1, h2, h3, hc⟩ | ⟨h1, h2, h3, hc⟩ | ⟨h1, h2, hc⟩ | ⟨h1, hc⟩
  · have HV := Lib.hid (show slV n T M p = strL n T M p by rw [slV, if_pos hc])
    have HC := Lib.hid hc
    obtain ⟨h100, hT, hM, _⟩ := okCurve_bd h1
    have HF := Lib.hid (fun (W : World) (hW : Sl W 2 A n c (f2 T M)) => c_l10Length A n c T M p W hW h100 hT hM (inB_iff.1 h2))
    clear hc hT hM
    go_enter Try.func24, Try.ntmps24
    go_wp2_with (first | (go_at_call 41; refine (c_l08Ok _ _ _ T M _ (hv.below (by repeat' (first | (with_reducible exact Below.refl _ _) | (with_reducible assumption) | (with_reducible refine Base.grow_alloc ?_ _) | (with_reducible refine Base.below_drewN ?_ _) | (with_reducible refine Below.drew ?_) | (with_reducible refine Below.setCell ?_ ?_ _) | go_size)))).mono ?_; rintro e w1 ⟨rfl, hb1⟩; obtain ⟨chb1, fhb1⟩ := Base.bcell hb1; have zhb1 := (hb1).size; (try simp at zhb1); (try have yhb1 : w.heap.size < (w1).heap.size := by omega)) | (go_at_call 53; refine (c_l09Period _ _).mono ?_; rintro e w' ⟨rfl, rfl⟩) | (go_at_call 54; refine (HF.out _ (hv.below (by repeat' (first | (with_reducible exact Below.refl _ _) | (with_reducible assumption) | (with_reducible refine Base.via hb1 ?_) | (with_reducible refine Base.grow_alloc ?_ _) | (with_reducible refine Base.below_drewN ?_ _) | (with_reducible refine Below.drew ?_) | (with_reducible refine Below.setCell ?_ ?_ _) | go_size)))).mono ?_; rintro e w2 ⟨rfl, hb2⟩; obtain ⟨chb2, fhb2⟩ := Base.bcell hb2; have zhb2 := (hb2).size; (try simp at zhb2); (try have yhb2 : w.heap.size < (w2).heap.size := by omega)))
    go_ret2
    exact ⟨Curve2.ret_pair HV.out.symm HC.out.symm, (by repeat' (first | (with_reducible exact Below.refl _ _) | (with_reducible assumption) | (with_reducible refine Base.via hb2 ?_) | (with_reducible refine Base.via hb1 ?_) | (with_reducible refine Base.grow_alloc ?_ _) | (with_reducible refine Base.below_drewN ?_ _) | (with_reducible refine Below.drew ?_) | (with_reducible refine Below.setCell ?_ ?_ _) | go_size))⟩
  all_goals
    have HV := Lib.hid (show slV n T M p = 0 by rw [slV, hc]; rfl)
    have HC := Lib.hid hc
    clear hc
    go_enter Try.func24, Try.ntmps24
    go_wp2_with (first | (go_at_call 41; refine (c_l08Ok _ _ _ T M _ (hv.below (by repeat' (first | (with_reducible exact Below.refl _ _) | (with_reducible assumption) | (with_reducible refine Base.grow_alloc ?_ _) | (with_reducible refine Base.below_drewN ?_ _) | (with_reducible refine Below.drew ?_) | (with_reducible refine Below.setCell ?_ ?_ _) | go_size)))).mono ?_; rintro e w1 ⟨rfl, hb1⟩; obtain ⟨chb1, fhb1⟩ := Base.bcell hb1; have zhb1 := (hb1).size; (try simp at zhb1); (try have yhb1 : w.heap.size < (w1).heap.size := by omega)) | (go_at_call 53; refine (c_l09Period _ _).mono ?_; rintro e w' ⟨rfl, rfl⟩))
    go_ret2
    exact ⟨Curve2.ret_pair HV.out.symm HC.out.symm, (by repeat' (first | (with_reducible exact Below.refl _ _) | (with_reducible assumption) | (with_reducible refine Base.via hb1 ?_) | (with_reducible refine Base.grow_alloc ?_ _) | (with_reducible refine Base.below_drewN ?_ _) | (with_reducible refine Below.drew ?_) | (with_reducible refine Below.setCell ?_ ?_ _) | go_size))⟩
end Go.Proofs.Ytenjcdhehjdeoaa.Str
