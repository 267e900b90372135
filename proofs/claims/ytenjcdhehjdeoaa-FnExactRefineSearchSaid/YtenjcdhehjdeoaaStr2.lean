/- The lengths of the strings for all periods of a search: both sides. -/
import Derived.Test.YtenjcdhehjdeoaaStr
import Derived.Test.YtenjcdhehjdeoaaList
namespace Go.Proofs.Ytenjcdhehjdeoaa.Str
set_option linter.unusedVariables false
set_option linter.unusedSimpArgs false
set_option maxRecDepth 8000
open Go.RowKit Plain Num View Eph Curve Curve2 Per

theorem infoI : (Try.prog.info? 2).map (fun i => (i.zero, i.size, i.bytes)) = some (some (.int .i64 0), 1, 8) := by kernel_rfl
/-- the code of a light curve and a search; at least some points -/
def srC (n : Nat) (T M : Nat → Int) (f t s : Int) (m : Nat) : Int := if (okCurve n T M && okSearch f t s) = true then (if 40 < n then 5 else if n < m then 3 else 0) else 1
theorem sr_cases (n : Nat) (T M : Nat → Int) (f t s : Int) (m : Nat) : (okCurve n T M = true ∧ okSearch f t s = true ∧ n ≤ 40 ∧ m ≤ n ∧ srC n T M f t s m = 0) ∨ (okCurve n T M = true ∧ okSearch f t s = true ∧ n ≤ 40 ∧ n < m ∧ srC n T M f t s m = 3) ∨ (okCurve n T M = true ∧ okSearch f t s = true ∧ 40 < n ∧ srC n T M f t s m = 5) ∨ (okCurve n T M = true ∧ okSearch f t s = false ∧ srC n T M f t s m = 1) ∨ (okCurve n T M = false ∧ srC n T M f t s m = 1) := by
  unfold srC
  cases okCurve n T M <;> cases okSearch f t s <;> by_cases h : 40 < n <;> by_cases h2 : n < m <;> simp [h, h2] <;> omega
theorem sr_ok {n : Nat} {T M : Nat → Int} {f t s : Int} {m : Nat} (h : srC n T M f t s m = 0) : okCurve n T M = true ∧ okSearch f t s = true ∧ n ≤ 40 ∧ m ≤ n := by
  rcases sr_cases n T M f t s m with ⟨h1, h2, h3, h4, hc⟩ | ⟨h1, h2, h3, h4, hc⟩ | ⟨h1, h2, h3, hc⟩ | ⟨h1, h2, hc⟩ | ⟨h1, hc⟩ <;> first | exact ⟨h1, h2, h3, h4⟩ | omega
theorem per_bd {f t s : Int} (h : okSearch f t s = true) (k : Nat) (hk : k < perN f t s) : 1 ≤ perF f s k ∧ perF f s k ≤ 1000000 := by
  obtain ⟨b1, b2, b3, _⟩ := okSearch_bd h
  obtain ⟨_, _, p3⟩ := perN_ok h
  have h1 := (p3 k).1.1 hk
  have h2 := (p3 k).2 (by omega)
  omega
/-- the lengths as a table -/
noncomputable def lenF (n : Nat) (T M : Nat → Int) (f s : Int) (i : Nat) : Int := strL n T M (perF f s i)
set_option maxHeartbeats 800000 in
theorem c_searchable (A : Option Addr) (n c : Nat) (T M : Nat → Int) (f t s : Int) (m : Nat) (hm : m ≤ 3) (w : World) (hv : Sl w 2 A n c (f2 T M)) :
    Calls Try.prog 62 #[.slice A n c, .agg #[.int .i64 f, .int .i64 t, .int .i64 s], .int .i64 m] w fun e w' => e = .returned (.int .i64 (srC n T M f t s m)) ∧ Below w.heap.size w w' := by
  have hn := hv.le
  rcases sr_cases n T M f t s m with ⟨h1, h2, h3, h4, hc⟩ | ⟨h1, h2, h3, h4, hc⟩ | ⟨h1, h2, h3, hc⟩ | ⟨h1, h2, hc⟩ | ⟨h1, hc⟩
  all_goals
    have HC := Lib.hid hc
    clear hc
    go_enter Try.func62, Try.ntmps62
    go_wp2_with (first | (go_at_call 46; refine (c_ValidCurve _ _ _ T M _ (hv.below (by repeat' (first | (with_reducible exact Below.refl _ _) | (with_reducible assumption) | (with_reducible refine Base.grow_alloc ?_ _) | (with_reducible refine Base.below_drewN ?_ _) | (with_reducible refine Below.drew ?_) | (with_reducible refine Below.setCell ?_ ?_ _) | go_size)))).mono ?_; rintro e w1 ⟨rfl, hb1⟩; obtain ⟨chb1, fhb1⟩ := Base.bcell hb1; have zhb1 := (hb1).size; (try simp at zhb1); (try have yhb1 : w.heap.size < (w1).heap.size := by omega)) | (go_at_call 73; refine (c_ValidSearch f t s _).mono ?_; rintro e w2 ⟨rfl, hb2⟩; obtain ⟨chb2, fhb2⟩ := Base.bcell hb2; have zhb2 := (hb2).size; (try simp at zhb2); (try have yhb2 : w.heap.size < (w2).heap.size := by omega)))
    go_ret
    exact ⟨ret_int HC.out.symm, (by repeat' (first | (with_reducible exact Below.refl _ _) | (with_reducible assumption) | (with_reducible refine Base.via hb2 ?_) | (with_reducible refine Base.via hb1 ?_) | (with_reducible refine Base.grow_alloc ?_ _) | (with_reducible refine Base.below_drewN ?_ _) | (with_reducible refine Below.drew ?_) | (with_reducible refine Below.setCell ?_ ?_ _) | go_size))⟩
set_option maxHeartbeats 1600000 in
theorem c_stringLengths (A : Option Addr) (n c : Nat) (T M : Nat → Int) (B : Option Addr) (m cb : Nat) (P : Nat → Int) (w : World) (hv : Sl w 2 A n c (f2 T M)) (hu : Sl w 1 B m cb (f1 P)) (h100 : n ≤ 100)
    (hT : ∀ i, i < n → 0 ≤ T i ∧ T i ≤ 10000000) (hM : ∀ i, i < n → -2000 ≤ M i ∧ M i ≤ 20000) (hP : ∀ i, i < m → 1 ≤ P i ∧ P i ≤ 1000000) :
    Calls Try.prog 63 #[.slice A n c, .slice B m cb] w fun e w' => ∃ v, e = .returned v ∧ OwnK w' w.heap.size 2 1 v m (f1 (fun i => strL n T M (P i))) ∧ Below w.heap.size w w' := by
  have hm := hu.le
  have HP := Lib.hid hP
  have HF := Lib.hid (fun (W : World) (p : Int) (hp : 1 ≤ p ∧ p ≤ 1000000) (hW : Sl W 2 A n c (f2 T M)) => c_stringLength A n c T M p W hW h100 hT hM hp)
  clear hT hM hP
  obtain ⟨i0, hi0, hz0, hz1, hz2⟩ := info_parts infoI
  go_enter Try.func63, Try.ntmps63
  go_wp2
  go_loopw [5, 7, 11] (fun v _ i wr => ∃ k : Nat, k ≤ m ∧ i = .int .i64 k ∧ wr.ownsRow w.heap.size 2 1 v (sel k all1 (fun i => strL n T M (P i))).length (cellL (sel k all1 (fun i => strL n T M (P i)))) ∧ Below w.heap.size w wr) (fun _ _ i _ => m - (intOf i).toNat)
  case atStart => exact ⟨0, Nat.zero_le _, rfl, World.ownsRow_made _ _ _ (by omega) (by simp [maxLen]) rfl, (by repeat' (first | (with_reducible exact Below.refl _ _) | (with_reducible assumption) | (with_reducible refine Base.grow_alloc ?_ _) | (with_reducible refine Base.below_drewN ?_ _) | (with_reducible refine Below.drew ?_) | (with_reducible refine Below.setCell ?_ ?_ _) | go_size))⟩
  case round =>
    obtain ⟨k, hk, rfl, hown, hbr⟩ := hrel
    have hz := hbr.size
    have hl := sel_all_len (k := k) (g := fun i => strL n T M (P i))
    by_cases hlt : k < m
    · obtain ⟨b, off, rfl, hb, hc⟩ := (hu.below hbr).at_ (by omega)
      have h0 := cells1 hc k hlt
      have hp := HP.out k hlt
      clear hc
      go_wp2_with (first | (go_at_call 55; refine (HF.out _ (P k) hp (hv.below (by repeat' (first | (with_reducible exact Below.refl _ _) | (with_reducible assumption) | (with_reducible refine Base.via hbr ?_) | (with_reducible refine Base.grow_alloc ?_ _) | (with_reducible refine Base.below_drewN ?_ _) | (with_reducible refine Below.drew ?_) | (with_reducible refine Below.setCell ?_ ?_ _) | go_size)))).mono ?_; rintro e w1 ⟨rfl, hb1⟩; obtain ⟨chb1, fhb1⟩ := Base.bcell hb1; have zhb1 := (hb1).size; (try simp at zhb1); (try have yhb1 : w.heap.size < (w1).heap.size := by omega)) | (at_builtin; refine wpList_append_own _ rfl _ _ 24 rfl (w.heap.size) 2 i0 _ 1 8 Try.underlying24 hi0 hz0 hz1 hz2 rfl (by decide) _ _ _ rfl (own_of_below hown (by repeat' (first | (with_reducible exact Below.refl _ _) | (with_reducible assumption) | (with_reducible refine Base.via hb1 ?_) | (with_reducible refine Base.grow_alloc ?_ _) | (with_reducible refine Base.below_drewN ?_ _) | (with_reducible refine Below.drew ?_) | (with_reducible refine Below.setCell ?_ ?_ _) | go_size))) ⟨_, 0, none⟩ 1 1 [.int .i64 (strL n T M (P k))] rfl rfl (cell_newL _ [.int .i64 (strL n T M (P k))] _ (by simp)) (by simp [Value.oneCell']) (by simp only [maxLen]; omega) (by omega) (by simp; omega) ?_))
      intro v' w2 hown' hgrow _
      have hb2 : Below w.heap.size w w2 := own_grow (by repeat' (first | (with_reducible exact Below.refl _ _) | (with_reducible assumption) | (with_reducible refine Base.via hb1 ?_) | (with_reducible refine Base.grow_alloc ?_ _) | (with_reducible refine Base.below_drewN ?_ _) | (with_reducible refine Below.drew ?_) | (with_reducible refine Below.setCell ?_ ?_ _) | go_size)) (own_of_below hown (by repeat' (first | (with_reducible exact Below.refl _ _) | (with_reducible assumption) | (with_reducible refine Base.via hb1 ?_) | (with_reducible refine Base.grow_alloc ?_ _) | (with_reducible refine Base.below_drewN ?_ _) | (with_reducible refine Below.drew ?_) | (with_reducible refine Below.setCell ?_ ?_ _) | go_size))) (Nat.le_refl _) hgrow
      clear hown hgrow
      go_wp2
      go_roundw
      case rel => exact ⟨k + 1, by omega, by go_num, by rw [sel_yes rfl]; exact own_snoc (by rw [hl]; exact hown'), hb2⟩
      case measure => simp [intOf]; omega
    · have hkn : k = m := by omega
      subst hkn
      go_wp2
      go_ret
      exact ⟨_, rfl, OwnK.of_all hown (by omega), hbr⟩
set_option maxHeartbeats 800000 in
theorem c_l10Code (A : Option Addr) (n c : Nat) (T M : Nat → Int) (f t s : Int) (w : World) (hv : Sl w 2 A n c (f2 T M)) :
    Calls Try.prog 60 #[.slice A n c, .agg #[.int .i64 f, .int .i64 t, .int .i64 s]] w fun e w' => e = .returned (.int .i64 (srC n T M f t s 0)) ∧ Below w.heap.size w w' := by
  have hn := hv.le
  rcases sr_cases n T M f t s 0 with ⟨h1, h2, h3, h4, hc⟩ | ⟨h1, h2, h3, h4, hc⟩ | ⟨h1, h2, h3, hc⟩ | ⟨h1, h2, hc⟩ | ⟨h1, hc⟩
  all_goals try (exfalso; omega; done)
  all_goals
    have HC := Lib.hid hc
    clear hc
    go_enter Try.func60, Try.ntmps60
    go_wp2_with (first | (go_at_call 41; refine (c_l08Ok _ _ _ T M _ (hv.below (by repeat' (first | (with_reducible exact Below.refl _ _) | (with_reducible assumption) | (with_reducible refine Base.grow_alloc ?_ _) | (with_reducible refine Base.below_drewN ?_ _) | (with_reducible refine Below.drew ?_) | (with_reducible refine Below.setCell ?_ ?_ _) | go_size)))).mono ?_; rintro e w1 ⟨rfl, hb1⟩; obtain ⟨chb1, fhb1⟩ := Base.bcell hb1; have zhb1 := (hb1).size; (try simp at zhb1); (try have yhb1 : w.heap.size < (w1).heap.size := by omega)) | (go_at_call 70; refine (c_l10Ok f t s _).mono ?_; rintro e w2 ⟨rfl, hb2⟩; obtain ⟨chb2, fhb2⟩ := Base.bcell hb2; have zhb2 := (hb2).size; (try simp at zhb2); (try have yhb2 : w.heap.size < (w2).heap.size := by omega)))
    go_ret
    exact ⟨ret_int HC.out.symm, (by repeat' (first | (with_reducible exact Below.refl _ _) | (with_reducible assumption) | (with_reducible refine Base.via hb2 ?_) | (with_reducible refine Base.via hb1 ?_) | (with_reducible refine Base.grow_alloc ?_ _) | (with_reducible refine Base.below_drewN ?_ _) | (with_reducible refine Below.drew ?_) | (with_reducible refine Below.setCell ?_ ?_ _) | go_size))⟩
set_option maxHeartbeats 1600000 in
theorem c_l10All (A : Option Addr) (n c : Nat) (T M : Nat → Int) (f t s : Int) (w : World) (hv : Sl w 2 A n c (f2 T M)) (hok : okCurve n T M = true) (hs : okSearch f t s = true) :
    Calls Try.prog 61 #[.slice A n c, .agg #[.int .i64 f, .int .i64 t, .int .i64 s]] w fun e w' => ∃ v, e = .returned v ∧ OwnK w' w.heap.size 2 1 v (perN f t s) (f1 (lenF n T M f s)) ∧ Below w.heap.size w w' := by
  obtain ⟨h100, hT, hM, _⟩ := okCurve_bd hok
  obtain ⟨b1, b2, b3, b4⟩ := okSearch_bd hs
  obtain ⟨p1, p2, p3⟩ := perN_ok hs
  have HP := Lib.hid p3
  have HPB := Lib.hid (per_bd hs)
  have HF := Lib.hid (fun (W : World) (p : Int) (hp : 1 ≤ p ∧ p ≤ 1000000) (hW : Sl W 2 A n c (f2 T M)) => c_l10Length A n c T M p W hW h100 hT hM hp)
  clear p3 b4 hT hM
  generalize hN : perN f t s = N at *
  clear hN
  obtain ⟨i0, hi0, hz0, hz1, hz2⟩ := info_parts infoI
  go_enter Try.func61, Try.ntmps61
  go_wp2
  obtain ⟨W1, hW1⟩ : ∃ W1, W1 = w.alloc (.cells #[.int .i64 f, .int .i64 t, .int .i64 s] 48) := ⟨_, rfl⟩
  have hbw : Below w.heap.size w W1 := by rw [hW1]; exact (by repeat' (first | (with_reducible exact Below.refl _ _) | (with_reducible assumption) | (with_reducible refine Base.grow_alloc ?_ _) | (with_reducible refine Base.below_drewN ?_ _) | (with_reducible refine Below.drew ?_) | (with_reducible refine Below.setCell ?_ ?_ _) | go_size))
  have k1 : W1.cell? ⟨w.heap.size, 1, none⟩ = some (.int .i64 t) := by rw [hW1]; simp
  have k2 : W1.cell? ⟨w.heap.size, 2, none⟩ = some (.int .i64 s) := by rw [hW1]; simp
  have z1 : W1.heap.size = w.heap.size + 1 := by rw [hW1]; simp
  have hvw := hv.below hbw
  rw [← hW1]
  clear hW1
  go_loopw [5, 6] (fun v p wr => ∃ (k : Nat) (x : Int), k ≤ N ∧ Hid (x = perF f s k) ∧ p = .int .i64 x ∧ wr.ownsRow (w.heap.size + 1) 2 1 v k (cellsI k (lenF n T M f s)) ∧ Below (w.heap.size + 1) W1 wr) (fun _ p _ => (t + s - intOf p).toNat)
  case atStart => exact ⟨0, f, by omega, (show f = perF f s 0 by simp [perF]), rfl, by rw [← z1]; exact World.ownsRow_made _ _ _ (by omega) (by simp [maxLen]) rfl, (Below.refl _ _).alloc (by omega) _⟩
  case round =>
    obtain ⟨k, x, hk, hx, rfl, hown, hbr⟩ := hrel
    obtain ⟨h1, h2⟩ := HP.out k
    rw [← hx.out] at h1 h2
    have h2 := h2 hk
    have k1' := (hbr.cell (p := ⟨w.heap.size, 1, none⟩) (by simp)).trans k1
    have k2' := (hbr.cell (p := ⟨w.heap.size, 2, none⟩) (by simp)).trans k2
    have hzr := hbr.size
    have hbr' : Below W1.heap.size W1 wr := by rw [z1]; exact hbr
    by_cases hlt : x ≤ t
    · have hkN := h1.2 hlt
      have hx1 : x + s = perF f s (k + 1) := by rw [hx.out, perF, perF]; push_cast; rw [Int.add_mul]; omega
      have hxb := HPB.out k hkN
      rw [← hx.out] at hxb
      have HX := Lib.hid hx1
      have HL := Lib.hid (show strL n T M x = lenF n T M f s k by rw [lenF, ← hx.out])
      clear h1 hx1
      go_wp2_with (first | (go_at_call 54; refine (HF.out _ x hxb (hvw.below (by repeat' (first | (with_reducible exact Below.refl _ _) | (with_reducible assumption) | (with_reducible refine Base.via hbr' ?_) | (with_reducible refine Base.grow_alloc ?_ _) | (with_reducible refine Base.below_drewN ?_ _) | (with_reducible refine Below.drew ?_) | (with_reducible refine Below.setCell ?_ ?_ _) | go_size)))).mono ?_; rintro e w2 ⟨rfl, hb2⟩; obtain ⟨chb2, fhb2⟩ := Base.bcell hb2; have zhb2 := (hb2).size; (try simp at zhb2); (try have yhb2 : w.heap.size < (w2).heap.size := by omega)) | (at_builtin; refine wpList_append_own _ rfl _ _ 24 rfl (w.heap.size + 1) 2 i0 _ 1 8 Try.underlying24 hi0 hz0 hz1 hz2 rfl (by decide) _ _ _ rfl (own_of_below hown (by repeat' (first | (with_reducible exact Below.refl _ _) | (with_reducible assumption) | (with_reducible refine Base.via hb2 ?_) | (with_reducible refine Base.grow_alloc ?_ _) | (with_reducible refine Base.below_drewN ?_ _) | (with_reducible refine Below.drew ?_) | (with_reducible refine Below.setCell ?_ ?_ _) | go_size))) ⟨_, 0, none⟩ 1 1 [.int .i64 (strL n T M x)] rfl rfl (cell_newL _ [.int .i64 (strL n T M x)] _ (by simp)) (by simp [Value.oneCell']) (by simp only [maxLen]; omega) (by omega) (by simp; omega) ?_))
      intro v' w3 hown' hgrow _
      have hb3 : Below W1.heap.size W1 w3 := own_grow (by repeat' (first | (with_reducible exact Below.refl _ _) | (with_reducible assumption) | (with_reducible refine Base.via hb2 ?_) | (with_reducible refine Base.via hbr' ?_) | (with_reducible refine Base.grow_alloc ?_ _) | (with_reducible refine Base.below_drewN ?_ _) | (with_reducible refine Below.drew ?_) | (with_reducible refine Below.setCell ?_ ?_ _) | go_size)) (own_of_below hown (by repeat' (first | (with_reducible exact Below.refl _ _) | (with_reducible assumption) | (with_reducible refine Base.via hb2 ?_) | (with_reducible refine Base.grow_alloc ?_ _) | (with_reducible refine Base.below_drewN ?_ _) | (with_reducible refine Below.drew ?_) | (with_reducible refine Below.setCell ?_ ?_ _) | go_size))) (by omega) hgrow
      have k2 := (hb3.cell (p := ⟨w.heap.size, 2, none⟩) (by simp; omega)).trans k2
      have hb3' : Below (w.heap.size + 1) W1 w3 := by rw [← z1]; exact hb3
      clear k1' k2'
      go_wp2
      go_roundw
      case rel => exact ⟨k + 1, x + s, by omega, HX.out, by go_num, by rw [← cellsI_succ, ← HL.out]; exact hown', hb3'⟩
      case measure => simp [intOf]; omega
    · have hkN : k = N := by have := fun h => hlt (h1.1 h); omega
      subst hkN
      go_wp2
      go_ret
      exact ⟨_, rfl, (loopEnd hown (by omega)).mono (by omega), hbw.trans (hbr.mono (by omega))⟩
def slN (n : Nat) (T M : Nat → Int) (f t s : Int) : Nat := if srC n T M f t s 0 = 0 then perN f t s else 0
set_option maxHeartbeats 1600000 in
theorem c_StringLengths (A : Option Addr) (n c : Nat) (T M : Nat → Int) (f t s : Int) (w : World) (hv : Sl w 2 A n c (f2 T M)) :
    Calls Try.prog 31 #[.slice A n c, .agg #[.int .i64 f, .int .i64 t, .int .i64 s]] w fun e w' => ∃ v, e = .returned (.tuple #[v, .int .i64 (srC n T M f t s 0)]) ∧ OwnK w' w.heap.size 2 1 v (slN n T M f t s) (f1 (lenF n T M f s)) ∧ Below w.heap.size w w' := by
  by_cases hc : srC n T M f t s 0 = 0
  · obtain ⟨h1, h2, h3, _⟩ := sr_ok hc
    obtain ⟨h100, hT, hM, _⟩ := okCurve_bd h1
    have HN := Lib.hid (show slN n T M f t s = perN f t s by rw [slN, if_pos hc])
    have HPB := Lib.hid (per_bd h2)
    have HPR := Lib.hid (fun W => c_periods f t s W h2)
    have HF := Lib.hid (fun (W : World) (B : Option Addr) (cb : Nat) (hW : Sl W 2 A n c (f2 T M)) (hu : Sl W 1 B (perN f t s) cb (f1 (perF f s))) => c_stringLengths A n c T M B (perN f t s) cb (perF f s) W hW hu h100 hT hM HPB.out)
    have HSR := Lib.hid (fun (W : World) (hW : Sl W 2 A n c (f2 T M)) => by have := c_searchable A n c T M f t s 0 (by omega) W hW; rw [hc] at this; exact this)
    have HC := Lib.hid hc
    clear hT hM hc
    go_enter Try.func31, Try.ntmps31
    go_wp2_with (first | (go_at_call 62; refine (HSR.out _ (hv.below (by repeat' (first | (with_reducible exact Below.refl _ _) | (with_reducible assumption) | (with_reducible refine Base.grow_alloc ?_ _) | (with_reducible refine Base.below_drewN ?_ _) | (with_reducible refine Below.drew ?_) | (with_reducible refine Below.setCell ?_ ?_ _) | go_size)))).mono ?_; rintro e w1 ⟨rfl, hb1⟩; obtain ⟨chb1, fhb1⟩ := Base.bcell hb1; have zhb1 := (hb1).size; (try simp at zhb1); (try have yhb1 : w.heap.size < (w1).heap.size := by omega)) | (go_at_call 64; refine (HPR.out _).mono ?_))
    rintro e w2 ⟨v2, rfl, ho2, hb2⟩
    obtain ⟨A2, c2, rfl, V2, B2⟩ := ho2.view
    have hb12 : Below w1.heap.size w1 w2 := (by repeat' (first | (with_reducible exact Below.refl _ _) | (with_reducible assumption) | (with_reducible refine Base.via hb2 ?_) | (with_reducible refine Base.grow_alloc ?_ _) | (with_reducible refine Base.below_drewN ?_ _) | (with_reducible refine Below.drew ?_) | (with_reducible refine Below.setCell ?_ ?_ _) | go_size))
    have hbw : Below w.heap.size w w2 := (by repeat' (first | (with_reducible exact Below.refl _ _) | (with_reducible assumption) | (with_reducible refine Base.via hb12 ?_) | (with_reducible refine Base.via hb1 ?_) | (with_reducible refine Base.grow_alloc ?_ _) | (with_reducible refine Base.below_drewN ?_ _) | (with_reducible refine Below.drew ?_) | (with_reducible refine Below.setCell ?_ ?_ _) | go_size))
    clear ho2 B2
    go_wp2_with (first | (go_at_call 63; refine (HF.out _ A2 c2 (hv.below (by repeat' (first | (with_reducible exact Below.refl _ _) | (with_reducible assumption) | (with_reducible refine Base.via hbw ?_) | (with_reducible refine Base.grow_alloc ?_ _) | (with_reducible refine Base.below_drewN ?_ _) | (with_reducible refine Below.drew ?_) | (with_reducible refine Below.setCell ?_ ?_ _) | go_size))) (V2.below (by repeat' (first | (with_reducible exact Below.refl _ _) | (with_reducible assumption) | (with_reducible refine Base.grow_alloc ?_ _) | (with_reducible refine Base.below_drewN ?_ _) | (with_reducible refine Below.drew ?_) | (with_reducible refine Below.setCell ?_ ?_ _) | go_size)))).mono ?_))
    rintro e w3 ⟨v3, rfl, ho3, hb3⟩
    have hzw := hbw.size
    go_wp2
    go_ret2
    exact ⟨_, ret_slice HC.out.symm, by rw [HN.out]; exact ho3.mono (by first | omega | (simp; omega)), (by repeat' (first | (with_reducible exact Below.refl _ _) | (with_reducible assumption) | (with_reducible refine Base.via hb3 ?_) | (with_reducible refine Base.via hbw ?_) | (with_reducible refine Base.grow_alloc ?_ _) | (with_reducible refine Base.below_drewN ?_ _) | (with_reducible refine Below.drew ?_) | (with_reducible refine Below.setCell ?_ ?_ _) | go_size))⟩
  · have HN := Lib.hid (show slN n T M f t s = 0 by rw [slN, if_neg hc])
    have hq : (srC n T M f t s 0 != 0) = true := by simpa using hc
    have HSR := Lib.hid (fun (W : World) (hW : Sl W 2 A n c (f2 T M)) => c_searchable A n c T M f t s 0 (by omega) W hW)
    go_enter Try.func31, Try.ntmps31
    go_wp2_with (first | (go_at_call 62; refine (HSR.out _ (hv.below (by repeat' (first | (with_reducible exact Below.refl _ _) | (with_reducible assumption) | (with_reducible refine Base.grow_alloc ?_ _) | (with_reducible refine Base.below_drewN ?_ _) | (with_reducible refine Below.drew ?_) | (with_reducible refine Below.setCell ?_ ?_ _) | go_size)))).mono ?_; rintro e w1 ⟨rfl, hb1⟩; obtain ⟨chb1, fhb1⟩ := Base.bcell hb1; have zhb1 := (hb1).size; (try simp at zhb1); (try have yhb1 : w.heap.size < (w1).heap.size := by omega)))
    go_ret2
    exact ⟨_, rfl, OwnK.zero HN.out, (by repeat' (first | (with_reducible exact Below.refl _ _) | (with_reducible assumption) | (with_reducible refine Base.via hb1 ?_) | (with_reducible refine Base.grow_alloc ?_ _) | (with_reducible refine Base.below_drewN ?_ _) | (with_reducible refine Below.drew ?_) | (with_reducible refine Below.setCell ?_ ?_ _) | go_size))⟩
set_option maxHeartbeats 1600000 in
theorem c_specStringLengths (A : Option Addr) (n c : Nat) (T M : Nat → Int) (f t s : Int) (w : World) (hv : Sl w 2 A n c (f2 T M)) :
    Calls Try.prog 29 #[.slice A n c, .agg #[.int .i64 f, .int .i64 t, .int .i64 s]] w fun e w' => ∃ v, e = .returned (.tuple #[v, .int .i64 (srC n T M f t s 0)]) ∧ OwnK w' w.heap.size 2 1 v (slN n T M f t s) (f1 (lenF n T M f s)) ∧ Below w.heap.size w w' := by
  have HSR := Lib.hid (fun (W : World) (hW : Sl W 2 A n c (f2 T M)) => c_l10Code A n c T M f t s W hW)
  by_cases hc : srC n T M f t s 0 = 0
  · obtain ⟨h1, h2, h3, _⟩ := sr_ok hc
    have HN := Lib.hid (show slN n T M f t s = perN f t s by rw [slN, if_pos hc])
    have HF := Lib.hid (fun (W : World) (hW : Sl W 2 A n c (f2 T M)) => c_l10All A n c T M f t s W hW h1 h2)
    rw [hc] at HSR
    have HC := Lib.hid hc
    clear hc
    go_enter Try.func29, Try.ntmps29
    go_wp2_with (first | (go_at_call 60; refine (HSR.out _ (hv.below (by repeat' (first | (with_reducible exact Below.refl _ _) | (with_reducible assumption) | (with_reducible refine Base.grow_alloc ?_ _) | (with_reducible refine Base.below_drewN ?_ _) | (with_reducible refine Below.drew ?_) | (with_reducible refine Below.setCell ?_ ?_ _) | go_size)))).mono ?_; rintro e w1 ⟨rfl, hb1⟩; obtain ⟨chb1, fhb1⟩ := Base.bcell hb1; have zhb1 := (hb1).size; (try simp at zhb1); (try have yhb1 : w.heap.size < (w1).heap.size := by omega)) | (go_at_call 61; refine (HF.out _ (hv.below (by repeat' (first | (with_reducible exact Below.refl _ _) | (with_reducible assumption) | (with_reducible refine Base.via hb1 ?_) | (with_reducible refine Base.grow_alloc ?_ _) | (with_reducible refine Base.below_drewN ?_ _) | (with_reducible refine Below.drew ?_) | (with_reducible refine Below.setCell ?_ ?_ _) | go_size)))).mono ?_))
    rintro e w3 ⟨v3, rfl, ho3, hb3⟩
    go_wp2
    go_ret2
    exact ⟨_, ret_slice HC.out.symm, by rw [HN.out]; exact ho3.mono (by first | omega | (simp; omega)), (by repeat' (first | (with_reducible exact Below.refl _ _) | (with_reducible assumption) | (with_reducible refine Base.via hb3 ?_) | (with_reducible refine Base.via hb1 ?_) | (with_reducible refine Base.grow_alloc ?_ _) | (with_reducible refine Base.below_drewN ?_ _) | (with_reducible refine Below.drew ?_) | (with_reducible refine Below.setCell ?_ ?_ _) | go_size))⟩
  · have HN := Lib.hid (show slN n T M f t s = 0 by rw [slN, if_neg hc])
    have hq : (srC n T M f t s 0 != 0) = true := by simpa using hc
    go_enter Try.func29, Try.ntmps29
    go_wp2_with (first | (go_at_call 60; refine (HSR.out _ (hv.below (by repeat' (first | (with_reducible exact Below.refl _ _) | (with_reducible assumption) | (with_reducible refine Base.grow_alloc ?_ _) | (with_reducible refine Base.below_drewN ?_ _) | (with_reducible refine Below.drew ?_) | (with_reducible refine Below.setCell ?_ ?_ _) | go_size)))).mono ?_; rintro e w1 ⟨rfl, hb1⟩; obtain ⟨chb1, fhb1⟩ := Base.bcell hb1; have zhb1 := (hb1).size; (try simp at zhb1); (try have yhb1 : w.heap.size < (w1).heap.size := by omega)))
    go_ret2
    exact ⟨_, rfl, OwnK.zero HN.out, (by repeat' (first | (with_reducible exact Below.refl _ _) | (with_reducible assumption) | (with_reducible refine Base.via hb1 ?_) | (with_reducible refine Base.grow_alloc ?_ _) | (with_reducible refine Base.below_drewN ?_ _) | (with_reducible refine Below.drew ?_) | (with_reducible refine Below.setCell ?_ ?_ _) | go_size))⟩
end Go.Proofs.Ytenjcdhehjdeoaa.Str
