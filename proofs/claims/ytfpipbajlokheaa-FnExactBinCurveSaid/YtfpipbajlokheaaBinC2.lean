/- A point for each part of the time that has points: both sides. -/
import Derived.Test.YtfpipbajlokheaaBinC
import Derived.BigQuiet
import Derived.Deep.QuietTactic
namespace Go.Proofs.Ytfpipbajlokheaa.BinC
set_option linter.unusedVariables false
set_option linter.unusedSimpArgs false
set_option maxRecDepth 8000
open Go.RowKit Plain Num View Curve Curve2 Frac

def bcC (n : Nat) (T M : Nat → Int) (v : Int) : Int := if okCurve n T M = true then (if inB v 1 1000000 = true then 0 else 2) else 1
def bcL (n : Nat) (T M : Nat → Int) (v : Int) : List (Int × Int) := if bcC n T M v = 0 then (grp n T M v n).1 else []
theorem bc_cases (n : Nat) (T M : Nat → Int) (v : Int) : (okCurve n T M = true ∧ inB v 1 1000000 = true ∧ bcC n T M v = 0) ∨ (okCurve n T M = true ∧ inB v 1 1000000 = false ∧ bcC n T M v = 2) ∨ (okCurve n T M = false ∧ bcC n T M v = 1) := by
  unfold bcC
  cases okCurve n T M <;> cases inB v 1 1000000 <;> simp
theorem infoPt : (Try.prog.info? 49).map (fun i => (i.zero, i.size, i.bytes)) = some (some (.agg #[.int .i64 0, .int .i64 0]), 2, 16) := by kernel_rfl
theorem sub_view {w : World} {b off n c i k : Nat} {T M : Nat → Int} (hc : ∀ q, q < n → ∀ j, j < 2 → w.cell? ⟨b, off + q * 2 + j, none⟩ = some (f2 T M q j)) (hb : b < w.heap.size) (hik : i ≤ k) (hkn : k ≤ n) (hn : n ≤ 1048576) (hnc : n ≤ c) (hcm : c ≤ 9223372036854775807) :
    Sl w 2 (some ⟨b, off + i * 2, none⟩) (k - i) (c - i) (f2 (fun q => T (i + q)) (fun q => M (i + q))) := by
  refine ⟨by omega, by omega, by omega, fun _ => ⟨b, off + i * 2, rfl, hb, fun q hq j hj => ?_⟩⟩
  have h := hc (i + q) (by omega) j hj
  have e : off + (i + q) * 2 + j = off + i * 2 + q * 2 + j := by omega
  rw [e] at h
  rw [h]
  rfl
theorem quo_bd {a v : Int} (ha : 0 ≤ a ∧ a ≤ 10000000) (hv : 1 ≤ v) : IntKind.i64.wrap (a.tdiv v) = a / v := by
  have e : a.tdiv v = a / v := Int.tdiv_eq_ediv_of_nonneg ha.1
  have h1 := Int.ediv_nonneg ha.1 (show 0 ≤ v by omega)
  have h2 := Int.ediv_le_self v ha.1
  rw [e]
  exact IntWalk.i64_in _ (by omega)
set_option maxHeartbeats 1600000 in
theorem c_BinCurve (A : Option Addr) (n c : Nat) (T M : Nat → Int) (v : Int) (w : World) (hv : Sl w 2 A n c (f2 T M)) :
    Calls Try.prog 54 #[.slice A n c, .int .i64 v] w fun e w' => ∃ u, e = .returned (.tuple #[u, .int .i64 (bcC n T M v)]) ∧ OwnK w' w.heap.size 49 2 u (bcL n T M v).length (f2 (lp1 (bcL n T M v)) (lp2 (bcL n T M v))) ∧ Below w.heap.size w w' := by
  have hn := hv.le
  have hnc := hv.leC
  have hcm := hv.leM
  obtain ⟨i0, hi0, hz0, hz1, hz2⟩ := info_parts infoPt
  rcases bc_cases n T M v with ⟨h1, h2, hc⟩ | ⟨h1, h2, hc⟩ | ⟨h1, hc⟩
  · obtain ⟨h100, hT, hM, _⟩ := okCurve_bd h1
    obtain ⟨v1, v2⟩ := inB_iff.1 h2
    have HT := Lib.hid hT
    have HM := Lib.hid hM
    have HC := Lib.hid hc
    have HL := Lib.hid (show bcL n T M v = (grp n T M v n).1 by rw [bcL, if_pos hc])
    have HG0 := Lib.hid (show grp n T M v 0 = ([], 0) from rfl)
    clear hT hM hc
    go_enter Try.func54, Try.ntmps54
    go_wp2_with (first | (go_at_call 72; refine (c_ValidCurve _ _ _ T M _ (hv.below (by repeat' (first | (with_reducible exact Below.refl _ _) | (with_reducible assumption) | (with_reducible refine Base.grow_alloc ?_ _) | (with_reducible refine Base.below_drewN ?_ _) | (with_reducible refine Below.drew ?_) | (with_reducible refine Below.setCell ?_ ?_ _) | go_size)))).mono ?_; rintro e w1 ⟨rfl, hb1⟩; obtain ⟨chb1, fhb1⟩ := Base.bcell hb1; have zhb1 := (hb1).size; (try simp at zhb1); (try have yhb1 : w.heap.size < (w1).heap.size := by omega)) | (go_at_call 59; refine (c_in _ _ _ _).mono ?_; rintro e w' ⟨rfl, rfl⟩))
    have hvw := hv.below hb1
    clear chb1 fhb1
    go_loopw [6, 7, 8] (fun u q _ wr => ∃ (i : Nat) (L : List (Int × Int)), i ≤ n ∧ q = .int .i64 i ∧ Hid (grp n T M v i = (L, i)) ∧ wr.ownsRow w1.heap.size 49 2 u L.length (cellP L) ∧ Below w1.heap.size w1 wr) (fun _ q _ _ => n - (intOf q).toNat)
    case atStart => exact ⟨0, [], Nat.zero_le _, rfl, HG0.out, World.ownsRow_made _ _ _ (by omega) (by simp [maxLen]) rfl, (by repeat' (first | (with_reducible exact Below.refl _ _) | (with_reducible assumption) | (with_reducible refine Base.grow_alloc ?_ _) | (with_reducible refine Base.below_drewN ?_ _) | (with_reducible refine Below.drew ?_) | (with_reducible refine Below.setCell ?_ ?_ _) | go_size))⟩
    case round =>
      obtain ⟨i, L, hi, rfl, hg, hown, hbr⟩ := hrel
      have hz := hbr.size
      have hl := grp_len' hg.out
      by_cases hlt : i < n
      · have HOWN := Lib.hid hown
        clear hown
        go_wp2
        obtain ⟨wo, hwo⟩ : ∃ wo : World, wo = wr := ⟨_, rfl⟩
        rw [← hwo] at hbr hz HOWN ⊢
        clear hwo
        go_loopw [8] (fun q wq => ∃ k : Nat, i ≤ k ∧ k ≤ n ∧ q = .int .i64 k ∧ Hid (InG n T M v i k L) ∧ Below wo.heap.size wo wq) (fun q _ => n - (intOf q).toNat)
        case atStart => exact ⟨i, Nat.le_refl _, hi, rfl, InG.start hg.out, (by repeat' (first | (with_reducible exact Below.refl _ _) | (with_reducible assumption) | (with_reducible refine Base.grow_alloc ?_ _) | (with_reducible refine Base.below_drewN ?_ _) | (with_reducible refine Below.drew ?_) | (with_reducible refine Below.setCell ?_ ?_ _) | go_size))⟩
        case round =>
          obtain ⟨k, hik, hkn, rfl, hin, hbq⟩ := hrel
          have hzq := hbq.size
          obtain ⟨b, off, rfl, hb, hc⟩ := (hvw.below (hbr.trans (hbq.mono hbr.size))).at_ (by omega)
          by_cases hgo : k < n ∧ T k / v = T i / v
          · obtain ⟨hlk, heq⟩ := hgo
            obtain ⟨a0, a1⟩ := cells2 hc k hlk
            obtain ⟨b0, b1⟩ := cells2 hc i hlt
            have HN := Lib.hid (InG.next hin.out hlk heq)
            have e1 := quo_bd (HT.out k hlk) v1
            have e2 := quo_bd (HT.out i hlt) v1
            have i1 : (0 : Int) ≤ (k : Int) := by omega
            have i2 : (k : Int) < (n : Int) := by omega
            have i3 : (0 : Int) ≤ (i : Int) := by omega
            have i4 : (i : Int) < (n : Int) := by omega
            have v0 : ¬ v = 0 := by omega
            rw [heq] at e1
            clear hc a1 b1 heq
            go_wp2
            go_quiet (fail)
            clear e1 e2
            go_wp2
            go_roundw
            case rel => exact ⟨k + 1, by omega, by omega, by go_num, HN.out, (by repeat' (first | (with_reducible exact Below.refl _ _) | (with_reducible assumption) | (with_reducible refine Base.via hbq ?_) | (with_reducible refine Base.grow_alloc ?_ _) | (with_reducible refine Base.below_drewN ?_ _) | (with_reducible refine Below.drew ?_) | (with_reducible refine Below.setCell ?_ ?_ _) | go_size))⟩
            case measure => simp [intOf]; omega
          · obtain ⟨hik', hdn⟩ := InG.done hin.out hlt hgo
            have HD := Lib.hid hdn
            have hvs := sub_view hc hb (Nat.le_of_lt hik') hkn hn hnc hcm
            have HMO := Lib.hid (fun W (hW : Below wr.heap.size wr W) => c_meanOf (some ⟨b, off + i * 2, none⟩) (k - i) (c - i) (fun q => T (i + q)) (fun q => M (i + q)) W (hvs.below hW) (by omega) (by omega) (fun q hq => by have := HT.out (i + q) (by omega); omega) (fun q hq => by have := HM.out (i + q) (by omega); omega))
            have i3 : (0 : Int) ≤ (i : Int) := by omega
            have i4 : (i : Int) < (n : Int) := by omega
            have i5 : (i : Int) ≤ (k : Int) := by omega
            have i6 : (k : Int) ≤ (c : Int) := by omega
            have i7 : ¬ c = i := by omega
            have v0 : ¬ v = 0 := by omega
            have hown := HOWN.out
            clear hdn hvs
            by_cases hlk : k < n
            · have heq : ((T k / v == T i / v) = false) := by simpa using (fun h => hgo ⟨hlk, h⟩)
              obtain ⟨a0, a1⟩ := cells2 hc k hlk
              obtain ⟨b0, b1⟩ := cells2 hc i hlt
              have e1 := quo_bd (HT.out k hlk) v1
              have e2 := quo_bd (HT.out i hlt) v1
              have i1 : (0 : Int) ≤ (k : Int) := by omega
              have i2 : (k : Int) < (n : Int) := by omega
              clear hc a1 b1 hgo
              go_wp2
              go_quiet (fail)
              clear e1 e2
              go_wp2_with (first | (go_at_call 104; refine (HMO.out _ (by repeat' (first | (with_reducible exact Below.refl _ _) | (with_reducible assumption) | (with_reducible refine Base.grow_alloc ?_ _) | (with_reducible refine Base.below_drewN ?_ _) | (with_reducible refine Below.drew ?_) | (with_reducible refine Below.setCell ?_ ?_ _) | go_size))).mono ?_; rintro e w3 ⟨rfl, hb3⟩; obtain ⟨chb3, fhb3⟩ := Base.bcell hb3; have zhb3 := (hb3).size; (try simp at zhb3); (try have yhb3 : w.heap.size < (w3).heap.size := by omega)) | (at_builtin; refine wpList_append_own _ rfl _ _ 39 rfl (w1.heap.size) 49 i0 _ 2 16 Try.underlying39 hi0 hz0 hz1 hz2 rfl (by decide) _ _ _ rfl (own_of_below hown (by repeat' (first | (with_reducible exact Below.refl _ _) | (with_reducible assumption) | (with_reducible refine Base.via hb3 ?_) | (with_reducible refine Base.via hbq ?_) | (with_reducible refine Base.grow_alloc ?_ _) | (with_reducible refine Base.below_drewN ?_ _) | (with_reducible refine Below.drew ?_) | (with_reducible refine Below.setCell ?_ ?_ _) | go_size))) ⟨_, 0, none⟩ 1 1 [.int .i64 (nrI (sumB (k - i) (fun q => T (i + q))) ((k - i : Nat) : Int)), .int .i64 (nrI (sumB (k - i) (fun q => M (i + q))) ((k - i : Nat) : Int))] rfl rfl (cell_newL _ [.int .i64 (nrI (sumB (k - i) (fun q => T (i + q))) ((k - i : Nat) : Int)), .int .i64 (nrI (sumB (k - i) (fun q => M (i + q))) ((k - i : Nat) : Int))] _ (by simp)) (by simp [Value.oneCell']) (by simp only [maxLen]; omega) (by omega) (by simp; omega) ?_))
              intro v' w4 hown' hgrow _
              have hb4 : Below w1.heap.size w1 w4 := own_grow (by repeat' (first | (with_reducible exact Below.refl _ _) | (with_reducible assumption) | (with_reducible refine Base.via hb3 ?_) | (with_reducible refine Base.via hbq ?_) | (with_reducible refine Base.via hbr ?_) | (with_reducible refine Base.grow_alloc ?_ _) | (with_reducible refine Base.below_drewN ?_ _) | (with_reducible refine Below.drew ?_) | (with_reducible refine Below.setCell ?_ ?_ _) | go_size)) hown (Nat.le_refl _) hgrow
              clear hown hgrow
              go_wp2
              go_roundw
              case rel => exact ⟨k, L ++ [ptI T M i k], by omega, rfl, HD.out, own_snocP hown', hb4⟩
              case measure => simp [intOf]; omega
            · have hkn' : k = n := by omega
              clear hc hgo
              subst hkn'
              have hd : decide (k < k) = false := by simp
              go_wp2
              go_quiet (fail)
              go_wp2_with (first | (go_at_call 104; refine (HMO.out _ (by repeat' (first | (with_reducible exact Below.refl _ _) | (with_reducible assumption) | (with_reducible refine Base.grow_alloc ?_ _) | (with_reducible refine Base.below_drewN ?_ _) | (with_reducible refine Below.drew ?_) | (with_reducible refine Below.setCell ?_ ?_ _) | go_size))).mono ?_; rintro e w3 ⟨rfl, hb3⟩; obtain ⟨chb3, fhb3⟩ := Base.bcell hb3; have zhb3 := (hb3).size; (try simp at zhb3); (try have yhb3 : w.heap.size < (w3).heap.size := by omega)) | (at_builtin; refine wpList_append_own _ rfl _ _ 39 rfl (w1.heap.size) 49 i0 _ 2 16 Try.underlying39 hi0 hz0 hz1 hz2 rfl (by decide) _ _ _ rfl (own_of_below hown (by repeat' (first | (with_reducible exact Below.refl _ _) | (with_reducible assumption) | (with_reducible refine Base.via hb3 ?_) | (with_reducible refine Base.via hbq ?_) | (with_reducible refine Base.grow_alloc ?_ _) | (with_reducible refine Base.below_drewN ?_ _) | (with_reducible refine Below.drew ?_) | (with_reducible refine Below.setCell ?_ ?_ _) | go_size))) ⟨_, 0, none⟩ 1 1 [.int .i64 (nrI (sumB (k - i) (fun q => T (i + q))) ((k - i : Nat) : Int)), .int .i64 (nrI (sumB (k - i) (fun q => M (i + q))) ((k - i : Nat) : Int))] rfl rfl (cell_newL _ [.int .i64 (nrI (sumB (k - i) (fun q => T (i + q))) ((k - i : Nat) : Int)), .int .i64 (nrI (sumB (k - i) (fun q => M (i + q))) ((k - i : Nat) : Int))] _ (by simp)) (by simp [Value.oneCell']) (by simp only [maxLen]; omega) (by omega) (by simp; omega) ?_))
              intro v' w4 hown' hgrow _
              have hb4 : Below w1.heap.size w1 w4 := own_grow (by repeat' (first | (with_reducible exact Below.refl _ _) | (with_reducible assumption) | (with_reducible refine Base.via hb3 ?_) | (with_reducible refine Base.via hbq ?_) | (with_reducible refine Base.via hbr ?_) | (with_reducible refine Base.grow_alloc ?_ _) | (with_reducible refine Base.below_drewN ?_ _) | (with_reducible refine Below.drew ?_) | (with_reducible refine Below.setCell ?_ ?_ _) | go_size)) hown (Nat.le_refl _) hgrow
              clear hown hgrow
              go_wp2
              go_roundw
              case rel => exact ⟨k, L ++ [ptI T M i k], by omega, rfl, HD.out, own_snocP hown', hb4⟩
              case measure => simp [intOf]; omega
      · have hkn : i = n := by omega
        subst hkn
        have HL2 := Lib.hid (show bcL i T M v = L by rw [HL.out, hg.out])
        go_wp2
        go_ret2
        exact ⟨_, ret_slice HC.out.symm, by rw [HL2.out]; exact (OwnK.of_listP hown (by omega)).mono hb1.size, (by repeat' (first | (with_reducible exact Below.refl _ _) | (with_reducible assumption) | (with_reducible refine Base.via hbr ?_) | (with_reducible refine Base.via hb1 ?_) | (with_reducible refine Base.grow_alloc ?_ _) | (with_reducible refine Base.below_drewN ?_ _) | (with_reducible refine Below.drew ?_) | (with_reducible refine Below.setCell ?_ ?_ _) | go_size))⟩
  all_goals
    have HL := Lib.hid (show (bcL n T M v).length = 0 by rw [bcL, hc]; rfl)
    have HC := Lib.hid hc
    clear hc
    go_enter Try.func54, Try.ntmps54
    go_wp2_with (first | (go_at_call 72; refine (c_ValidCurve _ _ _ T M _ (hv.below (by repeat' (first | (with_reducible exact Below.refl _ _) | (with_reducible assumption) | (with_reducible refine Base.grow_alloc ?_ _) | (with_reducible refine Base.below_drewN ?_ _) | (with_reducible refine Below.drew ?_) | (with_reducible refine Below.setCell ?_ ?_ _) | go_size)))).mono ?_; rintro e w1 ⟨rfl, hb1⟩; obtain ⟨chb1, fhb1⟩ := Base.bcell hb1; have zhb1 := (hb1).size; (try simp at zhb1); (try have yhb1 : w.heap.size < (w1).heap.size := by omega)) | (go_at_call 59; refine (c_in _ _ _ _).mono ?_; rintro e w' ⟨rfl, rfl⟩))
    go_ret2
    exact ⟨_, ret_slice HC.out.symm, OwnK.zero HL.out, (by repeat' (first | (with_reducible exact Below.refl _ _) | (with_reducible assumption) | (with_reducible refine Base.via hb1 ?_) | (with_reducible refine Base.grow_alloc ?_ _) | (with_reducible refine Base.below_drewN ?_ _) | (with_reducible refine Below.drew ?_) | (with_reducible refine Below.setCell ?_ ?_ _) | go_size))⟩
set_option maxHeartbeats 1600000 in
theorem c_specBinCurve (A : Option Addr) (n c : Nat) (T M : Nat → Int) (v : Int) (w : World) (hv : Sl w 2 A n c (f2 T M)) :
    Calls Try.prog 53 #[.slice A n c, .int .i64 v] w fun e w' => ∃ u, e = .returned (.tuple #[u, .int .i64 (bcC n T M v)]) ∧ OwnK w' w.heap.size 49 2 u (bcL n T M v).length (f2 (lp1 (bcL n T M v)) (lp2 (bcL n T M v))) ∧ Below w.heap.size w w' := by
  have hn := hv.le
  obtain ⟨i0, hi0, hz0, hz1, hz2⟩ := info_parts infoPt
  rcases bc_cases n T M v with ⟨h1, h2, hc⟩ | ⟨h1, h2, hc⟩ | ⟨h1, hc⟩
  · obtain ⟨h100, hT, hM, _⟩ := okCurve_bd h1
    obtain ⟨v1, v2⟩ := inB_iff.1 h2
    have HT := Lib.hid hT
    have HM := Lib.hid hM
    have HC := Lib.hid hc
    have HL := Lib.hid (show bcL n T M v = (grp n T M v n).1 by rw [bcL, if_pos hc])
    have HG0 := Lib.hid (show grp n T M v 0 = ([], 0) from rfl)
    clear hT hM hc
    go_enter Try.func53, Try.ntmps53
    go_wp2_with (first | (go_at_call 69; refine (c_l08Ok _ _ _ T M _ (hv.below (by repeat' (first | (with_reducible exact Below.refl _ _) | (with_reducible assumption) | (with_reducible refine Base.grow_alloc ?_ _) | (with_reducible refine Base.below_drewN ?_ _) | (with_reducible refine Below.drew ?_) | (with_reducible refine Below.setCell ?_ ?_ _) | go_size)))).mono ?_; rintro e w1 ⟨rfl, hb1⟩; obtain ⟨chb1, fhb1⟩ := Base.bcell hb1; have zhb1 := (hb1).size; (try simp at zhb1); (try have yhb1 : w.heap.size < (w1).heap.size := by omega)) | (go_at_call 103; refine (c_l00In _ _ _ _).mono ?_; rintro e w' ⟨rfl, rfl⟩))
    have hvw := hv.below hb1
    clear chb1 fhb1
    go_loopw [6, 7, 8, 9, 10, 11] (fun u q _ _ _ _ wr => ∃ (i : Nat) (L : List (Int × Int)), i ≤ n ∧ q = .int .i64 i ∧ Hid (grp n T M v i = (L, i)) ∧ wr.ownsRow w1.heap.size 49 2 u L.length (cellP L) ∧ Below w1.heap.size w1 wr) (fun _ q _ _ _ _ _ => n - (intOf q).toNat)
    case atStart => exact ⟨0, [], Nat.zero_le _, rfl, HG0.out, World.ownsRow_made _ _ _ (by omega) (by simp [maxLen]) rfl, (by repeat' (first | (with_reducible exact Below.refl _ _) | (with_reducible assumption) | (with_reducible refine Base.grow_alloc ?_ _) | (with_reducible refine Base.below_drewN ?_ _) | (with_reducible refine Below.drew ?_) | (with_reducible refine Below.setCell ?_ ?_ _) | go_size))⟩
    case round =>
      obtain ⟨i, L, hi, rfl, hg, hown, hbr⟩ := hrel
      have hz := hbr.size
      have hl := grp_len' hg.out
      by_cases hlt : i < n
      · have HOWN := Lib.hid hown
        clear hown
        go_wp2
        obtain ⟨wo, hwo⟩ : ∃ wo : World, wo = wr := ⟨_, rfl⟩
        rw [← hwo] at hbr hz HOWN ⊢
        clear hwo
        go_loopw [8, 9, 10, 11] (fun st sm sn q wq => ∃ k : Nat, i ≤ k ∧ k ≤ n ∧ q = .int .i64 k ∧ st = .int .i64 (sumB (k - i) (fun q => T (i + q))) ∧ sm = .int .i64 (sumB (k - i) (fun q => M (i + q))) ∧ sn = .int .i64 ((k - i : Nat) : Int) ∧ Hid (InG n T M v i k L) ∧ Below wo.heap.size wo wq) (fun _ _ _ q _ => n - (intOf q).toNat)
        case atStart => exact ⟨i, Nat.le_refl _, hi, rfl, by rw [Nat.sub_self]; rfl, by rw [Nat.sub_self]; rfl, by rw [Nat.sub_self]; rfl, InG.start hg.out, (by repeat' (first | (with_reducible exact Below.refl _ _) | (with_reducible assumption) | (with_reducible refine Base.grow_alloc ?_ _) | (with_reducible refine Base.below_drewN ?_ _) | (with_reducible refine Below.drew ?_) | (with_reducible refine Below.setCell ?_ ?_ _) | go_size))⟩
        case round =>
          obtain ⟨k, hik, hkn, rfl, rfl, rfl, rfl, hin, hbq⟩ := hrel
          have hzq := hbq.size
          have st := sumB_bd (k := k - i) (f := fun q => T (i + q)) (a := 0) (b := 10000000) (fun q hq => HT.out (i + q) (by omega))
          have sm := sumB_bd (k := k - i) (f := fun q => M (i + q)) (a := -2000) (b := 20000) (fun q hq => HM.out (i + q) (by omega))
          obtain ⟨b, off, rfl, hb, hc⟩ := (hvw.below (hbr.trans (hbq.mono hbr.size))).at_ (by omega)
          obtain ⟨d, hd⟩ : ∃ d, d = k - i := ⟨_, rfl⟩
          obtain ⟨s1, hs1⟩ : ∃ s1, s1 = sumB (k - i) (fun q => T (i + q)) := ⟨_, rfl⟩
          obtain ⟨s2, hs2⟩ : ∃ s2, s2 = sumB (k - i) (fun q => M (i + q)) := ⟨_, rfl⟩
          have HS1 := Lib.hid hs1
          have HS2 := Lib.hid hs2
          have HDD := Lib.hid hd
          rw [← hs1] at st ⊢
          rw [← hs2] at sm ⊢
          rw [← hd] at st sm ⊢
          have hdb : (d : Int) ≤ 100 := by omega
          clear hs1 hs2 hd
          by_cases hgo : k < n ∧ T k / v = T i / v
          · obtain ⟨hlk, heq⟩ := hgo
            obtain ⟨a0, a1⟩ := cells2 hc k hlk
            obtain ⟨b0, b1⟩ := cells2 hc i hlt
            have HN := Lib.hid (InG.next hin.out hlk heq)
            have hTk := HT.out k hlk
            have hMk := HM.out k hlk
            have e1 := quo_bd (HT.out k hlk) v1
            have e2 := quo_bd (HT.out i hlt) v1
            have i1 : (0 : Int) ≤ (k : Int) := by omega
            have i2 : (k : Int) < (n : Int) := by omega
            have i3 : (0 : Int) ≤ (i : Int) := by omega
            have i4 : (i : Int) < (n : Int) := by omega
            have v0 : ¬ v = 0 := by omega
            rw [heq] at e1
            have HE1 := Lib.hid (show s1 + T k = sumB (k + 1 - i) (fun q => T (i + q)) by
              rw [HS1.out, show k + 1 - i = (k - i) + 1 by omega, sumB_succ, show i + (k - i) = k by omega])
            have HE2 := Lib.hid (show s2 + M k = sumB (k + 1 - i) (fun q => M (i + q)) by
              rw [HS2.out, show k + 1 - i = (k - i) + 1 by omega, sumB_succ, show i + (k - i) = k by omega])
            have HE3 := Lib.hid (show (d : Int) + 1 = ((k + 1 - i : Nat) : Int) by rw [HDD.out]; omega)
            clear hc heq
            go_wp2
            go_quiet (fail)
            clear e1 e2
            go_wp2
            go_roundw
            case rel => exact ⟨k + 1, by omega, by omega, by go_num, by rw [HE1.out], by rw [HE2.out], by rw [HE3.out], HN.out, (by repeat' (first | (with_reducible exact Below.refl _ _) | (with_reducible assumption) | (with_reducible refine Base.via hbq ?_) | (with_reducible refine Base.grow_alloc ?_ _) | (with_reducible refine Base.below_drewN ?_ _) | (with_reducible refine Below.drew ?_) | (with_reducible refine Below.setCell ?_ ?_ _) | go_size))⟩
            case measure => simp [intOf]; omega
          · obtain ⟨hik', hdn⟩ := InG.done hin.out hlt hgo
            have HD := Lib.hid hdn
            have hd1 : 1 ≤ (d : Int) := by have := HDD.out; omega
            have HP := Lib.hid (show (nrI s1 d, nrI s2 d) = ptI T M i k by rw [ptI, HS1.out, HS2.out, HDD.out])
            have i3 : (0 : Int) ≤ (i : Int) := by omega
            have i4 : (i : Int) < (n : Int) := by omega
            have v0 : ¬ v = 0 := by omega
            have hown := HOWN.out
            clear hdn
            by_cases hlk : k < n
            · have heq : ((T k / v == T i / v) = false) := by simpa using (fun h => hgo ⟨hlk, h⟩)
              obtain ⟨a0, a1⟩ := cells2 hc k hlk
              obtain ⟨b0, b1⟩ := cells2 hc i hlt
              have e1 := quo_bd (HT.out k hlk) v1
              have e2 := quo_bd (HT.out i hlt) v1
              have i1 : (0 : Int) ≤ (k : Int) := by omega
              have i2 : (k : Int) < (n : Int) := by omega
              clear hc a1 b1 hgo
              go_wp2
              go_quiet (fail)
              clear e1 e2
              go_wp2_with (first | (go_at_call 57; refine (c_l02Round _ _ _ (by omega) (by omega) (by omega) (by omega)).mono ?_; rintro e w' ⟨rfl, rfl⟩) | (at_builtin; refine wpList_append_own _ rfl _ _ 39 rfl (w1.heap.size) 49 i0 _ 2 16 Try.underlying39 hi0 hz0 hz1 hz2 rfl (by decide) _ _ _ rfl (own_of_below hown (by repeat' (first | (with_reducible exact Below.refl _ _) | (with_reducible assumption) | (with_reducible refine Base.via hbq ?_) | (with_reducible refine Base.grow_alloc ?_ _) | (with_reducible refine Base.below_drewN ?_ _) | (with_reducible refine Below.drew ?_) | (with_reducible refine Below.setCell ?_ ?_ _) | go_size))) ⟨_, 0, none⟩ 1 1 [.int .i64 (nrI s1 d), .int .i64 (nrI s2 d)] rfl rfl (cell_newL _ [.int .i64 (nrI s1 d), .int .i64 (nrI s2 d)] _ (by simp)) (by simp [Value.oneCell']) (by simp only [maxLen]; omega) (by omega) (by simp; omega) ?_))
              intro v' w4 hown' hgrow _
              have hb4 : Below w1.heap.size w1 w4 := own_grow (by repeat' (first | (with_reducible exact Below.refl _ _) | (with_reducible assumption) | (with_reducible refine Base.via hbq ?_) | (with_reducible refine Base.via hbr ?_) | (with_reducible refine Base.grow_alloc ?_ _) | (with_reducible refine Base.below_drewN ?_ _) | (with_reducible refine Below.drew ?_) | (with_reducible refine Below.setCell ?_ ?_ _) | go_size)) hown (Nat.le_refl _) hgrow
              clear hown hgrow
              go_wp2
              go_roundw
              case rel => exact ⟨k, L ++ [ptI T M i k], by omega, rfl, HD.out, by rw [← HP.out]; exact own_snocP hown', hb4⟩
              case measure => simp [intOf]; omega
            · have hkn' : k = n := by omega
              clear hc hgo
              subst hkn'
              go_wp2
              go_quiet (fail)
              go_wp2_with (first | (go_at_call 57; refine (c_l02Round _ _ _ (by omega) (by omega) (by omega) (by omega)).mono ?_; rintro e w' ⟨rfl, rfl⟩) | (at_builtin; refine wpList_append_own _ rfl _ _ 39 rfl (w1.heap.size) 49 i0 _ 2 16 Try.underlying39 hi0 hz0 hz1 hz2 rfl (by decide) _ _ _ rfl (own_of_below hown (by repeat' (first | (with_reducible exact Below.refl _ _) | (with_reducible assumption) | (with_reducible refine Base.via hbq ?_) | (with_reducible refine Base.grow_alloc ?_ _) | (with_reducible refine Base.below_drewN ?_ _) | (with_reducible refine Below.drew ?_) | (with_reducible refine Below.setCell ?_ ?_ _) | go_size))) ⟨_, 0, none⟩ 1 1 [.int .i64 (nrI s1 d), .int .i64 (nrI s2 d)] rfl rfl (cell_newL _ [.int .i64 (nrI s1 d), .int .i64 (nrI s2 d)] _ (by simp)) (by simp [Value.oneCell']) (by simp only [maxLen]; omega) (by omega) (by simp; omega) ?_))
              intro v' w4 hown' hgrow _
              have hb4 : Below w1.heap.size w1 w4 := own_grow (by repeat' (first | (with_reducible exact Below.refl _ _) | (with_reducible assumption) | (with_reducible refine Base.via hbq ?_) | (with_reducible refine Base.via hbr ?_) | (with_reducible refine Base.grow_alloc ?_ _) | (with_reducible refine Base.below_drewN ?_ _) | (with_reducible refine Below.drew ?_) | (with_reducible refine Below.setCell ?_ ?_ _) | go_size)) hown (Nat.le_refl _) hgrow
              clear hown hgrow
              go_wp2
              go_roundw
              case rel => exact ⟨k, L ++ [ptI T M i k], by omega, rfl, HD.out, by rw [← HP.out]; exact own_snocP hown', hb4⟩
              case measure => simp [intOf]; omega
      · have hkn : i = n := by omega
        subst hkn
        have HL2 := Lib.hid (show bcL i T M v = L by rw [HL.out, hg.out])
        go_wp2
        go_ret2
        exact ⟨_, ret_slice HC.out.symm, by rw [HL2.out]; exact (OwnK.of_listP hown (by omega)).mono hb1.size, (by repeat' (first | (with_reducible exact Below.refl _ _) | (with_reducible assumption) | (with_reducible refine Base.via hbr ?_) | (with_reducible refine Base.via hb1 ?_) | (with_reducible refine Base.grow_alloc ?_ _) | (with_reducible refine Base.below_drewN ?_ _) | (with_reducible refine Below.drew ?_) | (with_reducible refine Below.setCell ?_ ?_ _) | go_size))⟩
  all_goals
    have HL := Lib.hid (show (bcL n T M v).length = 0 by rw [bcL, hc]; rfl)
    have HC := Lib.hid hc
    clear hc
    go_enter Try.func53, Try.ntmps53
    go_wp2_with (first | (go_at_call 69; refine (c_l08Ok _ _ _ T M _ (hv.below (by repeat' (first | (with_reducible exact Below.refl _ _) | (with_reducible assumption) | (with_reducible refine Base.grow_alloc ?_ _) | (with_reducible refine Base.below_drewN ?_ _) | (with_reducible refine Below.drew ?_) | (with_reducible refine Below.setCell ?_ ?_ _) | go_size)))).mono ?_; rintro e w1 ⟨rfl, hb1⟩; obtain ⟨chb1, fhb1⟩ := Base.bcell hb1; have zhb1 := (hb1).size; (try simp at zhb1); (try have yhb1 : w.heap.size < (w1).heap.size := by omega)) | (go_at_call 103; refine (c_l00In _ _ _ _).mono ?_; rintro e w' ⟨rfl, rfl⟩))
    go_ret2
    exact ⟨_, ret_slice HC.out.symm, OwnK.zero HL.out, (by repeat' (first | (with_reducible exact Below.refl _ _) | (with_reducible assumption) | (with_reducible refine Base.via hb1 ?_) | (with_reducible refine Base.grow_alloc ?_ _) | (with_reducible refine Base.below_drewN ?_ _) | (with_reducible refine Below.drew ?_) | (with_reducible refine Below.setCell ?_ ?_ _) | go_size))⟩
end Go.Proofs.Ytfpipbajlokheaa.BinC
