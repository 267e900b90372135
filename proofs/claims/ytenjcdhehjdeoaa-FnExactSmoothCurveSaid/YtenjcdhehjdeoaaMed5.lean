/- Outliers and smooth curves: both sides. -/
import Derived.Test.YtenjcdhehjdeoaaMed4
import Derived.Test.YtenjcdhehjdeoaaMagG
import Derived.Deep.AppendLies
import Derived.Deep.RegionHeld3
namespace Go.Proofs.Ytenjcdhehjdeoaa.Med
set_option linter.unusedVariables false
set_option linter.unusedSimpArgs false
set_option maxRecDepth 8000
open Go.RowKit Plain Num View Frac Curve Curve2

def ouC (n : Nat) (T M : Nat → Int) (v b : Int) : Int := if okCurve n T M = true then (if inB v 0 10 = true ∧ inB b 1 20000 = true then 0 else 2) else 1
def ouP (n : Nat) (M : Nat → Int) (v b : Int) (i : Nat) : Bool := decide (b < absI (M i - rmV n M i v.toNat))
def ouL (n : Nat) (T M : Nat → Int) (v b : Int) : List Int := if ouC n T M v b = 0 then sel n (ouP n M v b) MagG.iotaI else []
theorem ou_cases (n : Nat) (T M : Nat → Int) (v b : Int) : (okCurve n T M = true ∧ inB v 0 10 = true ∧ inB b 1 20000 = true ∧ ouC n T M v b = 0) ∨ (okCurve n T M = true ∧ inB v 0 10 = true ∧ inB b 1 20000 = false ∧ ouC n T M v b = 2) ∨ (okCurve n T M = true ∧ inB v 0 10 = false ∧ ouC n T M v b = 2) ∨ (okCurve n T M = false ∧ ouC n T M v b = 1) := by
  unfold ouC
  cases okCurve n T M <;> cases inB v 0 10 <;> cases inB b 1 20000 <;> simp
set_option maxHeartbeats 1600000 in
theorem c_ou1 (bc bs bb : Nat) (A : Option Addr) (n c : Nat) (T M : Nat → Int) (s : Nat) (b : Int) (i : Nat) (W : World) (h0 : W.cell? ⟨bc, 0, none⟩ = some (.slice A n c)) (h1 : W.cell? ⟨bs, 0, none⟩ = some (.int .i64 s)) (h2 : W.cell? ⟨bb, 0, none⟩ = some (.int .i64 b))
    (hv : Sl W 2 A n c (f2 T M)) (hi : i < n) (hs : s ≤ 10) (h100 : n ≤ 100) (hM : ∀ j, j < n → -2000 ≤ M j ∧ M j ≤ 20000) :
    Calls Try.prog 49 #[.int .i64 i, .pointer (some ⟨bc, 0, none⟩), .pointer (some ⟨bs, 0, none⟩), .pointer (some ⟨bb, 0, none⟩)] W fun e w' => e = .returned (.bool (ouP n M s b i)) ∧ Below W.heap.size W w' := by
  have HRM := Lib.hid (fun (V : World) (hV : Below W.heap.size W V) => c_runningMedian A n c T M i s V (hv.below hV) hi hs h100 hM)
  have hmi := hM i hi
  have hrm := rm_bd (s := s) hi hM
  obtain ⟨b', off, rfl, hb', hc⟩ := hv.at_ (by omega)
  obtain ⟨q0, q1⟩ := cells2 hc i hi
  have HR : Hid (ouP n M s b i = decide (b < absI (M i - rmV n M i s))) := Lib.hid (by rw [ouP, Int.toNat_natCast])
  clear hc hM hv
  generalize rmV n M i s = r at *
  have ew : IntKind.i64.wrap (M i - r) = M i - r := IntWalk.i64_in _ (by omega)
  have l0 := World.block_lt_of_cell? _ _ h0
  have l1 := World.block_lt_of_cell? _ _ h1
  have l2 := World.block_lt_of_cell? _ _ h2
  dsimp only at l0 l1 l2
  go_enter Try.func49, Try.ntmps49
  go_wp2
  go_region_held3 (fun V => (V.cell? ⟨bc, 0, none⟩ = some (.slice (some ⟨b', off, none⟩) n c) ∧ V.cell? ⟨bs, 0, none⟩ = some (.int .i64 s) ∧ V.cell? ⟨bb, 0, none⟩ = some (.int .i64 b) ∧ V.cell? ⟨b', off + i * 2 + 1, none⟩ = some (.int .i64 (M i))) ∧ Below W.heap.size W V)
    (first | exact ⟨⟨cell_drew h0, cell_drew h1, cell_drew h2, cell_drew q1⟩, (by repeat' (first | (with_reducible exact Below.refl _ _) | (with_reducible assumption) | (with_reducible refine Base.grow_alloc ?_ _) | (with_reducible refine Base.below_drewN ?_ _) | (with_reducible refine Below.drew ?_) | (with_reducible refine Below.setCell ?_ ?_ _) | go_size))⟩ | (obtain ⟨⟨d0, d1, d2, d3⟩, hs⟩ := ‹_ ∧ Below W.heap.size W _›; exact ⟨⟨cell_call hb1 d0, cell_call hb1 d1, cell_call hb1 d2, cell_call hb1 d3⟩, Base.via hb1 hs⟩) | assumption)
    (first | (have hs := (‹_ ∧ Below W.heap.size W _›).2; go_at_call 51; refine (HRM.out _ hs).mono ?_; rintro e w1 ⟨rfl, hb1⟩) | (go_at_call 50; refine (c_abs _ _ (by omega) (by omega)).mono ?_; rintro e w2 ⟨rfl, rfl⟩))
  all_goals
    obtain ⟨_, hE⟩ := ‹_ ∧ Below W.heap.size W _›
    go_wp2
    go_ret
    exact ⟨ret_bool HR.out.symm, (by repeat' (first | (with_reducible exact Below.refl _ _) | (with_reducible assumption) | (with_reducible refine Base.via hE ?_) | (with_reducible refine Base.grow_alloc ?_ _) | (with_reducible refine Base.below_drewN ?_ _) | (with_reducible refine Below.drew ?_) | (with_reducible refine Below.setCell ?_ ?_ _) | go_size))⟩
set_option maxHeartbeats 1600000 in
theorem c_OutliersOf (A : Option Addr) (n c : Nat) (T M : Nat → Int) (v b : Int) (w : World) (hv : Sl w 2 A n c (f2 T M)) :
    Calls Try.prog 15 #[.slice A n c, .int .i64 v, .int .i64 b] w fun e w' => ∃ u, e = .returned (.tuple #[u, .int .i64 (ouC n T M v b)]) ∧ OwnK w' w.heap.size 2 1 u (ouL n T M v b).length (f1 (lf (ouL n T M v b))) ∧ Below w.heap.size w w' := by
  have hn := hv.le
  rcases ou_cases n T M v b with ⟨h1, h2, h3, hc⟩ | ⟨h1, h2, h3, hc⟩ | ⟨h1, h2, hc⟩ | ⟨h1, hc⟩
  · have HL := Lib.hid (show ouL n T M v b = sel n (ouP n M v b) MagG.iotaI by rw [ouL, if_pos hc])
    have HC := Lib.hid hc
    obtain ⟨h100, _, hM, _⟩ := okCurve_bd h1
    have hvb := inB_iff.1 h2
    obtain ⟨s, rfl⟩ : ∃ s : Nat, v = s := ⟨v.toNat, by omega⟩
    have eg : ∀ args w, (callFunc 49 args).run Try.prog w = .ok (.enter 49 args) w := enters_of Try.func49 (by kernel_rfl) rfl
    have HP := Lib.hid (fun (W : World) (hW : Below w.heap.size w W) (k0 : W.cell? ⟨w.heap.size, 0, none⟩ = some (.slice A n c)) (k1 : W.cell? ⟨w.heap.size + 1, 0, none⟩ = some (.int .i64 (s : Int))) (k2 : W.cell? ⟨w.heap.size + 1 + 1, 0, none⟩ = some (.int .i64 b)) =>
      (show Idx.Pred Try.prog W 49 #[.pointer (some ⟨w.heap.size, 0, none⟩), .pointer (some ⟨w.heap.size + 1, 0, none⟩), .pointer (some ⟨w.heap.size + 1 + 1, 0, none⟩)] n (fun i => .int .i64 (i : Int)) (ouP n M s b) from fun V hV j hj =>
        c_ou1 _ _ _ A n c T M s b j V (cell_call hV k0) (cell_call hV k1) (cell_call hV k2) (hv.below (hW.trans (hV.mono hW.size))) hj (by omega) h100 hM))
    clear hc hM
    go_enter Try.func15, Try.ntmps15
    go_wp2_with (first | (go_at_call 46; refine (c_ValidCurve _ _ _ T M _ (hv.below (by repeat' (first | (with_reducible exact Below.refl _ _) | (with_reducible assumption) | (with_reducible refine Base.grow_alloc ?_ _) | (with_reducible refine Base.below_drewN ?_ _) | (with_reducible refine Below.drew ?_) | (with_reducible refine Below.setCell ?_ ?_ _) | go_size)))).mono ?_; rintro e w1 ⟨rfl, hb1⟩; obtain ⟨chb1, fhb1⟩ := Base.bcell hb1; have zhb1 := (hb1).size; (try simp at zhb1); (try have yhb1 : w.heap.size < (w1).heap.size := by omega)) | (go_at_call 47; refine (c_in _ _ _ _).mono ?_; rintro e w' ⟨rfl, rfl⟩) | fail)
    have k0 : World.cell? w1 ⟨w.heap.size, 0, none⟩ = some (.slice A n c) := ((hb1.cell (p := ⟨w.heap.size, 0, none⟩) (by first | (simp; done) | (simp; omega) | omega)).trans (by simp [go_sem]))
    have k1 : World.cell? w1 ⟨w.heap.size + 1, 0, none⟩ = some (.int .i64 (s : Int)) := ((hb1.cell (p := ⟨w.heap.size + 1, 0, none⟩) (by first | (simp; done) | (simp; omega) | omega)).trans (by simp [go_sem]))
    have k2 : World.cell? w1 ⟨w.heap.size + 1 + 1, 0, none⟩ = some (.int .i64 b) := ((hb1.cell (p := ⟨w.heap.size + 1 + 1, 0, none⟩) (by first | (simp; done) | (simp; omega) | omega)).trans (by simp [go_sem]))
    have hbw : Below w.heap.size w w1 := (by repeat' (first | (with_reducible exact Below.refl _ _) | (with_reducible assumption) | (with_reducible refine Base.via hb1 ?_) | (with_reducible refine Base.grow_alloc ?_ _) | (with_reducible refine Base.below_drewN ?_ _) | (with_reducible refine Below.drew ?_) | (with_reducible refine Below.setCell ?_ ?_ _) | go_size))
    have zw := hbw.size
    have HPD := Lib.hid (HP.out w1 hbw k0 k1 k2)
    clear chb1 fhb1 k0 k1 k2
    go_wp2_with (first | (go_at_call 48; refine (MagG.c_indicesWhere n 49 _ (ouP n M s b) _ eg hn HPD.out).mono ?_))
    rintro e w2 ⟨u, rfl, ho, hb2⟩
    go_wp2
    go_ret2
    exact ⟨_, ret_slice HC.out.symm, by rw [HL.out]; exact ho.mono (by first | omega | (simp; omega)), (by repeat' (first | (with_reducible exact Below.refl _ _) | (with_reducible assumption) | (with_reducible refine Base.via hb2 ?_) | (with_reducible refine Base.via hbw ?_) | (with_reducible refine Base.grow_alloc ?_ _) | (with_reducible refine Base.below_drewN ?_ _) | (with_reducible refine Below.drew ?_) | (with_reducible refine Below.setCell ?_ ?_ _) | go_size))⟩
  all_goals
    have HL := Lib.hid (show (ouL n T M v b).length = 0 by rw [ouL, hc]; rfl)
    have HC := Lib.hid hc
    clear hc
    go_enter Try.func15, Try.ntmps15
    go_wp2_with (first | (go_at_call 46; refine (c_ValidCurve _ _ _ T M _ (hv.below (by repeat' (first | (with_reducible exact Below.refl _ _) | (with_reducible assumption) | (with_reducible refine Base.grow_alloc ?_ _) | (with_reducible refine Base.below_drewN ?_ _) | (with_reducible refine Below.drew ?_) | (with_reducible refine Below.setCell ?_ ?_ _) | go_size)))).mono ?_; rintro e w1 ⟨rfl, hb1⟩; obtain ⟨chb1, fhb1⟩ := Base.bcell hb1; have zhb1 := (hb1).size; (try simp at zhb1); (try have yhb1 : w.heap.size < (w1).heap.size := by omega)) | (go_at_call 47; refine (c_in _ _ _ _).mono ?_; rintro e w' ⟨rfl, rfl⟩))
    go_ret2
    exact ⟨_, ret_slice HC.out.symm, OwnK.zero HL.out, (by repeat' (first | (with_reducible exact Below.refl _ _) | (with_reducible assumption) | (with_reducible refine Base.via hb1 ?_) | (with_reducible refine Base.grow_alloc ?_ _) | (with_reducible refine Base.below_drewN ?_ _) | (with_reducible refine Below.drew ?_) | (with_reducible refine Below.setCell ?_ ?_ _) | go_size))⟩
set_option maxHeartbeats 1600000 in
theorem c_specOutliersOf (A : Option Addr) (n c : Nat) (T M : Nat → Int) (v b : Int) (w : World) (hv : Sl w 2 A n c (f2 T M)) :
    Calls Try.prog 13 #[.slice A n c, .int .i64 v, .int .i64 b] w fun e w' => ∃ u, e = .returned (.tuple #[u, .int .i64 (ouC n T M v b)]) ∧ OwnK w' w.heap.size 2 1 u (ouL n T M v b).length (f1 (lf (ouL n T M v b))) ∧ Below w.heap.size w w' := by
  have hn := hv.le
  obtain ⟨i0, hi0, hz0, hz1, hz2⟩ := info_parts Help.infoInt64
  rcases ou_cases n T M v b with ⟨h1, h2, h3, hc⟩ | ⟨h1, h2, h3, hc⟩ | ⟨h1, h2, hc⟩ | ⟨h1, hc⟩
  · have HL := Lib.hid (show ouL n T M v b = sel n (ouP n M v b) MagG.iotaI by rw [ouL, if_pos hc])
    have HC := Lib.hid hc
    obtain ⟨h100, _, hM, _⟩ := okCurve_bd h1
    have hvb := inB_iff.1 h2
    obtain ⟨s, rfl⟩ : ∃ s : Nat, v = s := ⟨v.toNat, by omega⟩
    have HM := Lib.hid hM
    have HRM := Lib.hid (fun (V : World) (i : Nat) (hi : i < n) (hV : Sl V 2 A n c (f2 T M)) => c_l08Median A n c T M i s V hV hi (by omega) h100 hM)
    clear hc hM
    go_enter Try.func13, Try.ntmps13
    go_wp2_with (first | (go_at_call 41; refine (c_l08Ok _ _ _ T M _ (hv.below (by repeat' (first | (with_reducible exact Below.refl _ _) | (with_reducible assumption) | (with_reducible refine Base.grow_alloc ?_ _) | (with_reducible refine Base.below_drewN ?_ _) | (with_reducible refine Below.drew ?_) | (with_reducible refine Below.setCell ?_ ?_ _) | go_size)))).mono ?_; rintro e w1 ⟨rfl, hb1⟩; obtain ⟨chb1, fhb1⟩ := Base.bcell hb1; have zhb1 := (hb1).size; (try simp at zhb1); (try have yhb1 : w.heap.size < (w1).heap.size := by omega)) | (go_at_call 42; refine (c_l00In _ _ _ _).mono ?_; rintro e w' ⟨rfl, rfl⟩))
    have hbw : Below w.heap.size w w1 := (by repeat' (first | (with_reducible exact Below.refl _ _) | (with_reducible assumption) | (with_reducible refine Base.via hb1 ?_) | (with_reducible refine Base.grow_alloc ?_ _) | (with_reducible refine Base.below_drewN ?_ _) | (with_reducible refine Below.drew ?_) | (with_reducible refine Below.setCell ?_ ?_ _) | go_size))
    have hvw := hv.below hbw
    clear chb1 fhb1
    go_loopw [8, 9] (fun u q wr => ∃ k : Nat, k ≤ n ∧ q = .int .i64 k ∧ wr.ownsRow w1.heap.size 2 1 u (sel k (ouP n M s b) MagG.iotaI).length (cellL (sel k (ouP n M s b) MagG.iotaI)) ∧ Below w1.heap.size w1 wr) (fun _ q _ => n - (intOf q).toNat)
    case atStart => exact ⟨0, Nat.zero_le _, rfl, World.ownsRow_made _ _ _ (by omega) (by simp [maxLen]) rfl, (by repeat' (first | (with_reducible exact Below.refl _ _) | (with_reducible assumption) | (with_reducible refine Base.grow_alloc ?_ _) | (with_reducible refine Base.below_drewN ?_ _) | (with_reducible refine Below.drew ?_) | (with_reducible refine Below.setCell ?_ ?_ _) | go_size))⟩
    case round =>
      obtain ⟨k, hk, rfl, hown, hbr⟩ := hrel
      have hz := hbr.size
      have hl := sel_len (k := k) (P := ouP n M s b) (g := MagG.iotaI)
      by_cases hlt : k < n
      · obtain ⟨b', off, rfl, hb', hcc⟩ := (hvw.below hbr).at_ (by omega)
        obtain ⟨q0, q1⟩ := cells2 hcc k hlt
        have hmi := HM.out k hlt
        have hrm := rm_bd (s := s) hlt HM.out
        have HRK := Lib.hid (fun (V : World) (hV : Below wr.heap.size wr V) => HRM.out V k hlt (hvw.below (hbr.trans (hV.mono hbr.size))))
        have HR : Hid (ouP n M s b k = decide (b < absI (M k - rmV n M k s))) := Lib.hid (by rw [ouP, Int.toNat_natCast])
        generalize rmV n M k s = r at *
        have ew : IntKind.i64.wrap (M k - r) = M k - r := IntWalk.i64_in _ (by omega)
        have i1 : (0 : Int) ≤ (k : Int) := by omega
        have i2 : (k : Int) < n := by omega
        have HOWN := Lib.hid hown
        clear hcc q0 hown
        cases hq : decide (b < absI (M k - r)) with
        | true =>
          have HQ := Lib.hid (sel_yes (g := MagG.iotaI) (k := k) (P := ouP n M s b) (by rw [HR.out, hq]))
          have hx : b < absI (M k - r) := by simpa using hq
          go_wp2
          go_region_held3 (fun V => V.cell? ⟨b', off + k * 2 + 1, none⟩ = some (.int .i64 (M k)) ∧ Below wr.heap.size wr V)
            (first | exact ⟨cell_drew q1, (by repeat' (first | (with_reducible exact Below.refl _ _) | (with_reducible assumption) | (with_reducible refine Base.grow_alloc ?_ _) | (with_reducible refine Base.below_drewN ?_ _) | (with_reducible refine Below.drew ?_) | (with_reducible refine Below.setCell ?_ ?_ _) | go_size))⟩ | (obtain ⟨d0, hs⟩ := ‹_ ∧ Below wr.heap.size wr _›; exact ⟨cell_call hb2 d0, Base.via hb2 hs⟩) | assumption)
            (first | (have hs := (‹_ ∧ Below wr.heap.size wr _›).2; go_at_call 44; refine (HRK.out _ hs).mono ?_; rintro e w2 ⟨rfl, hb2⟩) | (go_at_call 43; refine (c_l02Size _ _ (by omega) (by omega)).mono ?_; rintro e w3 ⟨rfl, rfl⟩))
          all_goals
            obtain ⟨_, hE⟩ := ‹_ ∧ Below wr.heap.size wr _›
            have hzE := hE.size
            have hown := HOWN.out
            go_wp2_with (first | (at_builtin; refine wpList_append_own _ rfl _ _ 24 rfl (w1.heap.size) 2 i0 _ 1 8 Try.underlying24 hi0 hz0 hz1 hz2 rfl (by decide) _ _ _ rfl (own_of_below hown (by repeat' (first | (with_reducible exact Below.refl _ _) | (with_reducible assumption) | (with_reducible refine Base.via hE ?_) | (with_reducible refine Base.grow_alloc ?_ _) | (with_reducible refine Base.below_drewN ?_ _) | (with_reducible refine Below.drew ?_) | (with_reducible refine Below.setCell ?_ ?_ _) | go_size))) ⟨_, 0, none⟩ 1 1 [.int .i64 ((k : Int))] rfl rfl (cell_newL _ [.int .i64 ((k : Int))] _ (by simp)) (by simp [Value.oneCell']) (by simp only [maxLen]; omega) (by omega) (by simp; omega) ?_))
            intro v' w4 hown' hgrow _
            have hb4 : Below w1.heap.size w1 w4 := own_grow (by repeat' (first | (with_reducible exact Below.refl _ _) | (with_reducible assumption) | (with_reducible refine Base.via hE ?_) | (with_reducible refine Base.via hbr ?_) | (with_reducible refine Base.grow_alloc ?_ _) | (with_reducible refine Base.below_drewN ?_ _) | (with_reducible refine Below.drew ?_) | (with_reducible refine Below.setCell ?_ ?_ _) | go_size)) hown (Nat.le_refl _) hgrow
            clear hown hgrow
            go_wp2
            go_roundw
            case rel => exact ⟨k + 1, by omega, by go_num, by rw [HQ.out]; exact own_snoc hown', hb4⟩
            case measure => simp [intOf]; omega
        | false =>
          have HQ := Lib.hid (sel_no (g := MagG.iotaI) (k := k) (P := ouP n M s b) (by rw [HR.out, hq]))
          have hx : ¬ b < absI (M k - r) := by simpa using hq
          go_wp2
          go_region_held3 (fun V => V.cell? ⟨b', off + k * 2 + 1, none⟩ = some (.int .i64 (M k)) ∧ Below wr.heap.size wr V)
            (first | exact ⟨cell_drew q1, (by repeat' (first | (with_reducible exact Below.refl _ _) | (with_reducible assumption) | (with_reducible refine Base.grow_alloc ?_ _) | (with_reducible refine Base.below_drewN ?_ _) | (with_reducible refine Below.drew ?_) | (with_reducible refine Below.setCell ?_ ?_ _) | go_size))⟩ | (obtain ⟨d0, hs⟩ := ‹_ ∧ Below wr.heap.size wr _›; exact ⟨cell_call hb2 d0, Base.via hb2 hs⟩) | assumption)
            (first | (have hs := (‹_ ∧ Below wr.heap.size wr _›).2; go_at_call 44; refine (HRK.out _ hs).mono ?_; rintro e w2 ⟨rfl, hb2⟩) | (go_at_call 43; refine (c_l02Size _ _ (by omega) (by omega)).mono ?_; rintro e w3 ⟨rfl, rfl⟩))
          all_goals
            obtain ⟨_, hE⟩ := ‹_ ∧ Below wr.heap.size wr _›
            go_wp2
            go_roundw
            case rel => exact ⟨k + 1, by omega, by go_num, by rw [HQ.out]; exact own_of_below HOWN.out hE, Base.via hE hbr⟩
            case measure => simp [intOf]; omega
      · have hkn : k = n := by omega
        subst hkn
        go_wp2
        go_ret2
        exact ⟨_, ret_slice HC.out.symm, by rw [HL.out]; exact (OwnK.of_list hown (by omega)).mono hbw.size, (by repeat' (first | (with_reducible exact Below.refl _ _) | (with_reducible assumption) | (with_reducible refine Base.via hbr ?_) | (with_reducible refine Base.via hbw ?_) | (with_reducible refine Base.grow_alloc ?_ _) | (with_reducible refine Base.below_drewN ?_ _) | (with_reducible refine Below.drew ?_) | (with_reducible refine Below.setCell ?_ ?_ _) | go_size))⟩
  all_goals
    have HL := Lib.hid (show (ouL n T M v b).length = 0 by rw [ouL, hc]; rfl)
    have HC := Lib.hid hc
    clear hc
    go_enter Try.func13, Try.ntmps13
    go_wp2_with (first | (go_at_call 41; refine (c_l08Ok _ _ _ T M _ (hv.below (by repeat' (first | (with_reducible exact Below.refl _ _) | (with_reducible assumption) | (with_reducible refine Base.grow_alloc ?_ _) | (with_reducible refine Base.below_drewN ?_ _) | (with_reducible refine Below.drew ?_) | (with_reducible refine Below.setCell ?_ ?_ _) | go_size)))).mono ?_; rintro e w1 ⟨rfl, hb1⟩; obtain ⟨chb1, fhb1⟩ := Base.bcell hb1; have zhb1 := (hb1).size; (try simp at zhb1); (try have yhb1 : w.heap.size < (w1).heap.size := by omega)) | (go_at_call 42; refine (c_l00In _ _ _ _).mono ?_; rintro e w' ⟨rfl, rfl⟩))
    go_ret2
    exact ⟨_, ret_slice HC.out.symm, OwnK.zero HL.out, (by repeat' (first | (with_reducible exact Below.refl _ _) | (with_reducible assumption) | (with_reducible refine Base.via hb1 ?_) | (with_reducible refine Base.grow_alloc ?_ _) | (with_reducible refine Base.below_drewN ?_ _) | (with_reducible refine Below.drew ?_) | (with_reducible refine Below.setCell ?_ ?_ _) | go_size))⟩
end Go.Proofs.Ytenjcdhehjdeoaa.Med
