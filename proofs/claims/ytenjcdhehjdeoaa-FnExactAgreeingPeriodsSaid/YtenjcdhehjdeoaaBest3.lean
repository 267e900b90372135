/- The period of a search with the least dispersion: the program's side. -/
import Derived.Test.YtenjcdhehjdeoaaBest2
namespace Go.Proofs.Ytenjcdhehjdeoaa.Best
set_option linter.unusedVariables false
set_option linter.unusedSimpArgs false
set_option maxRecDepth 8000
open Go.RowKit Plain Num View Mags Curve Curve2 Bins DisB Frac Disp Eph Per

theorem two_set {W : World} {g : Nat} {a b : Value} (h0 : W.cell? ⟨g, 0, none⟩ = some a) (h1 : W.cell? ⟨g, 1, none⟩ = some b) (x y : Value) :
    ((W.setCell ⟨g, 0, none⟩ x).setCell ⟨g, 1, none⟩ y).cell? ⟨g, 0, none⟩ = some x ∧ ((W.setCell ⟨g, 0, none⟩ x).setCell ⟨g, 1, none⟩ y).cell? ⟨g, 1, none⟩ = some y := by
  have e0 : (W.setCell ⟨g, 0, none⟩ x).cell? ⟨g, 0, none⟩ = some x := World.cell?_setCell_same _ _ _ h0
  have e1 : (W.setCell ⟨g, 0, none⟩ x).cell? ⟨g, 1, none⟩ = some b := (World.cell?_setCell_other _ _ _ _ (by simp)).trans h1
  exact ⟨(World.cell?_setCell_other _ _ _ _ (by simp)).trans e0, World.cell?_setCell_same _ _ _ e1⟩
theorem grown_set {a w : World} {g : Nat} (h : a.grownBy w (some g)) {p : Addr} (hp : p.block = g) (u : Value) : a.grownBy (w.setCell p u) (some g) :=
  ⟨h.os, h.tape, h.output, by simpa [World.setCell] using h.size, fun i hi hne => (Below.heap_setCell w p u i (by rintro rfl; exact hne (by rw [hp]))).trans (h.block i hi hne)⟩
theorem grown_drew {a w : World} {r : Option Nat} (h : a.grownBy w r) : a.grownBy w.drew r := ⟨h.os, h.tape, h.output, h.size, h.block⟩
theorem c_less (a b c d : Int) (w : World) (h1 : -9000000000000000000 ≤ a * d ∧ a * d ≤ 9000000000000000000) (h2 : -9000000000000000000 ≤ c * b ∧ c * b ≤ 9000000000000000000) :
    Calls Try.prog 94 #[.agg #[.int .i64 a, .int .i64 b], .agg #[.int .i64 c, .int .i64 d]] w fun e w' => e = .returned (.bool (decide (a * d < c * b))) ∧ Below w.heap.size w w' := by
  go_enter Try.func94, Try.ntmps94
  go_wp2
  go_ret
  exact ⟨rfl, (by repeat' (first | (with_reducible exact Below.refl _ _) | (with_reducible assumption) | (with_reducible refine Base.grow_alloc ?_ _) | (with_reducible refine Base.below_drewN ?_ _) | (with_reducible refine Below.drew ?_) | (with_reducible refine Below.setCell ?_ ?_ _) | go_size))⟩
set_option maxHeartbeats 1600000 in
theorem c_BestByBins (A : Option Addr) (n c : Nat) (T M : Nat → Int) (f t s b : Int) (w : World) (hv : Sl w 2 A n c (f2 T M)) :
    Calls Try.prog 76 #[.slice A n c, .agg #[.int .i64 f, .int .i64 t, .int .i64 s], .int .i64 b] w fun e w' => e = .returned (.tuple #[.int .i64 (bestV n T M f t s b), .int .i64 (bestC n T M f t s b)]) ∧ Below w.heap.size w w' := by
  by_cases hask : askC n T M f t s b = 0
  · have h4 : okCurve n T M = true ∧ okSearch f t s = true ∧ inB b 1 20 = true ∧ n ≤ 40 := by rcases ask_cases n T M f t s b with ⟨h1, h2, h3, h4, hc⟩ | ⟨h1, h2, h3, h4, hc⟩ | ⟨h1, h2, h3, hc⟩ | ⟨h1, h2, hc⟩ | ⟨h1, hc⟩ <;> first | exact ⟨h1, h2, h3, h4⟩ | omega
    obtain ⟨hok, hs, hb, h40⟩ := h4
    obtain ⟨h100, hT, hM, _⟩ := okCurve_bd hok
    have hb' := inB_iff.1 hb
    obtain ⟨m, rfl⟩ : ∃ m : Nat, b = m := ⟨b.toNat, by omega⟩
    have hm : 1 ≤ m ∧ m ≤ 20 := by omega
    have HT := Lib.hid hT
    have HM := Lib.hid hM
    have HPB := Lib.hid (per_bd hs)
    have hNb := (perN_ok hs).1
    have EV := Lib.hid (show bestV n T M f t s m = (bb n T M f s m (perN f t s)).1 by rw [bestV, if_pos hask])
    have EC := Lib.hid (show bestC n T M f t s m = if (bb n T M f s m (perN f t s)).1 = 0 then 3 else 0 by rw [bestC, if_pos hask])
    clear hT hM
    go_enter Try.func76, Try.ntmps76
    go_wp2_with (first | (go_at_call 92; refine (c_searchBins _ _ _ T M f t s m _ (hv.below (by repeat' (first | (with_reducible exact Below.refl _ _) | (with_reducible assumption) | (with_reducible refine Base.grow_alloc ?_ _) | (with_reducible refine Base.below_drewN ?_ _) | (with_reducible refine Below.drew ?_) | (with_reducible refine Below.setCell ?_ ?_ _) | go_size)))).mono ?_; rintro e w1 ⟨rfl, hb1⟩; obtain ⟨chb1, fhb1⟩ := Base.bcell hb1; have zhb1 := (hb1).size; (try simp at zhb1); (try have yhb1 : w.heap.size < (w1).heap.size := by omega)))
    clear hask
    have hbw1 : Below w.heap.size w w1 := (by repeat' (first | (with_reducible exact Below.refl _ _) | (with_reducible assumption) | (with_reducible refine Base.via hb1 ?_) | (with_reducible refine Base.grow_alloc ?_ _) | (with_reducible refine Base.below_drewN ?_ _) | (with_reducible refine Below.drew ?_) | (with_reducible refine Below.setCell ?_ ?_ _) | go_size))
    go_wp2_with (first | (go_at_call 64; refine (c_periods f t s _ hs).mono ?_))
    rintro e w2 ⟨v2, rfl, ho2, hb2⟩
    obtain ⟨A2, c2, rfl, V2, B2⟩ := ho2.view
    have hzz := hb2.size
    simp at hzz
    have hbw : Below w.heap.size w w2 := (by repeat' (first | (with_reducible exact Below.refl _ _) | (with_reducible assumption) | (with_reducible refine Base.via hb2 ?_) | (with_reducible refine Base.via hb1 ?_) | (with_reducible refine Base.grow_alloc ?_ _) | (with_reducible refine Base.below_drewN ?_ _) | (with_reducible refine Below.drew ?_) | (with_reducible refine Below.setCell ?_ ?_ _) | go_size))
    have hA2 : ∀ a, A2 = some a → a.block ≠ w1.heap.size := fun a e e2 => by
      have := B2 a.block (by rw [e]; rfl)
      simp at this
      omega
    have g0 : World.cell? w2 ⟨w1.heap.size, 0, none⟩ = some (.int .i64 0) := ((hb2.cell (p := ⟨w1.heap.size, 0, none⟩) (by first | (simp; done) | (simp; omega) | omega)).trans (by simp [go_sem]))
    have g1 : World.cell? w2 ⟨w1.heap.size, 1, none⟩ = some (.int .i64 0) := ((hb2.cell (p := ⟨w1.heap.size, 1, none⟩) (by first | (simp; done) | (simp; omega) | omega)).trans (by simp [go_sem]))
    have g2 : World.frozen? w2 ⟨w1.heap.size, 0, none⟩ = false := ((hb2.frozen (p := ⟨w1.heap.size, 0, none⟩) (by first | (simp; done) | (simp; omega) | omega)).trans (by simp [go_sem]))
    have g3 : World.frozen? w2 ⟨w1.heap.size, 1, none⟩ = false := ((hb2.frozen (p := ⟨w1.heap.size, 1, none⟩) (by first | (simp; done) | (simp; omega) | omega)).trans (by simp [go_sem]))
    have hgw : w.heap.size ≤ w1.heap.size := hbw1.size
    clear ho2 chb1 fhb1 B2
    go_wp2
    go_loopw [9, 11, 13, 14, 15, 27] (fun be fd _ _ _ i wr => ∃ (k : Nat) (a l r x y : Int) (fb : Bool), k ≤ perN f t s ∧ i = .int .i64 k ∧ be = .int .i64 a ∧ fd = .bool fb ∧ Hid (fb = (a != 0)) ∧ Hid (bb n T M f s m k = (a, l, r)) ∧ wr.cell? ⟨w1.heap.size, 0, none⟩ = some (.int .i64 x) ∧ wr.cell? ⟨w1.heap.size, 1, none⟩ = some (.int .i64 y) ∧ wr.frozen? ⟨w1.heap.size, 0, none⟩ = false ∧ wr.frozen? ⟨w1.heap.size, 1, none⟩ = false ∧ Hid (fb = true → x = lowN l r ∧ y = lowD l r) ∧ w2.grownBy wr (some w1.heap.size)) (fun _ _ _ _ _ i _ => perN f t s - (intOf i).toNat)
    case atStart => exact ⟨0, 0, 0, 1, 0, 0, false, Nat.zero_le _, rfl, rfl, rfl, (show false = ((0 : Int) != 0) from rfl), (show bb n T M f s m 0 = (0, 0, 1) from rfl), g0, g1, g2, g3, (show false = true → _ from fun h => by cases h), grown_refl⟩
    case round =>
      obtain ⟨k, a, l, r, x, y, fb, hk, rfl, rfl, rfl, hfb, hbb, c0, c1, f0, f1', hxy, hgr⟩ := hrel
      have hzr := hgr.size
      have hbr : Below w.heap.size w wr := below_grown hbw hgw hgr
      have hgl : w1.heap.size < wr.heap.size := World.block_lt_of_cell? _ _ c0
      obtain ⟨a1, l1, r1⟩ := bb_bd (n := n) (T := T) (M := M) (f := f) (s := s) (b := m) (k := k) h100 HM.out (fun i hi => HPB.out i (by omega))
      rw [hbb.out] at a1 l1 r1
      dsimp only at a1 l1 r1
      by_cases hlt : k < perN f t s
      · have V : Sl wr 1 A2 (perN f t s) c2 (f1 (perF f s)) := V2.grown hgr (fun q hq => .inr (fun z e e2 => hA2 z e (by have := Option.some.inj hq; omega)))
        obtain ⟨b2, off2, rfl, hb2', hc2⟩ := V.at_ (by omega)
        have h2 := cells1 hc2 k hlt
        have hq := HPB.out k hlt
        have bS := inS_bd (B := binV T (perF f s k) m) h100 HM.out
        have bP := inP_bd (B := binV T (perF f s k) m) h100
        have HD := Lib.hid (fun W (hW : Sl W 2 A n c (f2 T M)) => c_dispersion A n c m T M (perF f s k) W hW h100 HT.out HM.out hq hm)
        have eN : disN n T M (perF f s k) m = if inP n (binV T (perF f s k) m) = 0 then 0 else lowN (inS n (binV T (perF f s k) m) M) (inP n (binV T (perF f s k) m)) := rfl
        have eD : disD n T M (perF f s k) m = if inP n (binV T (perF f s k) m) = 0 then 0 else lowD (inS n (binV T (perF f s k) m) M) (inP n (binV T (perF f s k) m)) := rfl
        have ES := Lib.hid (show pS n T M f s m k = inS n (binV T (perF f s k) m) M from rfl)
        have EP := Lib.hid (show pP n T M f s m k = inP n (binV T (perF f s k) m) from rfl)
        obtain ⟨P, hP⟩ : ∃ P, P = inP n (binV T (perF f s k) m) := ⟨_, rfl⟩
        obtain ⟨S, hS⟩ : ∃ S, S = inS n (binV T (perF f s k) m) M := ⟨_, rfl⟩
        obtain ⟨q, hqq⟩ : ∃ q, q = perF f s k := ⟨_, rfl⟩
        rw [← hP] at eN eD bP HD EP
        rw [← hS] at eN eD bS ES
        rw [← hqq] at h2
        have HQ := Lib.hid hqq
        have hqb : 1 ≤ q ∧ q ≤ 1000000 := by rw [hqq]; exact hq
        clear hc2 hP hS V
        by_cases hP0 : P = 0
        · have HE := Lib.hid (bb_none (by rw [EP.out]; exact hP0) hbb.out)
          rw [if_pos hP0] at eN eD
          rw [eN, eD, hP0, ← hqq] at HD
          clear eN eD hqq
          go_wp2_with (first | (go_at_call 93; refine (HD.out _ (hv.below hbr)).mono ?_; rintro e w3 ⟨rfl, hb3⟩; obtain ⟨chb3, fhb3⟩ := Base.bcell hb3; have zhb3 := (hb3).size; (try simp at zhb3); (try have yhb3 : w.heap.size < (w3).heap.size := by omega)))
          have hb3' : Below wr.heap.size wr (w3.alloc (.cells #[.int .i64 0, .int .i64 0] 93)) := (by repeat' (first | (with_reducible exact Below.refl _ _) | (with_reducible assumption) | (with_reducible refine Base.via hb3 ?_) | (with_reducible refine Base.grow_alloc ?_ _) | (with_reducible refine Base.below_drewN ?_ _) | (with_reducible refine Below.drew ?_) | (with_reducible refine Below.setCell ?_ ?_ _) | go_size))
          go_roundw
          case rel => exact ⟨k + 1, a, l, r, x, y, fb, by omega, by go_num, rfl, rfl, hfb.out, HE.out, cell_call hb3' c0, cell_call hb3' c1, fr_call hb3' c0 f0, fr_call hb3' c1 f1', hxy.out, grown_below hgr hb3'⟩
          case measure => simp [intOf]; omega
        · have hP1 : 0 < P := by omega
          have hPq : (P != 0) = true := by simpa using hP0
          rw [if_neg hP0] at eN eD
          rw [eN, eD, ← hqq, hPq] at HD
          clear eN eD hqq
          cases fb with
          | false =>
            have ha : a = 0 := by have := hfb.out; simpa using this.symm
            subst ha
            have HE := Lib.hid (bb_first HQ.out.symm ES.out EP.out hP1 hbb.out)
            go_wp2_with (first | (go_at_call 93; refine (HD.out _ (hv.below hbr)).mono ?_; rintro e w3 ⟨rfl, hb3⟩; obtain ⟨chb3, fhb3⟩ := Base.bcell hb3; have zhb3 := (hb3).size; (try simp at zhb3); (try have yhb3 : w.heap.size < (w3).heap.size := by omega)))
            obtain ⟨W, hW⟩ : ∃ W : World, W = w3.alloc (.cells #[.int .i64 (lowN S P), .int .i64 (lowD S P)] 93) := ⟨_, rfl⟩
            have hbW : Below wr.heap.size wr W := by rw [hW]; exact (by repeat' (first | (with_reducible exact Below.refl _ _) | (with_reducible assumption) | (with_reducible refine Base.via hb3 ?_) | (with_reducible refine Base.grow_alloc ?_ _) | (with_reducible refine Base.below_drewN ?_ _) | (with_reducible refine Below.drew ?_) | (with_reducible refine Below.setCell ?_ ?_ _) | go_size))
            have d0 := cell_call hbW c0
            have d1 := cell_call hbW c1
            have d2 := fr_call hbW c0 f0
            have d3 := fr_call hbW c1 f1'
            have n0 : W.cell? ⟨w3.heap.size, 0, none⟩ = some (.int .i64 (lowN S P)) := by rw [hW]; simp
            have n1 : W.cell? ⟨w3.heap.size, 1, none⟩ = some (.int .i64 (lowD S P)) := by rw [hW]; simp
            have hgW := grown_below hgr hbW
            rw [← hW]
            clear hW chb3 fhb3
            have HFB := Lib.hid (show true = (q != 0) by simp; omega)
            go_region
            go_wp2
            go_roundw
            case rel => exact ⟨k + 1, q, S, P, lowN S P, lowD S P, true, by omega, by go_num, rfl, rfl, HFB.out, HE.out, (two_set d0 d1 _ _).1, (two_set d0 d1 _ _).2, fr_store (fr_store d2), fr_store (fr_store d3), (show true = true → lowN S P = lowN S P ∧ lowD S P = lowD S P from fun _ => ⟨rfl, rfl⟩), grown_drew (grown_set (grown_set hgW rfl _) rfl _)⟩
            case measure => simp [intOf]; omega
          | true =>
            have ha : a ≠ 0 := by have := hfb.out; simpa using this.symm
            obtain ⟨rfl, rfl⟩ := hxy.out rfl
            have lb1 := low_bd (a := S) (b := P) (m := 4840000000000) (by omega) (by omega) (by omega)
            have lb2 := low_bd (a := l) (b := r) (m := 4840000000000) (by omega) (by omega) (by omega)
            have m1 := mul_bd (a := lowN S P) (b := lowD l r) (A := 4840000000000) (B := 10000) (by omega) (by omega) (by omega) (by omega)
            have m2 := mul_bd (a := lowN l r) (b := lowD S P) (A := 4840000000000) (B := 10000) (by omega) (by omega) (by omega) (by omega)
            have HLE := Lib.hid (fun W => c_less (lowN S P) (lowD S P) (lowN l r) (lowD l r) W (by omega) (by omega))
            rw [low_less (a := S) (b := P) (c := l) (d := r) (by omega) (by omega)] at HLE
            clear lb1 lb2 m1 m2
            by_cases hl : S * r < l * P
            · have HE := Lib.hid (bb_less HQ.out.symm ES.out EP.out hP1 hbb.out hl)
              rw [decide_eq_true hl] at HLE
              clear hl
              go_wp2_with fail
              refine (HD.out _ (hv.below hbr)).mono ?_
              rintro e w3 ⟨rfl, hb3⟩
              obtain ⟨chb3, fhb3⟩ := Base.bcell hb3
              have zhb3 := hb3.size
              have y13 : w1.heap.size < w3.heap.size := by omega
              go_wp2_with (first | (go_at_call 94; refine (HLE.out _).mono ?_; rintro e w4 ⟨rfl, hb4⟩; obtain ⟨chb4, fhb4⟩ := Base.bcell hb4; have zhb4 := (hb4).size; (try simp at zhb4); (try have yhb4 : w.heap.size < (w4).heap.size := by omega)))
              have hbx : Below wr.heap.size wr (w3.alloc (.cells #[.int .i64 (lowN S P), .int .i64 (lowD S P)] 93)) := (by repeat' (first | (with_reducible exact Below.refl _ _) | (with_reducible assumption) | (with_reducible refine Base.via hb3 ?_) | (with_reducible refine Base.grow_alloc ?_ _) | (with_reducible refine Base.below_drewN ?_ _) | (with_reducible refine Below.drew ?_) | (with_reducible refine Below.setCell ?_ ?_ _) | go_size))
              have hbW : Below wr.heap.size wr w4 := (by repeat' (first | (with_reducible exact Below.refl _ _) | (with_reducible assumption) | (with_reducible refine Base.via hb4 ?_) | (with_reducible refine Base.via hb3 ?_) | (with_reducible refine Base.grow_alloc ?_ _) | (with_reducible refine Base.below_drewN ?_ _) | (with_reducible refine Below.drew ?_) | (with_reducible refine Below.setCell ?_ ?_ _) | go_size))
              have d0 := cell_call hbW c0
              have d1 := cell_call hbW c1
              have d2 := fr_call hbW c0 f0
              have d3 := fr_call hbW c1 f1'
              have n0 : w4.cell? ⟨w3.heap.size, 0, none⟩ = some (.int .i64 (lowN S P)) := (hb4.cell (p := ⟨w3.heap.size, 0, none⟩) (by simp)).trans (by simp)
              have n1 : w4.cell? ⟨w3.heap.size, 1, none⟩ = some (.int .i64 (lowD S P)) := (hb4.cell (p := ⟨w3.heap.size, 1, none⟩) (by simp)).trans (by simp)
              have hgW := grown_below hgr hbW
              clear chb3 fhb3 chb4 fhb4
              have HFB := Lib.hid (show true = (q != 0) by simp; omega)
              go_region
              go_wp2
              go_roundw
              case rel => exact ⟨k + 1, q, S, P, lowN S P, lowD S P, true, by omega, by go_num, rfl, rfl, HFB.out, HE.out, (two_set d0 d1 _ _).1, (two_set d0 d1 _ _).2, fr_store (fr_store d2), fr_store (fr_store d3), (show true = true → lowN S P = lowN S P ∧ lowD S P = lowD S P from fun _ => ⟨rfl, rfl⟩), grown_drew (grown_set (grown_set hgW rfl _) rfl _)⟩
              case measure => simp [intOf]; omega
            · have HE := Lib.hid (bb_keep ES.out EP.out hbb.out ha hl)
              rw [decide_eq_false hl] at HLE
              clear hl
              go_wp2_with fail
              refine (HD.out _ (hv.below hbr)).mono ?_
              rintro e w3 ⟨rfl, hb3⟩
              obtain ⟨chb3, fhb3⟩ := Base.bcell hb3
              have zhb3 := hb3.size
              have y13 : w1.heap.size < w3.heap.size := by omega
              go_wp2_with (first | (go_at_call 94; refine (HLE.out _).mono ?_; rintro e w4 ⟨rfl, hb4⟩; obtain ⟨chb4, fhb4⟩ := Base.bcell hb4; have zhb4 := (hb4).size; (try simp at zhb4); (try have yhb4 : w.heap.size < (w4).heap.size := by omega)))
              have hbW : Below wr.heap.size wr w4 := (by repeat' (first | (with_reducible exact Below.refl _ _) | (with_reducible assumption) | (with_reducible refine Base.via hb4 ?_) | (with_reducible refine Base.via hb3 ?_) | (with_reducible refine Base.grow_alloc ?_ _) | (with_reducible refine Base.below_drewN ?_ _) | (with_reducible refine Below.drew ?_) | (with_reducible refine Below.setCell ?_ ?_ _) | go_size))
              go_roundw
              case rel => exact ⟨k + 1, a, l, r, _, _, true, by omega, by go_num, rfl, rfl, hfb.out, HE.out, cell_call hbW c0, cell_call hbW c1, fr_call hbW c0 f0, fr_call hbW c1 f1', (show true = true → lowN l r = lowN l r ∧ lowD l r = lowD l r from fun _ => ⟨rfl, rfl⟩), grown_below hgr hbW⟩
              case measure => simp [intOf]; omega
      · have hkn : k = perN f t s := by omega
        have ER := Lib.hid (show (bb n T M f s m (perN f t s)).1 = a by rw [← hkn, hbb.out])
        clear hkn
        cases fb with
        | false =>
          have ha : a = 0 := by have := hfb.out; simpa using this.symm
          subst ha
          have EC2 := Lib.hid (show bestC n T M f t s m = 3 by rw [EC.out, ER.out]; rfl)
          have EV2 := Lib.hid (show bestV n T M f t s m = 0 by rw [EV.out, ER.out])
          go_wp2
          go_ret2
          exact ⟨Curve2.ret_pair EV2.out.symm EC2.out.symm, hbr⟩
        | true =>
          have ha : a ≠ 0 := by have := hfb.out; simpa using this.symm
          have EC2 := Lib.hid (show bestC n T M f t s m = 0 by rw [EC.out, ER.out, if_neg ha])
          have EV2 := Lib.hid (show bestV n T M f t s m = a by rw [EV.out, ER.out])
          go_wp2
          go_ret2
          exact ⟨Curve2.ret_pair EV2.out.symm EC2.out.symm, hbr⟩
  · have EV := Lib.hid (show bestV n T M f t s b = 0 by rw [bestV, if_neg hask])
    have EC := Lib.hid (show bestC n T M f t s b = askC n T M f t s b by rw [bestC, if_neg hask])
    have hq : (askC n T M f t s b != 0) = true := by simpa using hask
    go_enter Try.func76, Try.ntmps76
    go_wp2_with (first | (go_at_call 92; refine (c_searchBins _ _ _ T M f t s b _ (hv.below (by repeat' (first | (with_reducible exact Below.refl _ _) | (with_reducible assumption) | (with_reducible refine Base.grow_alloc ?_ _) | (with_reducible refine Base.below_drewN ?_ _) | (with_reducible refine Below.drew ?_) | (with_reducible refine Below.setCell ?_ ?_ _) | go_size)))).mono ?_; rintro e w1 ⟨rfl, hb1⟩; obtain ⟨chb1, fhb1⟩ := Base.bcell hb1; have zhb1 := (hb1).size; (try simp at zhb1); (try have yhb1 : w.heap.size < (w1).heap.size := by omega)))
    go_ret2
    exact ⟨Curve2.ret_pair EV.out.symm EC.out.symm, (by repeat' (first | (with_reducible exact Below.refl _ _) | (with_reducible assumption) | (with_reducible refine Base.via hb1 ?_) | (with_reducible refine Base.grow_alloc ?_ _) | (with_reducible refine Base.below_drewN ?_ _) | (with_reducible refine Below.drew ?_) | (with_reducible refine Below.setCell ?_ ?_ _) | go_size))⟩
end Go.Proofs.Ytenjcdhehjdeoaa.Best
