/- Two lists of estimates made one: the reference's side. -/
import Derived.Test.YthojfmlnnclghaaMrg
namespace Go.Proofs.Ythojfmlnnclghaa.Mrg
set_option linter.unusedVariables false
set_option linter.unusedSimpArgs false
set_option maxRecDepth 8000
open Go.RowKit Go.Shelf Plain Num View Est Name Es1 Cmp OkE ChoE SrE CpK InsE BsE PutE AdE

set_option maxHeartbeats 6400000 in
theorem c_specMergeEstimates (b off n c : Nat) (E : Nat → E5) (b2 off2 m c2 : Nat) (F : Nat → E5) (w : World) (hv : Sl w 5 (some ⟨b, off, none⟩) n c (f5 E)) (hu : Sl w 5 (some ⟨b2, off2, none⟩) m c2 (f5 F)) :
    Calls Try.prog 32 #[.slice (some ⟨b, off, none⟩) n c, .slice (some ⟨b2, off2, none⟩) m c2] w fun r w' => ∃ u, r = .returned (.tuple #[u, .int .i64 (mgC n E m F)]) ∧ OwnK w' w.heap.size 51 5 u (mgL n E m F).length (f5 (leE (mgL n E m F))) ∧ Below w.heap.size w w' := by
  have hn := hv.le
  have hm := hu.le
  obtain ⟨i0, hi0, hz0, hz1, hz2⟩ := info_parts infoEst
  have HV1 := Lib.hid (fun (W : World) (hW : Sl W 5 (some ⟨b, off, none⟩) n c (f5 E)) => c_l06Ok (some ⟨b, off, none⟩) n c E W hW)
  have HV2 := Lib.hid (fun (W : World) (hW : Sl W 5 (some ⟨b2, off2, none⟩) m c2 (f5 F)) => c_l06Ok (some ⟨b2, off2, none⟩) m c2 F W hW)
  cases h1 : okE n E
  · obtain ⟨hc, hl⟩ := mg_no (n := n) (E := E) (m := m) (F := F) (fun h => by rw [h1] at h; cases h.1)
    have HC := Lib.hid hc
    have HL := Lib.hid hl
    rw [h1] at HV1
    clear hc hl h1
    generalize mgC n E m F = CC at *
    generalize mgL n E m F = LL at *
    go_enter Try.func32, Try.ntmps32
    go_wp2_with fail
    refine (HV1.out _ hv).mono ?_
    rintro e w1 ⟨rfl, hb1⟩
    go_wp2_with fail
    go_ret2
    exact ⟨_, ret_ad HC.out.symm, OwnK.zero HL.out, (by repeat' (first | (with_reducible exact Below.refl _ _) | (with_reducible assumption) | (with_reducible refine Base.via hb1 ?_) | (with_reducible refine Base.grow_alloc ?_ _) | (with_reducible refine Base.below_drewN ?_ _) | (with_reducible refine Below.drew ?_) | (with_reducible refine Below.setCell ?_ ?_ _) | go_size))⟩
  · cases h2 : okE m F
    · obtain ⟨hc, hl⟩ := mg_no (n := n) (E := E) (m := m) (F := F) (fun h => by rw [h2] at h; cases h.2)
      have HC := Lib.hid hc
      have HL := Lib.hid hl
      rw [h1] at HV1
      rw [h2] at HV2
      clear hc hl h1 h2
      generalize mgC n E m F = CC at *
      generalize mgL n E m F = LL at *
      go_enter Try.func32, Try.ntmps32
      go_wp2_with fail
      refine (HV1.out _ hv).mono ?_
      rintro e w1 ⟨rfl, hb1⟩
      go_wp2_with fail
      refine (HV2.out _ (hu.below (by repeat' (first | (with_reducible exact Below.refl _ _) | (with_reducible assumption) | (with_reducible refine Base.via hb1 ?_) | (with_reducible refine Base.grow_alloc ?_ _) | (with_reducible refine Base.below_drewN ?_ _) | (with_reducible refine Below.drew ?_) | (with_reducible refine Below.setCell ?_ ?_ _) | go_size)))).mono ?_
      rintro e w2 ⟨rfl, hb2⟩
      go_wp2_with fail
      go_ret2
      exact ⟨_, ret_ad HC.out.symm, OwnK.zero HL.out, (by repeat' (first | (with_reducible exact Below.refl _ _) | (with_reducible assumption) | (with_reducible refine Base.via hb2 ?_) | (with_reducible refine Base.via hb1 ?_) | (with_reducible refine Base.grow_alloc ?_ _) | (with_reducible refine Base.below_drewN ?_ _) | (with_reducible refine Below.drew ?_) | (with_reducible refine Below.setCell ?_ ?_ _) | go_size))⟩
    · have hs1 := okE_srt h1
      have hs2 := okE_srt h2
      have hn100 := okE_le h1
      have hm100 := okE_le h2
      have HINV := Lib.hid (fun i (hi : i ≤ m) L (h : mM (lsE n E) F i = some L) => mM_inv hs1 hi h)
      have HFI := Lib.hid (fun i (hi : i < m) L (h : mM (lsE n E) F i = some L) => mM_find hs1 hs2 hi h)
      have HNO := Lib.hid (fun (h : mM (lsE n E) F m = none) => mg_none h1 h2 h)
      have HBG := Lib.hid (fun L (h : mM (lsE n E) F m = some L) (hl : 100 < L.length) => mg_big h1 h2 h hl)
      have HOK := Lib.hid (fun L (h : mM (lsE n E) F m = some L) (hl : ¬ 100 < L.length) => mg_ok h1 h2 h hl)
      have HMN := Lib.hid (fun i (hi : i ≤ m) (h : mM (lsE n E) F i = none) => mM_none h hi)
      have HS1 := Lib.hid hs1
      rw [h1] at HV1
      rw [h2] at HV2
      clear h1 h2 hs1 hs2
      generalize mgC n E m F = CC at *
      generalize mgL n E m F = LL at *
      go_enter Try.func32, Try.ntmps32
      go_wp2_with fail
      refine (HV1.out _ hv).mono ?_
      rintro e w1 ⟨rfl, hb1⟩
      go_wp2_with fail
      refine (HV2.out _ (hu.below (by repeat' (first | (with_reducible exact Below.refl _ _) | (with_reducible assumption) | (with_reducible refine Base.via hb1 ?_) | (with_reducible refine Base.grow_alloc ?_ _) | (with_reducible refine Base.below_drewN ?_ _) | (with_reducible refine Below.drew ?_) | (with_reducible refine Below.setCell ?_ ?_ _) | go_size)))).mono ?_
      rintro e w2 ⟨rfl, hb2⟩
      have hbw : Below w.heap.size w w2 := (by repeat' (first | (with_reducible exact Below.refl _ _) | (with_reducible assumption) | (with_reducible refine Base.via hb2 ?_) | (with_reducible refine Base.via hb1 ?_) | (with_reducible refine Base.grow_alloc ?_ _) | (with_reducible refine Base.below_drewN ?_ _) | (with_reducible refine Below.drew ?_) | (with_reducible refine Below.setCell ?_ ?_ _) | go_size))
      have HO := Lib.hid (show (w2.alloc (.cells #[] 51)).ownsRow w2.heap.size 51 5 (.slice (some ⟨w2.heap.size, 0, none⟩) 0 0) 0 [] from World.ownsRow_made _ _ _ (by omega) (by simp [maxLen]) rfl)
      have HNW := Lib.hid ((hv.below hbw).below (w' := w2.alloc (.cells #[] 51)) (by repeat' (first | (with_reducible exact Below.refl _ _) | (with_reducible assumption) | (with_reducible refine Base.grow_alloc ?_ _) | (with_reducible refine Base.below_drewN ?_ _) | (with_reducible refine Below.drew ?_) | (with_reducible refine Below.setCell ?_ ?_ _) | go_size))).news
      clear HV1 HV2
      go_wp2_with (at_builtin; refine wpList_append_own _ rfl _ _ 27 rfl (w2.heap.size) 51 i0 _ 5 56 Try.underlying27 hi0 hz0 hz1 hz2 rfl (by decide) _ _ _ rfl HO.out ⟨b, off, none⟩ n c (cellF 5 n (f5 E)) rfl (cellF_len _ _ _) HNW.out (by rw [cellF_E]; exact one_E _) (by simp only [maxLen]; omega) (by omega) (by simp) ?_)
      intro v' w3 hown' hgrow hnil
      have hb3 : Below w2.heap.size w2 w3 := own_grow (by repeat' (first | (with_reducible exact Below.refl _ _) | (with_reducible assumption) | (with_reducible refine Base.grow_alloc ?_ _) | (with_reducible refine Base.below_drewN ?_ _) | (with_reducible refine Below.drew ?_) | (with_reducible refine Below.setCell ?_ ?_ _) | go_size)) HO.out (Nat.le_refl _) hgrow
      have hown2 : w3.ownsRow w2.heap.size 51 5 v' n (cellE (lsE n E)) := ownsRow_cast hown' (by omega) (by rw [cellF_E])
      obtain ⟨g0, cap0, hv2, _, _, _, _⟩ := own_form hown2 (by simpa using hnil)
      subst hv2
      have HO3 := Lib.hid hown2
      clear hown' hown2 hgrow hnil
      go_wp2
      go_loopw [6, 7, 8] (fun u q _ wr => ∃ (i g cap : Nat) (L : List E5), i ≤ m ∧ q = .int .i64 i ∧ Hid (u = .slice (some ⟨g, 0, none⟩) L.length cap ∧ mM (lsE n E) F i = some L ∧ wr.ownsRow w2.heap.size 51 5 (.slice (some ⟨g, 0, none⟩) L.length cap) L.length (cellE L)) ∧ Below w2.heap.size w2 wr) (fun _ q _ _ => m - (intOf q).toNat)
      case atStart => exact ⟨0, g0, cap0, lsE n E, Nat.zero_le _, rfl, Lib.hid ⟨by rw [lsE_len], rfl, by rw [lsE_len]; exact HO3.out⟩, (by repeat' (first | (with_reducible exact Below.refl _ _) | (with_reducible assumption) | (with_reducible refine Base.via hb3 ?_) | (with_reducible refine Base.grow_alloc ?_ _) | (with_reducible refine Base.below_drewN ?_ _) | (with_reducible refine Below.drew ?_) | (with_reducible refine Below.setCell ?_ ?_ _) | go_size))⟩
      case round =>
        obtain ⟨i, g, cap, L, hi, rfl, hrow, hbr⟩ := hrel
        have hrow0 := hrow
        obtain ⟨rfl, hM, hown⟩ := hrow.out
        obtain ⟨hsL, hlL, _, _⟩ := HINV.out i hi L hM
        have hz := hbr.size
        by_cases hlt : i < m
        · have hbwr : Below w.heap.size w wr := hbw.trans (hbr.mono hbw.size)
          obtain ⟨b', o', e', hb', hc'⟩ := (hu.below hbwr).at_ (by omega)
          injection e' with e'
          injection e' with e3 e4
          subst e3; subst e4
          obtain ⟨a0, a1, a2, a3, a4⟩ := cells5 hc' i hlt
          have hvL := (of_listE hown (by omega)).sl
          obtain ⟨hfeq, hfe2⟩ := HFI.out i hlt L hM
          have HFD := Lib.hid (fun W (hW : Below wr.heap.size wr W) => c_l06Find (some ⟨b, off, none⟩) n c E (F i) b2 (off2 + i * 5) W ((hv.below hbwr).below hW) HS1.out (cell_call hW a0) (cell_call hW a1) (cell_call hW a2))
          have HIL := Lib.hid (insL_len (e := F i) (lbE_spec (F i) hsL).1)
          have HAL := Lib.hid (fun (W : World) (hW : Below wr.heap.size wr W) => (⟨cell_call hW a0, cell_call hW a1, cell_call hW a2, cell_call hW a3, cell_call hW a4⟩ : _ ∧ _ ∧ _ ∧ _ ∧ _))
          have i1 : (0 : Int) ≤ (i : Int) := by omega
          have i2 : (i : Int) < (m : Int) := by omega
          clear hc' hrow hown a0 a1 a2 a3 a4
          cases hfd : fdE L.length (leE L) (F i)
          · have HST := Lib.hid ((mM_succ hM).trans (step_new hfd))
            have HPU := Lib.hid (fun W (hW : Below wr.heap.size wr W) => c_l06Put g 0 L.length cap (leE L) (F i) W (hvL.below hW) hsL hfd (by omega))
            have hls : lsE L.length (leE L) = L := by
              apply List.ext_getElem
              · rw [lsE_len]
              · intro j h1 h2
                simp [lsE, leE, h2]
            rw [hfeq, hfd] at HFD
            simp only [Bool.false_eq_true, if_false] at HFD
            rw [hls] at HPU
            clear hfd hM hsL hvL hls hfeq hfe2
            generalize insL L (lbE (leE L) (F i) L.length) (F i) = LI at *
            generalize hll : L.length = l at *
            replace hll := Lib.hid hll
            generalize F i = x at *
            obtain ⟨t, s, o, y, z⟩ := x
            simp only [est] at HPU
            dsimp only at HFD HAL
            obtain ⟨a0, a1, a2, a3, a4⟩ := HAL.out wr (Below.refl _ _)
            go_wp2_with fail
            refine (HFD.out _ (by repeat' (first | (with_reducible exact Below.refl _ _) | (with_reducible assumption) | (with_reducible refine Base.grow_alloc ?_ _) | (with_reducible refine Base.below_drewN ?_ _) | (with_reducible refine Below.drew ?_) | (with_reducible refine Below.setCell ?_ ?_ _) | go_size))).mono ?_
            rintro e w4 ⟨rfl, hb4⟩
            obtain ⟨a0, a1, a2, a3, a4⟩ := HAL.out w4 hb4
            go_wp2_with fail
            refine (HPU.out _ hb4).mono ?_
            rintro e w5 ⟨g5, c5, rfl, ho5, hb5⟩
            have hl5 : LI.length = l + 1 := HIL.out
            have HO5 := Lib.hid (ownsRow_mono ho5 (Nat.le_trans hz hb4.size))
            clear ho5
            go_wp2
            exact ⟨⟨i + 1, g5, c5, LI, by omega, by go_num, Lib.hid ⟨by rw [hl5], HST.out, by rw [hl5]; exact HO5.out⟩, (by repeat' (first | (with_reducible exact Below.refl _ _) | (with_reducible assumption) | (with_reducible refine Base.via hb5 ?_) | (with_reducible refine Base.via hb4 ?_) | (with_reducible refine Base.via hbr ?_) | (with_reducible refine Base.grow_alloc ?_ _) | (with_reducible refine Base.below_drewN ?_ _) | (with_reducible refine Below.drew ?_) | (with_reducible refine Below.setCell ?_ ?_ _) | go_size))⟩, by simp [intOf]; omega⟩
          · have hf0 : fdE n E (F i) = true := hfeq.trans hfd
            have hfy := fd_yes hf0
            have hKl := hfy.1
            have hkq := hfy.2
            have hEE := hfe2 hf0
            have HRY := Lib.hid (fun (h : sme (leE L (lbE (leE L) (F i) L.length)) (F i) = true) => (mM_succ hM).trans (step_same hfd h))
            have HRN := Lib.hid (fun (h : sme (leE L (lbE (leE L) (F i) L.length)) (F i) = false) => (mM_succ hM).trans (step_clash hfd h))
            have HOWN := Lib.hid hrow0.out.2.2
            rw [← hEE] at HRY HRN
            rw [hf0] at HFD
            simp only [if_true] at HFD
            clear hfd hM hsL hfy HIL hvL hfeq hfe2 hEE hf0
            obtain ⟨K, hK⟩ : ∃ K, lbE E (F i) n = K := ⟨_, rfl⟩
            rw [hK] at HFD HRY HRN hKl hkq
            clear hK
            have HNE := Lib.hid (fun W => neqEst (E K) (F i) W)
            rw [hkq] at HNE
            simp only [Bool.true_and] at HNE
            obtain ⟨Q, hQ⟩ : ∃ Q, sme (E K) (F i) = Q := ⟨_, rfl⟩
            rw [hQ] at HRY HRN HNE
            clear hQ hkq
            obtain ⟨gb, go, ge, hgb, gc⟩ := (hv.below hbwr).at_ (by omega)
            injection ge with ge
            injection ge with ge1 ge2
            subst ge1; subst ge2
            obtain ⟨x0, x1, x2, x3, x4⟩ := cells5 gc K hKl
            have HX := Lib.hid (fun (W : World) (hW : Below wr.heap.size wr W) => (⟨cell_call hW x0, cell_call hW x1, cell_call hW x2, cell_call hW x3, cell_call hW x4⟩ : _ ∧ _ ∧ _ ∧ _ ∧ _))
            clear gc x0 x1 x2 x3 x4
            generalize hll : L.length = l at *
            replace hll := Lib.hid hll
            generalize E K = xk at *
            generalize F i = x at *
            obtain ⟨t, s, o, y, z⟩ := x
            dsimp only at HFD HAL HNE
            obtain ⟨a0, a1, a2, a3, a4⟩ := HAL.out wr (Below.refl _ _)
            go_wp2_with fail
            refine (HFD.out _ (by repeat' (first | (with_reducible exact Below.refl _ _) | (with_reducible assumption) | (with_reducible refine Base.grow_alloc ?_ _) | (with_reducible refine Base.below_drewN ?_ _) | (with_reducible refine Below.drew ?_) | (with_reducible refine Below.setCell ?_ ?_ _) | go_size))).mono ?_
            rintro e w4 ⟨rfl, hb4⟩
            have hz4 := hb4.size
            obtain ⟨a0, a1, a2, a3, a4⟩ := HAL.out w4 hb4
            obtain ⟨x0, x1, x2, x3, x4⟩ := HX.out w4 hb4
            have hne := HNE.out
            have j1 : (0 : Int) ≤ (K : Int) := by omega
            have j2 : (K : Int) < (n : Int) := by omega
            have lg4 : b < w4.heap.size := by omega
            have lk4 : b2 < w4.heap.size := by omega
            cases Q
            · have HR := Lib.hid (HNO.out (HMN.out (i + 1) (by omega) (HRN.out rfl)))
              clear HRN HRY HNE
              go_wp2
              go_quiet (fail)
              go_wp2
              go_ret2
              exact ⟨_, ret_ad HR.out.1.symm, OwnK.zero HR.out.2, (by repeat' (first | (with_reducible exact Below.refl _ _) | (with_reducible assumption) | (with_reducible refine Base.via hb4 ?_) | (with_reducible refine Base.via hbwr ?_) | (with_reducible refine Base.grow_alloc ?_ _) | (with_reducible refine Base.below_drewN ?_ _) | (with_reducible refine Below.drew ?_) | (with_reducible refine Below.setCell ?_ ?_ _) | go_size))⟩
            · have HR := Lib.hid (HRY.out rfl)
              clear HRN HRY HNE
              go_wp2
              go_quiet (fail)
              go_wp2
              exact ⟨⟨i + 1, g, cap, L, by omega, by go_num, Lib.hid ⟨by rw [hll.out], HR.out, by rw [hll.out]; exact own_of_below HOWN.out (by repeat' (first | (with_reducible exact Below.refl _ _) | (with_reducible assumption) | (with_reducible refine Base.via hb4 ?_) | (with_reducible refine Base.grow_alloc ?_ _) | (with_reducible refine Base.below_drewN ?_ _) | (with_reducible refine Below.drew ?_) | (with_reducible refine Below.setCell ?_ ?_ _) | go_size))⟩, (by repeat' (first | (with_reducible exact Below.refl _ _) | (with_reducible assumption) | (with_reducible refine Base.via hb4 ?_) | (with_reducible refine Base.via hbr ?_) | (with_reducible refine Base.grow_alloc ?_ _) | (with_reducible refine Base.below_drewN ?_ _) | (with_reducible refine Below.drew ?_) | (with_reducible refine Below.setCell ?_ ?_ _) | go_size))⟩, by simp [intOf]; omega⟩
        · have hkn : i = m := by omega
          subst hkn
          have HB5 := Lib.hid (HBG.out L hM)
          have HB0 := Lib.hid (HOK.out L hM)
          have hbwr : Below w.heap.size w wr := hbw.trans (hbr.mono hbw.size)
          have HOWN := Lib.hid hown
          clear hrow hrow0 hM hown hsL
          generalize hll : L.length = l at *
          replace hll := Lib.hid hll
          by_cases h100 : 100 < l
          · have HR := Lib.hid (HB5.out h100)
            have hd : decide ((100 : Int) < (l : Int)) = true := by simp; omega
            go_wp2
            go_ret2
            exact ⟨_, ret_ad HR.out.1.symm, OwnK.zero HR.out.2, hbwr⟩
          · have HR := Lib.hid (HB0.out h100)
            have hd : decide ((100 : Int) < (l : Int)) = false := by simp; omega
            go_wp2
            go_ret2
            exact ⟨_, ret_ad HR.out.1.symm, by rw [HR.out.2]; exact (ownE HOWN.out hll.out (by omega)).mono hbw.size, hbwr⟩
end Go.Proofs.Ythojfmlnnclghaa.Mrg
