/- Reading the text of estimates: the walk of the program's ReadEstimates. -/
import Derived.Test.YthojfmlnnclghaaGreatDoorRdE
import Derived.Deep.RegionLaw
import Derived.Deep.AppendLies
namespace Go.Proofs.YthojfmlnnclghaaGreatDoor.Rd
set_option linter.unusedVariables false
set_option linter.unusedSimpArgs false
set_option maxRecDepth 8000
open Go.RowKit Plain Num View Dec Txt Name Etx Est OkE ChoE

set_option maxHeartbeats 6400000 in
theorem c_ReadEstimates (s : ByteArray) (w : World) (hz : Tz w) (hs : s.size ≤ 1048576) :
    Calls Tryz.prog 5 #[.string s] w fun r w' => REr w.heap.size w' s.data.toList r ∧ Below w.heap.size w w' := by
  obtain ⟨i0, hi0, hz0, hz1, hz2⟩ := info_parts infoEst
  have HZ := Lib.hid hz
  clear hz
  go_enter Tryz.func5, Tryz.ntmps5
  go_wp2
  go_loopw [4, 5] (fun li rs wr => ∃ (F : List E5) (RS : ByteArray) (g cap : Nat), li = .slice (some ⟨g, 0, none⟩) F.length cap ∧ rs = .string RS ∧ F.length ≤ 100 ∧ RS.size ≤ s.size ∧ Hid (Lft s.data.toList F RS.data.toList) ∧ wr.ownsRow w.heap.size 31 5 (.slice (some ⟨g, 0, none⟩) F.length cap) F.length (cellE F) ∧ Below w.heap.size w wr) (fun _ rs _ => strLen rs)
  case atStart => exact ⟨[], s, _, _, rfl, rfl, by simp, Nat.le_refl _, (show Lft s.data.toList [] s.data.toList from Lft_zero _), World.ownsRow_made _ _ _ (by omega) (by simp [maxLen]) rfl, (by repeat' (first | (with_reducible exact Below.refl _ _) | (with_reducible assumption) | (with_reducible refine Base.grow_alloc ?_ _) | (with_reducible refine Base.below_drewN ?_ _) | (with_reducible refine Below.drew ?_) | (with_reducible refine Below.setCell ?_ ?_ _) | go_size))⟩
  case round =>
    obtain ⟨F, RS, g, cap, rfl, rfl, hF, hRs, hlf, hown, hbr⟩ := hrel
    have hzb := hbr.size
    by_cases h0 : RS.size = 0
    · have hR0 : RS.data.toList = [] := List.eq_nil_of_length_eq_zero (by rw [Array.length_toList]; exact h0)
      have hcmp : RS.toList.isEmpty = true := by rw [ByteArray.toList_eq, hR0]; rfl
      have hcmp2 : (([] : List UInt8) == RS.toList) = true := by rw [ByteArray.toList_eq, hR0]; rfl
      have HLF := Lib.hid (show Lft s.data.toList F [] from hR0 ▸ hlf.out)
      have ho := of_listE hown (by omega)
      have hsl := ho.sl
      cases hok : okE F.length (leE F)
      · have HN := Lib.hid (show ∀ L, ¬ PE s.data.toList L from fun L hL => by
          have e := Lft_end HLF.out hL
          rw [e] at hL
          have := hL.1
          rw [hok] at this
          cases this)
        have HV : Hid (∀ W : World, Below wr.heap.size wr W → Calls Tryz.prog 17 #[.slice (some ⟨g, 0, none⟩) F.length cap] W fun r w' => r = .returned (.bool false) ∧ Below W.heap.size W w') := Lib.hid (fun W hW => by have := c_ValidEstimates _ _ _ _ W (hsl.below hW); rw [hok] at this; exact this)
        clear hlf hown ho hsl hok h0 hR0
        go_wp2_with (first | (go_at_call 17; refine (HV.out _ (by repeat' (first | (with_reducible exact Below.refl _ _) | (with_reducible assumption) | (with_reducible refine Base.grow_alloc ?_ _) | (with_reducible refine Base.below_drewN ?_ _) | (with_reducible refine Below.drew ?_) | (with_reducible refine Below.setCell ?_ ?_ _) | go_size))).mono ?_; rintro e w1 ⟨rfl, hb1⟩; obtain ⟨chb1, fhb1⟩ := Base.bcell hb1; have zhb1 := (hb1).size; (try simp at zhb1); (try have yhb1 : w.heap.size < (w1).heap.size := by omega)))
        go_ret2
        exact ⟨REr_no HN.out, (by repeat' (first | (with_reducible exact Below.refl _ _) | (with_reducible assumption) | (with_reducible refine Base.via hb1 ?_) | (with_reducible refine Base.via hbr ?_) | (with_reducible refine Base.grow_alloc ?_ _) | (with_reducible refine Base.below_drewN ?_ _) | (with_reducible refine Below.drew ?_) | (with_reducible refine Below.setCell ?_ ?_ _) | go_size))⟩
      · have HV : Hid (∀ W : World, Below wr.heap.size wr W → Calls Tryz.prog 17 #[.slice (some ⟨g, 0, none⟩) F.length cap] W fun r w' => r = .returned (.bool true) ∧ Below W.heap.size W w') := Lib.hid (fun W hW => by have := c_ValidEstimates _ _ _ _ W (hsl.below hW); rw [hok] at this; exact this)
        have hTX : txtS F.length (leE F) = ⟨(txT F).toArray⟩ := by rw [txtS, if_pos hok, txL_eq]
        obtain ⟨TX, hTe⟩ : ∃ TX : ByteArray, (⟨(txT F).toArray⟩ : ByteArray) = TX := ⟨_, rfl⟩
        have HT : Hid (∀ W : World, Below wr.heap.size wr W → Tb W → Calls Tryz.prog 18 #[.slice (some ⟨g, 0, none⟩) F.length cap] W fun r w' => r = .returned (.string TX) ∧ Below W.heap.size W w') := Lib.hid (fun W hW hT => by have := c_EstimatesText _ _ _ _ W (hsl.below hW) hT; rw [hTX, hTe] at this; exact this)
        by_cases heq : txT F = s.data.toList
        · have HY := Lib.hid (show RE s.data.toList F true from RE_yes (Lft_yes hok heq) (fun L hL => Lft_end HLF.out hL))
          have hcm : (TX.toList == s.toList) = true := bts_yes (by rw [← hTe]; simpa using heq)
          have HO := Lib.hid ho
          clear hlf hown ho hsl hok h0 hR0 hTX hTe heq
          go_wp2_with (first | (go_at_call 17; refine (HV.out _ (by repeat' (first | (with_reducible exact Below.refl _ _) | (with_reducible assumption) | (with_reducible refine Base.grow_alloc ?_ _) | (with_reducible refine Base.below_drewN ?_ _) | (with_reducible refine Below.drew ?_) | (with_reducible refine Below.setCell ?_ ?_ _) | go_size))).mono ?_; rintro e w1 ⟨rfl, hb1⟩; obtain ⟨chb1, fhb1⟩ := Base.bcell hb1; have zhb1 := (hb1).size; (try simp at zhb1); (try have yhb1 : w.heap.size < (w1).heap.size := by omega)) | (go_at_call 18; refine (HT.out _ (by repeat' (first | (with_reducible exact Below.refl _ _) | (with_reducible assumption) | (with_reducible refine Base.via hb1 ?_) | (with_reducible refine Base.grow_alloc ?_ _) | (with_reducible refine Base.below_drewN ?_ _) | (with_reducible refine Below.drew ?_) | (with_reducible refine Below.setCell ?_ ?_ _) | go_size)) (HZ.out.1.below (by repeat' (first | (with_reducible exact Below.refl _ _) | (with_reducible assumption) | (with_reducible refine Base.via hb1 ?_) | (with_reducible refine Base.via hbr ?_) | (with_reducible refine Base.grow_alloc ?_ _) | (with_reducible refine Base.below_drewN ?_ _) | (with_reducible refine Below.drew ?_) | (with_reducible refine Below.setCell ?_ ?_ _) | go_size)))).mono ?_; rintro e w2 ⟨rfl, hb2⟩; obtain ⟨chb2, fhb2⟩ := Base.bcell hb2; have zhb2 := (hb2).size; (try simp at zhb2); (try have yhb2 : w.heap.size < (w2).heap.size := by omega)))
          go_ret2
          exact ⟨⟨F, _, true, rfl, HO.out.below (by repeat' (first | (with_reducible exact Below.refl _ _) | (with_reducible assumption) | (with_reducible refine Base.via hb2 ?_) | (with_reducible refine Base.via hb1 ?_) | (with_reducible refine Base.grow_alloc ?_ _) | (with_reducible refine Base.below_drewN ?_ _) | (with_reducible refine Below.drew ?_) | (with_reducible refine Below.setCell ?_ ?_ _) | go_size)), HY.out⟩, (by repeat' (first | (with_reducible exact Below.refl _ _) | (with_reducible assumption) | (with_reducible refine Base.via hb2 ?_) | (with_reducible refine Base.via hb1 ?_) | (with_reducible refine Base.via hbr ?_) | (with_reducible refine Base.grow_alloc ?_ _) | (with_reducible refine Base.below_drewN ?_ _) | (with_reducible refine Below.drew ?_) | (with_reducible refine Below.setCell ?_ ?_ _) | go_size))⟩
        · have HN := Lib.hid (show ∀ L, ¬ PE s.data.toList L from fun L hL => by
            have e := Lft_end HLF.out hL
            rw [e] at hL
            exact heq hL.2.symm)
          have hcm : (TX.toList == s.toList) = false := bts_no (by rw [← hTe]; simpa using heq)
          clear hlf hown ho hsl hok h0 hR0 hTX hTe heq
          go_wp2_with (first | (go_at_call 17; refine (HV.out _ (by repeat' (first | (with_reducible exact Below.refl _ _) | (with_reducible assumption) | (with_reducible refine Base.grow_alloc ?_ _) | (with_reducible refine Base.below_drewN ?_ _) | (with_reducible refine Below.drew ?_) | (with_reducible refine Below.setCell ?_ ?_ _) | go_size))).mono ?_; rintro e w1 ⟨rfl, hb1⟩; obtain ⟨chb1, fhb1⟩ := Base.bcell hb1; have zhb1 := (hb1).size; (try simp at zhb1); (try have yhb1 : w.heap.size < (w1).heap.size := by omega)) | (go_at_call 18; refine (HT.out _ (by repeat' (first | (with_reducible exact Below.refl _ _) | (with_reducible assumption) | (with_reducible refine Base.via hb1 ?_) | (with_reducible refine Base.grow_alloc ?_ _) | (with_reducible refine Base.below_drewN ?_ _) | (with_reducible refine Below.drew ?_) | (with_reducible refine Below.setCell ?_ ?_ _) | go_size)) (HZ.out.1.below (by repeat' (first | (with_reducible exact Below.refl _ _) | (with_reducible assumption) | (with_reducible refine Base.via hb1 ?_) | (with_reducible refine Base.via hbr ?_) | (with_reducible refine Base.grow_alloc ?_ _) | (with_reducible refine Base.below_drewN ?_ _) | (with_reducible refine Below.drew ?_) | (with_reducible refine Below.setCell ?_ ?_ _) | go_size)))).mono ?_; rintro e w2 ⟨rfl, hb2⟩; obtain ⟨chb2, fhb2⟩ := Base.bcell hb2; have zhb2 := (hb2).size; (try simp at zhb2); (try have yhb2 : w.heap.size < (w2).heap.size := by omega)))
          go_ret2
          exact ⟨REr_no HN.out, (by repeat' (first | (with_reducible exact Below.refl _ _) | (with_reducible assumption) | (with_reducible refine Base.via hb2 ?_) | (with_reducible refine Base.via hb1 ?_) | (with_reducible refine Base.via hbr ?_) | (with_reducible refine Base.grow_alloc ?_ _) | (with_reducible refine Base.below_drewN ?_ _) | (with_reducible refine Below.drew ?_) | (with_reducible refine Below.setCell ?_ ?_ _) | go_size))⟩
    · have hRn : RS.data.toList ≠ [] := fun h => h0 (by have := congrArg List.length h; rw [Array.length_toList] at this; exact this)
      have hcmp : RS.toList.isEmpty = false := by
        rw [ByteArray.toList_eq]
        cases h : RS.data.toList with
        | nil => exact absurd h hRn
        | cons x y => rfl
      have hcmp2 : (([] : List UInt8) == RS.toList) = false := by
        cases h : RS.toList with
        | nil => rw [h] at hcmp; cases hcmp
        | cons x y => rfl
      have hRl : RS.data.toList.length = RS.size := by rw [Array.length_toList]; rfl
      obtain ⟨A, B, fo, hcut⟩ : ∃ A B fo, Lib.cut RS.data.toList [10] = (A, B, fo) := ⟨_, _, _, rfl⟩
      obtain ⟨hAl, hBl⟩ := cut_lt hcut hRn
      obtain ⟨AS, hAS⟩ : ∃ AS : ByteArray, (⟨A.toArray⟩ : ByteArray) = AS := ⟨_, rfl⟩
      have hAD : AS.data.toList = A := by rw [← hAS]
      have hAz : AS.size ≤ 1048576 := by rw [← hAS, Txt.size_l]; omega
      obtain ⟨BS, hBS⟩ : ∃ BS : ByteArray, (⟨B.toArray⟩ : ByteArray) = BS := ⟨_, rfl⟩
      have hBD : BS.data.toList = B := by rw [← hBS]
      have hBz : BS.size < RS.size := by rw [← hBS, Txt.size_l]; omega
      have HCT : Hid (Calls Tryz.prog 12 #[.string RS, .string ⟨#[10]⟩] wr fun e w' => e = .returned (.tuple #[.string AS, .string BS, .bool fo]) ∧ Below wr.heap.size wr w') := Lib.hid (by have := c_cut RS A B fo wr (HZ.out.below hbr) (by omega) hcut; rw [hAS, hBS] at this; exact this)
      have HSP := Lib.hid (fun (X : World) (hX : Tz X) => c_split AS X hX hAz)
      rw [hAD] at HSP
      obtain ⟨P, hP⟩ : ∃ P, spl 32 A = P := ⟨_, rfl⟩
      rw [hP] at HSP
      by_cases h4 : P.length = 4
      case neg =>
        have HN := Lib.hid (Lft_bad hlf.out hRn hcut (fun e he => h4 (by rw [← hP, PL_spl he]; rfl)))
        clear hlf hcut hRn hP
        go_wp2_with (first | (go_at_call 12; refine HCT.out.mono ?_; rintro e w1 ⟨rfl, hb1⟩) | (go_at_call 13; refine (HSP.out _ (HZ.out.below (by repeat' (first | (with_reducible exact Below.refl _ _) | (with_reducible assumption) | (with_reducible refine Base.via hb1 ?_) | (with_reducible refine Base.via hbr ?_) | (with_reducible refine Base.grow_alloc ?_ _) | (with_reducible refine Base.below_drewN ?_ _) | (with_reducible refine Below.drew ?_) | (with_reducible refine Below.setCell ?_ ?_ _) | go_size)))).mono ?_; rintro e w2 ⟨gp, rfl, hcp, hb2⟩))
        go_ret2
        exact ⟨REr_no HN.out, (by repeat' (first | (with_reducible exact Below.refl _ _) | (with_reducible assumption) | (with_reducible refine Base.via hb2 ?_) | (with_reducible refine Base.via hb1 ?_) | (with_reducible refine Base.via hbr ?_) | (with_reducible refine Base.grow_alloc ?_ _) | (with_reducible refine Base.below_drewN ?_ _) | (with_reducible refine Below.drew ?_) | (with_reducible refine Below.setCell ?_ ?_ _) | go_size))⟩
      obtain ⟨PA, PB, PC, PD, rfl⟩ : ∃ PA PB PC PD, P = [PA, PB, PC, PD] := by
        match P, h4 with
        | [a, b, c, d], _ => exact ⟨a, b, c, d, rfl⟩
      clear h4
      by_cases h100 : F.length = 100
      · have HN := Lib.hid (Lft_big hlf.out hRn h100)
        have h100b : ((F.length : Int) == 100) = true := by simp [h100]
        clear hlf hcut hRn hP
        go_wp2_with (first | (go_at_call 12; refine HCT.out.mono ?_; rintro e w1 ⟨rfl, hb1⟩) | (go_at_call 13; refine (HSP.out _ (HZ.out.below (by repeat' (first | (with_reducible exact Below.refl _ _) | (with_reducible assumption) | (with_reducible refine Base.via hb1 ?_) | (with_reducible refine Base.via hbr ?_) | (with_reducible refine Base.grow_alloc ?_ _) | (with_reducible refine Base.below_drewN ?_ _) | (with_reducible refine Below.drew ?_) | (with_reducible refine Below.setCell ?_ ?_ _) | go_size)))).mono ?_; rintro e w2 ⟨gp, rfl, hcp, hb2⟩))
        go_ret2
        exact ⟨REr_no HN.out, (by repeat' (first | (with_reducible exact Below.refl _ _) | (with_reducible assumption) | (with_reducible refine Base.via hb2 ?_) | (with_reducible refine Base.via hb1 ?_) | (with_reducible refine Base.via hbr ?_) | (with_reducible refine Base.grow_alloc ?_ _) | (with_reducible refine Base.below_drewN ?_ _) | (with_reducible refine Below.drew ?_) | (with_reducible refine Below.setCell ?_ ?_ _) | go_size))⟩
      have h100b : ((F.length : Int) == 100) = false := by rw [beq_eq_false_iff_ne]; omega
      have hspl := spl_len 32 _ A (Nat.le_refl _)
      rw [hP] at hspl
      have hPAz : (⟨PA.toArray⟩ : ByteArray).size ≤ 1048576 := by rw [Txt.size_l]; have := hspl PA (by simp); omega
      have hPDl : PD.length ≤ 1048576 := by have := hspl PD (by simp); omega
      obtain ⟨DS, hDS⟩ : ∃ DS : ByteArray, (⟨PD.toArray⟩ : ByteArray) = DS := ⟨_, rfl⟩
      have hDD : DS.data.toList = PD := by rw [← hDS]
      obtain ⟨MS, hMS⟩ : ∃ MS : ByteArray, (⟨(Lib.trimPrefix PD [60]).toArray⟩ : ByteArray) = MS := ⟨_, rfl⟩
      have hMD : MS.data.toList = Lib.trimPrefix PD [60] := by rw [← hMS]
      have hMz : MS.size ≤ 1048576 := by rw [← hMS, Txt.size_l]; have := trim_le PD; omega
      obtain ⟨fn, hfn⟩ : ∃ fn, Lib.hasPrefix PD [60] = fn := ⟨_, rfl⟩
      have HCP : Hid (∀ X : World, Calls Tryz.prog 14 #[.string DS, .string ⟨#[60]⟩] X fun e w' => e = .returned (.tuple #[.string MS, .bool fn]) ∧ X = w') := Lib.hid (fun X => (Tryz.strings_CutPrefix DS ⟨#[60]⟩ X).mono (fun e w' h => ⟨by rw [h.1, hDD]; show Ending.returned (.tuple #[.string ⟨(Lib.trimPrefix PD [60]).toArray⟩, .bool (Lib.hasPrefix PD [60])]) = _; rw [hMS, hfn], h.2.symm⟩))
      have HRD := Lib.hid (fun (X : World) (hX : Tz X) => c_ReadDecimal ⟨PA.toArray⟩ X hX hPAz)
      have HRM := Lib.hid (fun (X : World) (hX : Tz X) => c_ReadMag MS X hX hMz)
      rw [hMD] at HRM
      have HRL := Lib.hid (fun (t m : Int) (b1 b2 : Bool) (h1 : RN PA t b1) (h2 : RM (Lib.trimPrefix PD [60]) m b2) => RL_of hP hfn h1 h2)
      obtain ⟨AA, hAA⟩ : ∃ AA : ByteArray, (⟨PA.toArray⟩ : ByteArray) = AA := ⟨_, rfl⟩
      have hAA2 : AA.data.toList = PA := by rw [← hAA]
      rw [hAA] at HRD
      rw [hAA2] at HRD
      obtain ⟨BB, hBB⟩ : ∃ BB : ByteArray, (⟨PB.toArray⟩ : ByteArray) = BB := ⟨_, rfl⟩
      obtain ⟨CC, hCC⟩ : ∃ CC : ByteArray, (⟨PC.toArray⟩ : ByteArray) = CC := ⟨_, rfl⟩
      have HBAD := Lib.hid (fun (hA : ∀ e, ¬ PL A e) => Lft_bad hlf.out hRn hcut hA)
      have HNXT := Lib.hid (fun (e : E5) (hA : PL A e) => Lft_next hlf.out hRn hcut hA)
      rw [← hBD] at HNXT
      rw [hBB, hCC] at HRL
      clear hlf hcut hRn hP hspl hPAz hPDl hDD hMD hMz hfn hAA2 hBD hAD hRl hAl hBl hAS hBS hMS hAz
      go_wp2_with (first | (go_at_call 12; refine HCT.out.mono ?_; rintro e w1 ⟨rfl, hb1⟩) | (go_at_call 13; refine (HSP.out _ (HZ.out.below (by repeat' (first | (with_reducible exact Below.refl _ _) | (with_reducible assumption) | (with_reducible refine Base.via hb1 ?_) | (with_reducible refine Base.via hbr ?_) | (with_reducible refine Base.grow_alloc ?_ _) | (with_reducible refine Base.below_drewN ?_ _) | (with_reducible refine Below.drew ?_) | (with_reducible refine Below.setCell ?_ ?_ _) | go_size)))).mono ?_; rintro e w2 ⟨gp, rfl, hcp, hb2⟩; have k0 := hcp.out 0 PA rfl; have k1 := hcp.out 1 PB rfl; have k2 := hcp.out 2 PC rfl; have k3 := hcp.out 3 PD rfl; rw [hDS] at k3; rw [hAA] at k0; rw [hBB] at k1; rw [hCC] at k2; clear hcp; have lgp := (World.block_lt_of_cell? _ _ k0); simp only at lgp; simp only [List.length_cons, List.length_nil]) | (go_at_call 14; refine (HCP.out _).mono ?_; rintro e w' ⟨rfl, rfl⟩) | (go_at_call 15; refine (HRD.out _ (HZ.out.below (by repeat' (first | (with_reducible exact Below.refl _ _) | (with_reducible assumption) | (with_reducible refine Base.via hb2 ?_) | (with_reducible refine Base.via hb1 ?_) | (with_reducible refine Base.via hbr ?_) | (with_reducible refine Base.grow_alloc ?_ _) | (with_reducible refine Base.below_drewN ?_ _) | (with_reducible refine Below.drew ?_) | (with_reducible refine Below.setCell ?_ ?_ _) | go_size)))).mono ?_; rintro e w3 ⟨⟨t, b1, rfl, hrn⟩, hb3⟩; have HRN := Lib.hid hrn; clear hrn))
      refine (HRM.out _ (HZ.out.below (by repeat' (first | (with_reducible exact Below.refl _ _) | (with_reducible assumption) | (with_reducible refine Base.via hb3 ?_) | (with_reducible refine Base.via hb2 ?_) | (with_reducible refine Base.via hb1 ?_) | (with_reducible refine Base.via hbr ?_) | (with_reducible refine Base.grow_alloc ?_ _) | (with_reducible refine Base.below_drewN ?_ _) | (with_reducible refine Below.drew ?_) | (with_reducible refine Below.setCell ?_ ?_ _) | go_size)))).mono ?_
      rintro e w4 ⟨⟨m, b2, rfl, hrm⟩, hb4⟩
      have HRM2 := Lib.hid hrm
      clear hrm k0 k3
      have hbw4 : Below w.heap.size w w4 := (by repeat' (first | (with_reducible exact Below.refl _ _) | (with_reducible assumption) | (with_reducible refine Base.via hb4 ?_) | (with_reducible refine Base.via hb3 ?_) | (with_reducible refine Base.via hb2 ?_) | (with_reducible refine Base.via hb1 ?_) | (with_reducible refine Base.via hbr ?_) | (with_reducible refine Base.grow_alloc ?_ _) | (with_reducible refine Base.below_drewN ?_ _) | (with_reducible refine Below.drew ?_) | (with_reducible refine Below.setCell ?_ ?_ _) | go_size))
      cases b1
      · have HN := Lib.hid (HBAD.out (fun e he => by have := ((HRL.out t m false b2 HRN.out HRM2.out).2 e he).1; simp at this))
        go_wp2
        go_ret2
        exact ⟨REr_no HN.out, hbw4⟩
      cases b2
      · have HN := Lib.hid (HBAD.out (fun e he => by have := ((HRL.out t m true false HRN.out HRM2.out).2 e he).1; simp at this))
        go_wp2
        go_ret2
        exact ⟨REr_no HN.out, hbw4⟩
      have HNX := Lib.hid (HNXT.out _ ((HRL.out t m true true HRN.out HRM2.out).1 rfl))
      have hown4 := own_of_below (own_of_below hown (show Below wr.heap.size wr w3 from (by repeat' (first | (with_reducible exact Below.refl _ _) | (with_reducible assumption) | (with_reducible refine Base.via hb3 ?_) | (with_reducible refine Base.via hb2 ?_) | (with_reducible refine Base.via hb1 ?_) | (with_reducible refine Base.grow_alloc ?_ _) | (with_reducible refine Base.below_drewN ?_ _) | (with_reducible refine Below.drew ?_) | (with_reducible refine Below.setCell ?_ ?_ _) | go_size)))) hb4
      have q1 := cell_call hb4 (cell_call hb3 k1)
      have q2 := cell_call hb4 (cell_call hb3 k2)
      have lgq : gp < w4.heap.size := World.block_lt_of_cell? _ _ q1
      have hzb4 := hbw4.size
      have hF2 : F.length < 100 := by omega
      clear HBAD HNXT HRL HRN HRM2 HRM HRD HCP HSP HCT k1 k2 hown hb1 hb2 hb3 hb4 hbr
      go_wp2
      go_region_law (first | (refine step_append_lies _ (by rfl) _ _ _ (by rfl) w.heap.size 31 i0 _ 5 56 Tryz.underlying22 hi0 hz0 hz1 hz2 rfl (by decide) _ _ _ (by rfl) (own_of_below hown4 (by repeat' (first | (with_reducible exact Below.refl _ _) | (with_reducible assumption) | (with_reducible refine Base.grow_alloc ?_ _) | (with_reducible refine Base.below_drewN ?_ _) | (with_reducible refine Below.drew ?_) | (with_reducible refine Below.setCell ?_ ?_ _) | go_size))) ⟨_, 0, none⟩ 1 1 [.int .i64 t, .string BB, .string CC, .int .i64 m, .bool fn] (by rfl) (by rfl) (cell_newL _ _ _ rfl) (by simp [Value.oneCell']) (by decide) (by simp only [maxLen]; omega) (by omega) (by simp; omega) _ (by rfl) ?_; intro gb cb w5 hown5 hgrow hat hlt5))
      all_goals
        have hb5 : Below w.heap.size w w5 := own_grow (by repeat' (first | (with_reducible exact Below.refl _ _) | (with_reducible assumption) | (with_reducible refine Base.via hbw4 ?_) | (with_reducible refine Base.grow_alloc ?_ _) | (with_reducible refine Base.below_drewN ?_ _) | (with_reducible refine Below.drew ?_) | (with_reducible refine Below.setCell ?_ ?_ _) | go_size)) hown4 (Nat.le_refl _) hgrow
        clear hown4 hgrow
        go_wp2
        exact ⟨⟨F ++ [⟨t, BB, CC, m, fn⟩], BS, gb, cb, by rw [List.length_append]; rfl, rfl, by rw [List.length_append]; simp; omega, by omega, HNX, own_snocF ⟨t, BB, CC, m, fn⟩ hown5, hb5⟩, by simp [strLen]; omega⟩
end Go.Proofs.YthojfmlnnclghaaGreatDoor.Rd
