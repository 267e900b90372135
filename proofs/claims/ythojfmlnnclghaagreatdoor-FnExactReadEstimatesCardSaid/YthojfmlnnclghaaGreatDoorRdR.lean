/- Reading a number: the walk of the reference's l01Number. -/
import Derived.Test.YthojfmlnnclghaaGreatDoorRdQ
namespace Go.Proofs.YthojfmlnnclghaaGreatDoor.Rd
set_option linter.unusedVariables false
set_option linter.unusedSimpArgs false
set_option maxRecDepth 8000
open Go.RowKit Plain Num View Dec Txt Name

theorem pre_yes {s : ByteArray} (h0 : 0 < s.size) (h : by8 s 0 = 45) : Lib.hasPrefix s.data.toList [45] = true := by
  obtain ⟨c, hc, e⟩ := by8_list h0
  have h1 : c = 45 := by
    apply UInt8.toNat_inj.1
    have : ((c.toNat : Nat) : Int) = 45 := e ▸ h
    have h2 : (45 : UInt8).toNat = 45 := rfl
    omega
  cases hl : s.data.toList with
  | nil => rw [hl] at hc; cases hc
  | cons x r =>
    rw [hl] at hc
    obtain rfl : x = c := by simpa using hc
    rw [h1, Lib.hasPrefix]; simp
theorem pre_no {s : ByteArray} (h : by8 s 0 ≠ 45) : Lib.hasPrefix s.data.toList [45] = false := by
  cases hp : Lib.hasPrefix s.data.toList [45]
  · rfl
  · exfalso
    cases hl : s.data.toList with
    | nil => rw [hl] at hp; cases hp
    | cons x r =>
      rw [hl, Lib.hasPrefix] at hp
      have h1 : 45 = x := by simpa using hp
      have h0 : 0 < s.size := by
        have := congrArg List.length hl
        rw [Array.length_toList] at this
        show 0 < s.data.size
        rw [this]; simp
      obtain ⟨c, hc, e⟩ := by8_list h0
      rw [hl] at hc
      obtain rfl : x = c := by simpa using hc
      apply h
      rw [e, ← h1]; rfl
set_option maxHeartbeats 3200000 in
theorem c_l01Number (s : ByteArray) (w : World) (hs : s.size ≤ 1048576) :
    Calls Tryz.prog 21 #[.string s] w fun r w' => RNr s.data.toList r ∧ Below w.heap.size w w' := by
  by_cases h0 : 0 < s.size
  case neg =>
    have e0 : s.size = 0 := by omega
    obtain rfl : s = ⟨#[]⟩ := by apply ByteArray.ext; exact Array.eq_empty_of_size_eq_zero e0
    have HR := Lib.hid (RN_no (l := ([] : List UInt8)) (v := 0) (fun n hn => by have := PN_len hn; simp [Lib.trimPrefix, Lib.hasPrefix] at this))
    go_enter Tryz.func21, Tryz.ntmps21
    go_wp2
    go_ret2
    exact ⟨⟨_, _, rfl, HR.out⟩, (by repeat' (first | (with_reducible exact Below.refl _ _) | (with_reducible assumption) | (with_reducible refine Base.grow_alloc ?_ _) | (with_reducible refine Base.below_drewN ?_ _) | (with_reducible refine Below.drew ?_) | (with_reducible refine Below.setCell ?_ ?_ _) | go_size))⟩
  have e1 : s.toList.isEmpty = false := by
    rw [ByteArray.toList_eq]
    cases h : s.data.toList with
    | nil =>
      exfalso
      have := congrArg List.length h
      rw [Array.length_toList] at this
      have h2 : s.size = s.data.size := rfl
      rw [h2, this] at h0
      simp at h0
    | cons x y => rfl
  obtain ⟨c0, hc0⟩ : ∃ c0, by8 s 0 = c0 := ⟨_, rfl⟩
  have g0 : (((s[0]'(by omega)).toNat : Nat) : Int) = c0 := (by8_eq (s := s) (i := 0) (by omega)).trans hc0
  have HC0 := Lib.hid hc0
  clear hc0
  by_cases h45 : c0 = 45
  · have hpre : Lib.hasPrefix s.data.toList [45] = true := pre_yes h0 (by rw [HC0.out]; exact h45)
    obtain ⟨t, hte⟩ : ∃ t : ByteArray, s.extract 1 s.size = t := ⟨_, rfl⟩
    have ht : t.data.toList = Lib.trimPrefix s.data.toList [45] := by rw [← hte, Lib.extract_data, Lib.trimPrefix, if_pos hpre]; exact List.take_of_length_le (by rw [List.length_drop, Array.length_toList]; exact Nat.le_refl _)
    have hts : t.size = s.size - 1 := by rw [← hte]; simp [ByteArray.size_extract]
    have hlt : t.data.toList.length = t.size := by rw [Array.length_toList]; rfl
    have hx : (c0 == 45) = true := by simp [h45]
    have HLN : Hid (∀ n, PN s.data.toList n → 1 ≤ t.size ∧ t.size ≤ 18) := Lib.hid (fun n h => by rw [← hlt, ht]; exact PN_len h)
    by_cases h18 : 1 ≤ s.size - 1 ∧ s.size - 1 ≤ 18
    case neg =>
      have HR := Lib.hid (RN_no (l := s.data.toList) (v := 0) (fun n hn => h18 (by have := HLN.out n hn; omega)))
      clear HLN ht hlt hpre HC0 hte hts
      by_cases hlo : 1 ≤ s.size - 1
      · have hhi : 18 < s.size - 1 := by omega
        clear h18
        go_enter Tryz.func21, Tryz.ntmps21
        go_wp2
        go_ret2
        exact ⟨⟨_, _, rfl, HR.out⟩, (by repeat' (first | (with_reducible exact Below.refl _ _) | (with_reducible assumption) | (with_reducible refine Base.grow_alloc ?_ _) | (with_reducible refine Base.below_drewN ?_ _) | (with_reducible refine Below.drew ?_) | (with_reducible refine Below.setCell ?_ ?_ _) | go_size))⟩
      · have hhi : s.size - 1 < 1 := by omega
        clear h18
        go_enter Tryz.func21, Tryz.ntmps21
        go_wp2
        go_ret2
        exact ⟨⟨_, _, rfl, HR.out⟩, (by repeat' (first | (with_reducible exact Below.refl _ _) | (with_reducible assumption) | (with_reducible refine Base.grow_alloc ?_ _) | (with_reducible refine Base.below_drewN ?_ _) | (with_reducible refine Below.drew ?_) | (with_reducible refine Below.setCell ?_ ?_ _) | go_size))⟩
    obtain ⟨hlo, hhi⟩ := h18
    have HT := Lib.hid ht
    have HPRE := Lib.hid hpre
    have HDG : Hid (∀ n, PN s.data.toList n → ∀ c ∈ t.data.toList, dgB c = true) := Lib.hid (fun n h => by rw [ht]; exact (PN_val h).2)
    clear HLN ht hpre HC0
    go_enter Tryz.func21, Tryz.ntmps21
    go_wp2
    go_loopw [5, 6] (fun v i wr => ∃ k : Nat, k ≤ t.size ∧ i = .int .i64 k ∧ v = .int .i64 ((valF 0 (t.data.toList.take k) : Nat) : Int) ∧ Hid (∀ c ∈ t.data.toList.take k, dgB c = true) ∧ wr = w) (fun _ i _ => t.size - (intOf i).toNat)
    case atStart => exact ⟨0, Nat.zero_le _, rfl, rfl, (show ∀ c ∈ ([] : List UInt8), dgB c = true from fun c h => by cases h), rfl⟩
    case round =>
      obtain ⟨k, hk, rfl, rfl, hdg, rfl⟩ := hrel
      by_cases hk2 : k < t.size
      · obtain ⟨c, hc, hcv⟩ := by8_list hk2
        obtain ⟨x, hx8⟩ : ∃ x, by8 t k = x := ⟨_, rfl⟩
        have gk : (((t[k]'hk2).toNat : Nat) : Int) = x := (by8_eq hk2).trans hx8
        rw [hx8] at hcv
        clear hx8
        by_cases hd : 48 ≤ x ∧ x ≤ 57
        · obtain ⟨d0, d1⟩ := hd
          have hV := valF_lt0 hdg.out (k := k) (by rw [List.length_take]; exact Nat.min_le_left _ _)
          have hV17 := pow18 (k := k) (by omega)
          have HV := Lib.hid (val_step hc)
          have HG := Lib.hid (dg_step hc hdg.out (dgB_iff.2 (by omega)))
          have HDI : Hid (∀ W : World, Calls Tryz.prog 39 #[.int .u8 x] W fun e w' => e = .returned (.bool true) ∧ W = w') := Lib.hid (fun W => by have h := Name.c_l01Digit x W; rw [show (decide (48 ≤ x) && decide (x ≤ 57)) = true by simp [d0, d1]] at h; exact h)
          have HCV := Lib.hid hcv
          clear hcv hc hdg
          generalize valF 0 (t.data.toList.take k) = V at *
          have hV2 : V < 100000000000000000 := by omega
          clear hV hV17
          go_wp2_with (first | (go_at_call 39; refine (HDI.out _).mono ?_; rintro e w' ⟨rfl, rfl⟩))
          go_roundw
          case rel => exact ⟨k + 1, by omega, by go_num, congrArg (Value.int .i64) (by have h1 := HV.out; have h2 := HCV.out; rw [h1]; omega), HG.out, trivial⟩
          case measure => simp [intOf]; omega
        · have HR := Lib.hid (RN_no (l := s.data.toList) (v := 0) (fun n hn => hd (by have h1 := dgB_iff.1 (HDG.out n hn c (List.mem_of_getElem? hc)); omega)))
          have HDI : Hid (∀ W : World, Calls Tryz.prog 39 #[.int .u8 x] W fun e w' => e = .returned (.bool false) ∧ W = w') := Lib.hid (fun W => by have h := Name.c_l01Digit x W; rw [show (decide (48 ≤ x) && decide (x ≤ 57)) = false by rw [Bool.and_eq_false_iff, decide_eq_false_iff_not, decide_eq_false_iff_not]; omega] at h; exact h)
          clear hcv hc hdg hd
          go_wp2_with (first | (go_at_call 39; refine (HDI.out _).mono ?_; rintro e w' ⟨rfl, rfl⟩))
          go_ret2
          exact ⟨⟨_, _, rfl, HR.out⟩, (by repeat' (first | (with_reducible exact Below.refl _ _) | (with_reducible assumption) | (with_reducible refine Base.grow_alloc ?_ _) | (with_reducible refine Base.below_drewN ?_ _) | (with_reducible refine Below.drew ?_) | (with_reducible refine Below.setCell ?_ ?_ _) | go_size))⟩
      · obtain rfl : k = t.size := by omega
        have htk : t.data.toList.take t.size = t.data.toList := List.take_of_length_le (by omega)
        rw [htk] at hdg ⊢
        obtain ⟨ny, nn, nb0, nb1⟩ := num_end (v := (-((valF 0 t.data.toList : Nat) : Int))) HT.out (by omega) hdg.out (by rw [HPRE.out]; rfl)
        have hVB := valF_lt0 hdg.out (k := 18) (by omega)
        have hV18 := pow18' (Nat.le_refl 18)
        clear hdg htk
        generalize valF 0 t.data.toList = V at *
        have hV2 : V < 1000000000000000000 := by omega
        clear hVB hV18
        have HD : Hid (∀ W : World, Calls Tryz.prog 40 #[.int .i64 (-(V : Int))] W fun e w' => e = .returned (.string ⟨(Lib.itoa (-(V : Int))).toArray⟩) ∧ Below W.heap.size W w') := Lib.hid (fun W => c_l01Dec (-(V : Int)) W (by omega) (by omega))
        by_cases heq : Lib.itoa (-(V : Int)) = s.data.toList
        · have HR := Lib.hid (ny heq)
          have hcmp : ((⟨(Lib.itoa (-(V : Int))).toArray⟩ : ByteArray).toList == s.toList) = true := bts_yes (by simpa using heq)
          clear heq ny nn
          generalize (⟨(Lib.itoa (-(V : Int))).toArray⟩ : ByteArray) = VS at *
          go_wp2_with (first | (go_at_call 40; refine (HD.out _).mono ?_; rintro e w1 ⟨rfl, hb1⟩; obtain ⟨chb1, fhb1⟩ := Base.bcell hb1; have zhb1 := (hb1).size; (try simp at zhb1); (try have yhb1 : w.heap.size < (w1).heap.size := by omega)))
          go_ret2
          exact ⟨⟨_, _, rfl, HR.out⟩, (by repeat' (first | (with_reducible exact Below.refl _ _) | (with_reducible assumption) | (with_reducible refine Base.via hb1 ?_) | (with_reducible refine Base.grow_alloc ?_ _) | (with_reducible refine Base.below_drewN ?_ _) | (with_reducible refine Below.drew ?_) | (with_reducible refine Below.setCell ?_ ?_ _) | go_size))⟩
        · have HR := Lib.hid (nn heq)
          have hcmp : ((⟨(Lib.itoa (-(V : Int))).toArray⟩ : ByteArray).toList == s.toList) = false := bts_no (by simpa using heq)
          clear heq ny nn
          generalize (⟨(Lib.itoa (-(V : Int))).toArray⟩ : ByteArray) = VS at *
          go_wp2_with (first | (go_at_call 40; refine (HD.out _).mono ?_; rintro e w1 ⟨rfl, hb1⟩; obtain ⟨chb1, fhb1⟩ := Base.bcell hb1; have zhb1 := (hb1).size; (try simp at zhb1); (try have yhb1 : w.heap.size < (w1).heap.size := by omega)))
          go_ret2
          exact ⟨⟨_, _, rfl, HR.out⟩, (by repeat' (first | (with_reducible exact Below.refl _ _) | (with_reducible assumption) | (with_reducible refine Base.via hb1 ?_) | (with_reducible refine Base.grow_alloc ?_ _) | (with_reducible refine Base.below_drewN ?_ _) | (with_reducible refine Below.drew ?_) | (with_reducible refine Below.setCell ?_ ?_ _) | go_size))⟩
  · have hpre : Lib.hasPrefix s.data.toList [45] = false := pre_no (fun h => h45 (by rw [← HC0.out]; exact h))
    have ht : s.data.toList = Lib.trimPrefix s.data.toList [45] := by rw [Lib.trimPrefix, if_neg (by rw [hpre]; exact Bool.false_ne_true)]
    have hlt : s.data.toList.length = s.size := by rw [Array.length_toList]; rfl
    have hx : (c0 == 45) = false := by simp [h45]
    have HLN : Hid (∀ n, PN s.data.toList n → 1 ≤ s.size ∧ s.size ≤ 18) := Lib.hid (fun n h => by rw [← hlt, ht]; exact PN_len h)
    by_cases h18 : 1 ≤ s.size ∧ s.size ≤ 18
    case neg =>
      have HR := Lib.hid (RN_no (l := s.data.toList) (v := 0) (fun n hn => h18 (by have := HLN.out n hn; omega)))
      clear HLN ht hlt hpre HC0
      by_cases hlo : 1 ≤ s.size
      · have hhi : 18 < s.size := by omega
        clear h18
        go_enter Tryz.func21, Tryz.ntmps21
        go_wp2
        go_ret2
        exact ⟨⟨_, _, rfl, HR.out⟩, (by repeat' (first | (with_reducible exact Below.refl _ _) | (with_reducible assumption) | (with_reducible refine Base.grow_alloc ?_ _) | (with_reducible refine Base.below_drewN ?_ _) | (with_reducible refine Below.drew ?_) | (with_reducible refine Below.setCell ?_ ?_ _) | go_size))⟩
      · exact absurd h0 hlo
    obtain ⟨hlo, hhi⟩ := h18
    have HT := Lib.hid ht
    have HPRE := Lib.hid hpre
    have HDG : Hid (∀ n, PN s.data.toList n → ∀ c ∈ s.data.toList, dgB c = true) := Lib.hid (fun n h => by rw [ht]; exact (PN_val h).2)
    clear HLN ht hpre HC0
    go_enter Tryz.func21, Tryz.ntmps21
    go_wp2
    go_loopw [5, 6] (fun v i wr => ∃ k : Nat, k ≤ s.size ∧ i = .int .i64 k ∧ v = .int .i64 ((valF 0 (s.data.toList.take k) : Nat) : Int) ∧ Hid (∀ c ∈ s.data.toList.take k, dgB c = true) ∧ wr = w) (fun _ i _ => s.size - (intOf i).toNat)
    case atStart => exact ⟨0, Nat.zero_le _, rfl, rfl, (show ∀ c ∈ ([] : List UInt8), dgB c = true from fun c h => by cases h), rfl⟩
    case round =>
      obtain ⟨k, hk, rfl, rfl, hdg, rfl⟩ := hrel
      by_cases hk2 : k < s.size
      · obtain ⟨c, hc, hcv⟩ := by8_list hk2
        obtain ⟨x, hx8⟩ : ∃ x, by8 s k = x := ⟨_, rfl⟩
        have gk : (((s[k]'hk2).toNat : Nat) : Int) = x := (by8_eq hk2).trans hx8
        rw [hx8] at hcv
        clear hx8
        by_cases hd : 48 ≤ x ∧ x ≤ 57
        · obtain ⟨d0, d1⟩ := hd
          have hV := valF_lt0 hdg.out (k := k) (by rw [List.length_take]; exact Nat.min_le_left _ _)
          have hV17 := pow18 (k := k) (by omega)
          have HV := Lib.hid (val_step hc)
          have HG := Lib.hid (dg_step hc hdg.out (dgB_iff.2 (by omega)))
          have HDI : Hid (∀ W : World, Calls Tryz.prog 39 #[.int .u8 x] W fun e w' => e = .returned (.bool true) ∧ W = w') := Lib.hid (fun W => by have h := Name.c_l01Digit x W; rw [show (decide (48 ≤ x) && decide (x ≤ 57)) = true by simp [d0, d1]] at h; exact h)
          have HCV := Lib.hid hcv
          clear hcv hc hdg
          generalize valF 0 (s.data.toList.take k) = V at *
          have hV2 : V < 100000000000000000 := by omega
          clear hV hV17
          go_wp2_with (first | (go_at_call 39; refine (HDI.out _).mono ?_; rintro e w' ⟨rfl, rfl⟩))
          go_roundw
          case rel => exact ⟨k + 1, by omega, by go_num, congrArg (Value.int .i64) (by have h1 := HV.out; have h2 := HCV.out; rw [h1]; omega), HG.out, trivial⟩
          case measure => simp [intOf]; omega
        · have HR := Lib.hid (RN_no (l := s.data.toList) (v := 0) (fun n hn => hd (by have h1 := dgB_iff.1 (HDG.out n hn c (List.mem_of_getElem? hc)); omega)))
          have HDI : Hid (∀ W : World, Calls Tryz.prog 39 #[.int .u8 x] W fun e w' => e = .returned (.bool false) ∧ W = w') := Lib.hid (fun W => by have h := Name.c_l01Digit x W; rw [show (decide (48 ≤ x) && decide (x ≤ 57)) = false by rw [Bool.and_eq_false_iff, decide_eq_false_iff_not, decide_eq_false_iff_not]; omega] at h; exact h)
          clear hcv hc hdg hd
          go_wp2_with (first | (go_at_call 39; refine (HDI.out _).mono ?_; rintro e w' ⟨rfl, rfl⟩))
          go_ret2
          exact ⟨⟨_, _, rfl, HR.out⟩, (by repeat' (first | (with_reducible exact Below.refl _ _) | (with_reducible assumption) | (with_reducible refine Base.grow_alloc ?_ _) | (with_reducible refine Base.below_drewN ?_ _) | (with_reducible refine Below.drew ?_) | (with_reducible refine Below.setCell ?_ ?_ _) | go_size))⟩
      · obtain rfl : k = s.size := by omega
        have htk : s.data.toList.take s.size = s.data.toList := List.take_of_length_le (by omega)
        rw [htk] at hdg ⊢
        obtain ⟨ny, nn, nb0, nb1⟩ := num_end (v := ((valF 0 s.data.toList : Nat) : Int)) HT.out (by omega) hdg.out (by rw [HPRE.out]; rfl)
        have hVB := valF_lt0 hdg.out (k := 18) (by omega)
        have hV18 := pow18' (Nat.le_refl 18)
        clear hdg htk
        generalize valF 0 s.data.toList = V at *
        have hV2 : V < 1000000000000000000 := by omega
        clear hVB hV18
        have HD : Hid (∀ W : World, Calls Tryz.prog 40 #[.int .i64 (V : Int)] W fun e w' => e = .returned (.string ⟨(Lib.itoa (V : Int)).toArray⟩) ∧ Below W.heap.size W w') := Lib.hid (fun W => c_l01Dec (V : Int) W (by omega) (by omega))
        by_cases heq : Lib.itoa (V : Int) = s.data.toList
        · have HR := Lib.hid (ny heq)
          have hcmp : ((⟨(Lib.itoa (V : Int)).toArray⟩ : ByteArray).toList == s.toList) = true := bts_yes (by simpa using heq)
          clear heq ny nn
          generalize (⟨(Lib.itoa (V : Int)).toArray⟩ : ByteArray) = VS at *
          go_wp2_with (first | (go_at_call 40; refine (HD.out _).mono ?_; rintro e w1 ⟨rfl, hb1⟩; obtain ⟨chb1, fhb1⟩ := Base.bcell hb1; have zhb1 := (hb1).size; (try simp at zhb1); (try have yhb1 : w.heap.size < (w1).heap.size := by omega)))
          go_ret2
          exact ⟨⟨_, _, rfl, HR.out⟩, (by repeat' (first | (with_reducible exact Below.refl _ _) | (with_reducible assumption) | (with_reducible refine Base.via hb1 ?_) | (with_reducible refine Base.grow_alloc ?_ _) | (with_reducible refine Base.below_drewN ?_ _) | (with_reducible refine Below.drew ?_) | (with_reducible refine Below.setCell ?_ ?_ _) | go_size))⟩
        · have HR := Lib.hid (nn heq)
          have hcmp : ((⟨(Lib.itoa (V : Int)).toArray⟩ : ByteArray).toList == s.toList) = false := bts_no (by simpa using heq)
          clear heq ny nn
          generalize (⟨(Lib.itoa (V : Int)).toArray⟩ : ByteArray) = VS at *
          go_wp2_with (first | (go_at_call 40; refine (HD.out _).mono ?_; rintro e w1 ⟨rfl, hb1⟩; obtain ⟨chb1, fhb1⟩ := Base.bcell hb1; have zhb1 := (hb1).size; (try simp at zhb1); (try have yhb1 : w.heap.size < (w1).heap.size := by omega)))
          go_ret2
          exact ⟨⟨_, _, rfl, HR.out⟩, (by repeat' (first | (with_reducible exact Below.refl _ _) | (with_reducible assumption) | (with_reducible refine Base.via hb1 ?_) | (with_reducible refine Base.grow_alloc ?_ _) | (with_reducible refine Base.below_drewN ?_ _) | (with_reducible refine Below.drew ?_) | (with_reducible refine Below.setCell ?_ ?_ _) | go_size))⟩
end Go.Proofs.YthojfmlnnclghaaGreatDoor.Rd
