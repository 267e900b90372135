/- Reading a number: the program's ReadDecimal and the reference's. -/
import Derived.Test.YthojfmlnnclghaaGreatDoorRdW
import Derived.Test.YthojfmlnnclghaaGreatDoorTxt
import Derived.Test.YthojfmlnnclghaaGreatDoorOne
import Derived.Deep.RegionHeld3
namespace Go.Proofs.YthojfmlnnclghaaGreatDoor.Rd
set_option linter.unusedVariables false
set_option linter.unusedSimpArgs false
set_option maxRecDepth 8000
open Go.RowKit Plain Num View Dec Txt

/-- what the walks want of the world -/
def Tz (w : World) : Prop := Tb w ∧ (∃ m, w.cell? ⟨0, 0, none⟩ = some (.int .i64 m)) ∧ (∃ ev, w.cell? ⟨1, 0, none⟩ = some ev ∧ (ev = .nilIface ∨ ∃ te pe, ev = .iface te pe)) ∧ (∃ ev, w.cell? ⟨2, 0, none⟩ = some ev ∧ (ev = .nilIface ∨ ∃ te pe, ev = .iface te pe))
theorem Tz.below {w w' : World} (h : Tz w) (hb : Below w.heap.size w w') : Tz w' := by
  obtain ⟨h1, ⟨m, h2⟩, ⟨e1, h3, h4⟩, ⟨e2, h5, h6⟩⟩ := h
  exact ⟨h1.below hb, ⟨m, cell_call hb h2⟩, ⟨e1, cell_call hb h3, h4⟩, ⟨e2, cell_call hb h5, h6⟩⟩
theorem bts_no {a b : ByteArray} (h : ¬ a.data.toList = b.data.toList) : (a.toList == b.toList) = false := by
  rw [Es1.bts_eq]
  simp only [decide_eq_false_iff_not]
  rintro rfl
  exact h rfl
theorem bts_yes {a b : ByteArray} (h : a.data.toList = b.data.toList) : (a.toList == b.toList) = true := by
  rw [Es1.bts_eq]
  simp only [decide_eq_true_eq]
  exact ByteArray.ext (Array.toList_inj.1 h)
theorem below_bytes (w : World) (e : TypeId) (t : ByteArray) : Below w.heap.size w (Lib.bytesWorld w e t) :=
  Lib.below_freeze (((Below.refl _ w).drew).alloc (Nat.le_refl _) _) (Nat.le_refl _) _
/-- a reader's answer -/
def RNr (l : List UInt8) (r : Ending) : Prop := ∃ v b, r = .returned (.tuple #[.int .i64 v, .bool b]) ∧ RN l v b
set_option maxHeartbeats 1600000 in
theorem c_ReadDecimal (s : ByteArray) (w : World) (hz : Tz w) (hs : s.size ≤ 1048576) :
    Calls Tryz.prog 15 #[.string s] w fun r w' => RNr s.data.toList r ∧ Below w.heap.size w w' := by
  obtain ⟨T, hT⟩ : ∃ T, Lib.trimPrefix s.data.toList [45] = T := ⟨_, rfl⟩
  have HTr : Hid (∀ W : World, Calls Tryz.prog 28 #[.string s, .string ⟨#[45]⟩] W fun e w' => e = .returned (.string ⟨T.toArray⟩) ∧ W = w') := Lib.hid (fun W => (Tryz.strings_TrimPrefix s ⟨#[45]⟩ W).mono (fun e w' h => ⟨by rw [h.1]; simp only [hT], h.2.symm⟩))
  have hl : (⟨T.toArray⟩ : ByteArray).size = T.length := Txt.size_l T
  have hlen : ∀ n, PN s.data.toList n → 1 ≤ T.length ∧ T.length ≤ 18 := fun n h => hT ▸ PN_len h
  by_cases h1 : T.length < 1
  · have HN := Lib.hid (fun n (h : PN s.data.toList n) => by have := hlen n h; omega : ∀ n, ¬ PN s.data.toList n)
    clear hlen
    generalize (⟨T.toArray⟩ : ByteArray) = TS at *
    go_enter Tryz.func15, Tryz.ntmps15
    go_wp2_with (first | (go_at_call 28; refine (HTr.out _).mono ?_; rintro e w' ⟨rfl, rfl⟩))
    go_ret2
    exact ⟨⟨_, _, rfl, RN_no HN.out⟩, (by repeat' (first | (with_reducible exact Below.refl _ _) | (with_reducible assumption) | (with_reducible refine Base.grow_alloc ?_ _) | (with_reducible refine Base.below_drewN ?_ _) | (with_reducible refine Below.drew ?_) | (with_reducible refine Below.setCell ?_ ?_ _) | go_size))⟩
  by_cases h18 : 18 < T.length
  · have HN := Lib.hid (fun n (h : PN s.data.toList n) => by have := hlen n h; omega : ∀ n, ¬ PN s.data.toList n)
    clear hlen
    generalize (⟨T.toArray⟩ : ByteArray) = TS at *
    go_enter Tryz.func15, Tryz.ntmps15
    go_wp2_with (first | (go_at_call 28; refine (HTr.out _).mono ?_; rintro e w' ⟨rfl, rfl⟩))
    go_ret2
    exact ⟨⟨_, _, rfl, RN_no HN.out⟩, (by repeat' (first | (with_reducible exact Below.refl _ _) | (with_reducible assumption) | (with_reducible refine Base.grow_alloc ?_ _) | (with_reducible refine Base.below_drewN ?_ _) | (with_reducible refine Below.drew ?_) | (with_reducible refine Below.setCell ?_ ?_ _) | go_size))⟩
  clear hlen
  have HT18 := Lib.hid (show (Lib.trimPrefix s.data.toList [45]).length ≤ 18 by rw [hT]; omega)
  generalize (⟨T.toArray⟩ : ByteArray) = TS at *
  obtain ⟨htb, _, ⟨e1, hv1, he1⟩, ⟨e2, hv2, he2⟩⟩ := hz
  rcases hp : Lib.parseIntB 64 s.data.toList with v | _ | _
  · skip
    have hb := Lib.parseIntB_bounds hp
    have hb0 : -9223372036854775808 ≤ v := hb.1
    have hb1' : v < 9223372036854775808 := hb.2
    have HPI : Hid (∀ W : World, Calls Tryz.prog 29 #[.string s, .int .i64 10, .int .i64 64] W fun e w' => e = .returned (.tuple #[.int .i64 v, .nilIface]) ∧ Below W.heap.size W w') := Lib.hid (fun W => (Tryz.strconv_ParseInt_10_at64_ok s (by omega) v hp W).mono (fun e w' h => ⟨h.1, by rcases h.2 with rfl | ⟨t, rfl⟩; exact Below.refl _ _; exact below_bytes _ _ _⟩))
    have HD : Hid (∀ W : World, Tb W → Calls Tryz.prog 30 #[.int .i64 v] W fun e w' => e = .returned (.string ⟨(Lib.itoa v).toArray⟩) ∧ Below W.heap.size W w') := Lib.hid (fun W h => c_Decimal v W h hb0 (by omega))
    have HTB := Lib.hid htb
    by_cases heq : Lib.itoa v = s.data.toList
    · have HR := Lib.hid (RN_yes (l := s.data.toList) (v := v) ⟨⟨hb0, by omega⟩, heq.symm, HT18.out⟩)
      have hcmp : ((⟨(Lib.itoa v).toArray⟩ : ByteArray).toList == s.toList) = true := bts_yes (by simpa using heq)
      clear heq hp hb
      generalize (⟨(Lib.itoa v).toArray⟩ : ByteArray) = VS at *
      go_enter Tryz.func15, Tryz.ntmps15
      go_wp2_with (first | (go_at_call 28; refine (HTr.out _).mono ?_; rintro e w' ⟨rfl, rfl⟩) | (go_at_call 29; refine (HPI.out _).mono ?_; rintro e w1 ⟨rfl, hb1⟩; obtain ⟨chb1, fhb1⟩ := Base.bcell hb1; have zhb1 := (hb1).size; (try simp at zhb1); (try have yhb1 : w.heap.size < (w1).heap.size := by omega)) | (go_at_call 30; refine (HD.out _ (HTB.out.below (by repeat' (first | (with_reducible exact Below.refl _ _) | (with_reducible assumption) | (with_reducible refine Base.via hb1 ?_) | (with_reducible refine Base.grow_alloc ?_ _) | (with_reducible refine Base.below_drewN ?_ _) | (with_reducible refine Below.drew ?_) | (with_reducible refine Below.setCell ?_ ?_ _) | go_size)))).mono ?_; rintro e w2 ⟨rfl, hb2⟩; obtain ⟨chb2, fhb2⟩ := Base.bcell hb2; have zhb2 := (hb2).size; (try simp at zhb2); (try have yhb2 : w.heap.size < (w2).heap.size := by omega)))
      go_ret2
      exact ⟨⟨_, _, rfl, HR.out⟩, (by repeat' (first | (with_reducible exact Below.refl _ _) | (with_reducible assumption) | (with_reducible refine Base.via hb2 ?_) | (with_reducible refine Base.via hb1 ?_) | (with_reducible refine Base.grow_alloc ?_ _) | (with_reducible refine Base.below_drewN ?_ _) | (with_reducible refine Below.drew ?_) | (with_reducible refine Below.setCell ?_ ?_ _) | go_size))⟩
    · have HR := Lib.hid (RN_no (l := s.data.toList) (v := 0) (fun n hn => by
        have e := PN_parse hn
        rw [hp] at e
        exact heq ((Lib.NumEnd.ok.inj e) ▸ hn.2.1.symm)))
      have hcmp : ((⟨(Lib.itoa v).toArray⟩ : ByteArray).toList == s.toList) = false := bts_no (by simpa using heq)
      clear heq hp hb
      generalize (⟨(Lib.itoa v).toArray⟩ : ByteArray) = VS at *
      go_enter Tryz.func15, Tryz.ntmps15
      go_wp2_with (first | (go_at_call 28; refine (HTr.out _).mono ?_; rintro e w' ⟨rfl, rfl⟩) | (go_at_call 29; refine (HPI.out _).mono ?_; rintro e w1 ⟨rfl, hb1⟩; obtain ⟨chb1, fhb1⟩ := Base.bcell hb1; have zhb1 := (hb1).size; (try simp at zhb1); (try have yhb1 : w.heap.size < (w1).heap.size := by omega)) | (go_at_call 30; refine (HD.out _ (HTB.out.below (by repeat' (first | (with_reducible exact Below.refl _ _) | (with_reducible assumption) | (with_reducible refine Base.via hb1 ?_) | (with_reducible refine Base.grow_alloc ?_ _) | (with_reducible refine Base.below_drewN ?_ _) | (with_reducible refine Below.drew ?_) | (with_reducible refine Below.setCell ?_ ?_ _) | go_size)))).mono ?_; rintro e w2 ⟨rfl, hb2⟩; obtain ⟨chb2, fhb2⟩ := Base.bcell hb2; have zhb2 := (hb2).size; (try simp at zhb2); (try have yhb2 : w.heap.size < (w2).heap.size := by omega)))
      go_ret2
      exact ⟨⟨_, _, rfl, HR.out⟩, (by repeat' (first | (with_reducible exact Below.refl _ _) | (with_reducible assumption) | (with_reducible refine Base.via hb2 ?_) | (with_reducible refine Base.via hb1 ?_) | (with_reducible refine Base.grow_alloc ?_ _) | (with_reducible refine Base.below_drewN ?_ _) | (with_reducible refine Below.drew ?_) | (with_reducible refine Below.setCell ?_ ?_ _) | go_size))⟩
  · skip
    have HR := Lib.hid (RN_no (l := s.data.toList) (v := 0) (fun n hn => by have e := PN_parse hn; rw [hp] at e; cases e))
    have HPI : Hid (Calls Tryz.prog 29 #[.string s, .int .i64 10, .int .i64 64] w fun e w' => ∃ N, e = .returned (.tuple #[.int .i64 0, .iface 89 (.pointer (some ⟨N, 0, none⟩))]) ∧ Below w.heap.size w w') := Lib.hid ((show Calls Tryz.prog 29 #[.string s, .int .i64 10, .int .i64 64] w _ from Any.strconv_ParseInt_10_at64_syntax Tryz.laysC174 s (by omega) hp e1 w hv1 he1).mono (fun e w' h => by obtain ⟨N, h1, _, _, h4⟩ := h; exact ⟨N, h1, h4⟩))
    clear hp hv1 hv2 he1 he2 htb HT18
    go_enter Tryz.func15, Tryz.ntmps15
    go_wp2_with (first | (go_at_call 28; refine (HTr.out _).mono ?_; rintro e w' ⟨rfl, rfl⟩) | (go_at_call 29; refine HPI.out.mono ?_; rintro e w1 ⟨N, rfl, hb1⟩))
    go_ret2
    exact ⟨⟨_, _, rfl, HR.out⟩, (by repeat' (first | (with_reducible exact Below.refl _ _) | (with_reducible assumption) | (with_reducible refine Base.via hb1 ?_) | (with_reducible refine Base.grow_alloc ?_ _) | (with_reducible refine Base.below_drewN ?_ _) | (with_reducible refine Below.drew ?_) | (with_reducible refine Below.setCell ?_ ?_ _) | go_size))⟩
  · skip
    have HR := Lib.hid (RN_no (l := s.data.toList) (v := 0) (fun n hn => by have e := PN_parse hn; rw [hp] at e; cases e))
    have HPI : Hid (Calls Tryz.prog 29 #[.string s, .int .i64 10, .int .i64 64] w fun e w' => ∃ N, e = .returned (.tuple #[.int .i64 (Lib.intSat 64 s.data.toList), .iface 89 (.pointer (some ⟨N, 0, none⟩))]) ∧ Below w.heap.size w w') := Lib.hid ((Tryz.strconv_ParseInt_10_at64_range s (by omega) hp e2 w hv2 he2).mono (fun e w' h => by obtain ⟨N, h1, _, _, h4⟩ := h; exact ⟨N, h1, h4⟩))
    clear hp hv1 hv2 he1 he2 htb HT18
    generalize Lib.intSat 64 s.data.toList = sv at *
    go_enter Tryz.func15, Tryz.ntmps15
    go_wp2_with (first | (go_at_call 28; refine (HTr.out _).mono ?_; rintro e w' ⟨rfl, rfl⟩) | (go_at_call 29; refine HPI.out.mono ?_; rintro e w1 ⟨N, rfl, hb1⟩))
    go_ret2
    exact ⟨⟨_, _, rfl, HR.out⟩, (by repeat' (first | (with_reducible exact Below.refl _ _) | (with_reducible assumption) | (with_reducible refine Base.via hb1 ?_) | (with_reducible refine Base.grow_alloc ?_ _) | (with_reducible refine Base.below_drewN ?_ _) | (with_reducible refine Below.drew ?_) | (with_reducible refine Below.setCell ?_ ?_ _) | go_size))⟩
end Go.Proofs.YthojfmlnnclghaaGreatDoor.Rd
