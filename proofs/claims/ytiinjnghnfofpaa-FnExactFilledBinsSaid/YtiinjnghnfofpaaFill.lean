/- The number of bins with points. -/
import Derived.Test.YtiinjnghnfofpaaDisp2
import Derived.Test.YtiinjnghnfofpaaPut
import Derived.Test.YtiinjnghnfofpaaChosen
namespace Go.Proofs.Ytiinjnghnfofpaa.Fill
set_option linter.unusedVariables false
set_option linter.unusedSimpArgs false
set_option maxRecDepth 8000
open Go.RowKit Go.Shelf Plain Num View Mags Curve Bins DisB Disp Put Idx

theorem anyB_succ (n : Nat) (p : Nat → Bool) : anyB (n + 1) p = (anyB n p || p n) := by
  cases h : anyB n p || p n
  · rw [Bool.or_eq_false_iff] at h
    exact anyB_false.2 fun i hi => by
      by_cases e : i = n
      · subst e; exact h.2
      · exact anyB_false.1 h.1 i (by omega)
  · rw [Bool.or_eq_true] at h
    rcases h with h | h
    · obtain ⟨i, hi, hp⟩ := anyB_iff.1 h
      exact anyB_iff.2 ⟨i, by omega, hp⟩
    · exact anyB_iff.2 ⟨n, by omega, h⟩
/-- bin x has a point among the first n -/
def hasP (n : Nat) (B : Nat → Int) (x : Nat) : Bool := anyB n (fun j => B j == (x : Int))
def setL (m n : Nat) (B : Nat → Int) : List Int := sel m (hasP n B) toI
theorem setL_len (m n : Nat) (B : Nat → Int) : (setL m n B).length ≤ m := sel_len
theorem setL_next {m n : Nat} {B : Nat → Int} {x : Nat} (hx : x < m) (h : B n = (x : Int)) : putF (setL m n B) (x : Int) = setL m (n + 1) B := by
  rw [setL, putF_sel hx, setL]
  exact sel_congr fun i _ => ⟨by
    rw [hasP, hasP, anyB_succ, h]
    congr 1
    rw [Bool.eq_iff_iff]
    simp only [beq_iff_eq]
    omega, rfl⟩
theorem bl_has (n : Nat) (B M : Nat → Int) (x : Nat) : decide (0 < (bl n B M x).length) = hasP n B x := by
  induction n with
  | zero => rfl
  | succ n ih =>
    rw [hasP, anyB_succ, ← hasP, ← ih, bl_succ]
    by_cases h : B n = (x : Int)
    · simp [h]
    · simp [h]
theorem sel_len_congr {α β : Type} {k : Nat} {P P' : Nat → Bool} {g : Nat → α} {g' : Nat → β} (h : ∀ i, i < k → P i = P' i) : (sel k P g).length = (sel k P' g').length := by
  induction k with
  | zero => rfl
  | succ k ih =>
    rw [sel, sel, List.length_append, List.length_append, ih (fun i hi => h i (by omega)), h k (by omega)]
    split <;> rfl
def filV (n : Nat) (T M : Nat → Int) (p b : Int) : Int := if binCode n T M p b = 0 then ((setL b.toNat n (binV T p b)).length : Int) else 0
theorem take_next {L : List Int} {k : Nat} (h : k < L.length) : L.take (k + 1) = L.take k ++ [lf L k] := by
  rw [List.take_succ_eq_append_getElem h]
  simp [lf, h]
theorem putO_len (L : List Int) (x : Int) : (putO L x).length ≤ L.length + 1 := by
  induction L with
  | nil => simp [putO]
  | cons y L ih =>
    rw [putO]
    split
    · split <;> simp
    · simp; omega
set_option maxHeartbeats 800000 in
theorem c_chosenS (q m c : Nat) (gs : Nat → Value) (g : Nat) (lb : Array Value) (p : Nat → Bool) (w : World) (eg : ∀ args w, (callFunc g args).run Try.prog w = .ok (.enter g args) w)
    (hv : Sl w 1 (some ⟨q, 0, none⟩) m c (fun i _ => gs i)) (h1 : ∀ i, i < m → ∃ A l c, gs i = .slice A l c) (hp : Pred Try.prog w g lb m gs p) :
    Calls Try.prog 63 #[.slice (some ⟨q, 0, none⟩) m c, .func (.func g) #[] lb] w fun e w' => ∃ A c', e = .returned (.slice A (sel m p gs).length c') ∧ Below w.heap.size w w' := by
  have hn := hv.le
  have HP := Lib.hid hp
  have H1 := Lib.hid h1
  clear hp h1
  obtain ⟨i0, hi0, hz0, hz1, hz2⟩ := info_parts infoS
  go_enter Try.func63, Try.ntmps63
  go_wp2
  go_loopw [5, 7, 11] (fun v _ i wr => ∃ k : Nat, k ≤ m ∧ i = .int .i64 k ∧ wr.ownsRow w.heap.size 46 1 v (sel k p gs).length (sel k p gs) ∧ Below w.heap.size w wr) (fun _ _ i _ => m - (intOf i).toNat)
  case atStart => exact ⟨0, Nat.zero_le _, rfl, World.ownsRow_made _ _ _ (by omega) (by simp [maxLen]) rfl, (by repeat' (first | (with_reducible exact Below.refl _ _) | (with_reducible assumption) | (with_reducible refine Base.grow_alloc ?_ _) | (with_reducible refine Base.below_drewN ?_ _) | (with_reducible refine Below.drew ?_) | (with_reducible refine Below.setCell ?_ ?_ _) | go_size))⟩
  case round =>
    obtain ⟨k, hk, rfl, hown, hbr⟩ := hrel
    have hz := hbr.size
    have hl := sel_len (k := k) (P := p) (g := gs)
    by_cases hlt : k < m
    · obtain ⟨b, off, e0, hb, hc⟩ := (hv.below hbr).at_ (by omega)
      injection e0 with e0
      injection e0 with e1 e2
      subst e1; subst e2
      have h0 : wr.cell? ⟨q, k, none⟩ = some (gs k) := by have := hc k hlt 0 (by omega); simpa using this
      have hcall := HP.out wr hbr k hlt
      obtain ⟨Ak, lk, ck, hgk⟩ := H1.out k hlt
      rw [hgk] at h0 hcall
      have HGK := Lib.hid hgk
      clear hgk
      clear hc
      cases hq : p k with
      | true =>
        rw [hq] at hcall
        have HQ := Lib.hid (sel_yes (g := gs) hq)
        clear hq
        go_wp2_with (first | (go_at_fn g; refine hcall.mono ?_; rintro e w1 ⟨rfl, hb1⟩; have zz := hb1.size) | (at_builtin; refine wpList_append_own _ rfl _ _ 82 rfl (w.heap.size) 46 i0 _ 1 24 Try.underlying82 hi0 hz0 hz1 hz2 rfl (by decide) _ _ _ rfl (own_of_below hown (by repeat' (first | (with_reducible exact Below.refl _ _) | (with_reducible assumption) | (with_reducible refine Base.via hb1 ?_) | (with_reducible refine Base.grow_alloc ?_ _) | (with_reducible refine Base.below_drewN ?_ _) | (with_reducible refine Below.drew ?_) | (with_reducible refine Below.setCell ?_ ?_ _) | go_size))) ⟨_, 0, none⟩ 1 1 [.slice Ak lk ck] rfl rfl (cell_newL _ [.slice Ak lk ck] _ (by simp)) (by simp [Value.oneCell']) (by simp only [maxLen]; omega) (by omega) (by simp; omega) ?_))
        intro v' w2 hown' hgrow _
        have hb2 : Below w.heap.size w w2 := own_grow (by repeat' (first | (with_reducible exact Below.refl _ _) | (with_reducible assumption) | (with_reducible refine Base.via hb1 ?_) | (with_reducible refine Base.grow_alloc ?_ _) | (with_reducible refine Base.below_drewN ?_ _) | (with_reducible refine Below.drew ?_) | (with_reducible refine Below.setCell ?_ ?_ _) | go_size)) hown (Nat.le_refl _) hgrow
        clear hown hgrow
        go_wp2
        go_roundw
        case rel => exact ⟨k + 1, by omega, by go_num, by rw [HQ.out, HGK.out]; simpa using hown', hb2⟩
        case measure => simp [intOf]; omega
      | false =>
        rw [hq] at hcall
        have HQ := Lib.hid (sel_no (g := gs) hq)
        clear hq
        go_wp2_with (go_at_fn g; refine hcall.mono ?_; rintro e w1 ⟨rfl, hb1⟩)
        go_roundw
        case rel => exact ⟨k + 1, by omega, by go_num, by rw [HQ.out]; exact own_of_below hown hb1, (by repeat' (first | (with_reducible exact Below.refl _ _) | (with_reducible assumption) | (with_reducible refine Base.via hb1 ?_) | (with_reducible refine Base.grow_alloc ?_ _) | (with_reducible refine Base.below_drewN ?_ _) | (with_reducible refine Below.drew ?_) | (with_reducible refine Below.setCell ?_ ?_ _) | go_size))⟩
        case measure => simp [intOf]; omega
    · have hkn : k = m := by omega
      subst hkn
      obtain ⟨A', c', rfl⟩ : ∃ A' c', u5 = .slice A' (sel k p gs).length c' := by
        rcases hown.2 with ⟨h, h2⟩ | ⟨g', cap, cur, h, _⟩
        · exact ⟨none, 0, by rw [h, h2]⟩
        · exact ⟨_, _, h⟩
      go_wp2
      go_ret
      exact ⟨_, _, rfl, hbr⟩
theorem c_fill1 (A : Option Addr) (n c : Nat) (w : World) (hn : n ≤ 1048576) : Calls Try.prog 65 #[.slice A n c] w fun e w' => e = .returned (.bool (decide (0 < n))) ∧ Below w.heap.size w w' := by
  by_cases h : 0 < n
  · go_enter Try.func65, Try.ntmps65
    go_wp2
    go_ret
    exact ⟨ret_bool (by simp [h]), (by repeat' (first | (with_reducible exact Below.refl _ _) | (with_reducible assumption) | (with_reducible refine Base.grow_alloc ?_ _) | (with_reducible refine Base.below_drewN ?_ _) | (with_reducible refine Below.drew ?_) | (with_reducible refine Below.setCell ?_ ?_ _) | go_size))⟩
  · obtain rfl : n = 0 := by omega
    go_enter Try.func65, Try.ntmps65
    go_wp2
    go_ret
    exact ⟨rfl, (by repeat' (first | (with_reducible exact Below.refl _ _) | (with_reducible assumption) | (with_reducible refine Base.grow_alloc ?_ _) | (with_reducible refine Base.below_drewN ?_ _) | (with_reducible refine Below.drew ?_) | (with_reducible refine Below.setCell ?_ ?_ _) | go_size))⟩
theorem c_countS (A : Option Addr) (n c : Nat) (w : World) (hn : n ≤ 1048576) : Calls Try.prog 62 #[.slice A n c] w fun e w' => e = .returned (.int .i64 n) ∧ w = w' := by
  go_enter Try.func62, Try.ntmps62
  go_wp2
  go_ret
  exact ⟨rfl, rfl⟩
set_option maxHeartbeats 800000 in
theorem c_FilledBins (A : Option Addr) (n c : Nat) (T M : Nat → Int) (p b : Int) (w : World) (hv : Sl w 2 A n c (f2 T M)) :
    Calls Try.prog 18 #[.slice A n c, .int .i64 p, .int .i64 b] w fun e w' => e = .returned (.tuple #[.int .i64 (filV n T M p b), .int .i64 (binCode n T M p b)]) ∧ Below w.heap.size w w' := by
  by_cases hbc : binCode n T M p b = 0
  · obtain ⟨hok, hp, hb⟩ := dsp_ok hbc
    obtain ⟨h100, hT, hM, _⟩ := Curve2.okCurve_bd hok
    obtain ⟨m, rfl⟩ : ∃ m : Nat, b = m := ⟨b.toNat, by omega⟩
    have hm : 1 ≤ m ∧ m ≤ 20 := by omega
    have HT := Lib.hid hT
    have HV := Lib.hid (show filV n T M p m = ((setL m n (binV T p m)).length : Int) by rw [filV, if_pos hbc, Int.toNat_natCast])
    have HC := Lib.hid hbc
    have eg : ∀ args w, (callFunc 65 args).run Try.prog w = .ok (.enter 65 args) w := enters_of Try.func65 (by kernel_rfl) rfl
    clear hT hM hok
    go_enter Try.func18, Try.ntmps18
    go_wp2_with (first | (go_at_call 61; refine (c_binnable _ _ _ T M _ _ _ (hv.below (by repeat' (first | (with_reducible exact Below.refl _ _) | (with_reducible assumption) | (with_reducible refine Base.grow_alloc ?_ _) | (with_reducible refine Base.below_drewN ?_ _) | (with_reducible refine Below.drew ?_) | (with_reducible refine Below.setCell ?_ ?_ _) | go_size)))).mono ?_; rintro e w1 ⟨rfl, hb1⟩; obtain ⟨chb1, fhb1⟩ := Base.bcell hb1; have zhb1 := (hb1).size; (try simp at zhb1); (try have yhb1 : w.heap.size < (w1).heap.size := by omega)) | (go_at_call 64; refine (c_sorted _ n _ m T M p _ (hv.below (by repeat' (first | (with_reducible exact Below.refl _ _) | (with_reducible assumption) | (with_reducible refine Base.via hb1 ?_) | (with_reducible refine Base.grow_alloc ?_ _) | (with_reducible refine Base.below_drewN ?_ _) | (with_reducible refine Below.drew ?_) | (with_reducible refine Below.setCell ?_ ?_ _) | go_size))) h100 HT.out hp hm).mono ?_))
    rintro e w2 ⟨q, g, B, rfl, hbin, hb2⟩
    have HG := Lib.hid (show ∀ i, i < m → ∃ A c, g i = .slice A (bl n (binV T p m) M i).length c from fun i hi => by
      obtain ⟨A', c', e, _⟩ := hbin.sl hi (by have := bl_len n (binV T p m) M i; omega)
      exact ⟨A', c', e⟩)
    have HLEN := Lib.hid (show (sel m (fun i => decide (0 < (bl n (binV T p m) M i).length)) g).length = (setL m n (binV T p m)).length from sel_len_congr fun i _ => bl_has n _ M i)
    have hsl := setL_len m n (binV T p m)
    have hpred : Pred Try.prog w2 65 #[] m g (fun i => decide (0 < (bl n (binV T p m) M i).length)) := fun W _ i hi => by
      obtain ⟨A', c', e⟩ := HG.out i hi
      rw [e]
      exact c_fill1 _ _ _ _ (by have := bl_len n (binV T p m) M i; omega)
    have hout := hbin.outer (by omega)
    go_wp2_with (first | (go_at_call 63; refine (c_chosenS q m m g 65 #[] _ _ eg hout (fun i hi => by obtain ⟨A', c', e⟩ := HG.out i hi; exact ⟨_, _, _, e⟩) hpred).mono ?_))
    rintro e w3 ⟨A3, c3, rfl, hb3⟩
    rw [HLEN.out]
    go_wp2_with (first | (go_at_call 62; refine (c_countS _ _ _ _ (by omega)).mono ?_; rintro e w' ⟨rfl, rfl⟩))
    go_ret2
    exact ⟨Curve2.ret_pair HV.out.symm HC.out.symm, (by repeat' (first | (with_reducible exact Below.refl _ _) | (with_reducible assumption) | (with_reducible refine Base.via hb3 ?_) | (with_reducible refine Base.via hb2 ?_) | (with_reducible refine Base.via hb1 ?_) | (with_reducible refine Base.grow_alloc ?_ _) | (with_reducible refine Base.below_drewN ?_ _) | (with_reducible refine Below.drew ?_) | (with_reducible refine Below.setCell ?_ ?_ _) | go_size))⟩
  · have HV := Lib.hid (show filV n T M p b = 0 by rw [filV, if_neg hbc])
    have hq : (binCode n T M p b != 0) = true := by simpa using hbc
    go_enter Try.func18, Try.ntmps18
    go_wp2_with (first | (go_at_call 61; refine (c_binnable _ _ _ T M _ _ _ (hv.below (by repeat' (first | (with_reducible exact Below.refl _ _) | (with_reducible assumption) | (with_reducible refine Base.grow_alloc ?_ _) | (with_reducible refine Base.below_drewN ?_ _) | (with_reducible refine Below.drew ?_) | (with_reducible refine Below.setCell ?_ ?_ _) | go_size)))).mono ?_; rintro e w1 ⟨rfl, hb1⟩; obtain ⟨chb1, fhb1⟩ := Base.bcell hb1; have zhb1 := (hb1).size; (try simp at zhb1); (try have yhb1 : w.heap.size < (w1).heap.size := by omega)))
    go_ret2
    exact ⟨Curve2.ret_pair HV.out.symm rfl, (by repeat' (first | (with_reducible exact Below.refl _ _) | (with_reducible assumption) | (with_reducible refine Base.via hb1 ?_) | (with_reducible refine Base.grow_alloc ?_ _) | (with_reducible refine Base.below_drewN ?_ _) | (with_reducible refine Below.drew ?_) | (with_reducible refine Below.setCell ?_ ?_ _) | go_size))⟩
theorem put_yes {L : List Int} {x y : Int} (h : putD L x = false) (h1 : x < y) : putO (L ++ [y]) x = putO L x ++ [x] ++ [y] ∧ putD (L ++ [y]) x = true := by
  rw [putO_snoc, putStep, if_pos ⟨h, by omega⟩, if_pos h1, putD_snoc]
  refine ⟨rfl, ?_⟩
  simp; right; omega
theorem put_eq {L : List Int} {x : Int} (h : putD L x = false) : putO (L ++ [x]) x = putO L x ++ [x] ∧ putD (L ++ [x]) x = true := by
  rw [putO_snoc, putStep, if_pos ⟨h, by omega⟩, if_neg (by omega), putD_snoc]
  refine ⟨rfl, ?_⟩
  simp
theorem put_no {L : List Int} {x y : Int} (h : putD L x = false) (h1 : ¬ x ≤ y) : putO (L ++ [y]) x = putO L x ++ [y] ∧ putD (L ++ [y]) x = false := by
  rw [putO_snoc, putStep, if_neg (fun q => h1 q.2), putD_snoc, h]
  refine ⟨rfl, ?_⟩
  simp; omega
theorem put_done {L : List Int} {x y : Int} (h : putD L x = true) : putO (L ++ [y]) x = putO L x ++ [y] ∧ putD (L ++ [y]) x = true := by
  rw [putO_snoc, putStep, if_neg (by simp [h]), putD_snoc, h]
  exact ⟨rfl, rfl⟩
set_option maxHeartbeats 1600000 in
theorem c_l00Put (A : Option Addr) (L : List Int) (n c : Nat) (x : Int) (w : World) (hn' : L.length = n) (h100 : n ≤ 1000) (hv : Sl w 1 A n c (f1 (lf L))) :
    Calls Try.prog 59 #[.slice A n c, .int .i64 x] w fun e w' => ∃ v, e = .returned v ∧ OwnK w' w.heap.size 2 1 v (putF L x).length (f1 (lf (putF L x))) ∧ Below w.heap.size w w' := by
  have hn := hv.le
  have HN := Lib.hid hn'
  clear hn'
  obtain ⟨i0, hi0, hz0, hz1, hz2⟩ := info_parts Disp.infoI
  go_enter Try.func59, Try.ntmps59
  go_wp2
  go_loopw [5, 6, 7] (fun v d i wr => ∃ (k : Nat) (fd : Bool) (R : List Int), k ≤ n ∧ i = .int .i64 k ∧ d = .bool fd ∧ Hid (fd = putD (L.take k) x) ∧ Hid (R = putO (L.take k) x) ∧ wr.ownsRow w.heap.size 2 1 v R.length (cellL R) ∧ Below w.heap.size w wr) (fun _ _ i _ => n - (intOf i).toNat)
  case atStart => exact ⟨0, false, [], Nat.zero_le _, rfl, rfl, (show false = putD (L.take 0) x from rfl), (show [] = putO (L.take 0) x from rfl), World.ownsRow_made _ _ _ (by omega) (by simp [maxLen]) rfl, (by repeat' (first | (with_reducible exact Below.refl _ _) | (with_reducible assumption) | (with_reducible refine Base.grow_alloc ?_ _) | (with_reducible refine Base.below_drewN ?_ _) | (with_reducible refine Below.drew ?_) | (with_reducible refine Below.setCell ?_ ?_ _) | go_size))⟩
  case round =>
    obtain ⟨k, fd, R, hk, rfl, rfl, hfd, hR, hown, hbr⟩ := hrel
    have hz := hbr.size
    have hRl : R.length ≤ k + 1 := by
      have h1 := putO_len (L.take k) x
      have h2 : (L.take k).length ≤ k := List.length_take_le _ _
      rw [hR.out]; omega
    by_cases hlt : k < n
    · obtain ⟨b, off, rfl, hb, hc⟩ := (hv.below hbr).at_ (by omega)
      have h0 := cells1 hc k hlt
      have hvb : b < w.heap.size := by
        obtain ⟨b', off', e0, hb', _⟩ := hv.at_ (by omega)
        injection e0 with e0; injection e0 with e1 e2; omega
      have HT := Lib.hid (take_next (L := L) (k := k) (by rw [HN.out]; exact hlt))
      obtain ⟨y, hy⟩ : ∃ y, y = lf L k := ⟨_, rfl⟩
      rw [← hy] at h0 HT
      clear hc hy
      cases fd with
      | false =>
        by_cases hxy : x ≤ y
        · by_cases hlt2 : x < y
          · obtain ⟨e1, e2⟩ := put_yes hfd.out.symm hlt2
            have E1 := Lib.hid (show R ++ [x] ++ [y] = putO (L.take (k + 1)) x by rw [HT.out, e1, hR.out])
            have E2 := Lib.hid (show true = putD (L.take (k + 1)) x by rw [HT.out, e2])
            clear e1 e2
            go_wp2_with (first | (at_builtin; refine wpList_append_own _ rfl _ _ 46 rfl (w.heap.size) 2 i0 _ 1 8 Try.underlying46 hi0 hz0 hz1 hz2 rfl (by decide) _ _ _ rfl (own_of_below hown (by repeat' (first | (with_reducible exact Below.refl _ _) | (with_reducible assumption) | (with_reducible refine Base.grow_alloc ?_ _) | (with_reducible refine Base.below_drewN ?_ _) | (with_reducible refine Below.drew ?_) | (with_reducible refine Below.setCell ?_ ?_ _) | go_size))) ⟨_, 0, none⟩ 1 1 [.int .i64 (x)] rfl rfl (cell_newL _ [.int .i64 (x)] _ (by simp)) (by simp [Value.oneCell']) (by simp only [maxLen]; omega) (by omega) (by simp; omega) ?_))
            intro v1 w1 hown1 hgrow _
            have hb1 : Below w.heap.size w w1 := own_grow (by repeat' (first | (with_reducible exact Below.refl _ _) | (with_reducible assumption) | (with_reducible refine Base.grow_alloc ?_ _) | (with_reducible refine Base.below_drewN ?_ _) | (with_reducible refine Below.drew ?_) | (with_reducible refine Below.setCell ?_ ?_ _) | go_size)) hown (Nat.le_refl _) hgrow
            have hown1' := own_snoc hown1
            have h0' : w1.cell? ⟨b, off + k, none⟩ = some (.int .i64 y) := (hb1.cell (p := ⟨b, off + k, none⟩) hvb).trans ((hbr.cell (p := ⟨b, off + k, none⟩) hvb).symm.trans h0)
            have hz1' := hb1.size
            have hRl' : (R ++ [x]).length ≤ k + 2 := by simp; omega
            clear hown hown1 hgrow h0
            go_wp2_with (first | (at_builtin; refine wpList_append_own _ rfl _ _ 46 rfl (w.heap.size) 2 i0 _ 1 8 Try.underlying46 hi0 hz0 hz1 hz2 rfl (by decide) _ _ _ rfl (own_of_below hown1' (by repeat' (first | (with_reducible exact Below.refl _ _) | (with_reducible assumption) | (with_reducible refine Base.grow_alloc ?_ _) | (with_reducible refine Base.below_drewN ?_ _) | (with_reducible refine Below.drew ?_) | (with_reducible refine Below.setCell ?_ ?_ _) | go_size))) ⟨_, 0, none⟩ 1 1 [.int .i64 (y)] rfl rfl (cell_newL _ [.int .i64 (y)] _ (by simp)) (by simp [Value.oneCell']) (by simp only [maxLen]; omega) (by omega) (by simp; omega) ?_))
            intro v2 w2 hown2 hgrow _
            have hb2 : Below w.heap.size w w2 := own_grow (by repeat' (first | (with_reducible exact Below.refl _ _) | (with_reducible assumption) | (with_reducible refine Base.via hb1 ?_) | (with_reducible refine Base.grow_alloc ?_ _) | (with_reducible refine Base.below_drewN ?_ _) | (with_reducible refine Below.drew ?_) | (with_reducible refine Below.setCell ?_ ?_ _) | go_size)) hown1' (Nat.le_refl _) hgrow
            go_wp2
            go_roundw
            case rel => exact ⟨k + 1, true, R ++ [x] ++ [y], by omega, by go_num, rfl, E2.out, E1.out, own_snoc (by simpa using hown2), hb2⟩
            case measure => simp [intOf]; omega
          · obtain rfl : x = y := by omega
            obtain ⟨e1, e2⟩ := put_eq hfd.out.symm
            have E1 := Lib.hid (show R ++ [x] = putO (L.take (k + 1)) x by rw [HT.out, e1, hR.out])
            have E2 := Lib.hid (show true = putD (L.take (k + 1)) x by rw [HT.out, e2])
            clear e1 e2
            go_wp2_with (first | (at_builtin; refine wpList_append_own _ rfl _ _ 46 rfl (w.heap.size) 2 i0 _ 1 8 Try.underlying46 hi0 hz0 hz1 hz2 rfl (by decide) _ _ _ rfl (own_of_below hown (by repeat' (first | (with_reducible exact Below.refl _ _) | (with_reducible assumption) | (with_reducible refine Base.grow_alloc ?_ _) | (with_reducible refine Base.below_drewN ?_ _) | (with_reducible refine Below.drew ?_) | (with_reducible refine Below.setCell ?_ ?_ _) | go_size))) ⟨_, 0, none⟩ 1 1 [.int .i64 (x)] rfl rfl (cell_newL _ [.int .i64 (x)] _ (by simp)) (by simp [Value.oneCell']) (by simp only [maxLen]; omega) (by omega) (by simp; omega) ?_))
            intro v1 w1 hown1 hgrow _
            have hb1 : Below w.heap.size w w1 := own_grow (by repeat' (first | (with_reducible exact Below.refl _ _) | (with_reducible assumption) | (with_reducible refine Base.grow_alloc ?_ _) | (with_reducible refine Base.below_drewN ?_ _) | (with_reducible refine Below.drew ?_) | (with_reducible refine Below.setCell ?_ ?_ _) | go_size)) hown (Nat.le_refl _) hgrow
            go_wp2
            go_roundw
            case rel => exact ⟨k + 1, true, R ++ [x], by omega, by go_num, rfl, E2.out, E1.out, own_snoc hown1, hb1⟩
            case measure => simp [intOf]; omega
        · obtain ⟨e1, e2⟩ := put_no hfd.out.symm hxy
          have E1 := Lib.hid (show R ++ [y] = putO (L.take (k + 1)) x by rw [HT.out, e1, hR.out])
          have E2 := Lib.hid (show false = putD (L.take (k + 1)) x by rw [HT.out, e2])
          have hd : decide (x ≤ y) = false := by simpa using hxy
          clear e1 e2
          go_wp2_with (first | (at_builtin; refine wpList_append_own _ rfl _ _ 46 rfl (w.heap.size) 2 i0 _ 1 8 Try.underlying46 hi0 hz0 hz1 hz2 rfl (by decide) _ _ _ rfl (own_of_below hown (by repeat' (first | (with_reducible exact Below.refl _ _) | (with_reducible assumption) | (with_reducible refine Base.grow_alloc ?_ _) | (with_reducible refine Base.below_drewN ?_ _) | (with_reducible refine Below.drew ?_) | (with_reducible refine Below.setCell ?_ ?_ _) | go_size))) ⟨_, 0, none⟩ 1 1 [.int .i64 (y)] rfl rfl (cell_newL _ [.int .i64 (y)] _ (by simp)) (by simp [Value.oneCell']) (by simp only [maxLen]; omega) (by omega) (by simp; omega) ?_))
          intro v1 w1 hown1 hgrow _
          have hb1 : Below w.heap.size w w1 := own_grow (by repeat' (first | (with_reducible exact Below.refl _ _) | (with_reducible assumption) | (with_reducible refine Base.grow_alloc ?_ _) | (with_reducible refine Base.below_drewN ?_ _) | (with_reducible refine Below.drew ?_) | (with_reducible refine Below.setCell ?_ ?_ _) | go_size)) hown (Nat.le_refl _) hgrow
          go_wp2
          go_roundw
          case rel => exact ⟨k + 1, false, R ++ [y], by omega, by go_num, rfl, E2.out, E1.out, own_snoc hown1, hb1⟩
          case measure => simp [intOf]; omega
      | true =>
        obtain ⟨e1, e2⟩ := put_done (y := y) hfd.out.symm
        have E1 := Lib.hid (show R ++ [y] = putO (L.take (k + 1)) x by rw [HT.out, e1, hR.out])
        have E2 := Lib.hid (show true = putD (L.take (k + 1)) x by rw [HT.out, e2])
        clear e1 e2
        go_wp2_with (first | (at_builtin; refine wpList_append_own _ rfl _ _ 46 rfl (w.heap.size) 2 i0 _ 1 8 Try.underlying46 hi0 hz0 hz1 hz2 rfl (by decide) _ _ _ rfl (own_of_below hown (by repeat' (first | (with_reducible exact Below.refl _ _) | (with_reducible assumption) | (with_reducible refine Base.grow_alloc ?_ _) | (with_reducible refine Base.below_drewN ?_ _) | (with_reducible refine Below.drew ?_) | (with_reducible refine Below.setCell ?_ ?_ _) | go_size))) ⟨_, 0, none⟩ 1 1 [.int .i64 (y)] rfl rfl (cell_newL _ [.int .i64 (y)] _ (by simp)) (by simp [Value.oneCell']) (by simp only [maxLen]; omega) (by omega) (by simp; omega) ?_))
        intro v1 w1 hown1 hgrow _
        have hb1 : Below w.heap.size w w1 := own_grow (by repeat' (first | (with_reducible exact Below.refl _ _) | (with_reducible assumption) | (with_reducible refine Base.grow_alloc ?_ _) | (with_reducible refine Base.below_drewN ?_ _) | (with_reducible refine Below.drew ?_) | (with_reducible refine Below.setCell ?_ ?_ _) | go_size)) hown (Nat.le_refl _) hgrow
        go_wp2
        go_roundw
        case rel => exact ⟨k + 1, true, R ++ [y], by omega, by go_num, rfl, E2.out, E1.out, own_snoc hown1, hb1⟩
        case measure => simp [intOf]; omega
    · have hkn : k = n := by omega
      have htk := Lib.hid (show L.take k = L from List.take_of_length_le (by rw [HN.out]; omega))
      have hk' := Lib.hid hkn
      clear hkn
      cases fd with
      | false =>
        have E := Lib.hid (show R ++ [x] = putF L x by
          have h := hfd.out
          rw [htk.out] at h
          rw [putF, ← h, hR.out, htk.out, putO_no h.symm]; rfl)
        go_wp2_with (first | (at_builtin; refine wpList_append_own _ rfl _ _ 46 rfl (w.heap.size) 2 i0 _ 1 8 Try.underlying46 hi0 hz0 hz1 hz2 rfl (by decide) _ _ _ rfl (own_of_below hown (by repeat' (first | (with_reducible exact Below.refl _ _) | (with_reducible assumption) | (with_reducible refine Base.grow_alloc ?_ _) | (with_reducible refine Base.below_drewN ?_ _) | (with_reducible refine Below.drew ?_) | (with_reducible refine Below.setCell ?_ ?_ _) | go_size))) ⟨_, 0, none⟩ 1 1 [.int .i64 (x)] rfl rfl (cell_newL _ [.int .i64 (x)] _ (by simp)) (by simp [Value.oneCell']) (by simp only [maxLen]; omega) (by omega) (by simp; omega) ?_))
        intro v1 w1 hown1 hgrow _
        have hb1 : Below w.heap.size w w1 := own_grow (by repeat' (first | (with_reducible exact Below.refl _ _) | (with_reducible assumption) | (with_reducible refine Base.grow_alloc ?_ _) | (with_reducible refine Base.below_drewN ?_ _) | (with_reducible refine Below.drew ?_) | (with_reducible refine Below.setCell ?_ ?_ _) | go_size)) hown (Nat.le_refl _) hgrow
        go_wp2
        go_ret
        exact ⟨_, rfl, by rw [← E.out]; exact OwnK.of_list (own_snoc hown1) (by simp; omega), hb1⟩
      | true =>
        have E := Lib.hid (show R = putF L x by
          have h := hfd.out
          rw [htk.out] at h
          rw [putF, ← h, hR.out, htk.out]; rfl)
        go_wp2
        go_ret
        exact ⟨_, rfl, by rw [← E.out]; exact OwnK.of_list hown (by omega), hbr⟩
theorem setL_zero (m : Nat) (B : Nat → Int) : setL m 0 B = [] := by
  have : ∀ m, sel m (hasP 0 B) toI = [] := fun m => by
    induction m with
    | zero => rfl
    | succ m ih => rw [sel, ih]; rfl
  exact this m
theorem hown0 {w : World} {E : TypeId} {b : Nat} (m : Nat) (B : Nat → Int) (hb : b = w.heap.size := by rfl) : OwnK (w.alloc (.cells #[] E)) w.heap.size E 1 (.slice (some ⟨b, 0, none⟩) 0 0) (setL m 0 B).length (f1 (lf (setL m 0 B))) := by
  subst hb
  rw [setL_zero]
  exact OwnK.of_list (L := []) (World.ownsRow_made _ _ _ (Nat.le_refl _) (by simp [maxLen]) rfl) (by simp)
set_option maxHeartbeats 800000 in
theorem c_specFilledBins (A : Option Addr) (n c : Nat) (T M : Nat → Int) (p b : Int) (w : World) (hv : Sl w 2 A n c (f2 T M)) :
    Calls Try.prog 16 #[.slice A n c, .int .i64 p, .int .i64 b] w fun e w' => e = .returned (.tuple #[.int .i64 (filV n T M p b), .int .i64 (binCode n T M p b)]) ∧ Below w.heap.size w w' := by
  by_cases hbc : binCode n T M p b = 0
  · obtain ⟨hok, hp, hb⟩ := dsp_ok hbc
    obtain ⟨h100, hT, hM, _⟩ := Curve2.okCurve_bd hok
    obtain ⟨m, rfl⟩ : ∃ m : Nat, b = m := ⟨b.toNat, by omega⟩
    have hm : 1 ≤ m ∧ m ≤ 20 := by omega
    have hn := hv.le
    have HT := Lib.hid hT
    have HV := Lib.hid (show filV n T M p m = ((setL m n (binV T p m)).length : Int) by rw [filV, if_pos hbc, Int.toNat_natCast])
    have HC := Lib.hid hbc
    have HBD := Lib.hid (fun i => bin_bd (T := T) hp (show 1 ≤ (m : Int) ∧ (m : Int) ≤ 20 by omega) i)
    clear hT hM hok
    go_enter Try.func16, Try.ntmps16
    go_wp2_with (first | (go_at_call 57; refine (c_l11Code _ _ _ T M _ _ _ (hv.below (by repeat' (first | (with_reducible exact Below.refl _ _) | (with_reducible assumption) | (with_reducible refine Base.grow_alloc ?_ _) | (with_reducible refine Base.below_drewN ?_ _) | (with_reducible refine Below.drew ?_) | (with_reducible refine Below.setCell ?_ ?_ _) | go_size)))).mono ?_; rintro e w1 ⟨rfl, hb1⟩; obtain ⟨chb1, fhb1⟩ := Base.bcell hb1; have zhb1 := (hb1).size; (try simp at zhb1); (try have yhb1 : w.heap.size < (w1).heap.size := by omega)) | (go_at_call 58; refine (c_l11Bins _ _ _ T M p m _ (hv.below (by repeat' (first | (with_reducible exact Below.refl _ _) | (with_reducible assumption) | (with_reducible refine Base.via hb1 ?_) | (with_reducible refine Base.grow_alloc ?_ _) | (with_reducible refine Base.below_drewN ?_ _) | (with_reducible refine Below.drew ?_) | (with_reducible refine Below.setCell ?_ ?_ _) | go_size))) HT.out hp hb).mono ?_))
    rintro e w2 ⟨v2, rfl, ho2, hb2⟩
    obtain ⟨A2, c2, rfl, V2, _⟩ := ho2.view
    have hbw : Below w.heap.size w w2 := (by repeat' (first | (with_reducible exact Below.refl _ _) | (with_reducible assumption) | (with_reducible refine Base.via hb2 ?_) | (with_reducible refine Base.via hb1 ?_) | (with_reducible refine Base.grow_alloc ?_ _) | (with_reducible refine Base.below_drewN ?_ _) | (with_reducible refine Below.drew ?_) | (with_reducible refine Below.setCell ?_ ?_ _) | go_size))
    clear ho2 chb1 fhb1
    go_wp2
    go_loopw [10, 11] (fun v i wr => ∃ k : Nat, k ≤ n ∧ i = .int .i64 k ∧ OwnK wr w2.heap.size 2 1 v (setL m k (binV T p m)).length (f1 (lf (setL m k (binV T p m)))) ∧ Below w2.heap.size w2 wr) (fun _ i _ => n - (intOf i).toNat)
    case atStart => exact ⟨0, Nat.zero_le _, rfl, hown0 _ _, (by repeat' (first | (with_reducible exact Below.refl _ _) | (with_reducible assumption) | (with_reducible refine Base.grow_alloc ?_ _) | (with_reducible refine Base.below_drewN ?_ _) | (with_reducible refine Below.drew ?_) | (with_reducible refine Below.setCell ?_ ?_ _) | go_size))⟩
    case round =>
      obtain ⟨k, hk, rfl, ho, hbr⟩ := hrel
      have hz := hbr.size
      by_cases hlt : k < n
      · obtain ⟨A3, c3, rfl, V3, _⟩ := ho.view
        obtain ⟨b', off, rfl, hb', hc⟩ := (V2.below hbr).at_ (by omega)
        have h0 := cells1 hc k hlt
        obtain ⟨_, _, _, _, q5, q6, _, _⟩ := HBD.out k
        obtain ⟨x, hx⟩ : ∃ x : Nat, binV T p m k = x := ⟨(binV T p m k).toNat, by omega⟩
        rw [hx] at h0
        have HX := Lib.hid hx
        have hsl := setL_len m k (binV T p m)
        have HNX := Lib.hid (setL_next (n := k) (B := binV T p m) (show x < m by omega) hx)
        clear hc hx q5 q6
        go_wp2_with (first | (go_at_call 59; refine (c_l00Put _ (setL m k (binV T p m)) _ _ x _ rfl (by omega) V3).mono ?_))
        rintro e w3 ⟨v3, rfl, ho3, hb3⟩
        rw [HNX.out] at ho3
        go_wp2
        go_roundw
        case rel => exact ⟨k + 1, by omega, by go_num, ho3.mono hz, (by repeat' (first | (with_reducible exact Below.refl _ _) | (with_reducible assumption) | (with_reducible refine Base.via hb3 ?_) | (with_reducible refine Base.grow_alloc ?_ _) | (with_reducible refine Base.below_drewN ?_ _) | (with_reducible refine Below.drew ?_) | (with_reducible refine Below.setCell ?_ ?_ _) | go_size))⟩
        case measure => simp [intOf]; omega
      · have hkn : k = n := by omega
        obtain ⟨A3, c3, rfl, V3, _⟩ := ho.view
        have hsl := setL_len m k (binV T p m)
        have HV2 := Lib.hid (show ((setL m k (binV T p m)).length : Int) = filV n T M p m by rw [HV.out, hkn])
        clear hkn
        go_wp2
        go_ret2
        exact ⟨Curve2.ret_pair HV2.out HC.out.symm, (by repeat' (first | (with_reducible exact Below.refl _ _) | (with_reducible assumption) | (with_reducible refine Base.via hbr ?_) | (with_reducible refine Base.via hbw ?_) | (with_reducible refine Base.grow_alloc ?_ _) | (with_reducible refine Base.below_drewN ?_ _) | (with_reducible refine Below.drew ?_) | (with_reducible refine Below.setCell ?_ ?_ _) | go_size))⟩
  · have HV := Lib.hid (show filV n T M p b = 0 by rw [filV, if_neg hbc])
    have hq : (binCode n T M p b != 0) = true := by simpa using hbc
    go_enter Try.func16, Try.ntmps16
    go_wp2_with (first | (go_at_call 57; refine (c_l11Code _ _ _ T M _ _ _ (hv.below (by repeat' (first | (with_reducible exact Below.refl _ _) | (with_reducible assumption) | (with_reducible refine Base.grow_alloc ?_ _) | (with_reducible refine Base.below_drewN ?_ _) | (with_reducible refine Below.drew ?_) | (with_reducible refine Below.setCell ?_ ?_ _) | go_size)))).mono ?_; rintro e w1 ⟨rfl, hb1⟩; obtain ⟨chb1, fhb1⟩ := Base.bcell hb1; have zhb1 := (hb1).size; (try simp at zhb1); (try have yhb1 : w.heap.size < (w1).heap.size := by omega)))
    go_ret2
    exact ⟨Curve2.ret_pair HV.out.symm rfl, (by repeat' (first | (with_reducible exact Below.refl _ _) | (with_reducible assumption) | (with_reducible refine Base.via hb1 ?_) | (with_reducible refine Base.grow_alloc ?_ _) | (with_reducible refine Base.below_drewN ?_ _) | (with_reducible refine Below.drew ?_) | (with_reducible refine Below.setCell ?_ ?_ _) | go_size))⟩
end Go.Proofs.Ytiinjnghnfofpaa.Fill
