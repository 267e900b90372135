/- The marks behind which there is a gap of magnitudes. -/
import Derived.Test.YtiinjnghnfofpaaMgP
import Derived.Test.YtiinjnghnfofpaaEnc
import Derived.Test.YtiinjnghnfofpaaChosen
namespace Go.Proofs.Ytiinjnghnfofpaa.MagG
set_option linter.unusedVariables false
set_option linter.unusedSimpArgs false
set_option maxRecDepth 8000
open Go.RowKit Go.Shelf Plain Num View Amp Chart

set_option maxHeartbeats 800000 in
theorem c_indicesWhere (n : Nat) (g : Nat) (lb : Array Value) (p : Nat → Bool) (w : World) (eg : ∀ args w, (callFunc g args).run Try.prog w = .ok (.enter g args) w)
    (hn : n ≤ 1048576) (hp : Idx.Pred Try.prog w g lb n (fun i => .int .i64 (i : Int)) p) :
    Calls Try.prog 88 #[.int .i64 n, .func (.func g) #[] lb] w fun e w' => ∃ v, e = .returned v ∧ OwnK w' w.heap.size 2 1 v (sel n p iotaI).length (f1 (lf (sel n p iotaI))) ∧ Below w.heap.size w w' := by
  have HP := Lib.hid hp
  clear hp
  obtain ⟨i0, hi0, hz0, hz1, hz2⟩ := info_parts Enc.infoI
  go_enter Try.func88, Try.ntmps88
  go_wp2
  go_loopw [5, 6, 9] (fun v _ i wr => ∃ k : Nat, k ≤ n ∧ i = .int .i64 k ∧ wr.ownsRow w.heap.size 2 1 v (sel k p iotaI).length (cellL (sel k p iotaI)) ∧ Below w.heap.size w wr) (fun _ _ i _ => n - (intOf i).toNat)
  case atStart => exact ⟨0, Nat.zero_le _, rfl, World.ownsRow_made _ _ _ (by omega) (by simp [maxLen]) rfl, (by repeat' (first | (with_reducible exact Below.refl _ _) | (with_reducible assumption) | (with_reducible refine Base.grow_alloc ?_ _) | (with_reducible refine Base.below_drewN ?_ _) | (with_reducible refine Below.drew ?_) | (with_reducible refine Below.setCell ?_ ?_ _) | go_size))⟩
  case round =>
    obtain ⟨k, hk, rfl, hown, hbr⟩ := hrel
    have hz := hbr.size
    have hl := sel_len (k := k) (P := p) (g := iotaI)
    by_cases hlt : k < n
    · have hcall := HP.out wr hbr k hlt
      cases hq : p k with
      | true =>
        rw [hq] at hcall
        have HQ := Lib.hid (sel_yes (g := iotaI) hq)
        clear hq
        go_wp2_with (first | (go_at_fn g; refine hcall.mono ?_; rintro e w1 ⟨rfl, hb1⟩; have zz := hb1.size) | (at_builtin; refine wpList_append_own _ rfl _ _ 46 rfl (w.heap.size) 2 i0 _ 1 8 Try.underlying46 hi0 hz0 hz1 hz2 rfl (by decide) _ _ _ rfl (own_of_below hown (by repeat' (first | (with_reducible exact Below.refl _ _) | (with_reducible assumption) | (with_reducible refine Base.via hb1 ?_) | (with_reducible refine Base.grow_alloc ?_ _) | (with_reducible refine Base.below_drewN ?_ _) | (with_reducible refine Below.drew ?_) | (with_reducible refine Below.setCell ?_ ?_ _) | go_size))) ⟨_, 0, none⟩ 1 1 [.int .i64 ((k : Int))] rfl rfl (cell_newL _ [.int .i64 ((k : Int))] _ (by simp)) (by simp [Value.oneCell']) (by simp only [maxLen]; omega) (by omega) (by simp; omega) ?_))
        intro v' w2 hown' hgrow _
        have hb2 : Below w.heap.size w w2 := own_grow (by repeat' (first | (with_reducible exact Below.refl _ _) | (with_reducible assumption) | (with_reducible refine Base.via hb1 ?_) | (with_reducible refine Base.grow_alloc ?_ _) | (with_reducible refine Base.below_drewN ?_ _) | (with_reducible refine Below.drew ?_) | (with_reducible refine Below.setCell ?_ ?_ _) | go_size)) hown (Nat.le_refl _) hgrow
        clear hown hgrow
        go_wp2
        go_roundw
        case rel => exact ⟨k + 1, by omega, by go_num, by rw [HQ.out]; exact own_snoc hown', hb2⟩
        case measure => simp [intOf]; omega
      | false =>
        rw [hq] at hcall
        have HQ := Lib.hid (sel_no (g := iotaI) hq)
        clear hq
        go_wp2_with (go_at_fn g; refine hcall.mono ?_; rintro e w1 ⟨rfl, hb1⟩)
        go_roundw
        case rel => exact ⟨k + 1, by omega, by go_num, by rw [HQ.out]; exact own_of_below hown hb1, (by repeat' (first | (with_reducible exact Below.refl _ _) | (with_reducible assumption) | (with_reducible refine Base.via hb1 ?_) | (with_reducible refine Base.grow_alloc ?_ _) | (with_reducible refine Base.below_drewN ?_ _) | (with_reducible refine Below.drew ?_) | (with_reducible refine Below.setCell ?_ ?_ _) | go_size))⟩
        case measure => simp [intOf]; omega
    · have hkn : k = n := by omega
      subst hkn
      go_wp2
      go_ret
      exact ⟨_, rfl, OwnK.of_list hown (by omega), hbr⟩
def mgC (n : Nat) (X Y M : Nat → Int) (v : Int) : Int := if okChart n X Y M = true then (if inB v 0 20000 = true then 0 else 2) else 1
def mgL (n : Nat) (X Y M : Nat → Int) (v : Int) : List Int := if mgC n X Y M v = 0 then sel n (gapB M v n) iotaI else []
theorem mg_cases (n : Nat) (X Y M : Nat → Int) (v : Int) : (okChart n X Y M = true ∧ inB v 0 20000 = true ∧ mgC n X Y M v = 0) ∨ (okChart n X Y M = true ∧ inB v 0 20000 = false ∧ mgC n X Y M v = 2) ∨ (okChart n X Y M = false ∧ mgC n X Y M v = 1) := by
  unfold mgC
  cases okChart n X Y M <;> cases inB v 0 20000 <;> simp
theorem gr_bd {n i : Nat} {M : Nat → Int} (hM : ∀ j, j < n → -2000 ≤ M j ∧ M j ≤ 20000) (h : 0 < (grL M i n).length) : -2000 ≤ minT (lf (grL M i n)) ((grL M i n).length - 1) ∧ minT (lf (grL M i n)) ((grL M i n).length - 1) ≤ 20000 := by
  refine minT_bd (fun j hj => ?_)
  have hl : j < (grL M i n).length := by omega
  have hm : lf (grL M i n) j ∈ grL M i n := by
    simp only [lf, List.getD_eq_getElem?_getD, List.getElem?_eq_getElem hl]
    exact List.getElem_mem hl
  obtain ⟨q, q1, _, e⟩ := sel_mem hm
  rw [e]
  exact hM q q1
theorem c_mg11 (m : Int) (i bl bi : Nat) (A : Option Addr) (n c : Nat) (X Y M : Nat → Int) (w : World) (hl : w.cell? ⟨bl, 0, none⟩ = some (.slice A n c)) (hi : w.cell? ⟨bi, 0, none⟩ = some (.int .i64 i)) (hv : Sl w 3 A n c (f3 X Y M)) (hin : i < n) :
    Calls Try.prog 91 #[.int .i64 m, .pointer (some ⟨bl, 0, none⟩), .pointer (some ⟨bi, 0, none⟩)] w fun e w' => e = .returned (.bool (decide (M i < m))) ∧ Below w.heap.size w w' := by
  have hn := hv.le
  obtain ⟨b, off, rfl, hb, hc⟩ := hv.at_ (by omega)
  obtain ⟨h0, h1, h2⟩ := cells3 hc i hin
  clear hc
  go_enter Try.func91, Try.ntmps91
  go_wp2
  go_ret
  exact ⟨rfl, (by repeat' (first | (with_reducible exact Below.refl _ _) | (with_reducible assumption) | (with_reducible refine Base.grow_alloc ?_ _) | (with_reducible refine Base.below_drewN ?_ _) | (with_reducible refine Below.drew ?_) | (with_reducible refine Below.setCell ?_ ?_ _) | go_size))⟩
set_option maxHeartbeats 1600000 in
theorem c_mg1 (i bl bm : Nat) (A : Option Addr) (n c : Nat) (X Y M : Nat → Int) (v : Int) (w : World) (hl : w.cell? ⟨bl, 0, none⟩ = some (.slice A n c)) (hm : w.cell? ⟨bm, 0, none⟩ = some (.int .i64 v)) (hv : Sl w 3 A n c (f3 X Y M)) (hin : i < n) (h30 : n ≤ 30)
    (hM : ∀ j, j < n → -2000 ≤ M j ∧ M j ≤ 20000) (hv0 : 0 ≤ v ∧ v ≤ 20000) :
    Calls Try.prog 89 #[.int .i64 i, .pointer (some ⟨bl, 0, none⟩), .pointer (some ⟨bm, 0, none⟩)] w fun e w' => e = .returned (.bool (gapB M v n i)) ∧ Below w.heap.size w w' := by
  have hn := hv.le
  have eg : ∀ args w, (callFunc 91 args).run Try.prog w = .ok (.enter 91 args) w := enters_of Try.func91 (by kernel_rfl) rfl
  have hMi := hM i hin
  have HM := Lib.hid hM
  clear hM
  obtain ⟨v0, v1⟩ := hv0
  have lx := World.block_lt_of_cell? _ _ hl
  have ly := World.block_lt_of_cell? _ _ hm
  dsimp only at lx ly
  go_enter Try.func89, Try.ntmps89
  go_wp2_with (first | (go_at_call 73; refine (Enc.c_magsOf A n c X Y M _ (hv.below (by repeat' (first | (with_reducible exact Below.refl _ _) | (with_reducible assumption) | (with_reducible refine Base.grow_alloc ?_ _) | (with_reducible refine Base.below_drewN ?_ _) | (with_reducible refine Below.drew ?_) | (with_reducible refine Below.setCell ?_ ?_ _) | go_size)))).mono ?_))
  rintro e w1 ⟨u1, rfl, ho1, hb1⟩
  obtain ⟨A1, c1, rfl, V1, B1⟩ := ho1.view
  have k3 : World.cell? w1 ⟨w.heap.size, 0, none⟩ = some (.int .i64 i) := ((hb1.cell (p := ⟨w.heap.size, 0, none⟩) (by first | (simp; done) | (simp; omega) | omega)).trans (by simp [go_sem]))
  have hbw : Below w.heap.size w w1 := (by repeat' (first | (with_reducible exact Below.refl _ _) | (with_reducible assumption) | (with_reducible refine Base.via hb1 ?_) | (with_reducible refine Base.grow_alloc ?_ _) | (with_reducible refine Base.below_drewN ?_ _) | (with_reducible refine Below.drew ?_) | (with_reducible refine Below.setCell ?_ ?_ _) | go_size))
  have l1 := cell_call hbw hl
  have m1 := cell_call hbw hm
  have hp : Idx.Pred Try.prog w1 91 #[.pointer (some ⟨bl, 0, none⟩), .pointer (some ⟨w.heap.size, 0, none⟩)] n (fun j => .int .i64 (M j)) (gtB M i) := fun W hW j _ =>
    c_mg11 (M j) i bl w.heap.size A n c X Y M W (cell_call hW l1) (cell_call hW k3) (hv.below (hbw.trans (hW.mono hbw.size))) hin
  have HP := Lib.hid hp
  clear hp
  go_wp2_with (first | (go_at_call 90; refine (Chosen.c_chosenInt64 A1 n c1 M 91 _ (gtB M i) _ eg (V1.below (by repeat' (first | (with_reducible exact Below.refl _ _) | (with_reducible assumption) | (with_reducible refine Base.grow_alloc ?_ _) | (with_reducible refine Base.below_drewN ?_ _) | (with_reducible refine Below.drew ?_) | (with_reducible refine Below.setCell ?_ ?_ _) | go_size))) HP.out).mono ?_))
  rintro e w2 ⟨u2, rfl, ho2, hb2⟩
  have l2 := cell_call hb2 l1
  have m2 := cell_call hb2 m1
  have k4 := cell_call hb2 k3
  have hv2 := hv.below (hbw.trans (hb2.mono hbw.size))
  obtain ⟨b, off, rfl, hb, hc⟩ := hv2.at_ (by omega)
  obtain ⟨h0, h1, h2⟩ := cells3 hc i hin
  have i1 : (0 : Int) ≤ (i : Int) := by omega
  have i2 : (i : Int) < (n : Int) := by omega
  clear hc hv2 k3 l1 m1 V1 B1 HP
  by_cases hpos : 0 < (grL M i n).length
  · have HG := Lib.hid (gap_some (v := v) hpos)
    have hbd := gr_bd HM.out hpos
    have hlen : (grL M i n).length ≤ n := sel_len
    obtain ⟨m, hm2⟩ : ∃ m, m = (grL M i n).length := ⟨_, rfl⟩
    have ho4 : OwnK w2 w1.heap.size 2 1 u2 m (f1 (lf (grL M i n))) := by rw [hm2]; exact ho2
    rw [← hm2] at hpos hbd HG hlen
    obtain ⟨A2, c2, rfl, V2, B2⟩ := ho4.view
    have HMI := Lib.hid (fun W (hW : Below w2.heap.size w2 W) => (Amp.c_Min A2 m c2 (lf (grL M i n)) W (V2.below hW) hpos).mono (fun _ _ h => And.intro h.1 h.2.symm))
    obtain ⟨q, hq⟩ : ∃ q : Int, q = minT (lf (grL M i n)) (m - 1) := ⟨_, rfl⟩
    rw [← hq] at hbd HG HMI
    have hd : decide (0 < m) = true := by simp; omega
    have e1 : IntKind.i64.wrap (q - M i) = q - M i := IntWalk.i64_in _ (by omega)
    clear hq hm2 ho2
    go_wp2
    go_quiet ((go_at_call 92; exact Calls.quiet_of_same (HMI.out _ (by repeat' (first | (with_reducible exact Below.refl _ _) | (with_reducible assumption) | (with_reducible refine Base.grow_alloc ?_ _) | (with_reducible refine Base.below_drewN ?_ _) | (with_reducible refine Below.drew ?_) | (with_reducible refine Below.setCell ?_ ?_ _) | go_size)))))
    go_wp2
    go_ret
    exact ⟨ret_bool HG.out.symm, (by repeat' (first | (with_reducible exact Below.refl _ _) | (with_reducible assumption) | (with_reducible refine Base.via hb2 ?_) | (with_reducible refine Base.via hbw ?_) | (with_reducible refine Base.grow_alloc ?_ _) | (with_reducible refine Base.below_drewN ?_ _) | (with_reducible refine Below.drew ?_) | (with_reducible refine Below.setCell ?_ ?_ _) | go_size))⟩
  · have h00 : (grL M i n).length = 0 := by omega
    have HG := Lib.hid (gap_none (v := v) v0 h00)
    have ho3 : OwnK w2 w1.heap.size 2 1 u2 0 (f1 (lf (grL M i n))) := h00 ▸ ho2
    obtain ⟨A2, c2, rfl, V2, B2⟩ := ho3.view
    go_wp2
    go_quiet (fail)
    go_wp2
    go_ret
    exact ⟨ret_bool HG.out.symm, (by repeat' (first | (with_reducible exact Below.refl _ _) | (with_reducible assumption) | (with_reducible refine Base.via hb2 ?_) | (with_reducible refine Base.via hbw ?_) | (with_reducible refine Base.grow_alloc ?_ _) | (with_reducible refine Base.below_drewN ?_ _) | (with_reducible refine Below.drew ?_) | (with_reducible refine Below.setCell ?_ ?_ _) | go_size))⟩
set_option maxHeartbeats 1600000 in
theorem c_MagGaps (A : Option Addr) (n c : Nat) (X Y M : Nat → Int) (v : Int) (w : World) (hv : Sl w 3 A n c (f3 X Y M)) :
    Calls Try.prog 39 #[.slice A n c, .int .i64 v] w fun e w' => ∃ u, e = .returned (.tuple #[u, .int .i64 (mgC n X Y M v)]) ∧ OwnK w' w.heap.size 2 1 u (mgL n X Y M v).length (f1 (lf (mgL n X Y M v))) ∧ Below w.heap.size w w' := by
  have hn := hv.le
  have eg : ∀ args w, (callFunc 89 args).run Try.prog w = .ok (.enter 89 args) w := enters_of Try.func89 (by kernel_rfl) rfl
  rcases mg_cases n X Y M v with ⟨h1, h2, hc⟩ | ⟨h1, h2, hc⟩ | ⟨h1, hc⟩
  · have h30 := okChart_n h1
    have hbd := okChart_bd h1
    have hvb := inB_iff.1 h2
    have HC := Lib.hid hc
    have HL := Lib.hid (show mgL n X Y M v = sel n (gapB M v n) iotaI by rw [mgL, if_pos hc])
    have HM := Lib.hid (fun j hj => (hbd j hj).2.2)
    clear hbd hc
    go_enter Try.func39, Try.ntmps39
    go_wp2_with (first | (go_at_call 71; refine (c_ValidChart A n c X Y M _ (hv.below (by repeat' (first | (with_reducible exact Below.refl _ _) | (with_reducible assumption) | (with_reducible refine Base.grow_alloc ?_ _) | (with_reducible refine Base.below_drewN ?_ _) | (with_reducible refine Below.drew ?_) | (with_reducible refine Below.setCell ?_ ?_ _) | go_size)))).mono ?_; rintro e w1 ⟨rfl, hb1⟩; have k0 : World.cell? w1 ⟨w.heap.size, 0, none⟩ = some (.slice A n c) := ((hb1.cell (p := ⟨w.heap.size, 0, none⟩) (by first | (simp; done) | (simp; omega) | omega)).trans (by simp [go_sem])); have k1 : World.cell? w1 ⟨w.heap.size + 1, 0, none⟩ = some (.int .i64 v) := ((hb1.cell (p := ⟨w.heap.size + 1, 0, none⟩) (by first | (simp; done) | (simp; omega) | omega)).trans (by simp [go_sem]))) | (go_at_call 79; refine (c_in _ _ _ _).mono ?_; rintro e w' ⟨rfl, rfl⟩) | (go_at_call 88; refine (c_indicesWhere n 89 _ (gapB M v n) _ eg hn ?_).mono ?_))
    · have hbw : Below w.heap.size w w1 := (by repeat' (first | (with_reducible exact Below.refl _ _) | (with_reducible assumption) | (with_reducible refine Base.via hb1 ?_) | (with_reducible refine Base.grow_alloc ?_ _) | (with_reducible refine Base.below_drewN ?_ _) | (with_reducible refine Below.drew ?_) | (with_reducible refine Below.setCell ?_ ?_ _) | go_size))
      intro W hW j hj
      exact c_mg1 j w.heap.size (w.heap.size + 1) A n c X Y M v W (cell_call hW k0) (cell_call hW k1) (hv.below (hbw.trans (hW.mono hbw.size))) hj h30 HM.out hvb
    · have hbw : Below w.heap.size w w1 := (by repeat' (first | (with_reducible exact Below.refl _ _) | (with_reducible assumption) | (with_reducible refine Base.via hb1 ?_) | (with_reducible refine Base.grow_alloc ?_ _) | (with_reducible refine Base.below_drewN ?_ _) | (with_reducible refine Below.drew ?_) | (with_reducible refine Below.setCell ?_ ?_ _) | go_size))
      rintro e w2 ⟨u, rfl, ho, hb2⟩
      go_wp2
      go_ret2
      exact ⟨_, ret_slice HC.out.symm, by rw [HL.out]; exact ho.mono hbw.size, (by repeat' (first | (with_reducible exact Below.refl _ _) | (with_reducible assumption) | (with_reducible refine Base.via hb2 ?_) | (with_reducible refine Base.via hbw ?_) | (with_reducible refine Base.grow_alloc ?_ _) | (with_reducible refine Base.below_drewN ?_ _) | (with_reducible refine Below.drew ?_) | (with_reducible refine Below.setCell ?_ ?_ _) | go_size))⟩
  all_goals
    have HL := Lib.hid (show (mgL n X Y M v).length = 0 by rw [mgL, hc]; rfl)
    have HC := Lib.hid hc
    clear hc
    go_enter Try.func39, Try.ntmps39
    go_wp2_with (first | (go_at_call 71; refine (c_ValidChart A n c X Y M _ (hv.below (by repeat' (first | (with_reducible exact Below.refl _ _) | (with_reducible assumption) | (with_reducible refine Base.grow_alloc ?_ _) | (with_reducible refine Base.below_drewN ?_ _) | (with_reducible refine Below.drew ?_) | (with_reducible refine Below.setCell ?_ ?_ _) | go_size)))).mono ?_; rintro e w1 ⟨rfl, hb1⟩; have k0 : World.cell? w1 ⟨w.heap.size, 0, none⟩ = some (.slice A n c) := ((hb1.cell (p := ⟨w.heap.size, 0, none⟩) (by first | (simp; done) | (simp; omega) | omega)).trans (by simp [go_sem])); have k1 : World.cell? w1 ⟨w.heap.size + 1, 0, none⟩ = some (.int .i64 v) := ((hb1.cell (p := ⟨w.heap.size + 1, 0, none⟩) (by first | (simp; done) | (simp; omega) | omega)).trans (by simp [go_sem]))) | (go_at_call 79; refine (c_in _ _ _ _).mono ?_; rintro e w' ⟨rfl, rfl⟩))
    go_ret2
    exact ⟨_, ret_slice HC.out.symm, OwnK.zero HL.out, (by repeat' (first | (with_reducible exact Below.refl _ _) | (with_reducible assumption) | (with_reducible refine Base.via hb1 ?_) | (with_reducible refine Base.grow_alloc ?_ _) | (with_reducible refine Base.below_drewN ?_ _) | (with_reducible refine Below.drew ?_) | (with_reducible refine Below.setCell ?_ ?_ _) | go_size))⟩
set_option maxHeartbeats 1600000 in
theorem c_specMagGaps (A : Option Addr) (n c : Nat) (X Y M : Nat → Int) (v : Int) (w : World) (hv : Sl w 3 A n c (f3 X Y M)) :
    Calls Try.prog 38 #[.slice A n c, .int .i64 v] w fun e w' => ∃ u, e = .returned (.tuple #[u, .int .i64 (mgC n X Y M v)]) ∧ OwnK w' w.heap.size 2 1 u (mgL n X Y M v).length (f1 (lf (mgL n X Y M v))) ∧ Below w.heap.size w w' := by
  have hn := hv.le
  obtain ⟨i0, hi0, hz0, hz1, hz2⟩ := info_parts Enc.infoI
  rcases mg_cases n X Y M v with ⟨h1, h2, hc⟩ | ⟨h1, h2, hc⟩ | ⟨h1, hc⟩
  · have h30 := okChart_n h1
    have hbd := okChart_bd h1
    have hvb := inB_iff.1 h2
    have HC := Lib.hid hc
    have HL := Lib.hid (show mgL n X Y M v = sel n (gapB M v n) iotaI by rw [mgL, if_pos hc])
    have HM := Lib.hid (fun j hj => (hbd j hj).2.2)
    clear hbd hc
    go_enter Try.func38, Try.ntmps38
    go_wp2_with (first | (go_at_call 67; refine (c_l07Ok _ _ _ X Y M _ (hv.below (by repeat' (first | (with_reducible exact Below.refl _ _) | (with_reducible assumption) | (with_reducible refine Base.grow_alloc ?_ _) | (with_reducible refine Base.below_drewN ?_ _) | (with_reducible refine Below.drew ?_) | (with_reducible refine Below.setCell ?_ ?_ _) | go_size)))).mono ?_; rintro e w1 ⟨rfl, hb1⟩; obtain ⟨chb1, fhb1⟩ := Base.bcell hb1; have zhb1 := (hb1).size; (try simp at zhb1); (try have yhb1 : w.heap.size < (w1).heap.size := by omega)) | (go_at_call 76; refine (c_l00In _ _ _ _).mono ?_; rintro e w' ⟨rfl, rfl⟩))
    have hvw := hv.below hb1
    clear chb1 fhb1
    go_loopw [6, 7, 8, 9, 10] (fun u i _ _ _ wr => ∃ k : Nat, k ≤ n ∧ i = .int .i64 k ∧ wr.ownsRow w1.heap.size 2 1 u (sel k (gapB M v n) iotaI).length (cellL (sel k (gapB M v n) iotaI)) ∧ Below w1.heap.size w1 wr) (fun _ i _ _ _ _ => n - (intOf i).toNat)
    case atStart => exact ⟨0, Nat.zero_le _, rfl, World.ownsRow_made _ _ _ (by omega) (by simp [maxLen]) rfl, (by repeat' (first | (with_reducible exact Below.refl _ _) | (with_reducible assumption) | (with_reducible refine Base.grow_alloc ?_ _) | (with_reducible refine Base.below_drewN ?_ _) | (with_reducible refine Below.drew ?_) | (with_reducible refine Below.setCell ?_ ?_ _) | go_size))⟩
    case round =>
      obtain ⟨k, hk, rfl, hown, hbr⟩ := hrel
      have hz := hbr.size
      have hl := sel_len (k := k) (P := gapB M v n) (g := iotaI)
      by_cases hlt : k < n
      · have HOWN := Lib.hid hown
        have hMk := HM.out k hlt
        clear hown
        go_wp2
        obtain ⟨wo, hwo⟩ : ∃ wo : World, wo = wr := ⟨_, rfl⟩
        rw [← hwo] at hbr hz HOWN ⊢
        clear hwo
        go_loopw [8, 9, 10] (fun nx q _ wq => ∃ j : Nat, j ≤ n ∧ q = .int .i64 j ∧ nx = .int .i64 (nextG M k j) ∧ Below wo.heap.size wo wq) (fun _ q _ _ => n - (intOf q).toNat)
        case atStart => exact ⟨0, Nat.zero_le _, rfl, rfl, (by repeat' (first | (with_reducible exact Below.refl _ _) | (with_reducible assumption) | (with_reducible refine Base.grow_alloc ?_ _) | (with_reducible refine Base.below_drewN ?_ _) | (with_reducible refine Below.drew ?_) | (with_reducible refine Below.setCell ?_ ?_ _) | go_size))⟩
        case round =>
          obtain ⟨j, hj, rfl, rfl, hbq⟩ := hrel
          have hnb := nextG_bd (k := j) hMk (fun i hi => HM.out i (by omega)) (by omega)
          have HSUC := Lib.hid (show nextG M k (j + 1) = if 0 < M j - M k ∧ (nextG M k j < 0 ∨ M j - M k < nextG M k j) then M j - M k else nextG M k j from rfl)
          obtain ⟨y, hy⟩ : ∃ y, y = nextG M k j := ⟨_, rfl⟩
          rw [← hy] at hnb HSUC ⊢
          by_cases hlj : j < n
          · obtain ⟨b, off, rfl, hb, hc⟩ := (hvw.below (hbr.trans (hbq.mono hbr.size))).at_ (by omega)
            obtain ⟨a0, a1, a2⟩ := cells3 hc k hlt
            obtain ⟨b0, b1, b2⟩ := cells3 hc j hlj
            have hMj := HM.out j hlj
            have e1 : IntKind.i64.wrap (M j - M k) = M j - M k := IntWalk.i64_in _ (by omega)
            have i1 : (0 : Int) ≤ (k : Int) := by omega
            have i2 : (k : Int) < (n : Int) := by omega
            have i3 : (0 : Int) ≤ (j : Int) := by omega
            have i4 : (j : Int) < (n : Int) := by omega
            clear hc a0 a1 b0 b1 hy
            by_cases c1 : 0 < M j - M k
            · by_cases c2 : y < 0
              · have HE := Lib.hid (show nextG M k (j + 1) = M j - M k by rw [HSUC.out, if_pos ⟨c1, .inl c2⟩])
                go_wp2
                go_quiet (fail)
                clear e1
                go_wp2
                go_roundw
                case rel => exact ⟨j + 1, by omega, by go_num, by rw [HE.out], (by repeat' (first | (with_reducible exact Below.refl _ _) | (with_reducible assumption) | (with_reducible refine Base.grow_alloc ?_ _) | (with_reducible refine Base.below_drewN ?_ _) | (with_reducible refine Below.drew ?_) | (with_reducible refine Below.setCell ?_ ?_ _) | go_size))⟩
                case measure => simp [intOf]; omega
              · by_cases c3 : M j - M k < y
                · have HE := Lib.hid (show nextG M k (j + 1) = M j - M k by rw [HSUC.out, if_pos ⟨c1, .inr c3⟩])
                  go_wp2
                  go_quiet (fail)
                  clear e1
                  go_wp2
                  go_roundw
                  case rel => exact ⟨j + 1, by omega, by go_num, by rw [HE.out], (by repeat' (first | (with_reducible exact Below.refl _ _) | (with_reducible assumption) | (with_reducible refine Base.grow_alloc ?_ _) | (with_reducible refine Base.below_drewN ?_ _) | (with_reducible refine Below.drew ?_) | (with_reducible refine Below.setCell ?_ ?_ _) | go_size))⟩
                  case measure => simp [intOf]; omega
                · have HE := Lib.hid (show nextG M k (j + 1) = y by rw [HSUC.out, if_neg (by omega)])
                  go_wp2
                  go_quiet (fail)
                  clear e1
                  go_wp2
                  go_roundw
                  case rel => exact ⟨j + 1, by omega, by go_num, by rw [HE.out], (by repeat' (first | (with_reducible exact Below.refl _ _) | (with_reducible assumption) | (with_reducible refine Base.grow_alloc ?_ _) | (with_reducible refine Base.below_drewN ?_ _) | (with_reducible refine Below.drew ?_) | (with_reducible refine Below.setCell ?_ ?_ _) | go_size))⟩
                  case measure => simp [intOf]; omega
            · have HE := Lib.hid (show nextG M k (j + 1) = y by rw [HSUC.out, if_neg (by omega)])
              go_wp2
              go_quiet (fail)
              clear e1
              go_wp2
              go_roundw
              case rel => exact ⟨j + 1, by omega, by go_num, by rw [HE.out], (by repeat' (first | (with_reducible exact Below.refl _ _) | (with_reducible assumption) | (with_reducible refine Base.grow_alloc ?_ _) | (with_reducible refine Base.below_drewN ?_ _) | (with_reducible refine Below.drew ?_) | (with_reducible refine Below.setCell ?_ ?_ _) | go_size))⟩
              case measure => simp [intOf]; omega
          · have hjn : j = n := by omega
            subst hjn
            clear HSUC
            by_cases cv : v < y
            · have HY := Lib.hid (sel_yes (k := k) (P := gapB M v j) (g := iotaI) (by rw [gapB, ← hy]; simp [cv]))
              have hown := HOWN.out
              have hzq := hbq.size
              clear hy
              go_wp2_with (first | (at_builtin; refine wpList_append_own _ rfl _ _ 46 rfl (w1.heap.size) 2 i0 _ 1 8 Try.underlying46 hi0 hz0 hz1 hz2 rfl (by decide) _ _ _ rfl (own_of_below hown (by repeat' (first | (with_reducible exact Below.refl _ _) | (with_reducible assumption) | (with_reducible refine Base.via hbq ?_) | (with_reducible refine Base.grow_alloc ?_ _) | (with_reducible refine Base.below_drewN ?_ _) | (with_reducible refine Below.drew ?_) | (with_reducible refine Below.setCell ?_ ?_ _) | go_size))) ⟨_, 0, none⟩ 1 1 [.int .i64 ((k : Int))] rfl rfl (cell_newL _ [.int .i64 ((k : Int))] _ (by simp)) (by simp [Value.oneCell']) (by simp only [maxLen]; omega) (by omega) (by simp; omega) ?_))
              intro v' w3 hown' hgrow _
              have hb3 : Below w1.heap.size w1 w3 := own_grow (by repeat' (first | (with_reducible exact Below.refl _ _) | (with_reducible assumption) | (with_reducible refine Base.via hbq ?_) | (with_reducible refine Base.grow_alloc ?_ _) | (with_reducible refine Base.below_drewN ?_ _) | (with_reducible refine Below.drew ?_) | (with_reducible refine Below.setCell ?_ ?_ _) | go_size)) hown (Nat.le_refl _) hgrow
              clear hown hgrow
              go_wp2
              go_roundw
              case rel => exact ⟨k + 1, by omega, by go_num, by rw [HY.out]; exact own_snoc hown', hb3⟩
              case measure => simp [intOf]; omega
            · have HY := Lib.hid (sel_no (k := k) (P := gapB M v j) (g := iotaI) (by rw [gapB, ← hy]; simp; omega))
              clear hy
              go_wp2
              go_roundw
              case rel => exact ⟨k + 1, by omega, by go_num, by rw [HY.out]; exact own_of_below HOWN.out hbq, (by repeat' (first | (with_reducible exact Below.refl _ _) | (with_reducible assumption) | (with_reducible refine Base.via hbq ?_) | (with_reducible refine Base.via hbr ?_) | (with_reducible refine Base.grow_alloc ?_ _) | (with_reducible refine Base.below_drewN ?_ _) | (with_reducible refine Below.drew ?_) | (with_reducible refine Below.setCell ?_ ?_ _) | go_size))⟩
              case measure => simp [intOf]; omega
      · have hkn : k = n := by omega
        subst hkn
        go_wp2
        go_ret2
        exact ⟨_, ret_slice HC.out.symm, by rw [HL.out]; exact (OwnK.of_list hown (by omega)).mono hb1.size, (by repeat' (first | (with_reducible exact Below.refl _ _) | (with_reducible assumption) | (with_reducible refine Base.via hbr ?_) | (with_reducible refine Base.via hb1 ?_) | (with_reducible refine Base.grow_alloc ?_ _) | (with_reducible refine Base.below_drewN ?_ _) | (with_reducible refine Below.drew ?_) | (with_reducible refine Below.setCell ?_ ?_ _) | go_size))⟩
  all_goals
    have HL := Lib.hid (show (mgL n X Y M v).length = 0 by rw [mgL, hc]; rfl)
    have HC := Lib.hid hc
    clear hc
    go_enter Try.func38, Try.ntmps38
    go_wp2_with (first | (go_at_call 67; refine (c_l07Ok _ _ _ X Y M _ (hv.below (by repeat' (first | (with_reducible exact Below.refl _ _) | (with_reducible assumption) | (with_reducible refine Base.grow_alloc ?_ _) | (with_reducible refine Base.below_drewN ?_ _) | (with_reducible refine Below.drew ?_) | (with_reducible refine Below.setCell ?_ ?_ _) | go_size)))).mono ?_; rintro e w1 ⟨rfl, hb1⟩; obtain ⟨chb1, fhb1⟩ := Base.bcell hb1; have zhb1 := (hb1).size; (try simp at zhb1); (try have yhb1 : w.heap.size < (w1).heap.size := by omega)) | (go_at_call 76; refine (c_l00In _ _ _ _).mono ?_; rintro e w' ⟨rfl, rfl⟩))
    go_ret2
    exact ⟨_, ret_slice HC.out.symm, OwnK.zero HL.out, (by repeat' (first | (with_reducible exact Below.refl _ _) | (with_reducible assumption) | (with_reducible refine Base.via hb1 ?_) | (with_reducible refine Base.grow_alloc ?_ _) | (with_reducible refine Base.below_drewN ?_ _) | (with_reducible refine Below.drew ?_) | (with_reducible refine Below.setCell ?_ ?_ _) | go_size))⟩
end Go.Proofs.Ytiinjnghnfofpaa.MagG
