/- The pairs of estimates that contradict each other: both sides. -/
import Derived.Test.YthojfmlnnclghaaCtI
import Derived.Test.YthojfmlnnclghaaFrac
namespace Go.Proofs.Ythojfmlnnclghaa.Ct
set_option linter.unusedVariables false
set_option linter.unusedSimpArgs false
set_option maxRecDepth 8000
open Go.RowKit Go.Shelf Plain Num View Est Name Es1 OkE CvQ Nst Prs

theorem ct_len (n : Nat) (E : Nat → E5) (a d : Int) (h : n ≤ 100) (i : Nat) (hi : i ≤ n) : (prs (ctP E a d) n i).length ≤ 10000 := by
  have h1 := prs_len (p := ctP E a d) (n := n) (i := i)
  have h2 : i * n ≤ 100 * 100 := Nat.mul_le_mul (by omega) h
  omega
set_option maxHeartbeats 1600000 in
theorem c_Contradictions (A : Option Addr) (n c : Nat) (E : Nat → E5) (a d : Int) (w : World) (hv : Sl w 5 A n c (f5 E)) :
    Calls Try.prog 18 #[.slice A n c, .int .i64 a, .int .i64 d] w fun e w' => ∃ u G, e = .returned (.tuple #[u, .int .i64 (ctC n E a d)]) ∧ Nst w' w.heap.size w'.heap.size 65 2 u (ctL n E a d).length G (pf (ctL n E a d)) ∧ Below w.heap.size w w' := by
  have hn := hv.le
  have eg : ∀ args w, (callFunc 45 args).run Try.prog w = .ok (.enter 45 args) w := enters_of Try.func45 (by kernel_rfl) rfl
  have HV := Lib.hid (fun (W : World) (hW : Sl W 5 A n c (f5 E)) => c_ValidEstimates A n c E W hW)
  rcases ct_cases n E a d with ⟨h1, h2, h3, hc⟩ | ⟨h1, h2, h3, hc⟩ | ⟨h1, h2, hc⟩ | ⟨h1, hc⟩
  · have h100 := okE_le h1
    have hdb := inB_iff.1 h3
    have HL := Lib.hid (show ctL n E a d = prs (ctP E a d) n n by rw [ctL, if_pos hc])
    have HC := Lib.hid hc
    have HBD := Lib.hid (ok_bd h1)
    rw [h1] at HV
    clear hc h1
    go_enter Try.func18, Try.ntmps18
    go_wp2_with fail
    refine (HV.out _ (hv.below (by repeat' (first | (with_reducible exact Below.refl _ _) | (with_reducible assumption) | (with_reducible refine Base.grow_alloc ?_ _) | (with_reducible refine Base.below_drewN ?_ _) | (with_reducible refine Below.drew ?_) | (with_reducible refine Below.setCell ?_ ?_ _) | go_size)))).mono ?_
    rintro e w1 ⟨rfl, hb1⟩
    have k0 : World.cell? w1 ⟨w.heap.size, 0, none⟩ = some (.slice A n c) := ((hb1.cell (p := ⟨w.heap.size, 0, none⟩) (by first | (simp; done) | (simp; omega) | omega)).trans (by simp [go_sem]))
    have k1 : World.cell? w1 ⟨w.heap.size + 1, 0, none⟩ = some (.int .i64 a) := ((hb1.cell (p := ⟨w.heap.size + 1, 0, none⟩) (by first | (simp; done) | (simp; omega) | omega)).trans (by simp [go_sem]))
    have k2 : World.cell? w1 ⟨w.heap.size + 1 + 1, 0, none⟩ = some (.int .i64 d) := ((hb1.cell (p := ⟨w.heap.size + 1 + 1, 0, none⟩) (by first | (simp; done) | (simp; omega) | omega)).trans (by simp [go_sem]))
    have hbw : Below w.heap.size w w1 := (by repeat' (first | (with_reducible exact Below.refl _ _) | (with_reducible assumption) | (with_reducible refine Base.via hb1 ?_) | (with_reducible refine Base.grow_alloc ?_ _) | (with_reducible refine Base.below_drewN ?_ _) | (with_reducible refine Below.drew ?_) | (with_reducible refine Below.setCell ?_ ?_ _) | go_size))
    have HP := Lib.hid (show Pred2 Try.prog w1 45 #[.pointer (some ⟨w.heap.size, 0, none⟩), .pointer (some ⟨w.heap.size + 1, 0, none⟩), .pointer (some ⟨w.heap.size + 1 + 1, 0, none⟩)] n (ctP E a d) from fun W hW i k hik hk => c_ct1 A n c E a d w.heap.size (w.heap.size + 1) (w.heap.size + 1 + 1) i k W (cell_call hW k0) (cell_call hW k1) (cell_call hW k2) (hv.below (hbw.trans (hW.mono hbw.size))) (by omega) hk HBD.out (by omega))
    go_wp2_with (first | (go_at_call 43; refine (c_in _ _ _ _).mono ?_; rintro e w' ⟨rfl, rfl⟩) | (go_at_call 44; refine (c_pairsWhere n 45 _ _ _ eg h100 HP.out).mono ?_))
    rintro e w2 ⟨u, G, rfl, ho, hb2⟩
    go_wp2
    go_ret2
    exact ⟨u, G, ret_slice HC.out.symm, by rw [HL.out]; exact ho.mono hbw.size, (by repeat' (first | (with_reducible exact Below.refl _ _) | (with_reducible assumption) | (with_reducible refine Base.via hb2 ?_) | (with_reducible refine Base.via hbw ?_) | (with_reducible refine Base.grow_alloc ?_ _) | (with_reducible refine Base.below_drewN ?_ _) | (with_reducible refine Below.drew ?_) | (with_reducible refine Below.setCell ?_ ?_ _) | go_size))⟩
  · have HL := Lib.hid (show (ctL n E a d).length = 0 by rw [ctL, hc]; rfl)
    have HC := Lib.hid hc
    rw [h1] at HV
    clear hc h1
    go_enter Try.func18, Try.ntmps18
    go_wp2_with fail
    refine (HV.out _ (hv.below (by repeat' (first | (with_reducible exact Below.refl _ _) | (with_reducible assumption) | (with_reducible refine Base.grow_alloc ?_ _) | (with_reducible refine Base.below_drewN ?_ _) | (with_reducible refine Below.drew ?_) | (with_reducible refine Below.setCell ?_ ?_ _) | go_size)))).mono ?_
    rintro e w1 ⟨rfl, hb1⟩
    have k0 : World.cell? w1 ⟨w.heap.size, 0, none⟩ = some (.slice A n c) := ((hb1.cell (p := ⟨w.heap.size, 0, none⟩) (by first | (simp; done) | (simp; omega) | omega)).trans (by simp [go_sem]))
    have k1 : World.cell? w1 ⟨w.heap.size + 1, 0, none⟩ = some (.int .i64 a) := ((hb1.cell (p := ⟨w.heap.size + 1, 0, none⟩) (by first | (simp; done) | (simp; omega) | omega)).trans (by simp [go_sem]))
    have k2 : World.cell? w1 ⟨w.heap.size + 1 + 1, 0, none⟩ = some (.int .i64 d) := ((hb1.cell (p := ⟨w.heap.size + 1 + 1, 0, none⟩) (by first | (simp; done) | (simp; omega) | omega)).trans (by simp [go_sem]))
    go_wp2_with (first | (go_at_call 43; refine (c_in _ _ _ _).mono ?_; rintro e w' ⟨rfl, rfl⟩))
    go_ret2
    exact ⟨_, fun _ => 0, ret_slice HC.out.symm, Nst.nil _ _ _ _ _ _ HL.out, (by repeat' (first | (with_reducible exact Below.refl _ _) | (with_reducible assumption) | (with_reducible refine Base.via hb1 ?_) | (with_reducible refine Base.grow_alloc ?_ _) | (with_reducible refine Base.below_drewN ?_ _) | (with_reducible refine Below.drew ?_) | (with_reducible refine Below.setCell ?_ ?_ _) | go_size))⟩
  · have HL := Lib.hid (show (ctL n E a d).length = 0 by rw [ctL, hc]; rfl)
    have HC := Lib.hid hc
    rw [h1] at HV
    clear hc h1
    go_enter Try.func18, Try.ntmps18
    go_wp2_with fail
    refine (HV.out _ (hv.below (by repeat' (first | (with_reducible exact Below.refl _ _) | (with_reducible assumption) | (with_reducible refine Base.grow_alloc ?_ _) | (with_reducible refine Base.below_drewN ?_ _) | (with_reducible refine Below.drew ?_) | (with_reducible refine Below.setCell ?_ ?_ _) | go_size)))).mono ?_
    rintro e w1 ⟨rfl, hb1⟩
    have k0 : World.cell? w1 ⟨w.heap.size, 0, none⟩ = some (.slice A n c) := ((hb1.cell (p := ⟨w.heap.size, 0, none⟩) (by first | (simp; done) | (simp; omega) | omega)).trans (by simp [go_sem]))
    have k1 : World.cell? w1 ⟨w.heap.size + 1, 0, none⟩ = some (.int .i64 a) := ((hb1.cell (p := ⟨w.heap.size + 1, 0, none⟩) (by first | (simp; done) | (simp; omega) | omega)).trans (by simp [go_sem]))
    have k2 : World.cell? w1 ⟨w.heap.size + 1 + 1, 0, none⟩ = some (.int .i64 d) := ((hb1.cell (p := ⟨w.heap.size + 1 + 1, 0, none⟩) (by first | (simp; done) | (simp; omega) | omega)).trans (by simp [go_sem]))
    go_wp2_with (first | (go_at_call 43; refine (c_in _ _ _ _).mono ?_; rintro e w' ⟨rfl, rfl⟩))
    go_ret2
    exact ⟨_, fun _ => 0, ret_slice HC.out.symm, Nst.nil _ _ _ _ _ _ HL.out, (by repeat' (first | (with_reducible exact Below.refl _ _) | (with_reducible assumption) | (with_reducible refine Base.via hb1 ?_) | (with_reducible refine Base.grow_alloc ?_ _) | (with_reducible refine Base.below_drewN ?_ _) | (with_reducible refine Below.drew ?_) | (with_reducible refine Below.setCell ?_ ?_ _) | go_size))⟩
  · have HL := Lib.hid (show (ctL n E a d).length = 0 by rw [ctL, hc]; rfl)
    have HC := Lib.hid hc
    rw [h1] at HV
    clear hc h1
    go_enter Try.func18, Try.ntmps18
    go_wp2_with fail
    refine (HV.out _ (hv.below (by repeat' (first | (with_reducible exact Below.refl _ _) | (with_reducible assumption) | (with_reducible refine Base.grow_alloc ?_ _) | (with_reducible refine Base.below_drewN ?_ _) | (with_reducible refine Below.drew ?_) | (with_reducible refine Below.setCell ?_ ?_ _) | go_size)))).mono ?_
    rintro e w1 ⟨rfl, hb1⟩
    go_wp2_with fail
    go_ret2
    exact ⟨_, fun _ => 0, ret_slice HC.out.symm, Nst.nil _ _ _ _ _ _ HL.out, (by repeat' (first | (with_reducible exact Below.refl _ _) | (with_reducible assumption) | (with_reducible refine Base.via hb1 ?_) | (with_reducible refine Base.grow_alloc ?_ _) | (with_reducible refine Base.below_drewN ?_ _) | (with_reducible refine Below.drew ?_) | (with_reducible refine Below.setCell ?_ ?_ _) | go_size))⟩
set_option maxHeartbeats 1600000 in
theorem c_l06Against (x y : E5) (b off b' off' : Nat) (d : Int) (w : World) (h3 : w.cell? ⟨b, off + 3, none⟩ = some (.int .i64 x.m)) (h4 : w.cell? ⟨b, off + 4, none⟩ = some (.bool x.b)) (k3 : w.cell? ⟨b', off' + 3, none⟩ = some (.int .i64 y.m)) (k4 : w.cell? ⟨b', off' + 4, none⟩ = some (.bool y.b)) (hx : -2000 ≤ x.m ∧ x.m ≤ 20000) (hy : -2000 ≤ y.m ∧ y.m ≤ 20000) (hd : 0 ≤ d ∧ d ≤ 20000)
    : Calls Try.prog 42 #[.pointer (some ⟨b, off, none⟩), .pointer (some ⟨b', off', none⟩), .int .i64 d] w fun r w' => r = .returned (.bool (agE d x y)) ∧ Below w.heap.size w w' := by
  have lb := World.block_lt_of_cell? _ _ h3
  have lb' := World.block_lt_of_cell? _ _ k3
  dsimp only at lb lb'
  obtain ⟨t, s, o, m, z⟩ := x
  obtain ⟨t', s', o', m', z'⟩ := y
  dsimp only at h3 h4 k3 k4 hx hy
  obtain ⟨r, hr⟩ : ∃ r, agE d ⟨t, s, o, m, z⟩ ⟨t', s', o', m', z'⟩ = r := ⟨_, rfl⟩
  rw [hr]
  have e1 : IntKind.i64.wrap (m - m') = m - m' := IntWalk.i64_in _ (by omega)
  have e2 : IntKind.i64.wrap (m' + d) = m' + d := IntWalk.i64_in _ (by omega)
  have e3 : IntKind.i64.wrap (m + d) = m + d := IntWalk.i64_in _ (by omega)
  have HS := Lib.hid (fun W => c_l02Size (m - m') W (by omega) (by omega))
  cases z <;> cases z' <;> simp only [agE, if_true, if_false, Bool.false_eq_true] at hr <;>
    (have HR := Lib.hid hr
     clear hr
     go_enter Try.func42, Try.ntmps42
     go_wp2
     try (go_quiet ((go_at_call 69; exact Calls.quiet_of_same ((HS.out _).mono fun _ _ h => ⟨h.1, h.2.symm⟩))); go_wp2)
     go_ret
     exact ⟨ret_b HR.out, (by repeat' (first | (with_reducible exact Below.refl _ _) | (with_reducible assumption) | (with_reducible refine Base.grow_alloc ?_ _) | (with_reducible refine Base.below_drewN ?_ _) | (with_reducible refine Below.drew ?_) | (with_reducible refine Below.setCell ?_ ?_ _) | go_size))⟩)
set_option maxHeartbeats 6400000 in
theorem c_specContradictions (A : Option Addr) (n c : Nat) (E : Nat → E5) (a d : Int) (w : World) (hv : Sl w 5 A n c (f5 E)) :
    Calls Try.prog 17 #[.slice A n c, .int .i64 a, .int .i64 d] w fun e w' => ∃ u G, e = .returned (.tuple #[u, .int .i64 (ctC n E a d)]) ∧ Nst w' w.heap.size w'.heap.size 65 2 u (ctL n E a d).length G (pf (ctL n E a d)) ∧ Below w.heap.size w w' := by
  have hn := hv.le
  obtain ⟨i0, hi0, hz0, hz1, hz2⟩ := info_parts infoSl
  have HV := Lib.hid (fun (W : World) (hW : Sl W 5 A n c (f5 E)) => c_l06Ok A n c E W hW)
  rcases ct_cases n E a d with ⟨h1, h2, h3, hc⟩ | ⟨h1, h2, h3, hc⟩ | ⟨h1, h2, hc⟩ | ⟨h1, hc⟩
  · have h100 := okE_le h1
    have hdb := inB_iff.1 h3
    have HL := Lib.hid (show ctL n E a d = prs (ctP E a d) n n by rw [ctL, if_pos hc])
    have HC := Lib.hid hc
    have HBD := Lib.hid (ok_bd h1)
    have HTM := Lib.hid (tmono h1)
    have HPL := Lib.hid (ct_len n E a d h100)
    rw [h1] at HV
    clear hc h1
    go_enter Try.func17, Try.ntmps17
    go_wp2_with fail
    refine (HV.out _ (hv.below (by repeat' (first | (with_reducible exact Below.refl _ _) | (with_reducible assumption) | (with_reducible refine Base.grow_alloc ?_ _) | (with_reducible refine Base.below_drewN ?_ _) | (with_reducible refine Below.drew ?_) | (with_reducible refine Below.setCell ?_ ?_ _) | go_size)))).mono ?_
    rintro e w1 ⟨rfl, hb1⟩
    go_wp2_with (first | (go_at_call 41; refine (c_l00In _ _ _ _).mono ?_; rintro e w' ⟨rfl, rfl⟩))
    clear h2 h3
    go_loopw [8, 9, 10] (fun v q _ wr => ∃ (i : Nat) (G : Nat → Nat), i ≤ n ∧ q = .int .i64 i ∧ Hid (Bld wr w1.heap.size 65 2 v (prs (ctP E a d) n i) G) ∧ Below w1.heap.size w1 wr) (fun _ q _ _ => n - (intOf q).toNat)
    case atStart => exact ⟨0, _, Nat.zero_le _, rfl, Bld.made (Nat.le_refl _), (by repeat' (first | (with_reducible exact Below.refl _ _) | (with_reducible assumption) | (with_reducible refine Base.grow_alloc ?_ _) | (with_reducible refine Base.below_drewN ?_ _) | (with_reducible refine Below.drew ?_) | (with_reducible refine Below.setCell ?_ ?_ _) | go_size))⟩
    case round =>
      obtain ⟨i, G0, hi, rfl, hbl, hbr⟩ := hrel
      have hz := hbr.size
      by_cases hlt : i < n
      · have HB := Lib.hid hbl.out
        have hll := HPL.out i hi
        have HPI := Lib.hid (show prs (ctP E a d) n (i + 1) = prs (ctP E a d) n i ++ rowP (ctP E a d) i n from rfl)
        have HR0 := Lib.hid (show prs (ctP E a d) n i ++ rowP (ctP E a d) i (i + 1) = prs (ctP E a d) n i by rw [rowP_lo (Nat.le_refl _), List.append_nil])
        clear hbl
        go_wp2
        obtain ⟨wo, hwo⟩ : ∃ wo : World, wo = wr := ⟨_, rfl⟩
        rw [← hwo] at hbr hz HB ⊢
        clear hwo
        go_loopw [8, 10] (fun v q wq => ∃ (k : Nat) (G : Nat → Nat), i + 1 ≤ k ∧ k ≤ n ∧ q = .int .i64 k ∧ Hid (Bld wq w1.heap.size 65 2 v (prs (ctP E a d) n i ++ rowP (ctP E a d) i k) G) ∧ Below w1.heap.size w1 wq) (fun _ q _ => n - (intOf q).toNat)
        case atStart => exact ⟨i + 1, G0, Nat.le_refl _, by omega, by go_num, (by rw [HR0.out]; exact HB.out), hbr⟩
        case round =>
          obtain ⟨k, G, hik, hkn, rfl, hbk, hbq⟩ := hrel
          have hzq := hbq.size
          have hrl := rowP_len (p := ctP E a d) (i := i) (k := k)
          have hlen : (prs (ctP E a d) n i ++ rowP (ctP E a d) i k).length ≤ 20000 := by rw [List.length_append]; omega
          by_cases hlk : k < n
          · obtain ⟨b, off, rfl, hb, hcc⟩ := ((hv.below hb1).below hbq).at_ (by omega)
            obtain ⟨a0, a1, a2, a3, a4⟩ := cells5 hcc i hlt
            obtain ⟨c0, c1, c2, c3, c4⟩ := cells5 hcc k hlk
            have hbi := HBD.out i hlt
            have hbk' := HBD.out k hlk
            have htt := HTM.out i k (by omega) hlk
            have HAG := Lib.hid (fun W (hW : Below wr.heap.size wr W) => c_l06Against (E i) (E k) b (off + i * 5) b (off + k * 5) d W (cell_call hW a3) (cell_call hW a4) (cell_call hW c3) (cell_call hW c4) hbi.2 hbk'.2 (by omega))
            have HO : Hid (ctP E a d i k = (decide ((E i).s = (E k).s) && (decide ((E k).t - (E i).t ≤ a) && agE d (E i) (E k)))) := Lib.hid (by
              have e : absI ((E i).t - (E k).t) = (E k).t - (E i).t := by unfold absI; split <;> omega
              rw [ctP, e])
            have HY := Lib.hid (fun (h : ctP E a d i k = true) => show prs (ctP E a d) n i ++ rowP (ctP E a d) i (k + 1) = (prs (ctP E a d) n i ++ rowP (ctP E a d) i k) ++ [((i : Int), (k : Int))] by rw [rowP_yes (by omega) h, List.append_assoc])
            have HN := Lib.hid (fun (h : ctP E a d i k = false) => show prs (ctP E a d) n i ++ rowP (ctP E a d) i (k + 1) = prs (ctP E a d) n i ++ rowP (ctP E a d) i k by rw [rowP_no h])
            have e1 := bts_eq (E i).s (E k).s
            have wr1 : IntKind.i64.wrap ((E k).t - (E i).t) = (E k).t - (E i).t := IntWalk.i64_in _ (by omega)
            have i1 : (0 : Int) ≤ (k : Int) := by omega
            have i2 : (k : Int) < (n : Int) := by omega
            have i3 : (0 : Int) ≤ (i : Int) := by omega
            have i4 : (i : Int) < (n : Int) := by omega
            clear hcc a2 a3 a4 c2 c3 c4
            generalize prs (ctP E a d) n i ++ rowP (ctP E a d) i k = L at *
            generalize decide ((E i).s = (E k).s) = z1 at *
            obtain ⟨z2, hz2'⟩ : ∃ z2, decide ((E k).t - (E i).t ≤ a) = z2 := ⟨_, rfl⟩
            rw [hz2'] at HO
            obtain ⟨z3, hz3⟩ : ∃ z3, agE d (E i) (E k) = z3 := ⟨_, rfl⟩
            rw [hz3] at HO HAG
            clear hz3
            cases z1
            · have HN2 := Lib.hid (HN.out (by rw [HO.out]; rfl))
              clear HN HY HAG
              go_wp2
              go_quiet (fail)
              clear wr1
              go_wp2
              exact ⟨⟨k + 1, G, by omega, by omega, by go_num, by rw [HN2.out]; exact hbk.out.below (by repeat' (first | (with_reducible exact Below.refl _ _) | (with_reducible assumption) | (with_reducible refine Base.grow_alloc ?_ _) | (with_reducible refine Base.below_drewN ?_ _) | (with_reducible refine Below.drew ?_) | (with_reducible refine Below.setCell ?_ ?_ _) | go_size)), (by repeat' (first | (with_reducible exact Below.refl _ _) | (with_reducible assumption) | (with_reducible refine Base.via hbq ?_) | (with_reducible refine Base.grow_alloc ?_ _) | (with_reducible refine Base.below_drewN ?_ _) | (with_reducible refine Below.drew ?_) | (with_reducible refine Below.setCell ?_ ?_ _) | go_size))⟩, by simp [intOf]; omega⟩
            · cases z2
              · have HN2 := Lib.hid (HN.out (by rw [HO.out]; rfl))
                clear HN HY HAG
                go_wp2
                go_quiet (fail)
                clear wr1
                go_wp2
                exact ⟨⟨k + 1, G, by omega, by omega, by go_num, by rw [HN2.out]; exact hbk.out.below (by repeat' (first | (with_reducible exact Below.refl _ _) | (with_reducible assumption) | (with_reducible refine Base.grow_alloc ?_ _) | (with_reducible refine Base.below_drewN ?_ _) | (with_reducible refine Below.drew ?_) | (with_reducible refine Below.setCell ?_ ?_ _) | go_size)), (by repeat' (first | (with_reducible exact Below.refl _ _) | (with_reducible assumption) | (with_reducible refine Base.via hbq ?_) | (with_reducible refine Base.grow_alloc ?_ _) | (with_reducible refine Base.below_drewN ?_ _) | (with_reducible refine Below.drew ?_) | (with_reducible refine Below.setCell ?_ ?_ _) | go_size))⟩, by simp [intOf]; omega⟩
              · go_wp2
                go_still_tail 34, (by kernel_rfl)
                change wpList _ _ _ _ _ wr.drew
                obtain ⟨w3, hw3⟩ : ∃ w3, w3 = wr.drew := ⟨_, rfl⟩
                have hb3 : Below wr.heap.size wr w3 := by rw [hw3]; exact (Below.refl _ _).drew
                rw [← hw3]
                clear hw3 wr1
                go_wp2_with fail
                refine (HAG.out _ hb3).mono ?_
                rintro e w4 ⟨rfl, hb4⟩
                have zz := hb3.size
                have zz4 := hb4.size
                cases z3
                · have HN2 := Lib.hid (HN.out (by rw [HO.out]; rfl))
                  clear HN HY HAG
                  go_wp2
                  exact ⟨⟨k + 1, G, by omega, by omega, by go_num, by rw [HN2.out]; exact hbk.out.below (by repeat' (first | (with_reducible exact Below.refl _ _) | (with_reducible assumption) | (with_reducible refine Base.via hb4 ?_) | (with_reducible refine Base.via hb3 ?_) | (with_reducible refine Base.grow_alloc ?_ _) | (with_reducible refine Base.below_drewN ?_ _) | (with_reducible refine Below.drew ?_) | (with_reducible refine Below.setCell ?_ ?_ _) | go_size)), (by repeat' (first | (with_reducible exact Below.refl _ _) | (with_reducible assumption) | (with_reducible refine Base.via hb4 ?_) | (with_reducible refine Base.via hb3 ?_) | (with_reducible refine Base.via hbq ?_) | (with_reducible refine Base.grow_alloc ?_ _) | (with_reducible refine Base.below_drewN ?_ _) | (with_reducible refine Below.drew ?_) | (with_reducible refine Below.setCell ?_ ?_ _) | go_size))⟩, by simp [intOf]; omega⟩
                · have HY2 := Lib.hid (HY.out (by rw [HO.out]; rfl))
                  clear HN HY HAG
                  have hbd := Lib.hid ((hbk.out.below hb3).below hb4)
                  go_wp2_with (at_builtin; refine wpList_append_lies _ rfl _ _ 34 rfl (w1.heap.size) 65 i0 _ 1 24 Try.underlying34 hi0 hz0 hz1 hz2 rfl (by decide) _ _ _ rfl (own_of_below hbd.out.1 (by repeat' (first | (with_reducible exact Below.refl _ _) | (with_reducible assumption) | (with_reducible refine Base.grow_alloc ?_ _) | (with_reducible refine Base.below_drewN ?_ _) | (with_reducible refine Below.drew ?_) | (with_reducible refine Below.setCell ?_ ?_ _) | go_size))) ⟨_, 0, none⟩ 1 1 [.slice (some ⟨w4.heap.size, 0, none⟩) 2 2] rfl rfl (cell_newL _ [.slice (some ⟨w4.heap.size, 0, none⟩) 2 2] _ (by simp)) (by simp [Value.oneCell']) (by decide) (by simp only [maxLen]; omega) (by omega) (by simp; omega) _ rfl ?_)
                  intro g' cap w2 hown' hgrow hat _
                  have HB2 := Lib.hid (hbd.out.snoc (x := (i : Int)) (y := (k : Int)) (by omega) (by repeat' (first | (with_reducible exact Below.refl _ _) | (with_reducible assumption) | (with_reducible refine Base.grow_alloc ?_ _) | (with_reducible refine Base.below_drewN ?_ _) | (with_reducible refine Below.drew ?_) | (with_reducible refine Below.setCell ?_ ?_ _) | go_size)) (Nat.le_refl _) ((lit_row (i : Int) (k : Int)).alloc _) hown' hgrow (hat.imp id fun e => by simp; omega))
                  have hb2 : Below w1.heap.size w1 w2 := hbd.out.grown (by repeat' (first | (with_reducible exact Below.refl _ _) | (with_reducible assumption) | (with_reducible refine Base.via hb4 ?_) | (with_reducible refine Base.via hb3 ?_) | (with_reducible refine Base.via hbq ?_) | (with_reducible refine Base.grow_alloc ?_ _) | (with_reducible refine Base.below_drewN ?_ _) | (with_reducible refine Below.drew ?_) | (with_reducible refine Below.setCell ?_ ?_ _) | go_size)) hgrow (Nat.le_refl _) (by simp; omega)
                  clear hown' hgrow hat hbd
                  go_wp2
                  exact ⟨⟨k + 1, _, by omega, by omega, by go_num, by rw [HY2.out]; exact HB2.out, hb2⟩, by simp [intOf]; omega⟩
          · have hkn' : k = n := by omega
            subst hkn'
            go_wp2
            exact ⟨⟨i + 1, G, by omega, by go_num, by rw [HPI.out]; exact hbk.out, hbq⟩, by simp [intOf]; omega⟩
      · have hkn : i = n := by omega
        subst hkn
        have hll := HPL.out i hi
        go_wp2
        go_ret2
        exact ⟨_, _, ret_slice HC.out.symm, by rw [HL.out]; exact (hbl.out.nst (by omega)).mono hb1.size, (by repeat' (first | (with_reducible exact Below.refl _ _) | (with_reducible assumption) | (with_reducible refine Base.via hbr ?_) | (with_reducible refine Base.via hb1 ?_) | (with_reducible refine Base.grow_alloc ?_ _) | (with_reducible refine Base.below_drewN ?_ _) | (with_reducible refine Below.drew ?_) | (with_reducible refine Below.setCell ?_ ?_ _) | go_size))⟩
  · have HL := Lib.hid (show (ctL n E a d).length = 0 by rw [ctL, hc]; rfl)
    have HC := Lib.hid hc
    rw [h1] at HV
    clear hc h1
    go_enter Try.func17, Try.ntmps17
    go_wp2_with fail
    refine (HV.out _ (hv.below (by repeat' (first | (with_reducible exact Below.refl _ _) | (with_reducible assumption) | (with_reducible refine Base.grow_alloc ?_ _) | (with_reducible refine Base.below_drewN ?_ _) | (with_reducible refine Below.drew ?_) | (with_reducible refine Below.setCell ?_ ?_ _) | go_size)))).mono ?_
    rintro e w1 ⟨rfl, hb1⟩
    go_wp2_with (first | (go_at_call 41; refine (c_l00In _ _ _ _).mono ?_; rintro e w' ⟨rfl, rfl⟩))
    go_ret2
    exact ⟨_, fun _ => 0, ret_slice HC.out.symm, Nst.nil _ _ _ _ _ _ HL.out, (by repeat' (first | (with_reducible exact Below.refl _ _) | (with_reducible assumption) | (with_reducible refine Base.via hb1 ?_) | (with_reducible refine Base.grow_alloc ?_ _) | (with_reducible refine Base.below_drewN ?_ _) | (with_reducible refine Below.drew ?_) | (with_reducible refine Below.setCell ?_ ?_ _) | go_size))⟩
  · have HL := Lib.hid (show (ctL n E a d).length = 0 by rw [ctL, hc]; rfl)
    have HC := Lib.hid hc
    rw [h1] at HV
    clear hc h1
    go_enter Try.func17, Try.ntmps17
    go_wp2_with fail
    refine (HV.out _ (hv.below (by repeat' (first | (with_reducible exact Below.refl _ _) | (with_reducible assumption) | (with_reducible refine Base.grow_alloc ?_ _) | (with_reducible refine Base.below_drewN ?_ _) | (with_reducible refine Below.drew ?_) | (with_reducible refine Below.setCell ?_ ?_ _) | go_size)))).mono ?_
    rintro e w1 ⟨rfl, hb1⟩
    go_wp2_with (first | (go_at_call 41; refine (c_l00In _ _ _ _).mono ?_; rintro e w' ⟨rfl, rfl⟩))
    go_ret2
    exact ⟨_, fun _ => 0, ret_slice HC.out.symm, Nst.nil _ _ _ _ _ _ HL.out, (by repeat' (first | (with_reducible exact Below.refl _ _) | (with_reducible assumption) | (with_reducible refine Base.via hb1 ?_) | (with_reducible refine Base.grow_alloc ?_ _) | (with_reducible refine Base.below_drewN ?_ _) | (with_reducible refine Below.drew ?_) | (with_reducible refine Below.setCell ?_ ?_ _) | go_size))⟩
  · have HL := Lib.hid (show (ctL n E a d).length = 0 by rw [ctL, hc]; rfl)
    have HC := Lib.hid hc
    rw [h1] at HV
    clear hc h1
    go_enter Try.func17, Try.ntmps17
    go_wp2_with fail
    refine (HV.out _ (hv.below (by repeat' (first | (with_reducible exact Below.refl _ _) | (with_reducible assumption) | (with_reducible refine Base.grow_alloc ?_ _) | (with_reducible refine Base.below_drewN ?_ _) | (with_reducible refine Below.drew ?_) | (with_reducible refine Below.setCell ?_ ?_ _) | go_size)))).mono ?_
    rintro e w1 ⟨rfl, hb1⟩
    go_wp2_with fail
    go_ret2
    exact ⟨_, fun _ => 0, ret_slice HC.out.symm, Nst.nil _ _ _ _ _ _ HL.out, (by repeat' (first | (with_reducible exact Below.refl _ _) | (with_reducible assumption) | (with_reducible refine Base.via hb1 ?_) | (with_reducible refine Base.grow_alloc ?_ _) | (with_reducible refine Base.below_drewN ?_ _) | (with_reducible refine Below.drew ?_) | (with_reducible refine Below.setCell ?_ ?_ _) | go_size))⟩
end Go.Proofs.Ythojfmlnnclghaa.Ct
