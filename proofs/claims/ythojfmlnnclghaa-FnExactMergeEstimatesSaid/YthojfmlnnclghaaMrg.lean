/- Two lists of estimates made one: the program's side. -/
import Derived.Test.YthojfmlnnclghaaAdE
import Derived.Laws.StructEq
namespace Go.Proofs.Ythojfmlnnclghaa.Mrg
set_option linter.unusedVariables false
set_option linter.unusedSimpArgs false
set_option maxRecDepth 8000
open Go.RowKit Go.Shelf Plain Num View Est Name Es1 Cmp OkE ChoE SrE CpK InsE BsE PutE AdE

def mgC (n : Nat) (E : Nat → E5) (m : Nat) (F : Nat → E5) : Int := if okE n E = true ∧ okE m F = true then (match mM (lsE n E) F m with | none => 9 | some L => if 100 < L.length then 5 else 0) else 1
def mgL (n : Nat) (E : Nat → E5) (m : Nat) (F : Nat → E5) : List E5 := if mgC n E m F = 0 then (mM (lsE n E) F m).getD [] else []
theorem mg_no {n : Nat} {E : Nat → E5} {m : Nat} {F : Nat → E5} (h : ¬ (okE n E = true ∧ okE m F = true)) : mgC n E m F = 1 ∧ (mgL n E m F).length = 0 := by
  have hc : mgC n E m F = 1 := by rw [mgC, if_neg h]
  exact ⟨hc, by rw [mgL, hc]; rfl⟩
theorem mg_none {n : Nat} {E : Nat → E5} {m : Nat} {F : Nat → E5} (h1 : okE n E = true) (h2 : okE m F = true) (h : mM (lsE n E) F m = none) : mgC n E m F = 9 ∧ (mgL n E m F).length = 0 := by
  have hc : mgC n E m F = 9 := by rw [mgC, if_pos ⟨h1, h2⟩, h]
  exact ⟨hc, by rw [mgL, hc]; rfl⟩
theorem mg_big {n : Nat} {E : Nat → E5} {m : Nat} {F : Nat → E5} {L : List E5} (h1 : okE n E = true) (h2 : okE m F = true) (h : mM (lsE n E) F m = some L) (hl : 100 < L.length) : mgC n E m F = 5 ∧ (mgL n E m F).length = 0 := by
  have hc : mgC n E m F = 5 := by rw [mgC, if_pos ⟨h1, h2⟩, h]; exact if_pos hl
  exact ⟨hc, by rw [mgL, hc]; rfl⟩
theorem mg_ok {n : Nat} {E : Nat → E5} {m : Nat} {F : Nat → E5} {L : List E5} (h1 : okE n E = true) (h2 : okE m F = true) (h : mM (lsE n E) F m = some L) (hl : ¬ 100 < L.length) : mgC n E m F = 0 ∧ mgL n E m F = L := by
  have hc : mgC n E m F = 0 := by rw [mgC, if_pos ⟨h1, h2⟩, h]; exact if_neg hl
  exact ⟨hc, by rw [mgL, if_pos hc, h]; rfl⟩
/-- two estimates of the same key differ -/
theorem neqEst (x y : E5) (w : World) : (binOp .neq 51 (.agg #[.int .i64 x.t, .string x.s, .string x.o, .int .i64 x.m, .bool x.b]) (.agg #[.int .i64 y.t, .string y.s, .string y.o, .int .i64 y.m, .bool y.b])).run Try.prog w = .ok (.bool (!(keq x y && sme x y))) w := by
  have u := Try.underlying2
  have a := Try.isAgg2
  have z := Try.sizeOf2
  have u2 := Try.underlying9
  have a2 := Try.isAgg9
  have z2 := Try.sizeOf9
  have u3 := Try.underlying4
  have a3 := Try.isAgg4
  have z3 := Try.sizeOf4
  have hS : Try.prog.underlying 51 = some (.struct (Try.prog.fieldsOf 51)) := by kernel_rfl
  have hp : Try.prog.stoodInHeld 51 = false := by kernel_rfl
  have e1 := bts_eq x.s y.s
  have e2 := bts_eq x.o y.o
  have hk : (keq x y && sme x y) = (decide (x.t = y.t) && (decide (x.s = y.s) && decide (x.o = y.o)) && (decide (x.m = y.m) && (x.b == y.b))) := rfl
  rw [hk, run_neq_struct, show (10000 : Nat) = 9999 + 1 from rfl, run_equalIn_agg w 9999 51 _ _ hS hp]
  simp only [Program.fieldsOf, Try.underlying51]
  obtain ⟨t, s, o, m, b⟩ := x
  obtain ⟨t', s', o', m', b'⟩ := y
  dsimp only at *
  generalize decide (s = s') = q1 at *
  generalize decide (o = o') = q2 at *
  go_simp
  by_cases h0 : t = t' <;> by_cases h1 : m = m' <;> cases q1 <;> cases q2 <;> cases b <;> cases b' <;> simp [*]
set_option maxHeartbeats 6400000 in
theorem c_MergeEstimates (b off n c : Nat) (E : Nat → E5) (b2 off2 m c2 : Nat) (F : Nat → E5) (w : World) (hv : Sl w 5 (some ⟨b, off, none⟩) n c (f5 E)) (hu : Sl w 5 (some ⟨b2, off2, none⟩) m c2 (f5 F)) :
    Calls Try.prog 33 #[.slice (some ⟨b, off, none⟩) n c, .slice (some ⟨b2, off2, none⟩) m c2] w fun r w' => ∃ u, r = .returned (.tuple #[u, .int .i64 (mgC n E m F)]) ∧ OwnK w' w.heap.size 51 5 u (mgL n E m F).length (f5 (leE (mgL n E m F))) ∧ Below w.heap.size w w' := by
  have hn := hv.le
  have hm := hu.le
  have HV1 := Lib.hid (fun (W : World) (hW : Sl W 5 (some ⟨b, off, none⟩) n c (f5 E)) => c_ValidEstimates (some ⟨b, off, none⟩) n c E W hW)
  have HV2 := Lib.hid (fun (W : World) (hW : Sl W 5 (some ⟨b2, off2, none⟩) m c2 (f5 F)) => c_ValidEstimates (some ⟨b2, off2, none⟩) m c2 F W hW)
  cases h1 : okE n E
  · obtain ⟨hc, hl⟩ := mg_no (n := n) (E := E) (m := m) (F := F) (fun h => by rw [h1] at h; cases h.1)
    have HC := Lib.hid hc
    have HL := Lib.hid hl
    rw [h1] at HV1
    clear hc hl h1
    generalize mgC n E m F = CC at *
    generalize mgL n E m F = LL at *
    go_enter Try.func33, Try.ntmps33
    go_wp2_with fail
    refine (HV1.out _ hv).mono ?_
    rintro e w1 ⟨rfl, hb1⟩
    go_wp2_with fail
    go_ret2
    exact ⟨_, ret_ad HC.out.symm, OwnK.zero HL.out, (by repeat' (first | (with_reducible exact Below.refl _ _) | (with_reducible assumption) | (with_reducible refine Base.via hb1 ?_) | (with_reducible refine Base.grow_alloc ?_ _) | (with_reducible refine Base.below_drewN ?_ _) | (with_reducible refine Below.drew ?_) | (with_reducible refine Below.setCell ?_ ?_ _) | go_size))⟩
  · cases h2 : okE m F
    · obtain ⟨hc, hl⟩ := mg_no (n := n) (E := E) (m := m) (F := F) (fun h => by rw [h2] at h; cases h.2)
      have HC := Lib.hid hc
      have HL := Lib.hid hl
      rw [h1] at HV1
      rw [h2] at HV2
      clear hc hl h1 h2
      generalize mgC n E m F = CC at *
      generalize mgL n E m F = LL at *
      go_enter Try.func33, Try.ntmps33
      go_wp2_with fail
      refine (HV1.out _ hv).mono ?_
      rintro e w1 ⟨rfl, hb1⟩
      go_wp2_with fail
      refine (HV2.out _ (hu.below (by repeat' (first | (with_reducible exact Below.refl _ _) | (with_reducible assumption) | (with_reducible refine Base.via hb1 ?_) | (with_reducible refine Base.grow_alloc ?_ _) | (with_reducible refine Base.below_drewN ?_ _) | (with_reducible refine Below.drew ?_) | (with_reducible refine Below.setCell ?_ ?_ _) | go_size)))).mono ?_
      rintro e w2 ⟨rfl, hb2⟩
      go_wp2_with fail
      go_ret2
      exact ⟨_, ret_ad HC.out.symm, OwnK.zero HL.out, (by repeat' (first | (with_reducible exact Below.refl _ _) | (with_reducible assumption) | (with_reducible refine Base.via hb2 ?_) | (with_reducible refine Base.via hb1 ?_) | (with_reducible refine Base.grow_alloc ?_ _) | (with_reducible refine Base.below_drewN ?_ _) | (with_reducible refine Below.drew ?_) | (with_reducible refine Below.setCell ?_ ?_ _) | go_size))⟩
    · have hs1 := okE_srt h1
      have hn100 := okE_le h1
      have hm100 := okE_le h2
      have HINV := Lib.hid (fun i (hi : i ≤ m) L (h : mM (lsE n E) F i = some L) => mM_inv hs1 hi h)
      have HNO := Lib.hid (fun (h : mM (lsE n E) F m = none) => mg_none h1 h2 h)
      have HBG := Lib.hid (fun L (h : mM (lsE n E) F m = some L) (hl : 100 < L.length) => mg_big h1 h2 h hl)
      have HOK := Lib.hid (fun L (h : mM (lsE n E) F m = some L) (hl : ¬ 100 < L.length) => mg_ok h1 h2 h hl)
      have HMN := Lib.hid (fun i (hi : i ≤ m) (h : mM (lsE n E) F i = none) => mM_none h hi)
      rw [h1] at HV1
      rw [h2] at HV2
      clear h1 h2 hs1
      generalize mgC n E m F = CC at *
      generalize mgL n E m F = LL at *
      go_enter Try.func33, Try.ntmps33
      go_wp2_with fail
      refine (HV1.out _ hv).mono ?_
      rintro e w1 ⟨rfl, hb1⟩
      go_wp2_with fail
      refine (HV2.out _ (hu.below (by repeat' (first | (with_reducible exact Below.refl _ _) | (with_reducible assumption) | (with_reducible refine Base.via hb1 ?_) | (with_reducible refine Base.grow_alloc ?_ _) | (with_reducible refine Base.below_drewN ?_ _) | (with_reducible refine Below.drew ?_) | (with_reducible refine Below.setCell ?_ ?_ _) | go_size)))).mono ?_
      rintro e w2 ⟨rfl, hb2⟩
      have hbw : Below w.heap.size w w2 := (by repeat' (first | (with_reducible exact Below.refl _ _) | (with_reducible assumption) | (with_reducible refine Base.via hb2 ?_) | (with_reducible refine Base.via hb1 ?_) | (with_reducible refine Base.grow_alloc ?_ _) | (with_reducible refine Base.below_drewN ?_ _) | (with_reducible refine Below.drew ?_) | (with_reducible refine Below.setCell ?_ ?_ _) | go_size))
      go_wp2_with fail
      refine (c_copyOfE ⟨b, off, none⟩ n c E _ (hv.below hbw)).mono ?_
      rintro e w3 ⟨g0, cap0, rfl, ho3, hb3⟩
      have HO3 := Lib.hid ho3
      clear HV1 HV2 ho3
      go_wp2
      go_loopw [6, 8, 9, 10, 23] (fun u _ _ _ q wr => ∃ (i g cap : Nat) (L : List E5), i ≤ m ∧ q = .int .i64 i ∧ Hid (u = .slice (some ⟨g, 0, none⟩) L.length cap ∧ mM (lsE n E) F i = some L ∧ wr.ownsRow w2.heap.size 51 5 (.slice (some ⟨g, 0, none⟩) L.length cap) L.length (cellE L)) ∧ Below w2.heap.size w2 wr) (fun _ _ _ _ q _ => m - (intOf q).toNat)
      case atStart => exact ⟨0, g0, cap0, lsE n E, Nat.zero_le _, rfl, Lib.hid ⟨by rw [lsE_len], rfl, by rw [lsE_len]; exact HO3.out⟩, (by repeat' (first | (with_reducible exact Below.refl _ _) | (with_reducible assumption) | (with_reducible refine Base.via hb3 ?_) | (with_reducible refine Base.grow_alloc ?_ _) | (with_reducible refine Base.below_drewN ?_ _) | (with_reducible refine Below.drew ?_) | (with_reducible refine Below.setCell ?_ ?_ _) | go_size))⟩
      case round =>
        obtain ⟨i, g, cap, L, hi, rfl, hrow, hbr⟩ := hrel
        have hrow0 := hrow
        obtain ⟨rfl, hM, hown⟩ := hrow.out
        obtain ⟨hsL, hlL, _, _⟩ := HINV.out i hi L hM
        have hz := hbr.size
        by_cases hlt : i < m
        · have hbwr : Below w.heap.size w wr := hbw.trans (hbr.mono hbw.size)
          obtain ⟨b', o', e', hb', hc'⟩ := (hu.below hbwr).at_ (by omega)
          injection e' with e'
          injection e' with e3 e4
          subst e3; subst e4
          obtain ⟨a0, a1, a2, a3, a4⟩ := cells5 hc' i hlt
          have hvL := (of_listE hown (by omega)).sl
          have hgl := (hown.lt g rfl)
          have HBS := Lib.hid (fun W (hW : Below wr.heap.size wr W) => c_BinSearchE (some ⟨g, 0, none⟩) L.length cap (leE L) (F i) W (hvL.below hW) hsL (by omega))
          have HIN := Lib.hid (fun W vb (hW : Below wr.heap.size wr W) (hne : vb ≠ g) (hvb : W.heap[vb]? = some (.cells (vals (F i)).toArray 51 (0, 0))) => c_InsertE w2.heap.size g cap L (lbE (leE L) (F i) L.length) (F i) vb W (Nat.le_trans hz hW.size) (lbE_spec (F i) hsL).1 (by omega) (own_of_below hown hW) hne hvb)
          have HIL := Lib.hid (insL_len (e := F i) (lbE_spec (F i) hsL).1)
          have HVL := Lib.hid hvL
          clear hc' hrow hown hvL
          cases hfd : fdE L.length (leE L) (F i)
          · have HST := Lib.hid ((mM_succ hM).trans (step_new hfd))
            rw [hfd] at HBS
            clear hfd hM hsL
            generalize insL L (lbE (leE L) (F i) L.length) (F i) = LI at *
            generalize lbE (leE L) (F i) L.length = K at *
            generalize L.length = l at *
            generalize F i = x at *
            obtain ⟨t, s, o, y, z⟩ := x
            simp only [est] at HBS
            dsimp only at a0 a1 a2 a3 a4
            go_wp2_with fail
            obtain ⟨wb, hwb⟩ : ∃ wb : World, wb = wr.alloc (.cells #[.int .i64 t, .string s, .string o, .int .i64 y, .bool z] 51) := ⟨_, rfl⟩
            have k0 : wb.cell? ⟨wr.heap.size, 0, none⟩ = some (.int .i64 t) := by rw [hwb]; simp [go_sem]
            have k1 : wb.cell? ⟨wr.heap.size, 1, none⟩ = some (.string s) := by rw [hwb]; simp [go_sem]
            have k2 : wb.cell? ⟨wr.heap.size, 2, none⟩ = some (.string o) := by rw [hwb]; simp [go_sem]
            have k3 : wb.cell? ⟨wr.heap.size, 3, none⟩ = some (.int .i64 y) := by rw [hwb]; simp [go_sem]
            have k4 : wb.cell? ⟨wr.heap.size, 4, none⟩ = some (.bool z) := by rw [hwb]; simp [go_sem]
            have hbx : Below wr.heap.size wr wb := by rw [hwb]; exact (by repeat' (first | (with_reducible exact Below.refl _ _) | (with_reducible assumption) | (with_reducible refine Base.grow_alloc ?_ _) | (with_reducible refine Base.below_drewN ?_ _) | (with_reducible refine Below.drew ?_) | (with_reducible refine Below.setCell ?_ ?_ _) | go_size))
            have hzx : wr.heap.size + 1 ≤ wb.heap.size := by rw [hwb]; simp
            rw [← hwb]
            clear hwb a0 a1 a2 a3 a4
            have HK := Lib.hid (fun (W : World) (hW : Below wb.heap.size wb W) => (⟨cell_call hW k0, cell_call hW k1, cell_call hW k2, cell_call hW k3, cell_call hW k4⟩ : _ ∧ _ ∧ _ ∧ _ ∧ _))
            clear k0 k1 k2 k3 k4
            refine (HBS.out _ hbx).mono ?_
            rintro e w4 ⟨rfl, hb4⟩
            obtain ⟨k0, k1, k2, k3, k4⟩ := HK.out w4 hb4
            have hz4 := hb4.size
            go_wp2_with fail
            refine (HIN.out _ w4.heap.size (by repeat' (first | (with_reducible exact Below.refl _ _) | (with_reducible assumption) | (with_reducible refine Base.via hb4 ?_) | (with_reducible refine Base.via hbx ?_) | (with_reducible refine Base.grow_alloc ?_ _) | (with_reducible refine Base.below_drewN ?_ _) | (with_reducible refine Below.drew ?_) | (with_reducible refine Below.setCell ?_ ?_ _) | go_size)) (fun h => by omega) (heap_alloc_new w4 _)).mono ?_
            rintro e w5 ⟨g5, c5, rfl, ho5, hb5⟩
            have hb6 : Below w2.heap.size w2 w5 := (show Below w2.heap.size w2 _ from (by repeat' (first | (with_reducible exact Below.refl _ _) | (with_reducible assumption) | (with_reducible refine Base.via hb4 ?_) | (with_reducible refine Base.via hbx ?_) | (with_reducible refine Base.via hbr ?_) | (with_reducible refine Base.grow_alloc ?_ _) | (with_reducible refine Base.below_drewN ?_ _) | (with_reducible refine Below.drew ?_) | (with_reducible refine Below.setCell ?_ ?_ _) | go_size))).trans hb5
            have hl5 : LI.length = l + 1 := HIL.out
            go_wp2
            exact ⟨⟨i + 1, g5, c5, LI, by omega, by go_num, Lib.hid ⟨by rw [hl5], HST.out, by rw [hl5]; exact ho5⟩, hb6⟩, by simp [intOf]; omega⟩
          · have hfy := fd_yes hfd
            have hKl := hfy.1
            have HRY := Lib.hid (fun (h : sme (leE L (lbE (leE L) (F i) L.length)) (F i) = true) => (mM_succ hM).trans (step_same hfd h))
            have HRN := Lib.hid (fun (h : sme (leE L (lbE (leE L) (F i) L.length)) (F i) = false) => (mM_succ hM).trans (step_clash hfd h))
            have HOWN := Lib.hid hrow0.out.2.2
            rw [hfd] at HBS
            have hkq := hfy.2
            clear hfd hM hsL hfy HIL HIN
            obtain ⟨K, hK⟩ : ∃ K, lbE (leE L) (F i) L.length = K := ⟨_, rfl⟩
            rw [hK] at HBS HRY HRN hKl hkq
            clear hK
            have HNE := Lib.hid (fun W => neqEst (leE L K) (F i) W)
            rw [hkq] at HNE
            simp only [Bool.true_and] at HNE
            obtain ⟨Q, hQ⟩ : ∃ Q, sme (leE L K) (F i) = Q := ⟨_, rfl⟩
            rw [hQ] at HRY HRN HNE
            clear hQ hkq
            obtain ⟨gb, go, ge, _, gc⟩ := HVL.out.at_ (by omega)
            injection ge with ge
            injection ge with ge1 ge2
            subst ge1; subst ge2
            obtain ⟨x0, x1, x2, x3, x4⟩ := cells5 gc K hKl
            simp only [Nat.zero_add] at x0 x1 x2 x3 x4
            have HX := Lib.hid (fun (W : World) (hW : Below wr.heap.size wr W) => (⟨cell_call hW x0, cell_call hW x1, cell_call hW x2, cell_call hW x3, cell_call hW x4⟩ : _ ∧ _ ∧ _ ∧ _ ∧ _))
            clear gc x0 x1 x2 x3 x4
            generalize hll : L.length = l at *
            replace hll := Lib.hid hll
            generalize leE L K = xk at *
            generalize hx : F i = x at *
            obtain ⟨t, s, o, y, z⟩ := x
            simp only [est] at HBS
            dsimp only at a0 a1 a2 a3 a4 HNE
            go_wp2_with fail
            obtain ⟨wb, hwb⟩ : ∃ wb : World, wb = wr.alloc (.cells #[.int .i64 t, .string s, .string o, .int .i64 y, .bool z] 51) := ⟨_, rfl⟩
            have k0 : wb.cell? ⟨wr.heap.size, 0, none⟩ = some (.int .i64 t) := by rw [hwb]; simp [go_sem]
            have k1 : wb.cell? ⟨wr.heap.size, 1, none⟩ = some (.string s) := by rw [hwb]; simp [go_sem]
            have k2 : wb.cell? ⟨wr.heap.size, 2, none⟩ = some (.string o) := by rw [hwb]; simp [go_sem]
            have k3 : wb.cell? ⟨wr.heap.size, 3, none⟩ = some (.int .i64 y) := by rw [hwb]; simp [go_sem]
            have k4 : wb.cell? ⟨wr.heap.size, 4, none⟩ = some (.bool z) := by rw [hwb]; simp [go_sem]
            have hbx : Below wr.heap.size wr wb := by rw [hwb]; exact (by repeat' (first | (with_reducible exact Below.refl _ _) | (with_reducible assumption) | (with_reducible refine Base.grow_alloc ?_ _) | (with_reducible refine Base.below_drewN ?_ _) | (with_reducible refine Below.drew ?_) | (with_reducible refine Below.setCell ?_ ?_ _) | go_size))
            have hzx : wr.heap.size + 1 ≤ wb.heap.size := by rw [hwb]; simp
            rw [← hwb]
            clear hwb a0 a1 a2 a3 a4
            have HK := Lib.hid (fun (W : World) (hW : Below wb.heap.size wb W) => (⟨cell_call hW k0, cell_call hW k1, cell_call hW k2, cell_call hW k3, cell_call hW k4⟩ : _ ∧ _ ∧ _ ∧ _ ∧ _))
            clear k0 k1 k2 k3 k4
            refine (HBS.out _ hbx).mono ?_
            rintro e w4 ⟨rfl, hb4⟩
            obtain ⟨k0, k1, k2, k3, k4⟩ := HK.out w4 hb4
            have hz4 := hb4.size
            obtain ⟨x0, x1, x2, x3, x4⟩ := HX.out w4 (by repeat' (first | (with_reducible exact Below.refl _ _) | (with_reducible assumption) | (with_reducible refine Base.via hb4 ?_) | (with_reducible refine Base.via hbx ?_) | (with_reducible refine Base.grow_alloc ?_ _) | (with_reducible refine Base.below_drewN ?_ _) | (with_reducible refine Below.drew ?_) | (with_reducible refine Below.setCell ?_ ?_ _) | go_size))
            have hne := HNE.out
            have i1 : (0 : Int) ≤ (K : Int) := by omega
            have i2 : (K : Int) < (l : Int) := by omega
            have lg4 : g < w4.heap.size := by omega
            have lk4 : wr.heap.size < w4.heap.size := by omega
            cases Q
            · have HR := Lib.hid (HNO.out (HMN.out (i + 1) (by omega) (HRN.out rfl)))
              clear HRN HRY HNE
              go_wp2
              go_quiet (fail)
              go_wp2
              go_ret2
              exact ⟨_, ret_ad HR.out.1.symm, OwnK.zero HR.out.2, (by repeat' (first | (with_reducible exact Below.refl _ _) | (with_reducible assumption) | (with_reducible refine Base.via hb4 ?_) | (with_reducible refine Base.via hbx ?_) | (with_reducible refine Base.via hbwr ?_) | (with_reducible refine Base.grow_alloc ?_ _) | (with_reducible refine Base.below_drewN ?_ _) | (with_reducible refine Below.drew ?_) | (with_reducible refine Below.setCell ?_ ?_ _) | go_size))⟩
            · have HR := Lib.hid (HRY.out rfl)
              clear HRN HRY HNE
              go_wp2
              go_quiet (fail)
              go_wp2
              exact ⟨⟨i + 1, g, cap, L, by omega, by go_num, Lib.hid ⟨by rw [hll.out], HR.out, by rw [hll.out]; exact own_of_below HOWN.out (by repeat' (first | (with_reducible exact Below.refl _ _) | (with_reducible assumption) | (with_reducible refine Base.via hb4 ?_) | (with_reducible refine Base.via hbx ?_) | (with_reducible refine Base.grow_alloc ?_ _) | (with_reducible refine Base.below_drewN ?_ _) | (with_reducible refine Below.drew ?_) | (with_reducible refine Below.setCell ?_ ?_ _) | go_size))⟩, (by repeat' (first | (with_reducible exact Below.refl _ _) | (with_reducible assumption) | (with_reducible refine Base.via hb4 ?_) | (with_reducible refine Base.via hbx ?_) | (with_reducible refine Base.via hbr ?_) | (with_reducible refine Base.grow_alloc ?_ _) | (with_reducible refine Base.below_drewN ?_ _) | (with_reducible refine Below.drew ?_) | (with_reducible refine Below.setCell ?_ ?_ _) | go_size))⟩, by simp [intOf]; omega⟩
        · have hkn : i = m := by omega
          subst hkn
          have HB5 := Lib.hid (HBG.out L hM)
          have HB0 := Lib.hid (HOK.out L hM)
          have hbwr : Below w.heap.size w wr := hbw.trans (hbr.mono hbw.size)
          have HOWN := Lib.hid hown
          clear hrow hrow0 hM hown hsL
          generalize hll : L.length = l at *
          replace hll := Lib.hid hll
          by_cases h100 : 100 < l
          · have HR := Lib.hid (HB5.out h100)
            have hd : decide ((100 : Int) < (l : Int)) = true := by simp; omega
            go_wp2
            go_ret2
            exact ⟨_, ret_ad HR.out.1.symm, OwnK.zero HR.out.2, hbwr⟩
          · have HR := Lib.hid (HB0.out h100)
            have hd : decide ((100 : Int) < (l : Int)) = false := by simp; omega
            go_wp2
            go_ret2
            exact ⟨_, ret_ad HR.out.1.symm, by rw [HR.out.2]; exact (ownE HOWN.out hll.out (by omega)).mono hbw.size, hbwr⟩
end Go.Proofs.Ythojfmlnnclghaa.Mrg
