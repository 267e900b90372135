/- The light curve of a star: both sides. -/
import Derived.Test.YthojfmlnnclghaaCvS
import Derived.Test.YthojfmlnnclghaaBinC
namespace Go.Proofs.Ythojfmlnnclghaa.CvI
set_option linter.unusedVariables false
set_option linter.unusedSimpArgs false
set_option maxRecDepth 8000
open Go.RowKit Go.Shelf Plain Num View Frac Idx Est Name Es1 OkE ChoE CvE CvP CvQ CvS

theorem newT_open {t t' s : Int} {c : Nat} {r : List (Int × Int × Nat)} (hc : c ≠ 0) (h : t' ≠ t) : newT (open' t s c r) t' := fun q r' e => by
  unfold open' at e
  rw [if_neg hc] at e
  injection e with e1 e2
  rw [← e1]
  exact fun e => h e.symm
theorem take_pr {S : List E5} {i : Nat} (h : i < S.length) : (S.map pr).take (i + 1) = (S.map pr).take i ++ [((leE S i).t, (leE S i).m)] := by
  have e : leE S i = S[i] := by simp [leE, h]
  rw [List.take_succ_eq_append_getElem (by simpa using h), e]
  simp [pr]
theorem sumB_snocL (ML : List Int) (x : Int) : sumB (ML ++ [x]).length (lf (ML ++ [x])) = sumB ML.length (lf ML) + x := by
  have e : (ML ++ [x]).length = ML.length + 1 := by simp
  rw [e, sumB_succ]
  have h1 : lf (ML ++ [x]) ML.length = x := by simp [lf]
  have h2 : ∀ k, k ≤ ML.length → sumB k (lf (ML ++ [x])) = sumB k (lf ML) := by
    intro k
    induction k with
    | zero => intro _; rfl
    | succ k ih =>
      intro hk
      have h3 : lf (ML ++ [x]) k = lf ML k := by
        simp only [lf, List.getD_eq_getElem?_getD]
        rw [List.getElem?_append_left (by omega)]
      rw [sumB_succ, sumB_succ, ih (by omega), h3]
  rw [h1, h2 _ (Nat.le_refl _)]
theorem mags_bd {ML : List Int} (h : ∀ x, x ∈ ML → -2000 ≤ x ∧ x ≤ 20000) : ∀ i, i < ML.length → -10000000 ≤ lf ML i ∧ lf ML i ≤ 10000000 := by
  intro i hi
  have e : lf ML i = ML[i] := by simp [lf, hi]
  have := h ML[i] (List.getElem_mem hi)
  omega
theorem seen_bd {n : Nat} {E : Nat → E5} {star : ByteArray} (hok : okE n E = true) (i : Nat) (hi : i < (sel n (fun i => cvP star (E i)) E).length) : -2000 ≤ (leE (sel n (fun i => cvP star (E i)) E) i).m ∧ (leE (sel n (fun i => cvP star (E i)) E) i).m ≤ 20000 := by
  have e : leE (sel n (fun i => cvP star (E i)) E) i = (sel n (fun i => cvP star (E i)) E)[i] := by simp [leE, hi]
  obtain ⟨j, hj, _, h⟩ := sel_mem (List.getElem_mem hi)
  rw [e, h]
  exact (ok_bd hok j hj).2
theorem cv_cases (n : Nat) (E : Nat → E5) (star : ByteArray) : (okE n E = true ∧ nmOk star = true ∧ cvC n E star = 0) ∨ (okE n E = true ∧ nmOk star = false ∧ cvC n E star = 2) ∨ (okE n E = false ∧ cvC n E star = 1) := by
  unfold cvC
  cases okE n E <;> cases nmOk star <;> simp
set_option maxHeartbeats 3200000 in
theorem c_CurveOf (A : Option Addr) (n c : Nat) (E : Nat → E5) (star : ByteArray) (w : World) (hv : Sl w 5 A n c (f5 E)) :
    Calls Try.prog 23 #[.slice A n c, .string star] w fun e w' => ∃ u, e = .returned (.tuple #[u, .int .i64 (cvC n E star)]) ∧ OwnK w' w.heap.size 78 2 u (cvL n E star).length (f2 (lp1 (cvL n E star)) (lp2 (cvL n E star))) ∧ Below w.heap.size w w' := by
  have hn := hv.le
  obtain ⟨i0, hi0, hz0, hz1, hz2⟩ := info_parts infoPt
  obtain ⟨j0, hj0, hy0, hy1, hy2⟩ := info_parts BinC.infoI
  have eg : ∀ args w, (callFunc 55 args).run Try.prog w = .ok (.enter 55 args) w := enters_of Try.func55 (by kernel_rfl) rfl
  have HV := Lib.hid (fun (W : World) (hW : Sl W 5 A n c (f5 E)) => c_ValidEstimates A n c E W hW)
  have HN := Lib.hid (fun (W : World) => c_IsName star W)
  rcases cv_cases n E star with ⟨h1, h2, hc⟩ | ⟨h1, h2, hc⟩ | ⟨h1, hc⟩
  · have h100 := okE_le h1
    have HL := Lib.hid (show cvL n E star = outL (fo (((sel n (fun i => cvP star (E i)) E).map pr).take (sel n (fun i => cvP star (E i)) E).length)) by rw [cvL, if_pos hc, ← chs_map, List.take_of_length_le (by simp)])
    have HC := Lib.hid hc
    have HSB := Lib.hid (fun i hi => seen_bd (star := star) h1 i hi)
    have hsl := sel_len (k := n) (P := fun i => cvP star (E i)) (g := E)
    rw [h1] at HV
    rw [h2] at HN
    clear hc h1 h2
    go_enter Try.func23, Try.ntmps23
    go_wp2_with fail
    refine (HV.out _ (hv.below (by repeat' (first | (with_reducible exact Below.refl _ _) | (with_reducible assumption) | (with_reducible refine Base.grow_alloc ?_ _) | (with_reducible refine Base.below_drewN ?_ _) | (with_reducible refine Below.drew ?_) | (with_reducible refine Below.setCell ?_ ?_ _) | go_size)))).mono ?_
    rintro e w1 ⟨rfl, hb1⟩
    have k0 : World.cell? w1 ⟨w.heap.size, 0, none⟩ = some (.string star) := ((hb1.cell (p := ⟨w.heap.size, 0, none⟩) (by first | (simp; done) | (simp; omega) | omega)).trans (by simp [go_sem]))
    have lk0 := World.block_lt_of_cell? _ _ k0
    dsimp only at lk0
    go_wp2_with fail
    refine (HN.out _).mono ?_
    rintro e w2 ⟨rfl, hb2⟩
    have k1 : World.cell? w2 ⟨w.heap.size, 0, none⟩ = some (.string star) := ((hb2.cell (p := ⟨w.heap.size, 0, none⟩) (by first | (simp; done) | (simp; omega) | omega)).trans ((hb1.cell (p := ⟨w.heap.size, 0, none⟩) (by first | (simp; done) | (simp; omega) | omega)).trans (by simp [go_sem])))
    have hbw : Below w.heap.size w w2 := (by repeat' (first | (with_reducible exact Below.refl _ _) | (with_reducible assumption) | (with_reducible refine Base.via hb2 ?_) | (with_reducible refine Base.via hb1 ?_) | (with_reducible refine Base.grow_alloc ?_ _) | (with_reducible refine Base.below_drewN ?_ _) | (with_reducible refine Below.drew ?_) | (with_reducible refine Below.setCell ?_ ?_ _) | go_size))
    have HP := Lib.hid (show Pred Try.prog w2 55 #[.pointer (some ⟨w.heap.size, 0, none⟩)] n (fun i => est (E i)) (fun i => cvP star (E i)) from fun W hW j hj => c_cvP star (E j) w.heap.size W (cell_call hW k1))
    clear k0 k1
    go_wp2_with fail
    refine (c_chosenE A n c E 55 _ _ _ eg (hv.below hbw) HP.out).mono ?_
    rintro e w3 ⟨u0, rfl, ho, hb3⟩
    clear HP HV HN
    have hbw3 : Below w.heap.size w w3 := (by repeat' (first | (with_reducible exact Below.refl _ _) | (with_reducible assumption) | (with_reducible refine Base.via hb3 ?_) | (with_reducible refine Base.via hbw ?_) | (with_reducible refine Base.grow_alloc ?_ _) | (with_reducible refine Base.below_drewN ?_ _) | (with_reducible refine Below.drew ?_) | (with_reducible refine Below.setCell ?_ ?_ _) | go_size))
    obtain ⟨A3, c3, rfl, V3, _⟩ := ho.view
    generalize sel n (fun i => cvP star (E i)) E = S at *
    generalize hm : S.length = m at *
    have HTK := Lib.hid (fun (i : Nat) (h : i < m) => take_pr (S := S) (i := i) (by omega))
    have HLEN : Hid (∀ i, (outL (fo ((S.map pr).take i))).length ≤ m) := Lib.hid (fun i => by
      have h1 := fo_len ((S.map pr).take i)
      have h2 : ((S.map pr).take i).length ≤ m := by simp; omega
      rw [outL_len]
      omega)
    have HF0 := Lib.hid (show fo ((S.map pr).take 0) = [] by simp [fo])
    clear ho hm
    go_wp2
    go_loopw [7, 8, 9, 10] (fun u q _ _ wr => ∃ i : Nat, i ≤ m ∧ q = .int .i64 i ∧ Hid (i < m → newT (fo ((S.map pr).take i)) (leE S i).t) ∧ wr.ownsRow w3.heap.size 78 2 u (outL (fo ((S.map pr).take i))).length (cellP (outL (fo ((S.map pr).take i)))) ∧ Below w3.heap.size w3 wr) (fun _ q _ _ _ => m - (intOf q).toNat)
    case atStart => exact ⟨0, Nat.zero_le _, rfl, Lib.hid (fun _ => by rw [HF0.out]; intro q r e; cases e), (by rw [HF0.out]; exact World.ownsRow_made _ _ _ (by omega) (by simp [maxLen]) rfl), (by repeat' (first | (with_reducible exact Below.refl _ _) | (with_reducible assumption) | (with_reducible refine Base.grow_alloc ?_ _) | (with_reducible refine Base.below_drewN ?_ _) | (with_reducible refine Below.drew ?_) | (with_reducible refine Below.setCell ?_ ?_ _) | go_size))⟩
    case round =>
      obtain ⟨i, hi, rfl, hnew, hown, hbr⟩ := hrel
      have hz := hbr.size
      by_cases hlt : i < m
      · have HOWN := Lib.hid hown
        have HNW := Lib.hid (hnew.out hlt)
        obtain ⟨b, off, rfl, hb, hc⟩ := (V3.below hbr).at_ (by omega)
        obtain ⟨b0, b1, b2, b3, b4⟩ := cells5 hc i hlt
        have HCELL := Lib.hid hc
        have i3 : (0 : Int) ≤ (i : Int) := by omega
        have i4 : (i : Int) < (m : Int) := by omega
        clear hown hc b1 b2 b3 b4
        generalize hT : (leE S i).t = T at *
        replace hT := Lib.hid hT
        obtain ⟨wo, hwo⟩ : ∃ wo : World, wo = wr := ⟨_, rfl⟩
        rw [← hwo] at hbr hz HOWN HCELL hb b0 ⊢
        clear hwo
        go_wp2
        clear b0
        go_loopw [8, 9] (fun q v wq => ∃ (k : Nat) (ML : List Int), i ≤ k ∧ k ≤ m ∧ q = .int .i64 k ∧ Hid (ML.length = k - i) ∧ Hid (∀ x, x ∈ ML → -2000 ≤ x ∧ x ≤ 20000) ∧ Hid (fo ((S.map pr).take k) = open' T (sumB ML.length (lf ML)) (k - i) (fo ((S.map pr).take i))) ∧ wq.ownsRow wo.heap.size 2 1 v ML.length (cellL ML) ∧ Below wo.heap.size wo wq) (fun q _ _ => m - (intOf q).toNat)
        case atStart => exact ⟨i, [], Nat.le_refl _, hi, rfl, Lib.hid (by simp), Lib.hid (by simp), Lib.hid (by simp [open']), World.ownsRow_made _ _ _ (by omega) (by simp [maxLen]) rfl, (by repeat' (first | (with_reducible exact Below.refl _ _) | (with_reducible assumption) | (with_reducible refine Base.grow_alloc ?_ _) | (with_reducible refine Base.below_drewN ?_ _) | (with_reducible refine Below.drew ?_) | (with_reducible refine Below.setCell ?_ ?_ _) | go_size))⟩
        case round =>
          obtain ⟨k, ML, hik, hkm, rfl, hml, hmb, hin, hownM, hbq⟩ := hrel
          have hzq := hbq.size
          have hml' : ML.length ≤ 100 := by have := hml.out; omega
          by_cases hgo : k < m ∧ (leE S k).t = T
          · obtain ⟨hlk, heq⟩ := hgo
            obtain ⟨a0, a1, a2, a3, a4⟩ := cells5 (fun i hi j hj => cell_call hbq (HCELL.out i hi j hj)) k hlk
            have i1 : (0 : Int) ≤ (k : Int) := by omega
            have i2 : (k : Int) < (m : Int) := by omega
            have HN2 : Hid (fo ((S.map pr).take (k + 1)) = open' T (sumB (ML ++ [(leE S k).m]).length (lf (ML ++ [(leE S k).m]))) (k + 1 - i) (fo ((S.map pr).take i))) := Lib.hid (by
              rw [HTK.out k hlk, fo_snoc, hin.out, heq, open_next HNW.out (fun h0 => by
                have : ML.length = 0 := by rw [hml.out, h0]
                rw [this]; rfl), sumB_snocL]
              congr 1
              omega)
            have hmk := HSB.out k (by omega)
            have HML2 : Hid ((ML ++ [(leE S k).m]).length = k + 1 - i) := Lib.hid (by have := hml.out; simp; omega)
            have HMB2 : Hid (∀ x, x ∈ ML ++ [(leE S k).m] → -2000 ≤ x ∧ x ≤ 20000) := Lib.hid (fun x hx => by
              rcases List.mem_append.1 hx with h | h
              · exact hmb.out x h
              · obtain rfl : x = (leE S k).m := by simpa using h
                exact hmk)
            rw [heq] at a0
            clear a1 a2 a4 heq
            go_wp2_with (at_builtin; refine wpList_append_own _ rfl _ _ 65 rfl (wo.heap.size) 2 j0 _ 1 8 Try.underlying65 hj0 hy0 hy1 hy2 rfl (by decide) _ _ _ rfl (own_of_below hownM (by repeat' (first | (with_reducible exact Below.refl _ _) | (with_reducible assumption) | (with_reducible refine Base.grow_alloc ?_ _) | (with_reducible refine Base.below_drewN ?_ _) | (with_reducible refine Below.drew ?_) | (with_reducible refine Below.setCell ?_ ?_ _) | go_size))) ⟨_, 0, none⟩ 1 1 [.int .i64 (leE S k).m] rfl rfl (cell_newL _ [.int .i64 (leE S k).m] _ (by simp)) (by simp [Value.oneCell']) (by simp only [maxLen]; omega) (by omega) (by simp; omega) ?_)
            intro v' w2' hown' hgrow _
            have hb2' : Below wo.heap.size wo w2' := own_grow (by repeat' (first | (with_reducible exact Below.refl _ _) | (with_reducible assumption) | (with_reducible refine Base.via hbq ?_) | (with_reducible refine Base.grow_alloc ?_ _) | (with_reducible refine Base.below_drewN ?_ _) | (with_reducible refine Below.drew ?_) | (with_reducible refine Below.setCell ?_ ?_ _) | go_size)) hownM (Nat.le_refl _) hgrow
            clear hownM hgrow
            go_wp2
            exact ⟨⟨k + 1, ML ++ [(leE S k).m], by omega, by omega, by go_num, HML2.out, HMB2.out, HN2.out, own_snoc hown', hb2'⟩, by simp [intOf]; omega⟩
          · have hik' : i < k := by
              rcases Nat.lt_or_ge i k with h | h
              · exact h
              · obtain rfl : k = i := by omega
                exact absurd ⟨hlt, hT.out⟩ hgo
            have HNEW2 : Hid (k < m → newT (fo ((S.map pr).take k)) (leE S k).t) := Lib.hid (fun h => by
              rw [hin.out]
              exact newT_open (by omega) (fun e => hgo ⟨h, e⟩))
            have HO : Hid (outL (fo ((S.map pr).take k)) = outL (fo ((S.map pr).take i)) ++ [(T, nrI (sumB ML.length (lf ML)) (ML.length : Int))]) := Lib.hid (by rw [hin.out, open_out, if_neg (by omega), hml.out])
            have hml1 : 1 ≤ ML.length := by have := hml.out; omega
            have hll := HLEN.out i
            have hownP := own_of_below HOWN.out hbq
            have om := OwnK.of_list hownM (by omega)
            obtain ⟨A1, d1, rfl, V1, _⟩ := om.view
            have HME := Lib.hid (fun W (hW : Below wr.heap.size wr W) => BinC.c_meanG A1 ML.length d1 (lf ML) W (V1.below hW) hml1 hml' (mags_bd hmb.out))
            clear om V1 hownM HOWN
            generalize outL (fo ((S.map pr).take i)) = L at *
            generalize sumB ML.length (lf ML) = s at *
            generalize ML.length = l at *
            by_cases hlk : k < m
            · have heq : ((leE S k).t == T) = false := by simpa using (fun h => hgo ⟨hlk, h⟩)
              obtain ⟨a0, a1, a2, a3, a4⟩ := cells5 (fun i hi j hj => cell_call hbq (HCELL.out i hi j hj)) k hlk
              have i1 : (0 : Int) ≤ (k : Int) := by omega
              have i2 : (k : Int) < (m : Int) := by omega
              clear a1 a2 a3 a4 hgo
              go_wp2_with fail
              refine (HME.out _ (by repeat' (first | (with_reducible exact Below.refl _ _) | (with_reducible assumption) | (with_reducible refine Base.grow_alloc ?_ _) | (with_reducible refine Base.below_drewN ?_ _) | (with_reducible refine Below.drew ?_) | (with_reducible refine Below.setCell ?_ ?_ _) | go_size))).mono ?_
              rintro e w4 ⟨rfl, hb4⟩
              have zz4 := hb4.size
              go_wp2_with ((at_builtin; refine wpList_append_own _ rfl _ _ 40 rfl (w3.heap.size) 78 i0 _ 2 16 Try.underlying40 hi0 hz0 hz1 hz2 rfl (by decide) _ _ _ rfl (own_of_below hownP (by repeat' (first | (with_reducible exact Below.refl _ _) | (with_reducible assumption) | (with_reducible refine Base.via hb4 ?_) | (with_reducible refine Base.grow_alloc ?_ _) | (with_reducible refine Base.below_drewN ?_ _) | (with_reducible refine Below.drew ?_) | (with_reducible refine Below.setCell ?_ ?_ _) | go_size))) ⟨_, 0, none⟩ 1 1 [.int .i64 (T), .int .i64 (nrI s (l : Int))] rfl rfl (cell_newL _ [.int .i64 (T), .int .i64 (nrI s (l : Int))] _ (by simp)) (by simp [Value.oneCell']) (by simp only [maxLen]; omega) (by omega) (by simp; omega) ?_))
              intro v' w5 hown' hgrow _
              have hb5 : Below w3.heap.size w3 w5 := own_grow (by repeat' (first | (with_reducible exact Below.refl _ _) | (with_reducible assumption) | (with_reducible refine Base.via hb4 ?_) | (with_reducible refine Base.via hbq ?_) | (with_reducible refine Base.via hbr ?_) | (with_reducible refine Base.grow_alloc ?_ _) | (with_reducible refine Base.below_drewN ?_ _) | (with_reducible refine Below.drew ?_) | (with_reducible refine Below.setCell ?_ ?_ _) | go_size)) hownP (Nat.le_refl _) hgrow
              clear hownP hgrow
              go_wp2
              exact ⟨⟨k, by omega, rfl, HNEW2.out, by rw [HO.out]; exact own_snocP hown', hb5⟩, by simp [intOf]; omega⟩
            · have hkn' : k = m := by omega
              clear hgo
              subst hkn'
              go_wp2_with fail
              refine (HME.out _ (by repeat' (first | (with_reducible exact Below.refl _ _) | (with_reducible assumption) | (with_reducible refine Base.grow_alloc ?_ _) | (with_reducible refine Base.below_drewN ?_ _) | (with_reducible refine Below.drew ?_) | (with_reducible refine Below.setCell ?_ ?_ _) | go_size))).mono ?_
              rintro e w4 ⟨rfl, hb4⟩
              have zz4 := hb4.size
              go_wp2_with ((at_builtin; refine wpList_append_own _ rfl _ _ 40 rfl (w3.heap.size) 78 i0 _ 2 16 Try.underlying40 hi0 hz0 hz1 hz2 rfl (by decide) _ _ _ rfl (own_of_below hownP (by repeat' (first | (with_reducible exact Below.refl _ _) | (with_reducible assumption) | (with_reducible refine Base.via hb4 ?_) | (with_reducible refine Base.grow_alloc ?_ _) | (with_reducible refine Base.below_drewN ?_ _) | (with_reducible refine Below.drew ?_) | (with_reducible refine Below.setCell ?_ ?_ _) | go_size))) ⟨_, 0, none⟩ 1 1 [.int .i64 (T), .int .i64 (nrI s (l : Int))] rfl rfl (cell_newL _ [.int .i64 (T), .int .i64 (nrI s (l : Int))] _ (by simp)) (by simp [Value.oneCell']) (by simp only [maxLen]; omega) (by omega) (by simp; omega) ?_))
              intro v' w5 hown' hgrow _
              have hb5 : Below w3.heap.size w3 w5 := own_grow (by repeat' (first | (with_reducible exact Below.refl _ _) | (with_reducible assumption) | (with_reducible refine Base.via hb4 ?_) | (with_reducible refine Base.via hbq ?_) | (with_reducible refine Base.via hbr ?_) | (with_reducible refine Base.grow_alloc ?_ _) | (with_reducible refine Base.below_drewN ?_ _) | (with_reducible refine Below.drew ?_) | (with_reducible refine Below.setCell ?_ ?_ _) | go_size)) hownP (Nat.le_refl _) hgrow
              clear hownP hgrow
              go_wp2
              exact ⟨⟨k, by omega, rfl, HNEW2.out, by rw [HO.out]; exact own_snocP hown', hb5⟩, by simp [intOf]; omega⟩
      · have hkn : i = m := by omega
        subst hkn
        go_wp2
        go_ret2
        exact ⟨_, ret_slice HC.out.symm, by rw [HL.out]; exact (OwnK.of_listP hown (by have := HLEN.out i; omega)).mono hbw3.size, (by repeat' (first | (with_reducible exact Below.refl _ _) | (with_reducible assumption) | (with_reducible refine Base.via hbr ?_) | (with_reducible refine Base.via hbw3 ?_) | (with_reducible refine Base.grow_alloc ?_ _) | (with_reducible refine Base.below_drewN ?_ _) | (with_reducible refine Below.drew ?_) | (with_reducible refine Below.setCell ?_ ?_ _) | go_size))⟩
  · have HL := Lib.hid (show (cvL n E star).length = 0 by rw [cvL, hc]; rfl)
    have HC := Lib.hid hc
    rw [h1] at HV
    rw [h2] at HN
    clear hc h1 h2
    go_enter Try.func23, Try.ntmps23
    go_wp2_with fail
    refine (HV.out _ (hv.below (by repeat' (first | (with_reducible exact Below.refl _ _) | (with_reducible assumption) | (with_reducible refine Base.grow_alloc ?_ _) | (with_reducible refine Base.below_drewN ?_ _) | (with_reducible refine Below.drew ?_) | (with_reducible refine Below.setCell ?_ ?_ _) | go_size)))).mono ?_
    rintro e w1 ⟨rfl, hb1⟩
    have k0 : World.cell? w1 ⟨w.heap.size, 0, none⟩ = some (.string star) := ((hb1.cell (p := ⟨w.heap.size, 0, none⟩) (by first | (simp; done) | (simp; omega) | omega)).trans (by simp [go_sem]))
    have lk0 := World.block_lt_of_cell? _ _ k0
    dsimp only at lk0
    go_wp2_with fail
    refine (HN.out _).mono ?_
    rintro e w2 ⟨rfl, hb2⟩
    go_wp2_with fail
    go_ret2
    exact ⟨_, ret_slice HC.out.symm, OwnK.zero HL.out, (by repeat' (first | (with_reducible exact Below.refl _ _) | (with_reducible assumption) | (with_reducible refine Base.via hb2 ?_) | (with_reducible refine Base.via hb1 ?_) | (with_reducible refine Base.grow_alloc ?_ _) | (with_reducible refine Base.below_drewN ?_ _) | (with_reducible refine Below.drew ?_) | (with_reducible refine Below.setCell ?_ ?_ _) | go_size))⟩
  · have HL := Lib.hid (show (cvL n E star).length = 0 by rw [cvL, hc]; rfl)
    have HC := Lib.hid hc
    rw [h1] at HV
    clear hc h1
    go_enter Try.func23, Try.ntmps23
    go_wp2_with fail
    refine (HV.out _ (hv.below (by repeat' (first | (with_reducible exact Below.refl _ _) | (with_reducible assumption) | (with_reducible refine Base.grow_alloc ?_ _) | (with_reducible refine Base.below_drewN ?_ _) | (with_reducible refine Below.drew ?_) | (with_reducible refine Below.setCell ?_ ?_ _) | go_size)))).mono ?_
    rintro e w1 ⟨rfl, hb1⟩
    go_wp2_with fail
    go_ret2
    exact ⟨_, ret_slice HC.out.symm, OwnK.zero HL.out, (by repeat' (first | (with_reducible exact Below.refl _ _) | (with_reducible assumption) | (with_reducible refine Base.via hb1 ?_) | (with_reducible refine Base.grow_alloc ?_ _) | (with_reducible refine Base.below_drewN ?_ _) | (with_reducible refine Below.drew ?_) | (with_reducible refine Below.setCell ?_ ?_ _) | go_size))⟩
set_option maxHeartbeats 1600000 in
theorem c_specCurveOf (A : Option Addr) (n c : Nat) (E : Nat → E5) (star : ByteArray) (w : World) (hv : Sl w 5 A n c (f5 E)) :
    Calls Try.prog 22 #[.slice A n c, .string star] w fun e w' => ∃ u, e = .returned (.tuple #[u, .int .i64 (cvC n E star)]) ∧ OwnK w' w.heap.size 78 2 u (cvL n E star).length (f2 (lp1 (cvL n E star)) (lp2 (cvL n E star))) ∧ Below w.heap.size w w' := by
  have hn := hv.le
  have HV := Lib.hid (fun (W : World) (hW : Sl W 5 A n c (f5 E)) => c_l06Ok A n c E W hW)
  have HN := Lib.hid (fun (W : World) => c_specIsName star W)
  rcases cv_cases n E star with ⟨h1, h2, hc⟩ | ⟨h1, h2, hc⟩ | ⟨h1, hc⟩
  · have h100 := okE_le h1
    have HL := Lib.hid (show cvL n E star = outL (fo (chs star E n)) by rw [cvL, if_pos hc])
    have hl : (outL (fo (chs star E n))).length ≤ n := by
      have h1 := fo_len (chs star E n)
      have h2 := sel_len (k := n) (P := fun i => cvP star (E i)) (g := fun i => pr (E i))
      rw [outL_len]
      unfold chs at h1 ⊢
      omega
    have HC := Lib.hid hc
    have HOK := Lib.hid h1
    have HO := Lib.hid (fun (W : World) (hW : Sl W 5 A n c (f5 E)) => c_l08Of A n c E star W hW HOK.out)
    rw [h1] at HV
    rw [h2] at HN
    clear hc h1 h2
    go_enter Try.func22, Try.ntmps22
    go_wp2_with fail
    refine (HV.out _ (hv.below (by repeat' (first | (with_reducible exact Below.refl _ _) | (with_reducible assumption) | (with_reducible refine Base.grow_alloc ?_ _) | (with_reducible refine Base.below_drewN ?_ _) | (with_reducible refine Below.drew ?_) | (with_reducible refine Below.setCell ?_ ?_ _) | go_size)))).mono ?_
    rintro e w1 ⟨rfl, hb1⟩
    go_wp2_with fail
    refine (HN.out _).mono ?_
    rintro e w2 ⟨rfl, hb2⟩
    go_wp2_with fail
    refine (HO.out _ (hv.below (by repeat' (first | (with_reducible exact Below.refl _ _) | (with_reducible assumption) | (with_reducible refine Base.via hb2 ?_) | (with_reducible refine Base.via hb1 ?_) | (with_reducible refine Base.grow_alloc ?_ _) | (with_reducible refine Base.below_drewN ?_ _) | (with_reducible refine Below.drew ?_) | (with_reducible refine Below.setCell ?_ ?_ _) | go_size)))).mono ?_
    rintro e w3 ⟨u, rfl, hown, hb3⟩
    have hbw : Below w.heap.size w w2 := (by repeat' (first | (with_reducible exact Below.refl _ _) | (with_reducible assumption) | (with_reducible refine Base.via hb2 ?_) | (with_reducible refine Base.via hb1 ?_) | (with_reducible refine Base.grow_alloc ?_ _) | (with_reducible refine Base.below_drewN ?_ _) | (with_reducible refine Below.drew ?_) | (with_reducible refine Below.setCell ?_ ?_ _) | go_size))
    go_wp2_with fail
    go_ret2
    exact ⟨_, ret_slice HC.out.symm, by rw [HL.out]; exact (OwnK.of_listP hown (by omega)).mono hbw.size, (by repeat' (first | (with_reducible exact Below.refl _ _) | (with_reducible assumption) | (with_reducible refine Base.via hb3 ?_) | (with_reducible refine Base.via hbw ?_) | (with_reducible refine Base.grow_alloc ?_ _) | (with_reducible refine Base.below_drewN ?_ _) | (with_reducible refine Below.drew ?_) | (with_reducible refine Below.setCell ?_ ?_ _) | go_size))⟩
  · have HL := Lib.hid (show (cvL n E star).length = 0 by rw [cvL, hc]; rfl)
    have HC := Lib.hid hc
    rw [h1] at HV
    rw [h2] at HN
    clear hc h1 h2
    go_enter Try.func22, Try.ntmps22
    go_wp2_with fail
    refine (HV.out _ (hv.below (by repeat' (first | (with_reducible exact Below.refl _ _) | (with_reducible assumption) | (with_reducible refine Base.grow_alloc ?_ _) | (with_reducible refine Base.below_drewN ?_ _) | (with_reducible refine Below.drew ?_) | (with_reducible refine Below.setCell ?_ ?_ _) | go_size)))).mono ?_
    rintro e w1 ⟨rfl, hb1⟩
    go_wp2_with fail
    refine (HN.out _).mono ?_
    rintro e w2 ⟨rfl, hb2⟩
    go_wp2_with fail
    go_ret2
    exact ⟨_, ret_slice HC.out.symm, OwnK.zero HL.out, (by repeat' (first | (with_reducible exact Below.refl _ _) | (with_reducible assumption) | (with_reducible refine Base.via hb2 ?_) | (with_reducible refine Base.via hb1 ?_) | (with_reducible refine Base.grow_alloc ?_ _) | (with_reducible refine Base.below_drewN ?_ _) | (with_reducible refine Below.drew ?_) | (with_reducible refine Below.setCell ?_ ?_ _) | go_size))⟩
  · have HL := Lib.hid (show (cvL n E star).length = 0 by rw [cvL, hc]; rfl)
    have HC := Lib.hid hc
    rw [h1] at HV
    clear hc h1
    go_enter Try.func22, Try.ntmps22
    go_wp2_with fail
    refine (HV.out _ (hv.below (by repeat' (first | (with_reducible exact Below.refl _ _) | (with_reducible assumption) | (with_reducible refine Base.grow_alloc ?_ _) | (with_reducible refine Base.below_drewN ?_ _) | (with_reducible refine Below.drew ?_) | (with_reducible refine Below.setCell ?_ ?_ _) | go_size)))).mono ?_
    rintro e w1 ⟨rfl, hb1⟩
    go_wp2_with fail
    go_ret2
    exact ⟨_, ret_slice HC.out.symm, OwnK.zero HL.out, (by repeat' (first | (with_reducible exact Below.refl _ _) | (with_reducible assumption) | (with_reducible refine Base.via hb1 ?_) | (with_reducible refine Base.grow_alloc ?_ _) | (with_reducible refine Base.below_drewN ?_ _) | (with_reducible refine Below.drew ?_) | (with_reducible refine Below.setCell ?_ ?_ _) | go_size))⟩
end Go.Proofs.Ythojfmlnnclghaa.CvI
