/- The dispersions for all periods of a search; the period with the least. -/
import Derived.Test.YtiinjnghnfofpaaTheta
import Derived.Test.YtiinjnghnfofpaaPer
import Derived.Test.YtiinjnghnfofpaaHelp
namespace Go.Proofs.Ytiinjnghnfofpaa.Best
set_option linter.unusedVariables false
set_option linter.unusedSimpArgs false
set_option maxRecDepth 8000
open Go.RowKit Plain Num View Mags Curve Curve2 Bins DisB Frac Disp Eph Per

def askC (n : Nat) (T M : Nat → Int) (f t s b : Int) : Int := if (okCurve n T M && okSearch f t s) = true then (if inB b 1 20 = true then (if 40 < n then 5 else 0) else 2) else 1
theorem ask_cases (n : Nat) (T M : Nat → Int) (f t s b : Int) : (okCurve n T M = true ∧ okSearch f t s = true ∧ inB b 1 20 = true ∧ n ≤ 40 ∧ askC n T M f t s b = 0) ∨ (okCurve n T M = true ∧ okSearch f t s = true ∧ inB b 1 20 = true ∧ 40 < n ∧ askC n T M f t s b = 5) ∨ (okCurve n T M = true ∧ okSearch f t s = true ∧ inB b 1 20 = false ∧ askC n T M f t s b = 2) ∨ (okCurve n T M = true ∧ okSearch f t s = false ∧ askC n T M f t s b = 1) ∨ (okCurve n T M = false ∧ askC n T M f t s b = 1) := by
  unfold askC
  cases h1 : okCurve n T M <;> cases h2 : okSearch f t s <;> cases h3 : inB b 1 20 <;> by_cases h4 : 40 < n <;> simp [h4] <;> omega
set_option maxHeartbeats 800000 in
theorem c_searchBins (A : Option Addr) (n c : Nat) (T M : Nat → Int) (f t s b : Int) (w : World) (hv : Sl w 2 A n c (f2 T M)) :
    Calls Try.prog 102 #[.slice A n c, .agg #[.int .i64 f, .int .i64 t, .int .i64 s], .int .i64 b] w fun e w' => e = .returned (.int .i64 (askC n T M f t s b)) ∧ Below w.heap.size w w' := by
  have hn := hv.le
  rcases ask_cases n T M f t s b with ⟨h1, h2, h3, h4, hc⟩ | ⟨h1, h2, h3, h4, hc⟩ | ⟨h1, h2, h3, hc⟩ | ⟨h1, h2, hc⟩ | ⟨h1, hc⟩
  all_goals
    have HC := Lib.hid hc
    clear hc
    go_enter Try.func102, Try.ntmps102
    go_wp2_with (first | (go_at_call 78; refine (c_ValidCurve _ _ _ T M _ (hv.below (by repeat' (first | (with_reducible exact Below.refl _ _) | (with_reducible assumption) | (with_reducible refine Base.grow_alloc ?_ _) | (with_reducible refine Base.below_drewN ?_ _) | (with_reducible refine Below.drew ?_) | (with_reducible refine Below.setCell ?_ ?_ _) | go_size)))).mono ?_; rintro e w1 ⟨rfl, hb1⟩; obtain ⟨chb1, fhb1⟩ := Base.bcell hb1; have zhb1 := (hb1).size; (try simp at zhb1); (try have yhb1 : w.heap.size < (w1).heap.size := by omega)) | (go_at_call 134; refine (c_ValidSearch f t s _).mono ?_; rintro e w2 ⟨rfl, hb2⟩; obtain ⟨chb2, fhb2⟩ := Base.bcell hb2; have zhb2 := (hb2).size; (try simp at zhb2); (try have yhb2 : w.heap.size < (w2).heap.size := by omega)) | (go_at_call 79; refine (c_in _ _ _ _).mono ?_; rintro e w' ⟨rfl, rfl⟩))
    go_ret
    exact ⟨ret_int HC.out.symm, (by repeat' (first | (with_reducible exact Below.refl _ _) | (with_reducible assumption) | (with_reducible refine Base.via hb2 ?_) | (with_reducible refine Base.via hb1 ?_) | (with_reducible refine Base.grow_alloc ?_ _) | (with_reducible refine Base.below_drewN ?_ _) | (with_reducible refine Below.drew ?_) | (with_reducible refine Below.setCell ?_ ?_ _) | go_size))⟩
set_option maxHeartbeats 800000 in
theorem c_l11Ask (A : Option Addr) (n c : Nat) (T M : Nat → Int) (f t s b : Int) (w : World) (hv : Sl w 2 A n c (f2 T M)) :
    Calls Try.prog 100 #[.slice A n c, .agg #[.int .i64 f, .int .i64 t, .int .i64 s], .int .i64 b] w fun e w' => e = .returned (.int .i64 (askC n T M f t s b)) ∧ Below w.heap.size w w' := by
  have hn := hv.le
  rcases ask_cases n T M f t s b with ⟨h1, h2, h3, h4, hc⟩ | ⟨h1, h2, h3, h4, hc⟩ | ⟨h1, h2, h3, hc⟩ | ⟨h1, h2, hc⟩ | ⟨h1, hc⟩
  all_goals
    have HC := Lib.hid hc
    clear hc
    go_enter Try.func100, Try.ntmps100
    go_wp2_with (first | (go_at_call 75; refine (c_l08Ok _ _ _ T M _ (hv.below (by repeat' (first | (with_reducible exact Below.refl _ _) | (with_reducible assumption) | (with_reducible refine Base.grow_alloc ?_ _) | (with_reducible refine Base.below_drewN ?_ _) | (with_reducible refine Below.drew ?_) | (with_reducible refine Below.setCell ?_ ?_ _) | go_size)))).mono ?_; rintro e w1 ⟨rfl, hb1⟩; obtain ⟨chb1, fhb1⟩ := Base.bcell hb1; have zhb1 := (hb1).size; (try simp at zhb1); (try have yhb1 : w.heap.size < (w1).heap.size := by omega)) | (go_at_call 133; refine (c_l10Ok f t s _).mono ?_; rintro e w2 ⟨rfl, hb2⟩; obtain ⟨chb2, fhb2⟩ := Base.bcell hb2; have zhb2 := (hb2).size; (try simp at zhb2); (try have yhb2 : w.heap.size < (w2).heap.size := by omega)) | (go_at_call 76; refine (c_l00In _ _ _ _).mono ?_; rintro e w' ⟨rfl, rfl⟩))
    go_ret
    exact ⟨ret_int HC.out.symm, (by repeat' (first | (with_reducible exact Below.refl _ _) | (with_reducible assumption) | (with_reducible refine Base.via hb2 ?_) | (with_reducible refine Base.via hb1 ?_) | (with_reducible refine Base.grow_alloc ?_ _) | (with_reducible refine Base.below_drewN ?_ _) | (with_reducible refine Below.drew ?_) | (with_reducible refine Below.setCell ?_ ?_ _) | go_size))⟩
theorem per_bd {f t s : Int} (h : okSearch f t s = true) (k : Nat) (hk : k < perN f t s) : 1 ≤ perF f s k ∧ perF f s k ≤ 1000000 := by
  obtain ⟨b1, b2, b3, _⟩ := okSearch_bd h
  obtain ⟨_, _, p3⟩ := perN_ok h
  have h1 := (p3 k).1.1 hk
  have h2 := (p3 k).2 (by omega)
  omega
/-- the dispersions as a table -/
def dsN (n : Nat) (T M : Nat → Int) (f s b : Int) (i : Nat) : Int := disN n T M (perF f s i) b
def dsD (n : Nat) (T M : Nat → Int) (f s b : Int) (i : Nat) : Int := disD n T M (perF f s i) b
def dsL (n : Nat) (T M : Nat → Int) (f t s b : Int) : Nat := if askC n T M f t s b = 0 then perN f t s else 0
def dsP (n : Nat) (T M : Nat → Int) (f s b : Int) (i : Nat) : Int × Int := (dsN n T M f s b i, dsD n T M f s b i)
theorem lp_all {k : Nat} {g : Nat → Int × Int} {i : Nat} (hi : i < k) : lp1 (sel k all1 g) i = (g i).1 ∧ lp2 (sel k all1 g) i = (g i).2 := by
  rw [lp1, lp2, sel_all_get hi]
  exact ⟨rfl, rfl⟩
theorem OwnK.of_allP {w : World} {B : Nat} {E : TypeId} {v : Value} {k : Nat} {g : Nat → Int × Int} {a b : Nat → Int} (h : w.ownsRow B E 2 v (sel k all1 g).length (cellP (sel k all1 g))) (hn : k ≤ 1048576) (ha : ∀ i, i < k → (g i).1 = a i) (hb : ∀ i, i < k → (g i).2 = b i) : OwnK w B E 2 v k (f2 a b) := by
  have h2 := OwnK.of_listP h (by rw [sel_all_len]; exact hn)
  rw [sel_all_len] at h2
  exact h2.congr (fun i hi j _ => by simp only [f2]; rw [(lp_all hi).1, (lp_all hi).2, ha i hi, hb i hi])
theorem ret_o {v : Value} {a b : Int} (h : a = b) : Ending.returned (.tuple #[v, .int .i64 a]) = Ending.returned (.tuple #[v, .int .i64 b]) := by rw [h]
theorem sl_kept {W W' : World} {k n c : Nat} {A : Option Addr} {f : Nat → Nat → Value} {v : Value} (V : Sl W k A n c f) (hne : ∀ a, A = some a → v.ownBlock ≠ some a.block) (hg : W.grownBy W' v.ownBlock) : Sl W' k A n c f :=
  V.grown hg (fun b hb => .inr (fun a e e2 => hne a e (by rw [hb, ← e2])))
theorem ne_next {A : Option Addr} {v v' : Value} {H : Nat} (hat : v'.ownBlock = v.ownBlock ∨ v'.ownBlock = some H) (hlt : ∀ a, A = some a → a.block < H) (hne : ∀ a, A = some a → v.ownBlock ≠ some a.block) : ∀ a, A = some a → v'.ownBlock ≠ some a.block := by
  intro a e e2
  rcases hat with h | h
  · exact hne a e (by rw [← h, e2])
  · rw [e2] at h
    have := Option.some.inj h
    have := hlt a e
    omega
theorem infoF : (Try.prog.info? 39).map (fun i => (i.zero, i.size, i.bytes)) = some (some (.agg #[.int .i64 0, .int .i64 0]), 2, 16) := by kernel_rfl
set_option maxHeartbeats 1600000 in
theorem c_DispersionsOf (A : Option Addr) (n c : Nat) (T M : Nat → Int) (f t s b : Int) (w : World) (hv : Sl w 2 A n c (f2 T M)) :
    Calls Try.prog 56 #[.slice A n c, .agg #[.int .i64 f, .int .i64 t, .int .i64 s], .int .i64 b] w fun e w' => ∃ v, e = .returned (.tuple #[v, .int .i64 (askC n T M f t s b)]) ∧ OwnK w' w.heap.size 39 2 v (dsL n T M f t s b) (f2 (dsN n T M f s b) (dsD n T M f s b)) ∧ Below w.heap.size w w' := by
  by_cases hask : askC n T M f t s b = 0
  · have h4 : okCurve n T M = true ∧ okSearch f t s = true ∧ inB b 1 20 = true ∧ n ≤ 40 := by rcases ask_cases n T M f t s b with ⟨h1, h2, h3, h4, hc⟩ | ⟨h1, h2, h3, h4, hc⟩ | ⟨h1, h2, h3, hc⟩ | ⟨h1, h2, hc⟩ | ⟨h1, hc⟩ <;> first | exact ⟨h1, h2, h3, h4⟩ | omega
    obtain ⟨hok, hs, hb, h40⟩ := h4
    obtain ⟨h100, hT, hM, _⟩ := okCurve_bd hok
    have hb' := inB_iff.1 hb
    obtain ⟨m, rfl⟩ : ∃ m : Nat, b = m := ⟨b.toNat, by omega⟩
    have hm : 1 ≤ m ∧ m ≤ 20 := by omega
    have HT := Lib.hid hT
    have HM := Lib.hid hM
    have HN := Lib.hid (show dsL n T M f t s m = perN f t s by rw [dsL, if_pos hask])
    have HPB := Lib.hid (per_bd hs)
    have hNb := (perN_ok hs).1
    have HC := Lib.hid hask
    obtain ⟨i0, hi0, hz0, hz1, hz2⟩ := info_parts infoF
    clear hT hM
    go_enter Try.func56, Try.ntmps56
    go_wp2_with (first | (go_at_call 102; refine (c_searchBins _ _ _ T M f t s m _ (hv.below (by repeat' (first | (with_reducible exact Below.refl _ _) | (with_reducible assumption) | (with_reducible refine Base.grow_alloc ?_ _) | (with_reducible refine Base.below_drewN ?_ _) | (with_reducible refine Below.drew ?_) | (with_reducible refine Below.setCell ?_ ?_ _) | go_size)))).mono ?_; rintro e w1 ⟨rfl, hb1⟩; obtain ⟨chb1, fhb1⟩ := Base.bcell hb1; have zhb1 := (hb1).size; (try simp at zhb1); (try have yhb1 : w.heap.size < (w1).heap.size := by omega)))
    clear hask
    have hvw := hv.below (show Below w.heap.size w w1 from (by repeat' (first | (with_reducible exact Below.refl _ _) | (with_reducible assumption) | (with_reducible refine Base.via hb1 ?_) | (with_reducible refine Base.grow_alloc ?_ _) | (with_reducible refine Base.below_drewN ?_ _) | (with_reducible refine Below.drew ?_) | (with_reducible refine Below.setCell ?_ ?_ _) | go_size)))
    have hbw : Below w.heap.size w w1 := (by repeat' (first | (with_reducible exact Below.refl _ _) | (with_reducible assumption) | (with_reducible refine Base.via hb1 ?_) | (with_reducible refine Base.grow_alloc ?_ _) | (with_reducible refine Base.below_drewN ?_ _) | (with_reducible refine Below.drew ?_) | (with_reducible refine Below.setCell ?_ ?_ _) | go_size))
    go_wp2_with (first | (go_at_call 103; refine (c_periods f t s _ hs).mono ?_))
    rintro e w2 ⟨v2, rfl, ho2, hb2⟩
    obtain ⟨A2, c2, rfl, V2, B2⟩ := ho2.view
    have hb12 : Below w1.heap.size w1 w2 := (by repeat' (first | (with_reducible exact Below.refl _ _) | (with_reducible assumption) | (with_reducible refine Base.via hb2 ?_) | (with_reducible refine Base.grow_alloc ?_ _) | (with_reducible refine Base.below_drewN ?_ _) | (with_reducible refine Below.drew ?_) | (with_reducible refine Below.setCell ?_ ?_ _) | go_size))
    have hz12 := hb12.size
    have hzz := hb2.size
    simp at hzz
    have hown0 : w2.ownsRow w1.heap.size 39 2 (.slice (some ⟨w1.heap.size, 0, none⟩) 0 0) (sel 0 all1 (dsP n T M f s m)).length (cellP (sel 0 all1 (dsP n T M f s m))) := own_of_below (World.ownsRow_made (w := w1) (base := w1.heap.size) (e := 39) (size := 2) #[] 0 (Nat.le_refl _) (by simp [maxLen]) rfl) hb2
    have hne0 : ∀ a, A2 = some a → Value.ownBlock (.slice (some ⟨w1.heap.size, 0, none⟩) 0 0) ≠ some a.block := fun a e e2 => by
      have h1 := B2 a.block (by rw [e]; rfl)
      have h2 := Option.some.inj e2
      simp at h1 h2
      omega
    clear ho2 chb1 fhb1 B2
    go_wp2
    go_loopw [9, 11, 12, 13, 25] (fun v _ _ _ i wr => ∃ k : Nat, k ≤ perN f t s ∧ i = .int .i64 k ∧ wr.ownsRow w1.heap.size 39 2 v (sel k all1 (dsP n T M f s m)).length (cellP (sel k all1 (dsP n T M f s m))) ∧ Sl wr 1 A2 (perN f t s) c2 (f1 (perF f s)) ∧ (∀ a, A2 = some a → v.ownBlock ≠ some a.block) ∧ Below w1.heap.size w1 wr) (fun _ _ _ _ i _ => perN f t s - (intOf i).toNat)
    case atStart => exact ⟨0, Nat.zero_le _, rfl, hown0, V2, hne0, hb12⟩
    case round =>
      obtain ⟨k, hk, rfl, hown, V, hne, hbr⟩ := hrel
      have hz := hbr.size
      have hl := sel_all_len (k := k) (g := dsP n T M f s m)
      by_cases hlt : k < perN f t s
      · obtain ⟨b2, off2, rfl, hb2', hc2⟩ := V.at_ (by omega)
        have h2 := cells1 hc2 k hlt
        clear hc2
        go_wp2_with (first | (go_at_call 98; refine (c_dispersion _ n _ m T M (perF f s k) _ (hvw.below (by repeat' (first | (with_reducible exact Below.refl _ _) | (with_reducible assumption) | (with_reducible refine Base.via hbr ?_) | (with_reducible refine Base.grow_alloc ?_ _) | (with_reducible refine Base.below_drewN ?_ _) | (with_reducible refine Below.drew ?_) | (with_reducible refine Below.setCell ?_ ?_ _) | go_size))) h100 HT.out HM.out (HPB.out k hlt) hm).mono ?_; rintro e w3 ⟨rfl, hb3⟩; obtain ⟨chb3, fhb3⟩ := Base.bcell hb3; have zhb3 := (hb3).size; (try simp at zhb3); (try have yhb3 : w.heap.size < (w3).heap.size := by omega)) | (at_builtin; refine wpList_append_own_at _ rfl _ _ 59 rfl (w1.heap.size) 39 i0 _ 2 16 Try.underlying59 hi0 hz0 hz1 hz2 rfl (by decide) _ _ _ rfl (own_of_below hown (by repeat' (first | (with_reducible exact Below.refl _ _) | (with_reducible assumption) | (with_reducible refine Base.via hb3 ?_) | (with_reducible refine Base.grow_alloc ?_ _) | (with_reducible refine Base.below_drewN ?_ _) | (with_reducible refine Below.drew ?_) | (with_reducible refine Below.setCell ?_ ?_ _) | go_size))) ⟨_, 0, none⟩ 1 1 [.int .i64 (disN n T M (perF f s k) m), .int .i64 (disD n T M (perF f s k) m)] rfl rfl (cell_newL _ [.int .i64 (disN n T M (perF f s k) m), .int .i64 (disD n T M (perF f s k) m)] _ (by simp)) (by simp [Value.oneCell']) (by simp only [maxLen]; omega) (by omega) (by simp; omega) ?_))
        intro v' w4 hown' hgrow _ hat
        have hb4 : Below w1.heap.size w1 w4 := own_grow (by repeat' (first | (with_reducible exact Below.refl _ _) | (with_reducible assumption) | (with_reducible refine Base.via hb3 ?_) | (with_reducible refine Base.via hbr ?_) | (with_reducible refine Base.grow_alloc ?_ _) | (with_reducible refine Base.below_drewN ?_ _) | (with_reducible refine Below.drew ?_) | (with_reducible refine Below.setCell ?_ ?_ _) | go_size)) (own_of_below hown (by repeat' (first | (with_reducible exact Below.refl _ _) | (with_reducible assumption) | (with_reducible refine Base.via hb3 ?_) | (with_reducible refine Base.grow_alloc ?_ _) | (with_reducible refine Base.below_drewN ?_ _) | (with_reducible refine Below.drew ?_) | (with_reducible refine Below.setCell ?_ ?_ _) | go_size))) (Nat.le_refl _) hgrow
        have V4 := sl_kept (V.below (by repeat' (first | (with_reducible exact Below.refl _ _) | (with_reducible assumption) | (with_reducible refine Base.via hb3 ?_) | (with_reducible refine Base.grow_alloc ?_ _) | (with_reducible refine Base.below_drewN ?_ _) | (with_reducible refine Below.drew ?_) | (with_reducible refine Below.setCell ?_ ?_ _) | go_size))) hne hgrow
        have hz3 := hb3.size
        have hne4 := ne_next hat (fun a e => by injection e with e; subst e; simp; omega) hne
        clear hown hgrow hat V
        go_wp2
        go_roundw
        case rel => exact ⟨k + 1, by omega, by go_num, by rw [sel_yes rfl]; exact own_snocP (by rw [hl]; exact hown'), V4, hne4, (by repeat' (first | (with_reducible exact Below.refl _ _) | (with_reducible assumption) | (with_reducible refine Base.via hb4 ?_) | (with_reducible refine Base.grow_alloc ?_ _) | (with_reducible refine Base.below_drewN ?_ _) | (with_reducible refine Below.drew ?_) | (with_reducible refine Below.setCell ?_ ?_ _) | go_size))⟩
        case measure => simp [intOf]; omega
      · have hkn : k = perN f t s := by omega
        have HOO := Lib.hid (OwnK.of_allP (a := dsN n T M f s m) (b := dsD n T M f s m) hown (by omega) (fun _ _ => rfl) (fun _ _ => rfl))
        have hkn' := Lib.hid hkn
        clear hkn
        go_wp2
        go_ret2
        exact ⟨_, ret_o HC.out.symm, by rw [HN.out, ← hkn'.out]; exact HOO.out.mono hbw.size, (by repeat' (first | (with_reducible exact Below.refl _ _) | (with_reducible assumption) | (with_reducible refine Base.via hbr ?_) | (with_reducible refine Base.via hbw ?_) | (with_reducible refine Base.grow_alloc ?_ _) | (with_reducible refine Base.below_drewN ?_ _) | (with_reducible refine Below.drew ?_) | (with_reducible refine Below.setCell ?_ ?_ _) | go_size))⟩
  · have HN := Lib.hid (show dsL n T M f t s b = 0 by rw [dsL, if_neg hask])
    have hq : (askC n T M f t s b != 0) = true := by simpa using hask
    go_enter Try.func56, Try.ntmps56
    go_wp2_with (first | (go_at_call 102; refine (c_searchBins _ _ _ T M f t s b _ (hv.below (by repeat' (first | (with_reducible exact Below.refl _ _) | (with_reducible assumption) | (with_reducible refine Base.grow_alloc ?_ _) | (with_reducible refine Base.below_drewN ?_ _) | (with_reducible refine Below.drew ?_) | (with_reducible refine Below.setCell ?_ ?_ _) | go_size)))).mono ?_; rintro e w1 ⟨rfl, hb1⟩; obtain ⟨chb1, fhb1⟩ := Base.bcell hb1; have zhb1 := (hb1).size; (try simp at zhb1); (try have yhb1 : w.heap.size < (w1).heap.size := by omega)))
    go_ret2
    exact ⟨_, rfl, OwnK.zero HN.out, (by repeat' (first | (with_reducible exact Below.refl _ _) | (with_reducible assumption) | (with_reducible refine Base.via hb1 ?_) | (with_reducible refine Base.grow_alloc ?_ _) | (with_reducible refine Base.below_drewN ?_ _) | (with_reducible refine Below.drew ?_) | (with_reducible refine Below.setCell ?_ ?_ _) | go_size))⟩
set_option maxHeartbeats 1600000 in
theorem c_specDispersionsOf (A : Option Addr) (n c : Nat) (T M : Nat → Int) (f t s b : Int) (w : World) (hv : Sl w 2 A n c (f2 T M)) :
    Calls Try.prog 55 #[.slice A n c, .agg #[.int .i64 f, .int .i64 t, .int .i64 s], .int .i64 b] w fun e w' => ∃ v, e = .returned (.tuple #[v, .int .i64 (askC n T M f t s b)]) ∧ OwnK w' w.heap.size 39 2 v (dsL n T M f t s b) (f2 (dsN n T M f s b) (dsD n T M f s b)) ∧ Below w.heap.size w w' := by
  by_cases hask : askC n T M f t s b = 0
  · have h4 : okCurve n T M = true ∧ okSearch f t s = true ∧ inB b 1 20 = true ∧ n ≤ 40 := by rcases ask_cases n T M f t s b with ⟨h1, h2, h3, h4, hc⟩ | ⟨h1, h2, h3, h4, hc⟩ | ⟨h1, h2, h3, hc⟩ | ⟨h1, h2, hc⟩ | ⟨h1, hc⟩ <;> first | exact ⟨h1, h2, h3, h4⟩ | omega
    obtain ⟨hok, hs, hb, h40⟩ := h4
    obtain ⟨h100, hT, hM, _⟩ := okCurve_bd hok
    have hb' := inB_iff.1 hb
    obtain ⟨sb1, sb2, sb3, _⟩ := okSearch_bd hs
    have HT := Lib.hid hT
    have HM := Lib.hid hM
    have HN := Lib.hid (show dsL n T M f t s b = perN f t s by rw [dsL, if_pos hask])
    have HPB := Lib.hid (per_bd hs)
    obtain ⟨hNb, _, hP3⟩ := perN_ok hs
    have HP3 := Lib.hid hP3
    have HC := Lib.hid hask
    obtain ⟨i0, hi0, hz0, hz1, hz2⟩ := info_parts infoF
    clear hT hM hP3
    go_enter Try.func55, Try.ntmps55
    go_wp2_with (first | (go_at_call 100; refine (c_l11Ask _ _ _ T M f t s b _ (hv.below (by repeat' (first | (with_reducible exact Below.refl _ _) | (with_reducible assumption) | (with_reducible refine Base.grow_alloc ?_ _) | (with_reducible refine Base.below_drewN ?_ _) | (with_reducible refine Below.drew ?_) | (with_reducible refine Below.setCell ?_ ?_ _) | go_size)))).mono ?_; rintro e w1 ⟨rfl, hb1⟩; obtain ⟨chb1, fhb1⟩ := Base.bcell hb1; have zhb1 := (hb1).size; (try simp at zhb1); (try have yhb1 : w.heap.size < (w1).heap.size := by omega)))
    clear hask
    have k0 : World.cell? w1 ⟨w.heap.size, 1, none⟩ = some (.int .i64 t) := ((hb1.cell (p := ⟨w.heap.size, 1, none⟩) (by first | (simp; done) | (simp; omega) | omega)).trans (by simp [go_sem]))
    have k1 : World.cell? w1 ⟨w.heap.size, 2, none⟩ = some (.int .i64 s) := ((hb1.cell (p := ⟨w.heap.size, 2, none⟩) (by first | (simp; done) | (simp; omega) | omega)).trans (by simp [go_sem]))
    have hlw : w.heap.size < w1.heap.size := World.block_lt_of_cell? _ _ k0
    have hvw := hv.below (show Below w.heap.size w w1 from (by repeat' (first | (with_reducible exact Below.refl _ _) | (with_reducible assumption) | (with_reducible refine Base.via hb1 ?_) | (with_reducible refine Base.grow_alloc ?_ _) | (with_reducible refine Base.below_drewN ?_ _) | (with_reducible refine Below.drew ?_) | (with_reducible refine Below.setCell ?_ ?_ _) | go_size)))
    have hbw : Below w.heap.size w w1 := (by repeat' (first | (with_reducible exact Below.refl _ _) | (with_reducible assumption) | (with_reducible refine Base.via hb1 ?_) | (with_reducible refine Base.grow_alloc ?_ _) | (with_reducible refine Base.below_drewN ?_ _) | (with_reducible refine Below.drew ?_) | (with_reducible refine Below.setCell ?_ ?_ _) | go_size))
    clear chb1 fhb1
    go_loopw [9, 10, 11, 12] (fun v p _ _ wr => ∃ (k : Nat) (x : Int), k ≤ perN f t s ∧ Hid (x = perF f s k) ∧ p = .int .i64 x ∧ wr.ownsRow w1.heap.size 39 2 v (sel k all1 (dsP n T M f s b)).length (cellP (sel k all1 (dsP n T M f s b))) ∧ Below w1.heap.size w1 wr) (fun _ p _ _ _ => (t + s - intOf p).toNat)
    case atStart => exact ⟨0, f, by omega, (show f = perF f s 0 by simp [perF]), rfl, World.ownsRow_made _ _ _ (by omega) (by simp [maxLen]) rfl, (by repeat' (first | (with_reducible exact Below.refl _ _) | (with_reducible assumption) | (with_reducible refine Base.grow_alloc ?_ _) | (with_reducible refine Base.below_drewN ?_ _) | (with_reducible refine Below.drew ?_) | (with_reducible refine Below.setCell ?_ ?_ _) | go_size))⟩
    case round =>
      obtain ⟨k, x, hk, hx, rfl, hown, hbr⟩ := hrel
      have hz := hbr.size
      have hl := sel_all_len (k := k) (g := dsP n T M f s b)
      obtain ⟨h1, h2⟩ := HP3.out k
      rw [← hx.out] at h1 h2
      have h2 := h2 hk
      have q0 := (hbr.cell (p := ⟨w.heap.size, 1, none⟩) hlw).trans k0
      have q1 := (hbr.cell (p := ⟨w.heap.size, 2, none⟩) hlw).trans k1
      by_cases hlt : x ≤ t
      · have hkN := h1.2 hlt
        have hx1 : x + s = perF f s (k + 1) := by rw [hx.out, perF, perF]; push_cast; rw [Int.add_mul]; omega
        have HX := Lib.hid hx1
        have hxb := HPB.out k hkN
        rw [← hx.out] at hxb
        have bS := inS_bd (B := binV T x b) h100 HM.out
        have bP := inP_bd (B := binV T x b) h100
        have HI := Lib.hid (fun W (hW : Sl W 2 A n c (f2 T M)) => c_l11Inside A n c T M x b W hW h100 HT.out HM.out hxb hb')
        have hD1 : dsN n T M f s b k = disN n T M x b := by rw [dsN, ← hx.out]
        have hD2 : dsD n T M f s b k = disD n T M x b := by rw [dsD, ← hx.out]
        have hN0 := hD1.trans (disN.eq_1 n T M x b)
        have hN1 := hD2.trans (disD.eq_1 n T M x b)
        obtain ⟨P, hP⟩ : ∃ P, P = inP n (binV T x b) := ⟨_, rfl⟩
        obtain ⟨S, hS⟩ : ∃ S, S = inS n (binV T x b) M := ⟨_, rfl⟩
        rw [← hP] at hN0 hN1 bP HI
        rw [← hS] at hN0 hN1 bS HI
        clear h1 hx1 hD1 hD2 hP hS
        by_cases hP0 : P = 0
        · have E := Lib.hid (show dsP n T M f s b k = (0, 0) by rw [dsP, hN0, hN1, if_pos hP0, if_pos hP0])
          subst hP0
          clear hN0 hN1
          go_wp2_with (first | (go_at_call 96; refine (HI.out _ (hvw.below (by repeat' (first | (with_reducible exact Below.refl _ _) | (with_reducible assumption) | (with_reducible refine Base.via hbr ?_) | (with_reducible refine Base.grow_alloc ?_ _) | (with_reducible refine Base.below_drewN ?_ _) | (with_reducible refine Below.drew ?_) | (with_reducible refine Below.setCell ?_ ?_ _) | go_size)))).mono ?_; rintro e w3 ⟨rfl, hb3⟩; obtain ⟨chb3, fhb3⟩ := Base.bcell hb3; have zhb3 := (hb3).size; (try simp at zhb3); (try have yhb3 : w.heap.size < (w3).heap.size := by omega)) | (at_builtin; refine wpList_append_own_at _ rfl _ _ 59 rfl (w1.heap.size) 39 i0 _ 2 16 Try.underlying59 hi0 hz0 hz1 hz2 rfl (by decide) _ _ _ rfl (own_of_below hown (by repeat' (first | (with_reducible exact Below.refl _ _) | (with_reducible assumption) | (with_reducible refine Base.via hb3 ?_) | (with_reducible refine Base.grow_alloc ?_ _) | (with_reducible refine Base.below_drewN ?_ _) | (with_reducible refine Below.drew ?_) | (with_reducible refine Below.setCell ?_ ?_ _) | go_size))) ⟨_, 0, none⟩ 1 1 [.int .i64 0, .int .i64 0] rfl rfl (cell_newL _ [.int .i64 0, .int .i64 0] _ (by simp)) (by simp [Value.oneCell']) (by simp only [maxLen]; omega) (by omega) (by simp; omega) ?_))
          intro v' w4 hown' hgrow _ hat
          have hb4 : Below w1.heap.size w1 w4 := own_grow (by repeat' (first | (with_reducible exact Below.refl _ _) | (with_reducible assumption) | (with_reducible refine Base.via hb3 ?_) | (with_reducible refine Base.via hbr ?_) | (with_reducible refine Base.grow_alloc ?_ _) | (with_reducible refine Base.below_drewN ?_ _) | (with_reducible refine Below.drew ?_) | (with_reducible refine Below.setCell ?_ ?_ _) | go_size)) (own_of_below hown (by repeat' (first | (with_reducible exact Below.refl _ _) | (with_reducible assumption) | (with_reducible refine Base.via hb3 ?_) | (with_reducible refine Base.grow_alloc ?_ _) | (with_reducible refine Base.below_drewN ?_ _) | (with_reducible refine Below.drew ?_) | (with_reducible refine Below.setCell ?_ ?_ _) | go_size))) (Nat.le_refl _) hgrow
          have r1 := (hb4.cell (p := ⟨w.heap.size, 2, none⟩) hlw).trans k1
          clear hown hgrow hat q0 q1
          go_wp2
          go_roundw
          case rel => exact ⟨k + 1, x + s, by omega, HX.out, by go_num, by rw [sel_yes rfl, E.out]; exact own_snocP (by rw [hl]; exact hown'), (by repeat' (first | (with_reducible exact Below.refl _ _) | (with_reducible assumption) | (with_reducible refine Base.via hb4 ?_) | (with_reducible refine Base.grow_alloc ?_ _) | (with_reducible refine Base.below_drewN ?_ _) | (with_reducible refine Below.drew ?_) | (with_reducible refine Below.setCell ?_ ?_ _) | go_size))⟩
          case measure => simp [intOf]; omega
        · have E := Lib.hid (show dsP n T M f s b k = (lowN S P, lowD S P) by rw [dsP, hN0, hN1, if_neg hP0, if_neg hP0])
          have hPq : (P == 0) = false := by simpa using hP0
          have hP1 : 1 ≤ P := by omega
          clear hN0 hN1 hP0
          go_wp2_with (first | (go_at_call 96; refine (HI.out _ (hvw.below (by repeat' (first | (with_reducible exact Below.refl _ _) | (with_reducible assumption) | (with_reducible refine Base.via hbr ?_) | (with_reducible refine Base.grow_alloc ?_ _) | (with_reducible refine Base.below_drewN ?_ _) | (with_reducible refine Below.drew ?_) | (with_reducible refine Below.setCell ?_ ?_ _) | go_size)))).mono ?_; rintro e w3 ⟨rfl, hb3⟩; obtain ⟨chb3, fhb3⟩ := Base.bcell hb3; have zhb3 := (hb3).size; (try simp at zhb3); (try have yhb3 : w.heap.size < (w3).heap.size := by omega)) | (go_at_call 97; refine (c_l02Make S P _ (by omega) (by omega) (by omega) (by omega)).mono ?_; rintro e w5 ⟨rfl, hb5⟩; obtain ⟨chb5, fhb5⟩ := Base.bcell hb5; have zhb5 := (hb5).size; (try simp at zhb5); (try have yhb5 : w.heap.size < (w5).heap.size := by omega)) | (at_builtin; refine wpList_append_own_at _ rfl _ _ 59 rfl (w1.heap.size) 39 i0 _ 2 16 Try.underlying59 hi0 hz0 hz1 hz2 rfl (by decide) _ _ _ rfl (own_of_below hown (by repeat' (first | (with_reducible exact Below.refl _ _) | (with_reducible assumption) | (with_reducible refine Base.via hb5 ?_) | (with_reducible refine Base.via hb3 ?_) | (with_reducible refine Base.grow_alloc ?_ _) | (with_reducible refine Base.below_drewN ?_ _) | (with_reducible refine Below.drew ?_) | (with_reducible refine Below.setCell ?_ ?_ _) | go_size))) ⟨_, 0, none⟩ 1 1 [.int .i64 (lowN S P), .int .i64 (lowD S P)] rfl rfl (cell_newL _ [.int .i64 (lowN S P), .int .i64 (lowD S P)] _ (by simp)) (by simp [Value.oneCell']) (by simp only [maxLen]; omega) (by omega) (by simp; omega) ?_))
          intro v' w4 hown' hgrow _ hat
          have hb4 : Below w1.heap.size w1 w4 := own_grow (by repeat' (first | (with_reducible exact Below.refl _ _) | (with_reducible assumption) | (with_reducible refine Base.via hb5 ?_) | (with_reducible refine Base.via hb3 ?_) | (with_reducible refine Base.via hbr ?_) | (with_reducible refine Base.grow_alloc ?_ _) | (with_reducible refine Base.below_drewN ?_ _) | (with_reducible refine Below.drew ?_) | (with_reducible refine Below.setCell ?_ ?_ _) | go_size)) (own_of_below hown (by repeat' (first | (with_reducible exact Below.refl _ _) | (with_reducible assumption) | (with_reducible refine Base.via hb5 ?_) | (with_reducible refine Base.via hb3 ?_) | (with_reducible refine Base.grow_alloc ?_ _) | (with_reducible refine Base.below_drewN ?_ _) | (with_reducible refine Below.drew ?_) | (with_reducible refine Below.setCell ?_ ?_ _) | go_size))) (Nat.le_refl _) hgrow
          have r1 := (hb4.cell (p := ⟨w.heap.size, 2, none⟩) hlw).trans k1
          clear hown hgrow hat q0 q1
          go_wp2
          go_roundw
          case rel => exact ⟨k + 1, x + s, by omega, HX.out, by go_num, by rw [sel_yes rfl, E.out]; exact own_snocP (by rw [hl]; exact hown'), (by repeat' (first | (with_reducible exact Below.refl _ _) | (with_reducible assumption) | (with_reducible refine Base.via hb4 ?_) | (with_reducible refine Base.grow_alloc ?_ _) | (with_reducible refine Base.below_drewN ?_ _) | (with_reducible refine Below.drew ?_) | (with_reducible refine Below.setCell ?_ ?_ _) | go_size))⟩
          case measure => simp [intOf]; omega
      · have hkn : k = perN f t s := by have := fun h => hlt (h1.1 h); omega
        have HOO := Lib.hid (OwnK.of_allP (a := dsN n T M f s b) (b := dsD n T M f s b) hown (by omega) (fun _ _ => rfl) (fun _ _ => rfl))
        have hkn' := Lib.hid hkn
        clear hkn h1
        go_wp2
        go_ret2
        exact ⟨_, ret_o HC.out.symm, by rw [HN.out, ← hkn'.out]; exact HOO.out.mono hbw.size, (by repeat' (first | (with_reducible exact Below.refl _ _) | (with_reducible assumption) | (with_reducible refine Base.via hbr ?_) | (with_reducible refine Base.via hbw ?_) | (with_reducible refine Base.grow_alloc ?_ _) | (with_reducible refine Base.below_drewN ?_ _) | (with_reducible refine Below.drew ?_) | (with_reducible refine Below.setCell ?_ ?_ _) | go_size))⟩
  · have HN := Lib.hid (show dsL n T M f t s b = 0 by rw [dsL, if_neg hask])
    have hq : (askC n T M f t s b != 0) = true := by simpa using hask
    go_enter Try.func55, Try.ntmps55
    go_wp2_with (first | (go_at_call 100; refine (c_l11Ask _ _ _ T M f t s b _ (hv.below (by repeat' (first | (with_reducible exact Below.refl _ _) | (with_reducible assumption) | (with_reducible refine Base.grow_alloc ?_ _) | (with_reducible refine Base.below_drewN ?_ _) | (with_reducible refine Below.drew ?_) | (with_reducible refine Below.setCell ?_ ?_ _) | go_size)))).mono ?_; rintro e w1 ⟨rfl, hb1⟩; obtain ⟨chb1, fhb1⟩ := Base.bcell hb1; have zhb1 := (hb1).size; (try simp at zhb1); (try have yhb1 : w.heap.size < (w1).heap.size := by omega)))
    go_ret2
    exact ⟨_, rfl, OwnK.zero HN.out, (by repeat' (first | (with_reducible exact Below.refl _ _) | (with_reducible assumption) | (with_reducible refine Base.via hb1 ?_) | (with_reducible refine Base.grow_alloc ?_ _) | (with_reducible refine Base.below_drewN ?_ _) | (with_reducible refine Below.drew ?_) | (with_reducible refine Below.setCell ?_ ?_ _) | go_size))⟩
end Go.Proofs.Ytiinjnghnfofpaa.Best
