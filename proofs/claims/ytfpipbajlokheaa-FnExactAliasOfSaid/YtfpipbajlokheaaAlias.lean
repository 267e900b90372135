/- The aliases of a period. -/
import Derived.Test.YtfpipbajlokheaaChosen
import Derived.Test.YtfpipbajlokheaaFrac
namespace Go.Proofs.Ytfpipbajlokheaa.Alias
set_option linter.unusedVariables false
set_option linter.unusedSimpArgs false
open Go.RowKit Plain Num View Frac Chosen

/-- both candidates -/
def base (p g : Int) : List Int := if g = p then [nrI (p * g) (g + p)] else [nrI (p * g) (g + p), nrI (p * g) (absI (g - p))]
def aliasC (p g : Int) : Int := if (inB p 1 1000000 && inB g 1 1000000) = true then 0 else 2
def aliasL (p g : Int) : List Int := if aliasC p g = 0 then sel (base p g).length (fun i => inB (lf (base p g) i) 1 1000000) (lf (base p g)) else []
theorem alias_cases (p g : Int) : (inB p 1 1000000 = true ∧ inB g 1 1000000 = true ∧ aliasC p g = 0) ∨ (inB p 1 1000000 = false ∧ aliasC p g = 2) ∨ (inB p 1 1000000 = true ∧ inB g 1 1000000 = false ∧ aliasC p g = 2) := by
  unfold aliasC
  cases h1 : inB p 1 1000000 <;> cases h2 : inB g 1 1000000 <;> simp
theorem pg_bd {p g : Int} (hp : 1 ≤ p ∧ p ≤ 1000000) (hg : 1 ≤ g ∧ g ≤ 1000000) : 1 ≤ p * g ∧ p * g ≤ 1000000000000 := by
  have h1 : p * 1 ≤ p * g := Int.mul_le_mul_of_nonneg_left hg.1 (by omega)
  have h2 : p * g ≤ p * 1000000 := Int.mul_le_mul_of_nonneg_left hg.2 (by omega)
  omega
/-- A slice of one or two given numbers, made in one go. -/
theorem own_lit {w : World} {B : Nat} {E : TypeId} {b : Nat} (xs : List Value) {n : Nat} (hn : xs.length = n) (hm : n ≤ 1048576) (hB : B ≤ w.heap.size) (hb : b = w.heap.size) : (w.alloc (.cells xs.toArray E)).ownsRow B E 1 (.slice (some ⟨b, 0, none⟩) n n) n xs := by
  subst hb
  refine ⟨by simp [hn], .inr ⟨w.heap.size, n, xs.toArray, rfl, hB, heap_alloc_new w _, Nat.le_refl _, by simp [maxLen]; omega, by simp [hn], ?_⟩⟩
  rw [List.take_of_length_le (by simp [hn])]
theorem ret_s {v : Value} {a b : Int} (h : a = b) : Ending.returned (.tuple #[v, .int .i64 a]) = Ending.returned (.tuple #[v, .int .i64 b]) := by rw [h]
theorem c_alias1 (x : Int) (w : World) : Calls Try.prog 63 #[.int .i64 x] w fun e w' => e = .returned (.bool (inB x 1 1000000)) ∧ Below w.heap.size w w' := by
  go_enter Try.func63, Try.ntmps63
  go_wp2_with (first | (go_at_call 59; refine (c_in _ _ _ _).mono ?_; rintro e w' ⟨rfl, rfl⟩))
  go_ret
  exact ⟨rfl, (by repeat' (first | (with_reducible exact Below.refl _ _) | (with_reducible assumption) | (with_reducible refine Base.grow_alloc ?_ _) | (with_reducible refine Base.below_drewN ?_ _) | (with_reducible refine Below.drew ?_) | (with_reducible refine Below.setCell ?_ ?_ _) | go_size))⟩
set_option maxRecDepth 8000 in
set_option maxHeartbeats 800000 in
theorem c_AliasOf (p g : Int) (w : World) :
    Calls Try.prog 16 #[.int .i64 p, .int .i64 g] w fun e w' => ∃ v, e = .returned (.tuple #[v, .int .i64 (aliasC p g)]) ∧ OwnK w' w.heap.size 2 1 v (aliasL p g).length (f1 (lf (aliasL p g))) ∧ Below w.heap.size w w' := by
  have eg : ∀ args w, (callFunc 63 args).run Try.prog w = .ok (.enter 63 args) w := enters_of Try.func63 (by kernel_rfl) rfl
  have hp : ∀ (W : World) (L : List Int), Idx.Pred Try.prog W 63 #[] L.length (fun i => .int .i64 (lf L i)) (fun i => inB (lf L i) 1 1000000) := fun W L W' _ i _ => c_alias1 _ _
  have HP := Lib.hid hp
  clear hp
  obtain ⟨i0, hi0, hz0, hz1, hz2⟩ := info_parts infoI
  rcases alias_cases p g with ⟨h1, h2, hc⟩ | ⟨h1, hc⟩ | ⟨h1, h2, hc⟩
  · have hpp := inB_iff.1 h1
    have hgg := inB_iff.1 h2
    obtain ⟨m1, m2⟩ := pg_bd hpp hgg
    obtain ⟨hp1, hp2⟩ := hpp
    obtain ⟨hg1, hg2⟩ := hgg
    have HL := Lib.hid (show aliasL p g = sel (base p g).length (fun i => inB (lf (base p g) i) 1 1000000) (lf (base p g)) by rw [aliasL, if_pos hc])
    have HCD := Lib.hid hc
    clear hc
    by_cases heq : g = p
    · obtain rfl : p = g := heq.symm
      have HB := Lib.hid (show base p p = [nrI (p * p) (p + p)] by rw [base, if_pos rfl])
      go_enter Try.func16, Try.ntmps16
      go_wp2_with (first | (go_at_call 59; refine (c_in _ _ _ _).mono ?_; rintro e w' ⟨rfl, rfl⟩) | (go_at_call 60; refine (c_nearest _ _ _ (by omega) (by omega) (by omega) (by omega)).mono ?_; rintro e w' ⟨rfl, rfl⟩))
      refine (c_chosenInt64 _ 1 1 (lf [nrI (p * p) (p + p)]) 63 #[] _ _ eg (OwnK.of_list (L := [nrI (p * p) (p + p)]) (own_lit (n := 1) (B := w.heap.size) (cellL [nrI (p * p) (p + p)]) rfl (by omega) (by simp) (by simp)) (by simp)).sl (HP.out _ [nrI (p * p) (p + p)])).mono ?_
      rintro e w2 ⟨v, rfl, ho, hb2⟩
      go_wp2
      go_ret2
      exact ⟨_, ret_s HCD.out.symm, by rw [HL.out, HB.out]; exact ho.mono (by simp), (by repeat' (first | (with_reducible exact Below.refl _ _) | (with_reducible assumption) | (with_reducible refine Base.via hb2 ?_) | (with_reducible refine Base.grow_alloc ?_ _) | (with_reducible refine Base.below_drewN ?_ _) | (with_reducible refine Below.drew ?_) | (with_reducible refine Below.setCell ?_ ?_ _) | go_size))⟩
    · have heq' : (g == p) = false := by simpa using heq
      have HB := Lib.hid (show base p g = [nrI (p * g) (g + p), nrI (p * g) (absI (g - p))] by rw [base, if_neg heq])
      have ha : 1 ≤ absI (g - p) ∧ absI (g - p) ≤ 1000000 := by unfold absI; split <;> omega
      obtain ⟨ha1, ha2⟩ := ha
      go_enter Try.func16, Try.ntmps16
      have HO := Lib.hid (show (w.alloc (.cells #[.int .i64 (nrI (p * g) (g + p))] 2)).ownsRow w.heap.size 2 1 (.slice (some ⟨w.heap.size, 0, none⟩) 1 1) 1 (cellL [nrI (p * g) (g + p)])  from own_lit (n := 1) (cellL [nrI (p * g) (g + p)]) rfl (by omega) (by omega) rfl)
      have HH := Lib.hid heq
      clear heq
      go_wp2_with (first | (go_at_call 59; refine (c_in _ _ _ _).mono ?_; rintro e w' ⟨rfl, rfl⟩) | (go_at_call 61; refine (c_abs _ _ (by omega) (by omega)).mono ?_; rintro e w' ⟨rfl, rfl⟩) | (go_at_call 60; refine (c_nearest _ _ _ (by omega) (by omega) (by omega) (by omega)).mono ?_; rintro e w' ⟨rfl, rfl⟩) | (at_builtin; refine wpList_append_own _ rfl _ _ 22 rfl (w.heap.size) 2 i0 _ 1 8 Try.underlying22 hi0 hz0 hz1 hz2 rfl (by decide) _ _ _ rfl (own_of_below HO.out (by repeat' (first | (with_reducible exact Below.refl _ _) | (with_reducible assumption) | (with_reducible refine Base.grow_alloc ?_ _) | (with_reducible refine Base.below_drewN ?_ _) | (with_reducible refine Below.drew ?_) | (with_reducible refine Below.setCell ?_ ?_ _) | go_size))) ⟨_, 0, none⟩ 1 1 [.int .i64 (nrI (p * g) (absI (g - p)))] rfl rfl (cell_newL _ [.int .i64 (nrI (p * g) (absI (g - p)))] _ (by simp)) (by simp [Value.oneCell']) (by simp only [maxLen]; omega) (by omega) (by simp; omega) ?_))
      intro v' w1 hown' hgrow _
      have hb1 : Below w.heap.size w w1 := own_grow (by repeat' (first | (with_reducible exact Below.refl _ _) | (with_reducible assumption) | (with_reducible refine Base.grow_alloc ?_ _) | (with_reducible refine Base.below_drewN ?_ _) | (with_reducible refine Below.drew ?_) | (with_reducible refine Below.setCell ?_ ?_ _) | go_size)) HO.out (Nat.le_refl _) hgrow
      obtain ⟨A1, c1, rfl, V1, _⟩ := (OwnK.of_list (L := [nrI (p * g) (g + p), nrI (p * g) (absI (g - p))]) hown' (by simp)).view
      go_wp2_with (first | (go_at_call 62; refine (c_chosenInt64 _ _ _ (lf [nrI (p * g) (g + p), nrI (p * g) (absI (g - p))]) 63 #[] _ _ eg V1 (HP.out _ [nrI (p * g) (g + p), nrI (p * g) (absI (g - p))])).mono ?_))
      rintro e w2 ⟨v, rfl, ho, hb2⟩
      go_wp2
      go_ret2
      exact ⟨_, ret_s HCD.out.symm, by rw [HL.out, HB.out]; exact ho.mono hb1.size, (by repeat' (first | (with_reducible exact Below.refl _ _) | (with_reducible assumption) | (with_reducible refine Base.via hb2 ?_) | (with_reducible refine Base.via hb1 ?_) | (with_reducible refine Base.grow_alloc ?_ _) | (with_reducible refine Base.below_drewN ?_ _) | (with_reducible refine Below.drew ?_) | (with_reducible refine Below.setCell ?_ ?_ _) | go_size))⟩
  all_goals
    have HL := Lib.hid (show (aliasL p g).length = 0 by rw [aliasL, hc]; rfl)
    have HCD := Lib.hid hc
    clear hc
    go_enter Try.func16, Try.ntmps16
    go_wp2_with (first | (go_at_call 59; refine (c_in _ _ _ _).mono ?_; rintro e w' ⟨rfl, rfl⟩))
    go_ret2
    exact ⟨_, ret_s HCD.out.symm, OwnK.zero HL.out, (by repeat' (first | (with_reducible exact Below.refl _ _) | (with_reducible assumption) | (with_reducible refine Base.grow_alloc ?_ _) | (with_reducible refine Base.below_drewN ?_ _) | (with_reducible refine Below.drew ?_) | (with_reducible refine Below.setCell ?_ ?_ _) | go_size))⟩
set_option maxRecDepth 8000 in
set_option maxHeartbeats 800000 in
theorem c_specAliasOf (p g : Int) (w : World) :
    Calls Try.prog 15 #[.int .i64 p, .int .i64 g] w fun e w' => ∃ v, e = .returned (.tuple #[v, .int .i64 (aliasC p g)]) ∧ OwnK w' w.heap.size 2 1 v (aliasL p g).length (f1 (lf (aliasL p g))) ∧ Below w.heap.size w w' := by
  obtain ⟨i0, hi0, hz0, hz1, hz2⟩ := info_parts infoI
  rcases alias_cases p g with ⟨h1, h2, hc⟩ | ⟨h1, hc⟩ | ⟨h1, h2, hc⟩
  · have hpp := inB_iff.1 h1
    have hgg := inB_iff.1 h2
    obtain ⟨m1, m2⟩ := pg_bd hpp hgg
    obtain ⟨hp1, hp2⟩ := hpp
    obtain ⟨hg1, hg2⟩ := hgg
    have HL := Lib.hid (show aliasL p g = sel (base p g).length (fun i => inB (lf (base p g) i) 1 1000000) (lf (base p g)) by rw [aliasL, if_pos hc])
    have HCD := Lib.hid hc
    clear hc
    by_cases heq : g = p
    · obtain rfl : p = g := heq.symm
      have HB := Lib.hid (show base p p = [nrI (p * p) (p + p)] by rw [base, if_pos rfl])
      go_enter Try.func15, Try.ntmps15
      go_wp2_with (first | (go_at_call 56; refine (c_l09Period _ _).mono ?_; rintro e w' ⟨rfl, rfl⟩) | (go_at_call 57; refine (c_l02Round _ _ _ (by omega) (by omega) (by omega) (by omega)).mono ?_; rintro e w' ⟨rfl, rfl⟩))
      have HV1 := Lib.hid (OwnK.of_list (L := [nrI (p * p) (p + p)]) (own_lit (w := w) (E := 2) (b := w.heap.size) (n := 1) (B := w.heap.size) (cellL [nrI (p * p) (p + p)]) rfl (by omega) (by omega) rfl) (by simp)).sl
      obtain ⟨W1, hW1⟩ : ∃ W1 : World, W1 = w.alloc (.cells #[.int .i64 (nrI (p * p) (p + p))] 2) := ⟨_, rfl⟩
      have hbW : Below w.heap.size w W1 := by rw [hW1]; exact (by repeat' (first | (with_reducible exact Below.refl _ _) | (with_reducible assumption) | (with_reducible refine Base.grow_alloc ?_ _) | (with_reducible refine Base.below_drewN ?_ _) | (with_reducible refine Below.drew ?_) | (with_reducible refine Below.setCell ?_ ?_ _) | go_size))
      have zW : W1.heap.size = w.heap.size + 1 := by rw [hW1]; simp
      have hV : Sl W1 1 (some ⟨w.heap.size, 0, none⟩) 1 1 (f1 (lf [nrI (p * p) (p + p)])) := by rw [hW1]; exact HV1.out
      rw [← hW1]
      clear hW1 HV1
      go_wp2_with (first | (go_at_call 56; refine (c_l09Period _ _).mono ?_; rintro e w' ⟨rfl, rfl⟩))
      have hzz := hbW.size
      go_loopw [7, 8] (fun v i wr => ∃ k : Nat, k ≤ ([nrI (p * p) (p + p)]).length ∧ i = .int .i64 k ∧ wr.ownsRow (w.heap.size + 1) 2 1 v (sel k (fun i => inB (lf ([nrI (p * p) (p + p)]) i) 1 1000000) (lf ([nrI (p * p) (p + p)]))).length (cellL (sel k (fun i => inB (lf ([nrI (p * p) (p + p)]) i) 1 1000000) (lf ([nrI (p * p) (p + p)])))) ∧ Below W1.heap.size W1 wr) (fun _ i _ => 2 - (intOf i).toNat)
      case atStart => exact ⟨0, Nat.zero_le _, rfl, (by first | exact World.ownsRow_made _ _ _ (by omega) (by simp [maxLen]) rfl | (rw [← zW]; exact World.ownsRow_made _ _ _ (by omega) (by simp [maxLen]) rfl)), (by repeat' (first | (with_reducible exact Below.refl _ _) | (with_reducible assumption) | (with_reducible refine Base.grow_alloc ?_ _) | (with_reducible refine Base.below_drewN ?_ _) | (with_reducible refine Below.drew ?_) | (with_reducible refine Below.setCell ?_ ?_ _) | go_size))⟩
      case round =>
        obtain ⟨k, hk, rfl, hown, hbr⟩ := hrel
        have hz := hbr.size
        have hl := sel_len (k := k) (P := fun i => inB (lf ([nrI (p * p) (p + p)]) i) 1 1000000) (g := lf ([nrI (p * p) (p + p)]))
        simp only [List.length_cons, List.length_nil] at hk
        by_cases hlt : k < ([nrI (p * p) (p + p)]).length
        · obtain ⟨b, off, e0, hb, hc⟩ := (hV.below hbr).at_ (by simp)
          have h0 := cells1 hc k hlt
          clear hc
          simp only [List.length_cons, List.length_nil] at hlt
          try (injection e0 with e0; injection e0 with e1 e2; subst e1; subst e2)
          try subst e0
          try simp only [Nat.zero_add] at h0
          cases hq : inB (lf ([nrI (p * p) (p + p)]) k) 1 1000000
          · have HQ := Lib.hid (sel_no (P := fun i => inB (lf ([nrI (p * p) (p + p)]) i) 1 1000000) (g := lf ([nrI (p * p) (p + p)])) hq)
            go_wp2_with (first | (go_at_call 56; refine (c_l09Period _ _).mono ?_; rintro e w' ⟨rfl, rfl⟩))
            go_roundw
            case rel => exact ⟨k + 1, by simp; omega, by go_num, by rw [HQ.out]; exact own_of_below hown (by repeat' (first | (with_reducible exact Below.refl _ _) | (with_reducible assumption) | (with_reducible refine Base.grow_alloc ?_ _) | (with_reducible refine Base.below_drewN ?_ _) | (with_reducible refine Below.drew ?_) | (with_reducible refine Below.setCell ?_ ?_ _) | go_size)), (by repeat' (first | (with_reducible exact Below.refl _ _) | (with_reducible assumption) | (with_reducible refine Base.grow_alloc ?_ _) | (with_reducible refine Base.below_drewN ?_ _) | (with_reducible refine Below.drew ?_) | (with_reducible refine Below.setCell ?_ ?_ _) | go_size))⟩
            case measure => simp [intOf]; omega
          · have HQ := Lib.hid (sel_yes (P := fun i => inB (lf ([nrI (p * p) (p + p)]) i) 1 1000000) (g := lf ([nrI (p * p) (p + p)])) hq)
            go_wp2_with (first | (go_at_call 56; refine (c_l09Period _ _).mono ?_; rintro e w' ⟨rfl, rfl⟩) | (at_builtin; refine wpList_append_own _ rfl _ _ 22 rfl (w.heap.size + 1) 2 i0 _ 1 8 Try.underlying22 hi0 hz0 hz1 hz2 rfl (by decide) _ _ _ rfl (own_of_below hown (by repeat' (first | (with_reducible exact Below.refl _ _) | (with_reducible assumption) | (with_reducible refine Base.grow_alloc ?_ _) | (with_reducible refine Base.below_drewN ?_ _) | (with_reducible refine Below.drew ?_) | (with_reducible refine Below.setCell ?_ ?_ _) | go_size))) ⟨_, 0, none⟩ 1 1 [.int .i64 (lf ([nrI (p * p) (p + p)]) k)] rfl rfl (cell_newL _ [.int .i64 (lf ([nrI (p * p) (p + p)]) k)] _ (by simp)) (by simp [Value.oneCell']) (by simp only [maxLen]; omega) (by omega) (by simp; omega) ?_))
            intro v' w3 hown' hgrow _
            have hb3 : Below W1.heap.size W1 w3 := own_grow (by repeat' (first | (with_reducible exact Below.refl _ _) | (with_reducible assumption) | (with_reducible refine Base.grow_alloc ?_ _) | (with_reducible refine Base.below_drewN ?_ _) | (with_reducible refine Below.drew ?_) | (with_reducible refine Below.setCell ?_ ?_ _) | go_size)) hown (by omega) hgrow
            clear hown hgrow
            go_wp2
            go_roundw
            case rel => exact ⟨k + 1, by simp; omega, by go_num, by rw [HQ.out]; exact own_snoc hown', hb3⟩
            case measure => simp [intOf]; omega
        · simp only [List.length_cons, List.length_nil] at hlt
          have hkn : k = ([nrI (p * p) (p + p)]).length := by simp; omega
          subst hkn
          go_wp2
          go_ret2
          exact ⟨_, ret_s HCD.out.symm, by rw [HL.out, HB.out]; exact (OwnK.of_list hown (by simp at hl ⊢; omega)).mono (by omega), (by repeat' (first | (with_reducible exact Below.refl _ _) | (with_reducible assumption) | (with_reducible refine Base.via hbr ?_) | (with_reducible refine Base.via hbW ?_) | (with_reducible refine Base.grow_alloc ?_ _) | (with_reducible refine Base.below_drewN ?_ _) | (with_reducible refine Below.drew ?_) | (with_reducible refine Below.setCell ?_ ?_ _) | go_size))⟩
    · have heq' : (g == p) = false := by simpa using heq
      have heq2 : (g != p) = true := by simp [bne, heq']
      have HB := Lib.hid (show base p g = [nrI (p * g) (g + p), nrI (p * g) (absI (g - p))] by rw [base, if_neg heq])
      have ha : 1 ≤ absI (g - p) ∧ absI (g - p) ≤ 1000000 := by unfold absI; split <;> omega
      obtain ⟨ha1, ha2⟩ := ha
      go_enter Try.func15, Try.ntmps15
      have HO := Lib.hid (show (w.alloc (.cells #[.int .i64 (nrI (p * g) (g + p))] 2)).ownsRow w.heap.size 2 1 (.slice (some ⟨w.heap.size, 0, none⟩) 1 1) 1 (cellL [nrI (p * g) (g + p)])  from own_lit (n := 1) (cellL [nrI (p * g) (g + p)]) rfl (by omega) (by omega) rfl)
      have HH := Lib.hid heq
      clear heq
      go_wp2_with (first | (go_at_call 56; refine (c_l09Period _ _).mono ?_; rintro e w' ⟨rfl, rfl⟩) | (go_at_call 58; refine (c_l02Size _ _ (by omega) (by omega)).mono ?_; rintro e w' ⟨rfl, rfl⟩) | (go_at_call 57; refine (c_l02Round _ _ _ (by omega) (by omega) (by omega) (by omega)).mono ?_; rintro e w' ⟨rfl, rfl⟩) | (at_builtin; refine wpList_append_own _ rfl _ _ 22 rfl (w.heap.size) 2 i0 _ 1 8 Try.underlying22 hi0 hz0 hz1 hz2 rfl (by decide) _ _ _ rfl (own_of_below HO.out (by repeat' (first | (with_reducible exact Below.refl _ _) | (with_reducible assumption) | (with_reducible refine Base.grow_alloc ?_ _) | (with_reducible refine Base.below_drewN ?_ _) | (with_reducible refine Below.drew ?_) | (with_reducible refine Below.setCell ?_ ?_ _) | go_size))) ⟨_, 0, none⟩ 1 1 [.int .i64 (nrI (p * g) (absI (g - p)))] rfl rfl (cell_newL _ [.int .i64 (nrI (p * g) (absI (g - p)))] _ (by simp)) (by simp [Value.oneCell']) (by simp only [maxLen]; omega) (by omega) (by simp; omega) ?_))
      intro v' w1 hown' hgrow _
      have hb1 : Below w.heap.size w w1 := own_grow (by repeat' (first | (with_reducible exact Below.refl _ _) | (with_reducible assumption) | (with_reducible refine Base.grow_alloc ?_ _) | (with_reducible refine Base.below_drewN ?_ _) | (with_reducible refine Below.drew ?_) | (with_reducible refine Below.setCell ?_ ?_ _) | go_size)) HO.out (Nat.le_refl _) hgrow
      obtain ⟨A1, c1, rfl, V1, _⟩ := (show OwnK w1 w.heap.size 2 1 v' 2 (f1 (lf [nrI (p * g) (g + p), nrI (p * g) (absI (g - p))])) from OwnK.of_list (L := [nrI (p * g) (g + p), nrI (p * g) (absI (g - p))]) hown' (by simp)).view
      go_wp2_with (first | (go_at_call 56; refine (c_l09Period _ _).mono ?_; rintro e w' ⟨rfl, rfl⟩))
      have hzz := hb1.size
      go_loopw [7, 8] (fun v i wr => ∃ k : Nat, k ≤ ([nrI (p * g) (g + p), nrI (p * g) (absI (g - p))]).length ∧ i = .int .i64 k ∧ wr.ownsRow w1.heap.size 2 1 v (sel k (fun i => inB (lf ([nrI (p * g) (g + p), nrI (p * g) (absI (g - p))]) i) 1 1000000) (lf ([nrI (p * g) (g + p), nrI (p * g) (absI (g - p))]))).length (cellL (sel k (fun i => inB (lf ([nrI (p * g) (g + p), nrI (p * g) (absI (g - p))]) i) 1 1000000) (lf ([nrI (p * g) (g + p), nrI (p * g) (absI (g - p))])))) ∧ Below w1.heap.size w1 wr) (fun _ i _ => 2 - (intOf i).toNat)
      case atStart => exact ⟨0, Nat.zero_le _, rfl, (by first | exact World.ownsRow_made _ _ _ (by omega) (by simp [maxLen]) rfl | (rw [← zW]; exact World.ownsRow_made _ _ _ (by omega) (by simp [maxLen]) rfl)), (by repeat' (first | (with_reducible exact Below.refl _ _) | (with_reducible assumption) | (with_reducible refine Base.grow_alloc ?_ _) | (with_reducible refine Base.below_drewN ?_ _) | (with_reducible refine Below.drew ?_) | (with_reducible refine Below.setCell ?_ ?_ _) | go_size))⟩
      case round =>
        obtain ⟨k, hk, rfl, hown, hbr⟩ := hrel
        have hz := hbr.size
        have hl := sel_len (k := k) (P := fun i => inB (lf ([nrI (p * g) (g + p), nrI (p * g) (absI (g - p))]) i) 1 1000000) (g := lf ([nrI (p * g) (g + p), nrI (p * g) (absI (g - p))]))
        simp only [List.length_cons, List.length_nil] at hk
        by_cases hlt : k < ([nrI (p * g) (g + p), nrI (p * g) (absI (g - p))]).length
        · obtain ⟨b, off, e0, hb, hc⟩ := (V1.below hbr).at_ (by simp)
          have h0 := cells1 hc k hlt
          clear hc
          simp only [List.length_cons, List.length_nil] at hlt
          try (injection e0 with e0; injection e0 with e1 e2; subst e1; subst e2)
          try subst e0
          try simp only [Nat.zero_add] at h0
          cases hq : inB (lf ([nrI (p * g) (g + p), nrI (p * g) (absI (g - p))]) k) 1 1000000
          · have HQ := Lib.hid (sel_no (P := fun i => inB (lf ([nrI (p * g) (g + p), nrI (p * g) (absI (g - p))]) i) 1 1000000) (g := lf ([nrI (p * g) (g + p), nrI (p * g) (absI (g - p))])) hq)
            go_wp2_with (first | (go_at_call 56; refine (c_l09Period _ _).mono ?_; rintro e w' ⟨rfl, rfl⟩))
            go_roundw
            case rel => exact ⟨k + 1, by simp; omega, by go_num, by rw [HQ.out]; exact own_of_below hown (by repeat' (first | (with_reducible exact Below.refl _ _) | (with_reducible assumption) | (with_reducible refine Base.grow_alloc ?_ _) | (with_reducible refine Base.below_drewN ?_ _) | (with_reducible refine Below.drew ?_) | (with_reducible refine Below.setCell ?_ ?_ _) | go_size)), (by repeat' (first | (with_reducible exact Below.refl _ _) | (with_reducible assumption) | (with_reducible refine Base.grow_alloc ?_ _) | (with_reducible refine Base.below_drewN ?_ _) | (with_reducible refine Below.drew ?_) | (with_reducible refine Below.setCell ?_ ?_ _) | go_size))⟩
            case measure => simp [intOf]; omega
          · have HQ := Lib.hid (sel_yes (P := fun i => inB (lf ([nrI (p * g) (g + p), nrI (p * g) (absI (g - p))]) i) 1 1000000) (g := lf ([nrI (p * g) (g + p), nrI (p * g) (absI (g - p))])) hq)
            go_wp2_with (first | (go_at_call 56; refine (c_l09Period _ _).mono ?_; rintro e w' ⟨rfl, rfl⟩) | (at_builtin; refine wpList_append_own _ rfl _ _ 22 rfl (w1.heap.size) 2 i0 _ 1 8 Try.underlying22 hi0 hz0 hz1 hz2 rfl (by decide) _ _ _ rfl (own_of_below hown (by repeat' (first | (with_reducible exact Below.refl _ _) | (with_reducible assumption) | (with_reducible refine Base.grow_alloc ?_ _) | (with_reducible refine Base.below_drewN ?_ _) | (with_reducible refine Below.drew ?_) | (with_reducible refine Below.setCell ?_ ?_ _) | go_size))) ⟨_, 0, none⟩ 1 1 [.int .i64 (lf ([nrI (p * g) (g + p), nrI (p * g) (absI (g - p))]) k)] rfl rfl (cell_newL _ [.int .i64 (lf ([nrI (p * g) (g + p), nrI (p * g) (absI (g - p))]) k)] _ (by simp)) (by simp [Value.oneCell']) (by simp only [maxLen]; omega) (by omega) (by simp; omega) ?_))
            intro v' w3 hown' hgrow _
            have hb3 : Below w1.heap.size w1 w3 := own_grow (by repeat' (first | (with_reducible exact Below.refl _ _) | (with_reducible assumption) | (with_reducible refine Base.grow_alloc ?_ _) | (with_reducible refine Base.below_drewN ?_ _) | (with_reducible refine Below.drew ?_) | (with_reducible refine Below.setCell ?_ ?_ _) | go_size)) hown (by omega) hgrow
            clear hown hgrow
            go_wp2
            go_roundw
            case rel => exact ⟨k + 1, by simp; omega, by go_num, by rw [HQ.out]; exact own_snoc hown', hb3⟩
            case measure => simp [intOf]; omega
        · simp only [List.length_cons, List.length_nil] at hlt
          have hkn : k = ([nrI (p * g) (g + p), nrI (p * g) (absI (g - p))]).length := by simp; omega
          subst hkn
          go_wp2
          go_ret2
          exact ⟨_, ret_s HCD.out.symm, by rw [HL.out, HB.out]; exact (OwnK.of_list hown (by simp at hl ⊢; omega)).mono (by omega), (by repeat' (first | (with_reducible exact Below.refl _ _) | (with_reducible assumption) | (with_reducible refine Base.via hbr ?_) | (with_reducible refine Base.via hb1 ?_) | (with_reducible refine Base.grow_alloc ?_ _) | (with_reducible refine Base.below_drewN ?_ _) | (with_reducible refine Below.drew ?_) | (with_reducible refine Below.setCell ?_ ?_ _) | go_size))⟩
  all_goals
    have HL := Lib.hid (show (aliasL p g).length = 0 by rw [aliasL, hc]; rfl)
    have HCD := Lib.hid hc
    clear hc
    go_enter Try.func15, Try.ntmps15
    go_wp2_with (first | (go_at_call 56; refine (c_l09Period _ _).mono ?_; rintro e w' ⟨rfl, rfl⟩))
    go_ret2
    exact ⟨_, ret_s HCD.out.symm, OwnK.zero HL.out, (by repeat' (first | (with_reducible exact Below.refl _ _) | (with_reducible assumption) | (with_reducible refine Base.grow_alloc ?_ _) | (with_reducible refine Base.below_drewN ?_ _) | (with_reducible refine Below.drew ?_) | (with_reducible refine Below.setCell ?_ ?_ _) | go_size))⟩
end Go.Proofs.Ytfpipbajlokheaa.Alias
