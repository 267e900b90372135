/- The marks behind which there is a gap of magnitudes. -/
import Derived.Test.YtenjcdhehjdeoaaMgP
import Derived.Test.YtenjcdhehjdeoaaEnc
import Derived.Test.YtenjcdhehjdeoaaChosen
namespace Go.Proofs.Ytenjcdhehjdeoaa.MagG
set_option linter.unusedVariables false
set_option linter.unusedSimpArgs false
set_option maxRecDepth 8000
open Go.RowKit Go.Shelf Plain Num View Amp Chart

set_option maxHeartbeats 800000 in
theorem c_indicesWhere (n : Nat) (g : Nat) (lb : Array Value) (p : Nat → Bool) (w : World) (eg : ∀ args w, (callFunc g args).run Try.prog w = .ok (.enter g args) w)
    (hn : n ≤ 1048576) (hp : Idx.Pred Try.prog w g lb n (fun i => .int .i64 (i : Int)) p) :
    Calls Try.prog 48 #[.int .i64 n, .func (.func g) #[] lb] w fun e w' => ∃ v, e = .returned v ∧ OwnK w' w.heap.size 2 1 v (sel n p iotaI).length (f1 (lf (sel n p iotaI))) ∧ Below w.heap.size w w' := by
  have HP := Lib.hid hp
  clear hp
  obtain ⟨i0, hi0, hz0, hz1, hz2⟩ := info_parts Enc.infoI
  go_enter Try.func48, Try.ntmps48
  go_wp2
  go_loopw [5, 6, 9] (fun v _ i wr => ∃ k : Nat, k ≤ n ∧ i = .int .i64 k ∧ wr.ownsRow w.heap.size 2 1 v (sel k p iotaI).length (cellL (sel k p iotaI)) ∧ Below w.heap.size w wr) (fun _ _ i _ => n - (intOf i).toNat)
  case atStart => exact ⟨0, Nat.zero_le _, rfl, World.ownsRow_made _ _ _ (by omega) (by simp [maxLen]) rfl, (by repeat' (first | (with_reducible exact Below.refl _ _) | (with_reducible assumption) | (with_reducible refine Base.grow_alloc ?_ _) | (with_reducible refine Base.below_drewN ?_ _) | (with_reducible refine Below.drew ?_) | (with_reducible refine Below.setCell ?_ ?_ _) | go_size))⟩
  case round =>
    obtain ⟨k, hk, rfl, hown, hbr⟩ := hrel
    have hz := hbr.size
    have hl := sel_len (k := k) (P := p) (g := iotaI)
    by_cases hlt : k < n
    · have hcall := HP.out wr hbr k hlt
      cases hq : p k with
      | true =>
        rw [hq] at hcall
        have HQ := Lib.hid (sel_yes (g := iotaI) hq)
        clear hq
        go_wp2_with (first | (go_at_fn g; refine hcall.mono ?_; rintro e w1 ⟨rfl, hb1⟩; have zz := hb1.size) | (at_builtin; refine wpList_append_own _ rfl _ _ 24 rfl (w.heap.size) 2 i0 _ 1 8 Try.underlying24 hi0 hz0 hz1 hz2 rfl (by decide) _ _ _ rfl (own_of_below hown (by repeat' (first | (with_reducible exact Below.refl _ _) | (with_reducible assumption) | (with_reducible refine Base.via hb1 ?_) | (with_reducible refine Base.grow_alloc ?_ _) | (with_reducible refine Base.below_drewN ?_ _) | (with_reducible refine Below.drew ?_) | (with_reducible refine Below.setCell ?_ ?_ _) | go_size))) ⟨_, 0, none⟩ 1 1 [.int .i64 ((k : Int))] rfl rfl (cell_newL _ [.int .i64 ((k : Int))] _ (by simp)) (by simp [Value.oneCell']) (by simp only [maxLen]; omega) (by omega) (by simp; omega) ?_))
        intro v' w2 hown' hgrow _
        have hb2 : Below w.heap.size w w2 := own_grow (by repeat' (first | (with_reducible exact Below.refl _ _) | (with_reducible assumption) | (with_reducible refine Base.via hb1 ?_) | (with_reducible refine Base.grow_alloc ?_ _) | (with_reducible refine Base.below_drewN ?_ _) | (with_reducible refine Below.drew ?_) | (with_reducible refine Below.setCell ?_ ?_ _) | go_size)) hown (Nat.le_refl _) hgrow
        clear hown hgrow
        go_wp2
        go_roundw
        case rel => exact ⟨k + 1, by omega, by go_num, by rw [HQ.out]; exact own_snoc hown', hb2⟩
        case measure => simp [intOf]; omega
      | false =>
        rw [hq] at hcall
        have HQ := Lib.hid (sel_no (g := iotaI) hq)
        clear hq
        go_wp2_with (go_at_fn g; refine hcall.mono ?_; rintro e w1 ⟨rfl, hb1⟩)
        go_roundw
        case rel => exact ⟨k + 1, by omega, by go_num, by rw [HQ.out]; exact own_of_below hown hb1, (by repeat' (first | (with_reducible exact Below.refl _ _) | (with_reducible assumption) | (with_reducible refine Base.via hb1 ?_) | (with_reducible refine Base.grow_alloc ?_ _) | (with_reducible refine Base.below_drewN ?_ _) | (with_reducible refine Below.drew ?_) | (with_reducible refine Below.setCell ?_ ?_ _) | go_size))⟩
        case measure => simp [intOf]; omega
    · have hkn : k = n := by omega
      subst hkn
      go_wp2
      go_ret
      exact ⟨_, rfl, OwnK.of_list hown (by omega), hbr⟩
def mgC (n : Nat) (X Y M : Nat → Int) (v : Int) : Int := if okChart n X Y M = true then (if inB v 0 20000 = true then 0 else 2) else 1
def mgL (n : Nat) (X Y M : Nat → Int) (v : Int) : List Int := if mgC n X Y M v = 0 then sel n (gapB M v n) iotaI else []
theorem mg_cases (n : Nat) (X Y M : Nat → Int) (v : Int) : (okChart n X Y M = true ∧ inB v 0 20000 = true ∧ mgC n X Y M v = 0) ∨ (okChart n X Y M = true ∧ inB v 0 20000 = false ∧ mgC n X Y M v = 2) ∨ (okChart n X Y M = false ∧ mgC n X Y M v = 1) := by
  unfold mgC
  cases okChart n X Y M <;> cases inB v 0 20000 <;> simp
theorem gr_bd {n i : Nat} {M : Nat → Int} (hM : ∀ j, j < n → -2000 ≤ M j ∧ M j ≤ 20000) (h : 0 < (grL M i n).length) : -2000 ≤ minT (lf (grL M i n)) ((grL M i n).length - 1) ∧ minT (lf (grL M i n)) ((grL M i n).length - 1) ≤ 20000 := by
  refine minT_bd (fun j hj => ?_)
  have hl : j < (grL M i n).length := by omega
  have hm : lf (grL M i n) j ∈ grL M i n := by
    simp only [lf, List.getD_eq_getElem?_getD, List.getElem?_eq_getElem hl]
    exact List.getElem_mem hl
  obtain ⟨q, q1, _, e⟩ := sel_mem hm
  rw [e]
  exact hM q q1
end Go.Proofs.Ytenjcdhehjdeoaa.MagG
