/- The chosen ones of a list of numbers, with whatever closure. -/
import Derived.Test.YtenjcdhehjdeoaaIdx
import Derived.Test.YtenjcdhehjdeoaaList
namespace Go.Proofs.Ytenjcdhehjdeoaa.Chosen
set_option linter.unusedVariables false
set_option linter.unusedSimpArgs false
open Go.RowKit Go.Shelf Plain Num View Idx
theorem infoI : (Try.prog.info? 2).map (fun i => (i.zero, i.size, i.bytes)) = some (some (.int .i64 0), 1, 8) := by kernel_rfl
set_option maxHeartbeats 800000 in
theorem c_chosenInt64 (A : Option Addr) (n c : Nat) (T : Nat → Int) (g : Nat) (lb : Array Value) (p : Nat → Bool) (w : World) (eg : ∀ args w, (callFunc g args).run Try.prog w = .ok (.enter g args) w)
    (hv : Sl w 1 A n c (f1 T)) (hp : Pred Try.prog w g lb n (fun i => .int .i64 (T i)) p) :
    Calls Try.prog 68 #[.slice A n c, .func (.func g) #[] lb] w fun e w' => ∃ v, e = .returned v ∧ OwnK w' w.heap.size 2 1 v (sel n p T).length (f1 (lf (sel n p T))) ∧ Below w.heap.size w w' := by
  have hn := hv.le
  have HP := Lib.hid hp
  clear hp
  obtain ⟨i0, hi0, hz0, hz1, hz2⟩ := info_parts infoI
  go_enter Try.func68, Try.ntmps68
  go_wp2
  go_loopw [5, 7, 11] (fun v _ i wr => ∃ k : Nat, k ≤ n ∧ i = .int .i64 k ∧ wr.ownsRow w.heap.size 2 1 v (sel k p T).length (cellL (sel k p T)) ∧ Below w.heap.size w wr) (fun _ _ i _ => n - (intOf i).toNat)
  case atStart => exact ⟨0, Nat.zero_le _, rfl, World.ownsRow_made _ _ _ (by omega) (by simp [maxLen]) rfl, (by repeat' (first | (with_reducible exact Below.refl _ _) | (with_reducible assumption) | (with_reducible refine Base.grow_alloc ?_ _) | (with_reducible refine Base.below_drewN ?_ _) | (with_reducible refine Below.drew ?_) | (with_reducible refine Below.setCell ?_ ?_ _) | go_size))⟩
  case round =>
    obtain ⟨k, hk, rfl, hown, hbr⟩ := hrel
    have hz := hbr.size
    have hl := sel_len (k := k) (P := p) (g := T)
    by_cases hlt : k < n
    · obtain ⟨b, off, rfl, hb, hc⟩ := (hv.below hbr).at_ (by omega)
      have h0 := cells1 hc k hlt
      have hcall := HP.out wr hbr k hlt
      clear hc
      cases hq : p k with
      | true =>
        rw [hq] at hcall
        have HQ := Lib.hid (sel_yes (g := T) hq)
        clear hq
        go_wp2_with (first | (go_at_fn g; refine hcall.mono ?_; rintro e w1 ⟨rfl, hb1⟩; have zz := hb1.size) | (at_builtin; refine wpList_append_own _ rfl _ _ 24 rfl (w.heap.size) 2 i0 _ 1 8 Try.underlying24 hi0 hz0 hz1 hz2 rfl (by decide) _ _ _ rfl (own_of_below hown (by repeat' (first | (with_reducible exact Below.refl _ _) | (with_reducible assumption) | (with_reducible refine Base.via hb1 ?_) | (with_reducible refine Base.grow_alloc ?_ _) | (with_reducible refine Base.below_drewN ?_ _) | (with_reducible refine Below.drew ?_) | (with_reducible refine Below.setCell ?_ ?_ _) | go_size))) ⟨_, 0, none⟩ 1 1 [.int .i64 (T k)] rfl rfl (cell_newL _ [.int .i64 (T k)] _ (by simp)) (by simp [Value.oneCell']) (by simp only [maxLen]; omega) (by omega) (by simp; omega) ?_))
        intro v' w2 hown' hgrow _
        have hb2 : Below w.heap.size w w2 := own_grow (by repeat' (first | (with_reducible exact Below.refl _ _) | (with_reducible assumption) | (with_reducible refine Base.via hb1 ?_) | (with_reducible refine Base.grow_alloc ?_ _) | (with_reducible refine Base.below_drewN ?_ _) | (with_reducible refine Below.drew ?_) | (with_reducible refine Below.setCell ?_ ?_ _) | go_size)) hown (Nat.le_refl _) hgrow
        clear hown hgrow
        go_wp2
        go_roundw
        case rel => exact ⟨k + 1, by omega, by go_num, by rw [HQ.out]; exact own_snoc hown', hb2⟩
        case measure => simp [intOf]; omega
      | false =>
        rw [hq] at hcall
        have HQ := Lib.hid (sel_no (g := T) hq)
        clear hq
        go_wp2_with (go_at_fn g; refine hcall.mono ?_; rintro e w1 ⟨rfl, hb1⟩)
        go_roundw
        case rel => exact ⟨k + 1, by omega, by go_num, by rw [HQ.out]; exact own_of_below hown hb1, (by repeat' (first | (with_reducible exact Below.refl _ _) | (with_reducible assumption) | (with_reducible refine Base.via hb1 ?_) | (with_reducible refine Base.grow_alloc ?_ _) | (with_reducible refine Base.below_drewN ?_ _) | (with_reducible refine Below.drew ?_) | (with_reducible refine Below.setCell ?_ ?_ _) | go_size))⟩
        case measure => simp [intOf]; omega
    · have hkn : k = n := by omega
      subst hkn
      go_wp2
      go_ret
      exact ⟨_, rfl, OwnK.of_list hown (by omega), hbr⟩
end Go.Proofs.Ytenjcdhehjdeoaa.Chosen
