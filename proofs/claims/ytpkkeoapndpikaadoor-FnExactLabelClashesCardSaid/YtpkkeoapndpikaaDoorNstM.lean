/- The laws' marks on pairs of numbers. -/
import Derived.Test.YtpkkeoapndpikaaDoorNst
import Derived.Test.YtpkkeoapndpikaaDoorHelp
import Derived.Test.YtpkkeoapndpikaaDoorNum
import Derived.BigQuiet
import Derived.Deep.QuietTactic
namespace Go.Proofs.YtpkkeoapndpikaaDoor.NstM
set_option linter.unusedVariables false
set_option linter.unusedSimpArgs false
set_option maxRecDepth 8000
open Go.RowKit Plain Num View Help Nst

theorem fr_view {w : World} {g : Nat} {E : TypeId} {k0 : Int} {k : Nat} (h : RowK w g E 1 2 (fr (fun i j => k0 + (i * 2 + j : Nat)) k)) : Sl w 1 (some ⟨g, 0, none⟩) 2 2 (fun i j => .int .i64 (k0 + (k * 2 : Nat) + (i * 1 + j : Nat))) :=
  (h.view (c := 2) (by omega) (by omega) (by omega)).congr fun j hj q hq => by
    obtain rfl : q = 0 := by omega
    exact congrArg (Value.int .i64) (show k0 + ((k * 2 + j : Nat) : Int) = k0 + (k * 2 : Nat) + (j * 1 + 0 : Nat) by omega)
set_option maxHeartbeats 800000 in
theorem c_eqInt64SS (lo hi lo' hi' : Nat) (v v' : Value) (n : Nat) (G G' : Nat → Nat) (F : Nat → Nat → Int) (w : World) (hv : Nst w lo hi 38 2 v n G F) (hu : Nst w lo' hi' 38 2 v' n G' F) :
    Calls Tryd.prog 34 #[v, v'] w fun e w' => e = .returned (.bool true) ∧ Below w.heap.size w w' := by
  have hn := hv.le
  obtain ⟨A, c, rfl, V, _⟩ := hv.1.view
  obtain ⟨A', c', rfl, V', _⟩ := hu.1.view
  go_enter Tryd.func34, Tryd.ntmps34
  go_wp2
  go_loopw [5] (fun i wr => ∃ k : Nat, k ≤ n ∧ i = .int .i64 k ∧ Below w.heap.size w wr) (fun i _ => n - (intOf i).toNat)
  case atStart => exact ⟨0, Nat.zero_le _, rfl, Below.refl _ _⟩
  case round =>
    obtain ⟨k, hk, rfl, hbr⟩ := hrel
    by_cases hlt : k < n
    · obtain ⟨b, off, rfl, hb, hc⟩ := (V.below hbr).at_ (by omega)
      obtain ⟨b', off', rfl, hb', hc'⟩ := (V'.below hbr).at_ (by omega)
      have h0 : wr.cell? ⟨b, off + k, none⟩ = some (rowV G k) := by have := hc k hlt 0 (by omega); simpa using this
      have g0 : wr.cell? ⟨b', off' + k, none⟩ = some (rowV G' k) := by have := hc' k hlt 0 (by omega); simpa using this
      have R1 := ((hv.below hbr).2.2.2 k hlt).2.2.1.view (c := 2) (by omega) (by omega) (by omega)
      have R2 := ((hu.below hbr).2.2.2 k hlt).2.2.1.view (c := 2) (by omega) (by omega) (by omega)
      have HT := Lib.hid (fun (W : World) (hW : Below wr.heap.size wr W) => c_eqInt64S _ _ 2 2 2 (F k) W (R1.below hW) (R2.below hW))
      simp only [rowV] at h0 g0
      clear hc hc' R1 R2
      go_wp2
      go_still_tail 8, (by kernel_rfl)
      change wpList _ _ _ _ _ wr.drew
      obtain ⟨w2, hw2⟩ : ∃ w2, w2 = wr.drew := ⟨_, rfl⟩
      have hb2 : Below wr.heap.size wr w2 := by rw [hw2]; exact (Below.refl _ _).drew
      rw [← hw2]
      clear hw2
      go_wp2_with fail
      refine (HT.out _ hb2).mono ?_
      rintro e w1 ⟨rfl, hb1⟩
      go_wp2
      go_roundw
      case rel => exact ⟨k + 1, by omega, by go_num, (by repeat' (first | (with_reducible exact Below.refl _ _) | (with_reducible assumption) | (with_reducible refine Base.via hb1 ?_) | (with_reducible refine Base.via hb2 ?_) | (with_reducible refine Base.via hbr ?_) | (with_reducible refine Base.grow_alloc ?_ _) | (with_reducible refine Base.below_drewN ?_ _) | (with_reducible refine Below.drew ?_) | (with_reducible refine Below.setCell ?_ ?_ _) | go_size))⟩
      case measure => simp [intOf]; omega
    · have hkn : k = n := by omega
      subst hkn
      go_wp2
      go_ret
      exact ⟨rfl, hbr⟩
theorem mark_at (k0 : Int) (n : Nat) : k0 + ((n + 1) * 2 : Nat) = k0 + (n * 2 : Nat) + (2 * 1 : Nat) := by omega
set_option maxHeartbeats 800000 in
theorem c_markInt64SS (lo hi : Nat) (v : Value) (n : Nat) (G : Nat → Nat) (F : Nat → Nat → Int) (k0 : Int) (w : World) (hv : Nst w lo hi 38 2 v n G F) (hk : 0 ≤ k0 ∧ k0 ≤ 1000000) :
    Calls Tryd.prog 35 #[v, .int .i64 k0] w fun e w' => e = .returned (.int .i64 (k0 + (n * 2 : Nat))) ∧ Nst w' lo hi 38 2 v n G (fun i j => k0 + (i * 2 + j : Nat)) ∧ Below lo w w' := by
  have hn := hv.le
  have hlo : 0 < n → lo ≤ w.heap.size := fun h => by
    have := hv.2.2.2 0 h
    have := hv.2.1
    omega
  have HV := Lib.hid hv
  obtain ⟨A, c, rfl, V, _⟩ := hv.1.view
  go_enter Tryd.func35, Tryd.ntmps35
  go_wp2
  go_loopw [1, 5] (fun q i wr => ∃ k : Nat, k ≤ n ∧ i = .int .i64 k ∧ q = .int .i64 (k0 + (k * 2 : Nat)) ∧ Hid (Nst wr lo hi 38 2 (.slice A n c) n G (fun i j => if i < k then k0 + (i * 2 + j : Nat) else F i j)) ∧ Below lo w wr) (fun _ i _ => n - (intOf i).toNat)
  case atStart => exact ⟨0, Nat.zero_le _, rfl, by go_num, Lib.hid (by simpa using HV.out), Below.refl _ _⟩
  case round =>
    obtain ⟨k, hk', rfl, rfl, hnst, hbr⟩ := hrel
    by_cases hlt : k < n
    · have hN := hnst.out
      obtain ⟨A2, c2, e2, V2, _⟩ := hN.1.view
      injection e2 with e3 e4 e5
      subst e3; subst e5
      obtain ⟨b, off, rfl, hb, hc⟩ := V2.at_ (by omega)
      have h0 : wr.cell? ⟨b, off + k, none⟩ = some (rowV G k) := by have := hc k hlt 0 (by omega); simpa using this
      obtain ⟨r1, r2, r3, r4, r5⟩ := hN.2.2.2 k hlt
      have hsz := hN.2.1
      have HT := Lib.hid (c_markInt64S lo (rowV G k) 2 _ (k0 + (k * 2 : Nat)) wr (OwnK.of_row (by omega) r1 r3) (by omega) (by omega))
      have hkk : k * 2 ≤ 1048576 * 2 := by omega
      have HE := Lib.hid (mark_at k0 k)
      simp only [rowV] at h0
      clear hc r3 r4 r5 hN V2
      go_wp2_with fail
      refine HT.out.mono ?_
      rintro e w1 ⟨rfl, ho, hg⟩
      have HN2 := Lib.hid (hnst.out.put hlt ho hg (F' := fun i j => if i < k + 1 then k0 + (i * 2 + j : Nat) else F i j) (fun j hj => by
        rw [if_pos (by omega)]
        exact congrArg (Value.int .i64) (by omega)) (fun i hi hik j hj => by
        by_cases h : i < k
        · rw [if_pos h, if_pos (by omega)]
        · rw [if_neg h, if_neg (by omega)]))
      have hb1 : Below lo w w1 := hbr.grown hg (by omega) (fun q hq => by
        simp only [rowV, Value.ownBlock, Option.some.injEq] at hq
        omega)
      clear ho hg
      go_wp2
      exact ⟨⟨k + 1, by omega, by go_num, congrArg (Value.int .i64) (by omega), HN2.out, hb1⟩, by simp [intOf]; omega⟩
    · have hkn : k = n := by omega
      subst hkn
      go_wp2
      go_ret
      refine ⟨rfl, hnst.out.keep (Nat.le_refl _) (fun _ _ _ => rfl) |> fun h => ?_, hbr⟩
      obtain ⟨a, b, c', d⟩ := h
      refine ⟨a, b, c', fun i hi => ?_⟩
      obtain ⟨d1, d2, d3, d4⟩ := d i hi
      exact ⟨d1, d2, d3.congr (fun j hj q hq => congrArg (Value.int .i64) (if_pos hi)), d4⟩
set_option maxHeartbeats 800000 in
theorem c_heldInt64SS (lo hi : Nat) (v : Value) (n : Nat) (G : Nat → Nat) (k0 : Int) (w : World) (hv : Nst w lo hi 38 2 v n G (fun i j => k0 + (i * 2 + j : Nat))) (hk : 0 ≤ k0 ∧ k0 ≤ 1000000) :
    Calls Tryd.prog 36 #[v, .int .i64 k0] w fun e w' => e = .returned (.int .i64 (k0 + (n * 2 : Nat))) ∧ Below w.heap.size w w' := by
  have hn := hv.le
  obtain ⟨A, c, rfl, V, _⟩ := hv.1.view
  have HV := Lib.hid hv.2.2.2
  go_enter Tryd.func36, Tryd.ntmps36
  go_wp2
  go_loop [1, 5] (fun q i => ∃ k : Nat, k ≤ n ∧ i = .int .i64 k ∧ q = .int .i64 (k0 + (k * 2 : Nat))) (fun _ i => n - (intOf i).toNat)
  case atStart => exact ⟨0, Nat.zero_le _, rfl, by go_num⟩
  case round =>
    obtain ⟨k, hk', rfl, rfl⟩ := hrel
    by_cases hlt : k < n
    · obtain ⟨b, off, rfl, hb, hc⟩ := V.at_ (by omega)
      have h0 : w.cell? ⟨b, off + k, none⟩ = some (rowV G k) := by have := hc k hlt 0 (by omega); simpa using this
      have R1 := (HV.out k hlt).2.2.1
      have HT := Lib.hid (c_heldInt64S _ 2 2 (k0 + (k * 2 : Nat)) w (fr_view R1) (by omega) (by omega))
      have hkk : k * 2 ≤ 1048576 * 2 := by omega
      have HE : Hid (k0 + ((k + 1) * 2 : Nat) = k0 + (k * 2 : Nat) + (2 * 1 : Nat)) := Lib.hid (by omega)
      simp only [rowV] at h0
      clear hc R1
      go_wp2_with fail
      refine HT.out.mono ?_
      rintro e w1 ⟨rfl, rfl⟩
      go_wp2
      exact ⟨⟨k + 1, by omega, by go_num, congrArg (Value.int .i64) (by omega)⟩, by simp [intOf]; omega⟩
    · have hkn : k = n := by omega
      subst hkn
      go_wp2
      go_ret
      exact ⟨rfl, Below.refl _ _⟩
end Go.Proofs.YtpkkeoapndpikaaDoor.NstM
