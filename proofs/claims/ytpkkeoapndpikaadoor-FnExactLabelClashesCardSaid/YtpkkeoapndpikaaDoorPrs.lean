/- The wanted pairs of numbers below n: the program's function, with whatever closure. -/
import Derived.Test.YtpkkeoapndpikaaDoorNst
import Derived.Test.YtpkkeoapndpikaaDoorNum
import Derived.Test.YtpkkeoapndpikaaDoorIdx
import Derived.BigQuiet
import Derived.Deep.QuietTactic
import Derived.Deep.AppendLies
namespace Go.Proofs.YtpkkeoapndpikaaDoor.Prs
set_option linter.unusedVariables false
set_option linter.unusedSimpArgs false
set_option maxRecDepth 8000
open Go.RowKit Go.Shelf Plain Num View Nst

theorem infoSl : (Tryd.prog.info? 38).map (fun i => (i.zero, i.size, i.bytes)) = some (some (.slice none 0 0), 1, 24) := by kernel_rfl
/-- A closure that answers 'p i k' at two numbers below n and makes only new memory. -/
def Pred2 (P : Program) (w : World) (g : Nat) (lb : Array Value) (n : Nat) (p : Nat → Nat → Bool) : Prop :=
  ∀ (W : World), Below w.heap.size w W → ∀ i k, i < k → k < n → Calls P g (#[.int .i64 (i : Int), .int .i64 (k : Int)] ++ lb) W fun e w' => e = .returned (.bool (p i k)) ∧ Below W.heap.size W w'
theorem lit_row {w : World} {E : TypeId} (x y : Int) : RowK (w.alloc (.cells #[.int .i64 x, .int .i64 y] E)) w.heap.size E 1 2 (fun j _ => .int .i64 (if j = 0 then x else y)) :=
  RowK.made _ (by simp) fun i hi j hj => by
    obtain rfl : j = 0 := by omega
    obtain rfl | rfl : i = 0 ∨ i = 1 := by omega
    all_goals simp
set_option maxHeartbeats 3200000 in
theorem c_pairsWhere (n : Nat) (g : Nat) (lb : Array Value) (p : Nat → Nat → Bool) (w : World) (eg : ∀ args w, (callFunc g args).run Tryd.prog w = .ok (.enter g args) w) (hn : n ≤ 100) (hp : Pred2 Tryd.prog w g lb n p) :
    Calls Tryd.prog 65 #[.int .i64 n, .func (.func g) #[] lb] w fun e w' => ∃ v G, e = .returned v ∧ Nst w' w.heap.size w'.heap.size 38 2 v (prs p n n).length G (pf (prs p n n)) ∧ Below w.heap.size w w' := by
  have HP := Lib.hid hp
  clear hp
  obtain ⟨i0, hi0, hz0, hz1, hz2⟩ := info_parts infoSl
  have hpl : ∀ i, i ≤ n → (prs p n i).length ≤ 10000 := fun i hi => by
    have h1 := prs_len (p := p) (n := n) (i := i)
    have h2 : i * n ≤ 100 * 100 := Nat.mul_le_mul (by omega) hn
    omega
  have HPL := Lib.hid hpl
  clear hpl
  go_enter Tryd.func65, Tryd.ntmps65
  go_wp2
  go_loopw [5, 6, 7, 10] (fun v _ _ i wr => ∃ (k : Nat) (G : Nat → Nat), k ≤ n ∧ i = .int .i64 k ∧ Hid (Bld wr w.heap.size 38 2 v (prs p n k) G) ∧ Below w.heap.size w wr) (fun _ _ _ i _ => n - (intOf i).toNat)
  case atStart => exact ⟨0, _, Nat.zero_le _, rfl, Bld.made (Nat.le_refl _), (by repeat' (first | (with_reducible exact Below.refl _ _) | (with_reducible assumption) | (with_reducible refine Base.grow_alloc ?_ _) | (with_reducible refine Base.below_drewN ?_ _) | (with_reducible refine Below.drew ?_) | (with_reducible refine Below.setCell ?_ ?_ _) | go_size))⟩
  case round =>
    obtain ⟨i, G0, hi, rfl, hbl, hbr⟩ := hrel
    have hz := hbr.size
    by_cases hlt : i < n
    · have HB := Lib.hid hbl.out
      have hll := HPL.out i hi
      have HPI := Lib.hid (show prs p n (i + 1) = prs p n i ++ rowP p i n from rfl)
      have HR0 := Lib.hid (show prs p n i ++ rowP p i (i + 1) = prs p n i by rw [rowP_lo (Nat.le_refl _), List.append_nil])
      clear hbl
      go_wp2
      obtain ⟨wo, hwo⟩ : ∃ wo : World, wo = wr := ⟨_, rfl⟩
      rw [← hwo] at hbr hz HB ⊢
      clear hwo
      go_loopw [5, 7] (fun v q wq => ∃ (k : Nat) (G : Nat → Nat), i + 1 ≤ k ∧ k ≤ n ∧ q = .int .i64 k ∧ Hid (Bld wq w.heap.size 38 2 v (prs p n i ++ rowP p i k) G) ∧ Below w.heap.size w wq) (fun _ q _ => n - (intOf q).toNat)
      case atStart => exact ⟨i + 1, G0, Nat.le_refl _, by omega, by go_num, (by rw [HR0.out]; exact HB.out), hbr⟩
      case round =>
        obtain ⟨k, G, hik, hkn, rfl, hbk, hbq⟩ := hrel
        have hzq := hbq.size
        have hrl := rowP_len (p := p) (i := i) (k := k)
        have hlen : (prs p n i ++ rowP p i k).length ≤ 20000 := by rw [List.length_append]; omega
        by_cases hlk : k < n
        · have hcall := HP.out wr hbq i k (by omega) hlk
          cases hq : p i k with
          | true =>
            rw [hq] at hcall
            have HCA := Lib.hid hcall
            have HY : Hid (prs p n i ++ rowP p i (k + 1) = (prs p n i ++ rowP p i k) ++ [((i : Int), (k : Int))]) := Lib.hid (by rw [rowP_yes (by omega) hq, List.append_assoc])
            clear hq hcall
            generalize prs p n i ++ rowP p i k = L at *
            go_wp2_with (first | (go_at_fn g; refine HCA.out.mono ?_; rintro e w1 ⟨rfl, hb1⟩; have zz := hb1.size) | (at_builtin; refine wpList_append_lies _ rfl _ _ 52 rfl (w.heap.size) 38 i0 _ 1 24 Tryd.underlying52 hi0 hz0 hz1 hz2 rfl (by decide) _ _ _ rfl (own_of_below (hbk.out.below hb1).1 (by repeat' (first | (with_reducible exact Below.refl _ _) | (with_reducible assumption) | (with_reducible refine Base.grow_alloc ?_ _) | (with_reducible refine Base.below_drewN ?_ _) | (with_reducible refine Below.drew ?_) | (with_reducible refine Below.setCell ?_ ?_ _) | go_size))) ⟨_, 0, none⟩ 1 1 [.slice (some ⟨w1.heap.size, 0, none⟩) 2 2] rfl rfl (cell_newL _ [.slice (some ⟨w1.heap.size, 0, none⟩) 2 2] _ (by simp)) (by simp [Value.oneCell']) (by decide) (by simp only [maxLen]; omega) (by omega) (by simp; omega) _ rfl ?_))
            intro g' cap w2 hown' hgrow hat _
            have hbd := hbk.out.below hb1
            have HB2 := Lib.hid (hbd.snoc (x := (i : Int)) (y := (k : Int)) (by omega) (by repeat' (first | (with_reducible exact Below.refl _ _) | (with_reducible assumption) | (with_reducible refine Base.grow_alloc ?_ _) | (with_reducible refine Base.below_drewN ?_ _) | (with_reducible refine Below.drew ?_) | (with_reducible refine Below.setCell ?_ ?_ _) | go_size)) (Nat.le_refl _) ((lit_row (i : Int) (k : Int)).alloc _) hown' hgrow (hat.imp id fun e => by simp; omega))
            have hb2 : Below w.heap.size w w2 := hbd.grown (by repeat' (first | (with_reducible exact Below.refl _ _) | (with_reducible assumption) | (with_reducible refine Base.via hb1 ?_) | (with_reducible refine Base.via hbq ?_) | (with_reducible refine Base.grow_alloc ?_ _) | (with_reducible refine Base.below_drewN ?_ _) | (with_reducible refine Below.drew ?_) | (with_reducible refine Below.setCell ?_ ?_ _) | go_size)) hgrow (Nat.le_refl _) (by simp; omega)
            clear hown' hgrow hat hbd
            go_wp2
            exact ⟨⟨k + 1, _, by omega, by omega, by go_num, by rw [HY.out]; exact HB2.out, hb2⟩, by simp [intOf]; omega⟩
          | false =>
            rw [hq] at hcall
            have HCA := Lib.hid hcall
            have HY : Hid (prs p n i ++ rowP p i (k + 1) = prs p n i ++ rowP p i k) := Lib.hid (by rw [rowP_no hq])
            clear hq hcall
            generalize prs p n i ++ rowP p i k = L at *
            go_wp2_with (go_at_fn g; refine HCA.out.mono ?_; rintro e w1 ⟨rfl, hb1⟩)
            exact ⟨⟨k + 1, G, by omega, by omega, by go_num, by rw [HY.out]; exact hbk.out.below hb1, (by repeat' (first | (with_reducible exact Below.refl _ _) | (with_reducible assumption) | (with_reducible refine Base.via hb1 ?_) | (with_reducible refine Base.via hbq ?_) | (with_reducible refine Base.grow_alloc ?_ _) | (with_reducible refine Base.below_drewN ?_ _) | (with_reducible refine Below.drew ?_) | (with_reducible refine Below.setCell ?_ ?_ _) | go_size))⟩, by simp [intOf]; omega⟩
        · have hkn' : k = n := by omega
          subst hkn'
          go_wp2
          exact ⟨⟨i + 1, G, by omega, by go_num, by rw [HPI.out]; exact hbk.out, hbq⟩, by simp [intOf]; omega⟩
    · have hkn : i = n := by omega
      subst hkn
      have hll := HPL.out i hi
      go_wp2
      go_ret
      exact ⟨_, _, rfl, hbl.out.nst (by omega), hbr⟩
end Go.Proofs.YtpkkeoapndpikaaDoor.Prs
