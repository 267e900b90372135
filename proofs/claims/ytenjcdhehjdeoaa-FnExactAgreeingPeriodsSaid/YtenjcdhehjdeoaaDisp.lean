/- Points sorted into bins; the dispersion for a period. -/
import Derived.Test.YtenjcdhehjdeoaaBinR
import Derived.Test.YtenjcdhehjdeoaaDisB
import Derived.Test.YtenjcdhehjdeoaaBins
import Derived.Test.YtenjcdhehjdeoaaVar
import Derived.Test.YtenjcdhehjdeoaaMags
import Derived.Test.YtenjcdhehjdeoaaHelp
import Derived.StillTailTactics
import Derived.Deep.AppendLies
import Derived.Deep.RegionLaw
namespace Go.Proofs.Ytenjcdhehjdeoaa.Disp
set_option linter.unusedVariables false
set_option linter.unusedSimpArgs false
set_option maxRecDepth 8000
open Go.RowKit Plain Num View Mags Curve Curve2 Bins DisB Frac

theorem infoI : (Try.prog.info? 2).map (fun i => (i.zero, i.size, i.bytes)) = some (some (.int .i64 0), 1, 8) := by kernel_rfl
theorem infoS : (Try.prog.info? 24).map (fun i => (i.zero, i.size, i.bytes)) = some (some (.slice none 0 0), 1, 24) := by kernel_rfl
theorem upd_bl {B M : Nat → Int} {k x : Nat} (h : B k = (x : Int)) (i : Nat) : updL (bl k B M) x (M k) i = bl (k + 1) B M i := by
  rw [bl_succ, h, updL]
  by_cases e : i = x
  · subst e; simp
  · rw [if_neg e, if_neg (by omega)]; simp
set_option maxHeartbeats 1600000 in
theorem c_sorted (A : Option Addr) (n c m : Nat) (T M : Nat → Int) (p : Int) (w : World) (hv : Sl w 2 A n c (f2 T M)) (h100 : n ≤ 100) (hT : ∀ i, i < n → 0 ≤ T i ∧ T i ≤ 10000000) (hp : 1 ≤ p ∧ p ≤ 1000000) (hm : 1 ≤ m ∧ m ≤ 20) :
    Calls Try.prog 106 #[.slice A n c, .int .i64 p, .int .i64 m] w fun e w' => ∃ q g B, e = .returned (.slice (some ⟨q, 0, none⟩) m m) ∧ BinsAt w' B q 24 2 m g (bl n (binV T p m) M) ∧ Below w.heap.size w w' := by
  have hn := hv.le
  obtain ⟨i0, hi0, hz0, hz1, hz2⟩ := info_parts infoI
  obtain ⟨j0, hj0, hy0, hy1, hy2⟩ := info_parts infoS
  have hmk := fun W => run_make_rowN (P := Try.prog) 104 24 j0 _ Try.underlying104 hj0 hy0 m (by rw [hy2]; omega) (by omega) W
  rw [hy1] at hmk
  have hzero : BinsAt (w.alloc (.cells (madeCells #[.slice none 0 0] m) 24)) w.heap.size w.heap.size 24 2 m (fun _ => .slice none 0 0) (fun _ => []) :=
    BinsAt.made _ (by rw [size_madeCells]; omega) (fun i hi => by have := made_at1 m i (by omega) (v := .slice none 0 0); simpa using this)
  have HT := Lib.hid hT
  have HBD := Lib.hid (fun i => bin_bd (T := T) hp (show 1 ≤ (m : Int) ∧ (m : Int) ≤ 20 by omega) i)
  clear hT
  have hm' : 1 ≤ (m : Int) ∧ (m : Int) ≤ 20 := by omega
  go_enter Try.func106, Try.ntmps106
  go_wp2_with fail
  obtain ⟨wm, hwm⟩ : ∃ wm : World, wm = w.alloc (.cells (madeCells #[.slice none 0 0] m) 24) := ⟨_, rfl⟩
  have hbm : Below w.heap.size w wm := by rw [hwm]; exact (by repeat' (first | (with_reducible exact Below.refl _ _) | (with_reducible assumption) | (with_reducible refine Base.grow_alloc ?_ _) | (with_reducible refine Base.below_drewN ?_ _) | (with_reducible refine Below.drew ?_) | (with_reducible refine Below.setCell ?_ ?_ _) | go_size))
  have hzm : wm.heap.size = w.heap.size + 1 := by rw [hwm]; simp
  rw [← hwm] at hzero
  rw [← hwm]
  clear hwm hmk
  go_wp2_with (first | (go_at_call 116; refine (c_binsOf _ _ _ T M p m _ (hv.below hbm) HT.out hp hm').mono ?_))
  rintro e w2 ⟨v2, rfl, ho2, hb2⟩
  obtain ⟨A2, c2, rfl, V2, B2⟩ := ho2.view
  have hz2' := hb2.size
  have hbins0 : BinsAt w2 w2.heap.size w.heap.size 24 2 m (fun _ => .slice none 0 0) (bl 0 (binV T p m) M) := ⟨(hzero.below hb2).row, fun i _ => World.ownsRow_nil _ _ _ _, (hzero.below hb2).far, (hzero.below hb2).apart⟩
  have hbw : Below w.heap.size w w2 := (by repeat' (first | (with_reducible exact Below.refl _ _) | (with_reducible assumption) | (with_reducible refine Base.via hb2 ?_) | (with_reducible refine Base.via hbm ?_) | (with_reducible refine Base.grow_alloc ?_ _) | (with_reducible refine Base.below_drewN ?_ _) | (with_reducible refine Below.drew ?_) | (with_reducible refine Below.setCell ?_ ?_ _) | go_size))
  have hA2 : ∀ a, A2 = some a → a.block ≠ w.heap.size := fun a e e2 => by
    have := B2 a.block (by rw [e]; rfl)
    omega
  clear hzero ho2 B2
  go_wp2
  go_loopw [8, 9, 17] (fun _ _ i wr => ∃ (k : Nat) (g : Nat → Value), k ≤ n ∧ i = .int .i64 k ∧ BinsAt wr w2.heap.size w.heap.size 24 2 m g (bl k (binV T p m) M) ∧ w2.grownBy wr (some w.heap.size)) (fun _ _ i _ => n - (intOf i).toNat)
  case atStart => exact ⟨0, _, Nat.zero_le _, rfl, hbins0, grown_refl⟩
  case round =>
    obtain ⟨k, g, hk, rfl, hbin, hgr⟩ := hrel
    have hzr := hgr.size
    have hbr : Below w.heap.size w wr := below_grown hbw (Nat.le_refl _) hgr
    by_cases hlt : k < n
    · obtain ⟨b, off, rfl, hb, hc⟩ := (hv.below hbr).at_ (by omega)
      obtain ⟨h0, h1⟩ := cells2 hc k hlt
      have V2r : Sl wr 1 A2 n c2 (f1 (binV T p m)) := V2.grown hgr (fun q hq => .inr (fun a e e2 => hA2 a e (by have := Option.some.inj hq; omega)))
      obtain ⟨b2, off2, rfl, hb2', hc2⟩ := V2r.at_ (by omega)
      have h2 := cells1 hc2 k hlt
      obtain ⟨_, _, _, _, q5, q6, _, _⟩ := HBD.out k
      obtain ⟨x, hx⟩ : ∃ x : Nat, binV T p m k = x := ⟨(binV T p m k).toNat, by omega⟩
      have hxm : x < m := by omega
      rw [hx] at h2
      have h3 := hbin.cell hxm
      have hL := Lib.hid (bl_len k (binV T p m) M x)
      have HX := Lib.hid hx
      clear hc hc2 hx q5 q6
      go_wp2
      have hox := hbin.own x hxm
      have hlr := hbin.row.lt
      go_region_law (first | (refine step_append_lies _ (by rfl) _ _ _ (by rfl) w2.heap.size 2 i0 _ 1 8 Try.underlying24 hi0 hz0 hz1 hz2 rfl (by decide) (g x) _ _ (by rfl) (own_of_below hox (by repeat' (first | (with_reducible exact Below.refl _ _) | (with_reducible assumption) | (with_reducible refine Base.grow_alloc ?_ _) | (with_reducible refine Base.below_drewN ?_ _) | (with_reducible refine Below.drew ?_) | (with_reducible refine Below.setCell ?_ ?_ _) | go_size))) ⟨_, 0, none⟩ 1 1 [.int .i64 (M k)] (by rfl) (by rfl) (cell_newL _ _ _ rfl) (by simp [Value.oneCell']) (by decide) (by simp only [maxLen]; have := hL.out; omega) (by have := hL.out; omega) (by simp; omega) _ (by rfl) ?_; intro gb cap w3 hown' hgrow hat hlt3; have hrow3 := (hbin.row.below (B := wr.heap.size) (by repeat' (first | (with_reducible exact Below.refl _ _) | (with_reducible assumption) | (with_reducible refine Base.grow_alloc ?_ _) | (with_reducible refine Base.below_drewN ?_ _) | (with_reducible refine Below.drew ?_) | (with_reducible refine Below.setCell ?_ ?_ _) | go_size)) hbin.row.lt).grown hgrow (fun e => hbin.far x hxm e.symm); have hc3 := hrow3.cell1 hxm; have hf3 := hrow3.frozen x))
      all_goals
        have hstep := (hbin.below (show Below wr.heap.size wr (wr.drew.alloc (.cells #[.int .i64 (M k)] 2)) from (by repeat' (first | (with_reducible exact Below.refl _ _) | (with_reducible assumption) | (with_reducible refine Base.grow_alloc ?_ _) | (with_reducible refine Base.below_drewN ?_ _) | (with_reducible refine Below.drew ?_) | (with_reducible refine Below.setCell ?_ ?_ _) | go_size)))).step hxm hown' hgrow (hat.elim (fun e => .inl (by rw [e]; rfl)) (fun e => .inr (by rw [e]; simp [Value.ownBlock])))
        have hgr2 := (hbin.below (show Below wr.heap.size wr (wr.drew.alloc (.cells #[.int .i64 (M k)] 2)) from (by repeat' (first | (with_reducible exact Below.refl _ _) | (with_reducible assumption) | (with_reducible refine Base.grow_alloc ?_ _) | (with_reducible refine Base.below_drewN ?_ _) | (with_reducible refine Below.drew ?_) | (with_reducible refine Below.setCell ?_ ?_ _) | go_size)))).step_grown (grown_below hgr (by repeat' (first | (with_reducible exact Below.refl _ _) | (with_reducible assumption) | (with_reducible refine Base.grow_alloc ?_ _) | (with_reducible refine Base.below_drewN ?_ _) | (with_reducible refine Below.drew ?_) | (with_reducible refine Below.setCell ?_ ?_ _) | go_size))) (Nat.le_refl _) hxm hgrow (.slice (some ⟨gb, 0, none⟩) ((bl k (binV T p m) M x).length + 1) cap)
        go_wp2
        go_roundw
        case rel => exact ⟨k + 1, _, by omega, by go_num, hstep.congr (fun i hi => upd_bl HX.out i), hgr2⟩
        case measure => simp [intOf]; omega
    · have hkn : k = n := by omega
      subst hkn
      go_wp2
      go_ret
      exact ⟨_, _, _, rfl, hbin, hbr⟩
def disN (n : Nat) (T M : Nat → Int) (p b : Int) : Int := if inP n (binV T p b) = 0 then 0 else lowN (inS n (binV T p b) M) (inP n (binV T p b))
def disD (n : Nat) (T M : Nat → Int) (p b : Int) : Int := if inP n (binV T p b) = 0 then 0 else lowD (inS n (binV T p b) M) (inP n (binV T p b))
def dS (n : Nat) (B M : Nat → Int) (k : Nat) : Int := sumB k (fun j => sqs (bl n B M j).length (lf (bl n B M j)))
def dP (n : Nat) (B M : Nat → Int) (k : Nat) : Int := sumB k (fun j => tri (bl n B M j).length)
theorem one_bd {n : Nat} {B M : Nat → Int} (hn : n ≤ 100) (hM : ∀ i, i < n → -2000 ≤ M i ∧ M i ≤ 20000) (j : Nat) : 0 ≤ sqs (bl n B M j).length (lf (bl n B M j)) ∧ sqs (bl n B M j).length (lf (bl n B M j)) ≤ 4840000000000 := by
  have h1 := bl_len n B M j
  have h2 := sqs_bd (n := (bl n B M j).length) (T := lf (bl n B M j)) (by omega) (fun i hi => bl_bd hM i hi) (Nat.le_refl _)
  omega
theorem dS_bd {n : Nat} {B M : Nat → Int} (hn : n ≤ 100) (hM : ∀ i, i < n → -2000 ≤ M i ∧ M i ≤ 20000) {k : Nat} (hk : k ≤ 20) : 0 ≤ dS n B M k ∧ dS n B M k ≤ 96800000000000 := by
  have h := sumB_bd (k := k) (f := fun j => sqs (bl n B M j).length (lf (bl n B M j))) (a := 0) (b := 4840000000000) (fun j _ => one_bd hn hM j)
  unfold dS
  omega
theorem dP_bd {n : Nat} {B M : Nat → Int} (hn : n ≤ 100) {k : Nat} (hk : k ≤ 20) : 0 ≤ dP n B M k ∧ dP n B M k ≤ 99000 := by
  have h := sumB_bd (k := k) (f := fun j => tri (bl n B M j).length) (a := 0) (b := 4950) (fun j _ => tri_bd (by have := bl_len n B M j; omega))
  unfold dP
  omega
theorem ret_fb {a b c d : Int} {x y : Bool} (h : a = c) (h' : b = d) (h'' : x = y) : Ending.returned (.tuple #[.agg #[.int .i64 a, .int .i64 b], .bool x]) = .returned (.tuple #[.agg #[.int .i64 c, .int .i64 d], .bool y]) := by rw [h, h', h'']
set_option maxHeartbeats 1600000 in
theorem c_dispersion (A : Option Addr) (n c m : Nat) (T M : Nat → Int) (p : Int) (w : World) (hv : Sl w 2 A n c (f2 T M)) (h100 : n ≤ 100) (hT : ∀ i, i < n → 0 ≤ T i ∧ T i ≤ 10000000) (hM : ∀ i, i < n → -2000 ≤ M i ∧ M i ≤ 20000) (hp : 1 ≤ p ∧ p ≤ 1000000) (hm : 1 ≤ m ∧ m ≤ 20) :
    Calls Try.prog 93 #[.slice A n c, .int .i64 p, .int .i64 m] w fun e w' => e = .returned (.tuple #[.agg #[.int .i64 (disN n T M p m), .int .i64 (disD n T M p m)], .bool (inP n (binV T p m) != 0)]) ∧ Below w.heap.size w w' := by
  have hm' : 1 ≤ (m : Int) ∧ (m : Int) ≤ 20 := by omega
  have hB : ∀ i, i < n → 0 ≤ binV T p m i ∧ binV T p m i < (m : Int) := fun i _ => by
    obtain ⟨_, _, _, _, h5, h6, _⟩ := bin_bd (T := T) hp hm' i
    exact ⟨h5, h6⟩
  have HSS := Lib.hid (show dS n (binV T p m) M m = inS n (binV T p m) M from bins_sum hB)
  have HPP := Lib.hid (show dP n (binV T p m) M m = inP n (binV T p m) from bins_pairs hB)
  have HT := Lib.hid hT
  have HM := Lib.hid hM
  have bS := inS_bd (B := binV T p m) h100 hM
  have bP := inP_bd (B := binV T p m) h100
  clear hT hM hB
  go_enter Try.func93, Try.ntmps93
  go_wp2_with (first | (go_at_call 106; refine (c_sorted _ n _ m T M p _ (hv.below (by repeat' (first | (with_reducible exact Below.refl _ _) | (with_reducible assumption) | (with_reducible refine Base.grow_alloc ?_ _) | (with_reducible refine Base.below_drewN ?_ _) | (with_reducible refine Below.drew ?_) | (with_reducible refine Below.setCell ?_ ?_ _) | go_size))) h100 HT.out hp hm).mono ?_))
  rintro e w1 ⟨q, g, B, rfl, hbin, hb1⟩
  have k0 : World.cell? w1 ⟨w.heap.size, 0, none⟩ = some (.int .i64 0) := ((hb1.cell (p := ⟨w.heap.size, 0, none⟩) (by first | (simp; done) | (simp; omega) | omega)).trans (by simp [go_sem]))
  have k1 : World.cell? w1 ⟨w.heap.size, 1, none⟩ = some (.int .i64 0) := ((hb1.cell (p := ⟨w.heap.size, 1, none⟩) (by first | (simp; done) | (simp; omega) | omega)).trans (by simp [go_sem]))
  have f0 : World.frozen? w1 ⟨w.heap.size, 0, none⟩ = false := ((hb1.frozen (p := ⟨w.heap.size, 0, none⟩) (by first | (simp; done) | (simp; omega) | omega)).trans (by simp [go_sem]))
  have f1' : World.frozen? w1 ⟨w.heap.size, 1, none⟩ = false := ((hb1.frozen (p := ⟨w.heap.size, 1, none⟩) (by first | (simp; done) | (simp; omega) | omega)).trans (by simp [go_sem]))
  have hlw : w.heap.size < w1.heap.size := World.block_lt_of_cell? _ _ k0
  have hbw : Below w.heap.size w w1 := (by repeat' (first | (with_reducible exact Below.refl _ _) | (with_reducible assumption) | (with_reducible refine Base.via hb1 ?_) | (with_reducible refine Base.grow_alloc ?_ _) | (with_reducible refine Base.below_drewN ?_ _) | (with_reducible refine Below.drew ?_) | (with_reducible refine Below.setCell ?_ ?_ _) | go_size))
  go_wp2
  go_loopw [8, 9, 11, 17] (fun s t _ i wr => ∃ k : Nat, k ≤ m ∧ i = .int .i64 k ∧ s = .int .i64 (dS n (binV T p m) M k) ∧ t = .int .i64 (dP n (binV T p m) M k) ∧ Below w1.heap.size w1 wr) (fun _ _ _ i _ => m - (intOf i).toNat)
  case atStart => exact ⟨0, Nat.zero_le _, rfl, rfl, rfl, (by repeat' (first | (with_reducible exact Below.refl _ _) | (with_reducible assumption) | (with_reducible refine Base.grow_alloc ?_ _) | (with_reducible refine Base.below_drewN ?_ _) | (with_reducible refine Below.drew ?_) | (with_reducible refine Below.setCell ?_ ?_ _) | go_size))⟩
  case round =>
    obtain ⟨k, hk, rfl, rfl, rfl, hbr⟩ := hrel
    have b0 := dS_bd (B := binV T p m) h100 HM.out (show k ≤ 20 by omega)
    have b1 := dP_bd (B := binV T p m) (M := M) h100 (show k ≤ 20 by omega)
    by_cases hlt : k < m
    · have hbk := hbin.below hbr
      have hc := hbk.cell hlt
      have hlen := bl_len n (binV T p m) M k
      obtain ⟨A', c', hg, V⟩ := hbk.sl hlt (by omega)
      have o1 := one_bd (B := binV T p m) h100 HM.out k
      have o2 := tri_bd (l := (bl n (binV T p m) M k).length) (by omega)
      have HL := Lib.hid (show ∀ i, i < (bl n (binV T p m) M k).length → -2000 ≤ lf (bl n (binV T p m) M k) i ∧ lf (bl n (binV T p m) M k) i ≤ 20000 from fun i hi => bl_bd HM.out i hi)
      have HS1 := Lib.hid (show dS n (binV T p m) M (k + 1) = dS n (binV T p m) M k + sqs (bl n (binV T p m) M k).length (lf (bl n (binV T p m) M k)) from rfl)
      have HP1 := Lib.hid (show dP n (binV T p m) M (k + 1) = dP n (binV T p m) M k + tri (bl n (binV T p m) M k).length from rfl)
      rw [hg] at hc
      obtain ⟨L, hL⟩ : ∃ L, L = bl n (binV T p m) M k := ⟨_, rfl⟩
      rw [← hL] at hc hlen V o1 o2 HL HS1 HP1
      obtain ⟨l, hl⟩ : ∃ l, l = L.length := ⟨_, rfl⟩
      rw [← hl] at hc hlen V o1 o2 HL HS1 HP1
      obtain ⟨S, hS⟩ : ∃ S, S = sqs l (lf L) := ⟨_, rfl⟩
      rw [← hS] at o1 HS1
      have HPS := Lib.hid (show ∀ W, Below wr.heap.size wr W → Calls Try.prog 107 #[.slice A' l c'] W fun e w' => e = .returned (.int .i64 S) ∧ Below W.heap.size W w' from fun W hW => by rw [hS]; exact c_pairSquares _ _ _ (lf L) _ (V.below hW) (by omega) HL.out)
      have t0 : 0 ≤ (l : Int) * ((l : Int) - 1) ∧ (l : Int) * ((l : Int) - 1) ≤ 10000 := by
        rcases Nat.eq_zero_or_pos l with h | h
        · rw [h]; simp
        · have h1 := Int.mul_le_mul_of_nonneg_right (show (l : Int) ≤ 100 by omega) (show 0 ≤ (l : Int) - 1 by omega)
          have h2 := Int.mul_nonneg (show 0 ≤ (l : Int) by omega) (show 0 ≤ (l : Int) - 1 by omega)
          omega
      have HTR := Lib.hid (show (l : Int) * ((l : Int) - 1) / 2 = tri l from rfl)
      have t1 : 0 ≤ (l : Int) * ((l : Int) - 1) / 2 ∧ (l : Int) * ((l : Int) - 1) / 2 ≤ 5000 := by omega
      clear hL hl hS hg hbk o2
      go_wp2_with (first | (go_at_call 107; refine (HPS.out _ (by repeat' (first | (with_reducible exact Below.refl _ _) | (with_reducible assumption) | (with_reducible refine Base.grow_alloc ?_ _) | (with_reducible refine Base.below_drewN ?_ _) | (with_reducible refine Below.drew ?_) | (with_reducible refine Below.setCell ?_ ?_ _) | go_size))).mono ?_; rintro e w2 ⟨rfl, hb2⟩) | (go_at_call 108; refine (Var.c_count _ _ _ _ (by omega)).mono ?_; rintro e w' ⟨rfl, rfl⟩))
      go_roundw
      case rel => exact ⟨k + 1, by omega, by go_num, by rw [HS1.out], by rw [HP1.out, ← HTR.out], (by repeat' (first | (with_reducible exact Below.refl _ _) | (with_reducible assumption) | (with_reducible refine Base.via hb2 ?_) | (with_reducible refine Base.grow_alloc ?_ _) | (with_reducible refine Base.below_drewN ?_ _) | (with_reducible refine Below.drew ?_) | (with_reducible refine Below.setCell ?_ ?_ _) | go_size))⟩
      case measure => simp [intOf]; omega
    · have hkn : k = m := by omega
      subst hkn
      have q0 := (hbr.cell (p := ⟨w.heap.size, 0, none⟩) hlw).trans k0
      have q1 := (hbr.cell (p := ⟨w.heap.size, 1, none⟩) hlw).trans k1
      have g0 := (hbr.frozen (p := ⟨w.heap.size, 0, none⟩) hlw).trans f0
      have g1 := (hbr.frozen (p := ⟨w.heap.size, 1, none⟩) hlw).trans f1'
      have hlr : w.heap.size < wr.heap.size := World.block_lt_of_cell? _ _ q0
      obtain ⟨P, hP⟩ : ∃ P, P = inP n (binV T p k) := ⟨_, rfl⟩
      obtain ⟨S, hS⟩ : ∃ S, S = inS n (binV T p k) M := ⟨_, rfl⟩
      have HPP2 := Lib.hid (show dP n (binV T p k) M k = P by rw [hP]; exact HPP.out)
      have HSS2 := Lib.hid (show dS n (binV T p k) M k = S by rw [hS]; exact HSS.out)
      rw [← hP] at bP
      rw [← hS] at bS
      rw [HPP2.out, HSS2.out]
      by_cases hP0 : P = 0
      · have HN := Lib.hid (show (0 : Int) = disN n T M p k by rw [disN, if_pos (by rw [← hP]; exact hP0)])
        have HD := Lib.hid (show (0 : Int) = disD n T M p k by rw [disD, if_pos (by rw [← hP]; exact hP0)])
        have HQ := Lib.hid (show false = (inP n (binV T p k) != 0) by rw [← hP, hP0]; rfl)
        subst hP0
        clear hP hS
        go_wp2
        refine bodyPost_ret (v := .tuple #[.agg #[.int .i64 0, .int .i64 0], .bool false]) (by simp [results, Try.results93, go_sem, q0, q1]) rfl ⟨ret_fb HN.out HD.out HQ.out, (by repeat' (first | (with_reducible exact Below.refl _ _) | (with_reducible assumption) | (with_reducible refine Base.via hbr ?_) | (with_reducible refine Base.via hbw ?_) | (with_reducible refine Base.grow_alloc ?_ _) | (with_reducible refine Base.below_drewN ?_ _) | (with_reducible refine Below.drew ?_) | (with_reducible refine Below.setCell ?_ ?_ _) | go_size))⟩
      · have HN := Lib.hid (show lowN S P = disN n T M p k by rw [disN, if_neg (by rw [← hP]; exact hP0), hS, hP])
        have HD := Lib.hid (show lowD S P = disD n T M p k by rw [disD, if_neg (by rw [← hP]; exact hP0), hS, hP])
        have HQ := Lib.hid (show true = (inP n (binV T p k) != 0) by rw [← hP]; simpa using hP0)
        have hP1 : (P == 0) = false := by simpa using hP0
        clear hP hS
        go_wp2_with (first | (go_at_call 109; refine (c_lowest S P _ (by omega) (by omega) (by omega) (by omega) hP0).mono ?_; rintro e w3 ⟨rfl, hb3⟩; obtain ⟨chb3, fhb3⟩ := Base.bcell hb3; have zhb3 := (hb3).size; (try simp at zhb3); (try have yhb3 : w.heap.size < (w3).heap.size := by omega)))
        have r0 := cell_call hb3 q0
        have r1 := cell_call hb3 q1
        refine bodyPost_ret (v := .tuple #[.agg #[.int .i64 (lowN S P), .int .i64 (lowD S P)], .bool true]) (by simp [results, Try.results93, go_sem, r0, r1]) rfl ⟨ret_fb HN.out HD.out HQ.out, (by repeat' (first | (with_reducible exact Below.refl _ _) | (with_reducible assumption) | (with_reducible refine Base.via hb3 ?_) | (with_reducible refine Base.via hbr ?_) | (with_reducible refine Base.via hbw ?_) | (with_reducible refine Base.grow_alloc ?_ _) | (with_reducible refine Base.below_drewN ?_ _) | (with_reducible refine Below.drew ?_) | (with_reducible refine Below.setCell ?_ ?_ _) | go_size))⟩
end Go.Proofs.Ytenjcdhehjdeoaa.Disp
