/- The vertex of the parabola around a point of a light curve. -/
import Derived.Test.YtiinjnghnfofpaaVertex2
import Derived.Test.YtiinjnghnfofpaaVar
import Derived.StillTailTactics
import Derived.Deep.RegionHeld3
namespace Go.Proofs.Ytiinjnghnfofpaa.Refine
set_option linter.unusedVariables false
set_option linter.unusedSimpArgs false
set_option maxRecDepth 8000
open Go.RowKit Plain Num View Curve Curve2 Frac Vertex

def refC (n : Nat) (T M : Nat → Int) (i : Int) : Int := if okCurve n T M = true then (if inB i 1 ((n : Int) - 2) = true then verC (T (i.toNat - 1)) (M (i.toNat - 1)) (T i.toNat) (M i.toNat) (T (i.toNat + 1)) (M (i.toNat + 1)) else 2) else 1
def refN (n : Nat) (T M : Nat → Int) (i : Int) : Int := if okCurve n T M = true then (if inB i 1 ((n : Int) - 2) = true then verN (T (i.toNat - 1)) (M (i.toNat - 1)) (T i.toNat) (M i.toNat) (T (i.toNat + 1)) (M (i.toNat + 1)) else 0) else 0
def refD (n : Nat) (T M : Nat → Int) (i : Int) : Int := if okCurve n T M = true then (if inB i 1 ((n : Int) - 2) = true then verD (T (i.toNat - 1)) (M (i.toNat - 1)) (T i.toNat) (M i.toNat) (T (i.toNat + 1)) (M (i.toNat + 1)) else 0) else 0
theorem ref_ok {n k : Nat} {T M : Nat → Int} (h : okCurve n T M = true) (h2 : inB (k : Int) 1 ((n : Int) - 2) = true) : refC n T M k = verC (T (k - 1)) (M (k - 1)) (T k) (M k) (T (k + 1)) (M (k + 1)) ∧ refN n T M k = verN (T (k - 1)) (M (k - 1)) (T k) (M k) (T (k + 1)) (M (k + 1)) ∧ refD n T M k = verD (T (k - 1)) (M (k - 1)) (T k) (M k) (T (k + 1)) (M (k + 1)) := by
  simp only [refC, refN, refD, if_pos h, if_pos h2, Int.toNat_natCast]
  exact ⟨trivial, trivial, trivial⟩
theorem ref_range {n : Nat} {T M : Nat → Int} {i : Int} (h : okCurve n T M = true) (h2 : inB i 1 ((n : Int) - 2) = false) : refC n T M i = 2 ∧ refN n T M i = 0 ∧ refD n T M i = 0 := by
  simp [refC, refN, refD, h, h2]
theorem ref_bad {n : Nat} {T M : Nat → Int} {i : Int} (h : okCurve n T M = false) : refC n T M i = 1 ∧ refN n T M i = 0 ∧ refD n T M i = 0 := by
  simp [refC, refN, refD, h]
theorem c_countP (A : Option Addr) (n c : Nat) (w : World) (hn : n ≤ 1048576) : Calls Try.prog 80 #[.slice A n c] w fun e w' => e = .returned (.int .i64 n) ∧ w = w' := by
  go_enter Try.func80, Try.ntmps80
  go_wp2
  go_ret
  exact ⟨rfl, rfl⟩
set_option maxHeartbeats 1600000 in
theorem c_RefineExtremum (A : Option Addr) (n c : Nat) (T M : Nat → Int) (i : Int) (w : World) (hv : Sl w 2 A n c (f2 T M)) :
    Calls Try.prog 26 #[.slice A n c, .int .i64 i] w fun e w' => e = .returned (.tuple #[.agg #[.int .i64 (refN n T M i), .int .i64 (refD n T M i)], .int .i64 (refC n T M i)]) ∧ Below w.heap.size w w' := by
  have hn := hv.le
  cases hok : okCurve n T M
  · obtain ⟨e1, e2, e3⟩ := ref_bad (i := i) hok
    have E1 := Lib.hid e1; have E2 := Lib.hid e2; have E3 := Lib.hid e3
    clear e1 e2 e3
    go_enter Try.func26, Try.ntmps26
    go_wp2_with (first | (go_at_call 78; refine (c_ValidCurve _ _ _ T M _ (hv.below (by repeat' (first | (with_reducible exact Below.refl _ _) | (with_reducible assumption) | (with_reducible refine Base.grow_alloc ?_ _) | (with_reducible refine Base.below_drewN ?_ _) | (with_reducible refine Below.drew ?_) | (with_reducible refine Below.setCell ?_ ?_ _) | go_size)))).mono ?_; rintro e w1 ⟨rfl, hb1⟩; obtain ⟨chb1, fhb1⟩ := Base.bcell hb1; have zhb1 := (hb1).size; (try simp at zhb1); (try have yhb1 : w.heap.size < (w1).heap.size := by omega)))
    have k0 : World.cell? w1 ⟨w.heap.size, 0, none⟩ = some (.int .i64 0) := ((hb1.cell (p := ⟨w.heap.size, 0, none⟩) (by first | (simp; done) | (simp; omega) | omega)).trans (by simp [go_sem]))
    have k1 : World.cell? w1 ⟨w.heap.size, 1, none⟩ = some (.int .i64 0) := ((hb1.cell (p := ⟨w.heap.size, 1, none⟩) (by first | (simp; done) | (simp; omega) | omega)).trans (by simp [go_sem]))
    refine bodyPost_ret (v := .tuple #[.agg #[.int .i64 0, .int .i64 0], .int .i64 1]) (by simp [results, Try.results26, go_sem, k0, k1]) rfl ⟨Var.ret_frac E2.out.symm E3.out.symm E1.out.symm, (by repeat' (first | (with_reducible exact Below.refl _ _) | (with_reducible assumption) | (with_reducible refine Base.via hb1 ?_) | (with_reducible refine Base.grow_alloc ?_ _) | (with_reducible refine Base.below_drewN ?_ _) | (with_reducible refine Below.drew ?_) | (with_reducible refine Below.setCell ?_ ?_ _) | go_size))⟩
  · cases hin : inB i 1 ((n : Int) - 2)
    · obtain ⟨e1, e2, e3⟩ := ref_range hok hin
      have E1 := Lib.hid e1; have E2 := Lib.hid e2; have E3 := Lib.hid e3
      clear e1 e2 e3
      go_enter Try.func26, Try.ntmps26
      go_wp2_with (first | (go_at_call 78; refine (c_ValidCurve _ _ _ T M _ (hv.below (by repeat' (first | (with_reducible exact Below.refl _ _) | (with_reducible assumption) | (with_reducible refine Base.grow_alloc ?_ _) | (with_reducible refine Base.below_drewN ?_ _) | (with_reducible refine Below.drew ?_) | (with_reducible refine Below.setCell ?_ ?_ _) | go_size)))).mono ?_; rintro e w1 ⟨rfl, hb1⟩; obtain ⟨chb1, fhb1⟩ := Base.bcell hb1; have zhb1 := (hb1).size; (try simp at zhb1); (try have yhb1 : w.heap.size < (w1).heap.size := by omega)) | (go_at_call 80; refine (c_countP _ _ _ _ hn).mono ?_; rintro e w' ⟨rfl, rfl⟩) | (go_at_call 79; refine (c_in _ _ _ _).mono ?_; rintro e w' ⟨rfl, rfl⟩))
      have k0 : World.cell? w1 ⟨w.heap.size, 0, none⟩ = some (.int .i64 0) := ((hb1.cell (p := ⟨w.heap.size, 0, none⟩) (by first | (simp; done) | (simp; omega) | omega)).trans (by simp [go_sem]))
      have k1 : World.cell? w1 ⟨w.heap.size, 1, none⟩ = some (.int .i64 0) := ((hb1.cell (p := ⟨w.heap.size, 1, none⟩) (by first | (simp; done) | (simp; omega) | omega)).trans (by simp [go_sem]))
      refine bodyPost_ret (v := .tuple #[.agg #[.int .i64 0, .int .i64 0], .int .i64 2]) (by simp [results, Try.results26, go_sem, k0, k1]) rfl ⟨Var.ret_frac E2.out.symm E3.out.symm E1.out.symm, (by repeat' (first | (with_reducible exact Below.refl _ _) | (with_reducible assumption) | (with_reducible refine Base.via hb1 ?_) | (with_reducible refine Base.grow_alloc ?_ _) | (with_reducible refine Base.below_drewN ?_ _) | (with_reducible refine Below.drew ?_) | (with_reducible refine Below.setCell ?_ ?_ _) | go_size))⟩
    · obtain ⟨i1, i2⟩ := inB_iff.1 hin
      obtain ⟨k, rfl⟩ : ∃ k : Nat, i = k := ⟨i.toNat, by omega⟩
      obtain ⟨e1, e2, e3⟩ := ref_ok hok hin
      have E1 := Lib.hid e1; have E2 := Lib.hid e2; have E3 := Lib.hid e3
      clear e1 e2 e3
      have hk1 : 1 ≤ k := by omega
      have hk2 : k + 1 < n := by omega
      go_enter Try.func26, Try.ntmps26
      go_wp2_with (first | (go_at_call 78; refine (c_ValidCurve _ _ _ T M _ (hv.below (by repeat' (first | (with_reducible exact Below.refl _ _) | (with_reducible assumption) | (with_reducible refine Base.grow_alloc ?_ _) | (with_reducible refine Base.below_drewN ?_ _) | (with_reducible refine Below.drew ?_) | (with_reducible refine Below.setCell ?_ ?_ _) | go_size)))).mono ?_; rintro e w1 ⟨rfl, hb1⟩; obtain ⟨chb1, fhb1⟩ := Base.bcell hb1; have zhb1 := (hb1).size; (try simp at zhb1); (try have yhb1 : w.heap.size < (w1).heap.size := by omega)) | (go_at_call 80; refine (c_countP _ _ _ _ hn).mono ?_; rintro e w' ⟨rfl, rfl⟩) | (go_at_call 79; refine (c_in _ _ _ _).mono ?_; rintro e w' ⟨rfl, rfl⟩))
      have k0 : World.cell? w1 ⟨w.heap.size, 0, none⟩ = some (.int .i64 0) := ((hb1.cell (p := ⟨w.heap.size, 0, none⟩) (by first | (simp; done) | (simp; omega) | omega)).trans (by simp [go_sem]))
      have k1 : World.cell? w1 ⟨w.heap.size, 1, none⟩ = some (.int .i64 0) := ((hb1.cell (p := ⟨w.heap.size, 1, none⟩) (by first | (simp; done) | (simp; omega) | omega)).trans (by simp [go_sem]))
      have f0 : World.frozen? w1 ⟨w.heap.size, 0, none⟩ = false := ((hb1.frozen (p := ⟨w.heap.size, 0, none⟩) (by first | (simp; done) | (simp; omega) | omega)).trans (by simp [go_sem]))
      have f1' : World.frozen? w1 ⟨w.heap.size, 1, none⟩ = false := ((hb1.frozen (p := ⟨w.heap.size, 1, none⟩) (by first | (simp; done) | (simp; omega) | omega)).trans (by simp [go_sem]))
      have hvw := hv.below (show Below w.heap.size w w1 from (by repeat' (first | (with_reducible exact Below.refl _ _) | (with_reducible assumption) | (with_reducible refine Base.via hb1 ?_) | (with_reducible refine Base.grow_alloc ?_ _) | (with_reducible refine Base.below_drewN ?_ _) | (with_reducible refine Below.drew ?_) | (with_reducible refine Below.setCell ?_ ?_ _) | go_size)))
      have hbw : Below w.heap.size w w1 := (by repeat' (first | (with_reducible exact Below.refl _ _) | (with_reducible assumption) | (with_reducible refine Base.via hb1 ?_) | (with_reducible refine Base.grow_alloc ?_ _) | (with_reducible refine Base.below_drewN ?_ _) | (with_reducible refine Below.drew ?_) | (with_reducible refine Below.setCell ?_ ?_ _) | go_size))
      obtain ⟨b, off, rfl, hb, hc⟩ := hvw.at_ (by omega)
      obtain ⟨p0, p1⟩ := cells2 hc k (by omega)
      obtain ⟨q0, q1⟩ := cells2 hc (k - 1) (by omega)
      obtain ⟨r0, r1⟩ := cells2 hc (k + 1) hk2
      have s1 : IntKind.i64.wrap ((k : Int) - 1) = (k : Int) - 1 := IntWalk.i64_in _ (by omega)
      have s2 : IntKind.i64.wrap ((k : Int) + 1) = (k : Int) + 1 := IntWalk.i64_in _ (by omega)
      have s3 : ((k : Int) - 1).toNat = k - 1 := by omega
      have s4 : ((k : Int) + 1).toNat = k + 1 := by omega
      have s5 : 0 ≤ (k : Int) - 1 := by omega
      have s5' : 1 ≤ (k : Int) := by omega
      have s6 : (k : Int) - 1 < (n : Int) := by omega
      have s7 : (k : Int) + 1 < (n : Int) := by omega
      have s8 : k < n := by omega
      have s9 : 0 ≤ (k : Int) + 1 := by omega
      clear hc chb1 fhb1
      have hbl : b < w.heap.size := by
        obtain ⟨b', off', e0, hb', _⟩ := hv.at_ (by omega)
        injection e0 with e0; injection e0 with e1 e2; omega
      have hne : ∀ o o' : Nat, (⟨b, o, none⟩ : Addr).block ≠ (⟨w.heap.size, o', none⟩ : Addr).block := fun _ _ => by show b ≠ w.heap.size; omega
      have hlw : w.heap.size < w1.heap.size := World.block_lt_of_cell? _ _ k0
      have HST : ∀ (W : World) (u v : Value), ((W.cell? ⟨b, off + k * 2, none⟩ = some (.int .i64 (T k)) ∧ W.cell? ⟨b, off + k * 2 + 1, none⟩ = some (.int .i64 (M k)) ∧ W.cell? ⟨b, off + (k - 1) * 2, none⟩ = some (.int .i64 (T (k - 1))) ∧ W.cell? ⟨b, off + (k - 1) * 2 + 1, none⟩ = some (.int .i64 (M (k - 1))) ∧ W.cell? ⟨b, off + (k + 1) * 2, none⟩ = some (.int .i64 (T (k + 1))) ∧ W.cell? ⟨b, off + (k + 1) * 2 + 1, none⟩ = some (.int .i64 (M (k + 1)))) ∧ Below w.heap.size w W) → ((((W.setCell ⟨w.heap.size, 0, none⟩ u).setCell ⟨w.heap.size, 1, none⟩ v).cell? ⟨b, off + k * 2, none⟩ = some (.int .i64 (T k)) ∧ ((W.setCell ⟨w.heap.size, 0, none⟩ u).setCell ⟨w.heap.size, 1, none⟩ v).cell? ⟨b, off + k * 2 + 1, none⟩ = some (.int .i64 (M k)) ∧ ((W.setCell ⟨w.heap.size, 0, none⟩ u).setCell ⟨w.heap.size, 1, none⟩ v).cell? ⟨b, off + (k - 1) * 2, none⟩ = some (.int .i64 (T (k - 1))) ∧ ((W.setCell ⟨w.heap.size, 0, none⟩ u).setCell ⟨w.heap.size, 1, none⟩ v).cell? ⟨b, off + (k - 1) * 2 + 1, none⟩ = some (.int .i64 (M (k - 1))) ∧ ((W.setCell ⟨w.heap.size, 0, none⟩ u).setCell ⟨w.heap.size, 1, none⟩ v).cell? ⟨b, off + (k + 1) * 2, none⟩ = some (.int .i64 (T (k + 1))) ∧ ((W.setCell ⟨w.heap.size, 0, none⟩ u).setCell ⟨w.heap.size, 1, none⟩ v).cell? ⟨b, off + (k + 1) * 2 + 1, none⟩ = some (.int .i64 (M (k + 1)))) ∧ Below w.heap.size w ((W.setCell ⟨w.heap.size, 0, none⟩ u).setCell ⟨w.heap.size, 1, none⟩ v)) := fun W u v ⟨⟨a1, a2, a3, a4, a5, a6⟩, hs⟩ => ⟨⟨cell_store (hne _ _) (cell_store (hne _ _) a1), cell_store (hne _ _) (cell_store (hne _ _) a2), cell_store (hne _ _) (cell_store (hne _ _) a3), cell_store (hne _ _) (cell_store (hne _ _) a4), cell_store (hne _ _) (cell_store (hne _ _) a5), cell_store (hne _ _) (cell_store (hne _ _) a6)⟩, (by repeat' (first | (with_reducible exact Below.refl _ _) | (with_reducible assumption) | (with_reducible refine Base.grow_alloc ?_ _) | (with_reducible refine Base.below_drewN ?_ _) | (with_reducible refine Below.drew ?_) | (with_reducible refine Below.setCell ?_ ?_ _) | go_size))⟩
      go_region_held3 (fun W => (W.cell? ⟨b, off + k * 2, none⟩ = some (.int .i64 (T k)) ∧ W.cell? ⟨b, off + k * 2 + 1, none⟩ = some (.int .i64 (M k)) ∧ W.cell? ⟨b, off + (k - 1) * 2, none⟩ = some (.int .i64 (T (k - 1))) ∧ W.cell? ⟨b, off + (k - 1) * 2 + 1, none⟩ = some (.int .i64 (M (k - 1))) ∧ W.cell? ⟨b, off + (k + 1) * 2, none⟩ = some (.int .i64 (T (k + 1))) ∧ W.cell? ⟨b, off + (k + 1) * 2 + 1, none⟩ = some (.int .i64 (M (k + 1)))) ∧ Below w.heap.size w W)
        (first | exact ⟨⟨cell_drew p0, cell_drew p1, cell_drew q0, cell_drew q1, cell_drew r0, cell_drew r1⟩, (by repeat' (first | (with_reducible exact Below.refl _ _) | (with_reducible assumption) | (with_reducible refine Base.via hbw ?_) | (with_reducible refine Base.grow_alloc ?_ _) | (with_reducible refine Base.below_drewN ?_ _) | (with_reducible refine Below.drew ?_) | (with_reducible refine Below.setCell ?_ ?_ _) | go_size))⟩ | (obtain ⟨⟨a1, a2, a3, a4, a5, a6⟩, hs⟩ := ‹_ ∧ Below w.heap.size w _›; exact ⟨⟨cell_call hb3 a1, cell_call hb3 a2, cell_call hb3 a3, cell_call hb3 a4, cell_call hb3 a5, cell_call hb3 a6⟩, Base.via hb3 hs⟩) | exact HST _ _ _ (by assumption))
        (first | (go_at_call 81; refine (Vertex2.c_VertexTime (T (k - 1)) (M (k - 1)) (T k) (M k) (T (k + 1)) (M (k + 1)) _).mono ?_; rintro e w3 ⟨rfl, hb3⟩; have u0 := cell_call hb3 (cell_drew k0); have u1 := cell_call hb3 (cell_drew k1); have u2 := fr_call hb3 (cell_drew k0) (fr_drew f0); have u3 := fr_call hb3 (cell_drew k1) (fr_drew f1')))
      clear s1 s2 s3 s4
      go_wp2
      refine bodyPost_ret (v := .tuple #[.agg #[.int .i64 (verN (T (k - 1)) (M (k - 1)) (T k) (M k) (T (k + 1)) (M (k + 1))), .int .i64 (verD (T (k - 1)) (M (k - 1)) (T k) (M k) (T (k + 1)) (M (k + 1)))], .int .i64 (verC (T (k - 1)) (M (k - 1)) (T k) (M k) (T (k + 1)) (M (k + 1)))]) (by simp [results, Try.results26, go_sem, u0, u1]) rfl ⟨Var.ret_frac E2.out.symm E3.out.symm E1.out.symm, (by repeat' (first | (with_reducible exact Below.refl _ _) | (with_reducible assumption) | (with_reducible refine Base.via hb3 ?_) | (with_reducible refine Base.via hbw ?_) | (with_reducible refine Base.grow_alloc ?_ _) | (with_reducible refine Base.below_drewN ?_ _) | (with_reducible refine Below.drew ?_) | (with_reducible refine Below.setCell ?_ ?_ _) | go_size))⟩
set_option maxHeartbeats 1600000 in
theorem c_specRefineExtremum (A : Option Addr) (n c : Nat) (T M : Nat → Int) (i : Int) (w : World) (hv : Sl w 2 A n c (f2 T M)) :
    Calls Try.prog 25 #[.slice A n c, .int .i64 i] w fun e w' => e = .returned (.tuple #[.agg #[.int .i64 (refN n T M i), .int .i64 (refD n T M i)], .int .i64 (refC n T M i)]) ∧ Below w.heap.size w w' := by
  have hn := hv.le
  cases hok : okCurve n T M
  · obtain ⟨e1, e2, e3⟩ := ref_bad (i := i) hok
    have E1 := Lib.hid e1; have E2 := Lib.hid e2; have E3 := Lib.hid e3
    clear e1 e2 e3
    go_enter Try.func25, Try.ntmps25
    go_wp2_with (first | (go_at_call 75; refine (c_l08Ok _ _ _ T M _ (hv.below (by repeat' (first | (with_reducible exact Below.refl _ _) | (with_reducible assumption) | (with_reducible refine Base.grow_alloc ?_ _) | (with_reducible refine Base.below_drewN ?_ _) | (with_reducible refine Below.drew ?_) | (with_reducible refine Below.setCell ?_ ?_ _) | go_size)))).mono ?_; rintro e w1 ⟨rfl, hb1⟩; obtain ⟨chb1, fhb1⟩ := Base.bcell hb1; have zhb1 := (hb1).size; (try simp at zhb1); (try have yhb1 : w.heap.size < (w1).heap.size := by omega)))
    have k0 : World.cell? w1 ⟨w.heap.size, 0, none⟩ = some (.int .i64 0) := ((hb1.cell (p := ⟨w.heap.size, 0, none⟩) (by first | (simp; done) | (simp; omega) | omega)).trans (by simp [go_sem]))
    have k1 : World.cell? w1 ⟨w.heap.size, 1, none⟩ = some (.int .i64 0) := ((hb1.cell (p := ⟨w.heap.size, 1, none⟩) (by first | (simp; done) | (simp; omega) | omega)).trans (by simp [go_sem]))
    refine bodyPost_ret (v := .tuple #[.agg #[.int .i64 0, .int .i64 0], .int .i64 1]) (by simp [results, Try.results25, go_sem, k0, k1]) rfl ⟨Var.ret_frac E2.out.symm E3.out.symm E1.out.symm, (by repeat' (first | (with_reducible exact Below.refl _ _) | (with_reducible assumption) | (with_reducible refine Base.via hb1 ?_) | (with_reducible refine Base.grow_alloc ?_ _) | (with_reducible refine Base.below_drewN ?_ _) | (with_reducible refine Below.drew ?_) | (with_reducible refine Below.setCell ?_ ?_ _) | go_size))⟩
  · cases hin : inB i 1 ((n : Int) - 2)
    · obtain ⟨e1, e2, e3⟩ := ref_range hok hin
      have E1 := Lib.hid e1; have E2 := Lib.hid e2; have E3 := Lib.hid e3
      clear e1 e2 e3
      go_enter Try.func25, Try.ntmps25
      go_wp2_with (first | (go_at_call 75; refine (c_l08Ok _ _ _ T M _ (hv.below (by repeat' (first | (with_reducible exact Below.refl _ _) | (with_reducible assumption) | (with_reducible refine Base.grow_alloc ?_ _) | (with_reducible refine Base.below_drewN ?_ _) | (with_reducible refine Below.drew ?_) | (with_reducible refine Below.setCell ?_ ?_ _) | go_size)))).mono ?_; rintro e w1 ⟨rfl, hb1⟩; obtain ⟨chb1, fhb1⟩ := Base.bcell hb1; have zhb1 := (hb1).size; (try simp at zhb1); (try have yhb1 : w.heap.size < (w1).heap.size := by omega)) | (go_at_call 76; refine (c_l00In _ _ _ _).mono ?_; rintro e w' ⟨rfl, rfl⟩))
      have k0 : World.cell? w1 ⟨w.heap.size, 0, none⟩ = some (.int .i64 0) := ((hb1.cell (p := ⟨w.heap.size, 0, none⟩) (by first | (simp; done) | (simp; omega) | omega)).trans (by simp [go_sem]))
      have k1 : World.cell? w1 ⟨w.heap.size, 1, none⟩ = some (.int .i64 0) := ((hb1.cell (p := ⟨w.heap.size, 1, none⟩) (by first | (simp; done) | (simp; omega) | omega)).trans (by simp [go_sem]))
      refine bodyPost_ret (v := .tuple #[.agg #[.int .i64 0, .int .i64 0], .int .i64 2]) (by simp [results, Try.results25, go_sem, k0, k1]) rfl ⟨Var.ret_frac E2.out.symm E3.out.symm E1.out.symm, (by repeat' (first | (with_reducible exact Below.refl _ _) | (with_reducible assumption) | (with_reducible refine Base.via hb1 ?_) | (with_reducible refine Base.grow_alloc ?_ _) | (with_reducible refine Base.below_drewN ?_ _) | (with_reducible refine Below.drew ?_) | (with_reducible refine Below.setCell ?_ ?_ _) | go_size))⟩
    · obtain ⟨i1, i2⟩ := inB_iff.1 hin
      obtain ⟨k, rfl⟩ : ∃ k : Nat, i = k := ⟨i.toNat, by omega⟩
      obtain ⟨e1, e2, e3⟩ := ref_ok hok hin
      have E1 := Lib.hid e1; have E2 := Lib.hid e2; have E3 := Lib.hid e3
      clear e1 e2 e3
      have hk1 : 1 ≤ k := by omega
      have hk2 : k + 1 < n := by omega
      go_enter Try.func25, Try.ntmps25
      go_wp2_with (first | (go_at_call 75; refine (c_l08Ok _ _ _ T M _ (hv.below (by repeat' (first | (with_reducible exact Below.refl _ _) | (with_reducible assumption) | (with_reducible refine Base.grow_alloc ?_ _) | (with_reducible refine Base.below_drewN ?_ _) | (with_reducible refine Below.drew ?_) | (with_reducible refine Below.setCell ?_ ?_ _) | go_size)))).mono ?_; rintro e w1 ⟨rfl, hb1⟩; obtain ⟨chb1, fhb1⟩ := Base.bcell hb1; have zhb1 := (hb1).size; (try simp at zhb1); (try have yhb1 : w.heap.size < (w1).heap.size := by omega)) | (go_at_call 76; refine (c_l00In _ _ _ _).mono ?_; rintro e w' ⟨rfl, rfl⟩))
      have k0 : World.cell? w1 ⟨w.heap.size, 0, none⟩ = some (.int .i64 0) := ((hb1.cell (p := ⟨w.heap.size, 0, none⟩) (by first | (simp; done) | (simp; omega) | omega)).trans (by simp [go_sem]))
      have k1 : World.cell? w1 ⟨w.heap.size, 1, none⟩ = some (.int .i64 0) := ((hb1.cell (p := ⟨w.heap.size, 1, none⟩) (by first | (simp; done) | (simp; omega) | omega)).trans (by simp [go_sem]))
      have f0 : World.frozen? w1 ⟨w.heap.size, 0, none⟩ = false := ((hb1.frozen (p := ⟨w.heap.size, 0, none⟩) (by first | (simp; done) | (simp; omega) | omega)).trans (by simp [go_sem]))
      have f1' : World.frozen? w1 ⟨w.heap.size, 1, none⟩ = false := ((hb1.frozen (p := ⟨w.heap.size, 1, none⟩) (by first | (simp; done) | (simp; omega) | omega)).trans (by simp [go_sem]))
      have hvw := hv.below (show Below w.heap.size w w1 from (by repeat' (first | (with_reducible exact Below.refl _ _) | (with_reducible assumption) | (with_reducible refine Base.via hb1 ?_) | (with_reducible refine Base.grow_alloc ?_ _) | (with_reducible refine Base.below_drewN ?_ _) | (with_reducible refine Below.drew ?_) | (with_reducible refine Below.setCell ?_ ?_ _) | go_size)))
      have hbw : Below w.heap.size w w1 := (by repeat' (first | (with_reducible exact Below.refl _ _) | (with_reducible assumption) | (with_reducible refine Base.via hb1 ?_) | (with_reducible refine Base.grow_alloc ?_ _) | (with_reducible refine Base.below_drewN ?_ _) | (with_reducible refine Below.drew ?_) | (with_reducible refine Below.setCell ?_ ?_ _) | go_size))
      obtain ⟨b, off, rfl, hb, hc⟩ := hvw.at_ (by omega)
      obtain ⟨p0, p1⟩ := cells2 hc k (by omega)
      obtain ⟨q0, q1⟩ := cells2 hc (k - 1) (by omega)
      obtain ⟨r0, r1⟩ := cells2 hc (k + 1) hk2
      have s1 : IntKind.i64.wrap ((k : Int) - 1) = (k : Int) - 1 := IntWalk.i64_in _ (by omega)
      have s2 : IntKind.i64.wrap ((k : Int) + 1) = (k : Int) + 1 := IntWalk.i64_in _ (by omega)
      have s3 : ((k : Int) - 1).toNat = k - 1 := by omega
      have s4 : ((k : Int) + 1).toNat = k + 1 := by omega
      have s5 : 0 ≤ (k : Int) - 1 := by omega
      have s5' : 1 ≤ (k : Int) := by omega
      have s6 : (k : Int) - 1 < (n : Int) := by omega
      have s7 : (k : Int) + 1 < (n : Int) := by omega
      have s8 : k < n := by omega
      have s9 : 0 ≤ (k : Int) + 1 := by omega
      clear hc chb1 fhb1
      have hbl : b < w.heap.size := by
        obtain ⟨b', off', e0, hb', _⟩ := hv.at_ (by omega)
        injection e0 with e0; injection e0 with e1 e2; omega
      have hne : ∀ o o' : Nat, (⟨b, o, none⟩ : Addr).block ≠ (⟨w.heap.size, o', none⟩ : Addr).block := fun _ _ => by show b ≠ w.heap.size; omega
      have hlw : w.heap.size < w1.heap.size := World.block_lt_of_cell? _ _ k0
      have HST : ∀ (W : World) (u v : Value), ((W.cell? ⟨b, off + k * 2, none⟩ = some (.int .i64 (T k)) ∧ W.cell? ⟨b, off + k * 2 + 1, none⟩ = some (.int .i64 (M k)) ∧ W.cell? ⟨b, off + (k - 1) * 2, none⟩ = some (.int .i64 (T (k - 1))) ∧ W.cell? ⟨b, off + (k - 1) * 2 + 1, none⟩ = some (.int .i64 (M (k - 1))) ∧ W.cell? ⟨b, off + (k + 1) * 2, none⟩ = some (.int .i64 (T (k + 1))) ∧ W.cell? ⟨b, off + (k + 1) * 2 + 1, none⟩ = some (.int .i64 (M (k + 1)))) ∧ Below w.heap.size w W) → ((((W.setCell ⟨w.heap.size, 0, none⟩ u).setCell ⟨w.heap.size, 1, none⟩ v).cell? ⟨b, off + k * 2, none⟩ = some (.int .i64 (T k)) ∧ ((W.setCell ⟨w.heap.size, 0, none⟩ u).setCell ⟨w.heap.size, 1, none⟩ v).cell? ⟨b, off + k * 2 + 1, none⟩ = some (.int .i64 (M k)) ∧ ((W.setCell ⟨w.heap.size, 0, none⟩ u).setCell ⟨w.heap.size, 1, none⟩ v).cell? ⟨b, off + (k - 1) * 2, none⟩ = some (.int .i64 (T (k - 1))) ∧ ((W.setCell ⟨w.heap.size, 0, none⟩ u).setCell ⟨w.heap.size, 1, none⟩ v).cell? ⟨b, off + (k - 1) * 2 + 1, none⟩ = some (.int .i64 (M (k - 1))) ∧ ((W.setCell ⟨w.heap.size, 0, none⟩ u).setCell ⟨w.heap.size, 1, none⟩ v).cell? ⟨b, off + (k + 1) * 2, none⟩ = some (.int .i64 (T (k + 1))) ∧ ((W.setCell ⟨w.heap.size, 0, none⟩ u).setCell ⟨w.heap.size, 1, none⟩ v).cell? ⟨b, off + (k + 1) * 2 + 1, none⟩ = some (.int .i64 (M (k + 1)))) ∧ Below w.heap.size w ((W.setCell ⟨w.heap.size, 0, none⟩ u).setCell ⟨w.heap.size, 1, none⟩ v)) := fun W u v ⟨⟨a1, a2, a3, a4, a5, a6⟩, hs⟩ => ⟨⟨cell_store (hne _ _) (cell_store (hne _ _) a1), cell_store (hne _ _) (cell_store (hne _ _) a2), cell_store (hne _ _) (cell_store (hne _ _) a3), cell_store (hne _ _) (cell_store (hne _ _) a4), cell_store (hne _ _) (cell_store (hne _ _) a5), cell_store (hne _ _) (cell_store (hne _ _) a6)⟩, (by repeat' (first | (with_reducible exact Below.refl _ _) | (with_reducible assumption) | (with_reducible refine Base.grow_alloc ?_ _) | (with_reducible refine Base.below_drewN ?_ _) | (with_reducible refine Below.drew ?_) | (with_reducible refine Below.setCell ?_ ?_ _) | go_size))⟩
      go_region_held3 (fun W => (W.cell? ⟨b, off + k * 2, none⟩ = some (.int .i64 (T k)) ∧ W.cell? ⟨b, off + k * 2 + 1, none⟩ = some (.int .i64 (M k)) ∧ W.cell? ⟨b, off + (k - 1) * 2, none⟩ = some (.int .i64 (T (k - 1))) ∧ W.cell? ⟨b, off + (k - 1) * 2 + 1, none⟩ = some (.int .i64 (M (k - 1))) ∧ W.cell? ⟨b, off + (k + 1) * 2, none⟩ = some (.int .i64 (T (k + 1))) ∧ W.cell? ⟨b, off + (k + 1) * 2 + 1, none⟩ = some (.int .i64 (M (k + 1)))) ∧ Below w.heap.size w W)
        (first | exact ⟨⟨cell_drew p0, cell_drew p1, cell_drew q0, cell_drew q1, cell_drew r0, cell_drew r1⟩, (by repeat' (first | (with_reducible exact Below.refl _ _) | (with_reducible assumption) | (with_reducible refine Base.via hbw ?_) | (with_reducible refine Base.grow_alloc ?_ _) | (with_reducible refine Base.below_drewN ?_ _) | (with_reducible refine Below.drew ?_) | (with_reducible refine Below.setCell ?_ ?_ _) | go_size))⟩ | (obtain ⟨⟨a1, a2, a3, a4, a5, a6⟩, hs⟩ := ‹_ ∧ Below w.heap.size w _›; exact ⟨⟨cell_call hb3 a1, cell_call hb3 a2, cell_call hb3 a3, cell_call hb3 a4, cell_call hb3 a5, cell_call hb3 a6⟩, Base.via hb3 hs⟩) | exact HST _ _ _ (by assumption))
        (first | (go_at_call 77; refine (c_specVertexTime (T (k - 1)) (M (k - 1)) (T k) (M k) (T (k + 1)) (M (k + 1)) _).mono ?_; rintro e w3 ⟨rfl, hb3⟩; have u0 := cell_call hb3 (cell_drew k0); have u1 := cell_call hb3 (cell_drew k1); have u2 := fr_call hb3 (cell_drew k0) (fr_drew f0); have u3 := fr_call hb3 (cell_drew k1) (fr_drew f1')))
      clear s1 s2 s3 s4
      go_wp2
      refine bodyPost_ret (v := .tuple #[.agg #[.int .i64 (verN (T (k - 1)) (M (k - 1)) (T k) (M k) (T (k + 1)) (M (k + 1))), .int .i64 (verD (T (k - 1)) (M (k - 1)) (T k) (M k) (T (k + 1)) (M (k + 1)))], .int .i64 (verC (T (k - 1)) (M (k - 1)) (T k) (M k) (T (k + 1)) (M (k + 1)))]) (by simp [results, Try.results25, go_sem, u0, u1]) rfl ⟨Var.ret_frac E2.out.symm E3.out.symm E1.out.symm, (by repeat' (first | (with_reducible exact Below.refl _ _) | (with_reducible assumption) | (with_reducible refine Base.via hb3 ?_) | (with_reducible refine Base.via hbw ?_) | (with_reducible refine Base.grow_alloc ?_ _) | (with_reducible refine Base.below_drewN ?_ _) | (with_reducible refine Below.drew ?_) | (with_reducible refine Below.setCell ?_ ?_ _) | go_size))⟩
end Go.Proofs.Ytiinjnghnfofpaa.Refine
