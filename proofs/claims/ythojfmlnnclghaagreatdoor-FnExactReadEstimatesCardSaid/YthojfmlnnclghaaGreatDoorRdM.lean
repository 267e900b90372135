/- Reading a magnitude: plain words. -/
import Derived.Test.YthojfmlnnclghaaGreatDoorRdQ
import Derived.Test.YthojfmlnnclghaaGreatDoorEtx
namespace Go.Proofs.YthojfmlnnclghaaGreatDoor.Rd
set_option linter.unusedVariables false
set_option linter.unusedSimpArgs false
open Go Plain Dec Etx

def PM (l : List UInt8) (m : Int) : Prop := inB m (-2000) 20000 = true ∧ l = magL m
def RM (l : List UInt8) (v : Int) (b : Bool) : Prop := (b = true → PM l v) ∧ ∀ n, PM l n → b = true ∧ v = n
def RMr (l : List UInt8) (r : Ending) : Prop := ∃ v b, r = .returned (.tuple #[.int .i64 v, .bool b]) ∧ RM l v b
theorem RM_no {l : List UInt8} {v : Int} (h : ∀ n, ¬ PM l n) : RM l v false := ⟨(fun h => Bool.noConfusion h), fun n hn => absurd hn (h n)⟩
theorem three_dg {v : Nat} (h : v < 1000) : ∀ c ∈ three v, dgB c = true := by
  intro c hc
  unfold three at hc
  rcases List.mem_cons.1 hc with rfl | hc
  · rw [dgB_iff, dg_of (show v / 100 < 10 by omega)]; omega
  rcases List.mem_cons.1 hc with rfl | hc
  · rw [dgB_iff, dg_of (show v / 10 % 10 < 10 by omega)]; omega
  obtain rfl := List.mem_singleton.1 hc
  rw [dgB_iff, dg_of (show v % 10 < 10 by omega)]; omega
theorem three_val {v : Nat} (h : v < 1000) : valF 0 (three v) = v := by
  unfold three
  rw [valF_cons, valF_cons, valF_cons, valF_nil, stV_eq, stV_eq, stV_eq, dg_of (show v / 100 < 10 by omega), dg_of (show v / 10 % 10 < 10 by omega), dg_of (show v % 10 < 10 by omega)]
  omega
theorem dgs_noC {l : List UInt8} (h : ∀ c ∈ l, dgB c = true) {x : UInt8} (hx : dgB x = false) : noC x l := by
  intro c hc e
  have := h c hc
  rw [e, hx] at this
  cases this
theorem itoaN' (u : Nat) : Lib.itoa (u : Int) = Lib.decDigits u := Lib.itoa_nonneg u
/-- what a magnitude's text is made of -/
theorem PM_parts {l : List UInt8} {m : Int} (h : PM l m) : Lib.hasPrefix l [45] = decide (m < 0) ∧ Lib.trimPrefix l [45] = Lib.itoa ((m.natAbs / 1000 : Nat) : Int) ++ 46 :: three (m.natAbs % 1000) ∧ m.natAbs ≤ 20000 ∧ m = if Lib.hasPrefix l [45] = true then -((m.natAbs : Nat) : Int) else ((m.natAbs : Nat) : Int) := by
  have hb := inB_iff.1 h.1
  have hu : m.natAbs ≤ 20000 := by omega
  obtain ⟨c, r, hd, c0, c1⟩ := dec_cons (m.natAbs / 1000)
  have e45 : (45 : UInt8).toNat = 45 := rfl
  by_cases hm : m < 0
  · have hl : l = 45 :: (Lib.itoa ((m.natAbs / 1000 : Nat) : Int) ++ 46 :: three (m.natAbs % 1000)) := by rw [h.2, magL, if_pos hm]; rfl
    have hp : Lib.hasPrefix l [45] = true := by rw [hl]; simp [Lib.hasPrefix]
    refine ⟨by rw [hp]; simp [hm], by rw [Lib.trimPrefix, if_pos hp, hl]; rfl, hu, ?_⟩
    rw [if_pos hp]; omega
  · have hl : l = Lib.itoa ((m.natAbs / 1000 : Nat) : Int) ++ 46 :: three (m.natAbs % 1000) := by rw [h.2, magL, if_neg hm]; rfl
    have hp : Lib.hasPrefix l [45] = false := by
      rw [hl, itoaN', hd, List.cons_append, Lib.hasPrefix]
      simp only [List.isPrefixOf, Bool.and_true, beq_eq_false_iff_ne]
      rintro rfl
      omega
    refine ⟨by rw [hp]; simp [hm], by rw [Lib.trimPrefix, if_neg (by rw [hp]; exact Bool.false_ne_true), hl], hu, ?_⟩
    rw [if_neg (by rw [hp]; exact Bool.false_ne_true)]; omega
theorem dot_no (u : Nat) : noC 46 (Lib.itoa (u : Int)) := by rw [itoaN']; exact dgs_noC (dec_dg u) (by decide)
theorem three_no {v : Nat} (h : v < 1000) : noC 46 (three v) := dgs_noC (three_dg h) (by decide)
theorem PM_cut {l : List UInt8} {m : Int} (h : PM l m) : Lib.cut (Lib.trimPrefix l [45]) [46] = (Lib.itoa ((m.natAbs / 1000 : Nat) : Int), three (m.natAbs % 1000), true) := by
  rw [(PM_parts h).2.1]
  exact cut_at _ (dot_no _)
theorem RM_yes {l : List UInt8} {v : Int} (h : PM l v) : RM l v true := ⟨fun _ => h, fun n hn => by
  refine ⟨rfl, ?_⟩
  have e1 := PM_cut h
  rw [PM_cut hn] at e1
  have e2 := (Prod.mk.inj e1).1
  have e3 := (Prod.mk.inj (Prod.mk.inj e1).2).1
  have p1 := PM_parts h
  have p2 := PM_parts hn
  have q1 : n.natAbs / 1000 = v.natAbs / 1000 := by
    have := congrArg (Lib.parseIntB 64) e2
    rw [pI_itoa (by omega) (by omega), pI_itoa (by omega) (by omega)] at this
    have := Lib.NumEnd.ok.inj this
    omega
  have q2 : n.natAbs % 1000 = v.natAbs % 1000 := by
    have := congrArg (valF 0) e3
    rw [three_val (by omega), three_val (by omega)] at this
    exact this
  have q3 : n.natAbs = v.natAbs := by omega
  rw [p1.2.2.2, p2.2.2.2, q3]⟩
end Go.Proofs.YthojfmlnnclghaaGreatDoor.Rd
