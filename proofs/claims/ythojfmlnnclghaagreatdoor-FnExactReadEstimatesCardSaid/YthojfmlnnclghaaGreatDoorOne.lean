/- One estimate: what is one, and which is before which, both sides. -/
import Derived.Test.YthojfmlnnclghaaGreatDoorName
import Derived.Test.YthojfmlnnclghaaGreatDoorEst2
import Derived.Test.YthojfmlnnclghaaGreatDoorShelf
import Derived.BigQuiet
import Derived.Deep.QuietTactic
import Derived.Deep.RegionHeld3
namespace Go.Proofs.YthojfmlnnclghaaGreatDoor.Es1
set_option linter.unusedVariables false
set_option linter.unusedSimpArgs false
set_option maxRecDepth 8000
open Go.RowKit Plain Num View Est Name

def oneE (e : E5) : Bool := inB e.t 0 10000000 && nmOk e.s && nmOk e.o && inB e.m (-2000) 20000
set_option maxHeartbeats 1600000 in
theorem c_isEstimate (e : E5) (w : World) : Calls Tryz.prog 33 #[est e] w fun r w' => r = .returned (.bool (oneE e)) ∧ Below w.heap.size w w' := by
  have HO : Hid (oneE e = (inB e.t 0 10000000 && nmOk e.s && nmOk e.o && inB e.m (-2000) 20000)) := Lib.hid rfl
  unfold est
  obtain ⟨t, s, o, m, b⟩ := e
  dsimp only
  generalize oneE _ = v at *
  cases h1 : inB t 0 10000000 <;> cases h2 : nmOk s <;> cases h3 : nmOk o <;> cases h4 : inB m (-2000) 20000 <;>
    (go_enter Tryz.func33, Tryz.ntmps33
     go_wp2_with (first | (go_at_call 58; refine (c_ValidTime _ _).mono ?_; rw [h1]; rintro r w1 ⟨rfl, rfl⟩) | (go_at_call_of 59 (Value.string s); refine (c_IsName s _).mono ?_; rw [h2]; rintro r w2 ⟨rfl, hb2⟩; obtain ⟨cb2, fb2⟩ := Base.bcell hb2; have ub2 := hb2.size; (try simp at ub2); have yb2 : w.heap.size < w2.heap.size := by omega) | (go_at_call_of 59 (Value.string o); refine (c_IsName o _).mono ?_; rw [h3]; rintro r w3 ⟨rfl, hb3⟩; obtain ⟨cb3, fb3⟩ := Base.bcell hb3; have ub3 := hb3.size; (try simp at ub3); have yb3 : w.heap.size < w3.heap.size := by omega) | (go_at_call 55; refine (c_ValidMag _ _).mono ?_; rw [h4]; rintro r w4 ⟨rfl, rfl⟩))
     go_ret
     exact ⟨ret_b (by rw [HO.out, h1, h2, h3, h4]; rfl), (by repeat' (first | (with_reducible exact Below.refl _ _) | (with_reducible assumption) | (with_reducible refine Base.via hb3 ?_) | (with_reducible refine Base.via hb2 ?_) | (with_reducible refine Base.grow_alloc ?_ _) | (with_reducible refine Base.below_drewN ?_ _) | (with_reducible refine Below.drew ?_) | (with_reducible refine Below.setCell ?_ ?_ _) | go_size))⟩)
set_option maxHeartbeats 1600000 in
theorem c_l06One (e : E5) (b off : Nat) (w : World) (h0 : w.cell? ⟨b, off, none⟩ = some (.int .i64 e.t)) (h1 : w.cell? ⟨b, off + 1, none⟩ = some (.string e.s)) (h2 : w.cell? ⟨b, off + 2, none⟩ = some (.string e.o)) (h3 : w.cell? ⟨b, off + 3, none⟩ = some (.int .i64 e.m)) : Calls Tryz.prog 23 #[.pointer (some ⟨b, off, none⟩)] w fun r w' => r = .returned (.bool (oneE e)) ∧ Below w.heap.size w w' := by
  have HO : Hid (oneE e = (inB e.t 0 10000000 && nmOk e.s && nmOk e.o && inB e.m (-2000) 20000)) := Lib.hid rfl
  have lb := World.block_lt_of_cell? _ _ h0
  dsimp only at lb
  obtain ⟨t, s, o, m, bb⟩ := e
  dsimp only at h0 h1 h2 h3 HO
  generalize oneE _ = v at *
  cases e1 : inB t 0 10000000 <;> cases e2 : nmOk s <;> cases e3 : nmOk o <;> cases e4 : inB m (-2000) 20000 <;>
    (go_enter Tryz.func23, Tryz.ntmps23
     go_wp2_with (first | (go_at_call 44; refine (c_l06Time _ _).mono ?_; rw [e1]; rintro r w1 ⟨rfl, rfl⟩) | (go_at_call_of 45 (Value.string s); refine (c_specIsName s _).mono ?_; rw [e2]; rintro r w2 ⟨rfl, hb2⟩; have h02 := cell_call hb2 h0; have h12 := cell_call hb2 h1; have h22 := cell_call hb2 h2; have h32 := cell_call hb2 h3) | (go_at_call_of 45 (Value.string o); refine (c_specIsName o _).mono ?_; rw [e3]; rintro r w3 ⟨rfl, hb3⟩; have h33 := cell_call hb3 h32) | (go_at_call 42; refine (c_l02Mag _ _).mono ?_; rw [e4]; rintro r w4 ⟨rfl, rfl⟩))
     go_ret
     exact ⟨ret_b (by rw [HO.out, e1, e2, e3, e4]; rfl), (by repeat' (first | (with_reducible exact Below.refl _ _) | (with_reducible assumption) | (with_reducible refine Base.via hb3 ?_) | (with_reducible refine Base.via hb2 ?_) | (with_reducible refine Base.grow_alloc ?_ _) | (with_reducible refine Base.below_drewN ?_ _) | (with_reducible refine Below.drew ?_) | (with_reducible refine Below.setCell ?_ ?_ _) | go_size))⟩)
/-- the order of bytes -/
def sLt (a b : ByteArray) : Bool := Op.bytesLess a.toList b.toList
/-- which estimate is before which -/
def befE (a b : E5) : Bool := if a.t = b.t then (if a.s = b.s then sLt a.o b.o else sLt a.s b.s) else decide (a.t < b.t)
theorem bts_eq (a b : ByteArray) : (a.toList == b.toList) = decide (a = b) := by
  rw [Bool.eq_iff_iff, beq_iff_eq, decide_eq_true_eq, ByteArray.toList_eq, ByteArray.toList_eq]
  constructor
  · intro h
    exact ByteArray.ext (Array.toList_inj.1 h)
  · intro h; rw [h]
set_option maxHeartbeats 1600000 in
theorem c_l06Before (x y : E5) (b off b' off' : Nat) (w : World) (h0 : w.cell? ⟨b, off, none⟩ = some (.int .i64 x.t)) (h1 : w.cell? ⟨b, off + 1, none⟩ = some (.string x.s)) (h2 : w.cell? ⟨b, off + 2, none⟩ = some (.string x.o)) (k0 : w.cell? ⟨b', off', none⟩ = some (.int .i64 y.t)) (k1 : w.cell? ⟨b', off' + 1, none⟩ = some (.string y.s)) (k2 : w.cell? ⟨b', off' + 2, none⟩ = some (.string y.o)) : Calls Tryz.prog 24 #[.pointer (some ⟨b, off, none⟩), .pointer (some ⟨b', off', none⟩)] w fun r w' => r = .returned (.bool (befE x y)) ∧ Below w.heap.size w w' := by
  have HO : Hid (befE x y = if x.t = y.t then (if x.s = y.s then sLt x.o y.o else sLt x.s y.s) else decide (x.t < y.t)) := Lib.hid rfl
  have HL := Lib.hid (show ∀ a c : ByteArray, Op.bytesLess a.toList c.toList = sLt a c from fun _ _ => rfl)
  have lb := World.block_lt_of_cell? _ _ h0
  have lb' := World.block_lt_of_cell? _ _ k0
  dsimp only at lb lb'
  obtain ⟨t, s, o, m, bb⟩ := x
  obtain ⟨t', s', o', m', bb'⟩ := y
  dsimp only at h0 h1 h2 k0 k1 k2 HO
  generalize befE _ _ = v at *
  have e2 := bts_eq s s'
  by_cases c1 : t = t'
  · subst c1
    by_cases c2 : s = s'
    · have HV : Hid (v = sLt o o') := Lib.hid (by rw [HO.out, if_pos rfl, if_pos c2])
      clear e2 HO
      subst c2
      have e3 : (s.toList == s.toList) = true := by simp
      go_enter Tryz.func24, Tryz.ntmps24
      go_wp2; go_quiet (fail); go_wp2; go_quiet (fail); go_wp2; go_quiet (fail); go_wp2
      go_ret
      exact ⟨ret_b ((HL.out _ _).trans HV.out.symm), (by repeat' (first | (with_reducible exact Below.refl _ _) | (with_reducible assumption) | (with_reducible refine Base.grow_alloc ?_ _) | (with_reducible refine Base.below_drewN ?_ _) | (with_reducible refine Below.drew ?_) | (with_reducible refine Below.setCell ?_ ?_ _) | go_size))⟩
    · have HV : Hid (v = sLt s s') := Lib.hid (by rw [HO.out, if_pos rfl, if_neg c2])
      have e3 : (s.toList == s'.toList) = false := by rw [e2]; simp [c2]
      clear e2 HO c2
      go_enter Tryz.func24, Tryz.ntmps24
      go_wp2; go_quiet (fail); go_wp2; go_quiet (fail); go_wp2; go_quiet (fail); go_wp2
      go_ret
      exact ⟨ret_b ((HL.out _ _).trans HV.out.symm), (by repeat' (first | (with_reducible exact Below.refl _ _) | (with_reducible assumption) | (with_reducible refine Base.grow_alloc ?_ _) | (with_reducible refine Base.below_drewN ?_ _) | (with_reducible refine Below.drew ?_) | (with_reducible refine Below.setCell ?_ ?_ _) | go_size))⟩
  · have HV : Hid (v = decide (t < t')) := Lib.hid (by rw [HO.out, if_neg c1])
    clear e2 HO
    have e3 : (t == t') = false := by simp [c1]
    clear c1
    go_enter Tryz.func24, Tryz.ntmps24
    go_wp2; go_quiet (fail); go_wp2; go_quiet (fail); go_wp2
    go_ret
    exact ⟨ret_b HV.out.symm, (by repeat' (first | (with_reducible exact Below.refl _ _) | (with_reducible assumption) | (with_reducible refine Base.grow_alloc ?_ _) | (with_reducible refine Base.below_drewN ?_ _) | (with_reducible refine Below.drew ?_) | (with_reducible refine Below.setCell ?_ ?_ _) | go_size))⟩
end Go.Proofs.YthojfmlnnclghaaGreatDoor.Es1
