/- The stars in a list of estimates: the program's side. -/
import Derived.Test.YthojfmlnnclghaaNms
namespace Go.Proofs.Ythojfmlnnclghaa.Stars
set_option linter.unusedVariables false
set_option linter.unusedSimpArgs false
set_option maxRecDepth 8000
open Go.RowKit Go.Shelf Go.Sort Plain Num View Idx Est Name Es1 OkE ChoE StS Nms

/-- the names, the code -/
def stL (n : Nat) (E : Nat → E5) : List (List UInt8) := if okE n E = true then Lib.compact (srtS (nmL n E)) else []
def stC (n : Nat) (E : Nat → E5) : Int := if okE n E = true then 0 else 1
theorem ret_st {v v' : Value} {a b : Int} (h : v = v') (h2 : a = b) : Ending.returned (.tuple #[v, .int .i64 a]) = .returned (.tuple #[v', .int .i64 b]) := by rw [h, h2]
set_option maxHeartbeats 1600000 in
theorem c_StarsIn (A : Option Addr) (n c : Nat) (E : Nat → E5) (w : World) (hv : Sl w 5 A n c (f5 E)) :
    Calls Try.prog 11 #[.slice A n c] w fun e w' => ∃ v, e = .returned (.tuple #[v, .int .i64 (stC n E)]) ∧ OwnK w' w.heap.size 9 1 v (stL n E).length (fS (leS (stL n E))) ∧ Below w.heap.size w w' := by
  have HV := Lib.hid (fun (W : World) (hW : Sl W 5 A n c (f5 E)) => c_ValidEstimates A n c E W hW)
  cases hok : okE n E
  · have HL := Lib.hid (show stL n E = [] by rw [stL, hok]; rfl)
    have HC := Lib.hid (show stC n E = 1 by rw [stC, hok]; rfl)
    rw [hok] at HV
    go_enter Try.func11, Try.ntmps11
    go_wp2_with (first | (go_at_call 36; refine (HV.out _ hv).mono ?_; rintro e w1 ⟨rfl, hb1⟩))
    refine bodyPost_ret (v := .tuple #[.slice none 0 0, .int .i64 1]) (by simp [results, Try.results11, go_sem]) rfl ?_
    rw [HL.out, HC.out]
    exact ⟨.slice none 0 0, rfl, OwnK.zero rfl, (by repeat' (first | (with_reducible exact Below.refl _ _) | (with_reducible assumption) | (with_reducible refine Base.via hb1 ?_) | (with_reducible refine Base.grow_alloc ?_ _) | (with_reducible refine Base.below_drewN ?_ _) | (with_reducible refine Below.drew ?_) | (with_reducible refine Below.setCell ?_ ?_ _) | go_size))⟩
  · have HL := Lib.hid (show stL n E = Lib.compact (srtS (nmL n E)) by rw [stL, hok]; rfl)
    have HC := Lib.hid (show stC n E = 0 by rw [stC, hok]; rfl)
    rw [hok] at HV
    have HN := Lib.hid (fun (W : World) (hW : Sl W 5 A n c (f5 E)) => c_namesOf A n c E W hW)
    go_enter Try.func11, Try.ntmps11
    go_wp2_with (first | (go_at_call 36; refine (HV.out _ hv).mono ?_; rintro e w1 ⟨rfl, hb1⟩) | (go_at_call 37; refine (HN.out _ (hv.below hb1)).mono ?_; rintro e w2 ⟨v, rfl, ho, hb2⟩))
    refine bodyPost_ret (v := .tuple #[v, .int .i64 0]) (by simp [results, Try.results11, go_sem]) rfl ?_
    rw [HL.out, HC.out]
    exact ⟨v, rfl, ho.mono hb1.size, (by repeat' (first | (with_reducible exact Below.refl _ _) | (with_reducible assumption) | (with_reducible refine Base.via hb2 ?_) | (with_reducible refine Base.via hb1 ?_) | (with_reducible refine Base.grow_alloc ?_ _) | (with_reducible refine Base.below_drewN ?_ _) | (with_reducible refine Below.drew ?_) | (with_reducible refine Below.setCell ?_ ?_ _) | go_size))⟩
end Go.Proofs.Ythojfmlnnclghaa.Stars
