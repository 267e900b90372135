/- Reading a line: the reference's l06Line, joined. -/
import Derived.Test.YthojfmlnnclghaaGreatDoorRdLb
import Derived.Test.YthojfmlnnclghaaGreatDoorRdLc
namespace Go.Proofs.YthojfmlnnclghaaGreatDoor.Rd
set_option linter.unusedVariables false
set_option linter.unusedSimpArgs false
set_option maxRecDepth 8000
open Go.RowKit Plain Num View Dec Txt Name Etx Est

set_option maxHeartbeats 3200000 in
theorem c_l06Line (s : ByteArray) (w : World) (hs : s.size ≤ 1048576) :
    Calls Tryz.prog 10 #[.string s] w fun r w' => RLr s.data.toList r ∧ Below w.heap.size w w' := by
  have hL : s.data.toList.length = s.size := by rw [Array.length_toList]; rfl
  have HSP := Lib.hid (fun (X : World) => c_l01Split s 32 X hs)
  have HPS := Lib.hid (fun (e : E5) (h : PL s.data.toList e) => PL_spl h)
  obtain ⟨P, hP⟩ : ∃ P, spl 32 s.data.toList = P := ⟨_, rfl⟩
  rw [hP] at HSP HPS
  by_cases h4 : P.length = 4
  case neg =>
    have HR := Lib.hid (RL_no (l := s.data.toList) (e := zero5) (fun m hm => h4 (by rw [HPS.out m hm]; rfl)))
    clear hP
    go_enter Tryz.func10, Tryz.ntmps10
    go_wp2_with (first | (go_at_call 9; refine (HSP.out _).mono ?_; rintro e w1 ⟨g, cap, rfl, ho1, hb1⟩; have zhb1 := hb1.size; (try simp at zhb1); have x0 : World.cell? w1 ⟨w.heap.size, 0, none⟩ = some (.int .i64 0) := ((hb1.cell (p := ⟨w.heap.size, 0, none⟩) (by first | (simp; done) | (simp; omega) | omega)).trans (by simp [go_sem])); have y0 : World.frozen? w1 ⟨w.heap.size, 0, none⟩ = false := ((hb1.frozen (p := ⟨w.heap.size, 0, none⟩) (by first | (simp; done) | (simp; omega) | omega)).trans (by simp [go_sem])); have x1 : World.cell? w1 ⟨w.heap.size, 1, none⟩ = some (.string ⟨#[]⟩) := ((hb1.cell (p := ⟨w.heap.size, 1, none⟩) (by first | (simp; done) | (simp; omega) | omega)).trans (by simp [go_sem])); have y1 : World.frozen? w1 ⟨w.heap.size, 1, none⟩ = false := ((hb1.frozen (p := ⟨w.heap.size, 1, none⟩) (by first | (simp; done) | (simp; omega) | omega)).trans (by simp [go_sem])); have x2 : World.cell? w1 ⟨w.heap.size, 2, none⟩ = some (.string ⟨#[]⟩) := ((hb1.cell (p := ⟨w.heap.size, 2, none⟩) (by first | (simp; done) | (simp; omega) | omega)).trans (by simp [go_sem])); have y2 : World.frozen? w1 ⟨w.heap.size, 2, none⟩ = false := ((hb1.frozen (p := ⟨w.heap.size, 2, none⟩) (by first | (simp; done) | (simp; omega) | omega)).trans (by simp [go_sem])); have x3 : World.cell? w1 ⟨w.heap.size, 3, none⟩ = some (.int .i64 0) := ((hb1.cell (p := ⟨w.heap.size, 3, none⟩) (by first | (simp; done) | (simp; omega) | omega)).trans (by simp [go_sem])); have y3 : World.frozen? w1 ⟨w.heap.size, 3, none⟩ = false := ((hb1.frozen (p := ⟨w.heap.size, 3, none⟩) (by first | (simp; done) | (simp; omega) | omega)).trans (by simp [go_sem])); have x4 : World.cell? w1 ⟨w.heap.size, 4, none⟩ = some (.bool false) := ((hb1.cell (p := ⟨w.heap.size, 4, none⟩) (by first | (simp; done) | (simp; omega) | omega)).trans (by simp [go_sem])); have y4 : World.frozen? w1 ⟨w.heap.size, 4, none⟩ = false := ((hb1.frozen (p := ⟨w.heap.size, 4, none⟩) (by first | (simp; done) | (simp; omega) | omega)).trans (by simp [go_sem]))))
    refine bodyPost_ret (v := .tuple #[est zero5, .bool false]) (by simp [results, Tryz.results10, go_sem, est, zero5, x0, x1, x2, x3, x4]) rfl ⟨⟨_, _, rfl, HR.out⟩, (by repeat' (first | (with_reducible exact Below.refl _ _) | (with_reducible assumption) | (with_reducible refine Base.via hb1 ?_) | (with_reducible refine Base.grow_alloc ?_ _) | (with_reducible refine Base.below_drewN ?_ _) | (with_reducible refine Below.drew ?_) | (with_reducible refine Below.setCell ?_ ?_ _) | go_size))⟩
  obtain ⟨A, B, C, D, rfl⟩ : ∃ A B C D, P = [A, B, C, D] := by
    match P, h4 with
    | [A, B, C, D], _ => exact ⟨A, B, C, D, rfl⟩
  by_cases hD0 : 0 < D.length
  · by_cases h60 : by8 ⟨D.toArray⟩ 0 = 60
    · exact c_l06Line_b s w hs A B C D hP hD0 h60
    · exact c_l06Line_c s w hs A B C D hP hD0 h60
  · exact c_l06Line_a s w hs A B C D hP hD0
end Go.Proofs.YthojfmlnnclghaaGreatDoor.Rd
