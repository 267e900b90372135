/- The chosen ones of a list of estimates, with whatever closure. -/
import Derived.Test.YthojfmlnnclghaaMkE
import Derived.Test.YthojfmlnnclghaaIdx
import Derived.Test.YthojfmlnnclghaaList
import Derived.Test.YthojfmlnnclghaaCopy
namespace Go.Proofs.Ythojfmlnnclghaa.ChoE
set_option linter.unusedVariables false
set_option linter.unusedSimpArgs false
set_option maxRecDepth 8000
open Go.RowKit Go.Shelf Plain Num View Idx Est Name Es1

def vals (e : E5) : List Value := [.int .i64 e.t, .string e.s, .string e.o, .int .i64 e.m, .bool e.b]
def cellE (L : List E5) : List Value := L.flatMap vals
def leE (L : List E5) : Nat → E5 := fun i => L.getD i zero5
theorem cellE_snoc (L : List E5) (e : E5) : cellE L ++ vals e = cellE (L ++ [e]) := by simp [cellE]
theorem cellE_len (L : List E5) : (cellE L).length = L.length * 5 := by
  induction L with
  | nil => rfl
  | cons e L ih =>
    have : cellE (e :: L) = vals e ++ cellE L := by simp [cellE]
    rw [this, List.length_append, ih, List.length_cons]
    simp only [vals, List.length_cons, List.length_nil]
    omega
theorem cellE_at (L : List E5) : ∀ i, i < L.length → ∀ j, j < 5 → (cellE L)[i * 5 + j]? = some (f5 (leE L) i j) := by
  induction L with
  | nil => intro i hi; simp at hi
  | cons e L ih =>
    intro i hi j hj
    have hc : cellE (e :: L) = vals e ++ cellE L := by simp [cellE]
    rw [hc]
    by_cases h0 : i = 0
    · subst h0
      rw [List.getElem?_append_left (by simp [vals]; omega)]
      obtain rfl | rfl | rfl | rfl | rfl : j = 0 ∨ j = 1 ∨ j = 2 ∨ j = 3 ∨ j = 4 := by omega
      all_goals simp [vals, f5, leE]
    · obtain ⟨i', rfl⟩ : ∃ i', i = i' + 1 := ⟨i - 1, by omega⟩
      rw [List.getElem?_append_right (by simp [vals]; omega)]
      have e1 : (i' + 1) * 5 + j - (vals e).length = i' * 5 + j := by simp [vals]; omega
      rw [e1, ih i' (by simpa using hi) j hj]
      simp [f5, leE]
theorem own_snocE {w : World} {B : Nat} {E : TypeId} {v : Value} {L : List E5} {e : E5} (h : w.ownsRow B E 5 v (L.length + 1) (cellE L ++ vals e)) : w.ownsRow B E 5 v (L ++ [e]).length (cellE (L ++ [e])) := by
  rw [cellE_snoc] at h
  simpa using h
theorem of_listE {w : World} {B : Nat} {E : TypeId} {v : Value} {L : List E5} (h : w.ownsRow B E 5 v L.length (cellE L)) (hn : L.length ≤ 1048576) : OwnK w B E 5 v L.length (f5 (leE L)) := OwnK.of_own h hn (cellE_at L)
set_option maxHeartbeats 1600000 in
theorem c_chosenE (A : Option Addr) (n c : Nat) (E : Nat → E5) (g : Nat) (lb : Array Value) (p : Nat → Bool) (w : World) (eg : ∀ args w, (callFunc g args).run Try.prog w = .ok (.enter g args) w)
    (hv : Sl w 5 A n c (f5 E)) (hp : Pred Try.prog w g lb n (fun i => est (E i)) p) :
    Calls Try.prog 54 #[.slice A n c, .func (.func g) #[] lb] w fun e w' => ∃ v, e = .returned v ∧ OwnK w' w.heap.size 51 5 v (sel n p E).length (f5 (leE (sel n p E))) ∧ Below w.heap.size w w' := by
  have hn := hv.le
  have HP := Lib.hid hp
  clear hp
  obtain ⟨i0, hi0, hz0, hz1, hz2⟩ := info_parts infoEst
  go_enter Try.func54, Try.ntmps54
  go_wp2
  go_loopw [5, 7, 11] (fun v _ i wr => ∃ k : Nat, k ≤ n ∧ i = .int .i64 k ∧ wr.ownsRow w.heap.size 51 5 v (sel k p E).length (cellE (sel k p E)) ∧ Below w.heap.size w wr) (fun _ _ i _ => n - (intOf i).toNat)
  case atStart => exact ⟨0, Nat.zero_le _, rfl, World.ownsRow_made _ _ _ (by omega) (by simp [maxLen]) rfl, (by repeat' (first | (with_reducible exact Below.refl _ _) | (with_reducible assumption) | (with_reducible refine Base.grow_alloc ?_ _) | (with_reducible refine Base.below_drewN ?_ _) | (with_reducible refine Below.drew ?_) | (with_reducible refine Below.setCell ?_ ?_ _) | go_size))⟩
  case round =>
    obtain ⟨k, hk, rfl, hown, hbr⟩ := hrel
    have hz := hbr.size
    have hl := sel_len (k := k) (P := p) (g := E)
    by_cases hlt : k < n
    · obtain ⟨b, off, rfl, hb, hc⟩ := (hv.below hbr).at_ (by omega)
      obtain ⟨h0, h1, h2, h3, h4⟩ := cells5 hc k hlt
      have hcall : ∀ W : World, Below wr.heap.size wr W → Calls Try.prog g (#[.agg #[.int .i64 (E k).t, .string (E k).s, .string (E k).o, .int .i64 (E k).m, .bool (E k).b]] ++ lb) W fun e w' => e = .returned (.bool (p k)) ∧ Below W.heap.size W w' := fun W hW => HP.out W (Base.via hW hbr) k hlt
      clear hc
      cases hq : p k with
      | true =>
        rw [hq] at hcall
        have HCA := Lib.hid hcall
        have HQ := Lib.hid (sel_yes (g := E) hq)
        clear hq hcall
        go_wp2_with (first | (go_at_fn g; refine (HCA.out _ (by repeat' (first | (with_reducible exact Below.refl _ _) | (with_reducible assumption) | (with_reducible refine Base.grow_alloc ?_ _) | (with_reducible refine Base.below_drewN ?_ _) | (with_reducible refine Below.drew ?_) | (with_reducible refine Below.setCell ?_ ?_ _) | go_size))).mono ?_; rintro e w1 ⟨rfl, hb1⟩; have zz := hb1.size; (try simp at zz); have q0 : w1.cell? ⟨wr.heap.size, 0, none⟩ = some (.int .i64 (E k).t) := (hb1.cell (p := ⟨wr.heap.size, 0, none⟩) (by simp)).trans (by simp [go_sem]); have q1 : w1.cell? ⟨wr.heap.size, 1, none⟩ = some (.string (E k).s) := (hb1.cell (p := ⟨wr.heap.size, 1, none⟩) (by simp)).trans (by simp [go_sem]); have q2 : w1.cell? ⟨wr.heap.size, 2, none⟩ = some (.string (E k).o) := (hb1.cell (p := ⟨wr.heap.size, 2, none⟩) (by simp)).trans (by simp [go_sem]); have q3 : w1.cell? ⟨wr.heap.size, 3, none⟩ = some (.int .i64 (E k).m) := (hb1.cell (p := ⟨wr.heap.size, 3, none⟩) (by simp)).trans (by simp [go_sem]); have q4 : w1.cell? ⟨wr.heap.size, 4, none⟩ = some (.bool (E k).b) := (hb1.cell (p := ⟨wr.heap.size, 4, none⟩) (by simp)).trans (by simp [go_sem])) | (at_builtin; refine wpList_append_own _ rfl _ _ 27 rfl (w.heap.size) 51 i0 _ 5 56 Try.underlying27 hi0 hz0 hz1 hz2 rfl (by decide) _ _ _ rfl (own_of_below hown (by repeat' (first | (with_reducible exact Below.refl _ _) | (with_reducible assumption) | (with_reducible refine Base.via hb1 ?_) | (with_reducible refine Base.grow_alloc ?_ _) | (with_reducible refine Base.below_drewN ?_ _) | (with_reducible refine Below.drew ?_) | (with_reducible refine Below.setCell ?_ ?_ _) | go_size))) ⟨_, 0, none⟩ 1 1 [.int .i64 (E k).t, .string (E k).s, .string (E k).o, .int .i64 (E k).m, .bool (E k).b] rfl rfl (cell_newL _ [.int .i64 (E k).t, .string (E k).s, .string (E k).o, .int .i64 (E k).m, .bool (E k).b] _ (by simp)) (by simp [Value.oneCell']) (by simp only [maxLen]; omega) (by omega) (by simp; omega) ?_))
        intro v' w2 hown' hgrow _
        have hb2 : Below w.heap.size w w2 := own_grow (by repeat' (first | (with_reducible exact Below.refl _ _) | (with_reducible assumption) | (with_reducible refine Base.via hb1 ?_) | (with_reducible refine Base.grow_alloc ?_ _) | (with_reducible refine Base.below_drewN ?_ _) | (with_reducible refine Below.drew ?_) | (with_reducible refine Below.setCell ?_ ?_ _) | go_size)) hown (Nat.le_refl _) hgrow
        clear hown hgrow
        go_wp2
        exact ⟨⟨k + 1, by omega, by go_num, by rw [HQ.out]; exact own_snocE hown', hb2⟩, by simp [intOf]; omega⟩
      | false =>
        rw [hq] at hcall
        have HCA := Lib.hid hcall
        have HQ := Lib.hid (sel_no (g := E) hq)
        clear hq hcall
        go_wp2_with (go_at_fn g; refine (HCA.out _ (by repeat' (first | (with_reducible exact Below.refl _ _) | (with_reducible assumption) | (with_reducible refine Base.grow_alloc ?_ _) | (with_reducible refine Base.below_drewN ?_ _) | (with_reducible refine Below.drew ?_) | (with_reducible refine Below.setCell ?_ ?_ _) | go_size))).mono ?_; rintro e w1 ⟨rfl, hb1⟩)
        exact ⟨⟨k + 1, by omega, by go_num, by rw [HQ.out]; exact own_of_below hown (by repeat' (first | (with_reducible exact Below.refl _ _) | (with_reducible assumption) | (with_reducible refine Base.via hb1 ?_) | (with_reducible refine Base.grow_alloc ?_ _) | (with_reducible refine Base.below_drewN ?_ _) | (with_reducible refine Below.drew ?_) | (with_reducible refine Below.setCell ?_ ?_ _) | go_size)), (by repeat' (first | (with_reducible exact Below.refl _ _) | (with_reducible assumption) | (with_reducible refine Base.via hb1 ?_) | (with_reducible refine Base.grow_alloc ?_ _) | (with_reducible refine Base.below_drewN ?_ _) | (with_reducible refine Below.drew ?_) | (with_reducible refine Below.setCell ?_ ?_ _) | go_size))⟩, by simp [intOf]; omega⟩
    · have hkn : k = n := by omega
      subst hkn
      go_wp2
      go_ret
      exact ⟨_, rfl, of_listE hown (by omega), hbr⟩
end Go.Proofs.Ythojfmlnnclghaa.ChoE
