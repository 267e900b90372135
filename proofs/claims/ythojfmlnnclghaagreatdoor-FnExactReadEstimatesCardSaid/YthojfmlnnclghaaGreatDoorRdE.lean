/- Reading the text of estimates: what both sides answer; the program's helpers. -/
import Derived.Test.YthojfmlnnclghaaGreatDoorRdT
import Derived.Test.YthojfmlnnclghaaGreatDoorRdJ
import Derived.Deep.RegionHeld3
namespace Go.Proofs.YthojfmlnnclghaaGreatDoor.Rd
set_option linter.unusedVariables false
set_option linter.unusedSimpArgs false
set_option maxRecDepth 8000
open Go.RowKit Plain Num View Dec Txt Name Etx Est OkE ChoE

/-- what a reader of lists hands back -/
def RE (l : List UInt8) (L : List E5) (b : Bool) : Prop := (b = true → PE l L) ∧ (b = false → L = []) ∧ ∀ M, PE l M → b = true ∧ M = L
theorem RE_no {l : List UInt8} (h : ∀ L, ¬ PE l L) : RE l [] false := ⟨(fun h => Bool.noConfusion h), fun _ => rfl, fun M hM => absurd hM (h M)⟩
theorem RE_yes {l : List UInt8} {L : List E5} (h : PE l L) (hu : ∀ M, PE l M → M = L) : RE l L true := ⟨fun _ => h, (fun h => Bool.noConfusion h), fun M hM => ⟨rfl, hu M hM⟩⟩
theorem RE_eq {l : List UInt8} {L M : List E5} {a b : Bool} (h : RE l L a) (h' : RE l M b) : a = b ∧ L = M := by
  cases a <;> cases b
  · exact ⟨rfl, (h.2.1 rfl).trans (h'.2.1 rfl).symm⟩
  · have := (h.2.2 M (h'.1 rfl)).1
    cases this
  · have := (h'.2.2 L (h.1 rfl)).1
    cases this
  · exact ⟨rfl, (h'.2.2 L (h.1 rfl)).2⟩
def REr (B : Nat) (w : World) (l : List UInt8) (r : Ending) : Prop := ∃ L v b, r = .returned (.tuple #[v, .bool b]) ∧ OwnK w B 31 5 v L.length (f5 (leE L)) ∧ RE l L b
theorem REr_no {B : Nat} {w : World} {l : List UInt8} (h : ∀ L, ¬ PE l L) : REr B w l (.returned (.tuple #[.slice none 0 0, .bool false])) := ⟨[], _, _, rfl, OwnK.none w B _ 5 _, RE_no h⟩
theorem RE_len {l : List UInt8} {L : List E5} {b : Bool} (h : RE l L b) : L.length ≤ 100 := by
  cases b
  · rw [h.2.1 rfl]; simp
  · exact PE_len (h.1 rfl)
theorem own_snocF {w : World} {B g c : Nat} {E : TypeId} {L : List E5} (e : E5) (h : w.ownsRow B E 5 (.slice (some ⟨g, 0, none⟩) (L.length + 1) c) (L.length + 1) (cellE L ++ vals e)) : w.ownsRow B E 5 (.slice (some ⟨g, 0, none⟩) (L ++ [e]).length c) (L ++ [e]).length (cellE (L ++ [e])) := by
  rw [cellE_snoc] at h
  rw [List.length_append]
  exact h
def strLen : Value → Nat
  | .string s => s.size
  | _ => 0
theorem strLen_s (s : ByteArray) : strLen (.string s) = s.size := rfl
theorem cut_lt {l A B : List UInt8} {b : Bool} (h : Lib.cut l [10] = (A, B, b)) (hl : l ≠ []) : A.length ≤ l.length ∧ B.length < l.length := by
  rcases noC_or 10 l with h1 | ⟨x, y, rfl, h1⟩
  · rw [cut_no h1] at h
    obtain ⟨rfl, h2⟩ := Prod.mk.inj h
    obtain ⟨rfl, _⟩ := Prod.mk.inj h2
    refine ⟨Nat.le_refl _, ?_⟩
    cases l with
    | nil => exact absurd rfl hl
    | cons x r => simp
  · rw [cut_at y h1] at h
    obtain ⟨rfl, h2⟩ := Prod.mk.inj h
    obtain ⟨rfl, _⟩ := Prod.mk.inj h2
    simp only [List.length_append, List.length_cons]
    omega
theorem trim_le (l : List UInt8) : (Lib.trimPrefix l [60]).length ≤ l.length := by
  rw [Lib.trimPrefix]
  split
  · rw [List.length_drop]; omega
  · exact Nat.le_refl _
theorem c_split (s : ByteArray) (w : World) (hz : Tz w) (hs : s.size ≤ 1048576) :
    Calls Tryz.prog 13 #[.string s, .string ⟨#[32]⟩] w fun e w' => ∃ g, e = .returned (.slice (some ⟨g, 0, none⟩) (spl 32 s.data.toList).length (spl 32 s.data.toList).length) ∧ Hid (∀ k x, (spl 32 s.data.toList)[k]? = some x → w'.cell? ⟨g, k, none⟩ = some (.string ⟨x.toArray⟩)) ∧ Below w.heap.size w w' := by
  obtain ⟨m, hm⟩ := hz.2.1
  obtain ⟨e1, e2⟩ := splitB_spl 32 s
  refine (Tryz.strings_Split s ⟨#[32]⟩ m w (by omega) hm (by decide)).mono ?_
  rintro e w' ⟨rfl, rfl⟩
  refine ⟨w.heap.size, by rw [e2], Lib.hid (fun k x hx => ?_), (by repeat' (first | (with_reducible exact Below.refl _ _) | (with_reducible assumption) | (with_reducible refine Base.grow_alloc ?_ _) | (with_reducible refine Base.below_drewN ?_ _) | (with_reducible refine Below.drew ?_) | (with_reducible refine Below.setCell ?_ ?_ _) | go_size))⟩
  rw [← e1, List.getElem?_map] at hx
  have hc := cell_newL w ((Lib.splitB ⟨#[32]⟩ 0 (Lib.countB s ⟨#[32]⟩) s).map Value.string) 9 rfl k (.string ⟨x.toArray⟩) (by
    rw [List.getElem?_map]
    cases hq : (Lib.splitB ⟨#[32]⟩ 0 (Lib.countB s ⟨#[32]⟩) s)[k]? with
    | none => rw [hq] at hx; cases hx
    | some y =>
      rw [hq] at hx
      have hy : y.data.toList = x := Option.some.inj hx
      subst hy
      rfl)
  rw [Addr.add_lit, Nat.zero_add] at hc
  exact hc
theorem c_cut (s : ByteArray) (A B : List UInt8) (fo : Bool) (w : World) (hz : Tz w) (hs : s.size ≤ 1048576) (h : Lib.cut s.data.toList [10] = (A, B, fo)) :
    Calls Tryz.prog 12 #[.string s, .string ⟨#[10]⟩] w fun e w' => e = .returned (.tuple #[.string ⟨A.toArray⟩, .string ⟨B.toArray⟩, .bool fo]) ∧ Below w.heap.size w w' := by
  obtain ⟨m, hm⟩ := hz.2.1
  refine (Tryz.strings_Cut s ⟨#[10]⟩ m w (by omega) hm).mono ?_
  rintro e w' ⟨rfl, n, rfl⟩
  have h' : Lib.cut s.data.toList (⟨#[10]⟩ : ByteArray).data.toList = (A, B, fo) := h
  rw [h']
  exact ⟨rfl, (by repeat' (first | (with_reducible exact Below.refl _ _) | (with_reducible assumption) | (with_reducible refine Base.grow_alloc ?_ _) | (with_reducible refine Base.below_drewN ?_ _) | (with_reducible refine Below.drew ?_) | (with_reducible refine Below.setCell ?_ ?_ _) | go_size))⟩
end Go.Proofs.YthojfmlnnclghaaGreatDoor.Rd
