/- A row of the call's own, sorted by a closure: exchanges and rotations. -/
import Derived.Test.YtenjcdhehjdeoaaSymQ
import Derived.Test.YtenjcdhehjdeoaaList
import Derived.Test.YtenjcdhehjdeoaaNum
import Derived.Deep.RegionHeld3
import Derived.Deep.QuietTactic
import Derived.BigQuiet
import Derived.BigRegion
namespace Go.Proofs.Ytenjcdhehjdeoaa.Srt
set_option linter.unusedVariables false
set_option linter.unusedSimpArgs false
set_option maxRecDepth 8000
open Go.RowKit Plain Num View Sym

def cmpV (K : Int → Int) (x y : Int) : Int := if K x < K y then -1 else if K y < K x then 1 else 0
theorem cmpV_neg {K : Int → Int} {x y : Int} : cmpV K x y < 0 ↔ K x < K y := by
  unfold cmpV
  split
  · constructor <;> intro _ <;> omega
  · split <;> constructor <;> intro _ <;> omega
/-- a closure that compares two of the numbers below n by K, in every world that keeps w0's blocks -/
def CmpOk (P : Program) (w0 : World) (gf : Nat) (lb : Array Value) (n : Nat) (K : Int → Int) : Prop :=
  ∀ (W : World), Below w0.heap.size w0 W → ∀ x y : Int, 0 ≤ x → x < n → 0 ≤ y → y < n → Calls P gf (#[.int .i64 x, .int .i64 y] ++ lb) W fun e w' => e = .returned (.int .i64 (cmpV K x y)) ∧ Below W.heap.size W w'
/-- the row g of n numbers, younger than w0 -/
def St (w0 W : World) (E : TypeId) (g n : Nat) (D : Nat → Int) : Prop := w0.heap.size ≤ g ∧ RowK W g E 1 n (f1 D) ∧ Below w0.heap.size w0 W
def Rng (D : Nat → Int) (n : Nat) : Prop := ∀ i, i < n → 0 ≤ D i ∧ D i < n
section
variable {w0 W W' : World} {E : TypeId} {g n : Nat} {D D' : Nat → Int}
theorem St.below (h : St w0 W E g n D) (hb : Below W.heap.size W W') : St w0 W' E g n D := ⟨h.1, h.2.1.below hb h.2.1.lt, h.2.2.trans (hb.mono h.2.2.size)⟩
theorem St.drew (h : St w0 W E g n D) : St w0 W.drew E g n D := ⟨h.1, h.2.1.drew, h.2.2.drew⟩
theorem St.drewN (h : St w0 W E g n D) (m : Nat) : St w0 (W.drewN m) E g n D := ⟨h.1, h.2.1.drewN m, Base.below_drewN h.2.2 m⟩
theorem St.cell (h : St w0 W E g n D) {i : Nat} (hi : i < n) : W.cell? ⟨g, i, none⟩ = some (.int .i64 (D i)) := h.2.1.cell1 hi
theorem St.frozen (h : St w0 W E g n D) (i : Nat) : W.frozen? ⟨g, i, none⟩ = false := h.2.1.frozen i
theorem St.lt (h : St w0 W E g n D) : g < W.heap.size := h.2.1.lt
theorem St.congr (h : St w0 W E g n D) (e : ∀ i, i < n → D' i = D i) : St w0 W E g n D' := ⟨h.1, h.2.1.congr fun i hi j _ => by simp only [f1]; rw [e i hi], h.2.2⟩
theorem St.set (h : St w0 W E g n D) {i : Nat} (hi : i < n) (x : Int) : St w0 (W.setCell ⟨g, i, none⟩ (.int .i64 x)) E g n (fun q => if q = i then x else D q) :=
  ⟨h.1, (h.2.1.set1 hi (.int .i64 x)).congr fun q _ j hj => by
    have : j = 0 := by omega
    subst this
    simp only [upd, f1]
    by_cases e : q = i <;> simp [e], Below.setCell h.2.2 (p := ⟨g, i, none⟩) h.1 _⟩
/-- the two stores of an exchange, in whichever order -/
theorem St.sw (h : St w0 W E g n D) {i j : Nat} (hi : i < n) (hj : j < n) : St w0 ((W.setCell ⟨g, i, none⟩ (.int .i64 (D j))).setCell ⟨g, j, none⟩ (.int .i64 (D i))) E g n (sw D i j) :=
  ((h.set hi (D j)).set hj (D i)).congr fun q _ => by
    unfold Sym.sw
    by_cases e1 : q = i
    · subst e1; by_cases e2 : q = j
      · subst e2; simp
      · simp [e2]
    · simp [e1]
theorem Same.rng (h : Same D D' 0 n) (hr : Rng D n) : Rng D' n := fun i hi => by
  obtain ⟨j, _, j2, e⟩ := h.2.1 i (Nat.zero_le _) hi
  rw [e]; exact hr j j2
end
set_option maxHeartbeats 3200000 in
theorem c_swapRange (g n c : Nat) (w0 : World) (gf : Nat) (lb : Array Value) (a b k : Nat) (D : Nat → Int) (w : World) (hn : n ≤ 1048576) (hc : n ≤ c) (hcm : c ≤ 9223372036854775807)
    (hs : St w0 w 2 g n D) (ha : a + k ≤ n) (hb : b + k ≤ n) (hd : a + k ≤ b ∨ b + k ≤ a) :
    Calls Try.prog 141 #[.slice (some ⟨g, 0, none⟩) n c, .int .i64 a, .int .i64 b, .int .i64 k, .func (.func gf) #[] lb] w fun e w' => e = .returned (.tuple #[]) ∧ St w0 w' 2 g n (swR D a b k) := by
  have HS := Lib.hid hs
  clear hs
  go_enter Try.func141, Try.ntmps141
  go_wp2
  go_loopw [10] (fun u wr => ∃ i : Nat, i ≤ k ∧ u = .int .i64 i ∧ Hid (St w0 wr 2 g n (swR D a b i))) (fun u _ => k - (intOf u).toNat)
  case atStart => exact ⟨0, Nat.zero_le _, rfl, (by show St _ _ _ _ _ _; rw [swR_zero]; exact HS.out)⟩
  case round =>
    obtain ⟨i, hi, rfl, hst⟩ := hrel
    by_cases hlt : i < k
    · have c1 := hst.out.cell (show a + i < n by omega)
      have c2 := hst.out.cell (show b + i < n by omega)
      have f1 := hst.out.frozen (a + i)
      have f2 := hst.out.frozen (b + i)
      have hlt' := hst.out.lt
      have HN := Lib.hid (hst.out.sw (show a + i < n by omega) (show b + i < n by omega))
      have i1 : IntKind.i64.wrap ((a : Int) + (i : Int)) = (a : Int) + i := IntWalk.i64_in _ (by omega)
      have i2 : IntKind.i64.wrap ((b : Int) + (i : Int)) = (b : Int) + i := IntWalk.i64_in _ (by omega)
      have i3 : (0 : Int) ≤ (a : Int) + i := by omega
      have i4 : (a : Int) + i < (n : Int) := by omega
      have i5 : (0 : Int) ≤ (b : Int) + i := by omega
      have i6 : (b : Int) + i < (n : Int) := by omega
      have t1 : ((a : Int) + i).toNat = a + i := by omega
      have t2 : ((b : Int) + i).toNat = b + i := by omega
      go_wp2
      go_region
      go_wp2
      go_roundw
      case rel => exact ⟨i + 1, by omega, by go_num, (by show St _ _ _ _ _ _; rw [← swR_succ (by omega)]; exact HN.out.drew)⟩
      case measure => simp [intOf]; omega
    · have hik : i = k := by omega
      subst hik
      go_wp2
      go_end0
      exact ⟨rfl, hst.out⟩
end Go.Proofs.Ytenjcdhehjdeoaa.Srt
