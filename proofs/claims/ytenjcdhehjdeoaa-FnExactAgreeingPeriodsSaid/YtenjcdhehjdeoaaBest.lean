/- The dispersions for all periods of a search; the period with the least. -/
import Derived.Test.YtenjcdhehjdeoaaTheta
import Derived.Test.YtenjcdhehjdeoaaPer
import Derived.Test.YtenjcdhehjdeoaaHelp
namespace Go.Proofs.Ytenjcdhehjdeoaa.Best
set_option linter.unusedVariables false
set_option linter.unusedSimpArgs false
set_option maxRecDepth 8000
open Go.RowKit Plain Num View Mags Curve Curve2 Bins DisB Frac Disp Eph Per

def askC (n : Nat) (T M : Nat → Int) (f t s b : Int) : Int := if (okCurve n T M && okSearch f t s) = true then (if inB b 1 20 = true then (if 40 < n then 5 else 0) else 2) else 1
theorem ask_cases (n : Nat) (T M : Nat → Int) (f t s b : Int) : (okCurve n T M = true ∧ okSearch f t s = true ∧ inB b 1 20 = true ∧ n ≤ 40 ∧ askC n T M f t s b = 0) ∨ (okCurve n T M = true ∧ okSearch f t s = true ∧ inB b 1 20 = true ∧ 40 < n ∧ askC n T M f t s b = 5) ∨ (okCurve n T M = true ∧ okSearch f t s = true ∧ inB b 1 20 = false ∧ askC n T M f t s b = 2) ∨ (okCurve n T M = true ∧ okSearch f t s = false ∧ askC n T M f t s b = 1) ∨ (okCurve n T M = false ∧ askC n T M f t s b = 1) := by
  unfold askC
  cases h1 : okCurve n T M <;> cases h2 : okSearch f t s <;> cases h3 : inB b 1 20 <;> by_cases h4 : 40 < n <;> simp [h4] <;> omega
set_option maxHeartbeats 800000 in
theorem c_searchBins (A : Option Addr) (n c : Nat) (T M : Nat → Int) (f t s b : Int) (w : World) (hv : Sl w 2 A n c (f2 T M)) :
    Calls Try.prog 92 #[.slice A n c, .agg #[.int .i64 f, .int .i64 t, .int .i64 s], .int .i64 b] w fun e w' => e = .returned (.int .i64 (askC n T M f t s b)) ∧ Below w.heap.size w w' := by
  have hn := hv.le
  rcases ask_cases n T M f t s b with ⟨h1, h2, h3, h4, hc⟩ | ⟨h1, h2, h3, h4, hc⟩ | ⟨h1, h2, h3, hc⟩ | ⟨h1, h2, hc⟩ | ⟨h1, hc⟩
  all_goals
    have HC := Lib.hid hc
    clear hc
    go_enter Try.func92, Try.ntmps92
    go_wp2_with (first | (go_at_call 46; refine (c_ValidCurve _ _ _ T M _ (hv.below (by repeat' (first | (with_reducible exact Below.refl _ _) | (with_reducible assumption) | (with_reducible refine Base.grow_alloc ?_ _) | (with_reducible refine Base.below_drewN ?_ _) | (with_reducible refine Below.drew ?_) | (with_reducible refine Below.setCell ?_ ?_ _) | go_size)))).mono ?_; rintro e w1 ⟨rfl, hb1⟩; obtain ⟨chb1, fhb1⟩ := Base.bcell hb1; have zhb1 := (hb1).size; (try simp at zhb1); (try have yhb1 : w.heap.size < (w1).heap.size := by omega)) | (go_at_call 73; refine (c_ValidSearch f t s _).mono ?_; rintro e w2 ⟨rfl, hb2⟩; obtain ⟨chb2, fhb2⟩ := Base.bcell hb2; have zhb2 := (hb2).size; (try simp at zhb2); (try have yhb2 : w.heap.size < (w2).heap.size := by omega)) | (go_at_call 47; refine (c_in _ _ _ _).mono ?_; rintro e w' ⟨rfl, rfl⟩))
    go_ret
    exact ⟨ret_int HC.out.symm, (by repeat' (first | (with_reducible exact Below.refl _ _) | (with_reducible assumption) | (with_reducible refine Base.via hb2 ?_) | (with_reducible refine Base.via hb1 ?_) | (with_reducible refine Base.grow_alloc ?_ _) | (with_reducible refine Base.below_drewN ?_ _) | (with_reducible refine Below.drew ?_) | (with_reducible refine Below.setCell ?_ ?_ _) | go_size))⟩
set_option maxHeartbeats 800000 in
theorem c_l11Ask (A : Option Addr) (n c : Nat) (T M : Nat → Int) (f t s b : Int) (w : World) (hv : Sl w 2 A n c (f2 T M)) :
    Calls Try.prog 74 #[.slice A n c, .agg #[.int .i64 f, .int .i64 t, .int .i64 s], .int .i64 b] w fun e w' => e = .returned (.int .i64 (askC n T M f t s b)) ∧ Below w.heap.size w w' := by
  have hn := hv.le
  rcases ask_cases n T M f t s b with ⟨h1, h2, h3, h4, hc⟩ | ⟨h1, h2, h3, h4, hc⟩ | ⟨h1, h2, h3, hc⟩ | ⟨h1, h2, hc⟩ | ⟨h1, hc⟩
  all_goals
    have HC := Lib.hid hc
    clear hc
    go_enter Try.func74, Try.ntmps74
    go_wp2_with (first | (go_at_call 41; refine (c_l08Ok _ _ _ T M _ (hv.below (by repeat' (first | (with_reducible exact Below.refl _ _) | (with_reducible assumption) | (with_reducible refine Base.grow_alloc ?_ _) | (with_reducible refine Base.below_drewN ?_ _) | (with_reducible refine Below.drew ?_) | (with_reducible refine Below.setCell ?_ ?_ _) | go_size)))).mono ?_; rintro e w1 ⟨rfl, hb1⟩; obtain ⟨chb1, fhb1⟩ := Base.bcell hb1; have zhb1 := (hb1).size; (try simp at zhb1); (try have yhb1 : w.heap.size < (w1).heap.size := by omega)) | (go_at_call 70; refine (c_l10Ok f t s _).mono ?_; rintro e w2 ⟨rfl, hb2⟩; obtain ⟨chb2, fhb2⟩ := Base.bcell hb2; have zhb2 := (hb2).size; (try simp at zhb2); (try have yhb2 : w.heap.size < (w2).heap.size := by omega)) | (go_at_call 42; refine (c_l00In _ _ _ _).mono ?_; rintro e w' ⟨rfl, rfl⟩))
    go_ret
    exact ⟨ret_int HC.out.symm, (by repeat' (first | (with_reducible exact Below.refl _ _) | (with_reducible assumption) | (with_reducible refine Base.via hb2 ?_) | (with_reducible refine Base.via hb1 ?_) | (with_reducible refine Base.grow_alloc ?_ _) | (with_reducible refine Base.below_drewN ?_ _) | (with_reducible refine Below.drew ?_) | (with_reducible refine Below.setCell ?_ ?_ _) | go_size))⟩
theorem per_bd {f t s : Int} (h : okSearch f t s = true) (k : Nat) (hk : k < perN f t s) : 1 ≤ perF f s k ∧ perF f s k ≤ 1000000 := by
  obtain ⟨b1, b2, b3, _⟩ := okSearch_bd h
  obtain ⟨_, _, p3⟩ := perN_ok h
  have h1 := (p3 k).1.1 hk
  have h2 := (p3 k).2 (by omega)
  omega
/-- the dispersions as a table -/
def dsN (n : Nat) (T M : Nat → Int) (f s b : Int) (i : Nat) : Int := disN n T M (perF f s i) b
def dsD (n : Nat) (T M : Nat → Int) (f s b : Int) (i : Nat) : Int := disD n T M (perF f s i) b
def dsL (n : Nat) (T M : Nat → Int) (f t s b : Int) : Nat := if askC n T M f t s b = 0 then perN f t s else 0
def dsP (n : Nat) (T M : Nat → Int) (f s b : Int) (i : Nat) : Int × Int := (dsN n T M f s b i, dsD n T M f s b i)
theorem lp_all {k : Nat} {g : Nat → Int × Int} {i : Nat} (hi : i < k) : lp1 (sel k all1 g) i = (g i).1 ∧ lp2 (sel k all1 g) i = (g i).2 := by
  rw [lp1, lp2, sel_all_get hi]
  exact ⟨rfl, rfl⟩
theorem OwnK.of_allP {w : World} {B : Nat} {E : TypeId} {v : Value} {k : Nat} {g : Nat → Int × Int} {a b : Nat → Int} (h : w.ownsRow B E 2 v (sel k all1 g).length (cellP (sel k all1 g))) (hn : k ≤ 1048576) (ha : ∀ i, i < k → (g i).1 = a i) (hb : ∀ i, i < k → (g i).2 = b i) : OwnK w B E 2 v k (f2 a b) := by
  have h2 := OwnK.of_listP h (by rw [sel_all_len]; exact hn)
  rw [sel_all_len] at h2
  exact h2.congr (fun i hi j _ => by simp only [f2]; rw [(lp_all hi).1, (lp_all hi).2, ha i hi, hb i hi])
theorem ret_o {v : Value} {a b : Int} (h : a = b) : Ending.returned (.tuple #[v, .int .i64 a]) = Ending.returned (.tuple #[v, .int .i64 b]) := by rw [h]
theorem sl_kept {W W' : World} {k n c : Nat} {A : Option Addr} {f : Nat → Nat → Value} {v : Value} (V : Sl W k A n c f) (hne : ∀ a, A = some a → v.ownBlock ≠ some a.block) (hg : W.grownBy W' v.ownBlock) : Sl W' k A n c f :=
  V.grown hg (fun b hb => .inr (fun a e e2 => hne a e (by rw [hb, ← e2])))
theorem ne_next {A : Option Addr} {v v' : Value} {H : Nat} (hat : v'.ownBlock = v.ownBlock ∨ v'.ownBlock = some H) (hlt : ∀ a, A = some a → a.block < H) (hne : ∀ a, A = some a → v.ownBlock ≠ some a.block) : ∀ a, A = some a → v'.ownBlock ≠ some a.block := by
  intro a e e2
  rcases hat with h | h
  · exact hne a e (by rw [← h, e2])
  · rw [e2] at h
    have := Option.some.inj h
    have := hlt a e
    omega
theorem infoF : (Try.prog.info? 93).map (fun i => (i.zero, i.size, i.bytes)) = some (some (.agg #[.int .i64 0, .int .i64 0]), 2, 16) := by kernel_rfl
end Go.Proofs.Ytenjcdhehjdeoaa.Best
