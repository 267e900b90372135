/- A list of numbers, sorted into a new slice by the library. -/
import Derived.Test.YtenjcdhehjdeoaaSortP
import Derived.Test.YtenjcdhehjdeoaaList
import Derived.Test.YtenjcdhehjdeoaaHelp
import Derived.Lib.SlKeysI
import Derived.RangeFuncBox
import Derived.RangeFuncLeaves
import Derived.RangeFuncWrites
import Derived.OwnWalkIn
import Derived.TacticsInMore
import Derived.LoopNIn
import Derived.LoopIn
namespace Go.Proofs.Ytenjcdhehjdeoaa.Med
set_option linter.unusedVariables false
set_option linter.unusedSimpArgs false
set_option maxRecDepth 8000
open Go.RowKit Go.Shelf Go.Sort Plain View
attribute [local go_sem] Oper.semAt_some

theorem own_form {w : World} {B : Nat} {E : TypeId} {k n : Nat} {v : Value} {xs : List Value} (h : w.ownsRow B E k v n xs) (hv : v ≠ .slice none 0 0) : ∃ g c, v = .slice (some ⟨g, 0, none⟩) n c ∧ n ≤ c ∧ c ≤ 9223372036854775807 ∧ B ≤ g ∧ g < w.heap.size := by
  obtain ⟨hl, ⟨rfl, rfl⟩ | ⟨g, cap, cur, rfl, hg, hh, hnc, hcap, hsz, htake⟩⟩ := h
  · exact absurd rfl hv
  · exact ⟨g, cap, rfl, hnc, by simpa [maxLen] using hcap, hg, (Array.getElem?_eq_some_iff.1 hh).1⟩
def upto (T : Nat → Int) (k : Nat) : List Int := (List.range k).map T
theorem upto_succ (T : Nat → Int) (k : Nat) : upto T (k + 1) = upto T k ++ [T k] := by simp [upto, List.range_succ]
theorem upto_len (T : Nat → Int) (k : Nat) : (upto T k).length = k := by simp [upto]
set_option maxRecDepth 100000 in
set_option maxHeartbeats 2000000 in
theorem values1 (n : Nat) (hn : 1 ≤ n) (l Bs n₀ b off len cap : Nat) (T : Nat → Int) (hlen : len ≤ 1048576) (hb : b < n₀) (J Jx : List Int → World → Prop)
    (hY : ∀ pre x W, J pre W → pre.length < len → YieldAt Fence.wide (n - 1) Try.prog l #[.int .i64 x] W fun e W' =>
      (e = .returned (.bool true) ∧ J (pre ++ [x]) W' ∧ Below n₀ W W') ∨ (e = .returned (.bool false) ∧ Jx (pre ++ [x]) W'))
    (W : World) (hBs : W.cell? ⟨Bs, 0, none⟩ = some (.slice (some ⟨b, off, none⟩) len cap)) (hc : ∀ j, j < len → W.cell? ⟨b, off + j, none⟩ = some (.int .i64 (T j))) (h0 : J [] W) :
    CallsIn Fence.wide n Try.prog 113 #[.func (.yield l) #[] #[], .pointer (some ⟨Bs, 0, none⟩)] W fun e W' => (∃ v, e = .returned v) ∧
      ((∃ ys, ys = upto T len ∧ J ys W') ∨ (∃ pre, (∃ k, k ≤ len ∧ pre = upto T k) ∧ Jx pre W')) := by
  refine callsIn_of_wp Try.func113 rfl trivial ?_ rfl
  simp only [Try.ntmps113, List.size_toArray, List.length_cons, List.length_nil, Nat.reduceAdd, Nat.reduceSub, Array.replicate_succ, Array.replicate_zero, List.push_toArray, List.append_toArray, List.nil_append, List.cons_append]
  gi_wp2
  gi_loopw [7] (fun i wr => ∃ k : Nat, k ≤ len ∧ i = .int .i64 k ∧ J (upto T k) wr ∧ Below n₀ W wr)
    (fun i _ => len - (intOf i).toNat)
  case atStart => exact ⟨0, Nat.zero_le _, rfl, h0, Below.refl _ _⟩
  case round =>
    obtain ⟨k, hk, rfl, hJs, hnx⟩ := hrel
    by_cases hlt : k < len
    · have hcx := (hnx.cell (p := ⟨b, off + k, none⟩) hb).trans (hc k hlt)
      obtain ⟨fn, tmps, assign, body, hy, hR⟩ := hY _ (T k) wr hJs (by rw [upto_len]; exact hlt)
      gi_wp2
      refine hR.mono ?_
      rintro e W3 (⟨rfl, hJ3, hk3⟩ | ⟨rfl, hJx3⟩)
      · gi_wp2
        go_roundw
        case rel => exact ⟨k + 1, by omega, by go_num, by rw [upto_succ]; exact hJ3, hnx.trans hk3⟩
        case measure => simp [intOf]; omega
      · gi_wp2
        refine bodyPost_ret (results_none rfl _ _ _) rfl ?_
        exact ⟨⟨_, rfl⟩, .inr ⟨_, ⟨k + 1, by omega, (upto_succ _ _).symm⟩, hJx3⟩⟩
    · obtain rfl : k = len := by omega
      gi_wp2
      go_end0
      exact ⟨⟨_, rfl⟩, .inl ⟨_, rfl, hJs⟩⟩
set_option maxRecDepth 100000 in
set_option maxHeartbeats 1000000 in
theorem values1_nil (n : Nat) (l Bs : Nat) (J : List Int → World → Prop) (W : World) (hBs : W.cell? ⟨Bs, 0, none⟩ = some (.slice none 0 0)) (h0 : J [] W) :
    CallsIn Fence.wide n Try.prog 113 #[.func (.yield l) #[] #[], .pointer (some ⟨Bs, 0, none⟩)] W fun e W' => (∃ v, e = .returned v) ∧ J [] W' := by
  refine callsIn_of_wp Try.func113 rfl trivial ?_ rfl
  simp only [Try.ntmps113, List.size_toArray, List.length_cons, List.length_nil, Nat.reduceAdd, Nat.reduceSub, Array.replicate_succ, Array.replicate_zero, List.push_toArray, List.append_toArray, List.nil_append, List.cons_append]
  gi_wp2
  gi_loopw [7] (fun i wr => i = .int .i64 0 ∧ J [] wr) (fun _ _ => 0)
  case atStart => exact ⟨rfl, h0⟩
  case round =>
    obtain ⟨rfl, hJs⟩ := hrel
    gi_wp2
    go_end0
    exact ⟨⟨_, rfl⟩, hJs⟩
/-- what the iterator gives, one by one -/
theorem values_stops (n : Nat) (hn : 1 ≤ n) (Bs n₀ : Nat) (A : Option Addr) (len cap : Nat) (T : Nat → Int) (w : World) (hBs : Bs < w.heap.size) (hn₀ : n₀ ≤ w.heap.size)
    (hc : w.cell? ⟨Bs, 0, none⟩ = some (.slice A len cap)) (hlen : len ≤ 1048576) (hA : (A = none ∧ len = 0 ∧ cap = 0) ∨ ∃ b off, A = some ⟨b, off, none⟩ ∧ b < n₀ ∧ ∀ j, j < len → w.cell? ⟨b, off + j, none⟩ = some (.int .i64 (T j))) :
    SeqStopsK Fence.wide n Try.prog 113 #[.pointer (some ⟨Bs, 0, none⟩)] (fun x : Int => #[Value.int .i64 x]) (Below n₀) (fun ys => ys = upto T len) (fun pre => ∃ k, k ≤ len ∧ pre = upto T k) len w := fun l J Jx W hW _ _ hY h0 => by
  have hc' := (hW.cell (p := ⟨Bs, 0, none⟩) hBs).trans hc
  rcases hA with ⟨rfl, rfl, rfl⟩ | ⟨b, off, rfl, hb, hcs⟩
  · exact (values1_nil n l Bs J W hc' h0).mono fun e W' ⟨he, hj⟩ => ⟨he, .inl ⟨_, rfl, hj⟩⟩
  · exact values1 n hn l Bs n₀ b off len cap T hlen hb J Jx hY W hc' (fun j hj => (hW.cell (p := ⟨b, off + j, none⟩) (show b < w.heap.size by omega)).trans (hcs j hj)) h0
/-- between two rounds -/
def BoxOf (w0 : World) (Bs n₀ : Nat) (pre : List Int) (W : World) : Prop :=
  (∃ v, Boxed W Bs 24 v ∧ W.ownsRow n₀ 2 1 v pre.length (cellL pre) ∧ (v = .slice none 0 0 ↔ pre = [])) ∧ Below n₀ w0 W
theorem boxOf_own (w0 : World) (Bs n₀ B : Nat) (hn : n₀ ≤ w0.heap.size) (hB : n₀ ≤ B) : OwnFrom B (BoxOf w0 Bs n₀) := by
  refine OwnFrom.and (Own.from (fun s X Y row hs hg hr => ?_) _) (ownFrom_below hn hB)
  obtain ⟨v, hb, ho, hv⟩ := hs
  refine ⟨v, hb.kept hg (fun e => ?_), ho.kept hg ?_, hv⟩
  · obtain ⟨o, ho', hc⟩ := hr Bs e.symm
    rw [show X.heap[Bs]? = _ from hb] at ho'
    injection ho' with ho'
    subst ho'
    cases hc
  · rcases ho.2 with ⟨rfl, _⟩ | ⟨g, cap, cur, rfl, _, hgg, _⟩
    · exact .inl rfl
    · refine .inr fun e => ?_
      obtain ⟨o, ho', hc⟩ := hr g (by rw [← e]; rfl)
      rw [hgg] at ho'
      injection ho' with ho'
      subst ho'
      cases hc
set_option maxRecDepth 100000 in
set_option maxHeartbeats 2000000 in
theorem appendSeq (n : Nat) (hn : 3 ≤ n) (A : Option Addr) (len cap Bv : Nat) (T : Nat → Int) (w : World) (hv : Sl w 1 A len cap (f1 T)) (hA : A = none → len = 0 ∧ cap = 0) (hAs : ∀ a, A = some a → ∃ b off, a = ⟨b, off, none⟩ ∧ b < w.heap.size) (hBv : w.cell? ⟨Bv, 0, none⟩ = some (.slice A len cap)) :
    CallsIn Fence.wide n Try.prog 118 #[.slice none 0 0, .func (.func 113) #[] #[.pointer (some ⟨Bv, 0, none⟩)]] w fun e w' => ∃ v, e = .returned v ∧
      w'.ownsRow w.heap.size 2 1 v len (cellL (upto T len)) ∧ (v = .slice none 0 0 ↔ len = 0) ∧ Below w.heap.size w w' := by
  have h1 : 1 ≤ n := by omega
  have hlen := hv.le
  have hlB : Bv < w.heap.size := World.block_lt_of_cell? _ _ hBv
  obtain ⟨i0, hi0, hz0, hz1, hz2⟩ := info_parts Help.infoInt64
  refine callsIn_of_wp_marks Try.func118 rfl trivial ?_ rfl
  simp only [Try.ntmps118, List.size_toArray, List.length_cons, List.length_nil, Nat.reduceAdd, Nat.reduceSub, Array.replicate_succ, Array.replicate_zero, List.push_toArray, List.append_toArray, List.nil_append, List.cons_append]
  gi_wp2
  have bN := Boxed.new w 24 (.slice none 0 0)
  have hB0 : Below w.heap.size w (w.alloc (.cells #[.slice none 0 0] 24)) := (Below.refl _ w).alloc (Nat.le_refl _) _
  have hne : 24 ≠ 2 := by decide
  refine wpIn_rangeFunc_ownG rfl h1 (gf := 113) (lb := #[.pointer (some ⟨Bv, 0, none⟩)]) rfl trivial (enters_of Try.func113 (by kernel_rfl) rfl)
    (values_stops (n - 1) (by omega) Bv w.heap.size A len cap T _ (by simp; omega) (by simp) ((hB0.cell (p := ⟨Bv, 0, none⟩) hlB).trans hBv) hlen ?ints) belowK_t (belowK_b (by simp)) (Below.refl _ _) (fun _ => rfl)
    (BoxOf w w.heap.size w.heap.size) (fun _ _ _ => False) (boxOf_own w _ _ _ (Nat.le_refl _) (by simp)) (fun _ _ _ _ _ hs _ _ => hs)
    ⟨⟨_, bN, ⟨rfl, .inl ⟨rfl, rfl⟩⟩, by simp⟩, hB0⟩
    (fun x => { tmps := #[.slice none 0 0, .func (.func 113) #[] #[.pointer (some ⟨Bv, 0, none⟩)], .pointer (some ⟨w.heap.size, 0, none⟩), undef, .slice none 0 0, .int .i64 x, .func (.func 113) #[] #[.pointer (some ⟨Bv, 0, none⟩)], .int .i64 x, undef, undef, undef, undef, undef], defers := [] }) ?assign ?body ?done ?stop
  case ints =>
    rcases A with _ | a
    · obtain ⟨h2, h3⟩ := hA rfl
      exact .inl ⟨rfl, h2, h3⟩
    · obtain ⟨b, off, rfl, hb⟩ := hAs a rfl
      refine .inr ⟨b, off, rfl, hb, fun j hj => ?_⟩
      obtain ⟨b', off', e, _, hc⟩ := hv.at_ (by omega)
      injection e with e
      injection e with e1 e2
      subst e1; subst e2
      exact (hB0.cell (p := ⟨b, off + j, none⟩) hb).trans (cells1 hc j hj)
  case assign =>
    intro l x W K hK
    gi_wp2
    exact hK
  case body =>
    rintro l pre x W ⟨⟨v, hbx, hrow, _⟩, hB⟩ hpl
    have hcb := hbx.cell
    have hzW := hB.size
    have hbl := hbx.lt
    gi_wp2_with (first
      | (gi_at_builtin; refine wpListIn_append_own _ rfl _ _ 24 rfl w.heap.size 2 i0 (.int .i64 0) 1 8 Try.underlying24 hi0 hz0 hz1 hz2 rfl (by decide) _ _ _ rfl (hrow.alloc _) ⟨W.heap.size, 0, none⟩ 1 1 [.int .i64 x] rfl rfl (cell_one_new _ _ _) (by simp [Value.oneCell']) (by simp only [maxLen]; omega) (by omega) (by simp; omega) ?_))
    intro v' w3 hown' hg3 hnil3
    have hrow1 : (W.alloc (.cells #[.int .i64 x] 2)).ownsRow w.heap.size 2 1 v pre.length (cellL pre) := hrow.alloc _
    have hbx1 : Boxed (W.alloc (.cells #[.int .i64 x] 2)) w.heap.size 24 v := hbx.alloc _
    have hbx3 : Boxed w3 w.heap.size 24 v := hbx1.kept hg3 (hbx1.not_row hne hrow1)
    have hc3 := hbx3.cell
    have hf3 := hbx3.frozen
    have hne3 : v' ≠ .slice none 0 0 := by simpa using hnil3
    obtain ⟨g', cap', rfl, _, _, _, _⟩ := own_form hown' hne3
    have hk : KeepsOthers W (W.alloc (.cells #[.int .i64 x] 2)) := KeepsOthers.alloc _ _
    have hk2 : KeepsOthers (W.alloc (.cells #[.int .i64 x] 2)) w3 := KeepsOthers.of_grownBy hg3 (fun j o hj ho => by
      rcases hrow1.2 with ⟨rfl, _⟩ | ⟨g, cp, cur, rfl, _, hgg, _⟩
      · simp [Value.ownBlock] at hj
      · have : g = j := by simpa [Value.ownBlock] using hj
        subst this
        rw [hgg] at ho
        injection ho with ho
        subst ho
        rfl)
    have hB3 : Below w.heap.size W w3 := ((Below.refl w.heap.size W).alloc hzW _).grown hg3 (by simp; omega) (fun k e => (hrow1.lt k e).1)
    have hz3 := hB3.size
    gi_wp2
    refine ⟨((hk.trans hk2).trans (KeepsOthers.setCell _ _ _)).from _, hB3.setCell (p := ⟨w.heap.size, 0, none⟩) (Nat.le_refl _) _, ⟨_, hbx3.set _, ?_, by simp⟩, (hB.trans hB3).setCell (p := ⟨w.heap.size, 0, none⟩) (Nat.le_refl _) _⟩
    have h4 := hown'.kept (grownBy_setCell' w3 w.heap.size (.slice (some ⟨g', 0, none⟩) (pre.length + 1) cap')) (by
      have := hbx3.not_row hne hown'
      exact .inr (fun e => this e.symm))
    rw [cellL_snoc] at h4
    simpa using h4
  case done =>
    rintro D ys W hD rfl hI hK
    have hI2 := boxOf_own w w.heap.size w.heap.size w.heap.size (Nat.le_refl _) (Nat.le_refl _) _ W (W.putObj D (.deferred none)) (some D) hI (grownBy_putObj' W D _) (fun r e => by cases e; exact ⟨by simp at hD; omega, _, hK, rfl⟩)
    obtain ⟨⟨v, hbx, hrow, hv'⟩, hB⟩ := hI
    have hcb := hbx.cell
    gi_wp2
    refine ⟨by simp, .inl ⟨_, _, rfl, run_takeDeferred hK, ?_⟩⟩
    obtain ⟨⟨v2, hbx2, hrow2, hv2⟩, hB2⟩ := hI2
    have e : v2 = v := by
      have h5 : (W.putObj D (.deferred none)).cell? ⟨w.heap.size, 0, none⟩ = some v := cell_kept hcb (grownBy_putObj' W D (.deferred none)) (fun r e => by cases e; exact ⟨_, hK, rfl⟩)
      exact Option.some.inj (hbx2.cell.symm.trans h5)
    subst e
    have hv3 : v2 = .slice none 0 0 ↔ len = 0 := by
      rw [hv2]
      constructor
      · intro h; rw [← upto_len T len, h]; rfl
      · intro h; subst h; rfl
    exact ⟨_, results_tmp rfl _ _ _, v2, rfl, by rw [upto_len] at hrow2; exact hrow2, hv3, hB2⟩
  case stop =>
    rintro D c pre W _ _ h _
    exact h.elim
/-- the list in ascending order -/
def srt (n : Nat) (T : Nat → Int) : List Int := (upto T n).mergeSort (fun x y => decide (x ≤ y))
theorem srt_len (n : Nat) (T : Nat → Int) : (srt n T).length = n := by simp [srt, upto_len]
theorem of_wide {P : Program} {f : Nat} {args : Array Value} {w : World} {Q : Ending → World → Prop} (n : Nat) (h : CallsIn Fence.wide n P f args w Q) : Calls P f args w Q := (callsIn_wide (n := n)).1 h
theorem c_Values (A : Option Addr) (n c : Nat) (w : World) :
    Calls Try.prog 98 #[.slice A n c] w fun e w' => e = .returned (.func (.func 113) #[] #[.pointer (some ⟨w.heap.size, 0, none⟩)]) ∧ w' = w.alloc (.cells #[.slice A n c] 24) := by
  go_enter Try.func98, Try.ntmps98
  go_wp2
  go_ret
  exact ⟨rfl, rfl⟩
theorem c_Collect (A : Option Addr) (n c Bv : Nat) (T : Nat → Int) (w : World) (hv : Sl w 1 A n c (f1 T)) (hA : A = none → n = 0 ∧ c = 0) (hAs : ∀ a, A = some a → ∃ b off, a = ⟨b, off, none⟩ ∧ b < w.heap.size) (hBv : w.cell? ⟨Bv, 0, none⟩ = some (.slice A n c)) :
    Calls Try.prog 111 #[.func (.func 113) #[] #[.pointer (some ⟨Bv, 0, none⟩)]] w fun e w' => ∃ v, e = .returned v ∧
      w'.ownsRow w.heap.size 2 1 v n (cellL (upto T n)) ∧ (v = .slice none 0 0 ↔ n = 0) ∧ Below w.heap.size w w' := by
  have H := Lib.hid (of_wide 5 (appendSeq 5 (by omega) A n c Bv T w hv hA hAs hBv))
  clear hv hA hAs hBv
  go_enter Try.func111, Try.ntmps111
  go_wp2_with (first | (go_at_call 118; refine H.out.mono ?_; rintro e w' ⟨v, rfl, ho, hn, hb⟩))
  go_ret
  exact ⟨_, rfl, ho, hn, hb⟩
theorem c_Sorted (A : Option Addr) (n c Bv : Nat) (T : Nat → Int) (w : World) (hv : Sl w 1 A n c (f1 T)) (hA : A = none → n = 0 ∧ c = 0) (hAs : ∀ a, A = some a → ∃ b off, a = ⟨b, off, none⟩ ∧ b < w.heap.size) (hBv : w.cell? ⟨Bv, 0, none⟩ = some (.slice A n c)) :
    Calls Try.prog 97 #[.func (.func 113) #[] #[.pointer (some ⟨Bv, 0, none⟩)]] w fun e w' => ∃ v, e = .returned v ∧ OwnK w' w.heap.size 2 1 v n (f1 (lf (srt n T))) ∧ Below w.heap.size w w' := by
  have hlen := hv.le
  have H := Lib.hid (c_Collect A n c Bv T w hv hA hAs hBv)
  clear hv hA hAs hBv
  go_enter Try.func97, Try.ntmps97
  go_wp2_with (first | (go_at_call 111; refine H.out.mono ?_; rintro e w1 ⟨v, rfl, ho, hn, hb⟩))
  rcases ho.2 with ⟨rfl, hz⟩ | ⟨g, cap, cur, rfl, hbase, hgb, r1, r2, r3, r4⟩
  · subst hz
    have HN := Lib.hid (AnyM.slices_Sort_int_none Try.laysSort none 0 w1)
    go_wp2_with (first | (go_at_call 112; refine HN.out.mono ?_; rintro e w' ⟨rfl, rfl⟩))
    go_ret
    exact ⟨_, rfl, OwnK.none _ _ _ _ _, hb⟩
  · have hl := upto_len T n
    have hH : Holds encZ w1 g 0 (upto T n).toArray := holds_of_block_i hgb (by rw [hl]; simpa [cellL] using r4)
    have hgl : g < w1.heap.size := (Array.getElem?_eq_some_iff.1 hgb).1
    have HS := Lib.hid (by have := AnyM.slices_Sort_int Try.laysSort g 0 cap (upto T n) w1 hH hgl (by omega); rw [hl] at this; exact this)
    clear hH r4
    go_wp2_with (first | (go_at_call 112; refine HS.out.mono ?_; rintro e w' ⟨rfl, nn, os, rfl⟩))
    go_ret
    have h5 := ownsRow_sorted_i (w := w1) (n := nn) (os := os) (ss := upto T n) (ts := srt n T) (by rw [srt_len, hl]) hbase hgb (by omega) r2 r3
    rw [hl] at h5
    refine ⟨_, rfl, OwnK.of_own h5 (by omega) (fun i hi j hj => ?_), hb.grown (grownBy_sorted_i _) hb.size (fun j hj => by cases hj; exact hbase)⟩
    exact cellL_at (srt n T) i (by rw [srt_len]; exact hi) j hj
end Go.Proofs.Ytenjcdhehjdeoaa.Med
