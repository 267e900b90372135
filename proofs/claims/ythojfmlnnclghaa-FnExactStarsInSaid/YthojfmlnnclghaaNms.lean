/- The names in a list of estimates, in order, each once. -/
import Derived.Test.YthojfmlnnclghaaStS
import Derived.Test.YthojfmlnnclghaaChoE
import Derived.Sort.OwnSorted
import Derived.Lib.RowBridge
namespace Go.Proofs.Ythojfmlnnclghaa.Nms
set_option linter.unusedVariables false
set_option linter.unusedSimpArgs false
set_option maxRecDepth 8000
open Go.RowKit Go.Shelf Go.Sort Plain Num View Idx Est Name Es1 ChoE StS

/-- the names of the first n -/
def nmL (n : Nat) (E : Nat → E5) : List (List UInt8) := (List.range n).map fun i => (E i).s.data.toList
theorem nmL_len (n : Nat) (E : Nat → E5) : (nmL n E).length = n := by simp [nmL]
theorem nmL_snoc (n : Nat) (E : Nat → E5) : nmL (n + 1) E = nmL n E ++ [(E n).s.data.toList] := by simp [nmL, List.range_succ]
theorem enc_s (s : ByteArray) : encStr s.data.toList = .string s := by simp [encStr]
theorem own_snocS {w : World} {B : Nat} {T : TypeId} {v : Value} {k : Nat} {E : Nat → E5} (h : w.ownsRow B T 1 v (k + 1) ((nmL k E).map encStr ++ [.string (E k).s])) : w.ownsRow B T 1 v (k + 1) ((nmL (k + 1) E).map encStr) := by
  rw [nmL_snoc, List.map_append]
  simpa [enc_s] using h
/-- a list of strings as a table -/
def leS (L : List (List UInt8)) : Nat → ByteArray := fun i => ⟨(L.getD i []).toArray⟩
theorem encL_at (L : List (List UInt8)) : ∀ i, i < L.length → ∀ j, j < 1 → (L.map encStr)[i * 1 + j]? = some (fS (leS L) i j) := by
  intro i hi j hj
  obtain rfl : j = 0 := by omega
  simp [fS, leS, encStr, hi]
def srtS (L : List (List UInt8)) : List (List UInt8) := L.mergeSort fun x y => decide (x ≤ y)
theorem srtS_len (L : List (List UInt8)) : (srtS L).length = L.length := by simp [srtS]
theorem own_short {w : World} {B g n m cap : Nat} {T : TypeId} {xs : List Value} (h : w.ownsRow B T 1 (.slice (some ⟨g, 0, none⟩) n cap) n xs) (hm : m ≤ n) : w.ownsRow B T 1 (.slice (some ⟨g, 0, none⟩) m cap) m (xs.take m) := by
  obtain ⟨hl, ⟨h0, _⟩ | ⟨g', cap', cur, he, hb, hg, h1, h2, h3, h4⟩⟩ := h
  · simp at h0
  · simp only [Value.slice.injEq, Option.some.injEq, Addr.mk.injEq, and_true, true_and] at he
    obtain ⟨rfl, rfl⟩ := he
    refine ⟨by simp [hl]; omega, .inr ⟨g, cap, cur, rfl, hb, hg, by omega, h2, h3, ?_⟩⟩
    rw [← h4, List.take_take]
    congr 1
    omega
theorem below_grown' {w w' : World} {B : Nat} {a : World} {g : Nat} (hb : Below B a w) (hB : B ≤ w.heap.size) (hg : w.grownBy w' (some g)) (h : B ≤ g) : Below B a w' := hb.grown hg hB (fun j hj => by cases hj; exact h)
theorem c_starOf (e : E5) (w : World) : Calls Try.prog 38 #[est e] w fun r w' => r = .returned (.string e.s) ∧ Below w.heap.size w w' := by
  obtain ⟨t, s, o, m, b⟩ := e
  simp only [est]
  go_enter Try.func38, Try.ntmps38
  go_wp2
  go_ret
  exact ⟨rfl, (by repeat' (first | (with_reducible exact Below.refl _ _) | (with_reducible assumption) | (with_reducible refine Base.grow_alloc ?_ _) | (with_reducible refine Base.below_drewN ?_ _) | (with_reducible refine Below.drew ?_) | (with_reducible refine Below.setCell ?_ ?_ _) | go_size))⟩
theorem infoStr : (Try.prog.info? 9).map (fun i => (i.zero, i.size, i.bytes)) = some (some (.string ⟨#[]⟩), 1, 16) := by kernel_rfl
set_option maxHeartbeats 1600000 in
theorem c_namesOf (A : Option Addr) (n c : Nat) (E : Nat → E5) (w : World) (hv : Sl w 5 A n c (f5 E)) :
    Calls Try.prog 37 #[.slice A n c, .func (.func 38) #[] #[]] w fun e w' => ∃ v, e = .returned v ∧ OwnK w' w.heap.size 9 1 v (Lib.compact (srtS (nmL n E))).length (fS (leS (Lib.compact (srtS (nmL n E))))) ∧ Below w.heap.size w w' := by
  have hn := hv.le
  obtain ⟨i0, hi0, hz0, hz1, hz2⟩ := info_parts infoStr
  go_enter Try.func37, Try.ntmps37
  go_wp2
  go_loopw [5, 7, 11] (fun v _ i wr => ∃ k : Nat, k ≤ n ∧ i = .int .i64 k ∧ wr.ownsRow w.heap.size 9 1 v k ((nmL k E).map encStr) ∧ Below w.heap.size w wr) (fun _ _ i _ => n - (intOf i).toNat)
  case atStart => exact ⟨0, Nat.zero_le _, rfl, World.ownsRow_made _ _ _ (by omega) (by simp [maxLen]) rfl, (by repeat' (first | (with_reducible exact Below.refl _ _) | (with_reducible assumption) | (with_reducible refine Base.grow_alloc ?_ _) | (with_reducible refine Base.below_drewN ?_ _) | (with_reducible refine Below.drew ?_) | (with_reducible refine Below.setCell ?_ ?_ _) | go_size))⟩
  case round =>
    obtain ⟨k, hk, rfl, hown, hbr⟩ := hrel
    have hz := hbr.size
    by_cases hlt : k < n
    · obtain ⟨b, off, rfl, hb, hc⟩ := (hv.below hbr).at_ (by omega)
      obtain ⟨h0, h1, h2, h3, h4⟩ := cells5 hc k hlt
      have HCA : Hid (∀ W : World, Calls Try.prog 38 #[.agg #[.int .i64 (E k).t, .string (E k).s, .string (E k).o, .int .i64 (E k).m, .bool (E k).b]] W fun e w' => e = .returned (.string (E k).s) ∧ Below W.heap.size W w') := Lib.hid (fun W => c_starOf (E k) W)
      have hll := nmL_len k E
      clear hc
      go_wp2_with (first | (go_at_call 38; refine (HCA.out _).mono ?_; rintro e w1 ⟨rfl, hb1⟩; have zz := hb1.size; (try simp at zz)) | (at_builtin; refine wpList_append_own _ rfl _ _ 24 rfl (w.heap.size) 9 i0 _ 1 16 Try.underlying24 hi0 hz0 hz1 hz2 rfl (by decide) _ _ _ rfl (own_of_below hown (by repeat' (first | (with_reducible exact Below.refl _ _) | (with_reducible assumption) | (with_reducible refine Base.via hb1 ?_) | (with_reducible refine Base.grow_alloc ?_ _) | (with_reducible refine Base.below_drewN ?_ _) | (with_reducible refine Below.drew ?_) | (with_reducible refine Below.setCell ?_ ?_ _) | go_size))) ⟨_, 0, none⟩ 1 1 [.string (E k).s] rfl rfl (cell_newL _ [.string (E k).s] _ (by simp)) (by simp [Value.oneCell']) (by simp only [maxLen]; omega) (by omega) (by simp; omega) ?_))
      intro v' w2 hown' hgrow _
      have hb2 : Below w.heap.size w w2 := own_grow (by repeat' (first | (with_reducible exact Below.refl _ _) | (with_reducible assumption) | (with_reducible refine Base.via hb1 ?_) | (with_reducible refine Base.grow_alloc ?_ _) | (with_reducible refine Base.below_drewN ?_ _) | (with_reducible refine Below.drew ?_) | (with_reducible refine Below.setCell ?_ ?_ _) | go_size)) hown (Nat.le_refl _) hgrow
      clear hown hgrow
      go_wp2
      exact ⟨⟨k + 1, by omega, by go_num, own_snocS hown', hb2⟩, by simp [intOf]; omega⟩
    · have hkn : k = n := by omega
      subst hkn
      have hcl := Lib.compact_length_le (srtS (nmL k E))
      rw [srtS_len, nmL_len] at hcl
      have hll := nmL_len k E
      rcases hown.2 with ⟨rfl, hz0'⟩ | ⟨g, cap, cur, rfl, hbase, hgb, r1, r2, r3, r4⟩
      · subst hz0'
        have HN := Lib.hid (Try.slices_Sort_string_none none 0 wr)
        have HN2 := Lib.hid (Try.slices_Compact_string_empty none 0 wr)
        clear hown
        go_wp2_with (first | (go_at_call 67; refine HN.out.mono ?_; rintro e w' ⟨rfl, rfl⟩) | (go_at_call 68; refine HN2.out.mono ?_; rintro e w' ⟨rfl, rfl⟩))
        go_ret
        exact ⟨_, rfl, OwnK.zero (by omega), hbr⟩
      · have hgl : g < wr.heap.size := (Array.getElem?_eq_some_iff.1 hgb).1
        have hH : Holds encStr wr g 0 (nmL k E).toArray := holds_of_block hgb (by rw [hll]; simpa using r4)
        have HS := Lib.hid (by have := Try.slices_Sort_string g 0 cap (nmL k E) wr hH hgl (by omega); rw [hll] at this; exact this)
        clear hH r4 hown
        go_wp2_with (first | (go_at_call 67; refine HS.out.mono ?_; rintro e w2 ⟨rfl, nn, os, hw2⟩; replace hw2 := Lib.hid hw2))
        have h5 := ownsRow_sorted (w := wr) (n := nn) (os := os) (ss := nmL k E) (ts := srtS (nmL k E)) (by rw [srtS_len]) hbase hgb (by omega) r2 r3
        rw [hll] at h5
        have hg5 := grownBy_sorted (w := wr) (g := g) (n := nn) (os := os) (srtS (nmL k E)).toArray
        have e2 : w2 = grow (putRow encStr (Sort.ahead wr nn) g 0 (srtS (nmL k E)).toArray) os := hw2.out
        rw [← e2] at h5 hg5
        clear e2 hw2
        have hb2 : Below w.heap.size w w2 := below_grown' hbr (by omega) hg5 hbase
        rcases h5.2 with ⟨h6, _⟩ | ⟨g', cap', cur', he', hbase', hgb', q1, q2, q3, q4⟩
        · simp at h6
        · simp only [Value.slice.injEq, Option.some.injEq, Addr.mk.injEq, and_true, true_and] at he'
          obtain ⟨rfl, rfl⟩ := he'
          have hsl := srtS_len (nmL k E)
          rw [hll] at hsl
          have hH2 : Holds encStr w2 g 0 (srtS (nmL k E)).toArray := holds_of_block hgb' (by rw [hsl]; simpa using q4)
          have HC := Lib.hid (by have := Try.slices_Compact_string g 0 cap (srtS (nmL k E)) w2 hH2 (by omega) (by omega); rw [hsl] at this; exact this)
          clear hH2 q4 HS h5
          have hs2 : w.heap.size ≤ w2.heap.size := hb2.size
          generalize hM : Lib.compact (srtS (nmL k E)) = M at *
          go_wp2_with fail
          refine HC.out.mono ?_
          rintro e w3 ⟨rfl, qq, hw3⟩
          have h7 := ownsRow_sorted (w := w2) (n := qq) (os := #[]) (ss := srtS (nmL k E)) (ts := M ++ List.replicate (k - M.length) []) (by rw [hsl]; simp; omega) hbase' hgb' (by omega) q2 q3
          rw [hsl] at h7
          have hg7 := grownBy_sorted (w := w2) (g := g) (n := qq) (os := #[]) (M ++ List.replicate (k - M.length) []).toArray
          rw [grow_empty, ← hw3] at h7 hg7
          have h8 := own_short h7 hcl
          rw [List.map_append, List.take_append_of_le_length (by simp), List.take_of_length_le (by simp)] at h8
          clear hw3
          go_wp2
          go_ret
          rw [hM]
          exact ⟨.slice (some ⟨g, 0, none⟩) M.length cap, rfl, OwnK.of_own h8 (by omega) (encL_at M), below_grown' hb2 (by omega) hg7 hbase'⟩
end Go.Proofs.Ythojfmlnnclghaa.Nms
