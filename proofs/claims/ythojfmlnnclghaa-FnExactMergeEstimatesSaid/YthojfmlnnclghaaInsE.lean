/- One estimate more in a row of the call's own: the library's slices.Insert at estimates. -/
import Derived.Test.YthojfmlnnclghaaSrE
import Derived.Test.YthojfmlnnclghaaCpK
import Derived.Lib.AppendZerosOnto
import Derived.Lib.Overlaps
import Derived.Lib.JoinLaws
import Derived.Laws.Externs
import Derived.Laws.NewBlocks
namespace Go.Proofs.Ythojfmlnnclghaa.InsE
set_option linter.unusedVariables false
set_option linter.unusedSimpArgs false
set_option maxRecDepth 8000
open Go.RowKit Go.Shelf Go.Lib Plain Num View Est Name Es1 ChoE SrE CpK

theorem one_vals (e : E5) : ∀ u ∈ vals e, u.oneCell' = true := by simp [vals, Value.oneCell']
theorem one_E (L : List E5) : ∀ u ∈ cellE L, u.oneCell' = true := by
  intro u hu
  obtain ⟨e, _, h⟩ := List.mem_flatMap.1 hu
  exact one_vals e u h
theorem cellE_app (L M : List E5) : cellE (L ++ M) = cellE L ++ cellE M := by simp [cellE]
theorem cellE_one (e : E5) : cellE [e] = vals e := by simp [cellE]
theorem cellE_ins (L : List E5) (K : Nat) (e : E5) : cellE (insL L K e) = cellE (L.take K) ++ vals e ++ cellE (L.drop K) := by
  rw [insL, cellE_app, cellE_app, cellE_one]
theorem cellE_split (L : List E5) (K : Nat) : cellE L = cellE (L.take K) ++ cellE (L.drop K) := by
  rw [← cellE_app, List.take_append_drop]
theorem vals_len (e : E5) : (vals e).length = 5 := rfl
theorem own_get {w : World} {B g n cap : Nat} {T : TypeId} {L : List E5} (h : w.ownsRow B T 5 (.slice (some ⟨g, 0, none⟩) n cap) n (cellE L)) :
    ∃ cur : List Value, w.heap[g]? = some (.cells cur.toArray T (0, 0)) ∧ B ≤ g ∧ n ≤ cap ∧ cap ≤ 9223372036854775807 ∧ cur.length = cap * 5 ∧ cur.take (n * 5) = cellE L := by
  obtain ⟨_, ⟨h0, _⟩ | ⟨g', cap', cur, e, hb, hg, h1, h2, h3, h4⟩⟩ := h
  · simp at h0
  · simp only [Value.slice.injEq, Option.some.injEq, Addr.mk.injEq, and_true, true_and] at e
    obtain ⟨rfl, rfl⟩ := e
    exact ⟨cur.toList, by simpa using hg, hb, h1, by simpa [maxLen] using h2, by simpa using h3, h4⟩
theorem own_put {w : World} {B g n cap : Nat} {T : TypeId} {L : List E5} {cur : List Value} (hg : w.heap[g]? = some (.cells cur.toArray T (0, 0))) (hb : B ≤ g) (hn : n ≤ cap) (hc : cap ≤ 9223372036854775807) (hl : cur.length = cap * 5) (hL : L.length = n) (ht : cur.take (n * 5) = cellE L) :
    w.ownsRow B T 5 (.slice (some ⟨g, 0, none⟩) n cap) n (cellE L) :=
  ⟨by rw [cellE_len, hL], .inr ⟨g, cap, cur.toArray, rfl, hb, hg, hn, by simpa [maxLen] using hc, by simpa using hl, by simpa using ht⟩⟩
theorem cell_of_list {w : World} {g : Nat} {cur : List Value} {T : TypeId} (h : w.heap[g]? = some (.cells cur.toArray T (0, 0))) : ∀ (j : Nat) (u : Value), cur[j]? = some u → w.cell? ⟨g, j, none⟩ = some u := by
  intro j u hj
  unfold World.cell?
  rw [h]
  simpa using hj
theorem infoSz : (Try.prog.info? 51).map (·.size) = some 5 := by kernel_rfl
set_option maxHeartbeats 6400000 in
theorem c_InsertE (B g cap : Nat) (L : List E5) (K : Nat) (e : E5) (vb : Nat) (w : World) (hB : B ≤ w.heap.size) (hK : K ≤ L.length) (hL : L.length ≤ 1000) (ho : w.ownsRow B 51 5 (.slice (some ⟨g, 0, none⟩) L.length cap) L.length (cellE L)) (hvb : vb ≠ g) (hv : w.heap[vb]? = some (.cells (vals e).toArray 51 (0, 0))) :
    Calls Try.prog 64 #[.slice (some ⟨g, 0, none⟩) L.length cap, .int .i64 (K : Int), .slice (some ⟨vb, 0, none⟩) 1 1] w fun r w' => ∃ g' c', r = .returned (.slice (some ⟨g', 0, none⟩) (L.length + 1) c') ∧ w'.ownsRow B 51 5 (.slice (some ⟨g', 0, none⟩) (L.length + 1) c') (L.length + 1) (cellE (insL L K e)) ∧ Below B w w' := by
  obtain ⟨i0, hi0, hz0, hz1, hz2⟩ := info_parts infoEst
  obtain ⟨cur, hg, hBg, hnc, hc63, hcl, htk⟩ := own_get ho
  have HCV : Hid (∀ W : World, W.heap[vb]? = w.heap[vb]? → ∀ (j : Nat) (u : Value), (vals e)[j]? = some u → W.cell? ⟨vb, 0 + j, none⟩ = some u) := Lib.hid (fun W hW j u hj => by rw [Nat.zero_add]; exact cell_of_list (hW.trans hv) j u hj)
  have hgl : g < w.heap.size := (Array.getElem?_eq_some_iff.1 hg).1
  have hvl : vb < w.heap.size := (Array.getElem?_eq_some_iff.1 hv).1
  have HINS := Lib.hid (cellE_ins L K e)
  have HIL := Lib.hid (insL_len (e := e) hK)
  obtain ⟨n, hn⟩ : ∃ n, L.length = n := ⟨_, rfl⟩
  have HNL := Lib.hid hn
  rw [hn] at hK hL ho hnc htk HIL ⊢
  clear hn
  rcases Nat.lt_or_ge K n with hlt | hge
  · have HC1 : Hid ((cellE (L.take K)).length = K * 5) := Lib.hid (by rw [cellE_len, List.length_take, HNL.out]; rw [Nat.min_eq_left hK])
    have HC2 : Hid ((cellE (L.drop K)).length = (n - K) * 5) := Lib.hid (by rw [cellE_len, List.length_drop, HNL.out])
    have HCG : Hid (∀ W : World, W.heap[g]? = w.heap[g]? → ∀ (j : Nat) (u : Value), (cellE (L.drop K))[j]? = some u → W.cell? ⟨g, K * 5 + j, none⟩ = some u) := Lib.hid (fun W hW j u hj => by
      refine cell_of_list (hW.trans hg) _ u ?_
      have hjl : j < (cellE (L.drop K)).length := (List.getElem?_eq_some_iff.1 hj).1
      have h1 : (cur.take (n * 5))[K * 5 + j]? = cur[K * 5 + j]? := List.getElem?_take_of_lt (by rw [HC2.out] at hjl; omega)
      rw [← h1, htk, cellE_split L K, List.getElem?_append_right (by rw [HC1.out]; omega), HC1.out, Nat.add_sub_cancel_left]
      exact hj)
    rcases Nat.lt_or_ge n cap with hroom | hfull
    · have hcur : cur = cellE (L.take K) ++ cellE (L.drop K) ++ cur.drop (n * 5) := by rw [← cellE_split, ← htk, List.take_append_drop]
      have hRl : (vals e).length ≤ (cur.drop (n * 5)).length := by rw [vals_len, List.length_drop, hcl]; omega
      have HF : Hid (splice (splice cur ((K + 1) * 5) (cellE (L.drop K))) (K * 5) (vals e) = cellE (insL L K e) ++ (cur.drop (n * 5)).drop 5) := Lib.hid (by
        have h1 := splice_room (cellE (L.take K)) (cellE (L.drop K)) (cur.drop (n * 5)) (vals e) hRl
        rw [← hcur, HC1.out, vals_len, show K * 5 + 5 = (K + 1) * 5 by omega] at h1
        rw [h1, HINS.out])
      have HSL : Hid ((splice (splice cur ((K + 1) * 5) (cellE (L.drop K))) (K * 5) (vals e)).length = cap * 5) := Lib.hid (by
        rw [length_splice _ _ _ (by rw [length_splice _ _ _ (by rw [HC2.out, hcl]; omega), vals_len, hcl]; omega), length_splice _ _ _ (by rw [HC2.out, hcl]; omega), hcl])
      have HSL1 : Hid ((splice cur ((K + 1) * 5) (cellE (L.drop K))).length = cap * 5) := Lib.hid (by rw [length_splice _ _ _ (by rw [HC2.out, hcl]; omega), hcl])
      have HIN : Hid ((cellE (insL L K e)).length = (n + 1) * 5) := Lib.hid (by rw [cellE_len, HIL.out])
      have HG := Lib.hid hg
      have HCL := Lib.hid hcl
      have hov : ∀ off lb cb, (callFunc 83 #[.slice (some ⟨vb, 0, none⟩) 1 1, .slice (some ⟨g, off, none⟩) lb cb]).run Try.prog w = .ok (.value (.bool false)) w := fun off lb cb => by
        rw [run_callFunc_extern Try.func83 (by kernel_rfl) (by kernel_rfl) (by kernel_rfl) (e := Extern.SlicesOverlaps.overlaps #[27, 27] #[4]) (by kernel_rfl),
          Lib.run_overlaps_apart w 27 4 51 Try.underlying27 5 Try.sizeOf51 ⟨vb, 0, none⟩ ⟨g, off, none⟩ 1 1 lb cb hvb 51 51 5 (cap * 5) (by simp [World.shape?, hv, vals]) (by simp [World.shape?, hg, hcl]) (by omega) (by simp [World.frozen?, hv]) (by simp [World.frozen?, hv])]
        rfl
      have HM1 : Hid (n - K = Nat.min (n + 1 - K) (n - K)) := Lib.hid (by simp only [Nat.min_def]; split <;> omega)
      have HM2 : Hid (1 = Nat.min 1 (n + 1 - K)) := Lib.hid (by simp only [Nat.min_def]; split <;> omega)
      have HF1 : Hid ((K + 1) * 5 + (cellE (L.drop K)).length ≤ cur.length) := Lib.hid (by rw [HC2.out, HCL.out]; omega)
      have HF2 : Hid (K * 5 + (vals e).length ≤ (splice cur ((K + 1) * 5) (cellE (L.drop K))).length) := Lib.hid (by rw [HSL1.out, vals_len]; omega)
      have hz1 : ((K : Int) == (n : Int)) = false := by simp; omega
      have hw1 : IntKind.i64.wrap ((K : Int) + 1) = (K : Int) + 1 := IntWalk.i64_in _ (by omega)
      have hb1 : (0 : Int) ≤ (K : Int) + 1 := by omega
      have htn : ((K : Int) + 1).toNat = K + 1 := by omega
      have hb2 : ¬ (cap = K + 1) := by omega
      have hb3 : (K : Int) ≤ (n : Int) + 1 := by omega
      have hb4 : ¬ (cap = K) := by omega
      clear hg hcl htk ho hcur hRl
      have HONE := Lib.hid (one_E (L.drop K))
      generalize cellE (L.drop K) = C2 at *
      go_enter Try.func64, Try.ntmps64
      go_wp2_with (simp only [hov])
      go_region_law (refine step_copyK (by rfl) _ _ 27 27 (by rfl) 51 5 Try.underlying27 infoSz g ((K + 1) * 5) (n - K) (cap - (K + 1)) g (K * 5) (n + 1 - K) (cap - K) (by simp [Act.eval, Act.put]) (by simp [Act.eval, Act.put]) cur 51 (show w.heap[g]? = _ from HG.out) C2 (n - K) ((K + 1) * 5) (K * 5) HM1.out HC2.out rfl rfl (HCG.out _ rfl) HF1.out HONE.out B w ((Below.refl B w).drew) hBg ?_; intro w3 hg3 hb3 hs3; have HS3 := Lib.hid (HCV.out w3 (show w3.heap[vb]? = w.heap[vb]? from hs3 vb hvb)))
      go_wp2_with ((with_reducible refine wpList_copyK (o := ⟨some 82, _, _, _, _, _⟩) (by rfl) _ _ 27 27 (by rfl) 51 5 Try.underlying27 infoSz g (K * 5) (n + 1 - K) (cap - K) vb 0 1 1 (by simp [Act.eval, Act.put]) (by simp [Act.eval, Act.put]) (splice cur ((K + 1) * 5) C2) 51 hg3.out (vals e) 1 (K * 5) 0 HM2.out (vals_len e) rfl rfl HS3.out HF2.out (one_vals e) B w hb3 hBg ?_); intro w4 hg4 hb4 hs4)
      have HOUT := Lib.hid (own_put (B := B) (n := n + 1) (cap := cap) (L := insL L K e) hg4.out hBg (by omega) hc63 HSL.out HIL.out (by rw [HF.out, List.take_append_of_le_length (by rw [HIN.out]; exact Nat.le_refl _), List.take_of_length_le (by rw [HIN.out]; exact Nat.le_refl _)]))
      clear hg3 hg4 hb3 hs3 hs4 hw1 htn
      go_wp2
      go_ret
      exact ⟨g, cap, rfl, HOUT.out, hb4⟩
    · obtain rfl : cap = n := by omega
      obtain ⟨G, hGG⟩ : ∃ G, G = grownCap w (cap + 1) cap 51 := ⟨_, rfl⟩
      have hGn : cap + 1 ≤ G := by rw [hGG]; exact grownCap_ge w _ _ _
      have hG63 : G ≤ 9223372036854775807 := by
        have := grownCap_le_maxLen w (cap + 1) cap 51 (by unfold maxLen; omega)
        rw [← hGG] at this
        unfold maxLen at this
        omega
      have hz5 : (Value.agg #[.int .i64 0, .string ⟨#[]⟩, .string ⟨#[]⟩, .int .i64 0, .bool false]).cells.size = 5 := rfl
      have hold : (Builtin.firstCells i0.size K (.slice (some ⟨g, 0, none⟩) K cap)).run Try.prog w.drew = .ok (cellE (L.take K)).toArray w.drew := by
        rw [hz1]
        exact run_firstCells_some w.drew 5 K ⟨g, 0, none⟩ K cap (cellE (L.take K)) HC1.out (fun j v hj => by
          rw [Addr.add_lit, Nat.zero_add]
          refine cell_of_list (w := w.drew) (show w.heap[g]? = _ from hg) _ v ?_
          have hjl : j < (cellE (L.take K)).length := (List.getElem?_eq_some_iff.1 hj).1
          rw [HC1.out] at hjl
          have h1 : (cur.take (cap * 5))[j]? = cur[j]? := List.getElem?_take_of_lt (by omega)
          rw [← h1, htk, cellE_split L K, List.getElem?_append_left (by rw [HC1.out]; exact hjl)]
          exact hj)
      obtain ⟨Z1, hZ1⟩ : ∃ Z1, Z1 = (Builtin.zeroCells (Value.agg #[.int .i64 0, .string ⟨#[]⟩, .string ⟨#[]⟩, .int .i64 0, .bool false]).cells (cap + 1 - K)).toList := ⟨_, rfl⟩
      obtain ⟨Z2, hZ2⟩ : ∃ Z2, Z2 = (Builtin.zeroCells (Value.agg #[.int .i64 0, .string ⟨#[]⟩, .string ⟨#[]⟩, .int .i64 0, .bool false]).cells (G - (cap + 1))).toList := ⟨_, rfl⟩
      have hl1 : Z1.length = (cap + 1 - K) * 5 := by rw [hZ1, Array.length_toList, size_zeroCells, hz5]
      have hl2 : Z2.length = (G - (cap + 1)) * 5 := by rw [hZ2, Array.length_toList, size_zeroCells, hz5]
      have hkk : (cap : Int) + 1 - (K : Int) = ((cap + 1 - K : Nat) : Int) := by omega
      have hik : K + (cap + 1 - K) = cap + 1 := by omega
      obtain ⟨ROW, hROW⟩ : ∃ ROW, ROW = cellE (L.take K) ++ Z1 ++ Z2 := ⟨_, rfl⟩
      obtain ⟨w1, hw1'⟩ : ∃ w1, w1 = w.drew.alloc (.cells ROW.toArray 51) := ⟨_, rfl⟩
      have hrz : ∀ ty, (Builtin.append_ #[27, 3] ty #[.slice (some ⟨g, 0, none⟩) K cap, .int .i64 ((cap : Int) + 1 - (K : Int))]).run Try.prog w = .ok (.slice (some ⟨w.heap.size, 0, none⟩) (cap + 1) G) w1 := fun ty => by
        have h := Lib.run_append_grow_zeros w 27 3 ty 51 i0 _ .i64 .i64 Try.underlying27 Try.underlying3 hi0 hz0 (some ⟨g, 0, none⟩) K cap (cellE (L.take K)) hold (cap + 1 - K) (by omega) (by omega) (by omega) (by omega) (by rw [hz2]; omega) (by rw [hz2, hik]; exact growslice_fits (by omega) (by omega))
        rw [hik, ← hGG] at h
        have ee : ∀ (A : List Value) (X Y : Array Value), A.toArray ++ X ++ Y = (A ++ X.toList ++ Y.toList).toArray := fun A X Y => by apply Array.toList_inj.1; simp
        rw [hkk, h, hw1', hROW, hZ1, hZ2, ee]
      have hN1 : Hid (w1.heap[w.heap.size]? = some (.cells ROW.toArray 51 (0, 0))) := Lib.hid (by rw [hw1']; exact heap_alloc_new w.drew _)
      have hb1' : Below w.heap.size w w1 := by rw [hw1']; exact (by repeat' (first | (with_reducible exact Below.refl _ _) | (with_reducible assumption) | (with_reducible refine Base.grow_alloc ?_ _) | (with_reducible refine Base.below_drewN ?_ _) | (with_reducible refine Below.drew ?_) | (with_reducible refine Below.setCell ?_ ?_ _) | go_size))
      have HFN : Hid (splice (splice ROW (K * 5) (vals e)) ((K + 1) * 5) (cellE (L.drop K)) = cellE (insL L K e) ++ Z2) := Lib.hid (by
        have h1 := splice_new (cellE (L.take K)) Z1 Z2 (cellE (L.drop K)) (vals e) (by rw [hl1, vals_len, HC2.out]; omega)
        rw [HC1.out, vals_len, show K * 5 + 5 = (K + 1) * 5 by omega, ← hROW] at h1
        rw [h1, HINS.out])
      have hRL : ROW.length = G * 5 := by rw [hROW, List.length_append, List.length_append, HC1.out, hl1, hl2]; omega
      have HSL1 : Hid ((splice ROW (K * 5) (vals e)).length = G * 5) := Lib.hid (by rw [length_splice _ _ _ (by rw [vals_len, hRL]; omega), hRL])
      have HSL : Hid ((splice (splice ROW (K * 5) (vals e)) ((K + 1) * 5) (cellE (L.drop K))).length = G * 5) := Lib.hid (by
        rw [length_splice _ _ _ (by rw [HC2.out, length_splice _ _ _ (by rw [vals_len, hRL]; omega), hRL]; omega), length_splice _ _ _ (by rw [vals_len, hRL]; omega), hRL])
      have HIN : Hid ((cellE (insL L K e)).length = (cap + 1) * 5) := Lib.hid (by rw [cellE_len, HIL.out])
      have HM1 : Hid (cap - K = Nat.min (cap - K) (cap - K)) := Lib.hid (by simp [Nat.min_def])
      have HM2 : Hid (1 = Nat.min 1 (cap + 1 - K)) := Lib.hid (by simp only [Nat.min_def]; split <;> omega)
      have HFA : Hid (K * 5 + (vals e).length ≤ ROW.length) := Lib.hid (by rw [vals_len, hRL]; omega)
      have HFB : Hid ((K + 1) * 5 + (cellE (L.drop K)).length ≤ (splice ROW (K * 5) (vals e)).length) := Lib.hid (by rw [HSL1.out, HC2.out]; omega)
      have HONE := Lib.hid (one_E (L.drop K))
      have HBL := Lib.hid hb1'
      have hvbN : vb ≠ w.heap.size := by omega
      have hgN : g ≠ w.heap.size := by omega
      have hz1' : ((K : Int) == (cap : Int)) = false := by simp; omega
      have hw1 : IntKind.i64.wrap ((K : Int) + 1) = (K : Int) + 1 := IntWalk.i64_in _ (by omega)
      have hb1 : (0 : Int) ≤ (K : Int) + 1 := by omega
      have htn : ((K : Int) + 1).toNat = K + 1 := by omega
      have hb2 : ¬ (G = K + 1) := by omega
      have hb3 : ¬ (G = K) := by omega
      have hb4 : ¬ (cap = K) := by omega
      have hb5 : (K : Int) ≤ (cap : Int) := by omega
      have HWV : Hid (w1.heap[vb]? = w.heap[vb]?) := Lib.hid (hb1'.block vb hvl)
      have HS1 := Lib.hid (HCV.out w1 (hb1'.block vb hvl))
      have HWG : Hid (w1.heap[g]? = w.heap[g]?) := Lib.hid (hb1'.block g hgl)
      clear hg hcl htk ho hold hZ1 hZ2 hl1 hl2 hkk hik hROW hRL hGG hz5 hw1' hb1'
      generalize cellE (L.drop K) = C2 at *
      go_enter Try.func64, Try.ntmps64
      go_wp2_with (first | (at_builtin; refine Lib.wpList_append_run _ rfl _ _ _ _ rfl _ _ rfl rfl _ _ (hrz _) ?_) | ((with_reducible refine wpList_copyK (o := ⟨some 45, _, _, _, _, _⟩) (by rfl) _ _ 27 27 (by rfl) 51 5 Try.underlying27 infoSz w.heap.size (K * 5) (cap + 1 - K) (G - K) vb 0 1 1 (by simp [Act.eval, Act.put]) (by simp [Act.eval, Act.put]) ROW 51 hN1.out (vals e) 1 (K * 5) 0 HM2.out (vals_len e) rfl rfl HS1.out HFA.out (one_vals e) w.heap.size w HBL.out (Nat.le_refl _) ?_); intro w3 hg3 hb3' hs3))
      go_region_law (refine step_copyK (by rfl) _ _ 27 27 (by rfl) 51 5 Try.underlying27 infoSz w.heap.size ((K + 1) * 5) (cap - K) (G - (K + 1)) g (K * 5) (cap - K) (cap - K) (by simp [Act.eval, Act.put]) (by simp [Act.eval, Act.put]) (splice ROW (K * 5) (vals e)) 51 (show w3.heap[w.heap.size]? = _ from hg3.out) C2 (cap - K) ((K + 1) * 5) (K * 5) HM1.out HC2.out rfl rfl (HCG.out _ ((hs3 g hgN).trans HWG.out)) HFB.out HONE.out w.heap.size w (hb3'.drew) (Nat.le_refl _) ?_; intro w4 hg4 hb4' hs4)
      have HOUT := Lib.hid (own_put (B := w.heap.size) (n := cap + 1) (cap := G) (L := insL L K e) hg4.out (Nat.le_refl _) hGn hG63 HSL.out HIL.out (by rw [HFN.out, List.take_append_of_le_length (by rw [HIN.out]; exact Nat.le_refl _), List.take_of_length_le (by rw [HIN.out]; exact Nat.le_refl _)]))
      clear hg3 hg4 hb3' hs3 hs4 hw1 htn
      go_wp2
      go_ret
      exact ⟨_, _, rfl, ownsRow_mono HOUT.out hB, hb4'.mono hB⟩
  · obtain rfl : K = n := by omega
    have HI : Hid (cellE (insL L K e) = cellE L ++ vals e) := Lib.hid (by rw [HINS.out, List.take_of_length_le (by rw [HNL.out]; omega), List.drop_eq_nil_of_le (by rw [HNL.out]; omega)]; simp [cellE])
    have HO := Lib.hid ho
    clear hg htk ho
    by_cases hck : cap = K
    · subst hck
      go_enter Try.func64, Try.ntmps64
      go_wp2_with (at_builtin; refine wpList_append_own _ rfl _ _ 27 rfl B 51 i0 _ 5 56 Try.underlying27 hi0 hz0 hz1 hz2 rfl (by decide) _ _ _ rfl (own_of_below HO.out (by repeat' (first | (with_reducible exact Below.refl _ _) | (with_reducible assumption) | (with_reducible refine Base.grow_alloc ?_ _) | (with_reducible refine Base.below_drewN ?_ _) | (with_reducible refine Below.drew ?_) | (with_reducible refine Below.setCell ?_ ?_ _) | go_size))) ⟨vb, 0, none⟩ 1 1 (vals e) rfl rfl (fun j u hj => by rw [Addr.add_lit]; exact HCV.out _ rfl j u hj) (one_vals e) (by simp only [maxLen]; omega) (by omega) (by omega) ?_)
      intro v' w2 hown' hgrow hnil
      have hb2 : Below B w w2 := (Below.refl B _).grown hgrow hB (fun q hq => (HO.out.lt q hq).1)
      obtain ⟨g2, c2, hv2, _, _, _, _⟩ := own_form hown' (by simpa using hnil)
      rw [← HI.out] at hown'
      have HO2 := Lib.hid hown'
      clear hown' hgrow hnil
      subst hv2
      go_wp2
      go_ret
      exact ⟨g2, c2, rfl, HO2.out, hb2⟩
    · go_enter Try.func64, Try.ntmps64
      go_wp2_with (at_builtin; refine wpList_append_own _ rfl _ _ 27 rfl B 51 i0 _ 5 56 Try.underlying27 hi0 hz0 hz1 hz2 rfl (by decide) _ _ _ rfl (own_of_below HO.out (by repeat' (first | (with_reducible exact Below.refl _ _) | (with_reducible assumption) | (with_reducible refine Base.grow_alloc ?_ _) | (with_reducible refine Base.below_drewN ?_ _) | (with_reducible refine Below.drew ?_) | (with_reducible refine Below.setCell ?_ ?_ _) | go_size))) ⟨vb, 0, none⟩ 1 1 (vals e) rfl rfl (fun j u hj => by rw [Addr.add_lit]; exact HCV.out _ rfl j u hj) (one_vals e) (by simp only [maxLen]; omega) (by omega) (by omega) ?_)
      intro v' w2 hown' hgrow hnil
      have hb2 : Below B w w2 := (Below.refl B _).grown hgrow hB (fun q hq => (HO.out.lt q hq).1)
      obtain ⟨g2, c2, hv2, _, _, _, _⟩ := own_form hown' (by simpa using hnil)
      rw [← HI.out] at hown'
      have HO2 := Lib.hid hown'
      clear hown' hgrow hnil
      subst hv2
      go_wp2
      go_ret
      exact ⟨g2, c2, rfl, HO2.out, hb2⟩
end Go.Proofs.Ythojfmlnnclghaa.InsE
