/- One more mark. -/
import Derived.Test.YtfpipbajlokheaaChart
import Derived.Test.YtfpipbajlokheaaCopy
import Derived.Test.YtfpipbajlokheaaHelp
import Derived.Deep.AppendLies
import Derived.Deep.RegionHeld3
namespace Go.Proofs.Ytfpipbajlokheaa.AddM
set_option linter.unusedVariables false
set_option linter.unusedSimpArgs false
set_option maxRecDepth 8000
open Go.RowKit Plain Num View Chart

def atP (X Y : Nat → Int) (x y : Int) (i : Nat) : Bool := X i == x && Y i == y
def addC (n : Nat) (X Y M : Nat → Int) (x y m : Int) : Int := if okChart n X Y M = true then (if okMark x y m = true then (if anyB n (atP X Y x y) = true then 4 else if n = 30 then 5 else 0) else 2) else 1
def addN (n : Nat) (X Y M : Nat → Int) (x y m : Int) : Nat := if addC n X Y M x y m = 0 then n + 1 else 0
theorem add_cases (n : Nat) (X Y M : Nat → Int) (x y m : Int) : (okChart n X Y M = true ∧ okMark x y m = true ∧ anyB n (atP X Y x y) = false ∧ n < 30 ∧ addC n X Y M x y m = 0) ∨ (okChart n X Y M = true ∧ okMark x y m = true ∧ anyB n (atP X Y x y) = false ∧ n = 30 ∧ addC n X Y M x y m = 5) ∨ (okChart n X Y M = true ∧ okMark x y m = true ∧ anyB n (atP X Y x y) = true ∧ addC n X Y M x y m = 4) ∨ (okChart n X Y M = true ∧ okMark x y m = false ∧ addC n X Y M x y m = 2) ∨ (okChart n X Y M = false ∧ addC n X Y M x y m = 1) := by
  unfold addC
  cases h : okChart n X Y M
  · simp
  · have := okChart_n h
    cases h1 : okMark x y m <;> cases h2 : anyB n (atP X Y x y) <;> by_cases h3 : n = 30 <;> simp [h3] <;> omega
theorem add_cells (n : Nat) (X Y M : Nat → Int) (x y m : Int) : cellF 3 n (f3 X Y M) ++ [.int .i64 x, .int .i64 y, .int .i64 m] = cellF 3 (n + 1) (f3 (addT n X x) (addT n Y y) (addT n M m)) := by
  rw [← cellF_succ]
  congr 1
  · exact cellF_congr fun i hi j _ => by simp only [f3, addT_lt hi]
  · simp [List.range_succ, f3, addT_at]
theorem news_below {W W' : World} (hb : Below W.heap.size W W') {ad : Addr} {news : List Value} (h : ∀ (j : Nat) (u : Value), news[j]? = some u → W.cell? (ad.add j) = some u) : ∀ (j : Nat) (u : Value), news[j]? = some u → W'.cell? (ad.add j) = some u := fun j u hj => cell_call hb (h j u hj)
theorem c_copyOf (ad : Addr) (n c : Nat) (X Y M : Nat → Int) (w : World) (hv : Sl w 3 (some ad) n c (f3 X Y M)) :
    Calls Try.prog 99 #[.slice (some ad) n c] w fun e w' => ∃ v, e = .returned v ∧ w'.ownsRow w.heap.size 65 3 v n (cellF 3 n (f3 X Y M)) ∧ Below w.heap.size w w' := by
  have hn := hv.le
  obtain ⟨i0, hi0, hz0, hz1, hz2⟩ := info_parts Help.infoMark
  have ho : (w.alloc (.cells #[] 65)).ownsRow w.heap.size 65 3 (.slice (some ⟨w.heap.size, 0, none⟩) 0 0) 0 [] := World.ownsRow_made _ _ _ (by omega) (by simp [maxLen]) rfl
  go_enter Try.func99, Try.ntmps99
  go_wp2_with (at_builtin; refine wpList_append_own _ rfl _ _ 32 rfl (w.heap.size) 65 i0 _ 3 24 Try.underlying32 hi0 hz0 hz1 hz2 rfl (by decide) _ _ _ rfl ho ad n c (cellF 3 n (f3 X Y M)) rfl (cellF_len _ _ _) (hv.below (by repeat' (first | (with_reducible exact Below.refl _ _) | (with_reducible assumption) | (with_reducible refine Base.grow_alloc ?_ _) | (with_reducible refine Base.below_drewN ?_ _) | (with_reducible refine Below.drew ?_) | (with_reducible refine Below.setCell ?_ ?_ _) | go_size))).news one_f3 (by simp only [maxLen]; omega) (by omega) (by simp) ?_)
  intro v' w1 hown' hgrow _
  have hb1 : Below w.heap.size w w1 := own_grow (by repeat' (first | (with_reducible exact Below.refl _ _) | (with_reducible assumption) | (with_reducible refine Base.grow_alloc ?_ _) | (with_reducible refine Base.below_drewN ?_ _) | (with_reducible refine Below.drew ?_) | (with_reducible refine Below.setCell ?_ ?_ _) | go_size)) ho (Nat.le_refl _) hgrow
  go_wp2
  go_ret
  exact ⟨_, rfl, (by first | exact hown' | simpa using hown'), hb1⟩
theorem World.ownsRow.mono {w : World} {B B' : Nat} {E : TypeId} {k n : Nat} {v : Value} {xs : List Value} (h : w.ownsRow B E k v n xs) (hB : B' ≤ B) : w.ownsRow B' E k v n xs := by
  refine ⟨h.1, ?_⟩
  rcases h.2 with h | ⟨g, cap, cur, e, hg, r⟩
  · exact .inl h
  · exact .inr ⟨g, cap, cur, e, Nat.le_trans hB hg, r⟩
theorem ret_o {v : Value} {a b : Int} (h : a = b) : Ending.returned (.tuple #[v, .int .i64 a]) = Ending.returned (.tuple #[v, .int .i64 b]) := by rw [h]
set_option maxHeartbeats 1600000 in
theorem c_AddMark (ad : Addr) (n c : Nat) (X Y M : Nat → Int) (x y m : Int) (w : World) (hv : Sl w 3 (some ad) n c (f3 X Y M)) :
    Calls Try.prog 44 #[.slice (some ad) n c, .agg #[.int .i64 x, .int .i64 y, .int .i64 m]] w fun e w' => ∃ v, e = .returned (.tuple #[v, .int .i64 (addC n X Y M x y m)]) ∧ OwnK w' w.heap.size 65 3 v (addN n X Y M x y m) (f3 (addT n X x) (addT n Y y) (addT n M m)) ∧ Below w.heap.size w w' := by
  have hn := hv.le
  obtain ⟨i0, hi0, hz0, hz1, hz2⟩ := info_parts Help.infoMark
  rcases add_cases n X Y M x y m with ⟨h1, h2, h3, h4, hc⟩ | ⟨h1, h2, h3, h4, hc⟩ | ⟨h1, h2, h3, hc⟩ | ⟨h1, h2, hc⟩ | ⟨h1, hc⟩
  · have HN := Lib.hid (show addN n X Y M x y m = n + 1 by rw [addN, if_pos hc])
    have HC := Lib.hid hc
    have h30 : ((n : Int) == 30) = false := by simp; omega
    replace h3 : anyB n (fun i => X i == x && Y i == y) = false := h3
    clear hc
    go_enter Try.func44, Try.ntmps44
    go_wp2_with (first | (go_at_call 66; refine (c_ValidChart _ _ _ X Y M _ (hv.below (by repeat' (first | (with_reducible exact Below.refl _ _) | (with_reducible assumption) | (with_reducible refine Base.grow_alloc ?_ _) | (with_reducible refine Base.below_drewN ?_ _) | (with_reducible refine Below.drew ?_) | (with_reducible refine Below.setCell ?_ ?_ _) | go_size)))).mono ?_; rintro e w1 ⟨rfl, hb1⟩; obtain ⟨chb1, fhb1⟩ := Base.bcell hb1; have zhb1 := (hb1).size; (try simp at zhb1); (try have yhb1 : w.heap.size < (w1).heap.size := by omega)) | (go_at_call 97; refine (c_isMark _ _ _ _).mono ?_; rintro e w2 ⟨rfl, hb2⟩; obtain ⟨chb2, fhb2⟩ := Base.bcell hb2; have zhb2 := (hb2).size; (try simp at zhb2); (try have yhb2 : w.heap.size < (w2).heap.size := by omega)) | (go_at_call 98; refine (Idx.c_isAt _ _ _ X Y M _ _ _ (hv.below (by repeat' (first | (with_reducible exact Below.refl _ _) | (with_reducible assumption) | (with_reducible refine Base.via hb2 ?_) | (with_reducible refine Base.via hb1 ?_) | (with_reducible refine Base.grow_alloc ?_ _) | (with_reducible refine Base.below_drewN ?_ _) | (with_reducible refine Below.drew ?_) | (with_reducible refine Below.setCell ?_ ?_ _) | go_size)))).mono ?_; rintro e w3 ⟨rfl, hb3⟩; obtain ⟨chb3, fhb3⟩ := Base.bcell hb3; have zhb3 := (hb3).size; (try simp at zhb3); (try have yhb3 : w.heap.size < (w3).heap.size := by omega)))
    have k0 : World.cell? w3 ⟨w.heap.size, 0, none⟩ = some (.int .i64 x) := ((hb3.cell (p := ⟨w.heap.size, 0, none⟩) (by first | (simp; done) | (simp; omega) | omega)).trans ((hb2.cell (p := ⟨w.heap.size, 0, none⟩) (by first | (simp; done) | (simp; omega) | omega)).trans ((hb1.cell (p := ⟨w.heap.size, 0, none⟩) (by first | (simp; done) | (simp; omega) | omega)).trans (by simp [go_sem]))))
    have k1 : World.cell? w3 ⟨w.heap.size, 1, none⟩ = some (.int .i64 y) := ((hb3.cell (p := ⟨w.heap.size, 1, none⟩) (by first | (simp; done) | (simp; omega) | omega)).trans ((hb2.cell (p := ⟨w.heap.size, 1, none⟩) (by first | (simp; done) | (simp; omega) | omega)).trans ((hb1.cell (p := ⟨w.heap.size, 1, none⟩) (by first | (simp; done) | (simp; omega) | omega)).trans (by simp [go_sem]))))
    have k2 : World.cell? w3 ⟨w.heap.size, 2, none⟩ = some (.int .i64 m) := ((hb3.cell (p := ⟨w.heap.size, 2, none⟩) (by first | (simp; done) | (simp; omega) | omega)).trans ((hb2.cell (p := ⟨w.heap.size, 2, none⟩) (by first | (simp; done) | (simp; omega) | omega)).trans ((hb1.cell (p := ⟨w.heap.size, 2, none⟩) (by first | (simp; done) | (simp; omega) | omega)).trans (by simp [go_sem]))))
    have hb : Below w.heap.size w w3 := (by repeat' (first | (with_reducible exact Below.refl _ _) | (with_reducible assumption) | (with_reducible refine Base.via hb3 ?_) | (with_reducible refine Base.via hb2 ?_) | (with_reducible refine Base.via hb1 ?_) | (with_reducible refine Base.grow_alloc ?_ _) | (with_reducible refine Base.below_drewN ?_ _) | (with_reducible refine Below.drew ?_) | (with_reducible refine Below.setCell ?_ ?_ _) | go_size))
    have hvw := hv.below hb
    have hzz := hb.size
    have hlw : w.heap.size < w3.heap.size := World.block_lt_of_cell? _ _ k0
    clear chb1 fhb1 hb1 chb2 fhb2 hb2 chb3 fhb3 hb3
    have HS : ∀ W W' : World, ((W.cell? ⟨w.heap.size, 0, none⟩ = some (.int .i64 x) ∧ W.cell? ⟨w.heap.size, 1, none⟩ = some (.int .i64 y) ∧ W.cell? ⟨w.heap.size, 2, none⟩ = some (.int .i64 m)) ∧ Below w3.heap.size w3 W) → Below W.heap.size W W' → ((W'.cell? ⟨w.heap.size, 0, none⟩ = some (.int .i64 x) ∧ W'.cell? ⟨w.heap.size, 1, none⟩ = some (.int .i64 y) ∧ W'.cell? ⟨w.heap.size, 2, none⟩ = some (.int .i64 m)) ∧ Below w3.heap.size w3 W') :=
      fun W W' ⟨⟨p0, p1, p2⟩, hs⟩ hb => ⟨⟨cell_call hb p0, cell_call hb p1, cell_call hb p2⟩, Base.via hb hs⟩
    have HG : ∀ (W W' : World) (v : Value) (xs : List Value), W.ownsRow w3.heap.size 65 3 v n xs → W.grownBy W' v.ownBlock → ((W.cell? ⟨w.heap.size, 0, none⟩ = some (.int .i64 x) ∧ W.cell? ⟨w.heap.size, 1, none⟩ = some (.int .i64 y) ∧ W.cell? ⟨w.heap.size, 2, none⟩ = some (.int .i64 m)) ∧ Below w3.heap.size w3 W) → ((W'.cell? ⟨w.heap.size, 0, none⟩ = some (.int .i64 x) ∧ W'.cell? ⟨w.heap.size, 1, none⟩ = some (.int .i64 y) ∧ W'.cell? ⟨w.heap.size, 2, none⟩ = some (.int .i64 m)) ∧ Below w3.heap.size w3 W') :=
      fun W W' v xs ho hg ⟨⟨p0, p1, p2⟩, hs⟩ => by
        have hb : Below w3.heap.size w3 W' := hs.grown hg hs.size (fun q hq => (ho.lt q hq).1)
        refine ⟨⟨(hb.cell (p := ⟨w.heap.size, 0, none⟩) ?_).trans k0, (hb.cell (p := ⟨w.heap.size, 1, none⟩) ?_).trans k1, (hb.cell (p := ⟨w.heap.size, 2, none⟩) ?_).trans k2⟩, hb⟩ <;> exact hlw
    go_region_held3 (fun W => (W.cell? ⟨w.heap.size, 0, none⟩ = some (.int .i64 x) ∧ W.cell? ⟨w.heap.size, 1, none⟩ = some (.int .i64 y) ∧ W.cell? ⟨w.heap.size, 2, none⟩ = some (.int .i64 m)) ∧ Below w3.heap.size w3 W)
      (first | exact HS _ _ (by assumption) hb4 | exact HS _ _ (by assumption) ((Below.refl _ _).alloc (Nat.le_refl _) _) | exact HG _ _ _ _ (by first | exact hoW | exact hoW.alloc _) hgrow (by assumption) | exact ⟨⟨cell_drew k0, cell_drew k1, cell_drew k2⟩, (by repeat' (first | (with_reducible exact Below.refl _ _) | (with_reducible assumption) | (with_reducible refine Base.grow_alloc ?_ _) | (with_reducible refine Base.below_drewN ?_ _) | (with_reducible refine Below.drew ?_) | (with_reducible refine Below.setCell ?_ ?_ _) | go_size))⟩)
      (first | (have hs := (‹_ ∧ Below w3.heap.size w3 _›).2; go_at_call 99; refine (c_copyOf ad n c X Y M _ (hvw.below hs)).mono ?_; rintro e w4 ⟨v4, rfl, ho4, hb4⟩; have ho5 := World.ownsRow.mono ho4 hs.size) | (have hs := (‹_ ∧ Below w3.heap.size w3 _›); refine step_append_lies _ (by rfl) _ _ _ (by rfl) w3.heap.size 65 i0 _ 3 24 Try.underlying32 hi0 hz0 hz1 hz2 rfl (by decide) v4 n _ (by rfl) (by first | exact ho5 | exact ho5.alloc _) ⟨_, 0, none⟩ 1 1 [.int .i64 x, .int .i64 y, .int .i64 m] (by rfl) (by rfl) (by first | exact cell_newL _ _ _ rfl | exact news_below hb4 (cell_newL _ _ _ rfl)) (by simp [Value.oneCell']) (by decide) (by simp only [maxLen]; omega) (by omega) hs.2.size _ (by rfl) ?_; intro g cap w5 hown' hgrow hat hlt; have hoW := ho5))
    all_goals
      obtain ⟨_, hE⟩ := ‹_ ∧ Below w3.heap.size w3 _›
      go_wp2
      go_ret2
      exact ⟨_, ret_o HC.out.symm, by rw [HN.out]; exact OwnK.of_cellF (by rw [← add_cells]; exact World.ownsRow.mono hown' hzz) (by omega), Base.via hE hb⟩
  · subst h4
    have HN := Lib.hid (show addN 30 X Y M x y m = 0 by rw [addN, hc]; rfl)
    have HC := Lib.hid hc
    replace h3 : anyB 30 (fun i => X i == x && Y i == y) = false := h3
    clear hc
    go_enter Try.func44, Try.ntmps44
    go_wp2_with (first | (go_at_call 66; refine (c_ValidChart _ _ _ X Y M _ (hv.below (by repeat' (first | (with_reducible exact Below.refl _ _) | (with_reducible assumption) | (with_reducible refine Base.grow_alloc ?_ _) | (with_reducible refine Base.below_drewN ?_ _) | (with_reducible refine Below.drew ?_) | (with_reducible refine Below.setCell ?_ ?_ _) | go_size)))).mono ?_; rintro e w1 ⟨rfl, hb1⟩; obtain ⟨chb1, fhb1⟩ := Base.bcell hb1; have zhb1 := (hb1).size; (try simp at zhb1); (try have yhb1 : w.heap.size < (w1).heap.size := by omega)) | (go_at_call 97; refine (c_isMark _ _ _ _).mono ?_; rintro e w2 ⟨rfl, hb2⟩; obtain ⟨chb2, fhb2⟩ := Base.bcell hb2; have zhb2 := (hb2).size; (try simp at zhb2); (try have yhb2 : w.heap.size < (w2).heap.size := by omega)) | (go_at_call 98; refine (Idx.c_isAt _ _ _ X Y M _ _ _ (hv.below (by repeat' (first | (with_reducible exact Below.refl _ _) | (with_reducible assumption) | (with_reducible refine Base.via hb2 ?_) | (with_reducible refine Base.via hb1 ?_) | (with_reducible refine Base.grow_alloc ?_ _) | (with_reducible refine Base.below_drewN ?_ _) | (with_reducible refine Below.drew ?_) | (with_reducible refine Below.setCell ?_ ?_ _) | go_size)))).mono ?_; rintro e w3 ⟨rfl, hb3⟩; obtain ⟨chb3, fhb3⟩ := Base.bcell hb3; have zhb3 := (hb3).size; (try simp at zhb3); (try have yhb3 : w.heap.size < (w3).heap.size := by omega)))
    go_ret2
    exact ⟨_, ret_o HC.out.symm, OwnK.zero HN.out, (by repeat' (first | (with_reducible exact Below.refl _ _) | (with_reducible assumption) | (with_reducible refine Base.via hb3 ?_) | (with_reducible refine Base.via hb2 ?_) | (with_reducible refine Base.via hb1 ?_) | (with_reducible refine Base.grow_alloc ?_ _) | (with_reducible refine Base.below_drewN ?_ _) | (with_reducible refine Below.drew ?_) | (with_reducible refine Below.setCell ?_ ?_ _) | go_size))⟩
  · have HN := Lib.hid (show addN n X Y M x y m = 0 by rw [addN, hc]; rfl)
    have HC := Lib.hid hc
    replace h3 : anyB n (fun i => X i == x && Y i == y) = true := h3
    clear hc
    go_enter Try.func44, Try.ntmps44
    go_wp2_with (first | (go_at_call 66; refine (c_ValidChart _ _ _ X Y M _ (hv.below (by repeat' (first | (with_reducible exact Below.refl _ _) | (with_reducible assumption) | (with_reducible refine Base.grow_alloc ?_ _) | (with_reducible refine Base.below_drewN ?_ _) | (with_reducible refine Below.drew ?_) | (with_reducible refine Below.setCell ?_ ?_ _) | go_size)))).mono ?_; rintro e w1 ⟨rfl, hb1⟩; obtain ⟨chb1, fhb1⟩ := Base.bcell hb1; have zhb1 := (hb1).size; (try simp at zhb1); (try have yhb1 : w.heap.size < (w1).heap.size := by omega)) | (go_at_call 97; refine (c_isMark _ _ _ _).mono ?_; rintro e w2 ⟨rfl, hb2⟩; obtain ⟨chb2, fhb2⟩ := Base.bcell hb2; have zhb2 := (hb2).size; (try simp at zhb2); (try have yhb2 : w.heap.size < (w2).heap.size := by omega)) | (go_at_call 98; refine (Idx.c_isAt _ _ _ X Y M _ _ _ (hv.below (by repeat' (first | (with_reducible exact Below.refl _ _) | (with_reducible assumption) | (with_reducible refine Base.via hb2 ?_) | (with_reducible refine Base.via hb1 ?_) | (with_reducible refine Base.grow_alloc ?_ _) | (with_reducible refine Base.below_drewN ?_ _) | (with_reducible refine Below.drew ?_) | (with_reducible refine Below.setCell ?_ ?_ _) | go_size)))).mono ?_; rintro e w3 ⟨rfl, hb3⟩; obtain ⟨chb3, fhb3⟩ := Base.bcell hb3; have zhb3 := (hb3).size; (try simp at zhb3); (try have yhb3 : w.heap.size < (w3).heap.size := by omega)))
    go_ret2
    exact ⟨_, ret_o HC.out.symm, OwnK.zero HN.out, (by repeat' (first | (with_reducible exact Below.refl _ _) | (with_reducible assumption) | (with_reducible refine Base.via hb3 ?_) | (with_reducible refine Base.via hb2 ?_) | (with_reducible refine Base.via hb1 ?_) | (with_reducible refine Base.grow_alloc ?_ _) | (with_reducible refine Base.below_drewN ?_ _) | (with_reducible refine Below.drew ?_) | (with_reducible refine Below.setCell ?_ ?_ _) | go_size))⟩
  · have HN := Lib.hid (show addN n X Y M x y m = 0 by rw [addN, hc]; rfl)
    have HC := Lib.hid hc
    clear hc
    go_enter Try.func44, Try.ntmps44
    go_wp2_with (first | (go_at_call 66; refine (c_ValidChart _ _ _ X Y M _ (hv.below (by repeat' (first | (with_reducible exact Below.refl _ _) | (with_reducible assumption) | (with_reducible refine Base.grow_alloc ?_ _) | (with_reducible refine Base.below_drewN ?_ _) | (with_reducible refine Below.drew ?_) | (with_reducible refine Below.setCell ?_ ?_ _) | go_size)))).mono ?_; rintro e w1 ⟨rfl, hb1⟩; obtain ⟨chb1, fhb1⟩ := Base.bcell hb1; have zhb1 := (hb1).size; (try simp at zhb1); (try have yhb1 : w.heap.size < (w1).heap.size := by omega)) | (go_at_call 97; refine (c_isMark _ _ _ _).mono ?_; rintro e w2 ⟨rfl, hb2⟩; obtain ⟨chb2, fhb2⟩ := Base.bcell hb2; have zhb2 := (hb2).size; (try simp at zhb2); (try have yhb2 : w.heap.size < (w2).heap.size := by omega)))
    go_ret2
    exact ⟨_, ret_o HC.out.symm, OwnK.zero HN.out, (by repeat' (first | (with_reducible exact Below.refl _ _) | (with_reducible assumption) | (with_reducible refine Base.via hb2 ?_) | (with_reducible refine Base.via hb1 ?_) | (with_reducible refine Base.grow_alloc ?_ _) | (with_reducible refine Base.below_drewN ?_ _) | (with_reducible refine Below.drew ?_) | (with_reducible refine Below.setCell ?_ ?_ _) | go_size))⟩
  · have HN := Lib.hid (show addN n X Y M x y m = 0 by rw [addN, hc]; rfl)
    have HC := Lib.hid hc
    clear hc
    go_enter Try.func44, Try.ntmps44
    go_wp2_with (first | (go_at_call 66; refine (c_ValidChart _ _ _ X Y M _ (hv.below (by repeat' (first | (with_reducible exact Below.refl _ _) | (with_reducible assumption) | (with_reducible refine Base.grow_alloc ?_ _) | (with_reducible refine Base.below_drewN ?_ _) | (with_reducible refine Below.drew ?_) | (with_reducible refine Below.setCell ?_ ?_ _) | go_size)))).mono ?_; rintro e w1 ⟨rfl, hb1⟩; obtain ⟨chb1, fhb1⟩ := Base.bcell hb1; have zhb1 := (hb1).size; (try simp at zhb1); (try have yhb1 : w.heap.size < (w1).heap.size := by omega)))
    go_ret2
    exact ⟨_, ret_o HC.out.symm, OwnK.zero HN.out, (by repeat' (first | (with_reducible exact Below.refl _ _) | (with_reducible assumption) | (with_reducible refine Base.via hb1 ?_) | (with_reducible refine Base.grow_alloc ?_ _) | (with_reducible refine Base.below_drewN ?_ _) | (with_reducible refine Below.drew ?_) | (with_reducible refine Below.setCell ?_ ?_ _) | go_size))⟩
set_option maxHeartbeats 1600000 in
theorem c_specAddMark (ad : Addr) (n c : Nat) (X Y M : Nat → Int) (x y m : Int) (w : World) (hv : Sl w 3 (some ad) n c (f3 X Y M)) :
    Calls Try.prog 42 #[.slice (some ad) n c, .agg #[.int .i64 x, .int .i64 y, .int .i64 m]] w fun e w' => ∃ v, e = .returned (.tuple #[v, .int .i64 (addC n X Y M x y m)]) ∧ OwnK w' w.heap.size 65 3 v (addN n X Y M x y m) (f3 (addT n X x) (addT n Y y) (addT n M m)) ∧ Below w.heap.size w w' := by
  have hn := hv.le
  obtain ⟨i0, hi0, hz0, hz1, hz2⟩ := info_parts Help.infoMark
  by_cases hok : okChart n X Y M = true ∧ okMark x y m = true
  · obtain ⟨h1, h2⟩ := hok
    have h30 := okChart_n h1
    go_enter Try.func42, Try.ntmps42
    go_wp2_with (first | (go_at_call 64; refine (c_l07Ok _ _ _ X Y M _ (hv.below (by repeat' (first | (with_reducible exact Below.refl _ _) | (with_reducible assumption) | (with_reducible refine Base.grow_alloc ?_ _) | (with_reducible refine Base.below_drewN ?_ _) | (with_reducible refine Below.drew ?_) | (with_reducible refine Below.setCell ?_ ?_ _) | go_size)))).mono ?_; rintro e w1 ⟨rfl, hb1⟩; obtain ⟨chb1, fhb1⟩ := Base.bcell hb1; have zhb1 := (hb1).size; (try simp at zhb1); (try have yhb1 : w.heap.size < (w1).heap.size := by omega)) | (go_at_call 96; refine (c_l07One _ _ _ _).mono ?_; rintro e w2 ⟨rfl, hb2⟩; obtain ⟨chb2, fhb2⟩ := Base.bcell hb2; have zhb2 := (hb2).size; (try simp at zhb2); (try have yhb2 : w.heap.size < (w2).heap.size := by omega)))
    have k0 : World.cell? w2 ⟨w.heap.size, 0, none⟩ = some (.int .i64 x) := ((hb2.cell (p := ⟨w.heap.size, 0, none⟩) (by first | (simp; done) | (simp; omega) | omega)).trans ((hb1.cell (p := ⟨w.heap.size, 0, none⟩) (by first | (simp; done) | (simp; omega) | omega)).trans (by simp [go_sem])))
    have k1 : World.cell? w2 ⟨w.heap.size, 1, none⟩ = some (.int .i64 y) := ((hb2.cell (p := ⟨w.heap.size, 1, none⟩) (by first | (simp; done) | (simp; omega) | omega)).trans ((hb1.cell (p := ⟨w.heap.size, 1, none⟩) (by first | (simp; done) | (simp; omega) | omega)).trans (by simp [go_sem])))
    have k2 : World.cell? w2 ⟨w.heap.size, 2, none⟩ = some (.int .i64 m) := ((hb2.cell (p := ⟨w.heap.size, 2, none⟩) (by first | (simp; done) | (simp; omega) | omega)).trans ((hb1.cell (p := ⟨w.heap.size, 2, none⟩) (by first | (simp; done) | (simp; omega) | omega)).trans (by simp [go_sem])))
    have hb : Below w.heap.size w w2 := (by repeat' (first | (with_reducible exact Below.refl _ _) | (with_reducible assumption) | (with_reducible refine Base.via hb2 ?_) | (with_reducible refine Base.via hb1 ?_) | (with_reducible refine Base.grow_alloc ?_ _) | (with_reducible refine Base.below_drewN ?_ _) | (with_reducible refine Below.drew ?_) | (with_reducible refine Below.setCell ?_ ?_ _) | go_size))
    have hvw := hv.below hb
    have hzz := hb.size
    have hlw : w.heap.size < w2.heap.size := World.block_lt_of_cell? _ _ k0
    clear chb1 fhb1 hb1 chb2 fhb2 hb2
    go_loopw [6] (fun i wr => ∃ k : Nat, k ≤ n ∧ i = .int .i64 k ∧ Hid (allB k (fun i => !atP X Y x y i) = true) ∧ Below w2.heap.size w2 wr) (fun i _ => n - (intOf i).toNat)
    case atStart => exact ⟨0, Nat.zero_le _, rfl, (show allB 0 (fun i => !atP X Y x y i) = true from rfl), (by repeat' (first | (with_reducible exact Below.refl _ _) | (with_reducible assumption) | (with_reducible refine Base.grow_alloc ?_ _) | (with_reducible refine Base.below_drewN ?_ _) | (with_reducible refine Below.drew ?_) | (with_reducible refine Below.setCell ?_ ?_ _) | go_size))⟩
    case round =>
      obtain ⟨k, hk, rfl, hall, hbr⟩ := hrel
      have q0 := (hbr.cell (p := ⟨w.heap.size, 0, none⟩) hlw).trans k0
      have q1 := (hbr.cell (p := ⟨w.heap.size, 1, none⟩) hlw).trans k1
      have q2 := (hbr.cell (p := ⟨w.heap.size, 2, none⟩) hlw).trans k2
      have hzr := hbr.size
      by_cases hlt : k < n
      · obtain ⟨b, off, e0, hb', hc⟩ := (hvw.below hbr).at_ (by omega)
        injection e0 with e0
        subst e0
        obtain ⟨p0, p1, p2⟩ := cells3 hc k hlt
        clear hc
        cases hx : X k == x
        · have HA := Lib.hid (allB_yes hall.out (show (!atP X Y x y k) = true by simp [atP, hx]))
          go_wp2
          go_quiet (fail)
          go_wp2
          go_roundw
          case rel => exact ⟨k + 1, by omega, by go_num, HA.out, (by repeat' (first | (with_reducible exact Below.refl _ _) | (with_reducible assumption) | (with_reducible refine Base.grow_alloc ?_ _) | (with_reducible refine Base.below_drewN ?_ _) | (with_reducible refine Below.drew ?_) | (with_reducible refine Below.setCell ?_ ?_ _) | go_size))⟩
          case measure => simp [intOf]; omega
        · cases hy : Y k == y
          · have HA := Lib.hid (allB_yes hall.out (show (!atP X Y x y k) = true by simp [atP, hy]))
            go_wp2
            go_quiet (fail)
            go_wp2
            go_roundw
            case rel => exact ⟨k + 1, by omega, by go_num, HA.out, (by repeat' (first | (with_reducible exact Below.refl _ _) | (with_reducible assumption) | (with_reducible refine Base.grow_alloc ?_ _) | (with_reducible refine Base.below_drewN ?_ _) | (with_reducible refine Below.drew ?_) | (with_reducible refine Below.setCell ?_ ?_ _) | go_size))⟩
            case measure => simp [intOf]; omega
          · have hA : anyB n (atP X Y x y) = true := anyB_iff.2 ⟨k, hlt, by simp [atP, hx, hy]⟩
            have hc4 : addC n X Y M x y m = 4 := by rw [addC, if_pos h1, if_pos h2, if_pos hA]
            have HN := Lib.hid (show addN n X Y M x y m = 0 by rw [addN, hc4]; rfl)
            have HC := Lib.hid hc4
            clear hA hc4
            go_wp2
            go_quiet (fail)
            go_wp2
            go_ret2
            exact ⟨_, ret_o HC.out.symm, OwnK.zero HN.out, (by repeat' (first | (with_reducible exact Below.refl _ _) | (with_reducible assumption) | (with_reducible refine Base.via hbr ?_) | (with_reducible refine Base.via hb ?_) | (with_reducible refine Base.grow_alloc ?_ _) | (with_reducible refine Base.below_drewN ?_ _) | (with_reducible refine Below.drew ?_) | (with_reducible refine Below.setCell ?_ ?_ _) | go_size))⟩
      · have hkn : k = n := by omega
        subst hkn
        have hA : anyB k (atP X Y x y) = false := anyB_false.2 fun i hi => by have := allB_iff.1 hall.out i hi; simpa using this
        by_cases h5 : k = 30
        · subst h5
          have hc5 : addC 30 X Y M x y m = 5 := by rw [addC, if_pos h1, if_pos h2, hA]; rfl
          have HN := Lib.hid (show addN 30 X Y M x y m = 0 by rw [addN, hc5]; rfl)
          have HC := Lib.hid hc5
          clear hA hc5
          go_wp2
          go_ret2
          exact ⟨_, ret_o HC.out.symm, OwnK.zero HN.out, (by repeat' (first | (with_reducible exact Below.refl _ _) | (with_reducible assumption) | (with_reducible refine Base.via hbr ?_) | (with_reducible refine Base.via hb ?_) | (with_reducible refine Base.grow_alloc ?_ _) | (with_reducible refine Base.below_drewN ?_ _) | (with_reducible refine Below.drew ?_) | (with_reducible refine Below.setCell ?_ ?_ _) | go_size))⟩
        · have hc0 : addC k X Y M x y m = 0 := by rw [addC, if_pos h1, if_pos h2, hA, if_neg (by simp), if_neg h5]
          have HN := Lib.hid (show addN k X Y M x y m = k + 1 by rw [addN, if_pos hc0])
          have HC := Lib.hid hc0
          have HO := Lib.hid (World.ownsRow_made (base := w2.heap.size) (e := 65) (size := 3) wr #[] 0 hzr (by simp [maxLen]) rfl)
          clear hA hc0
          go_wp2_with (at_builtin; refine wpList_append_own _ rfl _ _ 32 rfl (w2.heap.size) 65 i0 _ 3 24 Try.underlying32 hi0 hz0 hz1 hz2 rfl (by decide) _ _ _ rfl HO.out ad k c (cellF 3 k (f3 X Y M)) rfl (cellF_len _ _ _) (hvw.below (by repeat' (first | (with_reducible exact Below.refl _ _) | (with_reducible assumption) | (with_reducible refine Base.via hbr ?_) | (with_reducible refine Base.grow_alloc ?_ _) | (with_reducible refine Base.below_drewN ?_ _) | (with_reducible refine Below.drew ?_) | (with_reducible refine Below.setCell ?_ ?_ _) | go_size))).news one_f3 (by simp only [maxLen]; omega) (by omega) (by simp; omega) ?_)
          intro v' w3 hown' hgrow _
          have hb3 : Below w2.heap.size w2 w3 := own_grow (by repeat' (first | (with_reducible exact Below.refl _ _) | (with_reducible assumption) | (with_reducible refine Base.via hbr ?_) | (with_reducible refine Base.grow_alloc ?_ _) | (with_reducible refine Base.below_drewN ?_ _) | (with_reducible refine Below.drew ?_) | (with_reducible refine Below.setCell ?_ ?_ _) | go_size)) HO.out (Nat.le_refl _) hgrow
          have hown2 : w3.ownsRow w2.heap.size 65 3 v' k (cellF 3 k (f3 X Y M)) := by first | exact hown' | simpa using hown'
          have r0 := (hb3.cell (p := ⟨w.heap.size, 0, none⟩) hlw).trans k0
          have r1 := (hb3.cell (p := ⟨w.heap.size, 1, none⟩) hlw).trans k1
          have r2 := (hb3.cell (p := ⟨w.heap.size, 2, none⟩) hlw).trans k2
          have hz3 := hb3.size
          clear hown' hgrow
          go_wp2_with (at_builtin; refine wpList_append_own _ rfl _ _ 32 rfl (w2.heap.size) 65 i0 _ 3 24 Try.underlying32 hi0 hz0 hz1 hz2 rfl (by decide) _ _ _ rfl (own_of_below hown2 (by repeat' (first | (with_reducible exact Below.refl _ _) | (with_reducible assumption) | (with_reducible refine Base.grow_alloc ?_ _) | (with_reducible refine Base.below_drewN ?_ _) | (with_reducible refine Below.drew ?_) | (with_reducible refine Below.setCell ?_ ?_ _) | go_size))) ⟨_, 0, none⟩ 1 1 [.int .i64 x, .int .i64 y, .int .i64 m] rfl rfl (cell_newL _ [.int .i64 x, .int .i64 y, .int .i64 m] _ (by simp)) (by simp [Value.oneCell']) (by simp only [maxLen]; omega) (by omega) (by simp; omega) ?_)
          intro v'' w4 hown' hgrow _
          have hb4 : Below w2.heap.size w2 w4 := own_grow (by repeat' (first | (with_reducible exact Below.refl _ _) | (with_reducible assumption) | (with_reducible refine Base.via hb3 ?_) | (with_reducible refine Base.grow_alloc ?_ _) | (with_reducible refine Base.below_drewN ?_ _) | (with_reducible refine Below.drew ?_) | (with_reducible refine Below.setCell ?_ ?_ _) | go_size)) (own_of_below hown2 (by repeat' (first | (with_reducible exact Below.refl _ _) | (with_reducible assumption) | (with_reducible refine Base.grow_alloc ?_ _) | (with_reducible refine Base.below_drewN ?_ _) | (with_reducible refine Below.drew ?_) | (with_reducible refine Below.setCell ?_ ?_ _) | go_size))) (Nat.le_refl _) hgrow
          go_wp2
          go_ret2
          exact ⟨_, ret_o HC.out.symm, by rw [HN.out]; exact OwnK.of_cellF (by rw [← add_cells]; exact World.ownsRow.mono hown' hzz) (by omega), (by repeat' (first | (with_reducible exact Below.refl _ _) | (with_reducible assumption) | (with_reducible refine Base.via hb4 ?_) | (with_reducible refine Base.via hb ?_) | (with_reducible refine Base.grow_alloc ?_ _) | (with_reducible refine Base.below_drewN ?_ _) | (with_reducible refine Below.drew ?_) | (with_reducible refine Below.setCell ?_ ?_ _) | go_size))⟩
  · rcases add_cases n X Y M x y m with ⟨h1, h2, _⟩ | ⟨h1, h2, _⟩ | ⟨h1, h2, _⟩ | ⟨h1, h2, hc⟩ | ⟨h1, hc⟩
    · exact absurd ⟨h1, h2⟩ hok
    · exact absurd ⟨h1, h2⟩ hok
    · exact absurd ⟨h1, h2⟩ hok
    · have HN := Lib.hid (show addN n X Y M x y m = 0 by rw [addN, hc]; rfl)
      have HC := Lib.hid hc
      clear hc hok
      go_enter Try.func42, Try.ntmps42
      go_wp2_with (first | (go_at_call 64; refine (c_l07Ok _ _ _ X Y M _ (hv.below (by repeat' (first | (with_reducible exact Below.refl _ _) | (with_reducible assumption) | (with_reducible refine Base.grow_alloc ?_ _) | (with_reducible refine Base.below_drewN ?_ _) | (with_reducible refine Below.drew ?_) | (with_reducible refine Below.setCell ?_ ?_ _) | go_size)))).mono ?_; rintro e w1 ⟨rfl, hb1⟩; obtain ⟨chb1, fhb1⟩ := Base.bcell hb1; have zhb1 := (hb1).size; (try simp at zhb1); (try have yhb1 : w.heap.size < (w1).heap.size := by omega)) | (go_at_call 96; refine (c_l07One _ _ _ _).mono ?_; rintro e w2 ⟨rfl, hb2⟩; obtain ⟨chb2, fhb2⟩ := Base.bcell hb2; have zhb2 := (hb2).size; (try simp at zhb2); (try have yhb2 : w.heap.size < (w2).heap.size := by omega)))
      go_ret2
      exact ⟨_, ret_o HC.out.symm, OwnK.zero HN.out, (by repeat' (first | (with_reducible exact Below.refl _ _) | (with_reducible assumption) | (with_reducible refine Base.via hb2 ?_) | (with_reducible refine Base.via hb1 ?_) | (with_reducible refine Base.grow_alloc ?_ _) | (with_reducible refine Base.below_drewN ?_ _) | (with_reducible refine Below.drew ?_) | (with_reducible refine Below.setCell ?_ ?_ _) | go_size))⟩
    · have HN := Lib.hid (show addN n X Y M x y m = 0 by rw [addN, hc]; rfl)
      have HC := Lib.hid hc
      clear hc hok
      go_enter Try.func42, Try.ntmps42
      go_wp2_with (first | (go_at_call 64; refine (c_l07Ok _ _ _ X Y M _ (hv.below (by repeat' (first | (with_reducible exact Below.refl _ _) | (with_reducible assumption) | (with_reducible refine Base.grow_alloc ?_ _) | (with_reducible refine Base.below_drewN ?_ _) | (with_reducible refine Below.drew ?_) | (with_reducible refine Below.setCell ?_ ?_ _) | go_size)))).mono ?_; rintro e w1 ⟨rfl, hb1⟩; obtain ⟨chb1, fhb1⟩ := Base.bcell hb1; have zhb1 := (hb1).size; (try simp at zhb1); (try have yhb1 : w.heap.size < (w1).heap.size := by omega)))
      go_ret2
      exact ⟨_, ret_o HC.out.symm, OwnK.zero HN.out, (by repeat' (first | (with_reducible exact Below.refl _ _) | (with_reducible assumption) | (with_reducible refine Base.via hb1 ?_) | (with_reducible refine Base.grow_alloc ?_ _) | (with_reducible refine Base.below_drewN ?_ _) | (with_reducible refine Below.drew ?_) | (with_reducible refine Below.setCell ?_ ?_ _) | go_size))⟩
end Go.Proofs.Ytfpipbajlokheaa.AddM
