/- Labels that clash: both sides. -/
import Derived.Test.YtpkkeoapndpikaaDoorLab3
import Derived.Test.YtpkkeoapndpikaaDoorLab2
import Derived.Test.YtpkkeoapndpikaaDoorPrs
import Derived.Test.YtpkkeoapndpikaaDoorIdx
namespace Go.Proofs.YtpkkeoapndpikaaDoor.Lcl
set_option linter.unusedVariables false
set_option linter.unusedSimpArgs false
set_option maxRecDepth 8000
open Go.RowKit Go.Shelf Plain Num View Chart Frac Dec Txt Lab Idx Nst Prs

/-- do the labels of marks i and k clash -/
def clP (X Y M T : Nat → Int) (i k : Nat) : Bool := meet (bxM (X i) (Y i) (M i) (T i)) (bxM (X k) (Y k) (M k) (T k))
def sdOk (n m : Nat) (T : Nat → Int) : Bool := decide (m = n) && !anyB m (fun i => !inB (T i) 0 3)
def lcC (n : Nat) (X Y M : Nat → Int) (m : Nat) (T : Nat → Int) : Int := if okChart n X Y M = true then (if sdOk n m T = true then 0 else 2) else 1
def lcL (n : Nat) (X Y M : Nat → Int) (m : Nat) (T : Nat → Int) : List (Int × Int) := if lcC n X Y M m T = 0 then prs (clP X Y M T) n n else []
theorem lc_len (n : Nat) (X Y M T : Nat → Int) (h : n ≤ 30) (i : Nat) (hi : i ≤ n) : (prs (clP X Y M T) n i).length ≤ 900 := by
  have h1 := prs_len (p := clP X Y M T) (n := n) (i := i)
  have h2 : i * n ≤ 30 * 30 := Nat.mul_le_mul (by omega) h
  omega
theorem ret_bc {a b : Bool} (h : a = b) : Ending.returned (.bool a) = Ending.returned (.bool b) := by rw [h]
set_option maxHeartbeats 3200000 in
theorem c_lc1 (A A2 : Option Addr) (n c m c2 : Nat) (X Y M T : Nat → Int) (g0 g1 : Nat) (i k : Nat) (w : World) (ht : Tb w) (h0 : w.cell? ⟨g0, 0, none⟩ = some (.slice A n c)) (h1 : w.cell? ⟨g1, 0, none⟩ = some (.slice A2 m c2)) (hv : Sl w 3 A n c (f3 X Y M)) (hu : Sl w 1 A2 m c2 (f1 T)) (hi : i < n) (hk : k < n) (hm : m = n)
    (hmk : ∀ i, i < n → okMark (X i) (Y i) (M i) = true) :
    Calls Tryd.prog 66 #[.int .i64 (i : Int), .int .i64 (k : Int), .pointer (some ⟨g0, 0, none⟩), .pointer (some ⟨g1, 0, none⟩)] w fun e w' => e = .returned (.bool (clP X Y M T i k)) ∧ Below w.heap.size w w' := by
  subst hm
  have HO : Hid (clP X Y M T i k = meet (bxM (X i) (Y i) (M i) (T i)) (bxM (X k) (Y k) (M k) (T k))) := Lib.hid rfl
  have hn := hv.le
  obtain ⟨b, off, rfl, hb, hc⟩ := hv.at_ (by omega)
  obtain ⟨b2, off2, rfl, hb2', hc2⟩ := hu.at_ (by omega)
  obtain ⟨a0, a1, a2⟩ := cells3 hc i hi
  obtain ⟨d0, d1, d2⟩ := cells3 hc k hk
  have s0 := cells1 hc2 i hi
  have s1 := cells1 hc2 k hk
  have HT := Lib.hid ht
  have HL1 := Lib.hid (fun W (hW : Below w.heap.size w W) => c_labelBox (X i) (Y i) (M i) (T i) W (HT.out.below hW) (hmk i hi))
  have HL2 := Lib.hid (fun W (hW : Below w.heap.size w W) => c_labelBox (X k) (Y k) (M k) (T k) W (HT.out.below hW) (hmk k hk))
  have i1 : (0 : Int) ≤ (k : Int) := by omega
  have i2 : (k : Int) < (m : Int) := by omega
  have i3 : (0 : Int) ≤ (i : Int) := by omega
  have i4 : (i : Int) < (m : Int) := by omega
  have HK : ∀ W : World, Below w.heap.size w W → ((W.cell? ⟨g0, 0, none⟩ = some (.slice (some ⟨b, off, none⟩) m c) ∧ W.cell? ⟨g1, 0, none⟩ = some (.slice (some ⟨b2, off2, none⟩) m c2)) ∧ (W.cell? ⟨b, off + i * 3, none⟩ = some (.int .i64 (X i)) ∧ W.cell? ⟨b, off + i * 3 + 1, none⟩ = some (.int .i64 (Y i)) ∧ W.cell? ⟨b, off + i * 3 + 2, none⟩ = some (.int .i64 (M i))) ∧ (W.cell? ⟨b, off + k * 3, none⟩ = some (.int .i64 (X k)) ∧ W.cell? ⟨b, off + k * 3 + 1, none⟩ = some (.int .i64 (Y k)) ∧ W.cell? ⟨b, off + k * 3 + 2, none⟩ = some (.int .i64 (M k))) ∧ W.cell? ⟨b2, off2 + i, none⟩ = some (.int .i64 (T i)) ∧ W.cell? ⟨b2, off2 + k, none⟩ = some (.int .i64 (T k))) ∧ Below w.heap.size w W :=
    fun W hW => ⟨⟨⟨cell_call hW h0, cell_call hW h1⟩, ⟨cell_call hW a0, cell_call hW a1, cell_call hW a2⟩, ⟨cell_call hW d0, cell_call hW d1, cell_call hW d2⟩, cell_call hW s0, cell_call hW s1⟩, hW⟩
  clear hc hc2 hv hu h0 h1 a0 a1 a2 d0 d1 d2 s0 s1 hmk ht
  go_enter Tryd.func66, Tryd.ntmps66
  go_wp2_with fail
  refine wp_region_held_drew (S := (fun W => ((W.cell? ⟨g0, 0, none⟩ = some (.slice (some ⟨b, off, none⟩) m c) ∧ W.cell? ⟨g1, 0, none⟩ = some (.slice (some ⟨b2, off2, none⟩) m c2)) ∧ (W.cell? ⟨b, off + i * 3, none⟩ = some (.int .i64 (X i)) ∧ W.cell? ⟨b, off + i * 3 + 1, none⟩ = some (.int .i64 (Y i)) ∧ W.cell? ⟨b, off + i * 3 + 2, none⟩ = some (.int .i64 (M i))) ∧ (W.cell? ⟨b, off + k * 3, none⟩ = some (.int .i64 (X k)) ∧ W.cell? ⟨b, off + k * 3 + 1, none⟩ = some (.int .i64 (Y k)) ∧ W.cell? ⟨b, off + k * 3 + 2, none⟩ = some (.int .i64 (M k))) ∧ W.cell? ⟨b2, off2 + i, none⟩ = some (.int .i64 (T i)) ∧ W.cell? ⟨b2, off2 + k, none⟩ = some (.int .i64 (T k))) ∧ Below w.heap.size w W)) (by kernel_rfl) (by (try dsimp only); (exact HK _ (by repeat' (first | (with_reducible exact Below.refl _ _) | (with_reducible assumption) | (with_reducible refine Base.via hb3 ?_) | (with_reducible refine Base.via hb2 ?_) | (with_reducible refine Base.via hb1 ?_) | (with_reducible refine Base.grow_alloc ?_ _) | (with_reducible refine Base.below_drewN ?_ _) | (with_reducible refine Below.drew ?_) | (with_reducible refine Below.setCell ?_ ?_ _) | go_size)))) (fun hHeld => ?_)
  refine wpAnyH_take (i := 0) (oi := ⟨some 7, _, _, _, _, _⟩) (v := ?_) rfl (by kernel_rfl) (by kernel_rfl) (by kernel_rfl) (fun _ _ _ h => h) (Or.inl ⟨by rfl, ?_⟩) (by assumption) ?_
  rotate_left
  · (intro w' hSw; (try dsimp only at hSw); go_simp; try with_reducible rfl)
  try simp only [Act.put, List.setIfInBounds_toArray, List.set_cons_zero, List.set_cons_succ]
  refine wpAnyH_take (i := 1) (oi := ⟨some 8, _, _, _, _, _⟩) (v := ?_) rfl (by kernel_rfl) (by kernel_rfl) (by kernel_rfl) (fun _ _ _ h => h) (Or.inl ⟨by rfl, ?_⟩) (by assumption) ?_
  rotate_left
  · (intro w' hSw; (try dsimp only at hSw); go_simp; try with_reducible rfl)
  try simp only [Act.put, List.setIfInBounds_toArray, List.set_cons_zero, List.set_cons_succ]
  refine wpAnyH_take (i := 2) (oi := ⟨some 9, _, _, _, _, _⟩) (v := ?_) rfl (by kernel_rfl) (by kernel_rfl) (by kernel_rfl) (fun _ _ _ h => h) (Or.inl ⟨by rfl, ?_⟩) (by assumption) ?_
  rotate_left
  · (intro w' hSw; (try dsimp only at hSw); go_simp; try with_reducible rfl)
  try simp only [Act.put, List.setIfInBounds_toArray, List.set_cons_zero, List.set_cons_succ]
  refine wpAnyH_take (i := 3) (oi := ⟨some 10, _, _, _, _, _⟩) (v := ?_) rfl (by kernel_rfl) (by kernel_rfl) (by kernel_rfl) (fun _ _ _ h => h) (Or.inl ⟨by rfl, ?_⟩) (by assumption) ?_
  rotate_left
  · (intro w' hSw; (try dsimp only at hSw); go_simp; try with_reducible rfl)
  try simp only [Act.put, List.setIfInBounds_toArray, List.set_cons_zero, List.set_cons_succ]
  refine wpAnyH_take (i := 4) (oi := ⟨some 11, _, _, _, _, _⟩) (v := ?_) rfl (by kernel_rfl) (by kernel_rfl) (by kernel_rfl) (fun _ _ _ h => h) (Or.inl ⟨by rfl, ?_⟩) (by assumption) ?_
  rotate_left
  · (intro w' hSw; (try dsimp only at hSw); go_simp; try with_reducible rfl)
  try simp only [Act.put, List.setIfInBounds_toArray, List.set_cons_zero, List.set_cons_succ]
  refine wpAnyH_take (i := 5) (oi := ⟨some 12, _, _, _, _, _⟩) (v := ?_) rfl (by kernel_rfl) (by kernel_rfl) (by kernel_rfl) (fun _ _ _ h => h) (Or.inl ⟨by rfl, ?_⟩) (by assumption) ?_
  rotate_left
  · (intro w' hSw; (try dsimp only at hSw); go_simp; try with_reducible rfl)
  try simp only [Act.put, List.setIfInBounds_toArray, List.set_cons_zero, List.set_cons_succ]
  refine wpAnyH_take (i := 6) (oi := ⟨some 13, _, _, _, _, _⟩) (v := ?_) rfl (by kernel_rfl) (by kernel_rfl) (by kernel_rfl) (fun _ _ _ h => h) (Or.inl ⟨by rfl, ?_⟩) (by assumption) ?_
  rotate_left
  · (intro w' hSw; (try dsimp only at hSw); go_simp; try with_reducible rfl)
  try simp only [Act.put, List.setIfInBounds_toArray, List.set_cons_zero, List.set_cons_succ]
  refine wpAnyH_take (i := 7) (oi := ⟨some 14, _, _, _, _, _⟩) (v := ?_) rfl (by kernel_rfl) (by kernel_rfl) (by kernel_rfl) (fun _ _ _ h => h) (Or.inl ⟨by rfl, ?_⟩) (by assumption) ?_
  rotate_left
  · (intro w' hSw; (try dsimp only at hSw); go_simp; try with_reducible rfl)
  try simp only [Act.put, List.setIfInBounds_toArray, List.set_cons_zero, List.set_cons_succ]
  refine wpAnyH_take (i := 9) (oi := ⟨some 16, _, _, _, _, _⟩) (v := ?_) rfl (by kernel_rfl) (by kernel_rfl) (by kernel_rfl) (fun _ _ _ h => h) (Or.inl ⟨by rfl, ?_⟩) (by assumption) ?_
  rotate_left
  · (intro w' hSw; (try dsimp only at hSw); go_simp; try with_reducible rfl)
  try simp only [Act.put, List.setIfInBounds_toArray, List.set_cons_zero, List.set_cons_succ]
  refine wpAnyH_take (i := 10) (oi := ⟨some 17, _, _, _, _, _⟩) (v := ?_) rfl (by kernel_rfl) (by kernel_rfl) (by kernel_rfl) (fun _ _ _ h => h) (Or.inl ⟨by rfl, ?_⟩) (by assumption) ?_
  rotate_left
  · (intro w' hSw; (try dsimp only at hSw); go_simp; try with_reducible rfl)
  try simp only [Act.put, List.setIfInBounds_toArray, List.set_cons_zero, List.set_cons_succ]
  refine wpAnyH_take (i := 11) (oi := ⟨some 18, _, _, _, _, _⟩) (v := ?_) rfl (by kernel_rfl) (by kernel_rfl) (by kernel_rfl) (fun _ _ _ h => h) (Or.inl ⟨by rfl, ?_⟩) (by assumption) ?_
  rotate_left
  · (intro w' hSw; (try dsimp only at hSw); go_simp; try with_reducible rfl)
  try simp only [Act.put, List.setIfInBounds_toArray, List.set_cons_zero, List.set_cons_succ]
  refine wpAnyH_take (i := 12) (oi := ⟨some 19, _, _, _, _, _⟩) (v := ?_) rfl (by kernel_rfl) (by kernel_rfl) (by kernel_rfl) (fun _ _ _ h => h) (Or.inl ⟨by rfl, ?_⟩) (by assumption) ?_
  rotate_left
  · (intro w' hSw; (try dsimp only at hSw); go_simp; try with_reducible rfl)
  try simp only [Act.put, List.setIfInBounds_toArray, List.set_cons_zero, List.set_cons_succ]
  refine wpAnyH_take (i := 13) (oi := ⟨some 20, _, _, _, _, _⟩) (v := ?_) rfl (by kernel_rfl) (by kernel_rfl) (by kernel_rfl) (fun _ _ _ h => h) (Or.inl ⟨by rfl, ?_⟩) (by assumption) ?_
  rotate_left
  · (intro w' hSw; (try dsimp only at hSw); go_simp; try with_reducible rfl)
  try simp only [Act.put, List.setIfInBounds_toArray, List.set_cons_zero, List.set_cons_succ]
  refine wpAnyH_take (i := 14) (oi := ⟨some 21, _, _, _, _, _⟩) (v := ?_) rfl (by kernel_rfl) (by kernel_rfl) (by kernel_rfl) (fun _ _ _ h => h) (Or.inl ⟨by rfl, ?_⟩) (by assumption) ?_
  rotate_left
  · (intro w' hSw; (try dsimp only at hSw); go_simp; try with_reducible rfl)
  try simp only [Act.put, List.setIfInBounds_toArray, List.set_cons_zero, List.set_cons_succ]
  refine wpAnyH_take (i := 15) (oi := ⟨some 22, _, _, _, _, _⟩) (v := ?_) rfl (by kernel_rfl) (by kernel_rfl) (by kernel_rfl) (fun _ _ _ h => h) (Or.inl ⟨by rfl, ?_⟩) (by assumption) ?_
  rotate_left
  · (intro w' hSw; (try dsimp only at hSw); go_simp; try with_reducible rfl)
  try simp only [Act.put, List.setIfInBounds_toArray, List.set_cons_zero, List.set_cons_succ]
  refine wpAnyH_take (i := 16) (oi := ⟨some 23, _, _, _, _, _⟩) (v := ?_) rfl (by kernel_rfl) (by kernel_rfl) (by kernel_rfl) (fun _ _ _ h => h) (Or.inl ⟨by rfl, ?_⟩) (by assumption) ?_
  rotate_left
  · (intro w' hSw; (try dsimp only at hSw); go_simp; try with_reducible rfl)
  try simp only [Act.put, List.setIfInBounds_toArray, List.set_cons_zero, List.set_cons_succ]
  refine wpAnyH_ready (rs := [8]) (by kernel_rfl) (by simp) ?_
  refine AllReadyH.cons (o := ⟨some 15, _, _, _, _, _⟩) rfl (fun K hK => ?_) AllReadyH.nil
  go_simp
  (go_at_call 56; refine (HL1.out _ (by repeat' (first | (with_reducible exact Below.refl _ _) | (with_reducible assumption) | (with_reducible refine Base.grow_alloc ?_ _) | (with_reducible refine Base.below_drewN ?_ _) | (with_reducible refine Below.drew ?_) | (with_reducible refine Below.setCell ?_ ?_ _) | go_size))).mono ?_; rintro e w1 ⟨v1, rfl, ho1, hb1⟩)
  refine hK.out _ _ (by (try dsimp only); (exact HK _ (by repeat' (first | (with_reducible exact Below.refl _ _) | (with_reducible assumption) | (with_reducible refine Base.via hb3 ?_) | (with_reducible refine Base.via hb2 ?_) | (with_reducible refine Base.via hb1 ?_) | (with_reducible refine Base.grow_alloc ?_ _) | (with_reducible refine Base.below_drewN ?_ _) | (with_reducible refine Below.drew ?_) | (with_reducible refine Below.setCell ?_ ?_ _) | go_size)))) (fun hHeld => ?_)
  clear hK K
  try simp only [Act.put, List.setIfInBounds_toArray, List.set_cons_zero, List.set_cons_succ]
  refine wpAnyH_ready (rs := [17]) (by kernel_rfl) (by simp) ?_
  refine AllReadyH.cons (o := ⟨some 24, _, _, _, _, _⟩) rfl (fun K hK => ?_) AllReadyH.nil
  go_simp
  (go_at_call 56; refine (HL2.out _ (by repeat' (first | (with_reducible exact Below.refl _ _) | (with_reducible assumption) | (with_reducible refine Base.via hb1 ?_) | (with_reducible refine Base.grow_alloc ?_ _) | (with_reducible refine Base.below_drewN ?_ _) | (with_reducible refine Below.drew ?_) | (with_reducible refine Below.setCell ?_ ?_ _) | go_size))).mono ?_; rintro e w2 ⟨v2, rfl, ho2, hb2⟩; obtain ⟨A1, e1, rfl, V1, _⟩ := ho1.view; obtain ⟨A3, e3, rfl, V3, _⟩ := ho2.view)
  refine hK.out _ _ (by (try dsimp only); (exact HK _ (by repeat' (first | (with_reducible exact Below.refl _ _) | (with_reducible assumption) | (with_reducible refine Base.via hb3 ?_) | (with_reducible refine Base.via hb2 ?_) | (with_reducible refine Base.via hb1 ?_) | (with_reducible refine Base.grow_alloc ?_ _) | (with_reducible refine Base.below_drewN ?_ _) | (with_reducible refine Below.drew ?_) | (with_reducible refine Below.setCell ?_ ?_ _) | go_size)))) (fun hHeld => ?_)
  clear hK K
  try simp only [Act.put, List.setIfInBounds_toArray, List.set_cons_zero, List.set_cons_succ]
  refine wpAnyH_ready (rs := [18]) (by kernel_rfl) (by simp) ?_
  refine AllReadyH.cons (o := ⟨some 25, _, _, _, _, _⟩) rfl (fun K hK => ?_) AllReadyH.nil
  go_simp
  (go_at_call 67; refine (c_overlap _ _ _ _ _ _ _ (V1.below (by repeat' (first | (with_reducible exact Below.refl _ _) | (with_reducible assumption) | (with_reducible refine Base.via hb2 ?_) | (with_reducible refine Base.grow_alloc ?_ _) | (with_reducible refine Base.below_drewN ?_ _) | (with_reducible refine Below.drew ?_) | (with_reducible refine Below.setCell ?_ ?_ _) | go_size))) (V3.below (by repeat' (first | (with_reducible exact Below.refl _ _) | (with_reducible assumption) | (with_reducible refine Base.grow_alloc ?_ _) | (with_reducible refine Base.below_drewN ?_ _) | (with_reducible refine Below.drew ?_) | (with_reducible refine Below.setCell ?_ ?_ _) | go_size)))).mono ?_; rintro e w3 ⟨rfl, hb3⟩)
  refine hK.out _ _ (by (try dsimp only); (exact HK _ (by repeat' (first | (with_reducible exact Below.refl _ _) | (with_reducible assumption) | (with_reducible refine Base.via hb3 ?_) | (with_reducible refine Base.via hb2 ?_) | (with_reducible refine Base.via hb1 ?_) | (with_reducible refine Base.grow_alloc ?_ _) | (with_reducible refine Base.below_drewN ?_ _) | (with_reducible refine Below.drew ?_) | (with_reducible refine Below.setCell ?_ ?_ _) | go_size)))) (fun hHeld => ?_)
  clear hK K
  try simp only [Act.put, List.setIfInBounds_toArray, List.set_cons_zero, List.set_cons_succ]
  refine wpAnyH_take (i := 19) (oi := ⟨some 6, _, _, _, _, _⟩) (v := ?_) rfl (by kernel_rfl) (by kernel_rfl) (by kernel_rfl) (fun _ _ _ h => h) (Or.inl ⟨by rfl, ?_⟩) (by assumption) ?_
  rotate_left
  · (intro w' hSw; (try dsimp only at hSw); go_simp; try with_reducible rfl)
  try simp only [Act.put, List.setIfInBounds_toArray, List.set_cons_zero, List.set_cons_succ]
  refine wpAnyH_done (by kernel_rfl) ?_ _
  go_wp2
  go_ret
  exact ⟨ret_bc HO.out.symm, (‹_ ∧ Below w.heap.size w _›).2⟩
theorem sd_all {n m : Nat} {T : Nat → Int} : sdOk n m T = (allB m (fun i => inB (T i) 0 3) && decide (m = n)) := by
  have h : (!anyB m (fun i => !inB (T i) 0 3)) = allB m (fun i => inB (T i) 0 3) := by
    cases h1 : anyB m (fun i => !inB (T i) 0 3)
    · rw [anyB_false] at h1
      have : allB m (fun i => inB (T i) 0 3) = true := allB_iff.2 (fun i hi => by simpa using h1 i hi)
      rw [this]; rfl
    · rw [anyB_iff] at h1
      obtain ⟨i, hi, h2⟩ := h1
      rw [allB_no hi (by simpa using h2)]
      rfl
  rw [sdOk, h, Bool.and_comm]
set_option maxHeartbeats 1600000 in
theorem c_LabelClashes (A : Option Addr) (n c : Nat) (X Y M : Nat → Int) (A2 : Option Addr) (m c2 : Nat) (T : Nat → Int) (w : World) (hv : Sl w 3 A n c (f3 X Y M)) (hu : Sl w 1 A2 m c2 (f1 T)) (ht : Tb w) :
    Calls Tryd.prog 33 #[.slice A n c, .slice A2 m c2] w fun e w' => ∃ u G, e = .returned (.tuple #[u, .int .i64 (lcC n X Y M m T)]) ∧ Nst w' w.heap.size w'.heap.size 38 2 u (lcL n X Y M m T).length G (pf (lcL n X Y M m T)) ∧ Below w.heap.size w w' := by
  have hn := hv.le
  have hm := hu.le
  have eg : ∀ args w, (callFunc 66 args).run Tryd.prog w = .ok (.enter 66 args) w := enters_of Tryd.func66 (by kernel_rfl) rfl
  have HV := Lib.hid (fun (W : World) (hW : Sl W 3 A n c (f3 X Y M)) => c_ValidChart A n c X Y M W hW)
  have HT := Lib.hid ht
  clear ht
  cases h1 : okChart n X Y M
  · have hc : lcC n X Y M m T = 1 := by rw [lcC, h1]; rfl
    have HL := Lib.hid (show (lcL n X Y M m T).length = 0 by rw [lcL, hc]; rfl)
    have HC := Lib.hid hc
    rw [h1] at HV
    clear hc h1
    go_enter Tryd.func33, Tryd.ntmps33
    go_wp2_with fail
    refine (HV.out _ (hv.below (by repeat' (first | (with_reducible exact Below.refl _ _) | (with_reducible assumption) | (with_reducible refine Base.grow_alloc ?_ _) | (with_reducible refine Base.below_drewN ?_ _) | (with_reducible refine Below.drew ?_) | (with_reducible refine Below.setCell ?_ ?_ _) | go_size)))).mono ?_
    rintro e w1 ⟨rfl, hb1⟩
    go_wp2_with fail
    go_ret2
    exact ⟨_, fun _ => 0, ret_slice HC.out.symm, Nst.nil _ _ _ _ _ _ HL.out, (by repeat' (first | (with_reducible exact Below.refl _ _) | (with_reducible assumption) | (with_reducible refine Base.via hb1 ?_) | (with_reducible refine Base.grow_alloc ?_ _) | (with_reducible refine Base.below_drewN ?_ _) | (with_reducible refine Below.drew ?_) | (with_reducible refine Below.setCell ?_ ?_ _) | go_size))⟩
  · by_cases hmn : m = n
    · have hA := fun W (hW : Sl W 1 A2 m c2 (f1 T)) => c_allIn A2 m c2 T 0 3 W hW
      cases h2 : anyB m (fun i => !inB (T i) 0 3)
      · have hs : sdOk n m T = true := by rw [sdOk, h2, hmn]; simp
        have hc : lcC n X Y M m T = 0 := by rw [lcC, h1, hs]; rfl
        have HL := Lib.hid (show lcL n X Y M m T = prs (clP X Y M T) n n by rw [lcL, if_pos hc])
        have HC := Lib.hid hc
        have HMK := Lib.hid (okChart_mk h1)
        have h30 := okChart_n h1
        rw [h2] at hA
        have HA := Lib.hid hA
        rw [h1] at HV
        clear hc h1 h2 hs hA
        have HMN := Lib.hid hmn
        have hne : (m : Int) = (n : Int) := by omega
        have hneb : ((m : Int) != (n : Int)) = false := by simp [hmn]
        clear hne
        subst hmn
        go_enter Tryd.func33, Tryd.ntmps33
        go_wp2_with fail
        refine (HV.out _ (hv.below (by repeat' (first | (with_reducible exact Below.refl _ _) | (with_reducible assumption) | (with_reducible refine Base.grow_alloc ?_ _) | (with_reducible refine Base.below_drewN ?_ _) | (with_reducible refine Below.drew ?_) | (with_reducible refine Below.setCell ?_ ?_ _) | go_size)))).mono ?_
        rintro e w1 ⟨rfl, hb1⟩
        have k0 : World.cell? w1 ⟨w.heap.size, 0, none⟩ = some (.slice A m c) := ((hb1.cell (p := ⟨w.heap.size, 0, none⟩) (by first | (simp; done) | (simp; omega) | omega)).trans (by simp [go_sem]))
        have k1 : World.cell? w1 ⟨w.heap.size + 1, 0, none⟩ = some (.slice A2 m c2) := ((hb1.cell (p := ⟨w.heap.size + 1, 0, none⟩) (by first | (simp; done) | (simp; omega) | omega)).trans (by simp [go_sem]))
        have hbw : Below w.heap.size w w1 := (by repeat' (first | (with_reducible exact Below.refl _ _) | (with_reducible assumption) | (with_reducible refine Base.via hb1 ?_) | (with_reducible refine Base.grow_alloc ?_ _) | (with_reducible refine Base.below_drewN ?_ _) | (with_reducible refine Below.drew ?_) | (with_reducible refine Below.setCell ?_ ?_ _) | go_size))
        have lk1 := World.block_lt_of_cell? _ _ k1
        dsimp only at lk1
        go_wp2_with fail
        refine (HA.out _ (hu.below hbw)).mono ?_
        rintro e w2 ⟨rfl, hb2⟩
        have q0 := cell_call hb2 k0
        have q1 := cell_call hb2 k1
        have hbw2 : Below w.heap.size w w2 := (by repeat' (first | (with_reducible exact Below.refl _ _) | (with_reducible assumption) | (with_reducible refine Base.via hb2 ?_) | (with_reducible refine Base.via hbw ?_) | (with_reducible refine Base.grow_alloc ?_ _) | (with_reducible refine Base.below_drewN ?_ _) | (with_reducible refine Below.drew ?_) | (with_reducible refine Below.setCell ?_ ?_ _) | go_size))
        have HP := Lib.hid (show Pred2 Tryd.prog w2 66 #[.pointer (some ⟨w.heap.size, 0, none⟩), .pointer (some ⟨w.heap.size + 1, 0, none⟩)] m (clP X Y M T) from fun W hW i k hik hk => c_lc1 A A2 m c m c2 X Y M T w.heap.size (w.heap.size + 1) i k W (HT.out.below (hbw2.trans (hW.mono hbw2.size))) (cell_call hW q0) (cell_call hW q1) (hv.below (hbw2.trans (hW.mono hbw2.size))) (hu.below (hbw2.trans (hW.mono hbw2.size))) (by omega) hk rfl HMK.out)
        clear k0 k1 lk1
        have lq0 := World.block_lt_of_cell? _ _ q0
        dsimp only at lq0
        go_wp2_with fail
        refine (c_pairsWhere m 66 _ _ _ eg (by omega) HP.out).mono ?_
        rintro e w3 ⟨u, G, rfl, ho, hb3⟩
        go_wp2
        go_ret2
        exact ⟨u, G, ret_slice HC.out.symm, by rw [HL.out]; exact ho.mono hbw2.size, (by repeat' (first | (with_reducible exact Below.refl _ _) | (with_reducible assumption) | (with_reducible refine Base.via hb3 ?_) | (with_reducible refine Base.via hbw2 ?_) | (with_reducible refine Base.grow_alloc ?_ _) | (with_reducible refine Base.below_drewN ?_ _) | (with_reducible refine Below.drew ?_) | (with_reducible refine Below.setCell ?_ ?_ _) | go_size))⟩
      · have hs : sdOk n m T = false := by rw [sdOk, h2]; simp
        have hc : lcC n X Y M m T = 2 := by rw [lcC, h1, hs]; rfl
        have HL := Lib.hid (show (lcL n X Y M m T).length = 0 by rw [lcL, hc]; rfl)
        have HC := Lib.hid hc
        rw [h2] at hA
        have HA := Lib.hid hA
        rw [h1] at HV
        clear hc h1 h2 hs hA
        have hneb : ((m : Int) != (n : Int)) = false := by simp [hmn]
        subst hmn
        go_enter Tryd.func33, Tryd.ntmps33
        go_wp2_with fail
        refine (HV.out _ (hv.below (by repeat' (first | (with_reducible exact Below.refl _ _) | (with_reducible assumption) | (with_reducible refine Base.grow_alloc ?_ _) | (with_reducible refine Base.below_drewN ?_ _) | (with_reducible refine Below.drew ?_) | (with_reducible refine Below.setCell ?_ ?_ _) | go_size)))).mono ?_
        rintro e w1 ⟨rfl, hb1⟩
        have k0 : World.cell? w1 ⟨w.heap.size, 0, none⟩ = some (.slice A m c) := ((hb1.cell (p := ⟨w.heap.size, 0, none⟩) (by first | (simp; done) | (simp; omega) | omega)).trans (by simp [go_sem]))
        have k1 : World.cell? w1 ⟨w.heap.size + 1, 0, none⟩ = some (.slice A2 m c2) := ((hb1.cell (p := ⟨w.heap.size + 1, 0, none⟩) (by first | (simp; done) | (simp; omega) | omega)).trans (by simp [go_sem]))
        have hbw : Below w.heap.size w w1 := (by repeat' (first | (with_reducible exact Below.refl _ _) | (with_reducible assumption) | (with_reducible refine Base.via hb1 ?_) | (with_reducible refine Base.grow_alloc ?_ _) | (with_reducible refine Base.below_drewN ?_ _) | (with_reducible refine Below.drew ?_) | (with_reducible refine Below.setCell ?_ ?_ _) | go_size))
        go_wp2_with fail
        refine (HA.out _ (hu.below hbw)).mono ?_
        rintro e w2 ⟨rfl, hb2⟩
        go_wp2_with fail
        go_ret2
        exact ⟨_, fun _ => 0, ret_slice HC.out.symm, Nst.nil _ _ _ _ _ _ HL.out, (by repeat' (first | (with_reducible exact Below.refl _ _) | (with_reducible assumption) | (with_reducible refine Base.via hb2 ?_) | (with_reducible refine Base.via hbw ?_) | (with_reducible refine Base.grow_alloc ?_ _) | (with_reducible refine Base.below_drewN ?_ _) | (with_reducible refine Below.drew ?_) | (with_reducible refine Below.setCell ?_ ?_ _) | go_size))⟩
    · have hs : sdOk n m T = false := by rw [sdOk]; simp [hmn]
      have hc : lcC n X Y M m T = 2 := by rw [lcC, h1, hs]; rfl
      have HL := Lib.hid (show (lcL n X Y M m T).length = 0 by rw [lcL, hc]; rfl)
      have HC := Lib.hid hc
      rw [h1] at HV
      clear hc h1 hs
      have hneb : ((m : Int) != (n : Int)) = true := by simp; omega
      go_enter Tryd.func33, Tryd.ntmps33
      go_wp2_with fail
      refine (HV.out _ (hv.below (by repeat' (first | (with_reducible exact Below.refl _ _) | (with_reducible assumption) | (with_reducible refine Base.grow_alloc ?_ _) | (with_reducible refine Base.below_drewN ?_ _) | (with_reducible refine Below.drew ?_) | (with_reducible refine Below.setCell ?_ ?_ _) | go_size)))).mono ?_
      rintro e w1 ⟨rfl, hb1⟩
      have k0 : World.cell? w1 ⟨w.heap.size, 0, none⟩ = some (.slice A n c) := ((hb1.cell (p := ⟨w.heap.size, 0, none⟩) (by first | (simp; done) | (simp; omega) | omega)).trans (by simp [go_sem]))
      have k1 : World.cell? w1 ⟨w.heap.size + 1, 0, none⟩ = some (.slice A2 m c2) := ((hb1.cell (p := ⟨w.heap.size + 1, 0, none⟩) (by first | (simp; done) | (simp; omega) | omega)).trans (by simp [go_sem]))
      go_wp2_with fail
      go_ret2
      exact ⟨_, fun _ => 0, ret_slice HC.out.symm, Nst.nil _ _ _ _ _ _ HL.out, (by repeat' (first | (with_reducible exact Below.refl _ _) | (with_reducible assumption) | (with_reducible refine Base.via hb1 ?_) | (with_reducible refine Base.grow_alloc ?_ _) | (with_reducible refine Base.below_drewN ?_ _) | (with_reducible refine Below.drew ?_) | (with_reducible refine Below.setCell ?_ ?_ _) | go_size))⟩
theorem c_l07Sides (A : Option Addr) (n c : Nat) (A2 : Option Addr) (m c2 : Nat) (T : Nat → Int) (w : World) (hn : n ≤ 1048576) (hu : Sl w 1 A2 m c2 (f1 T)) :
    Calls Tryd.prog 62 #[.slice A n c, .slice A2 m c2] w fun e w' => e = .returned (.bool (sdOk n m T)) ∧ Below w.heap.size w w' := by
  have hm := hu.le
  have HS : Hid (sdOk n m T = (allB m (fun i => inB (T i) 0 3) && decide (m = n))) := Lib.hid sd_all
  go_enter Tryd.func62, Tryd.ntmps62
  go_wp2
  go_loopw [5] (fun i wr => ∃ k : Nat, k ≤ m ∧ i = .int .i64 k ∧ Hid (allB k (fun i => inB (T i) 0 3) = true) ∧ Below w.heap.size w wr) (fun i _ => m - (intOf i).toNat)
  case atStart => exact ⟨0, Nat.zero_le _, rfl, Lib.hid rfl, Below.refl _ _⟩
  case round =>
    obtain ⟨k, hk, rfl, hall, hbr⟩ := hrel
    by_cases hlt : k < m
    · obtain ⟨b, off, rfl, hb, hc⟩ := (hu.below hbr).at_ (by omega)
      have h0 := cells1 hc k hlt
      clear hc
      cases hi : inB (T k) 0 3
      · have HN := Lib.hid (show sdOk n m T = false by rw [HS.out, allB_no hlt hi]; rfl)
        have HI := Lib.hid (fun W => by have := c_l00In (T k) 0 3 W; rw [hi] at this; exact this)
        clear hi
        go_wp2_with (go_at_call 53; refine (HI.out _).mono ?_; rintro e w' ⟨rfl, rfl⟩)
        go_ret
        exact ⟨ret_bc HN.out.symm, hbr⟩
      · have HY := Lib.hid (allB_yes hall.out hi)
        have HI := Lib.hid (fun W => by have := c_l00In (T k) 0 3 W; rw [hi] at this; exact this)
        clear hi
        go_wp2_with (go_at_call 53; refine (HI.out _).mono ?_; rintro e w' ⟨rfl, rfl⟩)
        exact ⟨⟨k + 1, by omega, by go_num, HY.out, (by repeat' (first | (with_reducible exact Below.refl _ _) | (with_reducible assumption) | (with_reducible refine Base.via hbr ?_) | (with_reducible refine Base.grow_alloc ?_ _) | (with_reducible refine Base.below_drewN ?_ _) | (with_reducible refine Below.drew ?_) | (with_reducible refine Below.setCell ?_ ?_ _) | go_size))⟩, by simp [intOf]; omega⟩
    · have hkn : k = m := by omega
      subst hkn
      have HN := Lib.hid (show sdOk n k T = decide (k = n) by rw [HS.out, hall.out]; rfl)
      by_cases hmn : k = n
      · have he : ((k : Int) == (n : Int)) = true := by simp [hmn]
        have HN2 := Lib.hid (show sdOk n k T = true by rw [HN.out]; simp [hmn])
        go_wp2
        go_ret
        exact ⟨ret_bc HN2.out.symm, hbr⟩
      · have he : ((k : Int) == (n : Int)) = false := by simp; omega
        have HN2 := Lib.hid (show sdOk n k T = false by rw [HN.out]; simp [hmn])
        clear hmn
        go_wp2
        go_ret
        exact ⟨ret_bc HN2.out.symm, hbr⟩
set_option maxHeartbeats 6400000 in
theorem c_specLabelClashes (A : Option Addr) (n c : Nat) (X Y M : Nat → Int) (A2 : Option Addr) (m c2 : Nat) (T : Nat → Int) (w : World) (hv : Sl w 3 A n c (f3 X Y M)) (hu : Sl w 1 A2 m c2 (f1 T)) :
    Calls Tryd.prog 31 #[.slice A n c, .slice A2 m c2] w fun e w' => ∃ u G, e = .returned (.tuple #[u, .int .i64 (lcC n X Y M m T)]) ∧ Nst w' w.heap.size w'.heap.size 38 2 u (lcL n X Y M m T).length G (pf (lcL n X Y M m T)) ∧ Below w.heap.size w w' := by
  have hn := hv.le
  have hm := hu.le
  obtain ⟨i0, hi0, hz0, hz1, hz2⟩ := info_parts infoSl
  have HV := Lib.hid (fun (W : World) (hW : Sl W 3 A n c (f3 X Y M)) => c_l07Ok A n c X Y M W hW)
  have HS := Lib.hid (fun (W : World) (hW : Sl W 1 A2 m c2 (f1 T)) => c_l07Sides A n c A2 m c2 T W hn hW)
  cases h1 : okChart n X Y M
  · have hc : lcC n X Y M m T = 1 := by rw [lcC, h1]; rfl
    have HL := Lib.hid (show (lcL n X Y M m T).length = 0 by rw [lcL, hc]; rfl)
    have HC := Lib.hid hc
    rw [h1] at HV
    clear hc h1
    go_enter Tryd.func31, Tryd.ntmps31
    go_wp2_with fail
    refine (HV.out _ (hv.below (by repeat' (first | (with_reducible exact Below.refl _ _) | (with_reducible assumption) | (with_reducible refine Base.grow_alloc ?_ _) | (with_reducible refine Base.below_drewN ?_ _) | (with_reducible refine Below.drew ?_) | (with_reducible refine Below.setCell ?_ ?_ _) | go_size)))).mono ?_
    rintro e w1 ⟨rfl, hb1⟩
    go_wp2_with fail
    go_ret2
    exact ⟨_, fun _ => 0, ret_slice HC.out.symm, Nst.nil _ _ _ _ _ _ HL.out, (by repeat' (first | (with_reducible exact Below.refl _ _) | (with_reducible assumption) | (with_reducible refine Base.via hb1 ?_) | (with_reducible refine Base.grow_alloc ?_ _) | (with_reducible refine Base.below_drewN ?_ _) | (with_reducible refine Below.drew ?_) | (with_reducible refine Below.setCell ?_ ?_ _) | go_size))⟩
  · cases h2 : sdOk n m T
    · have hc : lcC n X Y M m T = 2 := by rw [lcC, h1, h2]; rfl
      have HL := Lib.hid (show (lcL n X Y M m T).length = 0 by rw [lcL, hc]; rfl)
      have HC := Lib.hid hc
      rw [h1] at HV
      rw [h2] at HS
      clear hc h1 h2
      go_enter Tryd.func31, Tryd.ntmps31
      go_wp2_with fail
      refine (HV.out _ (hv.below (by repeat' (first | (with_reducible exact Below.refl _ _) | (with_reducible assumption) | (with_reducible refine Base.grow_alloc ?_ _) | (with_reducible refine Base.below_drewN ?_ _) | (with_reducible refine Below.drew ?_) | (with_reducible refine Below.setCell ?_ ?_ _) | go_size)))).mono ?_
      rintro e w1 ⟨rfl, hb1⟩
      go_wp2_with fail
      refine (HS.out _ (hu.below (by repeat' (first | (with_reducible exact Below.refl _ _) | (with_reducible assumption) | (with_reducible refine Base.via hb1 ?_) | (with_reducible refine Base.grow_alloc ?_ _) | (with_reducible refine Base.below_drewN ?_ _) | (with_reducible refine Below.drew ?_) | (with_reducible refine Below.setCell ?_ ?_ _) | go_size)))).mono ?_
      rintro e w2 ⟨rfl, hb2⟩
      go_wp2_with fail
      go_ret2
      exact ⟨_, fun _ => 0, ret_slice HC.out.symm, Nst.nil _ _ _ _ _ _ HL.out, (by repeat' (first | (with_reducible exact Below.refl _ _) | (with_reducible assumption) | (with_reducible refine Base.via hb2 ?_) | (with_reducible refine Base.via hb1 ?_) | (with_reducible refine Base.grow_alloc ?_ _) | (with_reducible refine Base.below_drewN ?_ _) | (with_reducible refine Below.drew ?_) | (with_reducible refine Below.setCell ?_ ?_ _) | go_size))⟩
    · obtain rfl : m = n := by
        rw [sdOk] at h2
        exact of_decide_eq_true (Bool.and_eq_true_iff.1 h2).1
      have hc : lcC m X Y M m T = 0 := by rw [lcC, h1, h2]; rfl
      have HL := Lib.hid (show lcL m X Y M m T = prs (clP X Y M T) m m by rw [lcL, if_pos hc])
      have HC := Lib.hid hc
      have HMK := Lib.hid (okChart_mk h1)
      have h30 := okChart_n h1
      have HPL := Lib.hid (lc_len m X Y M T h30)
      rw [h1] at HV
      rw [h2] at HS
      clear hc h1 h2
      go_enter Tryd.func31, Tryd.ntmps31
      go_wp2_with fail
      refine (HV.out _ (hv.below (by repeat' (first | (with_reducible exact Below.refl _ _) | (with_reducible assumption) | (with_reducible refine Base.grow_alloc ?_ _) | (with_reducible refine Base.below_drewN ?_ _) | (with_reducible refine Below.drew ?_) | (with_reducible refine Below.setCell ?_ ?_ _) | go_size)))).mono ?_
      rintro e w1 ⟨rfl, hb1⟩
      go_wp2_with fail
      refine (HS.out _ (hu.below (by repeat' (first | (with_reducible exact Below.refl _ _) | (with_reducible assumption) | (with_reducible refine Base.via hb1 ?_) | (with_reducible refine Base.grow_alloc ?_ _) | (with_reducible refine Base.below_drewN ?_ _) | (with_reducible refine Below.drew ?_) | (with_reducible refine Below.setCell ?_ ?_ _) | go_size)))).mono ?_
      rintro e w2 ⟨rfl, hb2⟩
      have hbw : Below w.heap.size w w2 := (by repeat' (first | (with_reducible exact Below.refl _ _) | (with_reducible assumption) | (with_reducible refine Base.via hb2 ?_) | (with_reducible refine Base.via hb1 ?_) | (with_reducible refine Base.grow_alloc ?_ _) | (with_reducible refine Base.below_drewN ?_ _) | (with_reducible refine Below.drew ?_) | (with_reducible refine Below.setCell ?_ ?_ _) | go_size))
      go_wp2
      go_loopw [6, 7, 8] (fun v q _ wr => ∃ (i : Nat) (G : Nat → Nat), i ≤ m ∧ q = .int .i64 i ∧ Hid (Bld wr w2.heap.size 38 2 v (prs (clP X Y M T) m i) G) ∧ Below w2.heap.size w2 wr) (fun _ q _ _ => m - (intOf q).toNat)
      case atStart => exact ⟨0, _, Nat.zero_le _, rfl, Bld.made (Nat.le_refl _), (by repeat' (first | (with_reducible exact Below.refl _ _) | (with_reducible assumption) | (with_reducible refine Base.grow_alloc ?_ _) | (with_reducible refine Base.below_drewN ?_ _) | (with_reducible refine Below.drew ?_) | (with_reducible refine Below.setCell ?_ ?_ _) | go_size))⟩
      case round =>
        obtain ⟨i, G0, hi, rfl, hbl, hbr⟩ := hrel
        have hz := hbr.size
        by_cases hlt : i < m
        · have HB := Lib.hid hbl.out
          have hll := HPL.out i hi
          have HPI := Lib.hid (show prs (clP X Y M T) m (i + 1) = prs (clP X Y M T) m i ++ rowP (clP X Y M T) i m from rfl)
          have HR0 := Lib.hid (show prs (clP X Y M T) m i ++ rowP (clP X Y M T) i (i + 1) = prs (clP X Y M T) m i by rw [rowP_lo (Nat.le_refl _), List.append_nil])
          clear hbl
          go_wp2
          obtain ⟨wo, hwo⟩ : ∃ wo : World, wo = wr := ⟨_, rfl⟩
          rw [← hwo] at hbr hz HB ⊢
          clear hwo
          go_loopw [6, 8] (fun v q wq => ∃ (k : Nat) (G : Nat → Nat), i + 1 ≤ k ∧ k ≤ m ∧ q = .int .i64 k ∧ Hid (Bld wq w2.heap.size 38 2 v (prs (clP X Y M T) m i ++ rowP (clP X Y M T) i k) G) ∧ Below w2.heap.size w2 wq) (fun _ q _ => m - (intOf q).toNat)
          case atStart => exact ⟨i + 1, G0, Nat.le_refl _, by omega, by go_num, (by rw [HR0.out]; exact HB.out), hbr⟩
          case round =>
            obtain ⟨k, G, hik, hkn, rfl, hbk, hbq⟩ := hrel
            have hzq := hbq.size
            have hrl := rowP_len (p := clP X Y M T) (i := i) (k := k)
            have hlen : (prs (clP X Y M T) m i ++ rowP (clP X Y M T) i k).length ≤ 20000 := by rw [List.length_append]; omega
            by_cases hlk : k < m
            · have hbwr : Below w.heap.size w wr := hbw.trans (hbq.mono hbw.size)
              obtain ⟨b, off, rfl, hb, hc⟩ := (hv.below hbwr).at_ (by omega)
              obtain ⟨b2, off2, rfl, hb2', hc2⟩ := (hu.below hbwr).at_ (by omega)
              obtain ⟨a0, a1, a2⟩ := cells3 hc i hlt
              obtain ⟨d0, d1, d2⟩ := cells3 hc k hlk
              have s0 := cells1 hc2 i hlt
              have s1 := cells1 hc2 k hlk
              have HL1 := Lib.hid (fun W => c_l07Box (X i) (Y i) (M i) (T i) W (HMK.out i hlt))
              have HL2 := Lib.hid (fun W => c_l07Box (X k) (Y k) (M k) (T k) W (HMK.out k hlk))
              have HO : Hid (clP X Y M T i k = meet (bxM (X i) (Y i) (M i) (T i)) (bxM (X k) (Y k) (M k) (T k))) := Lib.hid rfl
              have HY := Lib.hid (fun (h : clP X Y M T i k = true) => show prs (clP X Y M T) m i ++ rowP (clP X Y M T) i (k + 1) = (prs (clP X Y M T) m i ++ rowP (clP X Y M T) i k) ++ [((i : Int), (k : Int))] by rw [rowP_yes (by omega) h, List.append_assoc])
              have HN := Lib.hid (fun (h : clP X Y M T i k = false) => show prs (clP X Y M T) m i ++ rowP (clP X Y M T) i (k + 1) = prs (clP X Y M T) m i ++ rowP (clP X Y M T) i k by rw [rowP_no h])
              have i1 : (0 : Int) ≤ (k : Int) := by omega
              have i2 : (k : Int) < (m : Int) := by omega
              have i3 : (0 : Int) ≤ (i : Int) := by omega
              have i4 : (i : Int) < (m : Int) := by omega
              have HK : ∀ W : World, Below wr.heap.size wr W → ((W.cell? ⟨b, off + i * 3, none⟩ = some (.int .i64 (X i)) ∧ W.cell? ⟨b, off + i * 3 + 1, none⟩ = some (.int .i64 (Y i)) ∧ W.cell? ⟨b, off + i * 3 + 2, none⟩ = some (.int .i64 (M i))) ∧ (W.cell? ⟨b, off + k * 3, none⟩ = some (.int .i64 (X k)) ∧ W.cell? ⟨b, off + k * 3 + 1, none⟩ = some (.int .i64 (Y k)) ∧ W.cell? ⟨b, off + k * 3 + 2, none⟩ = some (.int .i64 (M k))) ∧ W.cell? ⟨b2, off2 + i, none⟩ = some (.int .i64 (T i)) ∧ W.cell? ⟨b2, off2 + k, none⟩ = some (.int .i64 (T k))) ∧ Below wr.heap.size wr W :=
                fun W hW => ⟨⟨⟨cell_call hW a0, cell_call hW a1, cell_call hW a2⟩, ⟨cell_call hW d0, cell_call hW d1, cell_call hW d2⟩, cell_call hW s0, cell_call hW s1⟩, hW⟩
              have HBW := Lib.hid hbwr
              clear hc hc2 a0 a1 a2 d0 d1 d2 s0 s1 hbwr
              generalize prs (clP X Y M T) m i ++ rowP (clP X Y M T) i k = L at *
              generalize clP X Y M T i k = z at *
              go_wp2_with fail
              refine wp_region_held_drew (S := (fun W => ((W.cell? ⟨b, off + i * 3, none⟩ = some (.int .i64 (X i)) ∧ W.cell? ⟨b, off + i * 3 + 1, none⟩ = some (.int .i64 (Y i)) ∧ W.cell? ⟨b, off + i * 3 + 2, none⟩ = some (.int .i64 (M i))) ∧ (W.cell? ⟨b, off + k * 3, none⟩ = some (.int .i64 (X k)) ∧ W.cell? ⟨b, off + k * 3 + 1, none⟩ = some (.int .i64 (Y k)) ∧ W.cell? ⟨b, off + k * 3 + 2, none⟩ = some (.int .i64 (M k))) ∧ W.cell? ⟨b2, off2 + i, none⟩ = some (.int .i64 (T i)) ∧ W.cell? ⟨b2, off2 + k, none⟩ = some (.int .i64 (T k))) ∧ Below wr.heap.size wr W)) (by kernel_rfl) (by (try dsimp only); (exact HK _ (by repeat' (first | (with_reducible exact Below.refl _ _) | (with_reducible assumption) | (with_reducible refine Base.via hb5 ?_) | (with_reducible refine Base.via hb4 ?_) | (with_reducible refine Base.via hb3 ?_) | (with_reducible refine Base.grow_alloc ?_ _) | (with_reducible refine Base.below_drewN ?_ _) | (with_reducible refine Below.drew ?_) | (with_reducible refine Below.setCell ?_ ?_ _) | go_size)))) (fun hHeld => ?_)
              refine wpAnyH_take (i := 0) (oi := ⟨some 31, _, _, _, _, _⟩) (v := ?_) rfl (by kernel_rfl) (by kernel_rfl) (by kernel_rfl) (fun _ _ _ h => h) (Or.inl ⟨by rfl, ?_⟩) (by assumption) ?_
              rotate_left
              · (intro w' hSw; (try dsimp only at hSw); go_simp; try with_reducible rfl)
              try simp only [Act.put, List.setIfInBounds_toArray, List.set_cons_zero, List.set_cons_succ]
              refine wpAnyH_take (i := 1) (oi := ⟨some 32, _, _, _, _, _⟩) (v := ?_) rfl (by kernel_rfl) (by kernel_rfl) (by kernel_rfl) (fun _ _ _ h => h) (Or.inl ⟨by rfl, ?_⟩) (by assumption) ?_
              rotate_left
              · (intro w' hSw; (try dsimp only at hSw); go_simp; try with_reducible rfl)
              try simp only [Act.put, List.setIfInBounds_toArray, List.set_cons_zero, List.set_cons_succ]
              refine wpAnyH_take (i := 2) (oi := ⟨some 33, _, _, _, _, _⟩) (v := ?_) rfl (by kernel_rfl) (by kernel_rfl) (by kernel_rfl) (fun _ _ _ h => h) (Or.inl ⟨by rfl, ?_⟩) (by assumption) ?_
              rotate_left
              · (intro w' hSw; (try dsimp only at hSw); go_simp; try with_reducible rfl)
              try simp only [Act.put, List.setIfInBounds_toArray, List.set_cons_zero, List.set_cons_succ]
              refine wpAnyH_take (i := 3) (oi := ⟨some 34, _, _, _, _, _⟩) (v := ?_) rfl (by kernel_rfl) (by kernel_rfl) (by kernel_rfl) (fun _ _ _ h => h) (Or.inl ⟨by rfl, ?_⟩) (by assumption) ?_
              rotate_left
              · (intro w' hSw; (try dsimp only at hSw); go_simp; try with_reducible rfl)
              try simp only [Act.put, List.setIfInBounds_toArray, List.set_cons_zero, List.set_cons_succ]
              refine wpAnyH_take (i := 4) (oi := ⟨some 35, _, _, _, _, _⟩) (v := ?_) rfl (by kernel_rfl) (by kernel_rfl) (by kernel_rfl) (fun _ _ _ h => h) (Or.inl ⟨by rfl, ?_⟩) (by assumption) ?_
              rotate_left
              · (intro w' hSw; (try dsimp only at hSw); go_simp; try with_reducible rfl)
              try simp only [Act.put, List.setIfInBounds_toArray, List.set_cons_zero, List.set_cons_succ]
              refine wpAnyH_take (i := 5) (oi := ⟨some 36, _, _, _, _, _⟩) (v := ?_) rfl (by kernel_rfl) (by kernel_rfl) (by kernel_rfl) (fun _ _ _ h => h) (Or.inl ⟨by rfl, ?_⟩) (by assumption) ?_
              rotate_left
              · (intro w' hSw; (try dsimp only at hSw); go_simp; try with_reducible rfl)
              try simp only [Act.put, List.setIfInBounds_toArray, List.set_cons_zero, List.set_cons_succ]
              refine wpAnyH_take (i := 6) (oi := ⟨some 37, _, _, _, _, _⟩) (v := ?_) rfl (by kernel_rfl) (by kernel_rfl) (by kernel_rfl) (fun _ _ _ h => h) (Or.inl ⟨by rfl, ?_⟩) (by assumption) ?_
              rotate_left
              · (intro w' hSw; (try dsimp only at hSw); go_simp; try with_reducible rfl)
              try simp only [Act.put, List.setIfInBounds_toArray, List.set_cons_zero, List.set_cons_succ]
              refine wpAnyH_take (i := 7) (oi := ⟨some 38, _, _, _, _, _⟩) (v := ?_) rfl (by kernel_rfl) (by kernel_rfl) (by kernel_rfl) (fun _ _ _ h => h) (Or.inl ⟨by rfl, ?_⟩) (by assumption) ?_
              rotate_left
              · (intro w' hSw; (try dsimp only at hSw); go_simp; try with_reducible rfl)
              try simp only [Act.put, List.setIfInBounds_toArray, List.set_cons_zero, List.set_cons_succ]
              refine wpAnyH_take (i := 9) (oi := ⟨some 40, _, _, _, _, _⟩) (v := ?_) rfl (by kernel_rfl) (by kernel_rfl) (by kernel_rfl) (fun _ _ _ h => h) (Or.inl ⟨by rfl, ?_⟩) (by assumption) ?_
              rotate_left
              · (intro w' hSw; (try dsimp only at hSw); go_simp; try with_reducible rfl)
              try simp only [Act.put, List.setIfInBounds_toArray, List.set_cons_zero, List.set_cons_succ]
              refine wpAnyH_take (i := 10) (oi := ⟨some 41, _, _, _, _, _⟩) (v := ?_) rfl (by kernel_rfl) (by kernel_rfl) (by kernel_rfl) (fun _ _ _ h => h) (Or.inl ⟨by rfl, ?_⟩) (by assumption) ?_
              rotate_left
              · (intro w' hSw; (try dsimp only at hSw); go_simp; try with_reducible rfl)
              try simp only [Act.put, List.setIfInBounds_toArray, List.set_cons_zero, List.set_cons_succ]
              refine wpAnyH_take (i := 11) (oi := ⟨some 42, _, _, _, _, _⟩) (v := ?_) rfl (by kernel_rfl) (by kernel_rfl) (by kernel_rfl) (fun _ _ _ h => h) (Or.inl ⟨by rfl, ?_⟩) (by assumption) ?_
              rotate_left
              · (intro w' hSw; (try dsimp only at hSw); go_simp; try with_reducible rfl)
              try simp only [Act.put, List.setIfInBounds_toArray, List.set_cons_zero, List.set_cons_succ]
              refine wpAnyH_take (i := 12) (oi := ⟨some 43, _, _, _, _, _⟩) (v := ?_) rfl (by kernel_rfl) (by kernel_rfl) (by kernel_rfl) (fun _ _ _ h => h) (Or.inl ⟨by rfl, ?_⟩) (by assumption) ?_
              rotate_left
              · (intro w' hSw; (try dsimp only at hSw); go_simp; try with_reducible rfl)
              try simp only [Act.put, List.setIfInBounds_toArray, List.set_cons_zero, List.set_cons_succ]
              refine wpAnyH_take (i := 13) (oi := ⟨some 44, _, _, _, _, _⟩) (v := ?_) rfl (by kernel_rfl) (by kernel_rfl) (by kernel_rfl) (fun _ _ _ h => h) (Or.inl ⟨by rfl, ?_⟩) (by assumption) ?_
              rotate_left
              · (intro w' hSw; (try dsimp only at hSw); go_simp; try with_reducible rfl)
              try simp only [Act.put, List.setIfInBounds_toArray, List.set_cons_zero, List.set_cons_succ]
              refine wpAnyH_take (i := 14) (oi := ⟨some 45, _, _, _, _, _⟩) (v := ?_) rfl (by kernel_rfl) (by kernel_rfl) (by kernel_rfl) (fun _ _ _ h => h) (Or.inl ⟨by rfl, ?_⟩) (by assumption) ?_
              rotate_left
              · (intro w' hSw; (try dsimp only at hSw); go_simp; try with_reducible rfl)
              try simp only [Act.put, List.setIfInBounds_toArray, List.set_cons_zero, List.set_cons_succ]
              refine wpAnyH_take (i := 15) (oi := ⟨some 46, _, _, _, _, _⟩) (v := ?_) rfl (by kernel_rfl) (by kernel_rfl) (by kernel_rfl) (fun _ _ _ h => h) (Or.inl ⟨by rfl, ?_⟩) (by assumption) ?_
              rotate_left
              · (intro w' hSw; (try dsimp only at hSw); go_simp; try with_reducible rfl)
              try simp only [Act.put, List.setIfInBounds_toArray, List.set_cons_zero, List.set_cons_succ]
              refine wpAnyH_take (i := 16) (oi := ⟨some 47, _, _, _, _, _⟩) (v := ?_) rfl (by kernel_rfl) (by kernel_rfl) (by kernel_rfl) (fun _ _ _ h => h) (Or.inl ⟨by rfl, ?_⟩) (by assumption) ?_
              rotate_left
              · (intro w' hSw; (try dsimp only at hSw); go_simp; try with_reducible rfl)
              try simp only [Act.put, List.setIfInBounds_toArray, List.set_cons_zero, List.set_cons_succ]
              refine wpAnyH_ready (rs := [8]) (by kernel_rfl) (by simp) ?_
              refine AllReadyH.cons (o := ⟨some 39, _, _, _, _, _⟩) rfl (fun K hK => ?_) AllReadyH.nil
              go_simp
              (go_at_call 54; refine (HL1.out _).mono ?_; rintro e w3 ⟨v1, rfl, ho1, hb3⟩)
              refine hK.out _ _ (by (try dsimp only); (exact HK _ (by repeat' (first | (with_reducible exact Below.refl _ _) | (with_reducible assumption) | (with_reducible refine Base.via hb5 ?_) | (with_reducible refine Base.via hb4 ?_) | (with_reducible refine Base.via hb3 ?_) | (with_reducible refine Base.grow_alloc ?_ _) | (with_reducible refine Base.below_drewN ?_ _) | (with_reducible refine Below.drew ?_) | (with_reducible refine Below.setCell ?_ ?_ _) | go_size)))) (fun hHeld => ?_)
              clear hK K
              try simp only [Act.put, List.setIfInBounds_toArray, List.set_cons_zero, List.set_cons_succ]
              refine wpAnyH_ready (rs := [17]) (by kernel_rfl) (by simp) ?_
              refine AllReadyH.cons (o := ⟨some 48, _, _, _, _, _⟩) rfl (fun K hK => ?_) AllReadyH.nil
              go_simp
              (go_at_call 54; refine (HL2.out _).mono ?_; rintro e w4 ⟨v2, rfl, ho2, hb4⟩; obtain ⟨A1, e1, rfl, V1, _⟩ := ho1.view; obtain ⟨A3, e3, rfl, V3, _⟩ := ho2.view)
              refine hK.out _ _ (by (try dsimp only); (exact HK _ (by repeat' (first | (with_reducible exact Below.refl _ _) | (with_reducible assumption) | (with_reducible refine Base.via hb5 ?_) | (with_reducible refine Base.via hb4 ?_) | (with_reducible refine Base.via hb3 ?_) | (with_reducible refine Base.grow_alloc ?_ _) | (with_reducible refine Base.below_drewN ?_ _) | (with_reducible refine Below.drew ?_) | (with_reducible refine Below.setCell ?_ ?_ _) | go_size)))) (fun hHeld => ?_)
              clear hK K
              try simp only [Act.put, List.setIfInBounds_toArray, List.set_cons_zero, List.set_cons_succ]
              refine wpAnyH_ready (rs := [18]) (by kernel_rfl) (by simp) ?_
              refine AllReadyH.cons (o := ⟨some 49, _, _, _, _, _⟩) rfl (fun K hK => ?_) AllReadyH.nil
              go_simp
              (go_at_call 63; refine (c_l07Meet _ _ _ _ _ _ _ (V1.below (by repeat' (first | (with_reducible exact Below.refl _ _) | (with_reducible assumption) | (with_reducible refine Base.via hb4 ?_) | (with_reducible refine Base.grow_alloc ?_ _) | (with_reducible refine Base.below_drewN ?_ _) | (with_reducible refine Below.drew ?_) | (with_reducible refine Below.setCell ?_ ?_ _) | go_size))) (V3.below (by repeat' (first | (with_reducible exact Below.refl _ _) | (with_reducible assumption) | (with_reducible refine Base.grow_alloc ?_ _) | (with_reducible refine Base.below_drewN ?_ _) | (with_reducible refine Below.drew ?_) | (with_reducible refine Below.setCell ?_ ?_ _) | go_size)))).mono ?_; rintro e w5 ⟨rfl, hb5⟩)
              refine hK.out _ _ (by (try dsimp only); (exact HK _ (by repeat' (first | (with_reducible exact Below.refl _ _) | (with_reducible assumption) | (with_reducible refine Base.via hb5 ?_) | (with_reducible refine Base.via hb4 ?_) | (with_reducible refine Base.via hb3 ?_) | (with_reducible refine Base.grow_alloc ?_ _) | (with_reducible refine Base.below_drewN ?_ _) | (with_reducible refine Below.drew ?_) | (with_reducible refine Below.setCell ?_ ?_ _) | go_size)))) (fun hHeld => ?_)
              clear hK K
              try simp only [Act.put, List.setIfInBounds_toArray, List.set_cons_zero, List.set_cons_succ]
              refine wpAnyH_done (by kernel_rfl) ?_ _
              have hb6 : Below wr.heap.size wr w5 := (‹_ ∧ Below wr.heap.size wr w5›).2
              clear hHeld HK V1 V3 hb3 hb4 hb5
              rw [← HO.out]
              have zz := hb6.size
              cases z
              · have HN2 := Lib.hid (HN.out rfl)
                clear HN HY
                go_wp2
                exact ⟨⟨k + 1, G, by omega, by omega, by go_num, by rw [HN2.out]; exact hbk.out.below (by repeat' (first | (with_reducible exact Below.refl _ _) | (with_reducible assumption) | (with_reducible refine Base.via hb6 ?_) | (with_reducible refine Base.grow_alloc ?_ _) | (with_reducible refine Base.below_drewN ?_ _) | (with_reducible refine Below.drew ?_) | (with_reducible refine Below.setCell ?_ ?_ _) | go_size)), (by repeat' (first | (with_reducible exact Below.refl _ _) | (with_reducible assumption) | (with_reducible refine Base.via hb6 ?_) | (with_reducible refine Base.via hbq ?_) | (with_reducible refine Base.grow_alloc ?_ _) | (with_reducible refine Base.below_drewN ?_ _) | (with_reducible refine Below.drew ?_) | (with_reducible refine Below.setCell ?_ ?_ _) | go_size))⟩, by simp [intOf]; omega⟩
              · have HY2 := Lib.hid (HY.out rfl)
                clear HN HY
                have hbd := Lib.hid (hbk.out.below hb6)
                go_wp2_with (at_builtin; refine wpList_append_lies _ rfl _ _ 52 rfl (w2.heap.size) 38 i0 _ 1 24 Tryd.underlying52 hi0 hz0 hz1 hz2 rfl (by decide) _ _ _ rfl (own_of_below hbd.out.1 (by repeat' (first | (with_reducible exact Below.refl _ _) | (with_reducible assumption) | (with_reducible refine Base.grow_alloc ?_ _) | (with_reducible refine Base.below_drewN ?_ _) | (with_reducible refine Below.drew ?_) | (with_reducible refine Below.setCell ?_ ?_ _) | go_size))) ⟨_, 0, none⟩ 1 1 [.slice (some ⟨w5.heap.size, 0, none⟩) 2 2] rfl rfl (cell_newL _ [.slice (some ⟨w5.heap.size, 0, none⟩) 2 2] _ (by simp)) (by simp [Value.oneCell']) (by decide) (by simp only [maxLen]; omega) (by omega) (by simp; omega) _ rfl ?_)
                intro g' cap w7 hown' hgrow hat _
                have HB2 := Lib.hid (hbd.out.snoc (x := (i : Int)) (y := (k : Int)) (by omega) (by repeat' (first | (with_reducible exact Below.refl _ _) | (with_reducible assumption) | (with_reducible refine Base.grow_alloc ?_ _) | (with_reducible refine Base.below_drewN ?_ _) | (with_reducible refine Below.drew ?_) | (with_reducible refine Below.setCell ?_ ?_ _) | go_size)) (Nat.le_refl _) ((lit_row (i : Int) (k : Int)).alloc _) hown' hgrow (hat.imp id fun e => by simp; omega))
                have hb7 : Below w2.heap.size w2 w7 := hbd.out.grown (by repeat' (first | (with_reducible exact Below.refl _ _) | (with_reducible assumption) | (with_reducible refine Base.via hb6 ?_) | (with_reducible refine Base.via hbq ?_) | (with_reducible refine Base.grow_alloc ?_ _) | (with_reducible refine Base.below_drewN ?_ _) | (with_reducible refine Below.drew ?_) | (with_reducible refine Below.setCell ?_ ?_ _) | go_size)) hgrow (Nat.le_refl _) (by simp; omega)
                clear hown' hgrow hat hbd
                go_wp2
                exact ⟨⟨k + 1, _, by omega, by omega, by go_num, by rw [HY2.out]; exact HB2.out, hb7⟩, by simp [intOf]; omega⟩
            · have hkn' : k = m := by omega
              subst hkn'
              go_wp2
              exact ⟨⟨i + 1, G, by omega, by go_num, by rw [HPI.out]; exact hbk.out, hbq⟩, by simp [intOf]; omega⟩
        · have hkn : i = m := by omega
          subst hkn
          have hll := HPL.out i hi
          go_wp2
          go_ret2
          exact ⟨_, _, ret_slice HC.out.symm, by rw [HL.out]; exact (hbl.out.nst (by omega)).mono hbw.size, (by repeat' (first | (with_reducible exact Below.refl _ _) | (with_reducible assumption) | (with_reducible refine Base.via hbr ?_) | (with_reducible refine Base.via hbw ?_) | (with_reducible refine Base.grow_alloc ?_ _) | (with_reducible refine Base.below_drewN ?_ _) | (with_reducible refine Below.drew ?_) | (with_reducible refine Below.setCell ?_ ?_ _) | go_size))⟩
end Go.Proofs.YtpkkeoapndpikaaDoor.Lcl
