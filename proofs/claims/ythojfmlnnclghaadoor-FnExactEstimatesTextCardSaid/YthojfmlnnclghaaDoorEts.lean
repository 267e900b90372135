/- The text of a list of estimates: the reference's side. -/
import Derived.Test.YthojfmlnnclghaaDoorEti
namespace Go.Proofs.YthojfmlnnclghaaDoor.Etx
set_option linter.unusedVariables false
set_option linter.unusedSimpArgs false
set_option maxRecDepth 8000
open Go.RowKit Plain Num View Dec Txt Est Es1 Name Bd OkE

section
variable {P : Program}
theorem step_append_str {w : World} {ops : Array Oper} {o : Oper} {a : Act} {K : Act → World → Prop} {Q : Exit → Act → World → Prop} {F : Prop} (hgd : o.guard = none) (sl x : Operand) (t u : TypeId)
    (ho : o.op = .call { callee := .builtin .append, args := #[sl, x], argTypes := #[t, u] })
    (base : Nat) (e : TypeId) (i : TypeInfo) (ht : P.underlying t = some (.slice e)) (hu : P.underlying u = some .string) (hi : P.info? e = some i) (hz : i.zero = some (.int .u8 0))
    (hsize : i.size = 1) (hby : i.bytes = 1)
    (v : Value) (n : Nat) (xs : List Value) (hs : a.eval sl = v) (hown : w.ownsRow base e 1 v n xs) (s : ByteArray) (hx : a.eval x = .string s)
    (h63 : n + s.size ≤ maxLen) (hbytes : n + s.size ≤ 140737488355328) (hbase : base ≤ w.heap.size)
    (h : ∀ v' w', w'.ownsRow base e 1 v' (n + s.size) (xs ++ Lib.strCells s) → w.grownBy w' v.ownBlock → (v' = .slice none 0 0 ↔ v = .slice none 0 0 ∧ s.size = 0) → K (a.put o.dst v') w') :
    if Region.wanted o (yielded ops a.tmps) = true then Oper.wp P o a w K Q else F := by
  have hw : Region.wanted o (yielded ops a.tmps) = true := by simp [Region.wanted, hgd]
  rw [if_pos hw]
  obtain ⟨v', w', hr, h2, h3, h4⟩ := Lib.run_append_own_string (P := P) w base t u o.type e i ht hu hi hz hsize hby v n xs hown s h63 hbytes hbase
  unfold Oper.wp execOp
  simp only [ho, resolve, invoke, builtin, Sem.run_bind, Sem.run_pure, Result.andThen_ok, List.map_toArray, List.map_cons, List.map_nil, hs, hx, hr]
  exact h v' w' h2 h3 h4
end
theorem own_some {w : World} {B : Nat} {e : TypeId} {v : Value} {n : Nat} {xs : List Value} (h : w.ownsRow B e 1 v n xs) (hne : v ≠ .slice none 0 0) : ∃ g c, v = .slice (some ⟨g, 0, none⟩) n c := by
  rcases h.2 with ⟨rfl, _⟩ | ⟨g, c, cur, hv, _⟩
  · exact absurd rfl hne
  · exact ⟨g, c, hv⟩
theorem own_as {w : World} {B : Nat} {e : TypeId} {v : Value} {n m : Nat} {xs ys : List Value} (h : w.ownsRow B e 1 v n xs) (hn : n = m) (hx : xs = ys) : w.ownsRow B e 1 v m ys := by
  subst hn hx; exact h
theorem strCells_b (s : ByteArray) : Lib.strCells s = Lib.byteCells s.data.toList := rfl
theorem byteCells_app (a b : List UInt8) : Lib.byteCells (a ++ b) = Lib.byteCells a ++ Lib.byteCells b := by simp [Lib.byteCells]
theorem ba_list (x y : ByteArray) : (x ++ y).data.toList = x.data.toList ++ y.data.toList := by simp
set_option maxHeartbeats 3200000 in
theorem c_l06Text (A : Option Addr) (n c : Nat) (E : Nat → E5) (w : World) (hv : Sl w 5 A n c (f5 E)) (hok : okE n E = true) :
    Calls Tryd.prog 11 #[.slice A n c] w fun r w' => r = .returned (.string ⟨(txtL E n).toArray⟩) ∧ Below w.heap.size w w' := by
  have hn := hv.le
  have HO := Lib.hid hok
  have h100 := okE_n hok
  obtain ⟨i0, hi0, hz0, hz1, hz2⟩ := info_parts Bd.infoB
  clear hok
  go_enter Tryd.func11, Tryd.ntmps11
  go_wp2
  go_loopw [3, 4] (fun s i wr => ∃ (k g cap : Nat), k ≤ n ∧ i = .int .i64 k ∧ s = .slice (some ⟨g, 0, none⟩) (txtL E k).length cap ∧ wr.ownsRow w.heap.size 5 1 (.slice (some ⟨g, 0, none⟩) (txtL E k).length cap) (txtL E k).length (Lib.byteCells (txtL E k)) ∧ Below w.heap.size w wr) (fun _ i _ => n - (intOf i).toNat)
  case atStart => exact ⟨0, _, _, Nat.zero_le _, rfl, rfl, World.ownsRow_made _ _ _ (by omega) (by simp [maxLen]) rfl, (by repeat' (first | (with_reducible exact Below.refl _ _) | (with_reducible assumption) | (with_reducible refine Base.grow_alloc ?_ _) | (with_reducible refine Base.below_drewN ?_ _) | (with_reducible refine Below.drew ?_) | (with_reducible refine Below.setCell ?_ ?_ _) | go_size))⟩
  case round =>
    obtain ⟨k, g, cap, hk, rfl, rfl, hown, hbr⟩ := hrel
    have hz := hbr.size
    by_cases hlt : k < n
    · obtain ⟨b, off, rfl, hb, hc⟩ := hv.at_ (by omega)
      obtain ⟨h0, h1, h2, h3, h4⟩ := cells5 hc k hlt
      have hone := (okE_at HO.out k hlt).1
      obtain ⟨⟨t0, t1⟩, hss, hos, hm⟩ := oneE_bd hone
      have hal := txtL_len HO.out k (by omega)
      have HTX := Lib.hid (show txtL E (k + 1) = txtL E k ++ (lineL (E k) ++ [10]) from rfl)
      have HDE : Hid (lineL (E k) = Lib.itoa (E k).t ++ ([32] ++ ((E k).s.data.toList ++ ([32] ++ ((E k).o.data.toList ++ ([32] ++ ((if (E k).b then [60] else []) ++ magL (E k).m))))))) := Lib.hid rfl
      obtain ⟨LL, hLL⟩ : ∃ LL, LL = lineL (E k) := ⟨_, rfl⟩
      obtain ⟨AA, hAA⟩ : ∃ AA, AA = txtL E k := ⟨_, rfl⟩
      have hML := magL_len hm
      obtain ⟨M, hM⟩ : ∃ M : ByteArray, M = ⟨(magL (E k).m).toArray⟩ := ⟨_, rfl⟩
      have hMs : M.size ≤ 26 := by rw [hM, Txt.size_l]; exact hML
      have HMag : Hid (∀ W : World, Calls Tryd.prog 22 #[.int .i64 (E k).m] W fun r w' => r = .returned (.string M) ∧ Below W.heap.size W w') := Lib.hid (fun W => by rw [hM]; exact c_l02Text (E k).m W hm)
      obtain ⟨D, hD⟩ : ∃ D : ByteArray, D = ⟨(Lib.itoa (E k).t).toArray⟩ := ⟨_, rfl⟩
      have hDs : D.size ≤ 21 := by rw [hD]; exact itoa_sz (by omega) (by omega)
      have HDec : Hid (∀ W : World, Calls Tryd.prog 21 #[.int .i64 (E k).t] W fun r w' => r = .returned (.string D) ∧ Below W.heap.size W w') := Lib.hid (fun W => by rw [hD]; exact c_l01Dec (E k).t W (by omega) (by omega))
      have HEQ : Hid (Lib.byteCells AA ++ Lib.strCells (D ++ ⟨#[32]⟩ ++ (E k).s ++ ⟨#[32]⟩ ++ (E k).o ++ ⟨#[32]⟩) ++ (if (E k).b then [.int .u8 60] else []) ++ Lib.strCells (M ++ ⟨#[10]⟩) = Lib.byteCells (txtL E (k + 1))) := Lib.hid (by
        rw [HTX.out, HDE.out, hAA, hD, hM]
        simp only [strCells_b, ba_list, byteCells_app]
        cases (E k).b <;> simp [Lib.byteCells])
      have HLN : Hid (AA.length + (D ++ ⟨#[32]⟩ ++ (E k).s ++ ⟨#[32]⟩ ++ (E k).o ++ ⟨#[32]⟩ : ByteArray).size + (if (E k).b then 1 else 0) + (M ++ ⟨#[10]⟩ : ByteArray).size = (txtL E (k + 1)).length) := Lib.hid (by
        have := congrArg List.length HEQ.out
        simp only [List.length_append, Lib.byteCells_length, Lib.strCells_length] at this
        rw [← this]
        cases (E k).b <;> rfl)
      rw [← hAA] at hal hown ⊢
      have x32 : (⟨#[32]⟩ : ByteArray).size = 1 := rfl
      have x10 : (⟨#[10]⟩ : ByteArray).size = 1 := rfl
      obtain ⟨NX, hNX⟩ : ∃ NX, txtL E (k + 1) = NX := ⟨_, rfl⟩
      rw [hNX] at HEQ HLN
      have HNX := Lib.hid hNX
      clear hNX
      clear HTX HDE hLL LL hAA hM hD hone
      obtain ⟨t, ht⟩ : ∃ t, (E k).t = t := ⟨_, rfl⟩
      obtain ⟨s, hs⟩ : ∃ s, (E k).s = s := ⟨_, rfl⟩
      obtain ⟨o, ho⟩ : ∃ o, (E k).o = o := ⟨_, rfl⟩
      obtain ⟨m, hm'⟩ : ∃ m, (E k).m = m := ⟨_, rfl⟩
      obtain ⟨z, hzb⟩ : ∃ z, (E k).b = z := ⟨_, rfl⟩
      rw [ht] at h0 t0 t1 HDec
      rw [hs] at h1 hss HEQ HLN
      rw [ho] at h2 hos HEQ HLN
      rw [hm'] at h3 hm HMag
      rw [hzb] at h4 HEQ HLN
      clear ht hs ho hm' hzb hc
      have a1 := add_run (P := Tryd.prog) D ⟨#[32]⟩ (by omega) (by omega)
      have a2 := add_run (P := Tryd.prog) (D ++ ⟨#[32]⟩) s (by rw [size_app]; omega) (by omega)
      have a3 := add_run (P := Tryd.prog) (D ++ ⟨#[32]⟩ ++ s) ⟨#[32]⟩ (by rw [size_app, size_app]; omega) (by omega)
      have a4 := add_run (P := Tryd.prog) (D ++ ⟨#[32]⟩ ++ s ++ ⟨#[32]⟩) o (by rw [size_app, size_app, size_app]; omega) (by omega)
      have a5 := add_run (P := Tryd.prog) (D ++ ⟨#[32]⟩ ++ s ++ ⟨#[32]⟩ ++ o) ⟨#[32]⟩ (by rw [size_app, size_app, size_app, size_app]; omega) (by omega)
      have a6 := add_run (P := Tryd.prog) M ⟨#[10]⟩ (by omega) (by omega)
      have hS1 : (D ++ ⟨#[32]⟩ ++ s ++ ⟨#[32]⟩ ++ o ++ ⟨#[32]⟩ : ByteArray).size ≤ 60 := by rw [size_app, size_app, size_app, size_app, size_app]; omega
      have hS2 : (M ++ ⟨#[10]⟩ : ByteArray).size ≤ 30 := by rw [size_app]; omega
      generalize (M ++ ⟨#[10]⟩ : ByteArray) = S2 at *
      have HS : ∀ W : World, Below w.heap.size w W → (W.cell? ⟨b, off + k * 5, none⟩ = some (.int .i64 t) ∧ W.cell? ⟨b, off + k * 5 + 1, none⟩ = some (.string s) ∧ W.cell? ⟨b, off + k * 5 + 2, none⟩ = some (.string o) ∧ W.cell? ⟨b, off + k * 5 + 3, none⟩ = some (.int .i64 m) ∧ W.cell? ⟨b, off + k * 5 + 4, none⟩ = some (.bool z)) ∧ Below w.heap.size w W :=
        fun W hW => ⟨⟨cell_call hW h0, cell_call hW h1, cell_call hW h2, cell_call hW h3, cell_call hW h4⟩, hW⟩
      clear h0 h1 h2 h3 h4
      have i1 : (0 : Int) ≤ (k : Int) := by omega
      have i2 : (k : Int) < (n : Int) := by omega
      go_wp2_with fail
      refine wp_region_held_drew (S := (fun W => (W.cell? ⟨b, off + k * 5, none⟩ = some (.int .i64 t) ∧ W.cell? ⟨b, off + k * 5 + 1, none⟩ = some (.string s) ∧ W.cell? ⟨b, off + k * 5 + 2, none⟩ = some (.string o) ∧ W.cell? ⟨b, off + k * 5 + 3, none⟩ = some (.int .i64 m) ∧ W.cell? ⟨b, off + k * 5 + 4, none⟩ = some (.bool z)) ∧ Below w.heap.size w W)) (by kernel_rfl) (by (try dsimp only); (exact HS _ (by repeat' (first | (with_reducible exact Below.refl _ _) | (with_reducible assumption) | (with_reducible refine Base.via hb1 ?_) | (with_reducible refine Base.via hbr ?_) | (with_reducible refine Base.grow_alloc ?_ _) | (with_reducible refine Base.below_drewN ?_ _) | (with_reducible refine Below.drew ?_) | (with_reducible refine Below.setCell ?_ ?_ _) | go_size)))) (fun hHeld => ?_)
      refine wpAnyH_take (i := 0) (oi := ⟨some 16, _, _, _, _, _⟩) (v := ?_) rfl (by kernel_rfl) (by kernel_rfl) (by kernel_rfl) (fun _ _ _ h => h) (Or.inl ⟨by rfl, ?_⟩) (by assumption) ?_
      rotate_left
      · (intro w' hSw; (try dsimp only at hSw); go_simp; try with_reducible rfl)
      try simp only [Act.put, List.setIfInBounds_toArray, List.set_cons_zero, List.set_cons_succ]
      refine wpAnyH_take (i := 1) (oi := ⟨some 17, _, _, _, _, _⟩) (v := ?_) rfl (by kernel_rfl) (by kernel_rfl) (by kernel_rfl) (fun _ _ _ h => h) (Or.inl ⟨by rfl, ?_⟩) (by assumption) ?_
      rotate_left
      · (intro w' hSw; (try dsimp only at hSw); go_simp; try with_reducible rfl)
      try simp only [Act.put, List.setIfInBounds_toArray, List.set_cons_zero, List.set_cons_succ]
      refine wpAnyH_take (i := 2) (oi := ⟨some 18, _, _, _, _, _⟩) (v := ?_) rfl (by kernel_rfl) (by kernel_rfl) (by kernel_rfl) (fun _ _ _ h => h) (Or.inl ⟨by rfl, ?_⟩) (by assumption) ?_
      rotate_left
      · (intro w' hSw; (try dsimp only at hSw); go_simp; try with_reducible rfl)
      try simp only [Act.put, List.setIfInBounds_toArray, List.set_cons_zero, List.set_cons_succ]
      refine wpAnyH_take (i := 3) (oi := ⟨some 19, _, _, _, _, _⟩) (v := ?_) rfl (by kernel_rfl) (by kernel_rfl) (by kernel_rfl) (fun _ _ _ h => h) (Or.inl ⟨by rfl, ?_⟩) (by assumption) ?_
      rotate_left
      · (intro w' hSw; (try dsimp only at hSw); go_simp; try with_reducible rfl)
      try simp only [Act.put, List.setIfInBounds_toArray, List.set_cons_zero, List.set_cons_succ]
      refine wpAnyH_take (i := 4) (oi := ⟨some 20, _, _, _, _, _⟩) (v := ?_) rfl (by kernel_rfl) (by kernel_rfl) (by kernel_rfl) (fun _ _ _ h => h) (Or.inl ⟨by rfl, ?_⟩) (by assumption) ?_
      rotate_left
      · (intro w' hSw; (try dsimp only at hSw); go_simp; try with_reducible rfl)
      try simp only [Act.put, List.setIfInBounds_toArray, List.set_cons_zero, List.set_cons_succ]
      refine wpAnyH_take (i := 7) (oi := ⟨some 23, _, _, _, _, _⟩) (v := ?_) rfl (by kernel_rfl) (by kernel_rfl) (by kernel_rfl) (fun _ _ _ h => h) (Or.inl ⟨by rfl, ?_⟩) (by assumption) ?_
      rotate_left
      · (intro w' hSw; (try dsimp only at hSw); go_simp; try with_reducible rfl)
      try simp only [Act.put, List.setIfInBounds_toArray, List.set_cons_zero, List.set_cons_succ]
      refine wpAnyH_take (i := 8) (oi := ⟨some 24, _, _, _, _, _⟩) (v := ?_) rfl (by kernel_rfl) (by kernel_rfl) (by kernel_rfl) (fun _ _ _ h => h) (Or.inl ⟨by rfl, ?_⟩) (by assumption) ?_
      rotate_left
      · (intro w' hSw; (try dsimp only at hSw); go_simp; try with_reducible rfl)
      try simp only [Act.put, List.setIfInBounds_toArray, List.set_cons_zero, List.set_cons_succ]
      refine wpAnyH_take (i := 9) (oi := ⟨some 25, _, _, _, _, _⟩) (v := ?_) rfl (by kernel_rfl) (by kernel_rfl) (by kernel_rfl) (fun _ _ _ h => h) (Or.inl ⟨by rfl, ?_⟩) (by assumption) ?_
      rotate_left
      · (intro w' hSw; (try dsimp only at hSw); go_simp; try with_reducible rfl)
      try simp only [Act.put, List.setIfInBounds_toArray, List.set_cons_zero, List.set_cons_succ]
      refine wpAnyH_take (i := 10) (oi := ⟨some 26, _, _, _, _, _⟩) (v := ?_) rfl (by kernel_rfl) (by kernel_rfl) (by kernel_rfl) (fun _ _ _ h => h) (Or.inl ⟨by rfl, ?_⟩) (by assumption) ?_
      rotate_left
      · (intro w' hSw; (try dsimp only at hSw); go_simp; try with_reducible rfl)
      try simp only [Act.put, List.setIfInBounds_toArray, List.set_cons_zero, List.set_cons_succ]
      refine wpAnyH_take (i := 13) (oi := ⟨some 29, _, _, _, _, _⟩) (v := ?_) rfl (by kernel_rfl) (by kernel_rfl) (by kernel_rfl) (fun _ _ _ h => h) (Or.inl ⟨by rfl, ?_⟩) (by assumption) ?_
      rotate_left
      · (intro w' hSw; (try dsimp only at hSw); go_simp; try with_reducible rfl)
      try simp only [Act.put, List.setIfInBounds_toArray, List.set_cons_zero, List.set_cons_succ]
      refine wpAnyH_take (i := 14) (oi := ⟨some 30, _, _, _, _, _⟩) (v := ?_) rfl (by kernel_rfl) (by kernel_rfl) (by kernel_rfl) (fun _ _ _ h => h) (Or.inl ⟨by rfl, ?_⟩) (by assumption) ?_
      rotate_left
      · (intro w' hSw; (try dsimp only at hSw); go_simp; try with_reducible rfl)
      try simp only [Act.put, List.setIfInBounds_toArray, List.set_cons_zero, List.set_cons_succ]
      refine wpAnyH_take (i := 15) (oi := ⟨some 31, _, _, _, _, _⟩) (v := ?_) rfl (by kernel_rfl) (by kernel_rfl) (by kernel_rfl) (fun _ _ _ h => h) (Or.inl ⟨by rfl, ?_⟩) (by assumption) ?_
      rotate_left
      · (intro w' hSw; (try dsimp only at hSw); go_simp; try with_reducible rfl)
      try simp only [Act.put, List.setIfInBounds_toArray, List.set_cons_zero, List.set_cons_succ]
      refine wpAnyH_take (i := 16) (oi := ⟨some 32, _, _, _, _, _⟩) (v := ?_) rfl (by kernel_rfl) (by kernel_rfl) (by kernel_rfl) (fun _ _ _ h => h) (Or.inl ⟨by rfl, ?_⟩) (by assumption) ?_
      rotate_left
      · (intro w' hSw; (try dsimp only at hSw); go_simp; try with_reducible rfl)
      try simp only [Act.put, List.setIfInBounds_toArray, List.set_cons_zero, List.set_cons_succ]
      refine wpAnyH_ready (rs := [5]) (by kernel_rfl) (by simp) ?_
      refine AllReadyH.cons (o := ⟨some 21, _, _, _, _, _⟩) rfl (fun K hK => ?_) AllReadyH.nil
      go_simp
      (go_at_call 21; refine (HDec.out _).mono ?_; rintro r w1 ⟨rfl, hb1⟩)
      refine hK.out _ _ (by (try dsimp only); (exact HS _ (by repeat' (first | (with_reducible exact Below.refl _ _) | (with_reducible assumption) | (with_reducible refine Base.via hb1 ?_) | (with_reducible refine Base.via hbr ?_) | (with_reducible refine Base.grow_alloc ?_ _) | (with_reducible refine Base.below_drewN ?_ _) | (with_reducible refine Below.drew ?_) | (with_reducible refine Below.setCell ?_ ?_ _) | go_size)))) (fun hHeld => ?_)
      clear hK K
      try simp only [Act.put, List.setIfInBounds_toArray, List.set_cons_zero, List.set_cons_succ]
      refine wpAnyH_take (i := 6) (oi := ⟨some 22, _, _, _, _, _⟩) (v := ?_) rfl (by kernel_rfl) (by kernel_rfl) (by kernel_rfl) (fun _ _ _ h => h) (Or.inl ⟨by rfl, ?_⟩) (by assumption) ?_
      rotate_left
      · (intro w' hSw; (try dsimp only at hSw); go_simp; try with_reducible rfl)
      try simp only [Act.put, List.setIfInBounds_toArray, List.set_cons_zero, List.set_cons_succ]
      refine wpAnyH_take (i := 11) (oi := ⟨some 27, _, _, _, _, _⟩) (v := ?_) rfl (by kernel_rfl) (by kernel_rfl) (by kernel_rfl) (fun _ _ _ h => h) (Or.inl ⟨by rfl, ?_⟩) (by assumption) ?_
      rotate_left
      · (intro w' hSw; (try dsimp only at hSw); go_simp; try with_reducible rfl)
      try simp only [Act.put, List.setIfInBounds_toArray, List.set_cons_zero, List.set_cons_succ]
      refine wpAnyH_take (i := 12) (oi := ⟨some 28, _, _, _, _, _⟩) (v := ?_) rfl (by kernel_rfl) (by kernel_rfl) (by kernel_rfl) (fun _ _ _ h => h) (Or.inl ⟨by rfl, ?_⟩) (by assumption) ?_
      rotate_left
      · (intro w' hSw; (try dsimp only at hSw); go_simp; try with_reducible rfl)
      try simp only [Act.put, List.setIfInBounds_toArray, List.set_cons_zero, List.set_cons_succ]
      refine wpAnyH_take (i := 17) (oi := ⟨some 33, _, _, _, _, _⟩) (v := ?_) rfl (by kernel_rfl) (by kernel_rfl) (by kernel_rfl) (fun _ _ _ h => h) (Or.inl ⟨by rfl, ?_⟩) (by assumption) ?_
      rotate_left
      · (intro w' hSw; (try dsimp only at hSw); go_simp; try with_reducible rfl)
      try simp only [Act.put, List.setIfInBounds_toArray, List.set_cons_zero, List.set_cons_succ]
      refine wpAnyH_take (i := 18) (oi := ⟨some 34, _, _, _, _, _⟩) (v := ?_) rfl (by kernel_rfl) (by kernel_rfl) (by kernel_rfl) (fun _ _ _ h => h) (Or.inl ⟨by rfl, ?_⟩) (by assumption) ?_
      rotate_left
      · (intro w' hSw; (try dsimp only at hSw); go_simp; try with_reducible rfl)
      try simp only [Act.put, List.setIfInBounds_toArray, List.set_cons_zero, List.set_cons_succ]
      have hown1 : w1.ownsRow w.heap.size 5 1 (.slice (some ⟨g, 0, none⟩) AA.length cap) AA.length (Lib.byteCells AA) := own_of_below hown (by repeat' (first | (with_reducible exact Below.refl _ _) | (with_reducible assumption) | (with_reducible refine Base.via hb1 ?_) | (with_reducible refine Base.grow_alloc ?_ _) | (with_reducible refine Base.below_drewN ?_ _) | (with_reducible refine Below.drew ?_) | (with_reducible refine Below.setCell ?_ ?_ _) | go_size))
      refine wpAnyH_ready (rs := [19]) (by kernel_rfl) (by simp) ?_
      refine AllReadyH.cons (o := ⟨some 35, _, _, _, _, _⟩) rfl (fun KK hK => ?_) AllReadyH.nil
      refine step_append_str (by rfl) _ _ 36 9 (by rfl) w.heap.size 5 i0 Tryd.underlying36 Tryd.underlying9 hi0 hz0 hz1 hz2 (.slice (some ⟨g, 0, none⟩) AA.length cap) AA.length (Lib.byteCells AA) (by rfl) hown1 (D ++ ⟨#[32]⟩ ++ s ++ ⟨#[32]⟩ ++ o ++ ⟨#[32]⟩) (by rfl) (by simp only [maxLen]; omega) (by omega) (by have := hb1.size; simp at this; omega) ?_
      intro v6 w6 hown6 hgrow6 hne6
      have hbw6 : Below w.heap.size w w6 := own_grow (by repeat' (first | (with_reducible exact Below.refl _ _) | (with_reducible assumption) | (with_reducible refine Base.via hb1 ?_) | (with_reducible refine Base.via hbr ?_) | (with_reducible refine Base.grow_alloc ?_ _) | (with_reducible refine Base.below_drewN ?_ _) | (with_reducible refine Below.drew ?_) | (with_reducible refine Below.setCell ?_ ?_ _) | go_size)) hown1 (Nat.le_refl _) hgrow6
      refine hK.out _ _ (by (try dsimp only); exact HS _ hbw6) (fun hHeld => ?_)
      clear hK KK
      try simp only [Act.put, List.setIfInBounds_toArray, List.set_cons_zero, List.set_cons_succ]
      refine wpAnyH_take (i := 20) (oi := ⟨some 3, _, _, _, _, _⟩) (v := ?_) rfl (by kernel_rfl) (by kernel_rfl) (by kernel_rfl) (fun _ _ _ h => h) (Or.inl ⟨by rfl, ?_⟩) (by assumption) ?_
      rotate_left
      · (intro w' hSw; (try dsimp only at hSw); go_simp; try with_reducible rfl)
      try simp only [Act.put, List.setIfInBounds_toArray, List.set_cons_zero, List.set_cons_succ]
      refine wpAnyH_done (by kernel_rfl) ?_ _
      obtain ⟨g6, c6, rfl⟩ := own_some hown6 (fun h => by simpa using hne6.1 h)
      generalize (D ++ ⟨#[32]⟩ ++ s ++ ⟨#[32]⟩ ++ o ++ ⟨#[32]⟩ : ByteArray) = S1 at *
      have hN1 : AA.length + S1.size ≤ 20000 := by omega
      generalize AA.length + S1.size = N1 at *
      have hz6 := hbw6.size
      obtain ⟨⟨q0, q1, q2, q3, q4⟩, _⟩ := HS w6 hbw6
      clear q0 q1 q2 hown hown1 hgrow6 hne6
      cases z
      · simp only [Bool.false_eq_true, if_false, List.append_nil, Nat.add_zero] at HEQ HLN
        go_wp2_with (first | (go_at_call 22; refine (HMag.out _).mono ?_; rintro r w7 ⟨rfl, hb7⟩; have hown7 := own_of_below hown6 hb7; have hbw7 : Below w.heap.size w w7 := (by repeat' (first | (with_reducible exact Below.refl _ _) | (with_reducible assumption) | (with_reducible refine Base.via hb7 ?_) | (with_reducible refine Base.via hbw6 ?_) | (with_reducible refine Base.grow_alloc ?_ _) | (with_reducible refine Base.below_drewN ?_ _) | (with_reducible refine Below.drew ?_) | (with_reducible refine Below.setCell ?_ ?_ _) | go_size))) | (at_builtin; refine Lib.wpList_append_own_string _ rfl _ _ 36 9 rfl w.heap.size 5 i0 Tryd.underlying36 Tryd.underlying9 hi0 hz0 hz1 hz2 (.slice (some ⟨g6, 0, none⟩) N1 c6) N1 _ rfl hown7 S2 rfl (by simp only [maxLen]; omega) (by omega) hbw7.size ?_; intro v8 w8 hown8 hgrow8 hne8; obtain ⟨g8, c8, rfl⟩ := own_some hown8 (fun h => by simpa using hne8.1 h)))
        have hbw8 : Below w.heap.size w w8 := own_grow hbw7 hown7 (Nat.le_refl _) hgrow8
        rw [HLN.out] at hown8 ⊢
        go_wp2
        go_roundw
        case rel => exact ⟨k + 1, g8, c8, by omega, by go_num, by rw [HNX.out], by rw [HNX.out]; exact own_as hown8 rfl HEQ.out, hbw8⟩
        case measure => simp [intOf]; omega
      · simp only [if_true] at HEQ HLN
        go_wp2_with (at_builtin; refine wpList_append_own _ rfl _ _ 36 rfl w.heap.size 5 i0 (.int .u8 0) 1 1 Tryd.underlying36 hi0 hz0 hz1 hz2 rfl (by decide) (.slice (some ⟨g6, 0, none⟩) N1 c6) N1 _ rfl (hown6.alloc _) ⟨w6.heap.size, 0, none⟩ 1 1 [.int .u8 60] rfl rfl (cell_newL _ _ _ rfl) (by simp [Value.oneCell']) (by simp only [maxLen]; omega) (by omega) (by simp; omega) ?_)
        intro v7 w7 hown7 hgrow7 _
        have hbw7 : Below w.heap.size w w7 := own_grow (by repeat' (first | (with_reducible exact Below.refl _ _) | (with_reducible assumption) | (with_reducible refine Base.via hbw6 ?_) | (with_reducible refine Base.grow_alloc ?_ _) | (with_reducible refine Base.below_drewN ?_ _) | (with_reducible refine Below.drew ?_) | (with_reducible refine Below.setCell ?_ ?_ _) | go_size)) hown6 (Nat.le_refl _) hgrow7
        obtain ⟨g7, c7, rfl⟩ := own_some hown7 (fun h => by subst h; rcases hown7.2 with ⟨_, h0⟩ | ⟨g, c, cur, h, _⟩ <;> first | omega | cases h)
        obtain ⟨⟨q0, q1, q2, q3', q4'⟩, _⟩ := HS w7 hbw7
        clear q0 q1 q2 q4' q3 q4 hown6 hgrow7
        go_wp2_with (first | (go_at_call 22; refine (HMag.out _).mono ?_; rintro r w9 ⟨rfl, hb9⟩; have hown9 := own_of_below hown7 hb9; have hbw9 : Below w.heap.size w w9 := (by repeat' (first | (with_reducible exact Below.refl _ _) | (with_reducible assumption) | (with_reducible refine Base.via hb9 ?_) | (with_reducible refine Base.via hbw7 ?_) | (with_reducible refine Base.grow_alloc ?_ _) | (with_reducible refine Base.below_drewN ?_ _) | (with_reducible refine Below.drew ?_) | (with_reducible refine Below.setCell ?_ ?_ _) | go_size))) | (at_builtin; refine Lib.wpList_append_own_string _ rfl _ _ 36 9 rfl w.heap.size 5 i0 Tryd.underlying36 Tryd.underlying9 hi0 hz0 hz1 hz2 (.slice (some ⟨g7, 0, none⟩) (N1 + 1) c7) (N1 + 1) _ rfl hown9 S2 rfl (by simp only [maxLen]; omega) (by omega) hbw9.size ?_; intro v8 w8 hown8 hgrow8 hne8; obtain ⟨g8, c8, rfl⟩ := own_some hown8 (fun h => by simpa using hne8.1 h)))
        have hbw8 : Below w.heap.size w w8 := own_grow hbw9 hown9 (Nat.le_refl _) hgrow8
        rw [HLN.out] at hown8 ⊢
        go_wp2
        go_roundw
        case rel => exact ⟨k + 1, g8, c8, by omega, by go_num, by rw [HNX.out], by rw [HNX.out]; exact own_as hown8 rfl (by rw [← HEQ.out]; simp only [List.append_assoc]), hbw8⟩
        case measure => simp [intOf]; omega
    · obtain rfl : k = n := by omega
      have kc := run_convert_bytes_back (P := Tryd.prog) wr 36 9 5 ⟨g, 0, none⟩ cap (txtL E k) Tryd.underlying36 Tryd.underlying5 Tryd.underlying9 (fun j hj => row_cell hown rfl j _ (by simp [Lib.byteCells, List.getElem?_eq_getElem hj]))
      go_wp2
      go_ret
      exact ⟨rfl, hbr⟩
theorem c_specEstimatesText (A : Option Addr) (n c : Nat) (E : Nat → E5) (w : World) (hv : Sl w 5 A n c (f5 E)) :
    Calls Tryd.prog 5 #[.slice A n c] w fun r w' => r = .returned (.string (txtS n E)) ∧ Below w.heap.size w w' := by
  cases hok : okE n E
  · have HX := Lib.hid (show txtS n E = ⟨#[]⟩ by rw [txtS, hok]; rfl)
    have HV : Hid (∀ W : World, Sl W 5 A n c (f5 E) → Calls Tryd.prog 10 #[.slice A n c] W fun r w' => r = .returned (.bool false) ∧ Below W.heap.size W w') := Lib.hid (fun W h => by have := c_l06Ok A n c E W h; rw [hok] at this; exact this)
    clear hok
    go_enter Tryd.func5, Tryd.ntmps5
    go_wp2_with (first | (go_at_call 10; refine (HV.out _ hv).mono ?_; rintro e w1 ⟨rfl, hb1⟩; obtain ⟨chb1, fhb1⟩ := Base.bcell hb1; have zhb1 := (hb1).size; (try simp at zhb1); (try have yhb1 : w.heap.size < (w1).heap.size := by omega)))
    go_ret
    exact ⟨Txt.ret_str HX.out.symm, (by repeat' (first | (with_reducible exact Below.refl _ _) | (with_reducible assumption) | (with_reducible refine Base.via hb1 ?_) | (with_reducible refine Base.grow_alloc ?_ _) | (with_reducible refine Base.below_drewN ?_ _) | (with_reducible refine Below.drew ?_) | (with_reducible refine Below.setCell ?_ ?_ _) | go_size))⟩
  · have HX := Lib.hid (show txtS n E = ⟨(txtL E n).toArray⟩ by rw [txtS, hok]; rfl)
    have HV : Hid (∀ W : World, Sl W 5 A n c (f5 E) → Calls Tryd.prog 10 #[.slice A n c] W fun r w' => r = .returned (.bool true) ∧ Below W.heap.size W w') := Lib.hid (fun W h => by have := c_l06Ok A n c E W h; rw [hok] at this; exact this)
    have HT := Lib.hid (fun (W : World) (h : Sl W 5 A n c (f5 E)) => c_l06Text A n c E W h hok)
    clear hok
    go_enter Tryd.func5, Tryd.ntmps5
    go_wp2_with (first | (go_at_call 10; refine (HV.out _ hv).mono ?_; rintro e w1 ⟨rfl, hb1⟩; obtain ⟨chb1, fhb1⟩ := Base.bcell hb1; have zhb1 := (hb1).size; (try simp at zhb1); (try have yhb1 : w.heap.size < (w1).heap.size := by omega)) | (go_at_call 11; refine (HT.out _ (hv.below (by repeat' (first | (with_reducible exact Below.refl _ _) | (with_reducible assumption) | (with_reducible refine Base.via hb1 ?_) | (with_reducible refine Base.grow_alloc ?_ _) | (with_reducible refine Base.below_drewN ?_ _) | (with_reducible refine Below.drew ?_) | (with_reducible refine Below.setCell ?_ ?_ _) | go_size)))).mono ?_; rintro e w2 ⟨rfl, hb2⟩; obtain ⟨chb2, fhb2⟩ := Base.bcell hb2; have zhb2 := (hb2).size; (try simp at zhb2); (try have yhb2 : w.heap.size < (w2).heap.size := by omega)))
    go_ret
    exact ⟨Txt.ret_str HX.out.symm, (by repeat' (first | (with_reducible exact Below.refl _ _) | (with_reducible assumption) | (with_reducible refine Base.via hb2 ?_) | (with_reducible refine Base.via hb1 ?_) | (with_reducible refine Base.grow_alloc ?_ _) | (with_reducible refine Base.below_drewN ?_ _) | (with_reducible refine Below.drew ?_) | (with_reducible refine Below.setCell ?_ ?_ _) | go_size))⟩
end Go.Proofs.YthojfmlnnclghaaDoor.Etx
