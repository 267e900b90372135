/- Reading the text of estimates: the walk of the reference's ReadEstimates. -/
import Derived.Test.YthojfmlnnclghaaGreatDoorRdE
import Derived.Test.YthojfmlnnclghaaGreatDoorRdLd
namespace Go.Proofs.YthojfmlnnclghaaGreatDoor.Rd
set_option linter.unusedVariables false
set_option linter.unusedSimpArgs false
set_option maxRecDepth 8000
open Go.RowKit Plain Num View Dec Txt Name Etx Est OkE ChoE

theorem spl_sum (c : UInt8) : ∀ (n : Nat) (l : List UInt8), l.length ≤ n → (spl c l).length ≤ l.length + 1 := by
  intro n
  induction n with
  | zero =>
    intro l hl
    rw [List.eq_nil_of_length_eq_zero (Nat.le_zero.1 hl), spl_no (noC_nil c)]
    simp
  | succ n ih =>
    intro l hl
    rcases noC_or c l with h | ⟨a, b, rfl, h⟩
    · rw [spl_no h]; simp
    · have hb : b.length ≤ n := by simp only [List.length_append, List.length_cons] at hl; omega
      have := ih b hb
      rw [spl_at b h]
      simp only [List.length_append, List.length_cons] at this ⊢
      omega
set_option maxHeartbeats 6400000 in
theorem c_specReadEstimates (s : ByteArray) (w : World) (hs : s.size ≤ 1048576) :
    Calls Tryz.prog 4 #[.string s] w fun r w' => REr w.heap.size w' s.data.toList r ∧ Below w.heap.size w w' := by
  obtain ⟨i0, hi0, hz0, hz1, hz2⟩ := info_parts infoEst
  have hL : s.data.toList.length = s.size := by rw [Array.length_toList]; rfl
  have HSP := Lib.hid (fun (X : World) => c_l01Split s 10 X hs)
  have HSL := Lib.hid (fun x hx => spl_len 10 _ s.data.toList (Nat.le_refl _) x hx)
  have hSS := spl_sum 10 _ s.data.toList (Nat.le_refl _)
  have HLAST := Lib.hid (fun (L : List E5) (h : PE s.data.toList L) => PE_last h)
  have HBAD := Lib.hid (fun (k : Nat) (A : List UInt8) => Lns_bad (l := s.data.toList) (A := A) (k := k))
  have HEND := Lib.hid (fun (F : List E5) => Lns_end (l := s.data.toList) (F := F))
  obtain ⟨P0, x0, hP0⟩ := spl_cons 10 s.data.toList
  obtain ⟨P, hP⟩ : ∃ P, spl 10 s.data.toList = P := ⟨_, rfl⟩
  rw [hP] at HSP HSL HLAST HBAD HEND hSS hP0
  obtain ⟨N, hN⟩ : ∃ N, P.length = N + 1 := ⟨x0.length, by rw [hP0]; rfl⟩
  clear hP0 hP
  obtain ⟨X, hX⟩ : ∃ X, P[N]? = some X := ⟨P[N]'(by omega), List.getElem?_eq_getElem (by omega)⟩
  have hNb : N ≤ 1048576 := by omega
  have SP : ∀ W : World, True := fun _ => trivial
  clear SP
  obtain ⟨XS, hXS⟩ : ∃ XS : ByteArray, (⟨X.toArray⟩ : ByteArray) = XS := ⟨_, rfl⟩
  by_cases hX0 : X = []
  case neg =>
    have HN := Lib.hid (show ∀ L, ¬ PE s.data.toList L from fun L hL => by
      obtain ⟨e1, e2⟩ := HLAST.out L hL
      obtain rfl : N = L.length := by omega
      rw [hX] at e2
      exact hX0 (Option.some.inj e2))
    have hcmp : XS.toList.isEmpty = false := by
      rw [ByteArray.toList_eq, ← hXS]
      cases X with
      | nil => exact absurd rfl hX0
      | cons a b => rfl
    have hcmp2 : (([] : List UInt8) == XS.toList) = false := by
      cases h : XS.toList with
      | nil => rw [h] at hcmp; cases hcmp
      | cons x y => rfl
    clear hX0 HLAST HBAD HEND
    go_enter Tryz.func4, Tryz.ntmps4
    go_wp2_with (first | (go_at_call 9; refine (HSP.out _).mono ?_; rintro e w1 ⟨g, cap, rfl, ho1, hb1⟩; have zhb1 := hb1.size; have kN := part_cell ho1 hX; rw [hXS] at kN; have lgN := (World.block_lt_of_cell? _ _ kN); simp only at lgN; rw [hN] at ho1 ⊢))
    go_ret2
    exact ⟨REr_no HN.out, (by repeat' (first | (with_reducible exact Below.refl _ _) | (with_reducible assumption) | (with_reducible refine Base.via hb1 ?_) | (with_reducible refine Base.grow_alloc ?_ _) | (with_reducible refine Base.below_drewN ?_ _) | (with_reducible refine Below.drew ?_) | (with_reducible refine Below.setCell ?_ ?_ _) | go_size))⟩
  have hcmp : XS.toList.isEmpty = true := by rw [ByteArray.toList_eq, ← hXS, hX0]; rfl
  have hcmp2 : (([] : List UInt8) == XS.toList) = true := by rw [ByteArray.toList_eq, ← hXS, hX0]; rfl
  by_cases hbig : 101 < N + 1
  · have HN := Lib.hid (show ∀ L, ¬ PE s.data.toList L from fun L hL => by
      obtain ⟨e1, e2⟩ := HLAST.out L hL
      have := PE_len hL
      omega)
    clear hX0 HLAST HBAD HEND
    go_enter Tryz.func4, Tryz.ntmps4
    go_wp2_with (first | (go_at_call 9; refine (HSP.out _).mono ?_; rintro e w1 ⟨g, cap, rfl, ho1, hb1⟩; have zhb1 := hb1.size; have HC := Lib.hid (fun (W : World) (hW : Below w1.heap.size w1 W) (k : Nat) (A : List UInt8) (hA : P[k]? = some A) => cell_call hW (part_cell ho1 hA)); have kN := part_cell ho1 hX; rw [hXS] at kN; have lgN := (World.block_lt_of_cell? _ _ kN); simp only at lgN; rw [hN] at ho1 ⊢))
    go_ret2
    exact ⟨REr_no HN.out, (by repeat' (first | (with_reducible exact Below.refl _ _) | (with_reducible assumption) | (with_reducible refine Base.via hb1 ?_) | (with_reducible refine Base.grow_alloc ?_ _) | (with_reducible refine Base.below_drewN ?_ _) | (with_reducible refine Below.drew ?_) | (with_reducible refine Below.setCell ?_ ?_ _) | go_size))⟩
  rw [hX0] at hX
  have HXE := Lib.hid hX
  subst hX0
  clear HLAST
  go_enter Tryz.func4, Tryz.ntmps4
  go_wp2_with (first | (go_at_call 9; refine (HSP.out _).mono ?_; rintro e w1 ⟨g, cap, rfl, ho1, hb1⟩; have zhb1 := hb1.size; have HC := Lib.hid (fun (W : World) (hW : Below w1.heap.size w1 W) (k : Nat) (A : List UInt8) (hA : P[k]? = some A) => cell_call hW (part_cell ho1 hA)); have kN := part_cell ho1 hX; rw [hXS] at kN; have lgN := (World.block_lt_of_cell? _ _ kN); simp only at lgN; rw [hN] at ho1 ⊢))
  have hbw1 : Below w.heap.size w w1 := (by repeat' (first | (with_reducible exact Below.refl _ _) | (with_reducible assumption) | (with_reducible refine Base.via hb1 ?_) | (with_reducible refine Base.grow_alloc ?_ _) | (with_reducible refine Base.below_drewN ?_ _) | (with_reducible refine Below.drew ?_) | (with_reducible refine Below.setCell ?_ ?_ _) | go_size))
  have zw1 := hbw1.size
  clear ho1 kN hcmp hcmp2 hb1 zhb1
  go_loopw [5, 6] (fun ou ix wr => ∃ (F : List E5) (q co : Nat), F.length ≤ N ∧ ix = .int .i64 (F.length : Nat) ∧ ou = .slice (some ⟨q, 0, none⟩) F.length co ∧ Hid (Lns P F) ∧ wr.ownsRow w1.heap.size 31 5 (.slice (some ⟨q, 0, none⟩) F.length co) F.length (cellE F) ∧ Below w1.heap.size w1 wr) (fun _ ix _ => N - (intOf ix).toNat)
  case atStart => exact ⟨[], _, _, by simp, rfl, rfl, (show Lns P [] from Lns_zero _), World.ownsRow_made _ _ _ (by omega) (by simp [maxLen]) rfl, (by repeat' (first | (with_reducible exact Below.refl _ _) | (with_reducible assumption) | (with_reducible refine Base.grow_alloc ?_ _) | (with_reducible refine Base.below_drewN ?_ _) | (with_reducible refine Below.drew ?_) | (with_reducible refine Below.setCell ?_ ?_ _) | go_size))⟩
  case round =>
    obtain ⟨F, q, co, hF, rfl, rfl, hln, hown, hbr⟩ := hrel
    have hzb := hbr.size
    by_cases hlt : F.length < N
    · obtain ⟨A, hA⟩ : ∃ A, P[F.length]? = some A := ⟨P[F.length]'(by omega), List.getElem?_eq_getElem (by omega)⟩
      have kA := HC.out wr hbr _ _ hA
      have hAl : A.length ≤ 1048576 := by
        have := HSL.out A (List.mem_of_getElem? hA)
        omega
      obtain ⟨AS, hAS⟩ : ∃ AS : ByteArray, (⟨A.toArray⟩ : ByteArray) = AS := ⟨_, rfl⟩
      have hAz : AS.size ≤ 1048576 := by rw [← hAS, Txt.size_l]; exact hAl
      have HLN := Lib.hid (fun (Y : World) => c_l06Line AS Y hAz)
      rw [show AS.data.toList = A by rw [← hAS]] at HLN
      rw [hAS] at kA
      have HBD := Lib.hid (fun (hn : ∀ e, ¬ PL A e) => HBAD.out F.length A hA (by omega) hn)
      have HNX := Lib.hid (fun (e : E5) (hp : PL A e) => Lns_next hln.out hA hp)
      have i1 : (0 : Int) ≤ (F.length : Int) := by omega
      have i2 : (F.length : Int) < (N : Int) := by omega
      clear hA hAl hAS hAz hln
      go_wp2_with fail
      refine (HLN.out _).mono ?_
      rintro r w2 ⟨⟨⟨t, ss, oo, m, f⟩, b, rfl, hrl⟩, hb2⟩
      have HRL := Lib.hid hrl
      clear hrl
      simp only [est]
      cases b
      · have HN := Lib.hid (HBD.out (fun e he => by have := (HRL.out.2 e he).1; cases this))
        go_wp2
        go_ret2
        exact ⟨REr_no HN.out, (by repeat' (first | (with_reducible exact Below.refl _ _) | (with_reducible assumption) | (with_reducible refine Base.via hb2 ?_) | (with_reducible refine Base.via hbr ?_) | (with_reducible refine Base.via hbw1 ?_) | (with_reducible refine Base.grow_alloc ?_ _) | (with_reducible refine Base.below_drewN ?_ _) | (with_reducible refine Below.drew ?_) | (with_reducible refine Below.setCell ?_ ?_ _) | go_size))⟩
      · have HNY := Lib.hid (HNX.out _ (HRL.out.1 rfl))
        have hown2 := own_of_below hown hb2
        have hbr2 : Below w1.heap.size w1 w2 := (by repeat' (first | (with_reducible exact Below.refl _ _) | (with_reducible assumption) | (with_reducible refine Base.via hb2 ?_) | (with_reducible refine Base.via hbr ?_) | (with_reducible refine Base.grow_alloc ?_ _) | (with_reducible refine Base.below_drewN ?_ _) | (with_reducible refine Below.drew ?_) | (with_reducible refine Below.setCell ?_ ?_ _) | go_size))
        have hz2' := hbr2.size
        clear hown HRL HNX HBD kA hb2
        go_wp2_with (at_builtin; refine wpList_append_own _ rfl _ _ 22 rfl (w1.heap.size) 31 i0 _ 5 56 Tryz.underlying22 hi0 hz0 hz1 hz2 rfl (by decide) _ _ _ rfl (own_of_below hown2 (by repeat' (first | (with_reducible exact Below.refl _ _) | (with_reducible assumption) | (with_reducible refine Base.grow_alloc ?_ _) | (with_reducible refine Base.below_drewN ?_ _) | (with_reducible refine Below.drew ?_) | (with_reducible refine Below.setCell ?_ ?_ _) | go_size))) ⟨_, 0, none⟩ 1 1 [.int .i64 t, .string ss, .string oo, .int .i64 m, .bool f] rfl rfl (cell_newL _ [.int .i64 t, .string ss, .string oo, .int .i64 m, .bool f] _ (by simp)) (by simp [Value.oneCell']) (by simp only [maxLen]; omega) (by omega) (by simp; omega) ?_)
        intro v' w3 hown' hgrow _
        have hb3 : Below w1.heap.size w1 w3 := own_grow (by repeat' (first | (with_reducible exact Below.refl _ _) | (with_reducible assumption) | (with_reducible refine Base.via hbr2 ?_) | (with_reducible refine Base.grow_alloc ?_ _) | (with_reducible refine Base.below_drewN ?_ _) | (with_reducible refine Below.drew ?_) | (with_reducible refine Below.setCell ?_ ?_ _) | go_size)) hown2 (Nat.le_refl _) hgrow
        obtain ⟨g', c', rfl⟩ := ownsRow_succ hown'
        clear hown2 hgrow
        go_wp2
        exact ⟨⟨F ++ [⟨t, ss, oo, m, f⟩], g', c', by rw [List.length_append]; simp; omega, by rw [List.length_append]; go_num, by rw [List.length_append]; rfl, HNY, own_snocF ⟨t, ss, oo, m, f⟩ hown', hb3⟩, by simp [intOf]; omega⟩
    · obtain rfl : N = F.length := by omega
      obtain ⟨hE1, hE2⟩ := HEND.out F hln.out (by omega) HXE.out
      have ho := of_listE hown (by omega)
      have hsl := ho.sl
      cases hok : okE F.length (leE F)
      · have HN := Lib.hid (show ∀ L, ¬ PE s.data.toList L from fun L hL => by
          have e := hE2 L hL
          rw [e] at hL
          have := hL.1
          rw [hok] at this
          cases this)
        have HV : Hid (∀ W : World, Below wr.heap.size wr W → Calls Tryz.prog 11 #[.slice (some ⟨q, 0, none⟩) F.length co] W fun r w' => r = .returned (.bool false) ∧ Below W.heap.size W w') := Lib.hid (fun W hW => by have := c_l06Ok _ _ _ _ W (hsl.below hW); rw [hok] at this; exact this)
        clear hln hown ho hsl hok hE1 hE2
        go_wp2_with (first | (go_at_call 11; refine (HV.out _ (by repeat' (first | (with_reducible exact Below.refl _ _) | (with_reducible assumption) | (with_reducible refine Base.grow_alloc ?_ _) | (with_reducible refine Base.below_drewN ?_ _) | (with_reducible refine Below.drew ?_) | (with_reducible refine Below.setCell ?_ ?_ _) | go_size))).mono ?_; rintro e w2 ⟨rfl, hb2⟩; obtain ⟨chb2, fhb2⟩ := Base.bcell hb2; have zhb2 := (hb2).size; (try simp at zhb2); (try have yhb2 : w.heap.size < (w2).heap.size := by omega)))
        go_ret2
        exact ⟨REr_no HN.out, (by repeat' (first | (with_reducible exact Below.refl _ _) | (with_reducible assumption) | (with_reducible refine Base.via hb2 ?_) | (with_reducible refine Base.via hbr ?_) | (with_reducible refine Base.via hbw1 ?_) | (with_reducible refine Base.grow_alloc ?_ _) | (with_reducible refine Base.below_drewN ?_ _) | (with_reducible refine Below.drew ?_) | (with_reducible refine Below.setCell ?_ ?_ _) | go_size))⟩
      · have HV : Hid (∀ W : World, Below wr.heap.size wr W → Calls Tryz.prog 11 #[.slice (some ⟨q, 0, none⟩) F.length co] W fun r w' => r = .returned (.bool true) ∧ Below W.heap.size W w') := Lib.hid (fun W hW => by have := c_l06Ok _ _ _ _ W (hsl.below hW); rw [hok] at this; exact this)
        have HY := Lib.hid (show RE s.data.toList F true from RE_yes (Lft_yes hok hE1) hE2)
        have HO := Lib.hid (ho.mono zw1)
        clear hln hown ho hsl hok hE1 hE2
        go_wp2_with (first | (go_at_call 11; refine (HV.out _ (by repeat' (first | (with_reducible exact Below.refl _ _) | (with_reducible assumption) | (with_reducible refine Base.grow_alloc ?_ _) | (with_reducible refine Base.below_drewN ?_ _) | (with_reducible refine Below.drew ?_) | (with_reducible refine Below.setCell ?_ ?_ _) | go_size))).mono ?_; rintro e w2 ⟨rfl, hb2⟩; obtain ⟨chb2, fhb2⟩ := Base.bcell hb2; have zhb2 := (hb2).size; (try simp at zhb2); (try have yhb2 : w.heap.size < (w2).heap.size := by omega)))
        go_ret2
        exact ⟨⟨F, _, true, rfl, HO.out.below (by repeat' (first | (with_reducible exact Below.refl _ _) | (with_reducible assumption) | (with_reducible refine Base.via hb2 ?_) | (with_reducible refine Base.grow_alloc ?_ _) | (with_reducible refine Base.below_drewN ?_ _) | (with_reducible refine Below.drew ?_) | (with_reducible refine Below.setCell ?_ ?_ _) | go_size)), HY.out⟩, (by repeat' (first | (with_reducible exact Below.refl _ _) | (with_reducible assumption) | (with_reducible refine Base.via hb2 ?_) | (with_reducible refine Base.via hbr ?_) | (with_reducible refine Base.via hbw1 ?_) | (with_reducible refine Base.grow_alloc ?_ _) | (with_reducible refine Base.below_drewN ?_ _) | (with_reducible refine Below.drew ?_) | (with_reducible refine Below.setCell ?_ ?_ _) | go_size))⟩
end Go.Proofs.YthojfmlnnclghaaGreatDoor.Rd
