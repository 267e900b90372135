/- The second best period of a search: both sides. -/
import Derived.Test.YtenjcdhehjdeoaaStr4
namespace Go.Proofs.Ytenjcdhehjdeoaa.Str
set_option linter.unusedVariables false
set_option linter.unusedSimpArgs false
set_option maxRecDepth 8000
open Go.RowKit Plain Num View Eph Curve Curve2 Per Least Amp

def outP (b : Nat) (k : Nat) : Bool := !(decide ((b : Int) - 1 ≤ (k : Int)) && decide ((k : Int) ≤ (b : Int) + 1))
theorem outP_eq {f s : Int} {b k : Nat} (hs : 1 ≤ s) : outP b k = decide (s < absI (perF f s k - perF f s b)) := by
  have e : perF f s k - perF f s b = ((k : Int) - b) * s := by unfold perF; rw [Int.sub_mul]; omega
  rw [e, outP]
  by_cases h1 : (b : Int) - 1 ≤ (k : Int)
  · by_cases h2 : (k : Int) ≤ (b : Int) + 1
    · have : absI (((k : Int) - b) * s) ≤ s := by
        have h3 : (k : Int) - b = -1 ∨ (k : Int) - b = 0 ∨ (k : Int) - b = 1 := by omega
        rcases h3 with h | h | h <;> rw [h] <;> unfold absI <;> split <;> omega
      simp [h1, h2]
      omega
    · have h3 : 2 * s ≤ ((k : Int) - b) * s := Int.mul_le_mul_of_nonneg_right (by omega) (by omega)
      have : s < absI (((k : Int) - b) * s) := by unfold absI; split <;> omega
      simp [h2, this]
  · have h3 : ((k : Int) - b) * s ≤ (-2) * s := Int.mul_le_mul_of_nonneg_right (by omega) (by omega)
    have : s < absI (((k : Int) - b) * s) := by unfold absI; split <;> omega
    simp [h1, this]
noncomputable def spB (n : Nat) (T M : Nat → Int) (f t s : Int) : Int := bst (outP (bpI n T M f t s)) (lenF n T M f s) (perN f t s)
noncomputable def spC (n : Nat) (T M : Nat → Int) (f t s : Int) : Int := if srC n T M f t s 3 = 0 then (if spB n T M f t s < 0 then 3 else 0) else srC n T M f t s 3
noncomputable def spV (n : Nat) (T M : Nat → Int) (f t s : Int) : Int := if srC n T M f t s 3 = 0 then (if spB n T M f t s < 0 then 0 else perF f s (spB n T M f t s).toNat) else 0
theorem second_eq {n : Nat} {T M : Nat → Int} {f s : Int} {P : Nat → Bool} {N : Nat} (h : 0 < (sel N P (perF f s)).length) :
    0 ≤ bst P (lenF n T M f s) N ∧ lf (sel N P (perF f s)) (amin (fun i => strL n T M (lf (sel N P (perF f s)) i)) ((sel N P (perF f s)).length - 1)) = perF f s (bst P (lenF n T M f s) N).toNat := by
  have hl : (sel N P (perF f s)).length = (sel N P (fun i => i)).length := sel_len_eq _ _ _
  rw [hl] at h ⊢
  rcases bst_sel P (lenF n T M f s) N with ⟨h0, _⟩ | ⟨_, hb⟩
  · omega
  · have hc : amin (fun i => strL n T M (lf (sel N P (perF f s)) i)) ((sel N P (fun i => i)).length - 1) = amin (fun j => lenF n T M f s ((sel N P (fun i => i)).getD j 0)) ((sel N P (fun i => i)).length - 1) := amin_congr fun i hi => by
      rw [sel_at (by omega), lenF]
    have hle := amin_le (F := fun j => lenF n T M f s ((sel N P (fun i => i)).getD j 0)) ((sel N P (fun i => i)).length - 1)
    rw [hc, hb, sel_at (by omega), Int.toNat_natCast]
    exact ⟨by omega, rfl⟩
theorem second_none {n : Nat} {T M : Nat → Int} {f s : Int} {P : Nat → Bool} {N : Nat} (h : (sel N P (perF f s)).length = 0) : bst P (lenF n T M f s) N < 0 := by
  have hl : (sel N P (perF f s)).length = (sel N P (fun i => i)).length := sel_len_eq _ _ _
  rw [hl] at h
  rcases bst_sel P (lenF n T M f s) N with ⟨_, hb⟩ | ⟨h0, _⟩ <;> omega
theorem sel_bd {P : Nat → Bool} {g : Nat → Int} {N : Nat} {a b : Int} (h : ∀ i, i < N → a ≤ g i ∧ g i ≤ b) : ∀ i, i < (sel N P g).length → a ≤ lf (sel N P g) i ∧ lf (sel N P g) i ≤ b := fun i hi => by
  have hm : lf (sel N P g) i ∈ sel N P g := by
    simp only [lf, List.getD_eq_getElem?_getD, List.getElem?_eq_getElem hi]
    exact List.getElem_mem hi
  obtain ⟨q, q1, _, e⟩ := sel_mem hm
  rw [e]
  exact h q q1
set_option maxHeartbeats 800000 in
theorem c_sp1 (f s : Int) (b j : Nat) (bb bx : Nat) (W : World) (hs : 1 ≤ s) (h0 : W.cell? ⟨bb, 0, none⟩ = some (.int .i64 (perF f s b))) (h1 : W.cell? ⟨bx, 2, none⟩ = some (.int .i64 s)) (b1 : 1 ≤ perF f s b ∧ perF f s b ≤ 1000000) (b2 : 1 ≤ perF f s j ∧ perF f s j ≤ 1000000) :
    Calls Try.prog 69 #[.int .i64 (perF f s j), .pointer (some ⟨bb, 0, none⟩), .pointer (some ⟨bx, 0, none⟩)] W fun e w' => e = .returned (.bool (outP b j)) ∧ Below W.heap.size W w' := by
  have HO := Lib.hid (outP_eq (f := f) (b := b) (k := j) hs)
  generalize perF f s j = x at *
  generalize perF f s b = y at *
  have ew : IntKind.i64.wrap (x - y) = x - y := IntWalk.i64_in _ (by omega)
  have l0 := World.block_lt_of_cell? _ _ h0
  have l1 := World.block_lt_of_cell? _ _ h1
  dsimp only at l0 l1
  go_enter Try.func69, Try.ntmps69
  go_wp2
  go_quiet ((first | (go_at_call 50; exact Calls.quiet_of_same ((c_abs _ _ (by omega) (by omega)).mono fun _ _ h => ⟨h.1, h.2.symm⟩))))
  go_wp2
  go_ret
  exact ⟨ret_bool HO.out.symm, (by repeat' (first | (with_reducible exact Below.refl _ _) | (with_reducible assumption) | (with_reducible refine Base.grow_alloc ?_ _) | (with_reducible refine Base.below_drewN ?_ _) | (with_reducible refine Below.drew ?_) | (with_reducible refine Below.setCell ?_ ?_ _) | go_size))⟩
set_option maxHeartbeats 1600000 in
theorem c_SecondPeriod (A : Option Addr) (n c : Nat) (T M : Nat → Int) (f t s : Int) (w : World) (hv : Sl w 2 A n c (f2 T M)) :
    Calls Try.prog 35 #[.slice A n c, .agg #[.int .i64 f, .int .i64 t, .int .i64 s]] w fun e w' => e = .returned (.tuple #[.int .i64 (spV n T M f t s), .int .i64 (spC n T M f t s)]) ∧ Below w.heap.size w w' := by
  have HBP := Lib.hid (fun (W : World) (hW : Sl W 2 A n c (f2 T M)) => c_BestPeriod A n c T M f t s W hW)
  by_cases hc : srC n T M f t s 3 = 0
  · obtain ⟨h1, h2, h3, _⟩ := sr_ok hc
    obtain ⟨h100, hT, hM, _⟩ := okCurve_bd h1
    obtain ⟨sb1, sb2, sb3, _⟩ := okSearch_bd h2
    have eg : ∀ args w, (callFunc 69 args).run Try.prog w = .ok (.enter 69 args) w := enters_of Try.func69 (by kernel_rfl) rfl
    have hlt := bpI_lt (n := n) (T := T) (M := M) h2
    have hV : bpV n T M f t s = perF f s (bpI n T M f t s) := by rw [bpV, if_pos hc]
    have EB : spB n T M f t s = bst (outP (bpI n T M f t s)) (lenF n T M f s) (perN f t s) := rfl
    have EC : spC n T M f t s = if spB n T M f t s < 0 then 3 else 0 := by rw [spC, if_pos hc]
    have EV : spV n T M f t s = if spB n T M f t s < 0 then 0 else perF f s (spB n T M f t s).toNat := by rw [spV, if_pos hc]
    rw [hc, hV] at HBP
    generalize bpI n T M f t s = b at *
    rw [EB] at EC EV
    have hNl := (perN_ok h2).1
    have hpb := per_bd h2
    have HPR := Lib.hid (fun W => c_periods f t s W h2)
    clear hc hV EB
    generalize perN f t s = N at *
    have hb0 := hpb b hlt
    have HPB := Lib.hid hpb
    have EC' := Lib.hid EC
    have EV' := Lib.hid EV
    have HCH := Lib.hid (fun (W : World) (A2 : Option Addr) (c2 : Nat) (lb : Array Value) (V : Sl W 1 A2 N c2 (f1 (perF f s))) (hp : Idx.Pred Try.prog W 69 lb N (fun i => .int .i64 (perF f s i)) (outP b)) => Chosen.c_chosenInt64 A2 N c2 (perF f s) 69 lb (outP b) W eg V hp)
    have HSP := Lib.hid (fun (W : World) (bb bx : Nat) (k0 : W.cell? ⟨bb, 0, none⟩ = some (.int .i64 (perF f s b))) (k1 : W.cell? ⟨bx, 2, none⟩ = some (.int .i64 s)) => (show Idx.Pred Try.prog W 69 #[.pointer (some ⟨bb, 0, none⟩), .pointer (some ⟨bx, 0, none⟩)] N (fun i => .int .i64 (perF f s i)) (outP b) from fun V hV j hj =>
      c_sp1 f s b j bb bx V (by omega) (cell_call hV k0) (cell_call hV k1) hb0 (hpb j hj)))
    have hLn : (sel N (outP b) (perF f s)).length ≤ N := sel_len
    have HSH := Lib.hid (fun (W : World) (B : Option Addr) (cb : Nat) (hW : Sl W 2 A n c (f2 T M)) (hu : Sl W 1 B (sel N (outP b) (perF f s)).length cb (f1 (lf (sel N (outP b) (perF f s))))) (hm : 0 < (sel N (outP b) (perF f s)).length) => c_shortest A n c T M B _ cb (lf (sel N (outP b) (perF f s))) W hW hu h100 hT hM (sel_bd hpb) hm)
    have HSE := Lib.hid (@second_eq n T M f s (outP b) N)
    have HSN := Lib.hid (@second_none n T M f s (outP b) N)
    generalize hL : sel N (outP b) (perF f s) = L at *
    clear hL hT hM hpb EC EV
    go_enter Try.func35, Try.ntmps35
    go_wp2_with (first | (go_at_call 33; refine (HBP.out _ (hv.below (by repeat' (first | (with_reducible exact Below.refl _ _) | (with_reducible assumption) | (with_reducible refine Base.grow_alloc ?_ _) | (with_reducible refine Base.below_drewN ?_ _) | (with_reducible refine Below.drew ?_) | (with_reducible refine Below.setCell ?_ ?_ _) | go_size)))).mono ?_; rintro e w1 ⟨rfl, hb1⟩; obtain ⟨chb1, fhb1⟩ := Base.bcell hb1; have zhb1 := (hb1).size; (try simp at zhb1); (try have yhb1 : w.heap.size < (w1).heap.size := by omega)) | (go_at_call 64; refine (HPR.out _).mono ?_))
    rintro e w2 ⟨v2, rfl, ho2, hb2⟩
    obtain ⟨A2, c2, rfl, V2, B2⟩ := ho2.view
    have hbw : Below w.heap.size w w2 := (by repeat' (first | (with_reducible exact Below.refl _ _) | (with_reducible assumption) | (with_reducible refine Base.via hb2 ?_) | (with_reducible refine Base.via hb1 ?_) | (with_reducible refine Base.grow_alloc ?_ _) | (with_reducible refine Base.below_drewN ?_ _) | (with_reducible refine Below.drew ?_) | (with_reducible refine Below.setCell ?_ ?_ _) | go_size))
    have k3 : World.cell? w2 ⟨w1.heap.size, 0, none⟩ = some (.int .i64 (perF f s b)) := ((hb2.cell (p := ⟨w1.heap.size, 0, none⟩) (by first | (simp; done) | (simp; omega) | omega)).trans (by simp [go_sem]))
    have hb12 : Below w1.heap.size w1 w2 := (by repeat' (first | (with_reducible exact Below.refl _ _) | (with_reducible assumption) | (with_reducible refine Base.via hb2 ?_) | (with_reducible refine Base.grow_alloc ?_ _) | (with_reducible refine Base.below_drewN ?_ _) | (with_reducible refine Below.drew ?_) | (with_reducible refine Below.setCell ?_ ?_ _) | go_size))
    have k2' : World.cell? w1 ⟨w.heap.size, 2, none⟩ = some (.int .i64 s) := ((hb1.cell (p := ⟨w.heap.size, 2, none⟩) (by first | (simp; done) | (simp; omega) | omega)).trans (by simp [go_sem]))
    have k2 := cell_call hb12 k2'
    clear k2'
    have HPD := Lib.hid (HSP.out w2 w1.heap.size w.heap.size k3 k2)
    clear ho2 B2 chb1 fhb1
    go_wp2_with (first | (go_at_call 68; refine (HCH.out _ A2 c2 _ (V2.below (by repeat' (first | (with_reducible exact Below.refl _ _) | (with_reducible assumption) | (with_reducible refine Base.grow_alloc ?_ _) | (with_reducible refine Base.below_drewN ?_ _) | (with_reducible refine Below.drew ?_) | (with_reducible refine Below.setCell ?_ ?_ _) | go_size))) HPD.out).mono ?_))
    rintro e w3 ⟨v3, rfl, ho3, hb3⟩
    obtain ⟨A3, c3, rfl, V3, B3⟩ := ho3.view
    have hbw3 : Below w.heap.size w w3 := (by repeat' (first | (with_reducible exact Below.refl _ _) | (with_reducible assumption) | (with_reducible refine Base.via hb3 ?_) | (with_reducible refine Base.via hbw ?_) | (with_reducible refine Base.grow_alloc ?_ _) | (with_reducible refine Base.below_drewN ?_ _) | (with_reducible refine Below.drew ?_) | (with_reducible refine Below.setCell ?_ ?_ _) | go_size))
    clear ho3 B3 V2 HPD k2 k3
    by_cases hm : 0 < L.length
    · obtain ⟨g1, g2⟩ := HSE.out hm
      have HC := Lib.hid (show spC n T M f t s = 0 by rw [EC'.out, if_neg (by omega)])
      have HV := Lib.hid (show spV n T M f t s = lf L (amin (fun i => strL n T M (lf L i)) (L.length - 1)) by rw [EV'.out, if_neg (by omega), g2])
      clear g1 g2
      have hq : ((L.length : Int) == 0) = false := by rw [beq_eq_false_iff_ne]; omega
      have hq2 : ¬ (L.length : Int) = 0 := by omega
      go_wp2_with (first | (go_at_call 67; refine (HSH.out _ A3 c3 (hv.below (by repeat' (first | (with_reducible exact Below.refl _ _) | (with_reducible assumption) | (with_reducible refine Base.via hbw3 ?_) | (with_reducible refine Base.grow_alloc ?_ _) | (with_reducible refine Base.below_drewN ?_ _) | (with_reducible refine Below.drew ?_) | (with_reducible refine Below.setCell ?_ ?_ _) | go_size))) (V3.below (by repeat' (first | (with_reducible exact Below.refl _ _) | (with_reducible assumption) | (with_reducible refine Base.grow_alloc ?_ _) | (with_reducible refine Base.below_drewN ?_ _) | (with_reducible refine Below.drew ?_) | (with_reducible refine Below.setCell ?_ ?_ _) | go_size))) hm).mono ?_; rintro e w4 ⟨rfl, hb4⟩; obtain ⟨chb4, fhb4⟩ := Base.bcell hb4; have zhb4 := (hb4).size; (try simp at zhb4); (try have yhb4 : w.heap.size < (w4).heap.size := by omega)))
      go_ret2
      exact ⟨Curve2.ret_pair HV.out.symm HC.out.symm, (by repeat' (first | (with_reducible exact Below.refl _ _) | (with_reducible assumption) | (with_reducible refine Base.via hb4 ?_) | (with_reducible refine Base.via hbw3 ?_) | (with_reducible refine Base.grow_alloc ?_ _) | (with_reducible refine Base.below_drewN ?_ _) | (with_reducible refine Below.drew ?_) | (with_reducible refine Below.setCell ?_ ?_ _) | go_size))⟩
    · have h0 : L.length = 0 := by omega
      have g1 := HSN.out h0
      have HC := Lib.hid (show spC n T M f t s = 3 by rw [EC'.out, if_pos g1])
      have HV := Lib.hid (show spV n T M f t s = 0 by rw [EV'.out, if_pos g1])
      rw [h0]
      clear g1
      go_wp2
      go_ret2
      exact ⟨Curve2.ret_pair HV.out.symm HC.out.symm, (by repeat' (first | (with_reducible exact Below.refl _ _) | (with_reducible assumption) | (with_reducible refine Base.via hbw3 ?_) | (with_reducible refine Base.grow_alloc ?_ _) | (with_reducible refine Base.below_drewN ?_ _) | (with_reducible refine Below.drew ?_) | (with_reducible refine Below.setCell ?_ ?_ _) | go_size))⟩
  · have HC := Lib.hid (show srC n T M f t s 3 = spC n T M f t s by rw [spC, if_neg hc])
    have HV := Lib.hid (show bpV n T M f t s = 0 by rw [bpV, if_neg hc])
    have HV2 := Lib.hid (show spV n T M f t s = 0 by rw [spV, if_neg hc])
    have hq : (srC n T M f t s 3 != 0) = true := by simpa using hc
    go_enter Try.func35, Try.ntmps35
    go_wp2_with (first | (go_at_call 33; refine (HBP.out _ (hv.below (by repeat' (first | (with_reducible exact Below.refl _ _) | (with_reducible assumption) | (with_reducible refine Base.grow_alloc ?_ _) | (with_reducible refine Base.below_drewN ?_ _) | (with_reducible refine Below.drew ?_) | (with_reducible refine Below.setCell ?_ ?_ _) | go_size)))).mono ?_; rintro e w1 ⟨rfl, hb1⟩; obtain ⟨chb1, fhb1⟩ := Base.bcell hb1; have zhb1 := (hb1).size; (try simp at zhb1); (try have yhb1 : w.heap.size < (w1).heap.size := by omega)))
    go_ret2
    exact ⟨Curve2.ret_pair HV2.out.symm HC.out, (by repeat' (first | (with_reducible exact Below.refl _ _) | (with_reducible assumption) | (with_reducible refine Base.via hb1 ?_) | (with_reducible refine Base.grow_alloc ?_ _) | (with_reducible refine Base.below_drewN ?_ _) | (with_reducible refine Below.drew ?_) | (with_reducible refine Below.setCell ?_ ?_ _) | go_size))⟩
set_option maxHeartbeats 1600000 in
theorem c_specSecondPeriod (A : Option Addr) (n c : Nat) (T M : Nat → Int) (f t s : Int) (w : World) (hv : Sl w 2 A n c (f2 T M)) :
    Calls Try.prog 34 #[.slice A n c, .agg #[.int .i64 f, .int .i64 t, .int .i64 s]] w fun e w' => e = .returned (.tuple #[.int .i64 (spV n T M f t s), .int .i64 (spC n T M f t s)]) ∧ Below w.heap.size w w' := by
  have HSR := Lib.hid (fun (W : World) (hW : Sl W 2 A n c (f2 T M)) => c_l10Asked A n c T M f t s W hW)
  by_cases hc : srC n T M f t s 3 = 0
  · obtain ⟨h1, h2, h3, _⟩ := sr_ok hc
    obtain ⟨sb1, sb2, sb3, _⟩ := okSearch_bd h2
    have hlt := bpI_lt (n := n) (T := T) (M := M) h2
    have hN := (perN_ok h2).1
    have EB : spB n T M f t s = bst (outP (bpI n T M f t s)) (lenF n T M f s) (perN f t s) := rfl
    have EC : spC n T M f t s = if spB n T M f t s < 0 then 3 else 0 := by rw [spC, if_pos hc]
    have EV : spV n T M f t s = if spB n T M f t s < 0 then 0 else perF f s (spB n T M f t s).toNat := by rw [spV, if_pos hc]
    have HF := Lib.hid (fun (W : World) (hW : Sl W 2 A n c (f2 T M)) => c_l10All A n c T M f t s W hW h1 h2)
    have HB := Lib.hid (fun (W : World) (B : Option Addr) (cb : Nat) (hW : Sl W 1 B (perN f t s) cb (f1 (lenF n T M f s))) => by have := c_l10Best B (perN f t s) cb (lenF n T M f s) 0 (-1) allP W hW (fun k => rfl); rw [bst_bp h2] at this; exact this)
    have HB2 := Lib.hid (fun (W : World) (B : Option Addr) (cb : Nat) (i : Nat) (hW : Sl W 1 B (perN f t s) cb (f1 (lenF n T M f s))) => c_l10Best B (perN f t s) cb (lenF n T M f s) ((i : Int) - 1) ((i : Int) + 1) (outP i) W hW (fun k => rfl))
    have hpb := per_bd h2
    have hbb := bst_bd (outP (bpI n T M f t s)) (lenF n T M f s) (perN f t s)
    rw [hc] at HSR
    rw [EB] at EC EV
    clear hc EB
    generalize bpI n T M f t s = b at *
    have HB2 := Lib.hid (fun (W : World) (B : Option Addr) (cb : Nat) (hW : Sl W 1 B (perN f t s) cb (f1 (lenF n T M f s))) => HB2.out W B cb b hW)
    generalize bst (outP b) (lenF n T M f s) (perN f t s) = x at *
    have EC' := Lib.hid EC
    have EV' := Lib.hid EV
    have HPB := Lib.hid hpb
    clear EC EV hpb
    go_enter Try.func34, Try.ntmps34
    go_wp2_with (first | (go_at_call 65; refine (HSR.out _ (hv.below (by repeat' (first | (with_reducible exact Below.refl _ _) | (with_reducible assumption) | (with_reducible refine Base.grow_alloc ?_ _) | (with_reducible refine Base.below_drewN ?_ _) | (with_reducible refine Below.drew ?_) | (with_reducible refine Below.setCell ?_ ?_ _) | go_size)))).mono ?_; rintro e w1 ⟨rfl, hb1⟩; obtain ⟨chb1, fhb1⟩ := Base.bcell hb1; have zhb1 := (hb1).size; (try simp at zhb1); (try have yhb1 : w.heap.size < (w1).heap.size := by omega)) | (go_at_call 61; refine (HF.out _ (hv.below (by repeat' (first | (with_reducible exact Below.refl _ _) | (with_reducible assumption) | (with_reducible refine Base.via hb1 ?_) | (with_reducible refine Base.grow_alloc ?_ _) | (with_reducible refine Base.below_drewN ?_ _) | (with_reducible refine Below.drew ?_) | (with_reducible refine Below.setCell ?_ ?_ _) | go_size)))).mono ?_))
    rintro e w2 ⟨v2, rfl, ho2, hb2⟩
    obtain ⟨A2, c2, rfl, V2, B2⟩ := ho2.view
    have hbw : Below w.heap.size w w2 := (by repeat' (first | (with_reducible exact Below.refl _ _) | (with_reducible assumption) | (with_reducible refine Base.via hb2 ?_) | (with_reducible refine Base.via hb1 ?_) | (with_reducible refine Base.grow_alloc ?_ _) | (with_reducible refine Base.below_drewN ?_ _) | (with_reducible refine Below.drew ?_) | (with_reducible refine Below.setCell ?_ ?_ _) | go_size))
    have k0 : World.cell? w2 ⟨w.heap.size, 0, none⟩ = some (.int .i64 f) := ((hb2.cell (p := ⟨w.heap.size, 0, none⟩) (by first | (simp; done) | (simp; omega) | omega)).trans ((hb1.cell (p := ⟨w.heap.size, 0, none⟩) (by first | (simp; done) | (simp; omega) | omega)).trans (by simp [go_sem])))
    have k2 : World.cell? w2 ⟨w.heap.size, 2, none⟩ = some (.int .i64 s) := ((hb2.cell (p := ⟨w.heap.size, 2, none⟩) (by first | (simp; done) | (simp; omega) | omega)).trans ((hb1.cell (p := ⟨w.heap.size, 2, none⟩) (by first | (simp; done) | (simp; omega) | omega)).trans (by simp [go_sem])))
    clear ho2 B2 chb1 fhb1
    have e1 : IntKind.i64.wrap ((b : Int) - 1) = (b : Int) - 1 := IntWalk.i64_in _ (by omega)
    have e2 : IntKind.i64.wrap ((b : Int) + 1) = (b : Int) + 1 := IntWalk.i64_in _ (by omega)
    go_wp2_with fail
    refine (HB.out _ A2 c2 (V2.below (by repeat' (first | (with_reducible exact Below.refl _ _) | (with_reducible assumption) | (with_reducible refine Base.grow_alloc ?_ _) | (with_reducible refine Base.below_drewN ?_ _) | (with_reducible refine Below.drew ?_) | (with_reducible refine Below.setCell ?_ ?_ _) | go_size)))).mono ?_
    rintro e w3 ⟨rfl, hb3⟩
    have V3 := V2.below hb3
    have k0' := cell_call hb3 k0
    have k2' := cell_call hb3 k2
    have hbw3 : Below w.heap.size w w3 := (by repeat' (first | (with_reducible exact Below.refl _ _) | (with_reducible assumption) | (with_reducible refine Base.via hb3 ?_) | (with_reducible refine Base.via hbw ?_) | (with_reducible refine Base.grow_alloc ?_ _) | (with_reducible refine Base.below_drewN ?_ _) | (with_reducible refine Below.drew ?_) | (with_reducible refine Below.setCell ?_ ?_ _) | go_size))
    clear k0 k2 V2
    by_cases hx : x < 0
    · have HC := Lib.hid (show spC n T M f t s = 3 by rw [EC'.out, if_pos hx])
      have HV := Lib.hid (show spV n T M f t s = 0 by rw [EV'.out, if_pos hx])
      go_wp2_with (first | (go_at_call 66; refine (HB2.out _ A2 c2 (V3.below (by repeat' (first | (with_reducible exact Below.refl _ _) | (with_reducible assumption) | (with_reducible refine Base.grow_alloc ?_ _) | (with_reducible refine Base.below_drewN ?_ _) | (with_reducible refine Below.drew ?_) | (with_reducible refine Below.setCell ?_ ?_ _) | go_size)))).mono ?_; rintro e w4 ⟨rfl, hb4⟩))
      go_ret2
      exact ⟨Curve2.ret_pair HV.out.symm HC.out.symm, (by repeat' (first | (with_reducible exact Below.refl _ _) | (with_reducible assumption) | (with_reducible refine Base.via hb4 ?_) | (with_reducible refine Base.via hbw3 ?_) | (with_reducible refine Base.grow_alloc ?_ _) | (with_reducible refine Base.below_drewN ?_ _) | (with_reducible refine Below.drew ?_) | (with_reducible refine Below.setCell ?_ ?_ _) | go_size))⟩
    · obtain ⟨i, rfl⟩ : ∃ i : Nat, x = i := ⟨x.toNat, by omega⟩
      have hpi := HPB.out i (by omega)
      have HC := Lib.hid (show spC n T M f t s = 0 by rw [EC'.out, if_neg hx])
      have HV := Lib.hid (show spV n T M f t s = f + s * i by rw [EV'.out, if_neg hx, Int.toNat_natCast, perF, Int.mul_comm])
      have hm : 0 ≤ s * (i : Int) ∧ f + s * (i : Int) ≤ 1000000 := by
        have : 0 ≤ s * (i : Int) := Int.mul_nonneg (by omega) (by omega)
        rw [perF, Int.mul_comm] at hpi
        omega
      clear hpi
      go_wp2_with (first | (go_at_call 66; refine (HB2.out _ A2 c2 (V3.below (by repeat' (first | (with_reducible exact Below.refl _ _) | (with_reducible assumption) | (with_reducible refine Base.grow_alloc ?_ _) | (with_reducible refine Base.below_drewN ?_ _) | (with_reducible refine Below.drew ?_) | (with_reducible refine Below.setCell ?_ ?_ _) | go_size)))).mono ?_; rintro e w4 ⟨rfl, hb4⟩; have q0 := cell_call hb4 k0'; have q2 := cell_call hb4 k2'))
      go_ret2
      exact ⟨Curve2.ret_pair (by first | exact HV.out.symm | (rw [IntWalk.i64_in (s * (i : Int)) (by omega), IntWalk.i64_in _ (by omega)]; exact HV.out.symm)) HC.out.symm, (by repeat' (first | (with_reducible exact Below.refl _ _) | (with_reducible assumption) | (with_reducible refine Base.via hb4 ?_) | (with_reducible refine Base.via hbw3 ?_) | (with_reducible refine Base.grow_alloc ?_ _) | (with_reducible refine Base.below_drewN ?_ _) | (with_reducible refine Below.drew ?_) | (with_reducible refine Below.setCell ?_ ?_ _) | go_size))⟩
  · have HC := Lib.hid (show srC n T M f t s 3 = spC n T M f t s by rw [spC, if_neg hc])
    have HV2 := Lib.hid (show spV n T M f t s = 0 by rw [spV, if_neg hc])
    have hq : (srC n T M f t s 3 != 0) = true := by simpa using hc
    go_enter Try.func34, Try.ntmps34
    go_wp2_with (first | (go_at_call 65; refine (HSR.out _ (hv.below (by repeat' (first | (with_reducible exact Below.refl _ _) | (with_reducible assumption) | (with_reducible refine Base.grow_alloc ?_ _) | (with_reducible refine Base.below_drewN ?_ _) | (with_reducible refine Below.drew ?_) | (with_reducible refine Below.setCell ?_ ?_ _) | go_size)))).mono ?_; rintro e w1 ⟨rfl, hb1⟩; obtain ⟨chb1, fhb1⟩ := Base.bcell hb1; have zhb1 := (hb1).size; (try simp at zhb1); (try have yhb1 : w.heap.size < (w1).heap.size := by omega)))
    go_ret2
    exact ⟨Curve2.ret_pair HV2.out.symm HC.out, (by repeat' (first | (with_reducible exact Below.refl _ _) | (with_reducible assumption) | (with_reducible refine Base.via hb1 ?_) | (with_reducible refine Base.grow_alloc ?_ _) | (with_reducible refine Base.below_drewN ?_ _) | (with_reducible refine Below.drew ?_) | (with_reducible refine Below.setCell ?_ ?_ _) | go_size))⟩
end Go.Proofs.Ytenjcdhehjdeoaa.Str
