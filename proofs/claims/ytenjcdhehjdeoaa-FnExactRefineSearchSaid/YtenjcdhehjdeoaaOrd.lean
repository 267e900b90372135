/- The order of indices by numbers, equal ones in their order: what the program computes. -/
import Derived.Test.YtenjcdhehjdeoaaSrt6
import Derived.Test.YtenjcdhehjdeoaaMagG
import Derived.Test.YtenjcdhehjdeoaaEph
import Derived.Test.YtenjcdhehjdeoaaCurve
namespace Go.Proofs.Ytenjcdhehjdeoaa.Ord
set_option linter.unusedVariables false
set_option linter.unusedSimpArgs false
set_option maxRecDepth 8000
open Go.RowKit Plain Num View Sym Srt

theorem infoI : (Try.prog.info? 2).map (fun i => (i.zero, i.size, i.bytes)) = some (some (.int .i64 0), 1, 8) := by kernel_rfl
/-- one more number put into an order -/
theorem ins_blk {K : Int → Int} {L : List Int} {i k : Nat} (hl : L.length = i) (hb : Blk K (lf L) 0 i) (hk : k ≤ i) (h1 : ∀ q, k ≤ q → q < i → K i < K (lf L q)) (h2 : k = 0 ∨ ¬ K i < K (lf L (k - 1))) :
    Blk K (lf (L.take k ++ [(i : Int)] ++ L.drop k)) 0 (i + 1) := by
  have g1 : ∀ q, q < k → lf (L.take k ++ [(i : Int)] ++ L.drop k) q = lf L q := fun q hq => by
    simp only [lf, List.getD_eq_getElem?_getD]
    rw [List.append_assoc, List.getElem?_append_left (by simp; omega), List.getElem?_take, if_pos hq]
  have g2 : lf (L.take k ++ [(i : Int)] ++ L.drop k) k = i := by
    simp only [lf, List.getD_eq_getElem?_getD]
    rw [List.append_assoc, List.getElem?_append_right (by simp; omega)]
    have : k - (L.take k).length = 0 := by simp; omega
    rw [this]
    rfl
  have g3 : ∀ q, k < q → lf (L.take k ++ [(i : Int)] ++ L.drop k) q = lf L (q - 1) := fun q hq => by
    simp only [lf, List.getD_eq_getElem?_getD]
    rw [List.append_assoc, List.getElem?_append_right (by simp; omega)]
    have : q - (L.take k).length = (q - 1 - k) + 1 := by simp; omega
    rw [this, List.singleton_append, List.getElem?_cons_succ, List.getElem?_drop]
    congr 2; omega
  have hlow : ∀ q, q < k → ltK K (lf L q) i := fun q hq => by
    rcases h2 with h | h
    · omega
    · have b := hb.2.1 (k - 1) (by omega) (by omega)
      have hx : ltK K (lf L (k - 1)) i := ltK_not (by omega) h
      by_cases e : q = k - 1
      · subst e; exact hx
      · exact ltK_trans (hb.1 q (k - 1) (by omega) (by omega) (by omega)) hx
  have hup : ∀ q, k ≤ q → q < i → ltK K i (lf L q) := fun q q1 q2 => .inl (h1 q q1 q2)
  refine ⟨fun p q _ pq qi => ?_, fun q _ qi => ?_, fun x _ xi => ?_⟩
  · rcases Nat.lt_trichotomy p k with c | c | c
    · rw [g1 p c]
      rcases Nat.lt_trichotomy q k with d | d | d
      · rw [g1 q d]; exact hb.1 p q (by omega) pq (by omega)
      · subst d; rw [g2]; exact hlow p c
      · rw [g3 q d]; exact ltK_trans (hlow p c) (hup (q - 1) (by omega) (by omega))
    · subst c
      rw [g2, g3 q pq]; exact hup (q - 1) (by omega) (by omega)
    · rw [g3 p c, g3 q (by omega)]; exact hb.1 (p - 1) (q - 1) (by omega) (by omega) (by omega)
  · rcases Nat.lt_trichotomy q k with c | c | c
    · rw [g1 q c]; have := hb.2.1 q (by omega) (by omega); omega
    · subst c; rw [g2]; omega
    · rw [g3 q c]; have := hb.2.1 (q - 1) (by omega) (by omega); omega
  · by_cases e : x = i
    · subst e; exact ⟨k, by omega, by omega, g2⟩
    · obtain ⟨j, _, j2, e2⟩ := hb.2.2 x (by omega) (by omega)
      by_cases c : j < k
      · exact ⟨j, by omega, by omega, by rw [g1 j c]; exact e2⟩
      · exact ⟨j + 1, by omega, by omega, by rw [g3 (j + 1) (by omega)]; exact e2⟩
theorem ins_at (K : Int → Int) (L : List Int) (i : Nat) : ∀ m, m ≤ i → (∀ q, m ≤ q → q < i → K i < K (lf L q)) → ∃ k, k ≤ i ∧ (∀ q, k ≤ q → q < i → K i < K (lf L q)) ∧ (k = 0 ∨ ¬ K i < K (lf L (k - 1))) := by
  intro m
  induction m with
  | zero => intro _ h; exact ⟨0, by omega, h, .inl rfl⟩
  | succ m ih =>
    intro hm h
    by_cases c : K i < K (lf L m)
    · exact ih (by omega) (fun q q1 q2 => by
        by_cases e : q = m
        · subst e; exact c
        · exact h q (by omega) q2)
    · exact ⟨m + 1, hm, h, .inr c⟩
theorem order_exists (K : Int → Int) (n : Nat) : ∃ L : List Int, L.length = n ∧ Blk K (lf L) 0 n := by
  induction n with
  | zero => exact ⟨[], rfl, Asc.small (by omega), fun i h1 h2 => by omega, fun x h1 h2 => by omega⟩
  | succ n ih =>
    obtain ⟨L, hl, hb⟩ := ih
    obtain ⟨k, k1, k2, k3⟩ := ins_at K L n n (Nat.le_refl _) (fun q h1 h2 => by omega)
    exact ⟨_, by simp; omega, ins_blk hl hb k1 k2 k3⟩
theorem foL_ok (K : Int → Int) (n : Nat) : (foL K n).length = n ∧ Blk K (lf (foL K n)) 0 n := by
  obtain ⟨L, hl, hb⟩ := order_exists K n
  rw [foL_eq (K := K) hl hb]
  exact ⟨hl, hb⟩
theorem foL_len (K : Int → Int) (n : Nat) : (foL K n).length = n := (foL_ok K n).1
theorem foL_row {K : Int → Int} {n : Nat} {D : Nat → Int} (h : Blk K D 0 n) : ∀ i, i < n → lf (foL K n) i = D i := fun i hi => (foL_ok K n).2.unique h i hi
theorem foL_in (K : Int → Int) (n i : Nat) (hi : i < n) : 0 ≤ lf (foL K n) i ∧ lf (foL K n) i < n := (foL_ok K n).2.2.1 i (by omega) hi
theorem foL_congr {K K' : Int → Int} {n : Nat} (h : ∀ x : Int, 0 ≤ x → x < n → K x = K' x) : foL K n = foL K' n := by
  obtain ⟨hl, hb⟩ := foL_ok K n
  refine (foL_eq (K := K') hl ?_).symm
  refine ⟨fun i j i1 ij j1 => ?_, hb.2.1, hb.2.2⟩
  have e1 := hb.2.1 i i1 (by omega)
  have e2 := hb.2.1 j (by omega) j1
  have hx := hb.1 i j i1 ij j1
  unfold ltK at hx ⊢
  show K' (lf (foL K n) i) < K' (lf (foL K n) j) ∨ (K' (lf (foL K n) i) = K' (lf (foL K n) j) ∧ _)
  rw [← h _ (by omega) (by omega), ← h _ (by omega) (by omega)]
  exact hx

/-- a closure that tells the number of each index -/
def NumOk (P : Program) (w0 : World) (nf : Nat) (nlb : Array Value) (n : Nat) (K : Int → Int) : Prop :=
  ∀ (W : World), Below w0.heap.size w0 W → ∀ x : Int, 0 ≤ x → x < n → Calls P nf (#[.int .i64 x] ++ nlb) W fun e w' => e = .returned (.int .i64 (K x)) ∧ Below W.heap.size W w'
theorem NumOk.below {P : Program} {w w1 : World} {g : Nat} {lb : Array Value} {n : Nat} {K : Int → Int} (h : NumOk P w g lb n K) (hb : Below w.heap.size w w1) : NumOk P w1 g lb n K :=
  fun W hW i hi => h W (Base.via hW hb) i hi
set_option maxHeartbeats 1600000 in
theorem c_cmp (bn nf : Nat) (nlb : Array Value) (n : Nat) (K : Int → Int) (W : World) (egn : ∀ args w, (callFunc nf args).run Try.prog w = .ok (.enter nf args) w) (hnum : NumOk Try.prog W nf nlb n K)
    (hb : W.cell? ⟨bn, 0, none⟩ = some (.func (.func nf) #[] nlb)) (x y : Int) (x0 : 0 ≤ x) (x1 : x < n) (y0 : 0 ≤ y) (y1 : y < n) :
    Calls Try.prog 103 #[.int .i64 x, .int .i64 y, .pointer (some ⟨bn, 0, none⟩)] W fun e w' => e = .returned (.int .i64 (cmpV K x y)) ∧ Below W.heap.size W w' := by
  have HN := Lib.hid hnum
  clear hnum
  have lb := World.block_lt_of_cell? _ _ hb
  dsimp only at lb
  have HV : Hid (cmpV K x y = if K x < K y then -1 else if K y < K x then 1 else 0) := Lib.hid rfl
  rcases Int.lt_trichotomy (K x) (K y) with h | h | h
  · have e1 : (K x == K y) = false := by rw [beq_eq_false_iff_ne]; omega
    have e2 : ¬ K x = K y := by omega
    have e3 : decide (K x < K y) = true := by simpa using h
    have HR : Hid (cmpV K x y = -1) := Lib.hid (by rw [HV.out, if_pos h])
    go_enter Try.func103, Try.ntmps103
    go_wp2
    go_region_held3 (fun V => V.cell? ⟨bn, 0, none⟩ = some (.func (.func nf) #[] nlb) ∧ Below W.heap.size W V)
      (first | exact ⟨cell_drew hb, (by repeat' (first | (with_reducible exact Below.refl _ _) | (with_reducible assumption) | (with_reducible refine Base.grow_alloc ?_ _) | (with_reducible refine Base.below_drewN ?_ _) | (with_reducible refine Below.drew ?_) | (with_reducible refine Below.setCell ?_ ?_ _) | go_size))⟩ | (obtain ⟨d0, hs⟩ := ‹_ ∧ Below W.heap.size W _›; exact ⟨cell_call hb2 d0, Base.via hb2 hs⟩) | (obtain ⟨d0, hs⟩ := ‹_ ∧ Below W.heap.size W _›; exact ⟨cell_call hb1 d0, Base.via hb1 hs⟩))
      (first | (go_at_fn nf; refine (HN.out _ (by first | exact (‹_ ∧ Below W.heap.size W _›).2 | exact (by repeat' (first | (with_reducible exact Below.refl _ _) | (with_reducible assumption) | (with_reducible refine Base.grow_alloc ?_ _) | (with_reducible refine Base.below_drewN ?_ _) | (with_reducible refine Below.drew ?_) | (with_reducible refine Below.setCell ?_ ?_ _) | go_size))) x x0 x1).mono ?_; rintro e w1 ⟨rfl, hb1⟩) | (go_at_fn nf; refine (HN.out _ (by first | exact (‹_ ∧ Below W.heap.size W _›).2 | exact (by repeat' (first | (with_reducible exact Below.refl _ _) | (with_reducible assumption) | (with_reducible refine Base.grow_alloc ?_ _) | (with_reducible refine Base.below_drewN ?_ _) | (with_reducible refine Below.drew ?_) | (with_reducible refine Below.setCell ?_ ?_ _) | go_size))) y y0 y1).mono ?_; rintro e w2 ⟨rfl, hb2⟩))
    all_goals
      obtain ⟨_, hE⟩ := ‹_ ∧ Below W.heap.size W _›
      go_wp2
      go_ret
      exact ⟨ret_int HR.out.symm, (by repeat' (first | (with_reducible exact Below.refl _ _) | (with_reducible assumption) | (with_reducible refine Base.via hE ?_) | (with_reducible refine Base.grow_alloc ?_ _) | (with_reducible refine Base.below_drewN ?_ _) | (with_reducible refine Below.drew ?_) | (with_reducible refine Below.setCell ?_ ?_ _) | go_size))⟩
  · have e1 : (K x == K y) = true := by rw [beq_iff_eq]; exact h
    have HH := Lib.hid h
    clear h
    have HR : Hid (cmpV K x y = 0) := Lib.hid (by rw [HV.out, if_neg (by have := HH.out; omega), if_neg (by have := HH.out; omega)])
    go_enter Try.func103, Try.ntmps103
    go_wp2
    go_region_held3 (fun V => V.cell? ⟨bn, 0, none⟩ = some (.func (.func nf) #[] nlb) ∧ Below W.heap.size W V)
      (first | exact ⟨cell_drew hb, (by repeat' (first | (with_reducible exact Below.refl _ _) | (with_reducible assumption) | (with_reducible refine Base.grow_alloc ?_ _) | (with_reducible refine Base.below_drewN ?_ _) | (with_reducible refine Below.drew ?_) | (with_reducible refine Below.setCell ?_ ?_ _) | go_size))⟩ | (obtain ⟨d0, hs⟩ := ‹_ ∧ Below W.heap.size W _›; exact ⟨cell_call hb2 d0, Base.via hb2 hs⟩) | (obtain ⟨d0, hs⟩ := ‹_ ∧ Below W.heap.size W _›; exact ⟨cell_call hb1 d0, Base.via hb1 hs⟩))
      (first | (go_at_fn nf; refine (HN.out _ (by first | exact (‹_ ∧ Below W.heap.size W _›).2 | exact (by repeat' (first | (with_reducible exact Below.refl _ _) | (with_reducible assumption) | (with_reducible refine Base.grow_alloc ?_ _) | (with_reducible refine Base.below_drewN ?_ _) | (with_reducible refine Below.drew ?_) | (with_reducible refine Below.setCell ?_ ?_ _) | go_size))) x x0 x1).mono ?_; rintro e w1 ⟨rfl, hb1⟩) | (go_at_fn nf; refine (HN.out _ (by first | exact (‹_ ∧ Below W.heap.size W _›).2 | exact (by repeat' (first | (with_reducible exact Below.refl _ _) | (with_reducible assumption) | (with_reducible refine Base.grow_alloc ?_ _) | (with_reducible refine Base.below_drewN ?_ _) | (with_reducible refine Below.drew ?_) | (with_reducible refine Below.setCell ?_ ?_ _) | go_size))) y y0 y1).mono ?_; rintro e w2 ⟨rfl, hb2⟩))
    all_goals
      obtain ⟨_, hE⟩ := ‹_ ∧ Below W.heap.size W _›
      go_wp2
      go_ret
      exact ⟨ret_int HR.out.symm, (by repeat' (first | (with_reducible exact Below.refl _ _) | (with_reducible assumption) | (with_reducible refine Base.via hE ?_) | (with_reducible refine Base.grow_alloc ?_ _) | (with_reducible refine Base.below_drewN ?_ _) | (with_reducible refine Below.drew ?_) | (with_reducible refine Below.setCell ?_ ?_ _) | go_size))⟩
  · have e1 : (K x == K y) = false := by rw [beq_eq_false_iff_ne]; omega
    have e2 : ¬ K x = K y := by omega
    have e3 : decide (K x < K y) = false := by rw [decide_eq_false_iff_not]; omega
    have HR : Hid (cmpV K x y = 1) := Lib.hid (by rw [HV.out, if_neg (by omega), if_pos h])
    go_enter Try.func103, Try.ntmps103
    go_wp2
    go_region_held3 (fun V => V.cell? ⟨bn, 0, none⟩ = some (.func (.func nf) #[] nlb) ∧ Below W.heap.size W V)
      (first | exact ⟨cell_drew hb, (by repeat' (first | (with_reducible exact Below.refl _ _) | (with_reducible assumption) | (with_reducible refine Base.grow_alloc ?_ _) | (with_reducible refine Base.below_drewN ?_ _) | (with_reducible refine Below.drew ?_) | (with_reducible refine Below.setCell ?_ ?_ _) | go_size))⟩ | (obtain ⟨d0, hs⟩ := ‹_ ∧ Below W.heap.size W _›; exact ⟨cell_call hb2 d0, Base.via hb2 hs⟩) | (obtain ⟨d0, hs⟩ := ‹_ ∧ Below W.heap.size W _›; exact ⟨cell_call hb1 d0, Base.via hb1 hs⟩))
      (first | (go_at_fn nf; refine (HN.out _ (by first | exact (‹_ ∧ Below W.heap.size W _›).2 | exact (by repeat' (first | (with_reducible exact Below.refl _ _) | (with_reducible assumption) | (with_reducible refine Base.grow_alloc ?_ _) | (with_reducible refine Base.below_drewN ?_ _) | (with_reducible refine Below.drew ?_) | (with_reducible refine Below.setCell ?_ ?_ _) | go_size))) x x0 x1).mono ?_; rintro e w1 ⟨rfl, hb1⟩) | (go_at_fn nf; refine (HN.out _ (by first | exact (‹_ ∧ Below W.heap.size W _›).2 | exact (by repeat' (first | (with_reducible exact Below.refl _ _) | (with_reducible assumption) | (with_reducible refine Base.grow_alloc ?_ _) | (with_reducible refine Base.below_drewN ?_ _) | (with_reducible refine Below.drew ?_) | (with_reducible refine Below.setCell ?_ ?_ _) | go_size))) y y0 y1).mono ?_; rintro e w2 ⟨rfl, hb2⟩))
    all_goals
      obtain ⟨_, hE⟩ := ‹_ ∧ Below W.heap.size W _›
      go_wp2
      go_ret
      exact ⟨ret_int HR.out.symm, (by repeat' (first | (with_reducible exact Below.refl _ _) | (with_reducible assumption) | (with_reducible refine Base.via hE ?_) | (with_reducible refine Base.grow_alloc ?_ _) | (with_reducible refine Base.below_drewN ?_ _) | (with_reducible refine Below.drew ?_) | (with_reducible refine Below.setCell ?_ ?_ _) | go_size))⟩
theorem c_true (x : Int) (W : World) : Calls Try.prog 101 #[.int .i64 x] W fun e w' => e = .returned (.bool true) ∧ Below W.heap.size W w' := by
  go_enter Try.func101, Try.ntmps101
  go_wp2
  go_ret
  exact ⟨rfl, (by repeat' (first | (with_reducible exact Below.refl _ _) | (with_reducible assumption) | (with_reducible refine Base.grow_alloc ?_ _) | (with_reducible refine Base.below_drewN ?_ _) | (with_reducible refine Below.drew ?_) | (with_reducible refine Below.setCell ?_ ?_ _) | go_size))⟩
set_option maxHeartbeats 1600000 in
theorem c_orderBy (n nf : Nat) (nlb : Array Value) (K : Int → Int) (w : World) (egn : ∀ args w, (callFunc nf args).run Try.prog w = .ok (.enter nf args) w) (hn : n ≤ 1048576) (hnum : NumOk Try.prog w nf nlb n K) :
    Calls Try.prog 85 #[.int .i64 n, .func (.func nf) #[] nlb] w fun e w' => ∃ v, e = .returned v ∧ OwnK w' w.heap.size 2 1 v n (f1 (lf (foL K n))) ∧ Below w.heap.size w w' := by
  have eg1 : ∀ args w, (callFunc 101 args).run Try.prog w = .ok (.enter 101 args) w := enters_of Try.func101 (by kernel_rfl) rfl
  have eg2 : ∀ args w, (callFunc 103 args).run Try.prog w = .ok (.enter 103 args) w := enters_of Try.func103 (by kernel_rfl) rfl
  have HC := Lib.hid (fun (W : World) (hW : Below w.heap.size w W) (hb : W.cell? ⟨w.heap.size, 0, none⟩ = some (.func (.func nf) #[] nlb)) => (show CmpOk Try.prog W 103 #[.pointer (some ⟨w.heap.size, 0, none⟩)] n K from fun V hV x y x0 x1 y0 y1 =>
    c_cmp w.heap.size nf nlb n K V egn (hnum.below (hW.trans (hV.mono hW.size))) (cell_call hV hb) x y x0 x1 y0 y1))
  clear hnum
  have hl : (sel n all1 MagG.iotaI).length = n := sel_all_len
  have HL := Lib.hid hl
  clear hl
  go_enter Try.func85, Try.ntmps85
  go_wp2_with (first | (go_at_call 48; refine (MagG.c_indicesWhere n 101 #[] all1 _ eg1 hn (fun V _ i _ => c_true (i : Int) V)).mono ?_))
  rintro e w2 ⟨v, rfl, ho, hb2⟩
  obtain ⟨w1, hb1, k0, ho1, hb3⟩ : ∃ w1 : World, Below w.heap.size w w1 ∧ w1.cell? ⟨w.heap.size, 0, none⟩ = some (.func (.func nf) #[] nlb) ∧ OwnK w2 w1.heap.size 2 1 v (sel n all1 MagG.iotaI).length (f1 (lf (sel n all1 MagG.iotaI))) ∧ Below w1.heap.size w1 w2 := ⟨_, (by repeat' (first | (with_reducible exact Below.refl _ _) | (with_reducible assumption) | (with_reducible refine Base.grow_alloc ?_ _) | (with_reducible refine Base.below_drewN ?_ _) | (with_reducible refine Below.drew ?_) | (with_reducible refine Below.setCell ?_ ?_ _) | go_size)), by simp [go_sem], ho, hb2⟩
  have HCM := Lib.hid (HC.out w1 hb1 k0)
  have hbw : Below w.heap.size w w2 := hb1.trans (hb3.mono hb1.size)
  have HS1 := hb1.size
  clear ho hb2 k0
  rw [HL.out] at ho1
  obtain ⟨hn', ⟨rfl, rfl⟩ | ⟨g, c, rfl, hc, hm, hB, hr⟩⟩ := ho1
  · go_wp2_with (first | (go_at_call 102; refine (Srt.c_sortStableNil _ _ _).mono ?_; rintro e w' ⟨rfl, rfl⟩))
    go_ret
    exact ⟨_, rfl, OwnK.none _ _ _ _ _, (by repeat' (first | (with_reducible exact Below.refl _ _) | (with_reducible assumption) | (with_reducible refine Base.via hbw ?_) | (with_reducible refine Base.grow_alloc ?_ _) | (with_reducible refine Base.below_drewN ?_ _) | (with_reducible refine Below.drew ?_) | (with_reducible refine Below.setCell ?_ ?_ _) | go_size))⟩
  · have HST : Hid (St w1 w2 2 g n (lf (sel n all1 MagG.iotaI))) := Lib.hid ⟨hB, hr, hb3⟩
    clear hr hb3
    go_wp2_with (first | (go_at_call 102; refine (Srt.c_sortStable g n c w1 103 _ K eg2 HCM.out hn hc hm _ _ HST.out (fun i hi => lf_all hi)).mono ?_; rintro e w3 ⟨rfl, hx⟩))
    obtain ⟨D', hbk, st⟩ := hx
    go_ret
    exact ⟨_, rfl, ⟨hn, .inr ⟨g, c, rfl, hc, hm, by omega, st.2.1.congr (fun i hi j _ => by simp only [f1]; rw [foL_row hbk i hi])⟩⟩, hb1.trans (st.2.2.mono HS1)⟩
/-- the phase of a point -/
def phK (e p : Int) (T : Nat → Int) (x : Int) : Int := (T x.toNat - e) % p
theorem phK_at {e p : Int} {T : Nat → Int} {i : Nat} : phK e p T i = (T i - e) % p := by simp [phK]
set_option maxHeartbeats 1600000 in
theorem c_fold1 (be bc : Nat) (e p : Int) (A : Option Addr) (n c : Nat) (T M : Nat → Int) (W : World) (h0 : W.cell? ⟨be, 0, none⟩ = some (.int .i64 e)) (h1 : W.cell? ⟨be, 1, none⟩ = some (.int .i64 p)) (h2 : W.cell? ⟨bc, 0, none⟩ = some (.slice A n c))
    (hv : Sl W 2 A n c (f2 T M)) (b1 : 0 ≤ e ∧ e ≤ 10000000) (b2 : 1 ≤ p ∧ p ≤ 1000000) (hT : ∀ i, i < n → 0 ≤ T i ∧ T i ≤ 10000000) (x : Int) (x0 : 0 ≤ x) (x1 : x < n) :
    Calls Try.prog 86 #[.int .i64 x, .pointer (some ⟨be, 0, none⟩), .pointer (some ⟨bc, 0, none⟩)] W fun r w' => r = .returned (.int .i64 (phK e p T x)) ∧ Below W.heap.size W w' := by
  obtain ⟨i, rfl⟩ : ∃ i : Nat, x = i := ⟨x.toNat, by omega⟩
  have hin : i < n := by omega
  have hn := hv.le
  obtain ⟨b, off, rfl, hb, hc⟩ := hv.at_ (by omega)
  obtain ⟨q0, q1⟩ := cells2 hc i hin
  have hTi := hT i hin
  have HR : Hid (phK e p T i = (T i - e) % p) := Lib.hid phK_at
  clear hc hT
  have l1 := World.block_lt_of_cell? _ _ h0
  have l2 := World.block_lt_of_cell? _ _ h2
  dsimp only at l1 l2
  go_enter Try.func86, Try.ntmps86
  go_wp2
  go_region_held3 (fun V => (V.cell? ⟨be, 0, none⟩ = some (.int .i64 e) ∧ V.cell? ⟨be, 1, none⟩ = some (.int .i64 p) ∧ V.cell? ⟨bc, 0, none⟩ = some (.slice (some ⟨b, off, none⟩) n c) ∧ V.cell? ⟨b, off + i * 2, none⟩ = some (.int .i64 (T i))) ∧ Below W.heap.size W V)
    (first | exact ⟨⟨cell_drew h0, cell_drew h1, cell_drew h2, cell_drew q0⟩, (by repeat' (first | (with_reducible exact Below.refl _ _) | (with_reducible assumption) | (with_reducible refine Base.grow_alloc ?_ _) | (with_reducible refine Base.below_drewN ?_ _) | (with_reducible refine Below.drew ?_) | (with_reducible refine Below.setCell ?_ ?_ _) | go_size))⟩ | exact ⟨⟨cell_call hb1 h0, cell_call hb1 h1, cell_call hb1 h2, cell_call hb1 q0⟩, (by repeat' (first | (with_reducible exact Below.refl _ _) | (with_reducible assumption) | (with_reducible refine Base.via hb1 ?_) | (with_reducible refine Base.grow_alloc ?_ _) | (with_reducible refine Base.below_drewN ?_ _) | (with_reducible refine Below.drew ?_) | (with_reducible refine Below.setCell ?_ ?_ _) | go_size))⟩)
    (first | (go_at_call 87; refine (Eph.c_phase e p (T i) _ b1 b2 hTi).mono ?_; rintro e w1 ⟨rfl, hb1⟩))
  all_goals
    obtain ⟨_, hE⟩ := ‹_ ∧ Below W.heap.size W _›
    go_wp2
    go_ret
    exact ⟨ret_int HR.out.symm, (by repeat' (first | (with_reducible exact Below.refl _ _) | (with_reducible assumption) | (with_reducible refine Base.via hE ?_) | (with_reducible refine Base.grow_alloc ?_ _) | (with_reducible refine Base.below_drewN ?_ _) | (with_reducible refine Below.drew ?_) | (with_reducible refine Below.setCell ?_ ?_ _) | go_size))⟩
set_option maxHeartbeats 800000 in
theorem c_foldOrder (e p : Int) (A : Option Addr) (n c : Nat) (T M : Nat → Int) (w : World) (hv : Sl w 2 A n c (f2 T M)) (b1 : 0 ≤ e ∧ e ≤ 10000000) (b2 : 1 ≤ p ∧ p ≤ 1000000) (hT : ∀ i, i < n → 0 ≤ T i ∧ T i ≤ 10000000) :
    Calls Try.prog 59 #[.agg #[.int .i64 e, .int .i64 p], .slice A n c] w fun r w' => ∃ v, r = .returned v ∧ OwnK w' w.heap.size 2 1 v n (f1 (lf (foL (phK e p T) n))) ∧ Below w.heap.size w w' := by
  have hn := hv.le
  have eg : ∀ args w, (callFunc 86 args).run Try.prog w = .ok (.enter 86 args) w := enters_of Try.func86 (by kernel_rfl) rfl
  have HN := Lib.hid (fun (W : World) (hW : Below w.heap.size w W) (k0 : W.cell? ⟨w.heap.size, 0, none⟩ = some (.int .i64 e)) (k1 : W.cell? ⟨w.heap.size, 1, none⟩ = some (.int .i64 p)) (k2 : W.cell? ⟨w.heap.size + 1, 0, none⟩ = some (.slice A n c)) =>
    (show NumOk Try.prog W 86 #[.pointer (some ⟨w.heap.size, 0, none⟩), .pointer (some ⟨w.heap.size + 1, 0, none⟩)] n (phK e p T) from fun V hV x x0 x1 =>
      c_fold1 _ _ e p A n c T M V (cell_call hV k0) (cell_call hV k1) (cell_call hV k2) (hv.below (hW.trans (hV.mono hW.size))) b1 b2 hT x x0 x1))
  clear hT
  go_enter Try.func59, Try.ntmps59
  go_wp2_with (first | (go_at_call 85; refine (c_orderBy n 86 _ (phK e p T) _ eg hn (HN.out _ (by repeat' (first | (with_reducible exact Below.refl _ _) | (with_reducible assumption) | (with_reducible refine Base.grow_alloc ?_ _) | (with_reducible refine Base.below_drewN ?_ _) | (with_reducible refine Below.drew ?_) | (with_reducible refine Below.setCell ?_ ?_ _) | go_size)) (by simp [go_sem]) (by simp [go_sem]) (by simp [go_sem]))).mono ?_))
  rintro r w2 ⟨v, rfl, ho, hb2⟩
  go_wp2
  go_ret
  exact ⟨_, rfl, ho.mono (by simp; omega), (by repeat' (first | (with_reducible exact Below.refl _ _) | (with_reducible assumption) | (with_reducible refine Base.via hb2 ?_) | (with_reducible refine Base.grow_alloc ?_ _) | (with_reducible refine Base.below_drewN ?_ _) | (with_reducible refine Below.drew ?_) | (with_reducible refine Below.setCell ?_ ?_ _) | go_size))⟩
end Go.Proofs.Ytenjcdhehjdeoaa.Ord
