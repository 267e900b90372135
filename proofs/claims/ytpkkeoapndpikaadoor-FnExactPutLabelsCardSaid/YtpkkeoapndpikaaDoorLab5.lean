/- The labels behind those whose sides are known: the reference's. -/
import Derived.Test.YtpkkeoapndpikaaDoorLab4
namespace Go.Proofs.YtpkkeoapndpikaaDoor.Lab
set_option linter.unusedVariables false
set_option linter.unusedSimpArgs false
set_option maxRecDepth 8000
open Go.RowKit Plain Num View Chart Frac Dec Txt

set_option maxHeartbeats 3200000 in
theorem c_l07Put (A : Option Addr) (n c : Nat) (X Y M : Nat → Int) (hmk : ∀ i, i < n → okMark (X i) (Y i) (M i) = true) :
    ∀ (r : Nat) (S : List Int) (ad : Addr) (k cs B : Nat) (w : World) (R : Option (List Int)), Sl w 3 A n c (f3 X Y M) → S.length = k → k + r = n → OwnK w B 2 1 (.slice (some ad) k cs) k (f1 (lf S)) → B ≤ w.heap.size → pt X Y M r S = R →
    Calls Tryd.prog 58 #[.slice A n c, .slice (some ad) k cs] w fun e w' => ∃ v, e = .returned (.tuple #[v, .bool R.isSome]) ∧ OwnK w' B 2 1 v (R.getD []).length (f1 (lf (R.getD []))) ∧ Below w.heap.size w w' := by
  obtain ⟨i0, hi0, hz0, hz1, hz2⟩ := info_parts Help.infoInt64
  intro r
  induction r with
  | zero =>
    intro S ad k cs B w R hv hk hkn ho hB hR
    obtain rfl : some S = R := hR
    obtain rfl : k = n := by omega
    have hn := hv.le
    have kk : ((k : Int) == (k : Int)) = true := by simp
    have HO := Lib.hid ho
    clear ho
    go_enter Tryd.func58, Tryd.ntmps58
    go_wp2
    go_ret2
    exact ⟨_, rfl, by rw [Option.getD_some, hk]; exact HO.out, (by repeat' (first | (with_reducible exact Below.refl _ _) | (with_reducible assumption) | (with_reducible refine Base.grow_alloc ?_ _) | (with_reducible refine Base.below_drewN ?_ _) | (with_reducible refine Below.drew ?_) | (with_reducible refine Below.setCell ?_ ?_ _) | go_size))⟩
  | succ r ih =>
    intro S ad k cs B w R hv hk hkn ho hB hR
    have hn := hv.le
    have hkn' : ((k : Int) == (n : Int)) = false := by simp; omega
    have HR := Lib.hid hR
    have HMK := Lib.hid hmk
    have HIH := Lib.hid ih
    have hvs := ho.sl
    clear hR hmk ih ho
    have hk0 : k < n := by omega
    have hi1 : (0 : Int) ≤ (k : Int) := by omega
    have hi2 : (k : Int) < (n : Int) := by omega
    go_enter Tryd.func58, Tryd.ntmps58
    go_wp2
    go_loopw [7] (fun q wr => ∃ s : Nat, s ≤ 4 ∧ q = .int .i64 s ∧ Hid (orF (ptF X Y M r S) (4 - s) = R) ∧ Below w.heap.size w wr) (fun q _ => 4 - (intOf q).toNat)
    case atStart => exact ⟨0, by omega, rfl, HR.out, (by repeat' (first | (with_reducible exact Below.refl _ _) | (with_reducible assumption) | (with_reducible refine Base.grow_alloc ?_ _) | (with_reducible refine Base.below_drewN ?_ _) | (with_reducible refine Below.drew ?_) | (with_reducible refine Below.setCell ?_ ?_ _) | go_size))⟩
    case round =>
      obtain ⟨s, hs, rfl, hor, hbr⟩ := hrel
      by_cases h4 : s < 4
      · obtain ⟨b, off, rfl, hb, hc⟩ := (hv.below hbr).at_ (by omega)
        obtain ⟨p0, p1, p2⟩ := cells3 hc k hk0
        clear hc
        go_wp2_with (first | (go_at_call 54; refine (c_l07Box _ _ _ _ _ (HMK.out k hk0)).mono ?_; rintro e w2 ⟨v2, rfl, ho2, hb2⟩))
        obtain ⟨A2, c2, rfl, V2, _⟩ := ho2.view
        have hbw : Below w.heap.size w w2 := (by repeat' (first | (with_reducible exact Below.refl _ _) | (with_reducible assumption) | (with_reducible refine Base.via hb2 ?_) | (with_reducible refine Base.via hbr ?_) | (with_reducible refine Base.grow_alloc ?_ _) | (with_reducible refine Base.below_drewN ?_ _) | (with_reducible refine Below.drew ?_) | (with_reducible refine Below.setCell ?_ ?_ _) | go_size))
        clear p0 p1 p2 ho2
        go_loopw [9, 10] (fun f i wq => ∃ j : Nat, j ≤ k ∧ i = .int .i64 j ∧ f = .bool (allB j (fits X Y M S s)) ∧ Below w2.heap.size w2 wq) (fun _ i _ => k - (intOf i).toNat)
        case atStart => exact ⟨0, by omega, rfl, rfl, (by repeat' (first | (with_reducible exact Below.refl _ _) | (with_reducible assumption) | (with_reducible refine Base.grow_alloc ?_ _) | (with_reducible refine Base.below_drewN ?_ _) | (with_reducible refine Below.drew ?_) | (with_reducible refine Below.setCell ?_ ?_ _) | go_size))⟩
        case round =>
          obtain ⟨j, hj, rfl, rfl, hbq⟩ := hrel
          have hbq' : Below w.heap.size w wr := (by repeat' (first | (with_reducible exact Below.refl _ _) | (with_reducible assumption) | (with_reducible refine Base.via hbq ?_) | (with_reducible refine Base.via hbw ?_) | (with_reducible refine Base.grow_alloc ?_ _) | (with_reducible refine Base.below_drewN ?_ _) | (with_reducible refine Below.drew ?_) | (with_reducible refine Below.setCell ?_ ?_ _) | go_size))
          by_cases hjk : j < k
          · obtain ⟨bs, os, es, hbs, hcs⟩ := (hvs.below hbq').at_ (by omega)
            injection es with es
            subst es
            obtain ⟨b', off', e0, hbb', hcc⟩ := (hv.below hbq').at_ (by omega)
            injection e0 with e0
            injection e0 with e1 e2
            subst e1; subst e2
            have s0 := cells1 hcs j hjk
            obtain ⟨p0, p1, p2⟩ := cells3 hcc j (by omega)
            clear hcs hcc
            have j1 : (0 : Int) ≤ (j : Int) := by omega
            have j2 : (j : Int) < (n : Int) := by omega
            cases hall : allB j (fits X Y M S s)
            · have HQ := Lib.hid (show allB (j + 1) (fits X Y M S s) = false by rw [allB_succ, hall]; rfl)
              go_wp2
              go_quiet (fail)
              go_wp2
              go_roundw
              case rel => exact ⟨j + 1, by omega, by go_num, by rw [HQ.out], (by repeat' (first | (with_reducible exact Below.refl _ _) | (with_reducible assumption) | (with_reducible refine Base.via hbq ?_) | (with_reducible refine Base.grow_alloc ?_ _) | (with_reducible refine Base.below_drewN ?_ _) | (with_reducible refine Below.drew ?_) | (with_reducible refine Below.setCell ?_ ?_ _) | go_size))⟩
              case measure => simp [intOf]; omega
            · have hmkj := HMK.out j (by omega)
              have HV2 := Lib.hid V2
              cases hm : meet (bxA X Y M j (lf S j)) (bxA X Y M S.length s)
              · have HQ := Lib.hid (show allB (j + 1) (fits X Y M S s) = true by rw [allB_succ, hall, fits_yes hm]; rfl)
                rw [hk, meet_comm] at hm
                go_wp2
                go_region_held3 (fun W => (W.cell? ⟨b, off + j * 3, none⟩ = some (.int .i64 (X j)) ∧ W.cell? ⟨b, off + j * 3 + 1, none⟩ = some (.int .i64 (Y j)) ∧ W.cell? ⟨b, off + j * 3 + 2, none⟩ = some (.int .i64 (M j)) ∧ W.cell? ⟨bs, os + j, none⟩ = some (.int .i64 (lf S j))) ∧ Below wr.heap.size wr W)
                  (first | exact ⟨⟨cell_drew p0, cell_drew p1, cell_drew p2, cell_drew s0⟩, (by repeat' (first | (with_reducible exact Below.refl _ _) | (with_reducible assumption) | (with_reducible refine Base.grow_alloc ?_ _) | (with_reducible refine Base.below_drewN ?_ _) | (with_reducible refine Below.drew ?_) | (with_reducible refine Below.setCell ?_ ?_ _) | go_size))⟩ | (have hs := ‹(_ ∧ _ ∧ _ ∧ _) ∧ Below _ _ _›; exact ⟨⟨cell_call hb3 hs.1.1, cell_call hb3 hs.1.2.1, cell_call hb3 hs.1.2.2.1, cell_call hb3 hs.1.2.2.2⟩, Base.via hb3 hs.2⟩) | (have hs := ‹(_ ∧ _ ∧ _ ∧ _) ∧ Below _ _ _›; exact ⟨⟨cell_call hb4 hs.1.1, cell_call hb4 hs.1.2.1, cell_call hb4 hs.1.2.2.1, cell_call hb4 hs.1.2.2.2⟩, Base.via hb4 hs.2⟩))
                  (first | (go_at_call 63; refine (c_l07Meet _ _ _ _ _ _ _ (HV2.out.below (by repeat' (first | (with_reducible exact Below.refl _ _) | (with_reducible assumption) | (with_reducible refine Base.via hb3 ?_) | (with_reducible refine Base.via hbq ?_) | (with_reducible refine Base.grow_alloc ?_ _) | (with_reducible refine Base.below_drewN ?_ _) | (with_reducible refine Below.drew ?_) | (with_reducible refine Below.setCell ?_ ?_ _) | go_size))) (V3.below (by repeat' (first | (with_reducible exact Below.refl _ _) | (with_reducible assumption) | (with_reducible refine Base.grow_alloc ?_ _) | (with_reducible refine Base.below_drewN ?_ _) | (with_reducible refine Below.drew ?_) | (with_reducible refine Below.setCell ?_ ?_ _) | go_size)))).mono ?_; rintro e w4 ⟨rfl, hb4⟩; simp only [bxA] at hm; rw [hm]) | (go_at_call 54; refine (c_l07Box _ _ _ _ _ hmkj).mono ?_; rintro e w3 ⟨v3, rfl, ho3, hb3⟩; obtain ⟨A3, c3, rfl, V3, _⟩ := ho3.view))
                all_goals try go_wp2
                go_roundw
                case rel => exact ⟨j + 1, by omega, by go_num, by rw [HQ.out], (by repeat' (first | (with_reducible exact Below.refl _ _) | (with_reducible assumption) | (with_reducible refine Base.via hb4 ?_) | (with_reducible refine Base.via hb3 ?_) | (with_reducible refine Base.via hbq ?_) | (with_reducible refine Base.grow_alloc ?_ _) | (with_reducible refine Base.below_drewN ?_ _) | (with_reducible refine Below.drew ?_) | (with_reducible refine Below.setCell ?_ ?_ _) | go_size))⟩
                case measure => simp [intOf]; omega
              · have HQ := Lib.hid (show allB (j + 1) (fits X Y M S s) = false by rw [allB_succ, hall, fits_no hm]; rfl)
                rw [hk, meet_comm] at hm
                go_wp2
                go_region_held3 (fun W => (W.cell? ⟨b, off + j * 3, none⟩ = some (.int .i64 (X j)) ∧ W.cell? ⟨b, off + j * 3 + 1, none⟩ = some (.int .i64 (Y j)) ∧ W.cell? ⟨b, off + j * 3 + 2, none⟩ = some (.int .i64 (M j)) ∧ W.cell? ⟨bs, os + j, none⟩ = some (.int .i64 (lf S j))) ∧ Below wr.heap.size wr W)
                  (first | exact ⟨⟨cell_drew p0, cell_drew p1, cell_drew p2, cell_drew s0⟩, (by repeat' (first | (with_reducible exact Below.refl _ _) | (with_reducible assumption) | (with_reducible refine Base.grow_alloc ?_ _) | (with_reducible refine Base.below_drewN ?_ _) | (with_reducible refine Below.drew ?_) | (with_reducible refine Below.setCell ?_ ?_ _) | go_size))⟩ | (have hs := ‹(_ ∧ _ ∧ _ ∧ _) ∧ Below _ _ _›; exact ⟨⟨cell_call hb3 hs.1.1, cell_call hb3 hs.1.2.1, cell_call hb3 hs.1.2.2.1, cell_call hb3 hs.1.2.2.2⟩, Base.via hb3 hs.2⟩) | (have hs := ‹(_ ∧ _ ∧ _ ∧ _) ∧ Below _ _ _›; exact ⟨⟨cell_call hb4 hs.1.1, cell_call hb4 hs.1.2.1, cell_call hb4 hs.1.2.2.1, cell_call hb4 hs.1.2.2.2⟩, Base.via hb4 hs.2⟩))
                  (first | (go_at_call 63; refine (c_l07Meet _ _ _ _ _ _ _ (HV2.out.below (by repeat' (first | (with_reducible exact Below.refl _ _) | (with_reducible assumption) | (with_reducible refine Base.via hb3 ?_) | (with_reducible refine Base.via hbq ?_) | (with_reducible refine Base.grow_alloc ?_ _) | (with_reducible refine Base.below_drewN ?_ _) | (with_reducible refine Below.drew ?_) | (with_reducible refine Below.setCell ?_ ?_ _) | go_size))) (V3.below (by repeat' (first | (with_reducible exact Below.refl _ _) | (with_reducible assumption) | (with_reducible refine Base.grow_alloc ?_ _) | (with_reducible refine Base.below_drewN ?_ _) | (with_reducible refine Below.drew ?_) | (with_reducible refine Below.setCell ?_ ?_ _) | go_size)))).mono ?_; rintro e w4 ⟨rfl, hb4⟩; simp only [bxA] at hm; rw [hm]) | (go_at_call 54; refine (c_l07Box _ _ _ _ _ hmkj).mono ?_; rintro e w3 ⟨v3, rfl, ho3, hb3⟩; obtain ⟨A3, c3, rfl, V3, _⟩ := ho3.view))
                all_goals try go_wp2
                go_roundw
                case rel => exact ⟨j + 1, by omega, by go_num, by rw [HQ.out], (by repeat' (first | (with_reducible exact Below.refl _ _) | (with_reducible assumption) | (with_reducible refine Base.via hb4 ?_) | (with_reducible refine Base.via hb3 ?_) | (with_reducible refine Base.via hbq ?_) | (with_reducible refine Base.grow_alloc ?_ _) | (with_reducible refine Base.below_drewN ?_ _) | (with_reducible refine Below.drew ?_) | (with_reducible refine Below.setCell ?_ ?_ _) | go_size))⟩
                case measure => simp [intOf]; omega
          · have hjk' : j = k := by omega
            subst hjk'
            clear hjk
            cases hfit : allB j (fits X Y M S s)
            · have HQ := Lib.hid (orF_next (f := ptF X Y M r S) h4 (by rw [ptF, hk, hfit]; rfl))
              go_wp2
              go_roundw
              case rel => exact ⟨s + 1, by omega, by go_num, (show _ = _ by rw [← HQ.out]; exact hor.out), (by repeat' (first | (with_reducible exact Below.refl _ _) | (with_reducible assumption) | (with_reducible refine Base.via hbq' ?_) | (with_reducible refine Base.grow_alloc ?_ _) | (with_reducible refine Base.below_drewN ?_ _) | (with_reducible refine Below.drew ?_) | (with_reducible refine Below.setCell ?_ ?_ _) | go_size))⟩
              case measure => simp [intOf]; omega
            · have HOS := Lib.hid (fun l => orF_hit (f := ptF X Y M r S) (L := l) h4)
              have HON := Lib.hid (orF_next (f := ptF X Y M r S) h4)
              have HPF := Lib.hid (show ptF X Y M r S s = pt X Y M r (S ++ [(s : Int)]) by rw [ptF, hk, hfit]; rfl)
              cases hp : pt X Y M r (S ++ [(s : Int)]) with
              | none =>
                have HP := Lib.hid hp
                have HN := Lib.hid (HON.out (HPF.out.trans hp))
                clear hp hfit
                go_wp2_with (first | (go_at_call 76; refine (c_l00Own _ _ _ S _ hk (hvs.below hbq')).mono ?_; rintro e w5 ⟨v5, rfl, ho5, hb5⟩; have hz5 := hb5.size) | (at_builtin; refine wpList_append_own _ rfl _ _ 38 rfl (wr.heap.size) 2 i0 _ 1 8 Tryd.underlying38 hi0 hz0 hz1 hz2 rfl (by decide) _ _ _ rfl (own_of_below ho5 (by repeat' (first | (with_reducible exact Below.refl _ _) | (with_reducible assumption) | (with_reducible refine Base.grow_alloc ?_ _) | (with_reducible refine Base.below_drewN ?_ _) | (with_reducible refine Below.drew ?_) | (with_reducible refine Below.setCell ?_ ?_ _) | go_size))) ⟨_, 0, none⟩ 1 1 [.int .i64 ((s : Int))] rfl rfl (cell_newL _ [.int .i64 ((s : Int))] _ (by simp)) (by simp [Value.oneCell']) (by simp only [maxLen]; omega) (by omega) (by simp; omega) ?_))
                intro v6 w6 hown6 hgrow _
                have hb6r : Below wr.heap.size wr w6 := own_grow (by repeat' (first | (with_reducible exact Below.refl _ _) | (with_reducible assumption) | (with_reducible refine Base.via hb5 ?_) | (with_reducible refine Base.grow_alloc ?_ _) | (with_reducible refine Base.below_drewN ?_ _) | (with_reducible refine Below.drew ?_) | (with_reducible refine Below.setCell ?_ ?_ _) | go_size)) ho5 (Nat.le_refl _) hgrow
                have hb6 : Below w.heap.size w w6 := (by repeat' (first | (with_reducible exact Below.refl _ _) | (with_reducible assumption) | (with_reducible refine Base.via hb6r ?_) | (with_reducible refine Base.via hbq' ?_) | (with_reducible refine Base.grow_alloc ?_ _) | (with_reducible refine Base.below_drewN ?_ _) | (with_reducible refine Below.drew ?_) | (with_reducible refine Below.setCell ?_ ?_ _) | go_size))
                have O6 := own_more hk (by omega) hown6
                obtain ⟨A6, c6, rfl, V6, _⟩ := O6.view
                obtain ⟨b6, o6, rfl, _, _⟩ := V6.at_ (by omega)
                have hz6 := hb6r.size
                have hzq := hbq'.size
                have HV6 := Lib.hid (HIH.out (S ++ [(s : Int)]) ⟨b6, o6, none⟩ (j + 1) c6 wr.heap.size w6 _ (hv.below hb6) (by simp [hk]) (by omega) O6 (by omega) HP.out)
                clear hown6 hgrow ho5 V6 O6
                go_wp2_with (first | (go_at_call 58; refine HV6.out.mono ?_; rintro e w7 ⟨v7, rfl, ho7, hb7⟩; simp only [Option.isSome_none, Option.isSome_some]))
                go_roundw
                case rel => exact ⟨s + 1, by omega, by go_num, (show _ = _ by rw [← HN.out]; exact hor.out), (by repeat' (first | (with_reducible exact Below.refl _ _) | (with_reducible assumption) | (with_reducible refine Base.via hb7 ?_) | (with_reducible refine Base.via hb6 ?_) | (with_reducible refine Base.grow_alloc ?_ _) | (with_reducible refine Base.below_drewN ?_ _) | (with_reducible refine Below.drew ?_) | (with_reducible refine Below.setCell ?_ ?_ _) | go_size))⟩
                case measure => simp [intOf]; omega
              | some L =>
                have HP := Lib.hid hp
                have HN := Lib.hid (HOS.out L (HPF.out.trans hp))
                clear hp hfit
                go_wp2_with (first | (go_at_call 76; refine (c_l00Own _ _ _ S _ hk (hvs.below hbq')).mono ?_; rintro e w5 ⟨v5, rfl, ho5, hb5⟩; have hz5 := hb5.size) | (at_builtin; refine wpList_append_own _ rfl _ _ 38 rfl (wr.heap.size) 2 i0 _ 1 8 Tryd.underlying38 hi0 hz0 hz1 hz2 rfl (by decide) _ _ _ rfl (own_of_below ho5 (by repeat' (first | (with_reducible exact Below.refl _ _) | (with_reducible assumption) | (with_reducible refine Base.grow_alloc ?_ _) | (with_reducible refine Base.below_drewN ?_ _) | (with_reducible refine Below.drew ?_) | (with_reducible refine Below.setCell ?_ ?_ _) | go_size))) ⟨_, 0, none⟩ 1 1 [.int .i64 ((s : Int))] rfl rfl (cell_newL _ [.int .i64 ((s : Int))] _ (by simp)) (by simp [Value.oneCell']) (by simp only [maxLen]; omega) (by omega) (by simp; omega) ?_))
                intro v6 w6 hown6 hgrow _
                have hb6r : Below wr.heap.size wr w6 := own_grow (by repeat' (first | (with_reducible exact Below.refl _ _) | (with_reducible assumption) | (with_reducible refine Base.via hb5 ?_) | (with_reducible refine Base.grow_alloc ?_ _) | (with_reducible refine Base.below_drewN ?_ _) | (with_reducible refine Below.drew ?_) | (with_reducible refine Below.setCell ?_ ?_ _) | go_size)) ho5 (Nat.le_refl _) hgrow
                have hb6 : Below w.heap.size w w6 := (by repeat' (first | (with_reducible exact Below.refl _ _) | (with_reducible assumption) | (with_reducible refine Base.via hb6r ?_) | (with_reducible refine Base.via hbq' ?_) | (with_reducible refine Base.grow_alloc ?_ _) | (with_reducible refine Base.below_drewN ?_ _) | (with_reducible refine Below.drew ?_) | (with_reducible refine Below.setCell ?_ ?_ _) | go_size))
                have O6 := own_more hk (by omega) hown6
                obtain ⟨A6, c6, rfl, V6, _⟩ := O6.view
                obtain ⟨b6, o6, rfl, _, _⟩ := V6.at_ (by omega)
                have hz6 := hb6r.size
                have hzq := hbq'.size
                have HV6 := Lib.hid (HIH.out (S ++ [(s : Int)]) ⟨b6, o6, none⟩ (j + 1) c6 wr.heap.size w6 _ (hv.below hb6) (by simp [hk]) (by omega) O6 (by omega) HP.out)
                clear hown6 hgrow ho5 V6 O6
                go_wp2_with (first | (go_at_call 58; refine HV6.out.mono ?_; rintro e w7 ⟨v7, rfl, ho7, hb7⟩; simp only [Option.isSome_none, Option.isSome_some]))
                obtain rfl : R = some L := hor.out.symm.trans HN.out
                go_ret2
                exact ⟨_, rfl, ho7.mono (by omega), (by repeat' (first | (with_reducible exact Below.refl _ _) | (with_reducible assumption) | (with_reducible refine Base.via hb7 ?_) | (with_reducible refine Base.via hb6 ?_) | (with_reducible refine Base.grow_alloc ?_ _) | (with_reducible refine Base.below_drewN ?_ _) | (with_reducible refine Below.drew ?_) | (with_reducible refine Below.setCell ?_ ?_ _) | go_size))⟩
      · obtain rfl : s = 4 := by omega
        obtain rfl : none = R := hor.out
        go_wp2
        go_ret2
        exact ⟨_, rfl, OwnK.zero rfl, (by repeat' (first | (with_reducible exact Below.refl _ _) | (with_reducible assumption) | (with_reducible refine Base.via hbr ?_) | (with_reducible refine Base.grow_alloc ?_ _) | (with_reducible refine Base.below_drewN ?_ _) | (with_reducible refine Below.drew ?_) | (with_reducible refine Below.setCell ?_ ?_ _) | go_size))⟩
end Go.Proofs.YtpkkeoapndpikaaDoor.Lab
