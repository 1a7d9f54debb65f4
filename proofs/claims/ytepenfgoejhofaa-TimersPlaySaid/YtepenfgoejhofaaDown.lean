/- A timer goes down. The function walked once. No condition but that there are not too many. -/
import Derived.Test.YtepenfgoejhofaaUp
namespace Go.Proofs.Ytepenfgoejhofaa
open Go.ChangeShapes Go.WideShapes Go.ChangeAt Go.RowKit Go.Deep
set_option linter.unusedVariables false
set_option linter.unusedSimpArgs false

set_option maxRecDepth 100000 in
set_option maxHeartbeats 2000000 in
theorem down_any (W : World) {F : Nat → Prop} {B n c m : Nat} {A : Option Addr} {mv : Value} {L : Xs} (h : Hp W F B A n c mv L) (hm : m ≤ n) (hn : n ≤ 1000000) (i0 : Nat) (hi0 : i0 < m) (hu : Hol (vl L) m i0) :
    Calls Try.prog 27 #[hI B, .int .i64 i0, .int .i64 m] W fun r W' => ∃ (t : Bool) (L' : Xs), r = .returned (.bool t) ∧ Hp W' F B A n c mv L' ∧ L'.Perm L ∧ (∀ k, m ≤ k → L'[k]? = L[k]?) ∧ Fr F W W' ∧ (t = true → Hpf (vl L') m) ∧ (t = false → L' = L ∧ Upo (vl L) m i0) := by
  have H := hidd (And.intro h hu)
  clear h hu
  go_enter Try.func27, Try.ntmps27
  go_wp2_with fail
  go_loopw [7] (fun iv wr => ∃ (i : Nat) (L1 : Xs), iv = .int .i64 i ∧ i0 ≤ i ∧ i < m ∧ Hid (Hp wr F B A n c mv L1 ∧ L1.Perm L ∧ (∀ k, m ≤ k → L1[k]? = L[k]?) ∧ Hol (vl L1) m i ∧ Fr F W wr ∧ (i0 < i → lee (vl L1 ((i - 1) / 2)) (vl L1 i)) ∧ (i = i0 → L1 = L))) (fun iv _ => m - (intOf iv).toNat)
  case atStart => exact ⟨i0, L, rfl, Nat.le_refl _, hi0, hidd ⟨H.out.1, List.Perm.refl _, fun _ _ => rfl, H.out.2, Fr.refl _ _, fun h => absurd h (by omega), fun _ => rfl⟩⟩
  case round =>
    obtain ⟨i, L1, rfl, hii, him, hR⟩ := hrel
    -- what is told where it stays
    have hend := hidd (fun (V : World) (h1 : Hp V F B A n c mv L1) (f1 : Fr F W V) (hc : ∀ k, 0 < k → k < m → (k - 1) / 2 = i → lee (vl L1 i) (vl L1 k)) => (show ∃ L', Hp V F B A n c mv L' ∧ L'.Perm L ∧ (∀ k, m ≤ k → L'[k]? = L[k]?) ∧ Fr F W V ∧ (decide (i0 < i) = true → Hpf (vl L') m) ∧ (decide (i0 < i) = false → L' = L ∧ Upo (vl L) m i0) from by
      obtain ⟨_, r2, r3, r4, _, r6, r7⟩ := hR.out
      have up := r4.upo hc
      refine ⟨L1, h1, r2, r3, f1, fun h => ?_, fun h => ?_⟩
      · rw [decide_eq_true_eq] at h
        exact up.done (r6 (by omega))
      · rw [decide_eq_false_iff_not] at h
        obtain rfl : i = i0 := by omega
        rw [r7 rfl] at up
        exact ⟨r7 rfl, up⟩))
    by_cases hA : m ≤ 2 * i + 1
    · have hge : decide ((2 * (i : Int) + 1) ≥ (m : Int)) = true := by rw [decide_eq_true_eq]; omega
      have he := hidd (hend.out wr hR.out.1 hR.out.2.2.2.2.1 (fun k h0 hk hp => by omega))
      go_wp2
      go_ret
      obtain ⟨L', hL⟩ := he.out
      exact ⟨_, L', rfl, hL⟩
    · have hge : decide ((2 * (i : Int) + 1) ≥ (m : Int)) = false := by rw [decide_eq_false_iff_not]; omega
      have hlen := hR.out.1.len
      obtain ⟨a, ha⟩ : ∃ a, L1[i]? = some a := ⟨_, List.getElem?_eq_getElem (by omega)⟩
      obtain ⟨b, hb⟩ : ∃ b, L1[2 * i + 1]? = some b := ⟨_, List.getElem?_eq_getElem (by omega)⟩
      have ha' := hidd ha
      have hb' := hidd hb
      have va := hidd (vl_at ha)
      have vb := hidd (vl_at hb)
      have hml := hR.out.1.less
      clear ha hb
      have hml := hR.out.1.less
      by_cases hB : m ≤ 2 * i + 2
      · have hlt : decide ((2 * (i : Int) + 1 + 1) < (m : Int)) = false := by rw [decide_eq_false_iff_not]; omega
        clear hlen
        go_wp2_with fail
        obtain ⟨j, hj⟩ : ∃ j, 2 * i + 1 = j := ⟨_, rfl⟩
        have e1 : 2 * (i : Int) + 1 = (j : Int) := by omega
        rw [e1]
        rw [hj] at hb' vb
        have hd := hb'
        have vd := vb
        obtain ⟨d, hde⟩ : ∃ d, b = d := ⟨_, rfl⟩
        rw [hde] at hd vd
        have hjm : j < m := by omega
        have hij : i < j := by omega
        have hkid := hidd (show Kid (vl L1) m i j from ⟨hjm, .inl hj.symm, fun k h0 hk hp => by
          obtain rfl : k = j := by omega
          exact lee_refl _⟩)
        have h1 := hidd hR.out.1
        have f1 := hidd hR.out.2.2.2.2.1
        obtain ⟨V, hVe⟩ : ∃ V, wr = V := ⟨_, rfl⟩
        rw [hVe] at h1 f1 ⊢
        refine (less_any V h1.out hd.out ha'.out).mono ?_
        rintro r V2 ⟨rfl, hV2⟩
        have h2 := hidd (h1.out.bel hV2)
        have f2 := hidd (f1.out.trans (Fr.of_below hV2 F))
        have hms := h2.out.swap_
        obtain ⟨t2, ht2⟩ : ∃ t, bef d.2 a.2 = t := ⟨_, rfl⟩
        rw [ht2]
        have ht2' := hidd ht2
        clear ht2 hV2
        cases t2 with
        | false =>
          have he := hidd (hend.out V2 h2.out f2.out (fun k h0 hk hp => lee_trans (by rw [va.out, vd.out]; exact ht2'.out) (hkid.out.2.2 k h0 hk hp)))
          go_wp2
          go_ret
          obtain ⟨L', hL⟩ := he.out
          exact ⟨_, L', rfl, hL⟩
        | true =>
          go_wp2_with fail
          try rw [e1]
          refine (swap_any V2 h2.out ha'.out hd.out (by omega)).mono ?_
          rintro r V3 ⟨rfl, h3, f3⟩
          have h3' := hidd (show Hp V3 F B A n c mv (swp L1 i j) ∧ (swp L1 i j).Perm L ∧ (∀ k, m ≤ k → (swp L1 i j)[k]? = L[k]?) ∧ Hol (vl (swp L1 i j)) m j ∧ Fr F W V3 ∧ (i0 < j → lee (vl (swp L1 i j) ((j - 1) / 2)) (vl (swp L1 i j) j)) ∧ (j = i0 → swp L1 i j = L) from by
            have hs := hR.out.2.2.2.1.step hkid.out (g := vl (swp L1 i j)) (by rw [va.out, vd.out]; exact ht2'.out) (fun k => swp_vl ha'.out hd.out k)
            exact ⟨h3, (swp_perm ha'.out hd.out).trans hR.out.2.1, fun k hk => (swp_tail ha'.out hd.out him hjm hk).trans (hR.out.2.2.1 k hk), hs.1, f2.out.trans f3, fun _ => hs.2.2, fun h => by omega⟩)
          clear h3 f3 h2 f2 h1 f1 hms hend
          go_wp2
          go_roundw
          case rel => exact ⟨j, swp L1 i j, rfl, by omega, hjm, h3'⟩
          case measure => simp [intOf]; omega
      · have hlt : decide ((2 * (i : Int) + 1 + 1) < (m : Int)) = true := by rw [decide_eq_true_eq]; omega
        obtain ⟨e, he⟩ : ∃ e, L1[2 * i + 2]? = some e := ⟨_, List.getElem?_eq_getElem (by omega)⟩
        have he' := hidd he
        have ve := hidd (vl_at he)
        clear he hlen
        go_wp2_with fail
        rw [show 2 * (i : Int) + 1 + 1 = ((2 * i + 2 : Nat) : Int) by omega, show 2 * (i : Int) + 1 = ((2 * i + 1 : Nat) : Int) by omega]
        refine (less_any wr hR.out.1 he'.out hb'.out).mono ?_
        rintro r V ⟨rfl, hV⟩
        have h1 := hidd (hR.out.1.bel hV)
        have f1 := hidd (hR.out.2.2.2.2.1.trans (Fr.of_below hV F))
        clear hml hV
        have hml := h1.out.less
        obtain ⟨t1, ht1⟩ : ∃ t, bef e.2 b.2 = t := ⟨_, rfl⟩
        rw [ht1]
        have ht1' := hidd ht1
        clear ht1
        cases t1 with
        | false =>
          obtain ⟨j, hj⟩ : ∃ j, 2 * i + 1 = j := ⟨_, rfl⟩
          have hj2 : 2 * i + 2 = j + 1 := by omega
          rw [hj] at hb' vb ⊢
          rw [hj2] at he' ve ⊢
          go_wp2_with fail
          have hd := hb'
          have vd := vb
          obtain ⟨d, hde⟩ : ∃ d, b = d := ⟨_, rfl⟩
          rw [hde] at hd vd ht1'
          have hjm : j < m := by omega
          have hij : i < j := by omega
          have hkid := hidd (show Kid (vl L1) m i j from ⟨hjm, .inl hj.symm, fun k h0 hk hp => by
            rcases (show k = j ∨ k = j + 1 by omega) with rfl | rfl
            · exact lee_refl _
            · rw [vd.out, ve.out]; exact ht1'.out⟩)
          have e1 : (j : Int) = (j : Int) := rfl
          refine (less_any V h1.out hd.out ha'.out).mono ?_
          rintro r V2 ⟨rfl, hV2⟩
          have h2 := hidd (h1.out.bel hV2)
          have f2 := hidd (f1.out.trans (Fr.of_below hV2 F))
          have hms := h2.out.swap_
          obtain ⟨t2, ht2⟩ : ∃ t, bef d.2 a.2 = t := ⟨_, rfl⟩
          rw [ht2]
          have ht2' := hidd ht2
          clear ht2 hV2
          cases t2 with
          | false =>
            have he := hidd (hend.out V2 h2.out f2.out (fun k h0 hk hp => lee_trans (by rw [va.out, vd.out]; exact ht2'.out) (hkid.out.2.2 k h0 hk hp)))
            go_wp2
            go_ret
            obtain ⟨L', hL⟩ := he.out
            exact ⟨_, L', rfl, hL⟩
          | true =>
            go_wp2_with fail
            try rw [e1]
            refine (swap_any V2 h2.out ha'.out hd.out (by omega)).mono ?_
            rintro r V3 ⟨rfl, h3, f3⟩
            have h3' := hidd (show Hp V3 F B A n c mv (swp L1 i j) ∧ (swp L1 i j).Perm L ∧ (∀ k, m ≤ k → (swp L1 i j)[k]? = L[k]?) ∧ Hol (vl (swp L1 i j)) m j ∧ Fr F W V3 ∧ (i0 < j → lee (vl (swp L1 i j) ((j - 1) / 2)) (vl (swp L1 i j) j)) ∧ (j = i0 → swp L1 i j = L) from by
              have hs := hR.out.2.2.2.1.step hkid.out (g := vl (swp L1 i j)) (by rw [va.out, vd.out]; exact ht2'.out) (fun k => swp_vl ha'.out hd.out k)
              exact ⟨h3, (swp_perm ha'.out hd.out).trans hR.out.2.1, fun k hk => (swp_tail ha'.out hd.out him hjm hk).trans (hR.out.2.2.1 k hk), hs.1, f2.out.trans f3, fun _ => hs.2.2, fun h => by omega⟩)
            clear h3 f3 h2 f2 h1 f1 hms hend
            go_wp2
            go_roundw
            case rel => exact ⟨j, swp L1 i j, rfl, by omega, hjm, h3'⟩
            case measure => simp [intOf]; omega
        | true =>
          obtain ⟨j, hj⟩ : ∃ j, 2 * i + 2 = j := ⟨_, rfl⟩
          rw [hj] at he' ve ⊢
          go_wp2_with fail
          have hd := he'
          have vd := ve
          obtain ⟨d, hde⟩ : ∃ d, e = d := ⟨_, rfl⟩
          rw [hde] at hd vd ht1'
          have hjm : j < m := by omega
          have hij : i < j := by omega
          have hkid := hidd (show Kid (vl L1) m i j from ⟨hjm, .inr hj.symm, fun k h0 hk hp => by
            rcases (show k = 2 * i + 1 ∨ k = j by omega) with rfl | rfl
            · rw [vd.out, vb.out]; exact lee_of_bef ht1'.out
            · exact lee_refl _⟩)
          have e1 : (j : Int) = (j : Int) := rfl
          refine (less_any V h1.out hd.out ha'.out).mono ?_
          rintro r V2 ⟨rfl, hV2⟩
          have h2 := hidd (h1.out.bel hV2)
          have f2 := hidd (f1.out.trans (Fr.of_below hV2 F))
          have hms := h2.out.swap_
          obtain ⟨t2, ht2⟩ : ∃ t, bef d.2 a.2 = t := ⟨_, rfl⟩
          rw [ht2]
          have ht2' := hidd ht2
          clear ht2 hV2
          cases t2 with
          | false =>
            have he := hidd (hend.out V2 h2.out f2.out (fun k h0 hk hp => lee_trans (by rw [va.out, vd.out]; exact ht2'.out) (hkid.out.2.2 k h0 hk hp)))
            go_wp2
            go_ret
            obtain ⟨L', hL⟩ := he.out
            exact ⟨_, L', rfl, hL⟩
          | true =>
            go_wp2_with fail
            try rw [e1]
            refine (swap_any V2 h2.out ha'.out hd.out (by omega)).mono ?_
            rintro r V3 ⟨rfl, h3, f3⟩
            have h3' := hidd (show Hp V3 F B A n c mv (swp L1 i j) ∧ (swp L1 i j).Perm L ∧ (∀ k, m ≤ k → (swp L1 i j)[k]? = L[k]?) ∧ Hol (vl (swp L1 i j)) m j ∧ Fr F W V3 ∧ (i0 < j → lee (vl (swp L1 i j) ((j - 1) / 2)) (vl (swp L1 i j) j)) ∧ (j = i0 → swp L1 i j = L) from by
              have hs := hR.out.2.2.2.1.step hkid.out (g := vl (swp L1 i j)) (by rw [va.out, vd.out]; exact ht2'.out) (fun k => swp_vl ha'.out hd.out k)
              exact ⟨h3, (swp_perm ha'.out hd.out).trans hR.out.2.1, fun k hk => (swp_tail ha'.out hd.out him hjm hk).trans (hR.out.2.2.1 k hk), hs.1, f2.out.trans f3, fun _ => hs.2.2, fun h => by omega⟩)
            clear h3 f3 h2 f2 h1 f1 hms hend
            go_wp2
            go_roundw
            case rel => exact ⟨j, swp L1 i j, rfl, by omega, hjm, h3'⟩
            case measure => simp [intOf]; omega
end Go.Proofs.Ytepenfgoejhofaa
