/- Whether a twin of a list of options is as it was made: the function walked once. No condition. -/
import Derived.Test.YtlckfnfmekgnkaaDoorOs2
namespace Go.Proofs.YtlckfnfmekgnkaaDoor
open Go.ChangeShapes Go.WideShapes Go.ChangeAt Go.RowKit Go.Deep
set_option linter.unusedVariables false
set_option linter.unusedSimpArgs false

section
variable {w W W' : World} {v v' : Value} {os : List Op2} {Lo : Nat}
set_option maxRecDepth 100000 in
set_option maxHeartbeats 4000000 in
theorem leftO_any (w : World) (h : OsTw w Lo v os) (h' : OsIn w v' os) : Calls Tryd.prog 33 #[v, v'] w fun r W' => r = .returned (.bool true) ∧ Below w.heap.size w W' := by
  have hs := hidd (And.intro h h')
  obtain ⟨g, cs, rfl, _, h2, h3, h4, h5⟩ := h
  obtain ⟨A, c, rfl, h6, _⟩ := h'
  have hcm := h6.cmax
  have hcn := h6.cap
  unfold maxLen at hcm
  have hcell : Hid (∀ (W : World) (k : Nat), k < 4 → Blk W g 46 cs → W.cell? ⟨g, os.length * 2 + k * 2, none⟩ = some (.int .u8 201) ∧ W.cell? ⟨g, os.length * 2 + k * 2 + 1, none⟩ = some (.slice none 0 0)) := hidd (fun W k hk hb => by
    obtain ⟨l, _, hr, hp⟩ := h4 (os.length + k) (by omega)
    unfold POT at hp
    rw [if_neg (by omega)] at hp
    subst hp
    rw [Nat.add_mul] at hr
    exact ⟨hb.rangeAt hr 0 _ rfl, hb.rangeAt hr 1 _ rfl⟩)
  have hrow : Hid (∀ k, k < os.length → ∃ o v1, os[k]? = some o ∧ BsTw w Lo v1 o.2 ∧ ∀ W, Blk W g 46 cs → W.cell? ⟨g, k * 2 + 1, none⟩ = some v1) := hidd (fun k hk => by
    obtain ⟨l, _, hr, hp⟩ := h4 k (by omega)
    unfold POT at hp
    rw [if_pos hk] at hp
    obtain ⟨o, v1, h7, rfl, h8⟩ := hp
    exact ⟨o, v1, h7, h8, fun W hb => hb.rangeAt hr 1 _ rfl⟩)
  have hat := hidd h6.at_
  have hd : decide (((os.length : Int) + 4) < (os.length : Int) + 4) = false := by simp
  have e4 : os.length + 4 - os.length = 4 := by omega
  have e5 : ¬ (os.length + 4 = os.length) := by omega
  have hg := hidd h2
  clear h2 h3 h4 h6
  go_enter Tryd.func33, Tryd.ntmps33
  go_wp2_with fail
  refine (sameO_any w hs.out.1.os_ hs.out.2).mono ?_
  rintro r w1 ⟨rfl, b1⟩
  have hB1 := hidd b1
  clear b1
  go_wp2_with fail
  go_loopw [5] (fun i wr => ∃ k : Nat, k ≤ os.length ∧ i = .int .i64 k ∧ Hid (Below w.heap.size w wr)) (fun i _ => os.length - (intOf i).toNat)
  case atStart => exact ⟨0, Nat.zero_le _, rfl, hB1⟩
  case round =>
    clear hB1
    obtain ⟨k, hk, rfl, hB⟩ := hrel
    by_cases hlt : k < os.length
    · have hz : (k : Int) < (os.length : Int) := by omega
      obtain ⟨b, off, rfl, hb, hc⟩ := hat.out (by omega)
      obtain ⟨l, _, hr, o, v2, ho, rfl, hv2⟩ := hc k hlt
      obtain ⟨o', v1, ho', hv1, hc1⟩ := hrow.out k hlt
      rw [ho] at ho'
      cases ho'
      have hS := hidd (fun (V : World) (h : Below w.heap.size w V) => (show V.cell? ⟨g, k * 2 + 1, none⟩ = some v1 ∧ V.cell? ⟨b, off + k * 2 + 1, none⟩ = some v2 from ⟨hc1 V (hg.out.below h hg.out.lt), range_below hr h hb 1 _ rfl⟩))
      have S1 := hidd (hS.out wr.drew hB.out.drew)
      have hV := hidd (And.intro (hv1.to hB.out.drew) (hv2.to hB.out.drew))
      replace hB := hidd hB.out.drew
      clear hc hr ho hv1 hv2 hc1
      go_wp2_with fail
      refine wp_region_held_drew (S := (fun V => V.cell? ⟨g, k * 2 + 1, none⟩ = some v1 ∧ V.cell? ⟨b, off + k * 2 + 1, none⟩ = some v2)) (by kernel_rfl) S1.out (fun hHeld => ?_)
      generalize wr.drew = D at S1 hB hV hHeld ⊢
      refine wpAnyH_take (i := 0) (v := ?_) rfl (by kernel_rfl) (by kernel_rfl) (by kernel_rfl) (fun _ _ _ h => h) (Or.inl ⟨by kernel_rfl, ?_⟩) hHeld ?_
      rotate_left
      · intro wh hSw
        go_simp
        try with_reducible rfl
      try simp only [Act.put, List.getElem_toArray, List.getElem_cons_zero, List.getElem_cons_succ, List.setIfInBounds_toArray, List.set_cons_zero, List.set_cons_succ]
      refine wpAnyH_take (i := 1) (v := ?_) rfl (by kernel_rfl) (by kernel_rfl) (by kernel_rfl) (fun _ _ _ h => h) (Or.inl ⟨by kernel_rfl, ?_⟩) hHeld ?_
      rotate_left
      · intro wh hSw
        go_simp
        try with_reducible rfl
      try simp only [Act.put, List.getElem_toArray, List.getElem_cons_zero, List.getElem_cons_succ, List.setIfInBounds_toArray, List.set_cons_zero, List.set_cons_succ]
      refine wpAnyH_take (i := 2) (v := ?_) rfl (by kernel_rfl) (by kernel_rfl) (by kernel_rfl) (fun _ _ _ h => h) (Or.inl ⟨by kernel_rfl, ?_⟩) hHeld ?_
      rotate_left
      · intro wh hSw
        go_simp
        try with_reducible rfl
      try simp only [Act.put, List.getElem_toArray, List.getElem_cons_zero, List.getElem_cons_succ, List.setIfInBounds_toArray, List.set_cons_zero, List.set_cons_succ]
      refine wpAnyH_take (i := 3) (v := ?_) rfl (by kernel_rfl) (by kernel_rfl) (by kernel_rfl) (fun _ _ _ h => h) (Or.inl ⟨by kernel_rfl, ?_⟩) hHeld ?_
      rotate_left
      · intro wh hSw
        go_simp
        try with_reducible rfl
      try simp only [Act.put, List.getElem_toArray, List.getElem_cons_zero, List.getElem_cons_succ, List.setIfInBounds_toArray, List.set_cons_zero, List.set_cons_succ]
      refine wpAnyH_take (i := 4) (v := ?_) rfl (by kernel_rfl) (by kernel_rfl) (by kernel_rfl) (fun _ _ _ h => h) (Or.inl ⟨by kernel_rfl, ?_⟩) hHeld ?_
      rotate_left
      · intro wh hSw
        have hcell := hSw.1
        go_simp
        try with_reducible rfl
      try simp only [Act.put, List.getElem_toArray, List.getElem_cons_zero, List.getElem_cons_succ, List.setIfInBounds_toArray, List.set_cons_zero, List.set_cons_succ]
      refine wpAnyH_take (i := 5) (v := ?_) rfl (by kernel_rfl) (by kernel_rfl) (by kernel_rfl) (fun _ _ _ h => h) (Or.inl ⟨by kernel_rfl, ?_⟩) hHeld ?_
      rotate_left
      · intro wh hSw
        go_simp
        try with_reducible rfl
      try simp only [Act.put, List.getElem_toArray, List.getElem_cons_zero, List.getElem_cons_succ, List.setIfInBounds_toArray, List.set_cons_zero, List.set_cons_succ]
      refine wpAnyH_take (i := 6) (v := ?_) rfl (by kernel_rfl) (by kernel_rfl) (by kernel_rfl) (fun _ _ _ h => h) (Or.inl ⟨by kernel_rfl, ?_⟩) hHeld ?_
      rotate_left
      · intro wh hSw
        go_simp
        try with_reducible rfl
      try simp only [Act.put, List.getElem_toArray, List.getElem_cons_zero, List.getElem_cons_succ, List.setIfInBounds_toArray, List.set_cons_zero, List.set_cons_succ]
      refine wpAnyH_take (i := 7) (v := ?_) rfl (by kernel_rfl) (by kernel_rfl) (by kernel_rfl) (fun _ _ _ h => h) (Or.inl ⟨by kernel_rfl, ?_⟩) hHeld ?_
      rotate_left
      · intro wh hSw
        go_simp
        try with_reducible rfl
      try simp only [Act.put, List.getElem_toArray, List.getElem_cons_zero, List.getElem_cons_succ, List.setIfInBounds_toArray, List.set_cons_zero, List.set_cons_succ]
      refine wpAnyH_take (i := 8) (v := ?_) rfl (by kernel_rfl) (by kernel_rfl) (by kernel_rfl) (fun _ _ _ h => h) (Or.inl ⟨by kernel_rfl, ?_⟩) hHeld ?_
      rotate_left
      · intro wh hSw
        go_simp
        try with_reducible rfl
      try simp only [Act.put, List.getElem_toArray, List.getElem_cons_zero, List.getElem_cons_succ, List.setIfInBounds_toArray, List.set_cons_zero, List.set_cons_succ]
      refine wpAnyH_take (i := 9) (v := ?_) rfl (by kernel_rfl) (by kernel_rfl) (by kernel_rfl) (fun _ _ _ h => h) (Or.inl ⟨by kernel_rfl, ?_⟩) hHeld ?_
      rotate_left
      · intro wh hSw
        have hcell := hSw.2
        go_simp
        try with_reducible rfl
      try simp only [Act.put, List.getElem_toArray, List.getElem_cons_zero, List.getElem_cons_succ, List.setIfInBounds_toArray, List.set_cons_zero, List.set_cons_succ]
      refine wpAnyH_ready (rs := [10]) (by kernel_rfl) (by simp) (AllReadyH.cons rfl (fun K hK => ?_) AllReadyH.nil)
      clear hHeld
      go_simp
      refine (leftB_any D hV.out.1 hV.out.2).mono ?_
      rintro r E ⟨rfl, bb⟩
      dsimp only
      replace hB := hidd (hB.out.trans (bb.mono hB.out.size))
      have S2 := hidd (hS.out E hB.out)
      clear bb S1 hV
      refine hK.out _ _ S2.out (fun hHeld => ?_)
      clear hK K
      try simp only [Act.put, List.getElem_toArray, List.getElem_cons_zero, List.getElem_cons_succ, List.setIfInBounds_toArray, List.set_cons_zero, List.set_cons_succ]
      refine wpAnyH_take (i := 11) (v := ?_) rfl (by kernel_rfl) (by kernel_rfl) (by kernel_rfl) (fun _ _ _ h => h) (Or.inl ⟨by kernel_rfl, ?_⟩) hHeld ?_
      rotate_left
      · intro wh hSw
        go_simp
        try with_reducible rfl
      try simp only [Act.put, List.getElem_toArray, List.getElem_cons_zero, List.getElem_cons_succ, List.setIfInBounds_toArray, List.set_cons_zero, List.set_cons_succ]
      refine wpAnyH_done (by kernel_rfl) ?_ _
      clear hHeld
      go_wp2
      go_roundw
      case rel => exact ⟨k + 1, by omega, by go_num, hB⟩
      case measure => simp [intOf]; omega
    · obtain rfl : k = os.length := by omega
      go_wp2_with fail
      go_loopw [7] (fun i wr => ∃ k : Nat, k ≤ 4 ∧ i = .int .i64 k ∧ Hid (Below w.heap.size w wr)) (fun i _ => 4 - (intOf i).toNat)
      case atStart => exact ⟨0, by omega, rfl, hB⟩
      case round =>
        clear hB
        obtain ⟨k, hk, rfl, hB⟩ := hrel
        by_cases hlt : k < 4
        · have hz : (k : Int) < 4 := by omega
          obtain ⟨c1, c2⟩ := hcell.out wr k hlt (hg.out.below hB.out hg.out.lt)
          go_wp2
          go_roundw
          case rel => exact ⟨k + 1, by omega, by go_num, hB⟩
          case measure => simp [intOf]; omega
        · obtain rfl : k = 4 := by omega
          go_wp2
          go_ret
          exact ⟨rfl, hB.out⟩
end
end Go.Proofs.YtlckfnfmekgnkaaDoor
