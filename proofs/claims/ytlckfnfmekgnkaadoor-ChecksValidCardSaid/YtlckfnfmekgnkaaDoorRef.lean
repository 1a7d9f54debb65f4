/- The document's answer's parts: a bit; how many leading bits are common; whether an address is of the link, is many's; who has it solicited; whether a message has a source. No condition. -/
import Derived.Test.YtlckfnfmekgnkaaDoorAs
namespace Go.Proofs.YtlckfnfmekgnkaaDoor
open Go.ChangeShapes Go.WideShapes Go.ChangeAt Go.RowKit Go.Deep
set_option linter.unusedVariables false
set_option linter.unusedSimpArgs false

def bitS (a : List Int) (i : Nat) : Int := (a[i / 8]?.getD 0) / 2 ^ (7 - i % 8) % 2
set_option maxRecDepth 100000 in
theorem bit_ref (w : World) (a : List Int) (ha : IsAddr a) (i : Nat) (hi : i < 128) : Calls Tryd.prog 56 #[.agg (bytesV a), .int .i64 i] w fun r W' => r = .returned (.int .u8 (bitS a i)) ∧ Below w.heap.size w W' := by
  have b := Blk.new w 23 (bytesV a)
  have hl := ha.len
  have hd : i / 8 < 16 := by omega
  have c0 := cell_of_bytes b (i / 8) (by omega)
  have hB := hidd ((Below.refl w.heap.size w).alloc (Nat.le_refl _) (.cells (bytesV a) 23))
  have hx : 0 ≤ a[i / 8]?.getD 0 ∧ a[i / 8]?.getD 0 ≤ 255 := by
    rw [List.getElem?_eq_getElem (by omega)]
    exact ha.rng _ (List.getElem_mem _)
  unfold bitS
  obtain ⟨x, hx0⟩ : ∃ x, a[i / 8]?.getD 0 = x := ⟨_, rfl⟩
  rw [hx0] at c0 hx ⊢
  have e1 : (i : Int).tdiv 8 = ((i / 8 : Nat) : Int) := by rw [Int.tdiv_eq_ediv_of_nonneg (by omega)]; omega
  have e2 : (i : Int).tmod 8 = ((i % 8 : Nat) : Int) := by rw [Int.tmod_eq_emod_of_nonneg (by omega)]; omega
  obtain ⟨d, hd0⟩ : ∃ d, i / 8 = d := ⟨_, rfl⟩
  obtain ⟨e, he0⟩ : ∃ e, i % 8 = e := ⟨_, rfl⟩
  rw [hd0] at c0 e1 hd
  rw [he0] at e2 ⊢
  have he : e < 8 := by omega
  clear b hl hx0 hd0 he0
  go_enter Tryd.func56, Tryd.ntmps56
  rcases (show e = 0 ∨ e = 1 ∨ e = 2 ∨ e = 3 ∨ e = 4 ∨ e = 5 ∨ e = 6 ∨ e = 7 by omega) with rfl | rfl | rfl | rfl | rfl | rfl | rfl | rfl
  all_goals go_wp2
  all_goals go_ret
  all_goals exact ⟨by simp, hB.out⟩
set_option maxRecDepth 100000 in
set_option maxHeartbeats 4000000 in
theorem common_ref (w : World) (a b : List Int) (ha : IsAddr a) (hb : IsAddr b) : Calls Tryd.prog 46 #[.agg (bytesV a), .agg (bytesV b)] w fun r W' => ∃ j : Nat, r = .returned (.int .i64 j) ∧ j ≤ 128 ∧ (∀ i, i < j → bitS a i = bitS b i) ∧ (j < 128 → bitS a j ≠ bitS b j) ∧ Below w.heap.size w W' := by
  obtain ⟨q, hq⟩ : ∃ q, w.heap.size = q := ⟨_, rfl⟩
  obtain ⟨V, hV⟩ : ∃ V, (w.alloc (.cells (bytesV a) 23)).alloc (.cells (bytesV b) 23) = V := ⟨_, rfl⟩
  have b1 := Blk.new w 23 (bytesV a)
  have b2 := Blk.new (w.alloc (.cells (bytesV a) 23)) 23 (bytesV b)
  simp only [nblk_alloc, hq] at b1 b2
  have K0 := hidd (show Blk V q 23 (bytesV a) ∧ Blk V (q + 1) 23 (bytesV b) ∧ Below w.heap.size w V from ⟨hV ▸ b1.alloc _, hV ▸ b2, hV ▸ ((Below.refl _ w).alloc (Nat.le_refl _) _).alloc (by simp) _⟩)
  have ha' := hidd ha
  have hb' := hidd hb
  clear b1 b2 ha hb
  go_enter Tryd.func46, Tryd.ntmps46
  go_wp2_with fail
  go_loopw [5] (fun i wr => ∃ j : Nat, j ≤ 128 ∧ i = .int .i64 j ∧ Hid ((Blk wr q 23 (bytesV a) ∧ Blk wr (q + 1) 23 (bytesV b) ∧ Below w.heap.size w wr) ∧ ∀ i, i < j → bitS a i = bitS b i)) (fun i _ => 128 - (intOf i).toNat)
  case atStart => exact ⟨0, Nat.zero_le _, rfl, hidd ⟨K0.out, fun i hi => by omega⟩⟩
  case round =>
    clear K0
    obtain ⟨j, hj, rfl, R⟩ := hrel
    have hall := hidd R.out.2
    have Kb := hidd (show Blk wr.drew q 23 (bytesV a) ∧ Blk wr.drew (q + 1) 23 (bytesV b) ∧ Below w.heap.size w wr.drew from ⟨R.out.1.1, R.out.1.2.1, R.out.1.2.2.drew⟩)
    clear R
    by_cases hjn : j < 128
    · have hjz : (j : Int) < 128 := by omega
      have hd : decide ((j : Int) < 128) = true := by simp; omega
      by_cases hbe : bitS a j = bitS b j
      · have hbe' := hidd hbe
        go_wp2_with fail
        refine wp_region_held_drew (S := (fun V => Blk V q 23 (bytesV a) ∧ Blk V (q + 1) 23 (bytesV b))) (by kernel_rfl) ⟨Kb.out.1, Kb.out.2.1⟩ (fun hHeld => ?_)
        generalize wr.drew = D at Kb hHeld ⊢
        refine wpAnyH_take (i := 0) (v := ?_) rfl (by kernel_rfl) (by kernel_rfl) (by kernel_rfl) (fun _ _ _ h => h) (Or.inl ⟨by kernel_rfl, ?_⟩) hHeld ?_
        rotate_left
        · intro wh hSw
          go_simp
          try with_reducible rfl
        try simp only [Act.put, List.getElem_toArray, List.getElem_cons_zero, List.getElem_cons_succ, List.setIfInBounds_toArray, List.set_cons_zero, List.set_cons_succ]
        refine wpAnyH_take (i := 1) (v := ?_) rfl (by kernel_rfl) (by kernel_rfl) (by kernel_rfl) (fun _ _ _ h => h) (Or.inl ⟨by kernel_rfl, ?_⟩) hHeld ?_
        rotate_left
        · intro wh hSw
          go_simp
          try with_reducible rfl
        try simp only [Act.put, List.getElem_toArray, List.getElem_cons_zero, List.getElem_cons_succ, List.setIfInBounds_toArray, List.set_cons_zero, List.set_cons_succ]
        refine wpAnyH_take (i := 2) (v := ?_) rfl (by kernel_rfl) (by kernel_rfl) (by kernel_rfl) (fun _ _ _ h => h) (Or.inl ⟨by kernel_rfl, ?_⟩) hHeld ?_
        rotate_left
        · intro wh hSw
          go_simp
          try with_reducible rfl
        try simp only [Act.put, List.getElem_toArray, List.getElem_cons_zero, List.getElem_cons_succ, List.setIfInBounds_toArray, List.set_cons_zero, List.set_cons_succ]
        refine wpAnyH_take (i := 3) rfl (by kernel_rfl) (by kernel_rfl) (by kernel_rfl) (fun _ _ _ h => h) (yieldsIf_load_want (by kernel_rfl) 23 _ rfl _ rfl _ (fun wh hSw => ldB hSw.1 ha'.out)) hHeld ?_
        try simp only [Act.put, List.getElem_toArray, List.getElem_cons_zero, List.getElem_cons_succ, List.setIfInBounds_toArray, List.set_cons_zero, List.set_cons_succ]
        refine wpAnyH_take (i := 4) (v := ?_) rfl (by kernel_rfl) (by kernel_rfl) (by kernel_rfl) (fun _ _ _ h => h) (Or.inl ⟨by kernel_rfl, ?_⟩) hHeld ?_
        rotate_left
        · intro wh hSw
          go_simp
          try with_reducible rfl
        try simp only [Act.put, List.getElem_toArray, List.getElem_cons_zero, List.getElem_cons_succ, List.setIfInBounds_toArray, List.set_cons_zero, List.set_cons_succ]
        refine wpAnyH_take (i := 6) rfl (by kernel_rfl) (by kernel_rfl) (by kernel_rfl) (fun _ _ _ h => h) (yieldsIf_load_want (by kernel_rfl) 23 _ rfl _ rfl _ (fun wh hSw => ldB hSw.2 hb'.out)) hHeld ?_
        try simp only [Act.put, List.getElem_toArray, List.getElem_cons_zero, List.getElem_cons_succ, List.setIfInBounds_toArray, List.set_cons_zero, List.set_cons_succ]
        refine wpAnyH_take (i := 7) (v := ?_) rfl (by kernel_rfl) (by kernel_rfl) (by kernel_rfl) (fun _ _ _ h => h) (Or.inl ⟨by kernel_rfl, ?_⟩) hHeld ?_
        rotate_left
        · intro wh hSw
          go_simp
          try with_reducible rfl
        try simp only [Act.put, List.getElem_toArray, List.getElem_cons_zero, List.getElem_cons_succ, List.setIfInBounds_toArray, List.set_cons_zero, List.set_cons_succ]
        refine wpAnyH_ready (rs := [5]) (by kernel_rfl) (by simp) (AllReadyH.cons rfl (fun K hK => ?_) AllReadyH.nil)
        clear hHeld
        go_simp
        refine (bit_ref D a ha'.out j hjn).mono ?_
        rintro r E ⟨rfl, bb⟩
        dsimp only
        have K2 := hidd (show Blk E q 23 (bytesV a) ∧ Blk E (q + 1) 23 (bytesV b) ∧ Below w.heap.size w E from ⟨Kb.out.1.below bb Kb.out.1.lt, Kb.out.2.1.below bb Kb.out.2.1.lt, Kb.out.2.2.trans (bb.mono Kb.out.2.2.size)⟩)
        clear bb Kb
        refine hK.out _ _ ⟨K2.out.1, K2.out.2.1⟩ (fun hHeld => ?_)
        clear hK K
        try simp only [Act.put, List.getElem_toArray, List.getElem_cons_zero, List.getElem_cons_succ, List.setIfInBounds_toArray, List.set_cons_zero, List.set_cons_succ]
        refine wpAnyH_ready (rs := [8]) (by kernel_rfl) (by simp) (AllReadyH.cons rfl (fun K hK => ?_) AllReadyH.nil)
        clear hHeld
        go_simp
        refine (bit_ref E b hb'.out j hjn).mono ?_
        rintro r E2 ⟨rfl, bb⟩
        dsimp only
        rw [← hbe'.out]
        have K3 := hidd (show Blk E2 q 23 (bytesV a) ∧ Blk E2 (q + 1) 23 (bytesV b) ∧ Below w.heap.size w E2 from ⟨K2.out.1.below bb K2.out.1.lt, K2.out.2.1.below bb K2.out.2.1.lt, K2.out.2.2.trans (bb.mono K2.out.2.2.size)⟩)
        clear bb K2
        refine hK.out _ _ ⟨K3.out.1, K3.out.2.1⟩ (fun hHeld => ?_)
        clear hK K
        try simp only [Act.put, List.getElem_toArray, List.getElem_cons_zero, List.getElem_cons_succ, List.setIfInBounds_toArray, List.set_cons_zero, List.set_cons_succ]
        refine wpAnyH_take (i := 9) (v := ?_) rfl (by kernel_rfl) (by kernel_rfl) (by kernel_rfl) (fun _ _ _ h => h) (Or.inl ⟨by kernel_rfl, ?_⟩) hHeld ?_
        rotate_left
        · intro wh hSw
          go_simp
          try with_reducible rfl
        try simp only [Act.put, List.getElem_toArray, List.getElem_cons_zero, List.getElem_cons_succ, List.setIfInBounds_toArray, List.set_cons_zero, List.set_cons_succ]
        refine wpAnyH_take (i := 10) (v := ?_) rfl (by kernel_rfl) (by kernel_rfl) (by kernel_rfl) (fun _ _ _ h => h) (Or.inl ⟨by kernel_rfl, ?_⟩) hHeld ?_
        rotate_left
        · intro wh hSw
          go_simp
          try with_reducible rfl
        try simp only [Act.put, List.getElem_toArray, List.getElem_cons_zero, List.getElem_cons_succ, List.setIfInBounds_toArray, List.set_cons_zero, List.set_cons_succ]
        refine wpAnyH_done (by kernel_rfl) ?_ _
        clear hHeld
        go_wp2
        go_roundw
        case rel => exact ⟨j + 1, by omega, by go_num, hidd ⟨K3.out, fun i hi => by
          by_cases e : i = j
          · rw [e]; exact hbe'.out
          · exact hall.out i (by omega)⟩⟩
        case measure => simp [intOf]; omega
      · have hbe' := hidd hbe
        have hb1 : (bitS a j == bitS b j) = false := by simpa using hbe
        have hb2 : decide (bitS a j = bitS b j) = false := by simpa using hbe
        go_wp2_with fail
        refine wp_region_held_drew (S := (fun V => Blk V q 23 (bytesV a) ∧ Blk V (q + 1) 23 (bytesV b))) (by kernel_rfl) ⟨Kb.out.1, Kb.out.2.1⟩ (fun hHeld => ?_)
        generalize wr.drew = D at Kb hHeld ⊢
        refine wpAnyH_take (i := 0) (v := ?_) rfl (by kernel_rfl) (by kernel_rfl) (by kernel_rfl) (fun _ _ _ h => h) (Or.inl ⟨by kernel_rfl, ?_⟩) hHeld ?_
        rotate_left
        · intro wh hSw
          go_simp
          try with_reducible rfl
        try simp only [Act.put, List.getElem_toArray, List.getElem_cons_zero, List.getElem_cons_succ, List.setIfInBounds_toArray, List.set_cons_zero, List.set_cons_succ]
        refine wpAnyH_take (i := 1) (v := ?_) rfl (by kernel_rfl) (by kernel_rfl) (by kernel_rfl) (fun _ _ _ h => h) (Or.inl ⟨by kernel_rfl, ?_⟩) hHeld ?_
        rotate_left
        · intro wh hSw
          go_simp
          try with_reducible rfl
        try simp only [Act.put, List.getElem_toArray, List.getElem_cons_zero, List.getElem_cons_succ, List.setIfInBounds_toArray, List.set_cons_zero, List.set_cons_succ]
        refine wpAnyH_take (i := 2) (v := ?_) rfl (by kernel_rfl) (by kernel_rfl) (by kernel_rfl) (fun _ _ _ h => h) (Or.inl ⟨by kernel_rfl, ?_⟩) hHeld ?_
        rotate_left
        · intro wh hSw
          go_simp
          try with_reducible rfl
        try simp only [Act.put, List.getElem_toArray, List.getElem_cons_zero, List.getElem_cons_succ, List.setIfInBounds_toArray, List.set_cons_zero, List.set_cons_succ]
        refine wpAnyH_take (i := 3) rfl (by kernel_rfl) (by kernel_rfl) (by kernel_rfl) (fun _ _ _ h => h) (yieldsIf_load_want (by kernel_rfl) 23 _ rfl _ rfl _ (fun wh hSw => ldB hSw.1 ha'.out)) hHeld ?_
        try simp only [Act.put, List.getElem_toArray, List.getElem_cons_zero, List.getElem_cons_succ, List.setIfInBounds_toArray, List.set_cons_zero, List.set_cons_succ]
        refine wpAnyH_take (i := 4) (v := ?_) rfl (by kernel_rfl) (by kernel_rfl) (by kernel_rfl) (fun _ _ _ h => h) (Or.inl ⟨by kernel_rfl, ?_⟩) hHeld ?_
        rotate_left
        · intro wh hSw
          go_simp
          try with_reducible rfl
        try simp only [Act.put, List.getElem_toArray, List.getElem_cons_zero, List.getElem_cons_succ, List.setIfInBounds_toArray, List.set_cons_zero, List.set_cons_succ]
        refine wpAnyH_take (i := 6) rfl (by kernel_rfl) (by kernel_rfl) (by kernel_rfl) (fun _ _ _ h => h) (yieldsIf_load_want (by kernel_rfl) 23 _ rfl _ rfl _ (fun wh hSw => ldB hSw.2 hb'.out)) hHeld ?_
        try simp only [Act.put, List.getElem_toArray, List.getElem_cons_zero, List.getElem_cons_succ, List.setIfInBounds_toArray, List.set_cons_zero, List.set_cons_succ]
        refine wpAnyH_take (i := 7) (v := ?_) rfl (by kernel_rfl) (by kernel_rfl) (by kernel_rfl) (fun _ _ _ h => h) (Or.inl ⟨by kernel_rfl, ?_⟩) hHeld ?_
        rotate_left
        · intro wh hSw
          go_simp
          try with_reducible rfl
        try simp only [Act.put, List.getElem_toArray, List.getElem_cons_zero, List.getElem_cons_succ, List.setIfInBounds_toArray, List.set_cons_zero, List.set_cons_succ]
        refine wpAnyH_ready (rs := [5]) (by kernel_rfl) (by simp) (AllReadyH.cons rfl (fun K hK => ?_) AllReadyH.nil)
        clear hHeld
        go_simp
        refine (bit_ref D a ha'.out j hjn).mono ?_
        rintro r E ⟨rfl, bb⟩
        dsimp only
        have K2 := hidd (show Blk E q 23 (bytesV a) ∧ Blk E (q + 1) 23 (bytesV b) ∧ Below w.heap.size w E from ⟨Kb.out.1.below bb Kb.out.1.lt, Kb.out.2.1.below bb Kb.out.2.1.lt, Kb.out.2.2.trans (bb.mono Kb.out.2.2.size)⟩)
        clear bb Kb
        refine hK.out _ _ ⟨K2.out.1, K2.out.2.1⟩ (fun hHeld => ?_)
        clear hK K
        try simp only [Act.put, List.getElem_toArray, List.getElem_cons_zero, List.getElem_cons_succ, List.setIfInBounds_toArray, List.set_cons_zero, List.set_cons_succ]
        refine wpAnyH_ready (rs := [8]) (by kernel_rfl) (by simp) (AllReadyH.cons rfl (fun K hK => ?_) AllReadyH.nil)
        clear hHeld
        go_simp
        refine (bit_ref E b hb'.out j hjn).mono ?_
        rintro r E2 ⟨rfl, bb⟩
        dsimp only
        have K3 := hidd (show Blk E2 q 23 (bytesV a) ∧ Blk E2 (q + 1) 23 (bytesV b) ∧ Below w.heap.size w E2 from ⟨K2.out.1.below bb K2.out.1.lt, K2.out.2.1.below bb K2.out.2.1.lt, K2.out.2.2.trans (bb.mono K2.out.2.2.size)⟩)
        clear bb K2
        refine hK.out _ _ ⟨K3.out.1, K3.out.2.1⟩ (fun hHeld => ?_)
        clear hK K
        try simp only [Act.put, List.getElem_toArray, List.getElem_cons_zero, List.getElem_cons_succ, List.setIfInBounds_toArray, List.set_cons_zero, List.set_cons_succ]
        refine wpAnyH_take (i := 9) (v := ?_) rfl (by kernel_rfl) (by kernel_rfl) (by kernel_rfl) (fun _ _ _ h => h) (Or.inl ⟨by kernel_rfl, ?_⟩) hHeld ?_
        rotate_left
        · intro wh hSw
          go_simp
          try with_reducible rfl
        try simp only [Act.put, List.getElem_toArray, List.getElem_cons_zero, List.getElem_cons_succ, List.setIfInBounds_toArray, List.set_cons_zero, List.set_cons_succ]
        refine wpAnyH_take (i := 10) (v := ?_) rfl (by kernel_rfl) (by kernel_rfl) (by kernel_rfl) (fun _ _ _ h => h) (Or.inl ⟨by kernel_rfl, ?_⟩) hHeld ?_
        rotate_left
        · intro wh hSw
          go_simp
          try with_reducible rfl
        try simp only [Act.put, List.getElem_toArray, List.getElem_cons_zero, List.getElem_cons_succ, List.setIfInBounds_toArray, List.set_cons_zero, List.set_cons_succ]
        refine wpAnyH_done (by kernel_rfl) ?_ _
        clear hHeld
        go_wp2
        go_ret
        have hbel := K3.out.2.2
        first | exact ⟨j, rfl, by omega, hall.out, fun _ => hbe'.out, hbel⟩ | (rw [hq] at hbel; exact ⟨j, rfl, by omega, hall.out, fun _ => hbe'.out, hbel⟩)
    · have hj8 : j = 128 := by omega
      subst hj8
      go_wp2_with fail
      refine wp_region_held_drew (S := (fun _ => True)) (by kernel_rfl) trivial (fun hHeld => ?_)
      refine wpAnyH_take (i := 0) (v := ?_) rfl (by kernel_rfl) (by kernel_rfl) (by kernel_rfl) (fun _ _ _ h => h) (Or.inl ⟨by kernel_rfl, ?_⟩) hHeld ?_
      rotate_left
      · intro wh hSw
        go_simp
        try with_reducible rfl
      try simp only [Act.put, List.getElem_toArray, List.getElem_cons_zero, List.getElem_cons_succ, List.setIfInBounds_toArray, List.set_cons_zero, List.set_cons_succ]
      refine wpAnyH_take (i := 1) (v := ?_) rfl (by kernel_rfl) (by kernel_rfl) (by kernel_rfl) (fun _ _ _ h => h) (Or.inl ⟨by kernel_rfl, ?_⟩) hHeld ?_
      rotate_left
      · intro wh hSw
        go_simp
        try with_reducible rfl
      try simp only [Act.put, List.getElem_toArray, List.getElem_cons_zero, List.getElem_cons_succ, List.setIfInBounds_toArray, List.set_cons_zero, List.set_cons_succ]
      refine wpAnyH_take (i := 2) (v := ?_) rfl (by kernel_rfl) (by kernel_rfl) (by kernel_rfl) (fun _ _ _ h => h) (Or.inl ⟨by kernel_rfl, ?_⟩) hHeld ?_
      rotate_left
      · intro wh hSw
        go_simp
        try with_reducible rfl
      try simp only [Act.put, List.getElem_toArray, List.getElem_cons_zero, List.getElem_cons_succ, List.setIfInBounds_toArray, List.set_cons_zero, List.set_cons_succ]
      refine wpAnyH_take (i := 3) rfl (by kernel_rfl) (by kernel_rfl) (by kernel_rfl) (fun _ _ _ h => h) (Or.inr ⟨by kernel_rfl, rfl⟩) hHeld ?_
      try simp only [Act.put, List.getElem_toArray, List.getElem_cons_zero, List.getElem_cons_succ, List.setIfInBounds_toArray, List.set_cons_zero, List.set_cons_succ]
      refine wpAnyH_take (i := 4) rfl (by kernel_rfl) (by kernel_rfl) (by kernel_rfl) (fun _ _ _ h => h) (Or.inr ⟨by kernel_rfl, rfl⟩) hHeld ?_
      try simp only [Act.put, List.getElem_toArray, List.getElem_cons_zero, List.getElem_cons_succ, List.setIfInBounds_toArray, List.set_cons_zero, List.set_cons_succ]
      refine wpAnyH_take (i := 5) rfl (by kernel_rfl) (by kernel_rfl) (by kernel_rfl) (fun _ _ _ h => h) (Or.inr ⟨by kernel_rfl, rfl⟩) hHeld ?_
      try simp only [Act.put, List.getElem_toArray, List.getElem_cons_zero, List.getElem_cons_succ, List.setIfInBounds_toArray, List.set_cons_zero, List.set_cons_succ]
      refine wpAnyH_take (i := 6) rfl (by kernel_rfl) (by kernel_rfl) (by kernel_rfl) (fun _ _ _ h => h) (Or.inr ⟨by kernel_rfl, rfl⟩) hHeld ?_
      try simp only [Act.put, List.getElem_toArray, List.getElem_cons_zero, List.getElem_cons_succ, List.setIfInBounds_toArray, List.set_cons_zero, List.set_cons_succ]
      refine wpAnyH_take (i := 7) rfl (by kernel_rfl) (by kernel_rfl) (by kernel_rfl) (fun _ _ _ h => h) (Or.inr ⟨by kernel_rfl, rfl⟩) hHeld ?_
      try simp only [Act.put, List.getElem_toArray, List.getElem_cons_zero, List.getElem_cons_succ, List.setIfInBounds_toArray, List.set_cons_zero, List.set_cons_succ]
      refine wpAnyH_take (i := 8) rfl (by kernel_rfl) (by kernel_rfl) (by kernel_rfl) (fun _ _ _ h => h) (Or.inr ⟨by kernel_rfl, rfl⟩) hHeld ?_
      try simp only [Act.put, List.getElem_toArray, List.getElem_cons_zero, List.getElem_cons_succ, List.setIfInBounds_toArray, List.set_cons_zero, List.set_cons_succ]
      refine wpAnyH_take (i := 9) rfl (by kernel_rfl) (by kernel_rfl) (by kernel_rfl) (fun _ _ _ h => h) (Or.inr ⟨by kernel_rfl, rfl⟩) hHeld ?_
      try simp only [Act.put, List.getElem_toArray, List.getElem_cons_zero, List.getElem_cons_succ, List.setIfInBounds_toArray, List.set_cons_zero, List.set_cons_succ]
      refine wpAnyH_take (i := 10) (v := ?_) rfl (by kernel_rfl) (by kernel_rfl) (by kernel_rfl) (fun _ _ _ h => h) (Or.inl ⟨by kernel_rfl, ?_⟩) hHeld ?_
      rotate_left
      · intro wh hSw
        go_simp
        try with_reducible rfl
      try simp only [Act.put, List.getElem_toArray, List.getElem_cons_zero, List.getElem_cons_succ, List.setIfInBounds_toArray, List.set_cons_zero, List.set_cons_succ]
      refine wpAnyH_done (by kernel_rfl) ?_ _
      clear hHeld
      go_wp2
      go_ret
      have hbel := Kb.out.2.2
      first | exact ⟨128, rfl, by omega, hall.out, fun h => by omega, hbel⟩ | (rw [hq] at hbel; exact ⟨128, rfl, by omega, hall.out, fun h => by omega, hbel⟩)
def llA : List Int := [254, 128, 0, 0, 0, 0, 0, 0, 0, 0, 0, 0, 0, 0, 0, 0]
theorem llA_is : IsAddr llA := ⟨rfl, by decide⟩
theorem at_rng {a : List Int} (ha : IsAddr a) {i : Nat} (hi : i < 16) : 0 ≤ a[i]?.getD 0 ∧ a[i]?.getD 0 ≤ 255 := by
  have hl := ha.len
  rw [List.getElem?_eq_getElem (by omega)]
  exact ha.rng _ (List.getElem_mem _)
theorem link_bits {a : List Int} (ha : IsAddr a) : (∀ i, i < 10 → bitS a i = bitS llA i) ↔ isLink a = true := by
  have hx := at_rng ha (i := 0) (by omega)
  have hy := at_rng ha (i := 1) (by omega)
  unfold isLink
  rw [Bool.and_eq_true, beq_iff_eq, beq_iff_eq]
  constructor
  · intro h
    have h0 := h 0 (by omega)
    have h1 := h 1 (by omega)
    have h2 := h 2 (by omega)
    have h3 := h 3 (by omega)
    have h4 := h 4 (by omega)
    have h5 := h 5 (by omega)
    have h6 := h 6 (by omega)
    have h7 := h 7 (by omega)
    have h8 := h 8 (by omega)
    have h9 := h 9 (by omega)
    simp [bitS, llA] at h0 h1 h2 h3 h4 h5 h6 h7 h8 h9
    omega
  · rintro ⟨h1, h2⟩ i hi
    rcases (show i = 0 ∨ i = 1 ∨ i = 2 ∨ i = 3 ∨ i = 4 ∨ i = 5 ∨ i = 6 ∨ i = 7 ∨ i = 8 ∨ i = 9 by omega) with rfl | rfl | rfl | rfl | rfl | rfl | rfl | rfl | rfl | rfl <;> simp [bitS, llA] <;> omega
set_option maxRecDepth 100000 in
theorem link_ref (w : World) (a : List Int) (ha : IsAddr a) : Calls Tryd.prog 26 #[.agg (bytesV a)] w fun r W' => r = .returned (.bool (isLink a)) ∧ Below w.heap.size w W' := by
  obtain ⟨V, hV⟩ : ∃ V, w.alloc (.cells (bytesV a) 23) = V := ⟨_, rfl⟩
  have hB := hidd (show Below w.heap.size w V from hV ▸ (Below.refl _ w).alloc (Nat.le_refl _) _)
  have l1 := ldB (show Blk V w.heap.size 23 (bytesV a) from hV ▸ Blk.new w 23 _) ha
  have hlb := hidd (link_bits ha)
  have ha' := hidd ha
  clear ha
  go_enter Tryd.func26, Tryd.ntmps26
  go_wp2_with (first
    | (with_reducible show wpList _ _ _ (⟨_, Op.load 23 _, _, _, _, _⟩ :: _) _ _; refine wpList_load_want (w := V) (by kernel_rfl) 23 _ rfl _ rfl _ l1 ?_)
    | fail)
  refine (common_ref V a llA ha'.out llA_is).mono ?_
  rintro r w2 ⟨j, rfl, hj, h1, h2, b2⟩
  have hb := hidd (hB.out.trans (b2.mono hB.out.size))
  have hil : isLink a = decide (10 ≤ j) := by
    by_cases hj10 : 10 ≤ j
    · rw [decide_eq_true hj10]
      exact hlb.out.1 (fun i hi => h1 i (by omega))
    · rw [decide_eq_false hj10]
      cases h : isLink a with
      | false => rfl
      | true => exact absurd (hlb.out.2 h j (by omega)) (h2 (by omega))
  replace hil := hidd hil
  clear l1 h1 h2 b2
  by_cases hj10 : 10 ≤ j
  · have hz : (10 : Int) ≤ (j : Int) := by omega
    go_wp2
    go_ret
    exact ⟨by rw [hil.out]; simp [hj10], hb.out⟩
  · have hz : ¬ (10 : Int) ≤ (j : Int) := by omega
    have hz2 : decide ((10 : Int) ≤ (j : Int)) = false := by simpa using hz
    go_wp2
    go_ret
    exact ⟨by rw [hil.out]; simp [hj10], hb.out⟩
theorem many_ref (w : World) (a : List Int) (ha : IsAddr a) : Calls Tryd.prog 28 #[.agg (bytesV a)] w fun e w' => e = .returned (.bool (isMany a)) ∧ Below w.heap.size w w' := by
  have b := Blk.new w 23 (bytesV a)
  have hl := ha.len
  have c0 := cell_of_bytes b 0 (by omega)
  clear hl b
  go_enter Tryd.func28, Tryd.ntmps28
  go_wp2
  all_goals go_ret
  all_goals exact ⟨rfl, (Below.refl _ w).alloc (Nat.le_refl _) _⟩
end Go.Proofs.YtlckfnfmekgnkaaDoor
