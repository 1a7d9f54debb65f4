/- A set that is not there, or that no call made. Each function walked once. No condition. -/
import Derived.Test.YtepenfgoejhofaaLives
namespace Go.Proofs.Ytepenfgoejhofaa
open Go.ChangeShapes Go.WideShapes Go.ChangeAt Go.RowKit Go.Deep
set_option linter.unusedVariables false
set_option linter.unusedSimpArgs false

def Nt (w : World) (v : Value) : Prop := v = .pointer none ∨ ∃ B, v = ptr B ∧ Blk w B 50 #[.slice none 0 0, .map none]
theorem Nt.bel {w w' : World} {v : Value} (h : Nt w v) (hb : Below w.heap.size w w') : Nt w' v := by
  rcases h with h | ⟨B, h1, h2⟩
  · exact .inl h
  · exact .inr ⟨B, h1, h2.below hb h2.lt⟩
theorem size_nt (w : World) (v : Value) (h : Nt w v) : Calls Try.prog 10 #[v] w fun r W' => r = .returned (.int .i64 0) ∧ w = W' := by
  rcases h with rfl | ⟨B, rfl, h⟩
  · go_enter Try.func10, Try.ntmps10
    go_wp2
    go_ret
    exact ⟨rfl, rfl⟩
  · have c0 := h.at_ (i := 0) rfl
    go_enter Try.func10, Try.ntmps10
    go_wp2
    go_ret
    exact ⟨rfl, rfl⟩
theorem next_nt (w : World) (v : Value) (h : Nt w v) : Calls Try.prog 13 #[v] w fun r W' => r = .returned (nextV none) ∧ Below w.heap.size w W' := by
  obtain ⟨q, hq⟩ : ∃ q, w.heap.size = q := ⟨_, rfl⟩
  obtain ⟨V, hV⟩ : ∃ V, w.alloc (.cells (keyV (0, 0)) 30) = V := ⟨_, rfl⟩
  have hVB : Below w.heap.size w V := hV ▸ (Below.refl _ w).alloc (Nat.le_refl _) _
  have hQ : Hid (Blk V q 30 (keyV (0, 0))) := hidd (by rw [← hV, ← hq]; exact Blk.new w 30 _)
  have hv := h.bel hVB
  have hB := hidd hVB
  have lq := ld30 hQ.out
  have cq0 := hQ.out.at_ (i := 0) rfl
  have cq1 := hQ.out.at_ (i := 1) rfl
  have zq0 := hQ.out.frozen 0
  have zq1 := hQ.out.frozen 1
  have cq1' := (hQ.out.set 0 (.int .u8 0)).at_ (i := 1) rfl
  have zq1' := (hQ.out.set 0 (.int .u8 0)).frozen 1
  have hq2 : Blk ((V.setCell ⟨q, 0, none⟩ (.int .u8 0)).setCell ⟨q, 1, none⟩ (.int .u64 0)) q 30 (keyV (0, 0)) := (hQ.out.set 0 (.int .u8 0)).set 1 (.int .u64 0)
  have l2 := hidd (ld30 hq2)
  clear hq2 hVB
  rcases hv with rfl | ⟨B, rfl, hb⟩
  · clear h
    go_enter Try.func13, Try.ntmps13
    go_wp2
    have l2 := l2.out
    exact bodyPost_ret (v := nextV none) (by simp [results, Try.results13, Act.put, asAddr, l2, nextV]) rfl ⟨rfl, (hB.out.setCell (Nat.le_of_eq hq) _).setCell (Nat.le_of_eq hq) _⟩
  · have c0 := hb.at_ (i := 0) rfl
    clear h hb
    go_enter Try.func13, Try.ntmps13
    go_wp2
    have l2 := l2.out
    exact bodyPost_ret (v := nextV none) (by simp [results, Try.results13, Act.put, asAddr, l2, nextV]) rfl ⟨rfl, (hB.out.setCell (Nat.le_of_eq hq) _).setCell (Nat.le_of_eq hq) _⟩
theorem due_nt (w : World) (v : Value) (h : Nt w v) (now : Int) : Calls Try.prog 11 #[v, .int .u64 now] w fun r W' => r = .returned (nextV none) ∧ Below w.heap.size w W' := by
  obtain ⟨q, hq⟩ : ∃ q, w.heap.size = q := ⟨_, rfl⟩
  obtain ⟨V, hV⟩ : ∃ V, w.alloc (.cells (keyV (0, 0)) 30) = V := ⟨_, rfl⟩
  have hVB : Below w.heap.size w V := hV ▸ (Below.refl _ w).alloc (Nat.le_refl _) _
  have hQ : Blk V q 30 (keyV (0, 0)) := by rw [← hV, ← hq]; exact Blk.new w 30 _
  have hv := h.bel hVB
  have H0 := hidd (And.intro hv (And.intro hQ hVB))
  clear h hVB hQ hv
  go_enter Try.func11, Try.ntmps11
  go_wp2_with fail
  refine (next_nt V v H0.out.1).mono ?_
  rintro r V1 ⟨rfl, b1⟩
  have q1 := H0.out.2.1.below b1 H0.out.2.1.lt
  have B1 := hidd (H0.out.2.2.trans (b1.mono H0.out.2.2.size))
  clear b1 H0 hV
  have hn : nextV none = .tuple #[.agg (keyV (0, 0)), .int .u64 0, .bool false] := rfl
  rw [hn]
  obtain ⟨V2, hV2⟩ : ∃ U, (V1.setCell ⟨q, 0, none⟩ (.int .u8 ((0 : Int), (0 : Int)).1)).setCell ⟨q, 1, none⟩ (.int .u64 ((0 : Int), (0 : Int)).2) = U := ⟨_, rfl⟩
  have ka1 := (q1).at_ (i := 0) rfl
  have kb1 := (q1).at_ (i := 1) rfl
  have kc1 := (q1).frozen 0
  have kd1 := (q1).frozen 1
  have ke1 := ((q1).set 0 (.int .u8 ((0 : Int), (0 : Int)).1)).at_ (i := 1) rfl
  have kf1 := ((q1).set 0 (.int .u8 ((0 : Int), (0 : Int)).1)).frozen 1
  have kg1 : Blk V2 q 30 (keyV ((0 : Int), (0 : Int))) := hV2 ▸ ((q1).set 0 (.int .u8 ((0 : Int), (0 : Int)).1)).set 1 (.int .u64 ((0 : Int), (0 : Int)).2)
  have kh1 := kg1.at_ (i := 0) rfl
  have ki1 := kg1.at_ (i := 1) rfl
  have kj1 : Fr (· = q) V1 V2 := hV2 ▸ ((Fr.refl (· = q) V1).setB _).setB _
  obtain ⟨V3, hV3⟩ : ∃ U, (V2.setCell ⟨q, 0, none⟩ (.int .u8 ((0 : Int), (0 : Int)).1)).setCell ⟨q, 1, none⟩ (.int .u64 ((0 : Int), (0 : Int)).2) = U := ⟨_, rfl⟩
  have ka2 := (kg1).at_ (i := 0) rfl
  have kb2 := (kg1).at_ (i := 1) rfl
  have kc2 := (kg1).frozen 0
  have kd2 := (kg1).frozen 1
  have ke2 := ((kg1).set 0 (.int .u8 ((0 : Int), (0 : Int)).1)).at_ (i := 1) rfl
  have kf2 := ((kg1).set 0 (.int .u8 ((0 : Int), (0 : Int)).1)).frozen 1
  have kg2 : Blk V3 q 30 (keyV ((0 : Int), (0 : Int))) := hV3 ▸ ((kg1).set 0 (.int .u8 ((0 : Int), (0 : Int)).1)).set 1 (.int .u64 ((0 : Int), (0 : Int)).2)
  have kh2 := kg2.at_ (i := 0) rfl
  have ki2 := kg2.at_ (i := 1) rfl
  have kj2 : Fr (· = q) V2 V3 := hV3 ▸ ((Fr.refl (· = q) V2).setB _).setB _
  have hT := hidd (show Below w.heap.size w V3 from by
    have f := (kj1.trans kj2)
    exact B1.out.trans (f.below B1.out.size (fun k hk => by rw [hk]; exact Nat.le_of_eq hq)))
  have l2 := ld30 kg2
  clear hn kg1 kg2 kj1 kj2
  go_wp2
  exact bodyPost_ret (v := nextV none) (by simp [results, Try.results11, Act.put, asAddr, l2, nextV]) rfl ⟨rfl, hT.out⟩
set_option maxRecDepth 100000 in
set_option maxHeartbeats 2000000 in
theorem at_nt (W : World) (v : Value) (h : Nt W v) (k : K2) (hk : IsK k) : Calls Try.prog 16 #[v, .agg (keyV k)] W fun r W' => r = .returned (.tuple #[.int .u64 0, .bool false]) ∧ Below W.heap.size W W' := by
  obtain ⟨q, hq⟩ : ∃ q, W.heap.size = q := ⟨_, rfl⟩
  obtain ⟨V, hV⟩ : ∃ V, W.alloc (.cells (keyV k) 30) = V := ⟨_, rfl⟩
  have hVB : Below W.heap.size W V := hV ▸ (Below.refl _ W).alloc (Nat.le_refl _) _
  have hQ : Blk V.drew q 30 (keyV k) := by
    have : Blk V q 30 (keyV k) := by rw [← hV, ← hq]; exact Blk.new W 30 _
    exact this
  have hB := hidd hVB.drew
  have hB0 := hidd hVB
  have hv := h.bel hVB.drew
  have hk' := hidd hk
  clear h hk hVB
  have hk := hk'
  rcases hv with rfl | ⟨B, rfl, hb⟩
  · clear hQ
    go_enter Try.func16, Try.ntmps16
    go_wp2
    exact bodyPost_ret (v := .tuple #[.int .u64 0, .bool false]) (by simp [results, Try.results16, Act.put]) rfl ⟨rfl, hB0.out⟩
  · have S1 := hidd (And.intro (hb.at_ (i := 1) rfl) hQ)
    clear hQ hb
    go_enter Try.func16, Try.ntmps16
    go_wp2_with fail
    refine wp_region_held_drew (S := (fun V => V.cell? ⟨B, 1, none⟩ = some (.map none) ∧ Blk V q 30 (keyV k))) (by kernel_rfl) S1.out (fun hHeld => ?_)
    generalize V.drew = D at S1 hB hHeld ⊢
    refine wpAnyH_take (i := 0) (v := ?_) rfl (by kernel_rfl) (by kernel_rfl) (by kernel_rfl) (fun _ _ _ h => h) (Or.inl ⟨by kernel_rfl, ?_⟩) hHeld ?_
    rotate_left
    · intro wh hSw
      go_simp
      try with_reducible rfl
    try simp only [Act.put, List.getElem_toArray, List.getElem_cons_zero, List.getElem_cons_succ, List.setIfInBounds_toArray, List.set_cons_zero, List.set_cons_succ]
    refine wpAnyH_take (i := 1) (v := ?_) rfl (by kernel_rfl) (by kernel_rfl) (by kernel_rfl) (fun _ _ _ h => h) (Or.inl ⟨by kernel_rfl, ?_⟩) hHeld ?_
    rotate_left
    · intro wh hSw
      go_simp
      try with_reducible rfl
    try simp only [Act.put, List.getElem_toArray, List.getElem_cons_zero, List.getElem_cons_succ, List.setIfInBounds_toArray, List.set_cons_zero, List.set_cons_succ]
    refine wpAnyH_take (i := 2) (v := ?_) rfl (by kernel_rfl) (by kernel_rfl) (by kernel_rfl) (fun _ _ _ h => h) (Or.inl ⟨by kernel_rfl, ?_⟩) hHeld ?_
    rotate_left
    · intro wh hSw
      go_simp
      try with_reducible rfl
    try simp only [Act.put, List.getElem_toArray, List.getElem_cons_zero, List.getElem_cons_succ, List.setIfInBounds_toArray, List.set_cons_zero, List.set_cons_succ]
    refine wpAnyH_take (i := 3) (v := ?_) rfl (by kernel_rfl) (by kernel_rfl) (by kernel_rfl) (fun _ _ _ h => h) (Or.inl ⟨by kernel_rfl, ?_⟩) hHeld ?_
    rotate_left
    · intro wh hSw
      have hcell := hSw.1
      go_simp
      try with_reducible rfl
    try simp only [Act.put, List.getElem_toArray, List.getElem_cons_zero, List.getElem_cons_succ, List.setIfInBounds_toArray, List.set_cons_zero, List.set_cons_succ]
    refine wpAnyH_take (i := 4) rfl (by kernel_rfl) (by kernel_rfl) (by kernel_rfl) (fun _ _ _ h => h) (yieldsIf_load_want (by kernel_rfl) 30 _ rfl _ rfl _ (fun wh hSw => ld30 hSw.2)) hHeld ?_
    try simp only [Act.put, List.getElem_toArray, List.getElem_cons_zero, List.getElem_cons_succ, List.setIfInBounds_toArray, List.set_cons_zero, List.set_cons_succ]
    refine wpAnyH_ready (rs := [5]) (by kernel_rfl) (by simp) (AllReadyH.cons rfl (fun K hK => ?_) AllReadyH.nil)
    clear hHeld
    go_simp
    rw [run_look_nil D hk.out]
    simp only [Result.andThen_ok]
    refine hK.out _ _ S1.out (fun hHeld => ?_)
    clear hK K
    try simp only [Act.put, List.getElem_toArray, List.getElem_cons_zero, List.getElem_cons_succ, List.setIfInBounds_toArray, List.set_cons_zero, List.set_cons_succ]
    refine wpAnyH_take (i := 6) (v := ?_) rfl (by kernel_rfl) (by kernel_rfl) (by kernel_rfl) (fun _ _ _ h => h) (Or.inl ⟨by kernel_rfl, ?_⟩) hHeld ?_
    rotate_left
    · intro wh hSw
      go_simp
      try with_reducible rfl
    try simp only [Act.put, List.getElem_toArray, List.getElem_cons_zero, List.getElem_cons_succ, List.setIfInBounds_toArray, List.set_cons_zero, List.set_cons_succ]
    refine wpAnyH_take (i := 7) (v := ?_) rfl (by kernel_rfl) (by kernel_rfl) (by kernel_rfl) (fun _ _ _ h => h) (Or.inl ⟨by kernel_rfl, ?_⟩) hHeld ?_
    rotate_left
    · intro wh hSw
      go_simp
      try with_reducible rfl
    try simp only [Act.put, List.getElem_toArray, List.getElem_cons_zero, List.getElem_cons_succ, List.setIfInBounds_toArray, List.set_cons_zero, List.set_cons_succ]
    refine wpAnyH_take (i := 8) (v := ?_) rfl (by kernel_rfl) (by kernel_rfl) (by kernel_rfl) (fun _ _ _ h => h) (Or.inl ⟨by kernel_rfl, ?_⟩) hHeld ?_
    rotate_left
    · intro wh hSw
      go_simp
      try with_reducible rfl
    try simp only [Act.put, List.getElem_toArray, List.getElem_cons_zero, List.getElem_cons_succ, List.setIfInBounds_toArray, List.set_cons_zero, List.set_cons_succ]
    refine wpAnyH_take (i := 9) (v := ?_) rfl (by kernel_rfl) (by kernel_rfl) (by kernel_rfl) (fun _ _ _ h => h) (Or.inl ⟨by kernel_rfl, ?_⟩) hHeld ?_
    rotate_left
    · intro wh hSw
      go_simp
      try with_reducible rfl
    try simp only [Act.put, List.getElem_toArray, List.getElem_cons_zero, List.getElem_cons_succ, List.setIfInBounds_toArray, List.set_cons_zero, List.set_cons_succ]
    refine wpAnyH_take (i := 10) (v := ?_) rfl (by kernel_rfl) (by kernel_rfl) (by kernel_rfl) (fun _ _ _ h => h) (Or.inl ⟨by kernel_rfl, ?_⟩) hHeld ?_
    rotate_left
    · intro wh hSw
      go_simp
      try with_reducible rfl
    try simp only [Act.put, List.getElem_toArray, List.getElem_cons_zero, List.getElem_cons_succ, List.setIfInBounds_toArray, List.set_cons_zero, List.set_cons_succ]
    refine wpAnyH_done (by kernel_rfl) ?_ _
    clear hHeld
    go_wp2
    exact bodyPost_ret (v := .tuple #[.int .u64 0, .bool false]) (by simp [results, Try.results16, Act.put]) rfl ⟨rfl, hB.out⟩
set_option maxRecDepth 100000 in
set_option maxHeartbeats 2000000 in
theorem cancel_nt (W : World) (v : Value) (h : Nt W v) (k : K2) (hk : IsK k) : Calls Try.prog 17 #[v, .agg (keyV k)] W fun r W' => r = .returned (.bool false) ∧ Below W.heap.size W W' := by
  obtain ⟨q, hq⟩ : ∃ q, W.heap.size = q := ⟨_, rfl⟩
  obtain ⟨V, hV⟩ : ∃ V, W.alloc (.cells (keyV k) 30) = V := ⟨_, rfl⟩
  have hVB : Below W.heap.size W V := hV ▸ (Below.refl _ W).alloc (Nat.le_refl _) _
  have hQ : Blk V.drew q 30 (keyV k) := by
    have : Blk V q 30 (keyV k) := by rw [← hV, ← hq]; exact Blk.new W 30 _
    exact this
  have hB := hidd hVB.drew
  have hB0 := hidd hVB
  have hv := h.bel hVB.drew
  have hk' := hidd hk
  clear h hk hVB
  have hk := hk'
  rcases hv with rfl | ⟨B, rfl, hb⟩
  · clear hQ
    go_enter Try.func17, Try.ntmps17
    go_wp2
    go_ret
    exact ⟨rfl, hB0.out⟩
  · have S1 := hidd (And.intro (hb.at_ (i := 1) rfl) hQ)
    clear hQ hb
    go_enter Try.func17, Try.ntmps17
    go_wp2_with fail
    refine wp_region_held_drew (S := (fun V => V.cell? ⟨B, 1, none⟩ = some (.map none) ∧ Blk V q 30 (keyV k))) (by kernel_rfl) S1.out (fun hHeld => ?_)
    generalize V.drew = D at S1 hB hHeld ⊢
    refine wpAnyH_take (i := 0) (v := ?_) rfl (by kernel_rfl) (by kernel_rfl) (by kernel_rfl) (fun _ _ _ h => h) (Or.inl ⟨by kernel_rfl, ?_⟩) hHeld ?_
    rotate_left
    · intro wh hSw
      go_simp
      try with_reducible rfl
    try simp only [Act.put, List.getElem_toArray, List.getElem_cons_zero, List.getElem_cons_succ, List.setIfInBounds_toArray, List.set_cons_zero, List.set_cons_succ]
    refine wpAnyH_take (i := 1) (v := ?_) rfl (by kernel_rfl) (by kernel_rfl) (by kernel_rfl) (fun _ _ _ h => h) (Or.inl ⟨by kernel_rfl, ?_⟩) hHeld ?_
    rotate_left
    · intro wh hSw
      go_simp
      try with_reducible rfl
    try simp only [Act.put, List.getElem_toArray, List.getElem_cons_zero, List.getElem_cons_succ, List.setIfInBounds_toArray, List.set_cons_zero, List.set_cons_succ]
    refine wpAnyH_take (i := 2) (v := ?_) rfl (by kernel_rfl) (by kernel_rfl) (by kernel_rfl) (fun _ _ _ h => h) (Or.inl ⟨by kernel_rfl, ?_⟩) hHeld ?_
    rotate_left
    · intro wh hSw
      go_simp
      try with_reducible rfl
    try simp only [Act.put, List.getElem_toArray, List.getElem_cons_zero, List.getElem_cons_succ, List.setIfInBounds_toArray, List.set_cons_zero, List.set_cons_succ]
    refine wpAnyH_take (i := 3) (v := ?_) rfl (by kernel_rfl) (by kernel_rfl) (by kernel_rfl) (fun _ _ _ h => h) (Or.inl ⟨by kernel_rfl, ?_⟩) hHeld ?_
    rotate_left
    · intro wh hSw
      have hcell := hSw.1
      go_simp
      try with_reducible rfl
    try simp only [Act.put, List.getElem_toArray, List.getElem_cons_zero, List.getElem_cons_succ, List.setIfInBounds_toArray, List.set_cons_zero, List.set_cons_succ]
    refine wpAnyH_take (i := 4) rfl (by kernel_rfl) (by kernel_rfl) (by kernel_rfl) (fun _ _ _ h => h) (yieldsIf_load_want (by kernel_rfl) 30 _ rfl _ rfl _ (fun wh hSw => ld30 hSw.2)) hHeld ?_
    try simp only [Act.put, List.getElem_toArray, List.getElem_cons_zero, List.getElem_cons_succ, List.setIfInBounds_toArray, List.set_cons_zero, List.set_cons_succ]
    refine wpAnyH_ready (rs := [5]) (by kernel_rfl) (by simp) (AllReadyH.cons rfl (fun K hK => ?_) AllReadyH.nil)
    clear hHeld
    go_simp
    rw [run_look_nil D hk.out]
    simp only [Result.andThen_ok]
    refine hK.out _ _ S1.out (fun hHeld => ?_)
    clear hK K
    try simp only [Act.put, List.getElem_toArray, List.getElem_cons_zero, List.getElem_cons_succ, List.setIfInBounds_toArray, List.set_cons_zero, List.set_cons_succ]
    refine wpAnyH_take (i := 6) (v := ?_) rfl (by kernel_rfl) (by kernel_rfl) (by kernel_rfl) (fun _ _ _ h => h) (Or.inl ⟨by kernel_rfl, ?_⟩) hHeld ?_
    rotate_left
    · intro wh hSw
      go_simp
      try with_reducible rfl
    try simp only [Act.put, List.getElem_toArray, List.getElem_cons_zero, List.getElem_cons_succ, List.setIfInBounds_toArray, List.set_cons_zero, List.set_cons_succ]
    refine wpAnyH_take (i := 7) (v := ?_) rfl (by kernel_rfl) (by kernel_rfl) (by kernel_rfl) (fun _ _ _ h => h) (Or.inl ⟨by kernel_rfl, ?_⟩) hHeld ?_
    rotate_left
    · intro wh hSw
      go_simp
      try with_reducible rfl
    try simp only [Act.put, List.getElem_toArray, List.getElem_cons_zero, List.getElem_cons_succ, List.setIfInBounds_toArray, List.set_cons_zero, List.set_cons_succ]
    refine wpAnyH_take (i := 8) (v := ?_) rfl (by kernel_rfl) (by kernel_rfl) (by kernel_rfl) (fun _ _ _ h => h) (Or.inl ⟨by kernel_rfl, ?_⟩) hHeld ?_
    rotate_left
    · intro wh hSw
      go_simp
      try with_reducible rfl
    try simp only [Act.put, List.getElem_toArray, List.getElem_cons_zero, List.getElem_cons_succ, List.setIfInBounds_toArray, List.set_cons_zero, List.set_cons_succ]
    refine wpAnyH_take (i := 9) (v := ?_) rfl (by kernel_rfl) (by kernel_rfl) (by kernel_rfl) (fun _ _ _ h => h) (Or.inl ⟨by kernel_rfl, ?_⟩) hHeld ?_
    rotate_left
    · intro wh hSw
      go_simp
      try with_reducible rfl
    try simp only [Act.put, List.getElem_toArray, List.getElem_cons_zero, List.getElem_cons_succ, List.setIfInBounds_toArray, List.set_cons_zero, List.set_cons_succ]
    refine wpAnyH_take (i := 10) (v := ?_) rfl (by kernel_rfl) (by kernel_rfl) (by kernel_rfl) (fun _ _ _ h => h) (Or.inl ⟨by kernel_rfl, ?_⟩) hHeld ?_
    rotate_left
    · intro wh hSw
      go_simp
      try with_reducible rfl
    try simp only [Act.put, List.getElem_toArray, List.getElem_cons_zero, List.getElem_cons_succ, List.setIfInBounds_toArray, List.set_cons_zero, List.set_cons_succ]
    refine wpAnyH_done (by kernel_rfl) ?_ _
    clear hHeld
    go_wp2
    go_ret
    exact ⟨rfl, hB.out⟩
theorem arm_nt (W : World) (v : Value) (h : Nt W v) (k : K2) (a : Int) : Calls Try.prog 9 #[v, .agg (keyV k), .int .u64 a] W fun r W' => r = .returned (.int .i64 2) ∧ Below W.heap.size W W' := by
  have hmn : ∀ w r, (binOp .eql 48 (.map r) (.map none)).run Try.prog w = .ok (.bool r.isNone) w := fun w r => run_eql_map_nil w _ _ _ r Try.underlying48
  have hB := hidd ((Below.refl W.heap.size W).alloc (Nat.le_refl _) (.cells (keyV k) 30))
  have hv := h.bel hB.out
  rcases hv with rfl | ⟨B, rfl, hb⟩
  · clear h
    go_enter Try.func9, Try.ntmps9
    go_wp2
    go_ret
    exact ⟨rfl, hB.out⟩
  · have c1 := hb.at_ (i := 1) rfl
    clear h hb
    obtain ⟨V, hV⟩ : ∃ V, W.alloc (.cells (keyV k) 30) = V := ⟨_, rfl⟩
    rw [hV] at c1 hB
    go_enter Try.func9, Try.ntmps9
    go_wp2
    go_ret
    exact ⟨rfl, hB.out⟩
end Go.Proofs.Ytepenfgoejhofaa
