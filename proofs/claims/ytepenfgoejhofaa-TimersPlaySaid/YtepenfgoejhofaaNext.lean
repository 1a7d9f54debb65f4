/- Which comes ahead of all others. The function walked once. No condition. -/
import Derived.Test.YtepenfgoejhofaaTm
namespace Go.Proofs.Ytepenfgoejhofaa
open Go.ChangeShapes Go.WideShapes Go.ChangeAt Go.RowKit Go.Deep
set_option linter.unusedVariables false
set_option linter.unusedSimpArgs false

def SN_ (V : World) (B g n c : Nat) (x : Nat × T3) : Prop := V.cell? ⟨B, 0, none⟩ = some (.slice (some ⟨g, 0, none⟩) n c) ∧ V.cell? ⟨g, 0, none⟩ = some (ptr x.1) ∧ Blk V x.1 61 (boxV x.2 0)
set_option maxRecDepth 100000 in
set_option maxHeartbeats 2000000 in
theorem next_any (W : World) {F : Nat → Prop} {B : Nat} {m : List T3} (h : Tm W F B m) : Calls Try.prog 13 #[ptr B] W fun r W' => r = .returned (nextV (bestM m)) ∧ Below W.heap.size W W' := by
  obtain ⟨mb, ck, ms, A, n, c, L, h⟩ := h
  obtain ⟨q, hq⟩ : ∃ q, W.heap.size = q := ⟨_, rfl⟩
  obtain ⟨V, hV⟩ : ∃ V, W.alloc (.cells (keyV (0, 0)) 30) = V := ⟨_, rfl⟩
  have hVB : Below W.heap.size W V := hV ▸ (Below.refl _ W).alloc (Nat.le_refl _) _
  have hQ : Hid (Blk V q 30 (keyV (0, 0))) := hidd (by rw [← hV, ← hq]; exact Blk.new W 30 _)
  have c0 := h.hp.set.at_ (i := 0) rfl
  have hv := h.bel hVB
  have c0' := hv.hp.set.at_ (i := 0) rfl
  have hB := hidd hVB
  by_cases hn : n = 0
  · subst hn
    have hm : m = [] := by have := h.len; cases m with | nil => rfl | cons a m => simp at this
    subst hm
    have lq := ld30 hQ.out
    have cq0 := hQ.out.at_ (i := 0) rfl
    have cq1 := hQ.out.at_ (i := 1) rfl
    have zq0 := hQ.out.frozen 0
    have zq1 := hQ.out.frozen 1
    have cq1' := (hQ.out.set 0 (.int .u8 0)).at_ (i := 1) rfl
    have zq1' := (hQ.out.set 0 (.int .u8 0)).frozen 1
    clear h hv hVB
    go_enter Try.func13, Try.ntmps13
    go_wp2
    have hq2 : Blk ((V.setCell ⟨q, 0, none⟩ (.int .u8 0)).setCell ⟨q, 1, none⟩ (.int .u64 0)) q 30 (keyV (0, 0)) := (hQ.out.set 0 (.int .u8 0)).set 1 (.int .u64 0)
    have l2 := ld30 hq2
    exact bodyPost_ret (v := nextV none) (by simp [results, Try.results13, Act.put, asAddr, l2, nextV]) rfl ⟨rfl, (hB.out.setCell (Nat.le_of_eq hq) _).setCell (Nat.le_of_eq hq) _⟩
  · obtain ⟨x, hx⟩ : ∃ x, L[0]? = some x := ⟨_, List.getElem?_eq_getElem (by rw [h.hp.len]; omega)⟩
    obtain ⟨g, rfl, _, cg, h0n, hnc, hcm⟩ := hv.hp.at_ hx
    have hbest : bestM m = some x.2 := by
      have hxm : x.2 ∈ m := h.pm.mem_iff.1 (List.mem_map.2 ⟨x, List.mem_of_getElem? hx, rfl⟩)
      refine best_of hxm (fun u hu => ?_)
      obtain ⟨y, hy, rfl⟩ := List.mem_map.1 (h.pm.mem_iff.2 hu)
      obtain ⟨j, hj⟩ := List.mem_iff_getElem?.1 hy
      have := h.hh.least j j (Nat.le_refl _) (by have := lt_of_some hj; rw [h.hp.len] at this; exact this)
      rwa [vl_at hx, vl_at hj] at this
    have hn0 : (0 : Int) < (n : Int) := by omega
    have hnz : ((n : Int) == 0) = false := by rw [beq_eq_false_iff_ne]; omega
    have S1 := hidd (show V.drew.cell? ⟨B, 0, none⟩ = some (.slice (some ⟨g, 0, none⟩) n c) ∧ V.drew.cell? ⟨g, 0, none⟩ = some (ptr x.1) ∧ Blk V.drew x.1 61 (boxV x.2 0) from ⟨c0', cg, hv.hp.box 0 x hx⟩)
    replace hQ := hidd (show Blk V.drew q 30 (keyV (0, 0)) from hQ.out)
    replace hB := hidd (show Below W.heap.size W V.drew from hB.out.drew)
    have hxq : x.1 ≠ q := by have := (h.hp.box 0 x hx).lt; omega
    have hBq : B ≠ q := by have := h.hp.set.lt; omega
    have hgq : g ≠ q := by
      have := h.bd g (h.hp.fg g rfl).1
      omega
    have hsn := hidd (fun (U : World) (k : SN_ U B g n c x) => (show SN_ ((U.setCell ⟨q, 0, none⟩ (.int .u8 x.2.1)).setCell ⟨q, 1, none⟩ (.int .u64 x.2.2.1)) B g n c x from by
      have f : Fr (· = q) U ((U.setCell ⟨q, 0, none⟩ (.int .u8 x.2.1)).setCell ⟨q, 1, none⟩ (.int .u64 x.2.2.1)) := ((Fr.refl (· = q) U).setB _).setB _
      exact ⟨(f.cell (p := ⟨B, 0, none⟩) (World.block_lt_of_cell? U _ k.1) hBq).trans k.1, (f.cell (p := ⟨g, 0, none⟩) (World.block_lt_of_cell? U _ k.2.1) hgq).trans k.2.1, k.2.2.fr f hxq⟩))
    rw [hbest]
    clear h hv hVB hx cg
    go_enter Try.func13, Try.ntmps13
    go_wp2_with fail
    refine wp_region_held_drew (S := (fun V => V.cell? ⟨B, 0, none⟩ = some (.slice (some ⟨g, 0, none⟩) n c) ∧ V.cell? ⟨g, 0, none⟩ = some (ptr x.1) ∧ Blk V x.1 61 (boxV x.2 0))) (by kernel_rfl) S1.out (fun hHeld => ?_)
    generalize V.drew = D at S1 hQ hB hHeld ⊢
    refine wpAnyH_take (i := 0) (v := ?_) rfl (by kernel_rfl) (by kernel_rfl) (by kernel_rfl) (fun _ _ _ h => h) (Or.inl ⟨by kernel_rfl, ?_⟩) hHeld ?_
    rotate_left
    · intro wh hSw
      go_simp
      try with_reducible rfl
    try simp only [Act.put, List.getElem_toArray, List.getElem_cons_zero, List.getElem_cons_succ, List.setIfInBounds_toArray, List.set_cons_zero, List.set_cons_succ]
    refine wpAnyH_take (i := 1) (v := ?_) rfl (by kernel_rfl) (by kernel_rfl) (by kernel_rfl) (fun _ _ _ h => h) (Or.inl ⟨by kernel_rfl, ?_⟩) hHeld ?_
    rotate_left
    · intro wh hSw
      go_simp
      try with_reducible rfl
    try simp only [Act.put, List.getElem_toArray, List.getElem_cons_zero, List.getElem_cons_succ, List.setIfInBounds_toArray, List.set_cons_zero, List.set_cons_succ]
    refine wpAnyH_take (i := 2) (v := ?_) rfl (by kernel_rfl) (by kernel_rfl) (by kernel_rfl) (fun _ _ _ h => h) (Or.inl ⟨by kernel_rfl, ?_⟩) hHeld ?_
    rotate_left
    · intro wh hSw
      go_simp
      try with_reducible rfl
    try simp only [Act.put, List.getElem_toArray, List.getElem_cons_zero, List.getElem_cons_succ, List.setIfInBounds_toArray, List.set_cons_zero, List.set_cons_succ]
    refine wpAnyH_take (i := 3) (v := ?_) rfl (by kernel_rfl) (by kernel_rfl) (by kernel_rfl) (fun _ _ _ h => h) (Or.inl ⟨by kernel_rfl, ?_⟩) hHeld ?_
    rotate_left
    · intro wh hSw
      have hcell := hSw.1
      go_simp
      try with_reducible rfl
    try simp only [Act.put, List.getElem_toArray, List.getElem_cons_zero, List.getElem_cons_succ, List.setIfInBounds_toArray, List.set_cons_zero, List.set_cons_succ]
    refine wpAnyH_take (i := 4) (v := ?_) rfl (by kernel_rfl) (by kernel_rfl) (by kernel_rfl) (fun _ _ _ h => h) (Or.inl ⟨by kernel_rfl, ?_⟩) hHeld ?_
    rotate_left
    · intro wh hSw
      go_simp
      try with_reducible rfl
    try simp only [Act.put, List.getElem_toArray, List.getElem_cons_zero, List.getElem_cons_succ, List.setIfInBounds_toArray, List.set_cons_zero, List.set_cons_succ]
    refine wpAnyH_take (i := 5) (v := ?_) rfl (by kernel_rfl) (by kernel_rfl) (by kernel_rfl) (fun _ _ _ h => h) (Or.inl ⟨by kernel_rfl, ?_⟩) hHeld ?_
    rotate_left
    · intro wh hSw
      have hcell := hSw.2.1
      go_simp
      try with_reducible rfl
    try simp only [Act.put, List.getElem_toArray, List.getElem_cons_zero, List.getElem_cons_succ, List.setIfInBounds_toArray, List.set_cons_zero, List.set_cons_succ]
    refine wpAnyH_take (i := 6) (v := ?_) rfl (by kernel_rfl) (by kernel_rfl) (by kernel_rfl) (fun _ _ _ h => h) (Or.inl ⟨by kernel_rfl, ?_⟩) hHeld ?_
    rotate_left
    · intro wh hSw
      go_simp
      try with_reducible rfl
    try simp only [Act.put, List.getElem_toArray, List.getElem_cons_zero, List.getElem_cons_succ, List.setIfInBounds_toArray, List.set_cons_zero, List.set_cons_succ]
    refine wpAnyH_take (i := 7) (v := ?_) rfl (by kernel_rfl) (by kernel_rfl) (by kernel_rfl) (fun _ _ _ h => h) (Or.inl ⟨by kernel_rfl, ?_⟩) hHeld ?_
    rotate_left
    · intro wh hSw
      go_simp
      try with_reducible rfl
    try simp only [Act.put, List.getElem_toArray, List.getElem_cons_zero, List.getElem_cons_succ, List.setIfInBounds_toArray, List.set_cons_zero, List.set_cons_succ]
    refine wpAnyH_take (i := 8) rfl (by kernel_rfl) (by kernel_rfl) (by kernel_rfl) (fun _ _ _ h => h) (yieldsIf_load_want (by kernel_rfl) 30 _ rfl _ rfl _ (fun wh hSw => ldKey hSw.2.2)) hHeld ?_
    try simp only [Act.put, List.getElem_toArray, List.getElem_cons_zero, List.getElem_cons_succ, List.setIfInBounds_toArray, List.set_cons_zero, List.set_cons_succ]
    refine wpAnyH_take (i := 9) (v := ?_) rfl (by kernel_rfl) (by kernel_rfl) (by kernel_rfl) (fun _ _ _ h => h) (Or.inl ⟨by kernel_rfl, ?_⟩) hHeld ?_
    rotate_left
    · intro wh hSw
      go_simp
      try with_reducible rfl
    try simp only [Act.put, List.getElem_toArray, List.getElem_cons_zero, List.getElem_cons_succ, List.setIfInBounds_toArray, List.set_cons_zero, List.set_cons_succ]
    refine wpAnyH_take (i := 10) (v := ?_) rfl (by kernel_rfl) (by kernel_rfl) (by kernel_rfl) (fun _ _ _ h => h) (Or.inl ⟨by kernel_rfl, ?_⟩) hHeld ?_
    rotate_left
    · intro wh hSw
      go_simp
      try with_reducible rfl
    try simp only [Act.put, List.getElem_toArray, List.getElem_cons_zero, List.getElem_cons_succ, List.setIfInBounds_toArray, List.set_cons_zero, List.set_cons_succ]
    refine wpAnyH_take (i := 11) (v := ?_) rfl (by kernel_rfl) (by kernel_rfl) (by kernel_rfl) (fun _ _ _ h => h) (Or.inl ⟨by kernel_rfl, ?_⟩) hHeld ?_
    rotate_left
    · intro wh hSw
      go_simp
      try with_reducible rfl
    try simp only [Act.put, List.getElem_toArray, List.getElem_cons_zero, List.getElem_cons_succ, List.setIfInBounds_toArray, List.set_cons_zero, List.set_cons_succ]
    refine wpAnyH_take (i := 12) (v := ?_) rfl (by kernel_rfl) (by kernel_rfl) (by kernel_rfl) (fun _ _ _ h => h) (Or.inl ⟨by kernel_rfl, ?_⟩) hHeld ?_
    rotate_left
    · intro wh hSw
      have hcell := hSw.1
      go_simp
      try with_reducible rfl
    try simp only [Act.put, List.getElem_toArray, List.getElem_cons_zero, List.getElem_cons_succ, List.setIfInBounds_toArray, List.set_cons_zero, List.set_cons_succ]
    refine wpAnyH_take (i := 13) (v := ?_) rfl (by kernel_rfl) (by kernel_rfl) (by kernel_rfl) (fun _ _ _ h => h) (Or.inl ⟨by kernel_rfl, ?_⟩) hHeld ?_
    rotate_left
    · intro wh hSw
      go_simp
      try with_reducible rfl
    try simp only [Act.put, List.getElem_toArray, List.getElem_cons_zero, List.getElem_cons_succ, List.setIfInBounds_toArray, List.set_cons_zero, List.set_cons_succ]
    refine wpAnyH_take (i := 14) (v := ?_) rfl (by kernel_rfl) (by kernel_rfl) (by kernel_rfl) (fun _ _ _ h => h) (Or.inl ⟨by kernel_rfl, ?_⟩) hHeld ?_
    rotate_left
    · intro wh hSw
      have hcell := hSw.2.1
      go_simp
      try with_reducible rfl
    try simp only [Act.put, List.getElem_toArray, List.getElem_cons_zero, List.getElem_cons_succ, List.setIfInBounds_toArray, List.set_cons_zero, List.set_cons_succ]
    refine wpAnyH_take (i := 15) (v := ?_) rfl (by kernel_rfl) (by kernel_rfl) (by kernel_rfl) (fun _ _ _ h => h) (Or.inl ⟨by kernel_rfl, ?_⟩) hHeld ?_
    rotate_left
    · intro wh hSw
      go_simp
      try with_reducible rfl
    try simp only [Act.put, List.getElem_toArray, List.getElem_cons_zero, List.getElem_cons_succ, List.setIfInBounds_toArray, List.set_cons_zero, List.set_cons_succ]
    refine wpAnyH_take (i := 16) (v := ?_) rfl (by kernel_rfl) (by kernel_rfl) (by kernel_rfl) (fun _ _ _ h => h) (Or.inl ⟨by kernel_rfl, ?_⟩) hHeld ?_
    rotate_left
    · intro wh hSw
      go_simp
      try with_reducible rfl
    try simp only [Act.put, List.getElem_toArray, List.getElem_cons_zero, List.getElem_cons_succ, List.setIfInBounds_toArray, List.set_cons_zero, List.set_cons_succ]
    refine wpAnyH_take (i := 17) (v := ?_) rfl (by kernel_rfl) (by kernel_rfl) (by kernel_rfl) (fun _ _ _ h => h) (Or.inl ⟨by kernel_rfl, ?_⟩) hHeld ?_
    rotate_left
    · intro wh hSw
      have hcell := hSw.2.2.at_ (i := 2) rfl
      go_simp
      try with_reducible rfl
    try simp only [Act.put, List.getElem_toArray, List.getElem_cons_zero, List.getElem_cons_succ, List.setIfInBounds_toArray, List.set_cons_zero, List.set_cons_succ]
    refine wpAnyH_ready (rs := [18]) (by kernel_rfl) (by simp) (AllReadyH.cons rfl (fun K hK => ?_) AllReadyH.nil)
    clear hHeld
    have cq0 := hQ.out.at_ (i := 0) rfl
    have cq1 := hQ.out.at_ (i := 1) rfl
    have zq0 := hQ.out.frozen 0
    have zq1 := hQ.out.frozen 1
    have cq1' := (hQ.out.set 0 (.int .u8 x.2.1)).at_ (i := 1) rfl
    have zq1' := (hQ.out.set 0 (.int .u8 x.2.1)).frozen 1
    go_simp
    have S2 := hidd (show SN_ ((D.setCell ⟨q, 0, none⟩ (.int .u8 x.2.1)).setCell ⟨q, 1, none⟩ (.int .u64 x.2.2.1)) B g n c x from hsn.out D S1.out)
    refine hK.out _ _ S2.out (fun hHeld => ?_)
    clear hK K
    try simp only [Act.put, List.getElem_toArray, List.getElem_cons_zero, List.getElem_cons_succ, List.setIfInBounds_toArray, List.set_cons_zero, List.set_cons_succ]
    refine wpAnyH_take (i := 19) (v := ?_) rfl (by kernel_rfl) (by kernel_rfl) (by kernel_rfl) (fun _ _ _ h => h) (Or.inl ⟨by kernel_rfl, ?_⟩) hHeld ?_
    rotate_left
    · intro wh hSw
      go_simp
      try with_reducible rfl
    try simp only [Act.put, List.getElem_toArray, List.getElem_cons_zero, List.getElem_cons_succ, List.setIfInBounds_toArray, List.set_cons_zero, List.set_cons_succ]
    refine wpAnyH_take (i := 20) (v := ?_) rfl (by kernel_rfl) (by kernel_rfl) (by kernel_rfl) (fun _ _ _ h => h) (Or.inl ⟨by kernel_rfl, ?_⟩) hHeld ?_
    rotate_left
    · intro wh hSw
      go_simp
      try with_reducible rfl
    try simp only [Act.put, List.getElem_toArray, List.getElem_cons_zero, List.getElem_cons_succ, List.setIfInBounds_toArray, List.set_cons_zero, List.set_cons_succ]
    refine wpAnyH_done (by kernel_rfl) ?_ _
    clear hHeld
    go_wp2
    have hq2 : Blk ((D.setCell ⟨q, 0, none⟩ (.int .u8 x.2.1)).setCell ⟨q, 1, none⟩ (.int .u64 x.2.2.1)) q 30 (keyV (kOf x.2)) := (hQ.out.set 0 (.int .u8 x.2.1)).set 1 (.int .u64 x.2.2.1)
    have l2 := ld30 hq2
    exact bodyPost_ret (v := nextV (some x.2)) (by simp [results, Try.results13, Act.put, asAddr, l2, nextV]) rfl ⟨rfl, (hB.out.setCell (Nat.le_of_eq hq) _).setCell (Nat.le_of_eq hq) _⟩
end Go.Proofs.Ytepenfgoejhofaa
