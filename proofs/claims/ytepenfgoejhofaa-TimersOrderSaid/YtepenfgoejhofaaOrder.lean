/- 'TimersOrder': for every input the law returns true; nothing that was there is written. No condition. -/
import Derived.Test.YtepenfgoejhofaaOrdP
namespace Go.Proofs.Ytepenfgoejhofaa
open Go.ChangeShapes Go.WideShapes Go.ChangeAt Go.RowKit Go.Deep
set_option linter.unusedVariables false
set_option linter.unusedSimpArgs false

theorem isEncA : Enc ActV.cells 4 (fun _ => True) where
  len := fun a h => rfl
  one := fun a v hv => by
    simp only [ActV.cells, List.mem_cons, List.not_mem_nil, or_false] at hv
    rcases hv with rfl | rfl | rfl | rfl <;> rfl
theorem slA : SlTy Try.prog 22 32 4 32 := .mk_ (z := .agg #[.int .u8 0, .int .u8 0, .int .u64 0, .int .u64 0]) Try.underlying22 (by kernel_rfl) rfl (by omega)
/-- Does one act's timer come ahead of another one's? -/
theorem ahead_any (W : World) (a b : ActV) : Calls Try.prog 12 #[.agg (actV a), .agg (actV b)] W fun r W' => r = .returned (.bool (bef a.t b.t)) ∧ Below W.heap.size W W' := by
  obtain ⟨q, hq⟩ : ∃ q, W.heap.size = q := ⟨_, rfl⟩
  obtain ⟨V, hV⟩ : ∃ U, (W.alloc (.cells (actV a) 32)).alloc (.cells (actV b) 32) = U := ⟨_, rfl⟩
  have b1 := Blk.new W 32 (actV a)
  have b2 := Blk.new (W.alloc (.cells (actV a) 32)) 32 (actV b)
  simp only [nblk_alloc, hq] at b1 b2
  have q1 : Blk V q 32 (actV a) := hV ▸ b1.alloc _
  have q2 : Blk V (q + 1) 32 (actV b) := hV ▸ b2
  have hB : Hid (Below W.heap.size W V) := hidd (hV ▸ ((Below.refl _ W).alloc (Nat.le_refl _) _).alloc (by simp) _)
  have c1 := q1.at_ (i := 1) rfl
  have c2 := q1.at_ (i := 2) rfl
  have c3 := q1.at_ (i := 3) rfl
  have d1 := q2.at_ (i := 1) rfl
  have d2 := q2.at_ (i := 2) rfl
  have d3 := q2.at_ (i := 3) rfl
  have hb := hidd (bef_iff a.t b.t)
  clear b1 b2 q1 q2
  go_enter Try.func12, Try.ntmps12
  go_wp2
  · rename_i h
    rw [bne_iff_ne] at h
    go_ret
    refine ⟨congrArg (fun z => Ending.returned (.bool z)) ?_, hB.out⟩
    rw [Bool.eq_iff_iff, hb.out]; simp only [decide_eq_true_eq]; omega
  · have h := ‹(a.t.1 != b.t.1) = true›
    have h1 := ‹(a.t.2.2 != b.t.2.2) = false›
    rw [bne_iff_ne] at h
    rw [bne_eq_false_iff_eq] at h1
    go_ret
    refine ⟨congrArg (fun z => Ending.returned (.bool z)) ?_, hB.out⟩
    rw [Bool.eq_iff_iff, hb.out]; simp only [decide_eq_true_eq]; omega
  · have h := ‹(a.t.1 != b.t.1) = false›
    have h1 := ‹(a.t.2.2 != b.t.2.2) = false›
    rw [bne_eq_false_iff_eq] at h1 h
    go_ret
    refine ⟨congrArg (fun z => Ending.returned (.bool z)) ?_, hB.out⟩
    rw [Bool.eq_iff_iff, hb.out]; simp only [decide_eq_true_eq]; omega
structure W2 (w W : World) (B : Nat) (m : List T3) (A : Option Addr) (c : Nat) (ws : List ActV) : Prop where
  cl : ∃ F, Cl w W F B m [] ∧ ∀ k, (Value.slice A ws.length c).ownBlock = some k → ¬ F k
  own : W.ownsRow w.heap.size 32 4 (.slice A ws.length c) ws.length (flatOf ActV.cells ws)
section
variable {w W : World} {B c : Nat} {m : List T3} {A : Option Addr} {ws : List ActV}
theorem W2.bel (h : W2 w W B m A c ws) : Below w.heap.size w W := by
  obtain ⟨F, h, _⟩ := h.cl
  exact h.bel
theorem W2.draw (h : W2 w W B m A c ws) : W2 w W.drew B m A c ws := by
  obtain ⟨⟨F, h1, h2⟩, h3⟩ := h
  have hb := (Below.refl W.heap.size W).drew
  exact ⟨⟨F, h1.gr (h1.tm.bel hb) (Gr.same (Fr.of_below hb F)), h2⟩, h3⟩
/-- One more. -/
theorem W2.app {A' : Option Addr} {c' : Nat} {V : World} {x : ActV} (h : W2 w W B m A c ws) (t : TypeId) (cs : Array Value)
    (ho : V.ownsRow w.heap.size 32 4 (.slice A' (ws.length + 1) c') (ws.length + 1) (flatOf ActV.cells ws ++ (actV x).toList)) (hg : (W.alloc (.cells cs t)).grownBy V (Value.slice A ws.length c).ownBlock)
    (ht : (Value.slice A' (ws.length + 1) c').ownBlock = (Value.slice A ws.length c).ownBlock ∨ (Value.slice A' (ws.length + 1) c').ownBlock = some (W.alloc (.cells cs t)).heap.size) : W2 w V B m A' c' (ws ++ [x]) := by
  obtain ⟨⟨F, h1, h2⟩, h3⟩ := h
  have hb : Below W.heap.size W (W.alloc (.cells cs t)) := (Below.refl _ W).alloc (Nat.le_refl _) _
  have hf : Fr (fun k => (Value.slice A ws.length c).ownBlock = some k) W V := ((Fr.refl _ W).alloc _).grown hg (fun k hk => .inl hk)
  refine ⟨⟨F, ⟨h1.tm.fr hf (fun k hk e => h2 k e hk), h1.lo, h1.bel.trans (hf.below h1.bel.size (fun k hk => (h3.lt k hk).1)), fun x hx => by simp at hx⟩, fun k hk hF => ?_⟩, ?_⟩
  · rw [List.length_append] at hk
    rcases ht with e | e
    · exact h2 k (e ▸ hk) hF
    · have hk2 : some (W.alloc (.cells cs t)).heap.size = some k := e ▸ hk
      injection hk2 with hk2
      have := h1.tm.bd k hF
      rw [nblk_alloc] at hk2; omega
  · rw [List.length_append, flat_append]
    have e : flatOf ActV.cells [x] = (actV x).toList := by simp [flatOf, ActV.cells]
    rw [e]; exact ho
end
theorem W2.row {w W : World} {B c : Nat} {m : List T3} {A : Option Addr} {ws : List ActV} (h : W2 w W B m A c ws) : ∃ Y, CL w W B m Y ∧ (∀ y ∈ Y, y.1 < W.heap.size) ∧ ∀ (j : Nat) (x : ActV), ws[j]? = some x → ∃ g cs, A = some ⟨g, 0, none⟩ ∧ (g, 32, cs) ∈ Y ∧ ∀ i u, x.cells[i]? = some u → cs[j * 4 + i]? = some u := by
  obtain ⟨⟨F, h1, h2⟩, h3⟩ := h
  have h3' := h3
  rcases h3.2 with ⟨h4, h5⟩ | ⟨g, cap, cur, h4, h5, h6, h7, h8, h9, h10⟩
  · refine ⟨[], ⟨F, h1⟩, fun y hy => by simp at hy, fun j x hj => ?_⟩
    have := lt_of_some hj; omega
  · injection h4 with hA hn hc
    subst hA hc
    refine ⟨[(g, 32, cur)], ⟨F, h1.tm, h1.lo, h1.bel, fun x hx => ?_⟩, fun y hy => ?_, fun j x hj => ⟨g, cur, rfl, by simp, fun i u hu => ?_⟩⟩
    · rw [List.mem_singleton.1 hx]; exact ⟨h6, h2 g rfl⟩
    · rw [List.mem_singleton.1 hy]; exact (Array.getElem?_eq_some_iff.1 h6).1
    · have hi : i < 4 := lt_of_some hu
      have hjl := lt_of_some hj
      have h11 := isEncA.flat_at (es := ws) (fun e _ => trivial) hj i hi
      rw [hu] at h11
      have h12 : cur.toList[j * 4 + i]? = some u := by
        rw [← h11, ← h10, List.getElem?_take, if_pos (by omega)]
      simpa using h12
/-- Is i still the last one of its name, up to j? -/
def LastSo (z : Nat → ActV) (i j : Nat) (k : K2) (b : Bool) : Prop := b = true ↔ ∀ q, i < q → q < j → kOf (z q).t ≠ k
section
variable {z : Nat → ActV} {i j : Nat} {k : K2}
theorem LastSo.start (z : Nat → ActV) (i : Nat) (k : K2) : LastSo z i (i + 1) k true := ⟨fun _ q h1 h2 => by omega, fun _ => rfl⟩
theorem LastSo.hit (hij : i < j) (h : kOf (z j).t = k) : LastSo z i (j + 1) k false := ⟨fun h => (Bool.noConfusion h), fun h2 => absurd h (h2 j hij (by omega))⟩
theorem LastSo.miss (h : LastSo z i j k true) (hn : kOf (z j).t ≠ k) : LastSo z i (j + 1) k true := ⟨fun _ q h1 h2 => by
  by_cases e : q = j
  · rw [e]; exact hn
  · exact h.1 rfl q h1 (by omega), fun _ => rfl⟩
theorem LastSo.off (h : LastSo z i j k false) : LastSo z i (j + 1) k false := ⟨fun e => (Bool.noConfusion e), fun h2 => h.2 fun q h3 h4 => h2 q h3 (by omega)⟩
theorem LastSo.yes (h : LastSo z i j k true) : ∀ q, i < q → q < j → kOf (z q).t ≠ k := h.1 rfl
theorem LastSo.no (h : LastSo z i j k false) : ∃ q, i < q ∧ q < j ∧ kOf (z q).t = k := by
  by_cases hh : ∃ q, i < q ∧ q < j ∧ kOf (z q).t = k
  · exact hh
  · have := h.2 fun q h1 h2 h3 => hh ⟨q, h1, h2, h3⟩
    cases this
end
theorem setRow_fr (W : World) (g : Nat) (cs : Array Value) : Fr (· = g) W (W.setRow g cs) := by
  have h := below_setRow (Below.refl 0 W) (Nat.zero_le g) cs
  exact ⟨h.os, h.tape, h.output, h.size, fun k _ hk => setRow_other W g k cs hk⟩
/-- Has it been seen among the first i? -/
def IsSo (ws : List ActV) (t : T3) (i : Nat) (b : Bool) : Prop := b = false → ∃ q x, i ≤ q ∧ ws[q]? = some x ∧ x.t = t
theorem IsSo.start {ws : List ActV} {t : T3} (h : t ∈ ws.map (·.t)) : IsSo ws t 0 false := fun _ => by
  obtain ⟨x, hx, rfl⟩ := List.mem_map.1 h
  obtain ⟨q, hq⟩ := List.mem_iff_getElem?.1 hx
  exact ⟨q, x, Nat.zero_le _, hq, rfl⟩
theorem IsSo.yes (ws : List ActV) (t : T3) (i : Nat) : IsSo ws t i true := fun h => (Bool.noConfusion h)
theorem IsSo.next {ws : List ActV} {t : T3} {i : Nat} (h : IsSo ws t i false) {y : ActV} (hy : ws[i]? = some y) (hn : y.t ≠ t) : IsSo ws t (i + 1) false := fun _ => by
  obtain ⟨q, x, h1, h2, h3⟩ := h rfl
  refine ⟨q, x, ?_, h2, h3⟩
  by_cases e : q = i
  · subst e; rw [hy] at h2; cases h2; exact absurd h3 hn
  · omega
theorem IsSo.end_ {ws : List ActV} {t : T3} {b : Bool} (h : IsSo ws t ws.length b) : b = true := by
  cases b with
  | true => rfl
  | false =>
    obtain ⟨q, x, h1, h2, h3⟩ := h rfl
    have := lt_of_some h2
    omega
set_option maxRecDepth 100000 in
set_option maxHeartbeats 8000000 in
theorem walkTimersOrder (A0 : Option Addr) (n0 c0 : Nat) (z0 : Nat → ActV) (now : Int) (w : World) (h0 : IsActs w w.heap.size A0 n0 c0 z0) (w1 : (Lit.int .u64 now).wf = true) :
    Calls Try.prog 3 #[.slice A0 n0 c0, .int .u64 now] w fun e w' => e = .returned (.bool true) ∧ Below w.heap.size w w' := by
  have hcm := h0.cmax
  have hcn := h0.cap
  have h0' := hidd h0
  have hnow := u64b w1
  have heq := fun V a b => eql30 V a b
  have hgd := guard30
  unfold maxLen at hcm
  clear h0 w1
  by_cases hbig : 256 < n0
  · go_enter Try.func3, Try.ntmps3
    go_wp2_with fail
    refine (lives_any w).mono ?_
    rintro rr V ⟨rfl, hb⟩
    go_wp2
    go_ret
    exact ⟨rfl, hb⟩
  · have hsm : decide ((256 : Int) < (n0 : Int)) = false := by simp; omega
    go_enter Try.func3, Try.ntmps3
    go_wp2_with fail
    refine (new_cl w w (Below.refl _ w)).mono ?_
    rintro rr V0 ⟨B, rfl, c, _, _⟩
    have C0 := hidd c
    clear c
    go_wp2_with fail
    go_loopw [6] (fun i wr => ∃ k : Nat, k ≤ n0 ∧ i = .int .i64 k ∧ Hid (CL w wr B (am z0 k) [])) (fun i _ => n0 - (intOf i).toNat)
    case atStart => exact ⟨0, Nat.zero_le _, rfl, C0⟩
    case round =>
      clear C0
      obtain ⟨k, hk, rfl, C1⟩ := hrel
      by_cases hkn : k < n0
      · obtain ⟨bl, off, rfl, hbl, hc⟩ := h0'.out.at_ (by omega)
        have hA := hidd (h0'.out.each k hkn)
        obtain ⟨x, hx⟩ : ∃ a, z0 k = a := ⟨_, rfl⟩
        have hS7 := hidd (fun (V : World) (hb : Below w.heap.size w V) => (show (loadVar 30 ⟨bl, off + k * 4 + 1, none⟩).run Try.prog V = .ok (.agg (keyV (kOf x.t))) V ∧ V.cell? ⟨bl, off + k * 4 + 3, none⟩ = some (.int .u64 x.t.2.2) from by
          have hS : ∀ j u, (z0 k).cells[j]? = some u → V.cell? ⟨bl, off + k * 4 + j, none⟩ = some u := fun j u hu => (World.cell?_of_block (w := w) (hb.block bl hbl)).trans (hc k hkn j u hu)
          rw [hx] at hS
          exact ⟨ldKeyAt (hS 1 _ rfl) (hS 2 _ rfl), hS 3 _ rfl⟩))
        have hX := hidd (show IsK (kOf x.t) ∧ 0 ≤ x.t.2.2 ∧ x.t.2.2 ≤ 18446744073709551615 from by rw [← hx]; exact ⟨hA.out.t.k, hA.out.t.at_⟩)
        have hok := hidd (arm_ok (m := am z0 k) (kOf x.t) x.t.2.2 (by have := am_len z0 k; omega))
        have ham := hidd (show (armM (am z0 k) (kOf x.t) x.t.2.2).2 = am z0 (k + 1) from by rw [← hx]; rfl)
        have hkz : (k : Int) < (n0 : Int) := by omega
        have S1 := hidd (hS7.out wr.drew C1.out.draw.bel)
        replace C1 := hidd C1.out.draw
        clear hc hx hA
        go_wp2_with fail
        refine wp_region_held_drew (S := (fun V => (loadVar 30 ⟨bl, off + k * 4 + 1, none⟩).run Try.prog V = .ok (.agg (keyV (kOf x.t))) V ∧ V.cell? ⟨bl, off + k * 4 + 3, none⟩ = some (.int .u64 x.t.2.2))) (by kernel_rfl) S1.out (fun hHeld => ?_)
        generalize wr.drew = D at S1 C1 hHeld ⊢
        refine wpAnyH_take (i := 0) (v := ?_) rfl (by kernel_rfl) (by kernel_rfl) (by kernel_rfl) (fun _ _ _ h => h) (Or.inl ⟨by kernel_rfl, ?_⟩) hHeld ?_
        rotate_left
        · intro wh hSw
          go_simp
          try with_reducible rfl
        try simp only [Act.put, List.getElem_toArray, List.getElem_cons_zero, List.getElem_cons_succ, List.setIfInBounds_toArray, List.set_cons_zero, List.set_cons_succ]
        refine wpAnyH_take (i := 1) (v := ?_) rfl (by kernel_rfl) (by kernel_rfl) (by kernel_rfl) (fun _ _ _ h => h) (Or.inl ⟨by kernel_rfl, ?_⟩) hHeld ?_
        rotate_left
        · intro wh hSw
          go_simp
          try with_reducible rfl
        try simp only [Act.put, List.getElem_toArray, List.getElem_cons_zero, List.getElem_cons_succ, List.setIfInBounds_toArray, List.set_cons_zero, List.set_cons_succ]
        refine wpAnyH_take (i := 2) (v := ?_) rfl (by kernel_rfl) (by kernel_rfl) (by kernel_rfl) (fun _ _ _ h => h) (Or.inl ⟨by kernel_rfl, ?_⟩) hHeld ?_
        rotate_left
        · intro wh hSw
          go_simp
          try with_reducible rfl
        try simp only [Act.put, List.getElem_toArray, List.getElem_cons_zero, List.getElem_cons_succ, List.setIfInBounds_toArray, List.set_cons_zero, List.set_cons_succ]
        refine wpAnyH_take (i := 3) (v := ?_) rfl (by kernel_rfl) (by kernel_rfl) (by kernel_rfl) (fun _ _ _ h => h) (Or.inl ⟨by kernel_rfl, ?_⟩) hHeld ?_
        rotate_left
        · intro wh hSw
          go_simp
          try with_reducible rfl
        try simp only [Act.put, List.getElem_toArray, List.getElem_cons_zero, List.getElem_cons_succ, List.setIfInBounds_toArray, List.set_cons_zero, List.set_cons_succ]
        refine wpAnyH_take (i := 4) (v := ?_) rfl (by kernel_rfl) (by kernel_rfl) (by kernel_rfl) (fun _ _ _ h => h) (Or.inl ⟨by kernel_rfl, ?_⟩) hHeld ?_
        rotate_left
        · intro wh hSw
          go_simp
          try with_reducible rfl
        try simp only [Act.put, List.getElem_toArray, List.getElem_cons_zero, List.getElem_cons_succ, List.setIfInBounds_toArray, List.set_cons_zero, List.set_cons_succ]
        refine wpAnyH_take (i := 5) rfl (by kernel_rfl) (by kernel_rfl) (by kernel_rfl) (fun _ _ _ h => h) (yieldsIf_load_want (by kernel_rfl) 30 _ rfl _ rfl _ (fun wh hSw => hSw.1)) hHeld ?_
        try simp only [Act.put, List.getElem_toArray, List.getElem_cons_zero, List.getElem_cons_succ, List.setIfInBounds_toArray, List.set_cons_zero, List.set_cons_succ]
        refine wpAnyH_take (i := 6) (v := ?_) rfl (by kernel_rfl) (by kernel_rfl) (by kernel_rfl) (fun _ _ _ h => h) (Or.inl ⟨by kernel_rfl, ?_⟩) hHeld ?_
        rotate_left
        · intro wh hSw
          go_simp
          try with_reducible rfl
        try simp only [Act.put, List.getElem_toArray, List.getElem_cons_zero, List.getElem_cons_succ, List.setIfInBounds_toArray, List.set_cons_zero, List.set_cons_succ]
        refine wpAnyH_take (i := 7) (v := ?_) rfl (by kernel_rfl) (by kernel_rfl) (by kernel_rfl) (fun _ _ _ h => h) (Or.inl ⟨by kernel_rfl, ?_⟩) hHeld ?_
        rotate_left
        · intro wh hSw
          go_simp
          try with_reducible rfl
        try simp only [Act.put, List.getElem_toArray, List.getElem_cons_zero, List.getElem_cons_succ, List.setIfInBounds_toArray, List.set_cons_zero, List.set_cons_succ]
        refine wpAnyH_take (i := 8) (v := ?_) rfl (by kernel_rfl) (by kernel_rfl) (by kernel_rfl) (fun _ _ _ h => h) (Or.inl ⟨by kernel_rfl, ?_⟩) hHeld ?_
        rotate_left
        · intro wh hSw
          go_simp
          try with_reducible rfl
        try simp only [Act.put, List.getElem_toArray, List.getElem_cons_zero, List.getElem_cons_succ, List.setIfInBounds_toArray, List.set_cons_zero, List.set_cons_succ]
        refine wpAnyH_take (i := 9) (v := ?_) rfl (by kernel_rfl) (by kernel_rfl) (by kernel_rfl) (fun _ _ _ h => h) (Or.inl ⟨by kernel_rfl, ?_⟩) hHeld ?_
        rotate_left
        · intro wh hSw
          go_simp
          try with_reducible rfl
        try simp only [Act.put, List.getElem_toArray, List.getElem_cons_zero, List.getElem_cons_succ, List.setIfInBounds_toArray, List.set_cons_zero, List.set_cons_succ]
        refine wpAnyH_take (i := 10) (v := ?_) rfl (by kernel_rfl) (by kernel_rfl) (by kernel_rfl) (fun _ _ _ h => h) (Or.inl ⟨by kernel_rfl, ?_⟩) hHeld ?_
        rotate_left
        · intro wh hSw
          have hcell := hSw.2
          go_simp
          try with_reducible rfl
        try simp only [Act.put, List.getElem_toArray, List.getElem_cons_zero, List.getElem_cons_succ, List.setIfInBounds_toArray, List.set_cons_zero, List.set_cons_succ]
        refine wpAnyH_ready (rs := [11]) (by kernel_rfl) (by simp) (AllReadyH.cons rfl (fun K hK => ?_) AllReadyH.nil)
        clear hHeld
        go_simp
        refine (arm_cl D C1.out (kOf x.t) hX.out.1 x.t.2.2 hX.out.2).mono ?_
        rintro rr E ⟨rfl, c⟩
        dsimp only
        rw [hok.out]
        have S2 := hidd (hS7.out E c.bel)
        have C2 := hidd c
        clear c C1 S1
        refine hK.out _ _ S2.out (fun hHeld => ?_)
        clear hK K
        try simp only [Act.put, List.getElem_toArray, List.getElem_cons_zero, List.getElem_cons_succ, List.setIfInBounds_toArray, List.set_cons_zero, List.set_cons_succ]
        refine wpAnyH_take (i := 12) (v := ?_) rfl (by kernel_rfl) (by kernel_rfl) (by kernel_rfl) (fun _ _ _ h => h) (Or.inl ⟨by kernel_rfl, ?_⟩) hHeld ?_
        rotate_left
        · intro wh hSw
          go_simp
          try with_reducible rfl
        try simp only [Act.put, List.getElem_toArray, List.getElem_cons_zero, List.getElem_cons_succ, List.setIfInBounds_toArray, List.set_cons_zero, List.set_cons_succ]
        refine wpAnyH_done (by kernel_rfl) ?_ _
        clear hHeld
        rw [ham.out] at C2
        go_wp2
        go_roundw
        case rel => exact ⟨k + 1, by omega, by go_num, C2⟩
        case measure => simp [intOf]; omega
      · have hkn' : k = n0 := by omega
        subst hkn'
        have K0 := hidd (show W2 w wr B (am z0 k) none 0 [] from by
          obtain ⟨F, h⟩ := C1.out
          exact ⟨⟨F, h, fun k hk => by simp [Value.ownBlock] at hk⟩, World.ownsRow_nil wr _ 32 4⟩)
        clear C1 hkn hk
        go_wp2_with fail
        go_loopw [7, 8, 9] (fun v e i wr => ∃ (i' : Nat) (A : Option Addr) (c : Nat) (ws : List ActV), i' ≤ k ∧ i = .int .i64 i' ∧ v = .slice A ws.length c ∧ e = .int .i64 ((cnt now (ws.map (·.t)) : Nat) : Int) ∧ Hid (W2 w wr B (am z0 k) A c ws ∧ Ws z0 k i' ws)) (fun _ _ i _ => k - (intOf i).toNat)
        case atStart => exact ⟨0, none, 0, [], Nat.zero_le _, rfl, rfl, rfl, hidd ⟨K0.out, Ws.nil z0 k⟩⟩
        case round =>
          clear K0
          obtain ⟨i, A, c, ws, hi, rfl, rfl, rfl, R⟩ := hrel
          by_cases hik : i < k
          · have hd : decide ((i : Int) < (k : Int)) = true := by simp; omega
            have hikz : (i : Int) < (k : Int) := by omega
            obtain ⟨bl, off, rfl, hbl, hc⟩ := h0'.out.at_ (by omega)
            have hS := hidd (fun (V : World) (hb : Below w.heap.size w V) (q : Nat) (hq : q < k) => (show (loadVar 30 ⟨bl, off + q * 4 + 1, none⟩).run Try.prog V = .ok (.agg (keyV (kOf (z0 q).t))) V ∧ V.cell? ⟨bl, off + q * 4 + 3, none⟩ = some (.int .u64 (z0 q).t.2.2) ∧ (loadVar 32 ⟨bl, off + q * 4, none⟩).run Try.prog V = .ok (.agg (actV (z0 q))) V from by
              have hS : ∀ j u, (z0 q).cells[j]? = some u → V.cell? ⟨bl, off + q * 4 + j, none⟩ = some u := fun j u hu => (World.cell?_of_block (w := w) (hb.block bl hbl)).trans (hc q hq j u hu)
              exact ⟨ldKeyAt (hS 1 _ rfl) (hS 2 _ rfl), hS 3 _ rfl, ldAct hS⟩))
            obtain ⟨x, hx⟩ : ∃ a, z0 i = a := ⟨_, rfl⟩
            have hx' := hidd hx
            clear hc hx
            go_wp2_with fail
            obtain ⟨e0, he0⟩ : ∃ e, cnt now (ws.map (·.t)) = e := ⟨_, rfl⟩
            have hcb : e0 ≤ 256 := by
              have h1 : cnt now (ws.map (·.t)) ≤ (ws.map (·.t)).length := List.countP_le_length
              have h2 := R.out.2.len
              rw [List.length_map] at h1
              omega
            rw [he0]
            have he0' := hidd he0
            clear he0
            go_loopw [10, 11] (fun lv jv wr => ∃ (b : Bool) (j : Nat), i < j ∧ j ≤ k ∧ lv = .bool b ∧ jv = .int .i64 j ∧ Hid (W2 w wr B (am z0 k) A c ws ∧ LastSo z0 i j (kOf x.t) b)) (fun _ jv _ => k - (intOf jv).toNat)
            case atStart => exact ⟨true, i + 1, by omega, by omega, rfl, by go_num, hidd ⟨R.out.1, LastSo.start z0 i _⟩⟩
            case round =>
              obtain ⟨b, j, hij, hjk, rfl, rfl, R2⟩ := hrel
              by_cases hjk2 : j < k
              · have hdj : decide ((j : Int) < (k : Int)) = true := by simp; omega
                have hjkz : (j : Int) < (k : Int) := by omega
                obtain ⟨y, hy⟩ : ∃ a, z0 j = a := ⟨_, rfl⟩
                have hy' := hidd hy
                clear hy
                have R3 := hidd R2.out.1.draw
                cases b with
                | true =>
                  have S3 := hidd (show (loadVar 30 ⟨bl, off + j * 4 + 1, none⟩).run Try.prog wr.drew = .ok (.agg (keyV (kOf y.t))) wr.drew ∧ (loadVar 30 ⟨bl, off + i * 4 + 1, none⟩).run Try.prog wr.drew = .ok (.agg (keyV (kOf x.t))) wr.drew from by
                    rw [← hy'.out, ← hx'.out]
                    exact ⟨(hS.out wr.drew R3.out.bel j hjk2).1, (hS.out wr.drew R3.out.bel i hik).1⟩)
                  have hiff := hidd R2.out.2
                  obtain ⟨e, he⟩ : ∃ e, (kOf y.t == kOf x.t) = e := ⟨_, rfl⟩
                  have hq : ∀ V, (Op.equalIn 10000 30 (.agg (keyV (kOf y.t))) (.agg (keyV (kOf x.t)))).run Try.prog V = .ok e V := fun V => he ▸ eql30 V (kOf y.t) (kOf x.t)
                  have he' := hidd he
                  clear he heq R2
                  cases e with
                  | true =>
                    go_wp2_with fail
                    refine wp_region_held_drew (S := (fun V => (loadVar 30 ⟨bl, off + j * 4 + 1, none⟩).run Try.prog V = .ok (.agg (keyV (kOf y.t))) V ∧ (loadVar 30 ⟨bl, off + i * 4 + 1, none⟩).run Try.prog V = .ok (.agg (keyV (kOf x.t))) V)) (by kernel_rfl) S3.out (fun hHeld => ?_)
                    generalize wr.drew = D at S3 R3 hHeld ⊢
                    refine wpAnyH_take (i := 0) (v := ?_) rfl (by kernel_rfl) (by kernel_rfl) (by kernel_rfl) (fun _ _ _ h => h) (Or.inl ⟨by kernel_rfl, ?_⟩) hHeld ?_
                    rotate_left
                    · intro wh hSw
                      go_simp
                      try with_reducible rfl
                    try simp only [Act.put, List.getElem_toArray, List.getElem_cons_zero, List.getElem_cons_succ, List.setIfInBounds_toArray, List.set_cons_zero, List.set_cons_succ]
                    refine wpAnyH_take (i := 1) (v := ?_) rfl (by kernel_rfl) (by kernel_rfl) (by kernel_rfl) (fun _ _ _ h => h) (Or.inl ⟨by kernel_rfl, ?_⟩) hHeld ?_
                    rotate_left
                    · intro wh hSw
                      go_simp
                      try with_reducible rfl
                    try simp only [Act.put, List.getElem_toArray, List.getElem_cons_zero, List.getElem_cons_succ, List.setIfInBounds_toArray, List.set_cons_zero, List.set_cons_succ]
                    refine wpAnyH_take (i := 2) (v := ?_) rfl (by kernel_rfl) (by kernel_rfl) (by kernel_rfl) (fun _ _ _ h => h) (Or.inl ⟨by kernel_rfl, ?_⟩) hHeld ?_
                    rotate_left
                    · intro wh hSw
                      go_simp
                      try with_reducible rfl
                    try simp only [Act.put, List.getElem_toArray, List.getElem_cons_zero, List.getElem_cons_succ, List.setIfInBounds_toArray, List.set_cons_zero, List.set_cons_succ]
                    refine wpAnyH_take (i := 3) (v := ?_) rfl (by kernel_rfl) (by kernel_rfl) (by kernel_rfl) (fun _ _ _ h => h) (Or.inl ⟨by kernel_rfl, ?_⟩) hHeld ?_
                    rotate_left
                    · intro wh hSw
                      go_simp
                      try with_reducible rfl
                    try simp only [Act.put, List.getElem_toArray, List.getElem_cons_zero, List.getElem_cons_succ, List.setIfInBounds_toArray, List.set_cons_zero, List.set_cons_succ]
                    refine wpAnyH_take (i := 4) (v := ?_) rfl (by kernel_rfl) (by kernel_rfl) (by kernel_rfl) (fun _ _ _ h => h) (Or.inl ⟨by kernel_rfl, ?_⟩) hHeld ?_
                    rotate_left
                    · intro wh hSw
                      go_simp
                      try with_reducible rfl
                    try simp only [Act.put, List.getElem_toArray, List.getElem_cons_zero, List.getElem_cons_succ, List.setIfInBounds_toArray, List.set_cons_zero, List.set_cons_succ]
                    refine wpAnyH_take (i := 5) (v := ?_) rfl (by kernel_rfl) (by kernel_rfl) (by kernel_rfl) (fun _ _ _ h => h) (Or.inl ⟨by kernel_rfl, ?_⟩) hHeld ?_
                    rotate_left
                    · intro wh hSw
                      go_simp
                      try with_reducible rfl
                    try simp only [Act.put, List.getElem_toArray, List.getElem_cons_zero, List.getElem_cons_succ, List.setIfInBounds_toArray, List.set_cons_zero, List.set_cons_succ]
                    refine wpAnyH_take (i := 6) rfl (by kernel_rfl) (by kernel_rfl) (by kernel_rfl) (fun _ _ _ h => h) (yieldsIf_load_want (by kernel_rfl) 30 _ rfl _ rfl _ (fun wh hSw => hSw.1)) hHeld ?_
                    try simp only [Act.put, List.getElem_toArray, List.getElem_cons_zero, List.getElem_cons_succ, List.setIfInBounds_toArray, List.set_cons_zero, List.set_cons_succ]
                    refine wpAnyH_take (i := 7) (v := ?_) rfl (by kernel_rfl) (by kernel_rfl) (by kernel_rfl) (fun _ _ _ h => h) (Or.inl ⟨by kernel_rfl, ?_⟩) hHeld ?_
                    rotate_left
                    · intro wh hSw
                      go_simp
                      try with_reducible rfl
                    try simp only [Act.put, List.getElem_toArray, List.getElem_cons_zero, List.getElem_cons_succ, List.setIfInBounds_toArray, List.set_cons_zero, List.set_cons_succ]
                    refine wpAnyH_take (i := 8) (v := ?_) rfl (by kernel_rfl) (by kernel_rfl) (by kernel_rfl) (fun _ _ _ h => h) (Or.inl ⟨by kernel_rfl, ?_⟩) hHeld ?_
                    rotate_left
                    · intro wh hSw
                      go_simp
                      try with_reducible rfl
                    try simp only [Act.put, List.getElem_toArray, List.getElem_cons_zero, List.getElem_cons_succ, List.setIfInBounds_toArray, List.set_cons_zero, List.set_cons_succ]
                    refine wpAnyH_take (i := 9) (v := ?_) rfl (by kernel_rfl) (by kernel_rfl) (by kernel_rfl) (fun _ _ _ h => h) (Or.inl ⟨by kernel_rfl, ?_⟩) hHeld ?_
                    rotate_left
                    · intro wh hSw
                      go_simp
                      try with_reducible rfl
                    try simp only [Act.put, List.getElem_toArray, List.getElem_cons_zero, List.getElem_cons_succ, List.setIfInBounds_toArray, List.set_cons_zero, List.set_cons_succ]
                    refine wpAnyH_take (i := 10) (v := ?_) rfl (by kernel_rfl) (by kernel_rfl) (by kernel_rfl) (fun _ _ _ h => h) (Or.inl ⟨by kernel_rfl, ?_⟩) hHeld ?_
                    rotate_left
                    · intro wh hSw
                      go_simp
                      try with_reducible rfl
                    try simp only [Act.put, List.getElem_toArray, List.getElem_cons_zero, List.getElem_cons_succ, List.setIfInBounds_toArray, List.set_cons_zero, List.set_cons_succ]
                    refine wpAnyH_take (i := 11) rfl (by kernel_rfl) (by kernel_rfl) (by kernel_rfl) (fun _ _ _ h => h) (yieldsIf_load_want (by kernel_rfl) 30 _ rfl _ rfl _ (fun wh hSw => hSw.2)) hHeld ?_
                    try simp only [Act.put, List.getElem_toArray, List.getElem_cons_zero, List.getElem_cons_succ, List.setIfInBounds_toArray, List.set_cons_zero, List.set_cons_succ]
                    refine wpAnyH_take (i := 12) (v := ?_) rfl (by kernel_rfl) (by kernel_rfl) (by kernel_rfl) (fun _ _ _ h => h) (Or.inl ⟨by kernel_rfl, ?_⟩) hHeld ?_
                    rotate_left
                    · intro wh hSw
                      go_simp
                      try with_reducible rfl
                    try simp only [Act.put, List.getElem_toArray, List.getElem_cons_zero, List.getElem_cons_succ, List.setIfInBounds_toArray, List.set_cons_zero, List.set_cons_succ]
                    refine wpAnyH_take (i := 13) (v := ?_) rfl (by kernel_rfl) (by kernel_rfl) (by kernel_rfl) (fun _ _ _ h => h) (Or.inl ⟨by kernel_rfl, ?_⟩) hHeld ?_
                    rotate_left
                    · intro wh hSw
                      go_simp
                      try with_reducible rfl
                    try simp only [Act.put, List.getElem_toArray, List.getElem_cons_zero, List.getElem_cons_succ, List.setIfInBounds_toArray, List.set_cons_zero, List.set_cons_succ]
                    refine wpAnyH_take (i := 14) (v := ?_) rfl (by kernel_rfl) (by kernel_rfl) (by kernel_rfl) (fun _ _ _ h => h) (Or.inl ⟨by kernel_rfl, ?_⟩) hHeld ?_
                    rotate_left
                    · intro wh hSw
                      go_simp
                      try with_reducible rfl
                    try simp only [Act.put, List.getElem_toArray, List.getElem_cons_zero, List.getElem_cons_succ, List.setIfInBounds_toArray, List.set_cons_zero, List.set_cons_succ]
                    refine wpAnyH_done (by kernel_rfl) ?_ _
                    clear hHeld
                    go_wp2
                    go_roundw
                    case rel => exact ⟨false, j + 1, by omega, by omega, rfl, by go_num, hidd ⟨R3.out, LastSo.hit hij (by rw [hy'.out]; exact beq_iff_eq.1 he'.out)⟩⟩
                    case measure => simp [intOf]; omega
                  | false =>
                    go_wp2_with fail
                    refine wp_region_held_drew (S := (fun V => (loadVar 30 ⟨bl, off + j * 4 + 1, none⟩).run Try.prog V = .ok (.agg (keyV (kOf y.t))) V ∧ (loadVar 30 ⟨bl, off + i * 4 + 1, none⟩).run Try.prog V = .ok (.agg (keyV (kOf x.t))) V)) (by kernel_rfl) S3.out (fun hHeld => ?_)
                    generalize wr.drew = D at S3 R3 hHeld ⊢
                    refine wpAnyH_take (i := 0) (v := ?_) rfl (by kernel_rfl) (by kernel_rfl) (by kernel_rfl) (fun _ _ _ h => h) (Or.inl ⟨by kernel_rfl, ?_⟩) hHeld ?_
                    rotate_left
                    · intro wh hSw
                      go_simp
                      try with_reducible rfl
                    try simp only [Act.put, List.getElem_toArray, List.getElem_cons_zero, List.getElem_cons_succ, List.setIfInBounds_toArray, List.set_cons_zero, List.set_cons_succ]
                    refine wpAnyH_take (i := 1) (v := ?_) rfl (by kernel_rfl) (by kernel_rfl) (by kernel_rfl) (fun _ _ _ h => h) (Or.inl ⟨by kernel_rfl, ?_⟩) hHeld ?_
                    rotate_left
                    · intro wh hSw
                      go_simp
                      try with_reducible rfl
                    try simp only [Act.put, List.getElem_toArray, List.getElem_cons_zero, List.getElem_cons_succ, List.setIfInBounds_toArray, List.set_cons_zero, List.set_cons_succ]
                    refine wpAnyH_take (i := 2) (v := ?_) rfl (by kernel_rfl) (by kernel_rfl) (by kernel_rfl) (fun _ _ _ h => h) (Or.inl ⟨by kernel_rfl, ?_⟩) hHeld ?_
                    rotate_left
                    · intro wh hSw
                      go_simp
                      try with_reducible rfl
                    try simp only [Act.put, List.getElem_toArray, List.getElem_cons_zero, List.getElem_cons_succ, List.setIfInBounds_toArray, List.set_cons_zero, List.set_cons_succ]
                    refine wpAnyH_take (i := 3) (v := ?_) rfl (by kernel_rfl) (by kernel_rfl) (by kernel_rfl) (fun _ _ _ h => h) (Or.inl ⟨by kernel_rfl, ?_⟩) hHeld ?_
                    rotate_left
                    · intro wh hSw
                      go_simp
                      try with_reducible rfl
                    try simp only [Act.put, List.getElem_toArray, List.getElem_cons_zero, List.getElem_cons_succ, List.setIfInBounds_toArray, List.set_cons_zero, List.set_cons_succ]
                    refine wpAnyH_take (i := 4) (v := ?_) rfl (by kernel_rfl) (by kernel_rfl) (by kernel_rfl) (fun _ _ _ h => h) (Or.inl ⟨by kernel_rfl, ?_⟩) hHeld ?_
                    rotate_left
                    · intro wh hSw
                      go_simp
                      try with_reducible rfl
                    try simp only [Act.put, List.getElem_toArray, List.getElem_cons_zero, List.getElem_cons_succ, List.setIfInBounds_toArray, List.set_cons_zero, List.set_cons_succ]
                    refine wpAnyH_take (i := 5) (v := ?_) rfl (by kernel_rfl) (by kernel_rfl) (by kernel_rfl) (fun _ _ _ h => h) (Or.inl ⟨by kernel_rfl, ?_⟩) hHeld ?_
                    rotate_left
                    · intro wh hSw
                      go_simp
                      try with_reducible rfl
                    try simp only [Act.put, List.getElem_toArray, List.getElem_cons_zero, List.getElem_cons_succ, List.setIfInBounds_toArray, List.set_cons_zero, List.set_cons_succ]
                    refine wpAnyH_take (i := 6) rfl (by kernel_rfl) (by kernel_rfl) (by kernel_rfl) (fun _ _ _ h => h) (yieldsIf_load_want (by kernel_rfl) 30 _ rfl _ rfl _ (fun wh hSw => hSw.1)) hHeld ?_
                    try simp only [Act.put, List.getElem_toArray, List.getElem_cons_zero, List.getElem_cons_succ, List.setIfInBounds_toArray, List.set_cons_zero, List.set_cons_succ]
                    refine wpAnyH_take (i := 7) (v := ?_) rfl (by kernel_rfl) (by kernel_rfl) (by kernel_rfl) (fun _ _ _ h => h) (Or.inl ⟨by kernel_rfl, ?_⟩) hHeld ?_
                    rotate_left
                    · intro wh hSw
                      go_simp
                      try with_reducible rfl
                    try simp only [Act.put, List.getElem_toArray, List.getElem_cons_zero, List.getElem_cons_succ, List.setIfInBounds_toArray, List.set_cons_zero, List.set_cons_succ]
                    refine wpAnyH_take (i := 8) (v := ?_) rfl (by kernel_rfl) (by kernel_rfl) (by kernel_rfl) (fun _ _ _ h => h) (Or.inl ⟨by kernel_rfl, ?_⟩) hHeld ?_
                    rotate_left
                    · intro wh hSw
                      go_simp
                      try with_reducible rfl
                    try simp only [Act.put, List.getElem_toArray, List.getElem_cons_zero, List.getElem_cons_succ, List.setIfInBounds_toArray, List.set_cons_zero, List.set_cons_succ]
                    refine wpAnyH_take (i := 9) (v := ?_) rfl (by kernel_rfl) (by kernel_rfl) (by kernel_rfl) (fun _ _ _ h => h) (Or.inl ⟨by kernel_rfl, ?_⟩) hHeld ?_
                    rotate_left
                    · intro wh hSw
                      go_simp
                      try with_reducible rfl
                    try simp only [Act.put, List.getElem_toArray, List.getElem_cons_zero, List.getElem_cons_succ, List.setIfInBounds_toArray, List.set_cons_zero, List.set_cons_succ]
                    refine wpAnyH_take (i := 10) (v := ?_) rfl (by kernel_rfl) (by kernel_rfl) (by kernel_rfl) (fun _ _ _ h => h) (Or.inl ⟨by kernel_rfl, ?_⟩) hHeld ?_
                    rotate_left
                    · intro wh hSw
                      go_simp
                      try with_reducible rfl
                    try simp only [Act.put, List.getElem_toArray, List.getElem_cons_zero, List.getElem_cons_succ, List.setIfInBounds_toArray, List.set_cons_zero, List.set_cons_succ]
                    refine wpAnyH_take (i := 11) rfl (by kernel_rfl) (by kernel_rfl) (by kernel_rfl) (fun _ _ _ h => h) (yieldsIf_load_want (by kernel_rfl) 30 _ rfl _ rfl _ (fun wh hSw => hSw.2)) hHeld ?_
                    try simp only [Act.put, List.getElem_toArray, List.getElem_cons_zero, List.getElem_cons_succ, List.setIfInBounds_toArray, List.set_cons_zero, List.set_cons_succ]
                    refine wpAnyH_take (i := 12) (v := ?_) rfl (by kernel_rfl) (by kernel_rfl) (by kernel_rfl) (fun _ _ _ h => h) (Or.inl ⟨by kernel_rfl, ?_⟩) hHeld ?_
                    rotate_left
                    · intro wh hSw
                      go_simp
                      try with_reducible rfl
                    try simp only [Act.put, List.getElem_toArray, List.getElem_cons_zero, List.getElem_cons_succ, List.setIfInBounds_toArray, List.set_cons_zero, List.set_cons_succ]
                    refine wpAnyH_take (i := 13) (v := ?_) rfl (by kernel_rfl) (by kernel_rfl) (by kernel_rfl) (fun _ _ _ h => h) (Or.inl ⟨by kernel_rfl, ?_⟩) hHeld ?_
                    rotate_left
                    · intro wh hSw
                      go_simp
                      try with_reducible rfl
                    try simp only [Act.put, List.getElem_toArray, List.getElem_cons_zero, List.getElem_cons_succ, List.setIfInBounds_toArray, List.set_cons_zero, List.set_cons_succ]
                    refine wpAnyH_take (i := 14) (v := ?_) rfl (by kernel_rfl) (by kernel_rfl) (by kernel_rfl) (fun _ _ _ h => h) (Or.inl ⟨by kernel_rfl, ?_⟩) hHeld ?_
                    rotate_left
                    · intro wh hSw
                      go_simp
                      try with_reducible rfl
                    try simp only [Act.put, List.getElem_toArray, List.getElem_cons_zero, List.getElem_cons_succ, List.setIfInBounds_toArray, List.set_cons_zero, List.set_cons_succ]
                    refine wpAnyH_done (by kernel_rfl) ?_ _
                    clear hHeld
                    go_wp2
                    go_roundw
                    case rel => exact ⟨true, j + 1, by omega, by omega, rfl, by go_num, hidd ⟨R3.out, hiff.out.miss (by rw [hy'.out]; exact beq_eq_false_iff_ne.1 he'.out)⟩⟩
                    case measure => simp [intOf]; omega
                | false =>
                  have hiff := hidd R2.out.2
                  clear R2
                  go_wp2_with fail
                  refine wp_region_held_drew (S := (fun _ => True)) (by kernel_rfl) trivial (fun hHeld => ?_)
                  generalize wr.drew = D at R3 hHeld ⊢
                  refine wpAnyH_take (i := 0) (v := ?_) rfl (by kernel_rfl) (by kernel_rfl) (by kernel_rfl) (fun _ _ _ h => h) (Or.inl ⟨by kernel_rfl, ?_⟩) hHeld ?_
                  rotate_left
                  · intro wh hSw
                    go_simp
                    try with_reducible rfl
                  try simp only [Act.put, List.getElem_toArray, List.getElem_cons_zero, List.getElem_cons_succ, List.setIfInBounds_toArray, List.set_cons_zero, List.set_cons_succ]
                  refine wpAnyH_take (i := 1) (v := ?_) rfl (by kernel_rfl) (by kernel_rfl) (by kernel_rfl) (fun _ _ _ h => h) (Or.inl ⟨by kernel_rfl, ?_⟩) hHeld ?_
                  rotate_left
                  · intro wh hSw
                    go_simp
                    try with_reducible rfl
                  try simp only [Act.put, List.getElem_toArray, List.getElem_cons_zero, List.getElem_cons_succ, List.setIfInBounds_toArray, List.set_cons_zero, List.set_cons_succ]
                  refine wpAnyH_take (i := 2) rfl (by kernel_rfl) (by kernel_rfl) (by kernel_rfl) (fun _ _ _ h => h) (Or.inr ⟨by kernel_rfl, rfl⟩) hHeld ?_
                  try simp only [Act.put, List.getElem_toArray, List.getElem_cons_zero, List.getElem_cons_succ, List.setIfInBounds_toArray, List.set_cons_zero, List.set_cons_succ]
                  refine wpAnyH_take (i := 3) rfl (by kernel_rfl) (by kernel_rfl) (by kernel_rfl) (fun _ _ _ h => h) (Or.inr ⟨by kernel_rfl, rfl⟩) hHeld ?_
                  try simp only [Act.put, List.getElem_toArray, List.getElem_cons_zero, List.getElem_cons_succ, List.setIfInBounds_toArray, List.set_cons_zero, List.set_cons_succ]
                  refine wpAnyH_take (i := 4) rfl (by kernel_rfl) (by kernel_rfl) (by kernel_rfl) (fun _ _ _ h => h) (Or.inr ⟨by kernel_rfl, rfl⟩) hHeld ?_
                  try simp only [Act.put, List.getElem_toArray, List.getElem_cons_zero, List.getElem_cons_succ, List.setIfInBounds_toArray, List.set_cons_zero, List.set_cons_succ]
                  refine wpAnyH_take (i := 5) rfl (by kernel_rfl) (by kernel_rfl) (by kernel_rfl) (fun _ _ _ h => h) (Or.inr ⟨by kernel_rfl, rfl⟩) hHeld ?_
                  try simp only [Act.put, List.getElem_toArray, List.getElem_cons_zero, List.getElem_cons_succ, List.setIfInBounds_toArray, List.set_cons_zero, List.set_cons_succ]
                  refine wpAnyH_take (i := 6) rfl (by kernel_rfl) (by kernel_rfl) (by kernel_rfl) (fun _ _ _ h => h) (Or.inr ⟨by kernel_rfl, rfl⟩) hHeld ?_
                  try simp only [Act.put, List.getElem_toArray, List.getElem_cons_zero, List.getElem_cons_succ, List.setIfInBounds_toArray, List.set_cons_zero, List.set_cons_succ]
                  refine wpAnyH_take (i := 7) rfl (by kernel_rfl) (by kernel_rfl) (by kernel_rfl) (fun _ _ _ h => h) (Or.inr ⟨by kernel_rfl, rfl⟩) hHeld ?_
                  try simp only [Act.put, List.getElem_toArray, List.getElem_cons_zero, List.getElem_cons_succ, List.setIfInBounds_toArray, List.set_cons_zero, List.set_cons_succ]
                  refine wpAnyH_take (i := 8) rfl (by kernel_rfl) (by kernel_rfl) (by kernel_rfl) (fun _ _ _ h => h) (Or.inr ⟨by kernel_rfl, rfl⟩) hHeld ?_
                  try simp only [Act.put, List.getElem_toArray, List.getElem_cons_zero, List.getElem_cons_succ, List.setIfInBounds_toArray, List.set_cons_zero, List.set_cons_succ]
                  refine wpAnyH_take (i := 9) rfl (by kernel_rfl) (by kernel_rfl) (by kernel_rfl) (fun _ _ _ h => h) (Or.inr ⟨by kernel_rfl, rfl⟩) hHeld ?_
                  try simp only [Act.put, List.getElem_toArray, List.getElem_cons_zero, List.getElem_cons_succ, List.setIfInBounds_toArray, List.set_cons_zero, List.set_cons_succ]
                  refine wpAnyH_take (i := 10) rfl (by kernel_rfl) (by kernel_rfl) (by kernel_rfl) (fun _ _ _ h => h) (Or.inr ⟨by kernel_rfl, rfl⟩) hHeld ?_
                  try simp only [Act.put, List.getElem_toArray, List.getElem_cons_zero, List.getElem_cons_succ, List.setIfInBounds_toArray, List.set_cons_zero, List.set_cons_succ]
                  refine wpAnyH_take (i := 11) rfl (by kernel_rfl) (by kernel_rfl) (by kernel_rfl) (fun _ _ _ h => h) (Or.inr ⟨by kernel_rfl, rfl⟩) hHeld ?_
                  try simp only [Act.put, List.getElem_toArray, List.getElem_cons_zero, List.getElem_cons_succ, List.setIfInBounds_toArray, List.set_cons_zero, List.set_cons_succ]
                  refine wpAnyH_take (i := 12) rfl (by kernel_rfl) (by kernel_rfl) (by kernel_rfl) (fun _ _ _ h => h) (Or.inr ⟨by kernel_rfl, rfl⟩) hHeld ?_
                  try simp only [Act.put, List.getElem_toArray, List.getElem_cons_zero, List.getElem_cons_succ, List.setIfInBounds_toArray, List.set_cons_zero, List.set_cons_succ]
                  refine wpAnyH_take (i := 13) (v := ?_) rfl (by kernel_rfl) (by kernel_rfl) (by kernel_rfl) (fun _ _ _ h => h) (Or.inl ⟨by kernel_rfl, ?_⟩) hHeld ?_
                  rotate_left
                  · intro wh hSw
                    go_simp
                    try with_reducible rfl
                  try simp only [Act.put, List.getElem_toArray, List.getElem_cons_zero, List.getElem_cons_succ, List.setIfInBounds_toArray, List.set_cons_zero, List.set_cons_succ]
                  refine wpAnyH_take (i := 14) (v := ?_) rfl (by kernel_rfl) (by kernel_rfl) (by kernel_rfl) (fun _ _ _ h => h) (Or.inl ⟨by kernel_rfl, ?_⟩) hHeld ?_
                  rotate_left
                  · intro wh hSw
                    go_simp
                    try with_reducible rfl
                  try simp only [Act.put, List.getElem_toArray, List.getElem_cons_zero, List.getElem_cons_succ, List.setIfInBounds_toArray, List.set_cons_zero, List.set_cons_succ]
                  refine wpAnyH_done (by kernel_rfl) ?_ _
                  clear hHeld
                  go_wp2
                  go_roundw
                  case rel => exact ⟨false, j + 1, by omega, by omega, rfl, by go_num, hidd ⟨R3.out, hiff.out.off⟩⟩
                  case measure => simp [intOf]; omega
              · have hjk' : j = k := by omega
                subst hjk'
                have R4 := hidd R2.out.1
                have hls := hidd R2.out.2
                have hws := hidd R.out.2
                clear R R2
                have hA4 := hidd (show W2 w wr B (am z0 j) A c ws from R4.out)
                cases b with
                | true =>
                  have la := hidd (show (loadVar 32 ⟨bl, off + i * 4, none⟩).run Try.prog wr = .ok (.agg (actV x)) wr from by rw [← hx'.out]; exact (hS.out wr R4.out.bel i hik).2.2)
                  have hwl := hws.out.len
                  have hsz := R4.out.bel.size
                  by_cases hle : x.t.2.2 ≤ now
                  · have hcn := hidd (show cnt now ((ws ++ [x]).map (·.t)) = e0 + 1 from by rw [← he0'.out]; simp [cnt, hle])
                    have hws2 := hidd (show Ws z0 j (i + 1) (ws ++ [x]) from by rw [← hx'.out]; exact hws.out.yes hik (by rw [hx'.out]; exact hls.out.yes))
                    go_wp2_with (first
                      | (with_reducible show wpList _ _ _ (⟨_, Op.load 32 _, _, _, _, _⟩ :: _) _ _; refine wpList_load_want (by kernel_rfl) 32 _ rfl _ rfl _ (by with_reducible exact la.out) ?_)
                      | (with_reducible show wpList _ _ _ (⟨_, Op.buildSlice 22 _ _, _, _, _, _⟩ :: _) _ _; refine wpList_bs1 rfl (.tmp 84) slA (by decide) rfl (actV x) rfl rfl ?_)
                      | (with_reducible show wpList _ _ _ (⟨_, Op.call { callee := Callee.builtin Builtin.append, args := _, argTypes := _ }, _, _, _, _⟩ :: _) _ _
                         go_loud (refine wpList_append_rd (v := .slice A ws.length c) (wr.alloc (.cells (actV x) 32)) rfl (.tmp 80) (.tmp 85) slA rfl rfl (own_al hA4.out.own _) rfl (rd_one wr 32 4 (actV x) rfl) (fun u hu => isEncA.one x u hu) (by unfold maxLen; omega) (by omega) (by simp; omega) ?_)
                         intro v5 w5 o5 g5 t5 l5
                         obtain ⟨A5, c5, rfl⟩ := slice_of_own o5
                         have R5 := hidd (hA4.out.app (x := x) 32 (actV x) o5 g5 t5)
                         have at5 : w5.cell? ⟨bl, off + i * 4 + 3, none⟩ = some (.int .u64 x.t.2.2) := by rw [← hx'.out]; exact (hS.out w5 R5.out.bel i hik).2.1
                         clear o5 g5 t5 l5))
                    go_roundw
                    case rel => exact ⟨i + 1, A5, c5, ws ++ [x], by omega, by go_num, by rw [List.length_append]; rfl, by rw [hcn.out]; go_num, hidd ⟨R5.out, hws2.out⟩⟩
                    case measure => simp [intOf]; omega
                  · have hcn := hidd (show cnt now ((ws ++ [x]).map (·.t)) = e0 from by rw [← he0'.out]; simp [cnt]; omega)
                    have hws2 := hidd (show Ws z0 j (i + 1) (ws ++ [x]) from by rw [← hx'.out]; exact hws.out.yes hik (by rw [hx'.out]; exact hls.out.yes))
                    go_wp2_with (first
                      | (with_reducible show wpList _ _ _ (⟨_, Op.load 32 _, _, _, _, _⟩ :: _) _ _; refine wpList_load_want (by kernel_rfl) 32 _ rfl _ rfl _ (by with_reducible exact la.out) ?_)
                      | (with_reducible show wpList _ _ _ (⟨_, Op.buildSlice 22 _ _, _, _, _, _⟩ :: _) _ _; refine wpList_bs1 rfl (.tmp 84) slA (by decide) rfl (actV x) rfl rfl ?_)
                      | (with_reducible show wpList _ _ _ (⟨_, Op.call { callee := Callee.builtin Builtin.append, args := _, argTypes := _ }, _, _, _, _⟩ :: _) _ _
                         go_loud (refine wpList_append_rd (v := .slice A ws.length c) (wr.alloc (.cells (actV x) 32)) rfl (.tmp 80) (.tmp 85) slA rfl rfl (own_al hA4.out.own _) rfl (rd_one wr 32 4 (actV x) rfl) (fun u hu => isEncA.one x u hu) (by unfold maxLen; omega) (by omega) (by simp; omega) ?_)
                         intro v5 w5 o5 g5 t5 l5
                         obtain ⟨A5, c5, rfl⟩ := slice_of_own o5
                         have R5 := hidd (hA4.out.app (x := x) 32 (actV x) o5 g5 t5)
                         have at5 : w5.cell? ⟨bl, off + i * 4 + 3, none⟩ = some (.int .u64 x.t.2.2) := by rw [← hx'.out]; exact (hS.out w5 R5.out.bel i hik).2.1
                         clear o5 g5 t5 l5))
                    go_roundw
                    case rel => exact ⟨i + 1, A5, c5, ws ++ [x], by omega, by go_num, by rw [List.length_append]; rfl, by rw [hcn.out], hidd ⟨R5.out, hws2.out⟩⟩
                    case measure => simp [intOf]; omega
                | false =>
                  have hws2 := hidd (show Ws z0 j (i + 1) ws from hws.out.no (by obtain ⟨q, h1, h2, h3⟩ := hls.out.no; exact ⟨q, h1, h2, by rw [h3, hx'.out]⟩))
                  go_wp2
                  go_roundw
                  case rel => exact ⟨i + 1, A, c, ws, by omega, by go_num, rfl, by rw [he0'.out], hidd ⟨hA4.out, hws2.out⟩⟩
                  case measure => simp [intOf]; omega
          · have hik' : i = k := by omega
            subst hik'
            go_wp2_with fail
            have hperm := hidd (R.out.2.perm (by omega))
            have hml := hidd (show (am z0 i).length = ws.length from by have := hperm.out.length_eq; rwa [List.length_map] at this)
            have hwl := R.out.2.len
            have hall := hidd (fun t (ht : t ∈ am z0 i) => hperm.out.mem_iff.1 ht)
            have hnd := am_nd z0 i
            obtain ⟨Y, c, hY, hrow⟩ := R.out.1.row
            have hY' := hidd hY
            have hrow' := hidd hrow
            have C4 := hidd c
            obtain ⟨e0, he0⟩ : ∃ e, cnt now (ws.map (·.t)) = e := ⟨_, rfl⟩
            have hcb : e0 ≤ ws.length := by
              have h1 : cnt now (ws.map (·.t)) ≤ (ws.map (·.t)).length := List.countP_le_length
              rw [List.length_map] at h1
              omega
            have hcm0 : cnt now (am z0 i) = e0 := by
              rw [← he0]; exact hperm.out.countP_eq _
            have T4 := hidd (show Tk (am z0 i) now e0 (0, 0, 0) 0 (am z0 i) from ⟨by omega, fun t ht => ht, hnd, by omega, fun h => absurd h (by omega)⟩)
            rw [he0]
            clear c hY hrow R he0 hcm0 hperm hnd
            have hml' := hml.out
            obtain ⟨m0, hm0⟩ : ∃ m, am z0 i = m := ⟨_, rfl⟩
            obtain ⟨nw, hnw⟩ : ∃ n, ws.length = n := ⟨_, rfl⟩
            rw [hm0, hnw] at hml'
            rw [hm0] at C4 T4 hall
            rw [hnw] at hwl hcb ⊢
            refine (size_cl wr C4.out).mono ?_
            rintro rr U ⟨rfl, hU⟩
            subst hU
            rw [hml']
            have hll : ((nw : Int) != (nw : Int)) = false := by simp
            clear hml
            go_wp2_with fail
            obtain ⟨bw, hbw⟩ : ∃ b, wr.heap.size = b := ⟨_, rfl⟩
            have C5 := hidd (C4.out.box 32 (actV ⟨0, (0, 0, 0)⟩) hbw)
            have hYb := hidd (fun y (hy : y ∈ Y) => (show y.1 ≠ bw from by have := hY'.out y hy; omega))
            have hwb : w.heap.size ≤ bw := by have := C4.out.bel.size; omega
            rw [hbw]
            obtain ⟨U0, hU0⟩ : ∃ U, wr.alloc (.cells #[.int .u8 0, .int .u8 0, .int .u64 0, .int .u64 0] 32) = U := ⟨_, rfl⟩
            have C6 := hidd (show CL w U0 B m0 ((bw, 32, actV ⟨0, (0, 0, 0)⟩) :: Y) from by rw [← hU0]; exact C5.out)
            rw [hU0]
            clear hU0 C4 C5 hY' hbw
            go_loopw [13] (fun nv wr => ∃ (k : Nat) (m : List T3) (was : ActV), k ≤ nw ∧ nv = .int .i64 k ∧ Hid (CL w wr B m ((bw, 32, actV was) :: Y) ∧ Tk m0 now e0 was.t k m)) (fun nv _ => nw - (intOf nv).toNat)
            case atStart => exact ⟨0, m0, ⟨0, (0, 0, 0)⟩, Nat.zero_le _, rfl, hidd ⟨C6.out, T4.out⟩⟩
            case round =>
              clear C6 T4
              obtain ⟨k, m, was, hk, rfl, R⟩ := hrel
              by_cases hkn : k < nw
              · have hdk : decide ((k : Int) < (nw : Int)) = true := by simp; omega
                obtain ⟨t, m', s1, s2, s3, s4, s5, s6⟩ := R.out.2.step (by omega)
                have C3 := hidd R.out.1
                have S := hidd (And.intro s2 (And.intro s3 s4))
                by_cases hke : k < e0
                · have hge : decide ((k : Int) ≥ (e0 : Int)) = false := by simp; omega
                  have hdue := hidd (s5 hke)
                  clear s1 s2 s3 s4 s5 s6 R
                  go_wp2_with fail
                  refine (due_cl wr C3.out now).mono ?_
                  rintro rr V ⟨rfl, c⟩
                  rw [hdue.out] at c ⊢
                  dsimp only [nextV] at c ⊢
                  have C5 := hidd c
                  clear c C3
                  obtain ⟨bk, hbk⟩ : ∃ b, V.heap.size = b := ⟨_, rfl⟩
                  have C6 := hidd (C5.out.box 30 (keyV (kOf t)) hbk)
                  obtain ⟨U1, hU1⟩ : ∃ U, V.alloc (.cells (keyV (kOf t)) 30) = U := ⟨_, rfl⟩
                  have hbkb := hidd (show Blk (V.alloc (.cells (keyV (kOf t)) 30)) bk 30 (keyV (kOf t)) from C6.out.blk (x := (bk, 30, keyV (kOf t))) (by simp))
                  have ck0 := (hbkb.out).at_ (i := 0) rfl
                  have ck1 := (hbkb.out).at_ (i := 1) rfl
                  have C6s := hidd (show (V.alloc (.cells (keyV (kOf t)) 30)).heap.size = bk + 1 from by rw [nblk_alloc, hbk])
                  have C7 := hidd (C6.out.box 32 (actV ⟨0, t⟩) C6s.out)
                  clear hU1 U1 C5
                  go_wp2_with fail
                  try rw [hbk]
                  obtain ⟨U2, hU2⟩ : ∃ U, (V.alloc (.cells #[.int .u8 t.1, .int .u64 t.2.1] 30)).alloc (.cells #[.int .u8 0, .int .u8 t.1, .int .u64 t.2.1, .int .u64 t.2.2] 32) = U := ⟨_, rfl⟩
                  have C8 := hidd (show CL w U2 B m' ((bk + 1, 32, actV ⟨0, t⟩) :: (bk, 30, keyV (kOf t)) :: (bw, 32, actV was) :: Y) from by rw [← hU2]; exact C7.out)
                  have hbkw : bk ≠ bw := by
                    have h1 := (C8.out.blk (x := (bk, 30, keyV (kOf t))) (by simp))
                    have h2 := (C8.out.blk (x := (bw, 32, actV was)) (by simp))
                    exact blk_ne h1 h2 (show (30 : TypeId) ≠ 32 by decide)
                  rw [hU2]
                  clear hU2 C6 C7 C6s hbkb ck0 ck1 hbk V
                  obtain ⟨bx, hbx⟩ : ∃ b, bk + 1 = b := ⟨_, rfl⟩
                  rw [hbx] at C8 ⊢
                  clear hbx
                  go_loopw [22, 23] (fun sv iv wr => ∃ (b : Bool) (q : Nat), q ≤ nw ∧ sv = .bool b ∧ iv = .int .i64 q ∧ Hid (CL w wr B m' ((bx, 32, actV ⟨0, t⟩) :: (bk, 30, keyV (kOf t)) :: (bw, 32, actV was) :: Y) ∧ IsSo ws t q b)) (fun _ iv _ => nw - (intOf iv).toNat)
                  case atStart => exact ⟨false, 0, Nat.zero_le _, rfl, rfl, hidd ⟨C8.out, IsSo.start (hall.out t S.out.1)⟩⟩
                  case round =>
                    clear C8
                    obtain ⟨b, q, hq, rfl, rfl, R⟩ := hrel
                    by_cases hqn : q < nw
                    · have hdq : decide ((q : Int) < (nw : Int)) = true := by simp; omega
                      have hqz : (q : Int) < (nw : Int) := by omega
                      obtain ⟨y, hy⟩ : ∃ y, ws[q]? = some y := ⟨_, List.getElem?_eq_getElem (by omega)⟩
                      obtain ⟨g, cs, rfl, hg, hcs⟩ := hrow'.out q y hy
                      have hy' := hidd hy
                      have hso := hidd R.out.2
                      have C9 := hidd R.out.1.draw
                      have hgb := hidd (C9.out.blk (x := (g, 32, cs)) (List.mem_cons_of_mem _ (List.mem_cons_of_mem _ (List.mem_cons_of_mem _ hg))))
                      have hkb := hidd (C9.out.blk (x := (bk, 30, keyV (kOf t))) (by simp))
                      have S9 := hidd (show (loadVar 30 ⟨g, q * 4 + 1, none⟩).run Try.prog wr.drew = .ok (.agg (keyV (kOf y.t))) wr.drew ∧ (loadVar 30 ⟨bk, 0, none⟩).run Try.prog wr.drew = .ok (.agg (keyV (kOf t))) wr.drew ∧ wr.drew.cell? ⟨g, q * 4 + 3, none⟩ = some (.int .u64 y.t.2.2) from ⟨ldKeyAt (hgb.out.at_ (hcs 1 _ rfl)) (hgb.out.at_ (hcs 2 _ rfl)), ld30 hkb.out, hgb.out.at_ (hcs 3 _ rfl)⟩)
                      clear hy R hg hcs hgb hkb
                      cases b with
                      | true =>
                        go_wp2_with fail
                        refine wp_region_held_drew (S := (fun _ => True)) (by kernel_rfl) trivial (fun hHeld => ?_)
                        generalize wr.drew = D at C9 hHeld ⊢
                        refine wpAnyH_take (i := 0) (v := ?_) rfl (by kernel_rfl) (by kernel_rfl) (by kernel_rfl) (fun _ _ _ h => h) (Or.inl ⟨by kernel_rfl, ?_⟩) hHeld ?_
                        rotate_left
                        · intro wh hSw
                          go_simp
                          try with_reducible rfl
                        try simp only [Act.put, List.getElem_toArray, List.getElem_cons_zero, List.getElem_cons_succ, List.setIfInBounds_toArray, List.set_cons_zero, List.set_cons_succ]
                        refine wpAnyH_take (i := 1) (v := ?_) rfl (by kernel_rfl) (by kernel_rfl) (by kernel_rfl) (fun _ _ _ h => h) (Or.inl ⟨by kernel_rfl, ?_⟩) hHeld ?_
                        rotate_left
                        · intro wh hSw
                          go_simp
                          try with_reducible rfl
                        try simp only [Act.put, List.getElem_toArray, List.getElem_cons_zero, List.getElem_cons_succ, List.setIfInBounds_toArray, List.set_cons_zero, List.set_cons_succ]
                        refine wpAnyH_take (i := 2) rfl (by kernel_rfl) (by kernel_rfl) (by kernel_rfl) (fun _ _ _ h => h) (Or.inr ⟨by kernel_rfl, rfl⟩) hHeld ?_
                        try simp only [Act.put, List.getElem_toArray, List.getElem_cons_zero, List.getElem_cons_succ, List.setIfInBounds_toArray, List.set_cons_zero, List.set_cons_succ]
                        refine wpAnyH_take (i := 3) rfl (by kernel_rfl) (by kernel_rfl) (by kernel_rfl) (fun _ _ _ h => h) (Or.inr ⟨by kernel_rfl, rfl⟩) hHeld ?_
                        try simp only [Act.put, List.getElem_toArray, List.getElem_cons_zero, List.getElem_cons_succ, List.setIfInBounds_toArray, List.set_cons_zero, List.set_cons_succ]
                        refine wpAnyH_take (i := 4) rfl (by kernel_rfl) (by kernel_rfl) (by kernel_rfl) (fun _ _ _ h => h) (Or.inr ⟨by kernel_rfl, rfl⟩) hHeld ?_
                        try simp only [Act.put, List.getElem_toArray, List.getElem_cons_zero, List.getElem_cons_succ, List.setIfInBounds_toArray, List.set_cons_zero, List.set_cons_succ]
                        refine wpAnyH_take (i := 5) rfl (by kernel_rfl) (by kernel_rfl) (by kernel_rfl) (fun _ _ _ h => h) (Or.inr ⟨by kernel_rfl, rfl⟩) hHeld ?_
                        try simp only [Act.put, List.getElem_toArray, List.getElem_cons_zero, List.getElem_cons_succ, List.setIfInBounds_toArray, List.set_cons_zero, List.set_cons_succ]
                        refine wpAnyH_take (i := 6) rfl (by kernel_rfl) (by kernel_rfl) (by kernel_rfl) (fun _ _ _ h => h) (Or.inr ⟨by kernel_rfl, rfl⟩) hHeld ?_
                        try simp only [Act.put, List.getElem_toArray, List.getElem_cons_zero, List.getElem_cons_succ, List.setIfInBounds_toArray, List.set_cons_zero, List.set_cons_succ]
                        refine wpAnyH_take (i := 7) rfl (by kernel_rfl) (by kernel_rfl) (by kernel_rfl) (fun _ _ _ h => h) (Or.inr ⟨by kernel_rfl, rfl⟩) hHeld ?_
                        try simp only [Act.put, List.getElem_toArray, List.getElem_cons_zero, List.getElem_cons_succ, List.setIfInBounds_toArray, List.set_cons_zero, List.set_cons_succ]
                        refine wpAnyH_take (i := 8) rfl (by kernel_rfl) (by kernel_rfl) (by kernel_rfl) (fun _ _ _ h => h) (Or.inr ⟨by kernel_rfl, rfl⟩) hHeld ?_
                        try simp only [Act.put, List.getElem_toArray, List.getElem_cons_zero, List.getElem_cons_succ, List.setIfInBounds_toArray, List.set_cons_zero, List.set_cons_succ]
                        refine wpAnyH_take (i := 9) rfl (by kernel_rfl) (by kernel_rfl) (by kernel_rfl) (fun _ _ _ h => h) (Or.inr ⟨by kernel_rfl, rfl⟩) hHeld ?_
                        try simp only [Act.put, List.getElem_toArray, List.getElem_cons_zero, List.getElem_cons_succ, List.setIfInBounds_toArray, List.set_cons_zero, List.set_cons_succ]
                        refine wpAnyH_take (i := 10) rfl (by kernel_rfl) (by kernel_rfl) (by kernel_rfl) (fun _ _ _ h => h) (Or.inr ⟨by kernel_rfl, rfl⟩) hHeld ?_
                        try simp only [Act.put, List.getElem_toArray, List.getElem_cons_zero, List.getElem_cons_succ, List.setIfInBounds_toArray, List.set_cons_zero, List.set_cons_succ]
                        refine wpAnyH_take (i := 11) rfl (by kernel_rfl) (by kernel_rfl) (by kernel_rfl) (fun _ _ _ h => h) (Or.inr ⟨by kernel_rfl, rfl⟩) hHeld ?_
                        try simp only [Act.put, List.getElem_toArray, List.getElem_cons_zero, List.getElem_cons_succ, List.setIfInBounds_toArray, List.set_cons_zero, List.set_cons_succ]
                        refine wpAnyH_take (i := 12) rfl (by kernel_rfl) (by kernel_rfl) (by kernel_rfl) (fun _ _ _ h => h) (Or.inr ⟨by kernel_rfl, rfl⟩) hHeld ?_
                        try simp only [Act.put, List.getElem_toArray, List.getElem_cons_zero, List.getElem_cons_succ, List.setIfInBounds_toArray, List.set_cons_zero, List.set_cons_succ]
                        refine wpAnyH_take (i := 13) rfl (by kernel_rfl) (by kernel_rfl) (by kernel_rfl) (fun _ _ _ h => h) (Or.inr ⟨by kernel_rfl, rfl⟩) hHeld ?_
                        try simp only [Act.put, List.getElem_toArray, List.getElem_cons_zero, List.getElem_cons_succ, List.setIfInBounds_toArray, List.set_cons_zero, List.set_cons_succ]
                        refine wpAnyH_take (i := 14) rfl (by kernel_rfl) (by kernel_rfl) (by kernel_rfl) (fun _ _ _ h => h) (Or.inr ⟨by kernel_rfl, rfl⟩) hHeld ?_
                        try simp only [Act.put, List.getElem_toArray, List.getElem_cons_zero, List.getElem_cons_succ, List.setIfInBounds_toArray, List.set_cons_zero, List.set_cons_succ]
                        refine wpAnyH_take (i := 15) rfl (by kernel_rfl) (by kernel_rfl) (by kernel_rfl) (fun _ _ _ h => h) (Or.inr ⟨by kernel_rfl, rfl⟩) hHeld ?_
                        try simp only [Act.put, List.getElem_toArray, List.getElem_cons_zero, List.getElem_cons_succ, List.setIfInBounds_toArray, List.set_cons_zero, List.set_cons_succ]
                        refine wpAnyH_take (i := 16) rfl (by kernel_rfl) (by kernel_rfl) (by kernel_rfl) (fun _ _ _ h => h) (Or.inr ⟨by kernel_rfl, rfl⟩) hHeld ?_
                        try simp only [Act.put, List.getElem_toArray, List.getElem_cons_zero, List.getElem_cons_succ, List.setIfInBounds_toArray, List.set_cons_zero, List.set_cons_succ]
                        refine wpAnyH_take (i := 17) rfl (by kernel_rfl) (by kernel_rfl) (by kernel_rfl) (fun _ _ _ h => h) (Or.inr ⟨by kernel_rfl, rfl⟩) hHeld ?_
                        try simp only [Act.put, List.getElem_toArray, List.getElem_cons_zero, List.getElem_cons_succ, List.setIfInBounds_toArray, List.set_cons_zero, List.set_cons_succ]
                        refine wpAnyH_take (i := 18) (v := ?_) rfl (by kernel_rfl) (by kernel_rfl) (by kernel_rfl) (fun _ _ _ h => h) (Or.inl ⟨by kernel_rfl, ?_⟩) hHeld ?_
                        rotate_left
                        · intro wh hSw
                          go_simp
                          try with_reducible rfl
                        try simp only [Act.put, List.getElem_toArray, List.getElem_cons_zero, List.getElem_cons_succ, List.setIfInBounds_toArray, List.set_cons_zero, List.set_cons_succ]
                        refine wpAnyH_take (i := 19) (v := ?_) rfl (by kernel_rfl) (by kernel_rfl) (by kernel_rfl) (fun _ _ _ h => h) (Or.inl ⟨by kernel_rfl, ?_⟩) hHeld ?_
                        rotate_left
                        · intro wh hSw
                          go_simp
                          try with_reducible rfl
                        try simp only [Act.put, List.getElem_toArray, List.getElem_cons_zero, List.getElem_cons_succ, List.setIfInBounds_toArray, List.set_cons_zero, List.set_cons_succ]
                        refine wpAnyH_done (by kernel_rfl) ?_ _
                        clear hHeld
                        go_wp2
                        go_roundw
                        case rel => exact ⟨true, q + 1, by omega, rfl, by go_num, hidd ⟨C9.out, IsSo.yes ws t _⟩⟩
                        case measure => simp [intOf]; omega
                      | false =>
                        obtain ⟨e, he⟩ : ∃ e, (kOf y.t == kOf t) = e := ⟨_, rfl⟩
                        have hqe : ∀ V, (Op.equalIn 10000 30 (.agg (keyV (kOf y.t))) (.agg (keyV (kOf t)))).run Try.prog V = .ok e V := fun V => he ▸ eql30 V (kOf y.t) (kOf t)
                        have he' := hidd he
                        clear he heq
                        cases e with
                        | false =>
                          go_wp2_with fail
                          refine wp_region_held_drew (S := (fun V => (loadVar 30 ⟨g, q * 4 + 1, none⟩).run Try.prog V = .ok (.agg (keyV (kOf y.t))) V ∧ (loadVar 30 ⟨bk, 0, none⟩).run Try.prog V = .ok (.agg (keyV (kOf t))) V ∧ V.cell? ⟨g, q * 4 + 3, none⟩ = some (.int .u64 y.t.2.2))) (by kernel_rfl) S9.out (fun hHeld => ?_)
                          generalize wr.drew = D at C9 S9 hHeld ⊢
                          refine wpAnyH_take (i := 0) (v := ?_) rfl (by kernel_rfl) (by kernel_rfl) (by kernel_rfl) (fun _ _ _ h => h) (Or.inl ⟨by kernel_rfl, ?_⟩) hHeld ?_
                          rotate_left
                          · intro wh hSw
                            go_simp
                            try with_reducible rfl
                          try simp only [Act.put, List.getElem_toArray, List.getElem_cons_zero, List.getElem_cons_succ, List.setIfInBounds_toArray, List.set_cons_zero, List.set_cons_succ]
                          refine wpAnyH_take (i := 1) (v := ?_) rfl (by kernel_rfl) (by kernel_rfl) (by kernel_rfl) (fun _ _ _ h => h) (Or.inl ⟨by kernel_rfl, ?_⟩) hHeld ?_
                          rotate_left
                          · intro wh hSw
                            go_simp
                            try with_reducible rfl
                          try simp only [Act.put, List.getElem_toArray, List.getElem_cons_zero, List.getElem_cons_succ, List.setIfInBounds_toArray, List.set_cons_zero, List.set_cons_succ]
                          refine wpAnyH_take (i := 2) (v := ?_) rfl (by kernel_rfl) (by kernel_rfl) (by kernel_rfl) (fun _ _ _ h => h) (Or.inl ⟨by kernel_rfl, ?_⟩) hHeld ?_
                          rotate_left
                          · intro wh hSw
                            go_simp
                            try with_reducible rfl
                          try simp only [Act.put, List.getElem_toArray, List.getElem_cons_zero, List.getElem_cons_succ, List.setIfInBounds_toArray, List.set_cons_zero, List.set_cons_succ]
                          refine wpAnyH_take (i := 3) (v := ?_) rfl (by kernel_rfl) (by kernel_rfl) (by kernel_rfl) (fun _ _ _ h => h) (Or.inl ⟨by kernel_rfl, ?_⟩) hHeld ?_
                          rotate_left
                          · intro wh hSw
                            go_simp
                            try with_reducible rfl
                          try simp only [Act.put, List.getElem_toArray, List.getElem_cons_zero, List.getElem_cons_succ, List.setIfInBounds_toArray, List.set_cons_zero, List.set_cons_succ]
                          refine wpAnyH_take (i := 4) (v := ?_) rfl (by kernel_rfl) (by kernel_rfl) (by kernel_rfl) (fun _ _ _ h => h) (Or.inl ⟨by kernel_rfl, ?_⟩) hHeld ?_
                          rotate_left
                          · intro wh hSw
                            go_simp
                            try with_reducible rfl
                          try simp only [Act.put, List.getElem_toArray, List.getElem_cons_zero, List.getElem_cons_succ, List.setIfInBounds_toArray, List.set_cons_zero, List.set_cons_succ]
                          refine wpAnyH_take (i := 5) (v := ?_) rfl (by kernel_rfl) (by kernel_rfl) (by kernel_rfl) (fun _ _ _ h => h) (Or.inl ⟨by kernel_rfl, ?_⟩) hHeld ?_
                          rotate_left
                          · intro wh hSw
                            go_simp
                            try with_reducible rfl
                          try simp only [Act.put, List.getElem_toArray, List.getElem_cons_zero, List.getElem_cons_succ, List.setIfInBounds_toArray, List.set_cons_zero, List.set_cons_succ]
                          refine wpAnyH_take (i := 6) rfl (by kernel_rfl) (by kernel_rfl) (by kernel_rfl) (fun _ _ _ h => h) (yieldsIf_load_want (by kernel_rfl) 30 _ rfl _ rfl _ (fun wh hSw => hSw.1)) hHeld ?_
                          try simp only [Act.put, List.getElem_toArray, List.getElem_cons_zero, List.getElem_cons_succ, List.setIfInBounds_toArray, List.set_cons_zero, List.set_cons_succ]
                          refine wpAnyH_take (i := 7) rfl (by kernel_rfl) (by kernel_rfl) (by kernel_rfl) (fun _ _ _ h => h) (yieldsIf_load_want (by kernel_rfl) 30 _ rfl _ rfl _ (fun wh hSw => hSw.2.1)) hHeld ?_
                          try simp only [Act.put, List.getElem_toArray, List.getElem_cons_zero, List.getElem_cons_succ, List.setIfInBounds_toArray, List.set_cons_zero, List.set_cons_succ]
                          refine wpAnyH_take (i := 8) (v := ?_) rfl (by kernel_rfl) (by kernel_rfl) (by kernel_rfl) (fun _ _ _ h => h) (Or.inl ⟨by kernel_rfl, ?_⟩) hHeld ?_
                          rotate_left
                          · intro wh hSw
                            go_simp
                            try with_reducible rfl
                          try simp only [Act.put, List.getElem_toArray, List.getElem_cons_zero, List.getElem_cons_succ, List.setIfInBounds_toArray, List.set_cons_zero, List.set_cons_succ]
                          refine wpAnyH_take (i := 9) (v := ?_) rfl (by kernel_rfl) (by kernel_rfl) (by kernel_rfl) (fun _ _ _ h => h) (Or.inl ⟨by kernel_rfl, ?_⟩) hHeld ?_
                          rotate_left
                          · intro wh hSw
                            go_simp
                            try with_reducible rfl
                          try simp only [Act.put, List.getElem_toArray, List.getElem_cons_zero, List.getElem_cons_succ, List.setIfInBounds_toArray, List.set_cons_zero, List.set_cons_succ]
                          refine wpAnyH_take (i := 10) rfl (by kernel_rfl) (by kernel_rfl) (by kernel_rfl) (fun _ _ _ h => h) (Or.inr ⟨by kernel_rfl, rfl⟩) hHeld ?_
                          try simp only [Act.put, List.getElem_toArray, List.getElem_cons_zero, List.getElem_cons_succ, List.setIfInBounds_toArray, List.set_cons_zero, List.set_cons_succ]
                          refine wpAnyH_take (i := 11) rfl (by kernel_rfl) (by kernel_rfl) (by kernel_rfl) (fun _ _ _ h => h) (Or.inr ⟨by kernel_rfl, rfl⟩) hHeld ?_
                          try simp only [Act.put, List.getElem_toArray, List.getElem_cons_zero, List.getElem_cons_succ, List.setIfInBounds_toArray, List.set_cons_zero, List.set_cons_succ]
                          refine wpAnyH_take (i := 12) rfl (by kernel_rfl) (by kernel_rfl) (by kernel_rfl) (fun _ _ _ h => h) (Or.inr ⟨by kernel_rfl, rfl⟩) hHeld ?_
                          try simp only [Act.put, List.getElem_toArray, List.getElem_cons_zero, List.getElem_cons_succ, List.setIfInBounds_toArray, List.set_cons_zero, List.set_cons_succ]
                          refine wpAnyH_take (i := 13) rfl (by kernel_rfl) (by kernel_rfl) (by kernel_rfl) (fun _ _ _ h => h) (Or.inr ⟨by kernel_rfl, rfl⟩) hHeld ?_
                          try simp only [Act.put, List.getElem_toArray, List.getElem_cons_zero, List.getElem_cons_succ, List.setIfInBounds_toArray, List.set_cons_zero, List.set_cons_succ]
                          refine wpAnyH_take (i := 14) rfl (by kernel_rfl) (by kernel_rfl) (by kernel_rfl) (fun _ _ _ h => h) (Or.inr ⟨by kernel_rfl, rfl⟩) hHeld ?_
                          try simp only [Act.put, List.getElem_toArray, List.getElem_cons_zero, List.getElem_cons_succ, List.setIfInBounds_toArray, List.set_cons_zero, List.set_cons_succ]
                          refine wpAnyH_take (i := 15) rfl (by kernel_rfl) (by kernel_rfl) (by kernel_rfl) (fun _ _ _ h => h) (Or.inr ⟨by kernel_rfl, rfl⟩) hHeld ?_
                          try simp only [Act.put, List.getElem_toArray, List.getElem_cons_zero, List.getElem_cons_succ, List.setIfInBounds_toArray, List.set_cons_zero, List.set_cons_succ]
                          refine wpAnyH_take (i := 16) rfl (by kernel_rfl) (by kernel_rfl) (by kernel_rfl) (fun _ _ _ h => h) (Or.inr ⟨by kernel_rfl, rfl⟩) hHeld ?_
                          try simp only [Act.put, List.getElem_toArray, List.getElem_cons_zero, List.getElem_cons_succ, List.setIfInBounds_toArray, List.set_cons_zero, List.set_cons_succ]
                          refine wpAnyH_take (i := 17) (v := ?_) rfl (by kernel_rfl) (by kernel_rfl) (by kernel_rfl) (fun _ _ _ h => h) (Or.inl ⟨by kernel_rfl, ?_⟩) hHeld ?_
                          rotate_left
                          · intro wh hSw
                            go_simp
                            try with_reducible rfl
                          try simp only [Act.put, List.getElem_toArray, List.getElem_cons_zero, List.getElem_cons_succ, List.setIfInBounds_toArray, List.set_cons_zero, List.set_cons_succ]
                          refine wpAnyH_take (i := 18) (v := ?_) rfl (by kernel_rfl) (by kernel_rfl) (by kernel_rfl) (fun _ _ _ h => h) (Or.inl ⟨by kernel_rfl, ?_⟩) hHeld ?_
                          rotate_left
                          · intro wh hSw
                            go_simp
                            try with_reducible rfl
                          try simp only [Act.put, List.getElem_toArray, List.getElem_cons_zero, List.getElem_cons_succ, List.setIfInBounds_toArray, List.set_cons_zero, List.set_cons_succ]
                          refine wpAnyH_take (i := 19) (v := ?_) rfl (by kernel_rfl) (by kernel_rfl) (by kernel_rfl) (fun _ _ _ h => h) (Or.inl ⟨by kernel_rfl, ?_⟩) hHeld ?_
                          rotate_left
                          · intro wh hSw
                            go_simp
                            try with_reducible rfl
                          try simp only [Act.put, List.getElem_toArray, List.getElem_cons_zero, List.getElem_cons_succ, List.setIfInBounds_toArray, List.set_cons_zero, List.set_cons_succ]
                          refine wpAnyH_done (by kernel_rfl) ?_ _
                          clear hHeld
                          go_wp2
                          go_roundw
                          case rel => exact ⟨false, q + 1, by omega, rfl, by go_num, hidd ⟨C9.out, hso.out.next hy'.out (fun h => (beq_eq_false_iff_ne.1 he'.out) (congrArg kOf h))⟩⟩
                          case measure => simp [intOf]; omega
                        | true =>
                          obtain ⟨f, hf⟩ : ∃ f, (y.t.2.2 == t.2.2) = f := ⟨_, rfl⟩
                          have hf' := hidd hf
                          cases f with
                          | true =>
                            go_wp2_with fail
                            refine wp_region_held_drew (S := (fun V => (loadVar 30 ⟨g, q * 4 + 1, none⟩).run Try.prog V = .ok (.agg (keyV (kOf y.t))) V ∧ (loadVar 30 ⟨bk, 0, none⟩).run Try.prog V = .ok (.agg (keyV (kOf t))) V ∧ V.cell? ⟨g, q * 4 + 3, none⟩ = some (.int .u64 y.t.2.2))) (by kernel_rfl) S9.out (fun hHeld => ?_)
                            generalize wr.drew = D at C9 S9 hHeld ⊢
                            refine wpAnyH_take (i := 0) (v := ?_) rfl (by kernel_rfl) (by kernel_rfl) (by kernel_rfl) (fun _ _ _ h => h) (Or.inl ⟨by kernel_rfl, ?_⟩) hHeld ?_
                            rotate_left
                            · intro wh hSw
                              go_simp
                              try with_reducible rfl
                            try simp only [Act.put, List.getElem_toArray, List.getElem_cons_zero, List.getElem_cons_succ, List.setIfInBounds_toArray, List.set_cons_zero, List.set_cons_succ]
                            refine wpAnyH_take (i := 1) (v := ?_) rfl (by kernel_rfl) (by kernel_rfl) (by kernel_rfl) (fun _ _ _ h => h) (Or.inl ⟨by kernel_rfl, ?_⟩) hHeld ?_
                            rotate_left
                            · intro wh hSw
                              go_simp
                              try with_reducible rfl
                            try simp only [Act.put, List.getElem_toArray, List.getElem_cons_zero, List.getElem_cons_succ, List.setIfInBounds_toArray, List.set_cons_zero, List.set_cons_succ]
                            refine wpAnyH_take (i := 2) (v := ?_) rfl (by kernel_rfl) (by kernel_rfl) (by kernel_rfl) (fun _ _ _ h => h) (Or.inl ⟨by kernel_rfl, ?_⟩) hHeld ?_
                            rotate_left
                            · intro wh hSw
                              go_simp
                              try with_reducible rfl
                            try simp only [Act.put, List.getElem_toArray, List.getElem_cons_zero, List.getElem_cons_succ, List.setIfInBounds_toArray, List.set_cons_zero, List.set_cons_succ]
                            refine wpAnyH_take (i := 3) (v := ?_) rfl (by kernel_rfl) (by kernel_rfl) (by kernel_rfl) (fun _ _ _ h => h) (Or.inl ⟨by kernel_rfl, ?_⟩) hHeld ?_
                            rotate_left
                            · intro wh hSw
                              go_simp
                              try with_reducible rfl
                            try simp only [Act.put, List.getElem_toArray, List.getElem_cons_zero, List.getElem_cons_succ, List.setIfInBounds_toArray, List.set_cons_zero, List.set_cons_succ]
                            refine wpAnyH_take (i := 4) (v := ?_) rfl (by kernel_rfl) (by kernel_rfl) (by kernel_rfl) (fun _ _ _ h => h) (Or.inl ⟨by kernel_rfl, ?_⟩) hHeld ?_
                            rotate_left
                            · intro wh hSw
                              go_simp
                              try with_reducible rfl
                            try simp only [Act.put, List.getElem_toArray, List.getElem_cons_zero, List.getElem_cons_succ, List.setIfInBounds_toArray, List.set_cons_zero, List.set_cons_succ]
                            refine wpAnyH_take (i := 5) (v := ?_) rfl (by kernel_rfl) (by kernel_rfl) (by kernel_rfl) (fun _ _ _ h => h) (Or.inl ⟨by kernel_rfl, ?_⟩) hHeld ?_
                            rotate_left
                            · intro wh hSw
                              go_simp
                              try with_reducible rfl
                            try simp only [Act.put, List.getElem_toArray, List.getElem_cons_zero, List.getElem_cons_succ, List.setIfInBounds_toArray, List.set_cons_zero, List.set_cons_succ]
                            refine wpAnyH_take (i := 6) rfl (by kernel_rfl) (by kernel_rfl) (by kernel_rfl) (fun _ _ _ h => h) (yieldsIf_load_want (by kernel_rfl) 30 _ rfl _ rfl _ (fun wh hSw => hSw.1)) hHeld ?_
                            try simp only [Act.put, List.getElem_toArray, List.getElem_cons_zero, List.getElem_cons_succ, List.setIfInBounds_toArray, List.set_cons_zero, List.set_cons_succ]
                            refine wpAnyH_take (i := 7) rfl (by kernel_rfl) (by kernel_rfl) (by kernel_rfl) (fun _ _ _ h => h) (yieldsIf_load_want (by kernel_rfl) 30 _ rfl _ rfl _ (fun wh hSw => hSw.2.1)) hHeld ?_
                            try simp only [Act.put, List.getElem_toArray, List.getElem_cons_zero, List.getElem_cons_succ, List.setIfInBounds_toArray, List.set_cons_zero, List.set_cons_succ]
                            refine wpAnyH_take (i := 8) (v := ?_) rfl (by kernel_rfl) (by kernel_rfl) (by kernel_rfl) (fun _ _ _ h => h) (Or.inl ⟨by kernel_rfl, ?_⟩) hHeld ?_
                            rotate_left
                            · intro wh hSw
                              go_simp
                              try with_reducible rfl
                            try simp only [Act.put, List.getElem_toArray, List.getElem_cons_zero, List.getElem_cons_succ, List.setIfInBounds_toArray, List.set_cons_zero, List.set_cons_succ]
                            refine wpAnyH_take (i := 9) (v := ?_) rfl (by kernel_rfl) (by kernel_rfl) (by kernel_rfl) (fun _ _ _ h => h) (Or.inl ⟨by kernel_rfl, ?_⟩) hHeld ?_
                            rotate_left
                            · intro wh hSw
                              go_simp
                              try with_reducible rfl
                            try simp only [Act.put, List.getElem_toArray, List.getElem_cons_zero, List.getElem_cons_succ, List.setIfInBounds_toArray, List.set_cons_zero, List.set_cons_succ]
                            refine wpAnyH_take (i := 10) (v := ?_) rfl (by kernel_rfl) (by kernel_rfl) (by kernel_rfl) (fun _ _ _ h => h) (Or.inl ⟨by kernel_rfl, ?_⟩) hHeld ?_
                            rotate_left
                            · intro wh hSw
                              go_simp
                              try with_reducible rfl
                            try simp only [Act.put, List.getElem_toArray, List.getElem_cons_zero, List.getElem_cons_succ, List.setIfInBounds_toArray, List.set_cons_zero, List.set_cons_succ]
                            refine wpAnyH_take (i := 11) (v := ?_) rfl (by kernel_rfl) (by kernel_rfl) (by kernel_rfl) (fun _ _ _ h => h) (Or.inl ⟨by kernel_rfl, ?_⟩) hHeld ?_
                            rotate_left
                            · intro wh hSw
                              go_simp
                              try with_reducible rfl
                            try simp only [Act.put, List.getElem_toArray, List.getElem_cons_zero, List.getElem_cons_succ, List.setIfInBounds_toArray, List.set_cons_zero, List.set_cons_succ]
                            refine wpAnyH_take (i := 12) (v := ?_) rfl (by kernel_rfl) (by kernel_rfl) (by kernel_rfl) (fun _ _ _ h => h) (Or.inl ⟨by kernel_rfl, ?_⟩) hHeld ?_
                            rotate_left
                            · intro wh hSw
                              go_simp
                              try with_reducible rfl
                            try simp only [Act.put, List.getElem_toArray, List.getElem_cons_zero, List.getElem_cons_succ, List.setIfInBounds_toArray, List.set_cons_zero, List.set_cons_succ]
                            refine wpAnyH_take (i := 13) (v := ?_) rfl (by kernel_rfl) (by kernel_rfl) (by kernel_rfl) (fun _ _ _ h => h) (Or.inl ⟨by kernel_rfl, ?_⟩) hHeld ?_
                            rotate_left
                            · intro wh hSw
                              go_simp
                              try with_reducible rfl
                            try simp only [Act.put, List.getElem_toArray, List.getElem_cons_zero, List.getElem_cons_succ, List.setIfInBounds_toArray, List.set_cons_zero, List.set_cons_succ]
                            refine wpAnyH_take (i := 14) (v := ?_) rfl (by kernel_rfl) (by kernel_rfl) (by kernel_rfl) (fun _ _ _ h => h) (Or.inl ⟨by kernel_rfl, ?_⟩) hHeld ?_
                            rotate_left
                            · intro wh hSw
                              have hcell := hSw.2.2
                              go_simp
                              try with_reducible rfl
                            try simp only [Act.put, List.getElem_toArray, List.getElem_cons_zero, List.getElem_cons_succ, List.setIfInBounds_toArray, List.set_cons_zero, List.set_cons_succ]
                            refine wpAnyH_take (i := 15) (v := ?_) rfl (by kernel_rfl) (by kernel_rfl) (by kernel_rfl) (fun _ _ _ h => h) (Or.inl ⟨by kernel_rfl, ?_⟩) hHeld ?_
                            rotate_left
                            · intro wh hSw
                              go_simp
                              try with_reducible rfl
                            try simp only [Act.put, List.getElem_toArray, List.getElem_cons_zero, List.getElem_cons_succ, List.setIfInBounds_toArray, List.set_cons_zero, List.set_cons_succ]
                            refine wpAnyH_take (i := 16) (v := ?_) rfl (by kernel_rfl) (by kernel_rfl) (by kernel_rfl) (fun _ _ _ h => h) (Or.inl ⟨by kernel_rfl, ?_⟩) hHeld ?_
                            rotate_left
                            · intro wh hSw
                              go_simp
                              try with_reducible rfl
                            try simp only [Act.put, List.getElem_toArray, List.getElem_cons_zero, List.getElem_cons_succ, List.setIfInBounds_toArray, List.set_cons_zero, List.set_cons_succ]
                            refine wpAnyH_take (i := 17) (v := ?_) rfl (by kernel_rfl) (by kernel_rfl) (by kernel_rfl) (fun _ _ _ h => h) (Or.inl ⟨by kernel_rfl, ?_⟩) hHeld ?_
                            rotate_left
                            · intro wh hSw
                              go_simp
                              try with_reducible rfl
                            try simp only [Act.put, List.getElem_toArray, List.getElem_cons_zero, List.getElem_cons_succ, List.setIfInBounds_toArray, List.set_cons_zero, List.set_cons_succ]
                            refine wpAnyH_take (i := 18) (v := ?_) rfl (by kernel_rfl) (by kernel_rfl) (by kernel_rfl) (fun _ _ _ h => h) (Or.inl ⟨by kernel_rfl, ?_⟩) hHeld ?_
                            rotate_left
                            · intro wh hSw
                              go_simp
                              try with_reducible rfl
                            try simp only [Act.put, List.getElem_toArray, List.getElem_cons_zero, List.getElem_cons_succ, List.setIfInBounds_toArray, List.set_cons_zero, List.set_cons_succ]
                            refine wpAnyH_take (i := 19) (v := ?_) rfl (by kernel_rfl) (by kernel_rfl) (by kernel_rfl) (fun _ _ _ h => h) (Or.inl ⟨by kernel_rfl, ?_⟩) hHeld ?_
                            rotate_left
                            · intro wh hSw
                              go_simp
                              try with_reducible rfl
                            try simp only [Act.put, List.getElem_toArray, List.getElem_cons_zero, List.getElem_cons_succ, List.setIfInBounds_toArray, List.set_cons_zero, List.set_cons_succ]
                            refine wpAnyH_done (by kernel_rfl) ?_ _
                            clear hHeld
                            go_wp2
                            go_roundw
                            case rel => exact ⟨true, q + 1, by omega, rfl, by go_num, hidd ⟨C9.out, IsSo.yes ws t _⟩⟩
                            case measure => simp [intOf]; omega
                          | false =>
                            go_wp2_with fail
                            refine wp_region_held_drew (S := (fun V => (loadVar 30 ⟨g, q * 4 + 1, none⟩).run Try.prog V = .ok (.agg (keyV (kOf y.t))) V ∧ (loadVar 30 ⟨bk, 0, none⟩).run Try.prog V = .ok (.agg (keyV (kOf t))) V ∧ V.cell? ⟨g, q * 4 + 3, none⟩ = some (.int .u64 y.t.2.2))) (by kernel_rfl) S9.out (fun hHeld => ?_)
                            generalize wr.drew = D at C9 S9 hHeld ⊢
                            refine wpAnyH_take (i := 0) (v := ?_) rfl (by kernel_rfl) (by kernel_rfl) (by kernel_rfl) (fun _ _ _ h => h) (Or.inl ⟨by kernel_rfl, ?_⟩) hHeld ?_
                            rotate_left
                            · intro wh hSw
                              go_simp
                              try with_reducible rfl
                            try simp only [Act.put, List.getElem_toArray, List.getElem_cons_zero, List.getElem_cons_succ, List.setIfInBounds_toArray, List.set_cons_zero, List.set_cons_succ]
                            refine wpAnyH_take (i := 1) (v := ?_) rfl (by kernel_rfl) (by kernel_rfl) (by kernel_rfl) (fun _ _ _ h => h) (Or.inl ⟨by kernel_rfl, ?_⟩) hHeld ?_
                            rotate_left
                            · intro wh hSw
                              go_simp
                              try with_reducible rfl
                            try simp only [Act.put, List.getElem_toArray, List.getElem_cons_zero, List.getElem_cons_succ, List.setIfInBounds_toArray, List.set_cons_zero, List.set_cons_succ]
                            refine wpAnyH_take (i := 2) (v := ?_) rfl (by kernel_rfl) (by kernel_rfl) (by kernel_rfl) (fun _ _ _ h => h) (Or.inl ⟨by kernel_rfl, ?_⟩) hHeld ?_
                            rotate_left
                            · intro wh hSw
                              go_simp
                              try with_reducible rfl
                            try simp only [Act.put, List.getElem_toArray, List.getElem_cons_zero, List.getElem_cons_succ, List.setIfInBounds_toArray, List.set_cons_zero, List.set_cons_succ]
                            refine wpAnyH_take (i := 3) (v := ?_) rfl (by kernel_rfl) (by kernel_rfl) (by kernel_rfl) (fun _ _ _ h => h) (Or.inl ⟨by kernel_rfl, ?_⟩) hHeld ?_
                            rotate_left
                            · intro wh hSw
                              go_simp
                              try with_reducible rfl
                            try simp only [Act.put, List.getElem_toArray, List.getElem_cons_zero, List.getElem_cons_succ, List.setIfInBounds_toArray, List.set_cons_zero, List.set_cons_succ]
                            refine wpAnyH_take (i := 4) (v := ?_) rfl (by kernel_rfl) (by kernel_rfl) (by kernel_rfl) (fun _ _ _ h => h) (Or.inl ⟨by kernel_rfl, ?_⟩) hHeld ?_
                            rotate_left
                            · intro wh hSw
                              go_simp
                              try with_reducible rfl
                            try simp only [Act.put, List.getElem_toArray, List.getElem_cons_zero, List.getElem_cons_succ, List.setIfInBounds_toArray, List.set_cons_zero, List.set_cons_succ]
                            refine wpAnyH_take (i := 5) (v := ?_) rfl (by kernel_rfl) (by kernel_rfl) (by kernel_rfl) (fun _ _ _ h => h) (Or.inl ⟨by kernel_rfl, ?_⟩) hHeld ?_
                            rotate_left
                            · intro wh hSw
                              go_simp
                              try with_reducible rfl
                            try simp only [Act.put, List.getElem_toArray, List.getElem_cons_zero, List.getElem_cons_succ, List.setIfInBounds_toArray, List.set_cons_zero, List.set_cons_succ]
                            refine wpAnyH_take (i := 6) rfl (by kernel_rfl) (by kernel_rfl) (by kernel_rfl) (fun _ _ _ h => h) (yieldsIf_load_want (by kernel_rfl) 30 _ rfl _ rfl _ (fun wh hSw => hSw.1)) hHeld ?_
                            try simp only [Act.put, List.getElem_toArray, List.getElem_cons_zero, List.getElem_cons_succ, List.setIfInBounds_toArray, List.set_cons_zero, List.set_cons_succ]
                            refine wpAnyH_take (i := 7) rfl (by kernel_rfl) (by kernel_rfl) (by kernel_rfl) (fun _ _ _ h => h) (yieldsIf_load_want (by kernel_rfl) 30 _ rfl _ rfl _ (fun wh hSw => hSw.2.1)) hHeld ?_
                            try simp only [Act.put, List.getElem_toArray, List.getElem_cons_zero, List.getElem_cons_succ, List.setIfInBounds_toArray, List.set_cons_zero, List.set_cons_succ]
                            refine wpAnyH_take (i := 8) (v := ?_) rfl (by kernel_rfl) (by kernel_rfl) (by kernel_rfl) (fun _ _ _ h => h) (Or.inl ⟨by kernel_rfl, ?_⟩) hHeld ?_
                            rotate_left
                            · intro wh hSw
                              go_simp
                              try with_reducible rfl
                            try simp only [Act.put, List.getElem_toArray, List.getElem_cons_zero, List.getElem_cons_succ, List.setIfInBounds_toArray, List.set_cons_zero, List.set_cons_succ]
                            refine wpAnyH_take (i := 9) (v := ?_) rfl (by kernel_rfl) (by kernel_rfl) (by kernel_rfl) (fun _ _ _ h => h) (Or.inl ⟨by kernel_rfl, ?_⟩) hHeld ?_
                            rotate_left
                            · intro wh hSw
                              go_simp
                              try with_reducible rfl
                            try simp only [Act.put, List.getElem_toArray, List.getElem_cons_zero, List.getElem_cons_succ, List.setIfInBounds_toArray, List.set_cons_zero, List.set_cons_succ]
                            refine wpAnyH_take (i := 10) (v := ?_) rfl (by kernel_rfl) (by kernel_rfl) (by kernel_rfl) (fun _ _ _ h => h) (Or.inl ⟨by kernel_rfl, ?_⟩) hHeld ?_
                            rotate_left
                            · intro wh hSw
                              go_simp
                              try with_reducible rfl
                            try simp only [Act.put, List.getElem_toArray, List.getElem_cons_zero, List.getElem_cons_succ, List.setIfInBounds_toArray, List.set_cons_zero, List.set_cons_succ]
                            refine wpAnyH_take (i := 11) (v := ?_) rfl (by kernel_rfl) (by kernel_rfl) (by kernel_rfl) (fun _ _ _ h => h) (Or.inl ⟨by kernel_rfl, ?_⟩) hHeld ?_
                            rotate_left
                            · intro wh hSw
                              go_simp
                              try with_reducible rfl
                            try simp only [Act.put, List.getElem_toArray, List.getElem_cons_zero, List.getElem_cons_succ, List.setIfInBounds_toArray, List.set_cons_zero, List.set_cons_succ]
                            refine wpAnyH_take (i := 12) (v := ?_) rfl (by kernel_rfl) (by kernel_rfl) (by kernel_rfl) (fun _ _ _ h => h) (Or.inl ⟨by kernel_rfl, ?_⟩) hHeld ?_
                            rotate_left
                            · intro wh hSw
                              go_simp
                              try with_reducible rfl
                            try simp only [Act.put, List.getElem_toArray, List.getElem_cons_zero, List.getElem_cons_succ, List.setIfInBounds_toArray, List.set_cons_zero, List.set_cons_succ]
                            refine wpAnyH_take (i := 13) (v := ?_) rfl (by kernel_rfl) (by kernel_rfl) (by kernel_rfl) (fun _ _ _ h => h) (Or.inl ⟨by kernel_rfl, ?_⟩) hHeld ?_
                            rotate_left
                            · intro wh hSw
                              go_simp
                              try with_reducible rfl
                            try simp only [Act.put, List.getElem_toArray, List.getElem_cons_zero, List.getElem_cons_succ, List.setIfInBounds_toArray, List.set_cons_zero, List.set_cons_succ]
                            refine wpAnyH_take (i := 14) (v := ?_) rfl (by kernel_rfl) (by kernel_rfl) (by kernel_rfl) (fun _ _ _ h => h) (Or.inl ⟨by kernel_rfl, ?_⟩) hHeld ?_
                            rotate_left
                            · intro wh hSw
                              have hcell := hSw.2.2
                              go_simp
                              try with_reducible rfl
                            try simp only [Act.put, List.getElem_toArray, List.getElem_cons_zero, List.getElem_cons_succ, List.setIfInBounds_toArray, List.set_cons_zero, List.set_cons_succ]
                            refine wpAnyH_take (i := 15) (v := ?_) rfl (by kernel_rfl) (by kernel_rfl) (by kernel_rfl) (fun _ _ _ h => h) (Or.inl ⟨by kernel_rfl, ?_⟩) hHeld ?_
                            rotate_left
                            · intro wh hSw
                              go_simp
                              try with_reducible rfl
                            try simp only [Act.put, List.getElem_toArray, List.getElem_cons_zero, List.getElem_cons_succ, List.setIfInBounds_toArray, List.set_cons_zero, List.set_cons_succ]
                            refine wpAnyH_take (i := 16) (v := ?_) rfl (by kernel_rfl) (by kernel_rfl) (by kernel_rfl) (fun _ _ _ h => h) (Or.inl ⟨by kernel_rfl, ?_⟩) hHeld ?_
                            rotate_left
                            · intro wh hSw
                              go_simp
                              try with_reducible rfl
                            try simp only [Act.put, List.getElem_toArray, List.getElem_cons_zero, List.getElem_cons_succ, List.setIfInBounds_toArray, List.set_cons_zero, List.set_cons_succ]
                            refine wpAnyH_take (i := 17) (v := ?_) rfl (by kernel_rfl) (by kernel_rfl) (by kernel_rfl) (fun _ _ _ h => h) (Or.inl ⟨by kernel_rfl, ?_⟩) hHeld ?_
                            rotate_left
                            · intro wh hSw
                              go_simp
                              try with_reducible rfl
                            try simp only [Act.put, List.getElem_toArray, List.getElem_cons_zero, List.getElem_cons_succ, List.setIfInBounds_toArray, List.set_cons_zero, List.set_cons_succ]
                            refine wpAnyH_take (i := 18) (v := ?_) rfl (by kernel_rfl) (by kernel_rfl) (by kernel_rfl) (fun _ _ _ h => h) (Or.inl ⟨by kernel_rfl, ?_⟩) hHeld ?_
                            rotate_left
                            · intro wh hSw
                              go_simp
                              try with_reducible rfl
                            try simp only [Act.put, List.getElem_toArray, List.getElem_cons_zero, List.getElem_cons_succ, List.setIfInBounds_toArray, List.set_cons_zero, List.set_cons_succ]
                            refine wpAnyH_take (i := 19) (v := ?_) rfl (by kernel_rfl) (by kernel_rfl) (by kernel_rfl) (fun _ _ _ h => h) (Or.inl ⟨by kernel_rfl, ?_⟩) hHeld ?_
                            rotate_left
                            · intro wh hSw
                              go_simp
                              try with_reducible rfl
                            try simp only [Act.put, List.getElem_toArray, List.getElem_cons_zero, List.getElem_cons_succ, List.setIfInBounds_toArray, List.set_cons_zero, List.set_cons_succ]
                            refine wpAnyH_done (by kernel_rfl) ?_ _
                            clear hHeld
                            go_wp2
                            go_roundw
                            case rel => exact ⟨false, q + 1, by omega, rfl, by go_num, hidd ⟨C9.out, hso.out.next hy'.out (fun h => (beq_eq_false_iff_ne.1 hf'.out) (by rw [h]))⟩⟩
                            case measure => simp [intOf]; omega
                    · have hqn' : q = nw := by omega
                      have hbt : b = true := by
                        have h := R.out.2
                        rw [hqn', ← hnw] at h
                        exact h.end_
                      subst hbt
                      subst hqn'
                      have C9 := hidd R.out.1
                      clear R hqn
                      have hlm : ((m'.length : Int) != (q : Int) - 1 - (k : Int)) = false := by
                        have h := S.out.2.2.len
                        have h2 := hml'
                        rw [bne_eq_false_iff_eq]; omega
                      by_cases hk0 : 0 < k
                      · have hkd : decide ((k : Int) > 0) = true := by simp; omega
                        have hbf := hidd (S.out.2.1 hk0)
                        have cw0 := (C9.out.blk (x := (bw, 32, actV was)) (by simp)).at_ (i := 0) rfl
                        have cw1 := (C9.out.blk (x := (bw, 32, actV was)) (by simp)).at_ (i := 1) rfl
                        have cw2 := (C9.out.blk (x := (bw, 32, actV was)) (by simp)).at_ (i := 2) rfl
                        have cw3 := (C9.out.blk (x := (bw, 32, actV was)) (by simp)).at_ (i := 3) rfl
                        have cx0 := (C9.out.blk (x := (bx, 32, actV ⟨0, t⟩)) (by simp)).at_ (i := 0) rfl
                        have cx1 := (C9.out.blk (x := (bx, 32, actV ⟨0, t⟩)) (by simp)).at_ (i := 1) rfl
                        have cx2 := (C9.out.blk (x := (bx, 32, actV ⟨0, t⟩)) (by simp)).at_ (i := 2) rfl
                        have cx3 := (C9.out.blk (x := (bx, 32, actV ⟨0, t⟩)) (by simp)).at_ (i := 3) rfl
                        go_wp2_with fail
                        refine (ahead_any wr was ⟨0, t⟩).mono ?_
                        rintro rr V ⟨rfl, b2⟩
                        rw [show bef was.t (⟨0, t⟩ : ActV).t = true from hbf.out]
                        clear cw0 cw1 cw2 cw3 cx0 cx1 cx2 cx3
                        have C3 := hidd (C9.out.bl b2)
                        clear b2 C9
                        go_wp2_with fail
                        refine (size_cl V C3.out).mono ?_
                        rintro rr U ⟨rfl, hU⟩
                        subst hU
                        have cx0 := (C3.out.blk (x := (bx, 32, actV ⟨0, t⟩)) (by simp)).at_ (i := 0) rfl
                        have cx1 := (C3.out.blk (x := (bx, 32, actV ⟨0, t⟩)) (by simp)).at_ (i := 1) rfl
                        have cx2 := (C3.out.blk (x := (bx, 32, actV ⟨0, t⟩)) (by simp)).at_ (i := 2) rfl
                        have cx3 := (C3.out.blk (x := (bx, 32, actV ⟨0, t⟩)) (by simp)).at_ (i := 3) rfl
                        have d0 := C3.out.blk (x := (bw, 32, actV was)) (by simp)
                        have d1 := d0.set 0 (.int .u8 0)
                        have d2 := d1.set 1 (.int .u8 t.1)
                        have d3 := d2.set 2 (.int .u64 t.2.1)
                        have d4 := d3.set 3 (.int .u64 t.2.2)
                        obtain ⟨W4, hW4⟩ : ∃ U, (((V.setCell ⟨bw, 0, none⟩ (.int .u8 0)).setCell ⟨bw, 1, none⟩ (.int .u8 t.1)).setCell ⟨bw, 2, none⟩ (.int .u64 t.2.1)).setCell ⟨bw, 3, none⟩ (.int .u64 t.2.2) = U := ⟨_, rfl⟩
                        have ca0 := (d0).at_ (i := 0) rfl
                        have ca1 := (d0).at_ (i := 1) rfl
                        have ca2 := (d0).at_ (i := 2) rfl
                        have ca3 := (d0).at_ (i := 3) rfl
                        have cb1 := d1.at_ (i := 1) rfl
                        have cc2 := d2.at_ (i := 2) rfl
                        have ce3 := d3.at_ (i := 3) rfl
                        have zf0 := d0.frozen 0
                        have zf1 := d1.frozen 1
                        have zf2 := d2.frozen 2
                        have zf3 := d3.frozen 3
                        have zg1 := d0.frozen 1
                        have zg2 := d0.frozen 2
                        have zg3 := d0.frozen 3
                        have C4 := hidd (show CL w W4 B m' ((bw, 32, actV ⟨0, t⟩) :: Y) from by
                          have c := C3.out.drop (Y := (bw, 32, actV was) :: Y) (fun x hx => List.mem_cons_of_mem _ (List.mem_cons_of_mem _ hx))
                          have hf : Fr (· = bw) V W4 := hW4 ▸ ((((Fr.refl (· = bw) V).setB _).setB _).setB _).setB _
                          exact c.put hwb hYb.out hf (hW4 ▸ d4))
                        clear d0 d1 d2 d3 d4 C3
                        go_wp2
                        go_roundw
                        case rel => exact ⟨k + 1, m', ⟨0, t⟩, by omega, by go_num, hidd ⟨C4.out, S.out.2.2⟩⟩
                        case measure => simp [intOf]; omega
                      · have hkz : k = 0 := by omega
                        subst hkz
                        have hkd : decide (((0 : Nat) : Int) > 0) = false := by decide
                        obtain ⟨V, hV⟩ : ∃ V, wr = V := ⟨_, rfl⟩
                        have C3 := hidd (show CL w V B m' ((bx, 32, actV ⟨0, t⟩) :: (bk, 30, keyV (kOf t)) :: (bw, 32, actV was) :: Y) from hV ▸ C9.out)
                        go_wp2_with fail
                        try rw [hV]
                        clear C9 hV
                        refine (size_cl V C3.out).mono ?_
                        rintro rr U ⟨rfl, hU⟩
                        subst hU
                        have cx0 := (C3.out.blk (x := (bx, 32, actV ⟨0, t⟩)) (by simp)).at_ (i := 0) rfl
                        have cx1 := (C3.out.blk (x := (bx, 32, actV ⟨0, t⟩)) (by simp)).at_ (i := 1) rfl
                        have cx2 := (C3.out.blk (x := (bx, 32, actV ⟨0, t⟩)) (by simp)).at_ (i := 2) rfl
                        have cx3 := (C3.out.blk (x := (bx, 32, actV ⟨0, t⟩)) (by simp)).at_ (i := 3) rfl
                        have d0 := C3.out.blk (x := (bw, 32, actV was)) (by simp)
                        have d1 := d0.set 0 (.int .u8 0)
                        have d2 := d1.set 1 (.int .u8 t.1)
                        have d3 := d2.set 2 (.int .u64 t.2.1)
                        have d4 := d3.set 3 (.int .u64 t.2.2)
                        obtain ⟨W4, hW4⟩ : ∃ U, (((V.setCell ⟨bw, 0, none⟩ (.int .u8 0)).setCell ⟨bw, 1, none⟩ (.int .u8 t.1)).setCell ⟨bw, 2, none⟩ (.int .u64 t.2.1)).setCell ⟨bw, 3, none⟩ (.int .u64 t.2.2) = U := ⟨_, rfl⟩
                        have ca0 := (d0).at_ (i := 0) rfl
                        have ca1 := (d0).at_ (i := 1) rfl
                        have ca2 := (d0).at_ (i := 2) rfl
                        have ca3 := (d0).at_ (i := 3) rfl
                        have cb1 := d1.at_ (i := 1) rfl
                        have cc2 := d2.at_ (i := 2) rfl
                        have ce3 := d3.at_ (i := 3) rfl
                        have zf0 := d0.frozen 0
                        have zf1 := d1.frozen 1
                        have zf2 := d2.frozen 2
                        have zf3 := d3.frozen 3
                        have zg1 := d0.frozen 1
                        have zg2 := d0.frozen 2
                        have zg3 := d0.frozen 3
                        have C4 := hidd (show CL w W4 B m' ((bw, 32, actV ⟨0, t⟩) :: Y) from by
                          have c := C3.out.drop (Y := (bw, 32, actV was) :: Y) (fun x hx => List.mem_cons_of_mem _ (List.mem_cons_of_mem _ hx))
                          have hf : Fr (· = bw) V W4 := hW4 ▸ ((((Fr.refl (· = bw) V).setB _).setB _).setB _).setB _
                          exact c.put hwb hYb.out hf (hW4 ▸ d4))
                        clear d0 d1 d2 d3 d4 C3
                        go_wp2
                        go_roundw
                        case rel => exact ⟨0 + 1, m', ⟨0, t⟩, by omega, by go_num, hidd ⟨C4.out, S.out.2.2⟩⟩
                        case measure => simp [intOf]; omega
                      skip
                · have hge : decide ((k : Int) ≥ (e0 : Int)) = true := by simp; omega
                  have hdue := hidd (s6 (by omega))
                  have hmx := hidd (C3.out.ist t (best_least s1).1).at_.2
                  clear s1 s2 s3 s4 s5 s6 R
                  go_wp2_with fail
                  refine (due_cl wr C3.out now).mono ?_
                  rintro rr V0 ⟨rfl, c⟩
                  rw [hdue.out.1] at c ⊢
                  dsimp only [nextV] at c ⊢
                  obtain ⟨bd, hbd⟩ : ∃ b, V0.heap.size = b := ⟨_, rfl⟩
                  have C5 := hidd (c.box 30 (keyV (0, 0)) hbd)
                  clear c C3
                  go_wp2_with fail
                  refine (due_cl _ C5.out 18446744073709551615).mono ?_
                  rintro rr V ⟨rfl, c⟩
                  rw [hdue.out.2 _ hmx.out] at c ⊢
                  dsimp only [nextV] at c ⊢
                  clear C5
                  have C5 := hidd (c.drop (Y := (bw, 32, actV was) :: Y) (fun x hx => List.mem_cons_of_mem _ hx))
                  clear c
                  obtain ⟨bk, hbk⟩ : ∃ b, V.heap.size = b := ⟨_, rfl⟩
                  have C6 := hidd (C5.out.box 30 (keyV (kOf t)) hbk)
                  obtain ⟨U1, hU1⟩ : ∃ U, V.alloc (.cells (keyV (kOf t)) 30) = U := ⟨_, rfl⟩
                  have hbkb := hidd (show Blk (V.alloc (.cells (keyV (kOf t)) 30)) bk 30 (keyV (kOf t)) from C6.out.blk (x := (bk, 30, keyV (kOf t))) (by simp))
                  have ck0 := (hbkb.out).at_ (i := 0) rfl
                  have ck1 := (hbkb.out).at_ (i := 1) rfl
                  have C6s := hidd (show (V.alloc (.cells (keyV (kOf t)) 30)).heap.size = bk + 1 from by rw [nblk_alloc, hbk])
                  have C7 := hidd (C6.out.box 32 (actV ⟨0, t⟩) C6s.out)
                  clear hU1 U1 C5
                  go_wp2_with fail
                  try rw [hbk]
                  obtain ⟨U2, hU2⟩ : ∃ U, (V.alloc (.cells #[.int .u8 t.1, .int .u64 t.2.1] 30)).alloc (.cells #[.int .u8 0, .int .u8 t.1, .int .u64 t.2.1, .int .u64 t.2.2] 32) = U := ⟨_, rfl⟩
                  have C8 := hidd (show CL w U2 B m' ((bk + 1, 32, actV ⟨0, t⟩) :: (bk, 30, keyV (kOf t)) :: (bw, 32, actV was) :: Y) from by rw [← hU2]; exact C7.out)
                  have hbkw : bk ≠ bw := by
                    have h1 := (C8.out.blk (x := (bk, 30, keyV (kOf t))) (by simp))
                    have h2 := (C8.out.blk (x := (bw, 32, actV was)) (by simp))
                    exact blk_ne h1 h2 (show (30 : TypeId) ≠ 32 by decide)
                  rw [hU2]
                  clear hU2 C6 C7 C6s hbkb ck0 ck1 hbk V
                  obtain ⟨bx, hbx⟩ : ∃ b, bk + 1 = b := ⟨_, rfl⟩
                  rw [hbx] at C8 ⊢
                  clear hbx
                  go_loopw [22, 23] (fun sv iv wr => ∃ (b : Bool) (q : Nat), q ≤ nw ∧ sv = .bool b ∧ iv = .int .i64 q ∧ Hid (CL w wr B m' ((bx, 32, actV ⟨0, t⟩) :: (bk, 30, keyV (kOf t)) :: (bw, 32, actV was) :: Y) ∧ IsSo ws t q b)) (fun _ iv _ => nw - (intOf iv).toNat)
                  case atStart => exact ⟨false, 0, Nat.zero_le _, rfl, rfl, hidd ⟨C8.out, IsSo.start (hall.out t S.out.1)⟩⟩
                  case round =>
                    clear C8
                    obtain ⟨b, q, hq, rfl, rfl, R⟩ := hrel
                    by_cases hqn : q < nw
                    · have hdq : decide ((q : Int) < (nw : Int)) = true := by simp; omega
                      have hqz : (q : Int) < (nw : Int) := by omega
                      obtain ⟨y, hy⟩ : ∃ y, ws[q]? = some y := ⟨_, List.getElem?_eq_getElem (by omega)⟩
                      obtain ⟨g, cs, rfl, hg, hcs⟩ := hrow'.out q y hy
                      have hy' := hidd hy
                      have hso := hidd R.out.2
                      have C9 := hidd R.out.1.draw
                      have hgb := hidd (C9.out.blk (x := (g, 32, cs)) (List.mem_cons_of_mem _ (List.mem_cons_of_mem _ (List.mem_cons_of_mem _ hg))))
                      have hkb := hidd (C9.out.blk (x := (bk, 30, keyV (kOf t))) (by simp))
                      have S9 := hidd (show (loadVar 30 ⟨g, q * 4 + 1, none⟩).run Try.prog wr.drew = .ok (.agg (keyV (kOf y.t))) wr.drew ∧ (loadVar 30 ⟨bk, 0, none⟩).run Try.prog wr.drew = .ok (.agg (keyV (kOf t))) wr.drew ∧ wr.drew.cell? ⟨g, q * 4 + 3, none⟩ = some (.int .u64 y.t.2.2) from ⟨ldKeyAt (hgb.out.at_ (hcs 1 _ rfl)) (hgb.out.at_ (hcs 2 _ rfl)), ld30 hkb.out, hgb.out.at_ (hcs 3 _ rfl)⟩)
                      clear hy R hg hcs hgb hkb
                      cases b with
                      | true =>
                        go_wp2_with fail
                        refine wp_region_held_drew (S := (fun _ => True)) (by kernel_rfl) trivial (fun hHeld => ?_)
                        generalize wr.drew = D at C9 hHeld ⊢
                        refine wpAnyH_take (i := 0) (v := ?_) rfl (by kernel_rfl) (by kernel_rfl) (by kernel_rfl) (fun _ _ _ h => h) (Or.inl ⟨by kernel_rfl, ?_⟩) hHeld ?_
                        rotate_left
                        · intro wh hSw
                          go_simp
                          try with_reducible rfl
                        try simp only [Act.put, List.getElem_toArray, List.getElem_cons_zero, List.getElem_cons_succ, List.setIfInBounds_toArray, List.set_cons_zero, List.set_cons_succ]
                        refine wpAnyH_take (i := 1) (v := ?_) rfl (by kernel_rfl) (by kernel_rfl) (by kernel_rfl) (fun _ _ _ h => h) (Or.inl ⟨by kernel_rfl, ?_⟩) hHeld ?_
                        rotate_left
                        · intro wh hSw
                          go_simp
                          try with_reducible rfl
                        try simp only [Act.put, List.getElem_toArray, List.getElem_cons_zero, List.getElem_cons_succ, List.setIfInBounds_toArray, List.set_cons_zero, List.set_cons_succ]
                        refine wpAnyH_take (i := 2) rfl (by kernel_rfl) (by kernel_rfl) (by kernel_rfl) (fun _ _ _ h => h) (Or.inr ⟨by kernel_rfl, rfl⟩) hHeld ?_
                        try simp only [Act.put, List.getElem_toArray, List.getElem_cons_zero, List.getElem_cons_succ, List.setIfInBounds_toArray, List.set_cons_zero, List.set_cons_succ]
                        refine wpAnyH_take (i := 3) rfl (by kernel_rfl) (by kernel_rfl) (by kernel_rfl) (fun _ _ _ h => h) (Or.inr ⟨by kernel_rfl, rfl⟩) hHeld ?_
                        try simp only [Act.put, List.getElem_toArray, List.getElem_cons_zero, List.getElem_cons_succ, List.setIfInBounds_toArray, List.set_cons_zero, List.set_cons_succ]
                        refine wpAnyH_take (i := 4) rfl (by kernel_rfl) (by kernel_rfl) (by kernel_rfl) (fun _ _ _ h => h) (Or.inr ⟨by kernel_rfl, rfl⟩) hHeld ?_
                        try simp only [Act.put, List.getElem_toArray, List.getElem_cons_zero, List.getElem_cons_succ, List.setIfInBounds_toArray, List.set_cons_zero, List.set_cons_succ]
                        refine wpAnyH_take (i := 5) rfl (by kernel_rfl) (by kernel_rfl) (by kernel_rfl) (fun _ _ _ h => h) (Or.inr ⟨by kernel_rfl, rfl⟩) hHeld ?_
                        try simp only [Act.put, List.getElem_toArray, List.getElem_cons_zero, List.getElem_cons_succ, List.setIfInBounds_toArray, List.set_cons_zero, List.set_cons_succ]
                        refine wpAnyH_take (i := 6) rfl (by kernel_rfl) (by kernel_rfl) (by kernel_rfl) (fun _ _ _ h => h) (Or.inr ⟨by kernel_rfl, rfl⟩) hHeld ?_
                        try simp only [Act.put, List.getElem_toArray, List.getElem_cons_zero, List.getElem_cons_succ, List.setIfInBounds_toArray, List.set_cons_zero, List.set_cons_succ]
                        refine wpAnyH_take (i := 7) rfl (by kernel_rfl) (by kernel_rfl) (by kernel_rfl) (fun _ _ _ h => h) (Or.inr ⟨by kernel_rfl, rfl⟩) hHeld ?_
                        try simp only [Act.put, List.getElem_toArray, List.getElem_cons_zero, List.getElem_cons_succ, List.setIfInBounds_toArray, List.set_cons_zero, List.set_cons_succ]
                        refine wpAnyH_take (i := 8) rfl (by kernel_rfl) (by kernel_rfl) (by kernel_rfl) (fun _ _ _ h => h) (Or.inr ⟨by kernel_rfl, rfl⟩) hHeld ?_
                        try simp only [Act.put, List.getElem_toArray, List.getElem_cons_zero, List.getElem_cons_succ, List.setIfInBounds_toArray, List.set_cons_zero, List.set_cons_succ]
                        refine wpAnyH_take (i := 9) rfl (by kernel_rfl) (by kernel_rfl) (by kernel_rfl) (fun _ _ _ h => h) (Or.inr ⟨by kernel_rfl, rfl⟩) hHeld ?_
                        try simp only [Act.put, List.getElem_toArray, List.getElem_cons_zero, List.getElem_cons_succ, List.setIfInBounds_toArray, List.set_cons_zero, List.set_cons_succ]
                        refine wpAnyH_take (i := 10) rfl (by kernel_rfl) (by kernel_rfl) (by kernel_rfl) (fun _ _ _ h => h) (Or.inr ⟨by kernel_rfl, rfl⟩) hHeld ?_
                        try simp only [Act.put, List.getElem_toArray, List.getElem_cons_zero, List.getElem_cons_succ, List.setIfInBounds_toArray, List.set_cons_zero, List.set_cons_succ]
                        refine wpAnyH_take (i := 11) rfl (by kernel_rfl) (by kernel_rfl) (by kernel_rfl) (fun _ _ _ h => h) (Or.inr ⟨by kernel_rfl, rfl⟩) hHeld ?_
                        try simp only [Act.put, List.getElem_toArray, List.getElem_cons_zero, List.getElem_cons_succ, List.setIfInBounds_toArray, List.set_cons_zero, List.set_cons_succ]
                        refine wpAnyH_take (i := 12) rfl (by kernel_rfl) (by kernel_rfl) (by kernel_rfl) (fun _ _ _ h => h) (Or.inr ⟨by kernel_rfl, rfl⟩) hHeld ?_
                        try simp only [Act.put, List.getElem_toArray, List.getElem_cons_zero, List.getElem_cons_succ, List.setIfInBounds_toArray, List.set_cons_zero, List.set_cons_succ]
                        refine wpAnyH_take (i := 13) rfl (by kernel_rfl) (by kernel_rfl) (by kernel_rfl) (fun _ _ _ h => h) (Or.inr ⟨by kernel_rfl, rfl⟩) hHeld ?_
                        try simp only [Act.put, List.getElem_toArray, List.getElem_cons_zero, List.getElem_cons_succ, List.setIfInBounds_toArray, List.set_cons_zero, List.set_cons_succ]
                        refine wpAnyH_take (i := 14) rfl (by kernel_rfl) (by kernel_rfl) (by kernel_rfl) (fun _ _ _ h => h) (Or.inr ⟨by kernel_rfl, rfl⟩) hHeld ?_
                        try simp only [Act.put, List.getElem_toArray, List.getElem_cons_zero, List.getElem_cons_succ, List.setIfInBounds_toArray, List.set_cons_zero, List.set_cons_succ]
                        refine wpAnyH_take (i := 15) rfl (by kernel_rfl) (by kernel_rfl) (by kernel_rfl) (fun _ _ _ h => h) (Or.inr ⟨by kernel_rfl, rfl⟩) hHeld ?_
                        try simp only [Act.put, List.getElem_toArray, List.getElem_cons_zero, List.getElem_cons_succ, List.setIfInBounds_toArray, List.set_cons_zero, List.set_cons_succ]
                        refine wpAnyH_take (i := 16) rfl (by kernel_rfl) (by kernel_rfl) (by kernel_rfl) (fun _ _ _ h => h) (Or.inr ⟨by kernel_rfl, rfl⟩) hHeld ?_
                        try simp only [Act.put, List.getElem_toArray, List.getElem_cons_zero, List.getElem_cons_succ, List.setIfInBounds_toArray, List.set_cons_zero, List.set_cons_succ]
                        refine wpAnyH_take (i := 17) rfl (by kernel_rfl) (by kernel_rfl) (by kernel_rfl) (fun _ _ _ h => h) (Or.inr ⟨by kernel_rfl, rfl⟩) hHeld ?_
                        try simp only [Act.put, List.getElem_toArray, List.getElem_cons_zero, List.getElem_cons_succ, List.setIfInBounds_toArray, List.set_cons_zero, List.set_cons_succ]
                        refine wpAnyH_take (i := 18) (v := ?_) rfl (by kernel_rfl) (by kernel_rfl) (by kernel_rfl) (fun _ _ _ h => h) (Or.inl ⟨by kernel_rfl, ?_⟩) hHeld ?_
                        rotate_left
                        · intro wh hSw
                          go_simp
                          try with_reducible rfl
                        try simp only [Act.put, List.getElem_toArray, List.getElem_cons_zero, List.getElem_cons_succ, List.setIfInBounds_toArray, List.set_cons_zero, List.set_cons_succ]
                        refine wpAnyH_take (i := 19) (v := ?_) rfl (by kernel_rfl) (by kernel_rfl) (by kernel_rfl) (fun _ _ _ h => h) (Or.inl ⟨by kernel_rfl, ?_⟩) hHeld ?_
                        rotate_left
                        · intro wh hSw
                          go_simp
                          try with_reducible rfl
                        try simp only [Act.put, List.getElem_toArray, List.getElem_cons_zero, List.getElem_cons_succ, List.setIfInBounds_toArray, List.set_cons_zero, List.set_cons_succ]
                        refine wpAnyH_done (by kernel_rfl) ?_ _
                        clear hHeld
                        go_wp2
                        go_roundw
                        case rel => exact ⟨true, q + 1, by omega, rfl, by go_num, hidd ⟨C9.out, IsSo.yes ws t _⟩⟩
                        case measure => simp [intOf]; omega
                      | false =>
                        obtain ⟨e, he⟩ : ∃ e, (kOf y.t == kOf t) = e := ⟨_, rfl⟩
                        have hqe : ∀ V, (Op.equalIn 10000 30 (.agg (keyV (kOf y.t))) (.agg (keyV (kOf t)))).run Try.prog V = .ok e V := fun V => he ▸ eql30 V (kOf y.t) (kOf t)
                        have he' := hidd he
                        clear he heq
                        cases e with
                        | false =>
                          go_wp2_with fail
                          refine wp_region_held_drew (S := (fun V => (loadVar 30 ⟨g, q * 4 + 1, none⟩).run Try.prog V = .ok (.agg (keyV (kOf y.t))) V ∧ (loadVar 30 ⟨bk, 0, none⟩).run Try.prog V = .ok (.agg (keyV (kOf t))) V ∧ V.cell? ⟨g, q * 4 + 3, none⟩ = some (.int .u64 y.t.2.2))) (by kernel_rfl) S9.out (fun hHeld => ?_)
                          generalize wr.drew = D at C9 S9 hHeld ⊢
                          refine wpAnyH_take (i := 0) (v := ?_) rfl (by kernel_rfl) (by kernel_rfl) (by kernel_rfl) (fun _ _ _ h => h) (Or.inl ⟨by kernel_rfl, ?_⟩) hHeld ?_
                          rotate_left
                          · intro wh hSw
                            go_simp
                            try with_reducible rfl
                          try simp only [Act.put, List.getElem_toArray, List.getElem_cons_zero, List.getElem_cons_succ, List.setIfInBounds_toArray, List.set_cons_zero, List.set_cons_succ]
                          refine wpAnyH_take (i := 1) (v := ?_) rfl (by kernel_rfl) (by kernel_rfl) (by kernel_rfl) (fun _ _ _ h => h) (Or.inl ⟨by kernel_rfl, ?_⟩) hHeld ?_
                          rotate_left
                          · intro wh hSw
                            go_simp
                            try with_reducible rfl
                          try simp only [Act.put, List.getElem_toArray, List.getElem_cons_zero, List.getElem_cons_succ, List.setIfInBounds_toArray, List.set_cons_zero, List.set_cons_succ]
                          refine wpAnyH_take (i := 2) (v := ?_) rfl (by kernel_rfl) (by kernel_rfl) (by kernel_rfl) (fun _ _ _ h => h) (Or.inl ⟨by kernel_rfl, ?_⟩) hHeld ?_
                          rotate_left
                          · intro wh hSw
                            go_simp
                            try with_reducible rfl
                          try simp only [Act.put, List.getElem_toArray, List.getElem_cons_zero, List.getElem_cons_succ, List.setIfInBounds_toArray, List.set_cons_zero, List.set_cons_succ]
                          refine wpAnyH_take (i := 3) (v := ?_) rfl (by kernel_rfl) (by kernel_rfl) (by kernel_rfl) (fun _ _ _ h => h) (Or.inl ⟨by kernel_rfl, ?_⟩) hHeld ?_
                          rotate_left
                          · intro wh hSw
                            go_simp
                            try with_reducible rfl
                          try simp only [Act.put, List.getElem_toArray, List.getElem_cons_zero, List.getElem_cons_succ, List.setIfInBounds_toArray, List.set_cons_zero, List.set_cons_succ]
                          refine wpAnyH_take (i := 4) (v := ?_) rfl (by kernel_rfl) (by kernel_rfl) (by kernel_rfl) (fun _ _ _ h => h) (Or.inl ⟨by kernel_rfl, ?_⟩) hHeld ?_
                          rotate_left
                          · intro wh hSw
                            go_simp
                            try with_reducible rfl
                          try simp only [Act.put, List.getElem_toArray, List.getElem_cons_zero, List.getElem_cons_succ, List.setIfInBounds_toArray, List.set_cons_zero, List.set_cons_succ]
                          refine wpAnyH_take (i := 5) (v := ?_) rfl (by kernel_rfl) (by kernel_rfl) (by kernel_rfl) (fun _ _ _ h => h) (Or.inl ⟨by kernel_rfl, ?_⟩) hHeld ?_
                          rotate_left
                          · intro wh hSw
                            go_simp
                            try with_reducible rfl
                          try simp only [Act.put, List.getElem_toArray, List.getElem_cons_zero, List.getElem_cons_succ, List.setIfInBounds_toArray, List.set_cons_zero, List.set_cons_succ]
                          refine wpAnyH_take (i := 6) rfl (by kernel_rfl) (by kernel_rfl) (by kernel_rfl) (fun _ _ _ h => h) (yieldsIf_load_want (by kernel_rfl) 30 _ rfl _ rfl _ (fun wh hSw => hSw.1)) hHeld ?_
                          try simp only [Act.put, List.getElem_toArray, List.getElem_cons_zero, List.getElem_cons_succ, List.setIfInBounds_toArray, List.set_cons_zero, List.set_cons_succ]
                          refine wpAnyH_take (i := 7) rfl (by kernel_rfl) (by kernel_rfl) (by kernel_rfl) (fun _ _ _ h => h) (yieldsIf_load_want (by kernel_rfl) 30 _ rfl _ rfl _ (fun wh hSw => hSw.2.1)) hHeld ?_
                          try simp only [Act.put, List.getElem_toArray, List.getElem_cons_zero, List.getElem_cons_succ, List.setIfInBounds_toArray, List.set_cons_zero, List.set_cons_succ]
                          refine wpAnyH_take (i := 8) (v := ?_) rfl (by kernel_rfl) (by kernel_rfl) (by kernel_rfl) (fun _ _ _ h => h) (Or.inl ⟨by kernel_rfl, ?_⟩) hHeld ?_
                          rotate_left
                          · intro wh hSw
                            go_simp
                            try with_reducible rfl
                          try simp only [Act.put, List.getElem_toArray, List.getElem_cons_zero, List.getElem_cons_succ, List.setIfInBounds_toArray, List.set_cons_zero, List.set_cons_succ]
                          refine wpAnyH_take (i := 9) (v := ?_) rfl (by kernel_rfl) (by kernel_rfl) (by kernel_rfl) (fun _ _ _ h => h) (Or.inl ⟨by kernel_rfl, ?_⟩) hHeld ?_
                          rotate_left
                          · intro wh hSw
                            go_simp
                            try with_reducible rfl
                          try simp only [Act.put, List.getElem_toArray, List.getElem_cons_zero, List.getElem_cons_succ, List.setIfInBounds_toArray, List.set_cons_zero, List.set_cons_succ]
                          refine wpAnyH_take (i := 10) rfl (by kernel_rfl) (by kernel_rfl) (by kernel_rfl) (fun _ _ _ h => h) (Or.inr ⟨by kernel_rfl, rfl⟩) hHeld ?_
                          try simp only [Act.put, List.getElem_toArray, List.getElem_cons_zero, List.getElem_cons_succ, List.setIfInBounds_toArray, List.set_cons_zero, List.set_cons_succ]
                          refine wpAnyH_take (i := 11) rfl (by kernel_rfl) (by kernel_rfl) (by kernel_rfl) (fun _ _ _ h => h) (Or.inr ⟨by kernel_rfl, rfl⟩) hHeld ?_
                          try simp only [Act.put, List.getElem_toArray, List.getElem_cons_zero, List.getElem_cons_succ, List.setIfInBounds_toArray, List.set_cons_zero, List.set_cons_succ]
                          refine wpAnyH_take (i := 12) rfl (by kernel_rfl) (by kernel_rfl) (by kernel_rfl) (fun _ _ _ h => h) (Or.inr ⟨by kernel_rfl, rfl⟩) hHeld ?_
                          try simp only [Act.put, List.getElem_toArray, List.getElem_cons_zero, List.getElem_cons_succ, List.setIfInBounds_toArray, List.set_cons_zero, List.set_cons_succ]
                          refine wpAnyH_take (i := 13) rfl (by kernel_rfl) (by kernel_rfl) (by kernel_rfl) (fun _ _ _ h => h) (Or.inr ⟨by kernel_rfl, rfl⟩) hHeld ?_
                          try simp only [Act.put, List.getElem_toArray, List.getElem_cons_zero, List.getElem_cons_succ, List.setIfInBounds_toArray, List.set_cons_zero, List.set_cons_succ]
                          refine wpAnyH_take (i := 14) rfl (by kernel_rfl) (by kernel_rfl) (by kernel_rfl) (fun _ _ _ h => h) (Or.inr ⟨by kernel_rfl, rfl⟩) hHeld ?_
                          try simp only [Act.put, List.getElem_toArray, List.getElem_cons_zero, List.getElem_cons_succ, List.setIfInBounds_toArray, List.set_cons_zero, List.set_cons_succ]
                          refine wpAnyH_take (i := 15) rfl (by kernel_rfl) (by kernel_rfl) (by kernel_rfl) (fun _ _ _ h => h) (Or.inr ⟨by kernel_rfl, rfl⟩) hHeld ?_
                          try simp only [Act.put, List.getElem_toArray, List.getElem_cons_zero, List.getElem_cons_succ, List.setIfInBounds_toArray, List.set_cons_zero, List.set_cons_succ]
                          refine wpAnyH_take (i := 16) rfl (by kernel_rfl) (by kernel_rfl) (by kernel_rfl) (fun _ _ _ h => h) (Or.inr ⟨by kernel_rfl, rfl⟩) hHeld ?_
                          try simp only [Act.put, List.getElem_toArray, List.getElem_cons_zero, List.getElem_cons_succ, List.setIfInBounds_toArray, List.set_cons_zero, List.set_cons_succ]
                          refine wpAnyH_take (i := 17) (v := ?_) rfl (by kernel_rfl) (by kernel_rfl) (by kernel_rfl) (fun _ _ _ h => h) (Or.inl ⟨by kernel_rfl, ?_⟩) hHeld ?_
                          rotate_left
                          · intro wh hSw
                            go_simp
                            try with_reducible rfl
                          try simp only [Act.put, List.getElem_toArray, List.getElem_cons_zero, List.getElem_cons_succ, List.setIfInBounds_toArray, List.set_cons_zero, List.set_cons_succ]
                          refine wpAnyH_take (i := 18) (v := ?_) rfl (by kernel_rfl) (by kernel_rfl) (by kernel_rfl) (fun _ _ _ h => h) (Or.inl ⟨by kernel_rfl, ?_⟩) hHeld ?_
                          rotate_left
                          · intro wh hSw
                            go_simp
                            try with_reducible rfl
                          try simp only [Act.put, List.getElem_toArray, List.getElem_cons_zero, List.getElem_cons_succ, List.setIfInBounds_toArray, List.set_cons_zero, List.set_cons_succ]
                          refine wpAnyH_take (i := 19) (v := ?_) rfl (by kernel_rfl) (by kernel_rfl) (by kernel_rfl) (fun _ _ _ h => h) (Or.inl ⟨by kernel_rfl, ?_⟩) hHeld ?_
                          rotate_left
                          · intro wh hSw
                            go_simp
                            try with_reducible rfl
                          try simp only [Act.put, List.getElem_toArray, List.getElem_cons_zero, List.getElem_cons_succ, List.setIfInBounds_toArray, List.set_cons_zero, List.set_cons_succ]
                          refine wpAnyH_done (by kernel_rfl) ?_ _
                          clear hHeld
                          go_wp2
                          go_roundw
                          case rel => exact ⟨false, q + 1, by omega, rfl, by go_num, hidd ⟨C9.out, hso.out.next hy'.out (fun h => (beq_eq_false_iff_ne.1 he'.out) (congrArg kOf h))⟩⟩
                          case measure => simp [intOf]; omega
                        | true =>
                          obtain ⟨f, hf⟩ : ∃ f, (y.t.2.2 == t.2.2) = f := ⟨_, rfl⟩
                          have hf' := hidd hf
                          cases f with
                          | true =>
                            go_wp2_with fail
                            refine wp_region_held_drew (S := (fun V => (loadVar 30 ⟨g, q * 4 + 1, none⟩).run Try.prog V = .ok (.agg (keyV (kOf y.t))) V ∧ (loadVar 30 ⟨bk, 0, none⟩).run Try.prog V = .ok (.agg (keyV (kOf t))) V ∧ V.cell? ⟨g, q * 4 + 3, none⟩ = some (.int .u64 y.t.2.2))) (by kernel_rfl) S9.out (fun hHeld => ?_)
                            generalize wr.drew = D at C9 S9 hHeld ⊢
                            refine wpAnyH_take (i := 0) (v := ?_) rfl (by kernel_rfl) (by kernel_rfl) (by kernel_rfl) (fun _ _ _ h => h) (Or.inl ⟨by kernel_rfl, ?_⟩) hHeld ?_
                            rotate_left
                            · intro wh hSw
                              go_simp
                              try with_reducible rfl
                            try simp only [Act.put, List.getElem_toArray, List.getElem_cons_zero, List.getElem_cons_succ, List.setIfInBounds_toArray, List.set_cons_zero, List.set_cons_succ]
                            refine wpAnyH_take (i := 1) (v := ?_) rfl (by kernel_rfl) (by kernel_rfl) (by kernel_rfl) (fun _ _ _ h => h) (Or.inl ⟨by kernel_rfl, ?_⟩) hHeld ?_
                            rotate_left
                            · intro wh hSw
                              go_simp
                              try with_reducible rfl
                            try simp only [Act.put, List.getElem_toArray, List.getElem_cons_zero, List.getElem_cons_succ, List.setIfInBounds_toArray, List.set_cons_zero, List.set_cons_succ]
                            refine wpAnyH_take (i := 2) (v := ?_) rfl (by kernel_rfl) (by kernel_rfl) (by kernel_rfl) (fun _ _ _ h => h) (Or.inl ⟨by kernel_rfl, ?_⟩) hHeld ?_
                            rotate_left
                            · intro wh hSw
                              go_simp
                              try with_reducible rfl
                            try simp only [Act.put, List.getElem_toArray, List.getElem_cons_zero, List.getElem_cons_succ, List.setIfInBounds_toArray, List.set_cons_zero, List.set_cons_succ]
                            refine wpAnyH_take (i := 3) (v := ?_) rfl (by kernel_rfl) (by kernel_rfl) (by kernel_rfl) (fun _ _ _ h => h) (Or.inl ⟨by kernel_rfl, ?_⟩) hHeld ?_
                            rotate_left
                            · intro wh hSw
                              go_simp
                              try with_reducible rfl
                            try simp only [Act.put, List.getElem_toArray, List.getElem_cons_zero, List.getElem_cons_succ, List.setIfInBounds_toArray, List.set_cons_zero, List.set_cons_succ]
                            refine wpAnyH_take (i := 4) (v := ?_) rfl (by kernel_rfl) (by kernel_rfl) (by kernel_rfl) (fun _ _ _ h => h) (Or.inl ⟨by kernel_rfl, ?_⟩) hHeld ?_
                            rotate_left
                            · intro wh hSw
                              go_simp
                              try with_reducible rfl
                            try simp only [Act.put, List.getElem_toArray, List.getElem_cons_zero, List.getElem_cons_succ, List.setIfInBounds_toArray, List.set_cons_zero, List.set_cons_succ]
                            refine wpAnyH_take (i := 5) (v := ?_) rfl (by kernel_rfl) (by kernel_rfl) (by kernel_rfl) (fun _ _ _ h => h) (Or.inl ⟨by kernel_rfl, ?_⟩) hHeld ?_
                            rotate_left
                            · intro wh hSw
                              go_simp
                              try with_reducible rfl
                            try simp only [Act.put, List.getElem_toArray, List.getElem_cons_zero, List.getElem_cons_succ, List.setIfInBounds_toArray, List.set_cons_zero, List.set_cons_succ]
                            refine wpAnyH_take (i := 6) rfl (by kernel_rfl) (by kernel_rfl) (by kernel_rfl) (fun _ _ _ h => h) (yieldsIf_load_want (by kernel_rfl) 30 _ rfl _ rfl _ (fun wh hSw => hSw.1)) hHeld ?_
                            try simp only [Act.put, List.getElem_toArray, List.getElem_cons_zero, List.getElem_cons_succ, List.setIfInBounds_toArray, List.set_cons_zero, List.set_cons_succ]
                            refine wpAnyH_take (i := 7) rfl (by kernel_rfl) (by kernel_rfl) (by kernel_rfl) (fun _ _ _ h => h) (yieldsIf_load_want (by kernel_rfl) 30 _ rfl _ rfl _ (fun wh hSw => hSw.2.1)) hHeld ?_
                            try simp only [Act.put, List.getElem_toArray, List.getElem_cons_zero, List.getElem_cons_succ, List.setIfInBounds_toArray, List.set_cons_zero, List.set_cons_succ]
                            refine wpAnyH_take (i := 8) (v := ?_) rfl (by kernel_rfl) (by kernel_rfl) (by kernel_rfl) (fun _ _ _ h => h) (Or.inl ⟨by kernel_rfl, ?_⟩) hHeld ?_
                            rotate_left
                            · intro wh hSw
                              go_simp
                              try with_reducible rfl
                            try simp only [Act.put, List.getElem_toArray, List.getElem_cons_zero, List.getElem_cons_succ, List.setIfInBounds_toArray, List.set_cons_zero, List.set_cons_succ]
                            refine wpAnyH_take (i := 9) (v := ?_) rfl (by kernel_rfl) (by kernel_rfl) (by kernel_rfl) (fun _ _ _ h => h) (Or.inl ⟨by kernel_rfl, ?_⟩) hHeld ?_
                            rotate_left
                            · intro wh hSw
                              go_simp
                              try with_reducible rfl
                            try simp only [Act.put, List.getElem_toArray, List.getElem_cons_zero, List.getElem_cons_succ, List.setIfInBounds_toArray, List.set_cons_zero, List.set_cons_succ]
                            refine wpAnyH_take (i := 10) (v := ?_) rfl (by kernel_rfl) (by kernel_rfl) (by kernel_rfl) (fun _ _ _ h => h) (Or.inl ⟨by kernel_rfl, ?_⟩) hHeld ?_
                            rotate_left
                            · intro wh hSw
                              go_simp
                              try with_reducible rfl
                            try simp only [Act.put, List.getElem_toArray, List.getElem_cons_zero, List.getElem_cons_succ, List.setIfInBounds_toArray, List.set_cons_zero, List.set_cons_succ]
                            refine wpAnyH_take (i := 11) (v := ?_) rfl (by kernel_rfl) (by kernel_rfl) (by kernel_rfl) (fun _ _ _ h => h) (Or.inl ⟨by kernel_rfl, ?_⟩) hHeld ?_
                            rotate_left
                            · intro wh hSw
                              go_simp
                              try with_reducible rfl
                            try simp only [Act.put, List.getElem_toArray, List.getElem_cons_zero, List.getElem_cons_succ, List.setIfInBounds_toArray, List.set_cons_zero, List.set_cons_succ]
                            refine wpAnyH_take (i := 12) (v := ?_) rfl (by kernel_rfl) (by kernel_rfl) (by kernel_rfl) (fun _ _ _ h => h) (Or.inl ⟨by kernel_rfl, ?_⟩) hHeld ?_
                            rotate_left
                            · intro wh hSw
                              go_simp
                              try with_reducible rfl
                            try simp only [Act.put, List.getElem_toArray, List.getElem_cons_zero, List.getElem_cons_succ, List.setIfInBounds_toArray, List.set_cons_zero, List.set_cons_succ]
                            refine wpAnyH_take (i := 13) (v := ?_) rfl (by kernel_rfl) (by kernel_rfl) (by kernel_rfl) (fun _ _ _ h => h) (Or.inl ⟨by kernel_rfl, ?_⟩) hHeld ?_
                            rotate_left
                            · intro wh hSw
                              go_simp
                              try with_reducible rfl
                            try simp only [Act.put, List.getElem_toArray, List.getElem_cons_zero, List.getElem_cons_succ, List.setIfInBounds_toArray, List.set_cons_zero, List.set_cons_succ]
                            refine wpAnyH_take (i := 14) (v := ?_) rfl (by kernel_rfl) (by kernel_rfl) (by kernel_rfl) (fun _ _ _ h => h) (Or.inl ⟨by kernel_rfl, ?_⟩) hHeld ?_
                            rotate_left
                            · intro wh hSw
                              have hcell := hSw.2.2
                              go_simp
                              try with_reducible rfl
                            try simp only [Act.put, List.getElem_toArray, List.getElem_cons_zero, List.getElem_cons_succ, List.setIfInBounds_toArray, List.set_cons_zero, List.set_cons_succ]
                            refine wpAnyH_take (i := 15) (v := ?_) rfl (by kernel_rfl) (by kernel_rfl) (by kernel_rfl) (fun _ _ _ h => h) (Or.inl ⟨by kernel_rfl, ?_⟩) hHeld ?_
                            rotate_left
                            · intro wh hSw
                              go_simp
                              try with_reducible rfl
                            try simp only [Act.put, List.getElem_toArray, List.getElem_cons_zero, List.getElem_cons_succ, List.setIfInBounds_toArray, List.set_cons_zero, List.set_cons_succ]
                            refine wpAnyH_take (i := 16) (v := ?_) rfl (by kernel_rfl) (by kernel_rfl) (by kernel_rfl) (fun _ _ _ h => h) (Or.inl ⟨by kernel_rfl, ?_⟩) hHeld ?_
                            rotate_left
                            · intro wh hSw
                              go_simp
                              try with_reducible rfl
                            try simp only [Act.put, List.getElem_toArray, List.getElem_cons_zero, List.getElem_cons_succ, List.setIfInBounds_toArray, List.set_cons_zero, List.set_cons_succ]
                            refine wpAnyH_take (i := 17) (v := ?_) rfl (by kernel_rfl) (by kernel_rfl) (by kernel_rfl) (fun _ _ _ h => h) (Or.inl ⟨by kernel_rfl, ?_⟩) hHeld ?_
                            rotate_left
                            · intro wh hSw
                              go_simp
                              try with_reducible rfl
                            try simp only [Act.put, List.getElem_toArray, List.getElem_cons_zero, List.getElem_cons_succ, List.setIfInBounds_toArray, List.set_cons_zero, List.set_cons_succ]
                            refine wpAnyH_take (i := 18) (v := ?_) rfl (by kernel_rfl) (by kernel_rfl) (by kernel_rfl) (fun _ _ _ h => h) (Or.inl ⟨by kernel_rfl, ?_⟩) hHeld ?_
                            rotate_left
                            · intro wh hSw
                              go_simp
                              try with_reducible rfl
                            try simp only [Act.put, List.getElem_toArray, List.getElem_cons_zero, List.getElem_cons_succ, List.setIfInBounds_toArray, List.set_cons_zero, List.set_cons_succ]
                            refine wpAnyH_take (i := 19) (v := ?_) rfl (by kernel_rfl) (by kernel_rfl) (by kernel_rfl) (fun _ _ _ h => h) (Or.inl ⟨by kernel_rfl, ?_⟩) hHeld ?_
                            rotate_left
                            · intro wh hSw
                              go_simp
                              try with_reducible rfl
                            try simp only [Act.put, List.getElem_toArray, List.getElem_cons_zero, List.getElem_cons_succ, List.setIfInBounds_toArray, List.set_cons_zero, List.set_cons_succ]
                            refine wpAnyH_done (by kernel_rfl) ?_ _
                            clear hHeld
                            go_wp2
                            go_roundw
                            case rel => exact ⟨true, q + 1, by omega, rfl, by go_num, hidd ⟨C9.out, IsSo.yes ws t _⟩⟩
                            case measure => simp [intOf]; omega
                          | false =>
                            go_wp2_with fail
                            refine wp_region_held_drew (S := (fun V => (loadVar 30 ⟨g, q * 4 + 1, none⟩).run Try.prog V = .ok (.agg (keyV (kOf y.t))) V ∧ (loadVar 30 ⟨bk, 0, none⟩).run Try.prog V = .ok (.agg (keyV (kOf t))) V ∧ V.cell? ⟨g, q * 4 + 3, none⟩ = some (.int .u64 y.t.2.2))) (by kernel_rfl) S9.out (fun hHeld => ?_)
                            generalize wr.drew = D at C9 S9 hHeld ⊢
                            refine wpAnyH_take (i := 0) (v := ?_) rfl (by kernel_rfl) (by kernel_rfl) (by kernel_rfl) (fun _ _ _ h => h) (Or.inl ⟨by kernel_rfl, ?_⟩) hHeld ?_
                            rotate_left
                            · intro wh hSw
                              go_simp
                              try with_reducible rfl
                            try simp only [Act.put, List.getElem_toArray, List.getElem_cons_zero, List.getElem_cons_succ, List.setIfInBounds_toArray, List.set_cons_zero, List.set_cons_succ]
                            refine wpAnyH_take (i := 1) (v := ?_) rfl (by kernel_rfl) (by kernel_rfl) (by kernel_rfl) (fun _ _ _ h => h) (Or.inl ⟨by kernel_rfl, ?_⟩) hHeld ?_
                            rotate_left
                            · intro wh hSw
                              go_simp
                              try with_reducible rfl
                            try simp only [Act.put, List.getElem_toArray, List.getElem_cons_zero, List.getElem_cons_succ, List.setIfInBounds_toArray, List.set_cons_zero, List.set_cons_succ]
                            refine wpAnyH_take (i := 2) (v := ?_) rfl (by kernel_rfl) (by kernel_rfl) (by kernel_rfl) (fun _ _ _ h => h) (Or.inl ⟨by kernel_rfl, ?_⟩) hHeld ?_
                            rotate_left
                            · intro wh hSw
                              go_simp
                              try with_reducible rfl
                            try simp only [Act.put, List.getElem_toArray, List.getElem_cons_zero, List.getElem_cons_succ, List.setIfInBounds_toArray, List.set_cons_zero, List.set_cons_succ]
                            refine wpAnyH_take (i := 3) (v := ?_) rfl (by kernel_rfl) (by kernel_rfl) (by kernel_rfl) (fun _ _ _ h => h) (Or.inl ⟨by kernel_rfl, ?_⟩) hHeld ?_
                            rotate_left
                            · intro wh hSw
                              go_simp
                              try with_reducible rfl
                            try simp only [Act.put, List.getElem_toArray, List.getElem_cons_zero, List.getElem_cons_succ, List.setIfInBounds_toArray, List.set_cons_zero, List.set_cons_succ]
                            refine wpAnyH_take (i := 4) (v := ?_) rfl (by kernel_rfl) (by kernel_rfl) (by kernel_rfl) (fun _ _ _ h => h) (Or.inl ⟨by kernel_rfl, ?_⟩) hHeld ?_
                            rotate_left
                            · intro wh hSw
                              go_simp
                              try with_reducible rfl
                            try simp only [Act.put, List.getElem_toArray, List.getElem_cons_zero, List.getElem_cons_succ, List.setIfInBounds_toArray, List.set_cons_zero, List.set_cons_succ]
                            refine wpAnyH_take (i := 5) (v := ?_) rfl (by kernel_rfl) (by kernel_rfl) (by kernel_rfl) (fun _ _ _ h => h) (Or.inl ⟨by kernel_rfl, ?_⟩) hHeld ?_
                            rotate_left
                            · intro wh hSw
                              go_simp
                              try with_reducible rfl
                            try simp only [Act.put, List.getElem_toArray, List.getElem_cons_zero, List.getElem_cons_succ, List.setIfInBounds_toArray, List.set_cons_zero, List.set_cons_succ]
                            refine wpAnyH_take (i := 6) rfl (by kernel_rfl) (by kernel_rfl) (by kernel_rfl) (fun _ _ _ h => h) (yieldsIf_load_want (by kernel_rfl) 30 _ rfl _ rfl _ (fun wh hSw => hSw.1)) hHeld ?_
                            try simp only [Act.put, List.getElem_toArray, List.getElem_cons_zero, List.getElem_cons_succ, List.setIfInBounds_toArray, List.set_cons_zero, List.set_cons_succ]
                            refine wpAnyH_take (i := 7) rfl (by kernel_rfl) (by kernel_rfl) (by kernel_rfl) (fun _ _ _ h => h) (yieldsIf_load_want (by kernel_rfl) 30 _ rfl _ rfl _ (fun wh hSw => hSw.2.1)) hHeld ?_
                            try simp only [Act.put, List.getElem_toArray, List.getElem_cons_zero, List.getElem_cons_succ, List.setIfInBounds_toArray, List.set_cons_zero, List.set_cons_succ]
                            refine wpAnyH_take (i := 8) (v := ?_) rfl (by kernel_rfl) (by kernel_rfl) (by kernel_rfl) (fun _ _ _ h => h) (Or.inl ⟨by kernel_rfl, ?_⟩) hHeld ?_
                            rotate_left
                            · intro wh hSw
                              go_simp
                              try with_reducible rfl
                            try simp only [Act.put, List.getElem_toArray, List.getElem_cons_zero, List.getElem_cons_succ, List.setIfInBounds_toArray, List.set_cons_zero, List.set_cons_succ]
                            refine wpAnyH_take (i := 9) (v := ?_) rfl (by kernel_rfl) (by kernel_rfl) (by kernel_rfl) (fun _ _ _ h => h) (Or.inl ⟨by kernel_rfl, ?_⟩) hHeld ?_
                            rotate_left
                            · intro wh hSw
                              go_simp
                              try with_reducible rfl
                            try simp only [Act.put, List.getElem_toArray, List.getElem_cons_zero, List.getElem_cons_succ, List.setIfInBounds_toArray, List.set_cons_zero, List.set_cons_succ]
                            refine wpAnyH_take (i := 10) (v := ?_) rfl (by kernel_rfl) (by kernel_rfl) (by kernel_rfl) (fun _ _ _ h => h) (Or.inl ⟨by kernel_rfl, ?_⟩) hHeld ?_
                            rotate_left
                            · intro wh hSw
                              go_simp
                              try with_reducible rfl
                            try simp only [Act.put, List.getElem_toArray, List.getElem_cons_zero, List.getElem_cons_succ, List.setIfInBounds_toArray, List.set_cons_zero, List.set_cons_succ]
                            refine wpAnyH_take (i := 11) (v := ?_) rfl (by kernel_rfl) (by kernel_rfl) (by kernel_rfl) (fun _ _ _ h => h) (Or.inl ⟨by kernel_rfl, ?_⟩) hHeld ?_
                            rotate_left
                            · intro wh hSw
                              go_simp
                              try with_reducible rfl
                            try simp only [Act.put, List.getElem_toArray, List.getElem_cons_zero, List.getElem_cons_succ, List.setIfInBounds_toArray, List.set_cons_zero, List.set_cons_succ]
                            refine wpAnyH_take (i := 12) (v := ?_) rfl (by kernel_rfl) (by kernel_rfl) (by kernel_rfl) (fun _ _ _ h => h) (Or.inl ⟨by kernel_rfl, ?_⟩) hHeld ?_
                            rotate_left
                            · intro wh hSw
                              go_simp
                              try with_reducible rfl
                            try simp only [Act.put, List.getElem_toArray, List.getElem_cons_zero, List.getElem_cons_succ, List.setIfInBounds_toArray, List.set_cons_zero, List.set_cons_succ]
                            refine wpAnyH_take (i := 13) (v := ?_) rfl (by kernel_rfl) (by kernel_rfl) (by kernel_rfl) (fun _ _ _ h => h) (Or.inl ⟨by kernel_rfl, ?_⟩) hHeld ?_
                            rotate_left
                            · intro wh hSw
                              go_simp
                              try with_reducible rfl
                            try simp only [Act.put, List.getElem_toArray, List.getElem_cons_zero, List.getElem_cons_succ, List.setIfInBounds_toArray, List.set_cons_zero, List.set_cons_succ]
                            refine wpAnyH_take (i := 14) (v := ?_) rfl (by kernel_rfl) (by kernel_rfl) (by kernel_rfl) (fun _ _ _ h => h) (Or.inl ⟨by kernel_rfl, ?_⟩) hHeld ?_
                            rotate_left
                            · intro wh hSw
                              have hcell := hSw.2.2
                              go_simp
                              try with_reducible rfl
                            try simp only [Act.put, List.getElem_toArray, List.getElem_cons_zero, List.getElem_cons_succ, List.setIfInBounds_toArray, List.set_cons_zero, List.set_cons_succ]
                            refine wpAnyH_take (i := 15) (v := ?_) rfl (by kernel_rfl) (by kernel_rfl) (by kernel_rfl) (fun _ _ _ h => h) (Or.inl ⟨by kernel_rfl, ?_⟩) hHeld ?_
                            rotate_left
                            · intro wh hSw
                              go_simp
                              try with_reducible rfl
                            try simp only [Act.put, List.getElem_toArray, List.getElem_cons_zero, List.getElem_cons_succ, List.setIfInBounds_toArray, List.set_cons_zero, List.set_cons_succ]
                            refine wpAnyH_take (i := 16) (v := ?_) rfl (by kernel_rfl) (by kernel_rfl) (by kernel_rfl) (fun _ _ _ h => h) (Or.inl ⟨by kernel_rfl, ?_⟩) hHeld ?_
                            rotate_left
                            · intro wh hSw
                              go_simp
                              try with_reducible rfl
                            try simp only [Act.put, List.getElem_toArray, List.getElem_cons_zero, List.getElem_cons_succ, List.setIfInBounds_toArray, List.set_cons_zero, List.set_cons_succ]
                            refine wpAnyH_take (i := 17) (v := ?_) rfl (by kernel_rfl) (by kernel_rfl) (by kernel_rfl) (fun _ _ _ h => h) (Or.inl ⟨by kernel_rfl, ?_⟩) hHeld ?_
                            rotate_left
                            · intro wh hSw
                              go_simp
                              try with_reducible rfl
                            try simp only [Act.put, List.getElem_toArray, List.getElem_cons_zero, List.getElem_cons_succ, List.setIfInBounds_toArray, List.set_cons_zero, List.set_cons_succ]
                            refine wpAnyH_take (i := 18) (v := ?_) rfl (by kernel_rfl) (by kernel_rfl) (by kernel_rfl) (fun _ _ _ h => h) (Or.inl ⟨by kernel_rfl, ?_⟩) hHeld ?_
                            rotate_left
                            · intro wh hSw
                              go_simp
                              try with_reducible rfl
                            try simp only [Act.put, List.getElem_toArray, List.getElem_cons_zero, List.getElem_cons_succ, List.setIfInBounds_toArray, List.set_cons_zero, List.set_cons_succ]
                            refine wpAnyH_take (i := 19) (v := ?_) rfl (by kernel_rfl) (by kernel_rfl) (by kernel_rfl) (fun _ _ _ h => h) (Or.inl ⟨by kernel_rfl, ?_⟩) hHeld ?_
                            rotate_left
                            · intro wh hSw
                              go_simp
                              try with_reducible rfl
                            try simp only [Act.put, List.getElem_toArray, List.getElem_cons_zero, List.getElem_cons_succ, List.setIfInBounds_toArray, List.set_cons_zero, List.set_cons_succ]
                            refine wpAnyH_done (by kernel_rfl) ?_ _
                            clear hHeld
                            go_wp2
                            go_roundw
                            case rel => exact ⟨false, q + 1, by omega, rfl, by go_num, hidd ⟨C9.out, hso.out.next hy'.out (fun h => (beq_eq_false_iff_ne.1 hf'.out) (by rw [h]))⟩⟩
                            case measure => simp [intOf]; omega
                    · have hqn' : q = nw := by omega
                      have hbt : b = true := by
                        have h := R.out.2
                        rw [hqn', ← hnw] at h
                        exact h.end_
                      subst hbt
                      subst hqn'
                      have C9 := hidd R.out.1
                      clear R hqn
                      have hlm : ((m'.length : Int) != (q : Int) - 1 - (k : Int)) = false := by
                        have h := S.out.2.2.len
                        have h2 := hml'
                        rw [bne_eq_false_iff_eq]; omega
                      by_cases hk0 : 0 < k
                      · have hkd : decide ((k : Int) > 0) = true := by simp; omega
                        have hbf := hidd (S.out.2.1 hk0)
                        have cw0 := (C9.out.blk (x := (bw, 32, actV was)) (by simp)).at_ (i := 0) rfl
                        have cw1 := (C9.out.blk (x := (bw, 32, actV was)) (by simp)).at_ (i := 1) rfl
                        have cw2 := (C9.out.blk (x := (bw, 32, actV was)) (by simp)).at_ (i := 2) rfl
                        have cw3 := (C9.out.blk (x := (bw, 32, actV was)) (by simp)).at_ (i := 3) rfl
                        have cx0 := (C9.out.blk (x := (bx, 32, actV ⟨0, t⟩)) (by simp)).at_ (i := 0) rfl
                        have cx1 := (C9.out.blk (x := (bx, 32, actV ⟨0, t⟩)) (by simp)).at_ (i := 1) rfl
                        have cx2 := (C9.out.blk (x := (bx, 32, actV ⟨0, t⟩)) (by simp)).at_ (i := 2) rfl
                        have cx3 := (C9.out.blk (x := (bx, 32, actV ⟨0, t⟩)) (by simp)).at_ (i := 3) rfl
                        go_wp2_with fail
                        refine (ahead_any wr was ⟨0, t⟩).mono ?_
                        rintro rr V ⟨rfl, b2⟩
                        rw [show bef was.t (⟨0, t⟩ : ActV).t = true from hbf.out]
                        clear cw0 cw1 cw2 cw3 cx0 cx1 cx2 cx3
                        have C3 := hidd (C9.out.bl b2)
                        clear b2 C9
                        go_wp2_with fail
                        refine (size_cl V C3.out).mono ?_
                        rintro rr U ⟨rfl, hU⟩
                        subst hU
                        have cx0 := (C3.out.blk (x := (bx, 32, actV ⟨0, t⟩)) (by simp)).at_ (i := 0) rfl
                        have cx1 := (C3.out.blk (x := (bx, 32, actV ⟨0, t⟩)) (by simp)).at_ (i := 1) rfl
                        have cx2 := (C3.out.blk (x := (bx, 32, actV ⟨0, t⟩)) (by simp)).at_ (i := 2) rfl
                        have cx3 := (C3.out.blk (x := (bx, 32, actV ⟨0, t⟩)) (by simp)).at_ (i := 3) rfl
                        have d0 := C3.out.blk (x := (bw, 32, actV was)) (by simp)
                        have d1 := d0.set 0 (.int .u8 0)
                        have d2 := d1.set 1 (.int .u8 t.1)
                        have d3 := d2.set 2 (.int .u64 t.2.1)
                        have d4 := d3.set 3 (.int .u64 t.2.2)
                        obtain ⟨W4, hW4⟩ : ∃ U, (((V.setCell ⟨bw, 0, none⟩ (.int .u8 0)).setCell ⟨bw, 1, none⟩ (.int .u8 t.1)).setCell ⟨bw, 2, none⟩ (.int .u64 t.2.1)).setCell ⟨bw, 3, none⟩ (.int .u64 t.2.2) = U := ⟨_, rfl⟩
                        have ca0 := (d0).at_ (i := 0) rfl
                        have ca1 := (d0).at_ (i := 1) rfl
                        have ca2 := (d0).at_ (i := 2) rfl
                        have ca3 := (d0).at_ (i := 3) rfl
                        have cb1 := d1.at_ (i := 1) rfl
                        have cc2 := d2.at_ (i := 2) rfl
                        have ce3 := d3.at_ (i := 3) rfl
                        have zf0 := d0.frozen 0
                        have zf1 := d1.frozen 1
                        have zf2 := d2.frozen 2
                        have zf3 := d3.frozen 3
                        have zg1 := d0.frozen 1
                        have zg2 := d0.frozen 2
                        have zg3 := d0.frozen 3
                        have C4 := hidd (show CL w W4 B m' ((bw, 32, actV ⟨0, t⟩) :: Y) from by
                          have c := C3.out.drop (Y := (bw, 32, actV was) :: Y) (fun x hx => List.mem_cons_of_mem _ (List.mem_cons_of_mem _ hx))
                          have hf : Fr (· = bw) V W4 := hW4 ▸ ((((Fr.refl (· = bw) V).setB _).setB _).setB _).setB _
                          exact c.put hwb hYb.out hf (hW4 ▸ d4))
                        clear d0 d1 d2 d3 d4 C3
                        go_wp2
                        go_roundw
                        case rel => exact ⟨k + 1, m', ⟨0, t⟩, by omega, by go_num, hidd ⟨C4.out, S.out.2.2⟩⟩
                        case measure => simp [intOf]; omega
                      · have hkz : k = 0 := by omega
                        subst hkz
                        have hkd : decide (((0 : Nat) : Int) > 0) = false := by decide
                        obtain ⟨V, hV⟩ : ∃ V, wr = V := ⟨_, rfl⟩
                        have C3 := hidd (show CL w V B m' ((bx, 32, actV ⟨0, t⟩) :: (bk, 30, keyV (kOf t)) :: (bw, 32, actV was) :: Y) from hV ▸ C9.out)
                        go_wp2_with fail
                        try rw [hV]
                        clear C9 hV
                        refine (size_cl V C3.out).mono ?_
                        rintro rr U ⟨rfl, hU⟩
                        subst hU
                        have cx0 := (C3.out.blk (x := (bx, 32, actV ⟨0, t⟩)) (by simp)).at_ (i := 0) rfl
                        have cx1 := (C3.out.blk (x := (bx, 32, actV ⟨0, t⟩)) (by simp)).at_ (i := 1) rfl
                        have cx2 := (C3.out.blk (x := (bx, 32, actV ⟨0, t⟩)) (by simp)).at_ (i := 2) rfl
                        have cx3 := (C3.out.blk (x := (bx, 32, actV ⟨0, t⟩)) (by simp)).at_ (i := 3) rfl
                        have d0 := C3.out.blk (x := (bw, 32, actV was)) (by simp)
                        have d1 := d0.set 0 (.int .u8 0)
                        have d2 := d1.set 1 (.int .u8 t.1)
                        have d3 := d2.set 2 (.int .u64 t.2.1)
                        have d4 := d3.set 3 (.int .u64 t.2.2)
                        obtain ⟨W4, hW4⟩ : ∃ U, (((V.setCell ⟨bw, 0, none⟩ (.int .u8 0)).setCell ⟨bw, 1, none⟩ (.int .u8 t.1)).setCell ⟨bw, 2, none⟩ (.int .u64 t.2.1)).setCell ⟨bw, 3, none⟩ (.int .u64 t.2.2) = U := ⟨_, rfl⟩
                        have ca0 := (d0).at_ (i := 0) rfl
                        have ca1 := (d0).at_ (i := 1) rfl
                        have ca2 := (d0).at_ (i := 2) rfl
                        have ca3 := (d0).at_ (i := 3) rfl
                        have cb1 := d1.at_ (i := 1) rfl
                        have cc2 := d2.at_ (i := 2) rfl
                        have ce3 := d3.at_ (i := 3) rfl
                        have zf0 := d0.frozen 0
                        have zf1 := d1.frozen 1
                        have zf2 := d2.frozen 2
                        have zf3 := d3.frozen 3
                        have zg1 := d0.frozen 1
                        have zg2 := d0.frozen 2
                        have zg3 := d0.frozen 3
                        have C4 := hidd (show CL w W4 B m' ((bw, 32, actV ⟨0, t⟩) :: Y) from by
                          have c := C3.out.drop (Y := (bw, 32, actV was) :: Y) (fun x hx => List.mem_cons_of_mem _ (List.mem_cons_of_mem _ hx))
                          have hf : Fr (· = bw) V W4 := hW4 ▸ ((((Fr.refl (· = bw) V).setB _).setB _).setB _).setB _
                          exact c.put hwb hYb.out hf (hW4 ▸ d4))
                        clear d0 d1 d2 d3 d4 C3
                        go_wp2
                        go_roundw
                        case rel => exact ⟨0 + 1, m', ⟨0, t⟩, by omega, by go_num, hidd ⟨C4.out, S.out.2.2⟩⟩
                        case measure => simp [intOf]; omega
                      skip
              · have hkn' : k = nw := by omega
                subst hkn'
                have hm0' : m = [] := by
                  have := R.out.2.len
                  cases m with
                  | nil => rfl
                  | cons a m => simp at this; omega
                subst hm0'
                have C3 := hidd R.out.1
                clear R
                go_wp2_with fail
                refine (next_cl wr C3.out).mono ?_
                rintro rr V ⟨rfl, c⟩
                have C5 := hidd c
                clear c C3
                have hne : nextV (bestM []) = .tuple #[.agg (keyV (0, 0)), .int .u64 0, .bool false] := rfl
                rw [hne]
                obtain ⟨bl, hbl⟩ : ∃ b, V.heap.size = b := ⟨_, rfl⟩
                have C6 := hidd (C5.out.box 30 (keyV (0, 0)) hbl)
                clear C5
                go_wp2_with fail
                refine (lives_any _).mono ?_
                rintro rr V2 ⟨rfl, hb2⟩
                go_wp2
                go_ret
                exact ⟨rfl, C6.out.bel.trans (hb2.mono C6.out.bel.size)⟩

set_option maxRecDepth 100000 in
theorem liftedTimersOrder (os : Os) (started : os.Started) (H : Type) (enc : TypeId × Value → H) :
    ReturnsInHanded {} Try.checked os 3 .any (Rows.timersOrderSpec.pre6 enc Try.prog Try.f3 Rows.timersOrderRow.domain false) (Rows.timersOrderSpec.post enc Try.prog Try.f3 false true false false) := by
  refine returnsInHanded_of_change_sized (C := Try.checked) own started (by kernel_rfl) Try.func3
    (ChangeSpec.witness6 (enc := enc) (C := Try.checked) false ⟨#[], #[.slice none 0 0, .int .u64 0], []⟩ 8 (by kernel_rfl) (by kernel_rfl) (by kernel_rfl) (by kernel_rfl)) ?_
  intro W base args ds gs before hval0 hW hcnd hsz0 _
  have hval : ∀ (j : Nat) t v, Try.f3.params[j]? = some t → args[j]? = some v → Value.okWide Try.prog W .any base t v := hval0
  have hW' := hW
  obtain ⟨p, q, hA0, hV, rfl, hfz, hnd⟩ := hW
  have hA : DataW.TrodAll enc Try.prog W 0 (fun _ => true) true Try.f3.params.toList args.toList ds p := hA0
  have hsz : (DataW.weightsEach Try.prog (Try.f3.params.toList ++ Rows.timersOrderSpec.plain.varTypes Try.prog) (ds ++ gs)).all (· ≤ reachBytes) = true := hsz0
  rw [Try.params3] at hA hval hsz
  obtain ⟨v0, vs0, d0, ds0, p0, q0, hargs, rfl, rfl, h0, r0⟩ := trodAll_cons hA
  obtain ⟨v1, vs1, d1, ds1, p1, q1, rfl, rfl, rfl, h1, r1⟩ := trodAll_cons r0
  obtain ⟨rfl, rfl, rfl⟩ := trodAll_nil r1
  obtain rfl : args = #[v0, v1] := by cases args; simp_all
  obtain ⟨rfl, rfl⟩ := trodVars_none hV
  have k0 := h0
  have lt0 : ∀ x ∈ p0, x.block < W.heap.size := by obtain ⟨m, hm⟩ := k0; exact DataW.trod_lt m _ _ _ hm
  have fit0 : Fit Try.prog 22 d0 := fun m hm => by simpa using List.all_eq_true.1 hsz _ (DataW.weights_mem_each (j := 0) (t := 22) rfl rfl m hm)
  obtain ⟨A0, n0, c0, z0, ev0, w0⟩ := open_acts (hval 0 22 v0 rfl rfl) h0 fit0
  subst ev0
  have k1 := h1
  have lt1 : ∀ x ∈ p1, x.block < W.heap.size := by obtain ⟨m, hm⟩ := k1; exact DataW.trod_lt m _ _ _ hm
  have fit1 : Fit Try.prog 23 d1 := fun m hm => by simpa using List.all_eq_true.1 hsz _ (DataW.weights_mem_each (j := 1) (t := 23) rfl rfl m hm)
  obtain ⟨a1, rfl, _, _, w1⟩ := open_int Try.underlying23 (hval 1 23 v1 rfl rfl) h1
  clear hA0 hval0
  refine (walkTimersOrder A0 n0 c0 z0 a1 W w0 w1).mono fun e W' ⟨he, bel⟩ => ?_
  subst he
  exact ⟨_, rfl, _, _, _, [], _, [], hW', trodAll_mk1 (shut_bool Try.underlying4 _), (trodAll_cons_mk (Below.trod laidOut (by kernel_rfl) (of_decide_eq_true (by kernel_rfl)) k0 bel lt0) (trodAll_cons_mk (Below.trod laidOut (by kernel_rfl) (of_decide_eq_true (by kernel_rfl)) k1 bel lt1) trodAll_mk0)), rfl, bel.frame _, fun h => by cases h⟩

/-- THE STATEMENT: 'TimersOrder'. -/
theorem timersOrder_holds : Rows.TimersOrderSaid :=
  OpenClaim.holds_of_wide 3 Try.f3 rfl rfl rfl rfl rfl rfl rfl ⟨rfl, rfl, rfl, rfl, rfl⟩ rfl rfl rfl rfl rfl (by kernel_rfl) Try.func3 (by kernel_rfl)
    (of_decide_eq_true (by kernel_rfl)) (by unfold Func.isWrapper; first | (rw [if_pos (by decide +kernel)]; kernel_rfl) | (rw [if_neg (by decide +kernel)]; exact ⟨rfl, rfl⟩))
    (fun os started H enc _ => liftedTimersOrder os started H enc)

end Go.Proofs.Ytepenfgoejhofaa
