/- A pointer put ahead of a row: slices.Insert at 0, walked once. No condition. -/
import Derived.Test.YtpjjcihhmhccfaaPtr
import Derived.Shelf.Spec.SlicesInsertGrow
namespace Go.Proofs.Ytpjjcihhmhccfaa
open Go.ChangeShapes Go.WideShapes Go.ChangeAt Go.RowKit Go.Deep
set_option linter.unusedVariables false
set_option linter.unusedSimpArgs false

theorem flatP_eq (xs : List Nat) : flatP xs = xs.map ptr := by
  induction xs with
  | nil => rfl
  | cons x xs ih =>
    show encP x ++ flatP xs = _
    rw [ih]; rfl
theorem flatP_len (xs : List Nat) : (flatP xs).length = xs.length := by rw [flatP_eq, List.length_map]
/-- A row, known by its block. -/
theorem own_blk {w : World} {base e n c g : Nat} {xs : List Value} (h : w.ownsRow base e 1 (.slice (some ⟨g, 0, none⟩) n c) n xs) : ∃ cur, Blk w g e cur ∧ base ≤ g ∧ n ≤ c ∧ c ≤ maxLen ∧ cur.size = c ∧ cur.toList.take n = xs := by
  rcases h.2 with ⟨h', _⟩ | ⟨g', cap', cur, h', hb, hg, hnc, hcm, hcs, htake⟩
  · simp at h'
  · simp only [Value.slice.injEq, Option.some.injEq, Addr.mk.injEq, and_true, true_and] at h'
    obtain ⟨rfl, rfl⟩ := h'
    exact ⟨cur, hg, hb, hnc, hcm, by rw [hcs, Nat.mul_one], by rw [← htake, Nat.mul_one]⟩
theorem rd_ptr {w : World} {vb x : Nat} (hb : Blk w vb 61 #[ptr x]) : Rd w w.heap.size 1 (some ⟨vb, 0, none⟩) 1 1 [ptr x] :=
  ⟨rfl, Nat.le_refl _, by decide, (fun e => by cases e), fun _ => ⟨vb, 0, rfl, hb.lt, fun j u hu => hb.at_ (by rw [Nat.zero_add]; simpa using hu)⟩⟩
theorem over_take {cur : Array Value} {cs : List Value} {u : Value} {n : Nat} (hn : cs.length = n) (hs : n + 1 ≤ cur.size) : (over (over cur 1 cs) 0 [u]).toList.take (n + 1) = u :: cs := by
  subst hn
  apply List.ext_getElem?
  intro j
  rcases Nat.lt_or_ge j (cs.length + 1) with hj | hj
  · rw [List.getElem?_take_of_lt hj, Array.getElem?_toList]
    cases j with
    | zero => exact over_in [u] (over cur 1 cs) 0 0 u rfl (by rw [over_size]; simp; omega)
    | succ j =>
      rw [over_out [u] _ 0 (j + 1) (.inr (by simp)), List.getElem?_cons_succ, List.getElem?_eq_getElem (by omega), Nat.add_comm j 1]
      exact over_in cs cur 1 j _ (List.getElem?_eq_getElem (by omega)) (by omega)
  · rw [List.getElem?_eq_none (by rw [List.length_take]; omega), List.getElem?_eq_none (by simp; omega)]
theorem over_take2 {cur : Array Value} {cs : List Value} {u : Value} {n : Nat} (hn : cs.length = n) (hs : n + 1 ≤ cur.size) : (over (over cur 0 [u]) 1 cs).toList.take (n + 1) = u :: cs := by
  subst hn
  apply List.ext_getElem?
  intro j
  rcases Nat.lt_or_ge j (cs.length + 1) with hj | hj
  · rw [List.getElem?_take_of_lt hj, Array.getElem?_toList]
    cases j with
    | zero => rw [over_out cs _ 1 0 (.inl (by omega))]; exact over_in [u] cur 0 0 u rfl (by simp; omega)
    | succ j =>
      rw [List.getElem?_cons_succ, List.getElem?_eq_getElem (by omega), Nat.add_comm j 1]
      exact over_in cs _ 1 j _ (List.getElem?_eq_getElem (by omega)) (by rw [over_size]; omega)
  · rw [List.getElem?_eq_none (by rw [List.length_take]; omega), List.getElem?_eq_none (by simp; omega)]
/-- What is new only: nothing that was there is turned. -/
theorem fr_own {w W : World} {s : Nat} {S : Nat → Prop} (h : Fr (fun k => s ≤ k) w W) (hs : w.heap.size ≤ s) : Fr S w W := ⟨h.os, h.tape, h.output, h.size, fun k hk _ => h.block k hk (by omega)⟩
def InsSays (w : World) (base : Nat) (v : Value) (n x : Nat) (xs : List Nat) (e : Ending) (w' : World) : Prop :=
  ∃ v', e = .returned v' ∧ w'.ownsRow base 61 1 v' (n + 1) (flatP (x :: xs)) ∧ Fr (fun k => v.ownBlock = some k) w w' ∧ ∀ k, v'.ownBlock = some k → v.ownBlock = some k ∨ w.heap.size ≤ k
set_option maxRecDepth 100000 in
theorem insert_nil (w : World) (base : Nat) (A : Option Addr) (c x vb : Nat) (h : w.ownsRow base 61 1 (.slice A 0 c) 0 []) (hb : Blk w vb 61 #[ptr x]) (hbase : base ≤ w.heap.size) :
    Calls Try.prog 36 #[.slice A 0 c, .int .i64 0, .slice (some ⟨vb, 0, none⟩) 1 1] w (InsSays w base (.slice A 0 c) 0 x []) := by
  have hcm := (Rd.of_own h).cmax
  have hr := hidd (rd_ptr hb)
  have ho := hidd h
  unfold maxLen at hcm
  clear h hb
  go_enter Try.func36, Try.ntmps36
  go_wp2_with (at_builtin
               refine wpList_append_rd (v := .slice A 0 c) w rfl (.tmp 23) (.tmp 24) slTy rfl rfl ho.out rfl hr.out (by intro u hu; simp at hu; subst hu; rfl) (by unfold maxLen; omega) (by omega) hbase ?_
               intro v5 w5 o5 g5 t5 l5
               clear l5
               have F := hidd (Fr.of_grown g5)
               have o6 := hidd o5
               have t6 := hidd t5
               clear o5 g5 t5 ho hr)
  go_ret
  refine ⟨v5, rfl, ?_, F.out, fun k hk => ?_⟩
  · have := o6.out
    rwa [Nat.zero_add, List.nil_append] at this
  · rcases t6.out with e | e
    · rw [e] at hk; exact .inl hk
    · rw [e] at hk; injection hk with hk; exact .inr (by omega)
theorem size61 : (Try.prog.info? 61).map (·.size) = some 1 := by kernel_rfl
set_option maxRecDepth 100000 in
set_option maxHeartbeats 1000000 in
theorem insert_room (w : World) (base g n c x vb : Nat) (xs : List Nat) (h : w.ownsRow base 61 1 (.slice (some ⟨g, 0, none⟩) n c) n (flatP xs)) (hn : 0 < n) (hc : n + 1 ≤ c) (hb : Blk w vb 61 #[ptr x]) (hvg : vb ≠ g) :
    Calls Try.prog 36 #[.slice (some ⟨g, 0, none⟩) n c, .int .i64 0, .slice (some ⟨vb, 0, none⟩) 1 1] w (InsSays w base (.slice (some ⟨g, 0, none⟩) n c) n x xs) := by
  obtain ⟨cur, hg, hbg, hnc, hcm, hcs, htake⟩ := own_blk h
  have hl : xs.length = n := by have := h.1; rw [flatP_len] at this; omega
  obtain ⟨cs, hcse⟩ : ∃ cs, flatP xs = cs := ⟨_, rfl⟩
  rw [hcse] at htake
  have hcl : cs.length = n := by rw [← hcse, flatP_len, hl]
  have h1c : ∀ v ∈ cs, v.oneCell' = true := by rw [← hcse]; exact isEncP.flat_one xs
  have hov : ∀ lb cb, (callFunc 39 #[.slice (some ⟨vb, 0, none⟩) 1 1, .slice (some ⟨g, 1, none⟩) lb cb]).run Try.prog w = .ok (.value (.bool false)) w := fun lb cb => by
    rw [run_callFunc_extern Try.func39 (by kernel_rfl) (by kernel_rfl) (by kernel_rfl) (e := Extern.SlicesOverlaps.overlaps #[55, 55] #[4]) (by kernel_rfl),
      Lib.run_overlaps_apart w 55 4 61 Try.underlying55 1 (fun w => by
        cases hi : Try.prog.info? 61 with
        | none => have := size61; rw [hi] at this; cases this
        | some i => have := size61; rw [hi] at this; simp at this; simp [sizeOf, typeInfo, hi, this]) ⟨vb, 0, none⟩ ⟨g, 1, none⟩ 1 1 lb cb hvg 61 61 1 c (by rw [World.shape?, hb]; rfl) (by rw [World.shape?, hg]; simp [hcs]) (by omega) (hb.frozen 0) (hb.frozen 1)]
    rfl
  have hcp1 : ∀ ty dc sc, (Builtin.copy_ #[55, 55] ty #[.slice (some ⟨g, 1, none⟩) n dc, .slice (some ⟨g, 0, none⟩) (n + 1) sc]).run Try.prog w.drew = .ok (goInt cs.length) (w.drew.setCells g 1 cs) := fun ty dc sc =>
    run_copy_cells w.drew 55 55 ty 61 g 1 n dc ⟨g, 0, none⟩ (n + 1) sc cs Try.underlying55 size61 (by rw [hcl]; show n = Nat.min (n + 1) n; simp only [Nat.min_def]; split <;> omega)
      (fun j v hj => by
        rw [Addr.add_lit, Nat.zero_add]
        have hjl := (List.getElem?_eq_some_iff.1 hj).1
        exact hg.at_ (by rw [← htake, List.getElem?_take_of_lt (by omega)] at hj; simpa using hj))
      (fun j hj => (Blk.there (W := w) (n := n) hg (o := 1) (by omega) j (by omega)).1) (fun j hj => hg.frozen _) h1c
  have K1 : Blk (w.drew.setCells g 1 cs) g 61 (over cur 1 cs) := Blk.over (W := w.drew) cs 1 w.drew cur hg.drew
  have F1 : Fr (· = g) w (w.drew.setCells g 1 cs) := (Fr.refl (· = g) w).drew.trans (fr_cells _ g cs 1)
  have hvb : Blk (w.drew.setCells g 1 cs) vb 61 #[ptr x] := hb.fr F1 hvg
  have hcp2 : ∀ ty dc, (Builtin.copy_ #[55, 55] ty #[.slice (some ⟨g, 0, none⟩) (n + 1) dc, .slice (some ⟨vb, 0, none⟩) 1 1]).run Try.prog (w.drew.setCells g 1 cs) = .ok (goInt [ptr x].length) ((w.drew.setCells g 1 cs).setCells g 0 [ptr x]) := fun ty dc =>
    run_copy_cells (w.drew.setCells g 1 cs) 55 55 ty 61 g 0 (n + 1) dc ⟨vb, 0, none⟩ 1 1 [ptr x] Try.underlying55 size61 (by show 1 = Nat.min 1 (n + 1); simp only [Nat.min_def]; split <;> omega)
      (fun j v hj => by rw [Addr.add_lit, Nat.zero_add]; exact hvb.at_ (by simpa using hj))
      (fun j hj => (Blk.there (W := w.drew.setCells g 1 cs) (n := n + 1) K1 (o := 0) (by rw [over_size]; omega) j (by simp at hj; omega)).1) (fun j hj => K1.frozen _) (fun v hv => by simp at hv; subst hv; rfl)
  have K2 : Blk ((w.drew.setCells g 1 cs).setCells g 0 [ptr x]) g 61 (over (over cur 1 cs) 0 [ptr x]) := Blk.over (W := w.drew.setCells g 1 cs) [ptr x] 0 (w.drew.setCells g 1 cs) (over cur 1 cs) K1
  have F2 : Fr (· = g) w ((w.drew.setCells g 1 cs).setCells g 0 [ptr x]) := F1.trans (fr_cells _ g [ptr x] 0)
  have htk : (over (over cur 1 cs) 0 [ptr x]).toList.take (n + 1) = ptr x :: cs := over_take hcl (by omega)
  have O : Hid (((w.drew.setCells g 1 cs).setCells g 0 [ptr x]).ownsRow base 61 1 (.slice (some ⟨g, 0, none⟩) (n + 1) c) (n + 1) (flatP (x :: xs)) ∧ Fr (· = g) w ((w.drew.setCells g 1 cs).setCells g 0 [ptr x])) := by
    refine ⟨⟨by rw [flatP_len]; simp [hl], .inr ⟨g, c, over (over cur 1 cs) 0 [ptr x], rfl, hbg, K2, hc, hcm, by rw [over_size, over_size, hcs, Nat.mul_one], ?_⟩⟩, F2⟩
    rw [Nat.mul_one, htk, ← hcse]; rfl
  have hw1 : IntKind.i64.wrap 1 = 1 := rfl
  have hb1 : (1 : Int) ≤ (n : Int) + 1 := by omega
  have hb0 : (0 : Int) ≤ (n : Int) + 1 := by omega
  have hc1 : ¬ c = 1 := by omega
  unfold maxLen at hcm
  clear h K1 F1 hvb K2 F2 htk htake hcse
  go_enter Try.func36, Try.ntmps36
  go_wp2_with (simp only [hov])
  refine wp_region_tail (fun _ => True) 8 (by kernel_rfl) trivial (fun hF => ?_)
  refine tail_free (i := 0) (v := ?_) rfl (by kernel_rfl) (by kernel_rfl) (by kernel_rfl) (by kernel_rfl) (fun _ _ _ h => h) (Or.inl ⟨by kernel_rfl, ?_⟩) (fun _ => hF) ?_
  rotate_left
  · intro wh hSw
    go_simp
    try with_reducible rfl
  try simp only [Act.put, List.getElem_toArray, List.getElem_cons_zero, List.getElem_cons_succ, List.setIfInBounds_toArray, List.set_cons_zero, List.set_cons_succ]
  refine tail_free (i := 1) (v := ?_) rfl (by kernel_rfl) (by kernel_rfl) (by kernel_rfl) (by kernel_rfl) (fun _ _ _ h => h) (Or.inl ⟨by kernel_rfl, ?_⟩) (fun _ => hF) ?_
  rotate_left
  · intro wh hSw
    go_simp
    try with_reducible rfl
  try simp only [Act.put, List.getElem_toArray, List.getElem_cons_zero, List.getElem_cons_succ, List.setIfInBounds_toArray, List.set_cons_zero, List.set_cons_succ]
  refine tail_free (i := 2) (v := ?_) rfl (by kernel_rfl) (by kernel_rfl) (by kernel_rfl) (by kernel_rfl) (fun _ _ _ h => h) (Or.inl ⟨by kernel_rfl, ?_⟩) (fun _ => hF) ?_
  rotate_left
  · intro wh hSw
    go_simp
    try with_reducible rfl
  try simp only [Act.put, List.getElem_toArray, List.getElem_cons_zero, List.getElem_cons_succ, List.setIfInBounds_toArray, List.set_cons_zero, List.set_cons_succ]
  refine tail_free (i := 3) (v := ?_) rfl (by kernel_rfl) (by kernel_rfl) (by kernel_rfl) (by kernel_rfl) (fun _ _ _ h => h) (Or.inl ⟨by kernel_rfl, ?_⟩) (fun _ => hF) ?_
  rotate_left
  · intro wh hSw
    go_simp
    try with_reducible rfl
  try simp only [Act.put, List.getElem_toArray, List.getElem_cons_zero, List.getElem_cons_succ, List.setIfInBounds_toArray, List.set_cons_zero, List.set_cons_succ]
  refine tail_free (i := 4) (v := ?_) rfl (by kernel_rfl) (by kernel_rfl) (by kernel_rfl) (by kernel_rfl) (fun _ _ _ h => h) (Or.inl ⟨by kernel_rfl, ?_⟩) (fun _ => hF) ?_
  rotate_left
  · intro wh hSw
    go_simp
    try with_reducible rfl
  try simp only [Act.put, List.getElem_toArray, List.getElem_cons_zero, List.getElem_cons_succ, List.setIfInBounds_toArray, List.set_cons_zero, List.set_cons_succ]
  refine tail_free (i := 5) (v := ?_) rfl (by kernel_rfl) (by kernel_rfl) (by kernel_rfl) (by kernel_rfl) (fun _ _ _ h => h) (Or.inl ⟨by kernel_rfl, ?_⟩) (fun _ => hF) ?_
  rotate_left
  · intro wh hSw
    go_simp
    try with_reducible rfl
  try simp only [Act.put, List.getElem_toArray, List.getElem_cons_zero, List.getElem_cons_succ, List.setIfInBounds_toArray, List.set_cons_zero, List.set_cons_succ]
  refine tail_free (i := 6) (v := ?_) rfl (by kernel_rfl) (by kernel_rfl) (by kernel_rfl) (by kernel_rfl) (fun _ _ _ h => h) (Or.inl ⟨by kernel_rfl, ?_⟩) (fun _ => hF) ?_
  rotate_left
  · intro wh hSw
    go_simp
    try with_reducible rfl
  try simp only [Act.put, List.getElem_toArray, List.getElem_cons_zero, List.getElem_cons_succ, List.setIfInBounds_toArray, List.set_cons_zero, List.set_cons_succ]
  refine tail_free (i := 7) (v := ?_) rfl (by kernel_rfl) (by kernel_rfl) (by kernel_rfl) (by kernel_rfl) (fun _ _ _ h => h) (Or.inl ⟨by kernel_rfl, ?_⟩) (fun _ => hF) ?_
  rotate_left
  · intro wh hSw
    go_simp
    try with_reducible rfl
  try simp only [Act.put, List.getElem_toArray, List.getElem_cons_zero, List.getElem_cons_succ, List.setIfInBounds_toArray, List.set_cons_zero, List.set_cons_succ]
  refine tail_ready (rs := [8]) (by kernel_rfl) (by simp) (AllReadyT.last rfl (by kernel_rfl) (fun K hK => ?_) AllReadyT.nil)
  clear hF
  refine step_copy_runI rfl _ _ 55 55 rfl _ _ rfl rfl (hcp1 _ _ _) ?_
  refine hK.out _ _ ?_
  clear hK K
  try simp only [Act.put, List.getElem_toArray, List.getElem_cons_zero, List.getElem_cons_succ, List.setIfInBounds_toArray, List.set_cons_zero, List.set_cons_succ]
  refine tail_done (by kernel_rfl) ?_ _
  go_wp2_with (at_builtin; refine wpList_copy_runI _ rfl _ _ 55 55 rfl _ _ rfl rfl (hcp2 _ _) ?_)
  go_ret
  exact ⟨_, rfl, O.out.1, O.out.2.mono (fun k _ hk => by rw [hk]; rfl), fun k hk => .inl hk⟩
set_option maxRecDepth 100000 in
set_option maxHeartbeats 1000000 in
theorem insert_grow (w : World) (base g n c x vb : Nat) (xs : List Nat) (h : w.ownsRow base 61 1 (.slice (some ⟨g, 0, none⟩) n c) n (flatP xs)) (hn : 0 < n) (hn32 : n ≤ 1000000) (hc : ¬ n + 1 ≤ c) (hb : Blk w vb 61 #[ptr x]) (hvg : vb ≠ g) (hbase : base ≤ w.heap.size) :
    Calls Try.prog 36 #[.slice (some ⟨g, 0, none⟩) n c, .int .i64 0, .slice (some ⟨vb, 0, none⟩) 1 1] w (InsSays w base (.slice (some ⟨g, 0, none⟩) n c) n x xs) := by
  obtain ⟨cur, hg, hbg, hnc, hcm, hcs, htake⟩ := own_blk h
  have hl : xs.length = n := by have := h.1; rw [flatP_len] at this; omega
  obtain ⟨cs, hcse⟩ : ∃ cs, flatP xs = cs := ⟨_, rfl⟩
  rw [hcse] at htake
  have hcl : cs.length = n := by rw [← hcse, flatP_len, hl]
  have h1c : ∀ v ∈ cs, v.oneCell' = true := by rw [← hcse]; exact isEncP.flat_one xs
  obtain ⟨i0, hi0, hz0, hzs, hzb⟩ := info_parts (P := Try.prog) (e := 61) (z := .pointer none) (size := 1) (bytes := 8) (by kernel_rfl)
  have hold : (Builtin.firstCells i0.size 0 (.slice (some ⟨g, 0, none⟩) 0 c)).run Try.prog w.drew = .ok ([] : List Value).toArray w.drew := by
    rw [hzs]
    exact run_firstCells_some w.drew 1 0 ⟨g, 0, none⟩ 0 c [] rfl (fun j v hj => by simp at hj)
  have hrz : ∀ ty, (Builtin.append_ #[55, 3] ty #[.slice (some ⟨g, 0, none⟩) 0 c, .int .i64 ((n : Int) + 1)]).run Try.prog w =
      .ok (.slice (some ⟨w.heap.size, 0, none⟩) (n + 1) (grownCap w (n + 1) c 61)) (w.drew.alloc (.cells (([] : List Value).toArray ++ Builtin.zeroCells (Value.pointer none).cells (n + 1) ++ Builtin.zeroCells (Value.pointer none).cells (grownCap w (n + 1) c 61 - (n + 1))) 61)) := fun ty => by
    have h := Lib.run_append_grow_zeros w 55 3 ty 61 i0 _ .i64 .i64 Try.underlying55 Try.underlying3 hi0 hz0 (some ⟨g, 0, none⟩) 0 c [] hold (n + 1) (by omega) (by omega) (by omega) (by omega) (by rw [hzb]; omega) (by rw [hzb]; exact growslice_fits (by omega) (by omega))
    rw [Nat.zero_add] at h
    exact h
  obtain ⟨G, hG⟩ : ∃ G, G = grownCap w (n + 1) c 61 := ⟨_, rfl⟩
  obtain ⟨ROW, hROW⟩ : ∃ ROW : Array Value, ROW = ([] : List Value).toArray ++ Builtin.zeroCells (Value.pointer none).cells (n + 1) ++ Builtin.zeroCells (Value.pointer none).cells (G - (n + 1)) := ⟨_, rfl⟩
  have hGn : n + 1 ≤ G := by rw [hG]; exact grownCap_ge w _ _ _
  have hG63 : G ≤ maxLen := by rw [hG]; exact grownCap_le_maxLen w (n + 1) c 61 (by unfold maxLen; omega)
  rw [← hG, ← hROW] at hrz
  have hRl : ROW.size = G := by
    rw [hROW]
    simp [Builtin.zeroCells, Value.cells]
    omega
  obtain ⟨s, Ss⟩ : ∃ s, w.heap.size = s := ⟨_, rfl⟩
  have K0 : Blk (w.drew.alloc (.cells ROW 61)) s 61 ROW := by rw [← Ss]; exact Blk.new w.drew 61 ROW
  have F0 : Fr (fun k => s ≤ k) w (w.drew.alloc (.cells ROW 61)) := ((Fr.refl _ w).drew).alloc _
  have hvb0 : Blk (w.drew.alloc (.cells ROW 61)) vb 61 #[ptr x] := hb.fr F0 (by have := hb.lt; omega)
  have hg0 : Blk (w.drew.alloc (.cells ROW 61)) g 61 cur := hg.fr F0 (by have := hg.lt; omega)
  have hgs : g ≠ s := by have := hg.lt; omega
  rw [Ss] at hrz
  obtain ⟨W1, hW1⟩ : ∃ W1, w.drew.alloc (.cells ROW 61) = W1 := ⟨_, rfl⟩
  rw [hW1] at hrz K0 F0 hvb0 hg0
  have hcpA : ∀ ty dc, (Builtin.copy_ #[55, 55] ty #[.slice (some ⟨s, 0, none⟩) (n + 1) dc, .slice (some ⟨vb, 0, none⟩) 1 1]).run Try.prog W1 = .ok (goInt [ptr x].length) (W1.setCells s 0 [ptr x]) := fun ty dc =>
    run_copy_cells W1 55 55 ty 61 s 0 (n + 1) dc ⟨vb, 0, none⟩ 1 1 [ptr x] Try.underlying55 size61 (by show 1 = Nat.min 1 (n + 1); simp only [Nat.min_def]; split <;> omega)
      (fun j v hj => by rw [Addr.add_lit, Nat.zero_add]; exact hvb0.at_ (by simpa using hj))
      (fun j hj => (Blk.there (W := W1) (n := n + 1) K0 (o := 0) (by omega) j (by simp at hj; omega)).1) (fun j hj => K0.frozen _) (fun v hv => by simp at hv; subst hv; rfl)
  have K2 : Blk (W1.setCells s 0 [ptr x]) s 61 (over ROW 0 [ptr x]) := Blk.over (W := W1) [ptr x] 0 W1 ROW K0
  have F2 : Fr (· = s) W1 (W1.setCells s 0 [ptr x]) := fr_cells _ s [ptr x] 0
  have hg2 : Blk (W1.setCells s 0 [ptr x]) g 61 cur := hg0.fr F2 hgs
  obtain ⟨W2, hW2⟩ : ∃ W2, W1.setCells s 0 [ptr x] = W2 := ⟨_, rfl⟩
  rw [hW2] at hcpA K2 F2 hg2
  have hcpB : ∀ ty dc sc, (Builtin.copy_ #[55, 55] ty #[.slice (some ⟨s, 1, none⟩) n dc, .slice (some ⟨g, 0, none⟩) n sc]).run Try.prog W2.drew = .ok (goInt cs.length) (W2.drew.setCells s 1 cs) := fun ty dc sc =>
    run_copy_cells W2.drew 55 55 ty 61 s 1 n dc ⟨g, 0, none⟩ n sc cs Try.underlying55 size61 (by rw [hcl]; show n = Nat.min n n; simp only [Nat.min_def]; split <;> omega)
      (fun j v hj => by
        rw [Addr.add_lit, Nat.zero_add]
        have hjl := (List.getElem?_eq_some_iff.1 hj).1
        exact hg2.drew.at_ (by rw [← htake, List.getElem?_take_of_lt (by omega)] at hj; simpa using hj))
      (fun j hj => (Blk.there (W := W2) (n := n) K2 (o := 1) (by rw [over_size]; omega) j (by omega)).1) (fun j hj => K2.frozen _) h1c
  have K3 : Blk (W2.drew.setCells s 1 cs) s 61 (over (over ROW 0 [ptr x]) 1 cs) := Blk.over (W := W2.drew) cs 1 W2.drew _ K2.drew
  have F3 : Fr (fun k => s ≤ k) w (W2.drew.setCells s 1 cs) := F0.trans ((F2.mono (fun k _ hk => by omega)).trans ((Fr.refl _ W2).drew.trans ((fr_cells W2.drew s cs 1).mono (fun k _ hk => by omega))))
  have htk : (over (over ROW 0 [ptr x]) 1 cs).toList.take (n + 1) = ptr x :: cs := over_take2 hcl (by omega)
  have O : Hid ((W2.drew.setCells s 1 cs).ownsRow base 61 1 (.slice (some ⟨s, 0, none⟩) (n + 1) G) (n + 1) (flatP (x :: xs)) ∧ Fr (fun k => s ≤ k) w (W2.drew.setCells s 1 cs)) := by
    refine ⟨⟨by rw [flatP_len]; simp [hl], .inr ⟨s, G, over (over ROW 0 [ptr x]) 1 cs, rfl, by omega, K3, hGn, hG63, by rw [over_size, over_size, hRl, Nat.mul_one], ?_⟩⟩, F3⟩
    rw [Nat.mul_one, htk, ← hcse]; rfl
  have hw1 : IntKind.i64.wrap 1 = 1 := rfl
  have hb1 : (1 : Int) ≤ (n : Int) + 1 := by omega
  have hb0 : (0 : Int) ≤ (n : Int) + 1 := by omega
  have hG1 : ¬ G = 1 := by omega
  have hlt : (c : Int) < (n : Int) + 1 := by omega
  unfold maxLen at hcm hG63
  clear hROW hG hold h K0 F0 hvb0 hg0 K2 F2 hg2 K3 F3 htk hb hg htake hcse hRl
  go_enter Try.func36, Try.ntmps36
  go_wp2_with (first
    | (at_builtin; refine Lib.wpList_append_run _ rfl _ _ _ _ rfl _ _ rfl rfl _ _ (hrz _) ?_)
    | (at_builtin; refine wpList_copy_runI _ rfl _ _ 55 55 rfl _ _ rfl rfl (hcpA _ _) ?_))
  refine wp_region_tail (fun _ => True) 8 (by kernel_rfl) trivial (fun hF => ?_)
  refine tail_free (i := 0) (v := ?_) rfl (by kernel_rfl) (by kernel_rfl) (by kernel_rfl) (by kernel_rfl) (fun _ _ _ h => h) (Or.inl ⟨by kernel_rfl, ?_⟩) (fun _ => hF) ?_
  rotate_left
  · intro wh hSw
    go_simp
    try with_reducible rfl
  try simp only [Act.put, List.getElem_toArray, List.getElem_cons_zero, List.getElem_cons_succ, List.setIfInBounds_toArray, List.set_cons_zero, List.set_cons_succ]
  refine tail_free (i := 1) (v := ?_) rfl (by kernel_rfl) (by kernel_rfl) (by kernel_rfl) (by kernel_rfl) (fun _ _ _ h => h) (Or.inl ⟨by kernel_rfl, ?_⟩) (fun _ => hF) ?_
  rotate_left
  · intro wh hSw
    go_simp
    try with_reducible rfl
  try simp only [Act.put, List.getElem_toArray, List.getElem_cons_zero, List.getElem_cons_succ, List.setIfInBounds_toArray, List.set_cons_zero, List.set_cons_succ]
  refine tail_free (i := 2) (v := ?_) rfl (by kernel_rfl) (by kernel_rfl) (by kernel_rfl) (by kernel_rfl) (fun _ _ _ h => h) (Or.inl ⟨by kernel_rfl, ?_⟩) (fun _ => hF) ?_
  rotate_left
  · intro wh hSw
    go_simp
    try with_reducible rfl
  try simp only [Act.put, List.getElem_toArray, List.getElem_cons_zero, List.getElem_cons_succ, List.setIfInBounds_toArray, List.set_cons_zero, List.set_cons_succ]
  refine tail_free (i := 3) (v := ?_) rfl (by kernel_rfl) (by kernel_rfl) (by kernel_rfl) (by kernel_rfl) (fun _ _ _ h => h) (Or.inl ⟨by kernel_rfl, ?_⟩) (fun _ => hF) ?_
  rotate_left
  · intro wh hSw
    go_simp
    try with_reducible rfl
  try simp only [Act.put, List.getElem_toArray, List.getElem_cons_zero, List.getElem_cons_succ, List.setIfInBounds_toArray, List.set_cons_zero, List.set_cons_succ]
  refine tail_free (i := 4) (v := ?_) rfl (by kernel_rfl) (by kernel_rfl) (by kernel_rfl) (by kernel_rfl) (fun _ _ _ h => h) (Or.inl ⟨by kernel_rfl, ?_⟩) (fun _ => hF) ?_
  rotate_left
  · intro wh hSw
    go_simp
    try with_reducible rfl
  try simp only [Act.put, List.getElem_toArray, List.getElem_cons_zero, List.getElem_cons_succ, List.setIfInBounds_toArray, List.set_cons_zero, List.set_cons_succ]
  refine tail_free (i := 5) (v := ?_) rfl (by kernel_rfl) (by kernel_rfl) (by kernel_rfl) (by kernel_rfl) (fun _ _ _ h => h) (Or.inl ⟨by kernel_rfl, ?_⟩) (fun _ => hF) ?_
  rotate_left
  · intro wh hSw
    go_simp
    try with_reducible rfl
  try simp only [Act.put, List.getElem_toArray, List.getElem_cons_zero, List.getElem_cons_succ, List.setIfInBounds_toArray, List.set_cons_zero, List.set_cons_succ]
  refine tail_free (i := 6) (v := ?_) rfl (by kernel_rfl) (by kernel_rfl) (by kernel_rfl) (by kernel_rfl) (fun _ _ _ h => h) (Or.inl ⟨by kernel_rfl, ?_⟩) (fun _ => hF) ?_
  rotate_left
  · intro wh hSw
    go_simp
    try with_reducible rfl
  try simp only [Act.put, List.getElem_toArray, List.getElem_cons_zero, List.getElem_cons_succ, List.setIfInBounds_toArray, List.set_cons_zero, List.set_cons_succ]
  refine tail_free (i := 7) (v := ?_) rfl (by kernel_rfl) (by kernel_rfl) (by kernel_rfl) (by kernel_rfl) (fun _ _ _ h => h) (Or.inl ⟨by kernel_rfl, ?_⟩) (fun _ => hF) ?_
  rotate_left
  · intro wh hSw
    go_simp
    try with_reducible rfl
  try simp only [Act.put, List.getElem_toArray, List.getElem_cons_zero, List.getElem_cons_succ, List.setIfInBounds_toArray, List.set_cons_zero, List.set_cons_succ]
  refine tail_ready (rs := [8]) (by kernel_rfl) (by simp) (AllReadyT.last rfl (by kernel_rfl) (fun K hK => ?_) AllReadyT.nil)
  clear hF
  refine step_copy_runI rfl _ _ 55 55 rfl _ _ rfl rfl (hcpB _ _ _) ?_
  refine hK.out _ _ ?_
  clear hK K
  try simp only [Act.put, List.getElem_toArray, List.getElem_cons_zero, List.getElem_cons_succ, List.setIfInBounds_toArray, List.set_cons_zero, List.set_cons_succ]
  refine tail_done (by kernel_rfl) ?_ _
  go_wp2
  go_ret
  exact ⟨_, rfl, O.out.1, fr_own O.out.2 (by omega), fun k hk => .inr (by have e : s = k := Option.some.inj hk; omega)⟩
/-- A pointer put ahead. -/
theorem insert_any (w : World) (base : Nat) (v : Value) (n x vb : Nat) (xs : List Nat) (h : w.ownsRow base 61 1 v n (flatP xs)) (hn32 : n ≤ 1000000) (hb : Blk w vb 61 #[ptr x]) (hvb : v.ownBlock ≠ some vb) (hbase : base ≤ w.heap.size) :
    Calls Try.prog 36 #[v, .int .i64 0, .slice (some ⟨vb, 0, none⟩) 1 1] w (InsSays w base v n x xs) := by
  have hl : xs.length = n := by have := h.1; rw [flatP_len] at this; omega
  rcases Nat.eq_zero_or_pos n with h0 | h0
  · subst h0
    obtain ⟨A, c, rfl⟩ := slice_of_own h
    have hx : xs = [] := List.eq_nil_of_length_eq_zero hl
    subst hx
    exact insert_nil w base A c x vb h hb hbase
  · obtain ⟨g, c, rfl, _, _⟩ := own_pos h h0
    have hvg : vb ≠ g := fun e => hvb (by rw [e]; rfl)
    by_cases hc : n + 1 ≤ c
    · exact insert_room w base g n c x vb xs h h0 hc hb hvg
    · exact insert_grow w base g n c x vb xs h h0 hn32 hc hb hvg hbase
end Go.Proofs.Ytpjjcihhmhccfaa
